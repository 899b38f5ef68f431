/- Written by a program of ours (gen.py) out of short specifications. By an AI agent. -/
import Derived.Test.YtkhnecelhpnaoaaGreatDoorFracs1
import Derived.Test.YtkhnecelhpnaoaaGreatDoorFxB
import Derived.Test.YtkhnecelhpnaoaaGreatDoorFxC
import Derived.Test.YtkhnecelhpnaoaaGreatDoorFxM
set_option linter.unusedVariables false
set_option linter.unusedSimpArgs false
set_option maxRecDepth 4000
namespace Go.Proofs.YtkhnecelhpnaoaaGreatDoor
open Go Go.Proofs Go.Fx
attribute [local irreducible] Oper.wp Code.wp wpList Fx.Head wpOp
section
theorem fa_172_0 (b off : Nat) (w : World) : (Instr.fieldAt 172 (.pointer (some ⟨b, off, none⟩)) 0).run Tryz.prog w = .ok (.pointer (some ⟨b, off + 0, none⟩)) w := by
  simp [go_sem]
theorem len_slice_56 (a : Option Addr) (n c : Nat) (w : World) (ty : TypeId) (cs : Array Bool) : (Go.builtin .len #[56] ty cs #[.slice a n c]).run Tryz.prog w = .ok (.value (.int .i64 n)) w := by
  simp [go_sem]
theorem ix_56 (b off n c j : Nat) (h : j < n) (w : World) : (Instr.indexAt 56 (.slice (some ⟨b, off, none⟩) n c) (.int .i64 (j : Int))).run Tryz.prog w = .ok (.pointer (some ⟨b, off + j * 5, none⟩)) w := by
  simpa using indexAt_slice Tryz.runUnderlying56 Tryz.sizeOf52 b off n c j h w
theorem zeroQ (w : World) : (zeroValue 52).run Tryz.prog w = .ok (encQ 0) w := Tryz.zeroValue52 w
theorem zeroN (w : World) : (zeroValue 46).run Tryz.prog w = .ok (encN 0) w := Tryz.zeroValue46 w
theorem zeroZ (w : World) : (zeroValue 50).run Tryz.prog w = .ok (encZ 0) w := Tryz.zeroValue50 w
abbrev encP (p : Rat × Rat × Rat) : Value := .agg #[.int .u64 (lowN p.1.num.natAbs), .string (bigN p.1.num.natAbs), .bool (decide (p.1.num < 0)), .int .u64 (lowN (p.1.den - 1)), .string (bigN (p.1.den - 1)),
  .int .u64 (lowN p.2.1.num.natAbs), .string (bigN p.2.1.num.natAbs), .bool (decide (p.2.1.num < 0)), .int .u64 (lowN (p.2.1.den - 1)), .string (bigN (p.2.1.den - 1)),
  .int .u64 (lowN p.2.2.num.natAbs), .string (bigN p.2.2.num.natAbs), .bool (decide (p.2.2.num < 0)), .int .u64 (lowN (p.2.2.den - 1)), .string (bigN (p.2.2.den - 1))]
theorem zeroP (w : World) : (zeroValue 62).run Tryz.prog w = .ok (encP (0, 0, 0)) w := Tryz.zeroValue62 w
theorem encQ_iff {x y : Rat} : (lowN x.num.natAbs = lowN y.num.natAbs ∧ bigN x.num.natAbs = bigN y.num.natAbs ∧ decide (x.num < 0) = decide (y.num < 0) ∧ lowN (x.den - 1) = lowN (y.den - 1) ∧ bigN (x.den - 1) = bigN (y.den - 1)) ↔ x = y := by
  constructor
  · rintro ⟨h1, h2, h3, h4, h5⟩
    have e1 := enc_inj h1 h2
    have e2 := enc_inj h4 h5
    have := x.den_pos
    have := y.den_pos
    refine Rat.ext ?_ (by omega)
    have h3' : (x.num < 0) ↔ (y.num < 0) := decide_eq_decide.1 h3
    omega
  · rintro rfl; exact ⟨rfl, rfl, rfl, rfl, rfl⟩
theorem str_eq (n m : Nat) : ((bigN n).toList = (bigN m).toList) ↔ bigN n = bigN m := by have := toList_beq (bigN n) (bigN m); rw [Bool.eq_iff_iff] at this; simpa using this
theorem run_eqQ (X Y : Operand) (x y : Rat) (w : World) : (do eqGuard .eql 52 X Y (encQ x) (encQ y); Go.binOp .eql 52 (encQ x) (encQ y) : Sem Value).run Tryz.prog w = .ok (.bool (decide (x = y))) w := by
  simp [go_sem]
  have hq := @encQ_iff x y
  rw [decide_eq_decide] at hq
  simp only [← str_eq] at hq
  by_cases e : x = y
  · obtain ⟨h1, h2, h3, h4, h5⟩ := hq.2 e
    rw [if_pos h1, if_pos h2, if_pos h3, if_pos h4, if_pos h5]; simp [e]
  · rw [show decide (x = y) = false from by simp [e]]
    (repeat' split) <;> first | rfl | (exact absurd (hq.1 ⟨‹_›, ‹_›, ‹_›, ‹_›, ‹_›⟩) e)
theorem run_neQ (X Y : Operand) (x y : Rat) (w : World) : (do eqGuard .neq 52 X Y (encQ x) (encQ y); Go.binOp .neq 52 (encQ x) (encQ y) : Sem Value).run Tryz.prog w = .ok (.bool (!decide (x = y))) w := by
  simp [go_sem]
  have hq := @encQ_iff x y
  rw [decide_eq_decide] at hq
  simp only [← str_eq] at hq
  by_cases e : x = y
  · obtain ⟨h1, h2, h3, h4, h5⟩ := hq.2 e
    rw [if_pos h1, if_pos h2, if_pos h3, if_pos h4, if_pos h5]; simp [e]
  · rw [show decide (x = y) = false from by simp [e]]
    (repeat' split) <;> first | rfl | (exact absurd (hq.1 ⟨‹_›, ‹_›, ‹_›, ‹_›, ‹_›⟩) e)
theorem nestQ {α : Type} (x y : Rat) (A B : α) : (if lowN x.num.natAbs = lowN y.num.natAbs then if (bigN x.num.natAbs).toList = (bigN y.num.natAbs).toList then if x.num < 0 ↔ y.num < 0 then if lowN (x.den - 1) = lowN (y.den - 1) then
    if (bigN (x.den - 1)).toList = (bigN (y.den - 1)).toList then A else B else B else B else B else B) = if x = y then A else B := by
  have hq := @encQ_iff x y
  rw [decide_eq_decide] at hq
  simp only [← str_eq] at hq
  by_cases e : x = y
  · obtain ⟨h1, h2, h3, h4, h5⟩ := hq.2 e
    rw [if_pos h1, if_pos h2, if_pos h3, if_pos h4, if_pos h5, if_pos e]
  · rw [if_neg e]
    (repeat' split) <;> first | rfl | (exact absurd (hq.1 ⟨‹_›, ‹_›, ‹_›, ‹_›, ‹_›⟩) e)
theorem eqIn9999 (x y : Rat) (w : World) : (Op.equalIn 9999 52 (encQ x) (encQ y)).run Tryz.prog w = .ok (decide (x = y)) w := by
  simp [go_sem]
  rw [nestQ]; split <;> simp [*]
theorem run_eqP (X Y : Operand) (x y : Rat × Rat × Rat) (w : World) : (do eqGuard .eql 62 X Y (encP x) (encP y); Go.binOp .eql 62 (encP x) (encP y) : Sem Value).run Tryz.prog w = .ok (.bool (decide (x = y))) w := by
  obtain ⟨x1, x2, x3⟩ := x
  obtain ⟨y1, y2, y3⟩ := y
  simp [go_sem]
  rw [show (10000:Nat) = 9999+1 from rfl, Op.equalIn]
  simp only [go_sem, Sem.run_bind]
  simp [go_sem, List.range', eqIn9999]
  rw [nestQ, nestQ]
  by_cases e1 : x1 = y1 <;> by_cases e2 : x2 = y2 <;> by_cases e3 : x3 = y3 <;> simp [e1, e2, e3]
theorem lenQ_neg (x : Rat) : lenQ (-x) = lenQ x := by simp [lenQ, lenZ, Rat.neg_num, Rat.neg_den]
theorem lenQ_sub (x y : Rat) : lenQ (x - y) ≤ lenQ x + lenQ y + 1 := by rw [Rat.sub_eq_add_neg]; have := lenQ_add x (-y); rw [lenQ_neg] at this; exact this
theorem lenQ_int (n : Int) (h0 : -9223372036854775808 ≤ n) (h1 : n ≤ 9223372036854775807) : lenQ ((n : Int) : Rat) ≤ 2 := by
  have : (wds n.natAbs).length ≤ 2 := wds_small (by omega)
  unfold lenQ lenZ
  rw [Rat.num_intCast, Rat.den_intCast]
  have h2 : (wds 1).length ≤ 2 := wds_small (by decide)
  omega
theorem lenQ_zero : lenQ 0 ≤ 2 := lenQ_int 0 (by omega) (by omega)
theorem lenQ_inv (y : Rat) : lenQ y⁻¹ ≤ lenQ y := by
  by_cases hy : y = 0
  · subst hy; rw [Rat.inv_zero]; exact Nat.le_refl _
  · rw [← inv_mkRat y hy]
    have h0 : y.num ≠ 0 := fun h => hy (Rat.num_eq_zero.1 h)
    have := lenQ_mkRat (sgZ (decide (y.num.sign < 0)) y.den) y.num.natAbs (by omega)
    unfold lenZ at this
    rw [sgZ_abs] at this
    unfold lenQ lenZ at *
    omega
theorem lenQ_div (x y : Rat) : lenQ (x / y) ≤ lenQ x + lenQ y := by
  rw [Rat.div_def]; have := lenQ_mul x y⁻¹; have := lenQ_inv y; omega
theorem lenQ_of (n d : Int) (h0 : -9223372036854775808 ≤ n) (h1 : n ≤ 9223372036854775807) (h2 : -9223372036854775808 ≤ d) (h3 : d ≤ 9223372036854775807) : lenQ ((n : Rat) / (d : Rat)) ≤ 4 := by
  have := lenQ_div (n : Rat) (d : Rat); have := lenQ_int n h0 h1; have := lenQ_int d h2 h3; omega
abbrev encn (k : Nat) : Value := .int .i64 (k : Int)
theorem getD_mem {α : Type} (l : List α) {i : Nat} {d : α} (h : i < l.length) : l.getD i d ∈ l := by
  simp only [List.getD, List.getElem?_eq_getElem h, Option.getD_some]; exact List.getElem_mem h
theorem foldl_take_succ {α β : Type} {f : β → α → β} (l : List α) (s : β) (i : Nat) (d : α) (h : i < l.length) : (l.take (i + 1)).foldl f s = f ((l.take i).foldl f s) (l.getD i d) := by
  rw [List.take_add_one, List.getElem?_eq_getElem h, List.foldl_append]
  simp [List.getD, List.getElem?_eq_getElem h]
theorem num_neg_lt (x : Rat) : -x.num = (-x).num := (Rat.neg_num x).symm

theorem C_QNeg (x : Rat) : CtrV Tryz.prog 57 [encQ x] (encQ (-x)) := by
  refine fn_intro Tryz.func57 rfl Tryz.ntmps57 nb ?_
  intro S w0 a hS h
  refine gC h (zs (zr (zx rfl fun b1 => zz zeroQ fun b2 => zn (zs (yD mixed_YtkhnecelhpnaoaaGreatDoor [0, 1, 3, 4, 2, 5, 6] (floatsOK_none (by kernel_rfl)) (yp rfl (.fieldAddr rfl (fa_52_0 _ _)) (yd rfl rfl mr Tryz.isAgg50 Tryz.sizeOf50 (rd_5_0_3 _ _ _ _ _) ?_))))))); clear h
  refine yp rfl (.fieldAddr rfl (fa_52_1 _ _)) (yd rfl rfl mr Tryz.isAgg46 Tryz.sizeOf46 (rd_5_3_2 _ _ _ _ _) ?_)
  refine yv [_] rfl rfl Tryz.call122 (C_ZNeg x.num) (yp rfl (.build [(_, _), (_, _)] rfl (bd_52_0_1 _ _ _ _ _)) (yt rfl rfl rfl (st_5_0_5 _ _ _ _ _ _ _ _ _ _) uu Tryz.sizeOf52 rfl nb rfl ?_))
  refine yn (zt ?_); intro a w h
  refine retV h (results1 h rfl (.cell rfl mr Tryz.isAgg52 Tryz.sizeOf52 (rd_5_0_5 _ _ _ _ _))) ?_
  unfold encQ; rw [Rat.neg_num, Rat.neg_den]

theorem C_QSub (x y : Rat) (ha : lenQ x ≤ 10000000000) (hb : lenQ y ≤ 10000000000) : CtrV Tryz.prog 58 [encQ x, encQ y] (encQ (x - y)) := by
  refine fn_intro Tryz.func58 rfl Tryz.ntmps58 nb ?_
  intro S w0 a hS h
  refine gC h (zs (zr (zx rfl fun b2 => zx rfl fun b3 => zz zeroQ fun b4 => zn (zs (yD mixed_YtkhnecelhpnaoaaGreatDoor [0, 1, 2, 3, 4] (floatsOK_none (by kernel_rfl)) (yd rfl rfl mr Tryz.isAgg52 Tryz.sizeOf52 (rd_5_0_5 _ _ _ _ _) ?_)))))); clear h
  refine yd rfl rfl mr Tryz.isAgg52 Tryz.sizeOf52 (rd_5_0_5 _ _ _ _ _) ?_
  refine yv [_] rfl rfl Tryz.call57 (C_QNeg _) ?_
  have hl7 := lenQ_neg (y)
  refine yv [_, _] rfl rfl Tryz.call22 (C_QAdd _ _ (by omega) (by omega)) ?_
  have hl8 := lenQ_add (x) (-y)
  refine yt rfl rfl rfl (st_5_0_5 _ _ _ _ _ _ _ _ _ _) uu Tryz.sizeOf52 rfl nb rfl ?_
  refine yn (zt ?_); intro a w h
  refine retV h (results1 h rfl (.cell rfl mr Tryz.isAgg52 Tryz.sizeOf52 (rd_5_0_5 _ _ _ _ _))) ?_
  rw [← Rat.sub_eq_add_neg]

theorem C_tadd (b : Nat) (s x : Rat) (σ : List (Nat × Obj)) (Φ : List SPred) (hs : lenQ s ≤ 10000000000) (hx : lenQ x ≤ 10000000000) :
    CtrM Tryz.prog 112 [.pointer (some ⟨b, 0, none⟩), encQ x] ((b, .cells (encQ s).cells 172 (0, 0)) :: σ) Φ (fun v σ' Φ' => v = .tuple #[] ∧ σ' = (b, .cells (encQ (s + x)).cells 172 (0, 0)) :: σ ∧ Φ' = Φ) := by
  refine fn_introM Tryz.func112 rfl Tryz.ntmps112 nb ?_
  intro S w0 a w hS h
  refine gC h (zs (zr (zx rfl fun b3 => zn (yD mixed_YtkhnecelhpnaoaaGreatDoor [0, 1, 2, 3, 4, 5, 6, 7, 8, 9] (floatsOK_none (by kernel_rfl)) (yp rfl (.move rfl) (yp rfl (.move rfl) (yp rfl (.nilCheck rfl) (yp rfl (.fieldAddr rfl (fa_172_0 _ _)) (yd rfl rfl mr Tryz.isAgg52 Tryz.sizeOf52 (rd_5_0_5 _ _ _ _ _) ?_))))))))); clear h
  refine yd rfl rfl mr Tryz.isAgg52 Tryz.sizeOf52 (rd_5_0_5 _ _ _ _ _) ?_
  refine yv [_, _] rfl rfl Tryz.call22 (C_QAdd _ _ (by omega) (by omega)) ?_
  have hl10 := lenQ_add (s) (x)
  refine yp rfl (.nilCheck rfl) (yp rfl (.fieldAddr rfl (fa_172_0 _ _)) (yt rfl rfl rfl (st_5_0_5 _ _ _ _ _ _ _ _ _ _) uu Tryz.sizeOf52 rfl nb rfl ?_))
  refine yn ?_; intro a w h
  refine endM h (results0 rfl) ⟨rfl, rfl, rfl⟩ (List.sublist_cons_self _ _) (fun _ h => h)

theorem C_each_add (b : Nat) (s : Rat) (ad : Option Addr) (c : Nat) (l : List Rat) (σ : List (Nat × Obj)) (Φ : List SPred) (hn : l.length ≤ 1000000) (hs : lenQ s ≤ 1000000) (hx : ∀ x ∈ l, lenQ x ≤ 1000) (hR : Row ad (cellsOf encQ l) ∈ Φ) :
    CtrM Tryz.prog 111 [.func (.func 112) #[.pointer (some ⟨b, 0, none⟩)] #[], .slice ad l.length c] ((b, .cells (encQ s).cells 172 (0, 0)) :: σ) Φ (fun v σ' Φ' => v = .tuple #[] ∧ σ' = (b, .cells (encQ (l.foldl (· + ·) s)).cells 172 (0, 0)) :: σ ∧ Φ' = Φ) := by
  refine fn_introM Tryz.func111 rfl Tryz.ntmps111 nb ?_
  intro S w0 a w hS h
  refine gC h (zs (zr (zm rfl (zp (.builtin [_] rfl (len_slice_56 _ _ _)) (zm rfl (zn (zb ?_))))))); clear h; intro a w h
  refine wp_loop_inv (fun (i : Nat) a w => i ≤ l.length ∧ (lenQ ((l.take i).foldl (· + ·) s) ≤ 1000000 + 1001 * i) ∧ St 16 S w0 [(0, .func (.func 112) #[.pointer (some ⟨b, 0, none⟩)] #[]), (6, .slice ad l.length c), (7, .int .i64 ((l.length : Nat) : Int)), (8, .int .i64 ((i : Nat) : Int))] ((b, .cells (Value.cells (encQ ((l.take i).foldl (· + ·) s))) 172 (0, 0)) :: σ) (Φ) a w) (fun i => l.length - i) 0 (⟨Nat.zero_le _, by simpa using hs, by exact (h).sub (subL ⟨rfl, rfl, rfl, rfl, trivial⟩)⟩) ?_; clear h
  rintro i a w ⟨hi_i, hinv_i, h⟩
  refine gC h (zs (zr (zp (.lss rfl rfl) (zn (zs ?_))))); clear h; intro a w h
  refine cond_split h rfl (fun hc9 => ?_) (fun hc9 => ?_)
  · skip
    have hlt_i : i < l.length := by have := of_decide_eq_true hc9; omega
    obtain ⟨B_ad, O_ad, rfl⟩ := h.row_addr (ad := ad) (M := cellsOf encQ l) mm (by intro e; have := congrArg List.length e; rw [cellsOf_length (k := 5) (fun _ => rfl)] at this; simp only [List.length_nil, Nat.mul_eq_zero] at this; omega)
    have hl := hx (l.getD i 0) (getD_mem _ hlt_i)
    have hsum := foldl_take_succ (f := (· + ·)) l s i 0 hlt_i
    have hla := lenQ_add ((l.take i).foldl (· + ·) s) (l.getD i 0)
    refine gC h (zk (zs (zb (zs (zr (zp (.indexAddr rfl rfl (ix_56 _ _ _ _ _ (by omega))) (zD rfl mm (cells_lt (k := 5) (by decide) (fun _ => rfl) l i (by omega)) Tryz.isAgg52 Tryz.sizeOf52 (read_cells (k := 5) (fun _ => rfl) ((fun _ => rfl)) l 0 i (by omega)) (.inl rfl) ?_))))))); clear h; intro a w h
    refine gL h (zz zeroQ fun b5 => zt' rfl rfl (st_5_0_5 _ _ _ _ _ _ _ _ _ _) uu Tryz.sizeOf52 rfl nb rfl ?_); clear h; intro a w h
    refine gL h (zn (zr (zm rfl (zd rfl mr Tryz.isAgg52 Tryz.sizeOf52 (rd_5_0_5 _ _ _ _ _) ?_)))); clear h; intro a w h
    refine wpl_plain (op_callMx h hS (fs := [.pointer (some ⟨b, 0, none⟩)]) (cs := []) rfl (vs := [_]) rfl Tryz.call112 (C_tadd b ((l.take i).foldl (· + ·) s) (l.getD i 0) ((b5, _) :: σ) Φ (by omega) (by omega)) (List.Perm.swap _ _ _) (by simp) (by simp) ?_); clear h; rintro v14 σ14 Ψ14 a w ⟨rfl, rfl, rfl⟩ h
    refine gL h (zn (zr (zp (Pure1.cast (v' := (.int .i64 ((i + 1 : Nat) : Int))) (.add rfl rfl) (by show Value.int _ _ = Value.int _ _; congr 1)) (zm rfl (zn ?_))))); clear h; intro a w h
    rw [← hsum] at h
    exact ⟨i + 1, ⟨by omega, by rw [hsum]; omega, (h.drop sl).sub sA⟩, by omega⟩
  · skip
    have heq_i : l.length = i := by have := of_decide_eq_false hc9; omega
    subst heq_i
    refine wp_exit ?_
    refine endM h (results0 rfl) ⟨rfl, by rw [List.take_length], rfl⟩ (List.Sublist.refl _) (fun _ h => h)

theorem C_QSum (ad : Option Addr) (c : Nat) (l : List Rat) (hn : l.length ≤ 1000000) (hx : ∀ x ∈ l, lenQ x ≤ 1000) :
    CtrW Tryz.prog 45 [.slice ad l.length c] [Row ad (cellsOf encQ l)] (encQ (l.foldl (· + ·) 0)) := by
  refine fn_intro Tryz.func45 rfl Tryz.ntmps45 nb ?_
  intro S w0 a hS h
  refine gC h (zs (zr (zz zeroQ fun b2 => zn (zs (zr (zz Tryz.zeroValue172 fun b3 => zn (zs (zr (zp (.makeFunc [_] [] rfl rfl) (zm rfl ?_)))))))))); clear h; intro a w h
  refine wpl_plain (op_callM h hS (vs := [_, _]) rfl Tryz.call111 (C_each_add b3 0 ad c l [(b2, _)] [Row ad (cellsOf encQ l)] hn (Nat.le_trans lenQ_zero (by decide)) hx List.mem_cons_self) (List.Perm.refl _) (by simp) (by simp) ?_); clear h; rintro v6 σ6 Ψ6 a w ⟨rfl, rfl, rfl⟩ h
  refine gL h (zn (zs (zr (zp (.fieldAddr rfl (fa_172_0 _ _)) (zd rfl mr Tryz.isAgg52 Tryz.sizeOf52 (rd_5_0_5 _ _ _ _ _) ?_))))); clear h; intro a w h
  refine gL h (zt' rfl rfl (st_5_0_5 _ _ _ _ _ _ _ _ _ _) uu Tryz.sizeOf52 rfl nb rfl ?_); clear h; intro a w h
  refine wpList_nil (wp_ret ?_)
  refine retV h (results1 h rfl (.cell rfl mr Tryz.isAgg52 Tryz.sizeOf52 (rd_5_0_5 _ _ _ _ _))) ?_
  rfl

theorem C_QOf (n d : Int) (h0 : -9223372036854775808 ≤ n) (h1 : n ≤ 9223372036854775807) (h2 : -9223372036854775808 ≤ d) (h3 : d ≤ 9223372036854775807) (hd : d ≠ 0) :
    CtrV Tryz.prog 80 [.int .i64 n, .int .i64 d] (.tuple #[encQ ((n : Rat) / (d : Rat)), .int .i64 0]) := by
  refine fn_intro Tryz.func80 rfl Tryz.ntmps80 nb ?_
  intro S w0 a hS h
  refine gC h (zs (zr (zz zeroQ fun b4 => za rfl (zn (zs (zr (zm rfl (zv [_] rfl Tryz.call28 (C_QInt _ (by omega) (by omega)) ?_)))))))); clear h; intro a w h
  have hl7 := lenQ_int (n) (by omega) (by omega)
  refine gL h (zm rfl (zv [_] rfl Tryz.call28 (C_QInt _ (by omega) (by omega)) ?_)); clear h; intro a w h
  have hl9 := lenQ_int (d) (by omega) (by omega)
  refine gL h (zv [_, _] rfl Tryz.call97 (C_QDiv _ _ (by exact fun e => hd (Rat.intCast_eq_zero_iff.1 e)) (by omega) (by omega)) (zp (.extract rfl (fun _ => rfl)) (zp (.extract rfl (fun _ => rfl)) (zt' rfl rfl (st_5_0_5 _ _ _ _ _ _ _ _ _ _) uu Tryz.sizeOf52 rfl nb rfl ?_)))); clear h; intro a w h
  refine gL h (za rfl (zn (zt ?_))); clear h; intro a w h
  refine retV h (results2 h rfl (.cell rfl mr Tryz.isAgg52 Tryz.sizeOf52 (rd_5_0_5 _ _ _ _ _)) (.tmp rfl)) ?_
  rfl
end
section
theorem sls_9 (x : ByteArray) (lo hi : Nat) (h1 : lo ≤ hi) (h2 : hi ≤ x.size) (w : World) : (Instr.sliceAt 9 (.string x) (some (.int .i64 (lo : Int))) (some (.int .i64 (hi : Int))) none).run Tryz.prog w = .ok (.string (x.extract lo hi)) w := sliceAt_str Tryz.runUnderlying9 x lo hi h1 h2 w
theorem cv_44_3 (x : Int) (w : World) : (Go.convert 44 3 (.int .u64 x)).run Tryz.prog w = .ok (.int .i64 (IntKind.i64.wrap x)) w := by
  simp [go_sem]
theorem cv_44_3b (x : Int) (h0 : IntKind.i64.wrap x = x) (w : World) : (Go.convert 44 3 (.int .u64 x)).run Tryz.prog w = .ok (.int .i64 x) w := by
  rw [cv_44_3, h0]
/-- The decimal digits of a number below 100. -/
def digS (n : Nat) : ByteArray := if n < 10 then ⟨#[UInt8.ofNat (48 + n)]⟩ else ⟨#[UInt8.ofNat (48 + n / 10), UInt8.ofNat (48 + n % 10)]⟩
def textZ (z : Int) : ByteArray := if z < 0 then ⟨#[45]⟩ ++ digS z.natAbs else digS z.natAbs
def textQ (x : Rat) : ByteArray := if x.den = 1 then textZ x.num else textZ x.num ++ ⟨#[47]⟩ ++ digS x.den
def textU (l : List Rat) : Nat → ByteArray
  | 0 => ⟨#[]⟩
  | i + 1 => (if 0 < i then textU l i ++ ⟨#[32]⟩ else textU l i) ++ textQ (l.getD i 0)
theorem digS_size (n : Nat) : (digS n).size ≤ 2 := by unfold digS; split <;> simp [ByteArray.size]
theorem textZ_size (z : Int) : (textZ z).size ≤ 3 := by
  unfold textZ; have := digS_size z.natAbs
  split
  · rw [ByteArray.size_append]; have : (ByteArray.mk #[45]).size = 1 := rfl
    omega
  · omega
theorem textQ_size (x : Rat) : (textQ x).size ≤ 6 := by
  unfold textQ; have := digS_size x.den; have := textZ_size x.num
  split
  · omega
  · rw [ByteArray.size_append, ByteArray.size_append]; have : (ByteArray.mk #[47]).size = 1 := rfl
    omega
theorem textU_size (l : List Rat) : ∀ i, (textU l i).size ≤ 7 * i
  | 0 => Nat.le_refl _
  | i + 1 => by
    have h1 := textU_size l i
    have h2 := textQ_size (l.getD i 0)
    have h3 : (ByteArray.mk #[32]).size = 1 := rfl
    unfold textU
    split <;> simp only [ByteArray.size_append] <;> omega
def tab1 : ByteArray := ⟨#[48, 49, 50, 51, 52, 53, 54, 55, 56, 57, 97, 98, 99, 100, 101, 102, 103, 104, 105, 106, 107, 108, 109, 110, 111, 112, 113, 114, 115, 116, 117, 118, 119, 120, 121, 122]⟩
def tab2 : ByteArray := ⟨#[48, 48, 48, 49, 48, 50, 48, 51, 48, 52, 48, 53, 48, 54, 48, 55, 48, 56, 48, 57, 49, 48, 49, 49, 49, 50, 49, 51, 49, 52, 49, 53, 49, 54, 49, 55, 49, 56, 49, 57, 50, 48, 50, 49, 50, 50, 50, 51, 50, 52, 50, 53, 50, 54, 50, 55, 50, 56, 50, 57, 51, 48, 51, 49, 51, 50, 51, 51, 51, 52, 51, 53, 51, 54, 51, 55, 51, 56, 51, 57, 52, 48, 52, 49, 52, 50, 52, 51, 52, 52, 52, 53, 52, 54, 52, 55, 52, 56, 52, 57, 53, 48, 53, 49, 53, 50, 53, 51, 53, 52, 53, 53, 53, 54, 53, 55, 53, 56, 53, 57, 54, 48, 54, 49, 54, 50, 54, 51, 54, 52, 54, 53, 54, 54, 54, 55, 54, 56, 54, 57, 55, 48, 55, 49, 55, 50, 55, 51, 55, 52, 55, 53, 55, 54, 55, 55, 55, 56, 55, 57, 56, 48, 56, 49, 56, 50, 56, 51, 56, 52, 56, 53, 56, 54, 56, 55, 56, 56, 56, 57, 57, 48, 57, 49, 57, 50, 57, 51, 57, 52, 57, 53, 57, 54, 57, 55, 57, 56, 57, 57]⟩
theorem tab1_at (i : Nat) (h : i < 10) : tab1.extract i (i + 1) = digS i := by
  have : ∀ i, i < 10 → tab1.extract i (i + 1) = digS i := by decide +kernel
  exact this i h
theorem tab2_at (i : Nat) (h0 : ¬ i < 10) (h : i < 100) : tab2.extract (i * 2) (i * 2 + 2) = digS i := by
  have : ∀ i, i < 100 → ¬ i < 10 → tab2.extract (i * 2) (i * 2 + 2) = digS i := by decide +kernel
  exact this i h h0

theorem C_small (n : Nat) (hlt : n < 100) : CtrV Tryz.prog 233 [.int .i64 ((n : Nat) : Int)] (.string (digS n)) := by
  refine fn_intro Tryz.func233 rfl Tryz.ntmps233 nb ?_
  intro S w0 a hS h
  refine gC h (zs (zr (za rfl (zn (zs (zs (zr (zm rfl (zp (.lss rfl rfl) (zn ?_)))))))))); clear h; intro a w h
  change Code.wp _ _ _ _ _
  refine cond_split h rfl (fun hc4 => ?_) (fun hc4 => ?_)
  · skip
    have hn : n < 10 := by have := of_decide_eq_true hc4; omega
    refine gC h (zs (zr (zm rfl (zm rfl (zp (Pure1.cast (v' := (.int .i64 ((n + 1 : Nat) : Int))) (.add rfl rfl) (by show Value.int _ _ = Value.int _ _; congr 1)) (zp (.slice rfl (some _) (some _) none rfl rfl rfl (sls_9 _ _ _ (by first | omega | (show n + 1 ≤ 36; omega)) (by first | omega | (show n + 1 ≤ 36; omega)))) (za rfl (zn (zt ?_))))))))); clear h; intro a w h
    refine retV h (results1 h rfl (.tmp rfl)) ?_
    exact congrArg _ (tab1_at n hn)
  · skip
    have hn : ¬ n < 10 := by have := of_decide_eq_false hc4; omega
    refine gC h (zk (zs (zr (zm rfl (zp (Pure1.cast (v' := (.int .i64 ((n * 2 : Nat) : Int))) (.mul rfl rfl) (by show Value.int _ _ = Value.int _ _; congr 1)) (zm rfl (zp (Pure1.cast (v' := (.int .i64 ((n * 2 : Nat) : Int))) (.mul rfl rfl) (by show Value.int _ _ = Value.int _ _; congr 1)) (zp (Pure1.cast (v' := (.int .i64 (((n * 2) + 2 : Nat) : Int))) (.add rfl rfl) (by show Value.int _ _ = Value.int _ _; congr 1)) (zp (.slice rfl (some _) (some _) none rfl rfl rfl (sls_9 _ _ _ (by first | omega | (show n * 2 + 2 ≤ 200; omega)) (by first | omega | (show n * 2 + 2 ≤ 200; omega)))) (za rfl (zn (zt ?_)))))))))))); clear h; intro a w h
    refine retV h (results1 h rfl (.tmp rfl)) ?_
    exact congrArg _ (tab2_at n hn hlt)

theorem C_iFU (n : Nat) (hlt : n < 100) : CtrV Tryz.prog 218 [.int .u64 (n : Int), .int .i64 10] (.string (digS n)) := by
  refine fn_intro Tryz.func218 rfl Tryz.ntmps218 nb ?_
  intro S w0 a hS h
  refine gC h (zs (zr (za rfl (zn (zs (zs (zr (zm rfl (zp (.eql rfl rfl) (zn ?_)))))))))); clear h; intro a w h
  change Code.wp _ _ _ _ _
  refine cond_split h rfl (fun hc10 => ?_) (fun hc10 => (by exfalso; exact absurd hc10 (by decide)))
  refine gC h (zs (zs (zr (zm rfl (zp (.lss rfl rfl) (zn ?_)))))); clear h; intro a w h
  change Code.wp _ _ _ _ _
  refine cond_split h rfl (fun hc12 => ?_) (fun hc12 => (by exfalso; have := of_decide_eq_false hc12; omega))
  refine gC h (zs (zr (zm rfl (zp (.convert rfl (cv_44_3b _ (wrap_i64 _ (by omega) (by omega)))) (zv [_] rfl Tryz.call233 (C_small n hlt) (za rfl (zn (zt ?_)))))))); clear h; intro a w h
  refine retV h (results1 h rfl (.tmp rfl)) ?_
  rfl

theorem C_FU (n : Nat) (hlt : n < 100) : CtrV Tryz.prog 187 [.int .u64 (n : Int), .int .i64 10] (.string (digS n)) := by
  refine fn_intro Tryz.func187 rfl Tryz.ntmps187 nb ?_
  intro S w0 a hS h
  refine gC h (zs (zr (za rfl (zn (zs (zr (zm rfl (zm rfl (zv [_, _] rfl Tryz.call218 (C_iFU n hlt) (za rfl (zn (zt ?_)))))))))))); clear h; intro a w h
  refine retV h (results1 h rfl (.tmp rfl)) ?_
  rfl

theorem C_NText (n : Nat) (hlt : n < 100) : CtrV Tryz.prog 153 [encN n] (.string (digS n)) := by
  refine fn_intro Tryz.func153 rfl Tryz.ntmps153 nb ?_
  intro S w0 a hS h
  refine gC h (zs (zr (zx rfl fun b1 => za rfl (zn (zs (zs (zr (zp (.fieldAddr rfl (fa_46_1 _ _)) (zd rfl mr Tryz.isAgg9 Tryz.sizeOf9 (rs_2_1 _ _) ?_))))))))); clear h; intro a w h
  refine gL h (zp (.binOp rfl rfl (fun _ => run_seql _ _ _ _ _)) (zn ?_)); clear h; intro a w h
  change Code.wp _ _ _ _ _
  refine cond_split h rfl (fun hc10 => ?_) (fun hc10 => (by exfalso; have hb : bigN n = ⟨#[]⟩ := bigN_small (by omega); rw [hb] at hc10; exact absurd hc10 (by decide)))
  refine gC h (zs (zr (zp (.fieldAddr rfl (fa_46_0 _ _)) (zd rfl mr Tryz.isAgg44 Tryz.sizeOf44 (rs_2_0 _ _) ?_)))); clear h; intro a w h
  rw [lowN_small (show n < 18446744073709551616 by omega)] at h
  refine gL h (zv [_, _] rfl Tryz.call187 (C_FU n hlt) (za rfl (zn (zt ?_)))); clear h; intro a w h
  refine retV h (results1 h rfl (.tmp rfl)) ?_
  rfl

theorem C_ZText (z : Int) (hz : z.natAbs < 100) : CtrV Tryz.prog 152 [encZ z] (.string (textZ z)) := by
  refine fn_intro Tryz.func152 rfl Tryz.ntmps152 nb ?_
  intro S w0 a hS h
  refine gC h (zs (zr (zx rfl fun b1 => za rfl (zn (zs (zs (zr (zp (.fieldAddr rfl (fa_50_1 _ _)) (zd rfl mr Tryz.isAgg4 Tryz.sizeOf4 (rs_3_2 _ _ _) ?_))))))))); clear h; intro a w h
  refine wpList_nil ?_
  change Code.wp _ _ _ _ _
  refine cond_split h rfl (fun hc4 => ?_) (fun hc4 => ?_)
  · skip
    have hn : z < 0 := of_decide_eq_true hc4
    refine gC h (zs (zr (zp (.fieldAddr rfl (fa_50_0 _ _)) (zp (.fieldAddr rfl (fa_48_0 _ _)) (zd rfl mr Tryz.isAgg46 Tryz.sizeOf46 (rd_3_0_2 _ _ _) ?_))))); clear h; intro a w h
    refine gL h (zv [_] rfl Tryz.call153 (C_NText z.natAbs hz) (zp (.binOp rfl rfl (fun _ => run_sadd _ _ _ _ _ (by have := digS_size z.natAbs; have h1 : (ByteArray.mk #[45]).size = 1 := rfl; omega))) (za rfl (zn (zt ?_))))); clear h; intro a w h
    refine retV h (results1 h rfl (.tmp rfl)) ?_
    unfold textZ; rw [if_pos hn]
  · skip
    have hn : ¬ z < 0 := of_decide_eq_false hc4
    refine gC h (zk (zs (zr (zp (.fieldAddr rfl (fa_50_0 _ _)) (zp (.fieldAddr rfl (fa_48_0 _ _)) (zd rfl mr Tryz.isAgg46 Tryz.sizeOf46 (rd_3_0_2 _ _ _) ?_)))))); clear h; intro a w h
    refine gL h (zv [_] rfl Tryz.call153 (C_NText z.natAbs hz) (za rfl (zn (zt ?_)))); clear h; intro a w h
    refine retV h (results1 h rfl (.tmp rfl)) ?_
    unfold textZ; rw [if_neg hn]

theorem C_QText (x : Rat) (hn : x.num.natAbs < 100) (hd : x.den < 100) : CtrV Tryz.prog 106 [encQ x] (.string (textQ x)) := by
  refine fn_intro Tryz.func106 rfl Tryz.ntmps106 nb ?_
  intro S w0 a hS h
  refine gC h (zs (zr (zx rfl fun b1 => za rfl (zn (zs (zs (zr (zd rfl mr Tryz.isAgg52 Tryz.sizeOf52 (rd_5_0_5 _ _ _ _ _) ?_)))))))); clear h; intro a w h
  refine gL h (zv [_] rfl Tryz.call72 (C_Whole x) (zn ?_)); clear h; intro a w h
  change Code.wp _ _ _ _ _
  refine cond_split h rfl (fun hc4 => ?_) (fun hc4 => ?_)
  · skip
    have hw : x.den = 1 := of_decide_eq_true hc4
    refine gC h (zs (zr (zp (.fieldAddr rfl (fa_52_0 _ _)) (zd rfl mr Tryz.isAgg50 Tryz.sizeOf50 (rd_5_0_3 _ _ _ _ _) ?_)))); clear h; intro a w h
    refine gL h (zv [_] rfl Tryz.call152 (C_ZText x.num hn) (za rfl (zn (zt ?_)))); clear h; intro a w h
    refine retV h (results1 h rfl (.tmp rfl)) ?_
    unfold textQ; rw [if_pos hw]
  · skip
    have hw : ¬ x.den = 1 := of_decide_eq_false hc4
    refine gC h (zk (zs (yD mixed_YtkhnecelhpnaoaaGreatDoor [0, 1, 4, 2, 3, 5, 6, 7, 8] (floatsOK_none (by kernel_rfl)) (yp rfl (.fieldAddr rfl (fa_52_0 _ _)) (yd rfl rfl mr Tryz.isAgg50 Tryz.sizeOf50 (rd_5_0_3 _ _ _ _ _) ?_))))); clear h
    refine yd rfl rfl mr Tryz.isAgg52 Tryz.sizeOf52 (rd_5_0_5 _ _ _ _ _) ?_
    refine yv [_] rfl rfl Tryz.call152 (C_ZText x.num hn) (yp rfl (.binOp rfl rfl (fun _ => run_sadd _ _ _ _ _ (by have := textZ_size x.num; have h1 : (ByteArray.mk #[47]).size = 1 := rfl; omega))) (yv [_] rfl rfl Tryz.call76 (C_den x (Nat.le_trans (wds_small (by omega)) (by decide))) (yv [_] rfl rfl Tryz.call153 (C_NText x.den hd) (yp rfl (.binOp rfl rfl (fun _ => run_sadd _ _ _ _ _ (by have := textZ_size x.num; have := digS_size x.den; have h1 : (ByteArray.mk #[47]).size = 1 := rfl; rw [ByteArray.size_append]; omega))) (yp rfl (.assign rfl) (yn (zt ?_))))))); intro a w h
    refine retV h (results1 h rfl (.tmp rfl)) ?_
    unfold textQ; rw [if_neg hw]

theorem C_text (ad : Option Addr) (c : Nat) (l : List Rat) (hn : l.length ≤ 1000) (hx : ∀ x ∈ l, x.num.natAbs < 100 ∧ x.den < 100) :
    CtrW Tryz.prog 69 [.slice ad l.length c] [Row ad (cellsOf encQ l)] (.string (textU l l.length)) := by
  refine fn_intro Tryz.func69 rfl Tryz.ntmps69 nb ?_
  intro S w0 a hS h
  refine gC h (zs (zr (za rfl (zn (zs (zr (za rfl (zn (zs (zs (zr (za rfl (zn (zb ?_)))))))))))))); clear h; intro a w h
  refine wp_loop_inv (fun (i : Nat) a w => i ≤ l.length ∧ St 23 S w0 [(0, .slice ad l.length c), (2, .string (⟨#[]⟩)), (3, .string (textU l i)), (4, .int .i64 ((i : Nat) : Int))] [] [Row ad (cellsOf encQ l)] a w) (fun i => l.length - i) 0 (⟨Nat.zero_le _, by exact (h).sub (subL ⟨rfl, rfl, rfl, rfl, trivial⟩)⟩) ?_; clear h
  rintro i a w ⟨hi_i, h⟩
  refine gC h (zs (zs (zr (zm rfl (zm rfl (zp (.builtin [_] rfl (len_slice_56 _ _ _)) (zp (.lss rfl rfl) (zn ?_)))))))); clear h; intro a w h
  change Code.wp _ _ _ _ _
  refine cond_split h rfl (fun hc8 => ?_) (fun hc8 => ?_)
  · skip
    have hlt_i : i < l.length := by have := of_decide_eq_true hc8; omega
    obtain ⟨B_ad, O_ad, rfl⟩ := h.row_addr (ad := ad) (M := cellsOf encQ l) mm (by intro e; have := congrArg List.length e; rw [cellsOf_length (k := 5) (fun _ => rfl)] at this; simp only [List.length_nil, Nat.mul_eq_zero] at this; omega)
    have hg := hx (l.getD i 0) (getD_mem _ hlt_i)
    have hsz := textU_size l i
    have hsq := textQ_size (l.getD i 0)
    have h32 : (ByteArray.mk #[32]).size = 1 := rfl
    refine gC h (zk (zs (zb (zs (zs (zr (zm rfl (zp (.gtr rfl rfl) (zn ?_))))))))); clear h; intro a w h
    change Code.wp _ _ _ _ _
    refine cond_split h rfl (fun hc12 => ?_) (fun hc12 => ?_)
    · skip
      have hp : 0 < i := by have := of_decide_eq_true hc12; omega
      have hU : textU l (i + 1) = (textU l i ++ ⟨#[32]⟩) ++ textQ (l.getD i 0) := by rw [textU, if_pos hp]
      refine gC h (zr (zm rfl (zp (.binOp rfl rfl (fun _ => run_sadd _ _ _ _ _ (by omega))) (za rfl (zn (zr (zm rfl (zm rfl (zm rfl (zp (.indexAddr rfl rfl (ix_56 _ _ _ _ _ (by omega))) (zD rfl mm (cells_lt (k := 5) (by decide) (fun _ => rfl) l i (by omega)) Tryz.isAgg52 Tryz.sizeOf52 (read_cells (k := 5) (fun _ => rfl) ((fun _ => rfl)) l 0 i (by omega)) (.inl rfl) ?_))))))))))); clear h; intro a w h
      refine gL h (zv [_] rfl Tryz.call106 (C_QText (l.getD i 0) hg.1 hg.2) (zp (.binOp rfl rfl (fun _ => run_sadd _ _ _ _ _ (by first | (simp only [ByteArray.size_append]; omega) | omega))) (za rfl (zn (zr (zm rfl (zp (Pure1.cast (v' := (.int .i64 ((i + 1 : Nat) : Int))) (.add rfl rfl) (by show Value.int _ _ = Value.int _ _; congr 1)) (za rfl (zn ?_))))))))); clear h; intro a w h
      exact ⟨i + 1, ⟨by omega, by rw [hU]; exact (h.factsSub (by simp)).sub sA⟩, by omega⟩
    · skip
      have hp : ¬ 0 < i := by have := of_decide_eq_false hc12; omega
      have hU : textU l (i + 1) = textU l i ++ textQ (l.getD i 0) := by rw [textU, if_neg hp]
      refine gC h (zk (zr (zm rfl (zm rfl (zm rfl (zp (.indexAddr rfl rfl (ix_56 _ _ _ _ _ (by omega))) (zD rfl mm (cells_lt (k := 5) (by decide) (fun _ => rfl) l i (by omega)) Tryz.isAgg52 Tryz.sizeOf52 (read_cells (k := 5) (fun _ => rfl) ((fun _ => rfl)) l 0 i (by omega)) (.inl rfl) ?_))))))); clear h; intro a w h
      refine gL h (zv [_] rfl Tryz.call106 (C_QText (l.getD i 0) hg.1 hg.2) (zp (.binOp rfl rfl (fun _ => run_sadd _ _ _ _ _ (by first | (simp only [ByteArray.size_append]; omega) | omega))) (za rfl (zn (zr (zm rfl (zp (Pure1.cast (v' := (.int .i64 ((i + 1 : Nat) : Int))) (.add rfl rfl) (by show Value.int _ _ = Value.int _ _; congr 1)) (za rfl (zn ?_))))))))); clear h; intro a w h
      exact ⟨i + 1, ⟨by omega, by rw [hU]; exact (h.factsSub (by simp)).sub sA⟩, by omega⟩
  · skip
    have heq_i : l.length = i := by have := of_decide_eq_false hc8; omega
    subst heq_i
    refine gC h (ze (zs (zr (zm rfl (za rfl (zn (zt ?_))))))); clear h; intro a w h
    refine retV h (results1 h rfl (.tmp rfl)) ?_
    rfl
end
section

theorem lenZ_neg (x : Int) : lenZ (-x) = lenZ x := by unfold lenZ; rw [Int.natAbs_neg]
theorem sign_mkRat (n : Int) (d : Nat) (hd : d ≠ 0) : (mkRat n d).num.sign = n.sign := by
  cases h : mkRat n d with
  | mk' n' d' z c =>
    obtain ⟨m, hm, hn, _⟩ := Rat.mkRat_num_den hd h
    rw [hn, Int.sign_mul, show ((m : Nat) : Int).sign = 1 from Int.sign_eq_one_of_pos (by omega), Int.mul_one]
theorem sign_sub (x y : Rat) : (x - y).num.sign = (x.num * (y.den : Int) - y.num * (x.den : Int)).sign := by
  rw [Rat.sub_def', sign_mkRat _ _ (Nat.mul_ne_zero x.den_nz y.den_nz)]
theorem sign_same {x y : Rat} (h : x.den = y.den) : (x - y).num.sign = (x.num - y.num).sign := by
  rw [sign_sub, ← h, ← Int.sub_mul, Int.sign_mul, show ((x.den : Nat) : Int).sign = 1 from Int.sign_eq_one_of_pos (by have := x.den_pos; omega), Int.mul_one]
/-- The comparison of two whole numbers. -/
def cmpZ (i k : Int) : Int := if i < k then -1 else if i > k then 1 else 0
def validQ (t : Rat) : Bool := decide (t.num.sign ≥ 0) && decide ((t - ((1 : Int) : Rat)).num.sign ≤ 0)

theorem C_isNaN (x : Int) : CtrV Tryz.prog 217 [.int .i64 x] (.bool false) := by
  refine fn_intro Tryz.func217 rfl Tryz.ntmps217 nb ?_
  intro S w0 a hS h
  refine gC h (zs (zr (za rfl (zn (zs (zr (zm rfl (zm rfl (zp (.neq rfl rfl) (za rfl (zn (zt ?_)))))))))))); clear h; intro a w h
  refine retV h (results1 h rfl (.tmp rfl)) ?_
  simp

theorem C_cmpZ (x y : Int) : CtrV Tryz.prog 183 [.int .i64 x, .int .i64 y] (.int .i64 (cmpZ x y)) := by
  refine fn_intro Tryz.func183 rfl Tryz.ntmps183 nb ?_
  intro S w0 a hS h
  refine gC h (zs (zr (za rfl (zn (zs (zr (zm rfl (zv [_] rfl Tryz.call217 (C_isNaN _) (za rfl (zn (zs (zr (zm rfl (zv [_] rfl Tryz.call217 (C_isNaN _) (za rfl (zn (zs (zs (zr (zm rfl ?_)))))))))))))))))))); clear h; intro a w h
  refine by_bool h (fun hc11 h => (by exfalso; cases hc11)) (fun hc11 h => ?_)
  refine wpList_nil ?_
  change Code.wp _ _ _ _ _
  refine cond_false h rfl ?_
  refine gC h (zk (zs (zs (zr (zm rfl ?_))))); clear h; intro a w h
  refine by_bool h (fun hc13 h => (by exfalso; cases hc13)) (fun hc13 h => ?_)
  refine wpList_nil ?_
  change Code.wp _ _ _ _ _
  refine cond_false h rfl ?_
  refine gC h (zk (zs (zs (zr (zm rfl (zm rfl (zp (.lss rfl rfl) (zn ?_)))))))); clear h; intro a w h
  change Code.wp _ _ _ _ _
  refine cond_split h rfl (fun hc16 => ?_) (fun hc16 => ?_)
  · skip
    refine gC h (zs (zr (za rfl (zn (zt ?_))))); clear h; intro a w h
    refine retV h (results1 h rfl (.tmp rfl)) ?_
    unfold cmpZ; have := of_decide_eq_true hc16; simp [this]
  · skip
    refine gC h (zk (zs (zs (zr (zm rfl (zm rfl (zp (.gtr rfl rfl) (zn ?_)))))))); clear h; intro a w h
    change Code.wp _ _ _ _ _
    refine cond_split h rfl (fun hc19 => ?_) (fun hc19 => ?_)
    · skip
      refine gC h (zs (zr (za rfl (zn (zt ?_))))); clear h; intro a w h
      refine retV h (results1 h rfl (.tmp rfl)) ?_
      unfold cmpZ; have h1 := of_decide_eq_false hc16; have h2 := of_decide_eq_true hc19; rw [if_neg h1, if_pos h2]
    · skip
      refine gC h (zk (zs (zr (za rfl (zn (zt ?_)))))); clear h; intro a w h
      refine retV h (results1 h rfl (.tmp rfl)) ?_
      unfold cmpZ; have h1 := of_decide_eq_false hc16; have h2 := of_decide_eq_false hc19; rw [if_neg h1, if_neg h2]
end
section

theorem run_negi (x : Int) (h0 : -9223372036854775807 ≤ x) (h1 : x ≤ 9223372036854775807) (w : World) : (Op.unary .neg (.int .i64 x)).run Tryz.prog w = .ok (.int .i64 (-x)) w := by
  have : (Op.unary .neg (.int .i64 x)).run Tryz.prog w = .ok (.int .i64 (IntKind.i64.wrap (0 - x))) w := by simp [Op.unary, Op.intArith]
  rw [this, wrap_i64 _ (by omega) (by omega)]; congr 2; omega
end
section
theorem fa_24_0 (b off : Nat) (w : World) : (Instr.fieldAt 24 (.pointer (some ⟨b, off, none⟩)) 0).run Tryz.prog w = .ok (.pointer (some ⟨b, off + 0, none⟩)) w := by
  simp [go_sem]
theorem fa_24_1 (b off : Nat) (w : World) : (Instr.fieldAt 24 (.pointer (some ⟨b, off, none⟩)) 1).run Tryz.prog w = .ok (.pointer (some ⟨b, off + 1, none⟩)) w := by
  simp [go_sem]
theorem cv_22_2 (x : Int) (w : World) : (Go.convert 22 2 (.int .u32 x)).run Tryz.prog w = .ok (.int .i64 (IntKind.i64.wrap x)) w := by
  simp [go_sem]
theorem cv_22_2b (x : Int) (h0 : IntKind.i64.wrap x = x) (w : World) : (Go.convert 22 2 (.int .u32 x)).run Tryz.prog w = .ok (.int .i64 x) w := by
  rw [cv_22_2, h0]
/-- A number as the statement gives it: N divided by D, or by 1. -/
def qv (N D : Int) : Rat := ((N : Int) : Rat) / ((max D 1 : Int) : Rat)
theorem lenQ_qv (N D : Int) (h0 : -9223372036854775808 ≤ N) (h1 : N ≤ 9223372036854775807) (h2 : 0 ≤ D) (h3 : D ≤ 4294967295) : lenQ (qv N D) ≤ 4 := lenQ_of N (max D 1) h0 h1 (by omega) (by omega)
theorem bi_maxu (x y : Int) (w : World) (ty : TypeId) (cs : Array Bool) : (Go.builtin .max #[22, 22] ty cs #[.int .u32 x, .int .u32 y]).run Tryz.prog w = .ok (.value (.int .u32 (max x y))) w := by
  simp [go_sem] <;> (try rw [Int.max_def]) <;> (try split) <;> (try split) <;> (try omega)
abbrev encQ2 (q : Int × Int) : Value := .agg #[.int .i64 q.1, .int .u32 q.2]
/-- The bounds of the statement's numbers. -/
def OkQ (q : Int × Int) : Prop := -9223372036854775808 ≤ q.1 ∧ q.1 ≤ 9223372036854775807 ∧ 0 ≤ q.2 ∧ q.2 ≤ 4294967295
def qvp (q : Int × Int) : Rat := qv q.1 q.2
theorem lenQ_qvp {q : Int × Int} (h : OkQ q) : lenQ (qvp q) ≤ 4 := lenQ_qv _ _ h.1 h.2.1 h.2.2.1 h.2.2.2

theorem C_qOf (N D : Int) (h0 : -9223372036854775808 ≤ N) (h1 : N ≤ 9223372036854775807) (h2 : 0 ≤ D) (h3 : D ≤ 4294967295) : CtrV Tryz.prog 23 [.agg #[.int .i64 N, .int .u32 D]] (encQ (qv N D)) := by
  refine fn_intro Tryz.func23 rfl Tryz.ntmps23 nb ?_
  intro S w0 a hS h
  refine gC h (zs (zr (zx rfl fun b1 => zz zeroQ fun b2 => zn (zs (zr (zp (.fieldAddr rfl (fa_24_0 _ _)) (zd rfl mr Tryz.isAgg2 Tryz.sizeOf2 (rs_2_0 _ _) ?_))))))); clear h; intro a w h
  refine gL h (zp (.fieldAddr rfl (fa_24_1 _ _)) (zd rfl mr Tryz.isAgg22 Tryz.sizeOf22 (rs_2_1 _ _) ?_)); clear h; intro a w h
  refine gL h (zp (.builtin [_, _] rfl (fun w ty cs => bi_maxu _ _ w ty cs)) (zp (.convert rfl (cv_22_2b _ (wrap_i64 _ (by omega) (by omega)))) (zv [_, _] rfl Tryz.call80 (C_QOf _ _ (by omega) (by omega) (by omega) (by omega) (by omega)) ?_))); clear h; intro a w h
  have hl12 := lenQ_of (N) (max D 1) (by omega) (by omega) (by omega) (by omega)
  refine gL h (zm rfl (zp (.extract rfl (fun _ => rfl)) (zp (.extract rfl (fun _ => rfl)) (zz zeroQ fun b3 => zt' rfl rfl (st_5_0_5 _ _ _ _ _ _ _ _ _ _) uu Tryz.sizeOf52 rfl nb rfl ?_)))); clear h; intro a w h
  refine gL h (za rfl (zn (zs (zr (zd rfl mr Tryz.isAgg52 Tryz.sizeOf52 (rd_5_0_5 _ _ _ _ _) ?_))))); clear h; intro a w h
  refine gL h (zt' rfl rfl (st_5_0_5 _ _ _ _ _ _ _ _ _ _) uu Tryz.sizeOf52 rfl nb rfl ?_); clear h; intro a w h
  refine wpList_nil (wp_ret ?_)
  refine retV h (results1 h rfl (.cell rfl mr Tryz.isAgg52 Tryz.sizeOf52 (rd_5_0_5 _ _ _ _ _))) ?_
  rfl
end
section
theorem len_slice_96 (a : Option Addr) (n c : Nat) (w : World) (ty : TypeId) (cs : Array Bool) : (Go.builtin .len #[96] ty cs #[.slice a n c]).run Tryz.prog w = .ok (.value (.int .i64 n)) w := by
  simp [go_sem]
theorem ix_96 (b off n c j : Nat) (h : j < n) (w : World) : (Instr.indexAt 96 (.slice (some ⟨b, off, none⟩) n c) (.int .i64 (j : Int))).run Tryz.prog w = .ok (.pointer (some ⟨b, off + j, none⟩)) w := by
  simpa using indexAt_slice Tryz.runUnderlying96 Tryz.sizeOf3 b off n c j h w
theorem bd_161_0_1_2 (x0 : Int) (x1 : Int) (x2 : Int) (w : World) : (Instr.build 161 [(0, .int .i64 x0), (1, .int .i64 x1), (2, .int .i64 x2)].toArray).run Tryz.prog w = .ok (.agg #[.int .i64 x0, .int .i64 x1, .int .i64 x2]) w := by simp [go_sem]
theorem bs_96_3_0_1_2 (x0 : Int) (x1 : Int) (x2 : Int) (w : World) : (Instr.buildSlice 96 3 [(0, .int .i64 x0), (1, .int .i64 x1), (2, .int .i64 x2)].toArray).run Tryz.prog w = .ok (.slice (some ⟨w.heap.size, 0, none⟩) 3 3) (w.alloc (.cells #[.int .i64 x0, .int .i64 x1, .int .i64 x2] 3 (0, 0))) := by
  simp [go_sem]
/-- A number times the numbers from 1 to p. -/
def upQ (q : Rat) : Nat → Rat
  | 0 => q
  | p + 1 => upQ q p * (((p + 1 : Nat) : Int) : Rat)
/-- A number divided by the numbers from 1 to n. -/
def downQ (q : Rat) : Nat → Rat
  | 0 => q
  | n + 1 => downQ q n / (((n + 1 : Nat) : Int) : Rat)
def ratioQ (n : Nat) (l : List Nat) : Rat := downQ (l.foldl upQ 1) n
def momentQ (i j k : Nat) : Rat := ((2 : Int) : Rat) * ratioQ (i + j + k + 2) [i, j, k]
theorem lenQ_up (q : Rat) : ∀ p, p ≤ 1000000 → lenQ (upQ q p) ≤ lenQ q + 2 * p
  | 0, _ => Nat.le_refl _
  | p + 1, h => by
    have h1 := lenQ_up q p (by omega)
    have h2 := lenQ_int ((p + 1 : Nat) : Int) (by omega) (by omega)
    have h3 := lenQ_mul (upQ q p) (((p + 1 : Nat) : Int) : Rat)
    show lenQ (upQ q p * _) ≤ _
    omega
theorem lenQ_down (q : Rat) : ∀ p, p ≤ 1000000 → lenQ (downQ q p) ≤ lenQ q + 2 * p
  | 0, _ => Nat.le_refl _
  | p + 1, h => by
    have h1 := lenQ_down q p (by omega)
    have h2 := lenQ_int ((p + 1 : Nat) : Int) (by omega) (by omega)
    have h3 := lenQ_div (downQ q p) (((p + 1 : Nat) : Int) : Rat)
    show lenQ (downQ q p / _) ≤ _
    omega
theorem lenQ_one : lenQ 1 ≤ 2 := lenQ_int 1 (by omega) (by omega)
theorem lenQ_ups : ∀ (l : List Nat) (q : Rat), (∀ x ∈ l, x ≤ 48) → lenQ (l.foldl upQ q) ≤ lenQ q + 96 * l.length
  | [], q, _ => by simp
  | x :: l, q, h => by
    have h1 := lenQ_ups l (upQ q x) (fun y hy => h y (List.mem_cons_of_mem _ hy))
    have h0 := h x List.mem_cons_self
    have h2 := lenQ_up q x (by omega)
    simp only [List.foldl_cons, List.length_cons]
    omega
theorem one_int : ((1 : Int) : Rat) = 1 := rfl
theorem int_ne {n : Nat} : ((((n + 1 : Nat) : Int) : Rat)) ≠ 0 := fun e => by have := Rat.intCast_eq_zero_iff.1 e; omega

theorem C_iratio (n : Nat) (l : List Nat) (ad : Option Addr) (c : Nat) (hn : n ≤ 200) (hl : l.length ≤ 10) (hx : ∀ x ∈ l, x ≤ 48) :
    CtrW Tryz.prog 93 [.int .i64 ((n : Nat) : Int), .slice ad l.length c] [Row ad (List.map encn l)] (encQ (ratioQ n l)) := by
  refine fn_intro Tryz.func93 rfl Tryz.ntmps93 nb ?_
  intro S w0 a hS h
  refine gC h (zs (zr (zz zeroQ fun b4 => zn (zs (zr (zv [_] rfl Tryz.call28 (C_QInt _ (by omega) (by omega)) ?_)))))); clear h; intro a w h
  have hl10 := lenQ_int (1) (by omega) (by omega)
  refine gL h (zz zeroQ fun b5 => zt' rfl rfl (st_5_0_5 _ _ _ _ _ _ _ _ _ _) uu Tryz.sizeOf52 rfl nb rfl ?_); clear h; intro a w h
  refine gL h (zn (zs (zs (zr (zm rfl (zp (.builtin [_] rfl (len_slice_96 _ _ _)) (zm rfl (zn (zb ?_))))))))); clear h; intro a w h
  refine wp_loop_inv (fun (k : Nat) a w => k ≤ l.length ∧ St 42 S w0 [(0, .int .i64 ((n : Nat) : Int)), (4, .pointer (some ⟨b4, 0, none⟩)), (5, .pointer (some ⟨b5, 0, none⟩)), (11, .slice ad l.length c), (12, .int .i64 ((l.length : Nat) : Int)), (13, .int .i64 ((k : Nat) : Int))] [(b5, .cells (Value.cells (encQ ((l.take k).foldl upQ 1))) 52 (0, 0)), (b4, .cells (Value.cells (encQ (0))) 52 (0, 0))] [Row ad (List.map encn l)] a w) (fun k => l.length - k) 0 (⟨Nat.zero_le _, by exact (h).sub (subL ⟨rfl, rfl, rfl, rfl, rfl, rfl, trivial⟩)⟩) ?_; clear h
  rintro k a w ⟨hi_k, h⟩
  refine gC h (zs (zr (zp (.lss rfl rfl) (zn (zs ?_))))); clear h; intro a w h
  refine cond_split h rfl (fun hc14 => ?_) (fun hc14 => ?_)
  · skip
    have hlt_k : k < l.length := by have := of_decide_eq_true hc14; omega
    obtain ⟨B_ad, O_ad, rfl⟩ := h.row_addr (ad := ad) (M := List.map encn l) mm (by intro e; have := congrArg List.length e; simp only [List.length_map, List.length_nil] at this; omega)
    have hxk := hx (l.getD k 0) (getD_mem _ hlt_k)
    have hlk := lenQ_ups (l.take k) 1 (fun x hx' => hx x (List.mem_of_mem_take hx'))
    rw [List.length_take] at hlk
    have hl1 := lenQ_one
    refine gC h (zk (zs (zb (zs (zr (zp (.indexAddr rfl rfl (ix_96 _ _ _ _ _ (by omega))) (zD rfl mm (by rw [List.length_map]; omega) Tryz.isAgg3 Tryz.sizeOf3 (read_row (enc := encn) (l := l) 0 (by omega)) (.inr rfl) ?_))))))); clear h; intro a w h
    refine gL h (za rfl (zn (zs (zr (zm rfl (zm rfl (zn (zb ?_)))))))); clear h; intro a w h
    refine wp_loop_inv (fun (i : Nat) a w => i ≤ l.getD k 0 ∧ St 42 S w0 [(0, .int .i64 ((n : Nat) : Int)), (4, .pointer (some ⟨b4, 0, none⟩)), (5, .pointer (some ⟨b5, 0, none⟩)), (11, .slice (some ⟨B_ad, O_ad, none⟩) l.length c), (12, .int .i64 ((l.length : Nat) : Int)), (13, .int .i64 ((k : Nat) : Int)), (17, .int .i64 ((l.getD k 0 : Nat) : Int)), (18, .int .i64 ((i : Nat) : Int))] [(b5, .cells (Value.cells (encQ (upQ ((l.take k).foldl upQ 1) i))) 52 (0, 0)), (b4, .cells (Value.cells (encQ (0))) 52 (0, 0))] [Row (some ⟨B_ad, O_ad, none⟩) (List.map encn l)] a w) (fun i => l.getD k 0 - i) 0 (⟨Nat.zero_le _, by exact (h).sub (subL ⟨rfl, rfl, rfl, rfl, rfl, rfl, rfl, rfl, trivial⟩)⟩) ?_; clear h
    rintro i a w ⟨hi_i, h⟩
    refine gC h (zs (zr (zp (.lss rfl rfl) (zn (zs ?_))))); clear h; intro a w h
    refine cond_split h rfl (fun hc19 => ?_) (fun hc19 => ?_)
    · skip
      have hlt_i : i < l.getD k 0 := by have := of_decide_eq_true hc19; omega
      have hli := lenQ_up ((l.take k).foldl upQ 1) i (by omega)
      refine gC h (zk (zs (zb (zs (zr (zm rfl (za rfl (zn (yD mixed_YtkhnecelhpnaoaaGreatDoor [0, 1, 2, 3, 4, 5] (floatsOK_none (by kernel_rfl)) (yd rfl rfl mr Tryz.isAgg52 Tryz.sizeOf52 (rd_5_0_5 _ _ _ _ _) ?_)))))))))); clear h
      refine yp rfl (.move rfl) (yp rfl (Pure1.cast (v' := (.int .i64 ((i + 1 : Nat) : Int))) (.add rfl rfl) (by show Value.int _ _ = Value.int _ _; congr 1)) (yv [_] rfl rfl Tryz.call28 (C_QInt _ (by omega) (by omega)) ?_))
      have hl24 := lenQ_int (((i + 1 : Nat) : Int)) (by omega) (by omega)
      refine yv [_, _] rfl rfl Tryz.call61 (C_QMul _ _ (by omega) (by omega)) ?_
      have hl25 := lenQ_mul (upQ ((l.take k).foldl upQ 1) i) (((((i + 1 : Nat) : Int) : Int) : Rat))
      refine yt rfl rfl rfl (st_5_0_5 _ _ _ _ _ _ _ _ _ _) uu Tryz.sizeOf52 rfl nb rfl ?_
      refine yn (zr (zp (Pure1.cast (v' := (.int .i64 ((i + 1 : Nat) : Int))) (.add rfl rfl) (by show Value.int _ _ = Value.int _ _; congr 1)) (zm rfl (zn ?_)))); intro a w h
      exact ⟨i + 1, ⟨by omega, h.sub sA⟩, by omega⟩
    · skip
      have heq_i : l.getD k 0 = i := by have := of_decide_eq_false hc19; omega
      subst heq_i
      refine gC h (ze (zr (zp (Pure1.cast (v' := (.int .i64 ((k + 1 : Nat) : Int))) (.add rfl rfl) (by show Value.int _ _ = Value.int _ _; congr 1)) (zm rfl (zn ?_))))); clear h; intro a w h
      rw [← foldl_take_succ (f := upQ) l 1 k 0 hlt_k] at h
      exact ⟨k + 1, ⟨by omega, (h.factsSub (by simp)).sub sA⟩, by omega⟩
  · skip
    have heq_k : l.length = k := by have := of_decide_eq_false hc14; omega
    subst heq_k
    refine gC h (ze (zs (zs (zr (zm rfl (zm rfl (zn (zb ?_)))))))); clear h; intro a w h
    rw [List.take_length] at h
    refine wp_loop_inv (fun (m : Nat) a w => m ≤ n ∧ St 42 S w0 [(0, .int .i64 ((n : Nat) : Int)), (4, .pointer (some ⟨b4, 0, none⟩)), (5, .pointer (some ⟨b5, 0, none⟩)), (11, .slice ad l.length c), (12, .int .i64 ((l.length : Nat) : Int)), (13, .int .i64 ((l.length : Nat) : Int)), (28, .int .i64 ((n : Nat) : Int)), (29, .int .i64 ((m : Nat) : Int))] [(b5, .cells (Value.cells (encQ (downQ (l.foldl upQ 1) m))) 52 (0, 0)), (b4, .cells (Value.cells (encQ (0))) 52 (0, 0))] [Row ad (List.map encn l)] a w) (fun m => n - m) 0 (⟨Nat.zero_le _, by exact (h).sub (subL ⟨rfl, rfl, rfl, rfl, rfl, rfl, rfl, rfl, trivial⟩)⟩) ?_; clear h
    rintro m a w ⟨hi_m, h⟩
    refine gC h (zs (zr (zp (.lss rfl rfl) (zn (zs ?_))))); clear h; intro a w h
    refine cond_split h rfl (fun hc30 => ?_) (fun hc30 => ?_)
    · skip
      have hlt_m : m < n := by have := of_decide_eq_true hc30; omega
      have hlm := lenQ_down (l.foldl upQ 1) m (by omega)
      have hlk := lenQ_ups l 1 hx
      have hl1 := lenQ_one
      refine gC h (zk (zs (zb (zs (zr (zm rfl (za rfl (zn (yD mixed_YtkhnecelhpnaoaaGreatDoor [0, 1, 2, 3, 4, 5, 6, 7, 8] (floatsOK_none (by kernel_rfl)) (yd rfl rfl mr Tryz.isAgg52 Tryz.sizeOf52 (rd_5_0_5 _ _ _ _ _) ?_)))))))))); clear h
      refine yp rfl (.move rfl) (yp rfl (Pure1.cast (v' := (.int .i64 ((m + 1 : Nat) : Int))) (.add rfl rfl) (by show Value.int _ _ = Value.int _ _; congr 1)) (yv [_] rfl rfl Tryz.call28 (C_QInt _ (by omega) (by omega)) ?_))
      have hl36 := lenQ_int (((m + 1 : Nat) : Int)) (by omega) (by omega)
      refine yv [_, _] rfl rfl Tryz.call97 (C_QDiv _ _ int_ne (by omega) (by omega)) (yp rfl (.move rfl) (yp rfl (.extract rfl (fun _ => rfl)) (yp rfl (.extract rfl (fun _ => rfl)) (yt rfl rfl rfl (st_5_0_5 _ _ _ _ _ _ _ _ _ _) uu Tryz.sizeOf52 rfl nb rfl ?_))))
      refine yn (zr (zp (Pure1.cast (v' := (.int .i64 ((m + 1 : Nat) : Int))) (.add rfl rfl) (by show Value.int _ _ = Value.int _ _; congr 1)) (zm rfl (zn ?_)))); intro a w h
      exact ⟨m + 1, ⟨by omega, h.sub sA⟩, by omega⟩
    · skip
      have heq_m : n = m := by have := of_decide_eq_false hc30; omega
      subst heq_m
      refine gC h (ze (zs (zr (zd rfl mr Tryz.isAgg52 Tryz.sizeOf52 (rd_5_0_5 _ _ _ _ _) ?_)))); clear h; intro a w h
      refine gL h (zt' rfl rfl (st_5_0_5 _ _ _ _ _ _ _ _ _ _) uu Tryz.sizeOf52 rfl nb rfl ?_); clear h; intro a w h
      refine wpList_nil (wp_ret ?_)
      refine retV h (results1 h rfl (.cell rfl mr Tryz.isAgg52 Tryz.sizeOf52 (rd_5_0_5 _ _ _ _ _))) ?_
      rfl

theorem ix3 (a b c m : Nat) (h : m < 3) (w : World) : (Instr.index 161 (.agg #[.int .i64 (a : Int), .int .i64 (b : Int), .int .i64 (c : Int)]) (.int .i64 (m : Int))).run Tryz.prog w = .ok (.int .i64 (([a, b, c].getD m 0 : Nat) : Int)) w := by
  match m, h with
  | 0, _ => unfold Instr.index; simp [go_sem]
  | 1, _ => unfold Instr.index; simp [go_sem]
  | 2, _ => unfold Instr.index; simp [go_sem]
theorem lenQ_moment (i j k : Nat) (hi : i ≤ 48) (hj : j ≤ 48) (hk : k ≤ 48) : lenQ (momentQ i j k) ≤ 1000 := by
  unfold momentQ ratioQ
  have h1 := lenQ_mul ((2 : Int) : Rat) (downQ ([i, j, k].foldl upQ 1) (i + j + k + 2))
  have h2 := lenQ_int 2 (by omega) (by omega)
  have h3 := lenQ_down ([i, j, k].foldl upQ 1) (i + j + k + 2) (by omega)
  have h4 := lenQ_ups [i, j, k] 1 (by simp; omega)
  have h5 := lenQ_one
  simp only [List.length_cons, List.length_nil] at h4
  omega

theorem C_Moment (i j k : Nat) (hi : i ≤ 48) (hj : j ≤ 48) (hk : k ≤ 48) :
    CtrV Tryz.prog 42 [.int .i64 ((i : Nat) : Int), .int .i64 ((j : Nat) : Int), .int .i64 ((k : Nat) : Int)] (encQ (momentQ i j k)) := by
  refine fn_intro Tryz.func42 rfl Tryz.ntmps42 nb ?_
  intro S w0 a hS h
  refine gC h (zs (zr (zz zeroQ fun b6 => zn (zs (zs (zr (zm rfl (zm rfl (zm rfl (zp (.build [(_, _), (_, _), (_, _)] rfl (bd_161_0_1_2 _ _ _)) (zm rfl (zn (zb ?_))))))))))))); clear h; intro a w h
  refine wp_loop_inv (fun (m : Nat) a w => m ≤ 3 ∧ St 37 S w0 [(0, .int .i64 ((i : Nat) : Int)), (1, .int .i64 ((j : Nat) : Int)), (2, .int .i64 ((k : Nat) : Int)), (6, .pointer (some ⟨b6, 0, none⟩)), (12, .agg #[.int .i64 (i : Int), .int .i64 (j : Int), .int .i64 (k : Int)]), (13, .int .i64 ((m : Nat) : Int))] [(b6, .cells (Value.cells (encQ (0))) 52 (0, 0))] [] a w) (fun m => 3 - m) 0 (⟨Nat.zero_le _, by exact (h).sub (subL ⟨rfl, rfl, rfl, rfl, rfl, rfl, trivial⟩)⟩) ?_; clear h
  rintro m a w ⟨hi_m, h⟩
  refine gC h (zs (zr (zp (.lss rfl rfl) (zn (zs ?_))))); clear h; intro a w h
  refine cond_split h rfl (fun hc14 => ?_) (fun hc14 => ?_)
  · skip
    have hlt_m : m < 3 := by have := of_decide_eq_true hc14; omega
    have hb : [i, j, k].getD m 0 ≤ 48 := by match m, hlt_m with | 0, _ => exact hi | 1, _ => exact hj | 2, _ => exact hk
    refine gC h (zk (zs (zb (zs (zr (zp (.index rfl rfl (fun w => ix3 i j k m (by omega) w)) (za rfl (zn (zs (zr (zm rfl (zp (.lss rfl rfl) ?_)))))))))))); clear h; intro a w h
    refine by_bool h (fun hc17 h => (by exfalso; have := of_decide_eq_true hc17; omega)) (fun hc17 h => ?_)
    refine gL h (zm rfl (zq 18 rfl rfl (.move rfl) (zq 18 rfl rfl (.gtr rfl rfl) ?_))); clear h; intro a w h
    refine by_bool h (fun hc20 h => (by exfalso; have := of_decide_eq_true hc20; omega)) (fun hc20 h => ?_)
    refine gL h (zp (.pickF rfl rfl) (zn ?_)); clear h; intro a w h
    change Code.wp _ _ _ _ _
    refine cond_false h rfl ?_
    refine gC h (zk (zr (zp (Pure1.cast (v' := (.int .i64 ((m + 1 : Nat) : Int))) (.add rfl rfl) (by show Value.int _ _ = Value.int _ _; congr 1)) (zm rfl (zn ?_))))); clear h; intro a w h
    exact ⟨m + 1, ⟨by omega, h.sub sA⟩, by omega⟩
  · skip
    have heq_m : 3 = m := by have := of_decide_eq_false hc14; omega
    subst heq_m
    refine gC h (ze (zs (zr (zv [_] rfl Tryz.call28 (C_QInt _ (by omega) (by omega)) ?_)))); clear h; intro a w h
    have hl24 := lenQ_int (2) (by omega) (by omega)
    refine gL h (zm rfl (zm rfl (zp (Pure1.cast (v' := (.int .i64 ((i + j : Nat) : Int))) (.add rfl rfl) (by show Value.int _ _ = Value.int _ _; congr 1)) (zm rfl (zp (Pure1.cast (v' := (.int .i64 (((i + j) + k : Nat) : Int))) (.add rfl rfl) (by show Value.int _ _ = Value.int _ _; congr 1)) (zp (Pure1.cast (v' := (.int .i64 ((((i + j) + k) + 2 : Nat) : Int))) (.add rfl rfl) (by show Value.int _ _ = Value.int _ _; congr 1)) (zm rfl (zm rfl (zm rfl (zB [(_, _), (_, _), (_, _)] rfl (bs_96_3_0_1_2 _ _ _) fun b34 => ?_)))))))))); clear h; intro a w h
    replace h := h.shareAll hS (List.map encn ([i, j, k])) rfl
    have hlr : lenQ (ratioQ (i + j + k + 2) [i, j, k]) ≤ 900 := by have := lenQ_down ([i, j, k].foldl upQ 1) (i + j + k + 2) (by omega); have h4 := lenQ_ups [i, j, k] 1 (by simp; omega); have := lenQ_one; simp only [List.length_cons, List.length_nil] at h4; unfold ratioQ; omega
    refine gL h (zw [_, _] rfl Tryz.call93 (C_iratio (i + j + k + 2) [i, j, k] _ _ (by omega) (by simp) (by simp; omega)) (zv [_, _] rfl Tryz.call61 (C_QMul _ _ (by omega) (by omega)) ?_)); clear h; intro a w h
    have hl36 := lenQ_mul (((2 : Int) : Rat)) (ratioQ (i + j + k + 2) [i, j, k])
    refine gL h (zt' rfl rfl (st_5_0_5 _ _ _ _ _ _ _ _ _ _) uu Tryz.sizeOf52 rfl nb rfl ?_); clear h; intro a w h
    refine wpList_nil (wp_ret ?_)
    refine retV h (results1 h rfl (.cell rfl mr Tryz.isAgg52 Tryz.sizeOf52 (rd_5_0_5 _ _ _ _ _))) ?_
    rfl

theorem lenQ_pow (x : Rat) : ∀ i : Nat, lenQ (x ^ i) ≤ 2 + i * lenQ x
  | 0 => by rw [Rat.pow_zero]; have := lenQ_one; omega
  | i + 1 => by
    rw [Rat.pow_succ]
    have h1 := lenQ_pow x i
    have h2 := lenQ_mul (x ^ i) x
    rw [Nat.add_mul]; omega
theorem lenQ_powle (x : Rat) (i : Nat) (k m : Nat) (hx : lenQ x ≤ k) (hi : i ≤ m) : lenQ (x ^ i) ≤ 2 + m * k :=
  Nat.le_trans (lenQ_pow x i) (Nat.add_le_add_left (Nat.mul_le_mul hi hx) 2)

theorem C_power (x : Rat) (n : Nat) (hx : lenQ x ≤ 1000) (hn : n ≤ 100) : CtrV Tryz.prog 82 [encQ x, .int .i64 ((n : Nat) : Int)] (encQ (x ^ n)) := by
  refine fn_intro Tryz.func82 rfl Tryz.ntmps82 nb ?_
  intro S w0 a hS h
  refine gC h (zs (zr (zx rfl fun b2 => zz zeroQ fun b4 => zn (zs (zr (zv [_] rfl Tryz.call28 (C_QInt _ (by omega) (by omega)) ?_)))))); clear h; intro a w h
  have hl6 := lenQ_int (1) (by omega) (by omega)
  refine gL h (zz zeroQ fun b5 => zt' rfl rfl (st_5_0_5 _ _ _ _ _ _ _ _ _ _) uu Tryz.sizeOf52 rfl nb rfl ?_); clear h; intro a w h
  refine gL h (zn (zs (zs (zr (zm rfl (zm rfl (zn (zb ?_)))))))); clear h; intro a w h
  refine wp_loop_inv (fun (i : Nat) a w => i ≤ n ∧ St 15 S w0 [(2, .pointer (some ⟨b2, 0, none⟩)), (4, .pointer (some ⟨b4, 0, none⟩)), (5, .pointer (some ⟨b5, 0, none⟩)), (7, .int .i64 ((n : Nat) : Int)), (8, .int .i64 ((i : Nat) : Int))] [(b5, .cells (Value.cells (encQ (x ^ i))) 52 (0, 0)), (b4, .cells (Value.cells (encQ (0))) 52 (0, 0)), (b2, .cells (Value.cells (encQ (x))) 52 (0, 0))] [] a w) (fun i => n - i) 0 (⟨Nat.zero_le _, by rw [Rat.pow_zero]; exact (h).sub (subL ⟨rfl, rfl, rfl, rfl, rfl, trivial⟩)⟩) ?_; clear h
  rintro i a w ⟨hi_i, h⟩
  refine gC h (zs (zr (zp (.lss rfl rfl) (zn (zs ?_))))); clear h; intro a w h
  refine cond_split h rfl (fun hc9 => ?_) (fun hc9 => ?_)
  · skip
    have hlt_i : i < n := by have := of_decide_eq_true hc9; omega
    have hp := lenQ_powle x i 1000 100 hx (by omega)
    refine gC h (zk (zs (zb (zr (zd rfl mr Tryz.isAgg52 Tryz.sizeOf52 (rd_5_0_5 _ _ _ _ _) ?_))))); clear h; intro a w h
    refine gL h (zd rfl mr Tryz.isAgg52 Tryz.sizeOf52 (rd_5_0_5 _ _ _ _ _) ?_); clear h; intro a w h
    refine gL h (zv [_, _] rfl Tryz.call61 (C_QMul _ _ (by omega) (by omega)) ?_); clear h; intro a w h
    have hl12 := lenQ_mul (x ^ i) (x)
    refine gL h (zt' rfl rfl (st_5_0_5 _ _ _ _ _ _ _ _ _ _) uu Tryz.sizeOf52 rfl nb rfl ?_); clear h; intro a w h
    refine gL h (zn (zr (zp (Pure1.cast (v' := (.int .i64 ((i + 1 : Nat) : Int))) (.add rfl rfl) (by show Value.int _ _ = Value.int _ _; congr 1)) (zm rfl (zn ?_))))); clear h; intro a w h
    rw [← Rat.pow_succ] at h
    exact ⟨i + 1, ⟨by omega, h.sub sA⟩, by omega⟩
  · skip
    have heq_i : n = i := by have := of_decide_eq_false hc9; omega
    subst heq_i
    refine gC h (ze (zs (zr (zd rfl mr Tryz.isAgg52 Tryz.sizeOf52 (rd_5_0_5 _ _ _ _ _) ?_)))); clear h; intro a w h
    refine gL h (zt' rfl rfl (st_5_0_5 _ _ _ _ _ _ _ _ _ _) uu Tryz.sizeOf52 rfl nb rfl ?_); clear h; intro a w h
    refine wpList_nil (wp_ret ?_)
    refine retV h (results1 h rfl (.cell rfl mr Tryz.isAgg52 Tryz.sizeOf52 (rd_5_0_5 _ _ _ _ _))) ?_
    rfl

theorem C_rratio (n d : Int) (h0 : -9223372036854775808 ≤ n) (h1 : n ≤ 9223372036854775807) (h2 : -9223372036854775808 ≤ d) (h3 : d ≤ 9223372036854775807) (hd : d ≠ 0) :
    CtrV Tryz.prog 85 [.int .i64 n, .int .i64 d] (encQ ((n : Rat) / (d : Rat))) := by
  refine fn_intro Tryz.func85 rfl Tryz.ntmps85 nb ?_
  intro S w0 a hS h
  refine gC h (zs (zr (zz zeroQ fun b4 => zn (zs (zr (zm rfl (zm rfl (zv [_, _] rfl Tryz.call80 (C_QOf _ _ (by omega) (by omega) (by omega) (by omega) (by omega)) ?_)))))))); clear h; intro a w h
  have hl10 := lenQ_of (n) (d) (by omega) (by omega) (by omega) (by omega)
  refine gL h (zm rfl (zp (.extract rfl (fun _ => rfl)) (zp (.extract rfl (fun _ => rfl)) (zz zeroQ fun b5 => zt' rfl rfl (st_5_0_5 _ _ _ _ _ _ _ _ _ _) uu Tryz.sizeOf52 rfl nb rfl ?_)))); clear h; intro a w h
  refine gL h (za rfl (zn (zs (zr (zd rfl mr Tryz.isAgg52 Tryz.sizeOf52 (rd_5_0_5 _ _ _ _ _) ?_))))); clear h; intro a w h
  refine gL h (zt' rfl rfl (st_5_0_5 _ _ _ _ _ _ _ _ _ _) uu Tryz.sizeOf52 rfl nb rfl ?_); clear h; intro a w h
  refine wpList_nil (wp_ret ?_)
  refine retV h (results1 h rfl (.cell rfl mr Tryz.isAgg52 Tryz.sizeOf52 (rd_5_0_5 _ _ _ _ _))) ?_
  rfl
end
section
theorem bs_56_1_0 (x0_0 : Value) (x0_1 : Value) (x0_2 : Value) (x0_3 : Value) (x0_4 : Value) (w : World) : (Instr.buildSlice 56 1 [(0, .agg #[x0_0, x0_1, x0_2, x0_3, x0_4])].toArray).run Tryz.prog w = .ok (.slice (some ⟨w.heap.size, 0, none⟩) 1 1) (w.alloc (.cells #[x0_0, x0_1, x0_2, x0_3, x0_4] 52 (0, 0))) := by
  simp [go_sem]
/-- A polynomial times a + b t: the first i terms worked in. -/
def timesN (l : List Rat) (a b : Rat) : Nat → List Rat
  | 0 => List.replicate (l.length + 1) 0
  | i + 1 => ((timesN l a b i).set i ((timesN l a b i).getD i 0 + l.getD i 0 * a)).set (i + 1)
      (((timesN l a b i).set i ((timesN l a b i).getD i 0 + l.getD i 0 * a)).getD (i + 1) 0 + l.getD i 0 * b)
def timesQ (l : List Rat) (a b : Rat) : List Rat := timesN l a b l.length
theorem timesN_len (l : List Rat) (a b : Rat) : ∀ i, (timesN l a b i).length = l.length + 1
  | 0 => by simp [timesN]
  | i + 1 => by simp [timesN, timesN_len l a b i]
theorem lenQ_getD {l : List Rat} {k : Nat} (hk : 2 ≤ k) (h : ∀ x ∈ l, lenQ x ≤ k) (j : Nat) : lenQ (l.getD j 0) ≤ k := by
  by_cases hj : j < l.length
  · exact h _ (getD_mem l hj)
  · rw [List.getD_eq_getElem?_getD, List.getElem?_eq_none (by omega)]; have := lenQ_zero; exact Nat.le_trans this hk
theorem getD_set_cases (l : List Rat) (i j : Nat) (x : Rat) : (l.set i x).getD j 0 = x ∨ (l.set i x).getD j 0 = l.getD j 0 := by
  simp only [List.getD_eq_getElem?_getD, List.getElem?_set]
  by_cases h : i = j
  · subst h
    by_cases h2 : i < l.length
    · left; simp [h2]
    · right; simp [h2, List.getElem?_eq_none (Nat.le_of_not_lt h2)]
  · simp [h]
theorem lenQ_timesN (l : List Rat) (a b : Rat) (hl : ∀ x ∈ l, lenQ x ≤ 1000) (ha : lenQ a ≤ 1000) (hb : lenQ b ≤ 1000) : ∀ i j, lenQ ((timesN l a b i).getD j 0) ≤ 1000 + 4004 * i
  | 0, j => lenQ_getD (by omega) (fun x hx => by rw [timesN] at hx; rw [(List.mem_replicate.1 hx).2]; have := lenQ_zero; omega) j
  | i + 1, j => by
    have hx := lenQ_getD (k := 1000) (by omega) hl i
    have h1 := lenQ_timesN l a b hl ha hb i
    have h2 := lenQ_mul (l.getD i 0) a
    have h3 := lenQ_mul (l.getD i 0) b
    have h4 := lenQ_add ((timesN l a b i).getD i 0) (l.getD i 0 * a)
    have h5 := h1 i
    have h6 : ∀ j, lenQ (((timesN l a b i).set i ((timesN l a b i).getD i 0 + l.getD i 0 * a)).getD j 0) ≤ 3001 + 4004 * i := fun j => by
      rcases getD_set_cases (timesN l a b i) i j ((timesN l a b i).getD i 0 + l.getD i 0 * a) with h | h <;> rw [h]
      · omega
      · have := h1 j; omega
    have h7 := lenQ_add (((timesN l a b i).set i ((timesN l a b i).getD i 0 + l.getD i 0 * a)).getD (i + 1) 0) (l.getD i 0 * b)
    have h8 := h6 (i + 1)
    unfold timesN
    rcases getD_set_cases ((timesN l a b i).set i ((timesN l a b i).getD i 0 + l.getD i 0 * a)) (i + 1) j (((timesN l a b i).set i ((timesN l a b i).getD i 0 + l.getD i 0 * a)).getD (i + 1) 0 + l.getD i 0 * b) with h | h <;> rw [h]
    · omega
    · have := h6 j; omega

theorem C_times2 (ad : Option Addr) (c : Nat) (l : List Rat) (x y : Rat) (hn : l.length ≤ 1000) (hl : ∀ x ∈ l, lenQ x ≤ 1000) (hx : lenQ x ≤ 1000) (hy : lenQ y ≤ 1000) :
    CtrO Tryz.prog 86 [.slice ad l.length c, encQ x, encQ y] [Row ad (cellsOf encQ l)] (fun v σ => ∃ b, v = .slice (some ⟨b, 0, none⟩) (l.length + 1) (l.length + 1) ∧ σ = [(b, .cells (cellsOf encQ (timesQ l x y)).toArray 52 (0, 0))]) := by
  refine fn_introO Tryz.func86 rfl Tryz.ntmps86 nb ?_
  intro S w0 a hS h
  refine gC h (zs (zr (zx rfl fun b4 => zx rfl fun b5 => za rfl (zn (zs (zr (zm rfl (zp (.builtin [_] rfl (len_slice_56 _ _ _)) (zp (Pure1.cast (v' := (.int .i64 ((l.length + 1 : Nat) : Int))) (.add rfl rfl) (by show Value.int _ _ = Value.int _ _; congr 1)) ?_))))))))); clear h; intro a w h
  refine wpl_plain (op_makeSlice h rfl rfl Tryz.runUnderlying56 Tryz.typeInfo52 Tryz.sizeOf52 zeroQ rfl (by decide) (by omega) (by show 56 * (l.length + 1) ≤ 281474976710656; omega) (by omega) (by decide) ?_); clear h; intro b13 a w h; replace h := h.same rfl (by rw [← cellsOf_replicate (enc := encQ)]) rfl
  refine gL h (za rfl (zn (zs (zs (zr (zm rfl (zp (.builtin [_] rfl (len_slice_56 _ _ _)) (zm rfl (zn (zb ?_)))))))))); clear h; intro a w h
  refine wp_loop_inv (fun (i : Nat) a w => i ≤ l.length ∧ St 47 S w0 [(4, .pointer (some ⟨b4, 0, none⟩)), (5, .pointer (some ⟨b5, 0, none⟩)), (7, .slice (some ⟨b13, 0, none⟩) (l.length + 1) (l.length + 1)), (14, .slice ad l.length c), (15, .int .i64 ((l.length : Nat) : Int)), (16, .int .i64 ((i : Nat) : Int))] [(b13, .cells (cellsOf encQ (timesN l x y i)).toArray 52 (0, 0)), (b5, .cells (Value.cells (encQ (y))) 52 (0, 0)), (b4, .cells (Value.cells (encQ (x))) 52 (0, 0))] [Row ad (cellsOf encQ l)] a w) (fun i => l.length - i) 0 (⟨Nat.zero_le _, by exact (h).sub (subL ⟨rfl, rfl, rfl, rfl, rfl, rfl, trivial⟩)⟩) ?_; clear h
  rintro i a w ⟨hi_i, h⟩
  refine gC h (zs (zr (zp (.lss rfl rfl) (zn (zs ?_))))); clear h; intro a w h
  refine cond_split h rfl (fun hc17 => ?_) (fun hc17 => ?_)
  · skip
    have hlt_i : i < l.length := by have := of_decide_eq_true hc17; omega
    obtain ⟨B_ad, O_ad, rfl⟩ := h.row_addr (ad := ad) (M := cellsOf encQ l) mm (by intro e; have := congrArg List.length e; rw [cellsOf_length (k := 5) (fun _ => rfl)] at this; simp only [List.length_nil, Nat.mul_eq_zero] at this; omega)
    have hli := lenQ_getD (k := 1000) (by omega) hl i
    have hti := lenQ_timesN l x y hl hx hy i i
    have htl := timesN_len l x y i
    have hm1 := lenQ_mul (l.getD i 0) x
    have hm2 := lenQ_mul (l.getD i 0) y
    have hs1 := lenQ_add ((timesN l x y i).getD i 0) (l.getD i 0 * x)
    have hti2 : lenQ (((timesN l x y i).set i ((timesN l x y i).getD i 0 + l.getD i 0 * x)).getD (i + 1) 0) ≤ 6004 + 4004 * i := by
      have h1 := lenQ_timesN l x y hl hx hy i (i + 1)
      rcases getD_set_cases (timesN l x y i) i (i + 1) ((timesN l x y i).getD i 0 + l.getD i 0 * x) with h | h <;> rw [h] <;> omega
    refine gC h (zk (zs (zb (zs (zr (zm rfl (zp (.indexAddr rfl rfl (ix_56 _ _ _ _ _ (by omega))) (zD rfl mm (cells_lt (k := 5) (by decide) (fun _ => rfl) l i (by omega)) Tryz.isAgg52 Tryz.sizeOf52 (read_cells (k := 5) (fun _ => rfl) ((fun _ => rfl)) l 0 i (by omega)) (.inl rfl) ?_)))))))); clear h; intro a w h
    refine gL h (zz zeroQ fun b9 => za rfl (zt' rfl rfl (st_5_0_5 _ _ _ _ _ _ _ _ _ _) uu Tryz.sizeOf52 rfl nb rfl ?_)); clear h; intro a w h
    refine gL h (zn (zs (yD mixed_YtkhnecelhpnaoaaGreatDoor [0, 1, 2, 3, 4, 5, 6, 7, 8, 9, 10, 11] (floatsOK_none (by kernel_rfl)) (yp rfl (.move rfl) (yp rfl (.move rfl) (yp rfl (.move rfl) (yp rfl (.move rfl) (yp rfl (.indexAddr rfl rfl (ix_56 _ _ _ _ _ (by omega))) (yd rfl rfl mm Tryz.isAgg52 Tryz.sizeOf52 (read_cells0 (k := 5) (fun _ => rfl) ((fun _ => rfl)) (timesN l x y i) 0 i (by omega)) ?_))))))))); clear h
    refine yd rfl rfl mr Tryz.isAgg52 Tryz.sizeOf52 (rd_5_0_5 _ _ _ _ _) ?_
    refine yd rfl rfl mr Tryz.isAgg52 Tryz.sizeOf52 (rd_5_0_5 _ _ _ _ _) ?_
    refine yv [_, _] rfl rfl Tryz.call61 (C_QMul _ _ (by omega) (by omega)) ?_
    have hl29 := lenQ_mul (l.getD i 0) (x)
    refine yv [_, _] rfl rfl Tryz.call22 (C_QAdd _ _ (by omega) (by omega)) ?_
    have hl30 := lenQ_add ((timesN l x y i).getD i 0) ((l.getD i 0) * x)
    refine yp rfl (.indexAddr rfl rfl (ix_56 _ _ _ _ _ (by omega))) ?_
    refine head_store (b := b13) (cs := (cellsOf encQ (timesN l x y i)).toArray) (cs' := (cellsOf encQ ((timesN l x y i).set i (((timesN l x y i).getD i 0) + ((l.getD i 0) * x)))).toArray) (v := encQ (((timesN l x y i).getD i 0) + ((l.getD i 0) * x))) rfl (by kernel_rfl) rfl rfl (set_cells0 (k := 5) (fun _ => rfl) (timesN l x y i) i (by omega) (((timesN l x y i).getD i 0) + ((l.getD i 0) * x))) uu Tryz.sizeOf52 rfl (cells_le (k := 5) (fun _ => rfl) (timesN l x y i) i (by omega)) rfl ?_
    refine yn (yD mixed_YtkhnecelhpnaoaaGreatDoor [0, 1, 2, 3, 4, 5, 6, 7, 8, 9, 10, 11, 12, 13] (floatsOK_none (by kernel_rfl)) (yp rfl (.move rfl) (yp rfl (.move rfl) (yp rfl (Pure1.cast (v' := (.int .i64 ((i + 1 : Nat) : Int))) (.add rfl rfl) (by show Value.int _ _ = Value.int _ _; congr 1)) (yp rfl (.move rfl) (yp rfl (.move rfl) (yp rfl (Pure1.cast (v' := (.int .i64 ((i + 1 : Nat) : Int))) (.add rfl rfl) (by show Value.int _ _ = Value.int _ _; congr 1)) (yp rfl (.indexAddr rfl rfl (ix_56 _ _ _ _ _ (by omega))) (yd rfl rfl mm Tryz.isAgg52 Tryz.sizeOf52 (read_cells0 (k := 5) (fun _ => rfl) ((fun _ => rfl)) ((timesN l x y i).set i (((timesN l x y i).getD i 0) + ((l.getD i 0) * x))) 0 (i + 1) (by rw [List.length_set]; omega)) ?_)))))))))
    refine yd rfl rfl mr Tryz.isAgg52 Tryz.sizeOf52 (rd_5_0_5 _ _ _ _ _) ?_
    refine yd rfl rfl mr Tryz.isAgg52 Tryz.sizeOf52 (rd_5_0_5 _ _ _ _ _) ?_
    refine yv [_, _] rfl rfl Tryz.call61 (C_QMul _ _ (by omega) (by omega)) ?_
    have hl42 := lenQ_mul (l.getD i 0) (y)
    refine yv [_, _] rfl rfl Tryz.call22 (C_QAdd _ _ (by omega) (by omega)) ?_
    have hl43 := lenQ_add (((timesN l x y i).set i (((timesN l x y i).getD i 0) + ((l.getD i 0) * x))).getD (i + 1) 0) ((l.getD i 0) * y)
    refine yp rfl (.indexAddr rfl rfl (ix_56 _ _ _ _ _ (by omega))) ?_
    refine head_store (b := b13) (cs := (cellsOf encQ ((timesN l x y i).set i (((timesN l x y i).getD i 0) + ((l.getD i 0) * x)))).toArray) (cs' := (cellsOf encQ (((timesN l x y i).set i (((timesN l x y i).getD i 0) + ((l.getD i 0) * x))).set (i + 1) ((((timesN l x y i).set i (((timesN l x y i).getD i 0) + ((l.getD i 0) * x))).getD (i + 1) 0) + ((l.getD i 0) * y)))).toArray) (v := encQ ((((timesN l x y i).set i (((timesN l x y i).getD i 0) + ((l.getD i 0) * x))).getD (i + 1) 0) + ((l.getD i 0) * y))) rfl (by kernel_rfl) rfl rfl (set_cells0 (k := 5) (fun _ => rfl) ((timesN l x y i).set i (((timesN l x y i).getD i 0) + ((l.getD i 0) * x))) (i + 1) (by rw [List.length_set]; omega) ((((timesN l x y i).set i (((timesN l x y i).getD i 0) + ((l.getD i 0) * x))).getD (i + 1) 0) + ((l.getD i 0) * y))) uu Tryz.sizeOf52 rfl (cells_le (k := 5) (fun _ => rfl) ((timesN l x y i).set i (((timesN l x y i).getD i 0) + ((l.getD i 0) * x))) (i + 1) (by rw [List.length_set]; omega)) rfl ?_
    refine yn (zr (zp (Pure1.cast (v' := (.int .i64 ((i + 1 : Nat) : Int))) (.add rfl rfl) (by show Value.int _ _ = Value.int _ _; congr 1)) (zm rfl (zn ?_)))); intro a w h
    exact ⟨i + 1, ⟨by omega, ((h.drop sl).factsSub (by simp)).sub sA⟩, by omega⟩
  · skip
    have heq_i : l.length = i := by have := of_decide_eq_false hc17; omega
    subst heq_i
    refine gC h (ze (zs (zr (zm rfl (za rfl (zn (zt ?_))))))); clear h; intro a w h
    refine retO h (results1 h rfl (.tmp rfl)) ⟨_, rfl, rfl⟩ (List.Sublist.cons_cons _ (List.nil_sublist _))

def risingQ (n : Nat) : Nat → List Rat
  | 0 => [((1 : Int) : Rat)]
  | m + 1 => timesQ (risingQ n m) (((-((m : Nat) : Int) : Int) : Rat) / (((m + 1 : Nat) : Int) : Rat)) ((((n : Nat) : Int) : Rat) / (((m + 1 : Nat) : Int) : Rat))
theorem risingQ_len (n : Nat) : ∀ i, (risingQ n i).length = i + 1
  | 0 => rfl
  | i + 1 => by rw [risingQ, timesQ, timesN_len, risingQ_len n i]

theorem C_times2X (ad : Option Addr) (c n : Nat) (l : List Rat) (x y : Rat) (hln : n = l.length) (hn : l.length ≤ 1000) (hl : ∀ x ∈ l, lenQ x ≤ 1000) (hx : lenQ x ≤ 1000) (hy : lenQ y ≤ 1000) :
    CtrO Tryz.prog 86 [.slice ad n c, encQ x, encQ y] [Row ad (cellsOf encQ l)] (fun v σ => ∃ b, v = .slice (some ⟨b, 0, none⟩) (n + 1) (n + 1) ∧ σ = [(b, .cells (cellsOf encQ (timesQ l x y)).toArray 52 (0, 0))]) := by
  subst hln; exact C_times2 ad c l x y hn hl hx hy

theorem C_rising (n i : Nat) (hn : n ≤ 1000) (hi : i ≤ 100) (hs : ∀ m, m ≤ i → ∀ x ∈ risingQ n m, lenQ x ≤ 1000) :
    Ctr Tryz.prog 91 [.int .i64 ((n : Nat) : Int), .int .i64 ((i : Nat) : Int)] [] (fun v Ψ => ∃ ad c, v = .slice ad (i + 1) c ∧ Ψ = [Row ad (cellsOf encQ (risingQ n i))]) := by
  refine fn_intro Tryz.func91 rfl Tryz.ntmps91 nb ?_
  intro S w0 a hS h
  refine gC h (zs (zr (za rfl (zn (zs (zr (zv [_] rfl Tryz.call28 (C_QInt _ (by omega) (by omega)) ?_))))))); clear h; intro a w h
  have hl7 := lenQ_int (1) (by omega) (by omega)
  refine gL h (zB [(_, _)] rfl (bs_56_1_0 _ _ _ _ _) fun b8 => ?_); clear h; intro a w h
  replace h := h.shareAll hS (cellsOf encQ ([((1 : Int) : Rat)])) rfl
  refine gL h (za rfl (zn (zs (zs (zr (zm rfl (zm rfl (zn (zb ?_))))))))); clear h; intro a w h
  refine wp_loop_inv (fun (m : Nat) a w => m ≤ i ∧ ∃ (ad : Option Addr) (c : Nat), St 26 S w0 [(0, .int .i64 ((n : Nat) : Int)), (5, .slice ad (m + 1) c), (9, .int .i64 ((i : Nat) : Int)), (10, .int .i64 ((m : Nat) : Int))] [] [Row ad (cellsOf encQ (risingQ n m))] a w) (fun m => i - m) 0 (⟨Nat.zero_le _, _, _, by rw [show risingQ n 0 = [((1 : Int) : Rat)] from rfl]; exact (h.factsSub (by simp)).sub (subL ⟨rfl, rfl, rfl, rfl, trivial⟩)⟩) ?_; clear h
  rintro m a w ⟨hi_m, ad, c, h⟩
  refine gC h (zs (zr (zp (.lss rfl rfl) (zn (zs ?_))))); clear h; intro a w h
  refine cond_split h rfl (fun hc11 => ?_) (fun hc11 => ?_)
  · skip
    have hlt_m : m < i := by have := of_decide_eq_true hc11; omega
    have hsm := hs m (by omega)
    have hrl := risingQ_len n m
    have hq1 := lenQ_of (-((m : Nat) : Int)) ((m + 1 : Nat) : Int) (by omega) (by omega) (by omega) (by omega)
    have hq2 := lenQ_of ((n : Nat) : Int) ((m + 1 : Nat) : Int) (by omega) (by omega) (by omega) (by omega)
    refine gC h (zk (zs (zb (zs (zr (zm rfl (za rfl (zn (zr (zm rfl (zm rfl (zp (.unOp rfl (fun w => run_negi _ (by omega) (by omega) w)) (zm rfl (zp (Pure1.cast (v' := (.int .i64 ((m + 1 : Nat) : Int))) (.add rfl rfl) (by show Value.int _ _ = Value.int _ _; congr 1)) (zv [_, _] rfl Tryz.call85 (C_rratio _ _ (by omega) (by omega) (by omega) (by omega) (by omega)) ?_))))))))))))))); clear h; intro a w h
    have hl18 := lenQ_of (-((m : Nat) : Int)) (((m + 1 : Nat) : Int)) (by omega) (by omega) (by omega) (by omega)
    refine gL h (zm rfl (zm rfl (zp (Pure1.cast (v' := (.int .i64 ((m + 1 : Nat) : Int))) (.add rfl rfl) (by show Value.int _ _ = Value.int _ _; congr 1)) (zv [_, _] rfl Tryz.call85 (C_rratio _ _ (by omega) (by omega) (by omega) (by omega) (by omega)) ?_)))); clear h; intro a w h
    have hl22 := lenQ_of (((n : Nat) : Int)) (((m + 1 : Nat) : Int)) (by omega) (by omega) (by omega) (by omega)
    refine wpl_plain (op_callO h (vs := [_, _, _]) rfl Tryz.call86 (C_times2X ad c _ (risingQ n m) _ _ hrl.symm (by omega) hsm (by omega) (by omega)) (by simp) (by decide) ?_); clear h; rintro v23 σ23 a w ⟨b23, rfl, rfl⟩ h
    replace h := h.shareAll hS (cellsOf encQ (risingQ n (m + 1))) rfl
    refine gL h (za rfl (zn (zr (zp (Pure1.cast (v' := (.int .i64 ((m + 1 : Nat) : Int))) (.add rfl rfl) (by show Value.int _ _ = Value.int _ _; congr 1)) (zm rfl (zn ?_)))))); clear h; intro a w h
    exact ⟨m + 1, ⟨by omega, _, _, by exact (h.factsSub (by simp)).sub (subL ⟨rfl, rfl, rfl, rfl, trivial⟩)⟩, by omega⟩
  · skip
    have heq_m : i = m := by have := of_decide_eq_false hc11; omega
    subst heq_m
    refine gC h (ze (zs (zr (zm rfl (za rfl (zn (zt ?_))))))); clear h; intro a w h
    refine ret_of (Ψ := [Row _ (cellsOf encQ (risingQ n i))]) h (results1 h rfl (.tmp rfl)) ⟨_, _, rfl, rfl⟩ (by simp)
end
section
theorem fa_58_0 (b off : Nat) (w : World) : (Instr.fieldAt 58 (.pointer (some ⟨b, off, none⟩)) 0).run Tryz.prog w = .ok (.pointer (some ⟨b, off + 0, none⟩)) w := by
  simp [go_sem]
theorem len_slice_55 (a : Option Addr) (n c : Nat) (w : World) (ty : TypeId) (cs : Array Bool) : (Go.builtin .len #[55] ty cs #[.slice a n c]).run Tryz.prog w = .ok (.value (.int .i64 n)) w := by
  simp [go_sem]
theorem fa_58_1 (b off : Nat) (w : World) : (Instr.fieldAt 58 (.pointer (some ⟨b, off, none⟩)) 1).run Tryz.prog w = .ok (.pointer (some ⟨b, off + 1, none⟩)) w := by
  simp [go_sem]
theorem ix_55 (b off n c j : Nat) (h : j < n) (w : World) : (Instr.indexAt 55 (.slice (some ⟨b, off, none⟩) n c) (.int .i64 (j : Int))).run Tryz.prog w = .ok (.pointer (some ⟨b, off + j * 15, none⟩)) w := by
  simpa using indexAt_slice Tryz.runUnderlying55 Tryz.sizeOf62 b off n c j h w
theorem st_15_0_15 (c0 c1 c2 c3 c4 c5 c6 c7 c8 c9 c10 c11 c12 c13 c14 v0 v1 v2 v3 v4 v5 v6 v7 v8 v9 v10 v11 v12 v13 v14 : Value) : setFrom #[c0, c1, c2, c3, c4, c5, c6, c7, c8, c9, c10, c11, c12, c13, c14] 0 [v0, v1, v2, v3, v4, v5, v6, v7, v8, v9, v10, v11, v12, v13, v14] = #[v0, v1, v2, v3, v4, v5, v6, v7, v8, v9, v10, v11, v12, v13, v14] := by kernel_rfl
theorem sla_62 (b off : Nat) (w : World) : (Instr.sliceAt 62 (.pointer (some ⟨b, off, none⟩)) none none none).run Tryz.prog w = .ok (.slice (some ⟨b, off, none⟩) 3 3) w := by
  simp [go_sem, Instr.sliceAt, Instr.sliceBounds]
theorem ixc_62_0 (b off : Nat) (w : World) : (Instr.indexAt 62 (.pointer (some ⟨b, off, none⟩)) (.int .i64 0)).run Tryz.prog w = .ok (.pointer (some ⟨b, off + 0, none⟩)) w := by
  simp [go_sem, Instr.indexAt]
theorem rd_15_0_5 (c0 c1 c2 c3 c4 c5 c6 c7 c8 c9 c10 c11 c12 c13 c14 : Value) : readAt true 5 #[c0, c1, c2, c3, c4, c5, c6, c7, c8, c9, c10, c11, c12, c13, c14] 0 = some (.agg #[c0, c1, c2, c3, c4]) := rfl
theorem ixc_62_1 (b off : Nat) (w : World) : (Instr.indexAt 62 (.pointer (some ⟨b, off, none⟩)) (.int .i64 1)).run Tryz.prog w = .ok (.pointer (some ⟨b, off + 5, none⟩)) w := by
  simp [go_sem, Instr.indexAt]
theorem rd_15_5_5 (c0 c1 c2 c3 c4 c5 c6 c7 c8 c9 c10 c11 c12 c13 c14 : Value) : readAt true 5 #[c0, c1, c2, c3, c4, c5, c6, c7, c8, c9, c10, c11, c12, c13, c14] 5 = some (.agg #[c5, c6, c7, c8, c9]) := rfl
theorem ixc_62_2 (b off : Nat) (w : World) : (Instr.indexAt 62 (.pointer (some ⟨b, off, none⟩)) (.int .i64 2)).run Tryz.prog w = .ok (.pointer (some ⟨b, off + 10, none⟩)) w := by
  simp [go_sem, Instr.indexAt]
theorem rd_15_10_5 (c0 c1 c2 c3 c4 c5 c6 c7 c8 c9 c10 c11 c12 c13 c14 : Value) : readAt true 5 #[c0, c1, c2, c3, c4, c5, c6, c7, c8, c9, c10, c11, c12, c13, c14] 10 = some (.agg #[c10, c11, c12, c13, c14]) := rfl
def sum3 (p : Rat × Rat × Rat) : Rat := [p.1, p.2.1, p.2.2].foldl (· + ·) 0
/-- What Check answers. -/
def checkI (ps : List (Rat × Rat × Rat)) (ws : List Rat) : Int := if ps.length = ws.length then (if ∀ p ∈ ps, sum3 p = ((1 : Int) : Rat) then 0 else 1) else 1
theorem take_all {α : Type} {p : α → Prop} {l : List α} {i : Nat} {d : α} (h : ∀ x ∈ l.take i, p x) (hi : i < l.length) (hp : p (l.getD i d)) : ∀ x ∈ l.take (i + 1), p x := by
  intro x hx
  rw [List.take_add_one, List.getElem?_eq_getElem hi] at hx
  simp only [Option.toList_some, List.mem_append, List.mem_singleton] at hx
  rcases hx with hx | hx
  · exact h x hx
  · subst hx; simpa [List.getD, List.getElem?_eq_getElem hi] using hp

theorem C_Check (ad1 ad2 : Option Addr) (c1 c2 : Nat) (ps : List (Rat × Rat × Rat)) (ws : List Rat) (hnp : ps.length ≤ 1000) (hnw : ws.length ≤ 1000) (hps : ∀ p ∈ ps, lenQ p.1 ≤ 1000 ∧ lenQ p.2.1 ≤ 1000 ∧ lenQ p.2.2 ≤ 1000) :
    CtrW Tryz.prog 25 [.agg #[.slice ad1 ps.length c1, .slice ad2 ws.length c2]] [Row ad1 (cellsOf encP ps), Row ad2 (cellsOf encQ ws)] (.int .i64 (checkI ps ws)) := by
  refine fn_intro Tryz.func25 rfl Tryz.ntmps25 nb ?_
  intro S w0 a hS h
  refine gC h (zs (zr (zx rfl fun b1 => za rfl (zn (zs (zs (zr (zp (.fieldAddr rfl (fa_58_0 _ _)) (zd rfl mr Tryz.isAgg55 Tryz.sizeOf55 (rs_2_0 _ _) ?_))))))))); clear h; intro a w h
  refine gL h (zp (.builtin [_] rfl (len_slice_55 _ _ _)) (zp (.fieldAddr rfl (fa_58_1 _ _)) (zd rfl mr Tryz.isAgg56 Tryz.sizeOf56 (rs_2_1 _ _) ?_))); clear h; intro a w h
  refine gL h (zp (.builtin [_] rfl (len_slice_56 _ _ _)) (zp (.neq rfl rfl) ?_)); clear h; intro a w h
  refine by_bool h (fun hc11 h => ?_) (fun hc11 h => ?_)
  · skip
    have hne : ps.length ≠ ws.length := natNe hc11
    refine wpList_nil ?_
    change Code.wp _ _ _ _ _
    refine cond_true h rfl ?_
    refine gC h (zs (zr (za rfl (zn (zt ?_))))); clear h; intro a w h
    refine retV h (results1 h rfl (.tmp rfl)) ?_
    unfold checkI; rw [if_neg hne]
  · skip
    have hle : ps.length = ws.length := natEq hc11
    refine wpList_nil ?_
    change Code.wp _ _ _ _ _
    refine cond_false h rfl ?_
    refine gC h (zk (zs (zs (zr (zp (.fieldAddr rfl (fa_58_0 _ _)) (zd rfl mr Tryz.isAgg55 Tryz.sizeOf55 (rs_2_0 _ _) ?_)))))); clear h; intro a w h
    refine gL h (zp (.builtin [_] rfl (len_slice_55 _ _ _)) (zm rfl (zn (zb ?_)))); clear h; intro a w h
    refine wp_loop_inv (fun (i : Nat) a w => i ≤ ps.length ∧ (∀ x ∈ ps.take i, sum3 x = ((1 : Int) : Rat)) ∧ St 24 S w0 [(13, .slice ad1 ps.length c1), (14, .int .i64 ((ps.length : Nat) : Int)), (15, .int .i64 ((i : Nat) : Int))] [(b1, .cells (Value.cells (.agg #[.slice ad1 ps.length c1, .slice ad2 ws.length c2])) 58 (0, 0))] [Row ad1 (cellsOf encP ps), Row ad2 (cellsOf encQ ws)] a w) (fun i => ps.length - i) 0 (⟨Nat.zero_le _, by simp, by exact (h).sub (subL ⟨rfl, rfl, rfl, trivial⟩)⟩) ?_; clear h
    rintro i a w ⟨hi_i, hinv_i, h⟩
    refine gC h (zs (zr (zp (.lss rfl rfl) (zn (zs ?_))))); clear h; intro a w h
    refine cond_split h rfl (fun hc16 => ?_) (fun hc16 => ?_)
    · skip
      have hlt_i : i < ps.length := by have := of_decide_eq_true hc16; omega
      obtain ⟨B_ad1, O_ad1, rfl⟩ := h.row_addr (ad := ad1) (M := cellsOf encP ps) mm (by intro e; have := congrArg List.length e; rw [cellsOf_length (k := 15) (fun _ => rfl)] at this; simp only [List.length_nil, Nat.mul_eq_zero] at this; omega)
      have hpi := hps (ps.getD i (0, 0, 0)) (getD_mem _ hlt_i)
      refine gC h (zk (zs (zb (zs (zr (zp (.indexAddr rfl rfl (ix_55 _ _ _ _ _ (by omega))) (zD rfl mm (cells_lt (k := 15) (by decide) (fun _ => rfl) ps i (by omega)) Tryz.isAgg62 Tryz.sizeOf62 (read_cells (k := 15) (fun _ => rfl) ((fun _ => rfl)) ps (0, 0, 0) i (by omega)) (.inl rfl) ?_))))))); clear h; intro a w h
      refine gL h (zz zeroP fun b4 => zt' rfl rfl (st_15_0_15 _ _ _ _ _ _ _ _ _ _ _ _ _ _ _ _ _ _ _ _ _ _ _ _ _ _ _ _ _ _) uu Tryz.sizeOf62 rfl nb rfl ?_); clear h; intro a w h
      refine gL h (zn (zs (zr (zp (.slice rfl none none none rfl rfl rfl (sla_62 _ _)) ?_)))); clear h; intro a w h
      replace h := h.shareAll hS (cellsOf encQ ([(ps.getD i (0, 0, 0)).1, (ps.getD i (0, 0, 0)).2.1, (ps.getD i (0, 0, 0)).2.2])) rfl
      refine gL h (zw [_] rfl Tryz.call45 (C_QSum _ _ [(ps.getD i (0, 0, 0)).1, (ps.getD i (0, 0, 0)).2.1, (ps.getD i (0, 0, 0)).2.2] (by simp) (by intro x hx; simp only [List.mem_cons, List.not_mem_nil, or_false] at hx; rcases hx with rfl | rfl | rfl <;> omega)) (zv [_] rfl Tryz.call28 (C_QInt _ (by omega) (by omega)) ?_)); clear h; intro a w h
      have hl21 := lenQ_int (1) (by omega) (by omega)
      refine gL h (zp (.binOp rfl rfl (fun _ => run_neQ _ _ (sum3 (ps.getD i (0, 0, 0))) (((1 : Int) : Rat)) _)) (zn ?_)); clear h; intro a w h
      change Code.wp _ _ _ _ _
      refine cond_split h rfl (fun hc22 => ?_) (fun hc22 => ?_)
      · skip
        have hbad : ¬ sum3 (ps.getD i (0, 0, 0)) = ((1 : Int) : Rat) := by simpa [sum3] using hc22
        refine gC h (zs (zr (za rfl (zn (zt ?_))))); clear h; intro a w h
        refine retV h (results1 h rfl (.tmp rfl)) ?_
        unfold checkI; rw [if_pos hle, if_neg (fun hh => hbad (hh _ (getD_mem _ hlt_i)))]
      · skip
        have hgood : sum3 (ps.getD i (0, 0, 0)) = ((1 : Int) : Rat) := by simpa [sum3] using hc22
        refine gC h (zk (zr (zp (Pure1.cast (v' := (.int .i64 ((i + 1 : Nat) : Int))) (.add rfl rfl) (by show Value.int _ _ = Value.int _ _; congr 1)) (zm rfl (zn ?_))))); clear h; intro a w h
        exact ⟨i + 1, ⟨by omega, take_all hinv_i hlt_i hgood, (h.factsSub (by simp)).sub sA⟩, by omega⟩
    · skip
      have heq_i : ps.length = i := by have := of_decide_eq_false hc16; omega
      subst heq_i
      refine gC h (ze (zs (zr (za rfl (zn (zt ?_)))))); clear h; intro a w h
      refine retV h (results1 h rfl (.tmp rfl)) ?_
      rw [List.take_length] at hinv_i; unfold checkI; rw [if_pos hle, if_pos hinv_i]

/-- The sum that a rule gives for a monomial: the first n points. -/
def msum (ps : List (Rat × Rat × Rat)) (ws : List Rat) (i j k : Nat) : Nat → Rat
  | 0 => 0
  | n + 1 => msum ps ws i j k n + ws.getD n 0 * ((ps.getD n (0, 0, 0)).1 ^ i * ((ps.getD n (0, 0, 0)).2.1 ^ j * (ps.getD n (0, 0, 0)).2.2 ^ k))
theorem lenQ_msum (ps : List (Rat × Rat × Rat)) (ws : List Rat) (i j k : Nat) (hps : ∀ p ∈ ps, lenQ p.1 ≤ 1000 ∧ lenQ p.2.1 ≤ 1000 ∧ lenQ p.2.2 ≤ 1000) (hws : ∀ x ∈ ws, lenQ x ≤ 1000) (hi : i ≤ 100) (hj : j ≤ 100) (hk : k ≤ 100) (hle : ps.length = ws.length) :
    ∀ n, n ≤ ws.length → lenQ (msum ps ws i j k n) ≤ 2 + 301007 * n
  | 0, _ => by rw [msum]; have := lenQ_zero; omega
  | n + 1, h => by
    have h0 := lenQ_msum ps ws i j k hps hws hi hj hk hle n (by omega)
    have hp := hps (ps.getD n (0, 0, 0)) (getD_mem _ (by omega))
    have hw := hws (ws.getD n 0) (getD_mem _ (by omega))
    rw [msum]
    generalize ps.getD n (0, 0, 0) = p at *
    generalize ws.getD n 0 = x at *
    have a1 := lenQ_powle p.1 i 1000 100 hp.1 hi
    have a2 := lenQ_powle p.2.1 j 1000 100 hp.2.1 hj
    have a3 := lenQ_powle p.2.2 k 1000 100 hp.2.2 hk
    have b1 := lenQ_mul (p.2.1 ^ j) (p.2.2 ^ k)
    have b2 := lenQ_mul (p.1 ^ i) (p.2.1 ^ j * p.2.2 ^ k)
    have b3 := lenQ_mul x (p.1 ^ i * (p.2.1 ^ j * p.2.2 ^ k))
    have b4 := lenQ_add (msum ps ws i j k n) (x * (p.1 ^ i * (p.2.1 ^ j * p.2.2 ^ k)))
    omega
/-- All monomials of degree d have their moments. -/
def okDeg (ps : List (Rat × Rat × Rat)) (ws : List Rat) (d : Nat) : Prop := ∀ i, i < d + 1 → ∀ j, j < d - i + 1 → msum ps ws i j (d - i - j) ws.length = momentQ i j (d - i - j)
instance (ps : List (Rat × Rat × Rat)) (ws : List Rat) (d : Nat) : Decidable (okDeg ps ws d) := by unfold okDeg; infer_instance
def exN (ps : List (Rat × Rat × Rat)) (ws : List Rat) : Nat → Nat → Nat
  | 0, d => d
  | f + 1, d => if okDeg ps ws d then exN ps ws f (d + 1) else d
/-- What Exact answers for a valid rule. -/
def exactI (ps : List (Rat × Rat × Rat)) (ws : List Rat) : Int := (exN ps ws 13 0 : Int) - 1
theorem exN_end (ps : List (Rat × Rat × Rat)) (ws : List Rat) : ∀ (f d e : Nat), d ≤ e → e ≤ d + f → (∀ x, d ≤ x → x < e → okDeg ps ws x) → (e = d + f ∨ ¬ okDeg ps ws e) → exN ps ws f d = e
  | 0, d, e, h1, h2, _, _ => by rw [exN]; omega
  | f + 1, d, e, h1, h2, h3, h4 => by
    rw [exN]
    by_cases h : d = e
    · subst h
      rcases h4 with h4 | h4
      · omega
      · rw [if_neg h4]
    · rw [if_pos (h3 d (Nat.le_refl _) (by omega))]
      exact exN_end ps ws f (d + 1) e (by omega) (by omega) (fun x hx hy => h3 x (by omega) hy) (h4.imp (fun h => by omega) id)

theorem C_Exact (ad1 ad2 : Option Addr) (c1 c2 : Nat) (ps : List (Rat × Rat × Rat)) (ws : List Rat) (hnp : ps.length ≤ 1000) (hnw : ws.length ≤ 1000) (hps : ∀ p ∈ ps, lenQ p.1 ≤ 1000 ∧ lenQ p.2.1 ≤ 1000 ∧ lenQ p.2.2 ≤ 1000) (hws : ∀ x ∈ ws, lenQ x ≤ 1000) (hv : checkI ps ws = 0) :
    CtrW Tryz.prog 26 [.agg #[.slice ad1 ps.length c1, .slice ad2 ws.length c2]] [Row ad1 (cellsOf encP ps), Row ad2 (cellsOf encQ ws)] (.int .i64 (exactI ps ws)) := by
  have hle : ps.length = ws.length := by
    unfold checkI at hv; by_cases h : ps.length = ws.length
    · exact h
    · rw [if_neg h] at hv; cases hv
  refine fn_intro Tryz.func26 rfl Tryz.ntmps26 nb ?_
  intro S w0 a hS h
  refine gC h (zs (zr (zx rfl fun b1 => za rfl (zn (zc (zs (zs (zr (zd rfl mr Tryz.isAgg58 Tryz.sizeOf58 (rd_2_0_2 _ _) ?_))))))))); clear h; intro a w h
  refine gL h (zw [_] rfl Tryz.call25 (C_Check ad1 ad2 c1 c2 ps ws hnp hnw hps) (zp (.neq rfl rfl) (zn ?_))); clear h; intro a w h
  change Code.wp _ _ _ _ _
  refine cond_split h rfl (fun hc13 => (by exfalso; rw [hv] at hc13; exact absurd hc13 (by decide))) (fun hc13 => ?_)
  refine gC h (zk (zs (zr (za rfl (zn (zs (zl (zs (zs (zr (zm rfl (zn (zb ?_))))))))))))); clear h; intro a w h
  refine wp_loop_inv (fun (d : Nat) a w => d ≤ 13 ∧ (∀ x, x < d → okDeg ps ws x) ∧ St 80 S w0 [(1, .pointer (some ⟨b1, 0, none⟩)), (2, .int .i64 0), (3, .int .i64 (((d : Nat) : Int) - 1)), (14, .int .i64 ((d : Nat) : Int))] [(b1, .cells (Value.cells (.agg #[.slice ad1 ps.length c1, .slice ad2 ws.length c2])) 58 (0, 0))] [Row ad1 (cellsOf encP ps), Row ad2 (cellsOf encQ ws)] a w) (fun d => 13 - d) 0 (⟨Nat.zero_le _, fun x hx => absurd hx (Nat.not_lt_zero _), by exact (h).sub (subL ⟨rfl, rfl, rfl, rfl, trivial⟩)⟩) ?_; clear h
  rintro d a w ⟨hi_d, hinv_d, h⟩
  refine gC h (zs (zr (zp (.lss rfl rfl) (zn (zs ?_))))); clear h; intro a w h
  refine cond_split h rfl (fun hc15 => ?_) (fun hc15 => ?_)
  · skip
    have hlt_d : d < 13 := by have := of_decide_eq_true hc15; omega
    refine gC h (zk (zs (zb (zs (zr (zm rfl (za rfl (zn (zs (zs (zr (zm rfl (zp (Pure1.cast (v' := (.int .i64 ((d + 1 : Nat) : Int))) (.add rfl rfl) (by show Value.int _ _ = Value.int _ _; congr 1)) (zm rfl (zn (zb ?_)))))))))))))))); clear h; intro a w h
    refine wp_loop_inv (fun (i : Nat) a w => i ≤ (d + 1) ∧ (∀ i', i' < i → ∀ j, j < d - i' + 1 → msum ps ws i' j (d - i' - j) ws.length = momentQ i' j (d - i' - j)) ∧ St 80 S w0 [(1, .pointer (some ⟨b1, 0, none⟩)), (2, .int .i64 0), (3, .int .i64 (((d : Nat) : Int) - 1)), (4, .int .i64 ((d : Nat) : Int)), (14, .int .i64 ((d : Nat) : Int)), (18, .int .i64 ((d + 1 : Nat) : Int)), (19, .int .i64 ((i : Nat) : Int))] [(b1, .cells (Value.cells (.agg #[.slice ad1 ps.length c1, .slice ad2 ws.length c2])) 58 (0, 0))] [Row ad1 (cellsOf encP ps), Row ad2 (cellsOf encQ ws)] a w) (fun i => (d + 1) - i) 0 (⟨Nat.zero_le _, fun x hx => absurd hx (Nat.not_lt_zero _), by exact (h).sub (subL ⟨rfl, rfl, rfl, rfl, rfl, rfl, rfl, trivial⟩)⟩) ?_; clear h
    rintro i a w ⟨hi_i, hinv_i, h⟩
    refine gC h (zs (zr (zp (.lss rfl rfl) (zn (zs ?_))))); clear h; intro a w h
    refine cond_split h rfl (fun hc20 => ?_) (fun hc20 => ?_)
    · skip
      have hlt_i : i < (d + 1) := by have := of_decide_eq_true hc20; omega
      refine gC h (zk (zs (zb (zs (zr (zm rfl (za rfl (zn (zs (zr (zm rfl (zm rfl (zp (Pure1.cast (v' := (.int .i64 ((d - i : Nat) : Int))) (.sub rfl rfl) (by show Value.int _ _ = Value.int _ _; congr 1; omega)) (zp (Pure1.cast (v' := (.int .i64 (((d - i) + 1 : Nat) : Int))) (.add rfl rfl) (by show Value.int _ _ = Value.int _ _; congr 1)) (zm rfl (zn (zb ?_))))))))))))))))); clear h; intro a w h
      refine wp_loop_inv (fun (j : Nat) a w => j ≤ (d - i + 1) ∧ (∀ j', j' < j → msum ps ws i j' (d - i - j') ws.length = momentQ i j' (d - i - j')) ∧ St 80 S w0 [(1, .pointer (some ⟨b1, 0, none⟩)), (2, .int .i64 0), (3, .int .i64 (((d : Nat) : Int) - 1)), (4, .int .i64 ((d : Nat) : Int)), (5, .int .i64 ((i : Nat) : Int)), (14, .int .i64 ((d : Nat) : Int)), (18, .int .i64 ((d + 1 : Nat) : Int)), (19, .int .i64 ((i : Nat) : Int)), (25, .int .i64 (((d - i) + 1 : Nat) : Int)), (26, .int .i64 ((j : Nat) : Int))] [(b1, .cells (Value.cells (.agg #[.slice ad1 ps.length c1, .slice ad2 ws.length c2])) 58 (0, 0))] [Row ad1 (cellsOf encP ps), Row ad2 (cellsOf encQ ws)] a w) (fun j => (d - i + 1) - j) 0 (⟨Nat.zero_le _, fun x hx => absurd hx (Nat.not_lt_zero _), by exact (h).sub (subL ⟨rfl, rfl, rfl, rfl, rfl, rfl, rfl, rfl, rfl, rfl, trivial⟩)⟩) ?_; clear h
      rintro j a w ⟨hi_j, hinv_j, h⟩
      refine gC h (zs (zr (zp (.lss rfl rfl) (zn (zs ?_))))); clear h; intro a w h
      refine cond_split h rfl (fun hc27 => ?_) (fun hc27 => ?_)
      · skip
        have hlt_j : j < (d - i + 1) := by have := of_decide_eq_true hc27; omega
        refine gC h (zk (zs (zb (zs (zr (zm rfl (za rfl (zn (zs (zr (zz zeroQ fun b7 => zn (zs (zs (zr (zp (.fieldAddr rfl (fa_58_1 _ _)) (zd rfl mr Tryz.isAgg56 Tryz.sizeOf56 (rs_2_1 _ _) ?_)))))))))))))))); clear h; intro a w h
        refine gL h (zp (.builtin [_] rfl (len_slice_56 _ _ _)) (zm rfl (zn (zb ?_)))); clear h; intro a w h
        refine wp_loop_inv (fun (n : Nat) a w => n ≤ ws.length ∧ St 80 S w0 [(1, .pointer (some ⟨b1, 0, none⟩)), (2, .int .i64 0), (3, .int .i64 (((d : Nat) : Int) - 1)), (4, .int .i64 ((d : Nat) : Int)), (5, .int .i64 ((i : Nat) : Int)), (6, .int .i64 ((j : Nat) : Int)), (7, .pointer (some ⟨b7, 0, none⟩)), (14, .int .i64 ((d : Nat) : Int)), (18, .int .i64 ((d + 1 : Nat) : Int)), (19, .int .i64 ((i : Nat) : Int)), (25, .int .i64 (((d - i) + 1 : Nat) : Int)), (26, .int .i64 ((j : Nat) : Int)), (30, .slice ad2 ws.length c2), (31, .int .i64 ((ws.length : Nat) : Int)), (32, .int .i64 ((n : Nat) : Int))] [(b7, .cells (Value.cells (encQ (msum ps ws i j (d - i - j) n))) 52 (0, 0)), (b1, .cells (Value.cells (.agg #[.slice ad1 ps.length c1, .slice ad2 ws.length c2])) 58 (0, 0))] [Row ad1 (cellsOf encP ps), Row ad2 (cellsOf encQ ws)] a w) (fun n => ws.length - n) 0 (⟨Nat.zero_le _, by exact (h).sub (subL ⟨rfl, rfl, rfl, rfl, rfl, rfl, rfl, rfl, rfl, rfl, rfl, rfl, rfl, rfl, rfl, trivial⟩)⟩) ?_; clear h
        rintro n a w ⟨hi_n, h⟩
        refine gC h (zs (zr (zp (.lss rfl rfl) (zn (zs ?_))))); clear h; intro a w h
        refine cond_split h rfl (fun hc33 => ?_) (fun hc33 => ?_)
        · skip
          have hlt_n : n < ws.length := by have := of_decide_eq_true hc33; omega
          obtain ⟨B_ad2, O_ad2, rfl⟩ := h.row_addr (ad := ad2) (M := cellsOf encQ ws) mm (by intro e; have := congrArg List.length e; rw [cellsOf_length (k := 5) (fun _ => rfl)] at this; simp only [List.length_nil, Nat.mul_eq_zero] at this; omega)
          obtain ⟨B_ad1, O_ad1, rfl⟩ := h.row_addr (ad := ad1) (M := cellsOf encP ps) mm (by intro e; have := congrArg List.length e; rw [cellsOf_length (k := 15) (fun _ => rfl)] at this; simp only [List.length_nil, Nat.mul_eq_zero] at this; omega)
          have hp := hps (ps.getD n (0, 0, 0)) (getD_mem _ (by omega))
          have hw := hws (ws.getD n 0) (getD_mem _ (by omega))
          have hm := lenQ_msum ps ws i j (d - i - j) hps hws (by omega) (by omega) (by omega) hle n (by omega)
          refine gC h (zk (zs (zb (zs (zr (zm rfl (zp (.indexAddr rfl rfl (ix_56 _ _ _ _ _ (by omega))) (zD rfl mm (cells_lt (k := 5) (by decide) (fun _ => rfl) ws n (by omega)) Tryz.isAgg52 Tryz.sizeOf52 (read_cells (k := 5) (fun _ => rfl) ((fun _ => rfl)) ws 0 n (by omega)) (.inl rfl) ?_)))))))); clear h; intro a w h
          refine gL h (zz zeroQ fun b9 => za rfl (zt' rfl rfl (st_5_0_5 _ _ _ _ _ _ _ _ _ _) uu Tryz.sizeOf52 rfl nb rfl ?_)); clear h; intro a w h
          refine gL h (zn (zs (zr (zp (.fieldAddr rfl (fa_58_0 _ _)) (zd rfl mr Tryz.isAgg55 Tryz.sizeOf55 (rs_2_0 _ _) ?_))))); clear h; intro a w h
          refine gL h (zm rfl (zp (.indexAddr rfl rfl (ix_55 _ _ _ _ _ (by omega))) (zD rfl mm (cells_lt (k := 15) (by decide) (fun _ => rfl) ps n (by omega)) Tryz.isAgg62 Tryz.sizeOf62 (read_cells (k := 15) (fun _ => rfl) ((fun _ => rfl)) ps (0, 0, 0) n (by omega)) (.inl rfl) ?_))); clear h; intro a w h
          refine gL h (zz zeroP fun b10 => zt' rfl rfl (st_15_0_15 _ _ _ _ _ _ _ _ _ _ _ _ _ _ _ _ _ _ _ _ _ _ _ _ _ _ _ _ _ _) uu Tryz.sizeOf62 rfl nb rfl ?_); clear h; intro a w h
          refine gL h (zn (yD mixed_YtkhnecelhpnaoaaGreatDoor [0, 1, 2, 3, 4, 6, 7, 8, 10, 11, 12, 13, 14, 15, 16, 5, 9, 17, 18, 19, 20, 21, 22] (floatsOK_none (by kernel_rfl)) (yd rfl rfl mr Tryz.isAgg52 Tryz.sizeOf52 (rd_5_0_5 _ _ _ _ _) ?_))); clear h
          refine yd rfl rfl mr Tryz.isAgg52 Tryz.sizeOf52 (rd_5_0_5 _ _ _ _ _) ?_
          refine yp rfl (.indexAddr rfl rfl (ixc_62_0 _ _)) (yd rfl rfl mr Tryz.isAgg52 Tryz.sizeOf52 (rd_15_0_5 _ _ _ _ _ _ _ _ _ _ _ _ _ _ _) ?_)
          refine yp rfl (.move rfl) (yp rfl (.indexAddr rfl rfl (ixc_62_1 _ _)) (yd rfl rfl mr Tryz.isAgg52 Tryz.sizeOf52 (rd_15_5_5 _ _ _ _ _ _ _ _ _ _ _ _ _ _ _) ?_))
          refine yp rfl (.move rfl) (yp rfl (.indexAddr rfl rfl (ixc_62_2 _ _)) (yd rfl rfl mr Tryz.isAgg52 Tryz.sizeOf52 (rd_15_10_5 _ _ _ _ _ _ _ _ _ _ _ _ _ _ _) ?_))
          refine yp rfl (.move rfl) (yp rfl (.move rfl) (yp rfl (Pure1.cast (v' := (.int .i64 ((d - i : Nat) : Int))) (.sub rfl rfl) (by show Value.int _ _ = Value.int _ _; congr 1; omega)) (yp rfl (.move rfl) (yp rfl (Pure1.cast (v' := (.int .i64 (((d - i) - j : Nat) : Int))) (.sub rfl rfl) (by show Value.int _ _ = Value.int _ _; congr 1; omega)) (yv [_, _] rfl rfl Tryz.call82 (C_power _ _ (by omega) (by omega)) ?_)))))
          have hl47 := lenQ_powle ((ps.getD n (0, 0, 0)).1) (i) 1000 100 (by omega) (by omega)
          refine yv [_, _] rfl rfl Tryz.call82 (C_power _ _ (by omega) (by omega)) ?_
          have hl51 := lenQ_powle ((ps.getD n (0, 0, 0)).2.1) (j) 1000 100 (by omega) (by omega)
          refine yv [_, _] rfl rfl Tryz.call82 (C_power _ _ (by omega) (by omega)) ?_
          have hl59 := lenQ_powle ((ps.getD n (0, 0, 0)).2.2) ((d - i) - j) 1000 100 (by omega) (by omega)
          refine yv [_, _] rfl rfl Tryz.call61 (C_QMul _ _ (by omega) (by omega)) ?_
          have hl60 := lenQ_mul (((ps.getD n (0, 0, 0)).2.1) ^ j) (((ps.getD n (0, 0, 0)).2.2) ^ ((d - i) - j))
          refine yv [_, _] rfl rfl Tryz.call61 (C_QMul _ _ (by omega) (by omega)) ?_
          have hl61 := lenQ_mul (((ps.getD n (0, 0, 0)).1) ^ i) ((((ps.getD n (0, 0, 0)).2.1) ^ j) * (((ps.getD n (0, 0, 0)).2.2) ^ ((d - i) - j)))
          refine yv [_, _] rfl rfl Tryz.call61 (C_QMul _ _ (by omega) (by omega)) ?_
          have hl62 := lenQ_mul (ws.getD n 0) ((((ps.getD n (0, 0, 0)).1) ^ i) * ((((ps.getD n (0, 0, 0)).2.1) ^ j) * (((ps.getD n (0, 0, 0)).2.2) ^ ((d - i) - j))))
          refine yv [_, _] rfl rfl Tryz.call22 (C_QAdd _ _ (by omega) (by omega)) ?_
          have hl63 := lenQ_add (msum ps ws i j (d - i - j) n) ((ws.getD n 0) * ((((ps.getD n (0, 0, 0)).1) ^ i) * ((((ps.getD n (0, 0, 0)).2.1) ^ j) * (((ps.getD n (0, 0, 0)).2.2) ^ ((d - i) - j)))))
          refine yt rfl rfl rfl (st_5_0_5 _ _ _ _ _ _ _ _ _ _) uu Tryz.sizeOf52 rfl nb rfl ?_
          refine yn (zr (zp (Pure1.cast (v' := (.int .i64 ((n + 1 : Nat) : Int))) (.add rfl rfl) (by show Value.int _ _ = Value.int _ _; congr 1)) (zm rfl (zn ?_)))); intro a w h
          exact ⟨n + 1, ⟨by omega, ((h.drop sl).factsSub (by simp)).sub sA⟩, by omega⟩
        · skip
          have heq_n : ws.length = n := by have := of_decide_eq_false hc33; omega
          subst heq_n
          refine gC h (ze (zs (yD mixed_YtkhnecelhpnaoaaGreatDoor [0, 1, 2, 3, 4, 5, 6, 7, 8, 9] (floatsOK_none (by kernel_rfl)) (yd rfl rfl mr Tryz.isAgg52 Tryz.sizeOf52 (rd_5_0_5 _ _ _ _ _) ?_)))); clear h
          refine yp rfl (.move rfl) (yp rfl (.move rfl) (yp rfl (.move rfl) (yp rfl (.move rfl) (yp rfl (Pure1.cast (v' := (.int .i64 ((d - i : Nat) : Int))) (.sub rfl rfl) (by show Value.int _ _ = Value.int _ _; congr 1; omega)) (yp rfl (.move rfl) (yp rfl (Pure1.cast (v' := (.int .i64 (((d - i) - j : Nat) : Int))) (.sub rfl rfl) (by show Value.int _ _ = Value.int _ _; congr 1; omega)) (yv [_, _, _] rfl rfl Tryz.call42 (C_Moment _ _ _ (by omega) (by omega) (by omega)) ?_)))))))
          have hl73 := lenQ_moment (i) (j) ((d - i) - j) (by omega) (by omega) (by omega)
          refine yp rfl (.binOp rfl rfl (fun _ => run_neQ _ _ (msum ps ws i j (d - i - j) ws.length) (momentQ i j ((d - i) - j)) _)) (yn ?_); intro a w h
          change Code.wp _ _ _ _ _
          refine cond_split h rfl (fun hc74 => ?_) (fun hc74 => ?_)
          · skip
            have hbad : ¬ msum ps ws i j (d - i - j) ws.length = momentQ i j (d - i - j) := by simpa using hc74
            refine gC h (ze (zs (zr (zm rfl (za rfl (zn (zt ?_))))))); clear h; intro a w h
            refine retV h (results1 h rfl (.tmp rfl)) ?_
            unfold exactI; rw [exN_end ps ws 13 0 d (Nat.zero_le _) (by omega) (fun x _ hx => hinv_d x hx) (.inr (fun hk => hbad (hk i (by omega) j (by omega))))]
          · skip
            have hgood : msum ps ws i j (d - i - j) ws.length = momentQ i j (d - i - j) := by simpa using hc74
            refine gC h (zk (zr (zp (Pure1.cast (v' := (.int .i64 ((j + 1 : Nat) : Int))) (.add rfl rfl) (by show Value.int _ _ = Value.int _ _; congr 1)) (zm rfl (zn ?_))))); clear h; intro a w h
            exact ⟨j + 1, ⟨by omega, fun x hx => by rcases Nat.lt_or_ge x j with h | h; exact hinv_j x h; rw [show x = j by omega]; exact hgood, (h.drop sl).sub sA⟩, by omega⟩
      · skip
        have heq_j : (d - i + 1) = j := by have := of_decide_eq_false hc27; omega
        subst heq_j
        refine gC h (ze (zr (zp (Pure1.cast (v' := (.int .i64 ((i + 1 : Nat) : Int))) (.add rfl rfl) (by show Value.int _ _ = Value.int _ _; congr 1)) (zm rfl (zn ?_))))); clear h; intro a w h
        exact ⟨i + 1, ⟨by omega, fun x hx => by rcases Nat.lt_or_ge x i with h | h; exact hinv_i x h; rw [show x = i by omega]; exact hinv_j, h.sub sA⟩, by omega⟩
    · skip
      have heq_i : (d + 1) = i := by have := of_decide_eq_false hc20; omega
      subst heq_i
      refine gC h (ze (zr (zp (Pure1.cast (v' := .int .i64 (((d + 1 : Nat) : Int) - 1)) (.move rfl) (by show Value.int _ _ = Value.int _ _; congr 1; omega)) (za rfl (zn (zr (zp (Pure1.cast (v' := (.int .i64 ((d + 1 : Nat) : Int))) (.add rfl rfl) (by show Value.int _ _ = Value.int _ _; congr 1)) (zm rfl (zn ?_))))))))); clear h; intro a w h
      exact ⟨d + 1, ⟨by omega, fun x hx => by rcases Nat.lt_or_ge x d with h | h; exact hinv_d x h; rw [show x = d by omega]; exact hinv_i, h.sub sA⟩, by omega⟩
  · skip
    have heq_d : 13 = d := by have := of_decide_eq_false hc15; omega
    subst heq_d
    refine gC h (ze (zs (zr (zm rfl (za rfl (zn (zt ?_))))))); clear h; intro a w h
    refine retV h (results1 h rfl (.tmp rfl)) ?_
    unfold exactI; rw [exN_end ps ws 13 0 13 (Nat.zero_le _) (by omega) (fun x _ hx => hinv_d x hx) (.inl rfl)]
end
section
theorem bd_62_0_1_2 (x0_0 : Value) (x0_1 : Value) (x0_2 : Value) (x0_3 : Value) (x0_4 : Value) (x1_0 : Value) (x1_1 : Value) (x1_2 : Value) (x1_3 : Value) (x1_4 : Value) (x2_0 : Value) (x2_1 : Value) (x2_2 : Value) (x2_3 : Value) (x2_4 : Value) (w : World) : (Instr.build 62 [(0, .agg #[x0_0, x0_1, x0_2, x0_3, x0_4]), (1, .agg #[x1_0, x1_1, x1_2, x1_3, x1_4]), (2, .agg #[x2_0, x2_1, x2_2, x2_3, x2_4])].toArray).run Tryz.prog w = .ok (.agg #[x0_0, x0_1, x0_2, x0_3, x0_4, x1_0, x1_1, x1_2, x1_3, x1_4, x2_0, x2_1, x2_2, x2_3, x2_4]) w := by simp [go_sem]
theorem bs_55_1_0 (x0_0 : Value) (x0_1 : Value) (x0_2 : Value) (x0_3 : Value) (x0_4 : Value) (x0_5 : Value) (x0_6 : Value) (x0_7 : Value) (x0_8 : Value) (x0_9 : Value) (x0_10 : Value) (x0_11 : Value) (x0_12 : Value) (x0_13 : Value) (x0_14 : Value) (w : World) : (Instr.buildSlice 55 1 [(0, .agg #[x0_0, x0_1, x0_2, x0_3, x0_4, x0_5, x0_6, x0_7, x0_8, x0_9, x0_10, x0_11, x0_12, x0_13, x0_14])].toArray).run Tryz.prog w = .ok (.slice (some ⟨w.heap.size, 0, none⟩) 1 1) (w.alloc (.cells #[x0_0, x0_1, x0_2, x0_3, x0_4, x0_5, x0_6, x0_7, x0_8, x0_9, x0_10, x0_11, x0_12, x0_13, x0_14] 62 (0, 0))) := by
  simp [go_sem]
theorem st_2_0_1 (c0 c1 v0 : Value) : setFrom #[c0, c1] 0 [v0] = #[v0, c1] := rfl
theorem st_2_1_1 (c0 c1 v0 : Value) : setFrom #[c0, c1] 1 [v0] = #[c0, v0] := rfl
/-- The weight's partial sums. -/
def w3 (acc ab : Rat) (l : List Rat) (p q : Nat) : Nat → Rat
  | 0 => acc
  | s + 1 => w3 acc ab l p q s + ab * (l.getD s 0 * momentQ p q s)
def w2 (acc a : Rat) (lj lk : List Rat) (p kk : Nat) : Nat → Rat
  | 0 => acc
  | q + 1 => w3 (w2 acc a lj lk p kk q) (a * lj.getD q 0) lk p q kk
def w1 (li lj lk : List Rat) (jj kk : Nat) : Nat → Rat
  | 0 => 0
  | p + 1 => w2 (w1 li lj lk jj kk p) (li.getD p 0) lj lk p kk jj
def weightQ (n i j k : Nat) : Rat := w1 (risingQ n i) (risingQ n j) (risingQ n k) (j + 1) (k + 1) (i + 1)
theorem lenQ_w3 (acc ab : Rat) (l : List Rat) (p q : Nat) (hab : lenQ ab ≤ 2000) (hl : ∀ x ∈ l, lenQ x ≤ 1000) (hp : p ≤ 48) (hq : q ≤ 48) : ∀ s, s ≤ 48 → lenQ (w3 acc ab l p q s) ≤ lenQ acc + 4001 * s
  | 0, _ => Nat.le_refl _
  | s + 1, h => by
    have h1 := lenQ_w3 acc ab l p q hab hl hp hq s (by omega)
    have h2 := lenQ_getD (k := 1000) (by omega) hl s
    have h3 := lenQ_moment p q s hp hq (by omega)
    have h4 := lenQ_mul (l.getD s 0) (momentQ p q s)
    have h5 := lenQ_mul ab (l.getD s 0 * momentQ p q s)
    have h6 := lenQ_add (w3 acc ab l p q s) (ab * (l.getD s 0 * momentQ p q s))
    rw [w3]; omega
theorem lenQ_w2 (acc a : Rat) (lj lk : List Rat) (p kk : Nat) (ha : lenQ a ≤ 1000) (hj : ∀ x ∈ lj, lenQ x ≤ 1000) (hk : ∀ x ∈ lk, lenQ x ≤ 1000) (hp : p ≤ 48) (hkk : kk ≤ 10) : ∀ q, q ≤ 10 → lenQ (w2 acc a lj lk p kk q) ≤ lenQ acc + 40010 * q
  | 0, _ => Nat.le_refl _
  | q + 1, h => by
    have h1 := lenQ_w2 acc a lj lk p kk ha hj hk hp hkk q (by omega)
    have h2 := lenQ_getD (k := 1000) (by omega) hj q
    have h3 := lenQ_mul a (lj.getD q 0)
    have h4 := lenQ_w3 (w2 acc a lj lk p kk q) (a * lj.getD q 0) lk p q (by omega) hk hp (by omega) kk (by omega)
    rw [w2]; omega
theorem lenQ_w1 (li lj lk : List Rat) (jj kk : Nat) (hi : ∀ x ∈ li, lenQ x ≤ 1000) (hj : ∀ x ∈ lj, lenQ x ≤ 1000) (hk : ∀ x ∈ lk, lenQ x ≤ 1000) (hjj : jj ≤ 10) (hkk : kk ≤ 10) : ∀ p, p ≤ 10 → lenQ (w1 li lj lk jj kk p) ≤ 2 + 400100 * p
  | 0, _ => by rw [w1]; have := lenQ_zero; omega
  | p + 1, h => by
    have h1 := lenQ_w1 li lj lk jj kk hi hj hk hjj hkk p (by omega)
    have h2 := lenQ_getD (k := 1000) (by omega) hi p
    have h4 := lenQ_w2 (w1 li lj lk jj kk p) (li.getD p 0) lj lk p kk (by omega) hj hk (by omega) hkk jj (by omega)
    rw [w1]; omega

theorem C_weight (n i j k b o : Nat) (hn : n ≤ 1000) (hi : i ≤ 9) (hj : j ≤ 9) (hk : k ≤ 9) (hs : ∀ m, m ≤ 9 → ∀ x ∈ risingQ n m, lenQ x ≤ 1000) :
    CtrW Tryz.prog 90 [.int .i64 ((i : Nat) : Int), .int .i64 ((j : Nat) : Int), .int .i64 ((k : Nat) : Int), .pointer (some ⟨b, o, none⟩)] [Row (some ⟨b, o, none⟩) [.int .i64 ((n : Nat) : Int)]] (encQ (weightQ n i j k)) := by
  have hsi := hs i hi
  have hsj := hs j hj
  have hsk := hs k hk
  refine fn_intro Tryz.func90 rfl Tryz.ntmps90 nb ?_
  intro S w0 a hS h
  refine gC h (zs (zr (zz zeroQ fun b7 => zn (zs (zs (zr (zD (b := b) (off := o) (j := 0) (M := [.int .i64 ((n : Nat) : Int)]) (v := .int .i64 ((n : Nat) : Int)) rfl mm (Nat.succ_pos _) Tryz.isAgg3 Tryz.sizeOf3 rfl (.inr rfl) ?_))))))); clear h; intro a w h
  refine gL h (zm rfl (zf [_, _] rfl Tryz.call91 (C_rising n i (by omega) (by omega) (fun m hm => hs m (by omega))) ?_)); clear h; rintro v16 Ψ16 ⟨ad16, c16, rfl, rfl⟩ a w h
  refine gL h (zp (.builtin [_] rfl (len_slice_56 _ _ _)) (zm rfl (zn (zb ?_)))); clear h; intro a w h
  refine wp_loop_inv (fun (p : Nat) a w => p ≤ (i + 1) ∧ St 57 S w0 [(1, .int .i64 ((j : Nat) : Int)), (2, .int .i64 ((k : Nat) : Int)), (3, .pointer (some ⟨b, o, none⟩)), (7, .pointer (some ⟨b7, 0, none⟩)), (16, .slice ad16 (i + 1) c16), (17, .int .i64 (((i + 1) : Nat) : Int)), (18, .int .i64 ((p : Nat) : Int))] [(b7, .cells (Value.cells (encQ (w1 (risingQ n i) (risingQ n j) (risingQ n k) (j + 1) (k + 1) p))) 52 (0, 0))] [Row ad16 (cellsOf encQ (risingQ n i)), Row (some ⟨b, o, none⟩) [.int .i64 ((n : Nat) : Int)]] a w) (fun p => (i + 1) - p) 0 (⟨Nat.zero_le _, by exact (h).sub (subL ⟨rfl, rfl, rfl, rfl, rfl, rfl, rfl, trivial⟩)⟩) ?_; clear h
  rintro p a w ⟨hi_p, h⟩
  refine gC h (zs (zr (zp (.lss rfl rfl) (zn (zs ?_))))); clear h; intro a w h
  refine cond_split h rfl (fun hc19 => ?_) (fun hc19 => ?_)
  · skip
    have hlt_p : p < (i + 1) := by have := of_decide_eq_true hc19; omega
    have hli := risingQ_len n i
    obtain ⟨B_ad16, O_ad16, rfl⟩ := h.row_addr (ad := ad16) (M := cellsOf encQ (risingQ n i)) mm (by intro e; have := congrArg List.length e; rw [cellsOf_length (k := 5) (fun _ => rfl)] at this; simp only [List.length_nil, Nat.mul_eq_zero] at this; omega)
    have hgp := lenQ_getD (k := 1000) (by omega) hsi p
    have hw1 := lenQ_w1 (risingQ n i) (risingQ n j) (risingQ n k) (j + 1) (k + 1) hsi hsj hsk (by omega) (by omega) p (by omega)
    refine gC h (zk (zs (zb (zs (zr (zm rfl (zp (.indexAddr rfl rfl (ix_56 _ _ _ _ _ (by omega))) (zD rfl mm (cells_lt (k := 5) (by decide) (fun _ => rfl) (risingQ n i) p (by omega)) Tryz.isAgg52 Tryz.sizeOf52 (read_cells (k := 5) (fun _ => rfl) ((fun _ => rfl)) (risingQ n i) 0 p (by omega)) (.inl rfl) ?_)))))))); clear h; intro a w h
    refine gL h (zz zeroQ fun b9 => za rfl (zt' rfl rfl (st_5_0_5 _ _ _ _ _ _ _ _ _ _) uu Tryz.sizeOf52 rfl nb rfl ?_)); clear h; intro a w h
    refine gL h (zn (zs (zr (zD (b := b) (off := o) (j := 0) (M := [.int .i64 ((n : Nat) : Int)]) (v := .int .i64 ((n : Nat) : Int)) rfl mm (Nat.succ_pos _) Tryz.isAgg3 Tryz.sizeOf3 rfl (.inr rfl) ?_)))); clear h; intro a w h
    refine gL h (zm rfl (zf [_, _] rfl Tryz.call91 (C_rising n j (by omega) (by omega) (fun m hm => hs m (by omega))) ?_)); clear h; rintro v25 Ψ25 ⟨ad25, c25, rfl, rfl⟩ a w h
    refine gL h (zp (.builtin [_] rfl (len_slice_56 _ _ _)) (zm rfl (zn (zb ?_)))); clear h; intro a w h
    refine wp_loop_inv (fun (q : Nat) a w => q ≤ (j + 1) ∧ St 57 S w0 [(1, .int .i64 ((j : Nat) : Int)), (2, .int .i64 ((k : Nat) : Int)), (3, .pointer (some ⟨b, o, none⟩)), (7, .pointer (some ⟨b7, 0, none⟩)), (8, .int .i64 ((p : Nat) : Int)), (9, .pointer (some ⟨b9, 0, none⟩)), (16, .slice (some ⟨B_ad16, O_ad16, none⟩) (i + 1) c16), (17, .int .i64 (((i + 1) : Nat) : Int)), (18, .int .i64 ((p : Nat) : Int)), (25, .slice ad25 (j + 1) c25), (26, .int .i64 (((j + 1) : Nat) : Int)), (27, .int .i64 ((q : Nat) : Int))] [(b9, .cells (Value.cells (encQ ((risingQ n i).getD p 0))) 52 (0, 0)), (b7, .cells (Value.cells (encQ (w2 (w1 (risingQ n i) (risingQ n j) (risingQ n k) (j + 1) (k + 1) p) ((risingQ n i).getD p 0) (risingQ n j) (risingQ n k) p (k + 1) q))) 52 (0, 0))] [Row ad25 (cellsOf encQ (risingQ n j)), Row (some ⟨B_ad16, O_ad16, none⟩) (cellsOf encQ (risingQ n i)), Row (some ⟨b, o, none⟩) [.int .i64 ((n : Nat) : Int)]] a w) (fun q => (j + 1) - q) 0 (⟨Nat.zero_le _, by exact (h).sub (subL ⟨rfl, rfl, rfl, rfl, rfl, rfl, rfl, rfl, rfl, rfl, rfl, rfl, trivial⟩)⟩) ?_; clear h
    rintro q a w ⟨hi_q, h⟩
    refine gC h (zs (zr (zp (.lss rfl rfl) (zn (zs ?_))))); clear h; intro a w h
    refine cond_split h rfl (fun hc28 => ?_) (fun hc28 => ?_)
    · skip
      have hlt_q : q < (j + 1) := by have := of_decide_eq_true hc28; omega
      have hlj := risingQ_len n j
      obtain ⟨B_ad25, O_ad25, rfl⟩ := h.row_addr (ad := ad25) (M := cellsOf encQ (risingQ n j)) mm (by intro e; have := congrArg List.length e; rw [cellsOf_length (k := 5) (fun _ => rfl)] at this; simp only [List.length_nil, Nat.mul_eq_zero] at this; omega)
      have hgq := lenQ_getD (k := 1000) (by omega) hsj q
      have hw2 := lenQ_w2 (w1 (risingQ n i) (risingQ n j) (risingQ n k) (j + 1) (k + 1) p) ((risingQ n i).getD p 0) (risingQ n j) (risingQ n k) p (k + 1) (by omega) hsj hsk (by omega) (by omega) q (by omega)
      have hmab := lenQ_mul ((risingQ n i).getD p 0) ((risingQ n j).getD q 0)
      refine gC h (zk (zs (zb (zs (zr (zm rfl (zp (.indexAddr rfl rfl (ix_56 _ _ _ _ _ (by omega))) (zD rfl mm (cells_lt (k := 5) (by decide) (fun _ => rfl) (risingQ n j) q (by omega)) Tryz.isAgg52 Tryz.sizeOf52 (read_cells (k := 5) (fun _ => rfl) ((fun _ => rfl)) (risingQ n j) 0 q (by omega)) (.inl rfl) ?_)))))))); clear h; intro a w h
      refine gL h (zz zeroQ fun b11 => za rfl (zt' rfl rfl (st_5_0_5 _ _ _ _ _ _ _ _ _ _) uu Tryz.sizeOf52 rfl nb rfl ?_)); clear h; intro a w h
      refine gL h (zn (zs (zr (zD (b := b) (off := o) (j := 0) (M := [.int .i64 ((n : Nat) : Int)]) (v := .int .i64 ((n : Nat) : Int)) rfl mm (Nat.succ_pos _) Tryz.isAgg3 Tryz.sizeOf3 rfl (.inr rfl) ?_)))); clear h; intro a w h
      refine gL h (zm rfl (zf [_, _] rfl Tryz.call91 (C_rising n k (by omega) (by omega) (fun m hm => hs m (by omega))) ?_)); clear h; rintro v34 Ψ34 ⟨ad34, c34, rfl, rfl⟩ a w h
      refine gL h (zp (.builtin [_] rfl (len_slice_56 _ _ _)) (zm rfl (zn (zb ?_)))); clear h; intro a w h
      refine wp_loop_inv (fun (s : Nat) a w => s ≤ (k + 1) ∧ St 57 S w0 [(1, .int .i64 ((j : Nat) : Int)), (2, .int .i64 ((k : Nat) : Int)), (3, .pointer (some ⟨b, o, none⟩)), (7, .pointer (some ⟨b7, 0, none⟩)), (8, .int .i64 ((p : Nat) : Int)), (9, .pointer (some ⟨b9, 0, none⟩)), (10, .int .i64 ((q : Nat) : Int)), (11, .pointer (some ⟨b11, 0, none⟩)), (16, .slice (some ⟨B_ad16, O_ad16, none⟩) (i + 1) c16), (17, .int .i64 (((i + 1) : Nat) : Int)), (18, .int .i64 ((p : Nat) : Int)), (25, .slice (some ⟨B_ad25, O_ad25, none⟩) (j + 1) c25), (26, .int .i64 (((j + 1) : Nat) : Int)), (27, .int .i64 ((q : Nat) : Int)), (34, .slice ad34 (k + 1) c34), (35, .int .i64 (((k + 1) : Nat) : Int)), (36, .int .i64 ((s : Nat) : Int))] [(b11, .cells (Value.cells (encQ ((risingQ n j).getD q 0))) 52 (0, 0)), (b9, .cells (Value.cells (encQ ((risingQ n i).getD p 0))) 52 (0, 0)), (b7, .cells (Value.cells (encQ (w3 (w2 (w1 (risingQ n i) (risingQ n j) (risingQ n k) (j + 1) (k + 1) p) ((risingQ n i).getD p 0) (risingQ n j) (risingQ n k) p (k + 1) q) (((risingQ n i).getD p 0) * ((risingQ n j).getD q 0)) (risingQ n k) p q s))) 52 (0, 0))] [Row ad34 (cellsOf encQ (risingQ n k)), Row (some ⟨B_ad25, O_ad25, none⟩) (cellsOf encQ (risingQ n j)), Row (some ⟨B_ad16, O_ad16, none⟩) (cellsOf encQ (risingQ n i)), Row (some ⟨b, o, none⟩) [.int .i64 ((n : Nat) : Int)]] a w) (fun s => (k + 1) - s) 0 (⟨Nat.zero_le _, by exact (h).sub (subL ⟨rfl, rfl, rfl, rfl, rfl, rfl, rfl, rfl, rfl, rfl, rfl, rfl, rfl, rfl, rfl, rfl, rfl, trivial⟩)⟩) ?_; clear h
      rintro s a w ⟨hi_s, h⟩
      refine gC h (zs (zr (zp (.lss rfl rfl) (zn (zs ?_))))); clear h; intro a w h
      refine cond_split h rfl (fun hc37 => ?_) (fun hc37 => ?_)
      · skip
        have hlt_s : s < (k + 1) := by have := of_decide_eq_true hc37; omega
        have hlk := risingQ_len n k
        obtain ⟨B_ad34, O_ad34, rfl⟩ := h.row_addr (ad := ad34) (M := cellsOf encQ (risingQ n k)) mm (by intro e; have := congrArg List.length e; rw [cellsOf_length (k := 5) (fun _ => rfl)] at this; simp only [List.length_nil, Nat.mul_eq_zero] at this; omega)
        have hgs := lenQ_getD (k := 1000) (by omega) hsk s
        have hw3 := lenQ_w3 (w2 (w1 (risingQ n i) (risingQ n j) (risingQ n k) (j + 1) (k + 1) p) ((risingQ n i).getD p 0) (risingQ n j) (risingQ n k) p (k + 1) q) (((risingQ n i).getD p 0) * ((risingQ n j).getD q 0)) (risingQ n k) p q (by omega) hsk (by omega) (by omega) s (by omega)
        refine gC h (zk (zs (zb (zs (zr (zm rfl (zp (.indexAddr rfl rfl (ix_56 _ _ _ _ _ (by omega))) (zD rfl mm (cells_lt (k := 5) (by decide) (fun _ => rfl) (risingQ n k) s (by omega)) Tryz.isAgg52 Tryz.sizeOf52 (read_cells (k := 5) (fun _ => rfl) ((fun _ => rfl)) (risingQ n k) 0 s (by omega)) (.inl rfl) ?_)))))))); clear h; intro a w h
        refine gL h (zz zeroQ fun b13 => za rfl (zt' rfl rfl (st_5_0_5 _ _ _ _ _ _ _ _ _ _) uu Tryz.sizeOf52 rfl nb rfl ?_)); clear h; intro a w h
        refine gL h (zn (yD mixed_YtkhnecelhpnaoaaGreatDoor [0, 1, 2, 4, 5, 6, 7, 3, 8, 9, 10, 11, 12] (floatsOK_none (by kernel_rfl)) (yd rfl rfl mr Tryz.isAgg52 Tryz.sizeOf52 (rd_5_0_5 _ _ _ _ _) ?_))); clear h
        refine yd rfl rfl mr Tryz.isAgg52 Tryz.sizeOf52 (rd_5_0_5 _ _ _ _ _) ?_
        refine yd rfl rfl mr Tryz.isAgg52 Tryz.sizeOf52 (rd_5_0_5 _ _ _ _ _) ?_
        refine yd rfl rfl mr Tryz.isAgg52 Tryz.sizeOf52 (rd_5_0_5 _ _ _ _ _) ?_
        refine yp rfl (.move rfl) (yp rfl (.move rfl) (yp rfl (.move rfl) (yv [_, _] rfl rfl Tryz.call61 (C_QMul _ _ (by omega) (by omega)) ?_)))
        have hl44 := lenQ_mul ((risingQ n i).getD p 0) ((risingQ n j).getD q 0)
        refine yv [_, _, _] rfl rfl Tryz.call42 (C_Moment _ _ _ (by omega) (by omega) (by omega)) ?_
        have hl49 := lenQ_moment (p) (q) (s) (by omega) (by omega) (by omega)
        refine yv [_, _] rfl rfl Tryz.call61 (C_QMul _ _ (by omega) (by omega)) ?_
        have hl50 := lenQ_mul ((risingQ n k).getD s 0) (momentQ p q s)
        refine yv [_, _] rfl rfl Tryz.call61 (C_QMul _ _ (by omega) (by omega)) ?_
        have hl51 := lenQ_mul (((risingQ n i).getD p 0) * ((risingQ n j).getD q 0)) (((risingQ n k).getD s 0) * (momentQ p q s))
        refine yv [_, _] rfl rfl Tryz.call22 (C_QAdd _ _ (by omega) (by omega)) ?_
        have hl52 := lenQ_add (w3 (w2 (w1 (risingQ n i) (risingQ n j) (risingQ n k) (j + 1) (k + 1) p) ((risingQ n i).getD p 0) (risingQ n j) (risingQ n k) p (k + 1) q) (((risingQ n i).getD p 0) * ((risingQ n j).getD q 0)) (risingQ n k) p q s) ((((risingQ n i).getD p 0) * ((risingQ n j).getD q 0)) * (((risingQ n k).getD s 0) * (momentQ p q s)))
        refine yt rfl rfl rfl (st_5_0_5 _ _ _ _ _ _ _ _ _ _) uu Tryz.sizeOf52 rfl nb rfl ?_
        refine yn (zr (zp (Pure1.cast (v' := (.int .i64 ((s + 1 : Nat) : Int))) (.add rfl rfl) (by show Value.int _ _ = Value.int _ _; congr 1)) (zm rfl (zn ?_)))); intro a w h
        exact ⟨s + 1, ⟨by omega, ((h.drop sl).factsSub (by simp)).sub sA⟩, by omega⟩
      · skip
        have heq_s : (k + 1) = s := by have := of_decide_eq_false hc37; omega
        subst heq_s
        refine gC h (ze (zr (zp (Pure1.cast (v' := (.int .i64 ((q + 1 : Nat) : Int))) (.add rfl rfl) (by show Value.int _ _ = Value.int _ _; congr 1)) (zm rfl (zn ?_))))); clear h; intro a w h
        exact ⟨q + 1, ⟨by omega, ((h.drop sl).factsSub (by simp)).sub sA⟩, by omega⟩
    · skip
      have heq_q : (j + 1) = q := by have := of_decide_eq_false hc28; omega
      subst heq_q
      refine gC h (ze (zr (zp (Pure1.cast (v' := (.int .i64 ((p + 1 : Nat) : Int))) (.add rfl rfl) (by show Value.int _ _ = Value.int _ _; congr 1)) (zm rfl (zn ?_))))); clear h; intro a w h
      exact ⟨p + 1, ⟨by omega, ((h.drop sl).factsSub (by simp)).sub sA⟩, by omega⟩
  · skip
    have heq_p : (i + 1) = p := by have := of_decide_eq_false hc19; omega
    subst heq_p
    refine gC h (ze (zs (zr (zd rfl mr Tryz.isAgg52 Tryz.sizeOf52 (rd_5_0_5 _ _ _ _ _) ?_)))); clear h; intro a w h
    refine gL h (zt' rfl rfl (st_5_0_5 _ _ _ _ _ _ _ _ _ _) uu Tryz.sizeOf52 rfl nb rfl ?_); clear h; intro a w h
    refine wpList_nil (wp_ret ?_)
    refine retV h (results1 h rfl (.cell rfl mr Tryz.isAgg52 Tryz.sizeOf52 (rd_5_0_5 _ _ _ _ _))) ?_
    rfl

/-- The values of f over a triangle's lattice, row by row. -/
def rowT {α : Type} (f : Nat → Nat → Nat → α) (n r : Nat) : Nat → List α
  | 0 => []
  | q + 1 => rowT f n r q ++ [f (n - r) (r - q) q]
def triT {α : Type} (f : Nat → Nat → Nat → α) (n : Nat) : Nat → List α
  | 0 => []
  | r + 1 => triT f n r ++ rowT f n r (r + 1)
theorem tri_row {α : Type} (f : Nat → Nat → Nat → α) (n r q : Nat) : triT f n r ++ rowT f n r (q + 1) = (triT f n r ++ rowT f n r q) ++ [f (n - r) (r - q) q] := (List.append_assoc _ _ _).symm
theorem rowT_len {α : Type} (f : Nat → Nat → Nat → α) (n r : Nat) : ∀ q, (rowT f n r q).length = q
  | 0 => rfl
  | q + 1 => by rw [rowT, List.length_append, rowT_len f n r q]; rfl
theorem triT_len {α : Type} (f : Nat → Nat → Nat → α) (n : Nat) : ∀ r, r ≤ 10 → (triT f n r).length ≤ 10 * r
  | 0, _ => by simp [triT]
  | r + 1, h => by have := triT_len f n r (by omega); rw [triT, List.length_append, rowT_len]; omega
def ptQ (n i j k : Nat) : Rat × Rat × Rat := ((((i : Nat) : Int) : Rat) / (((n : Nat) : Int) : Rat), (((j : Nat) : Int) : Rat) / (((n : Nat) : Int) : Rat), (((k : Nat) : Int) : Rat) / (((n : Nat) : Int) : Rat))
def latP (n : Nat) : List (Rat × Rat × Rat) := triT (ptQ n) n (n + 1)
def latW (n : Nat) : List Rat := triT (weightQ n) n (n + 1)

theorem C_Lattice (n : Nat) (h1 : 1 ≤ n) (h6 : n ≤ 6) (hs : ∀ m, m ≤ 9 → ∀ x ∈ risingQ n m, lenQ x ≤ 1000) :
    Ctr Tryz.prog 33 [.int .i64 ((n : Nat) : Int)] [] (fun v Ψ => ∃ ad1 c1 ad2 c2, v = .tuple #[.agg #[.slice ad1 (latP n).length c1, .slice ad2 (latW n).length c2], .int .i64 0] ∧ Ψ = [Row ad2 (cellsOf encQ (latW n)), Row ad1 (cellsOf encP (latP n))]) := by
  refine fn_intro Tryz.func33 rfl Tryz.ntmps33 nb ?_
  intro S w0 a hS h
  refine gC h (zs (zr (zx rfl fun b1 => ?_))); clear h; intro a w h
  replace h := h.shareAll hS ([.int .i64 ((n : Nat) : Int)]) rfl
  refine gL h (zz Tryz.zeroValue58 fun b2 => za rfl (zn (zs (zb (zs (zr (zD (b := b1) (off := 0) (j := 0) (M := [.int .i64 ((n : Nat) : Int)]) (v := .int .i64 ((n : Nat) : Int)) rfl mm (Nat.succ_pos _) Tryz.isAgg3 Tryz.sizeOf3 rfl (.inr rfl) ?_))))))); clear h; intro a w h
  refine gL h (zp (.lss rfl rfl) (za rfl (zn ?_))); clear h; intro a w h
  change Code.wp _ _ _ _ _
  refine cond_split h rfl (fun hc9 => (by exfalso; have := of_decide_eq_true hc9; omega)) (fun hc9 => ?_)
  refine gC h (zs (zr (zD (b := b1) (off := 0) (j := 0) (M := [.int .i64 ((n : Nat) : Int)]) (v := .int .i64 ((n : Nat) : Int)) rfl mm (Nat.succ_pos _) Tryz.isAgg3 Tryz.sizeOf3 rfl (.inr rfl) ?_))); clear h; intro a w h
  refine gL h (zp (.gtr rfl rfl) (za rfl (zn ?_))); clear h; intro a w h
  change Code.wp _ _ _ _ _
  refine cond_split h rfl (fun hc13 => (by exfalso; have := of_decide_eq_true hc13; omega)) (fun hc13 => ?_)
  refine gC h (zk (zs (zr (zz Tryz.zeroValue58 fun b4 => zn (zs (zr (zp (.makeFunc [] [_] rfl rfl) (za rfl (zn (zs (zs (zr (zD (b := b1) (off := 0) (j := 0) (M := [.int .i64 ((n : Nat) : Int)]) (v := .int .i64 ((n : Nat) : Int)) rfl mm (Nat.succ_pos _) Tryz.isAgg3 Tryz.sizeOf3 rfl (.inr rfl) ?_))))))))))))); clear h; intro a w h
  refine gL h (za rfl (zn (zb ?_))); clear h; intro a w h
  refine wp_loop_inv (fun (r : Nat) a w => r ≤ (n + 1) ∧ ∃ (ad1 : Option Addr) (c1 : Nat) (o1 : List (Nat × Obj)) (ad2 : Option Addr) (c2 : Nat) (o2 : List (Nat × Obj)), (GrowO 15 62 (.slice ad1 (triT (ptQ n) n r).length c1) (triT (ptQ n) n r).length (cellsOf encP (triT (ptQ n) n r)) o1 ∧ GrowO 5 52 (.slice ad2 (triT (weightQ n) n r).length c2) (triT (weightQ n) n r).length (cellsOf encQ (triT (weightQ n) n r)) o2) ∧ St 61 S w0 [(1, .pointer (some ⟨b1, 0, none⟩)), (2, .pointer (some ⟨b2, 0, none⟩)), (3, .int .i64 0), (4, .pointer (some ⟨b4, 0, none⟩)), (5, .func (.func 90) #[] #[.pointer (some ⟨b1, 0, none⟩)]), (6, .int .i64 (((n : Nat) : Int) - ((r : Nat) : Int))), (18, .int .i64 ((n : Nat) : Int))] (o2 ++ (o1 ++ ((b4, .cells (Value.cells (.agg #[(.slice ad1 (triT (ptQ n) n r).length c1), (.slice ad2 (triT (weightQ n) n r).length c2)])) 58 (0, 0)) :: ((b2, .cells (Value.cells (.agg #[.slice none 0 0, .slice none 0 0])) 58 (0, 0)) :: [])))) [Row (some ⟨b1, 0, none⟩) ([.int .i64 ((n : Nat) : Int)])] a w) (fun r => (n + 1) - r) 0 (⟨Nat.zero_le _, none, 0, [], none, 0, [], ⟨GrowO.nil _ _, GrowO.nil _ _⟩, by exact (h).sub (subL ⟨rfl, rfl, rfl, rfl, rfl, rfl, rfl, trivial⟩)⟩) ?_; clear h
  rintro r a w ⟨hi_r, ad1, c1, o1, ad2, c2, o2, ⟨hG1, hG2⟩, h⟩
  refine gC h (zs (zs (zr (zm rfl (zp (.geq rfl rfl) (zn ?_)))))); clear h; intro a w h
  change Code.wp _ _ _ _ _
  refine cond_split h rfl (fun hc20 => ?_) (fun hc20 => ?_)
  · skip
    have hlt_r : r < (n + 1) := by have := of_decide_eq_true hc20; omega
    rw [show ((n : Nat) : Int) - ((r : Nat) : Int) = ((n - r : Nat) : Int) from by omega] at h
    refine gC h (zk (zs (zb (zs (zr (zD (b := b1) (off := 0) (j := 0) (M := [.int .i64 ((n : Nat) : Int)]) (v := .int .i64 ((n : Nat) : Int)) rfl mm (Nat.succ_pos _) Tryz.isAgg3 Tryz.sizeOf3 rfl (.inr rfl) ?_)))))); clear h; intro a w h
    refine gL h (zm rfl (zp (Pure1.cast (v' := .int .i64 ((r : Nat) : Int)) (.sub rfl rfl) (by show Value.int _ _ = Value.int _ _; congr 1; omega)) (za rfl (zn (zb ?_))))); clear h; intro a w h
    refine wp_loop_inv (fun (q : Nat) a w => q ≤ (r + 1) ∧ ∃ (ad3 : Option Addr) (c3 : Nat) (o3 : List (Nat × Obj)) (ad4 : Option Addr) (c4 : Nat) (o4 : List (Nat × Obj)), (GrowO 15 62 (.slice ad3 (triT (ptQ n) n r ++ rowT (ptQ n) n r q).length c3) (triT (ptQ n) n r ++ rowT (ptQ n) n r q).length (cellsOf encP (triT (ptQ n) n r ++ rowT (ptQ n) n r q)) o3 ∧ GrowO 5 52 (.slice ad4 (triT (weightQ n) n r ++ rowT (weightQ n) n r q).length c4) (triT (weightQ n) n r ++ rowT (weightQ n) n r q).length (cellsOf encQ (triT (weightQ n) n r ++ rowT (weightQ n) n r q)) o4) ∧ St 61 S w0 [(1, .pointer (some ⟨b1, 0, none⟩)), (2, .pointer (some ⟨b2, 0, none⟩)), (3, .int .i64 0), (4, .pointer (some ⟨b4, 0, none⟩)), (5, .func (.func 90) #[] #[.pointer (some ⟨b1, 0, none⟩)]), (6, .int .i64 ((n - r : Nat) : Int)), (7, .int .i64 (((r : Nat) : Int) - ((q : Nat) : Int))), (18, .int .i64 ((n : Nat) : Int)), (25, .int .i64 ((r : Nat) : Int))] (o4 ++ (o3 ++ ((b4, .cells (Value.cells (.agg #[(.slice ad3 (triT (ptQ n) n r ++ rowT (ptQ n) n r q).length c3), (.slice ad4 (triT (weightQ n) n r ++ rowT (weightQ n) n r q).length c4)])) 58 (0, 0)) :: ((b2, .cells (Value.cells (.agg #[.slice none 0 0, .slice none 0 0])) 58 (0, 0)) :: [])))) [Row (some ⟨b1, 0, none⟩) ([.int .i64 ((n : Nat) : Int)])] a w) (fun q => (r + 1) - q) 0 (⟨Nat.zero_le _, ad1, c1, o1, ad2, c2, o2, ⟨by simp only [rowT, List.append_nil]; exact hG1, by simp only [rowT, List.append_nil]; exact hG2⟩, by simp only [rowT, List.append_nil]; exact (h).sub (subL ⟨rfl, rfl, rfl, rfl, rfl, rfl, rfl, rfl, rfl, trivial⟩)⟩) ?_; clear h
    rintro q a w ⟨hi_q, ad3, c3, o3, ad4, c4, o4, ⟨hG3, hG4⟩, h⟩
    refine gC h (zs (zs (zr (zm rfl (zp (.geq rfl rfl) (zn ?_)))))); clear h; intro a w h
    change Code.wp _ _ _ _ _
    refine cond_split h rfl (fun hc27 => ?_) (fun hc27 => ?_)
    · skip
      have hlt_q : q < (r + 1) := by have := of_decide_eq_true hc27; omega
      rw [show ((r : Nat) : Int) - ((q : Nat) : Int) = ((r - q : Nat) : Int) from by omega] at h
      refine gC h (zk (zs (zb (zs (zr (zD (b := b1) (off := 0) (j := 0) (M := [.int .i64 ((n : Nat) : Int)]) (v := .int .i64 ((n : Nat) : Int)) rfl mm (Nat.succ_pos _) Tryz.isAgg3 Tryz.sizeOf3 rfl (.inr rfl) ?_)))))); clear h; intro a w h
      refine gL h (zm rfl (zp (Pure1.cast (v' := (.int .i64 ((n - (n - r) : Nat) : Int))) (.sub rfl rfl) (by show Value.int _ _ = Value.int _ _; congr 1; omega)) (zm rfl (zp (Pure1.cast (v' := .int .i64 ((q : Nat) : Int)) (Pure1.cast (v' := (.int .i64 (((n - (n - r)) - (r - q) : Nat) : Int))) (.sub rfl rfl) (by show Value.int _ _ = Value.int _ _; congr 1; omega)) (by show Value.int _ _ = Value.int _ _; congr 1; omega)) (za rfl (zn (zs (yD mixed_YtkhnecelhpnaoaaGreatDoor [0, 1, 2, 3, 5, 6, 8, 9, 4, 7, 10, 11, 12, 13, 14, 15] (floatsOK_none (by kernel_rfl)) (yp rfl (.fieldAddr rfl (fa_58_0 _ _)) (yd rfl rfl mr Tryz.isAgg55 Tryz.sizeOf55 (rs_2_0 _ _) ?_)))))))))); clear h
      refine yp rfl (.move rfl) ?_
      refine head_loadRow (b := b1) (off := 0) (j := 0) (M := [.int .i64 ((n : Nat) : Int)]) (v := .int .i64 ((n : Nat) : Int)) rfl (by kernel_rfl) rfl mm (Nat.succ_pos _) Tryz.isAgg3 Tryz.sizeOf3 rfl (.inr rfl) (by decide) ?_
      refine yp rfl (.move rfl) ?_
      refine head_loadRow (b := b1) (off := 0) (j := 0) (M := [.int .i64 ((n : Nat) : Int)]) (v := .int .i64 ((n : Nat) : Int)) rfl (by kernel_rfl) rfl mm (Nat.succ_pos _) Tryz.isAgg3 Tryz.sizeOf3 rfl (.inr rfl) (by decide) ?_
      refine yp rfl (.move rfl) ?_
      refine head_loadRow (b := b1) (off := 0) (j := 0) (M := [.int .i64 ((n : Nat) : Int)]) (v := .int .i64 ((n : Nat) : Int)) rfl (by kernel_rfl) rfl mm (Nat.succ_pos _) Tryz.isAgg3 Tryz.sizeOf3 rfl (.inr rfl) (by decide) ?_
      refine yv [_, _] rfl rfl Tryz.call85 (C_rratio _ _ (by omega) (by omega) (by omega) (by omega) (by omega)) ?_
      have hl39 := lenQ_of (((n - r : Nat) : Int)) (((n : Nat) : Int)) (by omega) (by omega) (by omega) (by omega)
      refine yv [_, _] rfl rfl Tryz.call85 (C_rratio _ _ (by omega) (by omega) (by omega) (by omega) (by omega)) ?_
      have hl42 := lenQ_of (((r - q : Nat) : Int)) (((n : Nat) : Int)) (by omega) (by omega) (by omega) (by omega)
      refine yv [_, _] rfl rfl Tryz.call85 (C_rratio _ _ (by omega) (by omega) (by omega) (by omega) (by omega)) ?_
      have hl45 := lenQ_of (((q : Nat) : Int)) (((n : Nat) : Int)) (by omega) (by omega) (by omega) (by omega)
      refine yp rfl (.build [(_, _), (_, _), (_, _)] rfl (bd_62_0_1_2 _ _ _ _ _ _ _ _ _ _ _ _ _ _ _)) (yB rfl [(_, _)] rfl (bs_55_1_0 _ _ _ _ _ _ _ _ _ _ _ _ _ _ _) fun b47 => ?_)
      refine head_appendO (σr := (o4 ++ ((b4, .cells (Value.cells (.agg #[(.slice ad3 (triT (ptQ n) n r ++ rowT (ptQ n) n r q).length c3), (.slice ad4 (triT (weightQ n) n r ++ rowT (weightQ n) n r q).length c4)])) 58 (0, 0)) :: ((b2, .cells (Value.cells (.agg #[.slice none 0 0, .slice none 0 0])) 58 (0, 0)) :: [])))) rfl (by kernel_rfl) rfl rfl (List.Perm.trans (List.Perm.refl _) (List.Perm.cons _ (pm_aa (List.Perm.refl _)))) hG3 Tryz.runUnderlying55 Tryz.runUnderlying55 Tryz.typeInfo62 Tryz.sizeOf62 zeroP rfl (by decide) (by decide) rfl rfl (by decide) (by show 168 * (2 * ((triT (ptQ n) n r ++ rowT (ptQ n) n r q).length + 1) + 192) ≤ 281474976710656; have h1 := triT_len (ptQ n) n r (by omega); have h2 := triT_len (weightQ n) n r (by omega); have h3 := rowT_len (ptQ n) n r q; have h4 := rowT_len (weightQ n) n r q; simp only [List.length_append]; omega) (by decide) ?_
      intro v48 o48 hG48
      obtain ⟨ad48, c48, rfl⟩ := hG48.is
      have hLn48 : (triT (ptQ n) n r ++ rowT (ptQ n) n r q).length + 1 = ((triT (ptQ n) n r ++ rowT (ptQ n) n r q) ++ [(((((n - r : Nat) : Int) : Int) : Rat) / ((((n : Nat) : Int) : Int) : Rat), ((((r - q : Nat) : Int) : Int) : Rat) / ((((n : Nat) : Int) : Int) : Rat), ((((q : Nat) : Int) : Int) : Rat) / ((((n : Nat) : Int) : Int) : Rat))]).length := by simp only [List.length_append, List.length_cons, List.length_nil, Nat.zero_add]
      rw [hLn48]; rw [hLn48] at hG48
      replace hG48 : GrowO 15 62 (.slice ad48 ((triT (ptQ n) n r ++ rowT (ptQ n) n r q) ++ [(((((n - r : Nat) : Int) : Int) : Rat) / ((((n : Nat) : Int) : Int) : Rat), ((((r - q : Nat) : Int) : Int) : Rat) / ((((n : Nat) : Int) : Int) : Rat), ((((q : Nat) : Int) : Int) : Rat) / ((((n : Nat) : Int) : Int) : Rat))]).length c48) ((triT (ptQ n) n r ++ rowT (ptQ n) n r q) ++ [(((((n - r : Nat) : Int) : Int) : Rat) / ((((n : Nat) : Int) : Int) : Rat), ((((r - q : Nat) : Int) : Int) : Rat) / ((((n : Nat) : Int) : Int) : Rat), ((((q : Nat) : Int) : Int) : Rat) / ((((n : Nat) : Int) : Int) : Rat))]).length (cellsOf encP ((triT (ptQ n) n r ++ rowT (ptQ n) n r q) ++ [(((((n - r : Nat) : Int) : Int) : Rat) / ((((n : Nat) : Int) : Int) : Rat), ((((r - q : Nat) : Int) : Int) : Rat) / ((((n : Nat) : Int) : Int) : Rat), ((((q : Nat) : Int) : Int) : Rat) / ((((n : Nat) : Int) : Int) : Rat))])) o48 := by rw [cellsOf_append, cellsOf_one]; exact hG48
      refine yp rfl (.fieldAddr rfl (fa_58_0 _ _)) (yt rfl rfl rfl (st_2_0_1 _ _ _) uu Tryz.sizeOf55 rfl nb (by show ((flat ((.slice ad48 ((triT (ptQ n) n r ++ rowT (ptQ n) n r q) ++ [(((((n - r : Nat) : Int) : Int) : Rat) / ((((n : Nat) : Int) : Int) : Rat), ((((r - q : Nat) : Int) : Int) : Rat) / ((((n : Nat) : Int) : Int) : Rat), ((((q : Nat) : Int) : Int) : Rat) / ((((n : Nat) : Int) : Int) : Rat))]).length c48)) && true)) = true; simp only [GrowO.flat (hG48)]; rfl) ?_)
      refine yn (yD mixed_YtkhnecelhpnaoaaGreatDoor [0, 1, 2, 3, 4, 5, 6, 7, 8, 9, 10] (floatsOK_none (by kernel_rfl)) (yp rfl (.fieldAddr rfl (fa_58_1 _ _)) (yd rfl rfl mr Tryz.isAgg56 Tryz.sizeOf56 (rs_2_1 _ _) ?_)))
      refine yp rfl (.move rfl) (yp rfl (.move rfl) (yp rfl (.move rfl) (yp rfl (.move rfl) ?_)))
      refine head_callWx rfl (by kernel_rfl) (fs := []) (cs := [.pointer (some ⟨b1, 0, none⟩)]) rfl (vs := [_, _, _]) rfl Tryz.call90 (C_weight n (n - r) (r - q) q b1 0 (by omega) (by omega) (by omega) (by omega) hs) (by simp) (by decide) ?_
      refine yB rfl [(_, _)] rfl (bs_56_1_0 _ _ _ _ _) fun b57 => ?_
      refine head_appendO (σr := (o48 ++ ((b4, .cells (Value.cells (.agg #[(.slice ad48 ((triT (ptQ n) n r ++ rowT (ptQ n) n r q) ++ [(((((n - r : Nat) : Int) : Int) : Rat) / ((((n : Nat) : Int) : Int) : Rat), ((((r - q : Nat) : Int) : Int) : Rat) / ((((n : Nat) : Int) : Int) : Rat), ((((q : Nat) : Int) : Int) : Rat) / ((((n : Nat) : Int) : Int) : Rat))]).length c48), (.slice ad4 (triT (weightQ n) n r ++ rowT (weightQ n) n r q).length c4)])) 58 (0, 0)) :: ((b2, .cells (Value.cells (.agg #[.slice none 0 0, .slice none 0 0])) 58 (0, 0)) :: [])))) rfl (by kernel_rfl) rfl rfl (List.Perm.trans (List.Perm.refl _) (List.Perm.cons _ (pm_aa (List.Perm.refl _)))) hG4 Tryz.runUnderlying56 Tryz.runUnderlying56 Tryz.typeInfo52 Tryz.sizeOf52 zeroQ rfl (by decide) (by decide) rfl rfl (by decide) (by show 56 * (2 * ((triT (weightQ n) n r ++ rowT (weightQ n) n r q).length + 1) + 192) ≤ 281474976710656; have h1 := triT_len (ptQ n) n r (by omega); have h2 := triT_len (weightQ n) n r (by omega); have h3 := rowT_len (ptQ n) n r q; have h4 := rowT_len (weightQ n) n r q; simp only [List.length_append]; omega) (by decide) ?_
      intro v58 o58 hG58
      obtain ⟨ad58, c58, rfl⟩ := hG58.is
      have hLn58 : (triT (weightQ n) n r ++ rowT (weightQ n) n r q).length + 1 = ((triT (weightQ n) n r ++ rowT (weightQ n) n r q) ++ [weightQ n (n - r) (r - q) q]).length := by simp only [List.length_append, List.length_cons, List.length_nil, Nat.zero_add]
      rw [hLn58]; rw [hLn58] at hG58
      replace hG58 : GrowO 5 52 (.slice ad58 ((triT (weightQ n) n r ++ rowT (weightQ n) n r q) ++ [weightQ n (n - r) (r - q) q]).length c58) ((triT (weightQ n) n r ++ rowT (weightQ n) n r q) ++ [weightQ n (n - r) (r - q) q]).length (cellsOf encQ ((triT (weightQ n) n r ++ rowT (weightQ n) n r q) ++ [weightQ n (n - r) (r - q) q])) o58 := by rw [cellsOf_append, cellsOf_one]; exact hG58
      refine yp rfl (.fieldAddr rfl (fa_58_1 _ _)) (yt rfl rfl rfl (st_2_1_1 _ _ _) uu Tryz.sizeOf56 rfl nb (by show ((flat ((.slice ad58 ((triT (weightQ n) n r ++ rowT (weightQ n) n r q) ++ [weightQ n (n - r) (r - q) q]).length c58)) && true)) = true; simp only [GrowO.flat (hG58)]; rfl) ?_)
      refine yn (zr (zm rfl (zp (Pure1.cast (v' := .int .i64 (((r : Nat) : Int) - ((q + 1 : Nat) : Int))) (.sub rfl rfl) (by show Value.int _ _ = Value.int _ _; congr 1; omega)) (za rfl (zn ?_))))); intro a w h
      exact ⟨q + 1, ⟨by omega, ad48, c48, o48, ad58, c58, o58, ⟨by rw [tri_row]; exact hG48, by rw [tri_row]; exact hG58⟩, by rw [tri_row, tri_row]; exact by exact h.sub sA⟩, by omega⟩
    · skip
      have heq_q : (r + 1) = q := by have := of_decide_eq_false hc27; omega
      subst heq_q
      refine gC h (ze (zr (zm rfl (zp (Pure1.cast (v' := .int .i64 (((n : Nat) : Int) - ((r + 1 : Nat) : Int))) (.sub rfl rfl) (by show Value.int _ _ = Value.int _ _; congr 1; omega)) (za rfl (zn ?_)))))); clear h; intro a w h
      exact ⟨r + 1, ⟨by omega, ad3, c3, o3, ad4, c4, o4, ⟨hG3, hG4⟩, by exact h.sub sA⟩, by omega⟩
  · skip
    have heq_r : (n + 1) = r := by have := of_decide_eq_false hc20; omega
    subst heq_r
    refine gC h (ze (zs (zr (zd rfl mr Tryz.isAgg58 Tryz.sizeOf58 (rd_2_0_2 _ _) ?_)))); clear h; intro a w h
    refine gL h (zt' rfl rfl (st_2_0_2 _ _ _ _) uu Tryz.sizeOf58 rfl nb (by show ((flat ((.slice ad1 (triT (ptQ n) n (n + 1)).length c1)) && (flat ((.slice ad2 (triT (weightQ n) n (n + 1)).length c2)) && true))) = true; simp only [GrowO.flat (hG1), GrowO.flat (hG2)]; rfl) ?_); clear h; intro a w h
    refine gL h (za rfl (zn (zt ?_))); clear h; intro a w h
    replace h := (St.shareO' (St.shareO' (h.perm (pm_aa (List.Perm.refl _)).symm) hS hG1) hS hG2)
    refine ret_of (Ψ := [Row ad2 (cellsOf encQ (latW n)), Row ad1 (cellsOf encP (latP n))]) h (results2 h rfl (.cell rfl mr Tryz.isAgg58 Tryz.sizeOf58 (rd_2_0_2 _ _)) (.tmp rfl)) ⟨ad1, c1, ad2, c2, rfl, rfl⟩ (by simp [latP, latW])
end
section
theorem fa_71_0 (b off : Nat) (w : World) : (Instr.fieldAt 71 (.pointer (some ⟨b, off, none⟩)) 0).run Tryz.prog w = .ok (.pointer (some ⟨b, off + 0, none⟩)) w := by
  simp [go_sem]
theorem fa_71_1 (b off : Nat) (w : World) : (Instr.fieldAt 71 (.pointer (some ⟨b, off, none⟩)) 1).run Tryz.prog w = .ok (.pointer (some ⟨b, off + 1, none⟩)) w := by
  simp [go_sem]
def lsum (ats ws : List Rat) (d : Nat) : Nat → Rat
  | 0 => 0
  | n + 1 => lsum ats ws d n + ws.getD n 0 * ats.getD n 0 ^ d
theorem lenQ_lsum (ats ws : List Rat) (d : Nat) (ha : ∀ p ∈ ats, lenQ p ≤ 1000) (hw : ∀ x ∈ ws, lenQ x ≤ 1000) (hd : d ≤ 100) : ∀ n, lenQ (lsum ats ws d n) ≤ 2 + 101003 * n
  | 0 => by rw [lsum]; have := lenQ_zero; omega
  | n + 1 => by
    have h0 := lenQ_lsum ats ws d ha hw hd n
    have h1 := lenQ_getD (k := 1000) (by omega) ha n
    have h2 := lenQ_getD (k := 1000) (by omega) hw n
    have h3 := lenQ_powle (ats.getD n 0) d 1000 100 h1 hd
    have h4 := lenQ_mul (ws.getD n 0) (ats.getD n 0 ^ d)
    have h5 := lenQ_add (lsum ats ws d n) (ws.getD n 0 * ats.getD n 0 ^ d)
    rw [lsum]; omega
def okL (ats ws : List Rat) (d : Nat) : Prop := lsum ats ws d ws.length = ((1 : Int) : Rat) / (((d + 1 : Nat) : Int) : Rat)
instance (ats ws : List Rat) (d : Nat) : Decidable (okL ats ws d) := by unfold okL; infer_instance
def exL (ats ws : List Rat) : Nat → Nat → Nat
  | 0, d => d
  | f + 1, d => if okL ats ws d then exL ats ws f (d + 1) else d
def lineI (ats ws : List Rat) : Int := (exL ats ws 13 0 : Int) - 1
theorem exL_end (ats ws : List Rat) : ∀ (f d e : Nat), d ≤ e → e ≤ d + f → (∀ x, d ≤ x → x < e → okL ats ws x) → (e = d + f ∨ ¬ okL ats ws e) → exL ats ws f d = e
  | 0, d, e, h1, h2, _, _ => by rw [exL]; omega
  | f + 1, d, e, h1, h2, h3, h4 => by
    rw [exL]
    by_cases h : d = e
    · subst h
      rcases h4 with h4 | h4
      · omega
      · rw [if_neg h4]
    · rw [if_pos (h3 d (Nat.le_refl _) (by omega))]
      exact exL_end ats ws f (d + 1) e (by omega) (by omega) (fun x hx hy => h3 x (by omega) hy) (h4.imp (fun h => by omega) id)

theorem C_ExactLine (ad1 ad2 : Option Addr) (c1 c2 : Nat) (ats ws : List Rat) (hnw : ws.length ≤ 1000) (hats : ∀ x ∈ ats, lenQ x ≤ 1000) (hws : ∀ x ∈ ws, lenQ x ≤ 1000) (hle : ats.length = ws.length) :
    CtrW Tryz.prog 30 [.agg #[.slice ad1 ats.length c1, .slice ad2 ws.length c2]] [Row ad1 (cellsOf encQ ats), Row ad2 (cellsOf encQ ws)] (.int .i64 (lineI ats ws)) := by
  refine fn_intro Tryz.func30 rfl Tryz.ntmps30 nb ?_
  intro S w0 a hS h
  refine gC h (zs (zr (zx rfl fun b1 => za rfl (zn (zs (zs (zr (zp (.fieldAddr rfl (fa_71_0 _ _)) (zd rfl mr Tryz.isAgg56 Tryz.sizeOf56 (rs_2_0 _ _) ?_))))))))); clear h; intro a w h
  refine gL h (zp (.builtin [_] rfl (len_slice_56 _ _ _)) (zp (.fieldAddr rfl (fa_71_1 _ _)) (zd rfl mr Tryz.isAgg56 Tryz.sizeOf56 (rs_2_1 _ _) ?_))); clear h; intro a w h
  refine gL h (zp (.builtin [_] rfl (len_slice_56 _ _ _)) (zp (.neq rfl rfl) ?_)); clear h; intro a w h
  refine by_bool h (fun hc13 h => (by exfalso; exact natNe hc13 hle)) (fun hc13 h => ?_)
  refine wpList_nil ?_
  change Code.wp _ _ _ _ _
  refine cond_false h rfl ?_
  refine gC h (zk (zs (zs (zr (zm rfl (zn (zb ?_))))))); clear h; intro a w h
  refine wp_loop_inv (fun (d : Nat) a w => d ≤ 13 ∧ (∀ x, x < d → okL ats ws x) ∧ St 45 S w0 [(1, .pointer (some ⟨b1, 0, none⟩)), (14, .int .i64 ((d : Nat) : Int))] [(b1, .cells (Value.cells (.agg #[.slice ad1 ats.length c1, .slice ad2 ws.length c2])) 71 (0, 0))] [Row ad1 (cellsOf encQ ats), Row ad2 (cellsOf encQ ws)] a w) (fun d => 13 - d) 0 (⟨Nat.zero_le _, fun x hx => absurd hx (Nat.not_lt_zero _), by exact (h).sub (subL ⟨rfl, rfl, trivial⟩)⟩) ?_; clear h
  rintro d a w ⟨hi_d, hinv_d, h⟩
  refine gC h (zs (zr (zp (.lss rfl rfl) (zn (zs ?_))))); clear h; intro a w h
  refine cond_split h rfl (fun hc15 => ?_) (fun hc15 => ?_)
  · skip
    have hlt_d : d < 13 := by have := of_decide_eq_true hc15; omega
    refine gC h (zk (zs (zb (zs (zr (zm rfl (za rfl (zn (zs (zr (zz zeroQ fun b4 => zn (zs (zs (zr (zp (.fieldAddr rfl (fa_71_1 _ _)) (zd rfl mr Tryz.isAgg56 Tryz.sizeOf56 (rs_2_1 _ _) ?_)))))))))))))))); clear h; intro a w h
    refine gL h (zp (.builtin [_] rfl (len_slice_56 _ _ _)) (zm rfl (zn (zb ?_)))); clear h; intro a w h
    refine wp_loop_inv (fun (n : Nat) a w => n ≤ ws.length ∧ St 45 S w0 [(1, .pointer (some ⟨b1, 0, none⟩)), (3, .int .i64 ((d : Nat) : Int)), (4, .pointer (some ⟨b4, 0, none⟩)), (14, .int .i64 ((d : Nat) : Int)), (18, .slice ad2 ws.length c2), (19, .int .i64 ((ws.length : Nat) : Int)), (20, .int .i64 ((n : Nat) : Int))] [(b4, .cells (Value.cells (encQ (lsum ats ws d n))) 52 (0, 0)), (b1, .cells (Value.cells (.agg #[.slice ad1 ats.length c1, .slice ad2 ws.length c2])) 71 (0, 0))] [Row ad1 (cellsOf encQ ats), Row ad2 (cellsOf encQ ws)] a w) (fun n => ws.length - n) 0 (⟨Nat.zero_le _, by exact (h).sub (subL ⟨rfl, rfl, rfl, rfl, rfl, rfl, rfl, trivial⟩)⟩) ?_; clear h
    rintro n a w ⟨hi_n, h⟩
    refine gC h (zs (zr (zp (.lss rfl rfl) (zn (zs ?_))))); clear h; intro a w h
    refine cond_split h rfl (fun hc21 => ?_) (fun hc21 => ?_)
    · skip
      have hlt_n : n < ws.length := by have := of_decide_eq_true hc21; omega
      have hn1 : n < ats.length := by omega
      obtain ⟨B_ad2, O_ad2, rfl⟩ := h.row_addr (ad := ad2) (M := cellsOf encQ ws) mm (by intro e; have := congrArg List.length e; rw [cellsOf_length (k := 5) (fun _ => rfl)] at this; simp only [List.length_nil, Nat.mul_eq_zero] at this; omega)
      obtain ⟨B_ad1, O_ad1, rfl⟩ := h.row_addr (ad := ad1) (M := cellsOf encQ ats) mm (by intro e; have := congrArg List.length e; rw [cellsOf_length (k := 5) (fun _ => rfl)] at this; simp only [List.length_nil, Nat.mul_eq_zero] at this; omega)
      have ha := lenQ_getD (k := 1000) (by omega) hats n
      have hw := lenQ_getD (k := 1000) (by omega) hws n
      have hm := lenQ_lsum ats ws d hats hws (by omega) n
      refine gC h (zk (zs (zb (zs (zr (zm rfl (zp (.indexAddr rfl rfl (ix_56 _ _ _ _ _ (by omega))) (zD rfl mm (cells_lt (k := 5) (by decide) (fun _ => rfl) ws n (by omega)) Tryz.isAgg52 Tryz.sizeOf52 (read_cells (k := 5) (fun _ => rfl) ((fun _ => rfl)) ws 0 n (by omega)) (.inl rfl) ?_)))))))); clear h; intro a w h
      refine gL h (zz zeroQ fun b6 => za rfl (zt' rfl rfl (st_5_0_5 _ _ _ _ _ _ _ _ _ _) uu Tryz.sizeOf52 rfl nb rfl ?_)); clear h; intro a w h
      refine gL h (zn (yD mixed_YtkhnecelhpnaoaaGreatDoor [0, 1, 2, 3, 4, 5, 6, 7, 8, 9, 10, 11] (floatsOK_none (by kernel_rfl)) (yd rfl rfl mr Tryz.isAgg52 Tryz.sizeOf52 (rd_5_0_5 _ _ _ _ _) ?_))); clear h
      refine yd rfl rfl mr Tryz.isAgg52 Tryz.sizeOf52 (rd_5_0_5 _ _ _ _ _) ?_
      refine yp rfl (.fieldAddr rfl (fa_71_0 _ _)) (yd rfl rfl mr Tryz.isAgg56 Tryz.sizeOf56 (rs_2_0 _ _) ?_)
      refine yp rfl (.move rfl) (yp rfl (.indexAddr rfl rfl (ix_56 _ _ _ _ _ (by omega))) ?_)
      refine head_loadRow rfl (by kernel_rfl) rfl mm (cells_lt (k := 5) (by decide) (fun _ => rfl) ats n (by omega)) Tryz.isAgg52 Tryz.sizeOf52 (read_cells (k := 5) (fun _ => rfl) ((fun _ => rfl)) ats 0 n (by omega)) (.inl rfl) (by decide) ?_
      refine yp rfl (.move rfl) (yv [_, _] rfl rfl Tryz.call82 (C_power _ _ (by omega) (by omega)) ?_)
      have hl33 := lenQ_powle (ats.getD n 0) (d) 1000 100 (by omega) (by omega)
      refine yv [_, _] rfl rfl Tryz.call61 (C_QMul _ _ (by omega) (by omega)) ?_
      have hl34 := lenQ_mul (ws.getD n 0) ((ats.getD n 0) ^ d)
      refine yv [_, _] rfl rfl Tryz.call22 (C_QAdd _ _ (by omega) (by omega)) ?_
      have hl35 := lenQ_add (lsum ats ws d n) ((ws.getD n 0) * ((ats.getD n 0) ^ d))
      refine yt rfl rfl rfl (st_5_0_5 _ _ _ _ _ _ _ _ _ _) uu Tryz.sizeOf52 rfl nb rfl ?_
      refine yn (zr (zp (Pure1.cast (v' := (.int .i64 ((n + 1 : Nat) : Int))) (.add rfl rfl) (by show Value.int _ _ = Value.int _ _; congr 1)) (zm rfl (zn ?_)))); intro a w h
      exact ⟨n + 1, ⟨by omega, ((h.drop sl).factsSub (by simp)).sub sA⟩, by omega⟩
    · skip
      have heq_n : ws.length = n := by have := of_decide_eq_false hc21; omega
      subst heq_n
      have hm := lenQ_lsum ats ws d hats hws (by omega) ws.length
      refine gC h (ze (zs (yD mixed_YtkhnecelhpnaoaaGreatDoor [0, 1, 2, 3, 4] (floatsOK_none (by kernel_rfl)) (yd rfl rfl mr Tryz.isAgg52 Tryz.sizeOf52 (rd_5_0_5 _ _ _ _ _) ?_)))); clear h
      refine yp rfl (.move rfl) (yp rfl (Pure1.cast (v' := (.int .i64 ((d + 1 : Nat) : Int))) (.add rfl rfl) (by show Value.int _ _ = Value.int _ _; congr 1)) (yv [_, _] rfl rfl Tryz.call85 (C_rratio _ _ (by omega) (by omega) (by omega) (by omega) (by omega)) ?_))
      have hl40 := lenQ_of (1) (((d + 1 : Nat) : Int)) (by omega) (by omega) (by omega) (by omega)
      refine yp rfl (.binOp rfl rfl (fun _ => run_neQ _ _ (lsum ats ws d ws.length) (((1 : Int) : Rat) / ((((d + 1 : Nat) : Int) : Int) : Rat)) _)) (yn ?_); intro a w h
      change Code.wp _ _ _ _ _
      refine cond_split h rfl (fun hc41 => ?_) (fun hc41 => ?_)
      · skip
        have hbad : ¬ okL ats ws d := by simpa [okL] using hc41
        refine gC h (zs (zr (zm rfl (zp (.sub rfl rfl) (za rfl (zn (zt ?_))))))); clear h; intro a w h
        refine retV h (results1 h rfl (.tmp rfl)) ?_
        unfold lineI; rw [exL_end ats ws 13 0 d (Nat.zero_le _) (by omega) (fun x _ hx => hinv_d x hx) (.inr hbad)]
      · skip
        have hgood : okL ats ws d := by simpa [okL] using hc41
        refine gC h (zk (zr (zp (Pure1.cast (v' := (.int .i64 ((d + 1 : Nat) : Int))) (.add rfl rfl) (by show Value.int _ _ = Value.int _ _; congr 1)) (zm rfl (zn ?_))))); clear h; intro a w h
        exact ⟨d + 1, ⟨by omega, fun x hx => by rcases Nat.lt_or_ge x d with h | h; exact hinv_d x h; rw [show x = d by omega]; exact hgood, (h.drop sl).sub sA⟩, by omega⟩
  · skip
    have heq_d : 13 = d := by have := of_decide_eq_false hc15; omega
    subst heq_d
    refine gC h (ze (zs (zr (za rfl (zn (zt ?_)))))); clear h; intro a w h
    refine retV h (results1 h rfl (.tmp rfl)) ?_
    unfold lineI; rw [exL_end ats ws 13 0 13 (Nat.zero_le _) (by omega) (fun x _ hx => hinv_d x hx) (.inl rfl)]; rfl

def cotN (n i : Nat) : Nat → List Rat
  | 0 => [((1 : Int) : Rat)]
  | m + 1 => if m ≠ i then timesQ (cotN n i m) (((-((m : Nat) : Int) : Int) : Rat) / ((((i : Nat) : Int) - ((m : Nat) : Int) : Int) : Rat)) ((((n : Nat) : Int) : Rat) / ((((i : Nat) : Int) - ((m : Nat) : Int) : Int) : Rat)) else cotN n i m
theorem cotN_len (n i : Nat) : ∀ m, (cotN n i m).length ≤ m + 1
  | 0 => Nat.le_refl _
  | m + 1 => by
    have := cotN_len n i m
    rw [cotN]; split
    · rw [timesQ, timesN_len]; omega
    · omega
def csum (l : List Rat) : Nat → Rat
  | 0 => 0
  | p + 1 => csum l p + l.getD p 0 * (((1 : Int) : Rat) / (((p + 1 : Nat) : Int) : Rat))
theorem lenQ_csum (l : List Rat) (hl : ∀ x ∈ l, lenQ x ≤ 1000) : ∀ p, p ≤ 1000000 → lenQ (csum l p) ≤ 2 + 1005 * p
  | 0, _ => by rw [csum]; have := lenQ_zero; omega
  | p + 1, hp => by
    have h0 := lenQ_csum l hl p (by omega)
    have h1 := lenQ_getD (k := 1000) (by omega) hl p
    have h2 := lenQ_of 1 ((p + 1 : Nat) : Int) (by omega) (by omega) (by omega) (by omega)
    have h3 := lenQ_mul (l.getD p 0) (((1 : Int) : Rat) / (((p + 1 : Nat) : Int) : Rat))
    have h4 := lenQ_add (csum l p) (l.getD p 0 * (((1 : Int) : Rat) / (((p + 1 : Nat) : Int) : Rat)))
    rw [csum]; omega
def cotW (n i : Nat) : Rat := csum (cotN n i (n + 1)) (cotN n i (n + 1)).length
def cotA (n i : Nat) : Rat := (((i : Nat) : Int) : Rat) / (((n : Nat) : Int) : Rat)
def lstT {α : Type} (f : Nat → α) : Nat → List α
  | 0 => []
  | i + 1 => lstT f i ++ [f i]
theorem lstT_len {α : Type} (f : Nat → α) : ∀ i, (lstT f i).length = i
  | 0 => rfl
  | i + 1 => by rw [lstT, List.length_append, lstT_len f i]; rfl
theorem C_times2Y (ad : Option Addr) (c : Nat) (l : List Rat) (x y : Rat) (hn : l.length ≤ 1000) (hl : ∀ x ∈ l, lenQ x ≤ 1000) (hx : lenQ x ≤ 1000) (hy : lenQ y ≤ 1000) :
    CtrO Tryz.prog 86 [.slice ad l.length c, encQ x, encQ y] [Row ad (cellsOf encQ l)] (fun v σ => ∃ b, v = .slice (some ⟨b, 0, none⟩) (timesQ l x y).length (timesQ l x y).length ∧ σ = [(b, .cells (cellsOf encQ (timesQ l x y)).toArray 52 (0, 0))]) := by
  have := C_times2 ad c l x y hn hl hx hy
  rw [show (timesQ l x y).length = l.length + 1 from timesN_len l x y l.length]
  exact this

theorem C_Cotes (n : Nat) (h1 : 1 ≤ n) (h8 : n ≤ 8) (hs : ∀ i, i ≤ n → ∀ m, m ≤ n + 1 → ∀ x ∈ cotN n i m, lenQ x ≤ 1000) :
    Ctr Tryz.prog 31 [.int .i64 ((n : Nat) : Int)] [] (fun v Ψ => ∃ ad1 c1 ad2 c2, v = .tuple #[.agg #[.slice ad1 (lstT (cotA n) (n + 1)).length c1, .slice ad2 (lstT (cotW n) (n + 1)).length c2], .int .i64 0] ∧ Ψ = [Row ad2 (cellsOf encQ (lstT (cotW n) (n + 1))), Row ad1 (cellsOf encQ (lstT (cotA n) (n + 1)))]) := by
  refine fn_intro Tryz.func31 rfl Tryz.ntmps31 nb ?_
  intro S w0 a hS h
  refine gC h (zs (zr (zz Tryz.zeroValue71 fun b2 => za rfl (zn (zs (zb (zs (zr (zm rfl (zp (.lss rfl rfl) (za rfl (zn ?_)))))))))))); clear h; intro a w h
  change Code.wp _ _ _ _ _
  refine cond_split h rfl (fun hc11 => (by exfalso; have := of_decide_eq_true hc11; omega)) (fun hc11 => ?_)
  refine gC h (zs (zr (zm rfl (zp (.gtr rfl rfl) (za rfl (zn ?_)))))); clear h; intro a w h
  change Code.wp _ _ _ _ _
  refine cond_split h rfl (fun hc15 => (by exfalso; have := of_decide_eq_true hc15; omega)) (fun hc15 => ?_)
  refine gC h (zk (zs (zr (zz Tryz.zeroValue71 fun b4 => zn (zs (zs (zr (zm rfl (zp (Pure1.cast (v' := (.int .i64 ((n + 1 : Nat) : Int))) (.add rfl rfl) (by show Value.int _ _ = Value.int _ _; congr 1)) (zm rfl (zn (zb ?_)))))))))))); clear h; intro a w h
  refine wp_loop_inv (fun (i : Nat) a w => i ≤ (n + 1) ∧ ∃ (ad1 : Option Addr) (c1 : Nat) (o1 : List (Nat × Obj)) (ad2 : Option Addr) (c2 : Nat) (o2 : List (Nat × Obj)), (GrowO 5 52 (.slice ad1 (lstT (cotA n) i).length c1) (lstT (cotA n) i).length (cellsOf encQ (lstT (cotA n) i)) o1 ∧ GrowO 5 52 (.slice ad2 (lstT (cotW n) i).length c2) (lstT (cotW n) i).length (cellsOf encQ (lstT (cotW n) i)) o2) ∧ St 79 S w0 [(0, .int .i64 ((n : Nat) : Int)), (2, .pointer (some ⟨b2, 0, none⟩)), (3, .int .i64 0), (4, .pointer (some ⟨b4, 0, none⟩)), (20, .int .i64 ((n + 1 : Nat) : Int)), (21, .int .i64 ((i : Nat) : Int))] (o2 ++ (o1 ++ ((b4, .cells (Value.cells (.agg #[(.slice ad1 (lstT (cotA n) i).length c1), (.slice ad2 (lstT (cotW n) i).length c2)])) 71 (0, 0)) :: ((b2, .cells (Value.cells (.agg #[.slice none 0 0, .slice none 0 0])) 71 (0, 0)) :: [])))) [] a w) (fun i => (n + 1) - i) 0 (⟨Nat.zero_le _, none, 0, [], none, 0, [], ⟨GrowO.nil _ _, GrowO.nil _ _⟩, by exact (h.factsSub (by simp)).sub (subL ⟨rfl, rfl, rfl, rfl, rfl, rfl, trivial⟩)⟩) ?_; clear h
  rintro i a w ⟨hi_i, ad1, c1, o1, ad2, c2, o2, ⟨hG1, hG2⟩, h⟩
  refine gC h (zs (zr (zp (.lss rfl rfl) (zn (zs ?_))))); clear h; intro a w h
  refine cond_split h rfl (fun hc22 => ?_) (fun hc22 => ?_)
  · skip
    have hlt_i : i < (n + 1) := by have := of_decide_eq_true hc22; omega
    have hsi := hs i (by omega)
    refine gC h (zk (zs (zb (zs (zr (zm rfl (za rfl (zn (zs (zr (zv [_] rfl Tryz.call28 (C_QInt _ (by omega) (by omega)) ?_))))))))))); clear h; intro a w h
    have hl24 := lenQ_int (1) (by omega) (by omega)
    refine gL h (zB [(_, _)] rfl (bs_56_1_0 _ _ _ _ _) fun b25 => ?_); clear h; intro a w h
    replace h := h.shareAll hS (cellsOf encQ ([((1 : Int) : Rat)])) rfl
    refine gL h (za rfl (zn (zs (zs (zr (zm rfl (zp (Pure1.cast (v' := (.int .i64 ((n + 1 : Nat) : Int))) (.add rfl rfl) (by show Value.int _ _ = Value.int _ _; congr 1)) (zm rfl (zn (zb ?_)))))))))); clear h; intro a w h
    refine wp_loop_inv (fun (m : Nat) a w => m ≤ (n + 1) ∧ ∃ (ad : Option Addr) (c : Nat), St 79 S w0 [(0, .int .i64 ((n : Nat) : Int)), (2, .pointer (some ⟨b2, 0, none⟩)), (3, .int .i64 0), (4, .pointer (some ⟨b4, 0, none⟩)), (5, .int .i64 ((i : Nat) : Int)), (6, .slice ad ((cotN n i m).length) c), (20, .int .i64 ((n + 1 : Nat) : Int)), (21, .int .i64 ((i : Nat) : Int)), (27, .int .i64 ((n + 1 : Nat) : Int)), (28, .int .i64 ((m : Nat) : Int))] (o2 ++ (o1 ++ ((b4, .cells (Value.cells (.agg #[(.slice ad1 (lstT (cotA n) i).length c1), (.slice ad2 (lstT (cotW n) i).length c2)])) 71 (0, 0)) :: ((b2, .cells (Value.cells (.agg #[.slice none 0 0, .slice none 0 0])) 71 (0, 0)) :: [])))) [Row ad (cellsOf encQ (cotN n i m))] a w) (fun m => (n + 1) - m) 0 (⟨Nat.zero_le _, _, _, by rw [show cotN n i 0 = [((1 : Int) : Rat)] from rfl]; exact (h.factsSub (by simp)).sub (subL ⟨rfl, rfl, rfl, rfl, rfl, rfl, rfl, rfl, rfl, rfl, trivial⟩)⟩) ?_; clear h
    rintro m a w ⟨hi_m, ad, c, h⟩
    refine gC h (zs (zr (zp (.lss rfl rfl) (zn (zs ?_))))); clear h; intro a w h
    refine cond_split h rfl (fun hc29 => ?_) (fun hc29 => ?_)
    · skip
      have hlt_m : m < (n + 1) := by have := of_decide_eq_true hc29; omega
      have hsm := hsi m (by omega)
      have hcl := cotN_len n i m
      refine gC h (zk (zs (zb (zs (zr (zm rfl (za rfl (zn (zs (zr (zm rfl (zm rfl (zp (.neq rfl rfl) (zn ?_)))))))))))))); clear h; intro a w h
      change Code.wp _ _ _ _ _
      refine cond_split h rfl (fun hc33 => ?_) (fun hc33 => ?_)
      · skip
        have hne : m ≠ i := by have := natNe hc33; exact this
        have hcot : cotN n i (m + 1) = timesQ (cotN n i m) (((-((m : Nat) : Int) : Int) : Rat) / ((((i : Nat) : Int) - ((m : Nat) : Int) : Int) : Rat)) ((((n : Nat) : Int) : Rat) / ((((i : Nat) : Int) - ((m : Nat) : Int) : Int) : Rat)) := by rw [cotN, if_pos hne]
        refine gC h (zr (zm rfl (zm rfl (zp (.unOp rfl (fun w => run_negi _ (by omega) (by omega) w)) (zm rfl (zm rfl (zp (.sub rfl rfl) (zv [_, _] rfl Tryz.call85 (C_rratio _ _ (by omega) (by omega) (by omega) (by omega) (by omega)) ?_)))))))); clear h; intro a w h
        have hl40 := lenQ_of (-((m : Nat) : Int)) ((((i : Nat) : Int)) - (((m : Nat) : Int))) (by omega) (by omega) (by omega) (by omega)
        refine gL h (zm rfl (zm rfl (zm rfl (zp (.sub rfl rfl) (zv [_, _] rfl Tryz.call85 (C_rratio _ _ (by omega) (by omega) (by omega) (by omega) (by omega)) ?_))))); clear h; intro a w h
        have hl45 := lenQ_of (((n : Nat) : Int)) ((((i : Nat) : Int)) - (((m : Nat) : Int))) (by omega) (by omega) (by omega) (by omega)
        refine wpl_plain (op_callO h (vs := [_, _, _]) rfl Tryz.call86 (C_times2Y ad c (cotN n i m) _ _ (by omega) hsm (by omega) (by omega)) (by simp) (by decide) ?_); clear h; rintro v46 σ46 a w ⟨b46, rfl, rfl⟩ h
        replace h := h.shareAll hS (cellsOf encQ (timesQ (cotN n i m) (((-((m : Nat) : Int) : Int) : Rat) / ((((i : Nat) : Int) - ((m : Nat) : Int) : Int) : Rat)) ((((n : Nat) : Int) : Rat) / ((((i : Nat) : Int) - ((m : Nat) : Int) : Int) : Rat)))) rfl
        refine gL h (za rfl (zn (zr (zp (Pure1.cast (v' := (.int .i64 ((m + 1 : Nat) : Int))) (.add rfl rfl) (by show Value.int _ _ = Value.int _ _; congr 1)) (zm rfl (zn ?_)))))); clear h; intro a w h
        exact ⟨m + 1, ⟨by omega, _, _, by rw [hcot]; exact by exact (h.factsSub (by simp)).sub (subL ⟨rfl, rfl, rfl, rfl, rfl, rfl, rfl, rfl, rfl, rfl, trivial⟩)⟩, by omega⟩
      · skip
        have hne : ¬ m ≠ i := by have := natEq hc33; omega
        have hcot : cotN n i (m + 1) = cotN n i m := by rw [cotN, if_neg hne]
        refine gC h (zk (zr (zp (Pure1.cast (v' := (.int .i64 ((m + 1 : Nat) : Int))) (.add rfl rfl) (by show Value.int _ _ = Value.int _ _; congr 1)) (zm rfl (zn ?_))))); clear h; intro a w h
        exact ⟨m + 1, ⟨by omega, _, _, by rw [hcot]; exact by exact (h.factsSub (by simp)).sub (subL ⟨rfl, rfl, rfl, rfl, rfl, rfl, rfl, rfl, rfl, rfl, trivial⟩)⟩, by omega⟩
    · skip
      have heq_m : (n + 1) = m := by have := of_decide_eq_false hc29; omega
      subst heq_m
      refine gC h (ze (zs (zr (zz zeroQ fun b8 => zn (zs (zs (zr (zm rfl (zp (.builtin [_] rfl (len_slice_56 _ _ _)) (zm rfl (zn (zb ?_)))))))))))); clear h; intro a w h
      have hcl2 := cotN_len n i (n + 1)
      refine wp_loop_inv (fun (p : Nat) a w => p ≤ (cotN n i (n + 1)).length ∧ St 79 S w0 [(0, .int .i64 ((n : Nat) : Int)), (2, .pointer (some ⟨b2, 0, none⟩)), (3, .int .i64 0), (4, .pointer (some ⟨b4, 0, none⟩)), (5, .int .i64 ((i : Nat) : Int)), (6, .slice ad ((cotN n i (n + 1)).length) c), (8, .pointer (some ⟨b8, 0, none⟩)), (20, .int .i64 ((n + 1 : Nat) : Int)), (21, .int .i64 ((i : Nat) : Int)), (27, .int .i64 ((n + 1 : Nat) : Int)), (28, .int .i64 (((n + 1) : Nat) : Int)), (48, .slice ad ((cotN n i (n + 1)).length) c), (49, .int .i64 (((cotN n i (n + 1)).length : Nat) : Int)), (50, .int .i64 ((p : Nat) : Int))] ((b8, .cells (Value.cells (encQ (csum (cotN n i (n + 1)) p))) 52 (0, 0)) :: (o2 ++ (o1 ++ ((b4, .cells (Value.cells (.agg #[(.slice ad1 (lstT (cotA n) i).length c1), (.slice ad2 (lstT (cotW n) i).length c2)])) 71 (0, 0)) :: ((b2, .cells (Value.cells (.agg #[.slice none 0 0, .slice none 0 0])) 71 (0, 0)) :: []))))) [Row ad (cellsOf encQ (cotN n i (n + 1)))] a w) (fun p => (cotN n i (n + 1)).length - p) 0 (⟨Nat.zero_le _, by exact (h).sub (subL ⟨rfl, rfl, rfl, rfl, rfl, rfl, rfl, rfl, rfl, rfl, rfl, rfl, rfl, rfl, trivial⟩)⟩) ?_; clear h
      rintro p a w ⟨hi_p, h⟩
      refine gC h (zs (zr (zp (.lss rfl rfl) (zn (zs ?_))))); clear h; intro a w h
      refine cond_split h rfl (fun hc51 => ?_) (fun hc51 => ?_)
      · skip
        have hlt_p : p < (cotN n i (n + 1)).length := by have := of_decide_eq_true hc51; omega
        obtain ⟨B_ad, O_ad, rfl⟩ := h.row_addr (ad := ad) (M := cellsOf encQ (cotN n i (n + 1))) mm (by intro e; have := congrArg List.length e; rw [cellsOf_length (k := 5) (fun _ => rfl)] at this; simp only [List.length_nil, Nat.mul_eq_zero] at this; omega)
        have hgp := lenQ_getD (k := 1000) (by omega) (hsi (n + 1) (by omega)) p
        have hcs := lenQ_csum (cotN n i (n + 1)) (hsi (n + 1) (by omega)) p (by omega)
        refine gC h (zk (zs (zb (zs (zr (zm rfl (zp (.indexAddr rfl rfl (ix_56 _ _ _ _ _ (by omega))) (zD rfl mm (cells_lt (k := 5) (by decide) (fun _ => rfl) (cotN n i (n + 1)) p (by omega)) Tryz.isAgg52 Tryz.sizeOf52 (read_cells (k := 5) (fun _ => rfl) ((fun _ => rfl)) (cotN n i (n + 1)) 0 p (by omega)) (.inl rfl) ?_)))))))); clear h; intro a w h
        refine gL h (zz zeroQ fun b10 => za rfl (zt' rfl rfl (st_5_0_5 _ _ _ _ _ _ _ _ _ _) uu Tryz.sizeOf52 rfl nb rfl ?_)); clear h; intro a w h
        refine gL h (zn (yD mixed_YtkhnecelhpnaoaaGreatDoor [0, 1, 2, 3, 4, 5, 6, 7] (floatsOK_none (by kernel_rfl)) (yd rfl rfl mr Tryz.isAgg52 Tryz.sizeOf52 (rd_5_0_5 _ _ _ _ _) ?_))); clear h
        refine yd rfl rfl mr Tryz.isAgg52 Tryz.sizeOf52 (rd_5_0_5 _ _ _ _ _) ?_
        refine yp rfl (.move rfl) (yp rfl (Pure1.cast (v' := (.int .i64 ((p + 1 : Nat) : Int))) (.add rfl rfl) (by show Value.int _ _ = Value.int _ _; congr 1)) (yv [_, _] rfl rfl Tryz.call85 (C_rratio _ _ (by omega) (by omega) (by omega) (by omega) (by omega)) ?_))
        have hl59 := lenQ_of (1) (((p + 1 : Nat) : Int)) (by omega) (by omega) (by omega) (by omega)
        refine yv [_, _] rfl rfl Tryz.call61 (C_QMul _ _ (by omega) (by omega)) ?_
        have hl60 := lenQ_mul ((cotN n i (n + 1)).getD p 0) (((1 : Int) : Rat) / ((((p + 1 : Nat) : Int) : Int) : Rat))
        refine yv [_, _] rfl rfl Tryz.call22 (C_QAdd _ _ (by omega) (by omega)) ?_
        have hl61 := lenQ_add (csum (cotN n i (n + 1)) p) (((cotN n i (n + 1)).getD p 0) * (((1 : Int) : Rat) / ((((p + 1 : Nat) : Int) : Int) : Rat)))
        refine yt rfl rfl rfl (st_5_0_5 _ _ _ _ _ _ _ _ _ _) uu Tryz.sizeOf52 rfl nb rfl ?_
        refine yn (zr (zp (Pure1.cast (v' := (.int .i64 ((p + 1 : Nat) : Int))) (.add rfl rfl) (by show Value.int _ _ = Value.int _ _; congr 1)) (zm rfl (zn ?_)))); intro a w h
        exact ⟨p + 1, ⟨by omega, ((h.drop sl).factsSub (by simp)).sub sA⟩, by omega⟩
      · skip
        have heq_p : (cotN n i (n + 1)).length = p := by have := of_decide_eq_false hc51; omega
        subst heq_p
        refine gC h (ze (zs (yD mixed_YtkhnecelhpnaoaaGreatDoor [0, 1, 2, 3, 4, 5, 6, 7, 8] (floatsOK_none (by kernel_rfl)) (yp rfl (.fieldAddr rfl (fa_71_0 _ _)) (yd rfl rfl mr Tryz.isAgg56 Tryz.sizeOf56 (rs_2_0 _ _) ?_))))); clear h
        refine yp rfl (.move rfl) (yp rfl (.move rfl) (yv [_, _] rfl rfl Tryz.call85 (C_rratio _ _ (by omega) (by omega) (by omega) (by omega) (by omega)) ?_))
        have hl67 := lenQ_of (((i : Nat) : Int)) (((n : Nat) : Int)) (by omega) (by omega) (by omega) (by omega)
        refine yB rfl [(_, _)] rfl (bs_56_1_0 _ _ _ _ _) fun b68 => ?_
        refine head_appendO (σr := ((b8, .cells (Value.cells (encQ (csum (cotN n i (n + 1)) ((cotN n i (n + 1)).length)))) 52 (0, 0)) :: (o2 ++ ((b4, .cells (Value.cells (.agg #[(.slice ad1 (lstT (cotA n) i).length c1), (.slice ad2 (lstT (cotW n) i).length c2)])) 71 (0, 0)) :: ((b2, .cells (Value.cells (.agg #[.slice none 0 0, .slice none 0 0])) 71 (0, 0)) :: []))))) rfl (by kernel_rfl) rfl rfl (List.Perm.trans (List.Perm.refl _) (List.Perm.cons _ (pm_ca (pm_aa (List.Perm.refl _))))) hG1 Tryz.runUnderlying56 Tryz.runUnderlying56 Tryz.typeInfo52 Tryz.sizeOf52 zeroQ rfl (by decide) (by decide) rfl rfl (by decide) (by show 56 * (2 * ((lstT (cotA n) i).length + 1) + 192) ≤ 281474976710656; have h1 := lstT_len (cotA n) i; have h2 := lstT_len (cotW n) i; omega) (by decide) ?_
        intro v69 o69 hG69
        obtain ⟨ad69, c69, rfl⟩ := hG69.is
        have hLn69 : (lstT (cotA n) i).length + 1 = ((lstT (cotA n) i) ++ [((((i : Nat) : Int) : Int) : Rat) / ((((n : Nat) : Int) : Int) : Rat)]).length := by simp only [List.length_append, List.length_cons, List.length_nil, Nat.zero_add]
        rw [hLn69]; rw [hLn69] at hG69
        replace hG69 : GrowO 5 52 (.slice ad69 ((lstT (cotA n) i) ++ [((((i : Nat) : Int) : Int) : Rat) / ((((n : Nat) : Int) : Int) : Rat)]).length c69) ((lstT (cotA n) i) ++ [((((i : Nat) : Int) : Int) : Rat) / ((((n : Nat) : Int) : Int) : Rat)]).length (cellsOf encQ ((lstT (cotA n) i) ++ [((((i : Nat) : Int) : Int) : Rat) / ((((n : Nat) : Int) : Int) : Rat)])) o69 := by rw [cellsOf_append, cellsOf_one]; exact hG69
        refine yp rfl (.fieldAddr rfl (fa_71_0 _ _)) (yt rfl rfl rfl (st_2_0_1 _ _ _) uu Tryz.sizeOf56 rfl nb (by show ((flat ((.slice ad69 ((lstT (cotA n) i) ++ [((((i : Nat) : Int) : Int) : Rat) / ((((n : Nat) : Int) : Int) : Rat)]).length c69)) && true)) = true; simp only [GrowO.flat (hG69)]; rfl) ?_)
        refine yn (zr (zp (.fieldAddr rfl (fa_71_1 _ _)) (zd rfl mr Tryz.isAgg56 Tryz.sizeOf56 (rs_2_1 _ _) ?_))); intro a w h
        refine gL h (zd rfl mr Tryz.isAgg52 Tryz.sizeOf52 (rd_5_0_5 _ _ _ _ _) ?_); clear h; intro a w h
        refine gL h (zB [(_, _)] rfl (bs_56_1_0 _ _ _ _ _) fun b74 => ?_); clear h; intro a w h
        refine wpl_plain (op_appendO (σr := (o69 ++ ((b8, .cells (Value.cells (encQ (csum (cotN n i (n + 1)) ((cotN n i (n + 1)).length)))) 52 (0, 0)) :: ((b4, .cells (Value.cells (.agg #[(.slice ad69 ((lstT (cotA n) i) ++ [((((i : Nat) : Int) : Int) : Rat) / ((((n : Nat) : Int) : Int) : Rat)]).length c69), (.slice ad2 (lstT (cotW n) i).length c2)])) 71 (0, 0)) :: ((b2, .cells (Value.cells (.agg #[.slice none 0 0, .slice none 0 0])) 71 (0, 0)) :: []))))) h rfl rfl (List.Perm.trans (List.Perm.refl _) (List.Perm.cons _ (pm_aa (pm_ca (List.Perm.refl _))))) hG2 Tryz.runUnderlying56 Tryz.runUnderlying56 Tryz.typeInfo52 Tryz.sizeOf52 zeroQ rfl (by decide) (by decide) rfl rfl (by decide) (by show 56 * (2 * ((lstT (cotW n) i).length + 1) + 192) ≤ 281474976710656; have h1 := lstT_len (cotA n) i; have h2 := lstT_len (cotW n) i; omega) (by decide) ?_); clear h
        intro v75 o75 a w hG75 h
        obtain ⟨ad75, c75, rfl⟩ := hG75.is
        have hLn75 : (lstT (cotW n) i).length + 1 = ((lstT (cotW n) i) ++ [csum (cotN n i (n + 1)) ((cotN n i (n + 1)).length)]).length := by simp only [List.length_append, List.length_cons, List.length_nil, Nat.zero_add]
        rw [hLn75] at h hG75
        replace hG75 : GrowO 5 52 (.slice ad75 ((lstT (cotW n) i) ++ [csum (cotN n i (n + 1)) ((cotN n i (n + 1)).length)]).length c75) ((lstT (cotW n) i) ++ [csum (cotN n i (n + 1)) ((cotN n i (n + 1)).length)]).length (cellsOf encQ ((lstT (cotW n) i) ++ [csum (cotN n i (n + 1)) ((cotN n i (n + 1)).length)])) o75 := by rw [cellsOf_append, cellsOf_one]; exact hG75
        refine gL h (zp (.fieldAddr rfl (fa_71_1 _ _)) (zt' rfl rfl (st_2_1_1 _ _ _) uu Tryz.sizeOf56 rfl nb (by show ((flat ((.slice ad75 ((lstT (cotW n) i) ++ [csum (cotN n i (n + 1)) ((cotN n i (n + 1)).length)]).length c75)) && true)) = true; simp only [GrowO.flat (hG75)]; rfl) ?_)); clear h; intro a w h
        refine gL h (zn (zr (zp (Pure1.cast (v' := (.int .i64 ((i + 1 : Nat) : Int))) (.add rfl rfl) (by show Value.int _ _ = Value.int _ _; congr 1)) (zm rfl (zn ?_))))); clear h; intro a w h
        exact ⟨i + 1, ⟨by omega, ad69, c69, o69, ad75, c75, o75, ⟨hG69, hG75⟩, by exact (((h.perm (List.Perm.trans (pm_ac (pm_ac (List.Perm.refl _))) (List.Perm.cons _ (List.Perm.refl _))).symm).drop (by repeat (first | exact List.Sublist.refl _ | apply List.Sublist.cons))).factsSub (by simp)).sub sA⟩, by omega⟩
  · skip
    have heq_i : (n + 1) = i := by have := of_decide_eq_false hc22; omega
    subst heq_i
    refine gC h (ze (zs (zr (zd rfl mr Tryz.isAgg71 Tryz.sizeOf71 (rd_2_0_2 _ _) ?_)))); clear h; intro a w h
    refine gL h (zt' rfl rfl (st_2_0_2 _ _ _ _) uu Tryz.sizeOf71 rfl nb (by show ((flat ((.slice ad1 (lstT (cotA n) (n + 1)).length c1)) && (flat ((.slice ad2 (lstT (cotW n) (n + 1)).length c2)) && true))) = true; simp only [GrowO.flat (hG1), GrowO.flat (hG2)]; rfl) ?_); clear h; intro a w h
    refine gL h (za rfl (zn (zt ?_))); clear h; intro a w h
    replace h := (St.shareO' (St.shareO' (h.perm (pm_aa (List.Perm.refl _)).symm) hS hG1) hS hG2)
    refine ret_of (Ψ := [Row ad2 (cellsOf encQ (lstT (cotW n) (n + 1))), Row ad1 (cellsOf encQ (lstT (cotA n) (n + 1)))]) h (results2 h rfl (.cell rfl mr Tryz.isAgg71 Tryz.sizeOf71 (rd_2_0_2 _ _)) (.tmp rfl)) ⟨ad1, c1, ad2, c2, rfl, rfl⟩ (by simp)
end
section

abbrev enci (x : Int) : Value := .int .i64 x
/-- The first number that is not 0, else 0. -/
def orI : List Int → Int
  | [] => 0
  | x :: l => if x ≠ 0 then x else orI l
theorem orI_hit : ∀ (l : List Int) (i : Nat), (∀ j, j < i → l.getD j 0 = 0) → i < l.length → l.getD i 0 ≠ 0 → orI l = l.getD i 0
  | [], i, _, h, _ => by simp at h
  | x :: l, 0, _, _, h => by rw [orI]; exact if_pos (by simpa using h)
  | x :: l, i + 1, hz, hl, h => by
    have h0 : x = 0 := by simpa using hz 0 (by omega)
    rw [orI, if_neg (by simp [h0]), orI_hit l i (fun j hj => by simpa using hz (j + 1) (by omega)) (by simpa using hl) (by simpa using h)]
    simp
theorem orI_none : ∀ (l : List Int), (∀ j, j < l.length → l.getD j 0 = 0) → orI l = 0
  | [], _ => rfl
  | x :: l, hz => by
    have h0 : x = 0 := by simpa using hz 0 (by simp)
    rw [orI, if_neg (by simp [h0]), orI_none l (fun j hj => by simpa using hz (j + 1) (by simpa using hj))]
/-- The index of the first negative number, else -1. -/
def idxN : List Rat → Nat → Int
  | [], _ => -1
  | x :: l, i => if x.num.sign < 0 then (i : Int) else idxN l (i + 1)
theorem idxN_step (l : List Rat) (i : Nat) (h : i < l.length) : idxN (l.drop i) i = if (l.getD i 0).num.sign < 0 then (i : Int) else idxN (l.drop (i + 1)) (i + 1) := by
  rw [List.drop_eq_getElem_cons h, idxN]; simp [List.getD, h]
theorem idxN_any : ∀ (l : List Rat) (i : Nat), decide (idxN l i ≥ 0) = l.any (fun x : Rat => decide (x.num.sign < 0))
  | [], i => by rw [idxN]; simp
  | x :: l, i => by
    rw [idxN, List.any_cons, ← idxN_any l (i + 1)]
    by_cases h : x.num.sign < 0
    · rw [if_pos h, decide_eq_true h, Bool.true_or]; exact decide_eq_true (by omega)
    · rw [if_neg h, decide_eq_false h, Bool.false_or]
/-- The comparison by which the indices are sorted. -/
def cfN (E : List Rat) (i k : Nat) : Int := orI [(E.getD k 0 - E.getD i 0).num.sign, cmpZ (i : Int) (k : Int)]

theorem C_Or (ad : Option Addr) (c : Nat) (l : List Int) (hn : l.length ≤ 1000) : CtrW Tryz.prog 182 [.slice ad l.length c] [Row ad (List.map enci l)] (.int .i64 (orI l)) := by
  refine fn_intro Tryz.func182 rfl Tryz.ntmps182 nb ?_
  intro S w0 a hS h
  refine gC h (zs (zr (za rfl (zn (zs (zr (za rfl (zn (zs (zs (zr (zm rfl (zp (.builtin [_] rfl (len_slice_96 _ _ _)) (zm rfl (zn (zb ?_)))))))))))))))); clear h; intro a w h
  refine wp_loop_inv (fun (i : Nat) a w => i ≤ l.length ∧ (∀ j, j < i → l.getD j 0 = 0) ∧ St 18 S w0 [(3, .int .i64 0), (6, .slice ad l.length c), (7, .int .i64 ((l.length : Nat) : Int)), (8, .int .i64 ((i : Nat) : Int))] [] [Row ad (List.map enci l)] a w) (fun i => l.length - i) 0 (⟨Nat.zero_le _, fun j hj => absurd hj (by omega), by exact (h).sub (subL ⟨rfl, rfl, rfl, rfl, trivial⟩)⟩) ?_; clear h
  rintro i a w ⟨hi_i, hinv_i, h⟩
  refine gC h (zs (zr (zp (.lss rfl rfl) (zn (zs ?_))))); clear h; intro a w h
  refine cond_split h rfl (fun hc9 => ?_) (fun hc9 => ?_)
  · skip
    have hlt_i : i < l.length := by have := of_decide_eq_true hc9; omega
    obtain ⟨B_ad, O_ad, rfl⟩ := h.row_addr (ad := ad) (M := List.map enci l) mm (by intro e; have := congrArg List.length e; simp only [List.length_map, List.length_nil] at this; omega)
    refine gC h (zk (zs (zb (zs (zr (zp (.indexAddr rfl rfl (ix_96 _ _ _ _ _ (by omega))) (zD rfl mm (by rw [List.length_map]; omega) Tryz.isAgg3 Tryz.sizeOf3 (read_row (enc := enci) (l := l) 0 (by omega)) (.inr rfl) ?_))))))); clear h; intro a w h
    refine gL h (za rfl (zn (zs (zr (zm rfl (zm rfl (zp (.neq rfl rfl) ?_))))))); clear h; intro a w h
    refine by_bool h (fun hc14 h => ?_) (fun hc14 h => ?_)
    · skip
      refine wpList_nil ?_
      change Code.wp _ _ _ _ _
      refine cond_true h rfl ?_
      refine gC h (zs (zr (zm rfl (za rfl (zn (zt ?_)))))); clear h; intro a w h
      refine retV h (results1 h rfl (.tmp rfl)) ?_
      rw [orI_hit l i hinv_i hlt_i (by simpa using hc14)]
    · skip
      refine wpList_nil ?_
      change Code.wp _ _ _ _ _
      refine cond_false h rfl ?_
      refine gC h (zk (zr (zp (Pure1.cast (v' := (.int .i64 ((i + 1 : Nat) : Int))) (.add rfl rfl) (by show Value.int _ _ = Value.int _ _; congr 1)) (zm rfl (zn ?_))))); clear h; intro a w h
      exact ⟨i + 1, ⟨by omega, fun j hj => by
        rcases Nat.lt_or_ge j i with h1 | h1
        · exact hinv_i j h1
        · rw [show j = i by omega]; simpa using hc14, (h.factsSub (by simp)).sub sA⟩, by omega⟩
  · skip
    have heq_i : l.length = i := by have := of_decide_eq_false hc9; omega
    subst heq_i
    refine gC h (ze (zs (zr (zm rfl (za rfl (zn (zt ?_))))))); clear h; intro a w h
    refine retV h (results1 h rfl (.tmp rfl)) ?_
    rw [orI_none l hinv_i]
end
section

/-- A term c x^i y^j. -/
structure Tm where
  i : Nat
  j : Nat
  c : Rat
theorem Tm.ext' {s t : Tm} (h1 : s.i = t.i) (h2 : s.j = t.j) (h3 : s.c = t.c) : s = t := by cases s; cases t; simp_all
instance : DecidableEq Tm := fun s t => decidable_of_iff (s.i = t.i ∧ s.j = t.j ∧ s.c = t.c) ⟨fun h => Tm.ext' h.1 h.2.1 h.2.2, fun h => by rw [h]; exact ⟨rfl, rfl, rfl⟩⟩
/-- The sum over the terms of the coefficient times a weight of the power. -/
def lin (φ : Nat → Nat → Rat) : List Tm → Rat
  | [] => 0
  | t :: l => t.c * φ t.i t.j + lin φ l
theorem lin_nil (φ : Nat → Nat → Rat) : lin φ [] = 0 := rfl
theorem lin_cons (φ : Nat → Nat → Rat) (t : Tm) (l : List Tm) : lin φ (t :: l) = t.c * φ t.i t.j + lin φ l := rfl
theorem lin_append (φ : Nat → Nat → Rat) : ∀ l m : List Tm, lin φ (l ++ m) = lin φ l + lin φ m
  | [], m => by simp only [List.nil_append, lin]; grind
  | t :: l, m => by simp only [List.cons_append, lin, lin_append φ l m]; grind
theorem lin_perm (φ : Nat → Nat → Rat) {l m : List Tm} (h : l.Perm m) : lin φ l = lin φ m := by
  induction h with
  | nil => rfl
  | cons x _ ih => simp only [lin, ih]
  | swap x y l => simp only [lin]; grind
  | trans _ _ h1 h2 => rw [h1, h2]
theorem lin_congr {φ ψ : Nat → Nat → Rat} : ∀ {l : List Tm}, (∀ t ∈ l, φ t.i t.j = ψ t.i t.j) → lin φ l = lin ψ l
  | [], _ => rfl
  | t :: l, h => by rw [lin, lin, h t List.mem_cons_self, lin_congr (fun s hs => h s (List.mem_cons_of_mem _ hs))]
theorem lin_add (φ ψ : Nat → Nat → Rat) : ∀ l : List Tm, lin (fun i j => φ i j + ψ i j) l = lin φ l + lin ψ l
  | [] => by simp only [lin]; grind
  | t :: l => by simp only [lin, lin_add φ ψ l]; grind
theorem lin_sub (φ ψ : Nat → Nat → Rat) : ∀ l : List Tm, lin (fun i j => φ i j - ψ i j) l = lin φ l - lin ψ l
  | [] => by simp only [lin]; grind
  | t :: l => by simp only [lin, lin_sub φ ψ l]; grind
theorem lin_smul (a : Rat) (φ : Nat → Nat → Rat) : ∀ l : List Tm, lin (fun i j => a * φ i j) l = a * lin φ l
  | [] => by simp only [lin]; grind
  | t :: l => by simp only [lin, lin_smul a φ l]; grind
theorem lin_mulr (a : Rat) (φ : Nat → Nat → Rat) : ∀ l : List Tm, lin (fun i j => φ i j * a) l = lin φ l * a
  | [] => by simp only [lin]; grind
  | t :: l => by simp only [lin, lin_mulr a φ l]; grind
theorem lin_zero : ∀ l : List Tm, lin (fun _ _ => 0) l = 0
  | [] => rfl
  | t :: l => by simp only [lin, lin_zero l]; grind
/-- Sums may be exchanged. -/
theorem lin_swap (f : Nat → Nat → Nat → Nat → Rat) : ∀ l m : List Tm, lin (fun i j => lin (fun p q => f i j p q) m) l = lin (fun p q => lin (fun i j => f i j p q) l) m
  | [], m => by simp only [lin]; rw [lin_zero]
  | t :: l, m => by
    simp only [lin, lin_swap f l m, lin_add, lin_smul]
/-- Terms turned one by one. -/
theorem lin_map (φ : Nat → Nat → Rat) (g : Tm → Tm) (ψ : Nat → Nat → Rat) : ∀ l : List Tm, (∀ t ∈ l, (g t).c * φ (g t).i (g t).j = t.c * ψ t.i t.j) → lin φ (l.map g) = lin ψ l
  | [], _ => rfl
  | t :: l, h => by rw [List.map_cons, lin, lin, h t List.mem_cons_self, lin_map φ g ψ l (fun s hs => h s (List.mem_cons_of_mem _ hs))]
/-- A sum over a list of lists. -/
theorem lin_flatMap (φ : Nat → Nat → Rat) (g : Tm → List Tm) (ψ : Nat → Nat → Rat) : ∀ l : List Tm, (∀ t ∈ l, lin φ (g t) = t.c * ψ t.i t.j) → lin φ (l.flatMap g) = lin ψ l
  | [], _ => rfl
  | t :: l, h => by rw [List.flatMap_cons, lin_append, lin, h t List.mem_cons_self, lin_flatMap φ g ψ l (fun s hs => h s (List.mem_cons_of_mem _ hs))]

/-! ### The normal form -/
def same (s t : Tm) : Prop := s.i = t.i ∧ s.j = t.j
instance (s t : Tm) : Decidable (same s t) := inferInstanceAs (Decidable (_ ∧ _))
/-- A term added to a list of terms with different powers. -/
def insT (t : Tm) : List Tm → List Tm
  | [] => [⟨t.i, t.j, 0 + t.c⟩]
  | s :: p => if same s t then ⟨s.i, s.j, s.c + t.c⟩ :: p else s :: insT t p
theorem lin_insT (φ : Nat → Nat → Rat) (t : Tm) : ∀ p : List Tm, lin φ (insT t p) = lin φ p + t.c * φ t.i t.j
  | [] => by simp only [insT, lin]; grind
  | s :: p => by
    rw [insT]
    split
    · rename_i h; obtain ⟨h1, h2⟩ := h; simp only [lin, h1, h2]; grind
    · simp only [lin, lin_insT φ t p]; grind
theorem insT_mem {t u : Tm} : ∀ {p : List Tm}, u ∈ insT t p → same u t ∨ u ∈ p
  | [], h => by simp only [insT, List.mem_singleton] at h; subst h; exact .inl ⟨rfl, rfl⟩
  | s :: p, h => by
    rw [insT] at h
    split at h
    · rename_i h2
      rcases List.mem_cons.1 h with rfl | h
      · exact .inl h2
      · exact .inr (List.mem_cons_of_mem _ h)
    · rcases List.mem_cons.1 h with rfl | h
      · exact .inr List.mem_cons_self
      · exact (insT_mem h).imp id (List.mem_cons_of_mem _)
/-- The powers of a list of terms are different. -/
def dif (p : List Tm) : Prop := p.Pairwise (fun s t => ¬ same s t)
theorem insT_dif (t : Tm) : ∀ {p : List Tm}, dif p → dif (insT t p)
  | [], _ => by rw [insT]; exact List.pairwise_singleton _ _
  | s :: p, h => by
    obtain ⟨h1, h2⟩ := List.pairwise_cons.1 h
    rw [insT]
    split
    · rename_i hs; exact List.pairwise_cons.2 ⟨fun u hu hc => h1 u hu hc, h2⟩
    · rename_i hs
      refine List.pairwise_cons.2 ⟨fun u hu => ?_, insT_dif t h2⟩
      rcases insT_mem hu with h3 | h3
      · exact fun h4 => hs ⟨h4.1.trans h3.1, h4.2.trans h3.2⟩
      · exact h1 u h3
theorem insT_len (t : Tm) : ∀ p : List Tm, (insT t p).length ≤ p.length + 1
  | [] => Nat.le_refl _
  | s :: p => by rw [insT]; split <;> simp only [List.length_cons]; · omega
                 · have := insT_len t p; omega
def collect (l : List Tm) : List Tm := l.foldl (fun p t => insT t p) []
theorem collect_gen (φ : Nat → Nat → Rat) : ∀ (l p : List Tm), lin φ (l.foldl (fun p t => insT t p) p) = lin φ p + lin φ l
  | [], p => by simp only [List.foldl_nil, lin]; grind
  | t :: l, p => by rw [List.foldl_cons, collect_gen φ l, lin_insT, lin]; grind
theorem lin_collect (φ : Nat → Nat → Rat) (l : List Tm) : lin φ (collect l) = lin φ l := by
  rw [collect, collect_gen, lin]; grind
theorem collect_dif_gen : ∀ (l : List Tm) {p : List Tm}, dif p → dif (l.foldl (fun p t => insT t p) p)
  | [], p, h => h
  | t :: l, p, h => by rw [List.foldl_cons]; exact collect_dif_gen l (insT_dif t h)
theorem collect_dif (l : List Tm) : dif (collect l) := collect_dif_gen l List.Pairwise.nil
theorem collect_mem_gen {u : Tm} : ∀ (l : List Tm) {p : List Tm}, u ∈ l.foldl (fun p t => insT t p) p → u ∈ p ∨ ∃ t ∈ l, same u t
  | [], p, h => .inl h
  | t :: l, p, h => by
    rw [List.foldl_cons] at h
    rcases collect_mem_gen l h with h1 | ⟨s, hs, h1⟩
    · rcases insT_mem h1 with h2 | h2
      · exact .inr ⟨t, List.mem_cons_self, h2⟩
      · exact .inl h2
    · exact .inr ⟨s, List.mem_cons_of_mem _ hs, h1⟩
theorem collect_mem {l : List Tm} {u : Tm} (h : u ∈ collect l) : ∃ t ∈ l, same u t := by
  rcases collect_mem_gen l h with h | h
  · cases h
  · exact h
theorem collect_len_gen : ∀ (l p : List Tm), (l.foldl (fun p t => insT t p) p).length ≤ p.length + l.length
  | [], p => Nat.le_refl _
  | t :: l, p => by rw [List.foldl_cons]; have := collect_len_gen l (insT t p); have := insT_len t p; simp only [List.length_cons]; omega
theorem collect_len (l : List Tm) : (collect l).length ≤ l.length := by have := collect_len_gen l []; simpa [collect] using this

/-- The order of the powers: by degree, then by the exponent of y. -/
def ltT (s t : Tm) : Bool := decide (s.i + s.j < t.i + t.j ∨ (s.i + s.j = t.i + t.j ∧ s.j < t.j))
theorem ltT_iff (s t : Tm) : ltT s t = true ↔ (s.i + s.j < t.i + t.j ∨ (s.i + s.j = t.i + t.j ∧ s.j < t.j)) := decide_eq_true_iff
theorem ltT_irrefl (s : Tm) : ltT s s = false := by rw [Bool.eq_false_iff, Ne, ltT_iff]; omega
theorem ltT_trans {s t u : Tm} (h1 : ltT s t = true) (h2 : ltT t u = true) : ltT s u = true := by rw [ltT_iff] at *; omega
theorem ltT_ntrans {s t u : Tm} (h1 : ltT s t = false) (h2 : ltT t u = false) : ltT s u = false := by rw [Bool.eq_false_iff, Ne, ltT_iff] at *; omega
theorem ltT_total {s t : Tm} (h1 : ltT s t = false) (h2 : ltT t s = false) : same s t := by
  rw [Bool.eq_false_iff, Ne, ltT_iff] at *; unfold same; omega
/-- A normal form: no coefficient 0, the powers ascend. -/
def Nrm (p : List Tm) : Prop := (∀ t ∈ p, t.c ≠ 0) ∧ p.Pairwise (fun s t => ltT s t = true)
def norm (l : List Tm) : List Tm := ((collect l).filter (fun t => decide (t.c ≠ 0))).mergeSort (fun s t => !ltT t s)
theorem lin_filter (φ : Nat → Nat → Rat) : ∀ l : List Tm, lin φ (l.filter (fun t => decide (t.c ≠ 0))) = lin φ l
  | [] => rfl
  | t :: l => by
    rw [List.filter_cons]
    split
    · rw [lin, lin, lin_filter φ l]
    · rename_i h
      have h0 : t.c = 0 := by simpa using h
      rw [lin, lin_filter φ l, h0]; grind
theorem lin_norm (φ : Nat → Nat → Rat) (l : List Tm) : lin φ (norm l) = lin φ l := by
  rw [norm, lin_perm φ (List.mergeSort_perm _ _), lin_filter, lin_collect]
theorem norm_mem {l : List Tm} {u : Tm} (h : u ∈ norm l) : u ∈ collect l ∧ u.c ≠ 0 := by
  have := (List.mergeSort_perm _ _).mem_iff.1 h
  rw [List.mem_filter] at this
  exact ⟨this.1, by simpa using this.2⟩
theorem norm_nrm (l : List Tm) : Nrm (norm l) := by
  refine ⟨fun t ht => (norm_mem ht).2, ?_⟩
  have hd : dif (norm l) := by
    have h1 : dif ((collect l).filter (fun t => decide (t.c ≠ 0))) := List.Pairwise.filter _ (collect_dif l)
    refine (List.Perm.pairwise_iff (fun {x y} h h2 => h ⟨h2.1.symm, h2.2.symm⟩) (List.mergeSort_perm _ _)).2 h1
  have hs := List.pairwise_mergeSort (le := fun s t => !ltT t s) (fun a b c h1 h2 => by
      simp only [Bool.not_eq_true'] at *
      exact ltT_ntrans h2 h1) (fun a b => by
      rcases h : ltT b a with _ | _
      · simp
      · have : ltT a b = false := by rw [Bool.eq_false_iff]; intro h2; have := ltT_trans h h2; rw [ltT_irrefl] at this; cases this
        simp [this]) ((collect l).filter (fun t => decide (t.c ≠ 0)))
  refine List.Pairwise.imp₂ (fun s t h1 h2 => ?_) hs hd
  rcases h : ltT s t with _ | _
  · exact absurd (ltT_total h (by simpa using h1)) h2
  · rfl
/-- The coefficient's weight. -/
def at0 (a b : Nat) : Nat → Nat → Rat := fun i j => if i = a ∧ j = b then 1 else 0
theorem lin_at0_none {a b : Nat} : ∀ {l : List Tm}, (∀ t ∈ l, ¬ (t.i = a ∧ t.j = b)) → lin (at0 a b) l = 0
  | [], _ => rfl
  | t :: l, h => by
    rw [lin, lin_at0_none (fun s hs => h s (List.mem_cons_of_mem _ hs)), at0, if_neg (h t List.mem_cons_self)]; grind
theorem nrm_tail {t : Tm} {p : List Tm} (h : Nrm (t :: p)) : Nrm p := ⟨fun s hs => h.1 s (List.mem_cons_of_mem _ hs), (List.pairwise_cons.1 h.2).2⟩
theorem nrm_head {t : Tm} {p : List Tm} (h : Nrm (t :: p)) : lin (at0 t.i t.j) (t :: p) = t.c := by
  rw [lin, lin_at0_none (fun s hs => ?_), at0, if_pos ⟨rfl, rfl⟩]
  · grind
  · have := (List.pairwise_cons.1 h.2).1 s hs
    rw [ltT_iff] at this; omega
theorem nrm_less {s t : Tm} {q : List Tm} (h : ltT s t = true) (hq : Nrm (t :: q)) : lin (at0 s.i s.j) (t :: q) = 0 := by
  refine lin_at0_none (fun u hu => ?_)
  have hu' : ltT s u = true := by
    rcases List.mem_cons.1 hu with rfl | hu
    · exact h
    · exact ltT_trans h ((List.pairwise_cons.1 hq.2).1 u hu)
  rw [ltT_iff] at hu'; omega
/-- A normal form is known by its sums. -/
theorem nrm_ext : ∀ {p q : List Tm}, Nrm p → Nrm q → (∀ φ, lin φ p = lin φ q) → p = q
  | [], [], _, _, _ => rfl
  | [], t :: q, _, hq, h => by
    have h1 := h (at0 t.i t.j)
    rw [nrm_head hq, lin_nil] at h1
    exact absurd h1.symm (hq.1 t List.mem_cons_self)
  | s :: p, [], hp, _, h => by
    have h1 := h (at0 s.i s.j)
    rw [nrm_head hp, lin_nil] at h1
    exact absurd h1 (hp.1 s List.mem_cons_self)
  | s :: p, t :: q, hp, hq, h => by
    have hst : same s t := by
      refine ltT_total ?_ ?_
      · rw [Bool.eq_false_iff]; intro hc
        have h1 := h (at0 s.i s.j)
        rw [nrm_head hp, nrm_less hc hq] at h1
        exact hp.1 s List.mem_cons_self h1
      · rw [Bool.eq_false_iff]; intro hc
        have h1 := h (at0 t.i t.j)
        rw [nrm_head hq, nrm_less hc hp] at h1
        exact hq.1 t List.mem_cons_self h1.symm
    have hc : s.c = t.c := by
      have h1 := h (at0 s.i s.j)
      rw [nrm_head hp, hst.1, hst.2, nrm_head hq] at h1
      exact h1
    have e := Tm.ext' hst.1 hst.2 hc
    subst e
    rw [nrm_ext (nrm_tail hp) (nrm_tail hq) (fun φ => by have := h φ; rw [lin, lin] at this; grind)]
theorem norm_eq {l m : List Tm} (h : ∀ φ, lin φ l = lin φ m) : norm l = norm m :=
  nrm_ext (norm_nrm l) (norm_nrm m) (fun φ => by rw [lin_norm, lin_norm, h])
theorem norm_id {p : List Tm} (h : Nrm p) : norm p = p := nrm_ext (norm_nrm p) h (fun φ => lin_norm φ p)
theorem norm_norm (l : List Tm) : norm (norm l) = norm l := norm_id (norm_nrm l)

end
section

/-! ### Values -/
theorem qpow_add (x : Rat) (m : Nat) : ∀ n : Nat, x ^ (m + n) = x ^ m * x ^ n
  | 0 => by rw [Nat.add_zero, Rat.pow_zero]; grind
  | n + 1 => by rw [← Nat.add_assoc, Rat.pow_succ, Rat.pow_succ, qpow_add x m n]; grind
theorem qmul_pow (x y : Rat) : ∀ n : Nat, (x * y) ^ n = x ^ n * y ^ n
  | 0 => by rw [Rat.pow_zero, Rat.pow_zero, Rat.pow_zero]; grind
  | n + 1 => by rw [Rat.pow_succ, Rat.pow_succ, Rat.pow_succ, qmul_pow x y n]; grind
theorem qone_pow : ∀ n : Nat, (1 : Rat) ^ n = 1
  | 0 => Rat.pow_zero _
  | n + 1 => by rw [Rat.pow_succ, qone_pow n]; grind
def evP (l : List Tm) (x y : Rat) : Rat := lin (fun i j => x ^ i * y ^ j) l
def mulL (a b : List Tm) : List Tm := a.flatMap (fun s => b.map (fun t => ⟨s.i + t.i, s.j + t.j, s.c * t.c⟩))
theorem lin_mulL (φ : Nat → Nat → Rat) (a b : List Tm) : lin φ (mulL a b) = lin (fun i j => lin (fun p q => φ (i + p) (j + q)) b) a := by
  unfold mulL
  refine lin_flatMap φ _ _ a (fun s _ => ?_)
  rw [lin_map φ _ (fun p q => s.c * φ (s.i + p) (s.j + q)) b (fun t _ => by simp only; grind), lin_smul]
theorem ev_mulL (a b : List Tm) (x y : Rat) : evP (mulL a b) x y = evP a x y * evP b x y := by
  unfold evP
  rw [lin_mulL, ← lin_mulr]
  refine lin_congr (fun s _ => ?_)
  rw [← lin_smul]
  refine lin_congr (fun t _ => ?_)
  rw [qpow_add, qpow_add]; grind
def powL (p : List Tm) : Nat → List Tm
  | 0 => [⟨0, 0, 1⟩]
  | n + 1 => mulL (powL p n) p
theorem ev_powL (p : List Tm) (x y : Rat) : ∀ n, evP (powL p n) x y = evP p x y ^ n
  | 0 => by rw [powL, evP, lin, lin, Rat.pow_zero, Rat.pow_zero, Rat.pow_zero]; grind
  | n + 1 => by rw [powL, ev_mulL, ev_powL p x y n, Rat.pow_succ]
theorem ev_append (l m : List Tm) (x y : Rat) : evP (l ++ m) x y = evP l x y + evP m x y := lin_append _ _ _
def scaleL (c : Rat) (l : List Tm) : List Tm := l.map (fun t => ⟨t.i, t.j, c * t.c⟩)
theorem lin_scaleL (φ : Nat → Nat → Rat) (c : Rat) (l : List Tm) : lin φ (scaleL c l) = c * lin φ l := by
  unfold scaleL
  rw [← lin_smul]
  exact lin_map φ _ _ l (fun t _ => by simp only; grind)
theorem ev_scaleL (c : Rat) (l : List Tm) (x y : Rat) : evP (scaleL c l) x y = c * evP l x y := lin_scaleL _ _ _
/-- Polynomials put for x and y. -/
def sbL (X Y : List Tm) (l : List Tm) : List Tm := l.flatMap (fun t => scaleL t.c (mulL (powL X t.i) (powL Y t.j)))
theorem lin_sbL (φ : Nat → Nat → Rat) (X Y l : List Tm) : lin φ (sbL X Y l) = lin (fun i j => lin φ (mulL (powL X i) (powL Y j))) l := by
  unfold sbL
  exact lin_flatMap φ _ _ l (fun t _ => by rw [lin_scaleL])
theorem ev_sbL (X Y l : List Tm) (x y : Rat) : evP (sbL X Y l) x y = evP l (evP X x y) (evP Y x y) := by
  unfold evP
  rw [lin_sbL]
  refine lin_congr (fun t _ => ?_)
  have := ev_mulL (powL X t.i) (powL Y t.j) x y
  rw [ev_powL, ev_powL] at this
  exact this
def dxL (l : List Tm) : List Tm := l.map (fun t => ⟨t.i - 1, t.j, t.c * ((t.i : Int) : Rat)⟩)
def dyL (l : List Tm) : List Tm := l.map (fun t => ⟨t.i, t.j - 1, t.c * ((t.j : Int) : Rat)⟩)
theorem lin_dxL (φ : Nat → Nat → Rat) (l : List Tm) : lin φ (dxL l) = lin (fun i j => ((i : Int) : Rat) * φ (i - 1) j) l :=
  lin_map φ _ _ l (fun t _ => by simp only; grind)
theorem lin_dyL (φ : Nat → Nat → Rat) (l : List Tm) : lin φ (dyL l) = lin (fun i j => ((j : Int) : Rat) * φ i (j - 1)) l :=
  lin_map φ _ _ l (fun t _ => by simp only; grind)
theorem cast_add (a b : Nat) : (((a + b : Nat) : Int) : Rat) = ((a : Int) : Rat) + ((b : Int) : Rat) := by
  rw [Int.natCast_add, Rat.intCast_add]
theorem cast_zero : (((0 : Nat) : Int) : Rat) = 0 := rfl
theorem cast_one : (((1 : Nat) : Int) : Rat) = 1 := rfl
/-- The rule of products. -/
theorem lin_dx_mulL (φ : Nat → Nat → Rat) (a b : List Tm) : lin φ (dxL (mulL a b)) = lin φ (mulL (dxL a) b) + lin φ (mulL a (dxL b)) := by
  rw [lin_dxL, lin_mulL, lin_mulL, lin_mulL, lin_dxL, ← lin_add]
  refine lin_congr (fun s _ => ?_)
  rw [lin_dxL, ← lin_smul, ← lin_add]
  refine lin_congr (fun t _ => ?_)
  rw [cast_add]
  rcases hs : s.i with _ | m <;> rcases ht : t.i with _ | n
  · simp only [cast_zero]; grind
  · rw [cast_zero]; simp only [Nat.zero_add, Nat.add_sub_cancel]; grind
  · rw [cast_zero]; simp only [Nat.add_zero, Nat.add_sub_cancel]; grind
  · rw [show m + 1 + (n + 1) - 1 = m + n + 1 by omega, show m + 1 - 1 + (n + 1) = m + n + 1 by omega, show m + 1 + (n + 1 - 1) = m + n + 1 by omega]; grind
theorem lin_dy_mulL (φ : Nat → Nat → Rat) (a b : List Tm) : lin φ (dyL (mulL a b)) = lin φ (mulL (dyL a) b) + lin φ (mulL a (dyL b)) := by
  rw [lin_dyL, lin_mulL, lin_mulL, lin_mulL, lin_dyL, ← lin_add]
  refine lin_congr (fun s _ => ?_)
  rw [lin_dyL, ← lin_smul, ← lin_add]
  refine lin_congr (fun t _ => ?_)
  rw [cast_add]
  rcases hs : s.j with _ | m <;> rcases ht : t.j with _ | n
  · simp only [cast_zero]; grind
  · rw [cast_zero]; simp only [Nat.zero_add, Nat.add_sub_cancel]; grind
  · rw [cast_zero]; simp only [Nat.add_zero, Nat.add_sub_cancel]; grind
  · rw [show m + 1 + (n + 1) - 1 = m + n + 1 by omega, show m + 1 - 1 + (n + 1) = m + n + 1 by omega, show m + 1 + (n + 1 - 1) = m + n + 1 by omega]; grind
theorem lin_mul_comm (φ : Nat → Nat → Rat) (a b : List Tm) : lin φ (mulL a b) = lin φ (mulL b a) := by
  rw [lin_mulL, lin_mulL, lin_swap]
  exact lin_congr (fun s _ => lin_congr (fun t _ => by rw [Nat.add_comm t.i, Nat.add_comm t.j]))
theorem lin_mul_assoc (φ : Nat → Nat → Rat) (a b c : List Tm) : lin φ (mulL (mulL a b) c) = lin φ (mulL a (mulL b c)) := by
  rw [lin_mulL, lin_mulL, lin_mulL]
  refine lin_congr (fun s _ => ?_)
  rw [lin_mulL]
  exact lin_congr (fun t _ => lin_congr (fun u _ => by rw [Nat.add_assoc, Nat.add_assoc]))
/-- What is equal in all sums may be put for one another in products. -/
def Eqv (l m : List Tm) : Prop := ∀ φ, lin φ l = lin φ m
theorem Eqv.rfl' {l : List Tm} : Eqv l l := fun _ => rfl
theorem Eqv.symm {l m : List Tm} (h : Eqv l m) : Eqv m l := fun φ => (h φ).symm
theorem Eqv.trans {l m k : List Tm} (h : Eqv l m) (h2 : Eqv m k) : Eqv l k := fun φ => (h φ).trans (h2 φ)
theorem Eqv.nrm (l : List Tm) : Eqv (norm l) l := fun φ => lin_norm φ l
theorem Eqv.mul {a b a' b' : List Tm} (h : Eqv a a') (h2 : Eqv b b') : Eqv (mulL a b) (mulL a' b') := fun φ => by
  rw [lin_mulL, lin_mulL, h]
  exact lin_congr (fun s _ => h2 _)
theorem Eqv.append {a b a' b' : List Tm} (h : Eqv a a') (h2 : Eqv b b') : Eqv (a ++ b) (a' ++ b') := fun φ => by rw [lin_append, lin_append, h, h2]
theorem Eqv.scale {a a' : List Tm} (c : Rat) (h : Eqv a a') : Eqv (scaleL c a) (scaleL c a') := fun φ => by rw [lin_scaleL, lin_scaleL, h]
theorem Eqv.dx {a a' : List Tm} (h : Eqv a a') : Eqv (dxL a) (dxL a') := fun φ => by rw [lin_dxL, lin_dxL, h]
theorem Eqv.dy {a a' : List Tm} (h : Eqv a a') : Eqv (dyL a) (dyL a') := fun φ => by rw [lin_dyL, lin_dyL, h]
theorem Eqv.pow {a a' : List Tm} (h : Eqv a a') : ∀ n, Eqv (powL a n) (powL a' n)
  | 0 => Eqv.rfl'
  | n + 1 => (Eqv.pow h n).mul h
theorem Eqv.sub {X Y l X' Y' l' : List Tm} (hX : Eqv X X') (hY : Eqv Y Y') (h : Eqv l l') : Eqv (sbL X Y l) (sbL X' Y' l') := fun φ => by
  rw [lin_sbL, lin_sbL, h]
  exact lin_congr (fun s _ => ((hX.pow _).mul (hY.pow _)) φ)
theorem Eqv.val {l m : List Tm} (h : Eqv l m) (x y : Rat) : evP l x y = evP m x y := h _
theorem Eqv.eq {l m : List Tm} (h : Eqv l m) : norm l = norm m := norm_eq h
/-! ### Known by its values -/
/-- The sum of a k x^k for k below n. -/
def pv (a : Nat → Rat) (x : Rat) : Nat → Rat
  | 0 => 0
  | n + 1 => pv a x n + a n * x ^ n
theorem pv_scale (a : Nat → Rat) (x c d : Rat) : ∀ n, pv a (c * x) n - d * pv a x n = pv (fun k => a k * (c ^ k - d)) x n
  | 0 => by simp only [pv]; grind
  | n + 1 => by
    have h := pv_scale a x c d n
    have e : (c * x) ^ n = c ^ n * x ^ n := qmul_pow c x n
    simp only [pv, e]; grind
theorem two_pow_lt : ∀ k n : Nat, k < n → (2 : Rat) ^ k - 2 ^ n ≠ 0 := by
  have hp : ∀ k : Nat, (0 : Rat) < 2 ^ k := fun k => by
    induction k with
    | zero => rw [Rat.pow_zero]; decide
    | succ k ih => rw [Rat.pow_succ]; grind
  have key : ∀ k d : Nat, (2 : Rat) ^ k < 2 ^ (k + d + 1) := fun k d => by
    induction d with
    | zero => rw [Rat.pow_succ]; have := hp k; have e : (2 : Rat) ^ (k + 0) = 2 ^ k := rfl; grind
    | succ d ih =>
      have h2 := hp (k + d + 1)
      rw [show k + (d + 1) + 1 = (k + d + 1) + 1 by omega, Rat.pow_succ]; grind
  intro k n h
  have := key k (n - k - 1)
  rw [show k + (n - k - 1) + 1 = n by omega] at this
  grind
theorem pv_zero : ∀ (n : Nat) (a : Nat → Rat), (∀ x, pv a x n = 0) → ∀ k, k < n → a k = 0
  | 0, _, _, k, hk => absurd hk (Nat.not_lt_zero _)
  | n + 1, a, h, k, hk => by
    have hb : ∀ x, pv (fun k => a k * (2 ^ k - 2 ^ n)) x n = 0 := fun x => by
      rw [← pv_scale a x 2 (2 ^ n) n]
      have h1 := h (2 * x)
      have h2 := h x
      rw [pv] at h1 h2
      have e : (2 * x) ^ n = 2 ^ n * x ^ n := qmul_pow 2 x n
      rw [e] at h1
      grind
    have low : ∀ k, k < n → a k = 0 := fun k hk => by
      have h1 := pv_zero n _ hb k hk
      rcases Rat.mul_eq_zero.1 h1 with h2 | h2
      · exact h2
      · exact absurd h2 (two_pow_lt k n hk)
    rcases Nat.lt_or_ge k n with h1 | h1
    · exact low k h1
    · have e : k = n := by omega
      subst e
      have z : ∀ m, m ≤ k → pv a 1 m = 0 := fun m => by
        induction m with
        | zero => intro _; rfl
        | succ m ih => intro hm; rw [pv, ih (by omega), low m (by omega)]; grind
      have h1 := h 1
      rw [pv, z k (Nat.le_refl _)] at h1
      have e1 : (1 : Rat) ^ k = 1 := qone_pow k
      rw [e1] at h1
      grind
theorem pv_add (a b : Nat → Rat) (x : Rat) : ∀ n, pv (fun k => a k + b k) x n = pv a x n + pv b x n
  | 0 => by simp only [pv]; grind
  | n + 1 => by simp only [pv, pv_add a b x n]; grind
theorem pv_congr {a b : Nat → Rat} (x : Rat) : ∀ {n}, (∀ k, k < n → a k = b k) → pv a x n = pv b x n
  | 0, _ => rfl
  | n + 1, h => by rw [pv, pv, h n (Nat.lt_succ_self _), pv_congr x (fun k hk => h k (Nat.lt_succ_of_lt hk))]
theorem pv_none {a : Nat → Rat} (x : Rat) : ∀ {n}, (∀ k, k < n → a k = 0) → pv a x n = 0
  | 0, _ => rfl
  | n + 1, h => by rw [pv, h n (Nat.lt_succ_self _), pv_none x (fun k hk => h k (Nat.lt_succ_of_lt hk))]; grind
theorem pv_one {a : Nat → Rat} (x : Rat) (m : Nat) : ∀ {n}, m < n → (∀ k, k ≠ m → a k = 0) → pv a x n = a m * x ^ m
  | 0, h, _ => absurd h (Nat.not_lt_zero _)
  | n + 1, h, h2 => by
    rw [pv]
    rcases Nat.lt_or_ge m n with h3 | h3
    · rw [pv_one x m h3 h2, h2 n (by omega)]; grind
    · have e : m = n := by omega
      subst e
      rw [pv_none x (fun k hk => h2 k (by omega))]; grind
/-- The largest exponent, and 1. -/
def topE : List Tm → Nat
  | [] => 0
  | t :: l => max (max (t.i + 1) (t.j + 1)) (topE l)
theorem top_mem {t : Tm} : ∀ {l : List Tm}, t ∈ l → t.i < topE l ∧ t.j < topE l
  | s :: l, h => by
    rw [topE]
    rcases List.mem_cons.1 h with rfl | h
    · omega
    · have := top_mem h; omega
theorem ev_pv (x y : Rat) (n : Nat) : ∀ l : List Tm, (∀ t ∈ l, t.i < n ∧ t.j < n) → evP l x y = pv (fun i => pv (fun j => lin (at0 i j) l) y n) x n
  | [], _ => by
    exact (pv_none x (fun k _ => pv_none y (fun m _ => rfl))).symm
  | t :: l, h => by
    have ih := ev_pv x y n l (fun s hs => h s (List.mem_cons_of_mem _ hs))
    have ht := h t List.mem_cons_self
    have e : (fun i => pv (fun j => lin (at0 i j) (t :: l)) y n) = (fun i => pv (fun j => t.c * at0 i j t.i t.j) y n + pv (fun j => lin (at0 i j) l) y n) := by
      funext i; rw [← pv_add]; rfl
    rw [e, pv_add, ← ih]
    have e2 : pv (fun i => pv (fun j => t.c * at0 i j t.i t.j) y n) x n = t.c * (x ^ t.i * y ^ t.j) := by
      rw [pv_one x t.i ht.1 (fun k hk => pv_none y (fun m _ => by rw [at0, if_neg (fun hc => hk hc.1.symm)]; grind)),
        pv_one y t.j ht.2 (fun m hm => by rw [at0, if_neg (fun hc => hm hc.2.symm)]; grind), at0, if_pos ⟨rfl, rfl⟩]
      grind
    rw [e2]; rfl
theorem coef_zero {l : List Tm} (h : ∀ x y, evP l x y = 0) (a b : Nat) : lin (at0 a b) l = 0 := by
  by_cases hab : a < topE l ∧ b < topE l
  · have h1 : ∀ y i, i < topE l → pv (fun j => lin (at0 i j) l) y (topE l) = 0 := fun y =>
      pv_zero (topE l) _ (fun x => by rw [← ev_pv x y (topE l) l (fun t ht => top_mem ht), h x y])
    exact pv_zero (topE l) _ (fun y => h1 y a hab.1) b hab.2
  · exact lin_at0_none (fun t ht hc => hab (by have := top_mem ht; rw [hc.1, hc.2] at this; exact this))
theorem eqv_zero {l : List Tm} (h : ∀ a b, lin (at0 a b) l = 0) : ∀ φ, lin φ l = 0 := by
  intro φ
  rw [← lin_norm]
  have hn := norm_nrm l
  rcases hl : norm l with _ | ⟨t, p⟩
  · rfl
  · rw [hl] at hn
    have h1 := nrm_head hn
    rw [← hl, lin_norm, h] at h1
    exact absurd h1.symm (hn.1 t List.mem_cons_self)
theorem Eqv.of_ev {l m : List Tm} (h : ∀ x y, evP l x y = evP m x y) : Eqv l m := by
  have h1 : ∀ x y, evP (l ++ scaleL (-1) m) x y = 0 := fun x y => by rw [ev_append, ev_scaleL, h]; grind
  intro φ
  have := eqv_zero (coef_zero h1) φ
  rw [lin_append, lin_scaleL] at this
  grind

end
section

/-! ### Derivatives of compositions -/
theorem ev_dx_mulL (a b : List Tm) (x y : Rat) : evP (dxL (mulL a b)) x y = evP (dxL a) x y * evP b x y + evP a x y * evP (dxL b) x y := by
  have := lin_dx_mulL (fun i j => x ^ i * y ^ j) a b
  have h1 := ev_mulL (dxL a) b x y
  have h2 := ev_mulL a (dxL b) x y
  unfold evP at *
  rw [this, h1, h2]
theorem ev_dy_mulL (a b : List Tm) (x y : Rat) : evP (dyL (mulL a b)) x y = evP (dyL a) x y * evP b x y + evP a x y * evP (dyL b) x y := by
  have := lin_dy_mulL (fun i j => x ^ i * y ^ j) a b
  have h1 := ev_mulL (dyL a) b x y
  have h2 := ev_mulL a (dyL b) x y
  unfold evP at *
  rw [this, h1, h2]
theorem ev_dx_powL (p : List Tm) (x y : Rat) : ∀ n, evP (dxL (powL p n)) x y = ((n : Int) : Rat) * evP p x y ^ (n - 1) * evP (dxL p) x y
  | 0 => by
    have : dxL (powL p 0) = [⟨0, 0, 1 * (((0 : Nat) : Int) : Rat)⟩] := rfl
    rw [this, evP, lin, lin, cast_zero]; grind
  | n + 1 => by
    rw [powL, ev_dx_mulL, ev_dx_powL p x y n, ev_powL]
    rcases n with _ | n
    · rw [cast_zero, cast_one, Rat.pow_zero]; grind
    · rw [Nat.add_sub_cancel, Nat.add_sub_cancel, cast_add (n + 1) 1, cast_one, Rat.pow_succ]; grind
theorem ev_dy_powL (p : List Tm) (x y : Rat) : ∀ n, evP (dyL (powL p n)) x y = ((n : Int) : Rat) * evP p x y ^ (n - 1) * evP (dyL p) x y
  | 0 => by
    have : dyL (powL p 0) = [⟨0, 0, 1 * (((0 : Nat) : Int) : Rat)⟩] := rfl
    rw [this, evP, lin, lin, cast_zero]; grind
  | n + 1 => by
    rw [powL, ev_dy_mulL, ev_dy_powL p x y n, ev_powL]
    rcases n with _ | n
    · rw [cast_zero, cast_one, Rat.pow_zero]; grind
    · rw [Nat.add_sub_cancel, Nat.add_sub_cancel, cast_add (n + 1) 1, cast_one, Rat.pow_succ]; grind
theorem ev_dxL (l : List Tm) (x y : Rat) : evP (dxL l) x y = lin (fun i j => ((i : Int) : Rat) * (x ^ (i - 1) * y ^ j)) l := lin_dxL _ _
theorem ev_dyL (l : List Tm) (x y : Rat) : evP (dyL l) x y = lin (fun i j => ((j : Int) : Rat) * (x ^ i * y ^ (j - 1))) l := lin_dyL _ _
/-- The chain rule. -/
theorem ev_dx_sbL (X Y p : List Tm) (x y : Rat) : evP (dxL (sbL X Y p)) x y = evP (dxL p) (evP X x y) (evP Y x y) * evP (dxL X) x y + evP (dyL p) (evP X x y) (evP Y x y) * evP (dxL Y) x y := by
  have h0 : evP (dxL (sbL X Y p)) x y = lin (fun i j => evP (dxL (mulL (powL X i) (powL Y j))) x y) p := by
    rw [ev_dxL, lin_sbL]
    exact lin_congr (fun t _ => (ev_dxL _ x y).symm)
  rw [h0, ev_dxL p, ev_dyL p, ← lin_mulr, ← lin_mulr, ← lin_add]
  refine lin_congr (fun t _ => ?_)
  rw [ev_dx_mulL, ev_dx_powL, ev_dx_powL, ev_powL, ev_powL]; grind
theorem ev_dy_sbL (X Y p : List Tm) (x y : Rat) : evP (dyL (sbL X Y p)) x y = evP (dxL p) (evP X x y) (evP Y x y) * evP (dyL X) x y + evP (dyL p) (evP X x y) (evP Y x y) * evP (dyL Y) x y := by
  have h0 : evP (dyL (sbL X Y p)) x y = lin (fun i j => evP (dyL (mulL (powL X i) (powL Y j))) x y) p := by
    rw [ev_dyL, lin_sbL]
    exact lin_congr (fun t _ => (ev_dyL _ x y).symm)
  rw [h0, ev_dxL p, ev_dyL p, ← lin_mulr, ← lin_mulr, ← lin_add]
  refine lin_congr (fun t _ => ?_)
  rw [ev_dy_mulL, ev_dy_powL, ev_dy_powL, ev_powL, ev_powL]; grind
/-- a x + b y + c. -/
def ln (a b c : Rat) : List Tm := [⟨1, 0, a⟩, ⟨0, 1, b⟩, ⟨0, 0, c⟩]
theorem ev_ln (a b c x y : Rat) : evP (ln a b c) x y = a * x + b * y + c := by
  simp only [evP, ln, lin]; rw [Rat.pow_zero, Rat.pow_zero, Rat.pow_succ, Rat.pow_succ, Rat.pow_zero, Rat.pow_zero]; grind
theorem ev_dx_ln (a b c x y : Rat) : evP (dxL (ln a b c)) x y = a := by
  rw [ev_dxL]
  simp only [ln, lin, cast_zero, cast_one]; simp only [Nat.sub_self, Nat.zero_sub]; rw [Rat.pow_zero, Rat.pow_zero]; grind
theorem ev_dy_ln (a b c x y : Rat) : evP (dyL (ln a b c)) x y = b := by
  rw [ev_dyL]
  simp only [ln, lin, cast_zero, cast_one]; simp only [Nat.sub_self, Nat.zero_sub]; rw [Rat.pow_zero, Rat.pow_zero]; grind
/-- An affine substitution. -/
def shL (p : List Tm) (ax bx cx ay by' cy : Rat) : List Tm := sbL (ln ax bx cx) (ln ay by' cy) p
theorem ev_shL (p : List Tm) (ax bx cx ay b cy x y : Rat) : evP (shL p ax bx cx ay b cy) x y = evP p (ax * x + bx * y + cx) (ay * x + b * y + cy) := by
  rw [shL, ev_sbL, ev_ln, ev_ln]
theorem ev_dx_shL (p : List Tm) (ax bx cx ay b cy x y : Rat) : evP (dxL (shL p ax bx cx ay b cy)) x y = evP (dxL p) (ax * x + bx * y + cx) (ay * x + b * y + cy) * ax + evP (dyL p) (ax * x + bx * y + cx) (ay * x + b * y + cy) * ay := by
  rw [shL, ev_dx_sbL, ev_ln, ev_ln, ev_dx_ln, ev_dx_ln]
theorem ev_dy_shL (p : List Tm) (ax bx cx ay b cy x y : Rat) : evP (dyL (shL p ax bx cx ay b cy)) x y = evP (dxL p) (ax * x + bx * y + cx) (ay * x + b * y + cy) * bx + evP (dyL p) (ax * x + bx * y + cx) (ay * x + b * y + cy) * b := by
  rw [shL, ev_dy_sbL, ev_ln, ev_ln, ev_dy_ln, ev_dy_ln]
/-! ### Integrals -/
/-- The integral of x^i from 0 to 1. -/
def lam (i j : Nat) : Rat := ((1 : Int) : Rat) / (((i + 1 : Nat) : Int) : Rat)
theorem cast_ne (n : Nat) : (((n + 1 : Nat) : Int) : Rat) ≠ 0 := fun e => by have := Rat.intCast_eq_zero_iff.1 e; omega
theorem lam_mul (i j : Nat) : (((i + 1 : Nat) : Int) : Rat) * lam i j = 1 := by
  have h := cast_ne i
  have e1 : ((1 : Int) : Rat) = 1 := rfl
  unfold lam; rw [e1]; grind
/-- The integral of a product (1 - x)^i x^j from 0 to 1. -/
def bt : Nat → Nat → Rat
  | 0, j => lam j 0
  | i + 1, j => bt i j - bt i (j + 1)
theorem bt_step : ∀ i j : Nat, (((i + j + 2 : Nat) : Int) : Rat) * bt (i + 1) j = (((i + 1 : Nat) : Int) : Rat) * bt i j ∧ (((i + j + 2 : Nat) : Int) : Rat) * bt i (j + 1) = (((j + 1 : Nat) : Int) : Rat) * bt i j
  | 0, j => by
    have h1 := lam_mul j 0
    have h2 := lam_mul (j + 1) 0
    have n1 := cast_ne j
    have n2 := cast_ne (j + 1)
    have e : (((0 + j + 2 : Nat) : Int) : Rat) = (((j + 1 : Nat) : Int) : Rat) + 1 := by rw [show 0 + j + 2 = (j + 1) + 1 by omega, cast_add, cast_one]
    have e2 : (((j + 1 + 1 : Nat) : Int) : Rat) = (((j + 1 : Nat) : Int) : Rat) + 1 := by rw [cast_add, cast_one]
    rw [e2] at h2 n2
    simp only [bt]
    rw [e, cast_one]
    constructor
    · have : (((j + 1 : Nat) : Int) : Rat) * ((((j + 1 : Nat) : Int) : Rat) + 1) * (lam j 0 - lam (j + 1) 0) = 1 := by grind
      grind
    · grind
  | i + 1, j => by
    obtain ⟨a1, a2⟩ := bt_step i j
    obtain ⟨b1, b2⟩ := bt_step i (j + 1)
    have h1 : bt (i + 1 + 1) j = bt (i + 1) j - bt (i + 1) (j + 1) := rfl
    have h2 : bt (i + 1) j = bt i j - bt i (j + 1) := rfl
    have h3 : bt (i + 1) (j + 1) = bt i (j + 1) - bt i (j + 1 + 1) := rfl
    have c1 : (((i + 1 + j + 2 : Nat) : Int) : Rat) = ((i : Int) : Rat) + ((j : Int) : Rat) + 3 := by
      rw [show i + 1 + j + 2 = i + j + 3 by omega, cast_add, cast_add]; rfl
    have c2 : (((i + j + 2 : Nat) : Int) : Rat) = ((i : Int) : Rat) + ((j : Int) : Rat) + 2 := by rw [cast_add, cast_add]; rfl
    have c3 : (((i + (j + 1) + 2 : Nat) : Int) : Rat) = ((i : Int) : Rat) + ((j : Int) : Rat) + 3 := by
      rw [show i + (j + 1) + 2 = i + j + 3 by omega, cast_add, cast_add]; rfl
    have c4 : (((i + 1 : Nat) : Int) : Rat) = ((i : Int) : Rat) + 1 := by rw [cast_add]; rfl
    have c5 : (((j + 1 : Nat) : Int) : Rat) = ((j : Int) : Rat) + 1 := by rw [cast_add]; rfl
    have c6 : (((i + 1 + 1 : Nat) : Int) : Rat) = ((i : Int) : Rat) + 2 := by rw [show i + 1 + 1 = i + 2 by omega, cast_add]; rfl
    have c7 : (((j + 1 + 1 : Nat) : Int) : Rat) = ((j : Int) : Rat) + 2 := by rw [show j + 1 + 1 = j + 2 by omega, cast_add]; rfl
    rw [c2] at a1 a2
    rw [c3] at b1 b2
    rw [c4] at a1 b1
    rw [c5] at a2
    rw [c7] at b2
    rw [c1, c5, c6, h1]
    constructor <;> grind
/-- The integral over the unit triangle. -/
def mu (i j : Nat) : Rat := bt (i + 1) j / (((i + 1 : Nat) : Int) : Rat)
theorem mu_bt (i j : Nat) : (((i + 1 : Nat) : Int) : Rat) * mu i j = bt (i + 1) j := by
  have h := cast_ne i
  unfold mu; grind
theorem mu_bt2 (i j : Nat) : (((j + 1 : Nat) : Int) : Rat) * mu i j = bt i (j + 1) := by
  obtain ⟨a1, a2⟩ := bt_step i j
  have h1 := mu_bt i j
  have n0 := cast_ne i
  have n1 := cast_ne (i + j + 1)
  have e : (((i + j + 2 : Nat) : Int) : Rat) ≠ 0 := n1
  grind
/-! ### Substitutions that depend on x alone -/
def W1 : List Tm := [⟨0, 0, 1⟩, ⟨1, 0, -1⟩]
def X1 : List Tm := [⟨1, 0, 1⟩]
theorem ev_W1 (x y : Rat) : evP W1 x y = 1 - x := by
  simp only [evP, W1, lin]; rw [Rat.pow_zero, Rat.pow_zero, Rat.pow_succ, Rat.pow_zero]; grind
theorem ev_X1 (x y : Rat) : evP X1 x y = x := by
  simp only [evP, X1, lin]; rw [Rat.pow_zero, Rat.pow_succ, Rat.pow_zero]; grind
theorem ev_nil (x y : Rat) : evP [] x y = 0 := rfl
theorem ev_single (i : Nat) (c x y : Rat) : evP [⟨i, 0, c⟩] x y = c * x ^ i := by
  simp only [evP, lin]; rw [Rat.pow_zero]; grind
theorem lin_beta : ∀ i j : Nat, lin lam (mulL (powL W1 i) (powL X1 j)) = bt i j
  | 0, j => by
    have h : Eqv (mulL (powL W1 0) (powL X1 j)) [⟨j, 0, 1⟩] := Eqv.of_ev (fun x y => by
      rw [ev_mulL, ev_powL, ev_powL, ev_X1, ev_single, Rat.pow_zero])
    rw [h lam]; simp only [lin, bt]
    have : lam j 0 = lam j 0 := rfl
    grind
  | i + 1, j => by
    have h : Eqv (mulL (powL W1 (i + 1)) (powL X1 j)) (mulL (powL W1 i) (powL X1 j) ++ scaleL (-1) (mulL (powL W1 i) (powL X1 (j + 1)))) := Eqv.of_ev (fun x y => by
      rw [ev_append, ev_scaleL, ev_mulL, ev_mulL, ev_mulL, ev_powL, ev_powL, ev_powL, ev_powL, ev_X1, ev_W1, Rat.pow_succ, Rat.pow_succ]; grind)
    rw [h lam, lin_append, lin_scaleL, lin_beta i j, lin_beta i (j + 1), bt]; grind
theorem lin_left (i j : Nat) : lin lam (mulL (powL [] i) (powL X1 j)) = if i = 0 then lam j 0 else 0 := by
  split
  · rename_i h; subst h
    have h : Eqv (mulL (powL [] 0) (powL X1 j)) [⟨j, 0, 1⟩] := Eqv.of_ev (fun x y => by
      rw [ev_mulL, ev_powL, ev_powL, ev_X1, ev_single, Rat.pow_zero])
    rw [h lam]; simp only [lin]
    have : lam j 0 = lam j 0 := rfl
    grind
  · rename_i h
    obtain ⟨k, rfl⟩ : ∃ k, i = k + 1 := ⟨i - 1, by omega⟩
    have h : Eqv (mulL (powL [] (k + 1)) (powL X1 j)) [] := Eqv.of_ev (fun x y => by
      rw [ev_mulL, ev_powL, ev_nil, Rat.pow_succ]; show 0 ^ k * 0 * _ = (0 : Rat); grind)
    rw [h lam]; rfl
theorem lin_bot (i j : Nat) : lin lam (mulL (powL X1 i) (powL [] j)) = if j = 0 then lam i 0 else 0 := by
  rw [lin_mul_comm, lin_left]
/-- The integrals over the unit triangle of derivatives, as integrals along its sides. -/
theorem unit_dx (G : List Tm) : lin mu (dxL G) = lin lam (sbL W1 X1 G) - lin lam (sbL [] X1 G) := by
  rw [lin_dxL, lin_sbL, lin_sbL, ← lin_sub]
  refine lin_congr (fun t _ => ?_)
  rw [lin_beta, lin_left]
  split
  · rename_i h; rw [h, cast_zero, bt]; grind
  · rename_i h
    obtain ⟨k, hk⟩ : ∃ k, t.i = k + 1 := ⟨t.i - 1, by omega⟩
    rw [hk, Nat.add_sub_cancel, mu_bt]; grind
theorem unit_dy (G : List Tm) : lin mu (dyL G) = lin lam (sbL W1 X1 G) - lin lam (sbL X1 [] G) := by
  rw [lin_dyL, lin_sbL, lin_sbL, ← lin_sub]
  refine lin_congr (fun t _ => ?_)
  rw [lin_beta, lin_bot]
  split
  · rename_i h
    rw [h, cast_zero]
    have : ∀ i, bt i 0 = lam i 0 := fun i => by
      have h1 := lam_mul i 0
      have n1 := cast_ne i
      have h2 : ∀ i, (((i + 1 : Nat) : Int) : Rat) * bt i 0 = 1 := fun i => by
        induction i with
        | zero => exact lam_mul 0 0
        | succ i ih =>
          have h3 := (bt_step i 0).1
          rw [ih] at h3
          exact h3
      have h3 := h2 i
      grind
    rw [this]; grind
  · rename_i h
    obtain ⟨k, hk⟩ : ∃ k, t.j = k + 1 := ⟨t.j - 1, by omega⟩
    rw [hk, Nat.add_sub_cancel, mu_bt2]; grind
/-- A point. -/
abbrev Pt := Rat × Rat
def twQ (a b c : Pt) : Rat := (b.1 - a.1) * (c.2 - a.2) - (c.1 - a.1) * (b.2 - a.2)
def segQ (p : List Tm) (a b : Pt) : Rat := lin lam (shL p (b.1 - a.1) 0 a.1 (b.2 - a.2) 0 a.2)
def triQ (p : List Tm) (a b c : Pt) : Rat := twQ a b c * lin mu (shL p (b.1 - a.1) (c.1 - a.1) a.1 (b.2 - a.2) (c.2 - a.2) a.2)
def flowQ (g h : List Tm) (a b : Pt) : Rat := (b.2 - a.2) * segQ g a b - (b.1 - a.1) * segQ h a b
theorem segQ_of (p r : List Tm) (a b : Pt) (h : ∀ x y, evP r x y = evP p ((b.1 - a.1) * x + a.1) ((b.2 - a.2) * x + a.2)) : lin lam r = segQ p a b :=
  (Eqv.of_ev (fun x y => by rw [h, ev_shL]; congr 1 <;> grind) : Eqv r _) lam
theorem tri_sides (g : List Tm) (a b c : Pt) :
    lin mu (dxL (shL g (b.1 - a.1) (c.1 - a.1) a.1 (b.2 - a.2) (c.2 - a.2) a.2)) = segQ g b c - segQ g a c ∧
    lin mu (dyL (shL g (b.1 - a.1) (c.1 - a.1) a.1 (b.2 - a.2) (c.2 - a.2) a.2)) = segQ g b c - segQ g a b := by
  rw [unit_dx, unit_dy]
  rw [segQ_of g (sbL W1 X1 _) b c (fun x y => by rw [ev_sbL, ev_shL, ev_W1, ev_X1]; congr 1 <;> grind),
    segQ_of g (sbL [] X1 _) a c (fun x y => by rw [ev_sbL, ev_shL, ev_nil, ev_X1]; congr 1 <;> grind),
    segQ_of g (sbL X1 [] _) a b (fun x y => by rw [ev_sbL, ev_shL, ev_nil, ev_X1]; congr 1 <;> grind)]
  exact ⟨rfl, rfl⟩
theorem tri_chain (g : List Tm) (φ : Nat → Nat → Rat) (ax bx cx ay b cy : Rat) :
    lin φ (dxL (shL g ax bx cx ay b cy)) = ax * lin φ (shL (dxL g) ax bx cx ay b cy) + ay * lin φ (shL (dyL g) ax bx cx ay b cy) ∧
    lin φ (dyL (shL g ax bx cx ay b cy)) = bx * lin φ (shL (dxL g) ax bx cx ay b cy) + b * lin φ (shL (dyL g) ax bx cx ay b cy) := by
  have h1 : Eqv (dxL (shL g ax bx cx ay b cy)) (scaleL ax (shL (dxL g) ax bx cx ay b cy) ++ scaleL ay (shL (dyL g) ax bx cx ay b cy)) := Eqv.of_ev (fun x y => by
    rw [ev_dx_shL, ev_append, ev_scaleL, ev_scaleL, ev_shL, ev_shL]; grind)
  have h2 : Eqv (dyL (shL g ax bx cx ay b cy)) (scaleL bx (shL (dxL g) ax bx cx ay b cy) ++ scaleL b (shL (dyL g) ax bx cx ay b cy)) := Eqv.of_ev (fun x y => by
    rw [ev_dy_shL, ev_append, ev_scaleL, ev_scaleL, ev_shL, ev_shL]; grind)
  rw [h1 φ, h2 φ, lin_append, lin_append, lin_scaleL, lin_scaleL, lin_scaleL, lin_scaleL]
  exact ⟨rfl, rfl⟩
/-- The direction of a segment plays no part. -/
theorem segQ_symm (p : List Tm) (a b : Pt) : segQ p a b = segQ p b a := by
  have h1 := (tri_sides p a b b).1
  have h2 := (tri_sides p a b b).2
  have h3 := (tri_sides p b a a).1
  have h4 := (tri_sides p a b a).1
  have h5 := (tri_sides p a b a).2
  have h6 := (tri_sides p b a b).1
  have h7 := (tri_sides p b a b).2
  have c1 := (tri_chain p mu (b.1 - a.1) (a.1 - a.1) a.1 (b.2 - a.2) (a.2 - a.2) a.2)
  obtain ⟨c1, c2⟩ := c1
  grind

end
section

theorem triQ_eqv {p q : List Tm} (h : Eqv p q) (a b c : Pt) : triQ p a b c = triQ q a b c := by
  unfold triQ shL; rw [(Eqv.sub Eqv.rfl' Eqv.rfl' h) mu]
theorem segQ_eqv {p q : List Tm} (h : Eqv p q) (a b : Pt) : segQ p a b = segQ q a b := by
  unfold segQ shL; rw [(Eqv.sub Eqv.rfl' Eqv.rfl' h) lam]
theorem gauss_x (g : List Tm) (a b c : Pt) : triQ (dxL g) a b c = (b.2 - a.2) * segQ g a b + (c.2 - b.2) * segQ g b c + (a.2 - c.2) * segQ g c a := by
  have h1 := (tri_sides g a b c).1
  have h2 := (tri_sides g a b c).2
  obtain ⟨c1, c2⟩ := tri_chain g mu (b.1 - a.1) (c.1 - a.1) a.1 (b.2 - a.2) (c.2 - a.2) a.2
  have h3 := segQ_symm g c a
  unfold triQ twQ
  grind
theorem gauss_y (g : List Tm) (a b c : Pt) : triQ (dyL g) a b c = -((b.1 - a.1) * segQ g a b + (c.1 - b.1) * segQ g b c + (a.1 - c.1) * segQ g c a) := by
  have h1 := (tri_sides g a b c).1
  have h2 := (tri_sides g a b c).2
  obtain ⟨c1, c2⟩ := tri_chain g mu (b.1 - a.1) (c.1 - a.1) a.1 (b.2 - a.2) (c.2 - a.2) a.2
  have h3 := segQ_symm g c a
  unfold triQ twQ
  grind
theorem lin_sub_app (φ : Nat → Nat → Rat) (X Y l m : List Tm) : lin φ (sbL X Y (l ++ m)) = lin φ (sbL X Y l) + lin φ (sbL X Y m) := by
  rw [lin_sbL, lin_sbL, lin_sbL, lin_append]
theorem triQ_app (p q : List Tm) (a b c : Pt) : triQ (p ++ q) a b c = triQ p a b c + triQ q a b c := by
  unfold triQ shL; rw [lin_sub_app]; grind
theorem segQ_app (p q : List Tm) (a b : Pt) : segQ (p ++ q) a b = segQ p a b + segQ q a b := by
  unfold segQ shL; rw [lin_sub_app]
theorem segQ_scale (p : List Tm) (k : Rat) (a b : Pt) : segQ (scaleL k p) a b = k * segQ p a b := by
  unfold segQ shL; rw [lin_sbL, lin_scaleL, ← lin_sbL]
theorem segQ_nil (a b : Pt) : segQ [] a b = 0 := rfl
/-- The stage's theorem. -/
theorem gauss (g h : List Tm) (a b c : Pt) : triQ (dxL g ++ dyL h) a b c = flowQ g h a b + flowQ g h b c + flowQ g h c a := by
  rw [triQ_app, gauss_x, gauss_y]; unfold flowQ; grind
theorem flow_symm (g h : List Tm) (a b : Pt) : flowQ g h b a = -flowQ g h a b := by
  unfold flowQ; rw [segQ_symm g b a, segQ_symm h b a]; grind
theorem flow_cut (g h : List Tm) (a z b : Pt) (hz : twQ a z b = 0) : flowQ g h a b = flowQ g h a z + flowQ g h z b := by
  have h1 := gauss g h a z b
  rw [triQ, hz, flow_symm g h a b] at h1
  grind
/-- An antiderivative by x. -/
def prL (p : List Tm) : List Tm := p.map (fun t => ⟨t.i + 1, t.j, t.c / (((t.i + 1 : Nat) : Int) : Rat)⟩)
theorem dx_prL (p : List Tm) : Eqv (dxL (prL p)) p := fun φ => by
  rw [lin_dxL, prL]
  refine lin_map _ _ _ p (fun t _ => ?_)
  have := cast_ne t.i
  simp only [Nat.add_sub_cancel]; grind
theorem tri_flow (p : List Tm) (a b c : Pt) : triQ p a b c = flowQ (prL p) [] a b + flowQ (prL p) [] b c + flowQ (prL p) [] c a := by
  rw [← triQ_eqv (dx_prL p), ← gauss]; simp only [dyL, List.map_nil, List.append_nil]
theorem tri_cyc (p : List Tm) (a b c : Pt) : triQ p b c a = triQ p a b c := by rw [tri_flow, tri_flow p a]; grind
theorem tri_swap (p : List Tm) (a b c : Pt) : triQ p a c b = -triQ p a b c := by
  rw [tri_flow, tri_flow p a b c, flow_symm _ _ a c, flow_symm _ _ c b, flow_symm _ _ b a]; grind
theorem tri_split (p : List Tm) (a b c z : Pt) : triQ p a b c = triQ p a b z + triQ p b c z + triQ p c a z := by
  rw [tri_flow, tri_flow p a b z, tri_flow p b c z, tri_flow p c a z, flow_symm _ _ z b, flow_symm _ _ z c, flow_symm _ _ z a]; grind
theorem mu00 : mu 0 0 = 1 / 2 := by
  have h1 := mu_bt 0 0
  have h2 := (bt_step 0 0).1
  have h3 := lam_mul 0 0
  have e : (((0 + 0 + 2 : Nat) : Int) : Rat) = 2 := rfl
  have e1 : (((0 + 1 : Nat) : Int) : Rat) = 1 := rfl
  have h4 : bt 0 0 = lam 0 0 := rfl
  rw [e, e1] at h2
  rw [e1] at h1 h3
  grind
theorem tri_one (a b c : Pt) : triQ [⟨0, 0, 1⟩] a b c = twQ a b c / 2 := by
  have h : Eqv (shL [⟨0, 0, 1⟩] (b.1 - a.1) (c.1 - a.1) a.1 (b.2 - a.2) (c.2 - a.2) a.2) [⟨0, 0, 1⟩] := Eqv.of_ev (fun x y => by
    rw [ev_shL, ev_single, ev_single, Rat.pow_zero, Rat.pow_zero])
  unfold triQ
  rw [h mu]
  have := mu00
  simp only [lin]; grind
theorem ev_seg0 (l : List Tm) : lin lam (dxL l) = evP l 1 1 - evP l 0 1 := by
  rw [lin_dxL, evP, evP, ← lin_sub]
  refine lin_congr (fun t _ => ?_)
  rw [qone_pow, qone_pow]
  rcases h : t.i with _ | k
  · rw [cast_zero, Rat.pow_zero]; grind
  · rw [Nat.add_sub_cancel, lam_mul, Rat.pow_succ]; grind
/-- The fundamental theorem along a segment. -/
theorem seg_ftc (p : List Tm) (a b : Pt) : segQ (scaleL (b.1 - a.1) (dxL p) ++ scaleL (b.2 - a.2) (dyL p)) a b = evP p b.1 b.2 - evP p a.1 a.2 := by
  rw [segQ_app, segQ_scale, segQ_scale]
  have h1 := (tri_chain p lam (b.1 - a.1) 0 a.1 (b.2 - a.2) 0 a.2).1
  rw [ev_seg0, ev_shL, ev_shL] at h1
  unfold segQ
  rw [← h1]
  congr 1 <;> congr 1 <;> grind
theorem seg_pt (p : List Tm) (a : Pt) : segQ p a a = evP p a.1 a.2 := by
  have h : Eqv (shL p (a.1 - a.1) 0 a.1 (a.2 - a.2) 0 a.2) [⟨0, 0, evP p a.1 a.2⟩] := Eqv.of_ev (fun x y => by
    rw [ev_shL, ev_single, Rat.pow_zero, show (a.1 - a.1) * x + 0 * y + a.1 = a.1 by grind, show (a.2 - a.2) * x + 0 * y + a.2 = a.2 by grind]; grind)
  unfold segQ
  rw [h lam]
  have := lam_mul 0 0
  have e1 : (((0 + 1 : Nat) : Int) : Rat) = 1 := rfl
  rw [e1] at this
  simp only [lin]; grind
theorem seg_cut (p : List Tm) (a b : Pt) (s : Rat) (z : Pt) (h1 : z.1 = a.1 + s * (b.1 - a.1)) (h2 : z.2 = a.2 + s * (b.2 - a.2)) :
    s * segQ p a z + (1 - s) * segQ p z b = segQ p a b := by
  have hz : twQ a z b = 0 := by unfold twQ; rw [h1, h2]; grind
  have f1 := flow_cut p [] a z b hz
  have f2 := flow_cut [] p a z b hz
  unfold flowQ at f1 f2
  simp only [segQ_nil] at f1 f2
  by_cases e1 : b.2 - a.2 = 0
  · by_cases e2 : b.1 - a.1 = 0
    · have ea : z = a := Prod.ext (by rw [h1, e2]; grind) (by rw [h2, e1]; grind)
      have eb : b = a := Prod.ext (by grind) (by grind)
      rw [ea, eb]; grind
    · have : (b.1 - a.1) * (s * segQ p a z + (1 - s) * segQ p z b - segQ p a b) = 0 := by grind
      rcases Rat.mul_eq_zero.1 this with h | h
      · exact absurd h e2
      · grind
  · have : (b.2 - a.2) * (s * segQ p a z + (1 - s) * segQ p z b - segQ p a b) = 0 := by grind
    rcases Rat.mul_eq_zero.1 this with h | h
    · exact absurd h e1
    · grind
theorem tri_unit (p : List Tm) (a b c : Pt) : triQ (shL p (b.1 - a.1) (c.1 - a.1) a.1 (b.2 - a.2) (c.2 - a.2) a.2) (0, 0) (1, 0) (0, 1) * twQ a b c = triQ p a b c := by
  have h : Eqv (shL (shL p (b.1 - a.1) (c.1 - a.1) a.1 (b.2 - a.2) (c.2 - a.2) a.2) (1 - 0) (0 - 0) 0 (0 - 0) (1 - 0) 0) (shL p (b.1 - a.1) (c.1 - a.1) a.1 (b.2 - a.2) (c.2 - a.2) a.2) := Eqv.of_ev (fun x y => by
    rw [ev_shL]; congr 1 <;> grind)
  unfold triQ
  rw [h mu]
  have : twQ (0, 0) (1, 0) (0, 1) = 1 := by unfold twQ; grind
  rw [this]; grind
/-! ### Polygons -/
/-- The triangles of a fan. -/
def fanQ (p : List Tm) (a : Pt) : List Pt → Rat
  | b :: c :: l => triQ p a b c + fanQ p a (c :: l)
  | _ => 0
def pathQ (f : Pt → Pt → Rat) : List Pt → Rat
  | a :: b :: l => f a b + pathQ f (b :: l)
  | _ => 0
theorem pathQ_snoc (f : Pt → Pt → Rat) (y : Pt) : ∀ (l : List Pt) (x : Pt), pathQ f (l ++ [x, y]) = pathQ f (l ++ [x]) + f x y
  | [], x => by simp only [List.nil_append, pathQ]; grind
  | [a], x => by simp only [List.cons_append, List.nil_append, pathQ]; grind
  | a :: b :: l, x => by
    have := pathQ_snoc f y (b :: l) x
    simp only [List.cons_append, pathQ] at this ⊢
    rw [this]; grind
/-- Around: from the first through all and back. -/
def cycQ (f : Pt → Pt → Rat) : List Pt → Rat
  | [] => 0
  | a :: l => pathQ f (a :: l ++ [a])
theorem cyc_turn (f : Pt → Pt → Rat) (a : Pt) (l : List Pt) : cycQ f (l ++ [a]) = cycQ f (a :: l) := by
  rcases l with _ | ⟨b, l⟩
  · rfl
  · show pathQ f (b :: (l ++ [a]) ++ [b]) = pathQ f (a :: (b :: l) ++ [a])
    have h1 := pathQ_snoc f b (b :: l) a
    rw [show b :: (l ++ [a]) ++ [b] = b :: l ++ [a, b] by simp, h1]
    simp only [List.cons_append, pathQ]; grind
theorem cyc_rot (f : Pt → Pt → Rat) (m : List Pt) : ∀ l : List Pt, cycQ f (m ++ l) = cycQ f (l ++ m) := by
  induction m with
  | nil => intro l; simp
  | cons a m ih =>
    intro l
    have h := cyc_turn f a (m ++ l)
    rw [List.cons_append, ← h, List.append_assoc, ih (l ++ [a])]; simp
theorem path_rev (f : Pt → Pt → Rat) (hf : ∀ a b, f b a = -f a b) : ∀ l : List Pt, pathQ f l.reverse = -pathQ f l
  | [] => by simp only [List.reverse_nil, pathQ]; grind
  | [a] => by simp only [List.reverse_cons, List.reverse_nil, List.nil_append, pathQ]; grind
  | a :: b :: l => by
    have h := path_rev f hf (b :: l)
    rw [List.reverse_cons, List.reverse_cons, List.append_assoc]
    rw [List.reverse_cons] at h
    show pathQ f (l.reverse ++ [b, a]) = _
    rw [pathQ_snoc, h, hf a b, pathQ]; grind
theorem cyc_rev (f : Pt → Pt → Rat) (hf : ∀ a b, f b a = -f a b) (l : List Pt) : cycQ f l.reverse = -cycQ f l := by
  rcases l with _ | ⟨a, l⟩
  · simp only [List.reverse_nil, cycQ]; grind
  · rw [List.reverse_cons, cyc_turn]
    show pathQ f (a :: l.reverse ++ [a]) = -pathQ f (a :: l ++ [a])
    rw [← path_rev f hf]; simp
theorem fan_path (p : List Tm) (a : Pt) : ∀ (l : List Pt) (b : Pt), fanQ p a (b :: l) = pathQ (flowQ (prL p) []) (b :: l ++ [a]) - flowQ (prL p) [] b a
  | [], b => by simp only [fanQ, List.cons_append, List.nil_append, pathQ]; grind
  | c :: l, b => by
    rw [fanQ, fan_path p a l c, tri_flow]
    simp only [List.cons_append, pathQ]
    have := flow_symm (prL p) [] b a
    grind
/-- A polygon's integral. -/
def polyQ (p : List Tm) : List Pt → Rat
  | [] => 0
  | a :: l => fanQ p a l
theorem flow_self (g h : List Tm) (a : Pt) : flowQ g h a a = 0 := by have := flow_symm g h a a; grind
theorem poly_cyc (p : List Tm) : ∀ l : List Pt, polyQ p l = cycQ (flowQ (prL p) []) l
  | [] => rfl
  | [a] => by simp only [polyQ, fanQ, cycQ, List.cons_append, List.nil_append, pathQ]; rw [flow_self]; grind
  | a :: b :: l => by
    rw [polyQ, fan_path, cycQ]
    simp only [List.cons_append, pathQ]
    have := flow_symm (prL p) [] b a
    grind
theorem cyc_more (f : Pt → Pt → Rat) (a z : Pt) (l : List Pt) (x : Pt) (h : f x a = f x z + f z a) : cycQ f (a :: l ++ [x, z]) = cycQ f (a :: l ++ [x]) := by
  show pathQ f (a :: (l ++ [x, z]) ++ [a]) = pathQ f (a :: (l ++ [x]) ++ [a])
  have h1 := pathQ_snoc f a (a :: l ++ [x]) z
  have h2 := pathQ_snoc f z (a :: l) x
  have h3 := pathQ_snoc f a (a :: l) x
  simp only [List.append_assoc, List.cons_append, List.nil_append] at h1 h2 h3 ⊢
  rw [h1, h2, h3]; grind
theorem fan_dx (g : List Tm) (a : Pt) : ∀ (l : List Pt) (b : Pt), fanQ (dxL g) a (b :: l) = pathQ (flowQ g []) (b :: l ++ [a]) - flowQ g [] b a
  | [], b => by simp only [fanQ, List.cons_append, List.nil_append, pathQ]; grind
  | c :: l, b => by
    have e : triQ (dxL g) a b c = flowQ g [] a b + flowQ g [] b c + flowQ g [] c a := by
      rw [← gauss]; simp only [dyL, List.map_nil, List.append_nil]
    rw [fanQ, fan_dx g a l c, e]
    simp only [List.cons_append, pathQ]
    have := flow_symm g [] b a
    grind
theorem poly_dx (g : List Tm) : ∀ l : List Pt, polyQ (dxL g) l = cycQ (flowQ g []) l
  | [] => rfl
  | [a] => by simp only [polyQ, fanQ, cycQ, List.cons_append, List.nil_append, pathQ]; rw [flow_self]; grind
  | a :: b :: l => by
    rw [polyQ, fan_dx, cycQ]
    simp only [List.cons_append, pathQ]
    have := flow_symm g [] b a
    grind

end
end Go.Proofs.YtkhnecelhpnaoaaGreatDoor
