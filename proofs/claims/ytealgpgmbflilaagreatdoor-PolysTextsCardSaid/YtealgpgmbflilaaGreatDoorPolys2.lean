/- Written by a program of ours (gen.py) out of short specifications. By an AI agent. -/
import Derived.Test.YtealgpgmbflilaaGreatDoorFracs2
import Derived.Test.YtealgpgmbflilaaGreatDoorFxC
import Derived.Test.YtealgpgmbflilaaGreatDoorFxM
set_option linter.unusedVariables false
set_option linter.unusedSimpArgs false
set_option maxRecDepth 4000
namespace Go.Proofs.YtealgpgmbflilaaGreatDoor
open Go Go.Proofs Go.Fx
attribute [local irreducible] Oper.wp Code.wp wpList Fx.Head wpOp
section
theorem sls_9 (x : ByteArray) (lo hi : Nat) (h1 : lo ≤ hi) (h2 : hi ≤ x.size) (w : World) : (Instr.sliceAt 9 (.string x) (some (.int .i64 (lo : Int))) (some (.int .i64 (hi : Int))) none).run Tryz.prog w = .ok (.string (x.extract lo hi)) w := sliceAt_str Tryz.runUnderlying9 x lo hi h1 h2 w
theorem cv_36_3 (x : Int) (w : World) : (Go.convert 36 3 (.int .u64 x)).run Tryz.prog w = .ok (.int .i64 (IntKind.i64.wrap x)) w := by
  simp [go_sem]
theorem cv_36_3b (x : Int) (h0 : IntKind.i64.wrap x = x) (w : World) : (Go.convert 36 3 (.int .u64 x)).run Tryz.prog w = .ok (.int .i64 x) w := by
  rw [cv_36_3, h0]
/-- The decimal digits of a number below 100. -/
def digS (n : Nat) : ByteArray := if n < 10 then ⟨#[UInt8.ofNat (48 + n)]⟩ else ⟨#[UInt8.ofNat (48 + n / 10), UInt8.ofNat (48 + n % 10)]⟩
def textZ (z : Int) : ByteArray := if z < 0 then ⟨#[45]⟩ ++ digS z.natAbs else digS z.natAbs
def textQ (x : Rat) : ByteArray := if x.den = 1 then textZ x.num else textZ x.num ++ ⟨#[47]⟩ ++ digS x.den
def textU (l : List Rat) : Nat → ByteArray
  | 0 => ⟨#[]⟩
  | i + 1 => (if 0 < i then textU l i ++ ⟨#[32]⟩ else textU l i) ++ textQ (l.getD i 0)
theorem digS_size (n : Nat) : (digS n).size ≤ 2 := by unfold digS; split <;> simp [ByteArray.size]
theorem textZ_size (z : Int) : (textZ z).size ≤ 3 := by
  unfold textZ; have := digS_size z.natAbs
  split
  · rw [ByteArray.size_append]; have : (ByteArray.mk #[45]).size = 1 := rfl
    omega
  · omega
theorem textQ_size (x : Rat) : (textQ x).size ≤ 6 := by
  unfold textQ; have := digS_size x.den; have := textZ_size x.num
  split
  · omega
  · rw [ByteArray.size_append, ByteArray.size_append]; have : (ByteArray.mk #[47]).size = 1 := rfl
    omega
theorem textU_size (l : List Rat) : ∀ i, (textU l i).size ≤ 7 * i
  | 0 => Nat.le_refl _
  | i + 1 => by
    have h1 := textU_size l i
    have h2 := textQ_size (l.getD i 0)
    have h3 : (ByteArray.mk #[32]).size = 1 := rfl
    unfold textU
    split <;> simp only [ByteArray.size_append] <;> omega
def tab1 : ByteArray := ⟨#[48, 49, 50, 51, 52, 53, 54, 55, 56, 57, 97, 98, 99, 100, 101, 102, 103, 104, 105, 106, 107, 108, 109, 110, 111, 112, 113, 114, 115, 116, 117, 118, 119, 120, 121, 122]⟩
def tab2 : ByteArray := ⟨#[48, 48, 48, 49, 48, 50, 48, 51, 48, 52, 48, 53, 48, 54, 48, 55, 48, 56, 48, 57, 49, 48, 49, 49, 49, 50, 49, 51, 49, 52, 49, 53, 49, 54, 49, 55, 49, 56, 49, 57, 50, 48, 50, 49, 50, 50, 50, 51, 50, 52, 50, 53, 50, 54, 50, 55, 50, 56, 50, 57, 51, 48, 51, 49, 51, 50, 51, 51, 51, 52, 51, 53, 51, 54, 51, 55, 51, 56, 51, 57, 52, 48, 52, 49, 52, 50, 52, 51, 52, 52, 52, 53, 52, 54, 52, 55, 52, 56, 52, 57, 53, 48, 53, 49, 53, 50, 53, 51, 53, 52, 53, 53, 53, 54, 53, 55, 53, 56, 53, 57, 54, 48, 54, 49, 54, 50, 54, 51, 54, 52, 54, 53, 54, 54, 54, 55, 54, 56, 54, 57, 55, 48, 55, 49, 55, 50, 55, 51, 55, 52, 55, 53, 55, 54, 55, 55, 55, 56, 55, 57, 56, 48, 56, 49, 56, 50, 56, 51, 56, 52, 56, 53, 56, 54, 56, 55, 56, 56, 56, 57, 57, 48, 57, 49, 57, 50, 57, 51, 57, 52, 57, 53, 57, 54, 57, 55, 57, 56, 57, 57]⟩
theorem tab1_at (i : Nat) (h : i < 10) : tab1.extract i (i + 1) = digS i := by
  have : ∀ i, i < 10 → tab1.extract i (i + 1) = digS i := by decide +kernel
  exact this i h
theorem tab2_at (i : Nat) (h0 : ¬ i < 10) (h : i < 100) : tab2.extract (i * 2) (i * 2 + 2) = digS i := by
  have : ∀ i, i < 100 → ¬ i < 10 → tab2.extract (i * 2) (i * 2 + 2) = digS i := by decide +kernel
  exact this i h h0

theorem C_small (n : Nat) (hlt : n < 100) : CtrV Tryz.prog 221 [.int .i64 ((n : Nat) : Int)] (.string (digS n)) := by
  refine fn_intro Tryz.func221 rfl Tryz.ntmps221 nb ?_
  intro S w0 a hS h
  refine gC h (zs (zr (za rfl (zn (zs (zs (zr (zm rfl (zp (.lss rfl rfl) (zn ?_)))))))))); clear h; intro a w h
  change Code.wp _ _ _ _ _
  refine cond_split h rfl (fun hc4 => ?_) (fun hc4 => ?_)
  · skip
    have hn : n < 10 := by have := of_decide_eq_true hc4; omega
    refine gC h (zs (zr (zm rfl (zm rfl (zp (Pure1.cast (v' := (.int .i64 ((n + 1 : Nat) : Int))) (.add rfl rfl) (by show Value.int _ _ = Value.int _ _; congr 1)) (zp (.slice rfl (some _) (some _) none rfl rfl rfl (sls_9 _ _ _ (by first | omega | (show n + 1 ≤ 36; omega)) (by first | omega | (show n + 1 ≤ 36; omega)))) (za rfl (zn (zt ?_))))))))); clear h; intro a w h
    refine retV h (results1 h rfl (.tmp rfl)) ?_
    exact congrArg _ (tab1_at n hn)
  · skip
    have hn : ¬ n < 10 := by have := of_decide_eq_false hc4; omega
    refine gC h (zk (zs (zr (zm rfl (zp (Pure1.cast (v' := (.int .i64 ((n * 2 : Nat) : Int))) (.mul rfl rfl) (by show Value.int _ _ = Value.int _ _; congr 1)) (zm rfl (zp (Pure1.cast (v' := (.int .i64 ((n * 2 : Nat) : Int))) (.mul rfl rfl) (by show Value.int _ _ = Value.int _ _; congr 1)) (zp (Pure1.cast (v' := (.int .i64 (((n * 2) + 2 : Nat) : Int))) (.add rfl rfl) (by show Value.int _ _ = Value.int _ _; congr 1)) (zp (.slice rfl (some _) (some _) none rfl rfl rfl (sls_9 _ _ _ (by first | omega | (show n * 2 + 2 ≤ 200; omega)) (by first | omega | (show n * 2 + 2 ≤ 200; omega)))) (za rfl (zn (zt ?_)))))))))))); clear h; intro a w h
    refine retV h (results1 h rfl (.tmp rfl)) ?_
    exact congrArg _ (tab2_at n hn hlt)

theorem C_iFU (n : Nat) (hlt : n < 100) : CtrV Tryz.prog 197 [.int .u64 (n : Int), .int .i64 10] (.string (digS n)) := by
  refine fn_intro Tryz.func197 rfl Tryz.ntmps197 nb ?_
  intro S w0 a hS h
  refine gC h (zs (zr (za rfl (zn (zs (zs (zr (zm rfl (zp (.eql rfl rfl) (zn ?_)))))))))); clear h; intro a w h
  change Code.wp _ _ _ _ _
  refine cond_split h rfl (fun hc10 => ?_) (fun hc10 => (by exfalso; exact absurd hc10 (by decide)))
  refine gC h (zs (zs (zr (zm rfl (zp (.lss rfl rfl) (zn ?_)))))); clear h; intro a w h
  change Code.wp _ _ _ _ _
  refine cond_split h rfl (fun hc12 => ?_) (fun hc12 => (by exfalso; have := of_decide_eq_false hc12; omega))
  refine gC h (zs (zr (zm rfl (zp (.convert rfl (cv_36_3b _ (wrap_i64 _ (by omega) (by omega)))) (zv [_] rfl Tryz.call221 (C_small n hlt) (za rfl (zn (zt ?_)))))))); clear h; intro a w h
  refine retV h (results1 h rfl (.tmp rfl)) ?_
  rfl

theorem C_FU (n : Nat) (hlt : n < 100) : CtrV Tryz.prog 168 [.int .u64 (n : Int), .int .i64 10] (.string (digS n)) := by
  refine fn_intro Tryz.func168 rfl Tryz.ntmps168 nb ?_
  intro S w0 a hS h
  refine gC h (zs (zr (za rfl (zn (zs (zr (zm rfl (zm rfl (zv [_, _] rfl Tryz.call197 (C_iFU n hlt) (za rfl (zn (zt ?_)))))))))))); clear h; intro a w h
  refine retV h (results1 h rfl (.tmp rfl)) ?_
  rfl

theorem C_NText (n : Nat) (hlt : n < 100) : CtrV Tryz.prog 130 [encN n] (.string (digS n)) := by
  refine fn_intro Tryz.func130 rfl Tryz.ntmps130 nb ?_
  intro S w0 a hS h
  refine gC h (zs (zr (zx rfl fun b1 => za rfl (zn (zs (zs (zr (zp (.fieldAddr rfl (fa_38_1 _ _)) (zd rfl mr Tryz.isAgg9 Tryz.sizeOf9 (rs_2_1 _ _) ?_))))))))); clear h; intro a w h
  refine gL h (zp (.binOp rfl rfl (fun _ => run_seql _ _ _ _ _)) (zn ?_)); clear h; intro a w h
  change Code.wp _ _ _ _ _
  refine cond_split h rfl (fun hc10 => ?_) (fun hc10 => (by exfalso; have hb : bigN n = ⟨#[]⟩ := bigN_small (by omega); rw [hb] at hc10; exact absurd hc10 (by decide)))
  refine gC h (zs (zr (zp (.fieldAddr rfl (fa_38_0 _ _)) (zd rfl mr Tryz.isAgg36 Tryz.sizeOf36 (rs_2_0 _ _) ?_)))); clear h; intro a w h
  rw [lowN_small (show n < 18446744073709551616 by omega)] at h
  refine gL h (zv [_, _] rfl Tryz.call168 (C_FU n hlt) (za rfl (zn (zt ?_)))); clear h; intro a w h
  refine retV h (results1 h rfl (.tmp rfl)) ?_
  rfl

theorem C_ZText (z : Int) (hz : z.natAbs < 100) : CtrV Tryz.prog 129 [encZ z] (.string (textZ z)) := by
  refine fn_intro Tryz.func129 rfl Tryz.ntmps129 nb ?_
  intro S w0 a hS h
  refine gC h (zs (zr (zx rfl fun b1 => za rfl (zn (zs (zs (zr (zp (.fieldAddr rfl (fa_42_1 _ _)) (zd rfl mr Tryz.isAgg4 Tryz.sizeOf4 (rs_3_2 _ _ _) ?_))))))))); clear h; intro a w h
  refine wpList_nil ?_
  change Code.wp _ _ _ _ _
  refine cond_split h rfl (fun hc4 => ?_) (fun hc4 => ?_)
  · skip
    have hn : z < 0 := of_decide_eq_true hc4
    refine gC h (zs (zr (zp (.fieldAddr rfl (fa_42_0 _ _)) (zp (.fieldAddr rfl (fa_40_0 _ _)) (zd rfl mr Tryz.isAgg38 Tryz.sizeOf38 (rd_3_0_2 _ _ _) ?_))))); clear h; intro a w h
    refine gL h (zv [_] rfl Tryz.call130 (C_NText z.natAbs hz) (zp (.binOp rfl rfl (fun _ => run_sadd _ _ _ _ _ (by have := digS_size z.natAbs; have h1 : (ByteArray.mk #[45]).size = 1 := rfl; omega))) (za rfl (zn (zt ?_))))); clear h; intro a w h
    refine retV h (results1 h rfl (.tmp rfl)) ?_
    unfold textZ; rw [if_pos hn]
  · skip
    have hn : ¬ z < 0 := of_decide_eq_false hc4
    refine gC h (zk (zs (zr (zp (.fieldAddr rfl (fa_42_0 _ _)) (zp (.fieldAddr rfl (fa_40_0 _ _)) (zd rfl mr Tryz.isAgg38 Tryz.sizeOf38 (rd_3_0_2 _ _ _) ?_)))))); clear h; intro a w h
    refine gL h (zv [_] rfl Tryz.call130 (C_NText z.natAbs hz) (za rfl (zn (zt ?_)))); clear h; intro a w h
    refine retV h (results1 h rfl (.tmp rfl)) ?_
    unfold textZ; rw [if_neg hn]

theorem C_QText (x : Rat) (hn : x.num.natAbs < 100) (hd : x.den < 100) : CtrV Tryz.prog 71 [encQ x] (.string (textQ x)) := by
  refine fn_intro Tryz.func71 rfl Tryz.ntmps71 nb ?_
  intro S w0 a hS h
  refine gC h (zs (zr (zx rfl fun b1 => za rfl (zn (zs (zs (zr (zd rfl mr Tryz.isAgg44 Tryz.sizeOf44 (rd_5_0_5 _ _ _ _ _) ?_)))))))); clear h; intro a w h
  refine gL h (zv [_] rfl Tryz.call83 (C_Whole x) (zn ?_)); clear h; intro a w h
  change Code.wp _ _ _ _ _
  refine cond_split h rfl (fun hc4 => ?_) (fun hc4 => ?_)
  · skip
    have hw : x.den = 1 := of_decide_eq_true hc4
    refine gC h (zs (zr (zp (.fieldAddr rfl (fa_44_0 _ _)) (zd rfl mr Tryz.isAgg42 Tryz.sizeOf42 (rd_5_0_3 _ _ _ _ _) ?_)))); clear h; intro a w h
    refine gL h (zv [_] rfl Tryz.call129 (C_ZText x.num hn) (za rfl (zn (zt ?_)))); clear h; intro a w h
    refine retV h (results1 h rfl (.tmp rfl)) ?_
    unfold textQ; rw [if_pos hw]
  · skip
    have hw : ¬ x.den = 1 := of_decide_eq_false hc4
    refine gC h (zk (zs (yD mixed_YtealgpgmbflilaaGreatDoor [0, 1, 4, 2, 3, 5, 6, 7, 8] (floatsOK_none (by kernel_rfl)) (yp rfl (.fieldAddr rfl (fa_44_0 _ _)) (yd rfl rfl mr Tryz.isAgg42 Tryz.sizeOf42 (rd_5_0_3 _ _ _ _ _) ?_))))); clear h
    refine yd rfl rfl mr Tryz.isAgg44 Tryz.sizeOf44 (rd_5_0_5 _ _ _ _ _) ?_
    refine yv [_] rfl rfl Tryz.call129 (C_ZText x.num hn) (yp rfl (.binOp rfl rfl (fun _ => run_sadd _ _ _ _ _ (by have := textZ_size x.num; have h1 : (ByteArray.mk #[47]).size = 1 := rfl; omega))) (yv [_] rfl rfl Tryz.call87 (C_den x (Nat.le_trans (wds_small (by omega)) (by decide))) (yv [_] rfl rfl Tryz.call130 (C_NText x.den hd) (yp rfl (.binOp rfl rfl (fun _ => run_sadd _ _ _ _ _ (by have := textZ_size x.num; have := digS_size x.den; have h1 : (ByteArray.mk #[47]).size = 1 := rfl; rw [ByteArray.size_append]; omega))) (yp rfl (.assign rfl) (yn (zt ?_))))))); intro a w h
    refine retV h (results1 h rfl (.tmp rfl)) ?_
    unfold textQ; rw [if_neg hw]
end
section

theorem lenZ_neg (x : Int) : lenZ (-x) = lenZ x := by unfold lenZ; rw [Int.natAbs_neg]
theorem sign_mkRat (n : Int) (d : Nat) (hd : d ≠ 0) : (mkRat n d).num.sign = n.sign := by
  cases h : mkRat n d with
  | mk' n' d' z c =>
    obtain ⟨m, hm, hn, _⟩ := Rat.mkRat_num_den hd h
    rw [hn, Int.sign_mul, show ((m : Nat) : Int).sign = 1 from Int.sign_eq_one_of_pos (by omega), Int.mul_one]
theorem sign_sub (x y : Rat) : (x - y).num.sign = (x.num * (y.den : Int) - y.num * (x.den : Int)).sign := by
  rw [Rat.sub_def', sign_mkRat _ _ (Nat.mul_ne_zero x.den_nz y.den_nz)]
theorem sign_same {x y : Rat} (h : x.den = y.den) : (x - y).num.sign = (x.num - y.num).sign := by
  rw [sign_sub, ← h, ← Int.sub_mul, Int.sign_mul, show ((x.den : Nat) : Int).sign = 1 from Int.sign_eq_one_of_pos (by have := x.den_pos; omega), Int.mul_one]
/-- The comparison of two whole numbers. -/
def cmpZ (i k : Int) : Int := if i < k then -1 else if i > k then 1 else 0
def validQ (t : Rat) : Bool := decide (t.num.sign ≥ 0) && decide ((t - ((1 : Int) : Rat)).num.sign ≤ 0)

theorem C_isNaN (x : Int) : CtrV Tryz.prog 196 [.int .i64 x] (.bool false) := by
  refine fn_intro Tryz.func196 rfl Tryz.ntmps196 nb ?_
  intro S w0 a hS h
  refine gC h (zs (zr (za rfl (zn (zs (zr (zm rfl (zm rfl (zp (.neq rfl rfl) (za rfl (zn (zt ?_)))))))))))); clear h; intro a w h
  refine retV h (results1 h rfl (.tmp rfl)) ?_
  simp

theorem C_cmpZ (x y : Int) : CtrV Tryz.prog 166 [.int .i64 x, .int .i64 y] (.int .i64 (cmpZ x y)) := by
  refine fn_intro Tryz.func166 rfl Tryz.ntmps166 nb ?_
  intro S w0 a hS h
  refine gC h (zs (zr (za rfl (zn (zs (zr (zm rfl (zv [_] rfl Tryz.call196 (C_isNaN _) (za rfl (zn (zs (zr (zm rfl (zv [_] rfl Tryz.call196 (C_isNaN _) (za rfl (zn (zs (zs (zr (zm rfl ?_)))))))))))))))))))); clear h; intro a w h
  refine by_bool h (fun hc11 h => (by exfalso; cases hc11)) (fun hc11 h => ?_)
  refine wpList_nil ?_
  change Code.wp _ _ _ _ _
  refine cond_false h rfl ?_
  refine gC h (zk (zs (zs (zr (zm rfl ?_))))); clear h; intro a w h
  refine by_bool h (fun hc13 h => (by exfalso; cases hc13)) (fun hc13 h => ?_)
  refine wpList_nil ?_
  change Code.wp _ _ _ _ _
  refine cond_false h rfl ?_
  refine gC h (zk (zs (zs (zr (zm rfl (zm rfl (zp (.lss rfl rfl) (zn ?_)))))))); clear h; intro a w h
  change Code.wp _ _ _ _ _
  refine cond_split h rfl (fun hc16 => ?_) (fun hc16 => ?_)
  · skip
    refine gC h (zs (zr (za rfl (zn (zt ?_))))); clear h; intro a w h
    refine retV h (results1 h rfl (.tmp rfl)) ?_
    unfold cmpZ; have := of_decide_eq_true hc16; simp [this]
  · skip
    refine gC h (zk (zs (zs (zr (zm rfl (zm rfl (zp (.gtr rfl rfl) (zn ?_)))))))); clear h; intro a w h
    change Code.wp _ _ _ _ _
    refine cond_split h rfl (fun hc19 => ?_) (fun hc19 => ?_)
    · skip
      refine gC h (zs (zr (za rfl (zn (zt ?_))))); clear h; intro a w h
      refine retV h (results1 h rfl (.tmp rfl)) ?_
      unfold cmpZ; have h1 := of_decide_eq_false hc16; have h2 := of_decide_eq_true hc19; rw [if_neg h1, if_pos h2]
    · skip
      refine gC h (zk (zs (zr (za rfl (zn (zt ?_)))))); clear h; intro a w h
      refine retV h (results1 h rfl (.tmp rfl)) ?_
      unfold cmpZ; have h1 := of_decide_eq_false hc16; have h2 := of_decide_eq_false hc19; rw [if_neg h1, if_neg h2]
end
section

theorem run_negi (x : Int) (h0 : -9223372036854775807 ≤ x) (h1 : x ≤ 9223372036854775807) (w : World) : (Op.unary .neg (.int .i64 x)).run Tryz.prog w = .ok (.int .i64 (-x)) w := by
  have : (Op.unary .neg (.int .i64 x)).run Tryz.prog w = .ok (.int .i64 (IntKind.i64.wrap (0 - x))) w := by simp [Op.unary, Op.intArith]
  rw [this, wrap_i64 _ (by omega) (by omega)]; congr 2; omega
end
section
theorem fa_25_0 (b off : Nat) (w : World) : (Instr.fieldAt 25 (.pointer (some ⟨b, off, none⟩)) 0).run Tryz.prog w = .ok (.pointer (some ⟨b, off + 0, none⟩)) w := by
  simp [go_sem]
theorem fa_25_1 (b off : Nat) (w : World) : (Instr.fieldAt 25 (.pointer (some ⟨b, off, none⟩)) 1).run Tryz.prog w = .ok (.pointer (some ⟨b, off + 1, none⟩)) w := by
  simp [go_sem]
theorem cv_23_2 (x : Int) (w : World) : (Go.convert 23 2 (.int .u32 x)).run Tryz.prog w = .ok (.int .i64 (IntKind.i64.wrap x)) w := by
  simp [go_sem]
theorem cv_23_2b (x : Int) (h0 : IntKind.i64.wrap x = x) (w : World) : (Go.convert 23 2 (.int .u32 x)).run Tryz.prog w = .ok (.int .i64 x) w := by
  rw [cv_23_2, h0]
/-- A number as the statement gives it: N divided by D, or by 1. -/
def qv (N D : Int) : Rat := ((N : Int) : Rat) / ((max D 1 : Int) : Rat)
theorem lenQ_qv (N D : Int) (h0 : -9223372036854775808 ≤ N) (h1 : N ≤ 9223372036854775807) (h2 : 0 ≤ D) (h3 : D ≤ 4294967295) : lenQ (qv N D) ≤ 4 := lenQ_of N (max D 1) h0 h1 (by omega) (by omega)
theorem bi_maxu (x y : Int) (w : World) (ty : TypeId) (cs : Array Bool) : (Go.builtin .max #[23, 23] ty cs #[.int .u32 x, .int .u32 y]).run Tryz.prog w = .ok (.value (.int .u32 (max x y))) w := by
  simp [go_sem] <;> (try rw [Int.max_def]) <;> (try split) <;> (try split) <;> (try omega)
abbrev encQ2 (q : Int × Int) : Value := .agg #[.int .i64 q.1, .int .u32 q.2]
/-- The bounds of the statement's numbers. -/
def OkQ (q : Int × Int) : Prop := -9223372036854775808 ≤ q.1 ∧ q.1 ≤ 9223372036854775807 ∧ 0 ≤ q.2 ∧ q.2 ≤ 4294967295
def qvp (q : Int × Int) : Rat := qv q.1 q.2
theorem lenQ_qvp {q : Int × Int} (h : OkQ q) : lenQ (qvp q) ≤ 4 := lenQ_qv _ _ h.1 h.2.1 h.2.2.1 h.2.2.2

theorem C_qOf (N D : Int) (h0 : -9223372036854775808 ≤ N) (h1 : N ≤ 9223372036854775807) (h2 : 0 ≤ D) (h3 : D ≤ 4294967295) : CtrV Tryz.prog 28 [.agg #[.int .i64 N, .int .u32 D]] (encQ (qv N D)) := by
  refine fn_intro Tryz.func28 rfl Tryz.ntmps28 nb ?_
  intro S w0 a hS h
  refine gC h (zs (zr (zx rfl fun b1 => zz zeroQ fun b2 => zn (zs (zr (zp (.fieldAddr rfl (fa_25_0 _ _)) (zd rfl mr Tryz.isAgg2 Tryz.sizeOf2 (rs_2_0 _ _) ?_))))))); clear h; intro a w h
  refine gL h (zp (.fieldAddr rfl (fa_25_1 _ _)) (zd rfl mr Tryz.isAgg23 Tryz.sizeOf23 (rs_2_1 _ _) ?_)); clear h; intro a w h
  refine gL h (zp (.builtin [_, _] rfl (fun w ty cs => bi_maxu _ _ w ty cs)) (zp (.convert rfl (cv_23_2b _ (wrap_i64 _ (by omega) (by omega)))) (zv [_, _] rfl Tryz.call75 (C_QOf _ _ (by omega) (by omega) (by omega) (by omega) (by omega)) ?_))); clear h; intro a w h
  have hl12 := lenQ_of (N) (max D 1) (by omega) (by omega) (by omega) (by omega)
  refine gL h (zm rfl (zp (.extract rfl (fun _ => rfl)) (zp (.extract rfl (fun _ => rfl)) (zz zeroQ fun b3 => zt' rfl rfl (st_5_0_5 _ _ _ _ _ _ _ _ _ _) uu Tryz.sizeOf44 rfl nb rfl ?_)))); clear h; intro a w h
  refine gL h (za rfl (zn (zs (zr (zd rfl mr Tryz.isAgg44 Tryz.sizeOf44 (rd_5_0_5 _ _ _ _ _) ?_))))); clear h; intro a w h
  refine gL h (zt' rfl rfl (st_5_0_5 _ _ _ _ _ _ _ _ _ _) uu Tryz.sizeOf44 rfl nb rfl ?_); clear h; intro a w h
  refine wpList_nil (wp_ret ?_)
  refine retV h (results1 h rfl (.cell rfl mr Tryz.isAgg44 Tryz.sizeOf44 (rd_5_0_5 _ _ _ _ _))) ?_
  rfl
end
section
theorem len_slice_51 (a : Option Addr) (n c : Nat) (w : World) (ty : TypeId) (cs : Array Bool) : (Go.builtin .len #[51] ty cs #[.slice a n c]).run Tryz.prog w = .ok (.value (.int .i64 n)) w := by
  simp [go_sem]
theorem ix_51 (b off n c j : Nat) (h : j < n) (w : World) : (Instr.indexAt 51 (.slice (some ⟨b, off, none⟩) n c) (.int .i64 (j : Int))).run Tryz.prog w = .ok (.pointer (some ⟨b, off + j, none⟩)) w := by
  simpa using indexAt_slice Tryz.runUnderlying51 Tryz.sizeOf3 b off n c j h w
theorem bd_143_0_1_2 (x0 : Int) (x1 : Int) (x2 : Int) (w : World) : (Instr.build 143 [(0, .int .i64 x0), (1, .int .i64 x1), (2, .int .i64 x2)].toArray).run Tryz.prog w = .ok (.agg #[.int .i64 x0, .int .i64 x1, .int .i64 x2]) w := by simp [go_sem]
theorem bs_51_3_0_1_2 (x0 : Int) (x1 : Int) (x2 : Int) (w : World) : (Instr.buildSlice 51 3 [(0, .int .i64 x0), (1, .int .i64 x1), (2, .int .i64 x2)].toArray).run Tryz.prog w = .ok (.slice (some ⟨w.heap.size, 0, none⟩) 3 3) (w.alloc (.cells #[.int .i64 x0, .int .i64 x1, .int .i64 x2] 3 (0, 0))) := by
  simp [go_sem]
/-- A number times the numbers from 1 to p. -/
def upQ (q : Rat) : Nat → Rat
  | 0 => q
  | p + 1 => upQ q p * (((p + 1 : Nat) : Int) : Rat)
/-- A number divided by the numbers from 1 to n. -/
def downQ (q : Rat) : Nat → Rat
  | 0 => q
  | n + 1 => downQ q n / (((n + 1 : Nat) : Int) : Rat)
def ratioQ (n : Nat) (l : List Nat) : Rat := downQ (l.foldl upQ 1) n
def momentQ (i j k : Nat) : Rat := ((2 : Int) : Rat) * ratioQ (i + j + k + 2) [i, j, k]
theorem lenQ_up (q : Rat) : ∀ p, p ≤ 1000000 → lenQ (upQ q p) ≤ lenQ q + 2 * p
  | 0, _ => Nat.le_refl _
  | p + 1, h => by
    have h1 := lenQ_up q p (by omega)
    have h2 := lenQ_int ((p + 1 : Nat) : Int) (by omega) (by omega)
    have h3 := lenQ_mul (upQ q p) (((p + 1 : Nat) : Int) : Rat)
    show lenQ (upQ q p * _) ≤ _
    omega
theorem lenQ_down (q : Rat) : ∀ p, p ≤ 1000000 → lenQ (downQ q p) ≤ lenQ q + 2 * p
  | 0, _ => Nat.le_refl _
  | p + 1, h => by
    have h1 := lenQ_down q p (by omega)
    have h2 := lenQ_int ((p + 1 : Nat) : Int) (by omega) (by omega)
    have h3 := lenQ_div (downQ q p) (((p + 1 : Nat) : Int) : Rat)
    show lenQ (downQ q p / _) ≤ _
    omega
theorem lenQ_one : lenQ 1 ≤ 2 := lenQ_int 1 (by omega) (by omega)
theorem lenQ_ups : ∀ (l : List Nat) (q : Rat), (∀ x ∈ l, x ≤ 48) → lenQ (l.foldl upQ q) ≤ lenQ q + 96 * l.length
  | [], q, _ => by simp
  | x :: l, q, h => by
    have h1 := lenQ_ups l (upQ q x) (fun y hy => h y (List.mem_cons_of_mem _ hy))
    have h0 := h x List.mem_cons_self
    have h2 := lenQ_up q x (by omega)
    simp only [List.foldl_cons, List.length_cons]
    omega
theorem one_int : ((1 : Int) : Rat) = 1 := rfl
theorem int_ne {n : Nat} : ((((n + 1 : Nat) : Int) : Rat)) ≠ 0 := fun e => by have := Rat.intCast_eq_zero_iff.1 e; omega

theorem C_iratio (n : Nat) (l : List Nat) (ad : Option Addr) (c : Nat) (hn : n ≤ 200) (hl : l.length ≤ 10) (hx : ∀ x ∈ l, x ≤ 48) :
    CtrW Tryz.prog 94 [.int .i64 ((n : Nat) : Int), .slice ad l.length c] [Row ad (List.map encn l)] (encQ (ratioQ n l)) := by
  refine fn_intro Tryz.func94 rfl Tryz.ntmps94 nb ?_
  intro S w0 a hS h
  refine gC h (zs (zr (zz zeroQ fun b4 => zn (zs (zr (zv [_] rfl Tryz.call44 (C_QInt _ (by omega) (by omega)) ?_)))))); clear h; intro a w h
  have hl10 := lenQ_int (1) (by omega) (by omega)
  refine gL h (zz zeroQ fun b5 => zt' rfl rfl (st_5_0_5 _ _ _ _ _ _ _ _ _ _) uu Tryz.sizeOf44 rfl nb rfl ?_); clear h; intro a w h
  refine gL h (zn (zs (zs (zr (zm rfl (zp (.builtin [_] rfl (len_slice_51 _ _ _)) (zm rfl (zn (zb ?_))))))))); clear h; intro a w h
  refine wp_loop_inv (fun (k : Nat) a w => k ≤ l.length ∧ St 42 S w0 [(0, .int .i64 ((n : Nat) : Int)), (4, .pointer (some ⟨b4, 0, none⟩)), (5, .pointer (some ⟨b5, 0, none⟩)), (11, .slice ad l.length c), (12, .int .i64 ((l.length : Nat) : Int)), (13, .int .i64 ((k : Nat) : Int))] [(b5, .cells (Value.cells (encQ ((l.take k).foldl upQ 1))) 44 (0, 0)), (b4, .cells (Value.cells (encQ (0))) 44 (0, 0))] [Row ad (List.map encn l)] a w) (fun k => l.length - k) 0 (⟨Nat.zero_le _, by exact (h).sub (subL ⟨rfl, rfl, rfl, rfl, rfl, rfl, trivial⟩)⟩) ?_; clear h
  rintro k a w ⟨hi_k, h⟩
  refine gC h (zs (zr (zp (.lss rfl rfl) (zn (zs ?_))))); clear h; intro a w h
  refine cond_split h rfl (fun hc14 => ?_) (fun hc14 => ?_)
  · skip
    have hlt_k : k < l.length := by have := of_decide_eq_true hc14; omega
    obtain ⟨B_ad, O_ad, rfl⟩ := h.row_addr (ad := ad) (M := List.map encn l) mm (by intro e; have := congrArg List.length e; simp only [List.length_map, List.length_nil] at this; omega)
    have hxk := hx (l.getD k 0) (getD_mem _ hlt_k)
    have hlk := lenQ_ups (l.take k) 1 (fun x hx' => hx x (List.mem_of_mem_take hx'))
    rw [List.length_take] at hlk
    have hl1 := lenQ_one
    refine gC h (zk (zs (zb (zs (zr (zp (.indexAddr rfl rfl (ix_51 _ _ _ _ _ (by omega))) (zD rfl mm (by rw [List.length_map]; omega) Tryz.isAgg3 Tryz.sizeOf3 (read_row (enc := encn) (l := l) 0 (by omega)) (.inr rfl) ?_))))))); clear h; intro a w h
    refine gL h (za rfl (zn (zs (zr (zm rfl (zm rfl (zn (zb ?_)))))))); clear h; intro a w h
    refine wp_loop_inv (fun (i : Nat) a w => i ≤ l.getD k 0 ∧ St 42 S w0 [(0, .int .i64 ((n : Nat) : Int)), (4, .pointer (some ⟨b4, 0, none⟩)), (5, .pointer (some ⟨b5, 0, none⟩)), (11, .slice (some ⟨B_ad, O_ad, none⟩) l.length c), (12, .int .i64 ((l.length : Nat) : Int)), (13, .int .i64 ((k : Nat) : Int)), (17, .int .i64 ((l.getD k 0 : Nat) : Int)), (18, .int .i64 ((i : Nat) : Int))] [(b5, .cells (Value.cells (encQ (upQ ((l.take k).foldl upQ 1) i))) 44 (0, 0)), (b4, .cells (Value.cells (encQ (0))) 44 (0, 0))] [Row (some ⟨B_ad, O_ad, none⟩) (List.map encn l)] a w) (fun i => l.getD k 0 - i) 0 (⟨Nat.zero_le _, by exact (h).sub (subL ⟨rfl, rfl, rfl, rfl, rfl, rfl, rfl, rfl, trivial⟩)⟩) ?_; clear h
    rintro i a w ⟨hi_i, h⟩
    refine gC h (zs (zr (zp (.lss rfl rfl) (zn (zs ?_))))); clear h; intro a w h
    refine cond_split h rfl (fun hc19 => ?_) (fun hc19 => ?_)
    · skip
      have hlt_i : i < l.getD k 0 := by have := of_decide_eq_true hc19; omega
      have hli := lenQ_up ((l.take k).foldl upQ 1) i (by omega)
      refine gC h (zk (zs (zb (zs (zr (zm rfl (za rfl (zn (yD mixed_YtealgpgmbflilaaGreatDoor [0, 1, 2, 3, 4, 5] (floatsOK_none (by kernel_rfl)) (yd rfl rfl mr Tryz.isAgg44 Tryz.sizeOf44 (rd_5_0_5 _ _ _ _ _) ?_)))))))))); clear h
      refine yp rfl (.move rfl) (yp rfl (Pure1.cast (v' := (.int .i64 ((i + 1 : Nat) : Int))) (.add rfl rfl) (by show Value.int _ _ = Value.int _ _; congr 1)) (yv [_] rfl rfl Tryz.call44 (C_QInt _ (by omega) (by omega)) ?_))
      have hl24 := lenQ_int (((i + 1 : Nat) : Int)) (by omega) (by omega)
      refine yv [_, _] rfl rfl Tryz.call30 (C_QMul _ _ (by omega) (by omega)) ?_
      have hl25 := lenQ_mul (upQ ((l.take k).foldl upQ 1) i) (((((i + 1 : Nat) : Int) : Int) : Rat))
      refine yt rfl rfl rfl (st_5_0_5 _ _ _ _ _ _ _ _ _ _) uu Tryz.sizeOf44 rfl nb rfl ?_
      refine yn (zr (zp (Pure1.cast (v' := (.int .i64 ((i + 1 : Nat) : Int))) (.add rfl rfl) (by show Value.int _ _ = Value.int _ _; congr 1)) (zm rfl (zn ?_)))); intro a w h
      exact ⟨i + 1, ⟨by omega, h.sub sA⟩, by omega⟩
    · skip
      have heq_i : l.getD k 0 = i := by have := of_decide_eq_false hc19; omega
      subst heq_i
      refine gC h (ze (zr (zp (Pure1.cast (v' := (.int .i64 ((k + 1 : Nat) : Int))) (.add rfl rfl) (by show Value.int _ _ = Value.int _ _; congr 1)) (zm rfl (zn ?_))))); clear h; intro a w h
      rw [← foldl_take_succ (f := upQ) l 1 k 0 hlt_k] at h
      exact ⟨k + 1, ⟨by omega, (h.factsSub (by simp)).sub sA⟩, by omega⟩
  · skip
    have heq_k : l.length = k := by have := of_decide_eq_false hc14; omega
    subst heq_k
    refine gC h (ze (zs (zs (zr (zm rfl (zm rfl (zn (zb ?_)))))))); clear h; intro a w h
    rw [List.take_length] at h
    refine wp_loop_inv (fun (m : Nat) a w => m ≤ n ∧ St 42 S w0 [(0, .int .i64 ((n : Nat) : Int)), (4, .pointer (some ⟨b4, 0, none⟩)), (5, .pointer (some ⟨b5, 0, none⟩)), (11, .slice ad l.length c), (12, .int .i64 ((l.length : Nat) : Int)), (13, .int .i64 ((l.length : Nat) : Int)), (28, .int .i64 ((n : Nat) : Int)), (29, .int .i64 ((m : Nat) : Int))] [(b5, .cells (Value.cells (encQ (downQ (l.foldl upQ 1) m))) 44 (0, 0)), (b4, .cells (Value.cells (encQ (0))) 44 (0, 0))] [Row ad (List.map encn l)] a w) (fun m => n - m) 0 (⟨Nat.zero_le _, by exact (h).sub (subL ⟨rfl, rfl, rfl, rfl, rfl, rfl, rfl, rfl, trivial⟩)⟩) ?_; clear h
    rintro m a w ⟨hi_m, h⟩
    refine gC h (zs (zr (zp (.lss rfl rfl) (zn (zs ?_))))); clear h; intro a w h
    refine cond_split h rfl (fun hc30 => ?_) (fun hc30 => ?_)
    · skip
      have hlt_m : m < n := by have := of_decide_eq_true hc30; omega
      have hlm := lenQ_down (l.foldl upQ 1) m (by omega)
      have hlk := lenQ_ups l 1 hx
      have hl1 := lenQ_one
      refine gC h (zk (zs (zb (zs (zr (zm rfl (za rfl (zn (yD mixed_YtealgpgmbflilaaGreatDoor [0, 1, 2, 3, 4, 5, 6, 7, 8] (floatsOK_none (by kernel_rfl)) (yd rfl rfl mr Tryz.isAgg44 Tryz.sizeOf44 (rd_5_0_5 _ _ _ _ _) ?_)))))))))); clear h
      refine yp rfl (.move rfl) (yp rfl (Pure1.cast (v' := (.int .i64 ((m + 1 : Nat) : Int))) (.add rfl rfl) (by show Value.int _ _ = Value.int _ _; congr 1)) (yv [_] rfl rfl Tryz.call44 (C_QInt _ (by omega) (by omega)) ?_))
      have hl36 := lenQ_int (((m + 1 : Nat) : Int)) (by omega) (by omega)
      refine yv [_, _] rfl rfl Tryz.call108 (C_QDiv _ _ int_ne (by omega) (by omega)) (yp rfl (.move rfl) (yp rfl (.extract rfl (fun _ => rfl)) (yp rfl (.extract rfl (fun _ => rfl)) (yt rfl rfl rfl (st_5_0_5 _ _ _ _ _ _ _ _ _ _) uu Tryz.sizeOf44 rfl nb rfl ?_))))
      refine yn (zr (zp (Pure1.cast (v' := (.int .i64 ((m + 1 : Nat) : Int))) (.add rfl rfl) (by show Value.int _ _ = Value.int _ _; congr 1)) (zm rfl (zn ?_)))); intro a w h
      exact ⟨m + 1, ⟨by omega, h.sub sA⟩, by omega⟩
    · skip
      have heq_m : n = m := by have := of_decide_eq_false hc30; omega
      subst heq_m
      refine gC h (ze (zs (zr (zd rfl mr Tryz.isAgg44 Tryz.sizeOf44 (rd_5_0_5 _ _ _ _ _) ?_)))); clear h; intro a w h
      refine gL h (zt' rfl rfl (st_5_0_5 _ _ _ _ _ _ _ _ _ _) uu Tryz.sizeOf44 rfl nb rfl ?_); clear h; intro a w h
      refine wpList_nil (wp_ret ?_)
      refine retV h (results1 h rfl (.cell rfl mr Tryz.isAgg44 Tryz.sizeOf44 (rd_5_0_5 _ _ _ _ _))) ?_
      rfl

theorem ix3 (a b c m : Nat) (h : m < 3) (w : World) : (Instr.index 143 (.agg #[.int .i64 (a : Int), .int .i64 (b : Int), .int .i64 (c : Int)]) (.int .i64 (m : Int))).run Tryz.prog w = .ok (.int .i64 (([a, b, c].getD m 0 : Nat) : Int)) w := by
  match m, h with
  | 0, _ => unfold Instr.index; simp [go_sem]
  | 1, _ => unfold Instr.index; simp [go_sem]
  | 2, _ => unfold Instr.index; simp [go_sem]
theorem lenQ_moment (i j k : Nat) (hi : i ≤ 48) (hj : j ≤ 48) (hk : k ≤ 48) : lenQ (momentQ i j k) ≤ 1000 := by
  unfold momentQ ratioQ
  have h1 := lenQ_mul ((2 : Int) : Rat) (downQ ([i, j, k].foldl upQ 1) (i + j + k + 2))
  have h2 := lenQ_int 2 (by omega) (by omega)
  have h3 := lenQ_down ([i, j, k].foldl upQ 1) (i + j + k + 2) (by omega)
  have h4 := lenQ_ups [i, j, k] 1 (by simp; omega)
  have h5 := lenQ_one
  simp only [List.length_cons, List.length_nil] at h4
  omega

theorem C_Moment (i j k : Nat) (hi : i ≤ 48) (hj : j ≤ 48) (hk : k ≤ 48) :
    CtrV Tryz.prog 34 [.int .i64 ((i : Nat) : Int), .int .i64 ((j : Nat) : Int), .int .i64 ((k : Nat) : Int)] (encQ (momentQ i j k)) := by
  refine fn_intro Tryz.func34 rfl Tryz.ntmps34 nb ?_
  intro S w0 a hS h
  refine gC h (zs (zr (zz zeroQ fun b6 => zn (zs (zs (zr (zm rfl (zm rfl (zm rfl (zp (.build [(_, _), (_, _), (_, _)] rfl (bd_143_0_1_2 _ _ _)) (zm rfl (zn (zb ?_))))))))))))); clear h; intro a w h
  refine wp_loop_inv (fun (m : Nat) a w => m ≤ 3 ∧ St 37 S w0 [(0, .int .i64 ((i : Nat) : Int)), (1, .int .i64 ((j : Nat) : Int)), (2, .int .i64 ((k : Nat) : Int)), (6, .pointer (some ⟨b6, 0, none⟩)), (12, .agg #[.int .i64 (i : Int), .int .i64 (j : Int), .int .i64 (k : Int)]), (13, .int .i64 ((m : Nat) : Int))] [(b6, .cells (Value.cells (encQ (0))) 44 (0, 0))] [] a w) (fun m => 3 - m) 0 (⟨Nat.zero_le _, by exact (h).sub (subL ⟨rfl, rfl, rfl, rfl, rfl, rfl, trivial⟩)⟩) ?_; clear h
  rintro m a w ⟨hi_m, h⟩
  refine gC h (zs (zr (zp (.lss rfl rfl) (zn (zs ?_))))); clear h; intro a w h
  refine cond_split h rfl (fun hc14 => ?_) (fun hc14 => ?_)
  · skip
    have hlt_m : m < 3 := by have := of_decide_eq_true hc14; omega
    have hb : [i, j, k].getD m 0 ≤ 48 := by match m, hlt_m with | 0, _ => exact hi | 1, _ => exact hj | 2, _ => exact hk
    refine gC h (zk (zs (zb (zs (zr (zp (.index rfl rfl (fun w => ix3 i j k m (by omega) w)) (za rfl (zn (zs (zr (zm rfl (zp (.lss rfl rfl) ?_)))))))))))); clear h; intro a w h
    refine by_bool h (fun hc17 h => (by exfalso; have := of_decide_eq_true hc17; omega)) (fun hc17 h => ?_)
    refine gL h (zm rfl (zq 18 rfl rfl (.move rfl) (zq 18 rfl rfl (.gtr rfl rfl) ?_))); clear h; intro a w h
    refine by_bool h (fun hc20 h => (by exfalso; have := of_decide_eq_true hc20; omega)) (fun hc20 h => ?_)
    refine gL h (zp (.pickF rfl rfl) (zn ?_)); clear h; intro a w h
    change Code.wp _ _ _ _ _
    refine cond_false h rfl ?_
    refine gC h (zk (zr (zp (Pure1.cast (v' := (.int .i64 ((m + 1 : Nat) : Int))) (.add rfl rfl) (by show Value.int _ _ = Value.int _ _; congr 1)) (zm rfl (zn ?_))))); clear h; intro a w h
    exact ⟨m + 1, ⟨by omega, h.sub sA⟩, by omega⟩
  · skip
    have heq_m : 3 = m := by have := of_decide_eq_false hc14; omega
    subst heq_m
    refine gC h (ze (zs (zr (zv [_] rfl Tryz.call44 (C_QInt _ (by omega) (by omega)) ?_)))); clear h; intro a w h
    have hl24 := lenQ_int (2) (by omega) (by omega)
    refine gL h (zm rfl (zm rfl (zp (Pure1.cast (v' := (.int .i64 ((i + j : Nat) : Int))) (.add rfl rfl) (by show Value.int _ _ = Value.int _ _; congr 1)) (zm rfl (zp (Pure1.cast (v' := (.int .i64 (((i + j) + k : Nat) : Int))) (.add rfl rfl) (by show Value.int _ _ = Value.int _ _; congr 1)) (zp (Pure1.cast (v' := (.int .i64 ((((i + j) + k) + 2 : Nat) : Int))) (.add rfl rfl) (by show Value.int _ _ = Value.int _ _; congr 1)) (zm rfl (zm rfl (zm rfl (zB [(_, _), (_, _), (_, _)] rfl (bs_51_3_0_1_2 _ _ _) fun b34 => ?_)))))))))); clear h; intro a w h
    replace h := h.shareAll hS (List.map encn ([i, j, k])) rfl
    have hlr : lenQ (ratioQ (i + j + k + 2) [i, j, k]) ≤ 900 := by have := lenQ_down ([i, j, k].foldl upQ 1) (i + j + k + 2) (by omega); have h4 := lenQ_ups [i, j, k] 1 (by simp; omega); have := lenQ_one; simp only [List.length_cons, List.length_nil] at h4; unfold ratioQ; omega
    refine gL h (zw [_, _] rfl Tryz.call94 (C_iratio (i + j + k + 2) [i, j, k] _ _ (by omega) (by simp) (by simp; omega)) (zv [_, _] rfl Tryz.call30 (C_QMul _ _ (by omega) (by omega)) ?_)); clear h; intro a w h
    have hl36 := lenQ_mul (((2 : Int) : Rat)) (ratioQ (i + j + k + 2) [i, j, k])
    refine gL h (zt' rfl rfl (st_5_0_5 _ _ _ _ _ _ _ _ _ _) uu Tryz.sizeOf44 rfl nb rfl ?_); clear h; intro a w h
    refine wpList_nil (wp_ret ?_)
    refine retV h (results1 h rfl (.cell rfl mr Tryz.isAgg44 Tryz.sizeOf44 (rd_5_0_5 _ _ _ _ _))) ?_
    rfl

theorem lenQ_pow (x : Rat) : ∀ i : Nat, lenQ (x ^ i) ≤ 2 + i * lenQ x
  | 0 => by rw [Rat.pow_zero]; have := lenQ_one; omega
  | i + 1 => by
    rw [Rat.pow_succ]
    have h1 := lenQ_pow x i
    have h2 := lenQ_mul (x ^ i) x
    rw [Nat.add_mul]; omega
theorem lenQ_powle (x : Rat) (i : Nat) (k m : Nat) (hx : lenQ x ≤ k) (hi : i ≤ m) : lenQ (x ^ i) ≤ 2 + m * k :=
  Nat.le_trans (lenQ_pow x i) (Nat.add_le_add_left (Nat.mul_le_mul hi hx) 2)
end
section

abbrev enci (x : Int) : Value := .int .i64 x
/-- The first number that is not 0, else 0. -/
def orI : List Int → Int
  | [] => 0
  | x :: l => if x ≠ 0 then x else orI l
theorem orI_hit : ∀ (l : List Int) (i : Nat), (∀ j, j < i → l.getD j 0 = 0) → i < l.length → l.getD i 0 ≠ 0 → orI l = l.getD i 0
  | [], i, _, h, _ => by simp at h
  | x :: l, 0, _, _, h => by rw [orI]; exact if_pos (by simpa using h)
  | x :: l, i + 1, hz, hl, h => by
    have h0 : x = 0 := by simpa using hz 0 (by omega)
    rw [orI, if_neg (by simp [h0]), orI_hit l i (fun j hj => by simpa using hz (j + 1) (by omega)) (by simpa using hl) (by simpa using h)]
    simp
theorem orI_none : ∀ (l : List Int), (∀ j, j < l.length → l.getD j 0 = 0) → orI l = 0
  | [], _ => rfl
  | x :: l, hz => by
    have h0 : x = 0 := by simpa using hz 0 (by simp)
    rw [orI, if_neg (by simp [h0]), orI_none l (fun j hj => by simpa using hz (j + 1) (by simpa using hj))]
/-- The index of the first negative number, else -1. -/
def idxN : List Rat → Nat → Int
  | [], _ => -1
  | x :: l, i => if x.num.sign < 0 then (i : Int) else idxN l (i + 1)
theorem idxN_step (l : List Rat) (i : Nat) (h : i < l.length) : idxN (l.drop i) i = if (l.getD i 0).num.sign < 0 then (i : Int) else idxN (l.drop (i + 1)) (i + 1) := by
  rw [List.drop_eq_getElem_cons h, idxN]; simp [List.getD, h]
theorem idxN_any : ∀ (l : List Rat) (i : Nat), decide (idxN l i ≥ 0) = l.any (fun x : Rat => decide (x.num.sign < 0))
  | [], i => by rw [idxN]; simp
  | x :: l, i => by
    rw [idxN, List.any_cons, ← idxN_any l (i + 1)]
    by_cases h : x.num.sign < 0
    · rw [if_pos h, decide_eq_true h, Bool.true_or]; exact decide_eq_true (by omega)
    · rw [if_neg h, decide_eq_false h, Bool.false_or]
/-- The comparison by which the indices are sorted. -/
def cfN (E : List Rat) (i k : Nat) : Int := orI [(E.getD k 0 - E.getD i 0).num.sign, cmpZ (i : Int) (k : Int)]

theorem C_Or (ad : Option Addr) (c : Nat) (l : List Int) (hn : l.length ≤ 1000) : CtrW Tryz.prog 165 [.slice ad l.length c] [Row ad (List.map enci l)] (.int .i64 (orI l)) := by
  refine fn_intro Tryz.func165 rfl Tryz.ntmps165 nb ?_
  intro S w0 a hS h
  refine gC h (zs (zr (za rfl (zn (zs (zr (za rfl (zn (zs (zs (zr (zm rfl (zp (.builtin [_] rfl (len_slice_51 _ _ _)) (zm rfl (zn (zb ?_)))))))))))))))); clear h; intro a w h
  refine wp_loop_inv (fun (i : Nat) a w => i ≤ l.length ∧ (∀ j, j < i → l.getD j 0 = 0) ∧ St 18 S w0 [(3, .int .i64 0), (6, .slice ad l.length c), (7, .int .i64 ((l.length : Nat) : Int)), (8, .int .i64 ((i : Nat) : Int))] [] [Row ad (List.map enci l)] a w) (fun i => l.length - i) 0 (⟨Nat.zero_le _, fun j hj => absurd hj (by omega), by exact (h).sub (subL ⟨rfl, rfl, rfl, rfl, trivial⟩)⟩) ?_; clear h
  rintro i a w ⟨hi_i, hinv_i, h⟩
  refine gC h (zs (zr (zp (.lss rfl rfl) (zn (zs ?_))))); clear h; intro a w h
  refine cond_split h rfl (fun hc9 => ?_) (fun hc9 => ?_)
  · skip
    have hlt_i : i < l.length := by have := of_decide_eq_true hc9; omega
    obtain ⟨B_ad, O_ad, rfl⟩ := h.row_addr (ad := ad) (M := List.map enci l) mm (by intro e; have := congrArg List.length e; simp only [List.length_map, List.length_nil] at this; omega)
    refine gC h (zk (zs (zb (zs (zr (zp (.indexAddr rfl rfl (ix_51 _ _ _ _ _ (by omega))) (zD rfl mm (by rw [List.length_map]; omega) Tryz.isAgg3 Tryz.sizeOf3 (read_row (enc := enci) (l := l) 0 (by omega)) (.inr rfl) ?_))))))); clear h; intro a w h
    refine gL h (za rfl (zn (zs (zr (zm rfl (zm rfl (zp (.neq rfl rfl) ?_))))))); clear h; intro a w h
    refine by_bool h (fun hc14 h => ?_) (fun hc14 h => ?_)
    · skip
      refine wpList_nil ?_
      change Code.wp _ _ _ _ _
      refine cond_true h rfl ?_
      refine gC h (zs (zr (zm rfl (za rfl (zn (zt ?_)))))); clear h; intro a w h
      refine retV h (results1 h rfl (.tmp rfl)) ?_
      rw [orI_hit l i hinv_i hlt_i (by simpa using hc14)]
    · skip
      refine wpList_nil ?_
      change Code.wp _ _ _ _ _
      refine cond_false h rfl ?_
      refine gC h (zk (zr (zp (Pure1.cast (v' := (.int .i64 ((i + 1 : Nat) : Int))) (.add rfl rfl) (by show Value.int _ _ = Value.int _ _; congr 1)) (zm rfl (zn ?_))))); clear h; intro a w h
      exact ⟨i + 1, ⟨by omega, fun j hj => by
        rcases Nat.lt_or_ge j i with h1 | h1
        · exact hinv_i j h1
        · rw [show j = i by omega]; simpa using hc14, (h.factsSub (by simp)).sub sA⟩, by omega⟩
  · skip
    have heq_i : l.length = i := by have := of_decide_eq_false hc9; omega
    subst heq_i
    refine gC h (ze (zs (zr (zm rfl (za rfl (zn (zt ?_))))))); clear h; intro a w h
    refine retV h (results1 h rfl (.tmp rfl)) ?_
    rw [orI_none l hinv_i]
end
section

/-- A term c x^i y^j. -/
structure Tm where
  i : Nat
  j : Nat
  c : Rat
theorem Tm.ext' {s t : Tm} (h1 : s.i = t.i) (h2 : s.j = t.j) (h3 : s.c = t.c) : s = t := by cases s; cases t; simp_all
instance : DecidableEq Tm := fun s t => decidable_of_iff (s.i = t.i ∧ s.j = t.j ∧ s.c = t.c) ⟨fun h => Tm.ext' h.1 h.2.1 h.2.2, fun h => by rw [h]; exact ⟨rfl, rfl, rfl⟩⟩
/-- The sum over the terms of the coefficient times a weight of the power. -/
def lin (φ : Nat → Nat → Rat) : List Tm → Rat
  | [] => 0
  | t :: l => t.c * φ t.i t.j + lin φ l
theorem lin_nil (φ : Nat → Nat → Rat) : lin φ [] = 0 := rfl
theorem lin_cons (φ : Nat → Nat → Rat) (t : Tm) (l : List Tm) : lin φ (t :: l) = t.c * φ t.i t.j + lin φ l := rfl
theorem lin_append (φ : Nat → Nat → Rat) : ∀ l m : List Tm, lin φ (l ++ m) = lin φ l + lin φ m
  | [], m => by simp only [List.nil_append, lin]; grind
  | t :: l, m => by simp only [List.cons_append, lin, lin_append φ l m]; grind
theorem lin_perm (φ : Nat → Nat → Rat) {l m : List Tm} (h : l.Perm m) : lin φ l = lin φ m := by
  induction h with
  | nil => rfl
  | cons x _ ih => simp only [lin, ih]
  | swap x y l => simp only [lin]; grind
  | trans _ _ h1 h2 => rw [h1, h2]
theorem lin_congr {φ ψ : Nat → Nat → Rat} : ∀ {l : List Tm}, (∀ t ∈ l, φ t.i t.j = ψ t.i t.j) → lin φ l = lin ψ l
  | [], _ => rfl
  | t :: l, h => by rw [lin, lin, h t List.mem_cons_self, lin_congr (fun s hs => h s (List.mem_cons_of_mem _ hs))]
theorem lin_add (φ ψ : Nat → Nat → Rat) : ∀ l : List Tm, lin (fun i j => φ i j + ψ i j) l = lin φ l + lin ψ l
  | [] => by simp only [lin]; grind
  | t :: l => by simp only [lin, lin_add φ ψ l]; grind
theorem lin_sub (φ ψ : Nat → Nat → Rat) : ∀ l : List Tm, lin (fun i j => φ i j - ψ i j) l = lin φ l - lin ψ l
  | [] => by simp only [lin]; grind
  | t :: l => by simp only [lin, lin_sub φ ψ l]; grind
theorem lin_smul (a : Rat) (φ : Nat → Nat → Rat) : ∀ l : List Tm, lin (fun i j => a * φ i j) l = a * lin φ l
  | [] => by simp only [lin]; grind
  | t :: l => by simp only [lin, lin_smul a φ l]; grind
theorem lin_mulr (a : Rat) (φ : Nat → Nat → Rat) : ∀ l : List Tm, lin (fun i j => φ i j * a) l = lin φ l * a
  | [] => by simp only [lin]; grind
  | t :: l => by simp only [lin, lin_mulr a φ l]; grind
theorem lin_zero : ∀ l : List Tm, lin (fun _ _ => 0) l = 0
  | [] => rfl
  | t :: l => by simp only [lin, lin_zero l]; grind
/-- Sums may be exchanged. -/
theorem lin_swap (f : Nat → Nat → Nat → Nat → Rat) : ∀ l m : List Tm, lin (fun i j => lin (fun p q => f i j p q) m) l = lin (fun p q => lin (fun i j => f i j p q) l) m
  | [], m => by simp only [lin]; rw [lin_zero]
  | t :: l, m => by
    simp only [lin, lin_swap f l m, lin_add, lin_smul]
/-- Terms turned one by one. -/
theorem lin_map (φ : Nat → Nat → Rat) (g : Tm → Tm) (ψ : Nat → Nat → Rat) : ∀ l : List Tm, (∀ t ∈ l, (g t).c * φ (g t).i (g t).j = t.c * ψ t.i t.j) → lin φ (l.map g) = lin ψ l
  | [], _ => rfl
  | t :: l, h => by rw [List.map_cons, lin, lin, h t List.mem_cons_self, lin_map φ g ψ l (fun s hs => h s (List.mem_cons_of_mem _ hs))]
/-- A sum over a list of lists. -/
theorem lin_flatMap (φ : Nat → Nat → Rat) (g : Tm → List Tm) (ψ : Nat → Nat → Rat) : ∀ l : List Tm, (∀ t ∈ l, lin φ (g t) = t.c * ψ t.i t.j) → lin φ (l.flatMap g) = lin ψ l
  | [], _ => rfl
  | t :: l, h => by rw [List.flatMap_cons, lin_append, lin, h t List.mem_cons_self, lin_flatMap φ g ψ l (fun s hs => h s (List.mem_cons_of_mem _ hs))]

/-! ### The normal form -/
def same (s t : Tm) : Prop := s.i = t.i ∧ s.j = t.j
instance (s t : Tm) : Decidable (same s t) := inferInstanceAs (Decidable (_ ∧ _))
/-- A term added to a list of terms with different powers. -/
def insT (t : Tm) : List Tm → List Tm
  | [] => [⟨t.i, t.j, 0 + t.c⟩]
  | s :: p => if same s t then ⟨s.i, s.j, s.c + t.c⟩ :: p else s :: insT t p
theorem lin_insT (φ : Nat → Nat → Rat) (t : Tm) : ∀ p : List Tm, lin φ (insT t p) = lin φ p + t.c * φ t.i t.j
  | [] => by simp only [insT, lin]; grind
  | s :: p => by
    rw [insT]
    split
    · rename_i h; obtain ⟨h1, h2⟩ := h; simp only [lin, h1, h2]; grind
    · simp only [lin, lin_insT φ t p]; grind
theorem insT_mem {t u : Tm} : ∀ {p : List Tm}, u ∈ insT t p → same u t ∨ u ∈ p
  | [], h => by simp only [insT, List.mem_singleton] at h; subst h; exact .inl ⟨rfl, rfl⟩
  | s :: p, h => by
    rw [insT] at h
    split at h
    · rename_i h2
      rcases List.mem_cons.1 h with rfl | h
      · exact .inl h2
      · exact .inr (List.mem_cons_of_mem _ h)
    · rcases List.mem_cons.1 h with rfl | h
      · exact .inr List.mem_cons_self
      · exact (insT_mem h).imp id (List.mem_cons_of_mem _)
/-- The powers of a list of terms are different. -/
def dif (p : List Tm) : Prop := p.Pairwise (fun s t => ¬ same s t)
theorem insT_dif (t : Tm) : ∀ {p : List Tm}, dif p → dif (insT t p)
  | [], _ => by rw [insT]; exact List.pairwise_singleton _ _
  | s :: p, h => by
    obtain ⟨h1, h2⟩ := List.pairwise_cons.1 h
    rw [insT]
    split
    · rename_i hs; exact List.pairwise_cons.2 ⟨fun u hu hc => h1 u hu hc, h2⟩
    · rename_i hs
      refine List.pairwise_cons.2 ⟨fun u hu => ?_, insT_dif t h2⟩
      rcases insT_mem hu with h3 | h3
      · exact fun h4 => hs ⟨h4.1.trans h3.1, h4.2.trans h3.2⟩
      · exact h1 u h3
theorem insT_len (t : Tm) : ∀ p : List Tm, (insT t p).length ≤ p.length + 1
  | [] => Nat.le_refl _
  | s :: p => by rw [insT]; split <;> simp only [List.length_cons]; · omega
                 · have := insT_len t p; omega
def collect (l : List Tm) : List Tm := l.foldl (fun p t => insT t p) []
theorem collect_gen (φ : Nat → Nat → Rat) : ∀ (l p : List Tm), lin φ (l.foldl (fun p t => insT t p) p) = lin φ p + lin φ l
  | [], p => by simp only [List.foldl_nil, lin]; grind
  | t :: l, p => by rw [List.foldl_cons, collect_gen φ l, lin_insT, lin]; grind
theorem lin_collect (φ : Nat → Nat → Rat) (l : List Tm) : lin φ (collect l) = lin φ l := by
  rw [collect, collect_gen, lin]; grind
theorem collect_dif_gen : ∀ (l : List Tm) {p : List Tm}, dif p → dif (l.foldl (fun p t => insT t p) p)
  | [], p, h => h
  | t :: l, p, h => by rw [List.foldl_cons]; exact collect_dif_gen l (insT_dif t h)
theorem collect_dif (l : List Tm) : dif (collect l) := collect_dif_gen l List.Pairwise.nil
theorem collect_mem_gen {u : Tm} : ∀ (l : List Tm) {p : List Tm}, u ∈ l.foldl (fun p t => insT t p) p → u ∈ p ∨ ∃ t ∈ l, same u t
  | [], p, h => .inl h
  | t :: l, p, h => by
    rw [List.foldl_cons] at h
    rcases collect_mem_gen l h with h1 | ⟨s, hs, h1⟩
    · rcases insT_mem h1 with h2 | h2
      · exact .inr ⟨t, List.mem_cons_self, h2⟩
      · exact .inl h2
    · exact .inr ⟨s, List.mem_cons_of_mem _ hs, h1⟩
theorem collect_mem {l : List Tm} {u : Tm} (h : u ∈ collect l) : ∃ t ∈ l, same u t := by
  rcases collect_mem_gen l h with h | h
  · cases h
  · exact h
theorem collect_len_gen : ∀ (l p : List Tm), (l.foldl (fun p t => insT t p) p).length ≤ p.length + l.length
  | [], p => Nat.le_refl _
  | t :: l, p => by rw [List.foldl_cons]; have := collect_len_gen l (insT t p); have := insT_len t p; simp only [List.length_cons]; omega
theorem collect_len (l : List Tm) : (collect l).length ≤ l.length := by have := collect_len_gen l []; simpa [collect] using this

/-- The order of the powers: by degree, then by the exponent of y. -/
def ltT (s t : Tm) : Bool := decide (s.i + s.j < t.i + t.j ∨ (s.i + s.j = t.i + t.j ∧ s.j < t.j))
theorem ltT_iff (s t : Tm) : ltT s t = true ↔ (s.i + s.j < t.i + t.j ∨ (s.i + s.j = t.i + t.j ∧ s.j < t.j)) := decide_eq_true_iff
theorem ltT_irrefl (s : Tm) : ltT s s = false := by rw [Bool.eq_false_iff, Ne, ltT_iff]; omega
theorem ltT_trans {s t u : Tm} (h1 : ltT s t = true) (h2 : ltT t u = true) : ltT s u = true := by rw [ltT_iff] at *; omega
theorem ltT_ntrans {s t u : Tm} (h1 : ltT s t = false) (h2 : ltT t u = false) : ltT s u = false := by rw [Bool.eq_false_iff, Ne, ltT_iff] at *; omega
theorem ltT_total {s t : Tm} (h1 : ltT s t = false) (h2 : ltT t s = false) : same s t := by
  rw [Bool.eq_false_iff, Ne, ltT_iff] at *; unfold same; omega
/-- A normal form: no coefficient 0, the powers ascend. -/
def Nrm (p : List Tm) : Prop := (∀ t ∈ p, t.c ≠ 0) ∧ p.Pairwise (fun s t => ltT s t = true)
def norm (l : List Tm) : List Tm := ((collect l).filter (fun t => decide (t.c ≠ 0))).mergeSort (fun s t => !ltT t s)
theorem lin_filter (φ : Nat → Nat → Rat) : ∀ l : List Tm, lin φ (l.filter (fun t => decide (t.c ≠ 0))) = lin φ l
  | [] => rfl
  | t :: l => by
    rw [List.filter_cons]
    split
    · rw [lin, lin, lin_filter φ l]
    · rename_i h
      have h0 : t.c = 0 := by simpa using h
      rw [lin, lin_filter φ l, h0]; grind
theorem lin_norm (φ : Nat → Nat → Rat) (l : List Tm) : lin φ (norm l) = lin φ l := by
  rw [norm, lin_perm φ (List.mergeSort_perm _ _), lin_filter, lin_collect]
theorem norm_mem {l : List Tm} {u : Tm} (h : u ∈ norm l) : u ∈ collect l ∧ u.c ≠ 0 := by
  have := (List.mergeSort_perm _ _).mem_iff.1 h
  rw [List.mem_filter] at this
  exact ⟨this.1, by simpa using this.2⟩
theorem norm_nrm (l : List Tm) : Nrm (norm l) := by
  refine ⟨fun t ht => (norm_mem ht).2, ?_⟩
  have hd : dif (norm l) := by
    have h1 : dif ((collect l).filter (fun t => decide (t.c ≠ 0))) := List.Pairwise.filter _ (collect_dif l)
    refine (List.Perm.pairwise_iff (fun {x y} h h2 => h ⟨h2.1.symm, h2.2.symm⟩) (List.mergeSort_perm _ _)).2 h1
  have hs := List.pairwise_mergeSort (le := fun s t => !ltT t s) (fun a b c h1 h2 => by
      simp only [Bool.not_eq_true'] at *
      exact ltT_ntrans h2 h1) (fun a b => by
      rcases h : ltT b a with _ | _
      · simp
      · have : ltT a b = false := by rw [Bool.eq_false_iff]; intro h2; have := ltT_trans h h2; rw [ltT_irrefl] at this; cases this
        simp [this]) ((collect l).filter (fun t => decide (t.c ≠ 0)))
  refine List.Pairwise.imp₂ (fun s t h1 h2 => ?_) hs hd
  rcases h : ltT s t with _ | _
  · exact absurd (ltT_total h (by simpa using h1)) h2
  · rfl
/-- The coefficient's weight. -/
def at0 (a b : Nat) : Nat → Nat → Rat := fun i j => if i = a ∧ j = b then 1 else 0
theorem lin_at0_none {a b : Nat} : ∀ {l : List Tm}, (∀ t ∈ l, ¬ (t.i = a ∧ t.j = b)) → lin (at0 a b) l = 0
  | [], _ => rfl
  | t :: l, h => by
    rw [lin, lin_at0_none (fun s hs => h s (List.mem_cons_of_mem _ hs)), at0, if_neg (h t List.mem_cons_self)]; grind
theorem nrm_tail {t : Tm} {p : List Tm} (h : Nrm (t :: p)) : Nrm p := ⟨fun s hs => h.1 s (List.mem_cons_of_mem _ hs), (List.pairwise_cons.1 h.2).2⟩
theorem nrm_head {t : Tm} {p : List Tm} (h : Nrm (t :: p)) : lin (at0 t.i t.j) (t :: p) = t.c := by
  rw [lin, lin_at0_none (fun s hs => ?_), at0, if_pos ⟨rfl, rfl⟩]
  · grind
  · have := (List.pairwise_cons.1 h.2).1 s hs
    rw [ltT_iff] at this; omega
theorem nrm_less {s t : Tm} {q : List Tm} (h : ltT s t = true) (hq : Nrm (t :: q)) : lin (at0 s.i s.j) (t :: q) = 0 := by
  refine lin_at0_none (fun u hu => ?_)
  have hu' : ltT s u = true := by
    rcases List.mem_cons.1 hu with rfl | hu
    · exact h
    · exact ltT_trans h ((List.pairwise_cons.1 hq.2).1 u hu)
  rw [ltT_iff] at hu'; omega
/-- A normal form is known by its sums. -/
theorem nrm_ext : ∀ {p q : List Tm}, Nrm p → Nrm q → (∀ φ, lin φ p = lin φ q) → p = q
  | [], [], _, _, _ => rfl
  | [], t :: q, _, hq, h => by
    have h1 := h (at0 t.i t.j)
    rw [nrm_head hq, lin_nil] at h1
    exact absurd h1.symm (hq.1 t List.mem_cons_self)
  | s :: p, [], hp, _, h => by
    have h1 := h (at0 s.i s.j)
    rw [nrm_head hp, lin_nil] at h1
    exact absurd h1 (hp.1 s List.mem_cons_self)
  | s :: p, t :: q, hp, hq, h => by
    have hst : same s t := by
      refine ltT_total ?_ ?_
      · rw [Bool.eq_false_iff]; intro hc
        have h1 := h (at0 s.i s.j)
        rw [nrm_head hp, nrm_less hc hq] at h1
        exact hp.1 s List.mem_cons_self h1
      · rw [Bool.eq_false_iff]; intro hc
        have h1 := h (at0 t.i t.j)
        rw [nrm_head hq, nrm_less hc hp] at h1
        exact hq.1 t List.mem_cons_self h1.symm
    have hc : s.c = t.c := by
      have h1 := h (at0 s.i s.j)
      rw [nrm_head hp, hst.1, hst.2, nrm_head hq] at h1
      exact h1
    have e := Tm.ext' hst.1 hst.2 hc
    subst e
    rw [nrm_ext (nrm_tail hp) (nrm_tail hq) (fun φ => by have := h φ; rw [lin, lin] at this; grind)]
theorem norm_eq {l m : List Tm} (h : ∀ φ, lin φ l = lin φ m) : norm l = norm m :=
  nrm_ext (norm_nrm l) (norm_nrm m) (fun φ => by rw [lin_norm, lin_norm, h])
theorem norm_id {p : List Tm} (h : Nrm p) : norm p = p := nrm_ext (norm_nrm p) h (fun φ => lin_norm φ p)
theorem norm_norm (l : List Tm) : norm (norm l) = norm l := norm_id (norm_nrm l)

end
section

/-! ### Values -/
theorem qpow_add (x : Rat) (m : Nat) : ∀ n : Nat, x ^ (m + n) = x ^ m * x ^ n
  | 0 => by rw [Nat.add_zero, Rat.pow_zero]; grind
  | n + 1 => by rw [← Nat.add_assoc, Rat.pow_succ, Rat.pow_succ, qpow_add x m n]; grind
theorem qmul_pow (x y : Rat) : ∀ n : Nat, (x * y) ^ n = x ^ n * y ^ n
  | 0 => by rw [Rat.pow_zero, Rat.pow_zero, Rat.pow_zero]; grind
  | n + 1 => by rw [Rat.pow_succ, Rat.pow_succ, Rat.pow_succ, qmul_pow x y n]; grind
theorem qone_pow : ∀ n : Nat, (1 : Rat) ^ n = 1
  | 0 => Rat.pow_zero _
  | n + 1 => by rw [Rat.pow_succ, qone_pow n]; grind
def evP (l : List Tm) (x y : Rat) : Rat := lin (fun i j => x ^ i * y ^ j) l
def mulL (a b : List Tm) : List Tm := a.flatMap (fun s => b.map (fun t => ⟨s.i + t.i, s.j + t.j, s.c * t.c⟩))
theorem lin_mulL (φ : Nat → Nat → Rat) (a b : List Tm) : lin φ (mulL a b) = lin (fun i j => lin (fun p q => φ (i + p) (j + q)) b) a := by
  unfold mulL
  refine lin_flatMap φ _ _ a (fun s _ => ?_)
  rw [lin_map φ _ (fun p q => s.c * φ (s.i + p) (s.j + q)) b (fun t _ => by simp only; grind), lin_smul]
theorem ev_mulL (a b : List Tm) (x y : Rat) : evP (mulL a b) x y = evP a x y * evP b x y := by
  unfold evP
  rw [lin_mulL, ← lin_mulr]
  refine lin_congr (fun s _ => ?_)
  rw [← lin_smul]
  refine lin_congr (fun t _ => ?_)
  rw [qpow_add, qpow_add]; grind
def powL (p : List Tm) : Nat → List Tm
  | 0 => [⟨0, 0, 1⟩]
  | n + 1 => mulL (powL p n) p
theorem ev_powL (p : List Tm) (x y : Rat) : ∀ n, evP (powL p n) x y = evP p x y ^ n
  | 0 => by rw [powL, evP, lin, lin, Rat.pow_zero, Rat.pow_zero, Rat.pow_zero]; grind
  | n + 1 => by rw [powL, ev_mulL, ev_powL p x y n, Rat.pow_succ]
theorem ev_append (l m : List Tm) (x y : Rat) : evP (l ++ m) x y = evP l x y + evP m x y := lin_append _ _ _
def scaleL (c : Rat) (l : List Tm) : List Tm := l.map (fun t => ⟨t.i, t.j, c * t.c⟩)
theorem lin_scaleL (φ : Nat → Nat → Rat) (c : Rat) (l : List Tm) : lin φ (scaleL c l) = c * lin φ l := by
  unfold scaleL
  rw [← lin_smul]
  exact lin_map φ _ _ l (fun t _ => by simp only; grind)
theorem ev_scaleL (c : Rat) (l : List Tm) (x y : Rat) : evP (scaleL c l) x y = c * evP l x y := lin_scaleL _ _ _
/-- Polynomials put for x and y. -/
def sbL (X Y : List Tm) (l : List Tm) : List Tm := l.flatMap (fun t => scaleL t.c (mulL (powL X t.i) (powL Y t.j)))
theorem lin_sbL (φ : Nat → Nat → Rat) (X Y l : List Tm) : lin φ (sbL X Y l) = lin (fun i j => lin φ (mulL (powL X i) (powL Y j))) l := by
  unfold sbL
  exact lin_flatMap φ _ _ l (fun t _ => by rw [lin_scaleL])
theorem ev_sbL (X Y l : List Tm) (x y : Rat) : evP (sbL X Y l) x y = evP l (evP X x y) (evP Y x y) := by
  unfold evP
  rw [lin_sbL]
  refine lin_congr (fun t _ => ?_)
  have := ev_mulL (powL X t.i) (powL Y t.j) x y
  rw [ev_powL, ev_powL] at this
  exact this
def dxL (l : List Tm) : List Tm := l.map (fun t => ⟨t.i - 1, t.j, t.c * ((t.i : Int) : Rat)⟩)
def dyL (l : List Tm) : List Tm := l.map (fun t => ⟨t.i, t.j - 1, t.c * ((t.j : Int) : Rat)⟩)
theorem lin_dxL (φ : Nat → Nat → Rat) (l : List Tm) : lin φ (dxL l) = lin (fun i j => ((i : Int) : Rat) * φ (i - 1) j) l :=
  lin_map φ _ _ l (fun t _ => by simp only; grind)
theorem lin_dyL (φ : Nat → Nat → Rat) (l : List Tm) : lin φ (dyL l) = lin (fun i j => ((j : Int) : Rat) * φ i (j - 1)) l :=
  lin_map φ _ _ l (fun t _ => by simp only; grind)
theorem cast_add (a b : Nat) : (((a + b : Nat) : Int) : Rat) = ((a : Int) : Rat) + ((b : Int) : Rat) := by
  rw [Int.natCast_add, Rat.intCast_add]
theorem cast_zero : (((0 : Nat) : Int) : Rat) = 0 := rfl
theorem cast_one : (((1 : Nat) : Int) : Rat) = 1 := rfl
/-- The rule of products. -/
theorem lin_dx_mulL (φ : Nat → Nat → Rat) (a b : List Tm) : lin φ (dxL (mulL a b)) = lin φ (mulL (dxL a) b) + lin φ (mulL a (dxL b)) := by
  rw [lin_dxL, lin_mulL, lin_mulL, lin_mulL, lin_dxL, ← lin_add]
  refine lin_congr (fun s _ => ?_)
  rw [lin_dxL, ← lin_smul, ← lin_add]
  refine lin_congr (fun t _ => ?_)
  rw [cast_add]
  rcases hs : s.i with _ | m <;> rcases ht : t.i with _ | n
  · simp only [cast_zero]; grind
  · rw [cast_zero]; simp only [Nat.zero_add, Nat.add_sub_cancel]; grind
  · rw [cast_zero]; simp only [Nat.add_zero, Nat.add_sub_cancel]; grind
  · rw [show m + 1 + (n + 1) - 1 = m + n + 1 by omega, show m + 1 - 1 + (n + 1) = m + n + 1 by omega, show m + 1 + (n + 1 - 1) = m + n + 1 by omega]; grind
theorem lin_dy_mulL (φ : Nat → Nat → Rat) (a b : List Tm) : lin φ (dyL (mulL a b)) = lin φ (mulL (dyL a) b) + lin φ (mulL a (dyL b)) := by
  rw [lin_dyL, lin_mulL, lin_mulL, lin_mulL, lin_dyL, ← lin_add]
  refine lin_congr (fun s _ => ?_)
  rw [lin_dyL, ← lin_smul, ← lin_add]
  refine lin_congr (fun t _ => ?_)
  rw [cast_add]
  rcases hs : s.j with _ | m <;> rcases ht : t.j with _ | n
  · simp only [cast_zero]; grind
  · rw [cast_zero]; simp only [Nat.zero_add, Nat.add_sub_cancel]; grind
  · rw [cast_zero]; simp only [Nat.add_zero, Nat.add_sub_cancel]; grind
  · rw [show m + 1 + (n + 1) - 1 = m + n + 1 by omega, show m + 1 - 1 + (n + 1) = m + n + 1 by omega, show m + 1 + (n + 1 - 1) = m + n + 1 by omega]; grind
theorem lin_mul_comm (φ : Nat → Nat → Rat) (a b : List Tm) : lin φ (mulL a b) = lin φ (mulL b a) := by
  rw [lin_mulL, lin_mulL, lin_swap]
  exact lin_congr (fun s _ => lin_congr (fun t _ => by rw [Nat.add_comm t.i, Nat.add_comm t.j]))
theorem lin_mul_assoc (φ : Nat → Nat → Rat) (a b c : List Tm) : lin φ (mulL (mulL a b) c) = lin φ (mulL a (mulL b c)) := by
  rw [lin_mulL, lin_mulL, lin_mulL]
  refine lin_congr (fun s _ => ?_)
  rw [lin_mulL]
  exact lin_congr (fun t _ => lin_congr (fun u _ => by rw [Nat.add_assoc, Nat.add_assoc]))
/-- What is equal in all sums may be put for one another in products. -/
def Eqv (l m : List Tm) : Prop := ∀ φ, lin φ l = lin φ m
theorem Eqv.rfl' {l : List Tm} : Eqv l l := fun _ => rfl
theorem Eqv.symm {l m : List Tm} (h : Eqv l m) : Eqv m l := fun φ => (h φ).symm
theorem Eqv.trans {l m k : List Tm} (h : Eqv l m) (h2 : Eqv m k) : Eqv l k := fun φ => (h φ).trans (h2 φ)
theorem Eqv.nrm (l : List Tm) : Eqv (norm l) l := fun φ => lin_norm φ l
theorem Eqv.mul {a b a' b' : List Tm} (h : Eqv a a') (h2 : Eqv b b') : Eqv (mulL a b) (mulL a' b') := fun φ => by
  rw [lin_mulL, lin_mulL, h]
  exact lin_congr (fun s _ => h2 _)
theorem Eqv.append {a b a' b' : List Tm} (h : Eqv a a') (h2 : Eqv b b') : Eqv (a ++ b) (a' ++ b') := fun φ => by rw [lin_append, lin_append, h, h2]
theorem Eqv.scale {a a' : List Tm} (c : Rat) (h : Eqv a a') : Eqv (scaleL c a) (scaleL c a') := fun φ => by rw [lin_scaleL, lin_scaleL, h]
theorem Eqv.dx {a a' : List Tm} (h : Eqv a a') : Eqv (dxL a) (dxL a') := fun φ => by rw [lin_dxL, lin_dxL, h]
theorem Eqv.dy {a a' : List Tm} (h : Eqv a a') : Eqv (dyL a) (dyL a') := fun φ => by rw [lin_dyL, lin_dyL, h]
theorem Eqv.pow {a a' : List Tm} (h : Eqv a a') : ∀ n, Eqv (powL a n) (powL a' n)
  | 0 => Eqv.rfl'
  | n + 1 => (Eqv.pow h n).mul h
theorem Eqv.sub {X Y l X' Y' l' : List Tm} (hX : Eqv X X') (hY : Eqv Y Y') (h : Eqv l l') : Eqv (sbL X Y l) (sbL X' Y' l') := fun φ => by
  rw [lin_sbL, lin_sbL, h]
  exact lin_congr (fun s _ => ((hX.pow _).mul (hY.pow _)) φ)
theorem Eqv.val {l m : List Tm} (h : Eqv l m) (x y : Rat) : evP l x y = evP m x y := h _
theorem Eqv.eq {l m : List Tm} (h : Eqv l m) : norm l = norm m := norm_eq h
/-! ### Known by its values -/
/-- The sum of a k x^k for k below n. -/
def pv (a : Nat → Rat) (x : Rat) : Nat → Rat
  | 0 => 0
  | n + 1 => pv a x n + a n * x ^ n
theorem pv_scale (a : Nat → Rat) (x c d : Rat) : ∀ n, pv a (c * x) n - d * pv a x n = pv (fun k => a k * (c ^ k - d)) x n
  | 0 => by simp only [pv]; grind
  | n + 1 => by
    have h := pv_scale a x c d n
    have e : (c * x) ^ n = c ^ n * x ^ n := qmul_pow c x n
    simp only [pv, e]; grind
theorem two_pow_lt : ∀ k n : Nat, k < n → (2 : Rat) ^ k - 2 ^ n ≠ 0 := by
  have hp : ∀ k : Nat, (0 : Rat) < 2 ^ k := fun k => by
    induction k with
    | zero => rw [Rat.pow_zero]; decide
    | succ k ih => rw [Rat.pow_succ]; grind
  have key : ∀ k d : Nat, (2 : Rat) ^ k < 2 ^ (k + d + 1) := fun k d => by
    induction d with
    | zero => rw [Rat.pow_succ]; have := hp k; have e : (2 : Rat) ^ (k + 0) = 2 ^ k := rfl; grind
    | succ d ih =>
      have h2 := hp (k + d + 1)
      rw [show k + (d + 1) + 1 = (k + d + 1) + 1 by omega, Rat.pow_succ]; grind
  intro k n h
  have := key k (n - k - 1)
  rw [show k + (n - k - 1) + 1 = n by omega] at this
  grind
theorem pv_zero : ∀ (n : Nat) (a : Nat → Rat), (∀ x, pv a x n = 0) → ∀ k, k < n → a k = 0
  | 0, _, _, k, hk => absurd hk (Nat.not_lt_zero _)
  | n + 1, a, h, k, hk => by
    have hb : ∀ x, pv (fun k => a k * (2 ^ k - 2 ^ n)) x n = 0 := fun x => by
      rw [← pv_scale a x 2 (2 ^ n) n]
      have h1 := h (2 * x)
      have h2 := h x
      rw [pv] at h1 h2
      have e : (2 * x) ^ n = 2 ^ n * x ^ n := qmul_pow 2 x n
      rw [e] at h1
      grind
    have low : ∀ k, k < n → a k = 0 := fun k hk => by
      have h1 := pv_zero n _ hb k hk
      rcases Rat.mul_eq_zero.1 h1 with h2 | h2
      · exact h2
      · exact absurd h2 (two_pow_lt k n hk)
    rcases Nat.lt_or_ge k n with h1 | h1
    · exact low k h1
    · have e : k = n := by omega
      subst e
      have z : ∀ m, m ≤ k → pv a 1 m = 0 := fun m => by
        induction m with
        | zero => intro _; rfl
        | succ m ih => intro hm; rw [pv, ih (by omega), low m (by omega)]; grind
      have h1 := h 1
      rw [pv, z k (Nat.le_refl _)] at h1
      have e1 : (1 : Rat) ^ k = 1 := qone_pow k
      rw [e1] at h1
      grind
theorem pv_add (a b : Nat → Rat) (x : Rat) : ∀ n, pv (fun k => a k + b k) x n = pv a x n + pv b x n
  | 0 => by simp only [pv]; grind
  | n + 1 => by simp only [pv, pv_add a b x n]; grind
theorem pv_congr {a b : Nat → Rat} (x : Rat) : ∀ {n}, (∀ k, k < n → a k = b k) → pv a x n = pv b x n
  | 0, _ => rfl
  | n + 1, h => by rw [pv, pv, h n (Nat.lt_succ_self _), pv_congr x (fun k hk => h k (Nat.lt_succ_of_lt hk))]
theorem pv_none {a : Nat → Rat} (x : Rat) : ∀ {n}, (∀ k, k < n → a k = 0) → pv a x n = 0
  | 0, _ => rfl
  | n + 1, h => by rw [pv, h n (Nat.lt_succ_self _), pv_none x (fun k hk => h k (Nat.lt_succ_of_lt hk))]; grind
theorem pv_one {a : Nat → Rat} (x : Rat) (m : Nat) : ∀ {n}, m < n → (∀ k, k ≠ m → a k = 0) → pv a x n = a m * x ^ m
  | 0, h, _ => absurd h (Nat.not_lt_zero _)
  | n + 1, h, h2 => by
    rw [pv]
    rcases Nat.lt_or_ge m n with h3 | h3
    · rw [pv_one x m h3 h2, h2 n (by omega)]; grind
    · have e : m = n := by omega
      subst e
      rw [pv_none x (fun k hk => h2 k (by omega))]; grind
/-- The largest exponent, and 1. -/
def topE : List Tm → Nat
  | [] => 0
  | t :: l => max (max (t.i + 1) (t.j + 1)) (topE l)
theorem top_mem {t : Tm} : ∀ {l : List Tm}, t ∈ l → t.i < topE l ∧ t.j < topE l
  | s :: l, h => by
    rw [topE]
    rcases List.mem_cons.1 h with rfl | h
    · omega
    · have := top_mem h; omega
theorem ev_pv (x y : Rat) (n : Nat) : ∀ l : List Tm, (∀ t ∈ l, t.i < n ∧ t.j < n) → evP l x y = pv (fun i => pv (fun j => lin (at0 i j) l) y n) x n
  | [], _ => by
    exact (pv_none x (fun k _ => pv_none y (fun m _ => rfl))).symm
  | t :: l, h => by
    have ih := ev_pv x y n l (fun s hs => h s (List.mem_cons_of_mem _ hs))
    have ht := h t List.mem_cons_self
    have e : (fun i => pv (fun j => lin (at0 i j) (t :: l)) y n) = (fun i => pv (fun j => t.c * at0 i j t.i t.j) y n + pv (fun j => lin (at0 i j) l) y n) := by
      funext i; rw [← pv_add]; rfl
    rw [e, pv_add, ← ih]
    have e2 : pv (fun i => pv (fun j => t.c * at0 i j t.i t.j) y n) x n = t.c * (x ^ t.i * y ^ t.j) := by
      rw [pv_one x t.i ht.1 (fun k hk => pv_none y (fun m _ => by rw [at0, if_neg (fun hc => hk hc.1.symm)]; grind)),
        pv_one y t.j ht.2 (fun m hm => by rw [at0, if_neg (fun hc => hm hc.2.symm)]; grind), at0, if_pos ⟨rfl, rfl⟩]
      grind
    rw [e2]; rfl
theorem coef_zero {l : List Tm} (h : ∀ x y, evP l x y = 0) (a b : Nat) : lin (at0 a b) l = 0 := by
  by_cases hab : a < topE l ∧ b < topE l
  · have h1 : ∀ y i, i < topE l → pv (fun j => lin (at0 i j) l) y (topE l) = 0 := fun y =>
      pv_zero (topE l) _ (fun x => by rw [← ev_pv x y (topE l) l (fun t ht => top_mem ht), h x y])
    exact pv_zero (topE l) _ (fun y => h1 y a hab.1) b hab.2
  · exact lin_at0_none (fun t ht hc => hab (by have := top_mem ht; rw [hc.1, hc.2] at this; exact this))
theorem eqv_zero {l : List Tm} (h : ∀ a b, lin (at0 a b) l = 0) : ∀ φ, lin φ l = 0 := by
  intro φ
  rw [← lin_norm]
  have hn := norm_nrm l
  rcases hl : norm l with _ | ⟨t, p⟩
  · rfl
  · rw [hl] at hn
    have h1 := nrm_head hn
    rw [← hl, lin_norm, h] at h1
    exact absurd h1.symm (hn.1 t List.mem_cons_self)
theorem Eqv.of_ev {l m : List Tm} (h : ∀ x y, evP l x y = evP m x y) : Eqv l m := by
  have h1 : ∀ x y, evP (l ++ scaleL (-1) m) x y = 0 := fun x y => by rw [ev_append, ev_scaleL, h]; grind
  intro φ
  have := eqv_zero (coef_zero h1) φ
  rw [lin_append, lin_scaleL] at this
  grind

end
section

/-! ### Derivatives of compositions -/
theorem ev_dx_mulL (a b : List Tm) (x y : Rat) : evP (dxL (mulL a b)) x y = evP (dxL a) x y * evP b x y + evP a x y * evP (dxL b) x y := by
  have := lin_dx_mulL (fun i j => x ^ i * y ^ j) a b
  have h1 := ev_mulL (dxL a) b x y
  have h2 := ev_mulL a (dxL b) x y
  unfold evP at *
  rw [this, h1, h2]
theorem ev_dy_mulL (a b : List Tm) (x y : Rat) : evP (dyL (mulL a b)) x y = evP (dyL a) x y * evP b x y + evP a x y * evP (dyL b) x y := by
  have := lin_dy_mulL (fun i j => x ^ i * y ^ j) a b
  have h1 := ev_mulL (dyL a) b x y
  have h2 := ev_mulL a (dyL b) x y
  unfold evP at *
  rw [this, h1, h2]
theorem ev_dx_powL (p : List Tm) (x y : Rat) : ∀ n, evP (dxL (powL p n)) x y = ((n : Int) : Rat) * evP p x y ^ (n - 1) * evP (dxL p) x y
  | 0 => by
    have : dxL (powL p 0) = [⟨0, 0, 1 * (((0 : Nat) : Int) : Rat)⟩] := rfl
    rw [this, evP, lin, lin, cast_zero]; grind
  | n + 1 => by
    rw [powL, ev_dx_mulL, ev_dx_powL p x y n, ev_powL]
    rcases n with _ | n
    · rw [cast_zero, cast_one, Rat.pow_zero]; grind
    · rw [Nat.add_sub_cancel, Nat.add_sub_cancel, cast_add (n + 1) 1, cast_one, Rat.pow_succ]; grind
theorem ev_dy_powL (p : List Tm) (x y : Rat) : ∀ n, evP (dyL (powL p n)) x y = ((n : Int) : Rat) * evP p x y ^ (n - 1) * evP (dyL p) x y
  | 0 => by
    have : dyL (powL p 0) = [⟨0, 0, 1 * (((0 : Nat) : Int) : Rat)⟩] := rfl
    rw [this, evP, lin, lin, cast_zero]; grind
  | n + 1 => by
    rw [powL, ev_dy_mulL, ev_dy_powL p x y n, ev_powL]
    rcases n with _ | n
    · rw [cast_zero, cast_one, Rat.pow_zero]; grind
    · rw [Nat.add_sub_cancel, Nat.add_sub_cancel, cast_add (n + 1) 1, cast_one, Rat.pow_succ]; grind
theorem ev_dxL (l : List Tm) (x y : Rat) : evP (dxL l) x y = lin (fun i j => ((i : Int) : Rat) * (x ^ (i - 1) * y ^ j)) l := lin_dxL _ _
theorem ev_dyL (l : List Tm) (x y : Rat) : evP (dyL l) x y = lin (fun i j => ((j : Int) : Rat) * (x ^ i * y ^ (j - 1))) l := lin_dyL _ _
/-- The chain rule. -/
theorem ev_dx_sbL (X Y p : List Tm) (x y : Rat) : evP (dxL (sbL X Y p)) x y = evP (dxL p) (evP X x y) (evP Y x y) * evP (dxL X) x y + evP (dyL p) (evP X x y) (evP Y x y) * evP (dxL Y) x y := by
  have h0 : evP (dxL (sbL X Y p)) x y = lin (fun i j => evP (dxL (mulL (powL X i) (powL Y j))) x y) p := by
    rw [ev_dxL, lin_sbL]
    exact lin_congr (fun t _ => (ev_dxL _ x y).symm)
  rw [h0, ev_dxL p, ev_dyL p, ← lin_mulr, ← lin_mulr, ← lin_add]
  refine lin_congr (fun t _ => ?_)
  rw [ev_dx_mulL, ev_dx_powL, ev_dx_powL, ev_powL, ev_powL]; grind
theorem ev_dy_sbL (X Y p : List Tm) (x y : Rat) : evP (dyL (sbL X Y p)) x y = evP (dxL p) (evP X x y) (evP Y x y) * evP (dyL X) x y + evP (dyL p) (evP X x y) (evP Y x y) * evP (dyL Y) x y := by
  have h0 : evP (dyL (sbL X Y p)) x y = lin (fun i j => evP (dyL (mulL (powL X i) (powL Y j))) x y) p := by
    rw [ev_dyL, lin_sbL]
    exact lin_congr (fun t _ => (ev_dyL _ x y).symm)
  rw [h0, ev_dxL p, ev_dyL p, ← lin_mulr, ← lin_mulr, ← lin_add]
  refine lin_congr (fun t _ => ?_)
  rw [ev_dy_mulL, ev_dy_powL, ev_dy_powL, ev_powL, ev_powL]; grind
/-- a x + b y + c. -/
def ln (a b c : Rat) : List Tm := [⟨1, 0, a⟩, ⟨0, 1, b⟩, ⟨0, 0, c⟩]
theorem ev_ln (a b c x y : Rat) : evP (ln a b c) x y = a * x + b * y + c := by
  simp only [evP, ln, lin]; rw [Rat.pow_zero, Rat.pow_zero, Rat.pow_succ, Rat.pow_succ, Rat.pow_zero, Rat.pow_zero]; grind
theorem ev_dx_ln (a b c x y : Rat) : evP (dxL (ln a b c)) x y = a := by
  rw [ev_dxL]
  simp only [ln, lin, cast_zero, cast_one]; simp only [Nat.sub_self, Nat.zero_sub]; rw [Rat.pow_zero, Rat.pow_zero]; grind
theorem ev_dy_ln (a b c x y : Rat) : evP (dyL (ln a b c)) x y = b := by
  rw [ev_dyL]
  simp only [ln, lin, cast_zero, cast_one]; simp only [Nat.sub_self, Nat.zero_sub]; rw [Rat.pow_zero, Rat.pow_zero]; grind
/-- An affine substitution. -/
def shL (p : List Tm) (ax bx cx ay by' cy : Rat) : List Tm := sbL (ln ax bx cx) (ln ay by' cy) p
theorem ev_shL (p : List Tm) (ax bx cx ay b cy x y : Rat) : evP (shL p ax bx cx ay b cy) x y = evP p (ax * x + bx * y + cx) (ay * x + b * y + cy) := by
  rw [shL, ev_sbL, ev_ln, ev_ln]
theorem ev_dx_shL (p : List Tm) (ax bx cx ay b cy x y : Rat) : evP (dxL (shL p ax bx cx ay b cy)) x y = evP (dxL p) (ax * x + bx * y + cx) (ay * x + b * y + cy) * ax + evP (dyL p) (ax * x + bx * y + cx) (ay * x + b * y + cy) * ay := by
  rw [shL, ev_dx_sbL, ev_ln, ev_ln, ev_dx_ln, ev_dx_ln]
theorem ev_dy_shL (p : List Tm) (ax bx cx ay b cy x y : Rat) : evP (dyL (shL p ax bx cx ay b cy)) x y = evP (dxL p) (ax * x + bx * y + cx) (ay * x + b * y + cy) * bx + evP (dyL p) (ax * x + bx * y + cx) (ay * x + b * y + cy) * b := by
  rw [shL, ev_dy_sbL, ev_ln, ev_ln, ev_dy_ln, ev_dy_ln]
/-! ### Integrals -/
/-- The integral of x^i from 0 to 1. -/
def lam (i j : Nat) : Rat := ((1 : Int) : Rat) / (((i + 1 : Nat) : Int) : Rat)
theorem cast_ne (n : Nat) : (((n + 1 : Nat) : Int) : Rat) ≠ 0 := fun e => by have := Rat.intCast_eq_zero_iff.1 e; omega
theorem lam_mul (i j : Nat) : (((i + 1 : Nat) : Int) : Rat) * lam i j = 1 := by
  have h := cast_ne i
  have e1 : ((1 : Int) : Rat) = 1 := rfl
  unfold lam; rw [e1]; grind
/-- The integral of a product (1 - x)^i x^j from 0 to 1. -/
def bt : Nat → Nat → Rat
  | 0, j => lam j 0
  | i + 1, j => bt i j - bt i (j + 1)
theorem bt_step : ∀ i j : Nat, (((i + j + 2 : Nat) : Int) : Rat) * bt (i + 1) j = (((i + 1 : Nat) : Int) : Rat) * bt i j ∧ (((i + j + 2 : Nat) : Int) : Rat) * bt i (j + 1) = (((j + 1 : Nat) : Int) : Rat) * bt i j
  | 0, j => by
    have h1 := lam_mul j 0
    have h2 := lam_mul (j + 1) 0
    have n1 := cast_ne j
    have n2 := cast_ne (j + 1)
    have e : (((0 + j + 2 : Nat) : Int) : Rat) = (((j + 1 : Nat) : Int) : Rat) + 1 := by rw [show 0 + j + 2 = (j + 1) + 1 by omega, cast_add, cast_one]
    have e2 : (((j + 1 + 1 : Nat) : Int) : Rat) = (((j + 1 : Nat) : Int) : Rat) + 1 := by rw [cast_add, cast_one]
    rw [e2] at h2 n2
    simp only [bt]
    rw [e, cast_one]
    constructor
    · have : (((j + 1 : Nat) : Int) : Rat) * ((((j + 1 : Nat) : Int) : Rat) + 1) * (lam j 0 - lam (j + 1) 0) = 1 := by grind
      grind
    · grind
  | i + 1, j => by
    obtain ⟨a1, a2⟩ := bt_step i j
    obtain ⟨b1, b2⟩ := bt_step i (j + 1)
    have h1 : bt (i + 1 + 1) j = bt (i + 1) j - bt (i + 1) (j + 1) := rfl
    have h2 : bt (i + 1) j = bt i j - bt i (j + 1) := rfl
    have h3 : bt (i + 1) (j + 1) = bt i (j + 1) - bt i (j + 1 + 1) := rfl
    have c1 : (((i + 1 + j + 2 : Nat) : Int) : Rat) = ((i : Int) : Rat) + ((j : Int) : Rat) + 3 := by
      rw [show i + 1 + j + 2 = i + j + 3 by omega, cast_add, cast_add]; rfl
    have c2 : (((i + j + 2 : Nat) : Int) : Rat) = ((i : Int) : Rat) + ((j : Int) : Rat) + 2 := by rw [cast_add, cast_add]; rfl
    have c3 : (((i + (j + 1) + 2 : Nat) : Int) : Rat) = ((i : Int) : Rat) + ((j : Int) : Rat) + 3 := by
      rw [show i + (j + 1) + 2 = i + j + 3 by omega, cast_add, cast_add]; rfl
    have c4 : (((i + 1 : Nat) : Int) : Rat) = ((i : Int) : Rat) + 1 := by rw [cast_add]; rfl
    have c5 : (((j + 1 : Nat) : Int) : Rat) = ((j : Int) : Rat) + 1 := by rw [cast_add]; rfl
    have c6 : (((i + 1 + 1 : Nat) : Int) : Rat) = ((i : Int) : Rat) + 2 := by rw [show i + 1 + 1 = i + 2 by omega, cast_add]; rfl
    have c7 : (((j + 1 + 1 : Nat) : Int) : Rat) = ((j : Int) : Rat) + 2 := by rw [show j + 1 + 1 = j + 2 by omega, cast_add]; rfl
    rw [c2] at a1 a2
    rw [c3] at b1 b2
    rw [c4] at a1 b1
    rw [c5] at a2
    rw [c7] at b2
    rw [c1, c5, c6, h1]
    constructor <;> grind
/-- The integral over the unit triangle. -/
def mu (i j : Nat) : Rat := bt (i + 1) j / (((i + 1 : Nat) : Int) : Rat)
theorem mu_bt (i j : Nat) : (((i + 1 : Nat) : Int) : Rat) * mu i j = bt (i + 1) j := by
  have h := cast_ne i
  unfold mu; grind
theorem mu_bt2 (i j : Nat) : (((j + 1 : Nat) : Int) : Rat) * mu i j = bt i (j + 1) := by
  obtain ⟨a1, a2⟩ := bt_step i j
  have h1 := mu_bt i j
  have n0 := cast_ne i
  have n1 := cast_ne (i + j + 1)
  have e : (((i + j + 2 : Nat) : Int) : Rat) ≠ 0 := n1
  grind
/-! ### Substitutions that depend on x alone -/
def W1 : List Tm := [⟨0, 0, 1⟩, ⟨1, 0, -1⟩]
def X1 : List Tm := [⟨1, 0, 1⟩]
theorem ev_W1 (x y : Rat) : evP W1 x y = 1 - x := by
  simp only [evP, W1, lin]; rw [Rat.pow_zero, Rat.pow_zero, Rat.pow_succ, Rat.pow_zero]; grind
theorem ev_X1 (x y : Rat) : evP X1 x y = x := by
  simp only [evP, X1, lin]; rw [Rat.pow_zero, Rat.pow_succ, Rat.pow_zero]; grind
theorem ev_nil (x y : Rat) : evP [] x y = 0 := rfl
theorem ev_single (i : Nat) (c x y : Rat) : evP [⟨i, 0, c⟩] x y = c * x ^ i := by
  simp only [evP, lin]; rw [Rat.pow_zero]; grind
theorem lin_beta : ∀ i j : Nat, lin lam (mulL (powL W1 i) (powL X1 j)) = bt i j
  | 0, j => by
    have h : Eqv (mulL (powL W1 0) (powL X1 j)) [⟨j, 0, 1⟩] := Eqv.of_ev (fun x y => by
      rw [ev_mulL, ev_powL, ev_powL, ev_X1, ev_single, Rat.pow_zero])
    rw [h lam]; simp only [lin, bt]
    have : lam j 0 = lam j 0 := rfl
    grind
  | i + 1, j => by
    have h : Eqv (mulL (powL W1 (i + 1)) (powL X1 j)) (mulL (powL W1 i) (powL X1 j) ++ scaleL (-1) (mulL (powL W1 i) (powL X1 (j + 1)))) := Eqv.of_ev (fun x y => by
      rw [ev_append, ev_scaleL, ev_mulL, ev_mulL, ev_mulL, ev_powL, ev_powL, ev_powL, ev_powL, ev_X1, ev_W1, Rat.pow_succ, Rat.pow_succ]; grind)
    rw [h lam, lin_append, lin_scaleL, lin_beta i j, lin_beta i (j + 1), bt]; grind
theorem lin_left (i j : Nat) : lin lam (mulL (powL [] i) (powL X1 j)) = if i = 0 then lam j 0 else 0 := by
  split
  · rename_i h; subst h
    have h : Eqv (mulL (powL [] 0) (powL X1 j)) [⟨j, 0, 1⟩] := Eqv.of_ev (fun x y => by
      rw [ev_mulL, ev_powL, ev_powL, ev_X1, ev_single, Rat.pow_zero])
    rw [h lam]; simp only [lin]
    have : lam j 0 = lam j 0 := rfl
    grind
  · rename_i h
    obtain ⟨k, rfl⟩ : ∃ k, i = k + 1 := ⟨i - 1, by omega⟩
    have h : Eqv (mulL (powL [] (k + 1)) (powL X1 j)) [] := Eqv.of_ev (fun x y => by
      rw [ev_mulL, ev_powL, ev_nil, Rat.pow_succ]; show 0 ^ k * 0 * _ = (0 : Rat); grind)
    rw [h lam]; rfl
theorem lin_bot (i j : Nat) : lin lam (mulL (powL X1 i) (powL [] j)) = if j = 0 then lam i 0 else 0 := by
  rw [lin_mul_comm, lin_left]
/-- The integrals over the unit triangle of derivatives, as integrals along its sides. -/
theorem unit_dx (G : List Tm) : lin mu (dxL G) = lin lam (sbL W1 X1 G) - lin lam (sbL [] X1 G) := by
  rw [lin_dxL, lin_sbL, lin_sbL, ← lin_sub]
  refine lin_congr (fun t _ => ?_)
  rw [lin_beta, lin_left]
  split
  · rename_i h; rw [h, cast_zero, bt]; grind
  · rename_i h
    obtain ⟨k, hk⟩ : ∃ k, t.i = k + 1 := ⟨t.i - 1, by omega⟩
    rw [hk, Nat.add_sub_cancel, mu_bt]; grind
theorem unit_dy (G : List Tm) : lin mu (dyL G) = lin lam (sbL W1 X1 G) - lin lam (sbL X1 [] G) := by
  rw [lin_dyL, lin_sbL, lin_sbL, ← lin_sub]
  refine lin_congr (fun t _ => ?_)
  rw [lin_beta, lin_bot]
  split
  · rename_i h
    rw [h, cast_zero]
    have : ∀ i, bt i 0 = lam i 0 := fun i => by
      have h1 := lam_mul i 0
      have n1 := cast_ne i
      have h2 : ∀ i, (((i + 1 : Nat) : Int) : Rat) * bt i 0 = 1 := fun i => by
        induction i with
        | zero => exact lam_mul 0 0
        | succ i ih =>
          have h3 := (bt_step i 0).1
          rw [ih] at h3
          exact h3
      have h3 := h2 i
      grind
    rw [this]; grind
  · rename_i h
    obtain ⟨k, hk⟩ : ∃ k, t.j = k + 1 := ⟨t.j - 1, by omega⟩
    rw [hk, Nat.add_sub_cancel, mu_bt2]; grind
/-- A point. -/
abbrev Pt := Rat × Rat
def twQ (a b c : Pt) : Rat := (b.1 - a.1) * (c.2 - a.2) - (c.1 - a.1) * (b.2 - a.2)
def segQ (p : List Tm) (a b : Pt) : Rat := lin lam (shL p (b.1 - a.1) 0 a.1 (b.2 - a.2) 0 a.2)
def triQ (p : List Tm) (a b c : Pt) : Rat := twQ a b c * lin mu (shL p (b.1 - a.1) (c.1 - a.1) a.1 (b.2 - a.2) (c.2 - a.2) a.2)
def flowQ (g h : List Tm) (a b : Pt) : Rat := (b.2 - a.2) * segQ g a b - (b.1 - a.1) * segQ h a b
theorem segQ_of (p r : List Tm) (a b : Pt) (h : ∀ x y, evP r x y = evP p ((b.1 - a.1) * x + a.1) ((b.2 - a.2) * x + a.2)) : lin lam r = segQ p a b :=
  (Eqv.of_ev (fun x y => by rw [h, ev_shL]; congr 1 <;> grind) : Eqv r _) lam
theorem tri_sides (g : List Tm) (a b c : Pt) :
    lin mu (dxL (shL g (b.1 - a.1) (c.1 - a.1) a.1 (b.2 - a.2) (c.2 - a.2) a.2)) = segQ g b c - segQ g a c ∧
    lin mu (dyL (shL g (b.1 - a.1) (c.1 - a.1) a.1 (b.2 - a.2) (c.2 - a.2) a.2)) = segQ g b c - segQ g a b := by
  rw [unit_dx, unit_dy]
  rw [segQ_of g (sbL W1 X1 _) b c (fun x y => by rw [ev_sbL, ev_shL, ev_W1, ev_X1]; congr 1 <;> grind),
    segQ_of g (sbL [] X1 _) a c (fun x y => by rw [ev_sbL, ev_shL, ev_nil, ev_X1]; congr 1 <;> grind),
    segQ_of g (sbL X1 [] _) a b (fun x y => by rw [ev_sbL, ev_shL, ev_nil, ev_X1]; congr 1 <;> grind)]
  exact ⟨rfl, rfl⟩
theorem tri_chain (g : List Tm) (φ : Nat → Nat → Rat) (ax bx cx ay b cy : Rat) :
    lin φ (dxL (shL g ax bx cx ay b cy)) = ax * lin φ (shL (dxL g) ax bx cx ay b cy) + ay * lin φ (shL (dyL g) ax bx cx ay b cy) ∧
    lin φ (dyL (shL g ax bx cx ay b cy)) = bx * lin φ (shL (dxL g) ax bx cx ay b cy) + b * lin φ (shL (dyL g) ax bx cx ay b cy) := by
  have h1 : Eqv (dxL (shL g ax bx cx ay b cy)) (scaleL ax (shL (dxL g) ax bx cx ay b cy) ++ scaleL ay (shL (dyL g) ax bx cx ay b cy)) := Eqv.of_ev (fun x y => by
    rw [ev_dx_shL, ev_append, ev_scaleL, ev_scaleL, ev_shL, ev_shL]; grind)
  have h2 : Eqv (dyL (shL g ax bx cx ay b cy)) (scaleL bx (shL (dxL g) ax bx cx ay b cy) ++ scaleL b (shL (dyL g) ax bx cx ay b cy)) := Eqv.of_ev (fun x y => by
    rw [ev_dy_shL, ev_append, ev_scaleL, ev_scaleL, ev_shL, ev_shL]; grind)
  rw [h1 φ, h2 φ, lin_append, lin_append, lin_scaleL, lin_scaleL, lin_scaleL, lin_scaleL]
  exact ⟨rfl, rfl⟩
/-- The direction of a segment plays no part. -/
theorem segQ_symm (p : List Tm) (a b : Pt) : segQ p a b = segQ p b a := by
  have h1 := (tri_sides p a b b).1
  have h2 := (tri_sides p a b b).2
  have h3 := (tri_sides p b a a).1
  have h4 := (tri_sides p a b a).1
  have h5 := (tri_sides p a b a).2
  have h6 := (tri_sides p b a b).1
  have h7 := (tri_sides p b a b).2
  have c1 := (tri_chain p mu (b.1 - a.1) (a.1 - a.1) a.1 (b.2 - a.2) (a.2 - a.2) a.2)
  obtain ⟨c1, c2⟩ := c1
  grind

end
section

theorem triQ_eqv {p q : List Tm} (h : Eqv p q) (a b c : Pt) : triQ p a b c = triQ q a b c := by
  unfold triQ shL; rw [(Eqv.sub Eqv.rfl' Eqv.rfl' h) mu]
theorem segQ_eqv {p q : List Tm} (h : Eqv p q) (a b : Pt) : segQ p a b = segQ q a b := by
  unfold segQ shL; rw [(Eqv.sub Eqv.rfl' Eqv.rfl' h) lam]
theorem gauss_x (g : List Tm) (a b c : Pt) : triQ (dxL g) a b c = (b.2 - a.2) * segQ g a b + (c.2 - b.2) * segQ g b c + (a.2 - c.2) * segQ g c a := by
  have h1 := (tri_sides g a b c).1
  have h2 := (tri_sides g a b c).2
  obtain ⟨c1, c2⟩ := tri_chain g mu (b.1 - a.1) (c.1 - a.1) a.1 (b.2 - a.2) (c.2 - a.2) a.2
  have h3 := segQ_symm g c a
  unfold triQ twQ
  grind
theorem gauss_y (g : List Tm) (a b c : Pt) : triQ (dyL g) a b c = -((b.1 - a.1) * segQ g a b + (c.1 - b.1) * segQ g b c + (a.1 - c.1) * segQ g c a) := by
  have h1 := (tri_sides g a b c).1
  have h2 := (tri_sides g a b c).2
  obtain ⟨c1, c2⟩ := tri_chain g mu (b.1 - a.1) (c.1 - a.1) a.1 (b.2 - a.2) (c.2 - a.2) a.2
  have h3 := segQ_symm g c a
  unfold triQ twQ
  grind
theorem lin_sub_app (φ : Nat → Nat → Rat) (X Y l m : List Tm) : lin φ (sbL X Y (l ++ m)) = lin φ (sbL X Y l) + lin φ (sbL X Y m) := by
  rw [lin_sbL, lin_sbL, lin_sbL, lin_append]
theorem triQ_app (p q : List Tm) (a b c : Pt) : triQ (p ++ q) a b c = triQ p a b c + triQ q a b c := by
  unfold triQ shL; rw [lin_sub_app]; grind
theorem segQ_app (p q : List Tm) (a b : Pt) : segQ (p ++ q) a b = segQ p a b + segQ q a b := by
  unfold segQ shL; rw [lin_sub_app]
theorem segQ_scale (p : List Tm) (k : Rat) (a b : Pt) : segQ (scaleL k p) a b = k * segQ p a b := by
  unfold segQ shL; rw [lin_sbL, lin_scaleL, ← lin_sbL]
theorem segQ_nil (a b : Pt) : segQ [] a b = 0 := rfl
/-- The stage's theorem. -/
theorem gauss (g h : List Tm) (a b c : Pt) : triQ (dxL g ++ dyL h) a b c = flowQ g h a b + flowQ g h b c + flowQ g h c a := by
  rw [triQ_app, gauss_x, gauss_y]; unfold flowQ; grind
theorem flow_symm (g h : List Tm) (a b : Pt) : flowQ g h b a = -flowQ g h a b := by
  unfold flowQ; rw [segQ_symm g b a, segQ_symm h b a]; grind
theorem flow_cut (g h : List Tm) (a z b : Pt) (hz : twQ a z b = 0) : flowQ g h a b = flowQ g h a z + flowQ g h z b := by
  have h1 := gauss g h a z b
  rw [triQ, hz, flow_symm g h a b] at h1
  grind
/-- An antiderivative by x. -/
def prL (p : List Tm) : List Tm := p.map (fun t => ⟨t.i + 1, t.j, t.c / (((t.i + 1 : Nat) : Int) : Rat)⟩)
theorem dx_prL (p : List Tm) : Eqv (dxL (prL p)) p := fun φ => by
  rw [lin_dxL, prL]
  refine lin_map _ _ _ p (fun t _ => ?_)
  have := cast_ne t.i
  simp only [Nat.add_sub_cancel]; grind
theorem tri_flow (p : List Tm) (a b c : Pt) : triQ p a b c = flowQ (prL p) [] a b + flowQ (prL p) [] b c + flowQ (prL p) [] c a := by
  rw [← triQ_eqv (dx_prL p), ← gauss]; simp only [dyL, List.map_nil, List.append_nil]
theorem tri_cyc (p : List Tm) (a b c : Pt) : triQ p b c a = triQ p a b c := by rw [tri_flow, tri_flow p a]; grind
theorem tri_swap (p : List Tm) (a b c : Pt) : triQ p a c b = -triQ p a b c := by
  rw [tri_flow, tri_flow p a b c, flow_symm _ _ a c, flow_symm _ _ c b, flow_symm _ _ b a]; grind
theorem tri_split (p : List Tm) (a b c z : Pt) : triQ p a b c = triQ p a b z + triQ p b c z + triQ p c a z := by
  rw [tri_flow, tri_flow p a b z, tri_flow p b c z, tri_flow p c a z, flow_symm _ _ z b, flow_symm _ _ z c, flow_symm _ _ z a]; grind
theorem mu00 : mu 0 0 = 1 / 2 := by
  have h1 := mu_bt 0 0
  have h2 := (bt_step 0 0).1
  have h3 := lam_mul 0 0
  have e : (((0 + 0 + 2 : Nat) : Int) : Rat) = 2 := rfl
  have e1 : (((0 + 1 : Nat) : Int) : Rat) = 1 := rfl
  have h4 : bt 0 0 = lam 0 0 := rfl
  rw [e, e1] at h2
  rw [e1] at h1 h3
  grind
theorem tri_one (a b c : Pt) : triQ [⟨0, 0, 1⟩] a b c = twQ a b c / 2 := by
  have h : Eqv (shL [⟨0, 0, 1⟩] (b.1 - a.1) (c.1 - a.1) a.1 (b.2 - a.2) (c.2 - a.2) a.2) [⟨0, 0, 1⟩] := Eqv.of_ev (fun x y => by
    rw [ev_shL, ev_single, ev_single, Rat.pow_zero, Rat.pow_zero])
  unfold triQ
  rw [h mu]
  have := mu00
  simp only [lin]; grind
theorem ev_seg0 (l : List Tm) : lin lam (dxL l) = evP l 1 1 - evP l 0 1 := by
  rw [lin_dxL, evP, evP, ← lin_sub]
  refine lin_congr (fun t _ => ?_)
  rw [qone_pow, qone_pow]
  rcases h : t.i with _ | k
  · rw [cast_zero, Rat.pow_zero]; grind
  · rw [Nat.add_sub_cancel, lam_mul, Rat.pow_succ]; grind
/-- The fundamental theorem along a segment. -/
theorem seg_ftc (p : List Tm) (a b : Pt) : segQ (scaleL (b.1 - a.1) (dxL p) ++ scaleL (b.2 - a.2) (dyL p)) a b = evP p b.1 b.2 - evP p a.1 a.2 := by
  rw [segQ_app, segQ_scale, segQ_scale]
  have h1 := (tri_chain p lam (b.1 - a.1) 0 a.1 (b.2 - a.2) 0 a.2).1
  rw [ev_seg0, ev_shL, ev_shL] at h1
  unfold segQ
  rw [← h1]
  congr 1 <;> congr 1 <;> grind
theorem seg_pt (p : List Tm) (a : Pt) : segQ p a a = evP p a.1 a.2 := by
  have h : Eqv (shL p (a.1 - a.1) 0 a.1 (a.2 - a.2) 0 a.2) [⟨0, 0, evP p a.1 a.2⟩] := Eqv.of_ev (fun x y => by
    rw [ev_shL, ev_single, Rat.pow_zero, show (a.1 - a.1) * x + 0 * y + a.1 = a.1 by grind, show (a.2 - a.2) * x + 0 * y + a.2 = a.2 by grind]; grind)
  unfold segQ
  rw [h lam]
  have := lam_mul 0 0
  have e1 : (((0 + 1 : Nat) : Int) : Rat) = 1 := rfl
  rw [e1] at this
  simp only [lin]; grind
theorem seg_cut (p : List Tm) (a b : Pt) (s : Rat) (z : Pt) (h1 : z.1 = a.1 + s * (b.1 - a.1)) (h2 : z.2 = a.2 + s * (b.2 - a.2)) :
    s * segQ p a z + (1 - s) * segQ p z b = segQ p a b := by
  have hz : twQ a z b = 0 := by unfold twQ; rw [h1, h2]; grind
  have f1 := flow_cut p [] a z b hz
  have f2 := flow_cut [] p a z b hz
  unfold flowQ at f1 f2
  simp only [segQ_nil] at f1 f2
  by_cases e1 : b.2 - a.2 = 0
  · by_cases e2 : b.1 - a.1 = 0
    · have ea : z = a := Prod.ext (by rw [h1, e2]; grind) (by rw [h2, e1]; grind)
      have eb : b = a := Prod.ext (by grind) (by grind)
      rw [ea, eb]; grind
    · have : (b.1 - a.1) * (s * segQ p a z + (1 - s) * segQ p z b - segQ p a b) = 0 := by grind
      rcases Rat.mul_eq_zero.1 this with h | h
      · exact absurd h e2
      · grind
  · have : (b.2 - a.2) * (s * segQ p a z + (1 - s) * segQ p z b - segQ p a b) = 0 := by grind
    rcases Rat.mul_eq_zero.1 this with h | h
    · exact absurd h e1
    · grind
theorem tri_unit (p : List Tm) (a b c : Pt) : triQ (shL p (b.1 - a.1) (c.1 - a.1) a.1 (b.2 - a.2) (c.2 - a.2) a.2) (0, 0) (1, 0) (0, 1) * twQ a b c = triQ p a b c := by
  have h : Eqv (shL (shL p (b.1 - a.1) (c.1 - a.1) a.1 (b.2 - a.2) (c.2 - a.2) a.2) (1 - 0) (0 - 0) 0 (0 - 0) (1 - 0) 0) (shL p (b.1 - a.1) (c.1 - a.1) a.1 (b.2 - a.2) (c.2 - a.2) a.2) := Eqv.of_ev (fun x y => by
    rw [ev_shL]; congr 1 <;> grind)
  unfold triQ
  rw [h mu]
  have : twQ (0, 0) (1, 0) (0, 1) = 1 := by unfold twQ; grind
  rw [this]; grind
/-! ### Polygons -/
/-- The triangles of a fan. -/
def fanQ (p : List Tm) (a : Pt) : List Pt → Rat
  | b :: c :: l => triQ p a b c + fanQ p a (c :: l)
  | _ => 0
def pathQ (f : Pt → Pt → Rat) : List Pt → Rat
  | a :: b :: l => f a b + pathQ f (b :: l)
  | _ => 0
theorem pathQ_snoc (f : Pt → Pt → Rat) (y : Pt) : ∀ (l : List Pt) (x : Pt), pathQ f (l ++ [x, y]) = pathQ f (l ++ [x]) + f x y
  | [], x => by simp only [List.nil_append, pathQ]; grind
  | [a], x => by simp only [List.cons_append, List.nil_append, pathQ]; grind
  | a :: b :: l, x => by
    have := pathQ_snoc f y (b :: l) x
    simp only [List.cons_append, pathQ] at this ⊢
    rw [this]; grind
/-- Around: from the first through all and back. -/
def cycQ (f : Pt → Pt → Rat) : List Pt → Rat
  | [] => 0
  | a :: l => pathQ f (a :: l ++ [a])
theorem cyc_turn (f : Pt → Pt → Rat) (a : Pt) (l : List Pt) : cycQ f (l ++ [a]) = cycQ f (a :: l) := by
  rcases l with _ | ⟨b, l⟩
  · rfl
  · show pathQ f (b :: (l ++ [a]) ++ [b]) = pathQ f (a :: (b :: l) ++ [a])
    have h1 := pathQ_snoc f b (b :: l) a
    rw [show b :: (l ++ [a]) ++ [b] = b :: l ++ [a, b] by simp, h1]
    simp only [List.cons_append, pathQ]; grind
theorem cyc_rot (f : Pt → Pt → Rat) (m : List Pt) : ∀ l : List Pt, cycQ f (m ++ l) = cycQ f (l ++ m) := by
  induction m with
  | nil => intro l; simp
  | cons a m ih =>
    intro l
    have h := cyc_turn f a (m ++ l)
    rw [List.cons_append, ← h, List.append_assoc, ih (l ++ [a])]; simp
theorem path_rev (f : Pt → Pt → Rat) (hf : ∀ a b, f b a = -f a b) : ∀ l : List Pt, pathQ f l.reverse = -pathQ f l
  | [] => by simp only [List.reverse_nil, pathQ]; grind
  | [a] => by simp only [List.reverse_cons, List.reverse_nil, List.nil_append, pathQ]; grind
  | a :: b :: l => by
    have h := path_rev f hf (b :: l)
    rw [List.reverse_cons, List.reverse_cons, List.append_assoc]
    rw [List.reverse_cons] at h
    show pathQ f (l.reverse ++ [b, a]) = _
    rw [pathQ_snoc, h, hf a b, pathQ]; grind
theorem cyc_rev (f : Pt → Pt → Rat) (hf : ∀ a b, f b a = -f a b) (l : List Pt) : cycQ f l.reverse = -cycQ f l := by
  rcases l with _ | ⟨a, l⟩
  · simp only [List.reverse_nil, cycQ]; grind
  · rw [List.reverse_cons, cyc_turn]
    show pathQ f (a :: l.reverse ++ [a]) = -pathQ f (a :: l ++ [a])
    rw [← path_rev f hf]; simp
theorem fan_path (p : List Tm) (a : Pt) : ∀ (l : List Pt) (b : Pt), fanQ p a (b :: l) = pathQ (flowQ (prL p) []) (b :: l ++ [a]) - flowQ (prL p) [] b a
  | [], b => by simp only [fanQ, List.cons_append, List.nil_append, pathQ]; grind
  | c :: l, b => by
    rw [fanQ, fan_path p a l c, tri_flow]
    simp only [List.cons_append, pathQ]
    have := flow_symm (prL p) [] b a
    grind
/-- A polygon's integral. -/
def polyQ (p : List Tm) : List Pt → Rat
  | [] => 0
  | a :: l => fanQ p a l
theorem flow_self (g h : List Tm) (a : Pt) : flowQ g h a a = 0 := by have := flow_symm g h a a; grind
theorem poly_cyc (p : List Tm) : ∀ l : List Pt, polyQ p l = cycQ (flowQ (prL p) []) l
  | [] => rfl
  | [a] => by simp only [polyQ, fanQ, cycQ, List.cons_append, List.nil_append, pathQ]; rw [flow_self]; grind
  | a :: b :: l => by
    rw [polyQ, fan_path, cycQ]
    simp only [List.cons_append, pathQ]
    have := flow_symm (prL p) [] b a
    grind
theorem cyc_more (f : Pt → Pt → Rat) (a z : Pt) (l : List Pt) (x : Pt) (h : f x a = f x z + f z a) : cycQ f (a :: l ++ [x, z]) = cycQ f (a :: l ++ [x]) := by
  show pathQ f (a :: (l ++ [x, z]) ++ [a]) = pathQ f (a :: (l ++ [x]) ++ [a])
  have h1 := pathQ_snoc f a (a :: l ++ [x]) z
  have h2 := pathQ_snoc f z (a :: l) x
  have h3 := pathQ_snoc f a (a :: l) x
  simp only [List.append_assoc, List.cons_append, List.nil_append] at h1 h2 h3 ⊢
  rw [h1, h2, h3]; grind
theorem fan_dx (g : List Tm) (a : Pt) : ∀ (l : List Pt) (b : Pt), fanQ (dxL g) a (b :: l) = pathQ (flowQ g []) (b :: l ++ [a]) - flowQ g [] b a
  | [], b => by simp only [fanQ, List.cons_append, List.nil_append, pathQ]; grind
  | c :: l, b => by
    have e : triQ (dxL g) a b c = flowQ g [] a b + flowQ g [] b c + flowQ g [] c a := by
      rw [← gauss]; simp only [dyL, List.map_nil, List.append_nil]
    rw [fanQ, fan_dx g a l c, e]
    simp only [List.cons_append, pathQ]
    have := flow_symm g [] b a
    grind
theorem poly_dx (g : List Tm) : ∀ l : List Pt, polyQ (dxL g) l = cycQ (flowQ g []) l
  | [] => rfl
  | [a] => by simp only [polyQ, fanQ, cycQ, List.cons_append, List.nil_append, pathQ]; rw [flow_self]; grind
  | a :: b :: l => by
    rw [polyQ, fan_dx, cycQ]
    simp only [List.cons_append, pathQ]
    have := flow_symm g [] b a
    grind

end
section

/-! ### Sizes -/
/-- The coefficients are of at most K words; the degree is at most d. -/
def KL (K : Nat) (l : List Tm) : Prop := ∀ t ∈ l, lenQ t.c ≤ K
def DL (d : Nat) (l : List Tm) : Prop := ∀ t ∈ l, t.i + t.j ≤ d
theorem KL.mono {K K' : Nat} {l : List Tm} (h : KL K l) (hk : K ≤ K') : KL K' l := fun t ht => Nat.le_trans (h t ht) hk
theorem DL.mono {d d' : Nat} {l : List Tm} (h : DL d l) (hk : d ≤ d') : DL d' l := fun t ht => Nat.le_trans (h t ht) hk
/-- How many terms have a power. -/
def cntP (i j : Nat) : List Tm → Nat
  | [] => 0
  | t :: l => (if t.i = i ∧ t.j = j then 1 else 0) + cntP i j l
theorem cntP_le (i j : Nat) : ∀ l : List Tm, cntP i j l ≤ l.length
  | [] => Nat.le_refl _
  | t :: l => by have := cntP_le i j l; rw [cntP, List.length_cons]; split <;> omega
theorem cntP_append (i j : Nat) : ∀ l m : List Tm, cntP i j (l ++ m) = cntP i j l + cntP i j m
  | [], m => by simp [cntP]
  | t :: l, m => by rw [List.cons_append, cntP, cntP, cntP_append i j l m]; omega
theorem cntP_none {i j : Nat} : ∀ {l : List Tm}, (∀ t ∈ l, ¬ (t.i = i ∧ t.j = j)) → cntP i j l = 0
  | [], _ => rfl
  | t :: l, h => by rw [cntP, if_neg (h t List.mem_cons_self), cntP_none (fun s hs => h s (List.mem_cons_of_mem _ hs))]
theorem cntP_dif (i j : Nat) : ∀ {l : List Tm}, dif l → cntP i j l ≤ 1
  | [], _ => Nat.zero_le _
  | t :: l, h => by
    obtain ⟨h1, h2⟩ := List.pairwise_cons.1 h
    rw [cntP]
    split
    · rename_i hc
      rw [cntP_none (fun s hs hc2 => h1 s hs ⟨hc.1.trans hc2.1.symm, hc.2.trans hc2.2.symm⟩)]; omega
    · have := cntP_dif i j h2; omega
theorem insT_size {K : Nat} {f : Nat → Nat → Nat} {t : Tm} (ht : lenQ t.c ≤ K) : ∀ {p : List Tm}, (∀ u ∈ p, lenQ u.c ≤ f u.i u.j) → ∀ u ∈ insT t p, lenQ u.c ≤ f u.i u.j + (if t.i = u.i ∧ t.j = u.j then K + 1 else 0)
  | [], _, u, hu => by
    rw [insT, List.mem_singleton] at hu
    subst hu
    have e : 0 + t.c = t.c := by grind
    simp only [and_self, if_true, e]; omega
  | s :: p, h, u, hu => by
    have h0 := h s List.mem_cons_self
    rw [insT] at hu
    split at hu
    · rename_i hs
      rcases List.mem_cons.1 hu with rfl | hu
      · have := lenQ_add s.c t.c
        rw [if_pos ⟨hs.1.symm, hs.2.symm⟩]
        simp only; omega
      · have := h u (List.mem_cons_of_mem _ hu); omega
    · rcases List.mem_cons.1 hu with rfl | hu
      · omega
      · exact insT_size ht (fun v hv => h v (List.mem_cons_of_mem _ hv)) u hu
theorem collect_size_gen {K : Nat} : ∀ (l : List Tm) {p : List Tm} {f : Nat → Nat → Nat}, KL K l → (∀ u ∈ p, lenQ u.c ≤ f u.i u.j) →
    ∀ u ∈ l.foldl (fun p t => insT t p) p, lenQ u.c ≤ f u.i u.j + cntP u.i u.j l * (K + 1)
  | [], p, f, _, h, u, hu => by have := h u hu; omega
  | t :: l, p, f, hl, h, u, hu => by
    rw [List.foldl_cons] at hu
    have ih := collect_size_gen l (f := fun i j => f i j + (if t.i = i ∧ t.j = j then K + 1 else 0)) (fun s hs => hl s (List.mem_cons_of_mem _ hs)) (insT_size (hl t List.mem_cons_self) h) u hu
    rw [cntP, Nat.add_mul]
    split at ih
    · rename_i hc; rw [if_pos hc]; omega
    · rename_i hc; rw [if_neg hc]; omega
theorem collect_size {K : Nat} {l : List Tm} (h : KL K l) : ∀ u ∈ collect l, lenQ u.c ≤ cntP u.i u.j l * (K + 1) := fun u hu => by
  have := collect_size_gen l (f := fun _ _ => 0) (p := []) h (fun _ hv => nomatch hv) u hu
  omega
theorem KL_norm_cnt {K m : Nat} {l : List Tm} (h : KL K l) (hc : ∀ i j, cntP i j l ≤ m) : KL (m * (K + 1)) (norm l) := fun u hu =>
  Nat.le_trans (collect_size h u (norm_mem hu).1) (Nat.mul_le_mul_right _ (hc _ _))
theorem KL_norm {K m : Nat} {l : List Tm} (h : KL K l) (hm : l.length ≤ m) : KL (m * (K + 1)) (norm l) := KL_norm_cnt h (fun i j => Nat.le_trans (cntP_le i j l) hm)
theorem nrm_dif {p : List Tm} (h : Nrm p) : dif p := h.2.imp (fun {s t} hs hc => by rw [ltT_iff] at hs; have := hc.1; have := hc.2; omega)
theorem KL_norm_dif {K : Nat} {l : List Tm} (h : KL K l) (hd : dif l) : KL (K + 1) (norm l) := by
  have := KL_norm_cnt h (fun i j => cntP_dif i j hd); rwa [Nat.one_mul] at this
theorem KL_add {Ka Kb : Nat} {a b : List Tm} (ha : KL Ka a) (hb : KL Kb b) (hda : dif a) (hdb : dif b) : KL (Ka + Kb + 2) (norm (a ++ b)) := fun u hu => by
  have h1 := (norm_mem hu).1
  rw [collect, List.foldl_append] at h1
  have h2 := collect_size_gen b (p := collect a) (f := fun i j => Ka + 1) hb (fun v hv => by
    have := collect_size ha v hv
    have h3 := cntP_dif v.i v.j hda
    have h4 := Nat.mul_le_mul_right (Ka + 1) h3
    omega) u h1
  have h3 := cntP_dif u.i u.j hdb
  have h4 := Nat.mul_le_mul_right (Kb + 1) h3
  omega
theorem cntP_mul_dif (i j : Nat) (s : Tm) {b : List Tm} (hb : dif b) : cntP i j (b.map (fun t => ⟨s.i + t.i, s.j + t.j, s.c * t.c⟩)) ≤ 1 := by
  refine cntP_dif i j ?_
  refine List.pairwise_map.2 (hb.imp (fun {t u} h hc => h ?_))
  unfold same at hc ⊢
  simp only at hc; omega
theorem cntP_mulL (i j : Nat) {b : List Tm} (hb : dif b) : ∀ a : List Tm, cntP i j (mulL a b) ≤ a.length
  | [] => Nat.zero_le _
  | s :: a => by
    have := cntP_mulL i j hb a
    have := cntP_mul_dif i j s hb
    unfold mulL at *
    rw [List.flatMap_cons, cntP_append, List.length_cons]; omega
theorem KL_mulL {Ka Kb : Nat} {a b : List Tm} (ha : KL Ka a) (hb : KL Kb b) : KL (Ka + Kb) (mulL a b) := fun u hu => by
  unfold mulL at hu
  obtain ⟨s, hs, hu⟩ := List.mem_flatMap.1 hu
  obtain ⟨t, ht, rfl⟩ := List.mem_map.1 hu
  have := lenQ_mul s.c t.c
  have := ha s hs
  have := hb t ht
  simp only; omega
theorem mulL_len (a b : List Tm) : (mulL a b).length = a.length * b.length := by
  unfold mulL
  induction a with
  | nil => simp
  | cons s a ih => rw [List.flatMap_cons, List.length_append, ih, List.length_map, List.length_cons, Nat.add_mul]; omega
theorem mulL_swap_cnt (i j : Nat) {a b : List Tm} (ha : dif a) : cntP i j (mulL a b) ≤ b.length := by
  induction b with
  | nil => unfold mulL; induction a with
    | nil => exact Nat.le_refl _
    | cons s a ih => rw [List.flatMap_cons]; exact ih (List.pairwise_cons.1 ha).2
  | cons t b ih =>
    have key : ∀ a : List Tm, cntP i j (mulL a (t :: b)) = cntP i j (a.map (fun s => ⟨s.i + t.i, s.j + t.j, s.c * t.c⟩)) + cntP i j (mulL a b) := by
      intro a
      induction a with
      | nil => rfl
      | cons s a ih =>
        unfold mulL at *
        rw [List.flatMap_cons, List.flatMap_cons, List.map_cons, List.map_cons, cntP_append, cntP_append, ih, cntP, cntP]
        omega
    rw [key, List.length_cons]
    have : cntP i j (a.map (fun s => ⟨s.i + t.i, s.j + t.j, s.c * t.c⟩)) ≤ 1 := by
      refine cntP_dif i j ?_
      refine List.pairwise_map.2 (ha.imp (fun {s u} h hc => h ?_))
      unfold same at hc ⊢
      simp only at hc; omega
    omega
theorem KL_mul {Ka Kb m : Nat} {a b : List Tm} (ha : KL Ka a) (hb : KL Kb b) (hda : dif a) (hm : b.length ≤ m) : KL (m * (Ka + Kb + 1)) (norm (mulL a b)) :=
  KL_norm_cnt (KL_mulL ha hb) (fun i j => Nat.le_trans (mulL_swap_cnt i j hda) hm)
theorem KL_scale {Ka Kc : Nat} {a : List Tm} {c : Rat} (ha : KL Ka a) (hc : lenQ c ≤ Kc) (hda : dif a) : KL (Kc + Ka + 1) (norm (scaleL c a)) := by
  refine KL_norm_dif (fun u hu => ?_) ?_
  · unfold scaleL at hu
    obtain ⟨t, ht, rfl⟩ := List.mem_map.1 hu
    have := lenQ_mul c t.c
    have := ha t ht
    simp only; omega
  · exact List.pairwise_map.2 (hda.imp (fun {s t} h hc => h hc))
/-! ### Degrees -/
theorem DL_norm {d : Nat} {l : List Tm} (h : DL d l) : DL d (norm l) := fun u hu => by
  obtain ⟨t, ht, h1, h2⟩ := collect_mem (norm_mem hu).1
  rw [h1, h2]; exact h t ht
theorem DL_append {d : Nat} {a b : List Tm} (ha : DL d a) (hb : DL d b) : DL d (a ++ b) := fun t ht => (List.mem_append.1 ht).elim (ha t) (hb t)
theorem DL_mulL {da db : Nat} {a b : List Tm} (ha : DL da a) (hb : DL db b) : DL (da + db) (mulL a b) := fun u hu => by
  unfold mulL at hu
  obtain ⟨s, hs, hu⟩ := List.mem_flatMap.1 hu
  obtain ⟨t, ht, rfl⟩ := List.mem_map.1 hu
  have := ha s hs
  have := hb t ht
  simp only; omega
theorem DL_scaleL {d : Nat} {a : List Tm} (c : Rat) (h : DL d a) : DL d (scaleL c a) := fun u hu => by
  unfold scaleL at hu
  obtain ⟨t, ht, rfl⟩ := List.mem_map.1 hu
  exact h t ht
theorem DL_dxL {d : Nat} {a : List Tm} (h : DL d a) : DL d (dxL a) := fun u hu => by
  unfold dxL at hu
  obtain ⟨t, ht, rfl⟩ := List.mem_map.1 hu
  have := h t ht
  simp only; omega
theorem DL_dyL {d : Nat} {a : List Tm} (h : DL d a) : DL d (dyL a) := fun u hu => by
  unfold dyL at hu
  obtain ⟨t, ht, rfl⟩ := List.mem_map.1 hu
  have := h t ht
  simp only; omega
/-- 1 + 2 + .. + n. -/
def tri : Nat → Nat
  | 0 => 0
  | n + 1 => tri n + n + 1
theorem tri_mono {m n : Nat} (h : m ≤ n) : tri m ≤ tri n := by
  induction h with
  | refl => exact Nat.le_refl _
  | step _ ih => rw [tri]; omega
def keyT (t : Tm) : Nat := tri (t.i + t.j) + t.j
theorem key_lt {s t : Tm} (h : ltT s t = true) : keyT s < keyT t := by
  rw [ltT_iff] at h
  unfold keyT
  rcases h with h | ⟨h1, h2⟩
  · have := tri_mono (show s.i + s.j + 1 ≤ t.i + t.j from h)
    rw [tri] at this; omega
  · rw [h1]; omega
theorem len_of_lt : ∀ (l : List Nat) (m n : Nat), l.Pairwise (· < ·) → (∀ x ∈ l, m ≤ x ∧ x < n) → l.length ≤ n - m
  | [], _, _, _, _ => Nat.zero_le _
  | x :: l, m, n, h, hb => by
    obtain ⟨h1, h2⟩ := List.pairwise_cons.1 h
    have h3 := hb x List.mem_cons_self
    have := len_of_lt l (x + 1) n h2 (fun y hy => ⟨h1 y hy, (hb y (List.mem_cons_of_mem _ hy)).2⟩)
    rw [List.length_cons]; omega
theorem nrm_len {d : Nat} {p : List Tm} (h : Nrm p) (hd : DL d p) : p.length ≤ tri (d + 1) := by
  have := len_of_lt (p.map keyT) 0 (tri (d + 1)) (List.pairwise_map.2 (h.2.imp (fun {s t} hs => key_lt hs))) (fun x hx => by
    obtain ⟨t, ht, rfl⟩ := List.mem_map.1 hx
    have h1 := hd t ht
    have := tri_mono h1
    refine ⟨Nat.zero_le _, ?_⟩
    unfold keyT; rw [tri]; omega)
  rw [List.length_map] at this; exact this
/-! ### Heights -/
def ab (x : Rat) : Rat := if x < 0 then -x else x
theorem ab_nonneg (x : Rat) : 0 ≤ ab x := by unfold ab; split <;> grind
theorem ab_add (x y : Rat) : ab (x + y) ≤ ab x + ab y := by unfold ab; split <;> split <;> split <;> grind
theorem ab_of_nonneg {x : Rat} (h : 0 ≤ x) : ab x = x := by unfold ab; rw [if_neg (by grind)]
theorem ab_zero : ab 0 = 0 := ab_of_nonneg (by grind)
theorem ab_neg (x : Rat) : ab (-x) = ab x := by unfold ab; split <;> split <;> grind
theorem ab_mul (x y : Rat) : ab (x * y) = ab x * ab y := by
  have key : ∀ x y : Rat, 0 ≤ x → 0 ≤ y → ab (x * y) = ab x * ab y := fun x y hx hy => by
    rw [ab_of_nonneg hx, ab_of_nonneg hy, ab_of_nonneg (Rat.mul_nonneg hx hy)]
  by_cases hx : 0 ≤ x <;> by_cases hy : 0 ≤ y
  · exact key x y hx hy
  · rw [show x * y = -(x * -y) by grind, ab_neg, key x (-y) hx (by grind), ab_neg]
  · rw [show x * y = -(-x * y) by grind, ab_neg, key (-x) y (by grind) hy, ab_neg]
  · rw [show x * y = -x * -y by grind, key (-x) (-y) (by grind) (by grind), ab_neg, ab_neg]
theorem cast_mul (a b : Nat) : (((a * b : Nat) : Int) : Rat) = ((a : Int) : Rat) * ((b : Int) : Rat) := by rw [Int.natCast_mul, Rat.intCast_mul]
theorem cast_nonneg (a : Nat) : (0 : Rat) ≤ ((a : Int) : Rat) := by
  have h := (Rat.intCast_le_intCast (a := 0) (b := (a : Int))).2 (by omega)
  exact h
theorem cast_le {a b : Nat} (h : a ≤ b) : ((a : Int) : Rat) ≤ ((b : Int) : Rat) := Rat.intCast_le_intCast.2 (by omega)
theorem le_of_cast {a b : Nat} (h : ((a : Int) : Rat) ≤ ((b : Int) : Rat)) : a ≤ b := by have := Rat.intCast_le_intCast.1 h; omega
theorem mul_le_mulr {a b c : Rat} (h : a ≤ b) (hc : 0 ≤ c) : a * c ≤ b * c := by
  have := Rat.mul_nonneg (show 0 ≤ b - a by grind) hc
  grind
theorem mul_le_mul2 {a b c d : Rat} (h : a ≤ b) (h2 : c ≤ d) (ha : 0 ≤ c) (hb : 0 ≤ b) : a * c ≤ b * d := by
  have h3 := mul_le_mulr h ha
  have h4 := mul_le_mulr h2 hb
  grind
/-- The coefficients' absolute values, added. -/
def sab : List Tm → Rat
  | [] => 0
  | t :: l => ab t.c + sab l
theorem sab_nonneg : ∀ l : List Tm, 0 ≤ sab l
  | [] => by rw [sab]; grind
  | t :: l => by have := sab_nonneg l; have := ab_nonneg t.c; rw [sab]; grind
theorem sab_append : ∀ l m : List Tm, sab (l ++ m) = sab l + sab m
  | [], m => by simp only [List.nil_append, sab]; grind
  | t :: l, m => by rw [List.cons_append, sab, sab, sab_append l m]; grind
theorem sab_perm {l m : List Tm} (h : l.Perm m) : sab l = sab m := by
  induction h with
  | nil => rfl
  | cons x _ ih => rw [sab, sab, ih]
  | swap x y l => simp only [sab]; grind
  | trans _ _ h1 h2 => rw [h1, h2]
theorem sab_mem {l : List Tm} {t : Tm} (h : t ∈ l) : ab t.c ≤ sab l := by
  induction l with
  | nil => cases h
  | cons s l ih =>
    rw [sab]
    rcases List.mem_cons.1 h with rfl | h
    · have := sab_nonneg l; grind
    · have := ih h; have := ab_nonneg s.c; grind
theorem sab_filter (f : Tm → Bool) : ∀ l : List Tm, sab (l.filter f) ≤ sab l
  | [] => by rw [List.filter_nil]; grind
  | t :: l => by
    have := sab_filter f l
    have := ab_nonneg t.c
    rw [List.filter_cons]
    split
    · rw [sab, sab]; grind
    · rw [sab]; grind
theorem sab_insT (t : Tm) : ∀ p : List Tm, sab (insT t p) ≤ sab p + ab t.c
  | [] => by
    have e : 0 + t.c = t.c := by grind
    simp only [insT, sab, e]; grind
  | s :: p => by
    rw [insT]
    split
    · have := ab_add s.c t.c; simp only [sab]; grind
    · have := sab_insT t p; simp only [sab]; grind
theorem sab_collect_gen : ∀ (l p : List Tm), sab (l.foldl (fun p t => insT t p) p) ≤ sab p + sab l
  | [], p => by simp only [List.foldl_nil, sab]; grind
  | t :: l, p => by
    have h1 := sab_collect_gen l (insT t p)
    have h2 := sab_insT t p
    rw [List.foldl_cons]; simp only [sab]; grind
theorem sab_norm (l : List Tm) : sab (norm l) ≤ sab l := by
  rw [norm, sab_perm (List.mergeSort_perm _ _)]
  have h1 := sab_filter (fun t => decide (t.c ≠ 0)) (collect l)
  have h2 := sab_collect_gen l []
  have h3 : collect l = l.foldl (fun p t => insT t p) [] := rfl
  rw [← h3] at h2
  simp only [sab] at h2
  grind
theorem sab_scale (c : Rat) : ∀ l : List Tm, sab (scaleL c l) = ab c * sab l
  | [] => by simp only [scaleL, List.map_nil, sab]; grind
  | t :: l => by
    have := sab_scale c l
    have := ab_mul c t.c
    simp only [scaleL, List.map_cons, sab] at *
    grind
theorem sab_map_mul (s : Tm) : ∀ b : List Tm, sab (b.map (fun t => (⟨s.i + t.i, s.j + t.j, s.c * t.c⟩ : Tm))) = ab s.c * sab b
  | [] => by simp only [List.map_nil, sab]; grind
  | t :: b => by
    have := sab_map_mul s b
    have := ab_mul s.c t.c
    simp only [List.map_cons, sab] at *
    grind
theorem sab_mul (b : List Tm) : ∀ a : List Tm, sab (mulL a b) = sab a * sab b
  | [] => by show sab [] = _; simp only [sab]; grind
  | s :: a => by
    have ih := sab_mul b a
    have h := sab_map_mul s b
    unfold mulL at *
    rw [List.flatMap_cons, sab_append, ih, h, sab]; grind
/-- D is a denominator of x. -/
def ID (D : Nat) (x : Rat) : Prop := ∃ z : Int, x * ((D : Int) : Rat) = (z : Rat)
theorem ID.mul {D E : Nat} {x y : Rat} (h : ID D x) (h2 : ID E y) : ID (D * E) (x * y) := by
  obtain ⟨z, hz⟩ := h
  obtain ⟨w, hw⟩ := h2
  exact ⟨z * w, by rw [cast_mul, Rat.intCast_mul, ← hz, ← hw]; grind⟩
theorem ID.add {D : Nat} {x y : Rat} (h : ID D x) (h2 : ID D y) : ID D (x + y) := by
  obtain ⟨z, hz⟩ := h
  obtain ⟨w, hw⟩ := h2
  exact ⟨z + w, by rw [Rat.intCast_add, ← hz, ← hw]; grind⟩
theorem ID.int (n : Int) : ID 1 (n : Rat) := ⟨n, by rw [cast_one]; grind⟩
theorem ID.zero (D : Nat) : ID D 0 := ⟨0, by show 0 * _ = (0 : Rat); grind⟩
theorem ID.right {D : Nat} {x : Rat} (h : ID D x) (E : Nat) : ID (D * E) x := by
  have := h.mul (ID.int (E : Int))
  obtain ⟨z, hz⟩ := h
  exact ⟨z * E, by rw [cast_mul, Rat.intCast_mul, ← hz]; grind⟩
theorem ID.left {D : Nat} {x : Rat} (h : ID D x) (E : Nat) : ID (E * D) x := by rw [Nat.mul_comm]; exact h.right E
theorem mul_den (x : Rat) : x * ((x.den : Int) : Rat) = (x.num : Rat) := by
  rw [Rat.mul_def', Rat.num_intCast, Rat.den_intCast, Nat.mul_one]
  have := Rat.mkRat_mul_right (n := x.num) (d := 1) (a := x.den) x.den_nz
  rw [Nat.one_mul] at this
  rw [this, Rat.mkRat_one]
theorem ID.self (x : Rat) : ID x.den x := ⟨x.num, mul_den x⟩
theorem ab_int (z : Int) : ab (z : Rat) = ((z.natAbs : Int) : Rat) := by
  unfold ab
  split
  · rename_i h
    have h2 : z < 0 := Rat.intCast_lt_intCast.1 (show (z : Rat) < ((0 : Int) : Rat) from h)
    rw [show ((z.natAbs : Nat) : Int) = -z by omega, Rat.intCast_neg]
  · rename_i h
    have h2 : ¬ z < 0 := fun h3 => h (Rat.intCast_lt_intCast.2 h3 : (z : Rat) < ((0 : Int) : Rat))
    rw [show ((z.natAbs : Nat) : Int) = z by omega]
theorem ab_den (x : Rat) : ab x * ((x.den : Int) : Rat) = ((x.num.natAbs : Int) : Rat) := by
  rw [← ab_int, ← mul_den, ab_mul, ab_of_nonneg (cast_nonneg x.den)]
theorem ID.den {D : Nat} {x : Rat} (h : ID D x) : x.den ∣ D := by
  obtain ⟨z, hz⟩ := h
  have h1 : ((x.num * (D : Int) : Int) : Rat) = ((z * (x.den : Int) : Int) : Rat) := by
    rw [Rat.intCast_mul, Rat.intCast_mul, ← hz, ← mul_den]; grind
  have h2 := Rat.intCast_inj.1 h1
  have h3 : x.num.natAbs * D = z.natAbs * x.den := by
    have := congrArg Int.natAbs h2
    rwa [Int.natAbs_mul, Int.natAbs_mul, Int.natAbs_natCast, Int.natAbs_natCast] at this
  exact (Nat.Coprime.dvd_of_dvd_mul_left x.reduced.symm (h3 ▸ Nat.dvd_mul_left x.den z.natAbs))
/-- The coefficients have a common denominator below B^K, and the sum of their absolute values times it is below B^K. -/
def Hb (K : Nat) (l : List Tm) : Prop := ∃ D N : Nat, 0 < D ∧ D < 4294967296 ^ K ∧ N < 4294967296 ^ K ∧ (∀ t ∈ l, ID D t.c) ∧ sab l * ((D : Int) : Rat) ≤ ((N : Int) : Rat)
theorem pow_mono {K K' : Nat} (h : K ≤ K') : 4294967296 ^ K ≤ 4294967296 ^ K' := Nat.pow_le_pow_right (by decide) h
theorem Hb.mono {K K' : Nat} {l : List Tm} (h : Hb K l) (hk : K ≤ K') : Hb K' l := by
  obtain ⟨D, N, h0, h1, h2, h3, h4⟩ := h
  exact ⟨D, N, h0, Nat.lt_of_lt_of_le h1 (pow_mono hk), Nat.lt_of_lt_of_le h2 (pow_mono hk), h3, h4⟩
theorem Hb.siz {K : Nat} {l : List Tm} (h : Hb K l) : KL K l := fun t ht => by
  obtain ⟨D, N, h0, h1, h2, h3, h4⟩ := h
  have hd := (h3 t ht).den
  have hle := Nat.le_of_dvd h0 hd
  have hn : ((t.c.num.natAbs : Int) : Rat) ≤ ((N : Int) : Rat) := by
    rw [← ab_den]
    have a1 := mul_le_mul2 (sab_mem ht) (cast_le hle) (cast_nonneg _) (sab_nonneg l)
    grind
  have hn' := le_of_cast hn
  unfold lenQ lenZ
  have := wds_len_le (n := t.c.num.natAbs) (k := K) (by omega)
  have := wds_len_le (n := t.c.den) (k := K) (by omega)
  omega
theorem Hb.nrm {K : Nat} {l : List Tm} (h : Hb K l) : Hb K (norm l) := by
  obtain ⟨D, N, h0, h1, h2, h3, h4⟩ := h
  refine ⟨D, N, h0, h1, h2, fun u hu => ?_, ?_⟩
  · have key : ∀ (l p : List Tm), (∀ t ∈ l, ID D t.c) → (∀ t ∈ p, ID D t.c) → ∀ u ∈ l.foldl (fun p t => insT t p) p, ID D u.c := by
      intro l
      induction l with
      | nil => intro p _ hp u hu; exact hp u hu
      | cons t l ih =>
        intro p hl hp u hu
        rw [List.foldl_cons] at hu
        refine ih (insT t p) (fun s hs => hl s (List.mem_cons_of_mem _ hs)) (fun v hv => ?_) u hu
        have ht := hl t List.mem_cons_self
        clear ih hu hl
        induction p with
        | nil => rw [insT, List.mem_singleton] at hv; subst hv; exact (ID.zero D).add ht
        | cons s p ih =>
          rw [insT] at hv
          split at hv
          · rcases List.mem_cons.1 hv with rfl | hv
            · exact (hp s List.mem_cons_self).add ht
            · exact hp v (List.mem_cons_of_mem _ hv)
          · rcases List.mem_cons.1 hv with rfl | hv
            · exact hp _ List.mem_cons_self
            · exact ih (fun w hw => hp w (List.mem_cons_of_mem _ hw)) hv
    exact key l [] h3 (fun _ h => nomatch h) u (norm_mem hu).1
  · have := mul_le_mulr (sab_norm l) (cast_nonneg D)
    grind
theorem lt_pow_of_len {n k : Nat} (h : (wds n).length ≤ k) : n < 4294967296 ^ k := Nat.lt_of_lt_of_le (wds_lt_pow n) (pow_mono h)
theorem lenQ_bd {x : Rat} {k : Nat} (h : lenQ x ≤ k) : x.num.natAbs < 4294967296 ^ k ∧ x.den < 4294967296 ^ k := by
  obtain ⟨h1, h2⟩ := lenQ_le h
  exact ⟨lt_pow_of_len h1, lt_pow_of_len h2⟩
theorem pow_sum {a b c d K k : Nat} (h1 : a < 4294967296 ^ K) (h2 : b < 4294967296 ^ k) (h3 : c < 4294967296 ^ K) (h4 : d < 4294967296 ^ k) : a * b + c * d < 4294967296 ^ (K + k + 1) := by
  have e1 := Nat.mul_lt_mul'' h1 h2
  have e2 := Nat.mul_lt_mul'' h3 h4
  rw [Nat.pow_succ, Nat.pow_add]
  generalize 4294967296 ^ K * 4294967296 ^ k = P at *
  omega
theorem Hb.nil : Hb 1 [] := ⟨1, 0, by omega, by omega, by omega, (fun _ h => nomatch h), by show (0 : Rat) * _ ≤ (0 : Rat); grind⟩
theorem Hb.append {Ka Kb : Nat} {a b : List Tm} (ha : Hb Ka a) (hb : Hb Kb b) : Hb (Ka + Kb + 1) (a ++ b) := by
  obtain ⟨D, N, h0, h1, h2, h3, h4⟩ := ha
  obtain ⟨E, M, k0, k1, k2, k3, k4⟩ := hb
  refine ⟨D * E, N * E + D * M, Nat.mul_pos h0 k0, Nat.lt_of_lt_of_le (by rw [Nat.pow_add]; exact Nat.mul_lt_mul'' h1 k1) (pow_mono (Nat.le_succ (Ka + Kb))), pow_sum h2 k1 h1 k2, fun t ht => ?_, ?_⟩
  · rcases List.mem_append.1 ht with h | h
    · exact (h3 t h).right E
    · exact (k3 t h).left D
  · rw [sab_append, cast_mul, cast_add, cast_mul, cast_mul]
    have e1 := mul_le_mulr h4 (cast_nonneg E)
    have e2 := mul_le_mulr k4 (cast_nonneg D)
    grind
theorem Hb.cons {K k : Nat} {l : List Tm} {t : Tm} (h : Hb K l) (ht : lenQ t.c ≤ k) : Hb (K + k + 1) (t :: l) := by
  obtain ⟨D, N, h0, h1, h2, h3, h4⟩ := h
  obtain ⟨p1, p2⟩ := lenQ_bd ht
  have hp := t.c.den_pos
  refine ⟨D * t.c.den, D * t.c.num.natAbs + N * t.c.den, Nat.mul_pos h0 hp, Nat.lt_of_lt_of_le (by rw [Nat.pow_add]; exact Nat.mul_lt_mul'' h1 p2) (pow_mono (Nat.le_succ (K + k))), pow_sum h1 p1 h2 p2, fun s hs => ?_, ?_⟩
  · rcases List.mem_cons.1 hs with rfl | hs
    · exact (ID.self _).left D
    · exact (h3 s hs).right _
  · rw [sab, cast_mul, cast_add, cast_mul, cast_mul]
    have e0 := ab_den t.c
    have e1 := mul_le_mulr h4 (cast_nonneg t.c.den)
    rw [← e0]
    grind
theorem Hb.of_KL {k : Nat} {l : List Tm} (h : KL k l) : Hb (l.length * (k + 1) + 1) l := by
  induction l with
  | nil => exact Hb.nil.mono (by omega)
  | cons t l ih =>
    have h2 := (ih (fun s hs => h s (List.mem_cons_of_mem _ hs))).cons (h t List.mem_cons_self)
    have e : (t :: l).length * (k + 1) + 1 = l.length * (k + 1) + 1 + k + 1 := by rw [List.length_cons, Nat.add_mul]; omega
    rw [e]; exact h2
theorem Hb.scale {K k : Nat} {l : List Tm} {c : Rat} (h : Hb K l) (hc : lenQ c ≤ k) : Hb (k + K) (scaleL c l) := by
  obtain ⟨D, N, h0, h1, h2, h3, h4⟩ := h
  obtain ⟨p1, p2⟩ := lenQ_bd hc
  refine ⟨c.den * D, c.num.natAbs * N, Nat.mul_pos c.den_pos h0, by rw [Nat.pow_add]; exact Nat.mul_lt_mul'' p2 h1, by rw [Nat.pow_add]; exact Nat.mul_lt_mul'' p1 h2, fun u hu => ?_, ?_⟩
  · unfold scaleL at hu
    obtain ⟨t, ht, rfl⟩ := List.mem_map.1 hu
    exact (ID.self c).mul (h3 t ht)
  · rw [sab_scale, cast_mul, cast_mul, ← ab_den]
    have e1 := mul_le_mulr h4 (Rat.mul_nonneg (ab_nonneg c) (cast_nonneg c.den))
    grind
theorem Hb.mul {Ka Kb : Nat} {a b : List Tm} (ha : Hb Ka a) (hb : Hb Kb b) : Hb (Ka + Kb) (mulL a b) := by
  obtain ⟨D, N, h0, h1, h2, h3, h4⟩ := ha
  obtain ⟨E, M, k0, k1, k2, k3, k4⟩ := hb
  refine ⟨D * E, N * M, Nat.mul_pos h0 k0, by rw [Nat.pow_add]; exact Nat.mul_lt_mul'' h1 k1, by rw [Nat.pow_add]; exact Nat.mul_lt_mul'' h2 k2, fun u hu => ?_, ?_⟩
  · unfold mulL at hu
    obtain ⟨s, hs, hu⟩ := List.mem_flatMap.1 hu
    obtain ⟨t, ht, rfl⟩ := List.mem_map.1 hu
    exact (h3 s hs).mul (k3 t ht)
  · rw [sab_mul, cast_mul, cast_mul]
    have e1 := mul_le_mul2 h4 k4 (Rat.mul_nonneg (sab_nonneg b) (cast_nonneg E)) (cast_nonneg N)
    grind
theorem sab_mapi (f : Tm → Tm) (m : Nat) : ∀ l : List Tm, (∀ t ∈ l, ab (f t).c ≤ ab t.c * ((m : Int) : Rat)) → sab (l.map f) ≤ sab l * ((m : Int) : Rat)
  | [], _ => by simp only [List.map_nil, sab]; grind
  | t :: l, h => by
    have h1 := h t List.mem_cons_self
    have h2 := sab_mapi f m l (fun s hs => h s (List.mem_cons_of_mem _ hs))
    simp only [List.map_cons, sab]; grind
theorem Hb.mapi {K : Nat} {l : List Tm} (h : Hb K l) (f : Tm → Tm) (n : Tm → Nat) (hf : ∀ t ∈ l, (f t).c = t.c * ((n t : Int) : Rat)) (hn : ∀ t ∈ l, n t ≤ 1000) : Hb (K + 1) (l.map f) := by
  obtain ⟨D, N, h0, h1, h2, h3, h4⟩ := h
  refine ⟨D, N * 1000, h0, Nat.lt_of_lt_of_le h1 (pow_mono (Nat.le_succ K)), by rw [Nat.pow_succ]; exact Nat.mul_lt_mul'' h2 (by decide), fun u hu => ?_, ?_⟩
  · obtain ⟨t, ht, rfl⟩ := List.mem_map.1 hu
    rw [hf t ht]
    obtain ⟨z, hz⟩ := h3 t ht
    exact ⟨z * (n t : Int), by rw [Rat.intCast_mul, ← hz]; grind⟩
  · have e1 := sab_mapi f 1000 l (fun t ht => by
      rw [hf t ht, ab_mul, ab_of_nonneg (cast_nonneg _)]
      have := mul_le_mulr (cast_le (hn t ht)) (ab_nonneg t.c)
      grind)
    have e2 := mul_le_mulr e1 (cast_nonneg D)
    have e3 := mul_le_mulr h4 (cast_nonneg 1000)
    rw [cast_mul]
    grind
/-! ### What is asked of a polynomial -/
/-- Degree at most d; coefficients of height at most K. -/
structure Pq (d K : Nat) (l : List Tm) : Prop where
  deg : DL d l
  len : l.length ≤ 100
  hgt : Hb K l
theorem Pq.siz {d K : Nat} {l : List Tm} (h : Pq d K l) : KL K l := h.hgt.siz
theorem Pq.nsz {d K : Nat} {l : List Tm} (h : Pq d K l) : KL K (norm l) := h.hgt.nrm.siz
theorem Pq.nlen {d K : Nat} {l : List Tm} (h : Pq d K l) : (norm l).length ≤ tri (d + 1) := nrm_len (norm_nrm l) (DL_norm h.deg)
theorem Pq.of_norm {d K : Nat} {l : List Tm} (hd : DL d l) (hk : Hb K l) (hd12 : d ≤ 12) : Pq d K (norm l) :=
  ⟨DL_norm hd, Nat.le_trans (nrm_len (norm_nrm l) (DL_norm hd)) (Nat.le_trans (tri_mono (show d + 1 ≤ 13 by omega)) (by decide)), hk.nrm⟩
theorem Pq.nrm {d K : Nat} {l : List Tm} (h : Pq d K l) (hd12 : d ≤ 12) : Pq d K (norm l) := Pq.of_norm h.deg h.hgt hd12
theorem Pq.mono {d K d' K' : Nat} {l : List Tm} (h : Pq d K l) (hd : d ≤ d') (hk : K ≤ K') : Pq d' K' l := ⟨h.deg.mono hd, h.len, h.hgt.mono hk⟩
theorem Pq.raw {d k m : Nat} {l : List Tm} (hd : DL d l) (hk : KL k l) (hm : l.length ≤ m) (hm2 : m ≤ 100) : Pq d (m * (k + 1) + 1) l :=
  ⟨hd, Nat.le_trans hm hm2, (Hb.of_KL hk).mono (by have := Nat.mul_le_mul_right (k + 1) hm; omega)⟩
theorem Pq.add {da db Ka Kb : Nat} {a b : List Tm} (ha : Pq da Ka a) (hb : Pq db Kb b) (h1 : da ≤ 12) (h2 : db ≤ 12) : Pq (max da db) (Ka + Kb + 2) (norm (a ++ b)) :=
  Pq.of_norm (DL_append (ha.deg.mono (Nat.le_max_left _ _)) (hb.deg.mono (Nat.le_max_right _ _))) ((ha.hgt.append hb.hgt).mono (by omega)) (by omega)
theorem Pq.mul {da db Ka Kb : Nat} {a b : List Tm} (ha : Pq da Ka a) (hb : Pq db Kb b) (h1 : da + db ≤ 12) : Pq (da + db) (Ka + Kb) (norm (mulL a b)) :=
  Pq.of_norm (DL_mulL ha.deg hb.deg) (ha.hgt.mul hb.hgt) h1
theorem Pq.scale {d K Kc : Nat} {a : List Tm} {c : Rat} (ha : Pq d K a) (hc : lenQ c ≤ Kc) (h1 : d ≤ 12) : Pq d (Kc + K + 1) (norm (scaleL c a)) :=
  Pq.of_norm (DL_scaleL c ha.deg) ((ha.hgt.scale hc).mono (by omega)) h1
theorem Pq.dx {d K : Nat} {p : List Tm} (h : Pq d K p) (hd : d ≤ 12) : Pq d (K + 1) (norm (dxL p)) :=
  Pq.of_norm (DL_dxL h.deg) (h.hgt.mapi _ (fun t => t.i) (fun t _ => rfl) (fun t ht => by have := h.deg t ht; omega)) hd
theorem Pq.dy {d K : Nat} {p : List Tm} (h : Pq d K p) (hd : d ≤ 12) : Pq d (K + 1) (norm (dyL p)) :=
  Pq.of_norm (DL_dyL h.deg) (h.hgt.mapi _ (fun t => t.j) (fun t _ => rfl) (fun t ht => by have := h.deg t ht; omega)) hd
theorem norm_one : norm [⟨0, 0, 1⟩] = [⟨0, 0, 1⟩] := norm_id ⟨fun t ht => by rw [List.mem_singleton] at ht; subst ht; simp only; grind, List.pairwise_singleton _ _⟩
theorem norm_nil : norm [] = [] := norm_id ⟨(fun _ h => nomatch h), List.Pairwise.nil⟩
theorem Pq.nil (d : Nat) : Pq d 1 [] := ⟨(fun _ h => nomatch h), Nat.zero_le _, Hb.nil⟩
theorem Pq.one : Pq 0 4 [⟨0, 0, 1⟩] :=
  ⟨fun t ht => by rw [List.mem_singleton] at ht; subst ht; exact Nat.le_refl _, by simp, (Hb.of_KL (k := 2) (fun t ht => by rw [List.mem_singleton] at ht; subst ht; exact lenQ_one)).mono (by simp)⟩
/-- The powers' heights. -/
theorem Pq.pow {d K : Nat} {a : List Tm} (ha : Pq d K a) : ∀ n, n * d ≤ 12 → Pq (n * d) (n * K + 4) (norm (powL a n))
  | 0, _ => by rw [powL, norm_one, Nat.zero_mul, Nat.zero_mul]; exact Pq.one
  | n + 1, h => by
    rw [Nat.add_mul, Nat.one_mul] at h
    have ih := Pq.pow ha n (by omega)
    have := Pq.mul ih ha (by omega)
    rw [norm_eq ((Eqv.nrm (powL a n)).mul Eqv.rfl')] at this
    rw [Nat.add_mul, Nat.one_mul, Nat.add_mul, Nat.one_mul]
    exact this.mono (Nat.le_refl _) (by omega)
theorem Pq.line {K : Nat} {a b c : Rat} (ha : lenQ a ≤ K) (hb : lenQ b ≤ K) (hc : lenQ c ≤ K) : Pq 1 (3 * K + 4) (ln a b c) := by
  have h : KL K (ln a b c) := fun t ht => by
    simp only [ln, List.mem_cons, List.not_mem_nil, or_false] at ht
    rcases ht with rfl | rfl | rfl <;> assumption
  refine ⟨fun t ht => ?_, by simp [ln], (Hb.of_KL h).mono (by simp [ln]; omega)⟩
  simp only [ln, List.mem_cons, List.not_mem_nil, or_false] at ht
  rcases ht with rfl | rfl | rfl <;> simp

end
section

/-! ### Heights of substitutions -/
/-- One term of a substitution. -/
def KT (d K Kx : Nat) : Nat := K + d * (3 * Kx + 4) + 20
def KS (d K Kx : Nat) : Nat := tri (d + 1) * KT d K Kx + 1
theorem tri_pos (d : Nat) : 1 ≤ tri (d + 1) := by rw [tri]; omega
theorem KT_le (d K Kx : Nat) : KT d K Kx ≤ KS d K Kx := by
  have := Nat.mul_le_mul_right (KT d K Kx) (tri_pos d)
  unfold KS; omega
theorem Pq.line_pow {K n : Nat} {a b c : Rat} (ha : lenQ a ≤ K) (hb : lenQ b ≤ K) (hc : lenQ c ≤ K) (hn : n ≤ 12) : Pq n (n * (3 * K + 4) + 4) (norm (powL (ln a b c) n)) := by
  have h := Pq.pow (Pq.line ha hb hc) n (by omega)
  rwa [Nat.mul_one] at h
/-- A term of a substitution. -/
def sbT (X Y : List Tm) (t : Tm) : List Tm := scaleL t.c (mulL (powL X t.i) (powL Y t.j))
theorem sbL_snoc (X Y : List Tm) (l : List Tm) (t : Tm) : sbL X Y (l ++ [t]) = sbL X Y l ++ sbT X Y t := by
  unfold sbL sbT; rw [List.flatMap_append]; simp
theorem Pq.sbT {d K Kx : Nat} {ax bx cx ay b cy : Rat} {t : Tm} (h1 : lenQ ax ≤ Kx) (h2 : lenQ bx ≤ Kx) (h3 : lenQ cx ≤ Kx) (h4 : lenQ ay ≤ Kx) (h5 : lenQ b ≤ Kx) (h6 : lenQ cy ≤ Kx)
    (hd : d ≤ 12) (ht : t.i + t.j ≤ d) (hK : lenQ t.c ≤ K) : Pq d (KT d K Kx - 2) (norm (sbT (ln ax bx cx) (ln ay b cy) t)) := by
  have p1 := Pq.line_pow (n := t.i) h1 h2 h3 (show t.i ≤ 12 by omega)
  have p2 := Pq.line_pow (n := t.j) h4 h5 h6 (show t.j ≤ 12 by omega)
  have p3 := Pq.mul p1 p2 (show t.i + t.j ≤ 12 by omega)
  have p4 := Pq.scale p3 hK (show t.i + t.j ≤ 12 by omega)
  have e : norm (Go.Proofs.YtealgpgmbflilaaGreatDoor.sbT (ln ax bx cx) (ln ay b cy) t) = norm (scaleL t.c (norm (mulL (norm (powL (ln ax bx cx) t.i)) (norm (powL (ln ay b cy) t.j))))) := by
    refine (norm_eq ?_).symm
    exact ((Eqv.nrm _).trans ((Eqv.nrm _).mul (Eqv.nrm _))).scale t.c
  rw [e]
  refine p4.mono ht ?_
  have := Nat.mul_le_mul_right (3 * Kx + 4) ht
  rw [Nat.add_mul] at this
  unfold KT; omega
theorem Pq.sbl {d K Kx : Nat} {ax bx cx ay b cy : Rat} (h1 : lenQ ax ≤ Kx) (h2 : lenQ bx ≤ Kx) (h3 : lenQ cx ≤ Kx) (h4 : lenQ ay ≤ Kx) (h5 : lenQ b ≤ Kx) (h6 : lenQ cy ≤ Kx)
    (hd : d ≤ 12) {p : List Tm} (hD : DL d p) (hK : KL K p) : ∀ k, k ≤ p.length → Pq d (k * KT d K Kx + 1) (norm (sbL (ln ax bx cx) (ln ay b cy) (p.take k)))
  | 0, _ => by rw [List.take_zero, show sbL (ln ax bx cx) (ln ay b cy) [] = [] from rfl, norm_nil, Nat.zero_mul]; exact Pq.nil d
  | k + 1, hk => by
    have ih := Pq.sbl h1 h2 h3 h4 h5 h6 hd hD hK k (by omega)
    have hmem := getD_mem p (d := (⟨0, 0, 0⟩ : Tm)) (show k < p.length by omega)
    have pt := Pq.sbT (t := p.getD k ⟨0, 0, 0⟩) h1 h2 h3 h4 h5 h6 hd (hD _ hmem) (hK _ hmem)
    have pa := Pq.add ih pt hd hd
    have e : p.take (k + 1) = p.take k ++ [p.getD k ⟨0, 0, 0⟩] := by
      rw [List.take_add_one, List.getElem?_eq_getElem (by omega)]; simp [List.getD, show k < p.length by omega]
    rw [e, sbL_snoc, ← norm_eq ((Eqv.nrm _).append (Eqv.nrm _))]
    refine pa.mono (by omega) ?_
    have : 20 ≤ KT d K Kx := by unfold KT; omega
    rw [Nat.add_mul]; omega
theorem Pq.shift {d K Kx : Nat} {ax bx cx ay b cy : Rat} {p : List Tm} (hp : Pq d K p) (h1 : lenQ ax ≤ Kx) (h2 : lenQ bx ≤ Kx) (h3 : lenQ cx ≤ Kx) (h4 : lenQ ay ≤ Kx) (h5 : lenQ b ≤ Kx) (h6 : lenQ cy ≤ Kx)
    (hd : d ≤ 12) : Pq d (KS d K Kx) (norm (shL p ax bx cx ay b cy)) := by
  have h := Pq.sbl h1 h2 h3 h4 h5 h6 hd (DL_norm hp.deg) hp.nsz (norm p).length (Nat.le_refl _)
  rw [List.take_length] at h
  unfold shL
  rw [← norm_eq (Eqv.sub Eqv.rfl' Eqv.rfl' (Eqv.nrm p))]
  exact h.mono (Nat.le_refl _) (by have := Nat.mul_le_mul_right (KT d K Kx) hp.nlen; unfold KS; omega)
/-! ### Sums as the code makes them -/
/-- Coefficients times a weight, added in order. -/
def linF (φ : Nat → Nat → Rat) (l : List Tm) : Rat := l.foldl (fun s t => s + t.c * φ t.i t.j) 0
theorem linF_gen (φ : Nat → Nat → Rat) : ∀ (l : List Tm) (s : Rat), l.foldl (fun s t => s + t.c * φ t.i t.j) s = s + lin φ l
  | [], s => by simp only [List.foldl_nil, lin]; grind
  | t :: l, s => by rw [List.foldl_cons, linF_gen φ l, lin]; grind
theorem linF_eq (φ : Nat → Nat → Rat) (l : List Tm) : linF φ l = lin φ l := by rw [linF, linF_gen]; grind
theorem linF_snoc (φ : Nat → Nat → Rat) (l : List Tm) (t : Tm) : linF φ (l ++ [t]) = linF φ l + t.c * φ t.i t.j := by
  unfold linF; rw [List.foldl_append]; rfl
theorem lenQ_linF {φ : Nat → Nat → Rat} {K Kf : Nat} : ∀ {l : List Tm} (n : Nat), n ≤ l.length → KL K l → (∀ t ∈ l, lenQ (φ t.i t.j) ≤ Kf) → lenQ (linF φ (l.take n)) ≤ 2 + n * (K + Kf + 1)
  | l, 0, _, _, _ => by rw [List.take_zero]; have := lenQ_zero; unfold linF; simp only [List.foldl_nil]; omega
  | l, n + 1, hn, hK, hf => by
    have ih := lenQ_linF n (by omega) hK hf
    have hmem := getD_mem l (d := (⟨0, 0, 0⟩ : Tm)) (show n < l.length by omega)
    have e : l.take (n + 1) = l.take n ++ [l.getD n ⟨0, 0, 0⟩] := by
      rw [List.take_add_one, List.getElem?_eq_getElem (by omega)]; simp [List.getD, show n < l.length by omega]
    rw [e, linF_snoc]
    have := lenQ_add (linF φ (l.take n)) ((l.getD n ⟨0, 0, 0⟩).c * φ (l.getD n ⟨0, 0, 0⟩).i (l.getD n ⟨0, 0, 0⟩).j)
    have := lenQ_mul (l.getD n ⟨0, 0, 0⟩).c (φ (l.getD n ⟨0, 0, 0⟩).i (l.getD n ⟨0, 0, 0⟩).j)
    have := hK _ hmem
    have := hf _ hmem
    rw [Nat.add_mul]; omega
/-! ### The integrals of monomials over the unit triangle -/
/-- 1 2 .. n. -/
def fq : Nat → Rat
  | 0 => 1
  | n + 1 => fq n * (((n + 1 : Nat) : Int) : Rat)
theorem fq_ne : ∀ n, fq n ≠ 0
  | 0 => by rw [fq]; decide
  | n + 1 => by
    rw [fq]; intro h
    rcases Rat.mul_eq_zero.1 h with h | h
    · exact fq_ne n h
    · exact cast_ne n h
theorem up_fq (q : Rat) : ∀ p, upQ q p = q * fq p
  | 0 => by rw [upQ, fq]; grind
  | p + 1 => by rw [upQ, up_fq q p, fq]; grind
theorem down_fq (q : Rat) : ∀ n, downQ q n = q / fq n
  | 0 => by rw [downQ, fq]; grind
  | n + 1 => by
    have := fq_ne n
    have := cast_ne n
    have := fq_ne (n + 1)
    rw [downQ, down_fq q n]
    rw [fq] at *
    grind
theorem bt_fq : ∀ i j : Nat, bt i j * fq (i + j + 1) = fq i * fq j := by
  have h0 : ∀ j : Nat, bt 0 j * fq (0 + j + 1) = fq 0 * fq j := fun j => by
    have h1 := lam_mul j 0
    have e : bt 0 j = lam j 0 := rfl
    rw [e, Nat.zero_add, fq, fq]; grind
  intro i
  induction i with
  | zero => exact h0
  | succ i ih =>
    intro j
    have h1 := (bt_step i j).1
    have h2 := ih j
    have e : fq (i + 1 + j + 1) = fq (i + j + 1) * (((i + j + 2 : Nat) : Int) : Rat) := by
      rw [show i + 1 + j + 1 = (i + j + 1) + 1 by omega, fq]
    have e2 : fq (i + 1) = fq i * (((i + 1 : Nat) : Int) : Rat) := rfl
    rw [e, e2]; grind
theorem ratio_mu (i j : Nat) : ratioQ (i + j + 2) [i, j] = mu i j := by
  unfold ratioQ
  rw [down_fq]
  simp only [List.foldl_cons, List.foldl_nil, up_fq]
  have h1 := mu_bt i j
  have h2 := bt_fq (i + 1) j
  have n1 := cast_ne i
  have n2 := fq_ne (i + j + 2)
  have e : fq (i + 1 + j + 1) = fq (i + j + 2) := by congr 1; omega
  have e2 : fq (i + 1) = fq i * (((i + 1 : Nat) : Int) : Rat) := rfl
  rw [e, e2] at h2
  have h3 : (((i + 1 : Nat) : Int) : Rat) * (mu i j * fq (i + j + 2) - fq i * fq j) = 0 := by grind
  rcases Rat.mul_eq_zero.1 h3 with h | h
  · exact absurd h n1
  · grind
theorem lenQ_ratio2 (i j : Nat) (hi : i ≤ 12) (hj : j ≤ 12) : lenQ (ratioQ (i + j + 2) [i, j]) ≤ 300 := by
  unfold ratioQ
  have h1 := lenQ_down ([i, j].foldl upQ 1) (i + j + 2) (by omega)
  simp only [List.foldl_cons, List.foldl_nil] at *
  have h2 := lenQ_up 1 i (by omega)
  have h3 := lenQ_up (upQ 1 i) j (by omega)
  have h4 := lenQ_one
  omega
theorem lenQ_mu (i j : Nat) (h : i + j ≤ 12) : lenQ (mu i j) ≤ 300 := by rw [← ratio_mu]; exact lenQ_ratio2 i j (by omega) (by omega)
theorem lenQ_lam (i j : Nat) (h : i ≤ 12) : lenQ (lam i j) ≤ 4 := lenQ_of 1 ((i + 1 : Nat) : Int) (by omega) (by omega) (by omega) (by omega)

end
section

/-! ### Sizes of integrals -/
def SG (d K Kp : Nat) : Nat := 2 + tri (d + 1) * (KS d K (2 * Kp + 1) + 5)
def TR (d K Kp : Nat) : Nat := (8 * Kp + 5) + (2 + tri (d + 1) * (KS d K (2 * Kp + 1) + 301))
theorem lenQ_less {K : Nat} {x y : Rat} (hx : lenQ x ≤ K) (hy : lenQ y ≤ K) : lenQ (x - y) ≤ 2 * K + 1 := by have := lenQ_sub x y; omega
def PtK (K : Nat) (a : Pt) : Prop := lenQ a.1 ≤ K ∧ lenQ a.2 ≤ K
theorem PtK.mono {K K' : Nat} {a : Pt} (h : PtK K a) (hk : K ≤ K') : PtK K' a := ⟨Nat.le_trans h.1 hk, Nat.le_trans h.2 hk⟩
theorem Pq.seg {d K Kp : Nat} {p : List Tm} (hq : Pq d K p) (hd : d ≤ 12) {a b : Pt} (ha : PtK Kp a) (hb : PtK Kp b) (hk : 2 ≤ Kp) : Pq d (KS d K (2 * Kp + 1)) (norm (shL p (b.1 - a.1) 0 a.1 (b.2 - a.2) 0 a.2)) := by
  have h0 := lenQ_zero
  have h1 := ha.1
  have h2 := ha.2
  exact Pq.shift hq (lenQ_less hb.1 ha.1) (by omega) (by omega) (lenQ_less hb.2 ha.2) (by omega) (by omega) hd
theorem segQ_lin (p : List Tm) (a b : Pt) : linF lam (norm (shL p (b.1 - a.1) 0 a.1 (b.2 - a.2) 0 a.2)) = segQ p a b := by rw [linF_eq, lin_norm]; rfl
theorem lenQ_seg {d K Kp : Nat} {p : List Tm} (hq : Pq d K p) (hd : d ≤ 12) {a b : Pt} (ha : PtK Kp a) (hb : PtK Kp b) (hk : 2 ≤ Kp) : lenQ (segQ p a b) ≤ SG d K Kp := by
  have h := Pq.seg hq hd ha hb hk
  have hn := h.nrm hd
  rw [norm_norm] at hn
  have h1 : _ ≤ 2 + _ * (KS d K (2 * Kp + 1) + 5) := lenQ_linF (φ := lam) (Kf := 4) (norm (shL p (b.1 - a.1) 0 a.1 (b.2 - a.2) 0 a.2)).length (Nat.le_refl _) h.siz (fun t ht => lenQ_lam _ _ (by have := h.deg t ht; omega))
  rw [List.take_length, segQ_lin] at h1
  have hl := h.nlen
  rw [norm_norm] at hl
  have := Nat.mul_le_mul_right (KS d K (2 * Kp + 1) + 5) hl
  unfold SG; omega
theorem lenQ_tw {K : Nat} {a b c : Pt} (ha : PtK K a) (hb : PtK K b) (hc : PtK K c) : lenQ (twQ a b c) ≤ 8 * K + 5 := by
  have h1 := lenQ_less hb.1 ha.1
  have h2 := lenQ_less hc.2 ha.2
  have h3 := lenQ_less hc.1 ha.1
  have h4 := lenQ_less hb.2 ha.2
  have h5 := lenQ_mul (b.1 - a.1) (c.2 - a.2)
  have h6 := lenQ_mul (c.1 - a.1) (b.2 - a.2)
  have h7 := lenQ_sub ((b.1 - a.1) * (c.2 - a.2)) ((c.1 - a.1) * (b.2 - a.2))
  unfold twQ; omega
theorem Pq.triS {d K Kp : Nat} {p : List Tm} (hq : Pq d K p) (hd : d ≤ 12) {a b c : Pt} (ha : PtK Kp a) (hb : PtK Kp b) (hc : PtK Kp c) : Pq d (KS d K (2 * Kp + 1)) (norm (shL p (b.1 - a.1) (c.1 - a.1) a.1 (b.2 - a.2) (c.2 - a.2) a.2)) := by
  have h1 := ha.1
  have h2 := ha.2
  exact Pq.shift hq (lenQ_less hb.1 ha.1) (lenQ_less hc.1 ha.1) (by omega) (lenQ_less hb.2 ha.2) (lenQ_less hc.2 ha.2) (by omega) hd
theorem triQ_lin (p : List Tm) (a b c : Pt) : twQ a b c * linF mu (norm (shL p (b.1 - a.1) (c.1 - a.1) a.1 (b.2 - a.2) (c.2 - a.2) a.2)) = triQ p a b c := by rw [linF_eq, lin_norm]; rfl
theorem lenQ_triS {d K Kp : Nat} {p : List Tm} (hq : Pq d K p) (hd : d ≤ 12) {a b c : Pt} (ha : PtK Kp a) (hb : PtK Kp b) (hc : PtK Kp c) :
    lenQ (linF mu (norm (shL p (b.1 - a.1) (c.1 - a.1) a.1 (b.2 - a.2) (c.2 - a.2) a.2))) ≤ 2 + tri (d + 1) * (KS d K (2 * Kp + 1) + 301) := by
  have h := Pq.triS hq hd ha hb hc
  have hn := h.nrm hd
  rw [norm_norm] at hn
  have h1 : _ ≤ 2 + _ * (KS d K (2 * Kp + 1) + 301) := lenQ_linF (φ := mu) (Kf := 300) (norm (shL p (b.1 - a.1) (c.1 - a.1) a.1 (b.2 - a.2) (c.2 - a.2) a.2)).length (Nat.le_refl _) h.siz (fun t ht => lenQ_mu _ _ (by have := h.deg t ht; omega))
  rw [List.take_length] at h1
  have hl := h.nlen
  rw [norm_norm] at hl
  have := Nat.mul_le_mul_right (KS d K (2 * Kp + 1) + 301) hl
  omega
theorem lenQ_tri {d K Kp : Nat} {p : List Tm} (hq : Pq d K p) (hd : d ≤ 12) {a b c : Pt} (ha : PtK Kp a) (hb : PtK Kp b) (hc : PtK Kp c) : lenQ (triQ p a b c) ≤ TR d K Kp := by
  rw [← triQ_lin]
  have h1 := lenQ_triS hq hd ha hb hc
  have h2 := lenQ_tw ha hb hc
  have h3 := lenQ_mul (twQ a b c) (linF mu (norm (shL p (b.1 - a.1) (c.1 - a.1) a.1 (b.2 - a.2) (c.2 - a.2) a.2)))
  unfold TR; omega
theorem lenQ_flow {d1 K1 d2 K2 Kp n : Nat} {g h : List Tm} (hg : Pq d1 K1 g) (hh : Pq d2 K2 h) (hd1 : d1 ≤ 12) (hd2 : d2 ≤ 12) {a b : Pt} (ha : PtK Kp a) (hb : PtK Kp b) (hk : 2 ≤ Kp)
    (hn : SG d1 K1 Kp + SG d2 K2 Kp + 4 * Kp + 3 ≤ n) : lenQ (flowQ g h a b) ≤ n := by
  have h1 := lenQ_seg hg hd1 ha hb hk
  have h2 := lenQ_seg hh hd2 ha hb hk
  have h3 := lenQ_less hb.1 ha.1
  have h4 := lenQ_less hb.2 ha.2
  have h5 := lenQ_mul (b.2 - a.2) (segQ g a b)
  have h6 := lenQ_mul (b.1 - a.1) (segQ h a b)
  have h7 := lenQ_sub ((b.2 - a.2) * segQ g a b) ((b.1 - a.1) * segQ h a b)
  unfold flowQ; omega
/-- The fan's triangles, added in order: a is the first corner, l the others. -/
def fanF (p : List Tm) (a : Pt) (l : List Pt) : Nat → Rat
  | 0 => 0
  | k + 1 => fanF p a l k + triQ p a (l.getD k (0, 0)) (l.getD (k + 1) (0, 0))
theorem fanF_cons (p : List Tm) (a b : Pt) (l : List Pt) : ∀ k, fanF p a (b :: l) (k + 1) = triQ p a b (l.getD 0 (0, 0)) + fanF p a l k
  | 0 => by simp only [fanF, List.getD_cons_zero, List.getD_cons_succ]; grind
  | k + 1 => by rw [fanF, fanF_cons p a b l k, fanF]; simp only [List.getD_cons_succ]; grind
theorem fanF_eq (p : List Tm) (a : Pt) : ∀ l : List Pt, fanF p a l (l.length - 1) = fanQ p a l
  | [] => rfl
  | [b] => rfl
  | b :: c :: l => by
    have ih := fanF_eq p a (c :: l)
    rw [show (b :: c :: l).length - 1 = (c :: l).length - 1 + 1 by simp, fanF_cons, ih, fanQ]; rfl
theorem lenQ_fanF {d K Kp : Nat} {p : List Tm} (hq : Pq d K p) (hd : d ≤ 12) {a : Pt} {l : List Pt} (ha : PtK Kp a) (hl : ∀ x ∈ l, PtK Kp x) : ∀ k, k + 1 ≤ l.length → lenQ (fanF p a l k) ≤ 2 + k * (TR d K Kp + 1)
  | 0, _ => by rw [fanF]; have := lenQ_zero; omega
  | k + 1, hk => by
    have ih := lenQ_fanF hq hd ha hl k (by omega)
    have h1 := lenQ_tri hq hd ha (hl _ (getD_mem l (d := (0, 0)) (show k < l.length by omega))) (hl _ (getD_mem l (d := (0, 0)) (show k + 1 < l.length by omega)))
    have h2 := lenQ_add (fanF p a l k) (triQ p a (l.getD k (0, 0)) (l.getD (k + 1) (0, 0)))
    rw [fanF, Nat.add_mul]; omega
theorem poly_fan (p : List Tm) (a : Pt) (l : List Pt) : fanF p a l (l.length - 1) = polyQ p (a :: l) := fanF_eq p a l
theorem polyQ_eqv {p q : List Tm} (h : Eqv p q) (l : List Pt) : polyQ p l = polyQ q l := by
  have key : ∀ (a : Pt) (l : List Pt), fanQ p a l = fanQ q a l := fun a l => by
    induction l with
    | nil => rfl
    | cons b l ih =>
      rcases l with _ | ⟨c, l⟩
      · rfl
      · rw [fanQ, fanQ, ih, triQ_eqv h]
  rcases l with _ | ⟨a, l⟩
  · rfl
  · exact key a l
theorem flowQ_eqv {p q r s : List Tm} (h : Eqv p q) (h2 : Eqv r s) (a b : Pt) : flowQ p r a b = flowQ q s a b := by unfold flowQ; rw [segQ_eqv h, segQ_eqv h2]

end
section
theorem fa_129_0 (b off : Nat) (w : World) : (Instr.fieldAt 129 (.pointer (some ⟨b, off, none⟩)) 0).run Tryz.prog w = .ok (.pointer (some ⟨b, off + 0, none⟩)) w := by
  simp [go_sem]
theorem rs_7_0 (c0 c1 c2 c3 c4 c5 c6 : Value) : readAt false 1 #[c0, c1, c2, c3, c4, c5, c6] 0 = some c0 := rfl
theorem fa_129_1 (b off : Nat) (w : World) : (Instr.fieldAt 129 (.pointer (some ⟨b, off, none⟩)) 1).run Tryz.prog w = .ok (.pointer (some ⟨b, off + 1, none⟩)) w := by
  simp [go_sem]
theorem rs_7_1 (c0 c1 c2 c3 c4 c5 c6 : Value) : readAt false 1 #[c0, c1, c2, c3, c4, c5, c6] 1 = some c1 := rfl
theorem bs_51_2_0_1 (x0 : Int) (x1 : Int) (w : World) : (Instr.buildSlice 51 2 [(0, .int .i64 x0), (1, .int .i64 x1)].toArray).run Tryz.prog w = .ok (.slice (some ⟨w.heap.size, 0, none⟩) 2 2) (w.alloc (.cells #[.int .i64 x0, .int .i64 x1] 3 (0, 0))) := by
  simp [go_sem]
theorem fa_129_2 (b off : Nat) (w : World) : (Instr.fieldAt 129 (.pointer (some ⟨b, off, none⟩)) 2).run Tryz.prog w = .ok (.pointer (some ⟨b, off + 2, none⟩)) w := by
  simp [go_sem]
theorem rd_7_2_5 (c0 c1 c2 c3 c4 c5 c6 : Value) : readAt true 5 #[c0, c1, c2, c3, c4, c5, c6] 2 = some (.agg #[c2, c3, c4, c5, c6]) := rfl
theorem len_slice_47 (a : Option Addr) (n c : Nat) (w : World) (ty : TypeId) (cs : Array Bool) : (Go.builtin .len #[47] ty cs #[.slice a n c]).run Tryz.prog w = .ok (.value (.int .i64 n)) w := by
  simp [go_sem]
theorem ix_47 (b off n c j : Nat) (h : j < n) (w : World) : (Instr.indexAt 47 (.slice (some ⟨b, off, none⟩) n c) (.int .i64 (j : Int))).run Tryz.prog w = .ok (.pointer (some ⟨b, off + j * 7, none⟩)) w := by
  simpa using indexAt_slice Tryz.runUnderlying47 Tryz.sizeOf129 b off n c j h w
abbrev T0 : Tm := ⟨0, 0, 0⟩
abbrev encT (t : Tm) : Value := .agg #[.int .i64 ((t.i : Nat) : Int), .int .i64 ((t.j : Nat) : Int), .int .u64 (lowN t.c.num.natAbs), .string (bigN t.c.num.natAbs), .bool (decide (t.c.num < 0)), .int .u64 (lowN (t.c.den - 1)), .string (bigN (t.c.den - 1))]
theorem zeroT (w : World) : (zeroValue 129).run Tryz.prog w = .ok (encT T0) w := Tryz.zeroValue129 w
/-- How the code orders the powers. -/
def ordT (s t : Tm) : Int := orI [cmpZ ((s.i + s.j : Nat) : Int) ((t.i + t.j : Nat) : Int), cmpZ ((s.j : Nat) : Int) ((t.j : Nat) : Int)]
theorem cmpZ_lt (i k : Int) : cmpZ i k < 0 ↔ i < k := by unfold cmpZ; split <;> (try split) <;> omega
theorem cmpZ_eq (i k : Int) : cmpZ i k = 0 ↔ i = k := by unfold cmpZ; split <;> (try split) <;> omega
theorem ordT_lt (s t : Tm) : ordT s t < 0 ↔ ltT s t = true := by
  rw [ltT_iff]
  unfold ordT
  have h1 := cmpZ_lt ((s.i + s.j : Nat) : Int) ((t.i + t.j : Nat) : Int)
  have h2 := cmpZ_eq ((s.i + s.j : Nat) : Int) ((t.i + t.j : Nat) : Int)
  have h3 := cmpZ_lt ((s.j : Nat) : Int) ((t.j : Nat) : Int)
  simp only [orI]
  split
  · omega
  · split
    · omega
    · rename_i h4 h5; have h6 := Decidable.of_not_not h5; omega

theorem C_porder (s t : Tm) (hs : s.i + s.j ≤ 1000000) (ht : t.i + t.j ≤ 1000000) : CtrV Tryz.prog 118 [encT s, encT t] (.int .i64 (ordT s t)) := by
  refine fn_intro Tryz.func118 rfl Tryz.ntmps118 nb ?_
  intro S w0 a hS h
  refine gC h (zs (zr (zx rfl fun b2 => zx rfl fun b3 => za rfl (zn (zs (yD mixed_YtealgpgmbflilaaGreatDoor [0, 1, 2, 3, 4, 5, 6, 7, 8, 9, 11, 12, 13, 14, 10, 15, 16, 17, 18] (floatsOK_none (by kernel_rfl)) (yp rfl (.fieldAddr rfl (fa_129_0 _ _)) (yd rfl rfl mr Tryz.isAgg3 Tryz.sizeOf3 (rs_7_0 _ _ _ _ _ _ _) ?_)))))))); clear h
  refine yp rfl (.fieldAddr rfl (fa_129_1 _ _)) (yd rfl rfl mr Tryz.isAgg3 Tryz.sizeOf3 (rs_7_1 _ _ _ _ _ _ _) ?_)
  refine yp rfl (Pure1.cast (v' := (.int .i64 ((((s).i) + ((s).j) : Nat) : Int))) (.add rfl rfl) (by show Value.int _ _ = Value.int _ _; congr 1)) (yp rfl (.fieldAddr rfl (fa_129_0 _ _)) (yd rfl rfl mr Tryz.isAgg3 Tryz.sizeOf3 (rs_7_0 _ _ _ _ _ _ _) ?_))
  refine yp rfl (.fieldAddr rfl (fa_129_1 _ _)) (yd rfl rfl mr Tryz.isAgg3 Tryz.sizeOf3 (rs_7_1 _ _ _ _ _ _ _) ?_)
  refine yp rfl (Pure1.cast (v' := (.int .i64 ((((t).i) + ((t).j) : Nat) : Int))) (.add rfl rfl) (by show Value.int _ _ = Value.int _ _; congr 1)) (yp rfl (.fieldAddr rfl (fa_129_1 _ _)) (yd rfl rfl mr Tryz.isAgg3 Tryz.sizeOf3 (rs_7_1 _ _ _ _ _ _ _) ?_))
  refine yp rfl (.fieldAddr rfl (fa_129_1 _ _)) (yd rfl rfl mr Tryz.isAgg3 Tryz.sizeOf3 (rs_7_1 _ _ _ _ _ _ _) ?_)
  refine yv [_, _] rfl rfl Tryz.call166 (C_cmpZ (((((s).i) + ((s).j) : Nat) : Int)) (((((t).i) + ((t).j) : Nat) : Int))) (yv [_, _] rfl rfl Tryz.call166 (C_cmpZ ((((s).j : Nat) : Int)) ((((t).j : Nat) : Int))) ?_)
  refine head_buildRow hS rfl (by kernel_rfl) [(_, _), (_, _)] rfl (bs_51_2_0_1 _ _) (List.map enci [cmpZ ((s.i + s.j : Nat) : Int) ((t.i + t.j : Nat) : Int), cmpZ ((s.j : Nat) : Int) ((t.j : Nat) : Int)]) rfl (by decide) ?_; intro b21
  refine yw [_] rfl rfl Tryz.call165 (C_Or _ _ ([cmpZ (((((s).i) + ((s).j) : Nat) : Int)) (((((t).i) + ((t).j) : Nat) : Int)), cmpZ ((((s).j : Nat) : Int)) ((((t).j : Nat) : Int))]) nb) (yp rfl (.assign rfl) (yn (zt ?_))); intro a w h
  refine retV h (results1 h rfl (.tmp rfl)) ?_
  rfl

theorem C_may (t : Tm) (ht : t.i + t.j ≤ 12) : CtrV Tryz.prog 111 [encT t] (.int .i64 0) := by
  refine fn_intro Tryz.func111 rfl Tryz.ntmps111 nb ?_
  intro S w0 a hS h
  refine gC h (zs (zr (zx rfl fun b1 => za rfl (zn (zs (zb (zs (zr (zp (.fieldAddr rfl (fa_129_0 _ _)) (zd rfl mr Tryz.isAgg3 Tryz.sizeOf3 (rs_7_0 _ _ _ _ _ _ _) ?_)))))))))); clear h; intro a w h
  refine gL h (zp (.lss rfl rfl) (zm rfl ?_)); clear h; intro a w h
  refine by_bool h (fun hc7 h => (by exfalso; have := of_decide_eq_true hc7; omega)) (fun hc7 h => ?_)
  refine gL h (zq 7 rfl rfl (.fieldAddr rfl (fa_129_1 _ _)) ?_); clear h; intro a w h
  refine wpl_guard 7 h rfl rfl (op_load h rfl mr Tryz.isAgg3 Tryz.sizeOf3 (rs_7_1 _ _ _ _ _ _ _) (by decide) ?_); clear h; intro a h
  refine gL h (zq 7 rfl rfl (.lss rfl rfl) (zp (.pickF rfl rfl) (za rfl (zn ?_)))); clear h; intro a w h
  change Code.wp _ _ _ _ _
  refine cond_split h rfl (fun hc3 => (by exfalso; have := of_decide_eq_true hc3; omega)) (fun hc3 => ?_)
  refine gC h (zs (zr (zp (.fieldAddr rfl (fa_129_0 _ _)) (zd rfl mr Tryz.isAgg3 Tryz.sizeOf3 (rs_7_0 _ _ _ _ _ _ _) ?_)))); clear h; intro a w h
  refine gL h (zp (.gtr rfl rfl) (zm rfl ?_)); clear h; intro a w h
  refine by_bool h (fun hc16 h => (by exfalso; have := of_decide_eq_true hc16; omega)) (fun hc16 h => ?_)
  refine gL h (zq 16 rfl rfl (.fieldAddr rfl (fa_129_1 _ _)) ?_); clear h; intro a w h
  refine wpl_guard 16 h rfl rfl (op_load h rfl mr Tryz.isAgg3 Tryz.sizeOf3 (rs_7_1 _ _ _ _ _ _ _) (by decide) ?_); clear h; intro a h
  refine gL h (zq 16 rfl rfl (.fieldAddr rfl (fa_129_0 _ _)) ?_); clear h; intro a w h
  refine wpl_guard 16 h rfl rfl (op_load h rfl mr Tryz.isAgg3 Tryz.sizeOf3 (rs_7_0 _ _ _ _ _ _ _) (by decide) ?_); clear h; intro a h
  refine gL h (zq 16 rfl rfl (.sub rfl rfl) (zq 16 rfl rfl (.gtr rfl rfl) (zp (.pickF rfl rfl) (za rfl (zn ?_))))); clear h; intro a w h
  change Code.wp _ _ _ _ _
  refine cond_split h rfl (fun hc12 => (by exfalso; have := of_decide_eq_true hc12; omega)) (fun hc12 => ?_)
  refine gC h (zk (zs (zr (za rfl (zn (zt ?_)))))); clear h; intro a w h
  refine retV h (results1 h rfl (.tmp rfl)) ?_
  rfl

theorem C_gone (t : Tm) : CtrV Tryz.prog 158 [encT t] (.bool (decide (t.c = 0))) := by
  refine fn_intro Tryz.func158 rfl Tryz.ntmps158 nb ?_
  intro S w0 a hS h
  refine gC h (zs (zr (zx rfl fun b1 => za rfl (zn (zs (zr (zp (.fieldAddr rfl (fa_129_2 _ _)) (zd rfl mr Tryz.isAgg44 Tryz.sizeOf44 (rd_7_2_5 _ _ _ _ _ _ _) ?_)))))))); clear h; intro a w h
  refine gL h (zv [_] rfl Tryz.call112 (C_QSign _) (zp (.eql rfl rfl) (za rfl (zn (zt ?_))))); clear h; intro a w h
  refine retV h (results1 h rfl (.tmp rfl)) ?_
  show Value.bool _ = Value.bool _; congr 1; rw [Bool.eq_iff_iff, beq_iff_eq, decide_eq_true_iff, Int.sign_eq_zero_iff_zero]; exact Rat.num_eq_zero

/-- The index of the first term without coefficient, else -1. -/
def idxZ : List Tm → Nat → Int
  | [], _ => -1
  | x :: l, i => if x.c = 0 then (i : Int) else idxZ l (i + 1)
theorem idxZ_step (l : List Tm) (i : Nat) (h : i < l.length) : idxZ (l.drop i) i = if (l.getD i T0).c = 0 then (i : Int) else idxZ (l.drop (i + 1)) (i + 1) := by
  rw [List.drop_eq_getElem_cons h, idxZ]; simp [List.getD, h]
theorem idxZ_none : ∀ (l : List Tm) (i : Nat), idxZ l i = -1 → l.filter (fun t => decide (t.c ≠ 0)) = l
  | [], _, _ => rfl
  | x :: l, i, h => by
    rw [idxZ] at h
    split at h
    · omega
    · rename_i hx; rw [List.filter_cons, if_pos (by simpa using hx), idxZ_none l (i + 1) h]
theorem idxZ_some : ∀ (l : List Tm) (i k : Nat), idxZ l i = (k : Int) → i ≤ k ∧ k - i < l.length ∧ (l.getD (k - i) T0).c = 0 ∧ (l.take (k - i)).filter (fun t => decide (t.c ≠ 0)) = l.take (k - i)
  | [], i, k, h => by rw [idxZ] at h; omega
  | x :: l, i, k, h => by
    rw [idxZ] at h
    split at h
    · rename_i hx
      have : k = i := by omega
      subst this
      simp [hx]
    · rename_i hx
      obtain ⟨h1, h2, h3, h4⟩ := idxZ_some l (i + 1) k h
      have e : k - i = (k - (i + 1)) + 1 := by omega
      rw [e]
      refine ⟨by omega, by simp; omega, by simpa using h3, ?_⟩
      rw [List.take_succ_cons, List.filter_cons, if_pos (by simpa using hx), h4]

theorem C_IndexZ (b c : Nat) (p : List Tm) (R : List Value) (σ : List (Nat × Obj)) (Φ : List SPred) (hn : p.length ≤ 1000000) :
    CtrM Tryz.prog 190 [.slice (some ⟨b, 0, none⟩) p.length c, .func (.func 158) #[] #[]] ((b, .cells (cellsOf encT p ++ R).toArray 129 (0, 0)) :: σ) Φ (fun v σ' Φ' => v = .int .i64 (idxZ p 0) ∧ σ' = ((b, .cells (cellsOf encT p ++ R).toArray 129 (0, 0)) :: σ) ∧ Φ' = Φ) := by
  refine fn_introM Tryz.func190 rfl Tryz.ntmps190 nb ?_
  intro S w0 a w hS h
  refine gC h (zs (zr (za rfl (zn (zs (zs (zr (zm rfl (zp (.builtin [_] rfl (len_slice_47 _ _ _)) (zm rfl (zn (zb ?_)))))))))))); clear h; intro a w h
  refine wp_loop_inv (fun (i : Nat) a w => i ≤ p.length ∧ (idxZ p 0 = idxZ (p.drop i) i) ∧ St 19 S w0 [(0, .slice (some ⟨b, 0, none⟩) p.length c), (1, .func (.func 158) #[] #[]), (7, .int .i64 ((p.length : Nat) : Int)), (8, .int .i64 ((i : Nat) : Int))] ((b, .cells (cellsOf encT (p) ++ R).toArray 129 (0, 0)) :: σ) (Φ) a w) (fun i => p.length - i) 0 (⟨Nat.zero_le _, rfl, by exact (h).sub (subL ⟨rfl, rfl, rfl, rfl, trivial⟩)⟩) ?_; clear h
  rintro i a w ⟨hi_i, hinv_i, h⟩
  refine gC h (zs (zr (zp (.lss rfl rfl) (zn (zs ?_))))); clear h; intro a w h
  refine cond_split h rfl (fun hc9 => ?_) (fun hc9 => ?_)
  · skip
    have hlt_i : i < p.length := by have := of_decide_eq_true hc9; omega
    refine gC h (zk (zs (zb (zs (zr (zm rfl (za rfl (zn (zs (zr (zm rfl (zm rfl (zm rfl (zp (.indexAddr rfl rfl (ix_47 _ _ _ _ _ (by omega))) (zd rfl mm Tryz.isAgg129 Tryz.sizeOf129 (read_cellsR (k := 7) (fun _ => rfl) ((fun _ => rfl)) p R T0 i (by omega)) ?_))))))))))))))); clear h; intro a w h
    refine wpl_plain (op_callVx h (fs := []) (cs := []) rfl (vs := [_]) rfl Tryz.call158 (C_gone (p.getD i T0)) (by decide) ?_); clear h; intro a w h
    refine by_bool h (fun hc16 h => ?_) (fun hc16 h => ?_)
    · skip
      refine wpList_nil ?_
      change Code.wp _ _ _ _ _
      refine cond_true h rfl ?_
      refine gC h (zs (zr (zm rfl (za rfl (zn (zt ?_)))))); clear h; intro a w h
      refine endM h (results1 h rfl (.tmp rfl)) ⟨by rw [hinv_i, idxZ_step p i hlt_i, if_pos (of_decide_eq_true hc16)], rfl, rfl⟩ (List.Sublist.refl _) (fun _ h => h)
    · skip
      refine wpList_nil ?_
      change Code.wp _ _ _ _ _
      refine cond_false h rfl ?_
      refine gC h (zk (zr (zp (Pure1.cast (v' := (.int .i64 ((i + 1 : Nat) : Int))) (.add rfl rfl) (by show Value.int _ _ = Value.int _ _; congr 1)) (zm rfl (zn ?_))))); clear h; intro a w h
      exact ⟨i + 1, ⟨by omega, by rw [hinv_i, idxZ_step p i hlt_i, if_neg (of_decide_eq_false hc16)], h.sub sA⟩, by omega⟩
  · skip
    have heq_i : p.length = i := by have := of_decide_eq_false hc9; omega
    subst heq_i
    refine gC h (ze (zs (zr (za rfl (zn (zt ?_)))))); clear h; intro a w h
    refine endM h (results1 h rfl (.tmp rfl)) ⟨by rw [hinv_i, List.drop_length]; rfl, rfl, rfl⟩ (List.Sublist.refl _) (fun _ h => h)
end
section
theorem st_7_0_7 (c0 c1 c2 c3 c4 c5 c6 v0 v1 v2 v3 v4 v5 v6 : Value) : setFrom #[c0, c1, c2, c3, c4, c5, c6] 0 [v0, v1, v2, v3, v4, v5, v6] = #[v0, v1, v2, v3, v4, v5, v6] := by kernel_rfl
theorem rd_7_0_7 (c0 c1 c2 c3 c4 c5 c6 : Value) : readAt true 7 #[c0, c1, c2, c3, c4, c5, c6] 0 = some (.agg #[c0, c1, c2, c3, c4, c5, c6]) := rfl
theorem slo_47 (b off n c lo : Nat) (h1 : lo ≤ n) (w : World) : (Instr.sliceAt 47 (.slice (some ⟨b, off, none⟩) n c) (some (.int .i64 (lo : Int))) none none).run Tryz.prog w = .ok (.slice (some ⟨b, if c = lo then off else off + lo * 7, none⟩) (n - lo) (c - lo)) w := sliceAt_low Tryz.runUnderlying47 Tryz.sizeOf129 b off n c lo h1 w
theorem slh_47 (a : Option Addr) (n c j : Nat) (h : j ≤ c) (w : World) : (Instr.sliceAt 47 (.slice a n c) none (some (.int .i64 (j : Int))) none).run Tryz.prog w = .ok (.slice a j c) w := by
  exact sliceAt_high Tryz.runUnderlying47 Tryz.sizeOf129 a n c j h w
theorem idxZ_nat : ∀ (l : List Tm) (i : Nat), idxZ l i ≠ -1 → ∃ k : Nat, idxZ l i = (k : Int)
  | [], _, h => absurd rfl h
  | x :: l, i, h => by
    rw [idxZ] at h ⊢
    split
    · exact ⟨i, rfl⟩
    · rename_i hx; rw [if_neg hx] at h; exact idxZ_nat l (i + 1) h
theorem take_snoc (l : List Tm) {j : Nat} (h : j < l.length) : l.take (j + 1) = l.take j ++ [l.getD j T0] := by
  rw [List.take_add_one, List.getElem?_eq_getElem h]; simp [List.getD, h]
theorem getD_drop (l m : List Tm) {j : Nat} (h : l.drop j = m.drop j) : l.getD j T0 = m.getD j T0 := by
  have := congrArg (fun x => x[0]?) h
  simp only [List.getElem?_drop, Nat.add_zero] at this
  simp only [List.getD]; rw [this]
theorem del_skip {p q : List Tm} {i j : Nat} (hq : q.length = p.length ∧ i < j ∧ q.take i = (p.take j).filter (fun t => decide (t.c ≠ 0)) ∧ q.drop j = p.drop j) (hj : j < p.length) (hc : (q.getD j T0).c = 0) :
    q.length = p.length ∧ i < j + 1 ∧ q.take i = (p.take (j + 1)).filter (fun t => decide (t.c ≠ 0)) ∧ q.drop (j + 1) = p.drop (j + 1) := by
  obtain ⟨h1, h2, h3, h4⟩ := hq
  have hg := getD_drop _ _ h4
  refine ⟨h1, by omega, ?_, ?_⟩
  · rw [take_snoc p hj, List.filter_append, ← h3, ← hg, List.filter_cons, if_neg (by simpa using hc)]; simp
  · have := congrArg (List.drop 1) h4
    rw [List.drop_drop, List.drop_drop] at this; exact this
theorem del_keep {p q : List Tm} {i j : Nat} (hq : q.length = p.length ∧ i < j ∧ q.take i = (p.take j).filter (fun t => decide (t.c ≠ 0)) ∧ q.drop j = p.drop j) (hj : j < p.length) (hc : (q.getD j T0).c ≠ 0) :
    (q.set i (q.getD j T0)).length = p.length ∧ i + 1 < j + 1 ∧ (q.set i (q.getD j T0)).take (i + 1) = (p.take (j + 1)).filter (fun t => decide (t.c ≠ 0)) ∧ (q.set i (q.getD j T0)).drop (j + 1) = p.drop (j + 1) := by
  obtain ⟨h1, h2, h3, h4⟩ := hq
  have hg := getD_drop _ _ h4
  refine ⟨by rw [List.length_set, h1], by omega, ?_, ?_⟩
  · rw [take_snoc (q.set i (q.getD j T0)) (by rw [List.length_set]; omega), take_snoc p hj, List.filter_append, ← h3, ← hg, List.filter_cons, if_pos (by simpa using hc)]
    rw [List.take_set_of_le (Nat.le_refl _)]
    congr 2
    simp only [List.getD, List.getElem?_set, if_pos rfl, if_pos (show i < q.length by omega)]; simp
  · rw [List.drop_set_of_lt (by omega)]
    have := congrArg (List.drop 1) h4
    rw [List.drop_drop, List.drop_drop] at this; exact this
theorem encT_size (t : Tm) : (encT t).cells.size = 7 := rfl
theorem clear_set {q : List Tm} {n i : Nat} (R : List Value) (hq : q.length = n) (hi : i ≤ n) :
    setFrom (cellsOf encT q ++ R).toArray (0 + i * 7) (reps (n - i) (encT T0).cells.toList) = (cellsOf encT (q.take i) ++ (reps (n - i) (encT T0).cells.toList ++ R)).toArray := by
  have e : cellsOf encT q = cellsOf encT (q.take i) ++ cellsOf encT (q.drop i) := by rw [← cellsOf_append, List.take_append_drop]
  have hl : (cellsOf encT (q.take i)).length = i * 7 := by rw [cellsOf_length encT_size]; simp [hq, Nat.min_eq_left hi]
  have := setFrom_mid (reps (n - i) (encT T0).cells.toList) (cellsOf encT (q.take i)) (cellsOf encT (q.drop i)) R (by
    rw [reps_length, cellsOf_length encT_size, List.length_drop, hq]; rfl)
  rw [e, Nat.zero_add, ← hl, this, List.append_assoc]
theorem clear_le {q : List Tm} {n i : Nat} (R : List Value) (hq : q.length = n) (hi : i ≤ n) : 0 + i * 7 + (n - i) * (encT T0).cells.size ≤ (cellsOf encT q ++ R).toArray.size := by
  show 0 + i * 7 + (n - i) * 7 ≤ (cellsOf encT q ++ R).length
  rw [List.length_append, cellsOf_length encT_size, hq]; omega
theorem del_end {p q : List Tm} {i j : Nat} (hq : q.length = p.length ∧ i < j ∧ q.take i = (p.take j).filter (fun t => decide (t.c ≠ 0)) ∧ q.drop j = p.drop j) (hj : j = p.length) :
    q.take i = p.filter (fun t => decide (t.c ≠ 0)) ∧ i = (p.filter (fun t => decide (t.c ≠ 0))).length := by
  obtain ⟨h1, h2, h3, h4⟩ := hq
  have e : q.take i = p.filter (fun t => decide (t.c ≠ 0)) := by rw [h3, hj, List.take_length]
  refine ⟨e, ?_⟩
  rw [← e, List.length_take]; omega

theorem C_DeleteB (b c : Nat) (p : List Tm) (R : List Value) (σ : List (Nat × Obj)) (Φ : List SPred) (hn : p.length ≤ 1000000) (hpc : p.length ≤ c) :
    CtrM Tryz.prog 157 [.slice (some ⟨b, 0, none⟩) p.length c, .func (.func 158) #[] #[]] ((b, .cells (cellsOf encT p ++ R).toArray 129 (0, 0)) :: σ) Φ
      (fun v σ' Φ' => v = .slice (some ⟨b, 0, none⟩) (p.filter (fun t => decide (t.c ≠ 0))).length c ∧ Φ' = Φ ∧ ∃ R' : List Value, (cellsOf encT (p.filter (fun t => decide (t.c ≠ 0))) ++ R').length = (cellsOf encT p ++ R).length ∧ σ' = (b, .cells (cellsOf encT (p.filter (fun t => decide (t.c ≠ 0))) ++ R').toArray 129 (0, 0)) :: σ) := by
  refine fn_introM Tryz.func157 rfl Tryz.ntmps157 nb ?_
  intro S w0 a w hS h
  refine gC h (zs (zr (za rfl (zn (zs (zr (zm rfl (zm rfl ?_)))))))); clear h; intro a w h
  refine wpl_plain (op_callM h hS (vs := [_, _]) rfl Tryz.call190 (C_IndexZ b c p R σ Φ hn) (List.Perm.refl _) (by simp) (by simp) ?_); clear h; rintro v10 σ10 Ψ10 a w ⟨rfl, rfl, hΦ10⟩ h
  rw [hΦ10] at h
  refine gL h (za rfl (zn (zs (zs (zr (zm rfl (zp (.eql rfl rfl) (zn ?_)))))))); clear h; intro a w h
  change Code.wp _ _ _ _ _
  refine cond_split h rfl (fun hc12 => ?_) (fun hc12 => ?_)
  · skip
    have hn0 := idxZ_none p 0 (eq_of_beq hc12)
    refine gC h (zs (zr (zm rfl (za rfl (zn (zt ?_)))))); clear h; intro a w h
    refine endM h (results1 h rfl (.tmp rfl)) ⟨by rw [hn0], rfl, R, by rw [hn0], by rw [hn0]⟩ (List.Sublist.refl _) (fun _ h => h)
  · skip
    obtain ⟨k, hk⟩ := idxZ_nat p 0 (fun e => by rw [e] at hc12; exact absurd hc12 (by decide))
    rw [hk] at h
    obtain ⟨hk1, hk2, hk3, hk4⟩ := idxZ_some p 0 k hk
    simp only [Nat.sub_zero] at hk2 hk3 hk4
    refine gC h (zk (zs (zs (zr (zm rfl (zp (Pure1.cast (v' := (.int .i64 ((k + 1 : Nat) : Int))) (.add rfl rfl) (by show Value.int _ _ = Value.int _ _; congr 1)) (za rfl (zn (zb ?_))))))))); clear h; intro a w h
    refine wp_loop_inv (fun (m : Nat) a w => m ≤ (p.length - (k + 1)) ∧ ∃ (q : List Tm) (i : Nat), (q.length = p.length ∧ i < k + 1 + m ∧ q.take i = (p.take (k + 1 + m)).filter (fun t => decide (t.c ≠ 0)) ∧ q.drop (k + 1 + m) = p.drop (k + 1 + m)) ∧ St 42 S w0 [(0, .slice (some ⟨b, 0, none⟩) p.length c), (1, .func (.func 158) #[] #[]), (5, .int .i64 ((i : Nat) : Int)), (6, .int .i64 ((k + 1 + m : Nat) : Int)), (15, .int .i64 ((k + 1 : Nat) : Int))] ((b, .cells (cellsOf encT (q) ++ R).toArray 129 (0, 0)) :: σ) (Φ) a w) (fun m => (p.length - (k + 1)) - m) 0 (⟨Nat.zero_le _, p, k, ⟨rfl, by omega, by rw [Nat.add_zero, take_snoc p (by omega), List.filter_append, hk4, List.filter_cons, if_neg (by simpa using hk3)]; simp, rfl⟩, by exact (h).sub (subL ⟨rfl, rfl, rfl, rfl, rfl, trivial⟩)⟩) ?_; clear h
    rintro m a w ⟨hi_m, q, i, hq, h⟩
    refine gC h (zs (zs (zr (zm rfl (zm rfl (zp (.builtin [_] rfl (len_slice_47 _ _ _)) (zp (.lss rfl rfl) (zn ?_)))))))); clear h; intro a w h
    change Code.wp _ _ _ _ _
    refine cond_split h rfl (fun hc19 => ?_) (fun hc19 => ?_)
    · skip
      have hlt_m : m < (p.length - (k + 1)) := by have := of_decide_eq_true hc19; omega
      have hq1 := hq.1
      have hq2 := hq.2.1
      refine gC h (zk (zs (zb (zs (zr (zm rfl (zm rfl (zp (.indexAddr rfl rfl (ix_47 _ _ _ _ _ (by omega))) (zd rfl mm Tryz.isAgg129 Tryz.sizeOf129 (read_cellsR (k := 7) (fun _ => rfl) ((fun _ => rfl)) q R T0 (k + 1 + m) (by omega)) ?_))))))))); clear h; intro a w h
      refine gL h (zz zeroT fun b7 => zt' rfl rfl (st_7_0_7 _ _ _ _ _ _ _ _ _ _ _ _ _ _) uu Tryz.sizeOf129 rfl nb rfl ?_); clear h; intro a w h
      refine gL h (zn (zs (zr (zm rfl (zd rfl mr Tryz.isAgg129 Tryz.sizeOf129 (rd_7_0_7 _ _ _ _ _ _ _) ?_))))); clear h; intro a w h
      refine wpl_plain (op_callVx h (fs := []) (cs := []) rfl (vs := [_]) rfl Tryz.call158 (C_gone (q.getD (k + 1 + m) T0)) (by decide) ?_); clear h; intro a w h
      refine gL h (zp (.unOp rfl (un_not _)) (zn ?_)); clear h; intro a w h
      change Code.wp _ _ _ _ _
      refine cond_split h rfl (fun hc29 => ?_) (fun hc29 => ?_)
      · skip
        refine gC h (zs (zr (zm rfl (zm rfl (zd rfl mr Tryz.isAgg129 Tryz.sizeOf129 (rd_7_0_7 _ _ _ _ _ _ _) ?_))))); clear h; intro a w h
        refine gL h (zp (.indexAddr rfl rfl (ix_47 _ _ _ _ _ (by omega))) (zt' (b := b) (cs := (cellsOf encT q ++ R).toArray) (cs' := (cellsOf encT (q.set i (q.getD (k + 1 + m) T0)) ++ R).toArray) (v := encT (q.getD (k + 1 + m) T0)) rfl rfl (set_cellsR (k := 7) (fun _ => rfl) q R i (by omega) (q.getD (k + 1 + m) T0)) uu Tryz.sizeOf129 rfl (cells_leR (k := 7) (fun _ => rfl) q R i (by omega)) rfl ?_)); clear h; intro a w h
        refine gL h (zn (zr (zm rfl (zp (Pure1.cast (v' := (.int .i64 ((i + 1 : Nat) : Int))) (.add rfl rfl) (by show Value.int _ _ = Value.int _ _; congr 1)) (za rfl (zn (zr (zm rfl (zp (Pure1.cast (v' := (.int .i64 (((k + 1 + m) + 1 : Nat) : Int))) (.add rfl rfl) (by show Value.int _ _ = Value.int _ _; congr 1)) (za rfl (zn ?_))))))))))); clear h; intro a w h
        exact ⟨m + 1, ⟨by omega, q.set i (q.getD (k + 1 + m) T0), i + 1, del_keep (j := k + 1 + m) hq (by omega) (by simpa using hc29), by exact (h.drop sl).sub sA⟩, by omega⟩
      · skip
        refine gC h (zk (zr (zm rfl (zp (Pure1.cast (v' := (.int .i64 (((k + 1 + m) + 1 : Nat) : Int))) (.add rfl rfl) (by show Value.int _ _ = Value.int _ _; congr 1)) (za rfl (zn ?_)))))); clear h; intro a w h
        exact ⟨m + 1, ⟨by omega, q, i, del_skip (j := k + 1 + m) hq (by omega) (by simpa using hc29), by exact (h.drop sl).sub sA⟩, by omega⟩
    · skip
      have heq_m : (p.length - (k + 1)) = m := by have := of_decide_eq_false hc19; omega
      have hq1 := hq.1
      have hq2 := hq.2.1
      obtain ⟨hq3, hq4⟩ := del_end hq (by omega)
      refine gC h (ze (zs (zr (zm rfl (zm rfl (zp (Pure1.cast (v' := .slice (some ⟨b, 0 + i * 7, none⟩) (p.length - i) (c - i)) (.slice rfl (some _) none none rfl rfl rfl (slo_47 _ _ _ _ _ (by omega))) (by rw [if_neg (by omega)])) ?_)))))); clear h; intro a w h
      refine wpl_plain (op_clear h rfl (by omega) Tryz.runUnderlying47 zeroT (by decide) (clear_le R hq1 (by omega)) rfl (clear_set R hq1 (by omega)) uu ?_); clear h; intro a w h
      refine gL h (zn (zs (zr (zm rfl (zm rfl (zp (.slice rfl none (some _) none rfl rfl rfl (slh_47 _ _ _ _ (by omega))) (za rfl (zn (zt ?_))))))))); clear h; intro a w h
      rw [hq3] at h
      refine endM h (results1 h rfl (.tmp rfl)) ⟨by rw [← hq4], rfl, _, ?_, rfl⟩ (by repeat (first | exact List.Sublist.refl _ | apply List.Sublist.cons)) (fun _ h => h)
      simp only [List.length_append, cellsOf_length encT_size, reps_length, Array.length_toList, encT_size]
      rw [← hq4]; omega
end
end Go.Proofs.YtealgpgmbflilaaGreatDoor
