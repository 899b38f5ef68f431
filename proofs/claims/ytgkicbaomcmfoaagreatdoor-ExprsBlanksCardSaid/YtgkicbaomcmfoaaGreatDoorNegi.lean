/- Written by a program of ours (gen.py) out of short specifications. By an AI agent. -/
import Derived.Test.YtgkicbaomcmfoaaGreatDoorFracs2
import Derived.Test.YtgkicbaomcmfoaaGreatDoorFxC
set_option linter.unusedVariables false
set_option linter.unusedSimpArgs false
set_option maxRecDepth 4000
namespace Go.Proofs.YtgkicbaomcmfoaaGreatDoor
open Go Go.Proofs Go.Fx
attribute [local irreducible] Oper.wp Code.wp wpList Fx.Head wpOp
section
theorem sls_9 (x : ByteArray) (lo hi : Nat) (h1 : lo ≤ hi) (h2 : hi ≤ x.size) (w : World) : (Instr.sliceAt 9 (.string x) (some (.int .i64 (lo : Int))) (some (.int .i64 (hi : Int))) none).run Tryz.prog w = .ok (.string (x.extract lo hi)) w := sliceAt_str Tryz.runUnderlying9 x lo hi h1 h2 w
theorem cv_45_3 (x : Int) (w : World) : (Go.convert 45 3 (.int .u64 x)).run Tryz.prog w = .ok (.int .i64 (IntKind.i64.wrap x)) w := by
  simp [go_sem]
theorem cv_45_3b (x : Int) (h0 : IntKind.i64.wrap x = x) (w : World) : (Go.convert 45 3 (.int .u64 x)).run Tryz.prog w = .ok (.int .i64 x) w := by
  rw [cv_45_3, h0]
def digS (n : Nat) : ByteArray := if n < 10 then ⟨#[UInt8.ofNat (48 + n)]⟩ else ⟨#[UInt8.ofNat (48 + n / 10), UInt8.ofNat (48 + n % 10)]⟩
def textZ (z : Int) : ByteArray := if z < 0 then ⟨#[45]⟩ ++ digS z.natAbs else digS z.natAbs
def textQ (x : Rat) : ByteArray := if x.den = 1 then textZ x.num else textZ x.num ++ ⟨#[47]⟩ ++ digS x.den
def textU (l : List Rat) : Nat → ByteArray
  | 0 => ⟨#[]⟩
  | i + 1 => (if 0 < i then textU l i ++ ⟨#[32]⟩ else textU l i) ++ textQ (l.getD i 0)
theorem digS_size (n : Nat) : (digS n).size ≤ 2 := by unfold digS; split <;> simp [ByteArray.size]
theorem textZ_size (z : Int) : (textZ z).size ≤ 3 := by
  unfold textZ; have := digS_size z.natAbs
  split
  · rw [ByteArray.size_append]; have : (ByteArray.mk #[45]).size = 1 := rfl
    omega
  · omega
theorem textQ_size (x : Rat) : (textQ x).size ≤ 6 := by
  unfold textQ; have := digS_size x.den; have := textZ_size x.num
  split
  · omega
  · rw [ByteArray.size_append, ByteArray.size_append]; have : (ByteArray.mk #[47]).size = 1 := rfl
    omega
def tab1 : ByteArray := ⟨#[48, 49, 50, 51, 52, 53, 54, 55, 56, 57, 97, 98, 99, 100, 101, 102, 103, 104, 105, 106, 107, 108, 109, 110, 111, 112, 113, 114, 115, 116, 117, 118, 119, 120, 121, 122]⟩
def tab2 : ByteArray := ⟨#[48, 48, 48, 49, 48, 50, 48, 51, 48, 52, 48, 53, 48, 54, 48, 55, 48, 56, 48, 57, 49, 48, 49, 49, 49, 50, 49, 51, 49, 52, 49, 53, 49, 54, 49, 55, 49, 56, 49, 57, 50, 48, 50, 49, 50, 50, 50, 51, 50, 52, 50, 53, 50, 54, 50, 55, 50, 56, 50, 57, 51, 48, 51, 49, 51, 50, 51, 51, 51, 52, 51, 53, 51, 54, 51, 55, 51, 56, 51, 57, 52, 48, 52, 49, 52, 50, 52, 51, 52, 52, 52, 53, 52, 54, 52, 55, 52, 56, 52, 57, 53, 48, 53, 49, 53, 50, 53, 51, 53, 52, 53, 53, 53, 54, 53, 55, 53, 56, 53, 57, 54, 48, 54, 49, 54, 50, 54, 51, 54, 52, 54, 53, 54, 54, 54, 55, 54, 56, 54, 57, 55, 48, 55, 49, 55, 50, 55, 51, 55, 52, 55, 53, 55, 54, 55, 55, 55, 56, 55, 57, 56, 48, 56, 49, 56, 50, 56, 51, 56, 52, 56, 53, 56, 54, 56, 55, 56, 56, 56, 57, 57, 48, 57, 49, 57, 50, 57, 51, 57, 52, 57, 53, 57, 54, 57, 55, 57, 56, 57, 57]⟩
theorem tab1_at (i : Nat) (h : i < 10) : tab1.extract i (i + 1) = digS i := by
  have : ∀ i, i < 10 → tab1.extract i (i + 1) = digS i := by decide +kernel
  exact this i h
theorem tab2_at (i : Nat) (h0 : ¬ i < 10) (h : i < 100) : tab2.extract (i * 2) (i * 2 + 2) = digS i := by
  have : ∀ i, i < 100 → ¬ i < 10 → tab2.extract (i * 2) (i * 2 + 2) = digS i := by decide +kernel
  exact this i h h0
theorem C_small (n : Nat) (hlt : n < 100) : CtrV Tryz.prog 182 [.int .i64 ((n : Nat) : Int)] (.string (digS n)) := by
  refine fn_intro Tryz.func182 rfl Tryz.ntmps182 nb ?_
  intro S w0 a hS h
  refine gC h (zs (zr (za rfl (zn (zs (zs (zr (zm rfl (zp (.lss rfl rfl) (zn ?_)))))))))); clear h; intro a w h
  change Code.wp _ _ _ _ _
  refine cond_split h rfl (fun hc4 => ?_) (fun hc4 => ?_)
  · skip
    have hn : n < 10 := by have := of_decide_eq_true hc4; omega
    refine gC h (zs (zr (zm rfl (zm rfl (zp (Pure1.cast (v' := (.int .i64 ((n + 1 : Nat) : Int))) (.add rfl rfl) (by show Value.int _ _ = Value.int _ _; congr 1)) (zp (.slice rfl (some _) (some _) none rfl rfl rfl (sls_9 _ _ _ (by first | omega | (show n + 1 ≤ 36; omega)) (by first | omega | (show n + 1 ≤ 36; omega)))) (za rfl (zn (zt ?_))))))))); clear h; intro a w h
    refine retV h (results1 h rfl (.tmp rfl)) ?_
    exact congrArg _ (tab1_at n hn)
  · skip
    have hn : ¬ n < 10 := by have := of_decide_eq_false hc4; omega
    refine gC h (zk (zs (zr (zm rfl (zp (Pure1.cast (v' := (.int .i64 ((n * 2 : Nat) : Int))) (.mul rfl rfl) (by show Value.int _ _ = Value.int _ _; congr 1)) (zm rfl (zp (Pure1.cast (v' := (.int .i64 ((n * 2 : Nat) : Int))) (.mul rfl rfl) (by show Value.int _ _ = Value.int _ _; congr 1)) (zp (Pure1.cast (v' := (.int .i64 (((n * 2) + 2 : Nat) : Int))) (.add rfl rfl) (by show Value.int _ _ = Value.int _ _; congr 1)) (zp (.slice rfl (some _) (some _) none rfl rfl rfl (sls_9 _ _ _ (by first | omega | (show n * 2 + 2 ≤ 200; omega)) (by first | omega | (show n * 2 + 2 ≤ 200; omega)))) (za rfl (zn (zt ?_)))))))))))); clear h; intro a w h
    refine retV h (results1 h rfl (.tmp rfl)) ?_
    exact congrArg _ (tab2_at n hn hlt)
theorem C_iFU (n : Nat) (hlt : n < 100) : CtrV Tryz.prog 134 [.int .u64 (n : Int), .int .i64 10] (.string (digS n)) := by
  refine fn_intro Tryz.func134 rfl Tryz.ntmps134 nb ?_
  intro S w0 a hS h
  refine gC h (zs (zr (za rfl (zn (zs (zs (zr (zm rfl (zp (.eql rfl rfl) (zn ?_)))))))))); clear h; intro a w h
  change Code.wp _ _ _ _ _
  refine cond_split h rfl (fun hc10 => ?_) (fun hc10 => (by exfalso; exact absurd hc10 (by decide)))
  refine gC h (zs (zs (zr (zm rfl (zp (.lss rfl rfl) (zn ?_)))))); clear h; intro a w h
  change Code.wp _ _ _ _ _
  refine cond_split h rfl (fun hc12 => ?_) (fun hc12 => (by exfalso; have := of_decide_eq_false hc12; omega))
  refine gC h (zs (zr (zm rfl (zp (.convert rfl (cv_45_3b _ (wrap_i64 _ (by omega) (by omega)))) (zv [_] rfl Tryz.call182 (C_small n hlt) (za rfl (zn (zt ?_)))))))); clear h; intro a w h
  refine retV h (results1 h rfl (.tmp rfl)) ?_
  rfl
theorem C_FU (n : Nat) (hlt : n < 100) : CtrV Tryz.prog 91 [.int .u64 (n : Int), .int .i64 10] (.string (digS n)) := by
  refine fn_intro Tryz.func91 rfl Tryz.ntmps91 nb ?_
  intro S w0 a hS h
  refine gC h (zs (zr (za rfl (zn (zs (zr (zm rfl (zm rfl (zv [_, _] rfl Tryz.call134 (C_iFU n hlt) (za rfl (zn (zt ?_)))))))))))); clear h; intro a w h
  refine retV h (results1 h rfl (.tmp rfl)) ?_
  rfl
theorem C_NText (n : Nat) (hlt : n < 100) : CtrV Tryz.prog 56 [encN n] (.string (digS n)) := by
  refine fn_intro Tryz.func56 rfl Tryz.ntmps56 nb ?_
  intro S w0 a hS h
  refine gC h (zs (zr (zx rfl fun b1 => za rfl (zn (zs (zs (zr (zp (.fieldAddr rfl (fa_47_1 _ _)) (zd rfl mr Tryz.isAgg9 Tryz.sizeOf9 (rs_2_1 _ _) ?_))))))))); clear h; intro a w h
  refine gL h (zp (.binOp rfl rfl (fun _ => run_seql _ _ _ _ _)) (zn ?_)); clear h; intro a w h
  change Code.wp _ _ _ _ _
  refine cond_split h rfl (fun hc10 => ?_) (fun hc10 => (by exfalso; have hb : bigN n = ⟨#[]⟩ := bigN_small (by omega); rw [hb] at hc10; exact absurd hc10 (by decide)))
  refine gC h (zs (zr (zp (.fieldAddr rfl (fa_47_0 _ _)) (zd rfl mr Tryz.isAgg45 Tryz.sizeOf45 (rs_2_0 _ _) ?_)))); clear h; intro a w h
  rw [lowN_small (show n < 18446744073709551616 by omega)] at h
  refine gL h (zv [_, _] rfl Tryz.call91 (C_FU n hlt) (za rfl (zn (zt ?_)))); clear h; intro a w h
  refine retV h (results1 h rfl (.tmp rfl)) ?_
  rfl
theorem C_ZText (z : Int) (hz : z.natAbs < 100) : CtrV Tryz.prog 55 [encZ z] (.string (textZ z)) := by
  refine fn_intro Tryz.func55 rfl Tryz.ntmps55 nb ?_
  intro S w0 a hS h
  refine gC h (zs (zr (zx rfl fun b1 => za rfl (zn (zs (zs (zr (zp (.fieldAddr rfl (fa_51_1 _ _)) (zd rfl mr Tryz.isAgg4 Tryz.sizeOf4 (rs_3_2 _ _ _) ?_))))))))); clear h; intro a w h
  refine wpList_nil ?_
  change Code.wp _ _ _ _ _
  refine cond_split h rfl (fun hc4 => ?_) (fun hc4 => ?_)
  · skip
    have hn : z < 0 := of_decide_eq_true hc4
    refine gC h (zs (zr (zp (.fieldAddr rfl (fa_51_0 _ _)) (zp (.fieldAddr rfl (fa_49_0 _ _)) (zd rfl mr Tryz.isAgg47 Tryz.sizeOf47 (rd_3_0_2 _ _ _) ?_))))); clear h; intro a w h
    refine gL h (zv [_] rfl Tryz.call56 (C_NText z.natAbs hz) (zp (.binOp rfl rfl (fun _ => run_sadd _ _ _ _ _ (by have := digS_size z.natAbs; have h1 : (ByteArray.mk #[45]).size = 1 := rfl; omega))) (za rfl (zn (zt ?_))))); clear h; intro a w h
    refine retV h (results1 h rfl (.tmp rfl)) ?_
    unfold textZ; rw [if_pos hn]
  · skip
    have hn : ¬ z < 0 := of_decide_eq_false hc4
    refine gC h (zk (zs (zr (zp (.fieldAddr rfl (fa_51_0 _ _)) (zp (.fieldAddr rfl (fa_49_0 _ _)) (zd rfl mr Tryz.isAgg47 Tryz.sizeOf47 (rd_3_0_2 _ _ _) ?_)))))); clear h; intro a w h
    refine gL h (zv [_] rfl Tryz.call56 (C_NText z.natAbs hz) (za rfl (zn (zt ?_)))); clear h; intro a w h
    refine retV h (results1 h rfl (.tmp rfl)) ?_
    unfold textZ; rw [if_neg hn]
theorem C_QText (x : Rat) (hn : x.num.natAbs < 100) (hd : x.den < 100) : CtrV Tryz.prog 21 [encQ x] (.string (textQ x)) := by
  refine fn_intro Tryz.func21 rfl Tryz.ntmps21 nb ?_
  intro S w0 a hS h
  refine gC h (zs (zr (zx rfl fun b1 => za rfl (zn (zs (zs (zr (zd rfl mr Tryz.isAgg53 Tryz.sizeOf53 (rd_5_0_5 _ _ _ _ _) ?_)))))))); clear h; intro a w h
  refine gL h (zv [_] rfl Tryz.call54 (C_Whole x) (zn ?_)); clear h; intro a w h
  change Code.wp _ _ _ _ _
  refine cond_split h rfl (fun hc4 => ?_) (fun hc4 => ?_)
  · skip
    have hw : x.den = 1 := of_decide_eq_true hc4
    refine gC h (zs (zr (zp (.fieldAddr rfl (fa_53_0 _ _)) (zd rfl mr Tryz.isAgg51 Tryz.sizeOf51 (rd_5_0_3 _ _ _ _ _) ?_)))); clear h; intro a w h
    refine gL h (zv [_] rfl Tryz.call55 (C_ZText x.num hn) (za rfl (zn (zt ?_)))); clear h; intro a w h
    refine retV h (results1 h rfl (.tmp rfl)) ?_
    unfold textQ; rw [if_pos hw]
  · skip
    have hw : ¬ x.den = 1 := of_decide_eq_false hc4
    refine gC h (zk (zs (yD mixed_YtgkicbaomcmfoaaGreatDoor [0, 1, 4, 2, 3, 5, 6, 7, 8] (floatsOK_none (by kernel_rfl)) (yp rfl (.fieldAddr rfl (fa_53_0 _ _)) (yd rfl rfl mr Tryz.isAgg51 Tryz.sizeOf51 (rd_5_0_3 _ _ _ _ _) ?_))))); clear h
    refine yd rfl rfl mr Tryz.isAgg53 Tryz.sizeOf53 (rd_5_0_5 _ _ _ _ _) ?_
    refine yv [_] rfl rfl Tryz.call55 (C_ZText x.num hn) (yp rfl (.binOp rfl rfl (fun _ => run_sadd _ _ _ _ _ (by have := textZ_size x.num; have h1 : (ByteArray.mk #[47]).size = 1 := rfl; omega))) (yv [_] rfl rfl Tryz.call57 (C_den x (Nat.le_trans (wds_small (by omega)) (by decide))) (yv [_] rfl rfl Tryz.call56 (C_NText x.den hd) (yp rfl (.binOp rfl rfl (fun _ => run_sadd _ _ _ _ _ (by have := textZ_size x.num; have := digS_size x.den; have h1 : (ByteArray.mk #[47]).size = 1 := rfl; rw [ByteArray.size_append]; omega))) (yp rfl (.assign rfl) (yn (zt ?_))))))); intro a w h
    refine retV h (results1 h rfl (.tmp rfl)) ?_
    unfold textQ; rw [if_neg hw]
end
section
def cmpZ (i k : Int) : Int := if i < k then -1 else if i > k then 1 else 0
def validQ (t : Rat) : Bool := decide (t.num.sign ≥ 0) && decide ((t - ((1 : Int) : Rat)).num.sign ≤ 0)
theorem C_isNaN (x : Int) : CtrV Tryz.prog 121 [.int .i64 x] (.bool false) := by
  refine fn_intro Tryz.func121 rfl Tryz.ntmps121 nb ?_
  intro S w0 a hS h
  refine gC h (zs (zr (za rfl (zn (zs (zr (zm rfl (zm rfl (zp (.neq rfl rfl) (za rfl (zn (zt ?_)))))))))))); clear h; intro a w h
  refine retV h (results1 h rfl (.tmp rfl)) ?_
  simp
theorem C_cmpZ (x y : Int) : CtrV Tryz.prog 82 [.int .i64 x, .int .i64 y] (.int .i64 (cmpZ x y)) := by
  refine fn_intro Tryz.func82 rfl Tryz.ntmps82 nb ?_
  intro S w0 a hS h
  refine gC h (zs (zr (za rfl (zn (zs (zr (zm rfl (zv [_] rfl Tryz.call121 (C_isNaN _) (za rfl (zn (zs (zr (zm rfl (zv [_] rfl Tryz.call121 (C_isNaN _) (za rfl (zn (zs (zs (zr (zm rfl ?_)))))))))))))))))))); clear h; intro a w h
  refine by_bool h (fun hc11 h => (by exfalso; cases hc11)) (fun hc11 h => ?_)
  refine wpList_nil ?_
  change Code.wp _ _ _ _ _
  refine cond_false h rfl ?_
  refine gC h (zk (zs (zs (zr (zm rfl ?_))))); clear h; intro a w h
  refine by_bool h (fun hc13 h => (by exfalso; cases hc13)) (fun hc13 h => ?_)
  refine wpList_nil ?_
  change Code.wp _ _ _ _ _
  refine cond_false h rfl ?_
  refine gC h (zk (zs (zs (zr (zm rfl (zm rfl (zp (.lss rfl rfl) (zn ?_)))))))); clear h; intro a w h
  change Code.wp _ _ _ _ _
  refine cond_split h rfl (fun hc16 => ?_) (fun hc16 => ?_)
  · skip
    refine gC h (zs (zr (za rfl (zn (zt ?_))))); clear h; intro a w h
    refine retV h (results1 h rfl (.tmp rfl)) ?_
    unfold cmpZ; have := of_decide_eq_true hc16; simp [this]
  · skip
    refine gC h (zk (zs (zs (zr (zm rfl (zm rfl (zp (.gtr rfl rfl) (zn ?_)))))))); clear h; intro a w h
    change Code.wp _ _ _ _ _
    refine cond_split h rfl (fun hc19 => ?_) (fun hc19 => ?_)
    · skip
      refine gC h (zs (zr (za rfl (zn (zt ?_))))); clear h; intro a w h
      refine retV h (results1 h rfl (.tmp rfl)) ?_
      unfold cmpZ; have h1 := of_decide_eq_false hc16; have h2 := of_decide_eq_true hc19; rw [if_neg h1, if_pos h2]
    · skip
      refine gC h (zk (zs (zr (za rfl (zn (zt ?_)))))); clear h; intro a w h
      refine retV h (results1 h rfl (.tmp rfl)) ?_
      unfold cmpZ; have h1 := of_decide_eq_false hc16; have h2 := of_decide_eq_false hc19; rw [if_neg h1, if_neg h2]
end
section
end
end Go.Proofs.YtgkicbaomcmfoaaGreatDoor
