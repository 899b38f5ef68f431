/- Written by a program of ours (gen.py) out of short specifications. By an AI agent. -/
import Derived.Test.YtddhlkfpdjmplaaGreatDoorFracs2
import Derived.Test.YtddhlkfpdjmplaaGreatDoorFxC
import Derived.Test.YtddhlkfpdjmplaaGreatDoorNumT
import Derived.Test.YtddhlkfpdjmplaaGreatDoorFxD
import Derived.Test.YtddhlkfpdjmplaaGreatDoorFxM
set_option linter.unusedVariables false
set_option linter.unusedSimpArgs false
set_option maxRecDepth 4000
namespace Go.Proofs.YtddhlkfpdjmplaaGreatDoor
open Go Go.Proofs Go.Fx
attribute [local irreducible] Oper.wp Code.wp wpList Fx.Head wpOp
section
theorem sls_9 (x : ByteArray) (lo hi : Nat) (h1 : lo ≤ hi) (h2 : hi ≤ x.size) (w : World) : (Instr.sliceAt 9 (.string x) (some (.int .i64 (lo : Int))) (some (.int .i64 (hi : Int))) none).run Tryz.prog w = .ok (.string (x.extract lo hi)) w := sliceAt_str Tryz.runUnderlying9 x lo hi h1 h2 w
theorem cv_36_3 (x : Int) (w : World) : (Go.convert 36 3 (.int .u64 x)).run Tryz.prog w = .ok (.int .i64 (IntKind.i64.wrap x)) w := by
  simp [go_sem]
theorem cv_36_3b (x : Int) (h0 : IntKind.i64.wrap x = x) (w : World) : (Go.convert 36 3 (.int .u64 x)).run Tryz.prog w = .ok (.int .i64 x) w := by
  rw [cv_36_3, h0]
def digS (n : Nat) : ByteArray := if n < 10 then ⟨#[UInt8.ofNat (48 + n)]⟩ else ⟨#[UInt8.ofNat (48 + n / 10), UInt8.ofNat (48 + n % 10)]⟩
def textZ (z : Int) : ByteArray := if z < 0 then ⟨#[45]⟩ ++ digS z.natAbs else digS z.natAbs
def textQ (x : Rat) : ByteArray := if x.den = 1 then textZ x.num else textZ x.num ++ ⟨#[47]⟩ ++ digS x.den
def textU (l : List Rat) : Nat → ByteArray
  | 0 => ⟨#[]⟩
  | i + 1 => (if 0 < i then textU l i ++ ⟨#[32]⟩ else textU l i) ++ textQ (l.getD i 0)
theorem digS_size (n : Nat) : (digS n).size ≤ 2 := by unfold digS; split <;> simp [ByteArray.size]
theorem textZ_size (z : Int) : (textZ z).size ≤ 3 := by
  unfold textZ; have := digS_size z.natAbs
  split
  · rw [ByteArray.size_append]; have : (ByteArray.mk #[45]).size = 1 := rfl
    omega
  · omega
theorem textQ_size (x : Rat) : (textQ x).size ≤ 6 := by
  unfold textQ; have := digS_size x.den; have := textZ_size x.num
  split
  · omega
  · rw [ByteArray.size_append, ByteArray.size_append]; have : (ByteArray.mk #[47]).size = 1 := rfl
    omega
def tab1 : ByteArray := ⟨#[48, 49, 50, 51, 52, 53, 54, 55, 56, 57, 97, 98, 99, 100, 101, 102, 103, 104, 105, 106, 107, 108, 109, 110, 111, 112, 113, 114, 115, 116, 117, 118, 119, 120, 121, 122]⟩
def tab2 : ByteArray := ⟨#[48, 48, 48, 49, 48, 50, 48, 51, 48, 52, 48, 53, 48, 54, 48, 55, 48, 56, 48, 57, 49, 48, 49, 49, 49, 50, 49, 51, 49, 52, 49, 53, 49, 54, 49, 55, 49, 56, 49, 57, 50, 48, 50, 49, 50, 50, 50, 51, 50, 52, 50, 53, 50, 54, 50, 55, 50, 56, 50, 57, 51, 48, 51, 49, 51, 50, 51, 51, 51, 52, 51, 53, 51, 54, 51, 55, 51, 56, 51, 57, 52, 48, 52, 49, 52, 50, 52, 51, 52, 52, 52, 53, 52, 54, 52, 55, 52, 56, 52, 57, 53, 48, 53, 49, 53, 50, 53, 51, 53, 52, 53, 53, 53, 54, 53, 55, 53, 56, 53, 57, 54, 48, 54, 49, 54, 50, 54, 51, 54, 52, 54, 53, 54, 54, 54, 55, 54, 56, 54, 57, 55, 48, 55, 49, 55, 50, 55, 51, 55, 52, 55, 53, 55, 54, 55, 55, 55, 56, 55, 57, 56, 48, 56, 49, 56, 50, 56, 51, 56, 52, 56, 53, 56, 54, 56, 55, 56, 56, 56, 57, 57, 48, 57, 49, 57, 50, 57, 51, 57, 52, 57, 53, 57, 54, 57, 55, 57, 56, 57, 57]⟩
theorem tab1_at (i : Nat) (h : i < 10) : tab1.extract i (i + 1) = digS i := by
  have : ∀ i, i < 10 → tab1.extract i (i + 1) = digS i := by decide +kernel
  exact this i h
theorem tab2_at (i : Nat) (h0 : ¬ i < 10) (h : i < 100) : tab2.extract (i * 2) (i * 2 + 2) = digS i := by
  have : ∀ i, i < 100 → ¬ i < 10 → tab2.extract (i * 2) (i * 2 + 2) = digS i := by decide +kernel
  exact this i h h0
theorem C_small (n : Nat) (hlt : n < 100) : CtrV Tryz.prog 224 [.int .i64 ((n : Nat) : Int)] (.string (digS n)) := by
  refine fn_intro Tryz.func224 rfl Tryz.ntmps224 nb ?_
  intro S w0 a hS h
  refine gC h (zs (zr (za rfl (zn (zs (zs (zr (zm rfl (zp (.lss rfl rfl) (zn ?_)))))))))); clear h; intro a w h
  change Code.wp _ _ _ _ _
  refine cond_split h rfl (fun hc4 => ?_) (fun hc4 => ?_)
  · skip
    have hn : n < 10 := by have := of_decide_eq_true hc4; omega
    refine gC h (zs (zr (zm rfl (zm rfl (zp (Pure1.cast (v' := (.int .i64 ((n + 1 : Nat) : Int))) (.add rfl rfl) (by show Value.int _ _ = Value.int _ _; congr 1)) (zp (.slice rfl (some _) (some _) none rfl rfl rfl (sls_9 _ _ _ (by first | omega | (show n + 1 ≤ 36; omega)) (by first | omega | (show n + 1 ≤ 36; omega)))) (za rfl (zn (zt ?_))))))))); clear h; intro a w h
    refine retV h (results1 h rfl (.tmp rfl)) ?_
    exact congrArg _ (tab1_at n hn)
  · skip
    have hn : ¬ n < 10 := by have := of_decide_eq_false hc4; omega
    refine gC h (zk (zs (zr (zm rfl (zp (Pure1.cast (v' := (.int .i64 ((n * 2 : Nat) : Int))) (.mul rfl rfl) (by show Value.int _ _ = Value.int _ _; congr 1)) (zm rfl (zp (Pure1.cast (v' := (.int .i64 ((n * 2 : Nat) : Int))) (.mul rfl rfl) (by show Value.int _ _ = Value.int _ _; congr 1)) (zp (Pure1.cast (v' := (.int .i64 (((n * 2) + 2 : Nat) : Int))) (.add rfl rfl) (by show Value.int _ _ = Value.int _ _; congr 1)) (zp (.slice rfl (some _) (some _) none rfl rfl rfl (sls_9 _ _ _ (by first | omega | (show n * 2 + 2 ≤ 200; omega)) (by first | omega | (show n * 2 + 2 ≤ 200; omega)))) (za rfl (zn (zt ?_)))))))))))); clear h; intro a w h
    refine retV h (results1 h rfl (.tmp rfl)) ?_
    exact congrArg _ (tab2_at n hn hlt)
theorem C_iFU (n : Nat) (hlt : n < 100) : CtrV Tryz.prog 199 [.int .u64 (n : Int), .int .i64 10] (.string (digS n)) := by
  refine fn_intro Tryz.func199 rfl Tryz.ntmps199 nb ?_
  intro S w0 a hS h
  refine gC h (zs (zr (za rfl (zn (zs (zs (zr (zm rfl (zp (.eql rfl rfl) (zn ?_)))))))))); clear h; intro a w h
  change Code.wp _ _ _ _ _
  refine cond_split h rfl (fun hc10 => ?_) (fun hc10 => (by exfalso; exact absurd hc10 (by decide)))
  refine gC h (zs (zs (zr (zm rfl (zp (.lss rfl rfl) (zn ?_)))))); clear h; intro a w h
  change Code.wp _ _ _ _ _
  refine cond_split h rfl (fun hc12 => ?_) (fun hc12 => (by exfalso; have := of_decide_eq_false hc12; omega))
  refine gC h (zs (zr (zm rfl (zp (.convert rfl (cv_36_3b _ (wrap_i64 _ (by omega) (by omega)))) (zv [_] rfl Tryz.call224 (C_small n hlt) (za rfl (zn (zt ?_)))))))); clear h; intro a w h
  refine retV h (results1 h rfl (.tmp rfl)) ?_
  rfl
theorem C_FU (n : Nat) (hlt : n < 100) : CtrV Tryz.prog 165 [.int .u64 (n : Int), .int .i64 10] (.string (digS n)) := by
  refine fn_intro Tryz.func165 rfl Tryz.ntmps165 nb ?_
  intro S w0 a hS h
  refine gC h (zs (zr (za rfl (zn (zs (zr (zm rfl (zm rfl (zv [_, _] rfl Tryz.call199 (C_iFU n hlt) (za rfl (zn (zt ?_)))))))))))); clear h; intro a w h
  refine retV h (results1 h rfl (.tmp rfl)) ?_
  rfl
theorem C_NText (n : Nat) (hlt : n < 100) : CtrV Tryz.prog 119 [encN n] (.string (digS n)) := by
  refine fn_intro Tryz.func119 rfl Tryz.ntmps119 nb ?_
  intro S w0 a hS h
  refine gC h (zs (zr (zx rfl fun b1 => za rfl (zn (zs (zs (zr (zp (.fieldAddr rfl (fa_38_1 _ _)) (zd rfl mr Tryz.isAgg9 Tryz.sizeOf9 (rs_2_1 _ _) ?_))))))))); clear h; intro a w h
  refine gL h (zp (.binOp rfl rfl (fun _ => run_seql _ _ _ _ _)) (zn ?_)); clear h; intro a w h
  change Code.wp _ _ _ _ _
  refine cond_split h rfl (fun hc10 => ?_) (fun hc10 => (by exfalso; have hb : bigN n = ⟨#[]⟩ := bigN_small (by omega); rw [hb] at hc10; exact absurd hc10 (by decide)))
  refine gC h (zs (zr (zp (.fieldAddr rfl (fa_38_0 _ _)) (zd rfl mr Tryz.isAgg36 Tryz.sizeOf36 (rs_2_0 _ _) ?_)))); clear h; intro a w h
  rw [lowN_small (show n < 18446744073709551616 by omega)] at h
  refine gL h (zv [_, _] rfl Tryz.call165 (C_FU n hlt) (za rfl (zn (zt ?_)))); clear h; intro a w h
  refine retV h (results1 h rfl (.tmp rfl)) ?_
  rfl
theorem C_ZText (z : Int) (hz : z.natAbs < 100) : CtrV Tryz.prog 118 [encZ z] (.string (textZ z)) := by
  refine fn_intro Tryz.func118 rfl Tryz.ntmps118 nb ?_
  intro S w0 a hS h
  refine gC h (zs (zr (zx rfl fun b1 => za rfl (zn (zs (zs (zr (zp (.fieldAddr rfl (fa_42_1 _ _)) (zd rfl mr Tryz.isAgg4 Tryz.sizeOf4 (rs_3_2 _ _ _) ?_))))))))); clear h; intro a w h
  refine wpList_nil ?_
  change Code.wp _ _ _ _ _
  refine cond_split h rfl (fun hc4 => ?_) (fun hc4 => ?_)
  · skip
    have hn : z < 0 := of_decide_eq_true hc4
    refine gC h (zs (zr (zp (.fieldAddr rfl (fa_42_0 _ _)) (zp (.fieldAddr rfl (fa_40_0 _ _)) (zd rfl mr Tryz.isAgg38 Tryz.sizeOf38 (rd_3_0_2 _ _ _) ?_))))); clear h; intro a w h
    refine gL h (zv [_] rfl Tryz.call119 (C_NText z.natAbs hz) (zp (.binOp rfl rfl (fun _ => run_sadd _ _ _ _ _ (by have := digS_size z.natAbs; have h1 : (ByteArray.mk #[45]).size = 1 := rfl; omega))) (za rfl (zn (zt ?_))))); clear h; intro a w h
    refine retV h (results1 h rfl (.tmp rfl)) ?_
    unfold textZ; rw [if_pos hn]
  · skip
    have hn : ¬ z < 0 := of_decide_eq_false hc4
    refine gC h (zk (zs (zr (zp (.fieldAddr rfl (fa_42_0 _ _)) (zp (.fieldAddr rfl (fa_40_0 _ _)) (zd rfl mr Tryz.isAgg38 Tryz.sizeOf38 (rd_3_0_2 _ _ _) ?_)))))); clear h; intro a w h
    refine gL h (zv [_] rfl Tryz.call119 (C_NText z.natAbs hz) (za rfl (zn (zt ?_)))); clear h; intro a w h
    refine retV h (results1 h rfl (.tmp rfl)) ?_
    unfold textZ; rw [if_neg hn]
theorem C_QText (x : Rat) (hn : x.num.natAbs < 100) (hd : x.den < 100) : CtrV Tryz.prog 55 [encQ x] (.string (textQ x)) := by
  refine fn_intro Tryz.func55 rfl Tryz.ntmps55 nb ?_
  intro S w0 a hS h
  refine gC h (zs (zr (zx rfl fun b1 => za rfl (zn (zs (zs (zr (zd rfl mr Tryz.isAgg44 Tryz.sizeOf44 (rd_5_0_5 _ _ _ _ _) ?_)))))))); clear h; intro a w h
  refine gL h (zv [_] rfl Tryz.call117 (C_Whole x) (zn ?_)); clear h; intro a w h
  change Code.wp _ _ _ _ _
  refine cond_split h rfl (fun hc4 => ?_) (fun hc4 => ?_)
  · skip
    have hw : x.den = 1 := of_decide_eq_true hc4
    refine gC h (zs (zr (zp (.fieldAddr rfl (fa_44_0 _ _)) (zd rfl mr Tryz.isAgg42 Tryz.sizeOf42 (rd_5_0_3 _ _ _ _ _) ?_)))); clear h; intro a w h
    refine gL h (zv [_] rfl Tryz.call118 (C_ZText x.num hn) (za rfl (zn (zt ?_)))); clear h; intro a w h
    refine retV h (results1 h rfl (.tmp rfl)) ?_
    unfold textQ; rw [if_pos hw]
  · skip
    have hw : ¬ x.den = 1 := of_decide_eq_false hc4
    refine gC h (zk (zs (yD mixed_YtddhlkfpdjmplaaGreatDoor [0, 1, 4, 2, 3, 5, 6, 7, 8] (floatsOK_none (by kernel_rfl)) (yp rfl (.fieldAddr rfl (fa_44_0 _ _)) (yd rfl rfl mr Tryz.isAgg42 Tryz.sizeOf42 (rd_5_0_3 _ _ _ _ _) ?_))))); clear h
    refine yd rfl rfl mr Tryz.isAgg44 Tryz.sizeOf44 (rd_5_0_5 _ _ _ _ _) ?_
    refine yv [_] rfl rfl Tryz.call118 (C_ZText x.num hn) (yp rfl (.binOp rfl rfl (fun _ => run_sadd _ _ _ _ _ (by have := textZ_size x.num; have h1 : (ByteArray.mk #[47]).size = 1 := rfl; omega))) (yv [_] rfl rfl Tryz.call120 (C_den x (Nat.le_trans (wds_small (by omega)) (by decide))) (yv [_] rfl rfl Tryz.call119 (C_NText x.den hd) (yp rfl (.binOp rfl rfl (fun _ => run_sadd _ _ _ _ _ (by have := textZ_size x.num; have := digS_size x.den; have h1 : (ByteArray.mk #[47]).size = 1 := rfl; rw [ByteArray.size_append]; omega))) (yp rfl (.assign rfl) (yn (zt ?_))))))); intro a w h
    refine retV h (results1 h rfl (.tmp rfl)) ?_
    unfold textQ; rw [if_neg hw]
end
section
def cmpZ (i k : Int) : Int := if i < k then -1 else if i > k then 1 else 0
def validQ (t : Rat) : Bool := decide (t.num.sign ≥ 0) && decide ((t - ((1 : Int) : Rat)).num.sign ≤ 0)
theorem C_isNaN (x : Int) : CtrV Tryz.prog 196 [.int .i64 x] (.bool false) := by
  refine fn_intro Tryz.func196 rfl Tryz.ntmps196 nb ?_
  intro S w0 a hS h
  refine gC h (zs (zr (za rfl (zn (zs (zr (zm rfl (zm rfl (zp (.neq rfl rfl) (za rfl (zn (zt ?_)))))))))))); clear h; intro a w h
  refine retV h (results1 h rfl (.tmp rfl)) ?_
  simp
theorem C_cmpZ (x y : Int) : CtrV Tryz.prog 152 [.int .i64 x, .int .i64 y] (.int .i64 (cmpZ x y)) := by
  refine fn_intro Tryz.func152 rfl Tryz.ntmps152 nb ?_
  intro S w0 a hS h
  refine gC h (zs (zr (za rfl (zn (zs (zr (zm rfl (zv [_] rfl Tryz.call196 (C_isNaN _) (za rfl (zn (zs (zr (zm rfl (zv [_] rfl Tryz.call196 (C_isNaN _) (za rfl (zn (zs (zs (zr (zm rfl ?_)))))))))))))))))))); clear h; intro a w h
  refine by_bool h (fun hc11 h => (by exfalso; cases hc11)) (fun hc11 h => ?_)
  refine wpList_nil ?_
  change Code.wp _ _ _ _ _
  refine cond_false h rfl ?_
  refine gC h (zk (zs (zs (zr (zm rfl ?_))))); clear h; intro a w h
  refine by_bool h (fun hc13 h => (by exfalso; cases hc13)) (fun hc13 h => ?_)
  refine wpList_nil ?_
  change Code.wp _ _ _ _ _
  refine cond_false h rfl ?_
  refine gC h (zk (zs (zs (zr (zm rfl (zm rfl (zp (.lss rfl rfl) (zn ?_)))))))); clear h; intro a w h
  change Code.wp _ _ _ _ _
  refine cond_split h rfl (fun hc16 => ?_) (fun hc16 => ?_)
  · skip
    refine gC h (zs (zr (za rfl (zn (zt ?_))))); clear h; intro a w h
    refine retV h (results1 h rfl (.tmp rfl)) ?_
    unfold cmpZ; have := of_decide_eq_true hc16; simp [this]
  · skip
    refine gC h (zk (zs (zs (zr (zm rfl (zm rfl (zp (.gtr rfl rfl) (zn ?_)))))))); clear h; intro a w h
    change Code.wp _ _ _ _ _
    refine cond_split h rfl (fun hc19 => ?_) (fun hc19 => ?_)
    · skip
      refine gC h (zs (zr (za rfl (zn (zt ?_))))); clear h; intro a w h
      refine retV h (results1 h rfl (.tmp rfl)) ?_
      unfold cmpZ; have h1 := of_decide_eq_false hc16; have h2 := of_decide_eq_true hc19; rw [if_neg h1, if_pos h2]
    · skip
      refine gC h (zk (zs (zr (za rfl (zn (zt ?_)))))); clear h; intro a w h
      refine retV h (results1 h rfl (.tmp rfl)) ?_
      unfold cmpZ; have h1 := of_decide_eq_false hc16; have h2 := of_decide_eq_false hc19; rw [if_neg h1, if_neg h2]
end
section
theorem run_negi (x : Int) (h0 : -9223372036854775807 ≤ x) (h1 : x ≤ 9223372036854775807) (w : World) : (Op.unary .neg (.int .i64 x)).run Tryz.prog w = .ok (.int .i64 (-x)) w := by
  have : (Op.unary .neg (.int .i64 x)).run Tryz.prog w = .ok (.int .i64 (IntKind.i64.wrap (0 - x))) w := by simp [Op.unary, Op.intArith]
  rw [this, wrap_i64 _ (by omega) (by omega)]; congr 2; omega
end
section
theorem len_slice_52 (a : Option Addr) (n c : Nat) (w : World) (ty : TypeId) (cs : Array Bool) : (Go.builtin .len #[52] ty cs #[.slice a n c]).run Tryz.prog w = .ok (.value (.int .i64 n)) w := by
  simp [go_sem]
theorem ix_52 (b off n c j : Nat) (h : j < n) (w : World) : (Instr.indexAt 52 (.slice (some ⟨b, off, none⟩) n c) (.int .i64 (j : Int))).run Tryz.prog w = .ok (.pointer (some ⟨b, off + j, none⟩)) w := by
  simpa using indexAt_slice Tryz.runUnderlying52 Tryz.sizeOf3 b off n c j h w
theorem slh_52 (a : Option Addr) (n c j : Nat) (h : j ≤ c) (w : World) : (Instr.sliceAt 52 (.slice a n c) none (some (.int .i64 (j : Int))) none).run Tryz.prog w = .ok (.slice a j c) w := by
  exact sliceAt_high Tryz.runUnderlying52 Tryz.sizeOf3 a n c j h w
theorem bs_52_1_0 (x0 : Int) (w : World) : (Instr.buildSlice 52 1 [(0, .int .i64 x0)].toArray).run Tryz.prog w = .ok (.slice (some ⟨w.heap.size, 0, none⟩) 1 1) (w.alloc (.cells #[.int .i64 x0] 3 (0, 0))) := by
  simp [go_sem]
theorem C_trim (ad : Option Addr) (c : Nat) (l : List Nat) (hw : Dd l) (hc : l.length ≤ c) (hs : l.length ≤ 2199023255552) :
    Ctr Tryz.prog 180 [.slice ad l.length c] [Row ad (List.map encn l)] (fun v Ψ => v = .slice ad (dg (valD l)).length c ∧ Ψ = [Row ad (List.map encn (dg (valD l)))]) := by
  refine fn_intro Tryz.func180 rfl Tryz.ntmps180 nb ?_
  intro S w0 a hS h
  refine gC h (zs (zr (za rfl (zn (zs (zb ?_)))))); clear h; intro a w h
  refine wp_loop_inv (fun (m : Nat) a w => m ≤ l.length ∧ (∀ j, m ≤ j → j < l.length → l.getD j 0 = 0) ∧ St 21 S w0 [(0, .slice ad m c)] [] [Row ad (List.map encn l)] a w) (fun m => m) (l.length) (⟨Nat.le_refl _, fun j h1 h2 => absurd h2 (by omega), h.sub (subL ⟨rfl, trivial⟩)⟩) ?_; clear h
  rintro m a w ⟨hm, hz, h⟩
  refine gC h (zs (zs (zr (zm rfl (zp (.builtin [_] rfl (len_slice_52 _ _ _)) (zp (.gtr rfl rfl) ?_)))))); clear h; intro a w h
  refine by_bool h (fun hc5 h => ?_) (fun hc5 h => ?_)
  · skip
    have hm0 : 0 < m := by have := of_decide_eq_true hc5; omega
    obtain ⟨B_ad, O_ad, rfl⟩ := h.row_addr (ad := ad) (M := List.map encn l) (by first | assumption | (repeat (first | exact List.Mem.head _ | apply List.Mem.tail))) (by intro e; have := congrArg List.length e; simp only [List.length_map, List.length_nil] at this; omega)
    refine gL h (zm rfl (zq 6 rfl rfl (.move rfl) (zq 6 rfl rfl (.move rfl) (zq 6 rfl rfl (.builtin [_] rfl (len_slice_52 _ _ _)) (zq 6 rfl rfl (Pure1.cast (v' := (.int .i64 ((m - 1 : Nat) : Int))) (.sub rfl rfl) (by show Value.int _ _ = Value.int _ _; congr 1; omega)) (zq 6 rfl rfl (.indexAddr rfl rfl (ix_52 _ _ _ _ _ (by omega))) ?_)))))); clear h; intro a w h
    refine wpl_guard 6 h rfl rfl (op_loadRow h rfl mm (by rw [List.length_map]; omega) Tryz.isAgg3 Tryz.sizeOf3 (read_row (enc := encn) (l := l) 0 (by omega)) (.inr rfl) (by decide) ?_); clear h; intro a h
    refine gL h (zq 6 rfl rfl (.eql rfl rfl) ?_); clear h; intro a w h
    refine by_bool h (fun hc13 h => ?_) (fun hc13 h => ?_)
    · skip
      have hv0 : l.getD (m - 1) 0 = 0 := natEq' hc13
      refine gL h (zp (.pickT rfl rfl) (zn ?_)); clear h; intro a w h
      change Code.wp _ _ _ _ _
      refine cond_true h rfl ?_
      refine gC h (zk (zb (zr (zm rfl (zm rfl (zp (.builtin [_] rfl (len_slice_52 _ _ _)) (zp (Pure1.cast (v' := (.int .i64 ((m - 1 : Nat) : Int))) (.sub rfl rfl) (by show Value.int _ _ = Value.int _ _; congr 1; omega)) (zp (.slice rfl none (some _) none rfl rfl rfl (slh_52 _ _ _ _ (by omega))) (za rfl (zn ?_)))))))))); clear h; intro a w h
      refine ⟨m - 1, ⟨by omega, fun j h1 h2 => ?_, h.sub sA⟩, by omega⟩
      by_cases hj : j = m - 1
      · subst hj; exact hv0
      · exact hz j (by omega) h2
    · skip
      have hv0 : l.getD (m - 1) 0 ≠ 0 := natNe' hc13
      refine gL h (zp (.pickT rfl rfl) (zn ?_)); clear h; intro a w h
      change Code.wp _ _ _ _ _
      refine cond_false h rfl ?_
      refine gC h (ze (zs (zr (zm rfl (za rfl (zn (zt ?_))))))); clear h; intro a w h
      have hcut := dcut_end hw hm hz (.inr hv0)
      have hR : ∀ ad, Row ad (List.map encn (dg (valD l))) = Row ad ((List.map encn l).take m) := by intro ad; rw [hcut, List.map_take]
      replace h := h.derive (R := Row _ (List.map encn (dg (valD l)))) (fun X hX => by rw [hR]; exact row_take (hX _ List.mem_cons_self) m)
      have hl : m = (dg (valD l)).length := by rw [hcut]; simp; omega
      refine ret_of (Ψ := [Row _ (List.map encn (dg (valD l)))]) h (results1 h rfl (.tmp rfl)) ⟨by rw [← hl], rfl⟩ (by simp)
  · skip
    have hm0 : m = 0 := by have := of_decide_eq_false hc5; omega
    refine gL h (zm rfl (zo 6 rfl rfl rfl (zo 6 rfl rfl rfl (zo 6 rfl rfl rfl (zo 6 rfl rfl rfl (zo 6 rfl rfl rfl (zo 6 rfl rfl rfl (zo 6 rfl rfl rfl (zp (.pickF rfl rfl) (zn ?_)))))))))); clear h; intro a w h
    change Code.wp _ _ _ _ _
    refine cond_false h rfl ?_
    refine gC h (ze (zs (zr (zm rfl (za rfl (zn (zt ?_))))))); clear h; intro a w h
    have hcut := dcut_end hw hm hz (.inl hm0)
    have hR : ∀ ad, Row ad (List.map encn (dg (valD l))) = Row ad ((List.map encn l).take m) := by intro ad; rw [hcut, List.map_take]
    replace h := h.derive (R := Row _ (List.map encn (dg (valD l)))) (fun X hX => by rw [hR]; exact row_take (hX _ List.mem_cons_self) m)
    have hl : m = (dg (valD l)).length := by rw [hcut]; simp; omega
    refine ret_of (Ψ := [Row _ (List.map encn (dg (valD l)))]) h (results1 h rfl (.tmp rfl)) ⟨by rw [← hl], rfl⟩ (by simp)
theorem C_rat (ad : Option Addr) (c : Nat) (l : List Nat) (i : Nat) :
    CtrW Tryz.prog 179 [.slice ad l.length c, .int .i64 ((i : Nat) : Int)] [Row ad (List.map encn l)] (.int .i64 ((l.getD i 0 : Nat) : Int)) := by
  refine fn_intro Tryz.func179 rfl Tryz.ntmps179 nb ?_
  intro S w0 a hS h
  refine gC h (zs (zr (za rfl (zn (zs (zs (zr (zm rfl (zm rfl (zp (.builtin [_] rfl (len_slice_52 _ _ _)) (zp (.lss rfl rfl) (zn ?_)))))))))))); clear h; intro a w h
  change Code.wp _ _ _ _ _
  refine cond_split h rfl (fun hc8 => ?_) (fun hc8 => ?_)
  · skip
    have hi : i < l.length := by have := of_decide_eq_true hc8; omega
    obtain ⟨B_ad, O_ad, rfl⟩ := h.row_addr (ad := ad) (M := List.map encn l) (by first | assumption | (repeat (first | exact List.Mem.head _ | apply List.Mem.tail))) (by intro e; have := congrArg List.length e; simp only [List.length_map, List.length_nil] at this; omega)
    refine gC h (zs (zr (zm rfl (zm rfl (zp (.indexAddr rfl rfl (ix_52 _ _ _ _ _ (by omega))) (zD rfl mm (by rw [List.length_map]; omega) Tryz.isAgg3 Tryz.sizeOf3 (read_row (enc := encn) (l := l) 0 (by omega)) (.inr rfl) ?_)))))); clear h; intro a w h
    refine gL h (za rfl (zn (zt ?_))); clear h; intro a w h
    refine retV h (results1 h rfl (.tmp rfl)) ?_
    rfl
  · skip
    have hi : l.length ≤ i := by have := of_decide_eq_false hc8; omega
    refine gC h (zk (zs (zr (za rfl (zn (zt ?_)))))); clear h; intro a w h
    refine retV h (results1 h rfl (.tmp rfl)) ?_
    rw [getD_ge hi]; rfl
def PostN (n : Nat) (v : Value) (Ψ : List SPred) : Prop := ∃ ad c, v = .slice ad (dg n).length c ∧ (dg n).length ≤ c ∧ Ψ = [Row ad (List.map encn (dg n))]
theorem dlt (n i : Nat) : (dg n).getD i 0 < 10000 := (Dd.dg n).getD i
theorem trimmed {n : Nat} {ad : Option Addr} {c : Nat} {v : Value} {Ψ : List SPred} {Z : List Nat} (hv : v = .slice ad (dg (valD Z)).length c ∧ Ψ = [Row ad (List.map encn (dg (valD Z)))]) (hZ : valD Z = n) (hw : Dd Z) (hc : Z.length ≤ c) : PostN n v Ψ := by
  subst hZ; exact ⟨ad, c, hv.1, Nat.le_trans (dg_length_le hw) hc, hv.2⟩
theorem C_rOf (n : Nat) (hn : n < 18446744073709551616) :
    Ctr Tryz.prog 181 [.int .u64 (n : Int)] [] (PostN n) := by
  have h5 : (dg n).length ≤ 5 := dg_len_le (Nat.lt_trans hn (by decide))
  refine fn_intro Tryz.func181 rfl Tryz.ntmps181 nb ?_
  intro S w0 a hS h
  refine gC h (zs (zr (za rfl (zn (zs (zr (za rfl (zn (zs (zb ?_)))))))))); clear h; intro a w h
  refine wp_loop_inv (fun (m : Nat) a w => ∃ l ad c o, m ≤ n ∧ dg n = l ++ dg m ∧ GrowO 1 3 (.slice ad l.length c) l.length (List.map encn l) o ∧ St 15 S w0 [(0, .int .u64 (m : Int)), (3, .slice ad l.length c)] (o ++ []) [] a w) (fun m => m) (n) (⟨[], none, 0, [], Nat.le_refl _, rfl, GrowO.nil _ _, by exact h.sub (subL ⟨rfl, rfl, trivial⟩)⟩) ?_; clear h
  rintro m a w ⟨l, ad, c, o, hm, hd, hG, h⟩
  have hll : l.length ≤ 5 := by have := congrArg List.length hd; simp at this; omega
  refine gC h (zs (zs (zr (zm rfl (zp (.gtr rfl rfl) (zn ?_)))))); clear h; intro a w h
  change Code.wp _ _ _ _ _
  refine cond_split h rfl (fun hc5 => ?_) (fun hc5 => ?_)
  · skip
    have hm0 : 0 < m := by have := of_decide_eq_true hc5; omega
    refine gC h (zk (zb (zs (zr (zm rfl (zm rfl (zp (Pure1.cast (v' := .int .u64 ((m % 10000 : Nat) : Int)) (.binOp rfl rfl (fun _ => run_rem _ _ _ _ _ (by decide))) (by rw [show (10000 : Int) = ((10000 : Nat) : Int) from rfl, tmod_nat])) (zp (.convert rfl (cv_36_3b _ (wrap_i64 _ (by omega) (by omega)))) (zB [(_, _)] rfl (bs_52_1_0 _) fun b10 => ?_))))))))); clear h; intro a w h
    refine wpl_plain (op_appendO (σr := []) h rfl rfl (List.Perm.trans (List.Perm.refl _) (List.Perm.cons _ (List.Perm.refl _))) hG Tryz.runUnderlying52 Tryz.runUnderlying52 Tryz.typeInfo3 Tryz.sizeOf3 Tryz.zeroValue3 rfl (by decide) (by decide) rfl rfl (by decide) (by show 8 * (2 * ((l).length + 1) + 192) ≤ 281474976710656; omega) (by decide) ?_); clear h
    intro v11 o11 a w hG11 h
    obtain ⟨ad11, c11, rfl⟩ := hG11.is
    have hLn11 : (l).length + 1 = (l ++ [m % 10000]).length := by simp only [List.length_append, List.length_cons, List.length_nil, Nat.zero_add]
    rw [hLn11] at h hG11
    replace hG11 : GrowO 1 3 (.slice ad11 (l ++ [m % 10000]).length c11) (l ++ [m % 10000]).length (List.map encn (l ++ [m % 10000])) o11 := by rw [List.map_append]; exact hG11
    refine gL h (za rfl (zn (zr (zm rfl (zp (Pure1.cast (v' := .int .u64 ((m / 10000 : Nat) : Int)) (.binOp rfl rfl (fun _ => run_quo _ _ _ _ _ (by decide))) (by rw [show (10000 : Int) = ((10000 : Nat) : Int) from rfl, tdiv_nat, wrap_u64n (Nat.lt_of_le_of_lt (Nat.div_le_self _ _) (Nat.lt_of_le_of_lt hm hn))])) (za rfl (zn ?_))))))); clear h; intro a w h
    exact ⟨m / 10000, ⟨l ++ [m % 10000], ad11, c11, o11, by omega, by rw [hd, dg_pos (Nat.ne_of_gt hm0)]; simp, hG11, by exact h.sub sA⟩, by omega⟩
  · skip
    have hm0 : m = 0 := by have := of_decide_eq_false hc5; omega
    refine gC h (ze (zs (zr (zm rfl (za rfl (zn (zt ?_))))))); clear h; intro a w h
    obtain rfl : l = dg n := by rw [hd, hm0, dg_zero, List.append_nil]
    exact ret_of (Ψ := [Row ad (List.map encn (dg n))]) (h.shareO' hS hG) (results1 h rfl (.tmp rfl)) ⟨ad, c, rfl, hG.le, rfl⟩ (by simp)
theorem drop_zero {l : List Nat} {i : Nat} (h : l.length ≤ i) : valD (l.drop i) = 0 := valD_drop_ge h
theorem C_rAdd (ad1 ad2 : Option Addr) (c1 c2 : Nat) (n m : Nat) (h1 : (dg n).length ≤ 1000000000000) (h2 : (dg m).length ≤ 1000000000000) :
    Ctr Tryz.prog 172 [.slice ad1 (dg n).length c1, .slice ad2 (dg m).length c2] [Row ad1 (List.map encn (dg n)), Row ad2 (List.map encn (dg m))] (PostN (n + m)) := by
  refine fn_intro Tryz.func172 rfl Tryz.ntmps172 nb ?_
  intro S w0 a hS h
  refine gC h (zs (zr (za rfl (zn (zs (zr (za rfl (zn (zs (zr (za rfl (zn (zs (zs (zr (za rfl (zn (zb ?_)))))))))))))))))); clear h; intro a w h
  refine wp_loop_inv (fun (i : Nat) a w => ∃ k Z ad c o, i ≤ max (dg n).length (dg m).length + 1 ∧ k ≤ 1 ∧ (i = max (dg n).length (dg m).length + 1 → k = 0) ∧ Z.length = i ∧ Dd Z ∧ valD Z + 10000 ^ i * (k + valD ((dg n).drop i) + valD ((dg m).drop i)) = n + m ∧ GrowO 1 3 (.slice ad Z.length c) Z.length (List.map encn Z) o ∧ St 43 S w0 [(0, .slice ad1 ((dg n).length) c1), (1, .slice ad2 ((dg m).length) c2), (5, .slice ad Z.length c), (6, .int .i64 ((k : Nat) : Int)), (7, .int .i64 ((i : Nat) : Int))] (o ++ []) [Row ad1 (List.map encn (dg n)), Row ad2 (List.map encn (dg m))] a w) (fun i => max (dg n).length (dg m).length + 1 - i) (0) (⟨0, [], none, 0, [], Nat.zero_le _, by omega, fun _ => rfl, rfl, (fun x hx => by cases hx), by simp [valD, valD_dg], GrowO.nil _ _, by exact h.sub (subL ⟨rfl, rfl, rfl, rfl, rfl, trivial⟩)⟩) ?_; clear h
  rintro i a w ⟨k, Z, ad, c, o, hi, hk, hik, hl, hw, hv, hG, h⟩
  have e1 := dlt n i
  have e2 := dlt m i
  refine gC h (zs (zs (zr (zm rfl (zm rfl (zp (.builtin [_] rfl (len_slice_52 _ _ _)) (zp (.lss rfl rfl) ?_))))))); clear h; intro a w h
  refine by_bool h (fun hc12 h => ?_) (fun hc12 h => ?_)
  · skip
    have hrun : i ≤ max (dg n).length (dg m).length := by have := of_decide_eq_true hc12; omega
    refine gL h (zm rfl (zo 13 rfl rfl rfl (zo 13 rfl rfl rfl (zo 13 rfl rfl rfl (zo 13 rfl rfl rfl (zp (.pickT rfl rfl) (zm rfl (zo 19 rfl rfl rfl (zo 19 rfl rfl rfl (zp (.pickT rfl rfl) (zn ?_))))))))))); clear h; intro a w h
    change Code.wp _ _ _ _ _
    refine cond_true h rfl ?_
    refine gC h (zk (zs (zb (zs (zr (zm rfl (zm rfl (zw [_, _] rfl Tryz.call179 (C_rat _ _ (dg n) (i)) (zm rfl (zm rfl (zw [_, _] rfl Tryz.call179 (C_rat _ _ (dg m) (i)) (zp (Pure1.cast (v' := (.int .i64 ((((dg n).getD i 0) + ((dg m).getD i 0) : Nat) : Int))) (.add rfl rfl) (by show Value.int _ _ = Value.int _ _; congr 1)) (zm rfl (zp (Pure1.cast (v' := (.int .i64 (((((dg n).getD i 0) + ((dg m).getD i 0)) + k : Nat) : Int))) (.add rfl rfl) (by show Value.int _ _ = Value.int _ _; congr 1)) (za rfl (zn (zs (zr (zm rfl (zm rfl (zp (Pure1.cast (v' := .int .i64 ((((dg n).getD i 0 + (dg m).getD i 0 + k) % 10000 : Nat) : Int)) (.binOp rfl rfl (fun _ => run_rem _ _ _ _ _ (by decide))) (by rw [show (10000 : Int) = ((10000 : Nat) : Int) from rfl, tmod_nat])) (zB [(_, _)] rfl (bs_52_1_0 _) fun b37 => ?_)))))))))))))))))))))); clear h; intro a w h
    refine wpl_plain (op_appendO (σr := []) h rfl rfl (List.Perm.trans (List.Perm.refl _) (List.Perm.cons _ (List.Perm.refl _))) hG Tryz.runUnderlying52 Tryz.runUnderlying52 Tryz.typeInfo3 Tryz.sizeOf3 Tryz.zeroValue3 rfl (by decide) (by decide) rfl rfl (by decide) (by show 8 * (2 * ((Z).length + 1) + 192) ≤ 281474976710656; omega) (by decide) ?_); clear h
    intro v38 o38 a w hG38 h
    obtain ⟨ad38, c38, rfl⟩ := hG38.is
    have hLn38 : (Z).length + 1 = (Z ++ [((dg n).getD i 0 + (dg m).getD i 0 + k) % 10000]).length := by simp only [List.length_append, List.length_cons, List.length_nil, Nat.zero_add]
    rw [hLn38] at h hG38
    replace hG38 : GrowO 1 3 (.slice ad38 (Z ++ [((dg n).getD i 0 + (dg m).getD i 0 + k) % 10000]).length c38) (Z ++ [((dg n).getD i 0 + (dg m).getD i 0 + k) % 10000]).length (List.map encn (Z ++ [((dg n).getD i 0 + (dg m).getD i 0 + k) % 10000])) o38 := by rw [List.map_append]; exact hG38
    refine gL h (za rfl (zn (zr (zm rfl (zp (Pure1.cast (v' := .int .i64 ((((dg n).getD i 0 + (dg m).getD i 0 + k) / 10000 : Nat) : Int)) (.binOp rfl rfl (fun _ => run_quo _ _ _ _ _ (by decide))) (by rw [show (10000 : Int) = ((10000 : Nat) : Int) from rfl, tdiv_nat, wrap_i64 _ (by omega) (by omega)])) (za rfl (zn (zr (zm rfl (zp (Pure1.cast (v' := (.int .i64 ((i + 1 : Nat) : Int))) (.add rfl rfl) (by show Value.int _ _ = Value.int _ _; congr 1)) (za rfl (zn ?_)))))))))))); clear h; intro a w h
    exact ⟨i + 1, ⟨((dg n).getD i 0 + (dg m).getD i 0 + k) / 10000, Z ++ [((dg n).getD i 0 + (dg m).getD i 0 + k) % 10000], ad38, c38, o38, by omega, by omega, fun hx => by rw [getD_ge (l := dg n) (by omega), getD_ge (l := dg m) (by omega)]; omega, by rw [List.length_append, hl]; rfl, hw.snoc (Nat.mod_lt _ (by decide)), radd_step hl hv, hG38, by exact h.sub sA⟩, by omega⟩
  · skip
    have hna : (dg n).length ≤ i := by have := of_decide_eq_false hc12; omega
    refine gL h (zm rfl (zq 13 rfl rfl (.move rfl) (zq 13 rfl rfl (.move rfl) (zq 13 rfl rfl (.builtin [_] rfl (len_slice_52 _ _ _)) (zq 13 rfl rfl (.lss rfl rfl) ?_))))); clear h; intro a w h
    refine by_bool h (fun hc17 h => ?_) (fun hc17 h => ?_)
    · skip
      have hrun : i ≤ max (dg n).length (dg m).length := by have := of_decide_eq_true hc17; omega
      refine gL h (zp (.pickF rfl rfl) (zm rfl (zo 19 rfl rfl rfl (zo 19 rfl rfl rfl (zp (.pickT rfl rfl) (zn ?_)))))); clear h; intro a w h
      change Code.wp _ _ _ _ _
      refine cond_true h rfl ?_
      refine gC h (zk (zs (zb (zs (zr (zm rfl (zm rfl (zw [_, _] rfl Tryz.call179 (C_rat _ _ (dg n) (i)) (zm rfl (zm rfl (zw [_, _] rfl Tryz.call179 (C_rat _ _ (dg m) (i)) (zp (Pure1.cast (v' := (.int .i64 ((((dg n).getD i 0) + ((dg m).getD i 0) : Nat) : Int))) (.add rfl rfl) (by show Value.int _ _ = Value.int _ _; congr 1)) (zm rfl (zp (Pure1.cast (v' := (.int .i64 (((((dg n).getD i 0) + ((dg m).getD i 0)) + k : Nat) : Int))) (.add rfl rfl) (by show Value.int _ _ = Value.int _ _; congr 1)) (za rfl (zn (zs (zr (zm rfl (zm rfl (zp (Pure1.cast (v' := .int .i64 ((((dg n).getD i 0 + (dg m).getD i 0 + k) % 10000 : Nat) : Int)) (.binOp rfl rfl (fun _ => run_rem _ _ _ _ _ (by decide))) (by rw [show (10000 : Int) = ((10000 : Nat) : Int) from rfl, tmod_nat])) (zB [(_, _)] rfl (bs_52_1_0 _) fun b37 => ?_)))))))))))))))))))))); clear h; intro a w h
      refine wpl_plain (op_appendO (σr := []) h rfl rfl (List.Perm.trans (List.Perm.refl _) (List.Perm.cons _ (List.Perm.refl _))) hG Tryz.runUnderlying52 Tryz.runUnderlying52 Tryz.typeInfo3 Tryz.sizeOf3 Tryz.zeroValue3 rfl (by decide) (by decide) rfl rfl (by decide) (by show 8 * (2 * ((Z).length + 1) + 192) ≤ 281474976710656; omega) (by decide) ?_); clear h
      intro v38 o38 a w hG38 h
      obtain ⟨ad38, c38, rfl⟩ := hG38.is
      have hLn38 : (Z).length + 1 = (Z ++ [((dg n).getD i 0 + (dg m).getD i 0 + k) % 10000]).length := by simp only [List.length_append, List.length_cons, List.length_nil, Nat.zero_add]
      rw [hLn38] at h hG38
      replace hG38 : GrowO 1 3 (.slice ad38 (Z ++ [((dg n).getD i 0 + (dg m).getD i 0 + k) % 10000]).length c38) (Z ++ [((dg n).getD i 0 + (dg m).getD i 0 + k) % 10000]).length (List.map encn (Z ++ [((dg n).getD i 0 + (dg m).getD i 0 + k) % 10000])) o38 := by rw [List.map_append]; exact hG38
      refine gL h (za rfl (zn (zr (zm rfl (zp (Pure1.cast (v' := .int .i64 ((((dg n).getD i 0 + (dg m).getD i 0 + k) / 10000 : Nat) : Int)) (.binOp rfl rfl (fun _ => run_quo _ _ _ _ _ (by decide))) (by rw [show (10000 : Int) = ((10000 : Nat) : Int) from rfl, tdiv_nat, wrap_i64 _ (by omega) (by omega)])) (za rfl (zn (zr (zm rfl (zp (Pure1.cast (v' := (.int .i64 ((i + 1 : Nat) : Int))) (.add rfl rfl) (by show Value.int _ _ = Value.int _ _; congr 1)) (za rfl (zn ?_)))))))))))); clear h; intro a w h
      exact ⟨i + 1, ⟨((dg n).getD i 0 + (dg m).getD i 0 + k) / 10000, Z ++ [((dg n).getD i 0 + (dg m).getD i 0 + k) % 10000], ad38, c38, o38, by omega, by omega, fun hx => by rw [getD_ge (l := dg n) (by omega), getD_ge (l := dg m) (by omega)]; omega, by rw [List.length_append, hl]; rfl, hw.snoc (Nat.mod_lt _ (by decide)), radd_step hl hv, hG38, by exact h.sub sA⟩, by omega⟩
    · skip
      have hnb : (dg m).length ≤ i := by have := of_decide_eq_false hc17; omega
      refine gL h (zp (.pickF rfl rfl) (zm rfl (zq 19 rfl rfl (.move rfl) (zq 19 rfl rfl (.gtr rfl rfl) ?_)))); clear h; intro a w h
      refine by_bool h (fun hc21 h => ?_) (fun hc21 h => ?_)
      · skip
        have hrun : i ≤ max (dg n).length (dg m).length := by have := of_decide_eq_true hc21; omega
        refine gL h (zp (.pickF rfl rfl) (zn ?_)); clear h; intro a w h
        change Code.wp _ _ _ _ _
        refine cond_true h rfl ?_
        refine gC h (zk (zs (zb (zs (zr (zm rfl (zm rfl (zw [_, _] rfl Tryz.call179 (C_rat _ _ (dg n) (i)) (zm rfl (zm rfl (zw [_, _] rfl Tryz.call179 (C_rat _ _ (dg m) (i)) (zp (Pure1.cast (v' := (.int .i64 ((((dg n).getD i 0) + ((dg m).getD i 0) : Nat) : Int))) (.add rfl rfl) (by show Value.int _ _ = Value.int _ _; congr 1)) (zm rfl (zp (Pure1.cast (v' := (.int .i64 (((((dg n).getD i 0) + ((dg m).getD i 0)) + k : Nat) : Int))) (.add rfl rfl) (by show Value.int _ _ = Value.int _ _; congr 1)) (za rfl (zn (zs (zr (zm rfl (zm rfl (zp (Pure1.cast (v' := .int .i64 ((((dg n).getD i 0 + (dg m).getD i 0 + k) % 10000 : Nat) : Int)) (.binOp rfl rfl (fun _ => run_rem _ _ _ _ _ (by decide))) (by rw [show (10000 : Int) = ((10000 : Nat) : Int) from rfl, tmod_nat])) (zB [(_, _)] rfl (bs_52_1_0 _) fun b37 => ?_)))))))))))))))))))))); clear h; intro a w h
        refine wpl_plain (op_appendO (σr := []) h rfl rfl (List.Perm.trans (List.Perm.refl _) (List.Perm.cons _ (List.Perm.refl _))) hG Tryz.runUnderlying52 Tryz.runUnderlying52 Tryz.typeInfo3 Tryz.sizeOf3 Tryz.zeroValue3 rfl (by decide) (by decide) rfl rfl (by decide) (by show 8 * (2 * ((Z).length + 1) + 192) ≤ 281474976710656; omega) (by decide) ?_); clear h
        intro v38 o38 a w hG38 h
        obtain ⟨ad38, c38, rfl⟩ := hG38.is
        have hLn38 : (Z).length + 1 = (Z ++ [((dg n).getD i 0 + (dg m).getD i 0 + k) % 10000]).length := by simp only [List.length_append, List.length_cons, List.length_nil, Nat.zero_add]
        rw [hLn38] at h hG38
        replace hG38 : GrowO 1 3 (.slice ad38 (Z ++ [((dg n).getD i 0 + (dg m).getD i 0 + k) % 10000]).length c38) (Z ++ [((dg n).getD i 0 + (dg m).getD i 0 + k) % 10000]).length (List.map encn (Z ++ [((dg n).getD i 0 + (dg m).getD i 0 + k) % 10000])) o38 := by rw [List.map_append]; exact hG38
        refine gL h (za rfl (zn (zr (zm rfl (zp (Pure1.cast (v' := .int .i64 ((((dg n).getD i 0 + (dg m).getD i 0 + k) / 10000 : Nat) : Int)) (.binOp rfl rfl (fun _ => run_quo _ _ _ _ _ (by decide))) (by rw [show (10000 : Int) = ((10000 : Nat) : Int) from rfl, tdiv_nat, wrap_i64 _ (by omega) (by omega)])) (za rfl (zn (zr (zm rfl (zp (Pure1.cast (v' := (.int .i64 ((i + 1 : Nat) : Int))) (.add rfl rfl) (by show Value.int _ _ = Value.int _ _; congr 1)) (za rfl (zn ?_)))))))))))); clear h; intro a w h
        exact ⟨i + 1, ⟨((dg n).getD i 0 + (dg m).getD i 0 + k) / 10000, Z ++ [((dg n).getD i 0 + (dg m).getD i 0 + k) % 10000], ad38, c38, o38, by omega, by omega, fun hx => by rw [getD_ge (l := dg n) (by omega), getD_ge (l := dg m) (by omega)]; omega, by rw [List.length_append, hl]; rfl, hw.snoc (Nat.mod_lt _ (by decide)), radd_step hl hv, hG38, by exact h.sub sA⟩, by omega⟩
      · skip
        have hk0 : k = 0 := by have := of_decide_eq_false hc21; omega
        refine gL h (zp (.pickF rfl rfl) (zn ?_)); clear h; intro a w h
        change Code.wp _ _ _ _ _
        refine cond_false h rfl ?_
        refine gC h (ze (zs (zr (zm rfl ?_)))); clear h; intro a w h
        replace h := h.shareO' hS hG
        have hZ : valD Z = n + m := by rw [hk0, drop_zero hna, drop_zero hnb] at hv; simpa using hv
        refine gL h (zf [_] rfl Tryz.call180 (C_trim ad c Z hw hG.le (by omega)) ?_); clear h; rintro v42 Ψ42 ht a w h
        refine gL h (za rfl (zn (zt ?_))); clear h; intro a w h
        exact ret_of h (results1 h rfl (.tmp rfl)) (trimmed ht hZ hw hG.le) (fun R hR => List.mem_append_left _ hR)
theorem C_rSub (ad1 ad2 : Option Addr) (c1 c2 : Nat) (n m : Nat) (h1 : (dg n).length ≤ 1000000000000) (h2 : (dg m).length ≤ 1000000000000) (hle : m ≤ n) :
    Ctr Tryz.prog 177 [.slice ad1 (dg n).length c1, .slice ad2 (dg m).length c2] [Row ad1 (List.map encn (dg n)), Row ad2 (List.map encn (dg m))] (PostN (n - m)) := by
  refine fn_intro Tryz.func177 rfl Tryz.ntmps177 nb ?_
  intro S w0 a hS h
  refine gC h (zs (zr (za rfl (zn (zs (zr (za rfl (zn (zs (zr (za rfl (zn (zs (zs (zr (za rfl (zn (zb ?_)))))))))))))))))); clear h; intro a w h
  refine wp_loop_inv (fun (i : Nat) a w => ∃ k Z ad c o, i ≤ (dg n).length ∧ k ≤ 1 ∧ Z.length = i ∧ Dd Z ∧ valD Z + m + 10000 ^ i * valD ((dg n).drop i) = n + 10000 ^ i * (k + valD ((dg m).drop i)) ∧ GrowO 1 3 (.slice ad Z.length c) Z.length (List.map encn Z) o ∧ St 35 S w0 [(0, .slice ad1 ((dg n).length) c1), (1, .slice ad2 ((dg m).length) c2), (5, .slice ad Z.length c), (6, .int .i64 ((k : Nat) : Int)), (7, .int .i64 ((i : Nat) : Int))] (o ++ []) [Row ad1 (List.map encn (dg n)), Row ad2 (List.map encn (dg m))] a w) (fun i => (dg n).length - i) (0) (⟨0, [], none, 0, [], Nat.zero_le _, by omega, rfl, (fun x hx => by cases hx), by simp [valD, valD_dg, Nat.add_comm], GrowO.nil _ _, by exact h.sub (subL ⟨rfl, rfl, rfl, rfl, rfl, trivial⟩)⟩) ?_; clear h
  rintro i a w ⟨k, Z, ad, c, o, hi, hk, hl, hw, hv, hG, h⟩
  have e1 := dlt n i
  have e2 := dlt m i
  refine gC h (zs (zs (zr (zm rfl (zm rfl (zp (.builtin [_] rfl (len_slice_52 _ _ _)) (zp (.lss rfl rfl) (zn ?_)))))))); clear h; intro a w h
  change Code.wp _ _ _ _ _
  refine cond_split h rfl (fun hc12 => ?_) (fun hc12 => ?_)
  · skip
    have hrun : i < (dg n).length := by have := of_decide_eq_true hc12; omega
    obtain ⟨B_ad, O_ad, rfl⟩ := h.row_addr (ad := ad1) (M := List.map encn (dg n)) mm (by intro e; have := congrArg List.length e; simp only [List.length_map, List.length_nil] at this; omega)
    refine gC h (zk (zs (zb (zs (yD mixed_YtddhlkfpdjmplaaGreatDoor [0, 1, 2, 3, 4, 5, 8, 6, 7, 9, 10] (floatsOK_none (by kernel_rfl)) (yp rfl (.move rfl) (yp rfl (.move rfl) (yp rfl (.indexAddr rfl rfl (ix_52 _ _ _ _ _ (by omega))) ?_)))))))); clear h
    refine head_loadRow rfl (by kernel_rfl) rfl mm (by rw [List.length_map]; omega) Tryz.isAgg3 Tryz.sizeOf3 (read_row (enc := encn) (l := (dg n)) 0 (by omega)) (.inr rfl) (by decide) ?_
    refine yp rfl (.move rfl) (yp rfl (.move rfl) (yp rfl (.move rfl) (yw [_, _] rfl rfl Tryz.call179 (C_rat _ _ (dg m) (i)) (yp rfl (.sub rfl rfl) (yp rfl (.sub rfl rfl) (yp rfl (.assign rfl) (yn (zs (zr (za rfl (zn (zs (zs (zr (zm rfl (zp (.lss rfl rfl) (zn ?_))))))))))))))))); intro a w h
    change Code.wp _ _ _ _ _
    refine cond_split h rfl (fun hc26 => ?_) (fun hc26 => ?_)
    · skip
      have hneg := of_decide_eq_true hc26
      obtain ⟨d, hd⟩ : ∃ d : Nat, d + (dg m).getD i 0 + k = (dg n).getD i 0 + 10000 * 1 := ⟨(dg n).getD i 0 + 10000 - (dg m).getD i 0 - k, by omega⟩
      have hd1 : d < 10000 := by omega
      refine gC h (zs (zr (zm rfl (zp (Pure1.cast (v' := .int .i64 ((d : Nat) : Int)) (.add rfl rfl) (by show Value.int _ _ = Value.int _ _; congr 1; omega)) (za rfl (zn (zr (za rfl (zn (zr (zm rfl (zp (Pure1.cast (v' := .int .i64 ((d : Nat) : Int)) (.move rfl) (by first | rfl | (show Value.int _ _ = Value.int _ _; congr 1; omega))) (zB [(_, _)] rfl (bs_52_1_0 _) fun b31 => ?_))))))))))))); clear h; intro a w h
      refine wpl_plain (op_appendO (σr := []) h rfl rfl (List.Perm.trans (List.Perm.refl _) (List.Perm.cons _ (List.Perm.refl _))) hG Tryz.runUnderlying52 Tryz.runUnderlying52 Tryz.typeInfo3 Tryz.sizeOf3 Tryz.zeroValue3 rfl (by decide) (by decide) rfl rfl (by decide) (by show 8 * (2 * ((Z).length + 1) + 192) ≤ 281474976710656; omega) (by decide) ?_); clear h
      intro v32 o32 a w hG32 h
      obtain ⟨ad32, c32, rfl⟩ := hG32.is
      have hLn32 : (Z).length + 1 = (Z ++ [d]).length := by simp only [List.length_append, List.length_cons, List.length_nil, Nat.zero_add]
      rw [hLn32] at h hG32
      replace hG32 : GrowO 1 3 (.slice ad32 (Z ++ [d]).length c32) (Z ++ [d]).length (List.map encn (Z ++ [d])) o32 := by rw [List.map_append]; exact hG32
      refine gL h (za rfl (zn (zr (zm rfl (zp (Pure1.cast (v' := (.int .i64 ((i + 1 : Nat) : Int))) (.add rfl rfl) (by show Value.int _ _ = Value.int _ _; congr 1)) (za rfl (zn ?_))))))); clear h; intro a w h
      exact ⟨i + 1, ⟨1, Z ++ [d], ad32, c32, o32, by omega, by omega, by rw [List.length_append, hl]; rfl, hw.snoc hd1, rsub_step hl hd hv, hG32, by exact h.sub sA⟩, by omega⟩
    · skip
      have hneg := of_decide_eq_false hc26
      obtain ⟨d, hd⟩ : ∃ d : Nat, d + (dg m).getD i 0 + k = (dg n).getD i 0 + 10000 * 0 := ⟨(dg n).getD i 0 - (dg m).getD i 0 - k, by omega⟩
      have hd1 : d < 10000 := by omega
      refine gC h (zk (zr (zm rfl (zp (Pure1.cast (v' := .int .i64 ((d : Nat) : Int)) (.move rfl) (by first | rfl | (show Value.int _ _ = Value.int _ _; congr 1; omega))) (zB [(_, _)] rfl (bs_52_1_0 _) fun b31 => ?_))))); clear h; intro a w h
      refine wpl_plain (op_appendO (σr := []) h rfl rfl (List.Perm.trans (List.Perm.refl _) (List.Perm.cons _ (List.Perm.refl _))) hG Tryz.runUnderlying52 Tryz.runUnderlying52 Tryz.typeInfo3 Tryz.sizeOf3 Tryz.zeroValue3 rfl (by decide) (by decide) rfl rfl (by decide) (by show 8 * (2 * ((Z).length + 1) + 192) ≤ 281474976710656; omega) (by decide) ?_); clear h
      intro v32 o32 a w hG32 h
      obtain ⟨ad32, c32, rfl⟩ := hG32.is
      have hLn32 : (Z).length + 1 = (Z ++ [d]).length := by simp only [List.length_append, List.length_cons, List.length_nil, Nat.zero_add]
      rw [hLn32] at h hG32
      replace hG32 : GrowO 1 3 (.slice ad32 (Z ++ [d]).length c32) (Z ++ [d]).length (List.map encn (Z ++ [d])) o32 := by rw [List.map_append]; exact hG32
      refine gL h (za rfl (zn (zr (zm rfl (zp (Pure1.cast (v' := (.int .i64 ((i + 1 : Nat) : Int))) (.add rfl rfl) (by show Value.int _ _ = Value.int _ _; congr 1)) (za rfl (zn ?_))))))); clear h; intro a w h
      exact ⟨i + 1, ⟨0, Z ++ [d], ad32, c32, o32, by omega, by omega, by rw [List.length_append, hl]; rfl, hw.snoc hd1, rsub_step hl hd hv, hG32, by exact h.sub sA⟩, by omega⟩
  · skip
    have hna : i = (dg n).length := by have := of_decide_eq_false hc12; omega
    refine gC h (ze (zs (zr (zm rfl ?_)))); clear h; intro a w h
    replace h := h.shareO' hS hG
    have hZ : valD Z = n - m := by rw [hna, drop_zero (Nat.le_refl _), drop_zero (dg_len_mono hle)] at hv; exact dsub_end hw (hl.trans hna) hle (by simpa using hv)
    refine gL h (zf [_] rfl Tryz.call180 (C_trim ad c Z hw hG.le (by omega)) ?_); clear h; rintro v34 Ψ34 ht a w h
    refine gL h (za rfl (zn (zt ?_))); clear h; intro a w h
    exact ret_of h (results1 h rfl (.tmp rfl)) (trimmed ht hZ hw hG.le) (fun R hR => List.mem_append_left _ hR)
theorem map_reps (n : Nat) : List.map encn (List.replicate n 0) = reps n (Value.cells (.int .i64 0)).toList := by
  rw [List.map_replicate]; unfold reps
  induction n with
  | zero => rfl
  | succ n ih => rw [List.replicate_succ, List.replicate_succ, List.flatten_cons, ← ih]; rfl
theorem C_rMul (ad1 ad2 : Option Addr) (c1 c2 : Nat) (n m : Nat) (h1 : (dg n).length ≤ 1000000000000) (h2 : (dg m).length ≤ 1000000000000) :
    Ctr Tryz.prog 131 [.slice ad1 (dg n).length c1, .slice ad2 (dg m).length c2] [Row ad1 (List.map encn (dg n)), Row ad2 (List.map encn (dg m))] (PostN (n * m)) := by
  refine fn_intro Tryz.func131 rfl Tryz.ntmps131 nb ?_
  intro S w0 a hS h
  refine gC h (zs (zr (za rfl (zn (zs (zr (zm rfl (zp (.builtin [_] rfl (len_slice_52 _ _ _)) (zm rfl (zp (.builtin [_] rfl (len_slice_52 _ _ _)) (zp (Pure1.cast (v' := (.int .i64 ((((dg n).length) + ((dg m).length) : Nat) : Int))) (.add rfl rfl) (by show Value.int _ _ = Value.int _ _; congr 1)) ?_))))))))))); clear h; intro a w h
  refine wpl_plain (op_makeSlice h rfl rfl Tryz.runUnderlying52 Tryz.typeInfo3 Tryz.sizeOf3 Tryz.zeroValue3 rfl (by decide) (by omega) (by show 8 * (((dg n).length) + ((dg m).length)) ≤ 281474976710656; omega) (by omega) (by decide) ?_); clear h; intro b15 a w h; replace h := h.same rfl (by rw [← map_reps]) rfl
  refine gL h (za rfl (zn (zs (zs (zr (za rfl (zn (zb ?_)))))))); clear h; intro a w h
  refine wp_loop_inv (fun (i : Nat) a w => i ≤ (dg n).length ∧ ∃ Z, (Z.length = (dg n).length + (dg m).length ∧ Dd Z ∧ valD Z = valD ((dg n).take i) * m) ∧ St 60 S w0 [(0, .slice ad1 ((dg n).length) c1), (1, .slice ad2 ((dg m).length) c2), (5, .slice (some ⟨b15, 0, none⟩) (((dg n).length) + ((dg m).length)) (((dg n).length) + ((dg m).length))), (6, .int .i64 ((i : Nat) : Int))] [(b15, .cells (List.map encn (Z)).toArray 3 (0, 0))] [Row ad1 (List.map encn (dg n)), Row ad2 (List.map encn (dg m))] a w) (fun i => (dg n).length - i) 0 (⟨Nat.zero_le _, List.replicate _ 0, ⟨by rw [List.length_replicate], Dd.zeros _, by rw [valD_zeros _ (fun x hx => List.eq_of_mem_replicate hx)]; simp [valD]⟩, by exact (h).sub (subL ⟨rfl, rfl, rfl, rfl, trivial⟩)⟩) ?_; clear h
  rintro i a w ⟨hi_i, Z, ⟨hl, hw, hv⟩, h⟩
  refine gC h (zs (zs (zr (zm rfl (zm rfl (zp (.builtin [_] rfl (len_slice_52 _ _ _)) (zp (.lss rfl rfl) (zn ?_)))))))); clear h; intro a w h
  change Code.wp _ _ _ _ _
  refine cond_split h rfl (fun hc19 => ?_) (fun hc19 => ?_)
  · skip
    have hlt_i : i < (dg n).length := by have := of_decide_eq_true hc19; omega
    obtain ⟨B_ad1, O_ad1, rfl⟩ := h.row_addr (ad := ad1) (M := List.map encn (dg n)) mm (by intro e; have := congrArg List.length e; simp only [List.length_map, List.length_nil] at this; omega)
    refine gC h (zk (zs (zb (zs (zr (za rfl (zn (zs (zr (za rfl (zn (zb ?_)))))))))))); clear h; intro a w h
    refine wp_loop_inv (fun (k : Nat) a w => ∃ c Z, (k ≤ (dg m).length + 1 ∧ c < 10000 ∧ (k = (dg m).length + 1 → c = 0) ∧ (k ≤ (dg m).length → Z.getD (i + (dg m).length) 0 = 0) ∧ Z.length = (dg n).length + (dg m).length ∧ Dd Z ∧ valD Z + 10000 ^ (i + k) * c + 10000 ^ (i + k) * ((dg n).getD i 0 * valD ((dg m).drop k)) = valD ((dg n).take i) * m + 10000 ^ i * ((dg n).getD i 0 * m)) ∧ St 60 S w0 [(0, .slice (some ⟨B_ad1, O_ad1, none⟩) ((dg n).length) c1), (1, .slice ad2 ((dg m).length) c2), (5, .slice (some ⟨b15, 0, none⟩) (((dg n).length) + ((dg m).length)) (((dg n).length) + ((dg m).length))), (6, .int .i64 ((i : Nat) : Int)), (7, .int .i64 ((c : Nat) : Int)), (8, .int .i64 ((k : Nat) : Int))] [(b15, .cells (List.map encn (Z)).toArray 3 (0, 0))] [Row (some ⟨B_ad1, O_ad1, none⟩) (List.map encn (dg n)), Row ad2 (List.map encn (dg m))] a w) (fun k => (dg m).length + 1 - k) (0) (⟨0, Z, ⟨Nat.zero_le _, by decide, fun _ => rfl, fun _ => dmul_zero_above (Dd.dg n) (Dd.dg m) (by rw [valD_dg]; exact hv) (Nat.le_refl _), hl, hw, by rw [hv]; simp [valD_dg]⟩, by exact h.sub (subL ⟨rfl, rfl, rfl, rfl, rfl, rfl, trivial⟩)⟩) ?_; clear h
    rintro k a w ⟨c, Z, ⟨hk, hc, hkc, hz, hl, hw, hv⟩, h⟩
    have e1 := dlt n i
    have e2 := dlt m k
    have hab : (dg n).getD i 0 * (dg m).getD k 0 ≤ 9999 * 9999 := Nat.mul_le_mul (by omega) (by omega)
    have e3 := hw.getD (i + k)
    refine gC h (zs (zs (zr (zm rfl (zm rfl (zp (.builtin [_] rfl (len_slice_52 _ _ _)) (zp (.lss rfl rfl) ?_))))))); clear h; intro a w h
    refine by_bool h (fun hc25 h => ?_) (fun hc25 h => ?_)
    · skip
      have hrun : k ≤ (dg m).length := by have := of_decide_eq_true hc25; omega
      refine gL h (zm rfl (zo 26 rfl rfl rfl (zo 26 rfl rfl rfl (zp (.pickT rfl rfl) (zn ?_))))); clear h; intro a w h
      change Code.wp _ _ _ _ _
      refine cond_true h rfl ?_
      refine gC h (zk (zs (zb (zs (yD mixed_YtddhlkfpdjmplaaGreatDoor [0, 1, 2, 3, 4, 5, 6, 7, 8, 9, 10, 11, 15, 12, 13, 14, 16, 17] (floatsOK_none (by kernel_rfl)) (yp rfl (.move rfl) (yp rfl (.move rfl) (yp rfl (.move rfl) (yp rfl (Pure1.cast (v' := (.int .i64 ((i + k : Nat) : Int))) (.add rfl rfl) (by show Value.int _ _ = Value.int _ _; congr 1)) (yp rfl (.indexAddr rfl rfl (ix_52 _ _ _ _ _ (by omega))) (yd rfl rfl mm Tryz.isAgg3 Tryz.sizeOf3 ((congrArg _ (Nat.zero_add _)).trans (read_row (enc := encn) (l := Z) 0 (by omega))) ?_))))))))))); clear h
      refine yp rfl (.move rfl) (yp rfl (.move rfl) (yp rfl (.indexAddr rfl rfl (ix_52 _ _ _ _ _ (by omega))) ?_))
      refine head_loadRow rfl (by kernel_rfl) rfl mm (by rw [List.length_map]; omega) Tryz.isAgg3 Tryz.sizeOf3 (read_row (enc := encn) (l := (dg n)) 0 (by omega)) (.inr rfl) (by decide) ?_
      refine yp rfl (.move rfl) (yp rfl (.move rfl) (yp rfl (.move rfl) (yw [_, _] rfl rfl Tryz.call179 (C_rat _ _ (dg m) (k)) (yp rfl (Pure1.cast (v' := (.int .i64 ((((dg n).getD i 0) * ((dg m).getD k 0) : Nat) : Int))) (.mul rfl rfl) (by show Value.int _ _ = Value.int _ _; congr 1)) (yp rfl (Pure1.cast (v' := (.int .i64 (((Z.getD (i + k) 0) + (((dg n).getD i 0) * ((dg m).getD k 0)) : Nat) : Int))) (.add rfl rfl) (by show Value.int _ _ = Value.int _ _; congr 1)) (yp rfl (Pure1.cast (v' := .int .i64 ((c + ((dg n).getD i 0 * (dg m).getD k 0 + Z.getD (i + k) 0) : Nat) : Int)) (Pure1.cast (v' := (.int .i64 ((((Z.getD (i + k) 0) + (((dg n).getD i 0) * ((dg m).getD k 0))) + c : Nat) : Int))) (.add rfl rfl) (by show Value.int _ _ = Value.int _ _; congr 1)) (by show Value.int _ _ = Value.int _ _; congr 1; omega)) (yp rfl (.assign rfl) (yn (zs (zr (zm rfl (zm rfl (zm rfl (zp (Pure1.cast (v' := (.int .i64 ((i + k : Nat) : Int))) (.add rfl rfl) (by show Value.int _ _ = Value.int _ _; congr 1)) (zm rfl (zp (Pure1.cast (v' := .int .i64 (((c + ((dg n).getD i 0 * (dg m).getD k 0 + Z.getD (i + k) 0)) % 10000 : Nat) : Int)) (.binOp rfl rfl (fun _ => run_rem _ _ _ _ _ (by decide))) (by rw [show (10000 : Int) = ((10000 : Nat) : Int) from rfl, tmod_nat])) (zp (.indexAddr rfl rfl (ix_52 _ _ _ _ _ (by omega))) (zt' rfl rfl ((congrArg (fun z => setFrom _ z _) (Nat.zero_add _)).trans (set_row (enc := encn) Z (i + k) ((c + ((dg n).getD i 0 * (dg m).getD k 0 + Z.getD (i + k) 0)) % 10000))) uu Tryz.sizeOf3 rfl (by simp; omega) rfl ?_)))))))))))))))))); intro a w h
      refine gL h (zn (zr (zm rfl (zp (Pure1.cast (v' := .int .i64 (((c + ((dg n).getD i 0 * (dg m).getD k 0 + Z.getD (i + k) 0)) / 10000 : Nat) : Int)) (.binOp rfl rfl (fun _ => run_quo _ _ _ _ _ (by decide))) (by rw [show (10000 : Int) = ((10000 : Nat) : Int) from rfl, tdiv_nat, wrap_i64 _ (by omega) (by omega)])) (za rfl (zn (zr (zm rfl (zp (Pure1.cast (v' := (.int .i64 ((k + 1 : Nat) : Int))) (.add rfl rfl) (by show Value.int _ _ = Value.int _ _; congr 1)) (za rfl (zn ?_))))))))))); clear h; intro a w h
      exact ⟨k + 1, ⟨(c + ((dg n).getD i 0 * (dg m).getD k 0 + Z.getD (i + k) 0)) / 10000, Z.set (i + k) ((c + ((dg n).getD i 0 * (dg m).getD k 0 + Z.getD (i + k) 0)) % 10000), ⟨by omega, by omega, (by intro hx; have hkl : k = (dg m).length := (by omega); rw [getD_ge (l := dg m) (by omega), hkl, hz (by omega)]; omega), (by intro hx; rw [getD_setw (by omega)]; exact hz (by omega)), by rw [List.length_set]; exact hl, hw.set _ _ (Nat.mod_lt _ (by decide)), dmul_step (by omega) hv⟩, by exact h.sub sA⟩, by omega⟩
    · skip
      have hnb : (dg m).length ≤ k := by have := of_decide_eq_false hc25; omega
      refine gL h (zm rfl (zq 26 rfl rfl (.move rfl) (zq 26 rfl rfl (.gtr rfl rfl) ?_))); clear h; intro a w h
      refine by_bool h (fun hc28 h => ?_) (fun hc28 h => ?_)
      · skip
        have hrun : k ≤ (dg m).length := by have := of_decide_eq_true hc28; omega
        refine gL h (zp (.pickF rfl rfl) (zn ?_)); clear h; intro a w h
        change Code.wp _ _ _ _ _
        refine cond_true h rfl ?_
        refine gC h (zk (zs (zb (zs (yD mixed_YtddhlkfpdjmplaaGreatDoor [0, 1, 2, 3, 4, 5, 6, 7, 8, 9, 10, 11, 15, 12, 13, 14, 16, 17] (floatsOK_none (by kernel_rfl)) (yp rfl (.move rfl) (yp rfl (.move rfl) (yp rfl (.move rfl) (yp rfl (Pure1.cast (v' := (.int .i64 ((i + k : Nat) : Int))) (.add rfl rfl) (by show Value.int _ _ = Value.int _ _; congr 1)) (yp rfl (.indexAddr rfl rfl (ix_52 _ _ _ _ _ (by omega))) (yd rfl rfl mm Tryz.isAgg3 Tryz.sizeOf3 ((congrArg _ (Nat.zero_add _)).trans (read_row (enc := encn) (l := Z) 0 (by omega))) ?_))))))))))); clear h
        refine yp rfl (.move rfl) (yp rfl (.move rfl) (yp rfl (.indexAddr rfl rfl (ix_52 _ _ _ _ _ (by omega))) ?_))
        refine head_loadRow rfl (by kernel_rfl) rfl mm (by rw [List.length_map]; omega) Tryz.isAgg3 Tryz.sizeOf3 (read_row (enc := encn) (l := (dg n)) 0 (by omega)) (.inr rfl) (by decide) ?_
        refine yp rfl (.move rfl) (yp rfl (.move rfl) (yp rfl (.move rfl) (yw [_, _] rfl rfl Tryz.call179 (C_rat _ _ (dg m) (k)) (yp rfl (Pure1.cast (v' := (.int .i64 ((((dg n).getD i 0) * ((dg m).getD k 0) : Nat) : Int))) (.mul rfl rfl) (by show Value.int _ _ = Value.int _ _; congr 1)) (yp rfl (Pure1.cast (v' := (.int .i64 (((Z.getD (i + k) 0) + (((dg n).getD i 0) * ((dg m).getD k 0)) : Nat) : Int))) (.add rfl rfl) (by show Value.int _ _ = Value.int _ _; congr 1)) (yp rfl (Pure1.cast (v' := .int .i64 ((c + ((dg n).getD i 0 * (dg m).getD k 0 + Z.getD (i + k) 0) : Nat) : Int)) (Pure1.cast (v' := (.int .i64 ((((Z.getD (i + k) 0) + (((dg n).getD i 0) * ((dg m).getD k 0))) + c : Nat) : Int))) (.add rfl rfl) (by show Value.int _ _ = Value.int _ _; congr 1)) (by show Value.int _ _ = Value.int _ _; congr 1; omega)) (yp rfl (.assign rfl) (yn (zs (zr (zm rfl (zm rfl (zm rfl (zp (Pure1.cast (v' := (.int .i64 ((i + k : Nat) : Int))) (.add rfl rfl) (by show Value.int _ _ = Value.int _ _; congr 1)) (zm rfl (zp (Pure1.cast (v' := .int .i64 (((c + ((dg n).getD i 0 * (dg m).getD k 0 + Z.getD (i + k) 0)) % 10000 : Nat) : Int)) (.binOp rfl rfl (fun _ => run_rem _ _ _ _ _ (by decide))) (by rw [show (10000 : Int) = ((10000 : Nat) : Int) from rfl, tmod_nat])) (zp (.indexAddr rfl rfl (ix_52 _ _ _ _ _ (by omega))) (zt' rfl rfl ((congrArg (fun z => setFrom _ z _) (Nat.zero_add _)).trans (set_row (enc := encn) Z (i + k) ((c + ((dg n).getD i 0 * (dg m).getD k 0 + Z.getD (i + k) 0)) % 10000))) uu Tryz.sizeOf3 rfl (by simp; omega) rfl ?_)))))))))))))))))); intro a w h
        refine gL h (zn (zr (zm rfl (zp (Pure1.cast (v' := .int .i64 (((c + ((dg n).getD i 0 * (dg m).getD k 0 + Z.getD (i + k) 0)) / 10000 : Nat) : Int)) (.binOp rfl rfl (fun _ => run_quo _ _ _ _ _ (by decide))) (by rw [show (10000 : Int) = ((10000 : Nat) : Int) from rfl, tdiv_nat, wrap_i64 _ (by omega) (by omega)])) (za rfl (zn (zr (zm rfl (zp (Pure1.cast (v' := (.int .i64 ((k + 1 : Nat) : Int))) (.add rfl rfl) (by show Value.int _ _ = Value.int _ _; congr 1)) (za rfl (zn ?_))))))))))); clear h; intro a w h
        exact ⟨k + 1, ⟨(c + ((dg n).getD i 0 * (dg m).getD k 0 + Z.getD (i + k) 0)) / 10000, Z.set (i + k) ((c + ((dg n).getD i 0 * (dg m).getD k 0 + Z.getD (i + k) 0)) % 10000), ⟨by omega, by omega, (by intro hx; have hkl : k = (dg m).length := (by omega); rw [getD_ge (l := dg m) (by omega), hkl, hz (by omega)]; omega), (by intro hx; rw [getD_setw (by omega)]; exact hz (by omega)), by rw [List.length_set]; exact hl, hw.set _ _ (Nat.mod_lt _ (by decide)), dmul_step (by omega) hv⟩, by exact h.sub sA⟩, by omega⟩
      · skip
        have hk0 : c = 0 := by have := of_decide_eq_false hc28; omega
        refine gL h (zp (.pickF rfl rfl) (zn ?_)); clear h; intro a w h
        change Code.wp _ _ _ _ _
        refine cond_false h rfl ?_
        refine gC h (ze (zr (zm rfl (zp (Pure1.cast (v' := (.int .i64 ((i + 1 : Nat) : Int))) (.add rfl rfl) (by show Value.int _ _ = Value.int _ _; congr 1)) (za rfl (zn ?_)))))); clear h; intro a w h
        exact ⟨i + 1, ⟨by omega, Z, ⟨hl, hw, by rw [hk0, drop_zero hnb] at hv; rw [valD_take_succ' _ _ hlt_i, Nat.add_mul, Nat.mul_assoc, ← hv]; simp⟩, by exact (h.factsSub (by simp)).sub sA⟩, by omega⟩
  · skip
    have heq_i : (dg n).length = i := by have := of_decide_eq_false hc19; omega
    subst heq_i
    refine gC h (ze (zs (zr (zm rfl ?_)))); clear h; intro a w h
    rw [← hl] at h
    replace h := h.shareAll hS (List.map encn Z) rfl
    have hZ : valD Z = n * m := by rw [List.take_length, valD_dg] at hv; exact hv
    refine gL h (zf [_] rfl Tryz.call180 (C_trim (some ⟨b15, 0, none⟩) Z.length Z hw (Nat.le_refl _) (by omega)) ?_); clear h; rintro v59 Ψ59 ht a w h
    refine gL h (za rfl (zn (zt ?_))); clear h; intro a w h
    exact ret_of h (results1 h rfl (.tmp rfl)) (trimmed ht hZ hw (Nat.le_refl _)) (fun R hR => List.mem_append_left _ hR)
theorem C_rCmp (ad1 ad2 : Option Addr) (c1 c2 : Nat) (n m : Nat) (h1 : (dg n).length ≤ 1000000000000) (h2 : (dg m).length ≤ 1000000000000) :
    CtrW Tryz.prog 178 [.slice ad1 (dg n).length c1, .slice ad2 (dg m).length c2] [Row ad1 (List.map encn (dg n)), Row ad2 (List.map encn (dg m))] (.int .i64 (cmpI n m)) := by
  refine fn_intro Tryz.func178 rfl Tryz.ntmps178 nb ?_
  intro S w0 a hS h
  refine gC h (zs (zr (za rfl (zn (zs (zs (zr (zm rfl (zp (.builtin [_] rfl (len_slice_52 _ _ _)) (zm rfl (zp (.builtin [_] rfl (len_slice_52 _ _ _)) (zp (.lss rfl rfl) (zn ?_))))))))))))); clear h; intro a w h
  change Code.wp _ _ _ _ _
  refine cond_split h rfl (fun hc10 => ?_) (fun hc10 => ?_)
  · skip
    have hl1 : (dg n).length < (dg m).length := by have := of_decide_eq_true hc10; omega
    refine gC h (zs (zr (za rfl (zn (zt ?_))))); clear h; intro a w h
    refine retV h (results1 h rfl (.tmp rfl)) ?_
    unfold cmpI; rw [if_pos (dg_len_lt hl1)]
  · skip
    have hl1 : (dg m).length ≤ (dg n).length := by have := of_decide_eq_false hc10; omega
    refine gC h (zk (zs (zs (zr (zm rfl (zp (.builtin [_] rfl (len_slice_52 _ _ _)) (zm rfl (zp (.builtin [_] rfl (len_slice_52 _ _ _)) (zp (.gtr rfl rfl) (zn ?_)))))))))); clear h; intro a w h
    change Code.wp _ _ _ _ _
    refine cond_split h rfl (fun hc15 => ?_) (fun hc15 => ?_)
    · skip
      have hl2 : (dg m).length < (dg n).length := by have := of_decide_eq_true hc15; omega
      refine gC h (zs (zr (za rfl (zn (zt ?_))))); clear h; intro a w h
      refine retV h (results1 h rfl (.tmp rfl)) ?_
      have h3 := dg_len_lt hl2; unfold cmpI; rw [if_neg (by omega), if_pos h3]
    · skip
      have hl : (dg n).length = (dg m).length := by have := of_decide_eq_false hc15; omega
      refine gC h (zk (zs (zs (zr (zm rfl (zp (.builtin [_] rfl (len_slice_52 _ _ _)) (zp (.sub rfl rfl) (za rfl (zn (zb ?_)))))))))); clear h; intro a w h
      refine wp_loop_inv (fun (k : Nat) a w => (k ≤ (dg n).length ∧ (dg n).drop k = (dg m).drop k) ∧ St 41 S w0 [(0, .slice ad1 ((dg n).length) c1), (1, .slice ad2 ((dg m).length) c2), (5, .int .i64 (((k : Nat) : Int) - 1)), (18, .int .i64 (((((dg n).length : Nat) : Int)) - 1))] [] [Row ad1 (List.map encn (dg n)), Row ad2 (List.map encn (dg m))] a w) (fun k => k) ((dg n).length) (⟨⟨Nat.le_refl _, by rw [List.drop_eq_nil_of_le (Nat.le_refl _), List.drop_eq_nil_of_le (Nat.le_of_eq hl.symm)]⟩, by exact h.sub (subL ⟨rfl, rfl, rfl, rfl, trivial⟩)⟩) ?_; clear h
      rintro k a w ⟨⟨hN, hd⟩, h⟩
      refine gC h (zs (zs (zr (zm rfl (zp (.geq rfl rfl) (zn ?_)))))); clear h; intro a w h
      change Code.wp _ _ _ _ _
      refine cond_split h rfl (fun hc20 => ?_) (fun hc20 => ?_)
      · skip
        have hk : 1 ≤ k := by have := of_decide_eq_true hc20; omega
        obtain ⟨B_ad1, O_ad1, rfl⟩ := h.row_addr (ad := ad1) (M := List.map encn (dg n)) mm (by intro e; have := congrArg List.length e; simp only [List.length_map, List.length_nil] at this; omega)
        obtain ⟨B_ad2, O_ad2, rfl⟩ := h.row_addr (ad := ad2) (M := List.map encn (dg m)) mm (by intro e; have := congrArg List.length e; simp only [List.length_map, List.length_nil] at this; omega)
        refine gC h (zk (zs (zb (zs (zs (yD mixed_YtddhlkfpdjmplaaGreatDoor [0, 1, 2, 3, 4, 5, 6, 7, 8] (floatsOK_none (by kernel_rfl)) (yp rfl (.move rfl) (yp rfl (Pure1.cast (v' := .int .i64 ((k - 1 : Nat) : Int)) (.move rfl) (by show Value.int _ _ = Value.int _ _; congr 1; omega)) (yp rfl (.indexAddr rfl rfl (ix_52 _ _ _ _ _ (by omega))) ?_))))))))); clear h
        refine head_loadRow rfl (by kernel_rfl) rfl mm (by rw [List.length_map]; omega) Tryz.isAgg3 Tryz.sizeOf3 (read_row (enc := encn) (l := (dg n)) 0 (by omega)) (.inr rfl) (by decide) ?_
        refine yp rfl (.move rfl) (yp rfl (Pure1.cast (v' := .int .i64 ((k - 1 : Nat) : Int)) (.move rfl) (by show Value.int _ _ = Value.int _ _; congr 1; omega)) (yp rfl (.indexAddr rfl rfl (ix_52 _ _ _ _ _ (by omega))) ?_))
        refine head_loadRow rfl (by kernel_rfl) rfl mm (by rw [List.length_map]; omega) Tryz.isAgg3 Tryz.sizeOf3 (read_row (enc := encn) (l := (dg m)) 0 (by omega)) (.inr rfl) (by decide) ?_
        refine yp rfl (.lss rfl rfl) (yn ?_); intro a w h
        change Code.wp _ _ _ _ _
        refine cond_split h rfl (fun hc31 => ?_) (fun hc31 => ?_)
        · skip
          have hlt : (dg n).getD (k - 1) 0 < (dg m).getD (k - 1) 0 := by have := of_decide_eq_true hc31; omega
          refine gC h (zs (zr (za rfl (zn (zt ?_))))); clear h; intro a w h
          refine retV h (results1 h rfl (.tmp rfl)) ?_
          have h3 := valD_cmp (Dd.dg n) (Dd.dg m) hlt (by rw [Nat.sub_add_cancel hk]; exact hd)
          rw [valD_dg, valD_dg] at h3
          unfold cmpI; rw [if_pos h3]
        · skip
          have hge : (dg m).getD (k - 1) 0 ≤ (dg n).getD (k - 1) 0 := by have := of_decide_eq_false hc31; omega
          refine gC h (zk (zs (yD mixed_YtddhlkfpdjmplaaGreatDoor [0, 1, 2, 3, 4, 5, 6, 7, 8] (floatsOK_none (by kernel_rfl)) (yp rfl (.move rfl) (yp rfl (Pure1.cast (v' := .int .i64 ((k - 1 : Nat) : Int)) (.move rfl) (by show Value.int _ _ = Value.int _ _; congr 1; omega)) (yp rfl (.indexAddr rfl rfl (ix_52 _ _ _ _ _ (by omega))) ?_)))))); clear h
          refine head_loadRow rfl (by kernel_rfl) rfl mm (by rw [List.length_map]; omega) Tryz.isAgg3 Tryz.sizeOf3 (read_row (enc := encn) (l := (dg n)) 0 (by omega)) (.inr rfl) (by decide) ?_
          refine yp rfl (.move rfl) (yp rfl (Pure1.cast (v' := .int .i64 ((k - 1 : Nat) : Int)) (.move rfl) (by show Value.int _ _ = Value.int _ _; congr 1; omega)) (yp rfl (.indexAddr rfl rfl (ix_52 _ _ _ _ _ (by omega))) ?_))
          refine head_loadRow rfl (by kernel_rfl) rfl mm (by rw [List.length_map]; omega) Tryz.isAgg3 Tryz.sizeOf3 (read_row (enc := encn) (l := (dg m)) 0 (by omega)) (.inr rfl) (by decide) ?_
          refine yp rfl (.gtr rfl rfl) (yn ?_); intro a w h
          change Code.wp _ _ _ _ _
          refine cond_split h rfl (fun hc40 => ?_) (fun hc40 => ?_)
          · skip
            have hlt : (dg m).getD (k - 1) 0 < (dg n).getD (k - 1) 0 := by have := of_decide_eq_true hc40; omega
            refine gC h (zs (zr (za rfl (zn (zt ?_))))); clear h; intro a w h
            refine retV h (results1 h rfl (.tmp rfl)) ?_
            have h3 := valD_cmp (Dd.dg m) (Dd.dg n) hlt (by rw [Nat.sub_add_cancel hk]; exact hd.symm)
            rw [valD_dg, valD_dg] at h3
            unfold cmpI; rw [if_neg (by omega), if_pos h3]
          · skip
            have he : (dg n).getD (k - 1) 0 = (dg m).getD (k - 1) 0 := by have := of_decide_eq_false hc40; omega
            refine gC h (zk (zr (zm rfl (zp (Pure1.cast (v' := .int .i64 (((k - 1 : Nat) : Int) - 1)) (.sub rfl rfl) (by show Value.int _ _ = Value.int _ _; congr 1; omega)) (za rfl (zn ?_)))))); clear h; intro a w h
            exact ⟨k - 1, ⟨⟨by omega, drop_step hl (by omega) he (by rw [Nat.sub_add_cancel hk]; exact hd)⟩, by exact (h.factsSub (by simp)).sub sA⟩, by omega⟩
      · skip
        have hk : k = 0 := by have := of_decide_eq_false hc20; omega
        refine gC h (ze (zs (zr (za rfl (zn (zt ?_)))))); clear h; intro a w h
        refine retV h (results1 h rfl (.tmp rfl)) ?_
        subst hk
        have e : n = m := by rw [← valD_dg n, ← valD_dg m]; simp at hd; rw [hd]
        unfold cmpI; rw [if_neg (by omega), if_neg (by omega)]
theorem vdrop_lt (n f j : Nat) (hlen : (dg n).length ≤ f + 4) (hj : f ≤ j) : valD ((dg n).drop j) < 10000000000000000 := by
  have h1 := valD_lt ((Dd.dg n).drop j)
  rw [List.length_drop] at h1
  have h2 : 10000 ^ ((dg n).length - j) ≤ 10000 ^ 4 := Nat.pow_le_pow_right (by decide) (by omega)
  exact Nat.lt_of_lt_of_le h1 h2
theorem C_rLead (ad1 : Option Addr) (c1 : Nat) (n f : Nat) (h1 : (dg n).length ≤ 1000000000000) (hlen : (dg n).length ≤ f + 4) (hf : f ≤ 1000000000000) :
    CtrW Tryz.prog 206 [.slice ad1 (dg n).length c1, .int .i64 ((f : Nat) : Int)] [Row ad1 (List.map encn (dg n))] (.int .i64 ((valD ((dg n).drop f) : Nat) : Int)) := by
  refine fn_intro Tryz.func206 rfl Tryz.ntmps206 nb ?_
  intro S w0 a hS h
  refine gC h (zs (zr (za rfl (zn (zs (zr (za rfl (zn (zs (zs (zr (zm rfl (zp (.builtin [_] rfl (len_slice_52 _ _ _)) (zp (.sub rfl rfl) (za rfl (zn (zb ?_))))))))))))))))); clear h; intro a w h
  have hz : valD ((dg n).drop (dg n).length) = 0 := drop_zero (Nat.le_refl _)
  replace h := h.sub (L' := [(0, .slice ad1 (dg n).length c1), (1, .int .i64 ((f : Nat) : Int)), (5, .int .i64 ((valD ((dg n).drop (dg n).length) : Nat) : Int)), (6, .int .i64 (((dg n).length : Nat) - 1 : Int))]) (subL ⟨rfl, rfl, by rw [hz]; rfl, rfl, trivial⟩)
  refine wp_loop_inv (fun (k : Nat) a w => (k ≤ (dg n).length ∧ (f ≤ k ∨ k = (dg n).length)) ∧ St 23 S w0 [(0, .slice ad1 ((dg n).length) c1), (1, .int .i64 ((f : Nat) : Int)), (5, .int .i64 ((valD ((dg n).drop k) : Nat) : Int)), (6, .int .i64 (((k : Nat) : Int) - 1))] [] [Row ad1 (List.map encn (dg n))] a w) (fun k => k) ((dg n).length) (⟨⟨Nat.le_refl _, .inr rfl⟩, by exact h.sub (subL ⟨rfl, rfl, rfl, rfl, trivial⟩)⟩) ?_; clear h
  rintro k a w ⟨⟨hN, hd⟩, h⟩
  refine gC h (zs (zs (zr (zm rfl (zm rfl (zp (.geq rfl rfl) (zn ?_))))))); clear h; intro a w h
  change Code.wp _ _ _ _ _
  refine cond_split h rfl (fun hc12 => ?_) (fun hc12 => ?_)
  · skip
    have hk : f + 1 ≤ k := by have := of_decide_eq_true hc12; omega
    obtain ⟨B_ad1, O_ad1, rfl⟩ := h.row_addr (ad := ad1) (M := List.map encn (dg n)) mm (by intro e; have := congrArg List.length e; simp only [List.length_map, List.length_nil] at this; omega)
    have e1 := dlt n (k - 1)
    have e2 := vdrop_lt n f (k - 1) hlen (by omega)
    have e3 : valD ((dg n).drop (k - 1)) = (dg n).getD (k - 1) 0 + 10000 * valD ((dg n).drop k) := by rw [valD_drop, Nat.sub_add_cancel (by omega)]
    refine gC h (zk (zs (zb (zr (zm rfl (zp (Pure1.cast (v' := (.int .i64 ((10000 * (valD ((dg n).drop k)) : Nat) : Int))) (.mul rfl rfl) (by show Value.int _ _ = Value.int _ _; congr 1)) (zm rfl (zp (Pure1.cast (v' := .int .i64 ((k - 1 : Nat) : Int)) (.move rfl) (by show Value.int _ _ = Value.int _ _; congr 1; omega)) (zp (.indexAddr rfl rfl (ix_52 _ _ _ _ _ (by omega))) (zD rfl mm (by rw [List.length_map]; omega) Tryz.isAgg3 Tryz.sizeOf3 (read_row (enc := encn) (l := (dg n)) 0 (by omega)) (.inr rfl) ?_)))))))))); clear h; intro a w h
    refine gL h (zp (Pure1.cast (v' := .int .i64 ((valD ((dg n).drop (k - 1)) : Nat) : Int)) (Pure1.cast (v' := (.int .i64 (((10000 * (valD ((dg n).drop k))) + ((dg n).getD (k - 1) 0) : Nat) : Int))) (.add rfl rfl) (by show Value.int _ _ = Value.int _ _; congr 1)) (by show Value.int _ _ = Value.int _ _; congr 1; omega)) (za rfl (zn (zr (zm rfl (zp (Pure1.cast (v' := .int .i64 (((k - 1 : Nat) : Int) - 1)) (.sub rfl rfl) (by show Value.int _ _ = Value.int _ _; congr 1; omega)) (za rfl (zn ?_)))))))); clear h; intro a w h
    exact ⟨k - 1, ⟨⟨by omega, .inl (by omega)⟩, by exact (h.factsSub (by simp)).sub sA⟩, by omega⟩
  · skip
    have hk : k ≤ f := by have := of_decide_eq_false hc12; omega
    refine gC h (ze (zs (zr (zm rfl (za rfl (zn (zt ?_))))))); clear h; intro a w h
    refine retV h (results1 h rfl (.tmp rfl)) ?_
    have e : valD ((dg n).drop f) = valD ((dg n).drop k) := by
      rcases hd with hd | hd
      · rw [show k = f by omega]
      · rw [drop_zero (by omega), drop_zero (by omega)]
    rw [e]
end
section
theorem bs_52_0_ (w : World) : (Instr.buildSlice 52 0 [].toArray).run Tryz.prog w = .ok (.slice (some ⟨w.heap.size, 0, none⟩) 0 0) (w.alloc (.cells #[] 3 (0, 0))) := by
  simp [go_sem]
theorem slo_52 (b off n c lo : Nat) (h1 : lo ≤ n) (w : World) : (Instr.sliceAt 52 (.slice (some ⟨b, off, none⟩) n c) (some (.int .i64 (lo : Int))) none none).run Tryz.prog w = .ok (.slice (some ⟨b, if c = lo then off else off + lo * 1, none⟩) (n - lo) (c - lo)) w := sliceAt_low Tryz.runUnderlying52 Tryz.sizeOf3 b off n c lo h1 w
theorem cv_3_36 (x : Int) (w : World) : (Go.convert 3 36 (.int .i64 x)).run Tryz.prog w = .ok (.int .u64 (IntKind.u64.wrap x)) w := by
  simp [go_sem]
theorem cv_3_36b (x : Int) (h0 : IntKind.u64.wrap x = x) (w : World) : (Go.convert 3 36 (.int .i64 x)).run Tryz.prog w = .ok (.int .u64 x) w := by
  rw [cv_3_36, h0]
theorem dg5 (n : Nat) (h : n < 18446744073709551616) : (dg n).length ≤ 5 := dg_len_le (Nat.lt_trans h (by decide))
theorem flat_map : ∀ l : List Nat, (List.map encn l).all flat = true
  | [] => rfl
  | x :: l => by rw [List.map_cons, List.all_cons, flat_map l]; rfl
theorem cmpI_le {x y : Nat} : cmpI x y ≤ 0 ↔ x ≤ y := by
  unfold cmpI
  split
  · omega
  · split <;> omega
def PostN2 (p q : Nat) (v : Value) (Ψ : List SPred) : Prop := ∃ ad c ad' c', v = .tuple #[.slice ad (dg p).length c, .slice ad' (dg q).length c'] ∧ (dg p).length ≤ c ∧ (dg q).length ≤ c' ∧ Ψ = [Row ad (List.map encn (dg p)), Row ad' (List.map encn (dg q))]
theorem C_rDiv (ad1 ad2 : Option Addr) (c1 c2 : Nat) (n m : Nat) (h1 : (dg n).length ≤ 300000000000) (h2 : (dg m).length ≤ 300000000000) (hm : m ≠ 0) (hc1 : (dg n).length ≤ c1) :
    Ctr Tryz.prog 176 [.slice ad1 (dg n).length c1, .slice ad2 (dg m).length c2] [Row ad1 (List.map encn (dg n)), Row ad2 (List.map encn (dg m))] (PostN2 (n / m) (n % m)) := by
  have hlb : 0 < (dg m).length := List.length_pos_iff.2 (fun e => hm (dg_nil.1 e))
  have hm0 : 0 < m := Nat.pos_of_ne_zero hm
  refine fn_intro Tryz.func176 rfl Tryz.ntmps176 nb ?_
  intro S w0 a hS h
  refine gC h (zs (zr (za rfl (za rfl (zn (zs (zs (zr (zm rfl (zm rfl (zw [_, _] rfl Tryz.call178 (C_rCmp _ _ _ _ n m (by omega) (by omega)) (zp (.lss rfl rfl) (zn ?_))))))))))))); clear h; intro a w h
  change Code.wp _ _ _ _ _
  refine cond_split h rfl (fun hc18 => ?_) (fun hc18 => ?_)
  · skip
    have hlt : n < m := by
      have h3 := of_decide_eq_true hc18
      unfold cmpI at h3; split at h3
      · assumption
      · split at h3 <;> omega
    refine gC h (zs (zr (zm rfl (za rfl (za rfl (zn (zt ?_))))))); clear h; intro a w h
    have e1 : n / m = 0 := Nat.div_eq_of_lt hlt
    have e2 : n % m = n := Nat.mod_eq_of_lt hlt
    have e3 : PostN2 (n / m) (n % m) (.tuple #[.slice none 0 0, .slice ad1 (dg n).length c1]) [Row none [], Row ad1 (List.map encn (dg n))] := by rw [e1, e2]; exact ⟨none, 0, ad1, c1, by rw [dg_zero]; rfl, by rw [dg_zero]; exact Nat.le_refl _, hc1, by rw [dg_zero]; rfl⟩
    replace h := h.derive (R := Row none []) (fun X hX hne => absurd rfl hne)
    exact ret_of h (results2 h rfl (.tmp rfl) (.tmp rfl)) e3 (by simp)
  · skip
    have hle : m ≤ n := by
      have h3 := of_decide_eq_false hc18
      unfold cmpI at h3; split at h3
      · omega
      · omega
    have hll := dg_len_mono hle
    obtain ⟨B_ad1, O_ad1, rfl⟩ := h.row_addr (ad := ad1) (M := List.map encn (dg n)) mm (by intro e; have := congrArg List.length e; simp only [List.length_map, List.length_nil] at this; omega)
    refine gC h (zk (zs (zr (zm rfl (zp (.builtin [_] rfl (len_slice_52 _ _ _)) (zp (.sub rfl rfl) (zp (Pure1.cast (v' := .int .i64 ((((dg m).length - 3) : Nat) : Int)) (.builtin [_, _] rfl (fun w ty cs => bi_max _ _ w ty cs)) (by show Value.int _ _ = Value.int _ _; congr 1; omega)) (za rfl (zn (zs (zr (zm rfl (zm rfl (zw [_, _] rfl Tryz.call206 (C_rLead _ _ m ((dg m).length - 3) (by omega) (by omega) (by omega)) (za rfl (zn (zs (zr (zm rfl (zp (.builtin [_] rfl (len_slice_52 _ _ _)) (zm rfl (zp (.builtin [_] rfl (len_slice_52 _ _ _)) (zp (Pure1.cast (v' := .int .i64 (((((dg n).length - (dg m).length) + 1 : Nat) : Int) - 1)) (.sub rfl rfl) (by show Value.int _ _ = Value.int _ _; congr 1; omega)) (za rfl (zn (zs (zr (zm rfl (zp (Pure1.cast (v' := .int .i64 ((((dg n).length - (dg m).length) + 1 : Nat) : Int)) (.add rfl rfl) (by show Value.int _ _ = Value.int _ _; congr 1; omega)) ?_))))))))))))))))))))))))))))); clear h; intro a w h
    refine wpl_plain (op_makeSlice h rfl rfl Tryz.runUnderlying52 Tryz.typeInfo3 Tryz.sizeOf3 Tryz.zeroValue3 rfl (by decide) (by exact Nat.le_refl _) (by show 8 * (((dg n).length - (dg m).length) + 1) ≤ 281474976710656; omega) (by omega) (by decide) ?_); clear h; intro b34 a w h; replace h := h.same rfl (by rw [← map_reps]) rfl
    refine gL h (za rfl (zn (zs (zr (zB [] rfl (bs_52_0_) fun b35 => zm rfl (zm rfl (zp (Pure1.cast (v' := .int .i64 ((((dg n).length - (dg m).length) + 1 : Nat) : Int)) (.add rfl rfl) (by show Value.int _ _ = Value.int _ _; congr 1; omega)) (zp (.slice rfl (some _) none none rfl rfl rfl (slo_52 _ _ _ _ _ (by omega))) ?_)))))))); clear h; intro a w h
    replace h := h.derive (R := Row (some ⟨B_ad1, if c1 = ((dg n).length - (dg m).length) + 1 then O_ad1 else O_ad1 + (((dg n).length - (dg m).length) + 1) * 1, none⟩) ((List.map encn (dg n)).drop (((dg n).length - (dg m).length) + 1))) (fun X hX => row_drop (hX _ mm) (by rw [List.length_map]; exact hc1))
    rw [← List.map_drop, dg_drop n (((dg n).length - (dg m).length) + 1)] at h
    have hlr : (dg (n / 10000 ^ (((dg n).length - (dg m).length) + 1))).length = (dg n).length - (((dg n).length - (dg m).length) + 1) := by rw [← dg_drop, List.length_drop]
    rw [← hlr] at h
    refine wpl_plain (op_appendRow (b := b35) (xs := []) (ys := List.map encn (dg (n / 10000 ^ (((dg n).length - (dg m).length) + 1)))) (ad2 := some ⟨B_ad1, if c1 = ((dg n).length - (dg m).length) + 1 then O_ad1 else O_ad1 + (((dg n).length - (dg m).length) + 1) * 1, none⟩) (k := 1) h rfl rfl mm rfl Tryz.runUnderlying52 Tryz.runUnderlying52 Tryz.typeInfo3 Tryz.sizeOf3 Tryz.zeroValue3 rfl (by decide) (by decide) (by rw [List.length_map, Nat.mul_one]) (flat_map _) (by show 8 * (2 * _ + 192) ≤ 281474976710656; omega) (by decide) ?_); clear h; intro v40 o40 a w hG40 h
    obtain ⟨ad40, c40, rfl⟩ := hG40.is
    have hle40 := hG40.le
    replace h := h.shareO' hS hG40
    replace h := h.same (Φ' := Row ad40 (List.map encn (dg (n / 10000 ^ (((dg n).length - (dg m).length) + 1)))) :: _) rfl rfl rfl
    have hr0 : n / 10000 ^ (((dg n).length - (dg m).length) + 1) < m := dg_len_lt (by omega)
    have hr1 : n / 10000 ^ (((dg n).length - (dg m).length) + 1) % m = n / 10000 ^ (((dg n).length - (dg m).length) + 1) := Nat.mod_eq_of_lt hr0
    rw [Nat.zero_add (dg (n / 10000 ^ (((dg n).length - (dg m).length) + 1))).length, ← hr1] at h
    rw [Nat.zero_add (dg (n / 10000 ^ (((dg n).length - (dg m).length) + 1))).length, ← hr1] at hle40
    refine gL h (za rfl (zn (zs (zb ?_)))); clear h; intro a w h
    refine wp_loop_inv (fun (k : Nat) a w => ∃ Z ad c, (k ≤ ((dg n).length - (dg m).length) + 1 ∧ Z.length = ((dg n).length - (dg m).length) + 1 ∧ Dd Z ∧ valD (Z.drop k) = n / 10000 ^ k / m ∧ (dg (n / 10000 ^ k % m)).length ≤ c) ∧ St 97 S w0 [(0, .slice (some ⟨B_ad1, O_ad1, none⟩) ((dg n).length) c1), (1, .slice ad2 ((dg m).length) c2), (6, .int .i64 ((((dg m).length - 3) : Nat) : Int)), (7, .int .i64 ((valD ((dg m).drop ((dg m).length - 3)) : Nat) : Int)), (8, .int .i64 (((k : Nat) : Int) - 1)), (9, .slice (some ⟨b34, 0, none⟩) (((dg n).length - (dg m).length) + 1) (((dg n).length - (dg m).length) + 1)), (10, .slice ad ((dg (n / 10000 ^ k % m)).length) c)] [(b34, .cells (List.map encn (Z)).toArray 3 (0, 0))] [Row (some ⟨B_ad1, O_ad1, none⟩) (List.map encn (dg n)), Row ad2 (List.map encn (dg m)), Row ad (List.map encn (dg (n / 10000 ^ k % m)))] a w) (fun k => k) ((((dg n).length - (dg m).length) + 1)) (⟨List.replicate _ 0, ad40, c40, ⟨Nat.le_refl _, List.length_replicate, Dd.zeros _, by rw [List.drop_eq_nil_of_le (by rw [List.length_replicate]; exact Nat.le_refl _), Nat.div_eq_of_lt hr0]; rfl, hle40⟩, by exact (h.factsSub (by simp)).sub (subL ⟨rfl, rfl, rfl, rfl, rfl, rfl, rfl, trivial⟩)⟩) ?_; clear h
    rintro k a w ⟨Z, ad, c, ⟨hK, hZl, hZw, hZv, hlc⟩, h⟩
    have hrl := dg_len_mono (Nat.le_of_lt (Nat.mod_lt (n / 10000 ^ k) hm0))
    refine gC h (zs (zs (zr (zm rfl (zp (.geq rfl rfl) (zn ?_)))))); clear h; intro a w h
    change Code.wp _ _ _ _ _
    refine cond_split h rfl (fun hc42 => ?_) (fun hc42 => ?_)
    · skip
      have hk : 1 ≤ k := by have := of_decide_eq_true hc42; omega
      refine gC h (zk (zs (zb (zs (zr (zm rfl (zp (Pure1.cast (v' := .int .i64 ((k - 1 : Nat) : Int)) (.move rfl) (by show Value.int _ _ = Value.int _ _; congr 1; omega)) (zp (.indexAddr rfl rfl (ix_52 _ _ _ _ _ (by omega))) (zD rfl mm (by rw [List.length_map]; omega) Tryz.isAgg3 Tryz.sizeOf3 (read_row (enc := encn) (l := (dg n)) 0 (by omega)) (.inr rfl) ?_))))))))); clear h; intro a w h
      refine gL h (zB [(_, _)] rfl (bs_52_1_0 _) fun b49 => zm rfl ?_); clear h; intro a w h
      refine wpl_plain (op_appendRow (b := b49) (xs := [encn ((dg n).getD (k - 1) 0)]) (ys := List.map encn (dg (n / 10000 ^ k % m))) (ad2 := ad) (k := 1) h rfl rfl mm rfl Tryz.runUnderlying52 Tryz.runUnderlying52 Tryz.typeInfo3 Tryz.sizeOf3 Tryz.zeroValue3 rfl (by decide) (by decide) (by rw [List.length_map, Nat.mul_one]) (flat_map _) (by show 8 * (2 * _ + 192) ≤ 281474976710656; omega) (by decide) ?_); clear h; intro v51 o51 a w hG51 h
      obtain ⟨ad51, c51, rfl⟩ := hG51.is
      have hle51 := hG51.le
      replace h := h.shareO' hS hG51
      replace h := h.same (Φ' := Row ad51 (List.map encn ((dg n).getD (k - 1) 0 :: dg (n / 10000 ^ k % m))) :: _) rfl rfl rfl
      rw [show 1 + (dg (n / 10000 ^ k % m)).length = ((dg n).getD (k - 1) 0 :: dg (n / 10000 ^ k % m)).length from Nat.add_comm _ _] at h hle51
      have hwd : Dd ((dg n).getD (k - 1) 0 :: dg (n / 10000 ^ k % m)) := by
        intro x hx
        rcases List.mem_cons.1 hx with rfl | hx
        · exact dlt _ _
        · exact Dd.dg _ x hx
      refine gL h (zf [_] rfl Tryz.call180 (C_trim ad51 c51 ((dg n).getD (k - 1) 0 :: dg (n / 10000 ^ k % m)) hwd hle51 (by simp only [List.length_cons]; omega)) ?_); clear h; rintro v52 Ψ52 ⟨rfl, rfl⟩ a w h
      obtain ⟨R, hR⟩ : ∃ R, R = (dg n).getD (k - 1) 0 + 10000 * (n / 10000 ^ k % m) := ⟨_, rfl⟩
      rw [show valD ((dg n).getD (k - 1) 0 :: dg (n / 10000 ^ k % m)) = R from by rw [hR, valD, valD_dg]] at h
      have hkk : k - 1 + 1 = k := by omega
      have hR' : R = (dg n).getD (k - 1) 0 + 10000 * (n / 10000 ^ (k - 1 + 1) % m) := by rw [hkk]; exact hR
      have hRm : R < 10000 * m := rest_lt hR (dlt n _) (Nat.mod_lt _ hm0)
      have hRl := rest_len hRm
      refine gL h (za rfl (zn (zs (zr (zm rfl (zm rfl (zw [_, _] rfl Tryz.call206 (C_rLead _ _ R ((dg m).length - 3) (by omega) (by omega) (by omega)) ?_))))))); clear h; intro a w h
      have htop : 0 < valD ((dg m).drop ((dg m).length - 3)) := top_pos hm (by omega)
      have hFR := vdrop_lt R ((dg m).length - 3) ((dg m).length - 3) (by omega) (Nat.le_refl _)
      have hFT := vdrop_lt m ((dg m).length - 3) ((dg m).length - 3) (by omega) (Nat.le_refl _)
      have hq1 : valD ((dg R).drop ((dg m).length - 3)) / (valD ((dg m).drop ((dg m).length - 3)) + 1) ≤ valD ((dg R).drop ((dg m).length - 3)) := Nat.div_le_self _ _
      have hq2 : valD ((dg R).drop ((dg m).length - 3)) / valD ((dg m).drop ((dg m).length - 3)) ≤ valD ((dg R).drop ((dg m).length - 3)) := Nat.div_le_self _ _
      have hql : valD ((dg R).drop ((dg m).length - 3)) / (valD ((dg m).drop ((dg m).length - 3)) + 1) ≤ R / m := div_low hm0
      have hqh : R / m ≤ valD ((dg R).drop ((dg m).length - 3)) / valD ((dg m).drop ((dg m).length - 3)) := div_high htop
      have hq9 : R / m < 10000 := (Nat.div_lt_iff_lt_mul hm0).2 hRm
      have hn1 : (0 : Int) ≤ ((R / m : Nat) : Int) := Int.natCast_nonneg _
      have hn2 : (0 : Int) ≤ ((valD ((dg R).drop ((dg m).length - 3)) / (valD ((dg m).drop ((dg m).length - 3)) + 1) : Nat) : Int) := Int.natCast_nonneg _
      have hn3 : (0 : Int) ≤ ((valD ((dg R).drop ((dg m).length - 3)) / valD ((dg m).drop ((dg m).length - 3)) : Nat) : Int) := Int.natCast_nonneg _
      refine gL h (za rfl (zn (zs (yD mixed_YtddhlkfpdjmplaaGreatDoor [0, 1, 2, 3, 4, 5, 6, 7, 8, 9] (floatsOK_none (by kernel_rfl)) (yp rfl (.move rfl) (yp rfl (.move rfl) (yp rfl (Pure1.cast (v' := (.int .i64 (((valD ((dg m).drop ((dg m).length - 3))) + 1 : Nat) : Int))) (.add rfl rfl) (by show Value.int _ _ = Value.int _ _; congr 1)) (yp rfl (Pure1.cast (v' := .int .i64 ((valD ((dg R).drop ((dg m).length - 3)) / (valD ((dg m).drop ((dg m).length - 3)) + 1) : Nat) : Int)) (.binOp rfl rfl (fun _ => run_quo _ _ _ _ _ (by omega))) (by rw [tdiv_nat, wrap_i64 _ (by omega) (by omega)])) (yp rfl (.move rfl) (yp rfl (.move rfl) (yp rfl (Pure1.cast (v' := .int .i64 ((valD ((dg R).drop ((dg m).length - 3)) / valD ((dg m).drop ((dg m).length - 3)) : Nat) : Int)) (.binOp rfl rfl (fun _ => run_quo _ _ _ _ _ (by omega))) (by rw [tdiv_nat, wrap_i64 _ (by omega) (by omega)])) (yp rfl (Pure1.cast (v' := .int .i64 ((min (valD ((dg R).drop ((dg m).length - 3)) / valD ((dg m).drop ((dg m).length - 3))) 9999 : Nat) : Int)) (.builtin [_, _] rfl (fun w ty cs => bi_min _ _ w ty cs)) (by show Value.int _ _ = Value.int _ _; congr 1; omega)) (yp rfl (.assign rfl) (yp rfl (.assign rfl) (yn (zs (zb ?_))))))))))))))))); clear h; intro a w h
      refine wp_loop_inv (fun (g : Nat) a w => ∃ lo hi, (lo + g = hi ∧ lo ≤ R / m ∧ R / m ≤ hi ∧ hi ≤ 9999) ∧ St 97 S w0 [(0, .slice (some ⟨B_ad1, O_ad1, none⟩) ((dg n).length) c1), (1, .slice ad2 ((dg m).length) c2), (6, .int .i64 ((((dg m).length - 3) : Nat) : Int)), (7, .int .i64 ((valD ((dg m).drop ((dg m).length - 3)) : Nat) : Int)), (8, .int .i64 (((k : Nat) : Int) - 1)), (9, .slice (some ⟨b34, 0, none⟩) (((dg n).length - (dg m).length) + 1) (((dg n).length - (dg m).length) + 1)), (10, .slice ad51 ((dg R).length) c51), (12, .int .i64 ((lo : Nat) : Int)), (13, .int .i64 ((hi : Nat) : Int))] [(b34, .cells (List.map encn (Z)).toArray 3 (0, 0))] [Row ad51 (List.map encn (dg R)), Row ad51 (List.map encn ((dg n).getD (k - 1) 0 :: dg (n / 10000 ^ k % m))), Row (some ⟨B_ad1, O_ad1, none⟩) (List.map encn (dg n)), Row ad2 (List.map encn (dg m)), Row ad (List.map encn (dg (n / 10000 ^ k % m)))] a w) (fun g => g) ((min (valD ((dg R).drop ((dg m).length - 3)) / valD ((dg m).drop ((dg m).length - 3))) 9999 - valD ((dg R).drop ((dg m).length - 3)) / (valD ((dg m).drop ((dg m).length - 3)) + 1))) (⟨valD ((dg R).drop ((dg m).length - 3)) / (valD ((dg m).drop ((dg m).length - 3)) + 1), min (valD ((dg R).drop ((dg m).length - 3)) / valD ((dg m).drop ((dg m).length - 3))) 9999, ⟨by omega, hql, by omega, by omega⟩, by exact h.sub sA⟩) ?_; clear h
      rintro g a w ⟨lo, hi, ⟨hg, hlo, hhi, h9⟩, h⟩
      refine gC h (zs (zs (zr (zm rfl (zm rfl (zp (.lss rfl rfl) (zn ?_))))))); clear h; intro a w h
      change Code.wp _ _ _ _ _
      refine cond_split h rfl (fun hc66 => ?_) (fun hc66 => ?_)
      · skip
        have hrun : lo < hi := by have := of_decide_eq_true hc66; omega
        refine gC h (zk (zb (zs (zr (zm rfl (zm rfl (zp (Pure1.cast (v' := (.int .i64 ((lo + hi : Nat) : Int))) (.add rfl rfl) (by show Value.int _ _ = Value.int _ _; congr 1)) (zp (Pure1.cast (v' := (.int .i64 (((lo + hi) + 1 : Nat) : Int))) (.add rfl rfl) (by show Value.int _ _ = Value.int _ _; congr 1)) (zp (Pure1.cast (v' := .int .i64 (((lo + hi + 1) / 2 : Nat) : Int)) (.binOp rfl rfl (fun _ => run_quo _ _ _ _ _ (by decide))) (by rw [show (2 : Int) = ((2 : Nat) : Int) from rfl, tdiv_nat, wrap_i64 _ (by omega) (by omega)])) (za rfl (zn (zs (zr (zm rfl (zm rfl (zp (.convert rfl (cv_3_36b _ (wrap_u64 _ (by omega) (by omega)))) (zf [_] rfl Tryz.call181 (C_rOf ((lo + hi + 1) / 2) (by omega)) ?_))))))))))))))))); clear h; rintro v75 Ψ75 ⟨ad75, c75, rfl, hle75, rfl⟩ a w h
        have hl75 := dg5 ((lo + hi + 1) / 2) (by omega)
        refine gL h (zf [_, _] rfl Tryz.call131 (C_rMul _ _ _ _ m ((lo + hi + 1) / 2) (by omega) (by omega)) ?_); clear h; rintro v76 Ψ76 ⟨ad76, c76, rfl, hle76, rfl⟩ a w h
        have hl76 := dg_len_mul m ((lo + hi + 1) / 2)
        refine gL h (zm rfl (zw [_, _] rfl Tryz.call178 (C_rCmp _ _ _ _ (m * ((lo + hi + 1) / 2)) R (by omega) (by omega)) (zp (.leq rfl rfl) (zn ?_)))); clear h; intro a w h
        change Code.wp _ _ _ _ _
        refine cond_split h rfl (fun hc79 => ?_) (fun hc79 => ?_)
        · skip
          have hmid : (lo + hi + 1) / 2 ≤ R / m := by
            have h3 := cmpI_le.1 (of_decide_eq_true hc79)
            rwa [Nat.le_div_iff_mul_le hm0, Nat.mul_comm]
          refine gC h (zr (zm rfl (za rfl (zn ?_)))); clear h; intro a w h
          exact ⟨hi - ((lo + hi + 1) / 2), ⟨(lo + hi + 1) / 2, hi, ⟨by omega, by omega, by omega, by omega⟩, by exact (h.factsSub (by simp)).sub sA⟩, by omega⟩
        · skip
          have hmid : R / m < (lo + hi + 1) / 2 := by
            have h3 := of_decide_eq_false hc79
            rw [cmpI_le] at h3
            rw [Nat.div_lt_iff_lt_mul hm0, Nat.mul_comm]; omega
          refine gC h (zr (zm rfl (zp (Pure1.cast (v' := (.int .i64 ((((lo + hi + 1) / 2) - 1 : Nat) : Int))) (.sub rfl rfl) (by show Value.int _ _ = Value.int _ _; congr 1; omega)) (za rfl (zn ?_))))); clear h; intro a w h
          exact ⟨(((lo + hi + 1) / 2) - 1) - lo, ⟨lo, ((lo + hi + 1) / 2) - 1, ⟨by omega, by omega, by omega, by omega⟩, by exact (h.factsSub (by simp)).sub sA⟩, by omega⟩
      · skip
        obtain rfl : lo = R / m := by have := of_decide_eq_false hc66; omega
        refine gC h (ze (zs (zr (zm rfl (zp (Pure1.cast (v' := .int .i64 ((k - 1 : Nat) : Int)) (.move rfl) (by show Value.int _ _ = Value.int _ _; congr 1; omega)) (zm rfl (zp (.indexAddr rfl rfl (ix_52 _ _ _ _ _ (by omega))) (zt' rfl rfl ((congrArg (fun z => setFrom _ z _) (Nat.zero_add _)).trans (set_row (enc := encn) Z (k - 1) (R / m))) uu Tryz.sizeOf3 rfl (by simp; omega) rfl ?_)))))))); clear h; intro a w h
        refine gL h (zn (zr (zm rfl (zm rfl (zm rfl (zp (.convert rfl (cv_3_36b _ (wrap_u64 _ (by omega) (by omega)))) (zf [_] rfl Tryz.call181 (C_rOf (R / m) (by omega)) ?_))))))); clear h; rintro v91 Ψ91 ⟨ad91, c91, rfl, hle91, rfl⟩ a w h
        have hl91 := dg5 (R / m) (by omega)
        refine gL h (zf [_, _] rfl Tryz.call131 (C_rMul _ _ _ _ m (R / m) (by omega) (by omega)) ?_); clear h; rintro v92 Ψ92 ⟨ad92, c92, rfl, hle92, rfl⟩ a w h
        have hl92 := dg_len_mul m (R / m)
        refine gL h (zf [_, _] rfl Tryz.call177 (C_rSub _ _ _ _ R (m * (R / m)) (by omega) (by omega) (Nat.mul_div_le R m)) ?_); clear h; rintro v93 Ψ93 ⟨ad93, c93, rfl, hle93, rfl⟩ a w h
        have e93 : R - m * (R / m) = n / 10000 ^ (k - 1) % m := by rw [div_step_mod n m (k - 1) R hR', Nat.mod_def]
        rw [e93] at h hle93
        refine gL h (za rfl (zn (zr (zm rfl (zp (Pure1.cast (v' := .int .i64 (((k - 1 : Nat) : Int) - 1)) (.sub rfl rfl) (by show Value.int _ _ = Value.int _ _; congr 1; omega)) (za rfl (zn ?_))))))); clear h; intro a w h
        exact ⟨k - 1, ⟨Z.set (k - 1) (R / m), ad93, c93, ⟨by omega, by rw [List.length_set]; exact hZl, hZw.set _ _ (by omega), by rw [valD_set_drop (by omega), hkk, hZv, div_step_quo n m (k - 1) R hm0 hR', hkk], hle93⟩, by exact (h.factsSub (by simp)).sub sA⟩, by omega⟩
    · skip
      obtain rfl : k = 0 := by have := of_decide_eq_false hc42; omega
      refine gC h (ze (zs (zr (zm rfl ?_)))); clear h; intro a w h
      have hZ0 : valD Z = n / m := by simpa using hZv
      rw [show n / 10000 ^ 0 % m = n % m from by simp] at h hlc
      rw [← hZl] at h
      replace h := h.shareAll hS (List.map encn Z) rfl
      refine gL h (zf [_] rfl Tryz.call180 (C_trim (some ⟨b34, 0, none⟩) Z.length Z hZw (Nat.le_refl _) (by omega)) ?_); clear h; rintro v95 Ψ95 ⟨rfl, rfl⟩ a w h
      rw [hZ0] at h
      refine gL h (zm rfl (za rfl (za rfl (zn (zt ?_))))); clear h; intro a w h
      exact ret_of (Ψ := [Row (some ⟨b34, 0, none⟩) (List.map encn (dg (n / m))), Row ad (List.map encn (dg (n % m)))]) h (results2 h rfl (.tmp rfl) (.tmp rfl)) ⟨_, _, _, _, rfl, by rw [← hZ0]; exact dg_length_le hZw, hlc, rfl⟩ (by simp)
theorem C_rGcd (ad1 ad2 : Option Addr) (c1 c2 : Nat) (n m : Nat) (h1 : (dg n).length ≤ 300000000000) (h2 : (dg m).length ≤ 300000000000) (hc1 : (dg n).length ≤ c1) (hc2 : (dg m).length ≤ c2) :
    Ctr Tryz.prog 175 [.slice ad1 (dg n).length c1, .slice ad2 (dg m).length c2] [Row ad1 (List.map encn (dg n)), Row ad2 (List.map encn (dg m))] (PostN (Nat.gcd n m)) := by
  refine fn_intro Tryz.func175 rfl Tryz.ntmps175 nb ?_
  intro S w0 a hS h
  refine gC h (zs (zr (za rfl (zn (zs (zb ?_)))))); clear h; intro a w h
  refine wp_loop_inv (fun (y : Nat) a w => ∃ x p cp q cq, (Nat.gcd x y = Nat.gcd n m ∧ (dg x).length ≤ 300000000000 ∧ (dg y).length ≤ 300000000000 ∧ (dg x).length ≤ cp ∧ (dg y).length ≤ cq) ∧ St 19 S w0 [(0, .slice p ((dg x).length) cp), (1, .slice q ((dg y).length) cq)] [] [Row p (List.map encn (dg x)), Row q (List.map encn (dg y))] a w) (fun y => y) (m) (⟨n, ad1, c1, ad2, c2, ⟨rfl, h1, h2, hc1, hc2⟩, by exact (h.factsSub (by simp)).sub sA⟩) ?_; clear h
  rintro y a w ⟨x, p, cp, q, cq, ⟨hg, hx1, hy1, hcp, hcq⟩, h⟩
  refine gC h (zs (zs (zr (zm rfl (zp (.builtin [_] rfl (len_slice_52 _ _ _)) (zp (.gtr rfl rfl) (zn ?_))))))); clear h; intro a w h
  change Code.wp _ _ _ _ _
  refine cond_split h rfl (fun hc9 => ?_) (fun hc9 => ?_)
  · skip
    have hy : y ≠ 0 := by
      intro e; subst e; rw [dg_zero] at hc9; exact absurd (of_decide_eq_true hc9) (by decide)
    have hl3 := dg_len_mono (Nat.le_of_lt (Nat.mod_lt x (Nat.pos_of_ne_zero hy)))
    refine gC h (zk (zb (zs (zr (zm rfl (zm rfl (zf [_, _] rfl Tryz.call176 (C_rDiv _ _ _ _ x y (by omega) (by omega) (by omega) (by omega)) ?_))))))); clear h; rintro v13 Ψ13 ⟨ad13, c13, bd13, d13, rfl, hle13, hlf13, rfl⟩ a w h
    refine gL h (zm rfl (zp (.extract rfl (fun _ => rfl)) (zp (.extract rfl (fun _ => rfl)) (za rfl (za rfl (zn (zs (zr (zm rfl (za rfl (zn (zr (zm rfl (za rfl (zn ?_))))))))))))))); clear h; intro a w h
    exact ⟨x % y, ⟨y, q, cq, bd13, d13, ⟨by rw [← hg, Nat.gcd_comm x y, Nat.gcd_rec y x, Nat.gcd_comm], hy1, by omega, hcq, hlf13⟩, by exact (h.factsSub (by simp)).sub sA⟩, Nat.mod_lt _ (Nat.pos_of_ne_zero hy)⟩
  · skip
    obtain rfl : y = 0 := by
      have h3 := of_decide_eq_false hc9
      exact dg_nil.1 (List.eq_nil_of_length_eq_zero (by omega))
    refine gC h (ze (zs (zr (zm rfl (za rfl (zn (zt ?_))))))); clear h; intro a w h
    refine ret_of (Ψ := [Row p (List.map encn (dg x))]) h (results1 h rfl (.tmp rfl)) ?_ (by simp)
    rw [Nat.gcd_zero_right] at hg; subst hg; exact ⟨p, cp, rfl, hcp, rfl⟩
end
section
theorem bd_54_0_1 (x0 : Bool) (x1 : Option Addr) (x1n : Nat) (x1c : Nat) (w : World) : (Instr.build 54 [(0, .bool x0), (1, .slice x1 x1n x1c)].toArray).run Tryz.prog w = .ok (.agg #[.bool x0, .slice x1 x1n x1c]) w := by simp [go_sem]
theorem cv_2_36b (x : Int) (h0 : IntKind.u64.wrap x = x) (w : World) : (Go.convert 2 36 (.int .i64 x)).run Tryz.prog w = .ok (.int .u64 x) w := by
  rw [cv_2_36, h0]
theorem fa_54_1 (b off : Nat) (w : World) : (Instr.fieldAt 54 (.pointer (some ⟨b, off, none⟩)) 1).run Tryz.prog w = .ok (.pointer (some ⟨b, off + 1, none⟩)) w := by
  simp [go_sem]
theorem fa_54_0 (b off : Nat) (w : World) : (Instr.fieldAt 54 (.pointer (some ⟨b, off, none⟩)) 0).run Tryz.prog w = .ok (.pointer (some ⟨b, off + 0, none⟩)) w := by
  simp [go_sem]
abbrev zV (z : Int) (ad : Option Addr) (c : Nat) : Value := .agg #[.bool (decide (z < 0)), .slice ad (dg z.natAbs).length c]
def PostZ (z : Int) (v : Value) (Ψ : List SPred) : Prop := ∃ ad c, v = zV z ad c ∧ (dg z.natAbs).length ≤ c ∧ Ψ = [Row ad (List.map encn (dg z.natAbs))]
theorem postZ_of {b : Bool} {n : Nat} {z : Int} {ad : Option Addr} {c : Nat} (hs : sgZ b n = z) (hle : (dg n).length ≤ c) : PostZ z (.agg #[.bool (decide (sgZ b n < 0)), .slice ad (dg n).length c]) [Row ad (List.map encn (dg n))] := by
  subst hs; refine ⟨ad, c, ?_, ?_, ?_⟩
  · unfold zV; rw [sgZ_abs]
  · rw [sgZ_abs]; exact hle
  · rw [sgZ_abs]
theorem dg_len_pos {n : Nat} : decide (((dg n).length : Int) > 0) = !decide (n = 0) := by
  by_cases h : n = 0
  · subst h; rw [dg_zero]; rfl
  · have : 0 < (dg n).length := List.length_pos_iff.2 (fun e => h (dg_nil.1 e))
    rw [decide_eq_true (by omega : ((dg n).length : Int) > 0)]; simp [h]
theorem dg_len_nil {n : Nat} : (((dg n).length : Int) == 0) = decide (n = 0) := by
  by_cases h : n = 0
  · subst h; rw [dg_zero]; rfl
  · have : 0 < (dg n).length := List.length_pos_iff.2 (fun e => h (dg_nil.1 e))
    rw [decide_eq_false h]; exact beq_eq_false_iff_ne.2 (by omega)
theorem zadd_same {x y : Int} (h : decide (x < 0) = decide (y < 0)) : sgZ (decide (x < 0)) (x.natAbs + y.natAbs) = x + y := by
  have h' := decide_eq_decide.1 h
  unfold sgZ; split <;> rename_i h1 <;> simp at h1 <;> omega
theorem zadd_ge {x y : Int} (h : decide (x < 0) ≠ decide (y < 0)) (hle : y.natAbs ≤ x.natAbs) : sgZ (decide (x < 0)) (x.natAbs - y.natAbs) = x + y := by
  have h' : ¬ (x < 0 ↔ y < 0) := fun e => h (decide_eq_decide.2 e)
  unfold sgZ; split <;> rename_i h1 <;> simp at h1 <;> omega
theorem zadd_lt {x y : Int} (h : decide (x < 0) ≠ decide (y < 0)) (hle : x.natAbs < y.natAbs) : sgZ (decide (y < 0)) (y.natAbs - x.natAbs) = x + y := by
  have h' : ¬ (x < 0 ↔ y < 0) := fun e => h (decide_eq_decide.2 e)
  unfold sgZ; split <;> rename_i h1 <;> simp at h1 <;> omega
theorem zmul_sg (x y : Int) : sgZ (decide (x < 0) != decide (y < 0)) (x.natAbs * y.natAbs) = x * y := by
  unfold sgZ
  have hlt : ∀ z : Int, z < 0 ∨ 0 ≤ z := fun z => by omega
  rcases hlt x with hx | hx <;> rcases hlt y with hy | hy
  · rw [decide_eq_true hx, decide_eq_true hy]; simp; rw [Int.ofNat_natAbs_of_nonpos (Int.le_of_lt hx), Int.ofNat_natAbs_of_nonpos (Int.le_of_lt hy), Int.neg_mul_neg]
  · rw [decide_eq_true hx, decide_eq_false (by omega)]; simp; rw [Int.ofNat_natAbs_of_nonpos (Int.le_of_lt hx), Int.natAbs_of_nonneg hy, Int.neg_mul, Int.neg_neg]
  · rw [decide_eq_false (by omega), decide_eq_true hy]; simp; rw [Int.ofNat_natAbs_of_nonpos (Int.le_of_lt hy), Int.natAbs_of_nonneg hx, Int.mul_neg, Int.neg_neg]
  · rw [decide_eq_false (by omega), decide_eq_false (by omega)]; simp; rw [Int.natAbs_of_nonneg hx, Int.natAbs_of_nonneg hy]
theorem dgz_mul (x y : Int) : (dg (x * y).natAbs).length ≤ (dg x.natAbs).length + (dg y.natAbs).length := by rw [Int.natAbs_mul]; exact dg_len_mul _ _
theorem dgz_add (x y : Int) : (dg (x + y).natAbs).length ≤ max (dg x.natAbs).length (dg y.natAbs).length + 1 :=
  Nat.le_trans (dg_len_mono (Int.natAbs_add_le x y)) (dg_len_add _ _)
theorem C_zFrom (b : Bool) (ad : Option Addr) (c n : Nat) : CtrV Tryz.prog 132 [.bool b, .slice ad (dg n).length c] (.agg #[.bool (decide (sgZ b n < 0)), .slice ad (dg n).length c]) := by
  refine fn_intro Tryz.func132 rfl Tryz.ntmps132 nb ?_
  intro S w0 a hS h
  refine gC h (zs (zr (zz Tryz.zeroValue54 fun b4 => zn (zs (zr (zm rfl ?_)))))); clear h; intro a w h
  refine by_bool h (fun hc5 h => ?_) (fun hc5 h => ?_)
  · skip
    refine gL h (zm rfl (zq 6 rfl rfl (.move rfl) (zq 6 rfl rfl (.builtin [_] rfl (len_slice_52 _ _ _)) (zq 6 rfl rfl (.gtr rfl rfl) (zp (.pickT rfl rfl) (zm rfl (zp (.build [(_, _), (_, _)] rfl (bd_54_0_1 _ _ _ _)) (zt' rfl rfl (st_2_0_2 _ _ _ _) uu Tryz.sizeOf54 rfl nb rfl ?_)))))))); clear h; intro a w h
    refine wpList_nil (wp_ret ?_)
    refine retV h (results1 h rfl (.cell rfl mr Tryz.isAgg54 Tryz.sizeOf54 (rd_2_0_2 _ _))) ?_
    rw [hc5, sgZ_neg, dg_len_pos]; rfl
  · skip
    refine gL h (zm rfl (zo 6 rfl rfl rfl (zo 6 rfl rfl rfl (zo 6 rfl rfl rfl (zp (.pickF rfl rfl) (zm rfl (zp (.build [(_, _), (_, _)] rfl (bd_54_0_1 _ _ _ _)) (zt' rfl rfl (st_2_0_2 _ _ _ _) uu Tryz.sizeOf54 rfl nb rfl ?_)))))))); clear h; intro a w h
    refine wpList_nil (wp_ret ?_)
    refine retV h (results1 h rfl (.cell rfl mr Tryz.isAgg54 Tryz.sizeOf54 (rd_2_0_2 _ _))) ?_
    rw [hc5, sgZ_neg]; rfl
theorem C_zOf (n : Int) (h0 : -9223372036854775808 ≤ n) (h1 : n ≤ 9223372036854775807) : Ctr Tryz.prog 133 [.int .i64 n] [] (PostZ n) := by
  refine fn_intro Tryz.func133 rfl Tryz.ntmps133 nb ?_
  intro S w0 a hS h
  refine gC h (zs (zr (zz Tryz.zeroValue54 fun b2 => zn (zs (zs (zr (zm rfl (zp (.lss rfl rfl) (zn ?_))))))))); clear h; intro a w h
  change Code.wp _ _ _ _ _
  refine cond_split h rfl (fun hc4 => ?_) (fun hc4 => ?_)
  · skip
    have hn : n < 0 := of_decide_eq_true hc4
    refine gC h (zs (zr (zm rfl (zp (.add rfl rfl) (zp (Pure1.cast (v' := .int .i64 (-(n + 1))) (.unOp rfl (fun w => run_negi _ (by omega) (by omega) w)) (by rfl)) (zp (.convert rfl (cv_2_36b _ (wrap_u64 _ (by omega) (by omega)))) (zp (Pure1.cast (v' := .int .u64 ((n.natAbs : Nat) : Int)) (.binOp rfl rfl (fun _ => run_addb _ _ _ _ _ (wrap_u64 _ (by omega) (by omega)))) (by show Value.int _ _ = Value.int _ _; congr 1; omega)) (zf [_] rfl Tryz.call181 (C_rOf n.natAbs (by omega)) ?_)))))))); clear h; rintro v10 Ψ10 ⟨ad10, c10, rfl, hle10, rfl⟩ a w h
    refine gL h (zv [_, _] rfl Tryz.call132 (C_zFrom true ad10 c10 n.natAbs) (zt' rfl rfl (st_2_0_2 _ _ _ _) uu Tryz.sizeOf54 rfl nb rfl ?_)); clear h; intro a w h
    refine wpList_nil (wp_ret ?_)
    refine ret_of (Ψ := [Row ad10 (List.map encn (dg n.natAbs))]) h (results1 h rfl (.cell rfl mr Tryz.isAgg54 Tryz.sizeOf54 (rd_2_0_2 _ _))) ?_ (by simp)
    exact postZ_of (by unfold sgZ; simp; omega) hle10
  · skip
    have hn : ¬ n < 0 := of_decide_eq_false hc4
    refine gC h (zk (zs (zr (zm rfl (zp (Pure1.cast (v' := .int .u64 ((n.natAbs : Nat) : Int)) (.convert rfl (cv_2_36b _ (wrap_u64 _ (by omega) (by omega)))) (by show Value.int _ _ = Value.int _ _; congr 1; omega)) (zf [_] rfl Tryz.call181 (C_rOf n.natAbs (by omega)) ?_)))))); clear h; rintro v14 Ψ14 ⟨ad14, c14, rfl, hle14, rfl⟩ a w h
    refine gL h (zv [_, _] rfl Tryz.call132 (C_zFrom false ad14 c14 n.natAbs) (zt' rfl rfl (st_2_0_2 _ _ _ _) uu Tryz.sizeOf54 rfl nb rfl ?_)); clear h; intro a w h
    refine wpList_nil (wp_ret ?_)
    refine ret_of (Ψ := [Row ad14 (List.map encn (dg n.natAbs))]) h (results1 h rfl (.cell rfl mr Tryz.isAgg54 Tryz.sizeOf54 (rd_2_0_2 _ _))) ?_ (by simp)
    exact postZ_of (by unfold sgZ; simp; omega) hle14
theorem C_zSign (z : Int) (ad : Option Addr) (c : Nat) : CtrV Tryz.prog 150 [zV z ad c] (.int .i64 z.sign) := by
  refine fn_intro Tryz.func150 rfl Tryz.ntmps150 nb ?_
  intro S w0 a hS h
  refine gC h (zs (zr (zx rfl fun b1 => za rfl (zn (zs (zs (zr (zp (.fieldAddr rfl (fa_54_1 _ _)) (zd rfl mr Tryz.isAgg52 Tryz.sizeOf52 (rs_2_1 _ _) ?_))))))))); clear h; intro a w h
  refine gL h (zp (.builtin [_] rfl (len_slice_52 _ _ _)) (zp (.eql rfl rfl) (zn ?_))); clear h; intro a w h
  change Code.wp _ _ _ _ _
  refine cond_split h rfl (fun hc6 => ?_) (fun hc6 => ?_)
  · skip
    have hz : z.natAbs = 0 := by rw [dg_len_nil] at hc6; exact of_decide_eq_true hc6
    refine gC h (zs (zr (za rfl (zn (zt ?_))))); clear h; intro a w h
    refine retV h (results1 h rfl (.tmp rfl)) ?_
    rw [Int.natAbs_eq_zero.1 hz]; rfl
  · skip
    have hz : z.natAbs ≠ 0 := by rw [dg_len_nil] at hc6; exact of_decide_eq_false hc6
    refine gC h (zk (zs (zs (zr (zp (.fieldAddr rfl (fa_54_0 _ _)) (zd rfl mr Tryz.isAgg4 Tryz.sizeOf4 (rs_2_0 _ _) ?_)))))); clear h; intro a w h
    refine wpList_nil ?_
    change Code.wp _ _ _ _ _
    refine cond_split h rfl (fun hc8 => ?_) (fun hc8 => ?_)
    · skip
      have hs : z < 0 := of_decide_eq_true hc8
      refine gC h (zs (zr (za rfl (zn (zt ?_))))); clear h; intro a w h
      refine retV h (results1 h rfl (.tmp rfl)) ?_
      rw [Int.sign_eq_neg_one_of_neg hs]
    · skip
      have hs : ¬ z < 0 := of_decide_eq_false hc8
      refine gC h (zk (zs (zr (za rfl (zn (zt ?_)))))); clear h; intro a w h
      refine retV h (results1 h rfl (.tmp rfl)) ?_
      rw [Int.sign_eq_one_of_pos (by omega)]
theorem C_zNeg (z : Int) (ad : Option Addr) (c : Nat) : CtrV Tryz.prog 174 [zV z ad c] (zV (-z) ad c) := by
  refine fn_intro Tryz.func174 rfl Tryz.ntmps174 nb ?_
  intro S w0 a hS h
  refine gC h (zs (zr (zx rfl fun b1 => zz Tryz.zeroValue54 fun b2 => zn (zs (zr (zp (.fieldAddr rfl (fa_54_0 _ _)) (zd rfl mr Tryz.isAgg4 Tryz.sizeOf4 (rs_2_0 _ _) ?_))))))); clear h; intro a w h
  refine gL h (zp (.unOp rfl (un_not _)) (zp (.fieldAddr rfl (fa_54_1 _ _)) (zd rfl mr Tryz.isAgg52 Tryz.sizeOf52 (rs_2_1 _ _) ?_))); clear h; intro a w h
  refine gL h (zv [_, _] rfl Tryz.call132 (C_zFrom (!decide (z < 0)) ad c z.natAbs) (zt' rfl rfl (st_2_0_2 _ _ _ _) uu Tryz.sizeOf54 rfl nb rfl ?_)); clear h; intro a w h
  refine wpList_nil (wp_ret ?_)
  refine retV h (results1 h rfl (.cell rfl mr Tryz.isAgg54 Tryz.sizeOf54 (rd_2_0_2 _ _))) ?_
  unfold zV; rw [show sgZ (!decide (z < 0)) z.natAbs = -z from by unfold sgZ; split <;> rename_i h1 <;> simp at h1 <;> omega, Int.natAbs_neg]
theorem C_zAdd (a1 a2 : Option Addr) (c1 c2 : Nat) (x y : Int) (h1 : (dg x.natAbs).length ≤ 300000000000) (h2 : (dg y.natAbs).length ≤ 300000000000) : Ctr Tryz.prog 128 [zV x a1 c1, zV y a2 c2] [Row a1 (List.map encn (dg x.natAbs)), Row a2 (List.map encn (dg y.natAbs))] (PostZ (x + y)) := by
  refine fn_intro Tryz.func128 rfl Tryz.ntmps128 nb ?_
  intro S w0 a hS h
  refine gC h (zs (zr (zx rfl fun b2 => zx rfl fun b3 => zz Tryz.zeroValue54 fun b4 => zn (zs (zs (zr (zp (.fieldAddr rfl (fa_54_0 _ _)) (zd rfl mr Tryz.isAgg4 Tryz.sizeOf4 (rs_2_0 _ _) ?_)))))))); clear h; intro a w h
  refine gL h (zp (.fieldAddr rfl (fa_54_0 _ _)) (zd rfl mr Tryz.isAgg4 Tryz.sizeOf4 (rs_2_0 _ _) ?_)); clear h; intro a w h
  refine gL h (zp (.binOp rfl rfl (fun _ => run_beql _ Tryz.underlying4 _ _ _ _)) (zn ?_)); clear h; intro a w h
  change Code.wp _ _ _ _ _
  refine cond_split h rfl (fun hc9 => ?_) (fun hc9 => ?_)
  · skip
    have hs := eq_of_beq hc9
    refine gC h (zs (yD mixed_YtddhlkfpdjmplaaGreatDoor [0, 1, 2, 3, 4, 5, 6, 7, 8] (floatsOK_none (by kernel_rfl)) (yp rfl (.fieldAddr rfl (fa_54_0 _ _)) (yd rfl rfl mr Tryz.isAgg4 Tryz.sizeOf4 (rs_2_0 _ _) ?_)))); clear h
    refine yp rfl (.fieldAddr rfl (fa_54_1 _ _)) (yd rfl rfl mr Tryz.isAgg52 Tryz.sizeOf52 (rs_2_1 _ _) ?_)
    refine yp rfl (.fieldAddr rfl (fa_54_1 _ _)) (yd rfl rfl mr Tryz.isAgg52 Tryz.sizeOf52 (rs_2_1 _ _) ?_)
    refine yf [_, _] rfl rfl Tryz.call172 (C_rAdd _ _ _ _ x.natAbs y.natAbs (by omega) (by omega)) ?_; rintro v16 Ψ16 ⟨ad16, c16, rfl, hle16, rfl⟩
    have hl16 := dg_len_add x.natAbs y.natAbs
    refine yv [_, _] rfl rfl Tryz.call132 (C_zFrom (decide (x < 0)) ad16 c16 (x.natAbs + y.natAbs)) (yt rfl rfl rfl (st_2_0_2 _ _ _ _) uu Tryz.sizeOf54 rfl nb rfl ?_)
    refine yn (zt ?_); intro a w h
    refine ret_of (Ψ := [Row ad16 (List.map encn (dg (x.natAbs + y.natAbs)))]) h (results1 h rfl (.cell rfl mr Tryz.isAgg54 Tryz.sizeOf54 (rd_2_0_2 _ _))) ?_ (by simp)
    exact postZ_of (zadd_same hs) hle16
  · skip
    have hs := ne_of_beq_false hc9
    refine gC h (zk (zs (zs (zr (zp (.fieldAddr rfl (fa_54_1 _ _)) (zd rfl mr Tryz.isAgg52 Tryz.sizeOf52 (rs_2_1 _ _) ?_)))))); clear h; intro a w h
    refine gL h (zp (.fieldAddr rfl (fa_54_1 _ _)) (zd rfl mr Tryz.isAgg52 Tryz.sizeOf52 (rs_2_1 _ _) ?_)); clear h; intro a w h
    refine gL h (zw [_, _] rfl Tryz.call178 (C_rCmp _ _ _ _ x.natAbs y.natAbs (by omega) (by omega)) (zp (.geq rfl rfl) (zn ?_))); clear h; intro a w h
    change Code.wp _ _ _ _ _
    refine cond_split h rfl (fun hc23 => ?_) (fun hc23 => ?_)
    · skip
      have hle : y.natAbs ≤ x.natAbs := by
        have h3 := of_decide_eq_true hc23
        unfold cmpI at h3; split at h3 <;> omega
      refine gC h (zs (yD mixed_YtddhlkfpdjmplaaGreatDoor [0, 1, 2, 3, 4, 5, 6, 7, 8] (floatsOK_none (by kernel_rfl)) (yp rfl (.fieldAddr rfl (fa_54_0 _ _)) (yd rfl rfl mr Tryz.isAgg4 Tryz.sizeOf4 (rs_2_0 _ _) ?_)))); clear h
      refine yp rfl (.fieldAddr rfl (fa_54_1 _ _)) (yd rfl rfl mr Tryz.isAgg52 Tryz.sizeOf52 (rs_2_1 _ _) ?_)
      refine yp rfl (.fieldAddr rfl (fa_54_1 _ _)) (yd rfl rfl mr Tryz.isAgg52 Tryz.sizeOf52 (rs_2_1 _ _) ?_)
      refine yf [_, _] rfl rfl Tryz.call177 (C_rSub _ _ _ _ x.natAbs y.natAbs (by omega) (by omega) hle) ?_; rintro v30 Ψ30 ⟨ad30, c30, rfl, hle30, rfl⟩
      refine yv [_, _] rfl rfl Tryz.call132 (C_zFrom (decide (x < 0)) ad30 c30 (x.natAbs - y.natAbs)) (yt rfl rfl rfl (st_2_0_2 _ _ _ _) uu Tryz.sizeOf54 rfl nb rfl ?_)
      refine yn (zt ?_); intro a w h
      refine ret_of (Ψ := [Row ad30 (List.map encn (dg (x.natAbs - y.natAbs)))]) h (results1 h rfl (.cell rfl mr Tryz.isAgg54 Tryz.sizeOf54 (rd_2_0_2 _ _))) ?_ (by simp)
      exact postZ_of (zadd_ge hs hle) hle30
    · skip
      have hle : x.natAbs < y.natAbs := by
        have h3 := of_decide_eq_false hc23
        unfold cmpI at h3; split at h3
        · assumption
        · split at h3 <;> omega
      refine gC h (zk (zs (yD mixed_YtddhlkfpdjmplaaGreatDoor [0, 1, 2, 3, 4, 5, 6, 7, 8] (floatsOK_none (by kernel_rfl)) (yp rfl (.fieldAddr rfl (fa_54_0 _ _)) (yd rfl rfl mr Tryz.isAgg4 Tryz.sizeOf4 (rs_2_0 _ _) ?_))))); clear h
      refine yp rfl (.fieldAddr rfl (fa_54_1 _ _)) (yd rfl rfl mr Tryz.isAgg52 Tryz.sizeOf52 (rs_2_1 _ _) ?_)
      refine yp rfl (.fieldAddr rfl (fa_54_1 _ _)) (yd rfl rfl mr Tryz.isAgg52 Tryz.sizeOf52 (rs_2_1 _ _) ?_)
      refine yf [_, _] rfl rfl Tryz.call177 (C_rSub _ _ _ _ y.natAbs x.natAbs (by omega) (by omega) (Nat.le_of_lt hle)) ?_; rintro v38 Ψ38 ⟨ad38, c38, rfl, hle38, rfl⟩
      refine yv [_, _] rfl rfl Tryz.call132 (C_zFrom (decide (y < 0)) ad38 c38 (y.natAbs - x.natAbs)) (yt rfl rfl rfl (st_2_0_2 _ _ _ _) uu Tryz.sizeOf54 rfl nb rfl ?_)
      refine yn (zt ?_); intro a w h
      refine ret_of (Ψ := [Row ad38 (List.map encn (dg (y.natAbs - x.natAbs)))]) h (results1 h rfl (.cell rfl mr Tryz.isAgg54 Tryz.sizeOf54 (rd_2_0_2 _ _))) ?_ (by simp)
      exact postZ_of (zadd_lt hs hle) hle38
theorem C_zMul (a1 a2 : Option Addr) (c1 c2 : Nat) (x y : Int) (h1 : (dg x.natAbs).length ≤ 300000000000) (h2 : (dg y.natAbs).length ≤ 300000000000) : Ctr Tryz.prog 129 [zV x a1 c1, zV y a2 c2] [Row a1 (List.map encn (dg x.natAbs)), Row a2 (List.map encn (dg y.natAbs))] (PostZ (x * y)) := by
  refine fn_intro Tryz.func129 rfl Tryz.ntmps129 nb ?_
  intro S w0 a hS h
  refine gC h (zs (zr (zx rfl fun b2 => zx rfl fun b3 => zz Tryz.zeroValue54 fun b4 => zn (zs (yD mixed_YtddhlkfpdjmplaaGreatDoor [0, 1, 2, 3, 4, 5, 6, 7, 8, 9, 10, 11] (floatsOK_none (by kernel_rfl)) (yp rfl (.fieldAddr rfl (fa_54_0 _ _)) (yd rfl rfl mr Tryz.isAgg4 Tryz.sizeOf4 (rs_2_0 _ _) ?_))))))); clear h
  refine yp rfl (.fieldAddr rfl (fa_54_0 _ _)) (yd rfl rfl mr Tryz.isAgg4 Tryz.sizeOf4 (rs_2_0 _ _) ?_)
  refine yp rfl (.binOp rfl rfl (fun _ => run_bneq _ Tryz.underlying4 _ _ _ _)) (yp rfl (.fieldAddr rfl (fa_54_1 _ _)) (yd rfl rfl mr Tryz.isAgg52 Tryz.sizeOf52 (rs_2_1 _ _) ?_))
  refine yp rfl (.fieldAddr rfl (fa_54_1 _ _)) (yd rfl rfl mr Tryz.isAgg52 Tryz.sizeOf52 (rs_2_1 _ _) ?_)
  refine yf [_, _] rfl rfl Tryz.call131 (C_rMul _ _ _ _ x.natAbs y.natAbs (by omega) (by omega)) ?_; rintro v14 Ψ14 ⟨ad14, c14, rfl, hle14, rfl⟩
  have hl14 := dg_len_mul x.natAbs y.natAbs
  refine yv [_, _] rfl rfl Tryz.call132 (C_zFrom (decide (x < 0) != decide (y < 0)) ad14 c14 (x.natAbs * y.natAbs)) (yt rfl rfl rfl (st_2_0_2 _ _ _ _) uu Tryz.sizeOf54 rfl nb rfl ?_)
  refine yn (zt ?_); intro a w h
  refine ret_of (Ψ := [Row ad14 (List.map encn (dg (x.natAbs * y.natAbs)))]) h (results1 h rfl (.cell rfl mr Tryz.isAgg54 Tryz.sizeOf54 (rd_2_0_2 _ _))) ?_ (by simp)
  exact postZ_of (zmul_sg x y) hle14
end
section
theorem fa_56_1 (b off : Nat) (w : World) : (Instr.fieldAt 56 (.pointer (some ⟨b, off, none⟩)) 1).run Tryz.prog w = .ok (.pointer (some ⟨b, off + 2, none⟩)) w := by
  simp [go_sem]
theorem bd_56_0_1 (x0_0 : Value) (x0_1 : Value) (x1 : Option Addr) (x1n : Nat) (x1c : Nat) (w : World) : (Instr.build 56 [(0, .agg #[x0_0, x0_1]), (1, .slice x1 x1n x1c)].toArray).run Tryz.prog w = .ok (.agg #[x0_0, x0_1, .slice x1 x1n x1c]) w := by simp [go_sem]
theorem bd_56_0 (x0_0 : Value) (x0_1 : Value) (w : World) : (Instr.build 56 [(0, .agg #[x0_0, x0_1])].toArray).run Tryz.prog w = .ok (.agg #[x0_0, x0_1, .slice none 0 0]) w := by simp [go_sem]
theorem fa_56_0 (b off : Nat) (w : World) : (Instr.fieldAt 56 (.pointer (some ⟨b, off, none⟩)) 0).run Tryz.prog w = .ok (.pointer (some ⟨b, off + 0, none⟩)) w := by
  simp [go_sem]
theorem bd_56_z (w : World) : (Instr.build 56 [].toArray).run Tryz.prog w = .ok (.agg #[.bool false, .slice none 0 0, .slice none 0 0]) w := by simp [go_sem]
theorem rs_3_0 (c0 c1 c2 : Value) : readAt false 1 #[c0, c1, c2] 0 = some c0 := rfl
theorem rs_3_1 (c0 c1 c2 : Value) : readAt false 1 #[c0, c1, c2] 1 = some c1 := rfl
abbrev fV (x : Rat) (a1 : Option Addr) (c1 : Nat) (a2 : Option Addr) (c2 : Nat) : Value := .agg #[.bool (decide (x.num < 0)), .slice a1 (dg x.num.natAbs).length c1, .slice a2 (dg (x.den - 1)).length c2]
def PostF (x : Rat) (v : Value) (Ψ : List SPred) : Prop := ∃ a1 c1 a2 c2, v = fV x a1 c1 a2 c2 ∧ (dg x.num.natAbs).length ≤ c1 ∧ (dg (x.den - 1)).length ≤ c2 ∧ Ψ = [Row a1 (List.map encn (dg x.num.natAbs)), Row a2 (List.map encn (dg (x.den - 1)))]
theorem dgQ {x : Rat} {k : Nat} (h : lenQ x ≤ k) : (dg x.num.natAbs).length ≤ 3 * k ∧ (dg x.den).length ≤ 3 * k ∧ (dg (x.den - 1)).length ≤ 3 * k := by
  obtain ⟨h1, h2⟩ := lenQ_le h
  unfold lenZ at h1
  have a1 := dg_len_wds x.num.natAbs
  have a2 := dg_len_wds x.den
  have a3 := dg_len_mono (Nat.sub_le x.den 1)
  omega
theorem sign_lt (z : Int) : decide (z.sign < 0) = decide (z < 0) := by
  apply decide_eq_decide.2
  rcases Int.lt_trichotomy z 0 with h | h | h
  · rw [Int.sign_eq_neg_one_of_neg h]; omega
  · subst h; simp
  · rw [Int.sign_eq_one_of_pos h]; omega
theorem mkRat_dg (z : Int) (d : Nat) (hd : d ≠ 0) : sgZ (decide (z < 0)) (z.natAbs / z.natAbs.gcd d) = (mkRat z d).num ∧ z.natAbs / z.natAbs.gcd d = (mkRat z d).num.natAbs ∧ d / z.natAbs.gcd d - 1 = (mkRat z d).den - 1 := by
  obtain ⟨h1, h2⟩ := mkRat_parts z d hd
  rw [sign_lt] at h1
  exact ⟨h1.symm, by rw [h1, sgZ_abs], by rw [h2]⟩
theorem C_rOne : Ctr Tryz.prog 173 [] [] (PostN 1) := by
  refine fn_intro Tryz.func173 rfl Tryz.ntmps173 nb ?_
  intro S w0 a hS h
  refine gC h (zs (zr (za rfl (zn (zs (zr (zf [_] rfl Tryz.call181 (C_rOf 1 (by decide)) ?_))))))); clear h; rintro v1 Ψ1 ⟨ad1, c1, rfl, hle1, rfl⟩ a w h
  refine gL h (za rfl (zn (zt ?_))); clear h; intro a w h
  refine ret_of (Ψ := [Row ad1 (List.map encn (dg 1))]) h (results1 h rfl (.tmp rfl)) ?_ (by simp)
  exact ⟨ad1, c1, rfl, hle1, rfl⟩
theorem C_fDen (a1 a2 : Option Addr) (c1 c2 : Nat) (x : Rat) (hx : (dg (x.den - 1)).length ≤ 300000000000) : Ctr Tryz.prog 123 [fV x a1 c1 a2 c2] [Row a2 (List.map encn (dg (x.den - 1)))] (PostN x.den) := by
  refine fn_intro Tryz.func123 rfl Tryz.ntmps123 nb ?_
  intro S w0 a hS h
  refine gC h (zs (zr (zx rfl fun b1 => za rfl (zn (zs (yD mixed_YtddhlkfpdjmplaaGreatDoor [0, 1, 2, 3, 4] (floatsOK_none (by kernel_rfl)) (yp rfl (.fieldAddr rfl (fa_56_1 _ _)) (yd rfl rfl mr Tryz.isAgg52 Tryz.sizeOf52 (rs_3_2 _ _ _) ?_)))))))); clear h
  refine yf [] rfl rfl Tryz.call173 (C_rOne) ?_; rintro v5 Ψ5 ⟨ad5, c5, rfl, hle5, rfl⟩
  have hl5 := dg5 1 (by decide)
  refine yf [_, _] rfl rfl Tryz.call172 (C_rAdd _ _ _ _ (x.den - 1) 1 (by omega) (by omega)) ?_; rintro v6 Ψ6 ⟨ad6, c6, rfl, hle6, rfl⟩
  have hl6 := dg_len_add (x.den - 1) 1
  refine yp rfl (.assign rfl) (yn (zt ?_)); intro a w h
  refine ret_of (Ψ := [Row ad6 (List.map encn (dg (x.den - 1 + 1)))]) h (results1 h rfl (.tmp rfl)) ?_ (by simp)
  rw [Nat.sub_add_cancel x.den_pos] at *; exact ⟨ad6, c6, rfl, hle6, rfl⟩
theorem C_fden (a1 a2 : Option Addr) (c1 c2 : Nat) (x : Rat) (hx : (dg (x.den - 1)).length ≤ 300000000000) : Ctr Tryz.prog 130 [fV x a1 c1 a2 c2] [Row a2 (List.map encn (dg (x.den - 1)))] (PostZ ((x.den : Nat) : Int)) := by
  refine fn_intro Tryz.func130 rfl Tryz.ntmps130 nb ?_
  intro S w0 a hS h
  refine gC h (zs (zr (zx rfl fun b1 => zz Tryz.zeroValue54 fun b2 => zn (zs (zr (zd rfl mr Tryz.isAgg56 Tryz.sizeOf56 (rd_3_0_3 _ _ _) ?_)))))); clear h; intro a w h
  refine gL h (zf [_] rfl Tryz.call123 (C_fDen _ _ _ _ x (by omega)) ?_); clear h; rintro v4 Ψ4 ⟨ad4, c4, rfl, hle4, rfl⟩ a w h
  refine gL h (zv [_, _] rfl Tryz.call132 (C_zFrom false ad4 c4 x.den) (zt' rfl rfl (st_2_0_2 _ _ _ _) uu Tryz.sizeOf54 rfl nb rfl ?_)); clear h; intro a w h
  refine wpList_nil (wp_ret ?_)
  refine ret_of (Ψ := [Row ad4 (List.map encn (dg x.den))]) h (results1 h rfl (.cell rfl mr Tryz.isAgg54 Tryz.sizeOf54 (rd_2_0_2 _ _))) ?_ (by simp)
  exact postZ_of rfl hle4
theorem C_fFrom (a1 a2 : Option Addr) (c1 c2 : Nat) (z : Int) (d : Nat) (hd : d ≠ 0) (h1 : (dg z.natAbs).length ≤ 300000000000) (h2 : (dg d).length ≤ 300000000000) (hc1 : (dg z.natAbs).length ≤ c1) (hc2 : (dg d).length ≤ c2) :
    Ctr Tryz.prog 127 [zV z a1 c1, .slice a2 (dg d).length c2] [Row a1 (List.map encn (dg z.natAbs)), Row a2 (List.map encn (dg d))] (PostF (mkRat z d)) := by
  have hg0 : z.natAbs.gcd d ≠ 0 := fun h => hd (Nat.gcd_eq_zero_iff.1 h).2
  have hgl := dg_len_mono (Nat.gcd_le_right (m := z.natAbs) (Nat.pos_of_ne_zero hd))
  have hql := dg_len_mono (Nat.div_le_self d (z.natAbs.gcd d))
  have hq1 : 1 ≤ d / z.natAbs.gcd d := Nat.div_pos (Nat.gcd_le_right _ (Nat.pos_of_ne_zero hd)) (Nat.pos_of_ne_zero hg0)
  have h15 := dg5 1 (by decide)
  obtain ⟨hm1, hm2, hm3⟩ := mkRat_dg z d hd
  refine fn_intro Tryz.func127 rfl Tryz.ntmps127 nb ?_
  intro S w0 a hS h
  refine gC h (zs (zr (zx rfl fun b2 => zz Tryz.zeroValue56 fun b4 => zn (zs (zr (zp (.fieldAddr rfl (fa_54_1 _ _)) (zd rfl mr Tryz.isAgg52 Tryz.sizeOf52 (rs_2_1 _ _) ?_))))))); clear h; intro a w h
  refine gL h (zm rfl (zf [_, _] rfl Tryz.call175 (C_rGcd _ _ _ _ z.natAbs d (by omega) (by omega) hc1 hc2) ?_)); clear h; rintro v13 Ψ13 ⟨ad13, c13, rfl, hle13, rfl⟩ a w h
  refine gL h (za rfl (zn (zs (zr (zp (.fieldAddr rfl (fa_54_1 _ _)) (zd rfl mr Tryz.isAgg52 Tryz.sizeOf52 (rs_2_1 _ _) ?_)))))); clear h; intro a w h
  refine gL h (zm rfl (zf [_, _] rfl Tryz.call176 (C_rDiv _ _ _ _ z.natAbs (z.natAbs.gcd d) (by omega) (by omega) hg0 hc1) ?_)); clear h; rintro v18 Ψ18 ⟨ad18, c18, bd18, d18, rfl, hle18, hlf18, rfl⟩ a w h
  refine gL h (zm rfl (zp (.extract rfl (fun _ => rfl)) (zp (.extract rfl (fun _ => rfl)) (za rfl (za rfl (zn (zs (zr (zm rfl (zm rfl (zf [_, _] rfl Tryz.call176 (C_rDiv _ _ _ _ d (z.natAbs.gcd d) (by omega) (by omega) hg0 hc2) ?_))))))))))); clear h; rintro v24 Ψ24 ⟨ad24, c24, bd24, d24, rfl, hle24, hlf24, rfl⟩ a w h
  refine gL h (zm rfl (zp (.extract rfl (fun _ => rfl)) (zp (.extract rfl (fun _ => rfl)) (za rfl (za rfl (zn (zs (zr (zp (.fieldAddr rfl (fa_54_0 _ _)) (zd rfl mr Tryz.isAgg4 Tryz.sizeOf4 (rs_2_0 _ _) ?_)))))))))); clear h; intro a w h
  refine gL h (zm rfl (zv [_, _] rfl Tryz.call132 (C_zFrom (decide (z < 0)) ad18 c18 (z.natAbs / z.natAbs.gcd d)) (zm rfl (zf [] rfl Tryz.call173 (C_rOne) ?_)))); clear h; rintro v32 Ψ32 ⟨ad32, c32, rfl, hle32, rfl⟩ a w h
  have hl32 := dg5 1 (by decide)
  refine gL h (zf [_, _] rfl Tryz.call177 (C_rSub _ _ _ _ (d / z.natAbs.gcd d) 1 (by omega) (by omega) hq1) ?_); clear h; rintro v33 Ψ33 ⟨ad33, c33, rfl, hle33, rfl⟩ a w h
  refine gL h (zp (.build [(_, _), (_, _)] rfl (bd_56_0_1 _ _ _ _ _)) (zt' rfl rfl (st_3_0_3 _ _ _ _ _ _) uu Tryz.sizeOf56 rfl nb rfl ?_)); clear h; intro a w h
  refine wpList_nil (wp_ret ?_)
  refine ret_of (Ψ := [Row ad18 (List.map encn (dg (z.natAbs / z.natAbs.gcd d))), Row ad33 (List.map encn (dg (d / z.natAbs.gcd d - 1)))]) h (results1 h rfl (.cell rfl mr Tryz.isAgg56 Tryz.sizeOf56 (rd_3_0_3 _ _ _))) ?_ (by simp)
  rw [hm1, hm2, hm3] at *; exact ⟨ad18, c18, ad33, c33, rfl, hle18, hle33, rfl⟩
theorem C_fInt (n : Int) (h0 : -9223372036854775808 ≤ n) (h1 : n ≤ 9223372036854775807) : Ctr Tryz.prog 67 [.int .i64 n] [] (PostF ((n : Int) : Rat)) := by
  refine fn_intro Tryz.func67 rfl Tryz.ntmps67 nb ?_
  intro S w0 a hS h
  refine gC h (zs (zr (zz Tryz.zeroValue56 fun b2 => zn (zs (zr (zm rfl (zf [_] rfl Tryz.call133 (C_zOf n (by omega) (by omega)) ?_))))))); clear h; rintro v4 Ψ4 ⟨ad4, c4, rfl, hle4, rfl⟩ a w h
  refine gL h (zp (.build [(_, _)] rfl (bd_56_0 _ _)) (zt' rfl rfl (st_3_0_3 _ _ _ _ _ _) uu Tryz.sizeOf56 rfl nb rfl ?_)); clear h; intro a w h
  refine wpList_nil (wp_ret ?_)
  replace h := h.derive (R := Row none []) (fun X hX hne => absurd rfl hne)
  have e1 : PostF ((n : Int) : Rat) (.agg #[.bool (decide (n < 0)), .slice ad4 (dg n.natAbs).length c4, .slice none 0 0]) [Row ad4 (List.map encn (dg n.natAbs)), Row none []] :=
    ⟨ad4, c4, none, 0, by unfold fV; rw [Rat.num_intCast, Rat.den_intCast, Nat.sub_self, dg_zero]; rfl, by rw [Rat.num_intCast]; exact hle4, by rw [Rat.den_intCast, Nat.sub_self, dg_zero]; exact Nat.le_refl _, by rw [Rat.num_intCast, Rat.den_intCast, Nat.sub_self, dg_zero]; rfl⟩
  exact ret_of h (results1 h rfl (.cell rfl mr Tryz.isAgg56 Tryz.sizeOf56 (rd_3_0_3 _ _ _))) e1 (by simp)
theorem C_fSign (x : Rat) (a1 : Option Addr) (c1 : Nat) (a2 : Option Addr) (c2 : Nat) : CtrV Tryz.prog 86 [fV x a1 c1 a2 c2] (.int .i64 x.num.sign) := by
  refine fn_intro Tryz.func86 rfl Tryz.ntmps86 nb ?_
  intro S w0 a hS h
  refine gC h (zs (zr (zx rfl fun b1 => za rfl (zn (zs (zr (zp (.fieldAddr rfl (fa_56_0 _ _)) (zd rfl mr Tryz.isAgg54 Tryz.sizeOf54 (rd_3_0_2 _ _ _) ?_)))))))); clear h; intro a w h
  refine gL h (zv [_] rfl Tryz.call150 (C_zSign x.num _ _) (za rfl (zn (zt ?_)))); clear h; intro a w h
  refine retV h (results1 h rfl (.tmp rfl)) ?_
  rfl
theorem C_fNeg (x : Rat) (a1 : Option Addr) (c1 : Nat) (a2 : Option Addr) (c2 : Nat) : CtrV Tryz.prog 126 [fV x a1 c1 a2 c2] (fV (-x) a1 c1 a2 c2) := by
  refine fn_intro Tryz.func126 rfl Tryz.ntmps126 nb ?_
  intro S w0 a hS h
  refine gC h (zs (zr (zx rfl fun b1 => zz Tryz.zeroValue56 fun b2 => zn (zs (yD mixed_YtddhlkfpdjmplaaGreatDoor [0, 1, 3, 4, 2, 5, 6] (floatsOK_none (by kernel_rfl)) (yp rfl (.fieldAddr rfl (fa_56_0 _ _)) (yd rfl rfl mr Tryz.isAgg54 Tryz.sizeOf54 (rd_3_0_2 _ _ _) ?_))))))); clear h
  refine yp rfl (.fieldAddr rfl (fa_56_1 _ _)) (yd rfl rfl mr Tryz.isAgg52 Tryz.sizeOf52 (rs_3_2 _ _ _) ?_)
  refine yv [_] rfl rfl Tryz.call174 (C_zNeg x.num a1 c1) (yp rfl (.build [(_, _), (_, _)] rfl (bd_56_0_1 _ _ _ _ _)) (yt rfl rfl rfl (st_3_0_3 _ _ _ _ _ _) uu Tryz.sizeOf56 rfl nb rfl ?_))
  refine yn (zt ?_); intro a w h
  refine retV h (results1 h rfl (.cell rfl mr Tryz.isAgg56 Tryz.sizeOf56 (rd_3_0_3 _ _ _))) ?_
  unfold fV; rw [Rat.neg_num, Rat.neg_den]
theorem C_fAdd (a1 p1 a2 p2 : Option Addr) (c1 q1 c2 q2 : Nat) (x y : Rat) (hx : lenQ x ≤ 10000000000) (hy : lenQ y ≤ 10000000000) : Ctr Tryz.prog 65 [fV x a1 c1 a2 c2, fV y p1 q1 p2 q2] [Row a1 (List.map encn (dg x.num.natAbs)), Row a2 (List.map encn (dg (x.den - 1))), Row p1 (List.map encn (dg y.num.natAbs)), Row p2 (List.map encn (dg (y.den - 1)))] (PostF (x + y)) := by
  obtain ⟨hx1, hx2, hx3⟩ := dgQ hx
  obtain ⟨hy1, hy2, hy3⟩ := dgQ hy
  have hdz : (((x.den : Nat) : Int)).natAbs = x.den := rfl
  have hdy : (((y.den : Nat) : Int)).natAbs = y.den := rfl
  have hxp := x.den_pos
  have hyp := y.den_pos
  have hm1 := dgz_mul x.num (y.den : Int)
  have hm2 := dgz_mul y.num (x.den : Int)
  have hm3 := dgz_mul x.num y.num
  have hs := dgz_add (x.num * (y.den : Int)) (y.num * (x.den : Int))
  have hdm := dg_len_mul x.den y.den
  rw [hdy] at hm1
  rw [hdz] at hm2
  have hq1 : (dg (((x.den : Nat) : Int)).natAbs).length = (dg x.den).length := rfl
  have hq2 : (dg (((y.den : Nat) : Int)).natAbs).length = (dg y.den).length := rfl
  refine fn_intro Tryz.func65 rfl Tryz.ntmps65 nb ?_
  intro S w0 a hS h
  refine gC h (zs (zr (zx rfl fun b2 => zx rfl fun b3 => zz Tryz.zeroValue56 fun b4 => zn (zs (yD mixed_YtddhlkfpdjmplaaGreatDoor [0, 1, 2, 5, 6, 7, 11, 13, 3, 4, 8, 9, 10, 12, 14, 15, 16, 17] (floatsOK_none (by kernel_rfl)) (yp rfl (.fieldAddr rfl (fa_56_0 _ _)) (yd rfl rfl mr Tryz.isAgg54 Tryz.sizeOf54 (rd_3_0_2 _ _ _) ?_))))))); clear h
  refine yd rfl rfl mr Tryz.isAgg56 Tryz.sizeOf56 (rd_3_0_3 _ _ _) ?_
  refine yp rfl (.fieldAddr rfl (fa_56_0 _ _)) (yd rfl rfl mr Tryz.isAgg54 Tryz.sizeOf54 (rd_3_0_2 _ _ _) ?_)
  refine yd rfl rfl mr Tryz.isAgg56 Tryz.sizeOf56 (rd_3_0_3 _ _ _) ?_
  refine yd rfl rfl mr Tryz.isAgg56 Tryz.sizeOf56 (rd_3_0_3 _ _ _) ?_
  refine yd rfl rfl mr Tryz.isAgg56 Tryz.sizeOf56 (rd_3_0_3 _ _ _) ?_
  refine yf [_] rfl rfl Tryz.call130 (C_fden _ _ _ _ y (by omega)) ?_; rintro v8 Ψ8 ⟨ad8, c8, rfl, hle8, rfl⟩
  refine yf [_, _] rfl rfl Tryz.call129 (C_zMul _ _ _ _ x.num (((y.den : Nat) : Int)) (by omega) (by omega)) ?_; rintro v9 Ψ9 ⟨ad9, c9, rfl, hle9, rfl⟩
  have hl9 := dgz_mul x.num (((y.den : Nat) : Int))
  refine yf [_] rfl rfl Tryz.call130 (C_fden _ _ _ _ x (by omega)) ?_; rintro v13 Ψ13 ⟨ad13, c13, rfl, hle13, rfl⟩
  refine yf [_, _] rfl rfl Tryz.call129 (C_zMul _ _ _ _ y.num (((x.den : Nat) : Int)) (by omega) (by omega)) ?_; rintro v14 Ψ14 ⟨ad14, c14, rfl, hle14, rfl⟩
  have hl14 := dgz_mul y.num (((x.den : Nat) : Int))
  refine yf [_, _] rfl rfl Tryz.call128 (C_zAdd _ _ _ _ (x.num * (((y.den : Nat) : Int))) (y.num * (((x.den : Nat) : Int))) (by omega) (by omega)) ?_; rintro v15 Ψ15 ⟨ad15, c15, rfl, hle15, rfl⟩
  refine yf [_] rfl rfl Tryz.call123 (C_fDen _ _ _ _ x (by omega)) ?_; rintro v17 Ψ17 ⟨ad17, c17, rfl, hle17, rfl⟩
  refine yf [_] rfl rfl Tryz.call123 (C_fDen _ _ _ _ y (by omega)) ?_; rintro v19 Ψ19 ⟨ad19, c19, rfl, hle19, rfl⟩
  refine yf [_, _] rfl rfl Tryz.call131 (C_rMul _ _ _ _ x.den y.den (by omega) (by omega)) ?_; rintro v20 Ψ20 ⟨ad20, c20, rfl, hle20, rfl⟩
  have hl20 := dg_len_mul x.den y.den
  refine yf [_, _] rfl rfl Tryz.call127 (C_fFrom _ _ _ _ (x.num * ((y.den : Nat) : Int) + y.num * ((x.den : Nat) : Int)) (x.den * y.den) (Nat.mul_ne_zero (by omega) (by omega)) (by omega) (by omega) hle15 hle20) ?_; rintro v21 Ψ21 ⟨ad21, c21, bd21, d21, rfl, hle21, hlf21, rfl⟩
  refine yt rfl rfl rfl (st_3_0_3 _ _ _ _ _ _) uu Tryz.sizeOf56 rfl nb rfl ?_
  refine yn (zt ?_); intro a w h
  refine ret_of (Ψ := [Row ad21 (List.map encn (dg (mkRat (x.num * ((y.den : Nat) : Int) + y.num * ((x.den : Nat) : Int)) (x.den * y.den)).num.natAbs)), Row bd21 (List.map encn (dg ((mkRat (x.num * ((y.den : Nat) : Int) + y.num * ((x.den : Nat) : Int)) (x.den * y.den)).den - 1)))]) h (results1 h rfl (.cell rfl mr Tryz.isAgg56 Tryz.sizeOf56 (rd_3_0_3 _ _ _))) ?_ (by simp)
  rw [Rat.add_def']; exact ⟨ad21, c21, bd21, d21, rfl, hle21, hlf21, rfl⟩
theorem C_fMul (a1 p1 a2 p2 : Option Addr) (c1 q1 c2 q2 : Nat) (x y : Rat) (hx : lenQ x ≤ 10000000000) (hy : lenQ y ≤ 10000000000) : Ctr Tryz.prog 70 [fV x a1 c1 a2 c2, fV y p1 q1 p2 q2] [Row a1 (List.map encn (dg x.num.natAbs)), Row a2 (List.map encn (dg (x.den - 1))), Row p1 (List.map encn (dg y.num.natAbs)), Row p2 (List.map encn (dg (y.den - 1)))] (PostF (x * y)) := by
  obtain ⟨hx1, hx2, hx3⟩ := dgQ hx
  obtain ⟨hy1, hy2, hy3⟩ := dgQ hy
  have hdz : (((x.den : Nat) : Int)).natAbs = x.den := rfl
  have hdy : (((y.den : Nat) : Int)).natAbs = y.den := rfl
  have hxp := x.den_pos
  have hyp := y.den_pos
  have hm1 := dgz_mul x.num (y.den : Int)
  have hm2 := dgz_mul y.num (x.den : Int)
  have hm3 := dgz_mul x.num y.num
  have hs := dgz_add (x.num * (y.den : Int)) (y.num * (x.den : Int))
  have hdm := dg_len_mul x.den y.den
  rw [hdy] at hm1
  rw [hdz] at hm2
  have hq1 : (dg (((x.den : Nat) : Int)).natAbs).length = (dg x.den).length := rfl
  have hq2 : (dg (((y.den : Nat) : Int)).natAbs).length = (dg y.den).length := rfl
  refine fn_intro Tryz.func70 rfl Tryz.ntmps70 nb ?_
  intro S w0 a hS h
  refine gC h (zs (zr (zx rfl fun b2 => zx rfl fun b3 => zz Tryz.zeroValue56 fun b4 => zn (zs (yD mixed_YtddhlkfpdjmplaaGreatDoor [0, 1, 2, 3, 5, 7, 4, 6, 8, 9, 10, 11] (floatsOK_none (by kernel_rfl)) (yp rfl (.fieldAddr rfl (fa_56_0 _ _)) (yd rfl rfl mr Tryz.isAgg54 Tryz.sizeOf54 (rd_3_0_2 _ _ _) ?_))))))); clear h
  refine yp rfl (.fieldAddr rfl (fa_56_0 _ _)) (yd rfl rfl mr Tryz.isAgg54 Tryz.sizeOf54 (rd_3_0_2 _ _ _) ?_)
  refine yd rfl rfl mr Tryz.isAgg56 Tryz.sizeOf56 (rd_3_0_3 _ _ _) ?_
  refine yd rfl rfl mr Tryz.isAgg56 Tryz.sizeOf56 (rd_3_0_3 _ _ _) ?_
  refine yf [_, _] rfl rfl Tryz.call129 (C_zMul _ _ _ _ x.num y.num (by omega) (by omega)) ?_; rintro v9 Ψ9 ⟨ad9, c9, rfl, hle9, rfl⟩
  have hl9 := dgz_mul x.num y.num
  refine yf [_] rfl rfl Tryz.call123 (C_fDen _ _ _ _ x (by omega)) ?_; rintro v11 Ψ11 ⟨ad11, c11, rfl, hle11, rfl⟩
  refine yf [_] rfl rfl Tryz.call123 (C_fDen _ _ _ _ y (by omega)) ?_; rintro v13 Ψ13 ⟨ad13, c13, rfl, hle13, rfl⟩
  refine yf [_, _] rfl rfl Tryz.call131 (C_rMul _ _ _ _ x.den y.den (by omega) (by omega)) ?_; rintro v14 Ψ14 ⟨ad14, c14, rfl, hle14, rfl⟩
  have hl14 := dg_len_mul x.den y.den
  refine yf [_, _] rfl rfl Tryz.call127 (C_fFrom _ _ _ _ (x.num * y.num) (x.den * y.den) (Nat.mul_ne_zero (by omega) (by omega)) (by omega) (by omega) hle9 hle14) ?_; rintro v15 Ψ15 ⟨ad15, c15, bd15, d15, rfl, hle15, hlf15, rfl⟩
  refine yt rfl rfl rfl (st_3_0_3 _ _ _ _ _ _) uu Tryz.sizeOf56 rfl nb rfl ?_
  refine yn (zt ?_); intro a w h
  refine ret_of (Ψ := [Row ad15 (List.map encn (dg (mkRat (x.num * y.num) (x.den * y.den)).num.natAbs)), Row bd15 (List.map encn (dg ((mkRat (x.num * y.num) (x.den * y.den)).den - 1)))]) h (results1 h rfl (.cell rfl mr Tryz.isAgg56 Tryz.sizeOf56 (rd_3_0_3 _ _ _))) ?_ (by simp)
  rw [Rat.mul_def']; exact ⟨ad15, c15, bd15, d15, rfl, hle15, hlf15, rfl⟩
theorem C_fInv (ad b1 : Option Addr) (c d1 : Nat) (y : Rat) (hy : y ≠ 0) (h1 : (dg y.den).length ≤ 300000000000) (h2 : (dg y.num.natAbs).length ≤ 300000000000) (hc1 : (dg y.den).length ≤ c) (hc2 : (dg y.num.natAbs).length ≤ d1) :
    Ctr Tryz.prog 127 [.agg #[.bool (decide (sgZ (decide (y.num < 0)) y.den < 0)), .slice ad (dg y.den).length c], .slice b1 (dg y.num.natAbs).length d1] [Row ad (List.map encn (dg y.den)), Row b1 (List.map encn (dg y.num.natAbs))] (PostF y⁻¹) := by
  have h0 : y.num.natAbs ≠ 0 := fun h => hy (Rat.num_eq_zero.1 (Int.natAbs_eq_zero.1 h))
  have e := sgZ_abs (decide (y.num < 0)) y.den
  have h := C_fFrom ad b1 c d1 (sgZ (decide (y.num < 0)) y.den) y.num.natAbs h0 (by rw [e]; exact h1) h2 (by rw [e]; exact hc1) hc2
  rw [← sign_lt, inv_mkRat y hy, sign_lt] at h
  unfold zV at h
  rw [e] at h
  exact h
theorem C_fDiv (a1 p1 a2 p2 : Option Addr) (c1 q1 c2 q2 : Nat) (x y : Rat) (hx : lenQ x ≤ 10000000000) (hy : lenQ y ≤ 10000000000) (hc : (dg y.num.natAbs).length ≤ q1) : Ctr Tryz.prog 66 [fV x a1 c1 a2 c2, fV y p1 q1 p2 q2] [Row a1 (List.map encn (dg x.num.natAbs)), Row a2 (List.map encn (dg (x.den - 1))), Row p1 (List.map encn (dg y.num.natAbs)), Row p2 (List.map encn (dg (y.den - 1)))] (PostF (x / y)) := by
  obtain ⟨hy1, hy2, hy3⟩ := dgQ hy
  have hi := lenQ_inv y
  refine fn_intro Tryz.func66 rfl Tryz.ntmps66 nb ?_
  intro S w0 a hS h
  refine gC h (zs (zr (zx rfl fun b2 => zx rfl fun b3 => zz Tryz.zeroValue56 fun b4 => zn (zs (zs (zr (zd rfl mr Tryz.isAgg56 Tryz.sizeOf56 (rd_3_0_3 _ _ _) ?_))))))); clear h; intro a w h
  refine gL h (zv [_] rfl Tryz.call86 (C_fSign y _ _ _ _) (zp (.eql rfl rfl) (zn ?_))); clear h; intro a w h
  change Code.wp _ _ _ _ _
  refine cond_split h rfl (fun hc7 => ?_) (fun hc7 => ?_)
  · skip
    have hz : y = 0 := Rat.num_eq_zero.1 (Int.sign_eq_zero_iff_zero.1 (eq_of_beq hc7))
    refine gC h (zs (zr (zp (.build [] rfl (bd_56_z)) (zt' rfl rfl (st_3_0_3 _ _ _ _ _ _) uu Tryz.sizeOf56 rfl nb rfl ?_)))); clear h; intro a w h
    refine wpList_nil (wp_ret ?_)
    replace h := h.derive (R := Row none []) (fun X hX hne => absurd rfl hne)
    have e1 : PostF (x / y) (.agg #[.bool false, .slice none 0 0, .slice none 0 0]) [Row none [], Row none []] := by
      subst hz; rw [Rat.div_def, Rat.inv_zero, Rat.mul_zero]
      exact ⟨none, 0, none, 0, by unfold fV; rw [show (0 : Rat).num = 0 from rfl, show (0 : Rat).den - 1 = 0 from rfl, show (0 : Int).natAbs = 0 from rfl, dg_zero]; rfl, by rw [show (0 : Rat).num = 0 from rfl, show (0 : Int).natAbs = 0 from rfl, dg_zero]; exact Nat.le_refl _, by rw [show (0 : Rat).den - 1 = 0 from rfl, dg_zero]; exact Nat.le_refl _, by rw [show (0 : Rat).num = 0 from rfl, show (0 : Rat).den - 1 = 0 from rfl, show (0 : Int).natAbs = 0 from rfl, dg_zero]; rfl⟩
    exact ret_of h (results1 h rfl (.cell rfl mr Tryz.isAgg56 Tryz.sizeOf56 (rd_3_0_3 _ _ _))) e1 (by simp)
  · skip
    have hz : y ≠ 0 := fun e => by subst e; exact absurd hc7 (by decide)
    refine gC h (zk (zs (yD mixed_YtddhlkfpdjmplaaGreatDoor [0, 1, 2, 3, 4, 7, 8, 9, 5, 6, 10, 11, 12] (floatsOK_none (by kernel_rfl)) (yd rfl rfl mr Tryz.isAgg56 Tryz.sizeOf56 (rd_3_0_3 _ _ _) ?_)))); clear h
    refine yp rfl (.fieldAddr rfl (fa_56_0 _ _)) (yp rfl (.fieldAddr rfl (fa_54_0 _ _)) (yd rfl rfl mr Tryz.isAgg4 Tryz.sizeOf4 (rs_3_0 _ _ _) ?_))
    refine yd rfl rfl mr Tryz.isAgg56 Tryz.sizeOf56 (rd_3_0_3 _ _ _) ?_
    refine yp rfl (.fieldAddr rfl (fa_56_0 _ _)) (yp rfl (.fieldAddr rfl (fa_54_1 _ _)) (yd rfl rfl mr Tryz.isAgg52 Tryz.sizeOf52 (rs_3_1 _ _ _) ?_))
    refine yf [_] rfl rfl Tryz.call123 (C_fDen _ _ _ _ y (by omega)) ?_; rintro v14 Ψ14 ⟨ad14, c14, rfl, hle14, rfl⟩
    refine yv [_, _] rfl rfl Tryz.call132 (C_zFrom (decide (y.num < 0)) ad14 c14 y.den) (yf [_, _] rfl rfl Tryz.call127 (C_fInv _ _ _ _ y hz (by omega) (by omega) (by omega) hc) ?_); rintro v19 Ψ19 ⟨ad19, c19, bd19, d19, rfl, hle19, hlf19, rfl⟩
    refine yf [_, _] rfl rfl Tryz.call70 (C_fMul _ _ _ _ _ _ _ _ x (y⁻¹) (by omega) (by omega)) ?_; rintro v20 Ψ20 ⟨ad20, c20, bd20, d20, rfl, hle20, hlf20, rfl⟩
    have hl20 := lenQ_mul x (y⁻¹)
    refine yt rfl rfl rfl (st_3_0_3 _ _ _ _ _ _) uu Tryz.sizeOf56 rfl nb rfl ?_
    refine yn (zt ?_); intro a w h
    refine ret_of (Ψ := [Row ad20 (List.map encn (dg (x * y⁻¹).num.natAbs)), Row bd20 (List.map encn (dg ((x * y⁻¹).den - 1)))]) h (results1 h rfl (.cell rfl mr Tryz.isAgg56 Tryz.sizeOf56 (rd_3_0_3 _ _ _))) ?_ (by simp)
    rw [Rat.div_def]; exact ⟨ad20, c20, bd20, d20, rfl, hle20, hlf20, rfl⟩
theorem C_fOf (n m : Int) (h0 : -9223372036854775808 ≤ n) (h1 : n ≤ 9223372036854775807) (h2 : -9223372036854775808 ≤ m) (h3 : m ≤ 9223372036854775807) : Ctr Tryz.prog 116 [.int .i64 n, .int .i64 m] [] (PostF (((n : Int) : Rat) / ((m : Int) : Rat))) := by
  refine fn_intro Tryz.func116 rfl Tryz.ntmps116 nb ?_
  intro S w0 a hS h
  refine gC h (zs (zr (zz Tryz.zeroValue56 fun b4 => zn (zs (zr (zm rfl (zf [_] rfl Tryz.call67 (C_fInt n (by omega) (by omega)) ?_))))))); clear h; rintro v6 Ψ6 ⟨ad6, c6, bd6, d6, rfl, hle6, hlf6, rfl⟩ a w h
  have hl6 := lenQ_int n (by omega) (by omega)
  refine gL h (zm rfl (zf [_] rfl Tryz.call67 (C_fInt m (by omega) (by omega)) ?_)); clear h; rintro v8 Ψ8 ⟨ad8, c8, bd8, d8, rfl, hle8, hlf8, rfl⟩ a w h
  have hl8 := lenQ_int m (by omega) (by omega)
  refine gL h (zf [_, _] rfl Tryz.call66 (C_fDiv _ _ _ _ _ _ _ _ (((n : Int) : Rat)) (((m : Int) : Rat)) (by omega) (by omega) (by first | assumption | omega)) ?_); clear h; rintro v9 Ψ9 ⟨ad9, c9, bd9, d9, rfl, hle9, hlf9, rfl⟩ a w h
  have hl9 := lenQ_div (((n : Int) : Rat)) (((m : Int) : Rat))
  refine gL h (zt' rfl rfl (st_3_0_3 _ _ _ _ _ _) uu Tryz.sizeOf56 rfl nb rfl ?_); clear h; intro a w h
  refine wpList_nil (wp_ret ?_)
  refine ret_of (Ψ := [Row ad9 (List.map encn (dg (((n : Int) : Rat) / ((m : Int) : Rat)).num.natAbs)), Row bd9 (List.map encn (dg ((((n : Int) : Rat) / ((m : Int) : Rat)).den - 1)))]) h (results1 h rfl (.cell rfl mr Tryz.isAgg56 Tryz.sizeOf56 (rd_3_0_3 _ _ _))) ?_ (by simp)
  exact ⟨ad9, c9, bd9, d9, rfl, hle9, hlf9, rfl⟩
end
section
theorem zeroF (w : World) : (zeroValue 56).run Tryz.prog w = .ok (fV 0 none 0 none 0) w := by
  have e : fV 0 none 0 none 0 = .agg #[.bool false, .slice none 0 0, .slice none 0 0] := by
    unfold fV; rw [show (0 : Rat).num = 0 from rfl, show (0 : Rat).den - 1 = 0 from rfl, show (0 : Int).natAbs = 0 from rfl, dg_zero]; rfl
  rw [e]; exact Tryz.zeroValue56 w
structure FT where
  x : Rat
  a1 : Option Addr
  c1 : Nat
  a2 : Option Addr
  c2 : Nat
  h1 : (dg x.num.natAbs).length ≤ c1
  h2 : (dg (x.den - 1)).length ≤ c2
abbrev encF (e : FT) : Value := .agg #[.bool (decide (e.x.num < 0)), .slice e.a1 (dg e.x.num.natAbs).length e.c1, .slice e.a2 (dg (e.x.den - 1)).length e.c2]
def FT0 : FT := ⟨0, none, 0, none, 0, by rw [show (0 : Rat).num.natAbs = 0 from rfl, dg_zero]; exact Nat.le_refl _, by rw [show (0 : Rat).den - 1 = 0 from rfl, dg_zero]; exact Nat.le_refl _⟩
def AllF (l : List FT) : SPred where
  p X w := ∀ e ∈ l, (Row e.a1 (List.map encn (dg e.x.num.natAbs))).p X w ∧ (Row e.a2 (List.map encn (dg (e.x.den - 1)))).p X w
  st X X' w w' h hk hs hX e he := ⟨(Row e.a1 _).st X X' w w' (h e he).1 hk hs hX, (Row e.a2 _).st X X' w w' (h e he).2 hk hs hX⟩
theorem AllF.get1 {l : List FT} {e : FT} {X : Nat → Prop} {w : World} (h : (AllF l).p X w) (he : e ∈ l) : (Row e.a1 (List.map encn (dg e.x.num.natAbs))).p X w := (h e he).1
theorem AllF.get2 {l : List FT} {e : FT} {X : Nat → Prop} {w : World} (h : (AllF l).p X w) (he : e ∈ l) : (Row e.a2 (List.map encn (dg (e.x.den - 1)))).p X w := (h e he).2
theorem AllF.nil (X : Nat → Prop) (w : World) : (AllF []).p X w := fun e he => by cases he
theorem AllF.snoc {l : List FT} {e : FT} {X : Nat → Prop} {w : World} (h : (AllF l).p X w) (h1 : (Row e.a1 (List.map encn (dg e.x.num.natAbs))).p X w) (h2 : (Row e.a2 (List.map encn (dg (e.x.den - 1)))).p X w) : (AllF (l ++ [e])).p X w := by
  intro f hf
  rcases List.mem_append.1 hf with hf | hf
  · exact h f hf
  · rw [List.mem_singleton] at hf; subst hf; exact ⟨h1, h2⟩
end
section
theorem fa_25_0 (b off : Nat) (w : World) : (Instr.fieldAt 25 (.pointer (some ⟨b, off, none⟩)) 0).run Tryz.prog w = .ok (.pointer (some ⟨b, off + 0, none⟩)) w := by
  simp [go_sem]
theorem fa_25_1 (b off : Nat) (w : World) : (Instr.fieldAt 25 (.pointer (some ⟨b, off, none⟩)) 1).run Tryz.prog w = .ok (.pointer (some ⟨b, off + 1, none⟩)) w := by
  simp [go_sem]
theorem cv_23_2 (x : Int) (w : World) : (Go.convert 23 2 (.int .u32 x)).run Tryz.prog w = .ok (.int .i64 (IntKind.i64.wrap x)) w := by
  simp [go_sem]
theorem cv_23_2b (x : Int) (h0 : IntKind.i64.wrap x = x) (w : World) : (Go.convert 23 2 (.int .u32 x)).run Tryz.prog w = .ok (.int .i64 x) w := by
  rw [cv_23_2, h0]
def qv (N D : Int) : Rat := ((N : Int) : Rat) / ((max D 1 : Int) : Rat)
theorem lenQ_qv (N D : Int) (h0 : -9223372036854775808 ≤ N) (h1 : N ≤ 9223372036854775807) (h2 : 0 ≤ D) (h3 : D ≤ 4294967295) : lenQ (qv N D) ≤ 4 := lenQ_of N (max D 1) h0 h1 (by omega) (by omega)
theorem bi_maxu (x y : Int) (w : World) (ty : TypeId) (cs : Array Bool) : (Go.builtin .max #[23, 23] ty cs #[.int .u32 x, .int .u32 y]).run Tryz.prog w = .ok (.value (.int .u32 (max x y))) w := by
  simp [go_sem] <;> (try rw [Int.max_def]) <;> (try split) <;> (try split) <;> (try omega)
abbrev encQ2 (q : Int × Int) : Value := .agg #[.int .i64 q.1, .int .u32 q.2]
def OkQ (q : Int × Int) : Prop := -9223372036854775808 ≤ q.1 ∧ q.1 ≤ 9223372036854775807 ∧ 0 ≤ q.2 ∧ q.2 ≤ 4294967295
def qvp (q : Int × Int) : Rat := qv q.1 q.2
theorem lenQ_qvp {q : Int × Int} (h : OkQ q) : lenQ (qvp q) ≤ 4 := lenQ_qv _ _ h.1 h.2.1 h.2.2.1 h.2.2.2
theorem C_qOf (N D : Int) (h0 : -9223372036854775808 ≤ N) (h1 : N ≤ 9223372036854775807) (h2 : 0 ≤ D) (h3 : D ≤ 4294967295) : CtrV Tryz.prog 62 [.agg #[.int .i64 N, .int .u32 D]] (encQ (qv N D)) := by
  refine fn_intro Tryz.func62 rfl Tryz.ntmps62 nb ?_
  intro S w0 a hS h
  refine gC h (zs (zr (zx rfl fun b1 => zz zeroQ fun b2 => zn (zs (zr (zp (.fieldAddr rfl (fa_25_0 _ _)) (zd rfl mr Tryz.isAgg2 Tryz.sizeOf2 (rs_2_0 _ _) ?_))))))); clear h; intro a w h
  refine gL h (zp (.fieldAddr rfl (fa_25_1 _ _)) (zd rfl mr Tryz.isAgg23 Tryz.sizeOf23 (rs_2_1 _ _) ?_)); clear h; intro a w h
  refine gL h (zp (.builtin [_, _] rfl (fun w ty cs => bi_maxu _ _ w ty cs)) (zp (.convert rfl (cv_23_2b _ (wrap_i64 _ (by omega) (by omega)))) (zv [_, _] rfl Tryz.call60 (C_QOf _ _ (by omega) (by omega) (by omega) (by omega) (by omega)) ?_))); clear h; intro a w h
  have hl12 := lenQ_of (N) (max D 1) (by omega) (by omega) (by omega) (by omega)
  refine gL h (zm rfl (zp (.extract rfl (fun _ => rfl)) (zp (.extract rfl (fun _ => rfl)) (zz zeroQ fun b3 => zt' rfl rfl (st_5_0_5 _ _ _ _ _ _ _ _ _ _) uu Tryz.sizeOf44 rfl nb rfl ?_)))); clear h; intro a w h
  refine gL h (za rfl (zn (zs (zr (zd rfl mr Tryz.isAgg44 Tryz.sizeOf44 (rd_5_0_5 _ _ _ _ _) ?_))))); clear h; intro a w h
  refine gL h (zt' rfl rfl (st_5_0_5 _ _ _ _ _ _ _ _ _ _) uu Tryz.sizeOf44 rfl nb rfl ?_); clear h; intro a w h
  refine wpList_nil (wp_ret ?_)
  refine retV h (results1 h rfl (.cell rfl mr Tryz.isAgg44 Tryz.sizeOf44 (rd_5_0_5 _ _ _ _ _))) ?_
  rfl
theorem C_qRef (N D : Int) (h0 : -9223372036854775808 ≤ N) (h1 : N ≤ 9223372036854775807) (h2 : 0 ≤ D) (h3 : D ≤ 4294967295) : Ctr Tryz.prog 53 [.agg #[.int .i64 N, .int .u32 D]] [] (PostF (qv N D)) := by
  refine fn_intro Tryz.func53 rfl Tryz.ntmps53 nb ?_
  intro S w0 a hS h
  refine gC h (zs (zr (zx rfl fun b1 => zz zeroF fun b2 => zn (zs (zr (zp (.fieldAddr rfl (fa_25_0 _ _)) (zd rfl mr Tryz.isAgg2 Tryz.sizeOf2 (rs_2_0 _ _) ?_))))))); clear h; intro a w h
  refine gL h (zp (.fieldAddr rfl (fa_25_1 _ _)) (zd rfl mr Tryz.isAgg23 Tryz.sizeOf23 (rs_2_1 _ _) ?_)); clear h; intro a w h
  refine gL h (zp (.builtin [_, _] rfl (fun w ty cs => bi_maxu _ _ w ty cs)) (zp (.convert rfl (cv_23_2b _ (wrap_i64 _ (by omega) (by omega)))) (zf [_, _] rfl Tryz.call116 (C_fOf N (max D 1) (by omega) (by omega) (by omega) (by omega)) ?_))); clear h; rintro v9 Ψ9 ⟨ad9, c9, bd9, d9, rfl, hle9, hlf9, rfl⟩ a w h
  have hl9 := lenQ_of N (max D 1) (by omega) (by omega) (by omega) (by omega)
  refine gL h (zt' rfl rfl (st_3_0_3 _ _ _ _ _ _) uu Tryz.sizeOf56 rfl nb rfl ?_); clear h; intro a w h
  refine wpList_nil (wp_ret ?_)
  refine ret_of (Ψ := [Row ad9 (List.map encn (dg (((N : Int) : Rat) / ((max D 1 : Int) : Rat)).num.natAbs)), Row bd9 (List.map encn (dg ((((N : Int) : Rat) / ((max D 1 : Int) : Rat)).den - 1)))]) h (results1 h rfl (.cell rfl mr Tryz.isAgg56 Tryz.sizeOf56 (rd_3_0_3 _ _ _))) ?_ (by simp)
  unfold qv; exact ⟨ad9, c9, bd9, d9, rfl, hle9, hlf9, rfl⟩
end
section
theorem len_slice_51 (a : Option Addr) (n c : Nat) (w : World) (ty : TypeId) (cs : Array Bool) : (Go.builtin .len #[51] ty cs #[.slice a n c]).run Tryz.prog w = .ok (.value (.int .i64 n)) w := by
  simp [go_sem]
theorem ix_51 (b off n c j : Nat) (h : j < n) (w : World) : (Instr.indexAt 51 (.slice (some ⟨b, off, none⟩) n c) (.int .i64 (j : Int))).run Tryz.prog w = .ok (.pointer (some ⟨b, off + j, none⟩)) w := by
  simpa using indexAt_slice Tryz.runUnderlying51 Tryz.sizeOf3 b off n c j h w
def upQ (q : Rat) : Nat → Rat
  | 0 => q
  | p + 1 => upQ q p * (((p + 1 : Nat) : Int) : Rat)
def downQ (q : Rat) : Nat → Rat
  | 0 => q
  | n + 1 => downQ q n / (((n + 1 : Nat) : Int) : Rat)
def ratioQ (n : Nat) (l : List Nat) : Rat := downQ (l.foldl upQ 1) n
def momentQ (i j k : Nat) : Rat := ((2 : Int) : Rat) * ratioQ (i + j + k + 2) [i, j, k]
theorem lenQ_one : lenQ 1 ≤ 2 := lenQ_int 1 (by omega) (by omega)
end
section
abbrev enci (x : Int) : Value := .int .i64 x
def orI : List Int → Int
  | [] => 0
  | x :: l => if x ≠ 0 then x else orI l
theorem orI_hit : ∀ (l : List Int) (i : Nat), (∀ j, j < i → l.getD j 0 = 0) → i < l.length → l.getD i 0 ≠ 0 → orI l = l.getD i 0
  | [], i, _, h, _ => by simp at h
  | x :: l, 0, _, _, h => by rw [orI]; exact if_pos (by simpa using h)
  | x :: l, i + 1, hz, hl, h => by
    have h0 : x = 0 := by simpa using hz 0 (by omega)
    rw [orI, if_neg (by simp [h0]), orI_hit l i (fun j hj => by simpa using hz (j + 1) (by omega)) (by simpa using hl) (by simpa using h)]
    simp
theorem orI_none : ∀ (l : List Int), (∀ j, j < l.length → l.getD j 0 = 0) → orI l = 0
  | [], _ => rfl
  | x :: l, hz => by
    have h0 : x = 0 := by simpa using hz 0 (by simp)
    rw [orI, if_neg (by simp [h0]), orI_none l (fun j hj => by simpa using hz (j + 1) (by simpa using hj))]
def idxN : List Rat → Nat → Int
  | [], _ => -1
  | x :: l, i => if x.num.sign < 0 then (i : Int) else idxN l (i + 1)
def cfN (E : List Rat) (i k : Nat) : Int := orI [(E.getD k 0 - E.getD i 0).num.sign, cmpZ (i : Int) (k : Int)]
theorem C_Or (ad : Option Addr) (c : Nat) (l : List Int) (hn : l.length ≤ 1000) : CtrW Tryz.prog 151 [.slice ad l.length c] [Row ad (List.map enci l)] (.int .i64 (orI l)) := by
  refine fn_intro Tryz.func151 rfl Tryz.ntmps151 nb ?_
  intro S w0 a hS h
  refine gC h (zs (zr (za rfl (zn (zs (zr (za rfl (zn (zs (zs (zr (zm rfl (zp (.builtin [_] rfl (len_slice_51 _ _ _)) (zm rfl (zn (zb ?_)))))))))))))))); clear h; intro a w h
  refine wp_loop_inv (fun (i : Nat) a w => i ≤ l.length ∧ (∀ j, j < i → l.getD j 0 = 0) ∧ St 18 S w0 [(3, .int .i64 0), (6, .slice ad l.length c), (7, .int .i64 ((l.length : Nat) : Int)), (8, .int .i64 ((i : Nat) : Int))] [] [Row ad (List.map enci l)] a w) (fun i => l.length - i) 0 (⟨Nat.zero_le _, fun j hj => absurd hj (by omega), by exact (h).sub (subL ⟨rfl, rfl, rfl, rfl, trivial⟩)⟩) ?_; clear h
  rintro i a w ⟨hi_i, hinv_i, h⟩
  refine gC h (zs (zr (zp (.lss rfl rfl) (zn (zs ?_))))); clear h; intro a w h
  refine cond_split h rfl (fun hc9 => ?_) (fun hc9 => ?_)
  · skip
    have hlt_i : i < l.length := by have := of_decide_eq_true hc9; omega
    obtain ⟨B_ad, O_ad, rfl⟩ := h.row_addr (ad := ad) (M := List.map enci l) mm (by intro e; have := congrArg List.length e; simp only [List.length_map, List.length_nil] at this; omega)
    refine gC h (zk (zs (zb (zs (zr (zp (.indexAddr rfl rfl (ix_51 _ _ _ _ _ (by omega))) (zD rfl mm (by rw [List.length_map]; omega) Tryz.isAgg3 Tryz.sizeOf3 (read_row (enc := enci) (l := l) 0 (by omega)) (.inr rfl) ?_))))))); clear h; intro a w h
    refine gL h (za rfl (zn (zs (zr (zm rfl (zm rfl (zp (.neq rfl rfl) ?_))))))); clear h; intro a w h
    refine by_bool h (fun hc14 h => ?_) (fun hc14 h => ?_)
    · skip
      refine wpList_nil ?_
      change Code.wp _ _ _ _ _
      refine cond_true h rfl ?_
      refine gC h (zs (zr (zm rfl (za rfl (zn (zt ?_)))))); clear h; intro a w h
      refine retV h (results1 h rfl (.tmp rfl)) ?_
      rw [orI_hit l i hinv_i hlt_i (by simpa using hc14)]
    · skip
      refine wpList_nil ?_
      change Code.wp _ _ _ _ _
      refine cond_false h rfl ?_
      refine gC h (zk (zr (zp (Pure1.cast (v' := (.int .i64 ((i + 1 : Nat) : Int))) (.add rfl rfl) (by show Value.int _ _ = Value.int _ _; congr 1)) (zm rfl (zn ?_))))); clear h; intro a w h
      exact ⟨i + 1, ⟨by omega, fun j hj => by
        rcases Nat.lt_or_ge j i with h1 | h1
        · exact hinv_i j h1
        · rw [show j = i by omega]; simpa using hc14, (h.factsSub (by simp)).sub sA⟩, by omega⟩
  · skip
    have heq_i : l.length = i := by have := of_decide_eq_false hc9; omega
    subst heq_i
    refine gC h (ze (zs (zr (zm rfl (za rfl (zn (zt ?_))))))); clear h; intro a w h
    refine retV h (results1 h rfl (.tmp rfl)) ?_
    rw [orI_none l hinv_i]
end
section
structure Tm where
  i : Nat
  j : Nat
  c : Rat
theorem Tm.ext' {s t : Tm} (h1 : s.i = t.i) (h2 : s.j = t.j) (h3 : s.c = t.c) : s = t := by cases s; cases t; simp_all
instance : DecidableEq Tm := fun s t => decidable_of_iff (s.i = t.i ∧ s.j = t.j ∧ s.c = t.c) ⟨fun h => Tm.ext' h.1 h.2.1 h.2.2, fun h => by rw [h]; exact ⟨rfl, rfl, rfl⟩⟩
def lin (φ : Nat → Nat → Rat) : List Tm → Rat
  | [] => 0
  | t :: l => t.c * φ t.i t.j + lin φ l
theorem lin_nil (φ : Nat → Nat → Rat) : lin φ [] = 0 := rfl
theorem lin_append (φ : Nat → Nat → Rat) : ∀ l m : List Tm, lin φ (l ++ m) = lin φ l + lin φ m
  | [], m => by simp only [List.nil_append, lin]; grind
  | t :: l, m => by simp only [List.cons_append, lin, lin_append φ l m]; grind
theorem lin_perm (φ : Nat → Nat → Rat) {l m : List Tm} (h : l.Perm m) : lin φ l = lin φ m := by
  induction h with
  | nil => rfl
  | cons x _ ih => simp only [lin, ih]
  | swap x y l => simp only [lin]; grind
  | trans _ _ h1 h2 => rw [h1, h2]
theorem lin_congr {φ ψ : Nat → Nat → Rat} : ∀ {l : List Tm}, (∀ t ∈ l, φ t.i t.j = ψ t.i t.j) → lin φ l = lin ψ l
  | [], _ => rfl
  | t :: l, h => by rw [lin, lin, h t List.mem_cons_self, lin_congr (fun s hs => h s (List.mem_cons_of_mem _ hs))]
theorem lin_smul (a : Rat) (φ : Nat → Nat → Rat) : ∀ l : List Tm, lin (fun i j => a * φ i j) l = a * lin φ l
  | [] => by simp only [lin]; grind
  | t :: l => by simp only [lin, lin_smul a φ l]; grind
theorem lin_mulr (a : Rat) (φ : Nat → Nat → Rat) : ∀ l : List Tm, lin (fun i j => φ i j * a) l = lin φ l * a
  | [] => by simp only [lin]; grind
  | t :: l => by simp only [lin, lin_mulr a φ l]; grind
theorem lin_map (φ : Nat → Nat → Rat) (g : Tm → Tm) (ψ : Nat → Nat → Rat) : ∀ l : List Tm, (∀ t ∈ l, (g t).c * φ (g t).i (g t).j = t.c * ψ t.i t.j) → lin φ (l.map g) = lin ψ l
  | [], _ => rfl
  | t :: l, h => by rw [List.map_cons, lin, lin, h t List.mem_cons_self, lin_map φ g ψ l (fun s hs => h s (List.mem_cons_of_mem _ hs))]
theorem lin_flatMap (φ : Nat → Nat → Rat) (g : Tm → List Tm) (ψ : Nat → Nat → Rat) : ∀ l : List Tm, (∀ t ∈ l, lin φ (g t) = t.c * ψ t.i t.j) → lin φ (l.flatMap g) = lin ψ l
  | [], _ => rfl
  | t :: l, h => by rw [List.flatMap_cons, lin_append, lin, h t List.mem_cons_self, lin_flatMap φ g ψ l (fun s hs => h s (List.mem_cons_of_mem _ hs))]
def same (s t : Tm) : Prop := s.i = t.i ∧ s.j = t.j
instance (s t : Tm) : Decidable (same s t) := inferInstanceAs (Decidable (_ ∧ _))
def insT (t : Tm) : List Tm → List Tm
  | [] => [⟨t.i, t.j, 0 + t.c⟩]
  | s :: p => if same s t then ⟨s.i, s.j, s.c + t.c⟩ :: p else s :: insT t p
theorem lin_insT (φ : Nat → Nat → Rat) (t : Tm) : ∀ p : List Tm, lin φ (insT t p) = lin φ p + t.c * φ t.i t.j
  | [] => by simp only [insT, lin]; grind
  | s :: p => by
    rw [insT]
    split
    · rename_i h; obtain ⟨h1, h2⟩ := h; simp only [lin, h1, h2]; grind
    · simp only [lin, lin_insT φ t p]; grind
theorem insT_mem {t u : Tm} : ∀ {p : List Tm}, u ∈ insT t p → same u t ∨ u ∈ p
  | [], h => by simp only [insT, List.mem_singleton] at h; subst h; exact .inl ⟨rfl, rfl⟩
  | s :: p, h => by
    rw [insT] at h
    split at h
    · rename_i h2
      rcases List.mem_cons.1 h with rfl | h
      · exact .inl h2
      · exact .inr (List.mem_cons_of_mem _ h)
    · rcases List.mem_cons.1 h with rfl | h
      · exact .inr List.mem_cons_self
      · exact (insT_mem h).imp id (List.mem_cons_of_mem _)
def dif (p : List Tm) : Prop := p.Pairwise (fun s t => ¬ same s t)
theorem insT_dif (t : Tm) : ∀ {p : List Tm}, dif p → dif (insT t p)
  | [], _ => by rw [insT]; exact List.pairwise_singleton _ _
  | s :: p, h => by
    obtain ⟨h1, h2⟩ := List.pairwise_cons.1 h
    rw [insT]
    split
    · rename_i hs; exact List.pairwise_cons.2 ⟨fun u hu hc => h1 u hu hc, h2⟩
    · rename_i hs
      refine List.pairwise_cons.2 ⟨fun u hu => ?_, insT_dif t h2⟩
      rcases insT_mem hu with h3 | h3
      · exact fun h4 => hs ⟨h4.1.trans h3.1, h4.2.trans h3.2⟩
      · exact h1 u h3
theorem insT_len (t : Tm) : ∀ p : List Tm, (insT t p).length ≤ p.length + 1
  | [] => Nat.le_refl _
  | s :: p => by
    have h := insT_len t p
    rw [insT]; split <;> simp only [List.length_cons] <;> omega
def collect (l : List Tm) : List Tm := l.foldl (fun p t => insT t p) []
theorem collect_gen (φ : Nat → Nat → Rat) : ∀ (l p : List Tm), lin φ (l.foldl (fun p t => insT t p) p) = lin φ p + lin φ l
  | [], p => by simp only [List.foldl_nil, lin]; grind
  | t :: l, p => by rw [List.foldl_cons, collect_gen φ l, lin_insT, lin]; grind
theorem lin_collect (φ : Nat → Nat → Rat) (l : List Tm) : lin φ (collect l) = lin φ l := by
  rw [collect, collect_gen, lin]; grind
theorem collect_dif_gen : ∀ (l : List Tm) {p : List Tm}, dif p → dif (l.foldl (fun p t => insT t p) p)
  | [], p, h => h
  | t :: l, p, h => by rw [List.foldl_cons]; exact collect_dif_gen l (insT_dif t h)
theorem collect_dif (l : List Tm) : dif (collect l) := collect_dif_gen l List.Pairwise.nil
theorem collect_mem_gen {u : Tm} : ∀ (l : List Tm) {p : List Tm}, u ∈ l.foldl (fun p t => insT t p) p → u ∈ p ∨ ∃ t ∈ l, same u t
  | [], p, h => .inl h
  | t :: l, p, h => by
    rw [List.foldl_cons] at h
    rcases collect_mem_gen l h with h1 | ⟨s, hs, h1⟩
    · rcases insT_mem h1 with h2 | h2
      · exact .inr ⟨t, List.mem_cons_self, h2⟩
      · exact .inl h2
    · exact .inr ⟨s, List.mem_cons_of_mem _ hs, h1⟩
theorem collect_mem {l : List Tm} {u : Tm} (h : u ∈ collect l) : ∃ t ∈ l, same u t := by
  rcases collect_mem_gen l h with h | h
  · cases h
  · exact h
theorem collect_len_gen : ∀ (l p : List Tm), (l.foldl (fun p t => insT t p) p).length ≤ p.length + l.length
  | [], p => Nat.le_refl _
  | t :: l, p => by rw [List.foldl_cons]; have := collect_len_gen l (insT t p); have := insT_len t p; simp only [List.length_cons]; omega
theorem collect_len (l : List Tm) : (collect l).length ≤ l.length := by have := collect_len_gen l []; simpa [collect] using this
def ltT (s t : Tm) : Bool := decide (s.i + s.j < t.i + t.j ∨ (s.i + s.j = t.i + t.j ∧ s.j < t.j))
theorem ltT_iff (s t : Tm) : ltT s t = true ↔ (s.i + s.j < t.i + t.j ∨ (s.i + s.j = t.i + t.j ∧ s.j < t.j)) := decide_eq_true_iff
theorem ltT_irrefl (s : Tm) : ltT s s = false := by rw [Bool.eq_false_iff, Ne, ltT_iff]; omega
theorem ltT_trans {s t u : Tm} (h1 : ltT s t = true) (h2 : ltT t u = true) : ltT s u = true := by rw [ltT_iff] at *; omega
theorem ltT_ntrans {s t u : Tm} (h1 : ltT s t = false) (h2 : ltT t u = false) : ltT s u = false := by rw [Bool.eq_false_iff, Ne, ltT_iff] at *; omega
theorem ltT_total {s t : Tm} (h1 : ltT s t = false) (h2 : ltT t s = false) : same s t := by
  rw [Bool.eq_false_iff, Ne, ltT_iff] at *; unfold same; omega
def Nrm (p : List Tm) : Prop := (∀ t ∈ p, t.c ≠ 0) ∧ p.Pairwise (fun s t => ltT s t = true)
def norm (l : List Tm) : List Tm := ((collect l).filter (fun t => decide (t.c ≠ 0))).mergeSort (fun s t => !ltT t s)
theorem lin_filter (φ : Nat → Nat → Rat) : ∀ l : List Tm, lin φ (l.filter (fun t => decide (t.c ≠ 0))) = lin φ l
  | [] => rfl
  | t :: l => by
    rw [List.filter_cons]
    split
    · rw [lin, lin, lin_filter φ l]
    · rename_i h
      have h0 : t.c = 0 := by simpa using h
      rw [lin, lin_filter φ l, h0]; grind
theorem lin_norm (φ : Nat → Nat → Rat) (l : List Tm) : lin φ (norm l) = lin φ l := by
  rw [norm, lin_perm φ (List.mergeSort_perm _ _), lin_filter, lin_collect]
theorem norm_mem {l : List Tm} {u : Tm} (h : u ∈ norm l) : u ∈ collect l ∧ u.c ≠ 0 := by
  have := (List.mergeSort_perm _ _).mem_iff.1 h
  rw [List.mem_filter] at this
  exact ⟨this.1, by simpa using this.2⟩
theorem norm_nrm (l : List Tm) : Nrm (norm l) := by
  refine ⟨fun t ht => (norm_mem ht).2, ?_⟩
  have hd : dif (norm l) := by
    have h1 : dif ((collect l).filter (fun t => decide (t.c ≠ 0))) := List.Pairwise.filter _ (collect_dif l)
    refine (List.Perm.pairwise_iff (fun {x y} h h2 => h ⟨h2.1.symm, h2.2.symm⟩) (List.mergeSort_perm _ _)).2 h1
  have hs := List.pairwise_mergeSort (le := fun s t => !ltT t s) (fun a b c h1 h2 => by
      simp only [Bool.not_eq_true'] at *
      exact ltT_ntrans h2 h1) (fun a b => by
      rcases h : ltT b a with _ | _
      · simp
      · have : ltT a b = false := by rw [Bool.eq_false_iff]; intro h2; have := ltT_trans h h2; rw [ltT_irrefl] at this; cases this
        simp [this]) ((collect l).filter (fun t => decide (t.c ≠ 0)))
  refine List.Pairwise.imp₂ (fun s t h1 h2 => ?_) hs hd
  rcases h : ltT s t with _ | _
  · exact absurd (ltT_total h (by simpa using h1)) h2
  · rfl
def at0 (a b : Nat) : Nat → Nat → Rat := fun i j => if i = a ∧ j = b then 1 else 0
theorem lin_at0_none {a b : Nat} : ∀ {l : List Tm}, (∀ t ∈ l, ¬ (t.i = a ∧ t.j = b)) → lin (at0 a b) l = 0
  | [], _ => rfl
  | t :: l, h => by
    rw [lin, lin_at0_none (fun s hs => h s (List.mem_cons_of_mem _ hs)), at0, if_neg (h t List.mem_cons_self)]; grind
theorem nrm_tail {t : Tm} {p : List Tm} (h : Nrm (t :: p)) : Nrm p := ⟨fun s hs => h.1 s (List.mem_cons_of_mem _ hs), (List.pairwise_cons.1 h.2).2⟩
theorem nrm_head {t : Tm} {p : List Tm} (h : Nrm (t :: p)) : lin (at0 t.i t.j) (t :: p) = t.c := by
  rw [lin, lin_at0_none (fun s hs => ?_), at0, if_pos ⟨rfl, rfl⟩]
  · grind
  · have := (List.pairwise_cons.1 h.2).1 s hs
    rw [ltT_iff] at this; omega
theorem nrm_less {s t : Tm} {q : List Tm} (h : ltT s t = true) (hq : Nrm (t :: q)) : lin (at0 s.i s.j) (t :: q) = 0 := by
  refine lin_at0_none (fun u hu => ?_)
  have hu' : ltT s u = true := by
    rcases List.mem_cons.1 hu with rfl | hu
    · exact h
    · exact ltT_trans h ((List.pairwise_cons.1 hq.2).1 u hu)
  rw [ltT_iff] at hu'; omega
theorem nrm_ext : ∀ {p q : List Tm}, Nrm p → Nrm q → (∀ φ, lin φ p = lin φ q) → p = q
  | [], [], _, _, _ => rfl
  | [], t :: q, _, hq, h => by
    have h1 := h (at0 t.i t.j)
    rw [nrm_head hq, lin_nil] at h1
    exact absurd h1.symm (hq.1 t List.mem_cons_self)
  | s :: p, [], hp, _, h => by
    have h1 := h (at0 s.i s.j)
    rw [nrm_head hp, lin_nil] at h1
    exact absurd h1 (hp.1 s List.mem_cons_self)
  | s :: p, t :: q, hp, hq, h => by
    have hst : same s t := by
      refine ltT_total ?_ ?_
      · rw [Bool.eq_false_iff]; intro hc
        have h1 := h (at0 s.i s.j)
        rw [nrm_head hp, nrm_less hc hq] at h1
        exact hp.1 s List.mem_cons_self h1
      · rw [Bool.eq_false_iff]; intro hc
        have h1 := h (at0 t.i t.j)
        rw [nrm_head hq, nrm_less hc hp] at h1
        exact hq.1 t List.mem_cons_self h1.symm
    have hc : s.c = t.c := by
      have h1 := h (at0 s.i s.j)
      rw [nrm_head hp, hst.1, hst.2, nrm_head hq] at h1
      exact h1
    have e := Tm.ext' hst.1 hst.2 hc
    subst e
    rw [nrm_ext (nrm_tail hp) (nrm_tail hq) (fun φ => by have := h φ; rw [lin, lin] at this; grind)]
theorem norm_eq {l m : List Tm} (h : ∀ φ, lin φ l = lin φ m) : norm l = norm m :=
  nrm_ext (norm_nrm l) (norm_nrm m) (fun φ => by rw [lin_norm, lin_norm, h])
theorem norm_id {p : List Tm} (h : Nrm p) : norm p = p := nrm_ext (norm_nrm p) h (fun φ => lin_norm φ p)
theorem norm_norm (l : List Tm) : norm (norm l) = norm l := norm_id (norm_nrm l)
end
section
theorem qpow_add (x : Rat) (m : Nat) : ∀ n : Nat, x ^ (m + n) = x ^ m * x ^ n
  | 0 => by rw [Nat.add_zero, Rat.pow_zero]; grind
  | n + 1 => by rw [← Nat.add_assoc, Rat.pow_succ, Rat.pow_succ, qpow_add x m n]; grind
theorem qmul_pow (x y : Rat) : ∀ n : Nat, (x * y) ^ n = x ^ n * y ^ n
  | 0 => by rw [Rat.pow_zero, Rat.pow_zero, Rat.pow_zero]; grind
  | n + 1 => by rw [Rat.pow_succ, Rat.pow_succ, Rat.pow_succ, qmul_pow x y n]; grind
theorem qone_pow : ∀ n : Nat, (1 : Rat) ^ n = 1
  | 0 => Rat.pow_zero _
  | n + 1 => by rw [Rat.pow_succ, qone_pow n]; grind
def evP (l : List Tm) (x y : Rat) : Rat := lin (fun i j => x ^ i * y ^ j) l
def mulL (a b : List Tm) : List Tm := a.flatMap (fun s => b.map (fun t => ⟨s.i + t.i, s.j + t.j, s.c * t.c⟩))
theorem lin_mulL (φ : Nat → Nat → Rat) (a b : List Tm) : lin φ (mulL a b) = lin (fun i j => lin (fun p q => φ (i + p) (j + q)) b) a := by
  unfold mulL
  refine lin_flatMap φ _ _ a (fun s _ => ?_)
  rw [lin_map φ _ (fun p q => s.c * φ (s.i + p) (s.j + q)) b (fun t _ => by simp only; grind), lin_smul]
theorem ev_mulL (a b : List Tm) (x y : Rat) : evP (mulL a b) x y = evP a x y * evP b x y := by
  unfold evP
  rw [lin_mulL, ← lin_mulr]
  refine lin_congr (fun s _ => ?_)
  rw [← lin_smul]
  refine lin_congr (fun t _ => ?_)
  rw [qpow_add, qpow_add]; grind
def powL (p : List Tm) : Nat → List Tm
  | 0 => [⟨0, 0, 1⟩]
  | n + 1 => mulL (powL p n) p
theorem ev_powL (p : List Tm) (x y : Rat) : ∀ n, evP (powL p n) x y = evP p x y ^ n
  | 0 => by rw [powL, evP, lin, lin, Rat.pow_zero, Rat.pow_zero, Rat.pow_zero]; grind
  | n + 1 => by rw [powL, ev_mulL, ev_powL p x y n, Rat.pow_succ]
theorem ev_append (l m : List Tm) (x y : Rat) : evP (l ++ m) x y = evP l x y + evP m x y := lin_append _ _ _
def scaleL (c : Rat) (l : List Tm) : List Tm := l.map (fun t => ⟨t.i, t.j, c * t.c⟩)
theorem lin_scaleL (φ : Nat → Nat → Rat) (c : Rat) (l : List Tm) : lin φ (scaleL c l) = c * lin φ l := by
  unfold scaleL
  rw [← lin_smul]
  exact lin_map φ _ _ l (fun t _ => by simp only; grind)
theorem ev_scaleL (c : Rat) (l : List Tm) (x y : Rat) : evP (scaleL c l) x y = c * evP l x y := lin_scaleL _ _ _
def sbL (X Y : List Tm) (l : List Tm) : List Tm := l.flatMap (fun t => scaleL t.c (mulL (powL X t.i) (powL Y t.j)))
theorem lin_sbL (φ : Nat → Nat → Rat) (X Y l : List Tm) : lin φ (sbL X Y l) = lin (fun i j => lin φ (mulL (powL X i) (powL Y j))) l := by
  unfold sbL
  exact lin_flatMap φ _ _ l (fun t _ => by rw [lin_scaleL])
theorem ev_sbL (X Y l : List Tm) (x y : Rat) : evP (sbL X Y l) x y = evP l (evP X x y) (evP Y x y) := by
  unfold evP
  rw [lin_sbL]
  refine lin_congr (fun t _ => ?_)
  have := ev_mulL (powL X t.i) (powL Y t.j) x y
  rw [ev_powL, ev_powL] at this
  exact this
def dxL (l : List Tm) : List Tm := l.map (fun t => ⟨t.i - 1, t.j, t.c * ((t.i : Int) : Rat)⟩)
def dyL (l : List Tm) : List Tm := l.map (fun t => ⟨t.i, t.j - 1, t.c * ((t.j : Int) : Rat)⟩)
theorem lin_dxL (φ : Nat → Nat → Rat) (l : List Tm) : lin φ (dxL l) = lin (fun i j => ((i : Int) : Rat) * φ (i - 1) j) l :=
  lin_map φ _ _ l (fun t _ => by simp only; grind)
theorem lin_dyL (φ : Nat → Nat → Rat) (l : List Tm) : lin φ (dyL l) = lin (fun i j => ((j : Int) : Rat) * φ i (j - 1)) l :=
  lin_map φ _ _ l (fun t _ => by simp only; grind)
theorem cast_add (a b : Nat) : (((a + b : Nat) : Int) : Rat) = ((a : Int) : Rat) + ((b : Int) : Rat) := by
  rw [Int.natCast_add, Rat.intCast_add]
theorem cast_zero : (((0 : Nat) : Int) : Rat) = 0 := rfl
theorem cast_one : (((1 : Nat) : Int) : Rat) = 1 := rfl
def Eqv (l m : List Tm) : Prop := ∀ φ, lin φ l = lin φ m
theorem Eqv.rfl' {l : List Tm} : Eqv l l := fun _ => rfl
theorem Eqv.symm {l m : List Tm} (h : Eqv l m) : Eqv m l := fun φ => (h φ).symm
theorem Eqv.trans {l m k : List Tm} (h : Eqv l m) (h2 : Eqv m k) : Eqv l k := fun φ => (h φ).trans (h2 φ)
theorem Eqv.nrm (l : List Tm) : Eqv (norm l) l := fun φ => lin_norm φ l
theorem Eqv.mul {a b a' b' : List Tm} (h : Eqv a a') (h2 : Eqv b b') : Eqv (mulL a b) (mulL a' b') := fun φ => by
  rw [lin_mulL, lin_mulL, h]
  exact lin_congr (fun s _ => h2 _)
theorem Eqv.append {a b a' b' : List Tm} (h : Eqv a a') (h2 : Eqv b b') : Eqv (a ++ b) (a' ++ b') := fun φ => by rw [lin_append, lin_append, h, h2]
theorem Eqv.scale {a a' : List Tm} (c : Rat) (h : Eqv a a') : Eqv (scaleL c a) (scaleL c a') := fun φ => by rw [lin_scaleL, lin_scaleL, h]
theorem Eqv.dx {a a' : List Tm} (h : Eqv a a') : Eqv (dxL a) (dxL a') := fun φ => by rw [lin_dxL, lin_dxL, h]
theorem Eqv.dy {a a' : List Tm} (h : Eqv a a') : Eqv (dyL a) (dyL a') := fun φ => by rw [lin_dyL, lin_dyL, h]
theorem Eqv.pow {a a' : List Tm} (h : Eqv a a') : ∀ n, Eqv (powL a n) (powL a' n)
  | 0 => Eqv.rfl'
  | n + 1 => (Eqv.pow h n).mul h
theorem Eqv.sub {X Y l X' Y' l' : List Tm} (hX : Eqv X X') (hY : Eqv Y Y') (h : Eqv l l') : Eqv (sbL X Y l) (sbL X' Y' l') := fun φ => by
  rw [lin_sbL, lin_sbL, h]
  exact lin_congr (fun s _ => ((hX.pow _).mul (hY.pow _)) φ)
theorem Eqv.val {l m : List Tm} (h : Eqv l m) (x y : Rat) : evP l x y = evP m x y := h _
def pv (a : Nat → Rat) (x : Rat) : Nat → Rat
  | 0 => 0
  | n + 1 => pv a x n + a n * x ^ n
theorem pv_scale (a : Nat → Rat) (x c d : Rat) : ∀ n, pv a (c * x) n - d * pv a x n = pv (fun k => a k * (c ^ k - d)) x n
  | 0 => by simp only [pv]; grind
  | n + 1 => by
    have h := pv_scale a x c d n
    have e : (c * x) ^ n = c ^ n * x ^ n := qmul_pow c x n
    simp only [pv, e]; grind
theorem two_pow_lt : ∀ k n : Nat, k < n → (2 : Rat) ^ k - 2 ^ n ≠ 0 := by
  have hp : ∀ k : Nat, (0 : Rat) < 2 ^ k := fun k => by
    induction k with
    | zero => rw [Rat.pow_zero]; decide
    | succ k ih => rw [Rat.pow_succ]; grind
  have key : ∀ k d : Nat, (2 : Rat) ^ k < 2 ^ (k + d + 1) := fun k d => by
    induction d with
    | zero => rw [Rat.pow_succ]; have := hp k; have e : (2 : Rat) ^ (k + 0) = 2 ^ k := rfl; grind
    | succ d ih =>
      have h2 := hp (k + d + 1)
      rw [show k + (d + 1) + 1 = (k + d + 1) + 1 by omega, Rat.pow_succ]; grind
  intro k n h
  have := key k (n - k - 1)
  rw [show k + (n - k - 1) + 1 = n by omega] at this
  grind
theorem pv_zero : ∀ (n : Nat) (a : Nat → Rat), (∀ x, pv a x n = 0) → ∀ k, k < n → a k = 0
  | 0, _, _, k, hk => absurd hk (Nat.not_lt_zero _)
  | n + 1, a, h, k, hk => by
    have hb : ∀ x, pv (fun k => a k * (2 ^ k - 2 ^ n)) x n = 0 := fun x => by
      rw [← pv_scale a x 2 (2 ^ n) n]
      have h1 := h (2 * x)
      have h2 := h x
      rw [pv] at h1 h2
      have e : (2 * x) ^ n = 2 ^ n * x ^ n := qmul_pow 2 x n
      rw [e] at h1
      grind
    have low : ∀ k, k < n → a k = 0 := fun k hk => by
      have h1 := pv_zero n _ hb k hk
      rcases Rat.mul_eq_zero.1 h1 with h2 | h2
      · exact h2
      · exact absurd h2 (two_pow_lt k n hk)
    rcases Nat.lt_or_ge k n with h1 | h1
    · exact low k h1
    · have e : k = n := by omega
      subst e
      have z : ∀ m, m ≤ k → pv a 1 m = 0 := fun m => by
        induction m with
        | zero => intro _; rfl
        | succ m ih => intro hm; rw [pv, ih (by omega), low m (by omega)]; grind
      have h1 := h 1
      rw [pv, z k (Nat.le_refl _)] at h1
      have e1 : (1 : Rat) ^ k = 1 := qone_pow k
      rw [e1] at h1
      grind
theorem pv_add (a b : Nat → Rat) (x : Rat) : ∀ n, pv (fun k => a k + b k) x n = pv a x n + pv b x n
  | 0 => by simp only [pv]; grind
  | n + 1 => by simp only [pv, pv_add a b x n]; grind
theorem pv_none {a : Nat → Rat} (x : Rat) : ∀ {n}, (∀ k, k < n → a k = 0) → pv a x n = 0
  | 0, _ => rfl
  | n + 1, h => by rw [pv, h n (Nat.lt_succ_self _), pv_none x (fun k hk => h k (Nat.lt_succ_of_lt hk))]; grind
theorem pv_one {a : Nat → Rat} (x : Rat) (m : Nat) : ∀ {n}, m < n → (∀ k, k ≠ m → a k = 0) → pv a x n = a m * x ^ m
  | 0, h, _ => absurd h (Nat.not_lt_zero _)
  | n + 1, h, h2 => by
    rw [pv]
    rcases Nat.lt_or_ge m n with h3 | h3
    · rw [pv_one x m h3 h2, h2 n (by omega)]; grind
    · have e : m = n := by omega
      subst e
      rw [pv_none x (fun k hk => h2 k (by omega))]; grind
def topE : List Tm → Nat
  | [] => 0
  | t :: l => max (max (t.i + 1) (t.j + 1)) (topE l)
theorem top_mem {t : Tm} : ∀ {l : List Tm}, t ∈ l → t.i < topE l ∧ t.j < topE l
  | s :: l, h => by
    rw [topE]
    rcases List.mem_cons.1 h with rfl | h
    · omega
    · have := top_mem h; omega
theorem ev_pv (x y : Rat) (n : Nat) : ∀ l : List Tm, (∀ t ∈ l, t.i < n ∧ t.j < n) → evP l x y = pv (fun i => pv (fun j => lin (at0 i j) l) y n) x n
  | [], _ => by
    exact (pv_none x (fun k _ => pv_none y (fun m _ => rfl))).symm
  | t :: l, h => by
    have ih := ev_pv x y n l (fun s hs => h s (List.mem_cons_of_mem _ hs))
    have ht := h t List.mem_cons_self
    have e : (fun i => pv (fun j => lin (at0 i j) (t :: l)) y n) = (fun i => pv (fun j => t.c * at0 i j t.i t.j) y n + pv (fun j => lin (at0 i j) l) y n) := by
      funext i; rw [← pv_add]; rfl
    rw [e, pv_add, ← ih]
    have e2 : pv (fun i => pv (fun j => t.c * at0 i j t.i t.j) y n) x n = t.c * (x ^ t.i * y ^ t.j) := by
      rw [pv_one x t.i ht.1 (fun k hk => pv_none y (fun m _ => by rw [at0, if_neg (fun hc => hk hc.1.symm)]; grind)),
        pv_one y t.j ht.2 (fun m hm => by rw [at0, if_neg (fun hc => hm hc.2.symm)]; grind), at0, if_pos ⟨rfl, rfl⟩]
      grind
    rw [e2]; rfl
theorem coef_zero {l : List Tm} (h : ∀ x y, evP l x y = 0) (a b : Nat) : lin (at0 a b) l = 0 := by
  by_cases hab : a < topE l ∧ b < topE l
  · have h1 : ∀ y i, i < topE l → pv (fun j => lin (at0 i j) l) y (topE l) = 0 := fun y =>
      pv_zero (topE l) _ (fun x => by rw [← ev_pv x y (topE l) l (fun t ht => top_mem ht), h x y])
    exact pv_zero (topE l) _ (fun y => h1 y a hab.1) b hab.2
  · exact lin_at0_none (fun t ht hc => hab (by have := top_mem ht; rw [hc.1, hc.2] at this; exact this))
theorem eqv_zero {l : List Tm} (h : ∀ a b, lin (at0 a b) l = 0) : ∀ φ, lin φ l = 0 := by
  intro φ
  rw [← lin_norm]
  have hn := norm_nrm l
  rcases hl : norm l with _ | ⟨t, p⟩
  · rfl
  · rw [hl] at hn
    have h1 := nrm_head hn
    rw [← hl, lin_norm, h] at h1
    exact absurd h1.symm (hn.1 t List.mem_cons_self)
theorem Eqv.of_ev {l m : List Tm} (h : ∀ x y, evP l x y = evP m x y) : Eqv l m := by
  have h1 : ∀ x y, evP (l ++ scaleL (-1) m) x y = 0 := fun x y => by rw [ev_append, ev_scaleL, h]; grind
  intro φ
  have := eqv_zero (coef_zero h1) φ
  rw [lin_append, lin_scaleL] at this
  grind
end
section
def ln (a b c : Rat) : List Tm := [⟨1, 0, a⟩, ⟨0, 1, b⟩, ⟨0, 0, c⟩]
theorem ev_ln (a b c x y : Rat) : evP (ln a b c) x y = a * x + b * y + c := by
  simp only [evP, ln, lin]; rw [Rat.pow_zero, Rat.pow_zero, Rat.pow_succ, Rat.pow_succ, Rat.pow_zero, Rat.pow_zero]; grind
def shL (p : List Tm) (ax bx cx ay by' cy : Rat) : List Tm := sbL (ln ax bx cx) (ln ay by' cy) p
theorem ev_shL (p : List Tm) (ax bx cx ay b cy x y : Rat) : evP (shL p ax bx cx ay b cy) x y = evP p (ax * x + bx * y + cx) (ay * x + b * y + cy) := by
  rw [shL, ev_sbL, ev_ln, ev_ln]
def lam (i j : Nat) : Rat := ((1 : Int) : Rat) / (((i + 1 : Nat) : Int) : Rat)
def bt : Nat → Nat → Rat
  | 0, j => lam j 0
  | i + 1, j => bt i j - bt i (j + 1)
def mu (i j : Nat) : Rat := bt (i + 1) j / (((i + 1 : Nat) : Int) : Rat)
def W1 : List Tm := [⟨0, 0, 1⟩, ⟨1, 0, -1⟩]
def X1 : List Tm := [⟨1, 0, 1⟩]
abbrev Pt := Rat × Rat
def twQ (a b c : Pt) : Rat := (b.1 - a.1) * (c.2 - a.2) - (c.1 - a.1) * (b.2 - a.2)
def segQ (p : List Tm) (a b : Pt) : Rat := lin lam (shL p (b.1 - a.1) 0 a.1 (b.2 - a.2) 0 a.2)
def triQ (p : List Tm) (a b c : Pt) : Rat := twQ a b c * lin mu (shL p (b.1 - a.1) (c.1 - a.1) a.1 (b.2 - a.2) (c.2 - a.2) a.2)
def flowQ (g h : List Tm) (a b : Pt) : Rat := (b.2 - a.2) * segQ g a b - (b.1 - a.1) * segQ h a b
end
section
theorem triQ_eqv {p q : List Tm} (h : Eqv p q) (a b c : Pt) : triQ p a b c = triQ q a b c := by
  unfold triQ shL; rw [(Eqv.sub Eqv.rfl' Eqv.rfl' h) mu]
def prL (p : List Tm) : List Tm := p.map (fun t => ⟨t.i + 1, t.j, t.c / (((t.i + 1 : Nat) : Int) : Rat)⟩)
def fanQ (p : List Tm) (a : Pt) : List Pt → Rat
  | b :: c :: l => triQ p a b c + fanQ p a (c :: l)
  | _ => 0
def pathQ (f : Pt → Pt → Rat) : List Pt → Rat
  | a :: b :: l => f a b + pathQ f (b :: l)
  | _ => 0
def cycQ (f : Pt → Pt → Rat) : List Pt → Rat
  | [] => 0
  | a :: l => pathQ f (a :: l ++ [a])
def polyQ (p : List Tm) : List Pt → Rat
  | [] => 0
  | a :: l => fanQ p a l
end
end Go.Proofs.YtddhlkfpdjmplaaGreatDoor
