/- Walks of functions. By an AI agent. -/
import Derived.Test.YtgkicbaomcmfoaaGreatDoorFracs2
import Derived.Test.YtgkicbaomcmfoaaGreatDoorFxC
set_option linter.unusedVariables false
set_option linter.unusedSimpArgs false
set_option maxRecDepth 4000
namespace Go.Proofs.YtgkicbaomcmfoaaGreatDoor
open Go Go.Proofs Go.Fx Tryz
attribute [local irreducible] Oper.wp Code.wp wpList Fx.Head wpOp
section
theorem Zuz (x : ByteArray) (lo hi : Nat) (h1 : lo ≤ hi) (h2 : hi ≤ x.size) (w : World) : (Instr.sliceAt 9 (.string x) (some (.int .i64 (lo : Int))) (some (.int .i64 (hi : Int))) none).run Tryz.prog w = .ok (.string (x.extract lo hi)) w := Zok runUnderlying9 x lo hi h1 h2 w
theorem Qe0 (x : Int) (w : World) : (Go.convert 45 3 (.int .u64 x)).run Tryz.prog w = .ok (.int .i64 (IntKind.i64.wrap x)) w := by
 simp [go_sem]
theorem Ze6 (x : Int) (h0 : IntKind.i64.wrap x = x) (w : World) : (Go.convert 45 3 (.int .u64 x)).run Tryz.prog w = .ok (.int .i64 x) w := by
 rw [Qe0, h0]
def Ziy (n : Nat) : ByteArray := if n < 10 then ⟨#[UInt8.ofNat (48 + n)]⟩ else ⟨#[UInt8.ofNat (48 + n / 10), UInt8.ofNat (48 + n % 10)]⟩
def Zoh (z : Int) : ByteArray := if z < 0 then ⟨#[45]⟩ ++ Ziy z.natAbs else Ziy z.natAbs
def Zdy (x : Rat) : ByteArray := if x.den = 1 then Zoh x.num else Zoh x.num ++ ⟨#[47]⟩ ++ Ziy x.den
def textU (l : List Rat) : Nat → ByteArray
 | 0 => ⟨#[]⟩
 | i + 1 => (if 0 < i then textU l i ++ ⟨#[32]⟩ else textU l i) ++ Zdy (l.getD i 0)
theorem Zbv (n : Nat) : (Ziy n).size ≤ 2 := by unfold Ziy; split <;> simp [ByteArray.size]
theorem Zfl (z : Int) : (Zoh z).size ≤ 3 := by
 unfold Zoh; have := Zbv z.natAbs
 split
 ·
  rw [ByteArray.size_append]; have : (ByteArray.mk #[45]).size = 1 := rfl
  omega
 · omega
theorem Zsw (x : Rat) : (Zdy x).size ≤ 6 := by
 unfold Zdy; have := Zbv x.den; have := Zfl x.num
 split
 · omega
 ·
  rw [ByteArray.size_append, ByteArray.size_append]; have : (ByteArray.mk #[47]).size = 1 := rfl
  omega
def tab1 : ByteArray := ⟨#[48, 49, 50, 51, 52, 53, 54, 55, 56, 57, 97, 98, 99, 100, 101, 102, 103, 104, 105, 106, 107, 108, 109, 110, 111, 112, 113, 114, 115, 116, 117, 118, 119, 120, 121, 122]⟩
def tab2 : ByteArray := ⟨#[48, 48, 48, 49, 48, 50, 48, 51, 48, 52, 48, 53, 48, 54, 48, 55, 48, 56, 48, 57, 49, 48, 49, 49, 49, 50, 49, 51, 49, 52, 49, 53, 49, 54, 49, 55, 49, 56, 49, 57, 50, 48, 50, 49, 50, 50, 50, 51, 50, 52, 50, 53, 50, 54, 50, 55, 50, 56, 50, 57, 51, 48, 51, 49, 51, 50, 51, 51, 51, 52, 51, 53, 51, 54, 51, 55, 51, 56, 51, 57, 52, 48, 52, 49, 52, 50, 52, 51, 52, 52, 52, 53, 52, 54, 52, 55, 52, 56, 52, 57, 53, 48, 53, 49, 53, 50, 53, 51, 53, 52, 53, 53, 53, 54, 53, 55, 53, 56, 53, 57, 54, 48, 54, 49, 54, 50, 54, 51, 54, 52, 54, 53, 54, 54, 54, 55, 54, 56, 54, 57, 55, 48, 55, 49, 55, 50, 55, 51, 55, 52, 55, 53, 55, 54, 55, 55, 55, 56, 55, 57, 56, 48, 56, 49, 56, 50, 56, 51, 56, 52, 56, 53, 56, 54, 56, 55, 56, 56, 56, 57, 57, 48, 57, 49, 57, 50, 57, 51, 57, 52, 57, 53, 57, 54, 57, 55, 57, 56, 57, 57]⟩
theorem Qde (i : Nat) (h : i < 10) : tab1.extract i (i + 1) = Ziy i := by
 have : ∀ i, i < 10 → tab1.extract i (i + 1) = Ziy i := by decide +kernel
 exact this i h
theorem Qdd (i : Nat) (h0 : ¬ i < 10) (h : i < 100) : tab2.extract (i * 2) (i * 2 + 2) = Ziy i := by
 have : ∀ i, i < 100 → ¬ i < 10 → tab2.extract (i * 2) (i * 2 + 2) = Ziy i := by decide +kernel
 exact this i h h0
theorem Zx9 (n : Nat) (hlt : n < 100) : Xl Tryz.prog 182 [.int .i64 ((n : Nat) : Int)] (.string (Ziy n)) := by
 refine fn_intro func182 rfl ntmps182 nb ?_
 intro S w0 a hS h
 refine gC h (zS (za rfl (zn (zs (zS (zm rfl (zp (.lss rfl rfl) (zn ?_)))))))); clear h; intro a w h
 refine cW ?_
 refine Zb h rfl (fun hc4 => ?_) (fun hc4 => ?_)
 ·
  skip
  have hn : n < 10 := dT hc4
  refine gC h (zS (zm rfl (zm rfl (zp (.pN (n + 1) (.add rfl rfl)) (zp (.slice rfl (some _) (some _) none rfl rfl rfl (Zuz _ _ _ (by first | omega | (show n + 1 ≤ 36; omega)) (by first | omega | (show n + 1 ≤ 36; omega)))) (za rfl (zn (zt ?_)))))))); clear h; intro a w h
  refine Jk h (Zd h rfl (.tmp rfl)) ?_
  exact congrArg _ (Qde n hn)
 ·
  skip
  have hn : ¬ n < 10 := dF hc4
  refine gC h (zk (zS (zm rfl (zp (.pN (n * 2) (.mul rfl rfl)) (zm rfl (zp (.pN (n * 2) (.mul rfl rfl)) (zp (.pN ((n * 2) + 2) (.add rfl rfl)) (zp (.slice rfl (some _) (some _) none rfl rfl rfl (Zuz _ _ _ (by first | omega | (show n * 2 + 2 ≤ 200; omega)) (by first | omega | (show n * 2 + 2 ≤ 200; omega)))) (za rfl (zn (zt ?_))))))))))); clear h; intro a w h
  refine Jk h (Zd h rfl (.tmp rfl)) ?_
  exact congrArg _ (Qdd n hn hlt)
theorem C_iFU (n : Nat) (hlt : n < 100) : Xl Tryz.prog 134 [.int .u64 (n : Int), .int .i64 10] (.string (Ziy n)) := by
 refine fn_intro func134 rfl ntmps134 nb ?_
 intro S w0 a hS h
 refine gC h (zS (za rfl (zn (zs (zS (zm rfl (zp (.eql rfl rfl) (zn ?_)))))))); clear h; intro a w h
 refine cW ?_
 refine Zb h rfl (fun hc10 => ?_) (fun hc10 => (absurd hc10 dd))
 refine gC h (zs (zS (zm rfl (zp (.lss rfl rfl) (zn ?_))))); clear h; intro a w h
 refine cW ?_
 refine Zb h rfl (fun hc12 => ?_) (fun hc12 => (by exfalso; have := of_decide_eq_false hc12; omega))
 refine gC h (zS (zm rfl (zp (.convert rfl (Ze6 _ (wrap_i64 _ oo oo))) (zv [_] rfl call182 (Zx9 n hlt) (za rfl (zn (zt ?_))))))); clear h; intro a w h
 exact Zeh h
theorem C_FU (n : Nat) (hlt : n < 100) : Xl Tryz.prog 91 [.int .u64 (n : Int), .int .i64 10] (.string (Ziy n)) := by
 refine fn_intro func91 rfl ntmps91 nb ?_
 intro S w0 a hS h
 refine gC h (zS (za rfl (zn (zS (zm rfl (zm rfl (zv [_, _] rfl call134 (C_iFU n hlt) (za rfl (zn (zt ?_)))))))))); clear h; intro a w h
 exact Zeh h
theorem Zpx (n : Nat) (hlt : n < 100) : Xl Tryz.prog 56 [Xk n] (.string (Ziy n)) := by
 refine fn_intro func56 rfl ntmps56 nb ?_
 intro S w0 a hS h
 refine gC h (zS (zx rfl fun b1 => za rfl (zn (zs (zS (zp (.fA rfl Yn) (zd rfl mr isAgg9 sizeOf9 Jy ?_)))))))
 refine zp (.binOp rfl rfl (fun _ => Jv _ _ _ _ _)) (zn ?_); intro a w h
 refine cW ?_
 refine Zb h rfl (fun hc10 => ?_) (fun hc10 => (by exfalso; have hb : Va n = ⟨#[]⟩ := Yk oo; rw [hb] at hc10; exact absurd hc10 dd))
 refine gC h (zS (zp (.fA rfl Yf) (zd rfl mr isAgg45 sizeOf45 Jn ?_))); clear h; intro a w h
 rw [Zw (show n < 18446744073709551616 by omega)] at h
 refine gL h (zv [_, _] rfl call91 (C_FU n hlt) (za rfl (zn (zt ?_)))); clear h; intro a w h
 exact Zeh h
theorem Zyl (z : Int) (hz : z.natAbs < 100) : Xl Tryz.prog 55 [encZ z] (.string (Zoh z)) := by
 refine fn_intro func55 rfl ntmps55 nb ?_
 intro S w0 a hS h
 refine gC h (zS (zx rfl fun b1 => za rfl (zn (zs (zS (zp (.fA rfl Zbc) (zd rfl mr isAgg4 sizeOf4 Gh ?_))))))); clear h; intro a w h
 refine wpList_nil ?_
 refine cW ?_
 refine Zb h rfl (fun hc4 => ?_) (fun hc4 => ?_)
 ·
  skip
  have hn : z < 0 := of_decide_eq_true hc4
  refine gC h (zS (zp (.fA rfl Ko) (zp (.fA rfl Kw) (zd rfl mr isAgg47 sizeOf47 Js ?_))))
  refine zv [_] rfl call56 (Zpx z.natAbs hz) (zp (.binOp rfl rfl (fun _ => Qx _ _ _ _ _ (by have := Zbv z.natAbs; have h1 : (ByteArray.mk #[45]).size = 1 := rfl; omega))) (za rfl (zn (zt ?_)))); intro a w h
  refine Jk h (Zd h rfl (.tmp rfl)) ?_
  unfold Zoh; rw [if_pos hn]
 ·
  skip
  have hn : ¬ z < 0 := of_decide_eq_false hc4
  refine gC h (zk (zS (zp (.fA rfl Ko) (zp (.fA rfl Kw) (zd rfl mr isAgg47 sizeOf47 Js ?_)))))
  refine zv [_] rfl call56 (Zpx z.natAbs hz) (za rfl (zn (zt ?_))); intro a w h
  refine Jk h (Zd h rfl (.tmp rfl)) ?_
  unfold Zoh; rw [if_neg hn]
theorem Qf3 (x : Rat) (hn : x.num.natAbs < 100) (hd : x.den < 100) : Xl Tryz.prog 21 [Vv x] (.string (Zdy x)) := by
 refine fn_intro func21 rfl ntmps21 nb ?_
 intro S w0 a hS h
 refine gC h (zS (zx rfl fun b1 => za rfl (zn (zs (zS (zd rfl mr isAgg53 sizeOf53 Zx ?_))))))
 refine zv [_] rfl call54 (Zf6 x) (zn ?_); intro a w h
 refine cW ?_
 refine Zb h rfl (fun hc4 => ?_) (fun hc4 => ?_)
 ·
  skip
  have hw : x.den = 1 := of_decide_eq_true hc4
  refine gC h (zS (zp (.fA rfl Ym) (zd rfl mr isAgg51 sizeOf51 Xg ?_)))
  refine zv [_] rfl call55 (Zyl x.num hn) (za rfl (zn (zt ?_))); intro a w h
  refine Jk h (Zd h rfl (.tmp rfl)) ?_
  unfold Zdy; rw [if_pos hw]
 ·
  skip
  have hw : ¬ x.den = 1 := of_decide_eq_false hc4
  refine gC h (zk (zs (yD Za [0, 1, 4, 2, 3, 5, 6, 7, 8] (Zf kk) (yp rfl (.fA rfl Ym) (yd rfl rfl mr isAgg51 sizeOf51 Xg ?_))))); clear h
  refine yd rfl rfl mr isAgg53 sizeOf53 Zx ?_
  refine yv [_] rfl rfl call55 (Zyl x.num hn) (yp rfl (.binOp rfl rfl (fun _ => Qx _ _ _ _ _ (by have := Zfl x.num; have h1 : (ByteArray.mk #[47]).size = 1 := rfl; omega))) (yv [_] rfl rfl call57 (Ziz x (Nat.le_trans (Yp oo) dd)) (yv [_] rfl rfl call56 (Zpx x.den hd) (yp rfl (.binOp rfl rfl (fun _ => Qx _ _ _ _ _ (by have := Zfl x.num; have := Zbv x.den; have h1 : (ByteArray.mk #[47]).size = 1 := rfl; rw [ByteArray.size_append]; omega))) (yp rfl (.assign rfl) (yn (zt ?_))))))); intro a w h
  refine Jk h (Zd h rfl (.tmp rfl)) ?_
  unfold Zdy; rw [if_neg hw]
end
section
def Zpp (i k : Int) : Int := if i < k then -1 else if i > k then 1 else 0
def validQ (t : Rat) : Bool := decide (t.num.sign ≥ 0) && decide ((t - ((1 : Int) : Rat)).num.sign ≤ 0)
theorem Zyg (x : Int) : Xl Tryz.prog 121 [.int .i64 x] (.bool false) := by
 refine fn_intro func121 rfl ntmps121 nb ?_
 intro S w0 a hS h
 refine gC h (zS (za rfl (zn (zS (zm rfl (zm rfl (zp (.neq rfl rfl) (za rfl (zn (zt ?_)))))))))); clear h; intro a w h
 refine Jk h (Zd h rfl (.tmp rfl)) ?_
 simp
theorem Qcw (x y : Int) : Xl Tryz.prog 82 [.int .i64 x, .int .i64 y] (.int .i64 (Zpp x y)) := by
 refine fn_intro func82 rfl ntmps82 nb ?_
 intro S w0 a hS h
 refine gC h (zS (za rfl (zn (zS (zm rfl (zv [_] rfl call121 (Zyg _) (za rfl (zn (zS (zm rfl (zv [_] rfl call121 (Zyg _) (za rfl (zn (zs (zS (zm rfl ?_)))))))))))))))); clear h; intro a w h
 refine Zg h (fun hc11 h => (by exfalso; cases hc11)) (fun hc11 h => ?_)
 refine wpList_nil ?_
 refine cW ?_
 refine Ze h rfl ?_
 refine gC h (zk (zs (zS (zm rfl ?_)))); clear h; intro a w h
 refine Zg h (fun hc13 h => (by exfalso; cases hc13)) (fun hc13 h => ?_)
 refine wpList_nil ?_
 refine cW ?_
 refine Ze h rfl ?_
 refine gC h (zk (zs (zS (zm rfl (zm rfl (zp (.lss rfl rfl) (zn ?_))))))); clear h; intro a w h
 refine cW ?_
 refine Zb h rfl (fun hc16 => ?_) (fun hc16 => ?_)
 ·
  skip
  refine gC h (zS (za rfl (zn (zt ?_)))); clear h; intro a w h
  refine Jk h (Zd h rfl (.tmp rfl)) ?_
  unfold Zpp; have := of_decide_eq_true hc16; simp [this]
 ·
  skip
  refine gC h (zk (zs (zS (zm rfl (zm rfl (zp (.gtr rfl rfl) (zn ?_))))))); clear h; intro a w h
  refine cW ?_
  refine Zb h rfl (fun hc19 => ?_) (fun hc19 => ?_)
  ·
   skip
   refine gC h (zS (za rfl (zn (zt ?_)))); clear h; intro a w h
   refine Jk h (Zd h rfl (.tmp rfl)) ?_
   unfold Zpp; have h1 := of_decide_eq_false hc16; have h2 := of_decide_eq_true hc19; rw [if_neg h1, if_pos h2]
  ·
   skip
   refine gC h (zk (zS (za rfl (zn (zt ?_))))); clear h; intro a w h
   refine Jk h (Zd h rfl (.tmp rfl)) ?_
   unfold Zpp; have h1 := of_decide_eq_false hc16; have h2 := of_decide_eq_false hc19; rw [if_neg h1, if_neg h2]
end
section
theorem Zzh (x : Int) (h0 : -9223372036854775807 ≤ x) (h1 : x ≤ 9223372036854775807) (w : World) : (Op.unary .neg (.int .i64 x)).run Tryz.prog w = .ok (.int .i64 (-x)) w := by
 have : (Op.unary .neg (.int .i64 x)).run Tryz.prog w = .ok (.int .i64 (IntKind.i64.wrap (0 - x))) w := by simp [Op.unary, Op.intArith]
 rw [this, wrap_i64 _ oo oo]; congr 2; omega
end
end Go.Proofs.YtgkicbaomcmfoaaGreatDoor
