/- Walks of functions. By an AI agent. -/
import Derived.Test.YthcjdeklpegceaaGreatDoorFracs1
import Derived.Test.YthcjdeklpegceaaGreatDoorFxB
import Derived.Test.YthcjdeklpegceaaGreatDoorFxC
import Derived.Test.YthcjdeklpegceaaGreatDoorFxM
set_option linter.unusedVariables false
set_option linter.unusedSimpArgs false
set_option maxRecDepth 4000
namespace Go.Proofs.YthcjdeklpegceaaGreatDoor
open Go Go.Proofs Go.Fx Tryz
attribute [local irreducible] Oper.wp Code.wp wpList Fx.Head wpOp
section
theorem Zlr {b off : Nat} (w : World) : (Instr.fieldAt 128 (.pointer (some ⟨b, off, none⟩)) 0).run Tryz.prog w = .ok (.pointer (some ⟨b, off + 0, none⟩)) w := by
 simp [go_sem]
theorem Kd (a : Option Addr) (n c : Nat) (w : World) (ty : TypeId) (cs : Array Bool) : (Go.builtin .len #[49] ty cs #[.slice a n c]).run Tryz.prog w = .ok (.value (.int .i64 n)) w := by
 simp [go_sem]
theorem Gn (b off n c j : Nat) (h : j < n) (w : World) : (Instr.indexAt 49 (.slice (some ⟨b, off, none⟩) n c) (.int .i64 (j : Int))).run Tryz.prog w = .ok (.pointer (some ⟨b, off + j * 5, none⟩)) w := by
 simpa using Xi runUnderlying49 sizeOf41 b off n c j h w
theorem Ju (w : World) : (zeroValue 41).run Tryz.prog w = .ok (Zr 0) w := zeroValue41 w
theorem zeroZ (w : World) : (zeroValue 39).run Tryz.prog w = .ok (encZ 0) w := zeroValue39 w
abbrev Ze3 (p : Rat × Rat × Rat) : Value := .agg #[.int .u64 (Kv p.1.num.natAbs), .string (Yx p.1.num.natAbs), .bool (decide (p.1.num < 0)), .int .u64 (Kv (p.1.den - 1)), .string (Yx (p.1.den - 1)),
 .int .u64 (Kv p.2.1.num.natAbs), .string (Yx p.2.1.num.natAbs), .bool (decide (p.2.1.num < 0)), .int .u64 (Kv (p.2.1.den - 1)), .string (Yx (p.2.1.den - 1)),
 .int .u64 (Kv p.2.2.num.natAbs), .string (Yx p.2.2.num.natAbs), .bool (decide (p.2.2.num < 0)), .int .u64 (Kv (p.2.2.den - 1)), .string (Yx (p.2.2.den - 1))]
theorem Ztj (w : World) : (zeroValue 60).run Tryz.prog w = .ok (Ze3 (0, 0, 0)) w := zeroValue60 w
theorem Zhs {x y : Rat} : (Kv x.num.natAbs = Kv y.num.natAbs ∧ Yx x.num.natAbs = Yx y.num.natAbs ∧ decide (x.num < 0) = decide (y.num < 0) ∧ Kv (x.den - 1) = Kv (y.den - 1) ∧ Yx (x.den - 1) = Yx (y.den - 1)) ↔ x = y := by
 constructor
 ·
  rintro ⟨h1, h2, h3, h4, h5⟩
  have e1 := Zls h1 h2
  have e2 := Zls h4 h5
  have := x.den_pos
  have := y.den_pos
  refine Rat.ext ?_ oo
  have h3' : (x.num < 0) ↔ (y.num < 0) := decide_eq_decide.1 h3
  omega
 · rintro rfl; exact ⟨rfl, rfl, rfl, rfl, rfl⟩
theorem str_eq (n m : Nat) : ((Yx n).toList = (Yx m).toList) ↔ Yx n = Yx m := by have := Zco (Yx n) (Yx m); rw [Bool.eq_iff_iff] at this; simpa using this
theorem Zh8 (X Y : Operand) (x y : Rat) (w : World) : (do eqGuard .eql 41 X Y (Zr x) (Zr y); Go.binOp .eql 41 (Zr x) (Zr y) : Sem Value).run Tryz.prog w = .ok (.bool (decide (x = y))) w := by
 simp [go_sem]
 have hq := @Zhs x y
 rw [decide_eq_decide] at hq
 simp only [← str_eq] at hq
 by_cases e : x = y
 ·
  obtain ⟨h1, h2, h3, h4, h5⟩ := hq.2 e
  rw [if_pos h1, if_pos h2, if_pos h3, if_pos h4, if_pos h5]; simp [e]
 ·
  rw [show decide (x = y) = false from by simp [e]]
  (repeat' split) <;> first | rfl | (exact absurd (hq.1 ⟨‹_›, ‹_›, ‹_›, ‹_›, ‹_›⟩) e)
theorem Qbl (X Y : Operand) (x y : Rat) (w : World) : (do eqGuard .neq 41 X Y (Zr x) (Zr y); Go.binOp .neq 41 (Zr x) (Zr y) : Sem Value).run Tryz.prog w = .ok (.bool (!decide (x = y))) w := by
 simp [go_sem]
 have hq := @Zhs x y
 rw [decide_eq_decide] at hq
 simp only [← str_eq] at hq
 by_cases e : x = y
 ·
  obtain ⟨h1, h2, h3, h4, h5⟩ := hq.2 e
  rw [if_pos h1, if_pos h2, if_pos h3, if_pos h4, if_pos h5]; simp [e]
 ·
  rw [show decide (x = y) = false from by simp [e]]
  (repeat' split) <;> first | rfl | (exact absurd (hq.1 ⟨‹_›, ‹_›, ‹_›, ‹_›, ‹_›⟩) e)
theorem Zb9 (x : Rat) : Zu (-x) = Zu x := by simp [Zu, Zap, Rat.neg_num, Rat.neg_den]
theorem Zae (x y : Rat) : Zu (x - y) ≤ Zu x + Zu y + 1 := by rw [Rat.sub_eq_add_neg]; have := Qo x (-y); rw [Zb9] at this; exact this
theorem Zs (n : Int) (h0 : -9223372036854775808 ≤ n) (h1 : n ≤ 9223372036854775807) : Zu ((n : Int) : Rat) ≤ 2 := by
 have : (wds n.natAbs).length ≤ 2 := Gj oo
 unfold Zu Zap
 rw [Rat.num_intCast, Rat.den_intCast]
 have h2 : (wds 1).length ≤ 2 := Gj dd
 omega
theorem Vh : Zu 0 ≤ 2 := Zs 0 oo oo
theorem Zyy (y : Rat) : Zu y⁻¹ ≤ Zu y := by
 by_cases hy : y = 0
 · subst hy; rw [Rat.inv_zero]; exact Nat.le_refl _
 ·
  rw [← Ziv y hy]
  have h0 : y.num ≠ 0 := fun h => hy (Rat.num_eq_zero.1 h)
  have := Zen (sgZ (decide (y.num.sign < 0)) y.den) y.num.natAbs oo
  unfold Zap at this
  rw [Zkw] at this
  unfold Zu Zap at *
  omega
theorem Ym (x y : Rat) : Zu (x / y) ≤ Zu x + Zu y := by
 rw [Rat.div_def]; have := Zm x y⁻¹; have := Zyy y; omega
theorem Zgd (n d : Int) (h0 : -9223372036854775808 ≤ n) (h1 : n ≤ 9223372036854775807) (h2 : -9223372036854775808 ≤ d) (h3 : d ≤ 9223372036854775807) : Zu ((n : Rat) / (d : Rat)) ≤ 4 := by
 have := Ym (n : Rat) (d : Rat); have := Zs n h0 h1; have := Zs d h2 h3; omega
abbrev Zfb (k : Nat) : Value := .int .i64 (k : Int)
theorem getD_mem {α : Type} (l : List α) {i : Nat} {d : α} (h : i < l.length) : l.getD i d ∈ l := by
 simp only [List.getD, List.getElem?_eq_getElem h, Option.getD_some]; exact List.getElem_mem h
theorem Zd1 {α β : Type} {f : β → α → β} (l : List α) (s : β) (i : Nat) (d : α) (h : i < l.length) : (l.take (i + 1)).foldl f s = f ((l.take i).foldl f s) (l.getD i d) := by
 rw [List.take_add_one, List.getElem?_eq_getElem h, List.foldl_append]
 simp [List.getD, List.getElem?_eq_getElem h]
theorem Zn1 (x : Rat) : Xm Tryz.prog 93 [Zr x] (Zr (-x)) := by
 refine fn_intro func93 rfl ntmps93 nb ?_
 intro S w0 a hS h
 refine gC h (zS (zx rfl fun b1 => zz Ju fun b2 => zn (zs (yD Za [0, 1, 3, 4, 2, 5, 6] (Zd kk) (yp rfl (.fA rfl Yv) (yd rfl rfl mr isAgg39 sizeOf39 Xx ?_)))))); clear h
 refine yp rfl (.fA rfl Zd3) (yd rfl rfl mr isAgg35 sizeOf35 Zb2 ?_)
 refine yv [_] rfl rfl call142 (Qa5 x.num) (yp rfl (.build [(_, _), (_, _)] rfl (Zje _ _ _ _ _)) (yt rfl rfl rfl Zp uu sizeOf41 rfl nb rfl ?_))
 refine yn (zt ?_); intro a w h
 refine Xd h (Zk h rfl (.cell rfl mr isAgg41 sizeOf41 Zh)) ?_
 unfold Zr; rw [Rat.neg_num, Rat.neg_den]
theorem Zjm (x y : Rat) (ha : Zu x ≤ 10000000000) (hb : Zu y ≤ 10000000000) : Xm Tryz.prog 137 [Zr x, Zr y] (Zr (x - y)) := by
 refine fn_intro func137 rfl ntmps137 nb ?_
 intro S w0 a hS h
 refine gC h (zS (zx rfl fun b2 => zx rfl fun b3 => zz Ju fun b4 => zn (zs (yD Za [0, 1, 2, 3, 4] (Zd kk) (yd rfl rfl mr isAgg41 sizeOf41 Zh ?_))))); clear h
 refine yd rfl rfl mr isAgg41 sizeOf41 Zh ?_
 refine yv [_] rfl rfl call93 (Zn1 _) ?_
 have hl7 := Zb9 (y)
 refine yv [_, _] rfl rfl call49 (Vu _ _ oo oo) ?_
 have hl8 := Qo (x) (-y)
 refine yt rfl rfl rfl Zp uu sizeOf41 rfl nb rfl ?_
 refine yn (zt ?_); intro a w h
 refine Xd h (Zk h rfl (.cell rfl mr isAgg41 sizeOf41 Zh)) ?_
 rw [← Rat.sub_eq_add_neg]
theorem C_tadd (b : Nat) (s x : Rat) (σ : List (Nat × Obj)) (Φ : List Qf) (hs : Zu s ≤ 10000000000) (hx : Zu x ≤ 10000000000) :
  Znq Tryz.prog 62 [.pointer (some ⟨b, 0, none⟩), Zr x] ((b, .cells (Zr s).cells 128 (0, 0)) :: σ) Φ (fun v σ' Φ' => v = .tuple #[] ∧ σ' = (b, .cells (Zr (s + x)).cells 128 (0, 0)) :: σ ∧ Φ' = Φ) := by
 refine fn_introM func62 rfl ntmps62 nb ?_
 intro S w0 a w hS h
 refine gC h (zS (zx rfl fun b3 => zn (yD Za [0, 1, 2, 3, 4, 5, 6, 7, 8, 9] (Zd kk) (ym rfl rfl (ym rfl rfl (yp rfl (.nilCheck rfl) (yp rfl (.fA rfl Zlr) (yd rfl rfl mr isAgg41 sizeOf41 Zh ?_)))))))); clear h
 refine yd rfl rfl mr isAgg41 sizeOf41 Zh ?_
 refine yv [_, _] rfl rfl call49 (Vu _ _ oo oo) ?_
 have hl10 := Qo (s) (x)
 refine yp rfl (.nilCheck rfl) (yp rfl (.fA rfl Zlr) (yt rfl rfl rfl Zp uu sizeOf41 rfl nb rfl ?_))
 refine yn ?_; intro a w h
 refine Ztg h (Zax rfl) ⟨rfl, rfl, rfl⟩ (List.sublist_cons_self _ _) (fun _ h => h)
theorem Qdm (n d : Int) (h0 : -9223372036854775808 ≤ n) (h1 : n ≤ 9223372036854775807) (h2 : -9223372036854775808 ≤ d) (h3 : d ≤ 9223372036854775807) (hd : d ≠ 0) :
  Xm Tryz.prog 69 [.int .i64 n, .int .i64 d] (.tuple #[Zr ((n : Rat) / (d : Rat)), .int .i64 0]) := by
 refine fn_intro func69 rfl ntmps69 nb ?_
 intro S w0 a hS h
 refine gC h (zS (zz Ju fun b4 => za rfl (zn (zS (zm rfl (zv [_] rfl call21 (Ye _ oo oo) ?_))))))
 have hl7 := Zs (n) oo oo
 refine zm rfl (zv [_] rfl call21 (Ye _ oo oo) ?_)
 have hl9 := Zs (d) oo oo
 refine zv [_, _] rfl call91 (Zdi _ _ (by exact fun e => hd (Rat.intCast_eq_zero_iff.1 e)) oo oo) (zp (.eX rfl) (zp (.eX rfl) (zt' rfl rfl Zp uu sizeOf41 rfl nb rfl ?_)))
 refine za rfl (zn (zt ?_)); intro a w h
 refine Xd h (Qq h rfl (.cell rfl mr isAgg41 sizeOf41 Zh) (.tmp rfl)) ?_
 rfl
end
section
theorem sls_9 (x : ByteArray) (lo hi : Nat) (h1 : lo ≤ hi) (h2 : hi ≤ x.size) (w : World) : (Instr.sliceAt 9 (.string x) (some (.int .i64 (lo : Int))) (some (.int .i64 (hi : Int))) none).run Tryz.prog w = .ok (.string (x.extract lo hi)) w := Zod runUnderlying9 x lo hi h1 h2 w
theorem Qcj (x : Int) (w : World) : (Go.convert 33 3 (.int .u64 x)).run Tryz.prog w = .ok (.int .i64 (IntKind.i64.wrap x)) w := by
 simp [go_sem]
theorem Zzl (x : Int) (h0 : IntKind.i64.wrap x = x) (w : World) : (Go.convert 33 3 (.int .u64 x)).run Tryz.prog w = .ok (.int .i64 x) w := by
 rw [Qcj, h0]
def Zs0 (n : Nat) : ByteArray := if n < 10 then ⟨#[UInt8.ofNat (48 + n)]⟩ else ⟨#[UInt8.ofNat (48 + n / 10), UInt8.ofNat (48 + n % 10)]⟩
def Zoa (z : Int) : ByteArray := if z < 0 then ⟨#[45]⟩ ++ Zs0 z.natAbs else Zs0 z.natAbs
def Zh1 (x : Rat) : ByteArray := if x.den = 1 then Zoa x.num else Zoa x.num ++ ⟨#[47]⟩ ++ Zs0 x.den
def textU (l : List Rat) : Nat → ByteArray
 | 0 => ⟨#[]⟩
 | i + 1 => (if 0 < i then textU l i ++ ⟨#[32]⟩ else textU l i) ++ Zh1 (l.getD i 0)
theorem Zi2 (n : Nat) : (Zs0 n).size ≤ 2 := by unfold Zs0; split <;> simp [ByteArray.size]
theorem Zju (z : Int) : (Zoa z).size ≤ 3 := by
 unfold Zoa; have := Zi2 z.natAbs
 split
 ·
  rw [ByteArray.size_append]; have : (ByteArray.mk #[45]).size = 1 := rfl
  omega
 · omega
def tab1 : ByteArray := ⟨#[48, 49, 50, 51, 52, 53, 54, 55, 56, 57, 97, 98, 99, 100, 101, 102, 103, 104, 105, 106, 107, 108, 109, 110, 111, 112, 113, 114, 115, 116, 117, 118, 119, 120, 121, 122]⟩
def tab2 : ByteArray := ⟨#[48, 48, 48, 49, 48, 50, 48, 51, 48, 52, 48, 53, 48, 54, 48, 55, 48, 56, 48, 57, 49, 48, 49, 49, 49, 50, 49, 51, 49, 52, 49, 53, 49, 54, 49, 55, 49, 56, 49, 57, 50, 48, 50, 49, 50, 50, 50, 51, 50, 52, 50, 53, 50, 54, 50, 55, 50, 56, 50, 57, 51, 48, 51, 49, 51, 50, 51, 51, 51, 52, 51, 53, 51, 54, 51, 55, 51, 56, 51, 57, 52, 48, 52, 49, 52, 50, 52, 51, 52, 52, 52, 53, 52, 54, 52, 55, 52, 56, 52, 57, 53, 48, 53, 49, 53, 50, 53, 51, 53, 52, 53, 53, 53, 54, 53, 55, 53, 56, 53, 57, 54, 48, 54, 49, 54, 50, 54, 51, 54, 52, 54, 53, 54, 54, 54, 55, 54, 56, 54, 57, 55, 48, 55, 49, 55, 50, 55, 51, 55, 52, 55, 53, 55, 54, 55, 55, 55, 56, 55, 57, 56, 48, 56, 49, 56, 50, 56, 51, 56, 52, 56, 53, 56, 54, 56, 55, 56, 56, 56, 57, 57, 48, 57, 49, 57, 50, 57, 51, 57, 52, 57, 53, 57, 54, 57, 55, 57, 56, 57, 57]⟩
theorem Qbe (i : Nat) (h : i < 10) : tab1.extract i (i + 1) = Zs0 i := by
 have : ∀ i, i < 10 → tab1.extract i (i + 1) = Zs0 i := by decide +kernel
 exact this i h
theorem Qbd (i : Nat) (h0 : ¬ i < 10) (h : i < 100) : tab2.extract (i * 2) (i * 2 + 2) = Zs0 i := by
 have : ∀ i, i < 100 → ¬ i < 10 → tab2.extract (i * 2) (i * 2 + 2) = Zs0 i := by decide +kernel
 exact this i h h0
theorem Qc8 (n : Nat) (hlt : n < 100) : Xm Tryz.prog 199 [.int .i64 ((n : Nat) : Int)] (.string (Zs0 n)) := by
 refine fn_intro func199 rfl ntmps199 nb ?_
 intro S w0 a hS h
 refine gC h (zS (za rfl (zn (zs (zS (zm rfl (zp (.lss rfl rfl) (zn ?_)))))))); clear h; intro a w h
 refine cW ?_
 refine Zg h rfl (fun hc4 => ?_) (fun hc4 => ?_)
 ·
  skip
  have hn : n < 10 := dT hc4
  refine gC h (zS (zm rfl (zm rfl (zp (.pN (n + 1) (.add rfl rfl)) (zp (.slice rfl (some _) (some _) none rfl rfl rfl (sls_9 _ _ _ (by first | omega | (show n + 1 ≤ 36; omega)) (by first | omega | (show n + 1 ≤ 36; omega)))) (za rfl (zn (zt ?_)))))))); clear h; intro a w h
  refine Xd h (Zk h rfl (.tmp rfl)) ?_
  exact congrArg _ (Qbe n hn)
 ·
  skip
  have hn : ¬ n < 10 := dF hc4
  refine gC h (zk (zS (zm rfl (zp (.pN (n * 2) (.mul rfl rfl)) (zm rfl (zp (.pN (n * 2) (.mul rfl rfl)) (zp (.pN ((n * 2) + 2) (.add rfl rfl)) (zp (.slice rfl (some _) (some _) none rfl rfl rfl (sls_9 _ _ _ (by first | omega | (show n * 2 + 2 ≤ 200; omega)) (by first | omega | (show n * 2 + 2 ≤ 200; omega)))) (za rfl (zn (zt ?_))))))))))); clear h; intro a w h
  refine Xd h (Zk h rfl (.tmp rfl)) ?_
  exact congrArg _ (Qbd n hn hlt)
theorem C_iFU (n : Nat) (hlt : n < 100) : Xm Tryz.prog 173 [.int .u64 (n : Int), .int .i64 10] (.string (Zs0 n)) := by
 refine fn_intro func173 rfl ntmps173 nb ?_
 intro S w0 a hS h
 refine gC h (zS (za rfl (zn (zs (zS (zm rfl (zp (.eql rfl rfl) (zn ?_)))))))); clear h; intro a w h
 refine cW ?_
 refine Zg h rfl (fun hc10 => ?_) (fun hc10 => (absurd hc10 dd))
 refine gC h (zs (zS (zm rfl (zp (.lss rfl rfl) (zn ?_))))); clear h; intro a w h
 refine cW ?_
 refine Zg h rfl (fun hc12 => ?_) (fun hc12 => (by exfalso; have := of_decide_eq_false hc12; omega))
 refine gC h (zS (zm rfl (zp (.convert rfl (Zzl _ (wrap_i64 _ oo oo))) (zv [_] rfl call199 (Qc8 n hlt) (za rfl (zn (zt ?_))))))); clear h; intro a w h
 exact Zdj h
theorem C_FU (n : Nat) (hlt : n < 100) : Xm Tryz.prog 145 [.int .u64 (n : Int), .int .i64 10] (.string (Zs0 n)) := by
 refine fn_intro func145 rfl ntmps145 nb ?_
 intro S w0 a hS h
 refine gC h (zS (za rfl (zn (zS (zm rfl (zm rfl (zv [_, _] rfl call173 (C_iFU n hlt) (za rfl (zn (zt ?_)))))))))); clear h; intro a w h
 exact Zdj h
theorem Zpn (n : Nat) (hlt : n < 100) : Xm Tryz.prog 97 [Vw n] (.string (Zs0 n)) := by
 refine fn_intro func97 rfl ntmps97 nb ?_
 intro S w0 a hS h
 refine gC h (zS (zx rfl fun b1 => za rfl (zn (zs (zS (zp (.fA rfl Gb) (zd rfl mr isAgg9 sizeOf9 Kq ?_)))))))
 refine zp (.binOp rfl rfl (fun _ => Xn _ _ _ _ _)) (zn ?_); intro a w h
 refine cW ?_
 refine Zg h rfl (fun hc10 => ?_) (fun hc10 => (by exfalso; have hb : Yx n = ⟨#[]⟩ := Ko oo; rw [hb] at hc10; exact absurd hc10 dd))
 refine gC h (zS (zp (.fA rfl Ke) (zd rfl mr isAgg33 sizeOf33 Vp ?_))); clear h; intro a w h
 rw [Qm (show n < 18446744073709551616 by omega)] at h
 refine gL h (zv [_, _] rfl call145 (C_FU n hlt) (za rfl (zn (zt ?_)))); clear h; intro a w h
 exact Zdj h
theorem Zw7 (z : Int) (hz : z.natAbs < 100) : Xm Tryz.prog 96 [encZ z] (.string (Zoa z)) := by
 refine fn_intro func96 rfl ntmps96 nb ?_
 intro S w0 a hS h
 refine gC h (zS (zx rfl fun b1 => za rfl (zn (zs (zS (zp (.fA rfl Zci) (zd rfl mr isAgg4 sizeOf4 Jo ?_))))))); clear h; intro a w h
 refine wpList_nil ?_
 refine cW ?_
 refine Zg h rfl (fun hc4 => ?_) (fun hc4 => ?_)
 ·
  skip
  have hn : z < 0 := of_decide_eq_true hc4
  refine gC h (zS (zp (.fA rfl Gw) (zp (.fA rfl Zar) (zd rfl mr isAgg35 sizeOf35 Kj ?_))))
  refine zv [_] rfl call97 (Zpn z.natAbs hz) (zp (.binOp rfl rfl (fun _ => Zkx _ _ _ _ _ (by have := Zi2 z.natAbs; have h1 : (ByteArray.mk #[45]).size = 1 := rfl; omega))) (za rfl (zn (zt ?_)))); intro a w h
  refine Xd h (Zk h rfl (.tmp rfl)) ?_
  unfold Zoa; rw [if_pos hn]
 ·
  skip
  have hn : ¬ z < 0 := of_decide_eq_false hc4
  refine gC h (zk (zS (zp (.fA rfl Gw) (zp (.fA rfl Zar) (zd rfl mr isAgg35 sizeOf35 Kj ?_)))))
  refine zv [_] rfl call97 (Zpn z.natAbs hz) (za rfl (zn (zt ?_))); intro a w h
  refine Xd h (Zk h rfl (.tmp rfl)) ?_
  unfold Zoa; rw [if_neg hn]
theorem Ze9 (x : Rat) (hn : x.num.natAbs < 100) (hd : x.den < 100) : Xm Tryz.prog 38 [Zr x] (.string (Zh1 x)) := by
 refine fn_intro func38 rfl ntmps38 nb ?_
 intro S w0 a hS h
 refine gC h (zS (zx rfl fun b1 => za rfl (zn (zs (zS (zd rfl mr isAgg41 sizeOf41 Zh ?_))))))
 refine zv [_] rfl call63 (Zjl x) (zn ?_); intro a w h
 refine cW ?_
 refine Zg h rfl (fun hc4 => ?_) (fun hc4 => ?_)
 ·
  skip
  have hw : x.den = 1 := of_decide_eq_true hc4
  refine gC h (zS (zp (.fA rfl Yv) (zd rfl mr isAgg39 sizeOf39 Xx ?_)))
  refine zv [_] rfl call96 (Zw7 x.num hn) (za rfl (zn (zt ?_))); intro a w h
  refine Xd h (Zk h rfl (.tmp rfl)) ?_
  unfold Zh1; rw [if_pos hw]
 ·
  skip
  have hw : ¬ x.den = 1 := of_decide_eq_false hc4
  refine gC h (zk (zs (yD Za [0, 1, 4, 2, 3, 5, 6, 7, 8] (Zd kk) (yp rfl (.fA rfl Yv) (yd rfl rfl mr isAgg39 sizeOf39 Xx ?_))))); clear h
  refine yd rfl rfl mr isAgg41 sizeOf41 Zh ?_
  refine yv [_] rfl rfl call96 (Zw7 x.num hn) (yp rfl (.binOp rfl rfl (fun _ => Zkx _ _ _ _ _ (by have := Zju x.num; have h1 : (ByteArray.mk #[47]).size = 1 := rfl; omega))) (yv [_] rfl rfl call68 (Znv x (Nat.le_trans (Gj oo) dd)) (yv [_] rfl rfl call97 (Zpn x.den hd) (yp rfl (.binOp rfl rfl (fun _ => Zkx _ _ _ _ _ (by have := Zju x.num; have := Zi2 x.den; have h1 : (ByteArray.mk #[47]).size = 1 := rfl; rw [ByteArray.size_append]; omega))) (yp rfl (.assign rfl) (yn (zt ?_))))))); intro a w h
  refine Xd h (Zk h rfl (.tmp rfl)) ?_
  unfold Zh1; rw [if_neg hw]
end
section
theorem Zyt (x : Int) : Zap (-x) = Zap x := by unfold Zap; rw [Int.natAbs_neg]
theorem Zr0 (n : Int) (d : Nat) (hd : d ≠ 0) : (mkRat n d).num.sign = n.sign := by
 cases h : mkRat n d with
 | mk' n' d' z c =>
  obtain ⟨m, hm, hn, _⟩ := Rat.mkRat_num_den hd h
  rw [hn, Int.sign_mul, show ((m : Nat) : Int).sign = 1 from Int.sign_eq_one_of_pos oo, Int.mul_one]
theorem Zpx (x y : Rat) : (x - y).num.sign = (x.num * (y.den : Int) - y.num * (x.den : Int)).sign := by
 rw [Rat.sub_def', Zr0 _ _ (Nat.mul_ne_zero x.den_nz y.den_nz)]
theorem Zt7 {x y : Rat} (h : x.den = y.den) : (x - y).num.sign = (x.num - y.num).sign := by
 rw [Zpx, ← h, ← Int.sub_mul, Int.sign_mul, show ((x.den : Nat) : Int).sign = 1 from Int.sign_eq_one_of_pos (by have := x.den_pos; omega), Int.mul_one]
def Zpc (i k : Int) : Int := if i < k then -1 else if i > k then 1 else 0
def validQ (t : Rat) : Bool := decide (t.num.sign ≥ 0) && decide ((t - ((1 : Int) : Rat)).num.sign ≤ 0)
theorem C_ZSub (x y : Int) (hx : Zap x ≤ 400000000000) (hy : Zap y ≤ 400000000000) : Xm Tryz.prog 165 [encZ x, encZ y] (encZ (x - y)) := by
 refine fn_intro func165 rfl ntmps165 nb ?_
 intro S w0 a hS h
 refine gC h (zS (zx rfl fun b2 => zx rfl fun b3 => zz zeroZ fun b4 => zn (zs (yD Za [0, 1, 2, 3, 4] (Zd kk) (yd rfl rfl mr isAgg39 sizeOf39 Qa ?_))))); clear h
 refine yd rfl rfl mr isAgg39 sizeOf39 Qa ?_
 refine yv [_] rfl rfl call142 (Qa5 y) (yv [_, _, _] rfl rfl call114 (Zji x (-y) hx (by rw [Zyt]; exact hy)) (yt rfl rfl rfl Qt uu sizeOf39 rfl nb rfl ?_))
 refine yn (zt ?_); intro a w h
 refine Xd h (Zk h rfl (.cell rfl mr isAgg39 sizeOf39 Qa)) ?_
 rw [Int.sub_eq_add_neg]
theorem Qa6 (x y : Int) (hx : Zap x ≤ 400000000000) (hy : Zap y ≤ 400000000000) : Xm Tryz.prog 136 [encZ x, encZ y] (.int .i64 (x - y).sign) := by
 refine fn_intro func136 rfl ntmps136 nb ?_
 intro S w0 a hS h
 refine gC h (zS (zx rfl fun b2 => zx rfl fun b3 => za rfl (zn (zS (zd rfl mr isAgg39 sizeOf39 Qa ?_)))))
 refine zd rfl mr isAgg39 sizeOf39 Qa ?_
 refine zv [_, _] rfl call165 (C_ZSub x y hx hy) (zv [_] rfl call75 (Zpk _) (za rfl (zn (zt ?_)))); intro a w h
 exact Zdj h
theorem C_QCmp (x y : Rat) (ha : Zu x ≤ 100000000000) (hb : Zu y ≤ 100000000000) : Xm Tryz.prog 84 [Zr x, Zr y] (.int .i64 (x - y).num.sign) := by
 obtain ⟨ha1, ha2⟩ := Zdy ha
 obtain ⟨hb1, hb2⟩ := Zdy hb
 have hm1 := Zb8 x.num (y.den : Int)
 have hm2 := Zb8 y.num (x.den : Int)
 have hda : Zap (x.den : Int) = (wds x.den).length := rfl
 have hdb : Zap (y.den : Int) = (wds y.den).length := rfl
 have hpa := x.den_pos
 have hpb := y.den_pos
 refine fn_intro func84 rfl ntmps84 nb ?_
 intro S w0 a hS h
 refine gC h (zS (zx rfl fun b2 => zx rfl fun b3 => za rfl (zn (zs (zS (zp (.fA rfl Zd3) (zd rfl mr isAgg35 sizeOf35 Zb2 ?_)))))))
 refine zp (.fA rfl Zd3) (zd rfl mr isAgg35 sizeOf35 Zb2 ?_)
 refine zp (.binOp rfl rfl (fun _ => Zkz _ _ (x.den - 1) (y.den - 1) _)) ?_; intro a w h
 refine Qp h (fun hc9 h => ?_) (fun hc9 h => ?_)
 ·
  skip
  have hde : x.den = y.den := dT hc9
  refine wpList_nil ?_
  refine cW ?_
  refine Zi h rfl ?_
  refine gC h (zS (zp (.fA rfl Yv) (zd rfl mr isAgg39 sizeOf39 Xx ?_)))
  refine zp (.fA rfl Yv) (zd rfl mr isAgg39 sizeOf39 Xx ?_)
  refine zv [_, _] rfl call136 (Qa6 x.num y.num oo oo) (za rfl (zn (zt ?_))); intro a w h
  refine Xd h (Zk h rfl (.tmp rfl)) ?_
  rw [Zt7 hde]
 ·
  skip
  have hde : x.den ≠ y.den := dF hc9
  refine wpList_nil ?_
  refine cW ?_
  refine Zf h rfl ?_
  refine gC h (zk (zs (yD Za [0, 1, 2, 5, 6, 7, 3, 4, 8, 9, 10, 11] (Zd kk) (yp rfl (.fA rfl Yv) (yd rfl rfl mr isAgg39 sizeOf39 Xx ?_))))); clear h
  refine yd rfl rfl mr isAgg41 sizeOf41 Zh ?_
  refine yp rfl (.fA rfl Yv) (yd rfl rfl mr isAgg39 sizeOf39 Xx ?_)
  refine yd rfl rfl mr isAgg41 sizeOf41 Zh ?_
  refine yv [_] rfl rfl call106 (Zhw y oo) (yv [_, _] rfl rfl call65 (Zkp _ _ oo oo) (yv [_] rfl rfl call106 (Zhw x oo) (yv [_, _] rfl rfl call65 (Zkp _ _ oo oo) (yv [_, _] rfl rfl call136 (Qa6 _ _ oo oo) (yp rfl (.assign rfl) (yn (zt ?_))))))); intro a w h
  refine Xd h (Zk h rfl (.tmp rfl)) ?_
  rw [Zpx]
theorem Zw5 (x : Int) : Xm Tryz.prog 198 [.int .i64 x] (.bool false) := by
 refine fn_intro func198 rfl ntmps198 nb ?_
 intro S w0 a hS h
 refine gC h (zS (za rfl (zn (zS (zm rfl (zm rfl (zp (.neq rfl rfl) (za rfl (zn (zt ?_)))))))))); clear h; intro a w h
 refine Xd h (Zk h rfl (.tmp rfl)) ?_
 simp
theorem Qa4 (x y : Int) : Xm Tryz.prog 170 [.int .i64 x, .int .i64 y] (.int .i64 (Zpc x y)) := by
 refine fn_intro func170 rfl ntmps170 nb ?_
 intro S w0 a hS h
 refine gC h (zS (za rfl (zn (zS (zm rfl (zv [_] rfl call198 (Zw5 _) (za rfl (zn (zS (zm rfl (zv [_] rfl call198 (Zw5 _) (za rfl (zn (zs (zS (zm rfl ?_)))))))))))))))); clear h; intro a w h
 refine Qp h (fun hc11 h => (by exfalso; cases hc11)) (fun hc11 h => ?_)
 refine wpList_nil ?_
 refine cW ?_
 refine Zf h rfl ?_
 refine gC h (zk (zs (zS (zm rfl ?_)))); clear h; intro a w h
 refine Qp h (fun hc13 h => (by exfalso; cases hc13)) (fun hc13 h => ?_)
 refine wpList_nil ?_
 refine cW ?_
 refine Zf h rfl ?_
 refine gC h (zk (zs (zS (zm rfl (zm rfl (zp (.lss rfl rfl) (zn ?_))))))); clear h; intro a w h
 refine cW ?_
 refine Zg h rfl (fun hc16 => ?_) (fun hc16 => ?_)
 ·
  skip
  refine gC h (zS (za rfl (zn (zt ?_)))); clear h; intro a w h
  refine Xd h (Zk h rfl (.tmp rfl)) ?_
  unfold Zpc; have := of_decide_eq_true hc16; simp [this]
 ·
  skip
  refine gC h (zk (zs (zS (zm rfl (zm rfl (zp (.gtr rfl rfl) (zn ?_))))))); clear h; intro a w h
  refine cW ?_
  refine Zg h rfl (fun hc19 => ?_) (fun hc19 => ?_)
  ·
   skip
   refine gC h (zS (za rfl (zn (zt ?_)))); clear h; intro a w h
   refine Xd h (Zk h rfl (.tmp rfl)) ?_
   unfold Zpc; have h1 := of_decide_eq_false hc16; have h2 := of_decide_eq_true hc19; rw [if_neg h1, if_pos h2]
  ·
   skip
   refine gC h (zk (zS (za rfl (zn (zt ?_))))); clear h; intro a w h
   refine Xd h (Zk h rfl (.tmp rfl)) ?_
   unfold Zpc; have h1 := of_decide_eq_false hc16; have h2 := of_decide_eq_false hc19; rw [if_neg h1, if_neg h2]
end
section
end
section
theorem Qca {b off : Nat} (w : World) : (Instr.fieldAt 24 (.pointer (some ⟨b, off, none⟩)) 0).run Tryz.prog w = .ok (.pointer (some ⟨b, off + 0, none⟩)) w := by
 simp [go_sem]
theorem Qb9 {b off : Nat} (w : World) : (Instr.fieldAt 24 (.pointer (some ⟨b, off, none⟩)) 1).run Tryz.prog w = .ok (.pointer (some ⟨b, off + 1, none⟩)) w := by
 simp [go_sem]
theorem Qck (x : Int) (w : World) : (Go.convert 22 2 (.int .u32 x)).run Tryz.prog w = .ok (.int .i64 (IntKind.i64.wrap x)) w := by
 simp [go_sem]
theorem Zzn (x : Int) (h0 : IntKind.i64.wrap x = x) (w : World) : (Go.convert 22 2 (.int .u32 x)).run Tryz.prog w = .ok (.int .i64 x) w := by
 rw [Qck, h0]
def qv (N D : Int) : Rat := ((N : Int) : Rat) / ((max D 1 : Int) : Rat)
theorem Qb4 (N D : Int) (h0 : -9223372036854775808 ≤ N) (h1 : N ≤ 9223372036854775807) (h2 : 0 ≤ D) (h3 : D ≤ 4294967295) : Zu (qv N D) ≤ 4 := Zgd N (max D 1) h0 h1 oo oo
theorem Qcp (x y : Int) (w : World) (ty : TypeId) (cs : Array Bool) : (Go.builtin .max #[22, 22] ty cs #[.int .u32 x, .int .u32 y]).run Tryz.prog w = .ok (.value (.int .u32 (max x y))) w := by
 simp [go_sem] <;> (try rw [Int.max_def]) <;> (try split) <;> (try split) <;> (try omega)
abbrev encQ2 (q : Int × Int) : Value := .agg #[.int .i64 q.1, .int .u32 q.2]
def OkQ (q : Int × Int) : Prop := -9223372036854775808 ≤ q.1 ∧ q.1 ≤ 9223372036854775807 ∧ 0 ≤ q.2 ∧ q.2 ≤ 4294967295
def qvp (q : Int × Int) : Rat := qv q.1 q.2
theorem Qy {q : Int × Int} (h : OkQ q) : Zu (qvp q) ≤ 4 := Qb4 _ _ h.1 h.2.1 h.2.2.1 h.2.2.2
theorem C_qOf (N D : Int) (h0 : -9223372036854775808 ≤ N) (h1 : N ≤ 9223372036854775807) (h2 : 0 ≤ D) (h3 : D ≤ 4294967295) : Xm Tryz.prog 19 [.agg #[.int .i64 N, .int .u32 D]] (Zr (qv N D)) := by
 refine fn_intro func19 rfl ntmps19 nb ?_
 intro S w0 a hS h
 refine gC h (zS (zx rfl fun b1 => zz Ju fun b2 => zn (zS (zp (.fA rfl Qca) (zd rfl mr isAgg2 sizeOf2 Vp ?_)))))
 refine zp (.fA rfl Qb9) (zd rfl mr isAgg22 sizeOf22 Kq ?_)
 refine zp (.builtin [_, _] rfl (fun w ty cs => Qcp _ _ w ty cs)) (zp (.convert rfl (Zzn _ (wrap_i64 _ oo oo))) (zv [_, _] rfl call69 (Qdm _ _ oo oo oo oo oo) ?_))
 have hl12 := Zgd (N) (max D 1) oo oo oo oo
 refine zm rfl (zp (.eX rfl) (zp (.eX rfl) (zz Ju fun b3 => zt' rfl rfl Zp uu sizeOf41 rfl nb rfl ?_)))
 refine za rfl (zn (zS (zd rfl mr isAgg41 sizeOf41 Zh ?_)))
 refine zt' rfl rfl Zp uu sizeOf41 rfl nb rfl ?_; intro a w h
 refine wpList_nil (wp_ret ?_)
 refine Xd h (Zk h rfl (.cell rfl mr isAgg41 sizeOf41 Zh)) ?_
 rfl
end
section
theorem Zda (a : Option Addr) (n c : Nat) (w : World) (ty : TypeId) (cs : Array Bool) : (Go.builtin .len #[215] ty cs #[.slice a n c]).run Tryz.prog w = .ok (.value (.int .i64 n)) w := by
 simp [go_sem]
theorem Zvu (b off n c j : Nat) (h : j < n) (w : World) : (Instr.indexAt 215 (.slice (some ⟨b, off, none⟩) n c) (.int .i64 (j : Int))).run Tryz.prog w = .ok (.pointer (some ⟨b, off + j, none⟩)) w := by
 simpa using Xi runUnderlying215 sizeOf3 b off n c j h w
theorem Kh (x0 : Int) (x1 : Int) (x2 : Int) (w : World) : (Instr.build 108 [(0, .int .i64 x0), (1, .int .i64 x1), (2, .int .i64 x2)].toArray).run Tryz.prog w = .ok (.agg #[.int .i64 x0, .int .i64 x1, .int .i64 x2]) w := by simp [go_sem]
theorem Zjp (x0 : Int) (x1 : Int) (x2 : Int) (w : World) : (Instr.buildSlice 215 3 [(0, .int .i64 x0), (1, .int .i64 x1), (2, .int .i64 x2)].toArray).run Tryz.prog w = .ok (.slice (some ⟨w.heap.size, 0, none⟩) 3 3) (w.alloc (.cells #[.int .i64 x0, .int .i64 x1, .int .i64 x2] 3 (0, 0))) := by
 simp [go_sem]
def upQ (q : Rat) : Nat → Rat
 | 0 => q
 | p + 1 => upQ q p * (((p + 1 : Nat) : Int) : Rat)
def Zjo (q : Rat) : Nat → Rat
 | 0 => q
 | n + 1 => Zjo q n / (((n + 1 : Nat) : Int) : Rat)
def Zev (n : Nat) (l : List Nat) : Rat := Zjo (l.foldl upQ 1) n
def Zdv (i j k : Nat) : Rat := ((2 : Int) : Rat) * Zev (i + j + k + 2) [i, j, k]
theorem Zin (q : Rat) : ∀ p, p ≤ 1000000 → Zu (upQ q p) ≤ Zu q + 2 * p
 | 0, _ => Nat.le_refl _
 | p + 1, h => by
  have h1 := Zin q p oo
  have h2 := Zs ((p + 1 : Nat) : Int) oo oo
  have h3 := Zm (upQ q p) (((p + 1 : Nat) : Int) : Rat)
  show Zu (upQ q p * _) ≤ _
  omega
theorem Zdz (q : Rat) : ∀ p, p ≤ 1000000 → Zu (Zjo q p) ≤ Zu q + 2 * p
 | 0, _ => Nat.le_refl _
 | p + 1, h => by
  have h1 := Zdz q p oo
  have h2 := Zs ((p + 1 : Nat) : Int) oo oo
  have h3 := Ym (Zjo q p) (((p + 1 : Nat) : Int) : Rat)
  show Zu (Zjo q p / _) ≤ _
  omega
theorem Zem : Zu 1 ≤ 2 := Zs 1 oo oo
theorem Zfs : ∀ (l : List Nat) (q : Rat), (∀ x ∈ l, x ≤ 48) → Zu (l.foldl upQ q) ≤ Zu q + 96 * l.length
 | [], q, _ => by simp
 | x :: l, q, h => by
  have h1 := Zfs l (upQ q x) (fun y hy => h y (List.mem_cons_of_mem _ hy))
  have h0 := h x List.mem_cons_self
  have h2 := Zin q x oo
  simp only [List.foldl_cons, List.length_cons]
  omega
theorem int_ne {n : Nat} : ((((n + 1 : Nat) : Int) : Rat)) ≠ 0 := fun e => by have := Rat.intCast_eq_zero_iff.1 e; omega
theorem Zrf (n : Nat) (l : List Nat) (ad : Option Addr) (c : Nat) (hn : n ≤ 200) (hl : l.length ≤ 10) (hx : ∀ x ∈ l, x ≤ 48) :
  Gh Tryz.prog 129 [.int .i64 ((n : Nat) : Int), .slice ad l.length c] [Row ad (List.map Zfb l)] (Zr (Zev n l)) := by
 refine fn_intro func129 rfl ntmps129 nb ?_
 intro S w0 a hS h
 refine gC h (zS (zz Ju fun b4 => zn (zS (zv [_] rfl call21 (Ye _ oo oo) ?_))))
 have hl10 := Zs (1) oo oo
 refine zz Ju fun b5 => zt' rfl rfl Zp uu sizeOf41 rfl nb rfl ?_
 refine zn (zs (zS (zm rfl (zp (.builtin [_] rfl (Zda _ _ _)) (zm rfl (zn (zb ?_))))))); intro a w h
 refine Zn (fun (k : Nat) a w => k ≤ l.length ∧ St 42 S w0 [(0, nI n), (4, pB b4), (5, pB b5), (11, .slice ad l.length c), (12, nI l.length), (13, nI k)] [(b5, bV (Zr ((l.take k).foldl upQ 1)) 41), (b4, bV (Zr (0)) 41)] [Row ad (List.map Zfb l)] a w) (fun k => l.length - k) 0 (⟨Nat.zero_le _, by exact (h).sub sA⟩) ?_; clear h
 rintro k a w ⟨hi_k, h⟩
 refine gC h (zS (zp (.lss rfl rfl) (zn (zs ?_)))); clear h; intro a w h
 refine Zg h rfl (fun hc14 => ?_) (fun hc14 => ?_)
 ·
  skip
  have hlt_k : k < l.length := dT hc14
  obtain ⟨B_ad, O_ad, rfl⟩ := h.row_addr (ad := ad) (M := List.map Zfb l) mm nF
  have hxk := hx (l.getD k 0) (getD_mem _ hlt_k)
  have hlk := Zfs (l.take k) 1 (fun x hx' => hx x (List.mem_of_mem_take hx'))
  rw [List.length_take] at hlk
  have hl1 := Zem
  refine gC h (zk (zs (zb (zS (zp (.indexAddr rfl rfl (Zvu _ _ _ _ _ oo)) (zD rfl mm (by rw [List.length_map]; omega) isAgg3 sizeOf3 (Zy (enc := Zfb) (l := l) 0 oo) (.inr rfl) ?_))))))
  refine za rfl (zn (zS (zm rfl (zm rfl (zn (zb ?_)))))); intro a w h
  refine Zn (fun (i : Nat) a w => i ≤ l.getD k 0 ∧ St 42 S w0 [(0, nI n), (4, pB b4), (5, pB b5), (11, .slice (some ⟨B_ad, O_ad, none⟩) l.length c), (12, nI l.length), (13, nI k), (17, nI (l.getD k 0)), (18, nI i)] [(b5, bV (Zr (upQ ((l.take k).foldl upQ 1) i)) 41), (b4, bV (Zr (0)) 41)] [Row (some ⟨B_ad, O_ad, none⟩) (List.map Zfb l)] a w) (fun i => l.getD k 0 - i) 0 (⟨Nat.zero_le _, by exact (h).sub sA⟩) ?_; clear h
  rintro i a w ⟨hi_i, h⟩
  refine gC h (zS (zp (.lss rfl rfl) (zn (zs ?_)))); clear h; intro a w h
  refine Zg h rfl (fun hc19 => ?_) (fun hc19 => ?_)
  ·
   skip
   have hlt_i : i < l.getD k 0 := dT hc19
   have hli := Zin ((l.take k).foldl upQ 1) i oo
   refine gC h (zk (zs (zb (zS (zm rfl (za rfl (zn (yD Za [0, 1, 2, 3, 4, 5] (Zd kk) (yd rfl rfl mr isAgg41 sizeOf41 Zh ?_))))))))); clear h
   refine ym rfl rfl (yp rfl (.pN (i + 1) (.add rfl rfl)) (yv [_] rfl rfl call21 (Ye _ oo oo) ?_))
   have hl24 := Zs (((i + 1 : Nat) : Int)) oo oo
   refine yv [_, _] rfl rfl call18 (Jc _ _ oo oo) ?_
   have hl25 := Zm (upQ ((l.take k).foldl upQ 1) i) (((((i + 1 : Nat) : Int) : Int) : Rat))
   refine yt rfl rfl rfl Zp uu sizeOf41 rfl nb rfl ?_
   refine yn (zr (zp (.pN (i + 1) (.add rfl rfl)) (zm rfl (zn ?_)))); intro a w h
   exact ⟨i + 1, ⟨oo, h.sub sA⟩, oo⟩
  ·
   skip
   have heq_i : l.getD k 0 = i := dF hc19
   subst heq_i
   refine gC h (ze (zr (zp (.pN (k + 1) (.add rfl rfl)) (zm rfl (zn ?_))))); clear h; intro a w h
   rw [← Zd1 (f := upQ) l 1 k 0 hlt_k] at h
   exact ⟨k + 1, ⟨oo, (h.factsSub (by simp)).sub sA⟩, oo⟩
 ·
  skip
  have heq_k : l.length = k := dF hc14
  subst heq_k
  refine gC h (ze (zs (zS (zm rfl (zm rfl (zn (zb ?_))))))); clear h; intro a w h
  rw [List.take_length] at h
  refine Zn (fun (m : Nat) a w => m ≤ n ∧ St 42 S w0 [(0, nI n), (4, pB b4), (5, pB b5), (11, .slice ad l.length c), (12, nI l.length), (13, nI l.length), (28, nI n), (29, nI m)] [(b5, bV (Zr (Zjo (l.foldl upQ 1) m)) 41), (b4, bV (Zr (0)) 41)] [Row ad (List.map Zfb l)] a w) (fun m => n - m) 0 (⟨Nat.zero_le _, by exact (h).sub sA⟩) ?_; clear h
  rintro m a w ⟨hi_m, h⟩
  refine gC h (zS (zp (.lss rfl rfl) (zn (zs ?_)))); clear h; intro a w h
  refine Zg h rfl (fun hc30 => ?_) (fun hc30 => ?_)
  ·
   skip
   have hlt_m : m < n := dT hc30
   have hlm := Zdz (l.foldl upQ 1) m oo
   have hlk := Zfs l 1 hx
   have hl1 := Zem
   refine gC h (zk (zs (zb (zS (zm rfl (za rfl (zn (yD Za [0, 1, 2, 3, 4, 5, 6, 7, 8] (Zd kk) (yd rfl rfl mr isAgg41 sizeOf41 Zh ?_))))))))); clear h
   refine ym rfl rfl (yp rfl (.pN (m + 1) (.add rfl rfl)) (yv [_] rfl rfl call21 (Ye _ oo oo) ?_))
   have hl36 := Zs (((m + 1 : Nat) : Int)) oo oo
   refine yv [_, _] rfl rfl call91 (Zdi _ _ int_ne oo oo) (ym rfl rfl (yp rfl (.eX rfl) (yp rfl (.eX rfl) (yt rfl rfl rfl Zp uu sizeOf41 rfl nb rfl ?_))))
   refine yn (zr (zp (.pN (m + 1) (.add rfl rfl)) (zm rfl (zn ?_)))); intro a w h
   exact ⟨m + 1, ⟨oo, h.sub sA⟩, oo⟩
  ·
   skip
   have heq_m : n = m := dF hc30
   subst heq_m
   refine gC h (ze (zS (zd rfl mr isAgg41 sizeOf41 Zh ?_)))
   refine zt' rfl rfl Zp uu sizeOf41 rfl nb rfl ?_; intro a w h
   refine wpList_nil (wp_ret ?_)
   refine Xd h (Zk h rfl (.cell rfl mr isAgg41 sizeOf41 Zh)) ?_
   rfl
theorem ix3 (a b c m : Nat) (h : m < 3) (w : World) : (Instr.index 108 (.agg #[.int .i64 (a : Int), .int .i64 (b : Int), .int .i64 (c : Int)]) (.int .i64 (m : Int))).run Tryz.prog w = .ok (.int .i64 (([a, b, c].getD m 0 : Nat) : Int)) w := by
 match m, h with
 | 0, _ => unfold Instr.index; simp [go_sem]
 | 1, _ => unfold Instr.index; simp [go_sem]
 | 2, _ => unfold Instr.index; simp [go_sem]
theorem Zio (i j k : Nat) (hi : i ≤ 48) (hj : j ≤ 48) (hk : k ≤ 48) : Zu (Zdv i j k) ≤ 1000 := by
 unfold Zdv Zev
 have h1 := Zm ((2 : Int) : Rat) (Zjo ([i, j, k].foldl upQ 1) (i + j + k + 2))
 have h2 := Zs 2 oo oo
 have h3 := Zdz ([i, j, k].foldl upQ 1) (i + j + k + 2) oo
 have h4 := Zfs [i, j, k] 1 (by simp; omega)
 have h5 := Zem
 simp only [List.length_cons, List.length_nil] at h4
 omega
theorem Qac (i j k : Nat) (hi : i ≤ 48) (hj : j ≤ 48) (hk : k ≤ 48) :
  Xm Tryz.prog 154 [.int .i64 ((i : Nat) : Int), .int .i64 ((j : Nat) : Int), .int .i64 ((k : Nat) : Int)] (Zr (Zdv i j k)) := by
 refine fn_intro func154 rfl ntmps154 nb ?_
 intro S w0 a hS h
 refine gC h (zS (zz Ju fun b6 => zn (zs (zS (zm rfl (zm rfl (zm rfl (zp (.build [(_, _), (_, _), (_, _)] rfl (Kh _ _ _)) (zm rfl (zn (zb ?_))))))))))); clear h; intro a w h
 refine Zn (fun (m : Nat) a w => m ≤ 3 ∧ St 37 S w0 [(0, nI i), (1, nI j), (2, nI k), (6, pB b6), (12, .agg #[.int .i64 (i : Int), .int .i64 (j : Int), .int .i64 (k : Int)]), (13, nI m)] [(b6, bV (Zr (0)) 41)] [] a w) (fun m => 3 - m) 0 (⟨Nat.zero_le _, by exact (h).sub sA⟩) ?_; clear h
 rintro m a w ⟨hi_m, h⟩
 refine gC h (zS (zp (.lss rfl rfl) (zn (zs ?_)))); clear h; intro a w h
 refine Zg h rfl (fun hc14 => ?_) (fun hc14 => ?_)
 ·
  skip
  have hlt_m : m < 3 := dT hc14
  have hb : [i, j, k].getD m 0 ≤ 48 := by match m, hlt_m with | 0, _ => exact hi | 1, _ => exact hj | 2, _ => exact hk
  refine gC h (zk (zs (zb (zS (zp (.index rfl rfl (fun w => ix3 i j k m oo w)) (za rfl (zn (zS (zm rfl (zp (.lss rfl rfl) ?_)))))))))); clear h; intro a w h
  refine Qp h (fun hc17 h => (by exfalso; have := of_decide_eq_true hc17; omega)) (fun hc17 h => ?_)
  refine gL h (zm rfl (zq 18 rfl rfl (.move rfl) (zq 18 rfl rfl (.gtr rfl rfl) ?_))); clear h; intro a w h
  refine Qp h (fun hc20 h => (by exfalso; have := of_decide_eq_true hc20; omega)) (fun hc20 h => ?_)
  refine gL h (zp (.pickF rfl rfl) (zn ?_)); clear h; intro a w h
  refine cW ?_
  refine Zf h rfl ?_
  refine gC h (zk (zr (zp (.pN (m + 1) (.add rfl rfl)) (zm rfl (zn ?_))))); clear h; intro a w h
  exact ⟨m + 1, ⟨oo, h.sub sA⟩, oo⟩
 ·
  skip
  have heq_m : 3 = m := dF hc14
  subst heq_m
  refine gC h (ze (zS (zv [_] rfl call21 (Ye _ oo oo) ?_)))
  have hl24 := Zs (2) oo oo
  refine zm rfl (zm rfl (zp (.pN (i + j) (.add rfl rfl)) (zm rfl (zp (.pN ((i + j) + k) (.add rfl rfl)) (zp (.pN (((i + j) + k) + 2) (.add rfl rfl)) (zm rfl (zm rfl (zm rfl (zB [(_, _), (_, _), (_, _)] rfl (Zjp _ _ _) fun b34 => ?_))))))))); intro a w h
  replace h := h.shareAll hS (List.map Zfb ([i, j, k])) rfl
  have hlr : Zu (Zev (i + j + k + 2) [i, j, k]) ≤ 900 := by have := Zdz ([i, j, k].foldl upQ 1) (i + j + k + 2) oo; have h4 := Zfs [i, j, k] 1 (by simp; omega); have := Zem; simp only [List.length_cons, List.length_nil] at h4; unfold Zev; omega
  refine gL h (zw [_, _] rfl call129 (Zrf (i + j + k + 2) [i, j, k] _ _ oo ss (by simp; omega)) (zv [_, _] rfl call18 (Jc _ _ oo oo) ?_))
  have hl36 := Zm (((2 : Int) : Rat)) (Zev (i + j + k + 2) [i, j, k])
  refine zt' rfl rfl Zp uu sizeOf41 rfl nb rfl ?_; intro a w h
  refine wpList_nil (wp_ret ?_)
  refine Xd h (Zk h rfl (.cell rfl mr isAgg41 sizeOf41 Zh)) ?_
  rfl
end
section
abbrev enci (x : Int) : Value := .int .i64 x
def orI : List Int → Int
 | [] => 0
 | x :: l => if x ≠ 0 then x else orI l
theorem Zuy : ∀ (l : List Int) (i : Nat), (∀ j, j < i → l.getD j 0 = 0) → i < l.length → l.getD i 0 ≠ 0 → orI l = l.getD i 0
 | [], i, _, h, _ => by simp at h
 | x :: l, 0, _, _, h => by rw [orI]; exact if_pos (by simpa using h)
 | x :: l, i + 1, hz, hl, h => by
  have h0 : x = 0 := by simpa using hz 0 oo
  rw [orI, if_neg (by simp [h0]), Zuy l i (fun j hj => by simpa using hz (j + 1) oo) (by simpa using hl) (by simpa using h)]
  simp
theorem Zqd : ∀ (l : List Int), (∀ j, j < l.length → l.getD j 0 = 0) → orI l = 0
 | [], _ => rfl
 | x :: l, hz => by
  have h0 : x = 0 := by simpa using hz 0 ss
  rw [orI, if_neg (by simp [h0]), Zqd l (fun j hj => by simpa using hz (j + 1) (by simpa using hj))]
def idxN : List Rat → Nat → Int
 | [], _ => -1
 | x :: l, i => if x.num.sign < 0 then (i : Int) else idxN l (i + 1)
def cfN (E : List Rat) (i k : Nat) : Int := orI [(E.getD k 0 - E.getD i 0).num.sign, Zpc (i : Int) (k : Int)]
theorem C_Or (ad : Option Addr) (c : Nat) (l : List Int) (hn : l.length ≤ 1000) : Gh Tryz.prog 169 [.slice ad l.length c] [Row ad (List.map enci l)] (.int .i64 (orI l)) := by
 refine fn_intro func169 rfl ntmps169 nb ?_
 intro S w0 a hS h
 refine gC h (zS (za rfl (zn (zS (za rfl (zn (zs (zS (zm rfl (zp (.builtin [_] rfl (Zda _ _ _)) (zm rfl (zn (zb ?_))))))))))))); clear h; intro a w h
 refine Zn (fun (i : Nat) a w => i ≤ l.length ∧ (∀ j, j < i → l.getD j 0 = 0) ∧ St 18 S w0 [(3, .int .i64 0), (6, .slice ad l.length c), (7, nI l.length), (8, nI i)] [] [Row ad (List.map enci l)] a w) (fun i => l.length - i) 0 (⟨Nat.zero_le _, fun j hj => absurd hj oo, by exact (h).sub sA⟩) ?_; clear h
 rintro i a w ⟨hi_i, hinv_i, h⟩
 refine gC h (zS (zp (.lss rfl rfl) (zn (zs ?_)))); clear h; intro a w h
 refine Zg h rfl (fun hc9 => ?_) (fun hc9 => ?_)
 ·
  skip
  have hlt_i : i < l.length := dT hc9
  obtain ⟨B_ad, O_ad, rfl⟩ := h.row_addr (ad := ad) (M := List.map enci l) mm nF
  refine gC h (zk (zs (zb (zS (zp (.indexAddr rfl rfl (Zvu _ _ _ _ _ oo)) (zD rfl mm (by rw [List.length_map]; omega) isAgg3 sizeOf3 (Zy (enc := enci) (l := l) 0 oo) (.inr rfl) ?_))))))
  refine za rfl (zn (zS (zm rfl (zm rfl (zp (.neq rfl rfl) ?_))))); intro a w h
  refine Qp h (fun hc14 h => ?_) (fun hc14 h => ?_)
  ·
   skip
   refine wpList_nil ?_
   refine cW ?_
   refine Zi h rfl ?_
   refine gC h (zS (zm rfl (za rfl (zn (zt ?_))))); clear h; intro a w h
   refine Xd h (Zk h rfl (.tmp rfl)) ?_
   rw [Zuy l i hinv_i hlt_i (by simpa using hc14)]
  ·
   skip
   refine wpList_nil ?_
   refine cW ?_
   refine Zf h rfl ?_
   refine gC h (zk (zr (zp (.pN (i + 1) (.add rfl rfl)) (zm rfl (zn ?_))))); clear h; intro a w h
   exact ⟨i + 1, ⟨oo, fun j hj => by
    rcases Nat.lt_or_ge j i with h1 | h1
    · exact hinv_i j h1
    · rw [show j = i by omega]; simpa using hc14, (h.factsSub (by simp)).sub sA⟩, oo⟩
 ·
  skip
  have heq_i : l.length = i := dF hc9
  subst heq_i
  refine gC h (ze (zS (zm rfl (za rfl (zn (zt ?_)))))); clear h; intro a w h
  refine Xd h (Zk h rfl (.tmp rfl)) ?_
  rw [Zqd l hinv_i]
end
section
structure Tm where
 i : Nat
 j : Nat
 c : Rat
theorem Tm.ext' {s t : Tm} (h1 : s.i = t.i) (h2 : s.j = t.j) (h3 : s.c = t.c) : s = t := by cases s; cases t; simp_all
instance : DecidableEq Tm := fun s t => decidable_of_iff (s.i = t.i ∧ s.j = t.j ∧ s.c = t.c) ⟨fun h => Tm.ext' h.1 h.2.1 h.2.2, fun h => by rw [h]; exact ⟨rfl, rfl, rfl⟩⟩
def lin (φ : Nat → Nat → Rat) : List Tm → Rat
 | [] => 0
 | t :: l => t.c * φ t.i t.j + lin φ l
theorem Zox (φ : Nat → Nat → Rat) : lin φ [] = 0 := rfl
theorem Gv (φ : Nat → Nat → Rat) : ∀ l m : List Tm, lin φ (l ++ m) = lin φ l + lin φ m
 | [], m => by simp only [List.nil_append, lin]; grind
 | t :: l, m => by simp only [List.cons_append, lin, Gv φ l m]; grind
theorem Zyr (φ : Nat → Nat → Rat) {l m : List Tm} (h : l.Perm m) : lin φ l = lin φ m := by
 induction h with
 | nil => rfl
 | cons x _ ih => simp only [lin, ih]
 | swap x y l => simp only [lin]; grind
 | trans _ _ h1 h2 => rw [h1, h2]
theorem Zcr {φ ψ : Nat → Nat → Rat} : ∀ {l : List Tm}, (∀ t ∈ l, φ t.i t.j = ψ t.i t.j) → lin φ l = lin ψ l
 | [], _ => rfl
 | t :: l, h => by rw [lin, lin, h t List.mem_cons_self, Zcr (fun s hs => h s (List.mem_cons_of_mem _ hs))]
theorem Zhm (a : Rat) (φ : Nat → Nat → Rat) : ∀ l : List Tm, lin (fun i j => a * φ i j) l = a * lin φ l
 | [] => by simp only [lin]; grind
 | t :: l => by simp only [lin, Zhm a φ l]; grind
theorem Zql (a : Rat) (φ : Nat → Nat → Rat) : ∀ l : List Tm, lin (fun i j => φ i j * a) l = lin φ l * a
 | [] => by simp only [lin]; grind
 | t :: l => by simp only [lin, Zql a φ l]; grind
theorem Zlb (φ : Nat → Nat → Rat) (g : Tm → Tm) (ψ : Nat → Nat → Rat) : ∀ l : List Tm, (∀ t ∈ l, (g t).c * φ (g t).i (g t).j = t.c * ψ t.i t.j) → lin φ (l.map g) = lin ψ l
 | [], _ => rfl
 | t :: l, h => by rw [List.map_cons, lin, lin, h t List.mem_cons_self, Zlb φ g ψ l (fun s hs => h s (List.mem_cons_of_mem _ hs))]
theorem Ze2 (φ : Nat → Nat → Rat) (g : Tm → List Tm) (ψ : Nat → Nat → Rat) : ∀ l : List Tm, (∀ t ∈ l, lin φ (g t) = t.c * ψ t.i t.j) → lin φ (l.flatMap g) = lin ψ l
 | [], _ => rfl
 | t :: l, h => by rw [List.flatMap_cons, Gv, lin, h t List.mem_cons_self, Ze2 φ g ψ l (fun s hs => h s (List.mem_cons_of_mem _ hs))]
def same (s t : Tm) : Prop := s.i = t.i ∧ s.j = t.j
instance (s t : Tm) : Decidable (same s t) := inferInstanceAs (Decidable (_ ∧ _))
def Zdl (t : Tm) : List Tm → List Tm
 | [] => [⟨t.i, t.j, 0 + t.c⟩]
 | s :: p => if same s t then ⟨s.i, s.j, s.c + t.c⟩ :: p else s :: Zdl t p
theorem Zqm (φ : Nat → Nat → Rat) (t : Tm) : ∀ p : List Tm, lin φ (Zdl t p) = lin φ p + t.c * φ t.i t.j
 | [] => by simp only [Zdl, lin]; grind
 | s :: p => by
  rw [Zdl]
  split
  · rename_i h; obtain ⟨h1, h2⟩ := h; simp only [lin, h1, h2]; grind
  · simp only [lin, Zqm φ t p]; grind
theorem Zll {t u : Tm} : ∀ {p : List Tm}, u ∈ Zdl t p → same u t ∨ u ∈ p
 | [], h => by simp only [Zdl, List.mem_singleton] at h; subst h; exact .inl ⟨rfl, rfl⟩
 | s :: p, h => by
  rw [Zdl] at h
  split at h
  ·
   rename_i h2
   rcases List.mem_cons.1 h with rfl | h
   · exact .inl h2
   · exact .inr (List.mem_cons_of_mem _ h)
  ·
   rcases List.mem_cons.1 h with rfl | h
   · exact .inr List.mem_cons_self
   · exact (Zll h).imp id (List.mem_cons_of_mem _)
def dif (p : List Tm) : Prop := p.Pairwise (fun s t => ¬ same s t)
theorem Zqy (t : Tm) : ∀ {p : List Tm}, dif p → dif (Zdl t p)
 | [], _ => by rw [Zdl]; exact List.pairwise_singleton _ _
 | s :: p, h => by
  obtain ⟨h1, h2⟩ := List.pairwise_cons.1 h
  rw [Zdl]
  split
  · rename_i hs; exact List.pairwise_cons.2 ⟨fun u hu hc => h1 u hu hc, h2⟩
  ·
   rename_i hs
   refine List.pairwise_cons.2 ⟨fun u hu => ?_, Zqy t h2⟩
   rcases Zll hu with h3 | h3
   · exact fun h4 => hs ⟨h4.1.trans h3.1, h4.2.trans h3.2⟩
   · exact h1 u h3
theorem Zqx (t : Tm) : ∀ p : List Tm, (Zdl t p).length ≤ p.length + 1
 | [] => Nat.le_refl _
 | s :: p => by
  have h := Zqx t p
  rw [Zdl]; split <;> simp only [List.length_cons] <;> omega
def collect (l : List Tm) : List Tm := l.foldl (fun p t => Zdl t p) []
theorem Zi5 (φ : Nat → Nat → Rat) : ∀ (l p : List Tm), lin φ (l.foldl (fun p t => Zdl t p) p) = lin φ p + lin φ l
 | [], p => by simp only [List.foldl_nil, lin]; grind
 | t :: l, p => by rw [List.foldl_cons, Zi5 φ l, Zqm, lin]; grind
theorem Zoy (φ : Nat → Nat → Rat) (l : List Tm) : lin φ (collect l) = lin φ l := by
 rw [collect, Zi5, lin]; grind
theorem Zd6 : ∀ (l : List Tm) {p : List Tm}, dif p → dif (l.foldl (fun p t => Zdl t p) p)
 | [], p, h => h
 | t :: l, p, h => by rw [List.foldl_cons]; exact Zd6 l (Zqy t h)
theorem Zi6 (l : List Tm) : dif (collect l) := Zd6 l List.Pairwise.nil
theorem Zd4 {u : Tm} : ∀ (l : List Tm) {p : List Tm}, u ∈ l.foldl (fun p t => Zdl t p) p → u ∈ p ∨ ∃ t ∈ l, same u t
 | [], p, h => .inl h
 | t :: l, p, h => by
  rw [List.foldl_cons] at h
  rcases Zd4 l h with h1 | ⟨s, hs, h1⟩
  ·
   rcases Zll h1 with h2 | h2
   · exact .inr ⟨t, List.mem_cons_self, h2⟩
   · exact .inl h2
  · exact .inr ⟨s, List.mem_cons_of_mem _ hs, h1⟩
theorem Zi4 {l : List Tm} {u : Tm} (h : u ∈ collect l) : ∃ t ∈ l, same u t := by
 rcases Zd4 l h with h | h
 · cases h
 · exact h
theorem Zd5 : ∀ (l p : List Tm), (l.foldl (fun p t => Zdl t p) p).length ≤ p.length + l.length
 | [], p => Nat.le_refl _
 | t :: l, p => by rw [List.foldl_cons]; have := Zd5 l (Zdl t p); have := Zqx t p; simp only [List.length_cons]; omega
theorem Ze4 (l : List Tm) : (collect l).length ≤ l.length := by have := Zd5 l []; simpa [collect] using this
def ltT (s t : Tm) : Bool := decide (s.i + s.j < t.i + t.j ∨ (s.i + s.j = t.i + t.j ∧ s.j < t.j))
theorem Zdw (s t : Tm) : ltT s t = true ↔ (s.i + s.j < t.i + t.j ∨ (s.i + s.j = t.i + t.j ∧ s.j < t.j)) := decide_eq_true_iff
theorem Zkh (s : Tm) : ltT s s = false := by rw [Bool.eq_false_iff, Ne, Zdw]; omega
theorem Zil {s t u : Tm} (h1 : ltT s t = true) (h2 : ltT t u = true) : ltT s u = true := by rw [Zdw] at *; omega
theorem Zkg {s t u : Tm} (h1 : ltT s t = false) (h2 : ltT t u = false) : ltT s u = false := by rw [Bool.eq_false_iff, Ne, Zdw] at *; omega
theorem Zim {s t : Tm} (h1 : ltT s t = false) (h2 : ltT t s = false) : same s t := by
 rw [Bool.eq_false_iff, Ne, Zdw] at *; unfold same; omega
def Nrm (p : List Tm) : Prop := (∀ t ∈ p, t.c ≠ 0) ∧ p.Pairwise (fun s t => ltT s t = true)
def norm (l : List Tm) : List Tm := ((collect l).filter (fun t => decide (t.c ≠ 0))).mergeSort (fun s t => !ltT t s)
theorem Zgc (φ : Nat → Nat → Rat) : ∀ l : List Tm, lin φ (l.filter (fun t => decide (t.c ≠ 0))) = lin φ l
 | [] => rfl
 | t :: l => by
  rw [List.filter_cons]
  split
  · rw [lin, lin, Zgc φ l]
  ·
   rename_i h
   have h0 : t.c = 0 := by simpa using h
   rw [lin, Zgc φ l, h0]; grind
theorem Zb5 (φ : Nat → Nat → Rat) (l : List Tm) : lin φ (norm l) = lin φ l := by
 rw [norm, Zyr φ (List.mergeSort_perm _ _), Zgc, Zoy]
theorem Zk9 {l : List Tm} {u : Tm} (h : u ∈ norm l) : u ∈ collect l ∧ u.c ≠ 0 := by
 have := (List.mergeSort_perm _ _).mem_iff.1 h
 rw [List.mem_filter] at this
 exact ⟨this.1, by simpa using this.2⟩
theorem Zc9 (l : List Tm) : Nrm (norm l) := by
 refine ⟨fun t ht => (Zk9 ht).2, ?_⟩
 have hd : dif (norm l) := by
  have h1 : dif ((collect l).filter (fun t => decide (t.c ≠ 0))) := List.Pairwise.filter _ (Zi6 l)
  refine (List.Perm.pairwise_iff (fun {x y} h h2 => h ⟨h2.1.symm, h2.2.symm⟩) (List.mergeSort_perm _ _)).2 h1
 have hs := List.pairwise_mergeSort (le := fun s t => !ltT t s) (fun a b c h1 h2 => by
   simp only [Bool.not_eq_true'] at *
   exact Zkg h2 h1) (fun a b => by
   rcases h : ltT b a with _ | _
   · simp
   ·
    have : ltT a b = false := by rw [Bool.eq_false_iff]; intro h2; have := Zil h h2; rw [Zkh] at this; cases this
    simp [this]) ((collect l).filter (fun t => decide (t.c ≠ 0)))
 refine List.Pairwise.imp₂ (fun s t h1 h2 => ?_) hs hd
 rcases h : ltT s t with _ | _
 · exact absurd (Zim h (by simpa using h1)) h2
 · rfl
def at0 (a b : Nat) : Nat → Nat → Rat := fun i j => if i = a ∧ j = b then 1 else 0
theorem Zb6 {a b : Nat} : ∀ {l : List Tm}, (∀ t ∈ l, ¬ (t.i = a ∧ t.j = b)) → lin (at0 a b) l = 0
 | [], _ => rfl
 | t :: l, h => by
  rw [lin, Zb6 (fun s hs => h s (List.mem_cons_of_mem _ hs)), at0, if_neg (h t List.mem_cons_self)]; grind
theorem Zqf {t : Tm} {p : List Tm} (h : Nrm (t :: p)) : Nrm p := ⟨fun s hs => h.1 s (List.mem_cons_of_mem _ hs), (List.pairwise_cons.1 h.2).2⟩
theorem Zc8 {t : Tm} {p : List Tm} (h : Nrm (t :: p)) : lin (at0 t.i t.j) (t :: p) = t.c := by
 rw [lin, Zb6 (fun s hs => ?_), at0, if_pos ⟨rfl, rfl⟩]
 · grind
 ·
  have := (List.pairwise_cons.1 h.2).1 s hs
  rw [Zdw] at this; omega
theorem Zqg {s t : Tm} {q : List Tm} (h : ltT s t = true) (hq : Nrm (t :: q)) : lin (at0 s.i s.j) (t :: q) = 0 := by
 refine Zb6 (fun u hu => ?_)
 have hu' : ltT s u = true := by
  rcases List.mem_cons.1 hu with rfl | hu
  · exact h
  · exact Zil h ((List.pairwise_cons.1 hq.2).1 u hu)
 rw [Zdw] at hu'; omega
theorem Zop : ∀ {p q : List Tm}, Nrm p → Nrm q → (∀ φ, lin φ p = lin φ q) → p = q
 | [], [], _, _, _ => rfl
 | [], t :: q, _, hq, h => by
  have h1 := h (at0 t.i t.j)
  rw [Zc8 hq, Zox] at h1
  exact absurd h1.symm (hq.1 t List.mem_cons_self)
 | s :: p, [], hp, _, h => by
  have h1 := h (at0 s.i s.j)
  rw [Zc8 hp, Zox] at h1
  exact absurd h1 (hp.1 s List.mem_cons_self)
 | s :: p, t :: q, hp, hq, h => by
  have hst : same s t := by
   refine Zim ?_ ?_
   ·
    rw [Bool.eq_false_iff]; intro hc
    have h1 := h (at0 s.i s.j)
    rw [Zc8 hp, Zqg hc hq] at h1
    exact hp.1 s List.mem_cons_self h1
   ·
    rw [Bool.eq_false_iff]; intro hc
    have h1 := h (at0 t.i t.j)
    rw [Zc8 hq, Zqg hc hp] at h1
    exact hq.1 t List.mem_cons_self h1.symm
  have hc : s.c = t.c := by
   have h1 := h (at0 s.i s.j)
   rw [Zc8 hp, hst.1, hst.2, Zc8 hq] at h1
   exact h1
  have e := Tm.ext' hst.1 hst.2 hc
  subst e
  rw [Zop (Zqf hp) (Zqf hq) (fun φ => by have := h φ; rw [lin, lin] at this; grind)]
theorem Ga {l m : List Tm} (h : ∀ φ, lin φ l = lin φ m) : norm l = norm m :=
 Zop (Zc9 l) (Zc9 m) (fun φ => by rw [Zb5, Zb5, h])
theorem Zoq {p : List Tm} (h : Nrm p) : norm p = p := Zop (Zc9 p) h (fun φ => Zb5 φ p)
theorem Zfn (l : List Tm) : norm (norm l) = norm l := Zoq (Zc9 l)
end
section
theorem Zk0 (x : Rat) (m : Nat) : ∀ n : Nat, x ^ (m + n) = x ^ m * x ^ n
 | 0 => by rw [Nat.add_zero, Rat.pow_zero]; grind
 | n + 1 => by rw [← Nat.add_assoc, Rat.pow_succ, Rat.pow_succ, Zk0 x m n]; grind
theorem Zk1 (x y : Rat) : ∀ n : Nat, (x * y) ^ n = x ^ n * y ^ n
 | 0 => by rw [Rat.pow_zero, Rat.pow_zero, Rat.pow_zero]; grind
 | n + 1 => by rw [Rat.pow_succ, Rat.pow_succ, Rat.pow_succ, Zk1 x y n]; grind
theorem Zqa : ∀ n : Nat, (1 : Rat) ^ n = 1
 | 0 => Rat.pow_zero _
 | n + 1 => by rw [Rat.pow_succ, Zqa n]; grind
def evP (l : List Tm) (x y : Rat) : Rat := lin (fun i j => x ^ i * y ^ j) l
def Jh (a b : List Tm) : List Tm := a.flatMap (fun s => b.map (fun t => ⟨s.i + t.i, s.j + t.j, s.c * t.c⟩))
theorem Zhn (φ : Nat → Nat → Rat) (a b : List Tm) : lin φ (Jh a b) = lin (fun i j => lin (fun p q => φ (i + p) (j + q)) b) a := by
 unfold Jh
 refine Ze2 φ _ _ a (fun s _ => ?_)
 rw [Zlb φ _ (fun p q => s.c * φ (s.i + p) (s.j + q)) b (fun t _ => by simp only; grind), Zhm]
theorem Zdd (a b : List Tm) (x y : Rat) : evP (Jh a b) x y = evP a x y * evP b x y := by
 unfold evP
 rw [Zhn, ← Zql]
 refine Zcr (fun s _ => ?_)
 rw [← Zhm]
 refine Zcr (fun t _ => ?_)
 rw [Zk0, Zk0]; grind
def Zbm (p : List Tm) : Nat → List Tm
 | 0 => [⟨0, 0, 1⟩]
 | n + 1 => Jh (Zbm p n) p
theorem Zo4 (p : List Tm) (x y : Rat) : ∀ n, evP (Zbm p n) x y = evP p x y ^ n
 | 0 => by rw [Zbm, evP, lin, lin, Rat.pow_zero, Rat.pow_zero, Rat.pow_zero]; grind
 | n + 1 => by rw [Zbm, Zdd, Zo4 p x y n, Rat.pow_succ]
theorem Zcs (l m : List Tm) (x y : Rat) : evP (l ++ m) x y = evP l x y + evP m x y := Gv _ _ _
def Ja (c : Rat) (l : List Tm) : List Tm := l.map (fun t => ⟨t.i, t.j, c * t.c⟩)
theorem Za6 (φ : Nat → Nat → Rat) (c : Rat) (l : List Tm) : lin φ (Ja c l) = c * lin φ l := by
 unfold Ja
 rw [← Zhm]
 exact Zlb φ _ _ l (fun t _ => by simp only; grind)
theorem Zi1 (c : Rat) (l : List Tm) (x y : Rat) : evP (Ja c l) x y = c * evP l x y := Za6 _ _ _
def sbL (X Y : List Tm) (l : List Tm) : List Tm := l.flatMap (fun t => Ja t.c (Jh (Zbm X t.i) (Zbm Y t.j)))
theorem Zow (φ : Nat → Nat → Rat) (X Y l : List Tm) : lin φ (sbL X Y l) = lin (fun i j => lin φ (Jh (Zbm X i) (Zbm Y j))) l := by
 unfold sbL
 exact Ze2 φ _ _ l (fun t _ => by rw [Za6])
theorem ev_sbL (X Y l : List Tm) (x y : Rat) : evP (sbL X Y l) x y = evP l (evP X x y) (evP Y x y) := by
 unfold evP
 rw [Zow]
 refine Zcr (fun t _ => ?_)
 have := Zdd (Zbm X t.i) (Zbm Y t.j) x y
 rw [Zo4, Zo4] at this
 exact this
def dxL (l : List Tm) : List Tm := l.map (fun t => ⟨t.i - 1, t.j, t.c * ((t.i : Int) : Rat)⟩)
def dyL (l : List Tm) : List Tm := l.map (fun t => ⟨t.i, t.j - 1, t.c * ((t.j : Int) : Rat)⟩)
theorem Zve (φ : Nat → Nat → Rat) (l : List Tm) : lin φ (dyL l) = lin (fun i j => ((j : Int) : Rat) * φ i (j - 1)) l :=
 Zlb φ _ _ l (fun t _ => by simp only; grind)
theorem Vt (a b : Nat) : (((a + b : Nat) : Int) : Rat) = ((a : Int) : Rat) + ((b : Int) : Rat) := by
 rw [Int.natCast_add, Rat.intCast_add]
theorem Zhu : (((1 : Nat) : Int) : Rat) = 1 := rfl
def Eqv (l m : List Tm) : Prop := ∀ φ, lin φ l = lin φ m
theorem Eqv.rfl' {l : List Tm} : Eqv l l := fun _ => rfl
theorem Eqv.symm {l m : List Tm} (h : Eqv l m) : Eqv m l := fun φ => (h φ).symm
theorem Eqv.trans {l m k : List Tm} (h : Eqv l m) (h2 : Eqv m k) : Eqv l k := fun φ => (h φ).trans (h2 φ)
theorem Eqv.nrm (l : List Tm) : Eqv (norm l) l := fun φ => Zb5 φ l
theorem Eqv.mul {a b a' b' : List Tm} (h : Eqv a a') (h2 : Eqv b b') : Eqv (Jh a b) (Jh a' b') := fun φ => by
 rw [Zhn, Zhn, h]
 exact Zcr (fun s _ => h2 _)
theorem Eqv.append {a b a' b' : List Tm} (h : Eqv a a') (h2 : Eqv b b') : Eqv (a ++ b) (a' ++ b') := fun φ => by rw [Gv, Gv, h, h2]
theorem Eqv.scale {a a' : List Tm} (c : Rat) (h : Eqv a a') : Eqv (Ja c a) (Ja c a') := fun φ => by rw [Za6, Za6, h]
theorem Eqv.dy {a a' : List Tm} (h : Eqv a a') : Eqv (dyL a) (dyL a') := fun φ => by rw [Zve, Zve, h]
theorem Eqv.pow {a a' : List Tm} (h : Eqv a a') : ∀ n, Eqv (Zbm a n) (Zbm a' n)
 | 0 => Eqv.rfl'
 | n + 1 => (Eqv.pow h n).mul h
theorem Eqv.sub {X Y l X' Y' l' : List Tm} (hX : Eqv X X') (hY : Eqv Y Y') (h : Eqv l l') : Eqv (sbL X Y l) (sbL X' Y' l') := fun φ => by
 rw [Zow, Zow, h]
 exact Zcr (fun s _ => ((hX.pow _).mul (hY.pow _)) φ)
theorem Eqv.val {l m : List Tm} (h : Eqv l m) (x y : Rat) : evP l x y = evP m x y := h _
def pv (a : Nat → Rat) (x : Rat) : Nat → Rat
 | 0 => 0
 | n + 1 => pv a x n + a n * x ^ n
theorem Zqb (a : Nat → Rat) (x c d : Rat) : ∀ n, pv a (c * x) n - d * pv a x n = pv (fun k => a k * (c ^ k - d)) x n
 | 0 => by simp only [pv]; grind
 | n + 1 => by
  have h := Zqb a x c d n
  have e : (c * x) ^ n = c ^ n * x ^ n := Zk1 c x n
  simp only [pv, e]; grind
theorem Zrp : ∀ k n : Nat, k < n → (2 : Rat) ^ k - 2 ^ n ≠ 0 := by
 have hp : ∀ k : Nat, (0 : Rat) < 2 ^ k := fun k => by
  induction k with
  | zero => rw [Rat.pow_zero]; decide
  | succ k ih => rw [Rat.pow_succ]; grind
 have key : ∀ k d : Nat, (2 : Rat) ^ k < 2 ^ (k + d + 1) := fun k d => by
  induction d with
  | zero => rw [Rat.pow_succ]; have := hp k; have e : (2 : Rat) ^ (k + 0) = 2 ^ k := rfl; grind
  | succ d ih =>
   have h2 := hp (k + d + 1)
   rw [show k + (d + 1) + 1 = (k + d + 1) + 1 by omega, Rat.pow_succ]; grind
 intro k n h
 have := key k (n - k - 1)
 rw [show k + (n - k - 1) + 1 = n by omega] at this
 grind
theorem Zok : ∀ (n : Nat) (a : Nat → Rat), (∀ x, pv a x n = 0) → ∀ k, k < n → a k = 0
 | 0, _, _, k, hk => absurd hk (Nat.not_lt_zero _)
 | n + 1, a, h, k, hk => by
  have hb : ∀ x, pv (fun k => a k * (2 ^ k - 2 ^ n)) x n = 0 := fun x => by
   rw [← Zqb a x 2 (2 ^ n) n]
   have h1 := h (2 * x)
   have h2 := h x
   rw [pv] at h1 h2
   have e : (2 * x) ^ n = 2 ^ n * x ^ n := Zk1 2 x n
   rw [e] at h1
   grind
  have low : ∀ k, k < n → a k = 0 := fun k hk => by
   have h1 := Zok n _ hb k hk
   rcases Rat.mul_eq_zero.1 h1 with h2 | h2
   · exact h2
   · exact absurd h2 (Zrp k n hk)
  rcases Nat.lt_or_ge k n with h1 | h1
  · exact low k h1
  ·
   have e : k = n := oo
   subst e
   have z : ∀ m, m ≤ k → pv a 1 m = 0 := fun m => by
    induction m with
    | zero => intro _; rfl
    | succ m ih => intro hm; rw [pv, ih oo, low m oo]; grind
   have h1 := h 1
   rw [pv, z k (Nat.le_refl _)] at h1
   have e1 : (1 : Rat) ^ k = 1 := Zqa k
   rw [e1] at h1
   grind
theorem Zuu (a b : Nat → Rat) (x : Rat) : ∀ n, pv (fun k => a k + b k) x n = pv a x n + pv b x n
 | 0 => by simp only [pv]; grind
 | n + 1 => by simp only [pv, Zuu a b x n]; grind
theorem Zie {a : Nat → Rat} (x : Rat) : ∀ {n}, (∀ k, k < n → a k = 0) → pv a x n = 0
 | 0, _ => rfl
 | n + 1, h => by rw [pv, h n (Nat.lt_succ_self _), Zie x (fun k hk => h k (Nat.lt_succ_of_lt hk))]; grind
theorem Zut {a : Nat → Rat} (x : Rat) (m : Nat) : ∀ {n}, m < n → (∀ k, k ≠ m → a k = 0) → pv a x n = a m * x ^ m
 | 0, h, _ => absurd h (Nat.not_lt_zero _)
 | n + 1, h, h2 => by
  rw [pv]
  rcases Nat.lt_or_ge m n with h3 | h3
  · rw [Zut x m h3 h2, h2 n oo]; grind
  ·
   have e : m = n := oo
   subst e
   rw [Zie x (fun k hk => h2 k oo)]; grind
def Ztx : List Tm → Nat
 | [] => 0
 | t :: l => max (max (t.i + 1) (t.j + 1)) (Ztx l)
theorem Zn7 {t : Tm} : ∀ {l : List Tm}, t ∈ l → t.i < Ztx l ∧ t.j < Ztx l
 | s :: l, h => by
  rw [Ztx]
  rcases List.mem_cons.1 h with rfl | h
  · omega
  · have := Zn7 h; omega
theorem ev_pv (x y : Rat) (n : Nat) : ∀ l : List Tm, (∀ t ∈ l, t.i < n ∧ t.j < n) → evP l x y = pv (fun i => pv (fun j => lin (at0 i j) l) y n) x n
 | [], _ => by
  exact (Zie x (fun k _ => Zie y (fun m _ => rfl))).symm
 | t :: l, h => by
  have ih := ev_pv x y n l (fun s hs => h s (List.mem_cons_of_mem _ hs))
  have ht := h t List.mem_cons_self
  have e : (fun i => pv (fun j => lin (at0 i j) (t :: l)) y n) = (fun i => pv (fun j => t.c * at0 i j t.i t.j) y n + pv (fun j => lin (at0 i j) l) y n) := by
   funext i; rw [← Zuu]; rfl
  rw [e, Zuu, ← ih]
  have e2 : pv (fun i => pv (fun j => t.c * at0 i j t.i t.j) y n) x n = t.c * (x ^ t.i * y ^ t.j) := by
   rw [Zut x t.i ht.1 (fun k hk => Zie y (fun m _ => by rw [at0, if_neg (fun hc => hk hc.1.symm)]; grind)),
    Zut y t.j ht.2 (fun m hm => by rw [at0, if_neg (fun hc => hm hc.2.symm)]; grind), at0, if_pos ⟨rfl, rfl⟩]
   grind
  rw [e2]; rfl
theorem Zwf {l : List Tm} (h : ∀ x y, evP l x y = 0) (a b : Nat) : lin (at0 a b) l = 0 := by
 by_cases hab : a < Ztx l ∧ b < Ztx l
 ·
  have h1 : ∀ y i, i < Ztx l → pv (fun j => lin (at0 i j) l) y (Ztx l) = 0 := fun y =>
   Zok (Ztx l) _ (fun x => by rw [← ev_pv x y (Ztx l) l (fun t ht => Zn7 ht), h x y])
  exact Zok (Ztx l) _ (fun y => h1 y a hab.1) b hab.2
 · exact Zb6 (fun t ht hc => hab (by have := Zn7 ht; rw [hc.1, hc.2] at this; exact this))
theorem Zze {l : List Tm} (h : ∀ a b, lin (at0 a b) l = 0) : ∀ φ, lin φ l = 0 := by
 intro φ
 rw [← Zb5]
 have hn := Zc9 l
 rcases hl : norm l with _ | ⟨t, p⟩
 · rfl
 ·
  rw [hl] at hn
  have h1 := Zc8 hn
  rw [← hl, Zb5, h] at h1
  exact absurd h1.symm (hn.1 t List.mem_cons_self)
theorem Eqv.of_ev {l m : List Tm} (h : ∀ x y, evP l x y = evP m x y) : Eqv l m := by
 have h1 : ∀ x y, evP (l ++ Ja (-1) m) x y = 0 := fun x y => by rw [Zcs, Zi1, h]; grind
 intro φ
 have := Zze (Zwf h1) φ
 rw [Gv, Za6] at this
 grind
end
section
def ln (a b c : Rat) : List Tm := [⟨1, 0, a⟩, ⟨0, 1, b⟩, ⟨0, 0, c⟩]
theorem ev_ln (a b c x y : Rat) : evP (ln a b c) x y = a * x + b * y + c := by
 simp only [evP, ln, lin]; rw [Rat.pow_zero, Rat.pow_zero, Rat.pow_succ, Rat.pow_succ, Rat.pow_zero, Rat.pow_zero]; grind
def shL (p : List Tm) (ax bx cx ay by' cy : Rat) : List Tm := sbL (ln ax bx cx) (ln ay by' cy) p
theorem Qar (p : List Tm) (ax bx cx ay b cy x y : Rat) : evP (shL p ax bx cx ay b cy) x y = evP p (ax * x + bx * y + cx) (ay * x + b * y + cy) := by
 rw [shL, ev_sbL, ev_ln, ev_ln]
def lam (i j : Nat) : Rat := ((1 : Int) : Rat) / (((i + 1 : Nat) : Int) : Rat)
theorem Ze5 (n : Nat) : (((n + 1 : Nat) : Int) : Rat) ≠ 0 := fun e => by have := Rat.intCast_eq_zero_iff.1 e; omega
theorem Zo1 (i j : Nat) : (((i + 1 : Nat) : Int) : Rat) * lam i j = 1 := by
 have h := Ze5 i
 have e1 : ((1 : Int) : Rat) = 1 := rfl
 unfold lam; rw [e1]; grind
def bt : Nat → Nat → Rat
 | 0, j => lam j 0
 | i + 1, j => bt i j - bt i (j + 1)
theorem Zpd : ∀ i j : Nat, (((i + j + 2 : Nat) : Int) : Rat) * bt (i + 1) j = (((i + 1 : Nat) : Int) : Rat) * bt i j ∧ (((i + j + 2 : Nat) : Int) : Rat) * bt i (j + 1) = (((j + 1 : Nat) : Int) : Rat) * bt i j
 | 0, j => by
  have h1 := Zo1 j 0
  have h2 := Zo1 (j + 1) 0
  have n1 := Ze5 j
  have n2 := Ze5 (j + 1)
  have e : (((0 + j + 2 : Nat) : Int) : Rat) = (((j + 1 : Nat) : Int) : Rat) + 1 := by rw [show 0 + j + 2 = (j + 1) + 1 by omega, Vt, Zhu]
  have e2 : (((j + 1 + 1 : Nat) : Int) : Rat) = (((j + 1 : Nat) : Int) : Rat) + 1 := by rw [Vt, Zhu]
  rw [e2] at h2 n2
  simp only [bt]
  rw [e, Zhu]
  constructor
  ·
   have : (((j + 1 : Nat) : Int) : Rat) * ((((j + 1 : Nat) : Int) : Rat) + 1) * (lam j 0 - lam (j + 1) 0) = 1 := by grind
   grind
  · grind
 | i + 1, j => by
  obtain ⟨a1, a2⟩ := Zpd i j
  obtain ⟨b1, b2⟩ := Zpd i (j + 1)
  have h1 : bt (i + 1 + 1) j = bt (i + 1) j - bt (i + 1) (j + 1) := rfl
  have h2 : bt (i + 1) j = bt i j - bt i (j + 1) := rfl
  have h3 : bt (i + 1) (j + 1) = bt i (j + 1) - bt i (j + 1 + 1) := rfl
  have c1 : (((i + 1 + j + 2 : Nat) : Int) : Rat) = ((i : Int) : Rat) + ((j : Int) : Rat) + 3 := by
   rw [show i + 1 + j + 2 = i + j + 3 by omega, Vt, Vt]; rfl
  have c2 : (((i + j + 2 : Nat) : Int) : Rat) = ((i : Int) : Rat) + ((j : Int) : Rat) + 2 := by rw [Vt, Vt]; rfl
  have c3 : (((i + (j + 1) + 2 : Nat) : Int) : Rat) = ((i : Int) : Rat) + ((j : Int) : Rat) + 3 := by
   rw [show i + (j + 1) + 2 = i + j + 3 by omega, Vt, Vt]; rfl
  have c4 : (((i + 1 : Nat) : Int) : Rat) = ((i : Int) : Rat) + 1 := by rw [Vt]; rfl
  have c5 : (((j + 1 : Nat) : Int) : Rat) = ((j : Int) : Rat) + 1 := by rw [Vt]; rfl
  have c6 : (((i + 1 + 1 : Nat) : Int) : Rat) = ((i : Int) : Rat) + 2 := by rw [show i + 1 + 1 = i + 2 by omega, Vt]; rfl
  have c7 : (((j + 1 + 1 : Nat) : Int) : Rat) = ((j : Int) : Rat) + 2 := by rw [show j + 1 + 1 = j + 2 by omega, Vt]; rfl
  rw [c2] at a1 a2
  rw [c3] at b1 b2
  rw [c4] at a1 b1
  rw [c5] at a2
  rw [c7] at b2
  rw [c1, c5, c6, h1]
  constructor <;> grind
def mu (i j : Nat) : Rat := bt (i + 1) j / (((i + 1 : Nat) : Int) : Rat)
theorem mu_bt (i j : Nat) : (((i + 1 : Nat) : Int) : Rat) * mu i j = bt (i + 1) j := by
 have h := Ze5 i
 unfold mu; grind
def W1 : List Tm := [⟨0, 0, 1⟩, ⟨1, 0, -1⟩]
def X1 : List Tm := [⟨1, 0, 1⟩]
theorem Zq1 (x y : Rat) : evP [] x y = 0 := rfl
theorem Zi0 (i : Nat) (c x y : Rat) : evP [⟨i, 0, c⟩] x y = c * x ^ i := by
 simp only [evP, lin]; rw [Rat.pow_zero]; grind
abbrev Pt := Rat × Rat
def twQ (a b c : Pt) : Rat := (b.1 - a.1) * (c.2 - a.2) - (c.1 - a.1) * (b.2 - a.2)
def Zr5 (p : List Tm) (a b : Pt) : Rat := lin lam (shL p (b.1 - a.1) 0 a.1 (b.2 - a.2) 0 a.2)
def Zaw (p : List Tm) (a b c : Pt) : Rat := twQ a b c * lin mu (shL p (b.1 - a.1) (c.1 - a.1) a.1 (b.2 - a.2) (c.2 - a.2) a.2)
def Zaq (g h : List Tm) (a b : Pt) : Rat := (b.2 - a.2) * Zr5 g a b - (b.1 - a.1) * Zr5 h a b
theorem Zoh (p r : List Tm) (a b : Pt) (h : ∀ x y, evP r x y = evP p ((b.1 - a.1) * x + a.1) ((b.2 - a.2) * x + a.2)) : lin lam r = Zr5 p a b :=
 (Eqv.of_ev (fun x y => by rw [h, Qar]; congr 1 <;> grind) : Eqv r _) lam
end
section
def prL (p : List Tm) : List Tm := p.map (fun t => ⟨t.i + 1, t.j, t.c / (((t.i + 1 : Nat) : Int) : Rat)⟩)
def fanQ (p : List Tm) (a : Pt) : List Pt → Rat
 | b :: c :: l => Zaw p a b c + fanQ p a (c :: l)
 | _ => 0
def pathQ (f : Pt → Pt → Rat) : List Pt → Rat
 | a :: b :: l => f a b + pathQ f (b :: l)
 | _ => 0
def cycQ (f : Pt → Pt → Rat) : List Pt → Rat
 | [] => 0
 | a :: l => pathQ f (a :: l ++ [a])
def polyQ (p : List Tm) : List Pt → Rat
 | [] => 0
 | a :: l => fanQ p a l
end
section
def KL (K : Nat) (l : List Tm) : Prop := ∀ t ∈ l, Zu t.c ≤ K
def DL (d : Nat) (l : List Tm) : Prop := ∀ t ∈ l, t.i + t.j ≤ d
theorem KL.mono {K K' : Nat} {l : List Tm} (h : KL K l) (hk : K ≤ K') : KL K' l := fun t ht => Nat.le_trans (h t ht) hk
theorem DL.mono {d d' : Nat} {l : List Tm} (h : DL d l) (hk : d ≤ d') : DL d' l := fun t ht => Nat.le_trans (h t ht) hk
def cntP (i j : Nat) : List Tm → Nat
 | [] => 0
 | t :: l => (if t.i = i ∧ t.j = j then 1 else 0) + cntP i j l
theorem Zwg (i j : Nat) : ∀ l : List Tm, cntP i j l ≤ l.length
 | [] => Nat.le_refl _
 | t :: l => by have := Zwg i j l; rw [cntP, List.length_cons]; split <;> omega
theorem Zm4 {K : Nat} {f : Nat → Nat → Nat} {t : Tm} (ht : Zu t.c ≤ K) : ∀ {p : List Tm}, (∀ u ∈ p, Zu u.c ≤ f u.i u.j) → ∀ u ∈ Zdl t p, Zu u.c ≤ f u.i u.j + (if t.i = u.i ∧ t.j = u.j then K + 1 else 0)
 | [], _, u, hu => by
  rw [Zdl, List.mem_singleton] at hu
  subst hu
  have e : 0 + t.c = t.c := by grind
  simp only [and_self, if_true, e]; omega
 | s :: p, h, u, hu => by
  have h0 := h s List.mem_cons_self
  rw [Zdl] at hu
  split at hu
  ·
   rename_i hs
   rcases List.mem_cons.1 hu with rfl | hu
   ·
    have := Qo s.c t.c
    rw [if_pos ⟨hs.1.symm, hs.2.symm⟩]
    simp only; omega
   · have := h u (List.mem_cons_of_mem _ hu); omega
  ·
   rcases List.mem_cons.1 hu with rfl | hu
   · omega
   · exact Zm4 ht (fun v hv => h v (List.mem_cons_of_mem _ hv)) u hu
theorem Zdh {K : Nat} : ∀ (l : List Tm) {p : List Tm} {f : Nat → Nat → Nat}, KL K l → (∀ u ∈ p, Zu u.c ≤ f u.i u.j) →
  ∀ u ∈ l.foldl (fun p t => Zdl t p) p, Zu u.c ≤ f u.i u.j + cntP u.i u.j l * (K + 1)
 | [], p, f, _, h, u, hu => by have := h u hu; omega
 | t :: l, p, f, hl, h, u, hu => by
  rw [List.foldl_cons] at hu
  have ih := Zdh l (f := fun i j => f i j + (if t.i = i ∧ t.j = j then K + 1 else 0)) (fun s hs => hl s (List.mem_cons_of_mem _ hs)) (Zm4 (hl t List.mem_cons_self) h) u hu
  rw [cntP, Nat.add_mul]
  split at ih
  · rename_i hc; rw [if_pos hc]; omega
  · rename_i hc; rw [if_neg hc]; omega
theorem Zne {K : Nat} {l : List Tm} (h : KL K l) : ∀ u ∈ collect l, Zu u.c ≤ cntP u.i u.j l * (K + 1) := fun u hu => by
 have := Zdh l (f := fun _ _ => 0) (p := []) h (fun _ hv => nomatch hv) u hu
 omega
theorem Qc3 {Ka Kb : Nat} {a b : List Tm} (ha : KL Ka a) (hb : KL Kb b) : KL (Ka + Kb) (Jh a b) := fun u hu => by
 unfold Jh at hu
 obtain ⟨s, hs, hu⟩ := List.mem_flatMap.1 hu
 obtain ⟨t, ht, rfl⟩ := List.mem_map.1 hu
 have := Zm s.c t.c
 have := ha s hs
 have := hb t ht
 simp only; omega
theorem Zqi (a b : List Tm) : (Jh a b).length = a.length * b.length := by
 unfold Jh
 induction a with
 | nil => simp
 | cons s a ih => rw [List.flatMap_cons, List.length_append, ih, List.length_map, List.length_cons, Nat.add_mul]; omega
theorem Vf {d : Nat} {l : List Tm} (h : DL d l) : DL d (norm l) := fun u hu => by
 obtain ⟨t, ht, h1, h2⟩ := Zi4 (Zk9 hu).1
 rw [h1, h2]; exact h t ht
theorem Zjh {d : Nat} {a b : List Tm} (ha : DL d a) (hb : DL d b) : DL d (a ++ b) := fun t ht => (List.mem_append.1 ht).elim (ha t) (hb t)
theorem Zwx {da db : Nat} {a b : List Tm} (ha : DL da a) (hb : DL db b) : DL (da + db) (Jh a b) := fun u hu => by
 unfold Jh at hu
 obtain ⟨s, hs, hu⟩ := List.mem_flatMap.1 hu
 obtain ⟨t, ht, rfl⟩ := List.mem_map.1 hu
 have := ha s hs
 have := hb t ht
 simp only; omega
theorem Znp {d : Nat} {a : List Tm} (c : Rat) (h : DL d a) : DL d (Ja c a) := fun u hu => by
 unfold Ja at hu
 obtain ⟨t, ht, rfl⟩ := List.mem_map.1 hu
 exact h t ht
theorem DL_dyL {d : Nat} {a : List Tm} (h : DL d a) : DL d (dyL a) := fun u hu => by
 unfold dyL at hu
 obtain ⟨t, ht, rfl⟩ := List.mem_map.1 hu
 have := h t ht
 simp only; omega
def tri : Nat → Nat
 | 0 => 0
 | n + 1 => tri n + n + 1
theorem Zav {m n : Nat} (h : m ≤ n) : tri m ≤ tri n := by
 induction h with
 | refl => exact Nat.le_refl _
 | step _ ih => rw [tri]; omega
def keyT (t : Tm) : Nat := tri (t.i + t.j) + t.j
theorem key_lt {s t : Tm} (h : ltT s t = true) : keyT s < keyT t := by
 rw [Zdw] at h
 unfold keyT
 rcases h with h | ⟨h1, h2⟩
 ·
  have := Zav (show s.i + s.j + 1 ≤ t.i + t.j from h)
  rw [tri] at this; omega
 · rw [h1]; omega
theorem Zm0 : ∀ (l : List Nat) (m n : Nat), l.Pairwise (· < ·) → (∀ x ∈ l, m ≤ x ∧ x < n) → l.length ≤ n - m
 | [], _, _, _, _ => Nat.zero_le _
 | x :: l, m, n, h, hb => by
  obtain ⟨h1, h2⟩ := List.pairwise_cons.1 h
  have h3 := hb x List.mem_cons_self
  have := Zm0 l (x + 1) n h2 (fun y hy => ⟨h1 y hy, (hb y (List.mem_cons_of_mem _ hy)).2⟩)
  rw [List.length_cons]; omega
theorem Zu3 {d : Nat} {p : List Tm} (h : Nrm p) (hd : DL d p) : p.length ≤ tri (d + 1) := by
 have := Zm0 (p.map keyT) 0 (tri (d + 1)) (List.pairwise_map.2 (h.2.imp (fun {s t} hs => key_lt hs))) (fun x hx => by
  obtain ⟨t, ht, rfl⟩ := List.mem_map.1 hx
  have h1 := hd t ht
  have := Zav h1
  refine ⟨Nat.zero_le _, ?_⟩
  unfold keyT; rw [tri]; omega)
 rw [List.length_map] at this; exact this
def ab (x : Rat) : Rat := if x < 0 then -x else x
theorem Zea (x : Rat) : 0 ≤ ab x := by unfold ab; split <;> grind
theorem ab_add (x y : Rat) : ab (x + y) ≤ ab x + ab y := by unfold ab; split <;> split <;> split <;> grind
theorem Zao {x : Rat} (h : 0 ≤ x) : ab x = x := by unfold ab; rw [if_neg (by grind)]
theorem Zko (x : Rat) : ab (-x) = ab x := by unfold ab; split <;> split <;> grind
theorem Zra (x y : Rat) : ab (x * y) = ab x * ab y := by
 have key : ∀ x y : Rat, 0 ≤ x → 0 ≤ y → ab (x * y) = ab x * ab y := fun x y hx hy => by
  rw [Zao hx, Zao hy, Zao (Rat.mul_nonneg hx hy)]
 by_cases hx : 0 ≤ x <;> by_cases hy : 0 ≤ y
 · exact key x y hx hy
 · rw [show x * y = -(x * -y) by grind, Zko, key x (-y) hx (by grind), Zko]
 · rw [show x * y = -(-x * y) by grind, Zko, key (-x) y (by grind) hy, Zko]
 · rw [show x * y = -x * -y by grind, key (-x) (-y) (by grind) (by grind), Zko, Zko]
theorem Kn (a b : Nat) : (((a * b : Nat) : Int) : Rat) = ((a : Int) : Rat) * ((b : Int) : Rat) := by rw [Int.natCast_mul, Rat.intCast_mul]
theorem Xz (a : Nat) : (0 : Rat) ≤ ((a : Int) : Rat) := by
 have h := (Rat.intCast_le_intCast (a := 0) (b := (a : Int))).2 oo
 exact h
theorem Zwm {a b : Nat} (h : a ≤ b) : ((a : Int) : Rat) ≤ ((b : Int) : Rat) := Rat.intCast_le_intCast.2 oo
theorem Zso {a b : Nat} (h : ((a : Int) : Rat) ≤ ((b : Int) : Rat)) : a ≤ b := by have := Rat.intCast_le_intCast.1 h; omega
theorem Yn {a b c : Rat} (h : a ≤ b) (hc : 0 ≤ c) : a * c ≤ b * c := by
 have := Rat.mul_nonneg (show 0 ≤ b - a by grind) hc
 grind
theorem Zii {a b c d : Rat} (h : a ≤ b) (h2 : c ≤ d) (ha : 0 ≤ c) (hb : 0 ≤ b) : a * c ≤ b * d := by
 have h3 := Yn h ha
 have h4 := Yn h2 hb
 grind
def sab : List Tm → Rat
 | [] => 0
 | t :: l => ab t.c + sab l
theorem Zei : ∀ l : List Tm, 0 ≤ sab l
 | [] => by rw [sab]; grind
 | t :: l => by have := Zei l; have := Zea t.c; rw [sab]; grind
theorem Zf5 : ∀ l m : List Tm, sab (l ++ m) = sab l + sab m
 | [], m => by simp only [List.nil_append, sab]; grind
 | t :: l, m => by rw [List.cons_append, sab, sab, Zf5 l m]; grind
theorem Zx2 {l m : List Tm} (h : l.Perm m) : sab l = sab m := by
 induction h with
 | nil => rfl
 | cons x _ ih => rw [sab, sab, ih]
 | swap x y l => simp only [sab]; grind
 | trans _ _ h1 h2 => rw [h1, h2]
theorem Qbj {l : List Tm} {t : Tm} (h : t ∈ l) : ab t.c ≤ sab l := by
 induction l with
 | nil => cases h
 | cons s l ih =>
  rw [sab]
  rcases List.mem_cons.1 h with rfl | h
  · have := Zei l; grind
  · have := ih h; have := Zea s.c; grind
theorem Zj5 (f : Tm → Bool) : ∀ l : List Tm, sab (l.filter f) ≤ sab l
 | [] => by rw [List.filter_nil]; grind
 | t :: l => by
  have := Zj5 f l
  have := Zea t.c
  rw [List.filter_cons]
  split
  · rw [sab, sab]; grind
  · rw [sab]; grind
theorem Zp2 (t : Tm) : ∀ p : List Tm, sab (Zdl t p) ≤ sab p + ab t.c
 | [] => by
  have e : 0 + t.c = t.c := by grind
  simp only [Zdl, sab, e]; grind
 | s :: p => by
  rw [Zdl]
  split
  · have := ab_add s.c t.c; simp only [sab]; grind
  · have := Zp2 t p; simp only [sab]; grind
theorem Zdq : ∀ (l p : List Tm), sab (l.foldl (fun p t => Zdl t p) p) ≤ sab p + sab l
 | [], p => by simp only [List.foldl_nil, sab]; grind
 | t :: l, p => by
  have h1 := Zdq l (Zdl t p)
  have h2 := Zp2 t p
  rw [List.foldl_cons]; simp only [sab]; grind
theorem Zx3 (l : List Tm) : sab (norm l) ≤ sab l := by
 rw [norm, Zx2 (List.mergeSort_perm _ _)]
 have h1 := Zj5 (fun t => decide (t.c ≠ 0)) (collect l)
 have h2 := Zdq l []
 have h3 : collect l = l.foldl (fun p t => Zdl t p) [] := rfl
 rw [← h3] at h2
 simp only [sab] at h2
 grind
theorem Zmg (c : Rat) : ∀ l : List Tm, sab (Ja c l) = ab c * sab l
 | [] => by simp only [Ja, List.map_nil, sab]; grind
 | t :: l => by
  have := Zmg c l
  have := Zra c t.c
  simp only [Ja, List.map_cons, sab] at *
  grind
theorem Zh5 (s : Tm) : ∀ b : List Tm, sab (b.map (fun t => (⟨s.i + t.i, s.j + t.j, s.c * t.c⟩ : Tm))) = ab s.c * sab b
 | [] => by simp only [List.map_nil, sab]; grind
 | t :: b => by
  have := Zh5 s b
  have := Zra s.c t.c
  simp only [List.map_cons, sab] at *
  grind
theorem Zud (b : List Tm) : ∀ a : List Tm, sab (Jh a b) = sab a * sab b
 | [] => by show sab [] = _; simp only [sab]; grind
 | s :: a => by
  have ih := Zud b a
  have h := Zh5 s b
  unfold Jh at *
  rw [List.flatMap_cons, Zf5, ih, h, sab]; grind
def ID (D : Nat) (x : Rat) : Prop := ∃ z : Int, x * ((D : Int) : Rat) = (z : Rat)
theorem ID.mul {D E : Nat} {x y : Rat} (h : ID D x) (h2 : ID E y) : ID (D * E) (x * y) := by
 obtain ⟨z, hz⟩ := h
 obtain ⟨w, hw⟩ := h2
 exact ⟨z * w, by rw [Kn, Rat.intCast_mul, ← hz, ← hw]; grind⟩
theorem ID.add {D : Nat} {x y : Rat} (h : ID D x) (h2 : ID D y) : ID D (x + y) := by
 obtain ⟨z, hz⟩ := h
 obtain ⟨w, hw⟩ := h2
 exact ⟨z + w, by rw [Rat.intCast_add, ← hz, ← hw]; grind⟩
theorem ID.int (n : Int) : ID 1 (n : Rat) := ⟨n, by rw [Zhu]; grind⟩
theorem ID.zero (D : Nat) : ID D 0 := ⟨0, by show 0 * _ = (0 : Rat); grind⟩
theorem ID.right {D : Nat} {x : Rat} (h : ID D x) (E : Nat) : ID (D * E) x := by
 have := h.mul (ID.int (E : Int))
 obtain ⟨z, hz⟩ := h
 exact ⟨z * E, by rw [Kn, Rat.intCast_mul, ← hz]; grind⟩
theorem ID.left {D : Nat} {x : Rat} (h : ID D x) (E : Nat) : ID (E * D) x := by rw [Nat.mul_comm]; exact h.right E
theorem Zos (x : Rat) : x * ((x.den : Int) : Rat) = (x.num : Rat) := by
 rw [Rat.mul_def', Rat.num_intCast, Rat.den_intCast, Nat.mul_one]
 have := Rat.mkRat_mul_right (n := x.num) (d := 1) (a := x.den) x.den_nz
 rw [Nat.one_mul] at this
 rw [this, Rat.mkRat_one]
theorem ID.self (x : Rat) : ID x.den x := ⟨x.num, Zos x⟩
theorem ab_int (z : Int) : ab (z : Rat) = ((z.natAbs : Int) : Rat) := by
 unfold ab
 split
 ·
  rename_i h
  have h2 : z < 0 := Rat.intCast_lt_intCast.1 (show (z : Rat) < ((0 : Int) : Rat) from h)
  rw [show ((z.natAbs : Nat) : Int) = -z by omega, Rat.intCast_neg]
 ·
  rename_i h
  have h2 : ¬ z < 0 := fun h3 => h (Rat.intCast_lt_intCast.2 h3 : (z : Rat) < ((0 : Int) : Rat))
  rw [show ((z.natAbs : Nat) : Int) = z by omega]
theorem Zwt (x : Rat) : ab x * ((x.den : Int) : Rat) = ((x.num.natAbs : Int) : Rat) := by
 rw [← ab_int, ← Zos, Zra, Zao (Xz x.den)]
theorem ID.den {D : Nat} {x : Rat} (h : ID D x) : x.den ∣ D := by
 obtain ⟨z, hz⟩ := h
 have h1 : ((x.num * (D : Int) : Int) : Rat) = ((z * (x.den : Int) : Int) : Rat) := by
  rw [Rat.intCast_mul, Rat.intCast_mul, ← hz, ← Zos]; grind
 have h2 := Rat.intCast_inj.1 h1
 have h3 : x.num.natAbs * D = z.natAbs * x.den := by
  have := congrArg Int.natAbs h2
  rwa [Int.natAbs_mul, Int.natAbs_mul, Int.natAbs_natCast, Int.natAbs_natCast] at this
 exact (Nat.Coprime.dvd_of_dvd_mul_left x.reduced.symm (h3 ▸ Nat.dvd_mul_left x.den z.natAbs))
def Hb (K : Nat) (l : List Tm) : Prop := ∃ D N : Nat, 0 < D ∧ D < 4294967296 ^ K ∧ N < 4294967296 ^ K ∧ (∀ t ∈ l, ID D t.c) ∧ sab l * ((D : Int) : Rat) ≤ ((N : Int) : Rat)
theorem Zej {K K' : Nat} (h : K ≤ K') : 4294967296 ^ K ≤ 4294967296 ^ K' := Nat.pow_le_pow_right dd h
theorem Hb.mono {K K' : Nat} {l : List Tm} (h : Hb K l) (hk : K ≤ K') : Hb K' l := by
 obtain ⟨D, N, h0, h1, h2, h3, h4⟩ := h
 exact ⟨D, N, h0, Nat.lt_of_lt_of_le h1 (Zej hk), Nat.lt_of_lt_of_le h2 (Zej hk), h3, h4⟩
theorem Hb.siz {K : Nat} {l : List Tm} (h : Hb K l) : KL K l := fun t ht => by
 obtain ⟨D, N, h0, h1, h2, h3, h4⟩ := h
 have hd := (h3 t ht).den
 have hle := Nat.le_of_dvd h0 hd
 have hn : ((t.c.num.natAbs : Int) : Rat) ≤ ((N : Int) : Rat) := by
  rw [← Zwt]
  have a1 := Zii (Qbj ht) (Zwm hle) (Xz _) (Zei l)
  grind
 have hn' := Zso hn
 unfold Zu Zap
 have := Zef (n := t.c.num.natAbs) (k := K) oo
 have := Zef (n := t.c.den) (k := K) oo
 omega
theorem Hb.nrm {K : Nat} {l : List Tm} (h : Hb K l) : Hb K (norm l) := by
 obtain ⟨D, N, h0, h1, h2, h3, h4⟩ := h
 refine ⟨D, N, h0, h1, h2, fun u hu => ?_, ?_⟩
 ·
  have key : ∀ (l p : List Tm), (∀ t ∈ l, ID D t.c) → (∀ t ∈ p, ID D t.c) → ∀ u ∈ l.foldl (fun p t => Zdl t p) p, ID D u.c := by
   intro l
   induction l with
   | nil => intro p _ hp u hu; exact hp u hu
   | cons t l ih =>
    intro p hl hp u hu
    rw [List.foldl_cons] at hu
    refine ih (Zdl t p) (fun s hs => hl s (List.mem_cons_of_mem _ hs)) (fun v hv => ?_) u hu
    have ht := hl t List.mem_cons_self
    clear ih hu hl
    induction p with
    | nil => rw [Zdl, List.mem_singleton] at hv; subst hv; exact (ID.zero D).add ht
    | cons s p ih =>
     rw [Zdl] at hv
     split at hv
     ·
      rcases List.mem_cons.1 hv with rfl | hv
      · exact (hp s List.mem_cons_self).add ht
      · exact hp v (List.mem_cons_of_mem _ hv)
     ·
      rcases List.mem_cons.1 hv with rfl | hv
      · exact hp _ List.mem_cons_self
      · exact ih (fun w hw => hp w (List.mem_cons_of_mem _ hw)) hv
  exact key l [] h3 (fun _ h => nomatch h) u (Zk9 hu).1
 ·
  have := Yn (Zx3 l) (Xz D)
  grind
theorem Zfq {n k : Nat} (h : (wds n).length ≤ k) : n < 4294967296 ^ k := Nat.lt_of_lt_of_le (Zcm n) (Zej h)
theorem Zvl {x : Rat} {k : Nat} (h : Zu x ≤ k) : x.num.natAbs < 4294967296 ^ k ∧ x.den < 4294967296 ^ k := by
 obtain ⟨h1, h2⟩ := Zdy h
 exact ⟨Zfq h1, Zfq h2⟩
theorem Zuv {a b c d K k : Nat} (h1 : a < 4294967296 ^ K) (h2 : b < 4294967296 ^ k) (h3 : c < 4294967296 ^ K) (h4 : d < 4294967296 ^ k) : a * b + c * d < 4294967296 ^ (K + k + 1) := by
 have e1 := Nat.mul_lt_mul'' h1 h2
 have e2 := Nat.mul_lt_mul'' h3 h4
 rw [Nat.pow_succ, Nat.pow_add]
 generalize 4294967296 ^ K * 4294967296 ^ k = P at *
 omega
theorem Hb.nil : Hb 1 [] := ⟨1, 0, oo, by omega, oo, (fun _ h => nomatch h), by show (0 : Rat) * _ ≤ (0 : Rat); grind⟩
theorem Hb.append {Ka Kb : Nat} {a b : List Tm} (ha : Hb Ka a) (hb : Hb Kb b) : Hb (Ka + Kb + 1) (a ++ b) := by
 obtain ⟨D, N, h0, h1, h2, h3, h4⟩ := ha
 obtain ⟨E, M, k0, k1, k2, k3, k4⟩ := hb
 refine ⟨D * E, N * E + D * M, Nat.mul_pos h0 k0, Nat.lt_of_lt_of_le (by rw [Nat.pow_add]; exact Nat.mul_lt_mul'' h1 k1) (Zej (Nat.le_succ (Ka + Kb))), Zuv h2 k1 h1 k2, fun t ht => ?_, ?_⟩
 ·
  rcases List.mem_append.1 ht with h | h
  · exact (h3 t h).right E
  · exact (k3 t h).left D
 ·
  rw [Zf5, Kn, Vt, Kn, Kn]
  have e1 := Yn h4 (Xz E)
  have e2 := Yn k4 (Xz D)
  grind
theorem Hb.cons {K k : Nat} {l : List Tm} {t : Tm} (h : Hb K l) (ht : Zu t.c ≤ k) : Hb (K + k + 1) (t :: l) := by
 obtain ⟨D, N, h0, h1, h2, h3, h4⟩ := h
 obtain ⟨p1, p2⟩ := Zvl ht
 have hp := t.c.den_pos
 refine ⟨D * t.c.den, D * t.c.num.natAbs + N * t.c.den, Nat.mul_pos h0 hp, Nat.lt_of_lt_of_le (by rw [Nat.pow_add]; exact Nat.mul_lt_mul'' h1 p2) (Zej (Nat.le_succ (K + k))), Zuv h1 p1 h2 p2, fun s hs => ?_, ?_⟩
 ·
  rcases List.mem_cons.1 hs with rfl | hs
  · exact (ID.self _).left D
  · exact (h3 s hs).right _
 ·
  rw [sab, Kn, Vt, Kn, Kn]
  have e0 := Zwt t.c
  have e1 := Yn h4 (Xz t.c.den)
  rw [← e0]
  grind
theorem Hb.of_KL {k : Nat} {l : List Tm} (h : KL k l) : Hb (l.length * (k + 1) + 1) l := by
 induction l with
 | nil => exact Hb.nil.mono oo
 | cons t l ih =>
  have h2 := (ih (fun s hs => h s (List.mem_cons_of_mem _ hs))).cons (h t List.mem_cons_self)
  have e : (t :: l).length * (k + 1) + 1 = l.length * (k + 1) + 1 + k + 1 := by rw [List.length_cons, Nat.add_mul]; omega
  rw [e]; exact h2
theorem Hb.scale {K k : Nat} {l : List Tm} {c : Rat} (h : Hb K l) (hc : Zu c ≤ k) : Hb (k + K) (Ja c l) := by
 obtain ⟨D, N, h0, h1, h2, h3, h4⟩ := h
 obtain ⟨p1, p2⟩ := Zvl hc
 refine ⟨c.den * D, c.num.natAbs * N, Nat.mul_pos c.den_pos h0, by rw [Nat.pow_add]; exact Nat.mul_lt_mul'' p2 h1, by rw [Nat.pow_add]; exact Nat.mul_lt_mul'' p1 h2, fun u hu => ?_, ?_⟩
 ·
  unfold Ja at hu
  obtain ⟨t, ht, rfl⟩ := List.mem_map.1 hu
  exact (ID.self c).mul (h3 t ht)
 ·
  rw [Zmg, Kn, Kn, ← Zwt]
  have e1 := Yn h4 (Rat.mul_nonneg (Zea c) (Xz c.den))
  grind
theorem Hb.mul {Ka Kb : Nat} {a b : List Tm} (ha : Hb Ka a) (hb : Hb Kb b) : Hb (Ka + Kb) (Jh a b) := by
 obtain ⟨D, N, h0, h1, h2, h3, h4⟩ := ha
 obtain ⟨E, M, k0, k1, k2, k3, k4⟩ := hb
 refine ⟨D * E, N * M, Nat.mul_pos h0 k0, by rw [Nat.pow_add]; exact Nat.mul_lt_mul'' h1 k1, by rw [Nat.pow_add]; exact Nat.mul_lt_mul'' h2 k2, fun u hu => ?_, ?_⟩
 ·
  unfold Jh at hu
  obtain ⟨s, hs, hu⟩ := List.mem_flatMap.1 hu
  obtain ⟨t, ht, rfl⟩ := List.mem_map.1 hu
  exact (h3 s hs).mul (k3 t ht)
 ·
  rw [Zud, Kn, Kn]
  have e1 := Zii h4 k4 (Rat.mul_nonneg (Zei b) (Xz E)) (Xz N)
  grind
theorem Zp1 (f : Tm → Tm) (m : Nat) : ∀ l : List Tm, (∀ t ∈ l, ab (f t).c ≤ ab t.c * ((m : Int) : Rat)) → sab (l.map f) ≤ sab l * ((m : Int) : Rat)
 | [], _ => by simp only [List.map_nil, sab]; grind
 | t :: l, h => by
  have h1 := h t List.mem_cons_self
  have h2 := Zp1 f m l (fun s hs => h s (List.mem_cons_of_mem _ hs))
  simp only [List.map_cons, sab]; grind
theorem Hb.mapi {K : Nat} {l : List Tm} (h : Hb K l) (f : Tm → Tm) (n : Tm → Nat) (hf : ∀ t ∈ l, (f t).c = t.c * ((n t : Int) : Rat)) (hn : ∀ t ∈ l, n t ≤ 1000) : Hb (K + 1) (l.map f) := by
 obtain ⟨D, N, h0, h1, h2, h3, h4⟩ := h
 refine ⟨D, N * 1000, h0, Nat.lt_of_lt_of_le h1 (Zej (Nat.le_succ K)), by rw [Nat.pow_succ]; exact Nat.mul_lt_mul'' h2 dd, fun u hu => ?_, ?_⟩
 ·
  obtain ⟨t, ht, rfl⟩ := List.mem_map.1 hu
  rw [hf t ht]
  obtain ⟨z, hz⟩ := h3 t ht
  exact ⟨z * (n t : Int), by rw [Rat.intCast_mul, ← hz]; grind⟩
 ·
  have e1 := Zp1 f 1000 l (fun t ht => by
   rw [hf t ht, Zra, Zao (Xz _)]
   have := Yn (Zwm (hn t ht)) (Zea t.c)
   grind)
  have e2 := Yn e1 (Xz D)
  have e3 := Yn h4 (Xz 1000)
  rw [Kn]
  grind
structure Pq (d K : Nat) (l : List Tm) : Prop where
 deg : DL d l
 len : l.length ≤ 100
 hgt : Hb K l
theorem Pq.siz {d K : Nat} {l : List Tm} (h : Pq d K l) : KL K l := h.hgt.siz
theorem Pq.nsz {d K : Nat} {l : List Tm} (h : Pq d K l) : KL K (norm l) := h.hgt.nrm.siz
theorem Pq.nlen {d K : Nat} {l : List Tm} (h : Pq d K l) : (norm l).length ≤ tri (d + 1) := Zu3 (Zc9 l) (Vf h.deg)
theorem Pq.of_norm {d K : Nat} {l : List Tm} (hd : DL d l) (hk : Hb K l) (hd12 : d ≤ 12) : Pq d K (norm l) :=
 ⟨Vf hd, Nat.le_trans (Zu3 (Zc9 l) (Vf hd)) (Nat.le_trans (Zav (show d + 1 ≤ 13 by omega)) dd), hk.nrm⟩
theorem Pq.nrm {d K : Nat} {l : List Tm} (h : Pq d K l) (hd12 : d ≤ 12) : Pq d K (norm l) := Pq.of_norm h.deg h.hgt hd12
theorem Pq.mono {d K d' K' : Nat} {l : List Tm} (h : Pq d K l) (hd : d ≤ d') (hk : K ≤ K') : Pq d' K' l := ⟨h.deg.mono hd, h.len, h.hgt.mono hk⟩
theorem Pq.raw {d k m : Nat} {l : List Tm} (hd : DL d l) (hk : KL k l) (hm : l.length ≤ m) (hm2 : m ≤ 100) : Pq d (m * (k + 1) + 1) l :=
 ⟨hd, Nat.le_trans hm hm2, (Hb.of_KL hk).mono (by have := Nat.mul_le_mul_right (k + 1) hm; omega)⟩
theorem Pq.add {da db Ka Kb : Nat} {a b : List Tm} (ha : Pq da Ka a) (hb : Pq db Kb b) (h1 : da ≤ 12) (h2 : db ≤ 12) : Pq (max da db) (Ka + Kb + 2) (norm (a ++ b)) :=
 Pq.of_norm (Zjh (ha.deg.mono (Nat.le_max_left _ _)) (hb.deg.mono (Nat.le_max_right _ _))) ((ha.hgt.append hb.hgt).mono oo) oo
theorem Pq.mul {da db Ka Kb : Nat} {a b : List Tm} (ha : Pq da Ka a) (hb : Pq db Kb b) (h1 : da + db ≤ 12) : Pq (da + db) (Ka + Kb) (norm (Jh a b)) :=
 Pq.of_norm (Zwx ha.deg hb.deg) (ha.hgt.mul hb.hgt) h1
theorem Pq.scale {d K Kc : Nat} {a : List Tm} {c : Rat} (ha : Pq d K a) (hc : Zu c ≤ Kc) (h1 : d ≤ 12) : Pq d (Kc + K + 1) (norm (Ja c a)) :=
 Pq.of_norm (Znp c ha.deg) ((ha.hgt.scale hc).mono oo) h1
theorem Pq.dy {d K : Nat} {p : List Tm} (h : Pq d K p) (hd : d ≤ 12) : Pq d (K + 1) (norm (dyL p)) :=
 Pq.of_norm (DL_dyL h.deg) (h.hgt.mapi _ (fun t => t.j) (fun t _ => rfl) (fun t ht => by have := h.deg t ht; omega)) hd
theorem Zyk : norm [⟨0, 0, 1⟩] = [⟨0, 0, 1⟩] := Zoq ⟨fun t ht => by rw [List.mem_singleton] at ht; subst ht; simp only; grind, List.pairwise_singleton _ _⟩
theorem Zk8 : norm [] = [] := Zoq ⟨(fun _ h => nomatch h), List.Pairwise.nil⟩
theorem Pq.nil (d : Nat) : Pq d 1 [] := ⟨(fun _ h => nomatch h), Nat.zero_le _, Hb.nil⟩
theorem Pq.one : Pq 0 4 [⟨0, 0, 1⟩] :=
 ⟨fun t ht => by rw [List.mem_singleton] at ht; subst ht; exact Nat.le_refl _, by simp, (Hb.of_KL (k := 2) (fun t ht => by rw [List.mem_singleton] at ht; subst ht; exact Zem)).mono ss⟩
theorem Pq.pow {d K : Nat} {a : List Tm} (ha : Pq d K a) : ∀ n, n * d ≤ 12 → Pq (n * d) (n * K + 4) (norm (Zbm a n))
 | 0, _ => by rw [Zbm, Zyk, Nat.zero_mul, Nat.zero_mul]; exact Pq.one
 | n + 1, h => by
  rw [Nat.add_mul, Nat.one_mul] at h
  have ih := Pq.pow ha n oo
  have := Pq.mul ih ha oo
  rw [Ga ((Eqv.nrm (Zbm a n)).mul Eqv.rfl')] at this
  rw [Nat.add_mul, Nat.one_mul, Nat.add_mul, Nat.one_mul]
  exact this.mono (Nat.le_refl _) oo
theorem Pq.line {K : Nat} {a b c : Rat} (ha : Zu a ≤ K) (hb : Zu b ≤ K) (hc : Zu c ≤ K) : Pq 1 (3 * K + 4) (ln a b c) := by
 have h : KL K (ln a b c) := fun t ht => by
  simp only [ln, List.mem_cons, List.not_mem_nil, or_false] at ht
  rcases ht with rfl | rfl | rfl <;> assumption
 refine ⟨fun t ht => ?_, by simp [ln], (Hb.of_KL h).mono (by simp [ln]; omega)⟩
 simp only [ln, List.mem_cons, List.not_mem_nil, or_false] at ht
 rcases ht with rfl | rfl | rfl <;> simp
end
section
def KT (d K Kx : Nat) : Nat := K + d * (3 * Kx + 4) + 20
def KS (d K Kx : Nat) : Nat := tri (d + 1) * KT d K Kx + 1
theorem Pq.line_pow {K n : Nat} {a b c : Rat} (ha : Zu a ≤ K) (hb : Zu b ≤ K) (hc : Zu c ≤ K) (hn : n ≤ 12) : Pq n (n * (3 * K + 4) + 4) (norm (Zbm (ln a b c) n)) := by
 have h := Pq.pow (Pq.line ha hb hc) n oo
 rwa [Nat.mul_one] at h
def sbT (X Y : List Tm) (t : Tm) : List Tm := Ja t.c (Jh (Zbm X t.i) (Zbm Y t.j))
theorem Zp0 (X Y : List Tm) (l : List Tm) (t : Tm) : sbL X Y (l ++ [t]) = sbL X Y l ++ sbT X Y t := by
 unfold sbL sbT; rw [List.flatMap_append]; simp
theorem Pq.sbT {d K Kx : Nat} {ax bx cx ay b cy : Rat} {t : Tm} (h1 : Zu ax ≤ Kx) (h2 : Zu bx ≤ Kx) (h3 : Zu cx ≤ Kx) (h4 : Zu ay ≤ Kx) (h5 : Zu b ≤ Kx) (h6 : Zu cy ≤ Kx)
  (hd : d ≤ 12) (ht : t.i + t.j ≤ d) (hK : Zu t.c ≤ K) : Pq d (KT d K Kx - 2) (norm (sbT (ln ax bx cx) (ln ay b cy) t)) := by
 have p1 := Pq.line_pow (n := t.i) h1 h2 h3 (show t.i ≤ 12 by omega)
 have p2 := Pq.line_pow (n := t.j) h4 h5 h6 (show t.j ≤ 12 by omega)
 have p3 := Pq.mul p1 p2 (show t.i + t.j ≤ 12 by omega)
 have p4 := Pq.scale p3 hK (show t.i + t.j ≤ 12 by omega)
 have e : norm (Go.Proofs.YthcjdeklpegceaaGreatDoor.sbT (ln ax bx cx) (ln ay b cy) t) = norm (Ja t.c (norm (Jh (norm (Zbm (ln ax bx cx) t.i)) (norm (Zbm (ln ay b cy) t.j))))) := by
  refine (Ga ?_).symm
  exact ((Eqv.nrm _).trans ((Eqv.nrm _).mul (Eqv.nrm _))).scale t.c
 rw [e]
 refine p4.mono ht ?_
 have := Nat.mul_le_mul_right (3 * Kx + 4) ht
 rw [Nat.add_mul] at this
 unfold KT; omega
theorem Pq.sbl {d K Kx : Nat} {ax bx cx ay b cy : Rat} (h1 : Zu ax ≤ Kx) (h2 : Zu bx ≤ Kx) (h3 : Zu cx ≤ Kx) (h4 : Zu ay ≤ Kx) (h5 : Zu b ≤ Kx) (h6 : Zu cy ≤ Kx)
  (hd : d ≤ 12) {p : List Tm} (hD : DL d p) (hK : KL K p) : ∀ k, k ≤ p.length → Pq d (k * KT d K Kx + 1) (norm (sbL (ln ax bx cx) (ln ay b cy) (p.take k)))
 | 0, _ => by rw [List.take_zero, show sbL (ln ax bx cx) (ln ay b cy) [] = [] from rfl, Zk8, Nat.zero_mul]; exact Pq.nil d
 | k + 1, hk => by
  have ih := Pq.sbl h1 h2 h3 h4 h5 h6 hd hD hK k oo
  have hmem := getD_mem p (d := (⟨0, 0, 0⟩ : Tm)) (show k < p.length by omega)
  have pt := Pq.sbT (t := p.getD k ⟨0, 0, 0⟩) h1 h2 h3 h4 h5 h6 hd (hD _ hmem) (hK _ hmem)
  have pa := Pq.add ih pt hd hd
  have e : p.take (k + 1) = p.take k ++ [p.getD k ⟨0, 0, 0⟩] := by
   rw [List.take_add_one, List.getElem?_eq_getElem oo]; simp [List.getD, show k < p.length by omega]
  rw [e, Zp0, ← Ga ((Eqv.nrm _).append (Eqv.nrm _))]
  refine pa.mono oo ?_
  have : 20 ≤ KT d K Kx := by unfold KT; omega
  rw [Nat.add_mul]; omega
theorem Pq.shift {d K Kx : Nat} {ax bx cx ay b cy : Rat} {p : List Tm} (hp : Pq d K p) (h1 : Zu ax ≤ Kx) (h2 : Zu bx ≤ Kx) (h3 : Zu cx ≤ Kx) (h4 : Zu ay ≤ Kx) (h5 : Zu b ≤ Kx) (h6 : Zu cy ≤ Kx)
  (hd : d ≤ 12) : Pq d (KS d K Kx) (norm (shL p ax bx cx ay b cy)) := by
 have h := Pq.sbl h1 h2 h3 h4 h5 h6 hd (Vf hp.deg) hp.nsz (norm p).length (Nat.le_refl _)
 rw [List.take_length] at h
 unfold shL
 rw [← Ga (Eqv.sub Eqv.rfl' Eqv.rfl' (Eqv.nrm p))]
 exact h.mono (Nat.le_refl _) (by have := Nat.mul_le_mul_right (KT d K Kx) hp.nlen; unfold KS; omega)
def Zmz (φ : Nat → Nat → Rat) (l : List Tm) : Rat := l.foldl (fun s t => s + t.c * φ t.i t.j) 0
theorem Zqn (φ : Nat → Nat → Rat) : ∀ (l : List Tm) (s : Rat), l.foldl (fun s t => s + t.c * φ t.i t.j) s = s + lin φ l
 | [], s => by simp only [List.foldl_nil, lin]; grind
 | t :: l, s => by rw [List.foldl_cons, Zqn φ l, lin]; grind
theorem Zvf (φ : Nat → Nat → Rat) (l : List Tm) : Zmz φ l = lin φ l := by rw [Zmz, Zqn]; grind
theorem Zmy (φ : Nat → Nat → Rat) (l : List Tm) (t : Tm) : Zmz φ (l ++ [t]) = Zmz φ l + t.c * φ t.i t.j := by
 unfold Zmz; rw [List.foldl_append]; rfl
theorem Zft {φ : Nat → Nat → Rat} {K Kf : Nat} : ∀ {l : List Tm} (n : Nat), n ≤ l.length → KL K l → (∀ t ∈ l, Zu (φ t.i t.j) ≤ Kf) → Zu (Zmz φ (l.take n)) ≤ 2 + n * (K + Kf + 1)
 | l, 0, _, _, _ => by rw [List.take_zero]; have := Vh; unfold Zmz; simp only [List.foldl_nil]; omega
 | l, n + 1, hn, hK, hf => by
  have ih := Zft n oo hK hf
  have hmem := getD_mem l (d := (⟨0, 0, 0⟩ : Tm)) (show n < l.length by omega)
  have e : l.take (n + 1) = l.take n ++ [l.getD n ⟨0, 0, 0⟩] := by
   rw [List.take_add_one, List.getElem?_eq_getElem oo]; simp [List.getD, show n < l.length by omega]
  rw [e, Zmy]
  have := Qo (Zmz φ (l.take n)) ((l.getD n ⟨0, 0, 0⟩).c * φ (l.getD n ⟨0, 0, 0⟩).i (l.getD n ⟨0, 0, 0⟩).j)
  have := Zm (l.getD n ⟨0, 0, 0⟩).c (φ (l.getD n ⟨0, 0, 0⟩).i (l.getD n ⟨0, 0, 0⟩).j)
  have := hK _ hmem
  have := hf _ hmem
  rw [Nat.add_mul]; omega
def fq : Nat → Rat
 | 0 => 1
 | n + 1 => fq n * (((n + 1 : Nat) : Int) : Rat)
theorem Zzb : ∀ n, fq n ≠ 0
 | 0 => by rw [fq]; decide
 | n + 1 => by
  rw [fq]; intro h
  rcases Rat.mul_eq_zero.1 h with h | h
  · exact Zzb n h
  · exact Ze5 n h
theorem up_fq (q : Rat) : ∀ p, upQ q p = q * fq p
 | 0 => by rw [upQ, fq]; grind
 | p + 1 => by rw [upQ, up_fq q p, fq]; grind
theorem Zv8 (q : Rat) : ∀ n, Zjo q n = q / fq n
 | 0 => by rw [Zjo, fq]; grind
 | n + 1 => by
  have := Zzb n
  have := Ze5 n
  have := Zzb (n + 1)
  rw [Zjo, Zv8 q n]
  rw [fq] at *
  grind
theorem bt_fq : ∀ i j : Nat, bt i j * fq (i + j + 1) = fq i * fq j := by
 have h0 : ∀ j : Nat, bt 0 j * fq (0 + j + 1) = fq 0 * fq j := fun j => by
  have h1 := Zo1 j 0
  have e : bt 0 j = lam j 0 := rfl
  rw [e, Nat.zero_add, fq, fq]; grind
 intro i
 induction i with
 | zero => exact h0
 | succ i ih =>
  intro j
  have h1 := (Zpd i j).1
  have h2 := ih j
  have e : fq (i + 1 + j + 1) = fq (i + j + 1) * (((i + j + 2 : Nat) : Int) : Rat) := by
   rw [show i + 1 + j + 1 = (i + j + 1) + 1 by omega, fq]
  have e2 : fq (i + 1) = fq i * (((i + 1 : Nat) : Int) : Rat) := rfl
  rw [e, e2]; grind
theorem Zp9 (i j : Nat) : Zev (i + j + 2) [i, j] = mu i j := by
 unfold Zev
 rw [Zv8]
 simp only [List.foldl_cons, List.foldl_nil, up_fq]
 have h1 := mu_bt i j
 have h2 := bt_fq (i + 1) j
 have n1 := Ze5 i
 have n2 := Zzb (i + j + 2)
 have e : fq (i + 1 + j + 1) = fq (i + j + 2) := by congr 1; omega
 have e2 : fq (i + 1) = fq i * (((i + 1 : Nat) : Int) : Rat) := rfl
 rw [e, e2] at h2
 have h3 : (((i + 1 : Nat) : Int) : Rat) * (mu i j * fq (i + j + 2) - fq i * fq j) = 0 := by grind
 rcases Rat.mul_eq_zero.1 h3 with h | h
 · exact absurd h n1
 · grind
theorem Zoz (i j : Nat) (hi : i ≤ 12) (hj : j ≤ 12) : Zu (Zev (i + j + 2) [i, j]) ≤ 300 := by
 unfold Zev
 have h1 := Zdz ([i, j].foldl upQ 1) (i + j + 2) oo
 simp only [List.foldl_cons, List.foldl_nil] at *
 have h2 := Zin 1 i oo
 have h3 := Zin (upQ 1 i) j oo
 have h4 := Zem
 omega
theorem Zvj (i j : Nat) (h : i + j ≤ 12) : Zu (mu i j) ≤ 300 := by rw [← Zp9]; exact Zoz i j oo oo
theorem Zqs (i j : Nat) (h : i ≤ 12) : Zu (lam i j) ≤ 4 := Zgd 1 ((i + 1 : Nat) : Int) oo oo oo oo
end
section
def SG (d K Kp : Nat) : Nat := 2 + tri (d + 1) * (KS d K (2 * Kp + 1) + 5)
def TR (d K Kp : Nat) : Nat := (8 * Kp + 5) + (2 + tri (d + 1) * (KS d K (2 * Kp + 1) + 301))
theorem Jv {K : Nat} {x y : Rat} (hx : Zu x ≤ K) (hy : Zu y ≤ K) : Zu (x - y) ≤ 2 * K + 1 := by have := Zae x y; omega
def PtK (K : Nat) (a : Pt) : Prop := Zu a.1 ≤ K ∧ Zu a.2 ≤ K
theorem PtK.mono {K K' : Nat} {a : Pt} (h : PtK K a) (hk : K ≤ K') : PtK K' a := ⟨Nat.le_trans h.1 hk, Nat.le_trans h.2 hk⟩
theorem Pq.seg {d K Kp : Nat} {p : List Tm} (hq : Pq d K p) (hd : d ≤ 12) {a b : Pt} (ha : PtK Kp a) (hb : PtK Kp b) (hk : 2 ≤ Kp) : Pq d (KS d K (2 * Kp + 1)) (norm (shL p (b.1 - a.1) 0 a.1 (b.2 - a.2) 0 a.2)) := by
 have h0 := Vh
 have h1 := ha.1
 have h2 := ha.2
 exact Pq.shift hq (Jv hb.1 ha.1) oo oo (Jv hb.2 ha.2) oo oo hd
theorem Zpz (p : List Tm) (a b : Pt) : Zmz lam (norm (shL p (b.1 - a.1) 0 a.1 (b.2 - a.2) 0 a.2)) = Zr5 p a b := by rw [Zvf, Zb5]; rfl
theorem Zqq {d K Kp : Nat} {p : List Tm} (hq : Pq d K p) (hd : d ≤ 12) {a b : Pt} (ha : PtK Kp a) (hb : PtK Kp b) (hk : 2 ≤ Kp) : Zu (Zr5 p a b) ≤ SG d K Kp := by
 have h := Pq.seg hq hd ha hb hk
 have hn := h.nrm hd
 rw [Zfn] at hn
 have h1 : _ ≤ 2 + _ * (KS d K (2 * Kp + 1) + 5) := Zft (φ := lam) (Kf := 4) (norm (shL p (b.1 - a.1) 0 a.1 (b.2 - a.2) 0 a.2)).length (Nat.le_refl _) h.siz (fun t ht => Zqs _ _ (by have := h.deg t ht; omega))
 rw [List.take_length, Zpz] at h1
 have hl := h.nlen
 rw [Zfn] at hl
 have := Nat.mul_le_mul_right (KS d K (2 * Kp + 1) + 5) hl
 unfold SG; omega
theorem Qb3 {K : Nat} {a b c : Pt} (ha : PtK K a) (hb : PtK K b) (hc : PtK K c) : Zu (twQ a b c) ≤ 8 * K + 5 := by
 have h1 := Jv hb.1 ha.1
 have h2 := Jv hc.2 ha.2
 have h3 := Jv hc.1 ha.1
 have h4 := Jv hb.2 ha.2
 have h5 := Zm (b.1 - a.1) (c.2 - a.2)
 have h6 := Zm (c.1 - a.1) (b.2 - a.2)
 have h7 := Zae ((b.1 - a.1) * (c.2 - a.2)) ((c.1 - a.1) * (b.2 - a.2))
 unfold twQ; omega
theorem Pq.triS {d K Kp : Nat} {p : List Tm} (hq : Pq d K p) (hd : d ≤ 12) {a b c : Pt} (ha : PtK Kp a) (hb : PtK Kp b) (hc : PtK Kp c) : Pq d (KS d K (2 * Kp + 1)) (norm (shL p (b.1 - a.1) (c.1 - a.1) a.1 (b.2 - a.2) (c.2 - a.2) a.2)) := by
 have h1 := ha.1
 have h2 := ha.2
 exact Pq.shift hq (Jv hb.1 ha.1) (Jv hc.1 ha.1) oo (Jv hb.2 ha.2) (Jv hc.2 ha.2) oo hd
theorem Zxu (p : List Tm) (a b c : Pt) : twQ a b c * Zmz mu (norm (shL p (b.1 - a.1) (c.1 - a.1) a.1 (b.2 - a.2) (c.2 - a.2) a.2)) = Zaw p a b c := by rw [Zvf, Zb5]; rfl
theorem Zvi {d K Kp : Nat} {p : List Tm} (hq : Pq d K p) (hd : d ≤ 12) {a b c : Pt} (ha : PtK Kp a) (hb : PtK Kp b) (hc : PtK Kp c) :
  Zu (Zmz mu (norm (shL p (b.1 - a.1) (c.1 - a.1) a.1 (b.2 - a.2) (c.2 - a.2) a.2))) ≤ 2 + tri (d + 1) * (KS d K (2 * Kp + 1) + 301) := by
 have h := Pq.triS hq hd ha hb hc
 have hn := h.nrm hd
 rw [Zfn] at hn
 have h1 : _ ≤ 2 + _ * (KS d K (2 * Kp + 1) + 301) := Zft (φ := mu) (Kf := 300) (norm (shL p (b.1 - a.1) (c.1 - a.1) a.1 (b.2 - a.2) (c.2 - a.2) a.2)).length (Nat.le_refl _) h.siz (fun t ht => Zvj _ _ (by have := h.deg t ht; omega))
 rw [List.take_length] at h1
 have hl := h.nlen
 rw [Zfn] at hl
 have := Nat.mul_le_mul_right (KS d K (2 * Kp + 1) + 301) hl
 omega
def fanF (p : List Tm) (a : Pt) (l : List Pt) : Nat → Rat
 | 0 => 0
 | k + 1 => fanF p a l k + Zaw p a (l.getD k (0, 0)) (l.getD (k + 1) (0, 0))
end
section
theorem Zew (l : List Tm) (x y : Rat) : evP (norm l) x y = evP l x y := (Eqv.nrm l).val x y
end
section
abbrev Zbr (x y : Rat) : Value := .agg #[.int .u64 (Kv x.num.natAbs), .string (Yx x.num.natAbs), .bool (decide (x.num < 0)), .int .u64 (Kv (x.den - 1)), .string (Yx (x.den - 1)),
 .int .u64 (Kv y.num.natAbs), .string (Yx y.num.natAbs), .bool (decide (y.num < 0)), .int .u64 (Kv (y.den - 1)), .string (Yx (y.den - 1))]
abbrev encPt (p : Pt) : Value := Zbr p.1 p.2
end
section
theorem Zpj (b : Nat) (s : Rat) (ad : Option Addr) (c K : Nat) (l : List Rat) (σ : List (Nat × Obj)) (Φ : List Qf) (hn : l.length ≤ 100) (hK : K ≤ 9000000) (hs : Zu s ≤ 1000000) (hx : ∀ x ∈ l, Zu x ≤ K) (hR : Row ad (cellsOf Zr l) ∈ Φ) :
  Znq Tryz.prog 61 [.func (.func 62) #[.pointer (some ⟨b, 0, none⟩)] #[], .slice ad l.length c] ((b, .cells (Zr s).cells 128 (0, 0)) :: σ) Φ (fun v σ' Φ' => v = .tuple #[] ∧ σ' = (b, .cells (Zr (l.foldl (· + ·) s)).cells 128 (0, 0)) :: σ ∧ Φ' = Φ) := by
 refine fn_introM func61 rfl ntmps61 nb ?_
 intro S w0 a w hS h
 refine gC h (zS (zm rfl (zp (.builtin [_] rfl (Kd _ _ _)) (zm rfl (zn (zb ?_)))))); clear h; intro a w h
 refine Zn (fun (i : Nat) a w => i ≤ l.length ∧ (Zu ((l.take i).foldl (· + ·) s) ≤ 1000000 + i * (K + 1)) ∧ St 16 S w0 [(0, .func (.func 62) #[.pointer (some ⟨b, 0, none⟩)] #[]), (6, .slice ad l.length c), (7, nI l.length), (8, nI i)] ((b, bV (Zr ((l.take i).foldl (· + ·) s)) 128) :: σ) (Φ) a w) (fun i => l.length - i) 0 (⟨Nat.zero_le _, by simpa using hs, by exact (h).sub sA⟩) ?_; clear h
 rintro i a w ⟨hi_i, hinv_i, h⟩
 refine gC h (zS (zp (.lss rfl rfl) (zn (zs ?_)))); clear h; intro a w h
 refine Zg h rfl (fun hc9 => ?_) (fun hc9 => ?_)
 ·
  skip
  have hlt_i : i < l.length := dT hc9
  obtain ⟨B_ad, O_ad, rfl⟩ := h.row_addr (ad := ad) (M := cellsOf Zr l) mm (nE 5)
  have hl := hx (l.getD i 0) (getD_mem _ hlt_i)
  have hsum := Zd1 (f := (· + ·)) l s i 0 hlt_i
  have hla := Qo ((l.take i).foldl (· + ·) s) (l.getD i 0)
  have hik := Nat.mul_le_mul (show i ≤ 100 by omega) (show K + 1 ≤ 9000001 by omega)
  refine gC h (zk (zs (zb (zS (zp (.indexAddr rfl rfl (Gn _ _ _ _ _ oo)) (zD rfl mm (cells_lt (k := 5) dd (fun _ => rfl) l i oo) isAgg41 sizeOf41 (Zq (k := 5) (fun _ => rfl) ((fun _ => rfl)) l 0 i oo) (.inl rfl) ?_))))))
  refine zz Ju fun b5 => zt' rfl rfl Zp uu sizeOf41 rfl nb rfl ?_
  refine zn (zr (zm rfl (zd rfl mr isAgg41 sizeOf41 Zh ?_))); intro a w h
  refine Zc (Zu1 h hS (fs := [.pointer (some ⟨b, 0, none⟩)]) (cs := []) rfl (vs := [_]) rfl call62 (C_tadd b ((l.take i).foldl (· + ·) s) (l.getD i 0) ((b5, _) :: σ) Φ oo oo) (List.Perm.swap _ _ _) ss ss ?_); clear h; rintro v14 σ14 Ψ14 a w ⟨rfl, rfl, rfl⟩ h
  refine gL h (zn (zr (zp (.pN (i + 1) (.add rfl rfl)) (zm rfl (zn ?_))))); clear h; intro a w h
  rw [← hsum] at h
  exact ⟨i + 1, ⟨oo, by rw [hsum, Nat.add_mul]; omega, (h.drop sl).sub sA⟩, oo⟩
 ·
  skip
  have heq_i : l.length = i := dF hc9
  subst heq_i
  refine wp_exit ?_
  refine Ztg h (Zax rfl) ⟨rfl, by rw [List.take_length], rfl⟩ (List.Sublist.refl _) (fun _ h => h)
theorem Qdl (ad : Option Addr) (c K : Nat) (l : List Rat) (hn : l.length ≤ 100) (hK : K ≤ 9000000) (hx : ∀ x ∈ l, Zu x ≤ K) :
  Gh Tryz.prog 17 [.slice ad l.length c] [Row ad (cellsOf Zr l)] (Zr (l.foldl (· + ·) 0)) := by
 refine fn_intro func17 rfl ntmps17 nb ?_
 intro S w0 a hS h
 refine gC h (zS (zz Ju fun b2 => zn (zS (zz zeroValue128 fun b3 => zn (zS (zp (.makeFunc [_] [] rfl rfl) (zm rfl ?_))))))); clear h; intro a w h
 refine Zc (Zc7 h hS (vs := [_, _]) rfl call61 (Zpj b3 0 ad c K l [(b2, _)] [Row ad (cellsOf Zr l)] hn hK (Nat.le_trans Vh dd) hx List.mem_cons_self) (List.Perm.refl _) ss ss ?_); clear h; rintro v6 σ6 Ψ6 a w ⟨rfl, rfl, rfl⟩ h
 refine gL h (zn (zS (zp (.fA rfl Zlr) (zd rfl mr isAgg41 sizeOf41 Zh ?_))))
 refine zt' rfl rfl Zp uu sizeOf41 rfl nb rfl ?_; intro a w h
 refine wpList_nil (wp_ret ?_)
 refine Xd h (Zk h rfl (.cell rfl mr isAgg41 sizeOf41 Zh)) ?_
 rfl
end
section
theorem Vr {b off : Nat} (w : World) : (Instr.fieldAt 125 (.pointer (some ⟨b, off, none⟩)) 0).run Tryz.prog w = .ok (.pointer (some ⟨b, off + 0, none⟩)) w := by
 simp [go_sem]
theorem Zby {c0 c1 c2 c3 c4 c5 c6 : Value} : Qe false 1 #[c0, c1, c2, c3, c4, c5, c6] 0 = some c0 := rfl
theorem Ve {b off : Nat} (w : World) : (Instr.fieldAt 125 (.pointer (some ⟨b, off, none⟩)) 1).run Tryz.prog w = .ok (.pointer (some ⟨b, off + 1, none⟩)) w := by
 simp [go_sem]
theorem Zbj {c0 c1 c2 c3 c4 c5 c6 : Value} : Qe false 1 #[c0, c1, c2, c3, c4, c5, c6] 1 = some c1 := rfl
theorem Yz (x0 : Int) (x1 : Int) (w : World) : (Instr.buildSlice 215 2 [(0, .int .i64 x0), (1, .int .i64 x1)].toArray).run Tryz.prog w = .ok (.slice (some ⟨w.heap.size, 0, none⟩) 2 2) (w.alloc (.cells #[.int .i64 x0, .int .i64 x1] 3 (0, 0))) := by
 simp [go_sem]
theorem Ky {b off : Nat} (w : World) : (Instr.fieldAt 125 (.pointer (some ⟨b, off, none⟩)) 2).run Tryz.prog w = .ok (.pointer (some ⟨b, off + 2, none⟩)) w := by
 simp [go_sem]
theorem Zb1 {c0 c1 c2 c3 c4 c5 c6 : Value} : Qe true 5 #[c0, c1, c2, c3, c4, c5, c6] 2 = some (.agg #[c2, c3, c4, c5, c6]) := rfl
theorem Js (a : Option Addr) (n c : Nat) (w : World) (ty : TypeId) (cs : Array Bool) : (Go.builtin .len #[65] ty cs #[.slice a n c]).run Tryz.prog w = .ok (.value (.int .i64 n)) w := by
 simp [go_sem]
theorem Zgh (b off n c j : Nat) (h : j < n) (w : World) : (Instr.indexAt 65 (.slice (some ⟨b, off, none⟩) n c) (.int .i64 (j : Int))).run Tryz.prog w = .ok (.pointer (some ⟨b, off + j * 7, none⟩)) w := by
 simpa using Xi runUnderlying65 sizeOf125 b off n c j h w
abbrev T0 : Tm := ⟨0, 0, 0⟩
abbrev Qh (t : Tm) : Value := .agg #[.int .i64 ((t.i : Nat) : Int), .int .i64 ((t.j : Nat) : Int), .int .u64 (Kv t.c.num.natAbs), .string (Yx t.c.num.natAbs), .bool (decide (t.c.num < 0)), .int .u64 (Kv (t.c.den - 1)), .string (Yx (t.c.den - 1))]
theorem Zey (w : World) : (zeroValue 125).run Tryz.prog w = .ok (Qh T0) w := zeroValue125 w
def Zxo (s t : Tm) : Int := orI [Zpc ((s.i + s.j : Nat) : Int) ((t.i + t.j : Nat) : Int), Zpc ((s.j : Nat) : Int) ((t.j : Nat) : Int)]
theorem Zwi (i k : Int) : Zpc i k < 0 ↔ i < k := by unfold Zpc; split <;> (try split) <;> omega
theorem Qcn (i k : Int) : Zpc i k = 0 ↔ i = k := by unfold Zpc; split <;> (try split) <;> omega
theorem Zol (s t : Tm) : Zxo s t < 0 ↔ ltT s t = true := by
 rw [Zdw]
 unfold Zxo
 have h1 := Zwi ((s.i + s.j : Nat) : Int) ((t.i + t.j : Nat) : Int)
 have h2 := Qcn ((s.i + s.j : Nat) : Int) ((t.i + t.j : Nat) : Int)
 have h3 := Zwi ((s.j : Nat) : Int) ((t.j : Nat) : Int)
 simp only [orI]
 split
 · omega
 ·
  split
  · omega
  · rename_i h4 h5; have h6 := Decidable.of_not_not h5; omega
theorem Zz1 (s t : Tm) (hs : s.i + s.j ≤ 1000000) (ht : t.i + t.j ≤ 1000000) : Xm Tryz.prog 141 [Qh s, Qh t] (.int .i64 (Zxo s t)) := by
 refine fn_intro func141 rfl ntmps141 nb ?_
 intro S w0 a hS h
 refine gC h (zS (zx rfl fun b2 => zx rfl fun b3 => za rfl (zn (zs (yD Za [0, 1, 2, 3, 4, 5, 6, 7, 8, 9, 11, 12, 13, 14, 10, 15, 16, 17, 18] (Zd kk) (yp rfl (.fA rfl Vr) (yd rfl rfl mr isAgg3 sizeOf3 Zby ?_))))))); clear h
 refine yp rfl (.fA rfl Ve) (yd rfl rfl mr isAgg3 sizeOf3 Zbj ?_)
 refine yp rfl (.pN (((s).i) + ((s).j)) (.add rfl rfl)) (yp rfl (.fA rfl Vr) (yd rfl rfl mr isAgg3 sizeOf3 Zby ?_))
 refine yp rfl (.fA rfl Ve) (yd rfl rfl mr isAgg3 sizeOf3 Zbj ?_)
 refine yp rfl (.pN (((t).i) + ((t).j)) (.add rfl rfl)) (yp rfl (.fA rfl Ve) (yd rfl rfl mr isAgg3 sizeOf3 Zbj ?_))
 refine yp rfl (.fA rfl Ve) (yd rfl rfl mr isAgg3 sizeOf3 Zbj ?_)
 refine yv [_, _] rfl rfl call170 (Qa4 (((((s).i) + ((s).j) : Nat) : Int)) (((((t).i) + ((t).j) : Nat) : Int))) (yv [_, _] rfl rfl call170 (Qa4 ((((s).j : Nat) : Int)) ((((t).j : Nat) : Int))) ?_)
 refine Zlm hS rfl kk [(_, _), (_, _)] rfl (Yz _ _) (List.map enci [Zpc ((s.i + s.j : Nat) : Int) ((t.i + t.j : Nat) : Int), Zpc ((s.j : Nat) : Int) ((t.j : Nat) : Int)]) rfl dd ?_; intro b21
 refine yw [_] rfl rfl call169 (C_Or _ _ ([Zpc (((((s).i) + ((s).j) : Nat) : Int)) (((((t).i) + ((t).j) : Nat) : Int)), Zpc ((((s).j : Nat) : Int)) ((((t).j : Nat) : Int))]) nb) (yp rfl (.assign rfl) (yn (zt ?_))); intro a w h
 exact Zdj h
theorem C_may (t : Tm) (ht : t.i + t.j ≤ 12) : Xm Tryz.prog 182 [Qh t] (.int .i64 0) := by
 refine fn_intro func182 rfl ntmps182 nb ?_
 intro S w0 a hS h
 refine gC h (zS (zx rfl fun b1 => za rfl (zn (zs (zb (zS (zp (.fA rfl Vr) (zd rfl mr isAgg3 sizeOf3 Zby ?_))))))))
 refine zp (.lss rfl rfl) (zm rfl ?_); intro a w h
 refine Qp h (fun hc7 h => (by exfalso; have := of_decide_eq_true hc7; omega)) (fun hc7 h => ?_)
 refine gL h (zq 7 rfl rfl (.fA rfl Ve) ?_); clear h; intro a w h
 refine Zt 7 h rfl rfl (Qd h rfl mr isAgg3 sizeOf3 Zbj dd ?_); clear h; intro a h
 refine gL h (zq 7 rfl rfl (.lss rfl rfl) (zp (.pickF rfl rfl) (za rfl (zn ?_)))); clear h; intro a w h
 refine cW ?_
 refine Zg h rfl (fun hc3 => (by exfalso; have := of_decide_eq_true hc3; omega)) (fun hc3 => ?_)
 refine gC h (zS (zp (.fA rfl Vr) (zd rfl mr isAgg3 sizeOf3 Zby ?_)))
 refine zp (.gtr rfl rfl) (zm rfl ?_); intro a w h
 refine Qp h (fun hc16 h => (by exfalso; have := of_decide_eq_true hc16; omega)) (fun hc16 h => ?_)
 refine gL h (zq 16 rfl rfl (.fA rfl Ve) ?_); clear h; intro a w h
 refine Zt 16 h rfl rfl (Qd h rfl mr isAgg3 sizeOf3 Zbj dd ?_); clear h; intro a h
 refine gL h (zq 16 rfl rfl (.fA rfl Vr) ?_); clear h; intro a w h
 refine Zt 16 h rfl rfl (Qd h rfl mr isAgg3 sizeOf3 Zby dd ?_); clear h; intro a h
 refine gL h (zq 16 rfl rfl (.sub rfl rfl) (zq 16 rfl rfl (.gtr rfl rfl) (zp (.pickF rfl rfl) (za rfl (zn ?_))))); clear h; intro a w h
 refine cW ?_
 refine Zg h rfl (fun hc12 => (by exfalso; have := of_decide_eq_true hc12; omega)) (fun hc12 => ?_)
 refine gC h (zk (zS (za rfl (zn (zt ?_))))); clear h; intro a w h
 exact Zdj h
theorem Qa3 (t : Tm) : Xm Tryz.prog 139 [Qh t] (.bool (decide (t.c = 0))) := by
 refine fn_intro func139 rfl ntmps139 nb ?_
 intro S w0 a hS h
 refine gC h (zS (zx rfl fun b1 => za rfl (zn (zS (zp (.fA rfl Ky) (zd rfl mr isAgg41 sizeOf41 Zb1 ?_))))))
 refine zv [_] rfl call23 (Zeb _) (zp (.eql rfl rfl) (za rfl (zn (zt ?_)))); intro a w h
 refine Xd h (Zk h rfl (.tmp rfl)) ?_
 show Value.bool _ = Value.bool _; congr 1; rw [Bool.eq_iff_iff, beq_iff_eq, decide_eq_true_iff, Int.sign_eq_zero_iff_zero]; exact Rat.num_eq_zero
def Zo3 : List Tm → Nat → Int
 | [], _ => -1
 | x :: l, i => if x.c = 0 then (i : Int) else Zo3 l (i + 1)
theorem Zm5 (l : List Tm) (i : Nat) (h : i < l.length) : Zo3 (l.drop i) i = if (l.getD i T0).c = 0 then (i : Int) else Zo3 (l.drop (i + 1)) (i + 1) := by
 rw [List.drop_eq_getElem_cons h, Zo3]; simp [List.getD, h]
theorem Zm7 : ∀ (l : List Tm) (i : Nat), Zo3 l i = -1 → l.filter (fun t => decide (t.c ≠ 0)) = l
 | [], _, _ => rfl
 | x :: l, i, h => by
  rw [Zo3] at h
  split at h
  · omega
  · rename_i hx; rw [List.filter_cons, if_pos (by simpa using hx), Zm7 l (i + 1) h]
theorem Zm6 : ∀ (l : List Tm) (i k : Nat), Zo3 l i = (k : Int) → i ≤ k ∧ k - i < l.length ∧ (l.getD (k - i) T0).c = 0 ∧ (l.take (k - i)).filter (fun t => decide (t.c ≠ 0)) = l.take (k - i)
 | [], i, k, h => by rw [Zo3] at h; omega
 | x :: l, i, k, h => by
  rw [Zo3] at h
  split at h
  ·
   rename_i hx
   have : k = i := oo
   subst this
   simp [hx]
  ·
   rename_i hx
   obtain ⟨h1, h2, h3, h4⟩ := Zm6 l (i + 1) k h
   have e : k - i = (k - (i + 1)) + 1 := oo
   rw [e]
   refine ⟨oo, by simp; omega, by simpa using h3, ?_⟩
   rw [List.take_succ_cons, List.filter_cons, if_pos (by simpa using hx), h4]
theorem Qad (b c : Nat) (p : List Tm) (R : List Value) (σ : List (Nat × Obj)) (Φ : List Qf) (hn : p.length ≤ 1000000) :
  Znq Tryz.prog 166 [.slice (some ⟨b, 0, none⟩) p.length c, .func (.func 139) #[] #[]] ((b, .cells (cellsOf Qh p ++ R).toArray 125 (0, 0)) :: σ) Φ (fun v σ' Φ' => v = .int .i64 (Zo3 p 0) ∧ σ' = ((b, .cells (cellsOf Qh p ++ R).toArray 125 (0, 0)) :: σ) ∧ Φ' = Φ) := by
 refine fn_introM func166 rfl ntmps166 nb ?_
 intro S w0 a w hS h
 refine gC h (zS (za rfl (zn (zs (zS (zm rfl (zp (.builtin [_] rfl (Js _ _ _)) (zm rfl (zn (zb ?_)))))))))); clear h; intro a w h
 refine Zn (fun (i : Nat) a w => i ≤ p.length ∧ (Zo3 p 0 = Zo3 (p.drop i) i) ∧ St 19 S w0 [(0, .slice (some ⟨b, 0, none⟩) p.length c), (1, .func (.func 139) #[] #[]), (7, nI p.length), (8, nI i)] ((b, .cells (cellsOf Qh (p) ++ R).toArray 125 (0, 0)) :: σ) (Φ) a w) (fun i => p.length - i) 0 (⟨Nat.zero_le _, rfl, by exact (h).sub sA⟩) ?_; clear h
 rintro i a w ⟨hi_i, hinv_i, h⟩
 refine gC h (zS (zp (.lss rfl rfl) (zn (zs ?_)))); clear h; intro a w h
 refine Zg h rfl (fun hc9 => ?_) (fun hc9 => ?_)
 ·
  skip
  have hlt_i : i < p.length := dT hc9
  refine gC h (zk (zs (zb (zS (zm rfl (za rfl (zn (zS (zm rfl (zm rfl (zm rfl (zp (.indexAddr rfl rfl (Zgh _ _ _ _ _ oo)) (zd rfl mm isAgg125 sizeOf125 (Zid (k := 7) (fun _ => rfl) ((fun _ => rfl)) p R T0 i oo) ?_))))))))))))); clear h; intro a w h
  refine Zc (Zfm h (fs := []) (cs := []) rfl (vs := [_]) rfl call139 (Qa3 (p.getD i T0)) dd ?_); clear h; intro a w h
  refine Qp h (fun hc16 h => ?_) (fun hc16 h => ?_)
  ·
   skip
   refine wpList_nil ?_
   refine cW ?_
   refine Zi h rfl ?_
   refine gC h (zS (zm rfl (za rfl (zn (zt ?_))))); clear h; intro a w h
   refine Ztg h (Zk h rfl (.tmp rfl)) ⟨by rw [hinv_i, Zm5 p i hlt_i, if_pos (of_decide_eq_true hc16)], rfl, rfl⟩ (List.Sublist.refl _) (fun _ h => h)
  ·
   skip
   refine wpList_nil ?_
   refine cW ?_
   refine Zf h rfl ?_
   refine gC h (zk (zr (zp (.pN (i + 1) (.add rfl rfl)) (zm rfl (zn ?_))))); clear h; intro a w h
   exact ⟨i + 1, ⟨oo, by rw [hinv_i, Zm5 p i hlt_i, if_neg (of_decide_eq_false hc16)], h.sub sA⟩, oo⟩
 ·
  skip
  have heq_i : p.length = i := dF hc9
  subst heq_i
  refine gC h (ze (zS (za rfl (zn (zt ?_))))); clear h; intro a w h
  refine Ztg h (Zk h rfl (.tmp rfl)) ⟨by rw [hinv_i, List.drop_length]; rfl, rfl, rfl⟩ (List.Sublist.refl _) (fun _ h => h)
end
section
theorem Zaa {c0 c1 c2 c3 c4 c5 c6 v0 v1 v2 v3 v4 v5 v6 : Value} : Qc #[c0, c1, c2, c3, c4, c5, c6] 0 [v0, v1, v2, v3, v4, v5, v6] = #[v0, v1, v2, v3, v4, v5, v6] := by kernel_rfl
theorem Zfj {c0 c1 c2 c3 c4 c5 c6 : Value} : Qe true 7 #[c0, c1, c2, c3, c4, c5, c6] 0 = some (.agg #[c0, c1, c2, c3, c4, c5, c6]) := rfl
theorem slo_65 (b off n c lo : Nat) (h1 : lo ≤ n) (w : World) : (Instr.sliceAt 65 (.slice (some ⟨b, off, none⟩) n c) (some (.int .i64 (lo : Int))) none none).run Tryz.prog w = .ok (.slice (some ⟨b, if c = lo then off else off + lo * 7, none⟩) (n - lo) (c - lo)) w := Zoe runUnderlying65 sizeOf125 b off n c lo h1 w
theorem slh_65 (a : Option Addr) (n c j : Nat) (h : j ≤ c) (w : World) : (Instr.sliceAt 65 (.slice a n c) none (some (.int .i64 (j : Int))) none).run Tryz.prog w = .ok (.slice a j c) w := by
 exact Zgt runUnderlying65 sizeOf125 a n c j h w
theorem Zqz : ∀ (l : List Tm) (i : Nat), Zo3 l i ≠ -1 → ∃ k : Nat, Zo3 l i = (k : Int)
 | [], _, h => absurd rfl h
 | x :: l, i, h => by
  rw [Zo3] at h ⊢
  split
  · exact ⟨i, rfl⟩
  · rename_i hx; rw [if_neg hx] at h; exact Zqz l (i + 1) h
theorem take_snoc (l : List Tm) {j : Nat} (h : j < l.length) : l.take (j + 1) = l.take j ++ [l.getD j T0] := by
 rw [List.take_add_one, List.getElem?_eq_getElem h]; simp [List.getD, h]
theorem getD_drop (l m : List Tm) {j : Nat} (h : l.drop j = m.drop j) : l.getD j T0 = m.getD j T0 := by
 have := congrArg (fun x => x[0]?) h
 simp only [List.getElem?_drop, Nat.add_zero] at this
 simp only [List.getD]; rw [this]
theorem Zzj {p q : List Tm} {i j : Nat} (hq : q.length = p.length ∧ i < j ∧ q.take i = (p.take j).filter (fun t => decide (t.c ≠ 0)) ∧ q.drop j = p.drop j) (hj : j < p.length) (hc : (q.getD j T0).c = 0) :
  q.length = p.length ∧ i < j + 1 ∧ q.take i = (p.take (j + 1)).filter (fun t => decide (t.c ≠ 0)) ∧ q.drop (j + 1) = p.drop (j + 1) := by
 obtain ⟨h1, h2, h3, h4⟩ := hq
 have hg := getD_drop _ _ h4
 refine ⟨h1, oo, ?_, ?_⟩
 · rw [take_snoc p hj, List.filter_append, ← h3, ← hg, List.filter_cons, if_neg (by simpa using hc)]; simp
 ·
  have := congrArg (List.drop 1) h4
  rw [List.drop_drop, List.drop_drop] at this; exact this
theorem Zzk {p q : List Tm} {i j : Nat} (hq : q.length = p.length ∧ i < j ∧ q.take i = (p.take j).filter (fun t => decide (t.c ≠ 0)) ∧ q.drop j = p.drop j) (hj : j < p.length) (hc : (q.getD j T0).c ≠ 0) :
  (q.set i (q.getD j T0)).length = p.length ∧ i + 1 < j + 1 ∧ (q.set i (q.getD j T0)).take (i + 1) = (p.take (j + 1)).filter (fun t => decide (t.c ≠ 0)) ∧ (q.set i (q.getD j T0)).drop (j + 1) = p.drop (j + 1) := by
 obtain ⟨h1, h2, h3, h4⟩ := hq
 have hg := getD_drop _ _ h4
 refine ⟨by rw [List.length_set, h1], oo, ?_, ?_⟩
 ·
  rw [take_snoc (q.set i (q.getD j T0)) (by rw [List.length_set]; omega), take_snoc p hj, List.filter_append, ← h3, ← hg, List.filter_cons, if_pos (by simpa using hc)]
  rw [List.take_set_of_le (Nat.le_refl _)]
  congr 2
  simp only [List.getD, List.getElem?_set, if_pos rfl, if_pos (show i < q.length by omega)]; simp
 ·
  rw [List.drop_set_of_lt oo]
  have := congrArg (List.drop 1) h4
  rw [List.drop_drop, List.drop_drop] at this; exact this
theorem Yb (t : Tm) : (Qh t).cells.size = 7 := rfl
theorem Zwk {q : List Tm} {n i : Nat} (R : List Value) (hq : q.length = n) (hi : i ≤ n) :
  Qc (cellsOf Qh q ++ R).toArray (0 + i * 7) (Zfa (n - i) (Qh T0).cells.toList) = (cellsOf Qh (q.take i) ++ (Zfa (n - i) (Qh T0).cells.toList ++ R)).toArray := by
 have e : cellsOf Qh q = cellsOf Qh (q.take i) ++ cellsOf Qh (q.drop i) := by rw [← Qj, List.take_append_drop]
 have hl : (cellsOf Qh (q.take i)).length = i * 7 := by rw [cellsOf_length Yb]; simp [hq, Nat.min_eq_left hi]
 have := Zbh (Zfa (n - i) (Qh T0).cells.toList) (cellsOf Qh (q.take i)) (cellsOf Qh (q.drop i)) R (by
  rw [Zbl, cellsOf_length Yb, List.length_drop, hq]; rfl)
 rw [e, Nat.zero_add, ← hl, this, List.append_assoc]
theorem Zzo {q : List Tm} {n i : Nat} (R : List Value) (hq : q.length = n) (hi : i ≤ n) : 0 + i * 7 + (n - i) * (Qh T0).cells.size ≤ (cellsOf Qh q ++ R).toArray.size := by
 show 0 + i * 7 + (n - i) * 7 ≤ (cellsOf Qh q ++ R).length
 rw [List.length_append, cellsOf_length Yb, hq]; omega
theorem Qcg {p q : List Tm} {i j : Nat} (hq : q.length = p.length ∧ i < j ∧ q.take i = (p.take j).filter (fun t => decide (t.c ≠ 0)) ∧ q.drop j = p.drop j) (hj : j = p.length) :
  q.take i = p.filter (fun t => decide (t.c ≠ 0)) ∧ i = (p.filter (fun t => decide (t.c ≠ 0))).length := by
 obtain ⟨h1, h2, h3, h4⟩ := hq
 have e : q.take i = p.filter (fun t => decide (t.c ≠ 0)) := by rw [h3, hj, List.take_length]
 refine ⟨e, ?_⟩
 rw [← e, List.length_take]; omega
theorem Zxh (b c : Nat) (p : List Tm) (R : List Value) (σ : List (Nat × Obj)) (Φ : List Qf) (hn : p.length ≤ 1000000) (hpc : p.length ≤ c) :
  Znq Tryz.prog 138 [.slice (some ⟨b, 0, none⟩) p.length c, .func (.func 139) #[] #[]] ((b, .cells (cellsOf Qh p ++ R).toArray 125 (0, 0)) :: σ) Φ
   (fun v σ' Φ' => v = .slice (some ⟨b, 0, none⟩) (p.filter (fun t => decide (t.c ≠ 0))).length c ∧ Φ' = Φ ∧ ∃ R' : List Value, (cellsOf Qh (p.filter (fun t => decide (t.c ≠ 0))) ++ R').length = (cellsOf Qh p ++ R).length ∧ σ' = (b, .cells (cellsOf Qh (p.filter (fun t => decide (t.c ≠ 0))) ++ R').toArray 125 (0, 0)) :: σ) := by
 refine fn_introM func138 rfl ntmps138 nb ?_
 intro S w0 a w hS h
 refine gC h (zS (za rfl (zn (zS (zm rfl (zm rfl ?_)))))); clear h; intro a w h
 refine Zc (Zc7 h hS (vs := [_, _]) rfl call166 (Qad b c p R σ Φ hn) (List.Perm.refl _) ss ss ?_); clear h; rintro v10 σ10 Ψ10 a w ⟨rfl, rfl, hΦ10⟩ h
 rw [hΦ10] at h
 refine gL h (za rfl (zn (zs (zS (zm rfl (zp (.eql rfl rfl) (zn ?_))))))); clear h; intro a w h
 refine cW ?_
 refine Zg h rfl (fun hc12 => ?_) (fun hc12 => ?_)
 ·
  skip
  have hn0 := Zm7 p 0 (eq_of_beq hc12)
  refine gC h (zS (zm rfl (za rfl (zn (zt ?_))))); clear h; intro a w h
  refine Ztg h (Zk h rfl (.tmp rfl)) ⟨by rw [hn0], rfl, R, by rw [hn0], by rw [hn0]⟩ (List.Sublist.refl _) (fun _ h => h)
 ·
  skip
  obtain ⟨k, hk⟩ := Zqz p 0 (fun e => by rw [e] at hc12; exact absurd hc12 dd)
  rw [hk] at h
  obtain ⟨hk1, hk2, hk3, hk4⟩ := Zm6 p 0 k hk
  simp only [Nat.sub_zero] at hk2 hk3 hk4
  refine gC h (zk (zs (zS (zm rfl (zp (.pN (k + 1) (.add rfl rfl)) (za rfl (zn (zb ?_)))))))); clear h; intro a w h
  refine Zn (fun (m : Nat) a w => m ≤ (p.length - (k + 1)) ∧ ∃ (q : List Tm) (i : Nat), (q.length = p.length ∧ i < k + 1 + m ∧ q.take i = (p.take (k + 1 + m)).filter (fun t => decide (t.c ≠ 0)) ∧ q.drop (k + 1 + m) = p.drop (k + 1 + m)) ∧ St 42 S w0 [(0, .slice (some ⟨b, 0, none⟩) p.length c), (1, .func (.func 139) #[] #[]), (5, nI i), (6, nI (k + 1 + m)), (15, nI (k + 1))] ((b, .cells (cellsOf Qh (q) ++ R).toArray 125 (0, 0)) :: σ) (Φ) a w) (fun m => (p.length - (k + 1)) - m) 0 (⟨Nat.zero_le _, p, k, ⟨rfl, oo, by rw [Nat.add_zero, take_snoc p oo, List.filter_append, hk4, List.filter_cons, if_neg (by simpa using hk3)]; simp, rfl⟩, by exact (h).sub sA⟩) ?_; clear h
  rintro m a w ⟨hi_m, q, i, hq, h⟩
  refine gC h (zs (zS (zm rfl (zm rfl (zp (.builtin [_] rfl (Js _ _ _)) (zp (.lss rfl rfl) (zn ?_))))))); clear h; intro a w h
  refine cW ?_
  refine Zg h rfl (fun hc19 => ?_) (fun hc19 => ?_)
  ·
   skip
   have hlt_m : m < (p.length - (k + 1)) := dT hc19
   have hq1 := hq.1
   have hq2 := hq.2.1
   refine gC h (zk (zs (zb (zS (zm rfl (zm rfl (zp (.indexAddr rfl rfl (Zgh _ _ _ _ _ oo)) (zd rfl mm isAgg125 sizeOf125 (Zid (k := 7) (fun _ => rfl) ((fun _ => rfl)) q R T0 (k + 1 + m) oo) ?_))))))))
   refine zz Zey fun b7 => zt' rfl rfl Zaa uu sizeOf125 rfl nb rfl ?_
   refine zn (zS (zm rfl (zd rfl mr isAgg125 sizeOf125 Zfj ?_))); intro a w h
   refine Zc (Zfm h (fs := []) (cs := []) rfl (vs := [_]) rfl call139 (Qa3 (q.getD (k + 1 + m) T0)) dd ?_); clear h; intro a w h
   refine gL h (zp (.unOp rfl (Yp _)) (zn ?_)); clear h; intro a w h
   refine cW ?_
   refine Zg h rfl (fun hc29 => ?_) (fun hc29 => ?_)
   ·
    skip
    refine gC h (zS (zm rfl (zm rfl (zd rfl mr isAgg125 sizeOf125 Zfj ?_))))
    refine zp (.indexAddr rfl rfl (Zgh _ _ _ _ _ oo)) (zt' (b := b) (cs := (cellsOf Qh q ++ R).toArray) (cs' := (cellsOf Qh (q.set i (q.getD (k + 1 + m) T0)) ++ R).toArray) (v := Qh (q.getD (k + 1 + m) T0)) rfl rfl (Zr4 (k := 7) (fun _ => rfl) q R i oo (q.getD (k + 1 + m) T0)) uu sizeOf125 rfl (Zng (k := 7) (fun _ => rfl) q R i oo) rfl ?_)
    refine zn (zr (zm rfl (zp (.pN (i + 1) (.add rfl rfl)) (za rfl (zn (zr (zm rfl (zp (.pN ((k + 1 + m) + 1) (.add rfl rfl)) (za rfl (zn ?_)))))))))); intro a w h
    exact ⟨m + 1, ⟨oo, q.set i (q.getD (k + 1 + m) T0), i + 1, Zzk (j := k + 1 + m) hq oo (by simpa using hc29), by exact (h.drop sl).sub sA⟩, oo⟩
   ·
    skip
    refine gC h (zk (zr (zm rfl (zp (.pN ((k + 1 + m) + 1) (.add rfl rfl)) (za rfl (zn ?_)))))); clear h; intro a w h
    exact ⟨m + 1, ⟨oo, q, i, Zzj (j := k + 1 + m) hq oo (by simpa using hc29), by exact (h.drop sl).sub sA⟩, oo⟩
  ·
   skip
   have heq_m : (p.length - (k + 1)) = m := dF hc19
   have hq1 := hq.1
   have hq2 := hq.2.1
   obtain ⟨hq3, hq4⟩ := Qcg hq oo
   refine gC h (ze (zS (zm rfl (zm rfl (zp (Pure1.cast (v' := .slice (some ⟨b, 0 + i * 7, none⟩) (p.length - i) (c - i)) (.slice rfl (some _) none none rfl rfl rfl (slo_65 _ _ _ _ _ oo)) (by rw [if_neg oo])) ?_))))); clear h; intro a w h
   refine Zc (Zyj h rfl oo runUnderlying65 Zey dd (Zzo R hq1 oo) rfl (Zwk R hq1 oo) uu ?_); clear h; intro a w h
   refine gL h (zn (zS (zm rfl (zm rfl (zp (.slice rfl none (some _) none rfl rfl rfl (slh_65 _ _ _ _ oo)) (za rfl (zn (zt ?_)))))))); clear h; intro a w h
   rw [hq3] at h
   refine Ztg h (Zk h rfl (.tmp rfl)) ⟨by rw [← hq4], rfl, _, ?_, rfl⟩ (by repeat (first | exact List.Sublist.refl _ | apply List.Sublist.cons)) (fun _ h => h)
   simp only [List.length_append, cellsOf_length Yb, Zbl, Array.length_toList, Yb]
   rw [← hq4]; omega
end
end Go.Proofs.YthcjdeklpegceaaGreatDoor
