/- Walks of functions. By an AI agent. -/
import Derived.Test.YtddhlkfpdjmplabGreatDoorText2
set_option linter.unusedVariables false
set_option linter.unusedSimpArgs false
set_option maxRecDepth 4000
namespace Go.Proofs.YtddhlkfpdjmplabGreatDoor
open Go Go.Proofs Go.Fx Tryz
attribute [local irreducible] Oper.wp Code.wp wpList Fx.Head wpOp
section
def TabF : Qn where
 p X w := ∃ g, Tryz.prog.globalNamed "internal/strconv.uint64pow10" = some g ∧ ¬ X g ∧ g < w.heap.size ∧ Lib.TabIs Tryz.prog w "internal/strconv.uint64pow10" .u64 Lib.pow10Tab
 st X X' w w' h hk hs hX := by
  obtain ⟨g, hg, hx, hlt, ht⟩ := h
  refine ⟨g, hg, fun h' => ?_, oo, ?_⟩
  ·
   rcases hX g h' with h1 | h1
   · exact hx h1
   · omega
  ·
   unfold Lib.TabIs World.var? at *
   simp only [hg, Option.bind_some] at ht ⊢
   rw [hk g hlt hx]; exact ht
theorem below_grow (w : World) (k : Nat) (os : Array Obj) : Go.RowKit.Below w.heap.size w (Sort.grow (w.drewN k) os) := ⟨rfl, rfl, rfl, by simp [Sort.grow, World.drewN], fun b hb => by
 show (w.heap ++ os)[b]? = _
 rw [Array.getElem?_append_left hb]⟩
def dB (n : Nat) : ByteArray := ⟨(Lib.decDigits n).toArray⟩
theorem Qbt {n : Nat} (h : n < 100) : dB n = Zra n := by
 unfold dB Zra
 split
 · rw [Lib.decDigits_one (by assumption)]
 · rw [Lib.decDigits_two (by assumption) h]
theorem Zx8 (n : Nat) : (dB n).size = Lib.nDigits n := by
 show (Lib.decDigits n).toArray.size = _
 rw [List.size_toArray, Lib.decDigits_length]
theorem Zkq {k n : Nat} (h : n < 10 ^ (k + 1)) : Lib.nDigits n ≤ k + 1 := by
 induction k generalizing n with
 | zero => rw [Lib.nDigits_small (by simpa using h)]; exact Nat.le_refl _
 | succ k ih =>
  by_cases h1 : n < 10
  · rw [Lib.nDigits_small h1]; omega
  ·
   rw [Lib.nDigits_big h1]
   have := ih (n := n / 10) (by rw [Nat.pow_succ] at h; omega)
   omega
theorem Zjj {n : Nat} (h : n < 18446744073709551616) : (dB n).size ≤ 20 := by rw [Zx8]; exact Zkq (k := 19) oo
def Zzz (z : Int) : ByteArray := if z < 0 then ⟨#[45]⟩ ++ dB z.natAbs else dB z.natAbs
def txtQ (x : Rat) : ByteArray := if x.den = 1 then Zzz x.num else Zzz x.num ++ ⟨#[47]⟩ ++ dB x.den
theorem Zle (c : UInt8) : (ByteArray.mk #[c]).size = 1 := rfl
theorem Znc {z : Int} (h : z.natAbs < 18446744073709551616) : (Zzz z).size ≤ 21 := by
 unfold Zzz; have h1 := Zjj h; have h2 := Zle 45
 split
 · rw [ByteArray.size_append]; omega
 · omega
theorem C_iFU2 (n : Nat) (hn : n < 18446744073709551616) : Ge Tryz.prog 163 [.int .u64 (n : Int), .int .i64 10] [TabF] (.string (dB n)) := by
 intro X w hX hΦ
 by_cases h : n < 100
 ·
  refine (C_iFU n h X w hX (fun _ h => nomatch h)).mono ?_
  rintro e w' ⟨v, Ψ, rfl, ⟨rfl, rfl⟩, hb, _⟩
  exact ⟨_, [], rfl, ⟨by rw [Qbt h], rfl⟩, hb, fun _ h => nomatch h⟩
 ·
  obtain ⟨g, hg, _, _, ht⟩ := hΦ TabF (List.Mem.head _)
  refine (K_FU n oo hn w ht).mono ?_
  rintro e w' ⟨rfl, k, os, rfl⟩
  exact ⟨_, [], rfl, ⟨rfl, rfl⟩, below_grow w k os, fun _ h => nomatch h⟩
theorem C_FU2 (n : Nat) (hlt : n < 18446744073709551616) : Ge Tryz.prog 133 [.int .u64 (n : Int), .int .i64 10] [TabF] (.string (dB n)) := by
 refine fn_intro func133 rfl ntmps133 nb ?_
 intro S w0 a hS h
 refine gC h (zS (za rfl (zn (zS (zm rfl (zm rfl (zw [_, _] rfl call163 (C_iFU2 n hlt) (za rfl (zn (zt ?_)))))))))); clear h; intro a w h
 exact Zag h
theorem Zm2 (n : Nat) (hlt : n < 18446744073709551616) : Ge Tryz.prog 93 [Vt n] [TabF] (.string (dB n)) := by
 refine fn_intro func93 rfl ntmps93 nb ?_
 intro S w0 a hS h
 refine gC h (zS (zx rfl fun b1 => za rfl (zn (zs (zS (zp (.fA rfl Ku) (zd rfl mr isAgg9 sizeOf9 Qi ?_)))))))
 refine zp (.binOp rfl rfl (fun _ => Kj _ _ _ _ _)) (zn ?_); intro a w h
 refine cW ?_
 refine Zb h rfl (fun hc10 => ?_) (fun hc10 => (by exfalso; have hb : Zau n = ⟨#[]⟩ := Vi oo; rw [hb] at hc10; exact absurd hc10 dd))
 refine gC h (zS (zp (.fA rfl Vn) (zd rfl mr isAgg56 sizeOf56 Ql ?_))); clear h; intro a w h
 rw [Qp hlt] at h
 refine gL h (zw [_, _] rfl call133 (C_FU2 n hlt) (za rfl (zn (zt ?_)))); clear h; intro a w h
 exact Zag h
theorem Ztq (z : Int) (hz : z.natAbs < 18446744073709551616) : Ge Tryz.prog 92 [encZ z] [TabF] (.string (Zzz z)) := by
 refine fn_intro func92 rfl ntmps92 nb ?_
 intro S w0 a hS h
 refine gC h (zS (zx rfl fun b1 => za rfl (zn (zs (zS (zp (.fA rfl Zb0) (zd rfl mr isAgg4 sizeOf4 Zb8 ?_))))))); clear h; intro a w h
 refine wpList_nil ?_
 refine cW ?_
 refine Zb h rfl (fun hc4 => ?_) (fun hc4 => ?_)
 ·
  skip
  have hn : z < 0 := of_decide_eq_true hc4
  refine gC h (zS (zp (.fA rfl Gg) (zp (.fA rfl Zac) (zd rfl mr isAgg58 sizeOf58 Xg ?_))))
  refine zw [_] rfl call93 (Zm2 z.natAbs hz) (zp (.binOp rfl rfl (fun _ => Vo _ _ _ _ _ (by have := Zjj hz; have h1 := Zle 45; omega))) (za rfl (zn (zt ?_)))); intro a w h
  refine Jr h (Ze h rfl (.tmp rfl)) ?_
  unfold Zzz; rw [if_pos hn]
 ·
  skip
  have hn : ¬ z < 0 := of_decide_eq_false hc4
  refine gC h (zk (zS (zp (.fA rfl Gg) (zp (.fA rfl Zac) (zd rfl mr isAgg58 sizeOf58 Xg ?_)))))
  refine zw [_] rfl call93 (Zm2 z.natAbs hz) (za rfl (zn (zt ?_))); intro a w h
  refine Jr h (Ze h rfl (.tmp rfl)) ?_
  unfold Zzz; rw [if_neg hn]
theorem Qcc (x : Rat) (hn : x.num.natAbs < 18446744073709551616) (hd : x.den < 18446744073709551616) : Ge Tryz.prog 53 [Zv x] [TabF] (.string (txtQ x)) := by
 refine fn_intro func53 rfl ntmps53 nb ?_
 intro S w0 a hS h
 refine gC h (zS (zx rfl fun b1 => za rfl (zn (zs (zS (zd rfl mr isAgg64 sizeOf64 Zh ?_))))))
 refine zv [_] rfl call82 (Zhl x) (zn ?_); intro a w h
 refine cW ?_
 refine Zb h rfl (fun hc4 => ?_) (fun hc4 => ?_)
 ·
  skip
  have hw : x.den = 1 := of_decide_eq_true hc4
  refine gC h (zS (zp (.fA rfl Yf) (zd rfl mr isAgg62 sizeOf62 Xf ?_)))
  refine zw [_] rfl call92 (Ztq x.num hn) (za rfl (zn (zt ?_))); intro a w h
  refine Jr h (Ze h rfl (.tmp rfl)) ?_
  unfold txtQ; rw [if_pos hw]
 ·
  skip
  have hw : ¬ x.den = 1 := of_decide_eq_false hc4
  refine gC h (zk (zs (yD Za [0, 1, 4, 2, 3, 5, 6, 7, 8] (Zc kk) (yp rfl (.fA rfl Yf) (yd rfl rfl mr isAgg62 sizeOf62 Xf ?_))))); clear h
  refine yd rfl rfl mr isAgg64 sizeOf64 Zh ?_
  refine yw [_] rfl rfl call92 (Ztq x.num hn) (yp rfl (.binOp rfl rfl (fun _ => Vo _ _ _ _ _ (by have := Znc hn; have h1 := Zle 47; omega))) (yv [_] rfl rfl call85 (Zgv x (Nat.le_trans (Kw oo) dd)) (yw [_] rfl rfl call93 (Zm2 x.den hd) (yp rfl (.binOp rfl rfl (fun _ => Vo _ _ _ _ _ (by have := Znc hn; have := Zjj hd; have h1 := Zle 47; rw [ByteArray.size_append]; omega))) (yp rfl (.assign rfl) (yn (zt ?_))))))); intro a w h
  refine Jr h (Ze h rfl (.tmp rfl)) ?_
  unfold txtQ; rw [if_neg hw]
end
section
theorem Zv8 {c0 : Value} : Qv false 1 #[c0] 0 = some c0 := rfl
theorem Zri (w : World) : (Instr.build 46 [].toArray).run Tryz.prog w = .ok (.agg #[.slice none 0 0, .slice none 0 0]) w := by simp [go_sem]
theorem Zyr (w : World) : (Instr.build 53 [].toArray).run Tryz.prog w = .ok (.agg #[.slice none 0 0, .slice none 0 0]) w := by simp [go_sem]
theorem Zjz (x0 : Option Addr) (x0n : Nat) (x0c : Nat) (x1 : Option Addr) (x1n : Nat) (x1c : Nat) (w : World) : (Instr.build 46 [(0, .slice x0 x0n x0c), (1, .slice x1 x1n x1c)].toArray).run Tryz.prog w = .ok (.agg #[.slice x0 x0n x0c, .slice x1 x1n x1c]) w := by simp [go_sem]
theorem Xv {x : Rat} (h1 : x.num.natAbs < 18446744073709551616) (h2 : x.den < 18446744073709551616) : Qa x ≤ 2 := by
 have a := Kw h1; have b := Kw h2; unfold Qa Zck; omega
theorem Zr4 : ∀ n, n ≤ 6 → ∀ m, m ≤ 9 → ∀ x ∈ Zu n m, x.num.natAbs < 18446744073709551616 ∧ x.den < 18446744073709551616 := by decide +kernel
theorem Ze1 (n : Nat) (h : n ≤ 6) (m : Nat) (hm : m ≤ 9) (x : Rat) (hx : x ∈ Zu n m) : Qa x ≤ 1000 :=
 Nat.le_trans (Xv (Zr4 n h m hm x hx).1 (Zr4 n h m hm x hx).2) dd
theorem cot_b : ∀ n, n ≤ 8 → ∀ i, i ≤ n → ∀ m, m ≤ n + 1 → ∀ x ∈ Za5 n i m, x.num.natAbs < 18446744073709551616 ∧ x.den < 18446744073709551616 := by decide +kernel
theorem Zyf (n : Nat) (h : n ≤ 8) (i : Nat) (hi : i ≤ n) (m : Nat) (hm : m ≤ n + 1) (x : Rat) (hx : x ∈ Za5 n i m) : Qa x ≤ 1000 :=
 Nat.le_trans (Xv (cot_b n h i hi m hm x hx).1 (cot_b n h i hi m hm x hx).2) dd
theorem Qek : ∀ n, n ≤ 6 → (∀ p ∈ Jq n, (p.1.num.natAbs < 18446744073709551616 ∧ p.1.den < 18446744073709551616) ∧ (p.2.1.num.natAbs < 18446744073709551616 ∧ p.2.1.den < 18446744073709551616) ∧ (p.2.2.num.natAbs < 18446744073709551616 ∧ p.2.2.den < 18446744073709551616)) ∧
  (∀ x ∈ Vs n, x.num.natAbs < 18446744073709551616 ∧ x.den < 18446744073709551616) := by decide +kernel
theorem Zst (n : Nat) (h : n ≤ 6) (p : Rat × Rat × Rat) (hp : p ∈ Jq n) : Qa p.1 ≤ 1000 ∧ Qa p.2.1 ≤ 1000 ∧ Qa p.2.2 ≤ 1000 := by
 obtain ⟨⟨a, b⟩, ⟨c, d⟩, e, f⟩ := (Qek n h).1 p hp
 exact ⟨Nat.le_trans (Xv a b) dd, Nat.le_trans (Xv c d) dd, Nat.le_trans (Xv e f) dd⟩
theorem Zss (n : Nat) (h : n ≤ 6) (x : Rat) (hx : x ∈ Vs n) : Qa x ≤ 1000 :=
 Nat.le_trans (Xv ((Qek n h).2 x hx).1 ((Qek n h).2 x hx).2) dd
theorem Zsl : ∀ n, n ≤ 8 → (∀ p ∈ Zz (Gm n) (n + 1), p.num.natAbs < 18446744073709551616 ∧ p.den < 18446744073709551616) ∧
  (∀ x ∈ Zz (Gq n) (n + 1), x.num.natAbs < 18446744073709551616 ∧ x.den < 18446744073709551616) := by decide +kernel
theorem Zqn (n : Nat) (h : n ≤ 8) (x : Rat) (hx : x ∈ Zz (Gm n) (n + 1)) : Qa x ≤ 1000 :=
 Nat.le_trans (Xv ((Zsl n h).1 x hx).1 ((Zsl n h).1 x hx).2) dd
theorem Zqm (n : Nat) (h : n ≤ 8) (x : Rat) (hx : x ∈ Zz (Gq n) (n + 1)) : Qa x ≤ 1000 :=
 Nat.le_trans (Xv ((Zsl n h).2 x hx).1 ((Zsl n h).2 x hx).2) dd
theorem Zf9 {b off : Nat} {l : List (Rat × Rat × Rat)} {X : Nat → Prop} {w : World} (h : (Row (some ⟨b, off, none⟩) (cellsOf Gb l)).p X w) (i : Nat) (hi : i < l.length) :
  (Row (some ⟨b, off + i * 15, none⟩) (cellsOf Zv [(l.getD i (0, 0, 0)).1, (l.getD i (0, 0, 0)).2.1, (l.getD i (0, 0, 0)).2.2])).p X w := by
 intro _
 have hlen : (cellsOf Gb l).length = l.length * 15 := cellsOf_length (k := 15) (fun _ => rfl) l
 have hm := Nat.mul_le_mul_right 15 (show i + 1 ≤ l.length from hi)
 rw [Nat.add_mul] at hm
 obtain ⟨b', off', cs, T, fr, ha, hb, hc, hj⟩ := h (fun e => by rw [e] at hlen; simp at hlen; omega)
 cases ha
 refine ⟨b, off + i * 15, cs, T, fr, rfl, hb, hc, fun j hj2 => ?_⟩
 have e15 : (cellsOf Zv [(l.getD i (0, 0, 0)).1, (l.getD i (0, 0, 0)).2.1, (l.getD i (0, 0, 0)).2.2]) = (Gb (l.getD i (0, 0, 0))).cells.toList := rfl
 rw [e15] at hj2 ⊢
 have hj3 : j < 15 := hj2
 rw [Nat.add_assoc, hj (i * 15 + j) (by rw [hlen]; omega), Zb2 (k := 15) (fun _ => rfl) l i j hi hj3]
 simp only [List.getD, List.getElem?_eq_getElem hi, Option.getD_some]
theorem Zpm (n : Int) (hn : n < 1) : Yc Tryz.prog 15 [.int .i64 n] (.tuple #[.agg #[.slice none 0 0, .slice none 0 0], .int .i64 1]) := by
 refine fn_intro func15 rfl ntmps15 nb ?_
 intro S w0 a hS h
 refine gC h (zS (zx rfl fun b1 => zz zeroValue46 fun b2 => za rfl (zn (zs (zb (zS (zd rfl mr isAgg3 sizeOf3 Zv8 ?_)))))))
 refine zp (.lss rfl rfl) (za rfl (zn ?_)); intro a w h
 refine cW ?_
 refine Zb h rfl (fun hc9 => ?_) (fun hc9 => (by exfalso; have := of_decide_eq_false hc9; omega))
 refine gC h (zS (zp (.build [] rfl (Zri)) (zt' rfl rfl Zq uu sizeOf46 rfl nb rfl ?_)))
 refine za rfl (zn (zt ?_)); intro a w h
 refine Jr h (Xe h rfl (.cell rfl mr isAgg46 sizeOf46 Zg) (.tmp rfl)) ?_
 rfl
theorem Zhm (n : Int) (hn : n > 6) : Yc Tryz.prog 15 [.int .i64 n] (.tuple #[.agg #[.slice none 0 0, .slice none 0 0], .int .i64 9]) := by
 refine fn_intro func15 rfl ntmps15 nb ?_
 intro S w0 a hS h
 refine gC h (zS (zx rfl fun b1 => zz zeroValue46 fun b2 => za rfl (zn (zs (zb (zS (zd rfl mr isAgg3 sizeOf3 Zv8 ?_)))))))
 refine zp (.lss rfl rfl) (za rfl (zn ?_)); intro a w h
 refine cW ?_
 refine Zb h rfl (fun hc9 => (by exfalso; have := of_decide_eq_true hc9; omega)) (fun hc9 => ?_)
 refine gC h (zS (zd rfl mr isAgg3 sizeOf3 Zv8 ?_))
 refine zp (.gtr rfl rfl) (za rfl (zn ?_)); intro a w h
 refine cW ?_
 refine Zb h rfl (fun hc13 => ?_) (fun hc13 => (by exfalso; have := of_decide_eq_false hc13; omega))
 refine gC h (zS (zp (.build [] rfl (Zri)) (zt' rfl rfl Zq uu sizeOf46 rfl nb rfl ?_)))
 refine za rfl (zn (zt ?_)); intro a w h
 refine Jr h (Xe h rfl (.cell rfl mr isAgg46 sizeOf46 Zg) (.tmp rfl)) ?_
 rfl
theorem Zzw (n : Int) (hn : n < 1) : Yc Tryz.prog 16 [.int .i64 n] (.tuple #[.agg #[.slice none 0 0, .slice none 0 0], .int .i64 1]) := by
 refine fn_intro func16 rfl ntmps16 nb ?_
 intro S w0 a hS h
 refine gC h (zS (zz zeroValue53 fun b2 => za rfl (zn (zs (zb (zS (zm rfl (zp (.lss rfl rfl) (za rfl (zn ?_)))))))))); clear h; intro a w h
 refine cW ?_
 refine Zb h rfl (fun hc11 => ?_) (fun hc11 => (by exfalso; have := of_decide_eq_false hc11; omega))
 refine gC h (zS (zp (.build [] rfl (Zyr)) (zt' rfl rfl Zq uu sizeOf53 rfl nb rfl ?_)))
 refine za rfl (zn (zt ?_)); intro a w h
 refine Jr h (Xe h rfl (.cell rfl mr isAgg53 sizeOf53 Zg) (.tmp rfl)) ?_
 rfl
theorem Zk7 (n : Int) (hn : n > 8) : Yc Tryz.prog 16 [.int .i64 n] (.tuple #[.agg #[.slice none 0 0, .slice none 0 0], .int .i64 9]) := by
 refine fn_intro func16 rfl ntmps16 nb ?_
 intro S w0 a hS h
 refine gC h (zS (zz zeroValue53 fun b2 => za rfl (zn (zs (zb (zS (zm rfl (zp (.lss rfl rfl) (za rfl (zn ?_)))))))))); clear h; intro a w h
 refine cW ?_
 refine Zb h rfl (fun hc11 => (by exfalso; have := of_decide_eq_true hc11; omega)) (fun hc11 => ?_)
 refine gC h (zS (zm rfl (zp (.gtr rfl rfl) (za rfl (zn ?_))))); clear h; intro a w h
 refine cW ?_
 refine Zb h rfl (fun hc15 => ?_) (fun hc15 => (by exfalso; have := of_decide_eq_false hc15; omega))
 refine gC h (zS (zp (.build [] rfl (Zyr)) (zt' rfl rfl Zq uu sizeOf53 rfl nb rfl ?_)))
 refine za rfl (zn (zt ?_)); intro a w h
 refine Jr h (Xe h rfl (.cell rfl mr isAgg53 sizeOf53 Zg) (.tmp rfl)) ?_
 rfl
theorem Zu0 (n d : Int) (h0 : -9223372036854775808 ≤ n) (h1 : n ≤ 9223372036854775807) (h2 : -9223372036854775808 ≤ d) (h3 : d ≤ 9223372036854775807) (hd : d ≠ 0) :
  Yc Tryz.prog 17 [.int .i64 n, .int .i64 d] (Zv ((n : Rat) / (d : Rat))) := by
 refine fn_intro func17 rfl ntmps17 nb ?_
 intro S w0 a hS h
 refine gC h (zS (zz Ja fun b4 => zn (zS (zm rfl (zm rfl (zv [_, _] rfl call52 (Qcd _ _ oo oo oo oo oo) ?_))))))
 have hl10 := Xy (n) (d) oo oo oo oo
 refine zm rfl (zp (.eX rfl) (zp (.eX rfl) (zz Ja fun b5 => zt' rfl rfl Zp uu sizeOf64 rfl nb rfl ?_)))
 refine za rfl (zn (zS (zd rfl mr isAgg64 sizeOf64 Zh ?_)))
 refine zt' rfl rfl Zp uu sizeOf64 rfl nb rfl ?_; intro a w h
 refine wpList_nil (wp_ret ?_)
 refine Jr h (Ze h rfl (.cell rfl mr isAgg64 sizeOf64 Zh)) ?_
 rfl
def Qds : Rat := ((1 : Int) : Rat) / ((3 : Int) : Rat)
def midP : List (Rat × Rat × Rat) := [(Qds, Qds, Qds)]
def midW : List Rat := [((1 : Int) : Rat)]
theorem Qb5 : Ctr Tryz.prog 47 [] [] (fun v Ψ => ∃ ad1 c1 ad2 c2, v = .agg #[.slice ad1 midP.length c1, .slice ad2 midW.length c2] ∧ Ψ = [Row ad1 (cellsOf Gb midP), Row ad2 (cellsOf Zv midW)]) := by
 refine fn_intro func47 rfl ntmps47 nb ?_
 intro S w0 a hS h
 refine gC h (zS (zz zeroValue46 fun b0 => zn (zS (zv [_, _] rfl call17 (Zu0 1 3 oo oo oo oo oo) (zz Ja fun b1 => zt' rfl rfl Zp uu sizeOf64 rfl nb rfl ?_)))))
 refine zn (zs (yD Za [0, 1, 2, 3, 4, 5, 6, 7, 8] (Zc kk) (yd rfl rfl mr isAgg64 sizeOf64 Zh ?_)))
 refine yd rfl rfl mr isAgg64 sizeOf64 Zh ?_
 refine yd rfl rfl mr isAgg64 sizeOf64 Zh ?_
 refine yp rfl (.build [(_, _), (_, _), (_, _)] rfl (Kg _ _ _ _ _ _ _ _ _ _ _ _ _ _ _)) ?_
 refine Zxo kk ?_; intro a w h
 refine Zdo [4, 5] kk dd ?_; intro i hi
 simp only [List.mem_cons, List.not_mem_nil, or_false] at hi
 rcases hi with rfl | rfl
 ·
  skip
  refine Gj h rfl [(_, _)] rfl (Zcy _ _ _ _ _ _ _ _ _ _ _ _ _ _ _) dd ?_; clear h; intro b7 a w h
  refine Zdo [5] kk dd ?_; intro i hi
  simp only [List.mem_cons, List.not_mem_nil, or_false] at hi
  rcases hi with rfl
  refine Zva h (vs := [_]) rfl rfl call31 (Vg _ oo oo) ss dd ?_; clear h; intro a w h
  have hl8 := Qo (1) oo oo
  refine Zdo [6] kk dd ?_; intro i hi
  simp only [List.mem_cons, List.not_mem_nil, or_false] at hi
  rcases hi with rfl
  refine Gj h rfl [(_, _)] rfl (Xb _ _ _ _ _) dd ?_; clear h; intro b9 a w h
  refine Zdo [7] kk dd ?_; intro i hi
  simp only [List.mem_cons, List.not_mem_nil, or_false] at hi
  rcases hi with rfl
  refine Zu9 h rfl (.build [(_, _), (_, _)] rfl (Zjz _ _ _ _ _ _)) dd ?_; clear h; intro a h
  refine Zdo [8] kk dd ?_; intro i hi
  simp only [List.mem_cons, List.not_mem_nil, or_false] at hi
  rcases hi with rfl
  refine Zpq h rfl rfl rfl Zq uu sizeOf46 rfl nb rfl ?_; clear h; intro a w h
  refine Qdo kk ?_
  refine cW ?_
  refine wp_ret ?_
  first | (replace h := ((h.shareAll hS (cellsOf Zv midW) rfl).shareAll hS (cellsOf Gb midP) rfl)) | (replace h := ((h.shareAll hS (cellsOf Gb midP) rfl).shareAll hS (cellsOf Zv midW) rfl))
  refine Jm (Ψ := [Row _ (cellsOf Gb midP), Row _ (cellsOf Zv midW)]) h (Ze h rfl (.cell rfl mr isAgg46 sizeOf46 Zg)) ⟨_, _, _, _, rfl, rfl⟩ ss
 ·
  skip
  refine Zva h (vs := [_]) rfl rfl call31 (Vg _ oo oo) ss dd ?_; clear h; intro a w h
  have hl8 := Qo (1) oo oo
  refine Zdo [4, 6] kk dd ?_; intro i hi
  simp only [List.mem_cons, List.not_mem_nil, or_false] at hi
  rcases hi with rfl | rfl
  ·
   skip
   refine Gj h rfl [(_, _)] rfl (Zcy _ _ _ _ _ _ _ _ _ _ _ _ _ _ _) dd ?_; clear h; intro b7 a w h
   refine Zdo [6] kk dd ?_; intro i hi
   simp only [List.mem_cons, List.not_mem_nil, or_false] at hi
   rcases hi with rfl
   refine Gj h rfl [(_, _)] rfl (Xb _ _ _ _ _) dd ?_; clear h; intro b9 a w h
   refine Zdo [7] kk dd ?_; intro i hi
   simp only [List.mem_cons, List.not_mem_nil, or_false] at hi
   rcases hi with rfl
   refine Zu9 h rfl (.build [(_, _), (_, _)] rfl (Zjz _ _ _ _ _ _)) dd ?_; clear h; intro a h
   refine Zdo [8] kk dd ?_; intro i hi
   simp only [List.mem_cons, List.not_mem_nil, or_false] at hi
   rcases hi with rfl
   refine Zpq h rfl rfl rfl Zq uu sizeOf46 rfl nb rfl ?_; clear h; intro a w h
   refine Qdo kk ?_
   refine cW ?_
   refine wp_ret ?_
   first | (replace h := ((h.shareAll hS (cellsOf Zv midW) rfl).shareAll hS (cellsOf Gb midP) rfl)) | (replace h := ((h.shareAll hS (cellsOf Gb midP) rfl).shareAll hS (cellsOf Zv midW) rfl))
   refine Jm (Ψ := [Row _ (cellsOf Gb midP), Row _ (cellsOf Zv midW)]) h (Ze h rfl (.cell rfl mr isAgg46 sizeOf46 Zg)) ⟨_, _, _, _, rfl, rfl⟩ ss
  ·
   skip
   refine Gj h rfl [(_, _)] rfl (Xb _ _ _ _ _) dd ?_; clear h; intro b9 a w h
   refine Zdo [4] kk dd ?_; intro i hi
   simp only [List.mem_cons, List.not_mem_nil, or_false] at hi
   rcases hi with rfl
   refine Gj h rfl [(_, _)] rfl (Zcy _ _ _ _ _ _ _ _ _ _ _ _ _ _ _) dd ?_; clear h; intro b7 a w h
   refine Zdo [7] kk dd ?_; intro i hi
   simp only [List.mem_cons, List.not_mem_nil, or_false] at hi
   rcases hi with rfl
   refine Zu9 h rfl (.build [(_, _), (_, _)] rfl (Zjz _ _ _ _ _ _)) dd ?_; clear h; intro a h
   refine Zdo [8] kk dd ?_; intro i hi
   simp only [List.mem_cons, List.not_mem_nil, or_false] at hi
   rcases hi with rfl
   refine Zpq h rfl rfl rfl Zq uu sizeOf46 rfl nb rfl ?_; clear h; intro a w h
   refine Qdo kk ?_
   refine cW ?_
   refine wp_ret ?_
   first | (replace h := ((h.shareAll hS (cellsOf Zv midW) rfl).shareAll hS (cellsOf Gb midP) rfl)) | (replace h := ((h.shareAll hS (cellsOf Gb midP) rfl).shareAll hS (cellsOf Zv midW) rfl))
   refine Jm (Ψ := [Row _ (cellsOf Gb midP), Row _ (cellsOf Zv midW)]) h (Ze h rfl (.cell rfl mr isAgg46 sizeOf46 Zg)) ⟨_, _, _, _, rfl, rfl⟩ ss
end
section
theorem Qeh : (∀ p ∈ midP, (p.1.num.natAbs < 18446744073709551616 ∧ p.1.den < 18446744073709551616) ∧ (p.2.1.num.natAbs < 18446744073709551616 ∧ p.2.1.den < 18446744073709551616) ∧ (p.2.2.num.natAbs < 18446744073709551616 ∧ p.2.2.den < 18446744073709551616)) ∧
  (∀ x ∈ midW, x.num.natAbs < 18446744073709551616 ∧ x.den < 18446744073709551616) := by decide +kernel
theorem mid_sP (p : Rat × Rat × Rat) (hp : p ∈ midP) : Qa p.1 ≤ 1000 ∧ Qa p.2.1 ≤ 1000 ∧ Qa p.2.2 ≤ 1000 := by
 obtain ⟨⟨a, b⟩, ⟨c, d⟩, e, f⟩ := Qeh.1 p hp
 exact ⟨Nat.le_trans (Xv a b) dd, Nat.le_trans (Xv c d) dd, Nat.le_trans (Xv e f) dd⟩
theorem mid_sW (x : Rat) (hx : x ∈ midW) : Qa x ≤ 1000 := Nat.le_trans (Xv (Qeh.2 x hx).1 (Qeh.2 x hx).2) dd
theorem Xl : Yc Tryz.prog 14 [] (.bool true) := by
 refine fn_intro func14 rfl ntmps14 nb ?_
 intro S w0 a hS h
 refine gC h (zS (za rfl (zn (zS (zf [_] rfl call15 (Zc0 1 oo oo (Ze1 1 dd)) ?_))))); clear h; rintro v14 Ψ14 ⟨ad1, c1, ad2, c2, rfl, rfl⟩ a w h
 obtain ⟨B1, O1, rfl⟩ := h.row_addr (ad := ad1) (M := cellsOf Gb (Jq 1)) mm (by intro e; have := congrArg List.length e; rw [cellsOf_length (k := 15) (fun _ => rfl)] at this; exact absurd this kD)
 refine gL h (zm rfl (zp (.eX rfl) (zp (.eX rfl) (zz zeroValue46 fun b1 => zt' rfl rfl Zq uu sizeOf46 rfl nb rfl ?_))))
 refine za rfl (zn (zS (zf [_] rfl call15 (Zc0 2 oo oo (Ze1 2 dd)) ?_))); rintro v18 Ψ18 ⟨ad3, c3, ad4, c4, rfl, rfl⟩
 refine zm rfl (zp (.eX rfl) (zp (.eX rfl) (zz zeroValue46 fun b3 => zt' rfl rfl Zq uu sizeOf46 rfl nb rfl ?_)))
 refine za rfl (zn (zS (zv [_] rfl call15 (Zpm 0 dd) (zm rfl (zp (.eX rfl) (zp (.eX rfl) (zz zeroValue46 fun b5 => zt' rfl rfl Zq uu sizeOf46 rfl nb rfl ?_)))))))
 refine za rfl (zn (zS (zv [_] rfl call15 (Zhm 7 dd) (zm rfl (zp (.eX rfl) (zp (.eX rfl) (zz zeroValue46 fun b7 => zt' rfl rfl Zq uu sizeOf46 rfl nb rfl ?_)))))))
 refine za rfl (zn (zS (zf [_] rfl call16 (Zj8 2 oo oo (Zyf 2 dd)) ?_))); rintro v30 Ψ30 ⟨ad5, c5, ad6, c6, rfl, rfl⟩
 refine zm rfl (zp (.eX rfl) (zp (.eX rfl) (zz zeroValue53 fun b9 => zt' rfl rfl Zq uu sizeOf53 rfl nb rfl ?_)))
 refine za rfl (zn (zS (zv [_] rfl call16 (Zk7 9 dd) (zm rfl (zp (.eX rfl) (zp (.eX rfl) (zz zeroValue53 fun b11 => zt' rfl rfl Zq uu sizeOf53 rfl nb rfl ?_)))))))
 refine za rfl (zn (zs (zS (zp (.fA rfl Xc) (zd rfl mr isAgg43 sizeOf43 Ql ?_)))))
 refine zp (.builtin [_] rfl (Jz _ _ _)) (zp (.neq rfl rfl) ?_); intro a w h
 refine Zi h (fun hc40 h => (absurd hc40 kD)) (fun hc40 h => ?_)
 refine gL h (zm rfl (zq 41 rfl rfl (.fA rfl Xc) ?_)); clear h; intro a w h
 refine Zf 41 h rfl rfl (Qc h rfl mr isAgg43 sizeOf43 Ql dd ?_); clear h; intro a h
 refine gL h (zq 41 rfl rfl (.indexAddr rfl rfl (Zh1 _ _ _ _ 0 kD)) (zq 41 rfl rfl (.slice rfl none none none rfl rfl rfl (Zne _ _)) ?_)); clear h; intro a w h
 replace h := h.derive (R := Row (some ⟨B1, O1 + 0 * 15, none⟩) (cellsOf Zv [((Jq 1).getD 0 (0, 0, 0)).1, ((Jq 1).getD 0 (0, 0, 0)).2.1, ((Jq 1).getD 0 (0, 0, 0)).2.2])) (fun X hX => Zf9 (l := Jq 1) (hX _ mm) 0 kD)
 refine Zf 41 h rfl rfl (Jn h (vs := [_]) rfl call46 (Zk5 _ _ ([((Jq 1).getD 0 (0, 0, 0)).1, ((Jq 1).getD 0 (0, 0, 0)).2.1, ((Jq 1).getD 0 (0, 0, 0)).2.2]) kD kD) ss dd ?_); clear h; intro a w h
 refine gL h (zq 41 rfl rfl (.binOp rfl rfl (fun _ => Zez _ _ _ _ _)) ?_); clear h; intro a w h
 refine Zi h (fun hc47 h => (absurd hc47 kD)) (fun hc47 h => ?_)
 refine gL h (zp (.pickF rfl rfl) (zm rfl (zq 49 rfl rfl (.fA rfl Xc) ?_))); clear h; intro a w h
 refine Zf 49 h rfl rfl (Qc h rfl mr isAgg43 sizeOf43 Ql dd ?_); clear h; intro a h
 refine gL h (zq 49 rfl rfl (.indexAddr rfl rfl (Zh1 _ _ _ _ 1 kD)) (zq 49 rfl rfl (.slice rfl none none none rfl rfl rfl (Zne _ _)) ?_)); clear h; intro a w h
 replace h := h.derive (R := Row (some ⟨B1, O1 + 1 * 15, none⟩) (cellsOf Zv [((Jq 1).getD 1 (0, 0, 0)).1, ((Jq 1).getD 1 (0, 0, 0)).2.1, ((Jq 1).getD 1 (0, 0, 0)).2.2])) (fun X hX => Zf9 (l := Jq 1) (hX _ mm) 1 kD)
 refine Zf 49 h rfl rfl (Jn h (vs := [_]) rfl call46 (Zk5 _ _ ([((Jq 1).getD 1 (0, 0, 0)).1, ((Jq 1).getD 1 (0, 0, 0)).2.1, ((Jq 1).getD 1 (0, 0, 0)).2.2]) kD kD) ss dd ?_); clear h; intro a w h
 refine gL h (zq 49 rfl rfl (.binOp rfl rfl (fun _ => Zez _ _ _ _ _)) ?_); clear h; intro a w h
 refine Zi h (fun hc55 h => (absurd hc55 kD)) (fun hc55 h => ?_)
 refine gL h (zp (.pickF rfl rfl) (zm rfl (zq 57 rfl rfl (.fA rfl Xc) ?_))); clear h; intro a w h
 refine Zf 57 h rfl rfl (Qc h rfl mr isAgg43 sizeOf43 Ql dd ?_); clear h; intro a h
 refine gL h (zq 57 rfl rfl (.indexAddr rfl rfl (Zh1 _ _ _ _ 2 kD)) (zq 57 rfl rfl (.slice rfl none none none rfl rfl rfl (Zne _ _)) ?_)); clear h; intro a w h
 replace h := h.derive (R := Row (some ⟨B1, O1 + 2 * 15, none⟩) (cellsOf Zv [((Jq 1).getD 2 (0, 0, 0)).1, ((Jq 1).getD 2 (0, 0, 0)).2.1, ((Jq 1).getD 2 (0, 0, 0)).2.2])) (fun X hX => Zf9 (l := Jq 1) (hX _ mm) 2 kD)
 refine Zf 57 h rfl rfl (Jn h (vs := [_]) rfl call46 (Zk5 _ _ ([((Jq 1).getD 2 (0, 0, 0)).1, ((Jq 1).getD 2 (0, 0, 0)).2.1, ((Jq 1).getD 2 (0, 0, 0)).2.2]) kD kD) ss dd ?_); clear h; intro a w h
 refine gL h (zq 57 rfl rfl (.binOp rfl rfl (fun _ => Zez _ _ _ _ _)) ?_); clear h; intro a w h
 refine Zi h (fun hc63 h => (absurd hc63 kD)) (fun hc63 h => ?_)
 refine gL h (zp (.pickF rfl rfl) (zm rfl (zq 65 rfl rfl (.fA rfl Qx) ?_))); clear h; intro a w h
 refine Zf 65 h rfl rfl (Qc h rfl mr isAgg44 sizeOf44 Qi dd ?_); clear h; intro a h
 refine Zf 65 h rfl rfl (Jn h (vs := [_]) rfl call46 (Zk5 ad2 c2 (Vs 1) kD kD) ss dd ?_); clear h; intro a w h
 refine gL h (zq 65 rfl rfl (.binOp rfl rfl (fun _ => Zez _ _ _ _ _)) ?_); clear h; intro a w h
 refine Zi h (fun hc69 h => (absurd hc69 kD)) (fun hc69 h => ?_)
 refine gL h (zp (.pickF rfl rfl) (zm rfl (zq 71 rfl rfl (.move rfl) (zq 71 rfl rfl (.neq rfl rfl) ?_)))); clear h; intro a w h
 refine Zi h (fun hc73 h => (absurd hc73 kD)) (fun hc73 h => ?_)
 refine gL h (zp (.pickF rfl rfl) (zm rfl (zq 75 rfl rfl (.fA rfl Qx) ?_))); clear h; intro a w h
 refine Zf 75 h rfl rfl (Qc h rfl mr isAgg44 sizeOf44 Qi dd ?_); clear h; intro a h
 refine Zf 75 h rfl rfl (Jn h (vs := [_]) rfl call46 (Zk5 ad4 c4 (Vs 2) kD kD) ss dd ?_); clear h; intro a w h
 refine gL h (zq 75 rfl rfl (.binOp rfl rfl (fun _ => Zez _ _ _ _ _)) ?_); clear h; intro a w h
 refine Zi h (fun hc79 h => (absurd hc79 kD)) (fun hc79 h => ?_)
 refine gL h (zp (.pickF rfl rfl) (zm rfl (zq 81 rfl rfl (.move rfl) (zq 81 rfl rfl (.neq rfl rfl) ?_)))); clear h; intro a w h
 refine Zi h (fun hc83 h => (absurd hc83 kD)) (fun hc83 h => ?_)
 refine gL h (zp (.pickF rfl rfl) (zm rfl (zq 85 rfl rfl (.move rfl) (zq 85 rfl rfl (.neq rfl rfl) ?_)))); clear h; intro a w h
 refine Zi h (fun hc87 h => (absurd hc87 kD)) (fun hc87 h => ?_)
 refine gL h (zp (.pickF rfl rfl) (zm rfl (zq 89 rfl rfl (.move rfl) (zq 89 rfl rfl (.neq rfl rfl) ?_)))); clear h; intro a w h
 refine Zi h (fun hc91 h => (absurd hc91 kD)) (fun hc91 h => ?_)
 refine gL h (zp (.pickF rfl rfl) (zm rfl (zq 93 rfl rfl (.fA rfl Kv) ?_))); clear h; intro a w h
 refine Zf 93 h rfl rfl (Qc h rfl mr isAgg44 sizeOf44 Qi dd ?_); clear h; intro a h
 refine Zf 93 h rfl rfl (Jn h (vs := [_]) rfl call46 (Zk5 ad6 c6 (Zz (Gq 2) (2 + 1)) kD kD) ss dd ?_); clear h; intro a w h
 refine gL h (zq 93 rfl rfl (.binOp rfl rfl (fun _ => Zez _ _ _ _ _)) ?_); clear h; intro a w h
 refine Zi h (fun hc97 h => (absurd hc97 kD)) (fun hc97 h => ?_)
 refine gL h (zp (.pickF rfl rfl) (zm rfl (zq 99 rfl rfl (.move rfl) (zq 99 rfl rfl (.neq rfl rfl) ?_)))); clear h; intro a w h
 refine Zi h (fun hc101 h => (absurd hc101 kD)) (fun hc101 h => ?_)
 refine gL h (zp (.pickF rfl rfl) (zm rfl (zq 103 rfl rfl (.move rfl) (zq 103 rfl rfl (.neq rfl rfl) ?_)))); clear h; intro a w h
 refine Zi h (fun hc105 h => (absurd hc105 kD)) (fun hc105 h => ?_)
 refine gL h (zp (.pickF rfl rfl) (zn ?_)); clear h; intro a w h
 refine cW ?_
 refine Zn h rfl ?_
 refine gC h (zk (zS (zd rfl mr isAgg46 sizeOf46 Zg ?_)))
 refine zw [_] rfl call12 (Za3 ad3 ad4 c3 c4 (Jq 2) (Vs 2) kD kD (Zst 2 dd) (Zss 2 dd) kD) (zp (.eql rfl rfl) ?_); intro a w h
 refine Zi h (fun hc109 h => ?_) (fun hc109 h => (absurd hc109 kD))
 refine gL h (zm rfl ?_); clear h; intro a w h
 refine Zf 110 h rfl rfl (Zfo h (vs := []) rfl call47 (Qb5) ss dd ?_); clear h; rintro v111 Ψ111 a w ⟨ad7, c7, ad8, c8, rfl, rfl⟩ h
 refine Zf 110 h rfl rfl (Jn h (vs := [_]) rfl call12 (Za3 ad7 ad8 c7 c8 midP midW dd dd mid_sP mid_sW kD) ss dd ?_); clear h; intro a w h
 refine gL h (zq 110 rfl rfl (.eql rfl rfl) ?_); clear h; intro a w h
 refine Zi h (fun hc113 h => ?_) (fun hc113 h => (absurd hc113 kD))
 refine gL h (zp (.pickT rfl rfl) (zm rfl (zq 115 rfl rfl (.build [] rfl (Zri)) ?_))); clear h; intro a w h
 replace h := h.derive (R := Row none (cellsOf Gb [])) (fun X _ hne => absurd rfl hne)
 replace h := h.derive (R := Row none (cellsOf Zv [])) (fun X _ hne => absurd rfl hne)
 refine Zf 115 h rfl rfl (Jn h (vs := [_]) rfl call12 (Za3 none none 0 0 [] [] dd dd (fun _ h => nomatch h) (fun _ h => nomatch h) kD) ss dd ?_); clear h; intro a w h
 refine gL h (zq 115 rfl rfl (.eql rfl rfl) ?_); clear h; intro a w h
 refine Zi h (fun hc118 h => ?_) (fun hc118 h => (absurd hc118 kD))
 refine gL h (zp (.pickT rfl rfl) (zm rfl ?_)); clear h; intro a w h
 refine Zf 120 h rfl rfl (Qc h rfl mr isAgg53 sizeOf53 Zg dd ?_); clear h; intro a h
 refine Zf 120 h rfl rfl (Jn h (vs := [_]) rfl call27 (Zj7 ad5 ad6 c5 c6 (Zz (Gm 2) (2 + 1)) (Zz (Gq 2) (2 + 1)) kD (Zqn 2 dd) (Zqm 2 dd) kD) ss dd ?_); clear h; intro a w h
 refine gL h (zq 120 rfl rfl (.eql rfl rfl) ?_); clear h; intro a w h
 refine Zi h (fun hc123 h => ?_) (fun hc123 h => (absurd hc123 kD))
 refine gL h (zp (.pickT rfl rfl) (za rfl (zn (zt ?_)))); clear h; intro a w h
 exact Zag h
end
section
theorem Zbd {c0 c1 c2 c3 c4 c5 c6 c7 c8 c9 c10 c11 c12 c13 c14 : Value} : Qv true 15 #[c0, c1, c2, c3, c4, c5, c6, c7, c8, c9, c10, c11, c12, c13, c14] 0 = some (.agg #[c0, c1, c2, c3, c4, c5, c6, c7, c8, c9, c10, c11, c12, c13, c14]) := rfl
theorem Zi5 : ∀ d, d ≤ 6 → 1 ≤ d → ((Jq d).length = (d + 1) * (d + 2) / 2 ∧ (Vs d).length = (Jq d).length ∧ (Vs d).foldl (· + ·) 0 = ((1 : Int) : Rat) ∧ Kq (Jq d) (Vs d) = 0 ∧ (d : Int) ≤ Ga (Jq d) (Vs d) ∧ 0 < (Jq d).length ∧ (Jq d).length ≤ 28 ∧ (d + 1) * (d + 2) ≤ 56) := by decide +kernel
def symB (d : Nat) : Bool := (List.range (Jq d).length).all fun i => (List.range (Jq d).length).all fun k =>
 (!decide ((Jq d).getD k (0, 0, 0) = (Jq d).getD i (0, 0, 0)) || i == k) &&
 (!(decide ((Jq d).getD k (0, 0, 0) = (((Jq d).getD i (0, 0, 0)).2.1, ((Jq d).getD i (0, 0, 0)).2.2, ((Jq d).getD i (0, 0, 0)).1)) || decide ((Jq d).getD k (0, 0, 0) = (((Jq d).getD i (0, 0, 0)).2.1, ((Jq d).getD i (0, 0, 0)).1, ((Jq d).getD i (0, 0, 0)).2.2))) || decide ((Vs d).getD i 0 = (Vs d).getD k 0))
theorem Qaa : ∀ d, d ≤ 6 → symB d = true := by decide +kernel
theorem Qej (d : Nat) (hd : d ≤ 6) (i : Nat) (hi : i < (Jq d).length) (k : Nat) (hk : k < (Jq d).length) : ((Jq d).getD k (0, 0, 0) = (Jq d).getD i (0, 0, 0) → i = k) ∧
 (((Jq d).getD k (0, 0, 0) = (((Jq d).getD i (0, 0, 0)).2.1, ((Jq d).getD i (0, 0, 0)).2.2, ((Jq d).getD i (0, 0, 0)).1) ∨ (Jq d).getD k (0, 0, 0) = (((Jq d).getD i (0, 0, 0)).2.1, ((Jq d).getD i (0, 0, 0)).1, ((Jq d).getD i (0, 0, 0)).2.2)) → (Vs d).getD i 0 = (Vs d).getD k 0) := by
 have h1 := List.all_eq_true.1 (List.all_eq_true.1 (Qaa d hd) i (List.mem_range.2 hi)) k (List.mem_range.2 hk)
 simp only [Bool.and_eq_true, Bool.or_eq_true, Bool.not_eq_true', decide_eq_false_iff_not, beq_iff_eq, Bool.or_eq_false_iff, decide_eq_true_eq] at h1
 obtain ⟨h2, h3⟩ := h1
 refine ⟨fun e => h2.resolve_left (fun hn => hn e), fun e => h3.resolve_left (fun hn => ?_)⟩
 rcases e with e | e
 · exact hn.1 e
 · exact hn.2 e
theorem Zm1 (n : Nat) (hn : n < 256) : Yc Tryz.prog 8 [.int .u8 (n : Int)] (.bool true) := by
 obtain ⟨d, hd, h1, h6⟩ : ∃ d, d = 1 + n % 6 ∧ 1 ≤ d ∧ d ≤ 6 := ⟨_, rfl, oo, oo⟩
 obtain ⟨hf1, hf2, hf3, hf4, hf5, hf6, hf7, hf8⟩ := Zi5 d h6 h1
 have hsym := Qej d h6
 refine fn_intro func8 rfl ntmps8 nb ?_
 intro S w0 a hS h
 refine gC h (zS (za rfl (zn (zS (zm rfl (zp (.convert rfl (Zmi _ (wrap_i64 _ oo oo))) (zp (Pure1.cast (v' := .int .i64 ((n % 6 : Nat) : Int)) (.binOp rfl rfl (fun _ => Vm _ _ _ _ _ dd)) (by rw [show (6 : Int) = ((6 : Nat) : Int) from rfl, Yi])) (zp (.pO d (Pure1.cast (v' := (.int .i64 ((1 + (n % 6) : Nat) : Int))) (.add rfl rfl) (by show Value.int _ _ = Value.int _ _; congr 1))) (za rfl (zn (zS (zm rfl (zf [_] rfl call15 (Zc0 d h1 h6 (Ze1 d h6)) ?_))))))))))))); clear h; rintro v16 Ψ16 ⟨ad1, c1, ad2, c2, rfl, rfl⟩ a w h
 obtain ⟨B1, O1, rfl⟩ := h.row_addr (ad := ad1) (M := cellsOf Gb (Jq d)) mm (nE 15)
 obtain ⟨B2, O2, rfl⟩ := h.row_addr (ad := ad2) (M := cellsOf Zv (Vs d)) mm (nE 5)
 refine gL h (zm rfl (zp (.eX rfl) (zp (.eX rfl) (zz zeroValue46 fun b4 => zt' rfl rfl Zq uu sizeOf46 rfl nb rfl ?_))))
 refine za rfl (zn (zs (zS (zp (.fA rfl Xc) (zd rfl mr isAgg43 sizeOf43 Ql ?_)))))
 refine zp (.builtin [_] rfl (Jz _ _ _)) (zm rfl (zp (.pN (d + 1) (.add rfl rfl)) (zm rfl (zp (.pN (d + 2) (.add rfl rfl)) (zp (.pN ((d + 1) * (d + 2)) (.binOp rfl rfl (fun _ => Zr2 _ _ _ _ _ (wrap_i64 _ (by rw [show ((d + 1 : Nat) : Int) * ((d + 2 : Nat) : Int) = (((d + 1) * (d + 2) : Nat) : Int) from (Int.natCast_mul _ _).symm]; omega) (by rw [show ((d + 1 : Nat) : Int) * ((d + 2 : Nat) : Int) = (((d + 1) * (d + 2) : Nat) : Int) from (Int.natCast_mul _ _).symm]; omega))))) (zp (Pure1.cast (v' := .int .i64 (((d + 1) * (d + 2) / 2 : Nat) : Int)) (.binOp rfl rfl (fun _ => Vx _ _ _ _ _ dd)) (by rw [show (2 : Int) = ((2 : Nat) : Int) from rfl, Yn, wrap_i64 _ oo oo])) (zp (.neq rfl rfl) ?_))))))); intro a w h
 refine Zi h (fun hc28 h => (by exfalso; exact Zdd hc28 hf1)) (fun hc28 h => ?_)
 refine gL h (zm rfl (zq 29 rfl rfl (.fA rfl Qx) ?_)); clear h; intro a w h
 refine Zf 29 h rfl rfl (Qc h rfl mr isAgg44 sizeOf44 Qi dd ?_); clear h; intro a h
 refine gL h (zq 29 rfl rfl (.builtin [_] rfl (Zw _ _ _)) (zq 29 rfl rfl (.fA rfl Xc) ?_)); clear h; intro a w h
 refine Zf 29 h rfl rfl (Qc h rfl mr isAgg43 sizeOf43 Ql dd ?_); clear h; intro a h
 refine gL h (zq 29 rfl rfl (.builtin [_] rfl (Jz _ _ _)) (zq 29 rfl rfl (.neq rfl rfl) ?_)); clear h; intro a w h
 refine Zi h (fun hc36 h => (by exfalso; exact Zdd hc36 hf2)) (fun hc36 h => ?_)
 refine gL h (zp (.pickF rfl rfl) (zm rfl (zq 38 rfl rfl (.fA rfl Qx) ?_))); clear h; intro a w h
 refine Zf 38 h rfl rfl (Qc h rfl mr isAgg44 sizeOf44 Qi dd ?_); clear h; intro a h
 refine Zf 38 h rfl rfl (Jn h (vs := [_]) rfl call30 (Qdj _ _ (Vs d) oo (Zss d h6)) ss dd ?_); clear h; intro a w h
 refine Zf 38 h rfl rfl (Qu h (vs := [_]) rfl call31 (Vg _ oo oo) dd ?_); clear h; intro a w h
 have hl42 := Qo (1) oo oo
 refine gL h (zq 38 rfl rfl (.binOp rfl rfl (fun _ => Kr _ _ ((Vs d).foldl (· + ·) 0) (((1 : Int) : Rat)) _)) ?_); clear h; intro a w h
 refine Zi h (fun hc43 h => (by exfalso; rw [hf3] at hc43; exact absurd hc43 kD)) (fun hc43 h => ?_)
 refine gL h (zp (.pickF rfl rfl) (zm rfl ?_)); clear h; intro a w h
 refine Zf 45 h rfl rfl (Qc h rfl mr isAgg46 sizeOf46 Zg dd ?_); clear h; intro a h
 refine Zf 45 h rfl rfl (Jn h (vs := [_]) rfl call12 (Za3 _ _ c1 c2 (Jq d) (Vs d) oo oo (Zst d h6) (Zss d h6) hf4) ss dd ?_); clear h; intro a w h
 refine gL h (zq 45 rfl rfl (.move rfl) (zq 45 rfl rfl (.lss rfl rfl) ?_)); clear h; intro a w h
 refine Zi h (fun hc49 h => (by exfalso; have := of_decide_eq_true hc49; omega)) (fun hc49 h => ?_)
 refine gL h (zp (.pickF rfl rfl) (zn ?_)); clear h; intro a w h
 refine cW ?_
 refine Zn h rfl ?_
 refine gC h (zk (zs (zS (za rfl (zn (zb ?_)))))); clear h; intro a w h
 refine Zd (fun (i : Nat) a w => i ≤ (Jq d).length ∧ St 117 S w0 [(4, pB b4), (6, nI i)] [(b4, bV (.agg #[.slice (some ⟨B1, O1, none⟩) ((Jq d).length) c1, .slice (some ⟨B2, O2, none⟩) ((Vs d).length) c2]) 46)] [Row (some ⟨B2, O2, none⟩) (cellsOf Zv (Vs d)), Row (some ⟨B1, O1, none⟩) (cellsOf Gb (Jq d))] a w) (fun i => (Jq d).length - i) 0 (⟨Nat.zero_le _, by exact (h).sub sA⟩) ?_; clear h
 rintro i a w ⟨hi_i, h⟩
 refine gC h (zs (zS (zm rfl (zp (.fA rfl Xc) (zd rfl mr isAgg43 sizeOf43 Ql ?_)))))
 refine zp (.builtin [_] rfl (Jz _ _ _)) (zp (.lss rfl rfl) (zn ?_)); intro a w h
 refine cW ?_
 refine Zb h rfl (fun hc55 => ?_) (fun hc55 => ?_)
 ·
  skip
  have hlt_i : i < (Jq d).length := dT hc55
  refine gC h (zk (zs (zb (zS (zp (.fA rfl Xc) (zd rfl mr isAgg43 sizeOf43 Ql ?_))))))
  refine zm rfl (zp (.indexAddr rfl rfl (Zh1 _ _ _ _ _ oo)) (zD rfl mm (cells_lt (k := 15) dd (fun _ => rfl) (Jq d) i oo) isAgg77 sizeOf77 (Zm (k := 15) (fun _ => rfl) ((fun _ => rfl)) (Jq d) (0, 0, 0) i oo) (.inl rfl) ?_))
  refine zz Zpp fun b7 => zt' rfl rfl Zew uu sizeOf77 rfl nb rfl ?_
  refine zn (zS (za rfl (zn (zb ?_)))); intro a w h
  refine Zd (fun (k : Nat) a w => k ≤ (Jq d).length ∧ St 117 S w0 [(4, pB b4), (6, nI i), (7, pB b7), (8, nI k)] [(b7, bV (Gb ((Jq d).getD i (0, 0, 0))) 77), (b4, bV (.agg #[.slice (some ⟨B1, O1, none⟩) ((Jq d).length) c1, .slice (some ⟨B2, O2, none⟩) ((Vs d).length) c2]) 46)] [Row (some ⟨B2, O2, none⟩) (cellsOf Zv (Vs d)), Row (some ⟨B1, O1, none⟩) (cellsOf Gb (Jq d))] a w) (fun k => (Jq d).length - k) 0 (⟨Nat.zero_le _, by exact (h).sub sA⟩) ?_; clear h
  rintro k a w ⟨hi_k, h⟩
  refine gC h (zs (zS (zm rfl (zp (.fA rfl Xc) (zd rfl mr isAgg43 sizeOf43 Ql ?_)))))
  refine zp (.builtin [_] rfl (Jz _ _ _)) (zp (.lss rfl rfl) (zn ?_)); intro a w h
  refine cW ?_
  refine Zb h rfl (fun hc67 => ?_) (fun hc67 => ?_)
  ·
   skip
   have hlt_k : k < (Jq d).length := dT hc67
   refine gC h (zk (zs (zb (zS (zp (.fA rfl Xc) (zd rfl mr isAgg43 sizeOf43 Ql ?_))))))
   refine zm rfl (zp (.indexAddr rfl rfl (Zh1 _ _ _ _ _ oo)) (zD rfl mm (cells_lt (k := 15) dd (fun _ => rfl) (Jq d) k oo) isAgg77 sizeOf77 (Zm (k := 15) (fun _ => rfl) ((fun _ => rfl)) (Jq d) (0, 0, 0) k oo) (.inl rfl) ?_))
   refine zz Zpp fun b9 => zt' rfl rfl Zew uu sizeOf77 rfl nb rfl ?_
   refine zn (zs (zS (zd rfl mr isAgg77 sizeOf77 Zbd ?_)))
   refine zd rfl mr isAgg77 sizeOf77 Zbd ?_
   refine zp (.binOp rfl rfl (fun _ => Zim _ _ ((Jq d).getD k (0, 0, 0)) ((Jq d).getD i (0, 0, 0)) _)) ?_; intro a w h
   refine Zi h (fun hc77 h => ?_) (fun hc77 h => ?_)
   ·
    skip
    have he : ((Jq d).getD k (0, 0, 0)) = ((Jq d).getD i (0, 0, 0)) := of_decide_eq_true hc77
    refine gL h (zm rfl (zq 78 rfl rfl (.move rfl) (zq 78 rfl rfl (.move rfl) (zq 78 rfl rfl (.neq rfl rfl) ?_)))); clear h; intro a w h
    refine Zi h (fun hc81 h => (by exfalso; exact Zdd hc81 ((hsym i hlt_i k hlt_k).1 he))) (fun hc81 h => ?_)
    refine gL h (zp (.pickT rfl rfl) (zn ?_)); clear h; intro a w h
    refine cW ?_
    refine Zn h rfl ?_
    refine gC h (zk (zs (yD Za [0, 1, 2, 3, 4, 5, 6, 7, 8, 9, 10, 11, 12, 13, 14, 15, 16, 17, 18, 19, 20, 21, 22, 23, 24, 25, 26, 27, 28, 29, 30, 31, 32] (Zc kk) (yd rfl rfl mr isAgg77 sizeOf77 Zbd ?_)))); clear h
    refine yp rfl (.indexAddr rfl rfl (Zgl _ _)) (yd rfl rfl mr isAgg64 sizeOf64 Zd7 ?_)
    refine yp rfl (.indexAddr rfl rfl (Zgk _ _)) (yd rfl rfl mr isAgg64 sizeOf64 Zcs ?_)
    refine yp rfl (.indexAddr rfl rfl (Zdf _ _)) (yd rfl rfl mr isAgg64 sizeOf64 Zd8 ?_)
    refine yp rfl (.build [(_, _), (_, _), (_, _)] rfl (Kg _ _ _ _ _ _ _ _ _ _ _ _ _ _ _)) (yp rfl (.binOp rfl rfl (fun _ => Zim _ _ ((Jq d).getD k (0, 0, 0)) ((((Jq d).getD i (0, 0, 0)).2.1, ((Jq d).getD i (0, 0, 0)).2.2, ((Jq d).getD i (0, 0, 0)).1)) _)) ?_)
    refine Qe (fun hc91  => ?_) (fun hc91  => ?_)
    ·
     skip
     have he1 : ((Jq d).getD k (0, 0, 0)) = (((Jq d).getD i (0, 0, 0)).2.1, ((Jq d).getD i (0, 0, 0)).2.2, ((Jq d).getD i (0, 0, 0)).1) := of_decide_eq_true hc91
     refine ym rfl rfl (yo 92 rfl rfl rfl rfl (yo 92 rfl rfl rfl rfl (yo 92 rfl rfl rfl rfl (yo 92 rfl rfl rfl rfl (yo 92 rfl rfl rfl rfl (yo 92 rfl rfl rfl rfl (yo 92 rfl rfl rfl rfl (yo 92 rfl rfl rfl rfl (yo 92 rfl rfl rfl rfl (yp rfl (.pickT rfl rfl) (ym rfl rfl (yq rfl rfl rfl (.fA rfl Qx) (yg rfl rfl rfl rfl mr isAgg44 sizeOf44 Qi ?_)))))))))))))
     refine yq rfl rfl rfl (.move rfl) (yq rfl rfl rfl (.indexAddr rfl rfl (Km _ _ _ _ _ oo)) ?_)
     refine Jl rfl rfl rfl kk rfl mm (cells_lt (k := 5) dd (fun _ => rfl) (Vs d) i oo) isAgg64 sizeOf64 (Zm (k := 5) (fun _ => rfl) ((fun _ => rfl)) (Vs d) 0 i oo) (.inl rfl) dd ?_
     refine yq rfl rfl rfl (.fA rfl Qx) (yg rfl rfl rfl rfl mr isAgg44 sizeOf44 Qi ?_)
     refine yq rfl rfl rfl (.move rfl) (yq rfl rfl rfl (.indexAddr rfl rfl (Km _ _ _ _ _ oo)) ?_)
     refine Jl rfl rfl rfl kk rfl mm (cells_lt (k := 5) dd (fun _ => rfl) (Vs d) k oo) isAgg64 sizeOf64 (Zm (k := 5) (fun _ => rfl) ((fun _ => rfl)) (Vs d) 0 k oo) (.inl rfl) dd ?_
     refine yq rfl rfl rfl (.binOp rfl rfl (fun _ => Kr _ _ ((Vs d).getD i 0) ((Vs d).getD k 0) _)) ?_
     refine Qe (fun hc114  => (by exfalso; have hw := (hsym i hlt_i k hlt_k).2 (by first | exact .inl he1 | exact .inr he2); rw [decide_eq_true hw] at hc114; exact absurd hc114 dd)) (fun hc114  => ?_)
     refine yp rfl (.pickT rfl rfl) (yn ?_); intro a w h
     refine cW ?_
     refine Zn h rfl ?_
     refine gC h (zk (zr (zm rfl (zp (.pN (k + 1) (.add rfl rfl)) (za rfl (zn ?_)))))); clear h; intro a w h
     exact ⟨k + 1, ⟨oo, (h.drop sl).sub sA⟩, oo⟩
    ·
     skip
     refine ym rfl rfl (yg rfl rfl rfl rfl mr isAgg77 sizeOf77 Zbd ?_)
     refine yq rfl rfl rfl (.indexAddr rfl rfl (Zgl _ _)) (yg rfl rfl rfl rfl mr isAgg64 sizeOf64 Zd7 ?_)
     refine yq rfl rfl rfl (.indexAddr rfl rfl (Zdf _ _)) (yg rfl rfl rfl rfl mr isAgg64 sizeOf64 Zd8 ?_)
     refine yq rfl rfl rfl (.indexAddr rfl rfl (Zgk _ _)) (yg rfl rfl rfl rfl mr isAgg64 sizeOf64 Zcs ?_)
     refine yq rfl rfl rfl (.build [(_, _), (_, _), (_, _)] rfl (Kg _ _ _ _ _ _ _ _ _ _ _ _ _ _ _)) (yq rfl rfl rfl (.binOp rfl rfl (fun _ => Zim _ _ ((Jq d).getD k (0, 0, 0)) ((((Jq d).getD i (0, 0, 0)).2.1, ((Jq d).getD i (0, 0, 0)).1, ((Jq d).getD i (0, 0, 0)).2.2)) _)) ?_)
     refine Qe (fun hc101  => ?_) (fun hc101  => ?_)
     ·
      skip
      have he2 : ((Jq d).getD k (0, 0, 0)) = (((Jq d).getD i (0, 0, 0)).2.1, ((Jq d).getD i (0, 0, 0)).1, ((Jq d).getD i (0, 0, 0)).2.2) := of_decide_eq_true hc101
      refine yp rfl (.pickF rfl rfl) (ym rfl rfl (yq rfl rfl rfl (.fA rfl Qx) (yg rfl rfl rfl rfl mr isAgg44 sizeOf44 Qi ?_)))
      refine yq rfl rfl rfl (.move rfl) (yq rfl rfl rfl (.indexAddr rfl rfl (Km _ _ _ _ _ oo)) ?_)
      refine Jl rfl rfl rfl kk rfl mm (cells_lt (k := 5) dd (fun _ => rfl) (Vs d) i oo) isAgg64 sizeOf64 (Zm (k := 5) (fun _ => rfl) ((fun _ => rfl)) (Vs d) 0 i oo) (.inl rfl) dd ?_
      refine yq rfl rfl rfl (.fA rfl Qx) (yg rfl rfl rfl rfl mr isAgg44 sizeOf44 Qi ?_)
      refine yq rfl rfl rfl (.move rfl) (yq rfl rfl rfl (.indexAddr rfl rfl (Km _ _ _ _ _ oo)) ?_)
      refine Jl rfl rfl rfl kk rfl mm (cells_lt (k := 5) dd (fun _ => rfl) (Vs d) k oo) isAgg64 sizeOf64 (Zm (k := 5) (fun _ => rfl) ((fun _ => rfl)) (Vs d) 0 k oo) (.inl rfl) dd ?_
      refine yq rfl rfl rfl (.binOp rfl rfl (fun _ => Kr _ _ ((Vs d).getD i 0) ((Vs d).getD k 0) _)) ?_
      refine Qe (fun hc114  => (by exfalso; have hw := (hsym i hlt_i k hlt_k).2 (by first | exact .inl he1 | exact .inr he2); rw [decide_eq_true hw] at hc114; exact absurd hc114 dd)) (fun hc114  => ?_)
      refine yp rfl (.pickT rfl rfl) (yn ?_); intro a w h
      refine cW ?_
      refine Zn h rfl ?_
      refine gC h (zk (zr (zm rfl (zp (.pN (k + 1) (.add rfl rfl)) (za rfl (zn ?_)))))); clear h; intro a w h
      exact ⟨k + 1, ⟨oo, (h.drop sl).sub sA⟩, oo⟩
     ·
      skip
      refine yp rfl (.pickF rfl rfl) (ym rfl rfl (yo 103 rfl rfl rfl rfl (yo 103 rfl rfl rfl rfl (yo 103 rfl rfl rfl rfl (yo 103 rfl rfl rfl rfl (yo 103 rfl rfl rfl rfl (yo 103 rfl rfl rfl rfl (yo 103 rfl rfl rfl rfl (yo 103 rfl rfl rfl rfl (yo 103 rfl rfl rfl rfl (yo 103 rfl rfl rfl rfl (yo 103 rfl rfl rfl rfl (yp rfl (.pickF rfl rfl) (yn ?_)))))))))))))); intro a w h
      refine cW ?_
      refine Zn h rfl ?_
      refine gC h (zk (zr (zm rfl (zp (.pN (k + 1) (.add rfl rfl)) (za rfl (zn ?_)))))); clear h; intro a w h
      exact ⟨k + 1, ⟨oo, (h.drop sl).sub sA⟩, oo⟩
   ·
    skip
    refine gL h (zm rfl (zo 78 rfl rfl rfl (zo 78 rfl rfl rfl (zo 78 rfl rfl rfl (zp (.pickF rfl rfl) (zn ?_)))))); clear h; intro a w h
    refine cW ?_
    refine Zn h rfl ?_
    refine gC h (zk (zs (yD Za [0, 1, 2, 3, 4, 5, 6, 7, 8, 9, 10, 11, 12, 13, 14, 15, 16, 17, 18, 19, 20, 21, 22, 23, 24, 25, 26, 27, 28, 29, 30, 31, 32] (Zc kk) (yd rfl rfl mr isAgg77 sizeOf77 Zbd ?_)))); clear h
    refine yp rfl (.indexAddr rfl rfl (Zgl _ _)) (yd rfl rfl mr isAgg64 sizeOf64 Zd7 ?_)
    refine yp rfl (.indexAddr rfl rfl (Zgk _ _)) (yd rfl rfl mr isAgg64 sizeOf64 Zcs ?_)
    refine yp rfl (.indexAddr rfl rfl (Zdf _ _)) (yd rfl rfl mr isAgg64 sizeOf64 Zd8 ?_)
    refine yp rfl (.build [(_, _), (_, _), (_, _)] rfl (Kg _ _ _ _ _ _ _ _ _ _ _ _ _ _ _)) (yp rfl (.binOp rfl rfl (fun _ => Zim _ _ ((Jq d).getD k (0, 0, 0)) ((((Jq d).getD i (0, 0, 0)).2.1, ((Jq d).getD i (0, 0, 0)).2.2, ((Jq d).getD i (0, 0, 0)).1)) _)) ?_)
    refine Qe (fun hc91  => ?_) (fun hc91  => ?_)
    ·
     skip
     have he1 : ((Jq d).getD k (0, 0, 0)) = (((Jq d).getD i (0, 0, 0)).2.1, ((Jq d).getD i (0, 0, 0)).2.2, ((Jq d).getD i (0, 0, 0)).1) := of_decide_eq_true hc91
     refine ym rfl rfl (yo 92 rfl rfl rfl rfl (yo 92 rfl rfl rfl rfl (yo 92 rfl rfl rfl rfl (yo 92 rfl rfl rfl rfl (yo 92 rfl rfl rfl rfl (yo 92 rfl rfl rfl rfl (yo 92 rfl rfl rfl rfl (yo 92 rfl rfl rfl rfl (yo 92 rfl rfl rfl rfl (yp rfl (.pickT rfl rfl) (ym rfl rfl (yq rfl rfl rfl (.fA rfl Qx) (yg rfl rfl rfl rfl mr isAgg44 sizeOf44 Qi ?_)))))))))))))
     refine yq rfl rfl rfl (.move rfl) (yq rfl rfl rfl (.indexAddr rfl rfl (Km _ _ _ _ _ oo)) ?_)
     refine Jl rfl rfl rfl kk rfl mm (cells_lt (k := 5) dd (fun _ => rfl) (Vs d) i oo) isAgg64 sizeOf64 (Zm (k := 5) (fun _ => rfl) ((fun _ => rfl)) (Vs d) 0 i oo) (.inl rfl) dd ?_
     refine yq rfl rfl rfl (.fA rfl Qx) (yg rfl rfl rfl rfl mr isAgg44 sizeOf44 Qi ?_)
     refine yq rfl rfl rfl (.move rfl) (yq rfl rfl rfl (.indexAddr rfl rfl (Km _ _ _ _ _ oo)) ?_)
     refine Jl rfl rfl rfl kk rfl mm (cells_lt (k := 5) dd (fun _ => rfl) (Vs d) k oo) isAgg64 sizeOf64 (Zm (k := 5) (fun _ => rfl) ((fun _ => rfl)) (Vs d) 0 k oo) (.inl rfl) dd ?_
     refine yq rfl rfl rfl (.binOp rfl rfl (fun _ => Kr _ _ ((Vs d).getD i 0) ((Vs d).getD k 0) _)) ?_
     refine Qe (fun hc114  => (by exfalso; have hw := (hsym i hlt_i k hlt_k).2 (by first | exact .inl he1 | exact .inr he2); rw [decide_eq_true hw] at hc114; exact absurd hc114 dd)) (fun hc114  => ?_)
     refine yp rfl (.pickT rfl rfl) (yn ?_); intro a w h
     refine cW ?_
     refine Zn h rfl ?_
     refine gC h (zk (zr (zm rfl (zp (.pN (k + 1) (.add rfl rfl)) (za rfl (zn ?_)))))); clear h; intro a w h
     exact ⟨k + 1, ⟨oo, (h.drop sl).sub sA⟩, oo⟩
    ·
     skip
     refine ym rfl rfl (yg rfl rfl rfl rfl mr isAgg77 sizeOf77 Zbd ?_)
     refine yq rfl rfl rfl (.indexAddr rfl rfl (Zgl _ _)) (yg rfl rfl rfl rfl mr isAgg64 sizeOf64 Zd7 ?_)
     refine yq rfl rfl rfl (.indexAddr rfl rfl (Zdf _ _)) (yg rfl rfl rfl rfl mr isAgg64 sizeOf64 Zd8 ?_)
     refine yq rfl rfl rfl (.indexAddr rfl rfl (Zgk _ _)) (yg rfl rfl rfl rfl mr isAgg64 sizeOf64 Zcs ?_)
     refine yq rfl rfl rfl (.build [(_, _), (_, _), (_, _)] rfl (Kg _ _ _ _ _ _ _ _ _ _ _ _ _ _ _)) (yq rfl rfl rfl (.binOp rfl rfl (fun _ => Zim _ _ ((Jq d).getD k (0, 0, 0)) ((((Jq d).getD i (0, 0, 0)).2.1, ((Jq d).getD i (0, 0, 0)).1, ((Jq d).getD i (0, 0, 0)).2.2)) _)) ?_)
     refine Qe (fun hc101  => ?_) (fun hc101  => ?_)
     ·
      skip
      have he2 : ((Jq d).getD k (0, 0, 0)) = (((Jq d).getD i (0, 0, 0)).2.1, ((Jq d).getD i (0, 0, 0)).1, ((Jq d).getD i (0, 0, 0)).2.2) := of_decide_eq_true hc101
      refine yp rfl (.pickF rfl rfl) (ym rfl rfl (yq rfl rfl rfl (.fA rfl Qx) (yg rfl rfl rfl rfl mr isAgg44 sizeOf44 Qi ?_)))
      refine yq rfl rfl rfl (.move rfl) (yq rfl rfl rfl (.indexAddr rfl rfl (Km _ _ _ _ _ oo)) ?_)
      refine Jl rfl rfl rfl kk rfl mm (cells_lt (k := 5) dd (fun _ => rfl) (Vs d) i oo) isAgg64 sizeOf64 (Zm (k := 5) (fun _ => rfl) ((fun _ => rfl)) (Vs d) 0 i oo) (.inl rfl) dd ?_
      refine yq rfl rfl rfl (.fA rfl Qx) (yg rfl rfl rfl rfl mr isAgg44 sizeOf44 Qi ?_)
      refine yq rfl rfl rfl (.move rfl) (yq rfl rfl rfl (.indexAddr rfl rfl (Km _ _ _ _ _ oo)) ?_)
      refine Jl rfl rfl rfl kk rfl mm (cells_lt (k := 5) dd (fun _ => rfl) (Vs d) k oo) isAgg64 sizeOf64 (Zm (k := 5) (fun _ => rfl) ((fun _ => rfl)) (Vs d) 0 k oo) (.inl rfl) dd ?_
      refine yq rfl rfl rfl (.binOp rfl rfl (fun _ => Kr _ _ ((Vs d).getD i 0) ((Vs d).getD k 0) _)) ?_
      refine Qe (fun hc114  => (by exfalso; have hw := (hsym i hlt_i k hlt_k).2 (by first | exact .inl he1 | exact .inr he2); rw [decide_eq_true hw] at hc114; exact absurd hc114 dd)) (fun hc114  => ?_)
      refine yp rfl (.pickT rfl rfl) (yn ?_); intro a w h
      refine cW ?_
      refine Zn h rfl ?_
      refine gC h (zk (zr (zm rfl (zp (.pN (k + 1) (.add rfl rfl)) (za rfl (zn ?_)))))); clear h; intro a w h
      exact ⟨k + 1, ⟨oo, (h.drop sl).sub sA⟩, oo⟩
     ·
      skip
      refine yp rfl (.pickF rfl rfl) (ym rfl rfl (yo 103 rfl rfl rfl rfl (yo 103 rfl rfl rfl rfl (yo 103 rfl rfl rfl rfl (yo 103 rfl rfl rfl rfl (yo 103 rfl rfl rfl rfl (yo 103 rfl rfl rfl rfl (yo 103 rfl rfl rfl rfl (yo 103 rfl rfl rfl rfl (yo 103 rfl rfl rfl rfl (yo 103 rfl rfl rfl rfl (yo 103 rfl rfl rfl rfl (yp rfl (.pickF rfl rfl) (yn ?_)))))))))))))); intro a w h
      refine cW ?_
      refine Zn h rfl ?_
      refine gC h (zk (zr (zm rfl (zp (.pN (k + 1) (.add rfl rfl)) (za rfl (zn ?_)))))); clear h; intro a w h
      exact ⟨k + 1, ⟨oo, (h.drop sl).sub sA⟩, oo⟩
  ·
   skip
   have heq_k : (Jq d).length = k := dF hc67
   subst heq_k
   refine gC h (ze (zr (zm rfl (zp (.pN (i + 1) (.add rfl rfl)) (za rfl (zn ?_)))))); clear h; intro a w h
   exact ⟨i + 1, ⟨oo, (h.drop sl).sub sA⟩, oo⟩
 ·
  skip
  have heq_i : (Jq d).length = i := dF hc55
  subst heq_i
  refine gC h (ze (zS (zv [] rfl call14 (Xl) (za rfl (zn (zt ?_)))))); clear h; intro a w h
  exact Zag h
end
section
theorem Ji (a : Option Addr) (n c : Nat) (w : World) (ty : TypeId) (cs : Array Bool) : (Go.builtin .len #[37] ty cs #[.slice a n c]).run Tryz.prog w = .ok (.value (.int .i64 n)) w := by
 simp [go_sem]
theorem Zft (b off n c j : Nat) (h : j < n) (w : World) : (Instr.indexAt 37 (.slice (some ⟨b, off, none⟩) n c) (.int .i64 (j : Int))).run Tryz.prog w = .ok (.pointer (some ⟨b, off + j * 6, none⟩)) w := by
 simpa using Je runUnderlying37 sizeOf36 b off n c j h w
theorem Zdi {b off : Nat} (w : World) : (Instr.fieldAt 36 (.pointer (some ⟨b, off, none⟩)) 0).run Tryz.prog w = .ok (.pointer (some ⟨b, off + 0, none⟩)) w := by
 simp [go_sem]
theorem Zq4 {b off : Nat} (w : World) : (Instr.fieldAt 36 (.pointer (some ⟨b, off, none⟩)) 1).run Tryz.prog w = .ok (.pointer (some ⟨b, off + 2, none⟩)) w := by
 simp [go_sem]
theorem Zq3 {b off : Nat} (w : World) : (Instr.fieldAt 36 (.pointer (some ⟨b, off, none⟩)) 2).run Tryz.prog w = .ok (.pointer (some ⟨b, off + 4, none⟩)) w := by
 simp [go_sem]
abbrev Zat (w : (Int × Int) × (Int × Int) × (Int × Int)) : Value := .agg #[.int .i64 w.1.1, .int .u32 w.1.2, .int .i64 w.2.1.1, .int .u32 w.2.1.2, .int .i64 w.2.2.1, .int .u32 w.2.2.2]
def flW (l : List ((Int × Int) × (Int × Int) × (Int × Int))) : List (Int × Int) := l.flatMap (fun p => [p.1, p.2.1, p.2.2])
theorem Zem : ∀ l, cellsOf Zat l = cellsOf Za9 (flW l)
 | [] => rfl
 | p :: l => by
  have h := Zem l
  unfold flW cellsOf at *
  rw [List.flatMap_cons, List.flatMap_cons, List.flatMap_append, ← h]; rfl
theorem Zhc : ∀ l, (flW l).length = 3 * l.length
 | [] => rfl
 | p :: l => by
  have h := Zhc l
  unfold flW at *
  rw [List.flatMap_cons, List.length_append, h]; show 3 + 3 * l.length = 3 * (l.length + 1); omega
def qa (T : List (Int × Int)) (j : Nat) : Rat := qv (T.getD j (0, 0)).1 (T.getD j (0, 0)).2
def Gx (T : List (Int × Int)) (i : Nat) : Rat × Rat × Rat := (qa T (3 * i + 0), qa T (3 * i + 1), ((1 : Int) : Rat) - qa T (3 * i + 0) - qa T (3 * i + 1))
def Zai (T : List (Int × Int)) (i : Nat) : Rat := qa T (3 * i + 2)
def Qbz (T : List (Int × Int)) (n : Nat) (v : Value) (Ψ : List Qn) : Prop := ∃ ad1 c1 ad2 c2, v = .agg #[.slice ad1 (Zz (Gx T) n).length c1, .slice ad2 (Zz (Zai T) n).length c2] ∧ Ψ = [Row ad2 (cellsOf Zv (Zz (Zai T) n)), Row ad1 (cellsOf Gb (Zz (Gx T) n))]
theorem Zhx (ad : Option Addr) (c : Nat) (l : List ((Int × Int) × (Int × Int) × (Int × Int))) (hok : ∀ q ∈ flW l, OkQ q) (hn : l.length ≤ 1000) : Ctr Tryz.prog 13 [.slice ad l.length c] [Row ad (cellsOf Zat l)] (Qbz (flW l) l.length) := by
 refine fn_intro func13 rfl ntmps13 nb ?_
 intro S w0 a hS h
 rw [Zem l] at h
 have hfl := Zhc l
 refine gC h (zS (zz zeroValue46 fun b2 => zn (zS (zz zeroValue46 fun b3 => zn (zs (zS (za rfl (zn (zb ?_))))))))); clear h; intro a w h
 refine Zd (fun (i : Nat) a w => i ≤ l.length ∧ ∃ (ad1 : Option Addr) (c1 : Nat) (o1 : List (Nat × Obj)) (ad2 : Option Addr) (c2 : Nat) (o2 : List (Nat × Obj)), (GrowO 15 77 (.slice ad1 (Zz (Gx (flW l)) i).length c1) (Zz (Gx (flW l)) i).length (cellsOf Gb (Zz (Gx (flW l)) i)) o1 ∧ GrowO 5 64 (.slice ad2 (Zz (Zai (flW l)) i).length c2) (Zz (Zai (flW l)) i).length (cellsOf Zv (Zz (Zai (flW l)) i)) o2) ∧ St 50 S w0 [(0, .slice ad l.length c), (2, pB b2), (3, pB b3), (4, nI i)] (o2 ++ (o1 ++ ((b3, bV (.agg #[(.slice ad1 (Zz (Gx (flW l)) i).length c1), (.slice ad2 (Zz (Zai (flW l)) i).length c2)]) 46) :: ((b2, bV (.agg #[.slice none 0 0, .slice none 0 0]) 46) :: [])))) [Row ad (cellsOf Za9 (flW l))] a w) (fun i => l.length - i) 0 (⟨Nat.zero_le _, none, 0, [], none, 0, [], ⟨GrowO.nil _ _, GrowO.nil _ _⟩, by exact (h).sub sA⟩) ?_; clear h
 rintro i a w ⟨hi_i, ad1, c1, o1, ad2, c2, o2, ⟨hG1, hG2⟩, h⟩
 refine gC h (zs (zS (zm rfl (zm rfl (zp (.builtin [_] rfl (Ji _ _ _)) (zp (.lss rfl rfl) (zn ?_))))))); clear h; intro a w h
 refine cW ?_
 refine Zb h rfl (fun hc10 => ?_) (fun hc10 => ?_)
 ·
  skip
  have hlt_i : i < l.length := dT hc10
  obtain ⟨B_ad, O_ad, rfl⟩ := h.row_addr (ad := ad) (M := cellsOf Za9 (flW l)) mm (nE 2)
  obtain ⟨hq0a, hq0b, hq0c, hq0d⟩ := hok _ (getD_mem (flW l) (i := 3 * i + 0) (d := (0, 0)) oo)
  obtain ⟨hq1a, hq1b, hq1c, hq1d⟩ := hok _ (getD_mem (flW l) (i := 3 * i + 1) (d := (0, 0)) oo)
  obtain ⟨hq2a, hq2b, hq2c, hq2d⟩ := hok _ (getD_mem (flW l) (i := 3 * i + 2) (d := (0, 0)) oo)
  have hg1 := Zs (Gx (flW l)) i
  have hg2 := Zs (Zai (flW l)) i
  refine gC h (zk (zs (zb (zs (yD Za [0, 1, 2, 3, 4, 6, 7, 8, 9, 10, 5, 11, 12, 13, 14, 15] (Jy ⟨.inl rfl, .inl rfl, .inl rfl, .inl rfl, .inl rfl, .inl rfl, .inl rfl, .inl rfl, .inl rfl, .inl rfl, .inl rfl, .inl rfl, .inr ⟨5, 64, _, _, _, rfl, rfl, by decide, _, Ja⟩, .inr ⟨6, 64, _, _, _, rfl, rfl, by decide, _, Ja⟩, .inl rfl, .inl rfl, trivial⟩) (ym rfl rfl (ym rfl rfl (yp rfl (.indexAddr rfl rfl (Zft _ _ _ _ _ oo)) (yp rfl (Pure1.cast (v' := .pointer (some ⟨B_ad, O_ad + (3 * i + 0) * 2, none⟩)) (.fA rfl Zdi) (by rw [show O_ad + i * 6 + 0 = O_ad + (3 * i + 0) * 2 by omega])) ?_))))))))); clear h
  refine Zj rfl kk rfl mm (cells_lt (k := 2) dd (fun _ => rfl) (flW l) (3 * i + 0) oo) isAgg24 sizeOf24 (Zm (k := 2) (fun _ => rfl) ((fun _ => rfl)) (flW l) (0, 0) (3 * i + 0) oo) (.inl rfl) dd ?_
  refine ym rfl rfl (ym rfl rfl (yp rfl (.indexAddr rfl rfl (Zft _ _ _ _ _ oo)) (yp rfl (Pure1.cast (v' := .pointer (some ⟨B_ad, O_ad + (3 * i + 1) * 2, none⟩)) (.fA rfl Zq4) (by rw [show O_ad + i * 6 + 2 = O_ad + (3 * i + 1) * 2 by omega])) ?_)))
  refine Zj rfl kk rfl mm (cells_lt (k := 2) dd (fun _ => rfl) (flW l) (3 * i + 1) oo) isAgg24 sizeOf24 (Zm (k := 2) (fun _ => rfl) ((fun _ => rfl)) (flW l) (0, 0) (3 * i + 1) oo) (.inl rfl) dd ?_
  refine yv [_] rfl rfl call41 (Zes (((flW l).getD (3 * i + 0) (0, 0)).1) (((flW l).getD (3 * i + 0) (0, 0)).2) oo oo oo oo) ?_
  have hl18 := Yd (((flW l).getD (3 * i + 0) (0, 0)).1) (((flW l).getD (3 * i + 0) (0, 0)).2) oo oo oo oo
  refine yv [_] rfl rfl call41 (Zes (((flW l).getD (3 * i + 1) (0, 0)).1) (((flW l).getD (3 * i + 1) (0, 0)).2) oo oo oo oo) ?_
  have hl24 := Yd (((flW l).getD (3 * i + 1) (0, 0)).1) (((flW l).getD (3 * i + 1) (0, 0)).2) oo oo oo oo
  refine yz rfl Ja fun b5 => yz rfl Ja fun b6 => yt rfl rfl rfl Zp uu sizeOf64 rfl nb rfl ?_
  refine yt rfl rfl rfl Zp uu sizeOf64 rfl nb rfl ?_
  refine yn (zs (yD Za [0, 1, 2, 3, 5, 7, 4, 6, 8, 9, 10, 11, 12, 13] (Zc kk) (yp rfl (.fA rfl Xc) (yd rfl rfl mr isAgg43 sizeOf43 Ql ?_))))
  refine yd rfl rfl mr isAgg64 sizeOf64 Zh ?_
  refine yd rfl rfl mr isAgg64 sizeOf64 Zh ?_
  refine yd rfl rfl mr isAgg64 sizeOf64 Zh ?_
  refine yd rfl rfl mr isAgg64 sizeOf64 Zh ?_
  refine yv [_] rfl rfl call31 (Vg _ oo oo) ?_
  have hl29 := Qo (1) oo oo
  refine yv [_, _] rfl rfl call45 (Zfj _ _ oo oo) ?_
  have hl31 := Xu (((1 : Int) : Rat)) (qv (((flW l).getD (3 * i + 0) (0, 0)).1) (((flW l).getD (3 * i + 0) (0, 0)).2))
  refine yv [_, _] rfl rfl call45 (Zfj _ _ oo oo) ?_
  have hl33 := Xu ((((1 : Int) : Rat)) - (qv (((flW l).getD (3 * i + 0) (0, 0)).1) (((flW l).getD (3 * i + 0) (0, 0)).2))) (qv (((flW l).getD (3 * i + 1) (0, 0)).1) (((flW l).getD (3 * i + 1) (0, 0)).2))
  refine yp rfl (.build [(_, _), (_, _), (_, _)] rfl (Kg _ _ _ _ _ _ _ _ _ _ _ _ _ _ _)) (yB rfl [(_, _)] rfl (Zcy _ _ _ _ _ _ _ _ _ _ _ _ _ _ _) fun b35 => ?_)
  refine Qm (σr := ((b6, bV (Zv (qv (((flW l).getD (3 * i + 1) (0, 0)).1) (((flW l).getD (3 * i + 1) (0, 0)).2))) 64) :: ((b5, bV (Zv (qv (((flW l).getD (3 * i + 0) (0, 0)).1) (((flW l).getD (3 * i + 0) (0, 0)).2))) 64) :: (o2 ++ ((b3, bV (.agg #[(.slice ad1 (Zz (Gx (flW l)) i).length c1), (.slice ad2 (Zz (Zai (flW l)) i).length c2)]) 46) :: ((b2, bV (.agg #[.slice none 0 0, .slice none 0 0]) 46) :: [])))))) rfl kk rfl rfl (List.Perm.trans (List.Perm.refl _) (List.Perm.cons _ (Zbv (Zbv (Zd9 (List.Perm.refl _)))))) hG1 runUnderlying43 runUnderlying43 typeInfo77 sizeOf77 Zpp rfl dd dd rfl rfl dd (by show 168 * (2 * ((Zz (Gx (flW l)) i).length + 1) + 192) ≤ 281474976710656; omega) dd ?_
  intro v36 o36 hG36
  obtain ⟨ad36, c36, rfl⟩ := hG36.is
  have hLn36 : (Zz (Gx (flW l)) i).length + 1 = ((Zz (Gx (flW l)) i) ++ [(qv (((flW l).getD (3 * i + 0) (0, 0)).1) (((flW l).getD (3 * i + 0) (0, 0)).2), qv (((flW l).getD (3 * i + 1) (0, 0)).1) (((flW l).getD (3 * i + 1) (0, 0)).2), ((((1 : Int) : Rat)) - (qv (((flW l).getD (3 * i + 0) (0, 0)).1) (((flW l).getD (3 * i + 0) (0, 0)).2))) - (qv (((flW l).getD (3 * i + 1) (0, 0)).1) (((flW l).getD (3 * i + 1) (0, 0)).2)))]).length := lA
  rw [hLn36]; rw [hLn36] at hG36
  replace hG36 : GrowO 15 77 (.slice ad36 ((Zz (Gx (flW l)) i) ++ [(qv (((flW l).getD (3 * i + 0) (0, 0)).1) (((flW l).getD (3 * i + 0) (0, 0)).2), qv (((flW l).getD (3 * i + 1) (0, 0)).1) (((flW l).getD (3 * i + 1) (0, 0)).2), ((((1 : Int) : Rat)) - (qv (((flW l).getD (3 * i + 0) (0, 0)).1) (((flW l).getD (3 * i + 0) (0, 0)).2))) - (qv (((flW l).getD (3 * i + 1) (0, 0)).1) (((flW l).getD (3 * i + 1) (0, 0)).2)))]).length c36) ((Zz (Gx (flW l)) i) ++ [(qv (((flW l).getD (3 * i + 0) (0, 0)).1) (((flW l).getD (3 * i + 0) (0, 0)).2), qv (((flW l).getD (3 * i + 1) (0, 0)).1) (((flW l).getD (3 * i + 1) (0, 0)).2), ((((1 : Int) : Rat)) - (qv (((flW l).getD (3 * i + 0) (0, 0)).1) (((flW l).getD (3 * i + 0) (0, 0)).2))) - (qv (((flW l).getD (3 * i + 1) (0, 0)).1) (((flW l).getD (3 * i + 1) (0, 0)).2)))]).length (cellsOf Gb ((Zz (Gx (flW l)) i) ++ [(qv (((flW l).getD (3 * i + 0) (0, 0)).1) (((flW l).getD (3 * i + 0) (0, 0)).2), qv (((flW l).getD (3 * i + 1) (0, 0)).1) (((flW l).getD (3 * i + 1) (0, 0)).2), ((((1 : Int) : Rat)) - (qv (((flW l).getD (3 * i + 0) (0, 0)).1) (((flW l).getD (3 * i + 0) (0, 0)).2))) - (qv (((flW l).getD (3 * i + 1) (0, 0)).1) (((flW l).getD (3 * i + 1) (0, 0)).2)))])) o36 := by rw [Zo, Qb]; exact hG36
  refine yp rfl (.fA rfl Xc) (yt rfl rfl rfl Zao uu sizeOf43 rfl nb (by show ((flat ((.slice ad36 ((Zz (Gx (flW l)) i) ++ [(qv (((flW l).getD (3 * i + 0) (0, 0)).1) (((flW l).getD (3 * i + 0) (0, 0)).2), qv (((flW l).getD (3 * i + 1) (0, 0)).1) (((flW l).getD (3 * i + 1) (0, 0)).2), ((((1 : Int) : Rat)) - (qv (((flW l).getD (3 * i + 0) (0, 0)).1) (((flW l).getD (3 * i + 0) (0, 0)).2))) - (qv (((flW l).getD (3 * i + 1) (0, 0)).1) (((flW l).getD (3 * i + 1) (0, 0)).2)))]).length c36)) && true)) = true; simp only [GrowO.flat (hG36)]; rfl) ?_)
  refine yn (yD Za [0, 1, 2, 3, 4, 5, 6, 7, 8, 9, 10, 11] (Zc kk) (yp rfl (.fA rfl Qx) (yd rfl rfl mr isAgg44 sizeOf44 Qi ?_)))
  refine ym rfl rfl (ym rfl rfl (yp rfl (.indexAddr rfl rfl (Zft _ _ _ _ _ oo)) (yp rfl (Pure1.cast (v' := .pointer (some ⟨B_ad, O_ad + (3 * i + 2) * 2, none⟩)) (.fA rfl Zq3) (by rw [show O_ad + i * 6 + 4 = O_ad + (3 * i + 2) * 2 by omega])) ?_)))
  refine Zj rfl kk rfl mm (cells_lt (k := 2) dd (fun _ => rfl) (flW l) (3 * i + 2) oo) isAgg24 sizeOf24 (Zm (k := 2) (fun _ => rfl) ((fun _ => rfl)) (flW l) (0, 0) (3 * i + 2) oo) (.inl rfl) dd ?_
  refine yv [_] rfl rfl call41 (Zes (((flW l).getD (3 * i + 2) (0, 0)).1) (((flW l).getD (3 * i + 2) (0, 0)).2) oo oo oo oo) ?_
  have hl45 := Yd (((flW l).getD (3 * i + 2) (0, 0)).1) (((flW l).getD (3 * i + 2) (0, 0)).2) oo oo oo oo
  refine yB rfl [(_, _)] rfl (Xb _ _ _ _ _) fun b46 => ?_
  refine Qm (σr := (o36 ++ ((b6, bV (Zv (qv (((flW l).getD (3 * i + 1) (0, 0)).1) (((flW l).getD (3 * i + 1) (0, 0)).2))) 64) :: ((b5, bV (Zv (qv (((flW l).getD (3 * i + 0) (0, 0)).1) (((flW l).getD (3 * i + 0) (0, 0)).2))) 64) :: ((b3, bV (.agg #[(.slice ad36 ((Zz (Gx (flW l)) i) ++ [(qv (((flW l).getD (3 * i + 0) (0, 0)).1) (((flW l).getD (3 * i + 0) (0, 0)).2), qv (((flW l).getD (3 * i + 1) (0, 0)).1) (((flW l).getD (3 * i + 1) (0, 0)).2), ((((1 : Int) : Rat)) - (qv (((flW l).getD (3 * i + 0) (0, 0)).1) (((flW l).getD (3 * i + 0) (0, 0)).2))) - (qv (((flW l).getD (3 * i + 1) (0, 0)).1) (((flW l).getD (3 * i + 1) (0, 0)).2)))]).length c36), (.slice ad2 (Zz (Zai (flW l)) i).length c2)]) 46) :: ((b2, bV (.agg #[.slice none 0 0, .slice none 0 0]) 46) :: [])))))) rfl kk rfl rfl (List.Perm.trans (List.Perm.refl _) (List.Perm.cons _ (Zd9 (Zbv (Zbv (List.Perm.refl _)))))) hG2 runUnderlying44 runUnderlying44 typeInfo64 sizeOf64 Ja rfl dd dd rfl rfl dd (by show 56 * (2 * ((Zz (Zai (flW l)) i).length + 1) + 192) ≤ 281474976710656; omega) dd ?_
  intro v47 o47 hG47
  obtain ⟨ad47, c47, rfl⟩ := hG47.is
  have hLn47 : (Zz (Zai (flW l)) i).length + 1 = ((Zz (Zai (flW l)) i) ++ [qv (((flW l).getD (3 * i + 2) (0, 0)).1) (((flW l).getD (3 * i + 2) (0, 0)).2)]).length := lA
  rw [hLn47]; rw [hLn47] at hG47
  replace hG47 : GrowO 5 64 (.slice ad47 ((Zz (Zai (flW l)) i) ++ [qv (((flW l).getD (3 * i + 2) (0, 0)).1) (((flW l).getD (3 * i + 2) (0, 0)).2)]).length c47) ((Zz (Zai (flW l)) i) ++ [qv (((flW l).getD (3 * i + 2) (0, 0)).1) (((flW l).getD (3 * i + 2) (0, 0)).2)]).length (cellsOf Zv ((Zz (Zai (flW l)) i) ++ [qv (((flW l).getD (3 * i + 2) (0, 0)).1) (((flW l).getD (3 * i + 2) (0, 0)).2)])) o47 := by rw [Zo, Qb]; exact hG47
  refine yp rfl (.fA rfl Qx) (yt rfl rfl rfl Zan uu sizeOf44 rfl nb (by show ((flat ((.slice ad47 ((Zz (Zai (flW l)) i) ++ [qv (((flW l).getD (3 * i + 2) (0, 0)).1) (((flW l).getD (3 * i + 2) (0, 0)).2)]).length c47)) && true)) = true; simp only [GrowO.flat (hG47)]; rfl) ?_)
  refine yn (zr (zm rfl (zp (.pN (i + 1) (.add rfl rfl)) (za rfl (zn ?_))))); intro a w h
  exact ⟨i + 1, ⟨oo, ad36, c36, o36, ad47, c47, o47, ⟨hG36, hG47⟩, by exact (((h.perm (List.Perm.trans (Zdw (Zdw (List.Perm.refl _))) (List.Perm.cons _ (List.Perm.trans (Zdw (Zdw (List.Perm.refl _))) (List.Perm.cons _ (List.Perm.refl _))))).symm).drop (by repeat (first | exact List.Sublist.refl _ | apply List.Sublist.cons))).factsSub (by simp)).sub sA⟩, oo⟩
 ·
  skip
  have heq_i : l.length = i := dF hc10
  subst heq_i
  refine gC h (ze (zS (zd rfl mr isAgg46 sizeOf46 Zg ?_)))
  refine zt' rfl rfl Zq uu sizeOf46 rfl nb (by show ((flat ((.slice ad1 (Zz (Gx (flW l)) l.length).length c1)) && (flat ((.slice ad2 (Zz (Zai (flW l)) l.length).length c2)) && true))) = true; simp only [GrowO.flat (hG1), GrowO.flat (hG2)]; rfl) ?_; intro a w h
  refine wpList_nil (wp_ret ?_)
  replace h := (St.shareO' (St.shareO' (h.perm (Zd9 (List.Perm.refl _)).symm) hS hG1) hS hG2)
  refine Jm (Ψ := [Row ad2 (cellsOf Zv (Zz (Zai (flW l)) l.length)), Row ad1 (cellsOf Gb (Zz (Gx (flW l)) l.length))]) h (Ze h rfl (.cell rfl mr isAgg46 sizeOf46 Zg)) ⟨ad1, c1, ad2, c2, rfl, rfl⟩ ss
theorem Qaw (T : List (Int × Int)) (i : Nat) : Zvq (Gx T i) = ((1 : Int) : Rat) := by
 unfold Zvq Gx
 simp only [List.foldl_cons, List.foldl_nil]
 generalize qa T (3 * i + 0) = a
 generalize qa T (3 * i + 1) = b
 rw [Rat.zero_add, Rat.sub_eq_add_neg (_ - a), Rat.sub_eq_add_neg _ a, Rat.add_assoc ((1 : Int) : Rat), Rat.add_comm ((1 : Int) : Rat), ← Rat.add_assoc, ← Rat.add_assoc, Rat.add_assoc a b, Rat.add_comm b, ← Rat.add_assoc a (-a) b, Rat.add_neg_cancel, Rat.zero_add, Rat.add_neg_cancel, Rat.zero_add]
theorem Zgf {α : Type} {f : Nat → α} {x : α} : ∀ {i}, x ∈ Zz f i → ∃ j, j < i ∧ x = f j
 | 0, h => by cases h
 | i + 1, h => by
  rw [Zz, List.mem_append, List.mem_singleton] at h
  rcases h with h | h
  · obtain ⟨j, h1, h2⟩ := Zgf h; exact ⟨j, oo, h2⟩
  · exact ⟨i, oo, h⟩
theorem Kz (T : List (Int × Int)) (n : Nat) : Kq (Zz (Gx T) n) (Zz (Zai T) n) = 0 := by
 unfold Kq; rw [Zs, Zs, if_pos rfl, if_pos]
 intro p hp
 obtain ⟨j, _, rfl⟩ := Zgf hp
 exact Qaw T j
theorem Zlz {T : List (Int × Int)} (hok : ∀ q ∈ T, OkQ q) {j : Nat} (h : j < T.length) : Qa (qa T j) ≤ 4 := by
 obtain ⟨h0, h1, h2, h3⟩ := hok _ (getD_mem T (d := (0, 0)) h)
 exact Yd _ _ h0 h1 h2 h3
theorem Vz {T : List (Int × Int)} (hok : ∀ q ∈ T, OkQ q) {n : Nat} (hn : 3 * n ≤ T.length) : ∀ p ∈ Zz (Gx T) n, Qa p.1 ≤ 1000 ∧ Qa p.2.1 ≤ 1000 ∧ Qa p.2.2 ≤ 1000 := by
 intro p hp
 obtain ⟨j, hj, rfl⟩ := Zgf hp
 have h1 := Zlz hok (j := 3 * j + 0) oo
 have h2 := Zlz hok (j := 3 * j + 1) oo
 have h3 := Gd
 have h4 := Xu ((1 : Int) : Rat) (qa T (3 * j + 0))
 have h5 := Xu (((1 : Int) : Rat) - qa T (3 * j + 0)) (qa T (3 * j + 1))
 rw [Zwn] at *
 unfold Gx
 simp only
 rw [Zwn]
 omega
theorem Zaa {T : List (Int × Int)} (hok : ∀ q ∈ T, OkQ q) {n : Nat} (hn : 3 * n ≤ T.length) : ∀ x ∈ Zz (Zai T) n, Qa x ≤ 1000 := by
 intro p hp
 obtain ⟨j, hj, rfl⟩ := Zgf hp
 have h1 := Zlz hok (j := 3 * j + 2) oo
 unfold Zai; omega
end
section
def Zpo (ns : List Rat) (l : List Pt) : Nat → Pt
 | 0 => (0, 0)
 | k + 1 => ((Zpo ns l k).1 + ns.getD k 0 * (l.getD k (0, 0)).1, (Zpo ns l k).2 + ns.getD k 0 * (l.getD k (0, 0)).2)
theorem Zn5 {K Kp : Nat} {ns : List Rat} {l : List Pt} (hn : ∀ x ∈ ns, Qa x ≤ K) (hl : ∀ x ∈ l, PtK Kp x) : ∀ k, k ≤ ns.length → k ≤ l.length → PtK (2 + k * (K + Kp + 1)) (Zpo ns l k)
 | 0, _, _ => by have := Xs; exact ⟨by show Qa 0 ≤ _; omega, by show Qa 0 ≤ _; omega⟩
 | k + 1, h1, h2 => by
  obtain ⟨i1, i2⟩ := Zn5 hn hl k oo oo
  have hx := hn _ (getD_mem ns (d := 0) (show k < ns.length by omega))
  obtain ⟨p1, p2⟩ := hl _ (getD_mem l (d := (0, 0)) (show k < l.length by omega))
  have m1 := Zx (ns.getD k 0) (l.getD k (0, 0)).1
  have m2 := Zx (ns.getD k 0) (l.getD k (0, 0)).2
  have a1 := Qt (Zpo ns l k).1 (ns.getD k 0 * (l.getD k (0, 0)).1)
  have a2 := Qt (Zpo ns l k).2 (ns.getD k 0 * (l.getD k (0, 0)).2)
  rw [Nat.add_mul]
  exact ⟨by show Qa ((Zpo ns l k).1 + _) ≤ _; omega, by show Qa ((Zpo ns l k).2 + _) ≤ _; omega⟩
def Zqh (p : Rat × Rat × Rat) (a b c : Pt) : Pt := Zpo [p.1, p.2.1, p.2.2] [a, b, c] 3
theorem mix3_1 (p : Rat × Rat × Rat) (a b c : Pt) : (Zqh p a b c).1 = p.1 * a.1 + p.2.1 * b.1 + p.2.2 * c.1 := by
 show 0 + p.1 * a.1 + p.2.1 * b.1 + p.2.2 * c.1 = _; grind
theorem mix3_2 (p : Rat × Rat × Rat) (a b c : Pt) : (Zqh p a b c).2 = p.1 * a.2 + p.2.1 * b.2 + p.2.2 * c.2 := by
 show 0 + p.1 * a.2 + p.2.1 * b.2 + p.2.2 * c.2 = _; grind
def apN (ps : List (Rat × Rat × Rat)) (ws : List Rat) (p : List Tm) (a b c : Pt) : Nat → Rat
 | 0 => 0
 | n + 1 => apN ps ws p a b c n + ws.getD n 0 * evP p (Zqh (ps.getD n (0, 0, 0)) a b c).1 (Zqh (ps.getD n (0, 0, 0)) a b c).2
def Yw (ps : List (Rat × Rat × Rat)) (ws : List Rat) (p : List Tm) (a b c : Pt) : Rat := twQ a b c / ((2 : Int) : Rat) * apN ps ws p a b c ws.length
theorem Zyx {p q : List Tm} (h : Eqv p q) (ps : List (Rat × Rat × Rat)) (ws : List Rat) (a b c : Pt) : ∀ n, apN ps ws p a b c n = apN ps ws q a b c n
 | 0 => rfl
 | n + 1 => by rw [apN, apN, Zyx h ps ws a b c n, h.val]
theorem Zyy (p q : List Tm) (ps : List (Rat × Rat × Rat)) (ws : List Rat) (a b c : Pt) : ∀ n, apN ps ws (p ++ q) a b c n = apN ps ws p a b c n + apN ps ws q a b c n
 | 0 => by simp only [apN]; grind
 | n + 1 => by rw [apN, apN, apN, Zyy p q ps ws a b c n, Zok]; grind
theorem Zo4 {p q : List Tm} (h : Eqv p q) (ps : List (Rat × Rat × Rat)) (ws : List Rat) (a b c : Pt) : Yw ps ws p a b c = Yw ps ws q a b c := by unfold Yw; rw [Zyx h]
theorem Zyu (p q : List Tm) (ps : List (Rat × Rat × Rat)) (ws : List Rat) (a b c : Pt) : Yw ps ws (norm (p ++ q)) a b c = Yw ps ws p a b c + Yw ps ws q a b c := by
 rw [Zo4 (Eqv.nrm _)]; unfold Yw; rw [Zyy]; grind
theorem Zyw (ps : List (Rat × Rat × Rat)) (ws : List Rat) (p : List Tm) (a b c : Pt) (hle : ps.length = ws.length) (hs : ∀ x ∈ ps, Zvq x = ((1 : Int) : Rat)) :
  ∀ n, n ≤ ws.length → apN ps ws p a b c n = lin (fun i j => Ziy ps ws 0 i j n) (shL p (b.1 - a.1) (c.1 - a.1) a.1 (b.2 - a.2) (c.2 - a.2) a.2)
 | 0, _ => by simp only [apN, Ziy]; rw [Zls]
 | n + 1, h => by
  have hx := hs _ (getD_mem ps (d := (0, 0, 0)) (show n < ps.length by omega))
  have e1 : ((1 : Int) : Rat) = 1 := rfl
  have hx2 : (ps.getD n (0, 0, 0)).1 + (ps.getD n (0, 0, 0)).2.1 + (ps.getD n (0, 0, 0)).2.2 = 1 := by
   rw [e1] at hx; rw [← hx]; show _ = 0 + (ps.getD n (0, 0, 0)).1 + (ps.getD n (0, 0, 0)).2.1 + (ps.getD n (0, 0, 0)).2.2; grind
  rw [apN, Zyw ps ws p a b c hle hs n oo]
  simp only [Ziy]
  rw [Zqr, Zde]
  congr 2
  have e2 : (fun i j : Nat => (ps.getD n (0, 0, 0)).1 ^ 0 * ((ps.getD n (0, 0, 0)).2.1 ^ i * (ps.getD n (0, 0, 0)).2.2 ^ j)) = fun i j => (ps.getD n (0, 0, 0)).2.1 ^ i * (ps.getD n (0, 0, 0)).2.2 ^ j := by
   funext i j; rw [Rat.pow_zero]; grind
  rw [e2]
  show _ = evP _ (ps.getD n (0, 0, 0)).2.1 (ps.getD n (0, 0, 0)).2.2
  rw [Zx2, mix3_1, mix3_2]
  congr 1 <;> grind
theorem Zwu (i j : Nat) : Jd 0 i j = 2 * mu i j := by
 rw [← Zlk]
 unfold Jd Zdt
 simp only [List.foldl_cons, Nat.zero_add]
 rfl
theorem Zml {ps : List (Rat × Rat × Rat)} {ws : List Rat} (h : Kq ps ws = 0) : ps.length = ws.length ∧ ∀ x ∈ ps, Zvq x = ((1 : Int) : Rat) := by
 unfold Kq at h
 split at h
 ·
  rename_i h1
  split at h
  · rename_i h2; exact ⟨h1, h2⟩
  · cases h
 · cases h
theorem Qda {d : Nat} {p : List Tm} (h : DL d p) (a b c e f g : Rat) : DL d (shL p a b c e f g) := fun u hu => by
 unfold shL sbL at hu
 obtain ⟨t, ht, hu⟩ := List.mem_flatMap.1 hu
 have hd := h t ht
 have hl : ∀ x y z : Rat, DL 1 (ln x y z) := fun x y z s hs => by
  simp only [ln, List.mem_cons, List.not_mem_nil, or_false] at hs
  rcases hs with rfl | rfl | rfl <;> simp
 have hp : ∀ (x y z : Rat) (n : Nat), DL n (Za8 (ln x y z) n) := fun x y z n => by
  induction n with
  | zero => intro s hs; rw [Za8, List.mem_singleton] at hs; subst hs; simp
  | succ n ih => exact Zmv ih (hl x y z)
 have h1 := Zpa t.c (Zmv (hp a b c t.i) (hp e f g t.j)) u hu
 omega
theorem Zfy {ps : List (Rat × Rat × Rat)} {ws : List Rat} {p : List Tm} {d : Nat} (hc : Kq ps ws = 0) (hd : DL d p) (hok : ∀ x, x ≤ d → Zg4 ps ws x) (a b c : Pt) : Yw ps ws p a b c = Zpn p a b c := by
 obtain ⟨hle, hs⟩ := Zml hc
 unfold Yw Zpn
 rw [Zyw ps ws p a b c hle hs ws.length (Nat.le_refl _)]
 have e : lin (fun i j => Ziy ps ws 0 i j ws.length) (shL p (b.1 - a.1) (c.1 - a.1) a.1 (b.2 - a.2) (c.2 - a.2) a.2) = 2 * lin mu (shL p (b.1 - a.1) (c.1 - a.1) a.1 (b.2 - a.2) (c.2 - a.2) a.2) := by
  rw [← Zde]
  refine Gy (fun t ht => ?_)
  have h1 := Qda hd _ _ _ _ _ _ t ht
  have h2 := hok (t.i + t.j) h1 0 oo t.i oo
  rw [show t.i + t.j - 0 - t.i = t.j by omega, Zwu] at h2
  exact h2
 rw [e]
 have e2 : ((2 : Int) : Rat) = 2 := rfl
 rw [e2]; grind
theorem Qcu (ps : List (Rat × Rat × Rat)) (ws : List Rat) : ∀ f d x, d ≤ x → x < exN ps ws f d → Zg4 ps ws x
 | 0, d, x, h1, h2 => by rw [exN] at h2; omega
 | f + 1, d, x, h1, h2 => by
  rw [exN] at h2
  split at h2
  ·
   rename_i h3
   by_cases e : x = d
   · rw [e]; exact h3
   · exact Qcu ps ws f (d + 1) x oo h2
  · omega
theorem Zx1 (ps : List (Rat × Rat × Rat)) (ws : List Rat) : ∀ f d, d ≤ exN ps ws f d ∧ exN ps ws f d ≤ d + f
 | 0, d => by rw [exN]; omega
 | f + 1, d => by
  rw [exN]
  split
  · have := Zx1 ps ws f (d + 1); omega
  · omega
theorem Zjc {ps : List (Rat × Rat × Rat)} {ws : List Rat} {x : Nat} (h : (x : Int) ≤ Ga ps ws) : Zg4 ps ws x := by
 unfold Ga at h; exact Qcu ps ws 13 0 x (Nat.zero_le _) oo
theorem Zoj (ps : List (Rat × Rat × Rat)) (ws : List Rat) : -1 ≤ Ga ps ws ∧ Ga ps ws ≤ 12 := by
 have := Zx1 ps ws 13 0; unfold Ga; omega
theorem Zus {ps : List (Rat × Rat × Rat)} {ws : List Rat} (h : Ga ps ws < 0) : ¬ Zg4 ps ws 0 := fun h0 => by
 have h1 := Zx1 ps ws 12 1
 have h2 : exN ps ws 13 0 = exN ps ws 12 1 := by rw [exN, if_pos h0]
 unfold Ga at h; omega
def Zns : List Tm := [⟨0, 0, ((1 : Int) : Rat)⟩]
theorem Qen (x y : Rat) : evP Zns x y = 1 := by
 have e1 : ((1 : Int) : Rat) = 1 := rfl
 rw [Zns, Zje, Rat.pow_zero, e1]; grind
theorem Zyv (ps : List (Rat × Rat × Rat)) (ws : List Rat) (a b c : Pt) : ∀ n, apN ps ws Zns a b c n = Ziy ps ws 0 0 0 n
 | 0 => rfl
 | n + 1 => by rw [apN, Ziy, Zyv ps ws a b c n, Qen, Rat.pow_zero, Rat.pow_zero, Rat.pow_zero]; grind
theorem Zz6 (a b c : Pt) : Zpn Zns a b c = twQ a b c / ((2 : Int) : Rat) := Qdq a b c
theorem Zo3 {ps : List (Rat × Rat × Rat)} {ws : List Rat} (hx : Ga ps ws < 0) (a b c : Pt) (hz : twQ a b c / ((2 : Int) : Rat) ≠ 0) : Yw ps ws (norm Zns) a b c ≠ twQ a b c / ((2 : Int) : Rat) := fun e => by
 rw [Zo4 (Eqv.nrm _)] at e
 unfold Yw at e
 rw [Zyv] at e
 have h1 : Ziy ps ws 0 0 0 ws.length = 1 := by
  generalize twQ a b c / ((2 : Int) : Rat) = z at *
  have : z * (Ziy ps ws 0 0 0 ws.length - 1) = 0 := by grind
  rcases Rat.mul_eq_zero.1 this with h | h
  · exact absurd h hz
  · grind
 refine Zus hx (fun i hi j hj => ?_)
 obtain rfl : i = 0 := oo
 obtain rfl : j = 0 := oo
 rw [h1, Zwu, mu00]; grind
def Zfd (t : Rat) (a b : Pt) : Pt := Zpo [((1 : Int) : Rat) - t, t] [a, b] 2
theorem mix2_1 (t : Rat) (a b : Pt) : (Zfd t a b).1 = (b.1 - a.1) * t + a.1 := by
 have e1 : ((1 : Int) : Rat) = 1 := rfl
 show 0 + (((1 : Int) : Rat) - t) * a.1 + t * b.1 = _; rw [e1]; grind
theorem mix2_2 (t : Rat) (a b : Pt) : (Zfd t a b).2 = (b.2 - a.2) * t + a.2 := by
 have e1 : ((1 : Int) : Rat) = 1 := rfl
 show 0 + (((1 : Int) : Rat) - t) * a.2 + t * b.2 = _; rw [e1]; grind
def Zo6 (ats ws : List Rat) (p : List Tm) (a b : Pt) : Nat → Rat
 | 0 => 0
 | n + 1 => Zo6 ats ws p a b n + ws.getD n 0 * evP p (Zfd (ats.getD n 0) a b).1 (Zfd (ats.getD n 0) a b).2
theorem Ztg (ats ws : List Rat) (p : List Tm) (a b : Pt) : ∀ n, Zo6 ats ws p a b n = lin (fun i _ => Zu3 ats ws i n) (shL p (b.1 - a.1) 0 a.1 (b.2 - a.2) 0 a.2)
 | 0 => by simp only [Zo6, Zu3]; rw [Zls]
 | n + 1 => by
  rw [Zo6, Ztg ats ws p a b n]
  simp only [Zu3]
  rw [Zqr, Zde]
  congr 2
  have e : (fun (i : Nat) (_ : Nat) => ats.getD n 0 ^ i) = fun i j => ats.getD n 0 ^ i * 1 ^ j := by
   funext i j; rw [Zlm]; grind
  rw [e]
  show _ = evP _ (ats.getD n 0) 1
  rw [Zx2, mix2_1, mix2_2]
  congr 1 <;> grind
theorem Zo5 {ats ws : List Rat} {p : List Tm} {d : Nat} (hd : DL d p) (hok : ∀ x, x ≤ d → okL ats ws x) (a b : Pt) : Zo6 ats ws p a b ws.length = Qck p a b := by
 rw [Ztg]
 unfold Qck
 refine Gy (fun t ht => ?_)
 have h1 := Qda hd _ _ _ _ _ _ t ht
 exact hok t.i oo
theorem Qcv (ats ws : List Rat) : ∀ f d x, d ≤ x → x < exL ats ws f d → okL ats ws x
 | 0, d, x, h1, h2 => by rw [exL] at h2; omega
 | f + 1, d, x, h1, h2 => by
  rw [exL] at h2
  split at h2
  ·
   rename_i h3
   by_cases e : x = d
   · rw [e]; exact h3
   · exact Qcv ats ws f (d + 1) x oo h2
  · omega
theorem Qax {ats ws : List Rat} {x : Nat} (h : (x : Int) ≤ Zuc ats ws) : okL ats ws x := by
 unfold Zuc at h; exact Qcv ats ws 13 0 x (Nat.zero_le _) oo
end
section
theorem Qct (b off n c j : Nat) (h : j < n) (w : World) : (Instr.indexAt 165 (.slice (some ⟨b, off, none⟩) n c) (.int .i64 (j : Int))).run Tryz.prog w = .ok (.pointer (some ⟨b, off + j * 10, none⟩)) w := by
 simpa using Je runUnderlying165 sizeOf84 b off n c j h w
theorem Zkd (x0_0 : Value) (x0_1 : Value) (x0_2 : Value) (x0_3 : Value) (x0_4 : Value) (x0_5 : Value) (x0_6 : Value) (x0_7 : Value) (x0_8 : Value) (x0_9 : Value) (x1_0 : Value) (x1_1 : Value) (x1_2 : Value) (x1_3 : Value) (x1_4 : Value) (x1_5 : Value) (x1_6 : Value) (x1_7 : Value) (x1_8 : Value) (x1_9 : Value) (x2_0 : Value) (x2_1 : Value) (x2_2 : Value) (x2_3 : Value) (x2_4 : Value) (x2_5 : Value) (x2_6 : Value) (x2_7 : Value) (x2_8 : Value) (x2_9 : Value) (w : World) : (Instr.buildSlice 165 3 [(0, .agg #[x0_0, x0_1, x0_2, x0_3, x0_4, x0_5, x0_6, x0_7, x0_8, x0_9]), (1, .agg #[x1_0, x1_1, x1_2, x1_3, x1_4, x1_5, x1_6, x1_7, x1_8, x1_9]), (2, .agg #[x2_0, x2_1, x2_2, x2_3, x2_4, x2_5, x2_6, x2_7, x2_8, x2_9])].toArray).run Tryz.prog w = .ok (.slice (some ⟨w.heap.size, 0, none⟩) 3 3) (w.alloc (.cells #[x0_0, x0_1, x0_2, x0_3, x0_4, x0_5, x0_6, x0_7, x0_8, x0_9, x1_0, x1_1, x1_2, x1_3, x1_4, x1_5, x1_6, x1_7, x1_8, x1_9, x2_0, x2_1, x2_2, x2_3, x2_4, x2_5, x2_6, x2_7, x2_8, x2_9] 84 (0, 0))) := by
 simp [go_sem]
theorem mixK {K Kp : Nat} {ns : List Rat} {l : List Pt} (hn : ∀ x ∈ ns, Qa x ≤ K) (hl : ∀ x ∈ l, PtK Kp x) (hK : K ≤ 3000) (hKp : Kp ≤ 3000) (h3 : ns.length ≤ 3) {k : Nat} (h1 : k ≤ ns.length) (h2 : k ≤ l.length) : PtK 18005 (Zpo ns l k) := by
 obtain ⟨a, b⟩ := Zn5 hn hl k h1 h2
 have := Nat.mul_le_mul (show k ≤ 3 by omega) (show K + Kp + 1 ≤ 6001 by omega)
 exact ⟨oo, oo⟩
theorem l3_K {K : Nat} {a b c : Pt} (ha : PtK K a) (hb : PtK K b) (hc : PtK K c) : ∀ x ∈ [a, b, c], PtK K x := fun x hx => by
 simp only [List.mem_cons, List.not_mem_nil, or_false] at hx
 rcases hx with rfl | rfl | rfl <;> assumption
theorem l2_K {K : Nat} {a b : Pt} (ha : PtK K a) (hb : PtK K b) : ∀ x ∈ [a, b], PtK K x := fun x hx => by
 simp only [List.mem_cons, List.not_mem_nil, or_false] at hx
 rcases hx with rfl | rfl <;> assumption
theorem n3_K {K : Nat} {p : Rat × Rat × Rat} (h : Qa p.1 ≤ K ∧ Qa p.2.1 ≤ K ∧ Qa p.2.2 ≤ K) : ∀ x ∈ [p.1, p.2.1, p.2.2], Qa x ≤ K := fun x hx => by
 simp only [List.mem_cons, List.not_mem_nil, or_false] at hx
 rcases hx with rfl | rfl | rfl
 · exact h.1
 · exact h.2.1
 · exact h.2.2
theorem n2_K {K : Nat} {x y : Rat} (h : Qa x ≤ K) (h2 : Qa y ≤ K) : ∀ z ∈ [x, y], Qa z ≤ K := fun z hx => by
 simp only [List.mem_cons, List.not_mem_nil, or_false] at hx
 rcases hx with rfl | rfl
 · exact h
 · exact h2
theorem Qc6 {K : Nat} {a b c : Pt} (ha : PtK K a) (hb : PtK K b) (hc : PtK K c) : Qa (twQ a b c / ((2 : Int) : Rat)) ≤ 8 * K + 7 := by
 have := Zqv ha hb hc
 have := Zcd (twQ a b c) ((2 : Int) : Rat)
 have := Qo 2 dd dd
 omega
theorem Qco {Kp : Nat} {p : Rat × Rat × Rat} {a b c : Pt} (h : Qa p.1 ≤ 1000 ∧ Qa p.2.1 ≤ 1000 ∧ Qa p.2.2 ≤ 1000) (ha : PtK Kp a) (hb : PtK Kp b) (hc : PtK Kp c) (hKp : Kp ≤ 3000) : PtK 18005 (Zqh p a b c) :=
 mixK (n3_K h) (l3_K ha hb hc) oo hKp ss ss ss
theorem ev_K {d K : Nat} {p : List Tm} (hq : Pq d K p) (hd : d ≤ 12) (hK : K ≤ 300000) {x : Pt} (hx : PtK 18005 x) : Qa (evP p x.1 x.2) ≤ 47000000 := by
 have h1 := Zec (φ := PWf x.1 x.2) (Kf := 4 + 12 * 18005) (norm p).length (Nat.le_refl _) hq.nsz (fun t ht => Zsr hx.1 hx.2 t.i t.j (by have := (Xz hq.deg) t ht; omega))
 rw [List.take_length, at_ev x.1 x.2 ((Xz hq.deg).mono hd)] at h1
 have h2 := Nat.mul_le_mul (hq.n91 hd) (show K + (4 + 12 * 18005) + 1 ≤ 516065 by omega)
 omega
theorem apK {Kp d K : Nat} {ps : List (Rat × Rat × Rat)} {ws : List Rat} {p : List Tm} {a b c : Pt} (hw : ∀ x ∈ ws, Qa x ≤ 1000) (hps : ∀ p ∈ ps, Qa p.1 ≤ 1000 ∧ Qa p.2.1 ≤ 1000 ∧ Qa p.2.2 ≤ 1000) (hq : Pq d K p) (hd : d ≤ 12) (hK : K ≤ 300000)
  (ha : PtK Kp a) (hb : PtK Kp b) (hc : PtK Kp c) (hKp : Kp ≤ 3000) (hle : ps.length = ws.length) (hn : ws.length ≤ 100) : ∀ n, n ≤ ws.length → Qa (apN ps ws p a b c n) ≤ 2 + n * 47001001
 | 0, _ => by rw [apN]; have := Xs; omega
 | n + 1, h => by
  have ih := apK hw hps hq hd hK ha hb hc hKp hle hn n oo
  have h1 := ev_K hq hd hK (Qco (hps _ (getD_mem ps (d := (0, 0, 0)) (show n < ps.length by omega))) ha hb hc hKp)
  have h2 := hw _ (getD_mem ws (d := 0) (show n < ws.length by omega))
  have h3 := Zx (ws.getD n 0) (evP p (Zqh (ps.getD n (0, 0, 0)) a b c).1 (Zqh (ps.getD n (0, 0, 0)) a b c).2)
  have h4 := Qt (apN ps ws p a b c n) (ws.getD n 0 * evP p (Zqh (ps.getD n (0, 0, 0)) a b c).1 (Zqh (ps.getD n (0, 0, 0)) a b c).2)
  rw [apN, Nat.add_mul]; omega
theorem Zj1 (ad1 ad2 : Option Addr) (c1 c2 K Kp : Nat) (ns : List Rat) (l : List Pt) (hn : ∀ x ∈ ns, Qa x ≤ K) (hl : ∀ x ∈ l, PtK Kp x) (hK : K ≤ 3000) (hKp : Kp ≤ 3000) (h3 : ns.length ≤ 3) (hle : ns.length = l.length) : Ge Tryz.prog 63 [.slice ad1 ns.length c1, .slice ad2 l.length c2] [Row ad1 (cellsOf Zv ns), Row ad2 (cellsOf encPt l)] (.tuple #[Zv (Zpo ns l ns.length).1, Zv (Zpo ns l ns.length).2]) := by
 refine fn_intro func63 rfl ntmps63 nb ?_
 intro S w0 a hS h
 refine gC h (zS (zz Ja fun b4 => zz Ja fun b5 => zn (zs (zS (zm rfl (zp (.builtin [_] rfl (Zw _ _ _)) (zm rfl (zn (zb ?_))))))))); clear h; intro a w h
 refine Zd (fun (i : Nat) a w => i ≤ ns.length ∧ St 36 S w0 [(1, .slice ad2 l.length c2), (4, pB b4), (5, pB b5), (8, .slice ad1 ns.length c1), (9, nI ns.length), (10, nI i)] [(b5, bV (Zv ((Zpo ns l i).2)) 64), (b4, bV (Zv ((Zpo ns l i).1)) 64)] [Row ad1 (cellsOf Zv ns), Row ad2 (cellsOf encPt l)] a w) (fun i => ns.length - i) 0 (⟨Nat.zero_le _, by exact (h).sub sA⟩) ?_; clear h
 rintro i a w ⟨hi_i, h⟩
 refine gC h (zS (zp (.lss rfl rfl) (zn (zs ?_)))); clear h; intro a w h
 refine Zb h rfl (fun hc11 => ?_) (fun hc11 => ?_)
 ·
  skip
  have hlt_i : i < ns.length := dT hc11
  have hi2 : i < l.length := oo
  obtain ⟨B_ad2, O_ad2, rfl⟩ := h.row_addr (ad := ad2) (M := cellsOf encPt l) mm (nE 10)
  obtain ⟨B_ad1, O_ad1, rfl⟩ := h.row_addr (ad := ad1) (M := cellsOf Zv ns) mm (nE 5)
  have hm := mixK hn hl hK hKp h3 (show i ≤ ns.length by omega) (show i ≤ l.length by omega)
  obtain ⟨hm1, hm2⟩ := hm
  have hx := hn _ (getD_mem ns (d := 0) hlt_i)
  obtain ⟨hp1, hp2⟩ := hl _ (getD_mem l (d := (0, 0)) hi2)
  refine gC h (zk (zs (zb (zS (zm rfl (zp (.indexAddr rfl rfl (Km _ _ _ _ _ oo)) (zD rfl mm (cells_lt (k := 5) dd (fun _ => rfl) ns i oo) isAgg64 sizeOf64 (Zm (k := 5) (fun _ => rfl) ((fun _ => rfl)) ns 0 i oo) (.inl rfl) ?_)))))))
  refine zz Ja fun b7 => za rfl (zt' rfl rfl Zp uu sizeOf64 rfl nb rfl ?_)
  refine zn (zs (yD Za [0, 1, 2, 3, 4, 5, 6, 7, 8, 9] (Zc kk) (yd rfl rfl mr isAgg64 sizeOf64 Zh ?_)))
  refine yd rfl rfl mr isAgg64 sizeOf64 Zh ?_
  refine ym rfl rfl (ym rfl rfl (yp rfl (.indexAddr rfl rfl (Qct _ _ _ _ _ oo)) (yp rfl (Pure1.cast (v' := .pointer (some ⟨B_ad2, O_ad2 + (i * 10 + 0), none⟩)) (.indexAddr rfl rfl (Zas _ _)) (by rw [Nat.add_assoc])) ?_)))
  refine Zj rfl kk rfl mm (Zo2 (k := 10) (enc := encPt) (fun _ => rfl) l i 0 oo dd) isAgg64 sizeOf64 (Zd6 (k := 10) (enc := encPt) (fun _ => rfl) l (0, 0) i oo true 5 0 _ dd dd rfl) (.inl rfl) dd ?_
  refine yv [_, _] rfl rfl call42 (Yh _ _ oo oo) ?_
  have hl22 := Zx (ns.getD i 0) ((l.getD i (0, 0)).1)
  refine yv [_, _] rfl rfl call37 (Gc _ _ oo oo) ?_
  have hl23 := Qt ((Zpo ns l i).1) ((ns.getD i 0) * ((l.getD i (0, 0)).1))
  refine yt rfl rfl rfl Zp uu sizeOf64 rfl nb rfl ?_
  refine yn (yD Za [0, 1, 2, 3, 4, 5, 6, 7, 8, 9] (Zc kk) (yd rfl rfl mr isAgg64 sizeOf64 Zh ?_))
  refine yd rfl rfl mr isAgg64 sizeOf64 Zh ?_
  refine ym rfl rfl (ym rfl rfl (yp rfl (.indexAddr rfl rfl (Qct _ _ _ _ _ oo)) (yp rfl (Pure1.cast (v' := .pointer (some ⟨B_ad2, O_ad2 + (i * 10 + 5), none⟩)) (.indexAddr rfl rfl (Zar _ _)) (by rw [Nat.add_assoc])) ?_)))
  refine Zj rfl kk rfl mm (Zo2 (k := 10) (enc := encPt) (fun _ => rfl) l i 5 oo dd) isAgg64 sizeOf64 (Zd6 (k := 10) (enc := encPt) (fun _ => rfl) l (0, 0) i oo true 5 5 _ dd dd rfl) (.inl rfl) dd ?_
  refine yv [_, _] rfl rfl call42 (Yh _ _ oo oo) ?_
  have hl31 := Zx (ns.getD i 0) ((l.getD i (0, 0)).2)
  refine yv [_, _] rfl rfl call37 (Gc _ _ oo oo) ?_
  have hl32 := Qt ((Zpo ns l i).2) ((ns.getD i 0) * ((l.getD i (0, 0)).2))
  refine yt rfl rfl rfl Zp uu sizeOf64 rfl nb rfl ?_
  refine yn (zr (zp (.pN (i + 1) (.add rfl rfl)) (zm rfl (zn ?_)))); intro a w h
  exact ⟨i + 1, ⟨oo, ((h.drop sl).factsSub (by simp)).sub sA⟩, oo⟩
 ·
  skip
  have heq_i : ns.length = i := dF hc11
  subst heq_i
  refine gC h (ze (zs (yD Za [0, 1, 2, 3] (Zc kk) (yd rfl rfl mr isAgg64 sizeOf64 Zh ?_)))); clear h
  refine Zab [4] rfl kk rfl mr isAgg64 sizeOf64 Zh (fun a w σx hst => by intro t ht; simp only [List.mem_cons, List.not_mem_nil, or_false] at ht; rcases ht with rfl <;> exact ⟨_, rfl, by have h1 := (List.pairwise_append.1 hst.nd).2.1; simp at h1; dsimp only; omega⟩) dd ?_
  refine yt rfl rfl rfl Zp uu sizeOf64 rfl nb rfl ?_
  refine yt rfl rfl rfl Zp uu sizeOf64 rfl nb rfl ?_
  refine yn (zt ?_); intro a w h
  refine Jr h (Xe h rfl (.cell rfl mr isAgg64 sizeOf64 Zh) (.cell rfl mr isAgg64 sizeOf64 Zh)) ?_
  rfl
theorem Zf1 (ad1 ad2 ad : Option Addr) (c1 c2 c d K Kp : Nat) (ps : List (Rat × Rat × Rat)) (ws : List Rat) (p : List Tm) (pa pb pc : Pt) (hnp : ps.length ≤ 100) (hnw : ws.length ≤ 100) (hps : ∀ p ∈ ps, Qa p.1 ≤ 1000 ∧ Qa p.2.1 ≤ 1000 ∧ Qa p.2.2 ≤ 1000) (hws : ∀ x ∈ ws, Qa x ≤ 1000) (hq : Pq d K p) (hd : d ≤ 12) (hK : K ≤ 300000) (ha : PtK Kp pa) (hb : PtK Kp pb) (hc : PtK Kp pc) (hKp : Kp ≤ 3000) (hv : Kq ps ws = 0) : Ge Tryz.prog 24 [.agg #[.slice ad1 ps.length c1, .slice ad2 ws.length c2], .slice ad p.length c, encPt pa, encPt pb, encPt pc] [Row ad1 (cellsOf Gb ps), Row ad2 (cellsOf Zv ws), Row ad (cellsOf Jb p)] (Zv (Yw ps ws p pa pb pc)) := by
 obtain ⟨hle, hs3⟩ := Zml hv
 obtain ⟨ha1, ha2⟩ := ha
 obtain ⟨hb1, hb2⟩ := hb
 obtain ⟨hc1, hc2⟩ := hc
 have ha : PtK Kp pa := ⟨ha1, ha2⟩
 have hb : PtK Kp pb := ⟨hb1, hb2⟩
 have hc : PtK Kp pc := ⟨hc1, hc2⟩
 have har := Qc6 ha hb hc
 refine fn_intro func24 rfl ntmps24 nb ?_
 intro S w0 a hS h
 refine gC h (zS (zx rfl fun b5 => zx rfl fun b7 => zx rfl fun b8 => zx rfl fun b9 => zz Ja fun b10 => zn (zs (zS (zd rfl mr isAgg46 sizeOf46 Zg ?_)))))
 refine zw [_] rfl call23 (Zf0 ad1 ad2 c1 c2 ps ws oo oo hps) (zp (.neq rfl rfl) ?_); intro a w h
 refine Zi h (fun hc17 h => (by exfalso; rw [hv] at hc17; exact absurd hc17 dd)) (fun hc17 h => ?_)
 refine wpList_nil ?_
 refine cW ?_
 refine Zn h rfl ?_
 refine gC h (zk (zs (zS (zp (.fA rfl Qx) (zd rfl mr isAgg44 sizeOf44 Qi ?_)))))
 refine zp (.builtin [_] rfl (Zw _ _ _)) (zm rfl (zn (zb ?_))); intro a w h
 refine Zd (fun (i : Nat) a w => i ≤ ws.length ∧ St 55 S w0 [(1, .slice ad p.length c), (5, pB b5), (7, pB b7), (8, pB b8), (9, pB b9), (10, pB b10), (20, .slice ad2 ws.length c2), (21, nI ws.length), (22, nI i)] [(b10, bV (Zv (apN ps ws p pa pb pc i)) 64), (b9, bV (Zak pc.1 pc.2) 84), (b8, bV (Zak pb.1 pb.2) 84), (b7, bV (Zak pa.1 pa.2) 84), (b5, bV (.agg #[.slice ad1 ps.length c1, .slice ad2 ws.length c2]) 46)] [Row ad1 (cellsOf Gb ps), Row ad2 (cellsOf Zv ws), Row ad (cellsOf Jb p)] a w) (fun i => ws.length - i) 0 (⟨Nat.zero_le _, by exact (h).sub sA⟩) ?_; clear h
 rintro i a w ⟨hi_i, h⟩
 refine gC h (zS (zp (.lss rfl rfl) (zn (zs ?_)))); clear h; intro a w h
 refine Zb h rfl (fun hc23 => ?_) (fun hc23 => ?_)
 ·
  skip
  have hlt_i : i < ws.length := dT hc23
  have hi2 : i < ps.length := oo
  obtain ⟨B_ad2, O_ad2, rfl⟩ := h.row_addr (ad := ad2) (M := cellsOf Zv ws) mm (nE 5)
  obtain ⟨B_ad1, O_ad1, rfl⟩ := h.row_addr (ad := ad1) (M := cellsOf Gb ps) mm (nE 15)
  have hpi := hps _ (getD_mem ps (d := (0, 0, 0)) hi2)
  have hwi := hws _ (getD_mem ws (d := 0) hlt_i)
  have hmx := Qco hpi ha hb hc hKp
  have hev := ev_K hq hd hK hmx
  have hap := apK hws hps hq hd hK ha hb hc hKp hle hnw i oo
  have him := Nat.mul_le_mul_right 47001001 (show i ≤ 100 by omega)
  replace h := h.derive (R := Row (some ⟨B_ad1, O_ad1 + i * 15, none⟩) (cellsOf Zv [(ps.getD i (0, 0, 0)).1, (ps.getD i (0, 0, 0)).2.1, (ps.getD i (0, 0, 0)).2.2])) (fun X hX => Zf9 (l := ps) (hX _ mm) i hi2)
  refine gC h (zk (zs (zb (zS (zm rfl (zp (.indexAddr rfl rfl (Km _ _ _ _ _ oo)) (zD rfl mm (cells_lt (k := 5) dd (fun _ => rfl) ws i oo) isAgg64 sizeOf64 (Zm (k := 5) (fun _ => rfl) ((fun _ => rfl)) ws 0 i oo) (.inl rfl) ?_)))))))
  refine zz Ja fun b12 => za rfl (zt' rfl rfl Zp uu sizeOf64 rfl nb rfl ?_)
  refine zn (zs (yD Za [0, 1, 2, 3, 4, 5, 6, 7, 8, 9, 10, 11, 12, 13, 14, 15, 16] (Jy ⟨.inl rfl, .inl rfl, .inl rfl, .inl rfl, .inl rfl, .inl rfl, .inl rfl, .inl rfl, .inl rfl, .inl rfl, .inl rfl, .inl rfl, .inl rfl, .inr ⟨13, 64, _, _, _, rfl, rfl, by decide, _, Ja⟩, .inr ⟨14, 64, _, _, _, rfl, rfl, by decide, _, Ja⟩, .inl rfl, .inl rfl, trivial⟩) (yp rfl (.fA rfl Xc) (yd rfl rfl mr isAgg43 sizeOf43 Ql ?_))))
  refine ym rfl rfl (yp rfl (.indexAddr rfl rfl (Zh1 _ _ _ _ _ oo)) (yp rfl (.slice rfl none none none rfl rfl rfl (Zne _ _)) (yd rfl rfl mr isAgg84 sizeOf84 Zk ?_)))
  refine yd rfl rfl mr isAgg84 sizeOf84 Zk ?_
  refine yd rfl rfl mr isAgg84 sizeOf84 Zk ?_
  refine Jv hS rfl kk [(_, _), (_, _), (_, _)] rfl (Zkd _ _ _ _ _ _ _ _ _ _ _ _ _ _ _ _ _ _ _ _ _ _ _ _ _ _ _ _ _ _) (cellsOf encPt [pa, pb, pc]) rfl dd ?_; intro b36
  refine yw [_, _] rfl rfl call63 (Zj1 _ _ 3 3 1000 Kp [(ps.getD i (0, 0, 0)).1, (ps.getD i (0, 0, 0)).2.1, (ps.getD i (0, 0, 0)).2.2] [pa, pb, pc] (n3_K hpi) (l3_K ha hb hc) oo hKp ss ss) (ym rfl rfl (yp rfl (.eX rfl) (yp rfl (.eX rfl) (yz rfl Ja fun b13 => yz rfl Ja fun b14 => yt rfl rfl rfl Zp uu sizeOf64 rfl nb rfl ?_))))
  refine yt rfl rfl rfl Zp uu sizeOf64 rfl nb rfl ?_
  refine yn (yD Za [0, 1, 2, 3, 4, 5, 6, 7, 8] (Zc kk) (yd rfl rfl mr isAgg64 sizeOf64 Zh ?_))
  refine yd rfl rfl mr isAgg64 sizeOf64 Zh ?_
  refine ym rfl rfl (yd rfl rfl mr isAgg64 sizeOf64 Zh ?_)
  refine yd rfl rfl mr isAgg64 sizeOf64 Zh ?_
  refine yw [_, _, _] rfl rfl call64 (C_At p _ _ d K 18005 hq hd (Zqh (ps.getD i (0, 0, 0)) pa pb pc).1 (Zqh (ps.getD i (0, 0, 0)) pa pb pc).2 hmx.1 hmx.2 oo dd) (yv [_, _] rfl rfl call42 (Yh _ _ oo oo) ?_)
  have hl46 := Zx (ws.getD i 0) (evP p (Zqh (ps.getD i (0, 0, 0)) pa pb pc).1 (Zqh (ps.getD i (0, 0, 0)) pa pb pc).2)
  refine yv [_, _] rfl rfl call37 (Gc _ _ oo oo) ?_
  have hl47 := Qt (apN ps ws p pa pb pc i) ((ws.getD i 0) * (evP p (Zqh (ps.getD i (0, 0, 0)) pa pb pc).1 (Zqh (ps.getD i (0, 0, 0)) pa pb pc).2))
  refine yt rfl rfl rfl Zp uu sizeOf64 rfl nb rfl ?_
  refine yn (zr (zp (.pN (i + 1) (.add rfl rfl)) (zm rfl (zn ?_)))); intro a w h
  exact ⟨i + 1, ⟨oo, ((h.drop sl).factsSub (by simp)).sub sA⟩, oo⟩
 ·
  skip
  have heq_i : ws.length = i := dF hc23
  subst heq_i
  have hap := apK hws hps hq hd hK ha hb hc hKp hle hnw ws.length (Nat.le_refl _)
  have him := Nat.mul_le_mul_right 47001001 hnw
  refine gC h (ze (zs (yD Za [0, 1, 2, 4, 3, 5, 6] (Zc kk) (yd rfl rfl mr isAgg84 sizeOf84 Zk ?_)))); clear h
  refine yd rfl rfl mr isAgg84 sizeOf84 Zk ?_
  refine yd rfl rfl mr isAgg84 sizeOf84 Zk ?_
  refine yd rfl rfl mr isAgg64 sizeOf64 Zh ?_
  refine yv [_, _, _] rfl rfl call39 (Qdk pa pb pc Kp ha hb hc oo) (yv [_, _] rfl rfl call42 (Yh _ _ oo oo) ?_)
  have hl54 := Zx (twQ pa pb pc / ((2 : Int) : Rat)) (apN ps ws p pa pb pc ws.length)
  refine yt rfl rfl rfl Zp uu sizeOf64 rfl nb rfl ?_
  refine yn (zt ?_); intro a w h
  refine Jr h (Ze h rfl (.cell rfl mr isAgg64 sizeOf64 Zh)) ?_
  rfl
end
section
theorem Qk {c0 c1 c2 c3 : Value} : Qv true 4 #[c0, c1, c2, c3] 0 = some (.agg #[c0, c1, c2, c3]) := rfl
theorem Zx0 {d : Nat} (h1 : 1 ≤ d) (h6 : d ≤ 6) {p : List Tm} (hp : DL d p) (a b c : Pt) : Yw (Jq d) (Vs d) p a b c = Zpn p a b c := by
 obtain ⟨_, _, _, hf4, hf5, _⟩ := Zi5 d h6 h1
 exact Zfy hf4 hp (fun x hx => Zjc oo) a b c
theorem Zpl (n : Nat) (hn : n < 256) (l : List Ti) (ad : Option Addr) (c : Nat) (hokl : ∀ t ∈ l, OkT t) (hln : l.length ≤ 9223372036854775807) (qa : (Int × Int) × (Int × Int)) (qb : (Int × Int) × (Int × Int)) (qc : (Int × Int) × (Int × Int)) (hqa : OkP qa) (hqb : OkP qb) (hqc : OkP qc) : Ge Tryz.prog 6 [.int .u8 (n : Int), .slice ad l.length c, Zba qa, Zba qb, Zba qc] [Row ad (cellsOf Yv l)] (.bool true) := by
 obtain ⟨d, hd, h1, h6⟩ : ∃ d, d = 1 + n % 6 ∧ 1 ≤ d ∧ d ≤ 6 := ⟨_, rfl, oo, oo⟩
 obtain ⟨hf1, hf2, hf3, hf4, hf5, hf6, hf7, hf8⟩ := Zi5 d h6 h1
 have hKa := Zit hqa
 have hKb := Zit hqb
 have hKc := Zit hqc
 refine fn_intro func6 rfl ntmps6 nb ?_
 intro S w0 a hS h
 refine gC h (zS (zx rfl fun b7 => zx rfl fun b8 => zx rfl fun b9 => za rfl (zn (zs (zS (zm rfl (zp (.builtin [_] rfl (Vy _ _ _)) (zp (.gtr rfl rfl) ?_)))))))); clear h; intro a w h
 refine Zi h (fun hc17 h => ?_) (fun hc17 h => ?_)
 ·
  skip
  refine wpList_nil ?_
  refine cW ?_
  refine Qf h rfl ?_
  refine gC h (zS (zv [] rfl call14 (Xl) (za rfl (zn (zt ?_))))); clear h; intro a w h
  exact Zag h
 ·
  skip
  have hll : l.length ≤ 8 := dF hc17
  have hgx := Zg6 (d := d) hokl hll dd oo
  refine wpList_nil ?_
  refine cW ?_
  refine Zn h rfl ?_
  refine gC h (zk (zS (zm rfl (zp (.convert rfl (Zmi _ (wrap_i64 _ oo oo))) (zp (Pure1.cast (v' := .int .i64 ((n % 6 : Nat) : Int)) (.binOp rfl rfl (fun _ => Vm _ _ _ _ _ dd)) (by rw [show (6 : Int) = ((6 : Nat) : Int) from rfl, Yi])) (zp (.pO d (Pure1.cast (v' := (.int .i64 ((1 + (n % 6) : Nat) : Int))) (.add rfl rfl) (by show Value.int _ _ = Value.int _ _; congr 1))) (za rfl (zn (zS (zm rfl (zf [_] rfl call15 (Zc0 d h1 h6 (Ze1 d h6)) ?_))))))))))); rintro v25 Ψ25 ⟨ad1, c1, ad2, c2, rfl, rfl⟩
  refine zm rfl (zp (.eX rfl) (zp (.eX rfl) (zz zeroValue46 fun b12 => zt' rfl rfl Zq uu sizeOf46 rfl nb rfl ?_)))
  refine za rfl (zn (zS (zm rfl (zm rfl (zf [_, _] rfl call22 (Zk6 l _ _ d 8 (by assumption) oo oo) ?_))))); rintro v30 Ψ30 ⟨ad30, c30, rfl, rfl⟩ a w h
  obtain ⟨G, hnG⟩ : ∃ G, norm (Vr d l) = G := ⟨_, rfl⟩
  rw [hnG] at h hgx
  refine gL h (za rfl (zn (zs (yD Za [0, 1, 2, 3, 4, 5, 6, 7, 8, 9, 10, 12, 14, 17, 18, 20, 22, 11, 13, 15, 16, 19, 21, 23, 24, 25, 26, 27, 28, 29, 30] (Zc kk) (ym rfl rfl (yp rfl (.eql rfl rfl) ?_)))))); clear h
  refine Qe (fun hc32  => ?_) (fun hc32  => (absurd hc32 dd))
  refine ym rfl rfl (yg rfl rfl rfl rfl mr isAgg46 sizeOf46 Zg ?_)
  refine Jg rfl rfl rfl kk (vs := [_]) rfl call23 (Zf0 _ _ c1 c2 (Jq d) (Vs d) oo oo (Zst d h6)) ss dd ?_
  refine yq rfl rfl rfl (.eql rfl rfl) ?_
  refine Qe (fun hc36  => ?_) (fun hc36  => (by exfalso; rw [hf4] at hc36; exact absurd hc36 dd))
  refine yp rfl (.pickT rfl rfl) (ym rfl rfl (yg rfl rfl rfl rfl mr isAgg46 sizeOf46 Zg ?_))
  refine yq rfl rfl rfl (.move rfl) (yg rfl rfl rfl rfl mr isAgg30 sizeOf30 Qk ?_)
  refine yg rfl rfl rfl rfl mr isAgg30 sizeOf30 Qk ?_
  refine yg rfl rfl rfl rfl mr isAgg30 sizeOf30 Qk ?_
  refine yq rfl rfl rfl (.move rfl) (yg rfl rfl rfl rfl mr isAgg30 sizeOf30 Qk ?_)
  refine yg rfl rfl rfl rfl mr isAgg30 sizeOf30 Qk ?_
  refine yg rfl rfl rfl rfl mr isAgg30 sizeOf30 Qk ?_
  refine Jw rfl rfl rfl kk (vs := [_]) rfl call25 (Zfe qa (by assumption)) dd ?_
  refine Jw rfl rfl rfl kk (vs := [_]) rfl call25 (Zfe qb (by assumption)) dd ?_
  refine Jw rfl rfl rfl kk (vs := [_]) rfl call25 (Zfe qc (by assumption)) dd ?_
  refine Jg rfl rfl rfl kk (vs := [_, _, _, _, _]) rfl call24 (Zf1 _ _ _ c1 c2 _ d 41 4 (Jq d) (Vs d) G (ptv qa) (ptv qb) (ptv qc) oo oo (Zst d h6) (Zss d h6) hgx oo dd hKa hKb hKc dd hf4) ss dd ?_
  refine Jw rfl rfl rfl kk (vs := [_]) rfl call25 (Zfe qa (by assumption)) dd ?_
  refine Jw rfl rfl rfl kk (vs := [_]) rfl call25 (Zfe qb (by assumption)) dd ?_
  refine Jw rfl rfl rfl kk (vs := [_]) rfl call25 (Zfe qc (by assumption)) dd ?_
  refine Jg rfl rfl rfl kk (vs := [_, _, _, _]) rfl call26 (C_Tri G _ _ d 41 4 hgx oo (ptv qa) (ptv qb) (ptv qc) hKa hKb hKc dd dd) ss dd ?_
  refine yq rfl rfl rfl (.binOp rfl rfl (fun _ => Ks _ _ (Yw (Jq d) (Vs d) G (ptv qa) (ptv qb) (ptv qc)) (Zpn G (ptv qa) (ptv qb) (ptv qc)) _)) ?_
  refine Qe (fun hc56  => ?_) (fun hc56  => (absurd (Zx0 h1 h6 hgx.deg (ptv qa) (ptv qb) (ptv qc)) (of_decide_eq_false hc56)))
  refine yp rfl (.pickT rfl rfl) (ym rfl rfl ?_)
  refine Jw rfl rfl rfl kk (vs := []) rfl call14 (Xl) dd ?_
  refine yp rfl (.pickT rfl rfl) (yp rfl (.assign rfl) (yn (zt ?_))); intro a w h
  exact Zag h
end
section
theorem Zdk (x0_0 : Value) (x0_1 : Value) (x0_2 : Value) (x0_3 : Value) (x0_4 : Value) (x1_0 : Value) (x1_1 : Value) (x1_2 : Value) (x1_3 : Value) (x1_4 : Value) (w : World) : (Instr.buildSlice 44 2 [(0, .agg #[x0_0, x0_1, x0_2, x0_3, x0_4]), (1, .agg #[x1_0, x1_1, x1_2, x1_3, x1_4])].toArray).run Tryz.prog w = .ok (.slice (some ⟨w.heap.size, 0, none⟩) 2 2) (w.alloc (.cells #[x0_0, x0_1, x0_2, x0_3, x0_4, x1_0, x1_1, x1_2, x1_3, x1_4] 64 (0, 0))) := by
 simp [go_sem]
theorem Zcf (x0_0 : Value) (x0_1 : Value) (x0_2 : Value) (x0_3 : Value) (x0_4 : Value) (x0_5 : Value) (x0_6 : Value) (x0_7 : Value) (x0_8 : Value) (x0_9 : Value) (x1_0 : Value) (x1_1 : Value) (x1_2 : Value) (x1_3 : Value) (x1_4 : Value) (x1_5 : Value) (x1_6 : Value) (x1_7 : Value) (x1_8 : Value) (x1_9 : Value) (w : World) : (Instr.buildSlice 165 2 [(0, .agg #[x0_0, x0_1, x0_2, x0_3, x0_4, x0_5, x0_6, x0_7, x0_8, x0_9]), (1, .agg #[x1_0, x1_1, x1_2, x1_3, x1_4, x1_5, x1_6, x1_7, x1_8, x1_9])].toArray).run Tryz.prog w = .ok (.slice (some ⟨w.heap.size, 0, none⟩) 2 2) (w.alloc (.cells #[x0_0, x0_1, x0_2, x0_3, x0_4, x0_5, x0_6, x0_7, x0_8, x0_9, x1_0, x1_1, x1_2, x1_3, x1_4, x1_5, x1_6, x1_7, x1_8, x1_9] 84 (0, 0))) := by
 simp [go_sem]
theorem Qcp {Kp : Nat} {t : Rat} {a b : Pt} (h : Qa t ≤ 1000) (ha : PtK Kp a) (hb : PtK Kp b) (hKp : Kp ≤ 3000) : (∀ z ∈ [((1 : Int) : Rat) - t, t], Qa z ≤ 1010) ∧ PtK 18005 (Zfd t a b) := by
 have h1 := Qo 1 dd dd
 have h2 := Xu ((1 : Int) : Rat) t
 have hn : ∀ z ∈ [((1 : Int) : Rat) - t, t], Qa z ≤ 1010 := n2_K oo oo
 exact ⟨hn, mixK hn (l2_K ha hb) oo hKp ss ss ss⟩
theorem apLK {Kp d K : Nat} {ats ws : List Rat} {p : List Tm} {a b : Pt} (hw : ∀ x ∈ ws, Qa x ≤ 1000) (hats : ∀ x ∈ ats, Qa x ≤ 1000) (hq : Pq d K p) (hd : d ≤ 12) (hK : K ≤ 300000)
  (ha : PtK Kp a) (hb : PtK Kp b) (hKp : Kp ≤ 3000) (hle : ats.length = ws.length) : ∀ n, n ≤ ws.length → Qa (Zo6 ats ws p a b n) ≤ 2 + n * 47001001
 | 0, _ => by rw [Zo6]; have := Xs; omega
 | n + 1, h => by
  have ih := apLK hw hats hq hd hK ha hb hKp hle n oo
  have h1 := ev_K hq hd hK (Qcp (hats _ (getD_mem ats (d := 0) (show n < ats.length by omega))) ha hb hKp).2
  have h2 := hw _ (getD_mem ws (d := 0) (show n < ws.length by omega))
  have h3 := Zx (ws.getD n 0) (evP p (Zfd (ats.getD n 0) a b).1 (Zfd (ats.getD n 0) a b).2)
  have h4 := Qt (Zo6 ats ws p a b n) (ws.getD n 0 * evP p (Zfd (ats.getD n 0) a b).1 (Zfd (ats.getD n 0) a b).2)
  rw [Zo6, Nat.add_mul]; omega
theorem Zw8 : ∀ d, d ≤ 8 → 1 ≤ d → Zuc (Zz (Gm d) (d + 1)) (Zz (Gq d) (d + 1)) = ((d + 1 - d % 2 : Nat) : Int) := by decide +kernel
theorem line_law {d e : Nat} (h1 : 1 ≤ d) (h8 : d ≤ 8) (he : e = d + 1 - d % 2) {p : List Tm} (hp : DL e p) (a b : Pt) : Zo6 (Zz (Gm d) (d + 1)) (Zz (Gq d) (d + 1)) p a b (Zz (Gq d) (d + 1)).length = Qck p a b :=
 Zo5 hp (fun x hx => Qax (by rw [Zw8 d h8 h1]; omega)) a b
theorem cl_E {p : Prop} [Decidable p] (h : p) (hc : decide p = false) : False := absurd h (of_decide_eq_false hc)
theorem Zrr (ad1 ad2 ad : Option Addr) (c1 c2 c d K Kp : Nat) (ats ws : List Rat) (p : List Tm) (pa pb : Pt) (hnw : ws.length ≤ 100) (hats : ∀ x ∈ ats, Qa x ≤ 1000) (hws : ∀ x ∈ ws, Qa x ≤ 1000) (hq : Pq d K p) (hd : d ≤ 12) (hK : K ≤ 300000) (ha : PtK Kp pa) (hb : PtK Kp pb) (hKp : Kp ≤ 3000) (hle : ats.length = ws.length) : Ge Tryz.prog 28 [.agg #[.slice ad1 ats.length c1, .slice ad2 ws.length c2], .slice ad p.length c, encPt pa, encPt pb] [Row ad1 (cellsOf Zv ats), Row ad2 (cellsOf Zv ws), Row ad (cellsOf Jb p)] (Zv (Zo6 ats ws p pa pb ws.length)) := by
 obtain ⟨ha1, ha2⟩ := ha
 obtain ⟨hb1, hb2⟩ := hb
 have ha : PtK Kp pa := ⟨ha1, ha2⟩
 have hb : PtK Kp pb := ⟨hb1, hb2⟩
 refine fn_intro func28 rfl ntmps28 nb ?_
 intro S w0 a hS h
 refine gC h (zS (zx rfl fun b4 => zx rfl fun b6 => zx rfl fun b7 => zz Ja fun b8 => zn (zs (zS (zp (.fA rfl Xi) (zd rfl mr isAgg44 sizeOf44 Ql ?_))))))
 refine zp (.builtin [_] rfl (Zw _ _ _)) (zp (.fA rfl Kv) (zd rfl mr isAgg44 sizeOf44 Qi ?_))
 refine zp (.builtin [_] rfl (Zw _ _ _)) (zp (.neq rfl rfl) ?_); intro a w h
 refine Zi h (fun hc19 h => (by exfalso; exact Zdd hc19 hle)) (fun hc19 h => ?_)
 refine wpList_nil ?_
 refine cW ?_
 refine Zn h rfl ?_
 refine gC h (zk (zs (zS (zp (.fA rfl Kv) (zd rfl mr isAgg44 sizeOf44 Qi ?_)))))
 refine zp (.builtin [_] rfl (Zw _ _ _)) (zm rfl (zn (zb ?_))); intro a w h
 refine Zd (fun (i : Nat) a w => i ≤ ws.length ∧ St 59 S w0 [(1, .slice ad p.length c), (4, pB b4), (6, pB b6), (7, pB b7), (8, pB b8), (22, .slice ad2 ws.length c2), (23, nI ws.length), (24, nI i)] [(b8, bV (Zv (Zo6 ats ws p pa pb i)) 64), (b7, bV (Zak pb.1 pb.2) 84), (b6, bV (Zak pa.1 pa.2) 84), (b4, bV (.agg #[.slice ad1 ats.length c1, .slice ad2 ws.length c2]) 53)] [Row ad1 (cellsOf Zv ats), Row ad2 (cellsOf Zv ws), Row ad (cellsOf Jb p)] a w) (fun i => ws.length - i) 0 (⟨Nat.zero_le _, by exact (h).sub sA⟩) ?_; clear h
 rintro i a w ⟨hi_i, h⟩
 refine gC h (zS (zp (.lss rfl rfl) (zn (zs ?_)))); clear h; intro a w h
 refine Zb h rfl (fun hc25 => ?_) (fun hc25 => ?_)
 ·
  skip
  have hlt_i : i < ws.length := dT hc25
  have hi2 : i < ats.length := oo
  obtain ⟨B_ad2, O_ad2, rfl⟩ := h.row_addr (ad := ad2) (M := cellsOf Zv ws) mm (nE 5)
  obtain ⟨B_ad1, O_ad1, rfl⟩ := h.row_addr (ad := ad1) (M := cellsOf Zv ats) mm (nE 5)
  have hti := hats _ (getD_mem ats (d := 0) hi2)
  have hwi := hws _ (getD_mem ws (d := 0) hlt_i)
  obtain ⟨hmn, hmx⟩ := Qcp hti ha hb hKp
  have hev := ev_K hq hd hK hmx
  have hap := apLK hws hats hq hd hK ha hb hKp hle i oo
  have him := Nat.mul_le_mul_right 47001001 (show i ≤ 100 by omega)
  have h1l := Qo 1 dd dd
  refine gC h (zk (zs (zb (zS (zm rfl (zp (.indexAddr rfl rfl (Km _ _ _ _ _ oo)) (zD rfl mm (cells_lt (k := 5) dd (fun _ => rfl) ws i oo) isAgg64 sizeOf64 (Zm (k := 5) (fun _ => rfl) ((fun _ => rfl)) ws 0 i oo) (.inl rfl) ?_)))))))
  refine zz Ja fun b10 => za rfl (zt' rfl rfl Zp uu sizeOf64 rfl nb rfl ?_)
  refine zn (zs (yD Za [1, 2, 3, 4, 5, 7, 8, 9, 10, 11, 13, 14, 0, 6, 12, 15, 16, 17, 18, 19, 20, 21, 22, 23] (Jy ⟨.inl rfl, .inl rfl, .inl rfl, .inl rfl, .inl rfl, .inl rfl, .inl rfl, .inl rfl, .inl rfl, .inl rfl, .inl rfl, .inl rfl, .inl rfl, .inl rfl, .inl rfl, .inl rfl, .inl rfl, .inl rfl, .inl rfl, .inl rfl, .inr ⟨11, 64, _, _, _, rfl, rfl, by decide, _, Ja⟩, .inr ⟨12, 64, _, _, _, rfl, rfl, by decide, _, Ja⟩, .inl rfl, .inl rfl, trivial⟩) (yp rfl (.fA rfl Xi) (yd rfl rfl mr isAgg44 sizeOf44 Ql ?_))))
  refine ym rfl rfl (yp rfl (.indexAddr rfl rfl (Km _ _ _ _ _ oo)) ?_)
  refine Zj rfl kk rfl mm (cells_lt (k := 5) dd (fun _ => rfl) ats i oo) isAgg64 sizeOf64 (Zm (k := 5) (fun _ => rfl) ((fun _ => rfl)) ats 0 i oo) (.inl rfl) dd ?_
  refine yp rfl (.fA rfl Xi) (yd rfl rfl mr isAgg44 sizeOf44 Ql ?_)
  refine ym rfl rfl (yp rfl (.indexAddr rfl rfl (Km _ _ _ _ _ oo)) ?_)
  refine Zj rfl kk rfl mm (cells_lt (k := 5) dd (fun _ => rfl) ats i oo) isAgg64 sizeOf64 (Zm (k := 5) (fun _ => rfl) ((fun _ => rfl)) ats 0 i oo) (.inl rfl) dd ?_
  refine yd rfl rfl mr isAgg84 sizeOf84 Zk ?_
  refine yd rfl rfl mr isAgg84 sizeOf84 Zk ?_
  refine Zef 15 [6, 12, 16, 17, 18, 19, 20, 21, 22, 23] rfl rfl kk dd ?_ ?_
  ·
   refine Zku (vs := [_]) rfl rfl call31 (Vg _ oo oo) dd ?_
   have hl30 := Qo (1) oo oo
   refine Zef 15 [12, 16, 17, 18, 19, 20, 21, 22, 23] rfl rfl kk dd ?_ ?_
   ·
    refine Zku (vs := [_, _]) rfl rfl call45 (Zfj _ _ oo oo) dd ?_
    have hl36 := Xu (((1 : Int) : Rat)) (ats.getD i 0)
    refine Zef 15 [16, 17, 18, 19, 20, 21, 22, 23] rfl rfl kk dd ?_ ?_
    ·
     refine Vb hS rfl [(_, _), (_, _)] rfl (Zdk _ _ _ _ _ _ _ _ _ _) (cellsOf Zv [((1 : Int) : Rat) - (ats.getD i 0), (ats.getD i 0)]) rfl dd ?_; intro b42
     refine Jv hS rfl kk [(_, _), (_, _)] rfl (Zcf _ _ _ _ _ _ _ _ _ _ _ _ _ _ _ _ _ _ _ _) (cellsOf encPt [pa, pb]) rfl dd ?_; intro b45
     refine yw [_, _] rfl rfl call63 (Zj1 _ _ 2 2 1010 Kp [((1 : Int) : Rat) - (ats.getD i 0), (ats.getD i 0)] [pa, pb] hmn (l2_K ha hb) oo hKp ss ss) (ym rfl rfl (yp rfl (.eX rfl) (yp rfl (.eX rfl) (yz rfl Ja fun b11 => yz rfl Ja fun b12 => yt rfl rfl rfl Zp uu sizeOf64 rfl nb rfl ?_))))
     refine yt rfl rfl rfl Zp uu sizeOf64 rfl nb rfl ?_
     refine yn (yD Za [0, 1, 2, 3, 4, 5, 6, 7, 8] (Zc kk) (yd rfl rfl mr isAgg64 sizeOf64 Zh ?_))
     refine yd rfl rfl mr isAgg64 sizeOf64 Zh ?_
     refine ym rfl rfl (yd rfl rfl mr isAgg64 sizeOf64 Zh ?_)
     refine yd rfl rfl mr isAgg64 sizeOf64 Zh ?_
     refine yw [_, _, _] rfl rfl call64 (C_At p _ _ d K 18005 hq hd (Zfd (ats.getD i 0) pa pb).1 (Zfd (ats.getD i 0) pa pb).2 hmx.1 hmx.2 oo dd) (yv [_, _] rfl rfl call42 (Yh _ _ oo oo) ?_)
     have hl55 := Zx (ws.getD i 0) (evP p (Zfd (ats.getD i 0) pa pb).1 (Zfd (ats.getD i 0) pa pb).2)
     refine yv [_, _] rfl rfl call37 (Gc _ _ oo oo) ?_
     have hl56 := Qt (Zo6 ats ws p pa pb i) ((ws.getD i 0) * (evP p (Zfd (ats.getD i 0) pa pb).1 (Zfd (ats.getD i 0) pa pb).2))
     refine yt rfl rfl rfl Zp uu sizeOf64 rfl nb rfl ?_
     refine yn (zr (zp (.pN (i + 1) (.add rfl rfl)) (zm rfl (zn ?_)))); intro a w h
     exact ⟨i + 1, ⟨oo, ((h.drop sl).factsSub (by simp)).sub sA⟩, oo⟩
    ·
     refine Vb hS rfl [(_, _), (_, _)] rfl (Zcf _ _ _ _ _ _ _ _ _ _ _ _ _ _ _ _ _ _ _ _) (cellsOf encPt [pa, pb]) rfl dd ?_; intro b45
     refine Jv hS rfl kk [(_, _), (_, _)] rfl (Zdk _ _ _ _ _ _ _ _ _ _) (cellsOf Zv [((1 : Int) : Rat) - (ats.getD i 0), (ats.getD i 0)]) rfl dd ?_; intro b42
     refine yw [_, _] rfl rfl call63 (Zj1 _ _ 2 2 1010 Kp [((1 : Int) : Rat) - (ats.getD i 0), (ats.getD i 0)] [pa, pb] hmn (l2_K ha hb) oo hKp ss ss) (ym rfl rfl (yp rfl (.eX rfl) (yp rfl (.eX rfl) (yz rfl Ja fun b11 => yz rfl Ja fun b12 => yt rfl rfl rfl Zp uu sizeOf64 rfl nb rfl ?_))))
     refine yt rfl rfl rfl Zp uu sizeOf64 rfl nb rfl ?_
     refine yn (yD Za [0, 1, 2, 3, 4, 5, 6, 7, 8] (Zc kk) (yd rfl rfl mr isAgg64 sizeOf64 Zh ?_))
     refine yd rfl rfl mr isAgg64 sizeOf64 Zh ?_
     refine ym rfl rfl (yd rfl rfl mr isAgg64 sizeOf64 Zh ?_)
     refine yd rfl rfl mr isAgg64 sizeOf64 Zh ?_
     refine yw [_, _, _] rfl rfl call64 (C_At p _ _ d K 18005 hq hd (Zfd (ats.getD i 0) pa pb).1 (Zfd (ats.getD i 0) pa pb).2 hmx.1 hmx.2 oo dd) (yv [_, _] rfl rfl call42 (Yh _ _ oo oo) ?_)
     have hl55 := Zx (ws.getD i 0) (evP p (Zfd (ats.getD i 0) pa pb).1 (Zfd (ats.getD i 0) pa pb).2)
     refine yv [_, _] rfl rfl call37 (Gc _ _ oo oo) ?_
     have hl56 := Qt (Zo6 ats ws p pa pb i) ((ws.getD i 0) * (evP p (Zfd (ats.getD i 0) pa pb).1 (Zfd (ats.getD i 0) pa pb).2))
     refine yt rfl rfl rfl Zp uu sizeOf64 rfl nb rfl ?_
     refine yn (zr (zp (.pN (i + 1) (.add rfl rfl)) (zm rfl (zn ?_)))); intro a w h
     exact ⟨i + 1, ⟨oo, ((h.drop sl).factsSub (by simp)).sub sA⟩, oo⟩
   ·
    refine Vb hS rfl [(_, _), (_, _)] rfl (Zcf _ _ _ _ _ _ _ _ _ _ _ _ _ _ _ _ _ _ _ _) (cellsOf encPt [pa, pb]) rfl dd ?_; intro b45
    refine yv [_, _] rfl rfl call45 (Zfj _ _ oo oo) ?_
    have hl36 := Xu (((1 : Int) : Rat)) (ats.getD i 0)
    refine Jv hS rfl kk [(_, _), (_, _)] rfl (Zdk _ _ _ _ _ _ _ _ _ _) (cellsOf Zv [((1 : Int) : Rat) - (ats.getD i 0), (ats.getD i 0)]) rfl dd ?_; intro b42
    refine yw [_, _] rfl rfl call63 (Zj1 _ _ 2 2 1010 Kp [((1 : Int) : Rat) - (ats.getD i 0), (ats.getD i 0)] [pa, pb] hmn (l2_K ha hb) oo hKp ss ss) (ym rfl rfl (yp rfl (.eX rfl) (yp rfl (.eX rfl) (yz rfl Ja fun b11 => yz rfl Ja fun b12 => yt rfl rfl rfl Zp uu sizeOf64 rfl nb rfl ?_))))
    refine yt rfl rfl rfl Zp uu sizeOf64 rfl nb rfl ?_
    refine yn (yD Za [0, 1, 2, 3, 4, 5, 6, 7, 8] (Zc kk) (yd rfl rfl mr isAgg64 sizeOf64 Zh ?_))
    refine yd rfl rfl mr isAgg64 sizeOf64 Zh ?_
    refine ym rfl rfl (yd rfl rfl mr isAgg64 sizeOf64 Zh ?_)
    refine yd rfl rfl mr isAgg64 sizeOf64 Zh ?_
    refine yw [_, _, _] rfl rfl call64 (C_At p _ _ d K 18005 hq hd (Zfd (ats.getD i 0) pa pb).1 (Zfd (ats.getD i 0) pa pb).2 hmx.1 hmx.2 oo dd) (yv [_, _] rfl rfl call42 (Yh _ _ oo oo) ?_)
    have hl55 := Zx (ws.getD i 0) (evP p (Zfd (ats.getD i 0) pa pb).1 (Zfd (ats.getD i 0) pa pb).2)
    refine yv [_, _] rfl rfl call37 (Gc _ _ oo oo) ?_
    have hl56 := Qt (Zo6 ats ws p pa pb i) ((ws.getD i 0) * (evP p (Zfd (ats.getD i 0) pa pb).1 (Zfd (ats.getD i 0) pa pb).2))
    refine yt rfl rfl rfl Zp uu sizeOf64 rfl nb rfl ?_
    refine yn (zr (zp (.pN (i + 1) (.add rfl rfl)) (zm rfl (zn ?_)))); intro a w h
    exact ⟨i + 1, ⟨oo, ((h.drop sl).factsSub (by simp)).sub sA⟩, oo⟩
  ·
   refine Vb hS rfl [(_, _), (_, _)] rfl (Zcf _ _ _ _ _ _ _ _ _ _ _ _ _ _ _ _ _ _ _ _) (cellsOf encPt [pa, pb]) rfl dd ?_; intro b45
   refine yv [_] rfl rfl call31 (Vg _ oo oo) ?_
   have hl30 := Qo (1) oo oo
   refine yv [_, _] rfl rfl call45 (Zfj _ _ oo oo) ?_
   have hl36 := Xu (((1 : Int) : Rat)) (ats.getD i 0)
   refine Jv hS rfl kk [(_, _), (_, _)] rfl (Zdk _ _ _ _ _ _ _ _ _ _) (cellsOf Zv [((1 : Int) : Rat) - (ats.getD i 0), (ats.getD i 0)]) rfl dd ?_; intro b42
   refine yw [_, _] rfl rfl call63 (Zj1 _ _ 2 2 1010 Kp [((1 : Int) : Rat) - (ats.getD i 0), (ats.getD i 0)] [pa, pb] hmn (l2_K ha hb) oo hKp ss ss) (ym rfl rfl (yp rfl (.eX rfl) (yp rfl (.eX rfl) (yz rfl Ja fun b11 => yz rfl Ja fun b12 => yt rfl rfl rfl Zp uu sizeOf64 rfl nb rfl ?_))))
   refine yt rfl rfl rfl Zp uu sizeOf64 rfl nb rfl ?_
   refine yn (yD Za [0, 1, 2, 3, 4, 5, 6, 7, 8] (Zc kk) (yd rfl rfl mr isAgg64 sizeOf64 Zh ?_))
   refine yd rfl rfl mr isAgg64 sizeOf64 Zh ?_
   refine ym rfl rfl (yd rfl rfl mr isAgg64 sizeOf64 Zh ?_)
   refine yd rfl rfl mr isAgg64 sizeOf64 Zh ?_
   refine yw [_, _, _] rfl rfl call64 (C_At p _ _ d K 18005 hq hd (Zfd (ats.getD i 0) pa pb).1 (Zfd (ats.getD i 0) pa pb).2 hmx.1 hmx.2 oo dd) (yv [_, _] rfl rfl call42 (Yh _ _ oo oo) ?_)
   have hl55 := Zx (ws.getD i 0) (evP p (Zfd (ats.getD i 0) pa pb).1 (Zfd (ats.getD i 0) pa pb).2)
   refine yv [_, _] rfl rfl call37 (Gc _ _ oo oo) ?_
   have hl56 := Qt (Zo6 ats ws p pa pb i) ((ws.getD i 0) * (evP p (Zfd (ats.getD i 0) pa pb).1 (Zfd (ats.getD i 0) pa pb).2))
   refine yt rfl rfl rfl Zp uu sizeOf64 rfl nb rfl ?_
   refine yn (zr (zp (.pN (i + 1) (.add rfl rfl)) (zm rfl (zn ?_)))); intro a w h
   exact ⟨i + 1, ⟨oo, ((h.drop sl).factsSub (by simp)).sub sA⟩, oo⟩
 ·
  skip
  have heq_i : ws.length = i := dF hc25
  subst heq_i
  refine gC h (ze (zS (zd rfl mr isAgg64 sizeOf64 Zh ?_)))
  refine zt' rfl rfl Zp uu sizeOf64 rfl nb rfl ?_; intro a w h
  refine wpList_nil (wp_ret ?_)
  refine Jr h (Ze h rfl (.cell rfl mr isAgg64 sizeOf64 Zh)) ?_
  rfl
theorem Zpj (n : Nat) (hn : n < 256) (l : List Ti) (ad : Option Addr) (c : Nat) (hokl : ∀ t ∈ l, OkT t) (hln : l.length ≤ 9223372036854775807) (qa : (Int × Int) × (Int × Int)) (qb : (Int × Int) × (Int × Int)) (hqa : OkP qa) (hqb : OkP qb) : Ge Tryz.prog 7 [.int .u8 (n : Int), .slice ad l.length c, Zba qa, Zba qb] [Row ad (cellsOf Yv l)] (.bool true) := by
 obtain ⟨d, hd, h1, h6⟩ : ∃ d, d = 1 + n % 8 ∧ 1 ≤ d ∧ d ≤ 8 := ⟨_, rfl, oo, oo⟩
 obtain ⟨e, he, he9⟩ : ∃ e, e = d + 1 - d % 2 ∧ e ≤ 9 := ⟨_, rfl, oo⟩
 have hT := Zw8 d h6 h1
 rw [← he] at hT
 have hlA := Zs (Gm d) (d + 1)
 have hlW := Zs (Gq d) (d + 1)
 have hKa := Zit hqa
 have hKb := Zit hqb
 refine fn_intro func7 rfl ntmps7 nb ?_
 intro S w0 a hS h
 refine gC h (zS (zx rfl fun b6 => zx rfl fun b7 => za rfl (zn (zs (zS (zm rfl (zp (.builtin [_] rfl (Vy _ _ _)) (zp (.gtr rfl rfl) ?_)))))))); clear h; intro a w h
 refine Zi h (fun hc16 h => ?_) (fun hc16 h => ?_)
 ·
  skip
  refine wpList_nil ?_
  refine cW ?_
  refine Qf h rfl ?_
  refine gC h (zS (zv [] rfl call14 (Xl) (za rfl (zn (zt ?_))))); clear h; intro a w h
  exact Zag h
 ·
  skip
  have hll : l.length ≤ 8 := dF hc16
  have hgx := Zg6 (d := e) hokl hll dd oo
  refine wpList_nil ?_
  refine cW ?_
  refine Zn h rfl ?_
  refine gC h (zk (zS (zm rfl (zp (.convert rfl (Zmi _ (wrap_i64 _ oo oo))) (zp (Pure1.cast (v' := .int .i64 ((n % 8 : Nat) : Int)) (.binOp rfl rfl (fun _ => Vm _ _ _ _ _ dd)) (by rw [show (8 : Int) = ((8 : Nat) : Int) from rfl, Yi])) (zp (.pO d (Pure1.cast (v' := (.int .i64 ((1 + (n % 8) : Nat) : Int))) (.add rfl rfl) (by show Value.int _ _ = Value.int _ _; congr 1))) (za rfl (zn (zS (zm rfl (zf [_] rfl call16 (Zj8 d h1 h6 (Zyf d h6)) ?_))))))))))); rintro v24 Ψ24 ⟨ad1, c1, ad2, c2, rfl, rfl⟩
  refine zm rfl (zp (.eX rfl) (zp (.eX rfl) (zz zeroValue53 fun b10 => zt' rfl rfl Zq uu sizeOf53 rfl nb rfl ?_)))
  refine za rfl (zn (zS (zm rfl (zp (.pN (d + 1) (.add rfl rfl)) (zm rfl (zp (Pure1.cast (v' := .int .i64 ((d % 2 : Nat) : Int)) (.binOp rfl rfl (fun _ => Vm _ _ _ _ _ dd)) (by rw [show (2 : Int) = ((2 : Nat) : Int) from rfl, Yi])) (zp (.pO e (.sub rfl rfl)) (za rfl (zn (zS (zm rfl (zm rfl (zf [_, _] rfl call22 (Zk6 l _ _ e 8 (by assumption) oo oo) ?_))))))))))))); rintro v34 Ψ34 ⟨ad34, c34, rfl, rfl⟩ a w h
  obtain ⟨G, hnG⟩ : ∃ G, norm (Vr e l) = G := ⟨_, rfl⟩
  rw [hnG] at h hgx
  refine gL h (za rfl (zn (zs (yD Za [0, 1, 2, 3, 5, 4, 6, 7, 8, 9, 10, 11, 13, 16, 17, 19, 12, 14, 15, 18, 20, 21, 22, 23, 24, 25, 26, 27] (Zc kk) (ym rfl rfl (yp rfl (.eql rfl rfl) ?_)))))); clear h
  refine Qe (fun hc36  => ?_) (fun hc36  => (absurd hc36 dd))
  refine ym rfl rfl (yg rfl rfl rfl rfl mr isAgg53 sizeOf53 Zg ?_)
  refine yq rfl rfl rfl (.move rfl) ?_
  refine Jg rfl rfl rfl kk (vs := [_]) rfl call27 (Zj7 _ _ c1 c2 (Zz (Gm d) (d + 1)) (Zz (Gq d) (d + 1)) oo (Zqn d h6) (Zqm d h6) oo) ss dd ?_
  refine yq rfl rfl rfl (.eql rfl rfl) ?_
  refine Qe (fun hc41  => ?_) (fun hc41  => (by exfalso; exact cl_E hT hc41))
  refine yp rfl (.pickT rfl rfl) (ym rfl rfl (yg rfl rfl rfl rfl mr isAgg53 sizeOf53 Zg ?_))
  refine yq rfl rfl rfl (.move rfl) (yg rfl rfl rfl rfl mr isAgg30 sizeOf30 Qk ?_)
  refine yg rfl rfl rfl rfl mr isAgg30 sizeOf30 Qk ?_
  refine yq rfl rfl rfl (.move rfl) (yg rfl rfl rfl rfl mr isAgg30 sizeOf30 Qk ?_)
  refine yg rfl rfl rfl rfl mr isAgg30 sizeOf30 Qk ?_
  refine Jw rfl rfl rfl kk (vs := [_]) rfl call25 (Zfe qa (by assumption)) dd ?_
  refine Jw rfl rfl rfl kk (vs := [_]) rfl call25 (Zfe qb (by assumption)) dd ?_
  refine Jg rfl rfl rfl kk (vs := [_, _, _, _]) rfl call28 (Zrr _ _ _ c1 c2 _ e 41 4 (Zz (Gm d) (d + 1)) (Zz (Gq d) (d + 1)) G (ptv qa) (ptv qb) oo (Zqn d h6) (Zqm d h6) hgx oo dd hKa hKb dd oo) ss dd ?_
  refine Jw rfl rfl rfl kk (vs := [_]) rfl call25 (Zfe qa (by assumption)) dd ?_
  refine Jw rfl rfl rfl kk (vs := [_]) rfl call25 (Zfe qb (by assumption)) dd ?_
  refine Jg rfl rfl rfl kk (vs := [_, _, _]) rfl call29 (C_Seg G _ _ e 41 4 hgx oo (ptv qa) (ptv qb) hKa hKb dd dd dd) ss dd ?_
  refine yq rfl rfl rfl (.binOp rfl rfl (fun _ => Ks _ _ (Zo6 (Zz (Gm d) (d + 1)) (Zz (Gq d) (d + 1)) G (ptv qa) (ptv qb) (Zz (Gq d) (d + 1)).length) (Qck G (ptv qa) (ptv qb)) _)) ?_
  refine Qe (fun hc57  => ?_) (fun hc57  => (by exfalso; exact cl_E (line_law h1 h6 he hgx.deg (ptv qa) (ptv qb)) hc57))
  refine yp rfl (.pickT rfl rfl) (ym rfl rfl ?_)
  refine Jw rfl rfl rfl kk (vs := []) rfl call14 (Xl) dd ?_
  refine yp rfl (.pickT rfl rfl) (yp rfl (.assign rfl) (yn (zt ?_))); intro a w h
  exact Zag h
end
section
theorem Qc7 {Kp d K : Nat} {ps : List (Rat × Rat × Rat)} {ws : List Rat} {p : List Tm} {a b c : Pt} (hw : ∀ x ∈ ws, Qa x ≤ 1000) (hps : ∀ p ∈ ps, Qa p.1 ≤ 1000 ∧ Qa p.2.1 ≤ 1000 ∧ Qa p.2.2 ≤ 1000) (hq : Pq d K p) (hd : d ≤ 12) (hK : K ≤ 300000)
  (ha : PtK Kp a) (hb : PtK Kp b) (hc : PtK Kp c) (hKp : Kp ≤ 3000) (hle : ps.length = ws.length) (hn : ws.length ≤ 20) : Qa (Yw ps ws p a b c) ≤ 1000000000 := by
 have h1 := apK hw hps hq hd hK ha hb hc hKp hle oo ws.length (Nat.le_refl _)
 have h2 := Qc6 ha hb hc
 have h3 := Zx (twQ a b c / ((2 : Int) : Rat)) (apN ps ws p a b c ws.length)
 have h4 := Nat.mul_le_mul_right 47001001 hn
 unfold Yw; omega
theorem one_Pq : Pq 0 4 (norm Zns) := by
 have h : Pq 0 4 Zns := ⟨fun t ht => by rw [Zns, List.mem_singleton] at ht; subst ht; exact Nat.le_refl 0, by decide, (Hb.of_KL (k := 2) (fun t ht => by rw [Zns, List.mem_singleton] at ht; subst ht; exact Gd)).mono dd⟩
 exact h.nrm dd
theorem C_cone : Ctr Tryz.prog 38 [Zv ((1 : Int) : Rat)] [] (fun v Ψ => ∃ ad' c', v = .slice ad' (norm Zns).length c' ∧ Ψ = [Row ad' (cellsOf Jb (norm Zns))]) := Zts ((1 : Int) : Rat) 2 Gd dd
theorem clo_E {p : Prop} [Decidable p] (h : p) (hc : decide p = false) : False := absurd h (of_decide_eq_false hc)
theorem clo_N {p : Prop} [Decidable p] (h : p) (hc : (!decide p) = true) : False := by rw [decide_eq_true h] at hc; cases hc
theorem sgn_ne {x : Rat} (h : decide (x.num.sign = 0) = false) : x ≠ 0 := fun e => by rw [e] at h; exact absurd h dd
theorem Zvp {ps : List (Rat × Rat × Rat)} {ws : List Rat} {e : Nat} (hc : Kq ps ws = 0) (he : Ga ps ws = (e : Int)) (a b c : Pt) : Yw ps ws (norm Zns) a b c = twQ a b c / ((2 : Int) : Rat) := by
 rw [Zfy (d := 0) hc one_Pq.deg (fun x hx => Zjc oo) a b c, Zz8 (Eqv.nrm Zns) a b c, Zz6]
theorem Zfz (ww : List ((Int × Int) × (Int × Int) × (Int × Int))) (l m : List Ti) (ad0 ad ad2 : Option Addr) (c0 c c2 : Nat) (hokw : ∀ q ∈ flW ww, OkQ q) (hokl : ∀ t ∈ l, OkT t) (hokm : ∀ t ∈ m, OkT t) (hwn : ww.length ≤ 9223372036854775807) (hln : l.length ≤ 9223372036854775807) (hmn : m.length ≤ 9223372036854775807) (qa : (Int × Int) × (Int × Int)) (qb : (Int × Int) × (Int × Int)) (qc : (Int × Int) × (Int × Int)) (hqa : OkP qa) (hqb : OkP qb) (hqc : OkP qc) : Ge Tryz.prog 10 [.slice ad0 ww.length c0, .slice ad l.length c, .slice ad2 m.length c2, Zba qa, Zba qb, Zba qc] [Row ad0 (cellsOf Zat ww), Row ad (cellsOf Yv l), Row ad2 (cellsOf Yv m)] (.bool true) := by
 have hKa := Zit hqa
 have hKb := Zit hqb
 have hKc := Zit hqc
 refine fn_intro func10 rfl ntmps10 nb ?_
 intro S w0 a hS h
 refine gC h (zS (zx rfl fun b9 => zx rfl fun b10 => zx rfl fun b11 => za rfl (zn (zs (zS (zm rfl (zp (.builtin [_] rfl (Ji _ _ _)) (zp (.gtr rfl rfl) ?_)))))))); clear h; intro a w h
 refine Zi h (fun hc25 h => ?_) (fun hc25 h => ?_)
 ·
  skip
  refine gL h (zm rfl (zo 26 rfl rfl rfl (zo 26 rfl rfl rfl (zo 26 rfl rfl rfl (zp (.pickT rfl rfl) (zm rfl (zo 31 rfl rfl rfl (zo 31 rfl rfl rfl (zo 31 rfl rfl rfl (zp (.pickT rfl rfl) (zn ?_))))))))))); clear h; intro a w h
  refine cW ?_
  refine Qf h rfl ?_
  refine gC h (zS (zv [] rfl call14 (Xl) (za rfl (zn (zt ?_))))); clear h; intro a w h
  exact Zag h
 ·
  skip
  refine gL h (zm rfl (zq 26 rfl rfl (.move rfl) (zq 26 rfl rfl (.builtin [_] rfl (Vy _ _ _)) (zq 26 rfl rfl (.gtr rfl rfl) ?_)))); clear h; intro a w h
  refine Zi h (fun hc29 h => ?_) (fun hc29 h => ?_)
  ·
   skip
   refine gL h (zp (.pickF rfl rfl) (zm rfl (zo 31 rfl rfl rfl (zo 31 rfl rfl rfl (zo 31 rfl rfl rfl (zp (.pickT rfl rfl) (zn ?_))))))); clear h; intro a w h
   refine cW ?_
   refine Qf h rfl ?_
   refine gC h (zS (zv [] rfl call14 (Xl) (za rfl (zn (zt ?_))))); clear h; intro a w h
   exact Zag h
  ·
   skip
   refine gL h (zp (.pickF rfl rfl) (zm rfl (zq 31 rfl rfl (.move rfl) (zq 31 rfl rfl (.builtin [_] rfl (Vy _ _ _)) (zq 31 rfl rfl (.gtr rfl rfl) ?_))))); clear h; intro a w h
   refine Zi h (fun hc34 h => ?_) (fun hc34 h => ?_)
   ·
    skip
    refine gL h (zp (.pickF rfl rfl) (zn ?_)); clear h; intro a w h
    refine cW ?_
    refine Qf h rfl ?_
    refine gC h (zS (zv [] rfl call14 (Xl) (za rfl (zn (zt ?_))))); clear h; intro a w h
    exact Zag h
   ·
    skip
    have hwl : ww.length ≤ 7 := dF hc25
    have hll : l.length ≤ 6 := dF hc29
    have hml : m.length ≤ 6 := dF hc34
    have hgx := Zg6 (d := 4) hokl hll dd dd
    have hgy := Zg6 (d := 4) hokm hml dd dd
    have hfl := Zhc ww
    obtain ⟨P, hP⟩ : ∃ P, P = Zz (Gx (flW ww)) ww.length := ⟨_, rfl⟩
    obtain ⟨W, hW⟩ : ∃ W, W = Zz (Zai (flW ww)) ww.length := ⟨_, rfl⟩
    have hlP : P.length = ww.length := by rw [hP, Zs]
    have hlW : W.length = ww.length := by rw [hW, Zs]
    have hch : Kq P W = 0 := by rw [hP, hW]; exact Kz _ _
    have hsP : ∀ p ∈ P, Qa p.1 ≤ 1000 ∧ Qa p.2.1 ≤ 1000 ∧ Qa p.2.2 ≤ 1000 := by rw [hP]; exact Vz hokw oo
    have hsW : ∀ x ∈ W, Qa x ≤ 1000 := by rw [hW]; exact Zaa hokw oo
    have hrange := Zoj P W
    refine gL h (zp (.pickF rfl rfl) (zn ?_)); clear h; intro a w h
    refine cW ?_
    refine Zn h rfl ?_
    refine gC h (zk (zS (zm rfl (zf [_] rfl call13 (Zhx _ _ ww hokw oo) ?_)))); clear h; rintro v38 Ψ38 ⟨ad38, c38, bd38, d38, rfl, rfl⟩ a w h
    rw [← hP, ← hW] at h
    refine gL h (zz zeroValue46 fun b13 => zt' rfl rfl Zq uu sizeOf46 rfl nb rfl ?_)
    refine zn (zs (yD Za [0, 2, 4, 1, 3, 5, 6, 7, 8, 9, 10, 11] (Jy ⟨.inl rfl, .inl rfl, .inl rfl, .inl rfl, .inl rfl, .inl rfl, .inr ⟨14, 84, _, _, _, rfl, rfl, by decide, _, Vu⟩, .inr ⟨15, 84, _, _, _, rfl, rfl, by decide, _, Vu⟩, .inr ⟨16, 84, _, _, _, rfl, rfl, by decide, _, Vu⟩, .inl rfl, .inl rfl, .inl rfl, trivial⟩) (yd rfl rfl mr isAgg30 sizeOf30 Qk ?_)))
    refine yd rfl rfl mr isAgg30 sizeOf30 Qk ?_
    refine yd rfl rfl mr isAgg30 sizeOf30 Qk ?_
    refine yv [_] rfl rfl call25 (Zfe qa (by assumption)) (yv [_] rfl rfl call25 (Zfe qb (by assumption)) (yv [_] rfl rfl call25 (Zfe qc (by assumption)) (yz rfl Vu fun b14 => yz rfl Vu fun b15 => yz rfl Vu fun b16 => yt rfl rfl rfl Ya uu sizeOf84 rfl nb rfl ?_)))
    refine yt rfl rfl rfl Ya uu sizeOf84 rfl nb rfl ?_
    refine yt rfl rfl rfl Ya uu sizeOf84 rfl nb rfl ?_
    refine yn (zS (zm rfl (zf [_, _] rfl call22 (Zk6 l _ _ 4 8 (by assumption) oo oo) ?_))); rintro v46 Ψ46 ⟨ad46, c46, rfl, rfl⟩
    refine zm rfl (zf [_, _] rfl call22 (Zk6 m _ _ 4 8 (by assumption) oo oo) ?_); rintro v48 Ψ48 ⟨ad48, c48, rfl, rfl⟩ a w h
    obtain ⟨G, hnG⟩ : ∃ G, norm (Vr 4 l) = G := ⟨_, rfl⟩
    rw [hnG] at h hgx
    obtain ⟨H, hnH⟩ : ∃ G, norm (Vr 4 m) = G := ⟨_, rfl⟩
    rw [hnH] at h hgy
    have hlG : Qa (Yw P W G (ptv qa) (ptv qb) (ptv qc)) ≤ 1000000000 := Qc7 hsW hsP hgx dd dd hKa hKb hKc dd oo oo
    have hlH : Qa (Yw P W H (ptv qa) (ptv qb) (ptv qc)) ≤ 1000000000 := Qc7 hsW hsP hgy dd dd hKa hKb hKc dd oo oo
    refine gL h (za rfl (za rfl (zn (zs (zs (yD Za [0, 1, 2, 4, 5, 6, 8, 9, 10, 11, 12, 14, 15, 16, 17, 18, 3, 7, 13, 19, 20, 21] (Zc kk) (yd rfl rfl mr isAgg46 sizeOf46 Zg ?_))))))); clear h
    refine ym rfl rfl (ym rfl rfl (yd rfl rfl mr isAgg84 sizeOf84 Zk ?_))
    refine yd rfl rfl mr isAgg84 sizeOf84 Zk ?_
    refine yd rfl rfl mr isAgg84 sizeOf84 Zk ?_
    refine yd rfl rfl mr isAgg46 sizeOf46 Zg ?_
    refine ym rfl rfl (yd rfl rfl mr isAgg84 sizeOf84 Zk ?_)
    refine yd rfl rfl mr isAgg84 sizeOf84 Zk ?_
    refine yd rfl rfl mr isAgg84 sizeOf84 Zk ?_
    refine yd rfl rfl mr isAgg46 sizeOf46 Zg ?_
    refine ym rfl rfl (yd rfl rfl mr isAgg84 sizeOf84 Zk ?_)
    refine yd rfl rfl mr isAgg84 sizeOf84 Zk ?_
    refine yd rfl rfl mr isAgg84 sizeOf84 Zk ?_
    refine yf [_, _] rfl rfl call36 (Zzi G H _ _ _ _ 4 4 31 31 hgx hgy dd dd dd dd) ?_; rintro v52 Ψ52 ⟨ad52, c52, rfl, rfl⟩
    refine yw [_, _, _, _, _] rfl rfl call24 (Zf1 _ _ _ c38 d38 _ 4 64 4 P W (norm (G ++ H)) (ptv qa) (ptv qb) (ptv qc) oo oo hsP hsW (hgx.add hgy dd dd) oo dd hKa hKb hKc dd hch) (yw [_, _, _, _, _] rfl rfl call24 (Zf1 _ _ _ c38 d38 _ 4 31 4 P W G (ptv qa) (ptv qb) (ptv qc) oo oo hsP hsW hgx oo dd hKa hKb hKc dd hch) (yw [_, _, _, _, _] rfl rfl call24 (Zf1 _ _ _ c38 d38 _ 4 31 4 P W H (ptv qa) (ptv qb) (ptv qc) oo oo hsP hsW hgy oo dd hKa hKb hKc dd hch) (yv [_, _] rfl rfl call37 (Gc _ _ oo oo) ?_)))
    have hl69 := Qt (Yw P W G (ptv qa) (ptv qb) (ptv qc)) (Yw P W H (ptv qa) (ptv qb) (ptv qc))
    refine yp rfl (.binOp rfl rfl (fun _ => Kr _ _ (Yw P W (norm (G ++ H)) (ptv qa) (ptv qb) (ptv qc)) ((Yw P W G (ptv qa) (ptv qb) (ptv qc)) + (Yw P W H (ptv qa) (ptv qb) (ptv qc))) _)) ?_
    refine Qe (fun hc70  => (by exfalso; exact clo_N (Zyu G H P W (ptv qa) (ptv qb) (ptv qc)) hc70)) (fun hc70  => ?_)
    refine yn ?_; intro a w h
    refine cW ?_
    refine Zn h rfl ?_
    refine gC h (zk (zS (zd rfl mr isAgg46 sizeOf46 Zg ?_)))
    refine zw [_] rfl call12 (Za3 _ _ c38 d38 P W oo oo hsP hsW hch) (za rfl (zn (zS (zv [_] rfl call31 (Vg _ oo oo) ?_))))
    have hl73 := Qo (1) oo oo
    refine zf [_] rfl call38 (C_cone) ?_; rintro v74 Ψ74 ⟨ad74, c74, rfl, rfl⟩
    refine za rfl (zn (zS (zd rfl mr isAgg84 sizeOf84 Zk ?_)))
    refine zd rfl mr isAgg84 sizeOf84 Zk ?_
    refine zd rfl mr isAgg84 sizeOf84 Zk ?_
    refine zv [_, _, _] rfl call39 (Qdk (ptv qa) (ptv qb) (ptv qc) 4 hKa hKb hKc dd) (zz Ja fun b21 => zt' rfl rfl Zp uu sizeOf64 rfl nb rfl ?_)
    refine zn (zs (zS (zm rfl (zp (.lss rfl rfl) ?_)))); intro a w h
    refine Zi h (fun hc80 h => ?_) (fun hc80 h => ?_)
    ·
     skip
     have hneg : Ga P W < 0 := of_decide_eq_true hc80
     refine wpList_nil ?_
     refine cW ?_
     refine Qf h rfl ?_
     refine gC h (zs (yD Za [0, 1, 2, 3, 4, 5, 6, 7, 8, 10, 9, 11, 12, 13, 14, 15, 16] (Zc kk) (yd rfl rfl mr isAgg64 sizeOf64 Zh ?_))); clear h
     refine yv [_] rfl rfl call40 (Zj6 _) (yp rfl (.eql rfl rfl) ?_)
     refine Qe (fun hc83  => ?_) (fun hc83  => ?_)
     ·
      skip
      refine ym rfl rfl (yo 84 rfl rfl rfl rfl (yo 84 rfl rfl rfl rfl (yo 84 rfl rfl rfl rfl (yo 84 rfl rfl rfl rfl (yo 84 rfl rfl rfl rfl (yo 84 rfl rfl rfl rfl (yo 84 rfl rfl rfl rfl (yo 84 rfl rfl rfl rfl (yp rfl (.pickT rfl rfl) (ym rfl rfl ?_))))))))))
      refine Jw rfl rfl rfl kk (vs := []) rfl call14 (Xl) dd ?_
      refine yp rfl (.pickT rfl rfl) (yp rfl (.assign rfl) (yn (zt ?_))); intro a w h
      exact Zag h
     ·
      skip
      refine ym rfl rfl (yg rfl rfl rfl rfl mr isAgg46 sizeOf46 Zg ?_)
      refine yq rfl rfl rfl (.move rfl) (yg rfl rfl rfl rfl mr isAgg84 sizeOf84 Zk ?_)
      refine yg rfl rfl rfl rfl mr isAgg84 sizeOf84 Zk ?_
      refine yg rfl rfl rfl rfl mr isAgg84 sizeOf84 Zk ?_
      refine yg rfl rfl rfl rfl mr isAgg64 sizeOf64 Zh ?_
      refine Jg rfl rfl rfl kk (vs := [_, _, _, _, _]) rfl call24 (Zf1 _ _ _ c38 d38 _ 0 4 4 P W (norm Zns) (ptv qa) (ptv qb) (ptv qc) oo oo hsP hsW one_Pq oo dd hKa hKb hKc dd hch) ss dd ?_
      refine yq rfl rfl rfl (.binOp rfl rfl (fun _ => Kr _ _ (Yw P W (norm Zns) (ptv qa) (ptv qb) (ptv qc)) (twQ (ptv qa) (ptv qb) (ptv qc) / ((2 : Int) : Rat)) _)) ?_
      refine Qe (fun hc92  => ?_) (fun hc92  => (by exfalso; exact Zo3 hneg (ptv qa) (ptv qb) (ptv qc) (sgn_ne hc83) (by simpa using hc92)))
      refine yp rfl (.pickF rfl rfl) (ym rfl rfl ?_)
      refine Jw rfl rfl rfl kk (vs := []) rfl call14 (Xl) dd ?_
      refine yp rfl (.pickT rfl rfl) (yp rfl (.assign rfl) (yn (zt ?_))); intro a w h
      exact Zag h
    ·
     skip
     have hpos := of_decide_eq_false hc80
     obtain ⟨e, hex⟩ : ∃ e : Nat, Ga P W = (e : Int) := ⟨(Ga P W).toNat, oo⟩
     rw [hex] at h
     have hgz := Zg6 (d := e) hokl hll dd oo
     refine wpList_nil ?_
     refine cW ?_
     refine Zn h rfl ?_
     refine gC h (zk (zS (zm rfl (zm rfl (zf [_, _] rfl call22 (Zk6 l _ _ e 8 (by assumption) oo oo) ?_))))); clear h; rintro v99 Ψ99 ⟨ad99, c99, rfl, rfl⟩ a w h
     obtain ⟨G2, hnG2⟩ : ∃ G, norm (Vr e l) = G := ⟨_, rfl⟩
     rw [hnG2] at h hgz
     refine gL h (za rfl (zn (zs (yD Za [0, 1, 2, 3, 4, 6, 7, 8, 9, 5, 10, 11, 12, 13, 14, 15, 16, 17, 19, 18, 20, 21, 22, 23, 24, 25] (Zc kk) (yd rfl rfl mr isAgg46 sizeOf46 Zg ?_))))); clear h
     refine ym rfl rfl (yd rfl rfl mr isAgg84 sizeOf84 Zk ?_)
     refine yd rfl rfl mr isAgg84 sizeOf84 Zk ?_
     refine yd rfl rfl mr isAgg84 sizeOf84 Zk ?_
     refine ym rfl rfl (yd rfl rfl mr isAgg84 sizeOf84 Zk ?_)
     refine yd rfl rfl mr isAgg84 sizeOf84 Zk ?_
     refine yd rfl rfl mr isAgg84 sizeOf84 Zk ?_
     refine yw [_, _, _, _, _] rfl rfl call24 (Zf1 _ _ _ c38 d38 _ e 31 4 P W G2 (ptv qa) (ptv qb) (ptv qc) oo oo hsP hsW hgz oo dd hKa hKb hKc dd hch) (yw [_, _, _, _] rfl rfl call26 (C_Tri G2 _ _ e 31 4 hgz oo (ptv qa) (ptv qb) (ptv qc) hKa hKb hKc dd dd) (yp rfl (.binOp rfl rfl (fun _ => Ks _ _ (Yw P W G2 (ptv qa) (ptv qb) (ptv qc)) (Zpn G2 (ptv qa) (ptv qb) (ptv qc)) _)) ?_))
     refine Qe (fun hc111  => ?_) (fun hc111  => (by exfalso; exact clo_E (Zfy hch hgz.deg (fun x hx => Zjc oo) (ptv qa) (ptv qb) (ptv qc)) hc111))
     refine ym rfl rfl (yg rfl rfl rfl rfl mr isAgg46 sizeOf46 Zg ?_)
     refine yq rfl rfl rfl (.move rfl) (yg rfl rfl rfl rfl mr isAgg84 sizeOf84 Zk ?_)
     refine yg rfl rfl rfl rfl mr isAgg84 sizeOf84 Zk ?_
     refine yg rfl rfl rfl rfl mr isAgg84 sizeOf84 Zk ?_
     refine yg rfl rfl rfl rfl mr isAgg64 sizeOf64 Zh ?_
     refine Jg rfl rfl rfl kk (vs := [_, _, _, _, _]) rfl call24 (Zf1 _ _ _ c38 d38 _ 0 4 4 P W (norm Zns) (ptv qa) (ptv qb) (ptv qc) oo oo hsP hsW one_Pq oo dd hKa hKb hKc dd hch) ss dd ?_
     refine yq rfl rfl rfl (.binOp rfl rfl (fun _ => Ks _ _ (Yw P W (norm Zns) (ptv qa) (ptv qb) (ptv qc)) (twQ (ptv qa) (ptv qb) (ptv qc) / ((2 : Int) : Rat)) _)) ?_
     refine Qe (fun hc120  => ?_) (fun hc120  => (by exfalso; exact clo_E (Zvp hch hex (ptv qa) (ptv qb) (ptv qc)) hc120))
     refine yp rfl (.pickT rfl rfl) (ym rfl rfl ?_)
     refine Jw rfl rfl rfl kk (vs := []) rfl call14 (Xl) dd ?_
     refine yp rfl (.pickT rfl rfl) (yp rfl (.assign rfl) (yn (zt ?_))); intro a w h
     exact Zag h
end
section
def Zy3 (T : List (Int × Int)) (n : Nat) (σ : List (Nat × Obj)) (Φ : List Qn) (v : Value) (σ' : List (Nat × Obj)) (Φ' : List Qn) : Prop :=
 ∃ (ad1 : Option Addr) (c1 : Nat) (o1 : List (Nat × Obj)) (ad2 : Option Addr) (c2 : Nat) (o2 : List (Nat × Obj)), v = .agg #[.slice ad1 (Zz (Gx T) n).length c1, .slice ad2 (Zz (Zai T) n).length c2] ∧
  GrowO 15 77 (.slice ad1 (Zz (Gx T) n).length c1) (Zz (Gx T) n).length (cellsOf Gb (Zz (Gx T) n)) o1 ∧ GrowO 5 64 (.slice ad2 (Zz (Zai T) n).length c2) (Zz (Zai T) n).length (cellsOf Zv (Zz (Zai T) n)) o2 ∧ σ' = o1 ++ (o2 ++ σ) ∧ Φ' = Φ
theorem Zm0 (ad : Option Addr) (c : Nat) (l : List ((Int × Int) × (Int × Int) × (Int × Int))) (σ : List (Nat × Obj)) (Φf : List Qn) (hok : ∀ q ∈ flW l, OkQ q) (hn : l.length ≤ 1000) : Zm4 Tryz.prog 13 [.slice ad l.length c] σ (Row ad (cellsOf Za9 (flW l)) :: Φf) (Zy3 (flW l) l.length σ (Row ad (cellsOf Za9 (flW l)) :: Φf)) := by
 refine fn_introM func13 rfl ntmps13 nb ?_
 intro S w0 a w hS h
 have hfl := Zhc l
 refine gC h (zS (zz zeroValue46 fun b2 => zn (zS (zz zeroValue46 fun b3 => zn (zs (zS (za rfl (zn (zb ?_))))))))); clear h; intro a w h
 refine Zd (fun (i : Nat) a w => i ≤ l.length ∧ ∃ (ad1 : Option Addr) (c1 : Nat) (o1 : List (Nat × Obj)) (ad2 : Option Addr) (c2 : Nat) (o2 : List (Nat × Obj)), (GrowO 15 77 (.slice ad1 (Zz (Gx (flW l)) i).length c1) (Zz (Gx (flW l)) i).length (cellsOf Gb (Zz (Gx (flW l)) i)) o1 ∧ GrowO 5 64 (.slice ad2 (Zz (Zai (flW l)) i).length c2) (Zz (Zai (flW l)) i).length (cellsOf Zv (Zz (Zai (flW l)) i)) o2) ∧ St 50 S w0 [(0, .slice ad l.length c), (2, pB b2), (3, pB b3), (4, nI i)] (o2 ++ (o1 ++ ((b3, bV (.agg #[(.slice ad1 (Zz (Gx (flW l)) i).length c1), (.slice ad2 (Zz (Zai (flW l)) i).length c2)]) 46) :: ((b2, bV (.agg #[.slice none 0 0, .slice none 0 0]) 46) :: σ)))) (Row ad (cellsOf Za9 (flW l)) :: Φf) a w) (fun i => l.length - i) 0 (⟨Nat.zero_le _, none, 0, [], none, 0, [], ⟨GrowO.nil _ _, GrowO.nil _ _⟩, by exact (h).sub sA⟩) ?_; clear h
 rintro i a w ⟨hi_i, ad1, c1, o1, ad2, c2, o2, ⟨hG1, hG2⟩, h⟩
 refine gC h (zs (zS (zm rfl (zm rfl (zp (.builtin [_] rfl (Ji _ _ _)) (zp (.lss rfl rfl) (zn ?_))))))); clear h; intro a w h
 refine cW ?_
 refine Zb h rfl (fun hc10 => ?_) (fun hc10 => ?_)
 ·
  skip
  have hlt_i : i < l.length := dT hc10
  obtain ⟨B_ad, O_ad, rfl⟩ := h.row_addr (ad := ad) (M := cellsOf Za9 (flW l)) mm (nE 2)
  obtain ⟨hq0a, hq0b, hq0c, hq0d⟩ := hok _ (getD_mem (flW l) (i := 3 * i + 0) (d := (0, 0)) oo)
  obtain ⟨hq1a, hq1b, hq1c, hq1d⟩ := hok _ (getD_mem (flW l) (i := 3 * i + 1) (d := (0, 0)) oo)
  obtain ⟨hq2a, hq2b, hq2c, hq2d⟩ := hok _ (getD_mem (flW l) (i := 3 * i + 2) (d := (0, 0)) oo)
  have hg1 := Zs (Gx (flW l)) i
  have hg2 := Zs (Zai (flW l)) i
  refine gC h (zk (zs (zb (zs (yD Za [0, 1, 2, 3, 4, 6, 7, 8, 9, 10, 5, 11, 12, 13, 14, 15] (Jy ⟨.inl rfl, .inl rfl, .inl rfl, .inl rfl, .inl rfl, .inl rfl, .inl rfl, .inl rfl, .inl rfl, .inl rfl, .inl rfl, .inl rfl, .inr ⟨5, 64, _, _, _, rfl, rfl, by decide, _, Ja⟩, .inr ⟨6, 64, _, _, _, rfl, rfl, by decide, _, Ja⟩, .inl rfl, .inl rfl, trivial⟩) (ym rfl rfl (ym rfl rfl (yp rfl (.indexAddr rfl rfl (Zft _ _ _ _ _ oo)) (yp rfl (Pure1.cast (v' := .pointer (some ⟨B_ad, O_ad + (3 * i + 0) * 2, none⟩)) (.fA rfl Zdi) (by rw [show O_ad + i * 6 + 0 = O_ad + (3 * i + 0) * 2 by omega])) ?_))))))))); clear h
  refine Zj rfl kk rfl mm (cells_lt (k := 2) dd (fun _ => rfl) (flW l) (3 * i + 0) oo) isAgg24 sizeOf24 (Zm (k := 2) (fun _ => rfl) ((fun _ => rfl)) (flW l) (0, 0) (3 * i + 0) oo) (.inl rfl) dd ?_
  refine ym rfl rfl (ym rfl rfl (yp rfl (.indexAddr rfl rfl (Zft _ _ _ _ _ oo)) (yp rfl (Pure1.cast (v' := .pointer (some ⟨B_ad, O_ad + (3 * i + 1) * 2, none⟩)) (.fA rfl Zq4) (by rw [show O_ad + i * 6 + 2 = O_ad + (3 * i + 1) * 2 by omega])) ?_)))
  refine Zj rfl kk rfl mm (cells_lt (k := 2) dd (fun _ => rfl) (flW l) (3 * i + 1) oo) isAgg24 sizeOf24 (Zm (k := 2) (fun _ => rfl) ((fun _ => rfl)) (flW l) (0, 0) (3 * i + 1) oo) (.inl rfl) dd ?_
  refine yv [_] rfl rfl call41 (Zes (((flW l).getD (3 * i + 0) (0, 0)).1) (((flW l).getD (3 * i + 0) (0, 0)).2) oo oo oo oo) ?_
  have hl18 := Yd (((flW l).getD (3 * i + 0) (0, 0)).1) (((flW l).getD (3 * i + 0) (0, 0)).2) oo oo oo oo
  refine yv [_] rfl rfl call41 (Zes (((flW l).getD (3 * i + 1) (0, 0)).1) (((flW l).getD (3 * i + 1) (0, 0)).2) oo oo oo oo) ?_
  have hl24 := Yd (((flW l).getD (3 * i + 1) (0, 0)).1) (((flW l).getD (3 * i + 1) (0, 0)).2) oo oo oo oo
  refine yz rfl Ja fun b5 => yz rfl Ja fun b6 => yt rfl rfl rfl Zp uu sizeOf64 rfl nb rfl ?_
  refine yt rfl rfl rfl Zp uu sizeOf64 rfl nb rfl ?_
  refine yn (zs (yD Za [0, 1, 2, 3, 5, 7, 4, 6, 8, 9, 10, 11, 12, 13] (Zc kk) (yp rfl (.fA rfl Xc) (yd rfl rfl mr isAgg43 sizeOf43 Ql ?_))))
  refine yd rfl rfl mr isAgg64 sizeOf64 Zh ?_
  refine yd rfl rfl mr isAgg64 sizeOf64 Zh ?_
  refine yd rfl rfl mr isAgg64 sizeOf64 Zh ?_
  refine yd rfl rfl mr isAgg64 sizeOf64 Zh ?_
  refine yv [_] rfl rfl call31 (Vg _ oo oo) ?_
  have hl29 := Qo (1) oo oo
  refine yv [_, _] rfl rfl call45 (Zfj _ _ oo oo) ?_
  have hl31 := Xu (((1 : Int) : Rat)) (qv (((flW l).getD (3 * i + 0) (0, 0)).1) (((flW l).getD (3 * i + 0) (0, 0)).2))
  refine yv [_, _] rfl rfl call45 (Zfj _ _ oo oo) ?_
  have hl33 := Xu ((((1 : Int) : Rat)) - (qv (((flW l).getD (3 * i + 0) (0, 0)).1) (((flW l).getD (3 * i + 0) (0, 0)).2))) (qv (((flW l).getD (3 * i + 1) (0, 0)).1) (((flW l).getD (3 * i + 1) (0, 0)).2))
  refine yp rfl (.build [(_, _), (_, _), (_, _)] rfl (Kg _ _ _ _ _ _ _ _ _ _ _ _ _ _ _)) (yB rfl [(_, _)] rfl (Zcy _ _ _ _ _ _ _ _ _ _ _ _ _ _ _) fun b35 => ?_)
  refine Qm (σr := ((b6, bV (Zv (qv (((flW l).getD (3 * i + 1) (0, 0)).1) (((flW l).getD (3 * i + 1) (0, 0)).2))) 64) :: ((b5, bV (Zv (qv (((flW l).getD (3 * i + 0) (0, 0)).1) (((flW l).getD (3 * i + 0) (0, 0)).2))) 64) :: (o2 ++ ((b3, bV (.agg #[(.slice ad1 (Zz (Gx (flW l)) i).length c1), (.slice ad2 (Zz (Zai (flW l)) i).length c2)]) 46) :: ((b2, bV (.agg #[.slice none 0 0, .slice none 0 0]) 46) :: σ)))))) rfl kk rfl rfl (List.Perm.trans (List.Perm.refl _) (List.Perm.cons _ (Zbv (Zbv (Zd9 (List.Perm.refl _)))))) hG1 runUnderlying43 runUnderlying43 typeInfo77 sizeOf77 Zpp rfl dd dd rfl rfl dd (by show 168 * (2 * ((Zz (Gx (flW l)) i).length + 1) + 192) ≤ 281474976710656; omega) dd ?_
  intro v36 o36 hG36
  obtain ⟨ad36, c36, rfl⟩ := hG36.is
  have hLn36 : (Zz (Gx (flW l)) i).length + 1 = ((Zz (Gx (flW l)) i) ++ [(qv (((flW l).getD (3 * i + 0) (0, 0)).1) (((flW l).getD (3 * i + 0) (0, 0)).2), qv (((flW l).getD (3 * i + 1) (0, 0)).1) (((flW l).getD (3 * i + 1) (0, 0)).2), ((((1 : Int) : Rat)) - (qv (((flW l).getD (3 * i + 0) (0, 0)).1) (((flW l).getD (3 * i + 0) (0, 0)).2))) - (qv (((flW l).getD (3 * i + 1) (0, 0)).1) (((flW l).getD (3 * i + 1) (0, 0)).2)))]).length := lA
  rw [hLn36]; rw [hLn36] at hG36
  replace hG36 : GrowO 15 77 (.slice ad36 ((Zz (Gx (flW l)) i) ++ [(qv (((flW l).getD (3 * i + 0) (0, 0)).1) (((flW l).getD (3 * i + 0) (0, 0)).2), qv (((flW l).getD (3 * i + 1) (0, 0)).1) (((flW l).getD (3 * i + 1) (0, 0)).2), ((((1 : Int) : Rat)) - (qv (((flW l).getD (3 * i + 0) (0, 0)).1) (((flW l).getD (3 * i + 0) (0, 0)).2))) - (qv (((flW l).getD (3 * i + 1) (0, 0)).1) (((flW l).getD (3 * i + 1) (0, 0)).2)))]).length c36) ((Zz (Gx (flW l)) i) ++ [(qv (((flW l).getD (3 * i + 0) (0, 0)).1) (((flW l).getD (3 * i + 0) (0, 0)).2), qv (((flW l).getD (3 * i + 1) (0, 0)).1) (((flW l).getD (3 * i + 1) (0, 0)).2), ((((1 : Int) : Rat)) - (qv (((flW l).getD (3 * i + 0) (0, 0)).1) (((flW l).getD (3 * i + 0) (0, 0)).2))) - (qv (((flW l).getD (3 * i + 1) (0, 0)).1) (((flW l).getD (3 * i + 1) (0, 0)).2)))]).length (cellsOf Gb ((Zz (Gx (flW l)) i) ++ [(qv (((flW l).getD (3 * i + 0) (0, 0)).1) (((flW l).getD (3 * i + 0) (0, 0)).2), qv (((flW l).getD (3 * i + 1) (0, 0)).1) (((flW l).getD (3 * i + 1) (0, 0)).2), ((((1 : Int) : Rat)) - (qv (((flW l).getD (3 * i + 0) (0, 0)).1) (((flW l).getD (3 * i + 0) (0, 0)).2))) - (qv (((flW l).getD (3 * i + 1) (0, 0)).1) (((flW l).getD (3 * i + 1) (0, 0)).2)))])) o36 := by rw [Zo, Qb]; exact hG36
  refine yp rfl (.fA rfl Xc) (yt rfl rfl rfl Zao uu sizeOf43 rfl nb (by show ((flat ((.slice ad36 ((Zz (Gx (flW l)) i) ++ [(qv (((flW l).getD (3 * i + 0) (0, 0)).1) (((flW l).getD (3 * i + 0) (0, 0)).2), qv (((flW l).getD (3 * i + 1) (0, 0)).1) (((flW l).getD (3 * i + 1) (0, 0)).2), ((((1 : Int) : Rat)) - (qv (((flW l).getD (3 * i + 0) (0, 0)).1) (((flW l).getD (3 * i + 0) (0, 0)).2))) - (qv (((flW l).getD (3 * i + 1) (0, 0)).1) (((flW l).getD (3 * i + 1) (0, 0)).2)))]).length c36)) && true)) = true; simp only [GrowO.flat (hG36)]; rfl) ?_)
  refine yn (yD Za [0, 1, 2, 3, 4, 5, 6, 7, 8, 9, 10, 11] (Zc kk) (yp rfl (.fA rfl Qx) (yd rfl rfl mr isAgg44 sizeOf44 Qi ?_)))
  refine ym rfl rfl (ym rfl rfl (yp rfl (.indexAddr rfl rfl (Zft _ _ _ _ _ oo)) (yp rfl (Pure1.cast (v' := .pointer (some ⟨B_ad, O_ad + (3 * i + 2) * 2, none⟩)) (.fA rfl Zq3) (by rw [show O_ad + i * 6 + 4 = O_ad + (3 * i + 2) * 2 by omega])) ?_)))
  refine Zj rfl kk rfl mm (cells_lt (k := 2) dd (fun _ => rfl) (flW l) (3 * i + 2) oo) isAgg24 sizeOf24 (Zm (k := 2) (fun _ => rfl) ((fun _ => rfl)) (flW l) (0, 0) (3 * i + 2) oo) (.inl rfl) dd ?_
  refine yv [_] rfl rfl call41 (Zes (((flW l).getD (3 * i + 2) (0, 0)).1) (((flW l).getD (3 * i + 2) (0, 0)).2) oo oo oo oo) ?_
  have hl45 := Yd (((flW l).getD (3 * i + 2) (0, 0)).1) (((flW l).getD (3 * i + 2) (0, 0)).2) oo oo oo oo
  refine yB rfl [(_, _)] rfl (Xb _ _ _ _ _) fun b46 => ?_
  refine Qm (σr := (o36 ++ ((b6, bV (Zv (qv (((flW l).getD (3 * i + 1) (0, 0)).1) (((flW l).getD (3 * i + 1) (0, 0)).2))) 64) :: ((b5, bV (Zv (qv (((flW l).getD (3 * i + 0) (0, 0)).1) (((flW l).getD (3 * i + 0) (0, 0)).2))) 64) :: ((b3, bV (.agg #[(.slice ad36 ((Zz (Gx (flW l)) i) ++ [(qv (((flW l).getD (3 * i + 0) (0, 0)).1) (((flW l).getD (3 * i + 0) (0, 0)).2), qv (((flW l).getD (3 * i + 1) (0, 0)).1) (((flW l).getD (3 * i + 1) (0, 0)).2), ((((1 : Int) : Rat)) - (qv (((flW l).getD (3 * i + 0) (0, 0)).1) (((flW l).getD (3 * i + 0) (0, 0)).2))) - (qv (((flW l).getD (3 * i + 1) (0, 0)).1) (((flW l).getD (3 * i + 1) (0, 0)).2)))]).length c36), (.slice ad2 (Zz (Zai (flW l)) i).length c2)]) 46) :: ((b2, bV (.agg #[.slice none 0 0, .slice none 0 0]) 46) :: σ)))))) rfl kk rfl rfl (List.Perm.trans (List.Perm.refl _) (List.Perm.cons _ (Zd9 (Zbv (Zbv (List.Perm.refl _)))))) hG2 runUnderlying44 runUnderlying44 typeInfo64 sizeOf64 Ja rfl dd dd rfl rfl dd (by show 56 * (2 * ((Zz (Zai (flW l)) i).length + 1) + 192) ≤ 281474976710656; omega) dd ?_
  intro v47 o47 hG47
  obtain ⟨ad47, c47, rfl⟩ := hG47.is
  have hLn47 : (Zz (Zai (flW l)) i).length + 1 = ((Zz (Zai (flW l)) i) ++ [qv (((flW l).getD (3 * i + 2) (0, 0)).1) (((flW l).getD (3 * i + 2) (0, 0)).2)]).length := lA
  rw [hLn47]; rw [hLn47] at hG47
  replace hG47 : GrowO 5 64 (.slice ad47 ((Zz (Zai (flW l)) i) ++ [qv (((flW l).getD (3 * i + 2) (0, 0)).1) (((flW l).getD (3 * i + 2) (0, 0)).2)]).length c47) ((Zz (Zai (flW l)) i) ++ [qv (((flW l).getD (3 * i + 2) (0, 0)).1) (((flW l).getD (3 * i + 2) (0, 0)).2)]).length (cellsOf Zv ((Zz (Zai (flW l)) i) ++ [qv (((flW l).getD (3 * i + 2) (0, 0)).1) (((flW l).getD (3 * i + 2) (0, 0)).2)])) o47 := by rw [Zo, Qb]; exact hG47
  refine yp rfl (.fA rfl Qx) (yt rfl rfl rfl Zan uu sizeOf44 rfl nb (by show ((flat ((.slice ad47 ((Zz (Zai (flW l)) i) ++ [qv (((flW l).getD (3 * i + 2) (0, 0)).1) (((flW l).getD (3 * i + 2) (0, 0)).2)]).length c47)) && true)) = true; simp only [GrowO.flat (hG47)]; rfl) ?_)
  refine yn (zr (zm rfl (zp (.pN (i + 1) (.add rfl rfl)) (za rfl (zn ?_))))); intro a w h
  exact ⟨i + 1, ⟨oo, ad36, c36, o36, ad47, c47, o47, ⟨hG36, hG47⟩, by exact (((h.perm (List.Perm.trans (Zdw (Zdw (List.Perm.refl _))) (List.Perm.cons _ (List.Perm.trans (Zdw (Zdw (List.Perm.refl _))) (List.Perm.cons _ (List.Perm.refl _))))).symm).drop (by repeat (first | exact List.Sublist.refl _ | apply List.Sublist.cons))).factsSub (by exact (fun _ hR => by repeat (first | exact hR | apply List.Mem.tail)))).sub sA⟩, oo⟩
 ·
  skip
  have heq_i : l.length = i := dF hc10
  subst heq_i
  refine gC h (ze (zS (zd rfl mr isAgg46 sizeOf46 Zg ?_)))
  refine zt' rfl rfl Zq uu sizeOf46 rfl nb (by show ((flat ((.slice ad1 (Zz (Gx (flW l)) l.length).length c1)) && (flat ((.slice ad2 (Zz (Zai (flW l)) l.length).length c2)) && true))) = true; simp only [GrowO.flat (hG1), GrowO.flat (hG2)]; rfl) ?_; intro a w h
  refine wpList_nil (wp_ret ?_)
  replace h := h.perm (Zd9 (List.Perm.refl _)).symm
  refine Qbj h (Ze h rfl (.cell rfl mr isAgg46 sizeOf46 Zg)) ⟨ad1, c1, o1, ad2, c2, o2, rfl, hG1, hG2, rfl, rfl⟩ (List.Sublist.append_left (List.Sublist.append_left (by repeat (first | exact List.Sublist.refl _ | apply List.Sublist.cons)) _) _) (fun _ hR => hR)
theorem Gn (ad1 ad2 : Option Addr) (n1 n2 c1 c2 : Nat) (hne : n1 ≠ n2) : Yc Tryz.prog 23 [.agg #[.slice ad1 n1 c1, .slice ad2 n2 c2]] (.int .i64 1) := by
 refine fn_intro func23 rfl ntmps23 nb ?_
 intro S w0 a hS h
 refine gC h (zS (zx rfl fun b1 => za rfl (zn (zs (zS (zp (.fA rfl Xc) (zd rfl mr isAgg43 sizeOf43 Ql ?_)))))))
 refine zp (.builtin [_] rfl (Jz _ _ _)) (zp (.fA rfl Qx) (zd rfl mr isAgg44 sizeOf44 Qi ?_))
 refine zp (.builtin [_] rfl (Zw _ _ _)) (zp (.neq rfl rfl) ?_); intro a w h
 refine Zi h (fun hc11 h => ?_) (fun hc11 h => (by exfalso; exact hne (Znw hc11)))
 refine wpList_nil ?_
 refine cW ?_
 refine Qf h rfl ?_
 refine gC h (zS (za rfl (zn (zt ?_)))); clear h; intro a w h
 exact Zag h
theorem Zbj (ad1 ad2 : Option Addr) (n1 n2 c1 c2 : Nat) (hne : n1 ≠ n2) : Yc Tryz.prog 12 [.agg #[.slice ad1 n1 c1, .slice ad2 n2 c2]] (.int .i64 (-1)) := by
 refine fn_intro func12 rfl ntmps12 nb ?_
 intro S w0 a hS h
 refine gC h (zS (zx rfl fun b1 => za rfl (zn (zc (zs (zS (zd rfl mr isAgg46 sizeOf46 Zg ?_)))))))
 refine zv [_] rfl call23 (Gn ad1 ad2 n1 n2 c1 c2 hne) (zp (.neq rfl rfl) (zn ?_)); intro a w h
 refine cW ?_
 refine Zb h rfl (fun hc13 => ?_) (fun hc13 => (absurd hc13 dd))
 refine gC h (zS (za rfl (zn (zt ?_)))); clear h; intro a w h
 exact Zag h
theorem Zbk (ad1 ad2 : Option Addr) (n1 n2 c1 c2 : Nat) (hne : n1 ≠ n2) (ad : Option Addr) (np cp : Nat) (pa pb pc : Pt) : Yc Tryz.prog 24 [.agg #[.slice ad1 n1 c1, .slice ad2 n2 c2], .slice ad np cp, encPt pa, encPt pb, encPt pc] (Zv 0) := by
 refine fn_intro func24 rfl ntmps24 nb ?_
 intro S w0 a hS h
 refine gC h (zS (zx rfl fun b5 => zx rfl fun b7 => zx rfl fun b8 => zx rfl fun b9 => zz Ja fun b10 => zn (zs (zS (zd rfl mr isAgg46 sizeOf46 Zg ?_)))))
 refine zv [_] rfl call23 (Gn ad1 ad2 n1 n2 c1 c2 hne) (zp (.neq rfl rfl) ?_); intro a w h
 refine Zi h (fun hc17 h => ?_) (fun hc17 h => (absurd hc17 dd))
 refine wpList_nil ?_
 refine cW ?_
 refine Qf h rfl ?_
 refine gC h (zS (zd rfl mr isAgg64 sizeOf64 Zh ?_))
 refine zt' rfl rfl Zp uu sizeOf64 rfl nb rfl ?_; intro a w h
 refine wpList_nil (wp_ret ?_)
 refine Jr h (Ze h rfl (.cell rfl mr isAgg64 sizeOf64 Zh)) ?_
 rfl
theorem Vk (ad1 ad2 : Option Addr) (n1 n2 c1 c2 : Nat) (hne : n1 ≠ n2) (ad : Option Addr) (np cp : Nat) (pa pb : Pt) : Yc Tryz.prog 28 [.agg #[.slice ad1 n1 c1, .slice ad2 n2 c2], .slice ad np cp, encPt pa, encPt pb] (Zv 0) := by
 refine fn_intro func28 rfl ntmps28 nb ?_
 intro S w0 a hS h
 refine gC h (zS (zx rfl fun b4 => zx rfl fun b6 => zx rfl fun b7 => zz Ja fun b8 => zn (zs (zS (zp (.fA rfl Xi) (zd rfl mr isAgg44 sizeOf44 Ql ?_))))))
 refine zp (.builtin [_] rfl (Zw _ _ _)) (zp (.fA rfl Kv) (zd rfl mr isAgg44 sizeOf44 Qi ?_))
 refine zp (.builtin [_] rfl (Zw _ _ _)) (zp (.neq rfl rfl) ?_); intro a w h
 refine Zi h (fun hc19 h => ?_) (fun hc19 h => (by exfalso; exact hne (Znw hc19)))
 refine wpList_nil ?_
 refine cW ?_
 refine Qf h rfl ?_
 refine gC h (zS (zd rfl mr isAgg64 sizeOf64 Zh ?_))
 refine zt' rfl rfl Zp uu sizeOf64 rfl nb rfl ?_; intro a w h
 refine wpList_nil (wp_ret ?_)
 refine Jr h (Ze h rfl (.cell rfl mr isAgg64 sizeOf64 Zh)) ?_
 rfl
theorem Vj (ad1 ad2 : Option Addr) (n1 n2 c1 c2 : Nat) (hne : n1 ≠ n2) : Yc Tryz.prog 27 [.agg #[.slice ad1 n1 c1, .slice ad2 n2 c2]] (.int .i64 (-1)) := by
 refine fn_intro func27 rfl ntmps27 nb ?_
 intro S w0 a hS h
 refine gC h (zS (zx rfl fun b1 => za rfl (zn (zs (zS (zp (.fA rfl Xi) (zd rfl mr isAgg44 sizeOf44 Ql ?_)))))))
 refine zp (.builtin [_] rfl (Zw _ _ _)) (zp (.fA rfl Kv) (zd rfl mr isAgg44 sizeOf44 Qi ?_))
 refine zp (.builtin [_] rfl (Zw _ _ _)) (zp (.neq rfl rfl) ?_); intro a w h
 refine Zi h (fun hc13 h => ?_) (fun hc13 h => (by exfalso; exact hne (Znw hc13)))
 refine wpList_nil ?_
 refine cW ?_
 refine Qf h rfl ?_
 refine gC h (zS (za rfl (zn (zt ?_)))); clear h; intro a w h
 exact Zag h
theorem Zrp (ad1 ad2 : Option Addr) (c1 c2 : Nat) (ps : List (Rat × Rat × Rat)) (ws : List Rat) (hnp : ps.length ≤ 1000) (hnw : ws.length ≤ 1000) (hps : ∀ p ∈ ps, Qa p.1 ≤ 1000 ∧ Qa p.2.1 ≤ 1000 ∧ Qa p.2.2 ≤ 1000) (hv : Kq ps ws ≠ 0) : Ge Tryz.prog 12 [.agg #[.slice ad1 ps.length c1, .slice ad2 ws.length c2]] [Row ad1 (cellsOf Gb ps), Row ad2 (cellsOf Zv ws)] (.int .i64 (-1)) := by
 refine fn_intro func12 rfl ntmps12 nb ?_
 intro S w0 a hS h
 refine gC h (zS (zx rfl fun b1 => za rfl (zn (zc (zs (zS (zd rfl mr isAgg46 sizeOf46 Zg ?_)))))))
 refine zw [_] rfl call23 (Zf0 ad1 ad2 c1 c2 ps ws hnp hnw hps) (zp (.neq rfl rfl) (zn ?_)); intro a w h
 refine cW ?_
 refine Zb h rfl (fun hc13 => ?_) (fun hc13 => (by exfalso; exact hv (by simpa using hc13)))
 refine gC h (zS (za rfl (zn (zt ?_)))); clear h; intro a w h
 exact Zag h
theorem Zrq (ad1 ad2 : Option Addr) (c1 c2 : Nat) (ps : List (Rat × Rat × Rat)) (ws : List Rat) (hnp : ps.length ≤ 1000) (hnw : ws.length ≤ 1000) (hps : ∀ p ∈ ps, Qa p.1 ≤ 1000 ∧ Qa p.2.1 ≤ 1000 ∧ Qa p.2.2 ≤ 1000) (hv : Kq ps ws ≠ 0) (ad : Option Addr) (np cp : Nat) (pa pb pc : Pt) : Ge Tryz.prog 24 [.agg #[.slice ad1 ps.length c1, .slice ad2 ws.length c2], .slice ad np cp, encPt pa, encPt pb, encPt pc] [Row ad1 (cellsOf Gb ps), Row ad2 (cellsOf Zv ws)] (Zv 0) := by
 refine fn_intro func24 rfl ntmps24 nb ?_
 intro S w0 a hS h
 refine gC h (zS (zx rfl fun b5 => zx rfl fun b7 => zx rfl fun b8 => zx rfl fun b9 => zz Ja fun b10 => zn (zs (zS (zd rfl mr isAgg46 sizeOf46 Zg ?_)))))
 refine zw [_] rfl call23 (Zf0 ad1 ad2 c1 c2 ps ws hnp hnw hps) (zp (.neq rfl rfl) ?_); intro a w h
 refine Zi h (fun hc17 h => ?_) (fun hc17 h => (by exfalso; exact hv (by simpa using hc17)))
 refine wpList_nil ?_
 refine cW ?_
 refine Qf h rfl ?_
 refine gC h (zS (zd rfl mr isAgg64 sizeOf64 Zh ?_))
 refine zt' rfl rfl Zp uu sizeOf64 rfl nb rfl ?_; intro a w h
 refine wpList_nil (wp_ret ?_)
 refine Jr h (Ze h rfl (.cell rfl mr isAgg64 sizeOf64 Zh)) ?_
 rfl
end
end Go.Proofs.YtddhlkfpdjmplabGreatDoor
