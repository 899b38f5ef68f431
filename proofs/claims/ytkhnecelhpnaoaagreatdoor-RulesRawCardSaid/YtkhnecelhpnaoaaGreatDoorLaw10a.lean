/- Written by a program of ours (gen.py) out of short specifications. By an AI agent. -/
import Derived.Test.YtkhnecelhpnaoaaGreatDoorText2
set_option linter.unusedVariables false
set_option linter.unusedSimpArgs false
set_option maxRecDepth 4000
namespace Go.Proofs.YtkhnecelhpnaoaaGreatDoor
open Go Go.Proofs Go.Fx
attribute [local irreducible] Oper.wp Code.wp wpList Fx.Head wpOp
section

/-- The table of powers of ten that the library reads. -/
def TabF : SPred where
  p X w := ∃ g, Tryz.prog.globalNamed "internal/strconv.uint64pow10" = some g ∧ ¬ X g ∧ g < w.heap.size ∧ Lib.TabIs Tryz.prog w "internal/strconv.uint64pow10" .u64 Lib.pow10Tab
  st X X' w w' h hk hs hX := by
    obtain ⟨g, hg, hx, hlt, ht⟩ := h
    refine ⟨g, hg, fun h' => ?_, by omega, ?_⟩
    · rcases hX g h' with h1 | h1
      · exact hx h1
      · omega
    · unfold Lib.TabIs World.var? at *
      simp only [hg, Option.bind_some] at ht ⊢
      rw [hk g hlt hx]; exact ht
theorem below_grow (w : World) (k : Nat) (os : Array Obj) : Go.RowKit.Below w.heap.size w (Sort.grow (w.drewN k) os) := ⟨rfl, rfl, rfl, by simp [Sort.grow, World.drewN], fun b hb => by
  show (w.heap ++ os)[b]? = _
  rw [Array.getElem?_append_left hb]⟩
/-- The decimal digits. -/
def dB (n : Nat) : ByteArray := ⟨(Lib.decDigits n).toArray⟩
theorem dB_small {n : Nat} (h : n < 100) : dB n = digS n := by
  unfold dB digS
  split
  · rw [Lib.decDigits_one (by assumption)]
  · rw [Lib.decDigits_two (by assumption) h]
theorem dB_size (n : Nat) : (dB n).size = Lib.nDigits n := by
  show (Lib.decDigits n).toArray.size = _
  rw [List.size_toArray, Lib.decDigits_length]
theorem nDigits_le {k n : Nat} (h : n < 10 ^ (k + 1)) : Lib.nDigits n ≤ k + 1 := by
  induction k generalizing n with
  | zero => rw [Lib.nDigits_small (by simpa using h)]; exact Nat.le_refl _
  | succ k ih =>
    by_cases h1 : n < 10
    · rw [Lib.nDigits_small h1]; omega
    · rw [Lib.nDigits_big h1]
      have := ih (n := n / 10) (by rw [Nat.pow_succ] at h; omega)
      omega
theorem dB_size20 {n : Nat} (h : n < 18446744073709551616) : (dB n).size ≤ 20 := by rw [dB_size]; exact nDigits_le (k := 19) (by omega)
def txtZ (z : Int) : ByteArray := if z < 0 then ⟨#[45]⟩ ++ dB z.natAbs else dB z.natAbs
def txtQ (x : Rat) : ByteArray := if x.den = 1 then txtZ x.num else txtZ x.num ++ ⟨#[47]⟩ ++ dB x.den
theorem size1 (c : UInt8) : (ByteArray.mk #[c]).size = 1 := rfl
theorem txtZ_size {z : Int} (h : z.natAbs < 18446744073709551616) : (txtZ z).size ≤ 21 := by
  unfold txtZ; have h1 := dB_size20 h; have h2 := size1 45
  split
  · rw [ByteArray.size_append]; omega
  · omega
theorem C_iFU2 (n : Nat) (hn : n < 18446744073709551616) : CtrW Tryz.prog 218 [.int .u64 (n : Int), .int .i64 10] [TabF] (.string (dB n)) := by
  intro X w hX hΦ
  by_cases h : n < 100
  · refine (C_iFU n h X w hX (fun _ h => nomatch h)).mono ?_
    rintro e w' ⟨v, Ψ, rfl, ⟨rfl, rfl⟩, hb, _⟩
    exact ⟨_, [], rfl, ⟨by rw [dB_small h], rfl⟩, hb, fun _ h => nomatch h⟩
  · obtain ⟨g, hg, _, _, ht⟩ := hΦ TabF (List.Mem.head _)
    refine (K_FU n (by omega) hn w ht).mono ?_
    rintro e w' ⟨rfl, k, os, rfl⟩
    exact ⟨_, [], rfl, ⟨rfl, rfl⟩, below_grow w k os, fun _ h => nomatch h⟩

theorem C_FU2 (n : Nat) (hlt : n < 18446744073709551616) : CtrW Tryz.prog 187 [.int .u64 (n : Int), .int .i64 10] [TabF] (.string (dB n)) := by
  refine fn_intro Tryz.func187 rfl Tryz.ntmps187 nb ?_
  intro S w0 a hS h
  refine gC h (zs (zr (za rfl (zn (zs (zr (zm rfl (zm rfl (zw [_, _] rfl Tryz.call218 (C_iFU2 n hlt) (za rfl (zn (zt ?_)))))))))))); clear h; intro a w h
  refine retV h (results1 h rfl (.tmp rfl)) ?_
  rfl

theorem C_NText2 (n : Nat) (hlt : n < 18446744073709551616) : CtrW Tryz.prog 153 [encN n] [TabF] (.string (dB n)) := by
  refine fn_intro Tryz.func153 rfl Tryz.ntmps153 nb ?_
  intro S w0 a hS h
  refine gC h (zs (zr (zx rfl fun b1 => za rfl (zn (zs (zs (zr (zp (.fieldAddr rfl (fa_46_1 _ _)) (zd rfl mr Tryz.isAgg9 Tryz.sizeOf9 (rs_2_1 _ _) ?_))))))))); clear h; intro a w h
  refine gL h (zp (.binOp rfl rfl (fun _ => run_seql _ _ _ _ _)) (zn ?_)); clear h; intro a w h
  change Code.wp _ _ _ _ _
  refine cond_split h rfl (fun hc10 => ?_) (fun hc10 => (by exfalso; have hb : bigN n = ⟨#[]⟩ := bigN_small (by omega); rw [hb] at hc10; exact absurd hc10 (by decide)))
  refine gC h (zs (zr (zp (.fieldAddr rfl (fa_46_0 _ _)) (zd rfl mr Tryz.isAgg44 Tryz.sizeOf44 (rs_2_0 _ _) ?_)))); clear h; intro a w h
  rw [lowN_small hlt] at h
  refine gL h (zw [_, _] rfl Tryz.call187 (C_FU2 n hlt) (za rfl (zn (zt ?_)))); clear h; intro a w h
  refine retV h (results1 h rfl (.tmp rfl)) ?_
  rfl

theorem C_ZText2 (z : Int) (hz : z.natAbs < 18446744073709551616) : CtrW Tryz.prog 152 [encZ z] [TabF] (.string (txtZ z)) := by
  refine fn_intro Tryz.func152 rfl Tryz.ntmps152 nb ?_
  intro S w0 a hS h
  refine gC h (zs (zr (zx rfl fun b1 => za rfl (zn (zs (zs (zr (zp (.fieldAddr rfl (fa_50_1 _ _)) (zd rfl mr Tryz.isAgg4 Tryz.sizeOf4 (rs_3_2 _ _ _) ?_))))))))); clear h; intro a w h
  refine wpList_nil ?_
  change Code.wp _ _ _ _ _
  refine cond_split h rfl (fun hc4 => ?_) (fun hc4 => ?_)
  · skip
    have hn : z < 0 := of_decide_eq_true hc4
    refine gC h (zs (zr (zp (.fieldAddr rfl (fa_50_0 _ _)) (zp (.fieldAddr rfl (fa_48_0 _ _)) (zd rfl mr Tryz.isAgg46 Tryz.sizeOf46 (rd_3_0_2 _ _ _) ?_))))); clear h; intro a w h
    refine gL h (zw [_] rfl Tryz.call153 (C_NText2 z.natAbs hz) (zp (.binOp rfl rfl (fun _ => run_sadd _ _ _ _ _ (by have := dB_size20 hz; have h1 := size1 45; omega))) (za rfl (zn (zt ?_))))); clear h; intro a w h
    refine retV h (results1 h rfl (.tmp rfl)) ?_
    unfold txtZ; rw [if_pos hn]
  · skip
    have hn : ¬ z < 0 := of_decide_eq_false hc4
    refine gC h (zk (zs (zr (zp (.fieldAddr rfl (fa_50_0 _ _)) (zp (.fieldAddr rfl (fa_48_0 _ _)) (zd rfl mr Tryz.isAgg46 Tryz.sizeOf46 (rd_3_0_2 _ _ _) ?_)))))); clear h; intro a w h
    refine gL h (zw [_] rfl Tryz.call153 (C_NText2 z.natAbs hz) (za rfl (zn (zt ?_)))); clear h; intro a w h
    refine retV h (results1 h rfl (.tmp rfl)) ?_
    unfold txtZ; rw [if_neg hn]

theorem C_QText2 (x : Rat) (hn : x.num.natAbs < 18446744073709551616) (hd : x.den < 18446744073709551616) : CtrW Tryz.prog 106 [encQ x] [TabF] (.string (txtQ x)) := by
  refine fn_intro Tryz.func106 rfl Tryz.ntmps106 nb ?_
  intro S w0 a hS h
  refine gC h (zs (zr (zx rfl fun b1 => za rfl (zn (zs (zs (zr (zd rfl mr Tryz.isAgg52 Tryz.sizeOf52 (rd_5_0_5 _ _ _ _ _) ?_)))))))); clear h; intro a w h
  refine gL h (zv [_] rfl Tryz.call72 (C_Whole x) (zn ?_)); clear h; intro a w h
  change Code.wp _ _ _ _ _
  refine cond_split h rfl (fun hc4 => ?_) (fun hc4 => ?_)
  · skip
    have hw : x.den = 1 := of_decide_eq_true hc4
    refine gC h (zs (zr (zp (.fieldAddr rfl (fa_52_0 _ _)) (zd rfl mr Tryz.isAgg50 Tryz.sizeOf50 (rd_5_0_3 _ _ _ _ _) ?_)))); clear h; intro a w h
    refine gL h (zw [_] rfl Tryz.call152 (C_ZText2 x.num hn) (za rfl (zn (zt ?_)))); clear h; intro a w h
    refine retV h (results1 h rfl (.tmp rfl)) ?_
    unfold txtQ; rw [if_pos hw]
  · skip
    have hw : ¬ x.den = 1 := of_decide_eq_false hc4
    refine gC h (zk (zs (yD mixed_YtkhnecelhpnaoaaGreatDoor [0, 1, 4, 2, 3, 5, 6, 7, 8] (floatsOK_none (by kernel_rfl)) (yp rfl (.fieldAddr rfl (fa_52_0 _ _)) (yd rfl rfl mr Tryz.isAgg50 Tryz.sizeOf50 (rd_5_0_3 _ _ _ _ _) ?_))))); clear h
    refine yd rfl rfl mr Tryz.isAgg52 Tryz.sizeOf52 (rd_5_0_5 _ _ _ _ _) ?_
    refine yw [_] rfl rfl Tryz.call152 (C_ZText2 x.num hn) (yp rfl (.binOp rfl rfl (fun _ => run_sadd _ _ _ _ _ (by have := txtZ_size hn; have h1 := size1 47; omega))) (yv [_] rfl rfl Tryz.call76 (C_den x (Nat.le_trans (wds_small (by omega)) (by decide))) (yw [_] rfl rfl Tryz.call153 (C_NText2 x.den hd) (yp rfl (.binOp rfl rfl (fun _ => run_sadd _ _ _ _ _ (by have := txtZ_size hn; have := dB_size20 hd; have h1 := size1 47; rw [ByteArray.size_append]; omega))) (yp rfl (.assign rfl) (yn (zt ?_))))))); intro a w h
    refine retV h (results1 h rfl (.tmp rfl)) ?_
    unfold txtQ; rw [if_neg hw]
end
section
theorem rs_1_0 (c0 : Value) : readAt false 1 #[c0] 0 = some c0 := rfl
theorem bd_58_z (w : World) : (Instr.build 58 [].toArray).run Tryz.prog w = .ok (.agg #[.slice none 0 0, .slice none 0 0]) w := by simp [go_sem]
theorem bd_71_z (w : World) : (Instr.build 71 [].toArray).run Tryz.prog w = .ok (.agg #[.slice none 0 0, .slice none 0 0]) w := by simp [go_sem]
theorem bd_58_0_1 (x0 : Option Addr) (x0n : Nat) (x0c : Nat) (x1 : Option Addr) (x1n : Nat) (x1c : Nat) (w : World) : (Instr.build 58 [(0, .slice x0 x0n x0c), (1, .slice x1 x1n x1c)].toArray).run Tryz.prog w = .ok (.agg #[.slice x0 x0n x0c, .slice x1 x1n x1c]) w := by simp [go_sem]
theorem lenQ_small {x : Rat} (h1 : x.num.natAbs < 18446744073709551616) (h2 : x.den < 18446744073709551616) : lenQ x ≤ 2 := by
  have a := wds_small h1; have b := wds_small h2; unfold lenQ lenZ; omega
theorem rising_b : ∀ n, n ≤ 6 → ∀ m, m ≤ 9 → ∀ x ∈ risingQ n m, x.num.natAbs < 18446744073709551616 ∧ x.den < 18446744073709551616 := by decide +kernel
theorem rising_s (n : Nat) (h : n ≤ 6) (m : Nat) (hm : m ≤ 9) (x : Rat) (hx : x ∈ risingQ n m) : lenQ x ≤ 1000 :=
  Nat.le_trans (lenQ_small (rising_b n h m hm x hx).1 (rising_b n h m hm x hx).2) (by decide)
theorem cot_b : ∀ n, n ≤ 8 → ∀ i, i ≤ n → ∀ m, m ≤ n + 1 → ∀ x ∈ cotN n i m, x.num.natAbs < 18446744073709551616 ∧ x.den < 18446744073709551616 := by decide +kernel
theorem cot_s (n : Nat) (h : n ≤ 8) (i : Nat) (hi : i ≤ n) (m : Nat) (hm : m ≤ n + 1) (x : Rat) (hx : x ∈ cotN n i m) : lenQ x ≤ 1000 :=
  Nat.le_trans (lenQ_small (cot_b n h i hi m hm x hx).1 (cot_b n h i hi m hm x hx).2) (by decide)
theorem lat_b : ∀ n, n ≤ 6 → (∀ p ∈ latP n, (p.1.num.natAbs < 18446744073709551616 ∧ p.1.den < 18446744073709551616) ∧ (p.2.1.num.natAbs < 18446744073709551616 ∧ p.2.1.den < 18446744073709551616) ∧ (p.2.2.num.natAbs < 18446744073709551616 ∧ p.2.2.den < 18446744073709551616)) ∧
    (∀ x ∈ latW n, x.num.natAbs < 18446744073709551616 ∧ x.den < 18446744073709551616) := by decide +kernel
theorem lat_sP (n : Nat) (h : n ≤ 6) (p : Rat × Rat × Rat) (hp : p ∈ latP n) : lenQ p.1 ≤ 1000 ∧ lenQ p.2.1 ≤ 1000 ∧ lenQ p.2.2 ≤ 1000 := by
  obtain ⟨⟨a, b⟩, ⟨c, d⟩, e, f⟩ := (lat_b n h).1 p hp
  exact ⟨Nat.le_trans (lenQ_small a b) (by decide), Nat.le_trans (lenQ_small c d) (by decide), Nat.le_trans (lenQ_small e f) (by decide)⟩
theorem lat_sW (n : Nat) (h : n ≤ 6) (x : Rat) (hx : x ∈ latW n) : lenQ x ≤ 1000 :=
  Nat.le_trans (lenQ_small ((lat_b n h).2 x hx).1 ((lat_b n h).2 x hx).2) (by decide)
theorem line_b : ∀ n, n ≤ 8 → (∀ p ∈ lstT (cotA n) (n + 1), p.num.natAbs < 18446744073709551616 ∧ p.den < 18446744073709551616) ∧
    (∀ x ∈ lstT (cotW n) (n + 1), x.num.natAbs < 18446744073709551616 ∧ x.den < 18446744073709551616) := by decide +kernel
theorem line_sA (n : Nat) (h : n ≤ 8) (x : Rat) (hx : x ∈ lstT (cotA n) (n + 1)) : lenQ x ≤ 1000 :=
  Nat.le_trans (lenQ_small ((line_b n h).1 x hx).1 ((line_b n h).1 x hx).2) (by decide)
theorem line_sW (n : Nat) (h : n ≤ 8) (x : Rat) (hx : x ∈ lstT (cotW n) (n + 1)) : lenQ x ≤ 1000 :=
  Nat.le_trans (lenQ_small ((line_b n h).2 x hx).1 ((line_b n h).2 x hx).2) (by decide)
/-- A point of a row of points, as a row of numbers. -/
theorem row_point {b off : Nat} {l : List (Rat × Rat × Rat)} {X : Nat → Prop} {w : World} (h : (Row (some ⟨b, off, none⟩) (cellsOf encP l)).p X w) (i : Nat) (hi : i < l.length) :
    (Row (some ⟨b, off + i * 15, none⟩) (cellsOf encQ [(l.getD i (0, 0, 0)).1, (l.getD i (0, 0, 0)).2.1, (l.getD i (0, 0, 0)).2.2])).p X w := by
  intro _
  have hlen : (cellsOf encP l).length = l.length * 15 := cellsOf_length (k := 15) (fun _ => rfl) l
  have hm := Nat.mul_le_mul_right 15 (show i + 1 ≤ l.length from hi)
  rw [Nat.add_mul] at hm
  obtain ⟨b', off', cs, T, fr, ha, hb, hc, hj⟩ := h (fun e => by rw [e] at hlen; simp at hlen; omega)
  cases ha
  refine ⟨b, off + i * 15, cs, T, fr, rfl, hb, hc, fun j hj2 => ?_⟩
  have e15 : (cellsOf encQ [(l.getD i (0, 0, 0)).1, (l.getD i (0, 0, 0)).2.1, (l.getD i (0, 0, 0)).2.2]) = (encP (l.getD i (0, 0, 0))).cells.toList := rfl
  rw [e15] at hj2 ⊢
  have hj3 : j < 15 := hj2
  rw [Nat.add_assoc, hj (i * 15 + j) (by rw [hlen]; omega), cellsOf_get (k := 15) (fun _ => rfl) l i j hi hj3]
  simp only [List.getD, List.getElem?_eq_getElem hi, Option.getD_some]

theorem C_Lat_low (n : Int) (hn : n < 1) : CtrV Tryz.prog 33 [.int .i64 n] (.tuple #[.agg #[.slice none 0 0, .slice none 0 0], .int .i64 1]) := by
  refine fn_intro Tryz.func33 rfl Tryz.ntmps33 nb ?_
  intro S w0 a hS h
  refine gC h (zs (zr (zx rfl fun b1 => zz Tryz.zeroValue58 fun b2 => za rfl (zn (zs (zb (zs (zr (zd rfl mr Tryz.isAgg3 Tryz.sizeOf3 (rs_1_0 _) ?_))))))))); clear h; intro a w h
  refine gL h (zp (.lss rfl rfl) (za rfl (zn ?_))); clear h; intro a w h
  change Code.wp _ _ _ _ _
  refine cond_split h rfl (fun hc9 => ?_) (fun hc9 => (by exfalso; have := of_decide_eq_false hc9; omega))
  refine gC h (zs (zr (zp (.build [] rfl (bd_58_z)) (zt' rfl rfl (st_2_0_2 _ _ _ _) uu Tryz.sizeOf58 rfl nb rfl ?_)))); clear h; intro a w h
  refine gL h (za rfl (zn (zt ?_))); clear h; intro a w h
  refine retV h (results2 h rfl (.cell rfl mr Tryz.isAgg58 Tryz.sizeOf58 (rd_2_0_2 _ _)) (.tmp rfl)) ?_
  rfl

theorem C_Lat_high (n : Int) (hn : n > 6) : CtrV Tryz.prog 33 [.int .i64 n] (.tuple #[.agg #[.slice none 0 0, .slice none 0 0], .int .i64 9]) := by
  refine fn_intro Tryz.func33 rfl Tryz.ntmps33 nb ?_
  intro S w0 a hS h
  refine gC h (zs (zr (zx rfl fun b1 => zz Tryz.zeroValue58 fun b2 => za rfl (zn (zs (zb (zs (zr (zd rfl mr Tryz.isAgg3 Tryz.sizeOf3 (rs_1_0 _) ?_))))))))); clear h; intro a w h
  refine gL h (zp (.lss rfl rfl) (za rfl (zn ?_))); clear h; intro a w h
  change Code.wp _ _ _ _ _
  refine cond_split h rfl (fun hc9 => (by exfalso; have := of_decide_eq_true hc9; omega)) (fun hc9 => ?_)
  refine gC h (zs (zr (zd rfl mr Tryz.isAgg3 Tryz.sizeOf3 (rs_1_0 _) ?_))); clear h; intro a w h
  refine gL h (zp (.gtr rfl rfl) (za rfl (zn ?_))); clear h; intro a w h
  change Code.wp _ _ _ _ _
  refine cond_split h rfl (fun hc13 => ?_) (fun hc13 => (by exfalso; have := of_decide_eq_false hc13; omega))
  refine gC h (zs (zr (zp (.build [] rfl (bd_58_z)) (zt' rfl rfl (st_2_0_2 _ _ _ _) uu Tryz.sizeOf58 rfl nb rfl ?_)))); clear h; intro a w h
  refine gL h (za rfl (zn (zt ?_))); clear h; intro a w h
  refine retV h (results2 h rfl (.cell rfl mr Tryz.isAgg58 Tryz.sizeOf58 (rd_2_0_2 _ _)) (.tmp rfl)) ?_
  rfl

theorem C_Cot_low (n : Int) (hn : n < 1) : CtrV Tryz.prog 31 [.int .i64 n] (.tuple #[.agg #[.slice none 0 0, .slice none 0 0], .int .i64 1]) := by
  refine fn_intro Tryz.func31 rfl Tryz.ntmps31 nb ?_
  intro S w0 a hS h
  refine gC h (zs (zr (zz Tryz.zeroValue71 fun b2 => za rfl (zn (zs (zb (zs (zr (zm rfl (zp (.lss rfl rfl) (za rfl (zn ?_)))))))))))); clear h; intro a w h
  change Code.wp _ _ _ _ _
  refine cond_split h rfl (fun hc11 => ?_) (fun hc11 => (by exfalso; have := of_decide_eq_false hc11; omega))
  refine gC h (zs (zr (zp (.build [] rfl (bd_71_z)) (zt' rfl rfl (st_2_0_2 _ _ _ _) uu Tryz.sizeOf71 rfl nb rfl ?_)))); clear h; intro a w h
  refine gL h (za rfl (zn (zt ?_))); clear h; intro a w h
  refine retV h (results2 h rfl (.cell rfl mr Tryz.isAgg71 Tryz.sizeOf71 (rd_2_0_2 _ _)) (.tmp rfl)) ?_
  rfl

theorem C_Cot_high (n : Int) (hn : n > 8) : CtrV Tryz.prog 31 [.int .i64 n] (.tuple #[.agg #[.slice none 0 0, .slice none 0 0], .int .i64 9]) := by
  refine fn_intro Tryz.func31 rfl Tryz.ntmps31 nb ?_
  intro S w0 a hS h
  refine gC h (zs (zr (zz Tryz.zeroValue71 fun b2 => za rfl (zn (zs (zb (zs (zr (zm rfl (zp (.lss rfl rfl) (za rfl (zn ?_)))))))))))); clear h; intro a w h
  change Code.wp _ _ _ _ _
  refine cond_split h rfl (fun hc11 => (by exfalso; have := of_decide_eq_true hc11; omega)) (fun hc11 => ?_)
  refine gC h (zs (zr (zm rfl (zp (.gtr rfl rfl) (za rfl (zn ?_)))))); clear h; intro a w h
  change Code.wp _ _ _ _ _
  refine cond_split h rfl (fun hc15 => ?_) (fun hc15 => (by exfalso; have := of_decide_eq_false hc15; omega))
  refine gC h (zs (zr (zp (.build [] rfl (bd_71_z)) (zt' rfl rfl (st_2_0_2 _ _ _ _) uu Tryz.sizeOf71 rfl nb rfl ?_)))); clear h; intro a w h
  refine gL h (za rfl (zn (zt ?_))); clear h; intro a w h
  refine retV h (results2 h rfl (.cell rfl mr Tryz.isAgg71 Tryz.sizeOf71 (rd_2_0_2 _ _)) (.tmp rfl)) ?_
  rfl

theorem C_lof (n d : Int) (h0 : -9223372036854775808 ≤ n) (h1 : n ≤ 9223372036854775807) (h2 : -9223372036854775808 ≤ d) (h3 : d ≤ 9223372036854775807) (hd : d ≠ 0) :
    CtrV Tryz.prog 98 [.int .i64 n, .int .i64 d] (encQ ((n : Rat) / (d : Rat))) := by
  refine fn_intro Tryz.func98 rfl Tryz.ntmps98 nb ?_
  intro S w0 a hS h
  refine gC h (zs (zr (zz zeroQ fun b4 => zn (zs (zr (zm rfl (zm rfl (zv [_, _] rfl Tryz.call80 (C_QOf _ _ (by omega) (by omega) (by omega) (by omega) (by omega)) ?_)))))))); clear h; intro a w h
  have hl10 := lenQ_of (n) (d) (by omega) (by omega) (by omega) (by omega)
  refine gL h (zm rfl (zp (.extract rfl (fun _ => rfl)) (zp (.extract rfl (fun _ => rfl)) (zz zeroQ fun b5 => zt' rfl rfl (st_5_0_5 _ _ _ _ _ _ _ _ _ _) uu Tryz.sizeOf52 rfl nb rfl ?_)))); clear h; intro a w h
  refine gL h (za rfl (zn (zs (zr (zd rfl mr Tryz.isAgg52 Tryz.sizeOf52 (rd_5_0_5 _ _ _ _ _) ?_))))); clear h; intro a w h
  refine gL h (zt' rfl rfl (st_5_0_5 _ _ _ _ _ _ _ _ _ _) uu Tryz.sizeOf52 rfl nb rfl ?_); clear h; intro a w h
  refine wpList_nil (wp_ret ?_)
  refine retV h (results1 h rfl (.cell rfl mr Tryz.isAgg52 Tryz.sizeOf52 (rd_5_0_5 _ _ _ _ _))) ?_
  rfl

def third : Rat := ((1 : Int) : Rat) / ((3 : Int) : Rat)
def midP : List (Rat × Rat × Rat) := [(third, third, third)]
def midW : List Rat := [((1 : Int) : Rat)]

theorem C_middle : Ctr Tryz.prog 70 [] [] (fun v Ψ => ∃ ad1 c1 ad2 c2, v = .agg #[.slice ad1 midP.length c1, .slice ad2 midW.length c2] ∧ Ψ = [Row ad1 (cellsOf encP midP), Row ad2 (cellsOf encQ midW)]) := by
  refine fn_intro Tryz.func70 rfl Tryz.ntmps70 nb ?_
  intro S w0 a hS h
  refine gC h (zs (zr (zz Tryz.zeroValue58 fun b0 => zn (zs (zr (zv [_, _] rfl Tryz.call98 (C_lof 1 3 (by omega) (by omega) (by omega) (by omega) (by omega)) (zz zeroQ fun b1 => zt' rfl rfl (st_5_0_5 _ _ _ _ _ _ _ _ _ _) uu Tryz.sizeOf52 rfl nb rfl ?_))))))); clear h; intro a w h
  refine gL h (zn (zs (yD mixed_YtkhnecelhpnaoaaGreatDoor [0, 1, 2, 3, 4, 5, 6, 7, 8] (floatsOK_none (by kernel_rfl)) (yd rfl rfl mr Tryz.isAgg52 Tryz.sizeOf52 (rd_5_0_5 _ _ _ _ _) ?_)))); clear h
  refine yd rfl rfl mr Tryz.isAgg52 Tryz.sizeOf52 (rd_5_0_5 _ _ _ _ _) ?_
  refine yd rfl rfl mr Tryz.isAgg52 Tryz.sizeOf52 (rd_5_0_5 _ _ _ _ _) ?_
  refine yp rfl (.build [(_, _), (_, _), (_, _)] rfl (bd_62_0_1_2 _ _ _ _ _ _ _ _ _ _ _ _ _ _ _)) ?_
  refine head_enum (by kernel_rfl) ?_; intro a w h
  refine x_step [4, 5] (by kernel_rfl) (by decide) ?_; intro i hi
  simp only [List.mem_cons, List.not_mem_nil, or_false] at hi
  rcases hi with rfl | rfl
  · skip
    refine x_buildSlice h rfl [(_, _)] rfl (bs_55_1_0 _ _ _ _ _ _ _ _ _ _ _ _ _ _ _) (by decide) ?_; clear h; intro b7 a w h
    refine x_step [5] (by kernel_rfl) (by decide) ?_; intro i hi
    simp only [List.mem_cons, List.not_mem_nil, or_false] at hi
    rcases hi with rfl
    refine x_callV h (vs := [_]) rfl rfl Tryz.call28 (C_QInt _ (by omega) (by omega)) (by simp) (by decide) ?_; clear h; intro a w h
    have hl8 := lenQ_int (1) (by omega) (by omega)
    refine x_step [6] (by kernel_rfl) (by decide) ?_; intro i hi
    simp only [List.mem_cons, List.not_mem_nil, or_false] at hi
    rcases hi with rfl
    refine x_buildSlice h rfl [(_, _)] rfl (bs_56_1_0 _ _ _ _ _) (by decide) ?_; clear h; intro b9 a w h
    refine x_step [7] (by kernel_rfl) (by decide) ?_; intro i hi
    simp only [List.mem_cons, List.not_mem_nil, or_false] at hi
    rcases hi with rfl
    refine x_pure h rfl (.build [(_, _), (_, _)] rfl (bd_58_0_1 _ _ _ _ _ _)) (by decide) ?_; clear h; intro a h
    refine x_step [8] (by kernel_rfl) (by decide) ?_; intro i hi
    simp only [List.mem_cons, List.not_mem_nil, or_false] at hi
    rcases hi with rfl
    refine x_store h rfl rfl rfl (st_2_0_2 _ _ _ _) uu Tryz.sizeOf58 rfl nb rfl ?_; clear h; intro a w h
    refine x_end (by kernel_rfl) ?_
    change Code.wp _ _ _ _ _
    refine wp_ret ?_
    first | (replace h := ((h.shareAll hS (cellsOf encQ midW) rfl).shareAll hS (cellsOf encP midP) rfl)) | (replace h := ((h.shareAll hS (cellsOf encP midP) rfl).shareAll hS (cellsOf encQ midW) rfl))
    refine ret_of (Ψ := [Row _ (cellsOf encP midP), Row _ (cellsOf encQ midW)]) h (results1 h rfl (.cell rfl mr Tryz.isAgg58 Tryz.sizeOf58 (rd_2_0_2 _ _))) ⟨_, _, _, _, rfl, rfl⟩ (by simp)
  · skip
    refine x_callV h (vs := [_]) rfl rfl Tryz.call28 (C_QInt _ (by omega) (by omega)) (by simp) (by decide) ?_; clear h; intro a w h
    have hl8 := lenQ_int (1) (by omega) (by omega)
    refine x_step [4, 6] (by kernel_rfl) (by decide) ?_; intro i hi
    simp only [List.mem_cons, List.not_mem_nil, or_false] at hi
    rcases hi with rfl | rfl
    · skip
      refine x_buildSlice h rfl [(_, _)] rfl (bs_55_1_0 _ _ _ _ _ _ _ _ _ _ _ _ _ _ _) (by decide) ?_; clear h; intro b7 a w h
      refine x_step [6] (by kernel_rfl) (by decide) ?_; intro i hi
      simp only [List.mem_cons, List.not_mem_nil, or_false] at hi
      rcases hi with rfl
      refine x_buildSlice h rfl [(_, _)] rfl (bs_56_1_0 _ _ _ _ _) (by decide) ?_; clear h; intro b9 a w h
      refine x_step [7] (by kernel_rfl) (by decide) ?_; intro i hi
      simp only [List.mem_cons, List.not_mem_nil, or_false] at hi
      rcases hi with rfl
      refine x_pure h rfl (.build [(_, _), (_, _)] rfl (bd_58_0_1 _ _ _ _ _ _)) (by decide) ?_; clear h; intro a h
      refine x_step [8] (by kernel_rfl) (by decide) ?_; intro i hi
      simp only [List.mem_cons, List.not_mem_nil, or_false] at hi
      rcases hi with rfl
      refine x_store h rfl rfl rfl (st_2_0_2 _ _ _ _) uu Tryz.sizeOf58 rfl nb rfl ?_; clear h; intro a w h
      refine x_end (by kernel_rfl) ?_
      change Code.wp _ _ _ _ _
      refine wp_ret ?_
      first | (replace h := ((h.shareAll hS (cellsOf encQ midW) rfl).shareAll hS (cellsOf encP midP) rfl)) | (replace h := ((h.shareAll hS (cellsOf encP midP) rfl).shareAll hS (cellsOf encQ midW) rfl))
      refine ret_of (Ψ := [Row _ (cellsOf encP midP), Row _ (cellsOf encQ midW)]) h (results1 h rfl (.cell rfl mr Tryz.isAgg58 Tryz.sizeOf58 (rd_2_0_2 _ _))) ⟨_, _, _, _, rfl, rfl⟩ (by simp)
    · skip
      refine x_buildSlice h rfl [(_, _)] rfl (bs_56_1_0 _ _ _ _ _) (by decide) ?_; clear h; intro b9 a w h
      refine x_step [4] (by kernel_rfl) (by decide) ?_; intro i hi
      simp only [List.mem_cons, List.not_mem_nil, or_false] at hi
      rcases hi with rfl
      refine x_buildSlice h rfl [(_, _)] rfl (bs_55_1_0 _ _ _ _ _ _ _ _ _ _ _ _ _ _ _) (by decide) ?_; clear h; intro b7 a w h
      refine x_step [7] (by kernel_rfl) (by decide) ?_; intro i hi
      simp only [List.mem_cons, List.not_mem_nil, or_false] at hi
      rcases hi with rfl
      refine x_pure h rfl (.build [(_, _), (_, _)] rfl (bd_58_0_1 _ _ _ _ _ _)) (by decide) ?_; clear h; intro a h
      refine x_step [8] (by kernel_rfl) (by decide) ?_; intro i hi
      simp only [List.mem_cons, List.not_mem_nil, or_false] at hi
      rcases hi with rfl
      refine x_store h rfl rfl rfl (st_2_0_2 _ _ _ _) uu Tryz.sizeOf58 rfl nb rfl ?_; clear h; intro a w h
      refine x_end (by kernel_rfl) ?_
      change Code.wp _ _ _ _ _
      refine wp_ret ?_
      first | (replace h := ((h.shareAll hS (cellsOf encQ midW) rfl).shareAll hS (cellsOf encP midP) rfl)) | (replace h := ((h.shareAll hS (cellsOf encP midP) rfl).shareAll hS (cellsOf encQ midW) rfl))
      refine ret_of (Ψ := [Row _ (cellsOf encP midP), Row _ (cellsOf encQ midW)]) h (results1 h rfl (.cell rfl mr Tryz.isAgg58 Tryz.sizeOf58 (rd_2_0_2 _ _))) ⟨_, _, _, _, rfl, rfl⟩ (by simp)
end
end Go.Proofs.YtkhnecelhpnaoaaGreatDoor
