/- Written by a program of ours (gen.py) out of short specifications. By an AI agent. -/
import Derived.Test.YtfmbhcnanphckaaGreatDoorRules3
import Derived.Test.YtfmbhcnanphckaaGreatDoorFxC
import Derived.Test.YtfmbhcnanphckaaGreatDoorFxZ
set_option linter.unusedVariables false
set_option linter.unusedSimpArgs false
set_option maxRecDepth 4000
namespace Go.Proofs.YtfmbhcnanphckaaGreatDoor
open Go Go.Proofs Go.Fx
attribute [local irreducible] Oper.wp Code.wp wpList Fx.Head wpOp
theorem bd_55_0_1_2 (x0_0 : Value) (x0_1 : Value) (x0_2 : Value) (x0_3 : Value) (x0_4 : Value) (x1_0 : Value) (x1_1 : Value) (x1_2 : Value) (x1_3 : Value) (x1_4 : Value) (x2_0 : Value) (x2_1 : Value) (x2_2 : Value) (x2_3 : Value) (x2_4 : Value) (w : World) : (Instr.build 55 [(0, .agg #[x0_0, x0_1, x0_2, x0_3, x0_4]), (1, .agg #[x1_0, x1_1, x1_2, x1_3, x1_4]), (2, .agg #[x2_0, x2_1, x2_2, x2_3, x2_4])].toArray).run Tryz.prog w = .ok (.agg #[x0_0, x0_1, x0_2, x0_3, x0_4, x1_0, x1_1, x1_2, x1_3, x1_4, x2_0, x2_1, x2_2, x2_3, x2_4]) w := by simp [go_sem]
theorem bs_22_1_0 (x0_0 : Value) (x0_1 : Value) (x0_2 : Value) (x0_3 : Value) (x0_4 : Value) (x0_5 : Value) (x0_6 : Value) (x0_7 : Value) (x0_8 : Value) (x0_9 : Value) (x0_10 : Value) (x0_11 : Value) (x0_12 : Value) (x0_13 : Value) (x0_14 : Value) (w : World) : (Instr.buildSlice 22 1 [(0, .agg #[x0_0, x0_1, x0_2, x0_3, x0_4, x0_5, x0_6, x0_7, x0_8, x0_9, x0_10, x0_11, x0_12, x0_13, x0_14])].toArray).run Tryz.prog w = .ok (.slice (some ⟨w.heap.size, 0, none⟩) 1 1) (w.alloc (.cells #[x0_0, x0_1, x0_2, x0_3, x0_4, x0_5, x0_6, x0_7, x0_8, x0_9, x0_10, x0_11, x0_12, x0_13, x0_14] 55 (0, 0))) := by
  simp [go_sem]
theorem st_2_0_1 (c0 c1 v0 : Value) : setFrom #[c0, c1] 0 [v0] = #[v0, c1] := rfl
theorem st_2_1_1 (c0 c1 v0 : Value) : setFrom #[c0, c1] 1 [v0] = #[c0, v0] := rfl
/-- The weight's partial sums. -/
def w3 (acc ab : Rat) (l : List Rat) (p q : Nat) : Nat → Rat
  | 0 => acc
  | s + 1 => w3 acc ab l p q s + ab * (l.getD s 0 * momentQ p q s)
def w2 (acc a : Rat) (lj lk : List Rat) (p kk : Nat) : Nat → Rat
  | 0 => acc
  | q + 1 => w3 (w2 acc a lj lk p kk q) (a * lj.getD q 0) lk p q kk
def w1 (li lj lk : List Rat) (jj kk : Nat) : Nat → Rat
  | 0 => 0
  | p + 1 => w2 (w1 li lj lk jj kk p) (li.getD p 0) lj lk p kk jj
def weightQ (n i j k : Nat) : Rat := w1 (risingQ n i) (risingQ n j) (risingQ n k) (j + 1) (k + 1) (i + 1)
theorem lenQ_w3 (acc ab : Rat) (l : List Rat) (p q : Nat) (hab : lenQ ab ≤ 2000) (hl : ∀ x ∈ l, lenQ x ≤ 1000) (hp : p ≤ 48) (hq : q ≤ 48) : ∀ s, s ≤ 48 → lenQ (w3 acc ab l p q s) ≤ lenQ acc + 4001 * s
  | 0, _ => Nat.le_refl _
  | s + 1, h => by
    have h1 := lenQ_w3 acc ab l p q hab hl hp hq s (by omega)
    have h2 := lenQ_getD (k := 1000) (by omega) hl s
    have h3 := lenQ_moment p q s hp hq (by omega)
    have h4 := lenQ_mul (l.getD s 0) (momentQ p q s)
    have h5 := lenQ_mul ab (l.getD s 0 * momentQ p q s)
    have h6 := lenQ_add (w3 acc ab l p q s) (ab * (l.getD s 0 * momentQ p q s))
    rw [w3]; omega
theorem lenQ_w2 (acc a : Rat) (lj lk : List Rat) (p kk : Nat) (ha : lenQ a ≤ 1000) (hj : ∀ x ∈ lj, lenQ x ≤ 1000) (hk : ∀ x ∈ lk, lenQ x ≤ 1000) (hp : p ≤ 48) (hkk : kk ≤ 10) : ∀ q, q ≤ 10 → lenQ (w2 acc a lj lk p kk q) ≤ lenQ acc + 40010 * q
  | 0, _ => Nat.le_refl _
  | q + 1, h => by
    have h1 := lenQ_w2 acc a lj lk p kk ha hj hk hp hkk q (by omega)
    have h2 := lenQ_getD (k := 1000) (by omega) hj q
    have h3 := lenQ_mul a (lj.getD q 0)
    have h4 := lenQ_w3 (w2 acc a lj lk p kk q) (a * lj.getD q 0) lk p q (by omega) hk hp (by omega) kk (by omega)
    rw [w2]; omega
theorem lenQ_w1 (li lj lk : List Rat) (jj kk : Nat) (hi : ∀ x ∈ li, lenQ x ≤ 1000) (hj : ∀ x ∈ lj, lenQ x ≤ 1000) (hk : ∀ x ∈ lk, lenQ x ≤ 1000) (hjj : jj ≤ 10) (hkk : kk ≤ 10) : ∀ p, p ≤ 10 → lenQ (w1 li lj lk jj kk p) ≤ 2 + 400100 * p
  | 0, _ => by rw [w1]; have := lenQ_zero; omega
  | p + 1, h => by
    have h1 := lenQ_w1 li lj lk jj kk hi hj hk hjj hkk p (by omega)
    have h2 := lenQ_getD (k := 1000) (by omega) hi p
    have h4 := lenQ_w2 (w1 li lj lk jj kk p) (li.getD p 0) lj lk p kk (by omega) hj hk (by omega) hkk jj (by omega)
    rw [w1]; omega

theorem C_weight (n i j k b o : Nat) (hn : n ≤ 1000) (hi : i ≤ 9) (hj : j ≤ 9) (hk : k ≤ 9) (hs : ∀ m, m ≤ 9 → ∀ x ∈ risingQ n m, lenQ x ≤ 1000) :
    CtrW Tryz.prog 42 [.int .i64 ((i : Nat) : Int), .int .i64 ((j : Nat) : Int), .int .i64 ((k : Nat) : Int), .pointer (some ⟨b, o, none⟩)] [Row (some ⟨b, o, none⟩) [.int .i64 ((n : Nat) : Int)]] (encQ (weightQ n i j k)) := by
  have hsi := hs i hi
  have hsj := hs j hj
  have hsk := hs k hk
  refine fn_intro Tryz.func42 rfl Tryz.ntmps42 nb ?_
  intro S w0 a hS h
  refine gC h (zs (zr (zz zeroQ fun b7 => zn (zs (zs (zr (zD (b := b) (off := o) (j := 0) (M := [.int .i64 ((n : Nat) : Int)]) (v := .int .i64 ((n : Nat) : Int)) rfl mm (Nat.succ_pos _) Tryz.isAgg3 Tryz.sizeOf3 rfl (.inr rfl) ?_))))))); clear h; intro a w h
  refine gL h (zm rfl (zf [_, _] rfl Tryz.call43 (C_rising n i (by omega) (by omega) (fun m hm => hs m (by omega))) ?_)); clear h; rintro v16 Ψ16 ⟨ad16, c16, rfl, rfl⟩ a w h
  refine gL h (zp (.builtin [_] rfl (len_slice_23 _ _ _)) (zm rfl (zn (zb ?_)))); clear h; intro a w h
  refine wp_loop_inv (fun (p : Nat) a w => p ≤ (i + 1) ∧ St 57 S w0 [(1, .int .i64 ((j : Nat) : Int)), (2, .int .i64 ((k : Nat) : Int)), (3, .pointer (some ⟨b, o, none⟩)), (7, .pointer (some ⟨b7, 0, none⟩)), (16, .slice ad16 (i + 1) c16), (17, .int .i64 (((i + 1) : Nat) : Int)), (18, .int .i64 ((p : Nat) : Int))] [(b7, .cells (Value.cells (encQ (w1 (risingQ n i) (risingQ n j) (risingQ n k) (j + 1) (k + 1) p))) 42 (0, 0))] [Row ad16 (cellsOf encQ (risingQ n i)), Row (some ⟨b, o, none⟩) [.int .i64 ((n : Nat) : Int)]] a w) (fun p => (i + 1) - p) 0 (⟨Nat.zero_le _, by exact (h).sub (subL ⟨rfl, rfl, rfl, rfl, rfl, rfl, rfl, trivial⟩)⟩) ?_; clear h
  rintro p a w ⟨hi_p, h⟩
  refine gC h (zs (zr (zp (.lss rfl rfl) (zn (zs ?_))))); clear h; intro a w h
  refine cond_split h rfl (fun hc19 => ?_) (fun hc19 => ?_)
  · skip
    have hlt_p : p < (i + 1) := by have := of_decide_eq_true hc19; omega
    have hli := risingQ_len n i
    obtain ⟨B_ad16, O_ad16, rfl⟩ := h.row_addr (ad := ad16) (M := cellsOf encQ (risingQ n i)) mm (by intro e; have := congrArg List.length e; rw [cellsOf_length (k := 5) (fun _ => rfl)] at this; simp only [List.length_nil, Nat.mul_eq_zero] at this; omega)
    have hgp := lenQ_getD (k := 1000) (by omega) hsi p
    have hw1 := lenQ_w1 (risingQ n i) (risingQ n j) (risingQ n k) (j + 1) (k + 1) hsi hsj hsk (by omega) (by omega) p (by omega)
    refine gC h (zk (zs (zb (zs (zr (zm rfl (zp (.indexAddr rfl rfl (ix_23 _ _ _ _ _ (by omega))) (zD rfl mm (cells_lt (k := 5) (by decide) (fun _ => rfl) (risingQ n i) p (by omega)) Tryz.isAgg42 Tryz.sizeOf42 (read_cells (k := 5) (fun _ => rfl) ((fun _ => rfl)) (risingQ n i) 0 p (by omega)) (.inl rfl) ?_)))))))); clear h; intro a w h
    refine gL h (zz zeroQ fun b9 => za rfl (zt' rfl rfl (st_5_0_5 _ _ _ _ _ _ _ _ _ _) uu Tryz.sizeOf42 rfl nb rfl ?_)); clear h; intro a w h
    refine gL h (zn (zs (zr (zD (b := b) (off := o) (j := 0) (M := [.int .i64 ((n : Nat) : Int)]) (v := .int .i64 ((n : Nat) : Int)) rfl mm (Nat.succ_pos _) Tryz.isAgg3 Tryz.sizeOf3 rfl (.inr rfl) ?_)))); clear h; intro a w h
    refine gL h (zm rfl (zf [_, _] rfl Tryz.call43 (C_rising n j (by omega) (by omega) (fun m hm => hs m (by omega))) ?_)); clear h; rintro v25 Ψ25 ⟨ad25, c25, rfl, rfl⟩ a w h
    refine gL h (zp (.builtin [_] rfl (len_slice_23 _ _ _)) (zm rfl (zn (zb ?_)))); clear h; intro a w h
    refine wp_loop_inv (fun (q : Nat) a w => q ≤ (j + 1) ∧ St 57 S w0 [(1, .int .i64 ((j : Nat) : Int)), (2, .int .i64 ((k : Nat) : Int)), (3, .pointer (some ⟨b, o, none⟩)), (7, .pointer (some ⟨b7, 0, none⟩)), (8, .int .i64 ((p : Nat) : Int)), (9, .pointer (some ⟨b9, 0, none⟩)), (16, .slice (some ⟨B_ad16, O_ad16, none⟩) (i + 1) c16), (17, .int .i64 (((i + 1) : Nat) : Int)), (18, .int .i64 ((p : Nat) : Int)), (25, .slice ad25 (j + 1) c25), (26, .int .i64 (((j + 1) : Nat) : Int)), (27, .int .i64 ((q : Nat) : Int))] [(b9, .cells (Value.cells (encQ ((risingQ n i).getD p 0))) 42 (0, 0)), (b7, .cells (Value.cells (encQ (w2 (w1 (risingQ n i) (risingQ n j) (risingQ n k) (j + 1) (k + 1) p) ((risingQ n i).getD p 0) (risingQ n j) (risingQ n k) p (k + 1) q))) 42 (0, 0))] [Row ad25 (cellsOf encQ (risingQ n j)), Row (some ⟨B_ad16, O_ad16, none⟩) (cellsOf encQ (risingQ n i)), Row (some ⟨b, o, none⟩) [.int .i64 ((n : Nat) : Int)]] a w) (fun q => (j + 1) - q) 0 (⟨Nat.zero_le _, by exact (h).sub (subL ⟨rfl, rfl, rfl, rfl, rfl, rfl, rfl, rfl, rfl, rfl, rfl, rfl, trivial⟩)⟩) ?_; clear h
    rintro q a w ⟨hi_q, h⟩
    refine gC h (zs (zr (zp (.lss rfl rfl) (zn (zs ?_))))); clear h; intro a w h
    refine cond_split h rfl (fun hc28 => ?_) (fun hc28 => ?_)
    · skip
      have hlt_q : q < (j + 1) := by have := of_decide_eq_true hc28; omega
      have hlj := risingQ_len n j
      obtain ⟨B_ad25, O_ad25, rfl⟩ := h.row_addr (ad := ad25) (M := cellsOf encQ (risingQ n j)) mm (by intro e; have := congrArg List.length e; rw [cellsOf_length (k := 5) (fun _ => rfl)] at this; simp only [List.length_nil, Nat.mul_eq_zero] at this; omega)
      have hgq := lenQ_getD (k := 1000) (by omega) hsj q
      have hw2 := lenQ_w2 (w1 (risingQ n i) (risingQ n j) (risingQ n k) (j + 1) (k + 1) p) ((risingQ n i).getD p 0) (risingQ n j) (risingQ n k) p (k + 1) (by omega) hsj hsk (by omega) (by omega) q (by omega)
      have hmab := lenQ_mul ((risingQ n i).getD p 0) ((risingQ n j).getD q 0)
      refine gC h (zk (zs (zb (zs (zr (zm rfl (zp (.indexAddr rfl rfl (ix_23 _ _ _ _ _ (by omega))) (zD rfl mm (cells_lt (k := 5) (by decide) (fun _ => rfl) (risingQ n j) q (by omega)) Tryz.isAgg42 Tryz.sizeOf42 (read_cells (k := 5) (fun _ => rfl) ((fun _ => rfl)) (risingQ n j) 0 q (by omega)) (.inl rfl) ?_)))))))); clear h; intro a w h
      refine gL h (zz zeroQ fun b11 => za rfl (zt' rfl rfl (st_5_0_5 _ _ _ _ _ _ _ _ _ _) uu Tryz.sizeOf42 rfl nb rfl ?_)); clear h; intro a w h
      refine gL h (zn (zs (zr (zD (b := b) (off := o) (j := 0) (M := [.int .i64 ((n : Nat) : Int)]) (v := .int .i64 ((n : Nat) : Int)) rfl mm (Nat.succ_pos _) Tryz.isAgg3 Tryz.sizeOf3 rfl (.inr rfl) ?_)))); clear h; intro a w h
      refine gL h (zm rfl (zf [_, _] rfl Tryz.call43 (C_rising n k (by omega) (by omega) (fun m hm => hs m (by omega))) ?_)); clear h; rintro v34 Ψ34 ⟨ad34, c34, rfl, rfl⟩ a w h
      refine gL h (zp (.builtin [_] rfl (len_slice_23 _ _ _)) (zm rfl (zn (zb ?_)))); clear h; intro a w h
      refine wp_loop_inv (fun (s : Nat) a w => s ≤ (k + 1) ∧ St 57 S w0 [(1, .int .i64 ((j : Nat) : Int)), (2, .int .i64 ((k : Nat) : Int)), (3, .pointer (some ⟨b, o, none⟩)), (7, .pointer (some ⟨b7, 0, none⟩)), (8, .int .i64 ((p : Nat) : Int)), (9, .pointer (some ⟨b9, 0, none⟩)), (10, .int .i64 ((q : Nat) : Int)), (11, .pointer (some ⟨b11, 0, none⟩)), (16, .slice (some ⟨B_ad16, O_ad16, none⟩) (i + 1) c16), (17, .int .i64 (((i + 1) : Nat) : Int)), (18, .int .i64 ((p : Nat) : Int)), (25, .slice (some ⟨B_ad25, O_ad25, none⟩) (j + 1) c25), (26, .int .i64 (((j + 1) : Nat) : Int)), (27, .int .i64 ((q : Nat) : Int)), (34, .slice ad34 (k + 1) c34), (35, .int .i64 (((k + 1) : Nat) : Int)), (36, .int .i64 ((s : Nat) : Int))] [(b11, .cells (Value.cells (encQ ((risingQ n j).getD q 0))) 42 (0, 0)), (b9, .cells (Value.cells (encQ ((risingQ n i).getD p 0))) 42 (0, 0)), (b7, .cells (Value.cells (encQ (w3 (w2 (w1 (risingQ n i) (risingQ n j) (risingQ n k) (j + 1) (k + 1) p) ((risingQ n i).getD p 0) (risingQ n j) (risingQ n k) p (k + 1) q) (((risingQ n i).getD p 0) * ((risingQ n j).getD q 0)) (risingQ n k) p q s))) 42 (0, 0))] [Row ad34 (cellsOf encQ (risingQ n k)), Row (some ⟨B_ad25, O_ad25, none⟩) (cellsOf encQ (risingQ n j)), Row (some ⟨B_ad16, O_ad16, none⟩) (cellsOf encQ (risingQ n i)), Row (some ⟨b, o, none⟩) [.int .i64 ((n : Nat) : Int)]] a w) (fun s => (k + 1) - s) 0 (⟨Nat.zero_le _, by exact (h).sub (subL ⟨rfl, rfl, rfl, rfl, rfl, rfl, rfl, rfl, rfl, rfl, rfl, rfl, rfl, rfl, rfl, rfl, rfl, trivial⟩)⟩) ?_; clear h
      rintro s a w ⟨hi_s, h⟩
      refine gC h (zs (zr (zp (.lss rfl rfl) (zn (zs ?_))))); clear h; intro a w h
      refine cond_split h rfl (fun hc37 => ?_) (fun hc37 => ?_)
      · skip
        have hlt_s : s < (k + 1) := by have := of_decide_eq_true hc37; omega
        have hlk := risingQ_len n k
        obtain ⟨B_ad34, O_ad34, rfl⟩ := h.row_addr (ad := ad34) (M := cellsOf encQ (risingQ n k)) mm (by intro e; have := congrArg List.length e; rw [cellsOf_length (k := 5) (fun _ => rfl)] at this; simp only [List.length_nil, Nat.mul_eq_zero] at this; omega)
        have hgs := lenQ_getD (k := 1000) (by omega) hsk s
        have hw3 := lenQ_w3 (w2 (w1 (risingQ n i) (risingQ n j) (risingQ n k) (j + 1) (k + 1) p) ((risingQ n i).getD p 0) (risingQ n j) (risingQ n k) p (k + 1) q) (((risingQ n i).getD p 0) * ((risingQ n j).getD q 0)) (risingQ n k) p q (by omega) hsk (by omega) (by omega) s (by omega)
        refine gC h (zk (zs (zb (zs (zr (zm rfl (zp (.indexAddr rfl rfl (ix_23 _ _ _ _ _ (by omega))) (zD rfl mm (cells_lt (k := 5) (by decide) (fun _ => rfl) (risingQ n k) s (by omega)) Tryz.isAgg42 Tryz.sizeOf42 (read_cells (k := 5) (fun _ => rfl) ((fun _ => rfl)) (risingQ n k) 0 s (by omega)) (.inl rfl) ?_)))))))); clear h; intro a w h
        refine gL h (zz zeroQ fun b13 => za rfl (zt' rfl rfl (st_5_0_5 _ _ _ _ _ _ _ _ _ _) uu Tryz.sizeOf42 rfl nb rfl ?_)); clear h; intro a w h
        refine gL h (zn (yD mixed_YtfmbhcnanphckaaGreatDoor [0, 1, 2, 4, 5, 6, 7, 3, 8, 9, 10, 11, 12] (floatsOK_none (by kernel_rfl)) (yd rfl rfl mr Tryz.isAgg42 Tryz.sizeOf42 (rd_5_0_5 _ _ _ _ _) ?_))); clear h
        refine yd rfl rfl mr Tryz.isAgg42 Tryz.sizeOf42 (rd_5_0_5 _ _ _ _ _) ?_
        refine yd rfl rfl mr Tryz.isAgg42 Tryz.sizeOf42 (rd_5_0_5 _ _ _ _ _) ?_
        refine yd rfl rfl mr Tryz.isAgg42 Tryz.sizeOf42 (rd_5_0_5 _ _ _ _ _) ?_
        refine yp rfl (.move rfl) (yp rfl (.move rfl) (yp rfl (.move rfl) (yv [_, _] rfl rfl Tryz.call44 (C_QMul _ _ (by omega) (by omega)) ?_)))
        have hl44 := lenQ_mul ((risingQ n i).getD p 0) ((risingQ n j).getD q 0)
        refine yv [_, _, _] rfl rfl Tryz.call45 (C_Moment _ _ _ (by omega) (by omega) (by omega)) ?_
        have hl49 := lenQ_moment (p) (q) (s) (by omega) (by omega) (by omega)
        refine yv [_, _] rfl rfl Tryz.call44 (C_QMul _ _ (by omega) (by omega)) ?_
        have hl50 := lenQ_mul ((risingQ n k).getD s 0) (momentQ p q s)
        refine yv [_, _] rfl rfl Tryz.call44 (C_QMul _ _ (by omega) (by omega)) ?_
        have hl51 := lenQ_mul (((risingQ n i).getD p 0) * ((risingQ n j).getD q 0)) (((risingQ n k).getD s 0) * (momentQ p q s))
        refine yv [_, _] rfl rfl Tryz.call30 (C_QAdd _ _ (by omega) (by omega)) ?_
        have hl52 := lenQ_add (w3 (w2 (w1 (risingQ n i) (risingQ n j) (risingQ n k) (j + 1) (k + 1) p) ((risingQ n i).getD p 0) (risingQ n j) (risingQ n k) p (k + 1) q) (((risingQ n i).getD p 0) * ((risingQ n j).getD q 0)) (risingQ n k) p q s) ((((risingQ n i).getD p 0) * ((risingQ n j).getD q 0)) * (((risingQ n k).getD s 0) * (momentQ p q s)))
        refine yt rfl rfl rfl (st_5_0_5 _ _ _ _ _ _ _ _ _ _) uu Tryz.sizeOf42 rfl nb rfl ?_
        refine yn (zr (zp (Pure1.cast (v' := (.int .i64 ((s + 1 : Nat) : Int))) (.add rfl rfl) (by show Value.int _ _ = Value.int _ _; congr 1)) (zm rfl (zn ?_)))); intro a w h
        exact ⟨s + 1, ⟨by omega, ((h.drop sl).factsSub (by simp)).sub sA⟩, by omega⟩
      · skip
        have heq_s : (k + 1) = s := by have := of_decide_eq_false hc37; omega
        subst heq_s
        refine gC h (ze (zr (zp (Pure1.cast (v' := (.int .i64 ((q + 1 : Nat) : Int))) (.add rfl rfl) (by show Value.int _ _ = Value.int _ _; congr 1)) (zm rfl (zn ?_))))); clear h; intro a w h
        exact ⟨q + 1, ⟨by omega, ((h.drop sl).factsSub (by simp)).sub sA⟩, by omega⟩
    · skip
      have heq_q : (j + 1) = q := by have := of_decide_eq_false hc28; omega
      subst heq_q
      refine gC h (ze (zr (zp (Pure1.cast (v' := (.int .i64 ((p + 1 : Nat) : Int))) (.add rfl rfl) (by show Value.int _ _ = Value.int _ _; congr 1)) (zm rfl (zn ?_))))); clear h; intro a w h
      exact ⟨p + 1, ⟨by omega, ((h.drop sl).factsSub (by simp)).sub sA⟩, by omega⟩
  · skip
    have heq_p : (i + 1) = p := by have := of_decide_eq_false hc19; omega
    subst heq_p
    refine gC h (ze (zs (zr (zd rfl mr Tryz.isAgg42 Tryz.sizeOf42 (rd_5_0_5 _ _ _ _ _) ?_)))); clear h; intro a w h
    refine gL h (zt' rfl rfl (st_5_0_5 _ _ _ _ _ _ _ _ _ _) uu Tryz.sizeOf42 rfl nb rfl ?_); clear h; intro a w h
    refine wpList_nil (wp_ret ?_)
    refine retV h (results1 h rfl (.cell rfl mr Tryz.isAgg42 Tryz.sizeOf42 (rd_5_0_5 _ _ _ _ _))) ?_
    rfl

/-- The values of f over a triangle's lattice, row by row. -/
def rowT {α : Type} (f : Nat → Nat → Nat → α) (n r : Nat) : Nat → List α
  | 0 => []
  | q + 1 => rowT f n r q ++ [f (n - r) (r - q) q]
def triT {α : Type} (f : Nat → Nat → Nat → α) (n : Nat) : Nat → List α
  | 0 => []
  | r + 1 => triT f n r ++ rowT f n r (r + 1)
theorem tri_row {α : Type} (f : Nat → Nat → Nat → α) (n r q : Nat) : triT f n r ++ rowT f n r (q + 1) = (triT f n r ++ rowT f n r q) ++ [f (n - r) (r - q) q] := (List.append_assoc _ _ _).symm
theorem rowT_len {α : Type} (f : Nat → Nat → Nat → α) (n r : Nat) : ∀ q, (rowT f n r q).length = q
  | 0 => rfl
  | q + 1 => by rw [rowT, List.length_append, rowT_len f n r q]; rfl
theorem triT_len {α : Type} (f : Nat → Nat → Nat → α) (n : Nat) : ∀ r, r ≤ 10 → (triT f n r).length ≤ 10 * r
  | 0, _ => by simp [triT]
  | r + 1, h => by have := triT_len f n r (by omega); rw [triT, List.length_append, rowT_len]; omega
def ptQ (n i j k : Nat) : Rat × Rat × Rat := ((((i : Nat) : Int) : Rat) / (((n : Nat) : Int) : Rat), (((j : Nat) : Int) : Rat) / (((n : Nat) : Int) : Rat), (((k : Nat) : Int) : Rat) / (((n : Nat) : Int) : Rat))
def latP (n : Nat) : List (Rat × Rat × Rat) := triT (ptQ n) n (n + 1)
def latW (n : Nat) : List Rat := triT (weightQ n) n (n + 1)

theorem C_Lattice (n : Nat) (h1 : 1 ≤ n) (h6 : n ≤ 6) (hs : ∀ m, m ≤ 9 → ∀ x ∈ risingQ n m, lenQ x ≤ 1000) :
    Ctr Tryz.prog 11 [.int .i64 ((n : Nat) : Int)] [] (fun v Ψ => ∃ ad1 c1 ad2 c2, v = .tuple #[.agg #[.slice ad1 (latP n).length c1, .slice ad2 (latW n).length c2], .int .i64 0] ∧ Ψ = [Row ad2 (cellsOf encQ (latW n)), Row ad1 (cellsOf encP (latP n))]) := by
  refine fn_intro Tryz.func11 rfl Tryz.ntmps11 nb ?_
  intro S w0 a hS h
  refine gC h (zs (zr (zx rfl fun b1 => ?_))); clear h; intro a w h
  replace h := h.shareAll hS ([.int .i64 ((n : Nat) : Int)]) rfl
  refine gL h (zz Tryz.zeroValue25 fun b2 => za rfl (zn (zs (zb (zs (zr (zD (b := b1) (off := 0) (j := 0) (M := [.int .i64 ((n : Nat) : Int)]) (v := .int .i64 ((n : Nat) : Int)) rfl mm (Nat.succ_pos _) Tryz.isAgg3 Tryz.sizeOf3 rfl (.inr rfl) ?_))))))); clear h; intro a w h
  refine gL h (zp (.lss rfl rfl) (za rfl (zn ?_))); clear h; intro a w h
  change Code.wp _ _ _ _ _
  refine cond_split h rfl (fun hc9 => (by exfalso; have := of_decide_eq_true hc9; omega)) (fun hc9 => ?_)
  refine gC h (zs (zr (zD (b := b1) (off := 0) (j := 0) (M := [.int .i64 ((n : Nat) : Int)]) (v := .int .i64 ((n : Nat) : Int)) rfl mm (Nat.succ_pos _) Tryz.isAgg3 Tryz.sizeOf3 rfl (.inr rfl) ?_))); clear h; intro a w h
  refine gL h (zp (.gtr rfl rfl) (za rfl (zn ?_))); clear h; intro a w h
  change Code.wp _ _ _ _ _
  refine cond_split h rfl (fun hc13 => (by exfalso; have := of_decide_eq_true hc13; omega)) (fun hc13 => ?_)
  refine gC h (zk (zs (zr (zz Tryz.zeroValue25 fun b4 => zn (zs (zr (zp (.makeFunc [] [_] rfl rfl) (za rfl (zn (zs (zs (zr (zD (b := b1) (off := 0) (j := 0) (M := [.int .i64 ((n : Nat) : Int)]) (v := .int .i64 ((n : Nat) : Int)) rfl mm (Nat.succ_pos _) Tryz.isAgg3 Tryz.sizeOf3 rfl (.inr rfl) ?_))))))))))))); clear h; intro a w h
  refine gL h (za rfl (zn (zb ?_))); clear h; intro a w h
  refine wp_loop_inv (fun (r : Nat) a w => r ≤ (n + 1) ∧ ∃ (ad1 : Option Addr) (c1 : Nat) (o1 : List (Nat × Obj)) (ad2 : Option Addr) (c2 : Nat) (o2 : List (Nat × Obj)), (GrowO 15 55 (.slice ad1 (triT (ptQ n) n r).length c1) (triT (ptQ n) n r).length (cellsOf encP (triT (ptQ n) n r)) o1 ∧ GrowO 5 42 (.slice ad2 (triT (weightQ n) n r).length c2) (triT (weightQ n) n r).length (cellsOf encQ (triT (weightQ n) n r)) o2) ∧ St 61 S w0 [(1, .pointer (some ⟨b1, 0, none⟩)), (2, .pointer (some ⟨b2, 0, none⟩)), (3, .int .i64 0), (4, .pointer (some ⟨b4, 0, none⟩)), (5, .func (.func 42) #[] #[.pointer (some ⟨b1, 0, none⟩)]), (6, .int .i64 (((n : Nat) : Int) - ((r : Nat) : Int))), (18, .int .i64 ((n : Nat) : Int))] (o2 ++ (o1 ++ ((b4, .cells (Value.cells (.agg #[(.slice ad1 (triT (ptQ n) n r).length c1), (.slice ad2 (triT (weightQ n) n r).length c2)])) 25 (0, 0)) :: ((b2, .cells (Value.cells (.agg #[.slice none 0 0, .slice none 0 0])) 25 (0, 0)) :: [])))) [Row (some ⟨b1, 0, none⟩) ([.int .i64 ((n : Nat) : Int)])] a w) (fun r => (n + 1) - r) 0 (⟨Nat.zero_le _, none, 0, [], none, 0, [], ⟨GrowO.nil _ _, GrowO.nil _ _⟩, by exact (h).sub (subL ⟨rfl, rfl, rfl, rfl, rfl, rfl, rfl, trivial⟩)⟩) ?_; clear h
  rintro r a w ⟨hi_r, ad1, c1, o1, ad2, c2, o2, ⟨hG1, hG2⟩, h⟩
  refine gC h (zs (zs (zr (zm rfl (zp (.geq rfl rfl) (zn ?_)))))); clear h; intro a w h
  change Code.wp _ _ _ _ _
  refine cond_split h rfl (fun hc20 => ?_) (fun hc20 => ?_)
  · skip
    have hlt_r : r < (n + 1) := by have := of_decide_eq_true hc20; omega
    rw [show ((n : Nat) : Int) - ((r : Nat) : Int) = ((n - r : Nat) : Int) from by omega] at h
    refine gC h (zk (zs (zb (zs (zr (zD (b := b1) (off := 0) (j := 0) (M := [.int .i64 ((n : Nat) : Int)]) (v := .int .i64 ((n : Nat) : Int)) rfl mm (Nat.succ_pos _) Tryz.isAgg3 Tryz.sizeOf3 rfl (.inr rfl) ?_)))))); clear h; intro a w h
    refine gL h (zm rfl (zp (Pure1.cast (v' := .int .i64 ((r : Nat) : Int)) (.sub rfl rfl) (by show Value.int _ _ = Value.int _ _; congr 1; omega)) (za rfl (zn (zb ?_))))); clear h; intro a w h
    refine wp_loop_inv (fun (q : Nat) a w => q ≤ (r + 1) ∧ ∃ (ad3 : Option Addr) (c3 : Nat) (o3 : List (Nat × Obj)) (ad4 : Option Addr) (c4 : Nat) (o4 : List (Nat × Obj)), (GrowO 15 55 (.slice ad3 (triT (ptQ n) n r ++ rowT (ptQ n) n r q).length c3) (triT (ptQ n) n r ++ rowT (ptQ n) n r q).length (cellsOf encP (triT (ptQ n) n r ++ rowT (ptQ n) n r q)) o3 ∧ GrowO 5 42 (.slice ad4 (triT (weightQ n) n r ++ rowT (weightQ n) n r q).length c4) (triT (weightQ n) n r ++ rowT (weightQ n) n r q).length (cellsOf encQ (triT (weightQ n) n r ++ rowT (weightQ n) n r q)) o4) ∧ St 61 S w0 [(1, .pointer (some ⟨b1, 0, none⟩)), (2, .pointer (some ⟨b2, 0, none⟩)), (3, .int .i64 0), (4, .pointer (some ⟨b4, 0, none⟩)), (5, .func (.func 42) #[] #[.pointer (some ⟨b1, 0, none⟩)]), (6, .int .i64 ((n - r : Nat) : Int)), (7, .int .i64 (((r : Nat) : Int) - ((q : Nat) : Int))), (18, .int .i64 ((n : Nat) : Int)), (25, .int .i64 ((r : Nat) : Int))] (o4 ++ (o3 ++ ((b4, .cells (Value.cells (.agg #[(.slice ad3 (triT (ptQ n) n r ++ rowT (ptQ n) n r q).length c3), (.slice ad4 (triT (weightQ n) n r ++ rowT (weightQ n) n r q).length c4)])) 25 (0, 0)) :: ((b2, .cells (Value.cells (.agg #[.slice none 0 0, .slice none 0 0])) 25 (0, 0)) :: [])))) [Row (some ⟨b1, 0, none⟩) ([.int .i64 ((n : Nat) : Int)])] a w) (fun q => (r + 1) - q) 0 (⟨Nat.zero_le _, ad1, c1, o1, ad2, c2, o2, ⟨by simp only [rowT, List.append_nil]; exact hG1, by simp only [rowT, List.append_nil]; exact hG2⟩, by simp only [rowT, List.append_nil]; exact (h).sub (subL ⟨rfl, rfl, rfl, rfl, rfl, rfl, rfl, rfl, rfl, trivial⟩)⟩) ?_; clear h
    rintro q a w ⟨hi_q, ad3, c3, o3, ad4, c4, o4, ⟨hG3, hG4⟩, h⟩
    refine gC h (zs (zs (zr (zm rfl (zp (.geq rfl rfl) (zn ?_)))))); clear h; intro a w h
    change Code.wp _ _ _ _ _
    refine cond_split h rfl (fun hc27 => ?_) (fun hc27 => ?_)
    · skip
      have hlt_q : q < (r + 1) := by have := of_decide_eq_true hc27; omega
      rw [show ((r : Nat) : Int) - ((q : Nat) : Int) = ((r - q : Nat) : Int) from by omega] at h
      refine gC h (zk (zs (zb (zs (zr (zD (b := b1) (off := 0) (j := 0) (M := [.int .i64 ((n : Nat) : Int)]) (v := .int .i64 ((n : Nat) : Int)) rfl mm (Nat.succ_pos _) Tryz.isAgg3 Tryz.sizeOf3 rfl (.inr rfl) ?_)))))); clear h; intro a w h
      refine gL h (zm rfl (zp (Pure1.cast (v' := (.int .i64 ((n - (n - r) : Nat) : Int))) (.sub rfl rfl) (by show Value.int _ _ = Value.int _ _; congr 1; omega)) (zm rfl (zp (Pure1.cast (v' := .int .i64 ((q : Nat) : Int)) (Pure1.cast (v' := (.int .i64 (((n - (n - r)) - (r - q) : Nat) : Int))) (.sub rfl rfl) (by show Value.int _ _ = Value.int _ _; congr 1; omega)) (by show Value.int _ _ = Value.int _ _; congr 1; omega)) (za rfl (zn (zs (yD mixed_YtfmbhcnanphckaaGreatDoor [0, 1, 2, 3, 5, 6, 8, 9, 4, 7, 10, 11, 12, 13, 14, 15] (floatsOK_none (by kernel_rfl)) (yp rfl (.fieldAddr rfl (fa_25_0 _ _)) (yd rfl rfl mr Tryz.isAgg22 Tryz.sizeOf22 (rs_2_0 _ _) ?_)))))))))); clear h
      refine yp rfl (.move rfl) ?_
      refine head_loadRow (b := b1) (off := 0) (j := 0) (M := [.int .i64 ((n : Nat) : Int)]) (v := .int .i64 ((n : Nat) : Int)) rfl (by kernel_rfl) rfl mm (Nat.succ_pos _) Tryz.isAgg3 Tryz.sizeOf3 rfl (.inr rfl) (by decide) ?_
      refine yp rfl (.move rfl) ?_
      refine head_loadRow (b := b1) (off := 0) (j := 0) (M := [.int .i64 ((n : Nat) : Int)]) (v := .int .i64 ((n : Nat) : Int)) rfl (by kernel_rfl) rfl mm (Nat.succ_pos _) Tryz.isAgg3 Tryz.sizeOf3 rfl (.inr rfl) (by decide) ?_
      refine yp rfl (.move rfl) ?_
      refine head_loadRow (b := b1) (off := 0) (j := 0) (M := [.int .i64 ((n : Nat) : Int)]) (v := .int .i64 ((n : Nat) : Int)) rfl (by kernel_rfl) rfl mm (Nat.succ_pos _) Tryz.isAgg3 Tryz.sizeOf3 rfl (.inr rfl) (by decide) ?_
      refine yv [_, _] rfl rfl Tryz.call46 (C_rratio _ _ (by omega) (by omega) (by omega) (by omega) (by omega)) ?_
      have hl39 := lenQ_of (((n - r : Nat) : Int)) (((n : Nat) : Int)) (by omega) (by omega) (by omega) (by omega)
      refine yv [_, _] rfl rfl Tryz.call46 (C_rratio _ _ (by omega) (by omega) (by omega) (by omega) (by omega)) ?_
      have hl42 := lenQ_of (((r - q : Nat) : Int)) (((n : Nat) : Int)) (by omega) (by omega) (by omega) (by omega)
      refine yv [_, _] rfl rfl Tryz.call46 (C_rratio _ _ (by omega) (by omega) (by omega) (by omega) (by omega)) ?_
      have hl45 := lenQ_of (((q : Nat) : Int)) (((n : Nat) : Int)) (by omega) (by omega) (by omega) (by omega)
      refine yp rfl (.build [(_, _), (_, _), (_, _)] rfl (bd_55_0_1_2 _ _ _ _ _ _ _ _ _ _ _ _ _ _ _)) (yB rfl [(_, _)] rfl (bs_22_1_0 _ _ _ _ _ _ _ _ _ _ _ _ _ _ _) fun b47 => ?_)
      refine head_appendO (σr := (o4 ++ ((b4, .cells (Value.cells (.agg #[(.slice ad3 (triT (ptQ n) n r ++ rowT (ptQ n) n r q).length c3), (.slice ad4 (triT (weightQ n) n r ++ rowT (weightQ n) n r q).length c4)])) 25 (0, 0)) :: ((b2, .cells (Value.cells (.agg #[.slice none 0 0, .slice none 0 0])) 25 (0, 0)) :: [])))) rfl (by kernel_rfl) rfl rfl (List.Perm.trans (List.Perm.refl _) (List.Perm.cons _ (pm_aa (List.Perm.refl _)))) hG3 Tryz.runUnderlying22 Tryz.runUnderlying22 Tryz.typeInfo55 Tryz.sizeOf55 zeroP rfl (by decide) (by decide) rfl rfl (by decide) (by show 168 * (2 * ((triT (ptQ n) n r ++ rowT (ptQ n) n r q).length + 1) + 192) ≤ 281474976710656; have h1 := triT_len (ptQ n) n r (by omega); have h2 := triT_len (weightQ n) n r (by omega); have h3 := rowT_len (ptQ n) n r q; have h4 := rowT_len (weightQ n) n r q; simp only [List.length_append]; omega) (by decide) ?_
      intro v48 o48 hG48
      obtain ⟨ad48, c48, rfl⟩ := hG48.is
      have hLn48 : (triT (ptQ n) n r ++ rowT (ptQ n) n r q).length + 1 = ((triT (ptQ n) n r ++ rowT (ptQ n) n r q) ++ [(((((n - r : Nat) : Int) : Int) : Rat) / ((((n : Nat) : Int) : Int) : Rat), ((((r - q : Nat) : Int) : Int) : Rat) / ((((n : Nat) : Int) : Int) : Rat), ((((q : Nat) : Int) : Int) : Rat) / ((((n : Nat) : Int) : Int) : Rat))]).length := by simp only [List.length_append, List.length_cons, List.length_nil, Nat.zero_add]
      rw [hLn48]; rw [hLn48] at hG48
      replace hG48 : GrowO 15 55 (.slice ad48 ((triT (ptQ n) n r ++ rowT (ptQ n) n r q) ++ [(((((n - r : Nat) : Int) : Int) : Rat) / ((((n : Nat) : Int) : Int) : Rat), ((((r - q : Nat) : Int) : Int) : Rat) / ((((n : Nat) : Int) : Int) : Rat), ((((q : Nat) : Int) : Int) : Rat) / ((((n : Nat) : Int) : Int) : Rat))]).length c48) ((triT (ptQ n) n r ++ rowT (ptQ n) n r q) ++ [(((((n - r : Nat) : Int) : Int) : Rat) / ((((n : Nat) : Int) : Int) : Rat), ((((r - q : Nat) : Int) : Int) : Rat) / ((((n : Nat) : Int) : Int) : Rat), ((((q : Nat) : Int) : Int) : Rat) / ((((n : Nat) : Int) : Int) : Rat))]).length (cellsOf encP ((triT (ptQ n) n r ++ rowT (ptQ n) n r q) ++ [(((((n - r : Nat) : Int) : Int) : Rat) / ((((n : Nat) : Int) : Int) : Rat), ((((r - q : Nat) : Int) : Int) : Rat) / ((((n : Nat) : Int) : Int) : Rat), ((((q : Nat) : Int) : Int) : Rat) / ((((n : Nat) : Int) : Int) : Rat))])) o48 := by rw [cellsOf_append, cellsOf_one]; exact hG48
      refine yp rfl (.fieldAddr rfl (fa_25_0 _ _)) (yt rfl rfl rfl (st_2_0_1 _ _ _) uu Tryz.sizeOf22 rfl nb (by show ((flat ((.slice ad48 ((triT (ptQ n) n r ++ rowT (ptQ n) n r q) ++ [(((((n - r : Nat) : Int) : Int) : Rat) / ((((n : Nat) : Int) : Int) : Rat), ((((r - q : Nat) : Int) : Int) : Rat) / ((((n : Nat) : Int) : Int) : Rat), ((((q : Nat) : Int) : Int) : Rat) / ((((n : Nat) : Int) : Int) : Rat))]).length c48)) && true)) = true; simp only [GrowO.flat (hG48)]; rfl) ?_)
      refine yn (yD mixed_YtfmbhcnanphckaaGreatDoor [0, 1, 2, 3, 4, 5, 6, 7, 8, 9, 10] (floatsOK_none (by kernel_rfl)) (yp rfl (.fieldAddr rfl (fa_25_1 _ _)) (yd rfl rfl mr Tryz.isAgg23 Tryz.sizeOf23 (rs_2_1 _ _) ?_)))
      refine yp rfl (.move rfl) (yp rfl (.move rfl) (yp rfl (.move rfl) (yp rfl (.move rfl) ?_)))
      refine head_callWx rfl (by kernel_rfl) (fs := []) (cs := [.pointer (some ⟨b1, 0, none⟩)]) rfl (vs := [_, _, _]) rfl Tryz.call42 (C_weight n (n - r) (r - q) q b1 0 (by omega) (by omega) (by omega) (by omega) hs) (by simp) (by decide) ?_
      refine yB rfl [(_, _)] rfl (bs_23_1_0 _ _ _ _ _) fun b57 => ?_
      refine head_appendO (σr := (o48 ++ ((b4, .cells (Value.cells (.agg #[(.slice ad48 ((triT (ptQ n) n r ++ rowT (ptQ n) n r q) ++ [(((((n - r : Nat) : Int) : Int) : Rat) / ((((n : Nat) : Int) : Int) : Rat), ((((r - q : Nat) : Int) : Int) : Rat) / ((((n : Nat) : Int) : Int) : Rat), ((((q : Nat) : Int) : Int) : Rat) / ((((n : Nat) : Int) : Int) : Rat))]).length c48), (.slice ad4 (triT (weightQ n) n r ++ rowT (weightQ n) n r q).length c4)])) 25 (0, 0)) :: ((b2, .cells (Value.cells (.agg #[.slice none 0 0, .slice none 0 0])) 25 (0, 0)) :: [])))) rfl (by kernel_rfl) rfl rfl (List.Perm.trans (List.Perm.refl _) (List.Perm.cons _ (pm_aa (List.Perm.refl _)))) hG4 Tryz.runUnderlying23 Tryz.runUnderlying23 Tryz.typeInfo42 Tryz.sizeOf42 zeroQ rfl (by decide) (by decide) rfl rfl (by decide) (by show 56 * (2 * ((triT (weightQ n) n r ++ rowT (weightQ n) n r q).length + 1) + 192) ≤ 281474976710656; have h1 := triT_len (ptQ n) n r (by omega); have h2 := triT_len (weightQ n) n r (by omega); have h3 := rowT_len (ptQ n) n r q; have h4 := rowT_len (weightQ n) n r q; simp only [List.length_append]; omega) (by decide) ?_
      intro v58 o58 hG58
      obtain ⟨ad58, c58, rfl⟩ := hG58.is
      have hLn58 : (triT (weightQ n) n r ++ rowT (weightQ n) n r q).length + 1 = ((triT (weightQ n) n r ++ rowT (weightQ n) n r q) ++ [weightQ n (n - r) (r - q) q]).length := by simp only [List.length_append, List.length_cons, List.length_nil, Nat.zero_add]
      rw [hLn58]; rw [hLn58] at hG58
      replace hG58 : GrowO 5 42 (.slice ad58 ((triT (weightQ n) n r ++ rowT (weightQ n) n r q) ++ [weightQ n (n - r) (r - q) q]).length c58) ((triT (weightQ n) n r ++ rowT (weightQ n) n r q) ++ [weightQ n (n - r) (r - q) q]).length (cellsOf encQ ((triT (weightQ n) n r ++ rowT (weightQ n) n r q) ++ [weightQ n (n - r) (r - q) q])) o58 := by rw [cellsOf_append, cellsOf_one]; exact hG58
      refine yp rfl (.fieldAddr rfl (fa_25_1 _ _)) (yt rfl rfl rfl (st_2_1_1 _ _ _) uu Tryz.sizeOf23 rfl nb (by show ((flat ((.slice ad58 ((triT (weightQ n) n r ++ rowT (weightQ n) n r q) ++ [weightQ n (n - r) (r - q) q]).length c58)) && true)) = true; simp only [GrowO.flat (hG58)]; rfl) ?_)
      refine yn (zr (zm rfl (zp (Pure1.cast (v' := .int .i64 (((r : Nat) : Int) - ((q + 1 : Nat) : Int))) (.sub rfl rfl) (by show Value.int _ _ = Value.int _ _; congr 1; omega)) (za rfl (zn ?_))))); intro a w h
      exact ⟨q + 1, ⟨by omega, ad48, c48, o48, ad58, c58, o58, ⟨by rw [tri_row]; exact hG48, by rw [tri_row]; exact hG58⟩, by rw [tri_row, tri_row]; exact by exact h.sub sA⟩, by omega⟩
    · skip
      have heq_q : (r + 1) = q := by have := of_decide_eq_false hc27; omega
      subst heq_q
      refine gC h (ze (zr (zm rfl (zp (Pure1.cast (v' := .int .i64 (((n : Nat) : Int) - ((r + 1 : Nat) : Int))) (.sub rfl rfl) (by show Value.int _ _ = Value.int _ _; congr 1; omega)) (za rfl (zn ?_)))))); clear h; intro a w h
      exact ⟨r + 1, ⟨by omega, ad3, c3, o3, ad4, c4, o4, ⟨hG3, hG4⟩, by exact h.sub sA⟩, by omega⟩
  · skip
    have heq_r : (n + 1) = r := by have := of_decide_eq_false hc20; omega
    subst heq_r
    refine gC h (ze (zs (zr (zd rfl mr Tryz.isAgg25 Tryz.sizeOf25 (rd_2_0_2 _ _) ?_)))); clear h; intro a w h
    refine gL h (zt' rfl rfl (st_2_0_2 _ _ _ _) uu Tryz.sizeOf25 rfl nb (by show ((flat ((.slice ad1 (triT (ptQ n) n (n + 1)).length c1)) && (flat ((.slice ad2 (triT (weightQ n) n (n + 1)).length c2)) && true))) = true; simp only [GrowO.flat (hG1), GrowO.flat (hG2)]; rfl) ?_); clear h; intro a w h
    refine gL h (za rfl (zn (zt ?_))); clear h; intro a w h
    replace h := (St.shareO' (St.shareO' (h.perm (pm_aa (List.Perm.refl _)).symm) hS hG1) hS hG2)
    refine ret_of (Ψ := [Row ad2 (cellsOf encQ (latW n)), Row ad1 (cellsOf encP (latP n))]) h (results2 h rfl (.cell rfl mr Tryz.isAgg25 Tryz.sizeOf25 (rd_2_0_2 _ _)) (.tmp rfl)) ⟨ad1, c1, ad2, c2, rfl, rfl⟩ (by simp [latP, latW])
end Go.Proofs.YtfmbhcnanphckaaGreatDoor
