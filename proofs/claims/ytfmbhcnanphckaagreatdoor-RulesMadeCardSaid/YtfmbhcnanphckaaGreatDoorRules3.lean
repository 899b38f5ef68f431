/- Written by a program of ours (gen.py) out of short specifications. By an AI agent. -/
import Derived.Test.YtfmbhcnanphckaaGreatDoorRules2
import Derived.Test.YtfmbhcnanphckaaGreatDoorFxZ
set_option linter.unusedVariables false
set_option linter.unusedSimpArgs false
set_option maxRecDepth 4000
namespace Go.Proofs.YtfmbhcnanphckaaGreatDoor
open Go Go.Proofs Go.Fx
attribute [local irreducible] Oper.wp Code.wp wpList Fx.Head wpOp
theorem fa_25_0 (b off : Nat) (w : World) : (Instr.fieldAt 25 (.pointer (some ⟨b, off, none⟩)) 0).run Tryz.prog w = .ok (.pointer (some ⟨b, off + 0, none⟩)) w := by
  simp [go_sem]
theorem len_slice_22 (a : Option Addr) (n c : Nat) (w : World) (ty : TypeId) (cs : Array Bool) : (Go.builtin .len #[22] ty cs #[.slice a n c]).run Tryz.prog w = .ok (.value (.int .i64 n)) w := by
  simp [go_sem]
theorem fa_25_1 (b off : Nat) (w : World) : (Instr.fieldAt 25 (.pointer (some ⟨b, off, none⟩)) 1).run Tryz.prog w = .ok (.pointer (some ⟨b, off + 1, none⟩)) w := by
  simp [go_sem]
theorem ix_22 (b off n c j : Nat) (h : j < n) (w : World) : (Instr.indexAt 22 (.slice (some ⟨b, off, none⟩) n c) (.int .i64 (j : Int))).run Tryz.prog w = .ok (.pointer (some ⟨b, off + j * 15, none⟩)) w := by
  simpa using indexAt_slice Tryz.runUnderlying22 Tryz.sizeOf55 b off n c j h w
theorem st_15_0_15 (c0 c1 c2 c3 c4 c5 c6 c7 c8 c9 c10 c11 c12 c13 c14 v0 v1 v2 v3 v4 v5 v6 v7 v8 v9 v10 v11 v12 v13 v14 : Value) : setFrom #[c0, c1, c2, c3, c4, c5, c6, c7, c8, c9, c10, c11, c12, c13, c14] 0 [v0, v1, v2, v3, v4, v5, v6, v7, v8, v9, v10, v11, v12, v13, v14] = #[v0, v1, v2, v3, v4, v5, v6, v7, v8, v9, v10, v11, v12, v13, v14] := by kernel_rfl
theorem sla_55 (b off : Nat) (w : World) : (Instr.sliceAt 55 (.pointer (some ⟨b, off, none⟩)) none none none).run Tryz.prog w = .ok (.slice (some ⟨b, off, none⟩) 3 3) w := by
  simp [go_sem, Instr.sliceAt, Instr.sliceBounds]
theorem ixc_55_0 (b off : Nat) (w : World) : (Instr.indexAt 55 (.pointer (some ⟨b, off, none⟩)) (.int .i64 0)).run Tryz.prog w = .ok (.pointer (some ⟨b, off + 0, none⟩)) w := by
  simp [go_sem, Instr.indexAt]
theorem rd_15_0_5 (c0 c1 c2 c3 c4 c5 c6 c7 c8 c9 c10 c11 c12 c13 c14 : Value) : readAt true 5 #[c0, c1, c2, c3, c4, c5, c6, c7, c8, c9, c10, c11, c12, c13, c14] 0 = some (.agg #[c0, c1, c2, c3, c4]) := rfl
theorem ixc_55_1 (b off : Nat) (w : World) : (Instr.indexAt 55 (.pointer (some ⟨b, off, none⟩)) (.int .i64 1)).run Tryz.prog w = .ok (.pointer (some ⟨b, off + 5, none⟩)) w := by
  simp [go_sem, Instr.indexAt]
theorem rd_15_5_5 (c0 c1 c2 c3 c4 c5 c6 c7 c8 c9 c10 c11 c12 c13 c14 : Value) : readAt true 5 #[c0, c1, c2, c3, c4, c5, c6, c7, c8, c9, c10, c11, c12, c13, c14] 5 = some (.agg #[c5, c6, c7, c8, c9]) := rfl
theorem ixc_55_2 (b off : Nat) (w : World) : (Instr.indexAt 55 (.pointer (some ⟨b, off, none⟩)) (.int .i64 2)).run Tryz.prog w = .ok (.pointer (some ⟨b, off + 10, none⟩)) w := by
  simp [go_sem, Instr.indexAt]
theorem rd_15_10_5 (c0 c1 c2 c3 c4 c5 c6 c7 c8 c9 c10 c11 c12 c13 c14 : Value) : readAt true 5 #[c0, c1, c2, c3, c4, c5, c6, c7, c8, c9, c10, c11, c12, c13, c14] 10 = some (.agg #[c10, c11, c12, c13, c14]) := rfl
def sum3 (p : Rat × Rat × Rat) : Rat := [p.1, p.2.1, p.2.2].foldl (· + ·) 0
/-- What Check answers. -/
def checkI (ps : List (Rat × Rat × Rat)) (ws : List Rat) : Int := if ps.length = ws.length then (if ∀ p ∈ ps, sum3 p = ((1 : Int) : Rat) then 0 else 1) else 1
theorem take_all {α : Type} {p : α → Prop} {l : List α} {i : Nat} {d : α} (h : ∀ x ∈ l.take i, p x) (hi : i < l.length) (hp : p (l.getD i d)) : ∀ x ∈ l.take (i + 1), p x := by
  intro x hx
  rw [List.take_add_one, List.getElem?_eq_getElem hi] at hx
  simp only [Option.toList_some, List.mem_append, List.mem_singleton] at hx
  rcases hx with hx | hx
  · exact h x hx
  · subst hx; simpa [List.getD, List.getElem?_eq_getElem hi] using hp

theorem C_Check (ad1 ad2 : Option Addr) (c1 c2 : Nat) (ps : List (Rat × Rat × Rat)) (ws : List Rat) (hnp : ps.length ≤ 1000) (hnw : ws.length ≤ 1000) (hps : ∀ p ∈ ps, lenQ p.1 ≤ 1000 ∧ lenQ p.2.1 ≤ 1000 ∧ lenQ p.2.2 ≤ 1000) :
    CtrW Tryz.prog 26 [.agg #[.slice ad1 ps.length c1, .slice ad2 ws.length c2]] [Row ad1 (cellsOf encP ps), Row ad2 (cellsOf encQ ws)] (.int .i64 (checkI ps ws)) := by
  refine fn_intro Tryz.func26 rfl Tryz.ntmps26 nb ?_
  intro S w0 a hS h
  refine gC h (zs (zr (zx rfl fun b1 => za rfl (zn (zs (zs (zr (zp (.fieldAddr rfl (fa_25_0 _ _)) (zd rfl mr Tryz.isAgg22 Tryz.sizeOf22 (rs_2_0 _ _) ?_))))))))); clear h; intro a w h
  refine gL h (zp (.builtin [_] rfl (len_slice_22 _ _ _)) (zp (.fieldAddr rfl (fa_25_1 _ _)) (zd rfl mr Tryz.isAgg23 Tryz.sizeOf23 (rs_2_1 _ _) ?_))); clear h; intro a w h
  refine gL h (zp (.builtin [_] rfl (len_slice_23 _ _ _)) (zp (.neq rfl rfl) ?_)); clear h; intro a w h
  refine by_bool h (fun hc11 h => ?_) (fun hc11 h => ?_)
  · skip
    have hne : ps.length ≠ ws.length := natNe hc11
    refine wpList_nil ?_
    change Code.wp _ _ _ _ _
    refine cond_true h rfl ?_
    refine gC h (zs (zr (za rfl (zn (zt ?_))))); clear h; intro a w h
    refine retV h (results1 h rfl (.tmp rfl)) ?_
    unfold checkI; rw [if_neg hne]
  · skip
    have hle : ps.length = ws.length := natEq hc11
    refine wpList_nil ?_
    change Code.wp _ _ _ _ _
    refine cond_false h rfl ?_
    refine gC h (zk (zs (zs (zr (zp (.fieldAddr rfl (fa_25_0 _ _)) (zd rfl mr Tryz.isAgg22 Tryz.sizeOf22 (rs_2_0 _ _) ?_)))))); clear h; intro a w h
    refine gL h (zp (.builtin [_] rfl (len_slice_22 _ _ _)) (zm rfl (zn (zb ?_)))); clear h; intro a w h
    refine wp_loop_inv (fun (i : Nat) a w => i ≤ ps.length ∧ (∀ x ∈ ps.take i, sum3 x = ((1 : Int) : Rat)) ∧ St 24 S w0 [(13, .slice ad1 ps.length c1), (14, .int .i64 ((ps.length : Nat) : Int)), (15, .int .i64 ((i : Nat) : Int))] [(b1, .cells (Value.cells (.agg #[.slice ad1 ps.length c1, .slice ad2 ws.length c2])) 25 (0, 0))] [Row ad1 (cellsOf encP ps), Row ad2 (cellsOf encQ ws)] a w) (fun i => ps.length - i) 0 (⟨Nat.zero_le _, by simp, by exact (h).sub (subL ⟨rfl, rfl, rfl, trivial⟩)⟩) ?_; clear h
    rintro i a w ⟨hi_i, hinv_i, h⟩
    refine gC h (zs (zr (zp (.lss rfl rfl) (zn (zs ?_))))); clear h; intro a w h
    refine cond_split h rfl (fun hc16 => ?_) (fun hc16 => ?_)
    · skip
      have hlt_i : i < ps.length := by have := of_decide_eq_true hc16; omega
      obtain ⟨B_ad1, O_ad1, rfl⟩ := h.row_addr (ad := ad1) (M := cellsOf encP ps) mm (by intro e; have := congrArg List.length e; rw [cellsOf_length (k := 15) (fun _ => rfl)] at this; simp only [List.length_nil, Nat.mul_eq_zero] at this; omega)
      have hpi := hps (ps.getD i (0, 0, 0)) (getD_mem _ hlt_i)
      refine gC h (zk (zs (zb (zs (zr (zp (.indexAddr rfl rfl (ix_22 _ _ _ _ _ (by omega))) (zD rfl mm (cells_lt (k := 15) (by decide) (fun _ => rfl) ps i (by omega)) Tryz.isAgg55 Tryz.sizeOf55 (read_cells (k := 15) (fun _ => rfl) ((fun _ => rfl)) ps (0, 0, 0) i (by omega)) (.inl rfl) ?_))))))); clear h; intro a w h
      refine gL h (zz zeroP fun b4 => zt' rfl rfl (st_15_0_15 _ _ _ _ _ _ _ _ _ _ _ _ _ _ _ _ _ _ _ _ _ _ _ _ _ _ _ _ _ _) uu Tryz.sizeOf55 rfl nb rfl ?_); clear h; intro a w h
      refine gL h (zn (zs (zr (zp (.slice rfl none none none rfl rfl rfl (sla_55 _ _)) ?_)))); clear h; intro a w h
      replace h := h.shareAll hS (cellsOf encQ ([(ps.getD i (0, 0, 0)).1, (ps.getD i (0, 0, 0)).2.1, (ps.getD i (0, 0, 0)).2.2])) rfl
      refine gL h (zw [_] rfl Tryz.call19 (C_QSum _ _ [(ps.getD i (0, 0, 0)).1, (ps.getD i (0, 0, 0)).2.1, (ps.getD i (0, 0, 0)).2.2] (by simp) (by intro x hx; simp only [List.mem_cons, List.not_mem_nil, or_false] at hx; rcases hx with rfl | rfl | rfl <;> omega)) (zv [_] rfl Tryz.call20 (C_QInt _ (by omega) (by omega)) ?_)); clear h; intro a w h
      have hl21 := lenQ_int (1) (by omega) (by omega)
      refine gL h (zp (.binOp rfl rfl (fun _ => run_neQ _ _ (sum3 (ps.getD i (0, 0, 0))) (((1 : Int) : Rat)) _)) (zn ?_)); clear h; intro a w h
      change Code.wp _ _ _ _ _
      refine cond_split h rfl (fun hc22 => ?_) (fun hc22 => ?_)
      · skip
        have hbad : ¬ sum3 (ps.getD i (0, 0, 0)) = ((1 : Int) : Rat) := by simpa [sum3] using hc22
        refine gC h (zs (zr (za rfl (zn (zt ?_))))); clear h; intro a w h
        refine retV h (results1 h rfl (.tmp rfl)) ?_
        unfold checkI; rw [if_pos hle, if_neg (fun hh => hbad (hh _ (getD_mem _ hlt_i)))]
      · skip
        have hgood : sum3 (ps.getD i (0, 0, 0)) = ((1 : Int) : Rat) := by simpa [sum3] using hc22
        refine gC h (zk (zr (zp (Pure1.cast (v' := (.int .i64 ((i + 1 : Nat) : Int))) (.add rfl rfl) (by show Value.int _ _ = Value.int _ _; congr 1)) (zm rfl (zn ?_))))); clear h; intro a w h
        exact ⟨i + 1, ⟨by omega, take_all hinv_i hlt_i hgood, (h.factsSub (by simp)).sub sA⟩, by omega⟩
    · skip
      have heq_i : ps.length = i := by have := of_decide_eq_false hc16; omega
      subst heq_i
      refine gC h (ze (zs (zr (za rfl (zn (zt ?_)))))); clear h; intro a w h
      refine retV h (results1 h rfl (.tmp rfl)) ?_
      rw [List.take_length] at hinv_i; unfold checkI; rw [if_pos hle, if_pos hinv_i]

/-- The sum that a rule gives for a monomial: the first n points. -/
def msum (ps : List (Rat × Rat × Rat)) (ws : List Rat) (i j k : Nat) : Nat → Rat
  | 0 => 0
  | n + 1 => msum ps ws i j k n + ws.getD n 0 * ((ps.getD n (0, 0, 0)).1 ^ i * ((ps.getD n (0, 0, 0)).2.1 ^ j * (ps.getD n (0, 0, 0)).2.2 ^ k))
theorem lenQ_msum (ps : List (Rat × Rat × Rat)) (ws : List Rat) (i j k : Nat) (hps : ∀ p ∈ ps, lenQ p.1 ≤ 1000 ∧ lenQ p.2.1 ≤ 1000 ∧ lenQ p.2.2 ≤ 1000) (hws : ∀ x ∈ ws, lenQ x ≤ 1000) (hi : i ≤ 100) (hj : j ≤ 100) (hk : k ≤ 100) (hle : ps.length = ws.length) :
    ∀ n, n ≤ ws.length → lenQ (msum ps ws i j k n) ≤ 2 + 301007 * n
  | 0, _ => by rw [msum]; have := lenQ_zero; omega
  | n + 1, h => by
    have h0 := lenQ_msum ps ws i j k hps hws hi hj hk hle n (by omega)
    have hp := hps (ps.getD n (0, 0, 0)) (getD_mem _ (by omega))
    have hw := hws (ws.getD n 0) (getD_mem _ (by omega))
    rw [msum]
    generalize ps.getD n (0, 0, 0) = p at *
    generalize ws.getD n 0 = x at *
    have a1 := lenQ_powle p.1 i 1000 100 hp.1 hi
    have a2 := lenQ_powle p.2.1 j 1000 100 hp.2.1 hj
    have a3 := lenQ_powle p.2.2 k 1000 100 hp.2.2 hk
    have b1 := lenQ_mul (p.2.1 ^ j) (p.2.2 ^ k)
    have b2 := lenQ_mul (p.1 ^ i) (p.2.1 ^ j * p.2.2 ^ k)
    have b3 := lenQ_mul x (p.1 ^ i * (p.2.1 ^ j * p.2.2 ^ k))
    have b4 := lenQ_add (msum ps ws i j k n) (x * (p.1 ^ i * (p.2.1 ^ j * p.2.2 ^ k)))
    omega
/-- All monomials of degree d have their moments. -/
def okDeg (ps : List (Rat × Rat × Rat)) (ws : List Rat) (d : Nat) : Prop := ∀ i, i < d + 1 → ∀ j, j < d - i + 1 → msum ps ws i j (d - i - j) ws.length = momentQ i j (d - i - j)
instance (ps : List (Rat × Rat × Rat)) (ws : List Rat) (d : Nat) : Decidable (okDeg ps ws d) := by unfold okDeg; infer_instance
def exN (ps : List (Rat × Rat × Rat)) (ws : List Rat) : Nat → Nat → Nat
  | 0, d => d
  | f + 1, d => if okDeg ps ws d then exN ps ws f (d + 1) else d
/-- What Exact answers for a valid rule. -/
def exactI (ps : List (Rat × Rat × Rat)) (ws : List Rat) : Int := (exN ps ws 13 0 : Int) - 1
theorem exN_end (ps : List (Rat × Rat × Rat)) (ws : List Rat) : ∀ (f d e : Nat), d ≤ e → e ≤ d + f → (∀ x, d ≤ x → x < e → okDeg ps ws x) → (e = d + f ∨ ¬ okDeg ps ws e) → exN ps ws f d = e
  | 0, d, e, h1, h2, _, _ => by rw [exN]; omega
  | f + 1, d, e, h1, h2, h3, h4 => by
    rw [exN]
    by_cases h : d = e
    · subst h
      rcases h4 with h4 | h4
      · omega
      · rw [if_neg h4]
    · rw [if_pos (h3 d (Nat.le_refl _) (by omega))]
      exact exN_end ps ws f (d + 1) e (by omega) (by omega) (fun x hx hy => h3 x (by omega) hy) (h4.imp (fun h => by omega) id)

theorem C_Exact (ad1 ad2 : Option Addr) (c1 c2 : Nat) (ps : List (Rat × Rat × Rat)) (ws : List Rat) (hnp : ps.length ≤ 1000) (hnw : ws.length ≤ 1000) (hps : ∀ p ∈ ps, lenQ p.1 ≤ 1000 ∧ lenQ p.2.1 ≤ 1000 ∧ lenQ p.2.2 ≤ 1000) (hws : ∀ x ∈ ws, lenQ x ≤ 1000) (hv : checkI ps ws = 0) :
    CtrW Tryz.prog 21 [.agg #[.slice ad1 ps.length c1, .slice ad2 ws.length c2]] [Row ad1 (cellsOf encP ps), Row ad2 (cellsOf encQ ws)] (.int .i64 (exactI ps ws)) := by
  have hle : ps.length = ws.length := by
    unfold checkI at hv; by_cases h : ps.length = ws.length
    · exact h
    · rw [if_neg h] at hv; cases hv
  refine fn_intro Tryz.func21 rfl Tryz.ntmps21 nb ?_
  intro S w0 a hS h
  refine gC h (zs (zr (zx rfl fun b1 => za rfl (zn (zc (zs (zs (zr (zd rfl mr Tryz.isAgg25 Tryz.sizeOf25 (rd_2_0_2 _ _) ?_))))))))); clear h; intro a w h
  refine gL h (zw [_] rfl Tryz.call26 (C_Check ad1 ad2 c1 c2 ps ws hnp hnw hps) (zp (.neq rfl rfl) (zn ?_))); clear h; intro a w h
  change Code.wp _ _ _ _ _
  refine cond_split h rfl (fun hc13 => (by exfalso; rw [hv] at hc13; exact absurd hc13 (by decide))) (fun hc13 => ?_)
  refine gC h (zk (zs (zr (za rfl (zn (zs (zl (zs (zs (zr (zm rfl (zn (zb ?_))))))))))))); clear h; intro a w h
  refine wp_loop_inv (fun (d : Nat) a w => d ≤ 13 ∧ (∀ x, x < d → okDeg ps ws x) ∧ St 80 S w0 [(1, .pointer (some ⟨b1, 0, none⟩)), (2, .int .i64 0), (3, .int .i64 (((d : Nat) : Int) - 1)), (14, .int .i64 ((d : Nat) : Int))] [(b1, .cells (Value.cells (.agg #[.slice ad1 ps.length c1, .slice ad2 ws.length c2])) 25 (0, 0))] [Row ad1 (cellsOf encP ps), Row ad2 (cellsOf encQ ws)] a w) (fun d => 13 - d) 0 (⟨Nat.zero_le _, fun x hx => absurd hx (Nat.not_lt_zero _), by exact (h).sub (subL ⟨rfl, rfl, rfl, rfl, trivial⟩)⟩) ?_; clear h
  rintro d a w ⟨hi_d, hinv_d, h⟩
  refine gC h (zs (zr (zp (.lss rfl rfl) (zn (zs ?_))))); clear h; intro a w h
  refine cond_split h rfl (fun hc15 => ?_) (fun hc15 => ?_)
  · skip
    have hlt_d : d < 13 := by have := of_decide_eq_true hc15; omega
    refine gC h (zk (zs (zb (zs (zr (zm rfl (za rfl (zn (zs (zs (zr (zm rfl (zp (Pure1.cast (v' := (.int .i64 ((d + 1 : Nat) : Int))) (.add rfl rfl) (by show Value.int _ _ = Value.int _ _; congr 1)) (zm rfl (zn (zb ?_)))))))))))))))); clear h; intro a w h
    refine wp_loop_inv (fun (i : Nat) a w => i ≤ (d + 1) ∧ (∀ i', i' < i → ∀ j, j < d - i' + 1 → msum ps ws i' j (d - i' - j) ws.length = momentQ i' j (d - i' - j)) ∧ St 80 S w0 [(1, .pointer (some ⟨b1, 0, none⟩)), (2, .int .i64 0), (3, .int .i64 (((d : Nat) : Int) - 1)), (4, .int .i64 ((d : Nat) : Int)), (14, .int .i64 ((d : Nat) : Int)), (18, .int .i64 ((d + 1 : Nat) : Int)), (19, .int .i64 ((i : Nat) : Int))] [(b1, .cells (Value.cells (.agg #[.slice ad1 ps.length c1, .slice ad2 ws.length c2])) 25 (0, 0))] [Row ad1 (cellsOf encP ps), Row ad2 (cellsOf encQ ws)] a w) (fun i => (d + 1) - i) 0 (⟨Nat.zero_le _, fun x hx => absurd hx (Nat.not_lt_zero _), by exact (h).sub (subL ⟨rfl, rfl, rfl, rfl, rfl, rfl, rfl, trivial⟩)⟩) ?_; clear h
    rintro i a w ⟨hi_i, hinv_i, h⟩
    refine gC h (zs (zr (zp (.lss rfl rfl) (zn (zs ?_))))); clear h; intro a w h
    refine cond_split h rfl (fun hc20 => ?_) (fun hc20 => ?_)
    · skip
      have hlt_i : i < (d + 1) := by have := of_decide_eq_true hc20; omega
      refine gC h (zk (zs (zb (zs (zr (zm rfl (za rfl (zn (zs (zr (zm rfl (zm rfl (zp (Pure1.cast (v' := (.int .i64 ((d - i : Nat) : Int))) (.sub rfl rfl) (by show Value.int _ _ = Value.int _ _; congr 1; omega)) (zp (Pure1.cast (v' := (.int .i64 (((d - i) + 1 : Nat) : Int))) (.add rfl rfl) (by show Value.int _ _ = Value.int _ _; congr 1)) (zm rfl (zn (zb ?_))))))))))))))))); clear h; intro a w h
      refine wp_loop_inv (fun (j : Nat) a w => j ≤ (d - i + 1) ∧ (∀ j', j' < j → msum ps ws i j' (d - i - j') ws.length = momentQ i j' (d - i - j')) ∧ St 80 S w0 [(1, .pointer (some ⟨b1, 0, none⟩)), (2, .int .i64 0), (3, .int .i64 (((d : Nat) : Int) - 1)), (4, .int .i64 ((d : Nat) : Int)), (5, .int .i64 ((i : Nat) : Int)), (14, .int .i64 ((d : Nat) : Int)), (18, .int .i64 ((d + 1 : Nat) : Int)), (19, .int .i64 ((i : Nat) : Int)), (25, .int .i64 (((d - i) + 1 : Nat) : Int)), (26, .int .i64 ((j : Nat) : Int))] [(b1, .cells (Value.cells (.agg #[.slice ad1 ps.length c1, .slice ad2 ws.length c2])) 25 (0, 0))] [Row ad1 (cellsOf encP ps), Row ad2 (cellsOf encQ ws)] a w) (fun j => (d - i + 1) - j) 0 (⟨Nat.zero_le _, fun x hx => absurd hx (Nat.not_lt_zero _), by exact (h).sub (subL ⟨rfl, rfl, rfl, rfl, rfl, rfl, rfl, rfl, rfl, rfl, trivial⟩)⟩) ?_; clear h
      rintro j a w ⟨hi_j, hinv_j, h⟩
      refine gC h (zs (zr (zp (.lss rfl rfl) (zn (zs ?_))))); clear h; intro a w h
      refine cond_split h rfl (fun hc27 => ?_) (fun hc27 => ?_)
      · skip
        have hlt_j : j < (d - i + 1) := by have := of_decide_eq_true hc27; omega
        refine gC h (zk (zs (zb (zs (zr (zm rfl (za rfl (zn (zs (zr (zz zeroQ fun b7 => zn (zs (zs (zr (zp (.fieldAddr rfl (fa_25_1 _ _)) (zd rfl mr Tryz.isAgg23 Tryz.sizeOf23 (rs_2_1 _ _) ?_)))))))))))))))); clear h; intro a w h
        refine gL h (zp (.builtin [_] rfl (len_slice_23 _ _ _)) (zm rfl (zn (zb ?_)))); clear h; intro a w h
        refine wp_loop_inv (fun (n : Nat) a w => n ≤ ws.length ∧ St 80 S w0 [(1, .pointer (some ⟨b1, 0, none⟩)), (2, .int .i64 0), (3, .int .i64 (((d : Nat) : Int) - 1)), (4, .int .i64 ((d : Nat) : Int)), (5, .int .i64 ((i : Nat) : Int)), (6, .int .i64 ((j : Nat) : Int)), (7, .pointer (some ⟨b7, 0, none⟩)), (14, .int .i64 ((d : Nat) : Int)), (18, .int .i64 ((d + 1 : Nat) : Int)), (19, .int .i64 ((i : Nat) : Int)), (25, .int .i64 (((d - i) + 1 : Nat) : Int)), (26, .int .i64 ((j : Nat) : Int)), (30, .slice ad2 ws.length c2), (31, .int .i64 ((ws.length : Nat) : Int)), (32, .int .i64 ((n : Nat) : Int))] [(b7, .cells (Value.cells (encQ (msum ps ws i j (d - i - j) n))) 42 (0, 0)), (b1, .cells (Value.cells (.agg #[.slice ad1 ps.length c1, .slice ad2 ws.length c2])) 25 (0, 0))] [Row ad1 (cellsOf encP ps), Row ad2 (cellsOf encQ ws)] a w) (fun n => ws.length - n) 0 (⟨Nat.zero_le _, by exact (h).sub (subL ⟨rfl, rfl, rfl, rfl, rfl, rfl, rfl, rfl, rfl, rfl, rfl, rfl, rfl, rfl, rfl, trivial⟩)⟩) ?_; clear h
        rintro n a w ⟨hi_n, h⟩
        refine gC h (zs (zr (zp (.lss rfl rfl) (zn (zs ?_))))); clear h; intro a w h
        refine cond_split h rfl (fun hc33 => ?_) (fun hc33 => ?_)
        · skip
          have hlt_n : n < ws.length := by have := of_decide_eq_true hc33; omega
          obtain ⟨B_ad2, O_ad2, rfl⟩ := h.row_addr (ad := ad2) (M := cellsOf encQ ws) mm (by intro e; have := congrArg List.length e; rw [cellsOf_length (k := 5) (fun _ => rfl)] at this; simp only [List.length_nil, Nat.mul_eq_zero] at this; omega)
          obtain ⟨B_ad1, O_ad1, rfl⟩ := h.row_addr (ad := ad1) (M := cellsOf encP ps) mm (by intro e; have := congrArg List.length e; rw [cellsOf_length (k := 15) (fun _ => rfl)] at this; simp only [List.length_nil, Nat.mul_eq_zero] at this; omega)
          have hp := hps (ps.getD n (0, 0, 0)) (getD_mem _ (by omega))
          have hw := hws (ws.getD n 0) (getD_mem _ (by omega))
          have hm := lenQ_msum ps ws i j (d - i - j) hps hws (by omega) (by omega) (by omega) hle n (by omega)
          refine gC h (zk (zs (zb (zs (zr (zm rfl (zp (.indexAddr rfl rfl (ix_23 _ _ _ _ _ (by omega))) (zD rfl mm (cells_lt (k := 5) (by decide) (fun _ => rfl) ws n (by omega)) Tryz.isAgg42 Tryz.sizeOf42 (read_cells (k := 5) (fun _ => rfl) ((fun _ => rfl)) ws 0 n (by omega)) (.inl rfl) ?_)))))))); clear h; intro a w h
          refine gL h (zz zeroQ fun b9 => za rfl (zt' rfl rfl (st_5_0_5 _ _ _ _ _ _ _ _ _ _) uu Tryz.sizeOf42 rfl nb rfl ?_)); clear h; intro a w h
          refine gL h (zn (zs (zr (zp (.fieldAddr rfl (fa_25_0 _ _)) (zd rfl mr Tryz.isAgg22 Tryz.sizeOf22 (rs_2_0 _ _) ?_))))); clear h; intro a w h
          refine gL h (zm rfl (zp (.indexAddr rfl rfl (ix_22 _ _ _ _ _ (by omega))) (zD rfl mm (cells_lt (k := 15) (by decide) (fun _ => rfl) ps n (by omega)) Tryz.isAgg55 Tryz.sizeOf55 (read_cells (k := 15) (fun _ => rfl) ((fun _ => rfl)) ps (0, 0, 0) n (by omega)) (.inl rfl) ?_))); clear h; intro a w h
          refine gL h (zz zeroP fun b10 => zt' rfl rfl (st_15_0_15 _ _ _ _ _ _ _ _ _ _ _ _ _ _ _ _ _ _ _ _ _ _ _ _ _ _ _ _ _ _) uu Tryz.sizeOf55 rfl nb rfl ?_); clear h; intro a w h
          refine gL h (zn (yD mixed_YtfmbhcnanphckaaGreatDoor [0, 1, 2, 3, 4, 6, 7, 8, 10, 11, 12, 13, 14, 15, 16, 5, 9, 17, 18, 19, 20, 21, 22] (floatsOK_none (by kernel_rfl)) (yd rfl rfl mr Tryz.isAgg42 Tryz.sizeOf42 (rd_5_0_5 _ _ _ _ _) ?_))); clear h
          refine yd rfl rfl mr Tryz.isAgg42 Tryz.sizeOf42 (rd_5_0_5 _ _ _ _ _) ?_
          refine yp rfl (.indexAddr rfl rfl (ixc_55_0 _ _)) (yd rfl rfl mr Tryz.isAgg42 Tryz.sizeOf42 (rd_15_0_5 _ _ _ _ _ _ _ _ _ _ _ _ _ _ _) ?_)
          refine yp rfl (.move rfl) (yp rfl (.indexAddr rfl rfl (ixc_55_1 _ _)) (yd rfl rfl mr Tryz.isAgg42 Tryz.sizeOf42 (rd_15_5_5 _ _ _ _ _ _ _ _ _ _ _ _ _ _ _) ?_))
          refine yp rfl (.move rfl) (yp rfl (.indexAddr rfl rfl (ixc_55_2 _ _)) (yd rfl rfl mr Tryz.isAgg42 Tryz.sizeOf42 (rd_15_10_5 _ _ _ _ _ _ _ _ _ _ _ _ _ _ _) ?_))
          refine yp rfl (.move rfl) (yp rfl (.move rfl) (yp rfl (Pure1.cast (v' := (.int .i64 ((d - i : Nat) : Int))) (.sub rfl rfl) (by show Value.int _ _ = Value.int _ _; congr 1; omega)) (yp rfl (.move rfl) (yp rfl (Pure1.cast (v' := (.int .i64 (((d - i) - j : Nat) : Int))) (.sub rfl rfl) (by show Value.int _ _ = Value.int _ _; congr 1; omega)) (yv [_, _] rfl rfl Tryz.call62 (C_power _ _ (by omega) (by omega)) ?_)))))
          have hl47 := lenQ_powle ((ps.getD n (0, 0, 0)).1) (i) 1000 100 (by omega) (by omega)
          refine yv [_, _] rfl rfl Tryz.call62 (C_power _ _ (by omega) (by omega)) ?_
          have hl51 := lenQ_powle ((ps.getD n (0, 0, 0)).2.1) (j) 1000 100 (by omega) (by omega)
          refine yv [_, _] rfl rfl Tryz.call62 (C_power _ _ (by omega) (by omega)) ?_
          have hl59 := lenQ_powle ((ps.getD n (0, 0, 0)).2.2) ((d - i) - j) 1000 100 (by omega) (by omega)
          refine yv [_, _] rfl rfl Tryz.call44 (C_QMul _ _ (by omega) (by omega)) ?_
          have hl60 := lenQ_mul (((ps.getD n (0, 0, 0)).2.1) ^ j) (((ps.getD n (0, 0, 0)).2.2) ^ ((d - i) - j))
          refine yv [_, _] rfl rfl Tryz.call44 (C_QMul _ _ (by omega) (by omega)) ?_
          have hl61 := lenQ_mul (((ps.getD n (0, 0, 0)).1) ^ i) ((((ps.getD n (0, 0, 0)).2.1) ^ j) * (((ps.getD n (0, 0, 0)).2.2) ^ ((d - i) - j)))
          refine yv [_, _] rfl rfl Tryz.call44 (C_QMul _ _ (by omega) (by omega)) ?_
          have hl62 := lenQ_mul (ws.getD n 0) ((((ps.getD n (0, 0, 0)).1) ^ i) * ((((ps.getD n (0, 0, 0)).2.1) ^ j) * (((ps.getD n (0, 0, 0)).2.2) ^ ((d - i) - j))))
          refine yv [_, _] rfl rfl Tryz.call30 (C_QAdd _ _ (by omega) (by omega)) ?_
          have hl63 := lenQ_add (msum ps ws i j (d - i - j) n) ((ws.getD n 0) * ((((ps.getD n (0, 0, 0)).1) ^ i) * ((((ps.getD n (0, 0, 0)).2.1) ^ j) * (((ps.getD n (0, 0, 0)).2.2) ^ ((d - i) - j)))))
          refine yt rfl rfl rfl (st_5_0_5 _ _ _ _ _ _ _ _ _ _) uu Tryz.sizeOf42 rfl nb rfl ?_
          refine yn (zr (zp (Pure1.cast (v' := (.int .i64 ((n + 1 : Nat) : Int))) (.add rfl rfl) (by show Value.int _ _ = Value.int _ _; congr 1)) (zm rfl (zn ?_)))); intro a w h
          exact ⟨n + 1, ⟨by omega, ((h.drop sl).factsSub (by simp)).sub sA⟩, by omega⟩
        · skip
          have heq_n : ws.length = n := by have := of_decide_eq_false hc33; omega
          subst heq_n
          refine gC h (ze (zs (yD mixed_YtfmbhcnanphckaaGreatDoor [0, 1, 2, 3, 4, 5, 6, 7, 8, 9] (floatsOK_none (by kernel_rfl)) (yd rfl rfl mr Tryz.isAgg42 Tryz.sizeOf42 (rd_5_0_5 _ _ _ _ _) ?_)))); clear h
          refine yp rfl (.move rfl) (yp rfl (.move rfl) (yp rfl (.move rfl) (yp rfl (.move rfl) (yp rfl (Pure1.cast (v' := (.int .i64 ((d - i : Nat) : Int))) (.sub rfl rfl) (by show Value.int _ _ = Value.int _ _; congr 1; omega)) (yp rfl (.move rfl) (yp rfl (Pure1.cast (v' := (.int .i64 (((d - i) - j : Nat) : Int))) (.sub rfl rfl) (by show Value.int _ _ = Value.int _ _; congr 1; omega)) (yv [_, _, _] rfl rfl Tryz.call45 (C_Moment _ _ _ (by omega) (by omega) (by omega)) ?_)))))))
          have hl73 := lenQ_moment (i) (j) ((d - i) - j) (by omega) (by omega) (by omega)
          refine yp rfl (.binOp rfl rfl (fun _ => run_neQ _ _ (msum ps ws i j (d - i - j) ws.length) (momentQ i j ((d - i) - j)) _)) (yn ?_); intro a w h
          change Code.wp _ _ _ _ _
          refine cond_split h rfl (fun hc74 => ?_) (fun hc74 => ?_)
          · skip
            have hbad : ¬ msum ps ws i j (d - i - j) ws.length = momentQ i j (d - i - j) := by simpa using hc74
            refine gC h (ze (zs (zr (zm rfl (za rfl (zn (zt ?_))))))); clear h; intro a w h
            refine retV h (results1 h rfl (.tmp rfl)) ?_
            unfold exactI; rw [exN_end ps ws 13 0 d (Nat.zero_le _) (by omega) (fun x _ hx => hinv_d x hx) (.inr (fun hk => hbad (hk i (by omega) j (by omega))))]
          · skip
            have hgood : msum ps ws i j (d - i - j) ws.length = momentQ i j (d - i - j) := by simpa using hc74
            refine gC h (zk (zr (zp (Pure1.cast (v' := (.int .i64 ((j + 1 : Nat) : Int))) (.add rfl rfl) (by show Value.int _ _ = Value.int _ _; congr 1)) (zm rfl (zn ?_))))); clear h; intro a w h
            exact ⟨j + 1, ⟨by omega, fun x hx => by rcases Nat.lt_or_ge x j with h | h; exact hinv_j x h; rw [show x = j by omega]; exact hgood, (h.drop sl).sub sA⟩, by omega⟩
      · skip
        have heq_j : (d - i + 1) = j := by have := of_decide_eq_false hc27; omega
        subst heq_j
        refine gC h (ze (zr (zp (Pure1.cast (v' := (.int .i64 ((i + 1 : Nat) : Int))) (.add rfl rfl) (by show Value.int _ _ = Value.int _ _; congr 1)) (zm rfl (zn ?_))))); clear h; intro a w h
        exact ⟨i + 1, ⟨by omega, fun x hx => by rcases Nat.lt_or_ge x i with h | h; exact hinv_i x h; rw [show x = i by omega]; exact hinv_j, h.sub sA⟩, by omega⟩
    · skip
      have heq_i : (d + 1) = i := by have := of_decide_eq_false hc20; omega
      subst heq_i
      refine gC h (ze (zr (zp (Pure1.cast (v' := .int .i64 (((d + 1 : Nat) : Int) - 1)) (.move rfl) (by show Value.int _ _ = Value.int _ _; congr 1; omega)) (za rfl (zn (zr (zp (Pure1.cast (v' := (.int .i64 ((d + 1 : Nat) : Int))) (.add rfl rfl) (by show Value.int _ _ = Value.int _ _; congr 1)) (zm rfl (zn ?_))))))))); clear h; intro a w h
      exact ⟨d + 1, ⟨by omega, fun x hx => by rcases Nat.lt_or_ge x d with h | h; exact hinv_d x h; rw [show x = d by omega]; exact hinv_i, h.sub sA⟩, by omega⟩
  · skip
    have heq_d : 13 = d := by have := of_decide_eq_false hc15; omega
    subst heq_d
    refine gC h (ze (zs (zr (zm rfl (za rfl (zn (zt ?_))))))); clear h; intro a w h
    refine retV h (results1 h rfl (.tmp rfl)) ?_
    unfold exactI; rw [exN_end ps ws 13 0 13 (Nat.zero_le _) (by omega) (fun x _ hx => hinv_d x hx) (.inl rfl)]
end Go.Proofs.YtfmbhcnanphckaaGreatDoor
