/- Written by a program of ours (gen.py) out of short specifications. By an AI agent. -/
import Derived.Test.YtealgpgmbflilaaGreatDoorSameg
set_option linter.unusedVariables false
set_option linter.unusedSimpArgs false
set_option maxRecDepth 4000
namespace Go.Proofs.YtealgpgmbflilaaGreatDoor
open Go Go.Proofs Go.Fx
attribute [local irreducible] Oper.wp Code.wp wpList Fx.Head wpOp

theorem zeroF (w : World) : (zeroValue 56).run Tryz.prog w = .ok (fV 0 none 0 none 0) w := by
  have e : fV 0 none 0 none 0 = .agg #[.bool false, .slice none 0 0, .slice none 0 0] := by
    unfold fV; rw [show (0 : Rat).num = 0 from rfl, show (0 : Rat).den - 1 = 0 from rfl, show (0 : Int).natAbs = 0 from rfl, dg_zero]; rfl
  rw [e]; exact Tryz.zeroValue56 w
theorem lenQ_fac (n : Nat) (h : n ≤ 1000) : lenQ (upQ 1 n) ≤ 2002 := by
  have h1 := lenQ_up 1 n (by omega); have h2 := lenQ_one; omega
theorem fac_one : ((1 : Int) : Rat) = upQ 1 1 := by show (1 : Rat) = 1 * _; rw [Rat.one_mul]; rfl
theorem upQ_mul (q : Rat) : ∀ p, upQ q p = q * upQ 1 p
  | 0 => by show q = q * 1; rw [Rat.mul_one]
  | p + 1 => by rw [upQ, upQ, upQ_mul q p, Rat.mul_assoc]
theorem fac_ne : ∀ n, upQ 1 n ≠ 0
  | 0 => by show (1 : Rat) ≠ 0; decide
  | n + 1 => by
    rw [upQ]; intro h
    rcases Rat.mul_eq_zero.1 h with h | h
    · exact fac_ne n h
    · exact int_ne h
theorem downQ_div (q : Rat) : ∀ n, downQ q n = q / upQ 1 n
  | 0 => by show q = q / 1; rw [Rat.div_def, show (1 : Rat)⁻¹ = 1 from by have := Rat.mul_inv_cancel 1 (by decide); rwa [Rat.one_mul] at this, Rat.mul_one]
  | n + 1 => by
    rw [downQ, downQ_div q n, upQ]
    rw [Rat.div_def, Rat.div_def, Rat.div_def, Rat.inv_mul_rev, Rat.mul_assoc, Rat.mul_comm (upQ 1 n)⁻¹]
theorem moment_ref (i j k : Nat) : (((2 : Int) : Rat) * (upQ 1 i * upQ 1 j * upQ 1 k)) / upQ 1 (i + j + k + 2) = momentQ i j k := by
  unfold momentQ ratioQ
  rw [downQ_div, List.foldl_cons, List.foldl_cons, List.foldl_cons, List.foldl_nil, upQ_mul (upQ (upQ 1 i) j) k, upQ_mul (upQ 1 i) j, Rat.div_def, Rat.div_def, Rat.mul_assoc]

theorem C_fac (n : Nat) (hn : n ≤ 1000) : Ctr Tryz.prog 95 [.int .i64 ((n : Nat) : Int)] [] (PostF (upQ 1 n)) := by
  refine fn_intro Tryz.func95 rfl Tryz.ntmps95 nb ?_
  intro S w0 a hS h
  refine gC h (zs (zr (zz zeroF fun b2 => zn (zs (zr (zf [_] rfl Tryz.call81 (C_fInt 1 (by omega) (by omega)) ?_)))))); clear h; rintro v5 Ψ5 ⟨ad5, c5, bd5, d5, rfl, hle5, hlf5, rfl⟩ a w h
  have hl5 := lenQ_int 1 (by omega) (by omega)
  refine gL h (zz zeroF fun b3 => zt' rfl rfl (st_3_0_3 _ _ _ _ _ _) uu Tryz.sizeOf56 rfl nb rfl ?_); clear h; intro a w h
  refine gL h (zn (zs (zs (zr (za rfl (zn (zb ?_))))))); clear h; intro a w h
  rw [fac_one] at h hle5 hlf5
  refine wp_loop_inv (fun (j : Nat) a w => ∃ p1 p2 p3 p4, (j + 1 ≤ max n 1 ∧ (dg (upQ 1 (j + 1)).num.natAbs).length ≤ p2 ∧ (dg ((upQ 1 (j + 1)).den - 1)).length ≤ p4) ∧ St 16 S w0 [(0, .int .i64 ((n : Nat) : Int)), (2, .pointer (some ⟨b2, 0, none⟩)), (3, .pointer (some ⟨b3, 0, none⟩)), (4, .int .i64 ((j + 2 : Nat) : Int))] [(b3, .cells (Value.cells (.agg #[.bool (decide ((upQ 1 (j + 1)).num < 0)), .slice p1 (dg (upQ 1 (j + 1)).num.natAbs).length p2, .slice p3 (dg ((upQ 1 (j + 1)).den - 1)).length p4])) 56 (0, 0)), (b2, .cells (Value.cells (.agg #[.bool (decide ((0 : Rat).num < 0)), .slice none (dg (0 : Rat).num.natAbs).length 0, .slice none (dg ((0 : Rat).den - 1)).length 0])) 56 (0, 0))] [Row p1 (List.map encn (dg (upQ 1 (j + 1)).num.natAbs)), Row p3 (List.map encn (dg ((upQ 1 (j + 1)).den - 1)))] a w) (fun j => n - j) (0) (⟨ad5, c5, bd5, d5, ⟨by omega, hle5, hlf5⟩, by exact (h.factsSub (by simp)).sub sA⟩) ?_; clear h
  rintro j a w ⟨p1, p2, p3, p4, ⟨hj, hp2, hp4⟩, h⟩
  have hup := lenQ_fac (j + 1) (by omega)
  refine gC h (zs (zs (zr (zm rfl (zm rfl (zp (.leq rfl rfl) (zn ?_))))))); clear h; intro a w h
  change Code.wp _ _ _ _ _
  refine cond_split h rfl (fun hc8 => ?_) (fun hc8 => ?_)
  · skip
    have hr : j + 2 ≤ n := by have := of_decide_eq_true hc8; omega
    refine gC h (zk (zs (zb (yD mixed_YtealgpgmbflilaaGreatDoor [0, 1, 2, 3, 4] (floatsOK_none (by kernel_rfl)) (yd rfl rfl mr Tryz.isAgg56 Tryz.sizeOf56 (rd_3_0_3 _ _ _) ?_))))); clear h
    refine yp rfl (.move rfl) (yf [_] rfl rfl Tryz.call81 (C_fInt (((j + 2 : Nat) : Int)) (by omega) (by omega)) ?_); rintro v13 Ψ13 ⟨ad13, c13, bd13, d13, rfl, hle13, hlf13, rfl⟩
    have hl13 := lenQ_int (((j + 2 : Nat) : Int)) (by omega) (by omega)
    refine yf [_, _] rfl rfl Tryz.call82 (C_fMul _ _ _ _ _ _ _ _ (upQ 1 (j + 1)) (((((j + 2 : Nat) : Int) : Int) : Rat)) (by omega) (by omega)) ?_; rintro v14 Ψ14 ⟨ad14, c14, bd14, d14, rfl, hle14, hlf14, rfl⟩
    have hl14 := lenQ_mul (upQ 1 (j + 1)) (((((j + 2 : Nat) : Int) : Int) : Rat))
    refine yt rfl rfl rfl (st_3_0_3 _ _ _ _ _ _) uu Tryz.sizeOf56 rfl nb rfl ?_
    refine yn (zr (zm rfl (zp (Pure1.cast (v' := (.int .i64 (((j + 2) + 1 : Nat) : Int))) (.add rfl rfl) (by show Value.int _ _ = Value.int _ _; congr 1)) (za rfl (zn ?_))))); intro a w h
    rw [show upQ 1 (j + 1) * ((((j + 2 : Nat) : Int)) : Rat) = upQ 1 (j + 1 + 1) from rfl] at h hle14 hlf14
    exact ⟨j + 1, ⟨ad14, c14, bd14, d14, ⟨by omega, hle14, hlf14⟩, by exact (h.factsSub (by simp)).sub sA⟩, by omega⟩
  · skip
    have hr : n < j + 2 := by have := of_decide_eq_false hc8; omega
    refine gC h (ze (zs (zr (zd rfl mr Tryz.isAgg56 Tryz.sizeOf56 (rd_3_0_3 _ _ _) ?_)))); clear h; intro a w h
    refine gL h (zt' rfl rfl (st_3_0_3 _ _ _ _ _ _) uu Tryz.sizeOf56 rfl nb rfl ?_); clear h; intro a w h
    refine wpList_nil (wp_ret ?_)
    refine ret_of (Ψ := [Row p1 (List.map encn (dg (upQ 1 (j + 1)).num.natAbs)), Row p3 (List.map encn (dg ((upQ 1 (j + 1)).den - 1)))]) h (results1 h rfl (.cell rfl mr Tryz.isAgg56 Tryz.sizeOf56 (rd_3_0_3 _ _ _))) ?_ (by simp)
    rw [show upQ 1 n = upQ 1 (j + 1) from by
      rcases Nat.eq_zero_or_pos n with h0 | h0
      · rw [h0, show j = 0 by omega]; exact fac_one
      · rw [show n = j + 1 by omega]]; exact ⟨p1, p2, p3, p4, rfl, hp2, hp4, rfl⟩

theorem C_rMoment (i j k : Nat) (hi : i ≤ 48) (hj : j ≤ 48) (hk : k ≤ 48) : Ctr Tryz.prog 35 [.int .i64 ((i : Nat) : Int), .int .i64 ((j : Nat) : Int), .int .i64 ((k : Nat) : Int)] [] (PostF (momentQ i j k)) := by
  refine fn_intro Tryz.func35 rfl Tryz.ntmps35 nb ?_
  intro S w0 a hS h
  refine gC h (zs (zr (zz zeroF fun b6 => zn (zs (zs (zr (zm rfl (zp (.lss rfl rfl) ?_)))))))); clear h; intro a w h
  refine by_bool h (fun hc9 h => (by exfalso; have := of_decide_eq_true hc9; omega)) (fun hc9 h => ?_)
  refine gL h (zm rfl (zq 10 rfl rfl (.move rfl) (zq 10 rfl rfl (.lss rfl rfl) ?_))); clear h; intro a w h
  refine by_bool h (fun hc12 h => (by exfalso; have := of_decide_eq_true hc12; omega)) (fun hc12 h => ?_)
  refine gL h (zp (.pickF rfl rfl) (zm rfl (zq 14 rfl rfl (.move rfl) (zq 14 rfl rfl (.lss rfl rfl) ?_)))); clear h; intro a w h
  refine by_bool h (fun hc16 h => (by exfalso; have := of_decide_eq_true hc16; omega)) (fun hc16 h => ?_)
  refine gL h (zp (.pickF rfl rfl) (zm rfl (zq 18 rfl rfl (.move rfl) (zq 18 rfl rfl (.gtr rfl rfl) ?_)))); clear h; intro a w h
  refine by_bool h (fun hc20 h => (by exfalso; have := of_decide_eq_true hc20; omega)) (fun hc20 h => ?_)
  refine gL h (zp (.pickF rfl rfl) (zm rfl (zq 22 rfl rfl (.move rfl) (zq 22 rfl rfl (.gtr rfl rfl) ?_)))); clear h; intro a w h
  refine by_bool h (fun hc24 h => (by exfalso; have := of_decide_eq_true hc24; omega)) (fun hc24 h => ?_)
  refine gL h (zp (.pickF rfl rfl) (zm rfl (zq 26 rfl rfl (.move rfl) (zq 26 rfl rfl (.gtr rfl rfl) ?_)))); clear h; intro a w h
  refine by_bool h (fun hc28 h => (by exfalso; have := of_decide_eq_true hc28; omega)) (fun hc28 h => ?_)
  refine gL h (zp (.pickF rfl rfl) (zn ?_)); clear h; intro a w h
  change Code.wp _ _ _ _ _
  refine cond_false h rfl ?_
  refine gC h (zk (zs (zr (zm rfl (zf [_] rfl Tryz.call95 (C_fac i (by omega)) ?_))))); clear h; rintro v32 Ψ32 ⟨ad32, c32, bd32, d32, rfl, hle32, hlf32, rfl⟩ a w h
  have hl32 := lenQ_fac i (by omega)
  refine gL h (zm rfl (zf [_] rfl Tryz.call95 (C_fac j (by omega)) ?_)); clear h; rintro v34 Ψ34 ⟨ad34, c34, bd34, d34, rfl, hle34, hlf34, rfl⟩ a w h
  have hl34 := lenQ_fac j (by omega)
  refine gL h (zf [_, _] rfl Tryz.call82 (C_fMul _ _ _ _ _ _ _ _ (upQ 1 i) (upQ 1 j) (by omega) (by omega)) ?_); clear h; rintro v35 Ψ35 ⟨ad35, c35, bd35, d35, rfl, hle35, hlf35, rfl⟩ a w h
  have hl35 := lenQ_mul (upQ 1 i) (upQ 1 j)
  refine gL h (zm rfl (zf [_] rfl Tryz.call95 (C_fac k (by omega)) ?_)); clear h; rintro v37 Ψ37 ⟨ad37, c37, bd37, d37, rfl, hle37, hlf37, rfl⟩ a w h
  have hl37 := lenQ_fac k (by omega)
  refine gL h (zf [_, _] rfl Tryz.call82 (C_fMul _ _ _ _ _ _ _ _ ((upQ 1 i) * (upQ 1 j)) (upQ 1 k) (by omega) (by omega)) ?_); clear h; rintro v38 Ψ38 ⟨ad38, c38, bd38, d38, rfl, hle38, hlf38, rfl⟩ a w h
  have hl38 := lenQ_mul ((upQ 1 i) * (upQ 1 j)) (upQ 1 k)
  refine gL h (zz zeroF fun b7 => zt' rfl rfl (st_3_0_3 _ _ _ _ _ _) uu Tryz.sizeOf56 rfl nb rfl ?_); clear h; intro a w h
  refine gL h (zn (zs (yD mixed_YtealgpgmbflilaaGreatDoor [1, 3, 4, 5, 6, 7, 8, 0, 2, 9, 10, 11] (floatsOK_none (by kernel_rfl)) (yd rfl rfl mr Tryz.isAgg56 Tryz.sizeOf56 (rd_3_0_3 _ _ _) ?_)))); clear h
  refine yp rfl (.move rfl) (yp rfl (.move rfl) (yp rfl (Pure1.cast (v' := (.int .i64 ((i + j : Nat) : Int))) (.add rfl rfl) (by show Value.int _ _ = Value.int _ _; congr 1)) (yp rfl (.move rfl) (yp rfl (Pure1.cast (v' := (.int .i64 (((i + j) + k : Nat) : Int))) (.add rfl rfl) (by show Value.int _ _ = Value.int _ _; congr 1)) (yp rfl (Pure1.cast (v' := (.int .i64 ((((i + j) + k) + 2 : Nat) : Int))) (.add rfl rfl) (by show Value.int _ _ = Value.int _ _; congr 1)) (yf [_] rfl rfl Tryz.call81 (C_fInt 2 (by omega) (by omega)) ?_)))))); rintro v39 Ψ39 ⟨ad39, c39, bd39, d39, rfl, hle39, hlf39, rfl⟩
  have hl39 := lenQ_int 2 (by omega) (by omega)
  refine yf [_, _] rfl rfl Tryz.call82 (C_fMul _ _ _ _ _ _ _ _ (((2 : Int) : Rat)) (((upQ 1 i) * (upQ 1 j)) * (upQ 1 k)) (by omega) (by omega)) ?_; rintro v41 Ψ41 ⟨ad41, c41, bd41, d41, rfl, hle41, hlf41, rfl⟩
  have hl41 := lenQ_mul (((2 : Int) : Rat)) (((upQ 1 i) * (upQ 1 j)) * (upQ 1 k))
  refine yf [_] rfl rfl Tryz.call95 (C_fac (((i + j) + k) + 2) (by omega)) ?_; rintro v48 Ψ48 ⟨ad48, c48, bd48, d48, rfl, hle48, hlf48, rfl⟩
  have hl48 := lenQ_fac (((i + j) + k) + 2) (by omega)
  refine yf [_, _] rfl rfl Tryz.call80 (C_fDiv _ _ _ _ _ _ _ _ ((((2 : Int) : Rat)) * (((upQ 1 i) * (upQ 1 j)) * (upQ 1 k))) (upQ 1 (((i + j) + k) + 2)) (by omega) (by omega) (by first | assumption | omega)) ?_; rintro v49 Ψ49 ⟨ad49, c49, bd49, d49, rfl, hle49, hlf49, rfl⟩
  have hl49 := lenQ_div ((((2 : Int) : Rat)) * (((upQ 1 i) * (upQ 1 j)) * (upQ 1 k))) (upQ 1 (((i + j) + k) + 2))
  refine yt rfl rfl rfl (st_3_0_3 _ _ _ _ _ _) uu Tryz.sizeOf56 rfl nb rfl ?_
  refine yn (zt ?_); intro a w h
  refine ret_of (Ψ := [Row ad49 (List.map encn (dg (((((2 : Int) : Rat)) * (((upQ 1 i) * (upQ 1 j)) * (upQ 1 k))) / (upQ 1 (((i + j) + k) + 2))).num.natAbs)), Row bd49 (List.map encn (dg ((((((2 : Int) : Rat)) * (((upQ 1 i) * (upQ 1 j)) * (upQ 1 k))) / (upQ 1 (((i + j) + k) + 2))).den - 1)))]) h (results1 h rfl (.cell rfl mr Tryz.isAgg56 Tryz.sizeOf56 (rd_3_0_3 _ _ _))) ?_ (by simp)
  rw [← moment_ref]; exact ⟨ad49, c49, bd49, d49, rfl, hle49, hlf49, rfl⟩

abbrev encI3 (p : Nat × Nat × Nat) : Value := .agg #[.int .i64 (p.1 : Int), .int .i64 (p.2.1 : Int), .int .i64 (p.2.2 : Int)]
def pjL (n s : Nat) : Nat → List (Nat × Nat × Nat)
  | 0 => []
  | t + 1 => pjL n s t ++ [(n - s, s - t, t)]
def poL (n : Nat) : Nat → List (Nat × Nat × Nat)
  | 0 => []
  | s + 1 => poL n s ++ pjL n s (s + 1)
/-- The points of a degree. -/
def ptsL (n : Nat) : List (Nat × Nat × Nat) := poL n (n + 1)
theorem pjL_len (n s : Nat) : ∀ t, (pjL n s t).length = t
  | 0 => rfl
  | t + 1 => by rw [pjL, List.length_append, pjL_len n s t]; rfl
theorem poL_len (n : Nat) : ∀ s, s ≤ 14 → (poL n s).length ≤ 14 * s
  | 0, _ => Nat.le_refl _
  | s + 1, h => by rw [poL, List.length_append, pjL_len]; have := poL_len n s (by omega); omega
def PostPts (n : Nat) (v : Value) (Ψ : List SPred) : Prop := ∃ ad c, v = .slice ad (ptsL n).length c ∧ Ψ = [Row ad (cellsOf encI3 (ptsL n))]
end Go.Proofs.YtealgpgmbflilaaGreatDoor
