/- Written by a program of ours (gen.py) out of short specifications. By an AI agent. -/
import Derived.Test.YtfmbhcnanphckaaGreatDoorRef7
import Derived.Test.YtfmbhcnanphckaaGreatDoorFxZ
set_option linter.unusedVariables false
set_option linter.unusedSimpArgs false
set_option maxRecDepth 4000
namespace Go.Proofs.YtfmbhcnanphckaaGreatDoor
open Go Go.Proofs Go.Fx
attribute [local irreducible] Oper.wp Code.wp wpList Fx.Head wpOp
theorem bs_115_1_0 (x0 : Option Addr) (x0n : Nat) (x0c : Nat) (w : World) : (Instr.buildSlice 115 1 [(0, .slice x0 x0n x0c)].toArray).run Tryz.prog w = .ok (.slice (some ⟨w.heap.size, 0, none⟩) 1 1) (w.alloc (.cells #[.slice x0 x0n x0c] 51 (0, 0))) := by
  simp [go_sem]
theorem GrowO.some {k : Nat} {E : TypeId} {ad : Option Addr} {m c : Nat} {xs : List Value} {o : List (Nat × Obj)} (h : GrowO k E (.slice ad m c) m xs o) (hm : 0 < m) :
    ∃ b R, ad = Option.some ⟨b, 0, none⟩ ∧ o = [(b, Obj.cells (xs ++ R).toArray E (0, 0))] := by
  obtain ⟨h1, ⟨h2, h3, rfl⟩ | ⟨b, c, R, h0, h2, h3, rfl⟩⟩ := h
  · omega
  · cases h0; exact ⟨b, R, rfl, rfl⟩
theorem AllR.nil (X : Nat → Prop) (w : World) : (AllR []).p X w := fun r hr => nomatch hr
theorem AllR.snoc {rows : List RT} {r : RT} {X : Nat → Prop} {w : World} (h : (AllR rows).p X w) (h1 : (Row r.ad (cellsOf encF r.l)).p X w) (h2 : (AllF r.l).p X w) : (AllR (rows ++ [r])).p X w := by
  intro x hx
  rcases List.mem_append.1 hx with hx | hx
  · exact h x hx
  · rw [List.mem_singleton.1 hx]; exact ⟨h1, h2⟩
theorem mQ_snoc (rows : List RT) (r : RT) : mQ (rows ++ [r]) = mQ rows ++ [r.l.map FT.x] := by unfold mQ; rw [List.map_append]; rfl
/-- The equations of a rule on a line; of a rule on a triangle. -/
def cotR (n d : Nat) (m : Nat) : List Rat := lstT (fun i => (((i : Int) : Rat) / ((n : Int) : Rat)) ^ d) m
def cotM (n : Nat) (m : Nat) : List (List Rat) := lstT (fun d => cotR n d (n + 1) ++ [((1 : Int) : Rat) / (((d + 1 : Nat) : Int) : Rat)]) m
def latE (n r c : Nat) : Nat → Rat
  | 0 => ((1 : Int) : Rat)
  | k + 1 => latE n r c k * (((((flI (ptsL n)).getD (3 * c + k) 0 : Nat) : Int) : Rat) / ((n : Int) : Rat)) ^ ((flI (ptsL n)).getD (3 * r + k) 0)
def latR (n r : Nat) (m : Nat) : List Rat := lstT (fun c => latE n r c 3) m
def latM (n : Nat) (m : Nat) : List (List Rat) := lstT (fun r => latR n r (ptsL n).length ++ [momentQ ((flI (ptsL n)).getD (3 * r + 0) 0) ((flI (ptsL n)).getD (3 * r + 1) 0) ((flI (ptsL n)).getD (3 * r + 2) 0)]) m
def small4 (M : List (List Rat)) : Bool := M.all fun l => l.all fun x => decide (x.num.natAbs < 18446744073709551616) && decide (x.den < 18446744073709551616)
def shpB (n : Nat) (M : List (List Rat)) : Bool := decide (M.length = n) && M.all fun l => decide (l.length = n + 1)
theorem bnd_of {M : List (List Rat)} (h : small4 M = true) : Bnd M 4 := by
  intro r c
  have key : ∀ x : Rat, (x = 0 ∨ ∃ l ∈ M, x ∈ l) → lenQ x ≤ 4 := by
    rintro x (rfl | ⟨l, hl, hx⟩)
    · have := lenQ_zero; omega
    · have h1 := List.all_eq_true.1 (List.all_eq_true.1 h l hl) x hx
      rw [Bool.and_eq_true, decide_eq_true_eq, decide_eq_true_eq] at h1
      exact Nat.le_trans (lenQ_small h1.1 h1.2) (by decide)
  apply key
  unfold gM
  by_cases hr : r < M.length
  · by_cases hc : c < (M.getD r []).length
    · exact .inr ⟨M.getD r [], getD_mem _ hr, getD_mem _ hc⟩
    · left; rw [List.getD_eq_getElem?_getD, List.getElem?_eq_none (by omega)]; rfl
  · left; rw [show M.getD r [] = [] by rw [List.getD_eq_getElem?_getD, List.getElem?_eq_none (by omega)]; rfl]; rfl
theorem shp_of {n : Nat} {M : List (List Rat)} (h : shpB n M = true) : Shp n M := by
  unfold shpB at h
  rw [Bool.and_eq_true, decide_eq_true_eq] at h
  exact ⟨h.1, fun r hr => of_decide_eq_true (List.all_eq_true.1 h.2 _ (getD_mem _ (by rw [h.1]; exact hr)))⟩
theorem cot_ok : ∀ n, n ≤ 6 → small4 (cotM n (n + 1)) = true ∧ shpB (n + 1) (cotM n (n + 1)) = true := by decide +kernel
theorem lat_ok : ∀ n, n ≤ 4 → small4 (latM n (ptsL n).length) = true ∧ shpB (ptsL n).length (latM n (ptsL n).length) = true ∧ (ptsL n).length ≤ 15 ∧ 0 < (ptsL n).length := by decide +kernel
theorem lenQ_latE (n r c : Nat) (hn : n ≤ 100) (hr : ∀ k, k < 3 → (flI (ptsL n)).getD (3 * r + k) 0 ≤ 12) (hc : ∀ k, k < 3 → (flI (ptsL n)).getD (3 * c + k) 0 ≤ 12) : ∀ k, k ≤ 3 → lenQ (latE n r c k) ≤ 4 + 12002 * k
  | 0, _ => by have := lenQ_int 1 (by decide) (by decide); rw [latE]; omega
  | k + 1, h => by
    have h1 := lenQ_latE n r c hn hr hc k (by omega)
    have h2 := hc k (by omega)
    have h3 := lenQ_of (((flI (ptsL n)).getD (3 * c + k) 0 : Nat) : Int) ((n : Nat) : Int) (by omega) (by omega) (by omega) (by omega)
    have h4 := lenQ_powle (((((flI (ptsL n)).getD (3 * c + k) 0 : Nat) : Int) : Rat) / ((n : Int) : Rat)) ((flI (ptsL n)).getD (3 * r + k) 0) 1000 12 (by omega) (hr k (by omega))
    have h5 := lenQ_mul (latE n r c k) ((((((flI (ptsL n)).getD (3 * c + k) 0 : Nat) : Int) : Rat) / ((n : Int) : Rat)) ^ ((flI (ptsL n)).getD (3 * r + k) 0))
    rw [latE]; omega

theorem C_rCotes (n : Nat) (h1 : 1 ≤ n) (hn : n ≤ 6) : Ctr Tryz.prog 16 [.int .i64 ((n : Nat) : Int)] [] (fun v Ψ => ∃ b o c W, v = .slice (some ⟨b, o, none⟩) W.length c ∧ W.map FT.x = solveQ (n + 1) (cotM n (n + 1)) ∧ Ψ = [Row (some ⟨b, o, none⟩) (cellsOf encF W), AllF W]) := by
  refine fn_intro Tryz.func16 rfl Tryz.ntmps16 nb ?_
  intro S w0 a hS h
  refine gC h (zs (zr (za rfl (zn (zs (zr (za rfl (zn (zs (zs (zr (za rfl (zn (zb ?_)))))))))))))); clear h; intro a w h
  replace h := h.derive (R := AllR []) (fun X hX => AllR.nil X _)
  refine wp_loop_inv (fun (d : Nat) a w => d ≤ (n + 1) ∧ ∃ (R : List RT) (ad : Option Addr) (c5 : Nat) (o : List (Nat × Obj)), (mQ R = cotM n d ∧ GrowO 1 51 (.slice ad R.length c5) R.length (List.map encR R) o) ∧ St 36 S w0 [(0, .int .i64 ((n : Nat) : Int)), (2, .slice none 0 0), (3, (.slice ad R.length c5)), (4, .int .i64 ((d : Nat) : Int))] (o ++ []) [AllR R] a w) (fun d => (n + 1) - d) 0 (⟨Nat.zero_le _, [], none, 0, [], ⟨rfl, GrowO.nil _ _⟩, by exact (h.factsSub (by simp)).sub (subL ⟨rfl, rfl, rfl, rfl, trivial⟩)⟩) ?_; clear h
  rintro d a w ⟨hi_d, R, ad, c5, o, ⟨hR, hG⟩, h⟩
  refine gC h (zs (zs (zr (zm rfl (zm rfl (zp (.leq rfl rfl) (zn ?_))))))); clear h; intro a w h
  change Code.wp _ _ _ _ _
  refine cond_split h rfl (fun hc9 => ?_) (fun hc9 => ?_)
  · skip
    have hlt_d : d < (n + 1) := by have := of_decide_eq_true hc9; omega
    have hrl : R.length = d := by have h5 := congrArg List.length hR; rwa [mQ_len, cotM, lstT_len] at h5
    refine gC h (zk (zs (zb (zs (zr (za rfl (zn (zs (zs (zr (za rfl (zn (zb ?_))))))))))))); clear h; intro a w h
    replace h := h.derive (R := AllF []) (fun X hX => AllF.nil X _)
    refine wp_loop_inv (fun (i : Nat) a w => i ≤ (n + 1) ∧ ∃ (W : List FT) (ad2 : Option Addr) (c6 : Nat) (p : List (Nat × Obj)), (W.map FT.x = cotR n d i ∧ GrowO 3 50 (.slice ad2 W.length c6) W.length (cellsOf encF W) p) ∧ St 36 S w0 [(0, .int .i64 ((n : Nat) : Int)), (2, .slice none 0 0), (3, (.slice ad R.length c5)), (4, .int .i64 ((d : Nat) : Int)), (5, (.slice ad2 W.length c6)), (6, .int .i64 ((i : Nat) : Int))] (p ++ (o ++ [])) [AllF W, AllR R] a w) (fun i => (n + 1) - i) 0 (⟨Nat.zero_le _, [], none, 0, [], ⟨rfl, GrowO.nil _ _⟩, by exact (h.factsSub (by simp)).sub (subL ⟨rfl, rfl, rfl, rfl, rfl, rfl, trivial⟩)⟩) ?_; clear h
    rintro i a w ⟨hi_i, W, ad2, c6, p, ⟨hW, hH⟩, h⟩
    refine gC h (zs (zs (zr (zm rfl (zm rfl (zp (.leq rfl rfl) (zn ?_))))))); clear h; intro a w h
    change Code.wp _ _ _ _ _
    refine cond_split h rfl (fun hc14 => ?_) (fun hc14 => ?_)
    · skip
      have hlt_i : i < (n + 1) := by have := of_decide_eq_true hc14; omega
      have hwl : W.length = i := by have h5 := congrArg List.length hW; rwa [List.length_map, cotR, lstT_len] at h5
      refine gC h (zk (zs (zb (zr (zm rfl (zm rfl (zm rfl (zf [_, _] rfl Tryz.call54 (C_fOf (((i : Nat) : Int)) (((n : Nat) : Int)) (by omega) (by omega) (by omega) (by omega)) ?_)))))))); clear h; rintro v20 Ψ20 ⟨ad20, c20, bd20, d20, rfl, hle20, hlf20, rfl⟩ a w h
      have hl20 := lenQ_of (((i : Nat) : Int)) (((n : Nat) : Int)) (by omega) (by omega) (by omega) (by omega)
      refine gL h (zm rfl (zf [_, _] rfl Tryz.call53 (C_rPow _ _ _ _ (((((i : Nat) : Int) : Int) : Rat) / ((((n : Nat) : Int) : Int) : Rat)) d (by omega) (by omega)) ?_)); clear h; rintro v22 Ψ22 ⟨ad22, c22, bd22, d22, rfl, hle22, hlf22, rfl⟩ a w h
      have hl22 := lenQ_powle (((((i : Nat) : Int) : Int) : Rat) / ((((n : Nat) : Int) : Int) : Rat)) d 1000 12 (by omega) (by omega)
      refine gL h (zB [(_, _)] rfl (bs_51_1_0 _ _ _) fun b23 => ?_); clear h; intro a w h
      refine wpl_plain (op_appendO (σr := (o ++ [])) h rfl rfl (List.Perm.trans (List.Perm.refl _) (List.Perm.cons _ (List.Perm.refl _))) hH Tryz.runUnderlying51 Tryz.runUnderlying51 Tryz.typeInfo50 Tryz.sizeOf50 zeroF rfl (by decide) (by decide) rfl rfl (by decide) (by show 56 * (2 * ((W).length + 1) + 192) ≤ 281474976710656; omega) (by decide) ?_); clear h
      intro v24 o24 a w hG24 h
      obtain ⟨ad24, c24, rfl⟩ := hG24.is
      have hLn24 : (W).length + 1 = (W ++ [FT.mk ((((((i : Nat) : Int) : Int) : Rat) / ((((n : Nat) : Int) : Int) : Rat)) ^ d) ad22 c22 bd22 d22 hle22 hlf22]).length := by simp only [List.length_append, List.length_cons, List.length_nil, Nat.zero_add]
      rw [hLn24] at h hG24
      replace hG24 : GrowO 3 50 (.slice ad24 (W ++ [FT.mk ((((((i : Nat) : Int) : Int) : Rat) / ((((n : Nat) : Int) : Int) : Rat)) ^ d) ad22 c22 bd22 d22 hle22 hlf22]).length c24) (W ++ [FT.mk ((((((i : Nat) : Int) : Int) : Rat) / ((((n : Nat) : Int) : Int) : Rat)) ^ d) ad22 c22 bd22 d22 hle22 hlf22]).length (cellsOf encF (W ++ [FT.mk ((((((i : Nat) : Int) : Int) : Rat) / ((((n : Nat) : Int) : Int) : Rat)) ^ d) ad22 c22 bd22 d22 hle22 hlf22])) o24 := by rw [cellsOf_append, cellsOf_one]; exact hG24
      refine gL h (za rfl (zn (zr (zm rfl (zp (Pure1.cast (v' := (.int .i64 ((i + 1 : Nat) : Int))) (.add rfl rfl) (by show Value.int _ _ = Value.int _ _; congr 1)) (za rfl (zn ?_))))))); clear h; intro a w h
      replace h := h.derive (R := AllF (W ++ [FT.mk ((((((i : Nat) : Int) : Int) : Rat) / ((((n : Nat) : Int) : Int) : Rat)) ^ d) ad22 c22 bd22 d22 hle22 hlf22])) (fun X hX => AllF.snoc (hX _ mm) (hX _ mm) (hX _ mm))
      have hW2 : (W ++ [FT.mk ((((((i : Nat) : Int) : Int) : Rat) / ((((n : Nat) : Int) : Int) : Rat)) ^ d) ad22 c22 bd22 d22 hle22 hlf22]).map FT.x = cotR n d (i + 1) := by rw [List.map_append, hW]; rfl
      exact ⟨i + 1, ⟨by omega, W ++ [FT.mk ((((((i : Nat) : Int) : Int) : Rat) / ((((n : Nat) : Int) : Int) : Rat)) ^ d) ad22 c22 bd22 d22 hle22 hlf22], ad24, c24, o24, ⟨hW2, hG24⟩, by exact (h.factsSub (by simp)).sub sA⟩, by omega⟩
    · skip
      have heq_i : (n + 1) = i := by have := of_decide_eq_false hc14; omega
      subst heq_i
      have hwl : W.length = n + 1 := by have h5 := congrArg List.length hW; rwa [List.length_map, cotR, lstT_len] at h5
      refine gC h (ze (zr (zm rfl (zm rfl (zm rfl (zp (Pure1.cast (v' := (.int .i64 ((d + 1 : Nat) : Int))) (.add rfl rfl) (by show Value.int _ _ = Value.int _ _; congr 1)) (zf [_, _] rfl Tryz.call54 (C_fOf 1 (((d + 1 : Nat) : Int)) (by omega) (by omega) (by omega) (by omega)) ?_))))))); clear h; rintro v29 Ψ29 ⟨ad29, c29, bd29, d29, rfl, hle29, hlf29, rfl⟩ a w h
      have hl29 := lenQ_of 1 (((d + 1 : Nat) : Int)) (by omega) (by omega) (by omega) (by omega)
      refine gL h (zB [(_, _)] rfl (bs_51_1_0 _ _ _) fun b30 => ?_); clear h; intro a w h
      refine wpl_plain (op_appendO (σr := (o ++ [])) h rfl rfl (List.Perm.trans (List.Perm.refl _) (List.Perm.cons _ (List.Perm.refl _))) hH Tryz.runUnderlying51 Tryz.runUnderlying51 Tryz.typeInfo50 Tryz.sizeOf50 zeroF rfl (by decide) (by decide) rfl rfl (by decide) (by show 56 * (2 * ((W).length + 1) + 192) ≤ 281474976710656; omega) (by decide) ?_); clear h
      intro v31 o31 a w hG31 h
      obtain ⟨ad31, c31, rfl⟩ := hG31.is
      have hLn31 : (W).length + 1 = (W ++ [FT.mk (((1 : Int) : Rat) / ((((d + 1 : Nat) : Int) : Int) : Rat)) ad29 c29 bd29 d29 hle29 hlf29]).length := by simp only [List.length_append, List.length_cons, List.length_nil, Nat.zero_add]
      rw [hLn31] at h hG31
      replace hG31 : GrowO 3 50 (.slice ad31 (W ++ [FT.mk (((1 : Int) : Rat) / ((((d + 1 : Nat) : Int) : Int) : Rat)) ad29 c29 bd29 d29 hle29 hlf29]).length c31) (W ++ [FT.mk (((1 : Int) : Rat) / ((((d + 1 : Nat) : Int) : Int) : Rat)) ad29 c29 bd29 d29 hle29 hlf29]).length (cellsOf encF (W ++ [FT.mk (((1 : Int) : Rat) / ((((d + 1 : Nat) : Int) : Int) : Rat)) ad29 c29 bd29 d29 hle29 hlf29])) o31 := by rw [cellsOf_append, cellsOf_one]; exact hG31
      replace h := h.shareO' hS hG31
      replace h := h.derive (R := AllF (W ++ [FT.mk (((1 : Int) : Rat) / ((((d + 1 : Nat) : Int) : Int) : Rat)) ad29 c29 bd29 d29 hle29 hlf29])) (fun X hX => AllF.snoc (hX _ mm) (hX _ mm) (hX _ mm))
      have hW3 : (W ++ [FT.mk (((1 : Int) : Rat) / ((((d + 1 : Nat) : Int) : Int) : Rat)) ad29 c29 bd29 d29 hle29 hlf29]).map FT.x = cotR n d (n + 1) ++ [((1 : Int) : Rat) / (((d + 1 : Nat) : Int) : Rat)] := by rw [List.map_append, hW]; rfl
      refine gL h (zB [(_, _)] rfl (bs_115_1_0 _ _ _) fun b32 => ?_); clear h; intro a w h
      refine wpl_plain (op_appendO (σr := []) h rfl rfl (List.Perm.trans (List.Perm.refl _) (List.Perm.cons _ (List.Perm.refl _))) hG Tryz.runUnderlying115 Tryz.runUnderlying115 Tryz.typeInfo51 Tryz.sizeOf51 Tryz.zeroValue51 rfl (by decide) (by decide) rfl rfl (by decide) (by show 24 * (2 * ((R).length + 1) + 192) ≤ 281474976710656; omega) (by decide) ?_); clear h
      intro v33 o33 a w hG33 h
      obtain ⟨ad33, c33, rfl⟩ := hG33.is
      have hLn33 : (R).length + 1 = (R ++ [RT.mk ad31 c31 (W ++ [FT.mk (((1 : Int) : Rat) / ((((d + 1 : Nat) : Int) : Int) : Rat)) ad29 c29 bd29 d29 hle29 hlf29])]).length := by simp only [List.length_append, List.length_cons, List.length_nil, Nat.zero_add]
      rw [hLn33] at h hG33
      replace hG33 : GrowO 1 51 (.slice ad33 (R ++ [RT.mk ad31 c31 (W ++ [FT.mk (((1 : Int) : Rat) / ((((d + 1 : Nat) : Int) : Int) : Rat)) ad29 c29 bd29 d29 hle29 hlf29])]).length c33) (R ++ [RT.mk ad31 c31 (W ++ [FT.mk (((1 : Int) : Rat) / ((((d + 1 : Nat) : Int) : Int) : Rat)) ad29 c29 bd29 d29 hle29 hlf29])]).length (List.map encR (R ++ [RT.mk ad31 c31 (W ++ [FT.mk (((1 : Int) : Rat) / ((((d + 1 : Nat) : Int) : Int) : Rat)) ad29 c29 bd29 d29 hle29 hlf29])])) o33 := by rw [List.map_append]; exact hG33
      replace h := h.derive (R := AllR (R ++ [RT.mk ad31 c31 (W ++ [FT.mk (((1 : Int) : Rat) / ((((d + 1 : Nat) : Int) : Int) : Rat)) ad29 c29 bd29 d29 hle29 hlf29])])) (fun X hX => AllR.snoc (hX _ mm) (hX _ mm) (hX _ mm))
      refine gL h (za rfl (zn (zr (zm rfl (zp (Pure1.cast (v' := (.int .i64 ((d + 1 : Nat) : Int))) (.add rfl rfl) (by show Value.int _ _ = Value.int _ _; congr 1)) (za rfl (zn ?_))))))); clear h; intro a w h
      have hR2 : mQ (R ++ [RT.mk ad31 c31 (W ++ [FT.mk (((1 : Int) : Rat) / ((((d + 1 : Nat) : Int) : Int) : Rat)) ad29 c29 bd29 d29 hle29 hlf29])]) = cotM n (d + 1) := by rw [mQ_snoc, hR, hW3]; rfl
      exact ⟨d + 1, ⟨by omega, R ++ [RT.mk ad31 c31 (W ++ [FT.mk (((1 : Int) : Rat) / ((((d + 1 : Nat) : Int) : Int) : Rat)) ad29 c29 bd29 d29 hle29 hlf29])], ad33, c33, o33, ⟨hR2, hG33⟩, by exact (h.factsSub (by simp)).sub sA⟩, by omega⟩
  · skip
    have heq_d : (n + 1) = d := by have := of_decide_eq_false hc9; omega
    subst heq_d
    refine gC h (ze (zs (zr (zm rfl ?_)))); clear h; intro a w h
    have hrl : R.length = n + 1 := by have h5 := congrArg List.length hR; rwa [mQ_len, cotM, lstT_len] at h5
    obtain ⟨bm, Rm, rfl, rfl⟩ := GrowO.some hG (by omega)
    rw [hrl] at h
    have hn15 : n + 1 ≤ 15 := by omega
    refine wpl_plain (op_callM h hS (vs := [_]) rfl Tryz.call55 (C_Solve bm c5 (n + 1) Rm R hn15 (by rw [hR]; exact shp_of (cot_ok n hn).2) (by rw [hR]; exact bnd_of (cot_ok n hn).1)) ((List.Perm.refl _)) (by simp) (by simp) ?_); clear h; rintro v35 σ35 Ψ35 a w ⟨ad35, c35, W35, rfl, hW35, rfl, rfl⟩ h
    refine gL h (za rfl (zn (zt ?_))); clear h; intro a w h
    have hwl35 : W35.length = (n + 1) := by have h5 := congrArg List.length hW35; rwa [List.length_map, solveQ, lstT_len] at h5
    obtain ⟨b35, o35, rfl⟩ := h.row_addr (ad := ad35) (M := cellsOf encF W35) (by simp) (by intro e; have := congrArg List.length e; rw [cellsOf_length (k := 3) (fun _ => rfl)] at this; simp only [List.length_nil, Nat.mul_eq_zero] at this; omega)
    exact ret_of (Ψ := [Row (some ⟨b35, o35, none⟩) (cellsOf encF W35), AllF W35]) h (results1 h rfl (.tmp rfl)) ⟨b35, o35, c35, W35, rfl, by rw [hW35, hR], rfl⟩ (by simp)

theorem C_rLattice (n : Nat) (h1 : 1 ≤ n) (hn : n ≤ 4) : Ctr Tryz.prog 18 [.int .i64 ((n : Nat) : Int)] [] (fun v Ψ => ∃ b o c W, v = .slice (some ⟨b, o, none⟩) W.length c ∧ W.map FT.x = solveQ (ptsL n).length (latM n (ptsL n).length) ∧ Ψ = [Row (some ⟨b, o, none⟩) (cellsOf encF W), AllF W]) := by
  obtain ⟨hok1, hok2, hok3, hok4⟩ := lat_ok n hn
  refine fn_intro Tryz.func18 rfl Tryz.ntmps18 nb ?_
  intro S w0 a hS h
  refine gC h (zs (zr (za rfl (zn (zs (zr (zm rfl (zf [_] rfl Tryz.call17 (C_Points n (by omega)) ?_)))))))); clear h; rintro v11 Ψ11 ⟨ad11, c11, rfl, rfl⟩ a w h
  rw [cells_flI (ptsL n)] at h
  have hil := flI_len (ptsL n)
  refine gL h (za rfl (zn (zs (zr (za rfl (zn (zs (zs (zr (za rfl (zn (zb ?_)))))))))))); clear h; intro a w h
  replace h := h.derive (R := AllR []) (fun X hX => AllR.nil X _)
  refine wp_loop_inv (fun (r : Nat) a w => r ≤ (ptsL n).length ∧ ∃ (R : List RT) (ad : Option Addr) (c5 : Nat) (o : List (Nat × Obj)), (mQ R = latM n r ∧ GrowO 1 51 (.slice ad R.length c5) R.length (List.map encR R) o) ∧ St 74 S w0 [(0, .int .i64 ((n : Nat) : Int)), (2, .slice none 0 0), (3, .slice ad11 ((ptsL n).length) c11), (4, (.slice ad R.length c5)), (5, .int .i64 ((r : Nat) : Int))] (o ++ []) [AllR R, Row ad11 (List.map encn (flI (ptsL n)))] a w) (fun r => (ptsL n).length - r) 0 (⟨Nat.zero_le _, [], none, 0, [], ⟨rfl, GrowO.nil _ _⟩, by exact (h.factsSub (by simp)).sub (subL ⟨rfl, rfl, rfl, rfl, rfl, trivial⟩)⟩) ?_; clear h
  rintro r a w ⟨hi_r, R, ad, c5, o, ⟨hR, hG⟩, h⟩
  refine gC h (zs (zs (zr (zm rfl (zm rfl (zp (.builtin [_] rfl (len_slice_53 _ _ _)) (zp (.lss rfl rfl) (zn ?_)))))))); clear h; intro a w h
  change Code.wp _ _ _ _ _
  refine cond_split h rfl (fun hc15 => ?_) (fun hc15 => ?_)
  · skip
    have hlt_r : r < (ptsL n).length := by have := of_decide_eq_true hc15; omega
    obtain ⟨B_ad11, O_ad11, rfl⟩ := h.row_addr (ad := ad11) (M := List.map encn (flI (ptsL n))) mm (by intro e; have := congrArg List.length e; simp only [List.length_map, List.length_nil] at this; omega)
    have hrl : R.length = r := by have h5 := congrArg List.length hR; rwa [mQ_len, latM, lstT_len] at h5
    have hsumr := ptT n r hlt_r
    have hTr : ∀ k, k < 3 → (flI (ptsL n)).getD (3 * r + k) 0 ≤ 12 := by
      intro k hk
      match k, hk with
      | 0, _ => omega
      | 1, _ => omega
      | 2, _ => omega
    have hTr0 := hTr 0 (by decide)
    have hTr1 := hTr 1 (by decide)
    have hTr2 := hTr 2 (by decide)
    refine gC h (zk (zs (zb (zs (zr (za rfl (zn (zs (zs (zr (za rfl (zn (zb ?_))))))))))))); clear h; intro a w h
    replace h := h.derive (R := AllF []) (fun X hX => AllF.nil X _)
    refine wp_loop_inv (fun (c : Nat) a w => c ≤ (ptsL n).length ∧ ∃ (W : List FT) (ad2 : Option Addr) (c6 : Nat) (p : List (Nat × Obj)), (W.map FT.x = latR n r c ∧ GrowO 3 50 (.slice ad2 W.length c6) W.length (cellsOf encF W) p) ∧ St 74 S w0 [(0, .int .i64 ((n : Nat) : Int)), (2, .slice none 0 0), (3, .slice (some ⟨B_ad11, O_ad11, none⟩) ((ptsL n).length) c11), (4, (.slice ad R.length c5)), (5, .int .i64 ((r : Nat) : Int)), (6, (.slice ad2 W.length c6)), (7, .int .i64 ((c : Nat) : Int))] (p ++ (o ++ [])) [AllF W, AllR R, Row (some ⟨B_ad11, O_ad11, none⟩) (List.map encn (flI (ptsL n)))] a w) (fun c => (ptsL n).length - c) 0 (⟨Nat.zero_le _, [], none, 0, [], ⟨rfl, GrowO.nil _ _⟩, by exact (h.factsSub (by simp)).sub (subL ⟨rfl, rfl, rfl, rfl, rfl, rfl, rfl, trivial⟩)⟩) ?_; clear h
    rintro c a w ⟨hi_c, W, ad2, c6, p, ⟨hW, hH⟩, h⟩
    refine gC h (zs (zs (zr (zm rfl (zm rfl (zp (.builtin [_] rfl (len_slice_53 _ _ _)) (zp (.lss rfl rfl) (zn ?_)))))))); clear h; intro a w h
    change Code.wp _ _ _ _ _
    refine cond_split h rfl (fun hc21 => ?_) (fun hc21 => ?_)
    · skip
      have hlt_c : c < (ptsL n).length := by have := of_decide_eq_true hc21; omega
      have hwl : W.length = c := by have h5 := congrArg List.length hW; rwa [List.length_map, latR, lstT_len] at h5
      have hsumc := ptT n c hlt_c
      have hTc : ∀ k, k < 3 → (flI (ptsL n)).getD (3 * c + k) 0 ≤ 12 := by
        intro k hk
        match k, hk with
        | 0, _ => omega
        | 1, _ => omega
        | 2, _ => omega
      refine gC h (zk (zs (zb (zs (zr (zf [_] rfl Tryz.call24 (C_fInt 1 (by omega) (by omega)) ?_)))))); clear h; rintro v24 Ψ24 ⟨ad24, c24, bd24, d24, rfl, hle24, hlf24, rfl⟩ a w h
      have hl24 := lenQ_int 1 (by omega) (by omega)
      refine gL h (zz zeroF fun b8 => zt' rfl rfl (st_3_0_3 _ _ _ _ _ _) uu Tryz.sizeOf50 rfl nb rfl ?_); clear h; intro a w h
      refine gL h (zn (zs (zs (zr (za rfl (zn (zb ?_))))))); clear h; intro a w h
      refine wp_loop_inv (fun (k : Nat) a w => k ≤ 3 ∧ ∃ q1 q2 q3 q4, ((dg (latE n r c k).num.natAbs).length ≤ q2 ∧ (dg ((latE n r c k).den - 1)).length ≤ q4) ∧ St 74 S w0 [(0, .int .i64 ((n : Nat) : Int)), (2, .slice none 0 0), (3, .slice (some ⟨B_ad11, O_ad11, none⟩) ((ptsL n).length) c11), (4, (.slice ad R.length c5)), (5, .int .i64 ((r : Nat) : Int)), (6, (.slice ad2 W.length c6)), (7, .int .i64 ((c : Nat) : Int)), (8, .pointer (some ⟨b8, 0, none⟩)), (9, .int .i64 ((k : Nat) : Int))] ((b8, .cells (Value.cells (.agg #[.bool (decide ((latE n r c k).num < 0)), .slice q1 (dg (latE n r c k).num.natAbs).length q2, .slice q3 (dg ((latE n r c k).den - 1)).length q4])) 50 (0, 0)) :: (p ++ (o ++ []))) [Row q1 (List.map encn (dg (latE n r c k).num.natAbs)), Row q3 (List.map encn (dg ((latE n r c k).den - 1))), AllF W, AllR R, Row (some ⟨B_ad11, O_ad11, none⟩) (List.map encn (flI (ptsL n)))] a w) (fun k => 3 - k) 0 (⟨Nat.zero_le _, ad24, c24, bd24, d24, ⟨hle24, hlf24⟩, by rw [show latE n r c 0 = ((1 : Int) : Rat) from rfl]; exact (h.factsSub (by simp)).sub (subL ⟨rfl, rfl, rfl, rfl, rfl, rfl, rfl, rfl, rfl, trivial⟩)⟩) ?_; clear h
      rintro k a w ⟨hi_k, q1, q2, q3, q4, ⟨hq2, hq4⟩, h⟩
      refine gC h (zs (zs (zr (zm rfl (zp (.lss rfl rfl) (zn ?_)))))); clear h; intro a w h
      change Code.wp _ _ _ _ _
      refine cond_split h rfl (fun hc26 => ?_) (fun hc26 => ?_)
      · skip
        have hlt_k : k < 3 := by have := of_decide_eq_true hc26; omega
        have hvl := lenQ_latE n r c (by omega) hTr hTc k (by omega)
        have hTk := hTr k hlt_k
        have hTck := hTc k hlt_k
        refine gC h (zk (zs (zb (yD mixed_YtfmbhcnanphckaaGreatDoor [0, 1, 2, 3, 4, 5, 6, 7, 9, 10, 11, 12, 13, 14, 8, 15, 16, 17] (floatsOK_none (by kernel_rfl)) (yd rfl rfl mr Tryz.isAgg50 Tryz.sizeOf50 (rd_3_0_3 _ _ _) ?_))))); clear h
        refine yp rfl (.move rfl) (yp rfl (.move rfl) (yp rfl (.move rfl) (yp rfl (.indexAddr rfl rfl (ix_53 _ _ _ _ _ (by omega))) (yp rfl (Pure1.cast (v' := .pointer (some ⟨B_ad11, O_ad11 + (3 * c + k), none⟩)) (.indexAddr rfl rfl (ixv_56 _ _ _ (by omega))) (by rw [show O_ad11 + c * 3 + k * 1 = O_ad11 + (3 * c + k) by omega])) ?_))))
        refine head_loadRow rfl (by kernel_rfl) rfl mm (by rw [List.length_map]; omega) Tryz.isAgg3 Tryz.sizeOf3 (read_row (enc := encn) (l := (flI (ptsL n))) 0 (by omega)) (.inr rfl) (by decide) ?_
        refine yp rfl (.move rfl) (yp rfl (.move rfl) (yp rfl (.move rfl) (yp rfl (.move rfl) (yp rfl (.indexAddr rfl rfl (ix_53 _ _ _ _ _ (by omega))) (yp rfl (Pure1.cast (v' := .pointer (some ⟨B_ad11, O_ad11 + (3 * r + k), none⟩)) (.indexAddr rfl rfl (ixv_56 _ _ _ (by omega))) (by rw [show O_ad11 + r * 3 + k * 1 = O_ad11 + (3 * r + k) by omega])) ?_)))))
        refine head_loadRow rfl (by kernel_rfl) rfl mm (by rw [List.length_map]; omega) Tryz.isAgg3 Tryz.sizeOf3 (read_row (enc := encn) (l := (flI (ptsL n))) 0 (by omega)) (.inr rfl) (by decide) ?_
        refine yf [_, _] rfl rfl Tryz.call54 (C_fOf ((((flI (ptsL n)).getD (3 * c + k) 0 : Nat) : Int)) (((n : Nat) : Int)) (by omega) (by omega) (by omega) (by omega)) ?_; rintro v37 Ψ37 ⟨ad37, c37, bd37, d37, rfl, hle37, hlf37, rfl⟩
        have hl37 := lenQ_of ((((flI (ptsL n)).getD (3 * c + k) 0 : Nat) : Int)) (((n : Nat) : Int)) (by omega) (by omega) (by omega) (by omega)
        refine yf [_, _] rfl rfl Tryz.call53 (C_rPow _ _ _ _ ((((((flI (ptsL n)).getD (3 * c + k) 0 : Nat) : Int) : Int) : Rat) / ((((n : Nat) : Int) : Int) : Rat)) ((flI (ptsL n)).getD (3 * r + k) 0) (by omega) (by omega)) ?_; rintro v44 Ψ44 ⟨ad44, c44, bd44, d44, rfl, hle44, hlf44, rfl⟩
        have hl44 := lenQ_powle ((((((flI (ptsL n)).getD (3 * c + k) 0 : Nat) : Int) : Int) : Rat) / ((((n : Nat) : Int) : Int) : Rat)) ((flI (ptsL n)).getD (3 * r + k) 0) 1000 12 (by omega) (by omega)
        refine yf [_, _] rfl rfl Tryz.call56 (C_fMul _ _ _ _ _ _ _ _ (latE n r c k) (((((((flI (ptsL n)).getD (3 * c + k) 0 : Nat) : Int) : Int) : Rat) / ((((n : Nat) : Int) : Int) : Rat)) ^ ((flI (ptsL n)).getD (3 * r + k) 0)) (by omega) (by omega)) ?_; rintro v45 Ψ45 ⟨ad45, c45, bd45, d45, rfl, hle45, hlf45, rfl⟩
        have hl45 := lenQ_mul (latE n r c k) (((((((flI (ptsL n)).getD (3 * c + k) 0 : Nat) : Int) : Int) : Rat) / ((((n : Nat) : Int) : Int) : Rat)) ^ ((flI (ptsL n)).getD (3 * r + k) 0))
        refine yt rfl rfl rfl (st_3_0_3 _ _ _ _ _ _) uu Tryz.sizeOf50 rfl nb rfl ?_
        refine yn (zr (zm rfl (zp (Pure1.cast (v' := (.int .i64 ((k + 1 : Nat) : Int))) (.add rfl rfl) (by show Value.int _ _ = Value.int _ _; congr 1)) (za rfl (zn ?_))))); intro a w h
        rw [show latE n r c k * (((((flI (ptsL n)).getD (3 * c + k) 0 : Nat) : Int) : Rat) / (((n : Nat) : Int) : Rat)) ^ ((flI (ptsL n)).getD (3 * r + k) 0) = latE n r c (k + 1) from rfl] at h hle45 hlf45
        exact ⟨k + 1, ⟨by omega, ad45, c45, bd45, d45, ⟨hle45, hlf45⟩, by exact (h.factsSub (by simp)).sub sA⟩, by omega⟩
      · skip
        have heq_k : 3 = k := by have := of_decide_eq_false hc26; omega
        subst heq_k
        refine gC h (ze (zr (zm rfl (zd rfl mr Tryz.isAgg50 Tryz.sizeOf50 (rd_3_0_3 _ _ _) ?_)))); clear h; intro a w h
        refine gL h (zB [(_, _)] rfl (bs_51_1_0 _ _ _) fun b48 => ?_); clear h; intro a w h
        refine wpl_plain (op_appendO (σr := ((b8, .cells (Value.cells (.agg #[.bool (decide ((latE n r c 3).num < 0)), .slice q1 (dg (latE n r c 3).num.natAbs).length q2, .slice q3 (dg ((latE n r c 3).den - 1)).length q4])) 50 (0, 0)) :: (o ++ []))) h rfl rfl (List.Perm.trans (List.Perm.refl _) (List.Perm.cons _ (pm_ca (List.Perm.refl _)))) hH Tryz.runUnderlying51 Tryz.runUnderlying51 Tryz.typeInfo50 Tryz.sizeOf50 zeroF rfl (by decide) (by decide) rfl rfl (by decide) (by show 56 * (2 * ((W).length + 1) + 192) ≤ 281474976710656; omega) (by decide) ?_); clear h
        intro v49 o49 a w hG49 h
        obtain ⟨ad49, c49, rfl⟩ := hG49.is
        have hLn49 : (W).length + 1 = (W ++ [FT.mk (latE n r c 3) q1 q2 q3 q4 hq2 hq4]).length := by simp only [List.length_append, List.length_cons, List.length_nil, Nat.zero_add]
        rw [hLn49] at h hG49
        replace hG49 : GrowO 3 50 (.slice ad49 (W ++ [FT.mk (latE n r c 3) q1 q2 q3 q4 hq2 hq4]).length c49) (W ++ [FT.mk (latE n r c 3) q1 q2 q3 q4 hq2 hq4]).length (cellsOf encF (W ++ [FT.mk (latE n r c 3) q1 q2 q3 q4 hq2 hq4])) o49 := by rw [cellsOf_append, cellsOf_one]; exact hG49
        refine gL h (za rfl (zn (zr (zm rfl (zp (Pure1.cast (v' := (.int .i64 ((c + 1 : Nat) : Int))) (.add rfl rfl) (by show Value.int _ _ = Value.int _ _; congr 1)) (za rfl (zn ?_))))))); clear h; intro a w h
        replace h := h.derive (R := AllF (W ++ [FT.mk (latE n r c 3) q1 q2 q3 q4 hq2 hq4])) (fun X hX => AllF.snoc (hX _ mm) (hX _ mm) (hX _ mm))
        have hW2 : (W ++ [FT.mk (latE n r c 3) q1 q2 q3 q4 hq2 hq4]).map FT.x = latR n r (c + 1) := by rw [List.map_append, hW]; rfl
        exact ⟨c + 1, ⟨by omega, W ++ [FT.mk (latE n r c 3) q1 q2 q3 q4 hq2 hq4], ad49, c49, o49, ⟨hW2, hG49⟩, by exact (((h.perm (List.Perm.trans (pm_ac (List.Perm.refl _)) (List.Perm.cons _ (List.Perm.refl _))).symm).drop (by repeat (first | exact List.Sublist.refl _ | apply List.Sublist.cons))).factsSub (by simp)).sub sA⟩, by omega⟩
    · skip
      have heq_c : (ptsL n).length = c := by have := of_decide_eq_false hc21; omega
      subst heq_c
      have hwl : W.length = (ptsL n).length := by have h5 := congrArg List.length hW; rwa [List.length_map, latR, lstT_len] at h5
      refine gC h (ze (yD mixed_YtfmbhcnanphckaaGreatDoor [0, 1, 2, 3, 4, 5, 6, 7, 8, 9, 10, 11, 12, 13, 14, 15, 16, 17, 18, 19, 20, 21, 22] (floatsOK_none (by kernel_rfl)) (yp rfl (.move rfl) (yp rfl (.move rfl) (yp rfl (.move rfl) (yp rfl (.move rfl) (yp rfl (.indexAddr rfl rfl (ix_53 _ _ _ _ _ (by omega))) (yp rfl (Pure1.cast (v' := .pointer (some ⟨B_ad11, O_ad11 + (3 * r + 0), none⟩)) (.indexAddr rfl rfl (ixc_56_0 _ _)) (by rw [show O_ad11 + r * 3 + 0 = O_ad11 + (3 * r + 0) by omega])) ?_)))))))); clear h
      refine head_loadRow rfl (by kernel_rfl) rfl mm (by rw [List.length_map]; omega) Tryz.isAgg3 Tryz.sizeOf3 (read_row (enc := encn) (l := (flI (ptsL n))) 0 (by omega)) (.inr rfl) (by decide) ?_
      refine yp rfl (.move rfl) (yp rfl (.move rfl) (yp rfl (.indexAddr rfl rfl (ix_53 _ _ _ _ _ (by omega))) (yp rfl (Pure1.cast (v' := .pointer (some ⟨B_ad11, O_ad11 + (3 * r + 1), none⟩)) (.indexAddr rfl rfl (ixc_56_1 _ _)) (by rw [show O_ad11 + r * 3 + 1 = O_ad11 + (3 * r + 1) by omega])) ?_)))
      refine head_loadRow rfl (by kernel_rfl) rfl mm (by rw [List.length_map]; omega) Tryz.isAgg3 Tryz.sizeOf3 (read_row (enc := encn) (l := (flI (ptsL n))) 0 (by omega)) (.inr rfl) (by decide) ?_
      refine yp rfl (.move rfl) (yp rfl (.move rfl) (yp rfl (.indexAddr rfl rfl (ix_53 _ _ _ _ _ (by omega))) (yp rfl (Pure1.cast (v' := .pointer (some ⟨B_ad11, O_ad11 + (3 * r + 2), none⟩)) (.indexAddr rfl rfl (ixc_56_2 _ _)) (by rw [show O_ad11 + r * 3 + 2 = O_ad11 + (3 * r + 2) by omega])) ?_)))
      refine head_loadRow rfl (by kernel_rfl) rfl mm (by rw [List.length_map]; omega) Tryz.isAgg3 Tryz.sizeOf3 (read_row (enc := encn) (l := (flI (ptsL n))) 0 (by omega)) (.inr rfl) (by decide) ?_
      refine yf [_, _, _] rfl rfl Tryz.call57 (C_rMoment ((flI (ptsL n)).getD (3 * r + 0) 0) ((flI (ptsL n)).getD (3 * r + 1) 0) ((flI (ptsL n)).getD (3 * r + 2) 0) (by omega) (by omega) (by omega)) ?_; rintro v67 Ψ67 ⟨ad67, c67, bd67, d67, rfl, hle67, hlf67, rfl⟩
      have hl67 := lenQ_moment ((flI (ptsL n)).getD (3 * r + 0) 0) ((flI (ptsL n)).getD (3 * r + 1) 0) ((flI (ptsL n)).getD (3 * r + 2) 0) (by omega) (by omega) (by omega)
      refine yB rfl [(_, _)] rfl (bs_51_1_0 _ _ _) fun b68 => ?_
      refine head_appendO (σr := (o ++ [])) rfl (by kernel_rfl) rfl rfl (List.Perm.trans (List.Perm.refl _) (List.Perm.cons _ (List.Perm.refl _))) hH Tryz.runUnderlying51 Tryz.runUnderlying51 Tryz.typeInfo50 Tryz.sizeOf50 zeroF rfl (by decide) (by decide) rfl rfl (by decide) (by show 56 * (2 * ((W).length + 1) + 192) ≤ 281474976710656; omega) (by decide) ?_
      intro v69 o69 hG69
      obtain ⟨ad69, c69, rfl⟩ := hG69.is
      have hLn69 : (W).length + 1 = (W ++ [FT.mk (momentQ ((flI (ptsL n)).getD (3 * r + 0) 0) ((flI (ptsL n)).getD (3 * r + 1) 0) ((flI (ptsL n)).getD (3 * r + 2) 0)) ad67 c67 bd67 d67 hle67 hlf67]).length := by simp only [List.length_append, List.length_cons, List.length_nil, Nat.zero_add]
      rw [hLn69]; rw [hLn69] at hG69
      replace hG69 : GrowO 3 50 (.slice ad69 (W ++ [FT.mk (momentQ ((flI (ptsL n)).getD (3 * r + 0) 0) ((flI (ptsL n)).getD (3 * r + 1) 0) ((flI (ptsL n)).getD (3 * r + 2) 0)) ad67 c67 bd67 d67 hle67 hlf67]).length c69) (W ++ [FT.mk (momentQ ((flI (ptsL n)).getD (3 * r + 0) 0) ((flI (ptsL n)).getD (3 * r + 1) 0) ((flI (ptsL n)).getD (3 * r + 2) 0)) ad67 c67 bd67 d67 hle67 hlf67]).length (cellsOf encF (W ++ [FT.mk (momentQ ((flI (ptsL n)).getD (3 * r + 0) 0) ((flI (ptsL n)).getD (3 * r + 1) 0) ((flI (ptsL n)).getD (3 * r + 2) 0)) ad67 c67 bd67 d67 hle67 hlf67])) o69 := by rw [cellsOf_append, cellsOf_one]; exact hG69
      refine yB rfl [(_, _)] rfl (bs_115_1_0 _ _ _) fun b70 => ?_
      refine head_appendO (σr := (o69 ++ [])) rfl (by kernel_rfl) rfl rfl (List.Perm.trans (List.Perm.refl _) (List.Perm.cons _ (pm_aa (List.Perm.refl _)))) hG Tryz.runUnderlying115 Tryz.runUnderlying115 Tryz.typeInfo51 Tryz.sizeOf51 Tryz.zeroValue51 rfl (by decide) (by decide) rfl rfl (by decide) (by show 24 * (2 * ((R).length + 1) + 192) ≤ 281474976710656; omega) (by decide) ?_
      intro v71 o71 hG71
      obtain ⟨ad71, c71, rfl⟩ := hG71.is
      have hLn71 : (R).length + 1 = (R ++ [RT.mk ad69 c69 (W ++ [FT.mk (momentQ ((flI (ptsL n)).getD (3 * r + 0) 0) ((flI (ptsL n)).getD (3 * r + 1) 0) ((flI (ptsL n)).getD (3 * r + 2) 0)) ad67 c67 bd67 d67 hle67 hlf67])]).length := by simp only [List.length_append, List.length_cons, List.length_nil, Nat.zero_add]
      rw [hLn71]; rw [hLn71] at hG71
      replace hG71 : GrowO 1 51 (.slice ad71 (R ++ [RT.mk ad69 c69 (W ++ [FT.mk (momentQ ((flI (ptsL n)).getD (3 * r + 0) 0) ((flI (ptsL n)).getD (3 * r + 1) 0) ((flI (ptsL n)).getD (3 * r + 2) 0)) ad67 c67 bd67 d67 hle67 hlf67])]).length c71) (R ++ [RT.mk ad69 c69 (W ++ [FT.mk (momentQ ((flI (ptsL n)).getD (3 * r + 0) 0) ((flI (ptsL n)).getD (3 * r + 1) 0) ((flI (ptsL n)).getD (3 * r + 2) 0)) ad67 c67 bd67 d67 hle67 hlf67])]).length (List.map encR (R ++ [RT.mk ad69 c69 (W ++ [FT.mk (momentQ ((flI (ptsL n)).getD (3 * r + 0) 0) ((flI (ptsL n)).getD (3 * r + 1) 0) ((flI (ptsL n)).getD (3 * r + 2) 0)) ad67 c67 bd67 d67 hle67 hlf67])])) o71 := by rw [List.map_append]; exact hG71
      refine yp rfl (.assign rfl) (yn (zr ?_)); intro a w h
      replace h := (h.perm (pm_aa (List.Perm.refl _)).symm).shareO' hS hG69
      replace h := h.derive (R := AllF (W ++ [FT.mk (momentQ ((flI (ptsL n)).getD (3 * r + 0) 0) ((flI (ptsL n)).getD (3 * r + 1) 0) ((flI (ptsL n)).getD (3 * r + 2) 0)) ad67 c67 bd67 d67 hle67 hlf67])) (fun X hX => AllF.snoc (hX _ mm) (hX _ mm) (hX _ mm))
      have hW3 : (W ++ [FT.mk (momentQ ((flI (ptsL n)).getD (3 * r + 0) 0) ((flI (ptsL n)).getD (3 * r + 1) 0) ((flI (ptsL n)).getD (3 * r + 2) 0)) ad67 c67 bd67 d67 hle67 hlf67]).map FT.x = latR n r (ptsL n).length ++ [momentQ ((flI (ptsL n)).getD (3 * r + 0) 0) ((flI (ptsL n)).getD (3 * r + 1) 0) ((flI (ptsL n)).getD (3 * r + 2) 0)] := by rw [List.map_append, hW]; rfl
      replace h := h.derive (R := AllR (R ++ [RT.mk ad69 c69 (W ++ [FT.mk (momentQ ((flI (ptsL n)).getD (3 * r + 0) 0) ((flI (ptsL n)).getD (3 * r + 1) 0) ((flI (ptsL n)).getD (3 * r + 2) 0)) ad67 c67 bd67 d67 hle67 hlf67])])) (fun X hX => AllR.snoc (hX _ mm) (hX _ mm) (hX _ mm))
      refine gL h (zm rfl (zp (Pure1.cast (v' := (.int .i64 ((r + 1 : Nat) : Int))) (.add rfl rfl) (by show Value.int _ _ = Value.int _ _; congr 1)) (za rfl (zn ?_)))); clear h; intro a w h
      have hR2 : mQ (R ++ [RT.mk ad69 c69 (W ++ [FT.mk (momentQ ((flI (ptsL n)).getD (3 * r + 0) 0) ((flI (ptsL n)).getD (3 * r + 1) 0) ((flI (ptsL n)).getD (3 * r + 2) 0)) ad67 c67 bd67 d67 hle67 hlf67])]) = latM n (r + 1) := by rw [mQ_snoc, hR, hW3]; rfl
      exact ⟨r + 1, ⟨by omega, R ++ [RT.mk ad69 c69 (W ++ [FT.mk (momentQ ((flI (ptsL n)).getD (3 * r + 0) 0) ((flI (ptsL n)).getD (3 * r + 1) 0) ((flI (ptsL n)).getD (3 * r + 2) 0)) ad67 c67 bd67 d67 hle67 hlf67])], ad71, c71, o71, ⟨hR2, hG71⟩, by exact (h.factsSub (by simp)).sub sA⟩, by omega⟩
  · skip
    have heq_r : (ptsL n).length = r := by have := of_decide_eq_false hc15; omega
    subst heq_r
    refine gC h (ze (zs (zr (zm rfl ?_)))); clear h; intro a w h
    have hrl : R.length = (ptsL n).length := by have h5 := congrArg List.length hR; rwa [mQ_len, latM, lstT_len] at h5
    obtain ⟨bm, Rm, rfl, rfl⟩ := GrowO.some hG (by omega)
    rw [hrl] at h
    refine wpl_plain (op_callM h hS (vs := [_]) rfl Tryz.call55 (C_Solve bm c5 (ptsL n).length Rm R hok3 (by rw [hR]; exact shp_of hok2) (by rw [hR]; exact bnd_of hok1)) ((List.Perm.refl _)) (by simp) (by simp) ?_); clear h; rintro v73 σ73 Ψ73 a w ⟨ad73, c73, W73, rfl, hW73, rfl, rfl⟩ h
    refine gL h (za rfl (zn (zt ?_))); clear h; intro a w h
    have hwl73 : W73.length = (ptsL n).length := by have h5 := congrArg List.length hW73; rwa [List.length_map, solveQ, lstT_len] at h5
    obtain ⟨b73, o73, rfl⟩ := h.row_addr (ad := ad73) (M := cellsOf encF W73) (by simp) (by intro e; have := congrArg List.length e; rw [cellsOf_length (k := 3) (fun _ => rfl)] at this; simp only [List.length_nil, Nat.mul_eq_zero] at this; omega)
    exact ret_of (Ψ := [Row (some ⟨b73, o73, none⟩) (cellsOf encF W73), AllF W73]) h (results1 h rfl (.tmp rfl)) ⟨b73, o73, c73, W73, rfl, by rw [hW73, hR], rfl⟩ (by simp)
end Go.Proofs.YtfmbhcnanphckaaGreatDoor
