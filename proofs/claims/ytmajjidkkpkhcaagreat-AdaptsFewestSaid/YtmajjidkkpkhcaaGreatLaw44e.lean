/- Written by a program of ours (gen.py) out of short specifications. By an AI agent. -/
import Derived.Test.YtmajjidkkpkhcaaGreatFewest0
import Derived.Test.YtmajjidkkpkhcaaGreatFxZ
set_option linter.unusedVariables false
set_option linter.unusedSimpArgs false
set_option maxRecDepth 4000
namespace Go.Proofs.YtmajjidkkpkhcaaGreat
open Go Go.Proofs Go.Fx
attribute [local irreducible] Oper.wp Code.wp wpList Fx.Head wpOp
theorem ix_55 (b off n c j : Nat) (h : j < n) (w : World) : (Instr.indexAt 55 (.slice (some ⟨b, off, none⟩) n c) (.int .i64 (j : Int))).run Tryz.prog w = .ok (.pointer (some ⟨b, off + j, none⟩)) w := by
  simpa using indexAt_slice Tryz.runUnderlying55 Tryz.sizeOf4 b off n c j h w
abbrev encb (b : Bool) : Value := .bool b
theorem map_reps_bb (n : Nat) : List.map encb (List.replicate n false) = reps n (Value.cells (.bool false)).toList := by
  rw [show (Value.cells (.bool false)).toList = [Value.bool false] from rfl, reps_one]; simp
/-- Which indices are marked behind i marks. -/
def isB (n : Nat) (R : List Nat) : Nat → List Bool
  | 0 => List.replicate n false
  | i + 1 => (isB n R i).set (R.getD i 0) true
theorem isB_succ {n : Nat} {R : List Nat} {i k : Nat} (hk : k = R.getD i 0) : (isB n R i).set k true = isB n R (i + 1) := by rw [isB, hk]
theorem isB_len (n : Nat) (R : List Nat) : ∀ i, (isB n R i).length = n
  | 0 => by rw [isB, List.length_replicate]
  | i + 1 => by rw [isB, List.length_set, isB_len n R i]
theorem isB_no {n : Nat} {R : List Nat} {p : Nat} : ∀ i, p < n → (isB n R i).getD p false = false → ∀ j, j < i → R.getD j 0 ≠ p
  | 0, _, _, j, hj => absurd hj (by omega)
  | i + 1, hp, h, j, hj => by
    rw [isB] at h
    have hl := isB_len n R i
    by_cases e : R.getD i 0 = p
    · rw [e] at h
      simp [List.getD, List.getElem?_set, hl, hp] at h
    · have h2 : (isB n R i).getD p false = false := by
        rw [List.getD, List.getElem?_set, if_neg e] at h; exact h
      rcases Nat.lt_or_ge j i with h3 | h3
      · exact isB_no i hp h2 j h3
      · rw [show j = i by omega]; exact e
/-- The smallest of the first i marked indicators. -/
def smN (E : List Rat) (R : List Nat) : Nat → Rat
  | 0 => 0
  | i + 1 => if (((i : Int) == 0) || decide ((E.getD (R.getD i 0) 0 - smN E R i).num.sign < 0)) = true then E.getD (R.getD i 0) 0 else smN E R i
theorem smN_yes {E : List Rat} {R : List Nat} {i k : Nat} (hk : k = R.getD i 0) (h : (((i : Int) == 0) || decide ((E.getD k 0 - smN E R i).num.sign < 0)) = true) : E.getD k 0 = smN E R (i + 1) := by
  subst hk; rw [smN, if_pos h]
theorem smN_no {E : List Rat} {R : List Nat} {i k : Nat} (hk : k = R.getD i 0) (h : (((i : Int) == 0) || decide ((E.getD k 0 - smN E R i).num.sign < 0)) = false) : smN E R (i + 1) = smN E R i := by
  subst hk; rw [smN, if_neg (by rw [h]; decide)]
theorem sumT_succ {E : List Rat} {R : List Nat} {i k : Nat} (hk : k = R.getD i 0) (hi : i < R.length) : sumF E (R.take i) + E.getD k 0 = sumF E (R.take (i + 1)) := by
  subst hk; rw [take_snoc hi, sumF_snoc]
theorem smN_spec (E : List Rat) (R : List Nat) : ∀ i, 0 < i → (∃ j, j < i ∧ smN E R i = E.getD (R.getD j 0) 0) ∧ ∀ j, j < i → smN E R i ≤ E.getD (R.getD j 0) 0
  | 0, h => absurd h (by omega)
  | i + 1, _ => by
    rw [smN]
    rcases Nat.eq_zero_or_pos i with h0 | h0
    · subst h0
      rw [show ((((0 : Nat) : Int)) == 0) = true from rfl, Bool.true_or, if_pos rfl]
      exact ⟨⟨0, by omega, rfl⟩, fun j hj => by rw [show j = 0 by omega]; exact Rat.le_refl⟩
    · obtain ⟨⟨j0, hj0, e0⟩, hmin⟩ := smN_spec E R i h0
      have hz : ((i : Int) == 0) = false := by simp; omega
      rw [hz, Bool.false_or]
      by_cases h : (E.getD (R.getD i 0) 0 - smN E R i).num.sign < 0
      · rw [if_pos (decide_eq_true h)]
        rw [sgs_neg] at h
        refine ⟨⟨i, by omega, rfl⟩, fun j hj => ?_⟩
        rcases Nat.lt_or_ge j i with h3 | h3
        · have := hmin j h3; grind
        · rw [show j = i by omega]; exact Rat.le_refl
      · rw [if_neg (by rw [decide_eq_false h]; decide)]
        rw [sgs_neg] at h
        refine ⟨⟨j0, by omega, e0⟩, fun j hj => ?_⟩
        rcases Nat.lt_or_ge j i with h3 | h3
        · exact hmin j h3
        · rw [show j = i by omega]; exact Rat.not_lt.1 h
theorem lenQ_getE {E : List Rat} (h : ∀ x ∈ E, lenQ x ≤ 1000) (m : Nat) : lenQ (E.getD m 0) ≤ 1000 := by
  rcases Nat.lt_or_ge m E.length with h1 | h1
  · exact h _ (getD_mem E h1)
  · rw [List.getD, List.getElem?_eq_none h1]
    have := lenQ_zero
    show lenQ (0 : Rat) ≤ 1000
    omega
theorem lenQ_sumF {E : List Rat} (h : ∀ x ∈ E, lenQ x ≤ 1000) : ∀ (l : List Nat) (s : Rat), lenQ (l.foldl (fun s k => s + E.getD k 0) s) ≤ lenQ s + 1001 * l.length
  | [], s => by simp
  | m :: l, s => by
    have h1 := lenQ_sumF h l (s + E.getD m 0)
    have h2 := lenQ_add s (E.getD m 0)
    have h3 := lenQ_getE h m
    rw [List.foldl_cons, List.length_cons]; omega
theorem lenQ_sumT {E : List Rat} (h : ∀ x ∈ E, lenQ x ≤ 1000) (R : List Nat) (i : Nat) : lenQ (sumF E (R.take i)) ≤ 2 + 1001 * R.length := by
  have h1 := lenQ_sumF h (R.take i) 0
  have h2 := lenQ_zero
  rw [List.length_take] at h1
  unfold sumF; omega
theorem lenQ_smN {E : List Rat} (h : ∀ x ∈ E, lenQ x ≤ 1000) (R : List Nat) : ∀ i, lenQ (smN E R i) ≤ 1000
  | 0 => by have := lenQ_zero; rw [smN]; omega
  | i + 1 => by rw [smN]; split; exact lenQ_getE h _; exact lenQ_smN h R i
theorem markE_zero {E : List Rat} {t : Rat} (h : markE E t = 0) : validQ t = true ∧ E.any (fun x : Rat => decide (x.num.sign < 0)) = false := by
  unfold markE at h
  split at h
  · rename_i h1
    rw [Bool.and_eq_true] at h1
    exact ⟨h1.1, by simpa using h1.2⟩
  · cases h
theorem markE_one {E : List Rat} {t : Rat} (h : (markE E t != 0) = true) : markE E t = 1 ∧ markR E t = [] := by
  have h1 : markE E t ≠ 0 := by simpa using h
  refine ⟨?_, by unfold markR; rw [if_neg h1]⟩
  unfold markE at *
  split
  · rename_i h2; rw [if_pos h2] at h1; exact absurd rfl h1
  · rfl
structure FewR (E : List Rat) (t : Rat) (R : List Nat) : Prop where
  lt : ∀ i, i < R.length → R.getD i 0 < E.length
  inc : ∀ i j, i < j → j < R.length → R.getD i 0 < R.getD j 0
  enough : t * sumL E ≤ sumF E R
  few : 0 < R.length → sumF E R - smN E R R.length < t * sumL E
  rest : 0 < R.length → ∀ p, p < E.length → (∀ j, j < R.length → R.getD j 0 ≠ p) → E.getD p 0 ≤ smN E R R.length
theorem fewR {E : List Rat} {t : Rat} (h : markE E t = 0) : FewR E t (markR E t) := by
  obtain ⟨h1, h2⟩ := markE_zero h
  have hf := few_of (nonneg_of h2) (valid_le h1)
  have e : markR E t = refL E t := by unfold markR; rw [if_pos h]
  rw [e]
  have hs : 0 < (refL E t).length → (∃ k ∈ refL E t, smN E (refL E t) (refL E t).length = E.getD k 0) ∧ (∀ k ∈ refL E t, smN E (refL E t) (refL E t).length ≤ E.getD k 0) := fun h0 => by
    obtain ⟨⟨j, hj, ej⟩, hm⟩ := smN_spec E (refL E t) _ h0
    refine ⟨⟨_, getD_mem _ hj, ej⟩, fun k hk => ?_⟩
    obtain ⟨i, hi, rfl⟩ := List.mem_iff_getElem.1 hk
    have := hm i hi
    have e2 : (refL E t).getD i 0 = (refL E t)[i] := by simp [List.getD, hi]
    rw [e2] at this
    exact this
  refine ⟨fun i hi => hf.lt _ (getD_mem _ hi), hf.inc, hf.enough, fun h0 => (hf.few _ (hs h0).1 (hs h0).2).1, fun h0 p hp hn => (hf.few _ (hs h0).1 (hs h0).2).2 p hp (fun hm => ?_)⟩
  obtain ⟨i, hi, rfl⟩ := List.mem_iff_getElem.1 hm
  refine hn i hi ?_
  rw [List.getD, List.getElem?_eq_getElem hi]; rfl

theorem C_AdaptsFewest (ad : Option Addr) (c : Nat) (l : List (Int × Int)) (hok : ∀ q ∈ l, OkQ q) (N D : Int) (h0 : -9223372036854775808 ≤ N) (h1 : N ≤ 9223372036854775807) (h2 : 0 ≤ D) (h3 : D ≤ 4294967295) (hn : l.length ≤ 9223372036854775807) : CtrW Tryz.prog 4 [.slice ad l.length c, .agg #[.int .i64 N, .int .u32 D]] [Row ad (cellsOf encQ2 l)] (.bool true) := by
  have hml : (List.map qvp l).length = l.length := List.length_map ..
  have hqE := lenE hok
  have hmr := markR_len (List.map qvp l) (qv N D)
  refine fn_intro Tryz.func4 rfl Tryz.ntmps4 nb ?_
  intro S w0 a hS h
  refine gC h (zs (zr (zx rfl fun b3 => za rfl (zn (zs (zs (zr (zm rfl (zp (.builtin [_] rfl (len_slice_22 _ _ _)) (zp (.gtr rfl rfl) (zn ?_))))))))))); clear h; intro a w h
  change Code.wp _ _ _ _ _
  refine cond_split h rfl (fun hc17 => ?_) (fun hc17 => ?_)
  · skip
    refine gC h (zs (zr (zv [] rfl Tryz.call5 (C_lives) (za rfl (zn (zt ?_)))))); clear h; intro a w h
    refine retV h (results1 h rfl (.tmp rfl)) ?_
    rfl
  · skip
    have hn60 : l.length ≤ 60 := by have := of_decide_eq_false hc17; omega
    have hsl := lenQ_sumL hqE
    refine gC h (zk (zs (zr (zm rfl (zf [_] rfl Tryz.call7 (C_numbers _ _ l (by assumption) (by omega)) ?_))))); clear h; rintro v20 Ψ20 ⟨ad20, c20, rfl, rfl⟩ a w h
    refine gL h (za rfl (zn (zs (zr (zm rfl (zd rfl mr Tryz.isAgg25 Tryz.sizeOf25 (rd_2_0_2 _ _) ?_)))))); clear h; intro a w h
    refine gL h (zv [_] rfl Tryz.call9 (C_qOf N D (by omega) (by omega) (by omega) (by omega)) ?_); clear h; intro a w h
    have hl24 := lenQ_qv N D (by omega) (by omega) (by omega) (by omega)
    refine gL h (zf [_, _] rfl Tryz.call8 (C_Mark (List.map qvp l) _ _ (qv N D) (by assumption) (by omega) (by omega)) ?_); clear h; rintro v25 Ψ25 ⟨ad25, rfl, rfl⟩ a w h
    refine gL h (zm rfl (zp (.extract rfl (fun _ => rfl)) (zp (.extract rfl (fun _ => rfl)) (za rfl (za rfl (zn (zs (zs (zr (zm rfl (zp (.neq rfl rfl) (zn ?_)))))))))))); clear h; intro a w h
    change Code.wp _ _ _ _ _
    refine cond_split h rfl (fun hc29 => ?_) (fun hc29 => ?_)
    · skip
      obtain ⟨hme, hmn⟩ := markE_one hc29
      refine gC h (zs (zr (zm rfl (zp (.eql rfl rfl) ?_)))); clear h; intro a w h
      refine by_bool h (fun hc31 h => ?_) (fun hc31 h => (by exfalso; rw [hme] at hc31; cases hc31))
      refine gL h (zm rfl (zq 32 rfl rfl (.move rfl) (zq 32 rfl rfl (.builtin [_] rfl (len_slice_28 _ _ _)) (zq 32 rfl rfl (.eql rfl rfl) ?_)))); clear h; intro a w h
      refine by_bool h (fun hc35 h => ?_) (fun hc35 h => (by exfalso; rw [hmn] at hc35; cases hc35))
      refine gL h (zp (.pickT rfl rfl) (zm rfl ?_)); clear h; intro a w h
      refine wpl_guard 37 h rfl rfl (op_callV h (vs := []) rfl Tryz.call5 (C_lives) (by decide) ?_); clear h; intro a w h
      refine by_bool h (fun hc38 h => ?_) (fun hc38 h => (by exfalso; cases hc38))
      refine gL h (zp (.pickT rfl rfl) (za rfl (zn (zt ?_)))); clear h; intro a w h
      refine retV h (results1 h rfl (.tmp rfl)) ?_
      rfl
    · skip
      have hme : markE (List.map qvp l) (qv N D) = 0 := by simpa using hc29
      have hF := fewR hme
      refine gC h (zk (zs (zr (zd rfl mr Tryz.isAgg25 Tryz.sizeOf25 (rd_2_0_2 _ _) ?_)))); clear h; intro a w h
      refine gL h (zv [_] rfl Tryz.call9 (C_qOf N D (by omega) (by omega) (by omega) (by omega)) ?_); clear h; intro a w h
      have hl41 := lenQ_qv N D (by omega) (by omega) (by omega) (by omega)
      refine gL h (zm rfl (zw [_] rfl Tryz.call13 (C_QSumL ad20 c20 (List.map qvp l) (by omega) hqE) (zv [_, _] rfl Tryz.call12 (C_QMul _ _ (by omega) (by omega)) ?_))); clear h; intro a w h
      have hl44 := lenQ_mul (qv N D) (sumL (List.map qvp l))
      refine gL h (zz zeroQ fun b8 => zt' rfl rfl (st_5_0_5 _ _ _ _ _ _ _ _ _ _) uu Tryz.sizeOf48 rfl nb rfl ?_); clear h; intro a w h
      refine gL h (zn (zs (zr (zm rfl (zp (.builtin [_] rfl (len_slice_35 _ _ _)) ?_))))); clear h; intro a w h
      refine wpl_plain (op_makeSlice h rfl rfl Tryz.runUnderlying55 Tryz.typeInfo4 Tryz.sizeOf4 Tryz.zeroValue4 rfl (by decide) (by exact Nat.le_refl _) (by show 1 * ((List.map qvp l).length) ≤ 281474976710656; omega) (by omega) (by decide) ?_); clear h; intro b47 a w h; replace h := h.same rfl (by rw [← map_reps_bb]) rfl
      refine gL h (za rfl (zn (zs (zr (zz zeroQ fun b10 => zz zeroQ fun b11 => zn (zs (zs (zr (za rfl (zn (zb ?_))))))))))); clear h; intro a w h
      refine wp_loop_inv (fun (i : Nat) a w => i ≤ (markR (List.map qvp l) (qv N D)).length ∧ St 148 S w0 [(5, .slice ad20 ((List.map qvp l).length) c20), (6, .slice ad25 ((markR (List.map qvp l) (qv N D)).length) ((markR (List.map qvp l) (qv N D)).length)), (8, .pointer (some ⟨b8, 0, none⟩)), (9, .slice (some ⟨b47, 0, none⟩) ((List.map qvp l).length) ((List.map qvp l).length)), (10, .pointer (some ⟨b10, 0, none⟩)), (11, .pointer (some ⟨b11, 0, none⟩)), (12, .int .i64 ((i : Nat) : Int))] [(b11, .cells (Value.cells (encQ (smN (List.map qvp l) (markR (List.map qvp l) (qv N D)) i))) 48 (0, 0)), (b10, .cells (Value.cells (encQ (sumF (List.map qvp l) ((markR (List.map qvp l) (qv N D)).take i)))) 48 (0, 0)), (b47, .cells (List.map encb (isB (List.map qvp l).length (markR (List.map qvp l) (qv N D)) i)).toArray 4 (0, 0)), (b8, .cells (Value.cells (encQ ((qv N D) * (sumL (List.map qvp l))))) 48 (0, 0)), (b3, .cells (Value.cells (.agg #[.int .i64 N, .int .u32 D])) 25 (0, 0))] [Row ad25 (List.map encn (markR (List.map qvp l) (qv N D))), Row ad20 (cellsOf encQ (List.map qvp l)), Row ad (cellsOf encQ2 l)] a w) (fun i => (markR (List.map qvp l) (qv N D)).length - i) 0 (⟨Nat.zero_le _, by exact (h).sub (subL ⟨rfl, rfl, rfl, rfl, rfl, rfl, rfl, trivial⟩)⟩) ?_; clear h
      rintro i a w ⟨hi_i, h⟩
      refine gC h (zs (zs (zr (zm rfl (zm rfl (zp (.builtin [_] rfl (len_slice_28 _ _ _)) (zp (.lss rfl rfl) (zn ?_)))))))); clear h; intro a w h
      change Code.wp _ _ _ _ _
      refine cond_split h rfl (fun hc51 => ?_) (fun hc51 => ?_)
      · skip
        have hlt_i : i < (markR (List.map qvp l) (qv N D)).length := by have := of_decide_eq_true hc51; omega
        obtain ⟨B_ad20, O_ad20, rfl⟩ := h.row_addr (ad := ad20) (M := cellsOf encQ (List.map qvp l)) mm (by intro e; have := congrArg List.length e; rw [cellsOf_length (k := 5) (fun _ => rfl)] at this; simp only [List.length_nil, Nat.mul_eq_zero] at this; omega)
        obtain ⟨B_ad25, O_ad25, rfl⟩ := h.row_addr (ad := ad25) (M := List.map encn (markR (List.map qvp l) (qv N D))) mm (by intro e; have := congrArg List.length e; simp only [List.length_map, List.length_nil] at this; omega)
        have hbl := isB_len (List.map qvp l).length (markR (List.map qvp l) (qv N D)) i
        have hbl2 := isB_len l.length (markR (List.map qvp l) (qv N D)) i
        have hst := lenQ_sumT hqE (markR (List.map qvp l) (qv N D)) i
        have hsm := lenQ_smN hqE (markR (List.map qvp l) (qv N D)) i
        refine gC h (zk (zs (zb (zs (zr (zm rfl (zm rfl (zp (.indexAddr rfl rfl (ix_28 _ _ _ _ _ (by omega))) (zD rfl mm (by rw [List.length_map]; omega) Tryz.isAgg3 Tryz.sizeOf3 (read_row (enc := encn) (l := (markR (List.map qvp l) (qv N D))) 0 (by omega)) (.inr rfl) ?_))))))))); clear h; intro a w h
        obtain ⟨k, hk⟩ : ∃ k, k = (markR (List.map qvp l) (qv N D)).getD i 0 := ⟨_, rfl⟩
        rw [← hk] at h
        have hki : k < (List.map qvp l).length := by rw [hk]; exact hF.lt i hlt_i
        have hek := lenQ_getE hqE k
        refine gL h (za rfl (zn (zs (zs (zr (zm rfl (zp (.lss rfl rfl) ?_))))))); clear h; intro a w h
        refine by_bool h (fun hc59 h => (by exfalso; have := of_decide_eq_true hc59; omega)) (fun hc59 h => ?_)
        refine gL h (zm rfl (zq 60 rfl rfl (.move rfl) (zq 60 rfl rfl (.move rfl) (zq 60 rfl rfl (.builtin [_] rfl (len_slice_35 _ _ _)) (zq 60 rfl rfl (.geq rfl rfl) ?_))))); clear h; intro a w h
        refine by_bool h (fun hc64 h => (by exfalso; have := of_decide_eq_true hc64; omega)) (fun hc64 h => ?_)
        refine gL h (zp (.pickF rfl rfl) (zm rfl (zq 66 rfl rfl (.move rfl) (zq 66 rfl rfl (.gtr rfl rfl) ?_)))); clear h; intro a w h
        refine by_bool h (fun hc68 h => ?_) (fun hc68 h => ?_)
        · skip
          have hi0 : 0 < i := by have := of_decide_eq_true hc68; omega
          refine gL h (zq 66 rfl rfl (.move rfl) (zq 69 rfl rfl (.move rfl) (zq 69 rfl rfl (.move rfl) (zq 69 rfl rfl (.move rfl) (zq 69 rfl rfl (Pure1.cast (v' := .int .i64 ((i - 1 : Nat) : Int)) (.sub rfl rfl) (by show Value.int _ _ = Value.int _ _; congr 1; omega)) (zq 69 rfl rfl (.indexAddr rfl rfl (ix_28 _ _ _ _ _ (by omega))) ?_)))))); clear h; intro a w h
          refine wpl_guard 69 h rfl rfl (op_loadRow h rfl mm (by rw [List.length_map]; omega) Tryz.isAgg3 Tryz.sizeOf3 (read_row (enc := encn) (l := (markR (List.map qvp l) (qv N D))) 0 (by omega)) (.inr rfl) (by decide) ?_); clear h; intro a h
          refine gL h (zq 69 rfl rfl (.leq rfl rfl) ?_); clear h; intro a w h
          refine by_bool h (fun hc76 h => (by exfalso; have h5 := of_decide_eq_true hc76; have h6 := hF.inc (i - 1) i (by omega) hlt_i; omega)) (fun hc76 h => ?_)
          refine gL h (zq 66 rfl rfl (.pickT rfl rfl) (zp (.pickF rfl rfl) (zn ?_))); clear h; intro a w h
          change Code.wp _ _ _ _ _
          refine cond_false h rfl ?_
          refine gC h (zk (zs (zr (zm rfl (zm rfl (zp (.indexAddr rfl rfl (ix_55 _ _ _ _ _ (by omega))) (zt' rfl rfl ((congrArg (fun z => setFrom _ z _) (Nat.zero_add _)).trans (set_row (enc := encb) (isB (List.map qvp l).length (markR (List.map qvp l) (qv N D)) i) k true)) uu Tryz.sizeOf4 rfl (by simp; omega) rfl ?_))))))); clear h; intro a w h
          refine gL h (zn (zs (yD mixed_YtmajjidkkpkhcaaGreat [0, 1, 2, 3, 4, 5, 6] (floatsOK_none (by kernel_rfl)) (yd rfl rfl mr Tryz.isAgg48 Tryz.sizeOf48 (rd_5_0_5 _ _ _ _ _) ?_)))); clear h
          refine yp rfl (.move rfl) (yp rfl (.move rfl) (yp rfl (.indexAddr rfl rfl (ix_35 _ _ _ _ _ (by omega))) ?_))
          refine head_loadRow rfl (by kernel_rfl) rfl mm (cells_lt (k := 5) (by decide) (fun _ => rfl) (List.map qvp l) k (by omega)) Tryz.isAgg48 Tryz.sizeOf48 (read_cells (k := 5) (fun _ => rfl) ((fun _ => rfl)) (List.map qvp l) 0 k (by omega)) (.inl rfl) (by decide) ?_
          refine yv [_, _] rfl rfl Tryz.call14 (C_QAdd _ _ (by omega) (by omega)) ?_
          have hl87 := lenQ_add (sumF (List.map qvp l) ((markR (List.map qvp l) (qv N D)).take i)) ((List.map qvp l).getD k 0)
          refine yt rfl rfl rfl (st_5_0_5 _ _ _ _ _ _ _ _ _ _) uu Tryz.sizeOf48 rfl nb rfl ?_
          refine yn (zs (yD mixed_YtmajjidkkpkhcaaGreat [0, 1, 2, 3, 4, 5, 6, 7, 8, 9, 10] (floatsOK_none (by kernel_rfl)) (yp rfl (.move rfl) (yp rfl (.eql rfl rfl) ?_))))
          refine head_bool (fun hc89  => ?_) (fun hc89  => ?_)
          · skip
            refine yp rfl (.move rfl) (yo 90 rfl rfl rfl rfl (yo 90 rfl rfl rfl rfl (yo 90 rfl rfl rfl rfl (yo 90 rfl rfl rfl rfl (yo 90 rfl rfl rfl rfl (yo 90 rfl rfl rfl rfl (yo 90 rfl rfl rfl rfl (yp rfl (.pickT rfl rfl) (yn ?_))))))))); intro a w h
            change Code.wp _ _ _ _ _
            refine cond_true h rfl ?_
            refine gC h (zr (zm rfl (zm rfl (zp (.indexAddr rfl rfl (ix_35 _ _ _ _ _ (by omega))) (zD rfl mm (cells_lt (k := 5) (by decide) (fun _ => rfl) (List.map qvp l) k (by omega)) Tryz.isAgg48 Tryz.sizeOf48 (read_cells (k := 5) (fun _ => rfl) ((fun _ => rfl)) (List.map qvp l) 0 k (by omega)) (.inl rfl) ?_))))); clear h; intro a w h
            refine gL h (zt' rfl rfl (st_5_0_5 _ _ _ _ _ _ _ _ _ _) uu Tryz.sizeOf48 rfl nb rfl ?_); clear h; intro a w h
            refine gL h (zn (zr (zm rfl (zp (Pure1.cast (v' := (.int .i64 ((i + 1 : Nat) : Int))) (.add rfl rfl) (by show Value.int _ _ = Value.int _ _; congr 1)) (za rfl (zn ?_)))))); clear h; intro a w h
            rw [isB_succ hk, sumT_succ hk hlt_i] at h
            rw [smN_yes hk (by rw [hc89]; rfl)] at h
            exact ⟨i + 1, ⟨by omega, (h.factsSub (by simp)).sub sA⟩, by omega⟩
          · skip
            refine yp rfl (.move rfl) (yq rfl rfl rfl (.move rfl) (yq rfl rfl rfl (.move rfl) (yq rfl rfl rfl (.indexAddr rfl rfl (ix_35 _ _ _ _ _ (by omega))) ?_)))
            refine head_loadRowG rfl rfl rfl (by kernel_rfl) rfl mm (cells_lt (k := 5) (by decide) (fun _ => rfl) (List.map qvp l) k (by omega)) Tryz.isAgg48 Tryz.sizeOf48 (read_cells (k := 5) (fun _ => rfl) ((fun _ => rfl)) (List.map qvp l) 0 k (by omega)) (.inl rfl) (by decide) ?_
            refine yg rfl rfl rfl rfl mr Tryz.isAgg48 Tryz.sizeOf48 (rd_5_0_5 _ _ _ _ _) ?_
            refine head_callVG rfl rfl rfl (by kernel_rfl) (vs := [_, _]) rfl Tryz.call15 (C_QCmp ((List.map qvp l).getD k 0) (smN (List.map qvp l) (markR (List.map qvp l) (qv N D)) i) (by omega) (by omega)) (by decide) ?_
            refine yq rfl rfl rfl (.lss rfl rfl) ?_
            refine head_bool (fun hc97  => ?_) (fun hc97  => ?_)
            · skip
              refine yp rfl (.pickF rfl rfl) (yn ?_); intro a w h
              change Code.wp _ _ _ _ _
              refine cond_true h rfl ?_
              refine gC h (zr (zm rfl (zm rfl (zp (.indexAddr rfl rfl (ix_35 _ _ _ _ _ (by omega))) (zD rfl mm (cells_lt (k := 5) (by decide) (fun _ => rfl) (List.map qvp l) k (by omega)) Tryz.isAgg48 Tryz.sizeOf48 (read_cells (k := 5) (fun _ => rfl) ((fun _ => rfl)) (List.map qvp l) 0 k (by omega)) (.inl rfl) ?_))))); clear h; intro a w h
              refine gL h (zt' rfl rfl (st_5_0_5 _ _ _ _ _ _ _ _ _ _) uu Tryz.sizeOf48 rfl nb rfl ?_); clear h; intro a w h
              refine gL h (zn (zr (zm rfl (zp (Pure1.cast (v' := (.int .i64 ((i + 1 : Nat) : Int))) (.add rfl rfl) (by show Value.int _ _ = Value.int _ _; congr 1)) (za rfl (zn ?_)))))); clear h; intro a w h
              rw [isB_succ hk, sumT_succ hk hlt_i] at h
              rw [smN_yes hk (by rw [hc89, hc97]; rfl)] at h
              exact ⟨i + 1, ⟨by omega, (h.factsSub (by simp)).sub sA⟩, by omega⟩
            · skip
              refine yp rfl (.pickF rfl rfl) (yn ?_); intro a w h
              change Code.wp _ _ _ _ _
              refine cond_false h rfl ?_
              refine gC h (zk (zr (zm rfl (zp (Pure1.cast (v' := (.int .i64 ((i + 1 : Nat) : Int))) (.add rfl rfl) (by show Value.int _ _ = Value.int _ _; congr 1)) (za rfl (zn ?_)))))); clear h; intro a w h
              rw [isB_succ hk, sumT_succ hk hlt_i] at h
              rw [← smN_no hk (by rw [hc89, hc97]; rfl)] at h
              exact ⟨i + 1, ⟨by omega, (h.factsSub (by simp)).sub sA⟩, by omega⟩
        · skip
          refine gL h (zq 66 rfl rfl (.move rfl) (zo 69 rfl rfl rfl (zo 69 rfl rfl rfl (zo 69 rfl rfl rfl (zo 69 rfl rfl rfl (zo 69 rfl rfl rfl (zo 69 rfl rfl rfl (zo 69 rfl rfl rfl (zq 66 rfl rfl (.pickF rfl rfl) (zp (.pickF rfl rfl) (zn ?_))))))))))); clear h; intro a w h
          change Code.wp _ _ _ _ _
          refine cond_false h rfl ?_
          refine gC h (zk (zs (zr (zm rfl (zm rfl (zp (.indexAddr rfl rfl (ix_55 _ _ _ _ _ (by omega))) (zt' rfl rfl ((congrArg (fun z => setFrom _ z _) (Nat.zero_add _)).trans (set_row (enc := encb) (isB (List.map qvp l).length (markR (List.map qvp l) (qv N D)) i) k true)) uu Tryz.sizeOf4 rfl (by simp; omega) rfl ?_))))))); clear h; intro a w h
          refine gL h (zn (zs (yD mixed_YtmajjidkkpkhcaaGreat [0, 1, 2, 3, 4, 5, 6] (floatsOK_none (by kernel_rfl)) (yd rfl rfl mr Tryz.isAgg48 Tryz.sizeOf48 (rd_5_0_5 _ _ _ _ _) ?_)))); clear h
          refine yp rfl (.move rfl) (yp rfl (.move rfl) (yp rfl (.indexAddr rfl rfl (ix_35 _ _ _ _ _ (by omega))) ?_))
          refine head_loadRow rfl (by kernel_rfl) rfl mm (cells_lt (k := 5) (by decide) (fun _ => rfl) (List.map qvp l) k (by omega)) Tryz.isAgg48 Tryz.sizeOf48 (read_cells (k := 5) (fun _ => rfl) ((fun _ => rfl)) (List.map qvp l) 0 k (by omega)) (.inl rfl) (by decide) ?_
          refine yv [_, _] rfl rfl Tryz.call14 (C_QAdd _ _ (by omega) (by omega)) ?_
          have hl87 := lenQ_add (sumF (List.map qvp l) ((markR (List.map qvp l) (qv N D)).take i)) ((List.map qvp l).getD k 0)
          refine yt rfl rfl rfl (st_5_0_5 _ _ _ _ _ _ _ _ _ _) uu Tryz.sizeOf48 rfl nb rfl ?_
          refine yn (zs (yD mixed_YtmajjidkkpkhcaaGreat [0, 1, 2, 3, 4, 5, 6, 7, 8, 9, 10] (floatsOK_none (by kernel_rfl)) (yp rfl (.move rfl) (yp rfl (.eql rfl rfl) ?_))))
          refine head_bool (fun hc89  => ?_) (fun hc89  => ?_)
          · skip
            refine yp rfl (.move rfl) (yo 90 rfl rfl rfl rfl (yo 90 rfl rfl rfl rfl (yo 90 rfl rfl rfl rfl (yo 90 rfl rfl rfl rfl (yo 90 rfl rfl rfl rfl (yo 90 rfl rfl rfl rfl (yo 90 rfl rfl rfl rfl (yp rfl (.pickT rfl rfl) (yn ?_))))))))); intro a w h
            change Code.wp _ _ _ _ _
            refine cond_true h rfl ?_
            refine gC h (zr (zm rfl (zm rfl (zp (.indexAddr rfl rfl (ix_35 _ _ _ _ _ (by omega))) (zD rfl mm (cells_lt (k := 5) (by decide) (fun _ => rfl) (List.map qvp l) k (by omega)) Tryz.isAgg48 Tryz.sizeOf48 (read_cells (k := 5) (fun _ => rfl) ((fun _ => rfl)) (List.map qvp l) 0 k (by omega)) (.inl rfl) ?_))))); clear h; intro a w h
            refine gL h (zt' rfl rfl (st_5_0_5 _ _ _ _ _ _ _ _ _ _) uu Tryz.sizeOf48 rfl nb rfl ?_); clear h; intro a w h
            refine gL h (zn (zr (zm rfl (zp (Pure1.cast (v' := (.int .i64 ((i + 1 : Nat) : Int))) (.add rfl rfl) (by show Value.int _ _ = Value.int _ _; congr 1)) (za rfl (zn ?_)))))); clear h; intro a w h
            rw [isB_succ hk, sumT_succ hk hlt_i] at h
            rw [smN_yes hk (by rw [hc89]; rfl)] at h
            exact ⟨i + 1, ⟨by omega, (h.factsSub (by simp)).sub sA⟩, by omega⟩
          · skip
            refine yp rfl (.move rfl) (yq rfl rfl rfl (.move rfl) (yq rfl rfl rfl (.move rfl) (yq rfl rfl rfl (.indexAddr rfl rfl (ix_35 _ _ _ _ _ (by omega))) ?_)))
            refine head_loadRowG rfl rfl rfl (by kernel_rfl) rfl mm (cells_lt (k := 5) (by decide) (fun _ => rfl) (List.map qvp l) k (by omega)) Tryz.isAgg48 Tryz.sizeOf48 (read_cells (k := 5) (fun _ => rfl) ((fun _ => rfl)) (List.map qvp l) 0 k (by omega)) (.inl rfl) (by decide) ?_
            refine yg rfl rfl rfl rfl mr Tryz.isAgg48 Tryz.sizeOf48 (rd_5_0_5 _ _ _ _ _) ?_
            refine head_callVG rfl rfl rfl (by kernel_rfl) (vs := [_, _]) rfl Tryz.call15 (C_QCmp ((List.map qvp l).getD k 0) (smN (List.map qvp l) (markR (List.map qvp l) (qv N D)) i) (by omega) (by omega)) (by decide) ?_
            refine yq rfl rfl rfl (.lss rfl rfl) ?_
            refine head_bool (fun hc97  => ?_) (fun hc97  => ?_)
            · skip
              refine yp rfl (.pickF rfl rfl) (yn ?_); intro a w h
              change Code.wp _ _ _ _ _
              refine cond_true h rfl ?_
              refine gC h (zr (zm rfl (zm rfl (zp (.indexAddr rfl rfl (ix_35 _ _ _ _ _ (by omega))) (zD rfl mm (cells_lt (k := 5) (by decide) (fun _ => rfl) (List.map qvp l) k (by omega)) Tryz.isAgg48 Tryz.sizeOf48 (read_cells (k := 5) (fun _ => rfl) ((fun _ => rfl)) (List.map qvp l) 0 k (by omega)) (.inl rfl) ?_))))); clear h; intro a w h
              refine gL h (zt' rfl rfl (st_5_0_5 _ _ _ _ _ _ _ _ _ _) uu Tryz.sizeOf48 rfl nb rfl ?_); clear h; intro a w h
              refine gL h (zn (zr (zm rfl (zp (Pure1.cast (v' := (.int .i64 ((i + 1 : Nat) : Int))) (.add rfl rfl) (by show Value.int _ _ = Value.int _ _; congr 1)) (za rfl (zn ?_)))))); clear h; intro a w h
              rw [isB_succ hk, sumT_succ hk hlt_i] at h
              rw [smN_yes hk (by rw [hc89, hc97]; rfl)] at h
              exact ⟨i + 1, ⟨by omega, (h.factsSub (by simp)).sub sA⟩, by omega⟩
            · skip
              refine yp rfl (.pickF rfl rfl) (yn ?_); intro a w h
              change Code.wp _ _ _ _ _
              refine cond_false h rfl ?_
              refine gC h (zk (zr (zm rfl (zp (Pure1.cast (v' := (.int .i64 ((i + 1 : Nat) : Int))) (.add rfl rfl) (by show Value.int _ _ = Value.int _ _; congr 1)) (za rfl (zn ?_)))))); clear h; intro a w h
              rw [isB_succ hk, sumT_succ hk hlt_i] at h
              rw [← smN_no hk (by rw [hc89, hc97]; rfl)] at h
              exact ⟨i + 1, ⟨by omega, (h.factsSub (by simp)).sub sA⟩, by omega⟩
      · skip
        have heq_i : (markR (List.map qvp l) (qv N D)).length = i := by have := of_decide_eq_false hc51; omega
        subst heq_i
        rw [List.take_length] at h
        have hst := lenQ_sumT hqE (markR (List.map qvp l) (qv N D)) (markR (List.map qvp l) (qv N D)).length
        rw [List.take_length] at hst
        have hsm := lenQ_smN hqE (markR (List.map qvp l) (qv N D)) (markR (List.map qvp l) (qv N D)).length
        refine gC h (ze (zs (zs (zr (za rfl (zn (zb ?_))))))); clear h; intro a w h
        refine wp_loop_inv (fun (p : Nat) a w => p ≤ (List.map qvp l).length ∧ St 148 S w0 [(5, .slice ad20 ((List.map qvp l).length) c20), (6, .slice ad25 ((markR (List.map qvp l) (qv N D)).length) ((markR (List.map qvp l) (qv N D)).length)), (8, .pointer (some ⟨b8, 0, none⟩)), (9, .slice (some ⟨b47, 0, none⟩) ((List.map qvp l).length) ((List.map qvp l).length)), (10, .pointer (some ⟨b10, 0, none⟩)), (11, .pointer (some ⟨b11, 0, none⟩)), (12, .int .i64 ((((markR (List.map qvp l) (qv N D)).length) : Nat) : Int)), (14, .int .i64 ((p : Nat) : Int))] [(b11, .cells (Value.cells (encQ (smN (List.map qvp l) (markR (List.map qvp l) (qv N D)) ((markR (List.map qvp l) (qv N D)).length)))) 48 (0, 0)), (b10, .cells (Value.cells (encQ (sumF (List.map qvp l) (markR (List.map qvp l) (qv N D))))) 48 (0, 0)), (b47, .cells (List.map encb (isB (List.map qvp l).length (markR (List.map qvp l) (qv N D)) ((markR (List.map qvp l) (qv N D)).length))).toArray 4 (0, 0)), (b8, .cells (Value.cells (encQ ((qv N D) * (sumL (List.map qvp l))))) 48 (0, 0)), (b3, .cells (Value.cells (.agg #[.int .i64 N, .int .u32 D])) 25 (0, 0))] [Row ad25 (List.map encn (markR (List.map qvp l) (qv N D))), Row ad20 (cellsOf encQ (List.map qvp l)), Row ad (cellsOf encQ2 l)] a w) (fun p => (List.map qvp l).length - p) 0 (⟨Nat.zero_le _, by exact (h).sub (subL ⟨rfl, rfl, rfl, rfl, rfl, rfl, rfl, rfl, trivial⟩)⟩) ?_; clear h
        rintro p a w ⟨hi_p, h⟩
        refine gC h (zs (zs (zr (zm rfl (zm rfl (zp (.builtin [_] rfl (len_slice_35 _ _ _)) (zp (.lss rfl rfl) (zn ?_)))))))); clear h; intro a w h
        change Code.wp _ _ _ _ _
        refine cond_split h rfl (fun hc106 => ?_) (fun hc106 => ?_)
        · skip
          have hlt_p : p < (List.map qvp l).length := by have := of_decide_eq_true hc106; omega
          obtain ⟨B_ad20, O_ad20, rfl⟩ := h.row_addr (ad := ad20) (M := cellsOf encQ (List.map qvp l)) mm (by intro e; have := congrArg List.length e; rw [cellsOf_length (k := 5) (fun _ => rfl)] at this; simp only [List.length_nil, Nat.mul_eq_zero] at this; omega)
          have hbl := isB_len (List.map qvp l).length (markR (List.map qvp l) (qv N D)) (markR (List.map qvp l) (qv N D)).length
          have hbl2 := isB_len l.length (markR (List.map qvp l) (qv N D)) (markR (List.map qvp l) (qv N D)).length
          have hep := lenQ_getE hqE p
          refine gC h (zk (zs (zb (zs (yD mixed_YtmajjidkkpkhcaaGreat [0, 1, 2, 3, 4, 5, 6, 7, 8, 9, 10, 11, 12, 13, 14, 15, 16, 17, 18] (floatsOK_none (by kernel_rfl)) (yp rfl (.move rfl) (yp rfl (.move rfl) (yp rfl (.indexAddr rfl rfl (ix_55 _ _ _ _ _ (by omega))) (yd rfl rfl mm Tryz.isAgg4 Tryz.sizeOf4 ((congrArg _ (Nat.zero_add _)).trans (read_row (enc := encb) (l := (isB (List.map qvp l).length (markR (List.map qvp l) (qv N D)) ((markR (List.map qvp l) (qv N D)).length))) false (by omega))) ?_))))))))); clear h
          refine head_bool (fun hc112  => ?_) (fun hc112  => ?_)
          · skip
            refine yp rfl (.unOp rfl (un_not _)) (yp rfl (.move rfl) (yo 114 rfl rfl rfl rfl (yo 114 rfl rfl rfl rfl (yo 114 rfl rfl rfl rfl (yp rfl (.pickF rfl rfl) (yp rfl (.move rfl) (yo 119 rfl rfl rfl rfl (yo 119 rfl rfl rfl rfl (yo 119 rfl rfl rfl rfl (yo 119 rfl rfl rfl rfl (yo 119 rfl rfl rfl rfl (yo 119 rfl rfl rfl rfl (yo 119 rfl rfl rfl rfl (yp rfl (.pickF rfl rfl) (yn ?_))))))))))))))); intro a w h
            change Code.wp _ _ _ _ _
            refine cond_false h rfl ?_
            refine gC h (zk (zr (zm rfl (zp (Pure1.cast (v' := (.int .i64 ((p + 1 : Nat) : Int))) (.add rfl rfl) (by show Value.int _ _ = Value.int _ _; congr 1)) (za rfl (zn ?_)))))); clear h; intro a w h
            exact ⟨p + 1, ⟨by omega, (h.factsSub (by simp)).sub sA⟩, by omega⟩
          · skip
            refine yp rfl (.unOp rfl (un_not _)) (yp rfl (.move rfl) (yq rfl rfl rfl (.move rfl) (yq rfl rfl rfl (.builtin [_] rfl (len_slice_28 _ _ _)) (yq rfl rfl rfl (.gtr rfl rfl) ?_))))
            refine head_bool (fun hc117  => ?_) (fun hc117  => ?_)
            · skip
              refine yp rfl (.pickT rfl rfl) (yp rfl (.move rfl) (yq rfl rfl rfl (.move rfl) (yq rfl rfl rfl (.move rfl) (yq rfl rfl rfl (.indexAddr rfl rfl (ix_35 _ _ _ _ _ (by omega))) ?_))))
              refine head_loadRowG rfl rfl rfl (by kernel_rfl) rfl mm (cells_lt (k := 5) (by decide) (fun _ => rfl) (List.map qvp l) p (by omega)) Tryz.isAgg48 Tryz.sizeOf48 (read_cells (k := 5) (fun _ => rfl) ((fun _ => rfl)) (List.map qvp l) 0 p (by omega)) (.inl rfl) (by decide) ?_
              refine yg rfl rfl rfl rfl mr Tryz.isAgg48 Tryz.sizeOf48 (rd_5_0_5 _ _ _ _ _) ?_
              refine head_callVG rfl rfl rfl (by kernel_rfl) (vs := [_, _]) rfl Tryz.call15 (C_QCmp ((List.map qvp l).getD p 0) (smN (List.map qvp l) (markR (List.map qvp l) (qv N D)) ((markR (List.map qvp l) (qv N D)).length)) (by omega) (by omega)) (by decide) ?_
              refine yq rfl rfl rfl (.gtr rfl rfl) ?_
              refine head_bool (fun hc126  => (by exfalso; have h5 := (sgs_pos _ _).1 (of_decide_eq_true hc126); have h6 := hF.rest (by have := of_decide_eq_true hc117; omega) p (by omega) (isB_no _ (by omega) hc112); exact absurd h5 (Rat.not_lt.2 h6))) (fun hc126  => ?_)
              refine yp rfl (.pickT rfl rfl) (yn ?_); intro a w h
              change Code.wp _ _ _ _ _
              refine cond_false h rfl ?_
              refine gC h (zk (zr (zm rfl (zp (Pure1.cast (v' := (.int .i64 ((p + 1 : Nat) : Int))) (.add rfl rfl) (by show Value.int _ _ = Value.int _ _; congr 1)) (za rfl (zn ?_)))))); clear h; intro a w h
              exact ⟨p + 1, ⟨by omega, (h.factsSub (by simp)).sub sA⟩, by omega⟩
            · skip
              refine yp rfl (.pickT rfl rfl) (yp rfl (.move rfl) (yo 119 rfl rfl rfl rfl (yo 119 rfl rfl rfl rfl (yo 119 rfl rfl rfl rfl (yo 119 rfl rfl rfl rfl (yo 119 rfl rfl rfl rfl (yo 119 rfl rfl rfl rfl (yo 119 rfl rfl rfl rfl (yp rfl (.pickF rfl rfl) (yn ?_)))))))))); intro a w h
              change Code.wp _ _ _ _ _
              refine cond_false h rfl ?_
              refine gC h (zk (zr (zm rfl (zp (Pure1.cast (v' := (.int .i64 ((p + 1 : Nat) : Int))) (.add rfl rfl) (by show Value.int _ _ = Value.int _ _; congr 1)) (za rfl (zn ?_)))))); clear h; intro a w h
              exact ⟨p + 1, ⟨by omega, (h.factsSub (by simp)).sub sA⟩, by omega⟩
        · skip
          have heq_p : (List.map qvp l).length = p := by have := of_decide_eq_false hc106; omega
          subst heq_p
          refine gC h (ze (zs (yD mixed_YtmajjidkkpkhcaaGreat [0, 1, 2, 3, 4, 5, 6, 7, 8, 9, 10, 12, 11, 13, 14, 15, 16, 17, 18, 19, 20] (floatsOK_none (by kernel_rfl)) (yd rfl rfl mr Tryz.isAgg48 Tryz.sizeOf48 (rd_5_0_5 _ _ _ _ _) ?_)))); clear h
          refine yd rfl rfl mr Tryz.isAgg48 Tryz.sizeOf48 (rd_5_0_5 _ _ _ _ _) ?_
          refine yv [_, _] rfl rfl Tryz.call15 (C_QCmp (sumF (List.map qvp l) (markR (List.map qvp l) (qv N D))) ((qv N D) * (sumL (List.map qvp l))) (by omega) (by omega)) (yp rfl (.geq rfl rfl) ?_)
          refine head_bool (fun hc131  => ?_) (fun hc131  => (by exfalso; have h5 := of_decide_eq_false hc131; have h6 := sgs_neg (sumF (List.map qvp l) (markR (List.map qvp l) (qv N D))) (qv N D * sumL (List.map qvp l)); have h7 := hF.enough; exact absurd (h6.1 (by omega)) (Rat.not_lt.2 h7)))
          refine yp rfl (.move rfl) (yq rfl rfl rfl (.move rfl) (yq rfl rfl rfl (.builtin [_] rfl (len_slice_28 _ _ _)) (yq rfl rfl rfl (.eql rfl rfl) ?_)))
          refine head_bool (fun hc135  => ?_) (fun hc135  => ?_)
          · skip
            refine yq rfl rfl rfl (.move rfl) (yo 136 rfl rfl rfl rfl (yo 136 rfl rfl rfl rfl (yo 136 rfl rfl rfl rfl (yo 136 rfl rfl rfl rfl (yo 136 rfl rfl rfl rfl (yo 136 rfl rfl rfl rfl (yq rfl rfl rfl (.pickT rfl rfl) (yp rfl (.pickT rfl rfl) (yp rfl (.move rfl) ?_)))))))))
            refine head_callVG rfl rfl rfl (by kernel_rfl) (vs := []) rfl Tryz.call5 (C_lives) (by decide) ?_
            refine head_bool (fun hc146  => ?_) (fun hc146  => (by exfalso; cases hc146))
            refine yp rfl (.pickT rfl rfl) (yp rfl (.assign rfl) (yn (zt ?_))); intro a w h
            refine retV h (results1 h rfl (.tmp rfl)) ?_
            rfl
          · skip
            refine yq rfl rfl rfl (.move rfl) (yg rfl rfl rfl rfl mr Tryz.isAgg48 Tryz.sizeOf48 (rd_5_0_5 _ _ _ _ _) ?_)
            refine yg rfl rfl rfl rfl mr Tryz.isAgg48 Tryz.sizeOf48 (rd_5_0_5 _ _ _ _ _) ?_
            refine yg rfl rfl rfl rfl mr Tryz.isAgg48 Tryz.sizeOf48 (rd_5_0_5 _ _ _ _ _) ?_
            refine head_callVG rfl rfl rfl (by kernel_rfl) (vs := [_, _]) rfl Tryz.call16 (C_QSub _ _ (by omega) (by omega)) (by decide) ?_
            have hl139 := lenQ_sub (sumF (List.map qvp l) (markR (List.map qvp l) (qv N D))) (smN (List.map qvp l) (markR (List.map qvp l) (qv N D)) ((markR (List.map qvp l) (qv N D)).length))
            refine head_callVG rfl rfl rfl (by kernel_rfl) (vs := [_, _]) rfl Tryz.call15 (C_QCmp ((sumF (List.map qvp l) (markR (List.map qvp l) (qv N D))) - (smN (List.map qvp l) (markR (List.map qvp l) (qv N D)) ((markR (List.map qvp l) (qv N D)).length))) ((qv N D) * (sumL (List.map qvp l))) (by omega) (by omega)) (by decide) ?_
            refine yq rfl rfl rfl (.lss rfl rfl) ?_
            refine head_bool (fun hc142  => ?_) (fun hc142  => (by exfalso; have h5 := of_decide_eq_false hc142; have h6 := hF.few (Nat.pos_of_ne_zero (fun e => by rw [e] at hc135; simp at hc135)); exact h5 ((sgs_neg _ _).2 h6)))
            refine yq rfl rfl rfl (.pickF rfl rfl) (yp rfl (.pickT rfl rfl) (yp rfl (.move rfl) ?_))
            refine head_callVG rfl rfl rfl (by kernel_rfl) (vs := []) rfl Tryz.call5 (C_lives) (by decide) ?_
            refine head_bool (fun hc146  => ?_) (fun hc146  => (by exfalso; cases hc146))
            refine yp rfl (.pickT rfl rfl) (yp rfl (.assign rfl) (yn (zt ?_))); intro a w h
            refine retV h (results1 h rfl (.tmp rfl)) ?_
            rfl
end Go.Proofs.YtmajjidkkpkhcaaGreat
