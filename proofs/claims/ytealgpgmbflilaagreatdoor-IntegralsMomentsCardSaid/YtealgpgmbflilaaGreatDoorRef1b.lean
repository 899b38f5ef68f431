/- Written by a program of ours (gen.py) out of short specifications. By an AI agent. -/
import Derived.Test.YtealgpgmbflilaaGreatDoorRef1
import Derived.Test.YtealgpgmbflilaaGreatDoorFxD
set_option linter.unusedVariables false
set_option linter.unusedSimpArgs false
set_option maxRecDepth 4000
namespace Go.Proofs.YtealgpgmbflilaaGreatDoor
open Go Go.Proofs Go.Fx
attribute [local irreducible] Oper.wp Code.wp wpList Fx.Head wpOp
theorem bs_52_0_ (w : World) : (Instr.buildSlice 52 0 [].toArray).run Tryz.prog w = .ok (.slice (some ⟨w.heap.size, 0, none⟩) 0 0) (w.alloc (.cells #[] 3 (0, 0))) := by
  simp [go_sem]
theorem slo_52 (b off n c lo : Nat) (h1 : lo ≤ n) (w : World) : (Instr.sliceAt 52 (.slice (some ⟨b, off, none⟩) n c) (some (.int .i64 (lo : Int))) none none).run Tryz.prog w = .ok (.slice (some ⟨b, if c = lo then off else off + lo * 1, none⟩) (n - lo) (c - lo)) w := sliceAt_low Tryz.runUnderlying52 Tryz.sizeOf3 b off n c lo h1 w
theorem cv_3_36 (x : Int) (w : World) : (Go.convert 3 36 (.int .i64 x)).run Tryz.prog w = .ok (.int .u64 (IntKind.u64.wrap x)) w := by
  simp [go_sem]
theorem cv_3_36b (x : Int) (h0 : IntKind.u64.wrap x = x) (w : World) : (Go.convert 3 36 (.int .i64 x)).run Tryz.prog w = .ok (.int .u64 x) w := by
  rw [cv_3_36, h0]
theorem dg5 (n : Nat) (h : n < 18446744073709551616) : (dg n).length ≤ 5 := dg_len_le (Nat.lt_trans h (by decide))
theorem flat_map : ∀ l : List Nat, (List.map encn l).all flat = true
  | [] => rfl
  | x :: l => by rw [List.map_cons, List.all_cons, flat_map l]; rfl
theorem cmpI_le {x y : Nat} : cmpI x y ≤ 0 ↔ x ≤ y := by
  unfold cmpI
  split
  · omega
  · split <;> omega
/-- Quotient and rest. -/
def PostN2 (p q : Nat) (v : Value) (Ψ : List SPred) : Prop := ∃ ad c ad' c', v = .tuple #[.slice ad (dg p).length c, .slice ad' (dg q).length c'] ∧ (dg p).length ≤ c ∧ (dg q).length ≤ c' ∧ Ψ = [Row ad (List.map encn (dg p)), Row ad' (List.map encn (dg q))]

theorem C_rDiv (ad1 ad2 : Option Addr) (c1 c2 : Nat) (n m : Nat) (h1 : (dg n).length ≤ 300000000000) (h2 : (dg m).length ≤ 300000000000) (hm : m ≠ 0) (hc1 : (dg n).length ≤ c1) :
    Ctr Tryz.prog 177 [.slice ad1 (dg n).length c1, .slice ad2 (dg m).length c2] [Row ad1 (List.map encn (dg n)), Row ad2 (List.map encn (dg m))] (PostN2 (n / m) (n % m)) := by
  have hlb : 0 < (dg m).length := List.length_pos_iff.2 (fun e => hm (dg_nil.1 e))
  have hm0 : 0 < m := Nat.pos_of_ne_zero hm
  refine fn_intro Tryz.func177 rfl Tryz.ntmps177 nb ?_
  intro S w0 a hS h
  refine gC h (zs (zr (za rfl (za rfl (zn (zs (zs (zr (zm rfl (zm rfl (zw [_, _] rfl Tryz.call179 (C_rCmp _ _ _ _ n m (by omega) (by omega)) (zp (.lss rfl rfl) (zn ?_))))))))))))); clear h; intro a w h
  change Code.wp _ _ _ _ _
  refine cond_split h rfl (fun hc18 => ?_) (fun hc18 => ?_)
  · skip
    have hlt : n < m := by
      have h3 := of_decide_eq_true hc18
      unfold cmpI at h3; split at h3
      · assumption
      · split at h3 <;> omega
    refine gC h (zs (zr (zm rfl (za rfl (za rfl (zn (zt ?_))))))); clear h; intro a w h
    have e1 : n / m = 0 := Nat.div_eq_of_lt hlt
    have e2 : n % m = n := Nat.mod_eq_of_lt hlt
    have e3 : PostN2 (n / m) (n % m) (.tuple #[.slice none 0 0, .slice ad1 (dg n).length c1]) [Row none [], Row ad1 (List.map encn (dg n))] := by rw [e1, e2]; exact ⟨none, 0, ad1, c1, by rw [dg_zero]; rfl, by rw [dg_zero]; exact Nat.le_refl _, hc1, by rw [dg_zero]; rfl⟩
    replace h := h.derive (R := Row none []) (fun X hX hne => absurd rfl hne)
    exact ret_of h (results2 h rfl (.tmp rfl) (.tmp rfl)) e3 (by simp)
  · skip
    have hle : m ≤ n := by
      have h3 := of_decide_eq_false hc18
      unfold cmpI at h3; split at h3
      · omega
      · omega
    have hll := dg_len_mono hle
    obtain ⟨B_ad1, O_ad1, rfl⟩ := h.row_addr (ad := ad1) (M := List.map encn (dg n)) mm (by intro e; have := congrArg List.length e; simp only [List.length_map, List.length_nil] at this; omega)
    refine gC h (zk (zs (zr (zm rfl (zp (.builtin [_] rfl (len_slice_52 _ _ _)) (zp (.sub rfl rfl) (zp (Pure1.cast (v' := .int .i64 ((((dg m).length - 3) : Nat) : Int)) (.builtin [_, _] rfl (fun w ty cs => bi_max _ _ w ty cs)) (by show Value.int _ _ = Value.int _ _; congr 1; omega)) (za rfl (zn (zs (zr (zm rfl (zm rfl (zw [_, _] rfl Tryz.call202 (C_rLead _ _ m ((dg m).length - 3) (by omega) (by omega) (by omega)) (za rfl (zn (zs (zr (zm rfl (zp (.builtin [_] rfl (len_slice_52 _ _ _)) (zm rfl (zp (.builtin [_] rfl (len_slice_52 _ _ _)) (zp (Pure1.cast (v' := .int .i64 (((((dg n).length - (dg m).length) + 1 : Nat) : Int) - 1)) (.sub rfl rfl) (by show Value.int _ _ = Value.int _ _; congr 1; omega)) (za rfl (zn (zs (zr (zm rfl (zp (Pure1.cast (v' := .int .i64 ((((dg n).length - (dg m).length) + 1 : Nat) : Int)) (.add rfl rfl) (by show Value.int _ _ = Value.int _ _; congr 1; omega)) ?_))))))))))))))))))))))))))))); clear h; intro a w h
    refine wpl_plain (op_makeSlice h rfl rfl Tryz.runUnderlying52 Tryz.typeInfo3 Tryz.sizeOf3 Tryz.zeroValue3 rfl (by decide) (by exact Nat.le_refl _) (by show 8 * (((dg n).length - (dg m).length) + 1) ≤ 281474976710656; omega) (by omega) (by decide) ?_); clear h; intro b34 a w h; replace h := h.same rfl (by rw [← map_reps]) rfl
    refine gL h (za rfl (zn (zs (zr (zB [] rfl (bs_52_0_) fun b35 => zm rfl (zm rfl (zp (Pure1.cast (v' := .int .i64 ((((dg n).length - (dg m).length) + 1 : Nat) : Int)) (.add rfl rfl) (by show Value.int _ _ = Value.int _ _; congr 1; omega)) (zp (.slice rfl (some _) none none rfl rfl rfl (slo_52 _ _ _ _ _ (by omega))) ?_)))))))); clear h; intro a w h
    replace h := h.derive (R := Row (some ⟨B_ad1, if c1 = ((dg n).length - (dg m).length) + 1 then O_ad1 else O_ad1 + (((dg n).length - (dg m).length) + 1) * 1, none⟩) ((List.map encn (dg n)).drop (((dg n).length - (dg m).length) + 1))) (fun X hX => row_drop (hX _ mm) (by rw [List.length_map]; exact hc1))
    rw [← List.map_drop, dg_drop n (((dg n).length - (dg m).length) + 1)] at h
    have hlr : (dg (n / 10000 ^ (((dg n).length - (dg m).length) + 1))).length = (dg n).length - (((dg n).length - (dg m).length) + 1) := by rw [← dg_drop, List.length_drop]
    rw [← hlr] at h
    refine wpl_plain (op_appendRow (b := b35) (xs := []) (ys := List.map encn (dg (n / 10000 ^ (((dg n).length - (dg m).length) + 1)))) (ad2 := some ⟨B_ad1, if c1 = ((dg n).length - (dg m).length) + 1 then O_ad1 else O_ad1 + (((dg n).length - (dg m).length) + 1) * 1, none⟩) (k := 1) h rfl rfl mm rfl Tryz.runUnderlying52 Tryz.runUnderlying52 Tryz.typeInfo3 Tryz.sizeOf3 Tryz.zeroValue3 rfl (by decide) (by decide) (by rw [List.length_map, Nat.mul_one]) (flat_map _) (by show 8 * (2 * _ + 192) ≤ 281474976710656; omega) (by decide) ?_); clear h; intro v40 o40 a w hG40 h
    obtain ⟨ad40, c40, rfl⟩ := hG40.is
    have hle40 := hG40.le
    replace h := h.shareO' hS hG40
    replace h := h.same (Φ' := Row ad40 (List.map encn (dg (n / 10000 ^ (((dg n).length - (dg m).length) + 1)))) :: _) rfl rfl rfl
    have hr0 : n / 10000 ^ (((dg n).length - (dg m).length) + 1) < m := dg_len_lt (by omega)
    have hr1 : n / 10000 ^ (((dg n).length - (dg m).length) + 1) % m = n / 10000 ^ (((dg n).length - (dg m).length) + 1) := Nat.mod_eq_of_lt hr0
    rw [Nat.zero_add (dg (n / 10000 ^ (((dg n).length - (dg m).length) + 1))).length, ← hr1] at h
    rw [Nat.zero_add (dg (n / 10000 ^ (((dg n).length - (dg m).length) + 1))).length, ← hr1] at hle40
    refine gL h (za rfl (zn (zs (zb ?_)))); clear h; intro a w h
    refine wp_loop_inv (fun (k : Nat) a w => ∃ Z ad c, (k ≤ ((dg n).length - (dg m).length) + 1 ∧ Z.length = ((dg n).length - (dg m).length) + 1 ∧ Dd Z ∧ valD (Z.drop k) = n / 10000 ^ k / m ∧ (dg (n / 10000 ^ k % m)).length ≤ c) ∧ St 97 S w0 [(0, .slice (some ⟨B_ad1, O_ad1, none⟩) ((dg n).length) c1), (1, .slice ad2 ((dg m).length) c2), (6, .int .i64 ((((dg m).length - 3) : Nat) : Int)), (7, .int .i64 ((valD ((dg m).drop ((dg m).length - 3)) : Nat) : Int)), (8, .int .i64 (((k : Nat) : Int) - 1)), (9, .slice (some ⟨b34, 0, none⟩) (((dg n).length - (dg m).length) + 1) (((dg n).length - (dg m).length) + 1)), (10, .slice ad ((dg (n / 10000 ^ k % m)).length) c)] [(b34, .cells (List.map encn (Z)).toArray 3 (0, 0))] [Row (some ⟨B_ad1, O_ad1, none⟩) (List.map encn (dg n)), Row ad2 (List.map encn (dg m)), Row ad (List.map encn (dg (n / 10000 ^ k % m)))] a w) (fun k => k) ((((dg n).length - (dg m).length) + 1)) (⟨List.replicate _ 0, ad40, c40, ⟨Nat.le_refl _, List.length_replicate, Dd.zeros _, by rw [List.drop_eq_nil_of_le (by rw [List.length_replicate]; exact Nat.le_refl _), Nat.div_eq_of_lt hr0]; rfl, hle40⟩, by exact (h.factsSub (by simp)).sub (subL ⟨rfl, rfl, rfl, rfl, rfl, rfl, rfl, trivial⟩)⟩) ?_; clear h
    rintro k a w ⟨Z, ad, c, ⟨hK, hZl, hZw, hZv, hlc⟩, h⟩
    have hrl := dg_len_mono (Nat.le_of_lt (Nat.mod_lt (n / 10000 ^ k) hm0))
    refine gC h (zs (zs (zr (zm rfl (zp (.geq rfl rfl) (zn ?_)))))); clear h; intro a w h
    change Code.wp _ _ _ _ _
    refine cond_split h rfl (fun hc42 => ?_) (fun hc42 => ?_)
    · skip
      have hk : 1 ≤ k := by have := of_decide_eq_true hc42; omega
      refine gC h (zk (zs (zb (zs (zr (zm rfl (zp (Pure1.cast (v' := .int .i64 ((k - 1 : Nat) : Int)) (.move rfl) (by show Value.int _ _ = Value.int _ _; congr 1; omega)) (zp (.indexAddr rfl rfl (ix_52 _ _ _ _ _ (by omega))) (zD rfl mm (by rw [List.length_map]; omega) Tryz.isAgg3 Tryz.sizeOf3 (read_row (enc := encn) (l := (dg n)) 0 (by omega)) (.inr rfl) ?_))))))))); clear h; intro a w h
      refine gL h (zB [(_, _)] rfl (bs_52_1_0 _) fun b49 => zm rfl ?_); clear h; intro a w h
      refine wpl_plain (op_appendRow (b := b49) (xs := [encn ((dg n).getD (k - 1) 0)]) (ys := List.map encn (dg (n / 10000 ^ k % m))) (ad2 := ad) (k := 1) h rfl rfl mm rfl Tryz.runUnderlying52 Tryz.runUnderlying52 Tryz.typeInfo3 Tryz.sizeOf3 Tryz.zeroValue3 rfl (by decide) (by decide) (by rw [List.length_map, Nat.mul_one]) (flat_map _) (by show 8 * (2 * _ + 192) ≤ 281474976710656; omega) (by decide) ?_); clear h; intro v51 o51 a w hG51 h
      obtain ⟨ad51, c51, rfl⟩ := hG51.is
      have hle51 := hG51.le
      replace h := h.shareO' hS hG51
      replace h := h.same (Φ' := Row ad51 (List.map encn ((dg n).getD (k - 1) 0 :: dg (n / 10000 ^ k % m))) :: _) rfl rfl rfl
      rw [show 1 + (dg (n / 10000 ^ k % m)).length = ((dg n).getD (k - 1) 0 :: dg (n / 10000 ^ k % m)).length from Nat.add_comm _ _] at h hle51
      have hwd : Dd ((dg n).getD (k - 1) 0 :: dg (n / 10000 ^ k % m)) := by
        intro x hx
        rcases List.mem_cons.1 hx with rfl | hx
        · exact dlt _ _
        · exact Dd.dg _ x hx
      refine gL h (zf [_] rfl Tryz.call181 (C_trim ad51 c51 ((dg n).getD (k - 1) 0 :: dg (n / 10000 ^ k % m)) hwd hle51 (by simp only [List.length_cons]; omega)) ?_); clear h; rintro v52 Ψ52 ⟨rfl, rfl⟩ a w h
      obtain ⟨R, hR⟩ : ∃ R, R = (dg n).getD (k - 1) 0 + 10000 * (n / 10000 ^ k % m) := ⟨_, rfl⟩
      rw [show valD ((dg n).getD (k - 1) 0 :: dg (n / 10000 ^ k % m)) = R from by rw [hR, valD, valD_dg]] at h
      have hkk : k - 1 + 1 = k := by omega
      have hR' : R = (dg n).getD (k - 1) 0 + 10000 * (n / 10000 ^ (k - 1 + 1) % m) := by rw [hkk]; exact hR
      have hRm : R < 10000 * m := rest_lt hR (dlt n _) (Nat.mod_lt _ hm0)
      have hRl := rest_len hRm
      refine gL h (za rfl (zn (zs (zr (zm rfl (zm rfl (zw [_, _] rfl Tryz.call202 (C_rLead _ _ R ((dg m).length - 3) (by omega) (by omega) (by omega)) ?_))))))); clear h; intro a w h
      have htop : 0 < valD ((dg m).drop ((dg m).length - 3)) := top_pos hm (by omega)
      have hFR := vdrop_lt R ((dg m).length - 3) ((dg m).length - 3) (by omega) (Nat.le_refl _)
      have hFT := vdrop_lt m ((dg m).length - 3) ((dg m).length - 3) (by omega) (Nat.le_refl _)
      have hq1 : valD ((dg R).drop ((dg m).length - 3)) / (valD ((dg m).drop ((dg m).length - 3)) + 1) ≤ valD ((dg R).drop ((dg m).length - 3)) := Nat.div_le_self _ _
      have hq2 : valD ((dg R).drop ((dg m).length - 3)) / valD ((dg m).drop ((dg m).length - 3)) ≤ valD ((dg R).drop ((dg m).length - 3)) := Nat.div_le_self _ _
      have hql : valD ((dg R).drop ((dg m).length - 3)) / (valD ((dg m).drop ((dg m).length - 3)) + 1) ≤ R / m := div_low hm0
      have hqh : R / m ≤ valD ((dg R).drop ((dg m).length - 3)) / valD ((dg m).drop ((dg m).length - 3)) := div_high htop
      have hq9 : R / m < 10000 := (Nat.div_lt_iff_lt_mul hm0).2 hRm
      have hn1 : (0 : Int) ≤ ((R / m : Nat) : Int) := Int.natCast_nonneg _
      have hn2 : (0 : Int) ≤ ((valD ((dg R).drop ((dg m).length - 3)) / (valD ((dg m).drop ((dg m).length - 3)) + 1) : Nat) : Int) := Int.natCast_nonneg _
      have hn3 : (0 : Int) ≤ ((valD ((dg R).drop ((dg m).length - 3)) / valD ((dg m).drop ((dg m).length - 3)) : Nat) : Int) := Int.natCast_nonneg _
      refine gL h (za rfl (zn (zs (yD mixed_YtealgpgmbflilaaGreatDoor [0, 1, 2, 3, 4, 5, 6, 7, 8, 9] (floatsOK_none (by kernel_rfl)) (yp rfl (.move rfl) (yp rfl (.move rfl) (yp rfl (Pure1.cast (v' := (.int .i64 (((valD ((dg m).drop ((dg m).length - 3))) + 1 : Nat) : Int))) (.add rfl rfl) (by show Value.int _ _ = Value.int _ _; congr 1)) (yp rfl (Pure1.cast (v' := .int .i64 ((valD ((dg R).drop ((dg m).length - 3)) / (valD ((dg m).drop ((dg m).length - 3)) + 1) : Nat) : Int)) (.binOp rfl rfl (fun _ => run_quo _ _ _ _ _ (by omega))) (by rw [tdiv_nat, wrap_i64 _ (by omega) (by omega)])) (yp rfl (.move rfl) (yp rfl (.move rfl) (yp rfl (Pure1.cast (v' := .int .i64 ((valD ((dg R).drop ((dg m).length - 3)) / valD ((dg m).drop ((dg m).length - 3)) : Nat) : Int)) (.binOp rfl rfl (fun _ => run_quo _ _ _ _ _ (by omega))) (by rw [tdiv_nat, wrap_i64 _ (by omega) (by omega)])) (yp rfl (Pure1.cast (v' := .int .i64 ((min (valD ((dg R).drop ((dg m).length - 3)) / valD ((dg m).drop ((dg m).length - 3))) 9999 : Nat) : Int)) (.builtin [_, _] rfl (fun w ty cs => bi_min _ _ w ty cs)) (by show Value.int _ _ = Value.int _ _; congr 1; omega)) (yp rfl (.assign rfl) (yp rfl (.assign rfl) (yn (zs (zb ?_))))))))))))))))); clear h; intro a w h
      refine wp_loop_inv (fun (g : Nat) a w => ∃ lo hi, (lo + g = hi ∧ lo ≤ R / m ∧ R / m ≤ hi ∧ hi ≤ 9999) ∧ St 97 S w0 [(0, .slice (some ⟨B_ad1, O_ad1, none⟩) ((dg n).length) c1), (1, .slice ad2 ((dg m).length) c2), (6, .int .i64 ((((dg m).length - 3) : Nat) : Int)), (7, .int .i64 ((valD ((dg m).drop ((dg m).length - 3)) : Nat) : Int)), (8, .int .i64 (((k : Nat) : Int) - 1)), (9, .slice (some ⟨b34, 0, none⟩) (((dg n).length - (dg m).length) + 1) (((dg n).length - (dg m).length) + 1)), (10, .slice ad51 ((dg R).length) c51), (12, .int .i64 ((lo : Nat) : Int)), (13, .int .i64 ((hi : Nat) : Int))] [(b34, .cells (List.map encn (Z)).toArray 3 (0, 0))] [Row ad51 (List.map encn (dg R)), Row ad51 (List.map encn ((dg n).getD (k - 1) 0 :: dg (n / 10000 ^ k % m))), Row (some ⟨B_ad1, O_ad1, none⟩) (List.map encn (dg n)), Row ad2 (List.map encn (dg m)), Row ad (List.map encn (dg (n / 10000 ^ k % m)))] a w) (fun g => g) ((min (valD ((dg R).drop ((dg m).length - 3)) / valD ((dg m).drop ((dg m).length - 3))) 9999 - valD ((dg R).drop ((dg m).length - 3)) / (valD ((dg m).drop ((dg m).length - 3)) + 1))) (⟨valD ((dg R).drop ((dg m).length - 3)) / (valD ((dg m).drop ((dg m).length - 3)) + 1), min (valD ((dg R).drop ((dg m).length - 3)) / valD ((dg m).drop ((dg m).length - 3))) 9999, ⟨by omega, hql, by omega, by omega⟩, by exact h.sub sA⟩) ?_; clear h
      rintro g a w ⟨lo, hi, ⟨hg, hlo, hhi, h9⟩, h⟩
      refine gC h (zs (zs (zr (zm rfl (zm rfl (zp (.lss rfl rfl) (zn ?_))))))); clear h; intro a w h
      change Code.wp _ _ _ _ _
      refine cond_split h rfl (fun hc66 => ?_) (fun hc66 => ?_)
      · skip
        have hrun : lo < hi := by have := of_decide_eq_true hc66; omega
        refine gC h (zk (zb (zs (zr (zm rfl (zm rfl (zp (Pure1.cast (v' := (.int .i64 ((lo + hi : Nat) : Int))) (.add rfl rfl) (by show Value.int _ _ = Value.int _ _; congr 1)) (zp (Pure1.cast (v' := (.int .i64 (((lo + hi) + 1 : Nat) : Int))) (.add rfl rfl) (by show Value.int _ _ = Value.int _ _; congr 1)) (zp (Pure1.cast (v' := .int .i64 (((lo + hi + 1) / 2 : Nat) : Int)) (.binOp rfl rfl (fun _ => run_quo _ _ _ _ _ (by decide))) (by rw [show (2 : Int) = ((2 : Nat) : Int) from rfl, tdiv_nat, wrap_i64 _ (by omega) (by omega)])) (za rfl (zn (zs (zr (zm rfl (zm rfl (zp (.convert rfl (cv_3_36b _ (wrap_u64 _ (by omega) (by omega)))) (zf [_] rfl Tryz.call182 (C_rOf ((lo + hi + 1) / 2) (by omega)) ?_))))))))))))))))); clear h; rintro v75 Ψ75 ⟨ad75, c75, rfl, hle75, rfl⟩ a w h
        have hl75 := dg5 ((lo + hi + 1) / 2) (by omega)
        refine gL h (zf [_, _] rfl Tryz.call140 (C_rMul _ _ _ _ m ((lo + hi + 1) / 2) (by omega) (by omega)) ?_); clear h; rintro v76 Ψ76 ⟨ad76, c76, rfl, hle76, rfl⟩ a w h
        have hl76 := dg_len_mul m ((lo + hi + 1) / 2)
        refine gL h (zm rfl (zw [_, _] rfl Tryz.call179 (C_rCmp _ _ _ _ (m * ((lo + hi + 1) / 2)) R (by omega) (by omega)) (zp (.leq rfl rfl) (zn ?_)))); clear h; intro a w h
        change Code.wp _ _ _ _ _
        refine cond_split h rfl (fun hc79 => ?_) (fun hc79 => ?_)
        · skip
          have hmid : (lo + hi + 1) / 2 ≤ R / m := by
            have h3 := cmpI_le.1 (of_decide_eq_true hc79)
            rwa [Nat.le_div_iff_mul_le hm0, Nat.mul_comm]
          refine gC h (zr (zm rfl (za rfl (zn ?_)))); clear h; intro a w h
          exact ⟨hi - ((lo + hi + 1) / 2), ⟨(lo + hi + 1) / 2, hi, ⟨by omega, by omega, by omega, by omega⟩, by exact (h.factsSub (by simp)).sub sA⟩, by omega⟩
        · skip
          have hmid : R / m < (lo + hi + 1) / 2 := by
            have h3 := of_decide_eq_false hc79
            rw [cmpI_le] at h3
            rw [Nat.div_lt_iff_lt_mul hm0, Nat.mul_comm]; omega
          refine gC h (zr (zm rfl (zp (Pure1.cast (v' := (.int .i64 ((((lo + hi + 1) / 2) - 1 : Nat) : Int))) (.sub rfl rfl) (by show Value.int _ _ = Value.int _ _; congr 1; omega)) (za rfl (zn ?_))))); clear h; intro a w h
          exact ⟨(((lo + hi + 1) / 2) - 1) - lo, ⟨lo, ((lo + hi + 1) / 2) - 1, ⟨by omega, by omega, by omega, by omega⟩, by exact (h.factsSub (by simp)).sub sA⟩, by omega⟩
      · skip
        obtain rfl : lo = R / m := by have := of_decide_eq_false hc66; omega
        refine gC h (ze (zs (zr (zm rfl (zp (Pure1.cast (v' := .int .i64 ((k - 1 : Nat) : Int)) (.move rfl) (by show Value.int _ _ = Value.int _ _; congr 1; omega)) (zm rfl (zp (.indexAddr rfl rfl (ix_52 _ _ _ _ _ (by omega))) (zt' rfl rfl ((congrArg (fun z => setFrom _ z _) (Nat.zero_add _)).trans (set_row (enc := encn) Z (k - 1) (R / m))) uu Tryz.sizeOf3 rfl (by simp; omega) rfl ?_)))))))); clear h; intro a w h
        refine gL h (zn (zr (zm rfl (zm rfl (zm rfl (zp (.convert rfl (cv_3_36b _ (wrap_u64 _ (by omega) (by omega)))) (zf [_] rfl Tryz.call182 (C_rOf (R / m) (by omega)) ?_))))))); clear h; rintro v91 Ψ91 ⟨ad91, c91, rfl, hle91, rfl⟩ a w h
        have hl91 := dg5 (R / m) (by omega)
        refine gL h (zf [_, _] rfl Tryz.call140 (C_rMul _ _ _ _ m (R / m) (by omega) (by omega)) ?_); clear h; rintro v92 Ψ92 ⟨ad92, c92, rfl, hle92, rfl⟩ a w h
        have hl92 := dg_len_mul m (R / m)
        refine gL h (zf [_, _] rfl Tryz.call178 (C_rSub _ _ _ _ R (m * (R / m)) (by omega) (by omega) (Nat.mul_div_le R m)) ?_); clear h; rintro v93 Ψ93 ⟨ad93, c93, rfl, hle93, rfl⟩ a w h
        have e93 : R - m * (R / m) = n / 10000 ^ (k - 1) % m := by rw [div_step_mod n m (k - 1) R hR', Nat.mod_def]
        rw [e93] at h hle93
        refine gL h (za rfl (zn (zr (zm rfl (zp (Pure1.cast (v' := .int .i64 (((k - 1 : Nat) : Int) - 1)) (.sub rfl rfl) (by show Value.int _ _ = Value.int _ _; congr 1; omega)) (za rfl (zn ?_))))))); clear h; intro a w h
        exact ⟨k - 1, ⟨Z.set (k - 1) (R / m), ad93, c93, ⟨by omega, by rw [List.length_set]; exact hZl, hZw.set _ _ (by omega), by rw [valD_set_drop (by omega), hkk, hZv, div_step_quo n m (k - 1) R hm0 hR', hkk], hle93⟩, by exact (h.factsSub (by simp)).sub sA⟩, by omega⟩
    · skip
      obtain rfl : k = 0 := by have := of_decide_eq_false hc42; omega
      refine gC h (ze (zs (zr (zm rfl ?_)))); clear h; intro a w h
      have hZ0 : valD Z = n / m := by simpa using hZv
      rw [show n / 10000 ^ 0 % m = n % m from by simp] at h hlc
      rw [← hZl] at h
      replace h := h.shareAll hS (List.map encn Z) rfl
      refine gL h (zf [_] rfl Tryz.call181 (C_trim (some ⟨b34, 0, none⟩) Z.length Z hZw (Nat.le_refl _) (by omega)) ?_); clear h; rintro v95 Ψ95 ⟨rfl, rfl⟩ a w h
      rw [hZ0] at h
      refine gL h (zm rfl (za rfl (za rfl (zn (zt ?_))))); clear h; intro a w h
      exact ret_of (Ψ := [Row (some ⟨b34, 0, none⟩) (List.map encn (dg (n / m))), Row ad (List.map encn (dg (n % m)))]) h (results2 h rfl (.tmp rfl) (.tmp rfl)) ⟨_, _, _, _, rfl, by rw [← hZ0]; exact dg_length_le hZw, hlc, rfl⟩ (by simp)

theorem C_rGcd (ad1 ad2 : Option Addr) (c1 c2 : Nat) (n m : Nat) (h1 : (dg n).length ≤ 300000000000) (h2 : (dg m).length ≤ 300000000000) (hc1 : (dg n).length ≤ c1) (hc2 : (dg m).length ≤ c2) :
    Ctr Tryz.prog 176 [.slice ad1 (dg n).length c1, .slice ad2 (dg m).length c2] [Row ad1 (List.map encn (dg n)), Row ad2 (List.map encn (dg m))] (PostN (Nat.gcd n m)) := by
  refine fn_intro Tryz.func176 rfl Tryz.ntmps176 nb ?_
  intro S w0 a hS h
  refine gC h (zs (zr (za rfl (zn (zs (zb ?_)))))); clear h; intro a w h
  refine wp_loop_inv (fun (y : Nat) a w => ∃ x p cp q cq, (Nat.gcd x y = Nat.gcd n m ∧ (dg x).length ≤ 300000000000 ∧ (dg y).length ≤ 300000000000 ∧ (dg x).length ≤ cp ∧ (dg y).length ≤ cq) ∧ St 19 S w0 [(0, .slice p ((dg x).length) cp), (1, .slice q ((dg y).length) cq)] [] [Row p (List.map encn (dg x)), Row q (List.map encn (dg y))] a w) (fun y => y) (m) (⟨n, ad1, c1, ad2, c2, ⟨rfl, h1, h2, hc1, hc2⟩, by exact (h.factsSub (by simp)).sub sA⟩) ?_; clear h
  rintro y a w ⟨x, p, cp, q, cq, ⟨hg, hx1, hy1, hcp, hcq⟩, h⟩
  refine gC h (zs (zs (zr (zm rfl (zp (.builtin [_] rfl (len_slice_52 _ _ _)) (zp (.gtr rfl rfl) (zn ?_))))))); clear h; intro a w h
  change Code.wp _ _ _ _ _
  refine cond_split h rfl (fun hc9 => ?_) (fun hc9 => ?_)
  · skip
    have hy : y ≠ 0 := by
      intro e; subst e; rw [dg_zero] at hc9; exact absurd (of_decide_eq_true hc9) (by decide)
    have hl3 := dg_len_mono (Nat.le_of_lt (Nat.mod_lt x (Nat.pos_of_ne_zero hy)))
    refine gC h (zk (zb (zs (zr (zm rfl (zm rfl (zf [_, _] rfl Tryz.call177 (C_rDiv _ _ _ _ x y (by omega) (by omega) (by omega) (by omega)) ?_))))))); clear h; rintro v13 Ψ13 ⟨ad13, c13, bd13, d13, rfl, hle13, hlf13, rfl⟩ a w h
    refine gL h (zm rfl (zp (.extract rfl (fun _ => rfl)) (zp (.extract rfl (fun _ => rfl)) (za rfl (za rfl (zn (zs (zr (zm rfl (za rfl (zn (zr (zm rfl (za rfl (zn ?_))))))))))))))); clear h; intro a w h
    exact ⟨x % y, ⟨y, q, cq, bd13, d13, ⟨by rw [← hg, Nat.gcd_comm x y, Nat.gcd_rec y x, Nat.gcd_comm], hy1, by omega, hcq, hlf13⟩, by exact (h.factsSub (by simp)).sub sA⟩, Nat.mod_lt _ (Nat.pos_of_ne_zero hy)⟩
  · skip
    obtain rfl : y = 0 := by
      have h3 := of_decide_eq_false hc9
      exact dg_nil.1 (List.eq_nil_of_length_eq_zero (by omega))
    refine gC h (ze (zs (zr (zm rfl (za rfl (zn (zt ?_))))))); clear h; intro a w h
    refine ret_of (Ψ := [Row p (List.map encn (dg x))]) h (results1 h rfl (.tmp rfl)) ?_ (by simp)
    rw [Nat.gcd_zero_right] at hg; subst hg; exact ⟨p, cp, rfl, hcp, rfl⟩
end Go.Proofs.YtealgpgmbflilaaGreatDoor
