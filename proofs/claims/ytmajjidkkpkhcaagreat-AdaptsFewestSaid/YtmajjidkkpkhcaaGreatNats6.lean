/- Written by a program of ours (gen.py) out of short specifications. By an AI agent. -/
import Derived.Test.YtmajjidkkpkhcaaGreatNats5
import Derived.Test.YtmajjidkkpkhcaaGreatNumD
import Derived.Test.YtmajjidkkpkhcaaGreatFxZ
set_option linter.unusedVariables false
set_option linter.unusedSimpArgs false
set_option maxRecDepth 4000
namespace Go.Proofs.YtmajjidkkpkhcaaGreat
open Go Go.Proofs Go.Fx
attribute [local irreducible] Oper.wp Code.wp wpList Fx.Head wpOp



theorem C_Div32 (hi lo y : Nat) (hlo : lo < 4294967296) (hy : y < 4294967296) (h0 : hi < y) :
    CtrV Tryz.prog 133 [.int .u32 (hi : Int), .int .u32 (lo : Int), .int .u32 (y : Int)] (.tuple #[.int .u32 (((hi * 4294967296 + lo) / y : Nat) : Int), .int .u32 (((hi * 4294967296 + lo) % y : Nat) : Int)]) := by
  have hq : (hi * 4294967296 + lo) / y < 4294967296 := short_digit h0 hlo
  have hr : (hi * 4294967296 + lo) % y < y := Nat.mod_lt _ (by omega)
  refine fn_intro Tryz.func133 rfl Tryz.ntmps133 nb ?_
  intro S w0 a hS h
  refine gC h (zs (zr (za rfl (za rfl (zn (zs (zs (zr (zm rfl (zp (.neq rfl rfl) (zm rfl ?_))))))))))); clear h; intro a w h
  refine by_bool h (fun hc11 h => ?_) (fun hc11 h => (by exfalso; have := natEq (b := 0) hc11; omega))
  refine gL h (zq 11 rfl rfl (.move rfl) (zq 11 rfl rfl (.move rfl) (zq 11 rfl rfl (.leq rfl rfl) ?_))); clear h; intro a w h
  refine by_bool h (fun hc14 h => (by exfalso; have := of_decide_eq_true hc14; omega)) (fun hc14 h => ?_)
  refine gL h (zp (.pickT rfl rfl) (zn ?_)); clear h; intro a w h
  change Code.wp _ _ _ _ _
  refine cond_false h rfl ?_
  refine gC h (zk (zs (zr (zm rfl (zp (.convert rfl (cv_23_40b _ (wrap_u64 _ (by omega) (by omega)))) (zp (Pure1.cast (v' := .int .u64 ((hi * 4294967296 : Nat) : Int)) (.binOp rfl rfl (fun _ => run_shl _ _ _ hi 32 (by decide))) (by rw [wrap_u64 _ (by omega) (by omega)])) (zm rfl (zp (.convert rfl (cv_23_40b _ (wrap_u64 _ (by omega) (by omega)))) (zp (Pure1.cast (v' := .int .u64 ((hi * 4294967296 + lo : Nat) : Int)) (.binOp rfl rfl (fun _ => run_or rfl _ _ _ (hi * 4294967296) lo (by show _ < 18446744073709551616; omega) (by show _ < 18446744073709551616; omega))) (by have e := Nat.shiftLeft_add_eq_or_of_lt (show lo < 2 ^ 32 by omega) hi; rw [Nat.shiftLeft_eq] at e; rw [show hi * 4294967296 = hi * 2 ^ 32 from rfl, ← e])) (za rfl (zn (zs (yD mixed_YtmajjidkkpkhcaaGreat [0, 1, 2, 3, 4, 5, 6, 7, 8, 9, 10, 11] (floatsOK_none (by kernel_rfl)) (yp rfl (.move rfl) (yp rfl (.move rfl) (yp rfl (.convert rfl (cv_23_40b _ (wrap_u64 _ (by omega) (by omega)))) (yp rfl (Pure1.cast (v' := .int .u64 (((hi * 4294967296 + lo) / y : Nat) : Int)) (.binOp rfl rfl (fun _ => run_quo _ _ _ _ _ (by omega))) (by rw [tdiv_nat, wrap_u64n (Nat.lt_of_lt_of_le hq (by decide))])) (yp rfl (Pure1.cast (v' := .int .u32 (((hi * 4294967296 + lo) / y : Nat) : Int)) (.convert rfl (cv_40_23 _)) (by rw [wrap_u32n hq])) (yp rfl (.move rfl) (yp rfl (.move rfl) (yp rfl (.convert rfl (cv_23_40b _ (wrap_u64 _ (by omega) (by omega)))) (yp rfl (Pure1.cast (v' := .int .u64 (((hi * 4294967296 + lo) % y : Nat) : Int)) (.binOp rfl rfl (fun _ => run_rem _ _ _ _ _ (by omega))) (by rw [tmod_nat])) (yp rfl (Pure1.cast (v' := .int .u32 (((hi * 4294967296 + lo) % y : Nat) : Int)) (.convert rfl (cv_40_23 _)) (by rw [wrap_u32n (Nat.lt_trans hr hy)])) (yp rfl (.assign rfl) (yp rfl (.assign rfl) (yn (zt ?_))))))))))))))))))))))))))); clear h; intro a w h
  refine retV h (results2 h rfl (.tmp rfl) (.tmp rfl)) ?_
  rfl

theorem C_short (ad : Option Addr) (cp : Nat) (X : List Nat) (y : Nat) (hX : Wd X) (hl : X.length ≤ 1099511627776) (hy0 : 0 < y) (hy : y < 4294967296) :
    CtrO Tryz.prog 116 [.slice ad X.length cp, .int .u32 (y : Int)] [Row ad (u32s X)] (fun v σn => ∃ b Q, v = .tuple #[.slice (some ⟨b, 0, none⟩) Q.length Q.length, .int .u32 ((valW X % y : Nat) : Int)] ∧ Wd Q ∧ Q.length = X.length ∧ valW Q = valW X / y ∧ σn = [(b, .cells (u32s Q).toArray 23 (0, 0))]) := by
  refine fn_introO Tryz.func116 rfl Tryz.ntmps116 nb ?_
  intro S w0 a hS h
  refine gC h (zs (zr (za rfl (za rfl (zn (zs (zr (zm rfl (zp (.builtin [_] rfl (len_slice_114 _ _ _)) ?_))))))))); clear h; intro a w h
  refine wpl_plain (op_makeSlice h rfl rfl Tryz.runUnderlying114 Tryz.typeInfo23 Tryz.sizeOf23 Tryz.zeroValue23 rfl (by decide) (by exact Nat.le_refl _) (by show 4 * _ ≤ _; omega) (by omega) (by decide) ?_); clear h; intro b9 a w h
  rw [show (Value.int .u32 0).cells.toList = [Value.int .u32 0] from rfl, reps_one, show List.replicate X.length (Value.int .u32 0) = u32s (List.replicate X.length 0) from by simp] at h
  refine gL h (za rfl (zn (zs (zs (zr (zm rfl (zp (.builtin [_] rfl (len_slice_114 _ _ _)) (zp (.sub rfl rfl) (za rfl (zn (zb ?_))))))))))); clear h; intro a w h
  refine wp_loop_inv (fun (k : Nat) a w => ∃ Q r, k ≤ X.length ∧ Q.length = X.length ∧ Wd Q ∧ r < y ∧ valW (X.drop k) = valW (Q.drop k) * y + r ∧ St 32 S w0 [(0, .slice ad X.length cp), (1, .int .u32 (y : Int)), (4, .slice (some ⟨b9, 0, none⟩) X.length X.length), (5, .int .u32 (r : Int)), (6, .int .i64 ((k : Int) - 1))] [(b9, .cells (u32s Q).toArray 23 (0, 0))] [Row ad (u32s X)] a w) (fun k => k) (X.length) (⟨List.replicate X.length 0, 0, Nat.le_refl _, by simp, Wd.zeros _, hy0, by simp [valW], h.sub (subL ⟨rfl, rfl, rfl, rfl, rfl, trivial⟩)⟩) ?_; clear h
  rintro k a w ⟨Q, r, hkX, hQ, hQw, hr, hT, h⟩
  refine gC h (zs (zs (zr (zm rfl (zp (.geq rfl rfl) (zn ?_)))))); clear h; intro a w h
  change Code.wp _ _ _ _ _
  refine cond_split h rfl (fun hc14 => ?_) (fun hc14 => ?_)
  · skip
    have hk : 0 < k := by simp at hc14; omega
    have hlt : 0 < X.length := by omega
    obtain ⟨bX, bXo, bXe⟩ := h.row_addr (ad := ad) (M := u32s X) (by simp) (by simp; intro e; simp [e] at hlt)
    subst bXe
    refine gC h (zk (zs (zb (zr (zm rfl (zp (Pure1.cast (v' := .int .i64 ((k - 1 : Nat) : Int)) (.move rfl) (by show Value.int _ _ = Value.int _ _; congr 1; omega)) (zm rfl (zm rfl (zp (Pure1.cast (v' := .int .i64 ((k - 1 : Nat) : Int)) (.move rfl) (by show Value.int _ _ = Value.int _ _; congr 1; omega)) (zp (.indexAddr rfl rfl (ix_114 _ _ _ _ _ (by omega))) (zD rfl mm (by simp; omega) Tryz.isAgg23 Tryz.sizeOf23 (read_row 0 (by omega)) (.inr rfl) ?_))))))))))); clear h; intro a w h
    refine gL h (zm rfl (zv [_, _, _] rfl Tryz.call133 (C_Div32 r (X.getD (k - 1) 0) y (hX.getD _) hy hr) (zm rfl (zp (.extract rfl (fun _ => rfl)) (zp (.extract rfl (fun _ => rfl)) (zp (.indexAddr rfl rfl (ix_114 _ _ _ _ _ (by omega))) (zt' rfl rfl ((set_row Q (0 + (k - 1)) ((r * 4294967296 + X.getD (k - 1) 0) / y)).trans (by rw [Nat.zero_add])) uu Tryz.sizeOf23 rfl (by simp; omega) rfl ?_))))))); clear h; intro a w h
    refine gL h (za rfl (zn (zr (zm rfl (zp (Pure1.cast (v' := .int .i64 (((k - 1 : Nat) : Int) - 1)) (.sub rfl rfl) (by show Value.int _ _ = Value.int _ _; congr 1; omega)) (za rfl (zn ?_))))))); clear h; intro a w h
    exact ⟨k - 1, ⟨Q.set (k - 1) ((r * 4294967296 + X.getD (k - 1) 0) / y), _, by omega, by simpa using hQ, hQw.set _ _ (short_digit hr (hX.getD _)), Nat.mod_lt _ hy0, short_step hk hkX hQ hT, h.sub (subL ⟨rfl, rfl, rfl, rfl, rfl, trivial⟩)⟩, by omega⟩
  · skip
    have hk : k = 0 := by simp at hc14; omega
    refine gC h (ze (zs (zr (zm rfl (zm rfl (za rfl (za rfl (zn (zt ?_))))))))); clear h; intro a w h
    subst hk
    simp only [List.drop_zero] at hT
    rw [← hQ] at h
    refine retO h (results2 h rfl (.tmp rfl) (.tmp rfl)) ⟨b9, Q, ?_, hQw, hQ, ?_, rfl⟩ (List.Sublist.refl _)
    · rw [hT, Nat.mul_comm, Nat.mul_add_mod, Nat.mod_eq_of_lt hr]
    · rw [hT, Nat.mul_comm, Nat.mul_add_div hy0, Nat.div_eq_of_lt hr, Nat.add_zero]

theorem C_shifted (ad : Option Addr) (cp : Nat) (X : List Nat) (s : Nat) (hX : Wd X) (hl : X.length ≤ 1000000000000) (hs : s < 32) :
    CtrO Tryz.prog 135 [.slice ad X.length cp, .int .i64 (s : Int)] [Row ad (u32s X)] (fun v σn => ∃ b Z, v = .slice (some ⟨b, 0, none⟩) Z.length Z.length ∧ Wd Z ∧ Z.length = X.length + 1 ∧ valW Z = valW X * 2 ^ s ∧ σn = [(b, .cells (u32s Z).toArray 23 (0, 0))]) := by
  refine fn_introO Tryz.func135 rfl Tryz.ntmps135 nb ?_
  intro S w0 a hS h
  refine gC h (zs (zr (za rfl (zn (zs (zr (zm rfl (zp (.builtin [_] rfl (len_slice_114 _ _ _)) (zp (Pure1.cast (v' := .int .i64 ((X.length + 1 : Nat) : Int)) (.add rfl rfl) (by show Value.int _ _ = Value.int _ _; congr 1)) ?_))))))))); clear h; intro a w h
  refine wpl_plain (op_makeSlice h rfl rfl Tryz.runUnderlying114 Tryz.typeInfo23 Tryz.sizeOf23 Tryz.zeroValue23 rfl (by decide) (by exact Nat.le_refl _) (by show 4 * _ ≤ _; omega) (by omega) (by decide) ?_); clear h; intro b12 a w h
  rw [show (Value.int .u32 0).cells.toList = [Value.int .u32 0] from rfl, reps_one, show List.replicate (X.length + 1) (Value.int .u32 0) = u32s (List.replicate (X.length + 1) 0) from by simp] at h
  refine gL h (za rfl (zn (zs (zr (za rfl (zn (zs (zs (zr (zm rfl (zp (.builtin [_] rfl (len_slice_114 _ _ _)) (zm rfl (zn (zb ?_)))))))))))))); clear h; intro a w h
  refine wp_loop_inv (fun (i : Nat) a w => ∃ Z c, i ≤ X.length ∧ Z.length = X.length + 1 ∧ Wd Z ∧ c < 2 ^ s ∧ (∀ j, i ≤ j → Z.getD j 0 = 0) ∧ valW Z + 4294967296 ^ i * c = valW (X.take i) * 2 ^ s ∧ St 41 S w0 [(0, .slice ad X.length cp), (1, .int .i64 (s : Int)), (5, .slice (some ⟨b12, 0, none⟩) (X.length + 1) (X.length + 1)), (6, .int .u32 (c : Int)), (13, .slice ad X.length cp), (14, .int .i64 (X.length : Int)), (15, .int .i64 (i : Int))] [(b12, .cells (u32s Z).toArray 23 (0, 0))] [Row ad (u32s X)] a w) (fun i => X.length - i) (0) (⟨List.replicate (X.length + 1) 0, 0, Nat.zero_le _, by simp, Wd.zeros _, Nat.pow_pos (by omega), fun j _ => by simp [List.getD, List.getElem?_replicate]; split <;> rfl, by rw [valW_zeros _ (fun x hx => List.eq_of_mem_replicate hx)]; simp [valW], h.sub (subL ⟨rfl, rfl, rfl, rfl, rfl, rfl, rfl, trivial⟩)⟩) ?_; clear h
  rintro i a w ⟨Z, c, hi, hZl, hZ, hc, hz, hT, h⟩
  refine gC h (zs (zr (zp (.lss rfl rfl) (zn (zs ?_))))); clear h; intro a w h
  refine cond_split h rfl (fun hc16 => ?_) (fun hc16 => ?_)
  · skip
    have hi' : i < X.length := by simpa using hc16
    have hlt := hi'
    obtain ⟨bX, bXo, bXe⟩ := h.row_addr (ad := ad) (M := u32s X) (by simp) (by simp; intro e; simp [e] at hlt)
    subst bXe
    have hx := hX.getD i
    have h2 := shl_or_lt (X.getD i 0) s c hs hc
    have h3 := shl_carry (X.getD i 0) s hs hx
    have h4 := pow_lt32 s hs
    have h5 : X.getD i 0 * 2 ^ s ≤ 4294967295 * 2147483648 := Nat.mul_le_mul (by omega) h4
    refine gC h (zk (zs (zb (zs (zr (zm rfl (zp (.indexAddr rfl rfl (ix_114 _ _ _ _ _ (by omega))) (zD rfl mm (by simp; omega) Tryz.isAgg23 Tryz.sizeOf23 (read_row 0 (by omega)) (.inr rfl) ?_)))))))); clear h; intro a w h
    refine gL h (za rfl (za rfl (zn (zs (zr (zm rfl (zm rfl (zm rfl (zm rfl (zp (Pure1.cast (v' := .int .u32 ((X.getD i 0 * 2 ^ s % 4294967296 : Nat) : Int)) (.binOp rfl rfl (fun _ => run_shl _ _ _ _ s (by show s ≤ 32; omega))) (by rw [wrap_u32_mod]; congr 1)) (zm rfl (zp (Pure1.cast (v' := .int .u32 ((X.getD i 0 * 2 ^ s % 4294967296 + c : Nat) : Int)) (.binOp rfl rfl (fun _ => run_or rfl _ _ _ _ c (by show _ < 4294967296; omega) (by show _ < 4294967296; omega))) (by rw [shl_or _ s c hs hc])) (zp (.indexAddr rfl rfl (ix_114 _ _ _ _ _ (by omega))) (zt' rfl rfl ((set_row Z (0 + i) (X.getD i 0 * 2 ^ s % 4294967296 + c)).trans (by rw [Nat.zero_add])) uu Tryz.sizeOf23 rfl (by simp; omega) rfl ?_)))))))))))))); clear h; intro a w h
    refine gL h (zn (zr (zm rfl (zp (.convert rfl (cv_23_40b _ (wrap_u64 _ (by omega) (by omega)))) (zm rfl (zp (Pure1.cast (v' := .int .u64 ((X.getD i 0 * 2 ^ s : Nat) : Int)) (.binOp rfl rfl (fun _ => run_shl _ _ _ _ s (by show s ≤ 64; omega))) (by rw [wrap_u64 _ (by omega) (by omega)])) (zp (.binOp rfl rfl (fun _ => run_shr _ _ _ _ 32 (by decide))) (zp (Pure1.cast (v' := .int .u32 ((X.getD i 0 * 2 ^ s / 4294967296 : Nat) : Int)) (.convert rfl (cv_40_23 _)) (by rw [wrap_u32 _ (by omega) (by omega)])) (za rfl (zn (zr (zp (.add rfl rfl) (zm rfl (zn ?_)))))))))))))); clear h; intro a w h
    exact ⟨i + 1, ⟨Z.set i (X.getD i 0 * 2 ^ s % 4294967296 + c), _, by omega, by simpa using hZl, hZ.set _ _ h2, h3, fun j hj => by rw [getD_setw (by omega)]; exact hz j (by omega), shift_step hi' hZl (hz i (Nat.le_refl _)) hT, h.sub (subL ⟨rfl, rfl, rfl, rfl, rfl, rfl, rfl, trivial⟩)⟩, by omega⟩
  · skip
    have hi' : i = X.length := by simp at hc16; omega
    refine gC h (ze (zs (zr (zm rfl (zm rfl (zp (.builtin [_] rfl (len_slice_114 _ _ _)) (zm rfl (zp (.indexAddr rfl rfl (ix_114 _ _ _ _ _ (by omega))) (zt' rfl rfl ((set_row Z (0 + X.length) c).trans (by rw [Nat.zero_add])) uu Tryz.sizeOf23 rfl (by simp; omega) rfl ?_))))))))); clear h; intro a w h
    refine gL h (zn (zs (zr (zm rfl (za rfl (zn (zt ?_))))))); clear h; intro a w h
    subst hi'
    have hp := pow_lt32 s hs
    rw [show X.length + 1 = (Z.set X.length c).length from by simp [hZl]] at h
    refine retO h (results1 h rfl (.tmp rfl)) ⟨b12, Z.set X.length c, rfl, hZ.set _ _ (by omega), by simpa using hZl, shift_end hZl (hz _ (Nat.le_refl _)) hT, rfl⟩ (List.Sublist.refl _)
end Go.Proofs.YtmajjidkkpkhcaaGreat
