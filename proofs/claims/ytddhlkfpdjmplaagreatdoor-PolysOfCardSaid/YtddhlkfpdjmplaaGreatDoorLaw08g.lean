/- Written by a program of ours (gen.py) out of short specifications. By an AI agent. -/
import Derived.Test.YtddhlkfpdjmplaaGreatDoorReft
set_option linter.unusedVariables false
set_option linter.unusedSimpArgs false
set_option maxRecDepth 4000
namespace Go.Proofs.YtddhlkfpdjmplaaGreatDoor
open Go Go.Proofs Go.Fx
attribute [local irreducible] Oper.wp Code.wp wpList Fx.Head wpOp
def tzz (t : Ti) : Tz := ⟨t.i, t.j, qv t.n t.d⟩
theorem may_er (t : Ti) : mayZ (tzz t) = er3 (tzI t) := by
  unfold mayZ er3 tzz tzI
  dsimp only
  by_cases h1 : t.i < 0 ∨ t.j < 0
  · rw [if_pos h1, if_pos h1]
  · rw [if_neg h1, if_neg h1]
    by_cases h2 : t.i > 12 ∨ t.j > 12 - t.i
    · rw [if_pos h2, if_pos (by omega)]
    · rw [if_neg h2, if_neg (by omega)]
theorem fz_er : ∀ l : List Ti, firstZ (l.map tzz) = erT (l.map tzI)
  | [] => rfl
  | t :: l => by rw [List.map_cons, List.map_cons, firstZ, erT, may_er, fz_er l]
theorem tm_er (l : List Ti) : (l.map tzI).map tm3 = (l.map tzz).map tmZ := by rw [List.map_map, List.map_map]; rfl
theorem ref_npZ {l : List Ti} {Z : List Tz} (hZ : l.map tzz = Z) {lo : List FT} (h : Eqv (pol (xs lo)) (if erT (l.map tzI) = 0 then (l.map tzI).map tm3 else [])) : Eqv (pol (xs lo)) (npZ Z) := by
  rw [← fz_er, tm_er, hZ] at h
  by_cases hz : firstZ Z = 0
  · rw [if_pos hz] at h; rw [npZ_ok hz]; exact h.trans (Eqv.nrm _).symm
  · rw [if_neg hz] at h; rw [npZ_bad hz]; exact h
theorem cfT_none {p : List Tm} {i j : Int} (h : ∀ t ∈ p, ¬ ((t.i : Int) = i ∧ (t.j : Int) = j)) : cfT p i j = 0 := by
  induction p with
  | nil => rfl
  | cons t p ih =>
    rw [cfT, if_neg (h t List.mem_cons_self)]
    exact ih (fun s hs => h s (List.mem_cons_of_mem _ hs))
theorem cfT_lin (a b : Nat) : ∀ {p : List Tm}, Nrm p → cfT p (a : Int) (b : Int) = lin (at0 a b) p
  | [], _ => rfl
  | t :: p, h => by
    have ih := cfT_lin a b (nrm_tail h)
    rw [cfT, lin]
    by_cases e : t.i = a ∧ t.j = b
    · obtain ⟨e1, e2⟩ := e
      rw [if_pos (by omega), lin_at0_none (fun s hs e3 => by
        have h1 := (List.pairwise_cons.1 h.2).1 s hs
        rw [ltT_iff] at h1; omega)]
      unfold at0; rw [if_pos ⟨e1, e2⟩]; grind
    · rw [if_neg (by omega), ih]
      unfold at0; rw [if_neg e]; grind
theorem po_A {Z : List Tz} (h : ¬ firstZ Z = 0) (hc : (okB Z != false) = true) : False := by
  have h1 : okB Z = true := by simpa using hc
  exact h ((okB_iff Z).1 h1).1
theorem po_B {Z : List Tz} (h : Z.length ≠ (npZ Z).length) (hc : (okB Z != false) = true) : False := by
  have h1 : okB Z = true := by simpa using hc
  obtain ⟨h2, h3⟩ := (okB_iff Z).1 h1
  exact h (by rw [npZ_ok h2, h3, List.length_map])
theorem po_C {Z : List Tz} (h : firstZ Z = 0) (hc : (okB Z != decide (Z = (npZ Z).map toZ)) = true) : False := by
  have key : okB Z = true ↔ Z = (npZ Z).map toZ := by
    rw [okB_iff, npZ_ok h]
    constructor
    · rintro ⟨_, h2⟩; rw [h2, map_toZ h]
    · intro h2
      refine ⟨h, ?_⟩
      have h3 := congrArg (List.map tmZ) h2
      rw [List.map_map] at h3
      have h4 : ∀ t ∈ norm (Z.map tmZ), (tmZ ∘ toZ) t = id t := fun t _ => tmZ_toZ t
      rw [List.map_congr_left h4, List.map_id] at h3
      exact h3.symm
  by_cases h5 : okB Z = true
  · rw [h5, decide_eq_true (key.1 h5)] at hc; cases hc
  · rw [Bool.eq_false_iff.2 h5, decide_eq_false (fun e => h5 (key.2 e))] at hc; cases hc
theorem clNe {x : Int} (hc : (x != x) = true) : False := by simp at hc
theorem clSt {x y : ByteArray} (e : x = y) (hc : (!decide (x = y)) = true) : False := by rw [decide_eq_true e] at hc; cases hc
theorem C_RawI (l : List Ti) (ad : Option Addr) (c : Nat) (hok : ∀ t ∈ l, OkT t) (hn : l.length ≤ 1000) : Ctr Tryz.prog 12 [.slice ad l.length c] [Row ad (cellsOf encTi l)] (fun v Ψ => ∃ ad' c', v = .slice ad' (l.map tzz).length c' ∧ Ψ = [Row ad' (cellsOf encTz (l.map tzz))]) := by
  refine fn_intro Tryz.func12 rfl Tryz.ntmps12 nb ?_
  intro S w0 a hS h
  refine gC h (zs (zr (za rfl (zn (zs (zr (za rfl (zn (zs (zs (zr (za rfl (zn (zb ?_)))))))))))))); clear h; intro a w h
  refine wp_loop_inv (fun (k : Nat) a w => k ≤ l.length ∧ ∃ (ad1 : Option Addr) (c1 : Nat) (o1 : List (Nat × Obj)), (GrowO 7 117 (.slice ad1 ((l.take k).map tzz).length c1) ((l.take k).map tzz).length (cellsOf encTz ((l.take k).map tzz)) o1) ∧ St 32 S w0 [(0, .slice ad l.length c), (2, .slice none 0 0), (3, (.slice ad1 ((l.take k).map tzz).length c1)), (4, .int .i64 ((k : Nat) : Int))] (o1 ++ []) [Row ad (cellsOf encTi l)] a w) (fun k => l.length - k) 0 (⟨Nat.zero_le _, none, 0, [], GrowO.nil _ _, by exact (h).sub (subL ⟨rfl, rfl, rfl, rfl, trivial⟩)⟩) ?_; clear h
  rintro k a w ⟨hi_k, ad1, c1, o1, hG1, h⟩
  refine gC h (zs (zs (zr (zm rfl (zm rfl (zp (.builtin [_] rfl (len_slice_22 _ _ _)) (zp (.lss rfl rfl) (zn ?_)))))))); clear h; intro a w h
  change Code.wp _ _ _ _ _
  refine cond_split h rfl (fun hc8 => ?_) (fun hc8 => ?_)
  · skip
    have hlt_k : k < l.length := by have := of_decide_eq_true hc8; omega
    obtain ⟨B_ad, O_ad, rfl⟩ := h.row_addr (ad := ad) (M := cellsOf encTi l) mm (by intro e; have := congrArg List.length e; rw [cellsOf_length (k := 4) (fun _ => rfl)] at this; simp only [List.length_nil, Nat.mul_eq_zero] at this; omega)
    obtain ⟨_, _, hqa, hqb, hqc, hqd⟩ := hok _ (getD_mem l (d := Ti0) hlt_k)
    have hlk : ((l.take k).map tzz).length = k := by rw [List.length_map, List.length_take]; omega
    have hst : (l.take k).map tzz ++ [tzz (l.getD k Ti0)] = (l.take (k + 1)).map tzz := by rw [takeTi_snoc l hlt_k, List.map_append]; rfl
    refine gC h (zk (zs (zb (yD mixed_YtddhlkfpdjmplaaGreatDoor [0, 1, 2, 3, 4, 5, 6, 7, 8, 9, 10, 11, 12, 13, 14, 15, 16, 17, 18, 19, 20] (floatsOK_none (by kernel_rfl)) (yp rfl (.move rfl) (yp rfl (.move rfl) (yp rfl (.move rfl) (yp rfl (.indexAddr rfl rfl (ix_22 _ _ _ _ _ (by omega))) (yp rfl (Pure1.cast (v' := .pointer (some ⟨B_ad, O_ad + (k * 4 + 0), none⟩)) (.fieldAddr rfl (fa_78_0 _ _)) (by rw [Nat.add_assoc])) ?_))))))))); clear h
    refine head_loadRow rfl (by kernel_rfl) rfl mm (at_lt (k := 4) (enc := encTi) (fun _ => rfl) l k 0 (by omega) (by decide)) Tryz.isAgg3 Tryz.sizeOf3 (read_at (k := 4) (enc := encTi) (fun _ => rfl) l Ti0 k (by omega) false 1 0 _ (by decide) (by decide) rfl) (.inr rfl) (by decide) ?_
    refine yp rfl (.move rfl) (yp rfl (.move rfl) (yp rfl (.indexAddr rfl rfl (ix_22 _ _ _ _ _ (by omega))) (yp rfl (Pure1.cast (v' := .pointer (some ⟨B_ad, O_ad + (k * 4 + 1), none⟩)) (.fieldAddr rfl (fa_78_1 _ _)) (by rw [Nat.add_assoc])) ?_)))
    refine head_loadRow rfl (by kernel_rfl) rfl mm (at_lt (k := 4) (enc := encTi) (fun _ => rfl) l k 1 (by omega) (by decide)) Tryz.isAgg3 Tryz.sizeOf3 (read_at (k := 4) (enc := encTi) (fun _ => rfl) l Ti0 k (by omega) false 1 1 _ (by decide) (by decide) rfl) (.inr rfl) (by decide) ?_
    refine yp rfl (.move rfl) (yp rfl (.move rfl) (yp rfl (.indexAddr rfl rfl (ix_22 _ _ _ _ _ (by omega))) (yp rfl (Pure1.cast (v' := .pointer (some ⟨B_ad, O_ad + (k * 4 + 2), none⟩)) (.fieldAddr rfl (fa_78_2 _ _)) (by rw [Nat.add_assoc])) ?_)))
    refine head_loadRow rfl (by kernel_rfl) rfl mm (at_lt (k := 4) (enc := encTi) (fun _ => rfl) l k 2 (by omega) (by decide)) Tryz.isAgg25 Tryz.sizeOf25 (read_at (k := 4) (enc := encTi) (fun _ => rfl) l Ti0 k (by omega) true 2 2 _ (by decide) (by decide) rfl) (.inl rfl) (by decide) ?_
    refine yv [_] rfl rfl Tryz.call62 (C_qOf ((l.getD k Ti0).n) ((l.getD k Ti0).d) (by omega) (by omega) (by omega) (by omega)) ?_
    have hl27 := lenQ_qv ((l.getD k Ti0).n) ((l.getD k Ti0).d) (by omega) (by omega) (by omega) (by omega)
    refine yp rfl (.build [(_, _), (_, _), (_, _)] rfl (bd_117_0_1_2 _ _ _ _ _ _ _)) (yB rfl [(_, _)] rfl (bs_47_1_0 _ _ _ _ _ _ _) fun b29 => ?_)
    refine head_appendO (σr := []) rfl (by kernel_rfl) rfl rfl (List.Perm.trans (List.Perm.refl _) (List.Perm.cons _ (List.Perm.refl _))) hG1 Tryz.runUnderlying47 Tryz.runUnderlying47 Tryz.typeInfo117 Tryz.sizeOf117 zeroT rfl (by decide) (by decide) rfl rfl (by decide) (by show 72 * (2 * (((l.take k).map tzz).length + 1) + 192) ≤ 281474976710656; omega) (by decide) ?_
    intro v30 o30 hG30
    obtain ⟨ad30, c30, rfl⟩ := hG30.is
    have hLn30 : ((l.take k).map tzz).length + 1 = (((l.take k).map tzz) ++ [(⟨(l.getD k Ti0).i, (l.getD k Ti0).j, qv ((l.getD k Ti0).n) ((l.getD k Ti0).d)⟩ : Tz)]).length := by simp only [List.length_append, List.length_cons, List.length_nil, Nat.zero_add]
    rw [hLn30]; rw [hLn30] at hG30
    replace hG30 : GrowO 7 117 (.slice ad30 (((l.take k).map tzz) ++ [(⟨(l.getD k Ti0).i, (l.getD k Ti0).j, qv ((l.getD k Ti0).n) ((l.getD k Ti0).d)⟩ : Tz)]).length c30) (((l.take k).map tzz) ++ [(⟨(l.getD k Ti0).i, (l.getD k Ti0).j, qv ((l.getD k Ti0).n) ((l.getD k Ti0).d)⟩ : Tz)]).length (cellsOf encTz (((l.take k).map tzz) ++ [(⟨(l.getD k Ti0).i, (l.getD k Ti0).j, qv ((l.getD k Ti0).n) ((l.getD k Ti0).d)⟩ : Tz)])) o30 := by rw [cellsOf_append, cellsOf_one]; exact hG30
    refine yp rfl (.assign rfl) (yn (zr (zm rfl (zp (Pure1.cast (v' := (.int .i64 ((k + 1 : Nat) : Int))) (.add rfl rfl) (by show Value.int _ _ = Value.int _ _; congr 1)) (za rfl (zn ?_)))))); intro a w h
    rw [show ((l.take k).map tzz ++ [(⟨(l.getD k Ti0).i, (l.getD k Ti0).j, qv (l.getD k Ti0).n (l.getD k Ti0).d⟩ : Tz)]) = (l.take (k + 1)).map tzz from hst] at h hG30
    exact ⟨k + 1, ⟨by omega, ad30, c30, o30, hG30, by exact (h.factsSub (by simp)).sub sA⟩, by omega⟩
  · skip
    have heq_k : l.length = k := by have := of_decide_eq_false hc8; omega
    subst heq_k
    rw [List.take_length] at h hG1
    replace h := St.shareO' h hS hG1
    refine gC h (ze (zs (zr (zm rfl (za rfl (zn (zt ?_))))))); clear h; intro a w h
    refine ret_of (Ψ := [Row _ (cellsOf encTz (l.map tzz))]) h (results1 h rfl (.tmp rfl)) ⟨_, _, rfl, rfl⟩ (by simp)
theorem C_Same8 (p : List Tm) (ad : Option Addr) (c K : Nat) (b1 : Nat) (la : List FT) (K2 : Nat) (hq : Pq 12 K p) (hN : Nrm p) (hK : K ≤ 300000) (ha : Tb 12 K2 (xs la)) (hK2 : K2 ≤ 1000000) (he : Eqv (pol (xs la)) p) : CtrW Tryz.prog 20 [.slice ad p.length c, .slice (some ⟨b1, 0, none⟩) 169 169] [TabF, Row ad (cellsOf encT p), Row (some ⟨b1, 0, none⟩) (cellsOf encF la), AllF la] (.bool true) := by
  refine fn_intro Tryz.func20 rfl Tryz.ntmps20 nb ?_
  intro S w0 a hS h
  refine gC h (zs (zr (za rfl (zn (zs (zr (zm rfl (zw [_] rfl Tryz.call26 (C_OkN p _ _ hN (hq.deg.mono (by decide)) (by have := hq.len; omega)) (zm rfl ?_))))))))); clear h; intro a w h
  refine by_bool h (fun hc7 h => ?_) (fun hc7 h => (by exfalso; cases hc7))
  refine gL h (zq 7 rfl rfl (.move rfl) ?_); clear h; intro a w h
  refine wpl_guard 7 h rfl rfl (op_callW h (vs := [_]) rfl Tryz.call21 (C_TextG p _ _ 12 K hq (by decide) hK) (by simp) (by decide) ?_); clear h; intro a w h
  refine gL h (zq 7 rfl rfl (.move rfl) ?_); clear h; intro a w h
  refine wpl_guard 7 h rfl rfl (op_callW h (vs := [_]) rfl Tryz.call22 (C_tText b1 la K2 ha hK2) (by simp) (by decide) ?_); clear h; intro a w h
  refine gL h (zq 7 rfl rfl (.binOp rfl rfl (fun _ => run_seql _ _ _ _ _)) (zp (.pickT rfl rfl) (za rfl (zn (zt ?_))))); clear h; intro a w h
  refine retV h (results1 h rfl (.tmp rfl)) ?_
  refine congrArg Value.bool ?_
  exact decide_eq_true (by rw [norm_eq he])
theorem C_alikeP (Z : List Tz) (p : List Tm) (ad adb : Option Addr) (ca cb : Nat) (h1 : Z.length ≤ 1000000) (h2 : p.length ≤ 1000000) : CtrW Tryz.prog 27 [.slice ad Z.length ca, .slice adb p.length cb] [Row ad (cellsOf encTz Z), Row adb (cellsOf encT p)] (.bool (decide (Z = p.map toZ))) := by
  have h := C_alikeZ Z (p.map toZ) ad adb ca cb h1 (by rw [List.length_map]; exact h2)
  rw [cells_toZ, List.length_map] at h; exact h
theorem C_PolysOf (l : List Ti) (ad : Option Addr) (c : Nat) (hok : ∀ t ∈ l, OkT t) (hln : l.length ≤ 9223372036854775807) (i j : Int) (hi : -9223372036854775808 ≤ i ∧ i ≤ 9223372036854775807) (hj : -9223372036854775808 ≤ j ∧ j ≤ 9223372036854775807) : CtrW Tryz.prog 4 [.slice ad l.length c, .int .i64 i, .int .i64 j] [TabF, Row ad (cellsOf encTi l)] (.bool true) := by
  refine fn_intro Tryz.func4 rfl Tryz.ntmps4 nb ?_
  intro S w0 a hS h
  refine gC h (zs (zr (za rfl (zn (zs (zs (zr (zm rfl (zp (.builtin [_] rfl (len_slice_22 _ _ _)) (zp (.gtr rfl rfl) (zn ?_))))))))))); clear h; intro a w h
  change Code.wp _ _ _ _ _
  refine cond_split h rfl (fun hc15 => ?_) (fun hc15 => ?_)
  · skip
    refine gC h (zs (zr (zv [] rfl Tryz.call18 (C_works8) (za rfl (zn (zt ?_)))))); clear h; intro a w h
    refine retV h (results1 h rfl (.tmp rfl)) ?_
    rfl
  · skip
    have hll : l.length ≤ 20 := by have := of_decide_eq_false hc15; omega
    refine gC h (zk (zs (zr (zm rfl (zf [_] rfl Tryz.call12 (C_RawI l _ _ hok (by omega)) ?_))))); clear h; rintro v18 Ψ18 ⟨ad18, c18, rfl, rfl⟩ a w h
    obtain ⟨Z, hZ⟩ : ∃ Z, l.map tzz = Z := ⟨_, rfl⟩
    rw [hZ] at h
    have hZl : Z.length ≤ 20 := by rw [← hZ, List.length_map]; exact hll
    have hZK : ∀ t ∈ Z, lenQ t.c ≤ 4 := fun t ht => by
      rw [← hZ] at ht
      obtain ⟨s, hs, rfl⟩ := List.mem_map.1 ht
      exact lenQ_qvp (hok s hs).2.2
    have hpq := npZ_Pq hZK hZl (by decide)
    have hN := npZ_nrm Z
    have hfe : firstZ Z = erT (l.map tzI) := by rw [← hZ]; exact fz_er l
    refine gL h (za rfl (zn (zs (zr (zm rfl (zf [_] rfl Tryz.call19 (C_OfZ Z _ _ 4 (by omega) hZK (by decide)) ?_)))))); clear h; rintro v21 Ψ21 ⟨ad21, c21, rfl, rfl⟩ a w h
    refine gL h (zm rfl (zp (.extract rfl (fun _ => rfl)) (zp (.extract rfl (fun _ => rfl)) (za rfl (za rfl (zn (zs (zr (zm rfl (zf [_] rfl Tryz.call9 (C_RefI l _ _ hok (by omega)) ?_)))))))))); clear h; rintro v26 Ψ26 ⟨b26, l26, rfl, hn26, he26, rfl⟩ a w h
    replace he26 := ref_npZ hZ he26
    have ht26 : Tb 12 (20 * (4 + 1) + 1) (xs l26) := Tb.of_eqv (by rw [xs_len]; exact hn26) he26 hpq.deg hpq.hgt
    have hnp : norm (pol (xs l26)) = npZ Z := by rw [norm_eq he26, npZ_norm]
    refine gL h (zm rfl (zp (.extract rfl (fun _ => rfl)) (zp (.extract rfl (fun _ => rfl)) (za rfl (za rfl (zn (zs (zs (zr (zm rfl (zm rfl (zp (.neq rfl rfl) ?_)))))))))))); clear h; intro a w h
    refine by_bool h (fun hc31 h => (by exfalso; rw [hfe] at hc31; exact clNe hc31)) (fun hc31 h => ?_)
    refine gL h (zm rfl (zq 32 rfl rfl (.move rfl) (zq 32 rfl rfl (.move rfl) ?_))); clear h; intro a w h
    refine wpl_guard 32 h rfl rfl (op_callW h (vs := [_, _]) rfl Tryz.call20 (C_Same8 (npZ Z) _ _ _ b26 l26 _ hpq hN (by decide) ht26 (by decide) he26) (by simp) (by decide) ?_); clear h; intro a w h
    refine by_bool h (fun hc35 h => ?_) (fun hc35 h => (by exfalso; cases hc35))
    refine gL h (zq 32 rfl rfl (.unOp rfl (un_not _)) (zp (.pickF rfl rfl) (zm rfl (zq 38 rfl rfl (.move rfl) ?_)))); clear h; intro a w h
    refine wpl_guard 38 h rfl rfl (op_callW h (vs := [_]) rfl Tryz.call21 (C_TextZ Z _ _ 4 (by omega) hZK (by decide)) (by simp) (by decide) ?_); clear h; intro a w h
    refine gL h (zq 38 rfl rfl (.move rfl) ?_); clear h; intro a w h
    refine wpl_guard 38 h rfl rfl (op_callW h (vs := [_]) rfl Tryz.call22 (C_tText b26 l26 _ ht26 (by decide)) (by simp) (by decide) ?_); clear h; intro a w h
    refine gL h (zq 38 rfl rfl (.binOp rfl rfl (fun _ => run_sneq _ _ _ _ _)) ?_); clear h; intro a w h
    refine by_bool h (fun hc43 h => (by exfalso; exact clSt (by rw [hnp]) hc43)) (fun hc43 h => ?_)
    refine gL h (zp (.pickF rfl rfl) (zm rfl (zq 45 rfl rfl (.move rfl) ?_))); clear h; intro a w h
    refine wpl_guard 45 h rfl rfl (op_callW h (vs := [_]) rfl Tryz.call23 (C_DegreeZ Z _ _ 4 (by omega) hZK (by decide)) (by simp) (by decide) ?_); clear h; intro a w h
    refine gL h (zq 45 rfl rfl (.move rfl) ?_); clear h; intro a w h
    refine wpl_guard 45 h rfl rfl (op_callW h (vs := [_]) rfl Tryz.call24 (C_tDegree b26 l26 hn26) (by simp) (by decide) ?_); clear h; intro a w h
    refine gL h (zq 45 rfl rfl (.neq rfl rfl) ?_); clear h; intro a w h
    refine by_bool h (fun hc50 h => (by exfalso; rw [dgX_norm ht26.len, hnp] at hc50; exact clNe hc50)) (fun hc50 h => ?_)
    refine gL h (zp (.pickF rfl rfl) (zm rfl (zq 52 rfl rfl (.move rfl) ?_))); clear h; intro a w h
    refine wpl_guard 52 h rfl rfl (op_callW h (vs := [_]) rfl Tryz.call23 (C_Degree (npZ Z) _ _ 12 _ hpq (by decide) (by decide)) (by simp) (by decide) ?_); clear h; intro a w h
    refine gL h (zq 52 rfl rfl (.move rfl) ?_); clear h; intro a w h
    refine wpl_guard 52 h rfl rfl (op_callW h (vs := [_]) rfl Tryz.call23 (C_DegreeZ Z _ _ 4 (by omega) hZK (by decide)) (by simp) (by decide) ?_); clear h; intro a w h
    refine gL h (zq 52 rfl rfl (.neq rfl rfl) ?_); clear h; intro a w h
    refine by_bool h (fun hc57 h => (by exfalso; rw [npZ_norm] at hc57; exact clNe hc57)) (fun hc57 h => ?_)
    refine gL h (zp (.pickF rfl rfl) (zm rfl (zq 59 rfl rfl (.move rfl) (zq 59 rfl rfl (.move rfl) ?_)))); clear h; intro a w h
    refine wpl_guard 59 h rfl rfl (op_callW h (vs := [_, _]) rfl Tryz.call25 (C_SameZ Z _ _ 4 (by omega) hZK (by decide) _ _) (by simp) (by decide) ?_); clear h; intro a w h
    refine by_bool h (fun hc62 h => ?_) (fun hc62 h => (by exfalso; cases hc62))
    refine gL h (zq 59 rfl rfl (.unOp rfl (un_not _)) (zp (.pickF rfl rfl) (zm rfl (zq 65 rfl rfl (.move rfl) ?_)))); clear h; intro a w h
    refine wpl_guard 65 h rfl rfl (op_callW h (vs := [_]) rfl Tryz.call26 (C_OkZ Z _ _ (by omega)) (by simp) (by decide) ?_); clear h; intro a w h
    refine gL h (zq 65 rfl rfl (.move rfl) (zq 65 rfl rfl (.eql rfl rfl) ?_)); clear h; intro a w h
    refine by_bool h (fun hc69 h => ?_) (fun hc69 h => ?_)
    · skip
      have hz0 : firstZ Z = 0 := by simpa using hc69
      refine gL h (zq 65 rfl rfl (.move rfl) (zq 70 rfl rfl (.move rfl) (zq 70 rfl rfl (.builtin [_] rfl (len_slice_47 _ _ _)) (zq 70 rfl rfl (.move rfl) (zq 70 rfl rfl (.builtin [_] rfl (len_slice_47 _ _ _)) (zq 70 rfl rfl (.eql rfl rfl) ?_)))))); clear h; intro a w h
      refine by_bool h (fun hc75 h => ?_) (fun hc75 h => ?_)
      · skip
        have hle75 := natEq' hc75
        refine gL h (zq 65 rfl rfl (.pickT rfl rfl) (zq 65 rfl rfl (.move rfl) (zq 77 rfl rfl (.move rfl) (zq 77 rfl rfl (.move rfl) ?_)))); clear h; intro a w h
        refine wpl_guard 77 h rfl rfl (op_callW h (vs := [_, _]) rfl Tryz.call27 (C_alikeP Z (npZ Z) _ _ _ _ (by omega) (by have := hpq.len; omega)) (by simp) (by decide) ?_); clear h; intro a w h
        refine by_bool h (fun hc80 h => ?_) (fun hc80 h => ?_)
        · skip
          have hal : Z = (npZ Z).map toZ := of_decide_eq_true hc80
          refine gL h (zq 65 rfl rfl (.pickT rfl rfl) (zq 65 rfl rfl (.binOp rfl rfl (fun _ => run_bneq _ Tryz.underlying4 _ _ _ _)) ?_)); clear h; intro a w h
          refine by_bool h (fun hc82 h => (by exfalso; exact po_C hz0 (by rw [decide_eq_true hal]; exact hc82))) (fun hc82 h => ?_)
          refine gL h (zp (.pickF rfl rfl) (zn ?_)); clear h; intro a w h
          change Code.wp _ _ _ _ _
          refine cond_false h rfl ?_
          refine gC h (zk (zs (zr (zm rfl (zm rfl (zm rfl (zw [_, _, _] rfl Tryz.call28 (C_CoefZ Z _ _ 4 (by omega) hZK (by decide) i j) (zz zeroQ fun b12 => zt' rfl rfl (st_5_0_5 _ _ _ _ _ _ _ _ _ _) uu Tryz.sizeOf44 rfl nb rfl ?_)))))))); clear h; intro a w h
          refine gL h (zn (zs (zs (zr (zm rfl (zp (.lss rfl rfl) ?_)))))); clear h; intro a w h
          refine by_bool h (fun hc89 h => ?_) (fun hc89 h => ?_)
          · skip
            have h89 : i < 0 := of_decide_eq_true hc89
            have hcz : cfT (npZ Z) i j = 0 := cfT_none (fun t ht hh => by have := hpq.deg t ht; omega)
            refine gL h (zm rfl (zo 90 rfl rfl rfl (zo 90 rfl rfl rfl (zp (.pickT rfl rfl) (zm rfl (zo 94 rfl rfl rfl (zo 94 rfl rfl rfl (zp (.pickT rfl rfl) (zm rfl (zo 98 rfl rfl rfl (zo 98 rfl rfl rfl (zp (.pickT rfl rfl) (zm rfl (zo 102 rfl rfl rfl (zo 102 rfl rfl rfl (zo 102 rfl rfl rfl (zo 102 rfl rfl rfl (zp (.pickT rfl rfl) (zn ?_))))))))))))))))))); clear h; intro a w h
            change Code.wp _ _ _ _ _
            refine cond_true h rfl ?_
            refine gC h (zs (zr (zd rfl mr Tryz.isAgg44 Tryz.sizeOf44 (rd_5_0_5 _ _ _ _ _) ?_))); clear h; intro a w h
            refine gL h (zp (Pure1.cast (v' := encQ 0) (.build [] rfl (bd_44_z)) (by rfl)) (zp (.binOp rfl rfl (fun _ => run_eqQ _ _ (cfT (npZ Z) i j) 0 _)) ?_)); clear h; intro a w h
            refine by_bool h (fun hc110 h => ?_) (fun hc110 h => (by exfalso; exact absurd hcz (of_decide_eq_false hc110)))
            refine gL h (zm rfl ?_); clear h; intro a w h
            refine wpl_guard 111 h rfl rfl (op_callV h (vs := []) rfl Tryz.call18 (C_works8) (by decide) ?_); clear h; intro a w h
            refine gL h (zp (.pickT rfl rfl) (za rfl (zn (zt ?_)))); clear h; intro a w h
            refine retV h (results1 h rfl (.tmp rfl)) ?_
            rfl
          · skip
            have h89 : ¬ i < 0 := of_decide_eq_false hc89
            refine gL h (zm rfl (zq 90 rfl rfl (.move rfl) (zq 90 rfl rfl (.lss rfl rfl) ?_))); clear h; intro a w h
            refine by_bool h (fun hc92 h => ?_) (fun hc92 h => ?_)
            · skip
              have h92 : j < 0 := of_decide_eq_true hc92
              have hcz : cfT (npZ Z) i j = 0 := cfT_none (fun t ht hh => by have := hpq.deg t ht; omega)
              refine gL h (zp (.pickF rfl rfl) (zm rfl (zo 94 rfl rfl rfl (zo 94 rfl rfl rfl (zp (.pickT rfl rfl) (zm rfl (zo 98 rfl rfl rfl (zo 98 rfl rfl rfl (zp (.pickT rfl rfl) (zm rfl (zo 102 rfl rfl rfl (zo 102 rfl rfl rfl (zo 102 rfl rfl rfl (zo 102 rfl rfl rfl (zp (.pickT rfl rfl) (zn ?_)))))))))))))))); clear h; intro a w h
              change Code.wp _ _ _ _ _
              refine cond_true h rfl ?_
              refine gC h (zs (zr (zd rfl mr Tryz.isAgg44 Tryz.sizeOf44 (rd_5_0_5 _ _ _ _ _) ?_))); clear h; intro a w h
              refine gL h (zp (Pure1.cast (v' := encQ 0) (.build [] rfl (bd_44_z)) (by rfl)) (zp (.binOp rfl rfl (fun _ => run_eqQ _ _ (cfT (npZ Z) i j) 0 _)) ?_)); clear h; intro a w h
              refine by_bool h (fun hc110 h => ?_) (fun hc110 h => (by exfalso; exact absurd hcz (of_decide_eq_false hc110)))
              refine gL h (zm rfl ?_); clear h; intro a w h
              refine wpl_guard 111 h rfl rfl (op_callV h (vs := []) rfl Tryz.call18 (C_works8) (by decide) ?_); clear h; intro a w h
              refine gL h (zp (.pickT rfl rfl) (za rfl (zn (zt ?_)))); clear h; intro a w h
              refine retV h (results1 h rfl (.tmp rfl)) ?_
              rfl
            · skip
              have h92 : ¬ j < 0 := of_decide_eq_false hc92
              refine gL h (zp (.pickF rfl rfl) (zm rfl (zq 94 rfl rfl (.move rfl) (zq 94 rfl rfl (.gtr rfl rfl) ?_)))); clear h; intro a w h
              refine by_bool h (fun hc96 h => ?_) (fun hc96 h => ?_)
              · skip
                have h96 : i > 12 := of_decide_eq_true hc96
                have hcz : cfT (npZ Z) i j = 0 := cfT_none (fun t ht hh => by have := hpq.deg t ht; omega)
                refine gL h (zp (.pickF rfl rfl) (zm rfl (zo 98 rfl rfl rfl (zo 98 rfl rfl rfl (zp (.pickT rfl rfl) (zm rfl (zo 102 rfl rfl rfl (zo 102 rfl rfl rfl (zo 102 rfl rfl rfl (zo 102 rfl rfl rfl (zp (.pickT rfl rfl) (zn ?_)))))))))))); clear h; intro a w h
                change Code.wp _ _ _ _ _
                refine cond_true h rfl ?_
                refine gC h (zs (zr (zd rfl mr Tryz.isAgg44 Tryz.sizeOf44 (rd_5_0_5 _ _ _ _ _) ?_))); clear h; intro a w h
                refine gL h (zp (Pure1.cast (v' := encQ 0) (.build [] rfl (bd_44_z)) (by rfl)) (zp (.binOp rfl rfl (fun _ => run_eqQ _ _ (cfT (npZ Z) i j) 0 _)) ?_)); clear h; intro a w h
                refine by_bool h (fun hc110 h => ?_) (fun hc110 h => (by exfalso; exact absurd hcz (of_decide_eq_false hc110)))
                refine gL h (zm rfl ?_); clear h; intro a w h
                refine wpl_guard 111 h rfl rfl (op_callV h (vs := []) rfl Tryz.call18 (C_works8) (by decide) ?_); clear h; intro a w h
                refine gL h (zp (.pickT rfl rfl) (za rfl (zn (zt ?_)))); clear h; intro a w h
                refine retV h (results1 h rfl (.tmp rfl)) ?_
                rfl
              · skip
                have h96 : ¬ i > 12 := of_decide_eq_false hc96
                refine gL h (zp (.pickF rfl rfl) (zm rfl (zq 98 rfl rfl (.move rfl) (zq 98 rfl rfl (.gtr rfl rfl) ?_)))); clear h; intro a w h
                refine by_bool h (fun hc100 h => ?_) (fun hc100 h => ?_)
                · skip
                  have h100 : j > 12 := of_decide_eq_true hc100
                  have hcz : cfT (npZ Z) i j = 0 := cfT_none (fun t ht hh => by have := hpq.deg t ht; omega)
                  refine gL h (zp (.pickF rfl rfl) (zm rfl (zo 102 rfl rfl rfl (zo 102 rfl rfl rfl (zo 102 rfl rfl rfl (zo 102 rfl rfl rfl (zp (.pickT rfl rfl) (zn ?_)))))))); clear h; intro a w h
                  change Code.wp _ _ _ _ _
                  refine cond_true h rfl ?_
                  refine gC h (zs (zr (zd rfl mr Tryz.isAgg44 Tryz.sizeOf44 (rd_5_0_5 _ _ _ _ _) ?_))); clear h; intro a w h
                  refine gL h (zp (Pure1.cast (v' := encQ 0) (.build [] rfl (bd_44_z)) (by rfl)) (zp (.binOp rfl rfl (fun _ => run_eqQ _ _ (cfT (npZ Z) i j) 0 _)) ?_)); clear h; intro a w h
                  refine by_bool h (fun hc110 h => ?_) (fun hc110 h => (by exfalso; exact absurd hcz (of_decide_eq_false hc110)))
                  refine gL h (zm rfl ?_); clear h; intro a w h
                  refine wpl_guard 111 h rfl rfl (op_callV h (vs := []) rfl Tryz.call18 (C_works8) (by decide) ?_); clear h; intro a w h
                  refine gL h (zp (.pickT rfl rfl) (za rfl (zn (zt ?_)))); clear h; intro a w h
                  refine retV h (results1 h rfl (.tmp rfl)) ?_
                  rfl
                · skip
                  have h100 : ¬ j > 12 := of_decide_eq_false hc100
                  refine gL h (zp (.pickF rfl rfl) (zm rfl (zq 102 rfl rfl (.move rfl) (zq 102 rfl rfl (.move rfl) (zq 102 rfl rfl (.add rfl rfl) (zq 102 rfl rfl (.gtr rfl rfl) ?_)))))); clear h; intro a w h
                  refine by_bool h (fun hc106 h => ?_) (fun hc106 h => ?_)
                  · skip
                    have h106 : i + j > 12 := of_decide_eq_true hc106
                    have hcz : cfT (npZ Z) i j = 0 := cfT_none (fun t ht hh => by have := hpq.deg t ht; omega)
                    refine gL h (zp (.pickF rfl rfl) (zn ?_)); clear h; intro a w h
                    change Code.wp _ _ _ _ _
                    refine cond_true h rfl ?_
                    refine gC h (zs (zr (zd rfl mr Tryz.isAgg44 Tryz.sizeOf44 (rd_5_0_5 _ _ _ _ _) ?_))); clear h; intro a w h
                    refine gL h (zp (Pure1.cast (v' := encQ 0) (.build [] rfl (bd_44_z)) (by rfl)) (zp (.binOp rfl rfl (fun _ => run_eqQ _ _ (cfT (npZ Z) i j) 0 _)) ?_)); clear h; intro a w h
                    refine by_bool h (fun hc110 h => ?_) (fun hc110 h => (by exfalso; exact absurd hcz (of_decide_eq_false hc110)))
                    refine gL h (zm rfl ?_); clear h; intro a w h
                    refine wpl_guard 111 h rfl rfl (op_callV h (vs := []) rfl Tryz.call18 (C_works8) (by decide) ?_); clear h; intro a w h
                    refine gL h (zp (.pickT rfl rfl) (za rfl (zn (zt ?_)))); clear h; intro a w h
                    refine retV h (results1 h rfl (.tmp rfl)) ?_
                    rfl
                  · skip
                    have h106 : ¬ i + j > 12 := of_decide_eq_false hc106
                    have hia : ((i.toNat : Nat) : Int) = i := Int.toNat_of_nonneg (by omega)
                    have hja : ((j.toNat : Nat) : Int) = j := Int.toNat_of_nonneg (by omega)
                    have hcx : (l26.getD (13 * i.toNat + j.toNat) FT0).x = cfT (npZ Z) i j := by
                      rw [xs_get, ← hia, ← hja, cfT_lin i.toNat j.toNat hN, ← he26, pol_at (by omega)]; rfl
                    have hcs : lenQ (cfT (npZ Z) i j) ≤ 300000 := by rw [← hcx]; exact Nat.le_trans (ht26.sizl (by omega)) (by decide)
                    have hl26 := ht26.lenl
                    replace h := h.derive (R := Row (l26.getD (13 * i.toNat + j.toNat) FT0).a2 (List.map encn (dg ((l26.getD (13 * i.toNat + j.toNat) FT0).x.den - 1)))) (fun X hX => AllF.g2 (hX _ mm) (13 * i.toNat + j.toNat))
                    replace h := h.derive (R := Row (l26.getD (13 * i.toNat + j.toNat) FT0).a1 (List.map encn (dg (l26.getD (13 * i.toNat + j.toNat) FT0).x.num.natAbs))) (fun X hX => AllF.g1 (hX _ mm) (13 * i.toNat + j.toNat))
                    refine gL h (zp (.pickF rfl rfl) (zn ?_)); clear h; intro a w h
                    change Code.wp _ _ _ _ _
                    refine cond_false h rfl ?_
                    refine gC h (zk (zs (yD mixed_YtddhlkfpdjmplaaGreatDoor [0, 1, 2, 3, 4, 5, 6, 7, 8, 9, 10, 11, 12, 13, 14, 15, 16, 17, 18] (floatsOK_none (by kernel_rfl)) (yd rfl rfl mr Tryz.isAgg44 Tryz.sizeOf44 (rd_5_0_5 _ _ _ _ _) ?_)))); clear h
                    refine yp rfl (.move rfl) (yp rfl (.move rfl) (yp rfl (Pure1.cast (v' := .int .i64 ((13 * i.toNat : Nat) : Int)) (.mul rfl rfl) (by show Value.int _ _ = Value.int _ _; congr 1; omega)) (yp rfl (.move rfl) (yp rfl (Pure1.cast (v' := .int .i64 ((13 * i.toNat + j.toNat : Nat) : Int)) (.add rfl rfl) (by show Value.int _ _ = Value.int _ _; congr 1; omega)) (yp rfl (.indexAddr rfl rfl (ix_31 _ _ _ _ _ (by omega))) ?_)))))
                    refine head_loadRow rfl (by kernel_rfl) rfl mm (cells_lt (k := 3) (by decide) (fun _ => rfl) l26 (13 * i.toNat + j.toNat) (by omega)) Tryz.isAgg56 Tryz.sizeOf56 (read_cells (k := 3) (fun _ => rfl) ((fun _ => rfl)) l26 FT0 (13 * i.toNat + j.toNat) (by omega)) (.inl rfl) (by decide) ?_
                    refine yw [_, _] rfl rfl Tryz.call10 (C_SameG _ _ _ _ (cfT (npZ Z) i j) ((l26.getD (13 * i.toNat + j.toNat) FT0).x) hcs hcx) ?_
                    refine head_bool (fun hc122  => ?_) (fun hc122  => (by exfalso; cases hc122))
                    refine yp rfl (.move rfl) (yq rfl rfl rfl (.move rfl) (yq rfl rfl rfl (.move rfl) ?_))
                    refine head_callG rfl rfl rfl (by kernel_rfl) (vs := [_]) rfl Tryz.call12 (C_RawI l _ _ hok (by omega)) (by simp) (by decide) ?_; rintro v126 Ψ126 ⟨ad126, c126, rfl, rfl⟩
                    refine head_callWG rfl rfl rfl (by kernel_rfl) (vs := [_, _]) rfl Tryz.call27 (C_alikeZ Z (l.map tzz) _ _ _ _ (by omega) (by rw [hZ]; omega)) (by simp) (by decide) ?_
                    refine head_bool (fun hc127  => ?_) (fun hc127  => (by exfalso; exact absurd hZ.symm (of_decide_eq_false hc127)))
                    refine yp rfl (.pickT rfl rfl) (yp rfl (.move rfl) ?_)
                    refine head_callVG rfl rfl rfl (by kernel_rfl) (vs := []) rfl Tryz.call18 (C_works8) (by decide) ?_
                    refine yp rfl (.pickT rfl rfl) (yp rfl (.assign rfl) (yn (zt ?_))); intro a w h
                    refine retV h (results1 h rfl (.tmp rfl)) ?_
                    rfl
        · skip
          have hal : ¬ Z = (npZ Z).map toZ := of_decide_eq_false hc80
          refine gL h (zq 65 rfl rfl (.pickT rfl rfl) (zq 65 rfl rfl (.binOp rfl rfl (fun _ => run_bneq _ Tryz.underlying4 _ _ _ _)) ?_)); clear h; intro a w h
          refine by_bool h (fun hc82 h => (by exfalso; exact po_C hz0 (by rw [decide_eq_false hal]; exact hc82))) (fun hc82 h => ?_)
          refine gL h (zp (.pickF rfl rfl) (zn ?_)); clear h; intro a w h
          change Code.wp _ _ _ _ _
          refine cond_false h rfl ?_
          refine gC h (zk (zs (zr (zm rfl (zm rfl (zm rfl (zw [_, _, _] rfl Tryz.call28 (C_CoefZ Z _ _ 4 (by omega) hZK (by decide) i j) (zz zeroQ fun b12 => zt' rfl rfl (st_5_0_5 _ _ _ _ _ _ _ _ _ _) uu Tryz.sizeOf44 rfl nb rfl ?_)))))))); clear h; intro a w h
          refine gL h (zn (zs (zs (zr (zm rfl (zp (.lss rfl rfl) ?_)))))); clear h; intro a w h
          refine by_bool h (fun hc89 h => ?_) (fun hc89 h => ?_)
          · skip
            have h89 : i < 0 := of_decide_eq_true hc89
            have hcz : cfT (npZ Z) i j = 0 := cfT_none (fun t ht hh => by have := hpq.deg t ht; omega)
            refine gL h (zm rfl (zo 90 rfl rfl rfl (zo 90 rfl rfl rfl (zp (.pickT rfl rfl) (zm rfl (zo 94 rfl rfl rfl (zo 94 rfl rfl rfl (zp (.pickT rfl rfl) (zm rfl (zo 98 rfl rfl rfl (zo 98 rfl rfl rfl (zp (.pickT rfl rfl) (zm rfl (zo 102 rfl rfl rfl (zo 102 rfl rfl rfl (zo 102 rfl rfl rfl (zo 102 rfl rfl rfl (zp (.pickT rfl rfl) (zn ?_))))))))))))))))))); clear h; intro a w h
            change Code.wp _ _ _ _ _
            refine cond_true h rfl ?_
            refine gC h (zs (zr (zd rfl mr Tryz.isAgg44 Tryz.sizeOf44 (rd_5_0_5 _ _ _ _ _) ?_))); clear h; intro a w h
            refine gL h (zp (Pure1.cast (v' := encQ 0) (.build [] rfl (bd_44_z)) (by rfl)) (zp (.binOp rfl rfl (fun _ => run_eqQ _ _ (cfT (npZ Z) i j) 0 _)) ?_)); clear h; intro a w h
            refine by_bool h (fun hc110 h => ?_) (fun hc110 h => (by exfalso; exact absurd hcz (of_decide_eq_false hc110)))
            refine gL h (zm rfl ?_); clear h; intro a w h
            refine wpl_guard 111 h rfl rfl (op_callV h (vs := []) rfl Tryz.call18 (C_works8) (by decide) ?_); clear h; intro a w h
            refine gL h (zp (.pickT rfl rfl) (za rfl (zn (zt ?_)))); clear h; intro a w h
            refine retV h (results1 h rfl (.tmp rfl)) ?_
            rfl
          · skip
            have h89 : ¬ i < 0 := of_decide_eq_false hc89
            refine gL h (zm rfl (zq 90 rfl rfl (.move rfl) (zq 90 rfl rfl (.lss rfl rfl) ?_))); clear h; intro a w h
            refine by_bool h (fun hc92 h => ?_) (fun hc92 h => ?_)
            · skip
              have h92 : j < 0 := of_decide_eq_true hc92
              have hcz : cfT (npZ Z) i j = 0 := cfT_none (fun t ht hh => by have := hpq.deg t ht; omega)
              refine gL h (zp (.pickF rfl rfl) (zm rfl (zo 94 rfl rfl rfl (zo 94 rfl rfl rfl (zp (.pickT rfl rfl) (zm rfl (zo 98 rfl rfl rfl (zo 98 rfl rfl rfl (zp (.pickT rfl rfl) (zm rfl (zo 102 rfl rfl rfl (zo 102 rfl rfl rfl (zo 102 rfl rfl rfl (zo 102 rfl rfl rfl (zp (.pickT rfl rfl) (zn ?_)))))))))))))))); clear h; intro a w h
              change Code.wp _ _ _ _ _
              refine cond_true h rfl ?_
              refine gC h (zs (zr (zd rfl mr Tryz.isAgg44 Tryz.sizeOf44 (rd_5_0_5 _ _ _ _ _) ?_))); clear h; intro a w h
              refine gL h (zp (Pure1.cast (v' := encQ 0) (.build [] rfl (bd_44_z)) (by rfl)) (zp (.binOp rfl rfl (fun _ => run_eqQ _ _ (cfT (npZ Z) i j) 0 _)) ?_)); clear h; intro a w h
              refine by_bool h (fun hc110 h => ?_) (fun hc110 h => (by exfalso; exact absurd hcz (of_decide_eq_false hc110)))
              refine gL h (zm rfl ?_); clear h; intro a w h
              refine wpl_guard 111 h rfl rfl (op_callV h (vs := []) rfl Tryz.call18 (C_works8) (by decide) ?_); clear h; intro a w h
              refine gL h (zp (.pickT rfl rfl) (za rfl (zn (zt ?_)))); clear h; intro a w h
              refine retV h (results1 h rfl (.tmp rfl)) ?_
              rfl
            · skip
              have h92 : ¬ j < 0 := of_decide_eq_false hc92
              refine gL h (zp (.pickF rfl rfl) (zm rfl (zq 94 rfl rfl (.move rfl) (zq 94 rfl rfl (.gtr rfl rfl) ?_)))); clear h; intro a w h
              refine by_bool h (fun hc96 h => ?_) (fun hc96 h => ?_)
              · skip
                have h96 : i > 12 := of_decide_eq_true hc96
                have hcz : cfT (npZ Z) i j = 0 := cfT_none (fun t ht hh => by have := hpq.deg t ht; omega)
                refine gL h (zp (.pickF rfl rfl) (zm rfl (zo 98 rfl rfl rfl (zo 98 rfl rfl rfl (zp (.pickT rfl rfl) (zm rfl (zo 102 rfl rfl rfl (zo 102 rfl rfl rfl (zo 102 rfl rfl rfl (zo 102 rfl rfl rfl (zp (.pickT rfl rfl) (zn ?_)))))))))))); clear h; intro a w h
                change Code.wp _ _ _ _ _
                refine cond_true h rfl ?_
                refine gC h (zs (zr (zd rfl mr Tryz.isAgg44 Tryz.sizeOf44 (rd_5_0_5 _ _ _ _ _) ?_))); clear h; intro a w h
                refine gL h (zp (Pure1.cast (v' := encQ 0) (.build [] rfl (bd_44_z)) (by rfl)) (zp (.binOp rfl rfl (fun _ => run_eqQ _ _ (cfT (npZ Z) i j) 0 _)) ?_)); clear h; intro a w h
                refine by_bool h (fun hc110 h => ?_) (fun hc110 h => (by exfalso; exact absurd hcz (of_decide_eq_false hc110)))
                refine gL h (zm rfl ?_); clear h; intro a w h
                refine wpl_guard 111 h rfl rfl (op_callV h (vs := []) rfl Tryz.call18 (C_works8) (by decide) ?_); clear h; intro a w h
                refine gL h (zp (.pickT rfl rfl) (za rfl (zn (zt ?_)))); clear h; intro a w h
                refine retV h (results1 h rfl (.tmp rfl)) ?_
                rfl
              · skip
                have h96 : ¬ i > 12 := of_decide_eq_false hc96
                refine gL h (zp (.pickF rfl rfl) (zm rfl (zq 98 rfl rfl (.move rfl) (zq 98 rfl rfl (.gtr rfl rfl) ?_)))); clear h; intro a w h
                refine by_bool h (fun hc100 h => ?_) (fun hc100 h => ?_)
                · skip
                  have h100 : j > 12 := of_decide_eq_true hc100
                  have hcz : cfT (npZ Z) i j = 0 := cfT_none (fun t ht hh => by have := hpq.deg t ht; omega)
                  refine gL h (zp (.pickF rfl rfl) (zm rfl (zo 102 rfl rfl rfl (zo 102 rfl rfl rfl (zo 102 rfl rfl rfl (zo 102 rfl rfl rfl (zp (.pickT rfl rfl) (zn ?_)))))))); clear h; intro a w h
                  change Code.wp _ _ _ _ _
                  refine cond_true h rfl ?_
                  refine gC h (zs (zr (zd rfl mr Tryz.isAgg44 Tryz.sizeOf44 (rd_5_0_5 _ _ _ _ _) ?_))); clear h; intro a w h
                  refine gL h (zp (Pure1.cast (v' := encQ 0) (.build [] rfl (bd_44_z)) (by rfl)) (zp (.binOp rfl rfl (fun _ => run_eqQ _ _ (cfT (npZ Z) i j) 0 _)) ?_)); clear h; intro a w h
                  refine by_bool h (fun hc110 h => ?_) (fun hc110 h => (by exfalso; exact absurd hcz (of_decide_eq_false hc110)))
                  refine gL h (zm rfl ?_); clear h; intro a w h
                  refine wpl_guard 111 h rfl rfl (op_callV h (vs := []) rfl Tryz.call18 (C_works8) (by decide) ?_); clear h; intro a w h
                  refine gL h (zp (.pickT rfl rfl) (za rfl (zn (zt ?_)))); clear h; intro a w h
                  refine retV h (results1 h rfl (.tmp rfl)) ?_
                  rfl
                · skip
                  have h100 : ¬ j > 12 := of_decide_eq_false hc100
                  refine gL h (zp (.pickF rfl rfl) (zm rfl (zq 102 rfl rfl (.move rfl) (zq 102 rfl rfl (.move rfl) (zq 102 rfl rfl (.add rfl rfl) (zq 102 rfl rfl (.gtr rfl rfl) ?_)))))); clear h; intro a w h
                  refine by_bool h (fun hc106 h => ?_) (fun hc106 h => ?_)
                  · skip
                    have h106 : i + j > 12 := of_decide_eq_true hc106
                    have hcz : cfT (npZ Z) i j = 0 := cfT_none (fun t ht hh => by have := hpq.deg t ht; omega)
                    refine gL h (zp (.pickF rfl rfl) (zn ?_)); clear h; intro a w h
                    change Code.wp _ _ _ _ _
                    refine cond_true h rfl ?_
                    refine gC h (zs (zr (zd rfl mr Tryz.isAgg44 Tryz.sizeOf44 (rd_5_0_5 _ _ _ _ _) ?_))); clear h; intro a w h
                    refine gL h (zp (Pure1.cast (v' := encQ 0) (.build [] rfl (bd_44_z)) (by rfl)) (zp (.binOp rfl rfl (fun _ => run_eqQ _ _ (cfT (npZ Z) i j) 0 _)) ?_)); clear h; intro a w h
                    refine by_bool h (fun hc110 h => ?_) (fun hc110 h => (by exfalso; exact absurd hcz (of_decide_eq_false hc110)))
                    refine gL h (zm rfl ?_); clear h; intro a w h
                    refine wpl_guard 111 h rfl rfl (op_callV h (vs := []) rfl Tryz.call18 (C_works8) (by decide) ?_); clear h; intro a w h
                    refine gL h (zp (.pickT rfl rfl) (za rfl (zn (zt ?_)))); clear h; intro a w h
                    refine retV h (results1 h rfl (.tmp rfl)) ?_
                    rfl
                  · skip
                    have h106 : ¬ i + j > 12 := of_decide_eq_false hc106
                    have hia : ((i.toNat : Nat) : Int) = i := Int.toNat_of_nonneg (by omega)
                    have hja : ((j.toNat : Nat) : Int) = j := Int.toNat_of_nonneg (by omega)
                    have hcx : (l26.getD (13 * i.toNat + j.toNat) FT0).x = cfT (npZ Z) i j := by
                      rw [xs_get, ← hia, ← hja, cfT_lin i.toNat j.toNat hN, ← he26, pol_at (by omega)]; rfl
                    have hcs : lenQ (cfT (npZ Z) i j) ≤ 300000 := by rw [← hcx]; exact Nat.le_trans (ht26.sizl (by omega)) (by decide)
                    have hl26 := ht26.lenl
                    replace h := h.derive (R := Row (l26.getD (13 * i.toNat + j.toNat) FT0).a2 (List.map encn (dg ((l26.getD (13 * i.toNat + j.toNat) FT0).x.den - 1)))) (fun X hX => AllF.g2 (hX _ mm) (13 * i.toNat + j.toNat))
                    replace h := h.derive (R := Row (l26.getD (13 * i.toNat + j.toNat) FT0).a1 (List.map encn (dg (l26.getD (13 * i.toNat + j.toNat) FT0).x.num.natAbs))) (fun X hX => AllF.g1 (hX _ mm) (13 * i.toNat + j.toNat))
                    refine gL h (zp (.pickF rfl rfl) (zn ?_)); clear h; intro a w h
                    change Code.wp _ _ _ _ _
                    refine cond_false h rfl ?_
                    refine gC h (zk (zs (yD mixed_YtddhlkfpdjmplaaGreatDoor [0, 1, 2, 3, 4, 5, 6, 7, 8, 9, 10, 11, 12, 13, 14, 15, 16, 17, 18] (floatsOK_none (by kernel_rfl)) (yd rfl rfl mr Tryz.isAgg44 Tryz.sizeOf44 (rd_5_0_5 _ _ _ _ _) ?_)))); clear h
                    refine yp rfl (.move rfl) (yp rfl (.move rfl) (yp rfl (Pure1.cast (v' := .int .i64 ((13 * i.toNat : Nat) : Int)) (.mul rfl rfl) (by show Value.int _ _ = Value.int _ _; congr 1; omega)) (yp rfl (.move rfl) (yp rfl (Pure1.cast (v' := .int .i64 ((13 * i.toNat + j.toNat : Nat) : Int)) (.add rfl rfl) (by show Value.int _ _ = Value.int _ _; congr 1; omega)) (yp rfl (.indexAddr rfl rfl (ix_31 _ _ _ _ _ (by omega))) ?_)))))
                    refine head_loadRow rfl (by kernel_rfl) rfl mm (cells_lt (k := 3) (by decide) (fun _ => rfl) l26 (13 * i.toNat + j.toNat) (by omega)) Tryz.isAgg56 Tryz.sizeOf56 (read_cells (k := 3) (fun _ => rfl) ((fun _ => rfl)) l26 FT0 (13 * i.toNat + j.toNat) (by omega)) (.inl rfl) (by decide) ?_
                    refine yw [_, _] rfl rfl Tryz.call10 (C_SameG _ _ _ _ (cfT (npZ Z) i j) ((l26.getD (13 * i.toNat + j.toNat) FT0).x) hcs hcx) ?_
                    refine head_bool (fun hc122  => ?_) (fun hc122  => (by exfalso; cases hc122))
                    refine yp rfl (.move rfl) (yq rfl rfl rfl (.move rfl) (yq rfl rfl rfl (.move rfl) ?_))
                    refine head_callG rfl rfl rfl (by kernel_rfl) (vs := [_]) rfl Tryz.call12 (C_RawI l _ _ hok (by omega)) (by simp) (by decide) ?_; rintro v126 Ψ126 ⟨ad126, c126, rfl, rfl⟩
                    refine head_callWG rfl rfl rfl (by kernel_rfl) (vs := [_, _]) rfl Tryz.call27 (C_alikeZ Z (l.map tzz) _ _ _ _ (by omega) (by rw [hZ]; omega)) (by simp) (by decide) ?_
                    refine head_bool (fun hc127  => ?_) (fun hc127  => (by exfalso; exact absurd hZ.symm (of_decide_eq_false hc127)))
                    refine yp rfl (.pickT rfl rfl) (yp rfl (.move rfl) ?_)
                    refine head_callVG rfl rfl rfl (by kernel_rfl) (vs := []) rfl Tryz.call18 (C_works8) (by decide) ?_
                    refine yp rfl (.pickT rfl rfl) (yp rfl (.assign rfl) (yn (zt ?_))); intro a w h
                    refine retV h (results1 h rfl (.tmp rfl)) ?_
                    rfl
      · skip
        have hle75 := natNe' hc75
        refine gL h (zq 65 rfl rfl (.pickT rfl rfl) (zq 65 rfl rfl (.move rfl) (zo 77 rfl rfl rfl (zo 77 rfl rfl rfl (zo 77 rfl rfl rfl (zq 65 rfl rfl (.pickF rfl rfl) (zq 65 rfl rfl (.binOp rfl rfl (fun _ => run_bneq _ Tryz.underlying4 _ _ _ _)) ?_))))))); clear h; intro a w h
        refine by_bool h (fun hc82 h => (by exfalso; exact po_B hle75 hc82)) (fun hc82 h => ?_)
        refine gL h (zp (.pickF rfl rfl) (zn ?_)); clear h; intro a w h
        change Code.wp _ _ _ _ _
        refine cond_false h rfl ?_
        refine gC h (zk (zs (zr (zm rfl (zm rfl (zm rfl (zw [_, _, _] rfl Tryz.call28 (C_CoefZ Z _ _ 4 (by omega) hZK (by decide) i j) (zz zeroQ fun b12 => zt' rfl rfl (st_5_0_5 _ _ _ _ _ _ _ _ _ _) uu Tryz.sizeOf44 rfl nb rfl ?_)))))))); clear h; intro a w h
        refine gL h (zn (zs (zs (zr (zm rfl (zp (.lss rfl rfl) ?_)))))); clear h; intro a w h
        refine by_bool h (fun hc89 h => ?_) (fun hc89 h => ?_)
        · skip
          have h89 : i < 0 := of_decide_eq_true hc89
          have hcz : cfT (npZ Z) i j = 0 := cfT_none (fun t ht hh => by have := hpq.deg t ht; omega)
          refine gL h (zm rfl (zo 90 rfl rfl rfl (zo 90 rfl rfl rfl (zp (.pickT rfl rfl) (zm rfl (zo 94 rfl rfl rfl (zo 94 rfl rfl rfl (zp (.pickT rfl rfl) (zm rfl (zo 98 rfl rfl rfl (zo 98 rfl rfl rfl (zp (.pickT rfl rfl) (zm rfl (zo 102 rfl rfl rfl (zo 102 rfl rfl rfl (zo 102 rfl rfl rfl (zo 102 rfl rfl rfl (zp (.pickT rfl rfl) (zn ?_))))))))))))))))))); clear h; intro a w h
          change Code.wp _ _ _ _ _
          refine cond_true h rfl ?_
          refine gC h (zs (zr (zd rfl mr Tryz.isAgg44 Tryz.sizeOf44 (rd_5_0_5 _ _ _ _ _) ?_))); clear h; intro a w h
          refine gL h (zp (Pure1.cast (v' := encQ 0) (.build [] rfl (bd_44_z)) (by rfl)) (zp (.binOp rfl rfl (fun _ => run_eqQ _ _ (cfT (npZ Z) i j) 0 _)) ?_)); clear h; intro a w h
          refine by_bool h (fun hc110 h => ?_) (fun hc110 h => (by exfalso; exact absurd hcz (of_decide_eq_false hc110)))
          refine gL h (zm rfl ?_); clear h; intro a w h
          refine wpl_guard 111 h rfl rfl (op_callV h (vs := []) rfl Tryz.call18 (C_works8) (by decide) ?_); clear h; intro a w h
          refine gL h (zp (.pickT rfl rfl) (za rfl (zn (zt ?_)))); clear h; intro a w h
          refine retV h (results1 h rfl (.tmp rfl)) ?_
          rfl
        · skip
          have h89 : ¬ i < 0 := of_decide_eq_false hc89
          refine gL h (zm rfl (zq 90 rfl rfl (.move rfl) (zq 90 rfl rfl (.lss rfl rfl) ?_))); clear h; intro a w h
          refine by_bool h (fun hc92 h => ?_) (fun hc92 h => ?_)
          · skip
            have h92 : j < 0 := of_decide_eq_true hc92
            have hcz : cfT (npZ Z) i j = 0 := cfT_none (fun t ht hh => by have := hpq.deg t ht; omega)
            refine gL h (zp (.pickF rfl rfl) (zm rfl (zo 94 rfl rfl rfl (zo 94 rfl rfl rfl (zp (.pickT rfl rfl) (zm rfl (zo 98 rfl rfl rfl (zo 98 rfl rfl rfl (zp (.pickT rfl rfl) (zm rfl (zo 102 rfl rfl rfl (zo 102 rfl rfl rfl (zo 102 rfl rfl rfl (zo 102 rfl rfl rfl (zp (.pickT rfl rfl) (zn ?_)))))))))))))))); clear h; intro a w h
            change Code.wp _ _ _ _ _
            refine cond_true h rfl ?_
            refine gC h (zs (zr (zd rfl mr Tryz.isAgg44 Tryz.sizeOf44 (rd_5_0_5 _ _ _ _ _) ?_))); clear h; intro a w h
            refine gL h (zp (Pure1.cast (v' := encQ 0) (.build [] rfl (bd_44_z)) (by rfl)) (zp (.binOp rfl rfl (fun _ => run_eqQ _ _ (cfT (npZ Z) i j) 0 _)) ?_)); clear h; intro a w h
            refine by_bool h (fun hc110 h => ?_) (fun hc110 h => (by exfalso; exact absurd hcz (of_decide_eq_false hc110)))
            refine gL h (zm rfl ?_); clear h; intro a w h
            refine wpl_guard 111 h rfl rfl (op_callV h (vs := []) rfl Tryz.call18 (C_works8) (by decide) ?_); clear h; intro a w h
            refine gL h (zp (.pickT rfl rfl) (za rfl (zn (zt ?_)))); clear h; intro a w h
            refine retV h (results1 h rfl (.tmp rfl)) ?_
            rfl
          · skip
            have h92 : ¬ j < 0 := of_decide_eq_false hc92
            refine gL h (zp (.pickF rfl rfl) (zm rfl (zq 94 rfl rfl (.move rfl) (zq 94 rfl rfl (.gtr rfl rfl) ?_)))); clear h; intro a w h
            refine by_bool h (fun hc96 h => ?_) (fun hc96 h => ?_)
            · skip
              have h96 : i > 12 := of_decide_eq_true hc96
              have hcz : cfT (npZ Z) i j = 0 := cfT_none (fun t ht hh => by have := hpq.deg t ht; omega)
              refine gL h (zp (.pickF rfl rfl) (zm rfl (zo 98 rfl rfl rfl (zo 98 rfl rfl rfl (zp (.pickT rfl rfl) (zm rfl (zo 102 rfl rfl rfl (zo 102 rfl rfl rfl (zo 102 rfl rfl rfl (zo 102 rfl rfl rfl (zp (.pickT rfl rfl) (zn ?_)))))))))))); clear h; intro a w h
              change Code.wp _ _ _ _ _
              refine cond_true h rfl ?_
              refine gC h (zs (zr (zd rfl mr Tryz.isAgg44 Tryz.sizeOf44 (rd_5_0_5 _ _ _ _ _) ?_))); clear h; intro a w h
              refine gL h (zp (Pure1.cast (v' := encQ 0) (.build [] rfl (bd_44_z)) (by rfl)) (zp (.binOp rfl rfl (fun _ => run_eqQ _ _ (cfT (npZ Z) i j) 0 _)) ?_)); clear h; intro a w h
              refine by_bool h (fun hc110 h => ?_) (fun hc110 h => (by exfalso; exact absurd hcz (of_decide_eq_false hc110)))
              refine gL h (zm rfl ?_); clear h; intro a w h
              refine wpl_guard 111 h rfl rfl (op_callV h (vs := []) rfl Tryz.call18 (C_works8) (by decide) ?_); clear h; intro a w h
              refine gL h (zp (.pickT rfl rfl) (za rfl (zn (zt ?_)))); clear h; intro a w h
              refine retV h (results1 h rfl (.tmp rfl)) ?_
              rfl
            · skip
              have h96 : ¬ i > 12 := of_decide_eq_false hc96
              refine gL h (zp (.pickF rfl rfl) (zm rfl (zq 98 rfl rfl (.move rfl) (zq 98 rfl rfl (.gtr rfl rfl) ?_)))); clear h; intro a w h
              refine by_bool h (fun hc100 h => ?_) (fun hc100 h => ?_)
              · skip
                have h100 : j > 12 := of_decide_eq_true hc100
                have hcz : cfT (npZ Z) i j = 0 := cfT_none (fun t ht hh => by have := hpq.deg t ht; omega)
                refine gL h (zp (.pickF rfl rfl) (zm rfl (zo 102 rfl rfl rfl (zo 102 rfl rfl rfl (zo 102 rfl rfl rfl (zo 102 rfl rfl rfl (zp (.pickT rfl rfl) (zn ?_)))))))); clear h; intro a w h
                change Code.wp _ _ _ _ _
                refine cond_true h rfl ?_
                refine gC h (zs (zr (zd rfl mr Tryz.isAgg44 Tryz.sizeOf44 (rd_5_0_5 _ _ _ _ _) ?_))); clear h; intro a w h
                refine gL h (zp (Pure1.cast (v' := encQ 0) (.build [] rfl (bd_44_z)) (by rfl)) (zp (.binOp rfl rfl (fun _ => run_eqQ _ _ (cfT (npZ Z) i j) 0 _)) ?_)); clear h; intro a w h
                refine by_bool h (fun hc110 h => ?_) (fun hc110 h => (by exfalso; exact absurd hcz (of_decide_eq_false hc110)))
                refine gL h (zm rfl ?_); clear h; intro a w h
                refine wpl_guard 111 h rfl rfl (op_callV h (vs := []) rfl Tryz.call18 (C_works8) (by decide) ?_); clear h; intro a w h
                refine gL h (zp (.pickT rfl rfl) (za rfl (zn (zt ?_)))); clear h; intro a w h
                refine retV h (results1 h rfl (.tmp rfl)) ?_
                rfl
              · skip
                have h100 : ¬ j > 12 := of_decide_eq_false hc100
                refine gL h (zp (.pickF rfl rfl) (zm rfl (zq 102 rfl rfl (.move rfl) (zq 102 rfl rfl (.move rfl) (zq 102 rfl rfl (.add rfl rfl) (zq 102 rfl rfl (.gtr rfl rfl) ?_)))))); clear h; intro a w h
                refine by_bool h (fun hc106 h => ?_) (fun hc106 h => ?_)
                · skip
                  have h106 : i + j > 12 := of_decide_eq_true hc106
                  have hcz : cfT (npZ Z) i j = 0 := cfT_none (fun t ht hh => by have := hpq.deg t ht; omega)
                  refine gL h (zp (.pickF rfl rfl) (zn ?_)); clear h; intro a w h
                  change Code.wp _ _ _ _ _
                  refine cond_true h rfl ?_
                  refine gC h (zs (zr (zd rfl mr Tryz.isAgg44 Tryz.sizeOf44 (rd_5_0_5 _ _ _ _ _) ?_))); clear h; intro a w h
                  refine gL h (zp (Pure1.cast (v' := encQ 0) (.build [] rfl (bd_44_z)) (by rfl)) (zp (.binOp rfl rfl (fun _ => run_eqQ _ _ (cfT (npZ Z) i j) 0 _)) ?_)); clear h; intro a w h
                  refine by_bool h (fun hc110 h => ?_) (fun hc110 h => (by exfalso; exact absurd hcz (of_decide_eq_false hc110)))
                  refine gL h (zm rfl ?_); clear h; intro a w h
                  refine wpl_guard 111 h rfl rfl (op_callV h (vs := []) rfl Tryz.call18 (C_works8) (by decide) ?_); clear h; intro a w h
                  refine gL h (zp (.pickT rfl rfl) (za rfl (zn (zt ?_)))); clear h; intro a w h
                  refine retV h (results1 h rfl (.tmp rfl)) ?_
                  rfl
                · skip
                  have h106 : ¬ i + j > 12 := of_decide_eq_false hc106
                  have hia : ((i.toNat : Nat) : Int) = i := Int.toNat_of_nonneg (by omega)
                  have hja : ((j.toNat : Nat) : Int) = j := Int.toNat_of_nonneg (by omega)
                  have hcx : (l26.getD (13 * i.toNat + j.toNat) FT0).x = cfT (npZ Z) i j := by
                    rw [xs_get, ← hia, ← hja, cfT_lin i.toNat j.toNat hN, ← he26, pol_at (by omega)]; rfl
                  have hcs : lenQ (cfT (npZ Z) i j) ≤ 300000 := by rw [← hcx]; exact Nat.le_trans (ht26.sizl (by omega)) (by decide)
                  have hl26 := ht26.lenl
                  replace h := h.derive (R := Row (l26.getD (13 * i.toNat + j.toNat) FT0).a2 (List.map encn (dg ((l26.getD (13 * i.toNat + j.toNat) FT0).x.den - 1)))) (fun X hX => AllF.g2 (hX _ mm) (13 * i.toNat + j.toNat))
                  replace h := h.derive (R := Row (l26.getD (13 * i.toNat + j.toNat) FT0).a1 (List.map encn (dg (l26.getD (13 * i.toNat + j.toNat) FT0).x.num.natAbs))) (fun X hX => AllF.g1 (hX _ mm) (13 * i.toNat + j.toNat))
                  refine gL h (zp (.pickF rfl rfl) (zn ?_)); clear h; intro a w h
                  change Code.wp _ _ _ _ _
                  refine cond_false h rfl ?_
                  refine gC h (zk (zs (yD mixed_YtddhlkfpdjmplaaGreatDoor [0, 1, 2, 3, 4, 5, 6, 7, 8, 9, 10, 11, 12, 13, 14, 15, 16, 17, 18] (floatsOK_none (by kernel_rfl)) (yd rfl rfl mr Tryz.isAgg44 Tryz.sizeOf44 (rd_5_0_5 _ _ _ _ _) ?_)))); clear h
                  refine yp rfl (.move rfl) (yp rfl (.move rfl) (yp rfl (Pure1.cast (v' := .int .i64 ((13 * i.toNat : Nat) : Int)) (.mul rfl rfl) (by show Value.int _ _ = Value.int _ _; congr 1; omega)) (yp rfl (.move rfl) (yp rfl (Pure1.cast (v' := .int .i64 ((13 * i.toNat + j.toNat : Nat) : Int)) (.add rfl rfl) (by show Value.int _ _ = Value.int _ _; congr 1; omega)) (yp rfl (.indexAddr rfl rfl (ix_31 _ _ _ _ _ (by omega))) ?_)))))
                  refine head_loadRow rfl (by kernel_rfl) rfl mm (cells_lt (k := 3) (by decide) (fun _ => rfl) l26 (13 * i.toNat + j.toNat) (by omega)) Tryz.isAgg56 Tryz.sizeOf56 (read_cells (k := 3) (fun _ => rfl) ((fun _ => rfl)) l26 FT0 (13 * i.toNat + j.toNat) (by omega)) (.inl rfl) (by decide) ?_
                  refine yw [_, _] rfl rfl Tryz.call10 (C_SameG _ _ _ _ (cfT (npZ Z) i j) ((l26.getD (13 * i.toNat + j.toNat) FT0).x) hcs hcx) ?_
                  refine head_bool (fun hc122  => ?_) (fun hc122  => (by exfalso; cases hc122))
                  refine yp rfl (.move rfl) (yq rfl rfl rfl (.move rfl) (yq rfl rfl rfl (.move rfl) ?_))
                  refine head_callG rfl rfl rfl (by kernel_rfl) (vs := [_]) rfl Tryz.call12 (C_RawI l _ _ hok (by omega)) (by simp) (by decide) ?_; rintro v126 Ψ126 ⟨ad126, c126, rfl, rfl⟩
                  refine head_callWG rfl rfl rfl (by kernel_rfl) (vs := [_, _]) rfl Tryz.call27 (C_alikeZ Z (l.map tzz) _ _ _ _ (by omega) (by rw [hZ]; omega)) (by simp) (by decide) ?_
                  refine head_bool (fun hc127  => ?_) (fun hc127  => (by exfalso; exact absurd hZ.symm (of_decide_eq_false hc127)))
                  refine yp rfl (.pickT rfl rfl) (yp rfl (.move rfl) ?_)
                  refine head_callVG rfl rfl rfl (by kernel_rfl) (vs := []) rfl Tryz.call18 (C_works8) (by decide) ?_
                  refine yp rfl (.pickT rfl rfl) (yp rfl (.assign rfl) (yn (zt ?_))); intro a w h
                  refine retV h (results1 h rfl (.tmp rfl)) ?_
                  rfl
    · skip
      have hz0 : ¬ firstZ Z = 0 := by simpa using hc69
      refine gL h (zq 65 rfl rfl (.move rfl) (zo 70 rfl rfl rfl (zo 70 rfl rfl rfl (zo 70 rfl rfl rfl (zo 70 rfl rfl rfl (zo 70 rfl rfl rfl (zq 65 rfl rfl (.pickF rfl rfl) (zq 65 rfl rfl (.move rfl) (zo 77 rfl rfl rfl (zo 77 rfl rfl rfl (zo 77 rfl rfl rfl (zq 65 rfl rfl (.pickF rfl rfl) (zq 65 rfl rfl (.binOp rfl rfl (fun _ => run_bneq _ Tryz.underlying4 _ _ _ _)) ?_))))))))))))); clear h; intro a w h
      refine by_bool h (fun hc82 h => (by exfalso; exact po_A hz0 hc82)) (fun hc82 h => ?_)
      refine gL h (zp (.pickF rfl rfl) (zn ?_)); clear h; intro a w h
      change Code.wp _ _ _ _ _
      refine cond_false h rfl ?_
      refine gC h (zk (zs (zr (zm rfl (zm rfl (zm rfl (zw [_, _, _] rfl Tryz.call28 (C_CoefZ Z _ _ 4 (by omega) hZK (by decide) i j) (zz zeroQ fun b12 => zt' rfl rfl (st_5_0_5 _ _ _ _ _ _ _ _ _ _) uu Tryz.sizeOf44 rfl nb rfl ?_)))))))); clear h; intro a w h
      refine gL h (zn (zs (zs (zr (zm rfl (zp (.lss rfl rfl) ?_)))))); clear h; intro a w h
      refine by_bool h (fun hc89 h => ?_) (fun hc89 h => ?_)
      · skip
        have h89 : i < 0 := of_decide_eq_true hc89
        have hcz : cfT (npZ Z) i j = 0 := cfT_none (fun t ht hh => by have := hpq.deg t ht; omega)
        refine gL h (zm rfl (zo 90 rfl rfl rfl (zo 90 rfl rfl rfl (zp (.pickT rfl rfl) (zm rfl (zo 94 rfl rfl rfl (zo 94 rfl rfl rfl (zp (.pickT rfl rfl) (zm rfl (zo 98 rfl rfl rfl (zo 98 rfl rfl rfl (zp (.pickT rfl rfl) (zm rfl (zo 102 rfl rfl rfl (zo 102 rfl rfl rfl (zo 102 rfl rfl rfl (zo 102 rfl rfl rfl (zp (.pickT rfl rfl) (zn ?_))))))))))))))))))); clear h; intro a w h
        change Code.wp _ _ _ _ _
        refine cond_true h rfl ?_
        refine gC h (zs (zr (zd rfl mr Tryz.isAgg44 Tryz.sizeOf44 (rd_5_0_5 _ _ _ _ _) ?_))); clear h; intro a w h
        refine gL h (zp (Pure1.cast (v' := encQ 0) (.build [] rfl (bd_44_z)) (by rfl)) (zp (.binOp rfl rfl (fun _ => run_eqQ _ _ (cfT (npZ Z) i j) 0 _)) ?_)); clear h; intro a w h
        refine by_bool h (fun hc110 h => ?_) (fun hc110 h => (by exfalso; exact absurd hcz (of_decide_eq_false hc110)))
        refine gL h (zm rfl ?_); clear h; intro a w h
        refine wpl_guard 111 h rfl rfl (op_callV h (vs := []) rfl Tryz.call18 (C_works8) (by decide) ?_); clear h; intro a w h
        refine gL h (zp (.pickT rfl rfl) (za rfl (zn (zt ?_)))); clear h; intro a w h
        refine retV h (results1 h rfl (.tmp rfl)) ?_
        rfl
      · skip
        have h89 : ¬ i < 0 := of_decide_eq_false hc89
        refine gL h (zm rfl (zq 90 rfl rfl (.move rfl) (zq 90 rfl rfl (.lss rfl rfl) ?_))); clear h; intro a w h
        refine by_bool h (fun hc92 h => ?_) (fun hc92 h => ?_)
        · skip
          have h92 : j < 0 := of_decide_eq_true hc92
          have hcz : cfT (npZ Z) i j = 0 := cfT_none (fun t ht hh => by have := hpq.deg t ht; omega)
          refine gL h (zp (.pickF rfl rfl) (zm rfl (zo 94 rfl rfl rfl (zo 94 rfl rfl rfl (zp (.pickT rfl rfl) (zm rfl (zo 98 rfl rfl rfl (zo 98 rfl rfl rfl (zp (.pickT rfl rfl) (zm rfl (zo 102 rfl rfl rfl (zo 102 rfl rfl rfl (zo 102 rfl rfl rfl (zo 102 rfl rfl rfl (zp (.pickT rfl rfl) (zn ?_)))))))))))))))); clear h; intro a w h
          change Code.wp _ _ _ _ _
          refine cond_true h rfl ?_
          refine gC h (zs (zr (zd rfl mr Tryz.isAgg44 Tryz.sizeOf44 (rd_5_0_5 _ _ _ _ _) ?_))); clear h; intro a w h
          refine gL h (zp (Pure1.cast (v' := encQ 0) (.build [] rfl (bd_44_z)) (by rfl)) (zp (.binOp rfl rfl (fun _ => run_eqQ _ _ (cfT (npZ Z) i j) 0 _)) ?_)); clear h; intro a w h
          refine by_bool h (fun hc110 h => ?_) (fun hc110 h => (by exfalso; exact absurd hcz (of_decide_eq_false hc110)))
          refine gL h (zm rfl ?_); clear h; intro a w h
          refine wpl_guard 111 h rfl rfl (op_callV h (vs := []) rfl Tryz.call18 (C_works8) (by decide) ?_); clear h; intro a w h
          refine gL h (zp (.pickT rfl rfl) (za rfl (zn (zt ?_)))); clear h; intro a w h
          refine retV h (results1 h rfl (.tmp rfl)) ?_
          rfl
        · skip
          have h92 : ¬ j < 0 := of_decide_eq_false hc92
          refine gL h (zp (.pickF rfl rfl) (zm rfl (zq 94 rfl rfl (.move rfl) (zq 94 rfl rfl (.gtr rfl rfl) ?_)))); clear h; intro a w h
          refine by_bool h (fun hc96 h => ?_) (fun hc96 h => ?_)
          · skip
            have h96 : i > 12 := of_decide_eq_true hc96
            have hcz : cfT (npZ Z) i j = 0 := cfT_none (fun t ht hh => by have := hpq.deg t ht; omega)
            refine gL h (zp (.pickF rfl rfl) (zm rfl (zo 98 rfl rfl rfl (zo 98 rfl rfl rfl (zp (.pickT rfl rfl) (zm rfl (zo 102 rfl rfl rfl (zo 102 rfl rfl rfl (zo 102 rfl rfl rfl (zo 102 rfl rfl rfl (zp (.pickT rfl rfl) (zn ?_)))))))))))); clear h; intro a w h
            change Code.wp _ _ _ _ _
            refine cond_true h rfl ?_
            refine gC h (zs (zr (zd rfl mr Tryz.isAgg44 Tryz.sizeOf44 (rd_5_0_5 _ _ _ _ _) ?_))); clear h; intro a w h
            refine gL h (zp (Pure1.cast (v' := encQ 0) (.build [] rfl (bd_44_z)) (by rfl)) (zp (.binOp rfl rfl (fun _ => run_eqQ _ _ (cfT (npZ Z) i j) 0 _)) ?_)); clear h; intro a w h
            refine by_bool h (fun hc110 h => ?_) (fun hc110 h => (by exfalso; exact absurd hcz (of_decide_eq_false hc110)))
            refine gL h (zm rfl ?_); clear h; intro a w h
            refine wpl_guard 111 h rfl rfl (op_callV h (vs := []) rfl Tryz.call18 (C_works8) (by decide) ?_); clear h; intro a w h
            refine gL h (zp (.pickT rfl rfl) (za rfl (zn (zt ?_)))); clear h; intro a w h
            refine retV h (results1 h rfl (.tmp rfl)) ?_
            rfl
          · skip
            have h96 : ¬ i > 12 := of_decide_eq_false hc96
            refine gL h (zp (.pickF rfl rfl) (zm rfl (zq 98 rfl rfl (.move rfl) (zq 98 rfl rfl (.gtr rfl rfl) ?_)))); clear h; intro a w h
            refine by_bool h (fun hc100 h => ?_) (fun hc100 h => ?_)
            · skip
              have h100 : j > 12 := of_decide_eq_true hc100
              have hcz : cfT (npZ Z) i j = 0 := cfT_none (fun t ht hh => by have := hpq.deg t ht; omega)
              refine gL h (zp (.pickF rfl rfl) (zm rfl (zo 102 rfl rfl rfl (zo 102 rfl rfl rfl (zo 102 rfl rfl rfl (zo 102 rfl rfl rfl (zp (.pickT rfl rfl) (zn ?_)))))))); clear h; intro a w h
              change Code.wp _ _ _ _ _
              refine cond_true h rfl ?_
              refine gC h (zs (zr (zd rfl mr Tryz.isAgg44 Tryz.sizeOf44 (rd_5_0_5 _ _ _ _ _) ?_))); clear h; intro a w h
              refine gL h (zp (Pure1.cast (v' := encQ 0) (.build [] rfl (bd_44_z)) (by rfl)) (zp (.binOp rfl rfl (fun _ => run_eqQ _ _ (cfT (npZ Z) i j) 0 _)) ?_)); clear h; intro a w h
              refine by_bool h (fun hc110 h => ?_) (fun hc110 h => (by exfalso; exact absurd hcz (of_decide_eq_false hc110)))
              refine gL h (zm rfl ?_); clear h; intro a w h
              refine wpl_guard 111 h rfl rfl (op_callV h (vs := []) rfl Tryz.call18 (C_works8) (by decide) ?_); clear h; intro a w h
              refine gL h (zp (.pickT rfl rfl) (za rfl (zn (zt ?_)))); clear h; intro a w h
              refine retV h (results1 h rfl (.tmp rfl)) ?_
              rfl
            · skip
              have h100 : ¬ j > 12 := of_decide_eq_false hc100
              refine gL h (zp (.pickF rfl rfl) (zm rfl (zq 102 rfl rfl (.move rfl) (zq 102 rfl rfl (.move rfl) (zq 102 rfl rfl (.add rfl rfl) (zq 102 rfl rfl (.gtr rfl rfl) ?_)))))); clear h; intro a w h
              refine by_bool h (fun hc106 h => ?_) (fun hc106 h => ?_)
              · skip
                have h106 : i + j > 12 := of_decide_eq_true hc106
                have hcz : cfT (npZ Z) i j = 0 := cfT_none (fun t ht hh => by have := hpq.deg t ht; omega)
                refine gL h (zp (.pickF rfl rfl) (zn ?_)); clear h; intro a w h
                change Code.wp _ _ _ _ _
                refine cond_true h rfl ?_
                refine gC h (zs (zr (zd rfl mr Tryz.isAgg44 Tryz.sizeOf44 (rd_5_0_5 _ _ _ _ _) ?_))); clear h; intro a w h
                refine gL h (zp (Pure1.cast (v' := encQ 0) (.build [] rfl (bd_44_z)) (by rfl)) (zp (.binOp rfl rfl (fun _ => run_eqQ _ _ (cfT (npZ Z) i j) 0 _)) ?_)); clear h; intro a w h
                refine by_bool h (fun hc110 h => ?_) (fun hc110 h => (by exfalso; exact absurd hcz (of_decide_eq_false hc110)))
                refine gL h (zm rfl ?_); clear h; intro a w h
                refine wpl_guard 111 h rfl rfl (op_callV h (vs := []) rfl Tryz.call18 (C_works8) (by decide) ?_); clear h; intro a w h
                refine gL h (zp (.pickT rfl rfl) (za rfl (zn (zt ?_)))); clear h; intro a w h
                refine retV h (results1 h rfl (.tmp rfl)) ?_
                rfl
              · skip
                have h106 : ¬ i + j > 12 := of_decide_eq_false hc106
                have hia : ((i.toNat : Nat) : Int) = i := Int.toNat_of_nonneg (by omega)
                have hja : ((j.toNat : Nat) : Int) = j := Int.toNat_of_nonneg (by omega)
                have hcx : (l26.getD (13 * i.toNat + j.toNat) FT0).x = cfT (npZ Z) i j := by
                  rw [xs_get, ← hia, ← hja, cfT_lin i.toNat j.toNat hN, ← he26, pol_at (by omega)]; rfl
                have hcs : lenQ (cfT (npZ Z) i j) ≤ 300000 := by rw [← hcx]; exact Nat.le_trans (ht26.sizl (by omega)) (by decide)
                have hl26 := ht26.lenl
                replace h := h.derive (R := Row (l26.getD (13 * i.toNat + j.toNat) FT0).a2 (List.map encn (dg ((l26.getD (13 * i.toNat + j.toNat) FT0).x.den - 1)))) (fun X hX => AllF.g2 (hX _ mm) (13 * i.toNat + j.toNat))
                replace h := h.derive (R := Row (l26.getD (13 * i.toNat + j.toNat) FT0).a1 (List.map encn (dg (l26.getD (13 * i.toNat + j.toNat) FT0).x.num.natAbs))) (fun X hX => AllF.g1 (hX _ mm) (13 * i.toNat + j.toNat))
                refine gL h (zp (.pickF rfl rfl) (zn ?_)); clear h; intro a w h
                change Code.wp _ _ _ _ _
                refine cond_false h rfl ?_
                refine gC h (zk (zs (yD mixed_YtddhlkfpdjmplaaGreatDoor [0, 1, 2, 3, 4, 5, 6, 7, 8, 9, 10, 11, 12, 13, 14, 15, 16, 17, 18] (floatsOK_none (by kernel_rfl)) (yd rfl rfl mr Tryz.isAgg44 Tryz.sizeOf44 (rd_5_0_5 _ _ _ _ _) ?_)))); clear h
                refine yp rfl (.move rfl) (yp rfl (.move rfl) (yp rfl (Pure1.cast (v' := .int .i64 ((13 * i.toNat : Nat) : Int)) (.mul rfl rfl) (by show Value.int _ _ = Value.int _ _; congr 1; omega)) (yp rfl (.move rfl) (yp rfl (Pure1.cast (v' := .int .i64 ((13 * i.toNat + j.toNat : Nat) : Int)) (.add rfl rfl) (by show Value.int _ _ = Value.int _ _; congr 1; omega)) (yp rfl (.indexAddr rfl rfl (ix_31 _ _ _ _ _ (by omega))) ?_)))))
                refine head_loadRow rfl (by kernel_rfl) rfl mm (cells_lt (k := 3) (by decide) (fun _ => rfl) l26 (13 * i.toNat + j.toNat) (by omega)) Tryz.isAgg56 Tryz.sizeOf56 (read_cells (k := 3) (fun _ => rfl) ((fun _ => rfl)) l26 FT0 (13 * i.toNat + j.toNat) (by omega)) (.inl rfl) (by decide) ?_
                refine yw [_, _] rfl rfl Tryz.call10 (C_SameG _ _ _ _ (cfT (npZ Z) i j) ((l26.getD (13 * i.toNat + j.toNat) FT0).x) hcs hcx) ?_
                refine head_bool (fun hc122  => ?_) (fun hc122  => (by exfalso; cases hc122))
                refine yp rfl (.move rfl) (yq rfl rfl rfl (.move rfl) (yq rfl rfl rfl (.move rfl) ?_))
                refine head_callG rfl rfl rfl (by kernel_rfl) (vs := [_]) rfl Tryz.call12 (C_RawI l _ _ hok (by omega)) (by simp) (by decide) ?_; rintro v126 Ψ126 ⟨ad126, c126, rfl, rfl⟩
                refine head_callWG rfl rfl rfl (by kernel_rfl) (vs := [_, _]) rfl Tryz.call27 (C_alikeZ Z (l.map tzz) _ _ _ _ (by omega) (by rw [hZ]; omega)) (by simp) (by decide) ?_
                refine head_bool (fun hc127  => ?_) (fun hc127  => (by exfalso; exact absurd hZ.symm (of_decide_eq_false hc127)))
                refine yp rfl (.pickT rfl rfl) (yp rfl (.move rfl) ?_)
                refine head_callVG rfl rfl rfl (by kernel_rfl) (vs := []) rfl Tryz.call18 (C_works8) (by decide) ?_
                refine yp rfl (.pickT rfl rfl) (yp rfl (.assign rfl) (yn (zt ?_))); intro a w h
                refine retV h (results1 h rfl (.tmp rfl)) ?_
                rfl
end Go.Proofs.YtddhlkfpdjmplaaGreatDoor
