/- Written by a program of ours (gen.py) out of short specifications. By an AI agent. -/
import Derived.Test.YtddhlkfpdjmplaaGreatDoorRefp
set_option linter.unusedVariables false
set_option linter.unusedSimpArgs false
set_option maxRecDepth 4000
namespace Go.Proofs.YtddhlkfpdjmplaaGreatDoor
open Go Go.Proofs Go.Fx
attribute [local irreducible] Oper.wp Code.wp wpList Fx.Head wpOp
theorem ix_31 (b off n c j : Nat) (h : j < n) (w : World) : (Instr.indexAt 31 (.slice (some ⟨b, off, none⟩) n c) (.int .i64 (j : Int))).run Tryz.prog w = .ok (.pointer (some ⟨b, off + j * 3, none⟩)) w := by
  simpa using indexAt_slice Tryz.runUnderlying31 Tryz.sizeOf56 b off n c j h w
theorem len_slice_102 (a : Option Addr) (n c : Nat) (w : World) (ty : TypeId) (cs : Array Bool) : (Go.builtin .len #[102] ty cs #[.slice a n c]).run Tryz.prog w = .ok (.value (.int .i64 n)) w := by
  simp [go_sem]
theorem ix_102 (b off n c j : Nat) (h : j < n) (w : World) : (Instr.indexAt 102 (.slice (some ⟨b, off, none⟩) n c) (.int .i64 (j : Int))).run Tryz.prog w = .ok (.pointer (some ⟨b, off + j * 5, none⟩)) w := by
  simpa using indexAt_slice Tryz.runUnderlying102 Tryz.sizeOf105 b off n c j h w
theorem fa_105_0 (b off : Nat) (w : World) : (Instr.fieldAt 105 (.pointer (some ⟨b, off, none⟩)) 0).run Tryz.prog w = .ok (.pointer (some ⟨b, off + 0, none⟩)) w := by
  simp [go_sem]
theorem fa_105_1 (b off : Nat) (w : World) : (Instr.fieldAt 105 (.pointer (some ⟨b, off, none⟩)) 1).run Tryz.prog w = .ok (.pointer (some ⟨b, off + 1, none⟩)) w := by
  simp [go_sem]
theorem fa_105_2 (b off : Nat) (w : World) : (Instr.fieldAt 105 (.pointer (some ⟨b, off, none⟩)) 2).run Tryz.prog w = .ok (.pointer (some ⟨b, off + 2, none⟩)) w := by
  simp [go_sem]
abbrev xs (l : List FT) : List Rat := l.map FT.x
theorem xs_len (l : List FT) : (xs l).length = l.length := List.length_map _
theorem xs_get (l : List FT) (k : Nat) : (l.getD k FT0).x = (xs l).getD k 0 := by
  simp only [xs, List.getD_eq_getElem?_getD, List.getElem?_map]
  cases l[k]? <;> rfl
theorem xs_set (l : List FT) (k : Nat) (e : FT) : xs (l.set k e) = (xs l).set k e.x := List.map_set
theorem xs_zero : xs (List.replicate 169 FT0) = List.replicate 169 0 := by
  simp only [xs, List.map_replicate]; rfl
theorem AllF.set {l : List FT} {e : FT} {k : Nat} {X : Nat → Prop} {w : World} (h : (AllF l).p X w) (h1 : (Row e.a1 (List.map encn (dg e.x.num.natAbs))).p X w) (h2 : (Row e.a2 (List.map encn (dg (e.x.den - 1)))).p X w) : (AllF (l.set k e)).p X w := by
  intro f hf
  rcases List.mem_or_eq_of_mem_set hf with hf | rfl
  · exact h f hf
  · exact ⟨h1, h2⟩
theorem AllF.zeros (n : Nat) (X : Nat → Prop) (w : World) : (AllF (List.replicate n FT0)).p X w := by
  intro f hf
  rw [(List.mem_replicate.1 hf).2]
  have e1 : List.map encn (dg FT0.x.num.natAbs) = [] := by rw [show FT0.x.num.natAbs = 0 from rfl, dg_zero]; rfl
  have e2 : List.map encn (dg (FT0.x.den - 1)) = [] := by rw [show FT0.x.den - 1 = 0 from rfl, dg_zero]; rfl
  rw [e1, e2]
  exact ⟨fun hne => absurd rfl hne, fun hne => absurd rfl hne⟩
theorem pol_siz {K : Nat} {X : List Rat} (h : Hb K (pol X)) {k : Nat} (hk : k < X.length) : lenQ (X.getD k 0) ≤ K := by
  have h1 := h.siz _ (getD_mem (pol X) (d := T0) (show k < (pol X).length by rw [pol_len]; exact hk))
  rwa [pol_get hk] at h1
theorem Tb.nrmDL {d K : Nat} {X : List Rat} (h : Tb d K X) : DL d (norm (pol X)) := fun u hu => by
  obtain ⟨hc, hne⟩ := norm_mem hu
  obtain ⟨t, ht, e1, e2⟩ := collect_mem hc
  obtain ⟨k, hk, rfl⟩ := pol_mem ht
  have h1 := nrm_coef (norm_nrm (pol X)) hu
  rw [lin_norm, e1, e2] at h1
  rw [h.len] at hk
  have h2 := pol_at (X := X) (i := k / 13) (j := k % 13) (Nat.mod_lt _ (by decide))
  rw [show 13 * (k / 13) + k % 13 = k by omega] at h2
  have h3 := h.deg k hk (by rw [← h2]; simp only at h1; rw [h1]; exact hne)
  simp only at e1 e2
  omega
theorem Tb.pq {d K : Nat} {X : List Rat} (h : Tb d K X) (hd : d ≤ 12) : Pq d K (norm (pol X)) :=
  ⟨h.nrmDL, Nat.le_trans (nrm_len (norm_nrm (pol X)) h.nrmDL) (Nat.le_trans (tri_mono (show d + 1 ≤ 13 by omega)) (by decide)), h.hgt.nrm⟩
theorem Tb.lenl {d K : Nat} {l : List FT} (h : Tb d K (xs l)) : l.length = 169 := by rw [← xs_len]; exact h.len
theorem Tb.sizl {d K : Nat} {l : List FT} (h : Tb d K (xs l)) {k : Nat} (hk : k < 169) : lenQ (l.getD k FT0).x ≤ K := by rw [xs_get]; exact h.siz hk
def PostT (d K : Nat) (p : List Tm) (v : Value) (Ψ : List SPred) : Prop := ∃ b l, v = .slice (some ⟨b, 0, none⟩) 169 169 ∧ Tb d K (xs l) ∧ Eqv (pol (xs l)) p ∧ Ψ = [Row (some ⟨b, 0, none⟩) (cellsOf encF l), AllF l]
def PostT2 (d K : Nat) (p : List Tm) (v : Value) (Ψ : List SPred) : Prop := ∃ b l, v = .tuple #[.slice (some ⟨b, 0, none⟩) 169 169, .int .i64 0] ∧ Tb d K (xs l) ∧ Eqv (pol (xs l)) p ∧ Ψ = [Row (some ⟨b, 0, none⟩) (cellsOf encF l), AllF l]
theorem sgnz (x : Rat) : (x.num.sign == 0) = decide (x = 0) := by
  by_cases h : x = 0
  · subst h; rfl
  · rw [decide_eq_false h]; exact beq_eq_false_iff_ne.2 (fun e => h (Rat.num_eq_zero.1 (Int.sign_eq_zero_iff_zero.1 e)))
theorem AllF.g1 {l : List FT} {X : Nat → Prop} {w : World} (h : (AllF l).p X w) (k : Nat) : (Row (l.getD k FT0).a1 (List.map encn (dg (l.getD k FT0).x.num.natAbs))).p X w := by
  by_cases hk : k < l.length
  · exact AllF.get1 h (getD_mem _ hk)
  · rw [List.getD_eq_getElem?_getD, List.getElem?_eq_none (by omega)]; exact (AllF.zeros 1 X w FT0 (by simp)).1
theorem AllF.g2 {l : List FT} {X : Nat → Prop} {w : World} (h : (AllF l).p X w) (k : Nat) : (Row (l.getD k FT0).a2 (List.map encn (dg ((l.getD k FT0).x.den - 1)))).p X w := by
  by_cases hk : k < l.length
  · exact AllF.get2 h (getD_mem _ hk)
  · rw [List.getD_eq_getElem?_getD, List.getElem?_eq_none (by omega)]; exact (AllF.zeros 1 X w FT0 (by simp)).2
theorem zeroFT (w : World) : (zeroValue 56).run Tryz.prog w = .ok (encF FT0) w := zeroF w
theorem C_rZero : CtrO Tryz.prog 105 [] [] (fun v σn => ∃ b, v = .slice (some ⟨b, 0, none⟩) 169 169 ∧ σn = [(b, .cells (cellsOf encF (List.replicate 169 FT0)).toArray 56 (0, 0))]) := by
  refine fn_introO Tryz.func105 rfl Tryz.ntmps105 nb ?_
  intro S w0 a hS h
  refine gC h (zs (zr (za rfl (zn (zs (zr ?_)))))); clear h; intro a w h
  refine wpl_plain (op_makeSlice h rfl rfl Tryz.runUnderlying31 Tryz.typeInfo56 Tryz.sizeOf56 zeroFT rfl (by decide) (by exact Nat.le_refl _) (by show 56 * (169) ≤ 281474976710656; omega) (by decide) (by decide) ?_); clear h; intro b1 a w h; replace h := h.same rfl (by rw [← cellsOf_replicate (enc := encF)]) rfl
  refine gL h (za rfl (zn (zt ?_))); clear h; intro a w h
  exact retO h (results1 h rfl (.tmp rfl)) ⟨b1, rfl, rfl⟩ (List.Sublist.refl _)
structure TF where
  i : Int
  j : Int
  f : FT
def TF0 : TF := ⟨0, 0, FT0⟩
abbrev encTF (t : TF) : Value := .agg #[.int .i64 t.i, .int .i64 t.j, .bool (decide (t.f.x.num < 0)), .slice t.f.a1 (dg t.f.x.num.natAbs).length t.f.c1, .slice t.f.a2 (dg (t.f.x.den - 1)).length t.f.c2]
def tmF (t : TF) : Tm := ⟨t.i.toNat, t.j.toNat, t.f.x⟩
def OkIJ (t : TF) : Prop := (-9223372036854775808 ≤ t.i ∧ t.i ≤ 9223372036854775807) ∧ (-9223372036854775808 ≤ t.j ∧ t.j ≤ 9223372036854775807)
def erF (t : TF) : Int := if t.i < 0 ∨ t.j < 0 then 1 else if t.i > 12 ∨ t.j > 12 ∨ t.i + t.j > 12 then 9 else 0
def erL : List TF → Int
  | [] => 0
  | t :: l => if erF t = 0 then erL l else erF t
theorem erL_step (l : List TF) (k : Nat) (h : k < l.length) : erL (l.drop k) = if erF (l.getD k TF0) = 0 then erL (l.drop (k + 1)) else erF (l.getD k TF0) := by
  rw [List.drop_eq_getElem_cons h, erL]; simp [List.getD, h]
theorem takeTF (l : List TF) {k : Nat} (h : k < l.length) : l.take (k + 1) = l.take k ++ [l.getD k TF0] := by
  rw [List.take_add_one, List.getElem?_eq_getElem h]; simp [List.getD, h]
def PostTO (l : List TF) (v : Value) (Ψ : List SPred) : Prop := ∃ b lo, v = .tuple #[.slice (some ⟨b, 0, none⟩) 169 169, .int .i64 (erL l)] ∧ lo.length = 169 ∧ Eqv (pol (xs lo)) (if erL l = 0 then l.map tmF else []) ∧ Ψ = [Row (some ⟨b, 0, none⟩) (cellsOf encF lo), AllF lo]
theorem tf_Hb {K : Nat} {l : List TF} (h : ∀ t ∈ l, lenQ t.f.x ≤ K) (n : Nat) (hn : n ≤ l.length) : Hb (l.length * (K + 1) + 1) ((l.take n).map tmF) := by
  refine (Hb.of_KL (k := K) (fun t ht => ?_)).mono (by rw [List.length_map, List.length_take]; have := Nat.mul_le_mul_right (K + 1) (Nat.min_le_right n l.length); omega)
  obtain ⟨s, hs, rfl⟩ := List.mem_map.1 ht
  exact h s (List.mem_of_mem_take hs)
theorem tf_add {l : List TF} {X : List Rat} {k m : Nat} (hk : k < l.length) (hX : X.length = 169) (h1 : 0 ≤ (l.getD k TF0).i) (h2 : 0 ≤ (l.getD k TF0).j) (h3 : (l.getD k TF0).i + (l.getD k TF0).j ≤ 12) (hm : m = 13 * (l.getD k TF0).i.toNat + (l.getD k TF0).j.toNat)
    (h : Eqv (pol X) ((l.take k).map tmF)) : Eqv (pol (X.set m (X.getD m 0 + (l.getD k TF0).f.x))) ((l.take (k + 1)).map tmF) := fun φ => by
  rw [lin_pol_set φ _ (by omega), h φ, takeTF l hk, List.map_append, lin_append]
  rw [show m / 13 = (l.getD k TF0).i.toNat by omega, show m % 13 = (l.getD k TF0).j.toNat by omega]
  simp only [List.map_cons, List.map_nil, lin, tmF]; grind
theorem C_tOf (l : List TF) (ad : Option Addr) (c K : Nat) (hn : l.length ≤ 1000) (hK : ∀ t ∈ l, lenQ t.f.x ≤ K) (hkk : K ≤ 100000) (hij : ∀ t ∈ l, OkIJ t) : Ctr Tryz.prog 54 [.slice ad l.length c] [Row ad (cellsOf encTF l), AllF (l.map TF.f)] (PostTO l) := by
  refine fn_intro Tryz.func54 rfl Tryz.ntmps54 nb ?_
  intro S w0 a hS h
  refine gC h (zs (zr (za rfl (za rfl (zn (zs (zr ?_))))))); clear h; intro a w h
  refine wpl_plain (op_callO h (vs := []) rfl Tryz.call105 (C_rZero) (by simp) (by decide) ?_); clear h; rintro v7 σ7 a w ⟨b7, rfl, rfl⟩ h
  replace h := h.derive (R := AllF (List.replicate 169 FT0)) (fun X hX => AllF.zeros 169 X _)
  refine gL h (za rfl (zn (zs (zs (zr (za rfl (zn (zb ?_)))))))); clear h; intro a w h
  refine wp_loop_inv (fun (i : Nat) a w => i ≤ l.length ∧ ∃ l2, ((l2.length = 169 ∧ erL l = erL (l.drop i) ∧ Eqv (pol (xs l2)) ((l.take i).map tmF))) ∧ St 84 S w0 [(0, .slice ad l.length c), (4, .slice (some ⟨b7, 0, none⟩) 169 169), (5, .int .i64 ((i : Nat) : Int))] [(b7, .cells (cellsOf encF (l2)).toArray 56 (0, 0))] [AllF l2, Row ad (cellsOf encTF l), AllF (l.map TF.f)] a w) (fun i => l.length - i) 0 (⟨Nat.zero_le _, List.replicate 169 FT0, ⟨List.length_replicate, rfl, by rw [xs_zero]; exact fun φ => lin_pol_zero φ 169⟩, by exact (h.factsSub (by simp)).sub (subL ⟨rfl, rfl, rfl, trivial⟩)⟩) ?_; clear h
  rintro i a w ⟨hi_i, l2, ⟨hln, hie, hel⟩, h⟩
  refine gC h (zs (zs (zr (zm rfl (zm rfl (zp (.builtin [_] rfl (len_slice_102 _ _ _)) (zp (.lss rfl rfl) (zn ?_)))))))); clear h; intro a w h
  change Code.wp _ _ _ _ _
  refine cond_split h rfl (fun hc11 => ?_) (fun hc11 => ?_)
  · skip
    have hlt_i : i < l.length := by have := of_decide_eq_true hc11; omega
    obtain ⟨B_ad, O_ad, rfl⟩ := h.row_addr (ad := ad) (M := cellsOf encTF l) mm (by intro e; have := congrArg List.length e; rw [cellsOf_length (k := 5) (fun _ => rfl)] at this; simp only [List.length_nil, Nat.mul_eq_zero] at this; omega)
    have hme : l.getD i TF0 ∈ l := getD_mem _ hlt_i
    have hmf : (l.getD i TF0).f ∈ l.map TF.f := List.mem_map_of_mem hme
    have hz1 := hK _ hme
    obtain ⟨⟨hi1, hi2⟩, hj1, hj2⟩ := hij _ hme
    replace h := h.derive (R := Row ((l.getD i TF0).f).a2 (List.map encn (dg (((l.getD i TF0).f).x.den - 1)))) (fun X hX => AllF.get2 (hX _ mm) hmf)
    replace h := h.derive (R := Row ((l.getD i TF0).f).a1 (List.map encn (dg ((l.getD i TF0).f).x.num.natAbs))) (fun X hX => AllF.get1 (hX _ mm) hmf)
    replace h := h.derive (R := Row (l2.getD ((13 * (l.getD i TF0).i.toNat + (l.getD i TF0).j.toNat)) FT0).a2 (List.map encn (dg ((l2.getD ((13 * (l.getD i TF0).i.toNat + (l.getD i TF0).j.toNat)) FT0).x.den - 1)))) (fun X hX => AllF.g2 (hX _ mm) ((13 * (l.getD i TF0).i.toNat + (l.getD i TF0).j.toNat)))
    replace h := h.derive (R := Row (l2.getD ((13 * (l.getD i TF0).i.toNat + (l.getD i TF0).j.toNat)) FT0).a1 (List.map encn (dg (l2.getD ((13 * (l.getD i TF0).i.toNat + (l.getD i TF0).j.toNat)) FT0).x.num.natAbs))) (fun X hX => AllF.g1 (hX _ mm) ((13 * (l.getD i TF0).i.toNat + (l.getD i TF0).j.toNat)))
    refine gC h (zk (zs (zb (zs (zs (zr (zm rfl (zm rfl (zp (.indexAddr rfl rfl (ix_102 _ _ _ _ _ (by omega))) (zp (Pure1.cast (v' := .pointer (some ⟨B_ad, O_ad + (i * 5 + 0), none⟩)) (.fieldAddr rfl (fa_105_0 _ _)) (by rw [Nat.add_assoc])) (zD rfl mm (at_lt (k := 5) (enc := encTF) (fun _ => rfl) l i 0 (by omega) (by decide)) Tryz.isAgg3 Tryz.sizeOf3 (read_at (k := 5) (enc := encTF) (fun _ => rfl) l TF0 i (by omega) false 1 0 _ (by decide) (by decide) rfl) (.inr rfl) ?_))))))))))); clear h; intro a w h
    refine gL h (zp (.lss rfl rfl) ?_); clear h; intro a w h
    refine by_bool h (fun hc19 h => ?_) (fun hc19 h => ?_)
    · skip
      have hx19 : (l.getD i TF0).i < 0 := of_decide_eq_true hc19
      have hE : erF (l.getD i TF0) = 1 := if_pos (by omega)
      refine gL h (zm rfl (zo 20 rfl rfl rfl (zo 20 rfl rfl rfl (zo 20 rfl rfl rfl (zo 20 rfl rfl rfl (zo 20 rfl rfl rfl (zo 20 rfl rfl rfl (zp (.pickT rfl rfl) (zn ?_))))))))); clear h; intro a w h
      change Code.wp _ _ _ _ _
      refine cond_true h rfl ?_
      refine wp_seq (wp_region_lit ?_)
      refine wpl_plain (op_callO h (vs := []) rfl Tryz.call105 (C_rZero) (by simp) (by decide) ?_); clear h; rintro v28 σ28 a w ⟨b28, rfl, rfl⟩ h
      replace h := h.derive (R := AllF (List.replicate 169 FT0)) (fun X hX => AllF.zeros 169 X _)
      refine gL h (za rfl (za rfl (zn (zt ?_)))); clear h; intro a w h
      replace h := h.shareAll hS (cellsOf encF (List.replicate 169 FT0)) rfl
      have her : erL l = 1 := by rw [hie, erL_step l i hlt_i, if_neg (by rw [hE]; decide), hE]
      exact ret_of (Ψ := [Row (some ⟨b28, 0, none⟩) (cellsOf encF (List.replicate 169 FT0)), AllF (List.replicate 169 FT0)]) h (results2 h rfl (.tmp rfl) (.tmp rfl)) ⟨b28, _, by rw [her], List.length_replicate, by rw [xs_zero, if_neg (by rw [her]; decide)]; exact fun φ => lin_pol_zero φ 169, rfl⟩ (by simp)
    · skip
      have hx19 : ¬ (l.getD i TF0).i < 0 := of_decide_eq_false hc19
      refine gL h (zm rfl (zq 20 rfl rfl (.move rfl) (zq 20 rfl rfl (.move rfl) (zq 20 rfl rfl (.indexAddr rfl rfl (ix_102 _ _ _ _ _ (by omega))) (zq 20 rfl rfl (Pure1.cast (v' := .pointer (some ⟨B_ad, O_ad + (i * 5 + 1), none⟩)) (.fieldAddr rfl (fa_105_1 _ _)) (by rw [Nat.add_assoc])) ?_))))); clear h; intro a w h
      refine wpl_guard 20 h rfl rfl (op_loadRow h rfl mm (at_lt (k := 5) (enc := encTF) (fun _ => rfl) l i 1 (by omega) (by decide)) Tryz.isAgg3 Tryz.sizeOf3 (read_at (k := 5) (enc := encTF) (fun _ => rfl) l TF0 i (by omega) false 1 1 _ (by decide) (by decide) rfl) (.inr rfl) (by decide) ?_); clear h; intro a h
      refine gL h (zq 20 rfl rfl (.lss rfl rfl) ?_); clear h; intro a w h
      refine by_bool h (fun hc26 h => ?_) (fun hc26 h => ?_)
      · skip
        have hx26 : (l.getD i TF0).j < 0 := of_decide_eq_true hc26
        have hE : erF (l.getD i TF0) = 1 := if_pos (by omega)
        refine gL h (zp (.pickF rfl rfl) (zn ?_)); clear h; intro a w h
        change Code.wp _ _ _ _ _
        refine cond_true h rfl ?_
        refine wp_seq (wp_region_lit ?_)
        refine wpl_plain (op_callO h (vs := []) rfl Tryz.call105 (C_rZero) (by simp) (by decide) ?_); clear h; rintro v28 σ28 a w ⟨b28, rfl, rfl⟩ h
        replace h := h.derive (R := AllF (List.replicate 169 FT0)) (fun X hX => AllF.zeros 169 X _)
        refine gL h (za rfl (za rfl (zn (zt ?_)))); clear h; intro a w h
        replace h := h.shareAll hS (cellsOf encF (List.replicate 169 FT0)) rfl
        have her : erL l = 1 := by rw [hie, erL_step l i hlt_i, if_neg (by rw [hE]; decide), hE]
        exact ret_of (Ψ := [Row (some ⟨b28, 0, none⟩) (cellsOf encF (List.replicate 169 FT0)), AllF (List.replicate 169 FT0)]) h (results2 h rfl (.tmp rfl) (.tmp rfl)) ⟨b28, _, by rw [her], List.length_replicate, by rw [xs_zero, if_neg (by rw [her]; decide)]; exact fun φ => lin_pol_zero φ 169, rfl⟩ (by simp)
      · skip
        have hx26 : ¬ (l.getD i TF0).j < 0 := of_decide_eq_false hc26
        refine gL h (zp (.pickF rfl rfl) (zn ?_)); clear h; intro a w h
        change Code.wp _ _ _ _ _
        refine cond_false h rfl ?_
        refine gC h (zk (zs (zs (yD mixed_YtddhlkfpdjmplaaGreatDoor [0, 1, 2, 3, 4, 5, 6, 7, 8, 9, 10, 11, 12, 13, 14, 15, 16, 17, 18, 19, 20, 21, 22, 23, 24, 25, 26, 27] (floatsOK_none (by kernel_rfl)) (yp rfl (.move rfl) (yp rfl (.move rfl) (yp rfl (.indexAddr rfl rfl (ix_102 _ _ _ _ _ (by omega))) (yp rfl (Pure1.cast (v' := .pointer (some ⟨B_ad, O_ad + (i * 5 + 0), none⟩)) (.fieldAddr rfl (fa_105_0 _ _)) (by rw [Nat.add_assoc])) ?_)))))))); clear h
        refine head_loadRow rfl (by kernel_rfl) rfl mm (at_lt (k := 5) (enc := encTF) (fun _ => rfl) l i 0 (by omega) (by decide)) Tryz.isAgg3 Tryz.sizeOf3 (read_at (k := 5) (enc := encTF) (fun _ => rfl) l TF0 i (by omega) false 1 0 _ (by decide) (by decide) rfl) (.inr rfl) (by decide) ?_
        refine yp rfl (.gtr rfl rfl) ?_
        refine head_bool (fun hc34  => ?_) (fun hc34  => ?_)
        · skip
          have hx34 : (l.getD i TF0).i > 12 := of_decide_eq_true hc34
          have hE : erF (l.getD i TF0) = 9 := by unfold erF; rw [if_neg (by omega), if_pos (by omega)]
          refine yp rfl (.move rfl) (yo 35 rfl rfl rfl rfl (yo 35 rfl rfl rfl rfl (yo 35 rfl rfl rfl rfl (yo 35 rfl rfl rfl rfl (yo 35 rfl rfl rfl rfl (yo 35 rfl rfl rfl rfl (yp rfl (.pickT rfl rfl) (yp rfl (.move rfl) (yo 43 rfl rfl rfl rfl (yo 43 rfl rfl rfl rfl (yo 43 rfl rfl rfl rfl (yo 43 rfl rfl rfl rfl (yo 43 rfl rfl rfl rfl (yo 43 rfl rfl rfl rfl (yo 43 rfl rfl rfl rfl (yo 43 rfl rfl rfl rfl (yo 43 rfl rfl rfl rfl (yo 43 rfl rfl rfl rfl (yo 43 rfl rfl rfl rfl (yo 43 rfl rfl rfl rfl (yp rfl (.pickT rfl rfl) (yn ?_)))))))))))))))))))))); intro a w h
          change Code.wp _ _ _ _ _
          refine cond_true h rfl ?_
          refine wp_seq (wp_region_lit ?_)
          refine wpl_plain (op_callO h (vs := []) rfl Tryz.call105 (C_rZero) (by simp) (by decide) ?_); clear h; rintro v57 σ57 a w ⟨b57, rfl, rfl⟩ h
          replace h := h.derive (R := AllF (List.replicate 169 FT0)) (fun X hX => AllF.zeros 169 X _)
          refine gL h (za rfl (za rfl (zn (zt ?_)))); clear h; intro a w h
          replace h := h.shareAll hS (cellsOf encF (List.replicate 169 FT0)) rfl
          have her : erL l = 9 := by rw [hie, erL_step l i hlt_i, if_neg (by rw [hE]; decide), hE]
          exact ret_of (Ψ := [Row (some ⟨b57, 0, none⟩) (cellsOf encF (List.replicate 169 FT0)), AllF (List.replicate 169 FT0)]) h (results2 h rfl (.tmp rfl) (.tmp rfl)) ⟨b57, _, by rw [her], List.length_replicate, by rw [xs_zero, if_neg (by rw [her]; decide)]; exact fun φ => lin_pol_zero φ 169, rfl⟩ (by simp)
        · skip
          have hx34 : ¬ (l.getD i TF0).i > 12 := of_decide_eq_false hc34
          refine yp rfl (.move rfl) (yq rfl rfl rfl (.move rfl) (yq rfl rfl rfl (.move rfl) (yq rfl rfl rfl (.indexAddr rfl rfl (ix_102 _ _ _ _ _ (by omega))) (yq rfl rfl rfl (Pure1.cast (v' := .pointer (some ⟨B_ad, O_ad + (i * 5 + 1), none⟩)) (.fieldAddr rfl (fa_105_1 _ _)) (by rw [Nat.add_assoc])) ?_))))
          refine head_loadRowG rfl rfl rfl (by kernel_rfl) rfl mm (at_lt (k := 5) (enc := encTF) (fun _ => rfl) l i 1 (by omega) (by decide)) Tryz.isAgg3 Tryz.sizeOf3 (read_at (k := 5) (enc := encTF) (fun _ => rfl) l TF0 i (by omega) false 1 1 _ (by decide) (by decide) rfl) (.inr rfl) (by decide) ?_
          refine yq rfl rfl rfl (.gtr rfl rfl) ?_
          refine head_bool (fun hc41  => ?_) (fun hc41  => ?_)
          · skip
            have hx41 : (l.getD i TF0).j > 12 := of_decide_eq_true hc41
            have hE : erF (l.getD i TF0) = 9 := by unfold erF; rw [if_neg (by omega), if_pos (by omega)]
            refine yp rfl (.pickF rfl rfl) (yp rfl (.move rfl) (yo 43 rfl rfl rfl rfl (yo 43 rfl rfl rfl rfl (yo 43 rfl rfl rfl rfl (yo 43 rfl rfl rfl rfl (yo 43 rfl rfl rfl rfl (yo 43 rfl rfl rfl rfl (yo 43 rfl rfl rfl rfl (yo 43 rfl rfl rfl rfl (yo 43 rfl rfl rfl rfl (yo 43 rfl rfl rfl rfl (yo 43 rfl rfl rfl rfl (yo 43 rfl rfl rfl rfl (yp rfl (.pickT rfl rfl) (yn ?_))))))))))))))); intro a w h
            change Code.wp _ _ _ _ _
            refine cond_true h rfl ?_
            refine wp_seq (wp_region_lit ?_)
            refine wpl_plain (op_callO h (vs := []) rfl Tryz.call105 (C_rZero) (by simp) (by decide) ?_); clear h; rintro v57 σ57 a w ⟨b57, rfl, rfl⟩ h
            replace h := h.derive (R := AllF (List.replicate 169 FT0)) (fun X hX => AllF.zeros 169 X _)
            refine gL h (za rfl (za rfl (zn (zt ?_)))); clear h; intro a w h
            replace h := h.shareAll hS (cellsOf encF (List.replicate 169 FT0)) rfl
            have her : erL l = 9 := by rw [hie, erL_step l i hlt_i, if_neg (by rw [hE]; decide), hE]
            exact ret_of (Ψ := [Row (some ⟨b57, 0, none⟩) (cellsOf encF (List.replicate 169 FT0)), AllF (List.replicate 169 FT0)]) h (results2 h rfl (.tmp rfl) (.tmp rfl)) ⟨b57, _, by rw [her], List.length_replicate, by rw [xs_zero, if_neg (by rw [her]; decide)]; exact fun φ => lin_pol_zero φ 169, rfl⟩ (by simp)
          · skip
            have hx41 : ¬ (l.getD i TF0).j > 12 := of_decide_eq_false hc41
            refine yp rfl (.pickF rfl rfl) (yp rfl (.move rfl) (yq rfl rfl rfl (.move rfl) (yq rfl rfl rfl (.move rfl) (yq rfl rfl rfl (.indexAddr rfl rfl (ix_102 _ _ _ _ _ (by omega))) (yq rfl rfl rfl (Pure1.cast (v' := .pointer (some ⟨B_ad, O_ad + (i * 5 + 0), none⟩)) (.fieldAddr rfl (fa_105_0 _ _)) (by rw [Nat.add_assoc])) ?_)))))
            refine head_loadRowG rfl rfl rfl (by kernel_rfl) rfl mm (at_lt (k := 5) (enc := encTF) (fun _ => rfl) l i 0 (by omega) (by decide)) Tryz.isAgg3 Tryz.sizeOf3 (read_at (k := 5) (enc := encTF) (fun _ => rfl) l TF0 i (by omega) false 1 0 _ (by decide) (by decide) rfl) (.inr rfl) (by decide) ?_
            refine yq rfl rfl rfl (.move rfl) (yq rfl rfl rfl (.move rfl) (yq rfl rfl rfl (.indexAddr rfl rfl (ix_102 _ _ _ _ _ (by omega))) (yq rfl rfl rfl (Pure1.cast (v' := .pointer (some ⟨B_ad, O_ad + (i * 5 + 1), none⟩)) (.fieldAddr rfl (fa_105_1 _ _)) (by rw [Nat.add_assoc])) ?_)))
            refine head_loadRowG rfl rfl rfl (by kernel_rfl) rfl mm (at_lt (k := 5) (enc := encTF) (fun _ => rfl) l i 1 (by omega) (by decide)) Tryz.isAgg3 Tryz.sizeOf3 (read_at (k := 5) (enc := encTF) (fun _ => rfl) l TF0 i (by omega) false 1 1 _ (by decide) (by decide) rfl) (.inr rfl) (by decide) ?_
            refine yq rfl rfl rfl (.add rfl rfl) (yq rfl rfl rfl (.gtr rfl rfl) ?_)
            refine head_bool (fun hc55  => ?_) (fun hc55  => ?_)
            · skip
              have hx55 : (l.getD i TF0).i + (l.getD i TF0).j > 12 := of_decide_eq_true hc55
              have hE : erF (l.getD i TF0) = 9 := by unfold erF; rw [if_neg (by omega), if_pos (by omega)]
              refine yp rfl (.pickF rfl rfl) (yn ?_); intro a w h
              change Code.wp _ _ _ _ _
              refine cond_true h rfl ?_
              refine wp_seq (wp_region_lit ?_)
              refine wpl_plain (op_callO h (vs := []) rfl Tryz.call105 (C_rZero) (by simp) (by decide) ?_); clear h; rintro v57 σ57 a w ⟨b57, rfl, rfl⟩ h
              replace h := h.derive (R := AllF (List.replicate 169 FT0)) (fun X hX => AllF.zeros 169 X _)
              refine gL h (za rfl (za rfl (zn (zt ?_)))); clear h; intro a w h
              replace h := h.shareAll hS (cellsOf encF (List.replicate 169 FT0)) rfl
              have her : erL l = 9 := by rw [hie, erL_step l i hlt_i, if_neg (by rw [hE]; decide), hE]
              exact ret_of (Ψ := [Row (some ⟨b57, 0, none⟩) (cellsOf encF (List.replicate 169 FT0)), AllF (List.replicate 169 FT0)]) h (results2 h rfl (.tmp rfl) (.tmp rfl)) ⟨b57, _, by rw [her], List.length_replicate, by rw [xs_zero, if_neg (by rw [her]; decide)]; exact fun φ => lin_pol_zero φ 169, rfl⟩ (by simp)
            · skip
              have hx55 : ¬ (l.getD i TF0).i + (l.getD i TF0).j > 12 := of_decide_eq_false hc55
              have hE : erF (l.getD i TF0) = 0 := by unfold erF; rw [if_neg (by omega), if_neg (by omega)]
              have hn2 : l2.length = 169 := hln
              have hm2 : l2.getD (13 * (l.getD i TF0).i.toNat + (l.getD i TF0).j.toNat) FT0 ∈ l2 := getD_mem _ (by omega)
              have hz2 : lenQ (l2.getD (13 * (l.getD i TF0).i.toNat + (l.getD i TF0).j.toNat) FT0).x ≤ l.length * (K + 1) + 1 := by rw [xs_get]; exact pol_siz (Hb.of_eqv (tf_Hb hK i (by omega)) hel) (by rw [xs_len]; omega)
              have hlk : l.length * (K + 1) ≤ 1000 * 100001 := Nat.mul_le_mul hn (by omega)
              refine yp rfl (.pickF rfl rfl) (yn ?_); intro a w h
              change Code.wp _ _ _ _ _
              refine cond_false h rfl ?_
              refine gC h (zk (zs (yD mixed_YtddhlkfpdjmplaaGreatDoor [0, 1, 2, 3, 4, 5, 6, 7, 8, 9, 10, 11, 12] (floatsOK_none (by kernel_rfl)) (yp rfl (.move rfl) (yp rfl (.move rfl) (yp rfl (.indexAddr rfl rfl (ix_102 _ _ _ _ _ (by omega))) (yp rfl (Pure1.cast (v' := .pointer (some ⟨B_ad, O_ad + (i * 5 + 0), none⟩)) (.fieldAddr rfl (fa_105_0 _ _)) (by rw [Nat.add_assoc])) ?_))))))); clear h
              refine head_loadRow rfl (by kernel_rfl) rfl mm (at_lt (k := 5) (enc := encTF) (fun _ => rfl) l i 0 (by omega) (by decide)) Tryz.isAgg3 Tryz.sizeOf3 (read_at (k := 5) (enc := encTF) (fun _ => rfl) l TF0 i (by omega) false 1 0 _ (by decide) (by decide) rfl) (.inr rfl) (by decide) ?_
              refine yp rfl (Pure1.cast (v' := .int .i64 ((13 * (l.getD i TF0).i.toNat : Nat) : Int)) (.mul rfl rfl) (by show Value.int _ _ = Value.int _ _; congr 1; omega)) (yp rfl (.move rfl) (yp rfl (.move rfl) (yp rfl (.indexAddr rfl rfl (ix_102 _ _ _ _ _ (by omega))) (yp rfl (Pure1.cast (v' := .pointer (some ⟨B_ad, O_ad + (i * 5 + 1), none⟩)) (.fieldAddr rfl (fa_105_1 _ _)) (by rw [Nat.add_assoc])) ?_))))
              refine head_loadRow rfl (by kernel_rfl) rfl mm (at_lt (k := 5) (enc := encTF) (fun _ => rfl) l i 1 (by omega) (by decide)) Tryz.isAgg3 Tryz.sizeOf3 (read_at (k := 5) (enc := encTF) (fun _ => rfl) l TF0 i (by omega) false 1 1 _ (by decide) (by decide) rfl) (.inr rfl) (by decide) ?_
              refine yp rfl (Pure1.cast (v' := .int .i64 ((13 * (l.getD i TF0).i.toNat + (l.getD i TF0).j.toNat : Nat) : Int)) (.add rfl rfl) (by show Value.int _ _ = Value.int _ _; congr 1; omega)) (yp rfl (.assign rfl) (yn (yD mixed_YtddhlkfpdjmplaaGreatDoor [0, 1, 2, 3, 4, 5, 6, 7, 8, 9, 10, 11, 12, 13] (floatsOK_none (by kernel_rfl)) (yp rfl (.move rfl) (yp rfl (.move rfl) (yp rfl (.move rfl) (yp rfl (.move rfl) (yp rfl (.indexAddr rfl rfl (ix_31 _ _ _ _ _ (by omega))) (yd rfl rfl mm Tryz.isAgg56 Tryz.sizeOf56 (read_cells0 (k := 3) (fun _ => rfl) ((fun _ => rfl)) l2 FT0 (13 * (l.getD i TF0).i.toNat + (l.getD i TF0).j.toNat) (by omega)) ?_)))))))))
              refine yp rfl (.move rfl) (yp rfl (.move rfl) (yp rfl (.indexAddr rfl rfl (ix_102 _ _ _ _ _ (by omega))) (yp rfl (Pure1.cast (v' := .pointer (some ⟨B_ad, O_ad + (i * 5 + 2), none⟩)) (.fieldAddr rfl (fa_105_2 _ _)) (by rw [Nat.add_assoc])) ?_)))
              refine head_loadRow rfl (by kernel_rfl) rfl mm (at_lt (k := 5) (enc := encTF) (fun _ => rfl) l i 2 (by omega) (by decide)) Tryz.isAgg56 Tryz.sizeOf56 (read_at (k := 5) (enc := encTF) (fun _ => rfl) l TF0 i (by omega) true 3 2 _ (by decide) (by decide) rfl) (.inl rfl) (by decide) ?_
              refine yf [_, _] rfl rfl Tryz.call65 (C_fAdd _ _ _ _ _ _ _ _ ((l2.getD (13 * (l.getD i TF0).i.toNat + (l.getD i TF0).j.toNat) FT0).x) ((l.getD i TF0).f.x) (by omega) (by omega)) ?_; rintro v81 Ψ81 ⟨ad81, c81, bd81, d81, rfl, hle81, hlf81, rfl⟩
              have hl81 := lenQ_add ((l2.getD (13 * (l.getD i TF0).i.toNat + (l.getD i TF0).j.toNat) FT0).x) ((l.getD i TF0).f.x)
              refine yp rfl (.indexAddr rfl rfl (ix_31 _ _ _ _ _ (by omega))) ?_
              refine head_store (b := b7) (cs := (cellsOf encF l2).toArray) (cs' := (cellsOf encF (l2.set (13 * (l.getD i TF0).i.toNat + (l.getD i TF0).j.toNat) (FT.mk (((l2.getD (13 * (l.getD i TF0).i.toNat + (l.getD i TF0).j.toNat) FT0).x) + ((l.getD i TF0).f.x)) ad81 c81 bd81 d81 hle81 hlf81))).toArray) (v := encF (FT.mk (((l2.getD (13 * (l.getD i TF0).i.toNat + (l.getD i TF0).j.toNat) FT0).x) + ((l.getD i TF0).f.x)) ad81 c81 bd81 d81 hle81 hlf81)) rfl (by kernel_rfl) rfl rfl (set_cells0 (k := 3) (fun _ => rfl) l2 (13 * (l.getD i TF0).i.toNat + (l.getD i TF0).j.toNat) (by omega) (FT.mk (((l2.getD (13 * (l.getD i TF0).i.toNat + (l.getD i TF0).j.toNat) FT0).x) + ((l.getD i TF0).f.x)) ad81 c81 bd81 d81 hle81 hlf81)) uu Tryz.sizeOf56 rfl (cells_le (k := 3) (fun _ => rfl) l2 (13 * (l.getD i TF0).i.toNat + (l.getD i TF0).j.toNat) (by omega)) rfl ?_
              refine yn (zr (zm rfl (zp (Pure1.cast (v' := (.int .i64 ((i + 1 : Nat) : Int))) (.add rfl rfl) (by show Value.int _ _ = Value.int _ _; congr 1)) (za rfl (zn ?_))))); intro a w h
              replace h := h.derive (R := AllF (l2.set (13 * (l.getD i TF0).i.toNat + (l.getD i TF0).j.toNat) (FT.mk (((l2.getD (13 * (l.getD i TF0).i.toNat + (l.getD i TF0).j.toNat) FT0).x) + ((l.getD i TF0).f.x)) ad81 c81 bd81 d81 hle81 hlf81))) (fun X hX => AllF.set (hX _ mm) (hX _ mm) (hX _ mm))
              have hx2 : Eqv (pol (xs (l2.set (13 * (l.getD i TF0).i.toNat + (l.getD i TF0).j.toNat) (FT.mk (((l2.getD (13 * (l.getD i TF0).i.toNat + (l.getD i TF0).j.toNat) FT0).x) + ((l.getD i TF0).f.x)) ad81 c81 bd81 d81 hle81 hlf81)))) ((l.take (i + 1)).map tmF) := by
                have h9 := tf_add hlt_i (by rw [xs_len]; exact hln) (by omega) (by omega) (by omega) rfl hel
                rw [← xs_get] at h9; rw [xs_set]; exact h9
              exact ⟨i + 1, ⟨by omega, l2.set (13 * (l.getD i TF0).i.toNat + (l.getD i TF0).j.toNat) (FT.mk (((l2.getD (13 * (l.getD i TF0).i.toNat + (l.getD i TF0).j.toNat) FT0).x) + ((l.getD i TF0).f.x)) ad81 c81 bd81 d81 hle81 hlf81), ⟨by rw [List.length_set]; exact hln, by rw [hie, erL_step l i hlt_i, if_pos hE], hx2⟩, by exact (h.factsSub (by simp)).sub sA⟩, by omega⟩
  · skip
    have heq_i : l.length = i := by have := of_decide_eq_false hc11; omega
    subst heq_i
    replace h := h.shareAll hS (cellsOf encF l2) rfl
    refine gC h (ze (zs (zr (zm rfl (za rfl (za rfl (zn (zt ?_)))))))); clear h; intro a w h
    rw [List.drop_length, show erL [] = 0 from rfl] at hie
    rw [List.take_length] at hel
    exact ret_of (Ψ := [Row (some ⟨b7, 0, none⟩) (cellsOf encF l2), AllF l2]) h (results2 h rfl (.tmp rfl) (.tmp rfl)) ⟨b7, _, by rw [hie], hln, by rw [if_pos hie]; exact hel, rfl⟩ (by simp)
end Go.Proofs.YtddhlkfpdjmplaaGreatDoor
