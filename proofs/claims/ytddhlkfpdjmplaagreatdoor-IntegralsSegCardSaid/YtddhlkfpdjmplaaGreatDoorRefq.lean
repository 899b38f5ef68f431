/- Written by a program of ours (gen.py) out of short specifications. By an AI agent. -/
import Derived.Test.YtddhlkfpdjmplaaGreatDoorRefp
set_option linter.unusedVariables false
set_option linter.unusedSimpArgs false
set_option maxRecDepth 4000
namespace Go.Proofs.YtddhlkfpdjmplaaGreatDoor
open Go Go.Proofs Go.Fx
attribute [local irreducible] Oper.wp Code.wp wpList Fx.Head wpOp
theorem ix_31 (b off n c j : Nat) (h : j < n) (w : World) : (Instr.indexAt 31 (.slice (some ⟨b, off, none⟩) n c) (.int .i64 (j : Int))).run Tryz.prog w = .ok (.pointer (some ⟨b, off + j * 3, none⟩)) w := by
  simpa using indexAt_slice Tryz.runUnderlying31 Tryz.sizeOf56 b off n c j h w
theorem len_slice_102 (a : Option Addr) (n c : Nat) (w : World) (ty : TypeId) (cs : Array Bool) : (Go.builtin .len #[102] ty cs #[.slice a n c]).run Tryz.prog w = .ok (.value (.int .i64 n)) w := by
  simp [go_sem]
theorem ix_102 (b off n c j : Nat) (h : j < n) (w : World) : (Instr.indexAt 102 (.slice (some ⟨b, off, none⟩) n c) (.int .i64 (j : Int))).run Tryz.prog w = .ok (.pointer (some ⟨b, off + j * 5, none⟩)) w := by
  simpa using indexAt_slice Tryz.runUnderlying102 Tryz.sizeOf105 b off n c j h w
theorem fa_105_0 (b off : Nat) (w : World) : (Instr.fieldAt 105 (.pointer (some ⟨b, off, none⟩)) 0).run Tryz.prog w = .ok (.pointer (some ⟨b, off + 0, none⟩)) w := by
  simp [go_sem]
theorem fa_105_1 (b off : Nat) (w : World) : (Instr.fieldAt 105 (.pointer (some ⟨b, off, none⟩)) 1).run Tryz.prog w = .ok (.pointer (some ⟨b, off + 1, none⟩)) w := by
  simp [go_sem]
theorem fa_105_2 (b off : Nat) (w : World) : (Instr.fieldAt 105 (.pointer (some ⟨b, off, none⟩)) 2).run Tryz.prog w = .ok (.pointer (some ⟨b, off + 2, none⟩)) w := by
  simp [go_sem]
abbrev xs (l : List FT) : List Rat := l.map FT.x
theorem xs_len (l : List FT) : (xs l).length = l.length := List.length_map _
theorem xs_get (l : List FT) (k : Nat) : (l.getD k FT0).x = (xs l).getD k 0 := by
  simp only [xs, List.getD_eq_getElem?_getD, List.getElem?_map]
  cases l[k]? <;> rfl
theorem xs_set (l : List FT) (k : Nat) (e : FT) : xs (l.set k e) = (xs l).set k e.x := List.map_set
theorem xs_zero : xs (List.replicate 169 FT0) = List.replicate 169 0 := by
  simp only [xs, List.map_replicate]; rfl
theorem AllF.set {l : List FT} {e : FT} {k : Nat} {X : Nat → Prop} {w : World} (h : (AllF l).p X w) (h1 : (Row e.a1 (List.map encn (dg e.x.num.natAbs))).p X w) (h2 : (Row e.a2 (List.map encn (dg (e.x.den - 1)))).p X w) : (AllF (l.set k e)).p X w := by
  intro f hf
  rcases List.mem_or_eq_of_mem_set hf with hf | rfl
  · exact h f hf
  · exact ⟨h1, h2⟩
theorem AllF.zeros (n : Nat) (X : Nat → Prop) (w : World) : (AllF (List.replicate n FT0)).p X w := by
  intro f hf
  rw [(List.mem_replicate.1 hf).2]
  have e1 : List.map encn (dg FT0.x.num.natAbs) = [] := by rw [show FT0.x.num.natAbs = 0 from rfl, dg_zero]; rfl
  have e2 : List.map encn (dg (FT0.x.den - 1)) = [] := by rw [show FT0.x.den - 1 = 0 from rfl, dg_zero]; rfl
  rw [e1, e2]
  exact ⟨fun hne => absurd rfl hne, fun hne => absurd rfl hne⟩
theorem pol_siz {K : Nat} {X : List Rat} (h : Hb K (pol X)) {k : Nat} (hk : k < X.length) : lenQ (X.getD k 0) ≤ K := by
  have h1 := h.siz _ (getD_mem (pol X) (d := T0) (show k < (pol X).length by rw [pol_len]; exact hk))
  rwa [pol_get hk] at h1
theorem Tb.nrmDL {d K : Nat} {X : List Rat} (h : Tb d K X) : DL d (norm (pol X)) := fun u hu => by
  obtain ⟨hc, hne⟩ := norm_mem hu
  obtain ⟨t, ht, e1, e2⟩ := collect_mem hc
  obtain ⟨k, hk, rfl⟩ := pol_mem ht
  have h1 := nrm_coef (norm_nrm (pol X)) hu
  rw [lin_norm, e1, e2] at h1
  rw [h.len] at hk
  have h2 := pol_at (X := X) (i := k / 13) (j := k % 13) (Nat.mod_lt _ (by decide))
  rw [show 13 * (k / 13) + k % 13 = k by omega] at h2
  have h3 := h.deg k hk (by rw [← h2]; simp only at h1; rw [h1]; exact hne)
  simp only at e1 e2
  omega
theorem Tb.pq {d K : Nat} {X : List Rat} (h : Tb d K X) (hd : d ≤ 12) : Pq d K (norm (pol X)) :=
  ⟨h.nrmDL, Nat.le_trans (nrm_len (norm_nrm (pol X)) h.nrmDL) (Nat.le_trans (tri_mono (show d + 1 ≤ 13 by omega)) (by decide)), h.hgt.nrm⟩
theorem Tb.of_pq {d K : Nat} {X : List Rat} {p : List Tm} (hl : X.length = 169) (he : Eqv (pol X) p) (h : Pq d K (norm p)) : Tb d K X :=
  Tb.of_eqv hl (he.trans (Eqv.nrm p).symm) h.deg h.hgt
theorem Tb.lenl {d K : Nat} {l : List FT} (h : Tb d K (xs l)) : l.length = 169 := by rw [← xs_len]; exact h.len
theorem Tb.sizl {d K : Nat} {l : List FT} (h : Tb d K (xs l)) {k : Nat} (hk : k < 169) : lenQ (l.getD k FT0).x ≤ K := by rw [xs_get]; exact h.siz hk
theorem Tb.degl {d K : Nat} {l : List FT} (h : Tb d K (xs l)) {k : Nat} (hk : k < 169) (hne : (l.getD k FT0).x ≠ 0) : k / 13 + k % 13 ≤ d := h.deg k hk (by rw [← xs_get]; exact hne)
theorem Tb.mulP {da db Ka Kb : Nat} {A B X : List Rat} (ha : Tb da Ka A) (hb : Tb db Kb B) (hd : da + db ≤ 12) (hl : X.length = 169) (he : Eqv (pol X) (mulL (pol A) (pol B))) : Tb (da + db) (Ka + Kb) X := by
  refine Tb.of_pq hl he ?_
  rw [norm_eq (show Eqv (mulL (pol A) (pol B)) (mulL (norm (pol A)) (norm (pol B))) from (Eqv.nrm _).symm.mul (Eqv.nrm _).symm)]
  exact Pq.mul (ha.pq (by omega)) (hb.pq (by omega)) hd
theorem Tb.addP {da db Ka Kb : Nat} {A B X : List Rat} (ha : Tb da Ka A) (hb : Tb db Kb B) (h1 : da ≤ 12) (h2 : db ≤ 12) (hl : X.length = 169) (he : Eqv (pol X) (pol A ++ pol B)) : Tb (max da db) (Ka + Kb + 2) X := by
  refine Tb.of_pq hl he ?_
  rw [norm_eq (show Eqv (pol A ++ pol B) (norm (pol A) ++ norm (pol B)) from (Eqv.nrm _).symm.append (Eqv.nrm _).symm)]
  exact Pq.add (ha.pq h1) (hb.pq h2) h1 h2
theorem Tb.scaleP {d K Kc : Nat} {c : Rat} {A X : List Rat} (ha : Tb d K A) (hc : lenQ c ≤ Kc) (h1 : d ≤ 12) (hl : X.length = 169) (he : Eqv (pol X) (scaleL c (pol A))) : Tb d (Kc + K + 1) X := by
  refine Tb.of_pq hl he ?_
  rw [norm_eq (show Eqv (scaleL c (pol A)) (scaleL c (norm (pol A))) from (Eqv.nrm _).symm.scale c)]
  exact Pq.scale (ha.pq h1) hc h1
theorem lineX_len (a b c : Rat) : (lineX a b c).length = 169 := by unfold lineX; simp only [List.length_set, List.length_replicate]
theorem oneX_len : oneX.length = 169 := by unfold oneX; simp only [List.length_set, List.length_replicate]
theorem Tb.lineP {K : Nat} {a b c : Rat} (ha : lenQ a ≤ K) (hb : lenQ b ≤ K) (hc : lenQ c ≤ K) : Tb 1 (3 * K + 4) (lineX a b c) :=
  Tb.of_eqv (lineX_len a b c) (lineX_eqv a b c) (Pq.line ha hb hc).deg (Pq.line ha hb hc).hgt
theorem Tb.oneP : Tb 0 4 oneX := Tb.of_eqv oneX_len oneX_eqv Pq.one.deg Pq.one.hgt
def PostT (d K : Nat) (p : List Tm) (v : Value) (Ψ : List SPred) : Prop := ∃ b l, v = .slice (some ⟨b, 0, none⟩) 169 169 ∧ Tb d K (xs l) ∧ Eqv (pol (xs l)) p ∧ Ψ = [Row (some ⟨b, 0, none⟩) (cellsOf encF l), AllF l]
def PostT2 (d K : Nat) (p : List Tm) (v : Value) (Ψ : List SPred) : Prop := ∃ b l, v = .tuple #[.slice (some ⟨b, 0, none⟩) 169 169, .int .i64 0] ∧ Tb d K (xs l) ∧ Eqv (pol (xs l)) p ∧ Ψ = [Row (some ⟨b, 0, none⟩) (cellsOf encF l), AllF l]
theorem sbl_skip {X Y : List Tm} {A : List Rat} {k : Nat} (hk : k < A.length) (hz : A.getD k 0 = 0) : Eqv (sbL X Y ((pol A).take (k + 1))) (sbL X Y ((pol A).take k)) := fun φ => by
  rw [take_snoc (pol A) (show k < (pol A).length by rw [pol_len]; exact hk), sbL_snoc, lin_append, pol_get hk, hz]
  unfold sbT; rw [lin_scaleL]; grind
theorem sbl_step {X Y : List Tm} {A : List Rat} {k : Nat} (hk : k < A.length) : Eqv (sbL X Y ((pol A).take (k + 1))) (sbL X Y ((pol A).take k) ++ scaleL (A.getD k 0) (mulL (powL X (k / 13)) (powL Y (k % 13)))) := fun φ => by
  rw [take_snoc (pol A) (show k < (pol A).length by rw [pol_len]; exact hk), sbL_snoc, pol_get hk]; rfl
theorem sbl_all {X Y : List Tm} {A : List Rat} (hA : A.length = 169) : sbL X Y ((pol A).take 169) = sbL X Y (pol A) := by
  rw [List.take_of_length_le (by rw [pol_len, hA]; exact Nat.le_refl _)]
theorem sgnz (x : Rat) : (x.num.sign == 0) = decide (x = 0) := by
  by_cases h : x = 0
  · subst h; rfl
  · rw [decide_eq_false h]; exact beq_eq_false_iff_ne.2 (fun e => h (Rat.num_eq_zero.1 (Int.sign_eq_zero_iff_zero.1 e)))
theorem AllF.g1 {l : List FT} {X : Nat → Prop} {w : World} (h : (AllF l).p X w) (k : Nat) : (Row (l.getD k FT0).a1 (List.map encn (dg (l.getD k FT0).x.num.natAbs))).p X w := by
  by_cases hk : k < l.length
  · exact AllF.get1 h (getD_mem _ hk)
  · rw [List.getD_eq_getElem?_getD, List.getElem?_eq_none (by omega)]; exact (AllF.zeros 1 X w FT0 (by simp)).1
theorem AllF.g2 {l : List FT} {X : Nat → Prop} {w : World} (h : (AllF l).p X w) (k : Nat) : (Row (l.getD k FT0).a2 (List.map encn (dg ((l.getD k FT0).x.den - 1)))).p X w := by
  by_cases hk : k < l.length
  · exact AllF.get2 h (getD_mem _ hk)
  · rw [List.getD_eq_getElem?_getD, List.getElem?_eq_none (by omega)]; exact (AllF.zeros 1 X w FT0 (by simp)).2
theorem zeroFT (w : World) : (zeroValue 56).run Tryz.prog w = .ok (encF FT0) w := zeroF w
theorem C_rZero : CtrO Tryz.prog 105 [] [] (fun v σn => ∃ b, v = .slice (some ⟨b, 0, none⟩) 169 169 ∧ σn = [(b, .cells (cellsOf encF (List.replicate 169 FT0)).toArray 56 (0, 0))]) := by
  refine fn_introO Tryz.func105 rfl Tryz.ntmps105 nb ?_
  intro S w0 a hS h
  refine gC h (zs (zr (za rfl (zn (zs (zr ?_)))))); clear h; intro a w h
  refine wpl_plain (op_makeSlice h rfl rfl Tryz.runUnderlying31 Tryz.typeInfo56 Tryz.sizeOf56 zeroFT rfl (by decide) (by exact Nat.le_refl _) (by show 56 * (169) ≤ 281474976710656; omega) (by decide) (by decide) ?_); clear h; intro b1 a w h; replace h := h.same rfl (by rw [← cellsOf_replicate (enc := encF)]) rfl
  refine gL h (za rfl (zn (zt ?_))); clear h; intro a w h
  exact retO h (results1 h rfl (.tmp rfl)) ⟨b1, rfl, rfl⟩ (List.Sublist.refl _)
theorem C_tOne : Ctr Tryz.prog 163 [] [] (PostT 0 4 [⟨0, 0, 1⟩]) := by
  refine fn_intro Tryz.func163 rfl Tryz.ntmps163 nb ?_
  intro S w0 a hS h
  refine gC h (zs (zr (za rfl (zn (zs (zr ?_)))))); clear h; intro a w h
  refine wpl_plain (op_callO h (vs := []) rfl Tryz.call105 (C_rZero) (by simp) (by decide) ?_); clear h; rintro v2 σ2 a w ⟨b2, rfl, rfl⟩ h
  replace h := h.derive (R := AllF (List.replicate 169 FT0)) (fun X hX => AllF.zeros 169 X _)
  refine gL h (za rfl (zn (zs (zr (zm rfl (zf [_] rfl Tryz.call67 (C_fInt 1 (by omega) (by omega)) ?_)))))); clear h; rintro v4 Ψ4 ⟨ad4, c4, bd4, d4, rfl, hle4, hlf4, rfl⟩ a w h
  have hl4 := lenQ_int 1 (by omega) (by omega)
  refine gL h (zp (.indexAddr rfl rfl (ix_31 _ _ _ _ 0 (by omega))) (zt' (b := b2) (cs := (cellsOf encF (List.replicate 169 FT0)).toArray) (cs' := (cellsOf encF ((List.replicate 169 FT0).set 0 (FT.mk (((1 : Int) : Rat)) ad4 c4 bd4 d4 hle4 hlf4))).toArray) (v := encF (FT.mk (((1 : Int) : Rat)) ad4 c4 bd4 d4 hle4 hlf4)) rfl rfl (set_cells0 (k := 3) (fun _ => rfl) (List.replicate 169 FT0) 0 (by simp) (FT.mk (((1 : Int) : Rat)) ad4 c4 bd4 d4 hle4 hlf4)) uu Tryz.sizeOf56 rfl (cells_le (k := 3) (fun _ => rfl) (List.replicate 169 FT0) 0 (by simp)) rfl ?_)); clear h; intro a w h
  refine gL h (zn (zs (zr (zm rfl (za rfl (zn (zt ?_))))))); clear h; intro a w h
  replace h := h.derive (R := AllF ((List.replicate 169 FT0).set 0 (FT.mk (((1 : Int) : Rat)) ad4 c4 bd4 d4 hle4 hlf4))) (fun X hX => AllF.set (hX _ mm) (hX _ mm) (hX _ mm))
  replace h := h.shareAll hS (cellsOf encF ((List.replicate 169 FT0).set 0 (FT.mk (((1 : Int) : Rat)) ad4 c4 bd4 d4 hle4 hlf4))) rfl
  have hx : xs ((List.replicate 169 FT0).set 0 (FT.mk (((1 : Int) : Rat)) ad4 c4 bd4 d4 hle4 hlf4)) = oneX := by rw [xs_set, xs_zero]; rfl
  exact ret_of (Ψ := [Row (some ⟨b2, 0, none⟩) (cellsOf encF ((List.replicate 169 FT0).set 0 (FT.mk (((1 : Int) : Rat)) ad4 c4 bd4 d4 hle4 hlf4))), AllF ((List.replicate 169 FT0).set 0 (FT.mk (((1 : Int) : Rat)) ad4 c4 bd4 d4 hle4 hlf4))]) h (results1 h rfl (.tmp rfl)) ⟨b2, _, rfl, by rw [hx]; exact Tb.oneP, by rw [hx]; exact oneX_eqv, rfl⟩ (by simp)
theorem C_tLine (p1 p3 q1 q3 r1 r3 : Option Addr) (p2 p4 q2 q4 r2 r4 : Nat) (x y z : Rat) (K : Nat) (hx : lenQ x ≤ K) (hy : lenQ y ≤ K) (hz : lenQ z ≤ K) (hp2 : (dg x.num.natAbs).length ≤ p2) (hp4 : (dg (x.den - 1)).length ≤ p4) (hq2 : (dg y.num.natAbs).length ≤ q2) (hq4 : (dg (y.den - 1)).length ≤ q4) (hr2 : (dg z.num.natAbs).length ≤ r2) (hr4 : (dg (z.den - 1)).length ≤ r4) : Ctr Tryz.prog 125 [fV x p1 p2 p3 p4, fV y q1 q2 q3 q4, fV z r1 r2 r3 r4] [Row p1 (List.map encn (dg x.num.natAbs)), Row p3 (List.map encn (dg (x.den - 1))), Row q1 (List.map encn (dg y.num.natAbs)), Row q3 (List.map encn (dg (y.den - 1))), Row r1 (List.map encn (dg z.num.natAbs)), Row r3 (List.map encn (dg (z.den - 1)))] (PostT 1 (3 * K + 4) (ln x y z)) := by
  refine fn_intro Tryz.func125 rfl Tryz.ntmps125 nb ?_
  intro S w0 a hS h
  refine gC h (zs (zr (zx rfl fun b3 => zx rfl fun b4 => zx rfl fun b5 => za rfl (zn (zs (zr ?_)))))); clear h; intro a w h
  refine wpl_plain (op_callO h (vs := []) rfl Tryz.call105 (C_rZero) (by simp) (by decide) ?_); clear h; rintro v8 σ8 a w ⟨b8, rfl, rfl⟩ h
  replace h := h.derive (R := AllF (List.replicate 169 FT0)) (fun X hX => AllF.zeros 169 X _)
  refine gL h (za rfl (zn (zs (zr (zm rfl (zd rfl mr Tryz.isAgg56 Tryz.sizeOf56 (rd_3_0_3 _ _ _) ?_)))))); clear h; intro a w h
  refine gL h (zp (.indexAddr rfl rfl (ix_31 _ _ _ _ 13 (by omega))) (zt' (b := b8) (cs := (cellsOf encF (List.replicate 169 FT0)).toArray) (cs' := (cellsOf encF ((List.replicate 169 FT0).set 13 (FT.mk x p1 p2 p3 p4 hp2 hp4))).toArray) (v := encF (FT.mk x p1 p2 p3 p4 hp2 hp4)) rfl rfl (set_cells0 (k := 3) (fun _ => rfl) (List.replicate 169 FT0) 13 (by simp only [List.length_replicate]; omega) (FT.mk x p1 p2 p3 p4 hp2 hp4)) uu Tryz.sizeOf56 rfl (cells_le (k := 3) (fun _ => rfl) (List.replicate 169 FT0) 13 (by simp only [List.length_replicate]; omega)) rfl ?_)); clear h; intro a w h
  refine gL h (zn (zs (zr (zm rfl (zd rfl mr Tryz.isAgg56 Tryz.sizeOf56 (rd_3_0_3 _ _ _) ?_))))); clear h; intro a w h
  refine gL h (zp (.indexAddr rfl rfl (ix_31 _ _ _ _ 1 (by omega))) (zt' (b := b8) (cs := (cellsOf encF ((List.replicate 169 FT0).set 13 (FT.mk x p1 p2 p3 p4 hp2 hp4))).toArray) (cs' := (cellsOf encF (((List.replicate 169 FT0).set 13 (FT.mk x p1 p2 p3 p4 hp2 hp4)).set 1 (FT.mk y q1 q2 q3 q4 hq2 hq4))).toArray) (v := encF (FT.mk y q1 q2 q3 q4 hq2 hq4)) rfl rfl (set_cells0 (k := 3) (fun _ => rfl) ((List.replicate 169 FT0).set 13 (FT.mk x p1 p2 p3 p4 hp2 hp4)) 1 (by simp only [List.length_set, List.length_replicate]; omega) (FT.mk y q1 q2 q3 q4 hq2 hq4)) uu Tryz.sizeOf56 rfl (cells_le (k := 3) (fun _ => rfl) ((List.replicate 169 FT0).set 13 (FT.mk x p1 p2 p3 p4 hp2 hp4)) 1 (by simp only [List.length_set, List.length_replicate]; omega)) rfl ?_)); clear h; intro a w h
  refine gL h (zn (zs (zr (zm rfl (zd rfl mr Tryz.isAgg56 Tryz.sizeOf56 (rd_3_0_3 _ _ _) ?_))))); clear h; intro a w h
  refine gL h (zp (.indexAddr rfl rfl (ix_31 _ _ _ _ 0 (by omega))) (zt' (b := b8) (cs := (cellsOf encF (((List.replicate 169 FT0).set 13 (FT.mk x p1 p2 p3 p4 hp2 hp4)).set 1 (FT.mk y q1 q2 q3 q4 hq2 hq4))).toArray) (cs' := (cellsOf encF ((((List.replicate 169 FT0).set 13 (FT.mk x p1 p2 p3 p4 hp2 hp4)).set 1 (FT.mk y q1 q2 q3 q4 hq2 hq4)).set 0 (FT.mk z r1 r2 r3 r4 hr2 hr4))).toArray) (v := encF (FT.mk z r1 r2 r3 r4 hr2 hr4)) rfl rfl (set_cells0 (k := 3) (fun _ => rfl) (((List.replicate 169 FT0).set 13 (FT.mk x p1 p2 p3 p4 hp2 hp4)).set 1 (FT.mk y q1 q2 q3 q4 hq2 hq4)) 0 (by simp only [List.length_set, List.length_replicate]; omega) (FT.mk z r1 r2 r3 r4 hr2 hr4)) uu Tryz.sizeOf56 rfl (cells_le (k := 3) (fun _ => rfl) (((List.replicate 169 FT0).set 13 (FT.mk x p1 p2 p3 p4 hp2 hp4)).set 1 (FT.mk y q1 q2 q3 q4 hq2 hq4)) 0 (by simp only [List.length_set, List.length_replicate]; omega)) rfl ?_)); clear h; intro a w h
  refine gL h (zn (zs (zr (zm rfl (za rfl (zn (zt ?_))))))); clear h; intro a w h
  replace h := h.derive (R := AllF ((List.replicate 169 FT0).set 13 (FT.mk x p1 p2 p3 p4 hp2 hp4))) (fun X hX => AllF.set (hX _ mm) (hX _ mm) (hX _ mm))
  replace h := h.derive (R := AllF (((List.replicate 169 FT0).set 13 (FT.mk x p1 p2 p3 p4 hp2 hp4)).set 1 (FT.mk y q1 q2 q3 q4 hq2 hq4))) (fun X hX => AllF.set (hX _ mm) (hX _ mm) (hX _ mm))
  replace h := h.derive (R := AllF ((((List.replicate 169 FT0).set 13 (FT.mk x p1 p2 p3 p4 hp2 hp4)).set 1 (FT.mk y q1 q2 q3 q4 hq2 hq4)).set 0 (FT.mk z r1 r2 r3 r4 hr2 hr4))) (fun X hX => AllF.set (hX _ mm) (hX _ mm) (hX _ mm))
  replace h := h.shareAll hS (cellsOf encF ((((List.replicate 169 FT0).set 13 (FT.mk x p1 p2 p3 p4 hp2 hp4)).set 1 (FT.mk y q1 q2 q3 q4 hq2 hq4)).set 0 (FT.mk z r1 r2 r3 r4 hr2 hr4))) rfl
  have hx3 : xs ((((List.replicate 169 FT0).set 13 (FT.mk x p1 p2 p3 p4 hp2 hp4)).set 1 (FT.mk y q1 q2 q3 q4 hq2 hq4)).set 0 (FT.mk z r1 r2 r3 r4 hr2 hr4)) = lineX x y z := by rw [xs_set, xs_set, xs_set, xs_zero]; rfl
  exact ret_of (Ψ := [Row (some ⟨b8, 0, none⟩) (cellsOf encF ((((List.replicate 169 FT0).set 13 (FT.mk x p1 p2 p3 p4 hp2 hp4)).set 1 (FT.mk y q1 q2 q3 q4 hq2 hq4)).set 0 (FT.mk z r1 r2 r3 r4 hr2 hr4))), AllF ((((List.replicate 169 FT0).set 13 (FT.mk x p1 p2 p3 p4 hp2 hp4)).set 1 (FT.mk y q1 q2 q3 q4 hq2 hq4)).set 0 (FT.mk z r1 r2 r3 r4 hr2 hr4))]) h (results1 h rfl (.tmp rfl)) ⟨b8, _, rfl, by rw [hx3]; exact Tb.lineP hx hy hz, by rw [hx3]; exact lineX_eqv x y z, rfl⟩ (by simp)
theorem C_tScale (b1 : Nat) (la : List FT) (da Ka : Nat) (ha : Tb da Ka (xs la)) (hda : da ≤ 12) (hka : Ka ≤ 1000000000) (p1 p3 : Option Addr) (p2 p4 Kc : Nat) (x : Rat) (hx : lenQ x ≤ Kc) (hkc : Kc ≤ 1000000000) : Ctr Tryz.prog 110 [.slice (some ⟨b1, 0, none⟩) 169 169, fV x p1 p2 p3 p4] [Row (some ⟨b1, 0, none⟩) (cellsOf encF la), AllF la, Row p1 (List.map encn (dg x.num.natAbs)), Row p3 (List.map encn (dg (x.den - 1)))] (PostT da (Kc + Ka + 1) (scaleL x (pol (xs la)))) := by
  refine fn_intro Tryz.func110 rfl Tryz.ntmps110 nb ?_
  intro S w0 a hS h
  refine gC h (zs (zr (zx rfl fun b3 => za rfl (zn (zs (zr ?_)))))); clear h; intro a w h
  refine wpl_plain (op_callO h (vs := []) rfl Tryz.call105 (C_rZero) (by simp) (by decide) ?_); clear h; rintro v7 σ7 a w ⟨b7, rfl, rfl⟩ h
  replace h := h.derive (R := AllF (List.replicate 169 FT0)) (fun X hX => AllF.zeros 169 X _)
  refine gL h (za rfl (zn (zs (zs (zr (za rfl (zn (zb ?_)))))))); clear h; intro a w h
  refine wp_loop_inv (fun (k : Nat) a w => k ≤ 169 ∧ ∃ l, ((l.length = 169 ∧ xs l = scX x (xs la) k)) ∧ St 22 S w0 [(0, .slice (some ⟨b1, 0, none⟩) 169 169), (3, .pointer (some ⟨b3, 0, none⟩)), (4, .slice none 0 0), (5, .slice (some ⟨b7, 0, none⟩) 169 169), (6, .int .i64 ((k : Nat) : Int))] [(b7, .cells (cellsOf encF (l)).toArray 56 (0, 0)), (b3, .cells (Value.cells (.agg #[.bool (decide (x.num < 0)), .slice p1 (dg x.num.natAbs).length p2, .slice p3 (dg (x.den - 1)).length p4])) 56 (0, 0))] [AllF l, Row (some ⟨b1, 0, none⟩) (cellsOf encF la), AllF la, Row p1 (List.map encn (dg x.num.natAbs)), Row p3 (List.map encn (dg (x.den - 1)))] a w) (fun k => 169 - k) 0 (⟨Nat.zero_le _, List.replicate 169 FT0, ⟨List.length_replicate, xs_zero⟩, by exact (h.factsSub (by simp)).sub (subL ⟨rfl, rfl, rfl, rfl, rfl, trivial⟩)⟩) ?_; clear h
  rintro k a w ⟨hi_k, l, ⟨hln, hxl⟩, h⟩
  refine gC h (zs (zs (zr (zm rfl (zp (.lss rfl rfl) (zn ?_)))))); clear h; intro a w h
  change Code.wp _ _ _ _ _
  refine cond_split h rfl (fun hc9 => ?_) (fun hc9 => ?_)
  · skip
    have hlt_k : k < 169 := by have := of_decide_eq_true hc9; omega
    have hn1 := ha.lenl
    have hm1 : la.getD k FT0 ∈ la := getD_mem _ (by omega)
    have hz1 := ha.sizl (k := k) (by omega)
    replace h := h.derive (R := Row (la.getD k FT0).a2 (List.map encn (dg ((la.getD k FT0).x.den - 1)))) (fun X hX => AllF.get2 (hX _ mm) hm1)
    replace h := h.derive (R := Row (la.getD k FT0).a1 (List.map encn (dg (la.getD k FT0).x.num.natAbs))) (fun X hX => AllF.get1 (hX _ mm) hm1)
    refine gC h (zk (zs (zb (yD mixed_YtddhlkfpdjmplaaGreatDoor [0, 1, 2, 3, 4, 5, 6, 7, 8, 9] (floatsOK_none (by kernel_rfl)) (yp rfl (.move rfl) (yp rfl (.move rfl) (yd rfl rfl mr Tryz.isAgg56 Tryz.sizeOf56 (rd_3_0_3 _ _ _) ?_))))))); clear h
    refine yp rfl (.move rfl) (yp rfl (.move rfl) (yp rfl (.indexAddr rfl rfl (ix_31 _ _ _ _ _ (by omega))) ?_))
    refine head_loadRow rfl (by kernel_rfl) rfl mm (cells_lt (k := 3) (by decide) (fun _ => rfl) la k (by omega)) Tryz.isAgg56 Tryz.sizeOf56 (read_cells (k := 3) (fun _ => rfl) ((fun _ => rfl)) la FT0 k (by omega)) (.inl rfl) (by decide) ?_
    refine yf [_, _] rfl rfl Tryz.call70 (C_fMul _ _ _ _ _ _ _ _ x ((la.getD k FT0).x) (by omega) (by omega)) ?_; rintro v19 Ψ19 ⟨ad19, c19, bd19, d19, rfl, hle19, hlf19, rfl⟩
    have hl19 := lenQ_mul x ((la.getD k FT0).x)
    refine yp rfl (.indexAddr rfl rfl (ix_31 _ _ _ _ _ (by omega))) ?_
    refine head_store (b := b7) (cs := (cellsOf encF l).toArray) (cs' := (cellsOf encF (l.set k (FT.mk (x * ((la.getD k FT0).x)) ad19 c19 bd19 d19 hle19 hlf19))).toArray) (v := encF (FT.mk (x * ((la.getD k FT0).x)) ad19 c19 bd19 d19 hle19 hlf19)) rfl (by kernel_rfl) rfl rfl (set_cells0 (k := 3) (fun _ => rfl) l k (by omega) (FT.mk (x * ((la.getD k FT0).x)) ad19 c19 bd19 d19 hle19 hlf19)) uu Tryz.sizeOf56 rfl (cells_le (k := 3) (fun _ => rfl) l k (by omega)) rfl ?_
    refine yn (zr (zm rfl (zp (Pure1.cast (v' := (.int .i64 ((k + 1 : Nat) : Int))) (.add rfl rfl) (by show Value.int _ _ = Value.int _ _; congr 1)) (za rfl (zn ?_))))); intro a w h
    replace h := h.derive (R := AllF (l.set k (FT.mk (x * ((la.getD k FT0).x)) ad19 c19 bd19 d19 hle19 hlf19))) (fun X hX => AllF.set (hX _ mm) (hX _ mm) (hX _ mm))
    have hx2 : xs (l.set k (FT.mk (x * ((la.getD k FT0).x)) ad19 c19 bd19 d19 hle19 hlf19)) = scX x (xs la) (k + 1) := by rw [xs_set, hxl, scX, ← xs_get]
    exact ⟨k + 1, ⟨by omega, l.set k (FT.mk (x * ((la.getD k FT0).x)) ad19 c19 bd19 d19 hle19 hlf19), ⟨by rw [List.length_set]; exact hln, hx2⟩, by exact (h.factsSub (by simp)).sub sA⟩, by omega⟩
  · skip
    have heq_k : 169 = k := by have := of_decide_eq_false hc9; omega
    subst heq_k
    replace h := h.shareAll hS (cellsOf encF l) rfl
    refine gC h (ze (zs (zr (zm rfl (za rfl (zn (zt ?_))))))); clear h; intro a w h
    refine ret_of (Ψ := [Row (some ⟨b7, 0, none⟩) (cellsOf encF l), AllF l]) h (results1 h rfl (.tmp rfl)) ?_ (by simp)
    exact ⟨b7, l, rfl, ha.scaleP hx hda (by rw [hxl]; exact scX_len _ _ _) (by rw [hxl]; exact scX_all ha.len), by rw [hxl]; exact scX_all ha.len, rfl⟩
theorem C_tAdd (b1 : Nat) (la : List FT) (da Ka : Nat) (ha : Tb da Ka (xs la)) (hda : da ≤ 12) (hka : Ka ≤ 1000000000) (b2 : Nat) (lb : List FT) (db Kb : Nat) (hb : Tb db Kb (xs lb)) (hdb : db ≤ 12) (hkb : Kb ≤ 1000000000) : Ctr Tryz.prog 102 [.slice (some ⟨b1, 0, none⟩) 169 169, .slice (some ⟨b2, 0, none⟩) 169 169] [Row (some ⟨b1, 0, none⟩) (cellsOf encF la), AllF la, Row (some ⟨b2, 0, none⟩) (cellsOf encF lb), AllF lb] (PostT (max da db) (Ka + Kb + 2) (pol (xs la) ++ pol (xs lb))) := by
  refine fn_intro Tryz.func102 rfl Tryz.ntmps102 nb ?_
  intro S w0 a hS h
  refine gC h (zs (zr (za rfl (zn (zs (zr ?_)))))); clear h; intro a w h
  refine wpl_plain (op_callO h (vs := []) rfl Tryz.call105 (C_rZero) (by simp) (by decide) ?_); clear h; rintro v7 σ7 a w ⟨b7, rfl, rfl⟩ h
  replace h := h.derive (R := AllF (List.replicate 169 FT0)) (fun X hX => AllF.zeros 169 X _)
  refine gL h (za rfl (zn (zs (zs (zr (za rfl (zn (zb ?_)))))))); clear h; intro a w h
  refine wp_loop_inv (fun (k : Nat) a w => k ≤ 169 ∧ ∃ l, ((l.length = 169 ∧ xs l = addX (xs la) (xs lb) k)) ∧ St 25 S w0 [(0, .slice (some ⟨b1, 0, none⟩) 169 169), (1, .slice (some ⟨b2, 0, none⟩) 169 169), (4, .slice none 0 0), (5, .slice (some ⟨b7, 0, none⟩) 169 169), (6, .int .i64 ((k : Nat) : Int))] [(b7, .cells (cellsOf encF (l)).toArray 56 (0, 0))] [AllF l, Row (some ⟨b1, 0, none⟩) (cellsOf encF la), AllF la, Row (some ⟨b2, 0, none⟩) (cellsOf encF lb), AllF lb] a w) (fun k => 169 - k) 0 (⟨Nat.zero_le _, List.replicate 169 FT0, ⟨List.length_replicate, xs_zero⟩, by exact (h.factsSub (by simp)).sub (subL ⟨rfl, rfl, rfl, rfl, rfl, trivial⟩)⟩) ?_; clear h
  rintro k a w ⟨hi_k, l, ⟨hln, hxl⟩, h⟩
  refine gC h (zs (zs (zr (zm rfl (zp (.lss rfl rfl) (zn ?_)))))); clear h; intro a w h
  change Code.wp _ _ _ _ _
  refine cond_split h rfl (fun hc9 => ?_) (fun hc9 => ?_)
  · skip
    have hlt_k : k < 169 := by have := of_decide_eq_true hc9; omega
    have hn1 := ha.lenl
    have hm1 : la.getD k FT0 ∈ la := getD_mem _ (by omega)
    have hz1 := ha.sizl (k := k) (by omega)
    replace h := h.derive (R := Row (la.getD k FT0).a2 (List.map encn (dg ((la.getD k FT0).x.den - 1)))) (fun X hX => AllF.get2 (hX _ mm) hm1)
    replace h := h.derive (R := Row (la.getD k FT0).a1 (List.map encn (dg (la.getD k FT0).x.num.natAbs))) (fun X hX => AllF.get1 (hX _ mm) hm1)
    have hn2 := hb.lenl
    have hm2 : lb.getD k FT0 ∈ lb := getD_mem _ (by omega)
    have hz2 := hb.sizl (k := k) (by omega)
    replace h := h.derive (R := Row (lb.getD k FT0).a2 (List.map encn (dg ((lb.getD k FT0).x.den - 1)))) (fun X hX => AllF.get2 (hX _ mm) hm2)
    replace h := h.derive (R := Row (lb.getD k FT0).a1 (List.map encn (dg (lb.getD k FT0).x.num.natAbs))) (fun X hX => AllF.get1 (hX _ mm) hm2)
    refine gC h (zk (zs (zb (yD mixed_YtddhlkfpdjmplaaGreatDoor [0, 1, 2, 3, 4, 5, 6, 7, 8, 9, 10, 11, 12] (floatsOK_none (by kernel_rfl)) (yp rfl (.move rfl) (yp rfl (.move rfl) (yp rfl (.move rfl) (yp rfl (.move rfl) (yp rfl (.indexAddr rfl rfl (ix_31 _ _ _ _ _ (by omega))) ?_))))))))); clear h
    refine head_loadRow rfl (by kernel_rfl) rfl mm (cells_lt (k := 3) (by decide) (fun _ => rfl) la k (by omega)) Tryz.isAgg56 Tryz.sizeOf56 (read_cells (k := 3) (fun _ => rfl) ((fun _ => rfl)) la FT0 k (by omega)) (.inl rfl) (by decide) ?_
    refine yp rfl (.move rfl) (yp rfl (.move rfl) (yp rfl (.indexAddr rfl rfl (ix_31 _ _ _ _ _ (by omega))) ?_))
    refine head_loadRow rfl (by kernel_rfl) rfl mm (cells_lt (k := 3) (by decide) (fun _ => rfl) lb k (by omega)) Tryz.isAgg56 Tryz.sizeOf56 (read_cells (k := 3) (fun _ => rfl) ((fun _ => rfl)) lb FT0 k (by omega)) (.inl rfl) (by decide) ?_
    refine yf [_, _] rfl rfl Tryz.call65 (C_fAdd _ _ _ _ _ _ _ _ ((la.getD k FT0).x) ((lb.getD k FT0).x) (by omega) (by omega)) ?_; rintro v22 Ψ22 ⟨ad22, c22, bd22, d22, rfl, hle22, hlf22, rfl⟩
    have hl22 := lenQ_add ((la.getD k FT0).x) ((lb.getD k FT0).x)
    refine yp rfl (.indexAddr rfl rfl (ix_31 _ _ _ _ _ (by omega))) ?_
    refine head_store (b := b7) (cs := (cellsOf encF l).toArray) (cs' := (cellsOf encF (l.set k (FT.mk (((la.getD k FT0).x) + ((lb.getD k FT0).x)) ad22 c22 bd22 d22 hle22 hlf22))).toArray) (v := encF (FT.mk (((la.getD k FT0).x) + ((lb.getD k FT0).x)) ad22 c22 bd22 d22 hle22 hlf22)) rfl (by kernel_rfl) rfl rfl (set_cells0 (k := 3) (fun _ => rfl) l k (by omega) (FT.mk (((la.getD k FT0).x) + ((lb.getD k FT0).x)) ad22 c22 bd22 d22 hle22 hlf22)) uu Tryz.sizeOf56 rfl (cells_le (k := 3) (fun _ => rfl) l k (by omega)) rfl ?_
    refine yn (zr (zm rfl (zp (Pure1.cast (v' := (.int .i64 ((k + 1 : Nat) : Int))) (.add rfl rfl) (by show Value.int _ _ = Value.int _ _; congr 1)) (za rfl (zn ?_))))); intro a w h
    replace h := h.derive (R := AllF (l.set k (FT.mk (((la.getD k FT0).x) + ((lb.getD k FT0).x)) ad22 c22 bd22 d22 hle22 hlf22))) (fun X hX => AllF.set (hX _ mm) (hX _ mm) (hX _ mm))
    have hx2 : xs (l.set k (FT.mk (((la.getD k FT0).x) + ((lb.getD k FT0).x)) ad22 c22 bd22 d22 hle22 hlf22)) = addX (xs la) (xs lb) (k + 1) := by rw [xs_set, hxl, addX, ← xs_get, ← xs_get]
    exact ⟨k + 1, ⟨by omega, l.set k (FT.mk (((la.getD k FT0).x) + ((lb.getD k FT0).x)) ad22 c22 bd22 d22 hle22 hlf22), ⟨by rw [List.length_set]; exact hln, hx2⟩, by exact (h.factsSub (by simp)).sub sA⟩, by omega⟩
  · skip
    have heq_k : 169 = k := by have := of_decide_eq_false hc9; omega
    subst heq_k
    replace h := h.shareAll hS (cellsOf encF l) rfl
    refine gC h (ze (zs (zr (zm rfl (za rfl (zn (zt ?_))))))); clear h; intro a w h
    refine ret_of (Ψ := [Row (some ⟨b7, 0, none⟩) (cellsOf encF l), AllF l]) h (results1 h rfl (.tmp rfl)) ?_ (by simp)
    exact ⟨b7, l, rfl, ha.addP hb hda hdb (by rw [hxl]; exact addX_len _ _ _) (by rw [hxl]; exact addX_all ha.len hb.len), by rw [hxl]; exact addX_all ha.len hb.len, rfl⟩
theorem C_tMul (b1 : Nat) (la : List FT) (da Ka : Nat) (ha : Tb da Ka (xs la)) (hda : da ≤ 12) (hka : Ka ≤ 1000000000) (b2 : Nat) (lb : List FT) (db Kb : Nat) (hb : Tb db Kb (xs lb)) (hdb : db ≤ 12) (hkb : Kb ≤ 1000000000) (hd : da + db ≤ 12) : Ctr Tryz.prog 101 [.slice (some ⟨b1, 0, none⟩) 169 169, .slice (some ⟨b2, 0, none⟩) 169 169] [Row (some ⟨b1, 0, none⟩) (cellsOf encF la), AllF la, Row (some ⟨b2, 0, none⟩) (cellsOf encF lb), AllF lb] (PostT2 (da + db) (Ka + Kb) (mulL (pol (xs la)) (pol (xs lb)))) := by
  refine fn_intro Tryz.func101 rfl Tryz.ntmps101 nb ?_
  intro S w0 a hS h
  refine gC h (zs (zr (za rfl (za rfl (zn (zs (zr ?_))))))); clear h; intro a w h
  refine wpl_plain (op_callO h (vs := []) rfl Tryz.call105 (C_rZero) (by simp) (by decide) ?_); clear h; rintro v11 σ11 a w ⟨b11, rfl, rfl⟩ h
  replace h := h.derive (R := AllF (List.replicate 169 FT0)) (fun X hX => AllF.zeros 169 X _)
  refine gL h (za rfl (zn (zs (zs (zr (za rfl (zn (zb ?_)))))))); clear h; intro a w h
  refine wp_loop_inv (fun (k : Nat) a w => k ≤ 169 ∧ ∃ l, ((l.length = 169 ∧ Eqv (pol (xs l)) (qM (xs la) (xs lb) k 0))) ∧ St 73 S w0 [(0, .slice (some ⟨b1, 0, none⟩) 169 169), (1, .slice (some ⟨b2, 0, none⟩) 169 169), (6, .slice (some ⟨b11, 0, none⟩) 169 169), (7, .int .i64 ((k : Nat) : Int))] [(b11, .cells (cellsOf encF (l)).toArray 56 (0, 0))] [AllF l, Row (some ⟨b1, 0, none⟩) (cellsOf encF la), AllF la, Row (some ⟨b2, 0, none⟩) (cellsOf encF lb), AllF lb] a w) (fun k => 169 - k) 0 (⟨Nat.zero_le _, List.replicate 169 FT0, ⟨List.length_replicate, by rw [xs_zero]; exact fun φ => lin_pol_zero φ 169⟩, by exact (h.factsSub (by simp)).sub (subL ⟨rfl, rfl, rfl, rfl, trivial⟩)⟩) ?_; clear h
  rintro k a w ⟨hi_k, l, ⟨hln, hel⟩, h⟩
  refine gC h (zs (zs (zr (zm rfl (zp (.lss rfl rfl) (zn ?_)))))); clear h; intro a w h
  change Code.wp _ _ _ _ _
  refine cond_split h rfl (fun hc13 => ?_) (fun hc13 => ?_)
  · skip
    have hlt_k : k < 169 := by have := of_decide_eq_true hc13; omega
    have hn1 := ha.lenl
    have hm1 : la.getD k FT0 ∈ la := getD_mem _ (by omega)
    have hz1 := ha.sizl (k := k) (by omega)
    replace h := h.derive (R := Row (la.getD k FT0).a2 (List.map encn (dg ((la.getD k FT0).x.den - 1)))) (fun X hX => AllF.get2 (hX _ mm) hm1)
    replace h := h.derive (R := Row (la.getD k FT0).a1 (List.map encn (dg (la.getD k FT0).x.num.natAbs))) (fun X hX => AllF.get1 (hX _ mm) hm1)
    refine gC h (zk (zs (zb (zs (zr (za rfl (zn (zb ?_)))))))); clear h; intro a w h
    refine wp_loop_inv (fun (m : Nat) a w => m ≤ 169 ∧ ∃ l2, ((l2.length = 169 ∧ Eqv (pol (xs l2)) (qM (xs la) (xs lb) k m))) ∧ St 73 S w0 [(0, .slice (some ⟨b1, 0, none⟩) 169 169), (1, .slice (some ⟨b2, 0, none⟩) 169 169), (6, .slice (some ⟨b11, 0, none⟩) 169 169), (7, .int .i64 ((k : Nat) : Int)), (8, .int .i64 ((m : Nat) : Int))] [(b11, .cells (cellsOf encF (l2)).toArray 56 (0, 0))] [AllF l2, Row (la.getD k FT0).a1 (List.map encn (dg ((la.getD k FT0).x).num.natAbs)), Row (la.getD k FT0).a2 (List.map encn (dg (((la.getD k FT0).x).den - 1))), Row (some ⟨b1, 0, none⟩) (cellsOf encF la), AllF la, Row (some ⟨b2, 0, none⟩) (cellsOf encF lb), AllF lb] a w) (fun m => 169 - m) 0 (⟨Nat.zero_le _, l, ⟨hln, hel⟩, by exact (h.factsSub (by simp)).sub (subL ⟨rfl, rfl, rfl, rfl, rfl, trivial⟩)⟩) ?_; clear h
    rintro m a w ⟨hi_m, l2, ⟨hln2, hel2⟩, h⟩
    refine gC h (zs (zs (zr (zm rfl (zp (.lss rfl rfl) (zn ?_)))))); clear h; intro a w h
    change Code.wp _ _ _ _ _
    refine cond_split h rfl (fun hc17 => ?_) (fun hc17 => ?_)
    · skip
      have hlt_m : m < 169 := by have := of_decide_eq_true hc17; omega
      skip
      refine gC h (zk (zs (zb (zs (zs (zr (zm rfl (zm rfl (zp (.indexAddr rfl rfl (ix_31 _ _ _ _ _ (by omega))) (zD rfl mm (cells_lt (k := 3) (by decide) (fun _ => rfl) la k (by omega)) Tryz.isAgg56 Tryz.sizeOf56 (read_cells (k := 3) (fun _ => rfl) ((fun _ => rfl)) la FT0 k (by omega)) (.inl rfl) ?_)))))))))); clear h; intro a w h
      refine gL h (zv [_] rfl Tryz.call86 (C_fSign ((la.getD k FT0).x) _ _ _ _) (zp (.eql rfl rfl) ?_)); clear h; intro a w h
      refine by_bool h (fun hc25 h => ?_) (fun hc25 h => ?_)
      · skip
        have hsk : (xs la).getD k 0 = 0 ∨ (xs lb).getD m 0 = 0 := .inl (by rw [sgnz] at hc25; rw [← xs_get]; exact of_decide_eq_true hc25)
        refine gL h (zm rfl (zo 26 rfl rfl rfl (zo 26 rfl rfl rfl (zo 26 rfl rfl rfl (zo 26 rfl rfl rfl (zo 26 rfl rfl rfl (zo 26 rfl rfl rfl (zp (.pickT rfl rfl) (zn ?_))))))))); clear h; intro a w h
        change Code.wp _ _ _ _ _
        refine cond_true h rfl ?_
        refine gC h (ze (zr (zm rfl (zp (Pure1.cast (v' := (.int .i64 ((m + 1 : Nat) : Int))) (.add rfl rfl) (by show Value.int _ _ = Value.int _ _; congr 1)) (za rfl (zn ?_)))))); clear h; intro a w h
        skip
        exact ⟨m + 1, ⟨by omega, l2, ⟨hln2, qM_skip ha.len hb.len hlt_k hlt_m hsk hel2⟩, by exact (h.factsSub (by simp)).sub sA⟩, by omega⟩
      · skip
        have hne1 : ((la.getD k FT0).x) ≠ 0 := by rw [sgnz] at hc25; exact of_decide_eq_false hc25
        have hn2 := hb.lenl
        have hm2 : lb.getD m FT0 ∈ lb := getD_mem _ (by omega)
        have hz2 := hb.sizl (k := m) (by omega)
        replace h := h.derive (R := Row (lb.getD m FT0).a2 (List.map encn (dg ((lb.getD m FT0).x.den - 1)))) (fun X hX => AllF.get2 (hX _ mm) hm2)
        replace h := h.derive (R := Row (lb.getD m FT0).a1 (List.map encn (dg (lb.getD m FT0).x.num.natAbs))) (fun X hX => AllF.get1 (hX _ mm) hm2)
        refine gL h (zm rfl (zq 26 rfl rfl (.move rfl) (zq 26 rfl rfl (.move rfl) (zq 26 rfl rfl (.indexAddr rfl rfl (ix_31 _ _ _ _ _ (by omega))) ?_)))); clear h; intro a w h
        refine wpl_guard 26 h rfl rfl (op_loadRow h rfl mm (cells_lt (k := 3) (by decide) (fun _ => rfl) lb m (by omega)) Tryz.isAgg56 Tryz.sizeOf56 (read_cells (k := 3) (fun _ => rfl) ((fun _ => rfl)) lb FT0 m (by omega)) (.inl rfl) (by decide) ?_); clear h; intro a h
        refine wpl_guard 26 h rfl rfl (op_callV h (vs := [_]) rfl Tryz.call86 (C_fSign ((lb.getD m FT0).x) _ _ _ _) (by decide) ?_); clear h; intro a w h
        refine gL h (zq 26 rfl rfl (.eql rfl rfl) ?_); clear h; intro a w h
        refine by_bool h (fun hc32 h => ?_) (fun hc32 h => ?_)
        · skip
          have hsk : (xs la).getD k 0 = 0 ∨ (xs lb).getD m 0 = 0 := .inr (by rw [sgnz] at hc32; rw [← xs_get]; exact of_decide_eq_true hc32)
          refine gL h (zp (.pickF rfl rfl) (zn ?_)); clear h; intro a w h
          change Code.wp _ _ _ _ _
          refine cond_true h rfl ?_
          refine gC h (ze (zr (zm rfl (zp (Pure1.cast (v' := (.int .i64 ((m + 1 : Nat) : Int))) (.add rfl rfl) (by show Value.int _ _ = Value.int _ _; congr 1)) (za rfl (zn ?_)))))); clear h; intro a w h
          skip
          exact ⟨m + 1, ⟨by omega, l2, ⟨hln2, qM_skip ha.len hb.len hlt_k hlt_m hsk hel2⟩, by exact (h.factsSub (by simp)).sub sA⟩, by omega⟩
        · skip
          have hne2 : ((lb.getD m FT0).x) ≠ 0 := by rw [sgnz] at hc32; exact of_decide_eq_false hc32
          have hg1 := ha.degl hlt_k hne1
          have hg2 := hb.degl hlt_m hne2
          have hq1 := Nat.mod_lt k (show 0 < 13 by decide)
          have hq2 := Nat.mod_lt m (show 0 < 13 by decide)
          have hm3 : l2.getD (13 * (k / 13 + m / 13) + (k % 13 + m % 13)) FT0 ∈ l2 := getD_mem _ (by omega)
          have hz3 : lenQ (l2.getD (13 * (k / 13 + m / 13) + (k % 13 + m % 13)) FT0).x ≤ Ka + Kb := by
            rw [xs_get]; exact pol_siz (Hb.of_eqv (qM_Hb ha.hgt hb.hgt (k := k) (m := m) (by rw [ha.len]; exact hlt_k)) hel2) (by rw [xs_len]; omega)
          replace h := h.derive (R := Row (l2.getD (13 * (k / 13 + m / 13) + (k % 13 + m % 13)) FT0).a2 (List.map encn (dg ((l2.getD (13 * (k / 13 + m / 13) + (k % 13 + m % 13)) FT0).x.den - 1)))) (fun X hX => AllF.get2 (hX _ mm) hm3)
          replace h := h.derive (R := Row (l2.getD (13 * (k / 13 + m / 13) + (k % 13 + m % 13)) FT0).a1 (List.map encn (dg (l2.getD (13 * (k / 13 + m / 13) + (k % 13 + m % 13)) FT0).x.num.natAbs))) (fun X hX => AllF.get1 (hX _ mm) hm3)
          refine gL h (zp (.pickF rfl rfl) (zn ?_)); clear h; intro a w h
          change Code.wp _ _ _ _ _
          refine cond_false h rfl ?_
          refine gC h (zk (zs (zr (zm rfl (zp (Pure1.cast (v' := .int .i64 (((k) / 13 : Nat) : Int)) (.binOp rfl rfl (fun _ => run_quo _ _ _ _ _ (by decide))) (by rw [show (13 : Int) = ((13 : Nat) : Int) from rfl, tdiv_nat, wrap_i64 _ (by omega) (by omega)])) (zm rfl (zp (Pure1.cast (v' := .int .i64 (((m) / 13 : Nat) : Int)) (.binOp rfl rfl (fun _ => run_quo _ _ _ _ _ (by decide))) (by rw [show (13 : Int) = ((13 : Nat) : Int) from rfl, tdiv_nat, wrap_i64 _ (by omega) (by omega)])) (zp (Pure1.cast (v' := .int .i64 ((k / 13 + m / 13 : Nat) : Int)) (Pure1.cast (v' := (.int .i64 ((((k) / 13) + ((m) / 13) : Nat) : Int))) (.add rfl rfl) (by show Value.int _ _ = Value.int _ _; congr 1)) (by show Value.int _ _ = Value.int _ _; congr 1)) (zm rfl (zp (Pure1.cast (v' := .int .i64 (((k) % 13 : Nat) : Int)) (.binOp rfl rfl (fun _ => run_rem _ _ _ _ _ (by decide))) (by rw [show (13 : Int) = ((13 : Nat) : Int) from rfl, tmod_nat])) (zm rfl (zp (Pure1.cast (v' := .int .i64 (((m) % 13 : Nat) : Int)) (.binOp rfl rfl (fun _ => run_rem _ _ _ _ _ (by decide))) (by rw [show (13 : Int) = ((13 : Nat) : Int) from rfl, tmod_nat])) (zp (Pure1.cast (v' := .int .i64 ((k % 13 + m % 13 : Nat) : Int)) (Pure1.cast (v' := (.int .i64 ((((k) % 13) + ((m) % 13) : Nat) : Int))) (.add rfl rfl) (by show Value.int _ _ = Value.int _ _; congr 1)) (by show Value.int _ _ = Value.int _ _; congr 1)) (za rfl (za rfl (zn (zs (zs (zr (zm rfl (zm rfl (zp (Pure1.cast (v' := .int .i64 ((k / 13 + m / 13 + (k % 13 + m % 13) : Nat) : Int)) (Pure1.cast (v' := (.int .i64 (((k / 13 + m / 13) + (k % 13 + m % 13) : Nat) : Int))) (.add rfl rfl) (by show Value.int _ _ = Value.int _ _; congr 1)) (by show Value.int _ _ = Value.int _ _; congr 1)) (zp (.gtr rfl rfl) ?_))))))))))))))))))))))); clear h; intro a w h
          refine by_bool h (fun hc47 h => (by exfalso; have := of_decide_eq_true hc47; omega)) (fun hc47 h => ?_)
          refine wpList_nil ?_
          change Code.wp _ _ _ _ _
          refine cond_false h rfl ?_
          refine gC h (zk (yD mixed_YtddhlkfpdjmplaaGreatDoor [0, 1, 2, 3, 4, 5, 6, 7, 8, 9, 10, 11, 12, 13, 14, 15, 16, 17, 18, 19, 20, 21, 22, 23] (floatsOK_none (by kernel_rfl)) (yp rfl (.move rfl) (yp rfl (.move rfl) (yp rfl (Pure1.cast (v' := (.int .i64 ((13 * (k / 13 + m / 13) : Nat) : Int))) (.mul rfl rfl) (by show Value.int _ _ = Value.int _ _; congr 1)) (yp rfl (.move rfl) (yp rfl (Pure1.cast (v' := (.int .i64 (((13 * (k / 13 + m / 13)) + (k % 13 + m % 13) : Nat) : Int))) (.add rfl rfl) (by show Value.int _ _ = Value.int _ _; congr 1)) (yp rfl (.move rfl) (yp rfl (.move rfl) (yp rfl (Pure1.cast (v' := (.int .i64 ((13 * (k / 13 + m / 13) : Nat) : Int))) (.mul rfl rfl) (by show Value.int _ _ = Value.int _ _; congr 1)) (yp rfl (.move rfl) (yp rfl (Pure1.cast (v' := (.int .i64 (((13 * (k / 13 + m / 13)) + (k % 13 + m % 13) : Nat) : Int))) (.add rfl rfl) (by show Value.int _ _ = Value.int _ _; congr 1)) (yp rfl (.indexAddr rfl rfl (ix_31 _ _ _ _ _ (by omega))) (yd rfl rfl mm Tryz.isAgg56 Tryz.sizeOf56 (read_cells0 (k := 3) (fun _ => rfl) ((fun _ => rfl)) l2 FT0 ((13 * (k / 13 + m / 13)) + (k % 13 + m % 13)) (by omega)) ?_)))))))))))))); clear h
          refine yp rfl (.move rfl) (yp rfl (.move rfl) (yp rfl (.indexAddr rfl rfl (ix_31 _ _ _ _ _ (by omega))) ?_))
          refine head_loadRow rfl (by kernel_rfl) rfl mm (cells_lt (k := 3) (by decide) (fun _ => rfl) la k (by omega)) Tryz.isAgg56 Tryz.sizeOf56 (read_cells (k := 3) (fun _ => rfl) ((fun _ => rfl)) la FT0 k (by omega)) (.inl rfl) (by decide) ?_
          refine yp rfl (.move rfl) (yp rfl (.move rfl) (yp rfl (.indexAddr rfl rfl (ix_31 _ _ _ _ _ (by omega))) ?_))
          refine head_loadRow rfl (by kernel_rfl) rfl mm (cells_lt (k := 3) (by decide) (fun _ => rfl) lb m (by omega)) Tryz.isAgg56 Tryz.sizeOf56 (read_cells (k := 3) (fun _ => rfl) ((fun _ => rfl)) lb FT0 m (by omega)) (.inl rfl) (by decide) ?_
          refine yf [_, _] rfl rfl Tryz.call70 (C_fMul _ _ _ _ _ _ _ _ ((la.getD k FT0).x) ((lb.getD m FT0).x) (by omega) (by omega)) ?_; rintro v69 Ψ69 ⟨ad69, c69, bd69, d69, rfl, hle69, hlf69, rfl⟩
          have hl69 := lenQ_mul ((la.getD k FT0).x) ((lb.getD m FT0).x)
          refine yf [_, _] rfl rfl Tryz.call65 (C_fAdd _ _ _ _ _ _ _ _ ((l2.getD ((13 * (k / 13 + m / 13)) + (k % 13 + m % 13)) FT0).x) (((la.getD k FT0).x) * ((lb.getD m FT0).x)) (by omega) (by omega)) ?_; rintro v70 Ψ70 ⟨ad70, c70, bd70, d70, rfl, hle70, hlf70, rfl⟩
          have hl70 := lenQ_add ((l2.getD ((13 * (k / 13 + m / 13)) + (k % 13 + m % 13)) FT0).x) (((la.getD k FT0).x) * ((lb.getD m FT0).x))
          refine yp rfl (.indexAddr rfl rfl (ix_31 _ _ _ _ _ (by omega))) ?_
          refine head_store (b := b11) (cs := (cellsOf encF l2).toArray) (cs' := (cellsOf encF (l2.set ((13 * (k / 13 + m / 13)) + (k % 13 + m % 13)) (FT.mk (((l2.getD ((13 * (k / 13 + m / 13)) + (k % 13 + m % 13)) FT0).x) + (((la.getD k FT0).x) * ((lb.getD m FT0).x))) ad70 c70 bd70 d70 hle70 hlf70))).toArray) (v := encF (FT.mk (((l2.getD ((13 * (k / 13 + m / 13)) + (k % 13 + m % 13)) FT0).x) + (((la.getD k FT0).x) * ((lb.getD m FT0).x))) ad70 c70 bd70 d70 hle70 hlf70)) rfl (by kernel_rfl) rfl rfl (set_cells0 (k := 3) (fun _ => rfl) l2 ((13 * (k / 13 + m / 13)) + (k % 13 + m % 13)) (by omega) (FT.mk (((l2.getD ((13 * (k / 13 + m / 13)) + (k % 13 + m % 13)) FT0).x) + (((la.getD k FT0).x) * ((lb.getD m FT0).x))) ad70 c70 bd70 d70 hle70 hlf70)) uu Tryz.sizeOf56 rfl (cells_le (k := 3) (fun _ => rfl) l2 ((13 * (k / 13 + m / 13)) + (k % 13 + m % 13)) (by omega)) rfl ?_
          refine yn (zr (zm rfl (zp (Pure1.cast (v' := (.int .i64 ((m + 1 : Nat) : Int))) (.add rfl rfl) (by show Value.int _ _ = Value.int _ _; congr 1)) (za rfl (zn ?_))))); intro a w h
          replace h := h.derive (R := AllF (l2.set ((13 * (k / 13 + m / 13)) + (k % 13 + m % 13)) (FT.mk (((l2.getD ((13 * (k / 13 + m / 13)) + (k % 13 + m % 13)) FT0).x) + (((la.getD k FT0).x) * ((lb.getD m FT0).x))) ad70 c70 bd70 d70 hle70 hlf70))) (fun X hX => AllF.set (hX _ mm) (hX _ mm) (hX _ mm))
          have hx2 : Eqv (pol (xs (l2.set ((13 * (k / 13 + m / 13)) + (k % 13 + m % 13)) (FT.mk (((l2.getD ((13 * (k / 13 + m / 13)) + (k % 13 + m % 13)) FT0).x) + (((la.getD k FT0).x) * ((lb.getD m FT0).x))) ad70 c70 bd70 d70 hle70 hlf70)))) (qM (xs la) (xs lb) k (m + 1)) := by
            have h9 := qM_step (k := k) (m := m) ha.len hb.len (by rw [xs_len]; exact hln2) hlt_k hlt_m rfl rfl (by omega) hel2
            rw [xs_set]; rw [← xs_get, ← xs_get, ← xs_get] at h9; exact h9
          exact ⟨m + 1, ⟨by omega, l2.set ((13 * (k / 13 + m / 13)) + (k % 13 + m % 13)) (FT.mk (((l2.getD ((13 * (k / 13 + m / 13)) + (k % 13 + m % 13)) FT0).x) + (((la.getD k FT0).x) * ((lb.getD m FT0).x))) ad70 c70 bd70 d70 hle70 hlf70), ⟨by rw [List.length_set]; exact hln2, hx2⟩, by exact (h.factsSub (by simp)).sub sA⟩, by omega⟩
    · skip
      have heq_m : 169 = m := by have := of_decide_eq_false hc17; omega
      subst heq_m
      refine gC h (ze (zr (zm rfl (zp (Pure1.cast (v' := (.int .i64 ((k + 1 : Nat) : Int))) (.add rfl rfl) (by show Value.int _ _ = Value.int _ _; congr 1)) (za rfl (zn ?_)))))); clear h; intro a w h
      exact ⟨k + 1, ⟨by omega, l2, ⟨hln2, qM_row ha.len hb.len hlt_k hel2⟩, by exact (h.factsSub (by simp)).sub sA⟩, by omega⟩
  · skip
    have heq_k : 169 = k := by have := of_decide_eq_false hc13; omega
    subst heq_k
    replace h := h.shareAll hS (cellsOf encF l) rfl
    refine gC h (ze (zs (zr (zm rfl (za rfl (za rfl (zn (zt ?_)))))))); clear h; intro a w h
    refine ret_of (Ψ := [Row (some ⟨b11, 0, none⟩) (cellsOf encF l), AllF l]) h (results2 h rfl (.tmp rfl) (.tmp rfl)) ?_ (by simp)
    have hE := qM_end ha.len hel
    exact ⟨b11, l, rfl, ha.mulP hb hd (by rw [xs_len]; exact hln) hE, hE, rfl⟩
theorem C_tPow (b1 : Nat) (la : List FT) (da Ka : Nat) (ha : Tb da Ka (xs la)) (hda : da ≤ 12) (n : Nat) (hn : n ≤ 12) (hd : n * da ≤ 12) (hk2 : Ka ≤ 10000000) : Ctr Tryz.prog 106 [.slice (some ⟨b1, 0, none⟩) 169 169, .int .i64 ((n : Nat) : Int)] [Row (some ⟨b1, 0, none⟩) (cellsOf encF la), AllF la] (PostT2 (n * da) (n * Ka + 4) (powL (pol (xs la)) n)) := by
  refine fn_intro Tryz.func106 rfl Tryz.ntmps106 nb ?_
  intro S w0 a hS h
  refine gC h (zs (zr (za rfl (za rfl (zn (zs (zs (zr (zm rfl (zp (.lss rfl rfl) ?_)))))))))); clear h; intro a w h
  refine by_bool h (fun hc11 h => (by exfalso; have := of_decide_eq_true hc11; omega)) (fun hc11 h => ?_)
  refine gL h (zm rfl (zq 12 rfl rfl (.move rfl) (zq 12 rfl rfl (.gtr rfl rfl) ?_))); clear h; intro a w h
  refine by_bool h (fun hc14 h => (by exfalso; have := of_decide_eq_true hc14; omega)) (fun hc14 h => ?_)
  refine gL h (zp (.pickF rfl rfl) (zn ?_)); clear h; intro a w h
  change Code.wp _ _ _ _ _
  refine cond_false h rfl ?_
  refine gC h (zk (zs (zr (zf [] rfl Tryz.call163 (C_tOne) ?_)))); clear h; rintro v17 Ψ17 ⟨b17, l17, rfl, ht17, he17, rfl⟩ a w h
  refine gL h (za rfl (zn (zs (zs (zr (za rfl (zn (zb ?_)))))))); clear h; intro a w h
  refine wp_loop_inv (fun (i : Nat) a w => i ≤ n ∧ ∃ b l, ((Tb (i * da) (i * Ka + 4) (xs l) ∧ Eqv (pol (xs l)) (powL (pol (xs la)) i))) ∧ St 35 S w0 [(0, .slice (some ⟨b1, 0, none⟩) 169 169), (1, .int .i64 ((n : Nat) : Int)), (6, .slice (some ⟨b, 0, none⟩) 169 169), (7, .int .i64 ((i : Nat) : Int))] [] [Row (some ⟨b, 0, none⟩) (cellsOf encF l), AllF l, Row (some ⟨b1, 0, none⟩) (cellsOf encF la), AllF la] a w) (fun i => n - i) 0 (⟨Nat.zero_le _, b17, l17, ⟨by rw [Nat.zero_mul, Nat.zero_mul]; exact ht17, he17⟩, by exact (h.factsSub (by simp)).sub (subL ⟨rfl, rfl, rfl, rfl, trivial⟩)⟩) ?_; clear h
  rintro i a w ⟨hi_i, b, l, ⟨ht, he⟩, h⟩
  refine gC h (zs (zs (zr (zm rfl (zm rfl (zp (.lss rfl rfl) (zn ?_))))))); clear h; intro a w h
  change Code.wp _ _ _ _ _
  refine cond_split h rfl (fun hc20 => ?_) (fun hc20 => ?_)
  · skip
    have hlt_i : i < n := by have := of_decide_eq_true hc20; omega
    have hid : i * da + da ≤ 12 := Nat.le_trans (by rw [← Nat.succ_mul]; exact Nat.mul_le_mul_right da hlt_i) hd
    have hid2 : i * da ≤ 12 := by omega
    have hik : i * Ka + 4 ≤ 1000000000 := by have := Nat.mul_le_mul (show i ≤ 12 by omega) hk2; omega
    refine gC h (zk (zs (zb (zs (zr (zm rfl (zm rfl (zf [_, _] rfl Tryz.call101 (C_tMul b l (i * da) (i * Ka + 4) ht hid2 hik b1 la da Ka ha hda (by omega) hid) ?_)))))))); clear h; rintro v26 Ψ26 ⟨b26, l26, rfl, ht26, he26, rfl⟩ a w h
    refine gL h (zm rfl (zp (.extract rfl (fun _ => rfl)) (zp (.extract rfl (fun _ => rfl)) (za rfl (za rfl (zn (zs (zs (zr (zm rfl (zp (.neq rfl rfl) (zn ?_)))))))))))); clear h; intro a w h
    change Code.wp _ _ _ _ _
    refine cond_split h rfl (fun hc30 => (by exfalso; exact absurd hc30 (by decide))) (fun hc30 => ?_)
    refine gC h (zk (zr (zm rfl (za rfl (zn (zr (zm rfl (zp (Pure1.cast (v' := (.int .i64 ((i + 1 : Nat) : Int))) (.add rfl rfl) (by show Value.int _ _ = Value.int _ _; congr 1)) (za rfl (zn ?_)))))))))); clear h; intro a w h
    exact ⟨i + 1, ⟨by omega, b26, l26, ⟨by rw [Nat.add_mul, Nat.one_mul, Nat.add_mul, Nat.one_mul]; exact ht26.mono (Nat.le_refl _) (by omega), he26.trans (he.mul Eqv.rfl')⟩, by exact (h.factsSub (by simp)).sub sA⟩, by omega⟩
  · skip
    have heq_i : n = i := by have := of_decide_eq_false hc20; omega
    subst heq_i
    refine gC h (ze (zs (zr (zm rfl (za rfl (za rfl (zn (zt ?_)))))))); clear h; intro a w h
    refine ret_of (Ψ := [Row (some ⟨b, 0, none⟩) (cellsOf encF l), AllF l]) h (results2 h rfl (.tmp rfl) (.tmp rfl)) ?_ (by simp)
    exact ⟨b, l, rfl, ht, he, rfl⟩
theorem C_tShift (b1 : Nat) (la : List FT) (da Ka : Nat) (ha : Tb da Ka (xs la)) (hda : da ≤ 12) (hka : Ka ≤ 1000000000) (p1 p3 : Option Addr) (p2 p4 : Nat) (q1 q3 : Option Addr) (q2 q4 : Nat) (r1 r3 : Option Addr) (r2 r4 : Nat) (s1 s3 : Option Addr) (s2 s4 : Nat) (t1 t3 : Option Addr) (t2 t4 : Nat) (u1 u3 : Option Addr) (u2 u4 : Nat) (ax bx cx ay dy cy : Rat) (Kx : Nat) (hkax : lenQ ax ≤ Kx) (hkbx : lenQ bx ≤ Kx) (hkcx : lenQ cx ≤ Kx) (hkay : lenQ ay ≤ Kx) (hkdy : lenQ dy ≤ Kx) (hkcy : lenQ cy ≤ Kx) (hp2 : (dg ax.num.natAbs).length ≤ p2) (hp4 : (dg (ax.den - 1)).length ≤ p4) (hq2 : (dg bx.num.natAbs).length ≤ q2) (hq4 : (dg (bx.den - 1)).length ≤ q4) (hr2 : (dg cx.num.natAbs).length ≤ r2) (hr4 : (dg (cx.den - 1)).length ≤ r4) (hs2 : (dg ay.num.natAbs).length ≤ s2) (hs4 : (dg (ay.den - 1)).length ≤ s4) (ht2 : (dg dy.num.natAbs).length ≤ t2) (ht4 : (dg (dy.den - 1)).length ≤ t4) (hu2 : (dg cy.num.natAbs).length ≤ u2) (hu4 : (dg (cy.den - 1)).length ≤ u4) (hkk : Ka ≤ 100000) (hkx : Kx ≤ 10000) : Ctr Tryz.prog 63 [.slice (some ⟨b1, 0, none⟩) 169 169, fV ax p1 p2 p3 p4, fV bx q1 q2 q3 q4, fV cx r1 r2 r3 r4, fV ay s1 s2 s3 s4, fV dy t1 t2 t3 t4, fV cy u1 u2 u3 u4] [Row (some ⟨b1, 0, none⟩) (cellsOf encF la), AllF la, Row p1 (List.map encn (dg ax.num.natAbs)), Row p3 (List.map encn (dg (ax.den - 1))), Row q1 (List.map encn (dg bx.num.natAbs)), Row q3 (List.map encn (dg (bx.den - 1))), Row r1 (List.map encn (dg cx.num.natAbs)), Row r3 (List.map encn (dg (cx.den - 1))), Row s1 (List.map encn (dg ay.num.natAbs)), Row s3 (List.map encn (dg (ay.den - 1))), Row t1 (List.map encn (dg dy.num.natAbs)), Row t3 (List.map encn (dg (dy.den - 1))), Row u1 (List.map encn (dg cy.num.natAbs)), Row u3 (List.map encn (dg (cy.den - 1)))] (PostT da (169 * KT da Ka Kx + 1) (sbL (ln ax bx cx) (ln ay dy cy) (pol (xs la)))) := by
  refine fn_intro Tryz.func63 rfl Tryz.ntmps63 nb ?_
  intro S w0 a hS h
  refine gC h (zs (zr (zx rfl fun b8 => zx rfl fun b9 => zx rfl fun b10 => zx rfl fun b11 => zx rfl fun b12 => zx rfl fun b13 => za rfl (zn (zs (zr ?_)))))); clear h; intro a w h
  refine wpl_plain (op_callO h (vs := []) rfl Tryz.call105 (C_rZero) (by simp) (by decide) ?_); clear h; rintro v23 σ23 a w ⟨b23, rfl, rfl⟩ h
  replace h := h.derive (R := AllF (List.replicate 169 FT0)) (fun X hX => AllF.zeros 169 X _)
  replace h := h.shareAll hS (cellsOf encF (List.replicate 169 FT0)) rfl
  refine gL h (za rfl (zn (zs (zs (zr (za rfl (zn (zb ?_)))))))); clear h; intro a w h
  refine wp_loop_inv (fun (k : Nat) a w => k ≤ 169 ∧ ∃ b l, ((Tb da (k * KT da Ka Kx + 1) (xs l) ∧ Eqv (pol (xs l)) (sbL (ln ax bx cx) (ln ay dy cy) ((pol (xs la)).take k)))) ∧ St 69 S w0 [(0, .slice (some ⟨b1, 0, none⟩) 169 169), (8, .pointer (some ⟨b8, 0, none⟩)), (9, .pointer (some ⟨b9, 0, none⟩)), (10, .pointer (some ⟨b10, 0, none⟩)), (11, .pointer (some ⟨b11, 0, none⟩)), (12, .pointer (some ⟨b12, 0, none⟩)), (13, .pointer (some ⟨b13, 0, none⟩)), (14, .slice none 0 0), (15, .slice (some ⟨b, 0, none⟩) 169 169), (16, .int .i64 ((k : Nat) : Int))] [(b13, .cells (Value.cells (.agg #[.bool (decide (cy.num < 0)), .slice u1 (dg cy.num.natAbs).length u2, .slice u3 (dg (cy.den - 1)).length u4])) 56 (0, 0)), (b12, .cells (Value.cells (.agg #[.bool (decide (dy.num < 0)), .slice t1 (dg dy.num.natAbs).length t2, .slice t3 (dg (dy.den - 1)).length t4])) 56 (0, 0)), (b11, .cells (Value.cells (.agg #[.bool (decide (ay.num < 0)), .slice s1 (dg ay.num.natAbs).length s2, .slice s3 (dg (ay.den - 1)).length s4])) 56 (0, 0)), (b10, .cells (Value.cells (.agg #[.bool (decide (cx.num < 0)), .slice r1 (dg cx.num.natAbs).length r2, .slice r3 (dg (cx.den - 1)).length r4])) 56 (0, 0)), (b9, .cells (Value.cells (.agg #[.bool (decide (bx.num < 0)), .slice q1 (dg bx.num.natAbs).length q2, .slice q3 (dg (bx.den - 1)).length q4])) 56 (0, 0)), (b8, .cells (Value.cells (.agg #[.bool (decide (ax.num < 0)), .slice p1 (dg ax.num.natAbs).length p2, .slice p3 (dg (ax.den - 1)).length p4])) 56 (0, 0))] [Row (some ⟨b, 0, none⟩) (cellsOf encF l), AllF l, Row (some ⟨b1, 0, none⟩) (cellsOf encF la), AllF la, Row p1 (List.map encn (dg ax.num.natAbs)), Row p3 (List.map encn (dg (ax.den - 1))), Row q1 (List.map encn (dg bx.num.natAbs)), Row q3 (List.map encn (dg (bx.den - 1))), Row r1 (List.map encn (dg cx.num.natAbs)), Row r3 (List.map encn (dg (cx.den - 1))), Row s1 (List.map encn (dg ay.num.natAbs)), Row s3 (List.map encn (dg (ay.den - 1))), Row t1 (List.map encn (dg dy.num.natAbs)), Row t3 (List.map encn (dg (dy.den - 1))), Row u1 (List.map encn (dg cy.num.natAbs)), Row u3 (List.map encn (dg (cy.den - 1)))] a w) (fun k => 169 - k) 0 (⟨Nat.zero_le _, b23, List.replicate 169 FT0, ⟨by rw [xs_zero, Nat.zero_mul]; exact Tb.zero da, by rw [xs_zero]; exact fun φ => lin_pol_zero φ 169⟩, by exact (h.factsSub (by simp)).sub (subL ⟨rfl, rfl, rfl, rfl, rfl, rfl, rfl, rfl, rfl, rfl, trivial⟩)⟩) ?_; clear h
  rintro k a w ⟨hi_k, b, l, ⟨ht, he⟩, h⟩
  refine gC h (zs (zs (zr (zm rfl (zp (.lss rfl rfl) (zn ?_)))))); clear h; intro a w h
  change Code.wp _ _ _ _ _
  refine cond_split h rfl (fun hc25 => ?_) (fun hc25 => ?_)
  · skip
    have hlt_k : k < 169 := by have := of_decide_eq_true hc25; omega
    have hn1 := ha.lenl
    have hm1 : la.getD k FT0 ∈ la := getD_mem _ (by omega)
    have hz1 := ha.sizl (k := k) (by omega)
    replace h := h.derive (R := Row (la.getD k FT0).a2 (List.map encn (dg ((la.getD k FT0).x.den - 1)))) (fun X hX => AllF.get2 (hX _ mm) hm1)
    replace h := h.derive (R := Row (la.getD k FT0).a1 (List.map encn (dg (la.getD k FT0).x.num.natAbs))) (fun X hX => AllF.get1 (hX _ mm) hm1)
    refine gC h (zk (zs (zb (zs (zs (zr (zm rfl (zm rfl (zp (.indexAddr rfl rfl (ix_31 _ _ _ _ _ (by omega))) (zD rfl mm (cells_lt (k := 3) (by decide) (fun _ => rfl) la k (by omega)) Tryz.isAgg56 Tryz.sizeOf56 (read_cells (k := 3) (fun _ => rfl) ((fun _ => rfl)) la FT0 k (by omega)) (.inl rfl) ?_)))))))))); clear h; intro a w h
    refine gL h (zv [_] rfl Tryz.call86 (C_fSign ((la.getD k FT0).x) _ _ _ _) (zp (.eql rfl rfl) ?_)); clear h; intro a w h
    refine by_bool h (fun hc33 h => ?_) (fun hc33 h => ?_)
    · skip
      have hsk : ((xs la).getD k 0) = 0 := by rw [sgnz] at hc33; rw [← xs_get]; exact of_decide_eq_true hc33
      refine wpList_nil ?_
      change Code.wp _ _ _ _ _
      refine cond_true h rfl ?_
      refine gC h (ze (zr (zm rfl (zp (Pure1.cast (v' := (.int .i64 ((k + 1 : Nat) : Int))) (.add rfl rfl) (by show Value.int _ _ = Value.int _ _; congr 1)) (za rfl (zn ?_)))))); clear h; intro a w h
      exact ⟨k + 1, ⟨by omega, b, l, ⟨ht.mono (Nat.le_refl _) (by rw [Nat.add_mul]; omega), he.trans (sbl_skip (by rw [ha.len]; exact hlt_k) hsk).symm⟩, by exact (h.factsSub (by simp)).sub sA⟩, by omega⟩
    · skip
      have hne1 : (la.getD k FT0).x ≠ 0 := by rw [sgnz] at hc33; exact of_decide_eq_false hc33
      have hg1 := ha.degl hlt_k hne1
      have hq1 := Nat.mod_lt k (show 0 < 13 by decide)
      have hb1 : (k / 13) * (3 * Kx + 4) ≤ 12 * 30004 := Nat.mul_le_mul (by omega) (by omega)
      have hb2 : (k % 13) * (3 * Kx + 4) ≤ 12 * 30004 := Nat.mul_le_mul (by omega) (by omega)
      have hb3 : k * KT da Ka Kx ≤ 169 * (100000 + 12 * 30004 + 20) := Nat.mul_le_mul (by omega) (by have := Nat.mul_le_mul hda (show 3 * Kx + 4 ≤ 30004 by omega); unfold KT; omega)
      have hb4 : (k / 13) * (3 * Kx + 4) + (k % 13) * (3 * Kx + 4) ≤ da * (3 * Kx + 4) := by rw [← Nat.add_mul]; exact Nat.mul_le_mul_right _ hg1
      refine wpList_nil ?_
      change Code.wp _ _ _ _ _
      refine cond_false h rfl ?_
      refine gC h (zk (zs (zr (zd rfl mr Tryz.isAgg56 Tryz.sizeOf56 (rd_3_0_3 _ _ _) ?_)))); clear h; intro a w h
      refine gL h (zd rfl mr Tryz.isAgg56 Tryz.sizeOf56 (rd_3_0_3 _ _ _) ?_); clear h; intro a w h
      refine gL h (zd rfl mr Tryz.isAgg56 Tryz.sizeOf56 (rd_3_0_3 _ _ _) ?_); clear h; intro a w h
      refine gL h (zf [_, _, _] rfl Tryz.call125 (C_tLine _ _ _ _ _ _ _ _ _ _ _ _ ax bx cx Kx hkax hkbx hkcx hp2 hp4 hq2 hq4 hr2 hr4) ?_); clear h; rintro v38 Ψ38 ⟨b38, l38, rfl, ht38, he38, rfl⟩ a w h
      refine gL h (zm rfl (zp (Pure1.cast (v' := .int .i64 (((k) / 13 : Nat) : Int)) (.binOp rfl rfl (fun _ => run_quo _ _ _ _ _ (by decide))) (by rw [show (13 : Int) = ((13 : Nat) : Int) from rfl, tdiv_nat, wrap_i64 _ (by omega) (by omega)])) (zf [_, _] rfl Tryz.call106 (C_tPow b38 l38 1 (3 * Kx + 4) ht38 (by decide) (k / 13) (by omega) (by omega) (by omega)) ?_))); clear h; rintro v41 Ψ41 ⟨b41, l41, rfl, ht41, he41, rfl⟩ a w h
      rw [Nat.mul_one] at ht41
      refine gL h (zm rfl (zp (.extract rfl (fun _ => rfl)) (zp (.extract rfl (fun _ => rfl)) (za rfl (za rfl (zn (zs (zr (zd rfl mr Tryz.isAgg56 Tryz.sizeOf56 (rd_3_0_3 _ _ _) ?_))))))))); clear h; intro a w h
      refine gL h (zd rfl mr Tryz.isAgg56 Tryz.sizeOf56 (rd_3_0_3 _ _ _) ?_); clear h; intro a w h
      refine gL h (zd rfl mr Tryz.isAgg56 Tryz.sizeOf56 (rd_3_0_3 _ _ _) ?_); clear h; intro a w h
      refine gL h (zf [_, _, _] rfl Tryz.call125 (C_tLine _ _ _ _ _ _ _ _ _ _ _ _ ay dy cy Kx hkay hkdy hkcy hs2 hs4 ht2 ht4 hu2 hu4) ?_); clear h; rintro v48 Ψ48 ⟨b48, l48, rfl, ht48, he48, rfl⟩ a w h
      refine gL h (zm rfl (zp (Pure1.cast (v' := .int .i64 (((k) % 13 : Nat) : Int)) (.binOp rfl rfl (fun _ => run_rem _ _ _ _ _ (by decide))) (by rw [show (13 : Int) = ((13 : Nat) : Int) from rfl, tmod_nat])) (zf [_, _] rfl Tryz.call106 (C_tPow b48 l48 1 (3 * Kx + 4) ht48 (by decide) (k % 13) (by omega) (by omega) (by omega)) ?_))); clear h; rintro v51 Ψ51 ⟨b51, l51, rfl, ht51, he51, rfl⟩ a w h
      rw [Nat.mul_one] at ht51
      refine gL h (zm rfl (zp (.extract rfl (fun _ => rfl)) (zp (.extract rfl (fun _ => rfl)) (za rfl (za rfl (zn (zs (zr (zm rfl (zm rfl (zf [_, _] rfl Tryz.call101 (C_tMul b41 l41 _ _ ht41 (by omega) (by omega) b51 l51 _ _ ht51 (by omega) (by omega) (by omega)) ?_))))))))))); clear h; rintro v57 Ψ57 ⟨b57, l57, rfl, ht57, he57, rfl⟩ a w h
      refine gL h (zm rfl (zp (.extract rfl (fun _ => rfl)) (zp (.extract rfl (fun _ => rfl)) (za rfl (za rfl (zn (zr (zm rfl (zm rfl (zm rfl (zm rfl (zp (.indexAddr rfl rfl (ix_31 _ _ _ _ _ (by omega))) (zD rfl mm (cells_lt (k := 3) (by decide) (fun _ => rfl) la k (by omega)) Tryz.isAgg56 Tryz.sizeOf56 (read_cells (k := 3) (fun _ => rfl) ((fun _ => rfl)) la FT0 k (by omega)) (.inl rfl) ?_))))))))))))); clear h; intro a w h
      refine gL h (zf [_, _] rfl Tryz.call110 (C_tScale b57 l57 _ _ ht57 (by omega) (by omega) _ _ _ _ Ka (la.getD k FT0).x hz1 (by omega)) ?_); clear h; rintro v66 Ψ66 ⟨b66, l66, rfl, ht66, he66, rfl⟩ a w h
      refine gL h (zf [_, _] rfl Tryz.call102 (C_tAdd b l da (k * KT da Ka Kx + 1) ht hda (by omega) b66 l66 _ _ ht66 (by omega) (by omega)) ?_); clear h; rintro v67 Ψ67 ⟨b67, l67, rfl, ht67, he67, rfl⟩ a w h
      refine gL h (za rfl (zn (zr (zm rfl (zp (Pure1.cast (v' := (.int .i64 ((k + 1 : Nat) : Int))) (.add rfl rfl) (by show Value.int _ _ = Value.int _ _; congr 1)) (za rfl (zn ?_))))))); clear h; intro a w h
      exact ⟨k + 1, ⟨by omega, b67, l67, ⟨ht67.mono (Nat.max_le.2 ⟨Nat.le_refl _, hg1⟩) (by rw [Nat.add_mul, Nat.one_mul]; have : KT da Ka Kx = Ka + da * (3 * Kx + 4) + 20 := rfl; omega), he67.trans ((he.append (he66.trans ((he57.trans ((he41.trans (he38.pow _)).mul (he51.trans (he48.pow _)))).scale _))).trans (by rw [xs_get]; exact (sbl_step (by rw [ha.len]; exact hlt_k)).symm))⟩, by exact (h.factsSub (by simp)).sub (subL ⟨rfl, rfl, rfl, rfl, rfl, rfl, rfl, rfl, rfl, rfl, trivial⟩)⟩, by omega⟩
  · skip
    have heq_k : 169 = k := by have := of_decide_eq_false hc25; omega
    subst heq_k
    refine gC h (ze (zs (zr (zm rfl (za rfl (zn (zt ?_))))))); clear h; intro a w h
    refine ret_of (Ψ := [Row (some ⟨b, 0, none⟩) (cellsOf encF l), AllF l]) h (results1 h rfl (.tmp rfl)) ?_ (by simp)
    exact ⟨b, l, rfl, ht, by rw [← sbl_all ha.len]; exact he, rfl⟩
structure TF where
  i : Int
  j : Int
  f : FT
def TF0 : TF := ⟨0, 0, FT0⟩
abbrev encTF (t : TF) : Value := .agg #[.int .i64 t.i, .int .i64 t.j, .bool (decide (t.f.x.num < 0)), .slice t.f.a1 (dg t.f.x.num.natAbs).length t.f.c1, .slice t.f.a2 (dg (t.f.x.den - 1)).length t.f.c2]
def tmF (t : TF) : Tm := ⟨t.i.toNat, t.j.toNat, t.f.x⟩
def OkIJ (t : TF) : Prop := (-9223372036854775808 ≤ t.i ∧ t.i ≤ 9223372036854775807) ∧ (-9223372036854775808 ≤ t.j ∧ t.j ≤ 9223372036854775807)
def erF (t : TF) : Int := if t.i < 0 ∨ t.j < 0 then 1 else if t.i > 12 ∨ t.j > 12 ∨ t.i + t.j > 12 then 9 else 0
def erL : List TF → Int
  | [] => 0
  | t :: l => if erF t = 0 then erL l else erF t
theorem erL_step (l : List TF) (k : Nat) (h : k < l.length) : erL (l.drop k) = if erF (l.getD k TF0) = 0 then erL (l.drop (k + 1)) else erF (l.getD k TF0) := by
  rw [List.drop_eq_getElem_cons h, erL]; simp [List.getD, h]
theorem takeTF (l : List TF) {k : Nat} (h : k < l.length) : l.take (k + 1) = l.take k ++ [l.getD k TF0] := by
  rw [List.take_add_one, List.getElem?_eq_getElem h]; simp [List.getD, h]
def PostTO (l : List TF) (v : Value) (Ψ : List SPred) : Prop := ∃ b lo, v = .tuple #[.slice (some ⟨b, 0, none⟩) 169 169, .int .i64 (erL l)] ∧ lo.length = 169 ∧ Eqv (pol (xs lo)) (if erL l = 0 then l.map tmF else []) ∧ Ψ = [Row (some ⟨b, 0, none⟩) (cellsOf encF lo), AllF lo]
theorem tf_Hb {K : Nat} {l : List TF} (h : ∀ t ∈ l, lenQ t.f.x ≤ K) (n : Nat) (hn : n ≤ l.length) : Hb (l.length * (K + 1) + 1) ((l.take n).map tmF) := by
  refine (Hb.of_KL (k := K) (fun t ht => ?_)).mono (by rw [List.length_map, List.length_take]; have := Nat.mul_le_mul_right (K + 1) (Nat.min_le_right n l.length); omega)
  obtain ⟨s, hs, rfl⟩ := List.mem_map.1 ht
  exact h s (List.mem_of_mem_take hs)
theorem tf_add {l : List TF} {X : List Rat} {k m : Nat} (hk : k < l.length) (hX : X.length = 169) (h1 : 0 ≤ (l.getD k TF0).i) (h2 : 0 ≤ (l.getD k TF0).j) (h3 : (l.getD k TF0).i + (l.getD k TF0).j ≤ 12) (hm : m = 13 * (l.getD k TF0).i.toNat + (l.getD k TF0).j.toNat)
    (h : Eqv (pol X) ((l.take k).map tmF)) : Eqv (pol (X.set m (X.getD m 0 + (l.getD k TF0).f.x))) ((l.take (k + 1)).map tmF) := fun φ => by
  rw [lin_pol_set φ _ (by omega), h φ, takeTF l hk, List.map_append, lin_append]
  rw [show m / 13 = (l.getD k TF0).i.toNat by omega, show m % 13 = (l.getD k TF0).j.toNat by omega]
  simp only [List.map_cons, List.map_nil, lin, tmF]; grind
theorem C_tOf (l : List TF) (ad : Option Addr) (c K : Nat) (hn : l.length ≤ 1000) (hK : ∀ t ∈ l, lenQ t.f.x ≤ K) (hkk : K ≤ 100000) (hij : ∀ t ∈ l, OkIJ t) : Ctr Tryz.prog 54 [.slice ad l.length c] [Row ad (cellsOf encTF l), AllF (l.map TF.f)] (PostTO l) := by
  refine fn_intro Tryz.func54 rfl Tryz.ntmps54 nb ?_
  intro S w0 a hS h
  refine gC h (zs (zr (za rfl (za rfl (zn (zs (zr ?_))))))); clear h; intro a w h
  refine wpl_plain (op_callO h (vs := []) rfl Tryz.call105 (C_rZero) (by simp) (by decide) ?_); clear h; rintro v7 σ7 a w ⟨b7, rfl, rfl⟩ h
  replace h := h.derive (R := AllF (List.replicate 169 FT0)) (fun X hX => AllF.zeros 169 X _)
  refine gL h (za rfl (zn (zs (zs (zr (za rfl (zn (zb ?_)))))))); clear h; intro a w h
  refine wp_loop_inv (fun (i : Nat) a w => i ≤ l.length ∧ ∃ l2, ((l2.length = 169 ∧ erL l = erL (l.drop i) ∧ Eqv (pol (xs l2)) ((l.take i).map tmF))) ∧ St 84 S w0 [(0, .slice ad l.length c), (4, .slice (some ⟨b7, 0, none⟩) 169 169), (5, .int .i64 ((i : Nat) : Int))] [(b7, .cells (cellsOf encF (l2)).toArray 56 (0, 0))] [AllF l2, Row ad (cellsOf encTF l), AllF (l.map TF.f)] a w) (fun i => l.length - i) 0 (⟨Nat.zero_le _, List.replicate 169 FT0, ⟨List.length_replicate, rfl, by rw [xs_zero]; exact fun φ => lin_pol_zero φ 169⟩, by exact (h.factsSub (by simp)).sub (subL ⟨rfl, rfl, rfl, trivial⟩)⟩) ?_; clear h
  rintro i a w ⟨hi_i, l2, ⟨hln, hie, hel⟩, h⟩
  refine gC h (zs (zs (zr (zm rfl (zm rfl (zp (.builtin [_] rfl (len_slice_102 _ _ _)) (zp (.lss rfl rfl) (zn ?_)))))))); clear h; intro a w h
  change Code.wp _ _ _ _ _
  refine cond_split h rfl (fun hc11 => ?_) (fun hc11 => ?_)
  · skip
    have hlt_i : i < l.length := by have := of_decide_eq_true hc11; omega
    obtain ⟨B_ad, O_ad, rfl⟩ := h.row_addr (ad := ad) (M := cellsOf encTF l) mm (by intro e; have := congrArg List.length e; rw [cellsOf_length (k := 5) (fun _ => rfl)] at this; simp only [List.length_nil, Nat.mul_eq_zero] at this; omega)
    have hme : l.getD i TF0 ∈ l := getD_mem _ hlt_i
    have hmf : (l.getD i TF0).f ∈ l.map TF.f := List.mem_map_of_mem hme
    have hz1 := hK _ hme
    obtain ⟨⟨hi1, hi2⟩, hj1, hj2⟩ := hij _ hme
    replace h := h.derive (R := Row ((l.getD i TF0).f).a2 (List.map encn (dg (((l.getD i TF0).f).x.den - 1)))) (fun X hX => AllF.get2 (hX _ mm) hmf)
    replace h := h.derive (R := Row ((l.getD i TF0).f).a1 (List.map encn (dg ((l.getD i TF0).f).x.num.natAbs))) (fun X hX => AllF.get1 (hX _ mm) hmf)
    replace h := h.derive (R := Row (l2.getD ((13 * (l.getD i TF0).i.toNat + (l.getD i TF0).j.toNat)) FT0).a2 (List.map encn (dg ((l2.getD ((13 * (l.getD i TF0).i.toNat + (l.getD i TF0).j.toNat)) FT0).x.den - 1)))) (fun X hX => AllF.g2 (hX _ mm) ((13 * (l.getD i TF0).i.toNat + (l.getD i TF0).j.toNat)))
    replace h := h.derive (R := Row (l2.getD ((13 * (l.getD i TF0).i.toNat + (l.getD i TF0).j.toNat)) FT0).a1 (List.map encn (dg (l2.getD ((13 * (l.getD i TF0).i.toNat + (l.getD i TF0).j.toNat)) FT0).x.num.natAbs))) (fun X hX => AllF.g1 (hX _ mm) ((13 * (l.getD i TF0).i.toNat + (l.getD i TF0).j.toNat)))
    refine gC h (zk (zs (zb (zs (zs (zr (zm rfl (zm rfl (zp (.indexAddr rfl rfl (ix_102 _ _ _ _ _ (by omega))) (zp (Pure1.cast (v' := .pointer (some ⟨B_ad, O_ad + (i * 5 + 0), none⟩)) (.fieldAddr rfl (fa_105_0 _ _)) (by rw [Nat.add_assoc])) (zD rfl mm (at_lt (k := 5) (enc := encTF) (fun _ => rfl) l i 0 (by omega) (by decide)) Tryz.isAgg3 Tryz.sizeOf3 (read_at (k := 5) (enc := encTF) (fun _ => rfl) l TF0 i (by omega) false 1 0 _ (by decide) (by decide) rfl) (.inr rfl) ?_))))))))))); clear h; intro a w h
    refine gL h (zp (.lss rfl rfl) ?_); clear h; intro a w h
    refine by_bool h (fun hc19 h => ?_) (fun hc19 h => ?_)
    · skip
      have hx19 : (l.getD i TF0).i < 0 := of_decide_eq_true hc19
      have hE : erF (l.getD i TF0) = 1 := if_pos (by omega)
      refine gL h (zm rfl (zo 20 rfl rfl rfl (zo 20 rfl rfl rfl (zo 20 rfl rfl rfl (zo 20 rfl rfl rfl (zo 20 rfl rfl rfl (zo 20 rfl rfl rfl (zp (.pickT rfl rfl) (zn ?_))))))))); clear h; intro a w h
      change Code.wp _ _ _ _ _
      refine cond_true h rfl ?_
      refine wp_seq (wp_region_lit ?_)
      refine wpl_plain (op_callO h (vs := []) rfl Tryz.call105 (C_rZero) (by simp) (by decide) ?_); clear h; rintro v28 σ28 a w ⟨b28, rfl, rfl⟩ h
      replace h := h.derive (R := AllF (List.replicate 169 FT0)) (fun X hX => AllF.zeros 169 X _)
      refine gL h (za rfl (za rfl (zn (zt ?_)))); clear h; intro a w h
      replace h := h.shareAll hS (cellsOf encF (List.replicate 169 FT0)) rfl
      have her : erL l = 1 := by rw [hie, erL_step l i hlt_i, if_neg (by rw [hE]; decide), hE]
      exact ret_of (Ψ := [Row (some ⟨b28, 0, none⟩) (cellsOf encF (List.replicate 169 FT0)), AllF (List.replicate 169 FT0)]) h (results2 h rfl (.tmp rfl) (.tmp rfl)) ⟨b28, _, by rw [her], List.length_replicate, by rw [xs_zero, if_neg (by rw [her]; decide)]; exact fun φ => lin_pol_zero φ 169, rfl⟩ (by simp)
    · skip
      have hx19 : ¬ (l.getD i TF0).i < 0 := of_decide_eq_false hc19
      refine gL h (zm rfl (zq 20 rfl rfl (.move rfl) (zq 20 rfl rfl (.move rfl) (zq 20 rfl rfl (.indexAddr rfl rfl (ix_102 _ _ _ _ _ (by omega))) (zq 20 rfl rfl (Pure1.cast (v' := .pointer (some ⟨B_ad, O_ad + (i * 5 + 1), none⟩)) (.fieldAddr rfl (fa_105_1 _ _)) (by rw [Nat.add_assoc])) ?_))))); clear h; intro a w h
      refine wpl_guard 20 h rfl rfl (op_loadRow h rfl mm (at_lt (k := 5) (enc := encTF) (fun _ => rfl) l i 1 (by omega) (by decide)) Tryz.isAgg3 Tryz.sizeOf3 (read_at (k := 5) (enc := encTF) (fun _ => rfl) l TF0 i (by omega) false 1 1 _ (by decide) (by decide) rfl) (.inr rfl) (by decide) ?_); clear h; intro a h
      refine gL h (zq 20 rfl rfl (.lss rfl rfl) ?_); clear h; intro a w h
      refine by_bool h (fun hc26 h => ?_) (fun hc26 h => ?_)
      · skip
        have hx26 : (l.getD i TF0).j < 0 := of_decide_eq_true hc26
        have hE : erF (l.getD i TF0) = 1 := if_pos (by omega)
        refine gL h (zp (.pickF rfl rfl) (zn ?_)); clear h; intro a w h
        change Code.wp _ _ _ _ _
        refine cond_true h rfl ?_
        refine wp_seq (wp_region_lit ?_)
        refine wpl_plain (op_callO h (vs := []) rfl Tryz.call105 (C_rZero) (by simp) (by decide) ?_); clear h; rintro v28 σ28 a w ⟨b28, rfl, rfl⟩ h
        replace h := h.derive (R := AllF (List.replicate 169 FT0)) (fun X hX => AllF.zeros 169 X _)
        refine gL h (za rfl (za rfl (zn (zt ?_)))); clear h; intro a w h
        replace h := h.shareAll hS (cellsOf encF (List.replicate 169 FT0)) rfl
        have her : erL l = 1 := by rw [hie, erL_step l i hlt_i, if_neg (by rw [hE]; decide), hE]
        exact ret_of (Ψ := [Row (some ⟨b28, 0, none⟩) (cellsOf encF (List.replicate 169 FT0)), AllF (List.replicate 169 FT0)]) h (results2 h rfl (.tmp rfl) (.tmp rfl)) ⟨b28, _, by rw [her], List.length_replicate, by rw [xs_zero, if_neg (by rw [her]; decide)]; exact fun φ => lin_pol_zero φ 169, rfl⟩ (by simp)
      · skip
        have hx26 : ¬ (l.getD i TF0).j < 0 := of_decide_eq_false hc26
        refine gL h (zp (.pickF rfl rfl) (zn ?_)); clear h; intro a w h
        change Code.wp _ _ _ _ _
        refine cond_false h rfl ?_
        refine gC h (zk (zs (zs (yD mixed_YtddhlkfpdjmplaaGreatDoor [0, 1, 2, 3, 4, 5, 6, 7, 8, 9, 10, 11, 12, 13, 14, 15, 16, 17, 18, 19, 20, 21, 22, 23, 24, 25, 26, 27] (floatsOK_none (by kernel_rfl)) (yp rfl (.move rfl) (yp rfl (.move rfl) (yp rfl (.indexAddr rfl rfl (ix_102 _ _ _ _ _ (by omega))) (yp rfl (Pure1.cast (v' := .pointer (some ⟨B_ad, O_ad + (i * 5 + 0), none⟩)) (.fieldAddr rfl (fa_105_0 _ _)) (by rw [Nat.add_assoc])) ?_)))))))); clear h
        refine head_loadRow rfl (by kernel_rfl) rfl mm (at_lt (k := 5) (enc := encTF) (fun _ => rfl) l i 0 (by omega) (by decide)) Tryz.isAgg3 Tryz.sizeOf3 (read_at (k := 5) (enc := encTF) (fun _ => rfl) l TF0 i (by omega) false 1 0 _ (by decide) (by decide) rfl) (.inr rfl) (by decide) ?_
        refine yp rfl (.gtr rfl rfl) ?_
        refine head_bool (fun hc34  => ?_) (fun hc34  => ?_)
        · skip
          have hx34 : (l.getD i TF0).i > 12 := of_decide_eq_true hc34
          have hE : erF (l.getD i TF0) = 9 := by unfold erF; rw [if_neg (by omega), if_pos (by omega)]
          refine yp rfl (.move rfl) (yo 35 rfl rfl rfl rfl (yo 35 rfl rfl rfl rfl (yo 35 rfl rfl rfl rfl (yo 35 rfl rfl rfl rfl (yo 35 rfl rfl rfl rfl (yo 35 rfl rfl rfl rfl (yp rfl (.pickT rfl rfl) (yp rfl (.move rfl) (yo 43 rfl rfl rfl rfl (yo 43 rfl rfl rfl rfl (yo 43 rfl rfl rfl rfl (yo 43 rfl rfl rfl rfl (yo 43 rfl rfl rfl rfl (yo 43 rfl rfl rfl rfl (yo 43 rfl rfl rfl rfl (yo 43 rfl rfl rfl rfl (yo 43 rfl rfl rfl rfl (yo 43 rfl rfl rfl rfl (yo 43 rfl rfl rfl rfl (yo 43 rfl rfl rfl rfl (yp rfl (.pickT rfl rfl) (yn ?_)))))))))))))))))))))); intro a w h
          change Code.wp _ _ _ _ _
          refine cond_true h rfl ?_
          refine wp_seq (wp_region_lit ?_)
          refine wpl_plain (op_callO h (vs := []) rfl Tryz.call105 (C_rZero) (by simp) (by decide) ?_); clear h; rintro v57 σ57 a w ⟨b57, rfl, rfl⟩ h
          replace h := h.derive (R := AllF (List.replicate 169 FT0)) (fun X hX => AllF.zeros 169 X _)
          refine gL h (za rfl (za rfl (zn (zt ?_)))); clear h; intro a w h
          replace h := h.shareAll hS (cellsOf encF (List.replicate 169 FT0)) rfl
          have her : erL l = 9 := by rw [hie, erL_step l i hlt_i, if_neg (by rw [hE]; decide), hE]
          exact ret_of (Ψ := [Row (some ⟨b57, 0, none⟩) (cellsOf encF (List.replicate 169 FT0)), AllF (List.replicate 169 FT0)]) h (results2 h rfl (.tmp rfl) (.tmp rfl)) ⟨b57, _, by rw [her], List.length_replicate, by rw [xs_zero, if_neg (by rw [her]; decide)]; exact fun φ => lin_pol_zero φ 169, rfl⟩ (by simp)
        · skip
          have hx34 : ¬ (l.getD i TF0).i > 12 := of_decide_eq_false hc34
          refine yp rfl (.move rfl) (yq rfl rfl rfl (.move rfl) (yq rfl rfl rfl (.move rfl) (yq rfl rfl rfl (.indexAddr rfl rfl (ix_102 _ _ _ _ _ (by omega))) (yq rfl rfl rfl (Pure1.cast (v' := .pointer (some ⟨B_ad, O_ad + (i * 5 + 1), none⟩)) (.fieldAddr rfl (fa_105_1 _ _)) (by rw [Nat.add_assoc])) ?_))))
          refine head_loadRowG rfl rfl rfl (by kernel_rfl) rfl mm (at_lt (k := 5) (enc := encTF) (fun _ => rfl) l i 1 (by omega) (by decide)) Tryz.isAgg3 Tryz.sizeOf3 (read_at (k := 5) (enc := encTF) (fun _ => rfl) l TF0 i (by omega) false 1 1 _ (by decide) (by decide) rfl) (.inr rfl) (by decide) ?_
          refine yq rfl rfl rfl (.gtr rfl rfl) ?_
          refine head_bool (fun hc41  => ?_) (fun hc41  => ?_)
          · skip
            have hx41 : (l.getD i TF0).j > 12 := of_decide_eq_true hc41
            have hE : erF (l.getD i TF0) = 9 := by unfold erF; rw [if_neg (by omega), if_pos (by omega)]
            refine yp rfl (.pickF rfl rfl) (yp rfl (.move rfl) (yo 43 rfl rfl rfl rfl (yo 43 rfl rfl rfl rfl (yo 43 rfl rfl rfl rfl (yo 43 rfl rfl rfl rfl (yo 43 rfl rfl rfl rfl (yo 43 rfl rfl rfl rfl (yo 43 rfl rfl rfl rfl (yo 43 rfl rfl rfl rfl (yo 43 rfl rfl rfl rfl (yo 43 rfl rfl rfl rfl (yo 43 rfl rfl rfl rfl (yo 43 rfl rfl rfl rfl (yp rfl (.pickT rfl rfl) (yn ?_))))))))))))))); intro a w h
            change Code.wp _ _ _ _ _
            refine cond_true h rfl ?_
            refine wp_seq (wp_region_lit ?_)
            refine wpl_plain (op_callO h (vs := []) rfl Tryz.call105 (C_rZero) (by simp) (by decide) ?_); clear h; rintro v57 σ57 a w ⟨b57, rfl, rfl⟩ h
            replace h := h.derive (R := AllF (List.replicate 169 FT0)) (fun X hX => AllF.zeros 169 X _)
            refine gL h (za rfl (za rfl (zn (zt ?_)))); clear h; intro a w h
            replace h := h.shareAll hS (cellsOf encF (List.replicate 169 FT0)) rfl
            have her : erL l = 9 := by rw [hie, erL_step l i hlt_i, if_neg (by rw [hE]; decide), hE]
            exact ret_of (Ψ := [Row (some ⟨b57, 0, none⟩) (cellsOf encF (List.replicate 169 FT0)), AllF (List.replicate 169 FT0)]) h (results2 h rfl (.tmp rfl) (.tmp rfl)) ⟨b57, _, by rw [her], List.length_replicate, by rw [xs_zero, if_neg (by rw [her]; decide)]; exact fun φ => lin_pol_zero φ 169, rfl⟩ (by simp)
          · skip
            have hx41 : ¬ (l.getD i TF0).j > 12 := of_decide_eq_false hc41
            refine yp rfl (.pickF rfl rfl) (yp rfl (.move rfl) (yq rfl rfl rfl (.move rfl) (yq rfl rfl rfl (.move rfl) (yq rfl rfl rfl (.indexAddr rfl rfl (ix_102 _ _ _ _ _ (by omega))) (yq rfl rfl rfl (Pure1.cast (v' := .pointer (some ⟨B_ad, O_ad + (i * 5 + 0), none⟩)) (.fieldAddr rfl (fa_105_0 _ _)) (by rw [Nat.add_assoc])) ?_)))))
            refine head_loadRowG rfl rfl rfl (by kernel_rfl) rfl mm (at_lt (k := 5) (enc := encTF) (fun _ => rfl) l i 0 (by omega) (by decide)) Tryz.isAgg3 Tryz.sizeOf3 (read_at (k := 5) (enc := encTF) (fun _ => rfl) l TF0 i (by omega) false 1 0 _ (by decide) (by decide) rfl) (.inr rfl) (by decide) ?_
            refine yq rfl rfl rfl (.move rfl) (yq rfl rfl rfl (.move rfl) (yq rfl rfl rfl (.indexAddr rfl rfl (ix_102 _ _ _ _ _ (by omega))) (yq rfl rfl rfl (Pure1.cast (v' := .pointer (some ⟨B_ad, O_ad + (i * 5 + 1), none⟩)) (.fieldAddr rfl (fa_105_1 _ _)) (by rw [Nat.add_assoc])) ?_)))
            refine head_loadRowG rfl rfl rfl (by kernel_rfl) rfl mm (at_lt (k := 5) (enc := encTF) (fun _ => rfl) l i 1 (by omega) (by decide)) Tryz.isAgg3 Tryz.sizeOf3 (read_at (k := 5) (enc := encTF) (fun _ => rfl) l TF0 i (by omega) false 1 1 _ (by decide) (by decide) rfl) (.inr rfl) (by decide) ?_
            refine yq rfl rfl rfl (.add rfl rfl) (yq rfl rfl rfl (.gtr rfl rfl) ?_)
            refine head_bool (fun hc55  => ?_) (fun hc55  => ?_)
            · skip
              have hx55 : (l.getD i TF0).i + (l.getD i TF0).j > 12 := of_decide_eq_true hc55
              have hE : erF (l.getD i TF0) = 9 := by unfold erF; rw [if_neg (by omega), if_pos (by omega)]
              refine yp rfl (.pickF rfl rfl) (yn ?_); intro a w h
              change Code.wp _ _ _ _ _
              refine cond_true h rfl ?_
              refine wp_seq (wp_region_lit ?_)
              refine wpl_plain (op_callO h (vs := []) rfl Tryz.call105 (C_rZero) (by simp) (by decide) ?_); clear h; rintro v57 σ57 a w ⟨b57, rfl, rfl⟩ h
              replace h := h.derive (R := AllF (List.replicate 169 FT0)) (fun X hX => AllF.zeros 169 X _)
              refine gL h (za rfl (za rfl (zn (zt ?_)))); clear h; intro a w h
              replace h := h.shareAll hS (cellsOf encF (List.replicate 169 FT0)) rfl
              have her : erL l = 9 := by rw [hie, erL_step l i hlt_i, if_neg (by rw [hE]; decide), hE]
              exact ret_of (Ψ := [Row (some ⟨b57, 0, none⟩) (cellsOf encF (List.replicate 169 FT0)), AllF (List.replicate 169 FT0)]) h (results2 h rfl (.tmp rfl) (.tmp rfl)) ⟨b57, _, by rw [her], List.length_replicate, by rw [xs_zero, if_neg (by rw [her]; decide)]; exact fun φ => lin_pol_zero φ 169, rfl⟩ (by simp)
            · skip
              have hx55 : ¬ (l.getD i TF0).i + (l.getD i TF0).j > 12 := of_decide_eq_false hc55
              have hE : erF (l.getD i TF0) = 0 := by unfold erF; rw [if_neg (by omega), if_neg (by omega)]
              have hn2 : l2.length = 169 := hln
              have hm2 : l2.getD (13 * (l.getD i TF0).i.toNat + (l.getD i TF0).j.toNat) FT0 ∈ l2 := getD_mem _ (by omega)
              have hz2 : lenQ (l2.getD (13 * (l.getD i TF0).i.toNat + (l.getD i TF0).j.toNat) FT0).x ≤ l.length * (K + 1) + 1 := by rw [xs_get]; exact pol_siz (Hb.of_eqv (tf_Hb hK i (by omega)) hel) (by rw [xs_len]; omega)
              have hlk : l.length * (K + 1) ≤ 1000 * 100001 := Nat.mul_le_mul hn (by omega)
              refine yp rfl (.pickF rfl rfl) (yn ?_); intro a w h
              change Code.wp _ _ _ _ _
              refine cond_false h rfl ?_
              refine gC h (zk (zs (yD mixed_YtddhlkfpdjmplaaGreatDoor [0, 1, 2, 3, 4, 5, 6, 7, 8, 9, 10, 11, 12] (floatsOK_none (by kernel_rfl)) (yp rfl (.move rfl) (yp rfl (.move rfl) (yp rfl (.indexAddr rfl rfl (ix_102 _ _ _ _ _ (by omega))) (yp rfl (Pure1.cast (v' := .pointer (some ⟨B_ad, O_ad + (i * 5 + 0), none⟩)) (.fieldAddr rfl (fa_105_0 _ _)) (by rw [Nat.add_assoc])) ?_))))))); clear h
              refine head_loadRow rfl (by kernel_rfl) rfl mm (at_lt (k := 5) (enc := encTF) (fun _ => rfl) l i 0 (by omega) (by decide)) Tryz.isAgg3 Tryz.sizeOf3 (read_at (k := 5) (enc := encTF) (fun _ => rfl) l TF0 i (by omega) false 1 0 _ (by decide) (by decide) rfl) (.inr rfl) (by decide) ?_
              refine yp rfl (Pure1.cast (v' := .int .i64 ((13 * (l.getD i TF0).i.toNat : Nat) : Int)) (.mul rfl rfl) (by show Value.int _ _ = Value.int _ _; congr 1; omega)) (yp rfl (.move rfl) (yp rfl (.move rfl) (yp rfl (.indexAddr rfl rfl (ix_102 _ _ _ _ _ (by omega))) (yp rfl (Pure1.cast (v' := .pointer (some ⟨B_ad, O_ad + (i * 5 + 1), none⟩)) (.fieldAddr rfl (fa_105_1 _ _)) (by rw [Nat.add_assoc])) ?_))))
              refine head_loadRow rfl (by kernel_rfl) rfl mm (at_lt (k := 5) (enc := encTF) (fun _ => rfl) l i 1 (by omega) (by decide)) Tryz.isAgg3 Tryz.sizeOf3 (read_at (k := 5) (enc := encTF) (fun _ => rfl) l TF0 i (by omega) false 1 1 _ (by decide) (by decide) rfl) (.inr rfl) (by decide) ?_
              refine yp rfl (Pure1.cast (v' := .int .i64 ((13 * (l.getD i TF0).i.toNat + (l.getD i TF0).j.toNat : Nat) : Int)) (.add rfl rfl) (by show Value.int _ _ = Value.int _ _; congr 1; omega)) (yp rfl (.assign rfl) (yn (yD mixed_YtddhlkfpdjmplaaGreatDoor [0, 1, 2, 3, 4, 5, 6, 7, 8, 9, 10, 11, 12, 13] (floatsOK_none (by kernel_rfl)) (yp rfl (.move rfl) (yp rfl (.move rfl) (yp rfl (.move rfl) (yp rfl (.move rfl) (yp rfl (.indexAddr rfl rfl (ix_31 _ _ _ _ _ (by omega))) (yd rfl rfl mm Tryz.isAgg56 Tryz.sizeOf56 (read_cells0 (k := 3) (fun _ => rfl) ((fun _ => rfl)) l2 FT0 (13 * (l.getD i TF0).i.toNat + (l.getD i TF0).j.toNat) (by omega)) ?_)))))))))
              refine yp rfl (.move rfl) (yp rfl (.move rfl) (yp rfl (.indexAddr rfl rfl (ix_102 _ _ _ _ _ (by omega))) (yp rfl (Pure1.cast (v' := .pointer (some ⟨B_ad, O_ad + (i * 5 + 2), none⟩)) (.fieldAddr rfl (fa_105_2 _ _)) (by rw [Nat.add_assoc])) ?_)))
              refine head_loadRow rfl (by kernel_rfl) rfl mm (at_lt (k := 5) (enc := encTF) (fun _ => rfl) l i 2 (by omega) (by decide)) Tryz.isAgg56 Tryz.sizeOf56 (read_at (k := 5) (enc := encTF) (fun _ => rfl) l TF0 i (by omega) true 3 2 _ (by decide) (by decide) rfl) (.inl rfl) (by decide) ?_
              refine yf [_, _] rfl rfl Tryz.call65 (C_fAdd _ _ _ _ _ _ _ _ ((l2.getD (13 * (l.getD i TF0).i.toNat + (l.getD i TF0).j.toNat) FT0).x) ((l.getD i TF0).f.x) (by omega) (by omega)) ?_; rintro v81 Ψ81 ⟨ad81, c81, bd81, d81, rfl, hle81, hlf81, rfl⟩
              have hl81 := lenQ_add ((l2.getD (13 * (l.getD i TF0).i.toNat + (l.getD i TF0).j.toNat) FT0).x) ((l.getD i TF0).f.x)
              refine yp rfl (.indexAddr rfl rfl (ix_31 _ _ _ _ _ (by omega))) ?_
              refine head_store (b := b7) (cs := (cellsOf encF l2).toArray) (cs' := (cellsOf encF (l2.set (13 * (l.getD i TF0).i.toNat + (l.getD i TF0).j.toNat) (FT.mk (((l2.getD (13 * (l.getD i TF0).i.toNat + (l.getD i TF0).j.toNat) FT0).x) + ((l.getD i TF0).f.x)) ad81 c81 bd81 d81 hle81 hlf81))).toArray) (v := encF (FT.mk (((l2.getD (13 * (l.getD i TF0).i.toNat + (l.getD i TF0).j.toNat) FT0).x) + ((l.getD i TF0).f.x)) ad81 c81 bd81 d81 hle81 hlf81)) rfl (by kernel_rfl) rfl rfl (set_cells0 (k := 3) (fun _ => rfl) l2 (13 * (l.getD i TF0).i.toNat + (l.getD i TF0).j.toNat) (by omega) (FT.mk (((l2.getD (13 * (l.getD i TF0).i.toNat + (l.getD i TF0).j.toNat) FT0).x) + ((l.getD i TF0).f.x)) ad81 c81 bd81 d81 hle81 hlf81)) uu Tryz.sizeOf56 rfl (cells_le (k := 3) (fun _ => rfl) l2 (13 * (l.getD i TF0).i.toNat + (l.getD i TF0).j.toNat) (by omega)) rfl ?_
              refine yn (zr (zm rfl (zp (Pure1.cast (v' := (.int .i64 ((i + 1 : Nat) : Int))) (.add rfl rfl) (by show Value.int _ _ = Value.int _ _; congr 1)) (za rfl (zn ?_))))); intro a w h
              replace h := h.derive (R := AllF (l2.set (13 * (l.getD i TF0).i.toNat + (l.getD i TF0).j.toNat) (FT.mk (((l2.getD (13 * (l.getD i TF0).i.toNat + (l.getD i TF0).j.toNat) FT0).x) + ((l.getD i TF0).f.x)) ad81 c81 bd81 d81 hle81 hlf81))) (fun X hX => AllF.set (hX _ mm) (hX _ mm) (hX _ mm))
              have hx2 : Eqv (pol (xs (l2.set (13 * (l.getD i TF0).i.toNat + (l.getD i TF0).j.toNat) (FT.mk (((l2.getD (13 * (l.getD i TF0).i.toNat + (l.getD i TF0).j.toNat) FT0).x) + ((l.getD i TF0).f.x)) ad81 c81 bd81 d81 hle81 hlf81)))) ((l.take (i + 1)).map tmF) := by
                have h9 := tf_add hlt_i (by rw [xs_len]; exact hln) (by omega) (by omega) (by omega) rfl hel
                rw [← xs_get] at h9; rw [xs_set]; exact h9
              exact ⟨i + 1, ⟨by omega, l2.set (13 * (l.getD i TF0).i.toNat + (l.getD i TF0).j.toNat) (FT.mk (((l2.getD (13 * (l.getD i TF0).i.toNat + (l.getD i TF0).j.toNat) FT0).x) + ((l.getD i TF0).f.x)) ad81 c81 bd81 d81 hle81 hlf81), ⟨by rw [List.length_set]; exact hln, by rw [hie, erL_step l i hlt_i, if_pos hE], hx2⟩, by exact (h.factsSub (by simp)).sub sA⟩, by omega⟩
  · skip
    have heq_i : l.length = i := by have := of_decide_eq_false hc11; omega
    subst heq_i
    replace h := h.shareAll hS (cellsOf encF l2) rfl
    refine gC h (ze (zs (zr (zm rfl (za rfl (za rfl (zn (zt ?_)))))))); clear h; intro a w h
    rw [List.drop_length, show erL [] = 0 from rfl] at hie
    rw [List.take_length] at hel
    exact ret_of (Ψ := [Row (some ⟨b7, 0, none⟩) (cellsOf encF l2), AllF l2]) h (results2 h rfl (.tmp rfl) (.tmp rfl)) ⟨b7, _, by rw [hie], hln, by rw [if_pos hie]; exact hel, rfl⟩ (by simp)
end Go.Proofs.YtddhlkfpdjmplaaGreatDoor
