/- Written by a program of ours (gen.py) out of short specifications. By an AI agent. -/
import Derived.Test.YtddhlkfpdjmplaaGreatDoorLaw08g
set_option linter.unusedVariables false
set_option linter.unusedSimpArgs false
set_option maxRecDepth 4000
namespace Go.Proofs.YtddhlkfpdjmplaaGreatDoor
open Go Go.Proofs Go.Fx
attribute [local irreducible] Oper.wp Code.wp wpList Fx.Head wpOp
theorem ixc_59_0 (b off : Nat) (w : World) : (Instr.indexAt 59 (.pointer (some ⟨b, off, none⟩)) (.int .i64 0)).run Tryz.prog w = .ok (.pointer (some ⟨b, off + 0, none⟩)) w := by
  simp [go_sem, Instr.indexAt]
theorem rd_6_0_3 (c0 c1 c2 c3 c4 c5 : Value) : readAt true 3 #[c0, c1, c2, c3, c4, c5] 0 = some (.agg #[c0, c1, c2]) := rfl
theorem ixc_59_1 (b off : Nat) (w : World) : (Instr.indexAt 59 (.pointer (some ⟨b, off, none⟩)) (.int .i64 1)).run Tryz.prog w = .ok (.pointer (some ⟨b, off + 3, none⟩)) w := by
  simp [go_sem, Instr.indexAt]
theorem rd_6_3_3 (c0 c1 c2 c3 c4 c5 : Value) : readAt true 3 #[c0, c1, c2, c3, c4, c5] 3 = some (.agg #[c3, c4, c5]) := rfl
theorem rd_6_0_6 (c0 c1 c2 c3 c4 c5 : Value) : readAt true 6 #[c0, c1, c2, c3, c4, c5] 0 = some (.agg #[c0, c1, c2, c3, c4, c5]) := rfl
theorem f0r {X : Nat → Prop} {w : World} : (Row none (List.map encn (dg (0 : Rat).num.natAbs))).p X w ∧ (Row none (List.map encn (dg ((0 : Rat).den - 1)))).p X w := by
  have e1 : dg (0 : Rat).num.natAbs = [] := by rw [show (0 : Rat).num.natAbs = 0 from rfl, dg_zero]
  have e2 : dg ((0 : Rat).den - 1) = [] := by rw [show (0 : Rat).den - 1 = 0 from rfl, dg_zero]
  rw [e1, e2]; exact ⟨fun hne => absurd rfl hne, fun hne => absurd rfl hne⟩
abbrev fPt (x : Rat) (a1 : Option Addr) (c1 : Nat) (a2 : Option Addr) (c2 : Nat) (y : Rat) (b1 : Option Addr) (d1 : Nat) (b2 : Option Addr) (d2 : Nat) : Value :=
  .agg #[.bool (decide (x.num < 0)), .slice a1 (dg x.num.natAbs).length c1, .slice a2 (dg (x.den - 1)).length c2, .bool (decide (y.num < 0)), .slice b1 (dg y.num.natAbs).length d1, .slice b2 (dg (y.den - 1)).length d2]
theorem DL_lnpow (x y z : Rat) : ∀ n, DL n (powL (ln x y z) n)
  | 0 => fun s hs => by rw [powL, List.mem_singleton] at hs; subst hs; simp
  | n + 1 => DL_mulL (DL_lnpow x y z n) (fun s hs => by
      simp only [ln, List.mem_cons, List.not_mem_nil, or_false] at hs
      rcases hs with rfl | rfl | rfl <;> simp)
theorem DL_sh {d : Nat} {p : List Tm} (h : DL d p) (a b c e f g : Rat) : DL d (shL p a b c e f g) := fun u hu => by
  unfold shL sbL at hu
  obtain ⟨t, ht, hu⟩ := List.mem_flatMap.1 hu
  have hd := h t ht
  have h1 := DL_scaleL t.c (DL_mulL (DL_lnpow a b c t.i) (DL_lnpow e f g t.j)) u hu
  omega
theorem DL_noY {d : Nat} {p : List Tm} (h : DL d p) : DL d (noY p) := fun u hu => by
  unfold noY at hu
  obtain ⟨t, ht, rfl⟩ := List.mem_map.1 hu
  have := h t ht
  simp only; omega
theorem seg_ref {d K : Nat} {A X : List Rat} (ha : Tb d K A) (hd : d ≤ 12) {a b : Pt} (he : Eqv (pol X) (sbL (ln (b.1 - a.1) 0 a.1) (ln (b.2 - a.2) 0 a.2) (pol A))) : sgF X 13 = segQ (pol A) a b := by
  have e1 : Eqv (pol X) (shL (norm (pol A)) (b.1 - a.1) 0 a.1 (b.2 - a.2) 0 a.2) := he.trans (Eqv.sub Eqv.rfl' Eqv.rfl' (Eqv.nrm (pol A)).symm)
  rw [sgF_lin (e1.trans (shL_noY _ _ _ _ _)) ((DL_noY (DL_sh ha.nrmDL _ _ _ _ _ _)).mono hd)]
  exact he lam
theorem lenQ_sgF {X : List Rat} {K : Nat} (hX : X.length = 169) (h : ∀ k, k < 169 → lenQ (X.getD k 0) ≤ K) : ∀ n, n ≤ 13 → lenQ (sgF X n) ≤ 2 + n * (K + 6)
  | 0, _ => by rw [sgF]; exact Nat.le_trans lenQ_zero (by omega)
  | n + 1, hn => by
    have ih := lenQ_sgF hX h n (by omega)
    have h1 := h (13 * n) (by omega)
    have h2 := lenQ_int ((n + 1 : Nat) : Int) (by omega) (by omega)
    have h3 := lenQ_div (X.getD (13 * n) 0) (((n + 1 : Nat) : Int) : Rat)
    have h4 := lenQ_add (sgF X n) (X.getD (13 * n) 0 / (((n + 1 : Nat) : Int) : Rat))
    rw [sgF, Nat.add_mul]; omega
theorem C_rSeg (b1 : Nat) (la : List FT) (da Ka : Nat) (ha : Tb da Ka (xs la)) (hda : da ≤ 12) (hka : Ka ≤ 10000) (p1 p3 : Option Addr) (p2 p4 : Nat) (q1 q3 : Option Addr) (q2 q4 : Nat) (r1 r3 : Option Addr) (r2 r4 : Nat) (s1 s3 : Option Addr) (s2 s4 : Nat) (ax ay cx cy : Rat) (Kp : Nat) (hkax : lenQ ax ≤ Kp) (hkay : lenQ ay ≤ Kp) (hkcx : lenQ cx ≤ Kp) (hkcy : lenQ cy ≤ Kp) (hp2 : (dg ax.num.natAbs).length ≤ p2) (hp4 : (dg (ax.den - 1)).length ≤ p4) (hq2 : (dg ay.num.natAbs).length ≤ q2) (hq4 : (dg (ay.den - 1)).length ≤ q4) (hr2 : (dg cx.num.natAbs).length ≤ r2) (hr4 : (dg (cx.den - 1)).length ≤ r4) (hs2 : (dg cy.num.natAbs).length ≤ s2) (hs4 : (dg (cy.den - 1)).length ≤ s4) (hkp : Kp ≤ 1000) (hkp2 : 2 ≤ Kp) : Ctr Tryz.prog 14 [.slice (some ⟨b1, 0, none⟩) 169 169, fPt ax p1 p2 p3 p4 ay q1 q2 q3 q4, fPt cx r1 r2 r3 r4 cy s1 s2 s3 s4] [Row (some ⟨b1, 0, none⟩) (cellsOf encF la), AllF la, Row p1 (List.map encn (dg ax.num.natAbs)), Row p3 (List.map encn (dg (ax.den - 1))), Row q1 (List.map encn (dg ay.num.natAbs)), Row q3 (List.map encn (dg (ay.den - 1))), Row r1 (List.map encn (dg cx.num.natAbs)), Row r3 (List.map encn (dg (cx.den - 1))), Row s1 (List.map encn (dg cy.num.natAbs)), Row s3 (List.map encn (dg (cy.den - 1)))] (PostF (segQ (pol (xs la)) (ax, ay) (cx, cy))) := by
  refine fn_intro Tryz.func14 rfl Tryz.ntmps14 nb ?_
  intro S w0 a hS h
  replace h := h.derive (R := Row none (List.map encn (dg ((0 : Rat).den - 1)))) (fun X _ => f0r.2)
  replace h := h.derive (R := Row none (List.map encn (dg (0 : Rat).num.natAbs))) (fun X _ => f0r.1)
  refine gC h (zs (zr (zx rfl fun b4 => zx rfl fun b5 => zz zeroF fun b6 => zn (zs (zr (zz zeroF fun b7 => zn (zs (yD mixed_YtddhlkfpdjmplaaGreatDoor [0, 1, 2, 3, 4, 6, 7, 8, 9, 10, 11, 12, 14, 15, 16, 5, 13, 17, 18] (floatsOK_none (by kernel_rfl)) (yp rfl (.move rfl) (yp rfl (.indexAddr rfl rfl (ixc_59_0 _ _)) (yd rfl rfl mr Tryz.isAgg56 Tryz.sizeOf56 (rd_6_0_3 _ _ _ _ _ _) ?_))))))))))); clear h
  refine yp rfl (.indexAddr rfl rfl (ixc_59_0 _ _)) (yd rfl rfl mr Tryz.isAgg56 Tryz.sizeOf56 (rd_6_0_3 _ _ _ _ _ _) ?_)
  refine yd rfl rfl mr Tryz.isAgg56 Tryz.sizeOf56 (rd_3_0_3 _ _ _) ?_
  refine yp rfl (.indexAddr rfl rfl (ixc_59_0 _ _)) (yd rfl rfl mr Tryz.isAgg56 Tryz.sizeOf56 (rd_6_0_3 _ _ _ _ _ _) ?_)
  refine yp rfl (.indexAddr rfl rfl (ixc_59_1 _ _)) (yd rfl rfl mr Tryz.isAgg56 Tryz.sizeOf56 (rd_6_3_3 _ _ _ _ _ _) ?_)
  refine yp rfl (.indexAddr rfl rfl (ixc_59_1 _ _)) (yd rfl rfl mr Tryz.isAgg56 Tryz.sizeOf56 (rd_6_3_3 _ _ _ _ _ _) ?_)
  refine yd rfl rfl mr Tryz.isAgg56 Tryz.sizeOf56 (rd_3_0_3 _ _ _) ?_
  refine yp rfl (.indexAddr rfl rfl (ixc_59_1 _ _)) (yd rfl rfl mr Tryz.isAgg56 Tryz.sizeOf56 (rd_6_3_3 _ _ _ _ _ _) ?_)
  refine yf [_, _] rfl rfl Tryz.call64 (C_fSub _ _ _ _ _ _ _ _ cx ax (by omega) (by omega)) ?_; rintro v16 Ψ16 ⟨ad16, c16, bd16, d16, rfl, hle16, hlf16, rfl⟩
  have hl16 := lenQ_sub cx ax
  refine yf [_, _] rfl rfl Tryz.call64 (C_fSub _ _ _ _ _ _ _ _ cy ay (by omega) (by omega)) ?_; rintro v24 Ψ24 ⟨ad24, c24, bd24, d24, rfl, hle24, hlf24, rfl⟩
  have hl24 := lenQ_sub cy ay
  refine yf [_, _, _, _, _, _, _] rfl rfl Tryz.call63 (C_tShift b1 la da Ka ha hda (by omega) _ _ _ _ _ _ _ _ _ _ _ _ _ _ _ _ _ _ _ _ _ _ _ _ (cx - ax) 0 ax (cy - ay) 0 ay (2 * Kp + 1) (by omega) (by have := lenQ_zero; omega) (by omega) (by omega) (by have := lenQ_zero; omega) (by omega) hle16 hlf16 FT0.h1 FT0.h2 hp2 hp4 hle24 hlf24 FT0.h1 FT0.h2 hq2 hq4 (by omega) (by omega)) ?_; rintro v28 Ψ28 ⟨b28, l28, rfl, ht28, he28, rfl⟩
  have hkt : 169 * KT da Ka (2 * Kp + 1) + 1 ≤ 100000000 := by
    have h1 := Nat.mul_le_mul hda (show 3 * (2 * Kp + 1) + 4 ≤ 6007 by omega)
    unfold KT; omega
  have hsz := fun k hk => Nat.le_trans (ht28.siz (k := k) hk) hkt
  have hl28 := ht28.lenl
  refine yp rfl (.assign rfl) (yn (zs (zr (zz zeroF fun b9 => zn (zs (zs (zr (za rfl (zn (zb ?_)))))))))); intro a w h
  refine wp_loop_inv (fun (i : Nat) a w => i ≤ 13 ∧ ∃ t1 t2 t3 t4, (((dg (sgF (xs l28) i).num.natAbs).length ≤ t2 ∧ (dg ((sgF (xs l28) i).den - 1)).length ≤ t4)) ∧ St 45 S w0 [(6, .pointer (some ⟨b6, 0, none⟩)), (8, .slice (some ⟨b28, 0, none⟩) 169 169), (9, .pointer (some ⟨b9, 0, none⟩)), (10, .int .i64 ((i : Nat) : Int))] [(b9, .cells (Value.cells (.agg #[.bool (decide ((sgF (xs l28) i).num < 0)), .slice t1 (dg (sgF (xs l28) i).num.natAbs).length t2, .slice t3 (dg ((sgF (xs l28) i).den - 1)).length t4])) 56 (0, 0)), (b7, .cells (Value.cells (.agg #[.bool (decide ((0 : Rat).num < 0)), .slice none (dg (0 : Rat).num.natAbs).length 0, .slice none (dg ((0 : Rat).den - 1)).length 0])) 56 (0, 0)), (b6, .cells (Value.cells (.agg #[.bool (decide ((0 : Rat).num < 0)), .slice none (dg (0 : Rat).num.natAbs).length 0, .slice none (dg ((0 : Rat).den - 1)).length 0])) 56 (0, 0)), (b5, .cells (Value.cells (.agg #[.bool (decide (cx.num < 0)), .slice r1 (dg cx.num.natAbs).length r2, .slice r3 (dg (cx.den - 1)).length r4, .bool (decide (cy.num < 0)), .slice s1 (dg cy.num.natAbs).length s2, .slice s3 (dg (cy.den - 1)).length s4])) 59 (0, 0)), (b4, .cells (Value.cells (.agg #[.bool (decide (ax.num < 0)), .slice p1 (dg ax.num.natAbs).length p2, .slice p3 (dg (ax.den - 1)).length p4, .bool (decide (ay.num < 0)), .slice q1 (dg ay.num.natAbs).length q2, .slice q3 (dg (ay.den - 1)).length q4])) 59 (0, 0))] [Row t1 (List.map encn (dg (sgF (xs l28) i).num.natAbs)), Row t3 (List.map encn (dg ((sgF (xs l28) i).den - 1))), Row (some ⟨b28, 0, none⟩) (cellsOf encF l28), AllF l28] a w) (fun i => 13 - i) 0 (⟨Nat.zero_le _, none, 0, none, 0, ⟨FT0.h1, FT0.h2⟩, by rw [show sgF (xs l28) 0 = 0 from rfl]; exact (h.factsSub (by simp)).sub (subL ⟨rfl, rfl, rfl, rfl, trivial⟩)⟩) ?_; clear h
  rintro i a w ⟨hi_i, t1, t2, t3, t4, ⟨ht2, ht4⟩, h⟩
  refine gC h (zs (zs (zr (zm rfl (zp (.lss rfl rfl) (zn ?_)))))); clear h; intro a w h
  change Code.wp _ _ _ _ _
  refine cond_split h rfl (fun hc30 => ?_) (fun hc30 => ?_)
  · skip
    have hlt_i : i < 13 := by have := of_decide_eq_true hc30; omega
    have hsg := lenQ_sgF ht28.len hsz i (by omega)
    have hez := hsz (13 * i) (by omega)
    rw [← xs_get] at hez
    have hm28 : l28.getD (13 * i) FT0 ∈ l28 := getD_mem _ (by omega)
    replace h := h.derive (R := Row (l28.getD (13 * i) FT0).a2 (List.map encn (dg ((l28.getD (13 * i) FT0).x.den - 1)))) (fun X hX => AllF.get2 (hX _ mm) hm28)
    replace h := h.derive (R := Row (l28.getD (13 * i) FT0).a1 (List.map encn (dg (l28.getD (13 * i) FT0).x.num.natAbs))) (fun X hX => AllF.get1 (hX _ mm) hm28)
    refine gC h (zk (zs (zb (yD mixed_YtddhlkfpdjmplaaGreatDoor [0, 1, 2, 3, 4, 5, 6, 7, 8, 9, 10, 11] (floatsOK_none (by kernel_rfl)) (yd rfl rfl mr Tryz.isAgg56 Tryz.sizeOf56 (rd_3_0_3 _ _ _) ?_))))); clear h
    refine yp rfl (.move rfl) (yp rfl (.move rfl) (yp rfl (Pure1.cast (v' := (.int .i64 ((13 * i : Nat) : Int))) (.mul rfl rfl) (by show Value.int _ _ = Value.int _ _; congr 1)) (yp rfl (.indexAddr rfl rfl (ix_31 _ _ _ _ _ (by omega))) ?_)))
    refine head_loadRow rfl (by kernel_rfl) rfl mm (cells_lt (k := 3) (by decide) (fun _ => rfl) l28 (13 * i) (by omega)) Tryz.isAgg56 Tryz.sizeOf56 (read_cells (k := 3) (fun _ => rfl) ((fun _ => rfl)) l28 FT0 (13 * i) (by omega)) (.inl rfl) (by decide) ?_
    refine yp rfl (.move rfl) (yp rfl (Pure1.cast (v' := (.int .i64 ((i + 1 : Nat) : Int))) (.add rfl rfl) (by show Value.int _ _ = Value.int _ _; congr 1)) (yf [_] rfl rfl Tryz.call67 (C_fInt (((i + 1 : Nat) : Int)) (by omega) (by omega)) ?_)); rintro v41 Ψ41 ⟨ad41, c41, bd41, d41, rfl, hle41, hlf41, rfl⟩
    have hl41 := lenQ_int (((i + 1 : Nat) : Int)) (by omega) (by omega)
    refine yf [_, _] rfl rfl Tryz.call66 (C_fDiv _ _ _ _ _ _ _ _ ((l28.getD (13 * i) FT0).x) (((((i + 1 : Nat) : Int) : Int) : Rat)) (by omega) (by omega) (by first | assumption | omega)) ?_; rintro v42 Ψ42 ⟨ad42, c42, bd42, d42, rfl, hle42, hlf42, rfl⟩
    have hl42 := lenQ_div ((l28.getD (13 * i) FT0).x) (((((i + 1 : Nat) : Int) : Int) : Rat))
    refine yf [_, _] rfl rfl Tryz.call65 (C_fAdd _ _ _ _ _ _ _ _ (sgF (xs l28) i) (((l28.getD (13 * i) FT0).x) / (((((i + 1 : Nat) : Int) : Int) : Rat))) (by omega) (by omega)) ?_; rintro v43 Ψ43 ⟨ad43, c43, bd43, d43, rfl, hle43, hlf43, rfl⟩
    have hl43 := lenQ_add (sgF (xs l28) i) (((l28.getD (13 * i) FT0).x) / (((((i + 1 : Nat) : Int) : Int) : Rat)))
    refine yt rfl rfl rfl (st_3_0_3 _ _ _ _ _ _) uu Tryz.sizeOf56 rfl nb rfl ?_
    refine yn (zr (zm rfl (zp (Pure1.cast (v' := (.int .i64 ((i + 1 : Nat) : Int))) (.add rfl rfl) (by show Value.int _ _ = Value.int _ _; congr 1)) (za rfl (zn ?_))))); intro a w h
    rw [show sgF (xs l28) i + (l28.getD (13 * i) FT0).x / (((i + 1 : Nat) : Int) : Rat) = sgF (xs l28) (i + 1) from by rw [xs_get]; rfl] at h hle43 hlf43
    exact ⟨i + 1, ⟨by omega, ad43, c43, bd43, d43, ⟨hle43, hlf43⟩, by exact (h.factsSub (by simp)).sub sA⟩, by omega⟩
  · skip
    have heq_i : 13 = i := by have := of_decide_eq_false hc30; omega
    subst heq_i
    refine gC h (ze (zs (zr (zd rfl mr Tryz.isAgg56 Tryz.sizeOf56 (rd_3_0_3 _ _ _) ?_)))); clear h; intro a w h
    refine gL h (zt' rfl rfl (st_3_0_3 _ _ _ _ _ _) uu Tryz.sizeOf56 rfl nb rfl ?_); clear h; intro a w h
    refine wpList_nil (wp_ret ?_)
    refine ret_of (Ψ := [Row t1 (List.map encn (dg (sgF (xs l28) 13).num.natAbs)), Row t3 (List.map encn (dg ((sgF (xs l28) 13).den - 1)))]) h (results1 h rfl (.cell rfl mr Tryz.isAgg56 Tryz.sizeOf56 (rd_3_0_3 _ _ _))) ?_ (by simp)
    rw [← seg_ref ha hda (a := (ax, ay)) (b := (cx, cy)) he28]; exact ⟨t1, t2, t3, t4, rfl, ht2, ht4, rfl⟩
theorem lenQ_rseg {d K Kp : Nat} {A : List Rat} (ha : Tb d K A) (hd : d ≤ 12) (hK : K ≤ 10000) {ax ay cx cy : Rat} (h1 : lenQ ax ≤ Kp) (h2 : lenQ ay ≤ Kp) (h3 : lenQ cx ≤ Kp) (h4 : lenQ cy ≤ Kp) (hkp : Kp ≤ 1000) (hkp2 : 2 ≤ Kp) : lenQ (segQ (pol A) (ax, ay) (cx, cy)) ≤ 2000000000 := by
  rw [← segQ_eqv (Eqv.nrm (pol A))]
  refine Nat.le_trans (lenQ_seg (ha.pq hd) hd (a := (ax, ay)) (b := (cx, cy)) ⟨h1, h2⟩ ⟨h3, h4⟩ hkp2) ?_
  unfold SG KS KT
  have t1 : tri (d + 1) ≤ 91 := Nat.le_trans (tri_mono (show d + 1 ≤ 13 by omega)) (by decide)
  have t2 : K + d * (3 * (2 * Kp + 1) + 4) + 20 ≤ 100000 := by
    have := Nat.mul_le_mul hd (show 3 * (2 * Kp + 1) + 4 ≤ 6007 by omega); omega
  have t3 := Nat.mul_le_mul t1 t2
  have t4 := Nat.mul_le_mul t1 (show tri (d + 1) * (K + d * (3 * (2 * Kp + 1) + 4) + 20) + 1 + 5 ≤ 91 * 100000 + 6 by omega)
  omega
theorem C_rFlow (b1 : Nat) (la : List FT) (da Ka : Nat) (ha : Tb da Ka (xs la)) (hda : da ≤ 12) (hka : Ka ≤ 10000) (b2 : Nat) (lb : List FT) (db Kb : Nat) (hb : Tb db Kb (xs lb)) (hdb : db ≤ 12) (hkb : Kb ≤ 10000) (p1 p3 : Option Addr) (p2 p4 : Nat) (q1 q3 : Option Addr) (q2 q4 : Nat) (r1 r3 : Option Addr) (r2 r4 : Nat) (s1 s3 : Option Addr) (s2 s4 : Nat) (ax ay cx cy : Rat) (Kp : Nat) (hkax : lenQ ax ≤ Kp) (hkay : lenQ ay ≤ Kp) (hkcx : lenQ cx ≤ Kp) (hkcy : lenQ cy ≤ Kp) (hp2 : (dg ax.num.natAbs).length ≤ p2) (hp4 : (dg (ax.den - 1)).length ≤ p4) (hq2 : (dg ay.num.natAbs).length ≤ q2) (hq4 : (dg (ay.den - 1)).length ≤ q4) (hr2 : (dg cx.num.natAbs).length ≤ r2) (hr4 : (dg (cx.den - 1)).length ≤ r4) (hs2 : (dg cy.num.natAbs).length ≤ s2) (hs4 : (dg (cy.den - 1)).length ≤ s4) (hkp : Kp ≤ 1000) (hkp2 : 2 ≤ Kp) : Ctr Tryz.prog 17 [.slice (some ⟨b1, 0, none⟩) 169 169, .slice (some ⟨b2, 0, none⟩) 169 169, fPt ax p1 p2 p3 p4 ay q1 q2 q3 q4, fPt cx r1 r2 r3 r4 cy s1 s2 s3 s4] [Row (some ⟨b1, 0, none⟩) (cellsOf encF la), AllF la, Row (some ⟨b2, 0, none⟩) (cellsOf encF lb), AllF lb, Row p1 (List.map encn (dg ax.num.natAbs)), Row p3 (List.map encn (dg (ax.den - 1))), Row q1 (List.map encn (dg ay.num.natAbs)), Row q3 (List.map encn (dg (ay.den - 1))), Row r1 (List.map encn (dg cx.num.natAbs)), Row r3 (List.map encn (dg (cx.den - 1))), Row s1 (List.map encn (dg cy.num.natAbs)), Row s3 (List.map encn (dg (cy.den - 1)))] (PostF (flowQ (pol (xs la)) (pol (xs lb)) (ax, ay) (cx, cy))) := by
  have hs17 : lenQ (segQ (pol (xs la)) (ax, ay) (cx, cy)) ≤ 2000000000 := lenQ_rseg ha hda (by omega) hkax hkay hkcx hkcy hkp hkp2
  have hs27 : lenQ (segQ (pol (xs lb)) (ax, ay) (cx, cy)) ≤ 2000000000 := lenQ_rseg hb hdb (by omega) hkax hkay hkcx hkcy hkp hkp2
  refine fn_intro Tryz.func17 rfl Tryz.ntmps17 nb ?_
  intro S w0 a hS h
  refine gC h (zs (zr (zx rfl fun b6 => zx rfl fun b7 => zz zeroF fun b8 => zn (zs (yD mixed_YtddhlkfpdjmplaaGreatDoor [0, 1, 2, 3, 5, 6, 7, 10, 11, 12, 13, 15, 16, 17, 4, 8, 9, 14, 18, 19, 20, 21] (floatsOK_none (by kernel_rfl)) (yp rfl (.indexAddr rfl rfl (ixc_59_1 _ _)) (yd rfl rfl mr Tryz.isAgg56 Tryz.sizeOf56 (rd_6_3_3 _ _ _ _ _ _) ?_))))))); clear h
  refine yp rfl (.indexAddr rfl rfl (ixc_59_1 _ _)) (yd rfl rfl mr Tryz.isAgg56 Tryz.sizeOf56 (rd_6_3_3 _ _ _ _ _ _) ?_)
  refine yp rfl (.move rfl) (yd rfl rfl mr Tryz.isAgg59 Tryz.sizeOf59 (rd_6_0_6 _ _ _ _ _ _) ?_)
  refine yd rfl rfl mr Tryz.isAgg59 Tryz.sizeOf59 (rd_6_0_6 _ _ _ _ _ _) ?_
  refine yp rfl (.indexAddr rfl rfl (ixc_59_0 _ _)) (yd rfl rfl mr Tryz.isAgg56 Tryz.sizeOf56 (rd_6_0_3 _ _ _ _ _ _) ?_)
  refine yp rfl (.indexAddr rfl rfl (ixc_59_0 _ _)) (yd rfl rfl mr Tryz.isAgg56 Tryz.sizeOf56 (rd_6_0_3 _ _ _ _ _ _) ?_)
  refine yp rfl (.move rfl) (yd rfl rfl mr Tryz.isAgg59 Tryz.sizeOf59 (rd_6_0_6 _ _ _ _ _ _) ?_)
  refine yd rfl rfl mr Tryz.isAgg59 Tryz.sizeOf59 (rd_6_0_6 _ _ _ _ _ _) ?_
  refine yf [_, _] rfl rfl Tryz.call64 (C_fSub _ _ _ _ _ _ _ _ cy ay (by omega) (by omega)) ?_; rintro v13 Ψ13 ⟨ad13, c13, bd13, d13, rfl, hle13, hlf13, rfl⟩
  have hl13 := lenQ_sub cy ay
  refine yf [_, _, _] rfl rfl Tryz.call14 (C_rSeg b1 la da Ka ha hda hka _ _ _ _ _ _ _ _ _ _ _ _ _ _ _ _ ax ay cx cy Kp hkax hkay hkcx hkcy hp2 hp4 hq2 hq4 hr2 hr4 hs2 hs4 hkp hkp2) ?_; rintro v17 Ψ17 ⟨ad17, c17, bd17, d17, rfl, hle17, hlf17, rfl⟩
  refine yf [_, _] rfl rfl Tryz.call70 (C_fMul _ _ _ _ _ _ _ _ (cy - ay) (segQ (pol (xs la)) (ax, ay) (cx, cy)) (by omega) (by omega)) ?_; rintro v18 Ψ18 ⟨ad18, c18, bd18, d18, rfl, hle18, hlf18, rfl⟩
  have hl18 := lenQ_mul (cy - ay) (segQ (pol (xs la)) (ax, ay) (cx, cy))
  refine yf [_, _] rfl rfl Tryz.call64 (C_fSub _ _ _ _ _ _ _ _ cx ax (by omega) (by omega)) ?_; rintro v23 Ψ23 ⟨ad23, c23, bd23, d23, rfl, hle23, hlf23, rfl⟩
  have hl23 := lenQ_sub cx ax
  refine yf [_, _, _] rfl rfl Tryz.call14 (C_rSeg b2 lb db Kb hb hdb hkb _ _ _ _ _ _ _ _ _ _ _ _ _ _ _ _ ax ay cx cy Kp hkax hkay hkcx hkcy hp2 hp4 hq2 hq4 hr2 hr4 hs2 hs4 hkp hkp2) ?_; rintro v27 Ψ27 ⟨ad27, c27, bd27, d27, rfl, hle27, hlf27, rfl⟩
  refine yf [_, _] rfl rfl Tryz.call70 (C_fMul _ _ _ _ _ _ _ _ (cx - ax) (segQ (pol (xs lb)) (ax, ay) (cx, cy)) (by omega) (by omega)) ?_; rintro v28 Ψ28 ⟨ad28, c28, bd28, d28, rfl, hle28, hlf28, rfl⟩
  have hl28 := lenQ_mul (cx - ax) (segQ (pol (xs lb)) (ax, ay) (cx, cy))
  refine yf [_, _] rfl rfl Tryz.call64 (C_fSub _ _ _ _ _ _ _ _ ((cy - ay) * (segQ (pol (xs la)) (ax, ay) (cx, cy))) ((cx - ax) * (segQ (pol (xs lb)) (ax, ay) (cx, cy))) (by omega) (by omega)) ?_; rintro v29 Ψ29 ⟨ad29, c29, bd29, d29, rfl, hle29, hlf29, rfl⟩
  have hl29 := lenQ_sub ((cy - ay) * (segQ (pol (xs la)) (ax, ay) (cx, cy))) ((cx - ax) * (segQ (pol (xs lb)) (ax, ay) (cx, cy)))
  refine yt rfl rfl rfl (st_3_0_3 _ _ _ _ _ _) uu Tryz.sizeOf56 rfl nb rfl ?_
  refine yn (zt ?_); intro a w h
  refine ret_of (Ψ := [Row ad29 (List.map encn (dg (((cy - ay) * (segQ (pol (xs la)) (ax, ay) (cx, cy))) - ((cx - ax) * (segQ (pol (xs lb)) (ax, ay) (cx, cy)))).num.natAbs)), Row bd29 (List.map encn (dg ((((cy - ay) * (segQ (pol (xs la)) (ax, ay) (cx, cy))) - ((cx - ax) * (segQ (pol (xs lb)) (ax, ay) (cx, cy)))).den - 1)))]) h (results1 h rfl (.cell rfl mr Tryz.isAgg56 Tryz.sizeOf56 (rd_3_0_3 _ _ _))) ?_ (by simp)
  exact ⟨ad29, c29, bd29, d29, rfl, hle29, hlf29, rfl⟩
end Go.Proofs.YtddhlkfpdjmplaaGreatDoor
