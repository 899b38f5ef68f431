/- Walks of functions. By an AI agent. -/
import Derived.Test.YthcjdeklpegceaaGreatDoorLocr
set_option linter.unusedVariables false
set_option linter.unusedSimpArgs false
set_option maxRecDepth 4000
namespace Go.Proofs.YthcjdeklpegceaaGreatDoor
open Go Go.Proofs Go.Fx Tryz
attribute [local irreducible] Oper.wp Code.wp wpList Fx.Head wpOp Qi
theorem Zya {b off : Nat} (w : World) : (Instr.fieldAt 32 (.pointer (some ⟨b, off, none⟩)) 1).run Tryz.prog w = .ok (.pointer (some ⟨b, off + 1, none⟩)) w := by
 simp [go_sem]
theorem Zn3 {c0 c1 c2 c3 c4 c5 c6 c7 c8 c9 c10 c11 c12 c13 c14 c15 c16 c17 c18 c19 c20 c21 c22 c23 c24 c25 c26 c27 c28 c29 c30 c31 c32 c33 c34 : Value} : Qf true 6 #[c0, c1, c2, c3, c4, c5, c6, c7, c8, c9, c10, c11, c12, c13, c14, c15, c16, c17, c18, c19, c20, c21, c22, c23, c24, c25, c26, c27, c28, c29, c30, c31, c32, c33, c34] 1 = some (.agg #[c1, c2, c3, c4, c5, c6]) := rfl
theorem Zrp {c0 c1 c2 c3 c4 c5 v0 v1 v2 v3 v4 v5 : Value} : Qi #[c0, c1, c2, c3, c4, c5] 0 [v0, v1, v2, v3, v4, v5] = #[v0, v1, v2, v3, v4, v5] := by kernel_rfl
theorem Zx9 {b off : Nat} (w : World) : (Instr.fieldAt 32 (.pointer (some ⟨b, off, none⟩)) 2).run Tryz.prog w = .ok (.pointer (some ⟨b, off + 7, none⟩)) w := by
 simp [go_sem]
theorem Zk6 {c0 c1 c2 c3 c4 c5 c6 c7 c8 c9 c10 c11 c12 c13 c14 c15 c16 c17 c18 c19 c20 c21 c22 c23 c24 c25 c26 c27 c28 c29 c30 c31 c32 c33 c34 : Value} : Qf true 12 #[c0, c1, c2, c3, c4, c5, c6, c7, c8, c9, c10, c11, c12, c13, c14, c15, c16, c17, c18, c19, c20, c21, c22, c23, c24, c25, c26, c27, c28, c29, c30, c31, c32, c33, c34] 7 = some (.agg #[c7, c8, c9, c10, c11, c12, c13, c14, c15, c16, c17, c18]) := rfl
theorem Zm1 {b off : Nat} (w : World) : (Instr.fieldAt 32 (.pointer (some ⟨b, off, none⟩)) 0).run Tryz.prog w = .ok (.pointer (some ⟨b, off + 0, none⟩)) w := by
 simp [go_sem]
theorem Zl5 {c0 c1 c2 c3 c4 c5 c6 c7 c8 c9 c10 c11 c12 c13 c14 c15 c16 c17 c18 c19 c20 c21 c22 c23 c24 c25 c26 c27 c28 c29 c30 c31 c32 c33 c34 : Value} : Qf false 1 #[c0, c1, c2, c3, c4, c5, c6, c7, c8, c9, c10, c11, c12, c13, c14, c15, c16, c17, c18, c19, c20, c21, c22, c23, c24, c25, c26, c27, c28, c29, c30, c31, c32, c33, c34] 0 = some c0 := rfl
theorem Zx8 {b off : Nat} (w : World) : (Instr.fieldAt 32 (.pointer (some ⟨b, off, none⟩)) 3).run Tryz.prog w = .ok (.pointer (some ⟨b, off + 19, none⟩)) w := by
 simp [go_sem]
theorem Zjc {c0 c1 c2 c3 c4 c5 c6 c7 c8 c9 c10 c11 c12 c13 c14 c15 c16 c17 c18 c19 c20 c21 c22 c23 c24 c25 c26 c27 c28 c29 c30 c31 c32 c33 c34 : Value} : Qf true 12 #[c0, c1, c2, c3, c4, c5, c6, c7, c8, c9, c10, c11, c12, c13, c14, c15, c16, c17, c18, c19, c20, c21, c22, c23, c24, c25, c26, c27, c28, c29, c30, c31, c32, c33, c34] 19 = some (.agg #[c19, c20, c21, c22, c23, c24, c25, c26, c27, c28, c29, c30]) := rfl
theorem Zr2 {c0 c1 c2 c3 c4 c5 : Value} : Qf true 6 #[c0, c1, c2, c3, c4, c5] 0 = some (.agg #[c0, c1, c2, c3, c4, c5]) := rfl
theorem Zgy (x0_0 : Value) (x0_1 : Value) (x0_2 : Value) (x0_3 : Value) (x0_4 : Value) (x1_0 : Value) (x1_1 : Value) (x1_2 : Value) (x1_3 : Value) (x1_4 : Value) (x2_0 : Value) (x2_1 : Value) (x2_2 : Value) (x2_3 : Value) (x2_4 : Value) (w : World) : (Instr.buildSlice 49 3 [(0, .agg #[x0_0, x0_1, x0_2, x0_3, x0_4]), (1, .agg #[x1_0, x1_1, x1_2, x1_3, x1_4]), (2, .agg #[x2_0, x2_1, x2_2, x2_3, x2_4])].toArray).run Tryz.prog w = .ok (.slice (some ⟨w.heap.size, 0, none⟩) 3 3) (w.alloc (.cells #[x0_0, x0_1, x0_2, x0_3, x0_4, x1_0, x1_1, x1_2, x1_3, x1_4, x2_0, x2_1, x2_2, x2_3, x2_4] 41 (0, 0))) := by
 simp [go_sem]
theorem Zik (X Y : Operand) (x y : Rat) (e : x = y) (w : World) : (do eqGuard .eql 41 X Y (Zz x) (Zz y); Go.binOp .eql 41 (Zz x) (Zz y) : Sem Value).run Tryz.prog w = .ok (.bool true) w := by
 rw [Zl4, decide_eq_true e]
theorem Zbo {K : Nat} {p q : List Tm} (hp : Pq 2 K p) (hq : Pq 2 K q) {a b c : Pt} (ha : PtK 4 a) (hb : PtK 4 b) (hc : PtK 4 c) (hK : K ≤ 7260) : Zw (Yk p q a b c) ≤ 4000000 :=
 Nat.le_trans (Qay (((hp.mul hq dd).mono (Nat.le_refl _) (show K + K ≤ 14520 by omega)) : Pq 4 14520 (norm (Qz p q))) dd ha hb hc) dd
set_option maxHeartbeats 2000000 in
theorem Zkm (k0 k1 k2 : Int × Int) (p0 p1 p2 : (Int × Int) × (Int × Int)) (v0 v1 v2 v3 v4 v5 : Int × Int) (pm : (Int × Int) × (Int × Int)) (hk0 : OkQ k0) (hk1 : OkQ k1) (hk2 : OkQ k2) (hp0 : OkP p0) (hp1 : OkP p1) (hp2 : OkP p2) (hv0 : OkQ v0) (hv1 : OkQ v1) (hv2 : OkQ v2) (hv3 : OkQ v3) (hv4 : OkQ v4) (hv5 : OkQ v5) (hpm : OkP pm) : Zaq Tryz.prog 3 [.agg #[.bool false, .int .i64 k0.1, .int .u32 k0.2, .int .i64 k1.1, .int .u32 k1.2, .int .i64 k2.1, .int .u32 k2.2, .int .i64 p0.1.1, .int .u32 p0.1.2, .int .i64 p0.2.1, .int .u32 p0.2.2, .int .i64 p1.1.1, .int .u32 p1.1.2, .int .i64 p1.2.1, .int .u32 p1.2.2, .int .i64 p2.1.1, .int .u32 p2.1.2, .int .i64 p2.2.1, .int .u32 p2.2.2, .int .i64 v0.1, .int .u32 v0.2, .int .i64 v1.1, .int .u32 v1.2, .int .i64 v2.1, .int .u32 v2.2, .int .i64 v3.1, .int .u32 v3.2, .int .i64 v4.1, .int .u32 v4.2, .int .i64 v5.1, .int .u32 v5.2, .int .i64 pm.1.1, .int .u32 pm.1.2, .int .i64 pm.2.1, .int .u32 pm.2.2]] [SideF] (.bool true) := by
 refine fn_intro func3 rfl ntmps3 nb ?_
 intro S w0 a hS h
 replace h := h.derive (R := Row none (cellsOf Zr [])) (fun X _ hne => absurd rfl hne)
 refine gC h (zS (zx rfl fun b1 => za rfl (zn (zS (zp (.fA rfl Zya) (zd rfl mr isAgg25 sizeOf25 Zn3 ?_))))))
 refine zz zeroValue25 fun b3 => zt' rfl rfl Zrp uu sizeOf25 rfl nb rfl ?_
 refine zn (zS (zp (.fA rfl Zx9) (zd rfl mr isAgg29 sizeOf29 Zk6 ?_))); intro a w h
 refine Zc (Zx h (vs := [_]) rfl call5 (Zph p0 p1 p2 hp0 hp1 hp2) (by exact hsA) dd ?_); clear h; rintro v27 Ψ27 a w ⟨pa, pb, pc, ha, hb, hc, rfl, rfl⟩ h
 refine gL h (zm rfl (zp (.eX rfl) (zp (.eX rfl) (zz Zd9 fun b4 => zt' rfl rfl Vw uu sizeOf44 rfl nb rfl ?_))))
 refine za rfl (zn (zs (zS (zm rfl (zp (.unOp rfl (Vt _)) (zn ?_)))))); intro a w h
 refine cW ?_
 refine Zh h rfl (fun hc31 => ?_) (fun hc31 => ?_)
 ·
  skip
  skip
  refine wp_seq (wp_region_lit ?_)
  refine Zc (Ys h (vs := []) rfl call6 (Znj) (by exact hsA) dd ?_); clear h; intro a w h
  refine gL h (za rfl (zn (zt ?_))); clear h; intro a w h
  exact Zed h
 ·
  skip
  have hT : 0 < (twP pa pb pc).num.sign := by simpa using hc31
  refine gC h (zk (zS (zp (.fA rfl Zm1) (zd rfl mr isAgg4 sizeOf4 Zl5 ?_))))
  refine zv [_] rfl call7 (Qck) (za rfl (zn (zS (zp (.fA rfl Zm1) (zd rfl mr isAgg4 sizeOf4 Zl5 ?_)))))
  refine zp (.fA rfl Zx8) (zd rfl mr isAgg30 sizeOf30 Zjc ?_); intro a w h
  refine Zc (Zx h (vs := [_, _]) rfl call8 (Zve v0 v1 v2 v3 v4 v5 hv0 hv1 hv2 hv3 hv4 hv5) (by exact hsA) dd ?_); clear h; rintro v40 Ψ40 a w ⟨ad40, c40, rfl, rfl⟩ h
  refine gL h (za rfl (zn (zS (zm rfl (zd rfl mr isAgg44 sizeOf44 Qt ?_))))); clear h; intro a w h
  refine Zc (Zx h (vs := [_, _]) rfl call9 (Ztn pa pb pc ha hb hc hT) (by exact hsA) dd ?_); clear h; rintro v44 Ψ44 a w ⟨ad44, a0, c0, a1, c1, a2, c2, rfl, rfl⟩ h
  obtain ⟨L0, hE0⟩ : ∃ G, Xh (Jx pa pb pc) (Jw pa pb pc) (Jv pa pb pc) (Qc 1 0) = G := ⟨_, rfl⟩
  rw [hE0] at h
  have hL0 : Pq 2 1200 L0 := hE0 ▸ Ztb ha hb hc
  obtain ⟨L1, hE1⟩ : ∃ G, Xh (Jx pa pb pc) (Jw pa pb pc) (Jv pa pb pc) (Qc 1 1) = G := ⟨_, rfl⟩
  rw [hE1] at h
  have hL1 : Pq 2 1200 L1 := hE1 ▸ Zta ha hb hc
  obtain ⟨L2, hE2⟩ : ∃ G, Xh (Jx pa pb pc) (Jw pa pb pc) (Jv pa pb pc) (Qc 1 2) = G := ⟨_, rfl⟩
  rw [hE2] at h
  have hL2 : Pq 2 1200 L2 := hE2 ▸ Zs9 ha hb hc
  refine gL h (zm rfl (zp (.eX rfl) (zp (.eX rfl) (za rfl (za rfl (zn (zs (yD Za [0, 1, 3, 2, 4, 5, 6, 7, 8, 9, 10] (Qy ⟨.inl rfl, .inl rfl, .inl rfl, .inl rfl, .inl rfl, .inl rfl, .inl rfl, .inl rfl, .inr ⟨10, 57, _, _, _, rfl, rfl, by decide, _, zeroValue57⟩, .inl rfl, .inl rfl, trivial⟩) (ym rfl rfl (yd rfl rfl mr isAgg25 sizeOf25 Zr2 ?_)))))))))); clear h
  refine yd rfl rfl mr isAgg44 sizeOf44 Qt ?_
  refine yv [_] rfl rfl call11 (Zy9 k0 k1 k2 hk0 hk1 hk2) ?_
  refine Qs rfl kk (vs := [_, _, _]) rfl call10 (Zzo 4 (qvp k0, qvp k1, qvp k2) pa pb pc ha hb hc dd (Qh hk0) (Qh hk1) (Qh hk2) hT) (by exact hsA) dd ?_; rintro v52 Ψ52 ⟨ad52, rfl, rfl⟩
  refine ym rfl rfl (yp rfl (.eX rfl) (yp rfl (.eX rfl) (yz rfl zeroValue57 fun b10 => yt rfl rfl rfl Jn uu sizeOf57 rfl nb rfl ?_)))
  refine yp rfl (.assign rfl) (yn (zS ?_)); intro a w h
  obtain ⟨A52, hA52⟩ : ∃ G, Zd0 (fun n m => stE 1 (byL (qvp k0, qvp k1, qvp k2) (Qb pa pb pc) (Zd pa pb pc)) n m) 3 3 = G := ⟨_, rfl⟩
  rw [hA52] at h
  refine gL h (zm rfl (zd rfl mr isAgg44 sizeOf44 Qt ?_)); clear h; intro a w h
  refine Zc (Zx h (vs := [_, _]) rfl call12 (Qcn 4 pa pb pc ha hb hc dd hT) (by exact hsA) dd ?_); clear h; rintro v58 Ψ58 a w ⟨ad58, rfl, rfl⟩ h
  obtain ⟨A58, hA58⟩ : ∃ G, Zd0 (fun n m => Zcu 1 n m * Qb pa pb pc) 3 3 = G := ⟨_, rfl⟩
  rw [hA58] at h
  refine gL h (zm rfl (zp (.eX rfl) (zp (.eX rfl) (zz zeroValue57 fun b12 => zt' rfl rfl Jn uu sizeOf57 rfl nb rfl ?_))))
  refine za rfl (zn (zs (zS (zm rfl (zp (Pure1.cast (v' := .bool false) (.neq rfl rfl) cgd) (zm rfl (zq 63 rfl rfl (.move rfl) (zq 63 rfl rfl (Pure1.cast (v' := .bool false) (.neq rfl rfl) cgd) (zp (.pickF rfl rfl) (zm rfl (zq 67 rfl rfl (.move rfl) (zq 67 rfl rfl (Pure1.cast (v' := .bool false) (.neq rfl rfl) cgd) (zp (.pickF rfl rfl) (zm rfl (zq 71 rfl rfl (.move rfl) (zq 71 rfl rfl (.builtin [_] rfl (Jm _ _ _)) (zq 71 rfl rfl (.move rfl) (zq 71 rfl rfl (.builtin [_] rfl (Xd _ _ _)) (zq 71 rfl rfl (Pure1.cast (v' := .bool false) (.neq rfl rfl) cgd) (zp (.pickF rfl rfl) (zm rfl ?_))))))))))))))))))))); intro a w h
  refine Qe 78 h rfl rfl (Ql h rfl mr isAgg57 sizeOf57 Qn dd ?_); clear h; intro a h
  refine Qe 78 h rfl rfl (Ys h (vs := [_]) rfl call13 (Zzm A52 ad52 (hA52 ▸ Zb3 _ _ _) (hA52 ▸ Zgj (fun i hi k hk => Zrq (Or.inl rfl) _ _ _ hi hk))) (by exact hsA) dd ?_); clear h; intro a w h
  refine gL h (zq 78 rfl rfl (Pure1.cast (v' := .bool false) (.unOp rfl (Vt _)) cgd) (zp (.pickF rfl rfl) (zm rfl ?_))); clear h; intro a w h
  refine Qe 83 h rfl rfl (Ql h rfl mr isAgg57 sizeOf57 Qn dd ?_); clear h; intro a h
  refine Qe 83 h rfl rfl (Ys h (vs := [_]) rfl call13 (Zzm A58 ad58 (hA58 ▸ Zb3 _ _ _) (hA58 ▸ Zgj (fun i hi k hk => by rw [Zof 1 (Or.inl rfl) i hi k hk]))) (by exact hsA) dd ?_); clear h; intro a w h
  refine gL h (zq 83 rfl rfl (Pure1.cast (v' := .bool false) (.unOp rfl (Vt _)) cgd) (zp (.pickF rfl rfl) (zn ?_))); clear h; intro a w h
  refine cW ?_
  refine Zf h rfl ?_
  refine gC h (zk (zS (zm rfl (zm rfl ?_)))); clear h; intro a w h
  refine Zc (Zx h (vs := [_, _]) rfl call14 (Zrb (qvp v0) (qvp v1) (qvp v2) L0 L1 L2 ad40 ad44 a0 a1 a2 c40 3 c0 c1 c2 (Qh hv0) (Qh hv1) (Qh hv2) hL0 hL1 hL2) (by exact hsA) dd ?_); clear h; rintro v90 Ψ90 a w ⟨ad90, c90, rfl, rfl⟩ h
  obtain ⟨P90, hP90⟩ : ∃ G, norm (norm (norm (([] : List Tm) ++ norm (Zi (qvp v0) L0)) ++ norm (Zi (qvp v1) L1)) ++ norm (Zi (qvp v2) L2)) = G := ⟨_, rfl⟩
  rw [hP90] at h
  have hq90 : Pq 2 3622 P90 := hP90 ▸ Qbv hL0 hL1 hL2 (Qh hv0) (Qh hv1) (Qh hv2)
  refine gL h (za rfl (zn (zS (zm rfl ?_)))); clear h; intro a w h
  refine Zc (Zx h (vs := [_]) rfl call15 (C_DxF P90 _ _ 2 3622 hq90 dd dd) (by exact hsA) dd ?_); clear h; rintro v92 Ψ92 a w ⟨ad92, c92, rfl, rfl⟩ h
  refine gL h (za rfl (zn (zS (zm rfl ?_)))); clear h; intro a w h
  refine Zc (Zx h (vs := [_]) rfl call16 (C_DyF P90 _ _ 2 3622 hq90 dd dd) (by exact hsA) dd ?_); clear h; rintro v94 Ψ94 a w ⟨ad94, c94, rfl, rfl⟩ h
  refine gL h (za rfl (zn (zs (yD Za [0, 1, 3, 4, 5, 9, 10, 13, 14, 15, 18, 19, 21, 22, 23, 2, 6, 7, 8, 11, 12, 16, 17, 20, 24, 25, 26, 27, 28, 29] (Qy ⟨.inl rfl, .inl rfl, .inl rfl, .inl rfl, .inl rfl, .inl rfl, .inl rfl, .inl rfl, .inl rfl, .inl rfl, .inl rfl, .inl rfl, .inl rfl, .inl rfl, .inl rfl, .inl rfl, .inl rfl, .inl rfl, .inl rfl, .inl rfl, .inl rfl, .inl rfl, .inl rfl, .inl rfl, .inl rfl, .inl rfl, .inl rfl, .inl rfl, .inr ⟨17, 41, _, _, _, rfl, rfl, by decide, _, Jk⟩, .inl rfl, trivial⟩) (yp rfl (.indexAddr rfl rfl (Zmt _ _)) (yd rfl rfl mr isAgg24 sizeOf24 Zl8 ?_)))))); clear h
  refine ym rfl rfl (ym rfl rfl (yd rfl rfl mr isAgg44 sizeOf44 Qt ?_))
  refine yp rfl (.indexAddr rfl rfl (Zms _ _)) (yd rfl rfl mr isAgg24 sizeOf24 Zl7 ?_)
  refine ym rfl rfl (ym rfl rfl (yd rfl rfl mr isAgg44 sizeOf44 Qt ?_))
  refine yp rfl (.indexAddr rfl rfl (Zmr _ _)) (yd rfl rfl mr isAgg24 sizeOf24 Zl6 ?_)
  refine ym rfl rfl (ym rfl rfl (yd rfl rfl mr isAgg44 sizeOf44 Qt ?_))
  refine yv [_] rfl rfl call19 (Zar k0 (by assumption)) ?_
  have hl97 := Qh (q := k0) (by assumption)
  refine Yn rfl kk (vs := [_, _, _]) rfl call20 (Zh8 (norm (dxL P90)) (norm (dxL P90)) _ _ _ _ 3623 (hq90.dx dd) (hq90.dx dd) dd pa pb pc ha hb hc) (by exact hsA) dd ?_
  have hl101 := Zbo (K := 3623) (hq90.dx dd) (hq90.dx dd) ha hb hc dd
  refine yv [_, _] rfl rfl call18 (Ja _ _ oo oo) ?_
  have hl102 := Zo (qvp k0) (Yk (norm (dxL P90)) (norm (dxL P90)) pa pb pc)
  refine yv [_] rfl rfl call21 (Ki _ oo oo) ?_
  have hl103 := Zq (2) oo oo
  refine yv [_] rfl rfl call19 (Zar k1 (by assumption)) ?_
  have hl106 := Qh (q := k1) (by assumption)
  refine yv [_, _] rfl rfl call18 (Ja _ _ oo oo) ?_
  have hl107 := Zo (((2 : Int) : Rat)) (qvp k1)
  refine Yn rfl kk (vs := [_, _, _]) rfl call20 (Zh8 (norm (dxL P90)) (norm (dyL P90)) _ _ _ _ 3623 (hq90.dx dd) (hq90.dy dd) dd pa pb pc ha hb hc) (by exact hsA) dd ?_
  have hl111 := Zbo (K := 3623) (hq90.dx dd) (hq90.dy dd) ha hb hc dd
  refine yv [_, _] rfl rfl call18 (Ja _ _ oo oo) ?_
  have hl112 := Zo ((((2 : Int) : Rat)) * (qvp k1)) (Yk (norm (dxL P90)) (norm (dyL P90)) pa pb pc)
  refine yv [_] rfl rfl call19 (Zar k2 (by assumption)) ?_
  have hl115 := Qh (q := k2) (by assumption)
  refine Yn rfl kk (vs := [_, _, _]) rfl call20 (Zh8 (norm (dyL P90)) (norm (dyL P90)) _ _ _ _ 3623 (hq90.dy dd) (hq90.dy dd) dd pa pb pc ha hb hc) (by exact hsA) dd ?_
  have hl119 := Zbo (K := 3623) (hq90.dy dd) (hq90.dy dd) ha hb hc dd
  refine yv [_, _] rfl rfl call18 (Ja _ _ oo oo) ?_
  have hl120 := Zo (qvp k2) (Yk (norm (dyL P90)) (norm (dyL P90)) pa pb pc)
  refine Zd5 hS rfl kk [(_, _), (_, _), (_, _)] rfl (Zgy _ _ _ _ _ _ _ _ _ _ _ _ _ _ _) (cellsOf Zz [qvp k0 * Yk (norm (dxL P90)) (norm (dxL P90)) pa pb pc, ((2 : Int) : Rat) * qvp k1 * Yk (norm (dxL P90)) (norm (dyL P90)) pa pb pc, qvp k2 * Yk (norm (dyL P90)) (norm (dyL P90)) pa pb pc]) rfl dd ?_; intro b121
  have hsx : ∀ x ∈ [qvp k0 * Yk (norm (dxL P90)) (norm (dxL P90)) pa pb pc, ((2 : Int) : Rat) * qvp k1 * Yk (norm (dxL P90)) (norm (dyL P90)) pa pb pc, qvp k2 * Yk (norm (dyL P90)) (norm (dyL P90)) pa pb pc], Zw x ≤ 5000000 := by
   intro x hx; simp only [List.mem_cons, List.not_mem_nil, or_false] at hx; rcases hx with rfl | rfl | rfl <;> omega
  refine Yn rfl kk (vs := [_]) rfl call17 (Zre _ 3 5000000 [qvp k0 * Yk (norm (dxL P90)) (norm (dxL P90)) pa pb pc, ((2 : Int) : Rat) * qvp k1 * Yk (norm (dxL P90)) (norm (dyL P90)) pa pb pc, qvp k2 * Yk (norm (dyL P90)) (norm (dyL P90)) pa pb pc] ss dd hsx) (by exact hsA) dd ?_
  refine yz rfl Jk fun b17 => yt rfl rfl rfl Zu uu sizeOf41 rfl nb rfl ?_
  refine yn (zS ?_); intro a w h
  have hK52 : ∀ x ∈ A52, Zw x ≤ 10000 := by subst hA52; intro x hx; obtain ⟨i, k, hi, hk, rfl⟩ := Zim hx; exact Zsk (Or.inl rfl) (Qh hk0) (Qh hk1) (Qh hk2) ha hb hc dd hi hk
  have hK58 : ∀ x ∈ A58, Zw x ≤ 10000 := by subst hA58; intro x hx; obtain ⟨i, k, hi, hk, rfl⟩ := Zim hx; exact Zsm (Or.inl rfl) ha hb hc dd hi hk
  have hKV : ∀ x ∈ [qvp v0, qvp v1, qvp v2], Zw x ≤ 10000 := by
   intro x hx; simp only [List.mem_cons, List.not_mem_nil, or_false] at hx; rcases hx with rfl | rfl | rfl <;> exact Nat.le_trans (Qh (by assumption)) dd
  refine gL h (zd rfl mr isAgg57 sizeOf57 Qn ?_)
  refine zm rfl (zm rfl ?_); intro a w h
  refine Zc (Ys h (vs := [_, _, _]) rfl call22 (Ztm A52 [qvp v0, qvp v1, qvp v2] ad52 ad40 c40 (hA52 ▸ Zb3 _ _ _) rfl hK52 hKV) (by exact hsA) dd ?_); clear h; intro a w h
  refine gL h (zm rfl (zp (.eX rfl) (zp (.eX rfl) (zz Jk fun b18 => zt' rfl rfl Zu uu sizeOf41 rfl nb rfl ?_))))
  refine za rfl (zn (zS (zd rfl mr isAgg57 sizeOf57 Qn ?_)))
  refine zm rfl (zm rfl ?_); intro a w h
  refine Zc (Ys h (vs := [_, _, _]) rfl call22 (Ztm A58 [qvp v0, qvp v1, qvp v2] ad58 ad40 c40 (hA58 ▸ Zb3 _ _ _) rfl hK58 hKV) (by exact hsA) dd ?_); clear h; intro a w h
  refine gL h (zm rfl (zp (.eX rfl) (zp (.eX rfl) (zz Jk fun b20 => zt' rfl rfl Zu uu sizeOf41 rfl nb rfl ?_))))
  refine za rfl (zn (zs (yD Za [0, 1, 2, 3, 4, 5, 6, 7, 8, 9, 10, 11, 12, 13, 14, 15, 16, 17, 18, 19, 20, 21, 22] (Ze kk) ?_)))
  have hQ1 : Vg (fun i => [qvp v0, qvp v1, qvp v2].getD i 0 * Zf1 A52 [qvp v0, qvp v1, qvp v2] 3 i) 3 = [qvp k0 * Yk (norm (dxL P90)) (norm (dxL P90)) pa pb pc, ((2 : Int) : Rat) * qvp k1 * Yk (norm (dxL P90)) (norm (dyL P90)) pa pb pc, qvp k2 * Yk (norm (dyL P90)) (norm (dyL P90)) pa pb pc].foldl (· + ·) 0 := by subst hP90 hA52 hE0 hE1 hE2; exact Zv2 (qvp k0, qvp k1, qvp k2) hT (qvp v0) (qvp v1) (qvp v2)
  have hQ2 : Vg (fun i => [qvp v0, qvp v1, qvp v2].getD i 0 * Zf1 A58 [qvp v0, qvp v1, qvp v2] 3 i) 3 = Yk P90 P90 pa pb pc := by subst hP90 hA58 hE0 hE1 hE2; exact Qav hT (qvp v0) (qvp v1) (qvp v2)
  refine ym rfl rfl (yp rfl (Pure1.cast (v' := .bool true) (.eql rfl rfl) cgd) (ym rfl rfl (yq rfl rfl rfl (.move rfl) (yq rfl rfl rfl (Pure1.cast (v' := .bool true) (.eql rfl rfl) cgd) (yp rfl (.pickT rfl rfl) (ym rfl rfl (yg rfl rfl rfl rfl mr isAgg41 sizeOf41 Zl ?_)))))))
  refine yg rfl rfl rfl rfl mr isAgg41 sizeOf41 Zl ?_
  refine yq rfl rfl rfl (.binOp rfl rfl (fun _ => Zik _ _ _ _ hQ1 _)) (yp rfl (.pickT rfl rfl) (ym rfl rfl (yg rfl rfl rfl rfl mr isAgg41 sizeOf41 Zl ?_)))
  refine yq rfl rfl rfl (.move rfl) (yq rfl rfl rfl (.move rfl) (yg rfl rfl rfl rfl mr isAgg44 sizeOf44 Qt ?_))
  refine Zd4 rfl rfl rfl kk (vs := [_, _, _]) rfl call20 (Zh8 P90 P90 _ _ _ _ 3622 hq90 hq90 dd pa pb pc ha hb hc) (by exact hsA) dd ?_
  have hl153 := Zbo (K := 3622) hq90 hq90 ha hb hc dd
  refine yq rfl rfl rfl (.binOp rfl rfl (fun _ => Zik _ _ _ _ hQ2 _)) (yp rfl (.pickT rfl rfl) (ym rfl rfl ?_))
  refine Zd4 rfl rfl rfl kk (vs := []) rfl call6 (Znj) (by exact hsA) dd ?_
  refine yp rfl (.pickT rfl rfl) (yp rfl (.assign rfl) (yn (zt ?_))); intro a w h
  exact Zed h
set_option maxHeartbeats 2000000 in
theorem Zkl (k0 k1 k2 : Int × Int) (p0 p1 p2 : (Int × Int) × (Int × Int)) (v0 v1 v2 v3 v4 v5 : Int × Int) (pm : (Int × Int) × (Int × Int)) (hk0 : OkQ k0) (hk1 : OkQ k1) (hk2 : OkQ k2) (hp0 : OkP p0) (hp1 : OkP p1) (hp2 : OkP p2) (hv0 : OkQ v0) (hv1 : OkQ v1) (hv2 : OkQ v2) (hv3 : OkQ v3) (hv4 : OkQ v4) (hv5 : OkQ v5) (hpm : OkP pm) : Zaq Tryz.prog 3 [.agg #[.bool true, .int .i64 k0.1, .int .u32 k0.2, .int .i64 k1.1, .int .u32 k1.2, .int .i64 k2.1, .int .u32 k2.2, .int .i64 p0.1.1, .int .u32 p0.1.2, .int .i64 p0.2.1, .int .u32 p0.2.2, .int .i64 p1.1.1, .int .u32 p1.1.2, .int .i64 p1.2.1, .int .u32 p1.2.2, .int .i64 p2.1.1, .int .u32 p2.1.2, .int .i64 p2.2.1, .int .u32 p2.2.2, .int .i64 v0.1, .int .u32 v0.2, .int .i64 v1.1, .int .u32 v1.2, .int .i64 v2.1, .int .u32 v2.2, .int .i64 v3.1, .int .u32 v3.2, .int .i64 v4.1, .int .u32 v4.2, .int .i64 v5.1, .int .u32 v5.2, .int .i64 pm.1.1, .int .u32 pm.1.2, .int .i64 pm.2.1, .int .u32 pm.2.2]] [SideF] (.bool true) := by
 refine fn_intro func3 rfl ntmps3 nb ?_
 intro S w0 a hS h
 replace h := h.derive (R := Row none (cellsOf Zr [])) (fun X _ hne => absurd rfl hne)
 refine gC h (zS (zx rfl fun b1 => za rfl (zn (zS (zp (.fA rfl Zya) (zd rfl mr isAgg25 sizeOf25 Zn3 ?_))))))
 refine zz zeroValue25 fun b3 => zt' rfl rfl Zrp uu sizeOf25 rfl nb rfl ?_
 refine zn (zS (zp (.fA rfl Zx9) (zd rfl mr isAgg29 sizeOf29 Zk6 ?_))); intro a w h
 refine Zc (Zx h (vs := [_]) rfl call5 (Zph p0 p1 p2 hp0 hp1 hp2) (by exact hsA) dd ?_); clear h; rintro v27 Ψ27 a w ⟨pa, pb, pc, ha, hb, hc, rfl, rfl⟩ h
 refine gL h (zm rfl (zp (.eX rfl) (zp (.eX rfl) (zz Zd9 fun b4 => zt' rfl rfl Vw uu sizeOf44 rfl nb rfl ?_))))
 refine za rfl (zn (zs (zS (zm rfl (zp (.unOp rfl (Vt _)) (zn ?_)))))); intro a w h
 refine cW ?_
 refine Zh h rfl (fun hc31 => ?_) (fun hc31 => ?_)
 ·
  skip
  skip
  refine wp_seq (wp_region_lit ?_)
  refine Zc (Ys h (vs := []) rfl call6 (Znj) (by exact hsA) dd ?_); clear h; intro a w h
  refine gL h (za rfl (zn (zt ?_))); clear h; intro a w h
  exact Zed h
 ·
  skip
  have hT : 0 < (twP pa pb pc).num.sign := by simpa using hc31
  refine gC h (zk (zS (zp (.fA rfl Zm1) (zd rfl mr isAgg4 sizeOf4 Zl5 ?_))))
  refine zv [_] rfl call7 (Qcj) (za rfl (zn (zS (zp (.fA rfl Zm1) (zd rfl mr isAgg4 sizeOf4 Zl5 ?_)))))
  refine zp (.fA rfl Zx8) (zd rfl mr isAgg30 sizeOf30 Zjc ?_); intro a w h
  refine Zc (Zx h (vs := [_, _]) rfl call8 (Zvd v0 v1 v2 v3 v4 v5 hv0 hv1 hv2 hv3 hv4 hv5) (by exact hsA) dd ?_); clear h; rintro v40 Ψ40 a w ⟨ad40, c40, rfl, rfl⟩ h
  refine gL h (za rfl (zn (zS (zm rfl (zd rfl mr isAgg44 sizeOf44 Qt ?_))))); clear h; intro a w h
  refine Zc (Zx h (vs := [_, _]) rfl call9 (Qcs pa pb pc ha hb hc hT) (by exact hsA) dd ?_); clear h; rintro v44 Ψ44 a w ⟨ad44, a0, c0, a1, c1, a2, c2, a3, c3, a4, c4, a5, c5, rfl, rfl⟩ h
  obtain ⟨L0, hE0⟩ : ∃ G, Xh (Jx pa pb pc) (Jw pa pb pc) (Jv pa pb pc) (Qc 2 0) = G := ⟨_, rfl⟩
  rw [hE0] at h
  have hL0 : Pq 2 1200 L0 := hE0 ▸ Qb2 ha hb hc
  obtain ⟨L1, hE1⟩ : ∃ G, Xh (Jx pa pb pc) (Jw pa pb pc) (Jv pa pb pc) (Qc 2 1) = G := ⟨_, rfl⟩
  rw [hE1] at h
  have hL1 : Pq 2 1200 L1 := hE1 ▸ Qb1 ha hb hc
  obtain ⟨L2, hE2⟩ : ∃ G, Xh (Jx pa pb pc) (Jw pa pb pc) (Jv pa pb pc) (Qc 2 2) = G := ⟨_, rfl⟩
  rw [hE2] at h
  have hL2 : Pq 2 1200 L2 := hE2 ▸ Qb0 ha hb hc
  obtain ⟨L3, hE3⟩ : ∃ G, Xh (Jx pa pb pc) (Jw pa pb pc) (Jv pa pb pc) (Qc 2 3) = G := ⟨_, rfl⟩
  rw [hE3] at h
  have hL3 : Pq 2 1200 L3 := hE3 ▸ Qbz ha hb hc
  obtain ⟨L4, hE4⟩ : ∃ G, Xh (Jx pa pb pc) (Jw pa pb pc) (Jv pa pb pc) (Qc 2 4) = G := ⟨_, rfl⟩
  rw [hE4] at h
  have hL4 : Pq 2 1200 L4 := hE4 ▸ Qby ha hb hc
  obtain ⟨L5, hE5⟩ : ∃ G, Xh (Jx pa pb pc) (Jw pa pb pc) (Jv pa pb pc) (Qc 2 5) = G := ⟨_, rfl⟩
  rw [hE5] at h
  have hL5 : Pq 2 1200 L5 := hE5 ▸ Qbx ha hb hc
  refine gL h (zm rfl (zp (.eX rfl) (zp (.eX rfl) (za rfl (za rfl (zn (zs (yD Za [0, 1, 3, 2, 4, 5, 6, 7, 8, 9, 10] (Qy ⟨.inl rfl, .inl rfl, .inl rfl, .inl rfl, .inl rfl, .inl rfl, .inl rfl, .inl rfl, .inr ⟨10, 57, _, _, _, rfl, rfl, by decide, _, zeroValue57⟩, .inl rfl, .inl rfl, trivial⟩) (ym rfl rfl (yd rfl rfl mr isAgg25 sizeOf25 Zr2 ?_)))))))))); clear h
  refine yd rfl rfl mr isAgg44 sizeOf44 Qt ?_
  refine yv [_] rfl rfl call11 (Zy9 k0 k1 k2 hk0 hk1 hk2) ?_
  refine Qs rfl kk (vs := [_, _, _]) rfl call10 (Zzn 4 (qvp k0, qvp k1, qvp k2) pa pb pc ha hb hc dd (Qh hk0) (Qh hk1) (Qh hk2) hT) (by exact hsA) dd ?_; rintro v52 Ψ52 ⟨ad52, rfl, rfl⟩
  refine ym rfl rfl (yp rfl (.eX rfl) (yp rfl (.eX rfl) (yz rfl zeroValue57 fun b10 => yt rfl rfl rfl Jn uu sizeOf57 rfl nb rfl ?_)))
  refine yp rfl (.assign rfl) (yn (zS ?_)); intro a w h
  obtain ⟨A52, hA52⟩ : ∃ G, Zd0 (fun n m => stE 2 (byL (qvp k0, qvp k1, qvp k2) (Qb pa pb pc) (Zd pa pb pc)) n m) 6 6 = G := ⟨_, rfl⟩
  rw [hA52] at h
  refine gL h (zm rfl (zd rfl mr isAgg44 sizeOf44 Qt ?_)); clear h; intro a w h
  refine Zc (Zx h (vs := [_, _]) rfl call12 (Qcm 4 pa pb pc ha hb hc dd hT) (by exact hsA) dd ?_); clear h; rintro v58 Ψ58 a w ⟨ad58, rfl, rfl⟩ h
  obtain ⟨A58, hA58⟩ : ∃ G, Zd0 (fun n m => Zcu 2 n m * Qb pa pb pc) 6 6 = G := ⟨_, rfl⟩
  rw [hA58] at h
  refine gL h (zm rfl (zp (.eX rfl) (zp (.eX rfl) (zz zeroValue57 fun b12 => zt' rfl rfl Jn uu sizeOf57 rfl nb rfl ?_))))
  refine za rfl (zn (zs (zS (zm rfl (zp (Pure1.cast (v' := .bool false) (.neq rfl rfl) cgd) (zm rfl (zq 63 rfl rfl (.move rfl) (zq 63 rfl rfl (Pure1.cast (v' := .bool false) (.neq rfl rfl) cgd) (zp (.pickF rfl rfl) (zm rfl (zq 67 rfl rfl (.move rfl) (zq 67 rfl rfl (Pure1.cast (v' := .bool false) (.neq rfl rfl) cgd) (zp (.pickF rfl rfl) (zm rfl (zq 71 rfl rfl (.move rfl) (zq 71 rfl rfl (.builtin [_] rfl (Jm _ _ _)) (zq 71 rfl rfl (.move rfl) (zq 71 rfl rfl (.builtin [_] rfl (Xd _ _ _)) (zq 71 rfl rfl (Pure1.cast (v' := .bool false) (.neq rfl rfl) cgd) (zp (.pickF rfl rfl) (zm rfl ?_))))))))))))))))))))); intro a w h
  refine Qe 78 h rfl rfl (Ql h rfl mr isAgg57 sizeOf57 Qn dd ?_); clear h; intro a h
  refine Qe 78 h rfl rfl (Ys h (vs := [_]) rfl call13 (Zzl A52 ad52 (hA52 ▸ Zb3 _ _ _) (hA52 ▸ Zgj (fun i hi k hk => Zrq (Or.inr rfl) _ _ _ hi hk))) (by exact hsA) dd ?_); clear h; intro a w h
  refine gL h (zq 78 rfl rfl (Pure1.cast (v' := .bool false) (.unOp rfl (Vt _)) cgd) (zp (.pickF rfl rfl) (zm rfl ?_))); clear h; intro a w h
  refine Qe 83 h rfl rfl (Ql h rfl mr isAgg57 sizeOf57 Qn dd ?_); clear h; intro a h
  refine Qe 83 h rfl rfl (Ys h (vs := [_]) rfl call13 (Zzl A58 ad58 (hA58 ▸ Zb3 _ _ _) (hA58 ▸ Zgj (fun i hi k hk => by rw [Zof 2 (Or.inr rfl) i hi k hk]))) (by exact hsA) dd ?_); clear h; intro a w h
  refine gL h (zq 83 rfl rfl (Pure1.cast (v' := .bool false) (.unOp rfl (Vt _)) cgd) (zp (.pickF rfl rfl) (zn ?_))); clear h; intro a w h
  refine cW ?_
  refine Zf h rfl ?_
  refine gC h (zk (zS (zm rfl (zm rfl ?_)))); clear h; intro a w h
  refine Zc (Zx h (vs := [_, _]) rfl call14 (Zra (qvp v0) (qvp v1) (qvp v2) (qvp v3) (qvp v4) (qvp v5) L0 L1 L2 L3 L4 L5 ad40 ad44 a0 a1 a2 a3 a4 a5 c40 6 c0 c1 c2 c3 c4 c5 (Qh hv0) (Qh hv1) (Qh hv2) (Qh hv3) (Qh hv4) (Qh hv5) hL0 hL1 hL2 hL3 hL4 hL5) (by exact hsA) dd ?_); clear h; rintro v90 Ψ90 a w ⟨ad90, c90, rfl, rfl⟩ h
  obtain ⟨P90, hP90⟩ : ∃ G, norm (norm (norm (norm (norm (norm (([] : List Tm) ++ norm (Zi (qvp v0) L0)) ++ norm (Zi (qvp v1) L1)) ++ norm (Zi (qvp v2) L2)) ++ norm (Zi (qvp v3) L3)) ++ norm (Zi (qvp v4) L4)) ++ norm (Zi (qvp v5) L5)) = G := ⟨_, rfl⟩
  rw [hP90] at h
  have hq90 : Pq 2 7243 P90 := hP90 ▸ Qbu hL0 hL1 hL2 hL3 hL4 hL5 (Qh hv0) (Qh hv1) (Qh hv2) (Qh hv3) (Qh hv4) (Qh hv5)
  refine gL h (za rfl (zn (zS (zm rfl ?_)))); clear h; intro a w h
  refine Zc (Zx h (vs := [_]) rfl call15 (C_DxF P90 _ _ 2 7243 hq90 dd dd) (by exact hsA) dd ?_); clear h; rintro v92 Ψ92 a w ⟨ad92, c92, rfl, rfl⟩ h
  refine gL h (za rfl (zn (zS (zm rfl ?_)))); clear h; intro a w h
  refine Zc (Zx h (vs := [_]) rfl call16 (C_DyF P90 _ _ 2 7243 hq90 dd dd) (by exact hsA) dd ?_); clear h; rintro v94 Ψ94 a w ⟨ad94, c94, rfl, rfl⟩ h
  refine gL h (za rfl (zn (zs (yD Za [0, 1, 3, 4, 5, 9, 10, 13, 14, 15, 18, 19, 21, 22, 23, 2, 6, 7, 8, 11, 12, 16, 17, 20, 24, 25, 26, 27, 28, 29] (Qy ⟨.inl rfl, .inl rfl, .inl rfl, .inl rfl, .inl rfl, .inl rfl, .inl rfl, .inl rfl, .inl rfl, .inl rfl, .inl rfl, .inl rfl, .inl rfl, .inl rfl, .inl rfl, .inl rfl, .inl rfl, .inl rfl, .inl rfl, .inl rfl, .inl rfl, .inl rfl, .inl rfl, .inl rfl, .inl rfl, .inl rfl, .inl rfl, .inl rfl, .inr ⟨17, 41, _, _, _, rfl, rfl, by decide, _, Jk⟩, .inl rfl, trivial⟩) (yp rfl (.indexAddr rfl rfl (Zmt _ _)) (yd rfl rfl mr isAgg24 sizeOf24 Zl8 ?_)))))); clear h
  refine ym rfl rfl (ym rfl rfl (yd rfl rfl mr isAgg44 sizeOf44 Qt ?_))
  refine yp rfl (.indexAddr rfl rfl (Zms _ _)) (yd rfl rfl mr isAgg24 sizeOf24 Zl7 ?_)
  refine ym rfl rfl (ym rfl rfl (yd rfl rfl mr isAgg44 sizeOf44 Qt ?_))
  refine yp rfl (.indexAddr rfl rfl (Zmr _ _)) (yd rfl rfl mr isAgg24 sizeOf24 Zl6 ?_)
  refine ym rfl rfl (ym rfl rfl (yd rfl rfl mr isAgg44 sizeOf44 Qt ?_))
  refine yv [_] rfl rfl call19 (Zar k0 (by assumption)) ?_
  have hl97 := Qh (q := k0) (by assumption)
  refine Yn rfl kk (vs := [_, _, _]) rfl call20 (Zh8 (norm (dxL P90)) (norm (dxL P90)) _ _ _ _ 7244 (hq90.dx dd) (hq90.dx dd) dd pa pb pc ha hb hc) (by exact hsA) dd ?_
  have hl101 := Zbo (K := 7244) (hq90.dx dd) (hq90.dx dd) ha hb hc dd
  refine yv [_, _] rfl rfl call18 (Ja _ _ oo oo) ?_
  have hl102 := Zo (qvp k0) (Yk (norm (dxL P90)) (norm (dxL P90)) pa pb pc)
  refine yv [_] rfl rfl call21 (Ki _ oo oo) ?_
  have hl103 := Zq (2) oo oo
  refine yv [_] rfl rfl call19 (Zar k1 (by assumption)) ?_
  have hl106 := Qh (q := k1) (by assumption)
  refine yv [_, _] rfl rfl call18 (Ja _ _ oo oo) ?_
  have hl107 := Zo (((2 : Int) : Rat)) (qvp k1)
  refine Yn rfl kk (vs := [_, _, _]) rfl call20 (Zh8 (norm (dxL P90)) (norm (dyL P90)) _ _ _ _ 7244 (hq90.dx dd) (hq90.dy dd) dd pa pb pc ha hb hc) (by exact hsA) dd ?_
  have hl111 := Zbo (K := 7244) (hq90.dx dd) (hq90.dy dd) ha hb hc dd
  refine yv [_, _] rfl rfl call18 (Ja _ _ oo oo) ?_
  have hl112 := Zo ((((2 : Int) : Rat)) * (qvp k1)) (Yk (norm (dxL P90)) (norm (dyL P90)) pa pb pc)
  refine yv [_] rfl rfl call19 (Zar k2 (by assumption)) ?_
  have hl115 := Qh (q := k2) (by assumption)
  refine Yn rfl kk (vs := [_, _, _]) rfl call20 (Zh8 (norm (dyL P90)) (norm (dyL P90)) _ _ _ _ 7244 (hq90.dy dd) (hq90.dy dd) dd pa pb pc ha hb hc) (by exact hsA) dd ?_
  have hl119 := Zbo (K := 7244) (hq90.dy dd) (hq90.dy dd) ha hb hc dd
  refine yv [_, _] rfl rfl call18 (Ja _ _ oo oo) ?_
  have hl120 := Zo (qvp k2) (Yk (norm (dyL P90)) (norm (dyL P90)) pa pb pc)
  refine Zd5 hS rfl kk [(_, _), (_, _), (_, _)] rfl (Zgy _ _ _ _ _ _ _ _ _ _ _ _ _ _ _) (cellsOf Zz [qvp k0 * Yk (norm (dxL P90)) (norm (dxL P90)) pa pb pc, ((2 : Int) : Rat) * qvp k1 * Yk (norm (dxL P90)) (norm (dyL P90)) pa pb pc, qvp k2 * Yk (norm (dyL P90)) (norm (dyL P90)) pa pb pc]) rfl dd ?_; intro b121
  have hsx : ∀ x ∈ [qvp k0 * Yk (norm (dxL P90)) (norm (dxL P90)) pa pb pc, ((2 : Int) : Rat) * qvp k1 * Yk (norm (dxL P90)) (norm (dyL P90)) pa pb pc, qvp k2 * Yk (norm (dyL P90)) (norm (dyL P90)) pa pb pc], Zw x ≤ 5000000 := by
   intro x hx; simp only [List.mem_cons, List.not_mem_nil, or_false] at hx; rcases hx with rfl | rfl | rfl <;> omega
  refine Yn rfl kk (vs := [_]) rfl call17 (Zre _ 3 5000000 [qvp k0 * Yk (norm (dxL P90)) (norm (dxL P90)) pa pb pc, ((2 : Int) : Rat) * qvp k1 * Yk (norm (dxL P90)) (norm (dyL P90)) pa pb pc, qvp k2 * Yk (norm (dyL P90)) (norm (dyL P90)) pa pb pc] ss dd hsx) (by exact hsA) dd ?_
  refine yz rfl Jk fun b17 => yt rfl rfl rfl Zu uu sizeOf41 rfl nb rfl ?_
  refine yn (zS ?_); intro a w h
  have hK52 : ∀ x ∈ A52, Zw x ≤ 10000 := by subst hA52; intro x hx; obtain ⟨i, k, hi, hk, rfl⟩ := Zim hx; exact Zsk (Or.inr rfl) (Qh hk0) (Qh hk1) (Qh hk2) ha hb hc dd hi hk
  have hK58 : ∀ x ∈ A58, Zw x ≤ 10000 := by subst hA58; intro x hx; obtain ⟨i, k, hi, hk, rfl⟩ := Zim hx; exact Zsm (Or.inr rfl) ha hb hc dd hi hk
  have hKV : ∀ x ∈ [qvp v0, qvp v1, qvp v2, qvp v3, qvp v4, qvp v5], Zw x ≤ 10000 := by
   intro x hx; simp only [List.mem_cons, List.not_mem_nil, or_false] at hx; rcases hx with rfl | rfl | rfl | rfl | rfl | rfl <;> exact Nat.le_trans (Qh (by assumption)) dd
  refine gL h (zd rfl mr isAgg57 sizeOf57 Qn ?_)
  refine zm rfl (zm rfl ?_); intro a w h
  refine Zc (Ys h (vs := [_, _, _]) rfl call22 (Ztl A52 [qvp v0, qvp v1, qvp v2, qvp v3, qvp v4, qvp v5] ad52 ad40 c40 (hA52 ▸ Zb3 _ _ _) rfl hK52 hKV) (by exact hsA) dd ?_); clear h; intro a w h
  refine gL h (zm rfl (zp (.eX rfl) (zp (.eX rfl) (zz Jk fun b18 => zt' rfl rfl Zu uu sizeOf41 rfl nb rfl ?_))))
  refine za rfl (zn (zS (zd rfl mr isAgg57 sizeOf57 Qn ?_)))
  refine zm rfl (zm rfl ?_); intro a w h
  refine Zc (Ys h (vs := [_, _, _]) rfl call22 (Ztl A58 [qvp v0, qvp v1, qvp v2, qvp v3, qvp v4, qvp v5] ad58 ad40 c40 (hA58 ▸ Zb3 _ _ _) rfl hK58 hKV) (by exact hsA) dd ?_); clear h; intro a w h
  refine gL h (zm rfl (zp (.eX rfl) (zp (.eX rfl) (zz Jk fun b20 => zt' rfl rfl Zu uu sizeOf41 rfl nb rfl ?_))))
  refine za rfl (zn (zs (yD Za [0, 1, 2, 3, 4, 5, 6, 7, 8, 9, 10, 11, 12, 13, 14, 15, 16, 17, 18, 19, 20, 21, 22] (Ze kk) ?_)))
  have hQ1 : Vg (fun i => [qvp v0, qvp v1, qvp v2, qvp v3, qvp v4, qvp v5].getD i 0 * Zf1 A52 [qvp v0, qvp v1, qvp v2, qvp v3, qvp v4, qvp v5] 6 i) 6 = [qvp k0 * Yk (norm (dxL P90)) (norm (dxL P90)) pa pb pc, ((2 : Int) : Rat) * qvp k1 * Yk (norm (dxL P90)) (norm (dyL P90)) pa pb pc, qvp k2 * Yk (norm (dyL P90)) (norm (dyL P90)) pa pb pc].foldl (· + ·) 0 := by subst hP90 hA52 hE0 hE1 hE2 hE3 hE4 hE5; exact Zv1 (qvp k0, qvp k1, qvp k2) hT (qvp v0) (qvp v1) (qvp v2) (qvp v3) (qvp v4) (qvp v5)
  have hQ2 : Vg (fun i => [qvp v0, qvp v1, qvp v2, qvp v3, qvp v4, qvp v5].getD i 0 * Zf1 A58 [qvp v0, qvp v1, qvp v2, qvp v3, qvp v4, qvp v5] 6 i) 6 = Yk P90 P90 pa pb pc := by subst hP90 hA58 hE0 hE1 hE2 hE3 hE4 hE5; exact Qau hT (qvp v0) (qvp v1) (qvp v2) (qvp v3) (qvp v4) (qvp v5)
  refine ym rfl rfl (yp rfl (Pure1.cast (v' := .bool true) (.eql rfl rfl) cgd) (ym rfl rfl (yq rfl rfl rfl (.move rfl) (yq rfl rfl rfl (Pure1.cast (v' := .bool true) (.eql rfl rfl) cgd) (yp rfl (.pickT rfl rfl) (ym rfl rfl (yg rfl rfl rfl rfl mr isAgg41 sizeOf41 Zl ?_)))))))
  refine yg rfl rfl rfl rfl mr isAgg41 sizeOf41 Zl ?_
  refine yq rfl rfl rfl (.binOp rfl rfl (fun _ => Zik _ _ _ _ hQ1 _)) (yp rfl (.pickT rfl rfl) (ym rfl rfl (yg rfl rfl rfl rfl mr isAgg41 sizeOf41 Zl ?_)))
  refine yq rfl rfl rfl (.move rfl) (yq rfl rfl rfl (.move rfl) (yg rfl rfl rfl rfl mr isAgg44 sizeOf44 Qt ?_))
  refine Zd4 rfl rfl rfl kk (vs := [_, _, _]) rfl call20 (Zh8 P90 P90 _ _ _ _ 7243 hq90 hq90 dd pa pb pc ha hb hc) (by exact hsA) dd ?_
  have hl153 := Zbo (K := 7243) hq90 hq90 ha hb hc dd
  refine yq rfl rfl rfl (.binOp rfl rfl (fun _ => Zik _ _ _ _ hQ2 _)) (yp rfl (.pickT rfl rfl) (ym rfl rfl ?_))
  refine Zd4 rfl rfl rfl kk (vs := []) rfl call6 (Znj) (by exact hsA) dd ?_
  refine yp rfl (.pickT rfl rfl) (yp rfl (.assign rfl) (yn (zt ?_))); intro a w h
  exact Zed h
end Go.Proofs.YthcjdeklpegceaaGreatDoor
