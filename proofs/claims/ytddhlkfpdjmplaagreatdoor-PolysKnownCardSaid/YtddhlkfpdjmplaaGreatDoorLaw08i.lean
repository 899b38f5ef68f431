/- Walks of functions. By an AI agent. -/
import Derived.Test.YtddhlkfpdjmplaaGreatDoorPolyk
set_option linter.unusedVariables false
set_option linter.unusedSimpArgs false
set_option maxRecDepth 4000
namespace Go.Proofs.YtddhlkfpdjmplaaGreatDoor
open Go Go.Proofs Go.Fx Tryz
attribute [local irreducible] Oper.wp Code.wp wpList Fx.Head wpOp
section
theorem Zsa (b off : Nat) (w : World) : (Instr.indexAt 87 (.pointer (some ⟨b, off, none⟩)) (.int .i64 0)).run Tryz.prog w = .ok (.pointer (some ⟨b, off + 0, none⟩)) w := by
 simp [go_sem, Instr.indexAt]
theorem Zm4 {c0 c1 c2 c3 c4 c5 c6 c7 c8 c9 c10 c11 : Value} : Qk true 2 #[c0, c1, c2, c3, c4, c5, c6, c7, c8, c9, c10, c11] 0 = some (.agg #[c0, c1]) := rfl
theorem Zr9 (b off : Nat) (w : World) : (Instr.indexAt 87 (.pointer (some ⟨b, off, none⟩)) (.int .i64 1)).run Tryz.prog w = .ok (.pointer (some ⟨b, off + 2, none⟩)) w := by
 simp [go_sem, Instr.indexAt]
theorem Zm3 {c0 c1 c2 c3 c4 c5 c6 c7 c8 c9 c10 c11 : Value} : Qk true 2 #[c0, c1, c2, c3, c4, c5, c6, c7, c8, c9, c10, c11] 2 = some (.agg #[c2, c3]) := rfl
theorem Zr8 (b off : Nat) (w : World) : (Instr.indexAt 87 (.pointer (some ⟨b, off, none⟩)) (.int .i64 2)).run Tryz.prog w = .ok (.pointer (some ⟨b, off + 4, none⟩)) w := by
 simp [go_sem, Instr.indexAt]
theorem Zm2 {c0 c1 c2 c3 c4 c5 c6 c7 c8 c9 c10 c11 : Value} : Qk true 2 #[c0, c1, c2, c3, c4, c5, c6, c7, c8, c9, c10, c11] 4 = some (.agg #[c4, c5]) := rfl
theorem Zr7 (b off : Nat) (w : World) : (Instr.indexAt 87 (.pointer (some ⟨b, off, none⟩)) (.int .i64 3)).run Tryz.prog w = .ok (.pointer (some ⟨b, off + 6, none⟩)) w := by
 simp [go_sem, Instr.indexAt]
theorem Zm1 {c0 c1 c2 c3 c4 c5 c6 c7 c8 c9 c10 c11 : Value} : Qk true 2 #[c0, c1, c2, c3, c4, c5, c6, c7, c8, c9, c10, c11] 6 = some (.agg #[c6, c7]) := rfl
theorem Zr6 (b off : Nat) (w : World) : (Instr.indexAt 87 (.pointer (some ⟨b, off, none⟩)) (.int .i64 4)).run Tryz.prog w = .ok (.pointer (some ⟨b, off + 8, none⟩)) w := by
 simp [go_sem, Instr.indexAt]
theorem Zm0 {c0 c1 c2 c3 c4 c5 c6 c7 c8 c9 c10 c11 : Value} : Qk true 2 #[c0, c1, c2, c3, c4, c5, c6, c7, c8, c9, c10, c11] 8 = some (.agg #[c8, c9]) := rfl
theorem Zr5 (b off : Nat) (w : World) : (Instr.indexAt 87 (.pointer (some ⟨b, off, none⟩)) (.int .i64 5)).run Tryz.prog w = .ok (.pointer (some ⟨b, off + 10, none⟩)) w := by
 simp [go_sem, Instr.indexAt]
theorem Zkf {c0 c1 c2 c3 c4 c5 c6 c7 c8 c9 c10 c11 : Value} : Qk true 2 #[c0, c1, c2, c3, c4, c5, c6, c7, c8, c9, c10, c11] 10 = some (.agg #[c10, c11]) := rfl
theorem Zwm {l : List Ti} {Z : List Tz} (hZ : l.map tzz = Z) {lo : List FT} (h : Eqv (pol (xs lo)) (if erT (l.map tzI) = 0 then (l.map tzI).map tm3 else [])) : Eqv (pol (xs lo)) (vZ Z) := by
 have h1 := Zwn hZ h
 rw [← Qf9] at h1
 exact h1.trans (Eqv.nrm _)
theorem zero_nil : Eqv (pol (xs (List.replicate 169 FT0))) [] := by rw [Vx]; exact fun φ => Jh φ 169
theorem Qe2 : Tb 12 1 (xs (List.replicate 169 FT0)) := by rw [Vx]; exact Tb.zero 12
theorem Zdk (l m : List Ti) (ad ad2 : Option Addr) (c c2 : Nat) (hokl : ∀ t ∈ l, OkT t) (hokm : ∀ t ∈ m, OkT t) (hln : l.length ≤ 9223372036854775807) (hmn : m.length ≤ 9223372036854775807) (n er ep : Int) (hzy : Zx (l.map tzz) = 0 ↔ Zx (m.map tzz) = 0) (hM : MulC (vZ (l.map tzz)) (vZ (m.map tzz)) er) (hP : Qhl (vZ (l.map tzz)) n ep) : Vj Tryz.prog 37 [.slice ad l.length c, .slice ad2 m.length c2, .int .i64 n] [TabF, Row ad (cellsOf Jq l), Row ad2 (cellsOf Jq m)] (.bool true) := by
 refine fn_intro func37 rfl ntmps37 nb ?_
 intro S w0 a hS h
 refine gC h (zS (za rfl (zn (zs (zS (zm rfl (zp (.builtin [_] rfl (Qz _ _ _)) (zp (.gtr rfl rfl) ?_)))))))); clear h; intro a w h
 refine Zg h (fun hc23 h => ?_) (fun hc23 h => ?_)
 focus
  refine gL h (zm rfl (zo 24 rfl rfl rfl (zo 24 rfl rfl rfl (zo 24 rfl rfl rfl (zp (.pickT rfl rfl) (zn ?_)))))); clear h; intro a w h
 rotate_left
 focus
  refine gL h (zm rfl (zq 24 rfl rfl (.move rfl) (zq 24 rfl rfl (.builtin [_] rfl (Qz _ _ _)) (zq 24 rfl rfl (.gtr rfl rfl) ?_)))); clear h; intro a w h
  refine Zg h (fun hc27 h => ?_) (fun hc27 h => ?_)
  rotate_left
  ·
   skip
   have hll : l.length ≤ 8 := dF hc23
   have hml : m.length ≤ 8 := dF hc27
   obtain ⟨Z, hZ⟩ : ∃ Z, l.map tzz = Z := ⟨_, rfl⟩
   have hZl : Z.length ≤ 8 := by rw [← hZ, List.length_map]; omega
   have hZK : ∀ t ∈ Z, Qc t.c ≤ 4 := fun t ht => by
    rw [← hZ] at ht
    obtain ⟨s, hs, rfl⟩ := List.mem_map.1 ht
    exact Jn (hokl s hs).2.2
   have hpZ := Qe8 hZl hZK
   obtain ⟨Y, hY⟩ : ∃ Z, m.map tzz = Z := ⟨_, rfl⟩
   have hYl : Y.length ≤ 8 := by rw [← hY, List.length_map]; omega
   have hYK : ∀ t ∈ Y, Qc t.c ≤ 4 := fun t ht => by
    rw [← hY] at ht
    obtain ⟨s, hs, rfl⟩ := List.mem_map.1 ht
    exact Jn (hokm s hs).2.2
   have hpY := Qe8 hYl hYK
   rw [hZ, hY] at hzy hM
   rw [hZ] at hP
   refine gL h (zp (.pickF rfl rfl) (zn ?_)); clear h; intro a w h
   refine cW ?_
   refine Zj h rfl ?_
   refine gC h (zk (zS (zm rfl (zf [_] rfl call12 (Zoi l _ _ hokl oo) ?_)))); clear h; rintro v31 Ψ31 ⟨ad31, c31, rfl, rfl⟩ a w h
   rw [hZ] at h
   refine gL h (zm rfl (zf [_] rfl call12 (Zoi m _ _ hokm oo) ?_)); clear h; rintro v33 Ψ33 ⟨ad33, c33, rfl, rfl⟩ a w h
   rw [hY] at h
   refine gL h (za rfl (za rfl (zn (zS (zm rfl (zf [_] rfl call9 (Ztm l _ _ hokl oo) ?_)))))); clear h; rintro v36 Ψ36 ⟨b36, l36, rfl, hn36, he36, rfl⟩ a w h
   replace he36 := Zwm hZ he36
   have ht36 : Tb 12 41 (xs l36) := Tb.of_eqv (by rw [Zdm]; exact hn36) he36 hpZ.deg hpZ.hgt
   refine gL h (zm rfl (zp (.eX rfl) (zp (.eX rfl) (za rfl (za rfl (zn (zS (zm rfl (zf [_] rfl call9 (Ztm m _ _ hokm oo) ?_))))))))); clear h; rintro v41 Ψ41 ⟨b41, l41, rfl, hn41, he41, rfl⟩ a w h
   replace he41 := Zwm hY he41
   have ht41 : Tb 12 41 (xs l41) := Tb.of_eqv (by rw [Zdm]; exact hn41) he41 hpY.deg hpY.hgt
   refine gL h (zm rfl (zp (.eX rfl) (zp (.eX rfl) (za rfl (za rfl (zn (zS (zm rfl (zm rfl (zf [_, _] rfl call48 (C_MulZ Z Y _ _ _ _ hZl hZK hYl hYK hzy er hM) ?_)))))))))); rintro v47 Ψ47 ⟨ad47, c47, rfl, rfl⟩
   refine zm rfl (zp (.eX rfl) (zp (.eX rfl) (za rfl (za rfl (zn (zS (zm rfl (zm rfl (zf [_, _] rfl call101 (Qhu b36 l36 _ ht36 dd b41 l41 _ ht41 dd (vZ Z) (vZ Y) he36 he41 er hM) ?_))))))))); rintro v53 Ψ53 ⟨b53, l53, rfl, ht53, he53, rfl⟩
   refine zm rfl (zp (.eX rfl) (zp (.eX rfl) (za rfl (za rfl (zn (zs (zS (zm rfl (zm rfl (zf [_, _] rfl call73 (C_AddZ Z Y _ _ _ _ hZl hZK hYl hYK hzy) ?_)))))))))); rintro v58 Ψ58 ⟨ad58, c58, rfl, rfl⟩
   refine zm rfl (zm rfl (zf [_, _] rfl call102 (Zta b36 l36 12 _ ht36 dd dd b41 l41 12 _ ht41 dd dd) ?_)); rintro v61 Ψ61 ⟨b61, l61, rfl, ht61, he61, rfl⟩
   refine zw [_, _] rfl call20 (Zbq (norm (vZ Z ++ vZ Y)) _ _ _ b61 l61 _ ((hpZ.add hpY dd dd).mono dd (Nat.le_refl _)) (Qr _) dd (ht61.mono dd (Nat.le_refl _)) dd ((he61.trans (he36.append he41)).trans (Eqv.nrm _).symm)) (zp (.unOp rfl (Xe _)) ?_); intro a w h
   refine Zg h (fun hc63 h => (absurd hc63 dd)) (fun hc63 h => ?_)
   refine gL h (zm rfl (zq 64 rfl rfl (.move rfl) (zq 64 rfl rfl (.move rfl) ?_))); clear h; intro a w h
   refine Ze 64 h rfl rfl (Xj h (vs := [_, _]) rfl call74 (C_SubZ Z Y _ _ _ _ hZl hZK hYl hYK hzy) ss dd ?_); clear h; rintro v67 Ψ67 a w ⟨ad67, c67, rfl, rfl⟩ h
   refine gL h (zq 64 rfl rfl (.move rfl) (zq 64 rfl rfl (.move rfl) ?_)); clear h; intro a w h
   refine Ze 64 h rfl rfl (Xj h (vs := [_, _]) rfl call103 (Qen b36 l36 12 _ ht36 dd dd b41 l41 12 _ ht41 dd dd) ss dd ?_); clear h; rintro v70 Ψ70 a w ⟨b70, l70, rfl, ht70, he70, rfl⟩ h
   refine Ze 64 h rfl rfl (Qb h (vs := [_, _]) rfl call20 (Zbq (norm (vZ Z ++ Zs ((-1 : Int) : Rat) (vZ Y))) _ _ _ b70 l70 _ (((show norm (vZ Z ++ norm (Zs ((-1 : Int) : Rat) (vZ Y))) = norm (vZ Z ++ Zs ((-1 : Int) : Rat) (vZ Y)) from Ji (Eqv.rfl'.append (Eqv.nrm _))) ▸ (hpZ.add (hpY.scale (Zw (-1) dd dd) dd) dd dd)).mono dd (Nat.le_refl _)) (Qr _) dd (ht70.mono dd (Nat.le_refl _)) dd ((he70.trans (he36.append (he41.scale _))).trans (Eqv.nrm _).symm)) ss dd ?_); clear h; intro a w h
   refine gL h (zq 64 rfl rfl (.unOp rfl (Xe _)) ?_); clear h; intro a w h
   refine Zg h (fun hc72 h => (absurd hc72 dd)) (fun hc72 h => ?_)
   refine gL h (zp (.pickF rfl rfl) (zm rfl (zq 74 rfl rfl (.move rfl) ?_))); clear h; intro a w h
   refine Ze 74 h rfl rfl (Xj h (vs := [_]) rfl call104 (C_NegZ Z _ _ hZl hZK) ss dd ?_); clear h; rintro v76 Ψ76 a w ⟨ad76, c76, rfl, rfl⟩ h
   refine Ze 74 h rfl rfl (Jb h (vs := []) rfl call105 (Gb) ss dd ?_); clear h; rintro v77 σ77 a w ⟨b77, rfl, rfl⟩ h
   replace h := h.derive (R := AllF (List.replicate 169 FT0)) (fun X hX => AllF.zeros 169 X _)
   replace h := h.shareAll hS (cellsOf Jr (List.replicate 169 FT0)) rfl
   refine gL h (zq 74 rfl rfl (.move rfl) ?_); clear h; intro a w h
   refine Ze 74 h rfl rfl (Xj h (vs := [_, _]) rfl call103 (Qen b77 (List.replicate 169 FT0) 12 1 Qe2 dd dd b36 l36 12 _ ht36 dd dd) ss dd ?_); clear h; rintro v79 Ψ79 a w ⟨b79, l79, rfl, ht79, he79, rfl⟩ h
   refine Ze 74 h rfl rfl (Qb h (vs := [_, _]) rfl call20 (Zbq (norm (Zs ((-1 : Int) : Rat) (vZ Z))) _ _ _ b79 l79 _ (hpZ.scale (Zw (-1) dd dd) dd) (Qr _) dd (ht79.mono dd (Nat.le_refl _)) dd ((he79.trans (zero_nil.append (he36.scale _))).trans (Eqv.nrm _).symm)) ss dd ?_); clear h; intro a w h
   refine gL h (zq 74 rfl rfl (.unOp rfl (Xe _)) ?_); clear h; intro a w h
   refine Zg h (fun hc81 h => (absurd hc81 dd)) (fun hc81 h => ?_)
   refine gL h (zp (.pickF rfl rfl) (zm rfl (zq 83 rfl rfl (.move rfl) (zq 83 rfl rfl (.move rfl) ?_)))); clear h; intro a w h
   refine Ze 83 h rfl rfl (Qb h (vs := [_, _]) rfl call20 (Zbq (Zmz er (Jg (vZ Z) (vZ Y))) _ _ _ b53 l53 _ (Qbi hM hpZ hpY) (Zra _ _) dd (ht53) dd (he53)) ss dd ?_); clear h; intro a w h
   refine gL h (zq 83 rfl rfl (.unOp rfl (Xe _)) ?_); clear h; intro a w h
   refine Zg h (fun hc87 h => (absurd hc87 dd)) (fun hc87 h => ?_)
   refine gL h (zp (.pickF rfl rfl) (zm rfl (zq 89 rfl rfl (.move rfl) (zq 89 rfl rfl (.move rfl) (zq 89 rfl rfl (.neq rfl rfl) ?_))))); clear h; intro a w h
   refine Zg h (fun hc92 h => (by exfalso; exact clNe hc92)) (fun hc92 h => ?_)
   refine gL h (zp (.pickF rfl rfl) (zn ?_)); clear h; intro a w h
   refine cW ?_
   refine Zj h rfl ?_
   refine gC h (zk (zS (zm rfl (zm rfl (zf [_, _] rfl call75 (Qh8 Z _ _ hZl hZK n ep hP) ?_))))); rintro v97 Ψ97 ⟨ad97, c97, rfl, rfl⟩
   refine zm rfl (zp (.eX rfl) (zp (.eX rfl) (za rfl (za rfl (zn (zS (zm rfl (zm rfl (zf [_, _] rfl call106 (Qc5 b36 l36 _ ht36 dd (vZ Z) he36 n ep hP) ?_))))))))); rintro v103 Ψ103 ⟨b103, l103, rfl, ht103, he103, rfl⟩
   refine zm rfl (zp (.eX rfl) (zp (.eX rfl) (za rfl (za rfl (zn (zS (zm rfl (zm rfl (zw [_, _] rfl call20 (Zbq (Zmz ep (Yb (vZ Z) n.toNat)) _ _ _ b103 l103 _ (Zwl hP hpZ) (Zra _ _) dd (ht103) dd (he103)) (zm rfl ?_)))))))))); intro a w h
   refine Zg h (fun hc109 h => ?_) (fun hc109 h => (by exfalso; cases hc109))
   refine gL h (zq 109 rfl rfl (.move rfl) (zq 109 rfl rfl (.move rfl) (zq 109 rfl rfl (.eql rfl rfl) ?_))); clear h; intro a w h
   refine Zg h (fun hc112 h => ?_) (fun hc112 h => (by exfalso; simp at hc112))
   refine gL h (zp (.pickT rfl rfl) (zm rfl ?_)); clear h; intro a w h
   refine Ze 114 h rfl rfl (Yr h (vs := []) rfl call18 (Yk) dd ?_); clear h; intro a w h
   refine gL h (zp (.pickT rfl rfl) (za rfl (zn (zt ?_)))); clear h; intro a w h
   exact Zbw h
  refine gL h (zp (.pickF rfl rfl) (zn ?_)); clear h; intro a w h
 all_goals
  refine cW ?_
  refine Zq h rfl ?_
  refine gC h (zS (zv [] rfl call18 (Yk) (za rfl (zn (zt ?_))))); clear h; intro a w h
  exact Zbw h
set_option maxHeartbeats 1000000 in
theorem Zj7 (l : List Ti) (ad : Option Addr) (c : Nat) (hokl : ∀ t ∈ l, OkT t) (hln : l.length ≤ 9223372036854775807) (qx qy qc s0 s1 s2 s3 s4 s5 : Int × Int) (hqx : OkQ qx) (hqy : OkQ qy) (hqc : OkQ qc) (hs : ∀ q ∈ [s0, s1, s2, s3, s4, s5], OkQ q) : Vj Tryz.prog 38 [.slice ad l.length c, Zjg qx, Zjg qy, Zjg qc, Qgr s0 s1 s2 s3 s4 s5] [TabF, Row ad (cellsOf Jq l)] (.bool true) := by
 have hlx : Qc (qv qx.1 qx.2) ≤ 4 := Jn hqx
 have hly : Qc (qv qy.1 qy.2) ≤ 4 := Jn hqy
 have hlc : Qc (qv qc.1 qc.2) ≤ 4 := Jn hqc
 have hn0 : Qc (qv s0.1 s0.2) ≤ 4 := Jn (hs s0 ss)
 obtain ⟨hs01, hs02, hs03, hs04⟩ := hs s0 ss
 have hn1 : Qc (qv s1.1 s1.2) ≤ 4 := Jn (hs s1 ss)
 obtain ⟨hs11, hs12, hs13, hs14⟩ := hs s1 ss
 have hn2 : Qc (qv s2.1 s2.2) ≤ 4 := Jn (hs s2 ss)
 obtain ⟨hs21, hs22, hs23, hs24⟩ := hs s2 ss
 have hn3 : Qc (qv s3.1 s3.2) ≤ 4 := Jn (hs s3 ss)
 obtain ⟨hs31, hs32, hs33, hs34⟩ := hs s3 ss
 have hn4 : Qc (qv s4.1 s4.2) ≤ 4 := Jn (hs s4 ss)
 obtain ⟨hs41, hs42, hs43, hs44⟩ := hs s4 ss
 have hn5 : Qc (qv s5.1 s5.2) ≤ 4 := Jn (hs s5 ss)
 obtain ⟨hs51, hs52, hs53, hs54⟩ := hs s5 ss
 obtain ⟨hx1, hx2, hx3, hx4⟩ := hqx
 obtain ⟨hy1, hy2, hy3, hy4⟩ := hqy
 obtain ⟨hc1, hc2, hc3, hc4⟩ := hqc
 refine fn_intro func38 rfl ntmps38 nb ?_
 intro S w0 a hS h
 refine gC h (zS (zx rfl fun b6 => zx rfl fun b7 => zx rfl fun b8 => zx rfl fun b9 => za rfl (zn (zs (zS (zm rfl (zp (.builtin [_] rfl (Qz _ _ _)) (zp (.gtr rfl rfl) ?_)))))))); clear h; intro a w h
 refine Zg h (fun hc20 h => ?_) (fun hc20 h => ?_)
 ·
  skip
  refine wpList_nil ?_
  refine cW ?_
  refine Zq h rfl ?_
  refine gC h (zS (zv [] rfl call18 (Yk) (za rfl (zn (zt ?_))))); clear h; intro a w h
  exact Zbw h
 ·
  skip
  have hll : l.length ≤ 8 := dF hc20
  obtain ⟨Z, hZ⟩ : ∃ Z, l.map tzz = Z := ⟨_, rfl⟩
  have hZl : Z.length ≤ 8 := by rw [← hZ, List.length_map]; omega
  have hZK : ∀ t ∈ Z, Qc t.c ≤ 4 := fun t ht => by
   rw [← hZ] at ht
   obtain ⟨s, hs, rfl⟩ := List.mem_map.1 ht
   exact Jn (hokl s hs).2.2
  have hpZ := Qe8 hZl hZK
  have hpl := Qdv (d := 5) (m := 8) hokl hll dd
  have hlev : Qc (evP (vZ Z) (qv qx.1 qx.2) (qv qy.1 qy.2)) ≤ 300000 := Nat.le_trans (Zpz hpZ dd hlx hly) dd
  refine wpList_nil ?_
  refine cW ?_
  refine Zj h rfl ?_
  refine gC h (zk (zS (zm rfl (zf [_] rfl call12 (Zoi l _ _ hokl oo) ?_)))); clear h; rintro v23 Ψ23 ⟨ad23, c23, rfl, rfl⟩ a w h
  rw [hZ] at h
  refine gL h (za rfl (zn (zS (zm rfl (zf [_] rfl call9 (Ztm l _ _ hokl oo) ?_))))); clear h; rintro v26 Ψ26 ⟨b26, l26, rfl, hn26, he26, rfl⟩ a w h
  replace he26 := Zwm hZ he26
  have ht26 : Tb 12 41 (xs l26) := Tb.of_eqv (by rw [Zdm]; exact hn26) he26 hpZ.deg hpZ.hgt
  refine gL h (zm rfl (zp (.eX rfl) (zp (.eX rfl) (za rfl (za rfl (zn (zs (zs (yD Za [0, 2, 1, 3, 4, 5, 6, 7, 9, 8, 10, 11, 12, 13, 14, 15, 17, 20, 16, 18, 19, 21, 22, 23, 24, 25, 26, 27, 28, 29, 31, 34, 35, 37, 30, 32, 33, 36, 38, 39, 40, 41, 42, 43, 44, 45, 48, 49, 46, 47, 50, 51, 52, 53, 54] (Zd kk) (ym rfl rfl (ym rfl rfl (yf [_] rfl rfl call76 (C_DxZ Z _ _ hZl hZK) ?_)))))))))))); clear h; rintro v30 Ψ30 ⟨ad30, c30, rfl, rfl⟩
  refine yf [_] rfl rfl call107 (Qhw b26 l26 12 _ ht26 dd dd) ?_; rintro v32 Ψ32 ⟨b32, l32, rfl, ht32, he32, rfl⟩
  refine yw [_, _] rfl rfl call20 (Zbq (norm (dxL (vZ Z))) _ _ _ b32 l32 _ (hpZ.dx dd) (Qr _) dd (ht32) dd ((he32.trans he26.dx).trans (Eqv.nrm _).symm)) (yp rfl (.unOp rfl (Xe _)) ?_)
  refine Zt (fun hc34  => (absurd hc34 dd)) (fun hc34  => ?_)
  refine ym rfl rfl (yq rfl rfl rfl (.move rfl) (yq rfl rfl rfl (.move rfl) ?_))
  refine Qo rfl rfl rfl kk (vs := [_]) rfl call97 (C_DyZ Z _ _ hZl hZK) ss dd ?_; rintro v37 Ψ37 ⟨ad37, c37, rfl, rfl⟩
  refine Qo rfl rfl rfl kk (vs := [_]) rfl call108 (Qhv b26 l26 12 _ ht26 dd dd) ss dd ?_; rintro v39 Ψ39 ⟨b39, l39, rfl, ht39, he39, rfl⟩
  refine Qp rfl rfl rfl kk (vs := [_, _]) rfl call20 (Zbq (norm (dyL (vZ Z))) _ _ _ b39 l39 _ (hpZ.dy dd) (Qr _) dd (ht39) dd ((he39.trans he26.dy).trans (Eqv.nrm _).symm)) ss dd ?_
  refine yq rfl rfl rfl (.unOp rfl (Xe _)) ?_
  refine Zt (fun hc41  => (absurd hc41 dd)) (fun hc41  => ?_)
  refine yp rfl (.pickF rfl rfl) (ym rfl rfl (yq rfl rfl rfl (.move rfl) (yq rfl rfl rfl (.move rfl) (yq rfl rfl rfl (.move rfl) ?_))))
  refine Qo rfl rfl rfl kk (vs := [_]) rfl call77 (Zva Z _ _ hZl hZK) ss dd ?_; rintro v45 Ψ45 ⟨ad45, c45, rfl, rfl⟩
  refine Qo rfl rfl rfl kk (vs := [_]) rfl call107 (Qhw b26 l26 12 _ ht26 dd dd) ss dd ?_; rintro v47 Ψ47 ⟨b47, l47, rfl, ht47, he47, rfl⟩
  refine Qo rfl rfl rfl kk (vs := [_]) rfl call107 (Qhw b47 l47 12 _ ht47 dd dd) ss dd ?_; rintro v48 Ψ48 ⟨b48, l48, rfl, ht48, he48, rfl⟩
  refine Qo rfl rfl rfl kk (vs := [_]) rfl call108 (Qhv b26 l26 12 _ ht26 dd dd) ss dd ?_; rintro v50 Ψ50 ⟨b50, l50, rfl, ht50, he50, rfl⟩
  refine Qo rfl rfl rfl kk (vs := [_]) rfl call108 (Qhv b50 l50 12 _ ht50 dd dd) ss dd ?_; rintro v51 Ψ51 ⟨b51, l51, rfl, ht51, he51, rfl⟩
  refine Qo rfl rfl rfl kk (vs := [_, _]) rfl call102 (Zta b48 l48 12 _ ht48 dd dd b51 l51 12 _ ht51 dd dd) ss dd ?_; rintro v52 Ψ52 ⟨b52, l52, rfl, ht52, he52, rfl⟩
  refine Qp rfl rfl rfl kk (vs := [_, _]) rfl call20 (Zbq (norm (norm (dxL (norm (dxL (vZ Z)))) ++ norm (dyL (norm (dyL (vZ Z)))))) _ _ _ b52 l52 _ ((((hpZ.dx dd).dx dd).add ((hpZ.dy dd).dy dd) dd dd).mono dd (Nat.le_refl _)) (Qr _) dd (ht52.mono dd (Nat.le_refl _)) dd ((he52.trans (Eqv.append ((he48.trans (he47.trans he26.dx).dx).trans ((Eqv.nrm _).trans (Eqv.nrm _).dx).symm) ((he51.trans (he50.trans he26.dy).dy).trans ((Eqv.nrm _).trans (Eqv.nrm _).dy).symm))).trans (Eqv.nrm _).symm)) ss dd ?_
  refine yq rfl rfl rfl (.unOp rfl (Xe _)) ?_
  refine Zt (fun hc54  => (absurd hc54 dd)) (fun hc54  => ?_)
  refine yp rfl (.pickF rfl rfl) (ym rfl rfl (yq rfl rfl rfl (.move rfl) (yg rfl rfl rfl rfl mr isAgg25 sizeOf25 Zn ?_)))
  refine yg rfl rfl rfl rfl mr isAgg25 sizeOf25 Zn ?_
  refine yq rfl rfl rfl (.move rfl) (yg rfl rfl rfl rfl mr isAgg25 sizeOf25 Zn ?_)
  refine yg rfl rfl rfl rfl mr isAgg25 sizeOf25 Zn ?_
  refine Jp rfl rfl rfl kk (vs := [_]) rfl call62 (Zdr qx.1 qx.2 oo oo oo oo) dd ?_
  have hl59 := Ju qx.1 qx.2 oo oo oo oo
  refine Jp rfl rfl rfl kk (vs := [_]) rfl call62 (Zdr qy.1 qy.2 oo oo oo oo) dd ?_
  have hl61 := Ju qy.1 qy.2 oo oo oo oo
  refine Qp rfl rfl rfl kk (vs := [_, _, _]) rfl call78 (C_AtZ Z _ _ hZl hZK (qv qx.1 qx.2) (qv qy.1 qy.2) hlx hly) ss dd ?_
  refine Qo rfl rfl rfl kk (vs := [_]) rfl call53 (Zeh qx.1 qx.2 oo oo oo oo) ss dd ?_; rintro v65 Ψ65 ⟨ad65, c65, bd65, d65, rfl, hle65, hlf65, rfl⟩
  have hl65 := Ju qx.1 qx.2 oo oo oo oo
  refine Qo rfl rfl rfl kk (vs := [_]) rfl call53 (Zeh qy.1 qy.2 oo oo oo oo) ss dd ?_; rintro v67 Ψ67 ⟨ad67, c67, bd67, d67, rfl, hle67, hlf67, rfl⟩
  have hl67 := Ju qy.1 qy.2 oo oo oo oo
  refine Qo rfl rfl rfl kk (vs := [_, _, _]) rfl call109 (C_tAt b26 l26 12 _ ht26 dd dd dd _ _ _ _ _ _ _ _ (qv qx.1 qx.2) (qv qy.1 qy.2) 4 hlx hly dd) ss dd ?_; rintro v68 Ψ68 ⟨ad68, c68, bd68, d68, rfl, hle68, hlf68, rfl⟩
  refine Qp rfl rfl rfl kk (vs := [_, _]) rfl call10 (Qac _ _ _ _ (evP (vZ Z) (qv qx.1 qx.2) (qv qy.1 qy.2)) (evP (pol (xs l26)) (qv qx.1 qx.2) (qv qy.1 qy.2)) hlev (he26.val _ _)) ss dd ?_
  refine yq rfl rfl rfl (.unOp rfl (Xe _)) ?_
  refine Zt (fun hc70  => (absurd hc70 dd)) (fun hc70  => ?_)
  refine yp rfl (.pickF rfl rfl) (ym rfl rfl (yq rfl rfl rfl (.move rfl) (yg rfl rfl rfl rfl mr isAgg25 sizeOf25 Zn ?_)))
  refine yq rfl rfl rfl (.move rfl) (yg rfl rfl rfl rfl mr isAgg25 sizeOf25 Zn ?_)
  refine Jp rfl rfl rfl kk (vs := [_]) rfl call62 (Zdr qc.1 qc.2 oo oo oo oo) dd ?_
  have hl75 := Ju qc.1 qc.2 oo oo oo oo
  refine Qo rfl rfl rfl kk (vs := [_, _]) rfl call100 (Qc9 Z _ _ hZl hZK (qv qc.1 qc.2) hlc) ss dd ?_; rintro v76 Ψ76 ⟨ad76, c76, rfl, rfl⟩
  refine Qo rfl rfl rfl kk (vs := [_]) rfl call53 (Zeh qc.1 qc.2 oo oo oo oo) ss dd ?_; rintro v79 Ψ79 ⟨ad79, c79, bd79, d79, rfl, hle79, hlf79, rfl⟩
  have hl79 := Ju qc.1 qc.2 oo oo oo oo
  refine Qo rfl rfl rfl kk (vs := [_, _]) rfl call110 (Zmd b26 l26 12 _ ht26 dd dd _ _ _ _ 4 (qv qc.1 qc.2) hlc dd) ss dd ?_; rintro v80 Ψ80 ⟨b80, l80, rfl, ht80, he80, rfl⟩
  refine Qp rfl rfl rfl kk (vs := [_, _]) rfl call20 (Zbq (norm (Zs (qv qc.1 qc.2) (vZ Z))) _ _ _ b80 l80 _ ((hpZ.scale hlc dd)) (Qr _) dd (ht80) dd ((he80.trans (he26.scale _)).trans (Eqv.nrm _).symm)) ss dd ?_
  refine yq rfl rfl rfl (.unOp rfl (Xe _)) ?_
  refine Zt (fun hc82  => (absurd hc82 dd)) (fun hc82  => ?_)
  refine yp rfl (.pickF rfl rfl) (yn ?_); intro a w h
  refine cW ?_
  refine Zj h rfl ?_
  refine gC h (zk (zS (zm rfl (zf [_, _] rfl call8 (Zop l _ _ 5 dd oo) ?_)))); rintro v85 Ψ85 ⟨ad85, c85, rfl, rfl⟩
  refine za rfl (zn (zS (zm rfl (zf [_] rfl call9 (C_RefB l _ _ 5 dd hokl oo) ?_)))); rintro v88 Ψ88 ⟨b88, l88, rfl, hn88, he88, rfl⟩ a w h
  replace he88 := Qbj dd he88
  have ht88 := ref_Tb (m := 8) dd hokl oo dd hn88 he88
  refine gL h (zm rfl (zp (.eX rfl) (zp (.eX rfl) (za rfl (za rfl (zn (zs (yD Za [0, 2, 3, 5, 6, 8, 9, 11, 12, 14, 15, 17, 18, 1, 4, 7, 10, 13, 16, 19, 20, 21] (Zd kk) (ym rfl rfl (yp rfl (.indexAddr rfl rfl (Zsa _ _)) (yd rfl rfl mr isAgg25 sizeOf25 Zm4 ?_))))))))))); clear h
  refine yp rfl (.indexAddr rfl rfl (Zr9 _ _)) (yd rfl rfl mr isAgg25 sizeOf25 Zm3 ?_)
  refine yp rfl (.indexAddr rfl rfl (Zr8 _ _)) (yd rfl rfl mr isAgg25 sizeOf25 Zm2 ?_)
  refine yp rfl (.indexAddr rfl rfl (Zr7 _ _)) (yd rfl rfl mr isAgg25 sizeOf25 Zm1 ?_)
  refine yp rfl (.indexAddr rfl rfl (Zr6 _ _)) (yd rfl rfl mr isAgg25 sizeOf25 Zm0 ?_)
  refine yp rfl (.indexAddr rfl rfl (Zr5 _ _)) (yd rfl rfl mr isAgg25 sizeOf25 Zkf ?_)
  refine yf [_] rfl rfl call12 (Qew l _ _ 5 hokl oo) ?_; rintro v92 Ψ92 ⟨ad92, c92, rfl, rfl⟩
  refine yv [_] rfl rfl call62 (Zdr s0.1 s0.2 oo oo oo oo) ?_
  have hl95 := Ju s0.1 s0.2 oo oo oo oo
  refine yv [_] rfl rfl call62 (Zdr s1.1 s1.2 oo oo oo oo) ?_
  have hl98 := Ju s1.1 s1.2 oo oo oo oo
  refine yv [_] rfl rfl call62 (Zdr s2.1 s2.2 oo oo oo oo) ?_
  have hl101 := Ju s2.1 s2.2 oo oo oo oo
  refine yv [_] rfl rfl call62 (Zdr s3.1 s3.2 oo oo oo oo) ?_
  have hl104 := Ju s3.1 s3.2 oo oo oo oo
  refine yv [_] rfl rfl call62 (Zdr s4.1 s4.2 oo oo oo oo) ?_
  have hl107 := Ju s4.1 s4.2 oo oo oo oo
  refine yv [_] rfl rfl call62 (Zdr s5.1 s5.2 oo oo oo oo) ?_
  have hl110 := Ju s5.1 s5.2 oo oo oo oo
  refine yf [_, _, _, _, _, _, _] rfl rfl call58 (Zei (Yl 5 l) _ _ 5 _ hpl (qv s0.1 s0.2) (qv s1.1 s1.2) (qv s2.1 s2.2) (qv s3.1 s3.2) (qv s4.1 s4.2) (qv s5.1 s5.2) 4 dd hn0 hn1 hn2 hn3 hn4 hn5 dd dd) ?_; rintro v111 Ψ111 ⟨ad111, c111, rfl, rfl⟩
  refine yp rfl (.assign rfl) (yn (zs (yD Za [0, 1, 2, 3, 5, 6, 8, 9, 11, 12, 14, 15, 17, 18, 4, 7, 10, 13, 16, 19, 20, 21, 22, 23, 24, 25] (Zd kk) (ym rfl rfl (ym rfl rfl (yp rfl (.indexAddr rfl rfl (Zsa _ _)) (yd rfl rfl mr isAgg25 sizeOf25 Zm4 ?_)))))))
  refine yp rfl (.indexAddr rfl rfl (Zr9 _ _)) (yd rfl rfl mr isAgg25 sizeOf25 Zm3 ?_)
  refine yp rfl (.indexAddr rfl rfl (Zr8 _ _)) (yd rfl rfl mr isAgg25 sizeOf25 Zm2 ?_)
  refine yp rfl (.indexAddr rfl rfl (Zr7 _ _)) (yd rfl rfl mr isAgg25 sizeOf25 Zm1 ?_)
  refine yp rfl (.indexAddr rfl rfl (Zr6 _ _)) (yd rfl rfl mr isAgg25 sizeOf25 Zm0 ?_)
  refine yp rfl (.indexAddr rfl rfl (Zr5 _ _)) (yd rfl rfl mr isAgg25 sizeOf25 Zkf ?_)
  refine yf [_] rfl rfl call53 (Zeh s0.1 s0.2 oo oo oo oo) ?_; rintro v116 Ψ116 ⟨ad116, c116, bd116, d116, rfl, hle116, hlf116, rfl⟩
  have hl116 := Ju s0.1 s0.2 oo oo oo oo
  refine yf [_] rfl rfl call53 (Zeh s1.1 s1.2 oo oo oo oo) ?_; rintro v119 Ψ119 ⟨ad119, c119, bd119, d119, rfl, hle119, hlf119, rfl⟩
  have hl119 := Ju s1.1 s1.2 oo oo oo oo
  refine yf [_] rfl rfl call53 (Zeh s2.1 s2.2 oo oo oo oo) ?_; rintro v122 Ψ122 ⟨ad122, c122, bd122, d122, rfl, hle122, hlf122, rfl⟩
  have hl122 := Ju s2.1 s2.2 oo oo oo oo
  refine yf [_] rfl rfl call53 (Zeh s3.1 s3.2 oo oo oo oo) ?_; rintro v125 Ψ125 ⟨ad125, c125, bd125, d125, rfl, hle125, hlf125, rfl⟩
  have hl125 := Ju s3.1 s3.2 oo oo oo oo
  refine yf [_] rfl rfl call53 (Zeh s4.1 s4.2 oo oo oo oo) ?_; rintro v128 Ψ128 ⟨ad128, c128, bd128, d128, rfl, hle128, hlf128, rfl⟩
  have hl128 := Ju s4.1 s4.2 oo oo oo oo
  refine yf [_] rfl rfl call53 (Zeh s5.1 s5.2 oo oo oo oo) ?_; rintro v131 Ψ131 ⟨ad131, c131, bd131, d131, rfl, hle131, hlf131, rfl⟩
  have hl131 := Ju s5.1 s5.2 oo oo oo oo
  refine yf [_, _, _, _, _, _, _] rfl rfl call63 (Qc4 b88 l88 5 _ ht88 dd dd _ _ _ _ _ _ _ _ _ _ _ _ _ _ _ _ _ _ _ _ _ _ _ _ (qv s0.1 s0.2) (qv s1.1 s1.2) (qv s2.1 s2.2) (qv s3.1 s3.2) (qv s4.1 s4.2) (qv s5.1 s5.2) 4 hn0 hn1 hn2 hn3 hn4 hn5 hle116 hlf116 hle119 hlf119 hle122 hlf122 hle125 hlf125 hle128 hlf128 hle131 hlf131 dd dd) ?_; rintro v132 Ψ132 ⟨b132, l132, rfl, ht132, he132, rfl⟩
  refine yw [_, _] rfl rfl call20 (Zbq (norm (shL (Yl 5 l) (qv s0.1 s0.2) (qv s1.1 s1.2) (qv s2.1 s2.2) (qv s3.1 s3.2) (qv s4.1 s4.2) (qv s5.1 s5.2))) _ _ _ b132 l132 _ ((Pq.shift hpl hn0 hn1 hn2 hn3 hn4 hn5 dd).mono dd (Nat.le_refl _)) (Qr _) dd (ht132.mono dd (Nat.le_refl _)) dd ((he132.trans (Eqv.sub Eqv.rfl' Eqv.rfl' he88)).trans (Eqv.nrm _).symm)) (ym rfl rfl ?_)
  refine Zt (fun hc134  => ?_) (fun hc134  => (by exfalso; cases hc134))
  refine Jp rfl rfl rfl kk (vs := []) rfl call18 (Yk) dd ?_
  refine yp rfl (.pickT rfl rfl) (yp rfl (.assign rfl) (yn (zt ?_))); intro a w h
  exact Zbw h
end
section
theorem Zjt (x0 : Int) (x1 : Int) (w : World) : (Instr.build 25 [(0, .int .i64 x0), (1, .int .u32 x1)].toArray).run Tryz.prog w = .ok (.agg #[.int .i64 x0, .int .u32 x1]) w := by simp [go_sem]
theorem Zgf (x0_0 : Value) (x0_1 : Value) (x0_2 : Value) (x0_3 : Value) (x1_0 : Value) (x1_1 : Value) (x1_2 : Value) (x1_3 : Value) (x2_0 : Value) (x2_1 : Value) (x2_2 : Value) (x2_3 : Value) (w : World) : (Instr.buildSlice 22 3 [(0, .agg #[x0_0, x0_1, x0_2, x0_3]), (1, .agg #[x1_0, x1_1, x1_2, x1_3]), (2, .agg #[x2_0, x2_1, x2_2, x2_3])].toArray).run Tryz.prog w = .ok (.slice (some ⟨w.heap.size, 0, none⟩) 3 3) (w.alloc (.cells #[x0_0, x0_1, x0_2, x0_3, x1_0, x1_1, x1_2, x1_3, x2_0, x2_1, x2_2, x2_3] 78 (0, 0))) := by
 simp [go_sem]
theorem sll_22 (b off n c lo hi : Nat) (h1 : lo ≤ hi) (h2 : hi ≤ c) (h3 : lo < c) (w : World) : (Instr.sliceAt 22 (.slice (some ⟨b, off, none⟩) n c) (some (.int .i64 (lo : Int))) (some (.int .i64 (hi : Int))) none).run Tryz.prog w = .ok (.slice (some ⟨b, off + lo * 4, none⟩) (hi - lo) (c - lo)) w := by
 simpa using Zkd runUnderlying22 sizeOf78 b off n c lo hi h1 h2 h3 w
theorem Zq1 (b off n c lo : Nat) (h1 : lo ≤ n) (w : World) : (Instr.sliceAt 22 (.slice (some ⟨b, off, none⟩) n c) (some (.int .i64 (lo : Int))) none none).run Tryz.prog w = .ok (.slice (some ⟨b, if c = lo then off else off + lo * 4, none⟩) (n - lo) (c - lo)) w := Ze7 runUnderlying22 sizeOf78 b off n c lo h1 w
theorem Zc0 (x0_0 : Value) (x0_1 : Value) (x1_0 : Value) (x1_1 : Value) (x2_0 : Value) (x2_1 : Value) (x3_0 : Value) (x3_1 : Value) (x4_0 : Value) (x4_1 : Value) (x5_0 : Value) (x5_1 : Value) (w : World) : (Instr.build 87 [(0, .agg #[x0_0, x0_1]), (1, .agg #[x1_0, x1_1]), (2, .agg #[x2_0, x2_1]), (3, .agg #[x3_0, x3_1]), (4, .agg #[x4_0, x4_1]), (5, .agg #[x5_0, x5_1])].toArray).run Tryz.prog w = .ok (.agg #[x0_0, x0_1, x1_0, x1_1, x2_0, x2_1, x3_0, x3_1, x4_0, x4_1, x5_0, x5_1]) w := by simp [go_sem]
theorem slh_22 (a : Option Addr) (n c j : Nat) (h : j ≤ c) (w : World) : (Instr.sliceAt 22 (.slice a n c) none (some (.int .i64 (j : Int))) none).run Tryz.prog w = .ok (.slice a j c) w := by
 exact Zbu runUnderlying22 sizeOf78 a n c j h w
instance (q : Int × Int) : Decidable (OkQ q) := by unfold OkQ; infer_instance
instance (t : Ti) : Decidable (OkT t) := by unfold OkT; infer_instance
def LLk (i j : Int) : List Ti := [⟨1, 1, 2, 1⟩, ⟨i, j, 3, 1⟩, ⟨0, 0, -1, 2⟩]
def LMk (i j : Int) : List Ti := [⟨i, j, 3, 1⟩, ⟨0, 0, -1, 2⟩]
def L1k (i j : Int) : List Ti := [⟨i, j, 3, 1⟩]
def L0k : List Ti := [⟨1, 1, 2, 1⟩]
theorem Qf8 {i j : Int} (h1 : -1 ≤ i ∧ i ≤ 14) (h2 : -1 ≤ j ∧ j ≤ 14) : OkT ⟨i, j, 3, 1⟩ := by
 refine ⟨⟨?_, ?_⟩, ⟨?_, ?_⟩, ?_, ?_, ?_, ?_⟩ <;> (dsimp only; omega)
theorem ok_L1 {i j : Int} (h1 : -1 ≤ i ∧ i ≤ 14) (h2 : -1 ≤ j ∧ j ≤ 14) : ∀ t ∈ L1k i j, OkT t := by
 intro t ht; obtain rfl := List.mem_singleton.1 ht; exact Qf8 h1 h2
theorem ok_L0 : ∀ t ∈ L0k, OkT t := by decide
theorem okt_h : OkT ⟨0, 0, -1, 2⟩ := by decide
theorem okt_1 : OkT ⟨1, 1, 2, 1⟩ := by decide
theorem Qbs {i j : Int} (h1 : -1 ≤ i ∧ i ≤ 14) (h2 : -1 ≤ j ∧ j ≤ 14) : ∀ t ∈ LMk i j, OkT t := by
 intro t ht
 simp only [LMk, List.mem_cons, List.not_mem_nil, or_false] at ht
 rcases ht with rfl | rfl
 · exact Qf8 h1 h2
 · exact okt_h
theorem Zpn {i j : Int} (h1 : -1 ≤ i ∧ i ≤ 14) (h2 : -1 ≤ j ∧ j ≤ 14) : ∀ t ∈ LLk i j, OkT t := by
 intro t ht
 simp only [LLk, List.mem_cons, List.not_mem_nil, or_false] at ht
 rcases ht with rfl | rfl | rfl
 · exact okt_1
 · exact Qf8 h1 h2
 · exact okt_h
theorem Row.restK {b off : Nat} {p q : List Value} {X : Nat → Prop} {w : World} (h : (Row (some ⟨b, off, none⟩) (p ++ q)).p X w) : (Row (some ⟨b, off + p.length, none⟩) q).p X w := by
 intro hne
 obtain ⟨b', off', cs, T, fr, ha, hb, hc, hj⟩ := h (fun e => hne (List.append_eq_nil_iff.1 e).2)
 cases ha
 refine ⟨b, off + p.length, cs, T, fr, rfl, hb, hc, fun j hj2 => ?_⟩
 have := hj (p.length + j) (by rw [List.length_append]; omega)
 rw [Nat.add_assoc, this, List.getElem?_append_right oo]
 congr 1; omega
theorem Row.initK {b off : Nat} {p q : List Value} {X : Nat → Prop} {w : World} (h : (Row (some ⟨b, off, none⟩) (p ++ q)).p X w) : (Row (some ⟨b, off, none⟩) p).p X w := by
 intro hne
 obtain ⟨b', off', cs, T, fr, ha, hb, hc, hj⟩ := h (fun e => hne (List.append_eq_nil_iff.1 e).1)
 cases ha
 refine ⟨b, off, cs, T, fr, rfl, hb, hc, fun j hj2 => ?_⟩
 have := hj j (by rw [List.length_append]; omega)
 rwa [List.getElem?_append_left hj2] at this
def dgM : List Tm → Nat
 | [] => 0
 | t :: l => max (t.i + t.j) (dgM l)
theorem Zoa : ∀ p : List Tm, DL (dgM p) p
 | [] => fun _ h => nomatch h
 | t :: l => fun s hs => by
  rw [dgM]
  rcases List.mem_cons.1 hs with rfl | hs
  · exact Nat.le_max_left _ _
  · exact Nat.le_trans (Zoa l s hs) (Nat.le_max_right _ _)
def topB (p : List Tm) : Bool := p.any (fun t => decide (t.i + t.j = dgM p) && !decide (lin (at0 t.i t.j) p = 0))
theorem Zo0 {p : List Tm} (h : topB p = true) : Gl (norm p) = ((dgM p : Nat) : Int) := by
 unfold topB at h
 obtain ⟨t, ht, h1⟩ := List.any_eq_true.1 h
 rw [Bool.and_eq_true, decide_eq_true_eq] at h1
 obtain ⟨h2, h3⟩ := h1
 have hne : lin (at0 t.i t.j) p ≠ 0 := fun e => by rw [e] at h3; simp at h3
 obtain ⟨u, hu, e1, e2⟩ := Zh7 hne
 have a := Zb3 (Qr p) hu
 have b := Gx (Qm (Zoa p))
 omega
def mulB (p q : List Tm) : Bool := decide (dgM p + dgM q ≤ 12) || (topB p && topB q)
theorem Qgb {p q : List Tm} (h : mulB p q = true) : ∃ er, MulC p q er := by
 unfold mulB at h
 by_cases h0 : dgM p + dgM q ≤ 12
 · exact ⟨0, .inl ⟨rfl, _, _, h0, Zoa p, Zoa q⟩⟩
 ·
  rw [decide_eq_false h0, Bool.false_or, Bool.and_eq_true] at h
  exact ⟨9, .inr ⟨rfl, dgM p, dgM q, Zo0 h.1, Zo0 h.2, oo⟩⟩
def powB (p : List Tm) (n : Nat) : Bool := decide (dgM p ≤ 12) && (decide (n * dgM p ≤ 12) || topB p)
theorem Qf3 {p : List Tm} {n : Nat} (hn : n ≤ 12) (h : powB p n = true) : ∃ er, Qhl p (n : Int) er := by
 unfold powB at h
 rw [Bool.and_eq_true, decide_eq_true_eq] at h
 obtain ⟨h1, h⟩ := h
 by_cases h0 : n * dgM p ≤ 12
 · exact ⟨0, .inl ⟨n, rfl, hn, .inl ⟨rfl, _, h1, h0, Zoa p⟩⟩⟩
 ·
  rw [decide_eq_false h0, Bool.false_or] at h
  exact ⟨9, .inl ⟨n, rfl, hn, .inr ⟨rfl, dgM p, h1, Zo0 h, oo⟩⟩⟩
def Zo6 (l m : List Ti) (n : Nat) : Bool := decide (Zx (l.map tzz) = 0 ↔ Zx (m.map tzz) = 0) && mulB (vZ (l.map tzz)) (vZ (m.map tzz)) && powB (vZ (l.map tzz)) n
theorem Zfo {l m : List Ti} {n : Nat} (hn : n ≤ 12) (h : Zo6 l m n = true) : ∃ er ep, (Zx (l.map tzz) = 0 ↔ Zx (m.map tzz) = 0) ∧ MulC (vZ (l.map tzz)) (vZ (m.map tzz)) er ∧ Qhl (vZ (l.map tzz)) (n : Int) ep := by
 unfold Zo6 at h
 rw [Bool.and_eq_true, Bool.and_eq_true, decide_eq_true_eq] at h
 obtain ⟨er, h1⟩ := Qgb h.1.2
 obtain ⟨ep, h2⟩ := Qf3 hn h.2
 exact ⟨er, ep, h.1.1, h1, h2⟩
theorem sums_0 : ∀ m : Nat, m < 15 → Zo6 (LLk 0 ((m : Int) - 1)) (LMk 0 ((m : Int) - 1)) 0 = true := by decide +kernel
theorem sums_4 : ∀ m : Nat, m < 15 → Zo6 (LLk 4 ((m : Int) - 1)) (LMk 4 ((m : Int) - 1)) 4 = true := by decide +kernel
theorem sums_8 : ∀ m : Nat, m < 15 → Zo6 (LLk 8 ((m : Int) - 1)) (LMk 8 ((m : Int) - 1)) 8 = true := by decide +kernel
theorem Qfh : ∀ m : Nat, m < 15 → Zo6 (LLk 12 ((m : Int) - 1)) (LMk 12 ((m : Int) - 1)) 12 = true := by decide +kernel
theorem sums_x : Zo6 [⟨12, 0, 1, 1⟩] [⟨0, 0, 4, 1⟩] 1 = true := by decide +kernel
theorem rem4 : ∀ n : Nat, n < 15 → (Int.tmod ((n : Int) - 1) 4 == 0) = true → n = 1 ∨ n = 5 ∨ n = 9 ∨ n = 13 := by decide
theorem Qfg {n m : Nat} (hn : n < 15) (hm : m < 15) (h : (Int.tmod ((n : Int) - 1) 4 == 0) = true) : ∃ er ep, (Zx ((LLk ((n : Int) - 1) ((m : Int) - 1)).map tzz) = 0 ↔ Zx ((LMk ((n : Int) - 1) ((m : Int) - 1)).map tzz) = 0) ∧ MulC (vZ ((LLk ((n : Int) - 1) ((m : Int) - 1)).map tzz)) (vZ ((LMk ((n : Int) - 1) ((m : Int) - 1)).map tzz)) er ∧ Qhl (vZ ((LLk ((n : Int) - 1) ((m : Int) - 1)).map tzz)) ((n : Int) - 1) ep := by
 rcases rem4 n hn h with rfl | rfl | rfl | rfl
 · exact Zfo (n := 0) dd (sums_0 m hm)
 · exact Zfo (n := 4) dd (sums_4 m hm)
 · exact Zfo (n := 8) dd (sums_8 m hm)
 · exact Zfo (n := 12) dd (Qfh m hm)
theorem Zrn : MulC (vZ (([] : List Ti).map tzz)) (vZ (([] : List Ti).map tzz)) 0 := .inl ⟨rfl, 0, 0, by decide, (fun _ h => nomatch h), (fun _ h => nomatch h)⟩
theorem ok6 : ∀ q ∈ [((1, 1) : Int × Int), (2, 1), (0, 1), (-1, 1), (0, 1), (3, 1)], OkQ q := by decide
theorem Zng {P : Program} {n : Nat} {S : Nat → Prop} {w0 : World} {L : List (Nat × Value)} {σ : List (Nat × Obj)} {Φ : List Zy} {ops : Array Oper} {i d j t : Nat} {want : Bool} {x : Operand} {f : FuncId} {fs cs : List Value} {args : Array Operand} {tys : Array TypeId} {ty : TypeId} {pos : String} {aft : Array Edge}
  {vs : List Value} {v : Value} {C : List (Nat × Value) → List (Nat × Obj) → List Zy → Prop}
  (ho : ops[i]? = some ⟨some d, .call ⟨.value x, args, tys⟩, ty, pos, aft, some (j, want)⟩) (hj : (ops[j]?).bind (·.dst) = some t) (ht : Fx.look L t = some (.bool want)) (hx : Fx.ev L x = some (.func (.func f) fs.toArray cs.toArray)) (ha : args.toList.map (Fx.ev L) = vs.map some)
  (hc : ∀ args w, (callFunc f args).run P w = .ok (.enter f args) w) (hf : Ys P f (fs ++ vs ++ cs) v) (hd : d < n) (k : C ((d, v) :: L) σ Φ) :
  Zgh P ops n S w0 i ⟨some d, .call ⟨.value x, args, tys⟩, ty, pos, aft, some (j, want)⟩ C L σ Φ :=
 fun a w σx hst => Zgi hst ho hj ht (by
  obtain ⟨X, h1, h2, h3, h4⟩ := hst.facts
  simp only [Oper.wp, Zik hst hx ha hc, Oper.upon]
  refine (hf X w h3 (fun _ hR => nomatch hR)).mono ?_
  rintro e w' ⟨u, Ψ, rfl, ⟨rfl, rfl⟩, hb, h5⟩
  exact ⟨⟨fun _ => hb, fun _ _ _ _ he => by cases he⟩, u, σ, [] ++ Φ, rfl, ((hst.called hb h1 h2 h3 h4 h5).put hd _), k⟩)
theorem Qn {P : Program} {n : Nat} {S : Nat → Prop} {w0 : World} {L : List (Nat × Value)} {σ : List (Nat × Obj)} {Φ : List Zy} {ops : Array Oper} {H : List Nat} {Kf : Act → World → Prop} {i d j t : Nat} {want : Bool} {x : Operand} {f : FuncId} {fs cs : List Value} {args : Array Operand} {tys : Array TypeId} {ty : TypeId} {pos : String} {aft : Array Edge}
  {vs : List Value} {v : Value}
  (ho : ops[i]? = some ⟨some d, .call ⟨.value x, args, tys⟩, ty, pos, aft, some (j, want)⟩) (hj : (ops[j]?).bind (·.dst) = some t) (ht : Fx.look L t = some (.bool want)) (hq : Ge ops i H = true) (hx : Fx.ev L x = some (.func (.func f) fs.toArray cs.toArray)) (ha : args.toList.map (Fx.ev L) = vs.map some)
  (hc : ∀ args w, (callFunc f args).run P w = .ok (.enter f args) w) (hf : Ys P f (fs ++ vs ++ cs) v) (_ : (0 : Nat) = 0) (hd : d < n)
  (k : Head P ops n S w0 Kf H ((d, v) :: L) σ Φ) : Head P ops n S w0 Kf (i :: H) L σ Φ :=
 by rw [Fx.Head_cons]; exact .inr (.inl ⟨_, ho, hq, Zng ho hj ht hx ha hc hf hd k⟩)
theorem Gk (n : Int) : Ys Tryz.prog 36 [.int .i64 n] (.agg #[.int .i64 n, .int .u32 1]) := by
 refine fn_intro func36 rfl ntmps36 nb ?_
 intro S w0 a hS h
 refine gC h (zS (zz zeroValue25 fun b2 => zn (zS (zm rfl (zp (.build [(_, _), (_, _)] rfl (Zjt _ _)) (zt' rfl rfl Qe uu sizeOf25 rfl nb rfl ?_)))))); clear h; intro a w h
 refine wpList_nil (wp_ret ?_)
 refine Jm h (Zc h rfl (.cell rfl mr isAgg25 sizeOf25 Zn)) ?_
 rfl
set_option maxHeartbeats 4000000 in
theorem Zom : Vj Tryz.prog 6 [] [TabF] (.bool true) := by
 refine fn_intro func6 rfl ntmps6 nb ?_
 intro S w0 a hS h
 replace h := h.derive (R := Row none (cellsOf Jq [])) (fun X _ hne => absurd rfl hne)
 obtain ⟨er1, ep1, hzy1, hMc1, hPi1⟩ := Zfo (n := 1) dd sums_x
 refine gC h (zS (za rfl (zn (zS (za rfl (zn (zs (zS (za rfl (zn (zb ?_))))))))))); clear h; intro a w h
 refine Zf (fun (n : Nat) a w => n ≤ 15 ∧ St 181 S w0 [(1, .func (.func 36) #[] #[]), (2, .int .i64 (((n : Nat) : Int) - 1))] [] [Row none (cellsOf Jq []), TabF] a w) (fun n => 15 - n) 0 (⟨Nat.zero_le _, by exact (h).sub sA⟩) ?_; clear h
 rintro n a w ⟨hi_n, h⟩
 refine gC h (zs (zS (zm rfl (zp (.lss rfl rfl) (zn ?_))))); clear h; intro a w h
 refine cW ?_
 refine Zb h rfl (fun hc6 => ?_) (fun hc6 => ?_)
 ·
  skip
  have hlt_n : n < 15 := dT hc6
  refine gC h (zk (zs (zb (zS (za rfl (zn (zb ?_))))))); clear h; intro a w h
  refine Zf (fun (m : Nat) a w => m ≤ 15 ∧ St 181 S w0 [(1, .func (.func 36) #[] #[]), (2, .int .i64 (((n : Nat) : Int) - 1)), (3, .int .i64 (((m : Nat) : Int) - 1))] [] [Row none (cellsOf Jq []), TabF] a w) (fun m => 15 - m) 0 (⟨Nat.zero_le _, by exact (h).sub sA⟩) ?_; clear h
  rintro m a w ⟨hi_m, h⟩
  refine gC h (zs (zS (zm rfl (zp (.lss rfl rfl) (zn ?_))))); clear h; intro a w h
  refine cW ?_
  refine Zb h rfl (fun hc10 => ?_) (fun hc10 => ?_)
  ·
   skip
   have hlt_m : m < 15 := dT hc10
   refine gC h (zk (zs (zb (zS (zm rfl ?_))))); clear h; intro a w h
   refine Zi (Yq h (fs := []) (cs := []) rfl (vs := [_]) rfl call36 (Gk 2) dd ?_); clear h; intro a w h
   refine gL h (zp (.build [(_, _), (_, _), (_, _)] rfl (Xt _ _ _ _)) (zm rfl (zm rfl (zm rfl ?_)))); clear h; intro a w h
   refine Zi (Yq h (fs := []) (cs := []) rfl (vs := [_]) rfl call36 (Gk 3) dd ?_); clear h; intro a w h
   refine gL h (zp (.build [(_, _), (_, _), (_, _)] rfl (Xt _ _ _ _)) (zp (.build [(_, _), (_, _)] rfl (Zjt _ _)) (zp (.build [(_, _), (_, _), (_, _)] rfl (Xt _ _ _ _)) (zB [(_, _), (_, _), (_, _)] rfl (Zgf _ _ _ _ _ _ _ _ _ _ _ _) fun b23 => ?_)))); clear h; intro a w h
   replace h := h.shareAll hS (cellsOf Jq (LLk (((n : Nat) : Int) - 1) (((m : Nat) : Int) - 1))) rfl
   replace h := h.derive (R := Row (some ⟨b23, 4, none⟩) (cellsOf Jq (LMk (((n : Nat) : Int) - 1) (((m : Nat) : Int) - 1)))) (fun X hX => by have := Row.restK (p := (Jq ⟨1, 1, 2, 1⟩).cells.toList) (q := cellsOf Jq (LMk (((n : Nat) : Int) - 1) (((m : Nat) : Int) - 1))) (hX (Row (some ⟨b23, 0, none⟩) (cellsOf Jq (LLk (((n : Nat) : Int) - 1) (((m : Nat) : Int) - 1)))) mr); exact this)
   replace h := h.derive (R := Row (some ⟨b23, 4, none⟩) (cellsOf Jq (L1k (((n : Nat) : Int) - 1) (((m : Nat) : Int) - 1)))) (fun X hX => by have := Row.initK (p := cellsOf Jq (L1k (((n : Nat) : Int) - 1) (((m : Nat) : Int) - 1))) (q := cellsOf Jq [⟨0, 0, -1, 2⟩]) (hX (Row (some ⟨b23, 4, none⟩) (cellsOf Jq (LMk (((n : Nat) : Int) - 1) (((m : Nat) : Int) - 1)))) mr); exact this)
   replace h := h.derive (R := Row (some ⟨b23, 0, none⟩) (cellsOf Jq (L0k))) (fun X hX => by have := Row.initK (p := cellsOf Jq L0k) (q := cellsOf Jq (LMk (((n : Nat) : Int) - 1) (((m : Nat) : Int) - 1))) (hX (Row (some ⟨b23, 0, none⟩) (cellsOf Jq (LLk (((n : Nat) : Int) - 1) (((m : Nat) : Int) - 1)))) mr); exact this)
   refine gL h (za rfl (zn (zs (yD Za [0, 1, 2, 3, 4, 5, 6, 7, 8, 9, 10, 11, 12, 13, 14, 15, 16, 17, 18, 19, 20, 21, 22, 23, 24, 25, 26, 28, 30, 31, 33, 35, 37, 39, 41, 27, 29, 32, 34, 36, 38, 40, 42, 43, 44, 45, 46, 47, 48, 49, 50, 51, 52, 53, 55, 54, 56, 57, 58, 59, 60, 61, 62, 63, 64, 65, 66, 67, 68, 69, 71, 73, 75, 77, 79, 81, 83, 86, 88, 70, 72, 74, 76, 78, 80, 82, 84, 85, 87, 89, 90, 91, 92, 93, 94, 95, 96, 97, 98, 99, 100, 101, 102, 103, 104] (Zd kk) (ym rfl rfl (ym rfl rfl (ym rfl rfl (yw [_, _, _] rfl rfl call4 (Zc3 (LLk (((n : Nat) : Int) - 1) (((m : Nat) : Int) - 1)) _ _ (Zpn oo oo) (show (3 : Nat) ≤ 9223372036854775807 by decide) (((n : Nat) : Int) - 1) (((m : Nat) : Int) - 1) ⟨oo, oo⟩ ⟨oo, oo⟩) (yp rfl (.unOp rfl (Xe _)) ?_))))))))); clear h
   refine Zt (fun hc28  => (absurd hc28 dd)) (fun hc28  => ?_)
   refine ym rfl rfl (yq rfl rfl rfl (.move rfl) (yq rfl rfl rfl (Pure1.cast (v' := .slice (some ⟨b23, 4, none⟩) 1 2) (.slice rfl (some _) (some _) none rfl rfl rfl (sll_22 _ _ _ _ _ _ (by show 1 ≤ 2; decide) (by show 2 ≤ 3; decide) (by show 1 < 3; decide))) (by rfl)) (yq rfl rfl rfl (.move rfl) (yq rfl rfl rfl (.move rfl) ?_))))
   refine Qp rfl rfl rfl kk (vs := [_, _, _]) rfl call4 (Zc3 (L1k (((n : Nat) : Int) - 1) (((m : Nat) : Int) - 1)) _ _ (ok_L1 oo oo) (show (1 : Nat) ≤ 9223372036854775807 by decide) (((m : Nat) : Int) - 1) (((n : Nat) : Int) - 1) ⟨oo, oo⟩ ⟨oo, oo⟩) ss dd ?_
   refine yq rfl rfl rfl (.unOp rfl (Xe _)) ?_
   refine Zt (fun hc35  => (absurd hc35 dd)) (fun hc35  => ?_)
   refine yp rfl (.pickF rfl rfl) (ym rfl rfl (yq rfl rfl rfl (.move rfl) (yq rfl rfl rfl (.binOp rfl rfl (fun _ => Vg _ _ _ _ _ dd)) (yq rfl rfl rfl (.eql rfl rfl) ?_))))
   refine Zt (fun hc40  => ?_) (fun hc40  => ?_)
   focus
    obtain ⟨er, ep, hzy, hMc, hPi⟩ := Qfg hlt_n hlt_m hc40
    refine yq rfl rfl rfl (.move rfl) (yq rfl rfl rfl (.move rfl) (yq rfl rfl rfl (.move rfl) (yq rfl rfl rfl (Pure1.cast (v' := .slice (some ⟨b23, 4, none⟩) 2 2) (.slice rfl (some _) none none rfl rfl rfl (Zq1 _ _ _ _ _ (by show 1 ≤ 3; decide))) (by rfl)) (yq rfl rfl rfl (.move rfl) ?_))))
    refine Qp rfl rfl rfl kk (vs := [_, _, _]) rfl call37 (Zdk (LLk (((n : Nat) : Int) - 1) (((m : Nat) : Int) - 1)) (LMk (((n : Nat) : Int) - 1) (((m : Nat) : Int) - 1)) _ _ _ _ (Zpn oo oo) (Qbs oo oo) (show (3 : Nat) ≤ 9223372036854775807 by decide) (show (2 : Nat) ≤ 9223372036854775807 by decide) (((n : Nat) : Int) - 1) er ep hzy hMc hPi) ss dd ?_
    refine yq rfl rfl rfl (.unOp rfl (Xe _)) ?_
    refine Zt (fun hc47  => (absurd hc47 dd)) (fun hc47  => ?_)
    refine yq rfl rfl rfl (.move rfl) (yq rfl rfl rfl (.move rfl) (yq rfl rfl rfl (.move rfl) (yq rfl rfl rfl (.move rfl) (yq rfl rfl rfl (.build [(_, _), (_, _)] rfl (Zjt _ _)) (yq rfl rfl rfl (.move rfl) (yq rfl rfl rfl (.move rfl) (yq rfl rfl rfl (.move rfl) (yq rfl rfl rfl (.move rfl) (yq rfl rfl rfl (.move rfl) (yq rfl rfl rfl (.move rfl) ?_))))))))))
    refine Qn rfl rfl rfl kk (fs := []) (cs := []) rfl (vs := [_]) rfl call36 (Gk 2) ss dd ?_
    refine Qn rfl rfl rfl kk (fs := []) (cs := []) rfl (vs := [_]) rfl call36 (Gk (-1)) ss dd ?_
    refine Qn rfl rfl rfl kk (fs := []) (cs := []) rfl (vs := [_]) rfl call36 (Gk 1) ss dd ?_
    refine Qn rfl rfl rfl kk (fs := []) (cs := []) rfl (vs := [_]) rfl call36 (Gk 2) ss dd ?_
    refine Qn rfl rfl rfl kk (fs := []) (cs := []) rfl (vs := [_]) rfl call36 (Gk 0) ss dd ?_
    refine Qn rfl rfl rfl kk (fs := []) (cs := []) rfl (vs := [_]) rfl call36 (Gk (-1)) ss dd ?_
    refine Qn rfl rfl rfl kk (fs := []) (cs := []) rfl (vs := [_]) rfl call36 (Gk 0) ss dd ?_
    refine Qn rfl rfl rfl kk (fs := []) (cs := []) rfl (vs := [_]) rfl call36 (Gk 3) ss dd ?_
    refine yq rfl rfl rfl (.build [(_, _), (_, _), (_, _), (_, _), (_, _), (_, _)] rfl (Zc0 _ _ _ _ _ _ _ _ _ _ _ _)) ?_
    refine Qp rfl rfl rfl kk (vs := [_, _, _, _, _]) rfl call38 (Zj7 (LLk (((n : Nat) : Int) - 1) (((m : Nat) : Int) - 1)) _ _ (Zpn oo oo) (show (3 : Nat) ≤ 9223372036854775807 by decide) (2, 1) (-1, 1) (1, 3) (1, 1) (2, 1) (0, 1) (-1, 1) (0, 1) (3, 1) dd dd dd ok6) ss dd ?_
    refine yq rfl rfl rfl (.unOp rfl (Xe _)) ?_
    refine Zt (fun hc69  => (absurd hc69 dd)) (fun hc69  => ?_)
    refine yq rfl rfl rfl (.pickF rfl rfl) (yq rfl rfl rfl (.move rfl) (yq rfl rfl rfl (.move rfl) (yq rfl rfl rfl (.move rfl) (yq rfl rfl rfl (Pure1.cast (v' := .slice (some ⟨b23, 4, none⟩) 2 2) (.slice rfl (some _) none none rfl rfl rfl (Zq1 _ _ _ _ _ (by show 1 ≤ 3; decide))) (by rfl)) (yq rfl rfl rfl (.move rfl) (yq rfl rfl rfl (Pure1.cast (v' := .slice (some ⟨b23, 0, none⟩) 1 3) (.slice rfl none (some _) none rfl rfl rfl (slh_22 _ _ _ _ (by show 1 ≤ 3; decide))) (by rfl)) (yq rfl rfl rfl (.move rfl) (yq rfl rfl rfl (.move rfl) ?_))))))))
    refine Qn rfl rfl rfl kk (fs := []) (cs := []) rfl (vs := [_]) rfl call36 (Gk 1) ss dd ?_
    refine Qn rfl rfl rfl kk (fs := []) (cs := []) rfl (vs := [_]) rfl call36 (Gk 2) ss dd ?_
    refine Qp rfl rfl rfl kk (vs := [_, _, _, _, _]) rfl call39 (Zqr (LLk (((n : Nat) : Int) - 1) (((m : Nat) : Int) - 1)) (LMk (((n : Nat) : Int) - 1) (((m : Nat) : Int) - 1)) L0k _ _ _ _ _ _ (Zpn oo oo) (Qbs oo oo) ok_L0 (show (3 : Nat) ≤ 9223372036854775807 by decide) (show (2 : Nat) ≤ 9223372036854775807 by decide) (show (1 : Nat) ≤ 9223372036854775807 by decide) (1, 1) (2, 1) dd dd) ss dd ?_
    refine yq rfl rfl rfl (.unOp rfl (Xe _)) ?_
    refine Zt (fun hc82  => (absurd hc82 dd)) (fun hc82  => ?_)
    refine yq rfl rfl rfl (.pickF rfl rfl) (yq rfl rfl rfl (.move rfl) (yq rfl rfl rfl (.move rfl) (yq rfl rfl rfl (.move rfl) (yq rfl rfl rfl (Pure1.cast (v' := .slice (some ⟨b23, 4, none⟩) 2 2) (.slice rfl (some _) none none rfl rfl rfl (Zq1 _ _ _ _ _ (by show 1 ≤ 3; decide))) (by rfl)) ?_))))
    refine Qp rfl rfl rfl kk (vs := [_, _]) rfl call40 (Zol (LLk (((n : Nat) : Int) - 1) (((m : Nat) : Int) - 1)) (LMk (((n : Nat) : Int) - 1) (((m : Nat) : Int) - 1)) _ _ _ _ (Zpn oo oo) (Qbs oo oo) (show (3 : Nat) ≤ 9223372036854775807 by decide) (show (2 : Nat) ≤ 9223372036854775807 by decide)) ss dd ?_
    refine yq rfl rfl rfl (.unOp rfl (Xe _)) ?_
    refine Zt (fun hc89  => (absurd hc89 dd)) (fun hc89  => ?_)
    refine yq rfl rfl rfl (.pickF rfl rfl) (yq rfl rfl rfl (.move rfl) (yq rfl rfl rfl (.move rfl) (yq rfl rfl rfl (.move rfl) (yq rfl rfl rfl (.move rfl) (yq rfl rfl rfl (.move rfl) (yq rfl rfl rfl (.move rfl) (yq rfl rfl rfl (.move rfl) (yq rfl rfl rfl (.move rfl) (yq rfl rfl rfl (.move rfl) (yq rfl rfl rfl (.move rfl) (yq rfl rfl rfl (.move rfl) (yq rfl rfl rfl (.move rfl) ?_))))))))))))
    refine Qn rfl rfl rfl kk (fs := []) (cs := []) rfl (vs := [_]) rfl call36 (Gk 1) ss dd ?_
    refine Qn rfl rfl rfl kk (fs := []) (cs := []) rfl (vs := [_]) rfl call36 (Gk 2) ss dd ?_
    refine Qn rfl rfl rfl kk (fs := []) (cs := []) rfl (vs := [_]) rfl call36 (Gk 1) ss dd ?_
    refine Qn rfl rfl rfl kk (fs := []) (cs := []) rfl (vs := [_]) rfl call36 (Gk 2) ss dd ?_
    refine Qn rfl rfl rfl kk (fs := []) (cs := []) rfl (vs := [_]) rfl call36 (Gk 0) ss dd ?_
    refine Qn rfl rfl rfl kk (fs := []) (cs := []) rfl (vs := [_]) rfl call36 (Gk (-1)) ss dd ?_
    refine Qn rfl rfl rfl kk (fs := []) (cs := []) rfl (vs := [_]) rfl call36 (Gk 0) ss dd ?_
    refine Qn rfl rfl rfl kk (fs := []) (cs := []) rfl (vs := [_]) rfl call36 (Gk 3) ss dd ?_
    refine yq rfl rfl rfl (.build [(_, _), (_, _), (_, _), (_, _), (_, _), (_, _)] rfl (Zc0 _ _ _ _ _ _ _ _ _ _ _ _)) ?_
    refine Qn rfl rfl rfl kk (fs := []) (cs := []) rfl (vs := [_]) rfl call36 (Gk 1) ss dd ?_
    refine Qn rfl rfl rfl kk (fs := []) (cs := []) rfl (vs := [_]) rfl call36 (Gk (-1)) ss dd ?_
    refine Qp rfl rfl rfl kk (vs := [_, _, _, _, _, _]) rfl call41 (Zmj (LLk (((n : Nat) : Int) - 1) (((m : Nat) : Int) - 1)) _ _ (Zpn oo oo) (show (3 : Nat) ≤ 9223372036854775807 by decide) (1, 1) (2, 1) (1, 1) (2, 1) (0, 1) (-1, 1) (0, 1) (3, 1) (1, 1) (-1, 1) dd dd ok6 dd dd) ss dd ?_
    refine yq rfl rfl rfl (.unOp rfl (Xe _)) ?_
    refine Zt (fun hc115  => (absurd hc115 dd)) (fun hc115  => ?_)
    refine yq rfl rfl rfl (.pickF rfl rfl) (yq rfl rfl rfl (.move rfl) (yq rfl rfl rfl (.move rfl) (yq rfl rfl rfl (.move rfl) (yq rfl rfl rfl (Pure1.cast (v' := .slice (some ⟨b23, 4, none⟩) 2 2) (.slice rfl (some _) none none rfl rfl rfl (Zq1 _ _ _ _ _ (by show 1 ≤ 3; decide))) (by rfl)) (yq rfl rfl rfl (.move rfl) (yq rfl rfl rfl (.pO m (.add rfl rfl)) (yq rfl rfl rfl (Pure1.cast (v' := .int .u8 ((m : Nat) : Int)) (.convert rfl (Qea _)) (by rw [wrap_u8 _ oo oo])) ?_)))))))
    refine Qp rfl rfl rfl kk (vs := [_, _, _]) rfl call42 (Zok (LLk (((n : Nat) : Int) - 1) (((m : Nat) : Int) - 1)) (LMk (((n : Nat) : Int) - 1) (((m : Nat) : Int) - 1)) _ _ _ _ (Zpn oo oo) (Qbs oo oo) (show (3 : Nat) ≤ 9223372036854775807 by decide) (show (2 : Nat) ≤ 9223372036854775807 by decide) m oo) ss dd ?_
    refine yq rfl rfl rfl (.unOp rfl (Xe _)) ?_
    refine Zt (fun hc125  => (absurd hc125 dd)) (fun hc125  => ?_)
    refine yq rfl rfl rfl (.pickF rfl rfl) (yq rfl rfl rfl (.pickT rfl rfl) (yp rfl (.pickF rfl rfl) (yn ?_))); intro a w h
   rotate_left
   focus
    skip
    refine yq rfl rfl rfl (.move rfl) (yo 41 rfl rfl rfl rfl (yo 41 rfl rfl rfl rfl (yo 41 rfl rfl rfl rfl (yo 41 rfl rfl rfl rfl (yo 41 rfl rfl rfl rfl (yo 41 rfl rfl rfl rfl (yo 41 rfl rfl rfl rfl (yu 48 rfl rfl rfl (yu 48 rfl rfl rfl (yu 48 rfl rfl rfl (yu 48 rfl rfl rfl (yu 48 rfl rfl rfl (yu 48 rfl rfl rfl (yu 48 rfl rfl rfl (yu 48 rfl rfl rfl (yu 48 rfl rfl rfl (yu 48 rfl rfl rfl (yu 48 rfl rfl rfl (yu 48 rfl rfl rfl (yu 48 rfl rfl rfl (yu 48 rfl rfl rfl (yu 48 rfl rfl rfl (yu 48 rfl rfl rfl (yu 48 rfl rfl rfl (yu 48 rfl rfl rfl (yu 48 rfl rfl rfl (yu 48 rfl rfl rfl (yu 48 rfl rfl rfl (yo 41 rfl rfl rfl rfl (yo 41 rfl rfl rfl rfl (yu 71 rfl rfl rfl (yu 71 rfl rfl rfl (yu 71 rfl rfl rfl (yu 71 rfl rfl rfl (yu 71 rfl rfl rfl (yu 71 rfl rfl rfl (yu 71 rfl rfl rfl (yu 71 rfl rfl rfl (yu 71 rfl rfl rfl (yu 71 rfl rfl rfl (yu 71 rfl rfl rfl (yo 41 rfl rfl rfl rfl (yo 41 rfl rfl rfl rfl (yu 84 rfl rfl rfl (yu 84 rfl rfl rfl (yu 84 rfl rfl rfl (yu 84 rfl rfl rfl (yu 84 rfl rfl rfl (yo 41 rfl rfl rfl rfl (yo 41 rfl rfl rfl rfl (yu 91 rfl rfl rfl (yu 91 rfl rfl rfl (yu 91 rfl rfl rfl (yu 91 rfl rfl rfl (yu 91 rfl rfl rfl (yu 91 rfl rfl rfl (yu 91 rfl rfl rfl (yu 91 rfl rfl rfl (yu 91 rfl rfl rfl (yu 91 rfl rfl rfl (yu 91 rfl rfl rfl (yu 91 rfl rfl rfl (yu 91 rfl rfl rfl (yu 91 rfl rfl rfl (yu 91 rfl rfl rfl (yu 91 rfl rfl rfl (yu 91 rfl rfl rfl (yu 91 rfl rfl rfl (yu 91 rfl rfl rfl (yu 91 rfl rfl rfl (yu 91 rfl rfl rfl (yu 91 rfl rfl rfl (yu 91 rfl rfl rfl (yu 91 rfl rfl rfl (yo 41 rfl rfl rfl rfl (yo 41 rfl rfl rfl rfl (yu 117 rfl rfl rfl (yu 117 rfl rfl rfl (yu 117 rfl rfl rfl (yu 117 rfl rfl rfl (yu 117 rfl rfl rfl (yu 117 rfl rfl rfl (yu 117 rfl rfl rfl (yu 117 rfl rfl rfl (yo 41 rfl rfl rfl rfl (yq rfl rfl rfl (.pickF rfl rfl) (yp rfl (.pickF rfl rfl) (yn ?_)))))))))))))))))))))))))))))))))))))))))))))))))))))))))))))))))))))))))))))))))))))))); intro a w h
   all_goals
    refine cW ?_
    refine Zj h rfl ?_
    refine gC h (zk (zr (zm rfl (zp (Pure1.cast (v' := .int .i64 (((m + 1 : Nat) : Int) - 1)) (.add rfl rfl) (by show Value.int _ _ = Value.int _ _; congr 1; omega)) (za rfl (zn ?_)))))); clear h; intro a w h
    exact ⟨m + 1, ⟨oo, (h.factsSub (by simp)).sub sA⟩, oo⟩
  ·
   skip
   have heq_m : 15 = m := dF hc10
   subst heq_m
   refine gC h (ze (zr (zm rfl (zp (Pure1.cast (v' := .int .i64 (((n + 1 : Nat) : Int) - 1)) (.add rfl rfl) (by show Value.int _ _ = Value.int _ _; congr 1; omega)) (za rfl (zn ?_)))))); clear h; intro a w h
   exact ⟨n + 1, ⟨oo, h.sub sA⟩, oo⟩
 ·
  skip
  have heq_n : 15 = n := dF hc6
  subst heq_n
  refine gC h (ze (zS (zm rfl ?_))); clear h; intro a w h
  refine Zi (Yq h (fs := []) (cs := []) rfl (vs := [_]) rfl call36 (Gk 1) dd ?_); clear h; intro a w h
  refine gL h (zp (.build [(_, _), (_, _), (_, _)] rfl (Xt _ _ _ _)) (zB [(_, _)] rfl (Zcy _ _ _ _) fun b132 => ?_)); clear h; intro a w h
  replace h := h.shareAll hS (cellsOf Jq [⟨9223372036854775807, 1, 1, 1⟩]) rfl
  refine gL h (zw [_, _, _] rfl call4 (Zc3 [⟨9223372036854775807, 1, 1, 1⟩] _ _ dd (show (1 : Nat) ≤ 9223372036854775807 by decide) 0 0 ⟨by decide, by decide⟩ ⟨by decide, by decide⟩) ?_); clear h; intro a w h
  refine Zg h (fun hc133 h => ?_) (fun hc133 h => (absurd hc133 dd))
  refine gL h (zm rfl (zq 134 rfl rfl (.move rfl) ?_)); clear h; intro a w h
  refine Ze 134 h rfl rfl (Yq h (fs := []) (cs := []) rfl (vs := [_]) rfl call36 (Gk 1) dd ?_); clear h; intro a w h
  refine gL h (zq 134 rfl rfl (.build [(_, _), (_, _), (_, _)] rfl (Xt _ _ _ _)) ?_); clear h; intro a w h
  refine Ze 134 h rfl rfl (Ko h [(_, _)] rfl (Zcy _ _ _ _) dd ?_); clear h; intro b138 a w h
  replace h := h.shareAll hS (cellsOf Jq [⟨1, 9223372036854775807, 1, 1⟩]) rfl
  refine Ze 134 h rfl rfl (Qb h (vs := [_, _, _]) rfl call4 (Zc3 [⟨1, 9223372036854775807, 1, 1⟩] _ _ dd (show (1 : Nat) ≤ 9223372036854775807 by decide) 9223372036854775807 1 ⟨by decide, by decide⟩ ⟨by decide, by decide⟩) ss dd ?_); clear h; intro a w h
  refine Zg h (fun hc139 h => ?_) (fun hc139 h => (absurd hc139 dd))
  refine gL h (zp (.pickT rfl rfl) (zm rfl (zq 141 rfl rfl (.move rfl) ?_))); clear h; intro a w h
  refine Ze 141 h rfl rfl (Yq h (fs := []) (cs := []) rfl (vs := [_]) rfl call36 (Gk 1) dd ?_); clear h; intro a w h
  refine gL h (zq 141 rfl rfl (.build [(_, _), (_, _), (_, _)] rfl (Xt _ _ _ _)) ?_); clear h; intro a w h
  refine Ze 141 h rfl rfl (Ko h [(_, _)] rfl (Zcy _ _ _ _) dd ?_); clear h; intro b145 a w h
  replace h := h.shareAll hS (cellsOf Jq [⟨-9223372036854775808, -9223372036854775808, 1, 1⟩]) rfl
  refine Ze 141 h rfl rfl (Qb h (vs := [_, _, _]) rfl call4 (Zc3 [⟨-9223372036854775808, -9223372036854775808, 1, 1⟩] _ _ dd (show (1 : Nat) ≤ 9223372036854775807 by decide) (-9223372036854775808) (-9223372036854775808) ⟨by decide, by decide⟩ ⟨by decide, by decide⟩) ss dd ?_); clear h; intro a w h
  refine Zg h (fun hc146 h => ?_) (fun hc146 h => (absurd hc146 dd))
  refine gL h (zp (.pickT rfl rfl) (zm rfl ?_)); clear h; intro a w h
  refine Ze 148 h rfl rfl (Qb h (vs := [_, _, _]) rfl call37 (Zdk [] [] none none 0 0 (fun _ h => nomatch h) (fun _ h => nomatch h) (show (0 : Nat) ≤ 9223372036854775807 by decide) (show (0 : Nat) ≤ 9223372036854775807 by decide) (-1) 0 1 Iff.rfl Zrn (.inr ⟨rfl, .inl dd⟩)) ss dd ?_); clear h; intro a w h
  refine Zg h (fun hc149 h => ?_) (fun hc149 h => (absurd hc149 dd))
  refine gL h (zp (.pickT rfl rfl) (zm rfl ?_)); clear h; intro a w h
  refine Ze 151 h rfl rfl (Qb h (vs := [_, _, _]) rfl call37 (Zdk [] [] none none 0 0 (fun _ h => nomatch h) (fun _ h => nomatch h) (show (0 : Nat) ≤ 9223372036854775807 by decide) (show (0 : Nat) ≤ 9223372036854775807 by decide) 13 0 1 Iff.rfl Zrn (.inr ⟨rfl, .inr dd⟩)) ss dd ?_); clear h; intro a w h
  refine Zg h (fun hc152 h => ?_) (fun hc152 h => (absurd hc152 dd))
  refine gL h (zp (.pickT rfl rfl) (zm rfl (zq 154 rfl rfl (.move rfl) ?_))); clear h; intro a w h
  refine Ze 154 h rfl rfl (Yq h (fs := []) (cs := []) rfl (vs := [_]) rfl call36 (Gk 1) dd ?_); clear h; intro a w h
  refine gL h (zq 154 rfl rfl (.build [(_, _), (_, _), (_, _)] rfl (Xt _ _ _ _)) ?_); clear h; intro a w h
  refine Ze 154 h rfl rfl (Ko h [(_, _)] rfl (Zcy _ _ _ _) dd ?_); clear h; intro b158 a w h
  replace h := h.shareAll hS (cellsOf Jq [⟨12, 0, 1, 1⟩]) rfl
  refine gL h (zq 154 rfl rfl (.move rfl) ?_); clear h; intro a w h
  refine Ze 154 h rfl rfl (Yq h (fs := []) (cs := []) rfl (vs := [_]) rfl call36 (Gk 4) dd ?_); clear h; intro a w h
  refine gL h (zq 154 rfl rfl (.build [(_, _), (_, _), (_, _)] rfl (Xt _ _ _ _)) ?_); clear h; intro a w h
  refine Ze 154 h rfl rfl (Ko h [(_, _)] rfl (Zcy _ _ _ _) dd ?_); clear h; intro b162 a w h
  replace h := h.shareAll hS (cellsOf Jq [⟨0, 0, 4, 1⟩]) rfl
  refine Ze 154 h rfl rfl (Qb h (vs := [_, _, _]) rfl call37 (Zdk [⟨12, 0, 1, 1⟩] [⟨0, 0, 4, 1⟩] _ _ _ _ dd dd (show (1 : Nat) ≤ 9223372036854775807 by decide) (show (1 : Nat) ≤ 9223372036854775807 by decide) 1 er1 ep1 hzy1 hMc1 hPi1) ss dd ?_); clear h; intro a w h
  refine Zg h (fun hc163 h => ?_) (fun hc163 h => (absurd hc163 dd))
  refine gL h (zp (.pickT rfl rfl) (zm rfl (zq 165 rfl rfl (.move rfl) ?_))); clear h; intro a w h
  refine Ze 165 h rfl rfl (Yq h (fs := []) (cs := []) rfl (vs := [_]) rfl call36 (Gk 1) dd ?_); clear h; intro a w h
  refine gL h (zq 165 rfl rfl (.build [(_, _), (_, _), (_, _)] rfl (Xt _ _ _ _)) (zq 165 rfl rfl (.move rfl) ?_)); clear h; intro a w h
  refine Ze 165 h rfl rfl (Yq h (fs := []) (cs := []) rfl (vs := [_]) rfl call36 (Gk (-1)) dd ?_); clear h; intro a w h
  refine gL h (zq 165 rfl rfl (.build [(_, _), (_, _), (_, _)] rfl (Xt _ _ _ _)) (zq 165 rfl rfl (.move rfl) ?_)); clear h; intro a w h
  refine Ze 165 h rfl rfl (Yq h (fs := []) (cs := []) rfl (vs := [_]) rfl call36 (Gk 0) dd ?_); clear h; intro a w h
  refine gL h (zq 165 rfl rfl (.build [(_, _), (_, _), (_, _)] rfl (Xt _ _ _ _)) ?_); clear h; intro a w h
  refine Ze 165 h rfl rfl (Ko h [(_, _), (_, _), (_, _)] rfl (Zgf _ _ _ _ _ _ _ _ _ _ _ _) dd ?_); clear h; intro b175 a w h
  replace h := h.shareAll hS (cellsOf Jq [⟨0, 0, 1, 1⟩, ⟨0, 0, -1, 1⟩, ⟨5, 0, 0, 1⟩]) rfl
  refine Ze 165 h rfl rfl (Qb h (vs := [_, _, _]) rfl call4 (Zc3 [⟨0, 0, 1, 1⟩, ⟨0, 0, -1, 1⟩, ⟨5, 0, 0, 1⟩] _ _ dd (show (3 : Nat) ≤ 9223372036854775807 by decide) 0 0 ⟨by decide, by decide⟩ ⟨by decide, by decide⟩) ss dd ?_); clear h; intro a w h
  refine Zg h (fun hc176 h => ?_) (fun hc176 h => (absurd hc176 dd))
  refine gL h (zp (.pickT rfl rfl) (zm rfl ?_)); clear h; intro a w h
  refine Ze 178 h rfl rfl (Yr h (vs := []) rfl call18 (Yk) dd ?_); clear h; intro a w h
  refine gL h (zp (.pickT rfl rfl) (za rfl (zn (zt ?_)))); clear h; intro a w h
  exact Zbw h
end
end Go.Proofs.YtddhlkfpdjmplaaGreatDoor
