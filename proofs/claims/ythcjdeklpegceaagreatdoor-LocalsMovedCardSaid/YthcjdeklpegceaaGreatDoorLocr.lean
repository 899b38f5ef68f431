/- Walks of functions. By an AI agent. -/
import Derived.Test.YthcjdeklpegceaaGreatDoorLocl
set_option linter.unusedVariables false
set_option linter.unusedSimpArgs false
set_option maxRecDepth 4000
namespace Go.Proofs.YthcjdeklpegceaaGreatDoor
open Go Go.Proofs Go.Fx Tryz
attribute [local irreducible] Oper.wp Code.wp wpList Fx.Head wpOp Qc
section
theorem Qb8 {b off : Nat} (w : World) : (Instr.fieldAt 27 (.pointer (some ⟨b, off, none⟩)) 0).run Tryz.prog w = .ok (.pointer (some ⟨b, off + 0, none⟩)) w := by
 simp [go_sem]
theorem Zyf {c0 c1 c2 c3 : Value} : Qe true 2 #[c0, c1, c2, c3] 0 = some (.agg #[c0, c1]) := rfl
theorem Qb7 {b off : Nat} (w : World) : (Instr.fieldAt 27 (.pointer (some ⟨b, off, none⟩)) 1).run Tryz.prog w = .ok (.pointer (some ⟨b, off + 2, none⟩)) w := by
 simp [go_sem]
theorem Zye {c0 c1 c2 c3 : Value} : Qe true 2 #[c0, c1, c2, c3] 2 = some (.agg #[c2, c3]) := rfl
theorem Zy5 (b off : Nat) (w : World) : (Instr.indexAt 29 (.pointer (some ⟨b, off, none⟩)) (.int .i64 0)).run Tryz.prog w = .ok (.pointer (some ⟨b, off + 0, none⟩)) w := by
 simp [go_sem, Instr.indexAt]
theorem Zus {c0 c1 c2 c3 c4 c5 c6 c7 c8 c9 c10 c11 : Value} : Qe true 4 #[c0, c1, c2, c3, c4, c5, c6, c7, c8, c9, c10, c11] 0 = some (.agg #[c0, c1, c2, c3]) := rfl
theorem Zy4 (b off : Nat) (w : World) : (Instr.indexAt 29 (.pointer (some ⟨b, off, none⟩)) (.int .i64 1)).run Tryz.prog w = .ok (.pointer (some ⟨b, off + 4, none⟩)) w := by
 simp [go_sem, Instr.indexAt]
theorem Zur {c0 c1 c2 c3 c4 c5 c6 c7 c8 c9 c10 c11 : Value} : Qe true 4 #[c0, c1, c2, c3, c4, c5, c6, c7, c8, c9, c10, c11] 4 = some (.agg #[c4, c5, c6, c7]) := rfl
theorem Zy3 (b off : Nat) (w : World) : (Instr.indexAt 29 (.pointer (some ⟨b, off, none⟩)) (.int .i64 2)).run Tryz.prog w = .ok (.pointer (some ⟨b, off + 8, none⟩)) w := by
 simp [go_sem, Instr.indexAt]
theorem Zuq {c0 c1 c2 c3 c4 c5 c6 c7 c8 c9 c10 c11 : Value} : Qe true 4 #[c0, c1, c2, c3, c4, c5, c6, c7, c8, c9, c10, c11] 8 = some (.agg #[c8, c9, c10, c11]) := rfl
theorem Ze0 {c0 c1 c2 c3 c4 c5 c6 c7 c8 c9 c10 c11 c12 c13 c14 c15 c16 c17 c18 c19 c20 c21 c22 c23 c24 c25 c26 c27 c28 c29 v0 v1 v2 v3 v4 v5 v6 v7 v8 v9 : Value} : Qc #[c0, c1, c2, c3, c4, c5, c6, c7, c8, c9, c10, c11, c12, c13, c14, c15, c16, c17, c18, c19, c20, c21, c22, c23, c24, c25, c26, c27, c28, c29] 10 [v0, v1, v2, v3, v4, v5, v6, v7, v8, v9] = #[c0, c1, c2, c3, c4, c5, c6, c7, c8, c9, v0, v1, v2, v3, v4, v5, v6, v7, v8, v9, c20, c21, c22, c23, c24, c25, c26, c27, c28, c29] := by kernel_rfl
theorem Zez {c0 c1 c2 c3 c4 c5 c6 c7 c8 c9 c10 c11 c12 c13 c14 c15 c16 c17 c18 c19 c20 c21 c22 c23 c24 c25 c26 c27 c28 c29 v0 v1 v2 v3 v4 v5 v6 v7 v8 v9 : Value} : Qc #[c0, c1, c2, c3, c4, c5, c6, c7, c8, c9, c10, c11, c12, c13, c14, c15, c16, c17, c18, c19, c20, c21, c22, c23, c24, c25, c26, c27, c28, c29] 20 [v0, v1, v2, v3, v4, v5, v6, v7, v8, v9] = #[c0, c1, c2, c3, c4, c5, c6, c7, c8, c9, c10, c11, c12, c13, c14, c15, c16, c17, c18, c19, v0, v1, v2, v3, v4, v5, v6, v7, v8, v9] := by kernel_rfl
theorem Zy8 (b off : Nat) (w : World) : (Instr.indexAt 25 (.pointer (some ⟨b, off, none⟩)) (.int .i64 0)).run Tryz.prog w = .ok (.pointer (some ⟨b, off + 0, none⟩)) w := by
 simp [go_sem, Instr.indexAt]
theorem Zyd {c0 c1 c2 c3 c4 c5 : Value} : Qe true 2 #[c0, c1, c2, c3, c4, c5] 0 = some (.agg #[c0, c1]) := rfl
theorem Zy7 (b off : Nat) (w : World) : (Instr.indexAt 25 (.pointer (some ⟨b, off, none⟩)) (.int .i64 1)).run Tryz.prog w = .ok (.pointer (some ⟨b, off + 2, none⟩)) w := by
 simp [go_sem, Instr.indexAt]
theorem Zyc {c0 c1 c2 c3 c4 c5 : Value} : Qe true 2 #[c0, c1, c2, c3, c4, c5] 2 = some (.agg #[c2, c3]) := rfl
theorem Zy6 (b off : Nat) (w : World) : (Instr.indexAt 25 (.pointer (some ⟨b, off, none⟩)) (.int .i64 2)).run Tryz.prog w = .ok (.pointer (some ⟨b, off + 4, none⟩)) w := by
 simp [go_sem, Instr.indexAt]
theorem Zyb {c0 c1 c2 c3 c4 c5 : Value} : Qe true 2 #[c0, c1, c2, c3, c4, c5] 4 = some (.agg #[c4, c5]) := rfl
theorem Zqu (b off : Nat) (w : World) : (Instr.indexAt 30 (.pointer (some ⟨b, off, none⟩)) (.int .i64 0)).run Tryz.prog w = .ok (.pointer (some ⟨b, off + 0, none⟩)) w := by
 simp [go_sem, Instr.indexAt]
theorem Zd7 (x0_0 : Value) (x0_1 : Value) (x0_2 : Value) (x0_3 : Value) (x0_4 : Value) (w : World) : (Instr.buildSlice 50 1 [(0, .agg #[x0_0, x0_1, x0_2, x0_3, x0_4])].toArray).run Tryz.prog w = .ok (.slice (some ⟨w.heap.size, 0, none⟩) 1 1) (w.alloc (.cells #[x0_0, x0_1, x0_2, x0_3, x0_4] 41 (0, 0))) := by
 simp [go_sem]
theorem Zvt (b off n c j : Nat) (h : j < n) (w : World) : (Instr.indexAt 52 (.slice (some ⟨b, off, none⟩) n c) (.int .i64 (j : Int))).run Tryz.prog w = .ok (.pointer (some ⟨b, off + j, none⟩)) w := by
 simpa using Xi runUnderlying52 sizeOf65 b off n c j h w
def ptv (q : (Int × Int) × (Int × Int)) : Pt := (qvp q.1, qvp q.2)
def OkP (q : (Int × Int) × (Int × Int)) : Prop := OkQ q.1 ∧ OkQ q.2
theorem Ks {q : (Int × Int) × (Int × Int)} (h : OkP q) : PtK 4 (ptv q) := ⟨Qy h.1, Qy h.2⟩
theorem Zjj (q : Int × Int) (h : OkQ q) : Xm Tryz.prog 19 [.agg #[.int .i64 q.1, .int .u32 q.2]] (Zr (qvp q)) := C_qOf q.1 q.2 h.1 h.2.1 h.2.2.1 h.2.2.2
theorem Zdf (p : (Int × Int) × (Int × Int)) (hp : OkP p) : Xm Tryz.prog 26 [.agg #[.int .i64 p.1.1, .int .u32 p.1.2, .int .i64 p.2.1, .int .u32 p.2.2]] (encPt (ptv p)) := by
 obtain ⟨hp1, hp2⟩ := hp
 refine fn_intro func26 rfl ntmps26 nb ?_
 intro S w0 a hS h
 refine gC h (zS (zx rfl fun b1 => zz Yc fun b2 => zn (zs (yD Za [0, 1, 3, 4, 2, 5, 6, 7] (Zd kk) (yp rfl (.fA rfl Qb8) (yd rfl rfl mr isAgg24 sizeOf24 Zyf ?_)))))); clear h
 refine yp rfl (.fA rfl Qb7) (yd rfl rfl mr isAgg24 sizeOf24 Zye ?_)
 refine yv [_] rfl rfl call19 (Zjj p.1 (by assumption)) ?_
 have hl5 := Qy (q := p.1) (by assumption)
 refine yv [_] rfl rfl call19 (Zjj p.2 (by assumption)) ?_
 have hl8 := Qy (q := p.2) (by assumption)
 refine yp rfl (.build [(_, _), (_, _)] rfl (Zct _ _ _ _ _ _ _ _ _ _)) (yt rfl rfl rfl Qg uu sizeOf43 rfl nb rfl ?_)
 refine yn (zt ?_); intro a w h
 refine Xd h (Zk h rfl (.cell rfl mr isAgg43 sizeOf43 Zj)) ?_
 rfl
theorem Znx (p0 p1 p2 : (Int × Int) × (Int × Int)) (h0 : OkP p0) (h1 : OkP p1) (h2 : OkP p2) : Ctr Tryz.prog 5 [.agg #[.int .i64 p0.1.1, .int .u32 p0.1.2, .int .i64 p0.2.1, .int .u32 p0.2.2, .int .i64 p1.1.1, .int .u32 p1.1.2, .int .i64 p1.2.1, .int .u32 p1.2.2, .int .i64 p2.1.1, .int .u32 p2.1.2, .int .i64 p2.2.1, .int .u32 p2.2.2]] [] (fun v Ψ => ∃ pa pb pc : Pt, PtK 4 pa ∧ PtK 4 pb ∧ PtK 4 pc ∧ v = .tuple #[Jb pa pb pc, .bool (decide ((twP pa pb pc).num.sign > 0))] ∧ Ψ = []) := by
 refine fn_intro func5 rfl ntmps5 nb ?_
 intro S w0 a hS h
 refine gC h (zS (zx rfl fun b1 => zz Zcl fun b2 => za rfl (zn (zs (yD Za [0, 1, 3, 4, 6, 7, 2, 5, 8, 9, 10, 11] (Qs ⟨.inl rfl, .inl rfl, .inl rfl, .inl rfl, .inl rfl, .inl rfl, .inl rfl, .inl rfl, .inl rfl, .inl rfl, .inr ⟨4, 44, _, _, _, rfl, rfl, by decide, _, Zcl⟩, .inl rfl, trivial⟩) (yp rfl (.indexAddr rfl rfl (Zy5 _ _)) (yd rfl rfl mr isAgg27 sizeOf27 Zus ?_))))))); clear h
 refine yp rfl (.indexAddr rfl rfl (Zy4 _ _)) (yd rfl rfl mr isAgg27 sizeOf27 Zur ?_)
 refine yp rfl (.indexAddr rfl rfl (Zy3 _ _)) (yd rfl rfl mr isAgg27 sizeOf27 Zuq ?_)
 refine yv [_] rfl rfl call26 (Zdf p0 (by assumption)) ?_
 have hl7 := (Ks (q := p0) (by assumption)).1
 have hl7 := (Ks (q := p0) (by assumption)).2
 refine yv [_] rfl rfl call26 (Zdf p1 (by assumption)) ?_
 have hl10 := (Ks (q := p1) (by assumption)).1
 have hl10 := (Ks (q := p1) (by assumption)).2
 refine yv [_] rfl rfl call26 (Zdf p2 (by assumption)) ?_
 have hl13 := (Ks (q := p2) (by assumption)).1
 have hl13 := (Ks (q := p2) (by assumption)).2
 refine yp rfl (.build [(_, _), (_, _), (_, _)] rfl (Ze7 _ _ _ _ _ _ _ _ _ _ _ _ _ _ _ _ _ _ _ _ _ _ _ _ _ _ _ _ _ _)) (yz rfl Zcl fun b4 => yt rfl rfl rfl Vl uu sizeOf44 rfl nb rfl ?_)
 refine yn (zs (zS (zp (.indexAddr rfl rfl (Xu _ _)) (zd rfl mr isAgg43 sizeOf43 Jy ?_))))
 refine zp (.indexAddr rfl rfl (Xh _ _)) (zd rfl mr isAgg43 sizeOf43 Jn ?_)
 refine zp (.indexAddr rfl rfl (Xg _ _)) (zd rfl mr isAgg43 sizeOf43 Jm ?_)
 refine zv [_, _, _] rfl call32 (Zl4 (ptv p0) (ptv p1) (ptv p2) oo oo oo oo oo oo) (zp (.lss rfl rfl) (zn ?_)); intro a w h
 refine cW ?_
 refine Zg h rfl (fun hc22 => ?_) (fun hc22 => ?_)
 ·
  skip
  refine gC h (zr (zp (.indexAddr rfl rfl (Xg _ _)) (zd rfl mr isAgg43 sizeOf43 Jm ?_)))
  refine zp (.indexAddr rfl rfl (Xh _ _)) (zd rfl mr isAgg43 sizeOf43 Jn ?_)
  refine zp (.indexAddr rfl rfl (Xh _ _)) (zt' rfl rfl Ze0 uu sizeOf43 rfl nb rfl ?_)
  refine zp (.indexAddr rfl rfl (Xg _ _)) (zt' rfl rfl Zez uu sizeOf43 rfl nb rfl ?_)
  refine zn (zs (yD Za [0, 1, 2, 3, 4, 5, 6, 7, 8, 9, 10] (Zd kk) (yd rfl rfl mr isAgg44 sizeOf44 Qz ?_)))
  refine yp rfl (.indexAddr rfl rfl (Xu _ _)) (yd rfl rfl mr isAgg43 sizeOf43 Jy ?_)
  refine yp rfl (.indexAddr rfl rfl (Xh _ _)) (yd rfl rfl mr isAgg43 sizeOf43 Jn ?_)
  refine yp rfl (.indexAddr rfl rfl (Xg _ _)) (yd rfl rfl mr isAgg43 sizeOf43 Jm ?_)
  refine yv [_, _, _] rfl rfl call32 (Zl4 (ptv p0) (ptv p2) (ptv p1) oo oo oo oo oo oo) (yp rfl (.gtr rfl rfl) (yt rfl rfl rfl Vl uu sizeOf44 rfl nb rfl ?_))
  refine yp rfl (.assign rfl) (yn (zt ?_)); intro a w h
  refine Xr (Ψ := []) h (Qq h rfl (.cell rfl mr isAgg44 sizeOf44 Qz) (.tmp rfl)) ?_ ss
  exact ⟨ptv p0, ptv p2, ptv p1, Ks h0, Ks h2, Ks h1, rfl, rfl⟩
 ·
  skip
  refine gC h (zk (zs (yD Za [0, 1, 2, 3, 4, 5, 6, 7, 8, 9, 10] (Zd kk) (yd rfl rfl mr isAgg44 sizeOf44 Qz ?_)))); clear h
  refine yp rfl (.indexAddr rfl rfl (Xu _ _)) (yd rfl rfl mr isAgg43 sizeOf43 Jy ?_)
  refine yp rfl (.indexAddr rfl rfl (Xh _ _)) (yd rfl rfl mr isAgg43 sizeOf43 Jn ?_)
  refine yp rfl (.indexAddr rfl rfl (Xg _ _)) (yd rfl rfl mr isAgg43 sizeOf43 Jm ?_)
  refine yv [_, _, _] rfl rfl call32 (Zl4 (ptv p0) (ptv p1) (ptv p2) oo oo oo oo oo oo) (yp rfl (.gtr rfl rfl) (yt rfl rfl rfl Vl uu sizeOf44 rfl nb rfl ?_))
  refine yp rfl (.assign rfl) (yn (zt ?_)); intro a w h
  refine Xr (Ψ := []) h (Qq h rfl (.cell rfl mr isAgg44 sizeOf44 Qz) (.tmp rfl)) ?_ ss
  exact ⟨ptv p0, ptv p1, ptv p2, Ks h0, Ks h1, Ks h2, rfl, rfl⟩
theorem Zl2 (k0 k1 k2 : Int × Int) (h0 : OkQ k0) (h1 : OkQ k1) (h2 : OkQ k2) : Xm Tryz.prog 11 [.agg #[.int .i64 k0.1, .int .u32 k0.2, .int .i64 k1.1, .int .u32 k1.2, .int .i64 k2.1, .int .u32 k2.2]] (Ze3 (qvp k0, qvp k1, qvp k2)) := by
 refine fn_intro func11 rfl ntmps11 nb ?_
 intro S w0 a hS h
 refine gC h (zS (zx rfl fun b1 => zz Ztj fun b2 => zn (zs (yD Za [0, 1, 3, 4, 6, 7, 2, 5, 8, 9, 10] (Zd kk) (yp rfl (.indexAddr rfl rfl (Zy8 _ _)) (yd rfl rfl mr isAgg24 sizeOf24 Zyd ?_)))))); clear h
 refine yp rfl (.indexAddr rfl rfl (Zy7 _ _)) (yd rfl rfl mr isAgg24 sizeOf24 Zyc ?_)
 refine yp rfl (.indexAddr rfl rfl (Zy6 _ _)) (yd rfl rfl mr isAgg24 sizeOf24 Zyb ?_)
 refine yv [_] rfl rfl call19 (Zjj k0 (by assumption)) ?_
 have hl5 := Qy (q := k0) (by assumption)
 refine yv [_] rfl rfl call19 (Zjj k1 (by assumption)) ?_
 have hl8 := Qy (q := k1) (by assumption)
 refine yv [_] rfl rfl call19 (Zjj k2 (by assumption)) ?_
 have hl11 := Qy (q := k2) (by assumption)
 refine yp rfl (.build [(_, _), (_, _), (_, _)] rfl (Ze6 _ _ _ _ _ _ _ _ _ _ _ _ _ _ _)) (yt rfl rfl rfl Zeh uu sizeOf60 rfl nb rfl ?_)
 refine yn (zt ?_); intro a w h
 refine Xd h (Zk h rfl (.cell rfl mr isAgg60 sizeOf60 Zf9)) ?_
 rfl
theorem Qab : Xm Tryz.prog 7 [.bool false] (.int .i64 1) := by
 refine fn_intro func7 rfl ntmps7 nb ?_
 intro S w0 a hS h
 refine gC h (zS (za rfl (zn (zs (zS (zm rfl (zn ?_))))))); clear h; intro a w h
 refine cW ?_
 refine Zf h rfl ?_
 refine gC h (zk (zS (za rfl (zn (zt ?_))))); clear h; intro a w h
 exact Zdj h
theorem Qaa : Xm Tryz.prog 7 [.bool true] (.int .i64 2) := by
 refine fn_intro func7 rfl ntmps7 nb ?_
 intro S w0 a hS h
 refine gC h (zS (za rfl (zn (zs (zS (zm rfl (zn ?_))))))); clear h; intro a w h
 refine cW ?_
 refine Zi h rfl ?_
 refine gC h (zS (za rfl (zn (zt ?_)))); clear h; intro a w h
 exact Zdj h
end
section
theorem Zuh (X Y : Operand) (x y : Pt) (hne : x ≠ y) (w : World) : (do eqGuard .eql 43 X Y (encPt x) (encPt y); Go.binOp .eql 43 (encPt x) (encPt y) : Sem Value).run Tryz.prog w = .ok (.bool false) w := by
 obtain ⟨x1, x2⟩ := x
 obtain ⟨y1, y2⟩ := y
 simp [go_sem]
 have q1 := @Zhs x1 y1
 have q2 := @Zhs x2 y2
 rw [decide_eq_decide] at q1 q2
 simp only [← str_eq] at q1 q2
 exact fun a1 a2 a3 a4 a5 b1 b2 b3 b4 b5 => hne (by rw [q1.1 ⟨a1, a2, a3, a4, a5⟩, q2.1 ⟨b1, b2, b3, b4, b5⟩])
def pU0 : Pt := (((0 : Int) : Rat), ((0 : Int) : Rat))
def pU1 : Pt := (((1 : Int) : Rat), ((0 : Int) : Rat))
def pU2 : Pt := (((0 : Int) : Rat), ((1 : Int) : Rat))
theorem Qbu : PtK 4 pU0 := ⟨Nat.le_trans (Zs 0 dd dd) dd, Nat.le_trans (Zs 0 dd dd) dd⟩
theorem Zyi : PtK 4 pU1 := ⟨Nat.le_trans (Zs 1 dd dd) dd, Nat.le_trans (Zs 0 dd dd) dd⟩
theorem Zyh : PtK 4 pU2 := ⟨Nat.le_trans (Zs 0 dd dd) dd, Nat.le_trans (Zs 1 dd dd) dd⟩
theorem pU_T : 0 < (twP pU0 pU1 pU2).num.sign := by decide +kernel
theorem Zw2 (n m : Int) (h0 : n = 0 ∨ n = 1) (h1 : m = 0 ∨ m = 1) : Xm Tryz.prog 37 [.int .i64 n, .int .i64 m] (encPt ((n : Rat), (m : Rat))) := Qda n m oo oo oo oo
theorem Qag : Gh Tryz.prog 87 [.slice none 0 0] [Row none (cellsOf Qh [])] (.int .i64 (-1)) := by
 have := Zf1 [] none 0 0 1 (Pq.nil 0) dd dd
 rwa [show Zs1 (norm []) = -1 from by decide +kernel] at this
theorem Zpi : Xm Tryz.prog 33 [] (Jb pU0 pU1 pU2) := by
 refine fn_intro func33 rfl ntmps33 nb ?_
 intro S w0 a hS h
 refine gC h (zS (zz Zcl fun b0 => zn (zS (zv [_, _] rfl call37 (Zw2 0 0 dd dd) (zv [_, _] rfl call37 (Zw2 1 0 dd dd) (zv [_, _] rfl call37 (Zw2 0 1 dd dd) (zp (.build [(_, _), (_, _), (_, _)] rfl (Ze7 _ _ _ _ _ _ _ _ _ _ _ _ _ _ _ _ _ _ _ _ _ _ _ _ _ _ _ _ _ _)) (zt' rfl rfl Vl uu sizeOf44 rfl nb rfl ?_)))))))); clear h; intro a w h
 refine wpList_nil (wp_ret ?_)
 refine Xd h (Zk h rfl (.cell rfl mr isAgg44 sizeOf44 Qz)) ?_
 rfl
theorem Zcy (p : Pt) : Xm Tryz.prog 88 [encPt p] (encPt p) := by
 refine fn_intro func88 rfl ntmps88 nb ?_
 intro S w0 a hS h
 refine gC h (zS (zx rfl fun b1 => zz Zdg fun b2 => zn (zS (zp (.fA rfl Yu) (zd rfl mr isAgg41 sizeOf41 Jf ?_)))))
 refine zp (.fA rfl Yt) (zd rfl mr isAgg41 sizeOf41 Je ?_)
 refine zp (.build [(_, _), (_, _)] rfl (Zkn _ _ _ _ _ _ _ _ _ _)) (zt' rfl rfl Qg uu sizeOf139 rfl nb rfl ?_); intro a w h
 refine wpList_nil (wp_ret ?_)
 refine Xd h (Zk h rfl (.cell rfl mr isAgg139 sizeOf139 Zj)) ?_
 rfl
theorem Zn2 (p : List Tm) (ad : Option Addr) (c : Nat) (hp : Pq 0 4 p) (hd : Zs1 (norm p) = 0) : Gh Tryz.prog 87 [.slice ad p.length c] [Row ad (cellsOf Qh p)] (.int .i64 0) := by have := Zf1 p ad c 0 4 hp dd dd; rwa [hd] at this
set_option maxHeartbeats 1000000 in
theorem Qdv (pa pb pc : Pt) (ha : PtK 4 pa) (hb : PtK 4 pb) (hc : PtK 4 pc) (hT : 0 < (twP pa pb pc).num.sign) (f : List Tm) (ad : Option Addr) (c : Nat) (hf : Pq 0 4 f) (hdeg : Zs1 (norm f) = 0) : Ctr Tryz.prog 34 [.int .i64 1, Jb pa pb pc, .slice ad f.length c] [SideF, Row ad (cellsOf Qh f)] (fun v Ψ => ∃ ad' c', v = .tuple #[.slice ad' 3 c', .int .i64 0] ∧ Ψ = [Row ad' (cellsOf Zr [Zaw (norm (Jh f (Zjf (Zhb pa pb pc) (Zha pa pb pc) (Zg9 pa pb pc) (Qw 1 0)))) pa pb pc, Zaw (norm (Jh f (Zjf (Zhb pa pb pc) (Zha pa pb pc) (Zg9 pa pb pc) (Qw 1 1)))) pa pb pc, Zaw (norm (Jh f (Zjf (Zhb pa pb pc) (Zha pa pb pc) (Zg9 pa pb pc) (Qw 1 2)))) pa pb pc])]) := by
 refine fn_intro func34 rfl ntmps34 nb ?_
 intro S w0 a hS h
 replace h := h.derive (R := Row none (cellsOf Qh [])) (fun X _ hne => absurd rfl hne)
 refine gC h (zS (zx rfl fun b4 => za rfl (za rfl (zn (zS (zm rfl (zd rfl mr isAgg44 sizeOf44 Qz ?_))))))); clear h; intro a w h
 refine Zc (Jd h (vs := [_, _]) rfl call9 (Qah pa pb pc ha hb hc hT) (by exact hsA) dd ?_); clear h; rintro v18 Ψ18 a w ⟨ad18, a0, c0, a1, c1, a2, c2, rfl, rfl⟩ h
 obtain ⟨L0, hE0⟩ : ∃ G, Zjf (Zhb pa pb pc) (Zha pa pb pc) (Zg9 pa pb pc) (Qw 1 0) = G := ⟨_, rfl⟩
 rw [hE0] at h
 have hL0 : Pq 2 1200 L0 := hE0 ▸ Zzr ha hb hc
 obtain ⟨L1, hE1⟩ : ∃ G, Zjf (Zhb pa pb pc) (Zha pa pb pc) (Zg9 pa pb pc) (Qw 1 1) = G := ⟨_, rfl⟩
 rw [hE1] at h
 have hL1 : Pq 2 1200 L1 := hE1 ▸ Zzq ha hb hc
 obtain ⟨L2, hE2⟩ : ∃ G, Zjf (Zhb pa pb pc) (Zha pa pb pc) (Zg9 pa pb pc) (Qw 1 2) = G := ⟨_, rfl⟩
 rw [hE2] at h
 have hL2 : Pq 2 1200 L2 := hE2 ▸ Zzp ha hb hc
 obtain ⟨B18, O18, rfl⟩ := h.row_addr (ad := ad18) (M := List.map Vv [(⟨a0, L0.length, c0⟩ : Vs), (⟨a1, L1.length, c1⟩ : Vs), (⟨a2, L2.length, c2⟩ : Vs)]) mm (by intro e; have := congrArg List.length e; rw [List.length_map] at this; exact absurd this ss)
 refine gL h (zm rfl (zp (.eX rfl) (zp (.eX rfl) (za rfl (za rfl (zn (zs (zb (zS (zm rfl (zp (Pure1.cast (v' := .bool false) (.neq rfl rfl) cgd) (za rfl (zn ?_))))))))))))); clear h; intro a w h
 refine cW ?_
 refine Zf h rfl ?_
 refine gC h (zS (zm rfl ?_)); clear h; intro a w h
 refine Zc (Yl h (vs := [_]) rfl call87 (Zn2 f _ _ hf hdeg) (by exact hsA) dd ?_); clear h; intro a w h
 refine gL h (zp (Pure1.cast (v' := .bool false) (.gtr rfl rfl) cgd) (za rfl (zn ?_))); clear h; intro a w h
 refine cW ?_
 refine Zf h rfl ?_
 refine gC h (zk (zS (za rfl (zn (zs (zS (zm rfl (zp (.builtin [_] rfl (Zb7 _ _ _)) (zm rfl (zn (zb ?_))))))))))); clear h; intro a w h
 refine wp_loop_rounds 4 ?_
 refine Ze ?_
 refine gC h (zS (zp (Pure1.cast (v' := .bool true) (.lss rfl rfl) cgd) (zn (zs ?_)))); clear h; intro a w h
 refine Zi h rfl ?_
 refine gC h (zk (zs (zb (zS (zp (.indexAddr rfl rfl (Zvt _ _ _ _ _ (by exact ixd))) (zD rfl mm (by rw [List.length_map]; exact ixd) isAgg65 sizeOf65 (Zy (enc := Vv) (l := ([(⟨a0, L0.length, c0⟩ : Vs), (⟨a1, L1.length, c1⟩ : Vs), (⟨a2, L2.length, c2⟩ : Vs)])) vs0 (by exact ixd)) (.inr rfl) ?_))))))
 refine za rfl (zn (zS (zm rfl (zm rfl ?_)))); intro a w h
 refine Zc (Jd h (vs := [_, _]) rfl call45 (Zat f L0 _ _ _ _ 0 2 4 1200 hf hL0 dd dd dd) (by exact hsA) dd ?_); clear h; rintro v38 Ψ38 a w ⟨ad38_0, c38_0, rfl, rfl⟩ h
 refine gL h (zm rfl (zp (.eX rfl) (zp (.eX rfl) (za rfl (za rfl (zn (yD Za [0, 1, 2, 3, 5, 6, 8, 9, 4, 7, 10, 11, 12, 13, 14] (Zd kk) (ym rfl rfl (ym rfl rfl (yp rfl (.indexAddr rfl rfl (Xu _ _)) (yd rfl rfl mr isAgg43 sizeOf43 Jy ?_))))))))))); clear h
 refine yp rfl (.indexAddr rfl rfl (Xh _ _)) (yd rfl rfl mr isAgg43 sizeOf43 Jn ?_)
 refine yp rfl (.indexAddr rfl rfl (Xg _ _)) (yd rfl rfl mr isAgg43 sizeOf43 Jm ?_)
 refine yv [_] rfl rfl call88 (Zcy pa) (yv [_] rfl rfl call88 (Zcy pb) (yv [_] rfl rfl call88 (Zcy pc) ?_))
 refine Za9 rfl kk (vs := [_, _, _, _]) rfl call70 (Qdf (norm (Jh f L0)) _ _ 2 1204 4 (hf.mul hL0 dd) dd pa pb pc ha hb hc dd dd) (by exact hsA) dd ?_
 refine yB rfl [(_, _)] rfl (Zd7 _ _ _ _ _) fun b53 => ?_
 refine Gf (σr := [(b4, bV (Jb pa pb pc) 44)]) rfl kk rfl rfl (List.Perm.refl _) (GrowO.nil _ _) runUnderlying50 runUnderlying50 typeInfo41 sizeOf41 Ju rfl dd dd rfl rfl dd (by show 56 * (2 * ((([] : List Rat)).length + 1) + 192) ≤ 281474976710656; first | omega | (simp only [List.length_append, List.length_cons, List.length_nil]; omega)) dd ?_
 intro v54_0 o54_0 hG54_0
 obtain ⟨ad54_0, c54_0, rfl⟩ := hG54_0.is
 have hLn54_0 : (0 : Nat) + 1 = (([] : List Rat) ++ [Zaw (norm (Jh f L0)) pa pb pc]).length := lA
 rw [hLn54_0]; rw [hLn54_0] at hG54_0
 replace hG54_0 : GrowO 5 41 (.slice ad54_0 (([] : List Rat) ++ [Zaw (norm (Jh f L0)) pa pb pc]).length c54_0) (([] : List Rat) ++ [Zaw (norm (Jh f L0)) pa pb pc]).length (cellsOf Zr (([] : List Rat) ++ [Zaw (norm (Jh f L0)) pa pb pc])) o54_0 := by rw [Qj, Xq]; exact hG54_0
 refine yp rfl (.assign rfl) (yn (zr (zp (Pure1.cast (v' := .int .i64 1) (.add rfl rfl) cgd) (zm rfl (zn ?_))))); intro a w h
 replace h : St 58 S w0 [(2, _), (4, _), (6, .slice none 0 0), (7, .int .i64 0), (10, _), (29, _), (30, _), (31, .int .i64 1), (32, .bool true)] _ [Row (some ⟨B18, O18, none⟩) (List.map Vv [(⟨a0, L0.length, c0⟩ : Vs), (⟨a1, L1.length, c1⟩ : Vs), (⟨a2, L2.length, c2⟩ : Vs)]), Row a0 (cellsOf Qh L0), Row a1 (cellsOf Qh L1), Row a2 (cellsOf Qh L2), Row none (cellsOf Qh []), SideF, Row ad (cellsOf Qh f)] a w := (h.factsSub (by exact hsA)).sub sA
 refine Ze ?_
 refine gC h (zS (zp (Pure1.cast (v' := .bool true) (.lss rfl rfl) cgd) (zn (zs ?_)))); clear h; intro a w h
 refine Zi h rfl ?_
 refine gC h (zk (zs (zb (zS (zp (.indexAddr rfl rfl (Zvt _ _ _ _ _ (by exact ixd))) (zD rfl mm (by rw [List.length_map]; exact ixd) isAgg65 sizeOf65 (Zy (enc := Vv) (l := ([(⟨a0, L0.length, c0⟩ : Vs), (⟨a1, L1.length, c1⟩ : Vs), (⟨a2, L2.length, c2⟩ : Vs)])) vs0 (by exact ixd)) (.inr rfl) ?_))))))
 refine za rfl (zn (zS (zm rfl (zm rfl ?_)))); intro a w h
 refine Zc (Jd h (vs := [_, _]) rfl call45 (Zat f L1 _ _ _ _ 0 2 4 1200 hf hL1 dd dd dd) (by exact hsA) dd ?_); clear h; rintro v38 Ψ38 a w ⟨ad38_1, c38_1, rfl, rfl⟩ h
 refine gL h (zm rfl (zp (.eX rfl) (zp (.eX rfl) (za rfl (za rfl (zn (yD Za [0, 1, 2, 3, 5, 6, 8, 9, 4, 7, 10, 11, 12, 13, 14] (Zd kk) (ym rfl rfl (ym rfl rfl (yp rfl (.indexAddr rfl rfl (Xu _ _)) (yd rfl rfl mr isAgg43 sizeOf43 Jy ?_))))))))))); clear h
 refine yp rfl (.indexAddr rfl rfl (Xh _ _)) (yd rfl rfl mr isAgg43 sizeOf43 Jn ?_)
 refine yp rfl (.indexAddr rfl rfl (Xg _ _)) (yd rfl rfl mr isAgg43 sizeOf43 Jm ?_)
 refine yv [_] rfl rfl call88 (Zcy pa) (yv [_] rfl rfl call88 (Zcy pb) (yv [_] rfl rfl call88 (Zcy pc) ?_))
 refine Za9 rfl kk (vs := [_, _, _, _]) rfl call70 (Qdf (norm (Jh f L1)) _ _ 2 1204 4 (hf.mul hL1 dd) dd pa pb pc ha hb hc dd dd) (by exact hsA) dd ?_
 refine yB rfl [(_, _)] rfl (Zd7 _ _ _ _ _) fun b53 => ?_
 refine Gf (σr := [(b4, bV (Jb pa pb pc) 44)]) rfl kk rfl rfl (List.Perm.trans (List.Perm.refl _) (List.Perm.cons _ (List.Perm.refl _))) hG54_0 runUnderlying50 runUnderlying50 typeInfo41 sizeOf41 Ju rfl dd dd rfl rfl dd (by show 56 * (2 * ((([] : List Rat) ++ [Zaw (norm (Jh f L0)) pa pb pc]).length + 1) + 192) ≤ 281474976710656; first | omega | (simp only [List.length_append, List.length_cons, List.length_nil]; omega)) dd ?_
 intro v54_1 o54_1 hG54_1
 obtain ⟨ad54_1, c54_1, rfl⟩ := hG54_1.is
 have hLn54_1 : (([] : List Rat) ++ [Zaw (norm (Jh f L0)) pa pb pc]).length + 1 = ((([] : List Rat) ++ [Zaw (norm (Jh f L0)) pa pb pc]) ++ [Zaw (norm (Jh f L1)) pa pb pc]).length := lA
 rw [hLn54_1]; rw [hLn54_1] at hG54_1
 replace hG54_1 : GrowO 5 41 (.slice ad54_1 ((([] : List Rat) ++ [Zaw (norm (Jh f L0)) pa pb pc]) ++ [Zaw (norm (Jh f L1)) pa pb pc]).length c54_1) ((([] : List Rat) ++ [Zaw (norm (Jh f L0)) pa pb pc]) ++ [Zaw (norm (Jh f L1)) pa pb pc]).length (cellsOf Zr ((([] : List Rat) ++ [Zaw (norm (Jh f L0)) pa pb pc]) ++ [Zaw (norm (Jh f L1)) pa pb pc])) o54_1 := by rw [Qj, Xq]; exact hG54_1
 refine yp rfl (.assign rfl) (yn (zr (zp (Pure1.cast (v' := .int .i64 2) (.add rfl rfl) cgd) (zm rfl (zn ?_))))); intro a w h
 replace h : St 58 S w0 [(2, _), (4, _), (6, .slice none 0 0), (7, .int .i64 0), (10, _), (29, _), (30, _), (31, .int .i64 2), (32, .bool true)] _ [Row (some ⟨B18, O18, none⟩) (List.map Vv [(⟨a0, L0.length, c0⟩ : Vs), (⟨a1, L1.length, c1⟩ : Vs), (⟨a2, L2.length, c2⟩ : Vs)]), Row a0 (cellsOf Qh L0), Row a1 (cellsOf Qh L1), Row a2 (cellsOf Qh L2), Row none (cellsOf Qh []), SideF, Row ad (cellsOf Qh f)] a w := (h.factsSub (by exact hsA)).sub sA
 refine Ze ?_
 refine gC h (zS (zp (Pure1.cast (v' := .bool true) (.lss rfl rfl) cgd) (zn (zs ?_)))); clear h; intro a w h
 refine Zi h rfl ?_
 refine gC h (zk (zs (zb (zS (zp (.indexAddr rfl rfl (Zvt _ _ _ _ _ (by exact ixd))) (zD rfl mm (by rw [List.length_map]; exact ixd) isAgg65 sizeOf65 (Zy (enc := Vv) (l := ([(⟨a0, L0.length, c0⟩ : Vs), (⟨a1, L1.length, c1⟩ : Vs), (⟨a2, L2.length, c2⟩ : Vs)])) vs0 (by exact ixd)) (.inr rfl) ?_))))))
 refine za rfl (zn (zS (zm rfl (zm rfl ?_)))); intro a w h
 refine Zc (Jd h (vs := [_, _]) rfl call45 (Zat f L2 _ _ _ _ 0 2 4 1200 hf hL2 dd dd dd) (by exact hsA) dd ?_); clear h; rintro v38 Ψ38 a w ⟨ad38_2, c38_2, rfl, rfl⟩ h
 refine gL h (zm rfl (zp (.eX rfl) (zp (.eX rfl) (za rfl (za rfl (zn (yD Za [0, 1, 2, 3, 5, 6, 8, 9, 4, 7, 10, 11, 12, 13, 14] (Zd kk) (ym rfl rfl (ym rfl rfl (yp rfl (.indexAddr rfl rfl (Xu _ _)) (yd rfl rfl mr isAgg43 sizeOf43 Jy ?_))))))))))); clear h
 refine yp rfl (.indexAddr rfl rfl (Xh _ _)) (yd rfl rfl mr isAgg43 sizeOf43 Jn ?_)
 refine yp rfl (.indexAddr rfl rfl (Xg _ _)) (yd rfl rfl mr isAgg43 sizeOf43 Jm ?_)
 refine yv [_] rfl rfl call88 (Zcy pa) (yv [_] rfl rfl call88 (Zcy pb) (yv [_] rfl rfl call88 (Zcy pc) ?_))
 refine Za9 rfl kk (vs := [_, _, _, _]) rfl call70 (Qdf (norm (Jh f L2)) _ _ 2 1204 4 (hf.mul hL2 dd) dd pa pb pc ha hb hc dd dd) (by exact hsA) dd ?_
 refine yB rfl [(_, _)] rfl (Zd7 _ _ _ _ _) fun b53 => ?_
 refine Gf (σr := [(b4, bV (Jb pa pb pc) 44)]) rfl kk rfl rfl (List.Perm.trans (List.Perm.refl _) (List.Perm.cons _ (List.Perm.refl _))) hG54_1 runUnderlying50 runUnderlying50 typeInfo41 sizeOf41 Ju rfl dd dd rfl rfl dd (by show 56 * (2 * (((([] : List Rat) ++ [Zaw (norm (Jh f L0)) pa pb pc]) ++ [Zaw (norm (Jh f L1)) pa pb pc]).length + 1) + 192) ≤ 281474976710656; first | omega | (simp only [List.length_append, List.length_cons, List.length_nil]; omega)) dd ?_
 intro v54_2 o54_2 hG54_2
 obtain ⟨ad54_2, c54_2, rfl⟩ := hG54_2.is
 have hLn54_2 : ((([] : List Rat) ++ [Zaw (norm (Jh f L0)) pa pb pc]) ++ [Zaw (norm (Jh f L1)) pa pb pc]).length + 1 = (((([] : List Rat) ++ [Zaw (norm (Jh f L0)) pa pb pc]) ++ [Zaw (norm (Jh f L1)) pa pb pc]) ++ [Zaw (norm (Jh f L2)) pa pb pc]).length := lA
 rw [hLn54_2]; rw [hLn54_2] at hG54_2
 replace hG54_2 : GrowO 5 41 (.slice ad54_2 (((([] : List Rat) ++ [Zaw (norm (Jh f L0)) pa pb pc]) ++ [Zaw (norm (Jh f L1)) pa pb pc]) ++ [Zaw (norm (Jh f L2)) pa pb pc]).length c54_2) (((([] : List Rat) ++ [Zaw (norm (Jh f L0)) pa pb pc]) ++ [Zaw (norm (Jh f L1)) pa pb pc]) ++ [Zaw (norm (Jh f L2)) pa pb pc]).length (cellsOf Zr (((([] : List Rat) ++ [Zaw (norm (Jh f L0)) pa pb pc]) ++ [Zaw (norm (Jh f L1)) pa pb pc]) ++ [Zaw (norm (Jh f L2)) pa pb pc])) o54_2 := by rw [Qj, Xq]; exact hG54_2
 refine yp rfl (.assign rfl) (yn (zr (zp (Pure1.cast (v' := .int .i64 3) (.add rfl rfl) cgd) (zm rfl (zn ?_))))); intro a w h
 replace h : St 58 S w0 [(2, _), (4, _), (6, .slice none 0 0), (7, .int .i64 0), (10, _), (29, _), (30, _), (31, .int .i64 3), (32, .bool true)] _ [Row (some ⟨B18, O18, none⟩) (List.map Vv [(⟨a0, L0.length, c0⟩ : Vs), (⟨a1, L1.length, c1⟩ : Vs), (⟨a2, L2.length, c2⟩ : Vs)]), Row a0 (cellsOf Qh L0), Row a1 (cellsOf Qh L1), Row a2 (cellsOf Qh L2), Row none (cellsOf Qh []), SideF, Row ad (cellsOf Qh f)] a w := (h.factsSub (by exact hsA)).sub sA
 refine Ze ?_
 refine gC h (zS (zp (Pure1.cast (v' := .bool false) (.lss rfl rfl) cgd) (zn (zs ?_)))); clear h; intro a w h
 refine Zf h rfl ?_
 refine gC h (ze (zS (zm rfl ?_))); clear h; intro a w h
 replace h := h.shareO' hS hG54_2
 refine gL h (zv [_] rfl call89 (Zxj ad54_2 3 c54_2 (Zln hG54_2) dd) (za rfl (za rfl (zn (zt ?_))))); clear h; intro a w h
 refine Xr (Ψ := [Row ad54_2 (cellsOf Zr [Zaw (norm (Jh f L0)) pa pb pc, Zaw (norm (Jh f L1)) pa pb pc, Zaw (norm (Jh f L2)) pa pb pc])]) h (Qq h rfl (.tmp rfl) (.tmp rfl)) ?_ ss
 exact ⟨ad54_2, _, rfl, by subst hE0 hE1 hE2; rfl⟩
end
section
theorem Zpe (x0 : Option Addr) (x0n : Nat) (x0c : Nat) (x1 : Option Addr) (x1n : Nat) (x1c : Nat) (w : World) : (Instr.buildSlice 52 2 [(0, .slice x0 x0n x0c), (1, .slice x1 x1n x1c)].toArray).run Tryz.prog w = .ok (.slice (some ⟨w.heap.size, 0, none⟩) 2 2) (w.alloc (.cells #[.slice x0 x0n x0c, .slice x1 x1n x1c] 65 (0, 0))) := by
 simp [go_sem]
theorem Zli (b off : Nat) (w : World) : (Instr.indexAt 92 (.pointer (some ⟨b, off, none⟩)) (.int .i64 0)).run Tryz.prog w = .ok (.pointer (some ⟨b, off + 0, none⟩)) w := by
 simp [go_sem, Instr.indexAt]
theorem Zlh (b off : Nat) (w : World) : (Instr.indexAt 92 (.pointer (some ⟨b, off, none⟩)) (.int .i64 1)).run Tryz.prog w = .ok (.pointer (some ⟨b, off + 1, none⟩)) w := by
 simp [go_sem, Instr.indexAt]
theorem Pq.subM {da db Ka Kb : Nat} {a b : List Tm} (ha : Pq da Ka a) (hb : Pq db Kb b) (h1 : da ≤ 12) (h2 : db ≤ 12) : Pq (max da db) (Ka + Kb + 5) (norm (a ++ Ja ((-1 : Int) : Rat) b)) :=
 Pq.of_norm (Zjh (ha.deg.mono (Nat.le_max_left _ _)) (Znp _ (hb.deg.mono (Nat.le_max_right _ _)))) ((ha.hgt.append (hb.hgt.scale (k := 2) (Zs (-1) dd dd))).mono oo) oo
def Zbv (t : List Tm) : List Tm := norm (norm [(⟨0, 0, ((1 : Int) : Rat)⟩ : Tm)] ++ Ja ((-1 : Int) : Rat) t)
theorem Zk7 {t : List Tm} (ht : Pq 1 316 t) : Pq 1 325 (Zbv t) := (Pq.subM (Zte _ (Zs 1 dd dd)) ht dd dd).mono dd dd
theorem Zz4 (t : List Tm) (ad : Option Addr) (c : Nat) (ht : Pq 1 316 t) : Ctr Tryz.prog 94 [.int .i64 1, .slice ad t.length c] [Row ad (cellsOf Qh t)] (fun v Ψ => ∃ ad' a0 c0, v = .slice ad' 2 2 ∧ Ψ = [Row ad' (List.map Vv [(⟨a0, (Zbv t).length, c0⟩ : Vs), (⟨ad, t.length, c⟩ : Vs)]), Row a0 (cellsOf Qh (Zbv t))]) := by
 refine fn_intro func94 rfl ntmps94 nb ?_
 intro S w0 a hS h
 refine gC h (zS (za rfl (zn (zS (zv [_] rfl call21 (Ye _ oo oo) ?_))))); clear h; intro a w h
 have hl14 := Zs (1) oo oo
 refine Zc (Jd h (vs := [_]) rfl call35 (Zce (((1 : Int) : Rat)) 2 (Zs _ dd dd) dd) (by exact hsA) dd ?_); clear h; rintro v15 Ψ15 a w ⟨ad15, c15, rfl, rfl⟩ h
 refine gL h (za rfl (zn (zS (zm rfl (zm rfl ?_))))); clear h; intro a w h
 refine Zc (Jd h (vs := [_, _]) rfl call143 (Qdb (norm [(⟨0, 0, ((1 : Int) : Rat)⟩ : Tm)]) t _ _ _ _ 0 1 4 316 (Zte (((1 : Int) : Rat)) (Zs _ dd dd)) ht dd dd dd dd) (by exact hsA) dd ?_); clear h; rintro v18 Ψ18 a w ⟨ad18, c18, rfl, rfl⟩ h
 refine gL h (za rfl (zn (zs (zS (zm rfl (zp (Pure1.cast (v' := .bool true) (.eql rfl rfl) cgd) (zn ?_))))))); clear h; intro a w h
 refine cW ?_
 refine Zi h rfl ?_
 refine gC h (zS (zm rfl (zm rfl (zB [(_, _), (_, _)] rfl (Zpe _ _ _ _ _ _) fun b23 => ?_)))); clear h; intro a w h
 replace h := h.shareAll hS (List.map Vv ([(⟨ad18, (norm (norm [(⟨0, 0, ((1 : Int) : Rat)⟩ : Tm)] ++ Ja ((-1 : Int) : Rat) t)).length, c18⟩ : Vs), (⟨ad, t.length, c⟩ : Vs)])) rfl
 refine gL h (za rfl (zn (zt ?_))); clear h; intro a w h
 refine Xr (Ψ := [Row (some ⟨b23, 0, none⟩) (List.map Vv [(⟨ad18, (norm (norm [(⟨0, 0, ((1 : Int) : Rat)⟩ : Tm)] ++ Ja ((-1 : Int) : Rat) t)).length, c18⟩ : Vs), (⟨ad, t.length, c⟩ : Vs)]), Row ad18 (cellsOf Qh (norm (norm [(⟨0, 0, ((1 : Int) : Rat)⟩ : Tm)] ++ Ja ((-1 : Int) : Rat) t)))]) h (Zk h rfl (.tmp rfl)) ?_ ss
 exact ⟨_, ad18, c18, rfl, rfl⟩
set_option maxHeartbeats 1000000 in
theorem Qdj (pa pb : Pt) (ha : PtK 4 pa) (hb : PtK 4 pb) (hne : pa ≠ pb) (hsq : (Gg (Jk pb pa) (Jk pb pa)) ≠ 0) (f : List Tm) (ad : Option Addr) (c : Nat) (hf : Pq 0 4 f) (hdeg : Zs1 (norm f) = 0) : Ctr Tryz.prog 36 [.int .i64 1, encPt pa, encPt pb, .agg #[.slice ad f.length c, .slice none 0 0]] [Row ad (cellsOf Qh f)] (fun v Ψ => ∃ ad' c', v = .tuple #[.slice ad' 2 c', .int .i64 0] ∧ Ψ = [Row ad' (cellsOf Zr [Zaq (norm (Jh f (Zbv (Gu (-(Gg pa (Jk pb pa) * (((1 : Int) : Rat) / (Gg (Jk pb pa) (Jk pb pa))))) (Zg5 (Jk pb pa) (((1 : Int) : Rat) / (Gg (Jk pb pa) (Jk pb pa)))))))) (norm (Jh ([] : List Tm) (Zbv (Gu (-(Gg pa (Jk pb pa) * (((1 : Int) : Rat) / (Gg (Jk pb pa) (Jk pb pa))))) (Zg5 (Jk pb pa) (((1 : Int) : Rat) / (Gg (Jk pb pa) (Jk pb pa)))))))) pa pb, Zaq (norm (Jh f (Gu (-(Gg pa (Jk pb pa) * (((1 : Int) : Rat) / (Gg (Jk pb pa) (Jk pb pa))))) (Zg5 (Jk pb pa) (((1 : Int) : Rat) / (Gg (Jk pb pa) (Jk pb pa))))))) (norm (Jh ([] : List Tm) (Gu (-(Gg pa (Jk pb pa) * (((1 : Int) : Rat) / (Gg (Jk pb pa) (Jk pb pa))))) (Zg5 (Jk pb pa) (((1 : Int) : Rat) / (Gg (Jk pb pa) (Jk pb pa))))))) pa pb])]) := by
 obtain ⟨ha1, ha2⟩ := id ha
 obtain ⟨hb1, hb2⟩ := id hb
 refine fn_intro func36 rfl ntmps36 nb ?_
 intro S w0 a hS h
 replace h := h.derive (R := Row none (cellsOf Qh [])) (fun X _ hne => absurd rfl hne)
 refine gC h (zS (zx rfl fun b5 => zx rfl fun b6 => zx rfl fun b7 => za rfl (za rfl (zn (zc (zS (za rfl (zn (zs (zl (zs (zb ?_)))))))))))); clear h; intro a w h
 refine wp_loop_rounds 2 ?_
 refine Ze ?_
 refine gC h (zb (zs (zS (zm rfl (zv [_] rfl call43 (Zl7) (zp (Pure1.cast (v' := .bool false) (.eql rfl rfl) cgd) (zm rfl ?_))))))); clear h; intro a w h
 refine Zt 23 h rfl rfl (Qd h rfl mr isAgg43 sizeOf43 Zj dd ?_); clear h; intro a h
 refine Zt 23 h rfl rfl (Qd h rfl mr isAgg43 sizeOf43 Zj dd ?_); clear h; intro a h
 refine gL h (zq 23 rfl rfl (.binOp rfl rfl (fun _ => Zuh _ _ pa pb hne _)) (zp (.pickF rfl rfl) (zn ?_))); clear h; intro a w h
 refine cW ?_
 refine Zf h rfl ?_
 refine gC h (zk (zs (zS (za rfl (zn (zS (zp (.indexAddr rfl rfl (Zli _ _)) (zd rfl mr isAgg65 sizeOf65 Vp ?_)))))))); clear h; intro a w h
 refine Zc (Yl h (vs := [_]) rfl call87 (Zn2 f _ _ hf hdeg) (by exact hsA) dd ?_); clear h; intro a w h
 refine gL h (zp (Pure1.cast (v' := .bool false) (.gtr rfl rfl) cgd) (zm rfl (zq 32 rfl rfl (.indexAddr rfl rfl (Zlh _ _)) ?_))); clear h; intro a w h
 refine Zt 32 h rfl rfl (Qd h rfl mr isAgg65 sizeOf65 Kq dd ?_); clear h; intro a h
 refine Zt 32 h rfl rfl (Yl h (vs := [_]) rfl call87 (Qag) (by exact hsA) dd ?_); clear h; intro a w h
 refine gL h (zq 32 rfl rfl (Pure1.cast (v' := .bool false) (.gtr rfl rfl) cgd) (zp (.pickF rfl rfl) (zn ?_))); clear h; intro a w h
 refine cW ?_
 refine Zf h rfl ?_
 refine gC h (zk (zS (zd rfl mr isAgg43 sizeOf43 Zj ?_)))
 refine zd rfl mr isAgg43 sizeOf43 Zj ?_
 refine zv [_, _] rfl call86 (Zde pb pa oo oo oo oo) ?_
 have hl40 := Yj pb pa
 have hl40 := Yi pb pa
 refine zz Yc fun b10 => zt' rfl rfl Qg uu sizeOf43 rfl nb rfl ?_
 refine zn (zs (yD Za [1, 2, 0, 3, 4, 5, 6, 7, 8, 9, 10] (Qs ⟨.inl rfl, .inl rfl, .inl rfl, .inl rfl, .inl rfl, .inl rfl, .inl rfl, .inl rfl, .inr ⟨11, 41, _, _, _, rfl, rfl, by decide, _, Ju⟩, .inl rfl, .inl rfl, trivial⟩) (yd rfl rfl mr isAgg43 sizeOf43 Zj ?_)))
 refine yd rfl rfl mr isAgg43 sizeOf43 Zj ?_
 refine yv [_] rfl rfl call21 (Ye _ oo oo) ?_
 have hl42 := Zs (1) oo oo
 refine yv [_, _] rfl rfl call92 (Zs6 pa pb oo oo oo oo) ?_
 have hl45 := Yr (Jk pb pa) (Jk pb pa)
 refine yv [_, _] rfl rfl call91 (Zdi _ (Gg (Jk pb pa) (Jk pb pa)) hsq oo oo) ?_
 have hl46 := Ym ((1 : Int) : Rat) (Gg (Jk pb pa) (Jk pb pa))
 refine ym rfl rfl (yp rfl (.eX rfl) (yp rfl (.eX rfl) (yz rfl Ju fun b11 => yt rfl rfl rfl Zp uu sizeOf41 rfl nb rfl ?_)))
 refine yp rfl (.assign rfl) (yn (zs (yD Za [0, 1, 3, 6, 7, 2, 4, 5, 8, 9, 10] (Zd kk) (yd rfl rfl mr isAgg43 sizeOf43 Zj ?_))))
 refine yd rfl rfl mr isAgg43 sizeOf43 Zj ?_
 refine yd rfl rfl mr isAgg41 sizeOf41 Zh ?_
 refine yd rfl rfl mr isAgg43 sizeOf43 Zj ?_
 refine yd rfl rfl mr isAgg41 sizeOf41 Zh ?_
 refine yv [_, _] rfl rfl call50 (Zbt pa (Jk pb pa) oo oo oo oo) ?_
 have hl51 := Yr pa (Jk pb pa)
 refine yv [_, _] rfl rfl call18 (Jc _ _ oo oo) ?_
 have hl53 := Zm (Gg pa (Jk pb pa)) (((1 : Int) : Rat) / (Gg (Jk pb pa) (Jk pb pa)))
 refine yv [_] rfl rfl call93 (Zn1 _) ?_
 have hl54 := Zb9 ((Gg pa (Jk pb pa)) * (((1 : Int) : Rat) / (Gg (Jk pb pa) (Jk pb pa))))
 refine yv [_, _] rfl rfl call25 (Zbs (Jk pb pa) (((1 : Int) : Rat) / (Gg (Jk pb pa) (Jk pb pa))) oo oo oo) ?_
 have hl57 := Ge (Jk pb pa) (((1 : Int) : Rat) / (Gg (Jk pb pa) (Jk pb pa)))
 have hl57 := Gd (Jk pb pa) (((1 : Int) : Rat) / (Gg (Jk pb pa) (Jk pb pa)))
 have hlq : Zu (-(Gg pa (Jk pb pa) * (((1 : Int) : Rat) / (Gg (Jk pb pa) (Jk pb pa))))) ≤ 100 := by rw [Zb9]; omega
 have hlg : PtK 100 (Zg5 (Jk pb pa) (((1 : Int) : Rat) / (Gg (Jk pb pa) (Jk pb pa)))) := ⟨oo, oo⟩
 refine Xa rfl kk (vs := [_, _]) rfl call42 (Zre _ _ 100 hlq hlg dd) (by exact hsA) dd ?_; rintro v58 Ψ58 ⟨ad58, c58, rfl, rfl⟩
 refine yp rfl (.assign rfl) (yn (zs (zS ?_))); intro a w h
 obtain ⟨t0, ht⟩ : ∃ G, Gu (-(Gg pa (Jk pb pa) * (((1 : Int) : Rat) / (Gg (Jk pb pa) (Jk pb pa))))) (Zg5 (Jk pb pa) (((1 : Int) : Rat) / (Gg (Jk pb pa) (Jk pb pa)))) = G := ⟨_, rfl⟩
 rw [ht] at h
 have ht0 : Pq 1 316 t0 := ht ▸ Gt hlq hlg
 refine gL h (zm rfl (zm rfl ?_)); clear h; intro a w h
 refine Zc (Jd h (vs := [_, _]) rfl call94 (Zz4 t0 _ _ ht0) (by exact hsA) dd ?_); clear h; rintro v61 Ψ61 a w ⟨ad61, a0, c0, rfl, rfl⟩ h
 obtain ⟨B61, O61, rfl⟩ := h.row_addr (ad := ad61) (M := List.map Vv [(⟨a0, (Zbv t0).length, c0⟩ : Vs), (⟨ad58, t0.length, c58⟩ : Vs)]) mm (by intro e; have := congrArg List.length e; rw [List.length_map] at this; exact absurd this ss)
 refine gL h (zp (.builtin [_] rfl (Zb7 _ _ _)) (zm rfl (zn (zb ?_)))); clear h; intro a w h
 refine wp_loop_rounds 3 ?_
 refine Ze ?_
 refine gC h (zS (zp (Pure1.cast (v' := .bool true) (.lss rfl rfl) cgd) (zn (zs ?_)))); clear h; intro a w h
 refine Zi h rfl ?_
 refine gC h (zk (zs (zb (zS (zp (.indexAddr rfl rfl (Zvt _ _ _ _ _ (by exact ixd))) (zD rfl mm (by rw [List.length_map]; exact ixd) isAgg65 sizeOf65 (Zy (enc := Vv) (l := ([(⟨a0, (Zbv t0).length, c0⟩ : Vs), (⟨ad58, t0.length, c58⟩ : Vs)])) vs0 (by exact ixd)) (.inr rfl) ?_))))))
 refine za rfl (zn (zS (zp (.indexAddr rfl rfl (Zli _ _)) (zd rfl mr isAgg65 sizeOf65 Vp ?_))))
 refine zm rfl ?_; intro a w h
 refine Zc (Jd h (vs := [_, _]) rfl call45 (Zat f (Zbv t0) _ _ _ _ 0 1 4 325 hf (Zk7 ht0) dd dd dd) (by exact hsA) dd ?_); clear h; rintro v71 Ψ71 a w ⟨ad71_0_0, c71_0_0, rfl, rfl⟩ h
 refine gL h (zm rfl (zp (.eX rfl) (zp (.eX rfl) (za rfl (za rfl (zn (zS (zp (.indexAddr rfl rfl (Zlh _ _)) (zd rfl mr isAgg65 sizeOf65 Kq ?_)))))))))
 refine zm rfl ?_; intro a w h
 refine Zc (Jd h (vs := [_, _]) rfl call45 (Zat ([] : List Tm) (Zbv t0) _ _ _ _ 0 1 1 325 (Pq.nil 0) (Zk7 ht0) dd dd dd) (by exact hsA) dd ?_); clear h; rintro v78 Ψ78 a w ⟨ad78_0_0, c78_0_0, rfl, rfl⟩ h
 refine gL h (zm rfl (zp (.eX rfl) (zp (.eX rfl) (za rfl (za rfl (zn (yD Za [0, 1, 2, 3, 5, 4, 6, 7, 8, 9, 10] (Zd kk) (ym rfl rfl (ym rfl rfl (ym rfl rfl (yd rfl rfl mr isAgg43 sizeOf43 Zj ?_))))))))))); clear h
 refine yd rfl rfl mr isAgg43 sizeOf43 Zj ?_
 refine yv [_] rfl rfl call88 (Zcy pa) (yv [_] rfl rfl call88 (Zcy pb) ?_)
 refine Za9 rfl kk (vs := [_, _, _, _]) rfl call95 (Qa8 (norm (Jh f (Zbv t0))) (norm (Jh ([] : List Tm) (Zbv t0))) _ _ _ _ 1 1 329 326 4 (hf.mul (Zk7 ht0) dd) ((Pq.nil 0).mul (Zk7 ht0) dd) dd dd pa pb ha hb dd dd dd dd) (by exact hsA) dd ?_
 refine yB rfl [(_, _)] rfl (Zd7 _ _ _ _ _) fun b89 => ?_
 refine Gf (σr := [(b11, bV (Zr (((1 : Int) : Rat) / (Gg (Jk pb pa) (Jk pb pa)))) 41), (b10, bV (Zbr ((Jk pb pa).1) ((Jk pb pa).2)) 43), (b7, bV (.agg #[.slice ad f.length c, .slice none 0 0]) 92), (b6, bV (Zbr pb.1 pb.2) 43), (b5, bV (Zbr pa.1 pa.2) 43)]) rfl kk rfl rfl (List.Perm.refl _) (GrowO.nil _ _) runUnderlying50 runUnderlying50 typeInfo41 sizeOf41 Ju rfl dd dd rfl rfl dd (by show 56 * (2 * ((([] : List Rat)).length + 1) + 192) ≤ 281474976710656; first | omega | (simp only [List.length_append, List.length_cons, List.length_nil]; omega)) dd ?_
 intro v90_0_0 o90_0_0 hG90_0_0
 obtain ⟨ad90_0_0, c90_0_0, rfl⟩ := hG90_0_0.is
 have hLn90_0_0 : (0 : Nat) + 1 = (([] : List Rat) ++ [Zaq (norm (Jh f (Zbv t0))) (norm (Jh ([] : List Tm) (Zbv t0))) pa pb]).length := lA
 rw [hLn90_0_0]; rw [hLn90_0_0] at hG90_0_0
 replace hG90_0_0 : GrowO 5 41 (.slice ad90_0_0 (([] : List Rat) ++ [Zaq (norm (Jh f (Zbv t0))) (norm (Jh ([] : List Tm) (Zbv t0))) pa pb]).length c90_0_0) (([] : List Rat) ++ [Zaq (norm (Jh f (Zbv t0))) (norm (Jh ([] : List Tm) (Zbv t0))) pa pb]).length (cellsOf Zr (([] : List Rat) ++ [Zaq (norm (Jh f (Zbv t0))) (norm (Jh ([] : List Tm) (Zbv t0))) pa pb])) o90_0_0 := by rw [Qj, Xq]; exact hG90_0_0
 refine yp rfl (.assign rfl) (yn (zr (zp (Pure1.cast (v' := .int .i64 1) (.add rfl rfl) cgd) (zm rfl (zn ?_))))); intro a w h
 replace h : St 95 S w0 [(0, .int .i64 1), (5, _), (6, _), (7, _), (8, _), (9, .int .i64 9), (27, .bool false), (37, .bool false), (61, _), (62, _), (63, .int .i64 1), (64, .bool true)] _ [Row (some ⟨B61, O61, none⟩) (List.map Vv [(⟨a0, (Zbv t0).length, c0⟩ : Vs), (⟨ad58, t0.length, c58⟩ : Vs)]), Row a0 (cellsOf Qh (Zbv t0)), Row ad58 (cellsOf Qh t0), Row none (cellsOf Qh []), Row ad (cellsOf Qh f)] a w := (h.factsSub (by exact hsA)).sub sA
 refine Ze ?_
 refine gC h (zS (zp (Pure1.cast (v' := .bool true) (.lss rfl rfl) cgd) (zn (zs ?_)))); clear h; intro a w h
 refine Zi h rfl ?_
 refine gC h (zk (zs (zb (zS (zp (.indexAddr rfl rfl (Zvt _ _ _ _ _ (by exact ixd))) (zD rfl mm (by rw [List.length_map]; exact ixd) isAgg65 sizeOf65 (Zy (enc := Vv) (l := ([(⟨a0, (Zbv t0).length, c0⟩ : Vs), (⟨ad58, t0.length, c58⟩ : Vs)])) vs0 (by exact ixd)) (.inr rfl) ?_))))))
 refine za rfl (zn (zS (zp (.indexAddr rfl rfl (Zli _ _)) (zd rfl mr isAgg65 sizeOf65 Vp ?_))))
 refine zm rfl ?_; intro a w h
 refine Zc (Jd h (vs := [_, _]) rfl call45 (Zat f t0 _ _ _ _ 0 1 4 316 hf ht0 dd dd dd) (by exact hsA) dd ?_); clear h; rintro v71 Ψ71 a w ⟨ad71_0_1, c71_0_1, rfl, rfl⟩ h
 refine gL h (zm rfl (zp (.eX rfl) (zp (.eX rfl) (za rfl (za rfl (zn (zS (zp (.indexAddr rfl rfl (Zlh _ _)) (zd rfl mr isAgg65 sizeOf65 Kq ?_)))))))))
 refine zm rfl ?_; intro a w h
 refine Zc (Jd h (vs := [_, _]) rfl call45 (Zat ([] : List Tm) t0 _ _ _ _ 0 1 1 316 (Pq.nil 0) ht0 dd dd dd) (by exact hsA) dd ?_); clear h; rintro v78 Ψ78 a w ⟨ad78_0_1, c78_0_1, rfl, rfl⟩ h
 refine gL h (zm rfl (zp (.eX rfl) (zp (.eX rfl) (za rfl (za rfl (zn (yD Za [0, 1, 2, 3, 5, 4, 6, 7, 8, 9, 10] (Zd kk) (ym rfl rfl (ym rfl rfl (ym rfl rfl (yd rfl rfl mr isAgg43 sizeOf43 Zj ?_))))))))))); clear h
 refine yd rfl rfl mr isAgg43 sizeOf43 Zj ?_
 refine yv [_] rfl rfl call88 (Zcy pa) (yv [_] rfl rfl call88 (Zcy pb) ?_)
 refine Za9 rfl kk (vs := [_, _, _, _]) rfl call95 (Qa8 (norm (Jh f t0)) (norm (Jh ([] : List Tm) t0)) _ _ _ _ 1 1 320 317 4 (hf.mul ht0 dd) ((Pq.nil 0).mul ht0 dd) dd dd pa pb ha hb dd dd dd dd) (by exact hsA) dd ?_
 refine yB rfl [(_, _)] rfl (Zd7 _ _ _ _ _) fun b89 => ?_
 refine Gf (σr := [(b11, bV (Zr (((1 : Int) : Rat) / (Gg (Jk pb pa) (Jk pb pa)))) 41), (b10, bV (Zbr ((Jk pb pa).1) ((Jk pb pa).2)) 43), (b7, bV (.agg #[.slice ad f.length c, .slice none 0 0]) 92), (b6, bV (Zbr pb.1 pb.2) 43), (b5, bV (Zbr pa.1 pa.2) 43)]) rfl kk rfl rfl (List.Perm.trans (List.Perm.refl _) (List.Perm.cons _ (List.Perm.refl _))) hG90_0_0 runUnderlying50 runUnderlying50 typeInfo41 sizeOf41 Ju rfl dd dd rfl rfl dd (by show 56 * (2 * ((([] : List Rat) ++ [Zaq (norm (Jh f (Zbv t0))) (norm (Jh ([] : List Tm) (Zbv t0))) pa pb]).length + 1) + 192) ≤ 281474976710656; first | omega | (simp only [List.length_append, List.length_cons, List.length_nil]; omega)) dd ?_
 intro v90_0_1 o90_0_1 hG90_0_1
 obtain ⟨ad90_0_1, c90_0_1, rfl⟩ := hG90_0_1.is
 have hLn90_0_1 : (([] : List Rat) ++ [Zaq (norm (Jh f (Zbv t0))) (norm (Jh ([] : List Tm) (Zbv t0))) pa pb]).length + 1 = ((([] : List Rat) ++ [Zaq (norm (Jh f (Zbv t0))) (norm (Jh ([] : List Tm) (Zbv t0))) pa pb]) ++ [Zaq (norm (Jh f t0)) (norm (Jh ([] : List Tm) t0)) pa pb]).length := lA
 rw [hLn90_0_1]; rw [hLn90_0_1] at hG90_0_1
 replace hG90_0_1 : GrowO 5 41 (.slice ad90_0_1 ((([] : List Rat) ++ [Zaq (norm (Jh f (Zbv t0))) (norm (Jh ([] : List Tm) (Zbv t0))) pa pb]) ++ [Zaq (norm (Jh f t0)) (norm (Jh ([] : List Tm) t0)) pa pb]).length c90_0_1) ((([] : List Rat) ++ [Zaq (norm (Jh f (Zbv t0))) (norm (Jh ([] : List Tm) (Zbv t0))) pa pb]) ++ [Zaq (norm (Jh f t0)) (norm (Jh ([] : List Tm) t0)) pa pb]).length (cellsOf Zr ((([] : List Rat) ++ [Zaq (norm (Jh f (Zbv t0))) (norm (Jh ([] : List Tm) (Zbv t0))) pa pb]) ++ [Zaq (norm (Jh f t0)) (norm (Jh ([] : List Tm) t0)) pa pb])) o90_0_1 := by rw [Qj, Xq]; exact hG90_0_1
 refine yp rfl (.assign rfl) (yn (zr (zp (Pure1.cast (v' := .int .i64 2) (.add rfl rfl) cgd) (zm rfl (zn ?_))))); intro a w h
 replace h : St 95 S w0 [(0, .int .i64 1), (5, _), (6, _), (7, _), (8, _), (9, .int .i64 9), (27, .bool false), (37, .bool false), (61, _), (62, _), (63, .int .i64 2), (64, .bool true)] _ [Row (some ⟨B61, O61, none⟩) (List.map Vv [(⟨a0, (Zbv t0).length, c0⟩ : Vs), (⟨ad58, t0.length, c58⟩ : Vs)]), Row a0 (cellsOf Qh (Zbv t0)), Row ad58 (cellsOf Qh t0), Row none (cellsOf Qh []), Row ad (cellsOf Qh f)] a w := (h.factsSub (by exact hsA)).sub sA
 refine Ze ?_
 refine gC h (zS (zp (Pure1.cast (v' := .bool false) (.lss rfl rfl) cgd) (zn (zs ?_)))); clear h; intro a w h
 refine Zf h rfl ?_
 refine gC h (ze (zS (zm rfl ?_))); clear h; intro a w h
 replace h := h.shareO' hS hG90_0_1
 refine gL h (zv [_] rfl call89 (Zxj ad90_0_1 2 c90_0_1 (Zln hG90_0_1) dd) (za rfl (za rfl (zn (zt ?_))))); clear h; intro a w h
 refine Xr (Ψ := [Row ad90_0_1 (cellsOf Zr [Zaq (norm (Jh f (Zbv t0))) (norm (Jh ([] : List Tm) (Zbv t0))) pa pb, Zaq (norm (Jh f t0)) (norm (Jh ([] : List Tm) t0)) pa pb])]) h (Qq h rfl (.tmp rfl) (.tmp rfl)) ?_ ss
 exact ⟨ad90_0_1, _, rfl, by subst ht; rfl⟩
end
section
abbrev r1 : Rat := 1
abbrev rn2 : Rat := -1/2
abbrev r2 : Rat := 1/2
abbrev r0 : Rat := 0
abbrev r12 : Rat := 1/12
abbrev r24 : Rat := 1/24
abbrev r6 : Rat := 1/6
abbrev vU0 : List Rat := [r1, rn2, rn2, rn2, r2, r0, rn2, r0, r2]
abbrev vU1 : List Rat := [r12, r24, r24, r24, r12, r24, r24, r24, r12]
abbrev vU2 : List Rat := [r6, r6, r6]
abbrev vU3 : List Rat := [r2, r2]
abbrev encs (s : ByteArray) : Value := .string s
theorem C_T0 : Xm Tryz.prog 38 [Zr r1] (.string ⟨#[49]⟩) := by
 have := Ze9 r1 kD kD
 rwa [show Zh1 r1 = ⟨#[49]⟩ from by decide +kernel] at this
theorem C_T1 : Xm Tryz.prog 38 [Zr rn2] (.string ⟨#[45, 49, 47, 50]⟩) := by
 have := Ze9 rn2 kD kD
 rwa [show Zh1 rn2 = ⟨#[45, 49, 47, 50]⟩ from by decide +kernel] at this
theorem C_T2 : Xm Tryz.prog 38 [Zr r2] (.string ⟨#[49, 47, 50]⟩) := by
 have := Ze9 r2 kD kD
 rwa [show Zh1 r2 = ⟨#[49, 47, 50]⟩ from by decide +kernel] at this
theorem C_T3 : Xm Tryz.prog 38 [Zr r0] (.string ⟨#[48]⟩) := by
 have := Ze9 r0 kD kD
 rwa [show Zh1 r0 = ⟨#[48]⟩ from by decide +kernel] at this
theorem C_T4 : Xm Tryz.prog 38 [Zr r12] (.string ⟨#[49, 47, 49, 50]⟩) := by
 have := Ze9 r12 kD kD
 rwa [show Zh1 r12 = ⟨#[49, 47, 49, 50]⟩ from by decide +kernel] at this
theorem Zti : Xm Tryz.prog 38 [Zr r24] (.string ⟨#[49, 47, 50, 52]⟩) := by
 have := Ze9 r24 kD kD
 rwa [show Zh1 r24 = ⟨#[49, 47, 50, 52]⟩ from by decide +kernel] at this
theorem C_T6 : Xm Tryz.prog 38 [Zr r6] (.string ⟨#[49, 47, 54]⟩) := by
 have := Ze9 r6 kD kD
 rwa [show Zh1 r6 = ⟨#[49, 47, 54]⟩ from by decide +kernel] at this
theorem Zz6 : Ctr Tryz.prog 10 [.int .i64 1, Ze3 (((1 : Int) : Rat), 0, ((1 : Int) : Rat)), Jb pU0 pU1 pU2] [SideF] (fun v Ψ => ∃ ad', v = .tuple #[.agg #[.int .i64 3, .int .i64 3, .slice ad' 9 9], .int .i64 0] ∧ Ψ = [Row ad' (cellsOf Zr vU0)]) := by
 have := Zpm 1 4 4 (((1 : Int) : Rat), 0, ((1 : Int) : Rat)) (Or.inl rfl) pU0 pU1 pU2 Qbu Zyi Zyh dd dd kD kD kD pU_T
 rw [show Za5 (fun n m => stE 1 (byL (((1 : Int) : Rat), 0, ((1 : Int) : Rat)) (Zw pU0 pU1 pU2) (Zb pU0 pU1 pU2)) n m) (Jj 1) (Jj 1) = vU0 from by decide +kernel] at this
 exact this
theorem Qds : Ctr Tryz.prog 12 [.int .i64 1, Jb pU0 pU1 pU2] [SideF] (fun v Ψ => ∃ ad', v = .tuple #[.agg #[.int .i64 3, .int .i64 3, .slice ad' 9 9], .int .i64 0] ∧ Ψ = [Row ad' (cellsOf Zr vU1)]) := by
 have := Zxd 1 4 (Or.inl rfl) pU0 pU1 pU2 Qbu Zyi Zyh dd pU_T
 rw [show Za5 (fun n m => Zch 1 n m * Zw pU0 pU1 pU2) (Jj 1) (Jj 1) = vU1 from by decide +kernel] at this
 exact this
def eU (i : Nat) : Rat := if i = 0 then 1 else 0
def Qby : List Tm := norm [(⟨0, 0, ((1 : Int) : Rat)⟩ : Tm)]
theorem Zo5 (x y : Rat) : evP Qby x y = 1 := by
 unfold Qby; rw [Zew, Zzd]; rfl
theorem Zla : ∀ n, n < 3 → Zaw (norm (Jh Qby (Zjf (Zhb pU0 pU1 pU2) (Zha pU0 pU1 pU2) (Zg9 pU0 pU1 pU2) (Qw 1 n)))) pU0 pU1 pU2 = 1/6 := by
 intro n hn
 have hT : twP pU0 pU1 pU2 ≠ 0 := Zrq pU_T
 have hv : ∀ n, n < 3 → twQ pU0 pU1 pU2 * bqF eU (coV 1 n) = 1/6 := by decide +kernel
 rw [Zxt (x := eU) (y := coV 1 n) (fun s t => ?_) (fun s t => ?_)]
 · exact hv n hn
 · rw [Zo5]; simp only [evQ, eU]; simp; grind
 ·
  obtain ⟨h0, h1, h2⟩ := Qcw hT s t
  exact Qcv (l0 := Zhb pU0 pU1 pU2) (l1 := Zha pU0 pU1 pU2) (l2 := Zg9 pU0 pU1 pU2) (s := s) (t := t) ((Zhr _ _ _ _).trans h0) ((Zhr _ _ _ _).trans h1) ((Zhr _ _ _ _).trans h2) (Or.inl rfl) hn
def qU : Rat := -(Gg pU1 (Jk pU2 pU1) * (((1 : Int) : Rat) / (Gg (Jk pU2 pU1) (Jk pU2 pU1))))
def gU : Pt := Zg5 (Jk pU2 pU1) (((1 : Int) : Rat) / (Gg (Jk pU2 pU1) (Jk pU2 pU1)))
theorem qU_val : qU = 1/2 ∧ gU.1 = -1/2 ∧ gU.2 = 1/2 := by decide +kernel
theorem pU_dif : pU2.1 - pU1.1 = -1 ∧ pU1.1 = 1 ∧ pU2.2 - pU1.2 = 1 ∧ pU1.2 = 0 := by decide +kernel
theorem ev_tU (x : Rat) : evP (Gu qU gU) ((pU2.1 - pU1.1) * x + pU1.1) ((pU2.2 - pU1.2) * x + pU1.2) = x := by
 obtain ⟨a, b, c⟩ := qU_val
 obtain ⟨d, e, f, g⟩ := pU_dif
 rw [Zhr, a, b, c, d, e, f, g]; grind
theorem seg_t : Zr5 (norm (Jh Qby (Gu qU gU))) pU1 pU2 = 1/2 := by
 rw [← Zoh _ [(⟨1, 0, 1⟩ : Tm)] pU1 pU2 (fun x y => by rw [Zew, Zdd, Zo5, ev_tU, Zi0, Rat.pow_succ, Rat.pow_zero]; grind)]
 decide +kernel
theorem Qcc (t : List Tm) (x y : Rat) : evP (Zbv t) x y = 1 - evP t x y := by
 unfold Zbv; rw [Zew, Zcs, Zew, Zzd, Zi1, show ((1 : Int) : Rat) = 1 from rfl, show ((-1 : Int) : Rat) = -1 from rfl]; grind
theorem seg_o : Zr5 (norm (Jh Qby (Zbv (Gu qU gU)))) pU1 pU2 = 1/2 := by
 rw [← Zoh _ [(⟨0, 0, 1⟩ : Tm), ⟨1, 0, -1⟩] pU1 pU2 (fun x y => by
  rw [Zew, Zdd, Zo5, Qcc, ev_tU, show [(⟨0, 0, 1⟩ : Tm), ⟨1, 0, -1⟩] = [(⟨0, 0, 1⟩ : Tm)] ++ [⟨1, 0, -1⟩] from rfl, Zcs, Zi0, Zi0, Rat.pow_succ, Rat.pow_zero]; grind)]
 decide +kernel
theorem seg_n (t : List Tm) : Zr5 (norm (Jh [] t)) pU1 pU2 = 0 := by
 rw [← Zoh _ [] pU1 pU2 (fun x y => by rw [Zew, Zdd, Zq1, Zq1]; grind)]; rfl
theorem flow_t : Zaq (norm (Jh Qby (Gu qU gU))) (norm (Jh [] (Gu qU gU))) pU1 pU2 = 1/2 := by
 rw [Zaq, seg_t, seg_n]; decide +kernel
theorem flow_o : Zaq (norm (Jh Qby (Zbv (Gu qU gU)))) (norm (Jh [] (Zbv (Gu qU gU)))) pU1 pU2 = 1/2 := by
 rw [Zaq, seg_o, seg_n]; decide +kernel
theorem Qdu (ad : Option Addr) (c : Nat) : Ctr Tryz.prog 34 [.int .i64 1, Jb pU0 pU1 pU2, .slice ad (norm [(⟨0, 0, ((1 : Int) : Rat)⟩ : Tm)]).length c] [SideF, Row ad (cellsOf Qh (norm [(⟨0, 0, ((1 : Int) : Rat)⟩ : Tm)]))] (fun v Ψ => ∃ ad' c', v = .tuple #[.slice ad' 3 c', .int .i64 0] ∧ Ψ = [Row ad' (cellsOf Zr vU2)]) := by
 have := Qdv pU0 pU1 pU2 Qbu Zyi Zyh pU_T (norm [(⟨0, 0, ((1 : Int) : Rat)⟩ : Tm)]) ad c (Zte _ (Zs 1 dd dd)) kD
 rw [show Zaw (norm (Jh (norm [(⟨0, 0, ((1 : Int) : Rat)⟩ : Tm)]) (Zjf (Zhb pU0 pU1 pU2) (Zha pU0 pU1 pU2) (Zg9 pU0 pU1 pU2) (Qw 1 0)))) pU0 pU1 pU2 = r6 from Zla 0 dd, show Zaw (norm (Jh (norm [(⟨0, 0, ((1 : Int) : Rat)⟩ : Tm)]) (Zjf (Zhb pU0 pU1 pU2) (Zha pU0 pU1 pU2) (Zg9 pU0 pU1 pU2) (Qw 1 1)))) pU0 pU1 pU2 = r6 from Zla 1 dd, show Zaw (norm (Jh (norm [(⟨0, 0, ((1 : Int) : Rat)⟩ : Tm)]) (Zjf (Zhb pU0 pU1 pU2) (Zha pU0 pU1 pU2) (Zg9 pU0 pU1 pU2) (Qw 1 2)))) pU0 pU1 pU2 = r6 from Zla 2 dd] at this
 exact this
theorem Qdi (ad : Option Addr) (c : Nat) : Ctr Tryz.prog 36 [.int .i64 1, encPt pU1, encPt pU2, .agg #[.slice ad (norm [(⟨0, 0, ((1 : Int) : Rat)⟩ : Tm)]).length c, .slice none 0 0]] [Row ad (cellsOf Qh (norm [(⟨0, 0, ((1 : Int) : Rat)⟩ : Tm)]))] (fun v Ψ => ∃ ad' c', v = .tuple #[.slice ad' 2 c', .int .i64 0] ∧ Ψ = [Row ad' (cellsOf Zr vU3)]) := by
 have := Qdj pU1 pU2 Zyi Zyh kD kD (norm [(⟨0, 0, ((1 : Int) : Rat)⟩ : Tm)]) ad c (Zte _ (Zs 1 dd dd)) kD
 rw [show Zaq (norm (Jh (norm [(⟨0, 0, ((1 : Int) : Rat)⟩ : Tm)]) (Zbv (Gu (-(Gg pU1 (Jk pU2 pU1) * (((1 : Int) : Rat) / (Gg (Jk pU2 pU1) (Jk pU2 pU1))))) (Zg5 (Jk pU2 pU1) (((1 : Int) : Rat) / (Gg (Jk pU2 pU1) (Jk pU2 pU1)))))))) (norm (Jh ([] : List Tm) (Zbv (Gu (-(Gg pU1 (Jk pU2 pU1) * (((1 : Int) : Rat) / (Gg (Jk pU2 pU1) (Jk pU2 pU1))))) (Zg5 (Jk pU2 pU1) (((1 : Int) : Rat) / (Gg (Jk pU2 pU1) (Jk pU2 pU1)))))))) pU1 pU2 = r2 from flow_o, show Zaq (norm (Jh (norm [(⟨0, 0, ((1 : Int) : Rat)⟩ : Tm)]) (Gu (-(Gg pU1 (Jk pU2 pU1) * (((1 : Int) : Rat) / (Gg (Jk pU2 pU1) (Jk pU2 pU1))))) (Zg5 (Jk pU2 pU1) (((1 : Int) : Rat) / (Gg (Jk pU2 pU1) (Jk pU2 pU1))))))) (norm (Jh ([] : List Tm) (Gu (-(Gg pU1 (Jk pU2 pU1) * (((1 : Int) : Rat) / (Gg (Jk pU2 pU1) (Jk pU2 pU1))))) (Zg5 (Jk pU2 pU1) (((1 : Int) : Rat) / (Gg (Jk pU2 pU1) (Jk pU2 pU1))))))) pU1 pU2 = r2 from flow_t] at this
 exact this
end
section
theorem Zwq (x0 : Option Addr) (x0n : Nat) (x0c : Nat) (x1 : Option Addr) (x1n : Nat) (x1c : Nat) (w : World) : (Instr.build 92 [(0, .slice x0 x0n x0c), (1, .slice x1 x1n x1c)].toArray).run Tryz.prog w = .ok (.agg #[.slice x0 x0n x0c, .slice x1 x1n x1c]) w := by simp [go_sem]
theorem Zcj (x0 : ByteArray) (x1 : ByteArray) (x2 : ByteArray) (x3 : ByteArray) (x4 : ByteArray) (x5 : ByteArray) (x6 : ByteArray) (x7 : ByteArray) (x8 : ByteArray) (w : World) : (Instr.buildSlice 93 9 [(0, .string x0), (1, .string x1), (2, .string x2), (3, .string x3), (4, .string x4), (5, .string x5), (6, .string x6), (7, .string x7), (8, .string x8)].toArray).run Tryz.prog w = .ok (.slice (some ⟨w.heap.size, 0, none⟩) 9 9) (w.alloc (.cells #[.string x0, .string x1, .string x2, .string x3, .string x4, .string x5, .string x6, .string x7, .string x8] 9 (0, 0))) := by
 simp [go_sem]
theorem Zlj (b off n c j : Nat) (h : j < n) (w : World) : (Instr.indexAt 93 (.slice (some ⟨b, off, none⟩) n c) (.int .i64 (j : Int))).run Tryz.prog w = .ok (.pointer (some ⟨b, off + j, none⟩)) w := by
 simpa using Xi runUnderlying93 sizeOf9 b off n c j h w
set_option maxHeartbeats 2000000 in
theorem Zl5 : Gh Tryz.prog 6 [] [SideF] (.bool true) := by
 refine fn_intro func6 rfl ntmps6 nb ?_
 intro S w0 a hS h
 refine gC h (zS (za rfl (zn (zS (zv [_] rfl call21 (Ye _ oo oo) ?_)))))
 have hl12 := Zs (1) oo oo
 refine zp (.build [] rfl (Zlv)) (zv [_] rfl call21 (Ye _ oo oo) ?_)
 have hl14 := Zs (1) oo oo
 refine zp (.build [(_, _), (_, _), (_, _)] rfl (Ze6 _ _ _ _ _ _ _ _ _ _ _ _ _ _ _)) (zv [] rfl call33 (Zpi) ?_); intro a w h
 refine Zc (Jd h (vs := [_, _, _]) rfl call10 (Zz6) (by exact hsA) dd ?_); clear h; rintro v17 Ψ17 a w ⟨ad17, rfl, rfl⟩ h
 obtain ⟨B17, O17, rfl⟩ := h.row_addr (ad := ad17) (M := cellsOf Zr vU0) mm (by intro e; have := congrArg List.length e; rw [cellsOf_length (k := 5) (fun _ => rfl)] at this; exact absurd this ss)
 refine gL h (zm rfl (zp (.eX rfl) (zp (.eX rfl) (zz zeroValue57 fun b1 => zt' rfl rfl Qt uu sizeOf57 rfl nb rfl ?_))))
 refine za rfl (zn (zS (zv [] rfl call33 (Zpi) ?_))); intro a w h
 refine Zc (Jd h (vs := [_, _]) rfl call12 (Qds) (by exact hsA) dd ?_); clear h; rintro v22 Ψ22 a w ⟨ad22, rfl, rfl⟩ h
 obtain ⟨B22, O22, rfl⟩ := h.row_addr (ad := ad22) (M := cellsOf Zr vU1) mm (by intro e; have := congrArg List.length e; rw [cellsOf_length (k := 5) (fun _ => rfl)] at this; exact absurd this ss)
 refine gL h (zm rfl (zp (.eX rfl) (zp (.eX rfl) (zz zeroValue57 fun b3 => zt' rfl rfl Qt uu sizeOf57 rfl nb rfl ?_))))
 refine za rfl (zn (zS (zv [] rfl call33 (Zpi) (zv [_] rfl call21 (Ye _ oo oo) ?_)))); intro a w h
 have hl27 := Zs (1) oo oo
 refine Zc (Jd h (vs := [_]) rfl call35 (Zce ((1 : Int) : Rat) 2 (Zs _ dd dd) dd) (by exact hsA) dd ?_); clear h; rintro v28 Ψ28 a w ⟨ad28, c28, rfl, rfl⟩ h
 refine Zc (Jd h (vs := [_, _, _]) rfl call34 (Qdu _ _) (by exact hsA) dd ?_); clear h; rintro v29 Ψ29 a w ⟨ad29, c29, rfl, rfl⟩ h
 obtain ⟨B29, O29, rfl⟩ := h.row_addr (ad := ad29) (M := cellsOf Zr vU2) mm (by intro e; have := congrArg List.length e; rw [cellsOf_length (k := 5) (fun _ => rfl)] at this; exact absurd this ss)
 refine gL h (zm rfl (zp (.eX rfl) (zp (.eX rfl) (za rfl (za rfl (zn (zS (zv [_, _] rfl call37 (Zw2 1 0 dd dd) (zv [_, _] rfl call37 (Zw2 0 1 dd dd) (zv [_] rfl call21 (Ye _ oo oo) ?_)))))))))); clear h; intro a w h
 have hl35 := Zs (1) oo oo
 refine Zc (Jd h (vs := [_]) rfl call35 (Zce ((1 : Int) : Rat) 2 (Zs _ dd dd) dd) (by exact hsA) dd ?_); clear h; rintro v36 Ψ36 a w ⟨ad36, c36, rfl, rfl⟩ h
 refine gL h (zp (.build [(_, _), (_, _)] rfl (Zwq _ _ _ _ _ _)) ?_); clear h; intro a w h
 refine Zc (Jd h (vs := [_, _, _, _]) rfl call36 (Qdi _ _) (by exact hsA) dd ?_); clear h; rintro v38 Ψ38 a w ⟨ad38, c38, rfl, rfl⟩ h
 obtain ⟨B38, O38, rfl⟩ := h.row_addr (ad := ad38) (M := cellsOf Zr vU3) mm (by intro e; have := congrArg List.length e; rw [cellsOf_length (k := 5) (fun _ => rfl)] at this; exact absurd this ss)
 refine gL h (zm rfl (zp (.eX rfl) (zp (.eX rfl) (za rfl (za rfl (zn (zs (zS (zm rfl (zp (Pure1.cast (v' := .bool false) (.neq rfl rfl) cgd) (zm rfl (zq 43 rfl rfl (.move rfl) (zq 43 rfl rfl (Pure1.cast (v' := .bool false) (.neq rfl rfl) cgd) (zp (.pickF rfl rfl) (zm rfl (zq 47 rfl rfl (.move rfl) (zq 47 rfl rfl (Pure1.cast (v' := .bool false) (.neq rfl rfl) cgd) (zp (.pickF rfl rfl) (zm rfl (zq 51 rfl rfl (.move rfl) (zq 51 rfl rfl (Pure1.cast (v' := .bool false) (.neq rfl rfl) cgd) (zp (.pickF rfl rfl) (zm rfl (zq 55 rfl rfl (.move rfl) (zq 55 rfl rfl (.builtin [_] rfl (Qn _ _ _)) (zq 55 rfl rfl (Pure1.cast (v' := .bool false) (.neq rfl rfl) cgd) (zp (.pickF rfl rfl) (zm rfl (zq 60 rfl rfl (.move rfl) (zq 60 rfl rfl (.builtin [_] rfl (Qn _ _ _)) (zq 60 rfl rfl (Pure1.cast (v' := .bool false) (.neq rfl rfl) cgd) (zp (.pickF rfl rfl) (zm rfl (zq 65 rfl rfl (.fA rfl Zbq) ?_)))))))))))))))))))))))))))))))))); clear h; intro a w h
 refine Zt 65 h rfl rfl (Qd h rfl mr isAgg3 sizeOf3 Zbk dd ?_); clear h; intro a h
 refine gL h (zq 65 rfl rfl (Pure1.cast (v' := .bool false) (.neq rfl rfl) cgd) (zp (.pickF rfl rfl) (zm rfl (zq 70 rfl rfl (.fA rfl Gp) ?_)))); clear h; intro a w h
 refine Zt 70 h rfl rfl (Qd h rfl mr isAgg3 sizeOf3 Gq dd ?_); clear h; intro a h
 refine gL h (zq 70 rfl rfl (Pure1.cast (v' := .bool false) (.neq rfl rfl) cgd) (zp (.pickF rfl rfl) (zm rfl (zq 75 rfl rfl (.fA rfl Zbq) ?_)))); clear h; intro a w h
 refine Zt 75 h rfl rfl (Qd h rfl mr isAgg3 sizeOf3 Zbk dd ?_); clear h; intro a h
 refine gL h (zq 75 rfl rfl (Pure1.cast (v' := .bool false) (.neq rfl rfl) cgd) (zp (.pickF rfl rfl) (zm rfl (zq 80 rfl rfl (.fA rfl Jx) ?_)))); clear h; intro a w h
 refine Zt 80 h rfl rfl (Qd h rfl mr isAgg49 sizeOf49 Jo dd ?_); clear h; intro a h
 refine gL h (zq 80 rfl rfl (.builtin [_] rfl (Kd _ _ _)) (zq 80 rfl rfl (Pure1.cast (v' := .bool false) (.neq rfl rfl) cgd) (zp (.pickF rfl rfl) (zm rfl (zq 86 rfl rfl (.fA rfl Jx) ?_))))); clear h; intro a w h
 refine Zt 86 h rfl rfl (Qd h rfl mr isAgg49 sizeOf49 Jo dd ?_); clear h; intro a h
 refine gL h (zq 86 rfl rfl (.builtin [_] rfl (Kd _ _ _)) (zq 86 rfl rfl (Pure1.cast (v' := .bool false) (.neq rfl rfl) cgd) (zp (.pickF rfl rfl) (zn ?_)))); clear h; intro a w h
 refine cW ?_
 refine Zf h rfl ?_
 refine gC h (zk (zS (zB [(_, _), (_, _), (_, _), (_, _), (_, _), (_, _), (_, _), (_, _), (_, _)] rfl (Zcj _ _ _ _ _ _ _ _ _) fun b92 => za rfl (zn (zs (zS (za rfl (zn (zb ?_))))))))); clear h; intro a w h
 refine wp_loop_rounds 10 ?_
 refine Ze ?_
 refine gC h (zs (zS (zm rfl (zp (Pure1.cast (v' := .bool true) (.lss rfl rfl) cgd) (zn ?_))))); clear h; intro a w h
 refine cW ?_
 refine Zi h rfl ?_
 refine gC h (zk (zs (zb (zs (yD Za [0, 1, 2, 3, 4, 6, 7, 8, 9, 5, 10, 11, 12, 13, 14, 15, 16, 19, 20, 21, 17, 18, 22, 23, 24, 25, 26, 27, 28, 29, 30, 31, 32, 33, 34, 35, 36, 37] (Zd kk) (yp rfl (.fA rfl Jx) (yd rfl rfl mr isAgg49 sizeOf49 Jo ?_))))))); clear h
 refine ym rfl rfl (yp rfl (.indexAddr rfl rfl (Gn _ _ _ _ _ (by exact ixd))) ?_)
 refine Zv rfl kk rfl mm (cells_lt (k := 5) dd (fun _ => rfl) vU0 0 (by exact ixd)) isAgg41 sizeOf41 (Zq (k := 5) (fun _ => rfl) ((fun _ => rfl)) vU0 0 0 (by exact ixd)) (.inl rfl) dd ?_
 refine ym rfl rfl (ym rfl rfl (yp rfl (.indexAddr rfl rfl (Zlj _ _ _ _ _ (by exact ixd))) (yd rfl rfl mm isAgg9 sizeOf9 ((congrArg _ (Nat.zero_add _)).trans (Zy (enc := encs) (l := ([⟨#[49]⟩, ⟨#[45, 49, 47, 50]⟩, ⟨#[45, 49, 47, 50]⟩, ⟨#[45, 49, 47, 50]⟩, ⟨#[49, 47, 50]⟩, ⟨#[48]⟩, ⟨#[45, 49, 47, 50]⟩, ⟨#[48]⟩, ⟨#[49, 47, 50]⟩])) (⟨#[]⟩) (by exact ixd))) ?_)))
 refine yv [_] rfl rfl call38 (C_T0) (yp rfl (Pure1.cast (v' := .bool false) (.binOp rfl rfl (fun _ => Va _ _ _ _ _)) cgd) (ym rfl rfl (yq rfl rfl rfl (.fA rfl Jx) (yg rfl rfl rfl rfl mr isAgg49 sizeOf49 Jo ?_))))
 refine yq rfl rfl rfl (.move rfl) (yq rfl rfl rfl (.indexAddr rfl rfl (Gn _ _ _ _ _ (by exact ixd))) ?_)
 refine Qk rfl rfl rfl kk rfl mm (cells_lt (k := 5) dd (fun _ => rfl) vU1 0 (by exact ixd)) isAgg41 sizeOf41 (Zq (k := 5) (fun _ => rfl) ((fun _ => rfl)) vU1 0 0 (by exact ixd)) (.inl rfl) dd ?_
 refine yq rfl rfl rfl (.move rfl) (yq rfl rfl rfl (Pure1.cast (v' := .int .i64 0) (.binOp rfl rfl (fun _ => Xp _ _ _ _ _ dd)) cgd) (yq rfl rfl rfl (Pure1.cast (v' := .bool true) (.eql rfl rfl) cgd) ?_))
 refine Jt rfl rfl rfl kk (vs := [_]) rfl call38 (C_T4) dd ?_
 refine yq rfl rfl rfl (Pure1.cast (v' := .bool true) (.binOp rfl rfl (fun _ => Xn _ _ _ _ _)) cgd) (yq rfl rfl rfl (Pure1.cast (v' := .bool false) (.binOp rfl rfl (fun _ => Zac _ underlying4 _ _ _ _)) cgd) (yp rfl (.pickF rfl rfl) (ym rfl rfl (yq rfl rfl rfl (.move rfl) (yq rfl rfl rfl (Pure1.cast (v' := .int .i64 0) (.binOp rfl rfl (fun _ => Xp _ _ _ _ _ dd)) cgd) (yq rfl rfl rfl (Pure1.cast (v' := .bool false) (.neq rfl rfl) cgd) (yq rfl rfl rfl (.move rfl) (yo 125 rfl rfl rfl rfl (yo 125 rfl rfl rfl rfl (yo 125 rfl rfl rfl rfl (yo 125 rfl rfl rfl rfl (yo 125 rfl rfl rfl rfl (yo 125 rfl rfl rfl rfl (yo 125 rfl rfl rfl rfl (yq rfl rfl rfl (.pickF rfl rfl) (yp rfl (.pickF rfl rfl) (yn ?_))))))))))))))))); intro a w h
 refine cW ?_
 refine Zf h rfl ?_
 refine gC h (zk (zr (zm rfl (zp (Pure1.cast (v' := .int .i64 1) (.add rfl rfl) cgd) (za rfl (zn ?_)))))); clear h; intro a w h
 replace h : St 174 S w0 [(0, .bool false), (1, _), (3, _), (5, _), (7, _), (9, _), (10, .int .i64 1), (94, .bool true), (134, .bool false)] _ _ a w := h.sub sA
 refine Ze ?_
 refine gC h (zs (zS (zm rfl (zp (Pure1.cast (v' := .bool true) (.lss rfl rfl) cgd) (zn ?_))))); clear h; intro a w h
 refine cW ?_
 refine Zi h rfl ?_
 refine gC h (zk (zs (zb (zs (yD Za [0, 1, 2, 3, 4, 6, 7, 8, 9, 5, 10, 11, 12, 13, 14, 15, 16, 19, 20, 21, 17, 18, 22, 23, 24, 25, 26, 27, 28, 29, 30, 31, 32, 33, 34, 35, 36, 37] (Zd kk) (yp rfl (.fA rfl Jx) (yd rfl rfl mr isAgg49 sizeOf49 Jo ?_))))))); clear h
 refine ym rfl rfl (yp rfl (.indexAddr rfl rfl (Gn _ _ _ _ _ (by exact ixd))) ?_)
 refine Zv rfl kk rfl mm (cells_lt (k := 5) dd (fun _ => rfl) vU0 1 (by exact ixd)) isAgg41 sizeOf41 (Zq (k := 5) (fun _ => rfl) ((fun _ => rfl)) vU0 0 1 (by exact ixd)) (.inl rfl) dd ?_
 refine ym rfl rfl (ym rfl rfl (yp rfl (.indexAddr rfl rfl (Zlj _ _ _ _ _ (by exact ixd))) (yd rfl rfl mm isAgg9 sizeOf9 ((congrArg _ (Nat.zero_add _)).trans (Zy (enc := encs) (l := ([⟨#[49]⟩, ⟨#[45, 49, 47, 50]⟩, ⟨#[45, 49, 47, 50]⟩, ⟨#[45, 49, 47, 50]⟩, ⟨#[49, 47, 50]⟩, ⟨#[48]⟩, ⟨#[45, 49, 47, 50]⟩, ⟨#[48]⟩, ⟨#[49, 47, 50]⟩])) (⟨#[]⟩) (by exact ixd))) ?_)))
 refine yv [_] rfl rfl call38 (C_T1) (yp rfl (Pure1.cast (v' := .bool false) (.binOp rfl rfl (fun _ => Va _ _ _ _ _)) cgd) (ym rfl rfl (yq rfl rfl rfl (.fA rfl Jx) (yg rfl rfl rfl rfl mr isAgg49 sizeOf49 Jo ?_))))
 refine yq rfl rfl rfl (.move rfl) (yq rfl rfl rfl (.indexAddr rfl rfl (Gn _ _ _ _ _ (by exact ixd))) ?_)
 refine Qk rfl rfl rfl kk rfl mm (cells_lt (k := 5) dd (fun _ => rfl) vU1 1 (by exact ixd)) isAgg41 sizeOf41 (Zq (k := 5) (fun _ => rfl) ((fun _ => rfl)) vU1 0 1 (by exact ixd)) (.inl rfl) dd ?_
 refine yq rfl rfl rfl (.move rfl) (yq rfl rfl rfl (Pure1.cast (v' := .int .i64 1) (.binOp rfl rfl (fun _ => Xp _ _ _ _ _ dd)) cgd) (yq rfl rfl rfl (Pure1.cast (v' := .bool false) (.eql rfl rfl) cgd) ?_))
 refine Jt rfl rfl rfl kk (vs := [_]) rfl call38 (Zti) dd ?_
 refine yq rfl rfl rfl (Pure1.cast (v' := .bool false) (.binOp rfl rfl (fun _ => Xn _ _ _ _ _)) cgd) (yq rfl rfl rfl (Pure1.cast (v' := .bool false) (.binOp rfl rfl (fun _ => Zac _ underlying4 _ _ _ _)) cgd) (yp rfl (.pickF rfl rfl) (ym rfl rfl (yq rfl rfl rfl (.move rfl) (yq rfl rfl rfl (Pure1.cast (v' := .int .i64 1) (.binOp rfl rfl (fun _ => Xp _ _ _ _ _ dd)) cgd) (yq rfl rfl rfl (Pure1.cast (v' := .bool true) (.neq rfl rfl) cgd) (yq rfl rfl rfl (.move rfl) (yq rfl rfl rfl (.fA rfl Jx) (yg rfl rfl rfl rfl mr isAgg49 sizeOf49 Jo ?_)))))))))
 refine yq rfl rfl rfl (.move rfl) (yq rfl rfl rfl (.indexAddr rfl rfl (Gn _ _ _ _ _ (by exact ixd))) ?_)
 refine Qk rfl rfl rfl kk rfl mm (cells_lt (k := 5) dd (fun _ => rfl) vU1 1 (by exact ixd)) isAgg41 sizeOf41 (Zq (k := 5) (fun _ => rfl) ((fun _ => rfl)) vU1 0 1 (by exact ixd)) (.inl rfl) dd ?_
 refine Jt rfl rfl rfl kk (vs := [_]) rfl call38 (Zti) dd ?_
 refine yq rfl rfl rfl (Pure1.cast (v' := .bool false) (.binOp rfl rfl (fun _ => Va _ _ _ _ _)) cgd) (yq rfl rfl rfl (.pickT rfl rfl) (yp rfl (.pickF rfl rfl) (yn ?_))); intro a w h
 refine cW ?_
 refine Zf h rfl ?_
 refine gC h (zk (zr (zm rfl (zp (Pure1.cast (v' := .int .i64 2) (.add rfl rfl) cgd) (za rfl (zn ?_)))))); clear h; intro a w h
 replace h : St 174 S w0 [(0, .bool false), (1, _), (3, _), (5, _), (7, _), (9, _), (10, .int .i64 2), (94, .bool true), (134, .bool false)] _ _ a w := h.sub sA
 refine Ze ?_
 refine gC h (zs (zS (zm rfl (zp (Pure1.cast (v' := .bool true) (.lss rfl rfl) cgd) (zn ?_))))); clear h; intro a w h
 refine cW ?_
 refine Zi h rfl ?_
 refine gC h (zk (zs (zb (zs (yD Za [0, 1, 2, 3, 4, 6, 7, 8, 9, 5, 10, 11, 12, 13, 14, 15, 16, 19, 20, 21, 17, 18, 22, 23, 24, 25, 26, 27, 28, 29, 30, 31, 32, 33, 34, 35, 36, 37] (Zd kk) (yp rfl (.fA rfl Jx) (yd rfl rfl mr isAgg49 sizeOf49 Jo ?_))))))); clear h
 refine ym rfl rfl (yp rfl (.indexAddr rfl rfl (Gn _ _ _ _ _ (by exact ixd))) ?_)
 refine Zv rfl kk rfl mm (cells_lt (k := 5) dd (fun _ => rfl) vU0 2 (by exact ixd)) isAgg41 sizeOf41 (Zq (k := 5) (fun _ => rfl) ((fun _ => rfl)) vU0 0 2 (by exact ixd)) (.inl rfl) dd ?_
 refine ym rfl rfl (ym rfl rfl (yp rfl (.indexAddr rfl rfl (Zlj _ _ _ _ _ (by exact ixd))) (yd rfl rfl mm isAgg9 sizeOf9 ((congrArg _ (Nat.zero_add _)).trans (Zy (enc := encs) (l := ([⟨#[49]⟩, ⟨#[45, 49, 47, 50]⟩, ⟨#[45, 49, 47, 50]⟩, ⟨#[45, 49, 47, 50]⟩, ⟨#[49, 47, 50]⟩, ⟨#[48]⟩, ⟨#[45, 49, 47, 50]⟩, ⟨#[48]⟩, ⟨#[49, 47, 50]⟩])) (⟨#[]⟩) (by exact ixd))) ?_)))
 refine yv [_] rfl rfl call38 (C_T1) (yp rfl (Pure1.cast (v' := .bool false) (.binOp rfl rfl (fun _ => Va _ _ _ _ _)) cgd) (ym rfl rfl (yq rfl rfl rfl (.fA rfl Jx) (yg rfl rfl rfl rfl mr isAgg49 sizeOf49 Jo ?_))))
 refine yq rfl rfl rfl (.move rfl) (yq rfl rfl rfl (.indexAddr rfl rfl (Gn _ _ _ _ _ (by exact ixd))) ?_)
 refine Qk rfl rfl rfl kk rfl mm (cells_lt (k := 5) dd (fun _ => rfl) vU1 2 (by exact ixd)) isAgg41 sizeOf41 (Zq (k := 5) (fun _ => rfl) ((fun _ => rfl)) vU1 0 2 (by exact ixd)) (.inl rfl) dd ?_
 refine yq rfl rfl rfl (.move rfl) (yq rfl rfl rfl (Pure1.cast (v' := .int .i64 2) (.binOp rfl rfl (fun _ => Xp _ _ _ _ _ dd)) cgd) (yq rfl rfl rfl (Pure1.cast (v' := .bool false) (.eql rfl rfl) cgd) ?_))
 refine Jt rfl rfl rfl kk (vs := [_]) rfl call38 (Zti) dd ?_
 refine yq rfl rfl rfl (Pure1.cast (v' := .bool false) (.binOp rfl rfl (fun _ => Xn _ _ _ _ _)) cgd) (yq rfl rfl rfl (Pure1.cast (v' := .bool false) (.binOp rfl rfl (fun _ => Zac _ underlying4 _ _ _ _)) cgd) (yp rfl (.pickF rfl rfl) (ym rfl rfl (yq rfl rfl rfl (.move rfl) (yq rfl rfl rfl (Pure1.cast (v' := .int .i64 2) (.binOp rfl rfl (fun _ => Xp _ _ _ _ _ dd)) cgd) (yq rfl rfl rfl (Pure1.cast (v' := .bool true) (.neq rfl rfl) cgd) (yq rfl rfl rfl (.move rfl) (yq rfl rfl rfl (.fA rfl Jx) (yg rfl rfl rfl rfl mr isAgg49 sizeOf49 Jo ?_)))))))))
 refine yq rfl rfl rfl (.move rfl) (yq rfl rfl rfl (.indexAddr rfl rfl (Gn _ _ _ _ _ (by exact ixd))) ?_)
 refine Qk rfl rfl rfl kk rfl mm (cells_lt (k := 5) dd (fun _ => rfl) vU1 2 (by exact ixd)) isAgg41 sizeOf41 (Zq (k := 5) (fun _ => rfl) ((fun _ => rfl)) vU1 0 2 (by exact ixd)) (.inl rfl) dd ?_
 refine Jt rfl rfl rfl kk (vs := [_]) rfl call38 (Zti) dd ?_
 refine yq rfl rfl rfl (Pure1.cast (v' := .bool false) (.binOp rfl rfl (fun _ => Va _ _ _ _ _)) cgd) (yq rfl rfl rfl (.pickT rfl rfl) (yp rfl (.pickF rfl rfl) (yn ?_))); intro a w h
 refine cW ?_
 refine Zf h rfl ?_
 refine gC h (zk (zr (zm rfl (zp (Pure1.cast (v' := .int .i64 3) (.add rfl rfl) cgd) (za rfl (zn ?_)))))); clear h; intro a w h
 replace h : St 174 S w0 [(0, .bool false), (1, _), (3, _), (5, _), (7, _), (9, _), (10, .int .i64 3), (94, .bool true), (134, .bool false)] _ _ a w := h.sub sA
 refine Ze ?_
 refine gC h (zs (zS (zm rfl (zp (Pure1.cast (v' := .bool true) (.lss rfl rfl) cgd) (zn ?_))))); clear h; intro a w h
 refine cW ?_
 refine Zi h rfl ?_
 refine gC h (zk (zs (zb (zs (yD Za [0, 1, 2, 3, 4, 6, 7, 8, 9, 5, 10, 11, 12, 13, 14, 15, 16, 19, 20, 21, 17, 18, 22, 23, 24, 25, 26, 27, 28, 29, 30, 31, 32, 33, 34, 35, 36, 37] (Zd kk) (yp rfl (.fA rfl Jx) (yd rfl rfl mr isAgg49 sizeOf49 Jo ?_))))))); clear h
 refine ym rfl rfl (yp rfl (.indexAddr rfl rfl (Gn _ _ _ _ _ (by exact ixd))) ?_)
 refine Zv rfl kk rfl mm (cells_lt (k := 5) dd (fun _ => rfl) vU0 3 (by exact ixd)) isAgg41 sizeOf41 (Zq (k := 5) (fun _ => rfl) ((fun _ => rfl)) vU0 0 3 (by exact ixd)) (.inl rfl) dd ?_
 refine ym rfl rfl (ym rfl rfl (yp rfl (.indexAddr rfl rfl (Zlj _ _ _ _ _ (by exact ixd))) (yd rfl rfl mm isAgg9 sizeOf9 ((congrArg _ (Nat.zero_add _)).trans (Zy (enc := encs) (l := ([⟨#[49]⟩, ⟨#[45, 49, 47, 50]⟩, ⟨#[45, 49, 47, 50]⟩, ⟨#[45, 49, 47, 50]⟩, ⟨#[49, 47, 50]⟩, ⟨#[48]⟩, ⟨#[45, 49, 47, 50]⟩, ⟨#[48]⟩, ⟨#[49, 47, 50]⟩])) (⟨#[]⟩) (by exact ixd))) ?_)))
 refine yv [_] rfl rfl call38 (C_T1) (yp rfl (Pure1.cast (v' := .bool false) (.binOp rfl rfl (fun _ => Va _ _ _ _ _)) cgd) (ym rfl rfl (yq rfl rfl rfl (.fA rfl Jx) (yg rfl rfl rfl rfl mr isAgg49 sizeOf49 Jo ?_))))
 refine yq rfl rfl rfl (.move rfl) (yq rfl rfl rfl (.indexAddr rfl rfl (Gn _ _ _ _ _ (by exact ixd))) ?_)
 refine Qk rfl rfl rfl kk rfl mm (cells_lt (k := 5) dd (fun _ => rfl) vU1 3 (by exact ixd)) isAgg41 sizeOf41 (Zq (k := 5) (fun _ => rfl) ((fun _ => rfl)) vU1 0 3 (by exact ixd)) (.inl rfl) dd ?_
 refine yq rfl rfl rfl (.move rfl) (yq rfl rfl rfl (Pure1.cast (v' := .int .i64 3) (.binOp rfl rfl (fun _ => Xp _ _ _ _ _ dd)) cgd) (yq rfl rfl rfl (Pure1.cast (v' := .bool false) (.eql rfl rfl) cgd) ?_))
 refine Jt rfl rfl rfl kk (vs := [_]) rfl call38 (Zti) dd ?_
 refine yq rfl rfl rfl (Pure1.cast (v' := .bool false) (.binOp rfl rfl (fun _ => Xn _ _ _ _ _)) cgd) (yq rfl rfl rfl (Pure1.cast (v' := .bool false) (.binOp rfl rfl (fun _ => Zac _ underlying4 _ _ _ _)) cgd) (yp rfl (.pickF rfl rfl) (ym rfl rfl (yq rfl rfl rfl (.move rfl) (yq rfl rfl rfl (Pure1.cast (v' := .int .i64 3) (.binOp rfl rfl (fun _ => Xp _ _ _ _ _ dd)) cgd) (yq rfl rfl rfl (Pure1.cast (v' := .bool true) (.neq rfl rfl) cgd) (yq rfl rfl rfl (.move rfl) (yq rfl rfl rfl (.fA rfl Jx) (yg rfl rfl rfl rfl mr isAgg49 sizeOf49 Jo ?_)))))))))
 refine yq rfl rfl rfl (.move rfl) (yq rfl rfl rfl (.indexAddr rfl rfl (Gn _ _ _ _ _ (by exact ixd))) ?_)
 refine Qk rfl rfl rfl kk rfl mm (cells_lt (k := 5) dd (fun _ => rfl) vU1 3 (by exact ixd)) isAgg41 sizeOf41 (Zq (k := 5) (fun _ => rfl) ((fun _ => rfl)) vU1 0 3 (by exact ixd)) (.inl rfl) dd ?_
 refine Jt rfl rfl rfl kk (vs := [_]) rfl call38 (Zti) dd ?_
 refine yq rfl rfl rfl (Pure1.cast (v' := .bool false) (.binOp rfl rfl (fun _ => Va _ _ _ _ _)) cgd) (yq rfl rfl rfl (.pickT rfl rfl) (yp rfl (.pickF rfl rfl) (yn ?_))); intro a w h
 refine cW ?_
 refine Zf h rfl ?_
 refine gC h (zk (zr (zm rfl (zp (Pure1.cast (v' := .int .i64 4) (.add rfl rfl) cgd) (za rfl (zn ?_)))))); clear h; intro a w h
 replace h : St 174 S w0 [(0, .bool false), (1, _), (3, _), (5, _), (7, _), (9, _), (10, .int .i64 4), (94, .bool true), (134, .bool false)] _ _ a w := h.sub sA
 refine Ze ?_
 refine gC h (zs (zS (zm rfl (zp (Pure1.cast (v' := .bool true) (.lss rfl rfl) cgd) (zn ?_))))); clear h; intro a w h
 refine cW ?_
 refine Zi h rfl ?_
 refine gC h (zk (zs (zb (zs (yD Za [0, 1, 2, 3, 4, 6, 7, 8, 9, 5, 10, 11, 12, 13, 14, 15, 16, 19, 20, 21, 17, 18, 22, 23, 24, 25, 26, 27, 28, 29, 30, 31, 32, 33, 34, 35, 36, 37] (Zd kk) (yp rfl (.fA rfl Jx) (yd rfl rfl mr isAgg49 sizeOf49 Jo ?_))))))); clear h
 refine ym rfl rfl (yp rfl (.indexAddr rfl rfl (Gn _ _ _ _ _ (by exact ixd))) ?_)
 refine Zv rfl kk rfl mm (cells_lt (k := 5) dd (fun _ => rfl) vU0 4 (by exact ixd)) isAgg41 sizeOf41 (Zq (k := 5) (fun _ => rfl) ((fun _ => rfl)) vU0 0 4 (by exact ixd)) (.inl rfl) dd ?_
 refine ym rfl rfl (ym rfl rfl (yp rfl (.indexAddr rfl rfl (Zlj _ _ _ _ _ (by exact ixd))) (yd rfl rfl mm isAgg9 sizeOf9 ((congrArg _ (Nat.zero_add _)).trans (Zy (enc := encs) (l := ([⟨#[49]⟩, ⟨#[45, 49, 47, 50]⟩, ⟨#[45, 49, 47, 50]⟩, ⟨#[45, 49, 47, 50]⟩, ⟨#[49, 47, 50]⟩, ⟨#[48]⟩, ⟨#[45, 49, 47, 50]⟩, ⟨#[48]⟩, ⟨#[49, 47, 50]⟩])) (⟨#[]⟩) (by exact ixd))) ?_)))
 refine yv [_] rfl rfl call38 (C_T2) (yp rfl (Pure1.cast (v' := .bool false) (.binOp rfl rfl (fun _ => Va _ _ _ _ _)) cgd) (ym rfl rfl (yq rfl rfl rfl (.fA rfl Jx) (yg rfl rfl rfl rfl mr isAgg49 sizeOf49 Jo ?_))))
 refine yq rfl rfl rfl (.move rfl) (yq rfl rfl rfl (.indexAddr rfl rfl (Gn _ _ _ _ _ (by exact ixd))) ?_)
 refine Qk rfl rfl rfl kk rfl mm (cells_lt (k := 5) dd (fun _ => rfl) vU1 4 (by exact ixd)) isAgg41 sizeOf41 (Zq (k := 5) (fun _ => rfl) ((fun _ => rfl)) vU1 0 4 (by exact ixd)) (.inl rfl) dd ?_
 refine yq rfl rfl rfl (.move rfl) (yq rfl rfl rfl (Pure1.cast (v' := .int .i64 0) (.binOp rfl rfl (fun _ => Xp _ _ _ _ _ dd)) cgd) (yq rfl rfl rfl (Pure1.cast (v' := .bool true) (.eql rfl rfl) cgd) ?_))
 refine Jt rfl rfl rfl kk (vs := [_]) rfl call38 (C_T4) dd ?_
 refine yq rfl rfl rfl (Pure1.cast (v' := .bool true) (.binOp rfl rfl (fun _ => Xn _ _ _ _ _)) cgd) (yq rfl rfl rfl (Pure1.cast (v' := .bool false) (.binOp rfl rfl (fun _ => Zac _ underlying4 _ _ _ _)) cgd) (yp rfl (.pickF rfl rfl) (ym rfl rfl (yq rfl rfl rfl (.move rfl) (yq rfl rfl rfl (Pure1.cast (v' := .int .i64 0) (.binOp rfl rfl (fun _ => Xp _ _ _ _ _ dd)) cgd) (yq rfl rfl rfl (Pure1.cast (v' := .bool false) (.neq rfl rfl) cgd) (yq rfl rfl rfl (.move rfl) (yo 125 rfl rfl rfl rfl (yo 125 rfl rfl rfl rfl (yo 125 rfl rfl rfl rfl (yo 125 rfl rfl rfl rfl (yo 125 rfl rfl rfl rfl (yo 125 rfl rfl rfl rfl (yo 125 rfl rfl rfl rfl (yq rfl rfl rfl (.pickF rfl rfl) (yp rfl (.pickF rfl rfl) (yn ?_))))))))))))))))); intro a w h
 refine cW ?_
 refine Zf h rfl ?_
 refine gC h (zk (zr (zm rfl (zp (Pure1.cast (v' := .int .i64 5) (.add rfl rfl) cgd) (za rfl (zn ?_)))))); clear h; intro a w h
 replace h : St 174 S w0 [(0, .bool false), (1, _), (3, _), (5, _), (7, _), (9, _), (10, .int .i64 5), (94, .bool true), (134, .bool false)] _ _ a w := h.sub sA
 refine Ze ?_
 refine gC h (zs (zS (zm rfl (zp (Pure1.cast (v' := .bool true) (.lss rfl rfl) cgd) (zn ?_))))); clear h; intro a w h
 refine cW ?_
 refine Zi h rfl ?_
 refine gC h (zk (zs (zb (zs (yD Za [0, 1, 2, 3, 4, 6, 7, 8, 9, 5, 10, 11, 12, 13, 14, 15, 16, 19, 20, 21, 17, 18, 22, 23, 24, 25, 26, 27, 28, 29, 30, 31, 32, 33, 34, 35, 36, 37] (Zd kk) (yp rfl (.fA rfl Jx) (yd rfl rfl mr isAgg49 sizeOf49 Jo ?_))))))); clear h
 refine ym rfl rfl (yp rfl (.indexAddr rfl rfl (Gn _ _ _ _ _ (by exact ixd))) ?_)
 refine Zv rfl kk rfl mm (cells_lt (k := 5) dd (fun _ => rfl) vU0 5 (by exact ixd)) isAgg41 sizeOf41 (Zq (k := 5) (fun _ => rfl) ((fun _ => rfl)) vU0 0 5 (by exact ixd)) (.inl rfl) dd ?_
 refine ym rfl rfl (ym rfl rfl (yp rfl (.indexAddr rfl rfl (Zlj _ _ _ _ _ (by exact ixd))) (yd rfl rfl mm isAgg9 sizeOf9 ((congrArg _ (Nat.zero_add _)).trans (Zy (enc := encs) (l := ([⟨#[49]⟩, ⟨#[45, 49, 47, 50]⟩, ⟨#[45, 49, 47, 50]⟩, ⟨#[45, 49, 47, 50]⟩, ⟨#[49, 47, 50]⟩, ⟨#[48]⟩, ⟨#[45, 49, 47, 50]⟩, ⟨#[48]⟩, ⟨#[49, 47, 50]⟩])) (⟨#[]⟩) (by exact ixd))) ?_)))
 refine yv [_] rfl rfl call38 (C_T3) (yp rfl (Pure1.cast (v' := .bool false) (.binOp rfl rfl (fun _ => Va _ _ _ _ _)) cgd) (ym rfl rfl (yq rfl rfl rfl (.fA rfl Jx) (yg rfl rfl rfl rfl mr isAgg49 sizeOf49 Jo ?_))))
 refine yq rfl rfl rfl (.move rfl) (yq rfl rfl rfl (.indexAddr rfl rfl (Gn _ _ _ _ _ (by exact ixd))) ?_)
 refine Qk rfl rfl rfl kk rfl mm (cells_lt (k := 5) dd (fun _ => rfl) vU1 5 (by exact ixd)) isAgg41 sizeOf41 (Zq (k := 5) (fun _ => rfl) ((fun _ => rfl)) vU1 0 5 (by exact ixd)) (.inl rfl) dd ?_
 refine yq rfl rfl rfl (.move rfl) (yq rfl rfl rfl (Pure1.cast (v' := .int .i64 1) (.binOp rfl rfl (fun _ => Xp _ _ _ _ _ dd)) cgd) (yq rfl rfl rfl (Pure1.cast (v' := .bool false) (.eql rfl rfl) cgd) ?_))
 refine Jt rfl rfl rfl kk (vs := [_]) rfl call38 (Zti) dd ?_
 refine yq rfl rfl rfl (Pure1.cast (v' := .bool false) (.binOp rfl rfl (fun _ => Xn _ _ _ _ _)) cgd) (yq rfl rfl rfl (Pure1.cast (v' := .bool false) (.binOp rfl rfl (fun _ => Zac _ underlying4 _ _ _ _)) cgd) (yp rfl (.pickF rfl rfl) (ym rfl rfl (yq rfl rfl rfl (.move rfl) (yq rfl rfl rfl (Pure1.cast (v' := .int .i64 1) (.binOp rfl rfl (fun _ => Xp _ _ _ _ _ dd)) cgd) (yq rfl rfl rfl (Pure1.cast (v' := .bool true) (.neq rfl rfl) cgd) (yq rfl rfl rfl (.move rfl) (yq rfl rfl rfl (.fA rfl Jx) (yg rfl rfl rfl rfl mr isAgg49 sizeOf49 Jo ?_)))))))))
 refine yq rfl rfl rfl (.move rfl) (yq rfl rfl rfl (.indexAddr rfl rfl (Gn _ _ _ _ _ (by exact ixd))) ?_)
 refine Qk rfl rfl rfl kk rfl mm (cells_lt (k := 5) dd (fun _ => rfl) vU1 5 (by exact ixd)) isAgg41 sizeOf41 (Zq (k := 5) (fun _ => rfl) ((fun _ => rfl)) vU1 0 5 (by exact ixd)) (.inl rfl) dd ?_
 refine Jt rfl rfl rfl kk (vs := [_]) rfl call38 (Zti) dd ?_
 refine yq rfl rfl rfl (Pure1.cast (v' := .bool false) (.binOp rfl rfl (fun _ => Va _ _ _ _ _)) cgd) (yq rfl rfl rfl (.pickT rfl rfl) (yp rfl (.pickF rfl rfl) (yn ?_))); intro a w h
 refine cW ?_
 refine Zf h rfl ?_
 refine gC h (zk (zr (zm rfl (zp (Pure1.cast (v' := .int .i64 6) (.add rfl rfl) cgd) (za rfl (zn ?_)))))); clear h; intro a w h
 replace h : St 174 S w0 [(0, .bool false), (1, _), (3, _), (5, _), (7, _), (9, _), (10, .int .i64 6), (94, .bool true), (134, .bool false)] _ _ a w := h.sub sA
 refine Ze ?_
 refine gC h (zs (zS (zm rfl (zp (Pure1.cast (v' := .bool true) (.lss rfl rfl) cgd) (zn ?_))))); clear h; intro a w h
 refine cW ?_
 refine Zi h rfl ?_
 refine gC h (zk (zs (zb (zs (yD Za [0, 1, 2, 3, 4, 6, 7, 8, 9, 5, 10, 11, 12, 13, 14, 15, 16, 19, 20, 21, 17, 18, 22, 23, 24, 25, 26, 27, 28, 29, 30, 31, 32, 33, 34, 35, 36, 37] (Zd kk) (yp rfl (.fA rfl Jx) (yd rfl rfl mr isAgg49 sizeOf49 Jo ?_))))))); clear h
 refine ym rfl rfl (yp rfl (.indexAddr rfl rfl (Gn _ _ _ _ _ (by exact ixd))) ?_)
 refine Zv rfl kk rfl mm (cells_lt (k := 5) dd (fun _ => rfl) vU0 6 (by exact ixd)) isAgg41 sizeOf41 (Zq (k := 5) (fun _ => rfl) ((fun _ => rfl)) vU0 0 6 (by exact ixd)) (.inl rfl) dd ?_
 refine ym rfl rfl (ym rfl rfl (yp rfl (.indexAddr rfl rfl (Zlj _ _ _ _ _ (by exact ixd))) (yd rfl rfl mm isAgg9 sizeOf9 ((congrArg _ (Nat.zero_add _)).trans (Zy (enc := encs) (l := ([⟨#[49]⟩, ⟨#[45, 49, 47, 50]⟩, ⟨#[45, 49, 47, 50]⟩, ⟨#[45, 49, 47, 50]⟩, ⟨#[49, 47, 50]⟩, ⟨#[48]⟩, ⟨#[45, 49, 47, 50]⟩, ⟨#[48]⟩, ⟨#[49, 47, 50]⟩])) (⟨#[]⟩) (by exact ixd))) ?_)))
 refine yv [_] rfl rfl call38 (C_T1) (yp rfl (Pure1.cast (v' := .bool false) (.binOp rfl rfl (fun _ => Va _ _ _ _ _)) cgd) (ym rfl rfl (yq rfl rfl rfl (.fA rfl Jx) (yg rfl rfl rfl rfl mr isAgg49 sizeOf49 Jo ?_))))
 refine yq rfl rfl rfl (.move rfl) (yq rfl rfl rfl (.indexAddr rfl rfl (Gn _ _ _ _ _ (by exact ixd))) ?_)
 refine Qk rfl rfl rfl kk rfl mm (cells_lt (k := 5) dd (fun _ => rfl) vU1 6 (by exact ixd)) isAgg41 sizeOf41 (Zq (k := 5) (fun _ => rfl) ((fun _ => rfl)) vU1 0 6 (by exact ixd)) (.inl rfl) dd ?_
 refine yq rfl rfl rfl (.move rfl) (yq rfl rfl rfl (Pure1.cast (v' := .int .i64 2) (.binOp rfl rfl (fun _ => Xp _ _ _ _ _ dd)) cgd) (yq rfl rfl rfl (Pure1.cast (v' := .bool false) (.eql rfl rfl) cgd) ?_))
 refine Jt rfl rfl rfl kk (vs := [_]) rfl call38 (Zti) dd ?_
 refine yq rfl rfl rfl (Pure1.cast (v' := .bool false) (.binOp rfl rfl (fun _ => Xn _ _ _ _ _)) cgd) (yq rfl rfl rfl (Pure1.cast (v' := .bool false) (.binOp rfl rfl (fun _ => Zac _ underlying4 _ _ _ _)) cgd) (yp rfl (.pickF rfl rfl) (ym rfl rfl (yq rfl rfl rfl (.move rfl) (yq rfl rfl rfl (Pure1.cast (v' := .int .i64 2) (.binOp rfl rfl (fun _ => Xp _ _ _ _ _ dd)) cgd) (yq rfl rfl rfl (Pure1.cast (v' := .bool true) (.neq rfl rfl) cgd) (yq rfl rfl rfl (.move rfl) (yq rfl rfl rfl (.fA rfl Jx) (yg rfl rfl rfl rfl mr isAgg49 sizeOf49 Jo ?_)))))))))
 refine yq rfl rfl rfl (.move rfl) (yq rfl rfl rfl (.indexAddr rfl rfl (Gn _ _ _ _ _ (by exact ixd))) ?_)
 refine Qk rfl rfl rfl kk rfl mm (cells_lt (k := 5) dd (fun _ => rfl) vU1 6 (by exact ixd)) isAgg41 sizeOf41 (Zq (k := 5) (fun _ => rfl) ((fun _ => rfl)) vU1 0 6 (by exact ixd)) (.inl rfl) dd ?_
 refine Jt rfl rfl rfl kk (vs := [_]) rfl call38 (Zti) dd ?_
 refine yq rfl rfl rfl (Pure1.cast (v' := .bool false) (.binOp rfl rfl (fun _ => Va _ _ _ _ _)) cgd) (yq rfl rfl rfl (.pickT rfl rfl) (yp rfl (.pickF rfl rfl) (yn ?_))); intro a w h
 refine cW ?_
 refine Zf h rfl ?_
 refine gC h (zk (zr (zm rfl (zp (Pure1.cast (v' := .int .i64 7) (.add rfl rfl) cgd) (za rfl (zn ?_)))))); clear h; intro a w h
 replace h : St 174 S w0 [(0, .bool false), (1, _), (3, _), (5, _), (7, _), (9, _), (10, .int .i64 7), (94, .bool true), (134, .bool false)] _ _ a w := h.sub sA
 refine Ze ?_
 refine gC h (zs (zS (zm rfl (zp (Pure1.cast (v' := .bool true) (.lss rfl rfl) cgd) (zn ?_))))); clear h; intro a w h
 refine cW ?_
 refine Zi h rfl ?_
 refine gC h (zk (zs (zb (zs (yD Za [0, 1, 2, 3, 4, 6, 7, 8, 9, 5, 10, 11, 12, 13, 14, 15, 16, 19, 20, 21, 17, 18, 22, 23, 24, 25, 26, 27, 28, 29, 30, 31, 32, 33, 34, 35, 36, 37] (Zd kk) (yp rfl (.fA rfl Jx) (yd rfl rfl mr isAgg49 sizeOf49 Jo ?_))))))); clear h
 refine ym rfl rfl (yp rfl (.indexAddr rfl rfl (Gn _ _ _ _ _ (by exact ixd))) ?_)
 refine Zv rfl kk rfl mm (cells_lt (k := 5) dd (fun _ => rfl) vU0 7 (by exact ixd)) isAgg41 sizeOf41 (Zq (k := 5) (fun _ => rfl) ((fun _ => rfl)) vU0 0 7 (by exact ixd)) (.inl rfl) dd ?_
 refine ym rfl rfl (ym rfl rfl (yp rfl (.indexAddr rfl rfl (Zlj _ _ _ _ _ (by exact ixd))) (yd rfl rfl mm isAgg9 sizeOf9 ((congrArg _ (Nat.zero_add _)).trans (Zy (enc := encs) (l := ([⟨#[49]⟩, ⟨#[45, 49, 47, 50]⟩, ⟨#[45, 49, 47, 50]⟩, ⟨#[45, 49, 47, 50]⟩, ⟨#[49, 47, 50]⟩, ⟨#[48]⟩, ⟨#[45, 49, 47, 50]⟩, ⟨#[48]⟩, ⟨#[49, 47, 50]⟩])) (⟨#[]⟩) (by exact ixd))) ?_)))
 refine yv [_] rfl rfl call38 (C_T3) (yp rfl (Pure1.cast (v' := .bool false) (.binOp rfl rfl (fun _ => Va _ _ _ _ _)) cgd) (ym rfl rfl (yq rfl rfl rfl (.fA rfl Jx) (yg rfl rfl rfl rfl mr isAgg49 sizeOf49 Jo ?_))))
 refine yq rfl rfl rfl (.move rfl) (yq rfl rfl rfl (.indexAddr rfl rfl (Gn _ _ _ _ _ (by exact ixd))) ?_)
 refine Qk rfl rfl rfl kk rfl mm (cells_lt (k := 5) dd (fun _ => rfl) vU1 7 (by exact ixd)) isAgg41 sizeOf41 (Zq (k := 5) (fun _ => rfl) ((fun _ => rfl)) vU1 0 7 (by exact ixd)) (.inl rfl) dd ?_
 refine yq rfl rfl rfl (.move rfl) (yq rfl rfl rfl (Pure1.cast (v' := .int .i64 3) (.binOp rfl rfl (fun _ => Xp _ _ _ _ _ dd)) cgd) (yq rfl rfl rfl (Pure1.cast (v' := .bool false) (.eql rfl rfl) cgd) ?_))
 refine Jt rfl rfl rfl kk (vs := [_]) rfl call38 (Zti) dd ?_
 refine yq rfl rfl rfl (Pure1.cast (v' := .bool false) (.binOp rfl rfl (fun _ => Xn _ _ _ _ _)) cgd) (yq rfl rfl rfl (Pure1.cast (v' := .bool false) (.binOp rfl rfl (fun _ => Zac _ underlying4 _ _ _ _)) cgd) (yp rfl (.pickF rfl rfl) (ym rfl rfl (yq rfl rfl rfl (.move rfl) (yq rfl rfl rfl (Pure1.cast (v' := .int .i64 3) (.binOp rfl rfl (fun _ => Xp _ _ _ _ _ dd)) cgd) (yq rfl rfl rfl (Pure1.cast (v' := .bool true) (.neq rfl rfl) cgd) (yq rfl rfl rfl (.move rfl) (yq rfl rfl rfl (.fA rfl Jx) (yg rfl rfl rfl rfl mr isAgg49 sizeOf49 Jo ?_)))))))))
 refine yq rfl rfl rfl (.move rfl) (yq rfl rfl rfl (.indexAddr rfl rfl (Gn _ _ _ _ _ (by exact ixd))) ?_)
 refine Qk rfl rfl rfl kk rfl mm (cells_lt (k := 5) dd (fun _ => rfl) vU1 7 (by exact ixd)) isAgg41 sizeOf41 (Zq (k := 5) (fun _ => rfl) ((fun _ => rfl)) vU1 0 7 (by exact ixd)) (.inl rfl) dd ?_
 refine Jt rfl rfl rfl kk (vs := [_]) rfl call38 (Zti) dd ?_
 refine yq rfl rfl rfl (Pure1.cast (v' := .bool false) (.binOp rfl rfl (fun _ => Va _ _ _ _ _)) cgd) (yq rfl rfl rfl (.pickT rfl rfl) (yp rfl (.pickF rfl rfl) (yn ?_))); intro a w h
 refine cW ?_
 refine Zf h rfl ?_
 refine gC h (zk (zr (zm rfl (zp (Pure1.cast (v' := .int .i64 8) (.add rfl rfl) cgd) (za rfl (zn ?_)))))); clear h; intro a w h
 replace h : St 174 S w0 [(0, .bool false), (1, _), (3, _), (5, _), (7, _), (9, _), (10, .int .i64 8), (94, .bool true), (134, .bool false)] _ _ a w := h.sub sA
 refine Ze ?_
 refine gC h (zs (zS (zm rfl (zp (Pure1.cast (v' := .bool true) (.lss rfl rfl) cgd) (zn ?_))))); clear h; intro a w h
 refine cW ?_
 refine Zi h rfl ?_
 refine gC h (zk (zs (zb (zs (yD Za [0, 1, 2, 3, 4, 6, 7, 8, 9, 5, 10, 11, 12, 13, 14, 15, 16, 19, 20, 21, 17, 18, 22, 23, 24, 25, 26, 27, 28, 29, 30, 31, 32, 33, 34, 35, 36, 37] (Zd kk) (yp rfl (.fA rfl Jx) (yd rfl rfl mr isAgg49 sizeOf49 Jo ?_))))))); clear h
 refine ym rfl rfl (yp rfl (.indexAddr rfl rfl (Gn _ _ _ _ _ (by exact ixd))) ?_)
 refine Zv rfl kk rfl mm (cells_lt (k := 5) dd (fun _ => rfl) vU0 8 (by exact ixd)) isAgg41 sizeOf41 (Zq (k := 5) (fun _ => rfl) ((fun _ => rfl)) vU0 0 8 (by exact ixd)) (.inl rfl) dd ?_
 refine ym rfl rfl (ym rfl rfl (yp rfl (.indexAddr rfl rfl (Zlj _ _ _ _ _ (by exact ixd))) (yd rfl rfl mm isAgg9 sizeOf9 ((congrArg _ (Nat.zero_add _)).trans (Zy (enc := encs) (l := ([⟨#[49]⟩, ⟨#[45, 49, 47, 50]⟩, ⟨#[45, 49, 47, 50]⟩, ⟨#[45, 49, 47, 50]⟩, ⟨#[49, 47, 50]⟩, ⟨#[48]⟩, ⟨#[45, 49, 47, 50]⟩, ⟨#[48]⟩, ⟨#[49, 47, 50]⟩])) (⟨#[]⟩) (by exact ixd))) ?_)))
 refine yv [_] rfl rfl call38 (C_T2) (yp rfl (Pure1.cast (v' := .bool false) (.binOp rfl rfl (fun _ => Va _ _ _ _ _)) cgd) (ym rfl rfl (yq rfl rfl rfl (.fA rfl Jx) (yg rfl rfl rfl rfl mr isAgg49 sizeOf49 Jo ?_))))
 refine yq rfl rfl rfl (.move rfl) (yq rfl rfl rfl (.indexAddr rfl rfl (Gn _ _ _ _ _ (by exact ixd))) ?_)
 refine Qk rfl rfl rfl kk rfl mm (cells_lt (k := 5) dd (fun _ => rfl) vU1 8 (by exact ixd)) isAgg41 sizeOf41 (Zq (k := 5) (fun _ => rfl) ((fun _ => rfl)) vU1 0 8 (by exact ixd)) (.inl rfl) dd ?_
 refine yq rfl rfl rfl (.move rfl) (yq rfl rfl rfl (Pure1.cast (v' := .int .i64 0) (.binOp rfl rfl (fun _ => Xp _ _ _ _ _ dd)) cgd) (yq rfl rfl rfl (Pure1.cast (v' := .bool true) (.eql rfl rfl) cgd) ?_))
 refine Jt rfl rfl rfl kk (vs := [_]) rfl call38 (C_T4) dd ?_
 refine yq rfl rfl rfl (Pure1.cast (v' := .bool true) (.binOp rfl rfl (fun _ => Xn _ _ _ _ _)) cgd) (yq rfl rfl rfl (Pure1.cast (v' := .bool false) (.binOp rfl rfl (fun _ => Zac _ underlying4 _ _ _ _)) cgd) (yp rfl (.pickF rfl rfl) (ym rfl rfl (yq rfl rfl rfl (.move rfl) (yq rfl rfl rfl (Pure1.cast (v' := .int .i64 0) (.binOp rfl rfl (fun _ => Xp _ _ _ _ _ dd)) cgd) (yq rfl rfl rfl (Pure1.cast (v' := .bool false) (.neq rfl rfl) cgd) (yq rfl rfl rfl (.move rfl) (yo 125 rfl rfl rfl rfl (yo 125 rfl rfl rfl rfl (yo 125 rfl rfl rfl rfl (yo 125 rfl rfl rfl rfl (yo 125 rfl rfl rfl rfl (yo 125 rfl rfl rfl rfl (yo 125 rfl rfl rfl rfl (yq rfl rfl rfl (.pickF rfl rfl) (yp rfl (.pickF rfl rfl) (yn ?_))))))))))))))))); intro a w h
 refine cW ?_
 refine Zf h rfl ?_
 refine gC h (zk (zr (zm rfl (zp (Pure1.cast (v' := .int .i64 9) (.add rfl rfl) cgd) (za rfl (zn ?_)))))); clear h; intro a w h
 replace h : St 174 S w0 [(0, .bool false), (1, _), (3, _), (5, _), (7, _), (9, _), (10, .int .i64 9), (94, .bool true), (134, .bool false)] _ _ a w := h.sub sA
 refine Ze ?_
 refine gC h (zs (zS (zm rfl (zp (Pure1.cast (v' := .bool false) (.lss rfl rfl) cgd) (zn ?_))))); clear h; intro a w h
 refine cW ?_
 refine Zf h rfl ?_
 refine gC h (ze (zs (yD Za [0, 1, 2, 3, 4, 5, 6, 7, 8, 9, 10, 11, 12, 13, 14, 15, 16, 17, 18, 19, 20, 21, 22, 23, 24, 25, 26, 27, 28, 29, 30, 31, 32, 33, 34, 35, 36, 37, 38, 39] (Zd kk) (ym rfl rfl (yp rfl (.indexAddr rfl rfl (Zbw _ _ _ _ 0 (by exact ixd))) ?_))))); clear h
 refine Zv rfl kk rfl mm (cells_lt (k := 5) dd (fun _ => rfl) vU2 0 (by exact ixd)) isAgg41 sizeOf41 (Zq (k := 5) (fun _ => rfl) ((fun _ => rfl)) vU2 0 0 (by exact ixd)) (.inl rfl) dd ?_
 refine yv [_] rfl rfl call38 (C_T6) (yp rfl (Pure1.cast (v' := .bool true) (.binOp rfl rfl (fun _ => Xn _ _ _ _ _)) cgd) (ym rfl rfl (yq rfl rfl rfl (.move rfl) (yq rfl rfl rfl (.indexAddr rfl rfl (Zbw _ _ _ _ 1 (by exact ixd))) ?_))))
 refine Qk rfl rfl rfl kk rfl mm (cells_lt (k := 5) dd (fun _ => rfl) vU2 1 (by exact ixd)) isAgg41 sizeOf41 (Zq (k := 5) (fun _ => rfl) ((fun _ => rfl)) vU2 0 1 (by exact ixd)) (.inl rfl) dd ?_
 refine yq rfl rfl rfl (.move rfl) (yq rfl rfl rfl (.indexAddr rfl rfl (Zbw _ _ _ _ 0 (by exact ixd))) ?_)
 refine Qk rfl rfl rfl kk rfl mm (cells_lt (k := 5) dd (fun _ => rfl) vU2 0 (by exact ixd)) isAgg41 sizeOf41 (Zq (k := 5) (fun _ => rfl) ((fun _ => rfl)) vU2 0 0 (by exact ixd)) (.inl rfl) dd ?_
 refine yq rfl rfl rfl (Pure1.cast (v' := .bool true) (.binOp rfl rfl (fun _ => Zh8 _ _ r6 r6 _)) ss) (yp rfl (.pickT rfl rfl) (ym rfl rfl (yq rfl rfl rfl (.move rfl) (yq rfl rfl rfl (.indexAddr rfl rfl (Zbw _ _ _ _ 2 (by exact ixd))) ?_))))
 refine Qk rfl rfl rfl kk rfl mm (cells_lt (k := 5) dd (fun _ => rfl) vU2 2 (by exact ixd)) isAgg41 sizeOf41 (Zq (k := 5) (fun _ => rfl) ((fun _ => rfl)) vU2 0 2 (by exact ixd)) (.inl rfl) dd ?_
 refine yq rfl rfl rfl (.move rfl) (yq rfl rfl rfl (.indexAddr rfl rfl (Zbw _ _ _ _ 0 (by exact ixd))) ?_)
 refine Qk rfl rfl rfl kk rfl mm (cells_lt (k := 5) dd (fun _ => rfl) vU2 0 (by exact ixd)) isAgg41 sizeOf41 (Zq (k := 5) (fun _ => rfl) ((fun _ => rfl)) vU2 0 0 (by exact ixd)) (.inl rfl) dd ?_
 refine yq rfl rfl rfl (Pure1.cast (v' := .bool true) (.binOp rfl rfl (fun _ => Zh8 _ _ r6 r6 _)) ss) (yp rfl (.pickT rfl rfl) (ym rfl rfl (yq rfl rfl rfl (.move rfl) (yq rfl rfl rfl (.indexAddr rfl rfl (Zbw _ _ _ _ 0 (by exact ixd))) ?_))))
 refine Qk rfl rfl rfl kk rfl mm (cells_lt (k := 5) dd (fun _ => rfl) vU3 0 (by exact ixd)) isAgg41 sizeOf41 (Zq (k := 5) (fun _ => rfl) ((fun _ => rfl)) vU3 0 0 (by exact ixd)) (.inl rfl) dd ?_
 refine Jt rfl rfl rfl kk (vs := [_]) rfl call38 (C_T2) dd ?_
 refine yq rfl rfl rfl (Pure1.cast (v' := .bool true) (.binOp rfl rfl (fun _ => Xn _ _ _ _ _)) cgd) (yp rfl (.pickT rfl rfl) (ym rfl rfl (yq rfl rfl rfl (.move rfl) (yq rfl rfl rfl (.indexAddr rfl rfl (Zbw _ _ _ _ 1 (by exact ixd))) ?_))))
 refine Qk rfl rfl rfl kk rfl mm (cells_lt (k := 5) dd (fun _ => rfl) vU3 1 (by exact ixd)) isAgg41 sizeOf41 (Zq (k := 5) (fun _ => rfl) ((fun _ => rfl)) vU3 0 1 (by exact ixd)) (.inl rfl) dd ?_
 refine yq rfl rfl rfl (.move rfl) (yq rfl rfl rfl (.indexAddr rfl rfl (Zbw _ _ _ _ 0 (by exact ixd))) ?_)
 refine Qk rfl rfl rfl kk rfl mm (cells_lt (k := 5) dd (fun _ => rfl) vU3 0 (by exact ixd)) isAgg41 sizeOf41 (Zq (k := 5) (fun _ => rfl) ((fun _ => rfl)) vU3 0 0 (by exact ixd)) (.inl rfl) dd ?_
 refine yq rfl rfl rfl (Pure1.cast (v' := .bool true) (.binOp rfl rfl (fun _ => Zh8 _ _ r2 r2 _)) ss) (yp rfl (.pickT rfl rfl) (yp rfl (.assign rfl) (yn (zt ?_)))); intro a w h
 exact Zdj h
end
section
theorem Zyx {x0 x1 x2 x3 x4 x5 x6 x7 x8 : Rat} {K : Nat} (h0 : Zu x0 ≤ K) (h1 : Zu x1 ≤ K) (h2 : Zu x2 ≤ K) (h3 : Zu x3 ≤ K) (h4 : Zu x4 ≤ K) (h5 : Zu x5 ≤ K) (h6 : Zu x6 ≤ K) (h7 : Zu x7 ≤ K) (h8 : Zu x8 ≤ K) :
  Zu (x0 + x1 + x2 + x3 + x4 + x5 + x6 + x7 + x8) ≤ 9 * K + 8 := by
 have a1 := Qo x0 x1
 have a2 := Qo (x0 + x1) x2
 have a3 := Qo (x0 + x1 + x2) x3
 have a4 := Qo (x0 + x1 + x2 + x3) x4
 have a5 := Qo (x0 + x1 + x2 + x3 + x4) x5
 have a6 := Qo (x0 + x1 + x2 + x3 + x4 + x5) x6
 have a7 := Qo (x0 + x1 + x2 + x3 + x4 + x5 + x6) x7
 have a8 := Qo (x0 + x1 + x2 + x3 + x4 + x5 + x6 + x7) x8
 omega
theorem Zqp {o : Nat} (ho : o = 1 ∨ o = 2) {k : Rat × Rat × Rat} (h1 : Zu k.1 ≤ 4) (h2 : Zu k.2.1 ≤ 4) (h3 : Zu k.2.2 ≤ 4) {a b c : Pt} {K : Nat} (ha : PtK K a) (hb : PtK K b) (hc : PtK K c) (hK : K ≤ 13) {n m : Nat} (hn : n < Jj o) (hm : m < Jj o) :
  Zu (stE o (byL k (Zw a b c) (Zb a b c)) n m) ≤ 10000 := by
 rw [Qak]
 obtain ⟨g0, g1, g2⟩ := Zgi ha hb hc
 have hA := Za7 a b c
 obtain ⟨ha1, ha2⟩ := ha
 obtain ⟨hb1, hb2⟩ := hb
 obtain ⟨hc1, hc2⟩ := hc
 have hA' : Zu (Zw a b c) ≤ 113 := oo
 have ht : ∀ i, i < 3 → ∀ k, k < 3 → Zu (Zl o n m i k) ≤ 4 := fun i hi k hk => Zel (Zjv o ho n hn m hm i hi k hk)
 have hp : ∀ {t : Rat} {g h : Pt}, Zu t ≤ 4 → PtK (10 * K + 6) g → PtK (10 * K + 6) h → Zu (t * byP k (Zw a b c) g h) ≤ 1000 := fun {t g h} q1 q2 q3 => by
  have e1 := Zm t (byP k (Zw a b c) g h)
  have e2 := Zqt k (Zw a b c) g h h1 h2 h3 hA' q2 q3
  omega
 exact Nat.le_trans (Zyx (K := 1000) (hp (ht 0 dd 0 dd) g0 g0) (hp (ht 0 dd 1 dd) g0 g1) (hp (ht 0 dd 2 dd) g0 g2) (hp (ht 1 dd 0 dd) g1 g0) (hp (ht 1 dd 1 dd) g1 g1) (hp (ht 1 dd 2 dd) g1 g2) (hp (ht 2 dd 0 dd) g2 g0) (hp (ht 2 dd 1 dd) g2 g1) (hp (ht 2 dd 2 dd) g2 g2)) dd
theorem Zqr {o : Nat} (ho : o = 1 ∨ o = 2) {a b c : Pt} {K : Nat} (ha : PtK K a) (hb : PtK K b) (hc : PtK K c) (hK : K ≤ 13) {n m : Nat} (hn : n < Jj o) (hm : m < Jj o) : Zu (Zch o n m * Zw a b c) ≤ 10000 := by
 have h1 := Zm (Zch o n m) (Zw a b c)
 have h2 := Zel (Zkf o ho n hn m hm)
 have hA := Za7 a b c
 obtain ⟨ha1, ha2⟩ := ha
 obtain ⟨hb1, hb2⟩ := hb
 obtain ⟨hc1, hc2⟩ := hc
 omega
theorem Znz (K : Nat) (k : Rat × Rat × Rat) (pa pb pc : Pt) (ha : PtK K pa) (hb : PtK K pb) (hc : PtK K pc) (hK : K ≤ 1000) (h1 : Zu k.1 ≤ 4) (h2 : Zu k.2.1 ≤ 4) (h3 : Zu k.2.2 ≤ 4) (hT : 0 < (twP pa pb pc).num.sign) : Ctr Tryz.prog 10 [.int .i64 1, Ze3 k, Jb pa pb pc] [SideF] (fun v Ψ => ∃ ad', v = .tuple #[.agg #[.int .i64 3, .int .i64 3, .slice ad' 9 9], .int .i64 0] ∧ Ψ = [Row ad' (cellsOf Zr (Za5 (fun n m => stE 1 (byL k (Zw pa pb pc) (Zb pa pb pc)) n m) 3 3))]) :=
 Zpm 1 K 4 k (Or.inl rfl) pa pb pc ha hb hc hK dd h1 h2 h3 hT
theorem Zrk (K : Nat) (pa pb pc : Pt) (ha : PtK K pa) (hb : PtK K pb) (hc : PtK K pc) (hK : K ≤ 1000) (hT : 0 < (twP pa pb pc).num.sign) : Ctr Tryz.prog 12 [.int .i64 1, Jb pa pb pc] [SideF] (fun v Ψ => ∃ ad', v = .tuple #[.agg #[.int .i64 3, .int .i64 3, .slice ad' 9 9], .int .i64 0] ∧ Ψ = [Row ad' (cellsOf Zr (Za5 (fun n m => Zch 1 n m * Zw pa pb pc) 3 3))]) :=
 Zxd 1 K (Or.inl rfl) pa pb pc ha hb hc hK hT
theorem Zny (K : Nat) (k : Rat × Rat × Rat) (pa pb pc : Pt) (ha : PtK K pa) (hb : PtK K pb) (hc : PtK K pc) (hK : K ≤ 1000) (h1 : Zu k.1 ≤ 4) (h2 : Zu k.2.1 ≤ 4) (h3 : Zu k.2.2 ≤ 4) (hT : 0 < (twP pa pb pc).num.sign) : Ctr Tryz.prog 10 [.int .i64 2, Ze3 k, Jb pa pb pc] [SideF] (fun v Ψ => ∃ ad', v = .tuple #[.agg #[.int .i64 6, .int .i64 6, .slice ad' 36 36], .int .i64 0] ∧ Ψ = [Row ad' (cellsOf Zr (Za5 (fun n m => stE 2 (byL k (Zw pa pb pc) (Zb pa pb pc)) n m) 6 6))]) :=
 Zpm 2 K 4 k (Or.inr rfl) pa pb pc ha hb hc hK dd h1 h2 h3 hT
theorem Zrj (K : Nat) (pa pb pc : Pt) (ha : PtK K pa) (hb : PtK K pb) (hc : PtK K pc) (hK : K ≤ 1000) (hT : 0 < (twP pa pb pc).num.sign) : Ctr Tryz.prog 12 [.int .i64 2, Jb pa pb pc] [SideF] (fun v Ψ => ∃ ad', v = .tuple #[.agg #[.int .i64 6, .int .i64 6, .slice ad' 36 36], .int .i64 0] ∧ Ψ = [Row ad' (cellsOf Zr (Za5 (fun n m => Zch 2 n m * Zw pa pb pc) 6 6))]) :=
 Zxd 2 K (Or.inr rfl) pa pb pc ha hb hc hK hT
end
end Go.Proofs.YthcjdeklpegceaaGreatDoor
