/- Walks of functions. By an AI agent. -/
import Derived.Test.YthcjdeklpegceaaGreatDoorLocl
set_option linter.unusedVariables false
set_option linter.unusedSimpArgs false
set_option maxRecDepth 4000
namespace Go.Proofs.YthcjdeklpegceaaGreatDoor
open Go Go.Proofs Go.Fx Tryz
attribute [local irreducible] Oper.wp Code.wp wpList Fx.Head wpOp Qi
section
theorem Qek {b off : Nat} (w : World) : (Instr.fieldAt 27 (.pointer (some ⟨b, off, none⟩)) 0).run Tryz.prog w = .ok (.pointer (some ⟨b, off + 0, none⟩)) w := by
 simp [go_sem]
theorem Qak {c0 c1 c2 c3 : Value} : Qf true 2 #[c0, c1, c2, c3] 0 = some (.agg #[c0, c1]) := rfl
theorem Qej {b off : Nat} (w : World) : (Instr.fieldAt 27 (.pointer (some ⟨b, off, none⟩)) 1).run Tryz.prog w = .ok (.pointer (some ⟨b, off + 2, none⟩)) w := by
 simp [go_sem]
theorem Qaj {c0 c1 c2 c3 : Value} : Qf true 2 #[c0, c1, c2, c3] 2 = some (.agg #[c2, c3]) := rfl
theorem Qbd (b off : Nat) (w : World) : (Instr.indexAt 29 (.pointer (some ⟨b, off, none⟩)) (.int .i64 0)).run Tryz.prog w = .ok (.pointer (some ⟨b, off + 0, none⟩)) w := by
 simp [go_sem, Instr.indexAt]
theorem Zww {c0 c1 c2 c3 c4 c5 c6 c7 c8 c9 c10 c11 : Value} : Qf true 4 #[c0, c1, c2, c3, c4, c5, c6, c7, c8, c9, c10, c11] 0 = some (.agg #[c0, c1, c2, c3]) := rfl
theorem Qbc (b off : Nat) (w : World) : (Instr.indexAt 29 (.pointer (some ⟨b, off, none⟩)) (.int .i64 1)).run Tryz.prog w = .ok (.pointer (some ⟨b, off + 4, none⟩)) w := by
 simp [go_sem, Instr.indexAt]
theorem Zwv {c0 c1 c2 c3 c4 c5 c6 c7 c8 c9 c10 c11 : Value} : Qf true 4 #[c0, c1, c2, c3, c4, c5, c6, c7, c8, c9, c10, c11] 4 = some (.agg #[c4, c5, c6, c7]) := rfl
theorem Qbb (b off : Nat) (w : World) : (Instr.indexAt 29 (.pointer (some ⟨b, off, none⟩)) (.int .i64 2)).run Tryz.prog w = .ok (.pointer (some ⟨b, off + 8, none⟩)) w := by
 simp [go_sem, Instr.indexAt]
theorem Zws {c0 c1 c2 c3 c4 c5 c6 c7 c8 c9 c10 c11 : Value} : Qf true 4 #[c0, c1, c2, c3, c4, c5, c6, c7, c8, c9, c10, c11] 8 = some (.agg #[c8, c9, c10, c11]) := rfl
theorem Zpu {c0 c1 c2 c3 c4 c5 c6 c7 c8 c9 c10 c11 c12 c13 c14 c15 c16 c17 c18 c19 c20 c21 c22 c23 c24 c25 c26 c27 c28 c29 v0 v1 v2 v3 v4 v5 v6 v7 v8 v9 : Value} : Qi #[c0, c1, c2, c3, c4, c5, c6, c7, c8, c9, c10, c11, c12, c13, c14, c15, c16, c17, c18, c19, c20, c21, c22, c23, c24, c25, c26, c27, c28, c29] 10 [v0, v1, v2, v3, v4, v5, v6, v7, v8, v9] = #[c0, c1, c2, c3, c4, c5, c6, c7, c8, c9, v0, v1, v2, v3, v4, v5, v6, v7, v8, v9, c20, c21, c22, c23, c24, c25, c26, c27, c28, c29] := by kernel_rfl
theorem Zpt {c0 c1 c2 c3 c4 c5 c6 c7 c8 c9 c10 c11 c12 c13 c14 c15 c16 c17 c18 c19 c20 c21 c22 c23 c24 c25 c26 c27 c28 c29 v0 v1 v2 v3 v4 v5 v6 v7 v8 v9 : Value} : Qi #[c0, c1, c2, c3, c4, c5, c6, c7, c8, c9, c10, c11, c12, c13, c14, c15, c16, c17, c18, c19, c20, c21, c22, c23, c24, c25, c26, c27, c28, c29] 20 [v0, v1, v2, v3, v4, v5, v6, v7, v8, v9] = #[c0, c1, c2, c3, c4, c5, c6, c7, c8, c9, c10, c11, c12, c13, c14, c15, c16, c17, c18, c19, v0, v1, v2, v3, v4, v5, v6, v7, v8, v9] := by kernel_rfl
theorem Zmt (b off : Nat) (w : World) : (Instr.indexAt 25 (.pointer (some ⟨b, off, none⟩)) (.int .i64 0)).run Tryz.prog w = .ok (.pointer (some ⟨b, off + 0, none⟩)) w := by
 simp [go_sem, Instr.indexAt]
theorem Zl8 {c0 c1 c2 c3 c4 c5 : Value} : Qf true 2 #[c0, c1, c2, c3, c4, c5] 0 = some (.agg #[c0, c1]) := rfl
theorem Zms (b off : Nat) (w : World) : (Instr.indexAt 25 (.pointer (some ⟨b, off, none⟩)) (.int .i64 1)).run Tryz.prog w = .ok (.pointer (some ⟨b, off + 2, none⟩)) w := by
 simp [go_sem, Instr.indexAt]
theorem Zl7 {c0 c1 c2 c3 c4 c5 : Value} : Qf true 2 #[c0, c1, c2, c3, c4, c5] 2 = some (.agg #[c2, c3]) := rfl
theorem Zmr (b off : Nat) (w : World) : (Instr.indexAt 25 (.pointer (some ⟨b, off, none⟩)) (.int .i64 2)).run Tryz.prog w = .ok (.pointer (some ⟨b, off + 4, none⟩)) w := by
 simp [go_sem, Instr.indexAt]
theorem Zl6 {c0 c1 c2 c3 c4 c5 : Value} : Qf true 2 #[c0, c1, c2, c3, c4, c5] 4 = some (.agg #[c4, c5]) := rfl
theorem Zsr (b off : Nat) (w : World) : (Instr.indexAt 30 (.pointer (some ⟨b, off, none⟩)) (.int .i64 0)).run Tryz.prog w = .ok (.pointer (some ⟨b, off + 0, none⟩)) w := by
 simp [go_sem, Instr.indexAt]
theorem Zn6 {c0 c1 c2 c3 c4 c5 c6 c7 c8 c9 c10 c11 : Value} : Qf true 2 #[c0, c1, c2, c3, c4, c5, c6, c7, c8, c9, c10, c11] 0 = some (.agg #[c0, c1]) := rfl
theorem Vp (x0_0 : Value) (x0_1 : Value) (x0_2 : Value) (x0_3 : Value) (x0_4 : Value) (w : World) : (Instr.buildSlice 50 1 [(0, .agg #[x0_0, x0_1, x0_2, x0_3, x0_4])].toArray).run Tryz.prog w = .ok (.slice (some ⟨w.heap.size, 0, none⟩) 1 1) (w.alloc (.cells #[x0_0, x0_1, x0_2, x0_3, x0_4] 41 (0, 0))) := by
 simp [go_sem]
theorem Zsq (b off : Nat) (w : World) : (Instr.indexAt 30 (.pointer (some ⟨b, off, none⟩)) (.int .i64 1)).run Tryz.prog w = .ok (.pointer (some ⟨b, off + 2, none⟩)) w := by
 simp [go_sem, Instr.indexAt]
theorem Zn5 {c0 c1 c2 c3 c4 c5 c6 c7 c8 c9 c10 c11 : Value} : Qf true 2 #[c0, c1, c2, c3, c4, c5, c6, c7, c8, c9, c10, c11] 2 = some (.agg #[c2, c3]) := rfl
theorem Zsp (b off : Nat) (w : World) : (Instr.indexAt 30 (.pointer (some ⟨b, off, none⟩)) (.int .i64 2)).run Tryz.prog w = .ok (.pointer (some ⟨b, off + 4, none⟩)) w := by
 simp [go_sem, Instr.indexAt]
theorem Zn4 {c0 c1 c2 c3 c4 c5 c6 c7 c8 c9 c10 c11 : Value} : Qf true 2 #[c0, c1, c2, c3, c4, c5, c6, c7, c8, c9, c10, c11] 4 = some (.agg #[c4, c5]) := rfl
theorem Qba (b off : Nat) (w : World) : (Instr.indexAt 30 (.pointer (some ⟨b, off, none⟩)) (.int .i64 3)).run Tryz.prog w = .ok (.pointer (some ⟨b, off + 6, none⟩)) w := by
 simp [go_sem, Instr.indexAt]
theorem Zwu {c0 c1 c2 c3 c4 c5 c6 c7 c8 c9 c10 c11 : Value} : Qf true 2 #[c0, c1, c2, c3, c4, c5, c6, c7, c8, c9, c10, c11] 6 = some (.agg #[c6, c7]) := rfl
theorem Qa9 (b off : Nat) (w : World) : (Instr.indexAt 30 (.pointer (some ⟨b, off, none⟩)) (.int .i64 4)).run Tryz.prog w = .ok (.pointer (some ⟨b, off + 8, none⟩)) w := by
 simp [go_sem, Instr.indexAt]
theorem Zwt {c0 c1 c2 c3 c4 c5 c6 c7 c8 c9 c10 c11 : Value} : Qf true 2 #[c0, c1, c2, c3, c4, c5, c6, c7, c8, c9, c10, c11] 8 = some (.agg #[c8, c9]) := rfl
theorem Qa8 (b off : Nat) (w : World) : (Instr.indexAt 30 (.pointer (some ⟨b, off, none⟩)) (.int .i64 5)).run Tryz.prog w = .ok (.pointer (some ⟨b, off + 10, none⟩)) w := by
 simp [go_sem, Instr.indexAt]
theorem Zuk {c0 c1 c2 c3 c4 c5 c6 c7 c8 c9 c10 c11 : Value} : Qf true 2 #[c0, c1, c2, c3, c4, c5, c6, c7, c8, c9, c10, c11] 10 = some (.agg #[c10, c11]) := rfl
theorem Zgq (b off n c j : Nat) (h : j < n) (w : World) : (Instr.indexAt 52 (.slice (some ⟨b, off, none⟩) n c) (.int .i64 (j : Int))).run Tryz.prog w = .ok (.pointer (some ⟨b, off + j, none⟩)) w := by
 simpa using Xt runUnderlying52 sizeOf65 b off n c j h w
theorem Zwr {c0 c1 c2 c3 c4 c5 c6 c7 c8 c9 c10 c11 c12 c13 c14 c15 c16 c17 c18 c19 c20 c21 c22 c23 c24 c25 c26 c27 c28 c29 : Value} : Qf true 5 #[c0, c1, c2, c3, c4, c5, c6, c7, c8, c9, c10, c11, c12, c13, c14, c15, c16, c17, c18, c19, c20, c21, c22, c23, c24, c25, c26, c27, c28, c29] 0 = some (.agg #[c0, c1, c2, c3, c4]) := rfl
theorem Zwq {c0 c1 c2 c3 c4 c5 c6 c7 c8 c9 c10 c11 c12 c13 c14 c15 c16 c17 c18 c19 c20 c21 c22 c23 c24 c25 c26 c27 c28 c29 : Value} : Qf true 5 #[c0, c1, c2, c3, c4, c5, c6, c7, c8, c9, c10, c11, c12, c13, c14, c15, c16, c17, c18, c19, c20, c21, c22, c23, c24, c25, c26, c27, c28, c29] 5 = some (.agg #[c5, c6, c7, c8, c9]) := rfl
theorem Zuj {c0 c1 c2 c3 c4 c5 c6 c7 c8 c9 c10 c11 c12 c13 c14 c15 c16 c17 c18 c19 c20 c21 c22 c23 c24 c25 c26 c27 c28 c29 : Value} : Qf true 5 #[c0, c1, c2, c3, c4, c5, c6, c7, c8, c9, c10, c11, c12, c13, c14, c15, c16, c17, c18, c19, c20, c21, c22, c23, c24, c25, c26, c27, c28, c29] 10 = some (.agg #[c10, c11, c12, c13, c14]) := rfl
theorem Zui {c0 c1 c2 c3 c4 c5 c6 c7 c8 c9 c10 c11 c12 c13 c14 c15 c16 c17 c18 c19 c20 c21 c22 c23 c24 c25 c26 c27 c28 c29 : Value} : Qf true 5 #[c0, c1, c2, c3, c4, c5, c6, c7, c8, c9, c10, c11, c12, c13, c14, c15, c16, c17, c18, c19, c20, c21, c22, c23, c24, c25, c26, c27, c28, c29] 15 = some (.agg #[c15, c16, c17, c18, c19]) := rfl
theorem Zuh {c0 c1 c2 c3 c4 c5 c6 c7 c8 c9 c10 c11 c12 c13 c14 c15 c16 c17 c18 c19 c20 c21 c22 c23 c24 c25 c26 c27 c28 c29 : Value} : Qf true 5 #[c0, c1, c2, c3, c4, c5, c6, c7, c8, c9, c10, c11, c12, c13, c14, c15, c16, c17, c18, c19, c20, c21, c22, c23, c24, c25, c26, c27, c28, c29] 20 = some (.agg #[c20, c21, c22, c23, c24]) := rfl
theorem Zug {c0 c1 c2 c3 c4 c5 c6 c7 c8 c9 c10 c11 c12 c13 c14 c15 c16 c17 c18 c19 c20 c21 c22 c23 c24 c25 c26 c27 c28 c29 : Value} : Qf true 5 #[c0, c1, c2, c3, c4, c5, c6, c7, c8, c9, c10, c11, c12, c13, c14, c15, c16, c17, c18, c19, c20, c21, c22, c23, c24, c25, c26, c27, c28, c29] 25 = some (.agg #[c25, c26, c27, c28, c29]) := rfl
def ptv (q : (Int × Int) × (Int × Int)) : Pt := (qvp q.1, qvp q.2)
def OkP (q : (Int × Int) × (Int × Int)) : Prop := OkQ q.1 ∧ OkQ q.2
theorem Zid {q : (Int × Int) × (Int × Int)} (h : OkP q) : PtK 4 (ptv q) := ⟨Qh h.1, Qh h.2⟩
theorem Zar (q : Int × Int) (h : OkQ q) : Yd Tryz.prog 19 [.agg #[.int .i64 q.1, .int .u32 q.2]] (Zz (qvp q)) := C_qOf q.1 q.2 h.1 h.2.1 h.2.2.1 h.2.2.2
theorem Qbv {L0 L1 L2 : List Tm} (hL0 : Pq 2 1200 L0) (hL1 : Pq 2 1200 L1) (hL2 : Pq 2 1200 L2) {q0 q1 q2 : Rat} (hq0 : Zw q0 ≤ 4) (hq1 : Zw q1 ≤ 4) (hq2 : Zw q2 ≤ 4) : Pq 2 3622 (norm (norm (norm (([] : List Tm) ++ norm (Zi q0 L0)) ++ norm (Zi q1 L1)) ++ norm (Zi q2 L2))) := (((Pq.mono (d' := 2) ((Pq.nil 0).add (hL0.scale (c := q0) (Kc := 4) hq0 dd) dd dd) dd (Nat.le_refl _)).add (hL1.scale (c := q1) (Kc := 4) hq1 dd) dd dd).add (hL2.scale (c := q2) (Kc := 4) hq2 dd) dd dd)
theorem Qbu {L0 L1 L2 L3 L4 L5 : List Tm} (hL0 : Pq 2 1200 L0) (hL1 : Pq 2 1200 L1) (hL2 : Pq 2 1200 L2) (hL3 : Pq 2 1200 L3) (hL4 : Pq 2 1200 L4) (hL5 : Pq 2 1200 L5) {q0 q1 q2 q3 q4 q5 : Rat} (hq0 : Zw q0 ≤ 4) (hq1 : Zw q1 ≤ 4) (hq2 : Zw q2 ≤ 4) (hq3 : Zw q3 ≤ 4) (hq4 : Zw q4 ≤ 4) (hq5 : Zw q5 ≤ 4) : Pq 2 7243 (norm (norm (norm (norm (norm (norm (([] : List Tm) ++ norm (Zi q0 L0)) ++ norm (Zi q1 L1)) ++ norm (Zi q2 L2)) ++ norm (Zi q3 L3)) ++ norm (Zi q4 L4)) ++ norm (Zi q5 L5))) := ((((((Pq.mono (d' := 2) ((Pq.nil 0).add (hL0.scale (c := q0) (Kc := 4) hq0 dd) dd dd) dd (Nat.le_refl _)).add (hL1.scale (c := q1) (Kc := 4) hq1 dd) dd dd).add (hL2.scale (c := q2) (Kc := 4) hq2 dd) dd dd).add (hL3.scale (c := q3) (Kc := 4) hq3 dd) dd dd).add (hL4.scale (c := q4) (Kc := 4) hq4 dd) dd dd).add (hL5.scale (c := q5) (Kc := 4) hq5 dd) dd dd)
theorem Zrf (p : (Int × Int) × (Int × Int)) (hp : OkP p) : Yd Tryz.prog 26 [.agg #[.int .i64 p.1.1, .int .u32 p.1.2, .int .i64 p.2.1, .int .u32 p.2.2]] (encPt (ptv p)) := by
 obtain ⟨hp1, hp2⟩ := hp
 refine fn_intro func26 rfl ntmps26 nb ?_
 intro S w0 a hS h
 refine gC h (zS (zx rfl fun b1 => zz Yw fun b2 => zn (zs (yD Za [0, 1, 3, 4, 2, 5, 6, 7] (Ze kk) (yp rfl (.fA rfl Qek) (yd rfl rfl mr isAgg24 sizeOf24 Qak ?_)))))); clear h
 refine yp rfl (.fA rfl Qej) (yd rfl rfl mr isAgg24 sizeOf24 Qaj ?_)
 refine yv [_] rfl rfl call19 (Zar p.1 (by assumption)) ?_
 have hl5 := Qh (q := p.1) (by assumption)
 refine yv [_] rfl rfl call19 (Zar p.2 (by assumption)) ?_
 have hl8 := Qh (q := p.2) (by assumption)
 refine yp rfl (.build [(_, _), (_, _)] rfl (Zdg _ _ _ _ _ _ _ _ _ _)) (yt rfl rfl rfl Qq uu sizeOf43 rfl nb rfl ?_)
 refine yn (zt ?_); intro a w h
 refine Xw h (Zk h rfl (.cell rfl mr isAgg43 sizeOf43 Zj)) ?_
 rfl
theorem Zph (p0 p1 p2 : (Int × Int) × (Int × Int)) (h0 : OkP p0) (h1 : OkP p1) (h2 : OkP p2) : Ctr Tryz.prog 5 [.agg #[.int .i64 p0.1.1, .int .u32 p0.1.2, .int .i64 p0.2.1, .int .u32 p0.2.2, .int .i64 p1.1.1, .int .u32 p1.1.2, .int .i64 p1.2.1, .int .u32 p1.2.2, .int .i64 p2.1.1, .int .u32 p2.1.2, .int .i64 p2.2.1, .int .u32 p2.2.2]] [] (fun v Ψ => ∃ pa pb pc : Pt, PtK 4 pa ∧ PtK 4 pb ∧ PtK 4 pc ∧ v = .tuple #[Qr pa pb pc, .bool (decide ((twP pa pb pc).num.sign > 0))] ∧ Ψ = []) := by
 refine fn_intro func5 rfl ntmps5 nb ?_
 intro S w0 a hS h
 refine gC h (zS (zx rfl fun b1 => zz Zd9 fun b2 => za rfl (zn (zs (yD Za [0, 1, 3, 4, 6, 7, 2, 5, 8, 9, 10, 11] (Qy ⟨.inl rfl, .inl rfl, .inl rfl, .inl rfl, .inl rfl, .inl rfl, .inl rfl, .inl rfl, .inl rfl, .inl rfl, .inr ⟨4, 44, _, _, _, rfl, rfl, by decide, _, Zd9⟩, .inl rfl, trivial⟩) (yp rfl (.indexAddr rfl rfl (Qbd _ _)) (yd rfl rfl mr isAgg27 sizeOf27 Zww ?_))))))); clear h
 refine yp rfl (.indexAddr rfl rfl (Qbc _ _)) (yd rfl rfl mr isAgg27 sizeOf27 Zwv ?_)
 refine yp rfl (.indexAddr rfl rfl (Qbb _ _)) (yd rfl rfl mr isAgg27 sizeOf27 Zws ?_)
 refine yv [_] rfl rfl call26 (Zrf p0 (by assumption)) ?_
 have hl7 := (Zid (q := p0) (by assumption)).1
 have hl7 := (Zid (q := p0) (by assumption)).2
 refine yv [_] rfl rfl call26 (Zrf p1 (by assumption)) ?_
 have hl10 := (Zid (q := p1) (by assumption)).1
 have hl10 := (Zid (q := p1) (by assumption)).2
 refine yv [_] rfl rfl call26 (Zrf p2 (by assumption)) ?_
 have hl13 := (Zid (q := p2) (by assumption)).1
 have hl13 := (Zid (q := p2) (by assumption)).2
 refine yp rfl (.build [(_, _), (_, _), (_, _)] rfl (Zfz _ _ _ _ _ _ _ _ _ _ _ _ _ _ _ _ _ _ _ _ _ _ _ _ _ _ _ _ _ _)) (yz rfl Zd9 fun b4 => yt rfl rfl rfl Vw uu sizeOf44 rfl nb rfl ?_)
 refine yn (zs (zS (zp (.indexAddr rfl rfl (Yc _ _)) (zd rfl mr isAgg43 sizeOf43 Xk ?_))))
 refine zp (.indexAddr rfl rfl (Xp _ _)) (zd rfl mr isAgg43 sizeOf43 Jp ?_)
 refine zp (.indexAddr rfl rfl (Xo _ _)) (zd rfl mr isAgg43 sizeOf43 Jo ?_)
 refine zv [_, _, _] rfl call32 (Zni (ptv p0) (ptv p1) (ptv p2) oo oo oo oo oo oo) (zp (.lss rfl rfl) (zn ?_)); intro a w h
 refine cW ?_
 refine Zh h rfl (fun hc22 => ?_) (fun hc22 => ?_)
 ·
  skip
  refine gC h (zr (zp (.indexAddr rfl rfl (Xo _ _)) (zd rfl mr isAgg43 sizeOf43 Jo ?_)))
  refine zp (.indexAddr rfl rfl (Xp _ _)) (zd rfl mr isAgg43 sizeOf43 Jp ?_)
  refine zp (.indexAddr rfl rfl (Xp _ _)) (zt' rfl rfl Zpu uu sizeOf43 rfl nb rfl ?_)
  refine zp (.indexAddr rfl rfl (Xo _ _)) (zt' rfl rfl Zpt uu sizeOf43 rfl nb rfl ?_)
  refine zn (zs (yD Za [0, 1, 2, 3, 4, 5, 6, 7, 8, 9, 10] (Ze kk) (yd rfl rfl mr isAgg44 sizeOf44 Qt ?_)))
  refine yp rfl (.indexAddr rfl rfl (Yc _ _)) (yd rfl rfl mr isAgg43 sizeOf43 Xk ?_)
  refine yp rfl (.indexAddr rfl rfl (Xp _ _)) (yd rfl rfl mr isAgg43 sizeOf43 Jp ?_)
  refine yp rfl (.indexAddr rfl rfl (Xo _ _)) (yd rfl rfl mr isAgg43 sizeOf43 Jo ?_)
  refine yv [_, _, _] rfl rfl call32 (Zni (ptv p0) (ptv p2) (ptv p1) oo oo oo oo oo oo) (yp rfl (.gtr rfl rfl) (yt rfl rfl rfl Vw uu sizeOf44 rfl nb rfl ?_))
  refine yp rfl (.assign rfl) (yn (zt ?_)); intro a w h
  refine Xq (Ψ := []) h (Qv h rfl (.cell rfl mr isAgg44 sizeOf44 Qt) (.tmp rfl)) ?_ ss
  exact ⟨ptv p0, ptv p2, ptv p1, Zid h0, Zid h2, Zid h1, rfl, rfl⟩
 ·
  skip
  refine gC h (zk (zs (yD Za [0, 1, 2, 3, 4, 5, 6, 7, 8, 9, 10] (Ze kk) (yd rfl rfl mr isAgg44 sizeOf44 Qt ?_)))); clear h
  refine yp rfl (.indexAddr rfl rfl (Yc _ _)) (yd rfl rfl mr isAgg43 sizeOf43 Xk ?_)
  refine yp rfl (.indexAddr rfl rfl (Xp _ _)) (yd rfl rfl mr isAgg43 sizeOf43 Jp ?_)
  refine yp rfl (.indexAddr rfl rfl (Xo _ _)) (yd rfl rfl mr isAgg43 sizeOf43 Jo ?_)
  refine yv [_, _, _] rfl rfl call32 (Zni (ptv p0) (ptv p1) (ptv p2) oo oo oo oo oo oo) (yp rfl (.gtr rfl rfl) (yt rfl rfl rfl Vw uu sizeOf44 rfl nb rfl ?_))
  refine yp rfl (.assign rfl) (yn (zt ?_)); intro a w h
  refine Xq (Ψ := []) h (Qv h rfl (.cell rfl mr isAgg44 sizeOf44 Qt) (.tmp rfl)) ?_ ss
  exact ⟨ptv p0, ptv p1, ptv p2, Zid h0, Zid h1, Zid h2, rfl, rfl⟩
theorem Zy9 (k0 k1 k2 : Int × Int) (h0 : OkQ k0) (h1 : OkQ k1) (h2 : OkQ k2) : Yd Tryz.prog 11 [.agg #[.int .i64 k0.1, .int .u32 k0.2, .int .i64 k1.1, .int .u32 k1.2, .int .i64 k2.1, .int .u32 k2.2]] (Zcr (qvp k0, qvp k1, qvp k2)) := by
 refine fn_intro func11 rfl ntmps11 nb ?_
 intro S w0 a hS h
 refine gC h (zS (zx rfl fun b1 => zz Zto fun b2 => zn (zs (yD Za [0, 1, 3, 4, 6, 7, 2, 5, 8, 9, 10] (Ze kk) (yp rfl (.indexAddr rfl rfl (Zmt _ _)) (yd rfl rfl mr isAgg24 sizeOf24 Zl8 ?_)))))); clear h
 refine yp rfl (.indexAddr rfl rfl (Zms _ _)) (yd rfl rfl mr isAgg24 sizeOf24 Zl7 ?_)
 refine yp rfl (.indexAddr rfl rfl (Zmr _ _)) (yd rfl rfl mr isAgg24 sizeOf24 Zl6 ?_)
 refine yv [_] rfl rfl call19 (Zar k0 (by assumption)) ?_
 have hl5 := Qh (q := k0) (by assumption)
 refine yv [_] rfl rfl call19 (Zar k1 (by assumption)) ?_
 have hl8 := Qh (q := k1) (by assumption)
 refine yv [_] rfl rfl call19 (Zar k2 (by assumption)) ?_
 have hl11 := Qh (q := k2) (by assumption)
 refine yp rfl (.build [(_, _), (_, _), (_, _)] rfl (Zfy _ _ _ _ _ _ _ _ _ _ _ _ _ _ _)) (yt rfl rfl rfl Zde uu sizeOf60 rfl nb rfl ?_)
 refine yn (zt ?_); intro a w h
 refine Xw h (Zk h rfl (.cell rfl mr isAgg60 sizeOf60 Zg9)) ?_
 rfl
theorem Qck : Yd Tryz.prog 7 [.bool false] (.int .i64 1) := by
 refine fn_intro func7 rfl ntmps7 nb ?_
 intro S w0 a hS h
 refine gC h (zS (za rfl (zn (zs (zS (zm rfl (zn ?_))))))); clear h; intro a w h
 refine cW ?_
 refine Zf h rfl ?_
 refine gC h (zk (zS (za rfl (zn (zt ?_))))); clear h; intro a w h
 exact Zed h
theorem Qcj : Yd Tryz.prog 7 [.bool true] (.int .i64 2) := by
 refine fn_intro func7 rfl ntmps7 nb ?_
 intro S w0 a hS h
 refine gC h (zS (za rfl (zn (zs (zS (zm rfl (zn ?_))))))); clear h; intro a w h
 refine cW ?_
 refine Zg h rfl ?_
 refine gC h (zS (za rfl (zn (zt ?_)))); clear h; intro a w h
 exact Zed h
set_option maxHeartbeats 1000000 in
theorem Zve (v0 v1 v2 v3 v4 v5 : Int × Int) (hv0 : OkQ v0) (hv1 : OkQ v1) (hv2 : OkQ v2) (hv3 : OkQ v3) (hv4 : OkQ v4) (hv5 : OkQ v5) : Ctr Tryz.prog 8 [.bool false, .agg #[.int .i64 v0.1, .int .u32 v0.2, .int .i64 v1.1, .int .u32 v1.2, .int .i64 v2.1, .int .u32 v2.2, .int .i64 v3.1, .int .u32 v3.2, .int .i64 v4.1, .int .u32 v4.2, .int .i64 v5.1, .int .u32 v5.2]] [] (fun v Ψ => ∃ ad c, v = .slice ad 3 c ∧ Ψ = [Row ad (cellsOf Zz [qvp v0, qvp v1, qvp v2])]) := by
 refine fn_intro func8 rfl ntmps8 nb ?_
 intro S w0 a hS h
 refine gC h (zS (zx rfl fun b3 => za rfl (zn (zS (za rfl (zn (zs (zS (za rfl (zn (zb ?_))))))))))); clear h; intro a w h
 refine wp_loop_rounds 4 ?_
 refine Zb ?_
 refine gC h (zs (zS (zm rfl (zp (Pure1.cast (v' := .bool true) (.lss rfl rfl) cgd) (zm rfl (zo 9 rfl rfl rfl (zo 9 rfl rfl rfl (zu 11 rfl rfl (zu 11 rfl rfl (zo 9 rfl rfl rfl (zp (.pickT rfl rfl) (zn ?_)))))))))))); clear h; intro a w h
 refine cW ?_
 refine Zg h rfl ?_
 refine gC h (zk (zs (zb (zr (zm rfl (zm rfl (zp (.indexAddr rfl rfl (Zsr _ _)) (zd rfl mr isAgg24 sizeOf24 Zn6 ?_))))))))
 refine zv [_] rfl call19 (Zar v0 (by assumption)) ?_
 have hl22 := Qh (q := v0) (by assumption)
 refine zB [(_, _)] rfl (Vp _ _ _ _ _) fun b23 => ?_; intro a w h
 refine Zc (Jy (σr := [(b3, bV (.agg #[.int .i64 v0.1, .int .u32 v0.2, .int .i64 v1.1, .int .u32 v1.2, .int .i64 v2.1, .int .u32 v2.2, .int .i64 v3.1, .int .u32 v3.2, .int .i64 v4.1, .int .u32 v4.2, .int .i64 v5.1, .int .u32 v5.2]) 30)]) h rfl rfl (List.Perm.refl _) (GrowO.nil _ _) runUnderlying50 runUnderlying50 typeInfo41 sizeOf41 Jk rfl dd dd rfl rfl dd (by show 56 * (2 * ((([] : List Rat)).length + 1) + 192) ≤ 281474976710656; first | omega | (simp only [List.length_append, List.length_cons, List.length_nil]; omega)) dd ?_); clear h
 intro v24_0 o24_0 a w hG24_0 h
 obtain ⟨ad24_0, c24_0, rfl⟩ := hG24_0.is
 have hLn24_0 : (0 : Nat) + 1 = (([] : List Rat) ++ [qvp v0]).length := lA
 rw [hLn24_0] at h hG24_0
 replace hG24_0 : GrowO 5 41 (.slice ad24_0 (([] : List Rat) ++ [qvp v0]).length c24_0) (([] : List Rat) ++ [qvp v0]).length (cellsOf Zz (([] : List Rat) ++ [qvp v0])) o24_0 := by rw [Zy, Je]; exact hG24_0
 refine gL h (za rfl (zn (zr (zm rfl (zp (Pure1.cast (v' := .int .i64 1) (.add rfl rfl) cgd) (za rfl (zn ?_))))))); clear h; intro a w h
 replace h : St 26 S w0 [(0, .bool false), (3, pB b3), (4, .slice none 0 0), (5, (.slice ad24_0 (([] : List Rat) ++ [qvp v0]).length c24_0)), (6, .int .i64 1), (15, .bool true)] (o24_0 ++ ((b3, bV (.agg #[.int .i64 v0.1, .int .u32 v0.2, .int .i64 v1.1, .int .u32 v1.2, .int .i64 v2.1, .int .u32 v2.2, .int .i64 v3.1, .int .u32 v3.2, .int .i64 v4.1, .int .u32 v4.2, .int .i64 v5.1, .int .u32 v5.2]) 30) :: [])) [] a w := by exact h.sub sA
 refine Zb ?_
 refine gC h (zs (zS (zm rfl (zp (Pure1.cast (v' := .bool true) (.lss rfl rfl) cgd) (zm rfl (zo 9 rfl rfl rfl (zo 9 rfl rfl rfl (zu 11 rfl rfl (zu 11 rfl rfl (zo 9 rfl rfl rfl (zp (.pickT rfl rfl) (zn ?_)))))))))))); clear h; intro a w h
 refine cW ?_
 refine Zg h rfl ?_
 refine gC h (zk (zs (zb (zr (zm rfl (zm rfl (zp (.indexAddr rfl rfl (Zsq _ _)) (zd rfl mr isAgg24 sizeOf24 Zn5 ?_))))))))
 refine zv [_] rfl call19 (Zar v1 (by assumption)) ?_
 have hl22 := Qh (q := v1) (by assumption)
 refine zB [(_, _)] rfl (Vp _ _ _ _ _) fun b23 => ?_; intro a w h
 refine Zc (Jy (σr := [(b3, bV (.agg #[.int .i64 v0.1, .int .u32 v0.2, .int .i64 v1.1, .int .u32 v1.2, .int .i64 v2.1, .int .u32 v2.2, .int .i64 v3.1, .int .u32 v3.2, .int .i64 v4.1, .int .u32 v4.2, .int .i64 v5.1, .int .u32 v5.2]) 30)]) h rfl rfl (List.Perm.trans (List.Perm.refl _) (List.Perm.cons _ (List.Perm.refl _))) hG24_0 runUnderlying50 runUnderlying50 typeInfo41 sizeOf41 Jk rfl dd dd rfl rfl dd (by show 56 * (2 * ((([] : List Rat) ++ [qvp v0]).length + 1) + 192) ≤ 281474976710656; first | omega | (simp only [List.length_append, List.length_cons, List.length_nil]; omega)) dd ?_); clear h
 intro v24_1 o24_1 a w hG24_1 h
 obtain ⟨ad24_1, c24_1, rfl⟩ := hG24_1.is
 have hLn24_1 : (([] : List Rat) ++ [qvp v0]).length + 1 = ((([] : List Rat) ++ [qvp v0]) ++ [qvp v1]).length := lA
 rw [hLn24_1] at h hG24_1
 replace hG24_1 : GrowO 5 41 (.slice ad24_1 ((([] : List Rat) ++ [qvp v0]) ++ [qvp v1]).length c24_1) ((([] : List Rat) ++ [qvp v0]) ++ [qvp v1]).length (cellsOf Zz ((([] : List Rat) ++ [qvp v0]) ++ [qvp v1])) o24_1 := by rw [Zy, Je]; exact hG24_1
 refine gL h (za rfl (zn (zr (zm rfl (zp (Pure1.cast (v' := .int .i64 2) (.add rfl rfl) cgd) (za rfl (zn ?_))))))); clear h; intro a w h
 replace h : St 26 S w0 [(0, .bool false), (3, pB b3), (4, .slice none 0 0), (5, (.slice ad24_1 ((([] : List Rat) ++ [qvp v0]) ++ [qvp v1]).length c24_1)), (6, .int .i64 2), (15, .bool true)] (o24_1 ++ ((b3, bV (.agg #[.int .i64 v0.1, .int .u32 v0.2, .int .i64 v1.1, .int .u32 v1.2, .int .i64 v2.1, .int .u32 v2.2, .int .i64 v3.1, .int .u32 v3.2, .int .i64 v4.1, .int .u32 v4.2, .int .i64 v5.1, .int .u32 v5.2]) 30) :: [])) [] a w := by exact h.sub sA
 refine Zb ?_
 refine gC h (zs (zS (zm rfl (zp (Pure1.cast (v' := .bool true) (.lss rfl rfl) cgd) (zm rfl (zo 9 rfl rfl rfl (zo 9 rfl rfl rfl (zu 11 rfl rfl (zu 11 rfl rfl (zo 9 rfl rfl rfl (zp (.pickT rfl rfl) (zn ?_)))))))))))); clear h; intro a w h
 refine cW ?_
 refine Zg h rfl ?_
 refine gC h (zk (zs (zb (zr (zm rfl (zm rfl (zp (.indexAddr rfl rfl (Zsp _ _)) (zd rfl mr isAgg24 sizeOf24 Zn4 ?_))))))))
 refine zv [_] rfl call19 (Zar v2 (by assumption)) ?_
 have hl22 := Qh (q := v2) (by assumption)
 refine zB [(_, _)] rfl (Vp _ _ _ _ _) fun b23 => ?_; intro a w h
 refine Zc (Jy (σr := [(b3, bV (.agg #[.int .i64 v0.1, .int .u32 v0.2, .int .i64 v1.1, .int .u32 v1.2, .int .i64 v2.1, .int .u32 v2.2, .int .i64 v3.1, .int .u32 v3.2, .int .i64 v4.1, .int .u32 v4.2, .int .i64 v5.1, .int .u32 v5.2]) 30)]) h rfl rfl (List.Perm.trans (List.Perm.refl _) (List.Perm.cons _ (List.Perm.refl _))) hG24_1 runUnderlying50 runUnderlying50 typeInfo41 sizeOf41 Jk rfl dd dd rfl rfl dd (by show 56 * (2 * (((([] : List Rat) ++ [qvp v0]) ++ [qvp v1]).length + 1) + 192) ≤ 281474976710656; first | omega | (simp only [List.length_append, List.length_cons, List.length_nil]; omega)) dd ?_); clear h
 intro v24_2 o24_2 a w hG24_2 h
 obtain ⟨ad24_2, c24_2, rfl⟩ := hG24_2.is
 have hLn24_2 : ((([] : List Rat) ++ [qvp v0]) ++ [qvp v1]).length + 1 = (((([] : List Rat) ++ [qvp v0]) ++ [qvp v1]) ++ [qvp v2]).length := lA
 rw [hLn24_2] at h hG24_2
 replace hG24_2 : GrowO 5 41 (.slice ad24_2 (((([] : List Rat) ++ [qvp v0]) ++ [qvp v1]) ++ [qvp v2]).length c24_2) (((([] : List Rat) ++ [qvp v0]) ++ [qvp v1]) ++ [qvp v2]).length (cellsOf Zz (((([] : List Rat) ++ [qvp v0]) ++ [qvp v1]) ++ [qvp v2])) o24_2 := by rw [Zy, Je]; exact hG24_2
 refine gL h (za rfl (zn (zr (zm rfl (zp (Pure1.cast (v' := .int .i64 3) (.add rfl rfl) cgd) (za rfl (zn ?_))))))); clear h; intro a w h
 replace h : St 26 S w0 [(0, .bool false), (3, pB b3), (4, .slice none 0 0), (5, (.slice ad24_2 (((([] : List Rat) ++ [qvp v0]) ++ [qvp v1]) ++ [qvp v2]).length c24_2)), (6, .int .i64 3), (15, .bool true)] (o24_2 ++ ((b3, bV (.agg #[.int .i64 v0.1, .int .u32 v0.2, .int .i64 v1.1, .int .u32 v1.2, .int .i64 v2.1, .int .u32 v2.2, .int .i64 v3.1, .int .u32 v3.2, .int .i64 v4.1, .int .u32 v4.2, .int .i64 v5.1, .int .u32 v5.2]) 30) :: [])) [] a w := by exact h.sub sA
 refine Zb ?_
 refine gC h (zs (zS (zm rfl (zp (Pure1.cast (v' := .bool false) (.lss rfl rfl) cgd) (zm rfl (zq 9 rfl rfl (.move rfl) (zq 9 rfl rfl (.move rfl) (zo 11 rfl rfl rfl (zo 11 rfl rfl rfl (zq 9 rfl rfl (.pickF rfl rfl) (zp (.pickF rfl rfl) (zn ?_)))))))))))); clear h; intro a w h
 refine cW ?_
 refine Zf h rfl ?_
 refine gC h (ze (zS (zm rfl ?_))); clear h; intro a w h
 replace h := h.shareO' hS hG24_2
 refine gL h (za rfl (zn (zt ?_))); clear h; intro a w h
 refine Xq (Ψ := [Row ad24_2 (cellsOf Zz [qvp v0, qvp v1, qvp v2])]) h (Zk h rfl (.tmp rfl)) ?_ ss
 exact ⟨ad24_2, c24_2, rfl, rfl⟩
set_option maxHeartbeats 1000000 in
theorem Zvd (v0 v1 v2 v3 v4 v5 : Int × Int) (hv0 : OkQ v0) (hv1 : OkQ v1) (hv2 : OkQ v2) (hv3 : OkQ v3) (hv4 : OkQ v4) (hv5 : OkQ v5) : Ctr Tryz.prog 8 [.bool true, .agg #[.int .i64 v0.1, .int .u32 v0.2, .int .i64 v1.1, .int .u32 v1.2, .int .i64 v2.1, .int .u32 v2.2, .int .i64 v3.1, .int .u32 v3.2, .int .i64 v4.1, .int .u32 v4.2, .int .i64 v5.1, .int .u32 v5.2]] [] (fun v Ψ => ∃ ad c, v = .slice ad 6 c ∧ Ψ = [Row ad (cellsOf Zz [qvp v0, qvp v1, qvp v2, qvp v3, qvp v4, qvp v5])]) := by
 refine fn_intro func8 rfl ntmps8 nb ?_
 intro S w0 a hS h
 refine gC h (zS (zx rfl fun b3 => za rfl (zn (zS (za rfl (zn (zs (zS (za rfl (zn (zb ?_))))))))))); clear h; intro a w h
 refine wp_loop_rounds 7 ?_
 refine Zb ?_
 refine gC h (zs (zS (zm rfl (zp (Pure1.cast (v' := .bool true) (.lss rfl rfl) cgd) (zm rfl (zo 9 rfl rfl rfl (zo 9 rfl rfl rfl (zu 11 rfl rfl (zu 11 rfl rfl (zo 9 rfl rfl rfl (zp (.pickT rfl rfl) (zn ?_)))))))))))); clear h; intro a w h
 refine cW ?_
 refine Zg h rfl ?_
 refine gC h (zk (zs (zb (zr (zm rfl (zm rfl (zp (.indexAddr rfl rfl (Zsr _ _)) (zd rfl mr isAgg24 sizeOf24 Zn6 ?_))))))))
 refine zv [_] rfl call19 (Zar v0 (by assumption)) ?_
 have hl22 := Qh (q := v0) (by assumption)
 refine zB [(_, _)] rfl (Vp _ _ _ _ _) fun b23 => ?_; intro a w h
 refine Zc (Jy (σr := [(b3, bV (.agg #[.int .i64 v0.1, .int .u32 v0.2, .int .i64 v1.1, .int .u32 v1.2, .int .i64 v2.1, .int .u32 v2.2, .int .i64 v3.1, .int .u32 v3.2, .int .i64 v4.1, .int .u32 v4.2, .int .i64 v5.1, .int .u32 v5.2]) 30)]) h rfl rfl (List.Perm.refl _) (GrowO.nil _ _) runUnderlying50 runUnderlying50 typeInfo41 sizeOf41 Jk rfl dd dd rfl rfl dd (by show 56 * (2 * ((([] : List Rat)).length + 1) + 192) ≤ 281474976710656; first | omega | (simp only [List.length_append, List.length_cons, List.length_nil]; omega)) dd ?_); clear h
 intro v24_0 o24_0 a w hG24_0 h
 obtain ⟨ad24_0, c24_0, rfl⟩ := hG24_0.is
 have hLn24_0 : (0 : Nat) + 1 = (([] : List Rat) ++ [qvp v0]).length := lA
 rw [hLn24_0] at h hG24_0
 replace hG24_0 : GrowO 5 41 (.slice ad24_0 (([] : List Rat) ++ [qvp v0]).length c24_0) (([] : List Rat) ++ [qvp v0]).length (cellsOf Zz (([] : List Rat) ++ [qvp v0])) o24_0 := by rw [Zy, Je]; exact hG24_0
 refine gL h (za rfl (zn (zr (zm rfl (zp (Pure1.cast (v' := .int .i64 1) (.add rfl rfl) cgd) (za rfl (zn ?_))))))); clear h; intro a w h
 replace h : St 26 S w0 [(0, .bool true), (3, pB b3), (4, .slice none 0 0), (5, (.slice ad24_0 (([] : List Rat) ++ [qvp v0]).length c24_0)), (6, .int .i64 1), (15, .bool true)] (o24_0 ++ ((b3, bV (.agg #[.int .i64 v0.1, .int .u32 v0.2, .int .i64 v1.1, .int .u32 v1.2, .int .i64 v2.1, .int .u32 v2.2, .int .i64 v3.1, .int .u32 v3.2, .int .i64 v4.1, .int .u32 v4.2, .int .i64 v5.1, .int .u32 v5.2]) 30) :: [])) [] a w := by exact h.sub sA
 refine Zb ?_
 refine gC h (zs (zS (zm rfl (zp (Pure1.cast (v' := .bool true) (.lss rfl rfl) cgd) (zm rfl (zo 9 rfl rfl rfl (zo 9 rfl rfl rfl (zu 11 rfl rfl (zu 11 rfl rfl (zo 9 rfl rfl rfl (zp (.pickT rfl rfl) (zn ?_)))))))))))); clear h; intro a w h
 refine cW ?_
 refine Zg h rfl ?_
 refine gC h (zk (zs (zb (zr (zm rfl (zm rfl (zp (.indexAddr rfl rfl (Zsq _ _)) (zd rfl mr isAgg24 sizeOf24 Zn5 ?_))))))))
 refine zv [_] rfl call19 (Zar v1 (by assumption)) ?_
 have hl22 := Qh (q := v1) (by assumption)
 refine zB [(_, _)] rfl (Vp _ _ _ _ _) fun b23 => ?_; intro a w h
 refine Zc (Jy (σr := [(b3, bV (.agg #[.int .i64 v0.1, .int .u32 v0.2, .int .i64 v1.1, .int .u32 v1.2, .int .i64 v2.1, .int .u32 v2.2, .int .i64 v3.1, .int .u32 v3.2, .int .i64 v4.1, .int .u32 v4.2, .int .i64 v5.1, .int .u32 v5.2]) 30)]) h rfl rfl (List.Perm.trans (List.Perm.refl _) (List.Perm.cons _ (List.Perm.refl _))) hG24_0 runUnderlying50 runUnderlying50 typeInfo41 sizeOf41 Jk rfl dd dd rfl rfl dd (by show 56 * (2 * ((([] : List Rat) ++ [qvp v0]).length + 1) + 192) ≤ 281474976710656; first | omega | (simp only [List.length_append, List.length_cons, List.length_nil]; omega)) dd ?_); clear h
 intro v24_1 o24_1 a w hG24_1 h
 obtain ⟨ad24_1, c24_1, rfl⟩ := hG24_1.is
 have hLn24_1 : (([] : List Rat) ++ [qvp v0]).length + 1 = ((([] : List Rat) ++ [qvp v0]) ++ [qvp v1]).length := lA
 rw [hLn24_1] at h hG24_1
 replace hG24_1 : GrowO 5 41 (.slice ad24_1 ((([] : List Rat) ++ [qvp v0]) ++ [qvp v1]).length c24_1) ((([] : List Rat) ++ [qvp v0]) ++ [qvp v1]).length (cellsOf Zz ((([] : List Rat) ++ [qvp v0]) ++ [qvp v1])) o24_1 := by rw [Zy, Je]; exact hG24_1
 refine gL h (za rfl (zn (zr (zm rfl (zp (Pure1.cast (v' := .int .i64 2) (.add rfl rfl) cgd) (za rfl (zn ?_))))))); clear h; intro a w h
 replace h : St 26 S w0 [(0, .bool true), (3, pB b3), (4, .slice none 0 0), (5, (.slice ad24_1 ((([] : List Rat) ++ [qvp v0]) ++ [qvp v1]).length c24_1)), (6, .int .i64 2), (15, .bool true)] (o24_1 ++ ((b3, bV (.agg #[.int .i64 v0.1, .int .u32 v0.2, .int .i64 v1.1, .int .u32 v1.2, .int .i64 v2.1, .int .u32 v2.2, .int .i64 v3.1, .int .u32 v3.2, .int .i64 v4.1, .int .u32 v4.2, .int .i64 v5.1, .int .u32 v5.2]) 30) :: [])) [] a w := by exact h.sub sA
 refine Zb ?_
 refine gC h (zs (zS (zm rfl (zp (Pure1.cast (v' := .bool true) (.lss rfl rfl) cgd) (zm rfl (zo 9 rfl rfl rfl (zo 9 rfl rfl rfl (zu 11 rfl rfl (zu 11 rfl rfl (zo 9 rfl rfl rfl (zp (.pickT rfl rfl) (zn ?_)))))))))))); clear h; intro a w h
 refine cW ?_
 refine Zg h rfl ?_
 refine gC h (zk (zs (zb (zr (zm rfl (zm rfl (zp (.indexAddr rfl rfl (Zsp _ _)) (zd rfl mr isAgg24 sizeOf24 Zn4 ?_))))))))
 refine zv [_] rfl call19 (Zar v2 (by assumption)) ?_
 have hl22 := Qh (q := v2) (by assumption)
 refine zB [(_, _)] rfl (Vp _ _ _ _ _) fun b23 => ?_; intro a w h
 refine Zc (Jy (σr := [(b3, bV (.agg #[.int .i64 v0.1, .int .u32 v0.2, .int .i64 v1.1, .int .u32 v1.2, .int .i64 v2.1, .int .u32 v2.2, .int .i64 v3.1, .int .u32 v3.2, .int .i64 v4.1, .int .u32 v4.2, .int .i64 v5.1, .int .u32 v5.2]) 30)]) h rfl rfl (List.Perm.trans (List.Perm.refl _) (List.Perm.cons _ (List.Perm.refl _))) hG24_1 runUnderlying50 runUnderlying50 typeInfo41 sizeOf41 Jk rfl dd dd rfl rfl dd (by show 56 * (2 * (((([] : List Rat) ++ [qvp v0]) ++ [qvp v1]).length + 1) + 192) ≤ 281474976710656; first | omega | (simp only [List.length_append, List.length_cons, List.length_nil]; omega)) dd ?_); clear h
 intro v24_2 o24_2 a w hG24_2 h
 obtain ⟨ad24_2, c24_2, rfl⟩ := hG24_2.is
 have hLn24_2 : ((([] : List Rat) ++ [qvp v0]) ++ [qvp v1]).length + 1 = (((([] : List Rat) ++ [qvp v0]) ++ [qvp v1]) ++ [qvp v2]).length := lA
 rw [hLn24_2] at h hG24_2
 replace hG24_2 : GrowO 5 41 (.slice ad24_2 (((([] : List Rat) ++ [qvp v0]) ++ [qvp v1]) ++ [qvp v2]).length c24_2) (((([] : List Rat) ++ [qvp v0]) ++ [qvp v1]) ++ [qvp v2]).length (cellsOf Zz (((([] : List Rat) ++ [qvp v0]) ++ [qvp v1]) ++ [qvp v2])) o24_2 := by rw [Zy, Je]; exact hG24_2
 refine gL h (za rfl (zn (zr (zm rfl (zp (Pure1.cast (v' := .int .i64 3) (.add rfl rfl) cgd) (za rfl (zn ?_))))))); clear h; intro a w h
 replace h : St 26 S w0 [(0, .bool true), (3, pB b3), (4, .slice none 0 0), (5, (.slice ad24_2 (((([] : List Rat) ++ [qvp v0]) ++ [qvp v1]) ++ [qvp v2]).length c24_2)), (6, .int .i64 3), (15, .bool true)] (o24_2 ++ ((b3, bV (.agg #[.int .i64 v0.1, .int .u32 v0.2, .int .i64 v1.1, .int .u32 v1.2, .int .i64 v2.1, .int .u32 v2.2, .int .i64 v3.1, .int .u32 v3.2, .int .i64 v4.1, .int .u32 v4.2, .int .i64 v5.1, .int .u32 v5.2]) 30) :: [])) [] a w := by exact h.sub sA
 refine Zb ?_
 refine gC h (zs (zS (zm rfl (zp (Pure1.cast (v' := .bool false) (.lss rfl rfl) cgd) (zm rfl (zq 9 rfl rfl (.move rfl) (zq 9 rfl rfl (.move rfl) (zq 11 rfl rfl (.move rfl) (zq 11 rfl rfl (Pure1.cast (v' := .bool true) (.lss rfl rfl) cgd) (zq 9 rfl rfl (.pickT rfl rfl) (zp (.pickF rfl rfl) (zn ?_)))))))))))); clear h; intro a w h
 refine cW ?_
 refine Zg h rfl ?_
 refine gC h (zk (zs (zb (zr (zm rfl (zm rfl (zp (.indexAddr rfl rfl (Qba _ _)) (zd rfl mr isAgg24 sizeOf24 Zwu ?_))))))))
 refine zv [_] rfl call19 (Zar v3 (by assumption)) ?_
 have hl22 := Qh (q := v3) (by assumption)
 refine zB [(_, _)] rfl (Vp _ _ _ _ _) fun b23 => ?_; intro a w h
 refine Zc (Jy (σr := [(b3, bV (.agg #[.int .i64 v0.1, .int .u32 v0.2, .int .i64 v1.1, .int .u32 v1.2, .int .i64 v2.1, .int .u32 v2.2, .int .i64 v3.1, .int .u32 v3.2, .int .i64 v4.1, .int .u32 v4.2, .int .i64 v5.1, .int .u32 v5.2]) 30)]) h rfl rfl (List.Perm.trans (List.Perm.refl _) (List.Perm.cons _ (List.Perm.refl _))) hG24_2 runUnderlying50 runUnderlying50 typeInfo41 sizeOf41 Jk rfl dd dd rfl rfl dd (by show 56 * (2 * ((((([] : List Rat) ++ [qvp v0]) ++ [qvp v1]) ++ [qvp v2]).length + 1) + 192) ≤ 281474976710656; first | omega | (simp only [List.length_append, List.length_cons, List.length_nil]; omega)) dd ?_); clear h
 intro v24_3 o24_3 a w hG24_3 h
 obtain ⟨ad24_3, c24_3, rfl⟩ := hG24_3.is
 have hLn24_3 : (((([] : List Rat) ++ [qvp v0]) ++ [qvp v1]) ++ [qvp v2]).length + 1 = ((((([] : List Rat) ++ [qvp v0]) ++ [qvp v1]) ++ [qvp v2]) ++ [qvp v3]).length := lA
 rw [hLn24_3] at h hG24_3
 replace hG24_3 : GrowO 5 41 (.slice ad24_3 ((((([] : List Rat) ++ [qvp v0]) ++ [qvp v1]) ++ [qvp v2]) ++ [qvp v3]).length c24_3) ((((([] : List Rat) ++ [qvp v0]) ++ [qvp v1]) ++ [qvp v2]) ++ [qvp v3]).length (cellsOf Zz ((((([] : List Rat) ++ [qvp v0]) ++ [qvp v1]) ++ [qvp v2]) ++ [qvp v3])) o24_3 := by rw [Zy, Je]; exact hG24_3
 refine gL h (za rfl (zn (zr (zm rfl (zp (Pure1.cast (v' := .int .i64 4) (.add rfl rfl) cgd) (za rfl (zn ?_))))))); clear h; intro a w h
 replace h : St 26 S w0 [(0, .bool true), (3, pB b3), (4, .slice none 0 0), (5, (.slice ad24_3 ((((([] : List Rat) ++ [qvp v0]) ++ [qvp v1]) ++ [qvp v2]) ++ [qvp v3]).length c24_3)), (6, .int .i64 4), (15, .bool true)] (o24_3 ++ ((b3, bV (.agg #[.int .i64 v0.1, .int .u32 v0.2, .int .i64 v1.1, .int .u32 v1.2, .int .i64 v2.1, .int .u32 v2.2, .int .i64 v3.1, .int .u32 v3.2, .int .i64 v4.1, .int .u32 v4.2, .int .i64 v5.1, .int .u32 v5.2]) 30) :: [])) [] a w := by exact h.sub sA
 refine Zb ?_
 refine gC h (zs (zS (zm rfl (zp (Pure1.cast (v' := .bool false) (.lss rfl rfl) cgd) (zm rfl (zq 9 rfl rfl (.move rfl) (zq 9 rfl rfl (.move rfl) (zq 11 rfl rfl (.move rfl) (zq 11 rfl rfl (Pure1.cast (v' := .bool true) (.lss rfl rfl) cgd) (zq 9 rfl rfl (.pickT rfl rfl) (zp (.pickF rfl rfl) (zn ?_)))))))))))); clear h; intro a w h
 refine cW ?_
 refine Zg h rfl ?_
 refine gC h (zk (zs (zb (zr (zm rfl (zm rfl (zp (.indexAddr rfl rfl (Qa9 _ _)) (zd rfl mr isAgg24 sizeOf24 Zwt ?_))))))))
 refine zv [_] rfl call19 (Zar v4 (by assumption)) ?_
 have hl22 := Qh (q := v4) (by assumption)
 refine zB [(_, _)] rfl (Vp _ _ _ _ _) fun b23 => ?_; intro a w h
 refine Zc (Jy (σr := [(b3, bV (.agg #[.int .i64 v0.1, .int .u32 v0.2, .int .i64 v1.1, .int .u32 v1.2, .int .i64 v2.1, .int .u32 v2.2, .int .i64 v3.1, .int .u32 v3.2, .int .i64 v4.1, .int .u32 v4.2, .int .i64 v5.1, .int .u32 v5.2]) 30)]) h rfl rfl (List.Perm.trans (List.Perm.refl _) (List.Perm.cons _ (List.Perm.refl _))) hG24_3 runUnderlying50 runUnderlying50 typeInfo41 sizeOf41 Jk rfl dd dd rfl rfl dd (by show 56 * (2 * (((((([] : List Rat) ++ [qvp v0]) ++ [qvp v1]) ++ [qvp v2]) ++ [qvp v3]).length + 1) + 192) ≤ 281474976710656; first | omega | (simp only [List.length_append, List.length_cons, List.length_nil]; omega)) dd ?_); clear h
 intro v24_4 o24_4 a w hG24_4 h
 obtain ⟨ad24_4, c24_4, rfl⟩ := hG24_4.is
 have hLn24_4 : ((((([] : List Rat) ++ [qvp v0]) ++ [qvp v1]) ++ [qvp v2]) ++ [qvp v3]).length + 1 = (((((([] : List Rat) ++ [qvp v0]) ++ [qvp v1]) ++ [qvp v2]) ++ [qvp v3]) ++ [qvp v4]).length := lA
 rw [hLn24_4] at h hG24_4
 replace hG24_4 : GrowO 5 41 (.slice ad24_4 (((((([] : List Rat) ++ [qvp v0]) ++ [qvp v1]) ++ [qvp v2]) ++ [qvp v3]) ++ [qvp v4]).length c24_4) (((((([] : List Rat) ++ [qvp v0]) ++ [qvp v1]) ++ [qvp v2]) ++ [qvp v3]) ++ [qvp v4]).length (cellsOf Zz (((((([] : List Rat) ++ [qvp v0]) ++ [qvp v1]) ++ [qvp v2]) ++ [qvp v3]) ++ [qvp v4])) o24_4 := by rw [Zy, Je]; exact hG24_4
 refine gL h (za rfl (zn (zr (zm rfl (zp (Pure1.cast (v' := .int .i64 5) (.add rfl rfl) cgd) (za rfl (zn ?_))))))); clear h; intro a w h
 replace h : St 26 S w0 [(0, .bool true), (3, pB b3), (4, .slice none 0 0), (5, (.slice ad24_4 (((((([] : List Rat) ++ [qvp v0]) ++ [qvp v1]) ++ [qvp v2]) ++ [qvp v3]) ++ [qvp v4]).length c24_4)), (6, .int .i64 5), (15, .bool true)] (o24_4 ++ ((b3, bV (.agg #[.int .i64 v0.1, .int .u32 v0.2, .int .i64 v1.1, .int .u32 v1.2, .int .i64 v2.1, .int .u32 v2.2, .int .i64 v3.1, .int .u32 v3.2, .int .i64 v4.1, .int .u32 v4.2, .int .i64 v5.1, .int .u32 v5.2]) 30) :: [])) [] a w := by exact h.sub sA
 refine Zb ?_
 refine gC h (zs (zS (zm rfl (zp (Pure1.cast (v' := .bool false) (.lss rfl rfl) cgd) (zm rfl (zq 9 rfl rfl (.move rfl) (zq 9 rfl rfl (.move rfl) (zq 11 rfl rfl (.move rfl) (zq 11 rfl rfl (Pure1.cast (v' := .bool true) (.lss rfl rfl) cgd) (zq 9 rfl rfl (.pickT rfl rfl) (zp (.pickF rfl rfl) (zn ?_)))))))))))); clear h; intro a w h
 refine cW ?_
 refine Zg h rfl ?_
 refine gC h (zk (zs (zb (zr (zm rfl (zm rfl (zp (.indexAddr rfl rfl (Qa8 _ _)) (zd rfl mr isAgg24 sizeOf24 Zuk ?_))))))))
 refine zv [_] rfl call19 (Zar v5 (by assumption)) ?_
 have hl22 := Qh (q := v5) (by assumption)
 refine zB [(_, _)] rfl (Vp _ _ _ _ _) fun b23 => ?_; intro a w h
 refine Zc (Jy (σr := [(b3, bV (.agg #[.int .i64 v0.1, .int .u32 v0.2, .int .i64 v1.1, .int .u32 v1.2, .int .i64 v2.1, .int .u32 v2.2, .int .i64 v3.1, .int .u32 v3.2, .int .i64 v4.1, .int .u32 v4.2, .int .i64 v5.1, .int .u32 v5.2]) 30)]) h rfl rfl (List.Perm.trans (List.Perm.refl _) (List.Perm.cons _ (List.Perm.refl _))) hG24_4 runUnderlying50 runUnderlying50 typeInfo41 sizeOf41 Jk rfl dd dd rfl rfl dd (by show 56 * (2 * ((((((([] : List Rat) ++ [qvp v0]) ++ [qvp v1]) ++ [qvp v2]) ++ [qvp v3]) ++ [qvp v4]).length + 1) + 192) ≤ 281474976710656; first | omega | (simp only [List.length_append, List.length_cons, List.length_nil]; omega)) dd ?_); clear h
 intro v24_5 o24_5 a w hG24_5 h
 obtain ⟨ad24_5, c24_5, rfl⟩ := hG24_5.is
 have hLn24_5 : (((((([] : List Rat) ++ [qvp v0]) ++ [qvp v1]) ++ [qvp v2]) ++ [qvp v3]) ++ [qvp v4]).length + 1 = ((((((([] : List Rat) ++ [qvp v0]) ++ [qvp v1]) ++ [qvp v2]) ++ [qvp v3]) ++ [qvp v4]) ++ [qvp v5]).length := lA
 rw [hLn24_5] at h hG24_5
 replace hG24_5 : GrowO 5 41 (.slice ad24_5 ((((((([] : List Rat) ++ [qvp v0]) ++ [qvp v1]) ++ [qvp v2]) ++ [qvp v3]) ++ [qvp v4]) ++ [qvp v5]).length c24_5) ((((((([] : List Rat) ++ [qvp v0]) ++ [qvp v1]) ++ [qvp v2]) ++ [qvp v3]) ++ [qvp v4]) ++ [qvp v5]).length (cellsOf Zz ((((((([] : List Rat) ++ [qvp v0]) ++ [qvp v1]) ++ [qvp v2]) ++ [qvp v3]) ++ [qvp v4]) ++ [qvp v5])) o24_5 := by rw [Zy, Je]; exact hG24_5
 refine gL h (za rfl (zn (zr (zm rfl (zp (Pure1.cast (v' := .int .i64 6) (.add rfl rfl) cgd) (za rfl (zn ?_))))))); clear h; intro a w h
 replace h : St 26 S w0 [(0, .bool true), (3, pB b3), (4, .slice none 0 0), (5, (.slice ad24_5 ((((((([] : List Rat) ++ [qvp v0]) ++ [qvp v1]) ++ [qvp v2]) ++ [qvp v3]) ++ [qvp v4]) ++ [qvp v5]).length c24_5)), (6, .int .i64 6), (15, .bool true)] (o24_5 ++ ((b3, bV (.agg #[.int .i64 v0.1, .int .u32 v0.2, .int .i64 v1.1, .int .u32 v1.2, .int .i64 v2.1, .int .u32 v2.2, .int .i64 v3.1, .int .u32 v3.2, .int .i64 v4.1, .int .u32 v4.2, .int .i64 v5.1, .int .u32 v5.2]) 30) :: [])) [] a w := by exact h.sub sA
 refine Zb ?_
 refine gC h (zs (zS (zm rfl (zp (Pure1.cast (v' := .bool false) (.lss rfl rfl) cgd) (zm rfl (zq 9 rfl rfl (.move rfl) (zq 9 rfl rfl (.move rfl) (zq 11 rfl rfl (.move rfl) (zq 11 rfl rfl (Pure1.cast (v' := .bool false) (.lss rfl rfl) cgd) (zq 9 rfl rfl (.pickT rfl rfl) (zp (.pickF rfl rfl) (zn ?_)))))))))))); clear h; intro a w h
 refine cW ?_
 refine Zf h rfl ?_
 refine gC h (ze (zS (zm rfl ?_))); clear h; intro a w h
 replace h := h.shareO' hS hG24_5
 refine gL h (za rfl (zn (zt ?_))); clear h; intro a w h
 refine Xq (Ψ := [Row ad24_5 (cellsOf Zz [qvp v0, qvp v1, qvp v2, qvp v3, qvp v4, qvp v5])]) h (Zk h rfl (.tmp rfl)) ?_ ss
 exact ⟨ad24_5, c24_5, rfl, rfl⟩
set_option maxHeartbeats 1000000 in
theorem Zrb (q0 q1 q2 : Rat) (L0 L1 L2 : List Tm) (av al a0 a1 a2 : Option Addr) (cv cl c0 c1 c2 : Nat) (hq0 : Zw q0 ≤ 4) (hq1 : Zw q1 ≤ 4) (hq2 : Zw q2 ≤ 4) (hL0 : Pq 2 1200 L0) (hL1 : Pq 2 1200 L1) (hL2 : Pq 2 1200 L2) : Ctr Tryz.prog 14 [.slice av 3 cv, .slice al 3 cl] [Row av (cellsOf Zz [q0, q1, q2]), Row al (List.map Xj [(⟨a0, L0.length, c0⟩ : Vs), (⟨a1, L1.length, c1⟩ : Vs), (⟨a2, L2.length, c2⟩ : Vs)]), Row a0 (cellsOf Zr L0), Row a1 (cellsOf Zr L1), Row a2 (cellsOf Zr L2)] (fun v Ψ => ∃ ad' c', v = .slice ad' (norm (norm (norm (([] : List Tm) ++ norm (Zi q0 L0)) ++ norm (Zi q1 L1)) ++ norm (Zi q2 L2))).length c' ∧ Ψ = [Row ad' (cellsOf Zr (norm (norm (norm (([] : List Tm) ++ norm (Zi q0 L0)) ++ norm (Zi q1 L1)) ++ norm (Zi q2 L2))))]) := by
 refine fn_intro func14 rfl ntmps14 nb ?_
 intro S w0 a hS h
 replace h := h.derive (R := Row none (cellsOf Zr [])) (fun X _ hne => absurd rfl hne)
 obtain ⟨Bv, Ov, rfl⟩ := h.row_addr (ad := av) (M := cellsOf Zz [q0, q1, q2]) mm (by intro e; have := congrArg List.length e; rw [cellsOf_length (k := 5) (fun _ => rfl)] at this; exact absurd this ss)
 obtain ⟨Bl, Ol, rfl⟩ := h.row_addr (ad := al) (M := List.map Xj [(⟨a0, L0.length, c0⟩ : Vs), (⟨a1, L1.length, c1⟩ : Vs), (⟨a2, L2.length, c2⟩ : Vs)]) mm (by intro e; have := congrArg List.length e; rw [List.length_map] at this; exact absurd this ss)
 refine gC h (zS (za rfl (zn (zS (za rfl (zn (zs (zS (za rfl (zn (zb ?_))))))))))); clear h; intro a w h
 refine wp_loop_rounds 4 ?_
 refine Zb ?_
 refine gC h (zs (zS (zm rfl (zm rfl (zp (.builtin [_] rfl (Jm _ _ _)) (zp (Pure1.cast (v' := .bool true) (.lss rfl rfl) cgd) (zn ?_))))))); clear h; intro a w h
 refine cW ?_
 refine Zg h rfl ?_
 refine gC h (zk (zs (zb (yD Za [0, 1, 2, 3, 4, 5, 6, 7, 8, 9, 10, 11] (Ze kk) (ym rfl rfl (ym rfl rfl (ym rfl rfl (yp rfl (.indexAddr rfl rfl (Zgq _ _ _ _ _ (by exact ixd))) ?_)))))))); clear h
 refine Zp rfl kk rfl mm (by rw [List.length_map]; exact ixd) isAgg65 sizeOf65 (Zv (enc := Xj) (l := ([(⟨a0, L0.length, c0⟩ : Vs), (⟨a1, L1.length, c1⟩ : Vs), (⟨a2, L2.length, c2⟩ : Vs)])) vs0 (by exact ixd)) (.inr rfl) dd ?_
 refine ym rfl rfl (ym rfl rfl (yp rfl (.indexAddr rfl rfl (Zc5 _ _ _ _ _ (by exact ixd))) ?_))
 refine Zp rfl kk rfl mm (cells_lt (k := 5) dd (fun _ => rfl) ([q0, q1, q2]) 0 (by exact ixd)) isAgg41 sizeOf41 (Zn (k := 5) (fun _ => rfl) ((fun _ => rfl)) ([q0, q1, q2]) 0 0 (by exact ixd)) (.inl rfl) dd ?_
 refine Qs rfl kk (vs := [_, _]) rfl call57 (Zag L0 _ _ 2 1200 hL0 dd dd q0 4 hq0 dd) (by exact hsA) dd ?_; rintro v22 Ψ22 ⟨ad22_0, c22_0, rfl, rfl⟩
 refine Qs rfl kk (vs := [_, _]) rfl call46 (Yv ([] : List Tm) (norm (Zi q0 L0)) _ _ _ _ 0 2 1 1205 (Pq.nil 0) (hL0.scale (c := q0) (Kc := 4) hq0 dd) dd dd dd dd) (by exact hsA) dd ?_; rintro v23 Ψ23 ⟨ad23_0, c23_0, rfl, rfl⟩
 refine yp rfl (.assign rfl) (yn (zr (zm rfl (zp (Pure1.cast (v' := .int .i64 1) (.add rfl rfl) cgd) (za rfl (zn ?_)))))); intro a w h
 replace h : St 25 S w0 [(0, _), (1, _), (4, .slice none 0 0), (5, _), (6, .int .i64 1), (10, .bool true)] _ [Row ad23_0 (cellsOf Zr (norm (([] : List Tm) ++ norm (Zi q0 L0)))), Row none (cellsOf Zr []), Row (some ⟨Bv, Ov, none⟩) (cellsOf Zz [q0, q1, q2]), Row (some ⟨Bl, Ol, none⟩) (List.map Xj [(⟨a0, L0.length, c0⟩ : Vs), (⟨a1, L1.length, c1⟩ : Vs), (⟨a2, L2.length, c2⟩ : Vs)]), Row a0 (cellsOf Zr L0), Row a1 (cellsOf Zr L1), Row a2 (cellsOf Zr L2)] a w := (h.factsSub (by exact hsA)).sub sA
 refine Zb ?_
 refine gC h (zs (zS (zm rfl (zm rfl (zp (.builtin [_] rfl (Jm _ _ _)) (zp (Pure1.cast (v' := .bool true) (.lss rfl rfl) cgd) (zn ?_))))))); clear h; intro a w h
 refine cW ?_
 refine Zg h rfl ?_
 refine gC h (zk (zs (zb (yD Za [0, 1, 2, 3, 4, 5, 6, 7, 8, 9, 10, 11] (Ze kk) (ym rfl rfl (ym rfl rfl (ym rfl rfl (yp rfl (.indexAddr rfl rfl (Zgq _ _ _ _ _ (by exact ixd))) ?_)))))))); clear h
 refine Zp rfl kk rfl mm (by rw [List.length_map]; exact ixd) isAgg65 sizeOf65 (Zv (enc := Xj) (l := ([(⟨a0, L0.length, c0⟩ : Vs), (⟨a1, L1.length, c1⟩ : Vs), (⟨a2, L2.length, c2⟩ : Vs)])) vs0 (by exact ixd)) (.inr rfl) dd ?_
 refine ym rfl rfl (ym rfl rfl (yp rfl (.indexAddr rfl rfl (Zc5 _ _ _ _ _ (by exact ixd))) ?_))
 refine Zp rfl kk rfl mm (cells_lt (k := 5) dd (fun _ => rfl) ([q0, q1, q2]) 1 (by exact ixd)) isAgg41 sizeOf41 (Zn (k := 5) (fun _ => rfl) ((fun _ => rfl)) ([q0, q1, q2]) 0 1 (by exact ixd)) (.inl rfl) dd ?_
 refine Qs rfl kk (vs := [_, _]) rfl call57 (Zag L1 _ _ 2 1200 hL1 dd dd q1 4 hq1 dd) (by exact hsA) dd ?_; rintro v22 Ψ22 ⟨ad22_1, c22_1, rfl, rfl⟩
 refine Qs rfl kk (vs := [_, _]) rfl call46 (Yv (norm (([] : List Tm) ++ norm (Zi q0 L0))) (norm (Zi q1 L1)) _ _ _ _ 2 2 1208 1205 (Pq.mono (d' := 2) ((Pq.nil 0).add (hL0.scale (c := q0) (Kc := 4) hq0 dd) dd dd) dd (Nat.le_refl _)) (hL1.scale (c := q1) (Kc := 4) hq1 dd) dd dd dd dd) (by exact hsA) dd ?_; rintro v23 Ψ23 ⟨ad23_1, c23_1, rfl, rfl⟩
 refine yp rfl (.assign rfl) (yn (zr (zm rfl (zp (Pure1.cast (v' := .int .i64 2) (.add rfl rfl) cgd) (za rfl (zn ?_)))))); intro a w h
 replace h : St 25 S w0 [(0, _), (1, _), (4, .slice none 0 0), (5, _), (6, .int .i64 2), (10, .bool true)] _ [Row ad23_1 (cellsOf Zr (norm (norm (([] : List Tm) ++ norm (Zi q0 L0)) ++ norm (Zi q1 L1)))), Row none (cellsOf Zr []), Row (some ⟨Bv, Ov, none⟩) (cellsOf Zz [q0, q1, q2]), Row (some ⟨Bl, Ol, none⟩) (List.map Xj [(⟨a0, L0.length, c0⟩ : Vs), (⟨a1, L1.length, c1⟩ : Vs), (⟨a2, L2.length, c2⟩ : Vs)]), Row a0 (cellsOf Zr L0), Row a1 (cellsOf Zr L1), Row a2 (cellsOf Zr L2)] a w := (h.factsSub (by exact hsA)).sub sA
 refine Zb ?_
 refine gC h (zs (zS (zm rfl (zm rfl (zp (.builtin [_] rfl (Jm _ _ _)) (zp (Pure1.cast (v' := .bool true) (.lss rfl rfl) cgd) (zn ?_))))))); clear h; intro a w h
 refine cW ?_
 refine Zg h rfl ?_
 refine gC h (zk (zs (zb (yD Za [0, 1, 2, 3, 4, 5, 6, 7, 8, 9, 10, 11] (Ze kk) (ym rfl rfl (ym rfl rfl (ym rfl rfl (yp rfl (.indexAddr rfl rfl (Zgq _ _ _ _ _ (by exact ixd))) ?_)))))))); clear h
 refine Zp rfl kk rfl mm (by rw [List.length_map]; exact ixd) isAgg65 sizeOf65 (Zv (enc := Xj) (l := ([(⟨a0, L0.length, c0⟩ : Vs), (⟨a1, L1.length, c1⟩ : Vs), (⟨a2, L2.length, c2⟩ : Vs)])) vs0 (by exact ixd)) (.inr rfl) dd ?_
 refine ym rfl rfl (ym rfl rfl (yp rfl (.indexAddr rfl rfl (Zc5 _ _ _ _ _ (by exact ixd))) ?_))
 refine Zp rfl kk rfl mm (cells_lt (k := 5) dd (fun _ => rfl) ([q0, q1, q2]) 2 (by exact ixd)) isAgg41 sizeOf41 (Zn (k := 5) (fun _ => rfl) ((fun _ => rfl)) ([q0, q1, q2]) 0 2 (by exact ixd)) (.inl rfl) dd ?_
 refine Qs rfl kk (vs := [_, _]) rfl call57 (Zag L2 _ _ 2 1200 hL2 dd dd q2 4 hq2 dd) (by exact hsA) dd ?_; rintro v22 Ψ22 ⟨ad22_2, c22_2, rfl, rfl⟩
 refine Qs rfl kk (vs := [_, _]) rfl call46 (Yv (norm (norm (([] : List Tm) ++ norm (Zi q0 L0)) ++ norm (Zi q1 L1))) (norm (Zi q2 L2)) _ _ _ _ 2 2 2415 1205 ((Pq.mono (d' := 2) ((Pq.nil 0).add (hL0.scale (c := q0) (Kc := 4) hq0 dd) dd dd) dd (Nat.le_refl _)).add (hL1.scale (c := q1) (Kc := 4) hq1 dd) dd dd) (hL2.scale (c := q2) (Kc := 4) hq2 dd) dd dd dd dd) (by exact hsA) dd ?_; rintro v23 Ψ23 ⟨ad23_2, c23_2, rfl, rfl⟩
 refine yp rfl (.assign rfl) (yn (zr (zm rfl (zp (Pure1.cast (v' := .int .i64 3) (.add rfl rfl) cgd) (za rfl (zn ?_)))))); intro a w h
 replace h : St 25 S w0 [(0, _), (1, _), (4, .slice none 0 0), (5, _), (6, .int .i64 3), (10, .bool true)] _ [Row ad23_2 (cellsOf Zr (norm (norm (norm (([] : List Tm) ++ norm (Zi q0 L0)) ++ norm (Zi q1 L1)) ++ norm (Zi q2 L2)))), Row none (cellsOf Zr []), Row (some ⟨Bv, Ov, none⟩) (cellsOf Zz [q0, q1, q2]), Row (some ⟨Bl, Ol, none⟩) (List.map Xj [(⟨a0, L0.length, c0⟩ : Vs), (⟨a1, L1.length, c1⟩ : Vs), (⟨a2, L2.length, c2⟩ : Vs)]), Row a0 (cellsOf Zr L0), Row a1 (cellsOf Zr L1), Row a2 (cellsOf Zr L2)] a w := (h.factsSub (by exact hsA)).sub sA
 refine Zb ?_
 refine gC h (zs (zS (zm rfl (zm rfl (zp (.builtin [_] rfl (Jm _ _ _)) (zp (Pure1.cast (v' := .bool false) (.lss rfl rfl) cgd) (zn ?_))))))); clear h; intro a w h
 refine cW ?_
 refine Zf h rfl ?_
 refine gC h (ze (zS (zm rfl (za rfl (zn (zt ?_)))))); clear h; intro a w h
 refine Xq (Ψ := [Row ad23_2 (cellsOf Zr (norm (norm (norm (([] : List Tm) ++ norm (Zi q0 L0)) ++ norm (Zi q1 L1)) ++ norm (Zi q2 L2))))]) h (Zk h rfl (.tmp rfl)) ?_ ss
 exact ⟨_, _, rfl, rfl⟩
set_option maxHeartbeats 1000000 in
theorem Zra (q0 q1 q2 q3 q4 q5 : Rat) (L0 L1 L2 L3 L4 L5 : List Tm) (av al a0 a1 a2 a3 a4 a5 : Option Addr) (cv cl c0 c1 c2 c3 c4 c5 : Nat) (hq0 : Zw q0 ≤ 4) (hq1 : Zw q1 ≤ 4) (hq2 : Zw q2 ≤ 4) (hq3 : Zw q3 ≤ 4) (hq4 : Zw q4 ≤ 4) (hq5 : Zw q5 ≤ 4) (hL0 : Pq 2 1200 L0) (hL1 : Pq 2 1200 L1) (hL2 : Pq 2 1200 L2) (hL3 : Pq 2 1200 L3) (hL4 : Pq 2 1200 L4) (hL5 : Pq 2 1200 L5) : Ctr Tryz.prog 14 [.slice av 6 cv, .slice al 6 cl] [Row av (cellsOf Zz [q0, q1, q2, q3, q4, q5]), Row al (List.map Xj [(⟨a0, L0.length, c0⟩ : Vs), (⟨a1, L1.length, c1⟩ : Vs), (⟨a2, L2.length, c2⟩ : Vs), (⟨a3, L3.length, c3⟩ : Vs), (⟨a4, L4.length, c4⟩ : Vs), (⟨a5, L5.length, c5⟩ : Vs)]), Row a0 (cellsOf Zr L0), Row a1 (cellsOf Zr L1), Row a2 (cellsOf Zr L2), Row a3 (cellsOf Zr L3), Row a4 (cellsOf Zr L4), Row a5 (cellsOf Zr L5)] (fun v Ψ => ∃ ad' c', v = .slice ad' (norm (norm (norm (norm (norm (norm (([] : List Tm) ++ norm (Zi q0 L0)) ++ norm (Zi q1 L1)) ++ norm (Zi q2 L2)) ++ norm (Zi q3 L3)) ++ norm (Zi q4 L4)) ++ norm (Zi q5 L5))).length c' ∧ Ψ = [Row ad' (cellsOf Zr (norm (norm (norm (norm (norm (norm (([] : List Tm) ++ norm (Zi q0 L0)) ++ norm (Zi q1 L1)) ++ norm (Zi q2 L2)) ++ norm (Zi q3 L3)) ++ norm (Zi q4 L4)) ++ norm (Zi q5 L5))))]) := by
 refine fn_intro func14 rfl ntmps14 nb ?_
 intro S w0 a hS h
 replace h := h.derive (R := Row none (cellsOf Zr [])) (fun X _ hne => absurd rfl hne)
 obtain ⟨Bv, Ov, rfl⟩ := h.row_addr (ad := av) (M := cellsOf Zz [q0, q1, q2, q3, q4, q5]) mm (by intro e; have := congrArg List.length e; rw [cellsOf_length (k := 5) (fun _ => rfl)] at this; exact absurd this ss)
 obtain ⟨Bl, Ol, rfl⟩ := h.row_addr (ad := al) (M := List.map Xj [(⟨a0, L0.length, c0⟩ : Vs), (⟨a1, L1.length, c1⟩ : Vs), (⟨a2, L2.length, c2⟩ : Vs), (⟨a3, L3.length, c3⟩ : Vs), (⟨a4, L4.length, c4⟩ : Vs), (⟨a5, L5.length, c5⟩ : Vs)]) mm (by intro e; have := congrArg List.length e; rw [List.length_map] at this; exact absurd this ss)
 refine gC h (zS (za rfl (zn (zS (za rfl (zn (zs (zS (za rfl (zn (zb ?_))))))))))); clear h; intro a w h
 refine wp_loop_rounds 7 ?_
 refine Zb ?_
 refine gC h (zs (zS (zm rfl (zm rfl (zp (.builtin [_] rfl (Jm _ _ _)) (zp (Pure1.cast (v' := .bool true) (.lss rfl rfl) cgd) (zn ?_))))))); clear h; intro a w h
 refine cW ?_
 refine Zg h rfl ?_
 refine gC h (zk (zs (zb (yD Za [0, 1, 2, 3, 4, 5, 6, 7, 8, 9, 10, 11] (Ze kk) (ym rfl rfl (ym rfl rfl (ym rfl rfl (yp rfl (.indexAddr rfl rfl (Zgq _ _ _ _ _ (by exact ixd))) ?_)))))))); clear h
 refine Zp rfl kk rfl mm (by rw [List.length_map]; exact ixd) isAgg65 sizeOf65 (Zv (enc := Xj) (l := ([(⟨a0, L0.length, c0⟩ : Vs), (⟨a1, L1.length, c1⟩ : Vs), (⟨a2, L2.length, c2⟩ : Vs), (⟨a3, L3.length, c3⟩ : Vs), (⟨a4, L4.length, c4⟩ : Vs), (⟨a5, L5.length, c5⟩ : Vs)])) vs0 (by exact ixd)) (.inr rfl) dd ?_
 refine ym rfl rfl (ym rfl rfl (yp rfl (.indexAddr rfl rfl (Zc5 _ _ _ _ _ (by exact ixd))) ?_))
 refine Zp rfl kk rfl mm (cells_lt (k := 5) dd (fun _ => rfl) ([q0, q1, q2, q3, q4, q5]) 0 (by exact ixd)) isAgg41 sizeOf41 (Zn (k := 5) (fun _ => rfl) ((fun _ => rfl)) ([q0, q1, q2, q3, q4, q5]) 0 0 (by exact ixd)) (.inl rfl) dd ?_
 refine Qs rfl kk (vs := [_, _]) rfl call57 (Zag L0 _ _ 2 1200 hL0 dd dd q0 4 hq0 dd) (by exact hsA) dd ?_; rintro v22 Ψ22 ⟨ad22_0, c22_0, rfl, rfl⟩
 refine Qs rfl kk (vs := [_, _]) rfl call46 (Yv ([] : List Tm) (norm (Zi q0 L0)) _ _ _ _ 0 2 1 1205 (Pq.nil 0) (hL0.scale (c := q0) (Kc := 4) hq0 dd) dd dd dd dd) (by exact hsA) dd ?_; rintro v23 Ψ23 ⟨ad23_0, c23_0, rfl, rfl⟩
 refine yp rfl (.assign rfl) (yn (zr (zm rfl (zp (Pure1.cast (v' := .int .i64 1) (.add rfl rfl) cgd) (za rfl (zn ?_)))))); intro a w h
 replace h : St 25 S w0 [(0, _), (1, _), (4, .slice none 0 0), (5, _), (6, .int .i64 1), (10, .bool true)] _ [Row ad23_0 (cellsOf Zr (norm (([] : List Tm) ++ norm (Zi q0 L0)))), Row none (cellsOf Zr []), Row (some ⟨Bv, Ov, none⟩) (cellsOf Zz [q0, q1, q2, q3, q4, q5]), Row (some ⟨Bl, Ol, none⟩) (List.map Xj [(⟨a0, L0.length, c0⟩ : Vs), (⟨a1, L1.length, c1⟩ : Vs), (⟨a2, L2.length, c2⟩ : Vs), (⟨a3, L3.length, c3⟩ : Vs), (⟨a4, L4.length, c4⟩ : Vs), (⟨a5, L5.length, c5⟩ : Vs)]), Row a0 (cellsOf Zr L0), Row a1 (cellsOf Zr L1), Row a2 (cellsOf Zr L2), Row a3 (cellsOf Zr L3), Row a4 (cellsOf Zr L4), Row a5 (cellsOf Zr L5)] a w := (h.factsSub (by exact hsA)).sub sA
 refine Zb ?_
 refine gC h (zs (zS (zm rfl (zm rfl (zp (.builtin [_] rfl (Jm _ _ _)) (zp (Pure1.cast (v' := .bool true) (.lss rfl rfl) cgd) (zn ?_))))))); clear h; intro a w h
 refine cW ?_
 refine Zg h rfl ?_
 refine gC h (zk (zs (zb (yD Za [0, 1, 2, 3, 4, 5, 6, 7, 8, 9, 10, 11] (Ze kk) (ym rfl rfl (ym rfl rfl (ym rfl rfl (yp rfl (.indexAddr rfl rfl (Zgq _ _ _ _ _ (by exact ixd))) ?_)))))))); clear h
 refine Zp rfl kk rfl mm (by rw [List.length_map]; exact ixd) isAgg65 sizeOf65 (Zv (enc := Xj) (l := ([(⟨a0, L0.length, c0⟩ : Vs), (⟨a1, L1.length, c1⟩ : Vs), (⟨a2, L2.length, c2⟩ : Vs), (⟨a3, L3.length, c3⟩ : Vs), (⟨a4, L4.length, c4⟩ : Vs), (⟨a5, L5.length, c5⟩ : Vs)])) vs0 (by exact ixd)) (.inr rfl) dd ?_
 refine ym rfl rfl (ym rfl rfl (yp rfl (.indexAddr rfl rfl (Zc5 _ _ _ _ _ (by exact ixd))) ?_))
 refine Zp rfl kk rfl mm (cells_lt (k := 5) dd (fun _ => rfl) ([q0, q1, q2, q3, q4, q5]) 1 (by exact ixd)) isAgg41 sizeOf41 (Zn (k := 5) (fun _ => rfl) ((fun _ => rfl)) ([q0, q1, q2, q3, q4, q5]) 0 1 (by exact ixd)) (.inl rfl) dd ?_
 refine Qs rfl kk (vs := [_, _]) rfl call57 (Zag L1 _ _ 2 1200 hL1 dd dd q1 4 hq1 dd) (by exact hsA) dd ?_; rintro v22 Ψ22 ⟨ad22_1, c22_1, rfl, rfl⟩
 refine Qs rfl kk (vs := [_, _]) rfl call46 (Yv (norm (([] : List Tm) ++ norm (Zi q0 L0))) (norm (Zi q1 L1)) _ _ _ _ 2 2 1208 1205 (Pq.mono (d' := 2) ((Pq.nil 0).add (hL0.scale (c := q0) (Kc := 4) hq0 dd) dd dd) dd (Nat.le_refl _)) (hL1.scale (c := q1) (Kc := 4) hq1 dd) dd dd dd dd) (by exact hsA) dd ?_; rintro v23 Ψ23 ⟨ad23_1, c23_1, rfl, rfl⟩
 refine yp rfl (.assign rfl) (yn (zr (zm rfl (zp (Pure1.cast (v' := .int .i64 2) (.add rfl rfl) cgd) (za rfl (zn ?_)))))); intro a w h
 replace h : St 25 S w0 [(0, _), (1, _), (4, .slice none 0 0), (5, _), (6, .int .i64 2), (10, .bool true)] _ [Row ad23_1 (cellsOf Zr (norm (norm (([] : List Tm) ++ norm (Zi q0 L0)) ++ norm (Zi q1 L1)))), Row none (cellsOf Zr []), Row (some ⟨Bv, Ov, none⟩) (cellsOf Zz [q0, q1, q2, q3, q4, q5]), Row (some ⟨Bl, Ol, none⟩) (List.map Xj [(⟨a0, L0.length, c0⟩ : Vs), (⟨a1, L1.length, c1⟩ : Vs), (⟨a2, L2.length, c2⟩ : Vs), (⟨a3, L3.length, c3⟩ : Vs), (⟨a4, L4.length, c4⟩ : Vs), (⟨a5, L5.length, c5⟩ : Vs)]), Row a0 (cellsOf Zr L0), Row a1 (cellsOf Zr L1), Row a2 (cellsOf Zr L2), Row a3 (cellsOf Zr L3), Row a4 (cellsOf Zr L4), Row a5 (cellsOf Zr L5)] a w := (h.factsSub (by exact hsA)).sub sA
 refine Zb ?_
 refine gC h (zs (zS (zm rfl (zm rfl (zp (.builtin [_] rfl (Jm _ _ _)) (zp (Pure1.cast (v' := .bool true) (.lss rfl rfl) cgd) (zn ?_))))))); clear h; intro a w h
 refine cW ?_
 refine Zg h rfl ?_
 refine gC h (zk (zs (zb (yD Za [0, 1, 2, 3, 4, 5, 6, 7, 8, 9, 10, 11] (Ze kk) (ym rfl rfl (ym rfl rfl (ym rfl rfl (yp rfl (.indexAddr rfl rfl (Zgq _ _ _ _ _ (by exact ixd))) ?_)))))))); clear h
 refine Zp rfl kk rfl mm (by rw [List.length_map]; exact ixd) isAgg65 sizeOf65 (Zv (enc := Xj) (l := ([(⟨a0, L0.length, c0⟩ : Vs), (⟨a1, L1.length, c1⟩ : Vs), (⟨a2, L2.length, c2⟩ : Vs), (⟨a3, L3.length, c3⟩ : Vs), (⟨a4, L4.length, c4⟩ : Vs), (⟨a5, L5.length, c5⟩ : Vs)])) vs0 (by exact ixd)) (.inr rfl) dd ?_
 refine ym rfl rfl (ym rfl rfl (yp rfl (.indexAddr rfl rfl (Zc5 _ _ _ _ _ (by exact ixd))) ?_))
 refine Zp rfl kk rfl mm (cells_lt (k := 5) dd (fun _ => rfl) ([q0, q1, q2, q3, q4, q5]) 2 (by exact ixd)) isAgg41 sizeOf41 (Zn (k := 5) (fun _ => rfl) ((fun _ => rfl)) ([q0, q1, q2, q3, q4, q5]) 0 2 (by exact ixd)) (.inl rfl) dd ?_
 refine Qs rfl kk (vs := [_, _]) rfl call57 (Zag L2 _ _ 2 1200 hL2 dd dd q2 4 hq2 dd) (by exact hsA) dd ?_; rintro v22 Ψ22 ⟨ad22_2, c22_2, rfl, rfl⟩
 refine Qs rfl kk (vs := [_, _]) rfl call46 (Yv (norm (norm (([] : List Tm) ++ norm (Zi q0 L0)) ++ norm (Zi q1 L1))) (norm (Zi q2 L2)) _ _ _ _ 2 2 2415 1205 ((Pq.mono (d' := 2) ((Pq.nil 0).add (hL0.scale (c := q0) (Kc := 4) hq0 dd) dd dd) dd (Nat.le_refl _)).add (hL1.scale (c := q1) (Kc := 4) hq1 dd) dd dd) (hL2.scale (c := q2) (Kc := 4) hq2 dd) dd dd dd dd) (by exact hsA) dd ?_; rintro v23 Ψ23 ⟨ad23_2, c23_2, rfl, rfl⟩
 refine yp rfl (.assign rfl) (yn (zr (zm rfl (zp (Pure1.cast (v' := .int .i64 3) (.add rfl rfl) cgd) (za rfl (zn ?_)))))); intro a w h
 replace h : St 25 S w0 [(0, _), (1, _), (4, .slice none 0 0), (5, _), (6, .int .i64 3), (10, .bool true)] _ [Row ad23_2 (cellsOf Zr (norm (norm (norm (([] : List Tm) ++ norm (Zi q0 L0)) ++ norm (Zi q1 L1)) ++ norm (Zi q2 L2)))), Row none (cellsOf Zr []), Row (some ⟨Bv, Ov, none⟩) (cellsOf Zz [q0, q1, q2, q3, q4, q5]), Row (some ⟨Bl, Ol, none⟩) (List.map Xj [(⟨a0, L0.length, c0⟩ : Vs), (⟨a1, L1.length, c1⟩ : Vs), (⟨a2, L2.length, c2⟩ : Vs), (⟨a3, L3.length, c3⟩ : Vs), (⟨a4, L4.length, c4⟩ : Vs), (⟨a5, L5.length, c5⟩ : Vs)]), Row a0 (cellsOf Zr L0), Row a1 (cellsOf Zr L1), Row a2 (cellsOf Zr L2), Row a3 (cellsOf Zr L3), Row a4 (cellsOf Zr L4), Row a5 (cellsOf Zr L5)] a w := (h.factsSub (by exact hsA)).sub sA
 refine Zb ?_
 refine gC h (zs (zS (zm rfl (zm rfl (zp (.builtin [_] rfl (Jm _ _ _)) (zp (Pure1.cast (v' := .bool true) (.lss rfl rfl) cgd) (zn ?_))))))); clear h; intro a w h
 refine cW ?_
 refine Zg h rfl ?_
 refine gC h (zk (zs (zb (yD Za [0, 1, 2, 3, 4, 5, 6, 7, 8, 9, 10, 11] (Ze kk) (ym rfl rfl (ym rfl rfl (ym rfl rfl (yp rfl (.indexAddr rfl rfl (Zgq _ _ _ _ _ (by exact ixd))) ?_)))))))); clear h
 refine Zp rfl kk rfl mm (by rw [List.length_map]; exact ixd) isAgg65 sizeOf65 (Zv (enc := Xj) (l := ([(⟨a0, L0.length, c0⟩ : Vs), (⟨a1, L1.length, c1⟩ : Vs), (⟨a2, L2.length, c2⟩ : Vs), (⟨a3, L3.length, c3⟩ : Vs), (⟨a4, L4.length, c4⟩ : Vs), (⟨a5, L5.length, c5⟩ : Vs)])) vs0 (by exact ixd)) (.inr rfl) dd ?_
 refine ym rfl rfl (ym rfl rfl (yp rfl (.indexAddr rfl rfl (Zc5 _ _ _ _ _ (by exact ixd))) ?_))
 refine Zp rfl kk rfl mm (cells_lt (k := 5) dd (fun _ => rfl) ([q0, q1, q2, q3, q4, q5]) 3 (by exact ixd)) isAgg41 sizeOf41 (Zn (k := 5) (fun _ => rfl) ((fun _ => rfl)) ([q0, q1, q2, q3, q4, q5]) 0 3 (by exact ixd)) (.inl rfl) dd ?_
 refine Qs rfl kk (vs := [_, _]) rfl call57 (Zag L3 _ _ 2 1200 hL3 dd dd q3 4 hq3 dd) (by exact hsA) dd ?_; rintro v22 Ψ22 ⟨ad22_3, c22_3, rfl, rfl⟩
 refine Qs rfl kk (vs := [_, _]) rfl call46 (Yv (norm (norm (norm (([] : List Tm) ++ norm (Zi q0 L0)) ++ norm (Zi q1 L1)) ++ norm (Zi q2 L2))) (norm (Zi q3 L3)) _ _ _ _ 2 2 3622 1205 (((Pq.mono (d' := 2) ((Pq.nil 0).add (hL0.scale (c := q0) (Kc := 4) hq0 dd) dd dd) dd (Nat.le_refl _)).add (hL1.scale (c := q1) (Kc := 4) hq1 dd) dd dd).add (hL2.scale (c := q2) (Kc := 4) hq2 dd) dd dd) (hL3.scale (c := q3) (Kc := 4) hq3 dd) dd dd dd dd) (by exact hsA) dd ?_; rintro v23 Ψ23 ⟨ad23_3, c23_3, rfl, rfl⟩
 refine yp rfl (.assign rfl) (yn (zr (zm rfl (zp (Pure1.cast (v' := .int .i64 4) (.add rfl rfl) cgd) (za rfl (zn ?_)))))); intro a w h
 replace h : St 25 S w0 [(0, _), (1, _), (4, .slice none 0 0), (5, _), (6, .int .i64 4), (10, .bool true)] _ [Row ad23_3 (cellsOf Zr (norm (norm (norm (norm (([] : List Tm) ++ norm (Zi q0 L0)) ++ norm (Zi q1 L1)) ++ norm (Zi q2 L2)) ++ norm (Zi q3 L3)))), Row none (cellsOf Zr []), Row (some ⟨Bv, Ov, none⟩) (cellsOf Zz [q0, q1, q2, q3, q4, q5]), Row (some ⟨Bl, Ol, none⟩) (List.map Xj [(⟨a0, L0.length, c0⟩ : Vs), (⟨a1, L1.length, c1⟩ : Vs), (⟨a2, L2.length, c2⟩ : Vs), (⟨a3, L3.length, c3⟩ : Vs), (⟨a4, L4.length, c4⟩ : Vs), (⟨a5, L5.length, c5⟩ : Vs)]), Row a0 (cellsOf Zr L0), Row a1 (cellsOf Zr L1), Row a2 (cellsOf Zr L2), Row a3 (cellsOf Zr L3), Row a4 (cellsOf Zr L4), Row a5 (cellsOf Zr L5)] a w := (h.factsSub (by exact hsA)).sub sA
 refine Zb ?_
 refine gC h (zs (zS (zm rfl (zm rfl (zp (.builtin [_] rfl (Jm _ _ _)) (zp (Pure1.cast (v' := .bool true) (.lss rfl rfl) cgd) (zn ?_))))))); clear h; intro a w h
 refine cW ?_
 refine Zg h rfl ?_
 refine gC h (zk (zs (zb (yD Za [0, 1, 2, 3, 4, 5, 6, 7, 8, 9, 10, 11] (Ze kk) (ym rfl rfl (ym rfl rfl (ym rfl rfl (yp rfl (.indexAddr rfl rfl (Zgq _ _ _ _ _ (by exact ixd))) ?_)))))))); clear h
 refine Zp rfl kk rfl mm (by rw [List.length_map]; exact ixd) isAgg65 sizeOf65 (Zv (enc := Xj) (l := ([(⟨a0, L0.length, c0⟩ : Vs), (⟨a1, L1.length, c1⟩ : Vs), (⟨a2, L2.length, c2⟩ : Vs), (⟨a3, L3.length, c3⟩ : Vs), (⟨a4, L4.length, c4⟩ : Vs), (⟨a5, L5.length, c5⟩ : Vs)])) vs0 (by exact ixd)) (.inr rfl) dd ?_
 refine ym rfl rfl (ym rfl rfl (yp rfl (.indexAddr rfl rfl (Zc5 _ _ _ _ _ (by exact ixd))) ?_))
 refine Zp rfl kk rfl mm (cells_lt (k := 5) dd (fun _ => rfl) ([q0, q1, q2, q3, q4, q5]) 4 (by exact ixd)) isAgg41 sizeOf41 (Zn (k := 5) (fun _ => rfl) ((fun _ => rfl)) ([q0, q1, q2, q3, q4, q5]) 0 4 (by exact ixd)) (.inl rfl) dd ?_
 refine Qs rfl kk (vs := [_, _]) rfl call57 (Zag L4 _ _ 2 1200 hL4 dd dd q4 4 hq4 dd) (by exact hsA) dd ?_; rintro v22 Ψ22 ⟨ad22_4, c22_4, rfl, rfl⟩
 refine Qs rfl kk (vs := [_, _]) rfl call46 (Yv (norm (norm (norm (norm (([] : List Tm) ++ norm (Zi q0 L0)) ++ norm (Zi q1 L1)) ++ norm (Zi q2 L2)) ++ norm (Zi q3 L3))) (norm (Zi q4 L4)) _ _ _ _ 2 2 4829 1205 ((((Pq.mono (d' := 2) ((Pq.nil 0).add (hL0.scale (c := q0) (Kc := 4) hq0 dd) dd dd) dd (Nat.le_refl _)).add (hL1.scale (c := q1) (Kc := 4) hq1 dd) dd dd).add (hL2.scale (c := q2) (Kc := 4) hq2 dd) dd dd).add (hL3.scale (c := q3) (Kc := 4) hq3 dd) dd dd) (hL4.scale (c := q4) (Kc := 4) hq4 dd) dd dd dd dd) (by exact hsA) dd ?_; rintro v23 Ψ23 ⟨ad23_4, c23_4, rfl, rfl⟩
 refine yp rfl (.assign rfl) (yn (zr (zm rfl (zp (Pure1.cast (v' := .int .i64 5) (.add rfl rfl) cgd) (za rfl (zn ?_)))))); intro a w h
 replace h : St 25 S w0 [(0, _), (1, _), (4, .slice none 0 0), (5, _), (6, .int .i64 5), (10, .bool true)] _ [Row ad23_4 (cellsOf Zr (norm (norm (norm (norm (norm (([] : List Tm) ++ norm (Zi q0 L0)) ++ norm (Zi q1 L1)) ++ norm (Zi q2 L2)) ++ norm (Zi q3 L3)) ++ norm (Zi q4 L4)))), Row none (cellsOf Zr []), Row (some ⟨Bv, Ov, none⟩) (cellsOf Zz [q0, q1, q2, q3, q4, q5]), Row (some ⟨Bl, Ol, none⟩) (List.map Xj [(⟨a0, L0.length, c0⟩ : Vs), (⟨a1, L1.length, c1⟩ : Vs), (⟨a2, L2.length, c2⟩ : Vs), (⟨a3, L3.length, c3⟩ : Vs), (⟨a4, L4.length, c4⟩ : Vs), (⟨a5, L5.length, c5⟩ : Vs)]), Row a0 (cellsOf Zr L0), Row a1 (cellsOf Zr L1), Row a2 (cellsOf Zr L2), Row a3 (cellsOf Zr L3), Row a4 (cellsOf Zr L4), Row a5 (cellsOf Zr L5)] a w := (h.factsSub (by exact hsA)).sub sA
 refine Zb ?_
 refine gC h (zs (zS (zm rfl (zm rfl (zp (.builtin [_] rfl (Jm _ _ _)) (zp (Pure1.cast (v' := .bool true) (.lss rfl rfl) cgd) (zn ?_))))))); clear h; intro a w h
 refine cW ?_
 refine Zg h rfl ?_
 refine gC h (zk (zs (zb (yD Za [0, 1, 2, 3, 4, 5, 6, 7, 8, 9, 10, 11] (Ze kk) (ym rfl rfl (ym rfl rfl (ym rfl rfl (yp rfl (.indexAddr rfl rfl (Zgq _ _ _ _ _ (by exact ixd))) ?_)))))))); clear h
 refine Zp rfl kk rfl mm (by rw [List.length_map]; exact ixd) isAgg65 sizeOf65 (Zv (enc := Xj) (l := ([(⟨a0, L0.length, c0⟩ : Vs), (⟨a1, L1.length, c1⟩ : Vs), (⟨a2, L2.length, c2⟩ : Vs), (⟨a3, L3.length, c3⟩ : Vs), (⟨a4, L4.length, c4⟩ : Vs), (⟨a5, L5.length, c5⟩ : Vs)])) vs0 (by exact ixd)) (.inr rfl) dd ?_
 refine ym rfl rfl (ym rfl rfl (yp rfl (.indexAddr rfl rfl (Zc5 _ _ _ _ _ (by exact ixd))) ?_))
 refine Zp rfl kk rfl mm (cells_lt (k := 5) dd (fun _ => rfl) ([q0, q1, q2, q3, q4, q5]) 5 (by exact ixd)) isAgg41 sizeOf41 (Zn (k := 5) (fun _ => rfl) ((fun _ => rfl)) ([q0, q1, q2, q3, q4, q5]) 0 5 (by exact ixd)) (.inl rfl) dd ?_
 refine Qs rfl kk (vs := [_, _]) rfl call57 (Zag L5 _ _ 2 1200 hL5 dd dd q5 4 hq5 dd) (by exact hsA) dd ?_; rintro v22 Ψ22 ⟨ad22_5, c22_5, rfl, rfl⟩
 refine Qs rfl kk (vs := [_, _]) rfl call46 (Yv (norm (norm (norm (norm (norm (([] : List Tm) ++ norm (Zi q0 L0)) ++ norm (Zi q1 L1)) ++ norm (Zi q2 L2)) ++ norm (Zi q3 L3)) ++ norm (Zi q4 L4))) (norm (Zi q5 L5)) _ _ _ _ 2 2 6036 1205 (((((Pq.mono (d' := 2) ((Pq.nil 0).add (hL0.scale (c := q0) (Kc := 4) hq0 dd) dd dd) dd (Nat.le_refl _)).add (hL1.scale (c := q1) (Kc := 4) hq1 dd) dd dd).add (hL2.scale (c := q2) (Kc := 4) hq2 dd) dd dd).add (hL3.scale (c := q3) (Kc := 4) hq3 dd) dd dd).add (hL4.scale (c := q4) (Kc := 4) hq4 dd) dd dd) (hL5.scale (c := q5) (Kc := 4) hq5 dd) dd dd dd dd) (by exact hsA) dd ?_; rintro v23 Ψ23 ⟨ad23_5, c23_5, rfl, rfl⟩
 refine yp rfl (.assign rfl) (yn (zr (zm rfl (zp (Pure1.cast (v' := .int .i64 6) (.add rfl rfl) cgd) (za rfl (zn ?_)))))); intro a w h
 replace h : St 25 S w0 [(0, _), (1, _), (4, .slice none 0 0), (5, _), (6, .int .i64 6), (10, .bool true)] _ [Row ad23_5 (cellsOf Zr (norm (norm (norm (norm (norm (norm (([] : List Tm) ++ norm (Zi q0 L0)) ++ norm (Zi q1 L1)) ++ norm (Zi q2 L2)) ++ norm (Zi q3 L3)) ++ norm (Zi q4 L4)) ++ norm (Zi q5 L5)))), Row none (cellsOf Zr []), Row (some ⟨Bv, Ov, none⟩) (cellsOf Zz [q0, q1, q2, q3, q4, q5]), Row (some ⟨Bl, Ol, none⟩) (List.map Xj [(⟨a0, L0.length, c0⟩ : Vs), (⟨a1, L1.length, c1⟩ : Vs), (⟨a2, L2.length, c2⟩ : Vs), (⟨a3, L3.length, c3⟩ : Vs), (⟨a4, L4.length, c4⟩ : Vs), (⟨a5, L5.length, c5⟩ : Vs)]), Row a0 (cellsOf Zr L0), Row a1 (cellsOf Zr L1), Row a2 (cellsOf Zr L2), Row a3 (cellsOf Zr L3), Row a4 (cellsOf Zr L4), Row a5 (cellsOf Zr L5)] a w := (h.factsSub (by exact hsA)).sub sA
 refine Zb ?_
 refine gC h (zs (zS (zm rfl (zm rfl (zp (.builtin [_] rfl (Jm _ _ _)) (zp (Pure1.cast (v' := .bool false) (.lss rfl rfl) cgd) (zn ?_))))))); clear h; intro a w h
 refine cW ?_
 refine Zf h rfl ?_
 refine gC h (ze (zS (zm rfl (za rfl (zn (zt ?_)))))); clear h; intro a w h
 refine Xq (Ψ := [Row ad23_5 (cellsOf Zr (norm (norm (norm (norm (norm (norm (([] : List Tm) ++ norm (Zi q0 L0)) ++ norm (Zi q1 L1)) ++ norm (Zi q2 L2)) ++ norm (Zi q3 L3)) ++ norm (Zi q4 L4)) ++ norm (Zi q5 L5))))]) h (Zk h rfl (.tmp rfl)) ?_ ss
 exact ⟨_, _, rfl, rfl⟩
theorem Zh8 (p q : List Tm) (ad ad2 : Option Addr) (c c2 K : Nat) (hp : Pq 2 K p) (hq : Pq 2 K q) (hK : K ≤ 150000) (pa pb pc : Pt) (ha : PtK 4 pa) (hb : PtK 4 pb) (hc : PtK 4 pc) : Zaq Tryz.prog 20 [.slice ad p.length c, .slice ad2 q.length c2, Qr pa pb pc] [Row ad (cellsOf Zr p), Row ad2 (cellsOf Zr q)] (Zz (Yk p q pa pb pc)) := by
 refine fn_intro func20 rfl ntmps20 nb ?_
 intro S w0 a hS h
 refine gC h (zS (zx rfl fun b5 => zz Jk fun b6 => zn (zS (zm rfl (zm rfl ?_))))); clear h; intro a w h
 refine Zc (Zx h (vs := [_, _]) rfl call45 (Xz p q _ _ _ _ 2 2 K K hp hq dd oo oo) (by exact hsA) dd ?_); clear h; rintro v12 Ψ12 a w ⟨ad12, c12, rfl, rfl⟩ h
 refine gL h (zm rfl (zp (.eX rfl) (zp (.eX rfl) (za rfl (za rfl (zn (zS (zm rfl (zp (.indexAddr rfl rfl (Yc _ _)) (zp (.fA rfl Yy) (zd rfl mr isAgg41 sizeOf41 Zwr ?_)))))))))))
 refine zp (.indexAddr rfl rfl (Yc _ _)) (zp (.fA rfl Yx) (zd rfl mr isAgg41 sizeOf41 Zwq ?_))
 refine zp (.build [(_, _), (_, _)] rfl (Zdh _ _ _ _ _ _ _ _ _ _)) (zp (.indexAddr rfl rfl (Xp _ _)) (zp (.fA rfl Yy) (zd rfl mr isAgg41 sizeOf41 Zuj ?_)))
 refine zp (.indexAddr rfl rfl (Xp _ _)) (zp (.fA rfl Yx) (zd rfl mr isAgg41 sizeOf41 Zui ?_))
 refine zp (.build [(_, _), (_, _)] rfl (Zdh _ _ _ _ _ _ _ _ _ _)) (zp (.indexAddr rfl rfl (Xo _ _)) (zp (.fA rfl Yy) (zd rfl mr isAgg41 sizeOf41 Zuh ?_)))
 refine zp (.indexAddr rfl rfl (Xo _ _)) (zp (.fA rfl Yx) (zd rfl mr isAgg41 sizeOf41 Zug ?_))
 refine zp (.build [(_, _), (_, _)] rfl (Zdh _ _ _ _ _ _ _ _ _ _)) ?_; intro a w h
 refine Zc (Ys h (vs := [_, _, _, _]) rfl call70 (Qcd _ _ _ (2 + 2) (K + K) 4 (hp.mul hq dd) dd pa pb pc ha hb hc dd oo) (by exact hsA) dd ?_); clear h; intro a w h
 refine gL h (zt' rfl rfl Zu uu sizeOf41 rfl nb rfl ?_); clear h; intro a w h
 refine wpList_nil (wp_ret ?_)
 refine Xw h (Zk h rfl (.cell rfl mr isAgg41 sizeOf41 Zl)) ?_
 rfl
end
section
theorem Zwi (X Y : Operand) (x y : Pt) (hne : x ≠ y) (w : World) : (do eqGuard .eql 43 X Y (encPt x) (encPt y); Go.binOp .eql 43 (encPt x) (encPt y) : Sem Value).run Tryz.prog w = .ok (.bool false) w := by
 obtain ⟨x1, x2⟩ := x
 obtain ⟨y1, y2⟩ := y
 simp [go_sem]
 have q1 := @Zis x1 y1
 have q2 := @Zis x2 y2
 rw [decide_eq_decide] at q1 q2
 simp only [← str_eq] at q1 q2
 exact fun a1 a2 a3 a4 a5 b1 b2 b3 b4 b5 => hne (by rw [q1.1 ⟨a1, a2, a3, a4, a5⟩, q2.1 ⟨b1, b2, b3, b4, b5⟩])
def pU0 : Pt := (((0 : Int) : Rat), ((0 : Int) : Rat))
def pU1 : Pt := (((1 : Int) : Rat), ((0 : Int) : Rat))
def pU2 : Pt := (((0 : Int) : Rat), ((1 : Int) : Rat))
theorem Qd6 : PtK 4 pU0 := ⟨Nat.le_trans (Zq 0 dd dd) dd, Nat.le_trans (Zq 0 dd dd) dd⟩
theorem Qan : PtK 4 pU1 := ⟨Nat.le_trans (Zq 1 dd dd) dd, Nat.le_trans (Zq 0 dd dd) dd⟩
theorem Qam : PtK 4 pU2 := ⟨Nat.le_trans (Zq 0 dd dd) dd, Nat.le_trans (Zq 1 dd dd) dd⟩
theorem pU_T : 0 < (twP pU0 pU1 pU2).num.sign := by decide +kernel
theorem Zzc (n m : Int) (h0 : n = 0 ∨ n = 1) (h1 : m = 0 ∨ m = 1) : Yd Tryz.prog 37 [.int .i64 n, .int .i64 m] (encPt ((n : Rat), (m : Rat))) := Qfk n m oo oo oo oo
theorem Qcr : Zaq Tryz.prog 87 [.slice none 0 0] [Row none (cellsOf Zr [])] (.int .i64 (-1)) := by
 have := Zg0 [] none 0 0 1 (Pq.nil 0) dd dd
 rwa [show Zu7 (norm []) = -1 from by decide +kernel] at this
theorem Zq6 : Yd Tryz.prog 33 [] (Qr pU0 pU1 pU2) := by
 refine fn_intro func33 rfl ntmps33 nb ?_
 intro S w0 a hS h
 refine gC h (zS (zz Zd9 fun b0 => zn (zS (zv [_, _] rfl call37 (Zzc 0 0 dd dd) (zv [_, _] rfl call37 (Zzc 1 0 dd dd) (zv [_, _] rfl call37 (Zzc 0 1 dd dd) (zp (.build [(_, _), (_, _), (_, _)] rfl (Zfz _ _ _ _ _ _ _ _ _ _ _ _ _ _ _ _ _ _ _ _ _ _ _ _ _ _ _ _ _ _)) (zt' rfl rfl Vw uu sizeOf44 rfl nb rfl ?_)))))))); clear h; intro a w h
 refine wpList_nil (wp_ret ?_)
 refine Xw h (Zk h rfl (.cell rfl mr isAgg44 sizeOf44 Qt)) ?_
 rfl
theorem Zdm (p : Pt) : Yd Tryz.prog 88 [encPt p] (encPt p) := by
 refine fn_intro func88 rfl ntmps88 nb ?_
 intro S w0 a hS h
 refine gC h (zS (zx rfl fun b1 => zz Zea fun b2 => zn (zS (zp (.fA rfl Yy) (zd rfl mr isAgg41 sizeOf41 Ji ?_)))))
 refine zp (.fA rfl Yx) (zd rfl mr isAgg41 sizeOf41 Jh ?_)
 refine zp (.build [(_, _), (_, _)] rfl (Zdh _ _ _ _ _ _ _ _ _ _)) (zt' rfl rfl Qq uu sizeOf139 rfl nb rfl ?_); intro a w h
 refine wpList_nil (wp_ret ?_)
 refine Xw h (Zk h rfl (.cell rfl mr isAgg139 sizeOf139 Zj)) ?_
 rfl
theorem Zpj (p : List Tm) (ad : Option Addr) (c : Nat) (hp : Pq 0 4 p) (hd : Zu7 (norm p) = 0) : Zaq Tryz.prog 87 [.slice ad p.length c] [Row ad (cellsOf Zr p)] (.int .i64 0) := by have := Zg0 p ad c 0 4 hp dd dd; rwa [hd] at this
set_option maxHeartbeats 1000000 in
theorem Qf1 (pa pb pc : Pt) (ha : PtK 4 pa) (hb : PtK 4 pb) (hc : PtK 4 pc) (hT : 0 < (twP pa pb pc).num.sign) (f : List Tm) (ad : Option Addr) (c : Nat) (hf : Pq 0 4 f) (hdeg : Zu7 (norm f) = 0) : Ctr Tryz.prog 34 [.int .i64 1, Qr pa pb pc, .slice ad f.length c] [SideF, Row ad (cellsOf Zr f)] (fun v Ψ => ∃ ad' c', v = .tuple #[.slice ad' 3 c', .int .i64 0] ∧ Ψ = [Row ad' (cellsOf Zz [Zbi (norm (Qz f (Xh (Jx pa pb pc) (Jw pa pb pc) (Jv pa pb pc) (Qc 1 0)))) pa pb pc, Zbi (norm (Qz f (Xh (Jx pa pb pc) (Jw pa pb pc) (Jv pa pb pc) (Qc 1 1)))) pa pb pc, Zbi (norm (Qz f (Xh (Jx pa pb pc) (Jw pa pb pc) (Jv pa pb pc) (Qc 1 2)))) pa pb pc])]) := by
 refine fn_intro func34 rfl ntmps34 nb ?_
 intro S w0 a hS h
 replace h := h.derive (R := Row none (cellsOf Zr [])) (fun X _ hne => absurd rfl hne)
 refine gC h (zS (zx rfl fun b4 => za rfl (za rfl (zn (zS (zm rfl (zd rfl mr isAgg44 sizeOf44 Qt ?_))))))); clear h; intro a w h
 refine Zc (Zx h (vs := [_, _]) rfl call9 (Ztn pa pb pc ha hb hc hT) (by exact hsA) dd ?_); clear h; rintro v18 Ψ18 a w ⟨ad18, a0, c0, a1, c1, a2, c2, rfl, rfl⟩ h
 obtain ⟨L0, hE0⟩ : ∃ G, Xh (Jx pa pb pc) (Jw pa pb pc) (Jv pa pb pc) (Qc 1 0) = G := ⟨_, rfl⟩
 rw [hE0] at h
 have hL0 : Pq 2 1200 L0 := hE0 ▸ Ztb ha hb hc
 obtain ⟨L1, hE1⟩ : ∃ G, Xh (Jx pa pb pc) (Jw pa pb pc) (Jv pa pb pc) (Qc 1 1) = G := ⟨_, rfl⟩
 rw [hE1] at h
 have hL1 : Pq 2 1200 L1 := hE1 ▸ Zta ha hb hc
 obtain ⟨L2, hE2⟩ : ∃ G, Xh (Jx pa pb pc) (Jw pa pb pc) (Jv pa pb pc) (Qc 1 2) = G := ⟨_, rfl⟩
 rw [hE2] at h
 have hL2 : Pq 2 1200 L2 := hE2 ▸ Zs9 ha hb hc
 obtain ⟨B18, O18, rfl⟩ := h.row_addr (ad := ad18) (M := List.map Xj [(⟨a0, L0.length, c0⟩ : Vs), (⟨a1, L1.length, c1⟩ : Vs), (⟨a2, L2.length, c2⟩ : Vs)]) mm (by intro e; have := congrArg List.length e; rw [List.length_map] at this; exact absurd this ss)
 refine gL h (zm rfl (zp (.eX rfl) (zp (.eX rfl) (za rfl (za rfl (zn (zs (zb (zS (zm rfl (zp (Pure1.cast (v' := .bool false) (.neq rfl rfl) cgd) (za rfl (zn ?_))))))))))))); clear h; intro a w h
 refine cW ?_
 refine Zf h rfl ?_
 refine gC h (zS (zm rfl ?_)); clear h; intro a w h
 refine Zc (Ys h (vs := [_]) rfl call87 (Zpj f _ _ hf hdeg) (by exact hsA) dd ?_); clear h; intro a w h
 refine gL h (zp (Pure1.cast (v' := .bool false) (.gtr rfl rfl) cgd) (za rfl (zn ?_))); clear h; intro a w h
 refine cW ?_
 refine Zf h rfl ?_
 refine gC h (zk (zS (za rfl (zn (zs (zS (zm rfl (zp (.builtin [_] rfl (Jm _ _ _)) (zm rfl (zn (zb ?_))))))))))); clear h; intro a w h
 refine wp_loop_rounds 4 ?_
 refine Zb ?_
 refine gC h (zS (zp (Pure1.cast (v' := .bool true) (.lss rfl rfl) cgd) (zn (zs ?_)))); clear h; intro a w h
 refine Zg h rfl ?_
 refine gC h (zk (zs (zb (zS (zp (.indexAddr rfl rfl (Zgq _ _ _ _ _ (by exact ixd))) (zD rfl mm (by rw [List.length_map]; exact ixd) isAgg65 sizeOf65 (Zv (enc := Xj) (l := ([(⟨a0, L0.length, c0⟩ : Vs), (⟨a1, L1.length, c1⟩ : Vs), (⟨a2, L2.length, c2⟩ : Vs)])) vs0 (by exact ixd)) (.inr rfl) ?_))))))
 refine za rfl (zn (zS (zm rfl (zm rfl ?_)))); intro a w h
 refine Zc (Zx h (vs := [_, _]) rfl call45 (Xz f L0 _ _ _ _ 0 2 4 1200 hf hL0 dd dd dd) (by exact hsA) dd ?_); clear h; rintro v38 Ψ38 a w ⟨ad38_0, c38_0, rfl, rfl⟩ h
 refine gL h (zm rfl (zp (.eX rfl) (zp (.eX rfl) (za rfl (za rfl (zn (yD Za [0, 1, 2, 3, 5, 6, 8, 9, 4, 7, 10, 11, 12, 13, 14] (Ze kk) (ym rfl rfl (ym rfl rfl (yp rfl (.indexAddr rfl rfl (Yc _ _)) (yd rfl rfl mr isAgg43 sizeOf43 Xk ?_))))))))))); clear h
 refine yp rfl (.indexAddr rfl rfl (Xp _ _)) (yd rfl rfl mr isAgg43 sizeOf43 Jp ?_)
 refine yp rfl (.indexAddr rfl rfl (Xo _ _)) (yd rfl rfl mr isAgg43 sizeOf43 Jo ?_)
 refine yv [_] rfl rfl call88 (Zdm pa) (yv [_] rfl rfl call88 (Zdm pb) (yv [_] rfl rfl call88 (Zdm pc) ?_))
 refine Yn rfl kk (vs := [_, _, _, _]) rfl call70 (Qcd (norm (Qz f L0)) _ _ 2 1204 4 (hf.mul hL0 dd) dd pa pb pc ha hb hc dd dd) (by exact hsA) dd ?_
 refine yB rfl [(_, _)] rfl (Vp _ _ _ _ _) fun b53 => ?_
 refine Zan (σr := [(b4, bV (Qr pa pb pc) 44)]) rfl kk rfl rfl (List.Perm.refl _) (GrowO.nil _ _) runUnderlying50 runUnderlying50 typeInfo41 sizeOf41 Jk rfl dd dd rfl rfl dd (by show 56 * (2 * ((([] : List Rat)).length + 1) + 192) ≤ 281474976710656; first | omega | (simp only [List.length_append, List.length_cons, List.length_nil]; omega)) dd ?_
 intro v54_0 o54_0 hG54_0
 obtain ⟨ad54_0, c54_0, rfl⟩ := hG54_0.is
 have hLn54_0 : (0 : Nat) + 1 = (([] : List Rat) ++ [Zbi (norm (Qz f L0)) pa pb pc]).length := lA
 rw [hLn54_0]; rw [hLn54_0] at hG54_0
 replace hG54_0 : GrowO 5 41 (.slice ad54_0 (([] : List Rat) ++ [Zbi (norm (Qz f L0)) pa pb pc]).length c54_0) (([] : List Rat) ++ [Zbi (norm (Qz f L0)) pa pb pc]).length (cellsOf Zz (([] : List Rat) ++ [Zbi (norm (Qz f L0)) pa pb pc])) o54_0 := by rw [Zy, Je]; exact hG54_0
 refine yp rfl (.assign rfl) (yn (zr (zp (Pure1.cast (v' := .int .i64 1) (.add rfl rfl) cgd) (zm rfl (zn ?_))))); intro a w h
 replace h : St 58 S w0 [(2, _), (4, _), (6, .slice none 0 0), (7, .int .i64 0), (10, _), (29, _), (30, _), (31, .int .i64 1), (32, .bool true)] _ [Row (some ⟨B18, O18, none⟩) (List.map Xj [(⟨a0, L0.length, c0⟩ : Vs), (⟨a1, L1.length, c1⟩ : Vs), (⟨a2, L2.length, c2⟩ : Vs)]), Row a0 (cellsOf Zr L0), Row a1 (cellsOf Zr L1), Row a2 (cellsOf Zr L2), Row none (cellsOf Zr []), SideF, Row ad (cellsOf Zr f)] a w := (h.factsSub (by exact hsA)).sub sA
 refine Zb ?_
 refine gC h (zS (zp (Pure1.cast (v' := .bool true) (.lss rfl rfl) cgd) (zn (zs ?_)))); clear h; intro a w h
 refine Zg h rfl ?_
 refine gC h (zk (zs (zb (zS (zp (.indexAddr rfl rfl (Zgq _ _ _ _ _ (by exact ixd))) (zD rfl mm (by rw [List.length_map]; exact ixd) isAgg65 sizeOf65 (Zv (enc := Xj) (l := ([(⟨a0, L0.length, c0⟩ : Vs), (⟨a1, L1.length, c1⟩ : Vs), (⟨a2, L2.length, c2⟩ : Vs)])) vs0 (by exact ixd)) (.inr rfl) ?_))))))
 refine za rfl (zn (zS (zm rfl (zm rfl ?_)))); intro a w h
 refine Zc (Zx h (vs := [_, _]) rfl call45 (Xz f L1 _ _ _ _ 0 2 4 1200 hf hL1 dd dd dd) (by exact hsA) dd ?_); clear h; rintro v38 Ψ38 a w ⟨ad38_1, c38_1, rfl, rfl⟩ h
 refine gL h (zm rfl (zp (.eX rfl) (zp (.eX rfl) (za rfl (za rfl (zn (yD Za [0, 1, 2, 3, 5, 6, 8, 9, 4, 7, 10, 11, 12, 13, 14] (Ze kk) (ym rfl rfl (ym rfl rfl (yp rfl (.indexAddr rfl rfl (Yc _ _)) (yd rfl rfl mr isAgg43 sizeOf43 Xk ?_))))))))))); clear h
 refine yp rfl (.indexAddr rfl rfl (Xp _ _)) (yd rfl rfl mr isAgg43 sizeOf43 Jp ?_)
 refine yp rfl (.indexAddr rfl rfl (Xo _ _)) (yd rfl rfl mr isAgg43 sizeOf43 Jo ?_)
 refine yv [_] rfl rfl call88 (Zdm pa) (yv [_] rfl rfl call88 (Zdm pb) (yv [_] rfl rfl call88 (Zdm pc) ?_))
 refine Yn rfl kk (vs := [_, _, _, _]) rfl call70 (Qcd (norm (Qz f L1)) _ _ 2 1204 4 (hf.mul hL1 dd) dd pa pb pc ha hb hc dd dd) (by exact hsA) dd ?_
 refine yB rfl [(_, _)] rfl (Vp _ _ _ _ _) fun b53 => ?_
 refine Zan (σr := [(b4, bV (Qr pa pb pc) 44)]) rfl kk rfl rfl (List.Perm.trans (List.Perm.refl _) (List.Perm.cons _ (List.Perm.refl _))) hG54_0 runUnderlying50 runUnderlying50 typeInfo41 sizeOf41 Jk rfl dd dd rfl rfl dd (by show 56 * (2 * ((([] : List Rat) ++ [Zbi (norm (Qz f L0)) pa pb pc]).length + 1) + 192) ≤ 281474976710656; first | omega | (simp only [List.length_append, List.length_cons, List.length_nil]; omega)) dd ?_
 intro v54_1 o54_1 hG54_1
 obtain ⟨ad54_1, c54_1, rfl⟩ := hG54_1.is
 have hLn54_1 : (([] : List Rat) ++ [Zbi (norm (Qz f L0)) pa pb pc]).length + 1 = ((([] : List Rat) ++ [Zbi (norm (Qz f L0)) pa pb pc]) ++ [Zbi (norm (Qz f L1)) pa pb pc]).length := lA
 rw [hLn54_1]; rw [hLn54_1] at hG54_1
 replace hG54_1 : GrowO 5 41 (.slice ad54_1 ((([] : List Rat) ++ [Zbi (norm (Qz f L0)) pa pb pc]) ++ [Zbi (norm (Qz f L1)) pa pb pc]).length c54_1) ((([] : List Rat) ++ [Zbi (norm (Qz f L0)) pa pb pc]) ++ [Zbi (norm (Qz f L1)) pa pb pc]).length (cellsOf Zz ((([] : List Rat) ++ [Zbi (norm (Qz f L0)) pa pb pc]) ++ [Zbi (norm (Qz f L1)) pa pb pc])) o54_1 := by rw [Zy, Je]; exact hG54_1
 refine yp rfl (.assign rfl) (yn (zr (zp (Pure1.cast (v' := .int .i64 2) (.add rfl rfl) cgd) (zm rfl (zn ?_))))); intro a w h
 replace h : St 58 S w0 [(2, _), (4, _), (6, .slice none 0 0), (7, .int .i64 0), (10, _), (29, _), (30, _), (31, .int .i64 2), (32, .bool true)] _ [Row (some ⟨B18, O18, none⟩) (List.map Xj [(⟨a0, L0.length, c0⟩ : Vs), (⟨a1, L1.length, c1⟩ : Vs), (⟨a2, L2.length, c2⟩ : Vs)]), Row a0 (cellsOf Zr L0), Row a1 (cellsOf Zr L1), Row a2 (cellsOf Zr L2), Row none (cellsOf Zr []), SideF, Row ad (cellsOf Zr f)] a w := (h.factsSub (by exact hsA)).sub sA
 refine Zb ?_
 refine gC h (zS (zp (Pure1.cast (v' := .bool true) (.lss rfl rfl) cgd) (zn (zs ?_)))); clear h; intro a w h
 refine Zg h rfl ?_
 refine gC h (zk (zs (zb (zS (zp (.indexAddr rfl rfl (Zgq _ _ _ _ _ (by exact ixd))) (zD rfl mm (by rw [List.length_map]; exact ixd) isAgg65 sizeOf65 (Zv (enc := Xj) (l := ([(⟨a0, L0.length, c0⟩ : Vs), (⟨a1, L1.length, c1⟩ : Vs), (⟨a2, L2.length, c2⟩ : Vs)])) vs0 (by exact ixd)) (.inr rfl) ?_))))))
 refine za rfl (zn (zS (zm rfl (zm rfl ?_)))); intro a w h
 refine Zc (Zx h (vs := [_, _]) rfl call45 (Xz f L2 _ _ _ _ 0 2 4 1200 hf hL2 dd dd dd) (by exact hsA) dd ?_); clear h; rintro v38 Ψ38 a w ⟨ad38_2, c38_2, rfl, rfl⟩ h
 refine gL h (zm rfl (zp (.eX rfl) (zp (.eX rfl) (za rfl (za rfl (zn (yD Za [0, 1, 2, 3, 5, 6, 8, 9, 4, 7, 10, 11, 12, 13, 14] (Ze kk) (ym rfl rfl (ym rfl rfl (yp rfl (.indexAddr rfl rfl (Yc _ _)) (yd rfl rfl mr isAgg43 sizeOf43 Xk ?_))))))))))); clear h
 refine yp rfl (.indexAddr rfl rfl (Xp _ _)) (yd rfl rfl mr isAgg43 sizeOf43 Jp ?_)
 refine yp rfl (.indexAddr rfl rfl (Xo _ _)) (yd rfl rfl mr isAgg43 sizeOf43 Jo ?_)
 refine yv [_] rfl rfl call88 (Zdm pa) (yv [_] rfl rfl call88 (Zdm pb) (yv [_] rfl rfl call88 (Zdm pc) ?_))
 refine Yn rfl kk (vs := [_, _, _, _]) rfl call70 (Qcd (norm (Qz f L2)) _ _ 2 1204 4 (hf.mul hL2 dd) dd pa pb pc ha hb hc dd dd) (by exact hsA) dd ?_
 refine yB rfl [(_, _)] rfl (Vp _ _ _ _ _) fun b53 => ?_
 refine Zan (σr := [(b4, bV (Qr pa pb pc) 44)]) rfl kk rfl rfl (List.Perm.trans (List.Perm.refl _) (List.Perm.cons _ (List.Perm.refl _))) hG54_1 runUnderlying50 runUnderlying50 typeInfo41 sizeOf41 Jk rfl dd dd rfl rfl dd (by show 56 * (2 * (((([] : List Rat) ++ [Zbi (norm (Qz f L0)) pa pb pc]) ++ [Zbi (norm (Qz f L1)) pa pb pc]).length + 1) + 192) ≤ 281474976710656; first | omega | (simp only [List.length_append, List.length_cons, List.length_nil]; omega)) dd ?_
 intro v54_2 o54_2 hG54_2
 obtain ⟨ad54_2, c54_2, rfl⟩ := hG54_2.is
 have hLn54_2 : ((([] : List Rat) ++ [Zbi (norm (Qz f L0)) pa pb pc]) ++ [Zbi (norm (Qz f L1)) pa pb pc]).length + 1 = (((([] : List Rat) ++ [Zbi (norm (Qz f L0)) pa pb pc]) ++ [Zbi (norm (Qz f L1)) pa pb pc]) ++ [Zbi (norm (Qz f L2)) pa pb pc]).length := lA
 rw [hLn54_2]; rw [hLn54_2] at hG54_2
 replace hG54_2 : GrowO 5 41 (.slice ad54_2 (((([] : List Rat) ++ [Zbi (norm (Qz f L0)) pa pb pc]) ++ [Zbi (norm (Qz f L1)) pa pb pc]) ++ [Zbi (norm (Qz f L2)) pa pb pc]).length c54_2) (((([] : List Rat) ++ [Zbi (norm (Qz f L0)) pa pb pc]) ++ [Zbi (norm (Qz f L1)) pa pb pc]) ++ [Zbi (norm (Qz f L2)) pa pb pc]).length (cellsOf Zz (((([] : List Rat) ++ [Zbi (norm (Qz f L0)) pa pb pc]) ++ [Zbi (norm (Qz f L1)) pa pb pc]) ++ [Zbi (norm (Qz f L2)) pa pb pc])) o54_2 := by rw [Zy, Je]; exact hG54_2
 refine yp rfl (.assign rfl) (yn (zr (zp (Pure1.cast (v' := .int .i64 3) (.add rfl rfl) cgd) (zm rfl (zn ?_))))); intro a w h
 replace h : St 58 S w0 [(2, _), (4, _), (6, .slice none 0 0), (7, .int .i64 0), (10, _), (29, _), (30, _), (31, .int .i64 3), (32, .bool true)] _ [Row (some ⟨B18, O18, none⟩) (List.map Xj [(⟨a0, L0.length, c0⟩ : Vs), (⟨a1, L1.length, c1⟩ : Vs), (⟨a2, L2.length, c2⟩ : Vs)]), Row a0 (cellsOf Zr L0), Row a1 (cellsOf Zr L1), Row a2 (cellsOf Zr L2), Row none (cellsOf Zr []), SideF, Row ad (cellsOf Zr f)] a w := (h.factsSub (by exact hsA)).sub sA
 refine Zb ?_
 refine gC h (zS (zp (Pure1.cast (v' := .bool false) (.lss rfl rfl) cgd) (zn (zs ?_)))); clear h; intro a w h
 refine Zf h rfl ?_
 refine gC h (ze (zS (zm rfl ?_))); clear h; intro a w h
 replace h := h.shareO' hS hG54_2
 refine gL h (zv [_] rfl call89 (Zzw ad54_2 3 c54_2 (Ziq hG54_2) dd) (za rfl (za rfl (zn (zt ?_))))); clear h; intro a w h
 refine Xq (Ψ := [Row ad54_2 (cellsOf Zz [Zbi (norm (Qz f L0)) pa pb pc, Zbi (norm (Qz f L1)) pa pb pc, Zbi (norm (Qz f L2)) pa pb pc])]) h (Qv h rfl (.tmp rfl) (.tmp rfl)) ?_ ss
 exact ⟨ad54_2, _, rfl, by subst hE0 hE1 hE2; rfl⟩
end
section
theorem Zq2 (x0 : Option Addr) (x0n : Nat) (x0c : Nat) (x1 : Option Addr) (x1n : Nat) (x1c : Nat) (w : World) : (Instr.buildSlice 52 2 [(0, .slice x0 x0n x0c), (1, .slice x1 x1n x1c)].toArray).run Tryz.prog w = .ok (.slice (some ⟨w.heap.size, 0, none⟩) 2 2) (w.alloc (.cells #[.slice x0 x0n x0c, .slice x1 x1n x1c] 65 (0, 0))) := by
 simp [go_sem]
theorem Zmq (b off : Nat) (w : World) : (Instr.indexAt 92 (.pointer (some ⟨b, off, none⟩)) (.int .i64 0)).run Tryz.prog w = .ok (.pointer (some ⟨b, off + 0, none⟩)) w := by
 simp [go_sem, Instr.indexAt]
theorem Zmp (b off : Nat) (w : World) : (Instr.indexAt 92 (.pointer (some ⟨b, off, none⟩)) (.int .i64 1)).run Tryz.prog w = .ok (.pointer (some ⟨b, off + 1, none⟩)) w := by
 simp [go_sem, Instr.indexAt]
theorem Pq.subM {da db Ka Kb : Nat} {a b : List Tm} (ha : Pq da Ka a) (hb : Pq db Kb b) (h1 : da ≤ 12) (h2 : db ≤ 12) : Pq (max da db) (Ka + Kb + 5) (norm (a ++ Zi ((-1 : Int) : Rat) b)) :=
 Pq.of_norm (Zke (ha.deg.mono (Nat.le_max_left _ _)) (Zpa _ (hb.deg.mono (Nat.le_max_right _ _)))) ((ha.hgt.append (hb.hgt.scale (k := 2) (Zq (-1) dd dd))).mono oo) oo
def Zct (t : List Tm) : List Tm := norm (norm [(⟨0, 0, ((1 : Int) : Rat)⟩ : Tm)] ++ Zi ((-1 : Int) : Rat) t)
theorem Zmg {t : List Tm} (ht : Pq 1 316 t) : Pq 1 325 (Zct t) := (Pq.subM (Zf4 _ (Zq 1 dd dd)) ht dd dd).mono dd dd
theorem Qcc (t : List Tm) (ad : Option Addr) (c : Nat) (ht : Pq 1 316 t) : Ctr Tryz.prog 94 [.int .i64 1, .slice ad t.length c] [Row ad (cellsOf Zr t)] (fun v Ψ => ∃ ad' a0 c0, v = .slice ad' 2 2 ∧ Ψ = [Row ad' (List.map Xj [(⟨a0, (Zct t).length, c0⟩ : Vs), (⟨ad, t.length, c⟩ : Vs)]), Row a0 (cellsOf Zr (Zct t))]) := by
 refine fn_intro func94 rfl ntmps94 nb ?_
 intro S w0 a hS h
 refine gC h (zS (za rfl (zn (zS (zv [_] rfl call21 (Ki _ oo oo) ?_))))); clear h; intro a w h
 have hl14 := Zq (1) oo oo
 refine Zc (Zx h (vs := [_]) rfl call35 (Vq (((1 : Int) : Rat)) 2 (Zq _ dd dd) dd) (by exact hsA) dd ?_); clear h; rintro v15 Ψ15 a w ⟨ad15, c15, rfl, rfl⟩ h
 refine gL h (za rfl (zn (zS (zm rfl (zm rfl ?_))))); clear h; intro a w h
 refine Zc (Zx h (vs := [_, _]) rfl call143 (Qfl (norm [(⟨0, 0, ((1 : Int) : Rat)⟩ : Tm)]) t _ _ _ _ 0 1 4 316 (Zf4 (((1 : Int) : Rat)) (Zq _ dd dd)) ht dd dd dd dd) (by exact hsA) dd ?_); clear h; rintro v18 Ψ18 a w ⟨ad18, c18, rfl, rfl⟩ h
 refine gL h (za rfl (zn (zs (zS (zm rfl (zp (Pure1.cast (v' := .bool true) (.eql rfl rfl) cgd) (zn ?_))))))); clear h; intro a w h
 refine cW ?_
 refine Zg h rfl ?_
 refine gC h (zS (zm rfl (zm rfl (zB [(_, _), (_, _)] rfl (Zq2 _ _ _ _ _ _) fun b23 => ?_)))); clear h; intro a w h
 replace h := h.shareAll hS (List.map Xj ([(⟨ad18, (norm (norm [(⟨0, 0, ((1 : Int) : Rat)⟩ : Tm)] ++ Zi ((-1 : Int) : Rat) t)).length, c18⟩ : Vs), (⟨ad, t.length, c⟩ : Vs)])) rfl
 refine gL h (za rfl (zn (zt ?_))); clear h; intro a w h
 refine Xq (Ψ := [Row (some ⟨b23, 0, none⟩) (List.map Xj [(⟨ad18, (norm (norm [(⟨0, 0, ((1 : Int) : Rat)⟩ : Tm)] ++ Zi ((-1 : Int) : Rat) t)).length, c18⟩ : Vs), (⟨ad, t.length, c⟩ : Vs)]), Row ad18 (cellsOf Zr (norm (norm [(⟨0, 0, ((1 : Int) : Rat)⟩ : Tm)] ++ Zi ((-1 : Int) : Rat) t)))]) h (Zk h rfl (.tmp rfl)) ?_ ss
 exact ⟨_, ad18, c18, rfl, rfl⟩
set_option maxHeartbeats 1000000 in
theorem Qft (pa pb : Pt) (ha : PtK 4 pa) (hb : PtK 4 pb) (hne : pa ≠ pb) (hsq : (Zap (Jt pb pa) (Jt pb pa)) ≠ 0) (f : List Tm) (ad : Option Addr) (c : Nat) (hf : Pq 0 4 f) (hdeg : Zu7 (norm f) = 0) : Ctr Tryz.prog 36 [.int .i64 1, encPt pa, encPt pb, .agg #[.slice ad f.length c, .slice none 0 0]] [Row ad (cellsOf Zr f)] (fun v Ψ => ∃ ad' c', v = .tuple #[.slice ad' 2 c', .int .i64 0] ∧ Ψ = [Row ad' (cellsOf Zz [Zbw (norm (Qz f (Zct (Gq (-(Zap pa (Jt pb pa) * (((1 : Int) : Rat) / (Zap (Jt pb pa) (Jt pb pa))))) (Zp1 (Jt pb pa) (((1 : Int) : Rat) / (Zap (Jt pb pa) (Jt pb pa)))))))) (norm (Qz ([] : List Tm) (Zct (Gq (-(Zap pa (Jt pb pa) * (((1 : Int) : Rat) / (Zap (Jt pb pa) (Jt pb pa))))) (Zp1 (Jt pb pa) (((1 : Int) : Rat) / (Zap (Jt pb pa) (Jt pb pa)))))))) pa pb, Zbw (norm (Qz f (Gq (-(Zap pa (Jt pb pa) * (((1 : Int) : Rat) / (Zap (Jt pb pa) (Jt pb pa))))) (Zp1 (Jt pb pa) (((1 : Int) : Rat) / (Zap (Jt pb pa) (Jt pb pa))))))) (norm (Qz ([] : List Tm) (Gq (-(Zap pa (Jt pb pa) * (((1 : Int) : Rat) / (Zap (Jt pb pa) (Jt pb pa))))) (Zp1 (Jt pb pa) (((1 : Int) : Rat) / (Zap (Jt pb pa) (Jt pb pa))))))) pa pb])]) := by
 obtain ⟨ha1, ha2⟩ := id ha
 obtain ⟨hb1, hb2⟩ := id hb
 refine fn_intro func36 rfl ntmps36 nb ?_
 intro S w0 a hS h
 replace h := h.derive (R := Row none (cellsOf Zr [])) (fun X _ hne => absurd rfl hne)
 refine gC h (zS (zx rfl fun b5 => zx rfl fun b6 => zx rfl fun b7 => za rfl (za rfl (zn (zc (zS (za rfl (zn (zs (zl (zs (zb ?_)))))))))))); clear h; intro a w h
 refine wp_loop_rounds 2 ?_
 refine Zb ?_
 refine gC h (zb (zs (zS (zm rfl (zv [_] rfl call43 (Znk) (zp (Pure1.cast (v' := .bool false) (.eql rfl rfl) cgd) (zm rfl ?_))))))); clear h; intro a w h
 refine Qe 23 h rfl rfl (Ql h rfl mr isAgg43 sizeOf43 Zj dd ?_); clear h; intro a h
 refine Qe 23 h rfl rfl (Ql h rfl mr isAgg43 sizeOf43 Zj dd ?_); clear h; intro a h
 refine gL h (zq 23 rfl rfl (.binOp rfl rfl (fun _ => Zwi _ _ pa pb hne _)) (zp (.pickF rfl rfl) (zn ?_))); clear h; intro a w h
 refine cW ?_
 refine Zf h rfl ?_
 refine gC h (zk (zs (zS (za rfl (zn (zS (zp (.indexAddr rfl rfl (Zmq _ _)) (zd rfl mr isAgg65 sizeOf65 Gd ?_)))))))); clear h; intro a w h
 refine Zc (Ys h (vs := [_]) rfl call87 (Zpj f _ _ hf hdeg) (by exact hsA) dd ?_); clear h; intro a w h
 refine gL h (zp (Pure1.cast (v' := .bool false) (.gtr rfl rfl) cgd) (zm rfl (zq 32 rfl rfl (.indexAddr rfl rfl (Zmp _ _)) ?_))); clear h; intro a w h
 refine Qe 32 h rfl rfl (Ql h rfl mr isAgg65 sizeOf65 Gv dd ?_); clear h; intro a h
 refine Qe 32 h rfl rfl (Ys h (vs := [_]) rfl call87 (Qcr) (by exact hsA) dd ?_); clear h; intro a w h
 refine gL h (zq 32 rfl rfl (Pure1.cast (v' := .bool false) (.gtr rfl rfl) cgd) (zp (.pickF rfl rfl) (zn ?_))); clear h; intro a w h
 refine cW ?_
 refine Zf h rfl ?_
 refine gC h (zk (zS (zd rfl mr isAgg43 sizeOf43 Zj ?_)))
 refine zd rfl mr isAgg43 sizeOf43 Zj ?_
 refine zv [_, _] rfl call86 (Zd8 pb pa oo oo oo oo) ?_
 have hl40 := Ve pb pa
 have hl40 := Vd pb pa
 refine zz Yw fun b10 => zt' rfl rfl Qq uu sizeOf43 rfl nb rfl ?_
 refine zn (zs (yD Za [1, 2, 0, 3, 4, 5, 6, 7, 8, 9, 10] (Qy ⟨.inl rfl, .inl rfl, .inl rfl, .inl rfl, .inl rfl, .inl rfl, .inl rfl, .inl rfl, .inr ⟨11, 41, _, _, _, rfl, rfl, by decide, _, Jk⟩, .inl rfl, .inl rfl, trivial⟩) (yd rfl rfl mr isAgg43 sizeOf43 Zj ?_)))
 refine yd rfl rfl mr isAgg43 sizeOf43 Zj ?_
 refine yv [_] rfl rfl call21 (Ki _ oo oo) ?_
 have hl42 := Zq (1) oo oo
 refine yv [_, _] rfl rfl call92 (Zvc pa pb oo oo oo oo) ?_
 have hl45 := Vy (Jt pb pa) (Jt pb pa)
 refine yv [_, _] rfl rfl call91 (Zec _ (Zap (Jt pb pa) (Jt pb pa)) hsq oo oo) ?_
 have hl46 := Vj ((1 : Int) : Rat) (Zap (Jt pb pa) (Jt pb pa))
 refine ym rfl rfl (yp rfl (.eX rfl) (yp rfl (.eX rfl) (yz rfl Jk fun b11 => yt rfl rfl rfl Zu uu sizeOf41 rfl nb rfl ?_)))
 refine yp rfl (.assign rfl) (yn (zs (yD Za [0, 1, 3, 6, 7, 2, 4, 5, 8, 9, 10] (Ze kk) (yd rfl rfl mr isAgg43 sizeOf43 Zj ?_))))
 refine yd rfl rfl mr isAgg43 sizeOf43 Zj ?_
 refine yd rfl rfl mr isAgg41 sizeOf41 Zl ?_
 refine yd rfl rfl mr isAgg43 sizeOf43 Zj ?_
 refine yd rfl rfl mr isAgg41 sizeOf41 Zl ?_
 refine yv [_, _] rfl rfl call50 (Zcq pa (Jt pb pa) oo oo oo oo) ?_
 have hl51 := Vy pa (Jt pb pa)
 refine yv [_, _] rfl rfl call18 (Ja _ _ oo oo) ?_
 have hl53 := Zo (Zap pa (Jt pb pa)) (((1 : Int) : Rat) / (Zap (Jt pb pa) (Jt pb pa)))
 refine yv [_] rfl rfl call93 (Zpi _) ?_
 have hl54 := Zc1 ((Zap pa (Jt pb pa)) * (((1 : Int) : Rat) / (Zap (Jt pb pa) (Jt pb pa))))
 refine yv [_, _] rfl rfl call25 (Zzd (Jt pb pa) (((1 : Int) : Rat) / (Zap (Jt pb pa) (Jt pb pa))) oo oo oo) ?_
 have hl57 := Zuu (Jt pb pa) (((1 : Int) : Rat) / (Zap (Jt pb pa) (Jt pb pa)))
 have hl57 := Zut (Jt pb pa) (((1 : Int) : Rat) / (Zap (Jt pb pa) (Jt pb pa)))
 have hlq : Zw (-(Zap pa (Jt pb pa) * (((1 : Int) : Rat) / (Zap (Jt pb pa) (Jt pb pa))))) ≤ 100 := by rw [Zc1]; omega
 have hlg : PtK 100 (Zp1 (Jt pb pa) (((1 : Int) : Rat) / (Zap (Jt pb pa) (Jt pb pa)))) := ⟨oo, oo⟩
 refine Qs rfl kk (vs := [_, _]) rfl call42 (Zkg _ _ 100 hlq hlg dd) (by exact hsA) dd ?_; rintro v58 Ψ58 ⟨ad58, c58, rfl, rfl⟩
 refine yp rfl (.assign rfl) (yn (zs (zS ?_))); intro a w h
 obtain ⟨t0, ht⟩ : ∃ G, Gq (-(Zap pa (Jt pb pa) * (((1 : Int) : Rat) / (Zap (Jt pb pa) (Jt pb pa))))) (Zp1 (Jt pb pa) (((1 : Int) : Rat) / (Zap (Jt pb pa) (Jt pb pa)))) = G := ⟨_, rfl⟩
 rw [ht] at h
 have ht0 : Pq 1 316 t0 := ht ▸ Xf hlq hlg
 refine gL h (zm rfl (zm rfl ?_)); clear h; intro a w h
 refine Zc (Zx h (vs := [_, _]) rfl call94 (Qcc t0 _ _ ht0) (by exact hsA) dd ?_); clear h; rintro v61 Ψ61 a w ⟨ad61, a0, c0, rfl, rfl⟩ h
 obtain ⟨B61, O61, rfl⟩ := h.row_addr (ad := ad61) (M := List.map Xj [(⟨a0, (Zct t0).length, c0⟩ : Vs), (⟨ad58, t0.length, c58⟩ : Vs)]) mm (by intro e; have := congrArg List.length e; rw [List.length_map] at this; exact absurd this ss)
 refine gL h (zp (.builtin [_] rfl (Jm _ _ _)) (zm rfl (zn (zb ?_)))); clear h; intro a w h
 refine wp_loop_rounds 3 ?_
 refine Zb ?_
 refine gC h (zS (zp (Pure1.cast (v' := .bool true) (.lss rfl rfl) cgd) (zn (zs ?_)))); clear h; intro a w h
 refine Zg h rfl ?_
 refine gC h (zk (zs (zb (zS (zp (.indexAddr rfl rfl (Zgq _ _ _ _ _ (by exact ixd))) (zD rfl mm (by rw [List.length_map]; exact ixd) isAgg65 sizeOf65 (Zv (enc := Xj) (l := ([(⟨a0, (Zct t0).length, c0⟩ : Vs), (⟨ad58, t0.length, c58⟩ : Vs)])) vs0 (by exact ixd)) (.inr rfl) ?_))))))
 refine za rfl (zn (zS (zp (.indexAddr rfl rfl (Zmq _ _)) (zd rfl mr isAgg65 sizeOf65 Gd ?_))))
 refine zm rfl ?_; intro a w h
 refine Zc (Zx h (vs := [_, _]) rfl call45 (Xz f (Zct t0) _ _ _ _ 0 1 4 325 hf (Zmg ht0) dd dd dd) (by exact hsA) dd ?_); clear h; rintro v71 Ψ71 a w ⟨ad71_0_0, c71_0_0, rfl, rfl⟩ h
 refine gL h (zm rfl (zp (.eX rfl) (zp (.eX rfl) (za rfl (za rfl (zn (zS (zp (.indexAddr rfl rfl (Zmp _ _)) (zd rfl mr isAgg65 sizeOf65 Gv ?_)))))))))
 refine zm rfl ?_; intro a w h
 refine Zc (Zx h (vs := [_, _]) rfl call45 (Xz ([] : List Tm) (Zct t0) _ _ _ _ 0 1 1 325 (Pq.nil 0) (Zmg ht0) dd dd dd) (by exact hsA) dd ?_); clear h; rintro v78 Ψ78 a w ⟨ad78_0_0, c78_0_0, rfl, rfl⟩ h
 refine gL h (zm rfl (zp (.eX rfl) (zp (.eX rfl) (za rfl (za rfl (zn (yD Za [0, 1, 2, 3, 5, 4, 6, 7, 8, 9, 10] (Ze kk) (ym rfl rfl (ym rfl rfl (ym rfl rfl (yd rfl rfl mr isAgg43 sizeOf43 Zj ?_))))))))))); clear h
 refine yd rfl rfl mr isAgg43 sizeOf43 Zj ?_
 refine yv [_] rfl rfl call88 (Zdm pa) (yv [_] rfl rfl call88 (Zdm pb) ?_)
 refine Yn rfl kk (vs := [_, _, _, _]) rfl call95 (Qdl (norm (Qz f (Zct t0))) (norm (Qz ([] : List Tm) (Zct t0))) _ _ _ _ 1 1 329 326 4 (hf.mul (Zmg ht0) dd) ((Pq.nil 0).mul (Zmg ht0) dd) dd dd pa pb ha hb dd dd dd dd) (by exact hsA) dd ?_
 refine yB rfl [(_, _)] rfl (Vp _ _ _ _ _) fun b89 => ?_
 refine Zan (σr := [(b11, bV (Zz (((1 : Int) : Rat) / (Zap (Jt pb pa) (Jt pb pa)))) 41), (b10, bV (Zcp ((Jt pb pa).1) ((Jt pb pa).2)) 43), (b7, bV (.agg #[.slice ad f.length c, .slice none 0 0]) 92), (b6, bV (Zcp pb.1 pb.2) 43), (b5, bV (Zcp pa.1 pa.2) 43)]) rfl kk rfl rfl (List.Perm.refl _) (GrowO.nil _ _) runUnderlying50 runUnderlying50 typeInfo41 sizeOf41 Jk rfl dd dd rfl rfl dd (by show 56 * (2 * ((([] : List Rat)).length + 1) + 192) ≤ 281474976710656; first | omega | (simp only [List.length_append, List.length_cons, List.length_nil]; omega)) dd ?_
 intro v90_0_0 o90_0_0 hG90_0_0
 obtain ⟨ad90_0_0, c90_0_0, rfl⟩ := hG90_0_0.is
 have hLn90_0_0 : (0 : Nat) + 1 = (([] : List Rat) ++ [Zbw (norm (Qz f (Zct t0))) (norm (Qz ([] : List Tm) (Zct t0))) pa pb]).length := lA
 rw [hLn90_0_0]; rw [hLn90_0_0] at hG90_0_0
 replace hG90_0_0 : GrowO 5 41 (.slice ad90_0_0 (([] : List Rat) ++ [Zbw (norm (Qz f (Zct t0))) (norm (Qz ([] : List Tm) (Zct t0))) pa pb]).length c90_0_0) (([] : List Rat) ++ [Zbw (norm (Qz f (Zct t0))) (norm (Qz ([] : List Tm) (Zct t0))) pa pb]).length (cellsOf Zz (([] : List Rat) ++ [Zbw (norm (Qz f (Zct t0))) (norm (Qz ([] : List Tm) (Zct t0))) pa pb])) o90_0_0 := by rw [Zy, Je]; exact hG90_0_0
 refine yp rfl (.assign rfl) (yn (zr (zp (Pure1.cast (v' := .int .i64 1) (.add rfl rfl) cgd) (zm rfl (zn ?_))))); intro a w h
 replace h : St 95 S w0 [(0, .int .i64 1), (5, _), (6, _), (7, _), (8, _), (9, .int .i64 9), (27, .bool false), (37, .bool false), (61, _), (62, _), (63, .int .i64 1), (64, .bool true)] _ [Row (some ⟨B61, O61, none⟩) (List.map Xj [(⟨a0, (Zct t0).length, c0⟩ : Vs), (⟨ad58, t0.length, c58⟩ : Vs)]), Row a0 (cellsOf Zr (Zct t0)), Row ad58 (cellsOf Zr t0), Row none (cellsOf Zr []), Row ad (cellsOf Zr f)] a w := (h.factsSub (by exact hsA)).sub sA
 refine Zb ?_
 refine gC h (zS (zp (Pure1.cast (v' := .bool true) (.lss rfl rfl) cgd) (zn (zs ?_)))); clear h; intro a w h
 refine Zg h rfl ?_
 refine gC h (zk (zs (zb (zS (zp (.indexAddr rfl rfl (Zgq _ _ _ _ _ (by exact ixd))) (zD rfl mm (by rw [List.length_map]; exact ixd) isAgg65 sizeOf65 (Zv (enc := Xj) (l := ([(⟨a0, (Zct t0).length, c0⟩ : Vs), (⟨ad58, t0.length, c58⟩ : Vs)])) vs0 (by exact ixd)) (.inr rfl) ?_))))))
 refine za rfl (zn (zS (zp (.indexAddr rfl rfl (Zmq _ _)) (zd rfl mr isAgg65 sizeOf65 Gd ?_))))
 refine zm rfl ?_; intro a w h
 refine Zc (Zx h (vs := [_, _]) rfl call45 (Xz f t0 _ _ _ _ 0 1 4 316 hf ht0 dd dd dd) (by exact hsA) dd ?_); clear h; rintro v71 Ψ71 a w ⟨ad71_0_1, c71_0_1, rfl, rfl⟩ h
 refine gL h (zm rfl (zp (.eX rfl) (zp (.eX rfl) (za rfl (za rfl (zn (zS (zp (.indexAddr rfl rfl (Zmp _ _)) (zd rfl mr isAgg65 sizeOf65 Gv ?_)))))))))
 refine zm rfl ?_; intro a w h
 refine Zc (Zx h (vs := [_, _]) rfl call45 (Xz ([] : List Tm) t0 _ _ _ _ 0 1 1 316 (Pq.nil 0) ht0 dd dd dd) (by exact hsA) dd ?_); clear h; rintro v78 Ψ78 a w ⟨ad78_0_1, c78_0_1, rfl, rfl⟩ h
 refine gL h (zm rfl (zp (.eX rfl) (zp (.eX rfl) (za rfl (za rfl (zn (yD Za [0, 1, 2, 3, 5, 4, 6, 7, 8, 9, 10] (Ze kk) (ym rfl rfl (ym rfl rfl (ym rfl rfl (yd rfl rfl mr isAgg43 sizeOf43 Zj ?_))))))))))); clear h
 refine yd rfl rfl mr isAgg43 sizeOf43 Zj ?_
 refine yv [_] rfl rfl call88 (Zdm pa) (yv [_] rfl rfl call88 (Zdm pb) ?_)
 refine Yn rfl kk (vs := [_, _, _, _]) rfl call95 (Qdl (norm (Qz f t0)) (norm (Qz ([] : List Tm) t0)) _ _ _ _ 1 1 320 317 4 (hf.mul ht0 dd) ((Pq.nil 0).mul ht0 dd) dd dd pa pb ha hb dd dd dd dd) (by exact hsA) dd ?_
 refine yB rfl [(_, _)] rfl (Vp _ _ _ _ _) fun b89 => ?_
 refine Zan (σr := [(b11, bV (Zz (((1 : Int) : Rat) / (Zap (Jt pb pa) (Jt pb pa)))) 41), (b10, bV (Zcp ((Jt pb pa).1) ((Jt pb pa).2)) 43), (b7, bV (.agg #[.slice ad f.length c, .slice none 0 0]) 92), (b6, bV (Zcp pb.1 pb.2) 43), (b5, bV (Zcp pa.1 pa.2) 43)]) rfl kk rfl rfl (List.Perm.trans (List.Perm.refl _) (List.Perm.cons _ (List.Perm.refl _))) hG90_0_0 runUnderlying50 runUnderlying50 typeInfo41 sizeOf41 Jk rfl dd dd rfl rfl dd (by show 56 * (2 * ((([] : List Rat) ++ [Zbw (norm (Qz f (Zct t0))) (norm (Qz ([] : List Tm) (Zct t0))) pa pb]).length + 1) + 192) ≤ 281474976710656; first | omega | (simp only [List.length_append, List.length_cons, List.length_nil]; omega)) dd ?_
 intro v90_0_1 o90_0_1 hG90_0_1
 obtain ⟨ad90_0_1, c90_0_1, rfl⟩ := hG90_0_1.is
 have hLn90_0_1 : (([] : List Rat) ++ [Zbw (norm (Qz f (Zct t0))) (norm (Qz ([] : List Tm) (Zct t0))) pa pb]).length + 1 = ((([] : List Rat) ++ [Zbw (norm (Qz f (Zct t0))) (norm (Qz ([] : List Tm) (Zct t0))) pa pb]) ++ [Zbw (norm (Qz f t0)) (norm (Qz ([] : List Tm) t0)) pa pb]).length := lA
 rw [hLn90_0_1]; rw [hLn90_0_1] at hG90_0_1
 replace hG90_0_1 : GrowO 5 41 (.slice ad90_0_1 ((([] : List Rat) ++ [Zbw (norm (Qz f (Zct t0))) (norm (Qz ([] : List Tm) (Zct t0))) pa pb]) ++ [Zbw (norm (Qz f t0)) (norm (Qz ([] : List Tm) t0)) pa pb]).length c90_0_1) ((([] : List Rat) ++ [Zbw (norm (Qz f (Zct t0))) (norm (Qz ([] : List Tm) (Zct t0))) pa pb]) ++ [Zbw (norm (Qz f t0)) (norm (Qz ([] : List Tm) t0)) pa pb]).length (cellsOf Zz ((([] : List Rat) ++ [Zbw (norm (Qz f (Zct t0))) (norm (Qz ([] : List Tm) (Zct t0))) pa pb]) ++ [Zbw (norm (Qz f t0)) (norm (Qz ([] : List Tm) t0)) pa pb])) o90_0_1 := by rw [Zy, Je]; exact hG90_0_1
 refine yp rfl (.assign rfl) (yn (zr (zp (Pure1.cast (v' := .int .i64 2) (.add rfl rfl) cgd) (zm rfl (zn ?_))))); intro a w h
 replace h : St 95 S w0 [(0, .int .i64 1), (5, _), (6, _), (7, _), (8, _), (9, .int .i64 9), (27, .bool false), (37, .bool false), (61, _), (62, _), (63, .int .i64 2), (64, .bool true)] _ [Row (some ⟨B61, O61, none⟩) (List.map Xj [(⟨a0, (Zct t0).length, c0⟩ : Vs), (⟨ad58, t0.length, c58⟩ : Vs)]), Row a0 (cellsOf Zr (Zct t0)), Row ad58 (cellsOf Zr t0), Row none (cellsOf Zr []), Row ad (cellsOf Zr f)] a w := (h.factsSub (by exact hsA)).sub sA
 refine Zb ?_
 refine gC h (zS (zp (Pure1.cast (v' := .bool false) (.lss rfl rfl) cgd) (zn (zs ?_)))); clear h; intro a w h
 refine Zf h rfl ?_
 refine gC h (ze (zS (zm rfl ?_))); clear h; intro a w h
 replace h := h.shareO' hS hG90_0_1
 refine gL h (zv [_] rfl call89 (Zzw ad90_0_1 2 c90_0_1 (Ziq hG90_0_1) dd) (za rfl (za rfl (zn (zt ?_))))); clear h; intro a w h
 refine Xq (Ψ := [Row ad90_0_1 (cellsOf Zz [Zbw (norm (Qz f (Zct t0))) (norm (Qz ([] : List Tm) (Zct t0))) pa pb, Zbw (norm (Qz f t0)) (norm (Qz ([] : List Tm) t0)) pa pb])]) h (Qv h rfl (.tmp rfl) (.tmp rfl)) ?_ ss
 exact ⟨ad90_0_1, _, rfl, by subst ht; rfl⟩
end
section
abbrev r1 : Rat := 1
abbrev rn2 : Rat := -1/2
abbrev r2 : Rat := 1/2
abbrev r0 : Rat := 0
abbrev r12 : Rat := 1/12
abbrev r24 : Rat := 1/24
abbrev r6 : Rat := 1/6
abbrev vU0 : List Rat := [r1, rn2, rn2, rn2, r2, r0, rn2, r0, r2]
abbrev vU1 : List Rat := [r12, r24, r24, r24, r12, r24, r24, r24, r12]
abbrev vU2 : List Rat := [r6, r6, r6]
abbrev vU3 : List Rat := [r2, r2]
abbrev encs (s : ByteArray) : Value := .string s
theorem C_T0 : Yd Tryz.prog 38 [Zz r1] (.string ⟨#[49]⟩) := by
 have := Zf2 r1 kD kD
 rwa [show Zi0 r1 = ⟨#[49]⟩ from by decide +kernel] at this
theorem C_T1 : Yd Tryz.prog 38 [Zz rn2] (.string ⟨#[45, 49, 47, 50]⟩) := by
 have := Zf2 rn2 kD kD
 rwa [show Zi0 rn2 = ⟨#[45, 49, 47, 50]⟩ from by decide +kernel] at this
theorem C_T2 : Yd Tryz.prog 38 [Zz r2] (.string ⟨#[49, 47, 50]⟩) := by
 have := Zf2 r2 kD kD
 rwa [show Zi0 r2 = ⟨#[49, 47, 50]⟩ from by decide +kernel] at this
theorem C_T3 : Yd Tryz.prog 38 [Zz r0] (.string ⟨#[48]⟩) := by
 have := Zf2 r0 kD kD
 rwa [show Zi0 r0 = ⟨#[48]⟩ from by decide +kernel] at this
theorem C_T4 : Yd Tryz.prog 38 [Zz r12] (.string ⟨#[49, 47, 49, 50]⟩) := by
 have := Zf2 r12 kD kD
 rwa [show Zi0 r12 = ⟨#[49, 47, 49, 50]⟩ from by decide +kernel] at this
theorem Zvi : Yd Tryz.prog 38 [Zz r24] (.string ⟨#[49, 47, 50, 52]⟩) := by
 have := Zf2 r24 kD kD
 rwa [show Zi0 r24 = ⟨#[49, 47, 50, 52]⟩ from by decide +kernel] at this
theorem C_T6 : Yd Tryz.prog 38 [Zz r6] (.string ⟨#[49, 47, 54]⟩) := by
 have := Zf2 r6 kD kD
 rwa [show Zi0 r6 = ⟨#[49, 47, 54]⟩ from by decide +kernel] at this
theorem Qcf : Ctr Tryz.prog 10 [.int .i64 1, Zcr (((1 : Int) : Rat), 0, ((1 : Int) : Rat)), Qr pU0 pU1 pU2] [SideF] (fun v Ψ => ∃ ad', v = .tuple #[.agg #[.int .i64 3, .int .i64 3, .slice ad' 9 9], .int .i64 0] ∧ Ψ = [Row ad' (cellsOf Zz vU0)]) := by
 have := Zrd 1 4 4 (((1 : Int) : Rat), 0, ((1 : Int) : Rat)) (Or.inl rfl) pU0 pU1 pU2 Qd6 Qan Qam dd dd kD kD kD pU_T
 rw [show Zd0 (fun n m => stE 1 (byL (((1 : Int) : Rat), 0, ((1 : Int) : Rat)) (Qb pU0 pU1 pU2) (Zd pU0 pU1 pU2)) n m) (Qk 1) (Qk 1) = vU0 from by decide +kernel] at this
 exact this
theorem Qfy : Ctr Tryz.prog 12 [.int .i64 1, Qr pU0 pU1 pU2] [SideF] (fun v Ψ => ∃ ad', v = .tuple #[.agg #[.int .i64 3, .int .i64 3, .slice ad' 9 9], .int .i64 0] ∧ Ψ = [Row ad' (cellsOf Zz vU1)]) := by
 have := Zzr 1 4 (Or.inl rfl) pU0 pU1 pU2 Qd6 Qan Qam dd pU_T
 rw [show Zd0 (fun n m => Zcu 1 n m * Qb pU0 pU1 pU2) (Qk 1) (Qk 1) = vU1 from by decide +kernel] at this
 exact this
def eU (i : Nat) : Rat := if i = 0 then 1 else 0
def Qea : List Tm := norm [(⟨0, 0, ((1 : Int) : Rat)⟩ : Tm)]
theorem Zqt (x y : Rat) : evP Qea x y = 1 := by
 unfold Qea; rw [Zao, Zou]; rfl
theorem Zmj : ∀ n, n < 3 → Zbi (norm (Qz Qea (Xh (Jx pU0 pU1 pU2) (Jw pU0 pU1 pU2) (Jv pU0 pU1 pU2) (Qc 1 n)))) pU0 pU1 pU2 = 1/6 := by
 intro n hn
 have hT : twP pU0 pU1 pU2 ≠ 0 := Zkn pU_T
 have hv : ∀ n, n < 3 → twQ pU0 pU1 pU2 * bqF eU (coV 1 n) = 1/6 := by decide +kernel
 rw [Zf9 (x := eU) (y := coV 1 n) (fun s t => ?_) (fun s t => ?_)]
 · exact hv n hn
 · rw [Zqt]; simp only [evQ, eU]; simp; grind
 ·
  obtain ⟨h0, h1, h2⟩ := Znd hT s t
  exact Zy0 (l0 := Jx pU0 pU1 pU2) (l1 := Jw pU0 pU1 pU2) (l2 := Jv pU0 pU1 pU2) (s := s) (t := t) ((Gr _ _ _ _).trans h0) ((Gr _ _ _ _).trans h1) ((Gr _ _ _ _).trans h2) (Or.inl rfl) hn
def qU : Rat := -(Zap pU1 (Jt pU2 pU1) * (((1 : Int) : Rat) / (Zap (Jt pU2 pU1) (Jt pU2 pU1))))
def gU : Pt := Zp1 (Jt pU2 pU1) (((1 : Int) : Rat) / (Zap (Jt pU2 pU1) (Jt pU2 pU1)))
theorem qU_val : qU = 1/2 ∧ gU.1 = -1/2 ∧ gU.2 = 1/2 := by decide +kernel
theorem pU_dif : pU2.1 - pU1.1 = -1 ∧ pU1.1 = 1 ∧ pU2.2 - pU1.2 = 1 ∧ pU1.2 = 0 := by decide +kernel
theorem ev_tU (x : Rat) : evP (Gq qU gU) ((pU2.1 - pU1.1) * x + pU1.1) ((pU2.2 - pU1.2) * x + pU1.2) = x := by
 obtain ⟨a, b, c⟩ := qU_val
 obtain ⟨d, e, f, g⟩ := pU_dif
 rw [Gr, a, b, c, d, e, f, g]; grind
theorem seg_t : Zt8 (norm (Qz Qea (Gq qU gU))) pU1 pU2 = 1/2 := by
 rw [← Zp0 _ [(⟨1, 0, 1⟩ : Tm)] pU1 pU2 (fun x y => by rw [Zao, Kq, Zqt, ev_tU, Zjy, Rat.pow_succ, Rat.pow_zero]; grind)]
 decide +kernel
theorem Qeo (t : List Tm) (x y : Rat) : evP (Zct t) x y = 1 - evP t x y := by
 unfold Zct; rw [Zao, Yz, Zao, Zou, Zgu, show ((1 : Int) : Rat) = 1 from rfl, show ((-1 : Int) : Rat) = -1 from rfl]; grind
theorem seg_o : Zt8 (norm (Qz Qea (Zct (Gq qU gU)))) pU1 pU2 = 1/2 := by
 rw [← Zp0 _ [(⟨0, 0, 1⟩ : Tm), ⟨1, 0, -1⟩] pU1 pU2 (fun x y => by
  rw [Zao, Kq, Zqt, Qeo, ev_tU, show [(⟨0, 0, 1⟩ : Tm), ⟨1, 0, -1⟩] = [(⟨0, 0, 1⟩ : Tm)] ++ [⟨1, 0, -1⟩] from rfl, Yz, Zjy, Zjy, Rat.pow_succ, Rat.pow_zero]; grind)]
 decide +kernel
theorem seg_n (t : List Tm) : Zt8 (norm (Qz [] t)) pU1 pU2 = 0 := by
 rw [← Zp0 _ [] pU1 pU2 (fun x y => by rw [Zao, Kq, Zh2, Zh2]; grind)]; rfl
theorem flow_t : Zbw (norm (Qz Qea (Gq qU gU))) (norm (Qz [] (Gq qU gU))) pU1 pU2 = 1/2 := by
 rw [Zbw, seg_t, seg_n]; decide +kernel
theorem flow_o : Zbw (norm (Qz Qea (Zct (Gq qU gU)))) (norm (Qz [] (Zct (Gq qU gU)))) pU1 pU2 = 1/2 := by
 rw [Zbw, seg_o, seg_n]; decide +kernel
theorem Qf0 (ad : Option Addr) (c : Nat) : Ctr Tryz.prog 34 [.int .i64 1, Qr pU0 pU1 pU2, .slice ad (norm [(⟨0, 0, ((1 : Int) : Rat)⟩ : Tm)]).length c] [SideF, Row ad (cellsOf Zr (norm [(⟨0, 0, ((1 : Int) : Rat)⟩ : Tm)]))] (fun v Ψ => ∃ ad' c', v = .tuple #[.slice ad' 3 c', .int .i64 0] ∧ Ψ = [Row ad' (cellsOf Zz vU2)]) := by
 have := Qf1 pU0 pU1 pU2 Qd6 Qan Qam pU_T (norm [(⟨0, 0, ((1 : Int) : Rat)⟩ : Tm)]) ad c (Zf4 _ (Zq 1 dd dd)) kD
 rw [show Zbi (norm (Qz (norm [(⟨0, 0, ((1 : Int) : Rat)⟩ : Tm)]) (Xh (Jx pU0 pU1 pU2) (Jw pU0 pU1 pU2) (Jv pU0 pU1 pU2) (Qc 1 0)))) pU0 pU1 pU2 = r6 from Zmj 0 dd, show Zbi (norm (Qz (norm [(⟨0, 0, ((1 : Int) : Rat)⟩ : Tm)]) (Xh (Jx pU0 pU1 pU2) (Jw pU0 pU1 pU2) (Jv pU0 pU1 pU2) (Qc 1 1)))) pU0 pU1 pU2 = r6 from Zmj 1 dd, show Zbi (norm (Qz (norm [(⟨0, 0, ((1 : Int) : Rat)⟩ : Tm)]) (Xh (Jx pU0 pU1 pU2) (Jw pU0 pU1 pU2) (Jv pU0 pU1 pU2) (Qc 1 2)))) pU0 pU1 pU2 = r6 from Zmj 2 dd] at this
 exact this
theorem Qfs (ad : Option Addr) (c : Nat) : Ctr Tryz.prog 36 [.int .i64 1, encPt pU1, encPt pU2, .agg #[.slice ad (norm [(⟨0, 0, ((1 : Int) : Rat)⟩ : Tm)]).length c, .slice none 0 0]] [Row ad (cellsOf Zr (norm [(⟨0, 0, ((1 : Int) : Rat)⟩ : Tm)]))] (fun v Ψ => ∃ ad' c', v = .tuple #[.slice ad' 2 c', .int .i64 0] ∧ Ψ = [Row ad' (cellsOf Zz vU3)]) := by
 have := Qft pU1 pU2 Qan Qam kD kD (norm [(⟨0, 0, ((1 : Int) : Rat)⟩ : Tm)]) ad c (Zf4 _ (Zq 1 dd dd)) kD
 rw [show Zbw (norm (Qz (norm [(⟨0, 0, ((1 : Int) : Rat)⟩ : Tm)]) (Zct (Gq (-(Zap pU1 (Jt pU2 pU1) * (((1 : Int) : Rat) / (Zap (Jt pU2 pU1) (Jt pU2 pU1))))) (Zp1 (Jt pU2 pU1) (((1 : Int) : Rat) / (Zap (Jt pU2 pU1) (Jt pU2 pU1)))))))) (norm (Qz ([] : List Tm) (Zct (Gq (-(Zap pU1 (Jt pU2 pU1) * (((1 : Int) : Rat) / (Zap (Jt pU2 pU1) (Jt pU2 pU1))))) (Zp1 (Jt pU2 pU1) (((1 : Int) : Rat) / (Zap (Jt pU2 pU1) (Jt pU2 pU1)))))))) pU1 pU2 = r2 from flow_o, show Zbw (norm (Qz (norm [(⟨0, 0, ((1 : Int) : Rat)⟩ : Tm)]) (Gq (-(Zap pU1 (Jt pU2 pU1) * (((1 : Int) : Rat) / (Zap (Jt pU2 pU1) (Jt pU2 pU1))))) (Zp1 (Jt pU2 pU1) (((1 : Int) : Rat) / (Zap (Jt pU2 pU1) (Jt pU2 pU1))))))) (norm (Qz ([] : List Tm) (Gq (-(Zap pU1 (Jt pU2 pU1) * (((1 : Int) : Rat) / (Zap (Jt pU2 pU1) (Jt pU2 pU1))))) (Zp1 (Jt pU2 pU1) (((1 : Int) : Rat) / (Zap (Jt pU2 pU1) (Jt pU2 pU1))))))) pU1 pU2 = r2 from flow_t] at this
 exact this
end
section
theorem Zyx (x0 : Option Addr) (x0n : Nat) (x0c : Nat) (x1 : Option Addr) (x1n : Nat) (x1c : Nat) (w : World) : (Instr.build 92 [(0, .slice x0 x0n x0c), (1, .slice x1 x1n x1c)].toArray).run Tryz.prog w = .ok (.agg #[.slice x0 x0n x0c, .slice x1 x1n x1c]) w := by simp [go_sem]
theorem Zc8 (x0 : ByteArray) (x1 : ByteArray) (x2 : ByteArray) (x3 : ByteArray) (x4 : ByteArray) (x5 : ByteArray) (x6 : ByteArray) (x7 : ByteArray) (x8 : ByteArray) (w : World) : (Instr.buildSlice 93 9 [(0, .string x0), (1, .string x1), (2, .string x2), (3, .string x3), (4, .string x4), (5, .string x5), (6, .string x6), (7, .string x7), (8, .string x8)].toArray).run Tryz.prog w = .ok (.slice (some ⟨w.heap.size, 0, none⟩) 9 9) (w.alloc (.cells #[.string x0, .string x1, .string x2, .string x3, .string x4, .string x5, .string x6, .string x7, .string x8] 9 (0, 0))) := by
 simp [go_sem]
theorem Zmu (b off n c j : Nat) (h : j < n) (w : World) : (Instr.indexAt 93 (.slice (some ⟨b, off, none⟩) n c) (.int .i64 (j : Int))).run Tryz.prog w = .ok (.pointer (some ⟨b, off + j, none⟩)) w := by
 simpa using Xt runUnderlying93 sizeOf9 b off n c j h w
set_option maxHeartbeats 2000000 in
theorem Znj : Zaq Tryz.prog 6 [] [SideF] (.bool true) := by
 refine fn_intro func6 rfl ntmps6 nb ?_
 intro S w0 a hS h
 refine gC h (zS (za rfl (zn (zS (zv [_] rfl call21 (Ki _ oo oo) ?_)))))
 have hl12 := Zq (1) oo oo
 refine zp (.build [] rfl (Zyz)) (zv [_] rfl call21 (Ki _ oo oo) ?_)
 have hl14 := Zq (1) oo oo
 refine zp (.build [(_, _), (_, _), (_, _)] rfl (Zfy _ _ _ _ _ _ _ _ _ _ _ _ _ _ _)) (zv [] rfl call33 (Zq6) ?_); intro a w h
 refine Zc (Zx h (vs := [_, _, _]) rfl call10 (Qcf) (by exact hsA) dd ?_); clear h; rintro v17 Ψ17 a w ⟨ad17, rfl, rfl⟩ h
 obtain ⟨B17, O17, rfl⟩ := h.row_addr (ad := ad17) (M := cellsOf Zz vU0) mm (by intro e; have := congrArg List.length e; rw [cellsOf_length (k := 5) (fun _ => rfl)] at this; exact absurd this ss)
 refine gL h (zm rfl (zp (.eX rfl) (zp (.eX rfl) (zz zeroValue57 fun b1 => zt' rfl rfl Jn uu sizeOf57 rfl nb rfl ?_))))
 refine za rfl (zn (zS (zv [] rfl call33 (Zq6) ?_))); intro a w h
 refine Zc (Zx h (vs := [_, _]) rfl call12 (Qfy) (by exact hsA) dd ?_); clear h; rintro v22 Ψ22 a w ⟨ad22, rfl, rfl⟩ h
 obtain ⟨B22, O22, rfl⟩ := h.row_addr (ad := ad22) (M := cellsOf Zz vU1) mm (by intro e; have := congrArg List.length e; rw [cellsOf_length (k := 5) (fun _ => rfl)] at this; exact absurd this ss)
 refine gL h (zm rfl (zp (.eX rfl) (zp (.eX rfl) (zz zeroValue57 fun b3 => zt' rfl rfl Jn uu sizeOf57 rfl nb rfl ?_))))
 refine za rfl (zn (zS (zv [] rfl call33 (Zq6) (zv [_] rfl call21 (Ki _ oo oo) ?_)))); intro a w h
 have hl27 := Zq (1) oo oo
 refine Zc (Zx h (vs := [_]) rfl call35 (Vq ((1 : Int) : Rat) 2 (Zq _ dd dd) dd) (by exact hsA) dd ?_); clear h; rintro v28 Ψ28 a w ⟨ad28, c28, rfl, rfl⟩ h
 refine Zc (Zx h (vs := [_, _, _]) rfl call34 (Qf0 _ _) (by exact hsA) dd ?_); clear h; rintro v29 Ψ29 a w ⟨ad29, c29, rfl, rfl⟩ h
 obtain ⟨B29, O29, rfl⟩ := h.row_addr (ad := ad29) (M := cellsOf Zz vU2) mm (by intro e; have := congrArg List.length e; rw [cellsOf_length (k := 5) (fun _ => rfl)] at this; exact absurd this ss)
 refine gL h (zm rfl (zp (.eX rfl) (zp (.eX rfl) (za rfl (za rfl (zn (zS (zv [_, _] rfl call37 (Zzc 1 0 dd dd) (zv [_, _] rfl call37 (Zzc 0 1 dd dd) (zv [_] rfl call21 (Ki _ oo oo) ?_)))))))))); clear h; intro a w h
 have hl35 := Zq (1) oo oo
 refine Zc (Zx h (vs := [_]) rfl call35 (Vq ((1 : Int) : Rat) 2 (Zq _ dd dd) dd) (by exact hsA) dd ?_); clear h; rintro v36 Ψ36 a w ⟨ad36, c36, rfl, rfl⟩ h
 refine gL h (zp (.build [(_, _), (_, _)] rfl (Zyx _ _ _ _ _ _)) ?_); clear h; intro a w h
 refine Zc (Zx h (vs := [_, _, _, _]) rfl call36 (Qfs _ _) (by exact hsA) dd ?_); clear h; rintro v38 Ψ38 a w ⟨ad38, c38, rfl, rfl⟩ h
 obtain ⟨B38, O38, rfl⟩ := h.row_addr (ad := ad38) (M := cellsOf Zz vU3) mm (by intro e; have := congrArg List.length e; rw [cellsOf_length (k := 5) (fun _ => rfl)] at this; exact absurd this ss)
 refine gL h (zm rfl (zp (.eX rfl) (zp (.eX rfl) (za rfl (za rfl (zn (zs (zS (zm rfl (zp (Pure1.cast (v' := .bool false) (.neq rfl rfl) cgd) (zm rfl (zq 43 rfl rfl (.move rfl) (zq 43 rfl rfl (Pure1.cast (v' := .bool false) (.neq rfl rfl) cgd) (zp (.pickF rfl rfl) (zm rfl (zq 47 rfl rfl (.move rfl) (zq 47 rfl rfl (Pure1.cast (v' := .bool false) (.neq rfl rfl) cgd) (zp (.pickF rfl rfl) (zm rfl (zq 51 rfl rfl (.move rfl) (zq 51 rfl rfl (Pure1.cast (v' := .bool false) (.neq rfl rfl) cgd) (zp (.pickF rfl rfl) (zm rfl (zq 55 rfl rfl (.move rfl) (zq 55 rfl rfl (.builtin [_] rfl (Xd _ _ _)) (zq 55 rfl rfl (Pure1.cast (v' := .bool false) (.neq rfl rfl) cgd) (zp (.pickF rfl rfl) (zm rfl (zq 60 rfl rfl (.move rfl) (zq 60 rfl rfl (.builtin [_] rfl (Xd _ _ _)) (zq 60 rfl rfl (Pure1.cast (v' := .bool false) (.neq rfl rfl) cgd) (zp (.pickF rfl rfl) (zm rfl (zq 65 rfl rfl (.fA rfl Zc6) ?_)))))))))))))))))))))))))))))))))); clear h; intro a w h
 refine Qe 65 h rfl rfl (Ql h rfl mr isAgg3 sizeOf3 Gy dd ?_); clear h; intro a h
 refine gL h (zq 65 rfl rfl (Pure1.cast (v' := .bool false) (.neq rfl rfl) cgd) (zp (.pickF rfl rfl) (zm rfl (zq 70 rfl rfl (.fA rfl Zco) ?_)))); clear h; intro a w h
 refine Qe 70 h rfl rfl (Ql h rfl mr isAgg3 sizeOf3 Gu dd ?_); clear h; intro a h
 refine gL h (zq 70 rfl rfl (Pure1.cast (v' := .bool false) (.neq rfl rfl) cgd) (zp (.pickF rfl rfl) (zm rfl (zq 75 rfl rfl (.fA rfl Zc6) ?_)))); clear h; intro a w h
 refine Qe 75 h rfl rfl (Ql h rfl mr isAgg3 sizeOf3 Gy dd ?_); clear h; intro a h
 refine gL h (zq 75 rfl rfl (Pure1.cast (v' := .bool false) (.neq rfl rfl) cgd) (zp (.pickF rfl rfl) (zm rfl (zq 80 rfl rfl (.fA rfl Xl) ?_)))); clear h; intro a w h
 refine Qe 80 h rfl rfl (Ql h rfl mr isAgg49 sizeOf49 Jl dd ?_); clear h; intro a h
 refine gL h (zq 80 rfl rfl (.builtin [_] rfl (Gl _ _ _)) (zq 80 rfl rfl (Pure1.cast (v' := .bool false) (.neq rfl rfl) cgd) (zp (.pickF rfl rfl) (zm rfl (zq 86 rfl rfl (.fA rfl Xl) ?_))))); clear h; intro a w h
 refine Qe 86 h rfl rfl (Ql h rfl mr isAgg49 sizeOf49 Jl dd ?_); clear h; intro a h
 refine gL h (zq 86 rfl rfl (.builtin [_] rfl (Gl _ _ _)) (zq 86 rfl rfl (Pure1.cast (v' := .bool false) (.neq rfl rfl) cgd) (zp (.pickF rfl rfl) (zn ?_)))); clear h; intro a w h
 refine cW ?_
 refine Zf h rfl ?_
 refine gC h (zk (zS (zB [(_, _), (_, _), (_, _), (_, _), (_, _), (_, _), (_, _), (_, _), (_, _)] rfl (Zc8 _ _ _ _ _ _ _ _ _) fun b92 => za rfl (zn (zs (zS (za rfl (zn (zb ?_))))))))); clear h; intro a w h
 refine wp_loop_rounds 10 ?_
 refine Zb ?_
 refine gC h (zs (zS (zm rfl (zp (Pure1.cast (v' := .bool true) (.lss rfl rfl) cgd) (zn ?_))))); clear h; intro a w h
 refine cW ?_
 refine Zg h rfl ?_
 refine gC h (zk (zs (zb (zs (yD Za [0, 1, 2, 3, 4, 6, 7, 8, 9, 5, 10, 11, 12, 13, 14, 15, 16, 19, 20, 21, 17, 18, 22, 23, 24, 25, 26, 27, 28, 29, 30, 31, 32, 33, 34, 35, 36, 37] (Ze kk) (yp rfl (.fA rfl Xl) (yd rfl rfl mr isAgg49 sizeOf49 Jl ?_))))))); clear h
 refine ym rfl rfl (yp rfl (.indexAddr rfl rfl (Zax _ _ _ _ _ (by exact ixd))) ?_)
 refine Zp rfl kk rfl mm (cells_lt (k := 5) dd (fun _ => rfl) vU0 0 (by exact ixd)) isAgg41 sizeOf41 (Zn (k := 5) (fun _ => rfl) ((fun _ => rfl)) vU0 0 0 (by exact ixd)) (.inl rfl) dd ?_
 refine ym rfl rfl (ym rfl rfl (yp rfl (.indexAddr rfl rfl (Zmu _ _ _ _ _ (by exact ixd))) (yd rfl rfl mm isAgg9 sizeOf9 ((congrArg _ (Nat.zero_add _)).trans (Zv (enc := encs) (l := ([⟨#[49]⟩, ⟨#[45, 49, 47, 50]⟩, ⟨#[45, 49, 47, 50]⟩, ⟨#[45, 49, 47, 50]⟩, ⟨#[49, 47, 50]⟩, ⟨#[48]⟩, ⟨#[45, 49, 47, 50]⟩, ⟨#[48]⟩, ⟨#[49, 47, 50]⟩])) (⟨#[]⟩) (by exact ixd))) ?_)))
 refine yv [_] rfl rfl call38 (C_T0) (yp rfl (Pure1.cast (v' := .bool false) (.binOp rfl rfl (fun _ => Kj _ _ _ _ _)) cgd) (ym rfl rfl (yq rfl rfl rfl (.fA rfl Xl) (yg rfl rfl rfl rfl mr isAgg49 sizeOf49 Jl ?_))))
 refine yq rfl rfl rfl (.move rfl) (yq rfl rfl rfl (.indexAddr rfl rfl (Zax _ _ _ _ _ (by exact ixd))) ?_)
 refine Qo rfl rfl rfl kk rfl mm (cells_lt (k := 5) dd (fun _ => rfl) vU1 0 (by exact ixd)) isAgg41 sizeOf41 (Zn (k := 5) (fun _ => rfl) ((fun _ => rfl)) vU1 0 0 (by exact ixd)) (.inl rfl) dd ?_
 refine yq rfl rfl rfl (.move rfl) (yq rfl rfl rfl (Pure1.cast (v' := .int .i64 0) (.binOp rfl rfl (fun _ => Yf _ _ _ _ _ dd)) cgd) (yq rfl rfl rfl (Pure1.cast (v' := .bool true) (.eql rfl rfl) cgd) ?_))
 refine Xe rfl rfl rfl kk (vs := [_]) rfl call38 (C_T4) dd ?_
 refine yq rfl rfl rfl (Pure1.cast (v' := .bool true) (.binOp rfl rfl (fun _ => Ya _ _ _ _ _)) cgd) (yq rfl rfl rfl (Pure1.cast (v' := .bool false) (.binOp rfl rfl (fun _ => Zba _ underlying4 _ _ _ _)) cgd) (yp rfl (.pickF rfl rfl) (ym rfl rfl (yq rfl rfl rfl (.move rfl) (yq rfl rfl rfl (Pure1.cast (v' := .int .i64 0) (.binOp rfl rfl (fun _ => Yf _ _ _ _ _ dd)) cgd) (yq rfl rfl rfl (Pure1.cast (v' := .bool false) (.neq rfl rfl) cgd) (yq rfl rfl rfl (.move rfl) (yo 125 rfl rfl rfl rfl (yo 125 rfl rfl rfl rfl (yo 125 rfl rfl rfl rfl (yo 125 rfl rfl rfl rfl (yo 125 rfl rfl rfl rfl (yo 125 rfl rfl rfl rfl (yo 125 rfl rfl rfl rfl (yq rfl rfl rfl (.pickF rfl rfl) (yp rfl (.pickF rfl rfl) (yn ?_))))))))))))))))); intro a w h
 refine cW ?_
 refine Zf h rfl ?_
 refine gC h (zk (zr (zm rfl (zp (Pure1.cast (v' := .int .i64 1) (.add rfl rfl) cgd) (za rfl (zn ?_)))))); clear h; intro a w h
 replace h : St 174 S w0 [(0, .bool false), (1, _), (3, _), (5, _), (7, _), (9, _), (10, .int .i64 1), (94, .bool true), (134, .bool false)] _ _ a w := h.sub sA
 refine Zb ?_
 refine gC h (zs (zS (zm rfl (zp (Pure1.cast (v' := .bool true) (.lss rfl rfl) cgd) (zn ?_))))); clear h; intro a w h
 refine cW ?_
 refine Zg h rfl ?_
 refine gC h (zk (zs (zb (zs (yD Za [0, 1, 2, 3, 4, 6, 7, 8, 9, 5, 10, 11, 12, 13, 14, 15, 16, 19, 20, 21, 17, 18, 22, 23, 24, 25, 26, 27, 28, 29, 30, 31, 32, 33, 34, 35, 36, 37] (Ze kk) (yp rfl (.fA rfl Xl) (yd rfl rfl mr isAgg49 sizeOf49 Jl ?_))))))); clear h
 refine ym rfl rfl (yp rfl (.indexAddr rfl rfl (Zax _ _ _ _ _ (by exact ixd))) ?_)
 refine Zp rfl kk rfl mm (cells_lt (k := 5) dd (fun _ => rfl) vU0 1 (by exact ixd)) isAgg41 sizeOf41 (Zn (k := 5) (fun _ => rfl) ((fun _ => rfl)) vU0 0 1 (by exact ixd)) (.inl rfl) dd ?_
 refine ym rfl rfl (ym rfl rfl (yp rfl (.indexAddr rfl rfl (Zmu _ _ _ _ _ (by exact ixd))) (yd rfl rfl mm isAgg9 sizeOf9 ((congrArg _ (Nat.zero_add _)).trans (Zv (enc := encs) (l := ([⟨#[49]⟩, ⟨#[45, 49, 47, 50]⟩, ⟨#[45, 49, 47, 50]⟩, ⟨#[45, 49, 47, 50]⟩, ⟨#[49, 47, 50]⟩, ⟨#[48]⟩, ⟨#[45, 49, 47, 50]⟩, ⟨#[48]⟩, ⟨#[49, 47, 50]⟩])) (⟨#[]⟩) (by exact ixd))) ?_)))
 refine yv [_] rfl rfl call38 (C_T1) (yp rfl (Pure1.cast (v' := .bool false) (.binOp rfl rfl (fun _ => Kj _ _ _ _ _)) cgd) (ym rfl rfl (yq rfl rfl rfl (.fA rfl Xl) (yg rfl rfl rfl rfl mr isAgg49 sizeOf49 Jl ?_))))
 refine yq rfl rfl rfl (.move rfl) (yq rfl rfl rfl (.indexAddr rfl rfl (Zax _ _ _ _ _ (by exact ixd))) ?_)
 refine Qo rfl rfl rfl kk rfl mm (cells_lt (k := 5) dd (fun _ => rfl) vU1 1 (by exact ixd)) isAgg41 sizeOf41 (Zn (k := 5) (fun _ => rfl) ((fun _ => rfl)) vU1 0 1 (by exact ixd)) (.inl rfl) dd ?_
 refine yq rfl rfl rfl (.move rfl) (yq rfl rfl rfl (Pure1.cast (v' := .int .i64 1) (.binOp rfl rfl (fun _ => Yf _ _ _ _ _ dd)) cgd) (yq rfl rfl rfl (Pure1.cast (v' := .bool false) (.eql rfl rfl) cgd) ?_))
 refine Xe rfl rfl rfl kk (vs := [_]) rfl call38 (Zvi) dd ?_
 refine yq rfl rfl rfl (Pure1.cast (v' := .bool false) (.binOp rfl rfl (fun _ => Ya _ _ _ _ _)) cgd) (yq rfl rfl rfl (Pure1.cast (v' := .bool false) (.binOp rfl rfl (fun _ => Zba _ underlying4 _ _ _ _)) cgd) (yp rfl (.pickF rfl rfl) (ym rfl rfl (yq rfl rfl rfl (.move rfl) (yq rfl rfl rfl (Pure1.cast (v' := .int .i64 1) (.binOp rfl rfl (fun _ => Yf _ _ _ _ _ dd)) cgd) (yq rfl rfl rfl (Pure1.cast (v' := .bool true) (.neq rfl rfl) cgd) (yq rfl rfl rfl (.move rfl) (yq rfl rfl rfl (.fA rfl Xl) (yg rfl rfl rfl rfl mr isAgg49 sizeOf49 Jl ?_)))))))))
 refine yq rfl rfl rfl (.move rfl) (yq rfl rfl rfl (.indexAddr rfl rfl (Zax _ _ _ _ _ (by exact ixd))) ?_)
 refine Qo rfl rfl rfl kk rfl mm (cells_lt (k := 5) dd (fun _ => rfl) vU1 1 (by exact ixd)) isAgg41 sizeOf41 (Zn (k := 5) (fun _ => rfl) ((fun _ => rfl)) vU1 0 1 (by exact ixd)) (.inl rfl) dd ?_
 refine Xe rfl rfl rfl kk (vs := [_]) rfl call38 (Zvi) dd ?_
 refine yq rfl rfl rfl (Pure1.cast (v' := .bool false) (.binOp rfl rfl (fun _ => Kj _ _ _ _ _)) cgd) (yq rfl rfl rfl (.pickT rfl rfl) (yp rfl (.pickF rfl rfl) (yn ?_))); intro a w h
 refine cW ?_
 refine Zf h rfl ?_
 refine gC h (zk (zr (zm rfl (zp (Pure1.cast (v' := .int .i64 2) (.add rfl rfl) cgd) (za rfl (zn ?_)))))); clear h; intro a w h
 replace h : St 174 S w0 [(0, .bool false), (1, _), (3, _), (5, _), (7, _), (9, _), (10, .int .i64 2), (94, .bool true), (134, .bool false)] _ _ a w := h.sub sA
 refine Zb ?_
 refine gC h (zs (zS (zm rfl (zp (Pure1.cast (v' := .bool true) (.lss rfl rfl) cgd) (zn ?_))))); clear h; intro a w h
 refine cW ?_
 refine Zg h rfl ?_
 refine gC h (zk (zs (zb (zs (yD Za [0, 1, 2, 3, 4, 6, 7, 8, 9, 5, 10, 11, 12, 13, 14, 15, 16, 19, 20, 21, 17, 18, 22, 23, 24, 25, 26, 27, 28, 29, 30, 31, 32, 33, 34, 35, 36, 37] (Ze kk) (yp rfl (.fA rfl Xl) (yd rfl rfl mr isAgg49 sizeOf49 Jl ?_))))))); clear h
 refine ym rfl rfl (yp rfl (.indexAddr rfl rfl (Zax _ _ _ _ _ (by exact ixd))) ?_)
 refine Zp rfl kk rfl mm (cells_lt (k := 5) dd (fun _ => rfl) vU0 2 (by exact ixd)) isAgg41 sizeOf41 (Zn (k := 5) (fun _ => rfl) ((fun _ => rfl)) vU0 0 2 (by exact ixd)) (.inl rfl) dd ?_
 refine ym rfl rfl (ym rfl rfl (yp rfl (.indexAddr rfl rfl (Zmu _ _ _ _ _ (by exact ixd))) (yd rfl rfl mm isAgg9 sizeOf9 ((congrArg _ (Nat.zero_add _)).trans (Zv (enc := encs) (l := ([⟨#[49]⟩, ⟨#[45, 49, 47, 50]⟩, ⟨#[45, 49, 47, 50]⟩, ⟨#[45, 49, 47, 50]⟩, ⟨#[49, 47, 50]⟩, ⟨#[48]⟩, ⟨#[45, 49, 47, 50]⟩, ⟨#[48]⟩, ⟨#[49, 47, 50]⟩])) (⟨#[]⟩) (by exact ixd))) ?_)))
 refine yv [_] rfl rfl call38 (C_T1) (yp rfl (Pure1.cast (v' := .bool false) (.binOp rfl rfl (fun _ => Kj _ _ _ _ _)) cgd) (ym rfl rfl (yq rfl rfl rfl (.fA rfl Xl) (yg rfl rfl rfl rfl mr isAgg49 sizeOf49 Jl ?_))))
 refine yq rfl rfl rfl (.move rfl) (yq rfl rfl rfl (.indexAddr rfl rfl (Zax _ _ _ _ _ (by exact ixd))) ?_)
 refine Qo rfl rfl rfl kk rfl mm (cells_lt (k := 5) dd (fun _ => rfl) vU1 2 (by exact ixd)) isAgg41 sizeOf41 (Zn (k := 5) (fun _ => rfl) ((fun _ => rfl)) vU1 0 2 (by exact ixd)) (.inl rfl) dd ?_
 refine yq rfl rfl rfl (.move rfl) (yq rfl rfl rfl (Pure1.cast (v' := .int .i64 2) (.binOp rfl rfl (fun _ => Yf _ _ _ _ _ dd)) cgd) (yq rfl rfl rfl (Pure1.cast (v' := .bool false) (.eql rfl rfl) cgd) ?_))
 refine Xe rfl rfl rfl kk (vs := [_]) rfl call38 (Zvi) dd ?_
 refine yq rfl rfl rfl (Pure1.cast (v' := .bool false) (.binOp rfl rfl (fun _ => Ya _ _ _ _ _)) cgd) (yq rfl rfl rfl (Pure1.cast (v' := .bool false) (.binOp rfl rfl (fun _ => Zba _ underlying4 _ _ _ _)) cgd) (yp rfl (.pickF rfl rfl) (ym rfl rfl (yq rfl rfl rfl (.move rfl) (yq rfl rfl rfl (Pure1.cast (v' := .int .i64 2) (.binOp rfl rfl (fun _ => Yf _ _ _ _ _ dd)) cgd) (yq rfl rfl rfl (Pure1.cast (v' := .bool true) (.neq rfl rfl) cgd) (yq rfl rfl rfl (.move rfl) (yq rfl rfl rfl (.fA rfl Xl) (yg rfl rfl rfl rfl mr isAgg49 sizeOf49 Jl ?_)))))))))
 refine yq rfl rfl rfl (.move rfl) (yq rfl rfl rfl (.indexAddr rfl rfl (Zax _ _ _ _ _ (by exact ixd))) ?_)
 refine Qo rfl rfl rfl kk rfl mm (cells_lt (k := 5) dd (fun _ => rfl) vU1 2 (by exact ixd)) isAgg41 sizeOf41 (Zn (k := 5) (fun _ => rfl) ((fun _ => rfl)) vU1 0 2 (by exact ixd)) (.inl rfl) dd ?_
 refine Xe rfl rfl rfl kk (vs := [_]) rfl call38 (Zvi) dd ?_
 refine yq rfl rfl rfl (Pure1.cast (v' := .bool false) (.binOp rfl rfl (fun _ => Kj _ _ _ _ _)) cgd) (yq rfl rfl rfl (.pickT rfl rfl) (yp rfl (.pickF rfl rfl) (yn ?_))); intro a w h
 refine cW ?_
 refine Zf h rfl ?_
 refine gC h (zk (zr (zm rfl (zp (Pure1.cast (v' := .int .i64 3) (.add rfl rfl) cgd) (za rfl (zn ?_)))))); clear h; intro a w h
 replace h : St 174 S w0 [(0, .bool false), (1, _), (3, _), (5, _), (7, _), (9, _), (10, .int .i64 3), (94, .bool true), (134, .bool false)] _ _ a w := h.sub sA
 refine Zb ?_
 refine gC h (zs (zS (zm rfl (zp (Pure1.cast (v' := .bool true) (.lss rfl rfl) cgd) (zn ?_))))); clear h; intro a w h
 refine cW ?_
 refine Zg h rfl ?_
 refine gC h (zk (zs (zb (zs (yD Za [0, 1, 2, 3, 4, 6, 7, 8, 9, 5, 10, 11, 12, 13, 14, 15, 16, 19, 20, 21, 17, 18, 22, 23, 24, 25, 26, 27, 28, 29, 30, 31, 32, 33, 34, 35, 36, 37] (Ze kk) (yp rfl (.fA rfl Xl) (yd rfl rfl mr isAgg49 sizeOf49 Jl ?_))))))); clear h
 refine ym rfl rfl (yp rfl (.indexAddr rfl rfl (Zax _ _ _ _ _ (by exact ixd))) ?_)
 refine Zp rfl kk rfl mm (cells_lt (k := 5) dd (fun _ => rfl) vU0 3 (by exact ixd)) isAgg41 sizeOf41 (Zn (k := 5) (fun _ => rfl) ((fun _ => rfl)) vU0 0 3 (by exact ixd)) (.inl rfl) dd ?_
 refine ym rfl rfl (ym rfl rfl (yp rfl (.indexAddr rfl rfl (Zmu _ _ _ _ _ (by exact ixd))) (yd rfl rfl mm isAgg9 sizeOf9 ((congrArg _ (Nat.zero_add _)).trans (Zv (enc := encs) (l := ([⟨#[49]⟩, ⟨#[45, 49, 47, 50]⟩, ⟨#[45, 49, 47, 50]⟩, ⟨#[45, 49, 47, 50]⟩, ⟨#[49, 47, 50]⟩, ⟨#[48]⟩, ⟨#[45, 49, 47, 50]⟩, ⟨#[48]⟩, ⟨#[49, 47, 50]⟩])) (⟨#[]⟩) (by exact ixd))) ?_)))
 refine yv [_] rfl rfl call38 (C_T1) (yp rfl (Pure1.cast (v' := .bool false) (.binOp rfl rfl (fun _ => Kj _ _ _ _ _)) cgd) (ym rfl rfl (yq rfl rfl rfl (.fA rfl Xl) (yg rfl rfl rfl rfl mr isAgg49 sizeOf49 Jl ?_))))
 refine yq rfl rfl rfl (.move rfl) (yq rfl rfl rfl (.indexAddr rfl rfl (Zax _ _ _ _ _ (by exact ixd))) ?_)
 refine Qo rfl rfl rfl kk rfl mm (cells_lt (k := 5) dd (fun _ => rfl) vU1 3 (by exact ixd)) isAgg41 sizeOf41 (Zn (k := 5) (fun _ => rfl) ((fun _ => rfl)) vU1 0 3 (by exact ixd)) (.inl rfl) dd ?_
 refine yq rfl rfl rfl (.move rfl) (yq rfl rfl rfl (Pure1.cast (v' := .int .i64 3) (.binOp rfl rfl (fun _ => Yf _ _ _ _ _ dd)) cgd) (yq rfl rfl rfl (Pure1.cast (v' := .bool false) (.eql rfl rfl) cgd) ?_))
 refine Xe rfl rfl rfl kk (vs := [_]) rfl call38 (Zvi) dd ?_
 refine yq rfl rfl rfl (Pure1.cast (v' := .bool false) (.binOp rfl rfl (fun _ => Ya _ _ _ _ _)) cgd) (yq rfl rfl rfl (Pure1.cast (v' := .bool false) (.binOp rfl rfl (fun _ => Zba _ underlying4 _ _ _ _)) cgd) (yp rfl (.pickF rfl rfl) (ym rfl rfl (yq rfl rfl rfl (.move rfl) (yq rfl rfl rfl (Pure1.cast (v' := .int .i64 3) (.binOp rfl rfl (fun _ => Yf _ _ _ _ _ dd)) cgd) (yq rfl rfl rfl (Pure1.cast (v' := .bool true) (.neq rfl rfl) cgd) (yq rfl rfl rfl (.move rfl) (yq rfl rfl rfl (.fA rfl Xl) (yg rfl rfl rfl rfl mr isAgg49 sizeOf49 Jl ?_)))))))))
 refine yq rfl rfl rfl (.move rfl) (yq rfl rfl rfl (.indexAddr rfl rfl (Zax _ _ _ _ _ (by exact ixd))) ?_)
 refine Qo rfl rfl rfl kk rfl mm (cells_lt (k := 5) dd (fun _ => rfl) vU1 3 (by exact ixd)) isAgg41 sizeOf41 (Zn (k := 5) (fun _ => rfl) ((fun _ => rfl)) vU1 0 3 (by exact ixd)) (.inl rfl) dd ?_
 refine Xe rfl rfl rfl kk (vs := [_]) rfl call38 (Zvi) dd ?_
 refine yq rfl rfl rfl (Pure1.cast (v' := .bool false) (.binOp rfl rfl (fun _ => Kj _ _ _ _ _)) cgd) (yq rfl rfl rfl (.pickT rfl rfl) (yp rfl (.pickF rfl rfl) (yn ?_))); intro a w h
 refine cW ?_
 refine Zf h rfl ?_
 refine gC h (zk (zr (zm rfl (zp (Pure1.cast (v' := .int .i64 4) (.add rfl rfl) cgd) (za rfl (zn ?_)))))); clear h; intro a w h
 replace h : St 174 S w0 [(0, .bool false), (1, _), (3, _), (5, _), (7, _), (9, _), (10, .int .i64 4), (94, .bool true), (134, .bool false)] _ _ a w := h.sub sA
 refine Zb ?_
 refine gC h (zs (zS (zm rfl (zp (Pure1.cast (v' := .bool true) (.lss rfl rfl) cgd) (zn ?_))))); clear h; intro a w h
 refine cW ?_
 refine Zg h rfl ?_
 refine gC h (zk (zs (zb (zs (yD Za [0, 1, 2, 3, 4, 6, 7, 8, 9, 5, 10, 11, 12, 13, 14, 15, 16, 19, 20, 21, 17, 18, 22, 23, 24, 25, 26, 27, 28, 29, 30, 31, 32, 33, 34, 35, 36, 37] (Ze kk) (yp rfl (.fA rfl Xl) (yd rfl rfl mr isAgg49 sizeOf49 Jl ?_))))))); clear h
 refine ym rfl rfl (yp rfl (.indexAddr rfl rfl (Zax _ _ _ _ _ (by exact ixd))) ?_)
 refine Zp rfl kk rfl mm (cells_lt (k := 5) dd (fun _ => rfl) vU0 4 (by exact ixd)) isAgg41 sizeOf41 (Zn (k := 5) (fun _ => rfl) ((fun _ => rfl)) vU0 0 4 (by exact ixd)) (.inl rfl) dd ?_
 refine ym rfl rfl (ym rfl rfl (yp rfl (.indexAddr rfl rfl (Zmu _ _ _ _ _ (by exact ixd))) (yd rfl rfl mm isAgg9 sizeOf9 ((congrArg _ (Nat.zero_add _)).trans (Zv (enc := encs) (l := ([⟨#[49]⟩, ⟨#[45, 49, 47, 50]⟩, ⟨#[45, 49, 47, 50]⟩, ⟨#[45, 49, 47, 50]⟩, ⟨#[49, 47, 50]⟩, ⟨#[48]⟩, ⟨#[45, 49, 47, 50]⟩, ⟨#[48]⟩, ⟨#[49, 47, 50]⟩])) (⟨#[]⟩) (by exact ixd))) ?_)))
 refine yv [_] rfl rfl call38 (C_T2) (yp rfl (Pure1.cast (v' := .bool false) (.binOp rfl rfl (fun _ => Kj _ _ _ _ _)) cgd) (ym rfl rfl (yq rfl rfl rfl (.fA rfl Xl) (yg rfl rfl rfl rfl mr isAgg49 sizeOf49 Jl ?_))))
 refine yq rfl rfl rfl (.move rfl) (yq rfl rfl rfl (.indexAddr rfl rfl (Zax _ _ _ _ _ (by exact ixd))) ?_)
 refine Qo rfl rfl rfl kk rfl mm (cells_lt (k := 5) dd (fun _ => rfl) vU1 4 (by exact ixd)) isAgg41 sizeOf41 (Zn (k := 5) (fun _ => rfl) ((fun _ => rfl)) vU1 0 4 (by exact ixd)) (.inl rfl) dd ?_
 refine yq rfl rfl rfl (.move rfl) (yq rfl rfl rfl (Pure1.cast (v' := .int .i64 0) (.binOp rfl rfl (fun _ => Yf _ _ _ _ _ dd)) cgd) (yq rfl rfl rfl (Pure1.cast (v' := .bool true) (.eql rfl rfl) cgd) ?_))
 refine Xe rfl rfl rfl kk (vs := [_]) rfl call38 (C_T4) dd ?_
 refine yq rfl rfl rfl (Pure1.cast (v' := .bool true) (.binOp rfl rfl (fun _ => Ya _ _ _ _ _)) cgd) (yq rfl rfl rfl (Pure1.cast (v' := .bool false) (.binOp rfl rfl (fun _ => Zba _ underlying4 _ _ _ _)) cgd) (yp rfl (.pickF rfl rfl) (ym rfl rfl (yq rfl rfl rfl (.move rfl) (yq rfl rfl rfl (Pure1.cast (v' := .int .i64 0) (.binOp rfl rfl (fun _ => Yf _ _ _ _ _ dd)) cgd) (yq rfl rfl rfl (Pure1.cast (v' := .bool false) (.neq rfl rfl) cgd) (yq rfl rfl rfl (.move rfl) (yo 125 rfl rfl rfl rfl (yo 125 rfl rfl rfl rfl (yo 125 rfl rfl rfl rfl (yo 125 rfl rfl rfl rfl (yo 125 rfl rfl rfl rfl (yo 125 rfl rfl rfl rfl (yo 125 rfl rfl rfl rfl (yq rfl rfl rfl (.pickF rfl rfl) (yp rfl (.pickF rfl rfl) (yn ?_))))))))))))))))); intro a w h
 refine cW ?_
 refine Zf h rfl ?_
 refine gC h (zk (zr (zm rfl (zp (Pure1.cast (v' := .int .i64 5) (.add rfl rfl) cgd) (za rfl (zn ?_)))))); clear h; intro a w h
 replace h : St 174 S w0 [(0, .bool false), (1, _), (3, _), (5, _), (7, _), (9, _), (10, .int .i64 5), (94, .bool true), (134, .bool false)] _ _ a w := h.sub sA
 refine Zb ?_
 refine gC h (zs (zS (zm rfl (zp (Pure1.cast (v' := .bool true) (.lss rfl rfl) cgd) (zn ?_))))); clear h; intro a w h
 refine cW ?_
 refine Zg h rfl ?_
 refine gC h (zk (zs (zb (zs (yD Za [0, 1, 2, 3, 4, 6, 7, 8, 9, 5, 10, 11, 12, 13, 14, 15, 16, 19, 20, 21, 17, 18, 22, 23, 24, 25, 26, 27, 28, 29, 30, 31, 32, 33, 34, 35, 36, 37] (Ze kk) (yp rfl (.fA rfl Xl) (yd rfl rfl mr isAgg49 sizeOf49 Jl ?_))))))); clear h
 refine ym rfl rfl (yp rfl (.indexAddr rfl rfl (Zax _ _ _ _ _ (by exact ixd))) ?_)
 refine Zp rfl kk rfl mm (cells_lt (k := 5) dd (fun _ => rfl) vU0 5 (by exact ixd)) isAgg41 sizeOf41 (Zn (k := 5) (fun _ => rfl) ((fun _ => rfl)) vU0 0 5 (by exact ixd)) (.inl rfl) dd ?_
 refine ym rfl rfl (ym rfl rfl (yp rfl (.indexAddr rfl rfl (Zmu _ _ _ _ _ (by exact ixd))) (yd rfl rfl mm isAgg9 sizeOf9 ((congrArg _ (Nat.zero_add _)).trans (Zv (enc := encs) (l := ([⟨#[49]⟩, ⟨#[45, 49, 47, 50]⟩, ⟨#[45, 49, 47, 50]⟩, ⟨#[45, 49, 47, 50]⟩, ⟨#[49, 47, 50]⟩, ⟨#[48]⟩, ⟨#[45, 49, 47, 50]⟩, ⟨#[48]⟩, ⟨#[49, 47, 50]⟩])) (⟨#[]⟩) (by exact ixd))) ?_)))
 refine yv [_] rfl rfl call38 (C_T3) (yp rfl (Pure1.cast (v' := .bool false) (.binOp rfl rfl (fun _ => Kj _ _ _ _ _)) cgd) (ym rfl rfl (yq rfl rfl rfl (.fA rfl Xl) (yg rfl rfl rfl rfl mr isAgg49 sizeOf49 Jl ?_))))
 refine yq rfl rfl rfl (.move rfl) (yq rfl rfl rfl (.indexAddr rfl rfl (Zax _ _ _ _ _ (by exact ixd))) ?_)
 refine Qo rfl rfl rfl kk rfl mm (cells_lt (k := 5) dd (fun _ => rfl) vU1 5 (by exact ixd)) isAgg41 sizeOf41 (Zn (k := 5) (fun _ => rfl) ((fun _ => rfl)) vU1 0 5 (by exact ixd)) (.inl rfl) dd ?_
 refine yq rfl rfl rfl (.move rfl) (yq rfl rfl rfl (Pure1.cast (v' := .int .i64 1) (.binOp rfl rfl (fun _ => Yf _ _ _ _ _ dd)) cgd) (yq rfl rfl rfl (Pure1.cast (v' := .bool false) (.eql rfl rfl) cgd) ?_))
 refine Xe rfl rfl rfl kk (vs := [_]) rfl call38 (Zvi) dd ?_
 refine yq rfl rfl rfl (Pure1.cast (v' := .bool false) (.binOp rfl rfl (fun _ => Ya _ _ _ _ _)) cgd) (yq rfl rfl rfl (Pure1.cast (v' := .bool false) (.binOp rfl rfl (fun _ => Zba _ underlying4 _ _ _ _)) cgd) (yp rfl (.pickF rfl rfl) (ym rfl rfl (yq rfl rfl rfl (.move rfl) (yq rfl rfl rfl (Pure1.cast (v' := .int .i64 1) (.binOp rfl rfl (fun _ => Yf _ _ _ _ _ dd)) cgd) (yq rfl rfl rfl (Pure1.cast (v' := .bool true) (.neq rfl rfl) cgd) (yq rfl rfl rfl (.move rfl) (yq rfl rfl rfl (.fA rfl Xl) (yg rfl rfl rfl rfl mr isAgg49 sizeOf49 Jl ?_)))))))))
 refine yq rfl rfl rfl (.move rfl) (yq rfl rfl rfl (.indexAddr rfl rfl (Zax _ _ _ _ _ (by exact ixd))) ?_)
 refine Qo rfl rfl rfl kk rfl mm (cells_lt (k := 5) dd (fun _ => rfl) vU1 5 (by exact ixd)) isAgg41 sizeOf41 (Zn (k := 5) (fun _ => rfl) ((fun _ => rfl)) vU1 0 5 (by exact ixd)) (.inl rfl) dd ?_
 refine Xe rfl rfl rfl kk (vs := [_]) rfl call38 (Zvi) dd ?_
 refine yq rfl rfl rfl (Pure1.cast (v' := .bool false) (.binOp rfl rfl (fun _ => Kj _ _ _ _ _)) cgd) (yq rfl rfl rfl (.pickT rfl rfl) (yp rfl (.pickF rfl rfl) (yn ?_))); intro a w h
 refine cW ?_
 refine Zf h rfl ?_
 refine gC h (zk (zr (zm rfl (zp (Pure1.cast (v' := .int .i64 6) (.add rfl rfl) cgd) (za rfl (zn ?_)))))); clear h; intro a w h
 replace h : St 174 S w0 [(0, .bool false), (1, _), (3, _), (5, _), (7, _), (9, _), (10, .int .i64 6), (94, .bool true), (134, .bool false)] _ _ a w := h.sub sA
 refine Zb ?_
 refine gC h (zs (zS (zm rfl (zp (Pure1.cast (v' := .bool true) (.lss rfl rfl) cgd) (zn ?_))))); clear h; intro a w h
 refine cW ?_
 refine Zg h rfl ?_
 refine gC h (zk (zs (zb (zs (yD Za [0, 1, 2, 3, 4, 6, 7, 8, 9, 5, 10, 11, 12, 13, 14, 15, 16, 19, 20, 21, 17, 18, 22, 23, 24, 25, 26, 27, 28, 29, 30, 31, 32, 33, 34, 35, 36, 37] (Ze kk) (yp rfl (.fA rfl Xl) (yd rfl rfl mr isAgg49 sizeOf49 Jl ?_))))))); clear h
 refine ym rfl rfl (yp rfl (.indexAddr rfl rfl (Zax _ _ _ _ _ (by exact ixd))) ?_)
 refine Zp rfl kk rfl mm (cells_lt (k := 5) dd (fun _ => rfl) vU0 6 (by exact ixd)) isAgg41 sizeOf41 (Zn (k := 5) (fun _ => rfl) ((fun _ => rfl)) vU0 0 6 (by exact ixd)) (.inl rfl) dd ?_
 refine ym rfl rfl (ym rfl rfl (yp rfl (.indexAddr rfl rfl (Zmu _ _ _ _ _ (by exact ixd))) (yd rfl rfl mm isAgg9 sizeOf9 ((congrArg _ (Nat.zero_add _)).trans (Zv (enc := encs) (l := ([⟨#[49]⟩, ⟨#[45, 49, 47, 50]⟩, ⟨#[45, 49, 47, 50]⟩, ⟨#[45, 49, 47, 50]⟩, ⟨#[49, 47, 50]⟩, ⟨#[48]⟩, ⟨#[45, 49, 47, 50]⟩, ⟨#[48]⟩, ⟨#[49, 47, 50]⟩])) (⟨#[]⟩) (by exact ixd))) ?_)))
 refine yv [_] rfl rfl call38 (C_T1) (yp rfl (Pure1.cast (v' := .bool false) (.binOp rfl rfl (fun _ => Kj _ _ _ _ _)) cgd) (ym rfl rfl (yq rfl rfl rfl (.fA rfl Xl) (yg rfl rfl rfl rfl mr isAgg49 sizeOf49 Jl ?_))))
 refine yq rfl rfl rfl (.move rfl) (yq rfl rfl rfl (.indexAddr rfl rfl (Zax _ _ _ _ _ (by exact ixd))) ?_)
 refine Qo rfl rfl rfl kk rfl mm (cells_lt (k := 5) dd (fun _ => rfl) vU1 6 (by exact ixd)) isAgg41 sizeOf41 (Zn (k := 5) (fun _ => rfl) ((fun _ => rfl)) vU1 0 6 (by exact ixd)) (.inl rfl) dd ?_
 refine yq rfl rfl rfl (.move rfl) (yq rfl rfl rfl (Pure1.cast (v' := .int .i64 2) (.binOp rfl rfl (fun _ => Yf _ _ _ _ _ dd)) cgd) (yq rfl rfl rfl (Pure1.cast (v' := .bool false) (.eql rfl rfl) cgd) ?_))
 refine Xe rfl rfl rfl kk (vs := [_]) rfl call38 (Zvi) dd ?_
 refine yq rfl rfl rfl (Pure1.cast (v' := .bool false) (.binOp rfl rfl (fun _ => Ya _ _ _ _ _)) cgd) (yq rfl rfl rfl (Pure1.cast (v' := .bool false) (.binOp rfl rfl (fun _ => Zba _ underlying4 _ _ _ _)) cgd) (yp rfl (.pickF rfl rfl) (ym rfl rfl (yq rfl rfl rfl (.move rfl) (yq rfl rfl rfl (Pure1.cast (v' := .int .i64 2) (.binOp rfl rfl (fun _ => Yf _ _ _ _ _ dd)) cgd) (yq rfl rfl rfl (Pure1.cast (v' := .bool true) (.neq rfl rfl) cgd) (yq rfl rfl rfl (.move rfl) (yq rfl rfl rfl (.fA rfl Xl) (yg rfl rfl rfl rfl mr isAgg49 sizeOf49 Jl ?_)))))))))
 refine yq rfl rfl rfl (.move rfl) (yq rfl rfl rfl (.indexAddr rfl rfl (Zax _ _ _ _ _ (by exact ixd))) ?_)
 refine Qo rfl rfl rfl kk rfl mm (cells_lt (k := 5) dd (fun _ => rfl) vU1 6 (by exact ixd)) isAgg41 sizeOf41 (Zn (k := 5) (fun _ => rfl) ((fun _ => rfl)) vU1 0 6 (by exact ixd)) (.inl rfl) dd ?_
 refine Xe rfl rfl rfl kk (vs := [_]) rfl call38 (Zvi) dd ?_
 refine yq rfl rfl rfl (Pure1.cast (v' := .bool false) (.binOp rfl rfl (fun _ => Kj _ _ _ _ _)) cgd) (yq rfl rfl rfl (.pickT rfl rfl) (yp rfl (.pickF rfl rfl) (yn ?_))); intro a w h
 refine cW ?_
 refine Zf h rfl ?_
 refine gC h (zk (zr (zm rfl (zp (Pure1.cast (v' := .int .i64 7) (.add rfl rfl) cgd) (za rfl (zn ?_)))))); clear h; intro a w h
 replace h : St 174 S w0 [(0, .bool false), (1, _), (3, _), (5, _), (7, _), (9, _), (10, .int .i64 7), (94, .bool true), (134, .bool false)] _ _ a w := h.sub sA
 refine Zb ?_
 refine gC h (zs (zS (zm rfl (zp (Pure1.cast (v' := .bool true) (.lss rfl rfl) cgd) (zn ?_))))); clear h; intro a w h
 refine cW ?_
 refine Zg h rfl ?_
 refine gC h (zk (zs (zb (zs (yD Za [0, 1, 2, 3, 4, 6, 7, 8, 9, 5, 10, 11, 12, 13, 14, 15, 16, 19, 20, 21, 17, 18, 22, 23, 24, 25, 26, 27, 28, 29, 30, 31, 32, 33, 34, 35, 36, 37] (Ze kk) (yp rfl (.fA rfl Xl) (yd rfl rfl mr isAgg49 sizeOf49 Jl ?_))))))); clear h
 refine ym rfl rfl (yp rfl (.indexAddr rfl rfl (Zax _ _ _ _ _ (by exact ixd))) ?_)
 refine Zp rfl kk rfl mm (cells_lt (k := 5) dd (fun _ => rfl) vU0 7 (by exact ixd)) isAgg41 sizeOf41 (Zn (k := 5) (fun _ => rfl) ((fun _ => rfl)) vU0 0 7 (by exact ixd)) (.inl rfl) dd ?_
 refine ym rfl rfl (ym rfl rfl (yp rfl (.indexAddr rfl rfl (Zmu _ _ _ _ _ (by exact ixd))) (yd rfl rfl mm isAgg9 sizeOf9 ((congrArg _ (Nat.zero_add _)).trans (Zv (enc := encs) (l := ([⟨#[49]⟩, ⟨#[45, 49, 47, 50]⟩, ⟨#[45, 49, 47, 50]⟩, ⟨#[45, 49, 47, 50]⟩, ⟨#[49, 47, 50]⟩, ⟨#[48]⟩, ⟨#[45, 49, 47, 50]⟩, ⟨#[48]⟩, ⟨#[49, 47, 50]⟩])) (⟨#[]⟩) (by exact ixd))) ?_)))
 refine yv [_] rfl rfl call38 (C_T3) (yp rfl (Pure1.cast (v' := .bool false) (.binOp rfl rfl (fun _ => Kj _ _ _ _ _)) cgd) (ym rfl rfl (yq rfl rfl rfl (.fA rfl Xl) (yg rfl rfl rfl rfl mr isAgg49 sizeOf49 Jl ?_))))
 refine yq rfl rfl rfl (.move rfl) (yq rfl rfl rfl (.indexAddr rfl rfl (Zax _ _ _ _ _ (by exact ixd))) ?_)
 refine Qo rfl rfl rfl kk rfl mm (cells_lt (k := 5) dd (fun _ => rfl) vU1 7 (by exact ixd)) isAgg41 sizeOf41 (Zn (k := 5) (fun _ => rfl) ((fun _ => rfl)) vU1 0 7 (by exact ixd)) (.inl rfl) dd ?_
 refine yq rfl rfl rfl (.move rfl) (yq rfl rfl rfl (Pure1.cast (v' := .int .i64 3) (.binOp rfl rfl (fun _ => Yf _ _ _ _ _ dd)) cgd) (yq rfl rfl rfl (Pure1.cast (v' := .bool false) (.eql rfl rfl) cgd) ?_))
 refine Xe rfl rfl rfl kk (vs := [_]) rfl call38 (Zvi) dd ?_
 refine yq rfl rfl rfl (Pure1.cast (v' := .bool false) (.binOp rfl rfl (fun _ => Ya _ _ _ _ _)) cgd) (yq rfl rfl rfl (Pure1.cast (v' := .bool false) (.binOp rfl rfl (fun _ => Zba _ underlying4 _ _ _ _)) cgd) (yp rfl (.pickF rfl rfl) (ym rfl rfl (yq rfl rfl rfl (.move rfl) (yq rfl rfl rfl (Pure1.cast (v' := .int .i64 3) (.binOp rfl rfl (fun _ => Yf _ _ _ _ _ dd)) cgd) (yq rfl rfl rfl (Pure1.cast (v' := .bool true) (.neq rfl rfl) cgd) (yq rfl rfl rfl (.move rfl) (yq rfl rfl rfl (.fA rfl Xl) (yg rfl rfl rfl rfl mr isAgg49 sizeOf49 Jl ?_)))))))))
 refine yq rfl rfl rfl (.move rfl) (yq rfl rfl rfl (.indexAddr rfl rfl (Zax _ _ _ _ _ (by exact ixd))) ?_)
 refine Qo rfl rfl rfl kk rfl mm (cells_lt (k := 5) dd (fun _ => rfl) vU1 7 (by exact ixd)) isAgg41 sizeOf41 (Zn (k := 5) (fun _ => rfl) ((fun _ => rfl)) vU1 0 7 (by exact ixd)) (.inl rfl) dd ?_
 refine Xe rfl rfl rfl kk (vs := [_]) rfl call38 (Zvi) dd ?_
 refine yq rfl rfl rfl (Pure1.cast (v' := .bool false) (.binOp rfl rfl (fun _ => Kj _ _ _ _ _)) cgd) (yq rfl rfl rfl (.pickT rfl rfl) (yp rfl (.pickF rfl rfl) (yn ?_))); intro a w h
 refine cW ?_
 refine Zf h rfl ?_
 refine gC h (zk (zr (zm rfl (zp (Pure1.cast (v' := .int .i64 8) (.add rfl rfl) cgd) (za rfl (zn ?_)))))); clear h; intro a w h
 replace h : St 174 S w0 [(0, .bool false), (1, _), (3, _), (5, _), (7, _), (9, _), (10, .int .i64 8), (94, .bool true), (134, .bool false)] _ _ a w := h.sub sA
 refine Zb ?_
 refine gC h (zs (zS (zm rfl (zp (Pure1.cast (v' := .bool true) (.lss rfl rfl) cgd) (zn ?_))))); clear h; intro a w h
 refine cW ?_
 refine Zg h rfl ?_
 refine gC h (zk (zs (zb (zs (yD Za [0, 1, 2, 3, 4, 6, 7, 8, 9, 5, 10, 11, 12, 13, 14, 15, 16, 19, 20, 21, 17, 18, 22, 23, 24, 25, 26, 27, 28, 29, 30, 31, 32, 33, 34, 35, 36, 37] (Ze kk) (yp rfl (.fA rfl Xl) (yd rfl rfl mr isAgg49 sizeOf49 Jl ?_))))))); clear h
 refine ym rfl rfl (yp rfl (.indexAddr rfl rfl (Zax _ _ _ _ _ (by exact ixd))) ?_)
 refine Zp rfl kk rfl mm (cells_lt (k := 5) dd (fun _ => rfl) vU0 8 (by exact ixd)) isAgg41 sizeOf41 (Zn (k := 5) (fun _ => rfl) ((fun _ => rfl)) vU0 0 8 (by exact ixd)) (.inl rfl) dd ?_
 refine ym rfl rfl (ym rfl rfl (yp rfl (.indexAddr rfl rfl (Zmu _ _ _ _ _ (by exact ixd))) (yd rfl rfl mm isAgg9 sizeOf9 ((congrArg _ (Nat.zero_add _)).trans (Zv (enc := encs) (l := ([⟨#[49]⟩, ⟨#[45, 49, 47, 50]⟩, ⟨#[45, 49, 47, 50]⟩, ⟨#[45, 49, 47, 50]⟩, ⟨#[49, 47, 50]⟩, ⟨#[48]⟩, ⟨#[45, 49, 47, 50]⟩, ⟨#[48]⟩, ⟨#[49, 47, 50]⟩])) (⟨#[]⟩) (by exact ixd))) ?_)))
 refine yv [_] rfl rfl call38 (C_T2) (yp rfl (Pure1.cast (v' := .bool false) (.binOp rfl rfl (fun _ => Kj _ _ _ _ _)) cgd) (ym rfl rfl (yq rfl rfl rfl (.fA rfl Xl) (yg rfl rfl rfl rfl mr isAgg49 sizeOf49 Jl ?_))))
 refine yq rfl rfl rfl (.move rfl) (yq rfl rfl rfl (.indexAddr rfl rfl (Zax _ _ _ _ _ (by exact ixd))) ?_)
 refine Qo rfl rfl rfl kk rfl mm (cells_lt (k := 5) dd (fun _ => rfl) vU1 8 (by exact ixd)) isAgg41 sizeOf41 (Zn (k := 5) (fun _ => rfl) ((fun _ => rfl)) vU1 0 8 (by exact ixd)) (.inl rfl) dd ?_
 refine yq rfl rfl rfl (.move rfl) (yq rfl rfl rfl (Pure1.cast (v' := .int .i64 0) (.binOp rfl rfl (fun _ => Yf _ _ _ _ _ dd)) cgd) (yq rfl rfl rfl (Pure1.cast (v' := .bool true) (.eql rfl rfl) cgd) ?_))
 refine Xe rfl rfl rfl kk (vs := [_]) rfl call38 (C_T4) dd ?_
 refine yq rfl rfl rfl (Pure1.cast (v' := .bool true) (.binOp rfl rfl (fun _ => Ya _ _ _ _ _)) cgd) (yq rfl rfl rfl (Pure1.cast (v' := .bool false) (.binOp rfl rfl (fun _ => Zba _ underlying4 _ _ _ _)) cgd) (yp rfl (.pickF rfl rfl) (ym rfl rfl (yq rfl rfl rfl (.move rfl) (yq rfl rfl rfl (Pure1.cast (v' := .int .i64 0) (.binOp rfl rfl (fun _ => Yf _ _ _ _ _ dd)) cgd) (yq rfl rfl rfl (Pure1.cast (v' := .bool false) (.neq rfl rfl) cgd) (yq rfl rfl rfl (.move rfl) (yo 125 rfl rfl rfl rfl (yo 125 rfl rfl rfl rfl (yo 125 rfl rfl rfl rfl (yo 125 rfl rfl rfl rfl (yo 125 rfl rfl rfl rfl (yo 125 rfl rfl rfl rfl (yo 125 rfl rfl rfl rfl (yq rfl rfl rfl (.pickF rfl rfl) (yp rfl (.pickF rfl rfl) (yn ?_))))))))))))))))); intro a w h
 refine cW ?_
 refine Zf h rfl ?_
 refine gC h (zk (zr (zm rfl (zp (Pure1.cast (v' := .int .i64 9) (.add rfl rfl) cgd) (za rfl (zn ?_)))))); clear h; intro a w h
 replace h : St 174 S w0 [(0, .bool false), (1, _), (3, _), (5, _), (7, _), (9, _), (10, .int .i64 9), (94, .bool true), (134, .bool false)] _ _ a w := h.sub sA
 refine Zb ?_
 refine gC h (zs (zS (zm rfl (zp (Pure1.cast (v' := .bool false) (.lss rfl rfl) cgd) (zn ?_))))); clear h; intro a w h
 refine cW ?_
 refine Zf h rfl ?_
 refine gC h (ze (zs (yD Za [0, 1, 2, 3, 4, 5, 6, 7, 8, 9, 10, 11, 12, 13, 14, 15, 16, 17, 18, 19, 20, 21, 22, 23, 24, 25, 26, 27, 28, 29, 30, 31, 32, 33, 34, 35, 36, 37, 38, 39] (Ze kk) (ym rfl rfl (yp rfl (.indexAddr rfl rfl (Zc5 _ _ _ _ 0 (by exact ixd))) ?_))))); clear h
 refine Zp rfl kk rfl mm (cells_lt (k := 5) dd (fun _ => rfl) vU2 0 (by exact ixd)) isAgg41 sizeOf41 (Zn (k := 5) (fun _ => rfl) ((fun _ => rfl)) vU2 0 0 (by exact ixd)) (.inl rfl) dd ?_
 refine yv [_] rfl rfl call38 (C_T6) (yp rfl (Pure1.cast (v' := .bool true) (.binOp rfl rfl (fun _ => Ya _ _ _ _ _)) cgd) (ym rfl rfl (yq rfl rfl rfl (.move rfl) (yq rfl rfl rfl (.indexAddr rfl rfl (Zc5 _ _ _ _ 1 (by exact ixd))) ?_))))
 refine Qo rfl rfl rfl kk rfl mm (cells_lt (k := 5) dd (fun _ => rfl) vU2 1 (by exact ixd)) isAgg41 sizeOf41 (Zn (k := 5) (fun _ => rfl) ((fun _ => rfl)) vU2 0 1 (by exact ixd)) (.inl rfl) dd ?_
 refine yq rfl rfl rfl (.move rfl) (yq rfl rfl rfl (.indexAddr rfl rfl (Zc5 _ _ _ _ 0 (by exact ixd))) ?_)
 refine Qo rfl rfl rfl kk rfl mm (cells_lt (k := 5) dd (fun _ => rfl) vU2 0 (by exact ixd)) isAgg41 sizeOf41 (Zn (k := 5) (fun _ => rfl) ((fun _ => rfl)) vU2 0 0 (by exact ixd)) (.inl rfl) dd ?_
 refine yq rfl rfl rfl (Pure1.cast (v' := .bool true) (.binOp rfl rfl (fun _ => Zl4 _ _ r6 r6 _)) ss) (yp rfl (.pickT rfl rfl) (ym rfl rfl (yq rfl rfl rfl (.move rfl) (yq rfl rfl rfl (.indexAddr rfl rfl (Zc5 _ _ _ _ 2 (by exact ixd))) ?_))))
 refine Qo rfl rfl rfl kk rfl mm (cells_lt (k := 5) dd (fun _ => rfl) vU2 2 (by exact ixd)) isAgg41 sizeOf41 (Zn (k := 5) (fun _ => rfl) ((fun _ => rfl)) vU2 0 2 (by exact ixd)) (.inl rfl) dd ?_
 refine yq rfl rfl rfl (.move rfl) (yq rfl rfl rfl (.indexAddr rfl rfl (Zc5 _ _ _ _ 0 (by exact ixd))) ?_)
 refine Qo rfl rfl rfl kk rfl mm (cells_lt (k := 5) dd (fun _ => rfl) vU2 0 (by exact ixd)) isAgg41 sizeOf41 (Zn (k := 5) (fun _ => rfl) ((fun _ => rfl)) vU2 0 0 (by exact ixd)) (.inl rfl) dd ?_
 refine yq rfl rfl rfl (Pure1.cast (v' := .bool true) (.binOp rfl rfl (fun _ => Zl4 _ _ r6 r6 _)) ss) (yp rfl (.pickT rfl rfl) (ym rfl rfl (yq rfl rfl rfl (.move rfl) (yq rfl rfl rfl (.indexAddr rfl rfl (Zc5 _ _ _ _ 0 (by exact ixd))) ?_))))
 refine Qo rfl rfl rfl kk rfl mm (cells_lt (k := 5) dd (fun _ => rfl) vU3 0 (by exact ixd)) isAgg41 sizeOf41 (Zn (k := 5) (fun _ => rfl) ((fun _ => rfl)) vU3 0 0 (by exact ixd)) (.inl rfl) dd ?_
 refine Xe rfl rfl rfl kk (vs := [_]) rfl call38 (C_T2) dd ?_
 refine yq rfl rfl rfl (Pure1.cast (v' := .bool true) (.binOp rfl rfl (fun _ => Ya _ _ _ _ _)) cgd) (yp rfl (.pickT rfl rfl) (ym rfl rfl (yq rfl rfl rfl (.move rfl) (yq rfl rfl rfl (.indexAddr rfl rfl (Zc5 _ _ _ _ 1 (by exact ixd))) ?_))))
 refine Qo rfl rfl rfl kk rfl mm (cells_lt (k := 5) dd (fun _ => rfl) vU3 1 (by exact ixd)) isAgg41 sizeOf41 (Zn (k := 5) (fun _ => rfl) ((fun _ => rfl)) vU3 0 1 (by exact ixd)) (.inl rfl) dd ?_
 refine yq rfl rfl rfl (.move rfl) (yq rfl rfl rfl (.indexAddr rfl rfl (Zc5 _ _ _ _ 0 (by exact ixd))) ?_)
 refine Qo rfl rfl rfl kk rfl mm (cells_lt (k := 5) dd (fun _ => rfl) vU3 0 (by exact ixd)) isAgg41 sizeOf41 (Zn (k := 5) (fun _ => rfl) ((fun _ => rfl)) vU3 0 0 (by exact ixd)) (.inl rfl) dd ?_
 refine yq rfl rfl rfl (Pure1.cast (v' := .bool true) (.binOp rfl rfl (fun _ => Zl4 _ _ r2 r2 _)) ss) (yp rfl (.pickT rfl rfl) (yp rfl (.assign rfl) (yn (zt ?_)))); intro a w h
 exact Zed h
end
section
theorem Ztu {P Q : List Tm} (h : ∀ x y, evP P x y = evP Q x y) (a b c : Pt) : Zbi P a b c = Zbi Q a b c := by
 unfold Zbi
 rw [(Eqv.of_ev (l := shL P (b.1 - a.1) (c.1 - a.1) a.1 (b.2 - a.2) (c.2 - a.2) a.2) (m := shL Q (b.1 - a.1) (c.1 - a.1) a.1 (b.2 - a.2) (c.2 - a.2) a.2) (fun x y => by rw [Zsz, Zsz, h])) mu]
theorem Zfc (p q : List Tm) (a b c : Pt) : Yk (norm p) (norm q) a b c = Yk p q a b c :=
 Ztu (fun x y => by rw [Zao, Kq, Zao, Zao, Zao, Kq]) a b c
theorem Zir (φ : Nat → Nat → Rat) (v : List Rat) (N : Nat) : Vg (fun i => v.getD i 0 * Zf1 (Zd0 φ N N) v N i) N = Zfv φ v N :=
 Jg fun i hi => by
  have : Zf1 (Zd0 φ N N) v N i = Vg (fun k => φ i k * v.getD k 0) N := Jg fun k hk => by rw [Zsd φ hi hk]
  rw [this]
theorem Zgj {φ : Nat → Nat → Rat} {r : Nat} (h : ∀ i, i < r → ∀ k, k < r → φ i k = φ k i) : Zd0 φ r r = Zd0 (fun i k => (Zd0 φ r r).getD (k * r + i) 0) r r :=
 Zuo fun i hi k hk => by rw [Zsd φ hk hi]; exact h i hi k hk
theorem Qa2 {x0 x1 x2 x3 x4 x5 x6 x7 x8 : Rat} {K : Nat} (h0 : Zw x0 ≤ K) (h1 : Zw x1 ≤ K) (h2 : Zw x2 ≤ K) (h3 : Zw x3 ≤ K) (h4 : Zw x4 ≤ K) (h5 : Zw x5 ≤ K) (h6 : Zw x6 ≤ K) (h7 : Zw x7 ≤ K) (h8 : Zw x8 ≤ K) :
  Zw (x0 + x1 + x2 + x3 + x4 + x5 + x6 + x7 + x8) ≤ 9 * K + 8 := by
 have a1 := Qw x0 x1
 have a2 := Qw (x0 + x1) x2
 have a3 := Qw (x0 + x1 + x2) x3
 have a4 := Qw (x0 + x1 + x2 + x3) x4
 have a5 := Qw (x0 + x1 + x2 + x3 + x4) x5
 have a6 := Qw (x0 + x1 + x2 + x3 + x4 + x5) x6
 have a7 := Qw (x0 + x1 + x2 + x3 + x4 + x5 + x6) x7
 have a8 := Qw (x0 + x1 + x2 + x3 + x4 + x5 + x6 + x7) x8
 omega
theorem Zsk {o : Nat} (ho : o = 1 ∨ o = 2) {k : Rat × Rat × Rat} (h1 : Zw k.1 ≤ 4) (h2 : Zw k.2.1 ≤ 4) (h3 : Zw k.2.2 ≤ 4) {a b c : Pt} {K : Nat} (ha : PtK K a) (hb : PtK K b) (hc : PtK K c) (hK : K ≤ 13) {n m : Nat} (hn : n < Qk o) (hm : m < Qk o) :
  Zw (stE o (byL k (Qb a b c) (Zd a b c)) n m) ≤ 10000 := by
 rw [Zrr]
 obtain ⟨g0, g1, g2⟩ := Za4 ha hb hc
 have hA := Zca a b c
 obtain ⟨ha1, ha2⟩ := ha
 obtain ⟨hb1, hb2⟩ := hb
 obtain ⟨hc1, hc2⟩ := hc
 have hA' : Zw (Qb a b c) ≤ 113 := oo
 have ht : ∀ i, i < 3 → ∀ k, k < 3 → Zw (Zm o n m i k) ≤ 4 := fun i hi k hk => Zfg (Zkv o ho n hn m hm i hi k hk)
 have hp : ∀ {t : Rat} {g h : Pt}, Zw t ≤ 4 → PtK (10 * K + 6) g → PtK (10 * K + 6) h → Zw (t * byP k (Qb a b c) g h) ≤ 1000 := fun {t g h} q1 q2 q3 => by
  have e1 := Zo t (byP k (Qb a b c) g h)
  have e2 := Zso k (Qb a b c) g h h1 h2 h3 hA' q2 q3
  omega
 exact Nat.le_trans (Qa2 (K := 1000) (hp (ht 0 dd 0 dd) g0 g0) (hp (ht 0 dd 1 dd) g0 g1) (hp (ht 0 dd 2 dd) g0 g2) (hp (ht 1 dd 0 dd) g1 g0) (hp (ht 1 dd 1 dd) g1 g1) (hp (ht 1 dd 2 dd) g1 g2) (hp (ht 2 dd 0 dd) g2 g0) (hp (ht 2 dd 1 dd) g2 g1) (hp (ht 2 dd 2 dd) g2 g2)) dd
theorem Zsm {o : Nat} (ho : o = 1 ∨ o = 2) {a b c : Pt} {K : Nat} (ha : PtK K a) (hb : PtK K b) (hc : PtK K c) (hK : K ≤ 13) {n m : Nat} (hn : n < Qk o) (hm : m < Qk o) : Zw (Zcu o n m * Qb a b c) ≤ 10000 := by
 have h1 := Zo (Zcu o n m) (Qb a b c)
 have h2 := Zfg (Zlc o ho n hn m hm)
 have hA := Zca a b c
 obtain ⟨ha1, ha2⟩ := ha
 obtain ⟨hb1, hb2⟩ := hb
 obtain ⟨hc1, hc2⟩ := hc
 omega
theorem Zzo (K : Nat) (k : Rat × Rat × Rat) (pa pb pc : Pt) (ha : PtK K pa) (hb : PtK K pb) (hc : PtK K pc) (hK : K ≤ 1000) (h1 : Zw k.1 ≤ 4) (h2 : Zw k.2.1 ≤ 4) (h3 : Zw k.2.2 ≤ 4) (hT : 0 < (twP pa pb pc).num.sign) : Ctr Tryz.prog 10 [.int .i64 1, Zcr k, Qr pa pb pc] [SideF] (fun v Ψ => ∃ ad', v = .tuple #[.agg #[.int .i64 3, .int .i64 3, .slice ad' 9 9], .int .i64 0] ∧ Ψ = [Row ad' (cellsOf Zz (Zd0 (fun n m => stE 1 (byL k (Qb pa pb pc) (Zd pa pb pc)) n m) 3 3))]) :=
 Zrd 1 K 4 k (Or.inl rfl) pa pb pc ha hb hc hK dd h1 h2 h3 hT
theorem Qcn (K : Nat) (pa pb pc : Pt) (ha : PtK K pa) (hb : PtK K pb) (hc : PtK K pc) (hK : K ≤ 1000) (hT : 0 < (twP pa pb pc).num.sign) : Ctr Tryz.prog 12 [.int .i64 1, Qr pa pb pc] [SideF] (fun v Ψ => ∃ ad', v = .tuple #[.agg #[.int .i64 3, .int .i64 3, .slice ad' 9 9], .int .i64 0] ∧ Ψ = [Row ad' (cellsOf Zz (Zd0 (fun n m => Zcu 1 n m * Qb pa pb pc) 3 3))]) :=
 Zzr 1 K (Or.inl rfl) pa pb pc ha hb hc hK hT
theorem Zzm (A : List Rat) (ad : Option Addr) (hA : A.length = 9) (hs : A = Zd0 (fun i k => A.getD (k * 3 + i) 0) 3 3) : Zaq Tryz.prog 13 [.agg #[.int .i64 3, .int .i64 3, .slice ad 9 9]] [Row ad (cellsOf Zz A)] (.bool true) := by
 have := Zkj 3 A ad 9 dd dd hA
 rwa [decide_eq_true hs] at this
theorem Ztm (A V : List Rat) (ad ad1 : Option Addr) (c1 : Nat) (hA : A.length = 9) (hV : V.length = 3) (hKA : ∀ x ∈ A, Zw x ≤ 10000) (hKV : ∀ x ∈ V, Zw x ≤ 10000) : Zaq Tryz.prog 22 [.agg #[.int .i64 3, .int .i64 3, .slice ad 9 9], .slice ad1 3 c1, .slice ad1 3 c1] [Row ad (cellsOf Zz A), Row ad1 (cellsOf Zz V), Row ad1 (cellsOf Zz V)] (.tuple #[Zz (Vg (fun i => V.getD i 0 * Zf1 A V 3 i) 3), .int .i64 0]) :=
 Qdk 3 3 A V V ad ad1 ad1 9 c1 c1 dd dd dd dd hA hV hV rfl 10000 hKA hKV dd hKV
theorem Zs7 (pa pb pc : Pt) (q0 q1 q2 : Rat) : Zb6 [q0, q1, q2] (Ze2 1 pa pb pc) (Qk 1) = norm (norm (norm (([] : List Tm) ++ norm (Zi q0 ((Xh (Jx pa pb pc) (Jw pa pb pc) (Jv pa pb pc) (Qc 1 0))))) ++ norm (Zi q1 ((Xh (Jx pa pb pc) (Jw pa pb pc) (Jv pa pb pc) (Qc 1 1))))) ++ norm (Zi q2 ((Xh (Jx pa pb pc) (Jw pa pb pc) (Jv pa pb pc) (Qc 1 2))))) := by
 show Zb6 [q0, q1, q2] (Ze2 1 pa pb pc) 3 = _
 simp only [Zb6, Kz 1 pa pb pc (show 0 < Qk 1 by decide), Kz 1 pa pb pc (show 1 < Qk 1 by decide), Kz 1 pa pb pc (show 2 < Qk 1 by decide), List.getD_cons_zero, List.getD_cons_succ]
theorem Qav {pa pb pc : Pt} (hT : 0 < (twP pa pb pc).num.sign) (q0 q1 q2 : Rat) : Vg (fun i => [q0, q1, q2].getD i 0 * Zf1 (Zd0 (fun n m => Zcu 1 n m * Qb pa pb pc) 3 3) [q0, q1, q2] 3 i) 3 = Yk (norm (norm (norm (([] : List Tm) ++ norm (Zi q0 ((Xh (Jx pa pb pc) (Jw pa pb pc) (Jv pa pb pc) (Qc 1 0))))) ++ norm (Zi q1 ((Xh (Jx pa pb pc) (Jw pa pb pc) (Jv pa pb pc) (Qc 1 1))))) ++ norm (Zi q2 ((Xh (Jx pa pb pc) (Jw pa pb pc) (Jv pa pb pc) (Qc 1 2)))))) (norm (norm (norm (([] : List Tm) ++ norm (Zi q0 ((Xh (Jx pa pb pc) (Jw pa pb pc) (Jv pa pb pc) (Qc 1 0))))) ++ norm (Zi q1 ((Xh (Jx pa pb pc) (Jw pa pb pc) (Jv pa pb pc) (Qc 1 1))))) ++ norm (Zi q2 ((Xh (Jx pa pb pc) (Jw pa pb pc) (Jv pa pb pc) (Qc 1 2)))))) pa pb pc := by
 rw [Zir, ← Zs7 pa pb pc]
 exact Zj2 (Or.inl rfl) (Zkn hT) [q0, q1, q2]
theorem Zv2 (k : Rat × Rat × Rat) {pa pb pc : Pt} (hT : 0 < (twP pa pb pc).num.sign) (q0 q1 q2 : Rat) : Vg (fun i => [q0, q1, q2].getD i 0 * Zf1 (Zd0 (fun n m => stE 1 (byL k (Qb pa pb pc) (Zd pa pb pc)) n m) 3 3) [q0, q1, q2] 3 i) 3 =
  [k.1 * Yk (norm (dxL (norm (norm (norm (([] : List Tm) ++ norm (Zi q0 ((Xh (Jx pa pb pc) (Jw pa pb pc) (Jv pa pb pc) (Qc 1 0))))) ++ norm (Zi q1 ((Xh (Jx pa pb pc) (Jw pa pb pc) (Jv pa pb pc) (Qc 1 1))))) ++ norm (Zi q2 ((Xh (Jx pa pb pc) (Jw pa pb pc) (Jv pa pb pc) (Qc 1 2)))))))) (norm (dxL (norm (norm (norm (([] : List Tm) ++ norm (Zi q0 ((Xh (Jx pa pb pc) (Jw pa pb pc) (Jv pa pb pc) (Qc 1 0))))) ++ norm (Zi q1 ((Xh (Jx pa pb pc) (Jw pa pb pc) (Jv pa pb pc) (Qc 1 1))))) ++ norm (Zi q2 ((Xh (Jx pa pb pc) (Jw pa pb pc) (Jv pa pb pc) (Qc 1 2)))))))) pa pb pc, ((2 : Int) : Rat) * k.2.1 * Yk (norm (dxL (norm (norm (norm (([] : List Tm) ++ norm (Zi q0 ((Xh (Jx pa pb pc) (Jw pa pb pc) (Jv pa pb pc) (Qc 1 0))))) ++ norm (Zi q1 ((Xh (Jx pa pb pc) (Jw pa pb pc) (Jv pa pb pc) (Qc 1 1))))) ++ norm (Zi q2 ((Xh (Jx pa pb pc) (Jw pa pb pc) (Jv pa pb pc) (Qc 1 2)))))))) (norm (dyL (norm (norm (norm (([] : List Tm) ++ norm (Zi q0 ((Xh (Jx pa pb pc) (Jw pa pb pc) (Jv pa pb pc) (Qc 1 0))))) ++ norm (Zi q1 ((Xh (Jx pa pb pc) (Jw pa pb pc) (Jv pa pb pc) (Qc 1 1))))) ++ norm (Zi q2 ((Xh (Jx pa pb pc) (Jw pa pb pc) (Jv pa pb pc) (Qc 1 2)))))))) pa pb pc, k.2.2 * Yk (norm (dyL (norm (norm (norm (([] : List Tm) ++ norm (Zi q0 ((Xh (Jx pa pb pc) (Jw pa pb pc) (Jv pa pb pc) (Qc 1 0))))) ++ norm (Zi q1 ((Xh (Jx pa pb pc) (Jw pa pb pc) (Jv pa pb pc) (Qc 1 1))))) ++ norm (Zi q2 ((Xh (Jx pa pb pc) (Jw pa pb pc) (Jv pa pb pc) (Qc 1 2)))))))) (norm (dyL (norm (norm (norm (([] : List Tm) ++ norm (Zi q0 ((Xh (Jx pa pb pc) (Jw pa pb pc) (Jv pa pb pc) (Qc 1 0))))) ++ norm (Zi q1 ((Xh (Jx pa pb pc) (Jw pa pb pc) (Jv pa pb pc) (Qc 1 1))))) ++ norm (Zi q2 ((Xh (Jx pa pb pc) (Jw pa pb pc) (Jv pa pb pc) (Qc 1 2)))))))) pa pb pc].foldl (· + ·) 0 := by
 have h := Zh3 (Or.inl rfl) k (Zkn hT) [q0, q1, q2]
 rw [Zir, ← Zs7 pa pb pc, Zfc, Zfc, Zfc]
 refine h.trans ?_
 simp only [List.foldl_cons, List.foldl_nil, show ((2 : Int) : Rat) = 2 from rfl]
 rw [Rat.zero_add]
theorem Zzn (K : Nat) (k : Rat × Rat × Rat) (pa pb pc : Pt) (ha : PtK K pa) (hb : PtK K pb) (hc : PtK K pc) (hK : K ≤ 1000) (h1 : Zw k.1 ≤ 4) (h2 : Zw k.2.1 ≤ 4) (h3 : Zw k.2.2 ≤ 4) (hT : 0 < (twP pa pb pc).num.sign) : Ctr Tryz.prog 10 [.int .i64 2, Zcr k, Qr pa pb pc] [SideF] (fun v Ψ => ∃ ad', v = .tuple #[.agg #[.int .i64 6, .int .i64 6, .slice ad' 36 36], .int .i64 0] ∧ Ψ = [Row ad' (cellsOf Zz (Zd0 (fun n m => stE 2 (byL k (Qb pa pb pc) (Zd pa pb pc)) n m) 6 6))]) :=
 Zrd 2 K 4 k (Or.inr rfl) pa pb pc ha hb hc hK dd h1 h2 h3 hT
theorem Qcm (K : Nat) (pa pb pc : Pt) (ha : PtK K pa) (hb : PtK K pb) (hc : PtK K pc) (hK : K ≤ 1000) (hT : 0 < (twP pa pb pc).num.sign) : Ctr Tryz.prog 12 [.int .i64 2, Qr pa pb pc] [SideF] (fun v Ψ => ∃ ad', v = .tuple #[.agg #[.int .i64 6, .int .i64 6, .slice ad' 36 36], .int .i64 0] ∧ Ψ = [Row ad' (cellsOf Zz (Zd0 (fun n m => Zcu 2 n m * Qb pa pb pc) 6 6))]) :=
 Zzr 2 K (Or.inr rfl) pa pb pc ha hb hc hK hT
theorem Zzl (A : List Rat) (ad : Option Addr) (hA : A.length = 36) (hs : A = Zd0 (fun i k => A.getD (k * 6 + i) 0) 6 6) : Zaq Tryz.prog 13 [.agg #[.int .i64 6, .int .i64 6, .slice ad 36 36]] [Row ad (cellsOf Zz A)] (.bool true) := by
 have := Zkj 6 A ad 36 dd dd hA
 rwa [decide_eq_true hs] at this
theorem Ztl (A V : List Rat) (ad ad1 : Option Addr) (c1 : Nat) (hA : A.length = 36) (hV : V.length = 6) (hKA : ∀ x ∈ A, Zw x ≤ 10000) (hKV : ∀ x ∈ V, Zw x ≤ 10000) : Zaq Tryz.prog 22 [.agg #[.int .i64 6, .int .i64 6, .slice ad 36 36], .slice ad1 6 c1, .slice ad1 6 c1] [Row ad (cellsOf Zz A), Row ad1 (cellsOf Zz V), Row ad1 (cellsOf Zz V)] (.tuple #[Zz (Vg (fun i => V.getD i 0 * Zf1 A V 6 i) 6), .int .i64 0]) :=
 Qdk 6 6 A V V ad ad1 ad1 36 c1 c1 dd dd dd dd hA hV hV rfl 10000 hKA hKV dd hKV
theorem Zs6 (pa pb pc : Pt) (q0 q1 q2 q3 q4 q5 : Rat) : Zb6 [q0, q1, q2, q3, q4, q5] (Ze2 2 pa pb pc) (Qk 2) = norm (norm (norm (norm (norm (norm (([] : List Tm) ++ norm (Zi q0 ((Xh (Jx pa pb pc) (Jw pa pb pc) (Jv pa pb pc) (Qc 2 0))))) ++ norm (Zi q1 ((Xh (Jx pa pb pc) (Jw pa pb pc) (Jv pa pb pc) (Qc 2 1))))) ++ norm (Zi q2 ((Xh (Jx pa pb pc) (Jw pa pb pc) (Jv pa pb pc) (Qc 2 2))))) ++ norm (Zi q3 ((Xh (Jx pa pb pc) (Jw pa pb pc) (Jv pa pb pc) (Qc 2 3))))) ++ norm (Zi q4 ((Xh (Jx pa pb pc) (Jw pa pb pc) (Jv pa pb pc) (Qc 2 4))))) ++ norm (Zi q5 ((Xh (Jx pa pb pc) (Jw pa pb pc) (Jv pa pb pc) (Qc 2 5))))) := by
 show Zb6 [q0, q1, q2, q3, q4, q5] (Ze2 2 pa pb pc) 6 = _
 simp only [Zb6, Kz 2 pa pb pc (show 0 < Qk 2 by decide), Kz 2 pa pb pc (show 1 < Qk 2 by decide), Kz 2 pa pb pc (show 2 < Qk 2 by decide), Kz 2 pa pb pc (show 3 < Qk 2 by decide), Kz 2 pa pb pc (show 4 < Qk 2 by decide), Kz 2 pa pb pc (show 5 < Qk 2 by decide), List.getD_cons_zero, List.getD_cons_succ]
theorem Qau {pa pb pc : Pt} (hT : 0 < (twP pa pb pc).num.sign) (q0 q1 q2 q3 q4 q5 : Rat) : Vg (fun i => [q0, q1, q2, q3, q4, q5].getD i 0 * Zf1 (Zd0 (fun n m => Zcu 2 n m * Qb pa pb pc) 6 6) [q0, q1, q2, q3, q4, q5] 6 i) 6 = Yk (norm (norm (norm (norm (norm (norm (([] : List Tm) ++ norm (Zi q0 ((Xh (Jx pa pb pc) (Jw pa pb pc) (Jv pa pb pc) (Qc 2 0))))) ++ norm (Zi q1 ((Xh (Jx pa pb pc) (Jw pa pb pc) (Jv pa pb pc) (Qc 2 1))))) ++ norm (Zi q2 ((Xh (Jx pa pb pc) (Jw pa pb pc) (Jv pa pb pc) (Qc 2 2))))) ++ norm (Zi q3 ((Xh (Jx pa pb pc) (Jw pa pb pc) (Jv pa pb pc) (Qc 2 3))))) ++ norm (Zi q4 ((Xh (Jx pa pb pc) (Jw pa pb pc) (Jv pa pb pc) (Qc 2 4))))) ++ norm (Zi q5 ((Xh (Jx pa pb pc) (Jw pa pb pc) (Jv pa pb pc) (Qc 2 5)))))) (norm (norm (norm (norm (norm (norm (([] : List Tm) ++ norm (Zi q0 ((Xh (Jx pa pb pc) (Jw pa pb pc) (Jv pa pb pc) (Qc 2 0))))) ++ norm (Zi q1 ((Xh (Jx pa pb pc) (Jw pa pb pc) (Jv pa pb pc) (Qc 2 1))))) ++ norm (Zi q2 ((Xh (Jx pa pb pc) (Jw pa pb pc) (Jv pa pb pc) (Qc 2 2))))) ++ norm (Zi q3 ((Xh (Jx pa pb pc) (Jw pa pb pc) (Jv pa pb pc) (Qc 2 3))))) ++ norm (Zi q4 ((Xh (Jx pa pb pc) (Jw pa pb pc) (Jv pa pb pc) (Qc 2 4))))) ++ norm (Zi q5 ((Xh (Jx pa pb pc) (Jw pa pb pc) (Jv pa pb pc) (Qc 2 5)))))) pa pb pc := by
 rw [Zir, ← Zs6 pa pb pc]
 exact Zj2 (Or.inr rfl) (Zkn hT) [q0, q1, q2, q3, q4, q5]
theorem Zv1 (k : Rat × Rat × Rat) {pa pb pc : Pt} (hT : 0 < (twP pa pb pc).num.sign) (q0 q1 q2 q3 q4 q5 : Rat) : Vg (fun i => [q0, q1, q2, q3, q4, q5].getD i 0 * Zf1 (Zd0 (fun n m => stE 2 (byL k (Qb pa pb pc) (Zd pa pb pc)) n m) 6 6) [q0, q1, q2, q3, q4, q5] 6 i) 6 =
  [k.1 * Yk (norm (dxL (norm (norm (norm (norm (norm (norm (([] : List Tm) ++ norm (Zi q0 ((Xh (Jx pa pb pc) (Jw pa pb pc) (Jv pa pb pc) (Qc 2 0))))) ++ norm (Zi q1 ((Xh (Jx pa pb pc) (Jw pa pb pc) (Jv pa pb pc) (Qc 2 1))))) ++ norm (Zi q2 ((Xh (Jx pa pb pc) (Jw pa pb pc) (Jv pa pb pc) (Qc 2 2))))) ++ norm (Zi q3 ((Xh (Jx pa pb pc) (Jw pa pb pc) (Jv pa pb pc) (Qc 2 3))))) ++ norm (Zi q4 ((Xh (Jx pa pb pc) (Jw pa pb pc) (Jv pa pb pc) (Qc 2 4))))) ++ norm (Zi q5 ((Xh (Jx pa pb pc) (Jw pa pb pc) (Jv pa pb pc) (Qc 2 5)))))))) (norm (dxL (norm (norm (norm (norm (norm (norm (([] : List Tm) ++ norm (Zi q0 ((Xh (Jx pa pb pc) (Jw pa pb pc) (Jv pa pb pc) (Qc 2 0))))) ++ norm (Zi q1 ((Xh (Jx pa pb pc) (Jw pa pb pc) (Jv pa pb pc) (Qc 2 1))))) ++ norm (Zi q2 ((Xh (Jx pa pb pc) (Jw pa pb pc) (Jv pa pb pc) (Qc 2 2))))) ++ norm (Zi q3 ((Xh (Jx pa pb pc) (Jw pa pb pc) (Jv pa pb pc) (Qc 2 3))))) ++ norm (Zi q4 ((Xh (Jx pa pb pc) (Jw pa pb pc) (Jv pa pb pc) (Qc 2 4))))) ++ norm (Zi q5 ((Xh (Jx pa pb pc) (Jw pa pb pc) (Jv pa pb pc) (Qc 2 5)))))))) pa pb pc, ((2 : Int) : Rat) * k.2.1 * Yk (norm (dxL (norm (norm (norm (norm (norm (norm (([] : List Tm) ++ norm (Zi q0 ((Xh (Jx pa pb pc) (Jw pa pb pc) (Jv pa pb pc) (Qc 2 0))))) ++ norm (Zi q1 ((Xh (Jx pa pb pc) (Jw pa pb pc) (Jv pa pb pc) (Qc 2 1))))) ++ norm (Zi q2 ((Xh (Jx pa pb pc) (Jw pa pb pc) (Jv pa pb pc) (Qc 2 2))))) ++ norm (Zi q3 ((Xh (Jx pa pb pc) (Jw pa pb pc) (Jv pa pb pc) (Qc 2 3))))) ++ norm (Zi q4 ((Xh (Jx pa pb pc) (Jw pa pb pc) (Jv pa pb pc) (Qc 2 4))))) ++ norm (Zi q5 ((Xh (Jx pa pb pc) (Jw pa pb pc) (Jv pa pb pc) (Qc 2 5)))))))) (norm (dyL (norm (norm (norm (norm (norm (norm (([] : List Tm) ++ norm (Zi q0 ((Xh (Jx pa pb pc) (Jw pa pb pc) (Jv pa pb pc) (Qc 2 0))))) ++ norm (Zi q1 ((Xh (Jx pa pb pc) (Jw pa pb pc) (Jv pa pb pc) (Qc 2 1))))) ++ norm (Zi q2 ((Xh (Jx pa pb pc) (Jw pa pb pc) (Jv pa pb pc) (Qc 2 2))))) ++ norm (Zi q3 ((Xh (Jx pa pb pc) (Jw pa pb pc) (Jv pa pb pc) (Qc 2 3))))) ++ norm (Zi q4 ((Xh (Jx pa pb pc) (Jw pa pb pc) (Jv pa pb pc) (Qc 2 4))))) ++ norm (Zi q5 ((Xh (Jx pa pb pc) (Jw pa pb pc) (Jv pa pb pc) (Qc 2 5)))))))) pa pb pc, k.2.2 * Yk (norm (dyL (norm (norm (norm (norm (norm (norm (([] : List Tm) ++ norm (Zi q0 ((Xh (Jx pa pb pc) (Jw pa pb pc) (Jv pa pb pc) (Qc 2 0))))) ++ norm (Zi q1 ((Xh (Jx pa pb pc) (Jw pa pb pc) (Jv pa pb pc) (Qc 2 1))))) ++ norm (Zi q2 ((Xh (Jx pa pb pc) (Jw pa pb pc) (Jv pa pb pc) (Qc 2 2))))) ++ norm (Zi q3 ((Xh (Jx pa pb pc) (Jw pa pb pc) (Jv pa pb pc) (Qc 2 3))))) ++ norm (Zi q4 ((Xh (Jx pa pb pc) (Jw pa pb pc) (Jv pa pb pc) (Qc 2 4))))) ++ norm (Zi q5 ((Xh (Jx pa pb pc) (Jw pa pb pc) (Jv pa pb pc) (Qc 2 5)))))))) (norm (dyL (norm (norm (norm (norm (norm (norm (([] : List Tm) ++ norm (Zi q0 ((Xh (Jx pa pb pc) (Jw pa pb pc) (Jv pa pb pc) (Qc 2 0))))) ++ norm (Zi q1 ((Xh (Jx pa pb pc) (Jw pa pb pc) (Jv pa pb pc) (Qc 2 1))))) ++ norm (Zi q2 ((Xh (Jx pa pb pc) (Jw pa pb pc) (Jv pa pb pc) (Qc 2 2))))) ++ norm (Zi q3 ((Xh (Jx pa pb pc) (Jw pa pb pc) (Jv pa pb pc) (Qc 2 3))))) ++ norm (Zi q4 ((Xh (Jx pa pb pc) (Jw pa pb pc) (Jv pa pb pc) (Qc 2 4))))) ++ norm (Zi q5 ((Xh (Jx pa pb pc) (Jw pa pb pc) (Jv pa pb pc) (Qc 2 5)))))))) pa pb pc].foldl (· + ·) 0 := by
 have h := Zh3 (Or.inr rfl) k (Zkn hT) [q0, q1, q2, q3, q4, q5]
 rw [Zir, ← Zs6 pa pb pc, Zfc, Zfc, Zfc]
 refine h.trans ?_
 simp only [List.foldl_cons, List.foldl_nil, show ((2 : Int) : Rat) = 2 from rfl]
 rw [Rat.zero_add]
end
end Go.Proofs.YthcjdeklpegceaaGreatDoor
