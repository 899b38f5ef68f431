/- Walks of functions. By an AI agent. -/
import Derived.Test.YthcjdeklpegceaaGreatDoorLocd
set_option linter.unusedVariables false
set_option linter.unusedSimpArgs false
set_option maxRecDepth 4000
namespace Go.Proofs.YthcjdeklpegceaaGreatDoor
open Go Go.Proofs Go.Fx Tryz
attribute [local irreducible] Oper.wp Code.wp wpList Fx.Head wpOp Qc
section
theorem Vk (b off : Nat) (w : World) : (Instr.indexAt 114 (.pointer (some ⟨b, off, none⟩)) (.int .i64 0)).run Tryz.prog w = .ok (.pointer (some ⟨b, off + 0, none⟩)) w := by
 simp [go_sem, Instr.indexAt]
theorem Zmf {c0 c1 c2 c3 c4 c5 c6 c7 c8 c9 c10 c11 c12 c13 c14 c15 c16 c17 c18 c19 c20 c21 c22 c23 c24 c25 c26 c27 c28 c29 c30 c31 c32 c33 c34 c35 c36 c37 c38 c39 c40 c41 c42 c43 c44 v0 v1 v2 v3 v4 : Value} : Qc #[c0, c1, c2, c3, c4, c5, c6, c7, c8, c9, c10, c11, c12, c13, c14, c15, c16, c17, c18, c19, c20, c21, c22, c23, c24, c25, c26, c27, c28, c29, c30, c31, c32, c33, c34, c35, c36, c37, c38, c39, c40, c41, c42, c43, c44] 0 [v0, v1, v2, v3, v4] = #[v0, v1, v2, v3, v4, c5, c6, c7, c8, c9, c10, c11, c12, c13, c14, c15, c16, c17, c18, c19, c20, c21, c22, c23, c24, c25, c26, c27, c28, c29, c30, c31, c32, c33, c34, c35, c36, c37, c38, c39, c40, c41, c42, c43, c44] := by kernel_rfl
theorem Zme {c0 c1 c2 c3 c4 c5 c6 c7 c8 c9 c10 c11 c12 c13 c14 c15 c16 c17 c18 c19 c20 c21 c22 c23 c24 c25 c26 c27 c28 c29 c30 c31 c32 c33 c34 c35 c36 c37 c38 c39 c40 c41 c42 c43 c44 v0 v1 v2 v3 v4 : Value} : Qc #[c0, c1, c2, c3, c4, c5, c6, c7, c8, c9, c10, c11, c12, c13, c14, c15, c16, c17, c18, c19, c20, c21, c22, c23, c24, c25, c26, c27, c28, c29, c30, c31, c32, c33, c34, c35, c36, c37, c38, c39, c40, c41, c42, c43, c44] 5 [v0, v1, v2, v3, v4] = #[c0, c1, c2, c3, c4, v0, v1, v2, v3, v4, c10, c11, c12, c13, c14, c15, c16, c17, c18, c19, c20, c21, c22, c23, c24, c25, c26, c27, c28, c29, c30, c31, c32, c33, c34, c35, c36, c37, c38, c39, c40, c41, c42, c43, c44] := by kernel_rfl
theorem Zj2 {c0 c1 c2 c3 c4 c5 c6 c7 c8 c9 c10 c11 c12 c13 c14 c15 c16 c17 c18 c19 c20 c21 c22 c23 c24 c25 c26 c27 c28 c29 c30 c31 c32 c33 c34 c35 c36 c37 c38 c39 c40 c41 c42 c43 c44 v0 v1 v2 v3 v4 : Value} : Qc #[c0, c1, c2, c3, c4, c5, c6, c7, c8, c9, c10, c11, c12, c13, c14, c15, c16, c17, c18, c19, c20, c21, c22, c23, c24, c25, c26, c27, c28, c29, c30, c31, c32, c33, c34, c35, c36, c37, c38, c39, c40, c41, c42, c43, c44] 10 [v0, v1, v2, v3, v4] = #[c0, c1, c2, c3, c4, c5, c6, c7, c8, c9, v0, v1, v2, v3, v4, c15, c16, c17, c18, c19, c20, c21, c22, c23, c24, c25, c26, c27, c28, c29, c30, c31, c32, c33, c34, c35, c36, c37, c38, c39, c40, c41, c42, c43, c44] := by kernel_rfl
theorem Vj (b off : Nat) (w : World) : (Instr.indexAt 114 (.pointer (some ⟨b, off, none⟩)) (.int .i64 1)).run Tryz.prog w = .ok (.pointer (some ⟨b, off + 15, none⟩)) w := by
 simp [go_sem, Instr.indexAt]
theorem Zj1 {c0 c1 c2 c3 c4 c5 c6 c7 c8 c9 c10 c11 c12 c13 c14 c15 c16 c17 c18 c19 c20 c21 c22 c23 c24 c25 c26 c27 c28 c29 c30 c31 c32 c33 c34 c35 c36 c37 c38 c39 c40 c41 c42 c43 c44 v0 v1 v2 v3 v4 : Value} : Qc #[c0, c1, c2, c3, c4, c5, c6, c7, c8, c9, c10, c11, c12, c13, c14, c15, c16, c17, c18, c19, c20, c21, c22, c23, c24, c25, c26, c27, c28, c29, c30, c31, c32, c33, c34, c35, c36, c37, c38, c39, c40, c41, c42, c43, c44] 15 [v0, v1, v2, v3, v4] = #[c0, c1, c2, c3, c4, c5, c6, c7, c8, c9, c10, c11, c12, c13, c14, v0, v1, v2, v3, v4, c20, c21, c22, c23, c24, c25, c26, c27, c28, c29, c30, c31, c32, c33, c34, c35, c36, c37, c38, c39, c40, c41, c42, c43, c44] := by kernel_rfl
theorem Zj0 {c0 c1 c2 c3 c4 c5 c6 c7 c8 c9 c10 c11 c12 c13 c14 c15 c16 c17 c18 c19 c20 c21 c22 c23 c24 c25 c26 c27 c28 c29 c30 c31 c32 c33 c34 c35 c36 c37 c38 c39 c40 c41 c42 c43 c44 v0 v1 v2 v3 v4 : Value} : Qc #[c0, c1, c2, c3, c4, c5, c6, c7, c8, c9, c10, c11, c12, c13, c14, c15, c16, c17, c18, c19, c20, c21, c22, c23, c24, c25, c26, c27, c28, c29, c30, c31, c32, c33, c34, c35, c36, c37, c38, c39, c40, c41, c42, c43, c44] 20 [v0, v1, v2, v3, v4] = #[c0, c1, c2, c3, c4, c5, c6, c7, c8, c9, c10, c11, c12, c13, c14, c15, c16, c17, c18, c19, v0, v1, v2, v3, v4, c25, c26, c27, c28, c29, c30, c31, c32, c33, c34, c35, c36, c37, c38, c39, c40, c41, c42, c43, c44] := by kernel_rfl
theorem Zjz {c0 c1 c2 c3 c4 c5 c6 c7 c8 c9 c10 c11 c12 c13 c14 c15 c16 c17 c18 c19 c20 c21 c22 c23 c24 c25 c26 c27 c28 c29 c30 c31 c32 c33 c34 c35 c36 c37 c38 c39 c40 c41 c42 c43 c44 v0 v1 v2 v3 v4 : Value} : Qc #[c0, c1, c2, c3, c4, c5, c6, c7, c8, c9, c10, c11, c12, c13, c14, c15, c16, c17, c18, c19, c20, c21, c22, c23, c24, c25, c26, c27, c28, c29, c30, c31, c32, c33, c34, c35, c36, c37, c38, c39, c40, c41, c42, c43, c44] 25 [v0, v1, v2, v3, v4] = #[c0, c1, c2, c3, c4, c5, c6, c7, c8, c9, c10, c11, c12, c13, c14, c15, c16, c17, c18, c19, c20, c21, c22, c23, c24, v0, v1, v2, v3, v4, c30, c31, c32, c33, c34, c35, c36, c37, c38, c39, c40, c41, c42, c43, c44] := by kernel_rfl
theorem Vi (b off : Nat) (w : World) : (Instr.indexAt 114 (.pointer (some ⟨b, off, none⟩)) (.int .i64 2)).run Tryz.prog w = .ok (.pointer (some ⟨b, off + 30, none⟩)) w := by
 simp [go_sem, Instr.indexAt]
theorem Zjy {c0 c1 c2 c3 c4 c5 c6 c7 c8 c9 c10 c11 c12 c13 c14 c15 c16 c17 c18 c19 c20 c21 c22 c23 c24 c25 c26 c27 c28 c29 c30 c31 c32 c33 c34 c35 c36 c37 c38 c39 c40 c41 c42 c43 c44 v0 v1 v2 v3 v4 : Value} : Qc #[c0, c1, c2, c3, c4, c5, c6, c7, c8, c9, c10, c11, c12, c13, c14, c15, c16, c17, c18, c19, c20, c21, c22, c23, c24, c25, c26, c27, c28, c29, c30, c31, c32, c33, c34, c35, c36, c37, c38, c39, c40, c41, c42, c43, c44] 30 [v0, v1, v2, v3, v4] = #[c0, c1, c2, c3, c4, c5, c6, c7, c8, c9, c10, c11, c12, c13, c14, c15, c16, c17, c18, c19, c20, c21, c22, c23, c24, c25, c26, c27, c28, c29, v0, v1, v2, v3, v4, c35, c36, c37, c38, c39, c40, c41, c42, c43, c44] := by kernel_rfl
theorem Zjx {c0 c1 c2 c3 c4 c5 c6 c7 c8 c9 c10 c11 c12 c13 c14 c15 c16 c17 c18 c19 c20 c21 c22 c23 c24 c25 c26 c27 c28 c29 c30 c31 c32 c33 c34 c35 c36 c37 c38 c39 c40 c41 c42 c43 c44 v0 v1 v2 v3 v4 : Value} : Qc #[c0, c1, c2, c3, c4, c5, c6, c7, c8, c9, c10, c11, c12, c13, c14, c15, c16, c17, c18, c19, c20, c21, c22, c23, c24, c25, c26, c27, c28, c29, c30, c31, c32, c33, c34, c35, c36, c37, c38, c39, c40, c41, c42, c43, c44] 35 [v0, v1, v2, v3, v4] = #[c0, c1, c2, c3, c4, c5, c6, c7, c8, c9, c10, c11, c12, c13, c14, c15, c16, c17, c18, c19, c20, c21, c22, c23, c24, c25, c26, c27, c28, c29, c30, c31, c32, c33, c34, v0, v1, v2, v3, v4, c40, c41, c42, c43, c44] := by kernel_rfl
theorem Zjw {c0 c1 c2 c3 c4 c5 c6 c7 c8 c9 c10 c11 c12 c13 c14 c15 c16 c17 c18 c19 c20 c21 c22 c23 c24 c25 c26 c27 c28 c29 c30 c31 c32 c33 c34 c35 c36 c37 c38 c39 c40 c41 c42 c43 c44 v0 v1 v2 v3 v4 : Value} : Qc #[c0, c1, c2, c3, c4, c5, c6, c7, c8, c9, c10, c11, c12, c13, c14, c15, c16, c17, c18, c19, c20, c21, c22, c23, c24, c25, c26, c27, c28, c29, c30, c31, c32, c33, c34, c35, c36, c37, c38, c39, c40, c41, c42, c43, c44] 40 [v0, v1, v2, v3, v4] = #[c0, c1, c2, c3, c4, c5, c6, c7, c8, c9, c10, c11, c12, c13, c14, c15, c16, c17, c18, c19, c20, c21, c22, c23, c24, c25, c26, c27, c28, c29, c30, c31, c32, c33, c34, c35, c36, c37, c38, c39, v0, v1, v2, v3, v4] := by kernel_rfl
theorem Zj6 {c0 c1 c2 c3 c4 c5 c6 c7 c8 c9 c10 c11 c12 c13 c14 c15 c16 c17 c18 c19 c20 c21 c22 c23 c24 c25 c26 c27 c28 c29 c30 c31 c32 c33 c34 c35 c36 c37 c38 c39 c40 c41 c42 c43 c44 : Value} : Qe true 45 #[c0, c1, c2, c3, c4, c5, c6, c7, c8, c9, c10, c11, c12, c13, c14, c15, c16, c17, c18, c19, c20, c21, c22, c23, c24, c25, c26, c27, c28, c29, c30, c31, c32, c33, c34, c35, c36, c37, c38, c39, c40, c41, c42, c43, c44] 0 = some (.agg #[c0, c1, c2, c3, c4, c5, c6, c7, c8, c9, c10, c11, c12, c13, c14, c15, c16, c17, c18, c19, c20, c21, c22, c23, c24, c25, c26, c27, c28, c29, c30, c31, c32, c33, c34, c35, c36, c37, c38, c39, c40, c41, c42, c43, c44]) := by kernel_rfl
theorem Zj3 {c0 c1 c2 c3 c4 c5 c6 c7 c8 c9 c10 c11 c12 c13 c14 c15 c16 c17 c18 c19 c20 c21 c22 c23 c24 c25 c26 c27 c28 c29 c30 c31 c32 c33 c34 c35 c36 c37 c38 c39 c40 c41 c42 c43 c44 v0 v1 v2 v3 v4 v5 v6 v7 v8 v9 v10 v11 v12 v13 v14 v15 v16 v17 v18 v19 v20 v21 v22 v23 v24 v25 v26 v27 v28 v29 v30 v31 v32 v33 v34 v35 v36 v37 v38 v39 v40 v41 v42 v43 v44 : Value} : Qc #[c0, c1, c2, c3, c4, c5, c6, c7, c8, c9, c10, c11, c12, c13, c14, c15, c16, c17, c18, c19, c20, c21, c22, c23, c24, c25, c26, c27, c28, c29, c30, c31, c32, c33, c34, c35, c36, c37, c38, c39, c40, c41, c42, c43, c44] 0 [v0, v1, v2, v3, v4, v5, v6, v7, v8, v9, v10, v11, v12, v13, v14, v15, v16, v17, v18, v19, v20, v21, v22, v23, v24, v25, v26, v27, v28, v29, v30, v31, v32, v33, v34, v35, v36, v37, v38, v39, v40, v41, v42, v43, v44] = #[v0, v1, v2, v3, v4, v5, v6, v7, v8, v9, v10, v11, v12, v13, v14, v15, v16, v17, v18, v19, v20, v21, v22, v23, v24, v25, v26, v27, v28, v29, v30, v31, v32, v33, v34, v35, v36, v37, v38, v39, v40, v41, v42, v43, v44] := by kernel_rfl
theorem Zk2 (c : Int) (l : List Nat) (h0 : -1000 ≤ c) (h1 : c ≤ 1000) (hl : l.length ≤ 4) : (Gi c l).i ≤ 4 ∧ (Gi c l).j ≤ 4 ∧ (Gi c l).k ≤ 4 ∧ Zu (Gi c l).c ≤ 50 :=
 ⟨Nat.le_trans (List.count_le_length ..) hl, Nat.le_trans (List.count_le_length ..) hl, Nat.le_trans (List.count_le_length ..) hl, Nat.le_trans (Zs c oo oo) dd⟩
theorem Vc (o n : Nat) : ∀ x ∈ Qw o n, x.i ≤ 4 ∧ x.j ≤ 4 ∧ x.k ≤ 4 ∧ Zu x.c ≤ 50 := by
 intro x hx
 unfold Qw at hx
 split at hx
 · rcases List.mem_singleton.1 hx with rfl; exact Zk2 _ _ dd dd ss
 ·
  split at hx
  ·
   rcases List.mem_cons.1 hx with rfl | hx
   · exact Zk2 _ _ dd dd ss
   · rcases List.mem_singleton.1 hx with rfl; exact Zk2 _ _ dd dd ss
  · rcases List.mem_singleton.1 hx with rfl; exact Zk2 _ _ dd dd ss
theorem Xs (o n : Nat) : (Qw o n).length ≤ 10 := by unfold Qw; split <;> (try split) <;> simp
theorem Xy (o n : Nat) : OkPw (Qw o n) := ⟨Xs o n, fun x hx => by obtain ⟨h1, h2, h3, h4⟩ := Vc o n x hx; exact ⟨h1, h2, h3, oo⟩⟩
theorem Zwp (w : World) (ty : TypeId) (cs : Array Bool) : (Go.builtin .max #[53, 53] ty cs #[.int .i64 0, .int .i64 0]).run Tryz.prog w = .ok (.value (.int .i64 0)) w := by
 simp [go_sem]
theorem Zz0 (o n m : Nat) (ho : o = 1 ∨ o = 2) (hn : n < Jj o) (hm : m < Jj o) : Gh Tryz.prog 55 [.int .i64 ((o : Nat) : Int), .int .i64 ((n : Nat) : Int), .int .i64 ((m : Nat) : Int)] [SideF] (.tuple #[Zr (Zch o n m), .int .i64 0]) := by
 refine fn_intro func55 rfl ntmps55 nb ?_
 intro S w0 a hS h
 refine gC h (zS (zz Ju fun b6 => za rfl (zn (zS (zm rfl (zm rfl (zf [_, _] rfl call44 (Zhy ho hn) ?_))))))); rintro v15 Ψ15 ⟨ad15, c15, rfl, rfl⟩
 refine zm rfl (zp (.eX rfl) (zp (.eX rfl) (za rfl (za rfl (zn (zS (zm rfl (zm rfl (zf [_, _] rfl call44 (Zhy ho hm) ?_))))))))); rintro v21 Ψ21 ⟨ad21, c21, rfl, rfl⟩
 refine zm rfl (zp (.eX rfl) (zp (.eX rfl) (za rfl (za rfl (zn (zS (zm rfl (zf [_] rfl call110 (Zrb (Qw o n) _ _) ?_)))))))); rintro v25 Ψ25 ⟨b25, rfl, rfl⟩
 refine zm rfl (zf [_] rfl call110 (Zrb (Qw o m) _ _) ?_); rintro v27 Ψ27 ⟨b27, rfl, rfl⟩
 refine zw [_, _] rfl call108 (Vm 156 156 [.pointer (some ⟨b25, 0, none⟩)] [.pointer (some ⟨b27, 0, none⟩)] [Row (some ⟨b27, 0, none⟩) [.slice ad21 (Qw o m).length c21], Row (some ⟨b25, 0, none⟩) [.slice ad15 (Qw o n).length c15], Row ad21 (cellsOf Qi (Qw o m)), Row ad15 (cellsOf Qi (Qw o n))] (Qw o n) (Qw o m) (Xy o n) (Xy o m) call156 call156 (Zno _ ad15 c15 b25 _ (Xs o n) mm mm) (Zno _ ad21 c21 b27 _ (Xs o m) mm mm)) (zm rfl (zm rfl (zp (.builtin [_, _] rfl (Zwp)) (zt' rfl rfl Zp uu sizeOf41 rfl nb rfl ?_))))
 refine za rfl (zn (zt ?_)); intro a w h
 refine Xd h (Qq h rfl (.cell rfl mr isAgg41 sizeOf41 Zh) (.tmp rfl)) ?_
 rfl
set_option maxHeartbeats 1000000 in
theorem Zz5 (o n m : Nat) (ho : o = 1 ∨ o = 2) (hn : n < Jj o) (hm : m < Jj o) : Gh Tryz.prog 53 [.int .i64 ((o : Nat) : Int), .int .i64 ((n : Nat) : Int), .int .i64 ((m : Nat) : Int)] [SideF] (.tuple #[Xb (Zl o n m 0 0) (Zl o n m 0 1) (Zl o n m 0 2) (Zl o n m 1 0) (Zl o n m 1 1) (Zl o n m 1 2) (Zl o n m 2 0) (Zl o n m 2 1) (Zl o n m 2 2), .int .i64 0]) := by
 refine fn_intro func53 rfl ntmps53 nb ?_
 intro S w0 a hS h
 refine gC h (zS (zz Ztk fun b6 => za rfl (zn (zS (zm rfl (zm rfl (zf [_, _] rfl call44 (Zhy ho hn) ?_))))))); rintro v16 Ψ16 ⟨ad16, c16, rfl, rfl⟩
 refine zm rfl (zp (.eX rfl) (zp (.eX rfl) (za rfl (za rfl (zn (zS (zm rfl (zm rfl (zf [_, _] rfl call44 (Zhy ho hm) ?_))))))))); rintro v22 Ψ22 ⟨ad22, c22, rfl, rfl⟩
 refine zm rfl (zp (.eX rfl) (zp (.eX rfl) (za rfl (za rfl (zn (zs (zS (zm rfl (zn (zb ?_)))))))))); intro a w h
 refine wp_loop_rounds 4 ?_
 refine Ze ?_
 refine gC h (zS (zp (Pure1.cast (v' := .bool true) (.lss rfl rfl) cgd) (zn (zs ?_)))); clear h; intro a w h
 refine Zi h rfl ?_
 refine gC h (zk (zs (zb (zS (zm rfl (za rfl (zn (zS (zm rfl (zn (zb ?_))))))))))); clear h; intro a w h
 refine wp_loop_rounds 4 ?_
 refine Ze ?_
 refine gC h (zS (zp (Pure1.cast (v' := .bool true) (.lss rfl rfl) cgd) (zn (zs ?_)))); clear h; intro a w h
 refine Zi h rfl ?_
 refine gC h (zk (zs (zb (zS (zm rfl (za rfl (zn (yD Za [0, 1, 2, 3, 5, 6, 9, 4, 7, 8, 10, 11] (Zd kk) (ym rfl rfl (ym rfl rfl (ym rfl rfl (ym rfl rfl (ym rfl rfl (ym rfl rfl (yp rfl (.indexAddr rfl rfl (Vk _ _)) (yf [_, _] rfl rfl call109 (Vn (Qw o n) _ _ 0) ?_)))))))))))))))); clear h; rintro v35 Ψ35 ⟨b35, b35', rfl, rfl⟩
 refine yf [_, _] rfl rfl call109 (Vn (Qw o m) _ _ 0) ?_; rintro v38 Ψ38 ⟨b38, b38', rfl, rfl⟩
 refine yw [_, _] rfl rfl call108 (Vm 155 155 [.pointer (some ⟨b35, 0, none⟩), .pointer (some ⟨b35', 0, none⟩)] [.pointer (some ⟨b38, 0, none⟩), .pointer (some ⟨b38', 0, none⟩)] [Row (some ⟨b38', 0, none⟩) [.int .i64 0], Row (some ⟨b38, 0, none⟩) [.slice ad22 (Qw o m).length c22], Row (some ⟨b35', 0, none⟩) [.int .i64 0], Row (some ⟨b35, 0, none⟩) [.slice ad16 (Qw o n).length c16], Row ad22 (cellsOf Qi (Qw o m)), Row ad16 (cellsOf Qi (Qw o n))] (slp 0 (Qw o n)) (slp 0 (Qw o m)) (OkPw.slp (Vc o n) (Xs o n) 0) (OkPw.slp (Vc o m) (Xs o m) 0) call155 call155 (Zcw _ ad16 c16 b35 b35' _ (Xy o n) mm mm mm) (Zcw _ ad22 c22 b38 b38' _ (Xy o m) mm mm mm)) (yp rfl (.indexAddr rfl rfl (Yg _ _)) (yt rfl rfl rfl Zmf uu sizeOf41 rfl nb rfl ?_))
 refine yn (zr (zp (Pure1.cast (v' := .int .i64 1) (.add rfl rfl) cgd) (zm rfl (zn ?_)))); intro a w h
 replace h : St 48 S w0 [(6, pB b6), (7, .int .i64 0), (8, .slice ad16 ((Qw o n).length) c16), (9, .slice ad22 ((Qw o m).length) c22), (10, .int .i64 0), (11, .int .i64 0), (25, .int .i64 0), (26, .bool true), (28, .int .i64 1), (29, .bool true)] [(b6, bV (Xb (Zl o n m 0 0) 0 0 0 0 0 0 0 0) 114)] [Row ad22 (cellsOf Qi (Qw o m)), Row ad16 (cellsOf Qi (Qw o n)), SideF] a w := by exact (h.factsSub (by simp)).sub sA
 refine Ze ?_
 refine gC h (zS (zp (Pure1.cast (v' := .bool true) (.lss rfl rfl) cgd) (zn (zs ?_)))); clear h; intro a w h
 refine Zi h rfl ?_
 refine gC h (zk (zs (zb (zS (zm rfl (za rfl (zn (yD Za [0, 1, 2, 3, 5, 6, 9, 4, 7, 8, 10, 11] (Zd kk) (ym rfl rfl (ym rfl rfl (ym rfl rfl (ym rfl rfl (ym rfl rfl (ym rfl rfl (yp rfl (.indexAddr rfl rfl (Vk _ _)) (yf [_, _] rfl rfl call109 (Vn (Qw o n) _ _ 0) ?_)))))))))))))))); clear h; rintro v35 Ψ35 ⟨b35, b35', rfl, rfl⟩
 refine yf [_, _] rfl rfl call109 (Vn (Qw o m) _ _ 1) ?_; rintro v38 Ψ38 ⟨b38, b38', rfl, rfl⟩
 refine yw [_, _] rfl rfl call108 (Vm 155 155 [.pointer (some ⟨b35, 0, none⟩), .pointer (some ⟨b35', 0, none⟩)] [.pointer (some ⟨b38, 0, none⟩), .pointer (some ⟨b38', 0, none⟩)] [Row (some ⟨b38', 0, none⟩) [.int .i64 1], Row (some ⟨b38, 0, none⟩) [.slice ad22 (Qw o m).length c22], Row (some ⟨b35', 0, none⟩) [.int .i64 0], Row (some ⟨b35, 0, none⟩) [.slice ad16 (Qw o n).length c16], Row ad22 (cellsOf Qi (Qw o m)), Row ad16 (cellsOf Qi (Qw o n))] (slp 0 (Qw o n)) (slp 1 (Qw o m)) (OkPw.slp (Vc o n) (Xs o n) 0) (OkPw.slp (Vc o m) (Xs o m) 1) call155 call155 (Zcw _ ad16 c16 b35 b35' _ (Xy o n) mm mm mm) (Zcv _ ad22 c22 b38 b38' _ (Xy o m) mm mm mm)) (yp rfl (.indexAddr rfl rfl (Xt _ _)) (yt rfl rfl rfl Zme uu sizeOf41 rfl nb rfl ?_))
 refine yn (zr (zp (Pure1.cast (v' := .int .i64 2) (.add rfl rfl) cgd) (zm rfl (zn ?_)))); intro a w h
 replace h : St 48 S w0 [(6, pB b6), (7, .int .i64 0), (8, .slice ad16 ((Qw o n).length) c16), (9, .slice ad22 ((Qw o m).length) c22), (10, .int .i64 0), (11, .int .i64 0), (25, .int .i64 0), (26, .bool true), (28, .int .i64 2), (29, .bool true)] [(b6, bV (Xb (Zl o n m 0 0) (Zl o n m 0 1) 0 0 0 0 0 0 0) 114)] [Row ad22 (cellsOf Qi (Qw o m)), Row ad16 (cellsOf Qi (Qw o n)), SideF] a w := by exact (h.factsSub (by simp)).sub sA
 refine Ze ?_
 refine gC h (zS (zp (Pure1.cast (v' := .bool true) (.lss rfl rfl) cgd) (zn (zs ?_)))); clear h; intro a w h
 refine Zi h rfl ?_
 refine gC h (zk (zs (zb (zS (zm rfl (za rfl (zn (yD Za [0, 1, 2, 3, 5, 6, 9, 4, 7, 8, 10, 11] (Zd kk) (ym rfl rfl (ym rfl rfl (ym rfl rfl (ym rfl rfl (ym rfl rfl (ym rfl rfl (yp rfl (.indexAddr rfl rfl (Vk _ _)) (yf [_, _] rfl rfl call109 (Vn (Qw o n) _ _ 0) ?_)))))))))))))))); clear h; rintro v35 Ψ35 ⟨b35, b35', rfl, rfl⟩
 refine yf [_, _] rfl rfl call109 (Vn (Qw o m) _ _ 2) ?_; rintro v38 Ψ38 ⟨b38, b38', rfl, rfl⟩
 refine yw [_, _] rfl rfl call108 (Vm 155 155 [.pointer (some ⟨b35, 0, none⟩), .pointer (some ⟨b35', 0, none⟩)] [.pointer (some ⟨b38, 0, none⟩), .pointer (some ⟨b38', 0, none⟩)] [Row (some ⟨b38', 0, none⟩) [.int .i64 2], Row (some ⟨b38, 0, none⟩) [.slice ad22 (Qw o m).length c22], Row (some ⟨b35', 0, none⟩) [.int .i64 0], Row (some ⟨b35, 0, none⟩) [.slice ad16 (Qw o n).length c16], Row ad22 (cellsOf Qi (Qw o m)), Row ad16 (cellsOf Qi (Qw o n))] (slp 0 (Qw o n)) (slp 2 (Qw o m)) (OkPw.slp (Vc o n) (Xs o n) 0) (OkPw.slp (Vc o m) (Xs o m) 2) call155 call155 (Zcw _ ad16 c16 b35 b35' _ (Xy o n) mm mm mm) (Zcu _ ad22 c22 b38 b38' _ (Xy o m) mm mm mm)) (yp rfl (.indexAddr rfl rfl (Yf _ _)) (yt rfl rfl rfl Zj2 uu sizeOf41 rfl nb rfl ?_))
 refine yn (zr (zp (Pure1.cast (v' := .int .i64 3) (.add rfl rfl) cgd) (zm rfl (zn ?_)))); intro a w h
 replace h : St 48 S w0 [(6, pB b6), (7, .int .i64 0), (8, .slice ad16 ((Qw o n).length) c16), (9, .slice ad22 ((Qw o m).length) c22), (10, .int .i64 0), (11, .int .i64 0), (25, .int .i64 0), (26, .bool true), (28, .int .i64 3), (29, .bool true)] [(b6, bV (Xb (Zl o n m 0 0) (Zl o n m 0 1) (Zl o n m 0 2) 0 0 0 0 0 0) 114)] [Row ad22 (cellsOf Qi (Qw o m)), Row ad16 (cellsOf Qi (Qw o n)), SideF] a w := by exact (h.factsSub (by simp)).sub sA
 refine Ze ?_
 refine gC h (zS (zp (Pure1.cast (v' := .bool false) (.lss rfl rfl) cgd) (zn (zs ?_)))); clear h; intro a w h
 refine Zf h rfl ?_
 refine gC h (ze (zr (zp (Pure1.cast (v' := .int .i64 1) (.add rfl rfl) cgd) (zm rfl (zn ?_))))); clear h; intro a w h
 replace h : St 48 S w0 [(6, pB b6), (7, .int .i64 0), (8, .slice ad16 ((Qw o n).length) c16), (9, .slice ad22 ((Qw o m).length) c22), (10, .int .i64 0), (25, .int .i64 1), (26, .bool true), (29, .bool false)] [(b6, bV (Xb (Zl o n m 0 0) (Zl o n m 0 1) (Zl o n m 0 2) 0 0 0 0 0 0) 114)] [Row ad22 (cellsOf Qi (Qw o m)), Row ad16 (cellsOf Qi (Qw o n)), SideF] a w := by exact h.sub sA
 refine Ze ?_
 refine gC h (zS (zp (Pure1.cast (v' := .bool true) (.lss rfl rfl) cgd) (zn (zs ?_)))); clear h; intro a w h
 refine Zi h rfl ?_
 refine gC h (zk (zs (zb (zS (zm rfl (za rfl (zn (zS (zm rfl (zn (zb ?_))))))))))); clear h; intro a w h
 refine wp_loop_rounds 4 ?_
 refine Ze ?_
 refine gC h (zS (zp (Pure1.cast (v' := .bool true) (.lss rfl rfl) cgd) (zn (zs ?_)))); clear h; intro a w h
 refine Zi h rfl ?_
 refine gC h (zk (zs (zb (zS (zm rfl (za rfl (zn (yD Za [0, 1, 2, 3, 5, 6, 9, 4, 7, 8, 10, 11] (Zd kk) (ym rfl rfl (ym rfl rfl (ym rfl rfl (ym rfl rfl (ym rfl rfl (ym rfl rfl (yp rfl (.indexAddr rfl rfl (Vj _ _)) (yf [_, _] rfl rfl call109 (Vn (Qw o n) _ _ 1) ?_)))))))))))))))); clear h; rintro v35 Ψ35 ⟨b35, b35', rfl, rfl⟩
 refine yf [_, _] rfl rfl call109 (Vn (Qw o m) _ _ 0) ?_; rintro v38 Ψ38 ⟨b38, b38', rfl, rfl⟩
 refine yw [_, _] rfl rfl call108 (Vm 155 155 [.pointer (some ⟨b35, 0, none⟩), .pointer (some ⟨b35', 0, none⟩)] [.pointer (some ⟨b38, 0, none⟩), .pointer (some ⟨b38', 0, none⟩)] [Row (some ⟨b38', 0, none⟩) [.int .i64 0], Row (some ⟨b38, 0, none⟩) [.slice ad22 (Qw o m).length c22], Row (some ⟨b35', 0, none⟩) [.int .i64 1], Row (some ⟨b35, 0, none⟩) [.slice ad16 (Qw o n).length c16], Row ad22 (cellsOf Qi (Qw o m)), Row ad16 (cellsOf Qi (Qw o n))] (slp 1 (Qw o n)) (slp 0 (Qw o m)) (OkPw.slp (Vc o n) (Xs o n) 1) (OkPw.slp (Vc o m) (Xs o m) 0) call155 call155 (Zcv _ ad16 c16 b35 b35' _ (Xy o n) mm mm mm) (Zcw _ ad22 c22 b38 b38' _ (Xy o m) mm mm mm)) (yp rfl (.indexAddr rfl rfl (Yg _ _)) (yt rfl rfl rfl Zj1 uu sizeOf41 rfl nb rfl ?_))
 refine yn (zr (zp (Pure1.cast (v' := .int .i64 1) (.add rfl rfl) cgd) (zm rfl (zn ?_)))); intro a w h
 replace h : St 48 S w0 [(6, pB b6), (7, .int .i64 0), (8, .slice ad16 ((Qw o n).length) c16), (9, .slice ad22 ((Qw o m).length) c22), (10, .int .i64 0), (11, .int .i64 1), (25, .int .i64 1), (26, .bool true), (28, .int .i64 1), (29, .bool true)] [(b6, bV (Xb (Zl o n m 0 0) (Zl o n m 0 1) (Zl o n m 0 2) (Zl o n m 1 0) 0 0 0 0 0) 114)] [Row ad22 (cellsOf Qi (Qw o m)), Row ad16 (cellsOf Qi (Qw o n)), SideF] a w := by exact (h.factsSub (by simp)).sub sA
 refine Ze ?_
 refine gC h (zS (zp (Pure1.cast (v' := .bool true) (.lss rfl rfl) cgd) (zn (zs ?_)))); clear h; intro a w h
 refine Zi h rfl ?_
 refine gC h (zk (zs (zb (zS (zm rfl (za rfl (zn (yD Za [0, 1, 2, 3, 5, 6, 9, 4, 7, 8, 10, 11] (Zd kk) (ym rfl rfl (ym rfl rfl (ym rfl rfl (ym rfl rfl (ym rfl rfl (ym rfl rfl (yp rfl (.indexAddr rfl rfl (Vj _ _)) (yf [_, _] rfl rfl call109 (Vn (Qw o n) _ _ 1) ?_)))))))))))))))); clear h; rintro v35 Ψ35 ⟨b35, b35', rfl, rfl⟩
 refine yf [_, _] rfl rfl call109 (Vn (Qw o m) _ _ 1) ?_; rintro v38 Ψ38 ⟨b38, b38', rfl, rfl⟩
 refine yw [_, _] rfl rfl call108 (Vm 155 155 [.pointer (some ⟨b35, 0, none⟩), .pointer (some ⟨b35', 0, none⟩)] [.pointer (some ⟨b38, 0, none⟩), .pointer (some ⟨b38', 0, none⟩)] [Row (some ⟨b38', 0, none⟩) [.int .i64 1], Row (some ⟨b38, 0, none⟩) [.slice ad22 (Qw o m).length c22], Row (some ⟨b35', 0, none⟩) [.int .i64 1], Row (some ⟨b35, 0, none⟩) [.slice ad16 (Qw o n).length c16], Row ad22 (cellsOf Qi (Qw o m)), Row ad16 (cellsOf Qi (Qw o n))] (slp 1 (Qw o n)) (slp 1 (Qw o m)) (OkPw.slp (Vc o n) (Xs o n) 1) (OkPw.slp (Vc o m) (Xs o m) 1) call155 call155 (Zcv _ ad16 c16 b35 b35' _ (Xy o n) mm mm mm) (Zcv _ ad22 c22 b38 b38' _ (Xy o m) mm mm mm)) (yp rfl (.indexAddr rfl rfl (Xt _ _)) (yt rfl rfl rfl Zj0 uu sizeOf41 rfl nb rfl ?_))
 refine yn (zr (zp (Pure1.cast (v' := .int .i64 2) (.add rfl rfl) cgd) (zm rfl (zn ?_)))); intro a w h
 replace h : St 48 S w0 [(6, pB b6), (7, .int .i64 0), (8, .slice ad16 ((Qw o n).length) c16), (9, .slice ad22 ((Qw o m).length) c22), (10, .int .i64 0), (11, .int .i64 1), (25, .int .i64 1), (26, .bool true), (28, .int .i64 2), (29, .bool true)] [(b6, bV (Xb (Zl o n m 0 0) (Zl o n m 0 1) (Zl o n m 0 2) (Zl o n m 1 0) (Zl o n m 1 1) 0 0 0 0) 114)] [Row ad22 (cellsOf Qi (Qw o m)), Row ad16 (cellsOf Qi (Qw o n)), SideF] a w := by exact (h.factsSub (by simp)).sub sA
 refine Ze ?_
 refine gC h (zS (zp (Pure1.cast (v' := .bool true) (.lss rfl rfl) cgd) (zn (zs ?_)))); clear h; intro a w h
 refine Zi h rfl ?_
 refine gC h (zk (zs (zb (zS (zm rfl (za rfl (zn (yD Za [0, 1, 2, 3, 5, 6, 9, 4, 7, 8, 10, 11] (Zd kk) (ym rfl rfl (ym rfl rfl (ym rfl rfl (ym rfl rfl (ym rfl rfl (ym rfl rfl (yp rfl (.indexAddr rfl rfl (Vj _ _)) (yf [_, _] rfl rfl call109 (Vn (Qw o n) _ _ 1) ?_)))))))))))))))); clear h; rintro v35 Ψ35 ⟨b35, b35', rfl, rfl⟩
 refine yf [_, _] rfl rfl call109 (Vn (Qw o m) _ _ 2) ?_; rintro v38 Ψ38 ⟨b38, b38', rfl, rfl⟩
 refine yw [_, _] rfl rfl call108 (Vm 155 155 [.pointer (some ⟨b35, 0, none⟩), .pointer (some ⟨b35', 0, none⟩)] [.pointer (some ⟨b38, 0, none⟩), .pointer (some ⟨b38', 0, none⟩)] [Row (some ⟨b38', 0, none⟩) [.int .i64 2], Row (some ⟨b38, 0, none⟩) [.slice ad22 (Qw o m).length c22], Row (some ⟨b35', 0, none⟩) [.int .i64 1], Row (some ⟨b35, 0, none⟩) [.slice ad16 (Qw o n).length c16], Row ad22 (cellsOf Qi (Qw o m)), Row ad16 (cellsOf Qi (Qw o n))] (slp 1 (Qw o n)) (slp 2 (Qw o m)) (OkPw.slp (Vc o n) (Xs o n) 1) (OkPw.slp (Vc o m) (Xs o m) 2) call155 call155 (Zcv _ ad16 c16 b35 b35' _ (Xy o n) mm mm mm) (Zcu _ ad22 c22 b38 b38' _ (Xy o m) mm mm mm)) (yp rfl (.indexAddr rfl rfl (Yf _ _)) (yt rfl rfl rfl Zjz uu sizeOf41 rfl nb rfl ?_))
 refine yn (zr (zp (Pure1.cast (v' := .int .i64 3) (.add rfl rfl) cgd) (zm rfl (zn ?_)))); intro a w h
 replace h : St 48 S w0 [(6, pB b6), (7, .int .i64 0), (8, .slice ad16 ((Qw o n).length) c16), (9, .slice ad22 ((Qw o m).length) c22), (10, .int .i64 0), (11, .int .i64 1), (25, .int .i64 1), (26, .bool true), (28, .int .i64 3), (29, .bool true)] [(b6, bV (Xb (Zl o n m 0 0) (Zl o n m 0 1) (Zl o n m 0 2) (Zl o n m 1 0) (Zl o n m 1 1) (Zl o n m 1 2) 0 0 0) 114)] [Row ad22 (cellsOf Qi (Qw o m)), Row ad16 (cellsOf Qi (Qw o n)), SideF] a w := by exact (h.factsSub (by simp)).sub sA
 refine Ze ?_
 refine gC h (zS (zp (Pure1.cast (v' := .bool false) (.lss rfl rfl) cgd) (zn (zs ?_)))); clear h; intro a w h
 refine Zf h rfl ?_
 refine gC h (ze (zr (zp (Pure1.cast (v' := .int .i64 2) (.add rfl rfl) cgd) (zm rfl (zn ?_))))); clear h; intro a w h
 replace h : St 48 S w0 [(6, pB b6), (7, .int .i64 0), (8, .slice ad16 ((Qw o n).length) c16), (9, .slice ad22 ((Qw o m).length) c22), (10, .int .i64 0), (25, .int .i64 2), (26, .bool true), (29, .bool false)] [(b6, bV (Xb (Zl o n m 0 0) (Zl o n m 0 1) (Zl o n m 0 2) (Zl o n m 1 0) (Zl o n m 1 1) (Zl o n m 1 2) 0 0 0) 114)] [Row ad22 (cellsOf Qi (Qw o m)), Row ad16 (cellsOf Qi (Qw o n)), SideF] a w := by exact h.sub sA
 refine Ze ?_
 refine gC h (zS (zp (Pure1.cast (v' := .bool true) (.lss rfl rfl) cgd) (zn (zs ?_)))); clear h; intro a w h
 refine Zi h rfl ?_
 refine gC h (zk (zs (zb (zS (zm rfl (za rfl (zn (zS (zm rfl (zn (zb ?_))))))))))); clear h; intro a w h
 refine wp_loop_rounds 4 ?_
 refine Ze ?_
 refine gC h (zS (zp (Pure1.cast (v' := .bool true) (.lss rfl rfl) cgd) (zn (zs ?_)))); clear h; intro a w h
 refine Zi h rfl ?_
 refine gC h (zk (zs (zb (zS (zm rfl (za rfl (zn (yD Za [0, 1, 2, 3, 5, 6, 9, 4, 7, 8, 10, 11] (Zd kk) (ym rfl rfl (ym rfl rfl (ym rfl rfl (ym rfl rfl (ym rfl rfl (ym rfl rfl (yp rfl (.indexAddr rfl rfl (Vi _ _)) (yf [_, _] rfl rfl call109 (Vn (Qw o n) _ _ 2) ?_)))))))))))))))); clear h; rintro v35 Ψ35 ⟨b35, b35', rfl, rfl⟩
 refine yf [_, _] rfl rfl call109 (Vn (Qw o m) _ _ 0) ?_; rintro v38 Ψ38 ⟨b38, b38', rfl, rfl⟩
 refine yw [_, _] rfl rfl call108 (Vm 155 155 [.pointer (some ⟨b35, 0, none⟩), .pointer (some ⟨b35', 0, none⟩)] [.pointer (some ⟨b38, 0, none⟩), .pointer (some ⟨b38', 0, none⟩)] [Row (some ⟨b38', 0, none⟩) [.int .i64 0], Row (some ⟨b38, 0, none⟩) [.slice ad22 (Qw o m).length c22], Row (some ⟨b35', 0, none⟩) [.int .i64 2], Row (some ⟨b35, 0, none⟩) [.slice ad16 (Qw o n).length c16], Row ad22 (cellsOf Qi (Qw o m)), Row ad16 (cellsOf Qi (Qw o n))] (slp 2 (Qw o n)) (slp 0 (Qw o m)) (OkPw.slp (Vc o n) (Xs o n) 2) (OkPw.slp (Vc o m) (Xs o m) 0) call155 call155 (Zcu _ ad16 c16 b35 b35' _ (Xy o n) mm mm mm) (Zcw _ ad22 c22 b38 b38' _ (Xy o m) mm mm mm)) (yp rfl (.indexAddr rfl rfl (Yg _ _)) (yt rfl rfl rfl Zjy uu sizeOf41 rfl nb rfl ?_))
 refine yn (zr (zp (Pure1.cast (v' := .int .i64 1) (.add rfl rfl) cgd) (zm rfl (zn ?_)))); intro a w h
 replace h : St 48 S w0 [(6, pB b6), (7, .int .i64 0), (8, .slice ad16 ((Qw o n).length) c16), (9, .slice ad22 ((Qw o m).length) c22), (10, .int .i64 0), (11, .int .i64 2), (25, .int .i64 2), (26, .bool true), (28, .int .i64 1), (29, .bool true)] [(b6, bV (Xb (Zl o n m 0 0) (Zl o n m 0 1) (Zl o n m 0 2) (Zl o n m 1 0) (Zl o n m 1 1) (Zl o n m 1 2) (Zl o n m 2 0) 0 0) 114)] [Row ad22 (cellsOf Qi (Qw o m)), Row ad16 (cellsOf Qi (Qw o n)), SideF] a w := by exact (h.factsSub (by simp)).sub sA
 refine Ze ?_
 refine gC h (zS (zp (Pure1.cast (v' := .bool true) (.lss rfl rfl) cgd) (zn (zs ?_)))); clear h; intro a w h
 refine Zi h rfl ?_
 refine gC h (zk (zs (zb (zS (zm rfl (za rfl (zn (yD Za [0, 1, 2, 3, 5, 6, 9, 4, 7, 8, 10, 11] (Zd kk) (ym rfl rfl (ym rfl rfl (ym rfl rfl (ym rfl rfl (ym rfl rfl (ym rfl rfl (yp rfl (.indexAddr rfl rfl (Vi _ _)) (yf [_, _] rfl rfl call109 (Vn (Qw o n) _ _ 2) ?_)))))))))))))))); clear h; rintro v35 Ψ35 ⟨b35, b35', rfl, rfl⟩
 refine yf [_, _] rfl rfl call109 (Vn (Qw o m) _ _ 1) ?_; rintro v38 Ψ38 ⟨b38, b38', rfl, rfl⟩
 refine yw [_, _] rfl rfl call108 (Vm 155 155 [.pointer (some ⟨b35, 0, none⟩), .pointer (some ⟨b35', 0, none⟩)] [.pointer (some ⟨b38, 0, none⟩), .pointer (some ⟨b38', 0, none⟩)] [Row (some ⟨b38', 0, none⟩) [.int .i64 1], Row (some ⟨b38, 0, none⟩) [.slice ad22 (Qw o m).length c22], Row (some ⟨b35', 0, none⟩) [.int .i64 2], Row (some ⟨b35, 0, none⟩) [.slice ad16 (Qw o n).length c16], Row ad22 (cellsOf Qi (Qw o m)), Row ad16 (cellsOf Qi (Qw o n))] (slp 2 (Qw o n)) (slp 1 (Qw o m)) (OkPw.slp (Vc o n) (Xs o n) 2) (OkPw.slp (Vc o m) (Xs o m) 1) call155 call155 (Zcu _ ad16 c16 b35 b35' _ (Xy o n) mm mm mm) (Zcv _ ad22 c22 b38 b38' _ (Xy o m) mm mm mm)) (yp rfl (.indexAddr rfl rfl (Xt _ _)) (yt rfl rfl rfl Zjx uu sizeOf41 rfl nb rfl ?_))
 refine yn (zr (zp (Pure1.cast (v' := .int .i64 2) (.add rfl rfl) cgd) (zm rfl (zn ?_)))); intro a w h
 replace h : St 48 S w0 [(6, pB b6), (7, .int .i64 0), (8, .slice ad16 ((Qw o n).length) c16), (9, .slice ad22 ((Qw o m).length) c22), (10, .int .i64 0), (11, .int .i64 2), (25, .int .i64 2), (26, .bool true), (28, .int .i64 2), (29, .bool true)] [(b6, bV (Xb (Zl o n m 0 0) (Zl o n m 0 1) (Zl o n m 0 2) (Zl o n m 1 0) (Zl o n m 1 1) (Zl o n m 1 2) (Zl o n m 2 0) (Zl o n m 2 1) 0) 114)] [Row ad22 (cellsOf Qi (Qw o m)), Row ad16 (cellsOf Qi (Qw o n)), SideF] a w := by exact (h.factsSub (by simp)).sub sA
 refine Ze ?_
 refine gC h (zS (zp (Pure1.cast (v' := .bool true) (.lss rfl rfl) cgd) (zn (zs ?_)))); clear h; intro a w h
 refine Zi h rfl ?_
 refine gC h (zk (zs (zb (zS (zm rfl (za rfl (zn (yD Za [0, 1, 2, 3, 5, 6, 9, 4, 7, 8, 10, 11] (Zd kk) (ym rfl rfl (ym rfl rfl (ym rfl rfl (ym rfl rfl (ym rfl rfl (ym rfl rfl (yp rfl (.indexAddr rfl rfl (Vi _ _)) (yf [_, _] rfl rfl call109 (Vn (Qw o n) _ _ 2) ?_)))))))))))))))); clear h; rintro v35 Ψ35 ⟨b35, b35', rfl, rfl⟩
 refine yf [_, _] rfl rfl call109 (Vn (Qw o m) _ _ 2) ?_; rintro v38 Ψ38 ⟨b38, b38', rfl, rfl⟩
 refine yw [_, _] rfl rfl call108 (Vm 155 155 [.pointer (some ⟨b35, 0, none⟩), .pointer (some ⟨b35', 0, none⟩)] [.pointer (some ⟨b38, 0, none⟩), .pointer (some ⟨b38', 0, none⟩)] [Row (some ⟨b38', 0, none⟩) [.int .i64 2], Row (some ⟨b38, 0, none⟩) [.slice ad22 (Qw o m).length c22], Row (some ⟨b35', 0, none⟩) [.int .i64 2], Row (some ⟨b35, 0, none⟩) [.slice ad16 (Qw o n).length c16], Row ad22 (cellsOf Qi (Qw o m)), Row ad16 (cellsOf Qi (Qw o n))] (slp 2 (Qw o n)) (slp 2 (Qw o m)) (OkPw.slp (Vc o n) (Xs o n) 2) (OkPw.slp (Vc o m) (Xs o m) 2) call155 call155 (Zcu _ ad16 c16 b35 b35' _ (Xy o n) mm mm mm) (Zcu _ ad22 c22 b38 b38' _ (Xy o m) mm mm mm)) (yp rfl (.indexAddr rfl rfl (Yf _ _)) (yt rfl rfl rfl Zjw uu sizeOf41 rfl nb rfl ?_))
 refine yn (zr (zp (Pure1.cast (v' := .int .i64 3) (.add rfl rfl) cgd) (zm rfl (zn ?_)))); intro a w h
 replace h : St 48 S w0 [(6, pB b6), (7, .int .i64 0), (8, .slice ad16 ((Qw o n).length) c16), (9, .slice ad22 ((Qw o m).length) c22), (10, .int .i64 0), (11, .int .i64 2), (25, .int .i64 2), (26, .bool true), (28, .int .i64 3), (29, .bool true)] [(b6, bV (Xb (Zl o n m 0 0) (Zl o n m 0 1) (Zl o n m 0 2) (Zl o n m 1 0) (Zl o n m 1 1) (Zl o n m 1 2) (Zl o n m 2 0) (Zl o n m 2 1) (Zl o n m 2 2)) 114)] [Row ad22 (cellsOf Qi (Qw o m)), Row ad16 (cellsOf Qi (Qw o n)), SideF] a w := by exact (h.factsSub (by simp)).sub sA
 refine Ze ?_
 refine gC h (zS (zp (Pure1.cast (v' := .bool false) (.lss rfl rfl) cgd) (zn (zs ?_)))); clear h; intro a w h
 refine Zf h rfl ?_
 refine gC h (ze (zr (zp (Pure1.cast (v' := .int .i64 3) (.add rfl rfl) cgd) (zm rfl (zn ?_))))); clear h; intro a w h
 replace h : St 48 S w0 [(6, pB b6), (7, .int .i64 0), (8, .slice ad16 ((Qw o n).length) c16), (9, .slice ad22 ((Qw o m).length) c22), (10, .int .i64 0), (25, .int .i64 3), (26, .bool true), (29, .bool false)] [(b6, bV (Xb (Zl o n m 0 0) (Zl o n m 0 1) (Zl o n m 0 2) (Zl o n m 1 0) (Zl o n m 1 1) (Zl o n m 1 2) (Zl o n m 2 0) (Zl o n m 2 1) (Zl o n m 2 2)) 114)] [Row ad22 (cellsOf Qi (Qw o m)), Row ad16 (cellsOf Qi (Qw o n)), SideF] a w := by exact h.sub sA
 refine Ze ?_
 refine gC h (zS (zp (Pure1.cast (v' := .bool false) (.lss rfl rfl) cgd) (zn (zs ?_)))); clear h; intro a w h
 refine Zf h rfl ?_
 refine gC h (ze (zS (zd rfl mr isAgg114 sizeOf114 Zj6 ?_)))
 refine zm rfl (zm rfl (zp (.builtin [_, _] rfl (Zwp)) (zt' rfl rfl Zj3 uu sizeOf114 rfl nb rfl ?_)))
 refine za rfl (zn (zt ?_)); intro a w h
 refine Xd h (Qq h rfl (.cell rfl mr isAgg114 sizeOf114 Zj6) (.tmp rfl)) ?_
 rfl
end
section
theorem Zdb (a : Option Addr) (n c : Nat) (w : World) (ty : TypeId) (cs : Array Bool) : (Go.builtin .len #[194] ty cs #[.slice a n c]).run Tryz.prog w = .ok (.value (.int .i64 n)) w := by
 simp [go_sem]
theorem Zqv (b off n c j : Nat) (h : j < n) (w : World) : (Instr.indexAt 194 (.slice (some ⟨b, off, none⟩) n c) (.int .i64 (j : Int))).run Tryz.prog w = .ok (.pointer (some ⟨b, off + j, none⟩)) w := by
 simpa using Xi runUnderlying194 sizeOf50 b off n c j h w
theorem Qn (a : Option Addr) (n c : Nat) (w : World) (ty : TypeId) (cs : Array Bool) : (Go.builtin .len #[50] ty cs #[.slice a n c]).run Tryz.prog w = .ok (.value (.int .i64 n)) w := by
 simp [go_sem]
theorem Zni (x0 : Option Addr) (x0n : Nat) (x0c : Nat) (x1 : Option Addr) (x1n : Nat) (x1c : Nat) (w : World) : (Instr.buildSlice 194 2 [(0, .slice x0 x0n x0c), (1, .slice x1 x1n x1c)].toArray).run Tryz.prog w = .ok (.slice (some ⟨w.heap.size, 0, none⟩) 2 2) (w.alloc (.cells #[.slice x0 x0n x0c, .slice x1 x1n x1c] 50 (0, 0))) := by
 simp [go_sem]
theorem Zbw (b off n c j : Nat) (h : j < n) (w : World) : (Instr.indexAt 50 (.slice (some ⟨b, off, none⟩) n c) (.int .i64 (j : Int))).run Tryz.prog w = .ok (.pointer (some ⟨b, off + j * 5, none⟩)) w := by
 simpa using Xi runUnderlying50 sizeOf41 b off n c j h w
structure Vs where
 ad : Option Addr
 n : Nat
 c : Nat
structure Mt where
 r : Nat
 c : Nat
 ad : Option Addr
 n : Nat
 cp : Nat
def vs0 : Vs := ⟨none, 0, 0⟩
def mt0 : Mt := ⟨0, 0, none, 0, 0⟩
abbrev Vv (v : Vs) : Value := .slice v.ad v.n v.c
abbrev Zsz (m : Mt) : Value := .agg #[.int .i64 ((m.r : Nat) : Int), .int .i64 ((m.c : Nat) : Int), .slice m.ad m.n m.cp]
def mkL (f : Nat → Rat) (n : Nat) : List Rat := (List.range n).map f
theorem Zbn (f : Nat → Rat) (n : Nat) : (mkL f n).length = n := by simp [mkL]
theorem Zot (f : Nat → Rat) {n i : Nat} (h : i < n) : (mkL f n).getD i 0 = f i := by simp [mkL, List.getD, h]
theorem Qb2 (f : Nat → Rat) (n : Nat) : (mkL f n).foldl (· + ·) 0 = Zdr f n := Zmk f n
theorem Zu7 {f : Nat → Rat} {n : Nat} {x : Rat} (h : x ∈ mkL f n) : ∃ i, i < n ∧ x = f i := by
 obtain ⟨i, hi, rfl⟩ := List.mem_map.1 h
 exact ⟨i, List.mem_range.1 hi, rfl⟩
def Zf2 (f : Nat → Rat) (n i : Nat) : List Rat := mkL f i ++ List.replicate (n - i) 0
theorem Zif (f : Nat → Rat) (n : Nat) : Zf2 f n 0 = List.replicate n 0 := by simp [Zf2, mkL]
theorem Zig (f : Nat → Rat) (n : Nat) : Zf2 f n n = mkL f n := by simp [Zf2]
theorem Zk5 (f : Nat → Rat) {n i : Nat} (h : i ≤ n) : (Zf2 f n i).length = n := by simp [Zf2, Zbn]; omega
theorem Zk4 (f : Nat → Rat) {n i : Nat} (h : i < n) : (Zf2 f n i).set i (f i) = Zf2 f n (i + 1) := by
 unfold Zf2
 have e : n - i = (n - (i + 1)) + 1 := oo
 rw [List.set_append_right _ _ (by rw [Zbn]; exact Nat.le_refl _), Zbn, Nat.sub_self, e, List.replicate_succ, List.set_cons_zero]
 unfold mkL
 rw [List.range_succ, List.map_append, List.append_assoc]; rfl
theorem Qdx (A B : List Rat) (ad ad2 : Option Addr) (c c2 : Nat) (hn : A.length ≤ 1000000) (hAB : A.length = B.length) : Gh Tryz.prog 80 [.slice ad A.length c, .slice ad2 B.length c2] [Row ad (cellsOf Zr A), Row ad2 (cellsOf Zr B)] (.bool (decide (A = B))) := by
 refine fn_intro func80 rfl ntmps80 nb ?_
 intro S w0 a hS h
 refine gC h (zS (za rfl (zn (zs (zS (zm rfl (zp (.builtin [_] rfl (Kd _ _ _)) (zm rfl (zp (.builtin [_] rfl (Kd _ _ _)) (zp (.neq rfl rfl) (zn ?_))))))))))); clear h; intro a w h
 refine cW ?_
 refine Zg h rfl (fun hc10 => (by exfalso; have := bne_iff_ne.1 hc10; omega)) (fun hc10 => ?_)
 refine gC h (zk (zs (zS (zm rfl (zp (.builtin [_] rfl (Kd _ _ _)) (zm rfl (zn (zb ?_)))))))); clear h; intro a w h
 refine Zn (fun (i : Nat) a w => i ≤ A.length ∧ (∀ j, j < i → A.getD j 0 = B.getD j 0) ∧ St 26 S w0 [(0, .slice ad A.length c), (1, .slice ad2 B.length c2), (12, nI A.length), (13, nI i)] [] [Row ad (cellsOf Zr A), Row ad2 (cellsOf Zr B)] a w) (fun i => A.length - i) 0 (⟨Nat.zero_le _, fun j hj => absurd hj oo, by exact (h).sub sA⟩) ?_; clear h
 rintro i a w ⟨hi_i, hinv_i, h⟩
 refine gC h (zS (zp (.lss rfl rfl) (zn (zs ?_)))); clear h; intro a w h
 refine Zg h rfl (fun hc14 => ?_) (fun hc14 => ?_)
 ·
  skip
  have hlt_i : i < A.length := dT hc14
  obtain ⟨B_ad, O_ad, rfl⟩ := h.row_addr (ad := ad) (M := cellsOf Zr A) mm (nE 5)
  obtain ⟨B_ad2, O_ad2, rfl⟩ := h.row_addr (ad := ad2) (M := cellsOf Zr B) mm (nE 5)
  refine gC h (zk (zs (zb (zS (zm rfl (za rfl (zn (zs (yD Za [0, 1, 2, 3, 4, 5, 6, 7, 8] (Zd kk) (ym rfl rfl (ym rfl rfl (yp rfl (.indexAddr rfl rfl (Gn _ _ _ _ _ oo)) ?_)))))))))))); clear h
  refine Zv rfl kk rfl mm (cells_lt (k := 5) dd (fun _ => rfl) A i oo) isAgg41 sizeOf41 (Zq (k := 5) (fun _ => rfl) ((fun _ => rfl)) A 0 i oo) (.inl rfl) dd ?_
  refine ym rfl rfl (ym rfl rfl (yp rfl (.indexAddr rfl rfl (Gn _ _ _ _ _ oo)) ?_))
  refine Zv rfl kk rfl mm (cells_lt (k := 5) dd (fun _ => rfl) B i oo) isAgg41 sizeOf41 (Zq (k := 5) (fun _ => rfl) ((fun _ => rfl)) B 0 i oo) (.inl rfl) dd ?_
  refine yp rfl (.binOp rfl rfl (fun _ => Qbl _ _ (A.getD i 0) (B.getD i 0) _)) ?_
  refine Zfv (fun hc24  => ?_) (fun hc24  => ?_)
  ·
   skip
   refine yn ?_; intro a w h
   refine cW ?_
   refine Zi h rfl ?_
   refine gC h (zS (za rfl (zn (zt ?_)))); clear h; intro a w h
   refine Xd h (Zk h rfl (.tmp rfl)) ?_
   rw [decide_eq_false]; intro e; rw [e] at hc24; simp at hc24
  ·
   skip
   refine yn ?_; intro a w h
   refine cW ?_
   refine Zf h rfl ?_
   refine gC h (zk (zr (zp (.pN (i + 1) (.add rfl rfl)) (zm rfl (zn ?_))))); clear h; intro a w h
   exact ⟨i + 1, ⟨oo, fun j hj => by
    rcases Nat.lt_or_ge j i with h1 | h1
    · exact hinv_i j h1
    · rw [show j = i by omega]; simpa using hc24, (h.factsSub (by simp)).sub sA⟩, oo⟩
 ·
  skip
  have heq_i : A.length = i := dF hc14
  subst heq_i
  refine gC h (ze (zS (za rfl (zn (zt ?_))))); clear h; intro a w h
  refine Xd h (Zk h rfl (.tmp rfl)) ?_
  rw [decide_eq_true (List.ext_getElem hAB (fun j h1 h2 => by have := hinv_i j h1; simpa [List.getD, h1, h2] using this))]
theorem Zz2 (l : List Vs) (ad : Option Addr) (c : Nat) (hl : l.length ≤ 10) (hx : ∀ v ∈ l, v.n ≤ 2048) : Gh Tryz.prog 73 [.slice ad l.length c] [Row ad (List.map Vv l)] (.int .i64 0) := by
 refine fn_intro func73 rfl ntmps73 nb ?_
 intro S w0 a hS h
 refine gC h (zS (za rfl (zn (zs (zS (zm rfl (zp (.builtin [_] rfl (Zdb _ _ _)) (zm rfl (zn (zb ?_)))))))))); clear h; intro a w h
 refine Zn (fun (i : Nat) a w => i ≤ l.length ∧ St 15 S w0 [(5, .slice ad l.length c), (6, nI l.length), (7, nI i)] [] [Row ad (List.map Vv l)] a w) (fun i => l.length - i) 0 (⟨Nat.zero_le _, by exact (h).sub sA⟩) ?_; clear h
 rintro i a w ⟨hi_i, h⟩
 refine gC h (zS (zp (.lss rfl rfl) (zn (zs ?_)))); clear h; intro a w h
 refine Zg h rfl (fun hc8 => ?_) (fun hc8 => ?_)
 ·
  skip
  have hlt_i : i < l.length := dT hc8
  obtain ⟨B_ad, O_ad, rfl⟩ := h.row_addr (ad := ad) (M := List.map Vv l) mm nF
  have hxi := hx _ (getD_mem l (d := vs0) hlt_i)
  refine gC h (zk (zs (zb (zS (zp (.indexAddr rfl rfl (Zqv _ _ _ _ _ oo)) (zD rfl mm (by rw [List.length_map]; omega) isAgg50 sizeOf50 (Zy (enc := Vv) (l := l) vs0 oo) (.inr rfl) ?_))))))
  refine za rfl (zn (zS (zm rfl (zp (.builtin [_] rfl (Qn _ _ _)) (zp (.gtr rfl rfl) (zn ?_)))))); intro a w h
  refine cW ?_
  refine Zg h rfl (fun hc13 => (by exfalso; have := of_decide_eq_true hc13; omega)) (fun hc13 => ?_)
  refine gC h (zk (zr (zp (.pN (i + 1) (.add rfl rfl)) (zm rfl (zn ?_))))); clear h; intro a w h
  exact ⟨i + 1, ⟨oo, (h.factsSub (by simp)).sub sA⟩, oo⟩
 ·
  skip
  have heq_i : l.length = i := dF hc8
  subst heq_i
  refine gC h (ze (zS (za rfl (zn (zt ?_))))); clear h; intro a w h
  exact Zdj h
theorem Qde (l : List Vs) (ad : Option Addr) (c n : Nat) (hl : l.length ≤ 10) (hn : n ≤ 2048) (hx : ∀ v ∈ l, v.n = n) : Gh Tryz.prog 164 [.slice ad l.length c] [Row ad (List.map Vv l)] (.int .i64 0) := by
 refine fn_intro func164 rfl ntmps164 nb ?_
 intro S w0 a hS h
 refine gC h (zS (za rfl (zn (zs (zS (zm rfl (zp (.builtin [_] rfl (Zdb _ _ _)) (zm rfl (zn (zb ?_)))))))))); clear h; intro a w h
 refine Zn (fun (i : Nat) a w => i ≤ l.length ∧ St 31 S w0 [(0, .slice ad l.length c), (7, .slice ad l.length c), (8, nI l.length), (9, nI i)] [] [Row ad (List.map Vv l)] a w) (fun i => l.length - i) 0 (⟨Nat.zero_le _, by exact (h).sub sA⟩) ?_; clear h
 rintro i a w ⟨hi_i, h⟩
 refine gC h (zS (zp (.lss rfl rfl) (zn (zs ?_)))); clear h; intro a w h
 refine Zg h rfl (fun hc10 => ?_) (fun hc10 => ?_)
 ·
  skip
  have hlt_i : i < l.length := dT hc10
  obtain ⟨B_ad, O_ad, rfl⟩ := h.row_addr (ad := ad) (M := List.map Vv l) mm nF
  have hxi := hx _ (getD_mem l (d := vs0) hlt_i)
  refine gC h (zk (zs (zb (zS (zp (.indexAddr rfl rfl (Zqv _ _ _ _ _ oo)) (zD rfl mm (by rw [List.length_map]; omega) isAgg50 sizeOf50 (Zy (enc := Vv) (l := l) vs0 oo) (.inr rfl) ?_))))))
  refine za rfl (zn (zS (zm rfl (zp (.builtin [_] rfl (Qn _ _ _)) (zp (.gtr rfl rfl) (zn ?_)))))); intro a w h
  refine cW ?_
  refine Zg h rfl (fun hc15 => (by exfalso; have := of_decide_eq_true hc15; omega)) (fun hc15 => ?_)
  refine gC h (zk (zr (zp (.pN (i + 1) (.add rfl rfl)) (zm rfl (zn ?_))))); clear h; intro a w h
  exact ⟨i + 1, ⟨oo, (h.factsSub (by simp)).sub sA⟩, oo⟩
 ·
  skip
  have heq_i : l.length = i := dF hc10
  subst heq_i
  refine gC h (ze (zs (zS (zm rfl (zp (.builtin [_] rfl (Zdb _ _ _)) (zm rfl (zn (zb ?_)))))))); clear h; intro a w h
  refine Zn (fun (j : Nat) a w => j ≤ l.length ∧ St 31 S w0 [(0, .slice ad l.length c), (7, .slice ad l.length c), (8, nI l.length), (9, nI l.length), (17, .slice ad l.length c), (18, nI l.length), (19, nI j)] [] [Row ad (List.map Vv l)] a w) (fun j => l.length - j) 0 (⟨Nat.zero_le _, by exact (h).sub sA⟩) ?_; clear h
  rintro j a w ⟨hi_j, h⟩
  refine gC h (zS (zp (.lss rfl rfl) (zn (zs ?_)))); clear h; intro a w h
  refine Zg h rfl (fun hc20 => ?_) (fun hc20 => ?_)
  ·
   skip
   have hlt_j : j < l.length := dT hc20
   obtain ⟨B_ad, O_ad, rfl⟩ := h.row_addr (ad := ad) (M := List.map Vv l) mm nF
   have hxi := hx _ (getD_mem l (d := vs0) hlt_j)
   have hx0 := hx _ (getD_mem l (d := vs0) (show 0 < l.length by omega))
   refine gC h (zk (zs (zb (zS (zp (.indexAddr rfl rfl (Zqv _ _ _ _ _ oo)) (zD rfl mm (by rw [List.length_map]; omega) isAgg50 sizeOf50 (Zy (enc := Vv) (l := l) vs0 oo) (.inr rfl) ?_))))))
   refine za rfl (zn (zS (zm rfl (zp (.builtin [_] rfl (Qn _ _ _)) (zm rfl (zp (.indexAddr rfl rfl (Zqv _ _ _ _ 0 oo)) (zD rfl mm (by rw [List.length_map]; omega) isAgg50 sizeOf50 (Zy (enc := Vv) (l := l) vs0 oo) (.inr rfl) ?_)))))))
   refine zp (.builtin [_] rfl (Qn _ _ _)) (zp (.neq rfl rfl) (zn ?_)); intro a w h
   refine cW ?_
   refine Zg h rfl (fun hc29 => (by exfalso; have := bne_iff_ne.1 hc29; omega)) (fun hc29 => ?_)
   refine gC h (zk (zr (zp (.pN (j + 1) (.add rfl rfl)) (zm rfl (zn ?_))))); clear h; intro a w h
   exact ⟨j + 1, ⟨oo, (h.factsSub (by simp)).sub sA⟩, oo⟩
  ·
   skip
   have heq_j : l.length = j := dF hc20
   subst heq_j
   refine gC h (ze (zS (za rfl (zn (zt ?_))))); clear h; intro a w h
   exact Zdj h
theorem Qdk (ad : Option Addr) (c K n : Nat) (l : List Rat) (hl : l.length = n) (hn : n ≤ 100) (hK : K ≤ 9000000) (hx : ∀ x ∈ l, Zu x ≤ K) : Gh Tryz.prog 17 [.slice ad n c] [Row ad (cellsOf Zr l)] (Zr (l.foldl (· + ·) 0)) := by subst hl; exact Qdl ad c K l hn hK hx
theorem Qc4 (g : Nat) (φ : Nat → Rat) (A B : List Rat) (ad ad2 : Option Addr) (c c2 : Nat) (hn : A.length ≤ 2048) (hAB : B.length = A.length) (hg : ∀ args w, (callFunc g args).run Tryz.prog w = .ok (.enter g args) w) (hf : ∀ i, i < A.length → Xm Tryz.prog g [Zr (A.getD i 0), Zr (B.getD i 0)] (Zr (φ i))) : Ctr Tryz.prog 133 [.slice ad A.length c, .slice ad2 A.length c2, .func (.func g) #[] #[]] [Row ad (cellsOf Zr A), Row ad2 (cellsOf Zr B)] (fun v Ψ => ∃ ad' c', v = .tuple #[.slice ad' A.length c', .int .i64 0] ∧ Ψ = [Row ad' (cellsOf Zr (mkL φ A.length))]) := by
 refine fn_intro func133 rfl ntmps133 nb ?_
 intro S w0 a hS h
 refine gC h (zS (za rfl (za rfl (zn (zs (zS (zm rfl (zm rfl (zB [(_, _), (_, _)] rfl (Zni _ _ _ _ _ _) fun b13 => ?_))))))))); clear h; intro a w h
 replace h := h.shareAll hS (List.map Vv ([(⟨ad, A.length, c⟩ : Vs), (⟨ad2, A.length, c2⟩ : Vs)])) rfl
 refine gL h (zw [_] rfl call164 (Qde [(⟨ad, A.length, c⟩ : Vs), (⟨ad2, A.length, c2⟩ : Vs)] _ _ A.length ss oo (fun v hv => by simp only [List.mem_cons, List.not_mem_nil, or_false] at hv; rcases hv with rfl | rfl <;> rfl)) (za rfl (zn (zS (zm rfl (zp (.neq rfl rfl) (zn ?_))))))); clear h; intro a w h
 refine cW ?_
 refine Zg h rfl (fun hc16 => (absurd hc16 dd)) (fun hc16 => ?_)
 refine gC h (zk (zS (zm rfl (zp (.builtin [_] rfl (Qn _ _ _)) ?_)))); clear h; intro a w h
 refine Zc (Jz h rfl rfl runUnderlying50 typeInfo41 sizeOf41 Ju rfl dd oo (by show 56 * (A.length) ≤ 281474976710656; omega) oo dd ?_); clear h; intro b20 a w h; replace h := h.same rfl (by rw [← Yw (enc := Zr)]) rfl
 refine gL h (za rfl (zn (zs (zS (zm rfl (zp (.builtin [_] rfl (Qn _ _ _)) (zm rfl (zn (zb ?_))))))))); clear h; intro a w h
 rw [← Zif φ] at h
 refine Zn (fun (i : Nat) a w => i ≤ A.length ∧ St 41 S w0 [(0, .slice ad A.length c), (1, .slice ad2 A.length c2), (2, .func (.func g) #[] #[]), (6, .slice none 0 0), (7, .int .i64 0), (9, .slice (some ⟨b20, 0, none⟩) A.length A.length), (22, nI A.length), (23, nI i)] [(b20, .cells (cellsOf Zr (Zf2 φ A.length i)).toArray 41 (0, 0))] [Row (some ⟨b13, 0, none⟩) (List.map Vv ([(⟨ad, A.length, c⟩ : Vs), (⟨ad2, A.length, c2⟩ : Vs)])), Row ad (cellsOf Zr A), Row ad2 (cellsOf Zr B)] a w) (fun i => A.length - i) 0 (⟨Nat.zero_le _, by exact (h).sub sA⟩) ?_; clear h
 rintro i a w ⟨hi_i, h⟩
 refine gC h (zS (zp (.lss rfl rfl) (zn (zs ?_)))); clear h; intro a w h
 refine Zg h rfl (fun hc24 => ?_) (fun hc24 => ?_)
 ·
  skip
  have hlt_i : i < A.length := dT hc24
  obtain ⟨B_ad, O_ad, rfl⟩ := h.row_addr (ad := ad) (M := cellsOf Zr A) mm (nE 5)
  obtain ⟨B_ad2, O_ad2, rfl⟩ := h.row_addr (ad := ad2) (M := cellsOf Zr B) mm (nE 5)
  have hpl := Zk5 φ (show i ≤ A.length by omega)
  refine gC h (zk (zs (zb (zS (zm rfl (za rfl (zn (yD Za [0, 1, 2, 3, 4, 5, 6, 7, 8, 9, 10, 11, 12, 13] (Zd kk) (ym rfl rfl (ym rfl rfl (ym rfl rfl (ym rfl rfl (ym rfl rfl (yp rfl (.indexAddr rfl rfl (Zbw _ _ _ _ _ oo)) ?_)))))))))))))); clear h
  refine Zv rfl kk rfl mm (cells_lt (k := 5) dd (fun _ => rfl) A i oo) isAgg41 sizeOf41 (Zq (k := 5) (fun _ => rfl) ((fun _ => rfl)) A 0 i oo) (.inl rfl) dd ?_
  refine ym rfl rfl (ym rfl rfl (yp rfl (.indexAddr rfl rfl (Zbw _ _ _ _ _ oo)) ?_))
  refine Zv rfl kk rfl mm (cells_lt (k := 5) dd (fun _ => rfl) B i oo) isAgg41 sizeOf41 (Zq (k := 5) (fun _ => rfl) ((fun _ => rfl)) B 0 i oo) (.inl rfl) dd ?_
  refine Zbo rfl kk (fs := []) (cs := []) rfl (vs := [_, _]) rfl hg (Zwd (hf i hlt_i) []) ss dd ?_
  refine yp rfl (.indexAddr rfl rfl (Zbw _ _ _ _ _ oo)) ?_
  refine Za8 (b := b20) (cs := (cellsOf Zr (Zf2 φ A.length i)).toArray) (cs' := (cellsOf Zr ((Zf2 φ A.length i).set i (φ i))).toArray) (v := Zr (φ i)) rfl kk rfl rfl (Yh (k := 5) (fun _ => rfl) (Zf2 φ A.length i) i oo (φ i)) uu sizeOf41 rfl (Km (k := 5) (fun _ => rfl) (Zf2 φ A.length i) i oo) rfl ?_
  refine yn (zr (zp (.pN (i + 1) (.add rfl rfl)) (zm rfl (zn ?_)))); intro a w h
  rw [Zk4 φ hlt_i] at h
  exact ⟨i + 1, ⟨oo, (h.factsSub (by simp)).sub sA⟩, oo⟩
 ·
  skip
  have heq_i : A.length = i := dF hc24
  subst heq_i
  rw [Zig] at h
  refine gC h (ze (zS (zm rfl ?_))); clear h; intro a w h
  replace h := h.shareAll hS (cellsOf Zr (mkL φ A.length)) rfl
  refine gL h (za rfl (za rfl (zn (zt ?_)))); clear h; intro a w h
  refine Xr (Ψ := [Row (some ⟨b20, 0, none⟩) (cellsOf Zr (mkL φ A.length))]) h (Qq h rfl (.tmp rfl) (.tmp rfl)) ?_ ss
  exact ⟨some ⟨b20, 0, none⟩, A.length, rfl, rfl⟩
theorem C_vDot (A B : List Rat) (ad ad2 : Option Addr) (c c2 K : Nat) (hn : A.length ≤ 100) (hAB : B.length = A.length) (hA : ∀ x ∈ A, Zu x ≤ K) (hB : ∀ x ∈ B, Zu x ≤ K) (hK : 2 * K ≤ 9000000) : Gh Tryz.prog 74 [.slice ad A.length c, .slice ad2 A.length c2] [Row ad (cellsOf Zr A), Row ad2 (cellsOf Zr B)] (.tuple #[Zr (Zdr (fun i => A.getD i 0 * B.getD i 0) A.length), .int .i64 0]) := by
 have hml := Zbn (fun i => A.getD i 0 * B.getD i 0) A.length
 have hb : ∀ i, i < A.length → Zu (A.getD i 0) ≤ K ∧ Zu (B.getD i 0) ≤ K := fun i hi => ⟨hA _ (getD_mem A hi), hB _ (getD_mem B oo)⟩
 have hlm := fun i => Zm (A.getD i 0) (B.getD i 0)
 refine fn_intro func74 rfl ntmps74 nb ?_
 intro S w0 a hS h
 refine gC h (zS (zz Ju fun b4 => za rfl (zn (zS (zm rfl (zm rfl (zf [_, _, _] rfl call133 (Qc4 18 (fun i => A.getD i 0 * B.getD i 0) A B ad ad2 c c2 oo hAB call18 (fun i hi => Jc _ _ (by have := hb i hi; omega) (by have := hb i hi; omega))) ?_))))))); rintro v11 Ψ11 ⟨ad11, c11, rfl, rfl⟩
 refine zm rfl (zp (.eX rfl) (zp (.eX rfl) (za rfl (za rfl (zn (zS (zm rfl (zw [_] rfl call17 (Qdk ad11 c11 (2 * K) A.length (mkL (fun i => A.getD i 0 * B.getD i 0) A.length) hml hn hK (fun x hx => by obtain ⟨i, hi, rfl⟩ := Zu7 hx; have := hb i hi; have := hlm i; omega)) (zm rfl (zt' rfl rfl Zp uu sizeOf41 rfl nb rfl ?_))))))))))
 refine za rfl (zn (zt ?_)); intro a w h
 refine Xd h (Qq h rfl (.cell rfl mr isAgg41 sizeOf41 Zh) (.tmp rfl)) ?_
 rw [Qb2]
 rfl
theorem Qdn : Xm Tryz.prog 83 [Zr 0] (Zr 0) := by
 refine fn_intro func83 rfl ntmps83 nb ?_
 intro S w0 a hS h
 refine gC h (zS (zx rfl fun b1 => zz Ju fun b2 => zn (zs (yD Za [0, 1, 4, 5, 2, 3, 6, 7] (Zd kk) (yp rfl (.fA rfl Yv) (yd rfl rfl mr isAgg39 sizeOf39 Xx ?_)))))); clear h
 refine yp rfl (.fA rfl Zd3) (yd rfl rfl mr isAgg35 sizeOf35 Zb2 ?_)
 refine yv [_] rfl rfl call117 (Zrg (0 : Rat).num) (yv [_, _] rfl rfl call121 (Zec false (0 : Rat).num.natAbs) (yp rfl (.build [(_, _), (_, _)] rfl (Zje _ _ _ _ _)) (yt rfl rfl rfl Zp uu sizeOf41 rfl nb rfl ?_)))
 refine yn (zt ?_); intro a w h
 refine Xd h (Zk h rfl (.cell rfl mr isAgg41 sizeOf41 Zh)) ?_
 rfl
theorem Zwy (A : List Rat) (ad : Option Addr) (c : Nat) (hn : A.length ≤ 1000) (hz : ∀ i, i < A.length → A.getD i 0 = 0) : Gh Tryz.prog 31 [.slice ad A.length c] [Row ad (cellsOf Zr A)] (Zr 0) := by
 have hl0 := Vh
 refine fn_intro func31 rfl ntmps31 nb ?_
 intro S w0 a hS h
 refine gC h (zS (zz Ju fun b2 => zn (zs (zS (zm rfl (zp (.builtin [_] rfl (Qn _ _ _)) (zm rfl (zn (zb ?_))))))))); clear h; intro a w h
 refine Zn (fun (i : Nat) a w => i ≤ A.length ∧ St 20 S w0 [(2, pB b2), (5, .slice ad A.length c), (6, nI A.length), (7, nI i)] [(b2, bV (Zr (0)) 41)] [Row ad (cellsOf Zr A)] a w) (fun i => A.length - i) 0 (⟨Nat.zero_le _, by exact (h).sub sA⟩) ?_; clear h
 rintro i a w ⟨hi_i, h⟩
 refine gC h (zS (zp (.lss rfl rfl) (zn (zs ?_)))); clear h; intro a w h
 refine Zg h rfl (fun hc8 => ?_) (fun hc8 => ?_)
 ·
  skip
  have hlt_i : i < A.length := dT hc8
  obtain ⟨B_ad, O_ad, rfl⟩ := h.row_addr (ad := ad) (M := cellsOf Zr A) mm (nE 5)
  refine gC h (zk (zs (zb (zS (zp (.indexAddr rfl rfl (Zbw _ _ _ _ _ oo)) (zD rfl mm (cells_lt (k := 5) dd (fun _ => rfl) A i oo) isAgg41 sizeOf41 (Zq (k := 5) (fun _ => rfl) ((fun _ => rfl)) A 0 i oo) (.inl rfl) ?_)))))); clear h; intro a w h
  rw [hz i hlt_i] at h
  refine gL h (zz Ju fun b4 => zt' rfl rfl Zp uu sizeOf41 rfl nb rfl ?_)
  refine zn (zS (zd rfl mr isAgg41 sizeOf41 Zh ?_))
  refine zv [_] rfl call83 (Qdn) (zt' rfl rfl Zp uu sizeOf41 rfl nb rfl ?_)
  refine zn (zS (zd rfl mr isAgg41 sizeOf41 Zh ?_))
  refine zd rfl mr isAgg41 sizeOf41 Zh ?_
  refine zv [_, _] rfl call84 (C_QCmp 0 0 oo oo) (zp (.gtr rfl rfl) (zn ?_)); intro a w h
  refine cW ?_
  refine Zg h rfl (fun hc16 => (absurd hc16 kD)) (fun hc16 => ?_)
  refine gC h (zk (zr (zp (.pN (i + 1) (.add rfl rfl)) (zm rfl (zn ?_))))); clear h; intro a w h
  exact ⟨i + 1, ⟨oo, ((h.drop sl).factsSub (by simp)).sub sA⟩, oo⟩
 ·
  skip
  have heq_i : A.length = i := dF hc8
  subst heq_i
  refine gC h (ze (zS (zd rfl mr isAgg41 sizeOf41 Zh ?_)))
  refine zt' rfl rfl Zp uu sizeOf41 rfl nb rfl ?_; intro a w h
  refine wpList_nil (wp_ret ?_)
  refine Xd h (Zk h rfl (.cell rfl mr isAgg41 sizeOf41 Zh)) ?_
  rfl
end
section
theorem Zbq {b off : Nat} (w : World) : (Instr.fieldAt 57 (.pointer (some ⟨b, off, none⟩)) 0).run Tryz.prog w = .ok (.pointer (some ⟨b, off + 0, none⟩)) w := by
 simp [go_sem]
theorem Gp {b off : Nat} (w : World) : (Instr.fieldAt 57 (.pointer (some ⟨b, off, none⟩)) 1).run Tryz.prog w = .ok (.pointer (some ⟨b, off + 1, none⟩)) w := by
 simp [go_sem]
theorem Jx {b off : Nat} (w : World) : (Instr.fieldAt 57 (.pointer (some ⟨b, off, none⟩)) 2).run Tryz.prog w = .ok (.pointer (some ⟨b, off + 2, none⟩)) w := by
 simp [go_sem]
theorem Zlc (a : Option Addr) (n c : Nat) (w : World) (ty : TypeId) (cs : Array Bool) : (Go.builtin .len #[196] ty cs #[.slice a n c]).run Tryz.prog w = .ok (.value (.int .i64 n)) w := by
 simp [go_sem]
theorem ix_196 (b off n c j : Nat) (h : j < n) (w : World) : (Instr.indexAt 196 (.slice (some ⟨b, off, none⟩) n c) (.int .i64 (j : Int))).run Tryz.prog w = .ok (.pointer (some ⟨b, off + j * 3, none⟩)) w := by
 simpa using Xi runUnderlying196 sizeOf57 b off n c j h w
theorem Zpf (x0 : Int) (x1 : Int) (x2 : Option Addr) (x2n : Nat) (x2c : Nat) (w : World) : (Instr.build 57 [(0, .int .i64 x0), (1, .int .i64 x1), (2, .slice x2 x2n x2c)].toArray).run Tryz.prog w = .ok (.agg #[.int .i64 x0, .int .i64 x1, .slice x2 x2n x2c]) w := by simp [go_sem]
def Zl8 (φ : Nat → Nat → Rat) (c : Nat) : Nat → Rat := fun t => φ (t / c) (t % c)
def Za5 (φ : Nat → Nat → Rat) (r c : Nat) : List Rat := mkL (Zl8 φ c) (r * c)
theorem Zb4 (φ : Nat → Nat → Rat) (r c : Nat) : (Za5 φ r c).length = r * c := Zbn _ _
theorem Zkj {r c i k : Nat} (hi : i < r) (hk : k < c) : i * c + k < r * c ∧ c * i + k < r * c ∧ i * c + c ≤ r * c := by
 have h1 := Nat.mul_le_mul_right c hi
 have h2 := Nat.succ_mul i c
 have h3 := Nat.mul_comm c i
 omega
theorem Zu8 (φ : Nat → Nat → Rat) {c i k : Nat} (hk : k < c) : Zl8 φ c (c * i + k) = φ i k := by
 unfold Zl8
 rw [Nat.mul_add_div oo, Nat.div_eq_of_lt hk, Nat.add_zero, Nat.mul_add_mod, Nat.mod_eq_of_lt hk]
theorem Zhl (φ : Nat → Nat → Rat) {r c i k : Nat} (hi : i < r) (hk : k < c) : (Za5 φ r c).getD (i * c + k) 0 = φ i k := by
 unfold Za5
 rw [Zot _ (Zkj hi hk).1, Nat.mul_comm i c, Zu8 φ hk]
theorem Zke {φ ψ : Nat → Nat → Rat} {r c : Nat} (h : ∀ i, i < r → ∀ k, k < c → φ i k = ψ i k) : Za5 φ r c = Za5 ψ r c := by
  unfold Za5 mkL
  refine List.map_congr_left fun t ht => ?_
  have h1 := List.mem_range.1 ht
  have hc : 0 < c := by rcases Nat.eq_zero_or_pos c with e | e; · subst e; simp at h1
                        · exact e
  exact h _ (Nat.div_lt_of_lt_mul (by rw [Nat.mul_comm]; exact h1)) _ (Nat.mod_lt _ hc)
theorem Zhk {φ : Nat → Nat → Rat} {r c : Nat} {x : Rat} (h : x ∈ Za5 φ r c) : ∃ i k, i < r ∧ k < c ∧ x = φ i k := by
  obtain ⟨t, h1, rfl⟩ := Zu7 h
  have hc : 0 < c := by rcases Nat.eq_zero_or_pos c with e | e; · subst e; simp at h1
                        · exact e
  exact ⟨t / c, t % c, Nat.div_lt_of_lt_mul (by rw [Nat.mul_comm]; exact h1), Nat.mod_lt _ hc, rfl⟩
theorem slice3 (b off n c lo hi mx : Nat) (h1 : lo ≤ hi) (h2 : hi ≤ mx) (h3 : mx ≤ c) (h4 : lo < mx) (w : World) : (Instr.sliceAt 49 (.slice (some ⟨b, off, none⟩) n c) (some (.int .i64 (lo : Int))) (some (.int .i64 (hi : Int))) (some (.int .i64 (mx : Int)))).run Tryz.prog w = .ok (.slice (some ⟨b, off + lo * 5, none⟩) (hi - lo) (mx - lo)) w := by
 have hT := runUnderlying49
 have hk := sizeOf41
 have e : ∀ j : Nat, asIntOf (.int .i64 (j : Int)) = (pure (.i64, (j : Int)) : Sem _) := fun _ => rfl
 have hj : (0 : Int) ≤ (hi : Int) ∧ (hi : Int) ≤ (mx : Int) := oo
 have hl : (0 : Int) ≤ (lo : Int) ∧ (lo : Int) ≤ (hi : Int) := oo
 have hm : (0 : Int) ≤ (mx : Int) ∧ (mx : Int) ≤ (c : Int) := oo
 have hne : mx ≠ lo := oo
 unfold Instr.sliceAt
 simp only [Sem.run_bind, hT, Result.andThen, Instr.slice, Instr.sliceBounds, Instr.sliceBound, e, Sem.run_pure, hj, hl, hm, and_self, if_true, hk, Int.toNat_natCast, if_neg hne, Option.map_some, Za2]
theorem Zw0 (r c : Nat) (hr : r ≤ 40) (hc : c ≤ 40) : Xm Tryz.prog 132 [.int .i64 ((r : Nat) : Int), .int .i64 ((c : Nat) : Int)] (.int .i64 0) := by
 refine fn_intro func132 rfl ntmps132 nb ?_
 intro S w0 a hS h
 refine gC h (zS (za rfl (zn (zs (zb (zS (zm rfl (zp (.lss rfl rfl) ?_)))))))); clear h; intro a w h
 refine Qp h (fun hc7 h => (by exfalso; have := of_decide_eq_true hc7; omega)) (fun hc7 h => ?_)
 refine gL h (zm rfl (zq 8 rfl rfl (.move rfl) (zq 8 rfl rfl (.lss rfl rfl) ?_))); clear h; intro a w h
 refine Qp h (fun hc10 h => (by exfalso; have := of_decide_eq_true hc10; omega)) (fun hc10 h => ?_)
 refine gL h (zp (.pickF rfl rfl) (za rfl (zn ?_))); clear h; intro a w h
 refine cW ?_
 refine Zf h rfl ?_
 refine gC h (zS (zm rfl (zp (.gtr rfl rfl) ?_))); clear h; intro a w h
 refine Qp h (fun hc14 h => (by exfalso; have := of_decide_eq_true hc14; omega)) (fun hc14 h => ?_)
 refine gL h (zm rfl (zq 15 rfl rfl (.move rfl) (zq 15 rfl rfl (.gtr rfl rfl) ?_))); clear h; intro a w h
 refine Qp h (fun hc17 h => (by exfalso; have := of_decide_eq_true hc17; omega)) (fun hc17 h => ?_)
 refine gL h (zp (.pickF rfl rfl) (za rfl (zn ?_))); clear h; intro a w h
 refine cW ?_
 refine Zf h rfl ?_
 refine gC h (zk (zS (za rfl (zn (zt ?_))))); clear h; intro a w h
 exact Zdj h
theorem Qd2 (r c : Nat) (ad : Option Addr) (n cp : Nat) (hr : r ≤ 40) (hc : c ≤ 40) (hn : n = r * c) : Xm Tryz.prog 72 [.agg #[.int .i64 ((r : Nat) : Int), .int .i64 ((c : Nat) : Int), .slice ad n cp]] (.int .i64 0) := by
 have hrc : r * c ≤ 1600 := Nat.mul_le_mul hr hc
 refine fn_intro func72 rfl ntmps72 nb ?_
 intro S w0 a hS h
 refine gC h (zS (zx rfl fun b1 => za rfl (zn (zs (zS (zp (.fA rfl Zbq) (zd rfl mr isAgg3 sizeOf3 Zbk ?_)))))))
 refine zp (.fA rfl Gp) (zd rfl mr isAgg3 sizeOf3 Gq ?_)
 refine zv [_, _] rfl call132 (Zw0 r c hr hc) (za rfl (zn (zS (zm rfl (zp (.neq rfl rfl) (zn ?_)))))); intro a w h
 refine cW ?_
 refine Zg h rfl (fun hc10 => (absurd hc10 dd)) (fun hc10 => ?_)
 refine gC h (zk (zs (zS (zp (.fA rfl Jx) (zd rfl mr isAgg49 sizeOf49 Jo ?_)))))
 refine zp (.builtin [_] rfl (Kd _ _ _)) (zp (.fA rfl Zbq) (zd rfl mr isAgg3 sizeOf3 Zbk ?_))
 refine zp (.fA rfl Gp) (zd rfl mr isAgg3 sizeOf3 Gq ?_)
 refine zp (.pN (r * c) (.mul rfl rfl)) (zp (.neq rfl rfl) (zn ?_)); intro a w h
 refine cW ?_
 refine Zg h rfl (fun hc20 => (by exfalso; have := bne_iff_ne.1 hc20; omega)) (fun hc20 => ?_)
 refine gC h (zk (zS (za rfl (zn (zt ?_))))); clear h; intro a w h
 exact Zdj h
theorem Qa1 (l : List Mt) (ad : Option Addr) (c : Nat) (hl : l.length ≤ 10) (hx : ∀ m ∈ l, m.r ≤ 40 ∧ m.c ≤ 40 ∧ m.n = m.r * m.c) : Gh Tryz.prog 81 [.slice ad l.length c] [Row ad (cellsOf Zsz l)] (.int .i64 0) := by
 refine fn_intro func81 rfl ntmps81 nb ?_
 intro S w0 a hS h
 refine gC h (zS (za rfl (zn (zs (zS (zm rfl (zp (.builtin [_] rfl (Zlc _ _ _)) (zm rfl (zn (zb ?_)))))))))); clear h; intro a w h
 refine Zn (fun (i : Nat) a w => i ≤ l.length ∧ St 18 S w0 [(6, .slice ad l.length c), (7, nI l.length), (8, nI i)] [] [Row ad (cellsOf Zsz l)] a w) (fun i => l.length - i) 0 (⟨Nat.zero_le _, by exact (h).sub sA⟩) ?_; clear h
 rintro i a w ⟨hi_i, h⟩
 refine gC h (zS (zp (.lss rfl rfl) (zn (zs ?_)))); clear h; intro a w h
 refine Zg h rfl (fun hc9 => ?_) (fun hc9 => ?_)
 ·
  skip
  have hlt_i : i < l.length := dT hc9
  obtain ⟨B_ad, O_ad, rfl⟩ := h.row_addr (ad := ad) (M := cellsOf Zsz l) mm (nE 3)
  have hxi := hx _ (getD_mem l (d := mt0) hlt_i)
  refine gC h (zk (zs (zb (zS (zp (.indexAddr rfl rfl (ix_196 _ _ _ _ _ oo)) (zD rfl mm (cells_lt (k := 3) dd (fun _ => rfl) l i oo) isAgg57 sizeOf57 (Zq (k := 3) (fun _ => rfl) ((fun _ => rfl)) l mt0 i oo) (.inl rfl) ?_))))))
  refine zz zeroValue57 fun b4 => zt' rfl rfl Qt uu sizeOf57 rfl nb rfl ?_
  refine zn (zS (zd rfl mr isAgg57 sizeOf57 Qa ?_))
  refine zv [_] rfl call72 (Qd2 _ _ _ _ _ hxi.1 hxi.2.1 hxi.2.2) (za rfl (zn (zS (zm rfl (zp (.neq rfl rfl) (zn ?_)))))); intro a w h
  refine cW ?_
  refine Zg h rfl (fun hc15 => (absurd hc15 dd)) (fun hc15 => ?_)
  refine gC h (zk (zr (zp (.pN (i + 1) (.add rfl rfl)) (zm rfl (zn ?_))))); clear h; intro a w h
  exact ⟨i + 1, ⟨oo, ((h.drop sl).factsSub (by simp)).sub sA⟩, oo⟩
 ·
  skip
  have heq_i : l.length = i := dF hc9
  subst heq_i
  refine gC h (ze (zS (za rfl (zn (zt ?_))))); clear h; intro a w h
  exact Zdj h
theorem C_row (r c i b o n cp : Nat) (hr : r ≤ 40) (hc : c ≤ 40) (hi : i < r) (hc0 : 0 < c) (hcp : cp = r * c) : Xm Tryz.prog 82 [.agg #[.int .i64 ((r : Nat) : Int), .int .i64 ((c : Nat) : Int), .slice (some ⟨b, o, none⟩) n cp], .int .i64 ((i : Nat) : Int)] (.slice (some ⟨b, o + i * c * 5, none⟩) c c) := by
 have hrc : r * c ≤ 1600 := Nat.mul_le_mul hr hc
 obtain ⟨_, _, hle⟩ := Zkj hi hc0
 have hsm : (i + 1) * c = i * c + c := Nat.succ_mul i c
 refine fn_intro func82 rfl ntmps82 nb ?_
 intro S w0 a hS h
 refine gC h (zS (zx rfl fun b2 => za rfl (zn (zs (yD Za [0, 1, 2, 3, 4, 5, 6, 7, 8, 9, 10] (Zd kk) (ym rfl rfl (yp rfl (.fA rfl Gp) (yd rfl rfl mr isAgg3 sizeOf3 Gq ?_)))))))); clear h
 refine yp rfl (.pN (i * c) (.mul rfl rfl)) (ym rfl rfl (yp rfl (.pN (i + 1) (.add rfl rfl)) (yp rfl (.fA rfl Gp) (yd rfl rfl mr isAgg3 sizeOf3 Gq ?_))))
 refine yp rfl (.pN ((i + 1) * c) (.mul rfl rfl)) (yp rfl (.assign rfl) (yp rfl (.assign rfl) (yn (zS (zp (.fA rfl Jx) (zd rfl mr isAgg49 sizeOf49 Jo ?_))))))
 refine zm rfl (zm rfl (zm rfl (zp (Pure1.cast (v' := .slice (some ⟨b, o + i * c * 5, none⟩) c c) (.slice rfl (some _) (some _) (some _) rfl rfl rfl (slice3 b o n cp (i * c) ((i + 1) * c) ((i + 1) * c) oo oo oo oo)) (by rw [hsm, Nat.add_sub_cancel_left])) (za rfl (zn (zt ?_)))))); intro a w h
 exact Zdj h
theorem C_mat (r c i k : Nat) (A : List Rat) (ad : Option Addr) (n cp : Nat) (hr : r ≤ 40) (hc : c ≤ 40) (hA : A.length = r * c) (hn : n = r * c) (hi : i < r) (hk : k < c) : Gh Tryz.prog 112 [.agg #[.int .i64 ((r : Nat) : Int), .int .i64 ((c : Nat) : Int), .slice ad n cp], .int .i64 ((i : Nat) : Int), .int .i64 ((k : Nat) : Int)] [Row ad (cellsOf Zr A)] (Zr (A.getD (i * c + k) 0)) := by
 have hrc : r * c ≤ 1600 := Nat.mul_le_mul hr hc
 obtain ⟨hlt, _, hle⟩ := Zkj hi hk
 refine fn_intro func112 rfl ntmps112 nb ?_
 intro S w0 a hS h
 obtain ⟨B_ad, O_ad, rfl⟩ := h.row_addr (ad := ad) (M := cellsOf Zr A) mm (nE 5)
 refine gC h (zS (zx rfl fun b3 => zz Ju fun b6 => zn (zS (zp (.fA rfl Jx) (zd rfl mr isAgg49 sizeOf49 Jo ?_)))))
 refine zm rfl (zp (.fA rfl Gp) (zd rfl mr isAgg3 sizeOf3 Gq ?_))
 refine zp (.pN (i * c) (.mul rfl rfl)) (zm rfl (zp (.pN ((i * c) + k) (.add rfl rfl)) (zp (.indexAddr rfl rfl (Gn _ _ _ _ _ oo)) (zD rfl mm (cells_lt (k := 5) dd (fun _ => rfl) A ((i * c) + k) oo) isAgg41 sizeOf41 (Zq (k := 5) (fun _ => rfl) ((fun _ => rfl)) A 0 ((i * c) + k) oo) (.inl rfl) ?_))))
 refine zt' rfl rfl Zp uu sizeOf41 rfl nb rfl ?_; intro a w h
 refine wpList_nil (wp_ret ?_)
 refine Xd h (Zk h rfl (.cell rfl mr isAgg41 sizeOf41 Zh)) ?_
 rfl
theorem Qco (X Y : Operand) (g : Nat) (cs : Array Value) (w : World) : (do eqGuard .eql 119 X Y (.func (.func g) #[] cs) .nilFunc; Go.binOp .eql 119 (.func (.func g) #[] cs) .nilFunc : Sem Value).run Tryz.prog w = .ok (.bool false) w := by
 simp [go_sem]
 unfold Go.binOp Op.equal
 rw [show Op.maxDepth = 9999 + 1 from rfl]
 unfold Op.equalIn
 simp [go_sem]
set_option maxHeartbeats 1000000 in
theorem Qa7 (g : Nat) (cs : List Value) (Φ : List Qf) (φ : Nat → Nat → Rat) (r c : Nat) (hr : r ≤ 40) (hc : c ≤ 40) (hr0 : 0 < r) (hc0 : 0 < c) (hg : ∀ args w, (callFunc g args).run Tryz.prog w = .ok (.enter g args) w)
  (hf : ∀ i, i < r → ∀ k, k < c → Gh Tryz.prog g ([.int .i64 ((i : Nat) : Int), .int .i64 ((k : Nat) : Int)] ++ cs) Φ (Zr (φ i k))) : Ctr Tryz.prog 107 [.int .i64 ((r : Nat) : Int), .int .i64 ((c : Nat) : Int), .func (.func g) #[] cs.toArray] Φ (fun v Ψ => ∃ ad', v = .tuple #[.agg #[.int .i64 ((r : Nat) : Int), .int .i64 ((c : Nat) : Int), .slice ad' (r * c) (r * c)], .int .i64 0] ∧ Ψ = [Row ad' (cellsOf Zr (Za5 φ r c))]) := by
 have hrc : r * c ≤ 1600 := Nat.mul_le_mul hr hc
 refine fn_intro func107 rfl ntmps107 nb ?_
 intro S w0 a hS h
 refine gC h (zS (zz zeroValue57 fun b6 => za rfl (zn (zs (zS (zm rfl (zm rfl (zv [_, _] rfl call132 (Zw0 r c hr hc) (za rfl (zn (zS (zm rfl (zp (.neq rfl rfl) (zn ?_)))))))))))))); clear h; intro a w h
 refine cW ?_
 refine Zg h rfl (fun hc17 => (absurd hc17 dd)) (fun hc17 => ?_)
 refine gC h (zk (zS (zm rfl (zm rfl (zm rfl (zm rfl (zp (.pN (r * c) (.mul rfl rfl)) ?_))))))); clear h; intro a w h
 refine Zc (Jz h rfl rfl runUnderlying49 typeInfo41 sizeOf41 Ju rfl dd oo (by show 56 * (r * c) ≤ 281474976710656; omega) oo dd ?_); clear h; intro b25 a w h; replace h := h.same rfl (by rw [← Yw (enc := Zr)]) rfl
 refine gL h (zp (.build [(_, _), (_, _), (_, _)] rfl (Zpf _ _ _ _ _)) (zz zeroValue57 fun b9 => zt' rfl rfl Qt uu sizeOf57 rfl nb rfl ?_))
 refine zn (zs (zS (zm rfl (zp (.binOp rfl rfl (Qco _ _ _ _)) ?_)))); intro a w h
 refine Qp h (fun hc28 h => (absurd hc28 dd)) (fun hc28 h => ?_)
 refine wpList_nil ?_
 refine cW ?_
 refine Zf h rfl ?_
 refine gC h (zk (zs (zS (zm rfl (zm rfl (zn (zb ?_))))))); clear h; intro a w h
 rw [← Zif (Zl8 φ c)] at h
 refine Zn (fun (i : Nat) a w => i ≤ r ∧ St 51 S w0 [(1, nI c), (2, .func (.func g) #[] cs.toArray), (6, pB b6), (7, .int .i64 0), (9, pB b9), (30, nI r), (31, nI i)] [(b9, bV (.agg #[.int .i64 ((r : Nat) : Int), .int .i64 ((c : Nat) : Int), .slice (some ⟨b25, 0, none⟩) (r * c) (r * c)]) 57), (b25, .cells (cellsOf Zr (Zf2 (Zl8 φ c) (r * c) (c * i))).toArray 41 (0, 0)), (b6, bV (.agg #[.int .i64 0, .int .i64 0, .slice none 0 0]) 57)] (Φ) a w) (fun i => r - i) 0 (⟨Nat.zero_le _, by exact (h).sub sA⟩) ?_; clear h
 rintro i a w ⟨hi_i, h⟩
 refine gC h (zS (zp (.lss rfl rfl) (zn (zs ?_)))); clear h; intro a w h
 refine Zg h rfl (fun hc32 => ?_) (fun hc32 => ?_)
 ·
  skip
  have hlt_i : i < r := dT hc32
  refine gC h (zk (zs (zb (zS (zm rfl (za rfl (zn (zS (zd rfl mr isAgg57 sizeOf57 Qa ?_)))))))))
  refine zm rfl (zv [_, _] rfl call82 (C_row r c i b25 0 (r * c) (r * c) hr hc hlt_i hc0 rfl) (za rfl (zn (zS (zm rfl (zm rfl (zn (zb ?_)))))))); intro a w h
  refine Zn (fun (k : Nat) a w => k ≤ c ∧ St 51 S w0 [(1, nI c), (2, .func (.func g) #[] cs.toArray), (6, pB b6), (7, .int .i64 0), (9, pB b9), (10, nI i), (11, .slice (some ⟨b25, 0 + i * c * 5, none⟩) c c), (30, nI r), (31, nI i), (37, nI c), (38, nI k)] [(b9, bV (.agg #[.int .i64 ((r : Nat) : Int), .int .i64 ((c : Nat) : Int), .slice (some ⟨b25, 0, none⟩) (r * c) (r * c)]) 57), (b25, .cells (cellsOf Zr (Zf2 (Zl8 φ c) (r * c) (c * i + k))).toArray 41 (0, 0)), (b6, bV (.agg #[.int .i64 0, .int .i64 0, .slice none 0 0]) 57)] (Φ) a w) (fun k => c - k) 0 (⟨Nat.zero_le _, by exact (h).sub sA⟩) ?_; clear h
  rintro k a w ⟨hi_k, h⟩
  refine gC h (zS (zp (.lss rfl rfl) (zn (zs ?_)))); clear h; intro a w h
  refine Zg h rfl (fun hc39 => ?_) (fun hc39 => ?_)
  ·
   skip
   have hlt_k : k < c := dT hc39
   obtain ⟨hx1, hx2, hx3⟩ := Zkj hlt_i hlt_k
   have hpl := Zk5 (Zl8 φ c) (show c * i + k ≤ r * c by omega)
   have hst : (Zf2 (Zl8 φ c) (r * c) (c * i + k)).set (c * i + k) (φ i k) = Zf2 (Zl8 φ c) (r * c) (c * i + (k + 1)) := by
    have := Zk4 (Zl8 φ c) hx2
    rw [Zu8 φ hlt_k] at this
    exact this
   refine gC h (zk (zs (zb (zS (zm rfl (za rfl (zn (zr (zm rfl (zm rfl (zm rfl (zm rfl (zm rfl ?_))))))))))))); clear h; intro a w h
   refine Zc (Zmv h (fs := []) (cs := cs) rfl (vs := [_, _]) rfl hg (hf i hlt_i k hlt_k) (fun _ hR => by first | exact hR | (repeat (first | exact hR | apply List.Mem.tail))) dd ?_); clear h; intro a w h
   refine gL h (zp (Pure1.cast (v' := .pointer (some ⟨b25, 0 + (c * i + k) * 5, none⟩)) (.indexAddr rfl rfl (Gn _ _ _ _ _ oo)) (by show Value.pointer (some ⟨_, 0 + i * c * 5 + k * 5, none⟩) = Value.pointer (some ⟨_, 0 + (c * i + k) * 5, none⟩); rw [Nat.mul_comm c i, Nat.add_mul, Nat.zero_add, Nat.zero_add])) (zt' (b := b25) (cs := (cellsOf Zr (Zf2 (Zl8 φ c) (r * c) (c * i + k))).toArray) (cs' := (cellsOf Zr ((Zf2 (Zl8 φ c) (r * c) (c * i + k)).set (c * i + k) (φ i k))).toArray) (v := Zr (φ i k)) rfl rfl (Yh (k := 5) (fun _ => rfl) (Zf2 (Zl8 φ c) (r * c) (c * i + k)) (c * i + k) oo (φ i k)) uu sizeOf41 rfl (Km (k := 5) (fun _ => rfl) (Zf2 (Zl8 φ c) (r * c) (c * i + k)) (c * i + k) oo) rfl ?_))
   refine zn (zr (zp (.pN (k + 1) (.add rfl rfl)) (zm rfl (zn ?_)))); intro a w h
   rw [hst] at h
   exact ⟨k + 1, ⟨oo, h.sub sA⟩, oo⟩
  ·
   skip
   have heq_k : c = k := dF hc39
   subst heq_k
   refine gC h (ze (zr (zp (.pN (i + 1) (.add rfl rfl)) (zm rfl (zn ?_))))); clear h; intro a w h
   rw [show c * i + c = c * (i + 1) from rfl] at h
   exact ⟨i + 1, ⟨oo, h.sub sA⟩, oo⟩
 ·
  skip
  have heq_i : r = i := dF hc32
  subst heq_i
  rw [show Zf2 (Zl8 φ c) (r * c) (c * r) = mkL (Zl8 φ c) (r * c) from by rw [Nat.mul_comm c r, Zig]] at h
  refine gC h (ze (zS (zd rfl mr isAgg57 sizeOf57 Qa ?_))); clear h; intro a w h
  replace h := (h.perm (List.Perm.trans (pm_cc (List.Perm.refl _)) (List.Perm.cons _ (List.Perm.refl _))).symm).shareAll hS (cellsOf Zr (mkL (Zl8 φ c) (r * c))) rfl
  refine gL h (zt' rfl rfl Qt uu sizeOf57 rfl nb rfl ?_)
  refine za rfl (zn (zt ?_)); intro a w h
  refine Xr (Ψ := [Row (some ⟨b25, 0, none⟩) (cellsOf Zr (mkL (Zl8 φ c) (r * c)))]) h (Qq h rfl (.cell rfl mr isAgg57 sizeOf57 Qa) (.tmp rfl)) ?_ ss
  exact ⟨some ⟨b25, 0, none⟩, rfl, rfl⟩
end
section
theorem Qae (A B : List Rat) (ad ad2 : Option Addr) (c c2 n : Nat) (hn : n ≤ 1000000) (hA : A.length = n) (hB : B.length = n) : Gh Tryz.prog 80 [.slice ad n c, .slice ad2 n c2] [Row ad (cellsOf Zr A), Row ad2 (cellsOf Zr B)] (.bool (decide (A = B))) := by
 have h := Qdx A B ad ad2 c c2 oo oo
 rw [hB, hA] at h
 exact h
theorem Zw4 (r c : Nat) (A B : List Rat) (ad ad2 : Option Addr) (cp cp2 : Nat) (hr : r ≤ 40) (hc : c ≤ 40) (hA : A.length = r * c) (hB : B.length = r * c) : Gh Tryz.prog 29 [.agg #[.int .i64 ((r : Nat) : Int), .int .i64 ((c : Nat) : Int), .slice ad (r * c) cp], .agg #[.int .i64 ((r : Nat) : Int), .int .i64 ((c : Nat) : Int), .slice ad2 (r * c) cp2]] [Row ad (cellsOf Zr A), Row ad2 (cellsOf Zr B)] (.bool (decide (A = B))) := by
 have hrc : r * c ≤ 1600 := Nat.mul_le_mul hr hc
 refine fn_intro func29 rfl ntmps29 nb ?_
 intro S w0 a hS h
 refine gC h (zS (zx rfl fun b2 => zx rfl fun b3 => za rfl (zn (zS (zp (.fA rfl Zbq) (zd rfl mr isAgg3 sizeOf3 Zbk ?_))))))
 refine zp (.fA rfl Zbq) (zd rfl mr isAgg3 sizeOf3 Zbk ?_)
 refine zp (.eql rfl rfl) ?_; intro a w h
 refine Qp h (fun hc9 h => ?_) (fun hc9 h => (absurd hc9 ss))
 refine gL h (zm rfl (zq 10 rfl rfl (.fA rfl Gp) ?_)); clear h; intro a w h
 refine Zt 10 h rfl rfl (Qd h rfl mr isAgg3 sizeOf3 Gq dd ?_); clear h; intro a h
 refine gL h (zq 10 rfl rfl (.fA rfl Gp) ?_); clear h; intro a w h
 refine Zt 10 h rfl rfl (Qd h rfl mr isAgg3 sizeOf3 Gq dd ?_); clear h; intro a h
 refine gL h (zq 10 rfl rfl (.eql rfl rfl) ?_); clear h; intro a w h
 refine Qp h (fun hc15 h => ?_) (fun hc15 h => (absurd hc15 ss))
 refine gL h (zp (.pickT rfl rfl) (zm rfl (zq 17 rfl rfl (.fA rfl Jx) ?_))); clear h; intro a w h
 refine Zt 17 h rfl rfl (Qd h rfl mr isAgg49 sizeOf49 Jo dd ?_); clear h; intro a h
 refine gL h (zq 17 rfl rfl (.fA rfl Jx) ?_); clear h; intro a w h
 refine Zt 17 h rfl rfl (Qd h rfl mr isAgg49 sizeOf49 Jo dd ?_); clear h; intro a h
 refine Zt 17 h rfl rfl (Yl h (vs := [_, _]) rfl call80 (Qae A B ad ad2 cp cp2 (r * c) oo hA hB) ss dd ?_); clear h; intro a w h
 refine gL h (zp (.pickT rfl rfl) (za rfl (zn (zt ?_)))); clear h; intro a w h
 exact Zdj h
theorem Zz3 (g : Nat) (cs : List Value) (Φ : List Qf) (r c i k b5 b3 b4 : Nat) (A B : List Rat) (ad ad2 : Option Addr) (cp cp2 : Nat) (x : Rat) (hr : r ≤ 40) (hc : c ≤ 40) (hA : A.length = r * c) (hB : B.length = r * c) (hi : i < r) (hk : k < c) (hg : ∀ args w, (callFunc g args).run Tryz.prog w = .ok (.enter g args) w) (hf : Gh Tryz.prog g ([Zr (A.getD (i * c + k) 0), Zr (B.getD (i * c + k) 0)] ++ cs) Φ (Zr x)) : Gh Tryz.prog 135 [.int .i64 ((i : Nat) : Int), .int .i64 ((k : Nat) : Int), .pointer (some ⟨b5, 0, none⟩), .pointer (some ⟨b3, 0, none⟩), .pointer (some ⟨b4, 0, none⟩)] (Row (some ⟨b5, 0, none⟩) [.func (.func g) #[] cs.toArray] :: Row (some ⟨b3, 0, none⟩) (Value.cells (.agg #[.int .i64 ((r : Nat) : Int), .int .i64 ((c : Nat) : Int), .slice ad (r * c) cp])).toList :: Row (some ⟨b4, 0, none⟩) (Value.cells (.agg #[.int .i64 ((r : Nat) : Int), .int .i64 ((c : Nat) : Int), .slice ad2 (r * c) cp2])).toList :: Row ad (cellsOf Zr A) :: Row ad2 (cellsOf Zr B) :: Φ) (Zr x) := by
 refine fn_intro func135 rfl ntmps135 nb ?_
 intro S w0 a hS h
 refine gC h (zS (zz Ju fun b7 => zn (zs (yD Za [0, 1, 2, 3, 5, 6, 7, 4, 8, 9, 10] (Zd kk) ?_)))); clear h
 refine Zv (b := b5) (off := 0) (j := 0) (M := [.func (.func g) #[] cs.toArray]) (v := .func (.func g) #[] cs.toArray) rfl kk rfl mm (Nat.succ_pos _) isAgg69 sizeOf69 rfl (.inr rfl) dd ?_
 refine Zv (b := b3) (off := 0) (j := 0) (M := (Value.cells (.agg #[.int .i64 ((r : Nat) : Int), .int .i64 ((c : Nat) : Int), .slice ad (r * c) cp])).toList) (v := .agg #[.int .i64 ((r : Nat) : Int), .int .i64 ((c : Nat) : Int), .slice ad (r * c) cp]) rfl kk rfl mm (Nat.succ_pos _) isAgg57 sizeOf57 rfl (.inl rfl) dd ?_
 refine ym rfl rfl (ym rfl rfl ?_)
 refine Zv (b := b4) (off := 0) (j := 0) (M := (Value.cells (.agg #[.int .i64 ((r : Nat) : Int), .int .i64 ((c : Nat) : Int), .slice ad2 (r * c) cp2])).toList) (v := .agg #[.int .i64 ((r : Nat) : Int), .int .i64 ((c : Nat) : Int), .slice ad2 (r * c) cp2]) rfl kk rfl mm (Nat.succ_pos _) isAgg57 sizeOf57 rfl (.inl rfl) dd ?_
 refine ym rfl rfl (ym rfl rfl (yw [_, _, _] rfl rfl call112 (C_mat r c i k A ad (r * c) cp hr hc hA rfl hi hk) (yw [_, _, _] rfl rfl call112 (C_mat r c i k B ad2 (r * c) cp2 hr hc hB rfl hi hk) ?_)))
 refine Zbo rfl kk (fs := []) (cs := cs) rfl (vs := [_, _]) rfl hg hf (fun _ hR => by first | exact hR | (repeat (first | exact hR | apply List.Mem.tail))) dd ?_
 refine yt rfl rfl rfl Zp uu sizeOf41 rfl nb rfl ?_
 refine yn (zt ?_); intro a w h
 refine Xd h (Zk h rfl (.cell rfl mr isAgg41 sizeOf41 Zh)) ?_
 rfl
end
section
theorem Znh (x0_0 : Value) (x0_1 : Value) (x0_2 : Value) (x1_0 : Value) (x1_1 : Value) (x1_2 : Value) (w : World) : (Instr.buildSlice 196 2 [(0, .agg #[x0_0, x0_1, x0_2]), (1, .agg #[x1_0, x1_1, x1_2])].toArray).run Tryz.prog w = .ok (.slice (some ⟨w.heap.size, 0, none⟩) 2 2) (w.alloc (.cells #[x0_0, x0_1, x0_2, x1_0, x1_1, x1_2] 57 (0, 0))) := by
 simp [go_sem]
theorem Zs3 (x0_0 : Value) (x0_1 : Value) (x0_2 : Value) (w : World) : (Instr.buildSlice 196 1 [(0, .agg #[x0_0, x0_1, x0_2])].toArray).run Tryz.prog w = .ok (.slice (some ⟨w.heap.size, 0, none⟩) 1 1) (w.alloc (.cells #[x0_0, x0_1, x0_2] 57 (0, 0))) := by
 simp [go_sem]
theorem Zs4 (x0 : Option Addr) (x0n : Nat) (x0c : Nat) (w : World) : (Instr.buildSlice 194 1 [(0, .slice x0 x0n x0c)].toArray).run Tryz.prog w = .ok (.slice (some ⟨w.heap.size, 0, none⟩) 1 1) (w.alloc (.cells #[.slice x0 x0n x0c] 50 (0, 0))) := by
 simp [go_sem]
theorem Qdd (g : Nat) (cs : List Value) (Φ : List Qf) (φ : Nat → Nat → Rat) (r c : Nat) (A B : List Rat) (ad ad2 : Option Addr) (cp cp2 : Nat) (hr : r ≤ 40) (hc : c ≤ 40) (hr0 : 0 < r) (hc0 : 0 < c) (hA : A.length = r * c) (hB : B.length = r * c) (hg : ∀ args w, (callFunc g args).run Tryz.prog w = .ok (.enter g args) w) (hf : ∀ i, i < r → ∀ k, k < c → Gh Tryz.prog g ([Zr (A.getD (i * c + k) 0), Zr (B.getD (i * c + k) 0)] ++ cs) Φ (Zr (φ i k))) : Ctr Tryz.prog 78 [.agg #[.int .i64 ((r : Nat) : Int), .int .i64 ((c : Nat) : Int), .slice ad (r * c) cp], .agg #[.int .i64 ((r : Nat) : Int), .int .i64 ((c : Nat) : Int), .slice ad2 (r * c) cp2], .func (.func g) #[] cs.toArray] (Row ad (cellsOf Zr A) :: Row ad2 (cellsOf Zr B) :: Φ) (fun v Ψ => ∃ ad', v = .tuple #[.agg #[.int .i64 ((r : Nat) : Int), .int .i64 ((c : Nat) : Int), .slice ad' (r * c) (r * c)], .int .i64 0] ∧ Ψ = [Row ad' (cellsOf Zr (Za5 φ r c))]) := by
 have hrc : r * c ≤ 1600 := Nat.mul_le_mul hr hc
 have hpos : 0 < r * c := Nat.mul_pos hr0 hc0
 refine fn_intro func78 rfl ntmps78 nb ?_
 intro S w0 a hS h
 refine gC h (zS (zx rfl fun b3 => ?_)); clear h; intro a w h
 replace h := h.shareAll hS ((Value.cells (.agg #[.int .i64 ((r : Nat) : Int), .int .i64 ((c : Nat) : Int), .slice ad (r * c) cp])).toList) rfl
 refine gL h (zx rfl fun b4 => ?_); clear h; intro a w h
 replace h := h.shareAll hS ((Value.cells (.agg #[.int .i64 ((r : Nat) : Int), .int .i64 ((c : Nat) : Int), .slice ad2 (r * c) cp2])).toList) rfl
 refine gL h (zx rfl fun b5 => ?_); clear h; intro a w h
 replace h := h.shareAll hS ([.func (.func g) #[] cs.toArray]) rfl
 refine gL h (zz zeroValue57 fun b6 => za rfl (zn (zS (zD (b := b3) (off := 0) (j := 0) (M := (Value.cells (.agg #[.int .i64 ((r : Nat) : Int), .int .i64 ((c : Nat) : Int), .slice ad (r * c) cp])).toList) (v := .agg #[.int .i64 ((r : Nat) : Int), .int .i64 ((c : Nat) : Int), .slice ad (r * c) cp]) rfl mm (Nat.succ_pos _) isAgg57 sizeOf57 rfl (.inl rfl) ?_))))
 refine zD (b := b4) (off := 0) (j := 0) (M := (Value.cells (.agg #[.int .i64 ((r : Nat) : Int), .int .i64 ((c : Nat) : Int), .slice ad2 (r * c) cp2])).toList) (v := .agg #[.int .i64 ((r : Nat) : Int), .int .i64 ((c : Nat) : Int), .slice ad2 (r * c) cp2]) rfl mm (Nat.succ_pos _) isAgg57 sizeOf57 rfl (.inl rfl) ?_
 refine zB [(_, _), (_, _)] rfl (Znh _ _ _ _ _ _) fun b11 => ?_; intro a w h
 replace h := h.shareAll hS (cellsOf Zsz ([(⟨r, c, ad, r * c, cp⟩ : Mt), (⟨r, c, ad2, r * c, cp2⟩ : Mt)])) rfl
 refine gL h (zw [_] rfl call81 (Qa1 [(⟨r, c, ad, r * c, cp⟩ : Mt), (⟨r, c, ad2, r * c, cp2⟩ : Mt)] _ _ ss (fun m hm => by simp only [List.mem_cons, List.not_mem_nil, or_false] at hm; rcases hm with rfl | rfl <;> exact ⟨hr, hc, rfl⟩)) (za rfl (zn (zs (zb (zS (zm rfl (zp (Pure1.cast (v' := .bool false) (.neq rfl rfl) cgd) (za rfl (zn ?_)))))))))); clear h; intro a w h
 refine cW ?_
 refine Zf h rfl ?_
 refine gC h (zS (zp (.fA rfl Zbq) (zD (b := b3) (off := 0) (j := 0) (M := (Value.cells (.agg #[.int .i64 ((r : Nat) : Int), .int .i64 ((c : Nat) : Int), .slice ad (r * c) cp])).toList) (v := .int .i64 ((r : Nat) : Int)) rfl mm nb isAgg3 sizeOf3 rfl (.inr rfl) ?_)))
 refine zp (.fA rfl Zbq) (zD (b := b4) (off := 0) (j := 0) (M := (Value.cells (.agg #[.int .i64 ((r : Nat) : Int), .int .i64 ((c : Nat) : Int), .slice ad2 (r * c) cp2])).toList) (v := .int .i64 ((r : Nat) : Int)) rfl mm nb isAgg3 sizeOf3 rfl (.inr rfl) ?_)
 refine zp (.neq rfl rfl) ?_; intro a w h
 refine Qp h (fun hc23 h => (absurd hc23 ss)) (fun hc23 h => ?_)
 refine gL h (zm rfl (zq 24 rfl rfl (.fA rfl Gp) ?_)); clear h; intro a w h
 refine Zt 24 h rfl rfl (Jw h (b := b3) (off := 0) (j := 1) (M := (Value.cells (.agg #[.int .i64 ((r : Nat) : Int), .int .i64 ((c : Nat) : Int), .slice ad (r * c) cp])).toList) (v := .int .i64 ((c : Nat) : Int)) rfl mm nb isAgg3 sizeOf3 rfl (.inr rfl) dd ?_); clear h; intro a h
 refine gL h (zq 24 rfl rfl (.fA rfl Gp) ?_); clear h; intro a w h
 refine Zt 24 h rfl rfl (Jw h (b := b4) (off := 0) (j := 1) (M := (Value.cells (.agg #[.int .i64 ((r : Nat) : Int), .int .i64 ((c : Nat) : Int), .slice ad2 (r * c) cp2])).toList) (v := .int .i64 ((c : Nat) : Int)) rfl mm nb isAgg3 sizeOf3 rfl (.inr rfl) dd ?_); clear h; intro a h
 refine gL h (zq 24 rfl rfl (.neq rfl rfl) ?_); clear h; intro a w h
 refine Qp h (fun hc29 h => (absurd hc29 ss)) (fun hc29 h => ?_)
 refine gL h (zp (.pickF rfl rfl) (za rfl (zn ?_))); clear h; intro a w h
 refine cW ?_
 refine Zf h rfl ?_
 refine gC h (zk (zS (zp (.fA rfl Zbq) (zD (b := b3) (off := 0) (j := 0) (M := (Value.cells (.agg #[.int .i64 ((r : Nat) : Int), .int .i64 ((c : Nat) : Int), .slice ad (r * c) cp])).toList) (v := .int .i64 ((r : Nat) : Int)) rfl mm nb isAgg3 sizeOf3 rfl (.inr rfl) ?_))))
 refine zp (.fA rfl Gp) (zD (b := b3) (off := 0) (j := 1) (M := (Value.cells (.agg #[.int .i64 ((r : Nat) : Int), .int .i64 ((c : Nat) : Int), .slice ad (r * c) cp])).toList) (v := .int .i64 ((c : Nat) : Int)) rfl mm nb isAgg3 sizeOf3 rfl (.inr rfl) ?_)
 refine zp (.makeFunc [] [_, _, _] rfl rfl) ?_; intro a w h
 refine Zc (Jd h (vs := [_, _, _]) rfl call107 (Qa7 135 [.pointer (some ⟨b5, 0, none⟩), .pointer (some ⟨b3, 0, none⟩), .pointer (some ⟨b4, 0, none⟩)] (Row (some ⟨b5, 0, none⟩) [.func (.func g) #[] cs.toArray] :: Row (some ⟨b3, 0, none⟩) (Value.cells (.agg #[.int .i64 ((r : Nat) : Int), .int .i64 ((c : Nat) : Int), .slice ad (r * c) cp])).toList :: Row (some ⟨b4, 0, none⟩) (Value.cells (.agg #[.int .i64 ((r : Nat) : Int), .int .i64 ((c : Nat) : Int), .slice ad2 (r * c) cp2])).toList :: Row ad (cellsOf Zr A) :: Row ad2 (cellsOf Zr B) :: Φ) φ r c hr hc hr0 hc0 call135 (fun i hi k hk => Zz3 g cs Φ r c i k b5 b3 b4 A B ad ad2 cp cp2 _ hr hc hA hB hi hk hg (hf i hi k hk))) (by intro R hR; simp only [List.mem_cons] at hR ⊢; grind) dd ?_); clear h; rintro v37 Ψ37 a w ⟨ad37, rfl, rfl⟩ h
 refine gL h (zp (.eX rfl) (zp (.eX rfl) (zt' rfl rfl Qt uu sizeOf57 rfl nb rfl ?_)))
 refine za rfl (zn (zt ?_)); intro a w h
 refine Xr (Ψ := [Row ad37 (cellsOf Zr (Za5 φ r c))]) h (Qq h rfl (.cell rfl mr isAgg57 sizeOf57 Qa) (.tmp rfl)) ?_ ss
 exact ⟨ad37, rfl, rfl⟩
theorem C_mSc1 (x y k : Rat) (b o : Nat) (hx : Zu x ≤ 10000000) (hk : Zu k ≤ 10000000) : Gh Tryz.prog 79 [Zr x, Zr y, .pointer (some ⟨b, o, none⟩)] [Row (some ⟨b, o, none⟩) (Value.cells (Zr k)).toList] (Zr (k * x)) := by
 refine fn_intro func79 rfl ntmps79 nb ?_
 intro S w0 a hS h
 refine gC h (zS (zx rfl fun b3 => zx rfl fun b4 => zz Ju fun b5 => zn (zS (zD (b := b) (off := o) (j := 0) (M := (Value.cells (Zr k)).toList) (v := Zr (k)) rfl mm (Nat.succ_pos _) isAgg41 sizeOf41 rfl (.inl rfl) ?_))))
 refine zd rfl mr isAgg41 sizeOf41 Zh ?_
 refine zv [_, _] rfl call18 (Jc _ _ oo oo) ?_
 have hl8 := Zm (k) (x)
 refine zt' rfl rfl Zp uu sizeOf41 rfl nb rfl ?_; intro a w h
 refine wpList_nil (wp_ret ?_)
 refine Xd h (Zk h rfl (.cell rfl mr isAgg41 sizeOf41 Zh)) ?_
 rfl
theorem Zrd (k : Rat) (r c : Nat) (A : List Rat) (ad : Option Addr) (cp : Nat) (hr : r ≤ 40) (hc : c ≤ 40) (hr0 : 0 < r) (hc0 : 0 < c) (hA : A.length = r * c) (hk : Zu k ≤ 10000000) (hKA : ∀ x ∈ A, Zu x ≤ 10000000) : Ctr Tryz.prog 27 [Zr k, .agg #[.int .i64 ((r : Nat) : Int), .int .i64 ((c : Nat) : Int), .slice ad (r * c) cp]] [Row ad (cellsOf Zr A)] (fun v Ψ => ∃ ad', v = .tuple #[.agg #[.int .i64 ((r : Nat) : Int), .int .i64 ((c : Nat) : Int), .slice ad' (r * c) (r * c)], .int .i64 0] ∧ Ψ = [Row ad' (cellsOf Zr (Za5 ((fun i j => k * A.getD (i * c + j) 0)) r c))]) := by
 have hrc : r * c ≤ 1600 := Nat.mul_le_mul hr hc
 have hpos : 0 < r * c := Nat.mul_pos hr0 hc0
 refine fn_intro func27 rfl ntmps27 nb ?_
 intro S w0 a hS h
 refine gC h (zS (zx rfl fun b2 => ?_)); clear h; intro a w h
 replace h := h.shareAll hS ((Value.cells (Zr (k))).toList) rfl
 refine gL h (zx rfl fun b3 => zz zeroValue57 fun b4 => za rfl (zn (zS (zd rfl mr isAgg57 sizeOf57 Qa ?_))))
 refine zd rfl mr isAgg57 sizeOf57 Qa ?_
 refine zp (.makeFunc [] [_] rfl rfl) (zf [_, _, _] rfl call78 (Qdd 79 [.pointer (some ⟨b2, 0, none⟩)] [Row (some ⟨b2, 0, none⟩) (Value.cells (Zr k)).toList] (fun i j => k * A.getD (i * c + j) 0) r c A A ad ad cp cp hr hc hr0 hc0 hA hA call79 (fun i hi j hj => C_mSc1 _ _ k b2 0 (hKA _ (getD_mem A (by have := (Zkj hi hj).1; omega))) hk)) ?_); rintro v9 Ψ9 ⟨ad9, rfl, rfl⟩
 refine zp (.eX rfl) (zp (.eX rfl) (zt' rfl rfl Qt uu sizeOf57 rfl nb rfl ?_))
 refine za rfl (zn (zt ?_)); intro a w h
 refine Xr (Ψ := [Row ad9 (cellsOf Zr (Za5 (fun i j => k * A.getD (i * c + j) 0) r c))]) h (Qq h rfl (.cell rfl mr isAgg57 sizeOf57 Qa) (.tmp rfl)) ?_ ss
 exact ⟨ad9, rfl, rfl⟩
theorem Zx7 {b off : Nat} {A : List Rat} {lo n : Nat} {X : Nat → Prop} {w : World} (hlo : lo ≤ A.length) (h : (Row (some ⟨b, off, none⟩) (cellsOf Zr A)).p X w) : (Row (some ⟨b, off + lo * 5, none⟩) (cellsOf Zr ((A.drop lo).take n))).p X w := by
 intro hne
 have hM : cellsOf Zr A = cellsOf Zr (A.take lo) ++ (cellsOf Zr ((A.drop lo).take n) ++ cellsOf Zr ((A.drop lo).drop n)) := by
  rw [← Qj, ← Qj, List.take_append_drop, List.take_append_drop]
 have hl : (cellsOf Zr (A.take lo)).length = lo * 5 := by rw [cellsOf_length (k := 5) (fun _ => rfl), List.length_take]; omega
 rw [hM] at h
 obtain ⟨b', off', cs, T, fr, ha, hb, hcc, hj⟩ := h (fun e => hne (List.append_eq_nil_iff.1 (List.append_eq_nil_iff.1 e).2).1)
 cases ha
 refine ⟨b, _, cs, T, fr, rfl, hb, hcc, fun j hj' => ?_⟩
 rw [show off + lo * 5 + j = off + (lo * 5 + j) by omega, hj (lo * 5 + j) (by rw [List.length_append, List.length_append, hl]; omega), List.getElem?_append_right oo, hl, Nat.add_sub_cancel_left, List.getElem?_append_left hj']
def Qam (A : List Rat) (i c : Nat) : List Rat := (A.drop (i * c)).take c
theorem Zx9 {A : List Rat} {i c : Nat} (h : i * c + c ≤ A.length) : (Qam A i c).length = c := by unfold Qam; rw [List.length_take, List.length_drop]; omega
theorem Zya {A : List Rat} {i c k : Nat} (hk : k < c) : (Qam A i c).getD k 0 = A.getD (i * c + k) 0 := by
 unfold Qam; simp [List.getD, List.getElem?_take, hk]
theorem Zx8 {A : List Rat} {i c : Nat} {x : Rat} (h : x ∈ Qam A i c) : x ∈ A := List.mem_of_mem_drop (List.mem_of_mem_take h)
def Zjg (A B : List Rat) (c : Nat) : Nat → Rat := fun i => Zdr (fun k => A.getD (i * c + k) 0 * B.getD k 0) c
theorem Zzt (A B : List Rat) (i c : Nat) : Zdr (fun k => (Qam A i c).getD k 0 * B.getD k 0) c = Zjg A B c i := Za3 fun k hk => by rw [Zya hk]
theorem Qc5 (A B : List Rat) (ad ad2 : Option Addr) (c c2 K n : Nat) (hA' : A.length = n) (hn : n ≤ 100) (hAB : B.length = n) (hA : ∀ x ∈ A, Zu x ≤ K) (hB : ∀ x ∈ B, Zu x ≤ K) (hK : 2 * K ≤ 9000000) : Gh Tryz.prog 74 [.slice ad n c, .slice ad2 n c2] [Row ad (cellsOf Zr A), Row ad2 (cellsOf Zr B)] (.tuple #[Zr (Zdr (fun i => A.getD i 0 * B.getD i 0) n), .int .i64 0]) := by
 subst hA'; exact C_vDot A B ad ad2 c c2 K hn hAB hA hB hK
set_option maxHeartbeats 1000000 in
theorem Zxm (r c : Nat) (A B : List Rat) (ad ad2 : Option Addr) (cp c2 : Nat) (hr : r ≤ 40) (hc : c ≤ 40) (hr0 : 0 < r) (hc0 : 0 < c) (hA : A.length = r * c) (hB : B.length = c) (hcp : cp = r * c) (K : Nat) (hKA : ∀ x ∈ A, Zu x ≤ K) (hKB : ∀ x ∈ B, Zu x ≤ K) (hK : K ≤ 50000) : Ctr Tryz.prog 30 [.agg #[.int .i64 ((r : Nat) : Int), .int .i64 ((c : Nat) : Int), .slice ad (r * c) cp], .slice ad2 c c2] [Row ad (cellsOf Zr A), Row ad2 (cellsOf Zr B)] (fun v Ψ => ∃ ad' cp', v = .tuple #[.slice ad' r cp', .int .i64 0] ∧ Ψ = [Row ad' (cellsOf Zr (mkL (Zjg A B c) r))]) := by
 have hrc : r * c ≤ 1600 := Nat.mul_le_mul hr hc
 have hpos : 0 < r * c := Nat.mul_pos hr0 hc0
 refine fn_intro func30 rfl ntmps30 nb ?_
 intro S w0 a hS h
 refine gC h (zS (zx rfl fun b2 => za rfl (za rfl (zn (zs (zS (zd rfl mr isAgg57 sizeOf57 Qa ?_)))))))
 refine zB [(_, _)] rfl (Zs3 _ _ _) fun b11 => ?_; intro a w h
 replace h := h.shareAll hS (cellsOf Zsz ([(⟨r, c, ad, r * c, cp⟩ : Mt)])) rfl
 refine gL h (zw [_] rfl call81 (Qa1 [(⟨r, c, ad, r * c, cp⟩ : Mt)] _ _ ss (fun m hm => by simp only [List.mem_cons, List.not_mem_nil, or_false] at hm; rcases hm with rfl <;> exact ⟨hr, hc, rfl⟩)) (za rfl (zn (zS (zm rfl (zp (Pure1.cast (v' := .bool false) (.neq rfl rfl) cgd) (zn ?_))))))); clear h; intro a w h
 refine cW ?_
 refine Zf h rfl ?_
 refine gC h (zk (zs (zS (zm rfl (zB [(_, _)] rfl (Zs4 _ _ _) fun b17 => ?_))))); clear h; intro a w h
 replace h := h.shareAll hS (List.map Vv ([(⟨ad2, c, c2⟩ : Vs)])) rfl
 refine gL h (zw [_] rfl call73 (Zz2 [(⟨ad2, c, c2⟩ : Vs)] _ _ ss (fun v hv => by simp only [List.mem_cons, List.not_mem_nil, or_false] at hv; rcases hv with rfl <;> (simp only; omega))) (za rfl (zn (zS (zm rfl (zp (Pure1.cast (v' := .bool false) (.neq rfl rfl) cgd) (zn ?_))))))); clear h; intro a w h
 refine cW ?_
 refine Zf h rfl ?_
 refine gC h (zk (zs (zS (zm rfl (zp (.builtin [_] rfl (Qn _ _ _)) (zp (.fA rfl Gp) (zd rfl mr isAgg3 sizeOf3 Gq ?_)))))))
 refine zp (.neq rfl rfl) (zn ?_); intro a w h
 refine cW ?_
 refine Zg h rfl (fun hc26 => (absurd hc26 ss)) (fun hc26 => ?_)
 refine gC h (zk (zS (zp (.fA rfl Zbq) (zd rfl mr isAgg3 sizeOf3 Zbk ?_)))); clear h; intro a w h
 refine Zc (Jz h rfl rfl runUnderlying50 typeInfo41 sizeOf41 Ju rfl dd oo (by show 56 * (r) ≤ 281474976710656; omega) oo dd ?_); clear h; intro b29 a w h; replace h := h.same rfl (by rw [← Yw (enc := Zr)]) rfl
 refine gL h (za rfl (zn (zs (zS (zp (.fA rfl Zbq) (zd rfl mr isAgg3 sizeOf3 Zbk ?_))))))
 refine zm rfl (zn (zb ?_)); intro a w h
 rw [← Zif (Zjg A B c)] at h
 refine Zn (fun (i : Nat) a w => i ≤ r ∧ St 48 S w0 [(1, .slice ad2 c c2), (2, pB b2), (4, .slice none 0 0), (5, .int .i64 0), (8, .slice (some ⟨b29, 0, none⟩) r r), (31, nI r), (32, nI i)] [(b29, .cells (cellsOf Zr (Zf2 (Zjg A B c) r i)).toArray 41 (0, 0)), (b2, bV (.agg #[.int .i64 ((r : Nat) : Int), .int .i64 ((c : Nat) : Int), .slice ad (r * c) cp]) 57)] [Row (some ⟨b17, 0, none⟩) (List.map Vv ([(⟨ad2, c, c2⟩ : Vs)])), Row (some ⟨b11, 0, none⟩) (cellsOf Zsz ([(⟨r, c, ad, r * c, cp⟩ : Mt)])), Row ad (cellsOf Zr A), Row ad2 (cellsOf Zr B)] a w) (fun i => r - i) 0 (⟨Nat.zero_le _, by exact (h).sub sA⟩) ?_; clear h
 rintro i a w ⟨hi_i, h⟩
 refine gC h (zS (zp (.lss rfl rfl) (zn (zs ?_)))); clear h; intro a w h
 refine Zg h rfl (fun hc33 => ?_) (fun hc33 => ?_)
 ·
  skip
  have hlt_i : i < r := dT hc33
  obtain ⟨B_ad, O_ad, rfl⟩ := h.row_addr (ad := ad) (M := cellsOf Zr A) mm (nE 5)
  have hpl := Zk5 (Zjg A B c) (show i ≤ r by omega)
  obtain ⟨_, _, hle⟩ := Zkj hlt_i hc0
  have hrl := Zx9 (A := A) (i := i) (c := c) oo
  refine gC h (zk (zs (zb (zS (zm rfl (za rfl (zn (zr (zm rfl (zm rfl (zd rfl mr isAgg57 sizeOf57 Qa ?_)))))))))))
  refine zm rfl (zv [_, _] rfl call82 (C_row r c i B_ad O_ad (r * c) cp hr hc hlt_i hc0 hcp) ?_); intro a w h
  replace h := h.derive (R := Row (some ⟨B_ad, O_ad + i * c * 5, none⟩) (cellsOf Zr (Qam A i c))) (fun X hX => Zx7 oo (hX _ mm))
  refine gL h (zm rfl (zw [_, _] rfl call74 (Qc5 (Qam A i c) B _ ad2 _ c2 K c hrl oo hB (fun x hx => hKA x (Zx8 hx)) hKB oo) ?_)); clear h; intro a w h
  rw [Zzt] at h
  refine gL h (zm rfl (zp (.eX rfl) (zp (.eX rfl) (zp (.indexAddr rfl rfl (Zbw _ _ _ _ _ oo)) (zt' (b := b29) (cs := (cellsOf Zr (Zf2 (Zjg A B c) r i)).toArray) (cs' := (cellsOf Zr ((Zf2 (Zjg A B c) r i).set i (Zjg A B c i))).toArray) (v := Zr (Zjg A B c i)) rfl rfl (Yh (k := 5) (fun _ => rfl) (Zf2 (Zjg A B c) r i) i oo (Zjg A B c i)) uu sizeOf41 rfl (Km (k := 5) (fun _ => rfl) (Zf2 (Zjg A B c) r i) i oo) rfl ?_)))))
  refine zn (zr (zp (.pN (i + 1) (.add rfl rfl)) (zm rfl (zn ?_)))); intro a w h
  rw [Zk4 (Zjg A B c) hlt_i] at h
  exact ⟨i + 1, ⟨oo, (h.factsSub (by simp)).sub sA⟩, oo⟩
 ·
  skip
  have heq_i : r = i := dF hc33
  subst heq_i
  rw [Zig] at h
  refine gC h (ze (zS (zm rfl ?_))); clear h; intro a w h
  replace h := h.shareAll hS (cellsOf Zr (mkL (Zjg A B c) r)) rfl
  refine gL h (za rfl (za rfl (zn (zt ?_)))); clear h; intro a w h
  refine Xr (Ψ := [Row (some ⟨b29, 0, none⟩) (cellsOf Zr (mkL (Zjg A B c) r))]) h (Qq h rfl (.tmp rfl) (.tmp rfl)) ?_ ss
  exact ⟨some ⟨b29, 0, none⟩, r, rfl, rfl⟩
end
section
theorem Zup {c0 c1 c2 c3 c4 c5 c6 c7 c8 c9 c10 c11 c12 c13 c14 c15 c16 c17 c18 c19 c20 c21 c22 c23 c24 c25 c26 c27 c28 c29 c30 c31 c32 c33 c34 c35 c36 c37 c38 c39 c40 c41 c42 c43 c44 : Value} : Qe true 5 #[c0, c1, c2, c3, c4, c5, c6, c7, c8, c9, c10, c11, c12, c13, c14, c15, c16, c17, c18, c19, c20, c21, c22, c23, c24, c25, c26, c27, c28, c29, c30, c31, c32, c33, c34, c35, c36, c37, c38, c39, c40, c41, c42, c43, c44] 0 = some (.agg #[c0, c1, c2, c3, c4]) := rfl
theorem Zuo {c0 c1 c2 c3 c4 c5 c6 c7 c8 c9 c10 c11 c12 c13 c14 c15 c16 c17 c18 c19 c20 c21 c22 c23 c24 c25 c26 c27 c28 c29 c30 c31 c32 c33 c34 c35 c36 c37 c38 c39 c40 c41 c42 c43 c44 : Value} : Qe true 5 #[c0, c1, c2, c3, c4, c5, c6, c7, c8, c9, c10, c11, c12, c13, c14, c15, c16, c17, c18, c19, c20, c21, c22, c23, c24, c25, c26, c27, c28, c29, c30, c31, c32, c33, c34, c35, c36, c37, c38, c39, c40, c41, c42, c43, c44] 5 = some (.agg #[c5, c6, c7, c8, c9]) := rfl
theorem Zsd {c0 c1 c2 c3 c4 c5 c6 c7 c8 c9 c10 c11 c12 c13 c14 c15 c16 c17 c18 c19 c20 c21 c22 c23 c24 c25 c26 c27 c28 c29 c30 c31 c32 c33 c34 c35 c36 c37 c38 c39 c40 c41 c42 c43 c44 : Value} : Qe true 5 #[c0, c1, c2, c3, c4, c5, c6, c7, c8, c9, c10, c11, c12, c13, c14, c15, c16, c17, c18, c19, c20, c21, c22, c23, c24, c25, c26, c27, c28, c29, c30, c31, c32, c33, c34, c35, c36, c37, c38, c39, c40, c41, c42, c43, c44] 10 = some (.agg #[c10, c11, c12, c13, c14]) := rfl
theorem Zsc {c0 c1 c2 c3 c4 c5 c6 c7 c8 c9 c10 c11 c12 c13 c14 c15 c16 c17 c18 c19 c20 c21 c22 c23 c24 c25 c26 c27 c28 c29 c30 c31 c32 c33 c34 c35 c36 c37 c38 c39 c40 c41 c42 c43 c44 : Value} : Qe true 5 #[c0, c1, c2, c3, c4, c5, c6, c7, c8, c9, c10, c11, c12, c13, c14, c15, c16, c17, c18, c19, c20, c21, c22, c23, c24, c25, c26, c27, c28, c29, c30, c31, c32, c33, c34, c35, c36, c37, c38, c39, c40, c41, c42, c43, c44] 15 = some (.agg #[c15, c16, c17, c18, c19]) := rfl
theorem Zsb {c0 c1 c2 c3 c4 c5 c6 c7 c8 c9 c10 c11 c12 c13 c14 c15 c16 c17 c18 c19 c20 c21 c22 c23 c24 c25 c26 c27 c28 c29 c30 c31 c32 c33 c34 c35 c36 c37 c38 c39 c40 c41 c42 c43 c44 : Value} : Qe true 5 #[c0, c1, c2, c3, c4, c5, c6, c7, c8, c9, c10, c11, c12, c13, c14, c15, c16, c17, c18, c19, c20, c21, c22, c23, c24, c25, c26, c27, c28, c29, c30, c31, c32, c33, c34, c35, c36, c37, c38, c39, c40, c41, c42, c43, c44] 20 = some (.agg #[c20, c21, c22, c23, c24]) := rfl
theorem Zsa {c0 c1 c2 c3 c4 c5 c6 c7 c8 c9 c10 c11 c12 c13 c14 c15 c16 c17 c18 c19 c20 c21 c22 c23 c24 c25 c26 c27 c28 c29 c30 c31 c32 c33 c34 c35 c36 c37 c38 c39 c40 c41 c42 c43 c44 : Value} : Qe true 5 #[c0, c1, c2, c3, c4, c5, c6, c7, c8, c9, c10, c11, c12, c13, c14, c15, c16, c17, c18, c19, c20, c21, c22, c23, c24, c25, c26, c27, c28, c29, c30, c31, c32, c33, c34, c35, c36, c37, c38, c39, c40, c41, c42, c43, c44] 25 = some (.agg #[c25, c26, c27, c28, c29]) := rfl
theorem Zr9 {c0 c1 c2 c3 c4 c5 c6 c7 c8 c9 c10 c11 c12 c13 c14 c15 c16 c17 c18 c19 c20 c21 c22 c23 c24 c25 c26 c27 c28 c29 c30 c31 c32 c33 c34 c35 c36 c37 c38 c39 c40 c41 c42 c43 c44 : Value} : Qe true 5 #[c0, c1, c2, c3, c4, c5, c6, c7, c8, c9, c10, c11, c12, c13, c14, c15, c16, c17, c18, c19, c20, c21, c22, c23, c24, c25, c26, c27, c28, c29, c30, c31, c32, c33, c34, c35, c36, c37, c38, c39, c40, c41, c42, c43, c44] 30 = some (.agg #[c30, c31, c32, c33, c34]) := rfl
theorem Zr8 {c0 c1 c2 c3 c4 c5 c6 c7 c8 c9 c10 c11 c12 c13 c14 c15 c16 c17 c18 c19 c20 c21 c22 c23 c24 c25 c26 c27 c28 c29 c30 c31 c32 c33 c34 c35 c36 c37 c38 c39 c40 c41 c42 c43 c44 : Value} : Qe true 5 #[c0, c1, c2, c3, c4, c5, c6, c7, c8, c9, c10, c11, c12, c13, c14, c15, c16, c17, c18, c19, c20, c21, c22, c23, c24, c25, c26, c27, c28, c29, c30, c31, c32, c33, c34, c35, c36, c37, c38, c39, c40, c41, c42, c43, c44] 35 = some (.agg #[c35, c36, c37, c38, c39]) := rfl
theorem Zr7 {c0 c1 c2 c3 c4 c5 c6 c7 c8 c9 c10 c11 c12 c13 c14 c15 c16 c17 c18 c19 c20 c21 c22 c23 c24 c25 c26 c27 c28 c29 c30 c31 c32 c33 c34 c35 c36 c37 c38 c39 c40 c41 c42 c43 c44 : Value} : Qe true 5 #[c0, c1, c2, c3, c4, c5, c6, c7, c8, c9, c10, c11, c12, c13, c14, c15, c16, c17, c18, c19, c20, c21, c22, c23, c24, c25, c26, c27, c28, c29, c30, c31, c32, c33, c34, c35, c36, c37, c38, c39, c40, c41, c42, c43, c44] 40 = some (.agg #[c40, c41, c42, c43, c44]) := rfl
theorem Zhq (c0 c1 c2 c3 c4 c5 c6 c7 c8 c9 c10 c11 c12 c13 c14 c15 c16 c17 c18 c19 c20 c21 c22 c23 c24 c25 c26 c27 c28 c29 : Value) (w : World) : (Instr.index 44 (.agg #[c0, c1, c2, c3, c4, c5, c6, c7, c8, c9, c10, c11, c12, c13, c14, c15, c16, c17, c18, c19, c20, c21, c22, c23, c24, c25, c26, c27, c28, c29]) (.int .i64 0)).run Tryz.prog w = .ok (.agg #[c0, c1, c2, c3, c4, c5, c6, c7, c8, c9]) w := by
 unfold Instr.index; simp [go_sem]
theorem Zhp (c0 c1 c2 c3 c4 c5 c6 c7 c8 c9 c10 c11 c12 c13 c14 c15 c16 c17 c18 c19 c20 c21 c22 c23 c24 c25 c26 c27 c28 c29 : Value) (w : World) : (Instr.index 44 (.agg #[c0, c1, c2, c3, c4, c5, c6, c7, c8, c9, c10, c11, c12, c13, c14, c15, c16, c17, c18, c19, c20, c21, c22, c23, c24, c25, c26, c27, c28, c29]) (.int .i64 1)).run Tryz.prog w = .ok (.agg #[c10, c11, c12, c13, c14, c15, c16, c17, c18, c19]) w := by
 unfold Instr.index; simp [go_sem]
theorem Zho (c0 c1 c2 c3 c4 c5 c6 c7 c8 c9 c10 c11 c12 c13 c14 c15 c16 c17 c18 c19 c20 c21 c22 c23 c24 c25 c26 c27 c28 c29 : Value) (w : World) : (Instr.index 44 (.agg #[c0, c1, c2, c3, c4, c5, c6, c7, c8, c9, c10, c11, c12, c13, c14, c15, c16, c17, c18, c19, c20, c21, c22, c23, c24, c25, c26, c27, c28, c29]) (.int .i64 2)).run Tryz.prog w = .ok (.agg #[c20, c21, c22, c23, c24, c25, c26, c27, c28, c29]) w := by
 unfold Instr.index; simp [go_sem]
theorem Zkv {x : Rat} : 0 < x.num.sign ↔ 0 < x := by
 rw [Int.sign_pos_iff]
 constructor
 ·
  intro h
  have h1 := Rat.num_nonneg.1 (Int.le_of_lt h)
  have h2 : x ≠ 0 := fun e => by subst e; exact absurd h dd
  grind
 ·
  intro h
  have h1 := Rat.num_nonneg.2 (Rat.le_of_lt h)
  have h2 : x.num ≠ 0 := fun e => by rw [Rat.num_eq_zero] at e; subst e; grind
  omega
theorem Zrq {pa pb pc : Pt} (h : 0 < (twP pa pb pc).num.sign) : twP pa pb pc ≠ 0 := fun e => by rw [e] at h; exact absurd h dd
theorem Zzs {pa pb pc : Pt} (h : 0 < (twP pa pb pc).num.sign) : 0 < (Zw pa pb pc).num.sign := by
 have := Zkv.1 h
 refine Zkv.2 ?_
 unfold Zw
 rw [Qb6]; exact Rat.mul_pos this kD
theorem Zqj (o : Nat) : Jj o ≤ 40 := by unfold Jj; split <;> decide
theorem Zik (o : Nat) : 0 < Jj o := by unfold Jj; split <;> decide
theorem Zxf {o : Nat} (ho : o = 1 ∨ o = 2) : Xm Tryz.prog 43 [.int .i64 ((o : Nat) : Int)] (.int .i64 ((Jj o : Nat) : Int)) := by
 rcases ho with rfl | rfl
 · exact Zl7
 · exact Zxe
theorem Zkf : ∀ o, o = 1 ∨ o = 2 → ∀ n, n < Jj o → ∀ m, m < Jj o → (Zch o n m).num.natAbs < 10000 ∧ (Zch o n m).den < 10000 := by
 rintro o (rfl | rfl) <;> decide +kernel
theorem Zjv : ∀ o, o = 1 ∨ o = 2 → ∀ n, n < Jj o → ∀ m, m < Jj o → ∀ i, i < 3 → ∀ k, k < 3 → (Zl o n m i k).num.natAbs < 10000 ∧ (Zl o n m i k).den < 10000 := by
 rintro o (rfl | rfl) <;> decide +kernel
theorem Zel {x : Rat} (h : x.num.natAbs < 10000 ∧ x.den < 10000) : Zu x ≤ 4 := by
 have h1 : (wds x.num.natAbs).length ≤ 2 := Gj oo
 have h2 : (wds x.den).length ≤ 2 := Gj oo
 unfold Zu Zap; omega
theorem Zqt (k : Rat × Rat × Rat) (A : Rat) (g h : Pt) {K Kg KA : Nat} (h1 : Zu k.1 ≤ K) (h2 : Zu k.2.1 ≤ K) (h3 : Zu k.2.2 ≤ K) (hA : Zu A ≤ KA) (hg : PtK Kg g) (hh : PtK Kg h) : Zu (byP k A g h) ≤ KA + 4 * K + 6 * Kg + 3 := by
 obtain ⟨g1, g2⟩ := hg
 obtain ⟨q1, q2⟩ := hh
 have a1 := Zm A (Gg (Xe k h) g)
 have a2 := Yr (Xe k h) g
 have a3 := Qo (k.1 * h.1) (k.2.1 * h.2)
 have a4 := Qo (k.2.1 * h.1) (k.2.2 * h.2)
 have a5 := Zm k.1 h.1
 have a6 := Zm k.2.1 h.2
 have a7 := Zm k.2.1 h.1
 have a8 := Zm k.2.2 h.2
 unfold byP
 unfold Xe at a1 a2 ⊢
 simp only at a2
 omega
theorem Zgi {pa pb pc : Pt} {K : Nat} (ha : PtK K pa) (hb : PtK K pb) (hc : PtK K pc) : PtK (10 * K + 6) (Zb pa pb pc).1 ∧ PtK (10 * K + 6) (Zb pa pb pc).2.1 ∧ PtK (10 * K + 6) (Zb pa pb pc).2.2 := by
 obtain ⟨ha1, ha2⟩ := ha
 obtain ⟨hb1, hb2⟩ := hb
 obtain ⟨hc1, hc2⟩ := hc
 have ht := Kw pa pb pc
 have h1 := Zlf pc pb (twP pa pb pc)
 have h2 := Zlf pa pc (twP pa pb pc)
 have h3 := Zlf pb pa (twP pa pb pc)
 exact ⟨⟨by simp only [Zb]; omega, by simp only [Zb]; omega⟩, ⟨by simp only [Zb]; omega, by simp only [Zb]; omega⟩, ⟨by simp only [Zb]; omega, by simp only [Zb]; omega⟩⟩
theorem Qaw {pa pb pc : Pt} {K : Nat} (ha : PtK K pa) (hb : PtK K pb) (hc : PtK K pc) : Zu (Zw pa pb pc) ≤ 8 * K + 9 := by
 have := Za7 pa pb pc
 obtain ⟨ha1, ha2⟩ := ha
 obtain ⟨hb1, hb2⟩ := hb
 obtain ⟨hc1, hc2⟩ := hc
 omega
theorem Zw1 (o K : Nat) (ho : o = 1 ∨ o = 2) (pa pb pc : Pt) (ha : PtK K pa) (hb : PtK K pb) (hc : PtK K pc) (hK : K ≤ 1000) (hT : 0 < (twP pa pb pc).num.sign) : Xm Tryz.prog 39 [.int .i64 ((o : Nat) : Int), Jb pa pb pc] (.bool true) := by
 obtain ⟨ha1, ha2⟩ := ha
 obtain ⟨hb1, hb2⟩ := hb
 obtain ⟨hc1, hc2⟩ := hc
 have hmp := Zik o
 have has := Zzs hT
 refine fn_intro func39 rfl ntmps39 nb ?_
 intro S w0 a hS h
 refine gC h (zS (zx rfl fun b3 => za rfl (zn (zS (zm rfl (zv [_] rfl call43 (Zxf ho) (zp (.gtr rfl rfl) ?_))))))); clear h; intro a w h
 refine Qp h (fun hc7 h => ?_) (fun hc7 h => (by exfalso; have := of_decide_eq_false hc7; omega))
 refine gL h (zm rfl (zq 8 rfl rfl (.indexAddr rfl rfl (Xu _ _)) ?_)); clear h; intro a w h
 refine Zt 8 h rfl rfl (Qd h rfl mr isAgg43 sizeOf43 Jy dd ?_); clear h; intro a h
 refine gL h (zq 8 rfl rfl (.indexAddr rfl rfl (Xh _ _)) ?_); clear h; intro a w h
 refine Zt 8 h rfl rfl (Qd h rfl mr isAgg43 sizeOf43 Jn dd ?_); clear h; intro a h
 refine gL h (zq 8 rfl rfl (.indexAddr rfl rfl (Xg _ _)) ?_); clear h; intro a w h
 refine Zt 8 h rfl rfl (Qd h rfl mr isAgg43 sizeOf43 Jm dd ?_); clear h; intro a h
 refine Zt 8 h rfl rfl (Zay h (vs := [_, _, _]) rfl call48 (Zl1 pa pb pc oo oo oo oo oo oo) dd ?_); clear h; intro a w h
 have hl15 := Za7 pa pb pc
 refine Zt 8 h rfl rfl (Zay h (vs := [_]) rfl call23 (Zeb _) dd ?_); clear h; intro a w h
 refine gL h (zq 8 rfl rfl (.gtr rfl rfl) ?_); clear h; intro a w h
 refine Qp h (fun hc17 h => ?_) (fun hc17 h => (by exfalso; have := of_decide_eq_false hc17; omega))
 refine gL h (zp (.pickT rfl rfl) (za rfl (zn (zt ?_)))); clear h; intro a w h
 exact Zdj h
theorem Zrc (g : Nat) (cs : List Value) (Φ : List Qf) (φ : Nat → Nat → Rat) (o K : Nat) (ho : o = 1 ∨ o = 2) (pa pb pc : Pt) (ha : PtK K pa) (hb : PtK K pb) (hc : PtK K pc) (hK : K ≤ 1000) (hT : 0 < (twP pa pb pc).num.sign) (hg : ∀ args w, (callFunc g args).run Tryz.prog w = .ok (.enter g args) w) (hf : ∀ i, i < Jj o → ∀ k, k < Jj o → Gh Tryz.prog g ([.int .i64 ((i : Nat) : Int), .int .i64 ((k : Nat) : Int)] ++ cs) Φ (Zr (φ i k))) : Ctr Tryz.prog 51 [.int .i64 ((o : Nat) : Int), Jb pa pb pc, .func (.func g) #[] cs.toArray] Φ (fun v Ψ => ∃ ad', v = .tuple #[.agg #[.int .i64 ((Jj o : Nat) : Int), .int .i64 ((Jj o : Nat) : Int), .slice ad' ((Jj o) * (Jj o)) ((Jj o) * (Jj o))], .int .i64 0] ∧ Ψ = [Row ad' (cellsOf Zr (Za5 φ (Jj o) (Jj o)))]) := by
 refine fn_intro func51 rfl ntmps51 nb ?_
 intro S w0 a hS h
 refine gC h (zS (zx rfl fun b4 => zz zeroValue57 fun b6 => za rfl (zn (zs (zS (zm rfl (zd rfl mr isAgg44 sizeOf44 Qz ?_)))))))
 refine zv [_, _] rfl call39 (Zw1 o K ho pa pb pc ha hb hc hK hT) (zp (Pure1.cast (v' := .bool false) (.unOp rfl (Yp _)) cgd) (zn ?_)); intro a w h
 refine cW ?_
 refine Zf h rfl ?_
 refine gC h (zk (zS (zm rfl (zv [_] rfl call43 (Zxf ho) (zm rfl (zv [_] rfl call43 (Zxf ho) (zm rfl ?_))))))); clear h; intro a w h
 refine Zc (Jd h (vs := [_, _, _]) rfl call107 (Qa7 g cs Φ φ (Jj o) (Jj o) (Zqj o) (Zqj o) (Zik o) (Zik o) hg hf) (by exact fun R hR => hR) dd ?_); clear h; rintro v18 Ψ18 a w ⟨ad18, rfl, rfl⟩ h
 refine gL h (zp (.eX rfl) (zp (.eX rfl) (zt' rfl rfl Qt uu sizeOf57 rfl nb rfl ?_)))
 refine za rfl (zn (zt ?_)); intro a w h
 refine Xr (Ψ := [Row ad18 (cellsOf Zr (Za5 φ (Jj o) (Jj o)))]) h (Qq h rfl (.cell rfl mr isAgg57 sizeOf57 Qa) (.tmp rfl)) ?_ ss
 exact ⟨ad18, rfl, rfl⟩
theorem Qdt (o n m q2 q6 : Nat) (A : Rat) (ho : o = 1 ∨ o = 2) (hn : n < Jj o) (hm : m < Jj o) (hA : Zu A ≤ 1000000) : Gh Tryz.prog 54 [.int .i64 ((n : Nat) : Int), .int .i64 ((m : Nat) : Int), .pointer (some ⟨q2, 0, none⟩), .pointer (some ⟨q6, 0, none⟩)] [Row (some ⟨q2, 0, none⟩) [.int .i64 ((o : Nat) : Int)], Row (some ⟨q6, 0, none⟩) (Value.cells (Zr A)).toList, SideF] (Zr (Zch o n m * A)) := by
 refine fn_intro func54 rfl ntmps54 nb ?_
 intro S w0 a hS h
 refine gC h (zS (zz Ju fun b6 => zn (zS (zD (b := q2) (off := 0) (j := 0) (M := [.int .i64 ((o : Nat) : Int)]) (v := .int .i64 ((o : Nat) : Int)) rfl mm (Nat.succ_pos _) isAgg3 sizeOf3 rfl (.inr rfl) ?_))))
 refine zm rfl (zm rfl (zw [_, _, _] rfl call55 (Zz0 o n m ho hn hm) ?_))
 have hlm := Zel (Zkf o ho n hn m hm)
 refine zm rfl (zp (.eX rfl) (zp (.eX rfl) (zz Ju fun b7 => zt' rfl rfl Zp uu sizeOf41 rfl nb rfl ?_)))
 refine za rfl (zn (zS (zd rfl mr isAgg41 sizeOf41 Zh ?_)))
 refine zD (b := q6) (off := 0) (j := 0) (M := (Value.cells (Zr A)).toList) (v := Zr (A)) rfl mm (Nat.succ_pos _) isAgg41 sizeOf41 rfl (.inl rfl) ?_
 refine zv [_, _] rfl call18 (Jc _ _ oo oo) ?_
 have hl18 := Zm (Zch o n m) (A)
 refine zt' rfl rfl Zp uu sizeOf41 rfl nb rfl ?_; intro a w h
 refine wpList_nil (wp_ret ?_)
 refine Xd h (Zk h rfl (.cell rfl mr isAgg41 sizeOf41 Zh)) ?_
 rfl
theorem Zxd (o K : Nat) (ho : o = 1 ∨ o = 2) (pa pb pc : Pt) (ha : PtK K pa) (hb : PtK K pb) (hc : PtK K pc) (hK : K ≤ 1000) (hT : 0 < (twP pa pb pc).num.sign) : Ctr Tryz.prog 12 [.int .i64 ((o : Nat) : Int), Jb pa pb pc] [SideF] (fun v Ψ => ∃ ad', v = .tuple #[.agg #[.int .i64 ((Jj o : Nat) : Int), .int .i64 ((Jj o : Nat) : Int), .slice ad' ((Jj o) * (Jj o)) ((Jj o) * (Jj o))], .int .i64 0] ∧ Ψ = [Row ad' (cellsOf Zr (Za5 (fun n m => Zch o n m * Zw pa pb pc) (Jj o) (Jj o)))]) := by
 have hlA := Qaw ha hb hc
 obtain ⟨ha1, ha2⟩ := id ha
 obtain ⟨hb1, hb2⟩ := id hb
 obtain ⟨hc1, hc2⟩ := id hc
 refine fn_intro func12 rfl ntmps12 nb ?_
 intro S w0 a hS h
 refine gC h (zS (zx rfl fun b2 => ?_)); clear h; intro a w h
 replace h := h.shareAll hS ([.int .i64 ((o : Nat) : Int)]) rfl
 refine gL h (zx rfl fun b3 => zz zeroValue57 fun b4 => za rfl (zn (zS (zp (.indexAddr rfl rfl (Xu _ _)) (zd rfl mr isAgg43 sizeOf43 Jy ?_)))))
 refine zp (.indexAddr rfl rfl (Xh _ _)) (zd rfl mr isAgg43 sizeOf43 Jn ?_)
 refine zp (.indexAddr rfl rfl (Xg _ _)) (zd rfl mr isAgg43 sizeOf43 Jm ?_)
 refine zv [_, _, _] rfl call48 (Zl1 pa pb pc oo oo oo oo oo oo) ?_
 have hl13 := Za7 pa pb pc
 refine zz Ju fun b6 => zt' rfl rfl Zp uu sizeOf41 rfl nb rfl ?_
 refine zn (zS (zD (b := b2) (off := 0) (j := 0) (M := [.int .i64 ((o : Nat) : Int)]) (v := .int .i64 ((o : Nat) : Int)) rfl mm (Nat.succ_pos _) isAgg3 sizeOf3 rfl (.inr rfl) ?_))
 refine zd rfl mr isAgg44 sizeOf44 Qz ?_; intro a w h
 replace h := h.shareAll hS ((Value.cells (Zr (Zw pa pb pc))).toList) rfl
 refine gL h (zp (.makeFunc [] [_, _] rfl rfl) (zf [_, _, _] rfl call51 (Zrc 54 [.pointer (some ⟨b2, 0, none⟩), .pointer (some ⟨b6, 0, none⟩)] [Row (some ⟨b2, 0, none⟩) [.int .i64 ((o : Nat) : Int)], Row (some ⟨b6, 0, none⟩) (Value.cells (Zr (Zw pa pb pc))).toList, SideF] (fun n m => Zch o n m * Zw pa pb pc) o K ho pa pb pc ha hb hc hK hT call54 (fun n hn m hm => Qdt o n m b2 b6 (Zw pa pb pc) ho hn hm oo)) ?_)); rintro v17 Ψ17 ⟨ad17, rfl, rfl⟩
 refine zp (.eX rfl) (zp (.eX rfl) (zt' rfl rfl Qt uu sizeOf57 rfl nb rfl ?_))
 refine za rfl (zn (zt ?_)); intro a w h
 refine Xr (Ψ := [Row ad17 (cellsOf Zr (Za5 (fun n m => Zch o n m * Zw pa pb pc) (Jj o) (Jj o)))]) h (Qq h rfl (.cell rfl mr isAgg57 sizeOf57 Qa) (.tmp rfl)) ?_ ss
 exact ⟨ad17, rfl, rfl⟩
set_option maxHeartbeats 1000000 in
theorem Zz7 (o n m b3 b11 KB : Nat) (B0 B1 B2 B3 B4 B5 B6 B7 B8 : Rat) (ho : o = 1 ∨ o = 2) (hn : n < Jj o) (hm : m < Jj o) (hKB : KB ≤ 1000000) (hB : ∀ x ∈ [B0, B1, B2, B3, B4, B5, B6, B7, B8], Zu x ≤ KB) : Gh Tryz.prog 52 [.int .i64 ((n : Nat) : Int), .int .i64 ((m : Nat) : Int), .pointer (some ⟨b3, 0, none⟩), .pointer (some ⟨b11, 0, none⟩)] [Row (some ⟨b3, 0, none⟩) [.int .i64 ((o : Nat) : Int)], Row (some ⟨b11, 0, none⟩) (Value.cells (Xb B0 B1 B2 B3 B4 B5 B6 B7 B8)).toList, SideF] (Zr (stE o [B0, B1, B2, B3, B4, B5, B6, B7, B8] n m)) := by
 have hlt := fun i hi k hk => Zel (Zjv o ho n hn m hm i hi k hk)
 have ht00 := hlt 0 dd 0 dd
 have ht01 := hlt 0 dd 1 dd
 have ht02 := hlt 0 dd 2 dd
 have ht10 := hlt 1 dd 0 dd
 have ht11 := hlt 1 dd 1 dd
 have ht12 := hlt 1 dd 2 dd
 have ht20 := hlt 2 dd 0 dd
 have ht21 := hlt 2 dd 1 dd
 have ht22 := hlt 2 dd 2 dd
 have hl0 := Vh
 have hB0 := hB B0 ss
 have hB1 := hB B1 ss
 have hB2 := hB B2 ss
 have hB3 := hB B3 ss
 have hB4 := hB B4 ss
 have hB5 := hB B5 ss
 have hB6 := hB B6 ss
 have hB7 := hB B7 ss
 have hB8 := hB B8 ss
 refine fn_intro func52 rfl ntmps52 nb ?_
 intro S w0 a hS h
 refine gC h (zS (zz Ju fun b6 => zn (zS (zD (b := b3) (off := 0) (j := 0) (M := [.int .i64 ((o : Nat) : Int)]) (v := .int .i64 ((o : Nat) : Int)) rfl mm (Nat.succ_pos _) isAgg3 sizeOf3 rfl (.inr rfl) ?_))))
 refine zm rfl (zm rfl (zw [_, _, _] rfl call53 (Zz5 o n m ho hn hm) (zm rfl (zp (.eX rfl) (zp (.eX rfl) (zz Ztk fun b7 => zt' rfl rfl Zj3 uu sizeOf114 rfl nb rfl ?_))))))
 refine za rfl (zn (zs (zS (zm rfl (zn (zb ?_)))))); intro a w h
 refine wp_loop_rounds 4 ?_
 refine Ze ?_
 refine gC h (zS (zp (Pure1.cast (v' := .bool true) (.lss rfl rfl) cgd) (zn (zs ?_)))); clear h; intro a w h
 refine Zi h rfl ?_
 refine gC h (zk (zs (zb (zS (zm rfl (za rfl (zn (zS (zm rfl (zn (zb ?_))))))))))); clear h; intro a w h
 refine wp_loop_rounds 4 ?_
 refine Ze ?_
 refine gC h (zS (zp (Pure1.cast (v' := .bool true) (.lss rfl rfl) cgd) (zn (zs ?_)))); clear h; intro a w h
 refine Zi h rfl ?_
 refine gC h (zk (zs (zb (zS (zm rfl (za rfl (zn (yD Za [0, 1, 2, 3, 4, 5, 6, 7, 8, 9, 10, 11, 12, 13] (Zd kk) (yd rfl rfl mr isAgg41 sizeOf41 Zh ?_))))))))); clear h
 refine ym rfl rfl (ym rfl rfl (yp rfl (.indexAddr rfl rfl (Vk _ _)) (yp rfl (.indexAddr rfl rfl (Yg _ _)) (yd rfl rfl mr isAgg41 sizeOf41 Zup ?_))))
 refine ym rfl rfl (ym rfl rfl (yp rfl (.indexAddr rfl rfl (Vk _ _)) (yp rfl (.indexAddr rfl rfl (Yg _ _)) ?_)))
 refine Zv (b := b11) (off := 0) (j := 0) (M := (Value.cells (Xb B0 B1 B2 B3 B4 B5 B6 B7 B8)).toList) (v := Zr (B0)) rfl kk rfl mm nb isAgg41 sizeOf41 rfl (.inl rfl) dd ?_
 refine yv [_, _] rfl rfl call18 (Jc _ _ oo oo) ?_
 have hl35 := Zm (Zl o n m 0 0) (B0)
 refine yv [_, _] rfl rfl call49 (Vu _ _ oo oo) ?_
 have hl36 := Qo (0) ((Zl o n m 0 0) * B0)
 refine yt rfl rfl rfl Zp uu sizeOf41 rfl nb rfl ?_
 refine yn (zr (zp (Pure1.cast (v' := .int .i64 1) (.add rfl rfl) cgd) (zm rfl (zn ?_)))); intro a w h
 replace h : St 40 S w0 [(3, pB b11), (6, pB b6), (7, pB b7), (9, .int .i64 0), (18, .int .i64 0), (19, .bool true), (21, .int .i64 1), (22, .bool true)] [(b7, bV (Xb (Zl o n m 0 0) (Zl o n m 0 1) (Zl o n m 0 2) (Zl o n m 1 0) (Zl o n m 1 1) (Zl o n m 1 2) (Zl o n m 2 0) (Zl o n m 2 1) (Zl o n m 2 2)) 114), (b6, bV (Zr (0 + ((Zl o n m 0 0) * B0))) 41)] [Row (some ⟨b3, 0, none⟩) [.int .i64 ((o : Nat) : Int)], Row (some ⟨b11, 0, none⟩) (Value.cells (Xb B0 B1 B2 B3 B4 B5 B6 B7 B8)).toList, SideF] a w := by exact h.sub sA
 refine Ze ?_
 refine gC h (zS (zp (Pure1.cast (v' := .bool true) (.lss rfl rfl) cgd) (zn (zs ?_)))); clear h; intro a w h
 refine Zi h rfl ?_
 refine gC h (zk (zs (zb (zS (zm rfl (za rfl (zn (yD Za [0, 1, 2, 3, 4, 5, 6, 7, 8, 9, 10, 11, 12, 13] (Zd kk) (yd rfl rfl mr isAgg41 sizeOf41 Zh ?_))))))))); clear h
 refine ym rfl rfl (ym rfl rfl (yp rfl (.indexAddr rfl rfl (Vk _ _)) (yp rfl (.indexAddr rfl rfl (Xt _ _)) (yd rfl rfl mr isAgg41 sizeOf41 Zuo ?_))))
 refine ym rfl rfl (ym rfl rfl (yp rfl (.indexAddr rfl rfl (Vk _ _)) (yp rfl (.indexAddr rfl rfl (Xt _ _)) ?_)))
 refine Zv (b := b11) (off := 0) (j := 5) (M := (Value.cells (Xb B0 B1 B2 B3 B4 B5 B6 B7 B8)).toList) (v := Zr (B1)) rfl kk rfl mm nb isAgg41 sizeOf41 rfl (.inl rfl) dd ?_
 refine yv [_, _] rfl rfl call18 (Jc _ _ oo oo) ?_
 have hl35 := Zm (Zl o n m 0 1) (B1)
 refine yv [_, _] rfl rfl call49 (Vu _ _ oo oo) ?_
 have hl36 := Qo (0 + ((Zl o n m 0 0) * B0)) ((Zl o n m 0 1) * B1)
 refine yt rfl rfl rfl Zp uu sizeOf41 rfl nb rfl ?_
 refine yn (zr (zp (Pure1.cast (v' := .int .i64 2) (.add rfl rfl) cgd) (zm rfl (zn ?_)))); intro a w h
 replace h : St 40 S w0 [(3, pB b11), (6, pB b6), (7, pB b7), (9, .int .i64 0), (18, .int .i64 0), (19, .bool true), (21, .int .i64 2), (22, .bool true)] [(b7, bV (Xb (Zl o n m 0 0) (Zl o n m 0 1) (Zl o n m 0 2) (Zl o n m 1 0) (Zl o n m 1 1) (Zl o n m 1 2) (Zl o n m 2 0) (Zl o n m 2 1) (Zl o n m 2 2)) 114), (b6, bV (Zr ((0 + ((Zl o n m 0 0) * B0)) + ((Zl o n m 0 1) * B1))) 41)] [Row (some ⟨b3, 0, none⟩) [.int .i64 ((o : Nat) : Int)], Row (some ⟨b11, 0, none⟩) (Value.cells (Xb B0 B1 B2 B3 B4 B5 B6 B7 B8)).toList, SideF] a w := by exact h.sub sA
 refine Ze ?_
 refine gC h (zS (zp (Pure1.cast (v' := .bool true) (.lss rfl rfl) cgd) (zn (zs ?_)))); clear h; intro a w h
 refine Zi h rfl ?_
 refine gC h (zk (zs (zb (zS (zm rfl (za rfl (zn (yD Za [0, 1, 2, 3, 4, 5, 6, 7, 8, 9, 10, 11, 12, 13] (Zd kk) (yd rfl rfl mr isAgg41 sizeOf41 Zh ?_))))))))); clear h
 refine ym rfl rfl (ym rfl rfl (yp rfl (.indexAddr rfl rfl (Vk _ _)) (yp rfl (.indexAddr rfl rfl (Yf _ _)) (yd rfl rfl mr isAgg41 sizeOf41 Zsd ?_))))
 refine ym rfl rfl (ym rfl rfl (yp rfl (.indexAddr rfl rfl (Vk _ _)) (yp rfl (.indexAddr rfl rfl (Yf _ _)) ?_)))
 refine Zv (b := b11) (off := 0) (j := 10) (M := (Value.cells (Xb B0 B1 B2 B3 B4 B5 B6 B7 B8)).toList) (v := Zr (B2)) rfl kk rfl mm nb isAgg41 sizeOf41 rfl (.inl rfl) dd ?_
 refine yv [_, _] rfl rfl call18 (Jc _ _ oo oo) ?_
 have hl35 := Zm (Zl o n m 0 2) (B2)
 refine yv [_, _] rfl rfl call49 (Vu _ _ oo oo) ?_
 have hl36 := Qo ((0 + ((Zl o n m 0 0) * B0)) + ((Zl o n m 0 1) * B1)) ((Zl o n m 0 2) * B2)
 refine yt rfl rfl rfl Zp uu sizeOf41 rfl nb rfl ?_
 refine yn (zr (zp (Pure1.cast (v' := .int .i64 3) (.add rfl rfl) cgd) (zm rfl (zn ?_)))); intro a w h
 replace h : St 40 S w0 [(3, pB b11), (6, pB b6), (7, pB b7), (9, .int .i64 0), (18, .int .i64 0), (19, .bool true), (21, .int .i64 3), (22, .bool true)] [(b7, bV (Xb (Zl o n m 0 0) (Zl o n m 0 1) (Zl o n m 0 2) (Zl o n m 1 0) (Zl o n m 1 1) (Zl o n m 1 2) (Zl o n m 2 0) (Zl o n m 2 1) (Zl o n m 2 2)) 114), (b6, bV (Zr (((0 + ((Zl o n m 0 0) * B0)) + ((Zl o n m 0 1) * B1)) + ((Zl o n m 0 2) * B2))) 41)] [Row (some ⟨b3, 0, none⟩) [.int .i64 ((o : Nat) : Int)], Row (some ⟨b11, 0, none⟩) (Value.cells (Xb B0 B1 B2 B3 B4 B5 B6 B7 B8)).toList, SideF] a w := by exact h.sub sA
 refine Ze ?_
 refine gC h (zS (zp (Pure1.cast (v' := .bool false) (.lss rfl rfl) cgd) (zn (zs ?_)))); clear h; intro a w h
 refine Zf h rfl ?_
 refine gC h (ze (zr (zp (Pure1.cast (v' := .int .i64 1) (.add rfl rfl) cgd) (zm rfl (zn ?_))))); clear h; intro a w h
 replace h : St 40 S w0 [(3, pB b11), (6, pB b6), (7, pB b7), (18, .int .i64 1), (19, .bool true), (22, .bool false)] [(b7, bV (Xb (Zl o n m 0 0) (Zl o n m 0 1) (Zl o n m 0 2) (Zl o n m 1 0) (Zl o n m 1 1) (Zl o n m 1 2) (Zl o n m 2 0) (Zl o n m 2 1) (Zl o n m 2 2)) 114), (b6, bV (Zr (((0 + ((Zl o n m 0 0) * B0)) + ((Zl o n m 0 1) * B1)) + ((Zl o n m 0 2) * B2))) 41)] [Row (some ⟨b3, 0, none⟩) [.int .i64 ((o : Nat) : Int)], Row (some ⟨b11, 0, none⟩) (Value.cells (Xb B0 B1 B2 B3 B4 B5 B6 B7 B8)).toList, SideF] a w := by exact h.sub sA
 refine Ze ?_
 refine gC h (zS (zp (Pure1.cast (v' := .bool true) (.lss rfl rfl) cgd) (zn (zs ?_)))); clear h; intro a w h
 refine Zi h rfl ?_
 refine gC h (zk (zs (zb (zS (zm rfl (za rfl (zn (zS (zm rfl (zn (zb ?_))))))))))); clear h; intro a w h
 refine wp_loop_rounds 4 ?_
 refine Ze ?_
 refine gC h (zS (zp (Pure1.cast (v' := .bool true) (.lss rfl rfl) cgd) (zn (zs ?_)))); clear h; intro a w h
 refine Zi h rfl ?_
 refine gC h (zk (zs (zb (zS (zm rfl (za rfl (zn (yD Za [0, 1, 2, 3, 4, 5, 6, 7, 8, 9, 10, 11, 12, 13] (Zd kk) (yd rfl rfl mr isAgg41 sizeOf41 Zh ?_))))))))); clear h
 refine ym rfl rfl (ym rfl rfl (yp rfl (.indexAddr rfl rfl (Vj _ _)) (yp rfl (.indexAddr rfl rfl (Yg _ _)) (yd rfl rfl mr isAgg41 sizeOf41 Zsc ?_))))
 refine ym rfl rfl (ym rfl rfl (yp rfl (.indexAddr rfl rfl (Vj _ _)) (yp rfl (.indexAddr rfl rfl (Yg _ _)) ?_)))
 refine Zv (b := b11) (off := 0) (j := 15) (M := (Value.cells (Xb B0 B1 B2 B3 B4 B5 B6 B7 B8)).toList) (v := Zr (B3)) rfl kk rfl mm nb isAgg41 sizeOf41 rfl (.inl rfl) dd ?_
 refine yv [_, _] rfl rfl call18 (Jc _ _ oo oo) ?_
 have hl35 := Zm (Zl o n m 1 0) (B3)
 refine yv [_, _] rfl rfl call49 (Vu _ _ oo oo) ?_
 have hl36 := Qo (((0 + ((Zl o n m 0 0) * B0)) + ((Zl o n m 0 1) * B1)) + ((Zl o n m 0 2) * B2)) ((Zl o n m 1 0) * B3)
 refine yt rfl rfl rfl Zp uu sizeOf41 rfl nb rfl ?_
 refine yn (zr (zp (Pure1.cast (v' := .int .i64 1) (.add rfl rfl) cgd) (zm rfl (zn ?_)))); intro a w h
 replace h : St 40 S w0 [(3, pB b11), (6, pB b6), (7, pB b7), (9, .int .i64 1), (18, .int .i64 1), (19, .bool true), (21, .int .i64 1), (22, .bool true)] [(b7, bV (Xb (Zl o n m 0 0) (Zl o n m 0 1) (Zl o n m 0 2) (Zl o n m 1 0) (Zl o n m 1 1) (Zl o n m 1 2) (Zl o n m 2 0) (Zl o n m 2 1) (Zl o n m 2 2)) 114), (b6, bV (Zr ((((0 + ((Zl o n m 0 0) * B0)) + ((Zl o n m 0 1) * B1)) + ((Zl o n m 0 2) * B2)) + ((Zl o n m 1 0) * B3))) 41)] [Row (some ⟨b3, 0, none⟩) [.int .i64 ((o : Nat) : Int)], Row (some ⟨b11, 0, none⟩) (Value.cells (Xb B0 B1 B2 B3 B4 B5 B6 B7 B8)).toList, SideF] a w := by exact h.sub sA
 refine Ze ?_
 refine gC h (zS (zp (Pure1.cast (v' := .bool true) (.lss rfl rfl) cgd) (zn (zs ?_)))); clear h; intro a w h
 refine Zi h rfl ?_
 refine gC h (zk (zs (zb (zS (zm rfl (za rfl (zn (yD Za [0, 1, 2, 3, 4, 5, 6, 7, 8, 9, 10, 11, 12, 13] (Zd kk) (yd rfl rfl mr isAgg41 sizeOf41 Zh ?_))))))))); clear h
 refine ym rfl rfl (ym rfl rfl (yp rfl (.indexAddr rfl rfl (Vj _ _)) (yp rfl (.indexAddr rfl rfl (Xt _ _)) (yd rfl rfl mr isAgg41 sizeOf41 Zsb ?_))))
 refine ym rfl rfl (ym rfl rfl (yp rfl (.indexAddr rfl rfl (Vj _ _)) (yp rfl (.indexAddr rfl rfl (Xt _ _)) ?_)))
 refine Zv (b := b11) (off := 0) (j := 20) (M := (Value.cells (Xb B0 B1 B2 B3 B4 B5 B6 B7 B8)).toList) (v := Zr (B4)) rfl kk rfl mm nb isAgg41 sizeOf41 rfl (.inl rfl) dd ?_
 refine yv [_, _] rfl rfl call18 (Jc _ _ oo oo) ?_
 have hl35 := Zm (Zl o n m 1 1) (B4)
 refine yv [_, _] rfl rfl call49 (Vu _ _ oo oo) ?_
 have hl36 := Qo ((((0 + ((Zl o n m 0 0) * B0)) + ((Zl o n m 0 1) * B1)) + ((Zl o n m 0 2) * B2)) + ((Zl o n m 1 0) * B3)) ((Zl o n m 1 1) * B4)
 refine yt rfl rfl rfl Zp uu sizeOf41 rfl nb rfl ?_
 refine yn (zr (zp (Pure1.cast (v' := .int .i64 2) (.add rfl rfl) cgd) (zm rfl (zn ?_)))); intro a w h
 replace h : St 40 S w0 [(3, pB b11), (6, pB b6), (7, pB b7), (9, .int .i64 1), (18, .int .i64 1), (19, .bool true), (21, .int .i64 2), (22, .bool true)] [(b7, bV (Xb (Zl o n m 0 0) (Zl o n m 0 1) (Zl o n m 0 2) (Zl o n m 1 0) (Zl o n m 1 1) (Zl o n m 1 2) (Zl o n m 2 0) (Zl o n m 2 1) (Zl o n m 2 2)) 114), (b6, bV (Zr (((((0 + ((Zl o n m 0 0) * B0)) + ((Zl o n m 0 1) * B1)) + ((Zl o n m 0 2) * B2)) + ((Zl o n m 1 0) * B3)) + ((Zl o n m 1 1) * B4))) 41)] [Row (some ⟨b3, 0, none⟩) [.int .i64 ((o : Nat) : Int)], Row (some ⟨b11, 0, none⟩) (Value.cells (Xb B0 B1 B2 B3 B4 B5 B6 B7 B8)).toList, SideF] a w := by exact h.sub sA
 refine Ze ?_
 refine gC h (zS (zp (Pure1.cast (v' := .bool true) (.lss rfl rfl) cgd) (zn (zs ?_)))); clear h; intro a w h
 refine Zi h rfl ?_
 refine gC h (zk (zs (zb (zS (zm rfl (za rfl (zn (yD Za [0, 1, 2, 3, 4, 5, 6, 7, 8, 9, 10, 11, 12, 13] (Zd kk) (yd rfl rfl mr isAgg41 sizeOf41 Zh ?_))))))))); clear h
 refine ym rfl rfl (ym rfl rfl (yp rfl (.indexAddr rfl rfl (Vj _ _)) (yp rfl (.indexAddr rfl rfl (Yf _ _)) (yd rfl rfl mr isAgg41 sizeOf41 Zsa ?_))))
 refine ym rfl rfl (ym rfl rfl (yp rfl (.indexAddr rfl rfl (Vj _ _)) (yp rfl (.indexAddr rfl rfl (Yf _ _)) ?_)))
 refine Zv (b := b11) (off := 0) (j := 25) (M := (Value.cells (Xb B0 B1 B2 B3 B4 B5 B6 B7 B8)).toList) (v := Zr (B5)) rfl kk rfl mm nb isAgg41 sizeOf41 rfl (.inl rfl) dd ?_
 refine yv [_, _] rfl rfl call18 (Jc _ _ oo oo) ?_
 have hl35 := Zm (Zl o n m 1 2) (B5)
 refine yv [_, _] rfl rfl call49 (Vu _ _ oo oo) ?_
 have hl36 := Qo (((((0 + ((Zl o n m 0 0) * B0)) + ((Zl o n m 0 1) * B1)) + ((Zl o n m 0 2) * B2)) + ((Zl o n m 1 0) * B3)) + ((Zl o n m 1 1) * B4)) ((Zl o n m 1 2) * B5)
 refine yt rfl rfl rfl Zp uu sizeOf41 rfl nb rfl ?_
 refine yn (zr (zp (Pure1.cast (v' := .int .i64 3) (.add rfl rfl) cgd) (zm rfl (zn ?_)))); intro a w h
 replace h : St 40 S w0 [(3, pB b11), (6, pB b6), (7, pB b7), (9, .int .i64 1), (18, .int .i64 1), (19, .bool true), (21, .int .i64 3), (22, .bool true)] [(b7, bV (Xb (Zl o n m 0 0) (Zl o n m 0 1) (Zl o n m 0 2) (Zl o n m 1 0) (Zl o n m 1 1) (Zl o n m 1 2) (Zl o n m 2 0) (Zl o n m 2 1) (Zl o n m 2 2)) 114), (b6, bV (Zr ((((((0 + ((Zl o n m 0 0) * B0)) + ((Zl o n m 0 1) * B1)) + ((Zl o n m 0 2) * B2)) + ((Zl o n m 1 0) * B3)) + ((Zl o n m 1 1) * B4)) + ((Zl o n m 1 2) * B5))) 41)] [Row (some ⟨b3, 0, none⟩) [.int .i64 ((o : Nat) : Int)], Row (some ⟨b11, 0, none⟩) (Value.cells (Xb B0 B1 B2 B3 B4 B5 B6 B7 B8)).toList, SideF] a w := by exact h.sub sA
 refine Ze ?_
 refine gC h (zS (zp (Pure1.cast (v' := .bool false) (.lss rfl rfl) cgd) (zn (zs ?_)))); clear h; intro a w h
 refine Zf h rfl ?_
 refine gC h (ze (zr (zp (Pure1.cast (v' := .int .i64 2) (.add rfl rfl) cgd) (zm rfl (zn ?_))))); clear h; intro a w h
 replace h : St 40 S w0 [(3, pB b11), (6, pB b6), (7, pB b7), (18, .int .i64 2), (19, .bool true), (22, .bool false)] [(b7, bV (Xb (Zl o n m 0 0) (Zl o n m 0 1) (Zl o n m 0 2) (Zl o n m 1 0) (Zl o n m 1 1) (Zl o n m 1 2) (Zl o n m 2 0) (Zl o n m 2 1) (Zl o n m 2 2)) 114), (b6, bV (Zr ((((((0 + ((Zl o n m 0 0) * B0)) + ((Zl o n m 0 1) * B1)) + ((Zl o n m 0 2) * B2)) + ((Zl o n m 1 0) * B3)) + ((Zl o n m 1 1) * B4)) + ((Zl o n m 1 2) * B5))) 41)] [Row (some ⟨b3, 0, none⟩) [.int .i64 ((o : Nat) : Int)], Row (some ⟨b11, 0, none⟩) (Value.cells (Xb B0 B1 B2 B3 B4 B5 B6 B7 B8)).toList, SideF] a w := by exact h.sub sA
 refine Ze ?_
 refine gC h (zS (zp (Pure1.cast (v' := .bool true) (.lss rfl rfl) cgd) (zn (zs ?_)))); clear h; intro a w h
 refine Zi h rfl ?_
 refine gC h (zk (zs (zb (zS (zm rfl (za rfl (zn (zS (zm rfl (zn (zb ?_))))))))))); clear h; intro a w h
 refine wp_loop_rounds 4 ?_
 refine Ze ?_
 refine gC h (zS (zp (Pure1.cast (v' := .bool true) (.lss rfl rfl) cgd) (zn (zs ?_)))); clear h; intro a w h
 refine Zi h rfl ?_
 refine gC h (zk (zs (zb (zS (zm rfl (za rfl (zn (yD Za [0, 1, 2, 3, 4, 5, 6, 7, 8, 9, 10, 11, 12, 13] (Zd kk) (yd rfl rfl mr isAgg41 sizeOf41 Zh ?_))))))))); clear h
 refine ym rfl rfl (ym rfl rfl (yp rfl (.indexAddr rfl rfl (Vi _ _)) (yp rfl (.indexAddr rfl rfl (Yg _ _)) (yd rfl rfl mr isAgg41 sizeOf41 Zr9 ?_))))
 refine ym rfl rfl (ym rfl rfl (yp rfl (.indexAddr rfl rfl (Vi _ _)) (yp rfl (.indexAddr rfl rfl (Yg _ _)) ?_)))
 refine Zv (b := b11) (off := 0) (j := 30) (M := (Value.cells (Xb B0 B1 B2 B3 B4 B5 B6 B7 B8)).toList) (v := Zr (B6)) rfl kk rfl mm nb isAgg41 sizeOf41 rfl (.inl rfl) dd ?_
 refine yv [_, _] rfl rfl call18 (Jc _ _ oo oo) ?_
 have hl35 := Zm (Zl o n m 2 0) (B6)
 refine yv [_, _] rfl rfl call49 (Vu _ _ oo oo) ?_
 have hl36 := Qo ((((((0 + ((Zl o n m 0 0) * B0)) + ((Zl o n m 0 1) * B1)) + ((Zl o n m 0 2) * B2)) + ((Zl o n m 1 0) * B3)) + ((Zl o n m 1 1) * B4)) + ((Zl o n m 1 2) * B5)) ((Zl o n m 2 0) * B6)
 refine yt rfl rfl rfl Zp uu sizeOf41 rfl nb rfl ?_
 refine yn (zr (zp (Pure1.cast (v' := .int .i64 1) (.add rfl rfl) cgd) (zm rfl (zn ?_)))); intro a w h
 replace h : St 40 S w0 [(3, pB b11), (6, pB b6), (7, pB b7), (9, .int .i64 2), (18, .int .i64 2), (19, .bool true), (21, .int .i64 1), (22, .bool true)] [(b7, bV (Xb (Zl o n m 0 0) (Zl o n m 0 1) (Zl o n m 0 2) (Zl o n m 1 0) (Zl o n m 1 1) (Zl o n m 1 2) (Zl o n m 2 0) (Zl o n m 2 1) (Zl o n m 2 2)) 114), (b6, bV (Zr (((((((0 + ((Zl o n m 0 0) * B0)) + ((Zl o n m 0 1) * B1)) + ((Zl o n m 0 2) * B2)) + ((Zl o n m 1 0) * B3)) + ((Zl o n m 1 1) * B4)) + ((Zl o n m 1 2) * B5)) + ((Zl o n m 2 0) * B6))) 41)] [Row (some ⟨b3, 0, none⟩) [.int .i64 ((o : Nat) : Int)], Row (some ⟨b11, 0, none⟩) (Value.cells (Xb B0 B1 B2 B3 B4 B5 B6 B7 B8)).toList, SideF] a w := by exact h.sub sA
 refine Ze ?_
 refine gC h (zS (zp (Pure1.cast (v' := .bool true) (.lss rfl rfl) cgd) (zn (zs ?_)))); clear h; intro a w h
 refine Zi h rfl ?_
 refine gC h (zk (zs (zb (zS (zm rfl (za rfl (zn (yD Za [0, 1, 2, 3, 4, 5, 6, 7, 8, 9, 10, 11, 12, 13] (Zd kk) (yd rfl rfl mr isAgg41 sizeOf41 Zh ?_))))))))); clear h
 refine ym rfl rfl (ym rfl rfl (yp rfl (.indexAddr rfl rfl (Vi _ _)) (yp rfl (.indexAddr rfl rfl (Xt _ _)) (yd rfl rfl mr isAgg41 sizeOf41 Zr8 ?_))))
 refine ym rfl rfl (ym rfl rfl (yp rfl (.indexAddr rfl rfl (Vi _ _)) (yp rfl (.indexAddr rfl rfl (Xt _ _)) ?_)))
 refine Zv (b := b11) (off := 0) (j := 35) (M := (Value.cells (Xb B0 B1 B2 B3 B4 B5 B6 B7 B8)).toList) (v := Zr (B7)) rfl kk rfl mm nb isAgg41 sizeOf41 rfl (.inl rfl) dd ?_
 refine yv [_, _] rfl rfl call18 (Jc _ _ oo oo) ?_
 have hl35 := Zm (Zl o n m 2 1) (B7)
 refine yv [_, _] rfl rfl call49 (Vu _ _ oo oo) ?_
 have hl36 := Qo (((((((0 + ((Zl o n m 0 0) * B0)) + ((Zl o n m 0 1) * B1)) + ((Zl o n m 0 2) * B2)) + ((Zl o n m 1 0) * B3)) + ((Zl o n m 1 1) * B4)) + ((Zl o n m 1 2) * B5)) + ((Zl o n m 2 0) * B6)) ((Zl o n m 2 1) * B7)
 refine yt rfl rfl rfl Zp uu sizeOf41 rfl nb rfl ?_
 refine yn (zr (zp (Pure1.cast (v' := .int .i64 2) (.add rfl rfl) cgd) (zm rfl (zn ?_)))); intro a w h
 replace h : St 40 S w0 [(3, pB b11), (6, pB b6), (7, pB b7), (9, .int .i64 2), (18, .int .i64 2), (19, .bool true), (21, .int .i64 2), (22, .bool true)] [(b7, bV (Xb (Zl o n m 0 0) (Zl o n m 0 1) (Zl o n m 0 2) (Zl o n m 1 0) (Zl o n m 1 1) (Zl o n m 1 2) (Zl o n m 2 0) (Zl o n m 2 1) (Zl o n m 2 2)) 114), (b6, bV (Zr ((((((((0 + ((Zl o n m 0 0) * B0)) + ((Zl o n m 0 1) * B1)) + ((Zl o n m 0 2) * B2)) + ((Zl o n m 1 0) * B3)) + ((Zl o n m 1 1) * B4)) + ((Zl o n m 1 2) * B5)) + ((Zl o n m 2 0) * B6)) + ((Zl o n m 2 1) * B7))) 41)] [Row (some ⟨b3, 0, none⟩) [.int .i64 ((o : Nat) : Int)], Row (some ⟨b11, 0, none⟩) (Value.cells (Xb B0 B1 B2 B3 B4 B5 B6 B7 B8)).toList, SideF] a w := by exact h.sub sA
 refine Ze ?_
 refine gC h (zS (zp (Pure1.cast (v' := .bool true) (.lss rfl rfl) cgd) (zn (zs ?_)))); clear h; intro a w h
 refine Zi h rfl ?_
 refine gC h (zk (zs (zb (zS (zm rfl (za rfl (zn (yD Za [0, 1, 2, 3, 4, 5, 6, 7, 8, 9, 10, 11, 12, 13] (Zd kk) (yd rfl rfl mr isAgg41 sizeOf41 Zh ?_))))))))); clear h
 refine ym rfl rfl (ym rfl rfl (yp rfl (.indexAddr rfl rfl (Vi _ _)) (yp rfl (.indexAddr rfl rfl (Yf _ _)) (yd rfl rfl mr isAgg41 sizeOf41 Zr7 ?_))))
 refine ym rfl rfl (ym rfl rfl (yp rfl (.indexAddr rfl rfl (Vi _ _)) (yp rfl (.indexAddr rfl rfl (Yf _ _)) ?_)))
 refine Zv (b := b11) (off := 0) (j := 40) (M := (Value.cells (Xb B0 B1 B2 B3 B4 B5 B6 B7 B8)).toList) (v := Zr (B8)) rfl kk rfl mm nb isAgg41 sizeOf41 rfl (.inl rfl) dd ?_
 refine yv [_, _] rfl rfl call18 (Jc _ _ oo oo) ?_
 have hl35 := Zm (Zl o n m 2 2) (B8)
 refine yv [_, _] rfl rfl call49 (Vu _ _ oo oo) ?_
 have hl36 := Qo ((((((((0 + ((Zl o n m 0 0) * B0)) + ((Zl o n m 0 1) * B1)) + ((Zl o n m 0 2) * B2)) + ((Zl o n m 1 0) * B3)) + ((Zl o n m 1 1) * B4)) + ((Zl o n m 1 2) * B5)) + ((Zl o n m 2 0) * B6)) + ((Zl o n m 2 1) * B7)) ((Zl o n m 2 2) * B8)
 refine yt rfl rfl rfl Zp uu sizeOf41 rfl nb rfl ?_
 refine yn (zr (zp (Pure1.cast (v' := .int .i64 3) (.add rfl rfl) cgd) (zm rfl (zn ?_)))); intro a w h
 replace h : St 40 S w0 [(3, pB b11), (6, pB b6), (7, pB b7), (9, .int .i64 2), (18, .int .i64 2), (19, .bool true), (21, .int .i64 3), (22, .bool true)] [(b7, bV (Xb (Zl o n m 0 0) (Zl o n m 0 1) (Zl o n m 0 2) (Zl o n m 1 0) (Zl o n m 1 1) (Zl o n m 1 2) (Zl o n m 2 0) (Zl o n m 2 1) (Zl o n m 2 2)) 114), (b6, bV (Zr (((((((((0 + ((Zl o n m 0 0) * B0)) + ((Zl o n m 0 1) * B1)) + ((Zl o n m 0 2) * B2)) + ((Zl o n m 1 0) * B3)) + ((Zl o n m 1 1) * B4)) + ((Zl o n m 1 2) * B5)) + ((Zl o n m 2 0) * B6)) + ((Zl o n m 2 1) * B7)) + ((Zl o n m 2 2) * B8))) 41)] [Row (some ⟨b3, 0, none⟩) [.int .i64 ((o : Nat) : Int)], Row (some ⟨b11, 0, none⟩) (Value.cells (Xb B0 B1 B2 B3 B4 B5 B6 B7 B8)).toList, SideF] a w := by exact h.sub sA
 refine Ze ?_
 refine gC h (zS (zp (Pure1.cast (v' := .bool false) (.lss rfl rfl) cgd) (zn (zs ?_)))); clear h; intro a w h
 refine Zf h rfl ?_
 refine gC h (ze (zr (zp (Pure1.cast (v' := .int .i64 3) (.add rfl rfl) cgd) (zm rfl (zn ?_))))); clear h; intro a w h
 replace h : St 40 S w0 [(3, pB b11), (6, pB b6), (7, pB b7), (18, .int .i64 3), (19, .bool true), (22, .bool false)] [(b7, bV (Xb (Zl o n m 0 0) (Zl o n m 0 1) (Zl o n m 0 2) (Zl o n m 1 0) (Zl o n m 1 1) (Zl o n m 1 2) (Zl o n m 2 0) (Zl o n m 2 1) (Zl o n m 2 2)) 114), (b6, bV (Zr (((((((((0 + ((Zl o n m 0 0) * B0)) + ((Zl o n m 0 1) * B1)) + ((Zl o n m 0 2) * B2)) + ((Zl o n m 1 0) * B3)) + ((Zl o n m 1 1) * B4)) + ((Zl o n m 1 2) * B5)) + ((Zl o n m 2 0) * B6)) + ((Zl o n m 2 1) * B7)) + ((Zl o n m 2 2) * B8))) 41)] [Row (some ⟨b3, 0, none⟩) [.int .i64 ((o : Nat) : Int)], Row (some ⟨b11, 0, none⟩) (Value.cells (Xb B0 B1 B2 B3 B4 B5 B6 B7 B8)).toList, SideF] a w := by exact h.sub sA
 refine Ze ?_
 refine gC h (zS (zp (Pure1.cast (v' := .bool false) (.lss rfl rfl) cgd) (zn (zs ?_)))); clear h; intro a w h
 refine Zf h rfl ?_
 refine gC h (ze (zS (zd rfl mr isAgg41 sizeOf41 Zh ?_)))
 refine zt' rfl rfl Zp uu sizeOf41 rfl nb rfl ?_; intro a w h
 refine wpList_nil (wp_ret ?_)
 refine Xd h (Zk h rfl (.cell rfl mr isAgg41 sizeOf41 Zh)) ?_
 rfl
theorem Zge (k : Rat × Rat × Rat) (g : Pt) {K Kk : Nat} (h1 : Zu k.1 ≤ Kk) (h2 : Zu k.2.1 ≤ Kk) (h3 : Zu k.2.2 ≤ Kk) (hg : PtK (10 * K + 6) g) : Zu (Xe k g).1 ≤ 30 * K + 2 * Kk + 40 ∧ Zu (Xe k g).2 ≤ 30 * K + 2 * Kk + 40 := by
 obtain ⟨g1, g2⟩ := hg
 have a3 := Qo (k.1 * g.1) (k.2.1 * g.2)
 have a4 := Qo (k.2.1 * g.1) (k.2.2 * g.2)
 have a5 := Zm k.1 g.1
 have a6 := Zm k.2.1 g.2
 have a7 := Zm k.2.1 g.1
 have a8 := Zm k.2.2 g.2
 unfold Xe; simp only; omega
set_option maxHeartbeats 1000000 in
theorem Zpm (o K Kk : Nat) (k : Rat × Rat × Rat) (ho : o = 1 ∨ o = 2) (pa pb pc : Pt) (ha : PtK K pa) (hb : PtK K pb) (hc : PtK K pc) (hK : K ≤ 1000) (hKk : Kk ≤ 1000) (hk1 : Zu k.1 ≤ Kk) (hk2 : Zu k.2.1 ≤ Kk) (hk3 : Zu k.2.2 ≤ Kk) (hT : 0 < (twP pa pb pc).num.sign) : Ctr Tryz.prog 10 [.int .i64 ((o : Nat) : Int), Ze3 k, Jb pa pb pc] [SideF] (fun v Ψ => ∃ ad', v = .tuple #[.agg #[.int .i64 ((Jj o : Nat) : Int), .int .i64 ((Jj o : Nat) : Int), .slice ad' ((Jj o) * (Jj o)) ((Jj o) * (Jj o))], .int .i64 0] ∧ Ψ = [Row ad' (cellsOf Zr (Za5 ((fun n m => stE o (byL k (Zw pa pb pc) (Zb pa pb pc)) n m)) (Jj o) (Jj o)))]) := by
 have hlA := Qaw ha hb hc
 obtain ⟨ha1, ha2⟩ := id ha
 obtain ⟨hb1, hb2⟩ := id hb
 obtain ⟨hc1, hc2⟩ := id hc
 obtain ⟨hg1, hg2, hg3⟩ := Zgi ha hb hc
 obtain ⟨hg11, hg12⟩ := id hg1
 obtain ⟨hg21, hg22⟩ := id hg2
 obtain ⟨hg31, hg32⟩ := id hg3
 have hbk := fun g h (hg : PtK (10 * K + 6) g) (hh : PtK (10 * K + 6) h) => Zqt k (Zw pa pb pc) g h hk1 hk2 hk3 hlA hg hh
 have hBL : ∀ x ∈ byL k (Zw pa pb pc) (Zb pa pb pc), Zu x ≤ 68 * K + 4 * Kk + 100 := fun x hx => by
  simp only [byL, List.mem_cons, List.not_mem_nil, or_false] at hx
  rcases hx with rfl | rfl | rfl | rfl | rfl | rfl | rfl | rfl | rfl
  · have := hbk _ _ hg1 hg1; omega
  · have := hbk _ _ hg1 hg2; omega
  · have := hbk _ _ hg1 hg3; omega
  · have := hbk _ _ hg2 hg1; omega
  · have := hbk _ _ hg2 hg2; omega
  · have := hbk _ _ hg2 hg3; omega
  · have := hbk _ _ hg3 hg1; omega
  · have := hbk _ _ hg3 hg2; omega
  · have := hbk _ _ hg3 hg3; omega
 refine fn_intro func10 rfl ntmps10 nb ?_
 intro S w0 a hS h
 refine gC h (zS (zx rfl fun b3 => ?_)); clear h; intro a w h
 replace h := h.shareAll hS ([.int .i64 ((o : Nat) : Int)]) rfl
 refine gL h (zx rfl fun b4 => zx rfl fun b5 => zz zeroValue57 fun b6 => za rfl (zn (zS (zp (.indexAddr rfl rfl (Xu _ _)) (zd rfl mr isAgg43 sizeOf43 Jy ?_)))))
 refine zp (.indexAddr rfl rfl (Xh _ _)) (zd rfl mr isAgg43 sizeOf43 Jn ?_)
 refine zp (.indexAddr rfl rfl (Xg _ _)) (zd rfl mr isAgg43 sizeOf43 Jm ?_)
 refine zv [_, _, _] rfl call41 (Znr pa pb pc oo oo oo oo oo oo (Zrq hT)) (zm rfl (zp (.eX rfl) (zp (.eX rfl) (zz Zcl fun b8 => zt' rfl rfl Vl uu sizeOf44 rfl nb rfl ?_))))
 refine za rfl (zn (zS (zp (.indexAddr rfl rfl (Xu _ _)) (zd rfl mr isAgg43 sizeOf43 Jy ?_))))
 refine zp (.indexAddr rfl rfl (Xh _ _)) (zd rfl mr isAgg43 sizeOf43 Jn ?_)
 refine zp (.indexAddr rfl rfl (Xg _ _)) (zd rfl mr isAgg43 sizeOf43 Jm ?_)
 refine zv [_, _, _] rfl call48 (Zl1 pa pb pc oo oo oo oo oo oo) ?_
 have hl33 := Za7 pa pb pc
 refine zz Ju fun b10 => zt' rfl rfl Zp uu sizeOf41 rfl nb rfl ?_
 refine zn (zS (zz Ztk fun b11 => zn (zs (zS (zd rfl mr isAgg44 sizeOf44 Qz ?_)))))
 refine zm rfl (zn (zb ?_)); intro a w h
 refine wp_loop_rounds 4 ?_
 refine Ze ?_
 refine gC h (zS (zp (Pure1.cast (v' := .bool true) (.lss rfl rfl) cgd) (zn (zs ?_)))); clear h; intro a w h
 refine Zi h rfl ?_
 refine gC h (zk (zs (zb (zS (zm rfl (zp (.index rfl rfl (Zhq _ _ _ _ _ _ _ _ _ _ _ _ _ _ _ _ _ _ _ _ _ _ _ _ _ _ _ _ _ _)) (zz Yc fun b13 => za rfl (zt' rfl rfl Qg uu sizeOf43 rfl nb rfl ?_))))))))
 refine zn (zs (yD Za [0, 1, 2, 3, 5, 6, 7, 8, 11, 12, 13, 14, 16, 17, 18, 19, 4, 9, 10, 15, 20, 21, 22, 23, 24] (Qs ⟨.inl rfl, .inl rfl, .inl rfl, .inl rfl, .inl rfl, .inl rfl, .inl rfl, .inl rfl, .inl rfl, .inl rfl, .inl rfl, .inl rfl, .inl rfl, .inl rfl, .inl rfl, .inl rfl, .inl rfl, .inl rfl, .inl rfl, .inl rfl, .inl rfl, .inl rfl, .inl rfl, .inr ⟨14, 43, _, _, _, rfl, rfl, by decide, _, Yc⟩, .inl rfl, trivial⟩) (yp rfl (.indexAddr rfl rfl (Yg _ _)) (yd rfl rfl mr isAgg41 sizeOf41 Zdt ?_))))
 refine yp rfl (.fA rfl Yu) (yd rfl rfl mr isAgg41 sizeOf41 Jf ?_)
 refine yp rfl (.indexAddr rfl rfl (Xt _ _)) (yd rfl rfl mr isAgg41 sizeOf41 Zaj ?_)
 refine yp rfl (.fA rfl Yt) (yd rfl rfl mr isAgg41 sizeOf41 Je ?_)
 refine yp rfl (.indexAddr rfl rfl (Xt _ _)) (yd rfl rfl mr isAgg41 sizeOf41 Zaj ?_)
 refine yp rfl (.fA rfl Yu) (yd rfl rfl mr isAgg41 sizeOf41 Jf ?_)
 refine yp rfl (.indexAddr rfl rfl (Yf _ _)) (yd rfl rfl mr isAgg41 sizeOf41 Zcp ?_)
 refine yp rfl (.fA rfl Yt) (yd rfl rfl mr isAgg41 sizeOf41 Je ?_)
 refine yv [_, _] rfl rfl call18 (Jc _ _ oo oo) ?_
 have hl43 := Zm (k.1) (((Zb pa pb pc).1).1)
 refine yv [_, _] rfl rfl call18 (Jc _ _ oo oo) ?_
 have hl48 := Zm (k.2.1) (((Zb pa pb pc).1).2)
 refine yv [_, _] rfl rfl call49 (Vu _ _ oo oo) ?_
 have hl49 := Qo (k.1 * (((Zb pa pb pc).1).1)) (k.2.1 * (((Zb pa pb pc).1).2))
 refine yv [_, _] rfl rfl call18 (Jc _ _ oo oo) ?_
 have hl54 := Zm (k.2.1) (((Zb pa pb pc).1).1)
 refine yv [_, _] rfl rfl call18 (Jc _ _ oo oo) ?_
 have hl59 := Zm (k.2.2) (((Zb pa pb pc).1).2)
 refine yv [_, _] rfl rfl call49 (Vu _ _ oo oo) ?_
 have hl60 := Qo (k.2.1 * (((Zb pa pb pc).1).1)) (k.2.2 * (((Zb pa pb pc).1).2))
 refine yp rfl (.build [(_, _), (_, _)] rfl (Zct _ _ _ _ _ _ _ _ _ _)) ?_
 have hfw : Zu (Xe k (Zb pa pb pc).1).1 ≤ 30 * K + 2 * Kk + 40 ∧ Zu (Xe k (Zb pa pb pc).1).2 ≤ 30 * K + 2 * Kk + 40 := Zge k (Zb pa pb pc).1 hk1 hk2 hk3 hg1
 refine yz rfl Yc fun b14 => yt rfl rfl rfl Qg uu sizeOf43 rfl nb rfl ?_
 refine yn (zS (zd rfl mr isAgg44 sizeOf44 Qz ?_))
 refine zm rfl (zn (zb ?_)); intro a w h
 refine wp_loop_rounds 4 ?_
 refine Ze ?_
 refine gC h (zS (zp (Pure1.cast (v' := .bool true) (.lss rfl rfl) cgd) (zn (zs ?_)))); clear h; intro a w h
 refine Zi h rfl ?_
 refine gC h (zk (zs (zb (zS (zm rfl (zp (.index rfl rfl (Zhq _ _ _ _ _ _ _ _ _ _ _ _ _ _ _ _ _ _ _ _ _ _ _ _ _ _ _ _ _ _)) (zz Yc fun b16 => za rfl (zt' rfl rfl Qg uu sizeOf43 rfl nb rfl ?_))))))))
 refine zn (yD Za [0, 1, 2, 3, 4, 7, 5, 6, 8, 9] (Zd kk) (ym rfl rfl (ym rfl rfl (yd rfl rfl mr isAgg41 sizeOf41 Zh ?_))))
 refine yd rfl rfl mr isAgg43 sizeOf43 Zj ?_
 refine yd rfl rfl mr isAgg43 sizeOf43 Zj ?_
 refine yp rfl (.indexAddr rfl rfl (Vk _ _)) (yv [_, _] rfl rfl call50 (Zbt (Xe k (Zb pa pb pc).1) ((Zb pa pb pc).1) oo oo oo oo) ?_)
 have hl72 := Yr (Xe k (Zb pa pb pc).1) ((Zb pa pb pc).1)
 refine yv [_, _] rfl rfl call18 (Jc _ _ oo oo) ?_
 have hl73 := Zm (Zw pa pb pc) (Gg (Xe k (Zb pa pb pc).1) ((Zb pa pb pc).1))
 refine yp rfl (.indexAddr rfl rfl (Yg _ _)) (yt rfl rfl rfl Zmf uu sizeOf41 rfl nb rfl ?_)
 refine yn (zr (zp (Pure1.cast (v' := .int .i64 1) (.add rfl rfl) cgd) (zm rfl (zn ?_)))); intro a w h
 replace h : St 84 S w0 [(3, pB b3), (4, pB b4), (5, pB b5), (6, pB b6), (7, .int .i64 0), (8, pB b8), (10, pB b10), (11, pB b11), (12, .int .i64 0), (14, pB b14), (34, Jb ((Zb pa pb pc).1) ((Zb pa pb pc).2.1) ((Zb pa pb pc).2.2)), (35, .int .i64 0), (36, .bool true), (62, Jb ((Zb pa pb pc).1) ((Zb pa pb pc).2.1) ((Zb pa pb pc).2.2)), (63, .int .i64 1), (64, .bool true)] [(b14, bV (Zbr ((Xe k (Zb pa pb pc).1).1) ((Xe k (Zb pa pb pc).1).2)) 43), (b13, bV (Zbr (((Zb pa pb pc).1).1) (((Zb pa pb pc).1).2)) 43), (b11, bV (Xb (byP k (Zw pa pb pc) (Zb pa pb pc).1 (Zb pa pb pc).1) 0 0 0 0 0 0 0 0) 114), (b10, bV (Zr (Zw pa pb pc)) 41), (b8, bV (Jb ((Zb pa pb pc).1) ((Zb pa pb pc).2.1) ((Zb pa pb pc).2.2)) 44), (b6, bV (.agg #[.int .i64 0, .int .i64 0, .slice none 0 0]) 57), (b5, bV (Jb pa pb pc) 44), (b4, bV (Ze3 (k)) 60)] [Row (some ⟨b3, 0, none⟩) ([.int .i64 ((o : Nat) : Int)]), SideF] a w := by exact (h.drop sl).sub sA
 refine Ze ?_
 refine gC h (zS (zp (Pure1.cast (v' := .bool true) (.lss rfl rfl) cgd) (zn (zs ?_)))); clear h; intro a w h
 refine Zi h rfl ?_
 refine gC h (zk (zs (zb (zS (zm rfl (zp (.index rfl rfl (Zhp _ _ _ _ _ _ _ _ _ _ _ _ _ _ _ _ _ _ _ _ _ _ _ _ _ _ _ _ _ _)) (zz Yc fun b16 => za rfl (zt' rfl rfl Qg uu sizeOf43 rfl nb rfl ?_))))))))
 refine zn (yD Za [0, 1, 2, 3, 4, 7, 5, 6, 8, 9] (Zd kk) (ym rfl rfl (ym rfl rfl (yd rfl rfl mr isAgg41 sizeOf41 Zh ?_))))
 refine yd rfl rfl mr isAgg43 sizeOf43 Zj ?_
 refine yd rfl rfl mr isAgg43 sizeOf43 Zj ?_
 refine yp rfl (.indexAddr rfl rfl (Vj _ _)) (yv [_, _] rfl rfl call50 (Zbt (Xe k (Zb pa pb pc).1) ((Zb pa pb pc).2.1) oo oo oo oo) ?_)
 have hl72 := Yr (Xe k (Zb pa pb pc).1) ((Zb pa pb pc).2.1)
 refine yv [_, _] rfl rfl call18 (Jc _ _ oo oo) ?_
 have hl73 := Zm (Zw pa pb pc) (Gg (Xe k (Zb pa pb pc).1) ((Zb pa pb pc).2.1))
 refine yp rfl (.indexAddr rfl rfl (Yg _ _)) (yt rfl rfl rfl Zj1 uu sizeOf41 rfl nb rfl ?_)
 refine yn (zr (zp (Pure1.cast (v' := .int .i64 2) (.add rfl rfl) cgd) (zm rfl (zn ?_)))); intro a w h
 replace h : St 84 S w0 [(3, pB b3), (4, pB b4), (5, pB b5), (6, pB b6), (7, .int .i64 0), (8, pB b8), (10, pB b10), (11, pB b11), (12, .int .i64 0), (14, pB b14), (34, Jb ((Zb pa pb pc).1) ((Zb pa pb pc).2.1) ((Zb pa pb pc).2.2)), (35, .int .i64 0), (36, .bool true), (62, Jb ((Zb pa pb pc).1) ((Zb pa pb pc).2.1) ((Zb pa pb pc).2.2)), (63, .int .i64 2), (64, .bool true)] [(b14, bV (Zbr ((Xe k (Zb pa pb pc).1).1) ((Xe k (Zb pa pb pc).1).2)) 43), (b13, bV (Zbr (((Zb pa pb pc).1).1) (((Zb pa pb pc).1).2)) 43), (b11, bV (Xb (byP k (Zw pa pb pc) (Zb pa pb pc).1 (Zb pa pb pc).1) 0 0 (byP k (Zw pa pb pc) (Zb pa pb pc).2.1 (Zb pa pb pc).1) 0 0 0 0 0) 114), (b10, bV (Zr (Zw pa pb pc)) 41), (b8, bV (Jb ((Zb pa pb pc).1) ((Zb pa pb pc).2.1) ((Zb pa pb pc).2.2)) 44), (b6, bV (.agg #[.int .i64 0, .int .i64 0, .slice none 0 0]) 57), (b5, bV (Jb pa pb pc) 44), (b4, bV (Ze3 (k)) 60)] [Row (some ⟨b3, 0, none⟩) ([.int .i64 ((o : Nat) : Int)]), SideF] a w := by exact (h.drop sl).sub sA
 refine Ze ?_
 refine gC h (zS (zp (Pure1.cast (v' := .bool true) (.lss rfl rfl) cgd) (zn (zs ?_)))); clear h; intro a w h
 refine Zi h rfl ?_
 refine gC h (zk (zs (zb (zS (zm rfl (zp (.index rfl rfl (Zho _ _ _ _ _ _ _ _ _ _ _ _ _ _ _ _ _ _ _ _ _ _ _ _ _ _ _ _ _ _)) (zz Yc fun b16 => za rfl (zt' rfl rfl Qg uu sizeOf43 rfl nb rfl ?_))))))))
 refine zn (yD Za [0, 1, 2, 3, 4, 7, 5, 6, 8, 9] (Zd kk) (ym rfl rfl (ym rfl rfl (yd rfl rfl mr isAgg41 sizeOf41 Zh ?_))))
 refine yd rfl rfl mr isAgg43 sizeOf43 Zj ?_
 refine yd rfl rfl mr isAgg43 sizeOf43 Zj ?_
 refine yp rfl (.indexAddr rfl rfl (Vi _ _)) (yv [_, _] rfl rfl call50 (Zbt (Xe k (Zb pa pb pc).1) ((Zb pa pb pc).2.2) oo oo oo oo) ?_)
 have hl72 := Yr (Xe k (Zb pa pb pc).1) ((Zb pa pb pc).2.2)
 refine yv [_, _] rfl rfl call18 (Jc _ _ oo oo) ?_
 have hl73 := Zm (Zw pa pb pc) (Gg (Xe k (Zb pa pb pc).1) ((Zb pa pb pc).2.2))
 refine yp rfl (.indexAddr rfl rfl (Yg _ _)) (yt rfl rfl rfl Zjy uu sizeOf41 rfl nb rfl ?_)
 refine yn (zr (zp (Pure1.cast (v' := .int .i64 3) (.add rfl rfl) cgd) (zm rfl (zn ?_)))); intro a w h
 replace h : St 84 S w0 [(3, pB b3), (4, pB b4), (5, pB b5), (6, pB b6), (7, .int .i64 0), (8, pB b8), (10, pB b10), (11, pB b11), (12, .int .i64 0), (14, pB b14), (34, Jb ((Zb pa pb pc).1) ((Zb pa pb pc).2.1) ((Zb pa pb pc).2.2)), (35, .int .i64 0), (36, .bool true), (62, Jb ((Zb pa pb pc).1) ((Zb pa pb pc).2.1) ((Zb pa pb pc).2.2)), (63, .int .i64 3), (64, .bool true)] [(b14, bV (Zbr ((Xe k (Zb pa pb pc).1).1) ((Xe k (Zb pa pb pc).1).2)) 43), (b13, bV (Zbr (((Zb pa pb pc).1).1) (((Zb pa pb pc).1).2)) 43), (b11, bV (Xb (byP k (Zw pa pb pc) (Zb pa pb pc).1 (Zb pa pb pc).1) 0 0 (byP k (Zw pa pb pc) (Zb pa pb pc).2.1 (Zb pa pb pc).1) 0 0 (byP k (Zw pa pb pc) (Zb pa pb pc).2.2 (Zb pa pb pc).1) 0 0) 114), (b10, bV (Zr (Zw pa pb pc)) 41), (b8, bV (Jb ((Zb pa pb pc).1) ((Zb pa pb pc).2.1) ((Zb pa pb pc).2.2)) 44), (b6, bV (.agg #[.int .i64 0, .int .i64 0, .slice none 0 0]) 57), (b5, bV (Jb pa pb pc) 44), (b4, bV (Ze3 (k)) 60)] [Row (some ⟨b3, 0, none⟩) ([.int .i64 ((o : Nat) : Int)]), SideF] a w := by exact (h.drop sl).sub sA
 refine Ze ?_
 refine gC h (zS (zp (Pure1.cast (v' := .bool false) (.lss rfl rfl) cgd) (zn (zs ?_)))); clear h; intro a w h
 refine Zf h rfl ?_
 refine gC h (ze (zr (zp (Pure1.cast (v' := .int .i64 1) (.add rfl rfl) cgd) (zm rfl (zn ?_))))); clear h; intro a w h
 replace h : St 84 S w0 [(3, pB b3), (4, pB b4), (5, pB b5), (6, pB b6), (7, .int .i64 0), (8, pB b8), (10, pB b10), (11, pB b11), (34, Jb ((Zb pa pb pc).1) ((Zb pa pb pc).2.1) ((Zb pa pb pc).2.2)), (35, .int .i64 1), (36, .bool true), (64, .bool false)] [(b11, bV (Xb (byP k (Zw pa pb pc) (Zb pa pb pc).1 (Zb pa pb pc).1) 0 0 (byP k (Zw pa pb pc) (Zb pa pb pc).2.1 (Zb pa pb pc).1) 0 0 (byP k (Zw pa pb pc) (Zb pa pb pc).2.2 (Zb pa pb pc).1) 0 0) 114), (b10, bV (Zr (Zw pa pb pc)) 41), (b8, bV (Jb ((Zb pa pb pc).1) ((Zb pa pb pc).2.1) ((Zb pa pb pc).2.2)) 44), (b6, bV (.agg #[.int .i64 0, .int .i64 0, .slice none 0 0]) 57), (b5, bV (Jb pa pb pc) 44), (b4, bV (Ze3 (k)) 60)] [Row (some ⟨b3, 0, none⟩) ([.int .i64 ((o : Nat) : Int)]), SideF] a w := by exact (h.drop sl).sub sA
 refine Ze ?_
 refine gC h (zS (zp (Pure1.cast (v' := .bool true) (.lss rfl rfl) cgd) (zn (zs ?_)))); clear h; intro a w h
 refine Zi h rfl ?_
 refine gC h (zk (zs (zb (zS (zm rfl (zp (.index rfl rfl (Zhp _ _ _ _ _ _ _ _ _ _ _ _ _ _ _ _ _ _ _ _ _ _ _ _ _ _ _ _ _ _)) (zz Yc fun b13 => za rfl (zt' rfl rfl Qg uu sizeOf43 rfl nb rfl ?_))))))))
 refine zn (zs (yD Za [0, 1, 2, 3, 5, 6, 7, 8, 11, 12, 13, 14, 16, 17, 18, 19, 4, 9, 10, 15, 20, 21, 22, 23, 24] (Qs ⟨.inl rfl, .inl rfl, .inl rfl, .inl rfl, .inl rfl, .inl rfl, .inl rfl, .inl rfl, .inl rfl, .inl rfl, .inl rfl, .inl rfl, .inl rfl, .inl rfl, .inl rfl, .inl rfl, .inl rfl, .inl rfl, .inl rfl, .inl rfl, .inl rfl, .inl rfl, .inl rfl, .inr ⟨14, 43, _, _, _, rfl, rfl, by decide, _, Yc⟩, .inl rfl, trivial⟩) (yp rfl (.indexAddr rfl rfl (Yg _ _)) (yd rfl rfl mr isAgg41 sizeOf41 Zdt ?_))))
 refine yp rfl (.fA rfl Yu) (yd rfl rfl mr isAgg41 sizeOf41 Jf ?_)
 refine yp rfl (.indexAddr rfl rfl (Xt _ _)) (yd rfl rfl mr isAgg41 sizeOf41 Zaj ?_)
 refine yp rfl (.fA rfl Yt) (yd rfl rfl mr isAgg41 sizeOf41 Je ?_)
 refine yp rfl (.indexAddr rfl rfl (Xt _ _)) (yd rfl rfl mr isAgg41 sizeOf41 Zaj ?_)
 refine yp rfl (.fA rfl Yu) (yd rfl rfl mr isAgg41 sizeOf41 Jf ?_)
 refine yp rfl (.indexAddr rfl rfl (Yf _ _)) (yd rfl rfl mr isAgg41 sizeOf41 Zcp ?_)
 refine yp rfl (.fA rfl Yt) (yd rfl rfl mr isAgg41 sizeOf41 Je ?_)
 refine yv [_, _] rfl rfl call18 (Jc _ _ oo oo) ?_
 have hl43 := Zm (k.1) (((Zb pa pb pc).2.1).1)
 refine yv [_, _] rfl rfl call18 (Jc _ _ oo oo) ?_
 have hl48 := Zm (k.2.1) (((Zb pa pb pc).2.1).2)
 refine yv [_, _] rfl rfl call49 (Vu _ _ oo oo) ?_
 have hl49 := Qo (k.1 * (((Zb pa pb pc).2.1).1)) (k.2.1 * (((Zb pa pb pc).2.1).2))
 refine yv [_, _] rfl rfl call18 (Jc _ _ oo oo) ?_
 have hl54 := Zm (k.2.1) (((Zb pa pb pc).2.1).1)
 refine yv [_, _] rfl rfl call18 (Jc _ _ oo oo) ?_
 have hl59 := Zm (k.2.2) (((Zb pa pb pc).2.1).2)
 refine yv [_, _] rfl rfl call49 (Vu _ _ oo oo) ?_
 have hl60 := Qo (k.2.1 * (((Zb pa pb pc).2.1).1)) (k.2.2 * (((Zb pa pb pc).2.1).2))
 refine yp rfl (.build [(_, _), (_, _)] rfl (Zct _ _ _ _ _ _ _ _ _ _)) ?_
 have hfw : Zu (Xe k (Zb pa pb pc).2.1).1 ≤ 30 * K + 2 * Kk + 40 ∧ Zu (Xe k (Zb pa pb pc).2.1).2 ≤ 30 * K + 2 * Kk + 40 := Zge k (Zb pa pb pc).2.1 hk1 hk2 hk3 hg2
 refine yz rfl Yc fun b14 => yt rfl rfl rfl Qg uu sizeOf43 rfl nb rfl ?_
 refine yn (zS (zd rfl mr isAgg44 sizeOf44 Qz ?_))
 refine zm rfl (zn (zb ?_)); intro a w h
 refine wp_loop_rounds 4 ?_
 refine Ze ?_
 refine gC h (zS (zp (Pure1.cast (v' := .bool true) (.lss rfl rfl) cgd) (zn (zs ?_)))); clear h; intro a w h
 refine Zi h rfl ?_
 refine gC h (zk (zs (zb (zS (zm rfl (zp (.index rfl rfl (Zhq _ _ _ _ _ _ _ _ _ _ _ _ _ _ _ _ _ _ _ _ _ _ _ _ _ _ _ _ _ _)) (zz Yc fun b16 => za rfl (zt' rfl rfl Qg uu sizeOf43 rfl nb rfl ?_))))))))
 refine zn (yD Za [0, 1, 2, 3, 4, 7, 5, 6, 8, 9] (Zd kk) (ym rfl rfl (ym rfl rfl (yd rfl rfl mr isAgg41 sizeOf41 Zh ?_))))
 refine yd rfl rfl mr isAgg43 sizeOf43 Zj ?_
 refine yd rfl rfl mr isAgg43 sizeOf43 Zj ?_
 refine yp rfl (.indexAddr rfl rfl (Vk _ _)) (yv [_, _] rfl rfl call50 (Zbt (Xe k (Zb pa pb pc).2.1) ((Zb pa pb pc).1) oo oo oo oo) ?_)
 have hl72 := Yr (Xe k (Zb pa pb pc).2.1) ((Zb pa pb pc).1)
 refine yv [_, _] rfl rfl call18 (Jc _ _ oo oo) ?_
 have hl73 := Zm (Zw pa pb pc) (Gg (Xe k (Zb pa pb pc).2.1) ((Zb pa pb pc).1))
 refine yp rfl (.indexAddr rfl rfl (Xt _ _)) (yt rfl rfl rfl Zme uu sizeOf41 rfl nb rfl ?_)
 refine yn (zr (zp (Pure1.cast (v' := .int .i64 1) (.add rfl rfl) cgd) (zm rfl (zn ?_)))); intro a w h
 replace h : St 84 S w0 [(3, pB b3), (4, pB b4), (5, pB b5), (6, pB b6), (7, .int .i64 0), (8, pB b8), (10, pB b10), (11, pB b11), (12, .int .i64 1), (14, pB b14), (34, Jb ((Zb pa pb pc).1) ((Zb pa pb pc).2.1) ((Zb pa pb pc).2.2)), (35, .int .i64 1), (36, .bool true), (62, Jb ((Zb pa pb pc).1) ((Zb pa pb pc).2.1) ((Zb pa pb pc).2.2)), (63, .int .i64 1), (64, .bool true)] [(b14, bV (Zbr ((Xe k (Zb pa pb pc).2.1).1) ((Xe k (Zb pa pb pc).2.1).2)) 43), (b13, bV (Zbr (((Zb pa pb pc).2.1).1) (((Zb pa pb pc).2.1).2)) 43), (b11, bV (Xb (byP k (Zw pa pb pc) (Zb pa pb pc).1 (Zb pa pb pc).1) (byP k (Zw pa pb pc) (Zb pa pb pc).1 (Zb pa pb pc).2.1) 0 (byP k (Zw pa pb pc) (Zb pa pb pc).2.1 (Zb pa pb pc).1) 0 0 (byP k (Zw pa pb pc) (Zb pa pb pc).2.2 (Zb pa pb pc).1) 0 0) 114), (b10, bV (Zr (Zw pa pb pc)) 41), (b8, bV (Jb ((Zb pa pb pc).1) ((Zb pa pb pc).2.1) ((Zb pa pb pc).2.2)) 44), (b6, bV (.agg #[.int .i64 0, .int .i64 0, .slice none 0 0]) 57), (b5, bV (Jb pa pb pc) 44), (b4, bV (Ze3 (k)) 60)] [Row (some ⟨b3, 0, none⟩) ([.int .i64 ((o : Nat) : Int)]), SideF] a w := by exact (h.drop sl).sub sA
 refine Ze ?_
 refine gC h (zS (zp (Pure1.cast (v' := .bool true) (.lss rfl rfl) cgd) (zn (zs ?_)))); clear h; intro a w h
 refine Zi h rfl ?_
 refine gC h (zk (zs (zb (zS (zm rfl (zp (.index rfl rfl (Zhp _ _ _ _ _ _ _ _ _ _ _ _ _ _ _ _ _ _ _ _ _ _ _ _ _ _ _ _ _ _)) (zz Yc fun b16 => za rfl (zt' rfl rfl Qg uu sizeOf43 rfl nb rfl ?_))))))))
 refine zn (yD Za [0, 1, 2, 3, 4, 7, 5, 6, 8, 9] (Zd kk) (ym rfl rfl (ym rfl rfl (yd rfl rfl mr isAgg41 sizeOf41 Zh ?_))))
 refine yd rfl rfl mr isAgg43 sizeOf43 Zj ?_
 refine yd rfl rfl mr isAgg43 sizeOf43 Zj ?_
 refine yp rfl (.indexAddr rfl rfl (Vj _ _)) (yv [_, _] rfl rfl call50 (Zbt (Xe k (Zb pa pb pc).2.1) ((Zb pa pb pc).2.1) oo oo oo oo) ?_)
 have hl72 := Yr (Xe k (Zb pa pb pc).2.1) ((Zb pa pb pc).2.1)
 refine yv [_, _] rfl rfl call18 (Jc _ _ oo oo) ?_
 have hl73 := Zm (Zw pa pb pc) (Gg (Xe k (Zb pa pb pc).2.1) ((Zb pa pb pc).2.1))
 refine yp rfl (.indexAddr rfl rfl (Xt _ _)) (yt rfl rfl rfl Zj0 uu sizeOf41 rfl nb rfl ?_)
 refine yn (zr (zp (Pure1.cast (v' := .int .i64 2) (.add rfl rfl) cgd) (zm rfl (zn ?_)))); intro a w h
 replace h : St 84 S w0 [(3, pB b3), (4, pB b4), (5, pB b5), (6, pB b6), (7, .int .i64 0), (8, pB b8), (10, pB b10), (11, pB b11), (12, .int .i64 1), (14, pB b14), (34, Jb ((Zb pa pb pc).1) ((Zb pa pb pc).2.1) ((Zb pa pb pc).2.2)), (35, .int .i64 1), (36, .bool true), (62, Jb ((Zb pa pb pc).1) ((Zb pa pb pc).2.1) ((Zb pa pb pc).2.2)), (63, .int .i64 2), (64, .bool true)] [(b14, bV (Zbr ((Xe k (Zb pa pb pc).2.1).1) ((Xe k (Zb pa pb pc).2.1).2)) 43), (b13, bV (Zbr (((Zb pa pb pc).2.1).1) (((Zb pa pb pc).2.1).2)) 43), (b11, bV (Xb (byP k (Zw pa pb pc) (Zb pa pb pc).1 (Zb pa pb pc).1) (byP k (Zw pa pb pc) (Zb pa pb pc).1 (Zb pa pb pc).2.1) 0 (byP k (Zw pa pb pc) (Zb pa pb pc).2.1 (Zb pa pb pc).1) (byP k (Zw pa pb pc) (Zb pa pb pc).2.1 (Zb pa pb pc).2.1) 0 (byP k (Zw pa pb pc) (Zb pa pb pc).2.2 (Zb pa pb pc).1) 0 0) 114), (b10, bV (Zr (Zw pa pb pc)) 41), (b8, bV (Jb ((Zb pa pb pc).1) ((Zb pa pb pc).2.1) ((Zb pa pb pc).2.2)) 44), (b6, bV (.agg #[.int .i64 0, .int .i64 0, .slice none 0 0]) 57), (b5, bV (Jb pa pb pc) 44), (b4, bV (Ze3 (k)) 60)] [Row (some ⟨b3, 0, none⟩) ([.int .i64 ((o : Nat) : Int)]), SideF] a w := by exact (h.drop sl).sub sA
 refine Ze ?_
 refine gC h (zS (zp (Pure1.cast (v' := .bool true) (.lss rfl rfl) cgd) (zn (zs ?_)))); clear h; intro a w h
 refine Zi h rfl ?_
 refine gC h (zk (zs (zb (zS (zm rfl (zp (.index rfl rfl (Zho _ _ _ _ _ _ _ _ _ _ _ _ _ _ _ _ _ _ _ _ _ _ _ _ _ _ _ _ _ _)) (zz Yc fun b16 => za rfl (zt' rfl rfl Qg uu sizeOf43 rfl nb rfl ?_))))))))
 refine zn (yD Za [0, 1, 2, 3, 4, 7, 5, 6, 8, 9] (Zd kk) (ym rfl rfl (ym rfl rfl (yd rfl rfl mr isAgg41 sizeOf41 Zh ?_))))
 refine yd rfl rfl mr isAgg43 sizeOf43 Zj ?_
 refine yd rfl rfl mr isAgg43 sizeOf43 Zj ?_
 refine yp rfl (.indexAddr rfl rfl (Vi _ _)) (yv [_, _] rfl rfl call50 (Zbt (Xe k (Zb pa pb pc).2.1) ((Zb pa pb pc).2.2) oo oo oo oo) ?_)
 have hl72 := Yr (Xe k (Zb pa pb pc).2.1) ((Zb pa pb pc).2.2)
 refine yv [_, _] rfl rfl call18 (Jc _ _ oo oo) ?_
 have hl73 := Zm (Zw pa pb pc) (Gg (Xe k (Zb pa pb pc).2.1) ((Zb pa pb pc).2.2))
 refine yp rfl (.indexAddr rfl rfl (Xt _ _)) (yt rfl rfl rfl Zjx uu sizeOf41 rfl nb rfl ?_)
 refine yn (zr (zp (Pure1.cast (v' := .int .i64 3) (.add rfl rfl) cgd) (zm rfl (zn ?_)))); intro a w h
 replace h : St 84 S w0 [(3, pB b3), (4, pB b4), (5, pB b5), (6, pB b6), (7, .int .i64 0), (8, pB b8), (10, pB b10), (11, pB b11), (12, .int .i64 1), (14, pB b14), (34, Jb ((Zb pa pb pc).1) ((Zb pa pb pc).2.1) ((Zb pa pb pc).2.2)), (35, .int .i64 1), (36, .bool true), (62, Jb ((Zb pa pb pc).1) ((Zb pa pb pc).2.1) ((Zb pa pb pc).2.2)), (63, .int .i64 3), (64, .bool true)] [(b14, bV (Zbr ((Xe k (Zb pa pb pc).2.1).1) ((Xe k (Zb pa pb pc).2.1).2)) 43), (b13, bV (Zbr (((Zb pa pb pc).2.1).1) (((Zb pa pb pc).2.1).2)) 43), (b11, bV (Xb (byP k (Zw pa pb pc) (Zb pa pb pc).1 (Zb pa pb pc).1) (byP k (Zw pa pb pc) (Zb pa pb pc).1 (Zb pa pb pc).2.1) 0 (byP k (Zw pa pb pc) (Zb pa pb pc).2.1 (Zb pa pb pc).1) (byP k (Zw pa pb pc) (Zb pa pb pc).2.1 (Zb pa pb pc).2.1) 0 (byP k (Zw pa pb pc) (Zb pa pb pc).2.2 (Zb pa pb pc).1) (byP k (Zw pa pb pc) (Zb pa pb pc).2.2 (Zb pa pb pc).2.1) 0) 114), (b10, bV (Zr (Zw pa pb pc)) 41), (b8, bV (Jb ((Zb pa pb pc).1) ((Zb pa pb pc).2.1) ((Zb pa pb pc).2.2)) 44), (b6, bV (.agg #[.int .i64 0, .int .i64 0, .slice none 0 0]) 57), (b5, bV (Jb pa pb pc) 44), (b4, bV (Ze3 (k)) 60)] [Row (some ⟨b3, 0, none⟩) ([.int .i64 ((o : Nat) : Int)]), SideF] a w := by exact (h.drop sl).sub sA
 refine Ze ?_
 refine gC h (zS (zp (Pure1.cast (v' := .bool false) (.lss rfl rfl) cgd) (zn (zs ?_)))); clear h; intro a w h
 refine Zf h rfl ?_
 refine gC h (ze (zr (zp (Pure1.cast (v' := .int .i64 2) (.add rfl rfl) cgd) (zm rfl (zn ?_))))); clear h; intro a w h
 replace h : St 84 S w0 [(3, pB b3), (4, pB b4), (5, pB b5), (6, pB b6), (7, .int .i64 0), (8, pB b8), (10, pB b10), (11, pB b11), (34, Jb ((Zb pa pb pc).1) ((Zb pa pb pc).2.1) ((Zb pa pb pc).2.2)), (35, .int .i64 2), (36, .bool true), (64, .bool false)] [(b11, bV (Xb (byP k (Zw pa pb pc) (Zb pa pb pc).1 (Zb pa pb pc).1) (byP k (Zw pa pb pc) (Zb pa pb pc).1 (Zb pa pb pc).2.1) 0 (byP k (Zw pa pb pc) (Zb pa pb pc).2.1 (Zb pa pb pc).1) (byP k (Zw pa pb pc) (Zb pa pb pc).2.1 (Zb pa pb pc).2.1) 0 (byP k (Zw pa pb pc) (Zb pa pb pc).2.2 (Zb pa pb pc).1) (byP k (Zw pa pb pc) (Zb pa pb pc).2.2 (Zb pa pb pc).2.1) 0) 114), (b10, bV (Zr (Zw pa pb pc)) 41), (b8, bV (Jb ((Zb pa pb pc).1) ((Zb pa pb pc).2.1) ((Zb pa pb pc).2.2)) 44), (b6, bV (.agg #[.int .i64 0, .int .i64 0, .slice none 0 0]) 57), (b5, bV (Jb pa pb pc) 44), (b4, bV (Ze3 (k)) 60)] [Row (some ⟨b3, 0, none⟩) ([.int .i64 ((o : Nat) : Int)]), SideF] a w := by exact (h.drop sl).sub sA
 refine Ze ?_
 refine gC h (zS (zp (Pure1.cast (v' := .bool true) (.lss rfl rfl) cgd) (zn (zs ?_)))); clear h; intro a w h
 refine Zi h rfl ?_
 refine gC h (zk (zs (zb (zS (zm rfl (zp (.index rfl rfl (Zho _ _ _ _ _ _ _ _ _ _ _ _ _ _ _ _ _ _ _ _ _ _ _ _ _ _ _ _ _ _)) (zz Yc fun b13 => za rfl (zt' rfl rfl Qg uu sizeOf43 rfl nb rfl ?_))))))))
 refine zn (zs (yD Za [0, 1, 2, 3, 5, 6, 7, 8, 11, 12, 13, 14, 16, 17, 18, 19, 4, 9, 10, 15, 20, 21, 22, 23, 24] (Qs ⟨.inl rfl, .inl rfl, .inl rfl, .inl rfl, .inl rfl, .inl rfl, .inl rfl, .inl rfl, .inl rfl, .inl rfl, .inl rfl, .inl rfl, .inl rfl, .inl rfl, .inl rfl, .inl rfl, .inl rfl, .inl rfl, .inl rfl, .inl rfl, .inl rfl, .inl rfl, .inl rfl, .inr ⟨14, 43, _, _, _, rfl, rfl, by decide, _, Yc⟩, .inl rfl, trivial⟩) (yp rfl (.indexAddr rfl rfl (Yg _ _)) (yd rfl rfl mr isAgg41 sizeOf41 Zdt ?_))))
 refine yp rfl (.fA rfl Yu) (yd rfl rfl mr isAgg41 sizeOf41 Jf ?_)
 refine yp rfl (.indexAddr rfl rfl (Xt _ _)) (yd rfl rfl mr isAgg41 sizeOf41 Zaj ?_)
 refine yp rfl (.fA rfl Yt) (yd rfl rfl mr isAgg41 sizeOf41 Je ?_)
 refine yp rfl (.indexAddr rfl rfl (Xt _ _)) (yd rfl rfl mr isAgg41 sizeOf41 Zaj ?_)
 refine yp rfl (.fA rfl Yu) (yd rfl rfl mr isAgg41 sizeOf41 Jf ?_)
 refine yp rfl (.indexAddr rfl rfl (Yf _ _)) (yd rfl rfl mr isAgg41 sizeOf41 Zcp ?_)
 refine yp rfl (.fA rfl Yt) (yd rfl rfl mr isAgg41 sizeOf41 Je ?_)
 refine yv [_, _] rfl rfl call18 (Jc _ _ oo oo) ?_
 have hl43 := Zm (k.1) (((Zb pa pb pc).2.2).1)
 refine yv [_, _] rfl rfl call18 (Jc _ _ oo oo) ?_
 have hl48 := Zm (k.2.1) (((Zb pa pb pc).2.2).2)
 refine yv [_, _] rfl rfl call49 (Vu _ _ oo oo) ?_
 have hl49 := Qo (k.1 * (((Zb pa pb pc).2.2).1)) (k.2.1 * (((Zb pa pb pc).2.2).2))
 refine yv [_, _] rfl rfl call18 (Jc _ _ oo oo) ?_
 have hl54 := Zm (k.2.1) (((Zb pa pb pc).2.2).1)
 refine yv [_, _] rfl rfl call18 (Jc _ _ oo oo) ?_
 have hl59 := Zm (k.2.2) (((Zb pa pb pc).2.2).2)
 refine yv [_, _] rfl rfl call49 (Vu _ _ oo oo) ?_
 have hl60 := Qo (k.2.1 * (((Zb pa pb pc).2.2).1)) (k.2.2 * (((Zb pa pb pc).2.2).2))
 refine yp rfl (.build [(_, _), (_, _)] rfl (Zct _ _ _ _ _ _ _ _ _ _)) ?_
 have hfw : Zu (Xe k (Zb pa pb pc).2.2).1 ≤ 30 * K + 2 * Kk + 40 ∧ Zu (Xe k (Zb pa pb pc).2.2).2 ≤ 30 * K + 2 * Kk + 40 := Zge k (Zb pa pb pc).2.2 hk1 hk2 hk3 hg3
 refine yz rfl Yc fun b14 => yt rfl rfl rfl Qg uu sizeOf43 rfl nb rfl ?_
 refine yn (zS (zd rfl mr isAgg44 sizeOf44 Qz ?_))
 refine zm rfl (zn (zb ?_)); intro a w h
 refine wp_loop_rounds 4 ?_
 refine Ze ?_
 refine gC h (zS (zp (Pure1.cast (v' := .bool true) (.lss rfl rfl) cgd) (zn (zs ?_)))); clear h; intro a w h
 refine Zi h rfl ?_
 refine gC h (zk (zs (zb (zS (zm rfl (zp (.index rfl rfl (Zhq _ _ _ _ _ _ _ _ _ _ _ _ _ _ _ _ _ _ _ _ _ _ _ _ _ _ _ _ _ _)) (zz Yc fun b16 => za rfl (zt' rfl rfl Qg uu sizeOf43 rfl nb rfl ?_))))))))
 refine zn (yD Za [0, 1, 2, 3, 4, 7, 5, 6, 8, 9] (Zd kk) (ym rfl rfl (ym rfl rfl (yd rfl rfl mr isAgg41 sizeOf41 Zh ?_))))
 refine yd rfl rfl mr isAgg43 sizeOf43 Zj ?_
 refine yd rfl rfl mr isAgg43 sizeOf43 Zj ?_
 refine yp rfl (.indexAddr rfl rfl (Vk _ _)) (yv [_, _] rfl rfl call50 (Zbt (Xe k (Zb pa pb pc).2.2) ((Zb pa pb pc).1) oo oo oo oo) ?_)
 have hl72 := Yr (Xe k (Zb pa pb pc).2.2) ((Zb pa pb pc).1)
 refine yv [_, _] rfl rfl call18 (Jc _ _ oo oo) ?_
 have hl73 := Zm (Zw pa pb pc) (Gg (Xe k (Zb pa pb pc).2.2) ((Zb pa pb pc).1))
 refine yp rfl (.indexAddr rfl rfl (Yf _ _)) (yt rfl rfl rfl Zj2 uu sizeOf41 rfl nb rfl ?_)
 refine yn (zr (zp (Pure1.cast (v' := .int .i64 1) (.add rfl rfl) cgd) (zm rfl (zn ?_)))); intro a w h
 replace h : St 84 S w0 [(3, pB b3), (4, pB b4), (5, pB b5), (6, pB b6), (7, .int .i64 0), (8, pB b8), (10, pB b10), (11, pB b11), (12, .int .i64 2), (14, pB b14), (34, Jb ((Zb pa pb pc).1) ((Zb pa pb pc).2.1) ((Zb pa pb pc).2.2)), (35, .int .i64 2), (36, .bool true), (62, Jb ((Zb pa pb pc).1) ((Zb pa pb pc).2.1) ((Zb pa pb pc).2.2)), (63, .int .i64 1), (64, .bool true)] [(b14, bV (Zbr ((Xe k (Zb pa pb pc).2.2).1) ((Xe k (Zb pa pb pc).2.2).2)) 43), (b13, bV (Zbr (((Zb pa pb pc).2.2).1) (((Zb pa pb pc).2.2).2)) 43), (b11, bV (Xb (byP k (Zw pa pb pc) (Zb pa pb pc).1 (Zb pa pb pc).1) (byP k (Zw pa pb pc) (Zb pa pb pc).1 (Zb pa pb pc).2.1) (byP k (Zw pa pb pc) (Zb pa pb pc).1 (Zb pa pb pc).2.2) (byP k (Zw pa pb pc) (Zb pa pb pc).2.1 (Zb pa pb pc).1) (byP k (Zw pa pb pc) (Zb pa pb pc).2.1 (Zb pa pb pc).2.1) 0 (byP k (Zw pa pb pc) (Zb pa pb pc).2.2 (Zb pa pb pc).1) (byP k (Zw pa pb pc) (Zb pa pb pc).2.2 (Zb pa pb pc).2.1) 0) 114), (b10, bV (Zr (Zw pa pb pc)) 41), (b8, bV (Jb ((Zb pa pb pc).1) ((Zb pa pb pc).2.1) ((Zb pa pb pc).2.2)) 44), (b6, bV (.agg #[.int .i64 0, .int .i64 0, .slice none 0 0]) 57), (b5, bV (Jb pa pb pc) 44), (b4, bV (Ze3 (k)) 60)] [Row (some ⟨b3, 0, none⟩) ([.int .i64 ((o : Nat) : Int)]), SideF] a w := by exact (h.drop sl).sub sA
 refine Ze ?_
 refine gC h (zS (zp (Pure1.cast (v' := .bool true) (.lss rfl rfl) cgd) (zn (zs ?_)))); clear h; intro a w h
 refine Zi h rfl ?_
 refine gC h (zk (zs (zb (zS (zm rfl (zp (.index rfl rfl (Zhp _ _ _ _ _ _ _ _ _ _ _ _ _ _ _ _ _ _ _ _ _ _ _ _ _ _ _ _ _ _)) (zz Yc fun b16 => za rfl (zt' rfl rfl Qg uu sizeOf43 rfl nb rfl ?_))))))))
 refine zn (yD Za [0, 1, 2, 3, 4, 7, 5, 6, 8, 9] (Zd kk) (ym rfl rfl (ym rfl rfl (yd rfl rfl mr isAgg41 sizeOf41 Zh ?_))))
 refine yd rfl rfl mr isAgg43 sizeOf43 Zj ?_
 refine yd rfl rfl mr isAgg43 sizeOf43 Zj ?_
 refine yp rfl (.indexAddr rfl rfl (Vj _ _)) (yv [_, _] rfl rfl call50 (Zbt (Xe k (Zb pa pb pc).2.2) ((Zb pa pb pc).2.1) oo oo oo oo) ?_)
 have hl72 := Yr (Xe k (Zb pa pb pc).2.2) ((Zb pa pb pc).2.1)
 refine yv [_, _] rfl rfl call18 (Jc _ _ oo oo) ?_
 have hl73 := Zm (Zw pa pb pc) (Gg (Xe k (Zb pa pb pc).2.2) ((Zb pa pb pc).2.1))
 refine yp rfl (.indexAddr rfl rfl (Yf _ _)) (yt rfl rfl rfl Zjz uu sizeOf41 rfl nb rfl ?_)
 refine yn (zr (zp (Pure1.cast (v' := .int .i64 2) (.add rfl rfl) cgd) (zm rfl (zn ?_)))); intro a w h
 replace h : St 84 S w0 [(3, pB b3), (4, pB b4), (5, pB b5), (6, pB b6), (7, .int .i64 0), (8, pB b8), (10, pB b10), (11, pB b11), (12, .int .i64 2), (14, pB b14), (34, Jb ((Zb pa pb pc).1) ((Zb pa pb pc).2.1) ((Zb pa pb pc).2.2)), (35, .int .i64 2), (36, .bool true), (62, Jb ((Zb pa pb pc).1) ((Zb pa pb pc).2.1) ((Zb pa pb pc).2.2)), (63, .int .i64 2), (64, .bool true)] [(b14, bV (Zbr ((Xe k (Zb pa pb pc).2.2).1) ((Xe k (Zb pa pb pc).2.2).2)) 43), (b13, bV (Zbr (((Zb pa pb pc).2.2).1) (((Zb pa pb pc).2.2).2)) 43), (b11, bV (Xb (byP k (Zw pa pb pc) (Zb pa pb pc).1 (Zb pa pb pc).1) (byP k (Zw pa pb pc) (Zb pa pb pc).1 (Zb pa pb pc).2.1) (byP k (Zw pa pb pc) (Zb pa pb pc).1 (Zb pa pb pc).2.2) (byP k (Zw pa pb pc) (Zb pa pb pc).2.1 (Zb pa pb pc).1) (byP k (Zw pa pb pc) (Zb pa pb pc).2.1 (Zb pa pb pc).2.1) (byP k (Zw pa pb pc) (Zb pa pb pc).2.1 (Zb pa pb pc).2.2) (byP k (Zw pa pb pc) (Zb pa pb pc).2.2 (Zb pa pb pc).1) (byP k (Zw pa pb pc) (Zb pa pb pc).2.2 (Zb pa pb pc).2.1) 0) 114), (b10, bV (Zr (Zw pa pb pc)) 41), (b8, bV (Jb ((Zb pa pb pc).1) ((Zb pa pb pc).2.1) ((Zb pa pb pc).2.2)) 44), (b6, bV (.agg #[.int .i64 0, .int .i64 0, .slice none 0 0]) 57), (b5, bV (Jb pa pb pc) 44), (b4, bV (Ze3 (k)) 60)] [Row (some ⟨b3, 0, none⟩) ([.int .i64 ((o : Nat) : Int)]), SideF] a w := by exact (h.drop sl).sub sA
 refine Ze ?_
 refine gC h (zS (zp (Pure1.cast (v' := .bool true) (.lss rfl rfl) cgd) (zn (zs ?_)))); clear h; intro a w h
 refine Zi h rfl ?_
 refine gC h (zk (zs (zb (zS (zm rfl (zp (.index rfl rfl (Zho _ _ _ _ _ _ _ _ _ _ _ _ _ _ _ _ _ _ _ _ _ _ _ _ _ _ _ _ _ _)) (zz Yc fun b16 => za rfl (zt' rfl rfl Qg uu sizeOf43 rfl nb rfl ?_))))))))
 refine zn (yD Za [0, 1, 2, 3, 4, 7, 5, 6, 8, 9] (Zd kk) (ym rfl rfl (ym rfl rfl (yd rfl rfl mr isAgg41 sizeOf41 Zh ?_))))
 refine yd rfl rfl mr isAgg43 sizeOf43 Zj ?_
 refine yd rfl rfl mr isAgg43 sizeOf43 Zj ?_
 refine yp rfl (.indexAddr rfl rfl (Vi _ _)) (yv [_, _] rfl rfl call50 (Zbt (Xe k (Zb pa pb pc).2.2) ((Zb pa pb pc).2.2) oo oo oo oo) ?_)
 have hl72 := Yr (Xe k (Zb pa pb pc).2.2) ((Zb pa pb pc).2.2)
 refine yv [_, _] rfl rfl call18 (Jc _ _ oo oo) ?_
 have hl73 := Zm (Zw pa pb pc) (Gg (Xe k (Zb pa pb pc).2.2) ((Zb pa pb pc).2.2))
 refine yp rfl (.indexAddr rfl rfl (Yf _ _)) (yt rfl rfl rfl Zjw uu sizeOf41 rfl nb rfl ?_)
 refine yn (zr (zp (Pure1.cast (v' := .int .i64 3) (.add rfl rfl) cgd) (zm rfl (zn ?_)))); intro a w h
 replace h : St 84 S w0 [(3, pB b3), (4, pB b4), (5, pB b5), (6, pB b6), (7, .int .i64 0), (8, pB b8), (10, pB b10), (11, pB b11), (12, .int .i64 2), (14, pB b14), (34, Jb ((Zb pa pb pc).1) ((Zb pa pb pc).2.1) ((Zb pa pb pc).2.2)), (35, .int .i64 2), (36, .bool true), (62, Jb ((Zb pa pb pc).1) ((Zb pa pb pc).2.1) ((Zb pa pb pc).2.2)), (63, .int .i64 3), (64, .bool true)] [(b14, bV (Zbr ((Xe k (Zb pa pb pc).2.2).1) ((Xe k (Zb pa pb pc).2.2).2)) 43), (b13, bV (Zbr (((Zb pa pb pc).2.2).1) (((Zb pa pb pc).2.2).2)) 43), (b11, bV (Xb (byP k (Zw pa pb pc) (Zb pa pb pc).1 (Zb pa pb pc).1) (byP k (Zw pa pb pc) (Zb pa pb pc).1 (Zb pa pb pc).2.1) (byP k (Zw pa pb pc) (Zb pa pb pc).1 (Zb pa pb pc).2.2) (byP k (Zw pa pb pc) (Zb pa pb pc).2.1 (Zb pa pb pc).1) (byP k (Zw pa pb pc) (Zb pa pb pc).2.1 (Zb pa pb pc).2.1) (byP k (Zw pa pb pc) (Zb pa pb pc).2.1 (Zb pa pb pc).2.2) (byP k (Zw pa pb pc) (Zb pa pb pc).2.2 (Zb pa pb pc).1) (byP k (Zw pa pb pc) (Zb pa pb pc).2.2 (Zb pa pb pc).2.1) (byP k (Zw pa pb pc) (Zb pa pb pc).2.2 (Zb pa pb pc).2.2)) 114), (b10, bV (Zr (Zw pa pb pc)) 41), (b8, bV (Jb ((Zb pa pb pc).1) ((Zb pa pb pc).2.1) ((Zb pa pb pc).2.2)) 44), (b6, bV (.agg #[.int .i64 0, .int .i64 0, .slice none 0 0]) 57), (b5, bV (Jb pa pb pc) 44), (b4, bV (Ze3 (k)) 60)] [Row (some ⟨b3, 0, none⟩) ([.int .i64 ((o : Nat) : Int)]), SideF] a w := by exact (h.drop sl).sub sA
 refine Ze ?_
 refine gC h (zS (zp (Pure1.cast (v' := .bool false) (.lss rfl rfl) cgd) (zn (zs ?_)))); clear h; intro a w h
 refine Zf h rfl ?_
 refine gC h (ze (zr (zp (Pure1.cast (v' := .int .i64 3) (.add rfl rfl) cgd) (zm rfl (zn ?_))))); clear h; intro a w h
 replace h : St 84 S w0 [(3, pB b3), (4, pB b4), (5, pB b5), (6, pB b6), (7, .int .i64 0), (8, pB b8), (10, pB b10), (11, pB b11), (34, Jb ((Zb pa pb pc).1) ((Zb pa pb pc).2.1) ((Zb pa pb pc).2.2)), (35, .int .i64 3), (36, .bool true), (64, .bool false)] [(b11, bV (Xb (byP k (Zw pa pb pc) (Zb pa pb pc).1 (Zb pa pb pc).1) (byP k (Zw pa pb pc) (Zb pa pb pc).1 (Zb pa pb pc).2.1) (byP k (Zw pa pb pc) (Zb pa pb pc).1 (Zb pa pb pc).2.2) (byP k (Zw pa pb pc) (Zb pa pb pc).2.1 (Zb pa pb pc).1) (byP k (Zw pa pb pc) (Zb pa pb pc).2.1 (Zb pa pb pc).2.1) (byP k (Zw pa pb pc) (Zb pa pb pc).2.1 (Zb pa pb pc).2.2) (byP k (Zw pa pb pc) (Zb pa pb pc).2.2 (Zb pa pb pc).1) (byP k (Zw pa pb pc) (Zb pa pb pc).2.2 (Zb pa pb pc).2.1) (byP k (Zw pa pb pc) (Zb pa pb pc).2.2 (Zb pa pb pc).2.2)) 114), (b10, bV (Zr (Zw pa pb pc)) 41), (b8, bV (Jb ((Zb pa pb pc).1) ((Zb pa pb pc).2.1) ((Zb pa pb pc).2.2)) 44), (b6, bV (.agg #[.int .i64 0, .int .i64 0, .slice none 0 0]) 57), (b5, bV (Jb pa pb pc) 44), (b4, bV (Ze3 (k)) 60)] [Row (some ⟨b3, 0, none⟩) ([.int .i64 ((o : Nat) : Int)]), SideF] a w := by exact (h.drop sl).sub sA
 refine Ze ?_
 refine gC h (zS (zp (Pure1.cast (v' := .bool false) (.lss rfl rfl) cgd) (zn (zs ?_)))); clear h; intro a w h
 refine Zf h rfl ?_
 refine gC h (ze (zS (zD (b := b3) (off := 0) (j := 0) (M := [.int .i64 ((o : Nat) : Int)]) (v := .int .i64 ((o : Nat) : Int)) rfl mm (Nat.succ_pos _) isAgg3 sizeOf3 rfl (.inr rfl) ?_)))
 refine zd rfl mr isAgg44 sizeOf44 Qz ?_; intro a w h
 replace h := h.shareAll hS ((Value.cells (Xb (byP k (Zw pa pb pc) (Zb pa pb pc).1 (Zb pa pb pc).1) (byP k (Zw pa pb pc) (Zb pa pb pc).1 (Zb pa pb pc).2.1) (byP k (Zw pa pb pc) (Zb pa pb pc).1 (Zb pa pb pc).2.2) (byP k (Zw pa pb pc) (Zb pa pb pc).2.1 (Zb pa pb pc).1) (byP k (Zw pa pb pc) (Zb pa pb pc).2.1 (Zb pa pb pc).2.1) (byP k (Zw pa pb pc) (Zb pa pb pc).2.1 (Zb pa pb pc).2.2) (byP k (Zw pa pb pc) (Zb pa pb pc).2.2 (Zb pa pb pc).1) (byP k (Zw pa pb pc) (Zb pa pb pc).2.2 (Zb pa pb pc).2.1) (byP k (Zw pa pb pc) (Zb pa pb pc).2.2 (Zb pa pb pc).2.2))).toList) rfl
 refine gL h (zp (.makeFunc [] [_, _] rfl rfl) (zf [_, _, _] rfl call51 (Zrc 52 [.pointer (some ⟨b3, 0, none⟩), .pointer (some ⟨b11, 0, none⟩)] [Row (some ⟨b3, 0, none⟩) [.int .i64 ((o : Nat) : Int)], Row (some ⟨b11, 0, none⟩) (Value.cells (Xb (byP k (Zw pa pb pc) (Zb pa pb pc).1 (Zb pa pb pc).1) (byP k (Zw pa pb pc) (Zb pa pb pc).1 (Zb pa pb pc).2.1) (byP k (Zw pa pb pc) (Zb pa pb pc).1 (Zb pa pb pc).2.2) (byP k (Zw pa pb pc) (Zb pa pb pc).2.1 (Zb pa pb pc).1) (byP k (Zw pa pb pc) (Zb pa pb pc).2.1 (Zb pa pb pc).2.1) (byP k (Zw pa pb pc) (Zb pa pb pc).2.1 (Zb pa pb pc).2.2) (byP k (Zw pa pb pc) (Zb pa pb pc).2.2 (Zb pa pb pc).1) (byP k (Zw pa pb pc) (Zb pa pb pc).2.2 (Zb pa pb pc).2.1) (byP k (Zw pa pb pc) (Zb pa pb pc).2.2 (Zb pa pb pc).2.2))).toList, SideF] (fun n m => stE o (byL k (Zw pa pb pc) (Zb pa pb pc)) n m) o K ho pa pb pc ha hb hc hK hT call52 (fun n hn m hm => Zz7 o n m b3 b11 (68 * K + 4 * Kk + 100) (byP k (Zw pa pb pc) (Zb pa pb pc).1 (Zb pa pb pc).1) (byP k (Zw pa pb pc) (Zb pa pb pc).1 (Zb pa pb pc).2.1) (byP k (Zw pa pb pc) (Zb pa pb pc).1 (Zb pa pb pc).2.2) (byP k (Zw pa pb pc) (Zb pa pb pc).2.1 (Zb pa pb pc).1) (byP k (Zw pa pb pc) (Zb pa pb pc).2.1 (Zb pa pb pc).2.1) (byP k (Zw pa pb pc) (Zb pa pb pc).2.1 (Zb pa pb pc).2.2) (byP k (Zw pa pb pc) (Zb pa pb pc).2.2 (Zb pa pb pc).1) (byP k (Zw pa pb pc) (Zb pa pb pc).2.2 (Zb pa pb pc).2.1) (byP k (Zw pa pb pc) (Zb pa pb pc).2.2 (Zb pa pb pc).2.2) ho hn hm oo hBL)) ?_)); rintro v81 Ψ81 ⟨ad81, rfl, rfl⟩
 refine zp (.eX rfl) (zp (.eX rfl) (zt' rfl rfl Qt uu sizeOf57 rfl nb rfl ?_))
 refine za rfl (zn (zt ?_)); intro a w h
 refine Xr (Ψ := [Row ad81 (cellsOf Zr (Za5 (fun n m => stE o (byL k (Zw pa pb pc) (Zb pa pb pc)) n m) (Jj o) (Jj o)))]) h (Qq h rfl (.cell rfl mr isAgg57 sizeOf57 Qa) (.tmp rfl)) ?_ ss
 exact ⟨ad81, rfl, rfl⟩
end
end Go.Proofs.YthcjdeklpegceaaGreatDoor
