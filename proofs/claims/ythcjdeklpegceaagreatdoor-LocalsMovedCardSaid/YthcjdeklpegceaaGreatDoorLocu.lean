/- Walks of functions. By an AI agent. -/
import Derived.Test.YthcjdeklpegceaaGreatDoorLocr
set_option linter.unusedVariables false
set_option linter.unusedSimpArgs false
set_option maxRecDepth 4000
namespace Go.Proofs.YthcjdeklpegceaaGreatDoor
open Go Go.Proofs Go.Fx Tryz
attribute [local irreducible] Oper.wp Code.wp wpList Fx.Head wpOp Qc
section
theorem Zv5 {b off : Nat} (w : World) : (Instr.fieldAt 32 (.pointer (some ⟨b, off, none⟩)) 1).run Tryz.prog w = .ok (.pointer (some ⟨b, off + 1, none⟩)) w := by
 simp [go_sem]
theorem Zmn {c0 c1 c2 c3 c4 c5 c6 c7 c8 c9 c10 c11 c12 c13 c14 c15 c16 c17 c18 c19 c20 c21 c22 c23 c24 c25 c26 c27 c28 c29 c30 c31 c32 c33 c34 : Value} : Qe true 6 #[c0, c1, c2, c3, c4, c5, c6, c7, c8, c9, c10, c11, c12, c13, c14, c15, c16, c17, c18, c19, c20, c21, c22, c23, c24, c25, c26, c27, c28, c29, c30, c31, c32, c33, c34] 1 = some (.agg #[c1, c2, c3, c4, c5, c6]) := rfl
theorem Zpt {c0 c1 c2 c3 c4 c5 v0 v1 v2 v3 v4 v5 : Value} : Qc #[c0, c1, c2, c3, c4, c5] 0 [v0, v1, v2, v3, v4, v5] = #[v0, v1, v2, v3, v4, v5] := by kernel_rfl
theorem Zv4 {b off : Nat} (w : World) : (Instr.fieldAt 32 (.pointer (some ⟨b, off, none⟩)) 2).run Tryz.prog w = .ok (.pointer (some ⟨b, off + 7, none⟩)) w := by
 simp [go_sem]
theorem Zj7 {c0 c1 c2 c3 c4 c5 c6 c7 c8 c9 c10 c11 c12 c13 c14 c15 c16 c17 c18 c19 c20 c21 c22 c23 c24 c25 c26 c27 c28 c29 c30 c31 c32 c33 c34 : Value} : Qe true 12 #[c0, c1, c2, c3, c4, c5, c6, c7, c8, c9, c10, c11, c12, c13, c14, c15, c16, c17, c18, c19, c20, c21, c22, c23, c24, c25, c26, c27, c28, c29, c30, c31, c32, c33, c34] 7 = some (.agg #[c7, c8, c9, c10, c11, c12, c13, c14, c15, c16, c17, c18]) := rfl
theorem Zv6 {b off : Nat} (w : World) : (Instr.fieldAt 32 (.pointer (some ⟨b, off, none⟩)) 0).run Tryz.prog w = .ok (.pointer (some ⟨b, off + 0, none⟩)) w := by
 simp [go_sem]
theorem Zuk {c0 c1 c2 c3 c4 c5 c6 c7 c8 c9 c10 c11 c12 c13 c14 c15 c16 c17 c18 c19 c20 c21 c22 c23 c24 c25 c26 c27 c28 c29 c30 c31 c32 c33 c34 : Value} : Qe false 1 #[c0, c1, c2, c3, c4, c5, c6, c7, c8, c9, c10, c11, c12, c13, c14, c15, c16, c17, c18, c19, c20, c21, c22, c23, c24, c25, c26, c27, c28, c29, c30, c31, c32, c33, c34] 0 = some c0 := rfl
theorem Zv3 {b off : Nat} (w : World) : (Instr.fieldAt 32 (.pointer (some ⟨b, off, none⟩)) 3).run Tryz.prog w = .ok (.pointer (some ⟨b, off + 19, none⟩)) w := by
 simp [go_sem]
theorem Zhj {c0 c1 c2 c3 c4 c5 : Value} : Qe true 6 #[c0, c1, c2, c3, c4, c5] 0 = some (.agg #[c0, c1, c2, c3, c4, c5]) := rfl
end
section
theorem mv_K {f : Rat} {p a : Pt} (hf : Zu f ≤ 4) (hp : PtK 4 p) (ha : PtK 4 a) : PtK 13 (mvP f p a) := by
 have h1 := Zsn (Zg5 a f) p
 have h2 := Zsm (Zg5 a f) p
 have h3 := Ge a f
 have h4 := Gd a f
 obtain ⟨ha1, ha2⟩ := ha
 obtain ⟨hp1, hp2⟩ := hp
 exact ⟨by unfold mvP; omega, by unfold mvP; omega⟩
theorem mv_T {f : Rat} (hf : f ≠ 0) {p a b c : Pt} (hT : 0 < (twP a b c).num.sign) : 0 < (twP (mvP f p a) (mvP f p b) (mvP f p c)).num.sign := by
 rw [Qbb]
 have h := Zkv.1 hT
 refine Zkv.2 (Rat.mul_pos ?_ h)
 rcases Rat.le_total (a := f) (b := 0) with h1 | h1
 ·
  have h2 : 0 < -f := by grind
  have := Rat.mul_pos h2 h2
  grind
 ·
  have h2 : 0 < f := by grind
  exact Rat.mul_pos h2 h2
theorem Zn0 (x : Rat) (hx : Zu x ≤ 1000000) : Xm Tryz.prog 28 [Zr x] (Zr (x * x)) := by
 refine fn_intro func28 rfl ntmps28 nb ?_
 intro S w0 a hS h
 refine gC h (zS (zx rfl fun b1 => zz Ju fun b2 => zn (zS (zd rfl mr isAgg41 sizeOf41 Zh ?_))))
 refine zd rfl mr isAgg41 sizeOf41 Zh ?_
 refine zv [_, _] rfl call18 (Jc _ _ oo oo) ?_
 have hl5 := Zm (x) (x)
 refine zt' rfl rfl Zp uu sizeOf41 rfl nb rfl ?_; intro a w h
 refine wpList_nil (wp_ret ?_)
 refine Xd h (Zk h rfl (.cell rfl mr isAgg41 sizeOf41 Zh)) ?_
 rfl
theorem Zri (A B : List Rat) (ad ad2 : Option Addr) (hA : A.length = 9) (e : A = B) : Gh Tryz.prog 29 [.agg #[.int .i64 3, .int .i64 3, .slice ad 9 9], .agg #[.int .i64 3, .int .i64 3, .slice ad2 9 9]] [Row ad (cellsOf Zr A), Row ad2 (cellsOf Zr B)] (.bool true) := by
 have := Zw4 3 3 A B ad ad2 9 9 dd dd hA (e ▸ hA)
 rwa [decide_eq_true e] at this
theorem Zxb (k : Rat) (A : List Rat) (ad : Option Addr) (hA : A.length = 9) (hk : Zu k ≤ 10000000) (hKA : ∀ x ∈ A, Zu x ≤ 10000) : Ctr Tryz.prog 27 [Zr k, .agg #[.int .i64 3, .int .i64 3, .slice ad 9 9]] [Row ad (cellsOf Zr A)] (fun v Ψ => ∃ ad', v = .tuple #[.agg #[.int .i64 3, .int .i64 3, .slice ad' 9 9], .int .i64 0] ∧ Ψ = [Row ad' (cellsOf Zr (Za5 (fun i j => k * A.getD (i * 3 + j) 0) 3 3))]) :=
 Zrd k 3 3 A ad 9 dd dd dd dd hA hk (fun x hx => Nat.le_trans (hKA x hx) dd)
theorem Zxl (A B : List Rat) (ad ad2 : Option Addr) (c2 : Nat) (hA : A.length = 9) (hB : B.length = 3) (hKA : ∀ x ∈ A, Zu x ≤ 10000) (hKB : ∀ x ∈ B, Zu x ≤ 10000) : Ctr Tryz.prog 30 [.agg #[.int .i64 3, .int .i64 3, .slice ad 9 9], .slice ad2 3 c2] [Row ad (cellsOf Zr A), Row ad2 (cellsOf Zr B)] (fun v Ψ => ∃ ad' cp', v = .tuple #[.slice ad' 3 cp', .int .i64 0] ∧ Ψ = [Row ad' (cellsOf Zr (mkL (Zjg A B 3) 3))]) :=
 Zxm 3 3 A B ad ad2 9 c2 dd dd dd dd hA hB rfl 10000 hKA hKB dd
theorem Qdr (f : Nat → Rat) (ad : Option Addr) (c : Nat) (hz : ∀ i, i < 3 → f i = 0) : Gh Tryz.prog 31 [.slice ad 3 c] [Row ad (cellsOf Zr (mkL f 3))] (Zr 0) := by
 have := Zwy (mkL f 3) ad c (by rw [Zbn]; decide) (fun i hi => by rw [Zbn] at hi; rw [Zot _ hi]; exact hz i hi)
 rwa [Zbn] at this
theorem Zt1 (k : Rat × Rat × Rat) {f : Rat} (hf : f ≠ 0) (p : Pt) {a b c : Pt} (h : twP a b c ≠ 0) : Za5 (fun n m => stE 1 (byL k (Zw a b c) (Zb a b c)) n m) 3 3 = Za5 (fun n m => stE 1 (byL k (Zw (mvP f p a) (mvP f p b) (mvP f p c)) (Zb (mvP f p a) (mvP f p b) (mvP f p c))) n m) 3 3 := by
 rw [Qav hf k h p]
theorem Zyq (f : Rat) (p a b c : Pt) : Za5 (fun i j => f * f * (Za5 (fun n m => Zch 1 n m * Zw a b c) 3 3).getD (i * 3 + j) 0) 3 3 = Za5 (fun n m => Zch 1 n m * Zw (mvP f p a) (mvP f p b) (mvP f p c)) 3 3 :=
 Zke fun i hi k hk => by rw [Zhl _ hi hk, Zpg]; grind
theorem Zoo (k : Rat × Rat × Rat) (a b c : Pt) : ∀ i, i < 3 → Zjg (Za5 (fun n m => stE 1 (byL k (Zw a b c) (Zb a b c)) n m) 3 3) [((1 : Int) : Rat), ((1 : Int) : Rat), ((1 : Int) : Rat)] 3 i = 0 := by
 intro i hi
 have h1 : ∀ k, k < 3 → ([((1 : Int) : Rat), ((1 : Int) : Rat), ((1 : Int) : Rat)] : List Rat).getD k 0 = ((1 : Int) : Rat) := by decide +kernel
 have h2 := Zh2 (o := 1) (Or.inl rfl) k (Zw a b c) a b c (n := i) hi
 refine Eq.trans (Za3 fun m hm => ?_) h2
 rw [Zhl _ hi hm, h1 m hm]
theorem Zrh (A B : List Rat) (ad ad2 : Option Addr) (hA : A.length = 36) (e : A = B) : Gh Tryz.prog 29 [.agg #[.int .i64 6, .int .i64 6, .slice ad 36 36], .agg #[.int .i64 6, .int .i64 6, .slice ad2 36 36]] [Row ad (cellsOf Zr A), Row ad2 (cellsOf Zr B)] (.bool true) := by
 have := Zw4 6 6 A B ad ad2 36 36 dd dd hA (e ▸ hA)
 rwa [decide_eq_true e] at this
theorem Zxa (k : Rat) (A : List Rat) (ad : Option Addr) (hA : A.length = 36) (hk : Zu k ≤ 10000000) (hKA : ∀ x ∈ A, Zu x ≤ 10000) : Ctr Tryz.prog 27 [Zr k, .agg #[.int .i64 6, .int .i64 6, .slice ad 36 36]] [Row ad (cellsOf Zr A)] (fun v Ψ => ∃ ad', v = .tuple #[.agg #[.int .i64 6, .int .i64 6, .slice ad' 36 36], .int .i64 0] ∧ Ψ = [Row ad' (cellsOf Zr (Za5 (fun i j => k * A.getD (i * 6 + j) 0) 6 6))]) :=
 Zrd k 6 6 A ad 36 dd dd dd dd hA hk (fun x hx => Nat.le_trans (hKA x hx) dd)
theorem Zxk (A B : List Rat) (ad ad2 : Option Addr) (c2 : Nat) (hA : A.length = 36) (hB : B.length = 6) (hKA : ∀ x ∈ A, Zu x ≤ 10000) (hKB : ∀ x ∈ B, Zu x ≤ 10000) : Ctr Tryz.prog 30 [.agg #[.int .i64 6, .int .i64 6, .slice ad 36 36], .slice ad2 6 c2] [Row ad (cellsOf Zr A), Row ad2 (cellsOf Zr B)] (fun v Ψ => ∃ ad' cp', v = .tuple #[.slice ad' 6 cp', .int .i64 0] ∧ Ψ = [Row ad' (cellsOf Zr (mkL (Zjg A B 6) 6))]) :=
 Zxm 6 6 A B ad ad2 36 c2 dd dd dd dd hA hB rfl 10000 hKA hKB dd
theorem Qdq (f : Nat → Rat) (ad : Option Addr) (c : Nat) (hz : ∀ i, i < 6 → f i = 0) : Gh Tryz.prog 31 [.slice ad 6 c] [Row ad (cellsOf Zr (mkL f 6))] (Zr 0) := by
 have := Zwy (mkL f 6) ad c (by rw [Zbn]; decide) (fun i hi => by rw [Zbn] at hi; rw [Zot _ hi]; exact hz i hi)
 rwa [Zbn] at this
theorem Zt0 (k : Rat × Rat × Rat) {f : Rat} (hf : f ≠ 0) (p : Pt) {a b c : Pt} (h : twP a b c ≠ 0) : Za5 (fun n m => stE 2 (byL k (Zw a b c) (Zb a b c)) n m) 6 6 = Za5 (fun n m => stE 2 (byL k (Zw (mvP f p a) (mvP f p b) (mvP f p c)) (Zb (mvP f p a) (mvP f p b) (mvP f p c))) n m) 6 6 := by
 rw [Qav hf k h p]
theorem Zyp (f : Rat) (p a b c : Pt) : Za5 (fun i j => f * f * (Za5 (fun n m => Zch 2 n m * Zw a b c) 6 6).getD (i * 6 + j) 0) 6 6 = Za5 (fun n m => Zch 2 n m * Zw (mvP f p a) (mvP f p b) (mvP f p c)) 6 6 :=
 Zke fun i hi k hk => by rw [Zhl _ hi hk, Zpg]; grind
theorem Zon (k : Rat × Rat × Rat) (a b c : Pt) : ∀ i, i < 6 → Zjg (Za5 (fun n m => stE 2 (byL k (Zw a b c) (Zb a b c)) n m) 6 6) [((1 : Int) : Rat), ((1 : Int) : Rat), ((1 : Int) : Rat), ((1 : Int) : Rat), ((1 : Int) : Rat), ((1 : Int) : Rat)] 6 i = 0 := by
 intro i hi
 have h1 : ∀ k, k < 6 → ([((1 : Int) : Rat), ((1 : Int) : Rat), ((1 : Int) : Rat), ((1 : Int) : Rat), ((1 : Int) : Rat), ((1 : Int) : Rat)] : List Rat).getD k 0 = ((1 : Int) : Rat) := by decide +kernel
 have h2 := Zh2 (o := 2) (Or.inr rfl) k (Zw a b c) a b c (n := i) hi
 refine Eq.trans (Za3 fun m hm => ?_) h2
 rw [Zhl _ hi hm, h1 m hm]
end
section
theorem Zj8 {c0 c1 c2 c3 c4 c5 c6 c7 c8 c9 c10 c11 c12 c13 c14 c15 c16 c17 c18 c19 c20 c21 c22 c23 c24 c25 c26 c27 c28 c29 c30 c31 c32 c33 c34 : Value} : Qe true 2 #[c0, c1, c2, c3, c4, c5, c6, c7, c8, c9, c10, c11, c12, c13, c14, c15, c16, c17, c18, c19, c20, c21, c22, c23, c24, c25, c26, c27, c28, c29, c30, c31, c32, c33, c34] 19 = some (.agg #[c19, c20]) := rfl
theorem Zgl {b off : Nat} (w : World) : (Instr.fieldAt 32 (.pointer (some ⟨b, off, none⟩)) 4).run Tryz.prog w = .ok (.pointer (some ⟨b, off + 31, none⟩)) w := by
 simp [go_sem]
theorem Za4 {c0 c1 c2 c3 c4 c5 c6 c7 c8 c9 c10 c11 c12 c13 c14 c15 c16 c17 c18 c19 c20 c21 c22 c23 c24 c25 c26 c27 c28 c29 c30 c31 c32 c33 c34 : Value} : Qe true 4 #[c0, c1, c2, c3, c4, c5, c6, c7, c8, c9, c10, c11, c12, c13, c14, c15, c16, c17, c18, c19, c20, c21, c22, c23, c24, c25, c26, c27, c28, c29, c30, c31, c32, c33, c34] 31 = some (.agg #[c31, c32, c33, c34]) := rfl
theorem Zj4 {c0 c1 c2 c3 c4 c5 c6 c7 c8 c9 c10 c11 c12 c13 c14 c15 c16 c17 c18 c19 c20 c21 c22 c23 c24 c25 c26 c27 c28 c29 v0 v1 v2 v3 v4 v5 v6 v7 v8 v9 : Value} : Qc #[c0, c1, c2, c3, c4, c5, c6, c7, c8, c9, c10, c11, c12, c13, c14, c15, c16, c17, c18, c19, c20, c21, c22, c23, c24, c25, c26, c27, c28, c29] 0 [v0, v1, v2, v3, v4, v5, v6, v7, v8, v9] = #[v0, v1, v2, v3, v4, v5, v6, v7, v8, v9, c10, c11, c12, c13, c14, c15, c16, c17, c18, c19, c20, c21, c22, c23, c24, c25, c26, c27, c28, c29] := by kernel_rfl
set_option maxHeartbeats 2000000 in
theorem Zjr (k0 k1 k2 : Int × Int) (p0 p1 p2 : (Int × Int) × (Int × Int)) (v0 v1 v2 v3 v4 v5 : Int × Int) (pm : (Int × Int) × (Int × Int)) (hk0 : OkQ k0) (hk1 : OkQ k1) (hk2 : OkQ k2) (hp0 : OkP p0) (hp1 : OkP p1) (hp2 : OkP p2) (hv0 : OkQ v0) (hv1 : OkQ v1) (hv2 : OkQ v2) (hv3 : OkQ v3) (hv4 : OkQ v4) (hv5 : OkQ v5) (hpm : OkP pm) : Gh Tryz.prog 4 [.agg #[.bool false, .int .i64 k0.1, .int .u32 k0.2, .int .i64 k1.1, .int .u32 k1.2, .int .i64 k2.1, .int .u32 k2.2, .int .i64 p0.1.1, .int .u32 p0.1.2, .int .i64 p0.2.1, .int .u32 p0.2.2, .int .i64 p1.1.1, .int .u32 p1.1.2, .int .i64 p1.2.1, .int .u32 p1.2.2, .int .i64 p2.1.1, .int .u32 p2.1.2, .int .i64 p2.2.1, .int .u32 p2.2.2, .int .i64 v0.1, .int .u32 v0.2, .int .i64 v1.1, .int .u32 v1.2, .int .i64 v2.1, .int .u32 v2.2, .int .i64 v3.1, .int .u32 v3.2, .int .i64 v4.1, .int .u32 v4.2, .int .i64 v5.1, .int .u32 v5.2, .int .i64 pm.1.1, .int .u32 pm.1.2, .int .i64 pm.2.1, .int .u32 pm.2.2]] [SideF] (.bool true) := by
 have hv0K := Qy hv0
 obtain ⟨hpm1, hpm2⟩ := Ks hpm
 refine fn_intro func4 rfl ntmps4 nb ?_
 intro S w0 a hS h
 replace h := h.derive (R := Row none (cellsOf Qh [])) (fun X _ hne => absurd rfl hne)
 refine gC h (zS (zx rfl fun b1 => za rfl (zn (zS (zp (.fA rfl Zv5) (zd rfl mr isAgg25 sizeOf25 Zmn ?_))))))
 refine zz zeroValue25 fun b3 => zt' rfl rfl Zpt uu sizeOf25 rfl nb rfl ?_
 refine zn (zS (zp (.fA rfl Zv4) (zd rfl mr isAgg29 sizeOf29 Zj7 ?_))); intro a w h
 refine Zc (Jd h (vs := [_]) rfl call5 (Znx p0 p1 p2 hp0 hp1 hp2) (by exact hsA) dd ?_); clear h; rintro v28 Ψ28 a w ⟨pa, pb, pc, ha, hb, hc, rfl, rfl⟩ h
 obtain ⟨ha1, ha2⟩ := id ha
 obtain ⟨hb1, hb2⟩ := id hb
 obtain ⟨hc1, hc2⟩ := id hc
 refine gL h (zm rfl (zp (.eX rfl) (zp (.eX rfl) (zz Zcl fun b4 => zt' rfl rfl Vl uu sizeOf44 rfl nb rfl ?_))))
 refine za rfl (zn (zS (zp (.fA rfl Zv3) (zp (.indexAddr rfl rfl (Zqu _ _)) (zd rfl mr isAgg24 sizeOf24 Zj8 ?_)))))
 refine zv [_] rfl call19 (Zjj v0 (by assumption)) ?_
 have hl34 := Qy (q := v0) (by assumption)
 refine zz Ju fun b6 => zt' rfl rfl Zp uu sizeOf41 rfl nb rfl ?_
 refine zn (zs (zS (zm rfl (zp (.unOp rfl (Yp _)) ?_)))); intro a w h
 refine Qp h (fun hc36 h => ?_) (fun hc36 h => ?_)
 focus
  skip
  refine gL h (zm rfl (zo 37 rfl rfl rfl (zo 37 rfl rfl rfl (zo 37 rfl rfl rfl (zp (.pickT rfl rfl) (zn ?_)))))); clear h; intro a w h
 rotate_left
 focus
  have hT : 0 < (twP pa pb pc).num.sign := by simpa using hc36
  refine gL h (zm rfl ?_); clear h; intro a w h
  refine Zt 37 h rfl rfl (Qd h rfl mr isAgg41 sizeOf41 Zh dd ?_); clear h; intro a h
  refine Zt 37 h rfl rfl (Zay h (vs := [_]) rfl call23 (Zeb (qvp v0)) dd ?_); clear h; intro a w h
  refine gL h (zq 37 rfl rfl (.eql rfl rfl) ?_); clear h; intro a w h
  refine Qp h (fun hc40 h => ?_) (fun hc40 h => ?_)
  rotate_left
  ·
   skip
   have hf0 : qvp v0 ≠ 0 := fun e => by rw [e] at hc40; exact absurd hc40 dd
   refine gL h (zp (.pickF rfl rfl) (zn ?_)); clear h; intro a w h
   refine cW ?_
   refine Zf h rfl ?_
   refine gC h (zk (zS (zp (.fA rfl Zv6) (zd rfl mr isAgg4 sizeOf4 Zuk ?_))))
   refine zv [_] rfl call7 (Qab) (za rfl (zn (zS (zz Zcl fun b8 => zn (zs (zS (za rfl (zn (zb ?_))))))))); intro a w h
   refine wp_loop_rounds 4 ?_
   refine Ze ?_
   refine gC h (zs (zS (zm rfl (zp (Pure1.cast (v' := .bool true) (.lss rfl rfl) cgd) (zn ?_))))); clear h; intro a w h
   refine cW ?_
   refine Zi h rfl ?_
   refine gC h (zk (zs (zb (yD Za [0, 1, 2, 3, 4, 6, 7, 5, 8, 9, 10, 11] (Zd kk) (ym rfl rfl (ym rfl rfl (yp rfl (.indexAddr rfl rfl (Xu _ _)) (yd rfl rfl mr isAgg43 sizeOf43 Jy ?_)))))))); clear h
   refine yd rfl rfl mr isAgg41 sizeOf41 Zh ?_
   refine yp rfl (.fA rfl Zgl) (yd rfl rfl mr isAgg27 sizeOf27 Za4 ?_)
   refine yv [_, _] rfl rfl call25 (Zbs pa (qvp v0) oo oo oo) ?_
   have hl55 := Ge pa (qvp v0)
   have hl55 := Gd pa (qvp v0)
   refine yv [_] rfl rfl call26 (Zdf pm (by assumption)) ?_
   have hl58 := (Ks (q := pm) (by assumption)).1
   have hl58 := (Ks (q := pm) (by assumption)).2
   refine yv [_, _] rfl rfl call24 (Zgq _ _ oo oo oo oo) (yp rfl (.indexAddr rfl rfl (Xu _ _)) (yt rfl rfl rfl Zj4 uu sizeOf43 rfl nb rfl ?_))
   refine yn (zr ?_); intro a w h
   obtain ⟨qa, hyqa⟩ : ∃ G, Zth (Zg5 pa (qvp v0)) (ptv pm) = G := ⟨_, rfl⟩
   rw [hyqa] at h
   refine gL h (zm rfl (zp (Pure1.cast (v' := .int .i64 1) (.add rfl rfl) cgd) (za rfl (zn ?_)))); clear h; intro a w h
   replace h : St 156 S w0 [(1, _), (2, .bool false), (3, _), (4, _), (6, _), (7, .int .i64 1), (8, _), (9, .int .i64 1), (47, .bool true)] _ _ a w := h.sub sA
   refine Ze ?_
   refine gC h (zs (zS (zm rfl (zp (Pure1.cast (v' := .bool true) (.lss rfl rfl) cgd) (zn ?_))))); clear h; intro a w h
   refine cW ?_
   refine Zi h rfl ?_
   refine gC h (zk (zs (zb (yD Za [0, 1, 2, 3, 4, 6, 7, 5, 8, 9, 10, 11] (Zd kk) (ym rfl rfl (ym rfl rfl (yp rfl (.indexAddr rfl rfl (Xh _ _)) (yd rfl rfl mr isAgg43 sizeOf43 Jn ?_)))))))); clear h
   refine yd rfl rfl mr isAgg41 sizeOf41 Zh ?_
   refine yp rfl (.fA rfl Zgl) (yd rfl rfl mr isAgg27 sizeOf27 Za4 ?_)
   refine yv [_, _] rfl rfl call25 (Zbs pb (qvp v0) oo oo oo) ?_
   have hl55 := Ge pb (qvp v0)
   have hl55 := Gd pb (qvp v0)
   refine yv [_] rfl rfl call26 (Zdf pm (by assumption)) ?_
   have hl58 := (Ks (q := pm) (by assumption)).1
   have hl58 := (Ks (q := pm) (by assumption)).2
   refine yv [_, _] rfl rfl call24 (Zgq _ _ oo oo oo oo) (yp rfl (.indexAddr rfl rfl (Xh _ _)) (yt rfl rfl rfl Ze0 uu sizeOf43 rfl nb rfl ?_))
   refine yn (zr ?_); intro a w h
   obtain ⟨qb, hyqb⟩ : ∃ G, Zth (Zg5 pb (qvp v0)) (ptv pm) = G := ⟨_, rfl⟩
   rw [hyqb] at h
   refine gL h (zm rfl (zp (Pure1.cast (v' := .int .i64 2) (.add rfl rfl) cgd) (za rfl (zn ?_)))); clear h; intro a w h
   replace h : St 156 S w0 [(1, _), (2, .bool false), (3, _), (4, _), (6, _), (7, .int .i64 1), (8, _), (9, .int .i64 2), (47, .bool true)] _ _ a w := h.sub sA
   refine Ze ?_
   refine gC h (zs (zS (zm rfl (zp (Pure1.cast (v' := .bool true) (.lss rfl rfl) cgd) (zn ?_))))); clear h; intro a w h
   refine cW ?_
   refine Zi h rfl ?_
   refine gC h (zk (zs (zb (yD Za [0, 1, 2, 3, 4, 6, 7, 5, 8, 9, 10, 11] (Zd kk) (ym rfl rfl (ym rfl rfl (yp rfl (.indexAddr rfl rfl (Xg _ _)) (yd rfl rfl mr isAgg43 sizeOf43 Jm ?_)))))))); clear h
   refine yd rfl rfl mr isAgg41 sizeOf41 Zh ?_
   refine yp rfl (.fA rfl Zgl) (yd rfl rfl mr isAgg27 sizeOf27 Za4 ?_)
   refine yv [_, _] rfl rfl call25 (Zbs pc (qvp v0) oo oo oo) ?_
   have hl55 := Ge pc (qvp v0)
   have hl55 := Gd pc (qvp v0)
   refine yv [_] rfl rfl call26 (Zdf pm (by assumption)) ?_
   have hl58 := (Ks (q := pm) (by assumption)).1
   have hl58 := (Ks (q := pm) (by assumption)).2
   refine yv [_, _] rfl rfl call24 (Zgq _ _ oo oo oo oo) (yp rfl (.indexAddr rfl rfl (Xg _ _)) (yt rfl rfl rfl Zez uu sizeOf43 rfl nb rfl ?_))
   refine yn (zr ?_); intro a w h
   obtain ⟨qc, hyqc⟩ : ∃ G, Zth (Zg5 pc (qvp v0)) (ptv pm) = G := ⟨_, rfl⟩
   rw [hyqc] at h
   refine gL h (zm rfl (zp (Pure1.cast (v' := .int .i64 3) (.add rfl rfl) cgd) (za rfl (zn ?_)))); clear h; intro a w h
   replace h : St 156 S w0 [(1, _), (2, .bool false), (3, _), (4, _), (6, _), (7, .int .i64 1), (8, _), (9, .int .i64 3), (47, .bool true)] _ _ a w := h.sub sA
   refine Ze ?_
   refine gC h (zs (zS (zm rfl (zp (Pure1.cast (v' := .bool false) (.lss rfl rfl) cgd) (zn ?_))))); clear h; intro a w h
   refine cW ?_
   refine Zf h rfl ?_
   refine gC h (ze (zs (yD Za [0, 1, 3, 2, 4, 5, 6, 7, 8, 9, 10] (Qs ⟨.inl rfl, .inl rfl, .inl rfl, .inl rfl, .inl rfl, .inl rfl, .inl rfl, .inl rfl, .inr ⟨10, 57, _, _, _, rfl, rfl, by decide, _, zeroValue57⟩, .inl rfl, .inl rfl, trivial⟩) ?_))); clear h
   have hqa : PtK 13 qa := hyqa ▸ mv_K (Qy hv0) (Ks hpm) ha
   have hqb : PtK 13 qb := hyqb ▸ mv_K (Qy hv0) (Ks hpm) hb
   have hqc : PtK 13 qc := hyqc ▸ mv_K (Qy hv0) (Ks hpm) hc
   have hT2 : 0 < (twP qa qb qc).num.sign := by subst hyqa hyqb hyqc; exact mv_T hf0 hT
   refine ym rfl rfl (yd rfl rfl mr isAgg25 sizeOf25 Zhj ?_)
   refine yd rfl rfl mr isAgg44 sizeOf44 Qz ?_
   refine yv [_] rfl rfl call11 (Zl2 k0 k1 k2 hk0 hk1 hk2) ?_
   refine Xa rfl kk (vs := [_, _, _]) rfl call10 (Znz 4 (qvp k0, qvp k1, qvp k2) pa pb pc ha hb hc dd (Qy hk0) (Qy hk1) (Qy hk2) hT) (by exact hsA) dd ?_; rintro v66 Ψ66 ⟨ad66, rfl, rfl⟩
   refine ym rfl rfl (yp rfl (.eX rfl) (yp rfl (.eX rfl) (yz rfl zeroValue57 fun b10 => yt rfl rfl rfl Qt uu sizeOf57 rfl nb rfl ?_)))
   refine yp rfl (.assign rfl) (yn (zs (yD Za [0, 1, 3, 2, 4, 5, 6, 7, 8, 9, 10] (Qs ⟨.inl rfl, .inl rfl, .inl rfl, .inl rfl, .inl rfl, .inl rfl, .inl rfl, .inl rfl, .inr ⟨12, 57, _, _, _, rfl, rfl, by decide, _, zeroValue57⟩, .inl rfl, .inl rfl, trivial⟩) (ym rfl rfl (yd rfl rfl mr isAgg25 sizeOf25 Zhj ?_)))))
   refine yd rfl rfl mr isAgg44 sizeOf44 Qz ?_
   refine yv [_] rfl rfl call11 (Zl2 k0 k1 k2 hk0 hk1 hk2) ?_
   refine Xa rfl kk (vs := [_, _, _]) rfl call10 (Znz 13 (qvp k0, qvp k1, qvp k2) qa qb qc hqa hqb hqc dd (Qy hk0) (Qy hk1) (Qy hk2) hT2) (by exact hsA) dd ?_; rintro v74 Ψ74 ⟨ad74, rfl, rfl⟩
   refine ym rfl rfl (yp rfl (.eX rfl) (yp rfl (.eX rfl) (yz rfl zeroValue57 fun b12 => yt rfl rfl rfl Qt uu sizeOf57 rfl nb rfl ?_)))
   refine yp rfl (.assign rfl) (yn (zS ?_)); intro a w h
   obtain ⟨A66, hA66⟩ : ∃ G, Za5 (fun n m => stE 1 (byL (qvp k0, qvp k1, qvp k2) (Zw pa pb pc) (Zb pa pb pc)) n m) 3 3 = G := ⟨_, rfl⟩
   rw [hA66] at h
   obtain ⟨A74, hA74⟩ : ∃ G, Za5 (fun n m => stE 1 (byL (qvp k0, qvp k1, qvp k2) (Zw qa qb qc) (Zb qa qb qc)) n m) 3 3 = G := ⟨_, rfl⟩
   rw [hA74] at h
   refine gL h (zm rfl (zd rfl mr isAgg44 sizeOf44 Qz ?_)); clear h; intro a w h
   refine Zc (Jd h (vs := [_, _]) rfl call12 (Zrk 4 pa pb pc ha hb hc dd hT) (by exact hsA) dd ?_); clear h; rintro v80 Ψ80 a w ⟨ad80, rfl, rfl⟩ h
   obtain ⟨A80, hA80⟩ : ∃ G, Za5 (fun n m => Zch 1 n m * Zw pa pb pc) 3 3 = G := ⟨_, rfl⟩
   rw [hA80] at h
   have hK80 : ∀ x ∈ A80, Zu x ≤ 10000 := by subst hA80; intro x hx; obtain ⟨i, k, hi, hk, rfl⟩ := Zhk hx; exact Zqr (Or.inl rfl) ha hb hc dd hi hk
   refine gL h (zm rfl (zp (.eX rfl) (zp (.eX rfl) (zz zeroValue57 fun b14 => zt' rfl rfl Qt uu sizeOf57 rfl nb rfl ?_))))
   refine za rfl (zn (zS (zm rfl (zd rfl mr isAgg44 sizeOf44 Qz ?_)))); intro a w h
   refine Zc (Jd h (vs := [_, _]) rfl call12 (Zrk 13 qa qb qc hqa hqb hqc dd hT2) (by exact hsA) dd ?_); clear h; rintro v86 Ψ86 a w ⟨ad86, rfl, rfl⟩ h
   obtain ⟨A86, hA86⟩ : ∃ G, Za5 (fun n m => Zch 1 n m * Zw qa qb qc) 3 3 = G := ⟨_, rfl⟩
   rw [hA86] at h
   refine gL h (zm rfl (zp (.eX rfl) (zp (.eX rfl) (zz zeroValue57 fun b16 => zt' rfl rfl Qt uu sizeOf57 rfl nb rfl ?_))))
   refine za rfl (zn (zs (yD Za [0, 2, 1, 3, 4, 5, 6, 7, 8] (Zd kk) (yd rfl rfl mr isAgg41 sizeOf41 Zh ?_))))
   refine yd rfl rfl mr isAgg57 sizeOf57 Qa ?_
   refine yv [_] rfl rfl call28 (Zn0 (qvp v0) oo) ?_
   have hl91 := Zm (qvp v0) (qvp v0)
   refine Xa rfl kk (vs := [_, _]) rfl call27 (Zxb (qvp v0 * qvp v0) A80 ad80 (hA80 ▸ Zb4 _ _ _) oo hK80) (by exact hsA) dd ?_; rintro v93 Ψ93 ⟨ad93, rfl, rfl⟩
   refine ym rfl rfl (yp rfl (.eX rfl) (yp rfl (.eX rfl) (yt rfl rfl rfl Qt uu sizeOf57 rfl nb rfl ?_)))
   refine yp rfl (.assign rfl) (yn (zs (zS ?_))); intro a w h
   obtain ⟨A93, hA93⟩ : ∃ G, Za5 (fun i j => qvp v0 * qvp v0 * A80.getD (i * 3 + j) 0) 3 3 = G := ⟨_, rfl⟩
   rw [hA93] at h
   have hK66 : ∀ x ∈ A66, Zu x ≤ 10000 := by subst hA66; intro x hx; obtain ⟨i, k, hi, hk, rfl⟩ := Zhk hx; exact Zqp (Or.inl rfl) (Qy hk0) (Qy hk1) (Qy hk2) ha hb hc dd hi hk
   have hS1 : A66 = A74 := by subst hA66 hA74 hyqa hyqb hyqc; exact Zt1 (qvp k0, qvp k1, qvp k2) hf0 (ptv pm) (Zrq hT)
   have hS2 : A93 = A86 := by subst hA93 hA86 hA80 hyqa hyqb hyqc; exact Zyq (qvp v0) (ptv pm) pa pb pc
   have hS3 : ∀ i, i < 3 → Zjg A66 [((1 : Int) : Rat), ((1 : Int) : Rat), ((1 : Int) : Rat)] 3 i = 0 := by subst hA66; exact Zoo (qvp k0, qvp k1, qvp k2) pa pb pc
   have hKB : ∀ x ∈ [((1 : Int) : Rat), ((1 : Int) : Rat), ((1 : Int) : Rat)], Zu x ≤ 10000 := by
    intro x hx; simp only [List.mem_cons, List.not_mem_nil, or_false] at hx; rcases hx with rfl | rfl | rfl <;> exact Nat.le_trans (Zs 1 dd dd) dd
   refine gL h (zm rfl (zp (Pure1.cast (v' := .bool false) (.neq rfl rfl) cgd) (zm rfl (zq 98 rfl rfl (.move rfl) (zq 98 rfl rfl (Pure1.cast (v' := .bool false) (.neq rfl rfl) cgd) (zp (.pickF rfl rfl) (zm rfl (zq 102 rfl rfl (.move rfl) (zq 102 rfl rfl (Pure1.cast (v' := .bool false) (.neq rfl rfl) cgd) (zp (.pickF rfl rfl) (zm rfl (zq 106 rfl rfl (.move rfl) (zq 106 rfl rfl (Pure1.cast (v' := .bool false) (.neq rfl rfl) cgd) (zp (.pickF rfl rfl) (zm rfl (zq 110 rfl rfl (.move rfl) (zq 110 rfl rfl (Pure1.cast (v' := .bool false) (.neq rfl rfl) cgd) (zp (.pickF rfl rfl) (zm rfl ?_))))))))))))))))))); clear h; intro a w h
   refine Zt 114 h rfl rfl (Qd h rfl mr isAgg57 sizeOf57 Qa dd ?_); clear h; intro a h
   refine Zt 114 h rfl rfl (Qd h rfl mr isAgg57 sizeOf57 Qa dd ?_); clear h; intro a h
   refine Zt 114 h rfl rfl (Yl h (vs := [_, _]) rfl call29 (Zri A66 A74 ad66 ad74 (hA66 ▸ Zb4 _ _ _) hS1) (by exact hsA) dd ?_); clear h; intro a w h
   refine gL h (zq 114 rfl rfl (Pure1.cast (v' := .bool false) (.unOp rfl (Yp _)) cgd) (zp (.pickF rfl rfl) (zm rfl ?_))); clear h; intro a w h
   refine Zt 120 h rfl rfl (Qd h rfl mr isAgg57 sizeOf57 Qa dd ?_); clear h; intro a h
   refine Zt 120 h rfl rfl (Qd h rfl mr isAgg57 sizeOf57 Qa dd ?_); clear h; intro a h
   refine Zt 120 h rfl rfl (Yl h (vs := [_, _]) rfl call29 (Zri A93 A86 ad93 ad86 (hA93 ▸ Zb4 _ _ _) hS2) (by exact hsA) dd ?_); clear h; intro a w h
   refine gL h (zq 120 rfl rfl (Pure1.cast (v' := .bool false) (.unOp rfl (Yp _)) cgd) (zp (.pickF rfl rfl) (zn ?_))); clear h; intro a w h
   refine cW ?_
   refine Zf h rfl ?_
   refine gC h (zk (zS (zp (.fA rfl Gp) (zd rfl mr isAgg3 sizeOf3 Gq ?_)))); clear h; intro a w h
   refine Zc (Jz h rfl rfl runUnderlying50 typeInfo41 sizeOf41 Ju rfl dd (by exact ixd) (by show 56 * (3) ≤ 281474976710656; omega) (by exact ixd) dd ?_); clear h; intro b128 a w h; replace h := h.same rfl (by rw [← Yw (enc := Zr)]) rfl
   refine gL h (za rfl (zn (zs (zS (za rfl (zn (zb ?_))))))); clear h; intro a w h
   refine wp_loop_rounds 4 ?_
   refine Ze ?_
   refine gC h (zs (zS (zm rfl (zm rfl (zp (.builtin [_] rfl (Qn _ _ _)) (zp (Pure1.cast (v' := .bool true) (.lss rfl rfl) cgd) (zn ?_))))))); clear h; intro a w h
   refine cW ?_
   refine Zi h rfl ?_
   refine gC h (zk (zs (zb (zr (zm rfl (zm rfl (zv [_] rfl call21 (Ye _ oo oo) ?_)))))))
   have hl137 := Zs (1) oo oo
   refine zp (.indexAddr rfl rfl (Zbw _ _ _ _ _ (by exact ixd))) (zt' (b := b128) (cs := (cellsOf Zr (List.replicate 3 0)).toArray) (cs' := (cellsOf Zr ((List.replicate 3 0).set 0 (((1 : Int) : Rat)))).toArray) (v := Zr (((1 : Int) : Rat))) rfl rfl (Yh (k := 5) (fun _ => rfl) (List.replicate 3 0) 0 (by exact ixd) (((1 : Int) : Rat))) uu sizeOf41 rfl (Km (k := 5) (fun _ => rfl) (List.replicate 3 0) 0 (by exact ixd)) rfl ?_)
   refine zn (zr (zm rfl (zp (Pure1.cast (v' := .int .i64 1) (.add rfl rfl) cgd) (za rfl (zn ?_))))); intro a w h
   replace h : St 156 S w0 [(2, .bool false), (10, _), (19, _), (20, .int .i64 1), (132, .bool true)] _ _ a w := h.sub sA
   refine Ze ?_
   refine gC h (zs (zS (zm rfl (zm rfl (zp (.builtin [_] rfl (Qn _ _ _)) (zp (Pure1.cast (v' := .bool true) (.lss rfl rfl) cgd) (zn ?_))))))); clear h; intro a w h
   refine cW ?_
   refine Zi h rfl ?_
   refine gC h (zk (zs (zb (zr (zm rfl (zm rfl (zv [_] rfl call21 (Ye _ oo oo) ?_)))))))
   have hl137 := Zs (1) oo oo
   refine zp (.indexAddr rfl rfl (Zbw _ _ _ _ _ (by exact ixd))) (zt' (b := b128) (cs := (cellsOf Zr ((List.replicate 3 0).set 0 (((1 : Int) : Rat)))).toArray) (cs' := (cellsOf Zr (((List.replicate 3 0).set 0 (((1 : Int) : Rat))).set 1 (((1 : Int) : Rat)))).toArray) (v := Zr (((1 : Int) : Rat))) rfl rfl (Yh (k := 5) (fun _ => rfl) ((List.replicate 3 0).set 0 (((1 : Int) : Rat))) 1 (by exact ixd) (((1 : Int) : Rat))) uu sizeOf41 rfl (Km (k := 5) (fun _ => rfl) ((List.replicate 3 0).set 0 (((1 : Int) : Rat))) 1 (by exact ixd)) rfl ?_)
   refine zn (zr (zm rfl (zp (Pure1.cast (v' := .int .i64 2) (.add rfl rfl) cgd) (za rfl (zn ?_))))); intro a w h
   replace h : St 156 S w0 [(2, .bool false), (10, _), (19, _), (20, .int .i64 2), (132, .bool true)] _ _ a w := h.sub sA
   refine Ze ?_
   refine gC h (zs (zS (zm rfl (zm rfl (zp (.builtin [_] rfl (Qn _ _ _)) (zp (Pure1.cast (v' := .bool true) (.lss rfl rfl) cgd) (zn ?_))))))); clear h; intro a w h
   refine cW ?_
   refine Zi h rfl ?_
   refine gC h (zk (zs (zb (zr (zm rfl (zm rfl (zv [_] rfl call21 (Ye _ oo oo) ?_)))))))
   have hl137 := Zs (1) oo oo
   refine zp (.indexAddr rfl rfl (Zbw _ _ _ _ _ (by exact ixd))) (zt' (b := b128) (cs := (cellsOf Zr (((List.replicate 3 0).set 0 (((1 : Int) : Rat))).set 1 (((1 : Int) : Rat)))).toArray) (cs' := (cellsOf Zr ((((List.replicate 3 0).set 0 (((1 : Int) : Rat))).set 1 (((1 : Int) : Rat))).set 2 (((1 : Int) : Rat)))).toArray) (v := Zr (((1 : Int) : Rat))) rfl rfl (Yh (k := 5) (fun _ => rfl) (((List.replicate 3 0).set 0 (((1 : Int) : Rat))).set 1 (((1 : Int) : Rat))) 2 (by exact ixd) (((1 : Int) : Rat))) uu sizeOf41 rfl (Km (k := 5) (fun _ => rfl) (((List.replicate 3 0).set 0 (((1 : Int) : Rat))).set 1 (((1 : Int) : Rat))) 2 (by exact ixd)) rfl ?_)
   refine zn (zr (zm rfl (zp (Pure1.cast (v' := .int .i64 3) (.add rfl rfl) cgd) (za rfl (zn ?_))))); intro a w h
   replace h : St 156 S w0 [(2, .bool false), (10, _), (19, _), (20, .int .i64 3), (132, .bool true)] _ _ a w := h.sub sA
   refine Ze ?_
   refine gC h (zs (zS (zm rfl (zm rfl (zp (.builtin [_] rfl (Qn _ _ _)) (zp (Pure1.cast (v' := .bool false) (.lss rfl rfl) cgd) (zn ?_))))))); clear h; intro a w h
   refine cW ?_
   refine Zf h rfl ?_
   refine gC h (ze (zS (zd rfl mr isAgg57 sizeOf57 Qa ?_))); clear h; intro a w h
   replace h := h.shareAll hS (cellsOf Zr ([((1 : Int) : Rat), ((1 : Int) : Rat), ((1 : Int) : Rat)])) rfl
   refine gL h (zm rfl ?_); clear h; intro a w h
   refine Zc (Jd h (vs := [_, _]) rfl call30 (Zxl A66 [((1 : Int) : Rat), ((1 : Int) : Rat), ((1 : Int) : Rat)] ad66 _ _ (hA66 ▸ Zb4 _ _ _) rfl hK66 hKB) (by exact hsA) dd ?_); clear h; rintro v142 Ψ142 a w ⟨ad142, c142, rfl, rfl⟩ h
   refine gL h (zm rfl (zp (.eX rfl) (zp (.eX rfl) (za rfl (za rfl (zn (zS (zm rfl (zp (Pure1.cast (v' := .bool true) (.eql rfl rfl) cgd) (zm rfl (zq 147 rfl rfl (.move rfl) ?_))))))))))); clear h; intro a w h
   refine Zt 147 h rfl rfl (Yl h (vs := [_]) rfl call31 (Qdr (Zjg A66 [((1 : Int) : Rat), ((1 : Int) : Rat), ((1 : Int) : Rat)] 3) ad142 c142 hS3) (by exact hsA) dd ?_); clear h; intro a w h
   refine gL h (zq 147 rfl rfl (.build [] rfl (Zlv)) (zq 147 rfl rfl (Pure1.cast (v' := .bool true) (.binOp rfl rfl (fun _ => Zh8 _ _ 0 0 _)) ss) (zp (.pickT rfl rfl) (zm rfl ?_)))); clear h; intro a w h
   refine Zt 153 h rfl rfl (Yl h (vs := []) rfl call6 (Zl5) (by exact hsA) dd ?_); clear h; intro a w h
   refine gL h (zp (.pickT rfl rfl) (za rfl (zn (zt ?_)))); clear h; intro a w h
   exact Zdj h
  skip
  refine gL h (zp (.pickF rfl rfl) (zn ?_)); clear h; intro a w h
 all_goals
  refine cW ?_
  refine Zi h rfl ?_
  refine wp_seq (wp_region_lit ?_)
  refine Zc (Yl h (vs := []) rfl call6 (Zl5) (by exact hsA) dd ?_); clear h; intro a w h
  refine gL h (za rfl (zn (zt ?_))); clear h; intro a w h
  exact Zdj h
set_option maxHeartbeats 2000000 in
theorem Zjq (k0 k1 k2 : Int × Int) (p0 p1 p2 : (Int × Int) × (Int × Int)) (v0 v1 v2 v3 v4 v5 : Int × Int) (pm : (Int × Int) × (Int × Int)) (hk0 : OkQ k0) (hk1 : OkQ k1) (hk2 : OkQ k2) (hp0 : OkP p0) (hp1 : OkP p1) (hp2 : OkP p2) (hv0 : OkQ v0) (hv1 : OkQ v1) (hv2 : OkQ v2) (hv3 : OkQ v3) (hv4 : OkQ v4) (hv5 : OkQ v5) (hpm : OkP pm) : Gh Tryz.prog 4 [.agg #[.bool true, .int .i64 k0.1, .int .u32 k0.2, .int .i64 k1.1, .int .u32 k1.2, .int .i64 k2.1, .int .u32 k2.2, .int .i64 p0.1.1, .int .u32 p0.1.2, .int .i64 p0.2.1, .int .u32 p0.2.2, .int .i64 p1.1.1, .int .u32 p1.1.2, .int .i64 p1.2.1, .int .u32 p1.2.2, .int .i64 p2.1.1, .int .u32 p2.1.2, .int .i64 p2.2.1, .int .u32 p2.2.2, .int .i64 v0.1, .int .u32 v0.2, .int .i64 v1.1, .int .u32 v1.2, .int .i64 v2.1, .int .u32 v2.2, .int .i64 v3.1, .int .u32 v3.2, .int .i64 v4.1, .int .u32 v4.2, .int .i64 v5.1, .int .u32 v5.2, .int .i64 pm.1.1, .int .u32 pm.1.2, .int .i64 pm.2.1, .int .u32 pm.2.2]] [SideF] (.bool true) := by
 have hv0K := Qy hv0
 obtain ⟨hpm1, hpm2⟩ := Ks hpm
 refine fn_intro func4 rfl ntmps4 nb ?_
 intro S w0 a hS h
 replace h := h.derive (R := Row none (cellsOf Qh [])) (fun X _ hne => absurd rfl hne)
 refine gC h (zS (zx rfl fun b1 => za rfl (zn (zS (zp (.fA rfl Zv5) (zd rfl mr isAgg25 sizeOf25 Zmn ?_))))))
 refine zz zeroValue25 fun b3 => zt' rfl rfl Zpt uu sizeOf25 rfl nb rfl ?_
 refine zn (zS (zp (.fA rfl Zv4) (zd rfl mr isAgg29 sizeOf29 Zj7 ?_))); intro a w h
 refine Zc (Jd h (vs := [_]) rfl call5 (Znx p0 p1 p2 hp0 hp1 hp2) (by exact hsA) dd ?_); clear h; rintro v28 Ψ28 a w ⟨pa, pb, pc, ha, hb, hc, rfl, rfl⟩ h
 obtain ⟨ha1, ha2⟩ := id ha
 obtain ⟨hb1, hb2⟩ := id hb
 obtain ⟨hc1, hc2⟩ := id hc
 refine gL h (zm rfl (zp (.eX rfl) (zp (.eX rfl) (zz Zcl fun b4 => zt' rfl rfl Vl uu sizeOf44 rfl nb rfl ?_))))
 refine za rfl (zn (zS (zp (.fA rfl Zv3) (zp (.indexAddr rfl rfl (Zqu _ _)) (zd rfl mr isAgg24 sizeOf24 Zj8 ?_)))))
 refine zv [_] rfl call19 (Zjj v0 (by assumption)) ?_
 have hl34 := Qy (q := v0) (by assumption)
 refine zz Ju fun b6 => zt' rfl rfl Zp uu sizeOf41 rfl nb rfl ?_
 refine zn (zs (zS (zm rfl (zp (.unOp rfl (Yp _)) ?_)))); intro a w h
 refine Qp h (fun hc36 h => ?_) (fun hc36 h => ?_)
 focus
  skip
  refine gL h (zm rfl (zo 37 rfl rfl rfl (zo 37 rfl rfl rfl (zo 37 rfl rfl rfl (zp (.pickT rfl rfl) (zn ?_)))))); clear h; intro a w h
 rotate_left
 focus
  have hT : 0 < (twP pa pb pc).num.sign := by simpa using hc36
  refine gL h (zm rfl ?_); clear h; intro a w h
  refine Zt 37 h rfl rfl (Qd h rfl mr isAgg41 sizeOf41 Zh dd ?_); clear h; intro a h
  refine Zt 37 h rfl rfl (Zay h (vs := [_]) rfl call23 (Zeb (qvp v0)) dd ?_); clear h; intro a w h
  refine gL h (zq 37 rfl rfl (.eql rfl rfl) ?_); clear h; intro a w h
  refine Qp h (fun hc40 h => ?_) (fun hc40 h => ?_)
  rotate_left
  ·
   skip
   have hf0 : qvp v0 ≠ 0 := fun e => by rw [e] at hc40; exact absurd hc40 dd
   refine gL h (zp (.pickF rfl rfl) (zn ?_)); clear h; intro a w h
   refine cW ?_
   refine Zf h rfl ?_
   refine gC h (zk (zS (zp (.fA rfl Zv6) (zd rfl mr isAgg4 sizeOf4 Zuk ?_))))
   refine zv [_] rfl call7 (Qaa) (za rfl (zn (zS (zz Zcl fun b8 => zn (zs (zS (za rfl (zn (zb ?_))))))))); intro a w h
   refine wp_loop_rounds 4 ?_
   refine Ze ?_
   refine gC h (zs (zS (zm rfl (zp (Pure1.cast (v' := .bool true) (.lss rfl rfl) cgd) (zn ?_))))); clear h; intro a w h
   refine cW ?_
   refine Zi h rfl ?_
   refine gC h (zk (zs (zb (yD Za [0, 1, 2, 3, 4, 6, 7, 5, 8, 9, 10, 11] (Zd kk) (ym rfl rfl (ym rfl rfl (yp rfl (.indexAddr rfl rfl (Xu _ _)) (yd rfl rfl mr isAgg43 sizeOf43 Jy ?_)))))))); clear h
   refine yd rfl rfl mr isAgg41 sizeOf41 Zh ?_
   refine yp rfl (.fA rfl Zgl) (yd rfl rfl mr isAgg27 sizeOf27 Za4 ?_)
   refine yv [_, _] rfl rfl call25 (Zbs pa (qvp v0) oo oo oo) ?_
   have hl55 := Ge pa (qvp v0)
   have hl55 := Gd pa (qvp v0)
   refine yv [_] rfl rfl call26 (Zdf pm (by assumption)) ?_
   have hl58 := (Ks (q := pm) (by assumption)).1
   have hl58 := (Ks (q := pm) (by assumption)).2
   refine yv [_, _] rfl rfl call24 (Zgq _ _ oo oo oo oo) (yp rfl (.indexAddr rfl rfl (Xu _ _)) (yt rfl rfl rfl Zj4 uu sizeOf43 rfl nb rfl ?_))
   refine yn (zr ?_); intro a w h
   obtain ⟨qa, hyqa⟩ : ∃ G, Zth (Zg5 pa (qvp v0)) (ptv pm) = G := ⟨_, rfl⟩
   rw [hyqa] at h
   refine gL h (zm rfl (zp (Pure1.cast (v' := .int .i64 1) (.add rfl rfl) cgd) (za rfl (zn ?_)))); clear h; intro a w h
   replace h : St 156 S w0 [(1, _), (2, .bool false), (3, _), (4, _), (6, _), (7, .int .i64 2), (8, _), (9, .int .i64 1), (47, .bool true)] _ _ a w := h.sub sA
   refine Ze ?_
   refine gC h (zs (zS (zm rfl (zp (Pure1.cast (v' := .bool true) (.lss rfl rfl) cgd) (zn ?_))))); clear h; intro a w h
   refine cW ?_
   refine Zi h rfl ?_
   refine gC h (zk (zs (zb (yD Za [0, 1, 2, 3, 4, 6, 7, 5, 8, 9, 10, 11] (Zd kk) (ym rfl rfl (ym rfl rfl (yp rfl (.indexAddr rfl rfl (Xh _ _)) (yd rfl rfl mr isAgg43 sizeOf43 Jn ?_)))))))); clear h
   refine yd rfl rfl mr isAgg41 sizeOf41 Zh ?_
   refine yp rfl (.fA rfl Zgl) (yd rfl rfl mr isAgg27 sizeOf27 Za4 ?_)
   refine yv [_, _] rfl rfl call25 (Zbs pb (qvp v0) oo oo oo) ?_
   have hl55 := Ge pb (qvp v0)
   have hl55 := Gd pb (qvp v0)
   refine yv [_] rfl rfl call26 (Zdf pm (by assumption)) ?_
   have hl58 := (Ks (q := pm) (by assumption)).1
   have hl58 := (Ks (q := pm) (by assumption)).2
   refine yv [_, _] rfl rfl call24 (Zgq _ _ oo oo oo oo) (yp rfl (.indexAddr rfl rfl (Xh _ _)) (yt rfl rfl rfl Ze0 uu sizeOf43 rfl nb rfl ?_))
   refine yn (zr ?_); intro a w h
   obtain ⟨qb, hyqb⟩ : ∃ G, Zth (Zg5 pb (qvp v0)) (ptv pm) = G := ⟨_, rfl⟩
   rw [hyqb] at h
   refine gL h (zm rfl (zp (Pure1.cast (v' := .int .i64 2) (.add rfl rfl) cgd) (za rfl (zn ?_)))); clear h; intro a w h
   replace h : St 156 S w0 [(1, _), (2, .bool false), (3, _), (4, _), (6, _), (7, .int .i64 2), (8, _), (9, .int .i64 2), (47, .bool true)] _ _ a w := h.sub sA
   refine Ze ?_
   refine gC h (zs (zS (zm rfl (zp (Pure1.cast (v' := .bool true) (.lss rfl rfl) cgd) (zn ?_))))); clear h; intro a w h
   refine cW ?_
   refine Zi h rfl ?_
   refine gC h (zk (zs (zb (yD Za [0, 1, 2, 3, 4, 6, 7, 5, 8, 9, 10, 11] (Zd kk) (ym rfl rfl (ym rfl rfl (yp rfl (.indexAddr rfl rfl (Xg _ _)) (yd rfl rfl mr isAgg43 sizeOf43 Jm ?_)))))))); clear h
   refine yd rfl rfl mr isAgg41 sizeOf41 Zh ?_
   refine yp rfl (.fA rfl Zgl) (yd rfl rfl mr isAgg27 sizeOf27 Za4 ?_)
   refine yv [_, _] rfl rfl call25 (Zbs pc (qvp v0) oo oo oo) ?_
   have hl55 := Ge pc (qvp v0)
   have hl55 := Gd pc (qvp v0)
   refine yv [_] rfl rfl call26 (Zdf pm (by assumption)) ?_
   have hl58 := (Ks (q := pm) (by assumption)).1
   have hl58 := (Ks (q := pm) (by assumption)).2
   refine yv [_, _] rfl rfl call24 (Zgq _ _ oo oo oo oo) (yp rfl (.indexAddr rfl rfl (Xg _ _)) (yt rfl rfl rfl Zez uu sizeOf43 rfl nb rfl ?_))
   refine yn (zr ?_); intro a w h
   obtain ⟨qc, hyqc⟩ : ∃ G, Zth (Zg5 pc (qvp v0)) (ptv pm) = G := ⟨_, rfl⟩
   rw [hyqc] at h
   refine gL h (zm rfl (zp (Pure1.cast (v' := .int .i64 3) (.add rfl rfl) cgd) (za rfl (zn ?_)))); clear h; intro a w h
   replace h : St 156 S w0 [(1, _), (2, .bool false), (3, _), (4, _), (6, _), (7, .int .i64 2), (8, _), (9, .int .i64 3), (47, .bool true)] _ _ a w := h.sub sA
   refine Ze ?_
   refine gC h (zs (zS (zm rfl (zp (Pure1.cast (v' := .bool false) (.lss rfl rfl) cgd) (zn ?_))))); clear h; intro a w h
   refine cW ?_
   refine Zf h rfl ?_
   refine gC h (ze (zs (yD Za [0, 1, 3, 2, 4, 5, 6, 7, 8, 9, 10] (Qs ⟨.inl rfl, .inl rfl, .inl rfl, .inl rfl, .inl rfl, .inl rfl, .inl rfl, .inl rfl, .inr ⟨10, 57, _, _, _, rfl, rfl, by decide, _, zeroValue57⟩, .inl rfl, .inl rfl, trivial⟩) ?_))); clear h
   have hqa : PtK 13 qa := hyqa ▸ mv_K (Qy hv0) (Ks hpm) ha
   have hqb : PtK 13 qb := hyqb ▸ mv_K (Qy hv0) (Ks hpm) hb
   have hqc : PtK 13 qc := hyqc ▸ mv_K (Qy hv0) (Ks hpm) hc
   have hT2 : 0 < (twP qa qb qc).num.sign := by subst hyqa hyqb hyqc; exact mv_T hf0 hT
   refine ym rfl rfl (yd rfl rfl mr isAgg25 sizeOf25 Zhj ?_)
   refine yd rfl rfl mr isAgg44 sizeOf44 Qz ?_
   refine yv [_] rfl rfl call11 (Zl2 k0 k1 k2 hk0 hk1 hk2) ?_
   refine Xa rfl kk (vs := [_, _, _]) rfl call10 (Zny 4 (qvp k0, qvp k1, qvp k2) pa pb pc ha hb hc dd (Qy hk0) (Qy hk1) (Qy hk2) hT) (by exact hsA) dd ?_; rintro v66 Ψ66 ⟨ad66, rfl, rfl⟩
   refine ym rfl rfl (yp rfl (.eX rfl) (yp rfl (.eX rfl) (yz rfl zeroValue57 fun b10 => yt rfl rfl rfl Qt uu sizeOf57 rfl nb rfl ?_)))
   refine yp rfl (.assign rfl) (yn (zs (yD Za [0, 1, 3, 2, 4, 5, 6, 7, 8, 9, 10] (Qs ⟨.inl rfl, .inl rfl, .inl rfl, .inl rfl, .inl rfl, .inl rfl, .inl rfl, .inl rfl, .inr ⟨12, 57, _, _, _, rfl, rfl, by decide, _, zeroValue57⟩, .inl rfl, .inl rfl, trivial⟩) (ym rfl rfl (yd rfl rfl mr isAgg25 sizeOf25 Zhj ?_)))))
   refine yd rfl rfl mr isAgg44 sizeOf44 Qz ?_
   refine yv [_] rfl rfl call11 (Zl2 k0 k1 k2 hk0 hk1 hk2) ?_
   refine Xa rfl kk (vs := [_, _, _]) rfl call10 (Zny 13 (qvp k0, qvp k1, qvp k2) qa qb qc hqa hqb hqc dd (Qy hk0) (Qy hk1) (Qy hk2) hT2) (by exact hsA) dd ?_; rintro v74 Ψ74 ⟨ad74, rfl, rfl⟩
   refine ym rfl rfl (yp rfl (.eX rfl) (yp rfl (.eX rfl) (yz rfl zeroValue57 fun b12 => yt rfl rfl rfl Qt uu sizeOf57 rfl nb rfl ?_)))
   refine yp rfl (.assign rfl) (yn (zS ?_)); intro a w h
   obtain ⟨A66, hA66⟩ : ∃ G, Za5 (fun n m => stE 2 (byL (qvp k0, qvp k1, qvp k2) (Zw pa pb pc) (Zb pa pb pc)) n m) 6 6 = G := ⟨_, rfl⟩
   rw [hA66] at h
   obtain ⟨A74, hA74⟩ : ∃ G, Za5 (fun n m => stE 2 (byL (qvp k0, qvp k1, qvp k2) (Zw qa qb qc) (Zb qa qb qc)) n m) 6 6 = G := ⟨_, rfl⟩
   rw [hA74] at h
   refine gL h (zm rfl (zd rfl mr isAgg44 sizeOf44 Qz ?_)); clear h; intro a w h
   refine Zc (Jd h (vs := [_, _]) rfl call12 (Zrj 4 pa pb pc ha hb hc dd hT) (by exact hsA) dd ?_); clear h; rintro v80 Ψ80 a w ⟨ad80, rfl, rfl⟩ h
   obtain ⟨A80, hA80⟩ : ∃ G, Za5 (fun n m => Zch 2 n m * Zw pa pb pc) 6 6 = G := ⟨_, rfl⟩
   rw [hA80] at h
   have hK80 : ∀ x ∈ A80, Zu x ≤ 10000 := by subst hA80; intro x hx; obtain ⟨i, k, hi, hk, rfl⟩ := Zhk hx; exact Zqr (Or.inr rfl) ha hb hc dd hi hk
   refine gL h (zm rfl (zp (.eX rfl) (zp (.eX rfl) (zz zeroValue57 fun b14 => zt' rfl rfl Qt uu sizeOf57 rfl nb rfl ?_))))
   refine za rfl (zn (zS (zm rfl (zd rfl mr isAgg44 sizeOf44 Qz ?_)))); intro a w h
   refine Zc (Jd h (vs := [_, _]) rfl call12 (Zrj 13 qa qb qc hqa hqb hqc dd hT2) (by exact hsA) dd ?_); clear h; rintro v86 Ψ86 a w ⟨ad86, rfl, rfl⟩ h
   obtain ⟨A86, hA86⟩ : ∃ G, Za5 (fun n m => Zch 2 n m * Zw qa qb qc) 6 6 = G := ⟨_, rfl⟩
   rw [hA86] at h
   refine gL h (zm rfl (zp (.eX rfl) (zp (.eX rfl) (zz zeroValue57 fun b16 => zt' rfl rfl Qt uu sizeOf57 rfl nb rfl ?_))))
   refine za rfl (zn (zs (yD Za [0, 2, 1, 3, 4, 5, 6, 7, 8] (Zd kk) (yd rfl rfl mr isAgg41 sizeOf41 Zh ?_))))
   refine yd rfl rfl mr isAgg57 sizeOf57 Qa ?_
   refine yv [_] rfl rfl call28 (Zn0 (qvp v0) oo) ?_
   have hl91 := Zm (qvp v0) (qvp v0)
   refine Xa rfl kk (vs := [_, _]) rfl call27 (Zxa (qvp v0 * qvp v0) A80 ad80 (hA80 ▸ Zb4 _ _ _) oo hK80) (by exact hsA) dd ?_; rintro v93 Ψ93 ⟨ad93, rfl, rfl⟩
   refine ym rfl rfl (yp rfl (.eX rfl) (yp rfl (.eX rfl) (yt rfl rfl rfl Qt uu sizeOf57 rfl nb rfl ?_)))
   refine yp rfl (.assign rfl) (yn (zs (zS ?_))); intro a w h
   obtain ⟨A93, hA93⟩ : ∃ G, Za5 (fun i j => qvp v0 * qvp v0 * A80.getD (i * 6 + j) 0) 6 6 = G := ⟨_, rfl⟩
   rw [hA93] at h
   have hK66 : ∀ x ∈ A66, Zu x ≤ 10000 := by subst hA66; intro x hx; obtain ⟨i, k, hi, hk, rfl⟩ := Zhk hx; exact Zqp (Or.inr rfl) (Qy hk0) (Qy hk1) (Qy hk2) ha hb hc dd hi hk
   have hS1 : A66 = A74 := by subst hA66 hA74 hyqa hyqb hyqc; exact Zt0 (qvp k0, qvp k1, qvp k2) hf0 (ptv pm) (Zrq hT)
   have hS2 : A93 = A86 := by subst hA93 hA86 hA80 hyqa hyqb hyqc; exact Zyp (qvp v0) (ptv pm) pa pb pc
   have hS3 : ∀ i, i < 6 → Zjg A66 [((1 : Int) : Rat), ((1 : Int) : Rat), ((1 : Int) : Rat), ((1 : Int) : Rat), ((1 : Int) : Rat), ((1 : Int) : Rat)] 6 i = 0 := by subst hA66; exact Zon (qvp k0, qvp k1, qvp k2) pa pb pc
   have hKB : ∀ x ∈ [((1 : Int) : Rat), ((1 : Int) : Rat), ((1 : Int) : Rat), ((1 : Int) : Rat), ((1 : Int) : Rat), ((1 : Int) : Rat)], Zu x ≤ 10000 := by
    intro x hx; simp only [List.mem_cons, List.not_mem_nil, or_false] at hx; rcases hx with rfl | rfl | rfl | rfl | rfl | rfl <;> exact Nat.le_trans (Zs 1 dd dd) dd
   refine gL h (zm rfl (zp (Pure1.cast (v' := .bool false) (.neq rfl rfl) cgd) (zm rfl (zq 98 rfl rfl (.move rfl) (zq 98 rfl rfl (Pure1.cast (v' := .bool false) (.neq rfl rfl) cgd) (zp (.pickF rfl rfl) (zm rfl (zq 102 rfl rfl (.move rfl) (zq 102 rfl rfl (Pure1.cast (v' := .bool false) (.neq rfl rfl) cgd) (zp (.pickF rfl rfl) (zm rfl (zq 106 rfl rfl (.move rfl) (zq 106 rfl rfl (Pure1.cast (v' := .bool false) (.neq rfl rfl) cgd) (zp (.pickF rfl rfl) (zm rfl (zq 110 rfl rfl (.move rfl) (zq 110 rfl rfl (Pure1.cast (v' := .bool false) (.neq rfl rfl) cgd) (zp (.pickF rfl rfl) (zm rfl ?_))))))))))))))))))); clear h; intro a w h
   refine Zt 114 h rfl rfl (Qd h rfl mr isAgg57 sizeOf57 Qa dd ?_); clear h; intro a h
   refine Zt 114 h rfl rfl (Qd h rfl mr isAgg57 sizeOf57 Qa dd ?_); clear h; intro a h
   refine Zt 114 h rfl rfl (Yl h (vs := [_, _]) rfl call29 (Zrh A66 A74 ad66 ad74 (hA66 ▸ Zb4 _ _ _) hS1) (by exact hsA) dd ?_); clear h; intro a w h
   refine gL h (zq 114 rfl rfl (Pure1.cast (v' := .bool false) (.unOp rfl (Yp _)) cgd) (zp (.pickF rfl rfl) (zm rfl ?_))); clear h; intro a w h
   refine Zt 120 h rfl rfl (Qd h rfl mr isAgg57 sizeOf57 Qa dd ?_); clear h; intro a h
   refine Zt 120 h rfl rfl (Qd h rfl mr isAgg57 sizeOf57 Qa dd ?_); clear h; intro a h
   refine Zt 120 h rfl rfl (Yl h (vs := [_, _]) rfl call29 (Zrh A93 A86 ad93 ad86 (hA93 ▸ Zb4 _ _ _) hS2) (by exact hsA) dd ?_); clear h; intro a w h
   refine gL h (zq 120 rfl rfl (Pure1.cast (v' := .bool false) (.unOp rfl (Yp _)) cgd) (zp (.pickF rfl rfl) (zn ?_))); clear h; intro a w h
   refine cW ?_
   refine Zf h rfl ?_
   refine gC h (zk (zS (zp (.fA rfl Gp) (zd rfl mr isAgg3 sizeOf3 Gq ?_)))); clear h; intro a w h
   refine Zc (Jz h rfl rfl runUnderlying50 typeInfo41 sizeOf41 Ju rfl dd (by exact ixd) (by show 56 * (6) ≤ 281474976710656; omega) (by exact ixd) dd ?_); clear h; intro b128 a w h; replace h := h.same rfl (by rw [← Yw (enc := Zr)]) rfl
   refine gL h (za rfl (zn (zs (zS (za rfl (zn (zb ?_))))))); clear h; intro a w h
   refine wp_loop_rounds 7 ?_
   refine Ze ?_
   refine gC h (zs (zS (zm rfl (zm rfl (zp (.builtin [_] rfl (Qn _ _ _)) (zp (Pure1.cast (v' := .bool true) (.lss rfl rfl) cgd) (zn ?_))))))); clear h; intro a w h
   refine cW ?_
   refine Zi h rfl ?_
   refine gC h (zk (zs (zb (zr (zm rfl (zm rfl (zv [_] rfl call21 (Ye _ oo oo) ?_)))))))
   have hl137 := Zs (1) oo oo
   refine zp (.indexAddr rfl rfl (Zbw _ _ _ _ _ (by exact ixd))) (zt' (b := b128) (cs := (cellsOf Zr (List.replicate 6 0)).toArray) (cs' := (cellsOf Zr ((List.replicate 6 0).set 0 (((1 : Int) : Rat)))).toArray) (v := Zr (((1 : Int) : Rat))) rfl rfl (Yh (k := 5) (fun _ => rfl) (List.replicate 6 0) 0 (by exact ixd) (((1 : Int) : Rat))) uu sizeOf41 rfl (Km (k := 5) (fun _ => rfl) (List.replicate 6 0) 0 (by exact ixd)) rfl ?_)
   refine zn (zr (zm rfl (zp (Pure1.cast (v' := .int .i64 1) (.add rfl rfl) cgd) (za rfl (zn ?_))))); intro a w h
   replace h : St 156 S w0 [(2, .bool false), (10, _), (19, _), (20, .int .i64 1), (132, .bool true)] _ _ a w := h.sub sA
   refine Ze ?_
   refine gC h (zs (zS (zm rfl (zm rfl (zp (.builtin [_] rfl (Qn _ _ _)) (zp (Pure1.cast (v' := .bool true) (.lss rfl rfl) cgd) (zn ?_))))))); clear h; intro a w h
   refine cW ?_
   refine Zi h rfl ?_
   refine gC h (zk (zs (zb (zr (zm rfl (zm rfl (zv [_] rfl call21 (Ye _ oo oo) ?_)))))))
   have hl137 := Zs (1) oo oo
   refine zp (.indexAddr rfl rfl (Zbw _ _ _ _ _ (by exact ixd))) (zt' (b := b128) (cs := (cellsOf Zr ((List.replicate 6 0).set 0 (((1 : Int) : Rat)))).toArray) (cs' := (cellsOf Zr (((List.replicate 6 0).set 0 (((1 : Int) : Rat))).set 1 (((1 : Int) : Rat)))).toArray) (v := Zr (((1 : Int) : Rat))) rfl rfl (Yh (k := 5) (fun _ => rfl) ((List.replicate 6 0).set 0 (((1 : Int) : Rat))) 1 (by exact ixd) (((1 : Int) : Rat))) uu sizeOf41 rfl (Km (k := 5) (fun _ => rfl) ((List.replicate 6 0).set 0 (((1 : Int) : Rat))) 1 (by exact ixd)) rfl ?_)
   refine zn (zr (zm rfl (zp (Pure1.cast (v' := .int .i64 2) (.add rfl rfl) cgd) (za rfl (zn ?_))))); intro a w h
   replace h : St 156 S w0 [(2, .bool false), (10, _), (19, _), (20, .int .i64 2), (132, .bool true)] _ _ a w := h.sub sA
   refine Ze ?_
   refine gC h (zs (zS (zm rfl (zm rfl (zp (.builtin [_] rfl (Qn _ _ _)) (zp (Pure1.cast (v' := .bool true) (.lss rfl rfl) cgd) (zn ?_))))))); clear h; intro a w h
   refine cW ?_
   refine Zi h rfl ?_
   refine gC h (zk (zs (zb (zr (zm rfl (zm rfl (zv [_] rfl call21 (Ye _ oo oo) ?_)))))))
   have hl137 := Zs (1) oo oo
   refine zp (.indexAddr rfl rfl (Zbw _ _ _ _ _ (by exact ixd))) (zt' (b := b128) (cs := (cellsOf Zr (((List.replicate 6 0).set 0 (((1 : Int) : Rat))).set 1 (((1 : Int) : Rat)))).toArray) (cs' := (cellsOf Zr ((((List.replicate 6 0).set 0 (((1 : Int) : Rat))).set 1 (((1 : Int) : Rat))).set 2 (((1 : Int) : Rat)))).toArray) (v := Zr (((1 : Int) : Rat))) rfl rfl (Yh (k := 5) (fun _ => rfl) (((List.replicate 6 0).set 0 (((1 : Int) : Rat))).set 1 (((1 : Int) : Rat))) 2 (by exact ixd) (((1 : Int) : Rat))) uu sizeOf41 rfl (Km (k := 5) (fun _ => rfl) (((List.replicate 6 0).set 0 (((1 : Int) : Rat))).set 1 (((1 : Int) : Rat))) 2 (by exact ixd)) rfl ?_)
   refine zn (zr (zm rfl (zp (Pure1.cast (v' := .int .i64 3) (.add rfl rfl) cgd) (za rfl (zn ?_))))); intro a w h
   replace h : St 156 S w0 [(2, .bool false), (10, _), (19, _), (20, .int .i64 3), (132, .bool true)] _ _ a w := h.sub sA
   refine Ze ?_
   refine gC h (zs (zS (zm rfl (zm rfl (zp (.builtin [_] rfl (Qn _ _ _)) (zp (Pure1.cast (v' := .bool true) (.lss rfl rfl) cgd) (zn ?_))))))); clear h; intro a w h
   refine cW ?_
   refine Zi h rfl ?_
   refine gC h (zk (zs (zb (zr (zm rfl (zm rfl (zv [_] rfl call21 (Ye _ oo oo) ?_)))))))
   have hl137 := Zs (1) oo oo
   refine zp (.indexAddr rfl rfl (Zbw _ _ _ _ _ (by exact ixd))) (zt' (b := b128) (cs := (cellsOf Zr ((((List.replicate 6 0).set 0 (((1 : Int) : Rat))).set 1 (((1 : Int) : Rat))).set 2 (((1 : Int) : Rat)))).toArray) (cs' := (cellsOf Zr (((((List.replicate 6 0).set 0 (((1 : Int) : Rat))).set 1 (((1 : Int) : Rat))).set 2 (((1 : Int) : Rat))).set 3 (((1 : Int) : Rat)))).toArray) (v := Zr (((1 : Int) : Rat))) rfl rfl (Yh (k := 5) (fun _ => rfl) ((((List.replicate 6 0).set 0 (((1 : Int) : Rat))).set 1 (((1 : Int) : Rat))).set 2 (((1 : Int) : Rat))) 3 (by exact ixd) (((1 : Int) : Rat))) uu sizeOf41 rfl (Km (k := 5) (fun _ => rfl) ((((List.replicate 6 0).set 0 (((1 : Int) : Rat))).set 1 (((1 : Int) : Rat))).set 2 (((1 : Int) : Rat))) 3 (by exact ixd)) rfl ?_)
   refine zn (zr (zm rfl (zp (Pure1.cast (v' := .int .i64 4) (.add rfl rfl) cgd) (za rfl (zn ?_))))); intro a w h
   replace h : St 156 S w0 [(2, .bool false), (10, _), (19, _), (20, .int .i64 4), (132, .bool true)] _ _ a w := h.sub sA
   refine Ze ?_
   refine gC h (zs (zS (zm rfl (zm rfl (zp (.builtin [_] rfl (Qn _ _ _)) (zp (Pure1.cast (v' := .bool true) (.lss rfl rfl) cgd) (zn ?_))))))); clear h; intro a w h
   refine cW ?_
   refine Zi h rfl ?_
   refine gC h (zk (zs (zb (zr (zm rfl (zm rfl (zv [_] rfl call21 (Ye _ oo oo) ?_)))))))
   have hl137 := Zs (1) oo oo
   refine zp (.indexAddr rfl rfl (Zbw _ _ _ _ _ (by exact ixd))) (zt' (b := b128) (cs := (cellsOf Zr (((((List.replicate 6 0).set 0 (((1 : Int) : Rat))).set 1 (((1 : Int) : Rat))).set 2 (((1 : Int) : Rat))).set 3 (((1 : Int) : Rat)))).toArray) (cs' := (cellsOf Zr ((((((List.replicate 6 0).set 0 (((1 : Int) : Rat))).set 1 (((1 : Int) : Rat))).set 2 (((1 : Int) : Rat))).set 3 (((1 : Int) : Rat))).set 4 (((1 : Int) : Rat)))).toArray) (v := Zr (((1 : Int) : Rat))) rfl rfl (Yh (k := 5) (fun _ => rfl) (((((List.replicate 6 0).set 0 (((1 : Int) : Rat))).set 1 (((1 : Int) : Rat))).set 2 (((1 : Int) : Rat))).set 3 (((1 : Int) : Rat))) 4 (by exact ixd) (((1 : Int) : Rat))) uu sizeOf41 rfl (Km (k := 5) (fun _ => rfl) (((((List.replicate 6 0).set 0 (((1 : Int) : Rat))).set 1 (((1 : Int) : Rat))).set 2 (((1 : Int) : Rat))).set 3 (((1 : Int) : Rat))) 4 (by exact ixd)) rfl ?_)
   refine zn (zr (zm rfl (zp (Pure1.cast (v' := .int .i64 5) (.add rfl rfl) cgd) (za rfl (zn ?_))))); intro a w h
   replace h : St 156 S w0 [(2, .bool false), (10, _), (19, _), (20, .int .i64 5), (132, .bool true)] _ _ a w := h.sub sA
   refine Ze ?_
   refine gC h (zs (zS (zm rfl (zm rfl (zp (.builtin [_] rfl (Qn _ _ _)) (zp (Pure1.cast (v' := .bool true) (.lss rfl rfl) cgd) (zn ?_))))))); clear h; intro a w h
   refine cW ?_
   refine Zi h rfl ?_
   refine gC h (zk (zs (zb (zr (zm rfl (zm rfl (zv [_] rfl call21 (Ye _ oo oo) ?_)))))))
   have hl137 := Zs (1) oo oo
   refine zp (.indexAddr rfl rfl (Zbw _ _ _ _ _ (by exact ixd))) (zt' (b := b128) (cs := (cellsOf Zr ((((((List.replicate 6 0).set 0 (((1 : Int) : Rat))).set 1 (((1 : Int) : Rat))).set 2 (((1 : Int) : Rat))).set 3 (((1 : Int) : Rat))).set 4 (((1 : Int) : Rat)))).toArray) (cs' := (cellsOf Zr (((((((List.replicate 6 0).set 0 (((1 : Int) : Rat))).set 1 (((1 : Int) : Rat))).set 2 (((1 : Int) : Rat))).set 3 (((1 : Int) : Rat))).set 4 (((1 : Int) : Rat))).set 5 (((1 : Int) : Rat)))).toArray) (v := Zr (((1 : Int) : Rat))) rfl rfl (Yh (k := 5) (fun _ => rfl) ((((((List.replicate 6 0).set 0 (((1 : Int) : Rat))).set 1 (((1 : Int) : Rat))).set 2 (((1 : Int) : Rat))).set 3 (((1 : Int) : Rat))).set 4 (((1 : Int) : Rat))) 5 (by exact ixd) (((1 : Int) : Rat))) uu sizeOf41 rfl (Km (k := 5) (fun _ => rfl) ((((((List.replicate 6 0).set 0 (((1 : Int) : Rat))).set 1 (((1 : Int) : Rat))).set 2 (((1 : Int) : Rat))).set 3 (((1 : Int) : Rat))).set 4 (((1 : Int) : Rat))) 5 (by exact ixd)) rfl ?_)
   refine zn (zr (zm rfl (zp (Pure1.cast (v' := .int .i64 6) (.add rfl rfl) cgd) (za rfl (zn ?_))))); intro a w h
   replace h : St 156 S w0 [(2, .bool false), (10, _), (19, _), (20, .int .i64 6), (132, .bool true)] _ _ a w := h.sub sA
   refine Ze ?_
   refine gC h (zs (zS (zm rfl (zm rfl (zp (.builtin [_] rfl (Qn _ _ _)) (zp (Pure1.cast (v' := .bool false) (.lss rfl rfl) cgd) (zn ?_))))))); clear h; intro a w h
   refine cW ?_
   refine Zf h rfl ?_
   refine gC h (ze (zS (zd rfl mr isAgg57 sizeOf57 Qa ?_))); clear h; intro a w h
   replace h := h.shareAll hS (cellsOf Zr ([((1 : Int) : Rat), ((1 : Int) : Rat), ((1 : Int) : Rat), ((1 : Int) : Rat), ((1 : Int) : Rat), ((1 : Int) : Rat)])) rfl
   refine gL h (zm rfl ?_); clear h; intro a w h
   refine Zc (Jd h (vs := [_, _]) rfl call30 (Zxk A66 [((1 : Int) : Rat), ((1 : Int) : Rat), ((1 : Int) : Rat), ((1 : Int) : Rat), ((1 : Int) : Rat), ((1 : Int) : Rat)] ad66 _ _ (hA66 ▸ Zb4 _ _ _) rfl hK66 hKB) (by exact hsA) dd ?_); clear h; rintro v142 Ψ142 a w ⟨ad142, c142, rfl, rfl⟩ h
   refine gL h (zm rfl (zp (.eX rfl) (zp (.eX rfl) (za rfl (za rfl (zn (zS (zm rfl (zp (Pure1.cast (v' := .bool true) (.eql rfl rfl) cgd) (zm rfl (zq 147 rfl rfl (.move rfl) ?_))))))))))); clear h; intro a w h
   refine Zt 147 h rfl rfl (Yl h (vs := [_]) rfl call31 (Qdq (Zjg A66 [((1 : Int) : Rat), ((1 : Int) : Rat), ((1 : Int) : Rat), ((1 : Int) : Rat), ((1 : Int) : Rat), ((1 : Int) : Rat)] 6) ad142 c142 hS3) (by exact hsA) dd ?_); clear h; intro a w h
   refine gL h (zq 147 rfl rfl (.build [] rfl (Zlv)) (zq 147 rfl rfl (Pure1.cast (v' := .bool true) (.binOp rfl rfl (fun _ => Zh8 _ _ 0 0 _)) ss) (zp (.pickT rfl rfl) (zm rfl ?_)))); clear h; intro a w h
   refine Zt 153 h rfl rfl (Yl h (vs := []) rfl call6 (Zl5) (by exact hsA) dd ?_); clear h; intro a w h
   refine gL h (zp (.pickT rfl rfl) (za rfl (zn (zt ?_)))); clear h; intro a w h
   exact Zdj h
  skip
  refine gL h (zp (.pickF rfl rfl) (zn ?_)); clear h; intro a w h
 all_goals
  refine cW ?_
  refine Zi h rfl ?_
  refine wp_seq (wp_region_lit ?_)
  refine Zc (Yl h (vs := []) rfl call6 (Zl5) (by exact hsA) dd ?_); clear h; intro a w h
  refine gL h (za rfl (zn (zt ?_))); clear h; intro a w h
  exact Zdj h
end
end Go.Proofs.YthcjdeklpegceaaGreatDoor
