/- Walks of functions. By an AI agent. -/
import Derived.Test.YtddhlkfpdjmplabGreatDoorRules1
import Derived.Test.YtddhlkfpdjmplabGreatDoorFxC
import Derived.Test.YtddhlkfpdjmplabGreatDoorFxM
set_option linter.unusedVariables false
set_option linter.unusedSimpArgs false
set_option maxRecDepth 4000
namespace Go.Proofs.YtddhlkfpdjmplabGreatDoor
open Go Go.Proofs Go.Fx Tryz
attribute [local irreducible] Oper.wp Code.wp wpList Fx.Head wpOp
section
theorem Xb (x0_0 : Value) (x0_1 : Value) (x0_2 : Value) (x0_3 : Value) (x0_4 : Value) (w : World) : (Instr.buildSlice 44 1 [(0, .agg #[x0_0, x0_1, x0_2, x0_3, x0_4])].toArray).run Tryz.prog w = .ok (.slice (some ⟨w.heap.size, 0, none⟩) 1 1) (w.alloc (.cells #[x0_0, x0_1, x0_2, x0_3, x0_4] 64 (0, 0))) := by
 simp [go_sem]
def Jf (l : List Rat) (a b : Rat) : Nat → List Rat
 | 0 => List.replicate (l.length + 1) 0
 | i + 1 => ((Jf l a b i).set i ((Jf l a b i).getD i 0 + l.getD i 0 * a)).set (i + 1)
   (((Jf l a b i).set i ((Jf l a b i).getD i 0 + l.getD i 0 * a)).getD (i + 1) 0 + l.getD i 0 * b)
def Zdp (l : List Rat) (a b : Rat) : List Rat := Jf l a b l.length
theorem Zcr (l : List Rat) (a b : Rat) : ∀ i, (Jf l a b i).length = l.length + 1
 | 0 => by simp [Jf]
 | i + 1 => by simp [Jf, Zcr l a b i]
theorem Ye {l : List Rat} {k : Nat} (hk : 2 ≤ k) (h : ∀ x ∈ l, Qa x ≤ k) (j : Nat) : Qa (l.getD j 0) ≤ k := by
 by_cases hj : j < l.length
 · exact h _ (getD_mem l hj)
 · rw [List.getD_eq_getElem?_getD, List.getElem?_eq_none oo]; have := Xs; exact Nat.le_trans this hk
theorem Zcl (l : List Rat) (i j : Nat) (x : Rat) : (l.set i x).getD j 0 = x ∨ (l.set i x).getD j 0 = l.getD j 0 := by
 simp only [List.getD_eq_getElem?_getD, List.getElem?_set]
 by_cases h : i = j
 ·
  subst h
  by_cases h2 : i < l.length
  · left; simp [h2]
  · right; simp [h2, List.getElem?_eq_none (Nat.le_of_not_lt h2)]
 · simp [h]
theorem Zfr (l : List Rat) (a b : Rat) (hl : ∀ x ∈ l, Qa x ≤ 1000) (ha : Qa a ≤ 1000) (hb : Qa b ≤ 1000) : ∀ i j, Qa ((Jf l a b i).getD j 0) ≤ 1000 + 4004 * i
 | 0, j => Ye oo (fun x hx => by rw [Jf] at hx; rw [(List.mem_replicate.1 hx).2]; have := Xs; omega) j
 | i + 1, j => by
  have hx := Ye (k := 1000) oo hl i
  have h1 := Zfr l a b hl ha hb i
  have h2 := Zx (l.getD i 0) a
  have h3 := Zx (l.getD i 0) b
  have h4 := Qt ((Jf l a b i).getD i 0) (l.getD i 0 * a)
  have h5 := h1 i
  have h6 : ∀ j, Qa (((Jf l a b i).set i ((Jf l a b i).getD i 0 + l.getD i 0 * a)).getD j 0) ≤ 3001 + 4004 * i := fun j => by
   rcases Zcl (Jf l a b i) i j ((Jf l a b i).getD i 0 + l.getD i 0 * a) with h | h <;> rw [h]
   · omega
   · have := h1 j; omega
  have h7 := Qt (((Jf l a b i).set i ((Jf l a b i).getD i 0 + l.getD i 0 * a)).getD (i + 1) 0) (l.getD i 0 * b)
  have h8 := h6 (i + 1)
  unfold Jf
  rcases Zcl ((Jf l a b i).set i ((Jf l a b i).getD i 0 + l.getD i 0 * a)) (i + 1) j (((Jf l a b i).set i ((Jf l a b i).getD i 0 + l.getD i 0 * a)).getD (i + 1) 0 + l.getD i 0 * b) with h | h <;> rw [h]
  · omega
  · have := h6 j; omega
theorem Zti (ad : Option Addr) (c : Nat) (l : List Rat) (x y : Rat) (hn : l.length ≤ 1000) (hl : ∀ x ∈ l, Qa x ≤ 1000) (hx : Qa x ≤ 1000) (hy : Qa y ≤ 1000) :
  Zk4 Tryz.prog 51 [.slice ad l.length c, Zv x, Zv y] [Row ad (cellsOf Zv l)] (fun v σ => ∃ b, v = .slice (some ⟨b, 0, none⟩) (l.length + 1) (l.length + 1) ∧ σ = [(b, .cells (cellsOf Zv (Zdp l x y)).toArray 64 (0, 0))]) := by
 refine fn_introO func51 rfl ntmps51 nb ?_
 intro S w0 a hS h
 refine gC h (zS (zx rfl fun b4 => zx rfl fun b5 => za rfl (zn (zS (zm rfl (zp (.builtin [_] rfl (Zw _ _ _)) (zp (.pN (l.length + 1) (.add rfl rfl)) ?_))))))); clear h; intro a w h
 refine Zl (Xq h rfl rfl runUnderlying44 typeInfo64 sizeOf64 Ja rfl dd oo (by show 56 * (l.length + 1) ≤ 281474976710656; omega) oo dd ?_); clear h; intro b13 a w h; replace h := h.same rfl (by rw [← Zhi (enc := Zv)]) rfl
 refine gL h (za rfl (zn (zs (zS (zm rfl (zp (.builtin [_] rfl (Zw _ _ _)) (zm rfl (zn (zb ?_))))))))); clear h; intro a w h
 refine Zd (fun (i : Nat) a w => i ≤ l.length ∧ St 47 S w0 [(4, pB b4), (5, pB b5), (7, .slice (some ⟨b13, 0, none⟩) (l.length + 1) (l.length + 1)), (14, .slice ad l.length c), (15, nI l.length), (16, nI i)] [(b13, .cells (cellsOf Zv (Jf l x y i)).toArray 64 (0, 0)), (b5, bV (Zv (y)) 64), (b4, bV (Zv (x)) 64)] [Row ad (cellsOf Zv l)] a w) (fun i => l.length - i) 0 (⟨Nat.zero_le _, by exact (h).sub sA⟩) ?_; clear h
 rintro i a w ⟨hi_i, h⟩
 refine gC h (zS (zp (.lss rfl rfl) (zn (zs ?_)))); clear h; intro a w h
 refine Zb h rfl (fun hc17 => ?_) (fun hc17 => ?_)
 ·
  skip
  have hlt_i : i < l.length := dT hc17
  obtain ⟨B_ad, O_ad, rfl⟩ := h.row_addr (ad := ad) (M := cellsOf Zv l) mm (nE 5)
  have hli := Ye (k := 1000) oo hl i
  have hti := Zfr l x y hl hx hy i i
  have htl := Zcr l x y i
  have hm1 := Zx (l.getD i 0) x
  have hm2 := Zx (l.getD i 0) y
  have hs1 := Qt ((Jf l x y i).getD i 0) (l.getD i 0 * x)
  have hti2 : Qa (((Jf l x y i).set i ((Jf l x y i).getD i 0 + l.getD i 0 * x)).getD (i + 1) 0) ≤ 6004 + 4004 * i := by
   have h1 := Zfr l x y hl hx hy i (i + 1)
   rcases Zcl (Jf l x y i) i (i + 1) ((Jf l x y i).getD i 0 + l.getD i 0 * x) with h | h <;> rw [h] <;> omega
  refine gC h (zk (zs (zb (zS (zm rfl (zp (.indexAddr rfl rfl (Km _ _ _ _ _ oo)) (zD rfl mm (cells_lt (k := 5) dd (fun _ => rfl) l i oo) isAgg64 sizeOf64 (Zm (k := 5) (fun _ => rfl) ((fun _ => rfl)) l 0 i oo) (.inl rfl) ?_)))))))
  refine zz Ja fun b9 => za rfl (zt' rfl rfl Zp uu sizeOf64 rfl nb rfl ?_)
  refine zn (zs (yD Za [0, 1, 2, 3, 4, 5, 6, 7, 8, 9, 10, 11] (Zc kk) (ym rfl rfl (ym rfl rfl (ym rfl rfl (ym rfl rfl (yp rfl (.indexAddr rfl rfl (Km _ _ _ _ _ oo)) (yd rfl rfl mm isAgg64 sizeOf64 (Zbu (k := 5) (fun _ => rfl) ((fun _ => rfl)) (Jf l x y i) 0 i oo) ?_))))))))
  refine yd rfl rfl mr isAgg64 sizeOf64 Zh ?_
  refine yd rfl rfl mr isAgg64 sizeOf64 Zh ?_
  refine yv [_, _] rfl rfl call42 (Yh _ _ oo oo) ?_
  have hl29 := Zx (l.getD i 0) (x)
  refine yv [_, _] rfl rfl call37 (Gc _ _ oo oo) ?_
  have hl30 := Qt ((Jf l x y i).getD i 0) ((l.getD i 0) * x)
  refine yp rfl (.indexAddr rfl rfl (Km _ _ _ _ _ oo)) ?_
  refine Ze9 (b := b13) (cs := (cellsOf Zv (Jf l x y i)).toArray) (cs' := (cellsOf Zv ((Jf l x y i).set i (((Jf l x y i).getD i 0) + ((l.getD i 0) * x)))).toArray) (v := Zv (((Jf l x y i).getD i 0) + ((l.getD i 0) * x))) rfl kk rfl rfl (Zex (k := 5) (fun _ => rfl) (Jf l x y i) i oo (((Jf l x y i).getD i 0) + ((l.getD i 0) * x))) uu sizeOf64 rfl (Zgr (k := 5) (fun _ => rfl) (Jf l x y i) i oo) rfl ?_
  refine yn (yD Za [0, 1, 2, 3, 4, 5, 6, 7, 8, 9, 10, 11, 12, 13] (Zc kk) (ym rfl rfl (ym rfl rfl (yp rfl (.pN (i + 1) (.add rfl rfl)) (ym rfl rfl (ym rfl rfl (yp rfl (.pN (i + 1) (.add rfl rfl)) (yp rfl (.indexAddr rfl rfl (Km _ _ _ _ _ oo)) (yd rfl rfl mm isAgg64 sizeOf64 (Zbu (k := 5) (fun _ => rfl) ((fun _ => rfl)) ((Jf l x y i).set i (((Jf l x y i).getD i 0) + ((l.getD i 0) * x))) 0 (i + 1) (by rw [List.length_set]; omega)) ?_)))))))))
  refine yd rfl rfl mr isAgg64 sizeOf64 Zh ?_
  refine yd rfl rfl mr isAgg64 sizeOf64 Zh ?_
  refine yv [_, _] rfl rfl call42 (Yh _ _ oo oo) ?_
  have hl42 := Zx (l.getD i 0) (y)
  refine yv [_, _] rfl rfl call37 (Gc _ _ oo oo) ?_
  have hl43 := Qt (((Jf l x y i).set i (((Jf l x y i).getD i 0) + ((l.getD i 0) * x))).getD (i + 1) 0) ((l.getD i 0) * y)
  refine yp rfl (.indexAddr rfl rfl (Km _ _ _ _ _ oo)) ?_
  refine Ze9 (b := b13) (cs := (cellsOf Zv ((Jf l x y i).set i (((Jf l x y i).getD i 0) + ((l.getD i 0) * x)))).toArray) (cs' := (cellsOf Zv (((Jf l x y i).set i (((Jf l x y i).getD i 0) + ((l.getD i 0) * x))).set (i + 1) ((((Jf l x y i).set i (((Jf l x y i).getD i 0) + ((l.getD i 0) * x))).getD (i + 1) 0) + ((l.getD i 0) * y)))).toArray) (v := Zv ((((Jf l x y i).set i (((Jf l x y i).getD i 0) + ((l.getD i 0) * x))).getD (i + 1) 0) + ((l.getD i 0) * y))) rfl kk rfl rfl (Zex (k := 5) (fun _ => rfl) ((Jf l x y i).set i (((Jf l x y i).getD i 0) + ((l.getD i 0) * x))) (i + 1) (by rw [List.length_set]; omega) ((((Jf l x y i).set i (((Jf l x y i).getD i 0) + ((l.getD i 0) * x))).getD (i + 1) 0) + ((l.getD i 0) * y))) uu sizeOf64 rfl (Zgr (k := 5) (fun _ => rfl) ((Jf l x y i).set i (((Jf l x y i).getD i 0) + ((l.getD i 0) * x))) (i + 1) (by rw [List.length_set]; omega)) rfl ?_
  refine yn (zr (zp (.pN (i + 1) (.add rfl rfl)) (zm rfl (zn ?_)))); intro a w h
  exact ⟨i + 1, ⟨oo, ((h.drop sl).factsSub (by simp)).sub sA⟩, oo⟩
 ·
  skip
  have heq_i : l.length = i := dF hc17
  subst heq_i
  refine gC h (ze (zS (zm rfl (za rfl (zn (zt ?_)))))); clear h; intro a w h
  refine Zu2 h (Ze h rfl (.tmp rfl)) ⟨_, rfl, rfl⟩ (List.Sublist.cons_cons _ (List.nil_sublist _))
def Zu (n : Nat) : Nat → List Rat
 | 0 => [((1 : Int) : Rat)]
 | m + 1 => Zdp (Zu n m) (((-((m : Nat) : Int) : Int) : Rat) / (((m + 1 : Nat) : Int) : Rat)) ((((n : Nat) : Int) : Rat) / (((m + 1 : Nat) : Int) : Rat))
theorem Zbt (n : Nat) : ∀ i, (Zu n i).length = i + 1
 | 0 => rfl
 | i + 1 => by rw [Zu, Zdp, Zcr, Zbt n i]
theorem Zy9 (ad : Option Addr) (c n : Nat) (l : List Rat) (x y : Rat) (hln : n = l.length) (hn : l.length ≤ 1000) (hl : ∀ x ∈ l, Qa x ≤ 1000) (hx : Qa x ≤ 1000) (hy : Qa y ≤ 1000) :
  Zk4 Tryz.prog 51 [.slice ad n c, Zv x, Zv y] [Row ad (cellsOf Zv l)] (fun v σ => ∃ b, v = .slice (some ⟨b, 0, none⟩) (n + 1) (n + 1) ∧ σ = [(b, .cells (cellsOf Zv (Zdp l x y)).toArray 64 (0, 0))]) := by
 subst hln; exact Zti ad c l x y hn hl hx hy
theorem Zmw (n i : Nat) (hn : n ≤ 1000) (hi : i ≤ 100) (hs : ∀ m, m ≤ i → ∀ x ∈ Zu n m, Qa x ≤ 1000) :
  Ctr Tryz.prog 49 [.int .i64 ((n : Nat) : Int), .int .i64 ((i : Nat) : Int)] [] (fun v Ψ => ∃ ad c, v = .slice ad (i + 1) c ∧ Ψ = [Row ad (cellsOf Zv (Zu n i))]) := by
 refine fn_intro func49 rfl ntmps49 nb ?_
 intro S w0 a hS h
 refine gC h (zS (za rfl (zn (zS (zv [_] rfl call31 (Vg _ oo oo) ?_)))))
 have hl7 := Qo (1) oo oo
 refine zB [(_, _)] rfl (Xb _ _ _ _ _) fun b8 => ?_; intro a w h
 replace h := h.shareAll hS (cellsOf Zv ([((1 : Int) : Rat)])) rfl
 refine gL h (za rfl (zn (zs (zS (zm rfl (zm rfl (zn (zb ?_)))))))); clear h; intro a w h
 refine Zd (fun (m : Nat) a w => m ≤ i ∧ ∃ (ad : Option Addr) (c : Nat), St 26 S w0 [(0, nI n), (5, .slice ad (m + 1) c), (9, nI i), (10, nI m)] [] [Row ad (cellsOf Zv (Zu n m))] a w) (fun m => i - m) 0 (⟨Nat.zero_le _, _, _, by rw [show Zu n 0 = [((1 : Int) : Rat)] from rfl]; exact (h.factsSub (by simp)).sub (Zdz ⟨rfl, rfl, rfl, rfl, trivial⟩)⟩) ?_; clear h
 rintro m a w ⟨hi_m, ad, c, h⟩
 refine gC h (zS (zp (.lss rfl rfl) (zn (zs ?_)))); clear h; intro a w h
 refine Zb h rfl (fun hc11 => ?_) (fun hc11 => ?_)
 ·
  skip
  have hlt_m : m < i := dT hc11
  have hsm := hs m oo
  have hrl := Zbt n m
  have hq1 := Xy (-((m : Nat) : Int)) ((m + 1 : Nat) : Int) oo oo oo oo
  have hq2 := Xy ((n : Nat) : Int) ((m + 1 : Nat) : Int) oo oo oo oo
  refine gC h (zk (zs (zb (zS (zm rfl (za rfl (zn (zr (zm rfl (zm rfl (zp (.unOp rfl (fun w => Zli _ oo oo w)) (zm rfl (zp (.pN (m + 1) (.add rfl rfl)) (zv [_, _] rfl call50 (Zaw _ _ oo oo oo oo oo) ?_))))))))))))))
  have hl18 := Xy (-((m : Nat) : Int)) (((m + 1 : Nat) : Int)) oo oo oo oo
  refine zm rfl (zm rfl (zp (.pN (m + 1) (.add rfl rfl)) (zv [_, _] rfl call50 (Zaw _ _ oo oo oo oo oo) ?_))); intro a w h
  have hl22 := Xy (((n : Nat) : Int)) (((m + 1 : Nat) : Int)) oo oo oo oo
  refine Zl (Kk h (vs := [_, _, _]) rfl call51 (Zy9 ad c _ (Zu n m) _ _ hrl.symm oo hsm oo oo) ss dd ?_); clear h; rintro v23 σ23 a w ⟨b23, rfl, rfl⟩ h
  replace h := h.shareAll hS (cellsOf Zv (Zu n (m + 1))) rfl
  refine gL h (za rfl (zn (zr (zp (.pN (m + 1) (.add rfl rfl)) (zm rfl (zn ?_)))))); clear h; intro a w h
  exact ⟨m + 1, ⟨oo, _, _, by exact (h.factsSub (by simp)).sub (Zdz ⟨rfl, rfl, rfl, rfl, trivial⟩)⟩, oo⟩
 ·
  skip
  have heq_m : i = m := dF hc11
  subst heq_m
  refine gC h (ze (zS (zm rfl (za rfl (zn (zt ?_)))))); clear h; intro a w h
  refine Jm (Ψ := [Row _ (cellsOf Zv (Zu n i))]) h (Ze h rfl (.tmp rfl)) ⟨_, _, rfl, rfl⟩ ss
end
section
theorem Xc {b off : Nat} (w : World) : (Instr.fieldAt 46 (.pointer (some ⟨b, off, none⟩)) 0).run Tryz.prog w = .ok (.pointer (some ⟨b, off + 0, none⟩)) w := by
 simp [go_sem]
theorem Jz (a : Option Addr) (n c : Nat) (w : World) (ty : TypeId) (cs : Array Bool) : (Go.builtin .len #[43] ty cs #[.slice a n c]).run Tryz.prog w = .ok (.value (.int .i64 n)) w := by
 simp [go_sem]
theorem Qx {b off : Nat} (w : World) : (Instr.fieldAt 46 (.pointer (some ⟨b, off, none⟩)) 1).run Tryz.prog w = .ok (.pointer (some ⟨b, off + 1, none⟩)) w := by
 simp [go_sem]
theorem Zh1 (b off n c j : Nat) (h : j < n) (w : World) : (Instr.indexAt 43 (.slice (some ⟨b, off, none⟩) n c) (.int .i64 (j : Int))).run Tryz.prog w = .ok (.pointer (some ⟨b, off + j * 15, none⟩)) w := by
 simpa using Je runUnderlying43 sizeOf77 b off n c j h w
theorem Zew {c0 c1 c2 c3 c4 c5 c6 c7 c8 c9 c10 c11 c12 c13 c14 v0 v1 v2 v3 v4 v5 v6 v7 v8 v9 v10 v11 v12 v13 v14 : Value} : Qr #[c0, c1, c2, c3, c4, c5, c6, c7, c8, c9, c10, c11, c12, c13, c14] 0 [v0, v1, v2, v3, v4, v5, v6, v7, v8, v9, v10, v11, v12, v13, v14] = #[v0, v1, v2, v3, v4, v5, v6, v7, v8, v9, v10, v11, v12, v13, v14] := by kernel_rfl
theorem Zne (b off : Nat) (w : World) : (Instr.sliceAt 77 (.pointer (some ⟨b, off, none⟩)) none none none).run Tryz.prog w = .ok (.slice (some ⟨b, off, none⟩) 3 3) w := by
 simp [go_sem, Instr.sliceAt, Instr.sliceBounds]
theorem Zdf (b off : Nat) (w : World) : (Instr.indexAt 77 (.pointer (some ⟨b, off, none⟩)) (.int .i64 0)).run Tryz.prog w = .ok (.pointer (some ⟨b, off + 0, none⟩)) w := by
 simp [go_sem, Instr.indexAt]
theorem Zd8 {c0 c1 c2 c3 c4 c5 c6 c7 c8 c9 c10 c11 c12 c13 c14 : Value} : Qv true 5 #[c0, c1, c2, c3, c4, c5, c6, c7, c8, c9, c10, c11, c12, c13, c14] 0 = some (.agg #[c0, c1, c2, c3, c4]) := rfl
theorem Zgl (b off : Nat) (w : World) : (Instr.indexAt 77 (.pointer (some ⟨b, off, none⟩)) (.int .i64 1)).run Tryz.prog w = .ok (.pointer (some ⟨b, off + 5, none⟩)) w := by
 simp [go_sem, Instr.indexAt]
theorem Zd7 {c0 c1 c2 c3 c4 c5 c6 c7 c8 c9 c10 c11 c12 c13 c14 : Value} : Qv true 5 #[c0, c1, c2, c3, c4, c5, c6, c7, c8, c9, c10, c11, c12, c13, c14] 5 = some (.agg #[c5, c6, c7, c8, c9]) := rfl
theorem Zgk (b off : Nat) (w : World) : (Instr.indexAt 77 (.pointer (some ⟨b, off, none⟩)) (.int .i64 2)).run Tryz.prog w = .ok (.pointer (some ⟨b, off + 10, none⟩)) w := by
 simp [go_sem, Instr.indexAt]
theorem Zcs {c0 c1 c2 c3 c4 c5 c6 c7 c8 c9 c10 c11 c12 c13 c14 : Value} : Qv true 5 #[c0, c1, c2, c3, c4, c5, c6, c7, c8, c9, c10, c11, c12, c13, c14] 10 = some (.agg #[c10, c11, c12, c13, c14]) := rfl
def Zvq (p : Rat × Rat × Rat) : Rat := [p.1, p.2.1, p.2.2].foldl (· + ·) 0
def Kq (ps : List (Rat × Rat × Rat)) (ws : List Rat) : Int := if ps.length = ws.length then (if ∀ p ∈ ps, Zvq p = ((1 : Int) : Rat) then 0 else 1) else 1
theorem Zz9 {α : Type} {p : α → Prop} {l : List α} {i : Nat} {d : α} (h : ∀ x ∈ l.take i, p x) (hi : i < l.length) (hp : p (l.getD i d)) : ∀ x ∈ l.take (i + 1), p x := by
 intro x hx
 rw [List.take_add_one, List.getElem?_eq_getElem hi] at hx
 simp only [Option.toList_some, List.mem_append, List.mem_singleton] at hx
 rcases hx with hx | hx
 · exact h x hx
 · subst hx; simpa [List.getD, List.getElem?_eq_getElem hi] using hp
theorem Zf0 (ad1 ad2 : Option Addr) (c1 c2 : Nat) (ps : List (Rat × Rat × Rat)) (ws : List Rat) (hnp : ps.length ≤ 1000) (hnw : ws.length ≤ 1000) (hps : ∀ p ∈ ps, Qa p.1 ≤ 1000 ∧ Qa p.2.1 ≤ 1000 ∧ Qa p.2.2 ≤ 1000) :
  Ge Tryz.prog 23 [.agg #[.slice ad1 ps.length c1, .slice ad2 ws.length c2]] [Row ad1 (cellsOf Gb ps), Row ad2 (cellsOf Zv ws)] (.int .i64 (Kq ps ws)) := by
 refine fn_intro func23 rfl ntmps23 nb ?_
 intro S w0 a hS h
 refine gC h (zS (zx rfl fun b1 => za rfl (zn (zs (zS (zp (.fA rfl Xc) (zd rfl mr isAgg43 sizeOf43 Ql ?_)))))))
 refine zp (.builtin [_] rfl (Jz _ _ _)) (zp (.fA rfl Qx) (zd rfl mr isAgg44 sizeOf44 Qi ?_))
 refine zp (.builtin [_] rfl (Zw _ _ _)) (zp (.neq rfl rfl) ?_); intro a w h
 refine Zi h (fun hc11 h => ?_) (fun hc11 h => ?_)
 ·
  skip
  have hne : ps.length ≠ ws.length := Zdd hc11
  refine wpList_nil ?_
  refine cW ?_
  refine Qf h rfl ?_
  refine gC h (zS (za rfl (zn (zt ?_)))); clear h; intro a w h
  refine Jr h (Ze h rfl (.tmp rfl)) ?_
  unfold Kq; rw [if_neg hne]
 ·
  skip
  have hle : ps.length = ws.length := Znw hc11
  refine wpList_nil ?_
  refine cW ?_
  refine Zn h rfl ?_
  refine gC h (zk (zs (zS (zp (.fA rfl Xc) (zd rfl mr isAgg43 sizeOf43 Ql ?_)))))
  refine zp (.builtin [_] rfl (Jz _ _ _)) (zm rfl (zn (zb ?_))); intro a w h
  refine Zd (fun (i : Nat) a w => i ≤ ps.length ∧ (∀ x ∈ ps.take i, Zvq x = ((1 : Int) : Rat)) ∧ St 24 S w0 [(13, .slice ad1 ps.length c1), (14, nI ps.length), (15, nI i)] [(b1, bV (.agg #[.slice ad1 ps.length c1, .slice ad2 ws.length c2]) 46)] [Row ad1 (cellsOf Gb ps), Row ad2 (cellsOf Zv ws)] a w) (fun i => ps.length - i) 0 (⟨Nat.zero_le _, by simp, by exact (h).sub sA⟩) ?_; clear h
  rintro i a w ⟨hi_i, hinv_i, h⟩
  refine gC h (zS (zp (.lss rfl rfl) (zn (zs ?_)))); clear h; intro a w h
  refine Zb h rfl (fun hc16 => ?_) (fun hc16 => ?_)
  ·
   skip
   have hlt_i : i < ps.length := dT hc16
   obtain ⟨B_ad1, O_ad1, rfl⟩ := h.row_addr (ad := ad1) (M := cellsOf Gb ps) mm (nE 15)
   have hpi := hps (ps.getD i (0, 0, 0)) (getD_mem _ hlt_i)
   refine gC h (zk (zs (zb (zS (zp (.indexAddr rfl rfl (Zh1 _ _ _ _ _ oo)) (zD rfl mm (cells_lt (k := 15) dd (fun _ => rfl) ps i oo) isAgg77 sizeOf77 (Zm (k := 15) (fun _ => rfl) ((fun _ => rfl)) ps (0, 0, 0) i oo) (.inl rfl) ?_))))))
   refine zz Zpp fun b4 => zt' rfl rfl Zew uu sizeOf77 rfl nb rfl ?_
   refine zn (zS (zp (.slice rfl none none none rfl rfl rfl (Zne _ _)) ?_)); intro a w h
   replace h := h.shareAll hS (cellsOf Zv ([(ps.getD i (0, 0, 0)).1, (ps.getD i (0, 0, 0)).2.1, (ps.getD i (0, 0, 0)).2.2])) rfl
   refine gL h (zw [_] rfl call30 (Qdj _ _ [(ps.getD i (0, 0, 0)).1, (ps.getD i (0, 0, 0)).2.1, (ps.getD i (0, 0, 0)).2.2] ss (by intro x hx; simp only [List.mem_cons, List.not_mem_nil, or_false] at hx; rcases hx with rfl | rfl | rfl <;> omega)) (zv [_] rfl call31 (Vg _ oo oo) ?_))
   have hl21 := Qo (1) oo oo
   refine zp (.binOp rfl rfl (fun _ => Kr _ _ (Zvq (ps.getD i (0, 0, 0))) (((1 : Int) : Rat)) _)) (zn ?_); intro a w h
   refine cW ?_
   refine Zb h rfl (fun hc22 => ?_) (fun hc22 => ?_)
   ·
    skip
    have hbad : ¬ Zvq (ps.getD i (0, 0, 0)) = ((1 : Int) : Rat) := by simpa [Zvq] using hc22
    refine gC h (zS (za rfl (zn (zt ?_)))); clear h; intro a w h
    refine Jr h (Ze h rfl (.tmp rfl)) ?_
    unfold Kq; rw [if_pos hle, if_neg (fun hh => hbad (hh _ (getD_mem _ hlt_i)))]
   ·
    skip
    have hgood : Zvq (ps.getD i (0, 0, 0)) = ((1 : Int) : Rat) := by simpa [Zvq] using hc22
    refine gC h (zk (zr (zp (.pN (i + 1) (.add rfl rfl)) (zm rfl (zn ?_))))); clear h; intro a w h
    exact ⟨i + 1, ⟨oo, Zz9 hinv_i hlt_i hgood, (h.factsSub (by simp)).sub sA⟩, oo⟩
  ·
   skip
   have heq_i : ps.length = i := dF hc16
   subst heq_i
   refine gC h (ze (zS (za rfl (zn (zt ?_))))); clear h; intro a w h
   refine Jr h (Ze h rfl (.tmp rfl)) ?_
   rw [List.take_length] at hinv_i; unfold Kq; rw [if_pos hle, if_pos hinv_i]
def Ziy (ps : List (Rat × Rat × Rat)) (ws : List Rat) (i j k : Nat) : Nat → Rat
 | 0 => 0
 | n + 1 => Ziy ps ws i j k n + ws.getD n 0 * ((ps.getD n (0, 0, 0)).1 ^ i * ((ps.getD n (0, 0, 0)).2.1 ^ j * (ps.getD n (0, 0, 0)).2.2 ^ k))
theorem Zn4 (ps : List (Rat × Rat × Rat)) (ws : List Rat) (i j k : Nat) (hps : ∀ p ∈ ps, Qa p.1 ≤ 1000 ∧ Qa p.2.1 ≤ 1000 ∧ Qa p.2.2 ≤ 1000) (hws : ∀ x ∈ ws, Qa x ≤ 1000) (hi : i ≤ 100) (hj : j ≤ 100) (hk : k ≤ 100) (hle : ps.length = ws.length) :
  ∀ n, n ≤ ws.length → Qa (Ziy ps ws i j k n) ≤ 2 + 301007 * n
 | 0, _ => by rw [Ziy]; have := Xs; omega
 | n + 1, h => by
  have h0 := Zn4 ps ws i j k hps hws hi hj hk hle n oo
  have hp := hps (ps.getD n (0, 0, 0)) (getD_mem _ oo)
  have hw := hws (ws.getD n 0) (getD_mem _ oo)
  rw [Ziy]
  generalize ps.getD n (0, 0, 0) = p at *
  generalize ws.getD n 0 = x at *
  have a1 := Xo p.1 i 1000 100 hp.1 hi
  have a2 := Xo p.2.1 j 1000 100 hp.2.1 hj
  have a3 := Xo p.2.2 k 1000 100 hp.2.2 hk
  have b1 := Zx (p.2.1 ^ j) (p.2.2 ^ k)
  have b2 := Zx (p.1 ^ i) (p.2.1 ^ j * p.2.2 ^ k)
  have b3 := Zx x (p.1 ^ i * (p.2.1 ^ j * p.2.2 ^ k))
  have b4 := Qt (Ziy ps ws i j k n) (x * (p.1 ^ i * (p.2.1 ^ j * p.2.2 ^ k)))
  omega
def Zg4 (ps : List (Rat × Rat × Rat)) (ws : List Rat) (d : Nat) : Prop := ∀ i, i < d + 1 → ∀ j, j < d - i + 1 → Ziy ps ws i j (d - i - j) ws.length = Jd i j (d - i - j)
instance (ps : List (Rat × Rat × Rat)) (ws : List Rat) (d : Nat) : Decidable (Zg4 ps ws d) := by unfold Zg4; infer_instance
def exN (ps : List (Rat × Rat × Rat)) (ws : List Rat) : Nat → Nat → Nat
 | 0, d => d
 | f + 1, d => if Zg4 ps ws d then exN ps ws f (d + 1) else d
def Ga (ps : List (Rat × Rat × Rat)) (ws : List Rat) : Int := (exN ps ws 13 0 : Int) - 1
theorem Zjd (ps : List (Rat × Rat × Rat)) (ws : List Rat) : ∀ (f d e : Nat), d ≤ e → e ≤ d + f → (∀ x, d ≤ x → x < e → Zg4 ps ws x) → (e = d + f ∨ ¬ Zg4 ps ws e) → exN ps ws f d = e
 | 0, d, e, h1, h2, _, _ => by rw [exN]; omega
 | f + 1, d, e, h1, h2, h3, h4 => by
  rw [exN]
  by_cases h : d = e
  ·
   subst h
   rcases h4 with h4 | h4
   · omega
   · rw [if_neg h4]
  ·
   rw [if_pos (h3 d (Nat.le_refl _) oo)]
   exact Zjd ps ws f (d + 1) e oo oo (fun x hx hy => h3 x oo hy) (h4.imp (fun h => by omega) id)
theorem Za3 (ad1 ad2 : Option Addr) (c1 c2 : Nat) (ps : List (Rat × Rat × Rat)) (ws : List Rat) (hnp : ps.length ≤ 1000) (hnw : ws.length ≤ 1000) (hps : ∀ p ∈ ps, Qa p.1 ≤ 1000 ∧ Qa p.2.1 ≤ 1000 ∧ Qa p.2.2 ≤ 1000) (hws : ∀ x ∈ ws, Qa x ≤ 1000) (hv : Kq ps ws = 0) :
  Ge Tryz.prog 12 [.agg #[.slice ad1 ps.length c1, .slice ad2 ws.length c2]] [Row ad1 (cellsOf Gb ps), Row ad2 (cellsOf Zv ws)] (.int .i64 (Ga ps ws)) := by
 have hle : ps.length = ws.length := by
  unfold Kq at hv; by_cases h : ps.length = ws.length
  · exact h
  · rw [if_neg h] at hv; cases hv
 refine fn_intro func12 rfl ntmps12 nb ?_
 intro S w0 a hS h
 refine gC h (zS (zx rfl fun b1 => za rfl (zn (zc (zs (zS (zd rfl mr isAgg46 sizeOf46 Zg ?_)))))))
 refine zw [_] rfl call23 (Zf0 ad1 ad2 c1 c2 ps ws hnp hnw hps) (zp (.neq rfl rfl) (zn ?_)); intro a w h
 refine cW ?_
 refine Zb h rfl (fun hc13 => (by exfalso; rw [hv] at hc13; exact absurd hc13 dd)) (fun hc13 => ?_)
 refine gC h (zk (zS (za rfl (zn (zs (zl (zs (zS (zm rfl (zn (zb ?_))))))))))); clear h; intro a w h
 refine Zd (fun (d : Nat) a w => d ≤ 13 ∧ (∀ x, x < d → Zg4 ps ws x) ∧ St 80 S w0 [(1, pB b1), (2, .int .i64 0), (3, .int .i64 (((d : Nat) : Int) - 1)), (14, nI d)] [(b1, bV (.agg #[.slice ad1 ps.length c1, .slice ad2 ws.length c2]) 46)] [Row ad1 (cellsOf Gb ps), Row ad2 (cellsOf Zv ws)] a w) (fun d => 13 - d) 0 (⟨Nat.zero_le _, fun x hx => absurd hx (Nat.not_lt_zero _), by exact (h).sub sA⟩) ?_; clear h
 rintro d a w ⟨hi_d, hinv_d, h⟩
 refine gC h (zS (zp (.lss rfl rfl) (zn (zs ?_)))); clear h; intro a w h
 refine Zb h rfl (fun hc15 => ?_) (fun hc15 => ?_)
 ·
  skip
  have hlt_d : d < 13 := dT hc15
  refine gC h (zk (zs (zb (zS (zm rfl (za rfl (zn (zs (zS (zm rfl (zp (.pN (d + 1) (.add rfl rfl)) (zm rfl (zn (zb ?_)))))))))))))); clear h; intro a w h
  refine Zd (fun (i : Nat) a w => i ≤ (d + 1) ∧ (∀ i', i' < i → ∀ j, j < d - i' + 1 → Ziy ps ws i' j (d - i' - j) ws.length = Jd i' j (d - i' - j)) ∧ St 80 S w0 [(1, pB b1), (2, .int .i64 0), (3, .int .i64 (((d : Nat) : Int) - 1)), (4, nI d), (14, nI d), (18, nI (d + 1)), (19, nI i)] [(b1, bV (.agg #[.slice ad1 ps.length c1, .slice ad2 ws.length c2]) 46)] [Row ad1 (cellsOf Gb ps), Row ad2 (cellsOf Zv ws)] a w) (fun i => (d + 1) - i) 0 (⟨Nat.zero_le _, fun x hx => absurd hx (Nat.not_lt_zero _), by exact (h).sub sA⟩) ?_; clear h
  rintro i a w ⟨hi_i, hinv_i, h⟩
  refine gC h (zS (zp (.lss rfl rfl) (zn (zs ?_)))); clear h; intro a w h
  refine Zb h rfl (fun hc20 => ?_) (fun hc20 => ?_)
  ·
   skip
   have hlt_i : i < (d + 1) := dT hc20
   refine gC h (zk (zs (zb (zS (zm rfl (za rfl (zn (zS (zm rfl (zm rfl (zp (.pO (d - i) (.sub rfl rfl)) (zp (.pN ((d - i) + 1) (.add rfl rfl)) (zm rfl (zn (zb ?_))))))))))))))); clear h; intro a w h
   refine Zd (fun (j : Nat) a w => j ≤ (d - i + 1) ∧ (∀ j', j' < j → Ziy ps ws i j' (d - i - j') ws.length = Jd i j' (d - i - j')) ∧ St 80 S w0 [(1, pB b1), (2, .int .i64 0), (3, .int .i64 (((d : Nat) : Int) - 1)), (4, nI d), (5, nI i), (14, nI d), (18, nI (d + 1)), (19, nI i), (25, nI ((d - i) + 1)), (26, nI j)] [(b1, bV (.agg #[.slice ad1 ps.length c1, .slice ad2 ws.length c2]) 46)] [Row ad1 (cellsOf Gb ps), Row ad2 (cellsOf Zv ws)] a w) (fun j => (d - i + 1) - j) 0 (⟨Nat.zero_le _, fun x hx => absurd hx (Nat.not_lt_zero _), by exact (h).sub sA⟩) ?_; clear h
   rintro j a w ⟨hi_j, hinv_j, h⟩
   refine gC h (zS (zp (.lss rfl rfl) (zn (zs ?_)))); clear h; intro a w h
   refine Zb h rfl (fun hc27 => ?_) (fun hc27 => ?_)
   ·
    skip
    have hlt_j : j < (d - i + 1) := dT hc27
    refine gC h (zk (zs (zb (zS (zm rfl (za rfl (zn (zS (zz Ja fun b7 => zn (zs (zS (zp (.fA rfl Qx) (zd rfl mr isAgg44 sizeOf44 Qi ?_)))))))))))))
    refine zp (.builtin [_] rfl (Zw _ _ _)) (zm rfl (zn (zb ?_))); intro a w h
    refine Zd (fun (n : Nat) a w => n ≤ ws.length ∧ St 80 S w0 [(1, pB b1), (2, .int .i64 0), (3, .int .i64 (((d : Nat) : Int) - 1)), (4, nI d), (5, nI i), (6, nI j), (7, pB b7), (14, nI d), (18, nI (d + 1)), (19, nI i), (25, nI ((d - i) + 1)), (26, nI j), (30, .slice ad2 ws.length c2), (31, nI ws.length), (32, nI n)] [(b7, bV (Zv (Ziy ps ws i j (d - i - j) n)) 64), (b1, bV (.agg #[.slice ad1 ps.length c1, .slice ad2 ws.length c2]) 46)] [Row ad1 (cellsOf Gb ps), Row ad2 (cellsOf Zv ws)] a w) (fun n => ws.length - n) 0 (⟨Nat.zero_le _, by exact (h).sub sA⟩) ?_; clear h
    rintro n a w ⟨hi_n, h⟩
    refine gC h (zS (zp (.lss rfl rfl) (zn (zs ?_)))); clear h; intro a w h
    refine Zb h rfl (fun hc33 => ?_) (fun hc33 => ?_)
    ·
     skip
     have hlt_n : n < ws.length := dT hc33
     obtain ⟨B_ad2, O_ad2, rfl⟩ := h.row_addr (ad := ad2) (M := cellsOf Zv ws) mm (nE 5)
     obtain ⟨B_ad1, O_ad1, rfl⟩ := h.row_addr (ad := ad1) (M := cellsOf Gb ps) mm (nE 15)
     have hp := hps (ps.getD n (0, 0, 0)) (getD_mem _ oo)
     have hw := hws (ws.getD n 0) (getD_mem _ oo)
     have hm := Zn4 ps ws i j (d - i - j) hps hws oo oo oo hle n oo
     refine gC h (zk (zs (zb (zS (zm rfl (zp (.indexAddr rfl rfl (Km _ _ _ _ _ oo)) (zD rfl mm (cells_lt (k := 5) dd (fun _ => rfl) ws n oo) isAgg64 sizeOf64 (Zm (k := 5) (fun _ => rfl) ((fun _ => rfl)) ws 0 n oo) (.inl rfl) ?_)))))))
     refine zz Ja fun b9 => za rfl (zt' rfl rfl Zp uu sizeOf64 rfl nb rfl ?_)
     refine zn (zS (zp (.fA rfl Xc) (zd rfl mr isAgg43 sizeOf43 Ql ?_)))
     refine zm rfl (zp (.indexAddr rfl rfl (Zh1 _ _ _ _ _ oo)) (zD rfl mm (cells_lt (k := 15) dd (fun _ => rfl) ps n oo) isAgg77 sizeOf77 (Zm (k := 15) (fun _ => rfl) ((fun _ => rfl)) ps (0, 0, 0) n oo) (.inl rfl) ?_))
     refine zz Zpp fun b10 => zt' rfl rfl Zew uu sizeOf77 rfl nb rfl ?_
     refine zn (yD Za [0, 1, 2, 3, 4, 6, 7, 8, 10, 11, 12, 13, 14, 15, 16, 5, 9, 17, 18, 19, 20, 21, 22] (Zc kk) (yd rfl rfl mr isAgg64 sizeOf64 Zh ?_))
     refine yd rfl rfl mr isAgg64 sizeOf64 Zh ?_
     refine yp rfl (.indexAddr rfl rfl (Zdf _ _)) (yd rfl rfl mr isAgg64 sizeOf64 Zd8 ?_)
     refine ym rfl rfl (yp rfl (.indexAddr rfl rfl (Zgl _ _)) (yd rfl rfl mr isAgg64 sizeOf64 Zd7 ?_))
     refine ym rfl rfl (yp rfl (.indexAddr rfl rfl (Zgk _ _)) (yd rfl rfl mr isAgg64 sizeOf64 Zcs ?_))
     refine ym rfl rfl (ym rfl rfl (yp rfl (.pO (d - i) (.sub rfl rfl)) (ym rfl rfl (yp rfl (.pO ((d - i) - j) (.sub rfl rfl)) (yv [_, _] rfl rfl call43 (Zmz _ _ oo oo) ?_)))))
     have hl47 := Xo ((ps.getD n (0, 0, 0)).1) (i) 1000 100 oo oo
     refine yv [_, _] rfl rfl call43 (Zmz _ _ oo oo) ?_
     have hl51 := Xo ((ps.getD n (0, 0, 0)).2.1) (j) 1000 100 oo oo
     refine yv [_, _] rfl rfl call43 (Zmz _ _ oo oo) ?_
     have hl59 := Xo ((ps.getD n (0, 0, 0)).2.2) ((d - i) - j) 1000 100 oo oo
     refine yv [_, _] rfl rfl call42 (Yh _ _ oo oo) ?_
     have hl60 := Zx (((ps.getD n (0, 0, 0)).2.1) ^ j) (((ps.getD n (0, 0, 0)).2.2) ^ ((d - i) - j))
     refine yv [_, _] rfl rfl call42 (Yh _ _ oo oo) ?_
     have hl61 := Zx (((ps.getD n (0, 0, 0)).1) ^ i) ((((ps.getD n (0, 0, 0)).2.1) ^ j) * (((ps.getD n (0, 0, 0)).2.2) ^ ((d - i) - j)))
     refine yv [_, _] rfl rfl call42 (Yh _ _ oo oo) ?_
     have hl62 := Zx (ws.getD n 0) ((((ps.getD n (0, 0, 0)).1) ^ i) * ((((ps.getD n (0, 0, 0)).2.1) ^ j) * (((ps.getD n (0, 0, 0)).2.2) ^ ((d - i) - j))))
     refine yv [_, _] rfl rfl call37 (Gc _ _ oo oo) ?_
     have hl63 := Qt (Ziy ps ws i j (d - i - j) n) ((ws.getD n 0) * ((((ps.getD n (0, 0, 0)).1) ^ i) * ((((ps.getD n (0, 0, 0)).2.1) ^ j) * (((ps.getD n (0, 0, 0)).2.2) ^ ((d - i) - j)))))
     refine yt rfl rfl rfl Zp uu sizeOf64 rfl nb rfl ?_
     refine yn (zr (zp (.pN (n + 1) (.add rfl rfl)) (zm rfl (zn ?_)))); intro a w h
     exact ⟨n + 1, ⟨oo, ((h.drop sl).factsSub (by simp)).sub sA⟩, oo⟩
    ·
     skip
     have heq_n : ws.length = n := dF hc33
     subst heq_n
     refine gC h (ze (zs (yD Za [0, 1, 2, 3, 4, 5, 6, 7, 8, 9] (Zc kk) (yd rfl rfl mr isAgg64 sizeOf64 Zh ?_)))); clear h
     refine ym rfl rfl (ym rfl rfl (ym rfl rfl (ym rfl rfl (yp rfl (.pO (d - i) (.sub rfl rfl)) (ym rfl rfl (yp rfl (.pO ((d - i) - j) (.sub rfl rfl)) (yv [_, _, _] rfl rfl call44 (Ztr _ _ _ oo oo oo) ?_)))))))
     have hl73 := Zbw (i) (j) ((d - i) - j) oo oo oo
     refine yp rfl (.binOp rfl rfl (fun _ => Kr _ _ (Ziy ps ws i j (d - i - j) ws.length) (Jd i j ((d - i) - j)) _)) (yn ?_); intro a w h
     refine cW ?_
     refine Zb h rfl (fun hc74 => ?_) (fun hc74 => ?_)
     ·
      skip
      have hbad : ¬ Ziy ps ws i j (d - i - j) ws.length = Jd i j (d - i - j) := by simpa using hc74
      refine gC h (ze (zS (zm rfl (za rfl (zn (zt ?_)))))); clear h; intro a w h
      refine Jr h (Ze h rfl (.tmp rfl)) ?_
      unfold Ga; rw [Zjd ps ws 13 0 d (Nat.zero_le _) oo (fun x _ hx => hinv_d x hx) (.inr (fun hk => hbad (hk i oo j oo)))]
     ·
      skip
      have hgood : Ziy ps ws i j (d - i - j) ws.length = Jd i j (d - i - j) := by simpa using hc74
      refine gC h (zk (zr (zp (.pN (j + 1) (.add rfl rfl)) (zm rfl (zn ?_))))); clear h; intro a w h
      exact ⟨j + 1, ⟨oo, fun x hx => by rcases Nat.lt_or_ge x j with h | h; exact hinv_j x h; rw [show x = j by omega]; exact hgood, (h.drop sl).sub sA⟩, oo⟩
   ·
    skip
    have heq_j : (d - i + 1) = j := dF hc27
    subst heq_j
    refine gC h (ze (zr (zp (.pN (i + 1) (.add rfl rfl)) (zm rfl (zn ?_))))); clear h; intro a w h
    exact ⟨i + 1, ⟨oo, fun x hx => by rcases Nat.lt_or_ge x i with h | h; exact hinv_i x h; rw [show x = i by omega]; exact hinv_j, h.sub sA⟩, oo⟩
  ·
   skip
   have heq_i : (d + 1) = i := dF hc20
   subst heq_i
   refine gC h (ze (zr (zp (Pure1.cast (v' := .int .i64 (((d + 1 : Nat) : Int) - 1)) (.move rfl) (by show Value.int _ _ = Value.int _ _; congr 1; omega)) (za rfl (zn (zr (zp (.pN (d + 1) (.add rfl rfl)) (zm rfl (zn ?_))))))))); clear h; intro a w h
   exact ⟨d + 1, ⟨oo, fun x hx => by rcases Nat.lt_or_ge x d with h | h; exact hinv_d x h; rw [show x = d by omega]; exact hinv_i, h.sub sA⟩, oo⟩
 ·
  skip
  have heq_d : 13 = d := dF hc15
  subst heq_d
  refine gC h (ze (zS (zm rfl (za rfl (zn (zt ?_)))))); clear h; intro a w h
  refine Jr h (Ze h rfl (.tmp rfl)) ?_
  unfold Ga; rw [Zjd ps ws 13 0 13 (Nat.zero_le _) oo (fun x _ hx => hinv_d x hx) (.inl rfl)]
end
section
theorem Kg (x0_0 : Value) (x0_1 : Value) (x0_2 : Value) (x0_3 : Value) (x0_4 : Value) (x1_0 : Value) (x1_1 : Value) (x1_2 : Value) (x1_3 : Value) (x1_4 : Value) (x2_0 : Value) (x2_1 : Value) (x2_2 : Value) (x2_3 : Value) (x2_4 : Value) (w : World) : (Instr.build 77 [(0, .agg #[x0_0, x0_1, x0_2, x0_3, x0_4]), (1, .agg #[x1_0, x1_1, x1_2, x1_3, x1_4]), (2, .agg #[x2_0, x2_1, x2_2, x2_3, x2_4])].toArray).run Tryz.prog w = .ok (.agg #[x0_0, x0_1, x0_2, x0_3, x0_4, x1_0, x1_1, x1_2, x1_3, x1_4, x2_0, x2_1, x2_2, x2_3, x2_4]) w := by simp [go_sem]
theorem Zcy (x0_0 : Value) (x0_1 : Value) (x0_2 : Value) (x0_3 : Value) (x0_4 : Value) (x0_5 : Value) (x0_6 : Value) (x0_7 : Value) (x0_8 : Value) (x0_9 : Value) (x0_10 : Value) (x0_11 : Value) (x0_12 : Value) (x0_13 : Value) (x0_14 : Value) (w : World) : (Instr.buildSlice 43 1 [(0, .agg #[x0_0, x0_1, x0_2, x0_3, x0_4, x0_5, x0_6, x0_7, x0_8, x0_9, x0_10, x0_11, x0_12, x0_13, x0_14])].toArray).run Tryz.prog w = .ok (.slice (some ⟨w.heap.size, 0, none⟩) 1 1) (w.alloc (.cells #[x0_0, x0_1, x0_2, x0_3, x0_4, x0_5, x0_6, x0_7, x0_8, x0_9, x0_10, x0_11, x0_12, x0_13, x0_14] 77 (0, 0))) := by
 simp [go_sem]
theorem Zao {c0 c1 v0 : Value} : Qr #[c0, c1] 0 [v0] = #[v0, c1] := rfl
theorem Zan {c0 c1 v0 : Value} : Qr #[c0, c1] 1 [v0] = #[c0, v0] := rfl
def w3 (acc ab : Rat) (l : List Rat) (p q : Nat) : Nat → Rat
 | 0 => acc
 | s + 1 => w3 acc ab l p q s + ab * (l.getD s 0 * Jd p q s)
def w2 (acc a : Rat) (lj lk : List Rat) (p kk : Nat) : Nat → Rat
 | 0 => acc
 | q + 1 => w3 (w2 acc a lj lk p kk q) (a * lj.getD q 0) lk p q kk
def w1 (li lj lk : List Rat) (jj kk : Nat) : Nat → Rat
 | 0 => 0
 | p + 1 => w2 (w1 li lj lk jj kk p) (li.getD p 0) lj lk p kk jj
def Jc (n i j k : Nat) : Rat := w1 (Zu n i) (Zu n j) (Zu n k) (j + 1) (k + 1) (i + 1)
theorem Zqt (acc ab : Rat) (l : List Rat) (p q : Nat) (hab : Qa ab ≤ 2000) (hl : ∀ x ∈ l, Qa x ≤ 1000) (hp : p ≤ 48) (hq : q ≤ 48) : ∀ s, s ≤ 48 → Qa (w3 acc ab l p q s) ≤ Qa acc + 4001 * s
 | 0, _ => Nat.le_refl _
 | s + 1, h => by
  have h1 := Zqt acc ab l p q hab hl hp hq s oo
  have h2 := Ye (k := 1000) oo hl s
  have h3 := Zbw p q s hp hq oo
  have h4 := Zx (l.getD s 0) (Jd p q s)
  have h5 := Zx ab (l.getD s 0 * Jd p q s)
  have h6 := Qt (w3 acc ab l p q s) (ab * (l.getD s 0 * Jd p q s))
  rw [w3]; omega
theorem Zqu (acc a : Rat) (lj lk : List Rat) (p kk : Nat) (ha : Qa a ≤ 1000) (hj : ∀ x ∈ lj, Qa x ≤ 1000) (hk : ∀ x ∈ lk, Qa x ≤ 1000) (hp : p ≤ 48) (hkk : kk ≤ 10) : ∀ q, q ≤ 10 → Qa (w2 acc a lj lk p kk q) ≤ Qa acc + 40010 * q
 | 0, _ => Nat.le_refl _
 | q + 1, h => by
  have h1 := Zqu acc a lj lk p kk ha hj hk hp hkk q oo
  have h2 := Ye (k := 1000) oo hj q
  have h3 := Zx a (lj.getD q 0)
  have h4 := Zqt (w2 acc a lj lk p kk q) (a * lj.getD q 0) lk p q oo hk hp oo kk oo
  rw [w2]; omega
theorem Zxb (li lj lk : List Rat) (jj kk : Nat) (hi : ∀ x ∈ li, Qa x ≤ 1000) (hj : ∀ x ∈ lj, Qa x ≤ 1000) (hk : ∀ x ∈ lk, Qa x ≤ 1000) (hjj : jj ≤ 10) (hkk : kk ≤ 10) : ∀ p, p ≤ 10 → Qa (w1 li lj lk jj kk p) ≤ 2 + 400100 * p
 | 0, _ => by rw [w1]; have := Xs; omega
 | p + 1, h => by
  have h1 := Zxb li lj lk jj kk hi hj hk hjj hkk p oo
  have h2 := Ye (k := 1000) oo hi p
  have h4 := Zqu (w1 li lj lk jj kk p) (li.getD p 0) lj lk p kk oo hj hk oo hkk jj oo
  rw [w1]; omega
theorem Qb1 (n i j k b o : Nat) (hn : n ≤ 1000) (hi : i ≤ 9) (hj : j ≤ 9) (hk : k ≤ 9) (hs : ∀ m, m ≤ 9 → ∀ x ∈ Zu n m, Qa x ≤ 1000) :
  Ge Tryz.prog 48 [.int .i64 ((i : Nat) : Int), .int .i64 ((j : Nat) : Int), .int .i64 ((k : Nat) : Int), .pointer (some ⟨b, o, none⟩)] [Row (some ⟨b, o, none⟩) [.int .i64 ((n : Nat) : Int)]] (Zv (Jc n i j k)) := by
 have hsi := hs i hi
 have hsj := hs j hj
 have hsk := hs k hk
 refine fn_intro func48 rfl ntmps48 nb ?_
 intro S w0 a hS h
 refine gC h (zS (zz Ja fun b7 => zn (zs (zS (zD (b := b) (off := o) (j := 0) (M := [.int .i64 ((n : Nat) : Int)]) (v := .int .i64 ((n : Nat) : Int)) rfl mm (Nat.succ_pos _) isAgg3 sizeOf3 rfl (.inr rfl) ?_)))))
 refine zm rfl (zf [_, _] rfl call49 (Zmw n i oo oo (fun m hm => hs m oo)) ?_); rintro v16 Ψ16 ⟨ad16, c16, rfl, rfl⟩
 refine zp (.builtin [_] rfl (Zw _ _ _)) (zm rfl (zn (zb ?_))); intro a w h
 refine Zd (fun (p : Nat) a w => p ≤ (i + 1) ∧ St 57 S w0 [(1, nI j), (2, nI k), (3, .pointer (some ⟨b, o, none⟩)), (7, pB b7), (16, .slice ad16 (i + 1) c16), (17, nI (i + 1)), (18, nI p)] [(b7, bV (Zv (w1 (Zu n i) (Zu n j) (Zu n k) (j + 1) (k + 1) p)) 64)] [Row ad16 (cellsOf Zv (Zu n i)), Row (some ⟨b, o, none⟩) [.int .i64 ((n : Nat) : Int)]] a w) (fun p => (i + 1) - p) 0 (⟨Nat.zero_le _, by exact (h).sub sA⟩) ?_; clear h
 rintro p a w ⟨hi_p, h⟩
 refine gC h (zS (zp (.lss rfl rfl) (zn (zs ?_)))); clear h; intro a w h
 refine Zb h rfl (fun hc19 => ?_) (fun hc19 => ?_)
 ·
  skip
  have hlt_p : p < (i + 1) := dT hc19
  have hli := Zbt n i
  obtain ⟨B_ad16, O_ad16, rfl⟩ := h.row_addr (ad := ad16) (M := cellsOf Zv (Zu n i)) mm (nE 5)
  have hgp := Ye (k := 1000) oo hsi p
  have hw1 := Zxb (Zu n i) (Zu n j) (Zu n k) (j + 1) (k + 1) hsi hsj hsk oo oo p oo
  refine gC h (zk (zs (zb (zS (zm rfl (zp (.indexAddr rfl rfl (Km _ _ _ _ _ oo)) (zD rfl mm (cells_lt (k := 5) dd (fun _ => rfl) (Zu n i) p oo) isAgg64 sizeOf64 (Zm (k := 5) (fun _ => rfl) ((fun _ => rfl)) (Zu n i) 0 p oo) (.inl rfl) ?_)))))))
  refine zz Ja fun b9 => za rfl (zt' rfl rfl Zp uu sizeOf64 rfl nb rfl ?_)
  refine zn (zS (zD (b := b) (off := o) (j := 0) (M := [.int .i64 ((n : Nat) : Int)]) (v := .int .i64 ((n : Nat) : Int)) rfl mm (Nat.succ_pos _) isAgg3 sizeOf3 rfl (.inr rfl) ?_))
  refine zm rfl (zf [_, _] rfl call49 (Zmw n j oo oo (fun m hm => hs m oo)) ?_); rintro v25 Ψ25 ⟨ad25, c25, rfl, rfl⟩
  refine zp (.builtin [_] rfl (Zw _ _ _)) (zm rfl (zn (zb ?_))); intro a w h
  refine Zd (fun (q : Nat) a w => q ≤ (j + 1) ∧ St 57 S w0 [(1, nI j), (2, nI k), (3, .pointer (some ⟨b, o, none⟩)), (7, pB b7), (8, nI p), (9, pB b9), (16, .slice (some ⟨B_ad16, O_ad16, none⟩) (i + 1) c16), (17, nI (i + 1)), (18, nI p), (25, .slice ad25 (j + 1) c25), (26, nI (j + 1)), (27, nI q)] [(b9, bV (Zv ((Zu n i).getD p 0)) 64), (b7, bV (Zv (w2 (w1 (Zu n i) (Zu n j) (Zu n k) (j + 1) (k + 1) p) ((Zu n i).getD p 0) (Zu n j) (Zu n k) p (k + 1) q)) 64)] [Row ad25 (cellsOf Zv (Zu n j)), Row (some ⟨B_ad16, O_ad16, none⟩) (cellsOf Zv (Zu n i)), Row (some ⟨b, o, none⟩) [.int .i64 ((n : Nat) : Int)]] a w) (fun q => (j + 1) - q) 0 (⟨Nat.zero_le _, by exact (h).sub sA⟩) ?_; clear h
  rintro q a w ⟨hi_q, h⟩
  refine gC h (zS (zp (.lss rfl rfl) (zn (zs ?_)))); clear h; intro a w h
  refine Zb h rfl (fun hc28 => ?_) (fun hc28 => ?_)
  ·
   skip
   have hlt_q : q < (j + 1) := dT hc28
   have hlj := Zbt n j
   obtain ⟨B_ad25, O_ad25, rfl⟩ := h.row_addr (ad := ad25) (M := cellsOf Zv (Zu n j)) mm (nE 5)
   have hgq := Ye (k := 1000) oo hsj q
   have hw2 := Zqu (w1 (Zu n i) (Zu n j) (Zu n k) (j + 1) (k + 1) p) ((Zu n i).getD p 0) (Zu n j) (Zu n k) p (k + 1) oo hsj hsk oo oo q oo
   have hmab := Zx ((Zu n i).getD p 0) ((Zu n j).getD q 0)
   refine gC h (zk (zs (zb (zS (zm rfl (zp (.indexAddr rfl rfl (Km _ _ _ _ _ oo)) (zD rfl mm (cells_lt (k := 5) dd (fun _ => rfl) (Zu n j) q oo) isAgg64 sizeOf64 (Zm (k := 5) (fun _ => rfl) ((fun _ => rfl)) (Zu n j) 0 q oo) (.inl rfl) ?_)))))))
   refine zz Ja fun b11 => za rfl (zt' rfl rfl Zp uu sizeOf64 rfl nb rfl ?_)
   refine zn (zS (zD (b := b) (off := o) (j := 0) (M := [.int .i64 ((n : Nat) : Int)]) (v := .int .i64 ((n : Nat) : Int)) rfl mm (Nat.succ_pos _) isAgg3 sizeOf3 rfl (.inr rfl) ?_))
   refine zm rfl (zf [_, _] rfl call49 (Zmw n k oo oo (fun m hm => hs m oo)) ?_); rintro v34 Ψ34 ⟨ad34, c34, rfl, rfl⟩
   refine zp (.builtin [_] rfl (Zw _ _ _)) (zm rfl (zn (zb ?_))); intro a w h
   refine Zd (fun (s : Nat) a w => s ≤ (k + 1) ∧ St 57 S w0 [(1, nI j), (2, nI k), (3, .pointer (some ⟨b, o, none⟩)), (7, pB b7), (8, nI p), (9, pB b9), (10, nI q), (11, pB b11), (16, .slice (some ⟨B_ad16, O_ad16, none⟩) (i + 1) c16), (17, nI (i + 1)), (18, nI p), (25, .slice (some ⟨B_ad25, O_ad25, none⟩) (j + 1) c25), (26, nI (j + 1)), (27, nI q), (34, .slice ad34 (k + 1) c34), (35, nI (k + 1)), (36, nI s)] [(b11, bV (Zv ((Zu n j).getD q 0)) 64), (b9, bV (Zv ((Zu n i).getD p 0)) 64), (b7, bV (Zv (w3 (w2 (w1 (Zu n i) (Zu n j) (Zu n k) (j + 1) (k + 1) p) ((Zu n i).getD p 0) (Zu n j) (Zu n k) p (k + 1) q) (((Zu n i).getD p 0) * ((Zu n j).getD q 0)) (Zu n k) p q s)) 64)] [Row ad34 (cellsOf Zv (Zu n k)), Row (some ⟨B_ad25, O_ad25, none⟩) (cellsOf Zv (Zu n j)), Row (some ⟨B_ad16, O_ad16, none⟩) (cellsOf Zv (Zu n i)), Row (some ⟨b, o, none⟩) [.int .i64 ((n : Nat) : Int)]] a w) (fun s => (k + 1) - s) 0 (⟨Nat.zero_le _, by exact (h).sub sA⟩) ?_; clear h
   rintro s a w ⟨hi_s, h⟩
   refine gC h (zS (zp (.lss rfl rfl) (zn (zs ?_)))); clear h; intro a w h
   refine Zb h rfl (fun hc37 => ?_) (fun hc37 => ?_)
   ·
    skip
    have hlt_s : s < (k + 1) := dT hc37
    have hlk := Zbt n k
    obtain ⟨B_ad34, O_ad34, rfl⟩ := h.row_addr (ad := ad34) (M := cellsOf Zv (Zu n k)) mm (nE 5)
    have hgs := Ye (k := 1000) oo hsk s
    have hw3 := Zqt (w2 (w1 (Zu n i) (Zu n j) (Zu n k) (j + 1) (k + 1) p) ((Zu n i).getD p 0) (Zu n j) (Zu n k) p (k + 1) q) (((Zu n i).getD p 0) * ((Zu n j).getD q 0)) (Zu n k) p q oo hsk oo oo s oo
    refine gC h (zk (zs (zb (zS (zm rfl (zp (.indexAddr rfl rfl (Km _ _ _ _ _ oo)) (zD rfl mm (cells_lt (k := 5) dd (fun _ => rfl) (Zu n k) s oo) isAgg64 sizeOf64 (Zm (k := 5) (fun _ => rfl) ((fun _ => rfl)) (Zu n k) 0 s oo) (.inl rfl) ?_)))))))
    refine zz Ja fun b13 => za rfl (zt' rfl rfl Zp uu sizeOf64 rfl nb rfl ?_)
    refine zn (yD Za [0, 1, 2, 4, 5, 6, 7, 3, 8, 9, 10, 11, 12] (Zc kk) (yd rfl rfl mr isAgg64 sizeOf64 Zh ?_))
    refine yd rfl rfl mr isAgg64 sizeOf64 Zh ?_
    refine yd rfl rfl mr isAgg64 sizeOf64 Zh ?_
    refine yd rfl rfl mr isAgg64 sizeOf64 Zh ?_
    refine ym rfl rfl (ym rfl rfl (ym rfl rfl (yv [_, _] rfl rfl call42 (Yh _ _ oo oo) ?_)))
    have hl44 := Zx ((Zu n i).getD p 0) ((Zu n j).getD q 0)
    refine yv [_, _, _] rfl rfl call44 (Ztr _ _ _ oo oo oo) ?_
    have hl49 := Zbw (p) (q) (s) oo oo oo
    refine yv [_, _] rfl rfl call42 (Yh _ _ oo oo) ?_
    have hl50 := Zx ((Zu n k).getD s 0) (Jd p q s)
    refine yv [_, _] rfl rfl call42 (Yh _ _ oo oo) ?_
    have hl51 := Zx (((Zu n i).getD p 0) * ((Zu n j).getD q 0)) (((Zu n k).getD s 0) * (Jd p q s))
    refine yv [_, _] rfl rfl call37 (Gc _ _ oo oo) ?_
    have hl52 := Qt (w3 (w2 (w1 (Zu n i) (Zu n j) (Zu n k) (j + 1) (k + 1) p) ((Zu n i).getD p 0) (Zu n j) (Zu n k) p (k + 1) q) (((Zu n i).getD p 0) * ((Zu n j).getD q 0)) (Zu n k) p q s) ((((Zu n i).getD p 0) * ((Zu n j).getD q 0)) * (((Zu n k).getD s 0) * (Jd p q s)))
    refine yt rfl rfl rfl Zp uu sizeOf64 rfl nb rfl ?_
    refine yn (zr (zp (.pN (s + 1) (.add rfl rfl)) (zm rfl (zn ?_)))); intro a w h
    exact ⟨s + 1, ⟨oo, ((h.drop sl).factsSub (by simp)).sub sA⟩, oo⟩
   ·
    skip
    have heq_s : (k + 1) = s := dF hc37
    subst heq_s
    refine gC h (ze (zr (zp (.pN (q + 1) (.add rfl rfl)) (zm rfl (zn ?_))))); clear h; intro a w h
    exact ⟨q + 1, ⟨oo, ((h.drop sl).factsSub (by simp)).sub sA⟩, oo⟩
  ·
   skip
   have heq_q : (j + 1) = q := dF hc28
   subst heq_q
   refine gC h (ze (zr (zp (.pN (p + 1) (.add rfl rfl)) (zm rfl (zn ?_))))); clear h; intro a w h
   exact ⟨p + 1, ⟨oo, ((h.drop sl).factsSub (by simp)).sub sA⟩, oo⟩
 ·
  skip
  have heq_p : (i + 1) = p := dF hc19
  subst heq_p
  refine gC h (ze (zS (zd rfl mr isAgg64 sizeOf64 Zh ?_)))
  refine zt' rfl rfl Zp uu sizeOf64 rfl nb rfl ?_; intro a w h
  refine wpList_nil (wp_ret ?_)
  refine Jr h (Ze h rfl (.cell rfl mr isAgg64 sizeOf64 Zh)) ?_
  rfl
def rowT {α : Type} (f : Nat → Nat → Nat → α) (n r : Nat) : Nat → List α
 | 0 => []
 | q + 1 => rowT f n r q ++ [f (n - r) (r - q) q]
def Zb7 {α : Type} (f : Nat → Nat → Nat → α) (n : Nat) : Nat → List α
 | 0 => []
 | r + 1 => Zb7 f n r ++ rowT f n r (r + 1)
theorem Zlb {α : Type} (f : Nat → Nat → Nat → α) (n r q : Nat) : Zb7 f n r ++ rowT f n r (q + 1) = (Zb7 f n r ++ rowT f n r q) ++ [f (n - r) (r - q) q] := (List.append_assoc _ _ _).symm
theorem Ze0 {α : Type} (f : Nat → Nat → Nat → α) (n r : Nat) : ∀ q, (rowT f n r q).length = q
 | 0 => rfl
 | q + 1 => by rw [rowT, List.length_append, Ze0 f n r q]; rfl
theorem Zf4 {α : Type} (f : Nat → Nat → Nat → α) (n : Nat) : ∀ r, r ≤ 10 → (Zb7 f n r).length ≤ 10 * r
 | 0, _ => by simp [Zb7]
 | r + 1, h => by have := Zf4 f n r oo; rw [Zb7, List.length_append, Ze0]; omega
def ptQ (n i j k : Nat) : Rat × Rat × Rat := ((((i : Nat) : Int) : Rat) / (((n : Nat) : Int) : Rat), (((j : Nat) : Int) : Rat) / (((n : Nat) : Int) : Rat), (((k : Nat) : Int) : Rat) / (((n : Nat) : Int) : Rat))
def Jq (n : Nat) : List (Rat × Rat × Rat) := Zb7 (ptQ n) n (n + 1)
def Vs (n : Nat) : List Rat := Zb7 (Jc n) n (n + 1)
theorem Zc0 (n : Nat) (h1 : 1 ≤ n) (h6 : n ≤ 6) (hs : ∀ m, m ≤ 9 → ∀ x ∈ Zu n m, Qa x ≤ 1000) :
  Ctr Tryz.prog 15 [.int .i64 ((n : Nat) : Int)] [] (fun v Ψ => ∃ ad1 c1 ad2 c2, v = .tuple #[.agg #[.slice ad1 (Jq n).length c1, .slice ad2 (Vs n).length c2], .int .i64 0] ∧ Ψ = [Row ad2 (cellsOf Zv (Vs n)), Row ad1 (cellsOf Gb (Jq n))]) := by
 refine fn_intro func15 rfl ntmps15 nb ?_
 intro S w0 a hS h
 refine gC h (zS (zx rfl fun b1 => ?_)); clear h; intro a w h
 replace h := h.shareAll hS ([.int .i64 ((n : Nat) : Int)]) rfl
 refine gL h (zz zeroValue46 fun b2 => za rfl (zn (zs (zb (zS (zD (b := b1) (off := 0) (j := 0) (M := [.int .i64 ((n : Nat) : Int)]) (v := .int .i64 ((n : Nat) : Int)) rfl mm (Nat.succ_pos _) isAgg3 sizeOf3 rfl (.inr rfl) ?_))))))
 refine zp (.lss rfl rfl) (za rfl (zn ?_)); intro a w h
 refine cW ?_
 refine Zb h rfl (fun hc9 => (by exfalso; have := of_decide_eq_true hc9; omega)) (fun hc9 => ?_)
 refine gC h (zS (zD (b := b1) (off := 0) (j := 0) (M := [.int .i64 ((n : Nat) : Int)]) (v := .int .i64 ((n : Nat) : Int)) rfl mm (Nat.succ_pos _) isAgg3 sizeOf3 rfl (.inr rfl) ?_))
 refine zp (.gtr rfl rfl) (za rfl (zn ?_)); intro a w h
 refine cW ?_
 refine Zb h rfl (fun hc13 => (by exfalso; have := of_decide_eq_true hc13; omega)) (fun hc13 => ?_)
 refine gC h (zk (zS (zz zeroValue46 fun b4 => zn (zS (zp (.makeFunc [] [_] rfl rfl) (za rfl (zn (zs (zS (zD (b := b1) (off := 0) (j := 0) (M := [.int .i64 ((n : Nat) : Int)]) (v := .int .i64 ((n : Nat) : Int)) rfl mm (Nat.succ_pos _) isAgg3 sizeOf3 rfl (.inr rfl) ?_))))))))))
 refine za rfl (zn (zb ?_)); intro a w h
 refine Zd (fun (r : Nat) a w => r ≤ (n + 1) ∧ ∃ (ad1 : Option Addr) (c1 : Nat) (o1 : List (Nat × Obj)) (ad2 : Option Addr) (c2 : Nat) (o2 : List (Nat × Obj)), (GrowO 15 77 (.slice ad1 (Zb7 (ptQ n) n r).length c1) (Zb7 (ptQ n) n r).length (cellsOf Gb (Zb7 (ptQ n) n r)) o1 ∧ GrowO 5 64 (.slice ad2 (Zb7 (Jc n) n r).length c2) (Zb7 (Jc n) n r).length (cellsOf Zv (Zb7 (Jc n) n r)) o2) ∧ St 61 S w0 [(1, pB b1), (2, pB b2), (3, .int .i64 0), (4, pB b4), (5, .func (.func 48) #[] #[.pointer (some ⟨b1, 0, none⟩)]), (6, .int .i64 (((n : Nat) : Int) - ((r : Nat) : Int))), (18, nI n)] (o2 ++ (o1 ++ ((b4, bV (.agg #[(.slice ad1 (Zb7 (ptQ n) n r).length c1), (.slice ad2 (Zb7 (Jc n) n r).length c2)]) 46) :: ((b2, bV (.agg #[.slice none 0 0, .slice none 0 0]) 46) :: [])))) [Row (some ⟨b1, 0, none⟩) ([.int .i64 ((n : Nat) : Int)])] a w) (fun r => (n + 1) - r) 0 (⟨Nat.zero_le _, none, 0, [], none, 0, [], ⟨GrowO.nil _ _, GrowO.nil _ _⟩, by exact (h).sub sA⟩) ?_; clear h
 rintro r a w ⟨hi_r, ad1, c1, o1, ad2, c2, o2, ⟨hG1, hG2⟩, h⟩
 refine gC h (zs (zS (zm rfl (zp (.geq rfl rfl) (zn ?_))))); clear h; intro a w h
 refine cW ?_
 refine Zb h rfl (fun hc20 => ?_) (fun hc20 => ?_)
 ·
  skip
  have hlt_r : r < (n + 1) := dT hc20
  rw [show ((n : Nat) : Int) - ((r : Nat) : Int) = ((n - r : Nat) : Int) from by omega] at h
  refine gC h (zk (zs (zb (zS (zD (b := b1) (off := 0) (j := 0) (M := [.int .i64 ((n : Nat) : Int)]) (v := .int .i64 ((n : Nat) : Int)) rfl mm (Nat.succ_pos _) isAgg3 sizeOf3 rfl (.inr rfl) ?_)))))
  refine zm rfl (zp (.pO r (.sub rfl rfl)) (za rfl (zn (zb ?_)))); intro a w h
  refine Zd (fun (q : Nat) a w => q ≤ (r + 1) ∧ ∃ (ad3 : Option Addr) (c3 : Nat) (o3 : List (Nat × Obj)) (ad4 : Option Addr) (c4 : Nat) (o4 : List (Nat × Obj)), (GrowO 15 77 (.slice ad3 (Zb7 (ptQ n) n r ++ rowT (ptQ n) n r q).length c3) (Zb7 (ptQ n) n r ++ rowT (ptQ n) n r q).length (cellsOf Gb (Zb7 (ptQ n) n r ++ rowT (ptQ n) n r q)) o3 ∧ GrowO 5 64 (.slice ad4 (Zb7 (Jc n) n r ++ rowT (Jc n) n r q).length c4) (Zb7 (Jc n) n r ++ rowT (Jc n) n r q).length (cellsOf Zv (Zb7 (Jc n) n r ++ rowT (Jc n) n r q)) o4) ∧ St 61 S w0 [(1, pB b1), (2, pB b2), (3, .int .i64 0), (4, pB b4), (5, .func (.func 48) #[] #[.pointer (some ⟨b1, 0, none⟩)]), (6, nI (n - r)), (7, .int .i64 (((r : Nat) : Int) - ((q : Nat) : Int))), (18, nI n), (25, nI r)] (o4 ++ (o3 ++ ((b4, bV (.agg #[(.slice ad3 (Zb7 (ptQ n) n r ++ rowT (ptQ n) n r q).length c3), (.slice ad4 (Zb7 (Jc n) n r ++ rowT (Jc n) n r q).length c4)]) 46) :: ((b2, bV (.agg #[.slice none 0 0, .slice none 0 0]) 46) :: [])))) [Row (some ⟨b1, 0, none⟩) ([.int .i64 ((n : Nat) : Int)])] a w) (fun q => (r + 1) - q) 0 (⟨Nat.zero_le _, ad1, c1, o1, ad2, c2, o2, ⟨by simp only [rowT, List.append_nil]; exact hG1, by simp only [rowT, List.append_nil]; exact hG2⟩, by simp only [rowT, List.append_nil]; exact (h).sub sA⟩) ?_; clear h
  rintro q a w ⟨hi_q, ad3, c3, o3, ad4, c4, o4, ⟨hG3, hG4⟩, h⟩
  refine gC h (zs (zS (zm rfl (zp (.geq rfl rfl) (zn ?_))))); clear h; intro a w h
  refine cW ?_
  refine Zb h rfl (fun hc27 => ?_) (fun hc27 => ?_)
  ·
   skip
   have hlt_q : q < (r + 1) := dT hc27
   rw [show ((r : Nat) : Int) - ((q : Nat) : Int) = ((r - q : Nat) : Int) from by omega] at h
   refine gC h (zk (zs (zb (zS (zD (b := b1) (off := 0) (j := 0) (M := [.int .i64 ((n : Nat) : Int)]) (v := .int .i64 ((n : Nat) : Int)) rfl mm (Nat.succ_pos _) isAgg3 sizeOf3 rfl (.inr rfl) ?_)))))
   refine zm rfl (zp (.pO (n - (n - r)) (.sub rfl rfl)) (zm rfl (zp (.pO q (Pure1.cast (v' := (.int .i64 (((n - (n - r)) - (r - q) : Nat) : Int))) (.sub rfl rfl) (by show Value.int _ _ = Value.int _ _; congr 1; omega))) (za rfl (zn (zs (yD Za [0, 1, 2, 3, 5, 6, 8, 9, 4, 7, 10, 11, 12, 13, 14, 15] (Zc kk) (yp rfl (.fA rfl Xc) (yd rfl rfl mr isAgg43 sizeOf43 Ql ?_)))))))))
   refine ym rfl rfl ?_
   refine Zj (b := b1) (off := 0) (j := 0) (M := [.int .i64 ((n : Nat) : Int)]) (v := .int .i64 ((n : Nat) : Int)) rfl kk rfl mm (Nat.succ_pos _) isAgg3 sizeOf3 rfl (.inr rfl) dd ?_
   refine ym rfl rfl ?_
   refine Zj (b := b1) (off := 0) (j := 0) (M := [.int .i64 ((n : Nat) : Int)]) (v := .int .i64 ((n : Nat) : Int)) rfl kk rfl mm (Nat.succ_pos _) isAgg3 sizeOf3 rfl (.inr rfl) dd ?_
   refine ym rfl rfl ?_
   refine Zj (b := b1) (off := 0) (j := 0) (M := [.int .i64 ((n : Nat) : Int)]) (v := .int .i64 ((n : Nat) : Int)) rfl kk rfl mm (Nat.succ_pos _) isAgg3 sizeOf3 rfl (.inr rfl) dd ?_
   refine yv [_, _] rfl rfl call50 (Zaw _ _ oo oo oo oo oo) ?_
   have hl39 := Xy (((n - r : Nat) : Int)) (((n : Nat) : Int)) oo oo oo oo
   refine yv [_, _] rfl rfl call50 (Zaw _ _ oo oo oo oo oo) ?_
   have hl42 := Xy (((r - q : Nat) : Int)) (((n : Nat) : Int)) oo oo oo oo
   refine yv [_, _] rfl rfl call50 (Zaw _ _ oo oo oo oo oo) ?_
   have hl45 := Xy (((q : Nat) : Int)) (((n : Nat) : Int)) oo oo oo oo
   refine yp rfl (.build [(_, _), (_, _), (_, _)] rfl (Kg _ _ _ _ _ _ _ _ _ _ _ _ _ _ _)) (yB rfl [(_, _)] rfl (Zcy _ _ _ _ _ _ _ _ _ _ _ _ _ _ _) fun b47 => ?_)
   refine Qm (σr := (o4 ++ ((b4, bV (.agg #[(.slice ad3 (Zb7 (ptQ n) n r ++ rowT (ptQ n) n r q).length c3), (.slice ad4 (Zb7 (Jc n) n r ++ rowT (Jc n) n r q).length c4)]) 46) :: ((b2, bV (.agg #[.slice none 0 0, .slice none 0 0]) 46) :: [])))) rfl kk rfl rfl (List.Perm.trans (List.Perm.refl _) (List.Perm.cons _ (Zd9 (List.Perm.refl _)))) hG3 runUnderlying43 runUnderlying43 typeInfo77 sizeOf77 Zpp rfl dd dd rfl rfl dd (by show 168 * (2 * ((Zb7 (ptQ n) n r ++ rowT (ptQ n) n r q).length + 1) + 192) ≤ 281474976710656; have h1 := Zf4 (ptQ n) n r oo; have h2 := Zf4 (Jc n) n r oo; have h3 := Ze0 (ptQ n) n r q; have h4 := Ze0 (Jc n) n r q; simp only [List.length_append]; omega) dd ?_
   intro v48 o48 hG48
   obtain ⟨ad48, c48, rfl⟩ := hG48.is
   have hLn48 : (Zb7 (ptQ n) n r ++ rowT (ptQ n) n r q).length + 1 = ((Zb7 (ptQ n) n r ++ rowT (ptQ n) n r q) ++ [(((((n - r : Nat) : Int) : Int) : Rat) / ((((n : Nat) : Int) : Int) : Rat), ((((r - q : Nat) : Int) : Int) : Rat) / ((((n : Nat) : Int) : Int) : Rat), ((((q : Nat) : Int) : Int) : Rat) / ((((n : Nat) : Int) : Int) : Rat))]).length := lA
   rw [hLn48]; rw [hLn48] at hG48
   replace hG48 : GrowO 15 77 (.slice ad48 ((Zb7 (ptQ n) n r ++ rowT (ptQ n) n r q) ++ [(((((n - r : Nat) : Int) : Int) : Rat) / ((((n : Nat) : Int) : Int) : Rat), ((((r - q : Nat) : Int) : Int) : Rat) / ((((n : Nat) : Int) : Int) : Rat), ((((q : Nat) : Int) : Int) : Rat) / ((((n : Nat) : Int) : Int) : Rat))]).length c48) ((Zb7 (ptQ n) n r ++ rowT (ptQ n) n r q) ++ [(((((n - r : Nat) : Int) : Int) : Rat) / ((((n : Nat) : Int) : Int) : Rat), ((((r - q : Nat) : Int) : Int) : Rat) / ((((n : Nat) : Int) : Int) : Rat), ((((q : Nat) : Int) : Int) : Rat) / ((((n : Nat) : Int) : Int) : Rat))]).length (cellsOf Gb ((Zb7 (ptQ n) n r ++ rowT (ptQ n) n r q) ++ [(((((n - r : Nat) : Int) : Int) : Rat) / ((((n : Nat) : Int) : Int) : Rat), ((((r - q : Nat) : Int) : Int) : Rat) / ((((n : Nat) : Int) : Int) : Rat), ((((q : Nat) : Int) : Int) : Rat) / ((((n : Nat) : Int) : Int) : Rat))])) o48 := by rw [Zo, Qb]; exact hG48
   refine yp rfl (.fA rfl Xc) (yt rfl rfl rfl Zao uu sizeOf43 rfl nb (by show ((flat ((.slice ad48 ((Zb7 (ptQ n) n r ++ rowT (ptQ n) n r q) ++ [(((((n - r : Nat) : Int) : Int) : Rat) / ((((n : Nat) : Int) : Int) : Rat), ((((r - q : Nat) : Int) : Int) : Rat) / ((((n : Nat) : Int) : Int) : Rat), ((((q : Nat) : Int) : Int) : Rat) / ((((n : Nat) : Int) : Int) : Rat))]).length c48)) && true)) = true; simp only [GrowO.flat (hG48)]; rfl) ?_)
   refine yn (yD Za [0, 1, 2, 3, 4, 5, 6, 7, 8, 9, 10] (Zc kk) (yp rfl (.fA rfl Qx) (yd rfl rfl mr isAgg44 sizeOf44 Qi ?_)))
   refine ym rfl rfl (ym rfl rfl (ym rfl rfl (ym rfl rfl ?_)))
   refine Xh rfl kk (fs := []) (cs := [.pointer (some ⟨b1, 0, none⟩)]) rfl (vs := [_, _, _]) rfl call48 (Qb1 n (n - r) (r - q) q b1 0 oo oo oo oo hs) ss dd ?_
   refine yB rfl [(_, _)] rfl (Xb _ _ _ _ _) fun b57 => ?_
   refine Qm (σr := (o48 ++ ((b4, bV (.agg #[(.slice ad48 ((Zb7 (ptQ n) n r ++ rowT (ptQ n) n r q) ++ [(((((n - r : Nat) : Int) : Int) : Rat) / ((((n : Nat) : Int) : Int) : Rat), ((((r - q : Nat) : Int) : Int) : Rat) / ((((n : Nat) : Int) : Int) : Rat), ((((q : Nat) : Int) : Int) : Rat) / ((((n : Nat) : Int) : Int) : Rat))]).length c48), (.slice ad4 (Zb7 (Jc n) n r ++ rowT (Jc n) n r q).length c4)]) 46) :: ((b2, bV (.agg #[.slice none 0 0, .slice none 0 0]) 46) :: [])))) rfl kk rfl rfl (List.Perm.trans (List.Perm.refl _) (List.Perm.cons _ (Zd9 (List.Perm.refl _)))) hG4 runUnderlying44 runUnderlying44 typeInfo64 sizeOf64 Ja rfl dd dd rfl rfl dd (by show 56 * (2 * ((Zb7 (Jc n) n r ++ rowT (Jc n) n r q).length + 1) + 192) ≤ 281474976710656; have h1 := Zf4 (ptQ n) n r oo; have h2 := Zf4 (Jc n) n r oo; have h3 := Ze0 (ptQ n) n r q; have h4 := Ze0 (Jc n) n r q; simp only [List.length_append]; omega) dd ?_
   intro v58 o58 hG58
   obtain ⟨ad58, c58, rfl⟩ := hG58.is
   have hLn58 : (Zb7 (Jc n) n r ++ rowT (Jc n) n r q).length + 1 = ((Zb7 (Jc n) n r ++ rowT (Jc n) n r q) ++ [Jc n (n - r) (r - q) q]).length := lA
   rw [hLn58]; rw [hLn58] at hG58
   replace hG58 : GrowO 5 64 (.slice ad58 ((Zb7 (Jc n) n r ++ rowT (Jc n) n r q) ++ [Jc n (n - r) (r - q) q]).length c58) ((Zb7 (Jc n) n r ++ rowT (Jc n) n r q) ++ [Jc n (n - r) (r - q) q]).length (cellsOf Zv ((Zb7 (Jc n) n r ++ rowT (Jc n) n r q) ++ [Jc n (n - r) (r - q) q])) o58 := by rw [Zo, Qb]; exact hG58
   refine yp rfl (.fA rfl Qx) (yt rfl rfl rfl Zan uu sizeOf44 rfl nb (by show ((flat ((.slice ad58 ((Zb7 (Jc n) n r ++ rowT (Jc n) n r q) ++ [Jc n (n - r) (r - q) q]).length c58)) && true)) = true; simp only [GrowO.flat (hG58)]; rfl) ?_)
   refine yn (zr (zm rfl (zp (Pure1.cast (v' := .int .i64 (((r : Nat) : Int) - ((q + 1 : Nat) : Int))) (.sub rfl rfl) (by show Value.int _ _ = Value.int _ _; congr 1; omega)) (za rfl (zn ?_))))); intro a w h
   exact ⟨q + 1, ⟨oo, ad48, c48, o48, ad58, c58, o58, ⟨by rw [Zlb]; exact hG48, by rw [Zlb]; exact hG58⟩, by rw [Zlb, Zlb]; exact by exact h.sub sA⟩, oo⟩
  ·
   skip
   have heq_q : (r + 1) = q := dF hc27
   subst heq_q
   refine gC h (ze (zr (zm rfl (zp (Pure1.cast (v' := .int .i64 (((n : Nat) : Int) - ((r + 1 : Nat) : Int))) (.sub rfl rfl) (by show Value.int _ _ = Value.int _ _; congr 1; omega)) (za rfl (zn ?_)))))); clear h; intro a w h
   exact ⟨r + 1, ⟨oo, ad3, c3, o3, ad4, c4, o4, ⟨hG3, hG4⟩, by exact h.sub sA⟩, oo⟩
 ·
  skip
  have heq_r : (n + 1) = r := dF hc20
  subst heq_r
  refine gC h (ze (zS (zd rfl mr isAgg46 sizeOf46 Zg ?_)))
  refine zt' rfl rfl Zq uu sizeOf46 rfl nb (by show ((flat ((.slice ad1 (Zb7 (ptQ n) n (n + 1)).length c1)) && (flat ((.slice ad2 (Zb7 (Jc n) n (n + 1)).length c2)) && true))) = true; simp only [GrowO.flat (hG1), GrowO.flat (hG2)]; rfl) ?_; intro a w h
  refine gL h (za rfl (zn (zt ?_))); clear h; intro a w h
  replace h := (St.shareO' (St.shareO' (h.perm (Zd9 (List.Perm.refl _)).symm) hS hG1) hS hG2)
  refine Jm (Ψ := [Row ad2 (cellsOf Zv (Vs n)), Row ad1 (cellsOf Gb (Jq n))]) h (Xe h rfl (.cell rfl mr isAgg46 sizeOf46 Zg) (.tmp rfl)) ⟨ad1, c1, ad2, c2, rfl, rfl⟩ (by simp [Jq, Vs])
end
section
theorem Xi {b off : Nat} (w : World) : (Instr.fieldAt 53 (.pointer (some ⟨b, off, none⟩)) 0).run Tryz.prog w = .ok (.pointer (some ⟨b, off + 0, none⟩)) w := by
 simp [go_sem]
theorem Kv {b off : Nat} (w : World) : (Instr.fieldAt 53 (.pointer (some ⟨b, off, none⟩)) 1).run Tryz.prog w = .ok (.pointer (some ⟨b, off + 1, none⟩)) w := by
 simp [go_sem]
def Zu3 (ats ws : List Rat) (d : Nat) : Nat → Rat
 | 0 => 0
 | n + 1 => Zu3 ats ws d n + ws.getD n 0 * ats.getD n 0 ^ d
theorem Zi4 (ats ws : List Rat) (d : Nat) (ha : ∀ p ∈ ats, Qa p ≤ 1000) (hw : ∀ x ∈ ws, Qa x ≤ 1000) (hd : d ≤ 100) : ∀ n, Qa (Zu3 ats ws d n) ≤ 2 + 101003 * n
 | 0 => by rw [Zu3]; have := Xs; omega
 | n + 1 => by
  have h0 := Zi4 ats ws d ha hw hd n
  have h1 := Ye (k := 1000) oo ha n
  have h2 := Ye (k := 1000) oo hw n
  have h3 := Xo (ats.getD n 0) d 1000 100 h1 hd
  have h4 := Zx (ws.getD n 0) (ats.getD n 0 ^ d)
  have h5 := Qt (Zu3 ats ws d n) (ws.getD n 0 * ats.getD n 0 ^ d)
  rw [Zu3]; omega
def okL (ats ws : List Rat) (d : Nat) : Prop := Zu3 ats ws d ws.length = ((1 : Int) : Rat) / (((d + 1 : Nat) : Int) : Rat)
instance (ats ws : List Rat) (d : Nat) : Decidable (okL ats ws d) := by unfold okL; infer_instance
def exL (ats ws : List Rat) : Nat → Nat → Nat
 | 0, d => d
 | f + 1, d => if okL ats ws d then exL ats ws f (d + 1) else d
def Zuc (ats ws : List Rat) : Int := (exL ats ws 13 0 : Int) - 1
theorem Zq5 (ats ws : List Rat) : ∀ (f d e : Nat), d ≤ e → e ≤ d + f → (∀ x, d ≤ x → x < e → okL ats ws x) → (e = d + f ∨ ¬ okL ats ws e) → exL ats ws f d = e
 | 0, d, e, h1, h2, _, _ => by rw [exL]; omega
 | f + 1, d, e, h1, h2, h3, h4 => by
  rw [exL]
  by_cases h : d = e
  ·
   subst h
   rcases h4 with h4 | h4
   · omega
   · rw [if_neg h4]
  ·
   rw [if_pos (h3 d (Nat.le_refl _) oo)]
   exact Zq5 ats ws f (d + 1) e oo oo (fun x hx hy => h3 x oo hy) (h4.imp (fun h => by omega) id)
theorem Zj7 (ad1 ad2 : Option Addr) (c1 c2 : Nat) (ats ws : List Rat) (hnw : ws.length ≤ 1000) (hats : ∀ x ∈ ats, Qa x ≤ 1000) (hws : ∀ x ∈ ws, Qa x ≤ 1000) (hle : ats.length = ws.length) :
  Ge Tryz.prog 27 [.agg #[.slice ad1 ats.length c1, .slice ad2 ws.length c2]] [Row ad1 (cellsOf Zv ats), Row ad2 (cellsOf Zv ws)] (.int .i64 (Zuc ats ws)) := by
 refine fn_intro func27 rfl ntmps27 nb ?_
 intro S w0 a hS h
 refine gC h (zS (zx rfl fun b1 => za rfl (zn (zs (zS (zp (.fA rfl Xi) (zd rfl mr isAgg44 sizeOf44 Ql ?_)))))))
 refine zp (.builtin [_] rfl (Zw _ _ _)) (zp (.fA rfl Kv) (zd rfl mr isAgg44 sizeOf44 Qi ?_))
 refine zp (.builtin [_] rfl (Zw _ _ _)) (zp (.neq rfl rfl) ?_); intro a w h
 refine Zi h (fun hc13 h => (by exfalso; exact Zdd hc13 hle)) (fun hc13 h => ?_)
 refine wpList_nil ?_
 refine cW ?_
 refine Zn h rfl ?_
 refine gC h (zk (zs (zS (zm rfl (zn (zb ?_)))))); clear h; intro a w h
 refine Zd (fun (d : Nat) a w => d ≤ 13 ∧ (∀ x, x < d → okL ats ws x) ∧ St 45 S w0 [(1, pB b1), (14, nI d)] [(b1, bV (.agg #[.slice ad1 ats.length c1, .slice ad2 ws.length c2]) 53)] [Row ad1 (cellsOf Zv ats), Row ad2 (cellsOf Zv ws)] a w) (fun d => 13 - d) 0 (⟨Nat.zero_le _, fun x hx => absurd hx (Nat.not_lt_zero _), by exact (h).sub sA⟩) ?_; clear h
 rintro d a w ⟨hi_d, hinv_d, h⟩
 refine gC h (zS (zp (.lss rfl rfl) (zn (zs ?_)))); clear h; intro a w h
 refine Zb h rfl (fun hc15 => ?_) (fun hc15 => ?_)
 ·
  skip
  have hlt_d : d < 13 := dT hc15
  refine gC h (zk (zs (zb (zS (zm rfl (za rfl (zn (zS (zz Ja fun b4 => zn (zs (zS (zp (.fA rfl Kv) (zd rfl mr isAgg44 sizeOf44 Qi ?_)))))))))))))
  refine zp (.builtin [_] rfl (Zw _ _ _)) (zm rfl (zn (zb ?_))); intro a w h
  refine Zd (fun (n : Nat) a w => n ≤ ws.length ∧ St 45 S w0 [(1, pB b1), (3, nI d), (4, pB b4), (14, nI d), (18, .slice ad2 ws.length c2), (19, nI ws.length), (20, nI n)] [(b4, bV (Zv (Zu3 ats ws d n)) 64), (b1, bV (.agg #[.slice ad1 ats.length c1, .slice ad2 ws.length c2]) 53)] [Row ad1 (cellsOf Zv ats), Row ad2 (cellsOf Zv ws)] a w) (fun n => ws.length - n) 0 (⟨Nat.zero_le _, by exact (h).sub sA⟩) ?_; clear h
  rintro n a w ⟨hi_n, h⟩
  refine gC h (zS (zp (.lss rfl rfl) (zn (zs ?_)))); clear h; intro a w h
  refine Zb h rfl (fun hc21 => ?_) (fun hc21 => ?_)
  ·
   skip
   have hlt_n : n < ws.length := dT hc21
   have hn1 : n < ats.length := oo
   obtain ⟨B_ad2, O_ad2, rfl⟩ := h.row_addr (ad := ad2) (M := cellsOf Zv ws) mm (nE 5)
   obtain ⟨B_ad1, O_ad1, rfl⟩ := h.row_addr (ad := ad1) (M := cellsOf Zv ats) mm (nE 5)
   have ha := Ye (k := 1000) oo hats n
   have hw := Ye (k := 1000) oo hws n
   have hm := Zi4 ats ws d hats hws oo n
   refine gC h (zk (zs (zb (zS (zm rfl (zp (.indexAddr rfl rfl (Km _ _ _ _ _ oo)) (zD rfl mm (cells_lt (k := 5) dd (fun _ => rfl) ws n oo) isAgg64 sizeOf64 (Zm (k := 5) (fun _ => rfl) ((fun _ => rfl)) ws 0 n oo) (.inl rfl) ?_)))))))
   refine zz Ja fun b6 => za rfl (zt' rfl rfl Zp uu sizeOf64 rfl nb rfl ?_)
   refine zn (yD Za [0, 1, 2, 3, 4, 5, 6, 7, 8, 9, 10, 11] (Zc kk) (yd rfl rfl mr isAgg64 sizeOf64 Zh ?_))
   refine yd rfl rfl mr isAgg64 sizeOf64 Zh ?_
   refine yp rfl (.fA rfl Xi) (yd rfl rfl mr isAgg44 sizeOf44 Ql ?_)
   refine ym rfl rfl (yp rfl (.indexAddr rfl rfl (Km _ _ _ _ _ oo)) ?_)
   refine Zj rfl kk rfl mm (cells_lt (k := 5) dd (fun _ => rfl) ats n oo) isAgg64 sizeOf64 (Zm (k := 5) (fun _ => rfl) ((fun _ => rfl)) ats 0 n oo) (.inl rfl) dd ?_
   refine ym rfl rfl (yv [_, _] rfl rfl call43 (Zmz _ _ oo oo) ?_)
   have hl33 := Xo (ats.getD n 0) (d) 1000 100 oo oo
   refine yv [_, _] rfl rfl call42 (Yh _ _ oo oo) ?_
   have hl34 := Zx (ws.getD n 0) ((ats.getD n 0) ^ d)
   refine yv [_, _] rfl rfl call37 (Gc _ _ oo oo) ?_
   have hl35 := Qt (Zu3 ats ws d n) ((ws.getD n 0) * ((ats.getD n 0) ^ d))
   refine yt rfl rfl rfl Zp uu sizeOf64 rfl nb rfl ?_
   refine yn (zr (zp (.pN (n + 1) (.add rfl rfl)) (zm rfl (zn ?_)))); intro a w h
   exact ⟨n + 1, ⟨oo, ((h.drop sl).factsSub (by simp)).sub sA⟩, oo⟩
  ·
   skip
   have heq_n : ws.length = n := dF hc21
   subst heq_n
   have hm := Zi4 ats ws d hats hws oo ws.length
   refine gC h (ze (zs (yD Za [0, 1, 2, 3, 4] (Zc kk) (yd rfl rfl mr isAgg64 sizeOf64 Zh ?_)))); clear h
   refine ym rfl rfl (yp rfl (.pN (d + 1) (.add rfl rfl)) (yv [_, _] rfl rfl call50 (Zaw _ _ oo oo oo oo oo) ?_))
   have hl40 := Xy (1) (((d + 1 : Nat) : Int)) oo oo oo oo
   refine yp rfl (.binOp rfl rfl (fun _ => Kr _ _ (Zu3 ats ws d ws.length) (((1 : Int) : Rat) / ((((d + 1 : Nat) : Int) : Int) : Rat)) _)) (yn ?_); intro a w h
   refine cW ?_
   refine Zb h rfl (fun hc41 => ?_) (fun hc41 => ?_)
   ·
    skip
    have hbad : ¬ okL ats ws d := by simpa [okL] using hc41
    refine gC h (zS (zm rfl (zp (.sub rfl rfl) (za rfl (zn (zt ?_)))))); clear h; intro a w h
    refine Jr h (Ze h rfl (.tmp rfl)) ?_
    unfold Zuc; rw [Zq5 ats ws 13 0 d (Nat.zero_le _) oo (fun x _ hx => hinv_d x hx) (.inr hbad)]
   ·
    skip
    have hgood : okL ats ws d := by simpa [okL] using hc41
    refine gC h (zk (zr (zp (.pN (d + 1) (.add rfl rfl)) (zm rfl (zn ?_))))); clear h; intro a w h
    exact ⟨d + 1, ⟨oo, fun x hx => by rcases Nat.lt_or_ge x d with h | h; exact hinv_d x h; rw [show x = d by omega]; exact hgood, (h.drop sl).sub sA⟩, oo⟩
 ·
  skip
  have heq_d : 13 = d := dF hc15
  subst heq_d
  refine gC h (ze (zS (za rfl (zn (zt ?_))))); clear h; intro a w h
  refine Jr h (Ze h rfl (.tmp rfl)) ?_
  unfold Zuc; rw [Zq5 ats ws 13 0 13 (Nat.zero_le _) oo (fun x _ hx => hinv_d x hx) (.inl rfl)]; rfl
def Za5 (n i : Nat) : Nat → List Rat
 | 0 => [((1 : Int) : Rat)]
 | m + 1 => if m ≠ i then Zdp (Za5 n i m) (((-((m : Nat) : Int) : Int) : Rat) / ((((i : Nat) : Int) - ((m : Nat) : Int) : Int) : Rat)) ((((n : Nat) : Int) : Rat) / ((((i : Nat) : Int) - ((m : Nat) : Int) : Int) : Rat)) else Za5 n i m
theorem Zmk (n i : Nat) : ∀ m, (Za5 n i m).length ≤ m + 1
 | 0 => Nat.le_refl _
 | m + 1 => by
  have := Zmk n i m
  rw [Za5]; split
  · rw [Zdp, Zcr]; omega
  · omega
def Zre (l : List Rat) : Nat → Rat
 | 0 => 0
 | p + 1 => Zre l p + l.getD p 0 * (((1 : Int) : Rat) / (((p + 1 : Nat) : Int) : Rat))
theorem Zn7 (l : List Rat) (hl : ∀ x ∈ l, Qa x ≤ 1000) : ∀ p, p ≤ 1000000 → Qa (Zre l p) ≤ 2 + 1005 * p
 | 0, _ => by rw [Zre]; have := Xs; omega
 | p + 1, hp => by
  have h0 := Zn7 l hl p oo
  have h1 := Ye (k := 1000) oo hl p
  have h2 := Xy 1 ((p + 1 : Nat) : Int) oo oo oo oo
  have h3 := Zx (l.getD p 0) (((1 : Int) : Rat) / (((p + 1 : Nat) : Int) : Rat))
  have h4 := Qt (Zre l p) (l.getD p 0 * (((1 : Int) : Rat) / (((p + 1 : Nat) : Int) : Rat)))
  rw [Zre]; omega
def Gq (n i : Nat) : Rat := Zre (Za5 n i (n + 1)) (Za5 n i (n + 1)).length
def Gm (n i : Nat) : Rat := (((i : Nat) : Int) : Rat) / (((n : Nat) : Int) : Rat)
def Zz {α : Type} (f : Nat → α) : Nat → List α
 | 0 => []
 | i + 1 => Zz f i ++ [f i]
theorem Zs {α : Type} (f : Nat → α) : ∀ i, (Zz f i).length = i
 | 0 => rfl
 | i + 1 => by rw [Zz, List.length_append, Zs f i]; rfl
theorem Zy8 (ad : Option Addr) (c : Nat) (l : List Rat) (x y : Rat) (hn : l.length ≤ 1000) (hl : ∀ x ∈ l, Qa x ≤ 1000) (hx : Qa x ≤ 1000) (hy : Qa y ≤ 1000) :
  Zk4 Tryz.prog 51 [.slice ad l.length c, Zv x, Zv y] [Row ad (cellsOf Zv l)] (fun v σ => ∃ b, v = .slice (some ⟨b, 0, none⟩) (Zdp l x y).length (Zdp l x y).length ∧ σ = [(b, .cells (cellsOf Zv (Zdp l x y)).toArray 64 (0, 0))]) := by
 have := Zti ad c l x y hn hl hx hy
 rw [show (Zdp l x y).length = l.length + 1 from Zcr l x y l.length]
 exact this
theorem Zj8 (n : Nat) (h1 : 1 ≤ n) (h8 : n ≤ 8) (hs : ∀ i, i ≤ n → ∀ m, m ≤ n + 1 → ∀ x ∈ Za5 n i m, Qa x ≤ 1000) :
  Ctr Tryz.prog 16 [.int .i64 ((n : Nat) : Int)] [] (fun v Ψ => ∃ ad1 c1 ad2 c2, v = .tuple #[.agg #[.slice ad1 (Zz (Gm n) (n + 1)).length c1, .slice ad2 (Zz (Gq n) (n + 1)).length c2], .int .i64 0] ∧ Ψ = [Row ad2 (cellsOf Zv (Zz (Gq n) (n + 1))), Row ad1 (cellsOf Zv (Zz (Gm n) (n + 1)))]) := by
 refine fn_intro func16 rfl ntmps16 nb ?_
 intro S w0 a hS h
 refine gC h (zS (zz zeroValue53 fun b2 => za rfl (zn (zs (zb (zS (zm rfl (zp (.lss rfl rfl) (za rfl (zn ?_)))))))))); clear h; intro a w h
 refine cW ?_
 refine Zb h rfl (fun hc11 => (by exfalso; have := of_decide_eq_true hc11; omega)) (fun hc11 => ?_)
 refine gC h (zS (zm rfl (zp (.gtr rfl rfl) (za rfl (zn ?_))))); clear h; intro a w h
 refine cW ?_
 refine Zb h rfl (fun hc15 => (by exfalso; have := of_decide_eq_true hc15; omega)) (fun hc15 => ?_)
 refine gC h (zk (zS (zz zeroValue53 fun b4 => zn (zs (zS (zm rfl (zp (.pN (n + 1) (.add rfl rfl)) (zm rfl (zn (zb ?_)))))))))); clear h; intro a w h
 refine Zd (fun (i : Nat) a w => i ≤ (n + 1) ∧ ∃ (ad1 : Option Addr) (c1 : Nat) (o1 : List (Nat × Obj)) (ad2 : Option Addr) (c2 : Nat) (o2 : List (Nat × Obj)), (GrowO 5 64 (.slice ad1 (Zz (Gm n) i).length c1) (Zz (Gm n) i).length (cellsOf Zv (Zz (Gm n) i)) o1 ∧ GrowO 5 64 (.slice ad2 (Zz (Gq n) i).length c2) (Zz (Gq n) i).length (cellsOf Zv (Zz (Gq n) i)) o2) ∧ St 79 S w0 [(0, nI n), (2, pB b2), (3, .int .i64 0), (4, pB b4), (20, nI (n + 1)), (21, nI i)] (o2 ++ (o1 ++ ((b4, bV (.agg #[(.slice ad1 (Zz (Gm n) i).length c1), (.slice ad2 (Zz (Gq n) i).length c2)]) 53) :: ((b2, bV (.agg #[.slice none 0 0, .slice none 0 0]) 53) :: [])))) [] a w) (fun i => (n + 1) - i) 0 (⟨Nat.zero_le _, none, 0, [], none, 0, [], ⟨GrowO.nil _ _, GrowO.nil _ _⟩, by exact (h.factsSub (by simp)).sub (Zdz ⟨rfl, rfl, rfl, rfl, rfl, rfl, trivial⟩)⟩) ?_; clear h
 rintro i a w ⟨hi_i, ad1, c1, o1, ad2, c2, o2, ⟨hG1, hG2⟩, h⟩
 refine gC h (zS (zp (.lss rfl rfl) (zn (zs ?_)))); clear h; intro a w h
 refine Zb h rfl (fun hc22 => ?_) (fun hc22 => ?_)
 ·
  skip
  have hlt_i : i < (n + 1) := dT hc22
  have hsi := hs i oo
  refine gC h (zk (zs (zb (zS (zm rfl (za rfl (zn (zS (zv [_] rfl call31 (Vg _ oo oo) ?_)))))))))
  have hl24 := Qo (1) oo oo
  refine zB [(_, _)] rfl (Xb _ _ _ _ _) fun b25 => ?_; intro a w h
  replace h := h.shareAll hS (cellsOf Zv ([((1 : Int) : Rat)])) rfl
  refine gL h (za rfl (zn (zs (zS (zm rfl (zp (.pN (n + 1) (.add rfl rfl)) (zm rfl (zn (zb ?_))))))))); clear h; intro a w h
  refine Zd (fun (m : Nat) a w => m ≤ (n + 1) ∧ ∃ (ad : Option Addr) (c : Nat), St 79 S w0 [(0, nI n), (2, pB b2), (3, .int .i64 0), (4, pB b4), (5, nI i), (6, .slice ad ((Za5 n i m).length) c), (20, nI (n + 1)), (21, nI i), (27, nI (n + 1)), (28, nI m)] (o2 ++ (o1 ++ ((b4, bV (.agg #[(.slice ad1 (Zz (Gm n) i).length c1), (.slice ad2 (Zz (Gq n) i).length c2)]) 53) :: ((b2, bV (.agg #[.slice none 0 0, .slice none 0 0]) 53) :: [])))) [Row ad (cellsOf Zv (Za5 n i m))] a w) (fun m => (n + 1) - m) 0 (⟨Nat.zero_le _, _, _, by rw [show Za5 n i 0 = [((1 : Int) : Rat)] from rfl]; exact (h.factsSub (by simp)).sub (Zdz ⟨rfl, rfl, rfl, rfl, rfl, rfl, rfl, rfl, rfl, rfl, trivial⟩)⟩) ?_; clear h
  rintro m a w ⟨hi_m, ad, c, h⟩
  refine gC h (zS (zp (.lss rfl rfl) (zn (zs ?_)))); clear h; intro a w h
  refine Zb h rfl (fun hc29 => ?_) (fun hc29 => ?_)
  ·
   skip
   have hlt_m : m < (n + 1) := dT hc29
   have hsm := hsi m oo
   have hcl := Zmk n i m
   refine gC h (zk (zs (zb (zS (zm rfl (za rfl (zn (zS (zm rfl (zm rfl (zp (.neq rfl rfl) (zn ?_)))))))))))); clear h; intro a w h
   refine cW ?_
   refine Zb h rfl (fun hc33 => ?_) (fun hc33 => ?_)
   ·
    skip
    have hne : m ≠ i := by have := Zdd hc33; exact this
    have hcot : Za5 n i (m + 1) = Zdp (Za5 n i m) (((-((m : Nat) : Int) : Int) : Rat) / ((((i : Nat) : Int) - ((m : Nat) : Int) : Int) : Rat)) ((((n : Nat) : Int) : Rat) / ((((i : Nat) : Int) - ((m : Nat) : Int) : Int) : Rat)) := by rw [Za5, if_pos hne]
    refine gC h (zr (zm rfl (zm rfl (zp (.unOp rfl (fun w => Zli _ oo oo w)) (zm rfl (zm rfl (zp (.sub rfl rfl) (zv [_, _] rfl call50 (Zaw _ _ oo oo oo oo oo) ?_))))))))
    have hl40 := Xy (-((m : Nat) : Int)) ((((i : Nat) : Int)) - (((m : Nat) : Int))) oo oo oo oo
    refine zm rfl (zm rfl (zm rfl (zp (.sub rfl rfl) (zv [_, _] rfl call50 (Zaw _ _ oo oo oo oo oo) ?_)))); intro a w h
    have hl45 := Xy (((n : Nat) : Int)) ((((i : Nat) : Int)) - (((m : Nat) : Int))) oo oo oo oo
    refine Zl (Kk h (vs := [_, _, _]) rfl call51 (Zy8 ad c (Za5 n i m) _ _ oo hsm oo oo) ss dd ?_); clear h; rintro v46 σ46 a w ⟨b46, rfl, rfl⟩ h
    replace h := h.shareAll hS (cellsOf Zv (Zdp (Za5 n i m) (((-((m : Nat) : Int) : Int) : Rat) / ((((i : Nat) : Int) - ((m : Nat) : Int) : Int) : Rat)) ((((n : Nat) : Int) : Rat) / ((((i : Nat) : Int) - ((m : Nat) : Int) : Int) : Rat)))) rfl
    refine gL h (za rfl (zn (zr (zp (.pN (m + 1) (.add rfl rfl)) (zm rfl (zn ?_)))))); clear h; intro a w h
    exact ⟨m + 1, ⟨oo, _, _, by rw [hcot]; exact by exact (h.factsSub (by simp)).sub (Zdz ⟨rfl, rfl, rfl, rfl, rfl, rfl, rfl, rfl, rfl, rfl, trivial⟩)⟩, oo⟩
   ·
    skip
    have hne : ¬ m ≠ i := by have := Znw hc33; omega
    have hcot : Za5 n i (m + 1) = Za5 n i m := by rw [Za5, if_neg hne]
    refine gC h (zk (zr (zp (.pN (m + 1) (.add rfl rfl)) (zm rfl (zn ?_))))); clear h; intro a w h
    exact ⟨m + 1, ⟨oo, _, _, by rw [hcot]; exact by exact (h.factsSub (by simp)).sub (Zdz ⟨rfl, rfl, rfl, rfl, rfl, rfl, rfl, rfl, rfl, rfl, trivial⟩)⟩, oo⟩
  ·
   skip
   have heq_m : (n + 1) = m := dF hc29
   subst heq_m
   refine gC h (ze (zS (zz Ja fun b8 => zn (zs (zS (zm rfl (zp (.builtin [_] rfl (Zw _ _ _)) (zm rfl (zn (zb ?_)))))))))); clear h; intro a w h
   have hcl2 := Zmk n i (n + 1)
   refine Zd (fun (p : Nat) a w => p ≤ (Za5 n i (n + 1)).length ∧ St 79 S w0 [(0, nI n), (2, pB b2), (3, .int .i64 0), (4, pB b4), (5, nI i), (6, .slice ad ((Za5 n i (n + 1)).length) c), (8, pB b8), (20, nI (n + 1)), (21, nI i), (27, nI (n + 1)), (28, nI (n + 1)), (48, .slice ad ((Za5 n i (n + 1)).length) c), (49, nI ((Za5 n i (n + 1)).length)), (50, nI p)] ((b8, bV (Zv (Zre (Za5 n i (n + 1)) p)) 64) :: (o2 ++ (o1 ++ ((b4, bV (.agg #[(.slice ad1 (Zz (Gm n) i).length c1), (.slice ad2 (Zz (Gq n) i).length c2)]) 53) :: ((b2, bV (.agg #[.slice none 0 0, .slice none 0 0]) 53) :: []))))) [Row ad (cellsOf Zv (Za5 n i (n + 1)))] a w) (fun p => (Za5 n i (n + 1)).length - p) 0 (⟨Nat.zero_le _, by exact (h).sub sA⟩) ?_; clear h
   rintro p a w ⟨hi_p, h⟩
   refine gC h (zS (zp (.lss rfl rfl) (zn (zs ?_)))); clear h; intro a w h
   refine Zb h rfl (fun hc51 => ?_) (fun hc51 => ?_)
   ·
    skip
    have hlt_p : p < (Za5 n i (n + 1)).length := dT hc51
    obtain ⟨B_ad, O_ad, rfl⟩ := h.row_addr (ad := ad) (M := cellsOf Zv (Za5 n i (n + 1))) mm (nE 5)
    have hgp := Ye (k := 1000) oo (hsi (n + 1) oo) p
    have hcs := Zn7 (Za5 n i (n + 1)) (hsi (n + 1) oo) p oo
    refine gC h (zk (zs (zb (zS (zm rfl (zp (.indexAddr rfl rfl (Km _ _ _ _ _ oo)) (zD rfl mm (cells_lt (k := 5) dd (fun _ => rfl) (Za5 n i (n + 1)) p oo) isAgg64 sizeOf64 (Zm (k := 5) (fun _ => rfl) ((fun _ => rfl)) (Za5 n i (n + 1)) 0 p oo) (.inl rfl) ?_)))))))
    refine zz Ja fun b10 => za rfl (zt' rfl rfl Zp uu sizeOf64 rfl nb rfl ?_)
    refine zn (yD Za [0, 1, 2, 3, 4, 5, 6, 7] (Zc kk) (yd rfl rfl mr isAgg64 sizeOf64 Zh ?_))
    refine yd rfl rfl mr isAgg64 sizeOf64 Zh ?_
    refine ym rfl rfl (yp rfl (.pN (p + 1) (.add rfl rfl)) (yv [_, _] rfl rfl call50 (Zaw _ _ oo oo oo oo oo) ?_))
    have hl59 := Xy (1) (((p + 1 : Nat) : Int)) oo oo oo oo
    refine yv [_, _] rfl rfl call42 (Yh _ _ oo oo) ?_
    have hl60 := Zx ((Za5 n i (n + 1)).getD p 0) (((1 : Int) : Rat) / ((((p + 1 : Nat) : Int) : Int) : Rat))
    refine yv [_, _] rfl rfl call37 (Gc _ _ oo oo) ?_
    have hl61 := Qt (Zre (Za5 n i (n + 1)) p) (((Za5 n i (n + 1)).getD p 0) * (((1 : Int) : Rat) / ((((p + 1 : Nat) : Int) : Int) : Rat)))
    refine yt rfl rfl rfl Zp uu sizeOf64 rfl nb rfl ?_
    refine yn (zr (zp (.pN (p + 1) (.add rfl rfl)) (zm rfl (zn ?_)))); intro a w h
    exact ⟨p + 1, ⟨oo, ((h.drop sl).factsSub (by simp)).sub sA⟩, oo⟩
   ·
    skip
    have heq_p : (Za5 n i (n + 1)).length = p := dF hc51
    subst heq_p
    refine gC h (ze (zs (yD Za [0, 1, 2, 3, 4, 5, 6, 7, 8] (Zc kk) (yp rfl (.fA rfl Xi) (yd rfl rfl mr isAgg44 sizeOf44 Ql ?_))))); clear h
    refine ym rfl rfl (ym rfl rfl (yv [_, _] rfl rfl call50 (Zaw _ _ oo oo oo oo oo) ?_))
    have hl67 := Xy (((i : Nat) : Int)) (((n : Nat) : Int)) oo oo oo oo
    refine yB rfl [(_, _)] rfl (Xb _ _ _ _ _) fun b68 => ?_
    refine Qm (σr := ((b8, bV (Zv (Zre (Za5 n i (n + 1)) ((Za5 n i (n + 1)).length))) 64) :: (o2 ++ ((b4, bV (.agg #[(.slice ad1 (Zz (Gm n) i).length c1), (.slice ad2 (Zz (Gq n) i).length c2)]) 53) :: ((b2, bV (.agg #[.slice none 0 0, .slice none 0 0]) 53) :: []))))) rfl kk rfl rfl (List.Perm.trans (List.Perm.refl _) (List.Perm.cons _ (Zbv (Zd9 (List.Perm.refl _))))) hG1 runUnderlying44 runUnderlying44 typeInfo64 sizeOf64 Ja rfl dd dd rfl rfl dd (by show 56 * (2 * ((Zz (Gm n) i).length + 1) + 192) ≤ 281474976710656; have h1 := Zs (Gm n) i; have h2 := Zs (Gq n) i; omega) dd ?_
    intro v69 o69 hG69
    obtain ⟨ad69, c69, rfl⟩ := hG69.is
    have hLn69 : (Zz (Gm n) i).length + 1 = ((Zz (Gm n) i) ++ [((((i : Nat) : Int) : Int) : Rat) / ((((n : Nat) : Int) : Int) : Rat)]).length := lA
    rw [hLn69]; rw [hLn69] at hG69
    replace hG69 : GrowO 5 64 (.slice ad69 ((Zz (Gm n) i) ++ [((((i : Nat) : Int) : Int) : Rat) / ((((n : Nat) : Int) : Int) : Rat)]).length c69) ((Zz (Gm n) i) ++ [((((i : Nat) : Int) : Int) : Rat) / ((((n : Nat) : Int) : Int) : Rat)]).length (cellsOf Zv ((Zz (Gm n) i) ++ [((((i : Nat) : Int) : Int) : Rat) / ((((n : Nat) : Int) : Int) : Rat)])) o69 := by rw [Zo, Qb]; exact hG69
    refine yp rfl (.fA rfl Xi) (yt rfl rfl rfl Zao uu sizeOf44 rfl nb (by show ((flat ((.slice ad69 ((Zz (Gm n) i) ++ [((((i : Nat) : Int) : Int) : Rat) / ((((n : Nat) : Int) : Int) : Rat)]).length c69)) && true)) = true; simp only [GrowO.flat (hG69)]; rfl) ?_)
    refine yn (zr (zp (.fA rfl Kv) (zd rfl mr isAgg44 sizeOf44 Qi ?_)))
    refine zd rfl mr isAgg64 sizeOf64 Zh ?_
    refine zB [(_, _)] rfl (Xb _ _ _ _ _) fun b74 => ?_; intro a w h
    refine Zl (Xn (σr := (o69 ++ ((b8, bV (Zv (Zre (Za5 n i (n + 1)) ((Za5 n i (n + 1)).length))) 64) :: ((b4, bV (.agg #[(.slice ad69 ((Zz (Gm n) i) ++ [((((i : Nat) : Int) : Int) : Rat) / ((((n : Nat) : Int) : Int) : Rat)]).length c69), (.slice ad2 (Zz (Gq n) i).length c2)]) 53) :: ((b2, bV (.agg #[.slice none 0 0, .slice none 0 0]) 53) :: []))))) h rfl rfl (List.Perm.trans (List.Perm.refl _) (List.Perm.cons _ (Zd9 (Zbv (List.Perm.refl _))))) hG2 runUnderlying44 runUnderlying44 typeInfo64 sizeOf64 Ja rfl dd dd rfl rfl dd (by show 56 * (2 * ((Zz (Gq n) i).length + 1) + 192) ≤ 281474976710656; have h1 := Zs (Gm n) i; have h2 := Zs (Gq n) i; omega) dd ?_); clear h
    intro v75 o75 a w hG75 h
    obtain ⟨ad75, c75, rfl⟩ := hG75.is
    have hLn75 : (Zz (Gq n) i).length + 1 = ((Zz (Gq n) i) ++ [Zre (Za5 n i (n + 1)) ((Za5 n i (n + 1)).length)]).length := lA
    rw [hLn75] at h hG75
    replace hG75 : GrowO 5 64 (.slice ad75 ((Zz (Gq n) i) ++ [Zre (Za5 n i (n + 1)) ((Za5 n i (n + 1)).length)]).length c75) ((Zz (Gq n) i) ++ [Zre (Za5 n i (n + 1)) ((Za5 n i (n + 1)).length)]).length (cellsOf Zv ((Zz (Gq n) i) ++ [Zre (Za5 n i (n + 1)) ((Za5 n i (n + 1)).length)])) o75 := by rw [Zo, Qb]; exact hG75
    refine gL h (zp (.fA rfl Kv) (zt' rfl rfl Zan uu sizeOf44 rfl nb (by show ((flat ((.slice ad75 ((Zz (Gq n) i) ++ [Zre (Za5 n i (n + 1)) ((Za5 n i (n + 1)).length)]).length c75)) && true)) = true; simp only [GrowO.flat (hG75)]; rfl) ?_))
    refine zn (zr (zp (.pN (i + 1) (.add rfl rfl)) (zm rfl (zn ?_)))); intro a w h
    exact ⟨i + 1, ⟨oo, ad69, c69, o69, ad75, c75, o75, ⟨hG69, hG75⟩, by exact (((h.perm (List.Perm.trans (Zdw (Zdw (List.Perm.refl _))) (List.Perm.cons _ (List.Perm.refl _))).symm).drop (by repeat (first | exact List.Sublist.refl _ | apply List.Sublist.cons))).factsSub (by simp)).sub sA⟩, oo⟩
 ·
  skip
  have heq_i : (n + 1) = i := dF hc22
  subst heq_i
  refine gC h (ze (zS (zd rfl mr isAgg53 sizeOf53 Zg ?_)))
  refine zt' rfl rfl Zq uu sizeOf53 rfl nb (by show ((flat ((.slice ad1 (Zz (Gm n) (n + 1)).length c1)) && (flat ((.slice ad2 (Zz (Gq n) (n + 1)).length c2)) && true))) = true; simp only [GrowO.flat (hG1), GrowO.flat (hG2)]; rfl) ?_; intro a w h
  refine gL h (za rfl (zn (zt ?_))); clear h; intro a w h
  replace h := (St.shareO' (St.shareO' (h.perm (Zd9 (List.Perm.refl _)).symm) hS hG1) hS hG2)
  refine Jm (Ψ := [Row ad2 (cellsOf Zv (Zz (Gq n) (n + 1))), Row ad1 (cellsOf Zv (Zz (Gm n) (n + 1)))]) h (Xe h rfl (.cell rfl mr isAgg53 sizeOf53 Zg) (.tmp rfl)) ⟨ad1, c1, ad2, c2, rfl, rfl⟩ ss
end
section
abbrev enci (x : Int) : Value := .int .i64 x
def orI : List Int → Int
 | [] => 0
 | x :: l => if x ≠ 0 then x else orI l
theorem Zwg : ∀ (l : List Int) (i : Nat), (∀ j, j < i → l.getD j 0 = 0) → i < l.length → l.getD i 0 ≠ 0 → orI l = l.getD i 0
 | [], i, _, h, _ => by simp at h
 | x :: l, 0, _, _, h => by rw [orI]; exact if_pos (by simpa using h)
 | x :: l, i + 1, hz, hl, h => by
  have h0 : x = 0 := by simpa using hz 0 oo
  rw [orI, if_neg (by simp [h0]), Zwg l i (fun j hj => by simpa using hz (j + 1) oo) (by simpa using hl) (by simpa using h)]
  simp
theorem Zsa : ∀ (l : List Int), (∀ j, j < l.length → l.getD j 0 = 0) → orI l = 0
 | [], _ => rfl
 | x :: l, hz => by
  have h0 : x = 0 := by simpa using hz 0 ss
  rw [orI, if_neg (by simp [h0]), Zsa l (fun j hj => by simpa using hz (j + 1) (by simpa using hj))]
def idxN : List Rat → Nat → Int
 | [], _ => -1
 | x :: l, i => if x.num.sign < 0 then (i : Int) else idxN l (i + 1)
def cfN (E : List Rat) (i k : Nat) : Int := orI [(E.getD k 0 - E.getD i 0).num.sign, Zrg (i : Int) (k : Int)]
theorem C_Or (ad : Option Addr) (c : Nat) (l : List Int) (hn : l.length ≤ 1000) : Ge Tryz.prog 155 [.slice ad l.length c] [Row ad (List.map enci l)] (.int .i64 (orI l)) := by
 refine fn_intro func155 rfl ntmps155 nb ?_
 intro S w0 a hS h
 refine gC h (zS (za rfl (zn (zS (za rfl (zn (zs (zS (zm rfl (zp (.builtin [_] rfl (Zhu _ _ _)) (zm rfl (zn (zb ?_))))))))))))); clear h; intro a w h
 refine Zd (fun (i : Nat) a w => i ≤ l.length ∧ (∀ j, j < i → l.getD j 0 = 0) ∧ St 18 S w0 [(3, .int .i64 0), (6, .slice ad l.length c), (7, nI l.length), (8, nI i)] [] [Row ad (List.map enci l)] a w) (fun i => l.length - i) 0 (⟨Nat.zero_le _, fun j hj => absurd hj oo, by exact (h).sub sA⟩) ?_; clear h
 rintro i a w ⟨hi_i, hinv_i, h⟩
 refine gC h (zS (zp (.lss rfl rfl) (zn (zs ?_)))); clear h; intro a w h
 refine Zb h rfl (fun hc9 => ?_) (fun hc9 => ?_)
 ·
  skip
  have hlt_i : i < l.length := dT hc9
  obtain ⟨B_ad, O_ad, rfl⟩ := h.row_addr (ad := ad) (M := List.map enci l) mm nF
  refine gC h (zk (zs (zb (zS (zp (.indexAddr rfl rfl (ix_67 _ _ _ _ _ oo)) (zD rfl mm (by rw [List.length_map]; omega) isAgg3 sizeOf3 (Zy (enc := enci) (l := l) 0 oo) (.inr rfl) ?_))))))
  refine za rfl (zn (zS (zm rfl (zm rfl (zp (.neq rfl rfl) ?_))))); intro a w h
  refine Zi h (fun hc14 h => ?_) (fun hc14 h => ?_)
  ·
   skip
   refine wpList_nil ?_
   refine cW ?_
   refine Qf h rfl ?_
   refine gC h (zS (zm rfl (za rfl (zn (zt ?_))))); clear h; intro a w h
   refine Jr h (Ze h rfl (.tmp rfl)) ?_
   rw [Zwg l i hinv_i hlt_i (by simpa using hc14)]
  ·
   skip
   refine wpList_nil ?_
   refine cW ?_
   refine Zn h rfl ?_
   refine gC h (zk (zr (zp (.pN (i + 1) (.add rfl rfl)) (zm rfl (zn ?_))))); clear h; intro a w h
   exact ⟨i + 1, ⟨oo, fun j hj => by
    rcases Nat.lt_or_ge j i with h1 | h1
    · exact hinv_i j h1
    · rw [show j = i by omega]; simpa using hc14, (h.factsSub (by simp)).sub sA⟩, oo⟩
 ·
  skip
  have heq_i : l.length = i := dF hc9
  subst heq_i
  refine gC h (ze (zS (zm rfl (za rfl (zn (zt ?_)))))); clear h; intro a w h
  refine Jr h (Ze h rfl (.tmp rfl)) ?_
  rw [Zsa l hinv_i]
end
section
structure Tm where
 i : Nat
 j : Nat
 c : Rat
theorem Tm.ext' {s t : Tm} (h1 : s.i = t.i) (h2 : s.j = t.j) (h3 : s.c = t.c) : s = t := by cases s; cases t; simp_all
instance : DecidableEq Tm := fun s t => decidable_of_iff (s.i = t.i ∧ s.j = t.j ∧ s.c = t.c) ⟨fun h => Tm.ext' h.1 h.2.1 h.2.2, fun h => by rw [h]; exact ⟨rfl, rfl, rfl⟩⟩
def lin (φ : Nat → Nat → Rat) : List Tm → Rat
 | [] => 0
 | t :: l => t.c * φ t.i t.j + lin φ l
theorem Zqp (φ : Nat → Nat → Rat) : lin φ [] = 0 := rfl
theorem Zaj (φ : Nat → Nat → Rat) : ∀ l m : List Tm, lin φ (l ++ m) = lin φ l + lin φ m
 | [], m => by simp only [List.nil_append, lin]; grind
 | t :: l, m => by simp only [List.cons_append, lin, Zaj φ l m]; grind
theorem Qay (φ : Nat → Nat → Rat) {l m : List Tm} (h : l.Perm m) : lin φ l = lin φ m := by
 induction h with
 | nil => rfl
 | cons x _ ih => simp only [lin, ih]
 | swap x y l => simp only [lin]; grind
 | trans _ _ h1 h2 => rw [h1, h2]
theorem Gy {φ ψ : Nat → Nat → Rat} : ∀ {l : List Tm}, (∀ t ∈ l, φ t.i t.j = ψ t.i t.j) → lin φ l = lin ψ l
 | [], _ => rfl
 | t :: l, h => by rw [lin, lin, h t List.mem_cons_self, Gy (fun s hs => h s (List.mem_cons_of_mem _ hs))]
theorem Zqr (φ ψ : Nat → Nat → Rat) : ∀ l : List Tm, lin (fun i j => φ i j + ψ i j) l = lin φ l + lin ψ l
 | [] => by simp only [lin]; grind
 | t :: l => by simp only [lin, Zqr φ ψ l]; grind
theorem Zde (a : Rat) (φ : Nat → Nat → Rat) : ∀ l : List Tm, lin (fun i j => a * φ i j) l = a * lin φ l
 | [] => by simp only [lin]; grind
 | t :: l => by simp only [lin, Zde a φ l]; grind
theorem Zsm (a : Rat) (φ : Nat → Nat → Rat) : ∀ l : List Tm, lin (fun i j => φ i j * a) l = lin φ l * a
 | [] => by simp only [lin]; grind
 | t :: l => by simp only [lin, Zsm a φ l]; grind
theorem Zls : ∀ l : List Tm, lin (fun _ _ => 0) l = 0
 | [] => rfl
 | t :: l => by simp only [lin, Zls l]; grind
theorem Zlu (φ : Nat → Nat → Rat) (g : Tm → Tm) (ψ : Nat → Nat → Rat) : ∀ l : List Tm, (∀ t ∈ l, (g t).c * φ (g t).i (g t).j = t.c * ψ t.i t.j) → lin φ (l.map g) = lin ψ l
 | [], _ => rfl
 | t :: l, h => by rw [List.map_cons, lin, lin, h t List.mem_cons_self, Zlu φ g ψ l (fun s hs => h s (List.mem_cons_of_mem _ hs))]
theorem Zfq (φ : Nat → Nat → Rat) (g : Tm → List Tm) (ψ : Nat → Nat → Rat) : ∀ l : List Tm, (∀ t ∈ l, lin φ (g t) = t.c * ψ t.i t.j) → lin φ (l.flatMap g) = lin ψ l
 | [], _ => rfl
 | t :: l, h => by rw [List.flatMap_cons, Zaj, lin, h t List.mem_cons_self, Zfq φ g ψ l (fun s hs => h s (List.mem_cons_of_mem _ hs))]
def same (s t : Tm) : Prop := s.i = t.i ∧ s.j = t.j
instance (s t : Tm) : Decidable (same s t) := inferInstanceAs (Decidable (_ ∧ _))
def Zdy (t : Tm) : List Tm → List Tm
 | [] => [⟨t.i, t.j, 0 + t.c⟩]
 | s :: p => if same s t then ⟨s.i, s.j, s.c + t.c⟩ :: p else s :: Zdy t p
theorem Zsn (φ : Nat → Nat → Rat) (t : Tm) : ∀ p : List Tm, lin φ (Zdy t p) = lin φ p + t.c * φ t.i t.j
 | [] => by simp only [Zdy, lin]; grind
 | s :: p => by
  rw [Zdy]
  split
  · rename_i h; obtain ⟨h1, h2⟩ := h; simp only [lin, h1, h2]; grind
  · simp only [lin, Zsn φ t p]; grind
theorem Zl4 {t u : Tm} : ∀ {p : List Tm}, u ∈ Zdy t p → same u t ∨ u ∈ p
 | [], h => by simp only [Zdy, List.mem_singleton] at h; subst h; exact .inl ⟨rfl, rfl⟩
 | s :: p, h => by
  rw [Zdy] at h
  split at h
  ·
   rename_i h2
   rcases List.mem_cons.1 h with rfl | h
   · exact .inl h2
   · exact .inr (List.mem_cons_of_mem _ h)
  ·
   rcases List.mem_cons.1 h with rfl | h
   · exact .inr List.mem_cons_self
   · exact (Zl4 h).imp id (List.mem_cons_of_mem _)
def dif (p : List Tm) : Prop := p.Pairwise (fun s t => ¬ same s t)
theorem Zsz (t : Tm) : ∀ {p : List Tm}, dif p → dif (Zdy t p)
 | [], _ => by rw [Zdy]; exact List.pairwise_singleton _ _
 | s :: p, h => by
  obtain ⟨h1, h2⟩ := List.pairwise_cons.1 h
  rw [Zdy]
  split
  · rename_i hs; exact List.pairwise_cons.2 ⟨fun u hu hc => h1 u hu hc, h2⟩
  ·
   rename_i hs
   refine List.pairwise_cons.2 ⟨fun u hu => ?_, Zsz t h2⟩
   rcases Zl4 hu with h3 | h3
   · exact fun h4 => hs ⟨h4.1.trans h3.1, h4.2.trans h3.2⟩
   · exact h1 u h3
theorem Zsy (t : Tm) : ∀ p : List Tm, (Zdy t p).length ≤ p.length + 1
 | [] => Nat.le_refl _
 | s :: p => by
  have h := Zsy t p
  rw [Zdy]; split <;> simp only [List.length_cons] <;> omega
def collect (l : List Tm) : List Tm := l.foldl (fun p t => Zdy t p) []
theorem Zjm (φ : Nat → Nat → Rat) : ∀ (l p : List Tm), lin φ (l.foldl (fun p t => Zdy t p) p) = lin φ p + lin φ l
 | [], p => by simp only [List.foldl_nil, lin]; grind
 | t :: l, p => by rw [List.foldl_cons, Zjm φ l, Zsn, lin]; grind
theorem Zqq (φ : Nat → Nat → Rat) (l : List Tm) : lin φ (collect l) = lin φ l := by
 rw [collect, Zjm, lin]; grind
theorem Zel : ∀ (l : List Tm) {p : List Tm}, dif p → dif (l.foldl (fun p t => Zdy t p) p)
 | [], p, h => h
 | t :: l, p, h => by rw [List.foldl_cons]; exact Zel l (Zsz t h)
theorem Zjn (l : List Tm) : dif (collect l) := Zel l List.Pairwise.nil
theorem Zej {u : Tm} : ∀ (l : List Tm) {p : List Tm}, u ∈ l.foldl (fun p t => Zdy t p) p → u ∈ p ∨ ∃ t ∈ l, same u t
 | [], p, h => .inl h
 | t :: l, p, h => by
  rw [List.foldl_cons] at h
  rcases Zej l h with h1 | ⟨s, hs, h1⟩
  ·
   rcases Zl4 h1 with h2 | h2
   · exact .inr ⟨t, List.mem_cons_self, h2⟩
   · exact .inl h2
  · exact .inr ⟨s, List.mem_cons_of_mem _ hs, h1⟩
theorem Zjl {l : List Tm} {u : Tm} (h : u ∈ collect l) : ∃ t ∈ l, same u t := by
 rcases Zej l h with h | h
 · cases h
 · exact h
theorem Zek : ∀ (l p : List Tm), (l.foldl (fun p t => Zdy t p) p).length ≤ p.length + l.length
 | [], p => Nat.le_refl _
 | t :: l, p => by rw [List.foldl_cons]; have := Zek l (Zdy t p); have := Zsy t p; simp only [List.length_cons]; omega
theorem Zfv (l : List Tm) : (collect l).length ≤ l.length := by have := Zek l []; simpa [collect] using this
def ltT (s t : Tm) : Bool := decide (s.i + s.j < t.i + t.j ∨ (s.i + s.j = t.i + t.j ∧ s.j < t.j))
theorem Zea (s t : Tm) : ltT s t = true ↔ (s.i + s.j < t.i + t.j ∨ (s.i + s.j = t.i + t.j ∧ s.j < t.j)) := decide_eq_true_iff
theorem Zkt (s : Tm) : ltT s s = false := by rw [Bool.eq_false_iff, Ne, Zea]; omega
theorem Zi0 {s t u : Tm} (h1 : ltT s t = true) (h2 : ltT t u = true) : ltT s u = true := by rw [Zea] at *; omega
theorem Zks {s t u : Tm} (h1 : ltT s t = false) (h2 : ltT t u = false) : ltT s u = false := by rw [Bool.eq_false_iff, Ne, Zea] at *; omega
theorem Zi1 {s t : Tm} (h1 : ltT s t = false) (h2 : ltT t s = false) : same s t := by
 rw [Bool.eq_false_iff, Ne, Zea] at *; unfold same; omega
def Nrm (p : List Tm) : Prop := (∀ t ∈ p, t.c ≠ 0) ∧ p.Pairwise (fun s t => ltT s t = true)
def norm (l : List Tm) : List Tm := ((collect l).filter (fun t => decide (t.c ≠ 0))).mergeSort (fun s t => !ltT t s)
theorem Zg7 (φ : Nat → Nat → Rat) : ∀ l : List Tm, lin φ (l.filter (fun t => decide (t.c ≠ 0))) = lin φ l
 | [] => rfl
 | t :: l => by
  rw [List.filter_cons]
  split
  · rw [lin, lin, Zg7 φ l]
  ·
   rename_i h
   have h0 : t.c = 0 := by simpa using h
   rw [lin, Zg7 φ l, h0]; grind
theorem Zcb (φ : Nat → Nat → Rat) (l : List Tm) : lin φ (norm l) = lin φ l := by
 rw [norm, Qay φ (List.mergeSort_perm _ _), Zg7, Zqq]
theorem Zlr {l : List Tm} {u : Tm} (h : u ∈ norm l) : u ∈ collect l ∧ u.c ≠ 0 := by
 have := (List.mergeSort_perm _ _).mem_iff.1 h
 rw [List.mem_filter] at this
 exact ⟨this.1, by simpa using this.2⟩
theorem Zdc (l : List Tm) : Nrm (norm l) := by
 refine ⟨fun t ht => (Zlr ht).2, ?_⟩
 have hd : dif (norm l) := by
  have h1 : dif ((collect l).filter (fun t => decide (t.c ≠ 0))) := List.Pairwise.filter _ (Zjn l)
  refine (List.Perm.pairwise_iff (fun {x y} h h2 => h ⟨h2.1.symm, h2.2.symm⟩) (List.mergeSort_perm _ _)).2 h1
 have hs := List.pairwise_mergeSort (le := fun s t => !ltT t s) (fun a b c h1 h2 => by
   simp only [Bool.not_eq_true'] at *
   exact Zks h2 h1) (fun a b => by
   rcases h : ltT b a with _ | _
   · simp
   ·
    have : ltT a b = false := by rw [Bool.eq_false_iff]; intro h2; have := Zi0 h h2; rw [Zkt] at this; cases this
    simp [this]) ((collect l).filter (fun t => decide (t.c ≠ 0)))
 refine List.Pairwise.imp₂ (fun s t h1 h2 => ?_) hs hd
 rcases h : ltT s t with _ | _
 · exact absurd (Zi1 h (by simpa using h1)) h2
 · rfl
def at0 (a b : Nat) : Nat → Nat → Rat := fun i j => if i = a ∧ j = b then 1 else 0
theorem Zcc {a b : Nat} : ∀ {l : List Tm}, (∀ t ∈ l, ¬ (t.i = a ∧ t.j = b)) → lin (at0 a b) l = 0
 | [], _ => rfl
 | t :: l, h => by
  rw [lin, Zcc (fun s hs => h s (List.mem_cons_of_mem _ hs)), at0, if_neg (h t List.mem_cons_self)]; grind
theorem Zsc {t : Tm} {p : List Tm} (h : Nrm (t :: p)) : Nrm p := ⟨fun s hs => h.1 s (List.mem_cons_of_mem _ hs), (List.pairwise_cons.1 h.2).2⟩
theorem Zdb {t : Tm} {p : List Tm} (h : Nrm (t :: p)) : lin (at0 t.i t.j) (t :: p) = t.c := by
 rw [lin, Zcc (fun s hs => ?_), at0, if_pos ⟨rfl, rfl⟩]
 · grind
 ·
  have := (List.pairwise_cons.1 h.2).1 s hs
  rw [Zea] at this; omega
theorem Zsd {s t : Tm} {q : List Tm} (h : ltT s t = true) (hq : Nrm (t :: q)) : lin (at0 s.i s.j) (t :: q) = 0 := by
 refine Zcc (fun u hu => ?_)
 have hu' : ltT s u = true := by
  rcases List.mem_cons.1 hu with rfl | hu
  · exact h
  · exact Zi0 h ((List.pairwise_cons.1 hq.2).1 u hu)
 rw [Zea] at hu'; omega
theorem Zqd : ∀ {p q : List Tm}, Nrm p → Nrm q → (∀ φ, lin φ p = lin φ q) → p = q
 | [], [], _, _, _ => rfl
 | [], t :: q, _, hq, h => by
  have h1 := h (at0 t.i t.j)
  rw [Zdb hq, Zqp] at h1
  exact absurd h1.symm (hq.1 t List.mem_cons_self)
 | s :: p, [], hp, _, h => by
  have h1 := h (at0 s.i s.j)
  rw [Zdb hp, Zqp] at h1
  exact absurd h1 (hp.1 s List.mem_cons_self)
 | s :: p, t :: q, hp, hq, h => by
  have hst : same s t := by
   refine Zi1 ?_ ?_
   ·
    rw [Bool.eq_false_iff]; intro hc
    have h1 := h (at0 s.i s.j)
    rw [Zdb hp, Zsd hc hq] at h1
    exact hp.1 s List.mem_cons_self h1
   ·
    rw [Bool.eq_false_iff]; intro hc
    have h1 := h (at0 t.i t.j)
    rw [Zdb hq, Zsd hc hp] at h1
    exact hq.1 t List.mem_cons_self h1.symm
  have hc : s.c = t.c := by
   have h1 := h (at0 s.i s.j)
   rw [Zdb hp, hst.1, hst.2, Zdb hq] at h1
   exact h1
  have e := Tm.ext' hst.1 hst.2 hc
  subst e
  rw [Zqd (Zsc hp) (Zsc hq) (fun φ => by have := h φ; rw [lin, lin] at this; grind)]
theorem Gw {l m : List Tm} (h : ∀ φ, lin φ l = lin φ m) : norm l = norm m :=
 Zqd (Zdc l) (Zdc m) (fun φ => by rw [Zcb, Zcb, h])
theorem Zqe {p : List Tm} (h : Nrm p) : norm p = p := Zqd (Zdc p) h (fun φ => Zcb φ p)
theorem Znt (l : List Tm) : norm (norm l) = norm l := Zqe (Zdc l)
end
section
theorem Zll (x : Rat) (m : Nat) : ∀ n : Nat, x ^ (m + n) = x ^ m * x ^ n
 | 0 => by rw [Nat.add_zero, Rat.pow_zero]; grind
 | n + 1 => by rw [← Nat.add_assoc, Rat.pow_succ, Rat.pow_succ, Zll x m n]; grind
theorem Zln (x y : Rat) : ∀ n : Nat, (x * y) ^ n = x ^ n * y ^ n
 | 0 => by rw [Rat.pow_zero, Rat.pow_zero, Rat.pow_zero]; grind
 | n + 1 => by rw [Rat.pow_succ, Rat.pow_succ, Rat.pow_succ, Zln x y n]; grind
theorem Zlm : ∀ n : Nat, (1 : Rat) ^ n = 1
 | 0 => Rat.pow_zero _
 | n + 1 => by rw [Rat.pow_succ, Zlm n]; grind
def evP (l : List Tm) (x y : Rat) : Rat := lin (fun i j => x ^ i * y ^ j) l
def Gp (a b : List Tm) : List Tm := a.flatMap (fun s => b.map (fun t => ⟨s.i + t.i, s.j + t.j, s.c * t.c⟩))
theorem Zlt (φ : Nat → Nat → Rat) (a b : List Tm) : lin φ (Gp a b) = lin (fun i j => lin (fun p q => φ (i + p) (j + q)) b) a := by
 unfold Gp
 refine Zfq φ _ _ a (fun s _ => ?_)
 rw [Zlu φ _ (fun p q => s.c * φ (s.i + p) (s.j + q)) b (fun t _ => by simp only; grind), Zde]
theorem Zx4 (a b : List Tm) (x y : Rat) : evP (Gp a b) x y = evP a x y * evP b x y := by
 unfold evP
 rw [Zlt, ← Zsm]
 refine Gy (fun s _ => ?_)
 rw [← Zde]
 refine Gy (fun t _ => ?_)
 rw [Zll, Zll]; grind
def Za8 (p : List Tm) : Nat → List Tm
 | 0 => [⟨0, 0, 1⟩]
 | n + 1 => Gp (Za8 p n) p
theorem Zq6 (p : List Tm) (x y : Rat) : ∀ n, evP (Za8 p n) x y = evP p x y ^ n
 | 0 => by rw [Za8, evP, lin, lin, Rat.pow_zero, Rat.pow_zero, Rat.pow_zero]; grind
 | n + 1 => by rw [Za8, Zx4, Zq6 p x y n, Rat.pow_succ]
theorem Zok (l m : List Tm) (x y : Rat) : evP (l ++ m) x y = evP l x y + evP m x y := Zaj _ _ _
def Yk (c : Rat) (l : List Tm) : List Tm := l.map (fun t => ⟨t.i, t.j, c * t.c⟩)
theorem Zbf (φ : Nat → Nat → Rat) (c : Rat) (l : List Tm) : lin φ (Yk c l) = c * lin φ l := by
 unfold Yk
 rw [← Zde]
 exact Zlu φ _ _ l (fun t _ => by simp only; grind)
theorem Zx3 (c : Rat) (l : List Tm) (x y : Rat) : evP (Yk c l) x y = c * evP l x y := Zbf _ _ _
def sbL (X Y : List Tm) (l : List Tm) : List Tm := l.flatMap (fun t => Yk t.c (Gp (Za8 X t.i) (Za8 Y t.j)))
theorem Zqo (φ : Nat → Nat → Rat) (X Y l : List Tm) : lin φ (sbL X Y l) = lin (fun i j => lin φ (Gp (Za8 X i) (Za8 Y j))) l := by
 unfold sbL
 exact Zfq φ _ _ l (fun t _ => by rw [Zbf])
theorem ev_sbL (X Y l : List Tm) (x y : Rat) : evP (sbL X Y l) x y = evP l (evP X x y) (evP Y x y) := by
 unfold evP
 rw [Zqo]
 refine Gy (fun t _ => ?_)
 have := Zx4 (Za8 X t.i) (Za8 Y t.j) x y
 rw [Zq6, Zq6] at this
 exact this
def dxL (l : List Tm) : List Tm := l.map (fun t => ⟨t.i - 1, t.j, t.c * ((t.i : Int) : Rat)⟩)
def dyL (l : List Tm) : List Tm := l.map (fun t => ⟨t.i, t.j - 1, t.c * ((t.j : Int) : Rat)⟩)
theorem Zw9 (φ : Nat → Nat → Rat) (l : List Tm) : lin φ (dyL l) = lin (fun i j => ((j : Int) : Rat) * φ i (j - 1)) l :=
 Zlu φ _ _ l (fun t _ => by simp only; grind)
theorem Vq (a b : Nat) : (((a + b : Nat) : Int) : Rat) = ((a : Int) : Rat) + ((b : Int) : Rat) := by
 rw [Int.natCast_add, Rat.intCast_add]
theorem Zib : (((1 : Nat) : Int) : Rat) = 1 := rfl
def Eqv (l m : List Tm) : Prop := ∀ φ, lin φ l = lin φ m
theorem Eqv.rfl' {l : List Tm} : Eqv l l := fun _ => rfl
theorem Eqv.symm {l m : List Tm} (h : Eqv l m) : Eqv m l := fun φ => (h φ).symm
theorem Eqv.trans {l m k : List Tm} (h : Eqv l m) (h2 : Eqv m k) : Eqv l k := fun φ => (h φ).trans (h2 φ)
theorem Eqv.nrm (l : List Tm) : Eqv (norm l) l := fun φ => Zcb φ l
theorem Eqv.mul {a b a' b' : List Tm} (h : Eqv a a') (h2 : Eqv b b') : Eqv (Gp a b) (Gp a' b') := fun φ => by
 rw [Zlt, Zlt, h]
 exact Gy (fun s _ => h2 _)
theorem Eqv.append {a b a' b' : List Tm} (h : Eqv a a') (h2 : Eqv b b') : Eqv (a ++ b) (a' ++ b') := fun φ => by rw [Zaj, Zaj, h, h2]
theorem Eqv.scale {a a' : List Tm} (c : Rat) (h : Eqv a a') : Eqv (Yk c a) (Yk c a') := fun φ => by rw [Zbf, Zbf, h]
theorem Eqv.dy {a a' : List Tm} (h : Eqv a a') : Eqv (dyL a) (dyL a') := fun φ => by rw [Zw9, Zw9, h]
theorem Eqv.pow {a a' : List Tm} (h : Eqv a a') : ∀ n, Eqv (Za8 a n) (Za8 a' n)
 | 0 => Eqv.rfl'
 | n + 1 => (Eqv.pow h n).mul h
theorem Eqv.sub {X Y l X' Y' l' : List Tm} (hX : Eqv X X') (hY : Eqv Y Y') (h : Eqv l l') : Eqv (sbL X Y l) (sbL X' Y' l') := fun φ => by
 rw [Zqo, Zqo, h]
 exact Gy (fun s _ => ((hX.pow _).mul (hY.pow _)) φ)
theorem Eqv.val {l m : List Tm} (h : Eqv l m) (x y : Rat) : evP l x y = evP m x y := h _
def pv (a : Nat → Rat) (x : Rat) : Nat → Rat
 | 0 => 0
 | n + 1 => pv a x n + a n * x ^ n
theorem Zr8 (a : Nat → Rat) (x c d : Rat) : ∀ n, pv a (c * x) n - d * pv a x n = pv (fun k => a k * (c ^ k - d)) x n
 | 0 => by simp only [pv]; grind
 | n + 1 => by
  have h := Zr8 a x c d n
  have e : (c * x) ^ n = c ^ n * x ^ n := Zln c x n
  simp only [pv, e]; grind
theorem Zty : ∀ k n : Nat, k < n → (2 : Rat) ^ k - 2 ^ n ≠ 0 := by
 have hp : ∀ k : Nat, (0 : Rat) < 2 ^ k := fun k => by
  induction k with
  | zero => rw [Rat.pow_zero]; decide
  | succ k ih => rw [Rat.pow_succ]; grind
 have key : ∀ k d : Nat, (2 : Rat) ^ k < 2 ^ (k + d + 1) := fun k d => by
  induction d with
  | zero => rw [Rat.pow_succ]; have := hp k; have e : (2 : Rat) ^ (k + 0) = 2 ^ k := rfl; grind
  | succ d ih =>
   have h2 := hp (k + d + 1)
   rw [show k + (d + 1) + 1 = (k + d + 1) + 1 by omega, Rat.pow_succ]; grind
 intro k n h
 have := key k (n - k - 1)
 rw [show k + (n - k - 1) + 1 = n by omega] at this
 grind
theorem Zp8 : ∀ (n : Nat) (a : Nat → Rat), (∀ x, pv a x n = 0) → ∀ k, k < n → a k = 0
 | 0, _, _, k, hk => absurd hk (Nat.not_lt_zero _)
 | n + 1, a, h, k, hk => by
  have hb : ∀ x, pv (fun k => a k * (2 ^ k - 2 ^ n)) x n = 0 := fun x => by
   rw [← Zr8 a x 2 (2 ^ n) n]
   have h1 := h (2 * x)
   have h2 := h x
   rw [pv] at h1 h2
   have e : (2 * x) ^ n = 2 ^ n * x ^ n := Zln 2 x n
   rw [e] at h1
   grind
  have low : ∀ k, k < n → a k = 0 := fun k hk => by
   have h1 := Zp8 n _ hb k hk
   rcases Rat.mul_eq_zero.1 h1 with h2 | h2
   · exact h2
   · exact absurd h2 (Zty k n hk)
  rcases Nat.lt_or_ge k n with h1 | h1
  · exact low k h1
  ·
   have e : k = n := oo
   subst e
   have z : ∀ m, m ≤ k → pv a 1 m = 0 := fun m => by
    induction m with
    | zero => intro _; rfl
    | succ m ih => intro hm; rw [pv, ih oo, low m oo]; grind
   have h1 := h 1
   rw [pv, z k (Nat.le_refl _)] at h1
   have e1 : (1 : Rat) ^ k = 1 := Zlm k
   rw [e1] at h1
   grind
theorem Zwb (a b : Nat → Rat) (x : Rat) : ∀ n, pv (fun k => a k + b k) x n = pv a x n + pv b x n
 | 0 => by simp only [pv]; grind
 | n + 1 => by simp only [pv, Zwb a b x n]; grind
theorem Zis {a : Nat → Rat} (x : Rat) : ∀ {n}, (∀ k, k < n → a k = 0) → pv a x n = 0
 | 0, _ => rfl
 | n + 1, h => by rw [pv, h n (Nat.lt_succ_self _), Zis x (fun k hk => h k (Nat.lt_succ_of_lt hk))]; grind
theorem Zwa {a : Nat → Rat} (x : Rat) (m : Nat) : ∀ {n}, m < n → (∀ k, k ≠ m → a k = 0) → pv a x n = a m * x ^ m
 | 0, h, _ => absurd h (Nat.not_lt_zero _)
 | n + 1, h, h2 => by
  rw [pv]
  rcases Nat.lt_or_ge m n with h3 | h3
  · rw [Zwa x m h3 h2, h2 n oo]; grind
  ·
   have e : m = n := oo
   subst e
   rw [Zis x (fun k hk => h2 k oo)]; grind
def Zvn : List Tm → Nat
 | [] => 0
 | t :: l => max (max (t.i + 1) (t.j + 1)) (Zvn l)
theorem Zpx {t : Tm} : ∀ {l : List Tm}, t ∈ l → t.i < Zvn l ∧ t.j < Zvn l
 | s :: l, h => by
  rw [Zvn]
  rcases List.mem_cons.1 h with rfl | h
  · omega
  · have := Zpx h; omega
theorem ev_pv (x y : Rat) (n : Nat) : ∀ l : List Tm, (∀ t ∈ l, t.i < n ∧ t.j < n) → evP l x y = pv (fun i => pv (fun j => lin (at0 i j) l) y n) x n
 | [], _ => by
  exact (Zis x (fun k _ => Zis y (fun m _ => rfl))).symm
 | t :: l, h => by
  have ih := ev_pv x y n l (fun s hs => h s (List.mem_cons_of_mem _ hs))
  have ht := h t List.mem_cons_self
  have e : (fun i => pv (fun j => lin (at0 i j) (t :: l)) y n) = (fun i => pv (fun j => t.c * at0 i j t.i t.j) y n + pv (fun j => lin (at0 i j) l) y n) := by
   funext i; rw [← Zwb]; rfl
  rw [e, Zwb, ← ih]
  have e2 : pv (fun i => pv (fun j => t.c * at0 i j t.i t.j) y n) x n = t.c * (x ^ t.i * y ^ t.j) := by
   rw [Zwa x t.i ht.1 (fun k hk => Zis y (fun m _ => by rw [at0, if_neg (fun hc => hk hc.1.symm)]; grind)),
    Zwa y t.j ht.2 (fun m hm => by rw [at0, if_neg (fun hc => hm hc.2.symm)]; grind), at0, if_pos ⟨rfl, rfl⟩]
   grind
  rw [e2]; rfl
theorem Zyh {l : List Tm} (h : ∀ x y, evP l x y = 0) (a b : Nat) : lin (at0 a b) l = 0 := by
 by_cases hab : a < Zvn l ∧ b < Zvn l
 ·
  have h1 : ∀ y i, i < Zvn l → pv (fun j => lin (at0 i j) l) y (Zvn l) = 0 := fun y =>
   Zp8 (Zvn l) _ (fun x => by rw [← ev_pv x y (Zvn l) l (fun t ht => Zpx ht), h x y])
  exact Zp8 (Zvn l) _ (fun y => h1 y a hab.1) b hab.2
 · exact Zcc (fun t ht hc => hab (by have := Zpx ht; rw [hc.1, hc.2] at this; exact this))
theorem Qbh {l : List Tm} (h : ∀ a b, lin (at0 a b) l = 0) : ∀ φ, lin φ l = 0 := by
 intro φ
 rw [← Zcb]
 have hn := Zdc l
 rcases hl : norm l with _ | ⟨t, p⟩
 · rfl
 ·
  rw [hl] at hn
  have h1 := Zdb hn
  rw [← hl, Zcb, h] at h1
  exact absurd h1.symm (hn.1 t List.mem_cons_self)
theorem Eqv.of_ev {l m : List Tm} (h : ∀ x y, evP l x y = evP m x y) : Eqv l m := by
 have h1 : ∀ x y, evP (l ++ Yk (-1) m) x y = 0 := fun x y => by rw [Zok, Zx3, h]; grind
 intro φ
 have := Qbh (Zyh h1) φ
 rw [Zaj, Zbf] at this
 grind
end
section
def ln (a b c : Rat) : List Tm := [⟨1, 0, a⟩, ⟨0, 1, b⟩, ⟨0, 0, c⟩]
theorem ev_ln (a b c x y : Rat) : evP (ln a b c) x y = a * x + b * y + c := by
 simp only [evP, ln, lin]; rw [Rat.pow_zero, Rat.pow_zero, Rat.pow_succ, Rat.pow_succ, Rat.pow_zero, Rat.pow_zero]; grind
def shL (p : List Tm) (ax bx cx ay by' cy : Rat) : List Tm := sbL (ln ax bx cx) (ln ay by' cy) p
theorem Zx2 (p : List Tm) (ax bx cx ay b cy x y : Rat) : evP (shL p ax bx cx ay b cy) x y = evP p (ax * x + bx * y + cx) (ay * x + b * y + cy) := by
 rw [shL, ev_sbL, ev_ln, ev_ln]
def lam (i j : Nat) : Rat := ((1 : Int) : Rat) / (((i + 1 : Nat) : Int) : Rat)
theorem Zfw (n : Nat) : (((n + 1 : Nat) : Int) : Rat) ≠ 0 := fun e => by have := Rat.intCast_eq_zero_iff.1 e; omega
theorem Zl1 (i j : Nat) : (((i + 1 : Nat) : Int) : Rat) * lam i j = 1 := by
 have h := Zfw i
 have e1 : ((1 : Int) : Rat) = 1 := rfl
 unfold lam; rw [e1]; grind
def bt : Nat → Nat → Rat
 | 0, j => lam j 0
 | i + 1, j => bt i j - bt i (j + 1)
theorem Zmn : ∀ i j : Nat, (((i + j + 2 : Nat) : Int) : Rat) * bt (i + 1) j = (((i + 1 : Nat) : Int) : Rat) * bt i j ∧ (((i + j + 2 : Nat) : Int) : Rat) * bt i (j + 1) = (((j + 1 : Nat) : Int) : Rat) * bt i j
 | 0, j => by
  have h1 := Zl1 j 0
  have h2 := Zl1 (j + 1) 0
  have n1 := Zfw j
  have n2 := Zfw (j + 1)
  have e : (((0 + j + 2 : Nat) : Int) : Rat) = (((j + 1 : Nat) : Int) : Rat) + 1 := by rw [show 0 + j + 2 = (j + 1) + 1 by omega, Vq, Zib]
  have e2 : (((j + 1 + 1 : Nat) : Int) : Rat) = (((j + 1 : Nat) : Int) : Rat) + 1 := by rw [Vq, Zib]
  rw [e2] at h2 n2
  simp only [bt]
  rw [e, Zib]
  constructor
  ·
   have : (((j + 1 : Nat) : Int) : Rat) * ((((j + 1 : Nat) : Int) : Rat) + 1) * (lam j 0 - lam (j + 1) 0) = 1 := by grind
   grind
  · grind
 | i + 1, j => by
  obtain ⟨a1, a2⟩ := Zmn i j
  obtain ⟨b1, b2⟩ := Zmn i (j + 1)
  have h1 : bt (i + 1 + 1) j = bt (i + 1) j - bt (i + 1) (j + 1) := rfl
  have h2 : bt (i + 1) j = bt i j - bt i (j + 1) := rfl
  have h3 : bt (i + 1) (j + 1) = bt i (j + 1) - bt i (j + 1 + 1) := rfl
  have c1 : (((i + 1 + j + 2 : Nat) : Int) : Rat) = ((i : Int) : Rat) + ((j : Int) : Rat) + 3 := by
   rw [show i + 1 + j + 2 = i + j + 3 by omega, Vq, Vq]; rfl
  have c2 : (((i + j + 2 : Nat) : Int) : Rat) = ((i : Int) : Rat) + ((j : Int) : Rat) + 2 := by rw [Vq, Vq]; rfl
  have c3 : (((i + (j + 1) + 2 : Nat) : Int) : Rat) = ((i : Int) : Rat) + ((j : Int) : Rat) + 3 := by
   rw [show i + (j + 1) + 2 = i + j + 3 by omega, Vq, Vq]; rfl
  have c4 : (((i + 1 : Nat) : Int) : Rat) = ((i : Int) : Rat) + 1 := by rw [Vq]; rfl
  have c5 : (((j + 1 : Nat) : Int) : Rat) = ((j : Int) : Rat) + 1 := by rw [Vq]; rfl
  have c6 : (((i + 1 + 1 : Nat) : Int) : Rat) = ((i : Int) : Rat) + 2 := by rw [show i + 1 + 1 = i + 2 by omega, Vq]; rfl
  have c7 : (((j + 1 + 1 : Nat) : Int) : Rat) = ((j : Int) : Rat) + 2 := by rw [show j + 1 + 1 = j + 2 by omega, Vq]; rfl
  rw [c2] at a1 a2
  rw [c3] at b1 b2
  rw [c4] at a1 b1
  rw [c5] at a2
  rw [c7] at b2
  rw [c1, c5, c6, h1]
  constructor <;> grind
def mu (i j : Nat) : Rat := bt (i + 1) j / (((i + 1 : Nat) : Int) : Rat)
theorem mu_bt (i j : Nat) : (((i + 1 : Nat) : Int) : Rat) * mu i j = bt (i + 1) j := by
 have h := Zfw i
 unfold mu; grind
def W1 : List Tm := [⟨0, 0, 1⟩, ⟨1, 0, -1⟩]
def X1 : List Tm := [⟨1, 0, 1⟩]
theorem Zje (i : Nat) (c x y : Rat) : evP [⟨i, 0, c⟩] x y = c * x ^ i := by
 simp only [evP, lin]; rw [Rat.pow_zero]; grind
abbrev Pt := Rat × Rat
def twQ (a b c : Pt) : Rat := (b.1 - a.1) * (c.2 - a.2) - (c.1 - a.1) * (b.2 - a.2)
def Qck (p : List Tm) (a b : Pt) : Rat := lin lam (shL p (b.1 - a.1) 0 a.1 (b.2 - a.2) 0 a.2)
def Zpn (p : List Tm) (a b c : Pt) : Rat := twQ a b c * lin mu (shL p (b.1 - a.1) (c.1 - a.1) a.1 (b.2 - a.2) (c.2 - a.2) a.2)
def flowQ (g h : List Tm) (a b : Pt) : Rat := (b.2 - a.2) * Qck g a b - (b.1 - a.1) * Qck h a b
end
section
theorem Zz8 {p q : List Tm} (h : Eqv p q) (a b c : Pt) : Zpn p a b c = Zpn q a b c := by
 unfold Zpn shL; rw [(Eqv.sub Eqv.rfl' Eqv.rfl' h) mu]
def prL (p : List Tm) : List Tm := p.map (fun t => ⟨t.i + 1, t.j, t.c / (((t.i + 1 : Nat) : Int) : Rat)⟩)
theorem mu00 : mu 0 0 = 1 / 2 := by
 have h1 := mu_bt 0 0
 have h2 := (Zmn 0 0).1
 have h3 := Zl1 0 0
 have e : (((0 + 0 + 2 : Nat) : Int) : Rat) = 2 := rfl
 have e1 : (((0 + 1 : Nat) : Int) : Rat) = 1 := rfl
 have h4 : bt 0 0 = lam 0 0 := rfl
 rw [e, e1] at h2
 rw [e1] at h1 h3
 grind
theorem Qdq (a b c : Pt) : Zpn [⟨0, 0, 1⟩] a b c = twQ a b c / 2 := by
 have h : Eqv (shL [⟨0, 0, 1⟩] (b.1 - a.1) (c.1 - a.1) a.1 (b.2 - a.2) (c.2 - a.2) a.2) [⟨0, 0, 1⟩] := Eqv.of_ev (fun x y => by
  rw [Zx2, Zje, Zje, Rat.pow_zero, Rat.pow_zero])
 unfold Zpn
 rw [h mu]
 have := mu00
 simp only [lin]; grind
def fanQ (p : List Tm) (a : Pt) : List Pt → Rat
 | b :: c :: l => Zpn p a b c + fanQ p a (c :: l)
 | _ => 0
def pathQ (f : Pt → Pt → Rat) : List Pt → Rat
 | a :: b :: l => f a b + pathQ f (b :: l)
 | _ => 0
def cycQ (f : Pt → Pt → Rat) : List Pt → Rat
 | [] => 0
 | a :: l => pathQ f (a :: l ++ [a])
def polyQ (p : List Tm) : List Pt → Rat
 | [] => 0
 | a :: l => fanQ p a l
end
section
def KL (K : Nat) (l : List Tm) : Prop := ∀ t ∈ l, Qa t.c ≤ K
def DL (d : Nat) (l : List Tm) : Prop := ∀ t ∈ l, t.i + t.j ≤ d
theorem KL.mono {K K' : Nat} {l : List Tm} (h : KL K l) (hk : K ≤ K') : KL K' l := fun t ht => Nat.le_trans (h t ht) hk
theorem DL.mono {d d' : Nat} {l : List Tm} (h : DL d l) (hk : d ≤ d') : DL d' l := fun t ht => Nat.le_trans (h t ht) hk
def cntP (i j : Nat) : List Tm → Nat
 | [] => 0
 | t :: l => (if t.i = i ∧ t.j = j then 1 else 0) + cntP i j l
theorem Zyi (i j : Nat) : ∀ l : List Tm, cntP i j l ≤ l.length
 | [] => Nat.le_refl _
 | t :: l => by have := Zyi i j l; rw [cntP, List.length_cons]; split <;> omega
theorem Zn9 {K : Nat} {f : Nat → Nat → Nat} {t : Tm} (ht : Qa t.c ≤ K) : ∀ {p : List Tm}, (∀ u ∈ p, Qa u.c ≤ f u.i u.j) → ∀ u ∈ Zdy t p, Qa u.c ≤ f u.i u.j + (if t.i = u.i ∧ t.j = u.j then K + 1 else 0)
 | [], _, u, hu => by
  rw [Zdy, List.mem_singleton] at hu
  subst hu
  have e : 0 + t.c = t.c := by grind
  simp only [and_self, if_true, e]; omega
 | s :: p, h, u, hu => by
  have h0 := h s List.mem_cons_self
  rw [Zdy] at hu
  split at hu
  ·
   rename_i hs
   rcases List.mem_cons.1 hu with rfl | hu
   ·
    have := Qt s.c t.c
    rw [if_pos ⟨hs.1.symm, hs.2.symm⟩]
    simp only; omega
   · have := h u (List.mem_cons_of_mem _ hu); omega
  ·
   rcases List.mem_cons.1 hu with rfl | hu
   · omega
   · exact Zn9 ht (fun v hv => h v (List.mem_cons_of_mem _ hv)) u hu
theorem Zdv {K : Nat} : ∀ (l : List Tm) {p : List Tm} {f : Nat → Nat → Nat}, KL K l → (∀ u ∈ p, Qa u.c ≤ f u.i u.j) →
  ∀ u ∈ l.foldl (fun p t => Zdy t p) p, Qa u.c ≤ f u.i u.j + cntP u.i u.j l * (K + 1)
 | [], p, f, _, h, u, hu => by have := h u hu; omega
 | t :: l, p, f, hl, h, u, hu => by
  rw [List.foldl_cons] at hu
  have ih := Zdv l (f := fun i j => f i j + (if t.i = i ∧ t.j = j then K + 1 else 0)) (fun s hs => hl s (List.mem_cons_of_mem _ hs)) (Zn9 (hl t List.mem_cons_self) h) u hu
  rw [cntP, Nat.add_mul]
  split at ih
  · rename_i hc; rw [if_pos hc]; omega
  · rename_i hc; rw [if_neg hc]; omega
theorem Zor {K : Nat} {l : List Tm} (h : KL K l) : ∀ u ∈ collect l, Qa u.c ≤ cntP u.i u.j l * (K + 1) := fun u hu => by
 have := Zdv l (f := fun _ _ => 0) (p := []) h (fun _ hv => nomatch hv) u hu
 omega
theorem Qff {Ka Kb : Nat} {a b : List Tm} (ha : KL Ka a) (hb : KL Kb b) : KL (Ka + Kb) (Gp a b) := fun u hu => by
 unfold Gp at hu
 obtain ⟨s, hs, hu⟩ := List.mem_flatMap.1 hu
 obtain ⟨t, ht, rfl⟩ := List.mem_map.1 hu
 have := Zx s.c t.c
 have := ha s hs
 have := hb t ht
 simp only; omega
theorem Zsf (a b : List Tm) : (Gp a b).length = a.length * b.length := by
 unfold Gp
 induction a with
 | nil => simp
 | cons s a ih => rw [List.flatMap_cons, List.length_append, ih, List.length_map, List.length_cons, Nat.add_mul]; omega
theorem Xz {d : Nat} {l : List Tm} (h : DL d l) : DL d (norm l) := fun u hu => by
 obtain ⟨t, ht, h1, h2⟩ := Zjl (Zlr hu).1
 rw [h1, h2]; exact h t ht
theorem Zpb {d : Nat} {a b : List Tm} (ha : DL d a) (hb : DL d b) : DL d (a ++ b) := fun t ht => (List.mem_append.1 ht).elim (ha t) (hb t)
theorem Zmv {da db : Nat} {a b : List Tm} (ha : DL da a) (hb : DL db b) : DL (da + db) (Gp a b) := fun u hu => by
 unfold Gp at hu
 obtain ⟨s, hs, hu⟩ := List.mem_flatMap.1 hu
 obtain ⟨t, ht, rfl⟩ := List.mem_map.1 hu
 have := ha s hs
 have := hb t ht
 simp only; omega
theorem Zpa {d : Nat} {a : List Tm} (c : Rat) (h : DL d a) : DL d (Yk c a) := fun u hu => by
 unfold Yk at hu
 obtain ⟨t, ht, rfl⟩ := List.mem_map.1 hu
 exact h t ht
theorem DL_dyL {d : Nat} {a : List Tm} (h : DL d a) : DL d (dyL a) := fun u hu => by
 unfold dyL at hu
 obtain ⟨t, ht, rfl⟩ := List.mem_map.1 hu
 have := h t ht
 simp only; omega
def tri : Nat → Nat
 | 0 => 0
 | n + 1 => tri n + n + 1
theorem Zb6 {m n : Nat} (h : m ≤ n) : tri m ≤ tri n := by
 induction h with
 | refl => exact Nat.le_refl _
 | step _ ih => rw [tri]; omega
def keyT (t : Tm) : Nat := tri (t.i + t.j) + t.j
theorem key_lt {s t : Tm} (h : ltT s t = true) : keyT s < keyT t := by
 rw [Zea] at h
 unfold keyT
 rcases h with h | ⟨h1, h2⟩
 ·
  have := Zb6 (show s.i + s.j + 1 ≤ t.i + t.j from h)
  rw [tri] at this; omega
 · rw [h1]; omega
theorem Zn3 : ∀ (l : List Nat) (m n : Nat), l.Pairwise (· < ·) → (∀ x ∈ l, m ≤ x ∧ x < n) → l.length ≤ n - m
 | [], _, _, _, _ => Nat.zero_le _
 | x :: l, m, n, h, hb => by
  obtain ⟨h1, h2⟩ := List.pairwise_cons.1 h
  have h3 := hb x List.mem_cons_self
  have := Zn3 l (x + 1) n h2 (fun y hy => ⟨h1 y hy, (hb y (List.mem_cons_of_mem _ hy)).2⟩)
  rw [List.length_cons]; omega
theorem Zwq {d : Nat} {p : List Tm} (h : Nrm p) (hd : DL d p) : p.length ≤ tri (d + 1) := by
 have := Zn3 (p.map keyT) 0 (tri (d + 1)) (List.pairwise_map.2 (h.2.imp (fun {s t} hs => key_lt hs))) (fun x hx => by
  obtain ⟨t, ht, rfl⟩ := List.mem_map.1 hx
  have h1 := hd t ht
  have := Zb6 h1
  refine ⟨Nat.zero_le _, ?_⟩
  unfold keyT; rw [tri]; omega)
 rw [List.length_map] at this; exact this
def ab (x : Rat) : Rat := if x < 0 then -x else x
theorem Zer (x : Rat) : 0 ≤ ab x := by unfold ab; split <;> grind
theorem ab_add (x y : Rat) : ab (x + y) ≤ ab x + ab y := by unfold ab; split <;> split <;> split <;> grind
theorem Zaz {x : Rat} (h : 0 ≤ x) : ab x = x := by unfold ab; rw [if_neg (by grind)]
theorem Zk3 (x : Rat) : ab (-x) = ab x := by unfold ab; split <;> split <;> grind
theorem Zth (x y : Rat) : ab (x * y) = ab x * ab y := by
 have key : ∀ x y : Rat, 0 ≤ x → 0 ≤ y → ab (x * y) = ab x * ab y := fun x y hx hy => by
  rw [Zaz hx, Zaz hy, Zaz (Rat.mul_nonneg hx hy)]
 by_cases hx : 0 ≤ x <;> by_cases hy : 0 ≤ y
 · exact key x y hx hy
 · rw [show x * y = -(x * -y) by grind, Zk3, key x (-y) hx (by grind), Zk3]
 · rw [show x * y = -(-x * y) by grind, Zk3, key (-x) y (by grind) hy, Zk3]
 · rw [show x * y = -x * -y by grind, key (-x) (-y) (by grind) (by grind), Zk3, Zk3]
theorem Ko (a b : Nat) : (((a * b : Nat) : Int) : Rat) = ((a : Int) : Rat) * ((b : Int) : Rat) := by rw [Int.natCast_mul, Rat.intCast_mul]
theorem Xw (a : Nat) : (0 : Rat) ≤ ((a : Int) : Rat) := by
 have h := (Rat.intCast_le_intCast (a := 0) (b := (a : Int))).2 oo
 exact h
theorem Zym {a b : Nat} (h : a ≤ b) : ((a : Int) : Rat) ≤ ((b : Int) : Rat) := Rat.intCast_le_intCast.2 oo
theorem Zue {a b : Nat} (h : ((a : Int) : Rat) ≤ ((b : Int) : Rat)) : a ≤ b := by have := Rat.intCast_le_intCast.1 h; omega
theorem Yq {a b c : Rat} (h : a ≤ b) (hc : 0 ≤ c) : a * c ≤ b * c := by
 have := Rat.mul_nonneg (show 0 ≤ b - a by grind) hc
 grind
theorem Zix {a b c d : Rat} (h : a ≤ b) (h2 : c ≤ d) (ha : 0 ≤ c) (hb : 0 ≤ b) : a * c ≤ b * d := by
 have h3 := Yq h ha
 have h4 := Yq h2 hb
 grind
def sab : List Tm → Rat
 | [] => 0
 | t :: l => ab t.c + sab l
theorem Zey : ∀ l : List Tm, 0 ≤ sab l
 | [] => by rw [sab]; grind
 | t :: l => by have := Zey l; have := Zer t.c; rw [sab]; grind
theorem Zg1 : ∀ l m : List Tm, sab (l ++ m) = sab l + sab m
 | [], m => by simp only [List.nil_append, sab]; grind
 | t :: l, m => by rw [List.cons_append, sab, sab, Zg1 l m]; grind
theorem Qag {l m : List Tm} (h : l.Perm m) : sab l = sab m := by
 induction h with
 | nil => rfl
 | cons x _ ih => rw [sab, sab, ih]
 | swap x y l => simp only [sab]; grind
 | trans _ _ h1 h2 => rw [h1, h2]
theorem Qdy {l : List Tm} {t : Tm} (h : t ∈ l) : ab t.c ≤ sab l := by
 induction l with
 | nil => cases h
 | cons s l ih =>
  rw [sab]
  rcases List.mem_cons.1 h with rfl | h
  · have := Zey l; grind
  · have := ih h; have := Zer s.c; grind
theorem Zkk (f : Tm → Bool) : ∀ l : List Tm, sab (l.filter f) ≤ sab l
 | [] => by rw [List.filter_nil]; grind
 | t :: l => by
  have := Zkk f l
  have := Zer t.c
  rw [List.filter_cons]
  split
  · rw [sab, sab]; grind
  · rw [sab]; grind
theorem Zr1 (t : Tm) : ∀ p : List Tm, sab (Zdy t p) ≤ sab p + ab t.c
 | [] => by
  have e : 0 + t.c = t.c := by grind
  simp only [Zdy, sab, e]; grind
 | s :: p => by
  rw [Zdy]
  split
  · have := ab_add s.c t.c; simp only [sab]; grind
  · have := Zr1 t p; simp only [sab]; grind
theorem Zd5 : ∀ (l p : List Tm), sab (l.foldl (fun p t => Zdy t p) p) ≤ sab p + sab l
 | [], p => by simp only [List.foldl_nil, sab]; grind
 | t :: l, p => by
  have h1 := Zd5 l (Zdy t p)
  have h2 := Zr1 t p
  rw [List.foldl_cons]; simp only [sab]; grind
theorem Qah (l : List Tm) : sab (norm l) ≤ sab l := by
 rw [norm, Qag (List.mergeSort_perm _ _)]
 have h1 := Zkk (fun t => decide (t.c ≠ 0)) (collect l)
 have h2 := Zd5 l []
 have h3 : collect l = l.foldl (fun p t => Zdy t p) [] := rfl
 rw [← h3] at h2
 simp only [sab] at h2
 grind
theorem Zng (c : Rat) : ∀ l : List Tm, sab (Yk c l) = ab c * sab l
 | [] => by simp only [Yk, List.map_nil, sab]; grind
 | t :: l => by
  have := Zng c l
  have := Zth c t.c
  simp only [Yk, List.map_cons, sab] at *
  grind
theorem Zil (s : Tm) : ∀ b : List Tm, sab (b.map (fun t => (⟨s.i + t.i, s.j + t.j, s.c * t.c⟩ : Tm))) = ab s.c * sab b
 | [] => by simp only [List.map_nil, sab]; grind
 | t :: b => by
  have := Zil s b
  have := Zth s.c t.c
  simp only [List.map_cons, sab] at *
  grind
theorem Zv2 (b : List Tm) : ∀ a : List Tm, sab (Gp a b) = sab a * sab b
 | [] => by show sab [] = _; simp only [sab]; grind
 | s :: a => by
  have ih := Zv2 b a
  have h := Zil s b
  unfold Gp at *
  rw [List.flatMap_cons, Zg1, ih, h, sab]; grind
def ID (D : Nat) (x : Rat) : Prop := ∃ z : Int, x * ((D : Int) : Rat) = (z : Rat)
theorem ID.mul {D E : Nat} {x y : Rat} (h : ID D x) (h2 : ID E y) : ID (D * E) (x * y) := by
 obtain ⟨z, hz⟩ := h
 obtain ⟨w, hw⟩ := h2
 exact ⟨z * w, by rw [Ko, Rat.intCast_mul, ← hz, ← hw]; grind⟩
theorem ID.add {D : Nat} {x y : Rat} (h : ID D x) (h2 : ID D y) : ID D (x + y) := by
 obtain ⟨z, hz⟩ := h
 obtain ⟨w, hw⟩ := h2
 exact ⟨z + w, by rw [Rat.intCast_add, ← hz, ← hw]; grind⟩
theorem ID.int (n : Int) : ID 1 (n : Rat) := ⟨n, by rw [Zib]; grind⟩
theorem ID.zero (D : Nat) : ID D 0 := ⟨0, by show 0 * _ = (0 : Rat); grind⟩
theorem ID.right {D : Nat} {x : Rat} (h : ID D x) (E : Nat) : ID (D * E) x := by
 have := h.mul (ID.int (E : Int))
 obtain ⟨z, hz⟩ := h
 exact ⟨z * E, by rw [Ko, Rat.intCast_mul, ← hz]; grind⟩
theorem ID.left {D : Nat} {x : Rat} (h : ID D x) (E : Nat) : ID (E * D) x := by rw [Nat.mul_comm]; exact h.right E
theorem Zqg (x : Rat) : x * ((x.den : Int) : Rat) = (x.num : Rat) := by
 rw [Rat.mul_def', Rat.num_intCast, Rat.den_intCast, Nat.mul_one]
 have := Rat.mkRat_mul_right (n := x.num) (d := 1) (a := x.den) x.den_nz
 rw [Nat.one_mul] at this
 rw [this, Rat.mkRat_one]
theorem ID.self (x : Rat) : ID x.den x := ⟨x.num, Zqg x⟩
theorem ab_int (z : Int) : ab (z : Rat) = ((z.natAbs : Int) : Rat) := by
 unfold ab
 split
 ·
  rename_i h
  have h2 : z < 0 := Rat.intCast_lt_intCast.1 (show (z : Rat) < ((0 : Int) : Rat) from h)
  rw [show ((z.natAbs : Nat) : Int) = -z by omega, Rat.intCast_neg]
 ·
  rename_i h
  have h2 : ¬ z < 0 := fun h3 => h (Rat.intCast_lt_intCast.2 h3 : (z : Rat) < ((0 : Int) : Rat))
  rw [show ((z.natAbs : Nat) : Int) = z by omega]
theorem Zy1 (x : Rat) : ab x * ((x.den : Int) : Rat) = ((x.num.natAbs : Int) : Rat) := by
 rw [← ab_int, ← Zqg, Zth, Zaz (Xw x.den)]
theorem ID.den {D : Nat} {x : Rat} (h : ID D x) : x.den ∣ D := by
 obtain ⟨z, hz⟩ := h
 have h1 : ((x.num * (D : Int) : Int) : Rat) = ((z * (x.den : Int) : Int) : Rat) := by
  rw [Rat.intCast_mul, Rat.intCast_mul, ← hz, ← Zqg]; grind
 have h2 := Rat.intCast_inj.1 h1
 have h3 : x.num.natAbs * D = z.natAbs * x.den := by
  have := congrArg Int.natAbs h2
  rwa [Int.natAbs_mul, Int.natAbs_mul, Int.natAbs_natCast, Int.natAbs_natCast] at this
 exact (Nat.Coprime.dvd_of_dvd_mul_left x.reduced.symm (h3 ▸ Nat.dvd_mul_left x.den z.natAbs))
def Hb (K : Nat) (l : List Tm) : Prop := ∃ D N : Nat, 0 < D ∧ D < 4294967296 ^ K ∧ N < 4294967296 ^ K ∧ (∀ t ∈ l, ID D t.c) ∧ sab l * ((D : Int) : Rat) ≤ ((N : Int) : Rat)
theorem Ze3 {K K' : Nat} (h : K ≤ K') : 4294967296 ^ K ≤ 4294967296 ^ K' := Nat.pow_le_pow_right dd h
theorem Hb.mono {K K' : Nat} {l : List Tm} (h : Hb K l) (hk : K ≤ K') : Hb K' l := by
 obtain ⟨D, N, h0, h1, h2, h3, h4⟩ := h
 exact ⟨D, N, h0, Nat.lt_of_lt_of_le h1 (Ze3 hk), Nat.lt_of_lt_of_le h2 (Ze3 hk), h3, h4⟩
theorem Hb.siz {K : Nat} {l : List Tm} (h : Hb K l) : KL K l := fun t ht => by
 obtain ⟨D, N, h0, h1, h2, h3, h4⟩ := h
 have hd := (h3 t ht).den
 have hle := Nat.le_of_dvd h0 hd
 have hn : ((t.c.num.natAbs : Int) : Rat) ≤ ((N : Int) : Rat) := by
  rw [← Zy1]
  have a1 := Zix (Qdy ht) (Zym hle) (Xw _) (Zey l)
  grind
 have hn' := Zue hn
 unfold Qa Zck
 have := Zeu (n := t.c.num.natAbs) (k := K) oo
 have := Zeu (n := t.c.den) (k := K) oo
 omega
theorem Hb.nrm {K : Nat} {l : List Tm} (h : Hb K l) : Hb K (norm l) := by
 obtain ⟨D, N, h0, h1, h2, h3, h4⟩ := h
 refine ⟨D, N, h0, h1, h2, fun u hu => ?_, ?_⟩
 ·
  have key : ∀ (l p : List Tm), (∀ t ∈ l, ID D t.c) → (∀ t ∈ p, ID D t.c) → ∀ u ∈ l.foldl (fun p t => Zdy t p) p, ID D u.c := by
   intro l
   induction l with
   | nil => intro p _ hp u hu; exact hp u hu
   | cons t l ih =>
    intro p hl hp u hu
    rw [List.foldl_cons] at hu
    refine ih (Zdy t p) (fun s hs => hl s (List.mem_cons_of_mem _ hs)) (fun v hv => ?_) u hu
    have ht := hl t List.mem_cons_self
    clear ih hu hl
    induction p with
    | nil => rw [Zdy, List.mem_singleton] at hv; subst hv; exact (ID.zero D).add ht
    | cons s p ih =>
     rw [Zdy] at hv
     split at hv
     ·
      rcases List.mem_cons.1 hv with rfl | hv
      · exact (hp s List.mem_cons_self).add ht
      · exact hp v (List.mem_cons_of_mem _ hv)
     ·
      rcases List.mem_cons.1 hv with rfl | hv
      · exact hp _ List.mem_cons_self
      · exact ih (fun w hw => hp w (List.mem_cons_of_mem _ hw)) hv
  exact key l [] h3 (fun _ h => nomatch h) u (Zlr hu).1
 ·
  have := Yq (Qah l) (Xw D)
  grind
theorem Zge {n k : Nat} (h : (wds n).length ≤ k) : n < 4294967296 ^ k := Nat.lt_of_lt_of_le (Zco n) (Ze3 h)
theorem Zxf {x : Rat} {k : Nat} (h : Qa x ≤ k) : x.num.natAbs < 4294967296 ^ k ∧ x.den < 4294967296 ^ k := by
 obtain ⟨h1, h2⟩ := Zfs h
 exact ⟨Zge h1, Zge h2⟩
theorem Zwc {a b c d K k : Nat} (h1 : a < 4294967296 ^ K) (h2 : b < 4294967296 ^ k) (h3 : c < 4294967296 ^ K) (h4 : d < 4294967296 ^ k) : a * b + c * d < 4294967296 ^ (K + k + 1) := by
 have e1 := Nat.mul_lt_mul'' h1 h2
 have e2 := Nat.mul_lt_mul'' h3 h4
 rw [Nat.pow_succ, Nat.pow_add]
 generalize 4294967296 ^ K * 4294967296 ^ k = P at *
 omega
theorem Hb.nil : Hb 1 [] := ⟨1, 0, oo, by omega, oo, (fun _ h => nomatch h), by show (0 : Rat) * _ ≤ (0 : Rat); grind⟩
theorem Hb.append {Ka Kb : Nat} {a b : List Tm} (ha : Hb Ka a) (hb : Hb Kb b) : Hb (Ka + Kb + 1) (a ++ b) := by
 obtain ⟨D, N, h0, h1, h2, h3, h4⟩ := ha
 obtain ⟨E, M, k0, k1, k2, k3, k4⟩ := hb
 refine ⟨D * E, N * E + D * M, Nat.mul_pos h0 k0, Nat.lt_of_lt_of_le (by rw [Nat.pow_add]; exact Nat.mul_lt_mul'' h1 k1) (Ze3 (Nat.le_succ (Ka + Kb))), Zwc h2 k1 h1 k2, fun t ht => ?_, ?_⟩
 ·
  rcases List.mem_append.1 ht with h | h
  · exact (h3 t h).right E
  · exact (k3 t h).left D
 ·
  rw [Zg1, Ko, Vq, Ko, Ko]
  have e1 := Yq h4 (Xw E)
  have e2 := Yq k4 (Xw D)
  grind
theorem Hb.cons {K k : Nat} {l : List Tm} {t : Tm} (h : Hb K l) (ht : Qa t.c ≤ k) : Hb (K + k + 1) (t :: l) := by
 obtain ⟨D, N, h0, h1, h2, h3, h4⟩ := h
 obtain ⟨p1, p2⟩ := Zxf ht
 have hp := t.c.den_pos
 refine ⟨D * t.c.den, D * t.c.num.natAbs + N * t.c.den, Nat.mul_pos h0 hp, Nat.lt_of_lt_of_le (by rw [Nat.pow_add]; exact Nat.mul_lt_mul'' h1 p2) (Ze3 (Nat.le_succ (K + k))), Zwc h1 p1 h2 p2, fun s hs => ?_, ?_⟩
 ·
  rcases List.mem_cons.1 hs with rfl | hs
  · exact (ID.self _).left D
  · exact (h3 s hs).right _
 ·
  rw [sab, Ko, Vq, Ko, Ko]
  have e0 := Zy1 t.c
  have e1 := Yq h4 (Xw t.c.den)
  rw [← e0]
  grind
theorem Hb.of_KL {k : Nat} {l : List Tm} (h : KL k l) : Hb (l.length * (k + 1) + 1) l := by
 induction l with
 | nil => exact Hb.nil.mono oo
 | cons t l ih =>
  have h2 := (ih (fun s hs => h s (List.mem_cons_of_mem _ hs))).cons (h t List.mem_cons_self)
  have e : (t :: l).length * (k + 1) + 1 = l.length * (k + 1) + 1 + k + 1 := by rw [List.length_cons, Nat.add_mul]; omega
  rw [e]; exact h2
theorem Hb.scale {K k : Nat} {l : List Tm} {c : Rat} (h : Hb K l) (hc : Qa c ≤ k) : Hb (k + K) (Yk c l) := by
 obtain ⟨D, N, h0, h1, h2, h3, h4⟩ := h
 obtain ⟨p1, p2⟩ := Zxf hc
 refine ⟨c.den * D, c.num.natAbs * N, Nat.mul_pos c.den_pos h0, by rw [Nat.pow_add]; exact Nat.mul_lt_mul'' p2 h1, by rw [Nat.pow_add]; exact Nat.mul_lt_mul'' p1 h2, fun u hu => ?_, ?_⟩
 ·
  unfold Yk at hu
  obtain ⟨t, ht, rfl⟩ := List.mem_map.1 hu
  exact (ID.self c).mul (h3 t ht)
 ·
  rw [Zng, Ko, Ko, ← Zy1]
  have e1 := Yq h4 (Rat.mul_nonneg (Zer c) (Xw c.den))
  grind
theorem Hb.mul {Ka Kb : Nat} {a b : List Tm} (ha : Hb Ka a) (hb : Hb Kb b) : Hb (Ka + Kb) (Gp a b) := by
 obtain ⟨D, N, h0, h1, h2, h3, h4⟩ := ha
 obtain ⟨E, M, k0, k1, k2, k3, k4⟩ := hb
 refine ⟨D * E, N * M, Nat.mul_pos h0 k0, by rw [Nat.pow_add]; exact Nat.mul_lt_mul'' h1 k1, by rw [Nat.pow_add]; exact Nat.mul_lt_mul'' h2 k2, fun u hu => ?_, ?_⟩
 ·
  unfold Gp at hu
  obtain ⟨s, hs, hu⟩ := List.mem_flatMap.1 hu
  obtain ⟨t, ht, rfl⟩ := List.mem_map.1 hu
  exact (h3 s hs).mul (k3 t ht)
 ·
  rw [Zv2, Ko, Ko]
  have e1 := Zix h4 k4 (Rat.mul_nonneg (Zey b) (Xw E)) (Xw N)
  grind
theorem Zr0 (f : Tm → Tm) (m : Nat) : ∀ l : List Tm, (∀ t ∈ l, ab (f t).c ≤ ab t.c * ((m : Int) : Rat)) → sab (l.map f) ≤ sab l * ((m : Int) : Rat)
 | [], _ => by simp only [List.map_nil, sab]; grind
 | t :: l, h => by
  have h1 := h t List.mem_cons_self
  have h2 := Zr0 f m l (fun s hs => h s (List.mem_cons_of_mem _ hs))
  simp only [List.map_cons, sab]; grind
theorem Hb.mapi {K : Nat} {l : List Tm} (h : Hb K l) (f : Tm → Tm) (n : Tm → Nat) (hf : ∀ t ∈ l, (f t).c = t.c * ((n t : Int) : Rat)) (hn : ∀ t ∈ l, n t ≤ 1000) : Hb (K + 1) (l.map f) := by
 obtain ⟨D, N, h0, h1, h2, h3, h4⟩ := h
 refine ⟨D, N * 1000, h0, Nat.lt_of_lt_of_le h1 (Ze3 (Nat.le_succ K)), by rw [Nat.pow_succ]; exact Nat.mul_lt_mul'' h2 dd, fun u hu => ?_, ?_⟩
 ·
  obtain ⟨t, ht, rfl⟩ := List.mem_map.1 hu
  rw [hf t ht]
  obtain ⟨z, hz⟩ := h3 t ht
  exact ⟨z * (n t : Int), by rw [Rat.intCast_mul, ← hz]; grind⟩
 ·
  have e1 := Zr0 f 1000 l (fun t ht => by
   rw [hf t ht, Zth, Zaz (Xw _)]
   have := Yq (Zym (hn t ht)) (Zer t.c)
   grind)
  have e2 := Yq e1 (Xw D)
  have e3 := Yq h4 (Xw 1000)
  rw [Ko]
  grind
structure Pq (d K : Nat) (l : List Tm) : Prop where
 deg : DL d l
 len : l.length ≤ 100
 hgt : Hb K l
theorem Pq.siz {d K : Nat} {l : List Tm} (h : Pq d K l) : KL K l := h.hgt.siz
theorem Pq.nsz {d K : Nat} {l : List Tm} (h : Pq d K l) : KL K (norm l) := h.hgt.nrm.siz
theorem Pq.nlen {d K : Nat} {l : List Tm} (h : Pq d K l) : (norm l).length ≤ tri (d + 1) := Zwq (Zdc l) (Xz h.deg)
theorem Pq.of_norm {d K : Nat} {l : List Tm} (hd : DL d l) (hk : Hb K l) (hd12 : d ≤ 12) : Pq d K (norm l) :=
 ⟨Xz hd, Nat.le_trans (Zwq (Zdc l) (Xz hd)) (Nat.le_trans (Zb6 (show d + 1 ≤ 13 by omega)) dd), hk.nrm⟩
theorem Pq.nrm {d K : Nat} {l : List Tm} (h : Pq d K l) (hd12 : d ≤ 12) : Pq d K (norm l) := Pq.of_norm h.deg h.hgt hd12
theorem Pq.mono {d K d' K' : Nat} {l : List Tm} (h : Pq d K l) (hd : d ≤ d') (hk : K ≤ K') : Pq d' K' l := ⟨h.deg.mono hd, h.len, h.hgt.mono hk⟩
theorem Pq.raw {d k m : Nat} {l : List Tm} (hd : DL d l) (hk : KL k l) (hm : l.length ≤ m) (hm2 : m ≤ 100) : Pq d (m * (k + 1) + 1) l :=
 ⟨hd, Nat.le_trans hm hm2, (Hb.of_KL hk).mono (by have := Nat.mul_le_mul_right (k + 1) hm; omega)⟩
theorem Pq.add {da db Ka Kb : Nat} {a b : List Tm} (ha : Pq da Ka a) (hb : Pq db Kb b) (h1 : da ≤ 12) (h2 : db ≤ 12) : Pq (max da db) (Ka + Kb + 2) (norm (a ++ b)) :=
 Pq.of_norm (Zpb (ha.deg.mono (Nat.le_max_left _ _)) (hb.deg.mono (Nat.le_max_right _ _))) ((ha.hgt.append hb.hgt).mono oo) oo
theorem Pq.mul {da db Ka Kb : Nat} {a b : List Tm} (ha : Pq da Ka a) (hb : Pq db Kb b) (h1 : da + db ≤ 12) : Pq (da + db) (Ka + Kb) (norm (Gp a b)) :=
 Pq.of_norm (Zmv ha.deg hb.deg) (ha.hgt.mul hb.hgt) h1
theorem Pq.scale {d K Kc : Nat} {a : List Tm} {c : Rat} (ha : Pq d K a) (hc : Qa c ≤ Kc) (h1 : d ≤ 12) : Pq d (Kc + K + 1) (norm (Yk c a)) :=
 Pq.of_norm (Zpa c ha.deg) ((ha.hgt.scale hc).mono oo) h1
theorem Pq.dy {d K : Nat} {p : List Tm} (h : Pq d K p) (hd : d ≤ 12) : Pq d (K + 1) (norm (dyL p)) :=
 Pq.of_norm (DL_dyL h.deg) (h.hgt.mapi _ (fun t => t.j) (fun t _ => rfl) (fun t ht => by have := h.deg t ht; omega)) hd
theorem Qaq : norm [⟨0, 0, 1⟩] = [⟨0, 0, 1⟩] := Zqe ⟨fun t ht => by rw [List.mem_singleton] at ht; subst ht; simp only; grind, List.pairwise_singleton _ _⟩
theorem Zlq : norm [] = [] := Zqe ⟨(fun _ h => nomatch h), List.Pairwise.nil⟩
theorem Pq.nil (d : Nat) : Pq d 1 [] := ⟨(fun _ h => nomatch h), Nat.zero_le _, Hb.nil⟩
theorem Pq.one : Pq 0 4 [⟨0, 0, 1⟩] :=
 ⟨fun t ht => by rw [List.mem_singleton] at ht; subst ht; exact Nat.le_refl _, by simp, (Hb.of_KL (k := 2) (fun t ht => by rw [List.mem_singleton] at ht; subst ht; exact Gd)).mono ss⟩
theorem Pq.pow {d K : Nat} {a : List Tm} (ha : Pq d K a) : ∀ n, n * d ≤ 12 → Pq (n * d) (n * K + 4) (norm (Za8 a n))
 | 0, _ => by rw [Za8, Qaq, Nat.zero_mul, Nat.zero_mul]; exact Pq.one
 | n + 1, h => by
  rw [Nat.add_mul, Nat.one_mul] at h
  have ih := Pq.pow ha n oo
  have := Pq.mul ih ha oo
  rw [Gw ((Eqv.nrm (Za8 a n)).mul Eqv.rfl')] at this
  rw [Nat.add_mul, Nat.one_mul, Nat.add_mul, Nat.one_mul]
  exact this.mono (Nat.le_refl _) oo
theorem Pq.line {K : Nat} {a b c : Rat} (ha : Qa a ≤ K) (hb : Qa b ≤ K) (hc : Qa c ≤ K) : Pq 1 (3 * K + 4) (ln a b c) := by
 have h : KL K (ln a b c) := fun t ht => by
  simp only [ln, List.mem_cons, List.not_mem_nil, or_false] at ht
  rcases ht with rfl | rfl | rfl <;> assumption
 refine ⟨fun t ht => ?_, by simp [ln], (Hb.of_KL h).mono (by simp [ln]; omega)⟩
 simp only [ln, List.mem_cons, List.not_mem_nil, or_false] at ht
 rcases ht with rfl | rfl | rfl <;> simp
end
section
def KT (d K Kx : Nat) : Nat := K + d * (3 * Kx + 4) + 20
def KS (d K Kx : Nat) : Nat := tri (d + 1) * KT d K Kx + 1
theorem Pq.line_pow {K n : Nat} {a b c : Rat} (ha : Qa a ≤ K) (hb : Qa b ≤ K) (hc : Qa c ≤ K) (hn : n ≤ 12) : Pq n (n * (3 * K + 4) + 4) (norm (Za8 (ln a b c) n)) := by
 have h := Pq.pow (Pq.line ha hb hc) n oo
 rwa [Nat.mul_one] at h
def sbT (X Y : List Tm) (t : Tm) : List Tm := Yk t.c (Gp (Za8 X t.i) (Za8 Y t.j))
theorem Zrz (X Y : List Tm) (l : List Tm) (t : Tm) : sbL X Y (l ++ [t]) = sbL X Y l ++ sbT X Y t := by
 unfold sbL sbT; rw [List.flatMap_append]; simp
theorem Pq.sbT {d K Kx : Nat} {ax bx cx ay b cy : Rat} {t : Tm} (h1 : Qa ax ≤ Kx) (h2 : Qa bx ≤ Kx) (h3 : Qa cx ≤ Kx) (h4 : Qa ay ≤ Kx) (h5 : Qa b ≤ Kx) (h6 : Qa cy ≤ Kx)
  (hd : d ≤ 12) (ht : t.i + t.j ≤ d) (hK : Qa t.c ≤ K) : Pq d (KT d K Kx - 2) (norm (sbT (ln ax bx cx) (ln ay b cy) t)) := by
 have p1 := Pq.line_pow (n := t.i) h1 h2 h3 (show t.i ≤ 12 by omega)
 have p2 := Pq.line_pow (n := t.j) h4 h5 h6 (show t.j ≤ 12 by omega)
 have p3 := Pq.mul p1 p2 (show t.i + t.j ≤ 12 by omega)
 have p4 := Pq.scale p3 hK (show t.i + t.j ≤ 12 by omega)
 have e : norm (Go.Proofs.YtddhlkfpdjmplabGreatDoor.sbT (ln ax bx cx) (ln ay b cy) t) = norm (Yk t.c (norm (Gp (norm (Za8 (ln ax bx cx) t.i)) (norm (Za8 (ln ay b cy) t.j))))) := by
  refine (Gw ?_).symm
  exact ((Eqv.nrm _).trans ((Eqv.nrm _).mul (Eqv.nrm _))).scale t.c
 rw [e]
 refine p4.mono ht ?_
 have := Nat.mul_le_mul_right (3 * Kx + 4) ht
 rw [Nat.add_mul] at this
 unfold KT; omega
theorem Pq.sbl {d K Kx : Nat} {ax bx cx ay b cy : Rat} (h1 : Qa ax ≤ Kx) (h2 : Qa bx ≤ Kx) (h3 : Qa cx ≤ Kx) (h4 : Qa ay ≤ Kx) (h5 : Qa b ≤ Kx) (h6 : Qa cy ≤ Kx)
  (hd : d ≤ 12) {p : List Tm} (hD : DL d p) (hK : KL K p) : ∀ k, k ≤ p.length → Pq d (k * KT d K Kx + 1) (norm (sbL (ln ax bx cx) (ln ay b cy) (p.take k)))
 | 0, _ => by rw [List.take_zero, show sbL (ln ax bx cx) (ln ay b cy) [] = [] from rfl, Zlq, Nat.zero_mul]; exact Pq.nil d
 | k + 1, hk => by
  have ih := Pq.sbl h1 h2 h3 h4 h5 h6 hd hD hK k oo
  have hmem := getD_mem p (d := (⟨0, 0, 0⟩ : Tm)) (show k < p.length by omega)
  have pt := Pq.sbT (t := p.getD k ⟨0, 0, 0⟩) h1 h2 h3 h4 h5 h6 hd (hD _ hmem) (hK _ hmem)
  have pa := Pq.add ih pt hd hd
  have e : p.take (k + 1) = p.take k ++ [p.getD k ⟨0, 0, 0⟩] := by
   rw [List.take_add_one, List.getElem?_eq_getElem oo]; simp [List.getD, show k < p.length by omega]
  rw [e, Zrz, ← Gw ((Eqv.nrm _).append (Eqv.nrm _))]
  refine pa.mono oo ?_
  have : 20 ≤ KT d K Kx := by unfold KT; omega
  rw [Nat.add_mul]; omega
theorem Pq.shift {d K Kx : Nat} {ax bx cx ay b cy : Rat} {p : List Tm} (hp : Pq d K p) (h1 : Qa ax ≤ Kx) (h2 : Qa bx ≤ Kx) (h3 : Qa cx ≤ Kx) (h4 : Qa ay ≤ Kx) (h5 : Qa b ≤ Kx) (h6 : Qa cy ≤ Kx)
  (hd : d ≤ 12) : Pq d (KS d K Kx) (norm (shL p ax bx cx ay b cy)) := by
 have h := Pq.sbl h1 h2 h3 h4 h5 h6 hd (Xz hp.deg) hp.nsz (norm p).length (Nat.le_refl _)
 rw [List.take_length] at h
 unfold shL
 rw [← Gw (Eqv.sub Eqv.rfl' Eqv.rfl' (Eqv.nrm p))]
 exact h.mono (Nat.le_refl _) (by have := Nat.mul_le_mul_right (KT d K Kx) hp.nlen; unfold KS; omega)
def Zj9 (φ : Nat → Nat → Rat) (l : List Tm) : Rat := l.foldl (fun s t => s + t.c * φ t.i t.j) 0
theorem Zso (φ : Nat → Nat → Rat) : ∀ (l : List Tm) (s : Rat), l.foldl (fun s t => s + t.c * φ t.i t.j) s = s + lin φ l
 | [], s => by simp only [List.foldl_nil, lin]; grind
 | t :: l, s => by rw [List.foldl_cons, Zso φ l, lin]; grind
theorem Zqs (φ : Nat → Nat → Rat) (l : List Tm) : Zj9 φ l = lin φ l := by rw [Zj9, Zso]; grind
theorem Zi2 (φ : Nat → Nat → Rat) (l : List Tm) (t : Tm) : Zj9 φ (l ++ [t]) = Zj9 φ l + t.c * φ t.i t.j := by
 unfold Zj9; rw [List.foldl_append]; rfl
theorem Zec {φ : Nat → Nat → Rat} {K Kf : Nat} : ∀ {l : List Tm} (n : Nat), n ≤ l.length → KL K l → (∀ t ∈ l, Qa (φ t.i t.j) ≤ Kf) → Qa (Zj9 φ (l.take n)) ≤ 2 + n * (K + Kf + 1)
 | l, 0, _, _, _ => by rw [List.take_zero]; have := Xs; unfold Zj9; simp only [List.foldl_nil]; omega
 | l, n + 1, hn, hK, hf => by
  have ih := Zec n oo hK hf
  have hmem := getD_mem l (d := (⟨0, 0, 0⟩ : Tm)) (show n < l.length by omega)
  have e : l.take (n + 1) = l.take n ++ [l.getD n ⟨0, 0, 0⟩] := by
   rw [List.take_add_one, List.getElem?_eq_getElem oo]; simp [List.getD, show n < l.length by omega]
  rw [e, Zi2]
  have := Qt (Zj9 φ (l.take n)) ((l.getD n ⟨0, 0, 0⟩).c * φ (l.getD n ⟨0, 0, 0⟩).i (l.getD n ⟨0, 0, 0⟩).j)
  have := Zx (l.getD n ⟨0, 0, 0⟩).c (φ (l.getD n ⟨0, 0, 0⟩).i (l.getD n ⟨0, 0, 0⟩).j)
  have := hK _ hmem
  have := hf _ hmem
  rw [Nat.add_mul]; omega
def fq : Nat → Rat
 | 0 => 1
 | n + 1 => fq n * (((n + 1 : Nat) : Int) : Rat)
theorem Qbc : ∀ n, fq n ≠ 0
 | 0 => by rw [fq]; decide
 | n + 1 => by
  rw [fq]; intro h
  rcases Rat.mul_eq_zero.1 h with h | h
  · exact Qbc n h
  · exact Zfw n h
theorem up_fq (q : Rat) : ∀ p, upQ q p = q * fq p
 | 0 => by rw [upQ, fq]; grind
 | p + 1 => by rw [upQ, up_fq q p, fq]; grind
theorem Zx6 (q : Rat) : ∀ n, Zh2 q n = q / fq n
 | 0 => by rw [Zh2, fq]; grind
 | n + 1 => by
  have := Qbc n
  have := Zfw n
  have := Qbc (n + 1)
  rw [Zh2, Zx6 q n]
  rw [fq] at *
  grind
theorem bt_fq : ∀ i j : Nat, bt i j * fq (i + j + 1) = fq i * fq j := by
 have h0 : ∀ j : Nat, bt 0 j * fq (0 + j + 1) = fq 0 * fq j := fun j => by
  have h1 := Zl1 j 0
  have e : bt 0 j = lam j 0 := rfl
  rw [e, Nat.zero_add, fq, fq]; grind
 intro i
 induction i with
 | zero => exact h0
 | succ i ih =>
  intro j
  have h1 := (Zmn i j).1
  have h2 := ih j
  have e : fq (i + 1 + j + 1) = fq (i + j + 1) * (((i + j + 2 : Nat) : Int) : Rat) := by
   rw [show i + 1 + j + 1 = (i + j + 1) + 1 by omega, fq]
  have e2 : fq (i + 1) = fq i * (((i + 1 : Nat) : Int) : Rat) := rfl
  rw [e, e2]; grind
theorem Zlk (i j : Nat) : Zdt (i + j + 2) [i, j] = mu i j := by
 unfold Zdt
 rw [Zx6]
 simp only [List.foldl_cons, List.foldl_nil, up_fq]
 have h1 := mu_bt i j
 have h2 := bt_fq (i + 1) j
 have n1 := Zfw i
 have n2 := Qbc (i + j + 2)
 have e : fq (i + 1 + j + 1) = fq (i + j + 2) := by congr 1; omega
 have e2 : fq (i + 1) = fq i * (((i + 1 : Nat) : Int) : Rat) := rfl
 rw [e, e2] at h2
 have h3 : (((i + 1 : Nat) : Int) : Rat) * (mu i j * fq (i + j + 2) - fq i * fq j) = 0 := by grind
 rcases Rat.mul_eq_zero.1 h3 with h | h
 · exact absurd h n1
 · grind
theorem Zqw (i j : Nat) (hi : i ≤ 12) (hj : j ≤ 12) : Qa (Zdt (i + j + 2) [i, j]) ≤ 300 := by
 unfold Zdt
 have h1 := Zed ([i, j].foldl upQ 1) (i + j + 2) oo
 simp only [List.foldl_cons, List.foldl_nil] at *
 have h2 := Zg8 1 i oo
 have h3 := Zg8 (upQ 1 i) j oo
 have h4 := Gd
 omega
theorem Zxd (i j : Nat) (h : i + j ≤ 12) : Qa (mu i j) ≤ 300 := by rw [← Zlk]; exact Zqw i j oo oo
theorem Qa0 (i j : Nat) (h : i ≤ 12) : Qa (lam i j) ≤ 4 := Xy 1 ((i + 1 : Nat) : Int) oo oo oo oo
end
section
def SG (d K Kp : Nat) : Nat := 2 + tri (d + 1) * (KS d K (2 * Kp + 1) + 5)
def TR (d K Kp : Nat) : Nat := (8 * Kp + 5) + (2 + tri (d + 1) * (KS d K (2 * Kp + 1) + 301))
theorem Xa {K : Nat} {x y : Rat} (hx : Qa x ≤ K) (hy : Qa y ≤ K) : Qa (x - y) ≤ 2 * K + 1 := by have := Xu x y; omega
def PtK (K : Nat) (a : Pt) : Prop := Qa a.1 ≤ K ∧ Qa a.2 ≤ K
theorem PtK.mono {K K' : Nat} {a : Pt} (h : PtK K a) (hk : K ≤ K') : PtK K' a := ⟨Nat.le_trans h.1 hk, Nat.le_trans h.2 hk⟩
theorem Pq.seg {d K Kp : Nat} {p : List Tm} (hq : Pq d K p) (hd : d ≤ 12) {a b : Pt} (ha : PtK Kp a) (hb : PtK Kp b) (hk : 2 ≤ Kp) : Pq d (KS d K (2 * Kp + 1)) (norm (shL p (b.1 - a.1) 0 a.1 (b.2 - a.2) 0 a.2)) := by
 have h0 := Xs
 have h1 := ha.1
 have h2 := ha.2
 exact Pq.shift hq (Xa hb.1 ha.1) oo oo (Xa hb.2 ha.2) oo oo hd
theorem Qaf (p : List Tm) (a b : Pt) : Zj9 lam (norm (shL p (b.1 - a.1) 0 a.1 (b.2 - a.2) 0 a.2)) = Qck p a b := by rw [Zqs, Zcb]; rfl
theorem Zqv {K : Nat} {a b c : Pt} (ha : PtK K a) (hb : PtK K b) (hc : PtK K c) : Qa (twQ a b c) ≤ 8 * K + 5 := by
 have h1 := Xa hb.1 ha.1
 have h2 := Xa hc.2 ha.2
 have h3 := Xa hc.1 ha.1
 have h4 := Xa hb.2 ha.2
 have h5 := Zx (b.1 - a.1) (c.2 - a.2)
 have h6 := Zx (c.1 - a.1) (b.2 - a.2)
 have h7 := Xu ((b.1 - a.1) * (c.2 - a.2)) ((c.1 - a.1) * (b.2 - a.2))
 unfold twQ; omega
theorem Pq.triS {d K Kp : Nat} {p : List Tm} (hq : Pq d K p) (hd : d ≤ 12) {a b c : Pt} (ha : PtK Kp a) (hb : PtK Kp b) (hc : PtK Kp c) : Pq d (KS d K (2 * Kp + 1)) (norm (shL p (b.1 - a.1) (c.1 - a.1) a.1 (b.2 - a.2) (c.2 - a.2) a.2)) := by
 have h1 := ha.1
 have h2 := ha.2
 exact Pq.shift hq (Xa hb.1 ha.1) (Xa hc.1 ha.1) oo (Xa hb.2 ha.2) (Xa hc.2 ha.2) oo hd
theorem Zz7 (p : List Tm) (a b c : Pt) : twQ a b c * Zj9 mu (norm (shL p (b.1 - a.1) (c.1 - a.1) a.1 (b.2 - a.2) (c.2 - a.2) a.2)) = Zpn p a b c := by rw [Zqs, Zcb]; rfl
theorem Zxc {d K Kp : Nat} {p : List Tm} (hq : Pq d K p) (hd : d ≤ 12) {a b c : Pt} (ha : PtK Kp a) (hb : PtK Kp b) (hc : PtK Kp c) :
  Qa (Zj9 mu (norm (shL p (b.1 - a.1) (c.1 - a.1) a.1 (b.2 - a.2) (c.2 - a.2) a.2))) ≤ 2 + tri (d + 1) * (KS d K (2 * Kp + 1) + 301) := by
 have h := Pq.triS hq hd ha hb hc
 have hn := h.nrm hd
 rw [Znt] at hn
 have h1 : _ ≤ 2 + _ * (KS d K (2 * Kp + 1) + 301) := Zec (φ := mu) (Kf := 300) (norm (shL p (b.1 - a.1) (c.1 - a.1) a.1 (b.2 - a.2) (c.2 - a.2) a.2)).length (Nat.le_refl _) h.siz (fun t ht => Zxd _ _ (by have := h.deg t ht; omega))
 rw [List.take_length] at h1
 have hl := h.nlen
 rw [Znt] at hl
 have := Nat.mul_le_mul_right (KS d K (2 * Kp + 1) + 301) hl
 omega
def fanF (p : List Tm) (a : Pt) (l : List Pt) : Nat → Rat
 | 0 => 0
 | k + 1 => fanF p a l k + Zpn p a (l.getD k (0, 0)) (l.getD (k + 1) (0, 0))
end
section
theorem Vd {b off : Nat} (w : World) : (Instr.fieldAt 150 (.pointer (some ⟨b, off, none⟩)) 0).run Tryz.prog w = .ok (.pointer (some ⟨b, off + 0, none⟩)) w := by
 simp [go_sem]
theorem Zbs {c0 c1 c2 c3 c4 c5 c6 : Value} : Qv false 1 #[c0, c1, c2, c3, c4, c5, c6] 0 = some c0 := rfl
theorem Ys {b off : Nat} (w : World) : (Instr.fieldAt 150 (.pointer (some ⟨b, off, none⟩)) 1).run Tryz.prog w = .ok (.pointer (some ⟨b, off + 1, none⟩)) w := by
 simp [go_sem]
theorem Za4 {c0 c1 c2 c3 c4 c5 c6 : Value} : Qv false 1 #[c0, c1, c2, c3, c4, c5, c6] 1 = some c1 := rfl
theorem Zjv (x0 : Int) (x1 : Int) (w : World) : (Instr.buildSlice 67 2 [(0, .int .i64 x0), (1, .int .i64 x1)].toArray).run Tryz.prog w = .ok (.slice (some ⟨w.heap.size, 0, none⟩) 2 2) (w.alloc (.cells #[.int .i64 x0, .int .i64 x1] 3 (0, 0))) := by
 simp [go_sem]
theorem Kn {b off : Nat} (w : World) : (Instr.fieldAt 150 (.pointer (some ⟨b, off, none⟩)) 2).run Tryz.prog w = .ok (.pointer (some ⟨b, off + 2, none⟩)) w := by
 simp [go_sem]
theorem Za7 {c0 c1 c2 c3 c4 c5 c6 : Value} : Qv true 5 #[c0, c1, c2, c3, c4, c5, c6] 2 = some (.agg #[c2, c3, c4, c5, c6]) := rfl
theorem Jo (a : Option Addr) (n c : Nat) (w : World) (ty : TypeId) (cs : Array Bool) : (Go.builtin .len #[80] ty cs #[.slice a n c]).run Tryz.prog w = .ok (.value (.int .i64 n)) w := by
 simp [go_sem]
theorem Zgm (b off n c j : Nat) (h : j < n) (w : World) : (Instr.indexAt 80 (.slice (some ⟨b, off, none⟩) n c) (.int .i64 (j : Int))).run Tryz.prog w = .ok (.pointer (some ⟨b, off + j * 7, none⟩)) w := by
 simpa using Je runUnderlying80 sizeOf150 b off n c j h w
abbrev T0 : Tm := ⟨0, 0, 0⟩
abbrev Jb (t : Tm) : Value := .agg #[.int .i64 ((t.i : Nat) : Int), .int .i64 ((t.j : Nat) : Int), .int .u64 (Ze5 t.c.num.natAbs), .string (Zau t.c.num.natAbs), .bool (decide (t.c.num < 0)), .int .u64 (Ze5 (t.c.den - 1)), .string (Zau (t.c.den - 1))]
theorem Zd0 (w : World) : (zeroValue 150).run Tryz.prog w = .ok (Jb T0) w := zeroValue150 w
def Zz0 (s t : Tm) : Int := orI [Zrg ((s.i + s.j : Nat) : Int) ((t.i + t.j : Nat) : Int), Zrg ((s.j : Nat) : Int) ((t.j : Nat) : Int)]
theorem Zyj (i k : Int) : Zrg i k < 0 ↔ i < k := by unfold Zrg; split <;> (try split) <;> omega
theorem Qe0 (i k : Int) : Zrg i k = 0 ↔ i = k := by unfold Zrg; split <;> (try split) <;> omega
theorem Zqb (s t : Tm) : Zz0 s t < 0 ↔ ltT s t = true := by
 rw [Zea]
 unfold Zz0
 have h1 := Zyj ((s.i + s.j : Nat) : Int) ((t.i + t.j : Nat) : Int)
 have h2 := Qe0 ((s.i + s.j : Nat) : Int) ((t.i + t.j : Nat) : Int)
 have h3 := Zyj ((s.j : Nat) : Int) ((t.j : Nat) : Int)
 simp only [orI]
 split
 · omega
 ·
  split
  · omega
  · rename_i h4 h5; have h6 := Decidable.of_not_not h5; omega
theorem Qb4 (s t : Tm) (hs : s.i + s.j ≤ 1000000) (ht : t.i + t.j ≤ 1000000) : Yc Tryz.prog 119 [Jb s, Jb t] (.int .i64 (Zz0 s t)) := by
 refine fn_intro func119 rfl ntmps119 nb ?_
 intro S w0 a hS h
 refine gC h (zS (zx rfl fun b2 => zx rfl fun b3 => za rfl (zn (zs (yD Za [0, 1, 2, 3, 4, 5, 6, 7, 8, 9, 11, 12, 13, 14, 10, 15, 16, 17, 18] (Zc kk) (yp rfl (.fA rfl Vd) (yd rfl rfl mr isAgg3 sizeOf3 Zbs ?_))))))); clear h
 refine yp rfl (.fA rfl Ys) (yd rfl rfl mr isAgg3 sizeOf3 Za4 ?_)
 refine yp rfl (.pN (((s).i) + ((s).j)) (.add rfl rfl)) (yp rfl (.fA rfl Vd) (yd rfl rfl mr isAgg3 sizeOf3 Zbs ?_))
 refine yp rfl (.fA rfl Ys) (yd rfl rfl mr isAgg3 sizeOf3 Za4 ?_)
 refine yp rfl (.pN (((t).i) + ((t).j)) (.add rfl rfl)) (yp rfl (.fA rfl Ys) (yd rfl rfl mr isAgg3 sizeOf3 Za4 ?_))
 refine yp rfl (.fA rfl Ys) (yd rfl rfl mr isAgg3 sizeOf3 Za4 ?_)
 refine yv [_, _] rfl rfl call156 (Qdi (((((s).i) + ((s).j) : Nat) : Int)) (((((t).i) + ((t).j) : Nat) : Int))) (yv [_, _] rfl rfl call156 (Qdi ((((s).j : Nat) : Int)) ((((t).j : Nat) : Int))) ?_)
 refine Jv hS rfl kk [(_, _), (_, _)] rfl (Zjv _ _) (List.map enci [Zrg ((s.i + s.j : Nat) : Int) ((t.i + t.j : Nat) : Int), Zrg ((s.j : Nat) : Int) ((t.j : Nat) : Int)]) rfl dd ?_; intro b21
 refine yw [_] rfl rfl call155 (C_Or _ _ ([Zrg (((((s).i) + ((s).j) : Nat) : Int)) (((((t).i) + ((t).j) : Nat) : Int)), Zrg ((((s).j : Nat) : Int)) ((((t).j : Nat) : Int))]) nb) (yp rfl (.assign rfl) (yn (zt ?_))); intro a w h
 exact Zag h
theorem C_may (t : Tm) (ht : t.i + t.j ≤ 12) : Yc Tryz.prog 103 [Jb t] (.int .i64 0) := by
 refine fn_intro func103 rfl ntmps103 nb ?_
 intro S w0 a hS h
 refine gC h (zS (zx rfl fun b1 => za rfl (zn (zs (zb (zS (zp (.fA rfl Vd) (zd rfl mr isAgg3 sizeOf3 Zbs ?_))))))))
 refine zp (.lss rfl rfl) (zm rfl ?_); intro a w h
 refine Zi h (fun hc7 h => (by exfalso; have := of_decide_eq_true hc7; omega)) (fun hc7 h => ?_)
 refine gL h (zq 7 rfl rfl (.fA rfl Ys) ?_); clear h; intro a w h
 refine Zf 7 h rfl rfl (Qc h rfl mr isAgg3 sizeOf3 Za4 dd ?_); clear h; intro a h
 refine gL h (zq 7 rfl rfl (.lss rfl rfl) (zp (.pickF rfl rfl) (za rfl (zn ?_)))); clear h; intro a w h
 refine cW ?_
 refine Zb h rfl (fun hc3 => (by exfalso; have := of_decide_eq_true hc3; omega)) (fun hc3 => ?_)
 refine gC h (zS (zp (.fA rfl Vd) (zd rfl mr isAgg3 sizeOf3 Zbs ?_)))
 refine zp (.gtr rfl rfl) (zm rfl ?_); intro a w h
 refine Zi h (fun hc16 h => (by exfalso; have := of_decide_eq_true hc16; omega)) (fun hc16 h => ?_)
 refine gL h (zq 16 rfl rfl (.fA rfl Ys) ?_); clear h; intro a w h
 refine Zf 16 h rfl rfl (Qc h rfl mr isAgg3 sizeOf3 Za4 dd ?_); clear h; intro a h
 refine gL h (zq 16 rfl rfl (.fA rfl Vd) ?_); clear h; intro a w h
 refine Zf 16 h rfl rfl (Qc h rfl mr isAgg3 sizeOf3 Zbs dd ?_); clear h; intro a h
 refine gL h (zq 16 rfl rfl (.sub rfl rfl) (zq 16 rfl rfl (.gtr rfl rfl) (zp (.pickF rfl rfl) (za rfl (zn ?_))))); clear h; intro a w h
 refine cW ?_
 refine Zb h rfl (fun hc12 => (by exfalso; have := of_decide_eq_true hc12; omega)) (fun hc12 => ?_)
 refine gC h (zk (zS (za rfl (zn (zt ?_))))); clear h; intro a w h
 exact Zag h
theorem Qdf (t : Tm) : Yc Tryz.prog 117 [Jb t] (.bool (decide (t.c = 0))) := by
 refine fn_intro func117 rfl ntmps117 nb ?_
 intro S w0 a hS h
 refine gC h (zS (zx rfl fun b1 => za rfl (zn (zS (zp (.fA rfl Kn) (zd rfl mr isAgg64 sizeOf64 Za7 ?_))))))
 refine zv [_] rfl call40 (Zj6 _) (zp (.eql rfl rfl) (za rfl (zn (zt ?_)))); intro a w h
 refine Jr h (Ze h rfl (.tmp rfl)) ?_
 show Value.bool _ = Value.bool _; congr 1; rw [Bool.eq_iff_iff, beq_iff_eq, decide_eq_true_iff, Int.sign_eq_zero_iff_zero]; exact Rat.num_eq_zero
def Zqy : List Tm → Nat → Int
 | [], _ => -1
 | x :: l, i => if x.c = 0 then (i : Int) else Zqy l (i + 1)
theorem Zoa (l : List Tm) (i : Nat) (h : i < l.length) : Zqy (l.drop i) i = if (l.getD i T0).c = 0 then (i : Int) else Zqy (l.drop (i + 1)) (i + 1) := by
 rw [List.drop_eq_getElem_cons h, Zqy]; simp [List.getD, h]
theorem Zoc : ∀ (l : List Tm) (i : Nat), Zqy l i = -1 → l.filter (fun t => decide (t.c ≠ 0)) = l
 | [], _, _ => rfl
 | x :: l, i, h => by
  rw [Zqy] at h
  split at h
  · omega
  · rename_i hx; rw [List.filter_cons, if_pos (by simpa using hx), Zoc l (i + 1) h]
theorem Zob : ∀ (l : List Tm) (i k : Nat), Zqy l i = (k : Int) → i ≤ k ∧ k - i < l.length ∧ (l.getD (k - i) T0).c = 0 ∧ (l.take (k - i)).filter (fun t => decide (t.c ≠ 0)) = l.take (k - i)
 | [], i, k, h => by rw [Zqy] at h; omega
 | x :: l, i, k, h => by
  rw [Zqy] at h
  split at h
  ·
   rename_i hx
   have : k = i := oo
   subst this
   simp [hx]
  ·
   rename_i hx
   obtain ⟨h1, h2, h3, h4⟩ := Zob l (i + 1) k h
   have e : k - i = (k - (i + 1)) + 1 := oo
   rw [e]
   refine ⟨oo, by simp; omega, by simpa using h3, ?_⟩
   rw [List.take_succ_cons, List.filter_cons, if_pos (by simpa using hx), h4]
theorem Qce (b c : Nat) (p : List Tm) (R : List Value) (σ : List (Nat × Obj)) (Φ : List Qn) (hn : p.length ≤ 1000000) :
  Zm4 Tryz.prog 152 [.slice (some ⟨b, 0, none⟩) p.length c, .func (.func 117) #[] #[]] ((b, .cells (cellsOf Jb p ++ R).toArray 150 (0, 0)) :: σ) Φ (fun v σ' Φ' => v = .int .i64 (Zqy p 0) ∧ σ' = ((b, .cells (cellsOf Jb p ++ R).toArray 150 (0, 0)) :: σ) ∧ Φ' = Φ) := by
 refine fn_introM func152 rfl ntmps152 nb ?_
 intro S w0 a w hS h
 refine gC h (zS (za rfl (zn (zs (zS (zm rfl (zp (.builtin [_] rfl (Jo _ _ _)) (zm rfl (zn (zb ?_)))))))))); clear h; intro a w h
 refine Zd (fun (i : Nat) a w => i ≤ p.length ∧ (Zqy p 0 = Zqy (p.drop i) i) ∧ St 19 S w0 [(0, .slice (some ⟨b, 0, none⟩) p.length c), (1, .func (.func 117) #[] #[]), (7, nI p.length), (8, nI i)] ((b, .cells (cellsOf Jb (p) ++ R).toArray 150 (0, 0)) :: σ) (Φ) a w) (fun i => p.length - i) 0 (⟨Nat.zero_le _, rfl, by exact (h).sub sA⟩) ?_; clear h
 rintro i a w ⟨hi_i, hinv_i, h⟩
 refine gC h (zS (zp (.lss rfl rfl) (zn (zs ?_)))); clear h; intro a w h
 refine Zb h rfl (fun hc9 => ?_) (fun hc9 => ?_)
 ·
  skip
  have hlt_i : i < p.length := dT hc9
  refine gC h (zk (zs (zb (zS (zm rfl (za rfl (zn (zS (zm rfl (zm rfl (zm rfl (zp (.indexAddr rfl rfl (Zgm _ _ _ _ _ oo)) (zd rfl mm isAgg150 sizeOf150 (Ziq (k := 7) (fun _ => rfl) ((fun _ => rfl)) p R T0 i oo) ?_))))))))))))); clear h; intro a w h
  refine Zl (Xr h (fs := []) (cs := []) rfl (vs := [_]) rfl call117 (Qdf (p.getD i T0)) dd ?_); clear h; intro a w h
  refine Zi h (fun hc16 h => ?_) (fun hc16 h => ?_)
  ·
   skip
   refine wpList_nil ?_
   refine cW ?_
   refine Qf h rfl ?_
   refine gC h (zS (zm rfl (za rfl (zn (zt ?_))))); clear h; intro a w h
   refine Qbj h (Ze h rfl (.tmp rfl)) ⟨by rw [hinv_i, Zoa p i hlt_i, if_pos (of_decide_eq_true hc16)], rfl, rfl⟩ (List.Sublist.refl _) (fun _ h => h)
  ·
   skip
   refine wpList_nil ?_
   refine cW ?_
   refine Zn h rfl ?_
   refine gC h (zk (zr (zp (.pN (i + 1) (.add rfl rfl)) (zm rfl (zn ?_))))); clear h; intro a w h
   exact ⟨i + 1, ⟨oo, by rw [hinv_i, Zoa p i hlt_i, if_neg (of_decide_eq_false hc16)], h.sub sA⟩, oo⟩
 ·
  skip
  have heq_i : p.length = i := dF hc9
  subst heq_i
  refine gC h (ze (zS (za rfl (zn (zt ?_))))); clear h; intro a w h
  refine Qbj h (Ze h rfl (.tmp rfl)) ⟨by rw [hinv_i, List.drop_length]; rfl, rfl, rfl⟩ (List.Sublist.refl _) (fun _ h => h)
end
section
theorem Gs {c0 c1 c2 c3 c4 c5 c6 v0 v1 v2 v3 v4 v5 v6 : Value} : Qr #[c0, c1, c2, c3, c4, c5, c6] 0 [v0, v1, v2, v3, v4, v5, v6] = #[v0, v1, v2, v3, v4, v5, v6] := by kernel_rfl
theorem Zgb {c0 c1 c2 c3 c4 c5 c6 : Value} : Qv true 7 #[c0, c1, c2, c3, c4, c5, c6] 0 = some (.agg #[c0, c1, c2, c3, c4, c5, c6]) := rfl
theorem slo_80 (b off n c lo : Nat) (h1 : lo ≤ n) (w : World) : (Instr.sliceAt 80 (.slice (some ⟨b, off, none⟩) n c) (some (.int .i64 (lo : Int))) none none).run Tryz.prog w = .ok (.slice (some ⟨b, if c = lo then off else off + lo * 7, none⟩) (n - lo) (c - lo)) w := Zbp runUnderlying80 sizeOf150 b off n c lo h1 w
theorem slh_80 (a : Option Addr) (n c j : Nat) (h : j ≤ c) (w : World) : (Instr.sliceAt 80 (.slice a n c) none (some (.int .i64 (j : Int))) none).run Tryz.prog w = .ok (.slice a j c) w := by
 exact Zd4 runUnderlying80 sizeOf150 a n c j h w
theorem Zs0 : ∀ (l : List Tm) (i : Nat), Zqy l i ≠ -1 → ∃ k : Nat, Zqy l i = (k : Int)
 | [], _, h => absurd rfl h
 | x :: l, i, h => by
  rw [Zqy] at h ⊢
  split
  · exact ⟨i, rfl⟩
  · rename_i hx; rw [if_neg hx] at h; exact Zs0 l (i + 1) h
theorem take_snoc (l : List Tm) {j : Nat} (h : j < l.length) : l.take (j + 1) = l.take j ++ [l.getD j T0] := by
 rw [List.take_add_one, List.getElem?_eq_getElem h]; simp [List.getD, h]
theorem getD_drop (l m : List Tm) {j : Nat} (h : l.drop j = m.drop j) : l.getD j T0 = m.getD j T0 := by
 have := congrArg (fun x => x[0]?) h
 simp only [List.getElem?_drop, Nat.add_zero] at this
 simp only [List.getD]; rw [this]
theorem Qbq {p q : List Tm} {i j : Nat} (hq : q.length = p.length ∧ i < j ∧ q.take i = (p.take j).filter (fun t => decide (t.c ≠ 0)) ∧ q.drop j = p.drop j) (hj : j < p.length) (hc : (q.getD j T0).c = 0) :
  q.length = p.length ∧ i < j + 1 ∧ q.take i = (p.take (j + 1)).filter (fun t => decide (t.c ≠ 0)) ∧ q.drop (j + 1) = p.drop (j + 1) := by
 obtain ⟨h1, h2, h3, h4⟩ := hq
 have hg := getD_drop _ _ h4
 refine ⟨h1, oo, ?_, ?_⟩
 · rw [take_snoc p hj, List.filter_append, ← h3, ← hg, List.filter_cons, if_neg (by simpa using hc)]; simp
 ·
  have := congrArg (List.drop 1) h4
  rw [List.drop_drop, List.drop_drop] at this; exact this
theorem Qbr {p q : List Tm} {i j : Nat} (hq : q.length = p.length ∧ i < j ∧ q.take i = (p.take j).filter (fun t => decide (t.c ≠ 0)) ∧ q.drop j = p.drop j) (hj : j < p.length) (hc : (q.getD j T0).c ≠ 0) :
  (q.set i (q.getD j T0)).length = p.length ∧ i + 1 < j + 1 ∧ (q.set i (q.getD j T0)).take (i + 1) = (p.take (j + 1)).filter (fun t => decide (t.c ≠ 0)) ∧ (q.set i (q.getD j T0)).drop (j + 1) = p.drop (j + 1) := by
 obtain ⟨h1, h2, h3, h4⟩ := hq
 have hg := getD_drop _ _ h4
 refine ⟨by rw [List.length_set, h1], oo, ?_, ?_⟩
 ·
  rw [take_snoc (q.set i (q.getD j T0)) (by rw [List.length_set]; omega), take_snoc p hj, List.filter_append, ← h3, ← hg, List.filter_cons, if_pos (by simpa using hc)]
  rw [List.take_set_of_le (Nat.le_refl _)]
  congr 2
  simp only [List.getD, List.getElem?_set, if_pos rfl, if_pos (show i < q.length by omega)]; simp
 ·
  rw [List.drop_set_of_lt oo]
  have := congrArg (List.drop 1) h4
  rw [List.drop_drop, List.drop_drop] at this; exact this
theorem Xx (t : Tm) : (Jb t).cells.size = 7 := rfl
theorem Zyl {q : List Tm} {n i : Nat} (R : List Value) (hq : q.length = n) (hi : i ≤ n) :
  Qr (cellsOf Jb q ++ R).toArray (0 + i * 7) (Ze2 (n - i) (Jb T0).cells.toList) = (cellsOf Jb (q.take i) ++ (Ze2 (n - i) (Jb T0).cells.toList ++ R)).toArray := by
 have e : cellsOf Jb q = cellsOf Jb (q.take i) ++ cellsOf Jb (q.drop i) := by rw [← Zo, List.take_append_drop]
 have hl : (cellsOf Jb (q.take i)).length = i * 7 := by rw [cellsOf_length Xx]; simp [hq, Nat.min_eq_left hi]
 have := Zaf (Ze2 (n - i) (Jb T0).cells.toList) (cellsOf Jb (q.take i)) (cellsOf Jb (q.drop i)) R (by
  rw [Zah, cellsOf_length Xx, List.length_drop, hq]; rfl)
 rw [e, Nat.zero_add, ← hl, this, List.append_assoc]
theorem Qbv {q : List Tm} {n i : Nat} (R : List Value) (hq : q.length = n) (hi : i ≤ n) : 0 + i * 7 + (n - i) * (Jb T0).cells.size ≤ (cellsOf Jb q ++ R).toArray.size := by
 show 0 + i * 7 + (n - i) * 7 ≤ (cellsOf Jb q ++ R).length
 rw [List.length_append, cellsOf_length Xx, hq]; omega
theorem Qet {p q : List Tm} {i j : Nat} (hq : q.length = p.length ∧ i < j ∧ q.take i = (p.take j).filter (fun t => decide (t.c ≠ 0)) ∧ q.drop j = p.drop j) (hj : j = p.length) :
  q.take i = p.filter (fun t => decide (t.c ≠ 0)) ∧ i = (p.filter (fun t => decide (t.c ≠ 0))).length := by
 obtain ⟨h1, h2, h3, h4⟩ := hq
 have e : q.take i = p.filter (fun t => decide (t.c ≠ 0)) := by rw [h3, hj, List.take_length]
 refine ⟨e, ?_⟩
 rw [← e, List.length_take]; omega
theorem Zzu (b c : Nat) (p : List Tm) (R : List Value) (σ : List (Nat × Obj)) (Φ : List Qn) (hn : p.length ≤ 1000000) (hpc : p.length ≤ c) :
  Zm4 Tryz.prog 116 [.slice (some ⟨b, 0, none⟩) p.length c, .func (.func 117) #[] #[]] ((b, .cells (cellsOf Jb p ++ R).toArray 150 (0, 0)) :: σ) Φ
   (fun v σ' Φ' => v = .slice (some ⟨b, 0, none⟩) (p.filter (fun t => decide (t.c ≠ 0))).length c ∧ Φ' = Φ ∧ ∃ R' : List Value, (cellsOf Jb (p.filter (fun t => decide (t.c ≠ 0))) ++ R').length = (cellsOf Jb p ++ R).length ∧ σ' = (b, .cells (cellsOf Jb (p.filter (fun t => decide (t.c ≠ 0))) ++ R').toArray 150 (0, 0)) :: σ) := by
 refine fn_introM func116 rfl ntmps116 nb ?_
 intro S w0 a w hS h
 refine gC h (zS (za rfl (zn (zS (zm rfl (zm rfl ?_)))))); clear h; intro a w h
 refine Zl (Kl h hS (vs := [_, _]) rfl call152 (Qce b c p R σ Φ hn) (List.Perm.refl _) ss ss ?_); clear h; rintro v10 σ10 Ψ10 a w ⟨rfl, rfl, hΦ10⟩ h
 rw [hΦ10] at h
 refine gL h (za rfl (zn (zs (zS (zm rfl (zp (.eql rfl rfl) (zn ?_))))))); clear h; intro a w h
 refine cW ?_
 refine Zb h rfl (fun hc12 => ?_) (fun hc12 => ?_)
 ·
  skip
  have hn0 := Zoc p 0 (eq_of_beq hc12)
  refine gC h (zS (zm rfl (za rfl (zn (zt ?_))))); clear h; intro a w h
  refine Qbj h (Ze h rfl (.tmp rfl)) ⟨by rw [hn0], rfl, R, by rw [hn0], by rw [hn0]⟩ (List.Sublist.refl _) (fun _ h => h)
 ·
  skip
  obtain ⟨k, hk⟩ := Zs0 p 0 (fun e => by rw [e] at hc12; exact absurd hc12 dd)
  rw [hk] at h
  obtain ⟨hk1, hk2, hk3, hk4⟩ := Zob p 0 k hk
  simp only [Nat.sub_zero] at hk2 hk3 hk4
  refine gC h (zk (zs (zS (zm rfl (zp (.pN (k + 1) (.add rfl rfl)) (za rfl (zn (zb ?_)))))))); clear h; intro a w h
  refine Zd (fun (m : Nat) a w => m ≤ (p.length - (k + 1)) ∧ ∃ (q : List Tm) (i : Nat), (q.length = p.length ∧ i < k + 1 + m ∧ q.take i = (p.take (k + 1 + m)).filter (fun t => decide (t.c ≠ 0)) ∧ q.drop (k + 1 + m) = p.drop (k + 1 + m)) ∧ St 42 S w0 [(0, .slice (some ⟨b, 0, none⟩) p.length c), (1, .func (.func 117) #[] #[]), (5, nI i), (6, nI (k + 1 + m)), (15, nI (k + 1))] ((b, .cells (cellsOf Jb (q) ++ R).toArray 150 (0, 0)) :: σ) (Φ) a w) (fun m => (p.length - (k + 1)) - m) 0 (⟨Nat.zero_le _, p, k, ⟨rfl, oo, by rw [Nat.add_zero, take_snoc p oo, List.filter_append, hk4, List.filter_cons, if_neg (by simpa using hk3)]; simp, rfl⟩, by exact (h).sub sA⟩) ?_; clear h
  rintro m a w ⟨hi_m, q, i, hq, h⟩
  refine gC h (zs (zS (zm rfl (zm rfl (zp (.builtin [_] rfl (Jo _ _ _)) (zp (.lss rfl rfl) (zn ?_))))))); clear h; intro a w h
  refine cW ?_
  refine Zb h rfl (fun hc19 => ?_) (fun hc19 => ?_)
  ·
   skip
   have hlt_m : m < (p.length - (k + 1)) := dT hc19
   have hq1 := hq.1
   have hq2 := hq.2.1
   refine gC h (zk (zs (zb (zS (zm rfl (zm rfl (zp (.indexAddr rfl rfl (Zgm _ _ _ _ _ oo)) (zd rfl mm isAgg150 sizeOf150 (Ziq (k := 7) (fun _ => rfl) ((fun _ => rfl)) q R T0 (k + 1 + m) oo) ?_))))))))
   refine zz Zd0 fun b7 => zt' rfl rfl Gs uu sizeOf150 rfl nb rfl ?_
   refine zn (zS (zm rfl (zd rfl mr isAgg150 sizeOf150 Zgb ?_))); intro a w h
   refine Zl (Xr h (fs := []) (cs := []) rfl (vs := [_]) rfl call117 (Qdf (q.getD (k + 1 + m) T0)) dd ?_); clear h; intro a w h
   refine gL h (zp (.unOp rfl (Yu _)) (zn ?_)); clear h; intro a w h
   refine cW ?_
   refine Zb h rfl (fun hc29 => ?_) (fun hc29 => ?_)
   ·
    skip
    refine gC h (zS (zm rfl (zm rfl (zd rfl mr isAgg150 sizeOf150 Zgb ?_))))
    refine zp (.indexAddr rfl rfl (Zgm _ _ _ _ _ oo)) (zt' (b := b) (cs := (cellsOf Jb q ++ R).toArray) (cs' := (cellsOf Jb (q.set i (q.getD (k + 1 + m) T0)) ++ R).toArray) (v := Jb (q.getD (k + 1 + m) T0)) rfl rfl (Zt4 (k := 7) (fun _ => rfl) q R i oo (q.getD (k + 1 + m) T0)) uu sizeOf150 rfl (Zjp (k := 7) (fun _ => rfl) q R i oo) rfl ?_)
    refine zn (zr (zm rfl (zp (.pN (i + 1) (.add rfl rfl)) (za rfl (zn (zr (zm rfl (zp (.pN ((k + 1 + m) + 1) (.add rfl rfl)) (za rfl (zn ?_)))))))))); intro a w h
    exact ⟨m + 1, ⟨oo, q.set i (q.getD (k + 1 + m) T0), i + 1, Qbr (j := k + 1 + m) hq oo (by simpa using hc29), by exact (h.drop sl).sub sA⟩, oo⟩
   ·
    skip
    refine gC h (zk (zr (zm rfl (zp (.pN ((k + 1 + m) + 1) (.add rfl rfl)) (za rfl (zn ?_)))))); clear h; intro a w h
    exact ⟨m + 1, ⟨oo, q, i, Qbq (j := k + 1 + m) hq oo (by simpa using hc29), by exact (h.drop sl).sub sA⟩, oo⟩
  ·
   skip
   have heq_m : (p.length - (k + 1)) = m := dF hc19
   have hq1 := hq.1
   have hq2 := hq.2.1
   obtain ⟨hq3, hq4⟩ := Qet hq oo
   refine gC h (ze (zS (zm rfl (zm rfl (zp (Pure1.cast (v' := .slice (some ⟨b, 0 + i * 7, none⟩) (p.length - i) (c - i)) (.slice rfl (some _) none none rfl rfl rfl (slo_80 _ _ _ _ _ oo)) (by rw [if_neg oo])) ?_))))); clear h; intro a w h
   refine Zl (Qao h rfl oo runUnderlying80 Zd0 dd (Qbv R hq1 oo) rfl (Zyl R hq1 oo) uu ?_); clear h; intro a w h
   refine gL h (zn (zS (zm rfl (zm rfl (zp (.slice rfl none (some _) none rfl rfl rfl (slh_80 _ _ _ _ oo)) (za rfl (zn (zt ?_)))))))); clear h; intro a w h
   rw [hq3] at h
   refine Qbj h (Ze h rfl (.tmp rfl)) ⟨by rw [← hq4], rfl, _, ?_, rfl⟩ (by repeat (first | exact List.Sublist.refl _ | apply List.Sublist.cons)) (fun _ h => h)
   simp only [List.length_append, cellsOf_length Xx, Zah, Array.length_toList, Xx]
   rw [← hq4]; omega
end
end Go.Proofs.YtddhlkfpdjmplabGreatDoor
