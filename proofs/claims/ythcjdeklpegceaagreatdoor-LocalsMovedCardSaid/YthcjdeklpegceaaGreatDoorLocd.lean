/- Walks of functions. By an AI agent. -/
import Derived.Test.YthcjdeklpegceaaGreatDoorPolyse
import Derived.Test.YthcjdeklpegceaaGreatDoorFxI
set_option linter.unusedVariables false
set_option linter.unusedSimpArgs false
set_option maxRecDepth 4000
namespace Go.Proofs.YthcjdeklpegceaaGreatDoor
open Go Go.Proofs Go.Fx Tryz
attribute [local irreducible] Oper.wp Code.wp wpList Fx.Head wpOp Qc
section
def crQ (u v : Pt) : Rat := u.1 * v.2 - u.2 * v.1
def Jk (a b : Pt) : Pt := (a.1 - b.1, a.2 - b.2)
def Zth (a b : Pt) : Pt := (a.1 + b.1, a.2 + b.2)
def Zg5 (a : Pt) (k : Rat) : Pt := (a.1 * k, a.2 * k)
def Gg (a b : Pt) : Rat := a.1 * b.1 + a.2 * b.2
def twP (a b c : Pt) : Rat := crQ (Jk b a) (Jk c a)
def grP (e f : Pt) (t : Rat) : Pt := (-((Jk e f).2) / t, (Jk e f).1 / t)
def Zb (a b c : Pt) : Pt × Pt × Pt := (grP c b (twP a b c), grP a c (twP a b c), grP b a (twP a b c))
def Zan (a b c p : Pt) : Rat × Rat × Rat := (twP p b c / twP a b c, twP a p c / twP a b c, twP a b p / twP a b c)
def vx (a b c : Pt) (s t : Rat) : Rat := (b.1 - a.1) * s + (c.1 - a.1) * t + a.1
def vy (a b c : Pt) (s t : Rat) : Rat := (b.2 - a.2) * s + (c.2 - a.2) * t + a.2
theorem Qcw {a b c : Pt} (h : twP a b c ≠ 0) (s t : Rat) :
  (Zan a b c (0, 0)).1 + ((Zb a b c).1.1 * vx a b c s t + (Zb a b c).1.2 * vy a b c s t) = 1 - s - t ∧
  (Zan a b c (0, 0)).2.1 + ((Zb a b c).2.1.1 * vx a b c s t + (Zb a b c).2.1.2 * vy a b c s t) = s ∧
  (Zan a b c (0, 0)).2.2 + ((Zb a b c).2.2.1 * vx a b c s t + (Zb a b c).2.2.2 * vy a b c s t) = t := by
 have hi : twP a b c * (twP a b c)⁻¹ = 1 := Rat.mul_inv_cancel _ h
 simp only [Zan, Zb, grP, Rat.div_def]
 generalize (twP a b c)⁻¹ = I at hi ⊢
 simp only [twP, crQ, Jk, vx, vy] at hi ⊢
 refine ⟨?_, ?_, ?_⟩ <;> grind
structure Pw where
 i : Nat
 j : Nat
 k : Nat
 c : Rat
def Gi (c : Int) (l : List Nat) : Pw := ⟨l.count 0, l.count 1, l.count 2, (c : Rat)⟩
def sdA : Nat → Nat
 | 0 => 1
 | 1 => 2
 | _ => 0
def sdB : Nat → Nat
 | 0 => 2
 | 1 => 0
 | _ => 1
def Qw (o n : Nat) : List Pw := if o = 1 then [Gi 1 [n]] else if n < 3 then [Gi 2 [n, n], Gi (-1) [n]] else [Gi 4 [sdA (n - 3), sdB (n - 3)]]
def Jj (o : Nat) : Nat := if o = 1 then 3 else 6
def exP (p : Pw) : Nat → Nat
 | 0 => p.i
 | 1 => p.j
 | _ => p.k
def dnP (b : Nat) (p : Pw) : Pw := match b with
 | 0 => ⟨p.i - 1, p.j, p.k, p.c * ((p.i : Int) : Rat)⟩
 | 1 => ⟨p.i, p.j - 1, p.k, p.c * ((p.j : Int) : Rat)⟩
 | _ => ⟨p.i, p.j, p.k - 1, p.c * ((p.k : Int) : Rat)⟩
def slp (b : Nat) (l : List Pw) : List Pw := (l.filter (fun p => decide (exP p b ≠ 0))).map (dnP b)
def tgS (p : Pw) (s : Rat) (q : Pw) : Rat := s + p.c * q.c * Zdv (p.i + q.i) (p.j + q.j) (p.k + q.k)
def tgI (b : List Pw) (s : Rat) (p : Pw) : Rat := b.foldl (tgS p) s
def tgQ (a b : List Pw) : Rat := a.foldl (tgI b) 0
def Zch (o n m : Nat) : Rat := tgQ (Qw o n) (Qw o m)
def Zl (o n m i k : Nat) : Rat := tgQ (slp i (Qw o n)) (slp k (Qw o m))
theorem Zxx (f g : Nat → Rat) : (List.range 9).foldl (fun s t => s + f t * g t) 0 = f 0 * g 0 + f 1 * g 1 + f 2 * g 2 + f 3 * g 3 + f 4 * g 4 + f 5 * g 5 + f 6 * g 6 + f 7 * g 7 + f 8 * g 8 := by
 simp only [List.range, List.range.loop, List.foldl_cons, List.foldl_nil]; grind
def stE (o : Nat) (B : List Rat) (n m : Nat) : Rat := (List.range 9).foldl (fun s t => s + Zl o n m (t / 3) (t % 3) * B.getD t 0) 0
def Xe (k : Rat × Rat × Rat) (g : Pt) : Pt := (k.1 * g.1 + k.2.1 * g.2, k.2.1 * g.1 + k.2.2 * g.2)
def Zvy : Rat := ((1 : Int) : Rat) / ((2 : Int) : Rat)
def Zw (a b c : Pt) : Rat := twP a b c * Zvy
def byP (k : Rat × Rat × Rat) (A : Rat) (gi gj : Pt) : Rat := A * Gg (Xe k gj) gi
def byL (k : Rat × Rat × Rat) (A : Rat) (g : Pt × Pt × Pt) : List Rat :=
 [byP k A g.1 g.1, byP k A g.1 g.2.1, byP k A g.1 g.2.2, byP k A g.2.1 g.1, byP k A g.2.1 g.2.1, byP k A g.2.1 g.2.2, byP k A g.2.2 g.1, byP k A g.2.2 g.2.1, byP k A g.2.2 g.2.2]
theorem Qak (o : Nat) (k : Rat × Rat × Rat) (A : Rat) (g : Pt × Pt × Pt) (n m : Nat) : stE o (byL k A g) n m =
  Zl o n m 0 0 * byP k A g.1 g.1 + Zl o n m 0 1 * byP k A g.1 g.2.1 + Zl o n m 0 2 * byP k A g.1 g.2.2 +
  Zl o n m 1 0 * byP k A g.2.1 g.1 + Zl o n m 1 1 * byP k A g.2.1 g.2.1 + Zl o n m 1 2 * byP k A g.2.1 g.2.2 +
  Zl o n m 2 0 * byP k A g.2.2 g.1 + Zl o n m 2 1 * byP k A g.2.2 g.2.1 + Zl o n m 2 2 * byP k A g.2.2 g.2.2 := by
 rw [stE, Zxx (fun t => Zl o n m (t / 3) (t % 3)) (fun t => (byL k A g).getD t 0)]; rfl
def Gu (at' : Rat) (g : Pt) : List Tm := norm (norm [⟨0, 0, at'⟩] ++ norm (norm (Ja g.1 [⟨1, 0, 1⟩]) ++ norm (Ja g.2 [⟨0, 1, 1⟩])))
theorem Zhr (q : Rat) (g : Pt) (x y : Rat) : evP (Gu q g) x y = q + (g.1 * x + g.2 * y) := by
 unfold Gu
 simp only [Zew, Zcs, Zi1]
 simp only [evP, lin, Rat.pow_zero, Rat.pow_succ]; grind
def mulN (v l : List Tm) : Nat → List Tm
 | 0 => v
 | n + 1 => norm (Jh (mulN v l n) l)
def pwP (l0 l1 l2 : List Tm) (p : Pw) : List Tm := mulN (mulN (mulN (norm [⟨0, 0, p.c⟩]) l0 p.i) l1 p.j) l2 p.k
def Zjf (l0 l1 l2 : List Tm) (ps : List Pw) : List Tm := ps.foldl (fun s p => norm (s ++ pwP l0 l1 l2 p)) []
def combL (v : List Rat) (l : List (List Tm)) : Nat → List Tm
 | 0 => []
 | k + 1 => norm (combL v l k ++ norm (Ja (v.getD k 0) (l.getD k [])))
theorem tri_of {P q : List Tm} {a b c : Pt} (h : ∀ s t, evP P (vx a b c s t) (vy a b c s t) = evP q s t) : Zaw P a b c = twQ a b c * lin mu q := by
 unfold Zaw
 rw [Eqv.of_ev (l := shL P (b.1 - a.1) (c.1 - a.1) a.1 (b.2 - a.2) (c.2 - a.2) a.2) (m := q) (fun s t => by rw [Qar]; exact h s t)]
def Zdr (f : Nat → Rat) : Nat → Rat
 | 0 => 0
 | n + 1 => Zdr f n + f n
theorem Za3 {f g : Nat → Rat} : ∀ {n}, (∀ i, i < n → f i = g i) → Zdr f n = Zdr g n
 | 0, _ => rfl
 | n + 1, h => by rw [Zdr, Zdr, Za3 (fun i hi => h i (Nat.lt_succ_of_lt hi)), h n (Nat.lt_succ_self _)]
theorem Zp3 (f g : Nat → Rat) : ∀ n, Zdr (fun i => f i + g i) n = Zdr f n + Zdr g n
 | 0 => by simp only [Zdr]; grind
 | n + 1 => by simp only [Zdr, Zp3 f g n]; grind
theorem Zmj (c : Rat) (f : Nat → Rat) : ∀ n, Zdr (fun i => f i * c) n = Zdr f n * c
 | 0 => by simp only [Zdr]; grind
 | n + 1 => by simp only [Zdr, Zmj c f n]; grind
theorem Zmk (f : Nat → Rat) : ∀ n, ((List.range n).map f).foldl (· + ·) 0 = Zdr f n
 | 0 => rfl
 | n + 1 => by rw [List.range_succ, List.map_append, List.foldl_append, Zmk f n]; rfl
def xe : Nat → Nat × Nat
 | 0 => (0, 0)
 | 1 => (1, 0)
 | 2 => (0, 1)
 | 3 => (2, 0)
 | 4 => (1, 1)
 | _ => (0, 2)
def bqF (x y : Nat → Rat) : Rat := Zdr (fun i => Zdr (fun j => x i * y j * mu ((xe i).1 + (xe j).1) ((xe i).2 + (xe j).2)) 6) 6
def qL (x : Nat → Rat) : List Tm := [⟨0, 0, x 0⟩, ⟨1, 0, x 1⟩, ⟨0, 1, x 2⟩, ⟨2, 0, x 3⟩, ⟨1, 1, x 4⟩, ⟨0, 2, x 5⟩]
def evQ (x : Nat → Rat) (s t : Rat) : Rat := x 0 + x 1 * s + x 2 * t + x 3 * (s * s) + x 4 * (s * t) + x 5 * (t * t)
theorem ev_qL (x : Nat → Rat) (s t : Rat) : evP (qL x) s t = evQ x s t := by simp only [evP, qL, lin, evQ, Rat.pow_zero, Rat.pow_succ]; grind
theorem lin_qL (x y : Nat → Rat) : lin mu (Jh (qL x) (qL y)) = bqF x y := by
 rw [Zhn]
 simp only [qL, lin, bqF, Zdr, xe]
 grind
theorem Zxt {P Q : List Tm} {a b c : Pt} {x y : Nat → Rat} (hP : ∀ s t, evP P (vx a b c s t) (vy a b c s t) = evQ x s t)
  (hQ : ∀ s t, evP Q (vx a b c s t) (vy a b c s t) = evQ y s t) : Zaw (norm (Jh P Q)) a b c = twQ a b c * bqF x y := by
 rw [tri_of (q := Jh (qL x) (qL y)), lin_qL]
 intro s t
 rw [Zew, Zdd, hP, hQ, Zdd, ev_qL, ev_qL]
def tabV : Nat → List (List Rat)
 | 1 => [[1, -1, -1], [0, 1], [0, 0, 1]]
 | _ => [[1, -3, -3, 2, 4, 2], [0, -1, 0, 2], [0, 0, -1, 0, 0, 2], [0, 0, 0, 0, 4], [0, 0, 4, 0, -4, -4], [0, 4, 0, -4, -4]]
def tabD : Nat → Nat → List (List Rat)
 | 1, 0 => [[1], [], []]
 | 1, 1 => [[], [1], []]
 | 1, _ => [[], [], [1]]
 | _, 0 => [[3, -4, -4], [], [], [], [0, 0, 4], [0, 4]]
 | _, 1 => [[], [-1, 4], [], [0, 0, 4], [], [4, -4, -4]]
 | _, _ => [[], [], [-1, 0, 4], [0, 4], [4, -4, -4], []]
def coV (o n i : Nat) : Rat := ((tabV o).getD n []).getD i 0
def coD (o j n i : Nat) : Rat := ((tabD o j).getD n []).getD i 0
theorem Zzd (c x y : Rat) : evP [⟨0, 0, c⟩] x y = c := by simp only [evP, lin, Rat.pow_zero]; grind
def grad3 (e0 e1 e2 : Rat) (o n : Nat) (s t : Rat) : Rat := e0 * evQ (coD o 0 n) s t + e1 * evQ (coD o 1 n) s t + e2 * evQ (coD o 2 n) s t
theorem Qbq : Qw 1 0 = [⟨1, 0, 0, 1⟩] ∧ Qw 1 1 = [⟨0, 1, 0, 1⟩] ∧ Qw 1 2 = [⟨0, 0, 1, 1⟩] ∧ Qw 2 0 = [⟨2, 0, 0, 2⟩, ⟨1, 0, 0, -1⟩] ∧ Qw 2 1 = [⟨0, 2, 0, 2⟩, ⟨0, 1, 0, -1⟩] ∧ Qw 2 2 = [⟨0, 0, 2, 2⟩, ⟨0, 0, 1, -1⟩] ∧
  Qw 2 3 = [⟨0, 1, 1, 4⟩] ∧ Qw 2 4 = [⟨1, 0, 1, 4⟩] ∧ Qw 2 5 = [⟨1, 1, 0, 4⟩] := ⟨rfl, rfl, rfl, rfl, rfl, rfl, rfl, rfl, rfl⟩
theorem Qcd (s t : Rat) : evQ (coV 1 0) s t = 1 - s - t ∧ evQ (coV 1 1) s t = s ∧ evQ (coV 1 2) s t = t ∧ evQ (coV 2 0) s t = 1 - 3 * s - 3 * t + 2 * (s * s) + 4 * (s * t) + 2 * (t * t) ∧ evQ (coV 2 1) s t = 2 * (s * s) - s ∧ evQ (coV 2 2) s t = 2 * (t * t) - t ∧
  evQ (coV 2 3) s t = 4 * (s * t) ∧ evQ (coV 2 4) s t = 4 * t - 4 * (s * t) - 4 * (t * t) ∧ evQ (coV 2 5) s t = 4 * s - 4 * (s * s) - 4 * (s * t) := by
 refine ⟨?_, ?_, ?_, ?_, ?_, ?_, ?_, ?_, ?_⟩ <;> simp only [evQ, coV, tabV, List.getD_cons_zero, List.getD_cons_succ, List.getD_nil] <;> grind
theorem Qcv {l0 l1 l2 : List Tm} {x y s t : Rat} (h0 : evP l0 x y = 1 - s - t) (h1 : evP l1 x y = s) (h2 : evP l2 x y = t) {o n : Nat} (ho : o = 1 ∨ o = 2) (hn : n < Jj o) :
  evP (Zjf l0 l1 l2 (Qw o n)) x y = evQ (coV o n) s t := by
 obtain ⟨p1, p2, p3, p4, p5, p6, p7, p8, p9⟩ := Qbq
 obtain ⟨q1, q2, q3, q4, q5, q6, q7, q8, q9⟩ := Qcd s t
 rcases ho with rfl | rfl
 ·
  have hn' : n = 0 ∨ n = 1 ∨ n = 2 := by simp only [Jj] at hn; simp at hn; omega
  rcases hn' with rfl | rfl | rfl <;>
   simp only [p1, p2, p3, q1, q2, q3, Zjf, List.foldl_cons, List.foldl_nil, pwP, mulN, Zew, Zcs, Zq1, Zdd, Zzd, h0, h1, h2] <;> grind
 ·
  have hn' : n = 0 ∨ n = 1 ∨ n = 2 ∨ n = 3 ∨ n = 4 ∨ n = 5 := by simp only [Jj] at hn; simp at hn; omega
  rcases hn' with rfl | rfl | rfl | rfl | rfl | rfl <;>
   simp only [p4, p5, p6, p7, p8, p9, q4, q5, q6, q7, q8, q9, Zjf, List.foldl_cons, List.foldl_nil, pwP, mulN, Zew, Zcs, Zq1, Zdd, Zzd, h0, h1, h2] <;> grind
def Zhb (a b c : Pt) : List Tm := Gu (Zan a b c (0, 0)).1 (Zb a b c).1
def Zha (a b c : Pt) : List Tm := Gu (Zan a b c (0, 0)).2.1 (Zb a b c).2.1
def Zg9 (a b c : Pt) : List Tm := Gu (Zan a b c (0, 0)).2.2 (Zb a b c).2.2
def basis (o : Nat) (a b c : Pt) : List (List Tm) := (List.range (Jj o)).map (fun n => Zjf (Zhb a b c) (Zha a b c) (Zg9 a b c) (Qw o n))
def cmp3 (e0 e1 e2 : Rat) (o : Nat) (v : List Rat) (i : Nat) : Rat := e0 * Zdr (fun n => v.getD n 0 * coD o 0 n i) (Jj o) + e1 * Zdr (fun n => v.getD n 0 * coD o 1 n i) (Jj o) + e2 * Zdr (fun n => v.getD n 0 * coD o 2 n i) (Jj o)
def formQ (f : Nat → Nat → Rat) (v : List Rat) (N : Nat) : Rat := Zdr (fun n => v.getD n 0 * Zdr (fun m => f n m * v.getD m 0) N) N
def sumD (o : Nat) (v : List Rat) (j i : Nat) : Rat := Zdr (fun n => v.getD n 0 * coD o j n i) (Jj o)
def overQ (P Q : List Tm) (a b c : Pt) : Rat := Zaw (norm (Jh P Q)) a b c
theorem Qb6 : Zvy = 1 / 2 := rfl
end
section
def mvP (f : Rat) (p a : Pt) : Pt := Zth (Zg5 a f) p
theorem Qbb (f : Rat) (p a b c : Pt) : twP (mvP f p a) (mvP f p b) (mvP f p c) = f * f * twP a b c := by unfold twP crQ Jk mvP Zth Zg5; grind
theorem Zpg (f : Rat) (p a b c : Pt) : Zw (mvP f p a) (mvP f p b) (mvP f p c) = f * f * Zw a b c := by unfold Zw; rw [Qbb]; grind
theorem gr_mv {f : Rat} (hf : f ≠ 0) (p e e' : Pt) (T : Rat) (hT : T ≠ 0) : grP (mvP f p e) (mvP f p e') (f * f * T) = (f⁻¹ * (grP e e' T).1, f⁻¹ * (grP e e' T).2) := by
 have h1 : f * f⁻¹ = 1 := Rat.mul_inv_cancel _ hf
 have h2 : T * T⁻¹ = 1 := Rat.mul_inv_cancel _ hT
 have h3 : f * f * T ≠ 0 := fun h => by
  rcases Rat.mul_eq_zero.1 h with h | h
  · rcases Rat.mul_eq_zero.1 h with h | h <;> exact hf h
  · exact hT h
 have h4 : f * f * T * (f * f * T)⁻¹ = 1 := Rat.mul_inv_cancel _ h3
 simp only [grP, Rat.div_def, Jk, mvP, Zth, Zg5]
 generalize (f * f * T)⁻¹ = I at h4 ⊢
 generalize f⁻¹ = J at h1 ⊢
 generalize T⁻¹ = K at h2 ⊢
 have hI : I = J * J * K := by grind
 subst hI
 refine Prod.ext ?_ ?_ <;> simp only <;> grind
theorem by_mv {f : Rat} (hf : f ≠ 0) (k : Rat × Rat × Rat) (A : Rat) (g h : Pt) : byP k (f * f * A) (f⁻¹ * g.1, f⁻¹ * g.2) (f⁻¹ * h.1, f⁻¹ * h.2) = byP k A g h := by
 have h1 : f * f⁻¹ = 1 := Rat.mul_inv_cancel _ hf
 generalize f⁻¹ = J at h1 ⊢
 simp only [byP, Gg, Xe]
 grind
theorem Qav {f : Rat} (hf : f ≠ 0) (k : Rat × Rat × Rat) {a b c : Pt} (h : twP a b c ≠ 0) (p : Pt) :
  byL k (Zw (mvP f p a) (mvP f p b) (mvP f p c)) (Zb (mvP f p a) (mvP f p b) (mvP f p c)) = byL k (Zw a b c) (Zb a b c) := by
 unfold Zb byL
 rw [Zpg, Qbb]
 simp only [gr_mv hf p _ _ _ h, by_mv hf]
theorem Zv1 (a b c : Pt) : (Zb a b c).1.1 + (Zb a b c).2.1.1 + (Zb a b c).2.2.1 = 0 ∧ (Zb a b c).1.2 + (Zb a b c).2.1.2 + (Zb a b c).2.2.2 = 0 := by
 simp only [Zb, grP, Rat.div_def, Jk]
 constructor <;> grind
theorem Zxw : ∀ o, o = 1 ∨ o = 2 → ∀ n, n < Jj o → ∀ i, i < 3 → ∀ k, k < 3 → Zdr (fun m => Zl o n m i k) (Jj o) = Zdr (fun m => Zl o n m i 0) (Jj o) := by
 rintro o (rfl | rfl) <;> decide +kernel
theorem Zwo (k : Rat × Rat × Rat) (A : Rat) (x g1 g2 g3 : Pt) (h1 : g1.1 + g2.1 + g3.1 = 0) (h2 : g1.2 + g2.2 + g3.2 = 0) : byP k A x g1 + byP k A x g2 + byP k A x g3 = 0 := by
 simp only [byP, Gg, Xe]
 grind
theorem Zh2 {o : Nat} (ho : o = 1 ∨ o = 2) (k : Rat × Rat × Rat) (A : Rat) (a b c : Pt) {n : Nat} (hn : n < Jj o) : Zdr (fun m => stE o (byL k A (Zb a b c)) n m * ((1 : Int) : Rat)) (Jj o) = 0 := by
 have e1 : ((1 : Int) : Rat) = 1 := rfl
 obtain ⟨s1, s2⟩ := Zv1 a b c
 have b0 := Zwo k A (Zb a b c).1 _ _ _ s1 s2
 have b1 := Zwo k A (Zb a b c).2.1 _ _ _ s1 s2
 have b2 := Zwo k A (Zb a b c).2.2 _ _ _ s1 s2
 rw [Za3 (g := fun m => stE o (byL k A (Zb a b c)) n m) (fun m _ => by rw [e1, Rat.mul_one]), Za3 (fun m _ => Qak o k A (Zb a b c) n m)]
 simp only [Zp3, Zmj]
 have t := fun i hi j hj => Zxw o ho n hn i hi j hj
 rw [t 0 dd 1 dd, t 0 dd 2 dd, t 1 dd 1 dd, t 1 dd 2 dd, t 2 dd 1 dd, t 2 dd 2 dd]
 generalize Zdr (fun m => Zl o n m 0 0) (Jj o) = W0
 generalize Zdr (fun m => Zl o n m 1 0) (Jj o) = W1
 generalize Zdr (fun m => Zl o n m 2 0) (Jj o) = W2
 generalize byP k A (Zb a b c).1 (Zb a b c).1 = B00 at b0 ⊢
 generalize byP k A (Zb a b c).1 (Zb a b c).2.1 = B01 at b0 ⊢
 generalize byP k A (Zb a b c).1 (Zb a b c).2.2 = B02 at b0 ⊢
 generalize byP k A (Zb a b c).2.1 (Zb a b c).1 = B10 at b1 ⊢
 generalize byP k A (Zb a b c).2.1 (Zb a b c).2.1 = B11 at b1 ⊢
 generalize byP k A (Zb a b c).2.1 (Zb a b c).2.2 = B12 at b1 ⊢
 generalize byP k A (Zb a b c).2.2 (Zb a b c).1 = B20 at b2 ⊢
 generalize byP k A (Zb a b c).2.2 (Zb a b c).2.1 = B21 at b2 ⊢
 generalize byP k A (Zb a b c).2.2 (Zb a b c).2.2 = B22 at b2 ⊢
 have e : W0 * B00 + W0 * B01 + W0 * B02 + W1 * B10 + W1 * B11 + W1 * B12 + W2 * B20 + W2 * B21 + W2 * B22 = W0 * (B00 + B01 + B02) + W1 * (B10 + B11 + B12) + W2 * (B20 + B21 + B22) := by grind
 rw [e, b0, b1, b2]; grind
end
section
theorem Yu {b off : Nat} (w : World) : (Instr.fieldAt 43 (.pointer (some ⟨b, off, none⟩)) 0).run Tryz.prog w = .ok (.pointer (some ⟨b, off + 0, none⟩)) w := by
 simp [go_sem]
theorem Yt {b off : Nat} (w : World) : (Instr.fieldAt 43 (.pointer (some ⟨b, off, none⟩)) 1).run Tryz.prog w = .ok (.pointer (some ⟨b, off + 5, none⟩)) w := by
 simp [go_sem]
theorem Zct (x0_0 : Value) (x0_1 : Value) (x0_2 : Value) (x0_3 : Value) (x0_4 : Value) (x1_0 : Value) (x1_1 : Value) (x1_2 : Value) (x1_3 : Value) (x1_4 : Value) (w : World) : (Instr.build 43 [(0, .agg #[x0_0, x0_1, x0_2, x0_3, x0_4]), (1, .agg #[x1_0, x1_1, x1_2, x1_3, x1_4])].toArray).run Tryz.prog w = .ok (.agg #[x0_0, x0_1, x0_2, x0_3, x0_4, x1_0, x1_1, x1_2, x1_3, x1_4]) w := by simp [go_sem]
theorem Ze6 (x0_0 : Value) (x0_1 : Value) (x0_2 : Value) (x0_3 : Value) (x0_4 : Value) (x1_0 : Value) (x1_1 : Value) (x1_2 : Value) (x1_3 : Value) (x1_4 : Value) (x2_0 : Value) (x2_1 : Value) (x2_2 : Value) (x2_3 : Value) (x2_4 : Value) (w : World) : (Instr.build 60 [(0, .agg #[x0_0, x0_1, x0_2, x0_3, x0_4]), (1, .agg #[x1_0, x1_1, x1_2, x1_3, x1_4]), (2, .agg #[x2_0, x2_1, x2_2, x2_3, x2_4])].toArray).run Tryz.prog w = .ok (.agg #[x0_0, x0_1, x0_2, x0_3, x0_4, x1_0, x1_1, x1_2, x1_3, x1_4, x2_0, x2_1, x2_2, x2_3, x2_4]) w := by simp [go_sem]
theorem Zeh {c0 c1 c2 c3 c4 c5 c6 c7 c8 c9 c10 c11 c12 c13 c14 v0 v1 v2 v3 v4 v5 v6 v7 v8 v9 v10 v11 v12 v13 v14 : Value} : Qc #[c0, c1, c2, c3, c4, c5, c6, c7, c8, c9, c10, c11, c12, c13, c14] 0 [v0, v1, v2, v3, v4, v5, v6, v7, v8, v9, v10, v11, v12, v13, v14] = #[v0, v1, v2, v3, v4, v5, v6, v7, v8, v9, v10, v11, v12, v13, v14] := by kernel_rfl
theorem Yg (b off : Nat) (w : World) : (Instr.indexAt 60 (.pointer (some ⟨b, off, none⟩)) (.int .i64 0)).run Tryz.prog w = .ok (.pointer (some ⟨b, off + 0, none⟩)) w := by
 simp [go_sem, Instr.indexAt]
theorem Zdt {c0 c1 c2 c3 c4 c5 c6 c7 c8 c9 c10 c11 c12 c13 c14 : Value} : Qe true 5 #[c0, c1, c2, c3, c4, c5, c6, c7, c8, c9, c10, c11, c12, c13, c14] 0 = some (.agg #[c0, c1, c2, c3, c4]) := rfl
theorem Zt5 {c0 c1 c2 c3 c4 c5 c6 c7 c8 c9 c10 c11 c12 c13 c14 v0 v1 v2 v3 v4 : Value} : Qc #[c0, c1, c2, c3, c4, c5, c6, c7, c8, c9, c10, c11, c12, c13, c14] 0 [v0, v1, v2, v3, v4] = #[v0, v1, v2, v3, v4, c5, c6, c7, c8, c9, c10, c11, c12, c13, c14] := by kernel_rfl
theorem Xt (b off : Nat) (w : World) : (Instr.indexAt 60 (.pointer (some ⟨b, off, none⟩)) (.int .i64 1)).run Tryz.prog w = .ok (.pointer (some ⟨b, off + 5, none⟩)) w := by
 simp [go_sem, Instr.indexAt]
theorem Zaj {c0 c1 c2 c3 c4 c5 c6 c7 c8 c9 c10 c11 c12 c13 c14 : Value} : Qe true 5 #[c0, c1, c2, c3, c4, c5, c6, c7, c8, c9, c10, c11, c12, c13, c14] 5 = some (.agg #[c5, c6, c7, c8, c9]) := rfl
theorem Zt4 {c0 c1 c2 c3 c4 c5 c6 c7 c8 c9 c10 c11 c12 c13 c14 v0 v1 v2 v3 v4 : Value} : Qc #[c0, c1, c2, c3, c4, c5, c6, c7, c8, c9, c10, c11, c12, c13, c14] 5 [v0, v1, v2, v3, v4] = #[c0, c1, c2, c3, c4, v0, v1, v2, v3, v4, c10, c11, c12, c13, c14] := by kernel_rfl
theorem Yf (b off : Nat) (w : World) : (Instr.indexAt 60 (.pointer (some ⟨b, off, none⟩)) (.int .i64 2)).run Tryz.prog w = .ok (.pointer (some ⟨b, off + 10, none⟩)) w := by
 simp [go_sem, Instr.indexAt]
theorem Zcp {c0 c1 c2 c3 c4 c5 c6 c7 c8 c9 c10 c11 c12 c13 c14 : Value} : Qe true 5 #[c0, c1, c2, c3, c4, c5, c6, c7, c8, c9, c10, c11, c12, c13, c14] 10 = some (.agg #[c10, c11, c12, c13, c14]) := rfl
theorem Zry {c0 c1 c2 c3 c4 c5 c6 c7 c8 c9 c10 c11 c12 c13 c14 v0 v1 v2 v3 v4 : Value} : Qc #[c0, c1, c2, c3, c4, c5, c6, c7, c8, c9, c10, c11, c12, c13, c14] 10 [v0, v1, v2, v3, v4] = #[c0, c1, c2, c3, c4, c5, c6, c7, c8, c9, v0, v1, v2, v3, v4] := by kernel_rfl
theorem Zf9 {c0 c1 c2 c3 c4 c5 c6 c7 c8 c9 c10 c11 c12 c13 c14 : Value} : Qe true 15 #[c0, c1, c2, c3, c4, c5, c6, c7, c8, c9, c10, c11, c12, c13, c14] 0 = some (.agg #[c0, c1, c2, c3, c4, c5, c6, c7, c8, c9, c10, c11, c12, c13, c14]) := rfl
theorem Ze7 (x0_0 : Value) (x0_1 : Value) (x0_2 : Value) (x0_3 : Value) (x0_4 : Value) (x0_5 : Value) (x0_6 : Value) (x0_7 : Value) (x0_8 : Value) (x0_9 : Value) (x1_0 : Value) (x1_1 : Value) (x1_2 : Value) (x1_3 : Value) (x1_4 : Value) (x1_5 : Value) (x1_6 : Value) (x1_7 : Value) (x1_8 : Value) (x1_9 : Value) (x2_0 : Value) (x2_1 : Value) (x2_2 : Value) (x2_3 : Value) (x2_4 : Value) (x2_5 : Value) (x2_6 : Value) (x2_7 : Value) (x2_8 : Value) (x2_9 : Value) (w : World) : (Instr.build 44 [(0, .agg #[x0_0, x0_1, x0_2, x0_3, x0_4, x0_5, x0_6, x0_7, x0_8, x0_9]), (1, .agg #[x1_0, x1_1, x1_2, x1_3, x1_4, x1_5, x1_6, x1_7, x1_8, x1_9]), (2, .agg #[x2_0, x2_1, x2_2, x2_3, x2_4, x2_5, x2_6, x2_7, x2_8, x2_9])].toArray).run Tryz.prog w = .ok (.agg #[x0_0, x0_1, x0_2, x0_3, x0_4, x0_5, x0_6, x0_7, x0_8, x0_9, x1_0, x1_1, x1_2, x1_3, x1_4, x1_5, x1_6, x1_7, x1_8, x1_9, x2_0, x2_1, x2_2, x2_3, x2_4, x2_5, x2_6, x2_7, x2_8, x2_9]) w := by simp [go_sem]
theorem Vl {c0 c1 c2 c3 c4 c5 c6 c7 c8 c9 c10 c11 c12 c13 c14 c15 c16 c17 c18 c19 c20 c21 c22 c23 c24 c25 c26 c27 c28 c29 v0 v1 v2 v3 v4 v5 v6 v7 v8 v9 v10 v11 v12 v13 v14 v15 v16 v17 v18 v19 v20 v21 v22 v23 v24 v25 v26 v27 v28 v29 : Value} : Qc #[c0, c1, c2, c3, c4, c5, c6, c7, c8, c9, c10, c11, c12, c13, c14, c15, c16, c17, c18, c19, c20, c21, c22, c23, c24, c25, c26, c27, c28, c29] 0 [v0, v1, v2, v3, v4, v5, v6, v7, v8, v9, v10, v11, v12, v13, v14, v15, v16, v17, v18, v19, v20, v21, v22, v23, v24, v25, v26, v27, v28, v29] = #[v0, v1, v2, v3, v4, v5, v6, v7, v8, v9, v10, v11, v12, v13, v14, v15, v16, v17, v18, v19, v20, v21, v22, v23, v24, v25, v26, v27, v28, v29] := by kernel_rfl
theorem Xg (b off : Nat) (w : World) : (Instr.indexAt 44 (.pointer (some ⟨b, off, none⟩)) (.int .i64 2)).run Tryz.prog w = .ok (.pointer (some ⟨b, off + 20, none⟩)) w := by
 simp [go_sem, Instr.indexAt]
theorem Jm {c0 c1 c2 c3 c4 c5 c6 c7 c8 c9 c10 c11 c12 c13 c14 c15 c16 c17 c18 c19 c20 c21 c22 c23 c24 c25 c26 c27 c28 c29 : Value} : Qe true 10 #[c0, c1, c2, c3, c4, c5, c6, c7, c8, c9, c10, c11, c12, c13, c14, c15, c16, c17, c18, c19, c20, c21, c22, c23, c24, c25, c26, c27, c28, c29] 20 = some (.agg #[c20, c21, c22, c23, c24, c25, c26, c27, c28, c29]) := rfl
theorem Xh (b off : Nat) (w : World) : (Instr.indexAt 44 (.pointer (some ⟨b, off, none⟩)) (.int .i64 1)).run Tryz.prog w = .ok (.pointer (some ⟨b, off + 10, none⟩)) w := by
 simp [go_sem, Instr.indexAt]
theorem Jn {c0 c1 c2 c3 c4 c5 c6 c7 c8 c9 c10 c11 c12 c13 c14 c15 c16 c17 c18 c19 c20 c21 c22 c23 c24 c25 c26 c27 c28 c29 : Value} : Qe true 10 #[c0, c1, c2, c3, c4, c5, c6, c7, c8, c9, c10, c11, c12, c13, c14, c15, c16, c17, c18, c19, c20, c21, c22, c23, c24, c25, c26, c27, c28, c29] 10 = some (.agg #[c10, c11, c12, c13, c14, c15, c16, c17, c18, c19]) := rfl
theorem Xu (b off : Nat) (w : World) : (Instr.indexAt 44 (.pointer (some ⟨b, off, none⟩)) (.int .i64 0)).run Tryz.prog w = .ok (.pointer (some ⟨b, off + 0, none⟩)) w := by
 simp [go_sem, Instr.indexAt]
theorem Zt3 {c0 c1 c2 c3 c4 c5 c6 c7 c8 c9 c10 c11 c12 c13 c14 c15 c16 c17 c18 c19 c20 c21 c22 c23 c24 c25 c26 c27 c28 c29 v0 v1 v2 v3 v4 : Value} : Qc #[c0, c1, c2, c3, c4, c5, c6, c7, c8, c9, c10, c11, c12, c13, c14, c15, c16, c17, c18, c19, c20, c21, c22, c23, c24, c25, c26, c27, c28, c29] 0 [v0, v1, v2, v3, v4] = #[v0, v1, v2, v3, v4, c5, c6, c7, c8, c9, c10, c11, c12, c13, c14, c15, c16, c17, c18, c19, c20, c21, c22, c23, c24, c25, c26, c27, c28, c29] := by kernel_rfl
theorem Zt2 {c0 c1 c2 c3 c4 c5 c6 c7 c8 c9 c10 c11 c12 c13 c14 c15 c16 c17 c18 c19 c20 c21 c22 c23 c24 c25 c26 c27 c28 c29 v0 v1 v2 v3 v4 : Value} : Qc #[c0, c1, c2, c3, c4, c5, c6, c7, c8, c9, c10, c11, c12, c13, c14, c15, c16, c17, c18, c19, c20, c21, c22, c23, c24, c25, c26, c27, c28, c29] 5 [v0, v1, v2, v3, v4] = #[c0, c1, c2, c3, c4, v0, v1, v2, v3, v4, c10, c11, c12, c13, c14, c15, c16, c17, c18, c19, c20, c21, c22, c23, c24, c25, c26, c27, c28, c29] := by kernel_rfl
theorem Jy {c0 c1 c2 c3 c4 c5 c6 c7 c8 c9 c10 c11 c12 c13 c14 c15 c16 c17 c18 c19 c20 c21 c22 c23 c24 c25 c26 c27 c28 c29 : Value} : Qe true 10 #[c0, c1, c2, c3, c4, c5, c6, c7, c8, c9, c10, c11, c12, c13, c14, c15, c16, c17, c18, c19, c20, c21, c22, c23, c24, c25, c26, c27, c28, c29] 0 = some (.agg #[c0, c1, c2, c3, c4, c5, c6, c7, c8, c9]) := rfl
theorem Zrx {c0 c1 c2 c3 c4 c5 c6 c7 c8 c9 c10 c11 c12 c13 c14 c15 c16 c17 c18 c19 c20 c21 c22 c23 c24 c25 c26 c27 c28 c29 v0 v1 v2 v3 v4 : Value} : Qc #[c0, c1, c2, c3, c4, c5, c6, c7, c8, c9, c10, c11, c12, c13, c14, c15, c16, c17, c18, c19, c20, c21, c22, c23, c24, c25, c26, c27, c28, c29] 10 [v0, v1, v2, v3, v4] = #[c0, c1, c2, c3, c4, c5, c6, c7, c8, c9, v0, v1, v2, v3, v4, c15, c16, c17, c18, c19, c20, c21, c22, c23, c24, c25, c26, c27, c28, c29] := by kernel_rfl
theorem Zrw {c0 c1 c2 c3 c4 c5 c6 c7 c8 c9 c10 c11 c12 c13 c14 c15 c16 c17 c18 c19 c20 c21 c22 c23 c24 c25 c26 c27 c28 c29 v0 v1 v2 v3 v4 : Value} : Qc #[c0, c1, c2, c3, c4, c5, c6, c7, c8, c9, c10, c11, c12, c13, c14, c15, c16, c17, c18, c19, c20, c21, c22, c23, c24, c25, c26, c27, c28, c29] 15 [v0, v1, v2, v3, v4] = #[c0, c1, c2, c3, c4, c5, c6, c7, c8, c9, c10, c11, c12, c13, c14, v0, v1, v2, v3, v4, c20, c21, c22, c23, c24, c25, c26, c27, c28, c29] := by kernel_rfl
theorem Zrv {c0 c1 c2 c3 c4 c5 c6 c7 c8 c9 c10 c11 c12 c13 c14 c15 c16 c17 c18 c19 c20 c21 c22 c23 c24 c25 c26 c27 c28 c29 v0 v1 v2 v3 v4 : Value} : Qc #[c0, c1, c2, c3, c4, c5, c6, c7, c8, c9, c10, c11, c12, c13, c14, c15, c16, c17, c18, c19, c20, c21, c22, c23, c24, c25, c26, c27, c28, c29] 20 [v0, v1, v2, v3, v4] = #[c0, c1, c2, c3, c4, c5, c6, c7, c8, c9, c10, c11, c12, c13, c14, c15, c16, c17, c18, c19, v0, v1, v2, v3, v4, c25, c26, c27, c28, c29] := by kernel_rfl
theorem Zru {c0 c1 c2 c3 c4 c5 c6 c7 c8 c9 c10 c11 c12 c13 c14 c15 c16 c17 c18 c19 c20 c21 c22 c23 c24 c25 c26 c27 c28 c29 v0 v1 v2 v3 v4 : Value} : Qc #[c0, c1, c2, c3, c4, c5, c6, c7, c8, c9, c10, c11, c12, c13, c14, c15, c16, c17, c18, c19, c20, c21, c22, c23, c24, c25, c26, c27, c28, c29] 25 [v0, v1, v2, v3, v4] = #[c0, c1, c2, c3, c4, c5, c6, c7, c8, c9, c10, c11, c12, c13, c14, c15, c16, c17, c18, c19, c20, c21, c22, c23, c24, v0, v1, v2, v3, v4] := by kernel_rfl
theorem Qz {c0 c1 c2 c3 c4 c5 c6 c7 c8 c9 c10 c11 c12 c13 c14 c15 c16 c17 c18 c19 c20 c21 c22 c23 c24 c25 c26 c27 c28 c29 : Value} : Qe true 30 #[c0, c1, c2, c3, c4, c5, c6, c7, c8, c9, c10, c11, c12, c13, c14, c15, c16, c17, c18, c19, c20, c21, c22, c23, c24, c25, c26, c27, c28, c29] 0 = some (.agg #[c0, c1, c2, c3, c4, c5, c6, c7, c8, c9, c10, c11, c12, c13, c14, c15, c16, c17, c18, c19, c20, c21, c22, c23, c24, c25, c26, c27, c28, c29]) := by kernel_rfl
theorem cgd {α : Type _} {x y : α} (h : x = y := by first | rfl | (congr 1; decide)) : x = y := h
theorem Yc (w : World) : (zeroValue 43).run Tryz.prog w = .ok (encPt (0, 0)) w := zeroValue43 w
abbrev Jb (a b c : Pt) : Value := .agg #[.int .u64 (Kv a.1.num.natAbs), .string (Yx a.1.num.natAbs), .bool (decide (a.1.num < 0)), .int .u64 (Kv (a.1.den - 1)), .string (Yx (a.1.den - 1)), .int .u64 (Kv a.2.num.natAbs), .string (Yx a.2.num.natAbs), .bool (decide (a.2.num < 0)), .int .u64 (Kv (a.2.den - 1)), .string (Yx (a.2.den - 1)), .int .u64 (Kv b.1.num.natAbs), .string (Yx b.1.num.natAbs), .bool (decide (b.1.num < 0)), .int .u64 (Kv (b.1.den - 1)), .string (Yx (b.1.den - 1)), .int .u64 (Kv b.2.num.natAbs), .string (Yx b.2.num.natAbs), .bool (decide (b.2.num < 0)), .int .u64 (Kv (b.2.den - 1)), .string (Yx (b.2.den - 1)), .int .u64 (Kv c.1.num.natAbs), .string (Yx c.1.num.natAbs), .bool (decide (c.1.num < 0)), .int .u64 (Kv (c.1.den - 1)), .string (Yx (c.1.den - 1)), .int .u64 (Kv c.2.num.natAbs), .string (Yx c.2.num.natAbs), .bool (decide (c.2.num < 0)), .int .u64 (Kv (c.2.den - 1)), .string (Yx (c.2.den - 1))]
theorem Zcl (w : World) : (zeroValue 44).run Tryz.prog w = .ok (Jb (0, 0) (0, 0) (0, 0)) w := zeroValue44 w
abbrev Xb (a b c d e f g h i : Rat) : Value := .agg #[.int .u64 (Kv a.num.natAbs), .string (Yx a.num.natAbs), .bool (decide (a.num < 0)), .int .u64 (Kv (a.den - 1)), .string (Yx (a.den - 1)), .int .u64 (Kv b.num.natAbs), .string (Yx b.num.natAbs), .bool (decide (b.num < 0)), .int .u64 (Kv (b.den - 1)), .string (Yx (b.den - 1)), .int .u64 (Kv c.num.natAbs), .string (Yx c.num.natAbs), .bool (decide (c.num < 0)), .int .u64 (Kv (c.den - 1)), .string (Yx (c.den - 1)), .int .u64 (Kv d.num.natAbs), .string (Yx d.num.natAbs), .bool (decide (d.num < 0)), .int .u64 (Kv (d.den - 1)), .string (Yx (d.den - 1)), .int .u64 (Kv e.num.natAbs), .string (Yx e.num.natAbs), .bool (decide (e.num < 0)), .int .u64 (Kv (e.den - 1)), .string (Yx (e.den - 1)), .int .u64 (Kv f.num.natAbs), .string (Yx f.num.natAbs), .bool (decide (f.num < 0)), .int .u64 (Kv (f.den - 1)), .string (Yx (f.den - 1)), .int .u64 (Kv g.num.natAbs), .string (Yx g.num.natAbs), .bool (decide (g.num < 0)), .int .u64 (Kv (g.den - 1)), .string (Yx (g.den - 1)), .int .u64 (Kv h.num.natAbs), .string (Yx h.num.natAbs), .bool (decide (h.num < 0)), .int .u64 (Kv (h.den - 1)), .string (Yx (h.den - 1)), .int .u64 (Kv i.num.natAbs), .string (Yx i.num.natAbs), .bool (decide (i.num < 0)), .int .u64 (Kv (i.den - 1)), .string (Yx (i.den - 1))]
theorem Ztk (w : World) : (zeroValue 114).run Tryz.prog w = .ok (Xb 0 0 0 0 0 0 0 0 0) w := zeroValue114 w
theorem sgn0 {x : Rat} (h : x.num.sign = 0) : x = 0 := Rat.num_eq_zero.1 (Int.sign_eq_zero_iff_zero.1 h)
theorem Zsn (a b : Pt) : Zu (Zth a b).1 ≤ Zu a.1 + Zu b.1 + 1 := Qo _ _
theorem Zsm (a b : Pt) : Zu (Zth a b).2 ≤ Zu a.2 + Zu b.2 + 1 := Qo _ _
theorem Yj (a b : Pt) : Zu (Jk a b).1 ≤ Zu a.1 + Zu b.1 + 1 := Zae _ _
theorem Yi (a b : Pt) : Zu (Jk a b).2 ≤ Zu a.2 + Zu b.2 + 1 := Zae _ _
theorem Ge (a : Pt) (k : Rat) : Zu (Zg5 a k).1 ≤ Zu a.1 + Zu k := Zm _ _
theorem Gd (a : Pt) (k : Rat) : Zu (Zg5 a k).2 ≤ Zu a.2 + Zu k := Zm _ _
theorem Yr (a b : Pt) : Zu (Gg a b) ≤ Zu a.1 + Zu b.1 + Zu a.2 + Zu b.2 + 1 := by
 have := Qo (a.1 * b.1) (a.2 * b.2); have := Zm a.1 b.1; have := Zm a.2 b.2; unfold Gg; omega
theorem Zlg (a b : Pt) : Zu (crQ a b) ≤ Zu a.1 + Zu b.2 + Zu a.2 + Zu b.1 + 1 := by
 have := Zae (a.1 * b.2) (a.2 * b.1); have := Zm a.1 b.2; have := Zm a.2 b.1; unfold crQ; omega
theorem Kw (a b c : Pt) : Zu (twP a b c) ≤ Zu b.1 + Zu b.2 + Zu c.1 + Zu c.2 + 2 * Zu a.1 + 2 * Zu a.2 + 5 := by
 have := Zlg (Jk b a) (Jk c a); have := Yj b a; have := Yi b a; have := Yj c a; have := Yi c a; unfold twP; omega
theorem Zsl : Zu Zvy ≤ 4 := Zgd 1 2 dd dd dd dd
theorem Za7 (a b c : Pt) : Zu (Zw a b c) ≤ Zu b.1 + Zu b.2 + Zu c.1 + Zu c.2 + 2 * Zu a.1 + 2 * Zu a.2 + 9 := by
 have := Zm (twP a b c) Zvy; have := Kw a b c; have := Zsl; unfold Zw; omega
theorem Zlf (e f : Pt) (t : Rat) : Zu (grP e f t).1 ≤ Zu e.2 + Zu f.2 + Zu t + 1 ∧ Zu (grP e f t).2 ≤ Zu e.1 + Zu f.1 + Zu t + 1 := by
 have h1 := Ym (-((Jk e f).2)) t; have h2 := Ym ((Jk e f).1) t; have h3 := Zb9 ((Jk e f).2); have := Yj e f; have := Yi e f
 unfold grP; simp only; omega
theorem Zw6 (g : Nat) (cs : List Value) (Φ : List Qf) (pa pb : Pt) (x y : Rat) (hg : ∀ args w, (callFunc g args).run Tryz.prog w = .ok (.enter g args) w)
  (hf1 : Gh Tryz.prog g ([Zr pa.1, Zr pb.1] ++ cs) Φ (Zr x)) (hf2 : Gh Tryz.prog g ([Zr pa.2, Zr pb.2] ++ cs) Φ (Zr y)) : Gh Tryz.prog 76 [encPt pa, encPt pb, .func (.func g) #[] cs.toArray] Φ (encPt (x, y)) := by
 refine fn_intro func76 rfl ntmps76 nb ?_
 intro S w0 a hS h
 refine gC h (zS (zx rfl fun b3 => zx rfl fun b4 => zz Yc fun b6 => zn (zs (yD Za [0, 1, 2, 3, 4, 6, 7, 8, 9, 10, 5, 11, 12, 13] (Zd kk) (ym rfl rfl (yp rfl (.fA rfl Yu) (yd rfl rfl mr isAgg41 sizeOf41 Jf ?_))))))); clear h
 refine yp rfl (.fA rfl Yu) (yd rfl rfl mr isAgg41 sizeOf41 Jf ?_)
 refine ym rfl rfl (yp rfl (.fA rfl Yt) (yd rfl rfl mr isAgg41 sizeOf41 Je ?_))
 refine yp rfl (.fA rfl Yt) (yd rfl rfl mr isAgg41 sizeOf41 Je ?_)
 refine Zbo rfl kk (fs := []) (cs := cs) rfl (vs := [_, _]) rfl hg hf1 (by first | exact (fun _ hR => hR) | simp) dd ?_
 refine Zbo rfl kk (fs := []) (cs := cs) rfl (vs := [_, _]) rfl hg hf2 (by first | exact (fun _ hR => hR) | simp) dd ?_
 refine yp rfl (.build [(_, _), (_, _)] rfl (Zct _ _ _ _ _ _ _ _ _ _)) (yt rfl rfl rfl Qg uu sizeOf43 rfl nb rfl ?_)
 refine yn (zt ?_); intro a w h
 refine Xd h (Zk h rfl (.cell rfl mr isAgg43 sizeOf43 Zj)) ?_
 rfl
theorem Zgq (pa pb : Pt) (hbpa1 : Zu pa.1 ≤ 100000000) (hbpa2 : Zu pa.2 ≤ 100000000) (hbpb1 : Zu pb.1 ≤ 100000000) (hbpb2 : Zu pb.2 ≤ 100000000) : Xm Tryz.prog 24 [encPt pa, encPt pb] (encPt (Zth pa pb)) := by
 refine fn_intro func24 rfl ntmps24 nb ?_
 intro S w0 a hS h
 refine gC h (zS (zx rfl fun b2 => zx rfl fun b3 => zz Yc fun b4 => zn (zS (zd rfl mr isAgg43 sizeOf43 Zj ?_))))
 refine zd rfl mr isAgg43 sizeOf43 Zj ?_
 refine zw [_, _, _] rfl call76 (Zw6 49 [] [] pa pb _ _ call49 (Zwd (Vu pa.1 pb.1 oo oo) []) (Zwd (Vu pa.2 pb.2 oo oo) [])) (zt' rfl rfl Qg uu sizeOf43 rfl nb rfl ?_); intro a w h
 refine wpList_nil (wp_ret ?_)
 refine Xd h (Zk h rfl (.cell rfl mr isAgg43 sizeOf43 Zj)) ?_
 rfl
theorem Zde (pa pb : Pt) (hbpa1 : Zu pa.1 ≤ 100000000) (hbpa2 : Zu pa.2 ≤ 100000000) (hbpb1 : Zu pb.1 ≤ 100000000) (hbpb2 : Zu pb.2 ≤ 100000000) : Xm Tryz.prog 86 [encPt pa, encPt pb] (encPt (Jk pa pb)) := by
 refine fn_intro func86 rfl ntmps86 nb ?_
 intro S w0 a hS h
 refine gC h (zS (zx rfl fun b2 => zx rfl fun b3 => zz Yc fun b4 => zn (zS (zd rfl mr isAgg43 sizeOf43 Zj ?_))))
 refine zd rfl mr isAgg43 sizeOf43 Zj ?_
 refine zw [_, _, _] rfl call76 (Zw6 137 [] [] pa pb _ _ call137 (Zwd (Zjm pa.1 pb.1 oo oo) []) (Zwd (Zjm pa.2 pb.2 oo oo) [])) (zt' rfl rfl Qg uu sizeOf43 rfl nb rfl ?_); intro a w h
 refine wpList_nil (wp_ret ?_)
 refine Xd h (Zk h rfl (.cell rfl mr isAgg43 sizeOf43 Zj)) ?_
 rfl
theorem Zw3 (x y k : Rat) (b o : Nat) (hx : Zu x ≤ 100000000) (hk : Zu k ≤ 100000000) : Gh Tryz.prog 77 [Zr x, Zr y, .pointer (some ⟨b, o, none⟩)] [Row (some ⟨b, o, none⟩) (Value.cells (Zr k)).toList] (Zr (x * k)) := by
 refine fn_intro func77 rfl ntmps77 nb ?_
 intro S w0 a hS h
 refine gC h (zS (zx rfl fun b3 => zx rfl fun b4 => zz Ju fun b5 => zn (zS (zd rfl mr isAgg41 sizeOf41 Zh ?_))))
 refine zD (b := b) (off := o) (j := 0) (M := (Value.cells (Zr k)).toList) (v := Zr (k)) rfl mm (Nat.succ_pos _) isAgg41 sizeOf41 rfl (.inl rfl) ?_
 refine zv [_, _] rfl call18 (Jc _ _ oo oo) ?_
 have hl8 := Zm (x) (k)
 refine zt' rfl rfl Zp uu sizeOf41 rfl nb rfl ?_; intro a w h
 refine wpList_nil (wp_ret ?_)
 refine Xd h (Zk h rfl (.cell rfl mr isAgg41 sizeOf41 Zh)) ?_
 rfl
theorem Zbs (pa : Pt) (k : Rat) (hb1 : Zu pa.1 ≤ 100000000) (hb2 : Zu pa.2 ≤ 100000000) (hk : Zu k ≤ 100000000) : Xm Tryz.prog 25 [encPt pa, Zr k] (encPt (Zg5 pa k)) := by
 refine fn_intro func25 rfl ntmps25 nb ?_
 intro S w0 a hS h
 refine gC h (zS (zx rfl fun b2 => zx rfl fun b3 => ?_)); clear h; intro a w h
 replace h := h.shareAll hS ((Value.cells (Zr (k))).toList) rfl
 refine gL h (zz Yc fun b4 => zn (zS (zd rfl mr isAgg43 sizeOf43 Zj ?_)))
 refine zd rfl mr isAgg43 sizeOf43 Zj ?_
 refine zp (.makeFunc [] [_] rfl rfl) (zw [_, _, _] rfl call76 (Zw6 77 [.pointer (some ⟨b3, 0, none⟩)] [Row (some ⟨b3, 0, none⟩) (Value.cells (Zr k)).toList] pa pa _ _ call77 (Zw3 pa.1 pa.1 k b3 0 oo oo) (Zw3 pa.2 pa.2 k b3 0 oo oo)) (zt' rfl rfl Qg uu sizeOf43 rfl nb rfl ?_)); intro a w h
 refine wpList_nil (wp_ret ?_)
 refine Xd h (Zk h rfl (.cell rfl mr isAgg43 sizeOf43 Zj)) ?_
 rfl
theorem Znu (pa pb : Pt) (hbpa1 : Zu pa.1 ≤ 100000000) (hbpa2 : Zu pa.2 ≤ 100000000) (hbpb1 : Zu pb.1 ≤ 100000000) (hbpb2 : Zu pb.2 ≤ 100000000) : Xm Tryz.prog 85 [encPt pa, encPt pb] (Zr (crQ pa pb)) := by
 refine fn_intro func85 rfl ntmps85 nb ?_
 intro S w0 a hS h
 refine gC h (zS (zx rfl fun b2 => zx rfl fun b3 => zz Ju fun b4 => zn (zs (yD Za [0, 1, 2, 3, 5, 6, 7, 8, 4, 9, 10, 11] (Zd kk) (yp rfl (.fA rfl Yu) (yd rfl rfl mr isAgg41 sizeOf41 Jf ?_)))))); clear h
 refine yp rfl (.fA rfl Yt) (yd rfl rfl mr isAgg41 sizeOf41 Je ?_)
 refine yp rfl (.fA rfl Yt) (yd rfl rfl mr isAgg41 sizeOf41 Je ?_)
 refine yp rfl (.fA rfl Yu) (yd rfl rfl mr isAgg41 sizeOf41 Jf ?_)
 refine yv [_, _] rfl rfl call18 (Jc _ _ oo oo) ?_
 have hl9 := Zm (pa.1) (pb.2)
 refine yv [_, _] rfl rfl call18 (Jc _ _ oo oo) ?_
 have hl14 := Zm (pa.2) (pb.1)
 refine yv [_, _] rfl rfl call137 (Zjm _ _ oo oo) ?_
 have hl15 := Zae (pa.1 * pb.2) (pa.2 * pb.1)
 refine yt rfl rfl rfl Zp uu sizeOf41 rfl nb rfl ?_
 refine yn (zt ?_); intro a w h
 refine Xd h (Zk h rfl (.cell rfl mr isAgg41 sizeOf41 Zh)) ?_
 rfl
theorem Zbt (pa pb : Pt) (hbpa1 : Zu pa.1 ≤ 100000000) (hbpa2 : Zu pa.2 ≤ 100000000) (hbpb1 : Zu pb.1 ≤ 100000000) (hbpb2 : Zu pb.2 ≤ 100000000) : Xm Tryz.prog 50 [encPt pa, encPt pb] (Zr (Gg pa pb)) := by
 refine fn_intro func50 rfl ntmps50 nb ?_
 intro S w0 a hS h
 refine gC h (zS (zx rfl fun b2 => zx rfl fun b3 => zz Ju fun b4 => zn (zs (yD Za [0, 1, 2, 3, 5, 6, 7, 8, 4, 9, 10, 11] (Zd kk) (yp rfl (.fA rfl Yu) (yd rfl rfl mr isAgg41 sizeOf41 Jf ?_)))))); clear h
 refine yp rfl (.fA rfl Yu) (yd rfl rfl mr isAgg41 sizeOf41 Jf ?_)
 refine yp rfl (.fA rfl Yt) (yd rfl rfl mr isAgg41 sizeOf41 Je ?_)
 refine yp rfl (.fA rfl Yt) (yd rfl rfl mr isAgg41 sizeOf41 Je ?_)
 refine yv [_, _] rfl rfl call18 (Jc _ _ oo oo) ?_
 have hl9 := Zm (pa.1) (pb.1)
 refine yv [_, _] rfl rfl call18 (Jc _ _ oo oo) ?_
 have hl14 := Zm (pa.2) (pb.2)
 refine yv [_, _] rfl rfl call49 (Vu _ _ oo oo) ?_
 have hl15 := Qo (pa.1 * pb.1) (pa.2 * pb.2)
 refine yt rfl rfl rfl Zp uu sizeOf41 rfl nb rfl ?_
 refine yn (zt ?_); intro a w h
 refine Xd h (Zk h rfl (.cell rfl mr isAgg41 sizeOf41 Zh)) ?_
 rfl
theorem Zs6 (pa pb : Pt) (hbpa1 : Zu pa.1 ≤ 10000000) (hbpa2 : Zu pa.2 ≤ 10000000) (hbpb1 : Zu pb.1 ≤ 10000000) (hbpb2 : Zu pb.2 ≤ 10000000) : Xm Tryz.prog 92 [encPt pa, encPt pb] (Zr (Gg (Jk pb pa) (Jk pb pa))) := by
 refine fn_intro func92 rfl ntmps92 nb ?_
 intro S w0 a hS h
 refine gC h (zS (zx rfl fun b2 => zx rfl fun b3 => zz Ju fun b4 => zn (zS (zd rfl mr isAgg43 sizeOf43 Zj ?_))))
 refine zd rfl mr isAgg43 sizeOf43 Zj ?_
 refine zv [_, _] rfl call86 (Zde pb pa oo oo oo oo) ?_
 have hl8 := Yj pb pa
 have hl8 := Yi pb pa
 refine zz Yc fun b5 => zt' rfl rfl Qg uu sizeOf43 rfl nb rfl ?_
 refine zn (zS (zd rfl mr isAgg43 sizeOf43 Zj ?_))
 refine zd rfl mr isAgg43 sizeOf43 Zj ?_
 refine zv [_, _] rfl call50 (Zbt (Jk pb pa) (Jk pb pa) oo oo oo oo) ?_
 have hl11 := Yr (Jk pb pa) (Jk pb pa)
 refine zt' rfl rfl Zp uu sizeOf41 rfl nb rfl ?_; intro a w h
 refine wpList_nil (wp_ret ?_)
 refine Xd h (Zk h rfl (.cell rfl mr isAgg41 sizeOf41 Zh)) ?_
 rfl
theorem Zl4 (pa pb pc : Pt) (hbpa1 : Zu pa.1 ≤ 10000000) (hbpa2 : Zu pa.2 ≤ 10000000) (hbpb1 : Zu pb.1 ≤ 10000000) (hbpb2 : Zu pb.2 ≤ 10000000) (hbpc1 : Zu pc.1 ≤ 10000000) (hbpc2 : Zu pc.2 ≤ 10000000) : Xm Tryz.prog 32 [encPt pa, encPt pb, encPt pc] (.int .i64 (twP pa pb pc).num.sign) := by
 refine fn_intro func32 rfl ntmps32 nb ?_
 intro S w0 a hS h
 refine gC h (zS (zx rfl fun b3 => zx rfl fun b4 => zx rfl fun b5 => za rfl (zn (zs (yD Za [0, 1, 3, 4, 2, 5, 6, 7, 8] (Zd kk) (yd rfl rfl mr isAgg43 sizeOf43 Zj ?_)))))); clear h
 refine yd rfl rfl mr isAgg43 sizeOf43 Zj ?_
 refine yd rfl rfl mr isAgg43 sizeOf43 Zj ?_
 refine yd rfl rfl mr isAgg43 sizeOf43 Zj ?_
 refine yv [_, _] rfl rfl call86 (Zde pb pa oo oo oo oo) ?_
 have hl9 := Yj pb pa
 have hl9 := Yi pb pa
 refine yv [_, _] rfl rfl call86 (Zde pc pa oo oo oo oo) ?_
 have hl12 := Yj pc pa
 have hl12 := Yi pc pa
 refine yv [_, _] rfl rfl call85 (Znu (Jk pb pa) (Jk pc pa) oo oo oo oo) ?_
 have hl13 := Zlg (Jk pb pa) (Jk pc pa)
 refine yv [_] rfl rfl call23 (Zeb _) (yp rfl (.assign rfl) (yn (zt ?_))); intro a w h
 exact Zdj h
theorem Qda (x y : Int) (h0 : -9223372036854775808 ≤ x) (h1 : x ≤ 9223372036854775807) (h2 : -9223372036854775808 ≤ y) (h3 : y ≤ 9223372036854775807) : Xm Tryz.prog 37 [.int .i64 x, .int .i64 y] (encPt ((x : Rat), (y : Rat))) := by
 refine fn_intro func37 rfl ntmps37 nb ?_
 intro S w0 a hS h
 refine gC h (zS (zz Yc fun b4 => zn (zS (zm rfl (zv [_] rfl call21 (Ye _ oo oo) ?_)))))
 have hl6 := Zs (x) oo oo
 refine zm rfl (zv [_] rfl call21 (Ye _ oo oo) ?_)
 have hl8 := Zs (y) oo oo
 refine zp (.build [(_, _), (_, _)] rfl (Zct _ _ _ _ _ _ _ _ _ _)) (zt' rfl rfl Qg uu sizeOf43 rfl nb rfl ?_); intro a w h
 refine wpList_nil (wp_ret ?_)
 refine Xd h (Zk h rfl (.cell rfl mr isAgg43 sizeOf43 Zj)) ?_
 rfl
theorem Zcx (pa pb pc : Pt) (hbpa1 : Zu pa.1 ≤ 10000000) (hbpa2 : Zu pa.2 ≤ 10000000) (hbpb1 : Zu pb.1 ≤ 10000000) (hbpb2 : Zu pb.2 ≤ 10000000) (hbpc1 : Zu pc.1 ≤ 10000000) (hbpc2 : Zu pc.2 ≤ 10000000) : Xm Tryz.prog 98 [encPt pa, encPt pb, encPt pc] (Zr (twP pa pb pc)) := by
 refine fn_intro func98 rfl ntmps98 nb ?_
 intro S w0 a hS h
 refine gC h (zS (zx rfl fun b3 => zx rfl fun b4 => zx rfl fun b5 => zz Ju fun b6 => zn (zs (yD Za [0, 1, 3, 4, 2, 5, 6, 7] (Zd kk) (yd rfl rfl mr isAgg43 sizeOf43 Zj ?_))))); clear h
 refine yd rfl rfl mr isAgg43 sizeOf43 Zj ?_
 refine yd rfl rfl mr isAgg43 sizeOf43 Zj ?_
 refine yd rfl rfl mr isAgg43 sizeOf43 Zj ?_
 refine yv [_, _] rfl rfl call86 (Zde pb pa oo oo oo oo) ?_
 have hl9 := Yj pb pa
 have hl9 := Yi pb pa
 refine yv [_, _] rfl rfl call86 (Zde pc pa oo oo oo oo) ?_
 have hl12 := Yj pc pa
 have hl12 := Yi pc pa
 refine yv [_, _] rfl rfl call85 (Znu (Jk pb pa) (Jk pc pa) oo oo oo oo) ?_
 have hl13 := Zlg (Jk pb pa) (Jk pc pa)
 refine yt rfl rfl rfl Zp uu sizeOf41 rfl nb rfl ?_
 refine yn (zt ?_); intro a w h
 refine Xd h (Zk h rfl (.cell rfl mr isAgg41 sizeOf41 Zh)) ?_
 rfl
theorem Zzy (x : Rat) (hx : Zu x ≤ 100000000) : Xm Tryz.prog 104 [Zr x] (Zr (x * Zvy)) := by
 refine fn_intro func104 rfl ntmps104 nb ?_
 intro S w0 a hS h
 refine gC h (zS (zx rfl fun b1 => zz Ju fun b2 => zn (zS (zv [_, _] rfl call69 (Qdm _ _ oo oo oo oo oo) ?_))))
 have hl6 := Zgd (1) (2) oo oo oo oo
 refine zm rfl (zp (.eX rfl) (zp (.eX rfl) (zz Ju fun b3 => zt' rfl rfl Zp uu sizeOf41 rfl nb rfl ?_)))
 refine za rfl (zn (zS (zd rfl mr isAgg41 sizeOf41 Zh ?_)))
 refine zd rfl mr isAgg41 sizeOf41 Zh ?_
 refine zv [_, _] rfl call18 (Jc _ _ oo oo) ?_
 have hl11 := Zm (x) (((1 : Int) : Rat) / ((2 : Int) : Rat))
 refine zt' rfl rfl Zp uu sizeOf41 rfl nb rfl ?_; intro a w h
 refine wpList_nil (wp_ret ?_)
 refine Xd h (Zk h rfl (.cell rfl mr isAgg41 sizeOf41 Zh)) ?_
 rfl
theorem Zl1 (pa pb pc : Pt) (hbpa1 : Zu pa.1 ≤ 10000000) (hbpa2 : Zu pa.2 ≤ 10000000) (hbpb1 : Zu pb.1 ≤ 10000000) (hbpb2 : Zu pb.2 ≤ 10000000) (hbpc1 : Zu pc.1 ≤ 10000000) (hbpc2 : Zu pc.2 ≤ 10000000) : Xm Tryz.prog 48 [encPt pa, encPt pb, encPt pc] (Zr (Zw pa pb pc)) := by
 refine fn_intro func48 rfl ntmps48 nb ?_
 intro S w0 a hS h
 refine gC h (zS (zx rfl fun b3 => zx rfl fun b4 => zx rfl fun b5 => zz Ju fun b6 => zn (zS (zd rfl mr isAgg43 sizeOf43 Zj ?_))))
 refine zd rfl mr isAgg43 sizeOf43 Zj ?_
 refine zd rfl mr isAgg43 sizeOf43 Zj ?_
 refine zv [_, _, _] rfl call98 (Zcx pa pb pc oo oo oo oo oo oo) ?_
 have hl10 := Kw pa pb pc
 refine zv [_] rfl call104 (Zzy (twP pa pb pc) oo) (zt' rfl rfl Zp uu sizeOf41 rfl nb rfl ?_); intro a w h
 refine wpList_nil (wp_ret ?_)
 refine Xd h (Zk h rfl (.cell rfl mr isAgg41 sizeOf41 Zh)) ?_
 rfl
set_option maxHeartbeats 1000000 in
theorem Zzz (pa pb pc pq : Pt) (hbpa1 : Zu pa.1 ≤ 10000000) (hbpa2 : Zu pa.2 ≤ 10000000) (hbpb1 : Zu pb.1 ≤ 10000000) (hbpb2 : Zu pb.2 ≤ 10000000) (hbpc1 : Zu pc.1 ≤ 10000000) (hbpc2 : Zu pc.2 ≤ 10000000) (hbpq1 : Zu pq.1 ≤ 10000000) (hbpq2 : Zu pq.2 ≤ 10000000) (hT : twP pa pb pc ≠ 0) : Xm Tryz.prog 40 [encPt pa, encPt pb, encPt pc, encPt pq] (.tuple #[Ze3 (Zan pa pb pc pq), .int .i64 0]) := by
 refine fn_intro func40 rfl ntmps40 nb ?_
 intro S w0 a hS h
 refine gC h (zS (zx rfl fun b4 => zx rfl fun b5 => zx rfl fun b6 => zx rfl fun b7 => zz Ztj fun b8 => za rfl (zn (zS (zd rfl mr isAgg43 sizeOf43 Zj ?_)))))
 refine zd rfl mr isAgg43 sizeOf43 Zj ?_
 refine zd rfl mr isAgg43 sizeOf43 Zj ?_
 refine zv [_, _, _] rfl call98 (Zcx pa pb pc oo oo oo oo oo oo) ?_
 have hl18 := Kw pa pb pc
 refine zz Ju fun b10 => zt' rfl rfl Zp uu sizeOf41 rfl nb rfl ?_
 refine zn (zs (yD Za [0, 1, 2, 4, 5, 6, 8, 9, 10, 3, 7, 11, 12, 13, 14] (Qs ⟨.inl rfl, .inl rfl, .inl rfl, .inl rfl, .inl rfl, .inl rfl, .inl rfl, .inl rfl, .inl rfl, .inl rfl, .inl rfl, .inl rfl, .inl rfl, .inr ⟨11, 60, _, _, _, rfl, rfl, by decide, _, Ztj⟩, .inl rfl, trivial⟩) (yd rfl rfl mr isAgg43 sizeOf43 Zj ?_)))
 refine yd rfl rfl mr isAgg43 sizeOf43 Zj ?_
 refine yd rfl rfl mr isAgg43 sizeOf43 Zj ?_
 refine yd rfl rfl mr isAgg43 sizeOf43 Zj ?_
 refine yd rfl rfl mr isAgg43 sizeOf43 Zj ?_
 refine yd rfl rfl mr isAgg43 sizeOf43 Zj ?_
 refine yd rfl rfl mr isAgg43 sizeOf43 Zj ?_
 refine yd rfl rfl mr isAgg43 sizeOf43 Zj ?_
 refine yd rfl rfl mr isAgg43 sizeOf43 Zj ?_
 refine yv [_, _, _] rfl rfl call98 (Zcx pq pb pc oo oo oo oo oo oo) ?_
 have hl22 := Kw pq pb pc
 refine yv [_, _, _] rfl rfl call98 (Zcx pa pq pc oo oo oo oo oo oo) ?_
 have hl26 := Kw pa pq pc
 refine yv [_, _, _] rfl rfl call98 (Zcx pa pb pq oo oo oo oo oo oo) ?_
 have hl30 := Kw pa pb pq
 refine yp rfl (.build [(_, _), (_, _), (_, _)] rfl (Ze6 _ _ _ _ _ _ _ _ _ _ _ _ _ _ _)) (yz rfl Ztj fun b11 => yt rfl rfl rfl Zeh uu sizeOf60 rfl nb rfl ?_)
 refine yn (zs (zS (zm rfl (zn (zb ?_))))); intro a w h
 refine wp_loop_rounds 4 ?_
 refine Ze ?_
 refine gC h (zS (zp (Pure1.cast (v' := .bool true) (.lss rfl rfl) cgd) (zn (zs ?_)))); clear h; intro a w h
 refine Zi h rfl ?_
 refine gC h (zk (zs (zb (zS (zm rfl (za rfl (zn (zs (yD Za [0, 1, 2, 3, 4, 5, 6, 7, 8, 9, 10] (Qs ⟨.inl rfl, .inl rfl, .inl rfl, .inl rfl, .inl rfl, .inl rfl, .inl rfl, .inl rfl, .inr ⟨13, 41, _, _, _, rfl, rfl, by decide, _, Ju⟩, .inl rfl, .inl rfl, trivial⟩) (ym rfl rfl (yp rfl (.indexAddr rfl rfl (Yg _ _)) (yd rfl rfl mr isAgg41 sizeOf41 Zdt ?_)))))))))))); clear h
 refine yd rfl rfl mr isAgg41 sizeOf41 Zh ?_
 refine yv [_, _] rfl rfl call91 (Zdi (twP pq pb pc) (twP pa pb pc) hT oo oo) ?_
 have hl40 := Ym (twP pq pb pc) (twP pa pb pc)
 refine ym rfl rfl (yp rfl (.eX rfl) (yp rfl (.eX rfl) (yz rfl Ju fun b13 => yt rfl rfl rfl Zp uu sizeOf41 rfl nb rfl ?_)))
 refine yp rfl (.assign rfl) (yn (zs (zS (zm rfl (zp (Pure1.cast (v' := .bool false) (.neq rfl rfl) cgd) (zn ?_)))))); intro a w h
 refine cW ?_
 refine Zf h rfl ?_
 refine gC h (zk (zr (zm rfl (zd rfl mr isAgg41 sizeOf41 Zh ?_))))
 refine zp (.indexAddr rfl rfl (Yg _ _)) (zt' rfl rfl Zt5 uu sizeOf41 rfl nb rfl ?_)
 refine zn (zr (zp (Pure1.cast (v' := .int .i64 1) (.add rfl rfl) cgd) (zm rfl (zn ?_)))); intro a w h
 replace h : St 51 S w0 [(8, pB b8), (9, .int .i64 0), (10, pB b10), (11, pB b11), (32, .int .i64 1), (33, .bool true), (44, .bool false)] [(b11, bV (Ze3 (((twP pq pb pc) / (twP pa pb pc), twP pa pq pc, twP pa pb pq))) 60), (b10, bV (Zr (twP pa pb pc)) 41), (b8, bV (Ze3 ((0, 0, 0))) 60), (b7, bV (Zbr pq.1 pq.2) 43), (b6, bV (Zbr pc.1 pc.2) 43), (b5, bV (Zbr pb.1 pb.2) 43), (b4, bV (Zbr pa.1 pa.2) 43)] [] a w := by exact (h.drop sl).sub sA
 refine Ze ?_
 refine gC h (zS (zp (Pure1.cast (v' := .bool true) (.lss rfl rfl) cgd) (zn (zs ?_)))); clear h; intro a w h
 refine Zi h rfl ?_
 refine gC h (zk (zs (zb (zS (zm rfl (za rfl (zn (zs (yD Za [0, 1, 2, 3, 4, 5, 6, 7, 8, 9, 10] (Qs ⟨.inl rfl, .inl rfl, .inl rfl, .inl rfl, .inl rfl, .inl rfl, .inl rfl, .inl rfl, .inr ⟨13, 41, _, _, _, rfl, rfl, by decide, _, Ju⟩, .inl rfl, .inl rfl, trivial⟩) (ym rfl rfl (yp rfl (.indexAddr rfl rfl (Xt _ _)) (yd rfl rfl mr isAgg41 sizeOf41 Zaj ?_)))))))))))); clear h
 refine yd rfl rfl mr isAgg41 sizeOf41 Zh ?_
 refine yv [_, _] rfl rfl call91 (Zdi (twP pa pq pc) (twP pa pb pc) hT oo oo) ?_
 have hl40 := Ym (twP pa pq pc) (twP pa pb pc)
 refine ym rfl rfl (yp rfl (.eX rfl) (yp rfl (.eX rfl) (yz rfl Ju fun b13 => yt rfl rfl rfl Zp uu sizeOf41 rfl nb rfl ?_)))
 refine yp rfl (.assign rfl) (yn (zs (zS (zm rfl (zp (Pure1.cast (v' := .bool false) (.neq rfl rfl) cgd) (zn ?_)))))); intro a w h
 refine cW ?_
 refine Zf h rfl ?_
 refine gC h (zk (zr (zm rfl (zd rfl mr isAgg41 sizeOf41 Zh ?_))))
 refine zp (.indexAddr rfl rfl (Xt _ _)) (zt' rfl rfl Zt4 uu sizeOf41 rfl nb rfl ?_)
 refine zn (zr (zp (Pure1.cast (v' := .int .i64 2) (.add rfl rfl) cgd) (zm rfl (zn ?_)))); intro a w h
 replace h : St 51 S w0 [(8, pB b8), (9, .int .i64 0), (10, pB b10), (11, pB b11), (32, .int .i64 2), (33, .bool true), (44, .bool false)] [(b11, bV (Ze3 (((twP pq pb pc) / (twP pa pb pc), (twP pa pq pc) / (twP pa pb pc), twP pa pb pq))) 60), (b10, bV (Zr (twP pa pb pc)) 41), (b8, bV (Ze3 ((0, 0, 0))) 60), (b7, bV (Zbr pq.1 pq.2) 43), (b6, bV (Zbr pc.1 pc.2) 43), (b5, bV (Zbr pb.1 pb.2) 43), (b4, bV (Zbr pa.1 pa.2) 43)] [] a w := by exact (h.drop sl).sub sA
 refine Ze ?_
 refine gC h (zS (zp (Pure1.cast (v' := .bool true) (.lss rfl rfl) cgd) (zn (zs ?_)))); clear h; intro a w h
 refine Zi h rfl ?_
 refine gC h (zk (zs (zb (zS (zm rfl (za rfl (zn (zs (yD Za [0, 1, 2, 3, 4, 5, 6, 7, 8, 9, 10] (Qs ⟨.inl rfl, .inl rfl, .inl rfl, .inl rfl, .inl rfl, .inl rfl, .inl rfl, .inl rfl, .inr ⟨13, 41, _, _, _, rfl, rfl, by decide, _, Ju⟩, .inl rfl, .inl rfl, trivial⟩) (ym rfl rfl (yp rfl (.indexAddr rfl rfl (Yf _ _)) (yd rfl rfl mr isAgg41 sizeOf41 Zcp ?_)))))))))))); clear h
 refine yd rfl rfl mr isAgg41 sizeOf41 Zh ?_
 refine yv [_, _] rfl rfl call91 (Zdi (twP pa pb pq) (twP pa pb pc) hT oo oo) ?_
 have hl40 := Ym (twP pa pb pq) (twP pa pb pc)
 refine ym rfl rfl (yp rfl (.eX rfl) (yp rfl (.eX rfl) (yz rfl Ju fun b13 => yt rfl rfl rfl Zp uu sizeOf41 rfl nb rfl ?_)))
 refine yp rfl (.assign rfl) (yn (zs (zS (zm rfl (zp (Pure1.cast (v' := .bool false) (.neq rfl rfl) cgd) (zn ?_)))))); intro a w h
 refine cW ?_
 refine Zf h rfl ?_
 refine gC h (zk (zr (zm rfl (zd rfl mr isAgg41 sizeOf41 Zh ?_))))
 refine zp (.indexAddr rfl rfl (Yf _ _)) (zt' rfl rfl Zry uu sizeOf41 rfl nb rfl ?_)
 refine zn (zr (zp (Pure1.cast (v' := .int .i64 3) (.add rfl rfl) cgd) (zm rfl (zn ?_)))); intro a w h
 replace h : St 51 S w0 [(8, pB b8), (9, .int .i64 0), (10, pB b10), (11, pB b11), (32, .int .i64 3), (33, .bool true), (44, .bool false)] [(b11, bV (Ze3 (((twP pq pb pc) / (twP pa pb pc), (twP pa pq pc) / (twP pa pb pc), (twP pa pb pq) / (twP pa pb pc)))) 60), (b10, bV (Zr (twP pa pb pc)) 41), (b8, bV (Ze3 ((0, 0, 0))) 60), (b7, bV (Zbr pq.1 pq.2) 43), (b6, bV (Zbr pc.1 pc.2) 43), (b5, bV (Zbr pb.1 pb.2) 43), (b4, bV (Zbr pa.1 pa.2) 43)] [] a w := by exact (h.drop sl).sub sA
 refine Ze ?_
 refine gC h (zS (zp (Pure1.cast (v' := .bool false) (.lss rfl rfl) cgd) (zn (zs ?_)))); clear h; intro a w h
 refine Zf h rfl ?_
 refine gC h (ze (zS (zd rfl mr isAgg60 sizeOf60 Zf9 ?_)))
 refine zt' rfl rfl Zeh uu sizeOf60 rfl nb rfl ?_; intro a w h
 refine gL h (za rfl (zn (zt ?_))); clear h; intro a w h
 refine Xd h (Qq h rfl (.cell rfl mr isAgg60 sizeOf60 Zf9) (.tmp rfl)) ?_
 rfl
set_option maxHeartbeats 1000000 in
theorem Znr (pa pb pc : Pt) (hbpa1 : Zu pa.1 ≤ 10000000) (hbpa2 : Zu pa.2 ≤ 10000000) (hbpb1 : Zu pb.1 ≤ 10000000) (hbpb2 : Zu pb.2 ≤ 10000000) (hbpc1 : Zu pc.1 ≤ 10000000) (hbpc2 : Zu pc.2 ≤ 10000000) (hT : twP pa pb pc ≠ 0) : Xm Tryz.prog 41 [encPt pa, encPt pb, encPt pc] (.tuple #[Jb (Zb pa pb pc).1 (Zb pa pb pc).2.1 (Zb pa pb pc).2.2, .int .i64 0]) := by
 refine fn_intro func41 rfl ntmps41 nb ?_
 intro S w0 a hS h
 refine gC h (zS (zx rfl fun b3 => zx rfl fun b4 => zx rfl fun b5 => zz Zcl fun b6 => za rfl (zn (zS (zd rfl mr isAgg43 sizeOf43 Zj ?_)))))
 refine zd rfl mr isAgg43 sizeOf43 Zj ?_
 refine zd rfl mr isAgg43 sizeOf43 Zj ?_
 refine zv [_, _, _] rfl call98 (Zcx pa pb pc oo oo oo oo oo oo) ?_
 have hl16 := Kw pa pb pc
 refine zz Ju fun b8 => zt' rfl rfl Zp uu sizeOf41 rfl nb rfl ?_
 refine zn (zs (zS (zd rfl mr isAgg41 sizeOf41 Zh ?_)))
 refine zv [_] rfl call23 (Zeb _) (zp (.eql rfl rfl) ?_); intro a w h
 refine Qp h (fun hc19 h => (by exfalso; exact hT (sgn0 (by simpa using hc19)))) (fun hc19 h => ?_)
 refine wpList_nil ?_
 refine cW ?_
 refine Zf h rfl ?_
 refine gC h (zk (zS (zz Zcl fun b9 => zn (zS (zd rfl mr isAgg43 sizeOf43 Zj ?_)))))
 refine zd rfl mr isAgg43 sizeOf43 Zj ?_
 refine zd rfl mr isAgg43 sizeOf43 Zj ?_
 refine zp (.build [(_, _), (_, _), (_, _)] rfl (Ze7 _ _ _ _ _ _ _ _ _ _ _ _ _ _ _ _ _ _ _ _ _ _ _ _ _ _ _ _ _ _)) (zz Zcl fun b10 => zt' rfl rfl Vl uu sizeOf44 rfl nb rfl ?_)
 refine zn (zs (zS (zm rfl (zn (zb ?_))))); intro a w h
 refine wp_loop_rounds 4 ?_
 refine Ze ?_
 refine gC h (zS (zp (Pure1.cast (v' := .bool true) (.lss rfl rfl) cgd) (zn (zs ?_)))); clear h; intro a w h
 refine Zi h rfl ?_
 refine gC h (zk (zs (zb (zS (zm rfl (za rfl (zn (zs (yD Za [0, 1, 2, 3, 4, 5, 6, 7, 8, 9, 10, 11, 12] (Qs ⟨.inl rfl, .inl rfl, .inl rfl, .inl rfl, .inl rfl, .inl rfl, .inl rfl, .inl rfl, .inl rfl, .inl rfl, .inl rfl, .inr ⟨12, 43, _, _, _, rfl, rfl, by decide, _, Yc⟩, .inl rfl, trivial⟩) (ym rfl rfl (yp rfl (Pure1.cast (v' := .int .i64 2) (.add rfl rfl) cgd) (yp rfl (Pure1.cast (v' := .int .i64 2) (.binOp rfl rfl (fun _ => Xp _ _ _ _ _ dd)) cgd) (yp rfl (.indexAddr rfl rfl (Xg _ _)) (yd rfl rfl mr isAgg43 sizeOf43 Jm ?_)))))))))))))); clear h
 refine ym rfl rfl (yp rfl (Pure1.cast (v' := .int .i64 1) (.add rfl rfl) cgd) (yp rfl (Pure1.cast (v' := .int .i64 1) (.binOp rfl rfl (fun _ => Xp _ _ _ _ _ dd)) cgd) (yp rfl (.indexAddr rfl rfl (Xh _ _)) (yd rfl rfl mr isAgg43 sizeOf43 Jn ?_))))
 refine yv [_, _] rfl rfl call86 (Zde pc pb oo oo oo oo) ?_
 have hl38 := Yj pc pb
 have hl38 := Yi pc pb
 refine yz rfl Yc fun b12 => yt rfl rfl rfl Qg uu sizeOf43 rfl nb rfl ?_
 refine yn (zs (yD Za [0, 1, 2, 4, 3, 5, 6, 7, 8, 9, 10, 11] (Zd kk) (ym rfl rfl (yp rfl (.fA rfl Yt) (yd rfl rfl mr isAgg41 sizeOf41 Je ?_)))))
 refine yd rfl rfl mr isAgg41 sizeOf41 Zh ?_
 refine yv [_] rfl rfl call93 (Zn1 _) ?_
 have hl43 := Zb9 ((Jk pc pb).2)
 refine yv [_, _] rfl rfl call91 (Zdi (-((Jk pc pb).2)) (twP pa pb pc) hT oo oo) ?_
 have hl45 := Ym (-((Jk pc pb).2)) (twP pa pb pc)
 refine ym rfl rfl (yp rfl (.eX rfl) (yp rfl (.eX rfl) (yp rfl (.indexAddr rfl rfl (Xu _ _)) (yp rfl (.fA rfl Yu) (yt rfl rfl rfl Zt3 uu sizeOf41 rfl nb rfl ?_)))))
 refine yn (zr (zm rfl (zp (.fA rfl Yu) (zd rfl mr isAgg41 sizeOf41 Jf ?_))))
 refine zd rfl mr isAgg41 sizeOf41 Zh ?_
 refine zv [_, _] rfl call91 (Zdi ((Jk pc pb).1) (twP pa pb pc) hT oo oo) ?_
 have hl55 := Ym ((Jk pc pb).1) (twP pa pb pc)
 refine zm rfl (zp (.eX rfl) (zp (.eX rfl) (zp (.indexAddr rfl rfl (Xu _ _)) (zp (.fA rfl Yt) (zt' rfl rfl Zt2 uu sizeOf41 rfl nb rfl ?_)))))
 refine zn (zr (zp (Pure1.cast (v' := .int .i64 1) (.add rfl rfl) cgd) (zm rfl (zn ?_)))); intro a w h
 replace h : St 62 S w0 [(6, pB b6), (7, .int .i64 0), (8, pB b8), (9, pB b9), (10, pB b10), (25, .int .i64 1), (26, .bool true)] [(b10, bV (Jb pa pb pc) 44), (b9, bV (Jb (((-((Jk pc pb).2)) / (twP pa pb pc), ((Jk pc pb).1) / (twP pa pb pc))) (0, 0) (0, 0)) 44), (b8, bV (Zr (twP pa pb pc)) 41), (b6, bV (Jb (0, 0) (0, 0) (0, 0)) 44), (b5, bV (Zbr pc.1 pc.2) 43), (b4, bV (Zbr pb.1 pb.2) 43), (b3, bV (Zbr pa.1 pa.2) 43)] [] a w := by exact (h.drop sl).sub sA
 refine Ze ?_
 refine gC h (zS (zp (Pure1.cast (v' := .bool true) (.lss rfl rfl) cgd) (zn (zs ?_)))); clear h; intro a w h
 refine Zi h rfl ?_
 refine gC h (zk (zs (zb (zS (zm rfl (za rfl (zn (zs (yD Za [0, 1, 2, 3, 4, 5, 6, 7, 8, 9, 10, 11, 12] (Qs ⟨.inl rfl, .inl rfl, .inl rfl, .inl rfl, .inl rfl, .inl rfl, .inl rfl, .inl rfl, .inl rfl, .inl rfl, .inl rfl, .inr ⟨12, 43, _, _, _, rfl, rfl, by decide, _, Yc⟩, .inl rfl, trivial⟩) (ym rfl rfl (yp rfl (Pure1.cast (v' := .int .i64 3) (.add rfl rfl) cgd) (yp rfl (Pure1.cast (v' := .int .i64 0) (.binOp rfl rfl (fun _ => Xp _ _ _ _ _ dd)) cgd) (yp rfl (.indexAddr rfl rfl (Xu _ _)) (yd rfl rfl mr isAgg43 sizeOf43 Jy ?_)))))))))))))); clear h
 refine ym rfl rfl (yp rfl (Pure1.cast (v' := .int .i64 2) (.add rfl rfl) cgd) (yp rfl (Pure1.cast (v' := .int .i64 2) (.binOp rfl rfl (fun _ => Xp _ _ _ _ _ dd)) cgd) (yp rfl (.indexAddr rfl rfl (Xg _ _)) (yd rfl rfl mr isAgg43 sizeOf43 Jm ?_))))
 refine yv [_, _] rfl rfl call86 (Zde pa pc oo oo oo oo) ?_
 have hl38 := Yj pa pc
 have hl38 := Yi pa pc
 refine yz rfl Yc fun b12 => yt rfl rfl rfl Qg uu sizeOf43 rfl nb rfl ?_
 refine yn (zs (yD Za [0, 1, 2, 4, 3, 5, 6, 7, 8, 9, 10, 11] (Zd kk) (ym rfl rfl (yp rfl (.fA rfl Yt) (yd rfl rfl mr isAgg41 sizeOf41 Je ?_)))))
 refine yd rfl rfl mr isAgg41 sizeOf41 Zh ?_
 refine yv [_] rfl rfl call93 (Zn1 _) ?_
 have hl43 := Zb9 ((Jk pa pc).2)
 refine yv [_, _] rfl rfl call91 (Zdi (-((Jk pa pc).2)) (twP pa pb pc) hT oo oo) ?_
 have hl45 := Ym (-((Jk pa pc).2)) (twP pa pb pc)
 refine ym rfl rfl (yp rfl (.eX rfl) (yp rfl (.eX rfl) (yp rfl (.indexAddr rfl rfl (Xh _ _)) (yp rfl (.fA rfl Yu) (yt rfl rfl rfl Zrx uu sizeOf41 rfl nb rfl ?_)))))
 refine yn (zr (zm rfl (zp (.fA rfl Yu) (zd rfl mr isAgg41 sizeOf41 Jf ?_))))
 refine zd rfl mr isAgg41 sizeOf41 Zh ?_
 refine zv [_, _] rfl call91 (Zdi ((Jk pa pc).1) (twP pa pb pc) hT oo oo) ?_
 have hl55 := Ym ((Jk pa pc).1) (twP pa pb pc)
 refine zm rfl (zp (.eX rfl) (zp (.eX rfl) (zp (.indexAddr rfl rfl (Xh _ _)) (zp (.fA rfl Yt) (zt' rfl rfl Zrw uu sizeOf41 rfl nb rfl ?_)))))
 refine zn (zr (zp (Pure1.cast (v' := .int .i64 2) (.add rfl rfl) cgd) (zm rfl (zn ?_)))); intro a w h
 replace h : St 62 S w0 [(6, pB b6), (7, .int .i64 0), (8, pB b8), (9, pB b9), (10, pB b10), (25, .int .i64 2), (26, .bool true)] [(b10, bV (Jb pa pb pc) 44), (b9, bV (Jb (((-((Jk pc pb).2)) / (twP pa pb pc), ((Jk pc pb).1) / (twP pa pb pc))) (((-((Jk pa pc).2)) / (twP pa pb pc), ((Jk pa pc).1) / (twP pa pb pc))) (0, 0)) 44), (b8, bV (Zr (twP pa pb pc)) 41), (b6, bV (Jb (0, 0) (0, 0) (0, 0)) 44), (b5, bV (Zbr pc.1 pc.2) 43), (b4, bV (Zbr pb.1 pb.2) 43), (b3, bV (Zbr pa.1 pa.2) 43)] [] a w := by exact (h.drop sl).sub sA
 refine Ze ?_
 refine gC h (zS (zp (Pure1.cast (v' := .bool true) (.lss rfl rfl) cgd) (zn (zs ?_)))); clear h; intro a w h
 refine Zi h rfl ?_
 refine gC h (zk (zs (zb (zS (zm rfl (za rfl (zn (zs (yD Za [0, 1, 2, 3, 4, 5, 6, 7, 8, 9, 10, 11, 12] (Qs ⟨.inl rfl, .inl rfl, .inl rfl, .inl rfl, .inl rfl, .inl rfl, .inl rfl, .inl rfl, .inl rfl, .inl rfl, .inl rfl, .inr ⟨12, 43, _, _, _, rfl, rfl, by decide, _, Yc⟩, .inl rfl, trivial⟩) (ym rfl rfl (yp rfl (Pure1.cast (v' := .int .i64 4) (.add rfl rfl) cgd) (yp rfl (Pure1.cast (v' := .int .i64 1) (.binOp rfl rfl (fun _ => Xp _ _ _ _ _ dd)) cgd) (yp rfl (.indexAddr rfl rfl (Xh _ _)) (yd rfl rfl mr isAgg43 sizeOf43 Jn ?_)))))))))))))); clear h
 refine ym rfl rfl (yp rfl (Pure1.cast (v' := .int .i64 3) (.add rfl rfl) cgd) (yp rfl (Pure1.cast (v' := .int .i64 0) (.binOp rfl rfl (fun _ => Xp _ _ _ _ _ dd)) cgd) (yp rfl (.indexAddr rfl rfl (Xu _ _)) (yd rfl rfl mr isAgg43 sizeOf43 Jy ?_))))
 refine yv [_, _] rfl rfl call86 (Zde pb pa oo oo oo oo) ?_
 have hl38 := Yj pb pa
 have hl38 := Yi pb pa
 refine yz rfl Yc fun b12 => yt rfl rfl rfl Qg uu sizeOf43 rfl nb rfl ?_
 refine yn (zs (yD Za [0, 1, 2, 4, 3, 5, 6, 7, 8, 9, 10, 11] (Zd kk) (ym rfl rfl (yp rfl (.fA rfl Yt) (yd rfl rfl mr isAgg41 sizeOf41 Je ?_)))))
 refine yd rfl rfl mr isAgg41 sizeOf41 Zh ?_
 refine yv [_] rfl rfl call93 (Zn1 _) ?_
 have hl43 := Zb9 ((Jk pb pa).2)
 refine yv [_, _] rfl rfl call91 (Zdi (-((Jk pb pa).2)) (twP pa pb pc) hT oo oo) ?_
 have hl45 := Ym (-((Jk pb pa).2)) (twP pa pb pc)
 refine ym rfl rfl (yp rfl (.eX rfl) (yp rfl (.eX rfl) (yp rfl (.indexAddr rfl rfl (Xg _ _)) (yp rfl (.fA rfl Yu) (yt rfl rfl rfl Zrv uu sizeOf41 rfl nb rfl ?_)))))
 refine yn (zr (zm rfl (zp (.fA rfl Yu) (zd rfl mr isAgg41 sizeOf41 Jf ?_))))
 refine zd rfl mr isAgg41 sizeOf41 Zh ?_
 refine zv [_, _] rfl call91 (Zdi ((Jk pb pa).1) (twP pa pb pc) hT oo oo) ?_
 have hl55 := Ym ((Jk pb pa).1) (twP pa pb pc)
 refine zm rfl (zp (.eX rfl) (zp (.eX rfl) (zp (.indexAddr rfl rfl (Xg _ _)) (zp (.fA rfl Yt) (zt' rfl rfl Zru uu sizeOf41 rfl nb rfl ?_)))))
 refine zn (zr (zp (Pure1.cast (v' := .int .i64 3) (.add rfl rfl) cgd) (zm rfl (zn ?_)))); intro a w h
 replace h : St 62 S w0 [(6, pB b6), (7, .int .i64 0), (8, pB b8), (9, pB b9), (10, pB b10), (25, .int .i64 3), (26, .bool true)] [(b10, bV (Jb pa pb pc) 44), (b9, bV (Jb (((-((Jk pc pb).2)) / (twP pa pb pc), ((Jk pc pb).1) / (twP pa pb pc))) (((-((Jk pa pc).2)) / (twP pa pb pc), ((Jk pa pc).1) / (twP pa pb pc))) (((-((Jk pb pa).2)) / (twP pa pb pc), ((Jk pb pa).1) / (twP pa pb pc)))) 44), (b8, bV (Zr (twP pa pb pc)) 41), (b6, bV (Jb (0, 0) (0, 0) (0, 0)) 44), (b5, bV (Zbr pc.1 pc.2) 43), (b4, bV (Zbr pb.1 pb.2) 43), (b3, bV (Zbr pa.1 pa.2) 43)] [] a w := by exact (h.drop sl).sub sA
 refine Ze ?_
 refine gC h (zS (zp (Pure1.cast (v' := .bool false) (.lss rfl rfl) cgd) (zn (zs ?_)))); clear h; intro a w h
 refine Zf h rfl ?_
 refine gC h (ze (zS (zd rfl mr isAgg44 sizeOf44 Qz ?_)))
 refine zt' rfl rfl Vl uu sizeOf44 rfl nb rfl ?_; intro a w h
 refine gL h (za rfl (zn (zt ?_))); clear h; intro a w h
 refine Xd h (Qq h rfl (.cell rfl mr isAgg44 sizeOf44 Qz) (.tmp rfl)) ?_
 rfl
end
section
theorem Zvp (b off j : Nat) (h : j < 3) (w : World) : (Instr.indexAt 108 (.pointer (some ⟨b, off, none⟩)) (.int .i64 (j : Int))).run Tryz.prog w = .ok (.pointer (some ⟨b, off + j, none⟩)) w := by simpa using Zo2 runUnderlying108 sizeOf3 b off j h w
theorem Zam (b off : Nat) (w : World) : (Instr.indexAt 108 (.pointer (some ⟨b, off, none⟩)) (.int .i64 0)).run Tryz.prog w = .ok (.pointer (some ⟨b, off + 0, none⟩)) w := by
 simp [go_sem, Instr.indexAt]
theorem Zal (b off : Nat) (w : World) : (Instr.indexAt 108 (.pointer (some ⟨b, off, none⟩)) (.int .i64 1)).run Tryz.prog w = .ok (.pointer (some ⟨b, off + 1, none⟩)) w := by
 simp [go_sem, Instr.indexAt]
theorem Zak (b off : Nat) (w : World) : (Instr.indexAt 108 (.pointer (some ⟨b, off, none⟩)) (.int .i64 2)).run Tryz.prog w = .ok (.pointer (some ⟨b, off + 2, none⟩)) w := by
 simp [go_sem, Instr.indexAt]
theorem Zag (x0 : Int) (x1 : Int) (x2 : Int) (x3_0 : Value) (x3_1 : Value) (x3_2 : Value) (x3_3 : Value) (x3_4 : Value) (w : World) : (Instr.build 107 [(0, .int .i64 x0), (1, .int .i64 x1), (2, .int .i64 x2), (3, .agg #[x3_0, x3_1, x3_2, x3_3, x3_4])].toArray).run Tryz.prog w = .ok (.agg #[.int .i64 x0, .int .i64 x1, .int .i64 x2, x3_0, x3_1, x3_2, x3_3, x3_4]) w := by simp [go_sem]
theorem Gz {c0 c1 c2 c3 c4 c5 c6 c7 v0 v1 v2 v3 v4 v5 v6 v7 : Value} : Qc #[c0, c1, c2, c3, c4, c5, c6, c7] 0 [v0, v1, v2, v3, v4, v5, v6, v7] = #[v0, v1, v2, v3, v4, v5, v6, v7] := by kernel_rfl
theorem Zp8 {c0 c1 c2 c3 c4 c5 c6 c7 : Value} : Qe true 8 #[c0, c1, c2, c3, c4, c5, c6, c7] 0 = some (.agg #[c0, c1, c2, c3, c4, c5, c6, c7]) := rfl
theorem Zbb (x0 : Int) (w : World) : (Instr.buildSlice 215 1 [(0, .int .i64 x0)].toArray).run Tryz.prog w = .ok (.slice (some ⟨w.heap.size, 0, none⟩) 1 1) (w.alloc (.cells #[.int .i64 x0] 3 (0, 0))) := by
 simp [go_sem]
theorem Zbc (x0_0 : Value) (x0_1 : Value) (x0_2 : Value) (x0_3 : Value) (x0_4 : Value) (x0_5 : Value) (x0_6 : Value) (x0_7 : Value) (w : World) : (Instr.buildSlice 103 1 [(0, .agg #[x0_0, x0_1, x0_2, x0_3, x0_4, x0_5, x0_6, x0_7])].toArray).run Tryz.prog w = .ok (.slice (some ⟨w.heap.size, 0, none⟩) 1 1) (w.alloc (.cells #[x0_0, x0_1, x0_2, x0_3, x0_4, x0_5, x0_6, x0_7] 107 (0, 0))) := by
 simp [go_sem]
theorem Zd8 (x0_0 : Value) (x0_1 : Value) (x0_2 : Value) (x0_3 : Value) (x0_4 : Value) (x0_5 : Value) (x0_6 : Value) (x0_7 : Value) (x1_0 : Value) (x1_1 : Value) (x1_2 : Value) (x1_3 : Value) (x1_4 : Value) (x1_5 : Value) (x1_6 : Value) (x1_7 : Value) (w : World) : (Instr.buildSlice 103 2 [(0, .agg #[x0_0, x0_1, x0_2, x0_3, x0_4, x0_5, x0_6, x0_7]), (1, .agg #[x1_0, x1_1, x1_2, x1_3, x1_4, x1_5, x1_6, x1_7])].toArray).run Tryz.prog w = .ok (.slice (some ⟨w.heap.size, 0, none⟩) 2 2) (w.alloc (.cells #[x0_0, x0_1, x0_2, x0_3, x0_4, x0_5, x0_6, x0_7, x1_0, x1_1, x1_2, x1_3, x1_4, x1_5, x1_6, x1_7] 107 (0, 0))) := by
 simp [go_sem]
theorem Zvs (b off : Nat) (w : World) : (Instr.indexAt 164 (.pointer (some ⟨b, off, none⟩)) (.int .i64 0)).run Tryz.prog w = .ok (.pointer (some ⟨b, off + 0, none⟩)) w := by
 simp [go_sem, Instr.indexAt]
theorem Zit (b off : Nat) (w : World) : (Instr.indexAt 163 (.pointer (some ⟨b, off, none⟩)) (.int .i64 0)).run Tryz.prog w = .ok (.pointer (some ⟨b, off + 0, none⟩)) w := by
 simp [go_sem, Instr.indexAt]
theorem Zis (b off : Nat) (w : World) : (Instr.indexAt 163 (.pointer (some ⟨b, off, none⟩)) (.int .i64 1)).run Tryz.prog w = .ok (.pointer (some ⟨b, off + 1, none⟩)) w := by
 simp [go_sem, Instr.indexAt]
theorem Zvr (b off : Nat) (w : World) : (Instr.indexAt 164 (.pointer (some ⟨b, off, none⟩)) (.int .i64 1)).run Tryz.prog w = .ok (.pointer (some ⟨b, off + 2, none⟩)) w := by
 simp [go_sem, Instr.indexAt]
theorem Zvq (b off : Nat) (w : World) : (Instr.indexAt 164 (.pointer (some ⟨b, off, none⟩)) (.int .i64 2)).run Tryz.prog w = .ok (.pointer (some ⟨b, off + 4, none⟩)) w := by
 simp [go_sem, Instr.indexAt]
def pw0 : Pw := ⟨0, 0, 0, 0⟩
abbrev Qi (p : Pw) : Value := .agg #[.int .i64 ((p.i : Nat) : Int), .int .i64 ((p.j : Nat) : Int), .int .i64 ((p.k : Nat) : Int), .int .u64 (Kv p.c.num.natAbs), .string (Yx p.c.num.natAbs), .bool (decide (p.c.num < 0)), .int .u64 (Kv (p.c.den - 1)), .string (Yx (p.c.den - 1))]
theorem Zes (w : World) : (zeroValue 107).run Tryz.prog w = .ok (Qi pw0) w := zeroValue107 w
theorem Zpp (w : World) : (zeroValue 108).run Tryz.prog w = .ok (.agg #[.int .i64 ((0 : Nat) : Int), .int .i64 ((0 : Nat) : Int), .int .i64 ((0 : Nat) : Int)]) w := zeroValue108 w
theorem Zgj {q : List Pw} {k : Nat} (h : k < q.length) : (List.map Qi q).getD k undef = Qi (q.getD k pw0) := by simp [List.getD, h]
theorem Zdp (b : Nat) (l : List Pw) {i : Nat} (h : i < l.length) : (slp b (l.take (i + 1))).length = (slp b (l.take i)).length + (if exP (l.getD i pw0) b ≠ 0 then 1 else 0) := by
 rw [List.take_add_one, List.getElem?_eq_getElem h, Option.toList_some]
 unfold slp
 rw [List.filter_append, List.map_append, List.length_append]
 have e : l.getD i pw0 = l[i] := by simp [List.getD, h]
 rw [e]
 by_cases h2 : exP l[i] b ≠ 0
 · rw [if_pos h2, List.filter_cons, if_pos (by simpa using h2)]; simp
 · rw [if_neg h2, List.filter_cons, if_neg (by simpa using h2)]; simp
theorem Zoc (b : Nat) (l : List Pw) {i : Nat} (h : i < l.length) (h2 : exP (l.getD i pw0) b ≠ 0) : (slp b (l.take i)).length < ((slp b l).map Qi).length ∧ ((slp b l).map Qi).getD (slp b (l.take i)).length undef = Qi (dnP b (l.getD i pw0)) := by
 have e : l.getD i pw0 = l[i] := by simp [List.getD, h]
 rw [e] at h2 ⊢
 have hl : l = l.take i ++ (l[i] :: l.drop (i + 1)) := by rw [← List.drop_eq_getElem_cons h, List.take_append_drop]
 have hs : slp b l = slp b (l.take i) ++ (dnP b l[i] :: slp b (l.drop (i + 1))) := by
  conv => lhs; rw [hl]
  unfold slp
  rw [List.filter_append, List.map_append, List.filter_cons, if_pos (by simpa using h2)]
  rfl
 rw [hs]
 constructor
 · simp
 ·
  rw [List.map_append, List.map_cons, List.getD, List.getElem?_append_right ss]
  simp
def OkPw (l : List Pw) : Prop := l.length ≤ 10 ∧ ∀ x ∈ l, x.i ≤ 4 ∧ x.j ≤ 4 ∧ x.k ≤ 4 ∧ Zu x.c ≤ 100
theorem OkPw.slp {l : List Pw} (h : ∀ x ∈ l, x.i ≤ 4 ∧ x.j ≤ 4 ∧ x.k ≤ 4 ∧ Zu x.c ≤ 50) (hl : l.length ≤ 10) (b : Nat) : OkPw (slp b l) := by
 refine ⟨?_, fun x hx => ?_⟩
 · unfold YthcjdeklpegceaaGreatDoor.slp; rw [List.length_map]; exact Nat.le_trans (List.length_filter_le _ _) hl
 ·
  unfold YthcjdeklpegceaaGreatDoor.slp at hx
  obtain ⟨y, hy, rfl⟩ := List.mem_map.1 hx
  obtain ⟨h1, h2, h3, h4⟩ := h y (List.mem_filter.1 hy).1
  have c := fun n (hn : n ≤ 4) => Nat.le_trans (Zm y.c (((n : Nat) : Int) : Rat)) (Nat.add_le_add h4 (Zs ((n : Nat) : Int) oo oo))
  match b with
  | 0 => exact ⟨by simp only [dnP]; omega, by simp only [dnP]; omega, by simp only [dnP]; omega, Nat.le_trans (c y.i h1) dd⟩
  | 1 => exact ⟨by simp only [dnP]; omega, by simp only [dnP]; omega, by simp only [dnP]; omega, Nat.le_trans (c y.j h2) dd⟩
  | _ + 2 => exact ⟨by simp only [dnP]; omega, by simp only [dnP]; omega, by simp only [dnP]; omega, Nat.le_trans (c y.k h3) dd⟩
theorem Zl7 : Xm Tryz.prog 43 [.int .i64 1] (.int .i64 3) := by
 refine fn_intro func43 rfl ntmps43 nb ?_
 intro S w0 a hS h
 refine gC h (zS (za rfl (zn (zs (zS (zm rfl (zn (zb (zS (zp (Pure1.cast (v' := .bool true) (.eql rfl rfl) cgd) (za rfl (zn ?_)))))))))))); clear h; intro a w h
 refine cW ?_
 refine Zi h rfl ?_
 refine gC h (zS (za rfl (zn (zt ?_)))); clear h; intro a w h
 exact Zdj h
theorem Zxe : Xm Tryz.prog 43 [.int .i64 2] (.int .i64 6) := by
 refine fn_intro func43 rfl ntmps43 nb ?_
 intro S w0 a hS h
 refine gC h (zS (za rfl (zn (zs (zS (zm rfl (zn (zb (zS (zp (Pure1.cast (v' := .bool false) (.eql rfl rfl) cgd) (za rfl (zn ?_)))))))))))); clear h; intro a w h
 refine cW ?_
 refine Zf h rfl ?_
 refine gC h (zS (zp (Pure1.cast (v' := .bool true) (.eql rfl rfl) cgd) (za rfl (zn ?_)))); clear h; intro a w h
 refine cW ?_
 refine Zi h rfl ?_
 refine gC h (zS (za rfl (zn (zt ?_)))); clear h; intro a w h
 exact Zdj h
theorem Zl3 (n : Nat) (hn : n < 3) : Xm Tryz.prog 101 [.int .i64 1, .int .i64 ((n : Nat) : Int)] (.bool true) := by
 refine fn_intro func101 rfl ntmps101 nb ?_
 intro S w0 a hS h
 refine gC h (zS (za rfl (zn (zS (zm rfl (zp (.geq rfl rfl) ?_)))))); clear h; intro a w h
 refine Qp h (fun hc6 h => ?_) (fun hc6 h => (by exfalso; have := of_decide_eq_false hc6; omega))
 refine gL h (zm rfl (zq 7 rfl rfl (.move rfl) (zq 7 rfl rfl (.move rfl) ?_))); clear h; intro a w h
 refine Zt 7 h rfl rfl (Zay h (vs := [_]) rfl call43 (Zl7) dd ?_); clear h; intro a w h
 refine gL h (zq 7 rfl rfl (.lss rfl rfl) ?_); clear h; intro a w h
 refine Qp h (fun hc11 h => ?_) (fun hc11 h => (by exfalso; have := of_decide_eq_false hc11; omega))
 refine gL h (zp (.pickT rfl rfl) (za rfl (zn (zt ?_)))); clear h; intro a w h
 exact Zdj h
theorem Zer (n : Nat) (hn : n < 6) : Xm Tryz.prog 101 [.int .i64 2, .int .i64 ((n : Nat) : Int)] (.bool true) := by
 refine fn_intro func101 rfl ntmps101 nb ?_
 intro S w0 a hS h
 refine gC h (zS (za rfl (zn (zS (zm rfl (zp (.geq rfl rfl) ?_)))))); clear h; intro a w h
 refine Qp h (fun hc6 h => ?_) (fun hc6 h => (by exfalso; have := of_decide_eq_false hc6; omega))
 refine gL h (zm rfl (zq 7 rfl rfl (.move rfl) (zq 7 rfl rfl (.move rfl) ?_))); clear h; intro a w h
 refine Zt 7 h rfl rfl (Zay h (vs := [_]) rfl call43 (Zxe) dd ?_); clear h; intro a w h
 refine gL h (zq 7 rfl rfl (.lss rfl rfl) ?_); clear h; intro a w h
 refine Qp h (fun hc11 h => ?_) (fun hc11 h => (by exfalso; have := of_decide_eq_false hc11; omega))
 refine gL h (zp (.pickT rfl rfl) (za rfl (zn (zt ?_)))); clear h; intro a w h
 exact Zdj h
theorem Zrs (l : List Nat) {i : Nat} (h : i < l.length) : l.take (i + 1) = l.take i ++ [l.getD i 0] := by rw [List.take_add_one, List.getElem?_eq_getElem h]; simp [List.getD, h]
def cnt3 (l : List Nat) : List Nat := [l.count 0, l.count 1, l.count 2]
theorem Zwh (l : List Nat) {i : Nat} (h : i < l.length) (h3 : l.getD i 0 < 3) : (cnt3 (l.take i)).set (l.getD i 0) ((cnt3 (l.take i)).getD (l.getD i 0) 0 + 1) = cnt3 (l.take (i + 1)) := by
 rw [Zrs l h]
 generalize l.getD i 0 = x at h3
 have hx : x = 0 ∨ x = 1 ∨ x = 2 := oo
 unfold cnt3
 rcases hx with rfl | rfl | rfl <;> simp [List.count_append]
theorem Zas (c : Int) (l : List Nat) (ad : Option Addr) (cc : Nat) (hl : ∀ x ∈ l, x < 3) (hn : l.length ≤ 10) (h0 : -1000 ≤ c) (h1 : c ≤ 1000) : Gh Tryz.prog 102 [.int .i64 c, .slice ad l.length cc] [Row ad (List.map Zfb l)] (Qi (Gi c l)) := by
 refine fn_intro func102 rfl ntmps102 nb ?_
 intro S w0 a hS h
 refine gC h (zS (zz Zes fun b4 => zn (zS (zz Zpp fun b5 => zn (zs (zS (zm rfl (zp (.builtin [_] rfl (Zda _ _ _)) (zm rfl (zn (zb ?_))))))))))); clear h; intro a w h
 have hc3 : cnt3 [] = [0, 0, 0] := rfl
 refine Zn (fun (i : Nat) a w => i ≤ l.length ∧ St 29 S w0 [(0, .int .i64 c), (4, pB b4), (5, pB b5), (8, .slice ad l.length cc), (9, nI l.length), (10, nI i)] [(b5, .cells (List.map Zfb (cnt3 (l.take i))).toArray 108 (0, 0)), (b4, bV (Qi (pw0)) 107)] [Row ad (List.map Zfb l)] a w) (fun i => l.length - i) 0 (⟨Nat.zero_le _, by exact (h).sub sA⟩) ?_; clear h
 rintro i a w ⟨hi_i, h⟩
 refine gC h (zS (zp (.lss rfl rfl) (zn (zs ?_)))); clear h; intro a w h
 refine Zg h rfl (fun hc11 => ?_) (fun hc11 => ?_)
 ·
  skip
  have hlt_i : i < l.length := dT hc11
  obtain ⟨B_ad, O_ad, rfl⟩ := h.row_addr (ad := ad) (M := List.map Zfb l) mm nF
  have hx3 := hl _ (getD_mem l (d := 0) hlt_i)
  have hcn : (cnt3 (l.take i)).getD (l.getD i 0) 0 ≤ 10 := by
   have ht : (l.take i).length ≤ 10 := by rw [List.length_take]; omega
   have hb := fun x => Nat.le_trans (List.count_le_length (a := x) (l := l.take i)) ht
   have hx : l.getD i 0 = 0 ∨ l.getD i 0 = 1 ∨ l.getD i 0 = 2 := oo
   unfold cnt3
   rcases hx with e | e | e <;> rw [e] <;> first | exact hb 0 | exact hb 1 | exact hb 2
  have hcl : (cnt3 (l.take i)).length = 3 := rfl
  have hx4 : l[i]?.getD 0 < 3 := by simpa [List.getD] using hx3
  refine gC h (zk (zs (zb (zS (zp (.indexAddr rfl rfl (Zvu _ _ _ _ _ oo)) (zD rfl mm (by rw [List.length_map]; omega) isAgg3 sizeOf3 (Zy (enc := Zfb) (l := l) 0 oo) (.inr rfl) ?_))))))
  refine za rfl (zn (zr (zm rfl (zp (.indexAddr rfl rfl (Zvp _ _ _ oo)) (zd rfl mm isAgg3 sizeOf3 ((congrArg _ (Nat.zero_add _)).trans (Zy (enc := Zfb) (l := (cnt3 (l.take i))) 0 (by show _ < 3; omega))) ?_)))))
  refine zp (.pN (((cnt3 (l.take i)).getD (l.getD i 0) 0) + 1) (.add rfl rfl)) (zp (.indexAddr rfl rfl (Zvp _ _ _ oo)) (zt' rfl rfl ((congrArg (fun z => Qc _ z _) (Nat.zero_add _)).trans (Vz (enc := Zfb) (cnt3 (l.take i)) (l.getD i 0) (((cnt3 (l.take i)).getD (l.getD i 0) 0) + 1))) uu sizeOf3 rfl (by simp; show _ < 3; omega) rfl ?_))
  refine zn (zr (zp (.pN (i + 1) (.add rfl rfl)) (zm rfl (zn ?_)))); intro a w h
  rw [Zwh l hlt_i hx3] at h
  exact ⟨i + 1, ⟨oo, (h.factsSub (by simp)).sub sA⟩, oo⟩
 ·
  skip
  have heq_i : l.length = i := dF hc11
  subst heq_i
  rw [List.take_length] at h
  have hcl2 : (cnt3 l).length = 3 := rfl
  refine gC h (ze (zs (yD Za [0, 1, 2, 3, 4, 5, 6, 7, 8, 9] (Zd kk) (yp rfl (.indexAddr rfl rfl (Zam _ _)) (yd rfl rfl mm isAgg3 sizeOf3 ((congrArg _ (Nat.zero_add _)).trans (Zy (enc := Zfb) (l := (cnt3 (l))) 0 oo)) ?_))))); clear h
  refine yp rfl (.indexAddr rfl rfl (Zal _ _)) (yd rfl rfl mm isAgg3 sizeOf3 ((congrArg _ (Nat.zero_add _)).trans (Zy (enc := Zfb) (l := (cnt3 (l))) 0 oo)) ?_)
  refine yp rfl (.indexAddr rfl rfl (Zak _ _)) (yd rfl rfl mm isAgg3 sizeOf3 ((congrArg _ (Nat.zero_add _)).trans (Zy (enc := Zfb) (l := (cnt3 (l))) 0 oo)) ?_)
  refine ym rfl rfl (yv [_] rfl rfl call21 (Ye _ oo oo) ?_)
  have hl27 := Zs (c) oo oo
  refine yp rfl (.build [(_, _), (_, _), (_, _), (_, _)] rfl (Zag _ _ _ _ _ _ _ _)) (yt rfl rfl rfl Gz uu sizeOf107 rfl nb rfl ?_)
  refine yn (zt ?_); intro a w h
  refine Xd h (Zk h rfl (.cell rfl mr isAgg107 sizeOf107 Zp8)) ?_
  rfl
abbrev SideF : Qf := Row (some ⟨0, 0, none⟩) [.int .i64 1, .int .i64 2, .int .i64 2, .int .i64 0, .int .i64 0, .int .i64 1]
theorem Zks : Ctr Tryz.prog 44 [.int .i64 1, .int .i64 0] [SideF] (fun v Ψ => ∃ ad' c', v = .tuple #[.slice ad' (Qw 1 0).length c', .int .i64 0] ∧ Ψ = [Row ad' (cellsOf Qi (Qw 1 0))]) := by
 refine fn_intro func44 rfl ntmps44 nb ?_
 intro S w0 a hS h
 refine gC h (zS (za rfl (za rfl (zn (zs (zb (zS (zm rfl (zm rfl (zv [_, _] rfl call101 (Zl3 0 dd) (zp (Pure1.cast (v' := .bool false) (.unOp rfl (Yp _)) cgd) (za rfl (zn ?_))))))))))))); clear h; intro a w h
 refine cW ?_
 refine Zf h rfl ?_
 refine gC h (zS (zm rfl (zp (Pure1.cast (v' := .bool true) (.eql rfl rfl) cgd) (za rfl (zn ?_))))); clear h; intro a w h
 refine cW ?_
 refine Zi h rfl ?_
 refine gC h (zS (zm rfl (zB [(_, _)] rfl (Zbb _) fun b16 => ?_))); clear h; intro a w h
 replace h := h.shareAll hS (List.map Zfb ([0])) rfl
 refine gL h (zw [_, _] rfl call102 (Zas 1 [0] _ _ dd dd dd dd) (zB [(_, _)] rfl (Zbc _ _ _ _ _ _ _ _) fun b18 => ?_)); clear h; intro a w h
 replace h := h.shareAll hS (cellsOf Qi ([Gi 1 [0]])) rfl
 refine gL h (za rfl (za rfl (zn (zt ?_)))); clear h; intro a w h
 refine Xr (Ψ := [Row (some ⟨b18, 0, none⟩) (cellsOf Qi [Gi 1 [0]])]) h (Qq h rfl (.tmp rfl) (.tmp rfl)) ?_ ss
 exact ⟨some ⟨b18, 0, none⟩, 1, rfl, rfl⟩
theorem Zkr : Ctr Tryz.prog 44 [.int .i64 1, .int .i64 1] [SideF] (fun v Ψ => ∃ ad' c', v = .tuple #[.slice ad' (Qw 1 1).length c', .int .i64 0] ∧ Ψ = [Row ad' (cellsOf Qi (Qw 1 1))]) := by
 refine fn_intro func44 rfl ntmps44 nb ?_
 intro S w0 a hS h
 refine gC h (zS (za rfl (za rfl (zn (zs (zb (zS (zm rfl (zm rfl (zv [_, _] rfl call101 (Zl3 1 dd) (zp (Pure1.cast (v' := .bool false) (.unOp rfl (Yp _)) cgd) (za rfl (zn ?_))))))))))))); clear h; intro a w h
 refine cW ?_
 refine Zf h rfl ?_
 refine gC h (zS (zm rfl (zp (Pure1.cast (v' := .bool true) (.eql rfl rfl) cgd) (za rfl (zn ?_))))); clear h; intro a w h
 refine cW ?_
 refine Zi h rfl ?_
 refine gC h (zS (zm rfl (zB [(_, _)] rfl (Zbb _) fun b16 => ?_))); clear h; intro a w h
 replace h := h.shareAll hS (List.map Zfb ([1])) rfl
 refine gL h (zw [_, _] rfl call102 (Zas 1 [1] _ _ dd dd dd dd) (zB [(_, _)] rfl (Zbc _ _ _ _ _ _ _ _) fun b18 => ?_)); clear h; intro a w h
 replace h := h.shareAll hS (cellsOf Qi ([Gi 1 [1]])) rfl
 refine gL h (za rfl (za rfl (zn (zt ?_)))); clear h; intro a w h
 refine Xr (Ψ := [Row (some ⟨b18, 0, none⟩) (cellsOf Qi [Gi 1 [1]])]) h (Qq h rfl (.tmp rfl) (.tmp rfl)) ?_ ss
 exact ⟨some ⟨b18, 0, none⟩, 1, rfl, rfl⟩
theorem Zkq : Ctr Tryz.prog 44 [.int .i64 1, .int .i64 2] [SideF] (fun v Ψ => ∃ ad' c', v = .tuple #[.slice ad' (Qw 1 2).length c', .int .i64 0] ∧ Ψ = [Row ad' (cellsOf Qi (Qw 1 2))]) := by
 refine fn_intro func44 rfl ntmps44 nb ?_
 intro S w0 a hS h
 refine gC h (zS (za rfl (za rfl (zn (zs (zb (zS (zm rfl (zm rfl (zv [_, _] rfl call101 (Zl3 2 dd) (zp (Pure1.cast (v' := .bool false) (.unOp rfl (Yp _)) cgd) (za rfl (zn ?_))))))))))))); clear h; intro a w h
 refine cW ?_
 refine Zf h rfl ?_
 refine gC h (zS (zm rfl (zp (Pure1.cast (v' := .bool true) (.eql rfl rfl) cgd) (za rfl (zn ?_))))); clear h; intro a w h
 refine cW ?_
 refine Zi h rfl ?_
 refine gC h (zS (zm rfl (zB [(_, _)] rfl (Zbb _) fun b16 => ?_))); clear h; intro a w h
 replace h := h.shareAll hS (List.map Zfb ([2])) rfl
 refine gL h (zw [_, _] rfl call102 (Zas 1 [2] _ _ dd dd dd dd) (zB [(_, _)] rfl (Zbc _ _ _ _ _ _ _ _) fun b18 => ?_)); clear h; intro a w h
 replace h := h.shareAll hS (cellsOf Qi ([Gi 1 [2]])) rfl
 refine gL h (za rfl (za rfl (zn (zt ?_)))); clear h; intro a w h
 refine Xr (Ψ := [Row (some ⟨b18, 0, none⟩) (cellsOf Qi [Gi 1 [2]])]) h (Qq h rfl (.tmp rfl) (.tmp rfl)) ?_ ss
 exact ⟨some ⟨b18, 0, none⟩, 1, rfl, rfl⟩
theorem Ztc : Ctr Tryz.prog 44 [.int .i64 2, .int .i64 0] [SideF] (fun v Ψ => ∃ ad' c', v = .tuple #[.slice ad' (Qw 2 0).length c', .int .i64 0] ∧ Ψ = [Row ad' (cellsOf Qi (Qw 2 0))]) := by
 refine fn_intro func44 rfl ntmps44 nb ?_
 intro S w0 a hS h
 refine gC h (zS (za rfl (za rfl (zn (zs (zb (zS (zm rfl (zm rfl (zv [_, _] rfl call101 (Zer 0 dd) (zp (Pure1.cast (v' := .bool false) (.unOp rfl (Yp _)) cgd) (za rfl (zn ?_))))))))))))); clear h; intro a w h
 refine cW ?_
 refine Zf h rfl ?_
 refine gC h (zS (zm rfl (zp (Pure1.cast (v' := .bool false) (.eql rfl rfl) cgd) (za rfl (zn ?_))))); clear h; intro a w h
 refine cW ?_
 refine Zf h rfl ?_
 refine gC h (zS (zm rfl (zp (Pure1.cast (v' := .bool true) (.lss rfl rfl) cgd) (za rfl (zn ?_))))); clear h; intro a w h
 refine cW ?_
 refine Zi h rfl ?_
 refine gC h (zS (zm rfl (zm rfl (zB [(_, _), (_, _)] rfl (Yz _ _) fun b24 => ?_)))); clear h; intro a w h
 replace h := h.shareAll hS (List.map Zfb ([0, 0])) rfl
 refine gL h (zw [_, _] rfl call102 (Zas 2 [0, 0] _ _ dd dd dd dd) (zm rfl (zB [(_, _)] rfl (Zbb _) fun b27 => ?_))); clear h; intro a w h
 replace h := h.shareAll hS (List.map Zfb ([0])) rfl
 refine gL h (zw [_, _] rfl call102 (Zas (-1) [0] _ _ dd dd dd dd) (zB [(_, _), (_, _)] rfl (Zd8 _ _ _ _ _ _ _ _ _ _ _ _ _ _ _ _) fun b29 => ?_)); clear h; intro a w h
 replace h := h.shareAll hS (cellsOf Qi ([Gi 2 [0, 0], Gi (-1) [0]])) rfl
 refine gL h (za rfl (za rfl (zn (zt ?_)))); clear h; intro a w h
 refine Xr (Ψ := [Row (some ⟨b29, 0, none⟩) (cellsOf Qi [Gi 2 [0, 0], Gi (-1) [0]])]) h (Qq h rfl (.tmp rfl) (.tmp rfl)) ?_ ss
 exact ⟨some ⟨b29, 0, none⟩, 2, rfl, rfl⟩
theorem Ztb : Ctr Tryz.prog 44 [.int .i64 2, .int .i64 1] [SideF] (fun v Ψ => ∃ ad' c', v = .tuple #[.slice ad' (Qw 2 1).length c', .int .i64 0] ∧ Ψ = [Row ad' (cellsOf Qi (Qw 2 1))]) := by
 refine fn_intro func44 rfl ntmps44 nb ?_
 intro S w0 a hS h
 refine gC h (zS (za rfl (za rfl (zn (zs (zb (zS (zm rfl (zm rfl (zv [_, _] rfl call101 (Zer 1 dd) (zp (Pure1.cast (v' := .bool false) (.unOp rfl (Yp _)) cgd) (za rfl (zn ?_))))))))))))); clear h; intro a w h
 refine cW ?_
 refine Zf h rfl ?_
 refine gC h (zS (zm rfl (zp (Pure1.cast (v' := .bool false) (.eql rfl rfl) cgd) (za rfl (zn ?_))))); clear h; intro a w h
 refine cW ?_
 refine Zf h rfl ?_
 refine gC h (zS (zm rfl (zp (Pure1.cast (v' := .bool true) (.lss rfl rfl) cgd) (za rfl (zn ?_))))); clear h; intro a w h
 refine cW ?_
 refine Zi h rfl ?_
 refine gC h (zS (zm rfl (zm rfl (zB [(_, _), (_, _)] rfl (Yz _ _) fun b24 => ?_)))); clear h; intro a w h
 replace h := h.shareAll hS (List.map Zfb ([1, 1])) rfl
 refine gL h (zw [_, _] rfl call102 (Zas 2 [1, 1] _ _ dd dd dd dd) (zm rfl (zB [(_, _)] rfl (Zbb _) fun b27 => ?_))); clear h; intro a w h
 replace h := h.shareAll hS (List.map Zfb ([1])) rfl
 refine gL h (zw [_, _] rfl call102 (Zas (-1) [1] _ _ dd dd dd dd) (zB [(_, _), (_, _)] rfl (Zd8 _ _ _ _ _ _ _ _ _ _ _ _ _ _ _ _) fun b29 => ?_)); clear h; intro a w h
 replace h := h.shareAll hS (cellsOf Qi ([Gi 2 [1, 1], Gi (-1) [1]])) rfl
 refine gL h (za rfl (za rfl (zn (zt ?_)))); clear h; intro a w h
 refine Xr (Ψ := [Row (some ⟨b29, 0, none⟩) (cellsOf Qi [Gi 2 [1, 1], Gi (-1) [1]])]) h (Qq h rfl (.tmp rfl) (.tmp rfl)) ?_ ss
 exact ⟨some ⟨b29, 0, none⟩, 2, rfl, rfl⟩
theorem Zta : Ctr Tryz.prog 44 [.int .i64 2, .int .i64 2] [SideF] (fun v Ψ => ∃ ad' c', v = .tuple #[.slice ad' (Qw 2 2).length c', .int .i64 0] ∧ Ψ = [Row ad' (cellsOf Qi (Qw 2 2))]) := by
 refine fn_intro func44 rfl ntmps44 nb ?_
 intro S w0 a hS h
 refine gC h (zS (za rfl (za rfl (zn (zs (zb (zS (zm rfl (zm rfl (zv [_, _] rfl call101 (Zer 2 dd) (zp (Pure1.cast (v' := .bool false) (.unOp rfl (Yp _)) cgd) (za rfl (zn ?_))))))))))))); clear h; intro a w h
 refine cW ?_
 refine Zf h rfl ?_
 refine gC h (zS (zm rfl (zp (Pure1.cast (v' := .bool false) (.eql rfl rfl) cgd) (za rfl (zn ?_))))); clear h; intro a w h
 refine cW ?_
 refine Zf h rfl ?_
 refine gC h (zS (zm rfl (zp (Pure1.cast (v' := .bool true) (.lss rfl rfl) cgd) (za rfl (zn ?_))))); clear h; intro a w h
 refine cW ?_
 refine Zi h rfl ?_
 refine gC h (zS (zm rfl (zm rfl (zB [(_, _), (_, _)] rfl (Yz _ _) fun b24 => ?_)))); clear h; intro a w h
 replace h := h.shareAll hS (List.map Zfb ([2, 2])) rfl
 refine gL h (zw [_, _] rfl call102 (Zas 2 [2, 2] _ _ dd dd dd dd) (zm rfl (zB [(_, _)] rfl (Zbb _) fun b27 => ?_))); clear h; intro a w h
 replace h := h.shareAll hS (List.map Zfb ([2])) rfl
 refine gL h (zw [_, _] rfl call102 (Zas (-1) [2] _ _ dd dd dd dd) (zB [(_, _), (_, _)] rfl (Zd8 _ _ _ _ _ _ _ _ _ _ _ _ _ _ _ _) fun b29 => ?_)); clear h; intro a w h
 replace h := h.shareAll hS (cellsOf Qi ([Gi 2 [2, 2], Gi (-1) [2]])) rfl
 refine gL h (za rfl (za rfl (zn (zt ?_)))); clear h; intro a w h
 refine Xr (Ψ := [Row (some ⟨b29, 0, none⟩) (cellsOf Qi [Gi 2 [2, 2], Gi (-1) [2]])]) h (Qq h rfl (.tmp rfl) (.tmp rfl)) ?_ ss
 exact ⟨some ⟨b29, 0, none⟩, 2, rfl, rfl⟩
theorem Zs9 : Ctr Tryz.prog 44 [.int .i64 2, .int .i64 3] [SideF] (fun v Ψ => ∃ ad' c', v = .tuple #[.slice ad' (Qw 2 3).length c', .int .i64 0] ∧ Ψ = [Row ad' (cellsOf Qi (Qw 2 3))]) := by
 refine fn_intro func44 rfl ntmps44 nb ?_
 intro S w0 a hS h
 refine gC h (zS (za rfl (za rfl (zn (zs (zb (zS (zm rfl (zm rfl (zv [_, _] rfl call101 (Zer 3 dd) (zp (Pure1.cast (v' := .bool false) (.unOp rfl (Yp _)) cgd) (za rfl (zn ?_))))))))))))); clear h; intro a w h
 refine cW ?_
 refine Zf h rfl ?_
 refine gC h (zS (zm rfl (zp (Pure1.cast (v' := .bool false) (.eql rfl rfl) cgd) (za rfl (zn ?_))))); clear h; intro a w h
 refine cW ?_
 refine Zf h rfl ?_
 refine gC h (zS (zm rfl (zp (Pure1.cast (v' := .bool false) (.lss rfl rfl) cgd) (za rfl (zn ?_))))); clear h; intro a w h
 refine cW ?_
 refine Zf h rfl ?_
 refine gC h (zk (zS (zm rfl (zp (Pure1.cast (v' := .int .i64 0) (.sub rfl rfl) cgd) (zp (.indexAddr rfl rfl (Zvs _ _)) (zD (b := 0) (off := 0) (j := 0) (M := [.int .i64 1, .int .i64 2, .int .i64 2, .int .i64 0, .int .i64 0, .int .i64 1]) (v := .agg #[.int .i64 1, .int .i64 2]) rfl List.mem_cons_self dd isAgg163 sizeOf163 rfl (.inl rfl) ?_))))))
 refine zz zeroValue163 fun b6 => zt' rfl rfl Qv uu sizeOf163 rfl nb rfl ?_
 refine zn (zS (zp (.indexAddr rfl rfl (Zit _ _)) (zd rfl mr isAgg3 sizeOf3 Vp ?_)))
 refine zp (.indexAddr rfl rfl (Zis _ _)) (zd rfl mr isAgg3 sizeOf3 Kq ?_)
 refine zB [(_, _), (_, _)] rfl (Yz _ _) fun b38 => ?_; intro a w h
 replace h := h.shareAll hS (List.map Zfb ([1, 2])) rfl
 refine gL h (zw [_, _] rfl call102 (Zas 4 [1, 2] _ _ dd dd dd dd) (zB [(_, _)] rfl (Zbc _ _ _ _ _ _ _ _) fun b40 => ?_)); clear h; intro a w h
 replace h := h.shareAll hS (cellsOf Qi ([Gi 4 [1, 2]])) rfl
 refine gL h (za rfl (za rfl (zn (zt ?_)))); clear h; intro a w h
 refine Xr (Ψ := [Row (some ⟨b40, 0, none⟩) (cellsOf Qi [Gi 4 [1, 2]])]) h (Qq h rfl (.tmp rfl) (.tmp rfl)) ?_ ss
 exact ⟨some ⟨b40, 0, none⟩, 1, rfl, rfl⟩
theorem Zs8 : Ctr Tryz.prog 44 [.int .i64 2, .int .i64 4] [SideF] (fun v Ψ => ∃ ad' c', v = .tuple #[.slice ad' (Qw 2 4).length c', .int .i64 0] ∧ Ψ = [Row ad' (cellsOf Qi (Qw 2 4))]) := by
 refine fn_intro func44 rfl ntmps44 nb ?_
 intro S w0 a hS h
 refine gC h (zS (za rfl (za rfl (zn (zs (zb (zS (zm rfl (zm rfl (zv [_, _] rfl call101 (Zer 4 dd) (zp (Pure1.cast (v' := .bool false) (.unOp rfl (Yp _)) cgd) (za rfl (zn ?_))))))))))))); clear h; intro a w h
 refine cW ?_
 refine Zf h rfl ?_
 refine gC h (zS (zm rfl (zp (Pure1.cast (v' := .bool false) (.eql rfl rfl) cgd) (za rfl (zn ?_))))); clear h; intro a w h
 refine cW ?_
 refine Zf h rfl ?_
 refine gC h (zS (zm rfl (zp (Pure1.cast (v' := .bool false) (.lss rfl rfl) cgd) (za rfl (zn ?_))))); clear h; intro a w h
 refine cW ?_
 refine Zf h rfl ?_
 refine gC h (zk (zS (zm rfl (zp (Pure1.cast (v' := .int .i64 1) (.sub rfl rfl) cgd) (zp (.indexAddr rfl rfl (Zvr _ _)) (zD (b := 0) (off := 0) (j := 2) (M := [.int .i64 1, .int .i64 2, .int .i64 2, .int .i64 0, .int .i64 0, .int .i64 1]) (v := .agg #[.int .i64 2, .int .i64 0]) rfl List.mem_cons_self dd isAgg163 sizeOf163 rfl (.inl rfl) ?_))))))
 refine zz zeroValue163 fun b6 => zt' rfl rfl Qv uu sizeOf163 rfl nb rfl ?_
 refine zn (zS (zp (.indexAddr rfl rfl (Zit _ _)) (zd rfl mr isAgg3 sizeOf3 Vp ?_)))
 refine zp (.indexAddr rfl rfl (Zis _ _)) (zd rfl mr isAgg3 sizeOf3 Kq ?_)
 refine zB [(_, _), (_, _)] rfl (Yz _ _) fun b38 => ?_; intro a w h
 replace h := h.shareAll hS (List.map Zfb ([2, 0])) rfl
 refine gL h (zw [_, _] rfl call102 (Zas 4 [2, 0] _ _ dd dd dd dd) (zB [(_, _)] rfl (Zbc _ _ _ _ _ _ _ _) fun b40 => ?_)); clear h; intro a w h
 replace h := h.shareAll hS (cellsOf Qi ([Gi 4 [2, 0]])) rfl
 refine gL h (za rfl (za rfl (zn (zt ?_)))); clear h; intro a w h
 refine Xr (Ψ := [Row (some ⟨b40, 0, none⟩) (cellsOf Qi [Gi 4 [2, 0]])]) h (Qq h rfl (.tmp rfl) (.tmp rfl)) ?_ ss
 exact ⟨some ⟨b40, 0, none⟩, 1, rfl, rfl⟩
theorem Zs7 : Ctr Tryz.prog 44 [.int .i64 2, .int .i64 5] [SideF] (fun v Ψ => ∃ ad' c', v = .tuple #[.slice ad' (Qw 2 5).length c', .int .i64 0] ∧ Ψ = [Row ad' (cellsOf Qi (Qw 2 5))]) := by
 refine fn_intro func44 rfl ntmps44 nb ?_
 intro S w0 a hS h
 refine gC h (zS (za rfl (za rfl (zn (zs (zb (zS (zm rfl (zm rfl (zv [_, _] rfl call101 (Zer 5 dd) (zp (Pure1.cast (v' := .bool false) (.unOp rfl (Yp _)) cgd) (za rfl (zn ?_))))))))))))); clear h; intro a w h
 refine cW ?_
 refine Zf h rfl ?_
 refine gC h (zS (zm rfl (zp (Pure1.cast (v' := .bool false) (.eql rfl rfl) cgd) (za rfl (zn ?_))))); clear h; intro a w h
 refine cW ?_
 refine Zf h rfl ?_
 refine gC h (zS (zm rfl (zp (Pure1.cast (v' := .bool false) (.lss rfl rfl) cgd) (za rfl (zn ?_))))); clear h; intro a w h
 refine cW ?_
 refine Zf h rfl ?_
 refine gC h (zk (zS (zm rfl (zp (Pure1.cast (v' := .int .i64 2) (.sub rfl rfl) cgd) (zp (.indexAddr rfl rfl (Zvq _ _)) (zD (b := 0) (off := 0) (j := 4) (M := [.int .i64 1, .int .i64 2, .int .i64 2, .int .i64 0, .int .i64 0, .int .i64 1]) (v := .agg #[.int .i64 0, .int .i64 1]) rfl List.mem_cons_self dd isAgg163 sizeOf163 rfl (.inl rfl) ?_))))))
 refine zz zeroValue163 fun b6 => zt' rfl rfl Qv uu sizeOf163 rfl nb rfl ?_
 refine zn (zS (zp (.indexAddr rfl rfl (Zit _ _)) (zd rfl mr isAgg3 sizeOf3 Vp ?_)))
 refine zp (.indexAddr rfl rfl (Zis _ _)) (zd rfl mr isAgg3 sizeOf3 Kq ?_)
 refine zB [(_, _), (_, _)] rfl (Yz _ _) fun b38 => ?_; intro a w h
 replace h := h.shareAll hS (List.map Zfb ([0, 1])) rfl
 refine gL h (zw [_, _] rfl call102 (Zas 4 [0, 1] _ _ dd dd dd dd) (zB [(_, _)] rfl (Zbc _ _ _ _ _ _ _ _) fun b40 => ?_)); clear h; intro a w h
 replace h := h.shareAll hS (cellsOf Qi ([Gi 4 [0, 1]])) rfl
 refine gL h (za rfl (za rfl (zn (zt ?_)))); clear h; intro a w h
 refine Xr (Ψ := [Row (some ⟨b40, 0, none⟩) (cellsOf Qi [Gi 4 [0, 1]])]) h (Qq h rfl (.tmp rfl) (.tmp rfl)) ?_ ss
 exact ⟨some ⟨b40, 0, none⟩, 1, rfl, rfl⟩
theorem Zhy {o n : Nat} (ho : o = 1 ∨ o = 2) (hn : n < Jj o) : Ctr Tryz.prog 44 [.int .i64 ((o : Nat) : Int), .int .i64 ((n : Nat) : Int)] [SideF] (fun v Ψ => ∃ ad' c', v = .tuple #[.slice ad' (Qw o n).length c', .int .i64 0] ∧ Ψ = [Row ad' (cellsOf Qi (Qw o n))]) := by
 rcases ho with rfl | rfl
 ·
  have hn' : n = 0 ∨ n = 1 ∨ n = 2 := by simp only [Jj] at hn; simp at hn; omega
  rcases hn' with rfl | rfl | rfl
  · exact Zks
  · exact Zkr
  · exact Zkq
 ·
  have hn' : n = 0 ∨ n = 1 ∨ n = 2 ∨ n = 3 ∨ n = 4 ∨ n = 5 := by simp only [Jj] at hn; simp at hn; omega
  rcases hn' with rfl | rfl | rfl | rfl | rfl | rfl
  · exact Ztc
  · exact Ztb
  · exact Zta
  · exact Zs9
  · exact Zs8
  · exact Zs7
end
section
theorem Vd (a : Option Addr) (n c : Nat) (w : World) (ty : TypeId) (cs : Array Bool) : (Go.builtin .len #[103] ty cs #[.slice a n c]).run Tryz.prog w = .ok (.value (.int .i64 n)) w := by
 simp [go_sem]
theorem Ziu (b off n c j : Nat) (h : j < n) (w : World) : (Instr.indexAt 103 (.slice (some ⟨b, off, none⟩) n c) (.int .i64 (j : Int))).run Tryz.prog w = .ok (.pointer (some ⟨b, off + j * 8, none⟩)) w := by
 simpa using Xi runUnderlying103 sizeOf107 b off n c j h w
theorem Zcd {b off : Nat} (w : World) : (Instr.fieldAt 107 (.pointer (some ⟨b, off, none⟩)) 0).run Tryz.prog w = .ok (.pointer (some ⟨b, off + 0, none⟩)) w := by
 simp [go_sem]
theorem Zgy {c0 c1 c2 c3 c4 c5 c6 c7 : Value} : Qe false 1 #[c0, c1, c2, c3, c4, c5, c6, c7] 0 = some c0 := rfl
theorem Zcc {b off : Nat} (w : World) : (Instr.fieldAt 107 (.pointer (some ⟨b, off, none⟩)) 1).run Tryz.prog w = .ok (.pointer (some ⟨b, off + 1, none⟩)) w := by
 simp [go_sem]
theorem Zgx {c0 c1 c2 c3 c4 c5 c6 c7 : Value} : Qe false 1 #[c0, c1, c2, c3, c4, c5, c6, c7] 1 = some c1 := rfl
theorem Zcb {b off : Nat} (w : World) : (Instr.fieldAt 107 (.pointer (some ⟨b, off, none⟩)) 2).run Tryz.prog w = .ok (.pointer (some ⟨b, off + 2, none⟩)) w := by
 simp [go_sem]
theorem Zgw {c0 c1 c2 c3 c4 c5 c6 c7 : Value} : Qe false 1 #[c0, c1, c2, c3, c4, c5, c6, c7] 2 = some c2 := rfl
theorem Zbk {c0 c1 c2 : Value} : Qe false 1 #[c0, c1, c2] 0 = some c0 := rfl
theorem Zca {b off : Nat} (w : World) : (Instr.fieldAt 107 (.pointer (some ⟨b, off, none⟩)) 3).run Tryz.prog w = .ok (.pointer (some ⟨b, off + 3, none⟩)) w := by
 simp [go_sem]
theorem Zb0 {c0 c1 c2 c3 c4 c5 c6 c7 : Value} : Qe true 5 #[c0, c1, c2, c3, c4, c5, c6, c7] 3 = some (.agg #[c3, c4, c5, c6, c7]) := rfl
theorem Zpw {c0 c1 c2 v0 : Value} : Qc #[c0, c1, c2] 0 [v0] = #[v0, c1, c2] := by kernel_rfl
theorem Gq {c0 c1 c2 : Value} : Qe false 1 #[c0, c1, c2] 1 = some c1 := rfl
theorem Zpv {c0 c1 c2 v0 : Value} : Qc #[c0, c1, c2] 1 [v0] = #[c0, v0, c2] := by kernel_rfl
theorem Zpu {c0 c1 c2 v0 : Value} : Qc #[c0, c1, c2] 2 [v0] = #[c0, c1, v0] := by kernel_rfl
theorem Vn (l : List Pw) (ad : Option Addr) (c : Nat) (by' : Int) : Ctr Tryz.prog 109 [.slice ad l.length c, .int .i64 by'] [] (fun v Ψ => ∃ b1 b2 : Nat, v = .func (.func 155) #[] #[.pointer (some ⟨b1, 0, none⟩), .pointer (some ⟨b2, 0, none⟩)] ∧ Ψ = [Row (some ⟨b2, 0, none⟩) [.int .i64 by'], Row (some ⟨b1, 0, none⟩) [.slice ad l.length c]]) := by
 refine fn_intro func109 rfl ntmps109 nb ?_
 intro S w0 a hS h
 refine gC h (zS (zx rfl fun b2 => ?_)); clear h; intro a w h
 replace h := h.shareAll hS ([.slice ad l.length c]) rfl
 refine gL h (zx rfl fun b3 => ?_); clear h; intro a w h
 replace h := h.shareAll hS ([.int .i64 by']) rfl
 refine gL h (za rfl (zn (zS (zp (.makeFunc [] [_, _] rfl rfl) (za rfl (zn (zt ?_))))))); clear h; intro a w h
 refine Xr (Ψ := [Row (some ⟨b3, 0, none⟩) [.int .i64 by'], Row (some ⟨b2, 0, none⟩) [.slice ad l.length c]]) h (Zk h rfl (.tmp rfl)) ?_ ss
 exact ⟨b2, b3, rfl, rfl⟩
theorem Zrb (l : List Pw) (ad : Option Addr) (c : Nat) : Ctr Tryz.prog 110 [.slice ad l.length c] [] (fun v Ψ => ∃ b1 : Nat, v = .func (.func 156) #[] #[.pointer (some ⟨b1, 0, none⟩)] ∧ Ψ = [Row (some ⟨b1, 0, none⟩) [.slice ad l.length c]]) := by
 refine fn_intro func110 rfl ntmps110 nb ?_
 intro S w0 a hS h
 refine gC h (zS (zx rfl fun b1 => ?_)); clear h; intro a w h
 replace h := h.shareAll hS ([.slice ad l.length c]) rfl
 refine gL h (za rfl (zn (zS (zp (.makeFunc [] [_] rfl rfl) (za rfl (zn (zt ?_))))))); clear h; intro a w h
 refine Xr (Ψ := [Row (some ⟨b1, 0, none⟩) [.slice ad l.length c]]) h (Zk h rfl (.tmp rfl)) ?_ ss
 exact ⟨b1, rfl, rfl⟩
set_option maxHeartbeats 1000000 in
theorem Zno (l : List Pw) (ad : Option Addr) (c b1 : Nat) (Φ : List Qf) (hl : l.length ≤ 10) (h1 : Row (some ⟨b1, 0, none⟩) [.slice ad l.length c] ∈ Φ) (h3 : Row ad (cellsOf Qi l) ∈ Φ) : ItC Tryz.prog 156 [.pointer (some ⟨b1, 0, none⟩)] Φ (l.map Qi) := by
 intro l' B hy
 rw [List.length_map] at hy ⊢
 refine fn_introM func156 rfl ntmps156 (Nat.le_of_ble_eq_true rfl) ?_
 intro S w0 a w hS h
 refine wp_seq ?_
 refine wp_region_lit ?_
 refine Zc (Jw h (b := b1) (off := 0) (j := 0) (M := [.slice ad l.length c]) (v := .slice ad l.length c) rfl (by first | assumption | (repeat (first | exact List.Mem.head _ | apply List.Mem.tail | apply List.mem_append_right))) (Nat.succ_pos _) isAgg103 sizeOf103 rfl (.inr rfl) dd ?_); clear h; intro a h
 refine Zc (Zx h (.builtin [_] rfl (Vd _ _ _)) dd ?_); clear h; intro a h
 refine Zc (Zx h (.move rfl) dd ?_); clear h; intro a h
 refine wpList_nil ?_
 refine cW ?_
 refine wp_block ?_
 refine Zn (fun (i : Nat) a w => i ≤ l.length ∧ St 16 S w0 [(0, .func (.yield l') #[] #[]), (5, .slice ad l.length c), (6, nI l.length), (7, nI i)] (B i) (Φ) a w) (fun i => l.length - i) 0 (⟨Nat.zero_le _, by exact (h).sub sA⟩) ?_; clear h
 rintro i a w ⟨hi_i, h⟩
 refine wp_seq ?_
 refine wp_region_lit ?_
 refine Zc (Zx h (.binOp rfl rfl (fun _ => Zh7 _ _ _ _ _)) dd ?_); clear h; intro a h
 refine wpList_nil ?_
 refine cW ?_
 refine wp_seq ?_
 refine Zg h rfl (fun hc8 => ?_) (fun hc8 => ?_)
 ·
  skip
  have hlt_i : i < l.length := dT hc8
  obtain ⟨B_ad, O_ad, rfl⟩ := h.row_addr (ad := ad) (M := cellsOf Qi l) (by first | assumption | (repeat (first | exact List.Mem.head _ | apply List.Mem.tail | apply List.mem_append_right))) (nE 8)
  have hy1 : ∀ τ, Qc1 Tryz.prog l' (Qi (l.getD i pw0)) (B i ++ τ) Φ (B (i + 1) ++ τ) := fun τ => by
   have := hy i τ hlt_i
   rwa [Zgj hlt_i] at this
  refine wp_skip ?_
  refine cW ?_
  refine wp_seq ?_
  refine wp_block ?_
  refine wp_seq ?_
  refine wp_region_lit ?_
  refine Zc (Zx h (.indexAddr rfl rfl (Ziu _ _ _ _ _ oo)) dd ?_); clear h; intro a h
  refine Zc (Jw h rfl (by first | assumption | (repeat (first | exact List.Mem.head _ | apply List.Mem.tail | apply List.mem_append_right))) (cells_lt (k := 8) dd (fun _ => rfl) l i oo) isAgg107 sizeOf107 (Zq (k := 8) (fun _ => rfl) ((fun _ => rfl)) l pw0 i oo) (.inl rfl) dd ?_); clear h; intro a h
  refine Zc (Gk h Zes dd ?_); clear h; intro b4 a w h
  refine Zc (Vq h rfl rfl Gz (by repeat (first | exact Upd.head | apply Upd.tail | apply Upd.append)) sizeOf107 rfl (Nat.le_of_ble_eq_true rfl) rfl ?_); clear h; intro a w h
  refine wpList_nil ?_
  refine cW ?_
  refine wp_seq ?_
  refine Zc6 ?_
  refine Ql (Zx h (.move rfl) dd ?_); clear h; intro a h
  refine Ql (Qd h rfl (by repeat (first | exact List.Mem.head _ | apply List.Mem.tail | apply List.mem_append_right)) isAgg107 sizeOf107 Zp8 dd ?_); clear h; intro a h
  refine Zed h hS rfl rfl (hy1 _) (List.perm_append_comm (l₁ := [_]) (l₂ := B i)) dd ?_; clear h; intro a w h
  refine Ql (Zx h (.unOp rfl (Yp _)) dd ?_); clear h; intro a h
  refine Qp h (fun hc14 h => (absurd hc14 dd)) (fun hc14 h => ?_)
  refine wpListIn_nil ?_
  refine cW ?_
  refine Zf h rfl ?_
  refine wp_skip ?_
  refine cW ?_
  refine wp_region_lit ?_
  refine Zc (Zx h (.pN (i + 1) (.binOp rfl rfl (fun _ => Ki _ _ _ _ _ (wrap_i64 _ oo oo)))) dd ?_); clear h; intro a h
  refine Zc (Zx h (.move rfl) dd ?_); clear h; intro a h
  refine wpList_nil ?_
  exact ⟨i + 1, ⟨oo, ((h.perm (List.Perm.trans (Zga (List.Perm.refl _)) (List.Perm.cons _ (List.Perm.refl _))).symm).drop (by (try simp only [List.append_nil]); repeat (first | exact List.Sublist.refl _ | apply List.Sublist.cons))).sub sA⟩, oo⟩
 ·
  skip
  have heq_i : l.length = i := dF hc8
  subst heq_i
  refine wp_exit ?_
  refine Ztg h (Zax rfl) ⟨rfl, by simp only [List.length_map], rfl⟩ (List.Sublist.refl _) (fun _ h => h)
set_option maxHeartbeats 1000000 in
theorem Zcw (l : List Pw) (ad : Option Addr) (c b1 b2 : Nat) (Φ : List Qf) (hl : OkPw l) (h1 : Row (some ⟨b1, 0, none⟩) [.slice ad l.length c] ∈ Φ) (h2 : Row (some ⟨b2, 0, none⟩) [.int .i64 0] ∈ Φ) (h3 : Row ad (cellsOf Qi l) ∈ Φ) : ItC Tryz.prog 155 [.pointer (some ⟨b1, 0, none⟩), .pointer (some ⟨b2, 0, none⟩)] Φ ((slp 0 l).map Qi) := by
 intro l' B hy
 refine fn_introM func155 rfl ntmps155 (Nat.le_of_ble_eq_true rfl) ?_
 intro S w0 a w hS h
 refine wp_seq ?_
 refine wp_region_lit ?_
 refine Zc (Jw h (b := b1) (off := 0) (j := 0) (M := [.slice ad l.length c]) (v := .slice ad l.length c) rfl (by first | assumption | (repeat (first | exact List.Mem.head _ | apply List.Mem.tail | apply List.mem_append_right))) (Nat.succ_pos _) isAgg103 sizeOf103 rfl (.inr rfl) dd ?_); clear h; intro a h
 refine Zc (Zx h (.builtin [_] rfl (Vd _ _ _)) dd ?_); clear h; intro a h
 refine Zc (Zx h (.move rfl) dd ?_); clear h; intro a h
 refine wpList_nil ?_
 refine cW ?_
 refine wp_block ?_
 refine Zn (fun (i : Nat) a w => i ≤ l.length ∧ St 49 S w0 [(0, .func (.yield l') #[] #[]), (2, pB b2), (8, .slice ad l.length c), (9, nI l.length), (10, nI i)] (B ((slp 0 (l.take i)).length)) (Φ) a w) (fun i => l.length - i) 0 (⟨Nat.zero_le _, by exact (h).sub sA⟩) ?_; clear h
 rintro i a w ⟨hi_i, h⟩
 refine wp_seq ?_
 refine wp_region_lit ?_
 refine Zc (Zx h (.binOp rfl rfl (fun _ => Zh7 _ _ _ _ _)) dd ?_); clear h; intro a h
 refine wpList_nil ?_
 refine cW ?_
 refine wp_seq ?_
 refine Zg h rfl (fun hc11 => ?_) (fun hc11 => ?_)
 ·
  skip
  have hlt_i : i < l.length := dT hc11
  obtain ⟨B_ad, O_ad, rfl⟩ := h.row_addr (ad := ad) (M := cellsOf Qi l) (by first | assumption | (repeat (first | exact List.Mem.head _ | apply List.Mem.tail | apply List.mem_append_right))) (nE 8)
  have hln := hl.1
  have hx := hl.2 _ (getD_mem l (d := pw0) hlt_i)
  have hsl := Zdp 0 l hlt_i
  refine wp_skip ?_
  refine cW ?_
  refine wp_seq ?_
  refine wp_block ?_
  refine wp_seq ?_
  refine wp_region_lit ?_
  refine Zc (Zx h (.indexAddr rfl rfl (Ziu _ _ _ _ _ oo)) dd ?_); clear h; intro a h
  refine Zc (Jw h rfl (by first | assumption | (repeat (first | exact List.Mem.head _ | apply List.Mem.tail | apply List.mem_append_right))) (cells_lt (k := 8) dd (fun _ => rfl) l i oo) isAgg107 sizeOf107 (Zq (k := 8) (fun _ => rfl) ((fun _ => rfl)) l pw0 i oo) (.inl rfl) dd ?_); clear h; intro a h
  refine Zc (Gk h Zes dd ?_); clear h; intro b5 a w h
  refine Zc (Vq h rfl rfl Gz (by repeat (first | exact Upd.head | apply Upd.tail | apply Upd.append)) sizeOf107 rfl (Nat.le_of_ble_eq_true rfl) rfl ?_); clear h; intro a w h
  refine wpList_nil ?_
  refine cW ?_
  refine wp_seq ?_
  refine wp_region_lit ?_
  refine Zc (Zx h (.fA rfl Zcd) dd ?_); clear h; intro a h
  refine Zc (Qd h rfl (by repeat (first | exact List.Mem.head _ | apply List.Mem.tail | apply List.mem_append_right)) isAgg3 sizeOf3 Zgy dd ?_); clear h; intro a h
  refine Zc (Zx h (.fA rfl Zcc) dd ?_); clear h; intro a h
  refine Zc (Qd h rfl (by repeat (first | exact List.Mem.head _ | apply List.Mem.tail | apply List.mem_append_right)) isAgg3 sizeOf3 Zgx dd ?_); clear h; intro a h
  refine Zc (Zx h (.fA rfl Zcb) dd ?_); clear h; intro a h
  refine Zc (Qd h rfl (by repeat (first | exact List.Mem.head _ | apply List.Mem.tail | apply List.mem_append_right)) isAgg3 sizeOf3 Zgw dd ?_); clear h; intro a h
  refine Zc (Zx h (.build [(_, _), (_, _), (_, _)] rfl (Kh _ _ _)) dd ?_); clear h; intro a h
  refine Zc (Gk h Zpp dd ?_); clear h; intro b6 a w h
  refine Zc (Vq h rfl rfl Qt (by repeat (first | exact Upd.head | apply Upd.tail | apply Upd.append)) sizeOf108 rfl (Nat.le_of_ble_eq_true rfl) rfl ?_); clear h; intro a w h
  refine wpList_nil ?_
  refine cW ?_
  refine wp_seq ?_
  refine wp_seq ?_
  refine wp_region_lit ?_
  refine Zc (Jw h (b := b2) (off := 0) (j := 0) (M := [.int .i64 0]) (v := .int .i64 ((0 : Nat) : Int)) rfl (by first | assumption | (repeat (first | exact List.Mem.head _ | apply List.Mem.tail | apply List.mem_append_right))) (Nat.succ_pos _) isAgg3 sizeOf3 rfl (.inr rfl) dd ?_); clear h; intro a h
  refine Zc (Zx h (.indexAddr rfl rfl (Zam _ _)) dd ?_); clear h; intro a h
  refine Zc (Qd h rfl (by repeat (first | exact List.Mem.head _ | apply List.Mem.tail | apply List.mem_append_right)) isAgg3 sizeOf3 Zbk dd ?_); clear h; intro a h
  refine Zc (Zx h (.binOp rfl rfl (fun _ => Zky _ _ _ _ _)) dd ?_); clear h; intro a h
  refine wpList_nil ?_
  refine cW ?_
  refine Zg h rfl (fun hc24 => ?_) (fun hc24 => ?_)
  ·
   skip
   rw [if_neg (show ¬ exP (l.getD i pw0) 0 ≠ 0 from fun hh => hh (by show (l.getD i pw0).i = 0; have := beq_iff_eq.1 hc24; omega))] at hsl
   replace hsl := hsl.trans (Nat.add_zero _)
   refine wp_exit ?_
   refine cW ?_
   refine wp_region_lit ?_
   refine Zc (Zx h (.pN (i + 1) (.binOp rfl rfl (fun _ => Ki _ _ _ _ _ (wrap_i64 _ oo oo)))) dd ?_); clear h; intro a h
   refine Zc (Zx h (.move rfl) dd ?_); clear h; intro a h
   refine wpList_nil ?_
   rw [← hsl] at h
   exact ⟨i + 1, ⟨oo, (h.drop (by (try simp only [List.append_nil]); repeat (first | exact List.Sublist.refl _ | apply List.Sublist.cons))).sub sA⟩, oo⟩
  ·
   skip
   have hne : exP (l.getD i pw0) 0 ≠ 0 := by show (l.getD i pw0).i ≠ 0; intro e; rw [e] at hc24; exact absurd hc24 dd
   rw [if_pos hne] at hsl
   obtain ⟨hk1, hk2⟩ := Zoc 0 l hlt_i hne
   have hne' : (l.getD i pw0).i ≠ 0 := hne
   have hy1 : ∀ τ, Qc1 Tryz.prog l' (Qi (dnP 0 (l.getD i pw0))) (B ((slp 0 (l.take i)).length) ++ τ) Φ (B ((slp 0 (l.take i)).length + 1) ++ τ) := fun τ => by
    have := hy _ τ hk1
    rwa [hk2] at this
   refine wp_skip ?_
   refine cW ?_
   refine wp_seq ?_
   refine Zhf Za h [0, 1, 2, 3, 4, 5, 6, 7, 8] _ (fun _ _ hh => hh) kk (Qs ⟨.inl rfl, .inl rfl, .inl rfl, .inl rfl, .inl rfl, .inl rfl, .inl rfl, .inr ⟨7, 41, _, _, _, rfl, rfl, by decide, _, Ju⟩, .inl rfl, trivial⟩) ?_; clear h
   refine Xj rfl kk (.fA rfl Zca) dd ?_
   refine Ya rfl kk rfl (by repeat (first | exact List.Mem.head _ | apply List.Mem.tail | apply List.mem_append_right)) isAgg41 sizeOf41 Zb0 dd ?_
   refine Zv (b := b2) (off := 0) (j := 0) (M := [.int .i64 0]) (v := .int .i64 ((0 : Nat) : Int)) rfl kk rfl (by first | assumption | (repeat (first | exact List.Mem.head _ | apply List.Mem.tail | apply List.mem_append_right))) (Nat.succ_pos _) isAgg3 sizeOf3 rfl (.inr rfl) dd ?_
   refine Xj rfl kk (.indexAddr rfl rfl (Zam _ _)) dd ?_
   refine Ya rfl kk rfl (by repeat (first | exact List.Mem.head _ | apply List.Mem.tail | apply List.mem_append_right)) isAgg3 sizeOf3 Zbk dd ?_
   refine Ys rfl kk (vs := [_]) rfl call21 (Ye _ oo oo) dd ?_
   have hl30 := Zs ((((l.getD i pw0).i : Nat) : Int)) oo oo
   refine Ys rfl kk (vs := [_, _]) rfl call18 (Jc _ _ oo oo) dd ?_
   have hl31 := Zm ((l.getD i pw0).c) ((((((l.getD i pw0).i : Nat) : Int) : Int) : Rat))
   refine Zeo rfl kk Ju dd ?_; intro b7
   refine Za8 rfl kk rfl rfl Zp (by repeat (first | exact Upd.head | apply Upd.tail | apply Upd.append)) sizeOf41 rfl (Nat.le_of_ble_eq_true rfl) rfl ?_
   refine Zfu ?_; intro a w h
   refine cW ?_
   refine wp_seq ?_
   refine wp_region_lit ?_
   refine Zc (Jw h (b := b2) (off := 0) (j := 0) (M := [.int .i64 0]) (v := .int .i64 ((0 : Nat) : Int)) rfl (by first | assumption | (repeat (first | exact List.Mem.head _ | apply List.Mem.tail | apply List.mem_append_right))) (Nat.succ_pos _) isAgg3 sizeOf3 rfl (.inr rfl) dd ?_); clear h; intro a h
   refine Zc (Zx h (.indexAddr rfl rfl (Zam _ _)) dd ?_); clear h; intro a h
   refine Zc (Qd h rfl (by repeat (first | exact List.Mem.head _ | apply List.Mem.tail | apply List.mem_append_right)) isAgg3 sizeOf3 Zbk dd ?_); clear h; intro a h
   refine Zc (Zx h (.pO (((l.getD i pw0).i) - 1) (.binOp rfl rfl (fun _ => Zhh _ _ _ _ _ (wrap_i64 _ oo oo)))) dd ?_); clear h; intro a h
   refine Zc (Zx h (.indexAddr rfl rfl (Zam _ _)) dd ?_); clear h; intro a h
   refine Zc (Vq h rfl rfl Zpw (by repeat (first | exact Upd.head | apply Upd.tail | apply Upd.append)) sizeOf3 rfl (Nat.le_of_ble_eq_true rfl) rfl ?_); clear h; intro a w h
   refine wpList_nil ?_
   refine cW ?_
   refine wp_seq ?_
   refine Zc6 ?_
   refine Ql (Zx h (.move rfl) dd ?_); clear h; intro a h
   refine Ql (Zx h (.indexAddr rfl rfl (Zam _ _)) dd ?_); clear h; intro a h
   refine Ql (Qd h rfl (by repeat (first | exact List.Mem.head _ | apply List.Mem.tail | apply List.mem_append_right)) isAgg3 sizeOf3 Zbk dd ?_); clear h; intro a h
   refine Ql (Zx h (.indexAddr rfl rfl (Zal _ _)) dd ?_); clear h; intro a h
   refine Ql (Qd h rfl (by repeat (first | exact List.Mem.head _ | apply List.Mem.tail | apply List.mem_append_right)) isAgg3 sizeOf3 Gq dd ?_); clear h; intro a h
   refine Ql (Zx h (.indexAddr rfl rfl (Zak _ _)) dd ?_); clear h; intro a h
   refine Ql (Qd h rfl (by repeat (first | exact List.Mem.head _ | apply List.Mem.tail | apply List.mem_append_right)) isAgg3 sizeOf3 Jo dd ?_); clear h; intro a h
   refine Ql (Qd h rfl (by repeat (first | exact List.Mem.head _ | apply List.Mem.tail | apply List.mem_append_right)) isAgg41 sizeOf41 Zh dd ?_); clear h; intro a h
   refine Ql (Zx h (.build [(_, _), (_, _), (_, _), (_, _)] rfl (Zag _ _ _ _ _ _ _ _)) dd ?_); clear h; intro a h
   refine Zed h hS rfl rfl (hy1 _) (List.perm_append_comm (l₁ := [_, _, _]) (l₂ := B ((slp 0 (l.take i)).length))) dd ?_; clear h; intro a w h
   refine Ql (Zx h (Pure1.cast (v' := .bool false) (.unOp rfl (Yp _)) cgd) dd ?_); clear h; intro a h
   refine wpListIn_nil ?_
   refine cW ?_
   refine Zf h rfl ?_
   refine wp_skip ?_
   refine cW ?_
   refine wp_region_lit ?_
   refine Zc (Zx h (.pN (i + 1) (.binOp rfl rfl (fun _ => Ki _ _ _ _ _ (wrap_i64 _ oo oo)))) dd ?_); clear h; intro a h
   refine Zc (Zx h (.move rfl) dd ?_); clear h; intro a h
   refine wpList_nil ?_
   rw [← hsl] at h
   exact ⟨i + 1, ⟨oo, ((h.perm (List.Perm.trans (Zga (List.Perm.refl _)) (List.Perm.cons _ (List.Perm.trans (Zga (List.Perm.refl _)) (List.Perm.cons _ (List.Perm.trans (Zga (List.Perm.refl _)) (List.Perm.cons _ (List.Perm.refl _))))))).symm).drop (by (try simp only [List.append_nil]); repeat (first | exact List.Sublist.refl _ | apply List.Sublist.cons))).sub sA⟩, oo⟩
 ·
  skip
  have heq_i : l.length = i := dF hc11
  subst heq_i
  refine wp_exit ?_
  refine Ztg h (Zax rfl) ⟨rfl, by rw [List.length_map, List.take_length], rfl⟩ (List.Sublist.refl _) (fun _ h => h)
set_option maxHeartbeats 1000000 in
theorem Zcv (l : List Pw) (ad : Option Addr) (c b1 b2 : Nat) (Φ : List Qf) (hl : OkPw l) (h1 : Row (some ⟨b1, 0, none⟩) [.slice ad l.length c] ∈ Φ) (h2 : Row (some ⟨b2, 0, none⟩) [.int .i64 1] ∈ Φ) (h3 : Row ad (cellsOf Qi l) ∈ Φ) : ItC Tryz.prog 155 [.pointer (some ⟨b1, 0, none⟩), .pointer (some ⟨b2, 0, none⟩)] Φ ((slp 1 l).map Qi) := by
 intro l' B hy
 refine fn_introM func155 rfl ntmps155 (Nat.le_of_ble_eq_true rfl) ?_
 intro S w0 a w hS h
 refine wp_seq ?_
 refine wp_region_lit ?_
 refine Zc (Jw h (b := b1) (off := 0) (j := 0) (M := [.slice ad l.length c]) (v := .slice ad l.length c) rfl (by first | assumption | (repeat (first | exact List.Mem.head _ | apply List.Mem.tail | apply List.mem_append_right))) (Nat.succ_pos _) isAgg103 sizeOf103 rfl (.inr rfl) dd ?_); clear h; intro a h
 refine Zc (Zx h (.builtin [_] rfl (Vd _ _ _)) dd ?_); clear h; intro a h
 refine Zc (Zx h (.move rfl) dd ?_); clear h; intro a h
 refine wpList_nil ?_
 refine cW ?_
 refine wp_block ?_
 refine Zn (fun (i : Nat) a w => i ≤ l.length ∧ St 49 S w0 [(0, .func (.yield l') #[] #[]), (2, pB b2), (8, .slice ad l.length c), (9, nI l.length), (10, nI i)] (B ((slp 1 (l.take i)).length)) (Φ) a w) (fun i => l.length - i) 0 (⟨Nat.zero_le _, by exact (h).sub sA⟩) ?_; clear h
 rintro i a w ⟨hi_i, h⟩
 refine wp_seq ?_
 refine wp_region_lit ?_
 refine Zc (Zx h (.binOp rfl rfl (fun _ => Zh7 _ _ _ _ _)) dd ?_); clear h; intro a h
 refine wpList_nil ?_
 refine cW ?_
 refine wp_seq ?_
 refine Zg h rfl (fun hc11 => ?_) (fun hc11 => ?_)
 ·
  skip
  have hlt_i : i < l.length := dT hc11
  obtain ⟨B_ad, O_ad, rfl⟩ := h.row_addr (ad := ad) (M := cellsOf Qi l) (by first | assumption | (repeat (first | exact List.Mem.head _ | apply List.Mem.tail | apply List.mem_append_right))) (nE 8)
  have hln := hl.1
  have hx := hl.2 _ (getD_mem l (d := pw0) hlt_i)
  have hsl := Zdp 1 l hlt_i
  refine wp_skip ?_
  refine cW ?_
  refine wp_seq ?_
  refine wp_block ?_
  refine wp_seq ?_
  refine wp_region_lit ?_
  refine Zc (Zx h (.indexAddr rfl rfl (Ziu _ _ _ _ _ oo)) dd ?_); clear h; intro a h
  refine Zc (Jw h rfl (by first | assumption | (repeat (first | exact List.Mem.head _ | apply List.Mem.tail | apply List.mem_append_right))) (cells_lt (k := 8) dd (fun _ => rfl) l i oo) isAgg107 sizeOf107 (Zq (k := 8) (fun _ => rfl) ((fun _ => rfl)) l pw0 i oo) (.inl rfl) dd ?_); clear h; intro a h
  refine Zc (Gk h Zes dd ?_); clear h; intro b5 a w h
  refine Zc (Vq h rfl rfl Gz (by repeat (first | exact Upd.head | apply Upd.tail | apply Upd.append)) sizeOf107 rfl (Nat.le_of_ble_eq_true rfl) rfl ?_); clear h; intro a w h
  refine wpList_nil ?_
  refine cW ?_
  refine wp_seq ?_
  refine wp_region_lit ?_
  refine Zc (Zx h (.fA rfl Zcd) dd ?_); clear h; intro a h
  refine Zc (Qd h rfl (by repeat (first | exact List.Mem.head _ | apply List.Mem.tail | apply List.mem_append_right)) isAgg3 sizeOf3 Zgy dd ?_); clear h; intro a h
  refine Zc (Zx h (.fA rfl Zcc) dd ?_); clear h; intro a h
  refine Zc (Qd h rfl (by repeat (first | exact List.Mem.head _ | apply List.Mem.tail | apply List.mem_append_right)) isAgg3 sizeOf3 Zgx dd ?_); clear h; intro a h
  refine Zc (Zx h (.fA rfl Zcb) dd ?_); clear h; intro a h
  refine Zc (Qd h rfl (by repeat (first | exact List.Mem.head _ | apply List.Mem.tail | apply List.mem_append_right)) isAgg3 sizeOf3 Zgw dd ?_); clear h; intro a h
  refine Zc (Zx h (.build [(_, _), (_, _), (_, _)] rfl (Kh _ _ _)) dd ?_); clear h; intro a h
  refine Zc (Gk h Zpp dd ?_); clear h; intro b6 a w h
  refine Zc (Vq h rfl rfl Qt (by repeat (first | exact Upd.head | apply Upd.tail | apply Upd.append)) sizeOf108 rfl (Nat.le_of_ble_eq_true rfl) rfl ?_); clear h; intro a w h
  refine wpList_nil ?_
  refine cW ?_
  refine wp_seq ?_
  refine wp_seq ?_
  refine wp_region_lit ?_
  refine Zc (Jw h (b := b2) (off := 0) (j := 0) (M := [.int .i64 1]) (v := .int .i64 ((1 : Nat) : Int)) rfl (by first | assumption | (repeat (first | exact List.Mem.head _ | apply List.Mem.tail | apply List.mem_append_right))) (Nat.succ_pos _) isAgg3 sizeOf3 rfl (.inr rfl) dd ?_); clear h; intro a h
  refine Zc (Zx h (.indexAddr rfl rfl (Zal _ _)) dd ?_); clear h; intro a h
  refine Zc (Qd h rfl (by repeat (first | exact List.Mem.head _ | apply List.Mem.tail | apply List.mem_append_right)) isAgg3 sizeOf3 Gq dd ?_); clear h; intro a h
  refine Zc (Zx h (.binOp rfl rfl (fun _ => Zky _ _ _ _ _)) dd ?_); clear h; intro a h
  refine wpList_nil ?_
  refine cW ?_
  refine Zg h rfl (fun hc24 => ?_) (fun hc24 => ?_)
  ·
   skip
   rw [if_neg (show ¬ exP (l.getD i pw0) 1 ≠ 0 from fun hh => hh (by show (l.getD i pw0).j = 0; have := beq_iff_eq.1 hc24; omega))] at hsl
   replace hsl := hsl.trans (Nat.add_zero _)
   refine wp_exit ?_
   refine cW ?_
   refine wp_region_lit ?_
   refine Zc (Zx h (.pN (i + 1) (.binOp rfl rfl (fun _ => Ki _ _ _ _ _ (wrap_i64 _ oo oo)))) dd ?_); clear h; intro a h
   refine Zc (Zx h (.move rfl) dd ?_); clear h; intro a h
   refine wpList_nil ?_
   rw [← hsl] at h
   exact ⟨i + 1, ⟨oo, (h.drop (by (try simp only [List.append_nil]); repeat (first | exact List.Sublist.refl _ | apply List.Sublist.cons))).sub sA⟩, oo⟩
  ·
   skip
   have hne : exP (l.getD i pw0) 1 ≠ 0 := by show (l.getD i pw0).j ≠ 0; intro e; rw [e] at hc24; exact absurd hc24 dd
   rw [if_pos hne] at hsl
   obtain ⟨hk1, hk2⟩ := Zoc 1 l hlt_i hne
   have hne' : (l.getD i pw0).j ≠ 0 := hne
   have hy1 : ∀ τ, Qc1 Tryz.prog l' (Qi (dnP 1 (l.getD i pw0))) (B ((slp 1 (l.take i)).length) ++ τ) Φ (B ((slp 1 (l.take i)).length + 1) ++ τ) := fun τ => by
    have := hy _ τ hk1
    rwa [hk2] at this
   refine wp_skip ?_
   refine cW ?_
   refine wp_seq ?_
   refine Zhf Za h [0, 1, 2, 3, 4, 5, 6, 7, 8] _ (fun _ _ hh => hh) kk (Qs ⟨.inl rfl, .inl rfl, .inl rfl, .inl rfl, .inl rfl, .inl rfl, .inl rfl, .inr ⟨7, 41, _, _, _, rfl, rfl, by decide, _, Ju⟩, .inl rfl, trivial⟩) ?_; clear h
   refine Xj rfl kk (.fA rfl Zca) dd ?_
   refine Ya rfl kk rfl (by repeat (first | exact List.Mem.head _ | apply List.Mem.tail | apply List.mem_append_right)) isAgg41 sizeOf41 Zb0 dd ?_
   refine Zv (b := b2) (off := 0) (j := 0) (M := [.int .i64 1]) (v := .int .i64 ((1 : Nat) : Int)) rfl kk rfl (by first | assumption | (repeat (first | exact List.Mem.head _ | apply List.Mem.tail | apply List.mem_append_right))) (Nat.succ_pos _) isAgg3 sizeOf3 rfl (.inr rfl) dd ?_
   refine Xj rfl kk (.indexAddr rfl rfl (Zal _ _)) dd ?_
   refine Ya rfl kk rfl (by repeat (first | exact List.Mem.head _ | apply List.Mem.tail | apply List.mem_append_right)) isAgg3 sizeOf3 Gq dd ?_
   refine Ys rfl kk (vs := [_]) rfl call21 (Ye _ oo oo) dd ?_
   have hl30 := Zs ((((l.getD i pw0).j : Nat) : Int)) oo oo
   refine Ys rfl kk (vs := [_, _]) rfl call18 (Jc _ _ oo oo) dd ?_
   have hl31 := Zm ((l.getD i pw0).c) ((((((l.getD i pw0).j : Nat) : Int) : Int) : Rat))
   refine Zeo rfl kk Ju dd ?_; intro b7
   refine Za8 rfl kk rfl rfl Zp (by repeat (first | exact Upd.head | apply Upd.tail | apply Upd.append)) sizeOf41 rfl (Nat.le_of_ble_eq_true rfl) rfl ?_
   refine Zfu ?_; intro a w h
   refine cW ?_
   refine wp_seq ?_
   refine wp_region_lit ?_
   refine Zc (Jw h (b := b2) (off := 0) (j := 0) (M := [.int .i64 1]) (v := .int .i64 ((1 : Nat) : Int)) rfl (by first | assumption | (repeat (first | exact List.Mem.head _ | apply List.Mem.tail | apply List.mem_append_right))) (Nat.succ_pos _) isAgg3 sizeOf3 rfl (.inr rfl) dd ?_); clear h; intro a h
   refine Zc (Zx h (.indexAddr rfl rfl (Zal _ _)) dd ?_); clear h; intro a h
   refine Zc (Qd h rfl (by repeat (first | exact List.Mem.head _ | apply List.Mem.tail | apply List.mem_append_right)) isAgg3 sizeOf3 Gq dd ?_); clear h; intro a h
   refine Zc (Zx h (.pO (((l.getD i pw0).j) - 1) (.binOp rfl rfl (fun _ => Zhh _ _ _ _ _ (wrap_i64 _ oo oo)))) dd ?_); clear h; intro a h
   refine Zc (Zx h (.indexAddr rfl rfl (Zal _ _)) dd ?_); clear h; intro a h
   refine Zc (Vq h rfl rfl Zpv (by repeat (first | exact Upd.head | apply Upd.tail | apply Upd.append)) sizeOf3 rfl (Nat.le_of_ble_eq_true rfl) rfl ?_); clear h; intro a w h
   refine wpList_nil ?_
   refine cW ?_
   refine wp_seq ?_
   refine Zc6 ?_
   refine Ql (Zx h (.move rfl) dd ?_); clear h; intro a h
   refine Ql (Zx h (.indexAddr rfl rfl (Zam _ _)) dd ?_); clear h; intro a h
   refine Ql (Qd h rfl (by repeat (first | exact List.Mem.head _ | apply List.Mem.tail | apply List.mem_append_right)) isAgg3 sizeOf3 Zbk dd ?_); clear h; intro a h
   refine Ql (Zx h (.indexAddr rfl rfl (Zal _ _)) dd ?_); clear h; intro a h
   refine Ql (Qd h rfl (by repeat (first | exact List.Mem.head _ | apply List.Mem.tail | apply List.mem_append_right)) isAgg3 sizeOf3 Gq dd ?_); clear h; intro a h
   refine Ql (Zx h (.indexAddr rfl rfl (Zak _ _)) dd ?_); clear h; intro a h
   refine Ql (Qd h rfl (by repeat (first | exact List.Mem.head _ | apply List.Mem.tail | apply List.mem_append_right)) isAgg3 sizeOf3 Jo dd ?_); clear h; intro a h
   refine Ql (Qd h rfl (by repeat (first | exact List.Mem.head _ | apply List.Mem.tail | apply List.mem_append_right)) isAgg41 sizeOf41 Zh dd ?_); clear h; intro a h
   refine Ql (Zx h (.build [(_, _), (_, _), (_, _), (_, _)] rfl (Zag _ _ _ _ _ _ _ _)) dd ?_); clear h; intro a h
   refine Zed h hS rfl rfl (hy1 _) (List.perm_append_comm (l₁ := [_, _, _]) (l₂ := B ((slp 1 (l.take i)).length))) dd ?_; clear h; intro a w h
   refine Ql (Zx h (Pure1.cast (v' := .bool false) (.unOp rfl (Yp _)) cgd) dd ?_); clear h; intro a h
   refine wpListIn_nil ?_
   refine cW ?_
   refine Zf h rfl ?_
   refine wp_skip ?_
   refine cW ?_
   refine wp_region_lit ?_
   refine Zc (Zx h (.pN (i + 1) (.binOp rfl rfl (fun _ => Ki _ _ _ _ _ (wrap_i64 _ oo oo)))) dd ?_); clear h; intro a h
   refine Zc (Zx h (.move rfl) dd ?_); clear h; intro a h
   refine wpList_nil ?_
   rw [← hsl] at h
   exact ⟨i + 1, ⟨oo, ((h.perm (List.Perm.trans (Zga (List.Perm.refl _)) (List.Perm.cons _ (List.Perm.trans (Zga (List.Perm.refl _)) (List.Perm.cons _ (List.Perm.trans (Zga (List.Perm.refl _)) (List.Perm.cons _ (List.Perm.refl _))))))).symm).drop (by (try simp only [List.append_nil]); repeat (first | exact List.Sublist.refl _ | apply List.Sublist.cons))).sub sA⟩, oo⟩
 ·
  skip
  have heq_i : l.length = i := dF hc11
  subst heq_i
  refine wp_exit ?_
  refine Ztg h (Zax rfl) ⟨rfl, by rw [List.length_map, List.take_length], rfl⟩ (List.Sublist.refl _) (fun _ h => h)
set_option maxHeartbeats 1000000 in
theorem Zcu (l : List Pw) (ad : Option Addr) (c b1 b2 : Nat) (Φ : List Qf) (hl : OkPw l) (h1 : Row (some ⟨b1, 0, none⟩) [.slice ad l.length c] ∈ Φ) (h2 : Row (some ⟨b2, 0, none⟩) [.int .i64 2] ∈ Φ) (h3 : Row ad (cellsOf Qi l) ∈ Φ) : ItC Tryz.prog 155 [.pointer (some ⟨b1, 0, none⟩), .pointer (some ⟨b2, 0, none⟩)] Φ ((slp 2 l).map Qi) := by
 intro l' B hy
 refine fn_introM func155 rfl ntmps155 (Nat.le_of_ble_eq_true rfl) ?_
 intro S w0 a w hS h
 refine wp_seq ?_
 refine wp_region_lit ?_
 refine Zc (Jw h (b := b1) (off := 0) (j := 0) (M := [.slice ad l.length c]) (v := .slice ad l.length c) rfl (by first | assumption | (repeat (first | exact List.Mem.head _ | apply List.Mem.tail | apply List.mem_append_right))) (Nat.succ_pos _) isAgg103 sizeOf103 rfl (.inr rfl) dd ?_); clear h; intro a h
 refine Zc (Zx h (.builtin [_] rfl (Vd _ _ _)) dd ?_); clear h; intro a h
 refine Zc (Zx h (.move rfl) dd ?_); clear h; intro a h
 refine wpList_nil ?_
 refine cW ?_
 refine wp_block ?_
 refine Zn (fun (i : Nat) a w => i ≤ l.length ∧ St 49 S w0 [(0, .func (.yield l') #[] #[]), (2, pB b2), (8, .slice ad l.length c), (9, nI l.length), (10, nI i)] (B ((slp 2 (l.take i)).length)) (Φ) a w) (fun i => l.length - i) 0 (⟨Nat.zero_le _, by exact (h).sub sA⟩) ?_; clear h
 rintro i a w ⟨hi_i, h⟩
 refine wp_seq ?_
 refine wp_region_lit ?_
 refine Zc (Zx h (.binOp rfl rfl (fun _ => Zh7 _ _ _ _ _)) dd ?_); clear h; intro a h
 refine wpList_nil ?_
 refine cW ?_
 refine wp_seq ?_
 refine Zg h rfl (fun hc11 => ?_) (fun hc11 => ?_)
 ·
  skip
  have hlt_i : i < l.length := dT hc11
  obtain ⟨B_ad, O_ad, rfl⟩ := h.row_addr (ad := ad) (M := cellsOf Qi l) (by first | assumption | (repeat (first | exact List.Mem.head _ | apply List.Mem.tail | apply List.mem_append_right))) (nE 8)
  have hln := hl.1
  have hx := hl.2 _ (getD_mem l (d := pw0) hlt_i)
  have hsl := Zdp 2 l hlt_i
  refine wp_skip ?_
  refine cW ?_
  refine wp_seq ?_
  refine wp_block ?_
  refine wp_seq ?_
  refine wp_region_lit ?_
  refine Zc (Zx h (.indexAddr rfl rfl (Ziu _ _ _ _ _ oo)) dd ?_); clear h; intro a h
  refine Zc (Jw h rfl (by first | assumption | (repeat (first | exact List.Mem.head _ | apply List.Mem.tail | apply List.mem_append_right))) (cells_lt (k := 8) dd (fun _ => rfl) l i oo) isAgg107 sizeOf107 (Zq (k := 8) (fun _ => rfl) ((fun _ => rfl)) l pw0 i oo) (.inl rfl) dd ?_); clear h; intro a h
  refine Zc (Gk h Zes dd ?_); clear h; intro b5 a w h
  refine Zc (Vq h rfl rfl Gz (by repeat (first | exact Upd.head | apply Upd.tail | apply Upd.append)) sizeOf107 rfl (Nat.le_of_ble_eq_true rfl) rfl ?_); clear h; intro a w h
  refine wpList_nil ?_
  refine cW ?_
  refine wp_seq ?_
  refine wp_region_lit ?_
  refine Zc (Zx h (.fA rfl Zcd) dd ?_); clear h; intro a h
  refine Zc (Qd h rfl (by repeat (first | exact List.Mem.head _ | apply List.Mem.tail | apply List.mem_append_right)) isAgg3 sizeOf3 Zgy dd ?_); clear h; intro a h
  refine Zc (Zx h (.fA rfl Zcc) dd ?_); clear h; intro a h
  refine Zc (Qd h rfl (by repeat (first | exact List.Mem.head _ | apply List.Mem.tail | apply List.mem_append_right)) isAgg3 sizeOf3 Zgx dd ?_); clear h; intro a h
  refine Zc (Zx h (.fA rfl Zcb) dd ?_); clear h; intro a h
  refine Zc (Qd h rfl (by repeat (first | exact List.Mem.head _ | apply List.Mem.tail | apply List.mem_append_right)) isAgg3 sizeOf3 Zgw dd ?_); clear h; intro a h
  refine Zc (Zx h (.build [(_, _), (_, _), (_, _)] rfl (Kh _ _ _)) dd ?_); clear h; intro a h
  refine Zc (Gk h Zpp dd ?_); clear h; intro b6 a w h
  refine Zc (Vq h rfl rfl Qt (by repeat (first | exact Upd.head | apply Upd.tail | apply Upd.append)) sizeOf108 rfl (Nat.le_of_ble_eq_true rfl) rfl ?_); clear h; intro a w h
  refine wpList_nil ?_
  refine cW ?_
  refine wp_seq ?_
  refine wp_seq ?_
  refine wp_region_lit ?_
  refine Zc (Jw h (b := b2) (off := 0) (j := 0) (M := [.int .i64 2]) (v := .int .i64 ((2 : Nat) : Int)) rfl (by first | assumption | (repeat (first | exact List.Mem.head _ | apply List.Mem.tail | apply List.mem_append_right))) (Nat.succ_pos _) isAgg3 sizeOf3 rfl (.inr rfl) dd ?_); clear h; intro a h
  refine Zc (Zx h (.indexAddr rfl rfl (Zak _ _)) dd ?_); clear h; intro a h
  refine Zc (Qd h rfl (by repeat (first | exact List.Mem.head _ | apply List.Mem.tail | apply List.mem_append_right)) isAgg3 sizeOf3 Jo dd ?_); clear h; intro a h
  refine Zc (Zx h (.binOp rfl rfl (fun _ => Zky _ _ _ _ _)) dd ?_); clear h; intro a h
  refine wpList_nil ?_
  refine cW ?_
  refine Zg h rfl (fun hc24 => ?_) (fun hc24 => ?_)
  ·
   skip
   rw [if_neg (show ¬ exP (l.getD i pw0) 2 ≠ 0 from fun hh => hh (by show (l.getD i pw0).k = 0; have := beq_iff_eq.1 hc24; omega))] at hsl
   replace hsl := hsl.trans (Nat.add_zero _)
   refine wp_exit ?_
   refine cW ?_
   refine wp_region_lit ?_
   refine Zc (Zx h (.pN (i + 1) (.binOp rfl rfl (fun _ => Ki _ _ _ _ _ (wrap_i64 _ oo oo)))) dd ?_); clear h; intro a h
   refine Zc (Zx h (.move rfl) dd ?_); clear h; intro a h
   refine wpList_nil ?_
   rw [← hsl] at h
   exact ⟨i + 1, ⟨oo, (h.drop (by (try simp only [List.append_nil]); repeat (first | exact List.Sublist.refl _ | apply List.Sublist.cons))).sub sA⟩, oo⟩
  ·
   skip
   have hne : exP (l.getD i pw0) 2 ≠ 0 := by show (l.getD i pw0).k ≠ 0; intro e; rw [e] at hc24; exact absurd hc24 dd
   rw [if_pos hne] at hsl
   obtain ⟨hk1, hk2⟩ := Zoc 2 l hlt_i hne
   have hne' : (l.getD i pw0).k ≠ 0 := hne
   have hy1 : ∀ τ, Qc1 Tryz.prog l' (Qi (dnP 2 (l.getD i pw0))) (B ((slp 2 (l.take i)).length) ++ τ) Φ (B ((slp 2 (l.take i)).length + 1) ++ τ) := fun τ => by
    have := hy _ τ hk1
    rwa [hk2] at this
   refine wp_skip ?_
   refine cW ?_
   refine wp_seq ?_
   refine Zhf Za h [0, 1, 2, 3, 4, 5, 6, 7, 8] _ (fun _ _ hh => hh) kk (Qs ⟨.inl rfl, .inl rfl, .inl rfl, .inl rfl, .inl rfl, .inl rfl, .inl rfl, .inr ⟨7, 41, _, _, _, rfl, rfl, by decide, _, Ju⟩, .inl rfl, trivial⟩) ?_; clear h
   refine Xj rfl kk (.fA rfl Zca) dd ?_
   refine Ya rfl kk rfl (by repeat (first | exact List.Mem.head _ | apply List.Mem.tail | apply List.mem_append_right)) isAgg41 sizeOf41 Zb0 dd ?_
   refine Zv (b := b2) (off := 0) (j := 0) (M := [.int .i64 2]) (v := .int .i64 ((2 : Nat) : Int)) rfl kk rfl (by first | assumption | (repeat (first | exact List.Mem.head _ | apply List.Mem.tail | apply List.mem_append_right))) (Nat.succ_pos _) isAgg3 sizeOf3 rfl (.inr rfl) dd ?_
   refine Xj rfl kk (.indexAddr rfl rfl (Zak _ _)) dd ?_
   refine Ya rfl kk rfl (by repeat (first | exact List.Mem.head _ | apply List.Mem.tail | apply List.mem_append_right)) isAgg3 sizeOf3 Jo dd ?_
   refine Ys rfl kk (vs := [_]) rfl call21 (Ye _ oo oo) dd ?_
   have hl30 := Zs ((((l.getD i pw0).k : Nat) : Int)) oo oo
   refine Ys rfl kk (vs := [_, _]) rfl call18 (Jc _ _ oo oo) dd ?_
   have hl31 := Zm ((l.getD i pw0).c) ((((((l.getD i pw0).k : Nat) : Int) : Int) : Rat))
   refine Zeo rfl kk Ju dd ?_; intro b7
   refine Za8 rfl kk rfl rfl Zp (by repeat (first | exact Upd.head | apply Upd.tail | apply Upd.append)) sizeOf41 rfl (Nat.le_of_ble_eq_true rfl) rfl ?_
   refine Zfu ?_; intro a w h
   refine cW ?_
   refine wp_seq ?_
   refine wp_region_lit ?_
   refine Zc (Jw h (b := b2) (off := 0) (j := 0) (M := [.int .i64 2]) (v := .int .i64 ((2 : Nat) : Int)) rfl (by first | assumption | (repeat (first | exact List.Mem.head _ | apply List.Mem.tail | apply List.mem_append_right))) (Nat.succ_pos _) isAgg3 sizeOf3 rfl (.inr rfl) dd ?_); clear h; intro a h
   refine Zc (Zx h (.indexAddr rfl rfl (Zak _ _)) dd ?_); clear h; intro a h
   refine Zc (Qd h rfl (by repeat (first | exact List.Mem.head _ | apply List.Mem.tail | apply List.mem_append_right)) isAgg3 sizeOf3 Jo dd ?_); clear h; intro a h
   refine Zc (Zx h (.pO (((l.getD i pw0).k) - 1) (.binOp rfl rfl (fun _ => Zhh _ _ _ _ _ (wrap_i64 _ oo oo)))) dd ?_); clear h; intro a h
   refine Zc (Zx h (.indexAddr rfl rfl (Zak _ _)) dd ?_); clear h; intro a h
   refine Zc (Vq h rfl rfl Zpu (by repeat (first | exact Upd.head | apply Upd.tail | apply Upd.append)) sizeOf3 rfl (Nat.le_of_ble_eq_true rfl) rfl ?_); clear h; intro a w h
   refine wpList_nil ?_
   refine cW ?_
   refine wp_seq ?_
   refine Zc6 ?_
   refine Ql (Zx h (.move rfl) dd ?_); clear h; intro a h
   refine Ql (Zx h (.indexAddr rfl rfl (Zam _ _)) dd ?_); clear h; intro a h
   refine Ql (Qd h rfl (by repeat (first | exact List.Mem.head _ | apply List.Mem.tail | apply List.mem_append_right)) isAgg3 sizeOf3 Zbk dd ?_); clear h; intro a h
   refine Ql (Zx h (.indexAddr rfl rfl (Zal _ _)) dd ?_); clear h; intro a h
   refine Ql (Qd h rfl (by repeat (first | exact List.Mem.head _ | apply List.Mem.tail | apply List.mem_append_right)) isAgg3 sizeOf3 Gq dd ?_); clear h; intro a h
   refine Ql (Zx h (.indexAddr rfl rfl (Zak _ _)) dd ?_); clear h; intro a h
   refine Ql (Qd h rfl (by repeat (first | exact List.Mem.head _ | apply List.Mem.tail | apply List.mem_append_right)) isAgg3 sizeOf3 Jo dd ?_); clear h; intro a h
   refine Ql (Qd h rfl (by repeat (first | exact List.Mem.head _ | apply List.Mem.tail | apply List.mem_append_right)) isAgg41 sizeOf41 Zh dd ?_); clear h; intro a h
   refine Ql (Zx h (.build [(_, _), (_, _), (_, _), (_, _)] rfl (Zag _ _ _ _ _ _ _ _)) dd ?_); clear h; intro a h
   refine Zed h hS rfl rfl (hy1 _) (List.perm_append_comm (l₁ := [_, _, _]) (l₂ := B ((slp 2 (l.take i)).length))) dd ?_; clear h; intro a w h
   refine Ql (Zx h (Pure1.cast (v' := .bool false) (.unOp rfl (Yp _)) cgd) dd ?_); clear h; intro a h
   refine wpListIn_nil ?_
   refine cW ?_
   refine Zf h rfl ?_
   refine wp_skip ?_
   refine cW ?_
   refine wp_region_lit ?_
   refine Zc (Zx h (.pN (i + 1) (.binOp rfl rfl (fun _ => Ki _ _ _ _ _ (wrap_i64 _ oo oo)))) dd ?_); clear h; intro a h
   refine Zc (Zx h (.move rfl) dd ?_); clear h; intro a h
   refine wpList_nil ?_
   rw [← hsl] at h
   exact ⟨i + 1, ⟨oo, ((h.perm (List.Perm.trans (Zga (List.Perm.refl _)) (List.Perm.cons _ (List.Perm.trans (Zga (List.Perm.refl _)) (List.Perm.cons _ (List.Perm.trans (Zga (List.Perm.refl _)) (List.Perm.cons _ (List.Perm.refl _))))))).symm).drop (by (try simp only [List.append_nil]); repeat (first | exact List.Sublist.refl _ | apply List.Sublist.cons))).sub sA⟩, oo⟩
 ·
  skip
  have heq_i : l.length = i := dF hc11
  subst heq_i
  refine wp_exit ?_
  refine Ztg h (Zax rfl) ⟨rfl, by rw [List.length_map, List.take_length], rfl⟩ (List.Sublist.refl _) (fun _ h => h)
end
section
theorem rs_1_0 {c0 : Value} : Qe false 1 #[c0] 0 = some c0 := rfl
def tgK (p q : List Pw) (k m : Nat) : Rat := (q.take m).foldl (tgS (p.getD k pw0)) (tgQ (p.take k) q)
theorem Zxv (p : List Pw) {q : List Pw} (k : Nat) {m : Nat} (h : m < q.length) : tgK p q k (m + 1) = tgS (p.getD k pw0) (tgK p q k m) (q.getD m pw0) := by
 unfold tgK
 rw [List.take_add_one, List.getElem?_eq_getElem h, List.foldl_append]
 simp [List.getD, h]
theorem Qbc {p q : List Pw} {k : Nat} (h : k < p.length) : tgK p q k q.length = tgQ (p.take (k + 1)) q := by
 unfold tgK tgQ
 rw [List.take_length, List.take_add_one, List.getElem?_eq_getElem h, List.foldl_append]
 simp [List.getD, h, tgI]
theorem Zyu {x y : Pw} (hx : x.i ≤ 4 ∧ x.j ≤ 4 ∧ x.k ≤ 4 ∧ Zu x.c ≤ 100) (hy : y.i ≤ 4 ∧ y.j ≤ 4 ∧ y.k ≤ 4 ∧ Zu y.c ≤ 100) (s : Rat) : Zu (tgS x s y) ≤ Zu s + 10000 := by
 have h1 := Zio (x.i + y.i) (x.j + y.j) (x.k + y.k) oo oo oo
 have h2 := Zm (x.c * y.c) (Zdv (x.i + y.i) (x.j + y.j) (x.k + y.k))
 have h3 := Zm x.c y.c
 have h4 := Qo s (x.c * y.c * Zdv (x.i + y.i) (x.j + y.j) (x.k + y.k))
 unfold tgS; omega
theorem Zle {x : Pw} (hx : x.i ≤ 4 ∧ x.j ≤ 4 ∧ x.k ≤ 4 ∧ Zu x.c ≤ 100) : ∀ (q : List Pw) (s : Rat), (∀ y ∈ q, y.i ≤ 4 ∧ y.j ≤ 4 ∧ y.k ≤ 4 ∧ Zu y.c ≤ 100) → Zu (q.foldl (tgS x) s) ≤ Zu s + 10000 * q.length
 | [], s, _ => by simp
 | y :: q, s, h => by
  have h1 := Zyu hx (h y List.mem_cons_self) s
  have h2 := Zle hx q (tgS x s y) (fun z hz => h z (List.mem_cons_of_mem _ hz))
  rw [List.foldl_cons, List.length_cons]; omega
theorem Zqo {q : List Pw} (hq : OkPw q) : ∀ (p : List Pw) (s : Rat), (∀ y ∈ p, y.i ≤ 4 ∧ y.j ≤ 4 ∧ y.k ≤ 4 ∧ Zu y.c ≤ 100) → Zu (p.foldl (tgI q) s) ≤ Zu s + 100000 * p.length
 | [], s, _ => by simp
 | x :: p, s, h => by
  have h1 := Zle (h x List.mem_cons_self) q s hq.2
  have h2 := Zqo hq p (tgI q s x) (fun z hz => h z (List.mem_cons_of_mem _ hz))
  have h3 := hq.1
  rw [List.foldl_cons, List.length_cons]; unfold tgI at h2 ⊢; omega
theorem Zyv {p q : List Pw} (hp : OkPw p) (hq : OkPw q) : Zu (tgQ p q) ≤ 2000000 := by
 have h1 := Zqo hq p 0 hp.2
 have h2 := hp.1
 have h3 := Vh
 unfold tgQ; omega
theorem OkPw.take {p : List Pw} (h : OkPw p) (k : Nat) : OkPw (p.take k) := ⟨Nat.le_trans (by rw [List.length_take]; omega) h.1, fun x hx => h.2 x (List.mem_of_mem_take hx)⟩
theorem Zyw {p q : List Pw} (hp : OkPw p) (hq : OkPw q) {k : Nat} (hk : k < p.length) (m : Nat) : Zu (tgK p q k m) ≤ 3000000 := by
 have h1 := Zyv (hp.take k) hq
 have h2 := Zle (hp.2 _ (getD_mem p (d := pw0) hk)) (q.take m) (tgQ (p.take k) q) (hq.take m).2
 have h3 := (hq.take m).1
 unfold tgK; omega
set_option maxHeartbeats 1000000 in
theorem Vm (gf1 gf2 : Nat) (lb1 lb2 : List Value) (Φ : List Qf) (p q : List Pw) (hp : OkPw p) (hq : OkPw q) (hg1 : ∀ args w, (callFunc gf1 args).run Tryz.prog w = .ok (.enter gf1 args) w) (hg2 : ∀ args w, (callFunc gf2 args).run Tryz.prog w = .ok (.enter gf2 args) w)
  (hit1 : ItC Tryz.prog gf1 lb1 Φ (p.map Qi)) (hit2 : ItC Tryz.prog gf2 lb2 Φ (q.map Qi)) : Gh Tryz.prog 108 [.func (.func gf1) #[] lb1.toArray, .func (.func gf2) #[] lb2.toArray] Φ (Zr (tgQ p q)) := by
 refine fn_introMk func108 rfl ntmps108 (Nat.le_of_ble_eq_true rfl) ?_
 intro S w0 a hS h
 refine wp_seq ?_
 refine wp_region_lit ?_
 refine Zc (Qao h rfl dd ?_); clear h; intro b3 a w h
 refine Zc (Gk h Ju dd ?_); clear h; intro b4 a w h
 refine wpList_nil ?_
 refine cW ?_
 refine wp_seq ?_
 refine wp_seq ?_
 refine wp_region_lit ?_
 refine Zc (Zx h (.move rfl) dd ?_); clear h; intro a h
 refine wpList_nil ?_
 refine cW ?_
 refine wp_block ?_
 refine rangeF h hS (gf := gf1) (lb := lb1) (xs := p.map Qi) rfl hg1 hit1 dd (fun k => [(b4, bV (Zr (tgQ (p.take k) q)) 41), (b3, bV (.func (.func gf2) #[] lb2.toArray) 169)]) (List.Perm.refl _) (fun k hk_k => ?_) (fun D o w h => ?_)
 ·
  skip
  clear h
  rw [List.length_map] at hk_k
  rw [Zgj hk_k]
  have hx := hp.2 _ (getD_mem p (d := pw0) hk_k)
  intro S w0 l_k r_k τ_k a w hS hr_k h
  replace h : St 36 S w0 [(0, .func (.func gf1) #[] lb1.toArray), (1, .func (.func gf2) #[] lb2.toArray), (3, pB b3), (4, pB b4), (7, .func (.func gf1) #[] lb1.toArray), (8, Qi ((p.getD k pw0)))] ((b4, bV (Zr (tgQ (p.take k) q)) 41) :: (b3, bV (.func (.func gf2) #[] lb2.toArray) 169) :: (l_k, Obj.loop r_k) :: τ_k) (Φ) a w := by exact h.sub sA
  refine Zic (by repeat (first | apply Zfr | apply Zek | exact (fun ⟨_, _, hh⟩ => hh.elim) | exact (fun ⟨_, _, hh⟩ => nomatch hh.1))) rfl ?_
  refine Zc (Gk h Zes dd ?_); clear h; intro b5 a w h
  refine Zc (Vq h rfl rfl Gz (by repeat (first | exact Upd.head | apply Upd.tail | apply Upd.append)) sizeOf107 rfl (Nat.le_of_ble_eq_true rfl) rfl ?_); clear h; intro a w h
  refine wpList_nil ?_
  refine ⟨[(b5, bV (Qi ((p.getD k pw0))) 107)] ++ ([(b4, bV (Zr (tgQ (p.take k) q)) 41)] ++ ([(b3, bV (.func (.func gf2) #[] lb2.toArray) 169)])), _, by exact h, fun w h => ?_⟩
  replace h : St 36 S w0 [(0, .func (.func gf1) #[] lb1.toArray), (1, .func (.func gf2) #[] lb2.toArray), (3, pB b3), (4, pB b4), (5, pB b5), (7, .func (.func gf1) #[] lb1.toArray), (8, Qi ((p.getD k pw0)))] ((b5, bV (Qi ((p.getD k pw0))) 107) :: (b4, bV (Zr (tgQ (p.take k) q)) 41) :: (b3, bV (.func (.func gf2) #[] lb2.toArray) 169) :: (l_k, Obj.loop { r_k with state := .busy }) :: τ_k) (Φ) a w := by exact h.sub sA
  refine wpIn_block ?_
  refine wpIn_seq ?_
  refine Zic (by repeat (first | apply Zfr | apply Zek | exact (fun ⟨_, _, hh⟩ => hh.elim) | exact (fun ⟨_, _, hh⟩ => nomatch hh.1))) rfl ?_
  refine Zc (Qd h rfl (by repeat (first | exact List.Mem.head _ | apply List.Mem.tail | apply List.mem_append_right)) isAgg169 sizeOf169 rs_1_0 dd ?_); clear h; intro a h
  refine wpList_nil ?_
  change Code.wpIn _ _ _ _ _ _ _
  refine wpIn_block ?_
  refine Qbp h hS (l0 := l_k) (by first | assumption | (repeat (first | exact List.Mem.head _ | apply List.Mem.tail | apply List.mem_append_right))) (gf := gf2) (lb := lb2) (xs := q.map Qi) rfl hg2 hit2 dd (fun m => ((b5, bV (Qi ((p.getD k pw0))) 107) :: (b4, bV (Zr (tgK p q k m)) 41) :: (b3, bV (.func (.func gf2) #[] lb2.toArray) 169) :: (l_k, Obj.loop { r_k with state := .busy }) :: τ_k)) (List.Perm.refl _) (fun m hk_m => ?_) (fun o w h => ?_)
  ·
   skip
   clear h
   rw [List.length_map] at hk_m
   rw [Zgj hk_m]
   have hy := hq.2 _ (getD_mem q (d := pw0) hk_m)
   have hst := Zxv p k hk_m
   unfold tgS at hst
   have hlk := Zyw hp hq hk_k m
   intro S w0 l_m r_m τ_m a w hS hr_m h
   replace h : St 36 S w0 [(0, .func (.func gf1) #[] lb1.toArray), (1, .func (.func gf2) #[] lb2.toArray), (3, pB b3), (4, pB b4), (5, pB b5), (7, .func (.func gf1) #[] lb1.toArray), (8, Qi ((p.getD k pw0))), (9, .func (.func gf2) #[] lb2.toArray), (10, Qi ((q.getD m pw0)))] ((b5, bV (Qi ((p.getD k pw0))) 107) :: ((b4, bV (Zr (tgK p q k m)) 41) :: ((b3, bV (.func (.func gf2) #[] lb2.toArray) 169) :: ((l_k, Obj.loop { r_k with state := .busy }) :: (τ_k ++ ((l_m, Obj.loop r_m) :: τ_m)))))) (Φ) a w := by exact h.sub sA
   refine Zic (by repeat (first | apply Zfr | apply Zek | exact (fun ⟨_, _, hh⟩ => hh.elim) | exact (fun ⟨_, _, hh⟩ => nomatch hh.1))) rfl ?_
   refine Zc (Gk h Zes dd ?_); clear h; intro b6 a w h
   refine Zc (Vq h rfl rfl Gz (by repeat (first | exact Upd.head | apply Upd.tail | apply Upd.append)) sizeOf107 rfl (Nat.le_of_ble_eq_true rfl) rfl ?_); clear h; intro a w h
   refine wpList_nil ?_
   refine ⟨[(b6, bV (Qi ((q.getD m pw0))) 107)] ++ ([(b5, bV (Qi ((p.getD k pw0))) 107)] ++ ([(b4, bV (Zr (tgK p q k m)) 41)] ++ ([(b3, bV (.func (.func gf2) #[] lb2.toArray) 169)] ++ ([(l_k, Obj.loop { r_k with state := .busy })] ++ (τ_k))))), _, by exact h, fun w h => ?_⟩
   replace h : St 36 S w0 [(0, .func (.func gf1) #[] lb1.toArray), (1, .func (.func gf2) #[] lb2.toArray), (3, pB b3), (4, pB b4), (5, pB b5), (6, pB b6), (7, .func (.func gf1) #[] lb1.toArray), (8, Qi ((p.getD k pw0))), (9, .func (.func gf2) #[] lb2.toArray), (10, Qi ((q.getD m pw0)))] ((b6, bV (Qi ((q.getD m pw0))) 107) :: ((b5, bV (Qi ((p.getD k pw0))) 107) :: ((b4, bV (Zr (tgK p q k m)) 41) :: ((b3, bV (.func (.func gf2) #[] lb2.toArray) 169) :: ((l_k, Obj.loop { r_k with state := .busy }) :: (τ_k ++ ((l_m, Obj.loop { r_m with state := .busy }) :: τ_m))))))) (Φ) a w := by exact h.sub sA
   refine wpIn_block ?_
   refine Zzg Za (by repeat (first | apply Zfr | apply Zek | exact (fun ⟨_, _, hh⟩ => hh.elim) | exact (fun ⟨_, _, hh⟩ => nomatch hh.1))) rfl h [0, 1, 2, 3, 4, 6, 7, 8, 9, 10, 11, 12, 13, 14, 15, 16, 17, 18, 19, 20, 5, 21, 22, 23, 24] kk kk rfl (Zd kk) ?_; clear h
   refine Ya rfl kk rfl (by repeat (first | exact List.Mem.head _ | apply List.Mem.tail | apply List.mem_append_right)) isAgg41 sizeOf41 Zh dd ?_
   refine Xj rfl kk (.fA rfl Zca) dd ?_
   refine Ya rfl kk rfl (by repeat (first | exact List.Mem.head _ | apply List.Mem.tail | apply List.mem_append_right)) isAgg41 sizeOf41 Zb0 dd ?_
   refine Xj rfl kk (.fA rfl Zca) dd ?_
   refine Ya rfl kk rfl (by repeat (first | exact List.Mem.head _ | apply List.Mem.tail | apply List.mem_append_right)) isAgg41 sizeOf41 Zb0 dd ?_
   refine Xj rfl kk (.fA rfl Zcd) dd ?_
   refine Ya rfl kk rfl (by repeat (first | exact List.Mem.head _ | apply List.Mem.tail | apply List.mem_append_right)) isAgg3 sizeOf3 Zgy dd ?_
   refine Xj rfl kk (.fA rfl Zcd) dd ?_
   refine Ya rfl kk rfl (by repeat (first | exact List.Mem.head _ | apply List.Mem.tail | apply List.mem_append_right)) isAgg3 sizeOf3 Zgy dd ?_
   refine Xj rfl kk (.pN ((((p.getD k pw0)).i) + (((q.getD m pw0)).i)) (.binOp rfl rfl (fun _ => Ki _ _ _ _ _ (wrap_i64 _ oo oo)))) dd ?_
   refine Xj rfl kk (.fA rfl Zcc) dd ?_
   refine Ya rfl kk rfl (by repeat (first | exact List.Mem.head _ | apply List.Mem.tail | apply List.mem_append_right)) isAgg3 sizeOf3 Zgx dd ?_
   refine Xj rfl kk (.fA rfl Zcc) dd ?_
   refine Ya rfl kk rfl (by repeat (first | exact List.Mem.head _ | apply List.Mem.tail | apply List.mem_append_right)) isAgg3 sizeOf3 Zgx dd ?_
   refine Xj rfl kk (.pN ((((p.getD k pw0)).j) + (((q.getD m pw0)).j)) (.binOp rfl rfl (fun _ => Ki _ _ _ _ _ (wrap_i64 _ oo oo)))) dd ?_
   refine Xj rfl kk (.fA rfl Zcb) dd ?_
   refine Ya rfl kk rfl (by repeat (first | exact List.Mem.head _ | apply List.Mem.tail | apply List.mem_append_right)) isAgg3 sizeOf3 Zgw dd ?_
   refine Xj rfl kk (.fA rfl Zcb) dd ?_
   refine Ya rfl kk rfl (by repeat (first | exact List.Mem.head _ | apply List.Mem.tail | apply List.mem_append_right)) isAgg3 sizeOf3 Zgw dd ?_
   refine Xj rfl kk (.pN ((((p.getD k pw0)).k) + (((q.getD m pw0)).k)) (.binOp rfl rfl (fun _ => Ki _ _ _ _ _ (wrap_i64 _ oo oo)))) dd ?_
   refine Ys rfl kk (vs := [_, _]) rfl call18 (Jc _ _ oo oo) dd ?_
   have hl16 := Zm (((p.getD k pw0)).c) (((q.getD m pw0)).c)
   refine Ys rfl kk (vs := [_, _, _]) rfl call154 (Qac _ _ _ oo oo oo) dd ?_
   have hl32 := Zio ((((p.getD k pw0)).i) + (((q.getD m pw0)).i)) ((((p.getD k pw0)).j) + (((q.getD m pw0)).j)) ((((p.getD k pw0)).k) + (((q.getD m pw0)).k)) oo oo oo
   refine Ys rfl kk (vs := [_, _]) rfl call18 (Jc _ _ oo oo) dd ?_
   have hl33 := Zm ((((p.getD k pw0)).c) * (((q.getD m pw0)).c)) (Zdv ((((p.getD k pw0)).i) + (((q.getD m pw0)).i)) ((((p.getD k pw0)).j) + (((q.getD m pw0)).j)) ((((p.getD k pw0)).k) + (((q.getD m pw0)).k)))
   refine Ys rfl kk (vs := [_, _]) rfl call49 (Vu _ _ oo oo) dd ?_
   have hl34 := Qo (tgK p q k m) (((((p.getD k pw0)).c) * (((q.getD m pw0)).c)) * (Zdv ((((p.getD k pw0)).i) + (((q.getD m pw0)).i)) ((((p.getD k pw0)).j) + (((q.getD m pw0)).j)) ((((p.getD k pw0)).k) + (((q.getD m pw0)).k))))
   refine Za8 rfl kk rfl rfl Zp (by repeat (first | exact Upd.head | apply Upd.tail | apply Upd.append)) sizeOf41 rfl (Nat.le_of_ble_eq_true rfl) rfl ?_
   refine Zfu ?_; intro a w h
   rw [← hst] at h
   exact ⟨rfl, by exact (h.drop (by repeat (first | exact List.Sublist.refl _ | apply List.Sublist.cons))).mem⟩
  ·
   skip
   rw [List.length_map] at h
   replace h := h.drop (List.Sublist.cons _ (List.Sublist.refl _))
   rw [Qbc hk_k] at h
   exact ⟨rfl, by exact (h.drop (by repeat (first | exact List.Sublist.refl _ | apply List.Sublist.cons))).mem⟩
 ·
  skip
  rw [List.length_map] at h
  simp only [List.take_length] at h
  refine cW ?_
  refine wp_seq ?_
  refine wp_region_lit (Ztl ?_)
  refine Zc (Qd h rfl (by repeat (first | exact List.Mem.head _ | apply List.Mem.tail | apply List.mem_append_right)) isAgg41 sizeOf41 Zh dd ?_); clear h; intro a h
  refine Zc (Vq h rfl rfl Zp (by repeat (first | exact Upd.head | apply Upd.tail | apply Upd.append)) sizeOf41 rfl (Nat.le_of_ble_eq_true rfl) rfl ?_); clear h; intro a w h
  refine wpList_nil ?_
  refine cW ?_
  refine wp_ret ?_
  refine retMk h Upd.head (fun w h => Zk h rfl (.cell rfl (by repeat (first | exact List.Mem.head _ | apply List.Mem.tail | apply List.mem_append_right)) isAgg41 sizeOf41 Zh)) ⟨rfl, rfl⟩ (fun _ hR => nomatch hR)
end
end Go.Proofs.YthcjdeklpegceaaGreatDoor
