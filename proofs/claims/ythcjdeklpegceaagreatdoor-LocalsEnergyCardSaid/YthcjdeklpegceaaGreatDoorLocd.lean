/- Walks of functions. By an AI agent. -/
import Derived.Test.YthcjdeklpegceaaGreatDoorPolyse
import Derived.Test.YthcjdeklpegceaaGreatDoorFxI
set_option linter.unusedVariables false
set_option linter.unusedSimpArgs false
set_option maxRecDepth 4000
namespace Go.Proofs.YthcjdeklpegceaaGreatDoor
open Go Go.Proofs Go.Fx Tryz
attribute [local irreducible] Oper.wp Code.wp wpList Fx.Head wpOp Qi
section
def crQ (u v : Pt) : Rat := u.1 * v.2 - u.2 * v.1
def Jt (a b : Pt) : Pt := (a.1 - b.1, a.2 - b.2)
def addP (a b : Pt) : Pt := (a.1 + b.1, a.2 + b.2)
def Zp1 (a : Pt) (k : Rat) : Pt := (a.1 * k, a.2 * k)
def Zap (a b : Pt) : Rat := a.1 * b.1 + a.2 * b.2
def twP (a b c : Pt) : Rat := crQ (Jt b a) (Jt c a)
theorem Qcu (a b c : Pt) : twP a b c = twQ a b c := by unfold twP crQ Jt twQ; grind
def grP (e f : Pt) (t : Rat) : Pt := (-((Jt e f).2) / t, (Jt e f).1 / t)
def Zd (a b c : Pt) : Pt × Pt × Pt := (grP c b (twP a b c), grP a c (twP a b c), grP b a (twP a b c))
def Vb (a b c p : Pt) : Rat × Rat × Rat := (twP p b c / twP a b c, twP a p c / twP a b c, twP a b p / twP a b c)
def vx (a b c : Pt) (s t : Rat) : Rat := (b.1 - a.1) * s + (c.1 - a.1) * t + a.1
def vy (a b c : Pt) (s t : Rat) : Rat := (b.2 - a.2) * s + (c.2 - a.2) * t + a.2
theorem Znd {a b c : Pt} (h : twP a b c ≠ 0) (s t : Rat) :
  (Vb a b c (0, 0)).1 + ((Zd a b c).1.1 * vx a b c s t + (Zd a b c).1.2 * vy a b c s t) = 1 - s - t ∧
  (Vb a b c (0, 0)).2.1 + ((Zd a b c).2.1.1 * vx a b c s t + (Zd a b c).2.1.2 * vy a b c s t) = s ∧
  (Vb a b c (0, 0)).2.2 + ((Zd a b c).2.2.1 * vx a b c s t + (Zd a b c).2.2.2 * vy a b c s t) = t := by
 have hi : twP a b c * (twP a b c)⁻¹ = 1 := Rat.mul_inv_cancel _ h
 simp only [Vb, Zd, grP, Rat.div_def]
 generalize (twP a b c)⁻¹ = I at hi ⊢
 simp only [twP, crQ, Jt, vx, vy] at hi ⊢
 refine ⟨?_, ?_, ?_⟩ <;> grind
structure Pw where
 i : Nat
 j : Nat
 k : Nat
 c : Rat
def Jq (c : Int) (l : List Nat) : Pw := ⟨l.count 0, l.count 1, l.count 2, (c : Rat)⟩
def sdA : Nat → Nat
 | 0 => 1
 | 1 => 2
 | _ => 0
def sdB : Nat → Nat
 | 0 => 2
 | 1 => 0
 | _ => 1
def Qc (o n : Nat) : List Pw := if o = 1 then [Jq 1 [n]] else if n < 3 then [Jq 2 [n, n], Jq (-1) [n]] else [Jq 4 [sdA (n - 3), sdB (n - 3)]]
def Qk (o : Nat) : Nat := if o = 1 then 3 else 6
def exP (p : Pw) : Nat → Nat
 | 0 => p.i
 | 1 => p.j
 | _ => p.k
def dnP (b : Nat) (p : Pw) : Pw := match b with
 | 0 => ⟨p.i - 1, p.j, p.k, p.c * ((p.i : Int) : Rat)⟩
 | 1 => ⟨p.i, p.j - 1, p.k, p.c * ((p.j : Int) : Rat)⟩
 | _ => ⟨p.i, p.j, p.k - 1, p.c * ((p.k : Int) : Rat)⟩
def slp (b : Nat) (l : List Pw) : List Pw := (l.filter (fun p => decide (exP p b ≠ 0))).map (dnP b)
def tgS (p : Pw) (s : Rat) (q : Pw) : Rat := s + p.c * q.c * Zeo (p.i + q.i) (p.j + q.j) (p.k + q.k)
def tgI (b : List Pw) (s : Rat) (p : Pw) : Rat := b.foldl (tgS p) s
def tgQ (a b : List Pw) : Rat := a.foldl (tgI b) 0
def Zcu (o n m : Nat) : Rat := tgQ (Qc o n) (Qc o m)
def Zm (o n m i k : Nat) : Rat := tgQ (slp i (Qc o n)) (slp k (Qc o m))
theorem Zz5 (f g : Nat → Rat) : (List.range 9).foldl (fun s t => s + f t * g t) 0 = f 0 * g 0 + f 1 * g 1 + f 2 * g 2 + f 3 * g 3 + f 4 * g 4 + f 5 * g 5 + f 6 * g 6 + f 7 * g 7 + f 8 * g 8 := by
 simp only [List.range, List.range.loop, List.foldl_cons, List.foldl_nil]; grind
def stE (o : Nat) (B : List Rat) (n m : Nat) : Rat := (List.range 9).foldl (fun s t => s + Zm o n m (t / 3) (t % 3) * B.getD t 0) 0
def Xr (k : Rat × Rat × Rat) (g : Pt) : Pt := (k.1 * g.1 + k.2.1 * g.2, k.2.1 * g.1 + k.2.2 * g.2)
def Zx3 : Rat := ((1 : Int) : Rat) / ((2 : Int) : Rat)
def Qb (a b c : Pt) : Rat := twP a b c * Zx3
def byP (k : Rat × Rat × Rat) (A : Rat) (gi gj : Pt) : Rat := A * Zap (Xr k gj) gi
def byL (k : Rat × Rat × Rat) (A : Rat) (g : Pt × Pt × Pt) : List Rat :=
 [byP k A g.1 g.1, byP k A g.1 g.2.1, byP k A g.1 g.2.2, byP k A g.2.1 g.1, byP k A g.2.1 g.2.1, byP k A g.2.1 g.2.2, byP k A g.2.2 g.1, byP k A g.2.2 g.2.1, byP k A g.2.2 g.2.2]
theorem Zrr (o : Nat) (k : Rat × Rat × Rat) (A : Rat) (g : Pt × Pt × Pt) (n m : Nat) : stE o (byL k A g) n m =
  Zm o n m 0 0 * byP k A g.1 g.1 + Zm o n m 0 1 * byP k A g.1 g.2.1 + Zm o n m 0 2 * byP k A g.1 g.2.2 +
  Zm o n m 1 0 * byP k A g.2.1 g.1 + Zm o n m 1 1 * byP k A g.2.1 g.2.1 + Zm o n m 1 2 * byP k A g.2.1 g.2.2 +
  Zm o n m 2 0 * byP k A g.2.2 g.1 + Zm o n m 2 1 * byP k A g.2.2 g.2.1 + Zm o n m 2 2 * byP k A g.2.2 g.2.2 := by
 rw [stE, Zz5 (fun t => Zm o n m (t / 3) (t % 3)) (fun t => (byL k A g).getD t 0)]; rfl
theorem Zna (k : Rat × Rat × Rat) (A : Rat) (g h : Pt) : byP k A g h = byP k A h g := by unfold byP Zap Xr; grind
theorem Zvy : ∀ o, o = 1 ∨ o = 2 → ∀ n, n < Qk o → ∀ m, m < Qk o → ∀ i, i < 3 → ∀ k, k < 3 → Zm o n m i k = Zm o m n k i := by
 rintro o (rfl | rfl) <;> decide +kernel
theorem Zof : ∀ o, o = 1 ∨ o = 2 → ∀ n, n < Qk o → ∀ m, m < Qk o → Zcu o n m = Zcu o m n := by
 rintro o (rfl | rfl) <;> decide +kernel
theorem Zrq {o : Nat} (ho : o = 1 ∨ o = 2) (k : Rat × Rat × Rat) (A : Rat) (g : Pt × Pt × Pt) {n m : Nat} (hn : n < Qk o) (hm : m < Qk o) : stE o (byL k A g) n m = stE o (byL k A g) m n := by
 rw [Zrr, Zrr]
 have t := fun i hi j hj => Zvy o ho n hn m hm i hi j hj
 rw [t 0 dd 0 dd, t 0 dd 1 dd, t 0 dd 2 dd, t 1 dd 0 dd, t 1 dd 1 dd, t 1 dd 2 dd, t 2 dd 0 dd, t 2 dd 1 dd, t 2 dd 2 dd,
  Zna k A g.2.1 g.1, Zna k A g.2.2 g.1, Zna k A g.2.2 g.2.1]
 grind
def Gq (at' : Rat) (g : Pt) : List Tm := norm (norm [⟨0, 0, at'⟩] ++ norm (norm (Zi g.1 [⟨1, 0, 1⟩]) ++ norm (Zi g.2 [⟨0, 1, 1⟩])))
theorem Gr (q : Rat) (g : Pt) (x y : Rat) : evP (Gq q g) x y = q + (g.1 * x + g.2 * y) := by
 unfold Gq
 simp only [Zao, Yz, Zgu]
 simp only [evP, lin, Rat.pow_zero, Rat.pow_succ]; grind
theorem Zm7 (q : Rat) (g : Pt) (x y : Rat) : evP (dxL (Gq q g)) x y = g.1 := by
 unfold Gq
 simp only [Zew, Zm8, Yz, Zj0]
 simp only [evP, dxL, List.map_cons, List.map_nil, lin, Rat.pow_zero, Rat.pow_succ, Nat.sub_self, Nat.zero_sub, Zac, Zfl]; grind
theorem Zm5 (q : Rat) (g : Pt) (x y : Rat) : evP (dyL (Gq q g)) x y = g.2 := by
 unfold Gq
 simp only [Zev, Zm6, Yz, Zjz]
 simp only [evP, dyL, List.map_cons, List.map_nil, lin, Rat.pow_zero, Rat.pow_succ, Nat.sub_self, Nat.zero_sub, Zac, Zfl]; grind
def mulN (v l : List Tm) : Nat → List Tm
 | 0 => v
 | n + 1 => norm (Qz (mulN v l n) l)
def pwP (l0 l1 l2 : List Tm) (p : Pw) : List Tm := mulN (mulN (mulN (norm [⟨0, 0, p.c⟩]) l0 p.i) l1 p.j) l2 p.k
def Xh (l0 l1 l2 : List Tm) (ps : List Pw) : List Tm := ps.foldl (fun s p => norm (s ++ pwP l0 l1 l2 p)) []
def Zb6 (v : List Rat) (l : List (List Tm)) : Nat → List Tm
 | 0 => []
 | k + 1 => norm (Zb6 v l k ++ norm (Zi (v.getD k 0) (l.getD k [])))
theorem tri_of {P q : List Tm} {a b c : Pt} (h : ∀ s t, evP P (vx a b c s t) (vy a b c s t) = evP q s t) : Zbi P a b c = twQ a b c * lin mu q := by
 unfold Zbi
 rw [Eqv.of_ev (l := shL P (b.1 - a.1) (c.1 - a.1) a.1 (b.2 - a.2) (c.2 - a.2) a.2) (m := q) (fun s t => by rw [Zsz]; exact h s t)]
def Vg (f : Nat → Rat) : Nat → Rat
 | 0 => 0
 | n + 1 => Vg f n + f n
theorem Jg {f g : Nat → Rat} : ∀ {n}, (∀ i, i < n → f i = g i) → Vg f n = Vg g n
 | 0, _ => rfl
 | n + 1, h => by rw [Vg, Vg, Jg (fun i hi => h i (Nat.lt_succ_of_lt hi)), h n (Nat.lt_succ_self _)]
theorem Zcw (f g : Nat → Rat) : ∀ n, Vg (fun i => f i + g i) n = Vg f n + Vg g n
 | 0 => by simp only [Vg]; grind
 | n + 1 => by simp only [Vg, Zcw f g n]; grind
theorem Zfa (c : Rat) (f : Nat → Rat) : ∀ n, Vg (fun i => c * f i) n = c * Vg f n
 | 0 => by simp only [Vg]; grind
 | n + 1 => by simp only [Vg, Zfa c f n]; grind
theorem Zi9 (c : Rat) (f : Nat → Rat) : ∀ n, Vg (fun i => f i * c) n = Vg f n * c
 | 0 => by simp only [Vg]; grind
 | n + 1 => by simp only [Vg, Zi9 c f n]; grind
theorem Zny : ∀ n, Vg (fun _ => 0) n = 0
 | 0 => rfl
 | n + 1 => by rw [Vg, Zny n]; grind
theorem Znz (f : Nat → Nat → Rat) (m : Nat) : ∀ n, Vg (fun i => Vg (fun j => f i j) m) n = Vg (fun j => Vg (fun i => f i j) n) m
 | 0 => by simp only [Vg]; rw [Zny]
 | n + 1 => by simp only [Vg]; rw [Znz f m n, Zcw]
theorem Zn0 (f : Nat → Rat) : ∀ n, ((List.range n).map f).foldl (· + ·) 0 = Vg f n
 | 0 => rfl
 | n + 1 => by rw [List.range_succ, List.map_append, List.foldl_append, Zn0 f n]; rfl
def xe : Nat → Nat × Nat
 | 0 => (0, 0)
 | 1 => (1, 0)
 | 2 => (0, 1)
 | 3 => (2, 0)
 | 4 => (1, 1)
 | _ => (0, 2)
def bqF (x y : Nat → Rat) : Rat := Vg (fun i => Vg (fun j => x i * y j * mu ((xe i).1 + (xe j).1) ((xe i).2 + (xe j).2)) 6) 6
def qL (x : Nat → Rat) : List Tm := [⟨0, 0, x 0⟩, ⟨1, 0, x 1⟩, ⟨0, 1, x 2⟩, ⟨2, 0, x 3⟩, ⟨1, 1, x 4⟩, ⟨0, 2, x 5⟩]
def evQ (x : Nat → Rat) (s t : Rat) : Rat := x 0 + x 1 * s + x 2 * t + x 3 * (s * s) + x 4 * (s * t) + x 5 * (t * t)
theorem ev_qL (x : Nat → Rat) (s t : Rat) : evP (qL x) s t = evQ x s t := by simp only [evP, qL, lin, evQ, Rat.pow_zero, Rat.pow_succ]; grind
theorem lin_qL (x y : Nat → Rat) : lin mu (Qz (qL x) (qL y)) = bqF x y := by
 rw [Zbd]
 simp only [qL, lin, bqF, Vg, xe]
 grind
theorem Zf9 {P Q : List Tm} {a b c : Pt} {x y : Nat → Rat} (hP : ∀ s t, evP P (vx a b c s t) (vy a b c s t) = evQ x s t)
  (hQ : ∀ s t, evP Q (vx a b c s t) (vy a b c s t) = evQ y s t) : Zbi (norm (Qz P Q)) a b c = twQ a b c * bqF x y := by
 rw [tri_of (q := Qz (qL x) (qL y)), lin_qL]
 intro s t
 rw [Zao, Kq, hP, hQ, Kq, ev_qL, ev_qL]
theorem Zd7 (x y : Nat → Rat) : bqF x y = bqF y x := by
 unfold bqF
 rw [Znz]
 refine Jg fun i _ => Jg fun j _ => ?_
 rw [Nat.add_comm (xe i).1, Nat.add_comm (xe i).2]; grind
theorem Zo3 (x x' y : Nat → Rat) : bqF (fun i => x i + x' i) y = bqF x y + bqF x' y := by
 unfold bqF
 rw [← Zcw]
 refine Jg fun i _ => ?_
 rw [← Zcw]
 exact Jg fun j _ => by grind
theorem Zh7 (c : Rat) (x y : Nat → Rat) : bqF (fun i => c * x i) y = c * bqF x y := by
 unfold bqF
 rw [← Zfa]
 refine Jg fun i _ => ?_
 rw [← Zfa]
 exact Jg fun j _ => by grind
theorem Qe1 (y : Nat → Rat) : bqF (fun _ => 0) y = 0 := by
 have := Zh7 0 (fun _ => 0) y
 simp only [Rat.zero_mul] at this; exact this
theorem Zyt (v : Nat → Rat) (X : Nat → Nat → Rat) (y : Nat → Rat) : ∀ n, bqF (fun i => Vg (fun k => v k * X k i) n) y = Vg (fun k => v k * bqF (X k) y) n
 | 0 => by simp only [Vg]; exact Qe1 y
 | n + 1 => by simp only [Vg]; rw [Zo3 (fun i => Vg (fun k => v k * X k i) n) (fun i => v n * X n i), Zyt v X y n, Zh7]
theorem Zyu (v : Nat → Rat) (X Y : Nat → Nat → Rat) (n : Nat) : bqF (fun i => Vg (fun k => v k * X k i) n) (fun i => Vg (fun k => v k * Y k i) n) = Vg (fun k => v k * Vg (fun m => bqF (X k) (Y m) * v m) n) n := by
 rw [Zyt]
 refine Jg fun k _ => ?_
 rw [Zd7, Zyt]
 congr 1
 exact Jg fun m _ => by rw [Zd7]; grind
theorem Zj1 (v : Nat → Rat) (X : Nat → Nat → Rat) (s t : Rat) : ∀ n, evQ (fun i => Vg (fun k => v k * X k i) n) s t = Vg (fun k => v k * evQ (X k) s t) n
 | 0 => by simp only [Vg, evQ]; grind
 | n + 1 => by
  have := Zj1 v X s t n
  simp only [Vg, evQ] at this ⊢
  rw [← this]; grind
theorem Zq3 (u1 u2 u3 w1 w2 w3 : Rat) (x1 x2 x3 y1 y2 y3 : Nat → Rat) : bqF (fun i => u1 * x1 i + u2 * x2 i + u3 * x3 i) (fun i => w1 * y1 i + w2 * y2 i + w3 * y3 i) =
  u1 * w1 * bqF x1 y1 + u1 * w2 * bqF x1 y2 + u1 * w3 * bqF x1 y3 + u2 * w1 * bqF x2 y1 + u2 * w2 * bqF x2 y2 + u2 * w3 * bqF x2 y3 + u3 * w1 * bqF x3 y1 + u3 * w2 * bqF x3 y2 + u3 * w3 * bqF x3 y3 := by
 have l : ∀ (x : Nat → Rat), bqF x (fun i => w1 * y1 i + w2 * y2 i + w3 * y3 i) = w1 * bqF x y1 + w2 * bqF x y2 + w3 * bqF x y3 := fun x => by
  rw [Zd7, Zo3 (fun i => w1 * y1 i + w2 * y2 i) (fun i => w3 * y3 i), Zo3 (fun i => w1 * y1 i), Zh7, Zh7, Zh7, Zd7 y1, Zd7 y2, Zd7 y3]
 rw [Zo3 (fun i => u1 * x1 i + u2 * x2 i) (fun i => u3 * x3 i), Zo3 (fun i => u1 * x1 i), Zh7, Zh7, Zh7, l, l, l]
 grind
def tabV : Nat → List (List Rat)
 | 1 => [[1, -1, -1], [0, 1], [0, 0, 1]]
 | _ => [[1, -3, -3, 2, 4, 2], [0, -1, 0, 2], [0, 0, -1, 0, 0, 2], [0, 0, 0, 0, 4], [0, 0, 4, 0, -4, -4], [0, 4, 0, -4, -4]]
def tabD : Nat → Nat → List (List Rat)
 | 1, 0 => [[1], [], []]
 | 1, 1 => [[], [1], []]
 | 1, _ => [[], [], [1]]
 | _, 0 => [[3, -4, -4], [], [], [], [0, 0, 4], [0, 4]]
 | _, 1 => [[], [-1, 4], [], [0, 0, 4], [], [4, -4, -4]]
 | _, _ => [[], [], [-1, 0, 4], [0, 4], [4, -4, -4], []]
def coV (o n i : Nat) : Rat := ((tabV o).getD n []).getD i 0
def coD (o j n i : Nat) : Rat := ((tabD o j).getD n []).getD i 0
theorem Qeg : ∀ o, o = 1 ∨ o = 2 → ∀ n, n < Qk o → ∀ m, m < Qk o → Zcu o n m = 2 * bqF (coV o n) (coV o m) := by
 rintro o (rfl | rfl) <;> decide +kernel
theorem Qdp : ∀ o, o = 1 ∨ o = 2 → ∀ n, n < Qk o → ∀ m, m < Qk o → ∀ i, i < 3 → ∀ k, k < 3 → Zm o n m i k = 2 * bqF (coD o i n) (coD o k m) := by
 rintro o (rfl | rfl) <;> decide +kernel
theorem Zou (c x y : Rat) : evP [⟨0, 0, c⟩] x y = c := by simp only [evP, lin, Rat.pow_zero]; grind
theorem dx_c0 (c x y : Rat) : evP (dxL [⟨0, 0, c⟩]) x y = 0 := by simp only [evP, dxL, List.map_cons, List.map_nil, lin, Zac]; grind
theorem dy_c0 (c x y : Rat) : evP (dyL [⟨0, 0, c⟩]) x y = 0 := by simp only [evP, dyL, List.map_cons, List.map_nil, lin, Zac]; grind
theorem Qc7 (x y : Rat) : evP (dxL []) x y = 0 := rfl
theorem Qc6 (x y : Rat) : evP (dyL []) x y = 0 := rfl
def Zos (e0 e1 e2 : Rat) (o n : Nat) (s t : Rat) : Rat := e0 * evQ (coD o 0 n) s t + e1 * evQ (coD o 1 n) s t + e2 * evQ (coD o 2 n) s t
theorem Zp6 : Qc 1 0 = [⟨1, 0, 0, 1⟩] ∧ Qc 1 1 = [⟨0, 1, 0, 1⟩] ∧ Qc 1 2 = [⟨0, 0, 1, 1⟩] ∧ Qc 2 0 = [⟨2, 0, 0, 2⟩, ⟨1, 0, 0, -1⟩] ∧ Qc 2 1 = [⟨0, 2, 0, 2⟩, ⟨0, 1, 0, -1⟩] ∧ Qc 2 2 = [⟨0, 0, 2, 2⟩, ⟨0, 0, 1, -1⟩] ∧
  Qc 2 3 = [⟨0, 1, 1, 4⟩] ∧ Qc 2 4 = [⟨1, 0, 1, 4⟩] ∧ Qc 2 5 = [⟨1, 1, 0, 4⟩] := ⟨rfl, rfl, rfl, rfl, rfl, rfl, rfl, rfl, rfl⟩
theorem Qep (s t : Rat) : evQ (coV 1 0) s t = 1 - s - t ∧ evQ (coV 1 1) s t = s ∧ evQ (coV 1 2) s t = t ∧ evQ (coV 2 0) s t = 1 - 3 * s - 3 * t + 2 * (s * s) + 4 * (s * t) + 2 * (t * t) ∧ evQ (coV 2 1) s t = 2 * (s * s) - s ∧ evQ (coV 2 2) s t = 2 * (t * t) - t ∧
  evQ (coV 2 3) s t = 4 * (s * t) ∧ evQ (coV 2 4) s t = 4 * t - 4 * (s * t) - 4 * (t * t) ∧ evQ (coV 2 5) s t = 4 * s - 4 * (s * s) - 4 * (s * t) := by
 refine ⟨?_, ?_, ?_, ?_, ?_, ?_, ?_, ?_, ?_⟩ <;> simp only [evQ, coV, tabV, List.getD_cons_zero, List.getD_cons_succ, List.getD_nil] <;> grind
theorem Zy0 {l0 l1 l2 : List Tm} {x y s t : Rat} (h0 : evP l0 x y = 1 - s - t) (h1 : evP l1 x y = s) (h2 : evP l2 x y = t) {o n : Nat} (ho : o = 1 ∨ o = 2) (hn : n < Qk o) :
  evP (Xh l0 l1 l2 (Qc o n)) x y = evQ (coV o n) s t := by
 obtain ⟨p1, p2, p3, p4, p5, p6, p7, p8, p9⟩ := Zp6
 obtain ⟨q1, q2, q3, q4, q5, q6, q7, q8, q9⟩ := Qep s t
 rcases ho with rfl | rfl
 ·
  have hn' : n = 0 ∨ n = 1 ∨ n = 2 := by simp only [Qk] at hn; simp at hn; omega
  rcases hn' with rfl | rfl | rfl <;>
   simp only [p1, p2, p3, q1, q2, q3, Xh, List.foldl_cons, List.foldl_nil, pwP, mulN, Zao, Yz, Zh2, Kq, Zou, h0, h1, h2] <;> grind
 ·
  have hn' : n = 0 ∨ n = 1 ∨ n = 2 ∨ n = 3 ∨ n = 4 ∨ n = 5 := by simp only [Qk] at hn; simp at hn; omega
  rcases hn' with rfl | rfl | rfl | rfl | rfl | rfl <;>
   simp only [p4, p5, p6, p7, p8, p9, q4, q5, q6, q7, q8, q9, Xh, List.foldl_cons, List.foldl_nil, pwP, mulN, Zao, Yz, Zh2, Kq, Zou, h0, h1, h2] <;> grind
theorem bas_dx {l0 l1 l2 : List Tm} {x y s t e0 e1 e2 : Rat} (h0 : evP l0 x y = 1 - s - t) (h1 : evP l1 x y = s) (h2 : evP l2 x y = t)
  (d0 : evP (dxL l0) x y = e0) (d1 : evP (dxL l1) x y = e1) (d2 : evP (dxL l2) x y = e2) {o n : Nat} (ho : o = 1 ∨ o = 2) (hn : n < Qk o) :
  evP (dxL (Xh l0 l1 l2 (Qc o n))) x y = Zos e0 e1 e2 o n s t := by
 obtain ⟨p1, p2, p3, p4, p5, p6, p7, p8, p9⟩ := Zp6
 rcases ho with rfl | rfl
 ·
  have hn' : n = 0 ∨ n = 1 ∨ n = 2 := by simp only [Qk] at hn; simp at hn; omega
  rcases hn' with rfl | rfl | rfl <;>
   simp only [p1, p2, p3, Xh, List.foldl_cons, List.foldl_nil, pwP, mulN, Zao, Zew, Zm8, Yz, Zh2, Qc7, Kq, Zlk, Zou, dx_c0, h0, h1, h2, d0, d1, d2,
    Zos, evQ, coD, tabD, List.getD_cons_zero, List.getD_cons_succ, List.getD_nil] <;> grind
 ·
  have hn' : n = 0 ∨ n = 1 ∨ n = 2 ∨ n = 3 ∨ n = 4 ∨ n = 5 := by simp only [Qk] at hn; simp at hn; omega
  rcases hn' with rfl | rfl | rfl | rfl | rfl | rfl <;>
   simp only [p4, p5, p6, p7, p8, p9, Xh, List.foldl_cons, List.foldl_nil, pwP, mulN, Zao, Zew, Zm8, Yz, Zh2, Qc7, Kq, Zlk, Zou, dx_c0, h0, h1, h2, d0, d1, d2,
    Zos, evQ, coD, tabD, List.getD_cons_zero, List.getD_cons_succ, List.getD_nil] <;> grind
theorem bas_dy {l0 l1 l2 : List Tm} {x y s t e0 e1 e2 : Rat} (h0 : evP l0 x y = 1 - s - t) (h1 : evP l1 x y = s) (h2 : evP l2 x y = t)
  (d0 : evP (dyL l0) x y = e0) (d1 : evP (dyL l1) x y = e1) (d2 : evP (dyL l2) x y = e2) {o n : Nat} (ho : o = 1 ∨ o = 2) (hn : n < Qk o) :
  evP (dyL (Xh l0 l1 l2 (Qc o n))) x y = Zos e0 e1 e2 o n s t := by
 obtain ⟨p1, p2, p3, p4, p5, p6, p7, p8, p9⟩ := Zp6
 rcases ho with rfl | rfl
 ·
  have hn' : n = 0 ∨ n = 1 ∨ n = 2 := by simp only [Qk] at hn; simp at hn; omega
  rcases hn' with rfl | rfl | rfl <;>
   simp only [p1, p2, p3, Xh, List.foldl_cons, List.foldl_nil, pwP, mulN, Zao, Zev, Zm6, Yz, Zh2, Qc6, Kq, Zlj, Zou, dy_c0, h0, h1, h2, d0, d1, d2,
    Zos, evQ, coD, tabD, List.getD_cons_zero, List.getD_cons_succ, List.getD_nil] <;> grind
 ·
  have hn' : n = 0 ∨ n = 1 ∨ n = 2 ∨ n = 3 ∨ n = 4 ∨ n = 5 := by simp only [Qk] at hn; simp at hn; omega
  rcases hn' with rfl | rfl | rfl | rfl | rfl | rfl <;>
   simp only [p4, p5, p6, p7, p8, p9, Xh, List.foldl_cons, List.foldl_nil, pwP, mulN, Zao, Zev, Zm6, Yz, Zh2, Qc6, Kq, Zlj, Zou, dy_c0, h0, h1, h2, d0, d1, d2,
    Zos, evQ, coD, tabD, List.getD_cons_zero, List.getD_cons_succ, List.getD_nil] <;> grind
def Jx (a b c : Pt) : List Tm := Gq (Vb a b c (0, 0)).1 (Zd a b c).1
def Jw (a b c : Pt) : List Tm := Gq (Vb a b c (0, 0)).2.1 (Zd a b c).2.1
def Jv (a b c : Pt) : List Tm := Gq (Vb a b c (0, 0)).2.2 (Zd a b c).2.2
def Ze2 (o : Nat) (a b c : Pt) : List (List Tm) := (List.range (Qk o)).map (fun n => Xh (Jx a b c) (Jw a b c) (Jv a b c) (Qc o n))
theorem Kz (o : Nat) (a b c : Pt) {n : Nat} (hn : n < Qk o) : (Ze2 o a b c).getD n [] = Xh (Jx a b c) (Jw a b c) (Jv a b c) (Qc o n) := by
 simp only [Ze2, List.getD, List.getElem?_map, List.getElem?_range hn, Option.map_some, Option.getD_some]
theorem Zs5 (v : List Rat) (l : List (List Tm)) (x y : Rat) : ∀ k, evP (Zb6 v l k) x y = Vg (fun n => v.getD n 0 * evP (l.getD n []) x y) k
 | 0 => rfl
 | k + 1 => by rw [Zb6, Vg, Zao, Yz, Zao, Zgu, Zs5 v l x y k]
theorem Zyj (v : List Rat) (l : List (List Tm)) (x y : Rat) : ∀ k, evP (dxL (Zb6 v l k)) x y = Vg (fun n => v.getD n 0 * evP (dxL (l.getD n [])) x y) k
 | 0 => rfl
 | k + 1 => by rw [Zb6, Vg, Zew, Zm8, Yz, Zew, Zj0, Zyj v l x y k]
theorem Zyi (v : List Rat) (l : List (List Tm)) (x y : Rat) : ∀ k, evP (dyL (Zb6 v l k)) x y = Vg (fun n => v.getD n 0 * evP (dyL (l.getD n [])) x y) k
 | 0 => rfl
 | k + 1 => by rw [Zb6, Vg, Zev, Zm6, Yz, Zev, Zjz, Zyi v l x y k]
theorem Zw0 {o : Nat} (ho : o = 1 ∨ o = 2) {a b c : Pt} (h : twP a b c ≠ 0) (v : List Rat) (s t : Rat) : evP (Zb6 v (Ze2 o a b c) (Qk o)) (vx a b c s t) (vy a b c s t) = evQ (fun i => Vg (fun n => v.getD n 0 * coV o n i) (Qk o)) s t := by
 obtain ⟨h0, h1, h2⟩ := Znd h s t
 rw [Zs5, Zj1 (fun n => v.getD n 0) (coV o)]
 refine Jg fun n hn => ?_
 rw [Kz o a b c hn, Zy0 (l0 := Jx a b c) (l1 := Jw a b c) (l2 := Jv a b c) (s := s) (t := t) ((Gr _ _ _ _).trans h0) ((Gr _ _ _ _).trans h1) ((Gr _ _ _ _).trans h2) ho hn]
def cmp3 (e0 e1 e2 : Rat) (o : Nat) (v : List Rat) (i : Nat) : Rat := e0 * Vg (fun n => v.getD n 0 * coD o 0 n i) (Qk o) + e1 * Vg (fun n => v.getD n 0 * coD o 1 n i) (Qk o) + e2 * Vg (fun n => v.getD n 0 * coD o 2 n i) (Qk o)
theorem Qbj (e0 e1 e2 : Rat) (x0 x1 x2 : Nat → Rat) (s t : Rat) : evQ (fun i => e0 * x0 i + e1 * x1 i + e2 * x2 i) s t = e0 * evQ x0 s t + e1 * evQ x1 s t + e2 * evQ x2 s t := by simp only [evQ]; grind
theorem Zsx {o : Nat} (v : List Rat) (e0 e1 e2 s t : Rat) : Vg (fun n => v.getD n 0 * Zos e0 e1 e2 o n s t) (Qk o) = evQ (cmp3 e0 e1 e2 o v) s t := by
 have e : cmp3 e0 e1 e2 o v = fun i => e0 * Vg (fun n => v.getD n 0 * coD o 0 n i) (Qk o) + e1 * Vg (fun n => v.getD n 0 * coD o 1 n i) (Qk o) + e2 * Vg (fun n => v.getD n 0 * coD o 2 n i) (Qk o) := rfl
 rw [e, Qbj e0 e1 e2 (fun i => Vg (fun n => v.getD n 0 * coD o 0 n i) (Qk o)) (fun i => Vg (fun n => v.getD n 0 * coD o 1 n i) (Qk o)) (fun i => Vg (fun n => v.getD n 0 * coD o 2 n i) (Qk o)),
  Zj1 (fun n => v.getD n 0) (coD o 0), Zj1 (fun n => v.getD n 0) (coD o 1), Zj1 (fun n => v.getD n 0) (coD o 2), ← Zfa, ← Zfa, ← Zfa, ← Zcw, ← Zcw]
 exact Jg fun n _ => by rw [Zos]; grind
theorem Zw2 {o : Nat} (ho : o = 1 ∨ o = 2) {a b c : Pt} (h : twP a b c ≠ 0) (v : List Rat) (s t : Rat) : evP (dxL (Zb6 v (Ze2 o a b c) (Qk o))) (vx a b c s t) (vy a b c s t) = evQ (cmp3 (Zd a b c).1.1 (Zd a b c).2.1.1 (Zd a b c).2.2.1 o v) s t := by
 obtain ⟨h0, h1, h2⟩ := Znd h s t
 rw [Zyj, ← Zsx]
 refine Jg fun n hn => ?_
 rw [Kz o a b c hn, bas_dx (l0 := Jx a b c) (l1 := Jw a b c) (l2 := Jv a b c) (s := s) (t := t) ((Gr _ _ _ _).trans h0) ((Gr _ _ _ _).trans h1) ((Gr _ _ _ _).trans h2) (Zm7 _ _ _ _) (Zm7 _ _ _ _) (Zm7 _ _ _ _) ho hn]
theorem Zw1 {o : Nat} (ho : o = 1 ∨ o = 2) {a b c : Pt} (h : twP a b c ≠ 0) (v : List Rat) (s t : Rat) : evP (dyL (Zb6 v (Ze2 o a b c) (Qk o))) (vx a b c s t) (vy a b c s t) = evQ (cmp3 (Zd a b c).1.2 (Zd a b c).2.1.2 (Zd a b c).2.2.2 o v) s t := by
 obtain ⟨h0, h1, h2⟩ := Znd h s t
 rw [Zyi, ← Zsx]
 refine Jg fun n hn => ?_
 rw [Kz o a b c hn, bas_dy (l0 := Jx a b c) (l1 := Jw a b c) (l2 := Jv a b c) (s := s) (t := t) ((Gr _ _ _ _).trans h0) ((Gr _ _ _ _).trans h1) ((Gr _ _ _ _).trans h2) (Zm5 _ _ _ _) (Zm5 _ _ _ _) (Zm5 _ _ _ _) ho hn]
def Zfv (f : Nat → Nat → Rat) (v : List Rat) (N : Nat) : Rat := Vg (fun n => v.getD n 0 * Vg (fun m => f n m * v.getD m 0) N) N
theorem Qbh (f g : Nat → Nat → Rat) (v : List Rat) (N : Nat) : Zfv (fun n m => f n m + g n m) v N = Zfv f v N + Zfv g v N := by
 unfold Zfv; rw [← Zcw]
 refine Jg fun n _ => ?_
 rw [← Rat.mul_add, ← Zcw]; congr 1
 exact Jg fun m _ => by grind
theorem Zmy (k : Rat) (f : Nat → Nat → Rat) (v : List Rat) (N : Nat) : Zfv (fun n m => f n m * k) v N = Zfv f v N * k := by
 unfold Zfv; rw [← Zi9]
 refine Jg fun n _ => ?_
 rw [Rat.mul_assoc, ← Zi9]; congr 1
 exact Jg fun m _ => by grind
theorem Zhn {f g : Nat → Nat → Rat} (v : List Rat) {N : Nat} (h : ∀ n, n < N → ∀ m, m < N → f n m = g n m) : Zfv f v N = Zfv g v N :=
 Jg fun n hn => by rw [Jg fun m hm => by rw [h n hn m hm]]
def Zh9 (o : Nat) (v : List Rat) (j i : Nat) : Rat := Vg (fun n => v.getD n 0 * coD o j n i) (Qk o)
theorem Zay {o : Nat} (ho : o = 1 ∨ o = 2) (v : List Rat) {i k : Nat} (hi : i < 3) (hk : k < 3) : Zfv (fun n m => Zm o n m i k) v (Qk o) = 2 * bqF (Zh9 o v i) (Zh9 o v k) := by
 rw [Zhn v (g := fun n m => bqF (coD o i n) (coD o k m) * 2) (fun n hn m hm => by rw [Qdp o ho n hn m hm i hi k hk]; grind), Zmy]
 rw [show bqF (Zh9 o v i) (Zh9 o v k) = Zfv (fun n m => bqF (coD o i n) (coD o k m)) v (Qk o) from Zyu (fun n => v.getD n 0) (coD o i) (coD o k) (Qk o)]
 grind
theorem Zx7 {o : Nat} (ho : o = 1 ∨ o = 2) (v : List Rat) (A : Rat) : Zfv (fun n m => Zcu o n m * A) v (Qk o) = 2 * A * bqF (fun i => Vg (fun n => v.getD n 0 * coV o n i) (Qk o)) (fun i => Vg (fun n => v.getD n 0 * coV o n i) (Qk o)) := by
 rw [Zhn v (g := fun n m => bqF (coV o n) (coV o m) * (2 * A)) (fun n hn m hm => by rw [Qeg o ho n hn m hm]; grind), Zmy, Zyu (fun n => v.getD n 0) (coV o) (coV o) (Qk o)]
 exact Rat.mul_comm _ _
def Yk (P Q : List Tm) (a b c : Pt) : Rat := Zbi (norm (Qz P Q)) a b c
theorem Zqr : Zx3 = 1 / 2 := rfl
theorem Zj2 {o : Nat} (ho : o = 1 ∨ o = 2) {a b c : Pt} (h : twP a b c ≠ 0) (v : List Rat) :
  Zfv (fun n m => Zcu o n m * Qb a b c) v (Qk o) = Yk (Zb6 v (Ze2 o a b c) (Qk o)) (Zb6 v (Ze2 o a b c) (Qk o)) a b c := by
 rw [Zx7 ho, Yk, Zf9 (Zw0 ho h v) (Zw0 ho h v), Qb, Zqr, Qcu]; grind
theorem Zh3 {o : Nat} (ho : o = 1 ∨ o = 2) (k : Rat × Rat × Rat) {a b c : Pt} (h : twP a b c ≠ 0) (v : List Rat) :
  Zfv (fun n m => stE o (byL k (Qb a b c) (Zd a b c)) n m) v (Qk o) =
   k.1 * Yk (dxL (Zb6 v (Ze2 o a b c) (Qk o))) (dxL (Zb6 v (Ze2 o a b c) (Qk o))) a b c + 2 * k.2.1 * Yk (dxL (Zb6 v (Ze2 o a b c) (Qk o))) (dyL (Zb6 v (Ze2 o a b c) (Qk o))) a b c +
   k.2.2 * Yk (dyL (Zb6 v (Ze2 o a b c) (Qk o))) (dyL (Zb6 v (Ze2 o a b c) (Qk o))) a b c := by
 rw [Zhn v (fun n _ m _ => Zrr o k (Qb a b c) (Zd a b c) n m)]
 simp only [Qbh, Zmy]
 rw [Zay ho v (i := 0) (k := 0) dd dd, Zay ho v (i := 0) (k := 1) dd dd, Zay ho v (i := 0) (k := 2) dd dd,
  Zay ho v (i := 1) (k := 0) dd dd, Zay ho v (i := 1) (k := 1) dd dd, Zay ho v (i := 1) (k := 2) dd dd,
  Zay ho v (i := 2) (k := 0) dd dd, Zay ho v (i := 2) (k := 1) dd dd, Zay ho v (i := 2) (k := 2) dd dd]
 rw [Yk, Yk, Yk, Zf9 (Zw2 ho h v) (Zw2 ho h v), Zf9 (Zw2 ho h v) (Zw1 ho h v), Zf9 (Zw1 ho h v) (Zw1 ho h v)]
 have e : ∀ e0 e1 e2, cmp3 e0 e1 e2 o v = fun i => e0 * Zh9 o v 0 i + e1 * Zh9 o v 1 i + e2 * Zh9 o v 2 i := fun _ _ _ => rfl
 rw [e, e, Zq3, Zq3, Zq3, Zd7 (Zh9 o v 1) (Zh9 o v 0), Zd7 (Zh9 o v 2) (Zh9 o v 0), Zd7 (Zh9 o v 2) (Zh9 o v 1), ← Qcu, Qb, Zqr]
 generalize bqF (Zh9 o v 0) (Zh9 o v 0) = M00
 generalize bqF (Zh9 o v 0) (Zh9 o v 1) = M01
 generalize bqF (Zh9 o v 0) (Zh9 o v 2) = M02
 generalize bqF (Zh9 o v 1) (Zh9 o v 1) = M11
 generalize bqF (Zh9 o v 1) (Zh9 o v 2) = M12
 generalize bqF (Zh9 o v 2) (Zh9 o v 2) = M22
 generalize Zd a b c = g
 generalize twP a b c = T
 obtain ⟨⟨g00, g01⟩, ⟨g10, g11⟩, ⟨g20, g21⟩⟩ := g
 obtain ⟨k0, k1, k2⟩ := k
 simp only [byP, Zap, Xr]
 grind
end
section
def mvP (f : Rat) (p a : Pt) : Pt := addP (Zp1 a f) p
end
section
theorem Yy {b off : Nat} (w : World) : (Instr.fieldAt 43 (.pointer (some ⟨b, off, none⟩)) 0).run Tryz.prog w = .ok (.pointer (some ⟨b, off + 0, none⟩)) w := by
 simp [go_sem]
theorem Yx {b off : Nat} (w : World) : (Instr.fieldAt 43 (.pointer (some ⟨b, off, none⟩)) 1).run Tryz.prog w = .ok (.pointer (some ⟨b, off + 5, none⟩)) w := by
 simp [go_sem]
theorem Zdg (x0_0 : Value) (x0_1 : Value) (x0_2 : Value) (x0_3 : Value) (x0_4 : Value) (x1_0 : Value) (x1_1 : Value) (x1_2 : Value) (x1_3 : Value) (x1_4 : Value) (w : World) : (Instr.build 43 [(0, .agg #[x0_0, x0_1, x0_2, x0_3, x0_4]), (1, .agg #[x1_0, x1_1, x1_2, x1_3, x1_4])].toArray).run Tryz.prog w = .ok (.agg #[x0_0, x0_1, x0_2, x0_3, x0_4, x1_0, x1_1, x1_2, x1_3, x1_4]) w := by simp [go_sem]
theorem Zfy (x0_0 : Value) (x0_1 : Value) (x0_2 : Value) (x0_3 : Value) (x0_4 : Value) (x1_0 : Value) (x1_1 : Value) (x1_2 : Value) (x1_3 : Value) (x1_4 : Value) (x2_0 : Value) (x2_1 : Value) (x2_2 : Value) (x2_3 : Value) (x2_4 : Value) (w : World) : (Instr.build 60 [(0, .agg #[x0_0, x0_1, x0_2, x0_3, x0_4]), (1, .agg #[x1_0, x1_1, x1_2, x1_3, x1_4]), (2, .agg #[x2_0, x2_1, x2_2, x2_3, x2_4])].toArray).run Tryz.prog w = .ok (.agg #[x0_0, x0_1, x0_2, x0_3, x0_4, x1_0, x1_1, x1_2, x1_3, x1_4, x2_0, x2_1, x2_2, x2_3, x2_4]) w := by simp [go_sem]
theorem Zde {c0 c1 c2 c3 c4 c5 c6 c7 c8 c9 c10 c11 c12 c13 c14 v0 v1 v2 v3 v4 v5 v6 v7 v8 v9 v10 v11 v12 v13 v14 : Value} : Qi #[c0, c1, c2, c3, c4, c5, c6, c7, c8, c9, c10, c11, c12, c13, c14] 0 [v0, v1, v2, v3, v4, v5, v6, v7, v8, v9, v10, v11, v12, v13, v14] = #[v0, v1, v2, v3, v4, v5, v6, v7, v8, v9, v10, v11, v12, v13, v14] := by kernel_rfl
theorem Yu (b off : Nat) (w : World) : (Instr.indexAt 60 (.pointer (some ⟨b, off, none⟩)) (.int .i64 0)).run Tryz.prog w = .ok (.pointer (some ⟨b, off + 0, none⟩)) w := by
 simp [go_sem, Instr.indexAt]
theorem Zdf {c0 c1 c2 c3 c4 c5 c6 c7 c8 c9 c10 c11 c12 c13 c14 : Value} : Qf true 5 #[c0, c1, c2, c3, c4, c5, c6, c7, c8, c9, c10, c11, c12, c13, c14] 0 = some (.agg #[c0, c1, c2, c3, c4]) := rfl
theorem Zv6 {c0 c1 c2 c3 c4 c5 c6 c7 c8 c9 c10 c11 c12 c13 c14 v0 v1 v2 v3 v4 : Value} : Qi #[c0, c1, c2, c3, c4, c5, c6, c7, c8, c9, c10, c11, c12, c13, c14] 0 [v0, v1, v2, v3, v4] = #[v0, v1, v2, v3, v4, c5, c6, c7, c8, c9, c10, c11, c12, c13, c14] := by kernel_rfl
theorem Yb (b off : Nat) (w : World) : (Instr.indexAt 60 (.pointer (some ⟨b, off, none⟩)) (.int .i64 1)).run Tryz.prog w = .ok (.pointer (some ⟨b, off + 5, none⟩)) w := by
 simp [go_sem, Instr.indexAt]
theorem Zau {c0 c1 c2 c3 c4 c5 c6 c7 c8 c9 c10 c11 c12 c13 c14 : Value} : Qf true 5 #[c0, c1, c2, c3, c4, c5, c6, c7, c8, c9, c10, c11, c12, c13, c14] 5 = some (.agg #[c5, c6, c7, c8, c9]) := rfl
theorem Zv5 {c0 c1 c2 c3 c4 c5 c6 c7 c8 c9 c10 c11 c12 c13 c14 v0 v1 v2 v3 v4 : Value} : Qi #[c0, c1, c2, c3, c4, c5, c6, c7, c8, c9, c10, c11, c12, c13, c14] 5 [v0, v1, v2, v3, v4] = #[c0, c1, c2, c3, c4, v0, v1, v2, v3, v4, c10, c11, c12, c13, c14] := by kernel_rfl
theorem Yt (b off : Nat) (w : World) : (Instr.indexAt 60 (.pointer (some ⟨b, off, none⟩)) (.int .i64 2)).run Tryz.prog w = .ok (.pointer (some ⟨b, off + 10, none⟩)) w := by
 simp [go_sem, Instr.indexAt]
theorem Zb9 {c0 c1 c2 c3 c4 c5 c6 c7 c8 c9 c10 c11 c12 c13 c14 : Value} : Qf true 5 #[c0, c1, c2, c3, c4, c5, c6, c7, c8, c9, c10, c11, c12, c13, c14] 10 = some (.agg #[c10, c11, c12, c13, c14]) := rfl
theorem Zt2 {c0 c1 c2 c3 c4 c5 c6 c7 c8 c9 c10 c11 c12 c13 c14 v0 v1 v2 v3 v4 : Value} : Qi #[c0, c1, c2, c3, c4, c5, c6, c7, c8, c9, c10, c11, c12, c13, c14] 10 [v0, v1, v2, v3, v4] = #[c0, c1, c2, c3, c4, c5, c6, c7, c8, c9, v0, v1, v2, v3, v4] := by kernel_rfl
theorem Zg9 {c0 c1 c2 c3 c4 c5 c6 c7 c8 c9 c10 c11 c12 c13 c14 : Value} : Qf true 15 #[c0, c1, c2, c3, c4, c5, c6, c7, c8, c9, c10, c11, c12, c13, c14] 0 = some (.agg #[c0, c1, c2, c3, c4, c5, c6, c7, c8, c9, c10, c11, c12, c13, c14]) := rfl
theorem Zfz (x0_0 : Value) (x0_1 : Value) (x0_2 : Value) (x0_3 : Value) (x0_4 : Value) (x0_5 : Value) (x0_6 : Value) (x0_7 : Value) (x0_8 : Value) (x0_9 : Value) (x1_0 : Value) (x1_1 : Value) (x1_2 : Value) (x1_3 : Value) (x1_4 : Value) (x1_5 : Value) (x1_6 : Value) (x1_7 : Value) (x1_8 : Value) (x1_9 : Value) (x2_0 : Value) (x2_1 : Value) (x2_2 : Value) (x2_3 : Value) (x2_4 : Value) (x2_5 : Value) (x2_6 : Value) (x2_7 : Value) (x2_8 : Value) (x2_9 : Value) (w : World) : (Instr.build 44 [(0, .agg #[x0_0, x0_1, x0_2, x0_3, x0_4, x0_5, x0_6, x0_7, x0_8, x0_9]), (1, .agg #[x1_0, x1_1, x1_2, x1_3, x1_4, x1_5, x1_6, x1_7, x1_8, x1_9]), (2, .agg #[x2_0, x2_1, x2_2, x2_3, x2_4, x2_5, x2_6, x2_7, x2_8, x2_9])].toArray).run Tryz.prog w = .ok (.agg #[x0_0, x0_1, x0_2, x0_3, x0_4, x0_5, x0_6, x0_7, x0_8, x0_9, x1_0, x1_1, x1_2, x1_3, x1_4, x1_5, x1_6, x1_7, x1_8, x1_9, x2_0, x2_1, x2_2, x2_3, x2_4, x2_5, x2_6, x2_7, x2_8, x2_9]) w := by simp [go_sem]
theorem Vw {c0 c1 c2 c3 c4 c5 c6 c7 c8 c9 c10 c11 c12 c13 c14 c15 c16 c17 c18 c19 c20 c21 c22 c23 c24 c25 c26 c27 c28 c29 v0 v1 v2 v3 v4 v5 v6 v7 v8 v9 v10 v11 v12 v13 v14 v15 v16 v17 v18 v19 v20 v21 v22 v23 v24 v25 v26 v27 v28 v29 : Value} : Qi #[c0, c1, c2, c3, c4, c5, c6, c7, c8, c9, c10, c11, c12, c13, c14, c15, c16, c17, c18, c19, c20, c21, c22, c23, c24, c25, c26, c27, c28, c29] 0 [v0, v1, v2, v3, v4, v5, v6, v7, v8, v9, v10, v11, v12, v13, v14, v15, v16, v17, v18, v19, v20, v21, v22, v23, v24, v25, v26, v27, v28, v29] = #[v0, v1, v2, v3, v4, v5, v6, v7, v8, v9, v10, v11, v12, v13, v14, v15, v16, v17, v18, v19, v20, v21, v22, v23, v24, v25, v26, v27, v28, v29] := by kernel_rfl
theorem Xo (b off : Nat) (w : World) : (Instr.indexAt 44 (.pointer (some ⟨b, off, none⟩)) (.int .i64 2)).run Tryz.prog w = .ok (.pointer (some ⟨b, off + 20, none⟩)) w := by
 simp [go_sem, Instr.indexAt]
theorem Jo {c0 c1 c2 c3 c4 c5 c6 c7 c8 c9 c10 c11 c12 c13 c14 c15 c16 c17 c18 c19 c20 c21 c22 c23 c24 c25 c26 c27 c28 c29 : Value} : Qf true 10 #[c0, c1, c2, c3, c4, c5, c6, c7, c8, c9, c10, c11, c12, c13, c14, c15, c16, c17, c18, c19, c20, c21, c22, c23, c24, c25, c26, c27, c28, c29] 20 = some (.agg #[c20, c21, c22, c23, c24, c25, c26, c27, c28, c29]) := rfl
theorem Xp (b off : Nat) (w : World) : (Instr.indexAt 44 (.pointer (some ⟨b, off, none⟩)) (.int .i64 1)).run Tryz.prog w = .ok (.pointer (some ⟨b, off + 10, none⟩)) w := by
 simp [go_sem, Instr.indexAt]
theorem Jp {c0 c1 c2 c3 c4 c5 c6 c7 c8 c9 c10 c11 c12 c13 c14 c15 c16 c17 c18 c19 c20 c21 c22 c23 c24 c25 c26 c27 c28 c29 : Value} : Qf true 10 #[c0, c1, c2, c3, c4, c5, c6, c7, c8, c9, c10, c11, c12, c13, c14, c15, c16, c17, c18, c19, c20, c21, c22, c23, c24, c25, c26, c27, c28, c29] 10 = some (.agg #[c10, c11, c12, c13, c14, c15, c16, c17, c18, c19]) := rfl
theorem Yc (b off : Nat) (w : World) : (Instr.indexAt 44 (.pointer (some ⟨b, off, none⟩)) (.int .i64 0)).run Tryz.prog w = .ok (.pointer (some ⟨b, off + 0, none⟩)) w := by
 simp [go_sem, Instr.indexAt]
theorem Zv4 {c0 c1 c2 c3 c4 c5 c6 c7 c8 c9 c10 c11 c12 c13 c14 c15 c16 c17 c18 c19 c20 c21 c22 c23 c24 c25 c26 c27 c28 c29 v0 v1 v2 v3 v4 : Value} : Qi #[c0, c1, c2, c3, c4, c5, c6, c7, c8, c9, c10, c11, c12, c13, c14, c15, c16, c17, c18, c19, c20, c21, c22, c23, c24, c25, c26, c27, c28, c29] 0 [v0, v1, v2, v3, v4] = #[v0, v1, v2, v3, v4, c5, c6, c7, c8, c9, c10, c11, c12, c13, c14, c15, c16, c17, c18, c19, c20, c21, c22, c23, c24, c25, c26, c27, c28, c29] := by kernel_rfl
theorem Zv3 {c0 c1 c2 c3 c4 c5 c6 c7 c8 c9 c10 c11 c12 c13 c14 c15 c16 c17 c18 c19 c20 c21 c22 c23 c24 c25 c26 c27 c28 c29 v0 v1 v2 v3 v4 : Value} : Qi #[c0, c1, c2, c3, c4, c5, c6, c7, c8, c9, c10, c11, c12, c13, c14, c15, c16, c17, c18, c19, c20, c21, c22, c23, c24, c25, c26, c27, c28, c29] 5 [v0, v1, v2, v3, v4] = #[c0, c1, c2, c3, c4, v0, v1, v2, v3, v4, c10, c11, c12, c13, c14, c15, c16, c17, c18, c19, c20, c21, c22, c23, c24, c25, c26, c27, c28, c29] := by kernel_rfl
theorem Xk {c0 c1 c2 c3 c4 c5 c6 c7 c8 c9 c10 c11 c12 c13 c14 c15 c16 c17 c18 c19 c20 c21 c22 c23 c24 c25 c26 c27 c28 c29 : Value} : Qf true 10 #[c0, c1, c2, c3, c4, c5, c6, c7, c8, c9, c10, c11, c12, c13, c14, c15, c16, c17, c18, c19, c20, c21, c22, c23, c24, c25, c26, c27, c28, c29] 0 = some (.agg #[c0, c1, c2, c3, c4, c5, c6, c7, c8, c9]) := rfl
theorem Zt1 {c0 c1 c2 c3 c4 c5 c6 c7 c8 c9 c10 c11 c12 c13 c14 c15 c16 c17 c18 c19 c20 c21 c22 c23 c24 c25 c26 c27 c28 c29 v0 v1 v2 v3 v4 : Value} : Qi #[c0, c1, c2, c3, c4, c5, c6, c7, c8, c9, c10, c11, c12, c13, c14, c15, c16, c17, c18, c19, c20, c21, c22, c23, c24, c25, c26, c27, c28, c29] 10 [v0, v1, v2, v3, v4] = #[c0, c1, c2, c3, c4, c5, c6, c7, c8, c9, v0, v1, v2, v3, v4, c15, c16, c17, c18, c19, c20, c21, c22, c23, c24, c25, c26, c27, c28, c29] := by kernel_rfl
theorem Zt0 {c0 c1 c2 c3 c4 c5 c6 c7 c8 c9 c10 c11 c12 c13 c14 c15 c16 c17 c18 c19 c20 c21 c22 c23 c24 c25 c26 c27 c28 c29 v0 v1 v2 v3 v4 : Value} : Qi #[c0, c1, c2, c3, c4, c5, c6, c7, c8, c9, c10, c11, c12, c13, c14, c15, c16, c17, c18, c19, c20, c21, c22, c23, c24, c25, c26, c27, c28, c29] 15 [v0, v1, v2, v3, v4] = #[c0, c1, c2, c3, c4, c5, c6, c7, c8, c9, c10, c11, c12, c13, c14, v0, v1, v2, v3, v4, c20, c21, c22, c23, c24, c25, c26, c27, c28, c29] := by kernel_rfl
theorem Ztz {c0 c1 c2 c3 c4 c5 c6 c7 c8 c9 c10 c11 c12 c13 c14 c15 c16 c17 c18 c19 c20 c21 c22 c23 c24 c25 c26 c27 c28 c29 v0 v1 v2 v3 v4 : Value} : Qi #[c0, c1, c2, c3, c4, c5, c6, c7, c8, c9, c10, c11, c12, c13, c14, c15, c16, c17, c18, c19, c20, c21, c22, c23, c24, c25, c26, c27, c28, c29] 20 [v0, v1, v2, v3, v4] = #[c0, c1, c2, c3, c4, c5, c6, c7, c8, c9, c10, c11, c12, c13, c14, c15, c16, c17, c18, c19, v0, v1, v2, v3, v4, c25, c26, c27, c28, c29] := by kernel_rfl
theorem Zty {c0 c1 c2 c3 c4 c5 c6 c7 c8 c9 c10 c11 c12 c13 c14 c15 c16 c17 c18 c19 c20 c21 c22 c23 c24 c25 c26 c27 c28 c29 v0 v1 v2 v3 v4 : Value} : Qi #[c0, c1, c2, c3, c4, c5, c6, c7, c8, c9, c10, c11, c12, c13, c14, c15, c16, c17, c18, c19, c20, c21, c22, c23, c24, c25, c26, c27, c28, c29] 25 [v0, v1, v2, v3, v4] = #[c0, c1, c2, c3, c4, c5, c6, c7, c8, c9, c10, c11, c12, c13, c14, c15, c16, c17, c18, c19, c20, c21, c22, c23, c24, v0, v1, v2, v3, v4] := by kernel_rfl
theorem Qt {c0 c1 c2 c3 c4 c5 c6 c7 c8 c9 c10 c11 c12 c13 c14 c15 c16 c17 c18 c19 c20 c21 c22 c23 c24 c25 c26 c27 c28 c29 : Value} : Qf true 30 #[c0, c1, c2, c3, c4, c5, c6, c7, c8, c9, c10, c11, c12, c13, c14, c15, c16, c17, c18, c19, c20, c21, c22, c23, c24, c25, c26, c27, c28, c29] 0 = some (.agg #[c0, c1, c2, c3, c4, c5, c6, c7, c8, c9, c10, c11, c12, c13, c14, c15, c16, c17, c18, c19, c20, c21, c22, c23, c24, c25, c26, c27, c28, c29]) := by kernel_rfl
theorem cgd {α : Type _} {x y : α} (h : x = y := by first | rfl | (congr 1; decide)) : x = y := h
theorem Yw (w : World) : (zeroValue 43).run Tryz.prog w = .ok (encPt (0, 0)) w := zeroValue43 w
abbrev Qr (a b c : Pt) : Value := .agg #[.int .u64 (Zae a.1.num.natAbs), .string (Kd a.1.num.natAbs), .bool (decide (a.1.num < 0)), .int .u64 (Zae (a.1.den - 1)), .string (Kd (a.1.den - 1)), .int .u64 (Zae a.2.num.natAbs), .string (Kd a.2.num.natAbs), .bool (decide (a.2.num < 0)), .int .u64 (Zae (a.2.den - 1)), .string (Kd (a.2.den - 1)), .int .u64 (Zae b.1.num.natAbs), .string (Kd b.1.num.natAbs), .bool (decide (b.1.num < 0)), .int .u64 (Zae (b.1.den - 1)), .string (Kd (b.1.den - 1)), .int .u64 (Zae b.2.num.natAbs), .string (Kd b.2.num.natAbs), .bool (decide (b.2.num < 0)), .int .u64 (Zae (b.2.den - 1)), .string (Kd (b.2.den - 1)), .int .u64 (Zae c.1.num.natAbs), .string (Kd c.1.num.natAbs), .bool (decide (c.1.num < 0)), .int .u64 (Zae (c.1.den - 1)), .string (Kd (c.1.den - 1)), .int .u64 (Zae c.2.num.natAbs), .string (Kd c.2.num.natAbs), .bool (decide (c.2.num < 0)), .int .u64 (Zae (c.2.den - 1)), .string (Kd (c.2.den - 1))]
theorem Zd9 (w : World) : (zeroValue 44).run Tryz.prog w = .ok (Qr (0, 0) (0, 0) (0, 0)) w := zeroValue44 w
abbrev Xm (a b c d e f g h i : Rat) : Value := .agg #[.int .u64 (Zae a.num.natAbs), .string (Kd a.num.natAbs), .bool (decide (a.num < 0)), .int .u64 (Zae (a.den - 1)), .string (Kd (a.den - 1)), .int .u64 (Zae b.num.natAbs), .string (Kd b.num.natAbs), .bool (decide (b.num < 0)), .int .u64 (Zae (b.den - 1)), .string (Kd (b.den - 1)), .int .u64 (Zae c.num.natAbs), .string (Kd c.num.natAbs), .bool (decide (c.num < 0)), .int .u64 (Zae (c.den - 1)), .string (Kd (c.den - 1)), .int .u64 (Zae d.num.natAbs), .string (Kd d.num.natAbs), .bool (decide (d.num < 0)), .int .u64 (Zae (d.den - 1)), .string (Kd (d.den - 1)), .int .u64 (Zae e.num.natAbs), .string (Kd e.num.natAbs), .bool (decide (e.num < 0)), .int .u64 (Zae (e.den - 1)), .string (Kd (e.den - 1)), .int .u64 (Zae f.num.natAbs), .string (Kd f.num.natAbs), .bool (decide (f.num < 0)), .int .u64 (Zae (f.den - 1)), .string (Kd (f.den - 1)), .int .u64 (Zae g.num.natAbs), .string (Kd g.num.natAbs), .bool (decide (g.num < 0)), .int .u64 (Zae (g.den - 1)), .string (Kd (g.den - 1)), .int .u64 (Zae h.num.natAbs), .string (Kd h.num.natAbs), .bool (decide (h.num < 0)), .int .u64 (Zae (h.den - 1)), .string (Kd (h.den - 1)), .int .u64 (Zae i.num.natAbs), .string (Kd i.num.natAbs), .bool (decide (i.num < 0)), .int .u64 (Zae (i.den - 1)), .string (Kd (i.den - 1))]
theorem Zvj (w : World) : (zeroValue 114).run Tryz.prog w = .ok (Xm 0 0 0 0 0 0 0 0 0) w := zeroValue114 w
theorem sgn0 {x : Rat} (h : x.num.sign = 0) : x = 0 := Rat.num_eq_zero.1 (Int.sign_eq_zero_iff_zero.1 h)
theorem Ve (a b : Pt) : Zw (Jt a b).1 ≤ Zw a.1 + Zw b.1 + 1 := Zbe _ _
theorem Vd (a b : Pt) : Zw (Jt a b).2 ≤ Zw a.2 + Zw b.2 + 1 := Zbe _ _
theorem Zuu (a : Pt) (k : Rat) : Zw (Zp1 a k).1 ≤ Zw a.1 + Zw k := Zo _ _
theorem Zut (a : Pt) (k : Rat) : Zw (Zp1 a k).2 ≤ Zw a.2 + Zw k := Zo _ _
theorem Vy (a b : Pt) : Zw (Zap a b) ≤ Zw a.1 + Zw b.1 + Zw a.2 + Zw b.2 + 1 := by
 have := Qw (a.1 * b.1) (a.2 * b.2); have := Zo a.1 b.1; have := Zo a.2 b.2; unfold Zap; omega
theorem Zmo (a b : Pt) : Zw (crQ a b) ≤ Zw a.1 + Zw b.2 + Zw a.2 + Zw b.1 + 1 := by
 have := Zbe (a.1 * b.2) (a.2 * b.1); have := Zo a.1 b.2; have := Zo a.2 b.1; unfold crQ; omega
theorem Zaf (a b c : Pt) : Zw (twP a b c) ≤ Zw b.1 + Zw b.2 + Zw c.1 + Zw c.2 + 2 * Zw a.1 + 2 * Zw a.2 + 5 := by
 have := Zmo (Jt b a) (Jt c a); have := Ve b a; have := Vd b a; have := Ve c a; have := Vd c a; unfold twP; omega
theorem Zuv : Zw Zx3 ≤ 4 := Zhg 1 2 dd dd dd dd
theorem Zca (a b c : Pt) : Zw (Qb a b c) ≤ Zw b.1 + Zw b.2 + Zw c.1 + Zw c.2 + 2 * Zw a.1 + 2 * Zw a.2 + 9 := by
 have := Zo (twP a b c) Zx3; have := Zaf a b c; have := Zuv; unfold Qb; omega
theorem Zmn (e f : Pt) (t : Rat) : Zw (grP e f t).1 ≤ Zw e.2 + Zw f.2 + Zw t + 1 ∧ Zw (grP e f t).2 ≤ Zw e.1 + Zw f.1 + Zw t + 1 := by
 have h1 := Vj (-((Jt e f).2)) t; have h2 := Vj ((Jt e f).1) t; have h3 := Zc1 ((Jt e f).2); have := Ve e f; have := Vd e f
 unfold grP; simp only; omega
theorem Qdi (g : Nat) (cs : List Value) (Φ : List Qm) (pa pb : Pt) (x y : Rat) (hg : ∀ args w, (callFunc g args).run Tryz.prog w = .ok (.enter g args) w)
  (hf1 : Zaq Tryz.prog g ([Zz pa.1, Zz pb.1] ++ cs) Φ (Zz x)) (hf2 : Zaq Tryz.prog g ([Zz pa.2, Zz pb.2] ++ cs) Φ (Zz y)) : Zaq Tryz.prog 76 [encPt pa, encPt pb, .func (.func g) #[] cs.toArray] Φ (encPt (x, y)) := by
 refine fn_intro func76 rfl ntmps76 nb ?_
 intro S w0 a hS h
 refine gC h (zS (zx rfl fun b3 => zx rfl fun b4 => zz Yw fun b6 => zn (zs (yD Za [0, 1, 2, 3, 4, 6, 7, 8, 9, 10, 5, 11, 12, 13] (Ze kk) (ym rfl rfl (yp rfl (.fA rfl Yy) (yd rfl rfl mr isAgg41 sizeOf41 Ji ?_))))))); clear h
 refine yp rfl (.fA rfl Yy) (yd rfl rfl mr isAgg41 sizeOf41 Ji ?_)
 refine ym rfl rfl (yp rfl (.fA rfl Yx) (yd rfl rfl mr isAgg41 sizeOf41 Jh ?_))
 refine yp rfl (.fA rfl Yx) (yd rfl rfl mr isAgg41 sizeOf41 Jh ?_)
 refine Zd3 rfl kk (fs := []) (cs := cs) rfl (vs := [_, _]) rfl hg hf1 (by first | exact (fun _ hR => hR) | simp) dd ?_
 refine Zd3 rfl kk (fs := []) (cs := cs) rfl (vs := [_, _]) rfl hg hf2 (by first | exact (fun _ hR => hR) | simp) dd ?_
 refine yp rfl (.build [(_, _), (_, _)] rfl (Zdg _ _ _ _ _ _ _ _ _ _)) (yt rfl rfl rfl Qq uu sizeOf43 rfl nb rfl ?_)
 refine yn (zt ?_); intro a w h
 refine Xw h (Zk h rfl (.cell rfl mr isAgg43 sizeOf43 Zj)) ?_
 rfl
theorem Zd8 (pa pb : Pt) (hbpa1 : Zw pa.1 ≤ 100000000) (hbpa2 : Zw pa.2 ≤ 100000000) (hbpb1 : Zw pb.1 ≤ 100000000) (hbpb2 : Zw pb.2 ≤ 100000000) : Yd Tryz.prog 86 [encPt pa, encPt pb] (encPt (Jt pa pb)) := by
 refine fn_intro func86 rfl ntmps86 nb ?_
 intro S w0 a hS h
 refine gC h (zS (zx rfl fun b2 => zx rfl fun b3 => zz Yw fun b4 => zn (zS (zd rfl mr isAgg43 sizeOf43 Zj ?_))))
 refine zd rfl mr isAgg43 sizeOf43 Zj ?_
 refine zw [_, _, _] rfl call76 (Qdi 137 [] [] pa pb _ _ call137 (Qex (Zkk pa.1 pb.1 oo oo) []) (Qex (Zkk pa.2 pb.2 oo oo) [])) (zt' rfl rfl Qq uu sizeOf43 rfl nb rfl ?_); intro a w h
 refine wpList_nil (wp_ret ?_)
 refine Xw h (Zk h rfl (.cell rfl mr isAgg43 sizeOf43 Zj)) ?_
 rfl
theorem Zze (x y k : Rat) (b o : Nat) (hx : Zw x ≤ 100000000) (hk : Zw k ≤ 100000000) : Zaq Tryz.prog 77 [Zz x, Zz y, .pointer (some ⟨b, o, none⟩)] [Row (some ⟨b, o, none⟩) (Value.cells (Zz k)).toList] (Zz (x * k)) := by
 refine fn_intro func77 rfl ntmps77 nb ?_
 intro S w0 a hS h
 refine gC h (zS (zx rfl fun b3 => zx rfl fun b4 => zz Jk fun b5 => zn (zS (zd rfl mr isAgg41 sizeOf41 Zl ?_))))
 refine zD (b := b) (off := o) (j := 0) (M := (Value.cells (Zz k)).toList) (v := Zz (k)) rfl mm (Nat.succ_pos _) isAgg41 sizeOf41 rfl (.inl rfl) ?_
 refine zv [_, _] rfl call18 (Ja _ _ oo oo) ?_
 have hl8 := Zo (x) (k)
 refine zt' rfl rfl Zu uu sizeOf41 rfl nb rfl ?_; intro a w h
 refine wpList_nil (wp_ret ?_)
 refine Xw h (Zk h rfl (.cell rfl mr isAgg41 sizeOf41 Zl)) ?_
 rfl
theorem Zzd (pa : Pt) (k : Rat) (hb1 : Zw pa.1 ≤ 100000000) (hb2 : Zw pa.2 ≤ 100000000) (hk : Zw k ≤ 100000000) : Yd Tryz.prog 25 [encPt pa, Zz k] (encPt (Zp1 pa k)) := by
 refine fn_intro func25 rfl ntmps25 nb ?_
 intro S w0 a hS h
 refine gC h (zS (zx rfl fun b2 => zx rfl fun b3 => ?_)); clear h; intro a w h
 replace h := h.shareAll hS ((Value.cells (Zz (k))).toList) rfl
 refine gL h (zz Yw fun b4 => zn (zS (zd rfl mr isAgg43 sizeOf43 Zj ?_)))
 refine zd rfl mr isAgg43 sizeOf43 Zj ?_
 refine zp (.makeFunc [] [_] rfl rfl) (zw [_, _, _] rfl call76 (Qdi 77 [.pointer (some ⟨b3, 0, none⟩)] [Row (some ⟨b3, 0, none⟩) (Value.cells (Zz k)).toList] pa pa _ _ call77 (Zze pa.1 pa.1 k b3 0 oo oo) (Zze pa.2 pa.2 k b3 0 oo oo)) (zt' rfl rfl Qq uu sizeOf43 rfl nb rfl ?_)); intro a w h
 refine wpList_nil (wp_ret ?_)
 refine Xw h (Zk h rfl (.cell rfl mr isAgg43 sizeOf43 Zj)) ?_
 rfl
theorem Zpe (pa pb : Pt) (hbpa1 : Zw pa.1 ≤ 100000000) (hbpa2 : Zw pa.2 ≤ 100000000) (hbpb1 : Zw pb.1 ≤ 100000000) (hbpb2 : Zw pb.2 ≤ 100000000) : Yd Tryz.prog 85 [encPt pa, encPt pb] (Zz (crQ pa pb)) := by
 refine fn_intro func85 rfl ntmps85 nb ?_
 intro S w0 a hS h
 refine gC h (zS (zx rfl fun b2 => zx rfl fun b3 => zz Jk fun b4 => zn (zs (yD Za [0, 1, 2, 3, 5, 6, 7, 8, 4, 9, 10, 11] (Ze kk) (yp rfl (.fA rfl Yy) (yd rfl rfl mr isAgg41 sizeOf41 Ji ?_)))))); clear h
 refine yp rfl (.fA rfl Yx) (yd rfl rfl mr isAgg41 sizeOf41 Jh ?_)
 refine yp rfl (.fA rfl Yx) (yd rfl rfl mr isAgg41 sizeOf41 Jh ?_)
 refine yp rfl (.fA rfl Yy) (yd rfl rfl mr isAgg41 sizeOf41 Ji ?_)
 refine yv [_, _] rfl rfl call18 (Ja _ _ oo oo) ?_
 have hl9 := Zo (pa.1) (pb.2)
 refine yv [_, _] rfl rfl call18 (Ja _ _ oo oo) ?_
 have hl14 := Zo (pa.2) (pb.1)
 refine yv [_, _] rfl rfl call137 (Zkk _ _ oo oo) ?_
 have hl15 := Zbe (pa.1 * pb.2) (pa.2 * pb.1)
 refine yt rfl rfl rfl Zu uu sizeOf41 rfl nb rfl ?_
 refine yn (zt ?_); intro a w h
 refine Xw h (Zk h rfl (.cell rfl mr isAgg41 sizeOf41 Zl)) ?_
 rfl
theorem Zcq (pa pb : Pt) (hbpa1 : Zw pa.1 ≤ 100000000) (hbpa2 : Zw pa.2 ≤ 100000000) (hbpb1 : Zw pb.1 ≤ 100000000) (hbpb2 : Zw pb.2 ≤ 100000000) : Yd Tryz.prog 50 [encPt pa, encPt pb] (Zz (Zap pa pb)) := by
 refine fn_intro func50 rfl ntmps50 nb ?_
 intro S w0 a hS h
 refine gC h (zS (zx rfl fun b2 => zx rfl fun b3 => zz Jk fun b4 => zn (zs (yD Za [0, 1, 2, 3, 5, 6, 7, 8, 4, 9, 10, 11] (Ze kk) (yp rfl (.fA rfl Yy) (yd rfl rfl mr isAgg41 sizeOf41 Ji ?_)))))); clear h
 refine yp rfl (.fA rfl Yy) (yd rfl rfl mr isAgg41 sizeOf41 Ji ?_)
 refine yp rfl (.fA rfl Yx) (yd rfl rfl mr isAgg41 sizeOf41 Jh ?_)
 refine yp rfl (.fA rfl Yx) (yd rfl rfl mr isAgg41 sizeOf41 Jh ?_)
 refine yv [_, _] rfl rfl call18 (Ja _ _ oo oo) ?_
 have hl9 := Zo (pa.1) (pb.1)
 refine yv [_, _] rfl rfl call18 (Ja _ _ oo oo) ?_
 have hl14 := Zo (pa.2) (pb.2)
 refine yv [_, _] rfl rfl call49 (Gw _ _ oo oo) ?_
 have hl15 := Qw (pa.1 * pb.1) (pa.2 * pb.2)
 refine yt rfl rfl rfl Zu uu sizeOf41 rfl nb rfl ?_
 refine yn (zt ?_); intro a w h
 refine Xw h (Zk h rfl (.cell rfl mr isAgg41 sizeOf41 Zl)) ?_
 rfl
theorem Zvc (pa pb : Pt) (hbpa1 : Zw pa.1 ≤ 10000000) (hbpa2 : Zw pa.2 ≤ 10000000) (hbpb1 : Zw pb.1 ≤ 10000000) (hbpb2 : Zw pb.2 ≤ 10000000) : Yd Tryz.prog 92 [encPt pa, encPt pb] (Zz (Zap (Jt pb pa) (Jt pb pa))) := by
 refine fn_intro func92 rfl ntmps92 nb ?_
 intro S w0 a hS h
 refine gC h (zS (zx rfl fun b2 => zx rfl fun b3 => zz Jk fun b4 => zn (zS (zd rfl mr isAgg43 sizeOf43 Zj ?_))))
 refine zd rfl mr isAgg43 sizeOf43 Zj ?_
 refine zv [_, _] rfl call86 (Zd8 pb pa oo oo oo oo) ?_
 have hl8 := Ve pb pa
 have hl8 := Vd pb pa
 refine zz Yw fun b5 => zt' rfl rfl Qq uu sizeOf43 rfl nb rfl ?_
 refine zn (zS (zd rfl mr isAgg43 sizeOf43 Zj ?_))
 refine zd rfl mr isAgg43 sizeOf43 Zj ?_
 refine zv [_, _] rfl call50 (Zcq (Jt pb pa) (Jt pb pa) oo oo oo oo) ?_
 have hl11 := Vy (Jt pb pa) (Jt pb pa)
 refine zt' rfl rfl Zu uu sizeOf41 rfl nb rfl ?_; intro a w h
 refine wpList_nil (wp_ret ?_)
 refine Xw h (Zk h rfl (.cell rfl mr isAgg41 sizeOf41 Zl)) ?_
 rfl
theorem Zni (pa pb pc : Pt) (hbpa1 : Zw pa.1 ≤ 10000000) (hbpa2 : Zw pa.2 ≤ 10000000) (hbpb1 : Zw pb.1 ≤ 10000000) (hbpb2 : Zw pb.2 ≤ 10000000) (hbpc1 : Zw pc.1 ≤ 10000000) (hbpc2 : Zw pc.2 ≤ 10000000) : Yd Tryz.prog 32 [encPt pa, encPt pb, encPt pc] (.int .i64 (twP pa pb pc).num.sign) := by
 refine fn_intro func32 rfl ntmps32 nb ?_
 intro S w0 a hS h
 refine gC h (zS (zx rfl fun b3 => zx rfl fun b4 => zx rfl fun b5 => za rfl (zn (zs (yD Za [0, 1, 3, 4, 2, 5, 6, 7, 8] (Ze kk) (yd rfl rfl mr isAgg43 sizeOf43 Zj ?_)))))); clear h
 refine yd rfl rfl mr isAgg43 sizeOf43 Zj ?_
 refine yd rfl rfl mr isAgg43 sizeOf43 Zj ?_
 refine yd rfl rfl mr isAgg43 sizeOf43 Zj ?_
 refine yv [_, _] rfl rfl call86 (Zd8 pb pa oo oo oo oo) ?_
 have hl9 := Ve pb pa
 have hl9 := Vd pb pa
 refine yv [_, _] rfl rfl call86 (Zd8 pc pa oo oo oo oo) ?_
 have hl12 := Ve pc pa
 have hl12 := Vd pc pa
 refine yv [_, _] rfl rfl call85 (Zpe (Jt pb pa) (Jt pc pa) oo oo oo oo) ?_
 have hl13 := Zmo (Jt pb pa) (Jt pc pa)
 refine yv [_] rfl rfl call23 (Zhu _) (yp rfl (.assign rfl) (yn (zt ?_))); intro a w h
 exact Zed h
theorem Qfk (x y : Int) (h0 : -9223372036854775808 ≤ x) (h1 : x ≤ 9223372036854775807) (h2 : -9223372036854775808 ≤ y) (h3 : y ≤ 9223372036854775807) : Yd Tryz.prog 37 [.int .i64 x, .int .i64 y] (encPt ((x : Rat), (y : Rat))) := by
 refine fn_intro func37 rfl ntmps37 nb ?_
 intro S w0 a hS h
 refine gC h (zS (zz Yw fun b4 => zn (zS (zm rfl (zv [_] rfl call21 (Ki _ oo oo) ?_)))))
 have hl6 := Zq (x) oo oo
 refine zm rfl (zv [_] rfl call21 (Ki _ oo oo) ?_)
 have hl8 := Zq (y) oo oo
 refine zp (.build [(_, _), (_, _)] rfl (Zdg _ _ _ _ _ _ _ _ _ _)) (zt' rfl rfl Qq uu sizeOf43 rfl nb rfl ?_); intro a w h
 refine wpList_nil (wp_ret ?_)
 refine Xw h (Zk h rfl (.cell rfl mr isAgg43 sizeOf43 Zj)) ?_
 rfl
theorem Zdl (pa pb pc : Pt) (hbpa1 : Zw pa.1 ≤ 10000000) (hbpa2 : Zw pa.2 ≤ 10000000) (hbpb1 : Zw pb.1 ≤ 10000000) (hbpb2 : Zw pb.2 ≤ 10000000) (hbpc1 : Zw pc.1 ≤ 10000000) (hbpc2 : Zw pc.2 ≤ 10000000) : Yd Tryz.prog 98 [encPt pa, encPt pb, encPt pc] (Zz (twP pa pb pc)) := by
 refine fn_intro func98 rfl ntmps98 nb ?_
 intro S w0 a hS h
 refine gC h (zS (zx rfl fun b3 => zx rfl fun b4 => zx rfl fun b5 => zz Jk fun b6 => zn (zs (yD Za [0, 1, 3, 4, 2, 5, 6, 7] (Ze kk) (yd rfl rfl mr isAgg43 sizeOf43 Zj ?_))))); clear h
 refine yd rfl rfl mr isAgg43 sizeOf43 Zj ?_
 refine yd rfl rfl mr isAgg43 sizeOf43 Zj ?_
 refine yd rfl rfl mr isAgg43 sizeOf43 Zj ?_
 refine yv [_, _] rfl rfl call86 (Zd8 pb pa oo oo oo oo) ?_
 have hl9 := Ve pb pa
 have hl9 := Vd pb pa
 refine yv [_, _] rfl rfl call86 (Zd8 pc pa oo oo oo oo) ?_
 have hl12 := Ve pc pa
 have hl12 := Vd pc pa
 refine yv [_, _] rfl rfl call85 (Zpe (Jt pb pa) (Jt pc pa) oo oo oo oo) ?_
 have hl13 := Zmo (Jt pb pa) (Jt pc pa)
 refine yt rfl rfl rfl Zu uu sizeOf41 rfl nb rfl ?_
 refine yn (zt ?_); intro a w h
 refine Xw h (Zk h rfl (.cell rfl mr isAgg41 sizeOf41 Zl)) ?_
 rfl
theorem Qb9 (x : Rat) (hx : Zw x ≤ 100000000) : Yd Tryz.prog 104 [Zz x] (Zz (x * Zx3)) := by
 refine fn_intro func104 rfl ntmps104 nb ?_
 intro S w0 a hS h
 refine gC h (zS (zx rfl fun b1 => zz Jk fun b2 => zn (zS (zv [_, _] rfl call69 (Qfv _ _ oo oo oo oo oo) ?_))))
 have hl6 := Zhg (1) (2) oo oo oo oo
 refine zm rfl (zp (.eX rfl) (zp (.eX rfl) (zz Jk fun b3 => zt' rfl rfl Zu uu sizeOf41 rfl nb rfl ?_)))
 refine za rfl (zn (zS (zd rfl mr isAgg41 sizeOf41 Zl ?_)))
 refine zd rfl mr isAgg41 sizeOf41 Zl ?_
 refine zv [_, _] rfl call18 (Ja _ _ oo oo) ?_
 have hl11 := Zo (x) (((1 : Int) : Rat) / ((2 : Int) : Rat))
 refine zt' rfl rfl Zu uu sizeOf41 rfl nb rfl ?_; intro a w h
 refine wpList_nil (wp_ret ?_)
 refine Xw h (Zk h rfl (.cell rfl mr isAgg41 sizeOf41 Zl)) ?_
 rfl
theorem Zng (pa pb pc : Pt) (hbpa1 : Zw pa.1 ≤ 10000000) (hbpa2 : Zw pa.2 ≤ 10000000) (hbpb1 : Zw pb.1 ≤ 10000000) (hbpb2 : Zw pb.2 ≤ 10000000) (hbpc1 : Zw pc.1 ≤ 10000000) (hbpc2 : Zw pc.2 ≤ 10000000) : Yd Tryz.prog 48 [encPt pa, encPt pb, encPt pc] (Zz (Qb pa pb pc)) := by
 refine fn_intro func48 rfl ntmps48 nb ?_
 intro S w0 a hS h
 refine gC h (zS (zx rfl fun b3 => zx rfl fun b4 => zx rfl fun b5 => zz Jk fun b6 => zn (zS (zd rfl mr isAgg43 sizeOf43 Zj ?_))))
 refine zd rfl mr isAgg43 sizeOf43 Zj ?_
 refine zd rfl mr isAgg43 sizeOf43 Zj ?_
 refine zv [_, _, _] rfl call98 (Zdl pa pb pc oo oo oo oo oo oo) ?_
 have hl10 := Zaf pa pb pc
 refine zv [_] rfl call104 (Qb9 (twP pa pb pc) oo) (zt' rfl rfl Zu uu sizeOf41 rfl nb rfl ?_); intro a w h
 refine wpList_nil (wp_ret ?_)
 refine Xw h (Zk h rfl (.cell rfl mr isAgg41 sizeOf41 Zl)) ?_
 rfl
set_option maxHeartbeats 1000000 in
theorem Ztf (pa pb pc pq : Pt) (hbpa1 : Zw pa.1 ≤ 10000000) (hbpa2 : Zw pa.2 ≤ 10000000) (hbpb1 : Zw pb.1 ≤ 10000000) (hbpb2 : Zw pb.2 ≤ 10000000) (hbpc1 : Zw pc.1 ≤ 10000000) (hbpc2 : Zw pc.2 ≤ 10000000) (hbpq1 : Zw pq.1 ≤ 10000000) (hbpq2 : Zw pq.2 ≤ 10000000) (hT : twP pa pb pc ≠ 0) : Yd Tryz.prog 40 [encPt pa, encPt pb, encPt pc, encPt pq] (.tuple #[Zcr (Vb pa pb pc pq), .int .i64 0]) := by
 refine fn_intro func40 rfl ntmps40 nb ?_
 intro S w0 a hS h
 refine gC h (zS (zx rfl fun b4 => zx rfl fun b5 => zx rfl fun b6 => zx rfl fun b7 => zz Zto fun b8 => za rfl (zn (zS (zd rfl mr isAgg43 sizeOf43 Zj ?_)))))
 refine zd rfl mr isAgg43 sizeOf43 Zj ?_
 refine zd rfl mr isAgg43 sizeOf43 Zj ?_
 refine zv [_, _, _] rfl call98 (Zdl pa pb pc oo oo oo oo oo oo) ?_
 have hl18 := Zaf pa pb pc
 refine zz Jk fun b10 => zt' rfl rfl Zu uu sizeOf41 rfl nb rfl ?_
 refine zn (zs (yD Za [0, 1, 2, 4, 5, 6, 8, 9, 10, 3, 7, 11, 12, 13, 14] (Qy ⟨.inl rfl, .inl rfl, .inl rfl, .inl rfl, .inl rfl, .inl rfl, .inl rfl, .inl rfl, .inl rfl, .inl rfl, .inl rfl, .inl rfl, .inl rfl, .inr ⟨11, 60, _, _, _, rfl, rfl, by decide, _, Zto⟩, .inl rfl, trivial⟩) (yd rfl rfl mr isAgg43 sizeOf43 Zj ?_)))
 refine yd rfl rfl mr isAgg43 sizeOf43 Zj ?_
 refine yd rfl rfl mr isAgg43 sizeOf43 Zj ?_
 refine yd rfl rfl mr isAgg43 sizeOf43 Zj ?_
 refine yd rfl rfl mr isAgg43 sizeOf43 Zj ?_
 refine yd rfl rfl mr isAgg43 sizeOf43 Zj ?_
 refine yd rfl rfl mr isAgg43 sizeOf43 Zj ?_
 refine yd rfl rfl mr isAgg43 sizeOf43 Zj ?_
 refine yd rfl rfl mr isAgg43 sizeOf43 Zj ?_
 refine yv [_, _, _] rfl rfl call98 (Zdl pq pb pc oo oo oo oo oo oo) ?_
 have hl22 := Zaf pq pb pc
 refine yv [_, _, _] rfl rfl call98 (Zdl pa pq pc oo oo oo oo oo oo) ?_
 have hl26 := Zaf pa pq pc
 refine yv [_, _, _] rfl rfl call98 (Zdl pa pb pq oo oo oo oo oo oo) ?_
 have hl30 := Zaf pa pb pq
 refine yp rfl (.build [(_, _), (_, _), (_, _)] rfl (Zfy _ _ _ _ _ _ _ _ _ _ _ _ _ _ _)) (yz rfl Zto fun b11 => yt rfl rfl rfl Zde uu sizeOf60 rfl nb rfl ?_)
 refine yn (zs (zS (zm rfl (zn (zb ?_))))); intro a w h
 refine wp_loop_rounds 4 ?_
 refine Zb ?_
 refine gC h (zS (zp (Pure1.cast (v' := .bool true) (.lss rfl rfl) cgd) (zn (zs ?_)))); clear h; intro a w h
 refine Zg h rfl ?_
 refine gC h (zk (zs (zb (zS (zm rfl (za rfl (zn (zs (yD Za [0, 1, 2, 3, 4, 5, 6, 7, 8, 9, 10] (Qy ⟨.inl rfl, .inl rfl, .inl rfl, .inl rfl, .inl rfl, .inl rfl, .inl rfl, .inl rfl, .inr ⟨13, 41, _, _, _, rfl, rfl, by decide, _, Jk⟩, .inl rfl, .inl rfl, trivial⟩) (ym rfl rfl (yp rfl (.indexAddr rfl rfl (Yu _ _)) (yd rfl rfl mr isAgg41 sizeOf41 Zdf ?_)))))))))))); clear h
 refine yd rfl rfl mr isAgg41 sizeOf41 Zl ?_
 refine yv [_, _] rfl rfl call91 (Zec (twP pq pb pc) (twP pa pb pc) hT oo oo) ?_
 have hl40 := Vj (twP pq pb pc) (twP pa pb pc)
 refine ym rfl rfl (yp rfl (.eX rfl) (yp rfl (.eX rfl) (yz rfl Jk fun b13 => yt rfl rfl rfl Zu uu sizeOf41 rfl nb rfl ?_)))
 refine yp rfl (.assign rfl) (yn (zs (zS (zm rfl (zp (Pure1.cast (v' := .bool false) (.neq rfl rfl) cgd) (zn ?_)))))); intro a w h
 refine cW ?_
 refine Zf h rfl ?_
 refine gC h (zk (zr (zm rfl (zd rfl mr isAgg41 sizeOf41 Zl ?_))))
 refine zp (.indexAddr rfl rfl (Yu _ _)) (zt' rfl rfl Zv6 uu sizeOf41 rfl nb rfl ?_)
 refine zn (zr (zp (Pure1.cast (v' := .int .i64 1) (.add rfl rfl) cgd) (zm rfl (zn ?_)))); intro a w h
 replace h : St 51 S w0 [(8, pB b8), (9, .int .i64 0), (10, pB b10), (11, pB b11), (32, .int .i64 1), (33, .bool true), (44, .bool false)] [(b11, bV (Zcr (((twP pq pb pc) / (twP pa pb pc), twP pa pq pc, twP pa pb pq))) 60), (b10, bV (Zz (twP pa pb pc)) 41), (b8, bV (Zcr ((0, 0, 0))) 60), (b7, bV (Zcp pq.1 pq.2) 43), (b6, bV (Zcp pc.1 pc.2) 43), (b5, bV (Zcp pb.1 pb.2) 43), (b4, bV (Zcp pa.1 pa.2) 43)] [] a w := by exact (h.drop sl).sub sA
 refine Zb ?_
 refine gC h (zS (zp (Pure1.cast (v' := .bool true) (.lss rfl rfl) cgd) (zn (zs ?_)))); clear h; intro a w h
 refine Zg h rfl ?_
 refine gC h (zk (zs (zb (zS (zm rfl (za rfl (zn (zs (yD Za [0, 1, 2, 3, 4, 5, 6, 7, 8, 9, 10] (Qy ⟨.inl rfl, .inl rfl, .inl rfl, .inl rfl, .inl rfl, .inl rfl, .inl rfl, .inl rfl, .inr ⟨13, 41, _, _, _, rfl, rfl, by decide, _, Jk⟩, .inl rfl, .inl rfl, trivial⟩) (ym rfl rfl (yp rfl (.indexAddr rfl rfl (Yb _ _)) (yd rfl rfl mr isAgg41 sizeOf41 Zau ?_)))))))))))); clear h
 refine yd rfl rfl mr isAgg41 sizeOf41 Zl ?_
 refine yv [_, _] rfl rfl call91 (Zec (twP pa pq pc) (twP pa pb pc) hT oo oo) ?_
 have hl40 := Vj (twP pa pq pc) (twP pa pb pc)
 refine ym rfl rfl (yp rfl (.eX rfl) (yp rfl (.eX rfl) (yz rfl Jk fun b13 => yt rfl rfl rfl Zu uu sizeOf41 rfl nb rfl ?_)))
 refine yp rfl (.assign rfl) (yn (zs (zS (zm rfl (zp (Pure1.cast (v' := .bool false) (.neq rfl rfl) cgd) (zn ?_)))))); intro a w h
 refine cW ?_
 refine Zf h rfl ?_
 refine gC h (zk (zr (zm rfl (zd rfl mr isAgg41 sizeOf41 Zl ?_))))
 refine zp (.indexAddr rfl rfl (Yb _ _)) (zt' rfl rfl Zv5 uu sizeOf41 rfl nb rfl ?_)
 refine zn (zr (zp (Pure1.cast (v' := .int .i64 2) (.add rfl rfl) cgd) (zm rfl (zn ?_)))); intro a w h
 replace h : St 51 S w0 [(8, pB b8), (9, .int .i64 0), (10, pB b10), (11, pB b11), (32, .int .i64 2), (33, .bool true), (44, .bool false)] [(b11, bV (Zcr (((twP pq pb pc) / (twP pa pb pc), (twP pa pq pc) / (twP pa pb pc), twP pa pb pq))) 60), (b10, bV (Zz (twP pa pb pc)) 41), (b8, bV (Zcr ((0, 0, 0))) 60), (b7, bV (Zcp pq.1 pq.2) 43), (b6, bV (Zcp pc.1 pc.2) 43), (b5, bV (Zcp pb.1 pb.2) 43), (b4, bV (Zcp pa.1 pa.2) 43)] [] a w := by exact (h.drop sl).sub sA
 refine Zb ?_
 refine gC h (zS (zp (Pure1.cast (v' := .bool true) (.lss rfl rfl) cgd) (zn (zs ?_)))); clear h; intro a w h
 refine Zg h rfl ?_
 refine gC h (zk (zs (zb (zS (zm rfl (za rfl (zn (zs (yD Za [0, 1, 2, 3, 4, 5, 6, 7, 8, 9, 10] (Qy ⟨.inl rfl, .inl rfl, .inl rfl, .inl rfl, .inl rfl, .inl rfl, .inl rfl, .inl rfl, .inr ⟨13, 41, _, _, _, rfl, rfl, by decide, _, Jk⟩, .inl rfl, .inl rfl, trivial⟩) (ym rfl rfl (yp rfl (.indexAddr rfl rfl (Yt _ _)) (yd rfl rfl mr isAgg41 sizeOf41 Zb9 ?_)))))))))))); clear h
 refine yd rfl rfl mr isAgg41 sizeOf41 Zl ?_
 refine yv [_, _] rfl rfl call91 (Zec (twP pa pb pq) (twP pa pb pc) hT oo oo) ?_
 have hl40 := Vj (twP pa pb pq) (twP pa pb pc)
 refine ym rfl rfl (yp rfl (.eX rfl) (yp rfl (.eX rfl) (yz rfl Jk fun b13 => yt rfl rfl rfl Zu uu sizeOf41 rfl nb rfl ?_)))
 refine yp rfl (.assign rfl) (yn (zs (zS (zm rfl (zp (Pure1.cast (v' := .bool false) (.neq rfl rfl) cgd) (zn ?_)))))); intro a w h
 refine cW ?_
 refine Zf h rfl ?_
 refine gC h (zk (zr (zm rfl (zd rfl mr isAgg41 sizeOf41 Zl ?_))))
 refine zp (.indexAddr rfl rfl (Yt _ _)) (zt' rfl rfl Zt2 uu sizeOf41 rfl nb rfl ?_)
 refine zn (zr (zp (Pure1.cast (v' := .int .i64 3) (.add rfl rfl) cgd) (zm rfl (zn ?_)))); intro a w h
 replace h : St 51 S w0 [(8, pB b8), (9, .int .i64 0), (10, pB b10), (11, pB b11), (32, .int .i64 3), (33, .bool true), (44, .bool false)] [(b11, bV (Zcr (((twP pq pb pc) / (twP pa pb pc), (twP pa pq pc) / (twP pa pb pc), (twP pa pb pq) / (twP pa pb pc)))) 60), (b10, bV (Zz (twP pa pb pc)) 41), (b8, bV (Zcr ((0, 0, 0))) 60), (b7, bV (Zcp pq.1 pq.2) 43), (b6, bV (Zcp pc.1 pc.2) 43), (b5, bV (Zcp pb.1 pb.2) 43), (b4, bV (Zcp pa.1 pa.2) 43)] [] a w := by exact (h.drop sl).sub sA
 refine Zb ?_
 refine gC h (zS (zp (Pure1.cast (v' := .bool false) (.lss rfl rfl) cgd) (zn (zs ?_)))); clear h; intro a w h
 refine Zf h rfl ?_
 refine gC h (ze (zS (zd rfl mr isAgg60 sizeOf60 Zg9 ?_)))
 refine zt' rfl rfl Zde uu sizeOf60 rfl nb rfl ?_; intro a w h
 refine gL h (za rfl (zn (zt ?_))); clear h; intro a w h
 refine Xw h (Qv h rfl (.cell rfl mr isAgg60 sizeOf60 Zg9) (.tmp rfl)) ?_
 rfl
set_option maxHeartbeats 1000000 in
theorem Zkf (pa pb pc : Pt) (hbpa1 : Zw pa.1 ≤ 10000000) (hbpa2 : Zw pa.2 ≤ 10000000) (hbpb1 : Zw pb.1 ≤ 10000000) (hbpb2 : Zw pb.2 ≤ 10000000) (hbpc1 : Zw pc.1 ≤ 10000000) (hbpc2 : Zw pc.2 ≤ 10000000) (hT : twP pa pb pc ≠ 0) : Yd Tryz.prog 41 [encPt pa, encPt pb, encPt pc] (.tuple #[Qr (Zd pa pb pc).1 (Zd pa pb pc).2.1 (Zd pa pb pc).2.2, .int .i64 0]) := by
 refine fn_intro func41 rfl ntmps41 nb ?_
 intro S w0 a hS h
 refine gC h (zS (zx rfl fun b3 => zx rfl fun b4 => zx rfl fun b5 => zz Zd9 fun b6 => za rfl (zn (zS (zd rfl mr isAgg43 sizeOf43 Zj ?_)))))
 refine zd rfl mr isAgg43 sizeOf43 Zj ?_
 refine zd rfl mr isAgg43 sizeOf43 Zj ?_
 refine zv [_, _, _] rfl call98 (Zdl pa pb pc oo oo oo oo oo oo) ?_
 have hl16 := Zaf pa pb pc
 refine zz Jk fun b8 => zt' rfl rfl Zu uu sizeOf41 rfl nb rfl ?_
 refine zn (zs (zS (zd rfl mr isAgg41 sizeOf41 Zl ?_)))
 refine zv [_] rfl call23 (Zhu _) (zp (.eql rfl rfl) ?_); intro a w h
 refine Jc h (fun hc19 h => (by exfalso; exact hT (sgn0 (by simpa using hc19)))) (fun hc19 h => ?_)
 refine wpList_nil ?_
 refine cW ?_
 refine Zf h rfl ?_
 refine gC h (zk (zS (zz Zd9 fun b9 => zn (zS (zd rfl mr isAgg43 sizeOf43 Zj ?_)))))
 refine zd rfl mr isAgg43 sizeOf43 Zj ?_
 refine zd rfl mr isAgg43 sizeOf43 Zj ?_
 refine zp (.build [(_, _), (_, _), (_, _)] rfl (Zfz _ _ _ _ _ _ _ _ _ _ _ _ _ _ _ _ _ _ _ _ _ _ _ _ _ _ _ _ _ _)) (zz Zd9 fun b10 => zt' rfl rfl Vw uu sizeOf44 rfl nb rfl ?_)
 refine zn (zs (zS (zm rfl (zn (zb ?_))))); intro a w h
 refine wp_loop_rounds 4 ?_
 refine Zb ?_
 refine gC h (zS (zp (Pure1.cast (v' := .bool true) (.lss rfl rfl) cgd) (zn (zs ?_)))); clear h; intro a w h
 refine Zg h rfl ?_
 refine gC h (zk (zs (zb (zS (zm rfl (za rfl (zn (zs (yD Za [0, 1, 2, 3, 4, 5, 6, 7, 8, 9, 10, 11, 12] (Qy ⟨.inl rfl, .inl rfl, .inl rfl, .inl rfl, .inl rfl, .inl rfl, .inl rfl, .inl rfl, .inl rfl, .inl rfl, .inl rfl, .inr ⟨12, 43, _, _, _, rfl, rfl, by decide, _, Yw⟩, .inl rfl, trivial⟩) (ym rfl rfl (yp rfl (Pure1.cast (v' := .int .i64 2) (.add rfl rfl) cgd) (yp rfl (Pure1.cast (v' := .int .i64 2) (.binOp rfl rfl (fun _ => Yf _ _ _ _ _ dd)) cgd) (yp rfl (.indexAddr rfl rfl (Xo _ _)) (yd rfl rfl mr isAgg43 sizeOf43 Jo ?_)))))))))))))); clear h
 refine ym rfl rfl (yp rfl (Pure1.cast (v' := .int .i64 1) (.add rfl rfl) cgd) (yp rfl (Pure1.cast (v' := .int .i64 1) (.binOp rfl rfl (fun _ => Yf _ _ _ _ _ dd)) cgd) (yp rfl (.indexAddr rfl rfl (Xp _ _)) (yd rfl rfl mr isAgg43 sizeOf43 Jp ?_))))
 refine yv [_, _] rfl rfl call86 (Zd8 pc pb oo oo oo oo) ?_
 have hl38 := Ve pc pb
 have hl38 := Vd pc pb
 refine yz rfl Yw fun b12 => yt rfl rfl rfl Qq uu sizeOf43 rfl nb rfl ?_
 refine yn (zs (yD Za [0, 1, 2, 4, 3, 5, 6, 7, 8, 9, 10, 11] (Ze kk) (ym rfl rfl (yp rfl (.fA rfl Yx) (yd rfl rfl mr isAgg41 sizeOf41 Jh ?_)))))
 refine yd rfl rfl mr isAgg41 sizeOf41 Zl ?_
 refine yv [_] rfl rfl call93 (Zpi _) ?_
 have hl43 := Zc1 ((Jt pc pb).2)
 refine yv [_, _] rfl rfl call91 (Zec (-((Jt pc pb).2)) (twP pa pb pc) hT oo oo) ?_
 have hl45 := Vj (-((Jt pc pb).2)) (twP pa pb pc)
 refine ym rfl rfl (yp rfl (.eX rfl) (yp rfl (.eX rfl) (yp rfl (.indexAddr rfl rfl (Yc _ _)) (yp rfl (.fA rfl Yy) (yt rfl rfl rfl Zv4 uu sizeOf41 rfl nb rfl ?_)))))
 refine yn (zr (zm rfl (zp (.fA rfl Yy) (zd rfl mr isAgg41 sizeOf41 Ji ?_))))
 refine zd rfl mr isAgg41 sizeOf41 Zl ?_
 refine zv [_, _] rfl call91 (Zec ((Jt pc pb).1) (twP pa pb pc) hT oo oo) ?_
 have hl55 := Vj ((Jt pc pb).1) (twP pa pb pc)
 refine zm rfl (zp (.eX rfl) (zp (.eX rfl) (zp (.indexAddr rfl rfl (Yc _ _)) (zp (.fA rfl Yx) (zt' rfl rfl Zv3 uu sizeOf41 rfl nb rfl ?_)))))
 refine zn (zr (zp (Pure1.cast (v' := .int .i64 1) (.add rfl rfl) cgd) (zm rfl (zn ?_)))); intro a w h
 replace h : St 62 S w0 [(6, pB b6), (7, .int .i64 0), (8, pB b8), (9, pB b9), (10, pB b10), (25, .int .i64 1), (26, .bool true)] [(b10, bV (Qr pa pb pc) 44), (b9, bV (Qr (((-((Jt pc pb).2)) / (twP pa pb pc), ((Jt pc pb).1) / (twP pa pb pc))) (0, 0) (0, 0)) 44), (b8, bV (Zz (twP pa pb pc)) 41), (b6, bV (Qr (0, 0) (0, 0) (0, 0)) 44), (b5, bV (Zcp pc.1 pc.2) 43), (b4, bV (Zcp pb.1 pb.2) 43), (b3, bV (Zcp pa.1 pa.2) 43)] [] a w := by exact (h.drop sl).sub sA
 refine Zb ?_
 refine gC h (zS (zp (Pure1.cast (v' := .bool true) (.lss rfl rfl) cgd) (zn (zs ?_)))); clear h; intro a w h
 refine Zg h rfl ?_
 refine gC h (zk (zs (zb (zS (zm rfl (za rfl (zn (zs (yD Za [0, 1, 2, 3, 4, 5, 6, 7, 8, 9, 10, 11, 12] (Qy ⟨.inl rfl, .inl rfl, .inl rfl, .inl rfl, .inl rfl, .inl rfl, .inl rfl, .inl rfl, .inl rfl, .inl rfl, .inl rfl, .inr ⟨12, 43, _, _, _, rfl, rfl, by decide, _, Yw⟩, .inl rfl, trivial⟩) (ym rfl rfl (yp rfl (Pure1.cast (v' := .int .i64 3) (.add rfl rfl) cgd) (yp rfl (Pure1.cast (v' := .int .i64 0) (.binOp rfl rfl (fun _ => Yf _ _ _ _ _ dd)) cgd) (yp rfl (.indexAddr rfl rfl (Yc _ _)) (yd rfl rfl mr isAgg43 sizeOf43 Xk ?_)))))))))))))); clear h
 refine ym rfl rfl (yp rfl (Pure1.cast (v' := .int .i64 2) (.add rfl rfl) cgd) (yp rfl (Pure1.cast (v' := .int .i64 2) (.binOp rfl rfl (fun _ => Yf _ _ _ _ _ dd)) cgd) (yp rfl (.indexAddr rfl rfl (Xo _ _)) (yd rfl rfl mr isAgg43 sizeOf43 Jo ?_))))
 refine yv [_, _] rfl rfl call86 (Zd8 pa pc oo oo oo oo) ?_
 have hl38 := Ve pa pc
 have hl38 := Vd pa pc
 refine yz rfl Yw fun b12 => yt rfl rfl rfl Qq uu sizeOf43 rfl nb rfl ?_
 refine yn (zs (yD Za [0, 1, 2, 4, 3, 5, 6, 7, 8, 9, 10, 11] (Ze kk) (ym rfl rfl (yp rfl (.fA rfl Yx) (yd rfl rfl mr isAgg41 sizeOf41 Jh ?_)))))
 refine yd rfl rfl mr isAgg41 sizeOf41 Zl ?_
 refine yv [_] rfl rfl call93 (Zpi _) ?_
 have hl43 := Zc1 ((Jt pa pc).2)
 refine yv [_, _] rfl rfl call91 (Zec (-((Jt pa pc).2)) (twP pa pb pc) hT oo oo) ?_
 have hl45 := Vj (-((Jt pa pc).2)) (twP pa pb pc)
 refine ym rfl rfl (yp rfl (.eX rfl) (yp rfl (.eX rfl) (yp rfl (.indexAddr rfl rfl (Xp _ _)) (yp rfl (.fA rfl Yy) (yt rfl rfl rfl Zt1 uu sizeOf41 rfl nb rfl ?_)))))
 refine yn (zr (zm rfl (zp (.fA rfl Yy) (zd rfl mr isAgg41 sizeOf41 Ji ?_))))
 refine zd rfl mr isAgg41 sizeOf41 Zl ?_
 refine zv [_, _] rfl call91 (Zec ((Jt pa pc).1) (twP pa pb pc) hT oo oo) ?_
 have hl55 := Vj ((Jt pa pc).1) (twP pa pb pc)
 refine zm rfl (zp (.eX rfl) (zp (.eX rfl) (zp (.indexAddr rfl rfl (Xp _ _)) (zp (.fA rfl Yx) (zt' rfl rfl Zt0 uu sizeOf41 rfl nb rfl ?_)))))
 refine zn (zr (zp (Pure1.cast (v' := .int .i64 2) (.add rfl rfl) cgd) (zm rfl (zn ?_)))); intro a w h
 replace h : St 62 S w0 [(6, pB b6), (7, .int .i64 0), (8, pB b8), (9, pB b9), (10, pB b10), (25, .int .i64 2), (26, .bool true)] [(b10, bV (Qr pa pb pc) 44), (b9, bV (Qr (((-((Jt pc pb).2)) / (twP pa pb pc), ((Jt pc pb).1) / (twP pa pb pc))) (((-((Jt pa pc).2)) / (twP pa pb pc), ((Jt pa pc).1) / (twP pa pb pc))) (0, 0)) 44), (b8, bV (Zz (twP pa pb pc)) 41), (b6, bV (Qr (0, 0) (0, 0) (0, 0)) 44), (b5, bV (Zcp pc.1 pc.2) 43), (b4, bV (Zcp pb.1 pb.2) 43), (b3, bV (Zcp pa.1 pa.2) 43)] [] a w := by exact (h.drop sl).sub sA
 refine Zb ?_
 refine gC h (zS (zp (Pure1.cast (v' := .bool true) (.lss rfl rfl) cgd) (zn (zs ?_)))); clear h; intro a w h
 refine Zg h rfl ?_
 refine gC h (zk (zs (zb (zS (zm rfl (za rfl (zn (zs (yD Za [0, 1, 2, 3, 4, 5, 6, 7, 8, 9, 10, 11, 12] (Qy ⟨.inl rfl, .inl rfl, .inl rfl, .inl rfl, .inl rfl, .inl rfl, .inl rfl, .inl rfl, .inl rfl, .inl rfl, .inl rfl, .inr ⟨12, 43, _, _, _, rfl, rfl, by decide, _, Yw⟩, .inl rfl, trivial⟩) (ym rfl rfl (yp rfl (Pure1.cast (v' := .int .i64 4) (.add rfl rfl) cgd) (yp rfl (Pure1.cast (v' := .int .i64 1) (.binOp rfl rfl (fun _ => Yf _ _ _ _ _ dd)) cgd) (yp rfl (.indexAddr rfl rfl (Xp _ _)) (yd rfl rfl mr isAgg43 sizeOf43 Jp ?_)))))))))))))); clear h
 refine ym rfl rfl (yp rfl (Pure1.cast (v' := .int .i64 3) (.add rfl rfl) cgd) (yp rfl (Pure1.cast (v' := .int .i64 0) (.binOp rfl rfl (fun _ => Yf _ _ _ _ _ dd)) cgd) (yp rfl (.indexAddr rfl rfl (Yc _ _)) (yd rfl rfl mr isAgg43 sizeOf43 Xk ?_))))
 refine yv [_, _] rfl rfl call86 (Zd8 pb pa oo oo oo oo) ?_
 have hl38 := Ve pb pa
 have hl38 := Vd pb pa
 refine yz rfl Yw fun b12 => yt rfl rfl rfl Qq uu sizeOf43 rfl nb rfl ?_
 refine yn (zs (yD Za [0, 1, 2, 4, 3, 5, 6, 7, 8, 9, 10, 11] (Ze kk) (ym rfl rfl (yp rfl (.fA rfl Yx) (yd rfl rfl mr isAgg41 sizeOf41 Jh ?_)))))
 refine yd rfl rfl mr isAgg41 sizeOf41 Zl ?_
 refine yv [_] rfl rfl call93 (Zpi _) ?_
 have hl43 := Zc1 ((Jt pb pa).2)
 refine yv [_, _] rfl rfl call91 (Zec (-((Jt pb pa).2)) (twP pa pb pc) hT oo oo) ?_
 have hl45 := Vj (-((Jt pb pa).2)) (twP pa pb pc)
 refine ym rfl rfl (yp rfl (.eX rfl) (yp rfl (.eX rfl) (yp rfl (.indexAddr rfl rfl (Xo _ _)) (yp rfl (.fA rfl Yy) (yt rfl rfl rfl Ztz uu sizeOf41 rfl nb rfl ?_)))))
 refine yn (zr (zm rfl (zp (.fA rfl Yy) (zd rfl mr isAgg41 sizeOf41 Ji ?_))))
 refine zd rfl mr isAgg41 sizeOf41 Zl ?_
 refine zv [_, _] rfl call91 (Zec ((Jt pb pa).1) (twP pa pb pc) hT oo oo) ?_
 have hl55 := Vj ((Jt pb pa).1) (twP pa pb pc)
 refine zm rfl (zp (.eX rfl) (zp (.eX rfl) (zp (.indexAddr rfl rfl (Xo _ _)) (zp (.fA rfl Yx) (zt' rfl rfl Zty uu sizeOf41 rfl nb rfl ?_)))))
 refine zn (zr (zp (Pure1.cast (v' := .int .i64 3) (.add rfl rfl) cgd) (zm rfl (zn ?_)))); intro a w h
 replace h : St 62 S w0 [(6, pB b6), (7, .int .i64 0), (8, pB b8), (9, pB b9), (10, pB b10), (25, .int .i64 3), (26, .bool true)] [(b10, bV (Qr pa pb pc) 44), (b9, bV (Qr (((-((Jt pc pb).2)) / (twP pa pb pc), ((Jt pc pb).1) / (twP pa pb pc))) (((-((Jt pa pc).2)) / (twP pa pb pc), ((Jt pa pc).1) / (twP pa pb pc))) (((-((Jt pb pa).2)) / (twP pa pb pc), ((Jt pb pa).1) / (twP pa pb pc)))) 44), (b8, bV (Zz (twP pa pb pc)) 41), (b6, bV (Qr (0, 0) (0, 0) (0, 0)) 44), (b5, bV (Zcp pc.1 pc.2) 43), (b4, bV (Zcp pb.1 pb.2) 43), (b3, bV (Zcp pa.1 pa.2) 43)] [] a w := by exact (h.drop sl).sub sA
 refine Zb ?_
 refine gC h (zS (zp (Pure1.cast (v' := .bool false) (.lss rfl rfl) cgd) (zn (zs ?_)))); clear h; intro a w h
 refine Zf h rfl ?_
 refine gC h (ze (zS (zd rfl mr isAgg44 sizeOf44 Qt ?_)))
 refine zt' rfl rfl Vw uu sizeOf44 rfl nb rfl ?_; intro a w h
 refine gL h (za rfl (zn (zt ?_))); clear h; intro a w h
 refine Xw h (Qv h rfl (.cell rfl mr isAgg44 sizeOf44 Qt) (.tmp rfl)) ?_
 rfl
end
section
theorem Zxv (b off j : Nat) (h : j < 3) (w : World) : (Instr.indexAt 108 (.pointer (some ⟨b, off, none⟩)) (.int .i64 (j : Int))).run Tryz.prog w = .ok (.pointer (some ⟨b, off + j, none⟩)) w := by simpa using Zqp runUnderlying108 sizeOf3 b off j h w
theorem Zbr (b off : Nat) (w : World) : (Instr.indexAt 108 (.pointer (some ⟨b, off, none⟩)) (.int .i64 0)).run Tryz.prog w = .ok (.pointer (some ⟨b, off + 0, none⟩)) w := by
 simp [go_sem, Instr.indexAt]
theorem Zbq (b off : Nat) (w : World) : (Instr.indexAt 108 (.pointer (some ⟨b, off, none⟩)) (.int .i64 1)).run Tryz.prog w = .ok (.pointer (some ⟨b, off + 1, none⟩)) w := by
 simp [go_sem, Instr.indexAt]
theorem Zbp (b off : Nat) (w : World) : (Instr.indexAt 108 (.pointer (some ⟨b, off, none⟩)) (.int .i64 2)).run Tryz.prog w = .ok (.pointer (some ⟨b, off + 2, none⟩)) w := by
 simp [go_sem, Instr.indexAt]
theorem Zbg (x0 : Int) (x1 : Int) (x2 : Int) (x3_0 : Value) (x3_1 : Value) (x3_2 : Value) (x3_3 : Value) (x3_4 : Value) (w : World) : (Instr.build 107 [(0, .int .i64 x0), (1, .int .i64 x1), (2, .int .i64 x2), (3, .agg #[x3_0, x3_1, x3_2, x3_3, x3_4])].toArray).run Tryz.prog w = .ok (.agg #[.int .i64 x0, .int .i64 x1, .int .i64 x2, x3_0, x3_1, x3_2, x3_3, x3_4]) w := by simp [go_sem]
theorem Yr {c0 c1 c2 c3 c4 c5 c6 c7 v0 v1 v2 v3 v4 v5 v6 v7 : Value} : Qi #[c0, c1, c2, c3, c4, c5, c6, c7] 0 [v0, v1, v2, v3, v4, v5, v6, v7] = #[v0, v1, v2, v3, v4, v5, v6, v7] := by kernel_rfl
theorem Zr1 {c0 c1 c2 c3 c4 c5 c6 c7 : Value} : Qf true 8 #[c0, c1, c2, c3, c4, c5, c6, c7] 0 = some (.agg #[c0, c1, c2, c3, c4, c5, c6, c7]) := rfl
theorem Zcd (x0 : Int) (w : World) : (Instr.buildSlice 215 1 [(0, .int .i64 x0)].toArray).run Tryz.prog w = .ok (.slice (some ⟨w.heap.size, 0, none⟩) 1 1) (w.alloc (.cells #[.int .i64 x0] 3 (0, 0))) := by
 simp [go_sem]
theorem Zce (x0_0 : Value) (x0_1 : Value) (x0_2 : Value) (x0_3 : Value) (x0_4 : Value) (x0_5 : Value) (x0_6 : Value) (x0_7 : Value) (w : World) : (Instr.buildSlice 103 1 [(0, .agg #[x0_0, x0_1, x0_2, x0_3, x0_4, x0_5, x0_6, x0_7])].toArray).run Tryz.prog w = .ok (.slice (some ⟨w.heap.size, 0, none⟩) 1 1) (w.alloc (.cells #[x0_0, x0_1, x0_2, x0_3, x0_4, x0_5, x0_6, x0_7] 107 (0, 0))) := by
 simp [go_sem]
theorem Ze0 (x0_0 : Value) (x0_1 : Value) (x0_2 : Value) (x0_3 : Value) (x0_4 : Value) (x0_5 : Value) (x0_6 : Value) (x0_7 : Value) (x1_0 : Value) (x1_1 : Value) (x1_2 : Value) (x1_3 : Value) (x1_4 : Value) (x1_5 : Value) (x1_6 : Value) (x1_7 : Value) (w : World) : (Instr.buildSlice 103 2 [(0, .agg #[x0_0, x0_1, x0_2, x0_3, x0_4, x0_5, x0_6, x0_7]), (1, .agg #[x1_0, x1_1, x1_2, x1_3, x1_4, x1_5, x1_6, x1_7])].toArray).run Tryz.prog w = .ok (.slice (some ⟨w.heap.size, 0, none⟩) 2 2) (w.alloc (.cells #[x0_0, x0_1, x0_2, x0_3, x0_4, x0_5, x0_6, x0_7, x1_0, x1_1, x1_2, x1_3, x1_4, x1_5, x1_6, x1_7] 107 (0, 0))) := by
 simp [go_sem]
theorem Zxy (b off : Nat) (w : World) : (Instr.indexAt 164 (.pointer (some ⟨b, off, none⟩)) (.int .i64 0)).run Tryz.prog w = .ok (.pointer (some ⟨b, off + 0, none⟩)) w := by
 simp [go_sem, Instr.indexAt]
theorem Zjr (b off : Nat) (w : World) : (Instr.indexAt 163 (.pointer (some ⟨b, off, none⟩)) (.int .i64 0)).run Tryz.prog w = .ok (.pointer (some ⟨b, off + 0, none⟩)) w := by
 simp [go_sem, Instr.indexAt]
theorem Zjq (b off : Nat) (w : World) : (Instr.indexAt 163 (.pointer (some ⟨b, off, none⟩)) (.int .i64 1)).run Tryz.prog w = .ok (.pointer (some ⟨b, off + 1, none⟩)) w := by
 simp [go_sem, Instr.indexAt]
theorem Zxx (b off : Nat) (w : World) : (Instr.indexAt 164 (.pointer (some ⟨b, off, none⟩)) (.int .i64 1)).run Tryz.prog w = .ok (.pointer (some ⟨b, off + 2, none⟩)) w := by
 simp [go_sem, Instr.indexAt]
theorem Zxw (b off : Nat) (w : World) : (Instr.indexAt 164 (.pointer (some ⟨b, off, none⟩)) (.int .i64 2)).run Tryz.prog w = .ok (.pointer (some ⟨b, off + 4, none⟩)) w := by
 simp [go_sem, Instr.indexAt]
def pw0 : Pw := ⟨0, 0, 0, 0⟩
abbrev Qj (p : Pw) : Value := .agg #[.int .i64 ((p.i : Nat) : Int), .int .i64 ((p.j : Nat) : Int), .int .i64 ((p.k : Nat) : Int), .int .u64 (Zae p.c.num.natAbs), .string (Kd p.c.num.natAbs), .bool (decide (p.c.num < 0)), .int .u64 (Zae (p.c.den - 1)), .string (Kd (p.c.den - 1))]
theorem Zas (w : World) : (zeroValue 107).run Tryz.prog w = .ok (Qj pw0) w := zeroValue107 w
theorem Zrk (w : World) : (zeroValue 108).run Tryz.prog w = .ok (.agg #[.int .i64 ((0 : Nat) : Int), .int .i64 ((0 : Nat) : Int), .int .i64 ((0 : Nat) : Int)]) w := zeroValue108 w
theorem Zhm {q : List Pw} {k : Nat} (h : k < q.length) : (List.map Qj q).getD k undef = Qj (q.getD k pw0) := by simp [List.getD, h]
theorem Zek (b : Nat) (l : List Pw) {i : Nat} (h : i < l.length) : (slp b (l.take (i + 1))).length = (slp b (l.take i)).length + (if exP (l.getD i pw0) b ≠ 0 then 1 else 0) := by
 rw [List.take_add_one, List.getElem?_eq_getElem h, Option.toList_some]
 unfold slp
 rw [List.filter_append, List.map_append, List.length_append]
 have e : l.getD i pw0 = l[i] := by simp [List.getD, h]
 rw [e]
 by_cases h2 : exP l[i] b ≠ 0
 · rw [if_pos h2, List.filter_cons, if_pos (by simpa using h2)]; simp
 · rw [if_neg h2, List.filter_cons, if_neg (by simpa using h2)]; simp
theorem Zpv (b : Nat) (l : List Pw) {i : Nat} (h : i < l.length) (h2 : exP (l.getD i pw0) b ≠ 0) : (slp b (l.take i)).length < ((slp b l).map Qj).length ∧ ((slp b l).map Qj).getD (slp b (l.take i)).length undef = Qj (dnP b (l.getD i pw0)) := by
 have e : l.getD i pw0 = l[i] := by simp [List.getD, h]
 rw [e] at h2 ⊢
 have hl : l = l.take i ++ (l[i] :: l.drop (i + 1)) := by rw [← List.drop_eq_getElem_cons h, List.take_append_drop]
 have hs : slp b l = slp b (l.take i) ++ (dnP b l[i] :: slp b (l.drop (i + 1))) := by
  conv => lhs; rw [hl]
  unfold slp
  rw [List.filter_append, List.map_append, List.filter_cons, if_pos (by simpa using h2)]
  rfl
 rw [hs]
 constructor
 · simp
 ·
  rw [List.map_append, List.map_cons, List.getD, List.getElem?_append_right ss]
  simp
def OkPw (l : List Pw) : Prop := l.length ≤ 10 ∧ ∀ x ∈ l, x.i ≤ 4 ∧ x.j ≤ 4 ∧ x.k ≤ 4 ∧ Zw x.c ≤ 100
theorem OkPw.slp {l : List Pw} (h : ∀ x ∈ l, x.i ≤ 4 ∧ x.j ≤ 4 ∧ x.k ≤ 4 ∧ Zw x.c ≤ 50) (hl : l.length ≤ 10) (b : Nat) : OkPw (slp b l) := by
 refine ⟨?_, fun x hx => ?_⟩
 · unfold YthcjdeklpegceaaGreatDoor.slp; rw [List.length_map]; exact Nat.le_trans (List.length_filter_le _ _) hl
 ·
  unfold YthcjdeklpegceaaGreatDoor.slp at hx
  obtain ⟨y, hy, rfl⟩ := List.mem_map.1 hx
  obtain ⟨h1, h2, h3, h4⟩ := h y (List.mem_filter.1 hy).1
  have c := fun n (hn : n ≤ 4) => Nat.le_trans (Zo y.c (((n : Nat) : Int) : Rat)) (Nat.add_le_add h4 (Zq ((n : Nat) : Int) oo oo))
  match b with
  | 0 => exact ⟨by simp only [dnP]; omega, by simp only [dnP]; omega, by simp only [dnP]; omega, Nat.le_trans (c y.i h1) dd⟩
  | 1 => exact ⟨by simp only [dnP]; omega, by simp only [dnP]; omega, by simp only [dnP]; omega, Nat.le_trans (c y.j h2) dd⟩
  | _ + 2 => exact ⟨by simp only [dnP]; omega, by simp only [dnP]; omega, by simp only [dnP]; omega, Nat.le_trans (c y.k h3) dd⟩
theorem Znk : Yd Tryz.prog 43 [.int .i64 1] (.int .i64 3) := by
 refine fn_intro func43 rfl ntmps43 nb ?_
 intro S w0 a hS h
 refine gC h (zS (za rfl (zn (zs (zS (zm rfl (zn (zb (zS (zp (Pure1.cast (v' := .bool true) (.eql rfl rfl) cgd) (za rfl (zn ?_)))))))))))); clear h; intro a w h
 refine cW ?_
 refine Zg h rfl ?_
 refine gC h (zS (za rfl (zn (zt ?_)))); clear h; intro a w h
 exact Zed h
theorem Zrh : Yd Tryz.prog 43 [.int .i64 2] (.int .i64 6) := by
 refine fn_intro func43 rfl ntmps43 nb ?_
 intro S w0 a hS h
 refine gC h (zS (za rfl (zn (zs (zS (zm rfl (zn (zb (zS (zp (Pure1.cast (v' := .bool false) (.eql rfl rfl) cgd) (za rfl (zn ?_)))))))))))); clear h; intro a w h
 refine cW ?_
 refine Zf h rfl ?_
 refine gC h (zS (zp (Pure1.cast (v' := .bool true) (.eql rfl rfl) cgd) (za rfl (zn ?_)))); clear h; intro a w h
 refine cW ?_
 refine Zg h rfl ?_
 refine gC h (zS (za rfl (zn (zt ?_)))); clear h; intro a w h
 exact Zed h
theorem Znh (n : Nat) (hn : n < 3) : Yd Tryz.prog 101 [.int .i64 1, .int .i64 ((n : Nat) : Int)] (.bool true) := by
 refine fn_intro func101 rfl ntmps101 nb ?_
 intro S w0 a hS h
 refine gC h (zS (za rfl (zn (zS (zm rfl (zp (.geq rfl rfl) ?_)))))); clear h; intro a w h
 refine Jc h (fun hc6 h => ?_) (fun hc6 h => (by exfalso; have := of_decide_eq_false hc6; omega))
 refine gL h (zm rfl (zq 7 rfl rfl (.move rfl) (zq 7 rfl rfl (.move rfl) ?_))); clear h; intro a w h
 refine Qe 7 h rfl rfl (Zdw h (vs := [_]) rfl call43 (Znk) dd ?_); clear h; intro a w h
 refine gL h (zq 7 rfl rfl (.lss rfl rfl) ?_); clear h; intro a w h
 refine Jc h (fun hc11 h => ?_) (fun hc11 h => (by exfalso; have := of_decide_eq_false hc11; omega))
 refine gL h (zp (.pickT rfl rfl) (za rfl (zn (zt ?_)))); clear h; intro a w h
 exact Zed h
theorem Zfn (n : Nat) (hn : n < 6) : Yd Tryz.prog 101 [.int .i64 2, .int .i64 ((n : Nat) : Int)] (.bool true) := by
 refine fn_intro func101 rfl ntmps101 nb ?_
 intro S w0 a hS h
 refine gC h (zS (za rfl (zn (zS (zm rfl (zp (.geq rfl rfl) ?_)))))); clear h; intro a w h
 refine Jc h (fun hc6 h => ?_) (fun hc6 h => (by exfalso; have := of_decide_eq_false hc6; omega))
 refine gL h (zm rfl (zq 7 rfl rfl (.move rfl) (zq 7 rfl rfl (.move rfl) ?_))); clear h; intro a w h
 refine Qe 7 h rfl rfl (Zdw h (vs := [_]) rfl call43 (Zrh) dd ?_); clear h; intro a w h
 refine gL h (zq 7 rfl rfl (.lss rfl rfl) ?_); clear h; intro a w h
 refine Jc h (fun hc11 h => ?_) (fun hc11 h => (by exfalso; have := of_decide_eq_false hc11; omega))
 refine gL h (zp (.pickT rfl rfl) (za rfl (zn (zt ?_)))); clear h; intro a w h
 exact Zed h
theorem Ztw (l : List Nat) {i : Nat} (h : i < l.length) : l.take (i + 1) = l.take i ++ [l.getD i 0] := by rw [List.take_add_one, List.getElem?_eq_getElem h]; simp [List.getD, h]
def cnt3 (l : List Nat) : List Nat := [l.count 0, l.count 1, l.count 2]
theorem Zym (l : List Nat) {i : Nat} (h : i < l.length) (h3 : l.getD i 0 < 3) : (cnt3 (l.take i)).set (l.getD i 0) ((cnt3 (l.take i)).getD (l.getD i 0) 0 + 1) = cnt3 (l.take (i + 1)) := by
 rw [Ztw l h]
 generalize l.getD i 0 = x at h3
 have hx : x = 0 ∨ x = 1 ∨ x = 2 := oo
 unfold cnt3
 rcases hx with rfl | rfl | rfl <;> simp [List.count_append]
theorem Zby (c : Int) (l : List Nat) (ad : Option Addr) (cc : Nat) (hl : ∀ x ∈ l, x < 3) (hn : l.length ≤ 10) (h0 : -1000 ≤ c) (h1 : c ≤ 1000) : Zaq Tryz.prog 102 [.int .i64 c, .slice ad l.length cc] [Row ad (List.map Zf5 l)] (Qj (Jq c l)) := by
 refine fn_intro func102 rfl ntmps102 nb ?_
 intro S w0 a hS h
 refine gC h (zS (zz Zas fun b4 => zn (zS (zz Zrk fun b5 => zn (zs (zS (zm rfl (zp (.builtin [_] rfl (Zd1 _ _ _)) (zm rfl (zn (zb ?_))))))))))); clear h; intro a w h
 have hc3 : cnt3 [] = [0, 0, 0] := rfl
 refine Zt (fun (i : Nat) a w => i ≤ l.length ∧ St 29 S w0 [(0, .int .i64 c), (4, pB b4), (5, pB b5), (8, .slice ad l.length cc), (9, nI l.length), (10, nI i)] [(b5, .cells (List.map Zf5 (cnt3 (l.take i))).toArray 108 (0, 0)), (b4, bV (Qj (pw0)) 107)] [Row ad (List.map Zf5 l)] a w) (fun i => l.length - i) 0 (⟨Nat.zero_le _, by exact (h).sub sA⟩) ?_; clear h
 rintro i a w ⟨hi_i, h⟩
 refine gC h (zS (zp (.lss rfl rfl) (zn (zs ?_)))); clear h; intro a w h
 refine Zh h rfl (fun hc11 => ?_) (fun hc11 => ?_)
 ·
  skip
  have hlt_i : i < l.length := dT hc11
  obtain ⟨B_ad, O_ad, rfl⟩ := h.row_addr (ad := ad) (M := List.map Zf5 l) mm nF
  have hx3 := hl _ (getD_mem l (d := 0) hlt_i)
  have hcn : (cnt3 (l.take i)).getD (l.getD i 0) 0 ≤ 10 := by
   have ht : (l.take i).length ≤ 10 := by rw [List.length_take]; omega
   have hb := fun x => Nat.le_trans (List.count_le_length (a := x) (l := l.take i)) ht
   have hx : l.getD i 0 = 0 ∨ l.getD i 0 = 1 ∨ l.getD i 0 = 2 := oo
   unfold cnt3
   rcases hx with e | e | e <;> rw [e] <;> first | exact hb 0 | exact hb 1 | exact hb 2
  have hcl : (cnt3 (l.take i)).length = 3 := rfl
  have hx4 : l[i]?.getD 0 < 3 := by simpa [List.getD] using hx3
  refine gC h (zk (zs (zb (zS (zp (.indexAddr rfl rfl (Zxz _ _ _ _ _ oo)) (zD rfl mm (by rw [List.length_map]; omega) isAgg3 sizeOf3 (Zv (enc := Zf5) (l := l) 0 oo) (.inr rfl) ?_))))))
  refine za rfl (zn (zr (zm rfl (zp (.indexAddr rfl rfl (Zxv _ _ _ oo)) (zd rfl mm isAgg3 sizeOf3 ((congrArg _ (Nat.zero_add _)).trans (Zv (enc := Zf5) (l := (cnt3 (l.take i))) 0 (by show _ < 3; omega))) ?_)))))
  refine zp (.pN (((cnt3 (l.take i)).getD (l.getD i 0) 0) + 1) (.add rfl rfl)) (zp (.indexAddr rfl rfl (Zxv _ _ _ oo)) (zt' rfl rfl ((congrArg (fun z => Qi _ z _) (Nat.zero_add _)).trans (Gj (enc := Zf5) (cnt3 (l.take i)) (l.getD i 0) (((cnt3 (l.take i)).getD (l.getD i 0) 0) + 1))) uu sizeOf3 rfl (by simp; show _ < 3; omega) rfl ?_))
  refine zn (zr (zp (.pN (i + 1) (.add rfl rfl)) (zm rfl (zn ?_)))); intro a w h
  rw [Zym l hlt_i hx3] at h
  exact ⟨i + 1, ⟨oo, (h.factsSub (by simp)).sub sA⟩, oo⟩
 ·
  skip
  have heq_i : l.length = i := dF hc11
  subst heq_i
  rw [List.take_length] at h
  have hcl2 : (cnt3 l).length = 3 := rfl
  refine gC h (ze (zs (yD Za [0, 1, 2, 3, 4, 5, 6, 7, 8, 9] (Ze kk) (yp rfl (.indexAddr rfl rfl (Zbr _ _)) (yd rfl rfl mm isAgg3 sizeOf3 ((congrArg _ (Nat.zero_add _)).trans (Zv (enc := Zf5) (l := (cnt3 (l))) 0 oo)) ?_))))); clear h
  refine yp rfl (.indexAddr rfl rfl (Zbq _ _)) (yd rfl rfl mm isAgg3 sizeOf3 ((congrArg _ (Nat.zero_add _)).trans (Zv (enc := Zf5) (l := (cnt3 (l))) 0 oo)) ?_)
  refine yp rfl (.indexAddr rfl rfl (Zbp _ _)) (yd rfl rfl mm isAgg3 sizeOf3 ((congrArg _ (Nat.zero_add _)).trans (Zv (enc := Zf5) (l := (cnt3 (l))) 0 oo)) ?_)
  refine ym rfl rfl (yv [_] rfl rfl call21 (Ki _ oo oo) ?_)
  have hl27 := Zq (c) oo oo
  refine yp rfl (.build [(_, _), (_, _), (_, _), (_, _)] rfl (Zbg _ _ _ _ _ _ _ _)) (yt rfl rfl rfl Yr uu sizeOf107 rfl nb rfl ?_)
  refine yn (zt ?_); intro a w h
  refine Xw h (Zk h rfl (.cell rfl mr isAgg107 sizeOf107 Zr1)) ?_
  rfl
abbrev SideF : Qm := Row (some ⟨0, 0, none⟩) [.int .i64 1, .int .i64 2, .int .i64 2, .int .i64 0, .int .i64 0, .int .i64 1]
theorem Zlv : Ctr Tryz.prog 44 [.int .i64 1, .int .i64 0] [SideF] (fun v Ψ => ∃ ad' c', v = .tuple #[.slice ad' (Qc 1 0).length c', .int .i64 0] ∧ Ψ = [Row ad' (cellsOf Qj (Qc 1 0))]) := by
 refine fn_intro func44 rfl ntmps44 nb ?_
 intro S w0 a hS h
 refine gC h (zS (za rfl (za rfl (zn (zs (zb (zS (zm rfl (zm rfl (zv [_, _] rfl call101 (Znh 0 dd) (zp (Pure1.cast (v' := .bool false) (.unOp rfl (Vt _)) cgd) (za rfl (zn ?_))))))))))))); clear h; intro a w h
 refine cW ?_
 refine Zf h rfl ?_
 refine gC h (zS (zm rfl (zp (Pure1.cast (v' := .bool true) (.eql rfl rfl) cgd) (za rfl (zn ?_))))); clear h; intro a w h
 refine cW ?_
 refine Zg h rfl ?_
 refine gC h (zS (zm rfl (zB [(_, _)] rfl (Zcd _) fun b16 => ?_))); clear h; intro a w h
 replace h := h.shareAll hS (List.map Zf5 ([0])) rfl
 refine gL h (zw [_, _] rfl call102 (Zby 1 [0] _ _ dd dd dd dd) (zB [(_, _)] rfl (Zce _ _ _ _ _ _ _ _) fun b18 => ?_)); clear h; intro a w h
 replace h := h.shareAll hS (cellsOf Qj ([Jq 1 [0]])) rfl
 refine gL h (za rfl (za rfl (zn (zt ?_)))); clear h; intro a w h
 refine Xq (Ψ := [Row (some ⟨b18, 0, none⟩) (cellsOf Qj [Jq 1 [0]])]) h (Qv h rfl (.tmp rfl) (.tmp rfl)) ?_ ss
 exact ⟨some ⟨b18, 0, none⟩, 1, rfl, rfl⟩
theorem Zlu : Ctr Tryz.prog 44 [.int .i64 1, .int .i64 1] [SideF] (fun v Ψ => ∃ ad' c', v = .tuple #[.slice ad' (Qc 1 1).length c', .int .i64 0] ∧ Ψ = [Row ad' (cellsOf Qj (Qc 1 1))]) := by
 refine fn_intro func44 rfl ntmps44 nb ?_
 intro S w0 a hS h
 refine gC h (zS (za rfl (za rfl (zn (zs (zb (zS (zm rfl (zm rfl (zv [_, _] rfl call101 (Znh 1 dd) (zp (Pure1.cast (v' := .bool false) (.unOp rfl (Vt _)) cgd) (za rfl (zn ?_))))))))))))); clear h; intro a w h
 refine cW ?_
 refine Zf h rfl ?_
 refine gC h (zS (zm rfl (zp (Pure1.cast (v' := .bool true) (.eql rfl rfl) cgd) (za rfl (zn ?_))))); clear h; intro a w h
 refine cW ?_
 refine Zg h rfl ?_
 refine gC h (zS (zm rfl (zB [(_, _)] rfl (Zcd _) fun b16 => ?_))); clear h; intro a w h
 replace h := h.shareAll hS (List.map Zf5 ([1])) rfl
 refine gL h (zw [_, _] rfl call102 (Zby 1 [1] _ _ dd dd dd dd) (zB [(_, _)] rfl (Zce _ _ _ _ _ _ _ _) fun b18 => ?_)); clear h; intro a w h
 replace h := h.shareAll hS (cellsOf Qj ([Jq 1 [1]])) rfl
 refine gL h (za rfl (za rfl (zn (zt ?_)))); clear h; intro a w h
 refine Xq (Ψ := [Row (some ⟨b18, 0, none⟩) (cellsOf Qj [Jq 1 [1]])]) h (Qv h rfl (.tmp rfl) (.tmp rfl)) ?_ ss
 exact ⟨some ⟨b18, 0, none⟩, 1, rfl, rfl⟩
theorem Zlt : Ctr Tryz.prog 44 [.int .i64 1, .int .i64 2] [SideF] (fun v Ψ => ∃ ad' c', v = .tuple #[.slice ad' (Qc 1 2).length c', .int .i64 0] ∧ Ψ = [Row ad' (cellsOf Qj (Qc 1 2))]) := by
 refine fn_intro func44 rfl ntmps44 nb ?_
 intro S w0 a hS h
 refine gC h (zS (za rfl (za rfl (zn (zs (zb (zS (zm rfl (zm rfl (zv [_, _] rfl call101 (Znh 2 dd) (zp (Pure1.cast (v' := .bool false) (.unOp rfl (Vt _)) cgd) (za rfl (zn ?_))))))))))))); clear h; intro a w h
 refine cW ?_
 refine Zf h rfl ?_
 refine gC h (zS (zm rfl (zp (Pure1.cast (v' := .bool true) (.eql rfl rfl) cgd) (za rfl (zn ?_))))); clear h; intro a w h
 refine cW ?_
 refine Zg h rfl ?_
 refine gC h (zS (zm rfl (zB [(_, _)] rfl (Zcd _) fun b16 => ?_))); clear h; intro a w h
 replace h := h.shareAll hS (List.map Zf5 ([2])) rfl
 refine gL h (zw [_, _] rfl call102 (Zby 1 [2] _ _ dd dd dd dd) (zB [(_, _)] rfl (Zce _ _ _ _ _ _ _ _) fun b18 => ?_)); clear h; intro a w h
 replace h := h.shareAll hS (cellsOf Qj ([Jq 1 [2]])) rfl
 refine gL h (za rfl (za rfl (zn (zt ?_)))); clear h; intro a w h
 refine Xq (Ψ := [Row (some ⟨b18, 0, none⟩) (cellsOf Qj [Jq 1 [2]])]) h (Qv h rfl (.tmp rfl) (.tmp rfl)) ?_ ss
 exact ⟨some ⟨b18, 0, none⟩, 1, rfl, rfl⟩
theorem Zls : Ctr Tryz.prog 44 [.int .i64 2, .int .i64 0] [SideF] (fun v Ψ => ∃ ad' c', v = .tuple #[.slice ad' (Qc 2 0).length c', .int .i64 0] ∧ Ψ = [Row ad' (cellsOf Qj (Qc 2 0))]) := by
 refine fn_intro func44 rfl ntmps44 nb ?_
 intro S w0 a hS h
 refine gC h (zS (za rfl (za rfl (zn (zs (zb (zS (zm rfl (zm rfl (zv [_, _] rfl call101 (Zfn 0 dd) (zp (Pure1.cast (v' := .bool false) (.unOp rfl (Vt _)) cgd) (za rfl (zn ?_))))))))))))); clear h; intro a w h
 refine cW ?_
 refine Zf h rfl ?_
 refine gC h (zS (zm rfl (zp (Pure1.cast (v' := .bool false) (.eql rfl rfl) cgd) (za rfl (zn ?_))))); clear h; intro a w h
 refine cW ?_
 refine Zf h rfl ?_
 refine gC h (zS (zm rfl (zp (Pure1.cast (v' := .bool true) (.lss rfl rfl) cgd) (za rfl (zn ?_))))); clear h; intro a w h
 refine cW ?_
 refine Zg h rfl ?_
 refine gC h (zS (zm rfl (zm rfl (zB [(_, _), (_, _)] rfl (Kh _ _) fun b24 => ?_)))); clear h; intro a w h
 replace h := h.shareAll hS (List.map Zf5 ([0, 0])) rfl
 refine gL h (zw [_, _] rfl call102 (Zby 2 [0, 0] _ _ dd dd dd dd) (zm rfl (zB [(_, _)] rfl (Zcd _) fun b27 => ?_))); clear h; intro a w h
 replace h := h.shareAll hS (List.map Zf5 ([0])) rfl
 refine gL h (zw [_, _] rfl call102 (Zby (-1) [0] _ _ dd dd dd dd) (zB [(_, _), (_, _)] rfl (Ze0 _ _ _ _ _ _ _ _ _ _ _ _ _ _ _ _) fun b29 => ?_)); clear h; intro a w h
 replace h := h.shareAll hS (cellsOf Qj ([Jq 2 [0, 0], Jq (-1) [0]])) rfl
 refine gL h (za rfl (za rfl (zn (zt ?_)))); clear h; intro a w h
 refine Xq (Ψ := [Row (some ⟨b29, 0, none⟩) (cellsOf Qj [Jq 2 [0, 0], Jq (-1) [0]])]) h (Qv h rfl (.tmp rfl) (.tmp rfl)) ?_ ss
 exact ⟨some ⟨b29, 0, none⟩, 2, rfl, rfl⟩
theorem Zlr : Ctr Tryz.prog 44 [.int .i64 2, .int .i64 1] [SideF] (fun v Ψ => ∃ ad' c', v = .tuple #[.slice ad' (Qc 2 1).length c', .int .i64 0] ∧ Ψ = [Row ad' (cellsOf Qj (Qc 2 1))]) := by
 refine fn_intro func44 rfl ntmps44 nb ?_
 intro S w0 a hS h
 refine gC h (zS (za rfl (za rfl (zn (zs (zb (zS (zm rfl (zm rfl (zv [_, _] rfl call101 (Zfn 1 dd) (zp (Pure1.cast (v' := .bool false) (.unOp rfl (Vt _)) cgd) (za rfl (zn ?_))))))))))))); clear h; intro a w h
 refine cW ?_
 refine Zf h rfl ?_
 refine gC h (zS (zm rfl (zp (Pure1.cast (v' := .bool false) (.eql rfl rfl) cgd) (za rfl (zn ?_))))); clear h; intro a w h
 refine cW ?_
 refine Zf h rfl ?_
 refine gC h (zS (zm rfl (zp (Pure1.cast (v' := .bool true) (.lss rfl rfl) cgd) (za rfl (zn ?_))))); clear h; intro a w h
 refine cW ?_
 refine Zg h rfl ?_
 refine gC h (zS (zm rfl (zm rfl (zB [(_, _), (_, _)] rfl (Kh _ _) fun b24 => ?_)))); clear h; intro a w h
 replace h := h.shareAll hS (List.map Zf5 ([1, 1])) rfl
 refine gL h (zw [_, _] rfl call102 (Zby 2 [1, 1] _ _ dd dd dd dd) (zm rfl (zB [(_, _)] rfl (Zcd _) fun b27 => ?_))); clear h; intro a w h
 replace h := h.shareAll hS (List.map Zf5 ([1])) rfl
 refine gL h (zw [_, _] rfl call102 (Zby (-1) [1] _ _ dd dd dd dd) (zB [(_, _), (_, _)] rfl (Ze0 _ _ _ _ _ _ _ _ _ _ _ _ _ _ _ _) fun b29 => ?_)); clear h; intro a w h
 replace h := h.shareAll hS (cellsOf Qj ([Jq 2 [1, 1], Jq (-1) [1]])) rfl
 refine gL h (za rfl (za rfl (zn (zt ?_)))); clear h; intro a w h
 refine Xq (Ψ := [Row (some ⟨b29, 0, none⟩) (cellsOf Qj [Jq 2 [1, 1], Jq (-1) [1]])]) h (Qv h rfl (.tmp rfl) (.tmp rfl)) ?_ ss
 exact ⟨some ⟨b29, 0, none⟩, 2, rfl, rfl⟩
theorem Zlq : Ctr Tryz.prog 44 [.int .i64 2, .int .i64 2] [SideF] (fun v Ψ => ∃ ad' c', v = .tuple #[.slice ad' (Qc 2 2).length c', .int .i64 0] ∧ Ψ = [Row ad' (cellsOf Qj (Qc 2 2))]) := by
 refine fn_intro func44 rfl ntmps44 nb ?_
 intro S w0 a hS h
 refine gC h (zS (za rfl (za rfl (zn (zs (zb (zS (zm rfl (zm rfl (zv [_, _] rfl call101 (Zfn 2 dd) (zp (Pure1.cast (v' := .bool false) (.unOp rfl (Vt _)) cgd) (za rfl (zn ?_))))))))))))); clear h; intro a w h
 refine cW ?_
 refine Zf h rfl ?_
 refine gC h (zS (zm rfl (zp (Pure1.cast (v' := .bool false) (.eql rfl rfl) cgd) (za rfl (zn ?_))))); clear h; intro a w h
 refine cW ?_
 refine Zf h rfl ?_
 refine gC h (zS (zm rfl (zp (Pure1.cast (v' := .bool true) (.lss rfl rfl) cgd) (za rfl (zn ?_))))); clear h; intro a w h
 refine cW ?_
 refine Zg h rfl ?_
 refine gC h (zS (zm rfl (zm rfl (zB [(_, _), (_, _)] rfl (Kh _ _) fun b24 => ?_)))); clear h; intro a w h
 replace h := h.shareAll hS (List.map Zf5 ([2, 2])) rfl
 refine gL h (zw [_, _] rfl call102 (Zby 2 [2, 2] _ _ dd dd dd dd) (zm rfl (zB [(_, _)] rfl (Zcd _) fun b27 => ?_))); clear h; intro a w h
 replace h := h.shareAll hS (List.map Zf5 ([2])) rfl
 refine gL h (zw [_, _] rfl call102 (Zby (-1) [2] _ _ dd dd dd dd) (zB [(_, _), (_, _)] rfl (Ze0 _ _ _ _ _ _ _ _ _ _ _ _ _ _ _ _) fun b29 => ?_)); clear h; intro a w h
 replace h := h.shareAll hS (cellsOf Qj ([Jq 2 [2, 2], Jq (-1) [2]])) rfl
 refine gL h (za rfl (za rfl (zn (zt ?_)))); clear h; intro a w h
 refine Xq (Ψ := [Row (some ⟨b29, 0, none⟩) (cellsOf Qj [Jq 2 [2, 2], Jq (-1) [2]])]) h (Qv h rfl (.tmp rfl) (.tmp rfl)) ?_ ss
 exact ⟨some ⟨b29, 0, none⟩, 2, rfl, rfl⟩
theorem Zlp : Ctr Tryz.prog 44 [.int .i64 2, .int .i64 3] [SideF] (fun v Ψ => ∃ ad' c', v = .tuple #[.slice ad' (Qc 2 3).length c', .int .i64 0] ∧ Ψ = [Row ad' (cellsOf Qj (Qc 2 3))]) := by
 refine fn_intro func44 rfl ntmps44 nb ?_
 intro S w0 a hS h
 refine gC h (zS (za rfl (za rfl (zn (zs (zb (zS (zm rfl (zm rfl (zv [_, _] rfl call101 (Zfn 3 dd) (zp (Pure1.cast (v' := .bool false) (.unOp rfl (Vt _)) cgd) (za rfl (zn ?_))))))))))))); clear h; intro a w h
 refine cW ?_
 refine Zf h rfl ?_
 refine gC h (zS (zm rfl (zp (Pure1.cast (v' := .bool false) (.eql rfl rfl) cgd) (za rfl (zn ?_))))); clear h; intro a w h
 refine cW ?_
 refine Zf h rfl ?_
 refine gC h (zS (zm rfl (zp (Pure1.cast (v' := .bool false) (.lss rfl rfl) cgd) (za rfl (zn ?_))))); clear h; intro a w h
 refine cW ?_
 refine Zf h rfl ?_
 refine gC h (zk (zS (zm rfl (zp (Pure1.cast (v' := .int .i64 0) (.sub rfl rfl) cgd) (zp (.indexAddr rfl rfl (Zxy _ _)) (zD (b := 0) (off := 0) (j := 0) (M := [.int .i64 1, .int .i64 2, .int .i64 2, .int .i64 0, .int .i64 0, .int .i64 1]) (v := .agg #[.int .i64 1, .int .i64 2]) rfl List.mem_cons_self dd isAgg163 sizeOf163 rfl (.inl rfl) ?_))))))
 refine zz zeroValue163 fun b6 => zt' rfl rfl Jd uu sizeOf163 rfl nb rfl ?_
 refine zn (zS (zp (.indexAddr rfl rfl (Zjr _ _)) (zd rfl mr isAgg3 sizeOf3 Gd ?_)))
 refine zp (.indexAddr rfl rfl (Zjq _ _)) (zd rfl mr isAgg3 sizeOf3 Gv ?_)
 refine zB [(_, _), (_, _)] rfl (Kh _ _) fun b38 => ?_; intro a w h
 replace h := h.shareAll hS (List.map Zf5 ([1, 2])) rfl
 refine gL h (zw [_, _] rfl call102 (Zby 4 [1, 2] _ _ dd dd dd dd) (zB [(_, _)] rfl (Zce _ _ _ _ _ _ _ _) fun b40 => ?_)); clear h; intro a w h
 replace h := h.shareAll hS (cellsOf Qj ([Jq 4 [1, 2]])) rfl
 refine gL h (za rfl (za rfl (zn (zt ?_)))); clear h; intro a w h
 refine Xq (Ψ := [Row (some ⟨b40, 0, none⟩) (cellsOf Qj [Jq 4 [1, 2]])]) h (Qv h rfl (.tmp rfl) (.tmp rfl)) ?_ ss
 exact ⟨some ⟨b40, 0, none⟩, 1, rfl, rfl⟩
theorem Zlo : Ctr Tryz.prog 44 [.int .i64 2, .int .i64 4] [SideF] (fun v Ψ => ∃ ad' c', v = .tuple #[.slice ad' (Qc 2 4).length c', .int .i64 0] ∧ Ψ = [Row ad' (cellsOf Qj (Qc 2 4))]) := by
 refine fn_intro func44 rfl ntmps44 nb ?_
 intro S w0 a hS h
 refine gC h (zS (za rfl (za rfl (zn (zs (zb (zS (zm rfl (zm rfl (zv [_, _] rfl call101 (Zfn 4 dd) (zp (Pure1.cast (v' := .bool false) (.unOp rfl (Vt _)) cgd) (za rfl (zn ?_))))))))))))); clear h; intro a w h
 refine cW ?_
 refine Zf h rfl ?_
 refine gC h (zS (zm rfl (zp (Pure1.cast (v' := .bool false) (.eql rfl rfl) cgd) (za rfl (zn ?_))))); clear h; intro a w h
 refine cW ?_
 refine Zf h rfl ?_
 refine gC h (zS (zm rfl (zp (Pure1.cast (v' := .bool false) (.lss rfl rfl) cgd) (za rfl (zn ?_))))); clear h; intro a w h
 refine cW ?_
 refine Zf h rfl ?_
 refine gC h (zk (zS (zm rfl (zp (Pure1.cast (v' := .int .i64 1) (.sub rfl rfl) cgd) (zp (.indexAddr rfl rfl (Zxx _ _)) (zD (b := 0) (off := 0) (j := 2) (M := [.int .i64 1, .int .i64 2, .int .i64 2, .int .i64 0, .int .i64 0, .int .i64 1]) (v := .agg #[.int .i64 2, .int .i64 0]) rfl List.mem_cons_self dd isAgg163 sizeOf163 rfl (.inl rfl) ?_))))))
 refine zz zeroValue163 fun b6 => zt' rfl rfl Jd uu sizeOf163 rfl nb rfl ?_
 refine zn (zS (zp (.indexAddr rfl rfl (Zjr _ _)) (zd rfl mr isAgg3 sizeOf3 Gd ?_)))
 refine zp (.indexAddr rfl rfl (Zjq _ _)) (zd rfl mr isAgg3 sizeOf3 Gv ?_)
 refine zB [(_, _), (_, _)] rfl (Kh _ _) fun b38 => ?_; intro a w h
 replace h := h.shareAll hS (List.map Zf5 ([2, 0])) rfl
 refine gL h (zw [_, _] rfl call102 (Zby 4 [2, 0] _ _ dd dd dd dd) (zB [(_, _)] rfl (Zce _ _ _ _ _ _ _ _) fun b40 => ?_)); clear h; intro a w h
 replace h := h.shareAll hS (cellsOf Qj ([Jq 4 [2, 0]])) rfl
 refine gL h (za rfl (za rfl (zn (zt ?_)))); clear h; intro a w h
 refine Xq (Ψ := [Row (some ⟨b40, 0, none⟩) (cellsOf Qj [Jq 4 [2, 0]])]) h (Qv h rfl (.tmp rfl) (.tmp rfl)) ?_ ss
 exact ⟨some ⟨b40, 0, none⟩, 1, rfl, rfl⟩
theorem Zln : Ctr Tryz.prog 44 [.int .i64 2, .int .i64 5] [SideF] (fun v Ψ => ∃ ad' c', v = .tuple #[.slice ad' (Qc 2 5).length c', .int .i64 0] ∧ Ψ = [Row ad' (cellsOf Qj (Qc 2 5))]) := by
 refine fn_intro func44 rfl ntmps44 nb ?_
 intro S w0 a hS h
 refine gC h (zS (za rfl (za rfl (zn (zs (zb (zS (zm rfl (zm rfl (zv [_, _] rfl call101 (Zfn 5 dd) (zp (Pure1.cast (v' := .bool false) (.unOp rfl (Vt _)) cgd) (za rfl (zn ?_))))))))))))); clear h; intro a w h
 refine cW ?_
 refine Zf h rfl ?_
 refine gC h (zS (zm rfl (zp (Pure1.cast (v' := .bool false) (.eql rfl rfl) cgd) (za rfl (zn ?_))))); clear h; intro a w h
 refine cW ?_
 refine Zf h rfl ?_
 refine gC h (zS (zm rfl (zp (Pure1.cast (v' := .bool false) (.lss rfl rfl) cgd) (za rfl (zn ?_))))); clear h; intro a w h
 refine cW ?_
 refine Zf h rfl ?_
 refine gC h (zk (zS (zm rfl (zp (Pure1.cast (v' := .int .i64 2) (.sub rfl rfl) cgd) (zp (.indexAddr rfl rfl (Zxw _ _)) (zD (b := 0) (off := 0) (j := 4) (M := [.int .i64 1, .int .i64 2, .int .i64 2, .int .i64 0, .int .i64 0, .int .i64 1]) (v := .agg #[.int .i64 0, .int .i64 1]) rfl List.mem_cons_self dd isAgg163 sizeOf163 rfl (.inl rfl) ?_))))))
 refine zz zeroValue163 fun b6 => zt' rfl rfl Jd uu sizeOf163 rfl nb rfl ?_
 refine zn (zS (zp (.indexAddr rfl rfl (Zjr _ _)) (zd rfl mr isAgg3 sizeOf3 Gd ?_)))
 refine zp (.indexAddr rfl rfl (Zjq _ _)) (zd rfl mr isAgg3 sizeOf3 Gv ?_)
 refine zB [(_, _), (_, _)] rfl (Kh _ _) fun b38 => ?_; intro a w h
 replace h := h.shareAll hS (List.map Zf5 ([0, 1])) rfl
 refine gL h (zw [_, _] rfl call102 (Zby 4 [0, 1] _ _ dd dd dd dd) (zB [(_, _)] rfl (Zce _ _ _ _ _ _ _ _) fun b40 => ?_)); clear h; intro a w h
 replace h := h.shareAll hS (cellsOf Qj ([Jq 4 [0, 1]])) rfl
 refine gL h (za rfl (za rfl (zn (zt ?_)))); clear h; intro a w h
 refine Xq (Ψ := [Row (some ⟨b40, 0, none⟩) (cellsOf Qj [Jq 4 [0, 1]])]) h (Qv h rfl (.tmp rfl) (.tmp rfl)) ?_ ss
 exact ⟨some ⟨b40, 0, none⟩, 1, rfl, rfl⟩
theorem Zix {o n : Nat} (ho : o = 1 ∨ o = 2) (hn : n < Qk o) : Ctr Tryz.prog 44 [.int .i64 ((o : Nat) : Int), .int .i64 ((n : Nat) : Int)] [SideF] (fun v Ψ => ∃ ad' c', v = .tuple #[.slice ad' (Qc o n).length c', .int .i64 0] ∧ Ψ = [Row ad' (cellsOf Qj (Qc o n))]) := by
 rcases ho with rfl | rfl
 ·
  have hn' : n = 0 ∨ n = 1 ∨ n = 2 := by simp only [Qk] at hn; simp at hn; omega
  rcases hn' with rfl | rfl | rfl
  · exact Zlv
  · exact Zlu
  · exact Zlt
 ·
  have hn' : n = 0 ∨ n = 1 ∨ n = 2 ∨ n = 3 ∨ n = 4 ∨ n = 5 := by simp only [Qk] at hn; simp at hn; omega
  rcases hn' with rfl | rfl | rfl | rfl | rfl | rfl
  · exact Zls
  · exact Zlr
  · exact Zlq
  · exact Zlp
  · exact Zlo
  · exact Zln
end
section
theorem Xg (a : Option Addr) (n c : Nat) (w : World) (ty : TypeId) (cs : Array Bool) : (Go.builtin .len #[103] ty cs #[.slice a n c]).run Tryz.prog w = .ok (.value (.int .i64 n)) w := by
 simp [go_sem]
theorem Zbz (b off n c j : Nat) (h : j < n) (w : World) : (Instr.indexAt 103 (.slice (some ⟨b, off, none⟩) n c) (.int .i64 (j : Int))).run Tryz.prog w = .ok (.pointer (some ⟨b, off + j * 8, none⟩)) w := by
 simpa using Xt runUnderlying103 sizeOf107 b off n c j h w
theorem Vo {b off : Nat} (w : World) : (Instr.fieldAt 107 (.pointer (some ⟨b, off, none⟩)) 0).run Tryz.prog w = .ok (.pointer (some ⟨b, off + 0, none⟩)) w := by
 simp [go_sem]
theorem Zbm {c0 c1 c2 c3 c4 c5 c6 c7 : Value} : Qf false 1 #[c0, c1, c2, c3, c4, c5, c6, c7] 0 = some c0 := rfl
theorem Vn {b off : Nat} (w : World) : (Instr.fieldAt 107 (.pointer (some ⟨b, off, none⟩)) 1).run Tryz.prog w = .ok (.pointer (some ⟨b, off + 1, none⟩)) w := by
 simp [go_sem]
theorem Zbl {c0 c1 c2 c3 c4 c5 c6 c7 : Value} : Qf false 1 #[c0, c1, c2, c3, c4, c5, c6, c7] 1 = some c1 := rfl
theorem Vm {b off : Nat} (w : World) : (Instr.fieldAt 107 (.pointer (some ⟨b, off, none⟩)) 2).run Tryz.prog w = .ok (.pointer (some ⟨b, off + 2, none⟩)) w := by
 simp [go_sem]
theorem Zbk {c0 c1 c2 c3 c4 c5 c6 c7 : Value} : Qf false 1 #[c0, c1, c2, c3, c4, c5, c6, c7] 2 = some c2 := rfl
theorem Gy {c0 c1 c2 : Value} : Qf false 1 #[c0, c1, c2] 0 = some c0 := rfl
theorem Vl {b off : Nat} (w : World) : (Instr.fieldAt 107 (.pointer (some ⟨b, off, none⟩)) 3).run Tryz.prog w = .ok (.pointer (some ⟨b, off + 3, none⟩)) w := by
 simp [go_sem]
theorem Vh {c0 c1 c2 c3 c4 c5 c6 c7 : Value} : Qf true 5 #[c0, c1, c2, c3, c4, c5, c6, c7] 3 = some (.agg #[c3, c4, c5, c6, c7]) := rfl
theorem Zlz {c0 c1 c2 v0 : Value} : Qi #[c0, c1, c2] 0 [v0] = #[v0, c1, c2] := by kernel_rfl
theorem Gu {c0 c1 c2 : Value} : Qf false 1 #[c0, c1, c2] 1 = some c1 := rfl
theorem Zly {c0 c1 c2 v0 : Value} : Qi #[c0, c1, c2] 1 [v0] = #[c0, v0, c2] := by kernel_rfl
theorem Zlx {c0 c1 c2 v0 : Value} : Qi #[c0, c1, c2] 2 [v0] = #[c0, c1, v0] := by kernel_rfl
theorem Gb (l : List Pw) (ad : Option Addr) (c : Nat) (by' : Int) : Ctr Tryz.prog 109 [.slice ad l.length c, .int .i64 by'] [] (fun v Ψ => ∃ b1 b2 : Nat, v = .func (.func 155) #[] #[.pointer (some ⟨b1, 0, none⟩), .pointer (some ⟨b2, 0, none⟩)] ∧ Ψ = [Row (some ⟨b2, 0, none⟩) [.int .i64 by'], Row (some ⟨b1, 0, none⟩) [.slice ad l.length c]]) := by
 refine fn_intro func109 rfl ntmps109 nb ?_
 intro S w0 a hS h
 refine gC h (zS (zx rfl fun b2 => ?_)); clear h; intro a w h
 replace h := h.shareAll hS ([.slice ad l.length c]) rfl
 refine gL h (zx rfl fun b3 => ?_); clear h; intro a w h
 replace h := h.shareAll hS ([.int .i64 by']) rfl
 refine gL h (za rfl (zn (zS (zp (.makeFunc [] [_, _] rfl rfl) (za rfl (zn (zt ?_))))))); clear h; intro a w h
 refine Xq (Ψ := [Row (some ⟨b3, 0, none⟩) [.int .i64 by'], Row (some ⟨b2, 0, none⟩) [.slice ad l.length c]]) h (Zk h rfl (.tmp rfl)) ?_ ss
 exact ⟨b2, b3, rfl, rfl⟩
theorem Zte (l : List Pw) (ad : Option Addr) (c : Nat) : Ctr Tryz.prog 110 [.slice ad l.length c] [] (fun v Ψ => ∃ b1 : Nat, v = .func (.func 156) #[] #[.pointer (some ⟨b1, 0, none⟩)] ∧ Ψ = [Row (some ⟨b1, 0, none⟩) [.slice ad l.length c]]) := by
 refine fn_intro func110 rfl ntmps110 nb ?_
 intro S w0 a hS h
 refine gC h (zS (zx rfl fun b1 => ?_)); clear h; intro a w h
 replace h := h.shareAll hS ([.slice ad l.length c]) rfl
 refine gL h (za rfl (zn (zS (zp (.makeFunc [] [_] rfl rfl) (za rfl (zn (zt ?_))))))); clear h; intro a w h
 refine Xq (Ψ := [Row (some ⟨b1, 0, none⟩) [.slice ad l.length c]]) h (Zk h rfl (.tmp rfl)) ?_ ss
 exact ⟨b1, rfl, rfl⟩
set_option maxHeartbeats 1000000 in
theorem Zo9 (l : List Pw) (ad : Option Addr) (c b1 : Nat) (Φ : List Qm) (hl : l.length ≤ 10) (h1 : Row (some ⟨b1, 0, none⟩) [.slice ad l.length c] ∈ Φ) (h3 : Row ad (cellsOf Qj l) ∈ Φ) : ItC Tryz.prog 156 [.pointer (some ⟨b1, 0, none⟩)] Φ (l.map Qj) := by
 intro l' B hy
 rw [List.length_map] at hy ⊢
 refine fn_introM func156 rfl ntmps156 (Nat.le_of_ble_eq_true rfl) ?_
 intro S w0 a w hS h
 refine wp_seq ?_
 refine wp_region_lit ?_
 refine Zc (Xx h (b := b1) (off := 0) (j := 0) (M := [.slice ad l.length c]) (v := .slice ad l.length c) rfl (by first | assumption | (repeat (first | exact List.Mem.head _ | apply List.Mem.tail | apply List.mem_append_right))) (Nat.succ_pos _) isAgg103 sizeOf103 rfl (.inr rfl) dd ?_); clear h; intro a h
 refine Zc (Qa h (.builtin [_] rfl (Xg _ _ _)) dd ?_); clear h; intro a h
 refine Zc (Qa h (.move rfl) dd ?_); clear h; intro a h
 refine wpList_nil ?_
 refine cW ?_
 refine wp_block ?_
 refine Zt (fun (i : Nat) a w => i ≤ l.length ∧ St 16 S w0 [(0, .func (.yield l') #[] #[]), (5, .slice ad l.length c), (6, nI l.length), (7, nI i)] (B i) (Φ) a w) (fun i => l.length - i) 0 (⟨Nat.zero_le _, by exact (h).sub sA⟩) ?_; clear h
 rintro i a w ⟨hi_i, h⟩
 refine wp_seq ?_
 refine wp_region_lit ?_
 refine Zc (Qa h (.binOp rfl rfl (fun _ => Zi5 _ _ _ _ _)) dd ?_); clear h; intro a h
 refine wpList_nil ?_
 refine cW ?_
 refine wp_seq ?_
 refine Zh h rfl (fun hc8 => ?_) (fun hc8 => ?_)
 ·
  skip
  have hlt_i : i < l.length := dT hc8
  obtain ⟨B_ad, O_ad, rfl⟩ := h.row_addr (ad := ad) (M := cellsOf Qj l) (by first | assumption | (repeat (first | exact List.Mem.head _ | apply List.Mem.tail | apply List.mem_append_right))) (nE 8)
  have hy1 : ∀ τ, Qfc Tryz.prog l' (Qj (l.getD i pw0)) (B i ++ τ) Φ (B (i + 1) ++ τ) := fun τ => by
   have := hy i τ hlt_i
   rwa [Zhm hlt_i] at this
  refine wp_skip ?_
  refine cW ?_
  refine wp_seq ?_
  refine wp_block ?_
  refine wp_seq ?_
  refine wp_region_lit ?_
  refine Zc (Qa h (.indexAddr rfl rfl (Zbz _ _ _ _ _ oo)) dd ?_); clear h; intro a h
  refine Zc (Xx h rfl (by first | assumption | (repeat (first | exact List.Mem.head _ | apply List.Mem.tail | apply List.mem_append_right))) (cells_lt (k := 8) dd (fun _ => rfl) l i oo) isAgg107 sizeOf107 (Zn (k := 8) (fun _ => rfl) ((fun _ => rfl)) l pw0 i oo) (.inl rfl) dd ?_); clear h; intro a h
  refine Zc (Zav h Zas dd ?_); clear h; intro b4 a w h
  refine Zc (Ge h rfl rfl Yr (by repeat (first | exact Upd.head | apply Upd.tail | apply Upd.append)) sizeOf107 rfl (Nat.le_of_ble_eq_true rfl) rfl ?_); clear h; intro a w h
  refine wpList_nil ?_
  refine cW ?_
  refine wp_seq ?_
  refine Zdu ?_
  refine Qp (Qa h (.move rfl) dd ?_); clear h; intro a h
  refine Qp (Ql h rfl (by repeat (first | exact List.Mem.head _ | apply List.Mem.tail | apply List.mem_append_right)) isAgg107 sizeOf107 Zr1 dd ?_); clear h; intro a h
  refine Ze5 h hS rfl rfl (hy1 _) (List.perm_append_comm (l₁ := [_]) (l₂ := B i)) dd ?_; clear h; intro a w h
  refine Qp (Qa h (.unOp rfl (Vt _)) dd ?_); clear h; intro a h
  refine Jc h (fun hc14 h => (absurd hc14 dd)) (fun hc14 h => ?_)
  refine wpListIn_nil ?_
  refine cW ?_
  refine Zf h rfl ?_
  refine wp_skip ?_
  refine cW ?_
  refine wp_region_lit ?_
  refine Zc (Qa h (.pN (i + 1) (.binOp rfl rfl (fun _ => Gn _ _ _ _ _ (wrap_i64 _ oo oo)))) dd ?_); clear h; intro a h
  refine Zc (Qa h (.move rfl) dd ?_); clear h; intro a h
  refine wpList_nil ?_
  exact ⟨i + 1, ⟨oo, ((h.perm (List.Perm.trans (Zha (List.Perm.refl _)) (List.Perm.cons _ (List.Perm.refl _))).symm).drop (by (try simp only [List.append_nil]); repeat (first | exact List.Sublist.refl _ | apply List.Sublist.cons))).sub sA⟩, oo⟩
 ·
  skip
  have heq_i : l.length = i := dF hc8
  subst heq_i
  refine wp_exit ?_
  refine Zvh h (Zb2 rfl) ⟨rfl, by simp only [List.length_map], rfl⟩ (List.Sublist.refl _) (fun _ h => h)
set_option maxHeartbeats 1000000 in
theorem Zdk (l : List Pw) (ad : Option Addr) (c b1 b2 : Nat) (Φ : List Qm) (hl : OkPw l) (h1 : Row (some ⟨b1, 0, none⟩) [.slice ad l.length c] ∈ Φ) (h2 : Row (some ⟨b2, 0, none⟩) [.int .i64 0] ∈ Φ) (h3 : Row ad (cellsOf Qj l) ∈ Φ) : ItC Tryz.prog 155 [.pointer (some ⟨b1, 0, none⟩), .pointer (some ⟨b2, 0, none⟩)] Φ ((slp 0 l).map Qj) := by
 intro l' B hy
 refine fn_introM func155 rfl ntmps155 (Nat.le_of_ble_eq_true rfl) ?_
 intro S w0 a w hS h
 refine wp_seq ?_
 refine wp_region_lit ?_
 refine Zc (Xx h (b := b1) (off := 0) (j := 0) (M := [.slice ad l.length c]) (v := .slice ad l.length c) rfl (by first | assumption | (repeat (first | exact List.Mem.head _ | apply List.Mem.tail | apply List.mem_append_right))) (Nat.succ_pos _) isAgg103 sizeOf103 rfl (.inr rfl) dd ?_); clear h; intro a h
 refine Zc (Qa h (.builtin [_] rfl (Xg _ _ _)) dd ?_); clear h; intro a h
 refine Zc (Qa h (.move rfl) dd ?_); clear h; intro a h
 refine wpList_nil ?_
 refine cW ?_
 refine wp_block ?_
 refine Zt (fun (i : Nat) a w => i ≤ l.length ∧ St 49 S w0 [(0, .func (.yield l') #[] #[]), (2, pB b2), (8, .slice ad l.length c), (9, nI l.length), (10, nI i)] (B ((slp 0 (l.take i)).length)) (Φ) a w) (fun i => l.length - i) 0 (⟨Nat.zero_le _, by exact (h).sub sA⟩) ?_; clear h
 rintro i a w ⟨hi_i, h⟩
 refine wp_seq ?_
 refine wp_region_lit ?_
 refine Zc (Qa h (.binOp rfl rfl (fun _ => Zi5 _ _ _ _ _)) dd ?_); clear h; intro a h
 refine wpList_nil ?_
 refine cW ?_
 refine wp_seq ?_
 refine Zh h rfl (fun hc11 => ?_) (fun hc11 => ?_)
 ·
  skip
  have hlt_i : i < l.length := dT hc11
  obtain ⟨B_ad, O_ad, rfl⟩ := h.row_addr (ad := ad) (M := cellsOf Qj l) (by first | assumption | (repeat (first | exact List.Mem.head _ | apply List.Mem.tail | apply List.mem_append_right))) (nE 8)
  have hln := hl.1
  have hx := hl.2 _ (getD_mem l (d := pw0) hlt_i)
  have hsl := Zek 0 l hlt_i
  refine wp_skip ?_
  refine cW ?_
  refine wp_seq ?_
  refine wp_block ?_
  refine wp_seq ?_
  refine wp_region_lit ?_
  refine Zc (Qa h (.indexAddr rfl rfl (Zbz _ _ _ _ _ oo)) dd ?_); clear h; intro a h
  refine Zc (Xx h rfl (by first | assumption | (repeat (first | exact List.Mem.head _ | apply List.Mem.tail | apply List.mem_append_right))) (cells_lt (k := 8) dd (fun _ => rfl) l i oo) isAgg107 sizeOf107 (Zn (k := 8) (fun _ => rfl) ((fun _ => rfl)) l pw0 i oo) (.inl rfl) dd ?_); clear h; intro a h
  refine Zc (Zav h Zas dd ?_); clear h; intro b5 a w h
  refine Zc (Ge h rfl rfl Yr (by repeat (first | exact Upd.head | apply Upd.tail | apply Upd.append)) sizeOf107 rfl (Nat.le_of_ble_eq_true rfl) rfl ?_); clear h; intro a w h
  refine wpList_nil ?_
  refine cW ?_
  refine wp_seq ?_
  refine wp_region_lit ?_
  refine Zc (Qa h (.fA rfl Vo) dd ?_); clear h; intro a h
  refine Zc (Ql h rfl (by repeat (first | exact List.Mem.head _ | apply List.Mem.tail | apply List.mem_append_right)) isAgg3 sizeOf3 Zbm dd ?_); clear h; intro a h
  refine Zc (Qa h (.fA rfl Vn) dd ?_); clear h; intro a h
  refine Zc (Ql h rfl (by repeat (first | exact List.Mem.head _ | apply List.Mem.tail | apply List.mem_append_right)) isAgg3 sizeOf3 Zbl dd ?_); clear h; intro a h
  refine Zc (Qa h (.fA rfl Vm) dd ?_); clear h; intro a h
  refine Zc (Ql h rfl (by repeat (first | exact List.Mem.head _ | apply List.Mem.tail | apply List.mem_append_right)) isAgg3 sizeOf3 Zbk dd ?_); clear h; intro a h
  refine Zc (Qa h (.build [(_, _), (_, _), (_, _)] rfl (Ju _ _ _)) dd ?_); clear h; intro a h
  refine Zc (Zav h Zrk dd ?_); clear h; intro b6 a w h
  refine Zc (Ge h rfl rfl Jn (by repeat (first | exact Upd.head | apply Upd.tail | apply Upd.append)) sizeOf108 rfl (Nat.le_of_ble_eq_true rfl) rfl ?_); clear h; intro a w h
  refine wpList_nil ?_
  refine cW ?_
  refine wp_seq ?_
  refine wp_seq ?_
  refine wp_region_lit ?_
  refine Zc (Xx h (b := b2) (off := 0) (j := 0) (M := [.int .i64 0]) (v := .int .i64 ((0 : Nat) : Int)) rfl (by first | assumption | (repeat (first | exact List.Mem.head _ | apply List.Mem.tail | apply List.mem_append_right))) (Nat.succ_pos _) isAgg3 sizeOf3 rfl (.inr rfl) dd ?_); clear h; intro a h
  refine Zc (Qa h (.indexAddr rfl rfl (Zbr _ _)) dd ?_); clear h; intro a h
  refine Zc (Ql h rfl (by repeat (first | exact List.Mem.head _ | apply List.Mem.tail | apply List.mem_append_right)) isAgg3 sizeOf3 Gy dd ?_); clear h; intro a h
  refine Zc (Qa h (.binOp rfl rfl (fun _ => Zl3 _ _ _ _ _)) dd ?_); clear h; intro a h
  refine wpList_nil ?_
  refine cW ?_
  refine Zh h rfl (fun hc24 => ?_) (fun hc24 => ?_)
  ·
   skip
   rw [if_neg (show ¬ exP (l.getD i pw0) 0 ≠ 0 from fun hh => hh (by show (l.getD i pw0).i = 0; have := beq_iff_eq.1 hc24; omega))] at hsl
   replace hsl := hsl.trans (Nat.add_zero _)
   refine wp_exit ?_
   refine cW ?_
   refine wp_region_lit ?_
   refine Zc (Qa h (.pN (i + 1) (.binOp rfl rfl (fun _ => Gn _ _ _ _ _ (wrap_i64 _ oo oo)))) dd ?_); clear h; intro a h
   refine Zc (Qa h (.move rfl) dd ?_); clear h; intro a h
   refine wpList_nil ?_
   rw [← hsl] at h
   exact ⟨i + 1, ⟨oo, (h.drop (by (try simp only [List.append_nil]); repeat (first | exact List.Sublist.refl _ | apply List.Sublist.cons))).sub sA⟩, oo⟩
  ·
   skip
   have hne : exP (l.getD i pw0) 0 ≠ 0 := by show (l.getD i pw0).i ≠ 0; intro e; rw [e] at hc24; exact absurd hc24 dd
   rw [if_pos hne] at hsl
   obtain ⟨hk1, hk2⟩ := Zpv 0 l hlt_i hne
   have hne' : (l.getD i pw0).i ≠ 0 := hne
   have hy1 : ∀ τ, Qfc Tryz.prog l' (Qj (dnP 0 (l.getD i pw0))) (B ((slp 0 (l.take i)).length) ++ τ) Φ (B ((slp 0 (l.take i)).length + 1) ++ τ) := fun τ => by
    have := hy _ τ hk1
    rwa [hk2] at this
   refine wp_skip ?_
   refine cW ?_
   refine wp_seq ?_
   refine Zih Za h [0, 1, 2, 3, 4, 5, 6, 7, 8] _ (fun _ _ hh => hh) kk (Qy ⟨.inl rfl, .inl rfl, .inl rfl, .inl rfl, .inl rfl, .inl rfl, .inl rfl, .inr ⟨7, 41, _, _, _, rfl, rfl, by decide, _, Jk⟩, .inl rfl, trivial⟩) ?_; clear h
   refine Xu rfl kk (.fA rfl Vl) dd ?_
   refine Yp rfl kk rfl (by repeat (first | exact List.Mem.head _ | apply List.Mem.tail | apply List.mem_append_right)) isAgg41 sizeOf41 Vh dd ?_
   refine Zp (b := b2) (off := 0) (j := 0) (M := [.int .i64 0]) (v := .int .i64 ((0 : Nat) : Int)) rfl kk rfl (by first | assumption | (repeat (first | exact List.Mem.head _ | apply List.Mem.tail | apply List.mem_append_right))) (Nat.succ_pos _) isAgg3 sizeOf3 rfl (.inr rfl) dd ?_
   refine Xu rfl kk (.indexAddr rfl rfl (Zbr _ _)) dd ?_
   refine Yp rfl kk rfl (by repeat (first | exact List.Mem.head _ | apply List.Mem.tail | apply List.mem_append_right)) isAgg3 sizeOf3 Gy dd ?_
   refine Vz rfl kk (vs := [_]) rfl call21 (Ki _ oo oo) dd ?_
   have hl30 := Zq ((((l.getD i pw0).i : Nat) : Int)) oo oo
   refine Vz rfl kk (vs := [_, _]) rfl call18 (Ja _ _ oo oo) dd ?_
   have hl31 := Zo ((l.getD i pw0).c) ((((((l.getD i pw0).i : Nat) : Int) : Int) : Rat))
   refine Zfj rfl kk Jk dd ?_; intro b7
   refine Zcb rfl kk rfl rfl Zu (by repeat (first | exact Upd.head | apply Upd.tail | apply Upd.append)) sizeOf41 rfl (Nat.le_of_ble_eq_true rfl) rfl ?_
   refine Zgr ?_; intro a w h
   refine cW ?_
   refine wp_seq ?_
   refine wp_region_lit ?_
   refine Zc (Xx h (b := b2) (off := 0) (j := 0) (M := [.int .i64 0]) (v := .int .i64 ((0 : Nat) : Int)) rfl (by first | assumption | (repeat (first | exact List.Mem.head _ | apply List.Mem.tail | apply List.mem_append_right))) (Nat.succ_pos _) isAgg3 sizeOf3 rfl (.inr rfl) dd ?_); clear h; intro a h
   refine Zc (Qa h (.indexAddr rfl rfl (Zbr _ _)) dd ?_); clear h; intro a h
   refine Zc (Ql h rfl (by repeat (first | exact List.Mem.head _ | apply List.Mem.tail | apply List.mem_append_right)) isAgg3 sizeOf3 Gy dd ?_); clear h; intro a h
   refine Zc (Qa h (.pO (((l.getD i pw0).i) - 1) (.binOp rfl rfl (fun _ => Zij _ _ _ _ _ (wrap_i64 _ oo oo)))) dd ?_); clear h; intro a h
   refine Zc (Qa h (.indexAddr rfl rfl (Zbr _ _)) dd ?_); clear h; intro a h
   refine Zc (Ge h rfl rfl Zlz (by repeat (first | exact Upd.head | apply Upd.tail | apply Upd.append)) sizeOf3 rfl (Nat.le_of_ble_eq_true rfl) rfl ?_); clear h; intro a w h
   refine wpList_nil ?_
   refine cW ?_
   refine wp_seq ?_
   refine Zdu ?_
   refine Qp (Qa h (.move rfl) dd ?_); clear h; intro a h
   refine Qp (Qa h (.indexAddr rfl rfl (Zbr _ _)) dd ?_); clear h; intro a h
   refine Qp (Ql h rfl (by repeat (first | exact List.Mem.head _ | apply List.Mem.tail | apply List.mem_append_right)) isAgg3 sizeOf3 Gy dd ?_); clear h; intro a h
   refine Qp (Qa h (.indexAddr rfl rfl (Zbq _ _)) dd ?_); clear h; intro a h
   refine Qp (Ql h rfl (by repeat (first | exact List.Mem.head _ | apply List.Mem.tail | apply List.mem_append_right)) isAgg3 sizeOf3 Gu dd ?_); clear h; intro a h
   refine Qp (Qa h (.indexAddr rfl rfl (Zbp _ _)) dd ?_); clear h; intro a h
   refine Qp (Ql h rfl (by repeat (first | exact List.Mem.head _ | apply List.Mem.tail | apply List.mem_append_right)) isAgg3 sizeOf3 Jl dd ?_); clear h; intro a h
   refine Qp (Ql h rfl (by repeat (first | exact List.Mem.head _ | apply List.Mem.tail | apply List.mem_append_right)) isAgg41 sizeOf41 Zl dd ?_); clear h; intro a h
   refine Qp (Qa h (.build [(_, _), (_, _), (_, _), (_, _)] rfl (Zbg _ _ _ _ _ _ _ _)) dd ?_); clear h; intro a h
   refine Ze5 h hS rfl rfl (hy1 _) (List.perm_append_comm (l₁ := [_, _, _]) (l₂ := B ((slp 0 (l.take i)).length))) dd ?_; clear h; intro a w h
   refine Qp (Qa h (Pure1.cast (v' := .bool false) (.unOp rfl (Vt _)) cgd) dd ?_); clear h; intro a h
   refine wpListIn_nil ?_
   refine cW ?_
   refine Zf h rfl ?_
   refine wp_skip ?_
   refine cW ?_
   refine wp_region_lit ?_
   refine Zc (Qa h (.pN (i + 1) (.binOp rfl rfl (fun _ => Gn _ _ _ _ _ (wrap_i64 _ oo oo)))) dd ?_); clear h; intro a h
   refine Zc (Qa h (.move rfl) dd ?_); clear h; intro a h
   refine wpList_nil ?_
   rw [← hsl] at h
   exact ⟨i + 1, ⟨oo, ((h.perm (List.Perm.trans (Zha (List.Perm.refl _)) (List.Perm.cons _ (List.Perm.trans (Zha (List.Perm.refl _)) (List.Perm.cons _ (List.Perm.trans (Zha (List.Perm.refl _)) (List.Perm.cons _ (List.Perm.refl _))))))).symm).drop (by (try simp only [List.append_nil]); repeat (first | exact List.Sublist.refl _ | apply List.Sublist.cons))).sub sA⟩, oo⟩
 ·
  skip
  have heq_i : l.length = i := dF hc11
  subst heq_i
  refine wp_exit ?_
  refine Zvh h (Zb2 rfl) ⟨rfl, by rw [List.length_map, List.take_length], rfl⟩ (List.Sublist.refl _) (fun _ h => h)
set_option maxHeartbeats 1000000 in
theorem Zdj (l : List Pw) (ad : Option Addr) (c b1 b2 : Nat) (Φ : List Qm) (hl : OkPw l) (h1 : Row (some ⟨b1, 0, none⟩) [.slice ad l.length c] ∈ Φ) (h2 : Row (some ⟨b2, 0, none⟩) [.int .i64 1] ∈ Φ) (h3 : Row ad (cellsOf Qj l) ∈ Φ) : ItC Tryz.prog 155 [.pointer (some ⟨b1, 0, none⟩), .pointer (some ⟨b2, 0, none⟩)] Φ ((slp 1 l).map Qj) := by
 intro l' B hy
 refine fn_introM func155 rfl ntmps155 (Nat.le_of_ble_eq_true rfl) ?_
 intro S w0 a w hS h
 refine wp_seq ?_
 refine wp_region_lit ?_
 refine Zc (Xx h (b := b1) (off := 0) (j := 0) (M := [.slice ad l.length c]) (v := .slice ad l.length c) rfl (by first | assumption | (repeat (first | exact List.Mem.head _ | apply List.Mem.tail | apply List.mem_append_right))) (Nat.succ_pos _) isAgg103 sizeOf103 rfl (.inr rfl) dd ?_); clear h; intro a h
 refine Zc (Qa h (.builtin [_] rfl (Xg _ _ _)) dd ?_); clear h; intro a h
 refine Zc (Qa h (.move rfl) dd ?_); clear h; intro a h
 refine wpList_nil ?_
 refine cW ?_
 refine wp_block ?_
 refine Zt (fun (i : Nat) a w => i ≤ l.length ∧ St 49 S w0 [(0, .func (.yield l') #[] #[]), (2, pB b2), (8, .slice ad l.length c), (9, nI l.length), (10, nI i)] (B ((slp 1 (l.take i)).length)) (Φ) a w) (fun i => l.length - i) 0 (⟨Nat.zero_le _, by exact (h).sub sA⟩) ?_; clear h
 rintro i a w ⟨hi_i, h⟩
 refine wp_seq ?_
 refine wp_region_lit ?_
 refine Zc (Qa h (.binOp rfl rfl (fun _ => Zi5 _ _ _ _ _)) dd ?_); clear h; intro a h
 refine wpList_nil ?_
 refine cW ?_
 refine wp_seq ?_
 refine Zh h rfl (fun hc11 => ?_) (fun hc11 => ?_)
 ·
  skip
  have hlt_i : i < l.length := dT hc11
  obtain ⟨B_ad, O_ad, rfl⟩ := h.row_addr (ad := ad) (M := cellsOf Qj l) (by first | assumption | (repeat (first | exact List.Mem.head _ | apply List.Mem.tail | apply List.mem_append_right))) (nE 8)
  have hln := hl.1
  have hx := hl.2 _ (getD_mem l (d := pw0) hlt_i)
  have hsl := Zek 1 l hlt_i
  refine wp_skip ?_
  refine cW ?_
  refine wp_seq ?_
  refine wp_block ?_
  refine wp_seq ?_
  refine wp_region_lit ?_
  refine Zc (Qa h (.indexAddr rfl rfl (Zbz _ _ _ _ _ oo)) dd ?_); clear h; intro a h
  refine Zc (Xx h rfl (by first | assumption | (repeat (first | exact List.Mem.head _ | apply List.Mem.tail | apply List.mem_append_right))) (cells_lt (k := 8) dd (fun _ => rfl) l i oo) isAgg107 sizeOf107 (Zn (k := 8) (fun _ => rfl) ((fun _ => rfl)) l pw0 i oo) (.inl rfl) dd ?_); clear h; intro a h
  refine Zc (Zav h Zas dd ?_); clear h; intro b5 a w h
  refine Zc (Ge h rfl rfl Yr (by repeat (first | exact Upd.head | apply Upd.tail | apply Upd.append)) sizeOf107 rfl (Nat.le_of_ble_eq_true rfl) rfl ?_); clear h; intro a w h
  refine wpList_nil ?_
  refine cW ?_
  refine wp_seq ?_
  refine wp_region_lit ?_
  refine Zc (Qa h (.fA rfl Vo) dd ?_); clear h; intro a h
  refine Zc (Ql h rfl (by repeat (first | exact List.Mem.head _ | apply List.Mem.tail | apply List.mem_append_right)) isAgg3 sizeOf3 Zbm dd ?_); clear h; intro a h
  refine Zc (Qa h (.fA rfl Vn) dd ?_); clear h; intro a h
  refine Zc (Ql h rfl (by repeat (first | exact List.Mem.head _ | apply List.Mem.tail | apply List.mem_append_right)) isAgg3 sizeOf3 Zbl dd ?_); clear h; intro a h
  refine Zc (Qa h (.fA rfl Vm) dd ?_); clear h; intro a h
  refine Zc (Ql h rfl (by repeat (first | exact List.Mem.head _ | apply List.Mem.tail | apply List.mem_append_right)) isAgg3 sizeOf3 Zbk dd ?_); clear h; intro a h
  refine Zc (Qa h (.build [(_, _), (_, _), (_, _)] rfl (Ju _ _ _)) dd ?_); clear h; intro a h
  refine Zc (Zav h Zrk dd ?_); clear h; intro b6 a w h
  refine Zc (Ge h rfl rfl Jn (by repeat (first | exact Upd.head | apply Upd.tail | apply Upd.append)) sizeOf108 rfl (Nat.le_of_ble_eq_true rfl) rfl ?_); clear h; intro a w h
  refine wpList_nil ?_
  refine cW ?_
  refine wp_seq ?_
  refine wp_seq ?_
  refine wp_region_lit ?_
  refine Zc (Xx h (b := b2) (off := 0) (j := 0) (M := [.int .i64 1]) (v := .int .i64 ((1 : Nat) : Int)) rfl (by first | assumption | (repeat (first | exact List.Mem.head _ | apply List.Mem.tail | apply List.mem_append_right))) (Nat.succ_pos _) isAgg3 sizeOf3 rfl (.inr rfl) dd ?_); clear h; intro a h
  refine Zc (Qa h (.indexAddr rfl rfl (Zbq _ _)) dd ?_); clear h; intro a h
  refine Zc (Ql h rfl (by repeat (first | exact List.Mem.head _ | apply List.Mem.tail | apply List.mem_append_right)) isAgg3 sizeOf3 Gu dd ?_); clear h; intro a h
  refine Zc (Qa h (.binOp rfl rfl (fun _ => Zl3 _ _ _ _ _)) dd ?_); clear h; intro a h
  refine wpList_nil ?_
  refine cW ?_
  refine Zh h rfl (fun hc24 => ?_) (fun hc24 => ?_)
  ·
   skip
   rw [if_neg (show ¬ exP (l.getD i pw0) 1 ≠ 0 from fun hh => hh (by show (l.getD i pw0).j = 0; have := beq_iff_eq.1 hc24; omega))] at hsl
   replace hsl := hsl.trans (Nat.add_zero _)
   refine wp_exit ?_
   refine cW ?_
   refine wp_region_lit ?_
   refine Zc (Qa h (.pN (i + 1) (.binOp rfl rfl (fun _ => Gn _ _ _ _ _ (wrap_i64 _ oo oo)))) dd ?_); clear h; intro a h
   refine Zc (Qa h (.move rfl) dd ?_); clear h; intro a h
   refine wpList_nil ?_
   rw [← hsl] at h
   exact ⟨i + 1, ⟨oo, (h.drop (by (try simp only [List.append_nil]); repeat (first | exact List.Sublist.refl _ | apply List.Sublist.cons))).sub sA⟩, oo⟩
  ·
   skip
   have hne : exP (l.getD i pw0) 1 ≠ 0 := by show (l.getD i pw0).j ≠ 0; intro e; rw [e] at hc24; exact absurd hc24 dd
   rw [if_pos hne] at hsl
   obtain ⟨hk1, hk2⟩ := Zpv 1 l hlt_i hne
   have hne' : (l.getD i pw0).j ≠ 0 := hne
   have hy1 : ∀ τ, Qfc Tryz.prog l' (Qj (dnP 1 (l.getD i pw0))) (B ((slp 1 (l.take i)).length) ++ τ) Φ (B ((slp 1 (l.take i)).length + 1) ++ τ) := fun τ => by
    have := hy _ τ hk1
    rwa [hk2] at this
   refine wp_skip ?_
   refine cW ?_
   refine wp_seq ?_
   refine Zih Za h [0, 1, 2, 3, 4, 5, 6, 7, 8] _ (fun _ _ hh => hh) kk (Qy ⟨.inl rfl, .inl rfl, .inl rfl, .inl rfl, .inl rfl, .inl rfl, .inl rfl, .inr ⟨7, 41, _, _, _, rfl, rfl, by decide, _, Jk⟩, .inl rfl, trivial⟩) ?_; clear h
   refine Xu rfl kk (.fA rfl Vl) dd ?_
   refine Yp rfl kk rfl (by repeat (first | exact List.Mem.head _ | apply List.Mem.tail | apply List.mem_append_right)) isAgg41 sizeOf41 Vh dd ?_
   refine Zp (b := b2) (off := 0) (j := 0) (M := [.int .i64 1]) (v := .int .i64 ((1 : Nat) : Int)) rfl kk rfl (by first | assumption | (repeat (first | exact List.Mem.head _ | apply List.Mem.tail | apply List.mem_append_right))) (Nat.succ_pos _) isAgg3 sizeOf3 rfl (.inr rfl) dd ?_
   refine Xu rfl kk (.indexAddr rfl rfl (Zbq _ _)) dd ?_
   refine Yp rfl kk rfl (by repeat (first | exact List.Mem.head _ | apply List.Mem.tail | apply List.mem_append_right)) isAgg3 sizeOf3 Gu dd ?_
   refine Vz rfl kk (vs := [_]) rfl call21 (Ki _ oo oo) dd ?_
   have hl30 := Zq ((((l.getD i pw0).j : Nat) : Int)) oo oo
   refine Vz rfl kk (vs := [_, _]) rfl call18 (Ja _ _ oo oo) dd ?_
   have hl31 := Zo ((l.getD i pw0).c) ((((((l.getD i pw0).j : Nat) : Int) : Int) : Rat))
   refine Zfj rfl kk Jk dd ?_; intro b7
   refine Zcb rfl kk rfl rfl Zu (by repeat (first | exact Upd.head | apply Upd.tail | apply Upd.append)) sizeOf41 rfl (Nat.le_of_ble_eq_true rfl) rfl ?_
   refine Zgr ?_; intro a w h
   refine cW ?_
   refine wp_seq ?_
   refine wp_region_lit ?_
   refine Zc (Xx h (b := b2) (off := 0) (j := 0) (M := [.int .i64 1]) (v := .int .i64 ((1 : Nat) : Int)) rfl (by first | assumption | (repeat (first | exact List.Mem.head _ | apply List.Mem.tail | apply List.mem_append_right))) (Nat.succ_pos _) isAgg3 sizeOf3 rfl (.inr rfl) dd ?_); clear h; intro a h
   refine Zc (Qa h (.indexAddr rfl rfl (Zbq _ _)) dd ?_); clear h; intro a h
   refine Zc (Ql h rfl (by repeat (first | exact List.Mem.head _ | apply List.Mem.tail | apply List.mem_append_right)) isAgg3 sizeOf3 Gu dd ?_); clear h; intro a h
   refine Zc (Qa h (.pO (((l.getD i pw0).j) - 1) (.binOp rfl rfl (fun _ => Zij _ _ _ _ _ (wrap_i64 _ oo oo)))) dd ?_); clear h; intro a h
   refine Zc (Qa h (.indexAddr rfl rfl (Zbq _ _)) dd ?_); clear h; intro a h
   refine Zc (Ge h rfl rfl Zly (by repeat (first | exact Upd.head | apply Upd.tail | apply Upd.append)) sizeOf3 rfl (Nat.le_of_ble_eq_true rfl) rfl ?_); clear h; intro a w h
   refine wpList_nil ?_
   refine cW ?_
   refine wp_seq ?_
   refine Zdu ?_
   refine Qp (Qa h (.move rfl) dd ?_); clear h; intro a h
   refine Qp (Qa h (.indexAddr rfl rfl (Zbr _ _)) dd ?_); clear h; intro a h
   refine Qp (Ql h rfl (by repeat (first | exact List.Mem.head _ | apply List.Mem.tail | apply List.mem_append_right)) isAgg3 sizeOf3 Gy dd ?_); clear h; intro a h
   refine Qp (Qa h (.indexAddr rfl rfl (Zbq _ _)) dd ?_); clear h; intro a h
   refine Qp (Ql h rfl (by repeat (first | exact List.Mem.head _ | apply List.Mem.tail | apply List.mem_append_right)) isAgg3 sizeOf3 Gu dd ?_); clear h; intro a h
   refine Qp (Qa h (.indexAddr rfl rfl (Zbp _ _)) dd ?_); clear h; intro a h
   refine Qp (Ql h rfl (by repeat (first | exact List.Mem.head _ | apply List.Mem.tail | apply List.mem_append_right)) isAgg3 sizeOf3 Jl dd ?_); clear h; intro a h
   refine Qp (Ql h rfl (by repeat (first | exact List.Mem.head _ | apply List.Mem.tail | apply List.mem_append_right)) isAgg41 sizeOf41 Zl dd ?_); clear h; intro a h
   refine Qp (Qa h (.build [(_, _), (_, _), (_, _), (_, _)] rfl (Zbg _ _ _ _ _ _ _ _)) dd ?_); clear h; intro a h
   refine Ze5 h hS rfl rfl (hy1 _) (List.perm_append_comm (l₁ := [_, _, _]) (l₂ := B ((slp 1 (l.take i)).length))) dd ?_; clear h; intro a w h
   refine Qp (Qa h (Pure1.cast (v' := .bool false) (.unOp rfl (Vt _)) cgd) dd ?_); clear h; intro a h
   refine wpListIn_nil ?_
   refine cW ?_
   refine Zf h rfl ?_
   refine wp_skip ?_
   refine cW ?_
   refine wp_region_lit ?_
   refine Zc (Qa h (.pN (i + 1) (.binOp rfl rfl (fun _ => Gn _ _ _ _ _ (wrap_i64 _ oo oo)))) dd ?_); clear h; intro a h
   refine Zc (Qa h (.move rfl) dd ?_); clear h; intro a h
   refine wpList_nil ?_
   rw [← hsl] at h
   exact ⟨i + 1, ⟨oo, ((h.perm (List.Perm.trans (Zha (List.Perm.refl _)) (List.Perm.cons _ (List.Perm.trans (Zha (List.Perm.refl _)) (List.Perm.cons _ (List.Perm.trans (Zha (List.Perm.refl _)) (List.Perm.cons _ (List.Perm.refl _))))))).symm).drop (by (try simp only [List.append_nil]); repeat (first | exact List.Sublist.refl _ | apply List.Sublist.cons))).sub sA⟩, oo⟩
 ·
  skip
  have heq_i : l.length = i := dF hc11
  subst heq_i
  refine wp_exit ?_
  refine Zvh h (Zb2 rfl) ⟨rfl, by rw [List.length_map, List.take_length], rfl⟩ (List.Sublist.refl _) (fun _ h => h)
set_option maxHeartbeats 1000000 in
theorem Zdi (l : List Pw) (ad : Option Addr) (c b1 b2 : Nat) (Φ : List Qm) (hl : OkPw l) (h1 : Row (some ⟨b1, 0, none⟩) [.slice ad l.length c] ∈ Φ) (h2 : Row (some ⟨b2, 0, none⟩) [.int .i64 2] ∈ Φ) (h3 : Row ad (cellsOf Qj l) ∈ Φ) : ItC Tryz.prog 155 [.pointer (some ⟨b1, 0, none⟩), .pointer (some ⟨b2, 0, none⟩)] Φ ((slp 2 l).map Qj) := by
 intro l' B hy
 refine fn_introM func155 rfl ntmps155 (Nat.le_of_ble_eq_true rfl) ?_
 intro S w0 a w hS h
 refine wp_seq ?_
 refine wp_region_lit ?_
 refine Zc (Xx h (b := b1) (off := 0) (j := 0) (M := [.slice ad l.length c]) (v := .slice ad l.length c) rfl (by first | assumption | (repeat (first | exact List.Mem.head _ | apply List.Mem.tail | apply List.mem_append_right))) (Nat.succ_pos _) isAgg103 sizeOf103 rfl (.inr rfl) dd ?_); clear h; intro a h
 refine Zc (Qa h (.builtin [_] rfl (Xg _ _ _)) dd ?_); clear h; intro a h
 refine Zc (Qa h (.move rfl) dd ?_); clear h; intro a h
 refine wpList_nil ?_
 refine cW ?_
 refine wp_block ?_
 refine Zt (fun (i : Nat) a w => i ≤ l.length ∧ St 49 S w0 [(0, .func (.yield l') #[] #[]), (2, pB b2), (8, .slice ad l.length c), (9, nI l.length), (10, nI i)] (B ((slp 2 (l.take i)).length)) (Φ) a w) (fun i => l.length - i) 0 (⟨Nat.zero_le _, by exact (h).sub sA⟩) ?_; clear h
 rintro i a w ⟨hi_i, h⟩
 refine wp_seq ?_
 refine wp_region_lit ?_
 refine Zc (Qa h (.binOp rfl rfl (fun _ => Zi5 _ _ _ _ _)) dd ?_); clear h; intro a h
 refine wpList_nil ?_
 refine cW ?_
 refine wp_seq ?_
 refine Zh h rfl (fun hc11 => ?_) (fun hc11 => ?_)
 ·
  skip
  have hlt_i : i < l.length := dT hc11
  obtain ⟨B_ad, O_ad, rfl⟩ := h.row_addr (ad := ad) (M := cellsOf Qj l) (by first | assumption | (repeat (first | exact List.Mem.head _ | apply List.Mem.tail | apply List.mem_append_right))) (nE 8)
  have hln := hl.1
  have hx := hl.2 _ (getD_mem l (d := pw0) hlt_i)
  have hsl := Zek 2 l hlt_i
  refine wp_skip ?_
  refine cW ?_
  refine wp_seq ?_
  refine wp_block ?_
  refine wp_seq ?_
  refine wp_region_lit ?_
  refine Zc (Qa h (.indexAddr rfl rfl (Zbz _ _ _ _ _ oo)) dd ?_); clear h; intro a h
  refine Zc (Xx h rfl (by first | assumption | (repeat (first | exact List.Mem.head _ | apply List.Mem.tail | apply List.mem_append_right))) (cells_lt (k := 8) dd (fun _ => rfl) l i oo) isAgg107 sizeOf107 (Zn (k := 8) (fun _ => rfl) ((fun _ => rfl)) l pw0 i oo) (.inl rfl) dd ?_); clear h; intro a h
  refine Zc (Zav h Zas dd ?_); clear h; intro b5 a w h
  refine Zc (Ge h rfl rfl Yr (by repeat (first | exact Upd.head | apply Upd.tail | apply Upd.append)) sizeOf107 rfl (Nat.le_of_ble_eq_true rfl) rfl ?_); clear h; intro a w h
  refine wpList_nil ?_
  refine cW ?_
  refine wp_seq ?_
  refine wp_region_lit ?_
  refine Zc (Qa h (.fA rfl Vo) dd ?_); clear h; intro a h
  refine Zc (Ql h rfl (by repeat (first | exact List.Mem.head _ | apply List.Mem.tail | apply List.mem_append_right)) isAgg3 sizeOf3 Zbm dd ?_); clear h; intro a h
  refine Zc (Qa h (.fA rfl Vn) dd ?_); clear h; intro a h
  refine Zc (Ql h rfl (by repeat (first | exact List.Mem.head _ | apply List.Mem.tail | apply List.mem_append_right)) isAgg3 sizeOf3 Zbl dd ?_); clear h; intro a h
  refine Zc (Qa h (.fA rfl Vm) dd ?_); clear h; intro a h
  refine Zc (Ql h rfl (by repeat (first | exact List.Mem.head _ | apply List.Mem.tail | apply List.mem_append_right)) isAgg3 sizeOf3 Zbk dd ?_); clear h; intro a h
  refine Zc (Qa h (.build [(_, _), (_, _), (_, _)] rfl (Ju _ _ _)) dd ?_); clear h; intro a h
  refine Zc (Zav h Zrk dd ?_); clear h; intro b6 a w h
  refine Zc (Ge h rfl rfl Jn (by repeat (first | exact Upd.head | apply Upd.tail | apply Upd.append)) sizeOf108 rfl (Nat.le_of_ble_eq_true rfl) rfl ?_); clear h; intro a w h
  refine wpList_nil ?_
  refine cW ?_
  refine wp_seq ?_
  refine wp_seq ?_
  refine wp_region_lit ?_
  refine Zc (Xx h (b := b2) (off := 0) (j := 0) (M := [.int .i64 2]) (v := .int .i64 ((2 : Nat) : Int)) rfl (by first | assumption | (repeat (first | exact List.Mem.head _ | apply List.Mem.tail | apply List.mem_append_right))) (Nat.succ_pos _) isAgg3 sizeOf3 rfl (.inr rfl) dd ?_); clear h; intro a h
  refine Zc (Qa h (.indexAddr rfl rfl (Zbp _ _)) dd ?_); clear h; intro a h
  refine Zc (Ql h rfl (by repeat (first | exact List.Mem.head _ | apply List.Mem.tail | apply List.mem_append_right)) isAgg3 sizeOf3 Jl dd ?_); clear h; intro a h
  refine Zc (Qa h (.binOp rfl rfl (fun _ => Zl3 _ _ _ _ _)) dd ?_); clear h; intro a h
  refine wpList_nil ?_
  refine cW ?_
  refine Zh h rfl (fun hc24 => ?_) (fun hc24 => ?_)
  ·
   skip
   rw [if_neg (show ¬ exP (l.getD i pw0) 2 ≠ 0 from fun hh => hh (by show (l.getD i pw0).k = 0; have := beq_iff_eq.1 hc24; omega))] at hsl
   replace hsl := hsl.trans (Nat.add_zero _)
   refine wp_exit ?_
   refine cW ?_
   refine wp_region_lit ?_
   refine Zc (Qa h (.pN (i + 1) (.binOp rfl rfl (fun _ => Gn _ _ _ _ _ (wrap_i64 _ oo oo)))) dd ?_); clear h; intro a h
   refine Zc (Qa h (.move rfl) dd ?_); clear h; intro a h
   refine wpList_nil ?_
   rw [← hsl] at h
   exact ⟨i + 1, ⟨oo, (h.drop (by (try simp only [List.append_nil]); repeat (first | exact List.Sublist.refl _ | apply List.Sublist.cons))).sub sA⟩, oo⟩
  ·
   skip
   have hne : exP (l.getD i pw0) 2 ≠ 0 := by show (l.getD i pw0).k ≠ 0; intro e; rw [e] at hc24; exact absurd hc24 dd
   rw [if_pos hne] at hsl
   obtain ⟨hk1, hk2⟩ := Zpv 2 l hlt_i hne
   have hne' : (l.getD i pw0).k ≠ 0 := hne
   have hy1 : ∀ τ, Qfc Tryz.prog l' (Qj (dnP 2 (l.getD i pw0))) (B ((slp 2 (l.take i)).length) ++ τ) Φ (B ((slp 2 (l.take i)).length + 1) ++ τ) := fun τ => by
    have := hy _ τ hk1
    rwa [hk2] at this
   refine wp_skip ?_
   refine cW ?_
   refine wp_seq ?_
   refine Zih Za h [0, 1, 2, 3, 4, 5, 6, 7, 8] _ (fun _ _ hh => hh) kk (Qy ⟨.inl rfl, .inl rfl, .inl rfl, .inl rfl, .inl rfl, .inl rfl, .inl rfl, .inr ⟨7, 41, _, _, _, rfl, rfl, by decide, _, Jk⟩, .inl rfl, trivial⟩) ?_; clear h
   refine Xu rfl kk (.fA rfl Vl) dd ?_
   refine Yp rfl kk rfl (by repeat (first | exact List.Mem.head _ | apply List.Mem.tail | apply List.mem_append_right)) isAgg41 sizeOf41 Vh dd ?_
   refine Zp (b := b2) (off := 0) (j := 0) (M := [.int .i64 2]) (v := .int .i64 ((2 : Nat) : Int)) rfl kk rfl (by first | assumption | (repeat (first | exact List.Mem.head _ | apply List.Mem.tail | apply List.mem_append_right))) (Nat.succ_pos _) isAgg3 sizeOf3 rfl (.inr rfl) dd ?_
   refine Xu rfl kk (.indexAddr rfl rfl (Zbp _ _)) dd ?_
   refine Yp rfl kk rfl (by repeat (first | exact List.Mem.head _ | apply List.Mem.tail | apply List.mem_append_right)) isAgg3 sizeOf3 Jl dd ?_
   refine Vz rfl kk (vs := [_]) rfl call21 (Ki _ oo oo) dd ?_
   have hl30 := Zq ((((l.getD i pw0).k : Nat) : Int)) oo oo
   refine Vz rfl kk (vs := [_, _]) rfl call18 (Ja _ _ oo oo) dd ?_
   have hl31 := Zo ((l.getD i pw0).c) ((((((l.getD i pw0).k : Nat) : Int) : Int) : Rat))
   refine Zfj rfl kk Jk dd ?_; intro b7
   refine Zcb rfl kk rfl rfl Zu (by repeat (first | exact Upd.head | apply Upd.tail | apply Upd.append)) sizeOf41 rfl (Nat.le_of_ble_eq_true rfl) rfl ?_
   refine Zgr ?_; intro a w h
   refine cW ?_
   refine wp_seq ?_
   refine wp_region_lit ?_
   refine Zc (Xx h (b := b2) (off := 0) (j := 0) (M := [.int .i64 2]) (v := .int .i64 ((2 : Nat) : Int)) rfl (by first | assumption | (repeat (first | exact List.Mem.head _ | apply List.Mem.tail | apply List.mem_append_right))) (Nat.succ_pos _) isAgg3 sizeOf3 rfl (.inr rfl) dd ?_); clear h; intro a h
   refine Zc (Qa h (.indexAddr rfl rfl (Zbp _ _)) dd ?_); clear h; intro a h
   refine Zc (Ql h rfl (by repeat (first | exact List.Mem.head _ | apply List.Mem.tail | apply List.mem_append_right)) isAgg3 sizeOf3 Jl dd ?_); clear h; intro a h
   refine Zc (Qa h (.pO (((l.getD i pw0).k) - 1) (.binOp rfl rfl (fun _ => Zij _ _ _ _ _ (wrap_i64 _ oo oo)))) dd ?_); clear h; intro a h
   refine Zc (Qa h (.indexAddr rfl rfl (Zbp _ _)) dd ?_); clear h; intro a h
   refine Zc (Ge h rfl rfl Zlx (by repeat (first | exact Upd.head | apply Upd.tail | apply Upd.append)) sizeOf3 rfl (Nat.le_of_ble_eq_true rfl) rfl ?_); clear h; intro a w h
   refine wpList_nil ?_
   refine cW ?_
   refine wp_seq ?_
   refine Zdu ?_
   refine Qp (Qa h (.move rfl) dd ?_); clear h; intro a h
   refine Qp (Qa h (.indexAddr rfl rfl (Zbr _ _)) dd ?_); clear h; intro a h
   refine Qp (Ql h rfl (by repeat (first | exact List.Mem.head _ | apply List.Mem.tail | apply List.mem_append_right)) isAgg3 sizeOf3 Gy dd ?_); clear h; intro a h
   refine Qp (Qa h (.indexAddr rfl rfl (Zbq _ _)) dd ?_); clear h; intro a h
   refine Qp (Ql h rfl (by repeat (first | exact List.Mem.head _ | apply List.Mem.tail | apply List.mem_append_right)) isAgg3 sizeOf3 Gu dd ?_); clear h; intro a h
   refine Qp (Qa h (.indexAddr rfl rfl (Zbp _ _)) dd ?_); clear h; intro a h
   refine Qp (Ql h rfl (by repeat (first | exact List.Mem.head _ | apply List.Mem.tail | apply List.mem_append_right)) isAgg3 sizeOf3 Jl dd ?_); clear h; intro a h
   refine Qp (Ql h rfl (by repeat (first | exact List.Mem.head _ | apply List.Mem.tail | apply List.mem_append_right)) isAgg41 sizeOf41 Zl dd ?_); clear h; intro a h
   refine Qp (Qa h (.build [(_, _), (_, _), (_, _), (_, _)] rfl (Zbg _ _ _ _ _ _ _ _)) dd ?_); clear h; intro a h
   refine Ze5 h hS rfl rfl (hy1 _) (List.perm_append_comm (l₁ := [_, _, _]) (l₂ := B ((slp 2 (l.take i)).length))) dd ?_; clear h; intro a w h
   refine Qp (Qa h (Pure1.cast (v' := .bool false) (.unOp rfl (Vt _)) cgd) dd ?_); clear h; intro a h
   refine wpListIn_nil ?_
   refine cW ?_
   refine Zf h rfl ?_
   refine wp_skip ?_
   refine cW ?_
   refine wp_region_lit ?_
   refine Zc (Qa h (.pN (i + 1) (.binOp rfl rfl (fun _ => Gn _ _ _ _ _ (wrap_i64 _ oo oo)))) dd ?_); clear h; intro a h
   refine Zc (Qa h (.move rfl) dd ?_); clear h; intro a h
   refine wpList_nil ?_
   rw [← hsl] at h
   exact ⟨i + 1, ⟨oo, ((h.perm (List.Perm.trans (Zha (List.Perm.refl _)) (List.Perm.cons _ (List.Perm.trans (Zha (List.Perm.refl _)) (List.Perm.cons _ (List.Perm.trans (Zha (List.Perm.refl _)) (List.Perm.cons _ (List.Perm.refl _))))))).symm).drop (by (try simp only [List.append_nil]); repeat (first | exact List.Sublist.refl _ | apply List.Sublist.cons))).sub sA⟩, oo⟩
 ·
  skip
  have heq_i : l.length = i := dF hc11
  subst heq_i
  refine wp_exit ?_
  refine Zvh h (Zb2 rfl) ⟨rfl, by rw [List.length_map, List.take_length], rfl⟩ (List.Sublist.refl _) (fun _ h => h)
end
section
theorem rs_1_0 {c0 : Value} : Qf false 1 #[c0] 0 = some c0 := rfl
def tgK (p q : List Pw) (k m : Nat) : Rat := (q.take m).foldl (tgS (p.getD k pw0)) (tgQ (p.take k) q)
theorem Zz4 (p : List Pw) {q : List Pw} (k : Nat) {m : Nat} (h : m < q.length) : tgK p q k (m + 1) = tgS (p.getD k pw0) (tgK p q k m) (q.getD m pw0) := by
 unfold tgK
 rw [List.take_add_one, List.getElem?_eq_getElem h, List.foldl_append]
 simp [List.getD, h]
theorem Qdo {p q : List Pw} {k : Nat} (h : k < p.length) : tgK p q k q.length = tgQ (p.take (k + 1)) q := by
 unfold tgK tgQ
 rw [List.take_length, List.take_add_one, List.getElem?_eq_getElem h, List.foldl_append]
 simp [List.getD, h, tgI]
theorem Qaz {x y : Pw} (hx : x.i ≤ 4 ∧ x.j ≤ 4 ∧ x.k ≤ 4 ∧ Zw x.c ≤ 100) (hy : y.i ≤ 4 ∧ y.j ≤ 4 ∧ y.k ≤ 4 ∧ Zw y.c ≤ 100) (s : Rat) : Zw (tgS x s y) ≤ Zw s + 10000 := by
 have h1 := Zjp (x.i + y.i) (x.j + y.j) (x.k + y.k) oo oo oo
 have h2 := Zo (x.c * y.c) (Zeo (x.i + y.i) (x.j + y.j) (x.k + y.k))
 have h3 := Zo x.c y.c
 have h4 := Qw s (x.c * y.c * Zeo (x.i + y.i) (x.j + y.j) (x.k + y.k))
 unfold tgS; omega
theorem Zmm {x : Pw} (hx : x.i ≤ 4 ∧ x.j ≤ 4 ∧ x.k ≤ 4 ∧ Zw x.c ≤ 100) : ∀ (q : List Pw) (s : Rat), (∀ y ∈ q, y.i ≤ 4 ∧ y.j ≤ 4 ∧ y.k ≤ 4 ∧ Zw y.c ≤ 100) → Zw (q.foldl (tgS x) s) ≤ Zw s + 10000 * q.length
 | [], s, _ => by simp
 | y :: q, s, h => by
  have h1 := Qaz hx (h y List.mem_cons_self) s
  have h2 := Zmm hx q (tgS x s y) (fun z hz => h z (List.mem_cons_of_mem _ hz))
  rw [List.foldl_cons, List.length_cons]; omega
theorem Zsj {q : List Pw} (hq : OkPw q) : ∀ (p : List Pw) (s : Rat), (∀ y ∈ p, y.i ≤ 4 ∧ y.j ≤ 4 ∧ y.k ≤ 4 ∧ Zw y.c ≤ 100) → Zw (p.foldl (tgI q) s) ≤ Zw s + 100000 * p.length
 | [], s, _ => by simp
 | x :: p, s, h => by
  have h1 := Zmm (h x List.mem_cons_self) q s hq.2
  have h2 := Zsj hq p (tgI q s x) (fun z hz => h z (List.mem_cons_of_mem _ hz))
  have h3 := hq.1
  rw [List.foldl_cons, List.length_cons]; unfold tgI at h2 ⊢; omega
theorem Qa0 {p q : List Pw} (hp : OkPw p) (hq : OkPw q) : Zw (tgQ p q) ≤ 2000000 := by
 have h1 := Zsj hq p 0 hp.2
 have h2 := hp.1
 have h3 := Vi
 unfold tgQ; omega
theorem OkPw.take {p : List Pw} (h : OkPw p) (k : Nat) : OkPw (p.take k) := ⟨Nat.le_trans (by rw [List.length_take]; omega) h.1, fun x hx => h.2 x (List.mem_of_mem_take hx)⟩
theorem Qa1 {p q : List Pw} (hp : OkPw p) (hq : OkPw q) {k : Nat} (hk : k < p.length) (m : Nat) : Zw (tgK p q k m) ≤ 3000000 := by
 have h1 := Qa0 (hp.take k) hq
 have h2 := Zmm (hp.2 _ (getD_mem p (d := pw0) hk)) (q.take m) (tgQ (p.take k) q) (hq.take m).2
 have h3 := (hq.take m).1
 unfold tgK; omega
set_option maxHeartbeats 1000000 in
theorem Ga (gf1 gf2 : Nat) (lb1 lb2 : List Value) (Φ : List Qm) (p q : List Pw) (hp : OkPw p) (hq : OkPw q) (hg1 : ∀ args w, (callFunc gf1 args).run Tryz.prog w = .ok (.enter gf1 args) w) (hg2 : ∀ args w, (callFunc gf2 args).run Tryz.prog w = .ok (.enter gf2 args) w)
  (hit1 : ItC Tryz.prog gf1 lb1 Φ (p.map Qj)) (hit2 : ItC Tryz.prog gf2 lb2 Φ (q.map Qj)) : Zaq Tryz.prog 108 [.func (.func gf1) #[] lb1.toArray, .func (.func gf2) #[] lb2.toArray] Φ (Zz (tgQ p q)) := by
 refine fn_introMk func108 rfl ntmps108 (Nat.le_of_ble_eq_true rfl) ?_
 intro S w0 a hS h
 refine wp_seq ?_
 refine wp_region_lit ?_
 refine Zc (Qc0 h rfl dd ?_); clear h; intro b3 a w h
 refine Zc (Zav h Jk dd ?_); clear h; intro b4 a w h
 refine wpList_nil ?_
 refine cW ?_
 refine wp_seq ?_
 refine wp_seq ?_
 refine wp_region_lit ?_
 refine Zc (Qa h (.move rfl) dd ?_); clear h; intro a h
 refine wpList_nil ?_
 refine cW ?_
 refine wp_block ?_
 refine rangeF h hS (gf := gf1) (lb := lb1) (xs := p.map Qj) rfl hg1 hit1 dd (fun k => [(b4, bV (Zz (tgQ (p.take k) q)) 41), (b3, bV (.func (.func gf2) #[] lb2.toArray) 169)]) (List.Perm.refl _) (fun k hk_k => ?_) (fun D o w h => ?_)
 ·
  skip
  clear h
  rw [List.length_map] at hk_k
  rw [Zhm hk_k]
  have hx := hp.2 _ (getD_mem p (d := pw0) hk_k)
  intro S w0 l_k r_k τ_k a w hS hr_k h
  replace h : St 36 S w0 [(0, .func (.func gf1) #[] lb1.toArray), (1, .func (.func gf2) #[] lb2.toArray), (3, pB b3), (4, pB b4), (7, .func (.func gf1) #[] lb1.toArray), (8, Qj ((p.getD k pw0)))] ((b4, bV (Zz (tgQ (p.take k) q)) 41) :: (b3, bV (.func (.func gf2) #[] lb2.toArray) 169) :: (l_k, Obj.loop r_k) :: τ_k) (Φ) a w := by exact h.sub sA
  refine Zja (by repeat (first | apply Zgn | apply Zfe | exact (fun ⟨_, _, hh⟩ => hh.elim) | exact (fun ⟨_, _, hh⟩ => nomatch hh.1))) rfl ?_
  refine Zc (Zav h Zas dd ?_); clear h; intro b5 a w h
  refine Zc (Ge h rfl rfl Yr (by repeat (first | exact Upd.head | apply Upd.tail | apply Upd.append)) sizeOf107 rfl (Nat.le_of_ble_eq_true rfl) rfl ?_); clear h; intro a w h
  refine wpList_nil ?_
  refine ⟨[(b5, bV (Qj ((p.getD k pw0))) 107)] ++ ([(b4, bV (Zz (tgQ (p.take k) q)) 41)] ++ ([(b3, bV (.func (.func gf2) #[] lb2.toArray) 169)])), _, by exact h, fun w h => ?_⟩
  replace h : St 36 S w0 [(0, .func (.func gf1) #[] lb1.toArray), (1, .func (.func gf2) #[] lb2.toArray), (3, pB b3), (4, pB b4), (5, pB b5), (7, .func (.func gf1) #[] lb1.toArray), (8, Qj ((p.getD k pw0)))] ((b5, bV (Qj ((p.getD k pw0))) 107) :: (b4, bV (Zz (tgQ (p.take k) q)) 41) :: (b3, bV (.func (.func gf2) #[] lb2.toArray) 169) :: (l_k, Obj.loop { r_k with state := .busy }) :: τ_k) (Φ) a w := by exact h.sub sA
  refine wpIn_block ?_
  refine wpIn_seq ?_
  refine Zja (by repeat (first | apply Zgn | apply Zfe | exact (fun ⟨_, _, hh⟩ => hh.elim) | exact (fun ⟨_, _, hh⟩ => nomatch hh.1))) rfl ?_
  refine Zc (Ql h rfl (by repeat (first | exact List.Mem.head _ | apply List.Mem.tail | apply List.mem_append_right)) isAgg169 sizeOf169 rs_1_0 dd ?_); clear h; intro a h
  refine wpList_nil ?_
  change Code.wpIn _ _ _ _ _ _ _
  refine wpIn_block ?_
  refine Qd2 h hS (l0 := l_k) (by first | assumption | (repeat (first | exact List.Mem.head _ | apply List.Mem.tail | apply List.mem_append_right))) (gf := gf2) (lb := lb2) (xs := q.map Qj) rfl hg2 hit2 dd (fun m => ((b5, bV (Qj ((p.getD k pw0))) 107) :: (b4, bV (Zz (tgK p q k m)) 41) :: (b3, bV (.func (.func gf2) #[] lb2.toArray) 169) :: (l_k, Obj.loop { r_k with state := .busy }) :: τ_k)) (List.Perm.refl _) (fun m hk_m => ?_) (fun o w h => ?_)
  ·
   skip
   clear h
   rw [List.length_map] at hk_m
   rw [Zhm hk_m]
   have hy := hq.2 _ (getD_mem q (d := pw0) hk_m)
   have hst := Zz4 p k hk_m
   unfold tgS at hst
   have hlk := Qa1 hp hq hk_k m
   intro S w0 l_m r_m τ_m a w hS hr_m h
   replace h : St 36 S w0 [(0, .func (.func gf1) #[] lb1.toArray), (1, .func (.func gf2) #[] lb2.toArray), (3, pB b3), (4, pB b4), (5, pB b5), (7, .func (.func gf1) #[] lb1.toArray), (8, Qj ((p.getD k pw0))), (9, .func (.func gf2) #[] lb2.toArray), (10, Qj ((q.getD m pw0)))] ((b5, bV (Qj ((p.getD k pw0))) 107) :: ((b4, bV (Zz (tgK p q k m)) 41) :: ((b3, bV (.func (.func gf2) #[] lb2.toArray) 169) :: ((l_k, Obj.loop { r_k with state := .busy }) :: (τ_k ++ ((l_m, Obj.loop r_m) :: τ_m)))))) (Φ) a w := by exact h.sub sA
   refine Zja (by repeat (first | apply Zgn | apply Zfe | exact (fun ⟨_, _, hh⟩ => hh.elim) | exact (fun ⟨_, _, hh⟩ => nomatch hh.1))) rfl ?_
   refine Zc (Zav h Zas dd ?_); clear h; intro b6 a w h
   refine Zc (Ge h rfl rfl Yr (by repeat (first | exact Upd.head | apply Upd.tail | apply Upd.append)) sizeOf107 rfl (Nat.le_of_ble_eq_true rfl) rfl ?_); clear h; intro a w h
   refine wpList_nil ?_
   refine ⟨[(b6, bV (Qj ((q.getD m pw0))) 107)] ++ ([(b5, bV (Qj ((p.getD k pw0))) 107)] ++ ([(b4, bV (Zz (tgK p q k m)) 41)] ++ ([(b3, bV (.func (.func gf2) #[] lb2.toArray) 169)] ++ ([(l_k, Obj.loop { r_k with state := .busy })] ++ (τ_k))))), _, by exact h, fun w h => ?_⟩
   replace h : St 36 S w0 [(0, .func (.func gf1) #[] lb1.toArray), (1, .func (.func gf2) #[] lb2.toArray), (3, pB b3), (4, pB b4), (5, pB b5), (6, pB b6), (7, .func (.func gf1) #[] lb1.toArray), (8, Qj ((p.getD k pw0))), (9, .func (.func gf2) #[] lb2.toArray), (10, Qj ((q.getD m pw0)))] ((b6, bV (Qj ((q.getD m pw0))) 107) :: ((b5, bV (Qj ((p.getD k pw0))) 107) :: ((b4, bV (Zz (tgK p q k m)) 41) :: ((b3, bV (.func (.func gf2) #[] lb2.toArray) 169) :: ((l_k, Obj.loop { r_k with state := .busy }) :: (τ_k ++ ((l_m, Obj.loop { r_m with state := .busy }) :: τ_m))))))) (Φ) a w := by exact h.sub sA
   refine wpIn_block ?_
   refine Qbm Za (by repeat (first | apply Zgn | apply Zfe | exact (fun ⟨_, _, hh⟩ => hh.elim) | exact (fun ⟨_, _, hh⟩ => nomatch hh.1))) rfl h [0, 1, 2, 3, 4, 6, 7, 8, 9, 10, 11, 12, 13, 14, 15, 16, 17, 18, 19, 20, 5, 21, 22, 23, 24] kk kk rfl (Ze kk) ?_; clear h
   refine Yp rfl kk rfl (by repeat (first | exact List.Mem.head _ | apply List.Mem.tail | apply List.mem_append_right)) isAgg41 sizeOf41 Zl dd ?_
   refine Xu rfl kk (.fA rfl Vl) dd ?_
   refine Yp rfl kk rfl (by repeat (first | exact List.Mem.head _ | apply List.Mem.tail | apply List.mem_append_right)) isAgg41 sizeOf41 Vh dd ?_
   refine Xu rfl kk (.fA rfl Vl) dd ?_
   refine Yp rfl kk rfl (by repeat (first | exact List.Mem.head _ | apply List.Mem.tail | apply List.mem_append_right)) isAgg41 sizeOf41 Vh dd ?_
   refine Xu rfl kk (.fA rfl Vo) dd ?_
   refine Yp rfl kk rfl (by repeat (first | exact List.Mem.head _ | apply List.Mem.tail | apply List.mem_append_right)) isAgg3 sizeOf3 Zbm dd ?_
   refine Xu rfl kk (.fA rfl Vo) dd ?_
   refine Yp rfl kk rfl (by repeat (first | exact List.Mem.head _ | apply List.Mem.tail | apply List.mem_append_right)) isAgg3 sizeOf3 Zbm dd ?_
   refine Xu rfl kk (.pN ((((p.getD k pw0)).i) + (((q.getD m pw0)).i)) (.binOp rfl rfl (fun _ => Gn _ _ _ _ _ (wrap_i64 _ oo oo)))) dd ?_
   refine Xu rfl kk (.fA rfl Vn) dd ?_
   refine Yp rfl kk rfl (by repeat (first | exact List.Mem.head _ | apply List.Mem.tail | apply List.mem_append_right)) isAgg3 sizeOf3 Zbl dd ?_
   refine Xu rfl kk (.fA rfl Vn) dd ?_
   refine Yp rfl kk rfl (by repeat (first | exact List.Mem.head _ | apply List.Mem.tail | apply List.mem_append_right)) isAgg3 sizeOf3 Zbl dd ?_
   refine Xu rfl kk (.pN ((((p.getD k pw0)).j) + (((q.getD m pw0)).j)) (.binOp rfl rfl (fun _ => Gn _ _ _ _ _ (wrap_i64 _ oo oo)))) dd ?_
   refine Xu rfl kk (.fA rfl Vm) dd ?_
   refine Yp rfl kk rfl (by repeat (first | exact List.Mem.head _ | apply List.Mem.tail | apply List.mem_append_right)) isAgg3 sizeOf3 Zbk dd ?_
   refine Xu rfl kk (.fA rfl Vm) dd ?_
   refine Yp rfl kk rfl (by repeat (first | exact List.Mem.head _ | apply List.Mem.tail | apply List.mem_append_right)) isAgg3 sizeOf3 Zbk dd ?_
   refine Xu rfl kk (.pN ((((p.getD k pw0)).k) + (((q.getD m pw0)).k)) (.binOp rfl rfl (fun _ => Gn _ _ _ _ _ (wrap_i64 _ oo oo)))) dd ?_
   refine Vz rfl kk (vs := [_, _]) rfl call18 (Ja _ _ oo oo) dd ?_
   have hl16 := Zo (((p.getD k pw0)).c) (((q.getD m pw0)).c)
   refine Vz rfl kk (vs := [_, _, _]) rfl call154 (Qcl _ _ _ oo oo oo) dd ?_
   have hl32 := Zjp ((((p.getD k pw0)).i) + (((q.getD m pw0)).i)) ((((p.getD k pw0)).j) + (((q.getD m pw0)).j)) ((((p.getD k pw0)).k) + (((q.getD m pw0)).k)) oo oo oo
   refine Vz rfl kk (vs := [_, _]) rfl call18 (Ja _ _ oo oo) dd ?_
   have hl33 := Zo ((((p.getD k pw0)).c) * (((q.getD m pw0)).c)) (Zeo ((((p.getD k pw0)).i) + (((q.getD m pw0)).i)) ((((p.getD k pw0)).j) + (((q.getD m pw0)).j)) ((((p.getD k pw0)).k) + (((q.getD m pw0)).k)))
   refine Vz rfl kk (vs := [_, _]) rfl call49 (Gw _ _ oo oo) dd ?_
   have hl34 := Qw (tgK p q k m) (((((p.getD k pw0)).c) * (((q.getD m pw0)).c)) * (Zeo ((((p.getD k pw0)).i) + (((q.getD m pw0)).i)) ((((p.getD k pw0)).j) + (((q.getD m pw0)).j)) ((((p.getD k pw0)).k) + (((q.getD m pw0)).k))))
   refine Zcb rfl kk rfl rfl Zu (by repeat (first | exact Upd.head | apply Upd.tail | apply Upd.append)) sizeOf41 rfl (Nat.le_of_ble_eq_true rfl) rfl ?_
   refine Zgr ?_; intro a w h
   rw [← hst] at h
   exact ⟨rfl, by exact (h.drop (by repeat (first | exact List.Sublist.refl _ | apply List.Sublist.cons))).mem⟩
  ·
   skip
   rw [List.length_map] at h
   replace h := h.drop (List.Sublist.cons _ (List.Sublist.refl _))
   rw [Qdo hk_k] at h
   exact ⟨rfl, by exact (h.drop (by repeat (first | exact List.Sublist.refl _ | apply List.Sublist.cons))).mem⟩
 ·
  skip
  rw [List.length_map] at h
  simp only [List.take_length] at h
  refine cW ?_
  refine wp_seq ?_
  refine wp_region_lit (Zvk ?_)
  refine Zc (Ql h rfl (by repeat (first | exact List.Mem.head _ | apply List.Mem.tail | apply List.mem_append_right)) isAgg41 sizeOf41 Zl dd ?_); clear h; intro a h
  refine Zc (Ge h rfl rfl Zu (by repeat (first | exact Upd.head | apply Upd.tail | apply Upd.append)) sizeOf41 rfl (Nat.le_of_ble_eq_true rfl) rfl ?_); clear h; intro a w h
  refine wpList_nil ?_
  refine cW ?_
  refine wp_ret ?_
  refine retMk h Upd.head (fun w h => Zk h rfl (.cell rfl (by repeat (first | exact List.Mem.head _ | apply List.Mem.tail | apply List.mem_append_right)) isAgg41 sizeOf41 Zl)) ⟨rfl, rfl⟩ (fun _ hR => nomatch hR)
end
end Go.Proofs.YthcjdeklpegceaaGreatDoor
