/- Written by a program of ours (gen.py) out of short specifications. By an AI agent. -/
import Derived.Test.YtkhnecelhpnaoaaGreatDoorLaw10m
set_option linter.unusedVariables false
set_option linter.unusedSimpArgs false
set_option maxRecDepth 4000
namespace Go.Proofs.YtkhnecelhpnaoaaGreatDoor
open Go Go.Proofs Go.Fx
attribute [local irreducible] Oper.wp Code.wp wpList Fx.Head wpOp

/-! ### Rules and polynomials -/
/-- The point that the code mixes: the first k numbers. -/
def mixN (ns : List Rat) (l : List Pt) : Nat → Pt
  | 0 => (0, 0)
  | k + 1 => ((mixN ns l k).1 + ns.getD k 0 * (l.getD k (0, 0)).1, (mixN ns l k).2 + ns.getD k 0 * (l.getD k (0, 0)).2)
theorem lenQ_mixN {K Kp : Nat} {ns : List Rat} {l : List Pt} (hn : ∀ x ∈ ns, lenQ x ≤ K) (hl : ∀ x ∈ l, PtK Kp x) : ∀ k, k ≤ ns.length → k ≤ l.length → PtK (2 + k * (K + Kp + 1)) (mixN ns l k)
  | 0, _, _ => by have := lenQ_zero; exact ⟨by show lenQ 0 ≤ _; omega, by show lenQ 0 ≤ _; omega⟩
  | k + 1, h1, h2 => by
    obtain ⟨i1, i2⟩ := lenQ_mixN hn hl k (by omega) (by omega)
    have hx := hn _ (getD_mem ns (d := 0) (show k < ns.length by omega))
    obtain ⟨p1, p2⟩ := hl _ (getD_mem l (d := (0, 0)) (show k < l.length by omega))
    have m1 := lenQ_mul (ns.getD k 0) (l.getD k (0, 0)).1
    have m2 := lenQ_mul (ns.getD k 0) (l.getD k (0, 0)).2
    have a1 := lenQ_add (mixN ns l k).1 (ns.getD k 0 * (l.getD k (0, 0)).1)
    have a2 := lenQ_add (mixN ns l k).2 (ns.getD k 0 * (l.getD k (0, 0)).2)
    rw [Nat.add_mul]
    exact ⟨by show lenQ ((mixN ns l k).1 + _) ≤ _; omega, by show lenQ ((mixN ns l k).2 + _) ≤ _; omega⟩
/-- A rule's point in a triangle. -/
def mix3 (p : Rat × Rat × Rat) (a b c : Pt) : Pt := mixN [p.1, p.2.1, p.2.2] [a, b, c] 3
theorem mix3_1 (p : Rat × Rat × Rat) (a b c : Pt) : (mix3 p a b c).1 = p.1 * a.1 + p.2.1 * b.1 + p.2.2 * c.1 := by
  show 0 + p.1 * a.1 + p.2.1 * b.1 + p.2.2 * c.1 = _; grind
theorem mix3_2 (p : Rat × Rat × Rat) (a b c : Pt) : (mix3 p a b c).2 = p.1 * a.2 + p.2.1 * b.2 + p.2.2 * c.2 := by
  show 0 + p.1 * a.2 + p.2.1 * b.2 + p.2.2 * c.2 = _; grind
/-- The sum that Apply takes: the first n points. -/
def apN (ps : List (Rat × Rat × Rat)) (ws : List Rat) (p : List Tm) (a b c : Pt) : Nat → Rat
  | 0 => 0
  | n + 1 => apN ps ws p a b c n + ws.getD n 0 * evP p (mix3 (ps.getD n (0, 0, 0)) a b c).1 (mix3 (ps.getD n (0, 0, 0)) a b c).2
def applyQ (ps : List (Rat × Rat × Rat)) (ws : List Rat) (p : List Tm) (a b c : Pt) : Rat := twQ a b c / ((2 : Int) : Rat) * apN ps ws p a b c ws.length
theorem apN_eqv {p q : List Tm} (h : Eqv p q) (ps : List (Rat × Rat × Rat)) (ws : List Rat) (a b c : Pt) : ∀ n, apN ps ws p a b c n = apN ps ws q a b c n
  | 0 => rfl
  | n + 1 => by rw [apN, apN, apN_eqv h ps ws a b c n, h.val]
theorem apN_app (p q : List Tm) (ps : List (Rat × Rat × Rat)) (ws : List Rat) (a b c : Pt) : ∀ n, apN ps ws (p ++ q) a b c n = apN ps ws p a b c n + apN ps ws q a b c n
  | 0 => by simp only [apN]; grind
  | n + 1 => by rw [apN, apN, apN, apN_app p q ps ws a b c n, ev_append]; grind
theorem apply_eqv {p q : List Tm} (h : Eqv p q) (ps : List (Rat × Rat × Rat)) (ws : List Rat) (a b c : Pt) : applyQ ps ws p a b c = applyQ ps ws q a b c := by unfold applyQ; rw [apN_eqv h]
theorem apply_app (p q : List Tm) (ps : List (Rat × Rat × Rat)) (ws : List Rat) (a b c : Pt) : applyQ ps ws (norm (p ++ q)) a b c = applyQ ps ws p a b c + applyQ ps ws q a b c := by
  rw [apply_eqv (Eqv.nrm _)]; unfold applyQ; rw [apN_app]; grind
/-- A valid rule sums a polynomial's values as its monomials' sums over the unit triangle. -/
theorem apN_lin (ps : List (Rat × Rat × Rat)) (ws : List Rat) (p : List Tm) (a b c : Pt) (hle : ps.length = ws.length) (hs : ∀ x ∈ ps, sum3 x = ((1 : Int) : Rat)) :
    ∀ n, n ≤ ws.length → apN ps ws p a b c n = lin (fun i j => msum ps ws 0 i j n) (shL p (b.1 - a.1) (c.1 - a.1) a.1 (b.2 - a.2) (c.2 - a.2) a.2)
  | 0, _ => by simp only [apN, msum]; rw [lin_zero]
  | n + 1, h => by
    have hx := hs _ (getD_mem ps (d := (0, 0, 0)) (show n < ps.length by omega))
    have e1 : ((1 : Int) : Rat) = 1 := rfl
    have hx2 : (ps.getD n (0, 0, 0)).1 + (ps.getD n (0, 0, 0)).2.1 + (ps.getD n (0, 0, 0)).2.2 = 1 := by
      rw [e1] at hx; rw [← hx]; show _ = 0 + (ps.getD n (0, 0, 0)).1 + (ps.getD n (0, 0, 0)).2.1 + (ps.getD n (0, 0, 0)).2.2; grind
    rw [apN, apN_lin ps ws p a b c hle hs n (by omega)]
    simp only [msum]
    rw [lin_add, lin_smul]
    congr 2
    have e2 : (fun i j : Nat => (ps.getD n (0, 0, 0)).1 ^ 0 * ((ps.getD n (0, 0, 0)).2.1 ^ i * (ps.getD n (0, 0, 0)).2.2 ^ j)) = fun i j => (ps.getD n (0, 0, 0)).2.1 ^ i * (ps.getD n (0, 0, 0)).2.2 ^ j := by
      funext i j; rw [Rat.pow_zero]; grind
    rw [e2]
    show _ = evP _ (ps.getD n (0, 0, 0)).2.1 (ps.getD n (0, 0, 0)).2.2
    rw [ev_shL, mix3_1, mix3_2]
    congr 1 <;> grind
theorem moment0 (i j : Nat) : momentQ 0 i j = 2 * mu i j := by
  rw [← ratio_mu]
  unfold momentQ ratioQ
  simp only [List.foldl_cons, Nat.zero_add]
  rfl
theorem check_of {ps : List (Rat × Rat × Rat)} {ws : List Rat} (h : checkI ps ws = 0) : ps.length = ws.length ∧ ∀ x ∈ ps, sum3 x = ((1 : Int) : Rat) := by
  unfold checkI at h
  split at h
  · rename_i h1
    split at h
    · rename_i h2; exact ⟨h1, h2⟩
    · cases h
  · cases h
theorem DL_shL {d : Nat} {p : List Tm} (h : DL d p) (a b c e f g : Rat) : DL d (shL p a b c e f g) := fun u hu => by
  unfold shL sbL at hu
  obtain ⟨t, ht, hu⟩ := List.mem_flatMap.1 hu
  have hd := h t ht
  have hl : ∀ x y z : Rat, DL 1 (ln x y z) := fun x y z s hs => by
    simp only [ln, List.mem_cons, List.not_mem_nil, or_false] at hs
    rcases hs with rfl | rfl | rfl <;> simp
  have hp : ∀ (x y z : Rat) (n : Nat), DL n (powL (ln x y z) n) := fun x y z n => by
    induction n with
    | zero => intro s hs; rw [powL, List.mem_singleton] at hs; subst hs; simp
    | succ n ih => exact DL_mulL ih (hl x y z)
  have h1 := DL_scaleL t.c (DL_mulL (hp a b c t.i) (hp e f g t.j)) u hu
  omega
/-- A rule that is exact for all monomials of degree at most d integrates every polynomial of degree at most d. -/
theorem apply_exact {ps : List (Rat × Rat × Rat)} {ws : List Rat} {p : List Tm} {d : Nat} (hc : checkI ps ws = 0) (hd : DL d p) (hok : ∀ x, x ≤ d → okDeg ps ws x) (a b c : Pt) : applyQ ps ws p a b c = triQ p a b c := by
  obtain ⟨hle, hs⟩ := check_of hc
  unfold applyQ triQ
  rw [apN_lin ps ws p a b c hle hs ws.length (Nat.le_refl _)]
  have e : lin (fun i j => msum ps ws 0 i j ws.length) (shL p (b.1 - a.1) (c.1 - a.1) a.1 (b.2 - a.2) (c.2 - a.2) a.2) = 2 * lin mu (shL p (b.1 - a.1) (c.1 - a.1) a.1 (b.2 - a.2) (c.2 - a.2) a.2) := by
    rw [← lin_smul]
    refine lin_congr (fun t ht => ?_)
    have h1 := DL_shL hd _ _ _ _ _ _ t ht
    have h2 := hok (t.i + t.j) h1 0 (by omega) t.i (by omega)
    rw [show t.i + t.j - 0 - t.i = t.j by omega, moment0] at h2
    exact h2
  rw [e]
  have e2 : ((2 : Int) : Rat) = 2 := rfl
  rw [e2]; grind
theorem exN_ok (ps : List (Rat × Rat × Rat)) (ws : List Rat) : ∀ f d x, d ≤ x → x < exN ps ws f d → okDeg ps ws x
  | 0, d, x, h1, h2 => by rw [exN] at h2; omega
  | f + 1, d, x, h1, h2 => by
    rw [exN] at h2
    split at h2
    · rename_i h3
      by_cases e : x = d
      · rw [e]; exact h3
      · exact exN_ok ps ws f (d + 1) x (by omega) h2
    · omega
theorem exN_le (ps : List (Rat × Rat × Rat)) (ws : List Rat) : ∀ f d, d ≤ exN ps ws f d ∧ exN ps ws f d ≤ d + f
  | 0, d => by rw [exN]; omega
  | f + 1, d => by
    rw [exN]
    split
    · have := exN_le ps ws f (d + 1); omega
    · omega
theorem exactI_ok {ps : List (Rat × Rat × Rat)} {ws : List Rat} {x : Nat} (h : (x : Int) ≤ exactI ps ws) : okDeg ps ws x := by
  unfold exactI at h; exact exN_ok ps ws 13 0 x (Nat.zero_le _) (by omega)
theorem exactI_range (ps : List (Rat × Rat × Rat)) (ws : List Rat) : -1 ≤ exactI ps ws ∧ exactI ps ws ≤ 12 := by
  have := exN_le ps ws 13 0; unfold exactI; omega
theorem exactI_neg {ps : List (Rat × Rat × Rat)} {ws : List Rat} (h : exactI ps ws < 0) : ¬ okDeg ps ws 0 := fun h0 => by
  have h1 := exN_le ps ws 12 1
  have h2 : exN ps ws 13 0 = exN ps ws 12 1 := by rw [exN, if_pos h0]
  unfold exactI at h; omega
def oneL : List Tm := [⟨0, 0, ((1 : Int) : Rat)⟩]
theorem ev_oneL (x y : Rat) : evP oneL x y = 1 := by
  have e1 : ((1 : Int) : Rat) = 1 := rfl
  rw [oneL, ev_single, Rat.pow_zero, e1]; grind
theorem apN_one (ps : List (Rat × Rat × Rat)) (ws : List Rat) (a b c : Pt) : ∀ n, apN ps ws oneL a b c n = msum ps ws 0 0 0 n
  | 0 => rfl
  | n + 1 => by rw [apN, msum, apN_one ps ws a b c n, ev_oneL, Rat.pow_zero, Rat.pow_zero, Rat.pow_zero]; grind
theorem tri_oneL (a b c : Pt) : triQ oneL a b c = twQ a b c / ((2 : Int) : Rat) := tri_one a b c
/-- A rule that is not exact for 1 does not give the area. -/
theorem apply_one_ne {ps : List (Rat × Rat × Rat)} {ws : List Rat} (hx : exactI ps ws < 0) (a b c : Pt) (hz : twQ a b c / ((2 : Int) : Rat) ≠ 0) : applyQ ps ws (norm oneL) a b c ≠ twQ a b c / ((2 : Int) : Rat) := fun e => by
  rw [apply_eqv (Eqv.nrm _)] at e
  unfold applyQ at e
  rw [apN_one] at e
  have h1 : msum ps ws 0 0 0 ws.length = 1 := by
    generalize twQ a b c / ((2 : Int) : Rat) = z at *
    have : z * (msum ps ws 0 0 0 ws.length - 1) = 0 := by grind
    rcases Rat.mul_eq_zero.1 this with h | h
    · exact absurd h hz
    · grind
  refine exactI_neg hx (fun i hi j hj => ?_)
  obtain rfl : i = 0 := by omega
  obtain rfl : j = 0 := by omega
  rw [h1, moment0, mu00]; grind
/-! ### Lines -/
def mix2 (t : Rat) (a b : Pt) : Pt := mixN [((1 : Int) : Rat) - t, t] [a, b] 2
theorem mix2_1 (t : Rat) (a b : Pt) : (mix2 t a b).1 = (b.1 - a.1) * t + a.1 := by
  have e1 : ((1 : Int) : Rat) = 1 := rfl
  show 0 + (((1 : Int) : Rat) - t) * a.1 + t * b.1 = _; rw [e1]; grind
theorem mix2_2 (t : Rat) (a b : Pt) : (mix2 t a b).2 = (b.2 - a.2) * t + a.2 := by
  have e1 : ((1 : Int) : Rat) = 1 := rfl
  show 0 + (((1 : Int) : Rat) - t) * a.2 + t * b.2 = _; rw [e1]; grind
def apLN (ats ws : List Rat) (p : List Tm) (a b : Pt) : Nat → Rat
  | 0 => 0
  | n + 1 => apLN ats ws p a b n + ws.getD n 0 * evP p (mix2 (ats.getD n 0) a b).1 (mix2 (ats.getD n 0) a b).2
theorem apLN_lin (ats ws : List Rat) (p : List Tm) (a b : Pt) : ∀ n, apLN ats ws p a b n = lin (fun i _ => lsum ats ws i n) (shL p (b.1 - a.1) 0 a.1 (b.2 - a.2) 0 a.2)
  | 0 => by simp only [apLN, lsum]; rw [lin_zero]
  | n + 1 => by
    rw [apLN, apLN_lin ats ws p a b n]
    simp only [lsum]
    rw [lin_add, lin_smul]
    congr 2
    have e : (fun (i : Nat) (_ : Nat) => ats.getD n 0 ^ i) = fun i j => ats.getD n 0 ^ i * 1 ^ j := by
      funext i j; rw [qone_pow]; grind
    rw [e]
    show _ = evP _ (ats.getD n 0) 1
    rw [ev_shL, mix2_1, mix2_2]
    congr 1 <;> grind
theorem applyL_exact {ats ws : List Rat} {p : List Tm} {d : Nat} (hd : DL d p) (hok : ∀ x, x ≤ d → okL ats ws x) (a b : Pt) : apLN ats ws p a b ws.length = segQ p a b := by
  rw [apLN_lin]
  unfold segQ
  refine lin_congr (fun t ht => ?_)
  have h1 := DL_shL hd _ _ _ _ _ _ t ht
  exact hok t.i (by omega)
theorem exL_ok (ats ws : List Rat) : ∀ f d x, d ≤ x → x < exL ats ws f d → okL ats ws x
  | 0, d, x, h1, h2 => by rw [exL] at h2; omega
  | f + 1, d, x, h1, h2 => by
    rw [exL] at h2
    split at h2
    · rename_i h3
      by_cases e : x = d
      · rw [e]; exact h3
      · exact exL_ok ats ws f (d + 1) x (by omega) h2
    · omega
theorem lineI_ok {ats ws : List Rat} {x : Nat} (h : (x : Int) ≤ lineI ats ws) : okL ats ws x := by
  unfold lineI at h; exact exL_ok ats ws 13 0 x (Nat.zero_le _) (by omega)
/-! ### Sizes -/
theorem lenQ_apN {d K Kx : Nat} {ps : List (Rat × Rat × Rat)} {ws : List Rat} {p : List Tm} {a b c : Pt} (hw : ∀ x ∈ ws, lenQ x ≤ 1000) (he : ∀ n, n < ps.length → lenQ (evP p (mix3 (ps.getD n (0, 0, 0)) a b c).1 (mix3 (ps.getD n (0, 0, 0)) a b c).2) ≤ K) (hle : ps.length = ws.length) :
    ∀ n, n ≤ ws.length → lenQ (apN ps ws p a b c n) ≤ 2 + n * (K + 1001)
  | 0, _ => by rw [apN]; have := lenQ_zero; omega
  | n + 1, h => by
    have ih := lenQ_apN (d := d) (Kx := Kx) hw he hle n (by omega)
    have h1 := he n (by omega)
    have h2 := hw _ (getD_mem ws (d := 0) (show n < ws.length by omega))
    have h3 := lenQ_mul (ws.getD n 0) (evP p (mix3 (ps.getD n (0, 0, 0)) a b c).1 (mix3 (ps.getD n (0, 0, 0)) a b c).2)
    have h4 := lenQ_add (apN ps ws p a b c n) (ws.getD n 0 * evP p (mix3 (ps.getD n (0, 0, 0)) a b c).1 (mix3 (ps.getD n (0, 0, 0)) a b c).2)
    rw [apN, Nat.add_mul]; omega

end Go.Proofs.YtkhnecelhpnaoaaGreatDoor
