/- Walks of functions. By an AI agent. -/
import Derived.Test.YtgkicbaomcmfoaaGreatDoorPoly3
import Derived.Test.YtgkicbaomcmfoaaGreatDoorFxM
set_option linter.unusedVariables false
set_option linter.unusedSimpArgs false
set_option maxRecDepth 4000
namespace Go.Proofs.YtgkicbaomcmfoaaGreatDoor
open Go Go.Proofs Go.Fx Tryz
attribute [local irreducible] Oper.wp Code.wp wpList Fx.Head wpOp
section
def KL (K : Nat) (l : List Tm) : Prop := ∀ t ∈ l, Jr t.c ≤ K
def DL (d : Nat) (l : List Tm) : Prop := ∀ t ∈ l, t.i + t.j ≤ d
theorem KL.mono {K K' : Nat} {l : List Tm} (h : KL K l) (hk : K ≤ K') : KL K' l := fun t ht => Nat.le_trans (h t ht) hk
theorem DL.mono {d d' : Nat} {l : List Tm} (h : DL d l) (hk : d ≤ d') : DL d' l := fun t ht => Nat.le_trans (h t ht) hk
def cntP (i j : Nat) : List Tm → Nat
 | [] => 0
 | t :: l => (if t.i = i ∧ t.j = j then 1 else 0) + cntP i j l
theorem Zxe (i j : Nat) : ∀ l : List Tm, cntP i j l ≤ l.length
 | [] => Nat.le_refl _
 | t :: l => by have := Zxe i j l; rw [cntP, List.length_cons]; split <;> omega
theorem Zmv {K : Nat} {f : Nat → Nat → Nat} {t : Tm} (ht : Jr t.c ≤ K) : ∀ {p : List Tm}, (∀ u ∈ p, Jr u.c ≤ f u.i u.j) → ∀ u ∈ Zb0 t p, Jr u.c ≤ f u.i u.j + (if t.i = u.i ∧ t.j = u.j then K + 1 else 0)
 | [], _, u, hu => by
  rw [Zb0, List.mem_singleton] at hu
  subst hu
  have e : 0 + t.c = t.c := by grind
  simp only [and_self, if_true, e]; omega
 | s :: p, h, u, hu => by
  have h0 := h s List.mem_cons_self
  rw [Zb0] at hu
  split at hu
  ·
   rename_i hs
   rcases List.mem_cons.1 hu with rfl | hu
   ·
    have := Zet s.c t.c
    rw [if_pos ⟨hs.1.symm, hs.2.symm⟩]
    simp only; omega
   · have := h u (List.mem_cons_of_mem _ hu); omega
  ·
   rcases List.mem_cons.1 hu with rfl | hu
   · omega
   · exact Zmv ht (fun v hv => h v (List.mem_cons_of_mem _ hv)) u hu
theorem Zck {K : Nat} : ∀ (l : List Tm) {p : List Tm} {f : Nat → Nat → Nat}, KL K l → (∀ u ∈ p, Jr u.c ≤ f u.i u.j) →
  ∀ u ∈ l.foldl (fun p t => Zb0 t p) p, Jr u.c ≤ f u.i u.j + cntP u.i u.j l * (K + 1)
 | [], p, f, _, h, u, hu => by have := h u hu; omega
 | t :: l, p, f, hl, h, u, hu => by
  rw [List.foldl_cons] at hu
  have ih := Zck l (f := fun i j => f i j + (if t.i = i ∧ t.j = j then K + 1 else 0)) (fun s hs => hl s (List.mem_cons_of_mem _ hs)) (Zmv (hl t List.mem_cons_self) h) u hu
  rw [cntP, Nat.add_mul]
  split at ih
  · rename_i hc; rw [if_pos hc]; omega
  · rename_i hc; rw [if_neg hc]; omega
theorem Znh {K : Nat} {l : List Tm} (h : KL K l) : ∀ u ∈ collect l, Jr u.c ≤ cntP u.i u.j l * (K + 1) := fun u hu => by
 have := Zck l (f := fun _ _ => 0) (p := []) h (fun _ hv => nomatch hv) u hu
 omega
theorem Qfi {Ka Kb : Nat} {a b : List Tm} (ha : KL Ka a) (hb : KL Kb b) : KL (Ka + Kb) (Vh a b) := fun u hu => by
 unfold Vh at hu
 obtain ⟨s, hs, hu⟩ := List.mem_flatMap.1 hu
 obtain ⟨t, ht, rfl⟩ := List.mem_map.1 hu
 have := Za3 s.c t.c
 have := ha s hs
 have := hb t ht
 simp only; omega
theorem Zq7 (a b : List Tm) : (Vh a b).length = a.length * b.length := by
 unfold Vh
 induction a with
 | nil => simp
 | cons s a ih => rw [List.flatMap_cons, List.length_append, ih, List.length_map, List.length_cons, Nat.add_mul]; omega
theorem Yh {d : Nat} {l : List Tm} (h : DL d l) : DL d (norm l) := fun u hu => by
 obtain ⟨t, ht, h1, h2⟩ := Zcf (Zel hu).1
 rw [h1, h2]; exact h t ht
theorem Zis {d : Nat} {a b : List Tm} (ha : DL d a) (hb : DL d b) : DL d (a ++ b) := fun t ht => (List.mem_append.1 ht).elim (ha t) (hb t)
theorem Zx4 {da db : Nat} {a b : List Tm} (ha : DL da a) (hb : DL db b) : DL (da + db) (Vh a b) := fun u hu => by
 unfold Vh at hu
 obtain ⟨s, hs, hu⟩ := List.mem_flatMap.1 hu
 obtain ⟨t, ht, rfl⟩ := List.mem_map.1 hu
 have := ha s hs
 have := hb t ht
 simp only; omega
theorem Zir {d : Nat} {a : List Tm} (c : Rat) (h : DL d a) : DL d (Qj c a) := fun u hu => by
 unfold Qj at hu
 obtain ⟨t, ht, rfl⟩ := List.mem_map.1 hu
 exact h t ht
theorem DL_dyL {d : Nat} {a : List Tm} (h : DL d a) : DL d (dyL a) := fun u hu => by
 unfold dyL at hu
 obtain ⟨t, ht, rfl⟩ := List.mem_map.1 hu
 have := h t ht
 simp only; omega
def tri : Nat → Nat
 | 0 => 0
 | n + 1 => tri n + n + 1
theorem Zdg {m n : Nat} (h : m ≤ n) : tri m ≤ tri n := by
 induction h with
 | refl => exact Nat.le_refl _
 | step _ ih => rw [tri]; omega
def keyT (t : Tm) : Nat := tri (t.i + t.j) + t.j
theorem key_lt {s t : Tm} (h : ltT s t = true) : keyT s < keyT t := by
 rw [Zam] at h
 unfold keyT
 rcases h with h | ⟨h1, h2⟩
 ·
  have := Zdg (show s.i + s.j + 1 ≤ t.i + t.j from h)
  rw [tri] at this; omega
 · rw [h1]; omega
theorem Zms : ∀ (l : List Nat) (m n : Nat), l.Pairwise (· < ·) → (∀ x ∈ l, m ≤ x ∧ x < n) → l.length ≤ n - m
 | [], _, _, _, _ => Nat.zero_le _
 | x :: l, m, n, h, hb => by
  obtain ⟨h1, h2⟩ := List.pairwise_cons.1 h
  have h3 := hb x List.mem_cons_self
  have := Zms l (x + 1) n h2 (fun y hy => ⟨h1 y hy, (hb y (List.mem_cons_of_mem _ hy)).2⟩)
  rw [List.length_cons]; omega
theorem Zkq {d : Nat} {p : List Tm} (h : Nrm p) (hd : DL d p) : p.length ≤ tri (d + 1) := by
 have := Zms (p.map keyT) 0 (tri (d + 1)) (List.pairwise_map.2 (h.2.imp (fun {s t} hs => key_lt hs))) (fun x hx => by
  obtain ⟨t, ht, rfl⟩ := List.mem_map.1 hx
  have h1 := hd t ht
  have := Zdg h1
  refine ⟨Nat.zero_le _, ?_⟩
  unfold keyT; rw [tri]; omega)
 rw [List.length_map] at this; exact this
def ab (x : Rat) : Rat := if x < 0 then -x else x
theorem Zbx (x : Rat) : 0 ≤ ab x := by unfold ab; split <;> grind
theorem ab_add (x y : Rat) : ab (x + y) ≤ ab x + ab y := by unfold ab; split <;> split <;> split <;> grind
theorem Gk {x : Rat} (h : 0 ≤ x) : ab x = x := by unfold ab; rw [if_neg (by grind)]
theorem Zj0 (x : Rat) : ab (-x) = ab x := by unfold ab; split <;> split <;> grind
theorem Zse (x y : Rat) : ab (x * y) = ab x * ab y := by
 have key : ∀ x y : Rat, 0 ≤ x → 0 ≤ y → ab (x * y) = ab x * ab y := fun x y hx hy => by
  rw [Gk hx, Gk hy, Gk (Rat.mul_nonneg hx hy)]
 by_cases hx : 0 ≤ x <;> by_cases hy : 0 ≤ y
 · exact key x y hx hy
 · rw [show x * y = -(x * -y) by grind, Zj0, key x (-y) hx (by grind), Zj0]
 · rw [show x * y = -(-x * y) by grind, Zj0, key (-x) y (by grind) hy, Zj0]
 · rw [show x * y = -x * -y by grind, key (-x) (-y) (by grind) (by grind), Zj0, Zj0]
theorem Xj (a b : Nat) : (((a * b : Nat) : Int) : Rat) = ((a : Int) : Rat) * ((b : Int) : Rat) := by rw [Int.natCast_mul, Rat.intCast_mul]
theorem Jg (a : Nat) : (0 : Rat) ≤ ((a : Int) : Rat) := by
 have h := (Rat.intCast_le_intCast (a := 0) (b := (a : Int))).2 oo
 exact h
theorem Zxj {a b : Nat} (h : a ≤ b) : ((a : Int) : Rat) ≤ ((b : Int) : Rat) := Rat.intCast_le_intCast.2 oo
theorem Zte {a b : Nat} (h : ((a : Int) : Rat) ≤ ((b : Int) : Rat)) : a ≤ b := by have := Rat.intCast_le_intCast.1 h; omega
theorem Jl {a b c : Rat} (h : a ≤ b) (hc : 0 ≤ c) : a * c ≤ b * c := by
 have := Rat.mul_nonneg (show 0 ≤ b - a by grind) hc
 grind
theorem Zht {a b c d : Rat} (h : a ≤ b) (h2 : c ≤ d) (ha : 0 ≤ c) (hb : 0 ≤ b) : a * c ≤ b * d := by
 have h3 := Jl h ha
 have h4 := Jl h2 hb
 grind
def sab : List Tm → Rat
 | [] => 0
 | t :: l => ab t.c + sab l
theorem Zaa : ∀ l : List Tm, 0 ≤ sab l
 | [] => by rw [sab]; grind
 | t :: l => by have := Zaa l; have := Zbx t.c; rw [sab]; grind
theorem Zbm : ∀ l m : List Tm, sab (l ++ m) = sab l + sab m
 | [], m => by simp only [List.nil_append, sab]; grind
 | t :: l, m => by rw [List.cons_append, sab, sab, Zbm l m]; grind
theorem Zzf {l m : List Tm} (h : l.Perm m) : sab l = sab m := by
 induction h with
 | nil => rfl
 | cons x _ ih => rw [sab, sab, ih]
 | swap x y l => simp only [sab]; grind
 | trans _ _ h1 h2 => rw [h1, h2]
theorem Qdl {l : List Tm} {t : Tm} (h : t ∈ l) : ab t.c ≤ sab l := by
 induction l with
 | nil => cases h
 | cons s l ih =>
  rw [sab]
  rcases List.mem_cons.1 h with rfl | h
  · have := Zaa l; grind
  · have := ih h; have := Zbx s.c; grind
theorem Zjc (f : Tm → Bool) : ∀ l : List Tm, sab (l.filter f) ≤ sab l
 | [] => by rw [List.filter_nil]; grind
 | t :: l => by
  have := Zjc f l
  have := Zbx t.c
  rw [List.filter_cons]
  split
  · rw [sab, sab]; grind
  · rw [sab]; grind
theorem Zqp (t : Tm) : ∀ p : List Tm, sab (Zb0 t p) ≤ sab p + ab t.c
 | [] => by
  have e : 0 + t.c = t.c := by grind
  simp only [Zb0, sab, e]; grind
 | s :: p => by
  rw [Zb0]
  split
  · have := ab_add s.c t.c; simp only [sab]; grind
  · have := Zqp t p; simp only [sab]; grind
theorem Zcw : ∀ (l p : List Tm), sab (l.foldl (fun p t => Zb0 t p) p) ≤ sab p + sab l
 | [], p => by simp only [List.foldl_nil, sab]; grind
 | t :: l, p => by
  have h1 := Zcw l (Zb0 t p)
  have h2 := Zqp t p
  rw [List.foldl_cons]; simp only [sab]; grind
theorem Zzg (l : List Tm) : sab (norm l) ≤ sab l := by
 rw [norm, Zzf (List.mergeSort_perm _ _)]
 have h1 := Zjc (fun t => decide (t.c ≠ 0)) (collect l)
 have h2 := Zcw l []
 have h3 : collect l = l.foldl (fun p t => Zb0 t p) [] := rfl
 rw [← h3] at h2
 simp only [sab] at h2
 grind
theorem Zhn (c : Rat) : ∀ l : List Tm, sab (Qj c l) = ab c * sab l
 | [] => by simp only [Qj, List.map_nil, sab]; grind
 | t :: l => by
  have := Zhn c l
  have := Zse c t.c
  simp only [Qj, List.map_cons, sab] at *
  grind
theorem Zdz (s : Tm) : ∀ b : List Tm, sab (b.map (fun t => (⟨s.i + t.i, s.j + t.j, s.c * t.c⟩ : Tm))) = ab s.c * sab b
 | [] => by simp only [List.map_nil, sab]; grind
 | t :: b => by
  have := Zdz s b
  have := Zse s.c t.c
  simp only [List.map_cons, sab] at *
  grind
theorem Zkh (b : List Tm) : ∀ a : List Tm, sab (Vh a b) = sab a * sab b
 | [] => by show sab [] = _; simp only [sab]; grind
 | s :: a => by
  have ih := Zkh b a
  have h := Zdz s b
  unfold Vh at *
  rw [List.flatMap_cons, Zbm, ih, h, sab]; grind
def ID (D : Nat) (x : Rat) : Prop := ∃ z : Int, x * ((D : Int) : Rat) = (z : Rat)
theorem ID.mul {D E : Nat} {x y : Rat} (h : ID D x) (h2 : ID E y) : ID (D * E) (x * y) := by
 obtain ⟨z, hz⟩ := h
 obtain ⟨w, hw⟩ := h2
 exact ⟨z * w, by rw [Xj, Rat.intCast_mul, ← hz, ← hw]; grind⟩
theorem ID.add {D : Nat} {x y : Rat} (h : ID D x) (h2 : ID D y) : ID D (x + y) := by
 obtain ⟨z, hz⟩ := h
 obtain ⟨w, hw⟩ := h2
 exact ⟨z + w, by rw [Rat.intCast_add, ← hz, ← hw]; grind⟩
theorem ID.int (n : Int) : ID 1 (n : Rat) := ⟨n, by rw [Qa4]; grind⟩
theorem ID.zero (D : Nat) : ID D 0 := ⟨0, by show 0 * _ = (0 : Rat); grind⟩
theorem ID.right {D : Nat} {x : Rat} (h : ID D x) (E : Nat) : ID (D * E) x := by
 have := h.mul (ID.int (E : Int))
 obtain ⟨z, hz⟩ := h
 exact ⟨z * E, by rw [Xj, Rat.intCast_mul, ← hz]; grind⟩
theorem ID.left {D : Nat} {x : Rat} (h : ID D x) (E : Nat) : ID (E * D) x := by rw [Nat.mul_comm]; exact h.right E
theorem Zcz (x : Rat) : x * ((x.den : Int) : Rat) = (x.num : Rat) := by
 rw [Rat.mul_def', Rat.num_intCast, Rat.den_intCast, Nat.mul_one]
 have := Rat.mkRat_mul_right (n := x.num) (d := 1) (a := x.den) x.den_nz
 rw [Nat.one_mul] at this
 rw [this, Rat.mkRat_one]
theorem ID.self (x : Rat) : ID x.den x := ⟨x.num, Zcz x⟩
theorem Qcf (z : Int) : ab (z : Rat) = ((z.natAbs : Int) : Rat) := by
 unfold ab
 split
 ·
  rename_i h
  have h2 : z < 0 := Rat.intCast_lt_intCast.1 (show (z : Rat) < ((0 : Int) : Rat) from h)
  rw [show ((z.natAbs : Nat) : Int) = -z by omega, Rat.intCast_neg]
 ·
  rename_i h
  have h2 : ¬ z < 0 := fun h3 => h (Rat.intCast_lt_intCast.2 h3 : (z : Rat) < ((0 : Int) : Rat))
  rw [show ((z.natAbs : Nat) : Int) = z by omega]
theorem Zsf (x : Rat) : ab x * ((x.den : Int) : Rat) = ((x.num.natAbs : Int) : Rat) := by
 rw [← Qcf, ← Zcz, Zse, Gk (Jg x.den)]
theorem ID.den {D : Nat} {x : Rat} (h : ID D x) : x.den ∣ D := by
 obtain ⟨z, hz⟩ := h
 have h1 : ((x.num * (D : Int) : Int) : Rat) = ((z * (x.den : Int) : Int) : Rat) := by
  rw [Rat.intCast_mul, Rat.intCast_mul, ← hz, ← Zcz]; grind
 have h2 := Rat.intCast_inj.1 h1
 have h3 : x.num.natAbs * D = z.natAbs * x.den := by
  have := congrArg Int.natAbs h2
  rwa [Int.natAbs_mul, Int.natAbs_mul, Int.natAbs_natCast, Int.natAbs_natCast] at this
 exact (Nat.Coprime.dvd_of_dvd_mul_left x.reduced.symm (h3 ▸ Nat.dvd_mul_left x.den z.natAbs))
def Hb (K : Nat) (l : List Tm) : Prop := ∃ D N : Nat, 0 < D ∧ D < 4294967296 ^ K ∧ N < 4294967296 ^ K ∧ (∀ t ∈ l, ID D t.c) ∧ sab l * ((D : Int) : Rat) ≤ ((N : Int) : Rat)
theorem Zdj {K K' : Nat} (h : K ≤ K') : 4294967296 ^ K ≤ 4294967296 ^ K' := Nat.pow_le_pow_right dd h
theorem Hb.mono {K K' : Nat} {l : List Tm} (h : Hb K l) (hk : K ≤ K') : Hb K' l := by
 obtain ⟨D, N, h0, h1, h2, h3, h4⟩ := h
 exact ⟨D, N, h0, Nat.lt_of_lt_of_le h1 (Zdj hk), Nat.lt_of_lt_of_le h2 (Zdj hk), h3, h4⟩
theorem Hb.siz {K : Nat} {l : List Tm} (h : Hb K l) : KL K l := fun t ht => by
 obtain ⟨D, N, h0, h1, h2, h3, h4⟩ := h
 have hd := (h3 t ht).den
 have hle := Nat.le_of_dvd h0 hd
 have hn : ((t.c.num.natAbs : Int) : Rat) ≤ ((N : Int) : Rat) := by
  rw [← Zsf]
  have a1 := Zht (Qdl ht) (Zxj hle) (Jg _) (Zaa l)
  grind
 have hn' := Zte hn
 unfold Jr Kk
 have := Yx (n := t.c.num.natAbs) (k := K) oo
 have := Yx (n := t.c.den) (k := K) oo
 omega
theorem Hb.nrm {K : Nat} {l : List Tm} (h : Hb K l) : Hb K (norm l) := by
 obtain ⟨D, N, h0, h1, h2, h3, h4⟩ := h
 refine ⟨D, N, h0, h1, h2, fun u hu => ?_, ?_⟩
 ·
  have key : ∀ (l p : List Tm), (∀ t ∈ l, ID D t.c) → (∀ t ∈ p, ID D t.c) → ∀ u ∈ l.foldl (fun p t => Zb0 t p) p, ID D u.c := by
   intro l
   induction l with
   | nil => intro p _ hp u hu; exact hp u hu
   | cons t l ih =>
    intro p hl hp u hu
    rw [List.foldl_cons] at hu
    refine ih (Zb0 t p) (fun s hs => hl s (List.mem_cons_of_mem _ hs)) (fun v hv => ?_) u hu
    have ht := hl t List.mem_cons_self
    clear ih hu hl
    induction p with
    | nil => rw [Zb0, List.mem_singleton] at hv; subst hv; exact (ID.zero D).add ht
    | cons s p ih =>
     rw [Zb0] at hv
     split at hv
     ·
      rcases List.mem_cons.1 hv with rfl | hv
      · exact (hp s List.mem_cons_self).add ht
      · exact hp v (List.mem_cons_of_mem _ hv)
     ·
      rcases List.mem_cons.1 hv with rfl | hv
      · exact hp _ List.mem_cons_self
      · exact ih (fun w hw => hp w (List.mem_cons_of_mem _ hw)) hv
  exact key l [] h3 (fun _ h => nomatch h) u (Zel hu).1
 ·
  have := Jl (Zzg l) (Jg D)
  grind
theorem Zen {n k : Nat} (h : (wds n).length ≤ k) : n < 4294967296 ^ k := Nat.lt_of_lt_of_le (Zbh n) (Zdj h)
theorem Zwi {x : Rat} {k : Nat} (h : Jr x ≤ k) : x.num.natAbs < 4294967296 ^ k ∧ x.den < 4294967296 ^ k := by
 obtain ⟨h1, h2⟩ := Gt h
 exact ⟨Zen h1, Zen h2⟩
theorem Zvp {a b c d K k : Nat} (h1 : a < 4294967296 ^ K) (h2 : b < 4294967296 ^ k) (h3 : c < 4294967296 ^ K) (h4 : d < 4294967296 ^ k) : a * b + c * d < 4294967296 ^ (K + k + 1) := by
 have e1 := Nat.mul_lt_mul'' h1 h2
 have e2 := Nat.mul_lt_mul'' h3 h4
 rw [Nat.pow_succ, Nat.pow_add]
 generalize 4294967296 ^ K * 4294967296 ^ k = P at *
 omega
theorem Hb.nil : Hb 1 [] := ⟨1, 0, oo, by omega, oo, (fun _ h => nomatch h), by show (0 : Rat) * _ ≤ (0 : Rat); grind⟩
theorem Hb.append {Ka Kb : Nat} {a b : List Tm} (ha : Hb Ka a) (hb : Hb Kb b) : Hb (Ka + Kb + 1) (a ++ b) := by
 obtain ⟨D, N, h0, h1, h2, h3, h4⟩ := ha
 obtain ⟨E, M, k0, k1, k2, k3, k4⟩ := hb
 refine ⟨D * E, N * E + D * M, Nat.mul_pos h0 k0, Nat.lt_of_lt_of_le (by rw [Nat.pow_add]; exact Nat.mul_lt_mul'' h1 k1) (Zdj (Nat.le_succ (Ka + Kb))), Zvp h2 k1 h1 k2, fun t ht => ?_, ?_⟩
 ·
  rcases List.mem_append.1 ht with h | h
  · exact (h3 t h).right E
  · exact (k3 t h).left D
 ·
  rw [Zbm, Xj, Zr4, Xj, Xj]
  have e1 := Jl h4 (Jg E)
  have e2 := Jl k4 (Jg D)
  grind
theorem Hb.cons {K k : Nat} {l : List Tm} {t : Tm} (h : Hb K l) (ht : Jr t.c ≤ k) : Hb (K + k + 1) (t :: l) := by
 obtain ⟨D, N, h0, h1, h2, h3, h4⟩ := h
 obtain ⟨p1, p2⟩ := Zwi ht
 have hp := t.c.den_pos
 refine ⟨D * t.c.den, D * t.c.num.natAbs + N * t.c.den, Nat.mul_pos h0 hp, Nat.lt_of_lt_of_le (by rw [Nat.pow_add]; exact Nat.mul_lt_mul'' h1 p2) (Zdj (Nat.le_succ (K + k))), Zvp h1 p1 h2 p2, fun s hs => ?_, ?_⟩
 ·
  rcases List.mem_cons.1 hs with rfl | hs
  · exact (ID.self _).left D
  · exact (h3 s hs).right _
 ·
  rw [sab, Xj, Zr4, Xj, Xj]
  have e0 := Zsf t.c
  have e1 := Jl h4 (Jg t.c.den)
  rw [← e0]
  grind
theorem Hb.of_KL {k : Nat} {l : List Tm} (h : KL k l) : Hb (l.length * (k + 1) + 1) l := by
 induction l with
 | nil => exact Hb.nil.mono oo
 | cons t l ih =>
  have h2 := (ih (fun s hs => h s (List.mem_cons_of_mem _ hs))).cons (h t List.mem_cons_self)
  have e : (t :: l).length * (k + 1) + 1 = l.length * (k + 1) + 1 + k + 1 := by rw [List.length_cons, Nat.add_mul]; omega
  rw [e]; exact h2
theorem Hb.scale {K k : Nat} {l : List Tm} {c : Rat} (h : Hb K l) (hc : Jr c ≤ k) : Hb (k + K) (Qj c l) := by
 obtain ⟨D, N, h0, h1, h2, h3, h4⟩ := h
 obtain ⟨p1, p2⟩ := Zwi hc
 refine ⟨c.den * D, c.num.natAbs * N, Nat.mul_pos c.den_pos h0, by rw [Nat.pow_add]; exact Nat.mul_lt_mul'' p2 h1, by rw [Nat.pow_add]; exact Nat.mul_lt_mul'' p1 h2, fun u hu => ?_, ?_⟩
 ·
  unfold Qj at hu
  obtain ⟨t, ht, rfl⟩ := List.mem_map.1 hu
  exact (ID.self c).mul (h3 t ht)
 ·
  rw [Zhn, Xj, Xj, ← Zsf]
  have e1 := Jl h4 (Rat.mul_nonneg (Zbx c) (Jg c.den))
  grind
theorem Hb.mul {Ka Kb : Nat} {a b : List Tm} (ha : Hb Ka a) (hb : Hb Kb b) : Hb (Ka + Kb) (Vh a b) := by
 obtain ⟨D, N, h0, h1, h2, h3, h4⟩ := ha
 obtain ⟨E, M, k0, k1, k2, k3, k4⟩ := hb
 refine ⟨D * E, N * M, Nat.mul_pos h0 k0, by rw [Nat.pow_add]; exact Nat.mul_lt_mul'' h1 k1, by rw [Nat.pow_add]; exact Nat.mul_lt_mul'' h2 k2, fun u hu => ?_, ?_⟩
 ·
  unfold Vh at hu
  obtain ⟨s, hs, hu⟩ := List.mem_flatMap.1 hu
  obtain ⟨t, ht, rfl⟩ := List.mem_map.1 hu
  exact (h3 s hs).mul (k3 t ht)
 ·
  rw [Zkh, Xj, Xj]
  have e1 := Zht h4 k4 (Rat.mul_nonneg (Zaa b) (Jg E)) (Jg N)
  grind
theorem Zqo (f : Tm → Tm) (m : Nat) : ∀ l : List Tm, (∀ t ∈ l, ab (f t).c ≤ ab t.c * ((m : Int) : Rat)) → sab (l.map f) ≤ sab l * ((m : Int) : Rat)
 | [], _ => by simp only [List.map_nil, sab]; grind
 | t :: l, h => by
  have h1 := h t List.mem_cons_self
  have h2 := Zqo f m l (fun s hs => h s (List.mem_cons_of_mem _ hs))
  simp only [List.map_cons, sab]; grind
theorem Hb.mapi {K : Nat} {l : List Tm} (h : Hb K l) (f : Tm → Tm) (n : Tm → Nat) (hf : ∀ t ∈ l, (f t).c = t.c * ((n t : Int) : Rat)) (hn : ∀ t ∈ l, n t ≤ 1000) : Hb (K + 1) (l.map f) := by
 obtain ⟨D, N, h0, h1, h2, h3, h4⟩ := h
 refine ⟨D, N * 1000, h0, Nat.lt_of_lt_of_le h1 (Zdj (Nat.le_succ K)), by rw [Nat.pow_succ]; exact Nat.mul_lt_mul'' h2 dd, fun u hu => ?_, ?_⟩
 ·
  obtain ⟨t, ht, rfl⟩ := List.mem_map.1 hu
  rw [hf t ht]
  obtain ⟨z, hz⟩ := h3 t ht
  exact ⟨z * (n t : Int), by rw [Rat.intCast_mul, ← hz]; grind⟩
 ·
  have e1 := Zqo f 1000 l (fun t ht => by
   rw [hf t ht, Zse, Gk (Jg _)]
   have := Jl (Zxj (hn t ht)) (Zbx t.c)
   grind)
  have e2 := Jl e1 (Jg D)
  have e3 := Jl h4 (Jg 1000)
  rw [Xj]
  grind
structure Pq (d K : Nat) (l : List Tm) : Prop where
 deg : DL d l
 len : l.length ≤ 100
 hgt : Hb K l
theorem Pq.siz {d K : Nat} {l : List Tm} (h : Pq d K l) : KL K l := h.hgt.siz
theorem Pq.nsz {d K : Nat} {l : List Tm} (h : Pq d K l) : KL K (norm l) := h.hgt.nrm.siz
theorem Pq.nlen {d K : Nat} {l : List Tm} (h : Pq d K l) : (norm l).length ≤ tri (d + 1) := Zkq (Yd l) (Yh h.deg)
theorem Pq.of_norm {d K : Nat} {l : List Tm} (hd : DL d l) (hk : Hb K l) (hd12 : d ≤ 12) : Pq d K (norm l) :=
 ⟨Yh hd, Nat.le_trans (Zkq (Yd l) (Yh hd)) (Nat.le_trans (Zdg (show d + 1 ≤ 13 by omega)) dd), hk.nrm⟩
theorem Pq.nrm {d K : Nat} {l : List Tm} (h : Pq d K l) (hd12 : d ≤ 12) : Pq d K (norm l) := Pq.of_norm h.deg h.hgt hd12
theorem Pq.mono {d K d' K' : Nat} {l : List Tm} (h : Pq d K l) (hd : d ≤ d') (hk : K ≤ K') : Pq d' K' l := ⟨h.deg.mono hd, h.len, h.hgt.mono hk⟩
theorem Pq.raw {d k m : Nat} {l : List Tm} (hd : DL d l) (hk : KL k l) (hm : l.length ≤ m) (hm2 : m ≤ 100) : Pq d (m * (k + 1) + 1) l :=
 ⟨hd, Nat.le_trans hm hm2, (Hb.of_KL hk).mono (by have := Nat.mul_le_mul_right (k + 1) hm; omega)⟩
theorem Pq.add {da db Ka Kb : Nat} {a b : List Tm} (ha : Pq da Ka a) (hb : Pq db Kb b) (h1 : da ≤ 12) (h2 : db ≤ 12) : Pq (max da db) (Ka + Kb + 2) (norm (a ++ b)) :=
 Pq.of_norm (Zis (ha.deg.mono (Nat.le_max_left _ _)) (hb.deg.mono (Nat.le_max_right _ _))) ((ha.hgt.append hb.hgt).mono oo) oo
theorem Pq.mul {da db Ka Kb : Nat} {a b : List Tm} (ha : Pq da Ka a) (hb : Pq db Kb b) (h1 : da + db ≤ 12) : Pq (da + db) (Ka + Kb) (norm (Vh a b)) :=
 Pq.of_norm (Zx4 ha.deg hb.deg) (ha.hgt.mul hb.hgt) h1
theorem Pq.scale {d K Kc : Nat} {a : List Tm} {c : Rat} (ha : Pq d K a) (hc : Jr c ≤ Kc) (h1 : d ≤ 12) : Pq d (Kc + K + 1) (norm (Qj c a)) :=
 Pq.of_norm (Zir c ha.deg) ((ha.hgt.scale hc).mono oo) h1
theorem Pq.dy {d K : Nat} {p : List Tm} (h : Pq d K p) (hd : d ≤ 12) : Pq d (K + 1) (norm (dyL p)) :=
 Pq.of_norm (DL_dyL h.deg) (h.hgt.mapi _ (fun t => t.j) (fun t _ => rfl) (fun t ht => by have := h.deg t ht; omega)) hd
theorem Zkr : norm [⟨0, 0, 1⟩] = [⟨0, 0, 1⟩] := Zd1 ⟨fun t ht => by rw [List.mem_singleton] at ht; subst ht; simp only; grind, List.pairwise_singleton _ _⟩
theorem Zgz : norm [] = [] := Zd1 ⟨(fun _ h => nomatch h), List.Pairwise.nil⟩
theorem Pq.nil (d : Nat) : Pq d 1 [] := ⟨(fun _ h => nomatch h), Nat.zero_le _, Hb.nil⟩
theorem Pq.one : Pq 0 4 [⟨0, 0, 1⟩] :=
 ⟨fun t ht => by rw [List.mem_singleton] at ht; subst ht; exact Nat.le_refl _, by simp, (Hb.of_KL (k := 2) (fun t ht => by rw [List.mem_singleton] at ht; subst ht; exact Zg1)).mono ss⟩
theorem Pq.pow {d K : Nat} {a : List Tm} (ha : Pq d K a) : ∀ n, n * d ≤ 12 → Pq (n * d) (n * K + 4) (norm (Zea a n))
 | 0, _ => by rw [Zea, Zkr, Nat.zero_mul, Nat.zero_mul]; exact Pq.one
 | n + 1, h => by
  rw [Nat.add_mul, Nat.one_mul] at h
  have ih := Pq.pow ha n oo
  have := Pq.mul ih ha oo
  rw [Vn ((Eqv.nrm (Zea a n)).mul Eqv.rfl')] at this
  rw [Nat.add_mul, Nat.one_mul, Nat.add_mul, Nat.one_mul]
  exact this.mono (Nat.le_refl _) oo
theorem Pq.line {K : Nat} {a b c : Rat} (ha : Jr a ≤ K) (hb : Jr b ≤ K) (hc : Jr c ≤ K) : Pq 1 (3 * K + 4) (ln a b c) := by
 have h : KL K (ln a b c) := fun t ht => by
  simp only [ln, List.mem_cons, List.not_mem_nil, or_false] at ht
  rcases ht with rfl | rfl | rfl <;> assumption
 refine ⟨fun t ht => ?_, by simp [ln], (Hb.of_KL h).mono (by simp [ln]; omega)⟩
 simp only [ln, List.mem_cons, List.not_mem_nil, or_false] at ht
 rcases ht with rfl | rfl | rfl <;> simp
end
section
def KT (d K Kx : Nat) : Nat := K + d * (3 * Kx + 4) + 20
def KS (d K Kx : Nat) : Nat := tri (d + 1) * KT d K Kx + 1
theorem Pq.line_pow {K n : Nat} {a b c : Rat} (ha : Jr a ≤ K) (hb : Jr b ≤ K) (hc : Jr c ≤ K) (hn : n ≤ 12) : Pq n (n * (3 * K + 4) + 4) (norm (Zea (ln a b c) n)) := by
 have h := Pq.pow (Pq.line ha hb hc) n oo
 rwa [Nat.mul_one] at h
def sbT (X Y : List Tm) (t : Tm) : List Tm := Qj t.c (Vh (Zea X t.i) (Zea Y t.j))
theorem Zze (X Y : List Tm) (l : List Tm) (t : Tm) : sbL X Y (l ++ [t]) = sbL X Y l ++ sbT X Y t := by
 unfold sbL sbT; rw [List.flatMap_append]; simp
theorem Pq.sbT {d K Kx : Nat} {ax bx cx ay b cy : Rat} {t : Tm} (h1 : Jr ax ≤ Kx) (h2 : Jr bx ≤ Kx) (h3 : Jr cx ≤ Kx) (h4 : Jr ay ≤ Kx) (h5 : Jr b ≤ Kx) (h6 : Jr cy ≤ Kx)
  (hd : d ≤ 12) (ht : t.i + t.j ≤ d) (hK : Jr t.c ≤ K) : Pq d (KT d K Kx - 2) (norm (sbT (ln ax bx cx) (ln ay b cy) t)) := by
 have p1 := Pq.line_pow (n := t.i) h1 h2 h3 (show t.i ≤ 12 by omega)
 have p2 := Pq.line_pow (n := t.j) h4 h5 h6 (show t.j ≤ 12 by omega)
 have p3 := Pq.mul p1 p2 (show t.i + t.j ≤ 12 by omega)
 have p4 := Pq.scale p3 hK (show t.i + t.j ≤ 12 by omega)
 have e : norm (Go.Proofs.YtgkicbaomcmfoaaGreatDoor.sbT (ln ax bx cx) (ln ay b cy) t) = norm (Qj t.c (norm (Vh (norm (Zea (ln ax bx cx) t.i)) (norm (Zea (ln ay b cy) t.j))))) := by
  refine (Vn ?_).symm
  exact ((Eqv.nrm _).trans ((Eqv.nrm _).mul (Eqv.nrm _))).scale t.c
 rw [e]
 refine p4.mono ht ?_
 have := Nat.mul_le_mul_right (3 * Kx + 4) ht
 rw [Nat.add_mul] at this
 unfold KT; omega
theorem Pq.sbl {d K Kx : Nat} {ax bx cx ay b cy : Rat} (h1 : Jr ax ≤ Kx) (h2 : Jr bx ≤ Kx) (h3 : Jr cx ≤ Kx) (h4 : Jr ay ≤ Kx) (h5 : Jr b ≤ Kx) (h6 : Jr cy ≤ Kx)
  (hd : d ≤ 12) {p : List Tm} (hD : DL d p) (hK : KL K p) : ∀ k, k ≤ p.length → Pq d (k * KT d K Kx + 1) (norm (sbL (ln ax bx cx) (ln ay b cy) (p.take k)))
 | 0, _ => by rw [List.take_zero, show sbL (ln ax bx cx) (ln ay b cy) [] = [] from rfl, Zgz, Nat.zero_mul]; exact Pq.nil d
 | k + 1, hk => by
  have ih := Pq.sbl h1 h2 h3 h4 h5 h6 hd hD hK k oo
  have hmem := getD_mem p (d := (⟨0, 0, 0⟩ : Tm)) (show k < p.length by omega)
  have pt := Pq.sbT (t := p.getD k ⟨0, 0, 0⟩) h1 h2 h3 h4 h5 h6 hd (hD _ hmem) (hK _ hmem)
  have pa := Pq.add ih pt hd hd
  have e : p.take (k + 1) = p.take k ++ [p.getD k ⟨0, 0, 0⟩] := by
   rw [List.take_add_one, List.getElem?_eq_getElem oo]; simp [List.getD, show k < p.length by omega]
  rw [e, Zze, ← Vn ((Eqv.nrm _).append (Eqv.nrm _))]
  refine pa.mono oo ?_
  have : 20 ≤ KT d K Kx := by unfold KT; omega
  rw [Nat.add_mul]; omega
theorem Pq.shift {d K Kx : Nat} {ax bx cx ay b cy : Rat} {p : List Tm} (hp : Pq d K p) (h1 : Jr ax ≤ Kx) (h2 : Jr bx ≤ Kx) (h3 : Jr cx ≤ Kx) (h4 : Jr ay ≤ Kx) (h5 : Jr b ≤ Kx) (h6 : Jr cy ≤ Kx)
  (hd : d ≤ 12) : Pq d (KS d K Kx) (norm (shL p ax bx cx ay b cy)) := by
 have h := Pq.sbl h1 h2 h3 h4 h5 h6 hd (Yh hp.deg) hp.nsz (norm p).length (Nat.le_refl _)
 rw [List.take_length] at h
 unfold shL
 rw [← Vn (Eqv.sub Eqv.rfl' Eqv.rfl' (Eqv.nrm p))]
 exact h.mono (Nat.le_refl _) (by have := Nat.mul_le_mul_right (KT d K Kx) hp.nlen; unfold KS; omega)
def linF (φ : Nat → Nat → Rat) (l : List Tm) : Rat := l.foldl (fun s t => s + t.c * φ t.i t.j) 0
def fq : Nat → Rat
 | 0 => 1
 | n + 1 => fq n * (((n + 1 : Nat) : Int) : Rat)
end
section
def SG (d K Kp : Nat) : Nat := 2 + tri (d + 1) * (KS d K (2 * Kp + 1) + 5)
def TR (d K Kp : Nat) : Nat := (8 * Kp + 5) + (2 + tri (d + 1) * (KS d K (2 * Kp + 1) + 301))
def PtK (K : Nat) (a : Pt) : Prop := Jr a.1 ≤ K ∧ Jr a.2 ≤ K
theorem PtK.mono {K K' : Nat} {a : Pt} (h : PtK K a) (hk : K ≤ K') : PtK K' a := ⟨Nat.le_trans h.1 hk, Nat.le_trans h.2 hk⟩
def fanF (p : List Tm) (a : Pt) (l : List Pt) : Nat → Rat
 | 0 => 0
 | k + 1 => fanF p a l k + Zyy p a (l.getD k (0, 0)) (l.getD (k + 1) (0, 0))
end
section
theorem Kn {b off : Nat} (w : World) : (Instr.fieldAt 82 (.pointer (some ⟨b, off, none⟩)) 0).run Tryz.prog w = .ok (.pointer (some ⟨b, off + 0, none⟩)) w := by
 simp [go_sem]
theorem Zaw {c0 c1 c2 c3 c4 c5 c6 : Value} : Qu false 1 #[c0, c1, c2, c3, c4, c5, c6] 0 = some c0 := rfl
theorem Vp {b off : Nat} (w : World) : (Instr.fieldAt 82 (.pointer (some ⟨b, off, none⟩)) 1).run Tryz.prog w = .ok (.pointer (some ⟨b, off + 1, none⟩)) w := by
 simp [go_sem]
theorem Gg {c0 c1 c2 c3 c4 c5 c6 : Value} : Qu false 1 #[c0, c1, c2, c3, c4, c5, c6] 1 = some c1 := rfl
theorem Znm (x0 : Int) (x1 : Int) (w : World) : (Instr.buildSlice 159 2 [(0, .int .i64 x0), (1, .int .i64 x1)].toArray).run Tryz.prog w = .ok (.slice (some ⟨w.heap.size, 0, none⟩) 2 2) (w.alloc (.cells #[.int .i64 x0, .int .i64 x1] 3 (0, 0))) := by
 simp [go_sem]
theorem Vo {b off : Nat} (w : World) : (Instr.fieldAt 82 (.pointer (some ⟨b, off, none⟩)) 2).run Tryz.prog w = .ok (.pointer (some ⟨b, off + 2, none⟩)) w := by
 simp [go_sem]
theorem Ki {c0 c1 c2 c3 c4 c5 c6 : Value} : Qu true 5 #[c0, c1, c2, c3, c4, c5, c6] 2 = some (.agg #[c2, c3, c4, c5, c6]) := rfl
theorem Qd (a : Option Addr) (n c : Nat) (w : World) (ty : TypeId) (cs : Array Bool) : (Go.builtin .len #[25] ty cs #[.slice a n c]).run Tryz.prog w = .ok (.value (.int .i64 n)) w := by
 simp [go_sem]
theorem Zc2 (b off n c j : Nat) (h : j < n) (w : World) : (Instr.indexAt 25 (.slice (some ⟨b, off, none⟩) n c) (.int .i64 (j : Int))).run Tryz.prog w = .ok (.pointer (some ⟨b, off + j * 7, none⟩)) w := by
 simpa using Yy runUnderlying25 sizeOf82 b off n c j h w
abbrev T0 : Tm := ⟨0, 0, 0⟩
abbrev Qb (t : Tm) : Value := .agg #[.int .i64 ((t.i : Nat) : Int), .int .i64 ((t.j : Nat) : Int), .int .u64 (Gw t.c.num.natAbs), .string (Va t.c.num.natAbs), .bool (decide (t.c.num < 0)), .int .u64 (Gw (t.c.den - 1)), .string (Va (t.c.den - 1))]
theorem Zdq (w : World) : (zeroValue 82).run Tryz.prog w = .ok (Qb T0) w := zeroValue82 w
def Zt4 (s t : Tm) : Int := orI [Zpp ((s.i + s.j : Nat) : Int) ((t.i + t.j : Nat) : Int), Zpp ((s.j : Nat) : Int) ((t.j : Nat) : Int)]
theorem Zxf (i k : Int) : Zpp i k < 0 ↔ i < k := by unfold Zpp; split <;> (try split) <;> omega
theorem Qe3 (i k : Int) : Zpp i k = 0 ↔ i = k := by unfold Zpp; split <;> (try split) <;> omega
theorem Zkn (s t : Tm) : Zt4 s t < 0 ↔ ltT s t = true := by
 rw [Zam]
 unfold Zt4
 have h1 := Zxf ((s.i + s.j : Nat) : Int) ((t.i + t.j : Nat) : Int)
 have h2 := Qe3 ((s.i + s.j : Nat) : Int) ((t.i + t.j : Nat) : Int)
 have h3 := Zxf ((s.j : Nat) : Int) ((t.j : Nat) : Int)
 simp only [orI]
 split
 · omega
 ·
  split
  · omega
  · rename_i h4 h5; have h6 := Decidable.of_not_not h5; omega
theorem Zsl (s t : Tm) (hs : s.i + s.j ≤ 1000000) (ht : t.i + t.j ≤ 1000000) : Xl Tryz.prog 48 [Qb s, Qb t] (.int .i64 (Zt4 s t)) := by
 refine fn_intro func48 rfl ntmps48 nb ?_
 intro S w0 a hS h
 refine gC h (zS (zx rfl fun b2 => zx rfl fun b3 => za rfl (zn (zs (yD Za [0, 1, 2, 3, 4, 5, 6, 7, 8, 9, 11, 12, 13, 14, 10, 15, 16, 17, 18] (Zf kk) (yp rfl (.fA rfl Kn) (yd rfl rfl mr isAgg3 sizeOf3 Zaw ?_))))))); clear h
 refine yp rfl (.fA rfl Vp) (yd rfl rfl mr isAgg3 sizeOf3 Gg ?_)
 refine yp rfl (.pN (((s).i) + ((s).j)) (.add rfl rfl)) (yp rfl (.fA rfl Kn) (yd rfl rfl mr isAgg3 sizeOf3 Zaw ?_))
 refine yp rfl (.fA rfl Vp) (yd rfl rfl mr isAgg3 sizeOf3 Gg ?_)
 refine yp rfl (.pN (((t).i) + ((t).j)) (.add rfl rfl)) (yp rfl (.fA rfl Vp) (yd rfl rfl mr isAgg3 sizeOf3 Gg ?_))
 refine yp rfl (.fA rfl Vp) (yd rfl rfl mr isAgg3 sizeOf3 Gg ?_)
 refine yv [_, _] rfl rfl call82 (Qcw (((((s).i) + ((s).j) : Nat) : Int)) (((((t).i) + ((t).j) : Nat) : Int))) (yv [_, _] rfl rfl call82 (Qcw ((((s).j : Nat) : Int)) ((((t).j : Nat) : Int))) ?_)
 refine Zk0 hS rfl kk [(_, _), (_, _)] rfl (Znm _ _) (List.map enci [Zpp ((s.i + s.j : Nat) : Int) ((t.i + t.j : Nat) : Int), Zpp ((s.j : Nat) : Int) ((t.j : Nat) : Int)]) rfl dd ?_; intro b21
 refine yw [_] rfl rfl call81 (C_Or _ _ ([Zpp (((((s).i) + ((s).j) : Nat) : Int)) (((((t).i) + ((t).j) : Nat) : Int)), Zpp ((((s).j : Nat) : Int)) ((((t).j : Nat) : Int))]) nb) (yp rfl (.assign rfl) (yn (zt ?_))); intro a w h
 exact Zeh h
theorem C_may (t : Tm) (ht : t.i + t.j ≤ 12) : Xl Tryz.prog 47 [Qb t] (.int .i64 0) := by
 refine fn_intro func47 rfl ntmps47 nb ?_
 intro S w0 a hS h
 refine gC h (zS (zx rfl fun b1 => za rfl (zn (zs (zb (zS (zp (.fA rfl Kn) (zd rfl mr isAgg3 sizeOf3 Zaw ?_))))))))
 refine zp (.lss rfl rfl) (zm rfl ?_); intro a w h
 refine Zg h (fun hc7 h => (by exfalso; have := of_decide_eq_true hc7; omega)) (fun hc7 h => ?_)
 refine gL h (zq 7 rfl rfl (.fA rfl Vp) ?_); clear h; intro a w h
 refine Zo 7 h rfl rfl (Vb h rfl mr isAgg3 sizeOf3 Gg dd ?_); clear h; intro a h
 refine gL h (zq 7 rfl rfl (.lss rfl rfl) (zp (.pickF rfl rfl) (za rfl (zn ?_)))); clear h; intro a w h
 refine cW ?_
 refine Zb h rfl (fun hc3 => (by exfalso; have := of_decide_eq_true hc3; omega)) (fun hc3 => ?_)
 refine gC h (zS (zp (.fA rfl Kn) (zd rfl mr isAgg3 sizeOf3 Zaw ?_)))
 refine zp (.gtr rfl rfl) (zm rfl ?_); intro a w h
 refine Zg h (fun hc16 h => (by exfalso; have := of_decide_eq_true hc16; omega)) (fun hc16 h => ?_)
 refine gL h (zq 16 rfl rfl (.fA rfl Vp) ?_); clear h; intro a w h
 refine Zo 16 h rfl rfl (Vb h rfl mr isAgg3 sizeOf3 Gg dd ?_); clear h; intro a h
 refine gL h (zq 16 rfl rfl (.fA rfl Kn) ?_); clear h; intro a w h
 refine Zo 16 h rfl rfl (Vb h rfl mr isAgg3 sizeOf3 Zaw dd ?_); clear h; intro a h
 refine gL h (zq 16 rfl rfl (.sub rfl rfl) (zq 16 rfl rfl (.gtr rfl rfl) (zp (.pickF rfl rfl) (za rfl (zn ?_))))); clear h; intro a w h
 refine cW ?_
 refine Zb h rfl (fun hc12 => (by exfalso; have := of_decide_eq_true hc12; omega)) (fun hc12 => ?_)
 refine gC h (zk (zS (za rfl (zn (zt ?_))))); clear h; intro a w h
 exact Zeh h
theorem Qcs (t : Tm) : Xl Tryz.prog 88 [Qb t] (.bool (decide (t.c = 0))) := by
 refine fn_intro func88 rfl ntmps88 nb ?_
 intro S w0 a hS h
 refine gC h (zS (zx rfl fun b1 => za rfl (zn (zS (zp (.fA rfl Vo) (zd rfl mr isAgg53 sizeOf53 Ki ?_))))))
 refine zv [_] rfl call43 (Zf7 _) (zp (.eql rfl rfl) (za rfl (zn (zt ?_)))); intro a w h
 refine Jk h (Zd h rfl (.tmp rfl)) ?_
 show Value.bool _ = Value.bool _; congr 1; rw [Bool.eq_iff_iff, beq_iff_eq, decide_eq_true_iff, Int.sign_eq_zero_iff_zero]; exact Rat.num_eq_zero
def Zpd : List Tm → Nat → Int
 | [], _ => -1
 | x :: l, i => if x.c = 0 then (i : Int) else Zpd l (i + 1)
theorem Zmw (l : List Tm) (i : Nat) (h : i < l.length) : Zpd (l.drop i) i = if (l.getD i T0).c = 0 then (i : Int) else Zpd (l.drop (i + 1)) (i + 1) := by
 rw [List.drop_eq_getElem_cons h, Zpd]; simp [List.getD, h]
theorem Zmy : ∀ (l : List Tm) (i : Nat), Zpd l i = -1 → l.filter (fun t => decide (t.c ≠ 0)) = l
 | [], _, _ => rfl
 | x :: l, i, h => by
  rw [Zpd] at h
  split at h
  · omega
  · rename_i hx; rw [List.filter_cons, if_pos (by simpa using hx), Zmy l (i + 1) h]
theorem Zmx : ∀ (l : List Tm) (i k : Nat), Zpd l i = (k : Int) → i ≤ k ∧ k - i < l.length ∧ (l.getD (k - i) T0).c = 0 ∧ (l.take (k - i)).filter (fun t => decide (t.c ≠ 0)) = l.take (k - i)
 | [], i, k, h => by rw [Zpd] at h; omega
 | x :: l, i, k, h => by
  rw [Zpd] at h
  split at h
  ·
   rename_i hx
   have : k = i := oo
   subst this
   simp [hx]
  ·
   rename_i hx
   obtain ⟨h1, h2, h3, h4⟩ := Zmx l (i + 1) k h
   have e : k - i = (k - (i + 1)) + 1 := oo
   rw [e]
   refine ⟨oo, by simp; omega, by simpa using h3, ?_⟩
   rw [List.take_succ_cons, List.filter_cons, if_pos (by simpa using hx), h4]
theorem Qbr (b c : Nat) (p : List Tm) (R : List Value) (σ : List (Nat × Obj)) (Φ : List Zp) (hn : p.length ≤ 1000000) :
  Znv Tryz.prog 131 [.slice (some ⟨b, 0, none⟩) p.length c, .func (.func 88) #[] #[]] ((b, .cells (cellsOf Qb p ++ R).toArray 82 (0, 0)) :: σ) Φ (fun v σ' Φ' => v = .int .i64 (Zpd p 0) ∧ σ' = ((b, .cells (cellsOf Qb p ++ R).toArray 82 (0, 0)) :: σ) ∧ Φ' = Φ) := by
 refine fn_introM func131 rfl ntmps131 nb ?_
 intro S w0 a w hS h
 refine gC h (zS (za rfl (zn (zs (zS (zm rfl (zp (.builtin [_] rfl (Qd _ _ _)) (zm rfl (zn (zb ?_)))))))))); clear h; intro a w h
 refine Zi (fun (i : Nat) a w => i ≤ p.length ∧ (Zpd p 0 = Zpd (p.drop i) i) ∧ St 19 S w0 [(0, .slice (some ⟨b, 0, none⟩) p.length c), (1, .func (.func 88) #[] #[]), (7, nI p.length), (8, nI i)] ((b, .cells (cellsOf Qb (p) ++ R).toArray 82 (0, 0)) :: σ) (Φ) a w) (fun i => p.length - i) 0 (⟨Nat.zero_le _, rfl, by exact (h).sub sA⟩) ?_; clear h
 rintro i a w ⟨hi_i, hinv_i, h⟩
 refine gC h (zS (zp (.lss rfl rfl) (zn (zs ?_)))); clear h; intro a w h
 refine Zb h rfl (fun hc9 => ?_) (fun hc9 => ?_)
 ·
  skip
  have hlt_i : i < p.length := dT hc9
  refine gC h (zk (zs (zb (zS (zm rfl (za rfl (zn (zS (zm rfl (zm rfl (zm rfl (zp (.indexAddr rfl rfl (Zc2 _ _ _ _ _ oo)) (zd rfl mm isAgg82 sizeOf82 (Zhq (k := 7) (fun _ => rfl) ((fun _ => rfl)) p R T0 i oo) ?_))))))))))))); clear h; intro a w h
  refine Zc (Zek h (fs := []) (cs := []) rfl (vs := [_]) rfl call88 (Qcs (p.getD i T0)) dd ?_); clear h; intro a w h
  refine Zg h (fun hc16 h => ?_) (fun hc16 h => ?_)
  ·
   skip
   refine wpList_nil ?_
   refine cW ?_
   refine Zj h rfl ?_
   refine gC h (zS (zm rfl (za rfl (zn (zt ?_))))); clear h; intro a w h
   refine endM h (Zd h rfl (.tmp rfl)) ⟨by rw [hinv_i, Zmw p i hlt_i, if_pos (of_decide_eq_true hc16)], rfl, rfl⟩ (List.Sublist.refl _) (fun _ h => h)
  ·
   skip
   refine wpList_nil ?_
   refine cW ?_
   refine Ze h rfl ?_
   refine gC h (zk (zr (zp (.pN (i + 1) (.add rfl rfl)) (zm rfl (zn ?_))))); clear h; intro a w h
   exact ⟨i + 1, ⟨oo, by rw [hinv_i, Zmw p i hlt_i, if_neg (of_decide_eq_false hc16)], h.sub sA⟩, oo⟩
 ·
  skip
  have heq_i : p.length = i := dF hc9
  subst heq_i
  refine gC h (ze (zS (za rfl (zn (zt ?_))))); clear h; intro a w h
  refine endM h (Zd h rfl (.tmp rfl)) ⟨by rw [hinv_i, List.drop_length]; rfl, rfl, rfl⟩ (List.Sublist.refl _) (fun _ h => h)
end
section
theorem Kg {c0 c1 c2 c3 c4 c5 c6 v0 v1 v2 v3 v4 v5 v6 : Value} : Qq #[c0, c1, c2, c3, c4, c5, c6] 0 [v0, v1, v2, v3, v4, v5, v6] = #[v0, v1, v2, v3, v4, v5, v6] := by kernel_rfl
theorem Zb8 {c0 c1 c2 c3 c4 c5 c6 : Value} : Qu true 7 #[c0, c1, c2, c3, c4, c5, c6] 0 = some (.agg #[c0, c1, c2, c3, c4, c5, c6]) := rfl
theorem slo_25 (b off n c lo : Nat) (h1 : lo ≤ n) (w : World) : (Instr.sliceAt 25 (.slice (some ⟨b, off, none⟩) n c) (some (.int .i64 (lo : Int))) none none).run Tryz.prog w = .ok (.slice (some ⟨b, if c = lo then off else off + lo * 7, none⟩) (n - lo) (c - lo)) w := Zhk runUnderlying25 sizeOf82 b off n c lo h1 w
theorem slh_25 (a : Option Addr) (n c j : Nat) (h : j ≤ c) (w : World) : (Instr.sliceAt 25 (.slice a n c) none (some (.int .i64 (j : Int))) none).run Tryz.prog w = .ok (.slice a j c) w := by
 exact Zcv runUnderlying25 sizeOf82 a n c j h w
theorem Zrl : ∀ (l : List Tm) (i : Nat), Zpd l i ≠ -1 → ∃ k : Nat, Zpd l i = (k : Int)
 | [], _, h => absurd rfl h
 | x :: l, i, h => by
  rw [Zpd] at h ⊢
  split
  · exact ⟨i, rfl⟩
  · rename_i hx; rw [if_neg hx] at h; exact Zrl l (i + 1) h
theorem take_snoc (l : List Tm) {j : Nat} (h : j < l.length) : l.take (j + 1) = l.take j ++ [l.getD j T0] := by
 rw [List.take_add_one, List.getElem?_eq_getElem h]; simp [List.getD, h]
theorem getD_drop (l m : List Tm) {j : Nat} (h : l.drop j = m.drop j) : l.getD j T0 = m.getD j T0 := by
 have := congrArg (fun x => x[0]?) h
 simp only [List.getElem?_drop, Nat.add_zero] at this
 simp only [List.getD]; rw [this]
theorem Qau {p q : List Tm} {i j : Nat} (hq : q.length = p.length ∧ i < j ∧ q.take i = (p.take j).filter (fun t => decide (t.c ≠ 0)) ∧ q.drop j = p.drop j) (hj : j < p.length) (hc : (q.getD j T0).c = 0) :
  q.length = p.length ∧ i < j + 1 ∧ q.take i = (p.take (j + 1)).filter (fun t => decide (t.c ≠ 0)) ∧ q.drop (j + 1) = p.drop (j + 1) := by
 obtain ⟨h1, h2, h3, h4⟩ := hq
 have hg := getD_drop _ _ h4
 refine ⟨h1, oo, ?_, ?_⟩
 · rw [take_snoc p hj, List.filter_append, ← h3, ← hg, List.filter_cons, if_neg (by simpa using hc)]; simp
 ·
  have := congrArg (List.drop 1) h4
  rw [List.drop_drop, List.drop_drop] at this; exact this
theorem Qav {p q : List Tm} {i j : Nat} (hq : q.length = p.length ∧ i < j ∧ q.take i = (p.take j).filter (fun t => decide (t.c ≠ 0)) ∧ q.drop j = p.drop j) (hj : j < p.length) (hc : (q.getD j T0).c ≠ 0) :
  (q.set i (q.getD j T0)).length = p.length ∧ i + 1 < j + 1 ∧ (q.set i (q.getD j T0)).take (i + 1) = (p.take (j + 1)).filter (fun t => decide (t.c ≠ 0)) ∧ (q.set i (q.getD j T0)).drop (j + 1) = p.drop (j + 1) := by
 obtain ⟨h1, h2, h3, h4⟩ := hq
 have hg := getD_drop _ _ h4
 refine ⟨by rw [List.length_set, h1], oo, ?_, ?_⟩
 ·
  rw [take_snoc (q.set i (q.getD j T0)) (by rw [List.length_set]; omega), take_snoc p hj, List.filter_append, ← h3, ← hg, List.filter_cons, if_pos (by simpa using hc)]
  rw [List.take_set_of_le (Nat.le_refl _)]
  congr 2
  simp only [List.getD, List.getElem?_set, if_pos rfl, if_pos (show i < q.length by omega)]; simp
 ·
  rw [List.drop_set_of_lt oo]
  have := congrArg (List.drop 1) h4
  rw [List.drop_drop, List.drop_drop] at this; exact this
theorem Xe (t : Tm) : (Qb t).cells.size = 7 := rfl
theorem Zxh {q : List Tm} {n i : Nat} (R : List Value) (hq : q.length = n) (hi : i ≤ n) :
  Qq (cellsOf Qb q ++ R).toArray (0 + i * 7) (Zco (n - i) (Qb T0).cells.toList) = (cellsOf Qb (q.take i) ++ (Zco (n - i) (Qb T0).cells.toList ++ R)).toArray := by
 have e : cellsOf Qb q = cellsOf Qb (q.take i) ++ cellsOf Qb (q.drop i) := by rw [← Qs, List.take_append_drop]
 have hl : (cellsOf Qb (q.take i)).length = i * 7 := by rw [cellsOf_length Xe]; simp [hq, Nat.min_eq_left hi]
 have := Zah (Zco (n - i) (Qb T0).cells.toList) (cellsOf Qb (q.take i)) (cellsOf Qb (q.drop i)) R (by
  rw [Vm, cellsOf_length Xe, List.length_drop, hq]; rfl)
 rw [e, Nat.zero_add, ← hl, this, List.append_assoc]
theorem Qa2 {q : List Tm} {n i : Nat} (R : List Value) (hq : q.length = n) (hi : i ≤ n) : 0 + i * 7 + (n - i) * (Qb T0).cells.size ≤ (cellsOf Qb q ++ R).toArray.size := by
 show 0 + i * 7 + (n - i) * 7 ≤ (cellsOf Qb q ++ R).length
 rw [List.length_append, cellsOf_length Xe, hq]; omega
theorem Qev {p q : List Tm} {i j : Nat} (hq : q.length = p.length ∧ i < j ∧ q.take i = (p.take j).filter (fun t => decide (t.c ≠ 0)) ∧ q.drop j = p.drop j) (hj : j = p.length) :
  q.take i = p.filter (fun t => decide (t.c ≠ 0)) ∧ i = (p.filter (fun t => decide (t.c ≠ 0))).length := by
 obtain ⟨h1, h2, h3, h4⟩ := hq
 have e : q.take i = p.filter (fun t => decide (t.c ≠ 0)) := by rw [h3, hj, List.take_length]
 refine ⟨e, ?_⟩
 rw [← e, List.length_take]; omega
theorem Zyu (b c : Nat) (p : List Tm) (R : List Value) (σ : List (Nat × Obj)) (Φ : List Zp) (hn : p.length ≤ 1000000) (hpc : p.length ≤ c) :
  Znv Tryz.prog 87 [.slice (some ⟨b, 0, none⟩) p.length c, .func (.func 88) #[] #[]] ((b, .cells (cellsOf Qb p ++ R).toArray 82 (0, 0)) :: σ) Φ
   (fun v σ' Φ' => v = .slice (some ⟨b, 0, none⟩) (p.filter (fun t => decide (t.c ≠ 0))).length c ∧ Φ' = Φ ∧ ∃ R' : List Value, (cellsOf Qb (p.filter (fun t => decide (t.c ≠ 0))) ++ R').length = (cellsOf Qb p ++ R).length ∧ σ' = (b, .cells (cellsOf Qb (p.filter (fun t => decide (t.c ≠ 0))) ++ R').toArray 82 (0, 0)) :: σ) := by
 refine fn_introM func87 rfl ntmps87 nb ?_
 intro S w0 a w hS h
 refine gC h (zS (za rfl (zn (zS (zm rfl (zm rfl ?_)))))); clear h; intro a w h
 refine Zc (Xc h hS (vs := [_, _]) rfl call131 (Qbr b c p R σ Φ hn) (List.Perm.refl _) ss ss ?_); clear h; rintro v10 σ10 Ψ10 a w ⟨rfl, rfl, hΦ10⟩ h
 rw [hΦ10] at h
 refine gL h (za rfl (zn (zs (zS (zm rfl (zp (.eql rfl rfl) (zn ?_))))))); clear h; intro a w h
 refine cW ?_
 refine Zb h rfl (fun hc12 => ?_) (fun hc12 => ?_)
 ·
  skip
  have hn0 := Zmy p 0 (eq_of_beq hc12)
  refine gC h (zS (zm rfl (za rfl (zn (zt ?_))))); clear h; intro a w h
  refine endM h (Zd h rfl (.tmp rfl)) ⟨by rw [hn0], rfl, R, by rw [hn0], by rw [hn0]⟩ (List.Sublist.refl _) (fun _ h => h)
 ·
  skip
  obtain ⟨k, hk⟩ := Zrl p 0 (fun e => by rw [e] at hc12; exact absurd hc12 dd)
  rw [hk] at h
  obtain ⟨hk1, hk2, hk3, hk4⟩ := Zmx p 0 k hk
  simp only [Nat.sub_zero] at hk2 hk3 hk4
  refine gC h (zk (zs (zS (zm rfl (zp (.pN (k + 1) (.add rfl rfl)) (za rfl (zn (zb ?_)))))))); clear h; intro a w h
  refine Zi (fun (m : Nat) a w => m ≤ (p.length - (k + 1)) ∧ ∃ (q : List Tm) (i : Nat), (q.length = p.length ∧ i < k + 1 + m ∧ q.take i = (p.take (k + 1 + m)).filter (fun t => decide (t.c ≠ 0)) ∧ q.drop (k + 1 + m) = p.drop (k + 1 + m)) ∧ St 42 S w0 [(0, .slice (some ⟨b, 0, none⟩) p.length c), (1, .func (.func 88) #[] #[]), (5, nI i), (6, nI (k + 1 + m)), (15, nI (k + 1))] ((b, .cells (cellsOf Qb (q) ++ R).toArray 82 (0, 0)) :: σ) (Φ) a w) (fun m => (p.length - (k + 1)) - m) 0 (⟨Nat.zero_le _, p, k, ⟨rfl, oo, by rw [Nat.add_zero, take_snoc p oo, List.filter_append, hk4, List.filter_cons, if_neg (by simpa using hk3)]; simp, rfl⟩, by exact (h).sub sA⟩) ?_; clear h
  rintro m a w ⟨hi_m, q, i, hq, h⟩
  refine gC h (zs (zS (zm rfl (zm rfl (zp (.builtin [_] rfl (Qd _ _ _)) (zp (.lss rfl rfl) (zn ?_))))))); clear h; intro a w h
  refine cW ?_
  refine Zb h rfl (fun hc19 => ?_) (fun hc19 => ?_)
  ·
   skip
   have hlt_m : m < (p.length - (k + 1)) := dT hc19
   have hq1 := hq.1
   have hq2 := hq.2.1
   refine gC h (zk (zs (zb (zS (zm rfl (zm rfl (zp (.indexAddr rfl rfl (Zc2 _ _ _ _ _ oo)) (zd rfl mm isAgg82 sizeOf82 (Zhq (k := 7) (fun _ => rfl) ((fun _ => rfl)) q R T0 (k + 1 + m) oo) ?_))))))))
   refine zz Zdq fun b7 => zt' rfl rfl Kg uu sizeOf82 rfl nb rfl ?_
   refine zn (zS (zm rfl (zd rfl mr isAgg82 sizeOf82 Zb8 ?_))); intro a w h
   refine Zc (Zek h (fs := []) (cs := []) rfl (vs := [_]) rfl call88 (Qcs (q.getD (k + 1 + m) T0)) dd ?_); clear h; intro a w h
   refine gL h (zp (.unOp rfl (Ji _)) (zn ?_)); clear h; intro a w h
   refine cW ?_
   refine Zb h rfl (fun hc29 => ?_) (fun hc29 => ?_)
   ·
    skip
    refine gC h (zS (zm rfl (zm rfl (zd rfl mr isAgg82 sizeOf82 Zb8 ?_))))
    refine zp (.indexAddr rfl rfl (Zc2 _ _ _ _ _ oo)) (zt' (b := b) (cs := (cellsOf Qb q ++ R).toArray) (cs' := (cellsOf Qb (q.set i (q.getD (k + 1 + m) T0)) ++ R).toArray) (v := Qb (q.getD (k + 1 + m) T0)) rfl rfl (Zs2 (k := 7) (fun _ => rfl) q R i oo (q.getD (k + 1 + m) T0)) uu sizeOf82 rfl (Znl (k := 7) (fun _ => rfl) q R i oo) rfl ?_)
    refine zn (zr (zm rfl (zp (.pN (i + 1) (.add rfl rfl)) (za rfl (zn (zr (zm rfl (zp (.pN ((k + 1 + m) + 1) (.add rfl rfl)) (za rfl (zn ?_)))))))))); intro a w h
    exact ⟨m + 1, ⟨oo, q.set i (q.getD (k + 1 + m) T0), i + 1, Qav (j := k + 1 + m) hq oo (by simpa using hc29), by exact (h.drop sl).sub sA⟩, oo⟩
   ·
    skip
    refine gC h (zk (zr (zm rfl (zp (.pN ((k + 1 + m) + 1) (.add rfl rfl)) (za rfl (zn ?_)))))); clear h; intro a w h
    exact ⟨m + 1, ⟨oo, q, i, Qau (j := k + 1 + m) hq oo (by simpa using hc29), by exact (h.drop sl).sub sA⟩, oo⟩
  ·
   skip
   have heq_m : (p.length - (k + 1)) = m := dF hc19
   have hq1 := hq.1
   have hq2 := hq.2.1
   obtain ⟨hq3, hq4⟩ := Qev hq oo
   refine gC h (ze (zS (zm rfl (zm rfl (zp (Pure1.cast (v' := .slice (some ⟨b, 0 + i * 7, none⟩) (p.length - i) (c - i)) (.slice rfl (some _) none none rfl rfl rfl (slo_25 _ _ _ _ _ oo)) (by rw [if_neg oo])) ?_))))); clear h; intro a w h
   refine Zc (Zzw h rfl oo runUnderlying25 Zdq dd (Qa2 R hq1 oo) rfl (Zxh R hq1 oo) uu ?_); clear h; intro a w h
   refine gL h (zn (zS (zm rfl (zm rfl (zp (.slice rfl none (some _) none rfl rfl rfl (slh_25 _ _ _ _ oo)) (za rfl (zn (zt ?_)))))))); clear h; intro a w h
   rw [hq3] at h
   refine endM h (Zd h rfl (.tmp rfl)) ⟨by rw [← hq4], rfl, _, ?_, rfl⟩ (by repeat (first | exact List.Sublist.refl _ | apply List.Sublist.cons)) (fun _ h => h)
   simp only [List.length_append, cellsOf_length Xe, Vm, Array.length_toList, Xe]
   rw [← hq4]; omega
end
end Go.Proofs.YtgkicbaomcmfoaaGreatDoor
