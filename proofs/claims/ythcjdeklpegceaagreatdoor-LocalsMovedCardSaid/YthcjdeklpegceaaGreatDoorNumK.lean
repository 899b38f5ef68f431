/- Long division of lists of 32-bit words, digit by digit: plain laws. By an AI agent. -/
import Derived.Test.YthcjdeklpegceaaGreatDoorNumD
set_option linter.unusedVariables false
set_option linter.unusedSimpArgs false
set_option linter.unusedSectionVars false
namespace Go.Fx
open Go
theorem Zma {l : List Nat} {e : Nat} (h : l.length = e + 2) : Qb l = (4294967296 * l.getD (e + 1) 0 + l.getD e 0) * 4294967296 ^ e + Qb (l.take e) := by
 have h1 : l.take (e + 2) = l := by rw [← h, List.take_length]
 have h2 := Jq l (e + 1) (by omega)
 have h3 := Jq l e (by omega)
 rw [h1] at h2
 rw [h2, h3, Nat.pow_succ]
 generalize 4294967296 ^ e = P
 generalize l.getD (e + 1) 0 = x
 generalize l.getD e 0 = z
 rw [Nat.add_mul, Nat.mul_comm z P, Nat.mul_assoc P, Nat.mul_comm P (4294967296 * x)]
 omega
theorem Zts {l : List Nat} {e : Nat} (h : l.length = e + 3) : Qb l = (4294967296 * (4294967296 * l.getD (e + 2) 0 + l.getD (e + 1) 0) + l.getD e 0) * 4294967296 ^ e + Qb (l.take e) := by
 have h1 : l.take (e + 3) = l := by rw [← h, List.take_length]
 have h2 := Jq l (e + 2) (by omega)
 have h3 := Zma (l := l.take (e + 2)) (e := e) (by simp; omega)
 rw [h1] at h2
 have g1 : (l.take (e + 2)).getD (e + 1) 0 = l.getD (e + 1) 0 := by simp [List.getD]
 have g2 : (l.take (e + 2)).getD e 0 = l.getD e 0 := by simp [List.getD, show e < e + 2 by omega]
 have g3 : (l.take (e + 2)).take e = l.take e := by rw [List.take_take]; congr 1; omega
 rw [g1, g2, g3] at h3
 rw [h2, h3, Nat.pow_succ, Nat.pow_succ]
 generalize 4294967296 ^ e = P
 generalize l.getD (e + 2) 0 = x
 generalize l.getD (e + 1) 0 = y
 generalize l.getD e 0 = z
 rw [Nat.mul_assoc (P * 4294967296), Nat.mul_assoc P, Nat.mul_comm P (4294967296 * (4294967296 * x)), ← Nat.add_right_comm, ← Nat.add_mul]
 congr 2
 omega
section
variable {U VV P top v1 v2 w0 lu lv dg rest : Nat}
theorem Zsv (hU : U = (4294967296 * top + w0) * P + lu) (hV : VV = (4294967296 * v1 + v2) * P + lv) (hw : w0 < 4294967296) (hlu : lu < P) (hv1 : 0 < v1) : U < (top / v1 + 1) * VV := by
 have h1 : top + 1 ≤ (top / v1 + 1) * v1 := by rw [Nat.mul_comm]; exact Nat.lt_mul_div_succ top hv1
 generalize top / v1 + 1 = D at *
 have h2 : U + 1 ≤ 4294967296 * (D * v1) * P := by
  have := Nat.mul_le_mul_right P (show 4294967296 * top + w0 + 1 ≤ 4294967296 * (D * v1) by omega)
  rw [Nat.add_mul (4294967296 * top + w0)] at this
  omega
 have h3 : D * ((4294967296 * v1) * P) ≤ D * VV := Nat.mul_le_mul_left _ (by rw [hV, Nat.add_mul, Nat.add_assoc]; exact Nat.le_add_right _ _)
 rw [← Nat.mul_assoc, Nat.mul_left_comm] at h3
 omega
theorem top_lt (hU : U = (4294967296 * top + w0) * P + lu) (hV : VV = (4294967296 * v1 + v2) * P + lv) (hv2 : v2 < 4294967296) (hlv : lv < P) (hlt : U < 4294967296 * VV) : top < 4294967296 * (v1 + 1) := by
 refine Nat.lt_of_not_le fun h => ?_
 have h1 : VV + 1 ≤ 4294967296 * (v1 + 1) * P := by
  have := Nat.mul_le_mul_right P (show 4294967296 * v1 + v2 + 1 ≤ 4294967296 * (v1 + 1) by omega)
  rw [Nat.add_mul (4294967296 * v1 + v2)] at this
  omega
 have h2 := Nat.mul_le_mul_right P h
 have h3 : 4294967296 * (top * P) ≤ U := by rw [hU, Nat.add_mul, ← Nat.mul_assoc, Nat.add_assoc]; exact Nat.le_add_right _ _
 omega
theorem Zvz (hU : U = (4294967296 * top + w0) * P + lu) (hV : VV = (4294967296 * v1 + v2) * P + lv) (hlu : lu < P)
  (hI : dg * v1 + rest = top) (hlt : U < 4294967296 * VV) (hc : 4294967296 ≤ dg ∨ 4294967296 * rest + w0 < dg * v2) : U < dg * VV := by
 rcases hc with hc | hc
 ·
  have := Nat.mul_le_mul_right VV hc
  omega
 ·
  have h1 : 4294967296 * top + w0 + 1 ≤ dg * (4294967296 * v1 + v2) := by
   rw [Nat.mul_add, Nat.mul_left_comm, ← hI]; omega
  have h2 := Nat.mul_le_mul_right P h1
  rw [Nat.add_mul (4294967296 * top + w0), Nat.mul_assoc] at h2
  have h3 : dg * ((4294967296 * v1 + v2) * P) ≤ dg * VV := Nat.mul_le_mul_left _ (by rw [hV]; exact Nat.le_add_right _ _)
  omega
theorem Zm9 (hU : U = (4294967296 * top + w0) * P + lu) (hV : VV = (4294967296 * v1 + v2) * P + lv) (hv1 : 0 < v1) (hv2 : v2 < 4294967296) (hlv : lv < P)
  (hI : dg * v1 + rest = top) (hdg : dg ≤ 4294967296) (hc : 4294967296 ≤ rest ∨ dg * v2 ≤ 4294967296 * rest + w0) : dg * VV ≤ U + VV := by
 rcases hc with hc | hc
 ·
  have h1 : VV ≤ (4294967296 * (v1 + 1)) * P := by
   have := Nat.mul_le_mul_right P (show 4294967296 * v1 + v2 + 1 ≤ 4294967296 * (v1 + 1) by omega)
   rw [Nat.add_mul (4294967296 * v1 + v2)] at this
   omega
  have h2 : dg * (4294967296 * (v1 + 1)) ≤ 4294967296 * top := by
   rw [Nat.mul_left_comm, Nat.mul_add]
   omega
  have h3 := Nat.mul_le_mul_left dg h1
  have h4 := Nat.mul_le_mul_right P h2
  rw [Nat.mul_assoc] at h4
  have h5 : 4294967296 * top * P ≤ U := by rw [hU, Nat.add_mul, Nat.add_assoc]; exact Nat.le_add_right _ _
  omega
 ·
  have h1 : dg * (4294967296 * v1 + v2) ≤ 4294967296 * top + w0 := by
   rw [Nat.mul_add, Nat.mul_left_comm, ← hI]; omega
  have h2 := Nat.mul_le_mul_right P h1
  rw [Nat.mul_assoc] at h2
  have h3 : dg * lv ≤ 4294967296 * P := Nat.mul_le_mul hdg (Nat.le_of_lt hlv)
  have h4 : 4294967296 * P ≤ VV := by
   have h7 : 4294967296 ≤ 4294967296 * v1 + v2 := by omega
   have := Nat.mul_le_mul_right P h7
   omega
  have h5 : dg * VV = dg * ((4294967296 * v1 + v2) * P) + dg * lv := by rw [hV, Nat.mul_add]
  omega
theorem Zo8 (hI : dg * v1 + rest = top) (ht : top < 4294967296 * (v1 + 1)) (hr : 4294967296 ≤ rest) : dg < 4294967296 := by
 refine Nat.lt_of_not_le fun h => ?_
 have := Nat.mul_le_mul_right v1 h
 omega
theorem Zzi (hI : dg * v1 + rest = top) (ht : top < 4294967296 * (v1 + 1)) (hv : 2147483648 ≤ v1) : dg ≤ 4294967297 := by
 refine Nat.le_of_not_lt fun h => ?_
 have := Nat.mul_le_mul_right v1 (show 4294967298 ≤ dg by omega)
 omega
end
theorem Zy2 {U VV R M dg l : Nat} (hR : R + dg * VV = U + M * l) (hRlt : R < M) (hl : l ≤ 1) (h1 : U < (dg + 1) * VV) (h0 : ¬ 0 < l) : R + dg * VV = U ∧ R < VV := by
 have : l = 0 := by omega
 subst this
 rw [Nat.add_mul] at h1
 omega
theorem Zsp {U VV R M dg l R2 c2 : Nat} (hR : R + dg * VV = U + M * l) (hl : l ≤ 1) (hRlt : R < M) (hd : dg * VV ≤ U + VV) (hVM : VV ≤ M) (h0 : 0 < l) (hB : R2 + M * c2 = R + VV) (hR2 : R2 < M) :
  0 < dg ∧ R2 + (dg - 1) * VV = U ∧ R2 < VV := by
 have : l = 1 := by omega
 subst this
 have hdg : 0 < dg := by
  rcases Nat.eq_zero_or_pos dg with h | h
  · subst h; omega
  · exact h
 obtain ⟨d, rfl⟩ : ∃ d, dg = d + 1 := ⟨dg - 1, by omega⟩
 rw [Nat.add_mul] at hR hd
 have hc : c2 = 1 := by
  rcases Nat.lt_trichotomy c2 1 with h | h | h
  ·
   have : c2 = 0 := by omega
   subst this
   omega
  · exact h
  ·
   have := Nat.mul_le_mul_left M (show 2 ≤ c2 by omega)
   omega
 subst hc
 refine ⟨by omega, ?_, ?_⟩
 · rw [Nat.add_sub_cancel]; omega
 · omega
theorem Zva {p W W2 hh Q : List Nat} {VV dg T : Nat} (hW : W2.length = W.length) (hQ : p.length < Q.length)
  (hT : Qb (p ++ W ++ hh) + 4294967296 ^ (p.length + 1) * (VV * Qb (Q.drop (p.length + 1))) = T) (hd : Qb W2 + dg * VV = Qb W) :
  Qb (p ++ W2 ++ hh) + 4294967296 ^ p.length * (VV * Qb ((Q.set p.length dg).drop p.length)) = T := by
 rw [Zfx hQ, Qb, ← hT]
 simp only [List.append_assoc, Xo, hW, Nat.pow_succ, ← hd]
 generalize 4294967296 ^ p.length = B
 generalize 4294967296 ^ W.length * Qb hh = H
 generalize Qb (Q.drop (p.length + 1)) = q
 simp only [Nat.mul_add]
 rw [Nat.mul_comm VV dg, Nat.mul_left_comm VV 4294967296, ← Nat.mul_assoc B 4294967296]
 omega
theorem Zvb {p W2 hh : List Nat} {VV : Nat} (hh0 : Qb hh = 0) (hlt : Qb W2 < VV) : Qb ((p ++ W2 ++ hh).drop p.length) < VV := by
 rw [List.append_assoc, List.drop_left, Xo, hh0]; simpa using hlt
theorem Zov {Z : List Nat} {k n VV : Nat} (hZ : Wd Z) (hl : k + n + 1 ≤ Z.length) (hV : VV < 4294967296 ^ n) (hlt : Qb (Z.drop (k + 1)) < VV) :
  ∃ p W hh, Z = p ++ W ++ hh ∧ p.length = k ∧ W.length = n + 1 ∧ Wd p ∧ Wd W ∧ Wd hh ∧ Qb hh = 0 ∧ Qb W < 4294967296 * VV := by
 have e : Z = Z.take k ++ (Z.drop k).take (n + 1) ++ Z.drop (k + n + 1) := by
  rw [List.append_assoc]
  conv => lhs; rw [← List.take_append_drop k Z]
  congr 1
  conv => lhs; rw [← List.take_append_drop (n + 1) (Z.drop k)]
  rw [List.drop_drop]; rfl
 have h1 : Qb (Z.drop (k + 1)) = Qb ((Z.drop (k + 1)).take n) + 4294967296 ^ n * Qb (Z.drop (k + n + 1)) := by
  conv => lhs; rw [← List.take_append_drop n (Z.drop (k + 1))]
  rw [Xo, List.drop_drop, show (k + 1) + n = k + n + 1 by omega]
  rw [show ((Z.drop (k + 1)).take n).length = n by simp; omega]
 have h0 : Qb (Z.drop (k + n + 1)) = 0 := by
  rcases Nat.eq_zero_or_pos (Qb (Z.drop (k + n + 1))) with h | h
  · exact h
  ·
   have := Nat.mul_le_mul_left (4294967296 ^ n) h
   omega
 have h2 : Qb (Z.drop k) = Qb ((Z.drop k).take (n + 1)) := by
  conv => lhs; rw [← List.take_append_drop (n + 1) (Z.drop k)]
  rw [Xo, List.drop_drop, show k + (n + 1) = k + n + 1 by omega, h0]; simp
 refine ⟨_, _, _, e, by simp; omega, by simp; omega, hZ.take _, (hZ.drop _).take _, hZ.drop _, h0, ?_⟩
 rw [← h2, Zcn Z k]
 have := hZ.getD k
 omega
theorem Zsi {X : List Nat} {Y s M n : Nat} {Z : List Nat} (hX : Wd X) (hZ : Qb Z = Qb X * 2 ^ s) (hY : 4294967296 ^ (n - 1) ≤ Y) (hn : 0 < n) (hM : M + n = X.length + 1) : Qb (Z.drop M) < Y * 2 ^ s := by
 have h1 := Vy hX
 have h2 : Qb Z = Qb (Z.take M) + 4294967296 ^ (Z.take M).length * Qb (Z.drop M) := by
  conv => lhs; rw [← List.take_append_drop M Z, Xo]
 rcases Nat.lt_or_ge Z.length M with h3 | h3
 ·
  rw [List.drop_eq_nil_of_le (by omega)]
  exact Nat.mul_pos (Nat.lt_of_lt_of_le (Nat.pow_pos (by omega)) hY) (Nat.pow_pos (by omega))
 ·
  rw [show (Z.take M).length = M by simp; omega] at h2
  have h4 : Qb X * 2 ^ s < 4294967296 ^ X.length * 2 ^ s := Nat.mul_lt_mul_of_pos_right h1 (Nat.pow_pos (by omega))
  rw [show X.length = M + (n - 1) by omega, Nat.pow_add, Nat.mul_assoc] at h4
  have h5 : 4294967296 ^ M * Qb (Z.drop M) < 4294967296 ^ M * (4294967296 ^ (n - 1) * 2 ^ s) := by omega
  have h6 := (Nat.mul_lt_mul_left (Nat.pow_pos (n := M) (show 0 < 4294967296 by omega))).1 h5
  exact Nat.lt_of_lt_of_le h6 (Nat.mul_le_mul_right _ hY)
theorem Zvc {last s : Nat} (h0 : last ≠ 0) (h1 : last < 4294967296) (hs : s = 32 - Zdk last) : s < 32 ∧ 2147483648 ≤ last * 2 ^ s ∧ last * 2 ^ s < 4294967296 := by
 have h2 := Zvm last
 have h3 := Zo0 h0
 have h4 : 0 < Zdk last := by unfold Zdk; rw [if_neg h0]; omega
 have h5 : Zdk last ≤ 32 := Zgf (k := 32) h1
 subst hs
 refine ⟨by omega, ?_, ?_⟩
 ·
  have := Nat.mul_le_mul_right (2 ^ (32 - Zdk last)) h3
  rw [← Nat.pow_add, show Zdk last - 1 + (32 - Zdk last) = 31 by omega] at this
  omega
 ·
  have := Nat.mul_lt_mul_of_pos_right h2 (Nat.pow_pos (n := 32 - Zdk last) (show 0 < 2 by omega))
  rw [← Nat.pow_add, show Zdk last + (32 - Zdk last) = 32 by omega] at this
  omega
theorem Zmx {Y V0 : List Nat} {e s : Nat} (hY : Wd Y) (hl : Y.length = e + 2) (hs : s < 32) (h1 : 2147483648 ≤ Y.getD (e + 1) 0 * 2 ^ s) (h2 : Y.getD (e + 1) 0 * 2 ^ s < 4294967296) (hV0 : Wd V0)
  (hv : Qb V0 = Qb Y * 2 ^ s) : Qb (V0.take Y.length) = Qb Y * 2 ^ s ∧ 2147483648 ≤ (V0.take Y.length).getD (e + 1) 0 := by
 have hs0 : 0 < 2 ^ s := Nat.pow_pos (by omega)
 have e1 : Y.take (e + 2) = Y := by rw [← hl, List.take_length]
 have h3 := Jq Y (e + 1) (by omega)
 rw [e1] at h3
 have h4 := Vx hY (e + 1)
 generalize hx : Y.getD (e + 1) 0 = x at *
 have h5 : (x + 1) * 2 ^ s ≤ 4294967296 := by
  rw [Zf4 s hs] at h2 ⊢
  exact Nat.mul_le_mul_right _ ((Nat.mul_lt_mul_right hs0).1 h2)
 have h6 : Qb Y < 4294967296 ^ (e + 1) * (x + 1) := by rw [Nat.mul_add]; omega
 have h7 : Qb V0 < 4294967296 ^ (e + 2) := by
  rw [hv]
  have a1 : Qb Y * 2 ^ s < 4294967296 ^ (e + 1) * (x + 1) * 2 ^ s := Nat.mul_lt_mul_of_pos_right h6 hs0
  have a2 := Nat.mul_le_mul_left (4294967296 ^ (e + 1)) h5
  rw [Nat.mul_assoc] at a1
  rw [Nat.pow_succ]
  omega
 have h8 : Qb (V0.take (e + 2)) = Qb V0 := Zmb (fun j hj _ => Zdo h7 hj)
 refine ⟨by rw [hl, h8, hv], ?_⟩
 rw [hl]
 have h9 : (V0.take (e + 2)).getD (e + 1) 0 = V0.getD (e + 1) 0 := by simp [List.getD]
 rw [h9]
 refine Nat.le_of_not_lt fun hlt => ?_
 have b1 : Qb V0 < 4294967296 ^ (e + 1) * (V0.getD (e + 1) 0 + 1) := by
  rcases Nat.lt_or_ge (e + 1) V0.length with hh | hh
  ·
   have c1 := Jq V0 (e + 1) hh
   have c2 := Vx hV0 (e + 1)
   rw [← h8, c1, Nat.mul_add]; omega
  ·
   rw [Zd0 hh]
   have c2 := Vx hV0 (e + 1)
   rw [List.take_of_length_le hh] at c2
   simpa using c2
 have b2 := Nat.mul_le_mul_left (4294967296 ^ (e + 1)) (show V0.getD (e + 1) 0 + 1 ≤ 2147483648 by omega)
 have b3 := Nat.mul_le_mul_left (4294967296 ^ (e + 1)) h1
 have b4 : 4294967296 ^ (e + 1) * (x * 2 ^ s) ≤ Qb V0 := by rw [hv, ← Nat.mul_assoc]; exact Nat.mul_le_mul_right _ (by omega)
 omega
theorem or_hi (a b : Nat) (hb : b < 4294967296) : (a * 4294967296) ||| b = 4294967296 * a + b := by
 have h := Nat.shiftLeft_add_eq_or_of_lt (show b < 2 ^ 32 from hb) a
 rw [Nat.shiftLeft_eq] at h
 rw [show a * 4294967296 = a * 2 ^ 32 from rfl, ← h, Nat.mul_comm]
theorem Zsj {z v q x y s : Nat} (hT : z + v * q = x * 2 ^ s) (hz : z < v) (hv : v = y * 2 ^ s) : q = x / y ∧ z / 2 ^ s = x % y := by
 have hs0 : 0 < 2 ^ s := Nat.pow_pos (by omega)
 have h1 : x * 2 ^ s / v = q := by
  rw [← hT, Nat.add_comm, Nat.mul_add_div (by omega), Nat.div_eq_of_lt hz, Nat.add_zero]
 have h2 : x * 2 ^ s % v = z := by
  rw [← hT, Nat.add_comm, Nat.mul_add_mod, Nat.mod_eq_of_lt hz]
 subst hv
 rw [Nat.mul_div_mul_right _ _ hs0] at h1
 rw [Nat.mul_mod_mul_right] at h2
 exact ⟨h1.symm, by rw [← h2, Nat.mul_div_cancel _ hs0]⟩
theorem Zsu {dg v1 rest top : Nat} (h : dg * v1 + rest = top) (h0 : 0 < dg) : (dg - 1) * v1 + (rest + v1) = top := by
 obtain ⟨d, rfl⟩ : ∃ d, dg = d + 1 := ⟨dg - 1, by omega⟩
 rw [Nat.add_sub_cancel]
 rw [Nat.add_mul] at h
 omega
end Go.Fx
