/- Written by a program of ours (gen.py) out of short specifications. By an AI agent. -/
import Derived.Test.YtgkicbaomcmfoaaGreatDoorRefs
import Derived.Test.YtgkicbaomcmfoaaGreatDoorFxE
set_option linter.unusedVariables false
set_option linter.unusedSimpArgs false
set_option maxRecDepth 4000
namespace Go.Proofs.YtgkicbaomcmfoaaGreatDoor
open Go Go.Proofs Go.Fx
attribute [local irreducible] Oper.wp Code.wp wpList Fx.Head wpOp
section
def exB (n : Nat) : List UInt8 := if 10 ≤ n then [94, 49, UInt8.ofNat (48 + n - 10)] else if 1 < n then [94, UInt8.ofNat (48 + n)] else []
def lettB (s nm : ByteArray) (n : Nat) : ByteArray :=
  if n = 0 then s else
  if 10 ≤ n then (((if s = ⟨#[]⟩ then s else s ++ ⟨#[42]⟩) ++ nm) ++ ⟨#[94, 49]⟩) ++ ⟨#[UInt8.ofNat (48 + n - 10)]⟩
  else if 1 < n then (((if s = ⟨#[]⟩ then s else s ++ ⟨#[42]⟩) ++ nm) ++ ⟨#[94]⟩) ++ ⟨#[UInt8.ofNat (48 + n)]⟩
  else (if s = ⟨#[]⟩ then s else s ++ ⟨#[42]⟩) ++ nm
def fctB (nm : List UInt8) (n : Nat) : List UInt8 := if n = 0 then [] else nm ++ exB n
def rT (t : Tm) : ByteArray := lettB (lettB (if txtQ (ab t.c) = ⟨#[49]⟩ ∧ t.i + t.j > 0 then ⟨#[]⟩ else txtQ (ab t.c)) ⟨#[120]⟩ t.i) ⟨#[121]⟩ t.j
structure Vis (X : List Rat) (d j : Nat) (V : List Tm) : Prop where
  nrm : Nrm V
  old : ∀ t ∈ V, t.i + t.j < d ∨ (t.i + t.j = d ∧ t.j < j)
  cf : ∀ a b, a + b < d ∨ (a + b = d ∧ b < j) → lin (at0 a b) V = X.getD (13 * a + b) 0
theorem Vis.zero (X : List Rat) : Vis X 0 0 [] := ⟨⟨(fun _ h => nomatch h), List.Pairwise.nil⟩, (fun _ h => nomatch h), fun a b h => by omega⟩
theorem Vis.row {X : List Rat} {d : Nat} {V : List Tm} (h : Vis X d (d + 1) V) : Vis X (d + 1) 0 V :=
  ⟨h.nrm, fun t ht => by have := h.old t ht; omega, fun a b hab => h.cf a b (by omega)⟩
theorem Vis.no {X : List Rat} {d j : Nat} {V : List Tm} (h : Vis X d j V) (hj : j ≤ d) : lin (at0 (d - j) j) V = 0 :=
  lin_at0_none (fun t ht e => by have := h.old t ht; omega)
theorem Vis.skip {X : List Rat} {d j : Nat} {V : List Tm} (h : Vis X d j V) (hj : j ≤ d) (hz : X.getD (13 * (d - j) + j) 0 = 0) : Vis X d (j + 1) V :=
  ⟨h.nrm, fun t ht => by have := h.old t ht; omega, fun a b hab => by
    by_cases e : a + b = d ∧ b = j
    · obtain ⟨e1, e2⟩ := e
      rw [show a = d - j by omega, e2, h.no hj, hz]
    · exact h.cf a b (by omega)⟩
theorem Vis.step {X : List Rat} {d j : Nat} {V : List Tm} (h : Vis X d j V) (hj : j ≤ d) (hz : X.getD (13 * (d - j) + j) 0 ≠ 0) : Vis X d (j + 1) (V ++ [⟨d - j, j, X.getD (13 * (d - j) + j) 0⟩]) := by
  refine ⟨⟨fun t ht => ?_, ?_⟩, fun t ht => ?_, fun a b hab => ?_⟩
  · rcases List.mem_append.1 ht with ht | ht
    · exact h.nrm.1 t ht
    · rw [List.mem_singleton.1 ht]; exact hz
  · rw [List.pairwise_append]
    refine ⟨h.nrm.2, List.pairwise_singleton _ _, fun s hs t ht => ?_⟩
    rw [List.mem_singleton.1 ht, ltT_iff]
    have := h.old s hs
    simp only; omega
  · rcases List.mem_append.1 ht with ht | ht
    · have := h.old t ht; omega
    · rw [List.mem_singleton.1 ht]; simp only; omega
  · rw [lin_append]
    simp only [lin, at0]
    by_cases e : a + b = d ∧ b = j
    · obtain ⟨e1, e2⟩ := e
      subst e2
      rw [show a = d - b by omega, h.no hj, if_pos ⟨rfl, rfl⟩]; grind
    · rw [if_neg (by omega), h.cf a b (by omega)]; grind
theorem Vis.all {X : List Rat} {K : Nat} {V : List Tm} (h : Vis X 13 0 V) (hX : Tb 12 K X) : V = norm (pol X) := by
  refine nrm_ext h.nrm (norm_nrm _) (fun φ => ?_)
  have key : ∀ a b, lin (at0 a b) (V ++ scaleL (-1) (norm (pol X))) = 0 := fun a b => by
    rw [lin_append, lin_scaleL, lin_norm]
    by_cases hb : b < 13
    · rw [pol_at hb]
      by_cases hd : a + b < 13
      · rw [h.cf a b (by omega)]; grind
      · have h1 : X.getD (13 * a + b) 0 = 0 := by
          by_cases hk : 13 * a + b < 169
          · by_cases h2 : X.getD (13 * a + b) 0 = 0
            · exact h2
            · have := hX.deg _ hk h2; omega
          · rw [List.getD_eq_getElem?_getD, List.getElem?_eq_none (by rw [hX.len]; omega)]; rfl
        rw [h1, lin_at0_none (fun t ht e => by have := h.old t ht; omega)]; grind
    · rw [lin_at0_none (l := V) (fun t ht e => by have := h.old t ht; omega), lin_at0_none (l := pol X) (fun t ht e => by
        obtain ⟨k, _, rfl⟩ := pol_mem ht; have := Nat.mod_lt k (show 0 < 13 by decide); simp only at e; omega)]; grind
  have h2 := eqv_zero key φ
  rw [lin_append, lin_scaleL] at h2
  grind
def fuA (V : List Tm) : ByteArray := ⟨(fuB V).toArray⟩
def dgX (X : List Rat) : Nat → Int
  | 0 => -1
  | k + 1 => if X.getD k 0 = 0 then dgX X k else max (dgX X k) ((k / 13 + k % 13 : Nat) : Int)
end
section
abbrev fPt (x : Rat) (a1 : Option Addr) (c1 : Nat) (a2 : Option Addr) (c2 : Nat) (y : Rat) (b1 : Option Addr) (d1 : Nat) (b2 : Option Addr) (d2 : Nat) : Value :=
  .agg #[.bool (decide (x.num < 0)), .slice a1 (dg x.num.natAbs).length c1, .slice a2 (dg (x.den - 1)).length c2, .bool (decide (y.num < 0)), .slice b1 (dg y.num.natAbs).length d1, .slice b2 (dg (y.den - 1)).length d2]
end
section
def dxX (A : List Rat) : Nat → List Rat
  | 0 => List.replicate 169 0
  | k + 1 => (dxX A k).set k (A.getD (k + 13) 0 * ((((k + 13) / 13 : Nat) : Int) : Rat))
def dyX (A : List Rat) : Nat → List Rat
  | 0 => List.replicate 169 0
  | k + 1 => if k % 13 > 0 then (dyX A k).set (k - 1) (A.getD k 0 * (((k % 13 : Nat) : Int) : Rat)) else dyX A k
def atF (A : List Rat) (x y : Rat) : Nat → Rat
  | 0 => 0
  | k + 1 => atF A x y k + A.getD k 0 * x ^ (k / 13) * y ^ (k % 13)
end
section
theorem Tb.exact {d K N : Nat} {X : List Rat} (h : Tb d K X) (hN : degN (norm (pol X)) ≤ (N : Int)) : Tb N K X :=
  Tb.of_eqv h.len (Eqv.nrm (pol X)).symm (DL_degN (norm_nrm _) hN) (h.hgt.nrm)
def PostX (G : Prop) (d K : Nat) (p : List Tm) (v : Value) (Ψ : List SPred) : Prop := ∃ b l e, v = .tuple #[.slice (some ⟨b, 0, none⟩) 169 169, .int .i64 e] ∧ (e = 0 ∧ G ∧ Tb d K (xs l) ∧ Eqv (pol (xs l)) p ∨ e = 9 ∧ ¬ G ∧ l.length = 169 ∧ Eqv (pol (xs l)) []) ∧ Ψ = [Row (some ⟨b, 0, none⟩) (cellsOf encF l), AllF l]
end
section
def PostNl (v : Value) (Ψ : List SPred) : Prop := ∃ ad c, v = .slice ad 0 c ∧ Ψ = [Row ad (cellsOf encT [])]
def PostNk (v : Value) (Ψ : List SPred) : Prop := ∃ ad c, v = .tuple #[.slice ad 0 c, .int .i64 0] ∧ Ψ = [Row ad (cellsOf encT [])]
end
section
def vZ (Z : List Tz) : List Tm := if firstZ Z = 0 then Z.map tmZ else []
def resE (er : Int) (p : List Tm) : List Tm := if er = 0 then norm p else []
def MulC (p q : List Tm) (er : Int) : Prop := (er = 0 ∧ ∃ da db : Nat, da + db ≤ 12 ∧ DL da p ∧ DL db q) ∨ (er = 9 ∧ ∃ M N : Nat, degN (norm p) = (M : Int) ∧ degN (norm q) = (N : Int) ∧ 12 < M + N)
def PowC (p : List Tm) (n : Nat) (er : Int) : Prop := (er = 0 ∧ ∃ d : Nat, d ≤ 12 ∧ n * d ≤ 12 ∧ DL d p) ∨ (er = 9 ∧ ∃ D : Nat, D ≤ 12 ∧ degN (norm p) = (D : Int) ∧ 12 < n * D)
theorem MulC.nil {er : Int} (h : MulC [] [] er) : er = 0 := by
  rcases h with ⟨h, _⟩ | ⟨_, M, N, h1, _⟩
  · exact h
  · rw [norm_nil, degN_nil] at h1; omega
theorem PowC.nil {n : Nat} {er : Int} (h : PowC [] n er) : er = 0 := by
  rcases h with ⟨h, _⟩ | ⟨_, D, _, h1, _⟩
  · exact h
  · rw [norm_nil, degN_nil] at h1; omega
def PowI (p : List Tm) (n : Int) (er : Int) : Prop := (∃ k : Nat, n = (k : Int) ∧ k ≤ 12 ∧ PowC p k er) ∨ (er = 1 ∧ (n < 0 ∨ 12 < n))
end
section
end
section
def insN (t : Tm) : List Tm → List Tm
  | [] => [t]
  | s :: l => if ltT t s = true then t :: s :: l else s :: insN t l
def nI (l : List Tm) : List Tm := ((collect l).filter (fun t => decide (t.c ≠ 0))).foldr insN []
theorem insN_perm (t : Tm) : ∀ l : List Tm, (insN t l).Perm (t :: l)
  | [] => List.Perm.refl _
  | s :: l => by
    rw [insN]; split
    · exact List.Perm.refl _
    · exact ((insN_perm t l).cons s).trans (List.Perm.swap t s l)
theorem insN_sorted (t : Tm) : ∀ {l : List Tm}, l.Pairwise (fun s u => ltT u s = false) → (insN t l).Pairwise (fun s u => ltT u s = false)
  | [], _ => List.pairwise_singleton _ _
  | s :: l, h => by
    obtain ⟨h1, h2⟩ := List.pairwise_cons.1 h
    rw [insN]; split
    · rename_i hc
      refine List.pairwise_cons.2 ⟨fun u hu => ?_, h⟩
      have h3 : ltT s t = false := by
        rw [Bool.eq_false_iff]; intro h4; have := ltT_trans hc h4; rw [ltT_irrefl] at this; cases this
      rcases List.mem_cons.1 hu with rfl | hu
      · exact h3
      · exact ltT_ntrans (h1 u hu) h3
    · rename_i hc
      refine List.pairwise_cons.2 ⟨fun u hu => ?_, insN_sorted t h2⟩
      rcases List.mem_cons.1 ((insN_perm t l).mem_iff.1 hu) with rfl | hu
      · simpa using hc
      · exact h1 u hu
theorem foldr_ins : ∀ l : List Tm, (l.foldr insN []).Perm l ∧ (l.foldr insN []).Pairwise (fun s u => ltT u s = false)
  | [] => ⟨List.Perm.refl _, List.Pairwise.nil⟩
  | t :: l => by
    obtain ⟨h1, h2⟩ := foldr_ins l
    rw [List.foldr_cons]
    exact ⟨(insN_perm t _).trans (h1.cons t), insN_sorted t h2⟩
theorem nI_nrm (l : List Tm) : Nrm (nI l) := by
  obtain ⟨hp, hs⟩ := foldr_ins ((collect l).filter (fun t => decide (t.c ≠ 0)))
  refine ⟨fun t ht => ?_, ?_⟩
  · have := hp.mem_iff.1 ht
    rw [List.mem_filter] at this
    simpa using this.2
  · have h1 : dif ((collect l).filter (fun t => decide (t.c ≠ 0))) := List.Pairwise.filter _ (collect_dif l)
    have hd : dif (nI l) := (List.Perm.pairwise_iff (fun {x y} h h2 => h ⟨h2.1.symm, h2.2.symm⟩) hp).2 h1
    refine List.Pairwise.imp₂ (fun s t h1 h2 => ?_) hs hd
    rcases h : ltT s t with _ | _
    · exact absurd (ltT_total h h1) h2
    · rfl
theorem nI_norm (l : List Tm) : nI l = norm l := nrm_ext (nI_nrm l) (norm_nrm l) (fun φ => by
  rw [lin_norm, nI, lin_perm φ (foldr_ins _).1, lin_filter, lin_collect])
abbrev Fa := Int × Nat
def chA (s : ByteArray) (k : Nat) : Nat := (s.data.toList.getD k 0).toNat
def skipE (s : ByteArray) : Nat → Nat → Nat
  | 0, k => k
  | f + 1, k => if k < s.size ∧ chA s k = 32 then skipE s f (k + 1) else k
def blkE (s : ByteArray) (k : Nat) : Nat := skipE s (s.size - k) k
def nextE (s : ByteArray) (k : Nat) : Nat := if blkE s k = s.size then 0 else chA s (blkE s k)
def takesE (s : ByteArray) (c k : Nat) : Bool := decide (nextE s k = c) && !decide (blkE s k = s.size)
def isDg (c : Nat) : Bool := decide (48 ≤ c) && decide (c ≤ 57)
def digE (s : ByteArray) (from_ : Nat) : Nat → Nat → Nat
  | 0, k => k
  | f + 1, k => if k < s.size ∧ isDg (chA s k) = true ∧ (k = from_ ∨ chA s from_ ≠ 48) then digE s from_ f (k + 1) else k
def valE (s : ByteArray) (a : Nat) : Nat → Nat
  | 0 => 0
  | n + 1 => 10 * valE s a n + (chA s (a + n) - 48)
def numE (s : ByteArray) (k : Nat) : Except Fa (Nat × Nat × Nat) :=
  let a := blkE s k
  if isDg (nextE s k) = false then .error (4, a)
  else let b := digE s a (s.size - a) a; .ok (valE s a (b - a), a, b)
def bitsN (n : Nat) : Nat := if n = 0 then 0 else n.log2 + 1
def sizeE (p : List Tm) : Nat := p.foldl (fun n t => n + (bitsN t.c.num.natAbs + bitsN t.c.den)) 0
abbrev Ins := Option (Nat → Except Fa (List Tm × Nat))
def baseE (s : ByteArray) (inside : Ins) (k : Nat) : Except Fa (List Tm × Nat) :=
  if takesE s 120 k = true then .ok ([⟨1, 0, 1⟩], blkE s k + 1)
  else if takesE s 121 k = true then .ok ([⟨0, 1, 1⟩], blkE s k + 1)
  else if takesE s 40 k = true then
    match inside with
    | none => .error (3, blkE s k)
    | some f =>
      match f (blkE s k + 1) with
      | .error e => .error e
      | .ok (p, k2) => if takesE s 41 k2 = true then .ok (p, blkE s k2 + 1) else .error (4, blkE s k2)
  else
    match numE s k with
    | .error e => .error e
    | .ok (n, _, b) => .ok (nI [⟨0, 0, ((n : Int) : Rat)⟩], b)
def factE (s : ByteArray) (inside : Ins) (k : Nat) : Except Fa (List Tm × Nat) :=
  match baseE s inside k with
  | .error e => .error e
  | .ok (p, k2) =>
    if takesE s 94 k2 = true then
      match numE s (blkE s k2 + 1) with
      | .error e => .error e
      | .ok (n, _, b) =>
        if n > 12 ∨ (n : Int) * degN p > 12 then .error (9, blkE s k2)
        else if n * sizeE p > 16384 then .error (3, blkE s k2)
        else .ok (nI (powL p n), b)
    else .ok (p, blkE s k2)
def termE (s : ByteArray) (inside : Ins) : Nat → List Tm → Nat → Except Fa (List Tm × Nat)
  | 0, p, k => .ok (p, k)
  | f + 1, p, k =>
    if takesE s 42 k = true then
      match factE s inside (blkE s k + 1) with
      | .error e => .error e
      | .ok (q, b) =>
        if degN p ≥ 0 ∧ degN q ≥ 0 ∧ degN p + degN q > 12 then .error (9, blkE s k)
        else if sizeE p + sizeE q > 16384 then .error (3, blkE s k)
        else termE s inside f (nI (mulL p q)) b
    else if takesE s 47 k = true then
      match numE s (blkE s k + 1) with
      | .error e => .error e
      | .ok (n, c, b) =>
        if n = 0 then .error (5, c)
        else if sizeE p + bitsN n > 16384 then .error (3, blkE s k)
        else termE s inside f (nI (scaleL (1 / ((n : Int) : Rat)) p)) b
    else .ok (p, blkE s k)
def termI (s : ByteArray) (inside : Ins) (k : Nat) : Except Fa (List Tm × Nat) :=
  match factE s inside k with
  | .error e => .error e
  | .ok (p, b) => termE s inside (s.size - b + 1) p b
def sumL (s : ByteArray) (inside : Ins) : Nat → List Tm → Nat → Except Fa (List Tm × Nat)
  | 0, p, k => .ok (p, k)
  | f + 1, p, k =>
    if takesE s 43 k = true ∨ takesE s 45 k = true then
      match termI s inside (blkE s k + 1) with
      | .error e => .error e
      | .ok (q, b) =>
        if sizeE p + sizeE q > 16384 then .error (3, blkE s k)
        else sumL s inside f (if takesE s 43 k = true then nI (p ++ q) else nI (p ++ scaleL ((-1 : Int) : Rat) q)) b
    else .ok (p, blkE s k)
def sumI (s : ByteArray) (inside : Ins) (k : Nat) : Except Fa (List Tm × Nat) :=
  match termI s inside (if takesE s 45 k = true then blkE s k + 1 else blkE s k) with
  | .error e => .error e
  | .ok (p, b) => sumL s inside (s.size - b + 1) (if takesE s 45 k = true then nI (scaleL ((-1 : Int) : Rat) p) else p) b
def sumE (s : ByteArray) : Nat → Nat → Except Fa (List Tm × Nat)
  | 0 => sumI s none
  | n + 1 => sumI s (some (sumE s n))
def trimE (s : ByteArray) : Nat → Nat
  | 0 => 0
  | n + 1 => if chA s n = 32 then trimE s n else n + 1
def readE (s : ByteArray) : Except Fa (List Tm) :=
  match sumE s 32 0 with
  | .error e => .error e
  | .ok (p, k) => if blkE s k < s.size then .error (4, blkE s k) else .ok p
def parseE (s0 : ByteArray) : Except Fa (List Tm) :=
  if s0.size > 4096 then .error (3, 0) else readE (s0.extract 0 (trimE s0 s0.size))
end
section
theorem skipE_fix {s : ByteArray} {k : Nat} (h : ¬ (k < s.size ∧ chA s k = 32)) : ∀ f, skipE s f k = k
  | 0 => rfl
  | f + 1 => by rw [skipE, if_neg h]
theorem skipE_ge (s : ByteArray) : ∀ f k, k ≤ skipE s f k
  | 0, _ => Nat.le_refl _
  | f + 1, k => by
    rw [skipE]; split
    · have := skipE_ge s f (k + 1); omega
    · exact Nat.le_refl _
theorem skipE_le (s : ByteArray) : ∀ f k, k ≤ s.size → skipE s f k ≤ s.size
  | 0, _, h => h
  | f + 1, k, h => by
    rw [skipE]; split
    · exact skipE_le s f (k + 1) (by omega)
    · exact h
theorem skipE_stop (s : ByteArray) : ∀ f k, s.size - k ≤ f → ¬ (skipE s f k < s.size ∧ chA s (skipE s f k) = 32)
  | 0, k, h => by rw [skipE]; omega
  | f + 1, k, h => by
    rw [skipE]; split
    · exact skipE_stop s f (k + 1) (by omega)
    · assumption
theorem blkE_ge (s : ByteArray) (k : Nat) : k ≤ blkE s k := skipE_ge s _ k
theorem blkE_le {s : ByteArray} {k : Nat} (h : k ≤ s.size) : blkE s k ≤ s.size := skipE_le s _ k h
theorem blkE_stop (s : ByteArray) (k : Nat) : ¬ (blkE s k < s.size ∧ chA s (blkE s k) = 32) := skipE_stop s _ k (Nat.le_refl _)
theorem blkE_fix {s : ByteArray} {k : Nat} (h : ¬ (k < s.size ∧ chA s k = 32)) : blkE s k = k := skipE_fix h _
theorem blkE_blk (s : ByteArray) (k : Nat) : blkE s (blkE s k) = blkE s k := blkE_fix (blkE_stop s k)
theorem blkE_step {s : ByteArray} {k : Nat} (h1 : k < s.size) (h2 : chA s k = 32) : blkE s (k + 1) = blkE s k := by
  have e : s.size - k = (s.size - (k + 1)) + 1 := by omega
  conv => rhs; rw [blkE, e, skipE, if_pos ⟨h1, h2⟩]
  rfl
theorem nextE_blk (s : ByteArray) (k : Nat) : nextE s (blkE s k) = nextE s k := by unfold nextE; rw [blkE_blk]
theorem takesE_blk (s : ByteArray) (c k : Nat) : takesE s c (blkE s k) = takesE s c k := by unfold takesE; rw [nextE_blk, blkE_blk]
theorem takesE_iff {s : ByteArray} {c k : Nat} (hk : k ≤ s.size) (hc : 0 < c) : takesE s c k = true ↔ blkE s k < s.size ∧ chA s (blkE s k) = c := by
  have := blkE_le hk
  unfold takesE nextE
  rw [Bool.and_eq_true, Bool.not_eq_true', decide_eq_true_eq, decide_eq_false_iff_not]
  split
  · omega
  · constructor
    · rintro ⟨h1, h2⟩; exact ⟨by omega, h1⟩
    · rintro ⟨h1, h2⟩; exact ⟨h2, by omega⟩
theorem takesE_lt {s : ByteArray} {c k : Nat} (hk : k ≤ s.size) (h : takesE s c k = true) : blkE s k < s.size := by
  have := blkE_le hk
  unfold takesE at h
  rw [Bool.and_eq_true, Bool.not_eq_true', decide_eq_false_iff_not] at h
  omega
theorem digE_ge (s : ByteArray) (a : Nat) : ∀ f k, k ≤ digE s a f k
  | 0, _ => Nat.le_refl _
  | f + 1, k => by
    rw [digE]; split
    · have := digE_ge s a f (k + 1); omega
    · exact Nat.le_refl _
theorem digE_le (s : ByteArray) (a : Nat) : ∀ f k, k ≤ s.size → digE s a f k ≤ s.size
  | 0, _, h => h
  | f + 1, k, h => by
    rw [digE]; split
    · exact digE_le s a f (k + 1) (by omega)
    · exact h
theorem digE_step {s : ByteArray} {a k : Nat} (h : k < s.size ∧ isDg (chA s k) = true ∧ (k = a ∨ chA s a ≠ 48)) : digE s a (s.size - (k + 1)) (k + 1) = digE s a (s.size - k) k := by
  have e : s.size - k = (s.size - (k + 1)) + 1 := by omega
  rw [e, digE, if_pos h]
theorem digE_stop {s : ByteArray} {a k : Nat} (h : ¬ (k < s.size ∧ isDg (chA s k) = true ∧ (k = a ∨ chA s a ≠ 48))) : digE s a (s.size - k) k = k := by
  rcases e : s.size - k with _ | f
  · rfl
  · rw [digE, if_neg h]
theorem digE_all (s : ByteArray) (a : Nat) : ∀ f k, (∀ i, a ≤ i → i < k → isDg (chA s i) = true) → ∀ i, a ≤ i → i < digE s a f k → isDg (chA s i) = true
  | 0, _, h, i, h1, h2 => h i h1 h2
  | f + 1, k, h, i, h1, h2 => by
    rw [digE] at h2
    split at h2
    · rename_i hc
      refine digE_all s a f (k + 1) (fun j j1 j2 => ?_) i h1 h2
      by_cases e : j = k
      · subst e; exact hc.2.1
      · exact h j j1 (by omega)
    · exact h i h1 h2
theorem digE_lead (s : ByteArray) (a : Nat) (h : chA s a = 48) : ∀ f k, k ≤ a + 1 → digE s a f k ≤ a + 1
  | 0, _, hk => hk
  | f + 1, k, hk => by
    rw [digE]; split
    · rename_i hc
      rcases hc.2.2 with e | e
      · exact digE_lead s a h f (k + 1) (by omega)
      · exact absurd h e
    · exact hk
theorem valE_lt (s : ByteArray) (a : Nat) : ∀ n, (∀ i, a ≤ i → i < a + n → isDg (chA s i) = true) → valE s a n < 10 ^ n
  | 0, _ => by rw [valE]; decide
  | n + 1, h => by
    have ih := valE_lt s a n (fun i h1 h2 => h i h1 (by omega))
    have hd := h (a + n) (by omega) (by omega)
    unfold isDg at hd
    rw [Bool.and_eq_true, decide_eq_true_eq, decide_eq_true_eq] at hd
    rw [valE, Nat.pow_succ]; omega
structure NumOk (s : ByteArray) (k n a b : Nat) : Prop where
  at_ : a = blkE s k
  lt : a < b
  le : b ≤ s.size
  dig : ∀ i, a ≤ i → i < b → isDg (chA s i) = true
  lead : chA s a = 48 → b = a + 1
  val : n = valE s a (b - a)
  end_ : b = digE s a (s.size - a) a
theorem numE_ok {s : ByteArray} {k n a b : Nat} (hk : k ≤ s.size) (h : numE s k = .ok (n, a, b)) : NumOk s k n a b := by
  unfold numE at h
  simp only at h
  split at h
  · cases h
  · rename_i hd
    simp only [Except.ok.injEq, Prod.mk.injEq] at h
    obtain ⟨h1, h2, h3⟩ := h
    have hle := blkE_le hk
    have hlt : blkE s k < s.size := by
      rcases Nat.lt_or_ge (blkE s k) s.size with h' | h'
      · exact h'
      · exfalso; apply hd; unfold nextE; rw [if_pos (by omega)]; rfl
    have hdg : isDg (chA s (blkE s k)) = true := by
      have : nextE s k = chA s (blkE s k) := by unfold nextE; rw [if_neg (by omega)]
      rw [this] at hd; simpa using hd
    subst h2
    have h0 := digE_step (s := s) (a := blkE s k) (k := blkE s k) ⟨hlt, hdg, .inl rfl⟩
    have h4 := digE_ge s (blkE s k) (s.size - (blkE s k + 1)) (blkE s k + 1)
    refine ⟨rfl, by omega, by rw [← h3]; exact digE_le s _ _ _ hle, ?_, fun h48 => ?_, by rw [← h1, h3], h3.symm⟩
    · rw [← h3]; exact digE_all s (blkE s k) _ _ (fun i h1 h2 => by omega)
    · have := digE_lead s (blkE s k) h48 (s.size - blkE s k) (blkE s k) (by omega)
      omega
theorem numE_blk (s : ByteArray) (k : Nat) : numE s (blkE s k) = numE s k := by
  unfold numE; simp only [blkE_blk, nextE_blk]
theorem NumOk.lt10 {s : ByteArray} {k n a b : Nat} (h : NumOk s k n a b) : n < 10 ^ (b - a) := by
  rw [h.val]; exact valE_lt s a _ (fun i h1 h2 => h.dig i h1 (by omega))
theorem pow10_le {m : Nat} (h : m ≤ 4096) : 10 ^ m < 4294967296 ^ 426 := Nat.lt_of_le_of_lt (Nat.pow_le_pow_right (by decide) h) (by decide +kernel)
theorem NumOk.big {s : ByteArray} {k n a b : Nat} (h : NumOk s k n a b) (hs : s.size ≤ 4096) : n < 4294967296 ^ 426 := by
  have := h.lt10; have := h.le; have := pow10_le (show b - a ≤ 4096 by omega); omega
theorem lenQ_nat {n K : Nat} (h : n < 4294967296 ^ K) (hK : 2 ≤ K) : lenQ ((n : Int) : Rat) ≤ K := by
  have h1 := wds_len_le h
  have h2 : (wds 1).length ≤ 2 := wds_small (by decide)
  unfold lenQ lenZ
  rw [Rat.num_intCast, Rat.den_intCast, Int.natAbs_natCast]
  omega
theorem numE_dig {s : ByteArray} {k : Nat} (hk : k ≤ s.size) (h0 : isDg (nextE s k) = true) :
    numE s k = .ok (valE s (blkE s k) (digE s (blkE s k) (s.size - blkE s k) (blkE s k) - blkE s k), blkE s k, digE s (blkE s k) (s.size - blkE s k) (blkE s k)) ∧
    NumOk s k (valE s (blkE s k) (digE s (blkE s k) (s.size - blkE s k) (blkE s k) - blkE s k)) (blkE s k) (digE s (blkE s k) (s.size - blkE s k) (blkE s k)) := by
  have h : numE s k = .ok (valE s (blkE s k) (digE s (blkE s k) (s.size - blkE s k) (blkE s k) - blkE s k), blkE s k, digE s (blkE s k) (s.size - blkE s k) (blkE s k)) := by
    unfold numE; simp only [h0, Bool.true_eq_false, if_false]
  exact ⟨h, numE_ok hk h⟩
end
section
theorem bitsN_pow (n : Nat) : n < 2 ^ bitsN n := by
  unfold bitsN; split
  · rename_i h; subst h; decide
  · rename_i h; exact Nat.lt_log2_self
theorem bitsN_pos {n : Nat} (h : n ≠ 0) : 1 ≤ bitsN n := by unfold bitsN; rw [if_neg h]; omega
def szT (t : Tm) : Nat := bitsN t.c.num.natAbs + bitsN t.c.den
theorem foldl_sz : ∀ (p : List Tm) (n : Nat), p.foldl (fun n t => n + (bitsN t.c.num.natAbs + bitsN t.c.den)) n = n + (p.map szT).sum
  | [], n => by simp
  | t :: p, n => by rw [List.foldl_cons, foldl_sz p, List.map_cons, List.sum_cons]; unfold szT; omega
theorem sizeE_sum (p : List Tm) : sizeE p = (p.map szT).sum := by unfold sizeE; rw [foldl_sz, Nat.zero_add]
theorem sizeE_Hb' : ∀ p : List Tm, ∃ D N : Nat, 0 < D ∧ D + N ≤ 2 ^ (p.map szT).sum ∧ (∀ t ∈ p, ID D t.c) ∧ sab p * ((D : Int) : Rat) ≤ ((N : Int) : Rat)
  | [] => ⟨1, 0, by omega, by simp, (fun _ h => nomatch h), by show (0 : Rat) * _ ≤ (0 : Rat); grind⟩
  | t :: p => by
    obtain ⟨D, N, h0, h1, h2, h3⟩ := sizeE_Hb' p
    refine ⟨t.c.den * D, t.c.num.natAbs * D + t.c.den * N, Nat.mul_pos t.c.den_pos h0, ?_, fun u hu => ?_, ?_⟩
    · rw [List.map_cons, List.sum_cons, Nat.pow_add]
      have a1 := bitsN_pow t.c.num.natAbs
      have a2 := bitsN_pow t.c.den
      have a3 : t.c.den + t.c.num.natAbs ≤ 2 ^ szT t := by
        unfold szT; rw [Nat.pow_add]
        have hd := bitsN_pos t.c.den_nz
        have hd2 : 2 ≤ 2 ^ bitsN t.c.den := by
          have := Nat.pow_le_pow_right (show 0 < 2 by decide) hd; simpa using this
        rcases Nat.eq_zero_or_pos t.c.num.natAbs with e | e
        · rw [e]; show _ + 0 ≤ 2 ^ bitsN 0 * _
          rw [show bitsN 0 = 0 from rfl, Nat.pow_zero, Nat.one_mul]; omega
        · have hn := bitsN_pos (show t.c.num.natAbs ≠ 0 by omega)
          have hn2 : 2 ≤ 2 ^ bitsN t.c.num.natAbs := by
            have := Nat.pow_le_pow_right (show 0 < 2 by decide) hn; simpa using this
          generalize 2 ^ bitsN t.c.num.natAbs = X at *
          generalize 2 ^ bitsN t.c.den = Y at *
          have := Nat.mul_le_mul hn2 (Nat.le_refl Y)
          have := Nat.mul_le_mul (Nat.le_refl X) hd2
          have hxy : X + Y ≤ X * Y := by
            obtain ⟨X', rfl⟩ : ∃ X', X = X' + 2 := ⟨X - 2, by omega⟩
            obtain ⟨Y', rfl⟩ : ∃ Y', Y = Y' + 2 := ⟨Y - 2, by omega⟩
            rw [Nat.add_mul, Nat.mul_add]; omega
          omega
      have a4 := Nat.mul_le_mul a3 h1
      refine Nat.le_trans ?_ a4
      rw [Nat.add_mul, Nat.mul_add, Nat.mul_add]
      omega
    · rcases List.mem_cons.1 hu with rfl | hu
      · exact (ID.self _).right D
      · exact (h2 u hu).left _
    · rw [sab, cast_mul, Int.natCast_add, Rat.intCast_add, cast_mul, cast_mul]
      have e1 := ab_den t.c
      have e2 := mul_le_mulr h3 (cast_nonneg t.c.den)
      have e3 := cast_nonneg D
      have e4 : (ab t.c + sab p) * (((t.c.den : Int) : Rat) * ((D : Int) : Rat)) = (ab t.c * ((t.c.den : Int) : Rat)) * ((D : Int) : Rat) + sab p * ((D : Int) : Rat) * ((t.c.den : Int) : Rat) := by grind
      rw [e4, e1]; grind
theorem pow2_513 {S : Nat} (h : S ≤ 16384) : 2 ^ S < 4294967296 ^ 513 := Nat.lt_of_le_of_lt (Nat.pow_le_pow_right (by decide) h) (by decide +kernel)
theorem Hb.of_size {p : List Tm} (h : sizeE p ≤ 16384) : Hb 513 p := by
  obtain ⟨D, N, h0, h1, h2, h3⟩ := sizeE_Hb' p
  rw [sizeE_sum] at h
  have := pow2_513 h
  exact ⟨D, N, h0, by omega, by omega, h2, h3⟩
structure Gd (p : List Tm) : Prop where
  pq : Pq 12 6400 p
  nrm : Nrm p
theorem Gd.nn {p : List Tm} (h : Gd p) : norm p = p := norm_id h.nrm
theorem Gd.len {p : List Tm} (h : Gd p) : p.length ≤ 91 := by
  have := h.pq.nlen; rw [h.nn] at this; exact Nat.le_trans this (by decide)
theorem Gd.fit {p : List Tm} (h : Gd p) (hs : sizeE p ≤ 16384) : Pq 12 513 p := ⟨h.pq.deg, h.pq.len, Hb.of_size hs⟩
theorem Gd.of {d K : Nat} {l : List Tm} (h : Pq d K (norm l)) (hd : d ≤ 12) (hK : K ≤ 6400) : Gd (norm l) := ⟨h.mono hd hK, norm_nrm l⟩
theorem Gd.ex {p : List Tm} (h : Gd p) (hs : sizeE p ≤ 16384) {d : Nat} (hd : degN p ≤ (d : Int)) : Pq d 513 p :=
  ⟨fun t ht => by have := degN_mem h.nrm ht; omega, h.pq.len, Hb.of_size hs⟩
theorem Gd.x : Gd [⟨1, 0, 1⟩] := ⟨⟨fun t ht => by rw [List.mem_singleton] at ht; subst ht; decide, by decide, (Hb.of_KL (k := 2) (fun t ht => by rw [List.mem_singleton] at ht; subst ht; exact lenQ_one)).mono (by decide)⟩, ⟨fun t ht => by rw [List.mem_singleton] at ht; subst ht; simp only; grind, List.pairwise_singleton _ _⟩⟩
theorem Gd.y : Gd [⟨0, 1, 1⟩] := ⟨⟨fun t ht => by rw [List.mem_singleton] at ht; subst ht; decide, by decide, (Hb.of_KL (k := 2) (fun t ht => by rw [List.mem_singleton] at ht; subst ht; exact lenQ_one)).mono (by decide)⟩, ⟨fun t ht => by rw [List.mem_singleton] at ht; subst ht; simp only; grind, List.pairwise_singleton _ _⟩⟩
theorem one_Pq {x : Rat} {k : Nat} (h : lenQ x ≤ k) : Pq 0 (k + 2) [⟨0, 0, x⟩] :=
  ⟨fun t ht => by rw [List.mem_singleton] at ht; subst ht; exact Nat.le_refl _, by simp, (Hb.of_KL (k := k) (fun t ht => by rw [List.mem_singleton] at ht; subst ht; exact h)).mono (by simp)⟩
theorem Gd.num {s : ByteArray} {k n a b : Nat} (h : NumOk s k n a b) (hs : s.size ≤ 4096) : Gd (norm [⟨0, 0, ((n : Int) : Rat)⟩]) :=
  Gd.of ((one_Pq (lenQ_nat (h.big hs) (by decide))).nrm (by decide)) (by decide) (by decide)
def mulOk (p q : List Tm) : Prop := ¬ (degN p ≥ 0 ∧ degN q ≥ 0 ∧ degN p + degN q > 12)
theorem degN_neg {p : List Tm} (h : ¬ degN p ≥ 0) : p = [] := by
  unfold degN at h
  split at h
  · rename_i e; exact List.eq_nil_of_length_eq_zero e
  · omega
theorem mulOk.ds {p q : List Tm} (hp : Gd p) (hq : Gd q) (hsp : sizeE p ≤ 16384) (hsq : sizeE q ≤ 16384) (h : mulOk p q) : ∃ da db : Nat, da + db ≤ 12 ∧ Pq da 513 p ∧ Pq db 513 q := by
  unfold mulOk at h
  by_cases h1 : degN p ≥ 0
  · by_cases h2 : degN q ≥ 0
    · exact ⟨(degN p).toNat, (degN q).toNat, by omega, hp.ex hsp (by omega), hq.ex hsq (by omega)⟩
    · have := degN_neg h2; subst this
      exact ⟨12, 0, by decide, hp.fit hsp, (Pq.nil 0).mono (by decide) (by decide)⟩
  · have := degN_neg h1; subst this
    exact ⟨0, 12, by decide, (Pq.nil 0).mono (by decide) (by decide), hq.fit hsq⟩
theorem Gd.mul {p q : List Tm} (hp : Gd p) (hq : Gd q) (hs : sizeE p + sizeE q ≤ 16384) (h : mulOk p q) : Gd (norm (mulL p q)) := by
  obtain ⟨da, db, h1, h2, h3⟩ := mulOk.ds hp hq (by omega) (by omega) h
  exact Gd.of (h2.mul h3 h1) h1 (by decide)
theorem powOk.ds {p : List Tm} {n : Nat} (hp : Gd p) (hn : n ≤ 12) (hs : n * sizeE p ≤ 16384) (h : ¬ (n : Int) * degN p > 12) : n = 0 ∨ ∃ d : Nat, d ≤ 12 ∧ n * d ≤ 12 ∧ Pq d 513 p := by
  rcases Nat.eq_zero_or_pos n with e | e
  · exact .inl e
  · have hsp : sizeE p ≤ 16384 := by have := Nat.mul_le_mul_right (sizeE p) (show 1 ≤ n by omega); omega
    refine .inr ?_
    by_cases h1 : degN p ≥ 0
    · have h12 := degN_le hp.pq.deg
      refine ⟨(degN p).toNat, by omega, ?_, hp.ex hsp (by omega)⟩
      have : ((n * (degN p).toNat : Nat) : Int) = (n : Int) * degN p := by rw [Int.natCast_mul, Int.toNat_of_nonneg h1]
      omega
    · have := degN_neg h1; subst this
      exact ⟨0, by decide, by omega, (Pq.nil 0).mono (by decide) (by decide)⟩
theorem Gd.pow {p : List Tm} {n : Nat} (hp : Gd p) (hn : n ≤ 12) (hs : n * sizeE p ≤ 16384) (h : ¬ (n : Int) * degN p > 12) : Gd (norm (powL p n)) := by
  rcases powOk.ds hp hn hs h with rfl | ⟨d, h1, h2, h3⟩
  · rw [powL, norm_one]; exact ⟨Pq.one.mono (by decide) (by decide), by rw [← norm_one]; exact norm_nrm _⟩
  · exact Gd.of (h3.pow n h2) h2 (by have := Nat.mul_le_mul_right 513 hn; omega)
theorem lenQ_invN {n K : Nat} (h : n < 4294967296 ^ K) (hK : 2 ≤ K) : lenQ (1 / ((n : Int) : Rat)) ≤ K + 2 := by
  have h1 := lenQ_div 1 ((n : Int) : Rat)
  have h2 := lenQ_nat h hK
  have h3 := lenQ_one
  omega
theorem Gd.quo {p : List Tm} {n : Nat} (hp : Gd p) (hs : sizeE p ≤ 16384) (hn : n < 4294967296 ^ 426) : Gd (norm (scaleL (1 / ((n : Int) : Rat)) p)) :=
  Gd.of ((hp.fit hs).scale (lenQ_invN hn (by decide)) (by decide)) (by decide) (by decide)
theorem Gd.add {p q : List Tm} (hp : Gd p) (hq : Gd q) (hs : sizeE p + sizeE q ≤ 16384) : Gd (norm (p ++ q)) :=
  Gd.of ((hp.fit (by omega)).add (hq.fit (by omega)) (by decide) (by decide)) (by decide) (by decide)
theorem Gd.sub {p q : List Tm} (hp : Gd p) (hq : Gd q) (hs : sizeE p + sizeE q ≤ 16384) : Gd (norm (p ++ scaleL ((-1 : Int) : Rat) q)) := by
  have h1 := Hb.scale (c := ((-1 : Int) : Rat)) (k := 2) (hq.fit (by omega)).hgt (lenQ_int (-1) (by decide) (by decide))
  refine Gd.of (d := 12) (K := 1030) (Pq.of_norm (DL_append (hp.fit (by omega)).deg (DL_scaleL _ hq.pq.deg)) (((hp.fit (by omega)).hgt.append h1).mono (by decide)) (by decide)) (by decide) (by decide)
theorem Hb.neg {K : Nat} {p : List Tm} (h : Hb K p) : Hb K (scaleL ((-1 : Int) : Rat) p) := by
  obtain ⟨D, N, h0, h1, h2, h3, h4⟩ := h
  refine ⟨D, N, h0, h1, h2, fun t ht => ?_, ?_⟩
  · unfold scaleL at ht
    obtain ⟨u, hu, rfl⟩ := List.mem_map.1 ht
    have := (ID.int (-1)).mul (h3 u hu)
    rwa [Nat.one_mul] at this
  · rw [sab_scale, show ab ((-1 : Int) : Rat) = 1 from by rw [ab_int]; rfl]; grind
theorem Gd.neg {p : List Tm} (hp : Gd p) : Gd (norm (scaleL ((-1 : Int) : Rat) p)) :=
  Gd.of (Pq.of_norm (DL_scaleL _ hp.pq.deg) hp.pq.hgt.neg (by decide)) (by decide) (by decide)
def InsG (s : ByteArray) (inside : Ins) : Prop := ∀ f, inside = some f → ∀ k p k', k ≤ s.size → f k = .ok (p, k') → Gd p ∧ k ≤ k' ∧ k' ≤ s.size
section
variable {s : ByteArray} {inside : Ins} {k k' : Nat} {p : List Tm}
theorem baseE_good (hs : s.size ≤ 4096) (hi : InsG s inside) (hk : k ≤ s.size) (h : baseE s inside k = .ok (p, k')) : Gd p ∧ k < k' ∧ k' ≤ s.size := by
  have hb := blkE_ge s k
  unfold baseE at h
  simp only [nI_norm] at h
  split at h
  · rename_i ht
    have := takesE_lt hk ht
    simp only [Except.ok.injEq, Prod.mk.injEq] at h
    obtain ⟨rfl, rfl⟩ := h
    exact ⟨Gd.x, by omega, by omega⟩
  split at h
  · rename_i ht
    have := takesE_lt hk ht
    simp only [Except.ok.injEq, Prod.mk.injEq] at h
    obtain ⟨rfl, rfl⟩ := h
    exact ⟨Gd.y, by omega, by omega⟩
  split at h
  · rename_i ht
    have := takesE_lt hk ht
    split at h
    · cases h
    · rename_i f
      split at h
      · cases h
      · rename_i q k2 hf
        obtain ⟨g1, g2, g3⟩ := hi f rfl _ _ _ (by omega) hf
        split at h
        · rename_i ht2
          have h3 := takesE_lt g3 ht2
          have h4 := blkE_ge s k2
          simp only [Except.ok.injEq, Prod.mk.injEq] at h
          obtain ⟨rfl, rfl⟩ := h
          exact ⟨g1, by omega, by omega⟩
        · cases h
  · split at h
    · cases h
    · rename_i n a b hn
      have hN := numE_ok hk hn
      simp only [Except.ok.injEq, Prod.mk.injEq] at h
      obtain ⟨rfl, rfl⟩ := h
      have h1 := hN.at_
      have h2 := hN.lt
      exact ⟨Gd.num hN hs, by omega, hN.le⟩
theorem factE_good (hs : s.size ≤ 4096) (hi : InsG s inside) (hk : k ≤ s.size) (h : factE s inside k = .ok (p, k')) : Gd p ∧ k < k' ∧ k' ≤ s.size := by
  unfold factE at h
  simp only [nI_norm] at h
  split at h
  · cases h
  · rename_i q k2 hb
    obtain ⟨g1, g2, g3⟩ := baseE_good hs hi hk hb
    have h4 := blkE_ge s k2
    split at h
    · rename_i ht
      have h3 := takesE_lt g3 ht
      split at h
      · cases h
      · rename_i n a b hn
        have hN := numE_ok (k := blkE s k2 + 1) (by omega) hn
        have h1 := hN.at_
        have h2 := hN.lt
        have h5 := blkE_ge s (blkE s k2 + 1)
        split at h
        · cases h
        · split at h
          · cases h
          · rename_i h6 h7
            simp only [Except.ok.injEq, Prod.mk.injEq] at h
            obtain ⟨rfl, rfl⟩ := h
            exact ⟨g1.pow (by omega) (by omega) (by omega), by omega, hN.le⟩
    · simp only [Except.ok.injEq, Prod.mk.injEq] at h
      obtain ⟨rfl, rfl⟩ := h
      exact ⟨g1, by omega, blkE_le g3⟩
theorem termE_good (hs : s.size ≤ 4096) (hi : InsG s inside) : ∀ (f : Nat) {q : List Tm} {k : Nat}, Gd q → k ≤ s.size → termE s inside f q k = .ok (p, k') → Gd p ∧ k ≤ k' ∧ k' ≤ s.size
  | 0, q, k, hq, hk, h => by
    simp only [termE, Except.ok.injEq, Prod.mk.injEq] at h
    obtain ⟨rfl, rfl⟩ := h
    exact ⟨hq, Nat.le_refl _, hk⟩
  | f + 1, q, k, hq, hk, h => by
    have h4 := blkE_ge s k
    rw [termE] at h
    simp only [nI_norm] at h
    split at h
    · rename_i ht
      have h3 := takesE_lt hk ht
      split at h
      · cases h
      · rename_i q2 b hf
        obtain ⟨g1, g2, g3⟩ := factE_good hs hi (by omega) hf
        split at h
        · cases h
        · split at h
          · cases h
          · rename_i h6 h7
            obtain ⟨e1, e2, e3⟩ := termE_good hs hi f (hq.mul g1 (by omega) h6) g3 h
            exact ⟨e1, by omega, e3⟩
    split at h
    · rename_i ht
      have h3 := takesE_lt hk ht
      split at h
      · cases h
      · rename_i n a b hn
        have hN := numE_ok (k := blkE s k + 1) (by omega) hn
        have h1 := hN.at_
        have h2 := hN.lt
        have h5 := blkE_ge s (blkE s k + 1)
        split at h
        · cases h
        · split at h
          · cases h
          · obtain ⟨e1, e2, e3⟩ := termE_good hs hi f (hq.quo (by omega) (hN.big hs)) hN.le h
            exact ⟨e1, by omega, e3⟩
    · simp only [Except.ok.injEq, Prod.mk.injEq] at h
      obtain ⟨rfl, rfl⟩ := h
      exact ⟨hq, h4, blkE_le hk⟩
theorem termI_good (hs : s.size ≤ 4096) (hi : InsG s inside) (hk : k ≤ s.size) (h : termI s inside k = .ok (p, k')) : Gd p ∧ k < k' ∧ k' ≤ s.size := by
  unfold termI at h
  split at h
  · cases h
  · rename_i q b hf
    obtain ⟨g1, g2, g3⟩ := factE_good hs hi hk hf
    obtain ⟨e1, e2, e3⟩ := termE_good hs hi _ g1 g3 h
    exact ⟨e1, by omega, e3⟩
theorem sumL_good (hs : s.size ≤ 4096) (hi : InsG s inside) : ∀ (f : Nat) {q : List Tm} {k : Nat}, Gd q → k ≤ s.size → sumL s inside f q k = .ok (p, k') → Gd p ∧ k ≤ k' ∧ k' ≤ s.size
  | 0, q, k, hq, hk, h => by
    simp only [sumL, Except.ok.injEq, Prod.mk.injEq] at h
    obtain ⟨rfl, rfl⟩ := h
    exact ⟨hq, Nat.le_refl _, hk⟩
  | f + 1, q, k, hq, hk, h => by
    have h4 := blkE_ge s k
    rw [sumL] at h
    simp only [nI_norm] at h
    split at h
    · rename_i ht
      have h3 : blkE s k < s.size := ht.elim (takesE_lt hk) (takesE_lt hk)
      split at h
      · cases h
      · rename_i q2 b hf
        obtain ⟨g1, g2, g3⟩ := termI_good hs hi (by omega) hf
        split at h
        · cases h
        · rename_i h7
          have hg : Gd (if takesE s 43 k = true then norm (q ++ q2) else norm (q ++ scaleL ((-1 : Int) : Rat) q2)) := by
            split
            · exact hq.add g1 (by omega)
            · exact hq.sub g1 (by omega)
          obtain ⟨e1, e2, e3⟩ := sumL_good hs hi f hg g3 h
          exact ⟨e1, by omega, e3⟩
    · simp only [Except.ok.injEq, Prod.mk.injEq] at h
      obtain ⟨rfl, rfl⟩ := h
      exact ⟨hq, h4, blkE_le hk⟩
theorem sumI_good (hs : s.size ≤ 4096) (hi : InsG s inside) (hk : k ≤ s.size) (h : sumI s inside k = .ok (p, k')) : Gd p ∧ k < k' ∧ k' ≤ s.size := by
  have h4 := blkE_ge s k
  have h5 := blkE_le hk
  unfold sumI at h
  simp only [nI_norm] at h
  split at h
  · cases h
  · rename_i q b hf
    have hk2 : (if takesE s 45 k = true then blkE s k + 1 else blkE s k) ≤ s.size ∧ k ≤ (if takesE s 45 k = true then blkE s k + 1 else blkE s k) := by
      split
      · rename_i ht; have := takesE_lt hk ht; omega
      · omega
    obtain ⟨g1, g2, g3⟩ := termI_good hs hi hk2.1 hf
    have hg : Gd (if takesE s 45 k = true then norm (scaleL ((-1 : Int) : Rat) q) else q) := by
      split
      · exact g1.neg
      · exact g1
    obtain ⟨e1, e2, e3⟩ := sumL_good hs hi _ hg g3 h
    exact ⟨e1, by omega, e3⟩
end
theorem InsG.none (s : ByteArray) : InsG s none := fun _ h => nomatch h
theorem sumE_good {s : ByteArray} (hs : s.size ≤ 4096) : ∀ (n : Nat) {k k' : Nat} {p : List Tm}, k ≤ s.size → sumE s n k = .ok (p, k') → Gd p ∧ k < k' ∧ k' ≤ s.size
  | 0, k, k', p, hk, h => sumI_good hs (InsG.none s) hk h
  | n + 1, k, k', p, hk, h => sumI_good hs (fun f hf k p k' hk h => by
      cases hf
      obtain ⟨a, b, c⟩ := sumE_good hs n hk h
      exact ⟨a, by omega, c⟩) hk h
end
section
theorem cv_5_45 (x : Int) (w : World) : (Go.convert 5 45 (.int .u8 x)).run Tryz.prog w = .ok (.int .u64 (IntKind.u64.wrap x)) w := by
  simp [go_sem]
theorem cv_5_45b (x : Int) (h0 : IntKind.u64.wrap x = x) (w : World) : (Go.convert 5 45 (.int .u8 x)).run Tryz.prog w = .ok (.int .u64 x) w := by
  rw [cv_5_45, h0]
theorem cv_45_54b (x : Int) (h0 : IntKind.u32.wrap x = x) (w : World) : (Go.convert 45 54 (.int .u64 x)).run Tryz.prog w = .ok (.int .u32 x) w := by
  rw [cv_45_54, h0]
theorem bs_151_1_0 (x0 : Int) (w : World) : (Instr.buildSlice 151 1 [(0, .int .u32 x0)].toArray).run Tryz.prog w = .ok (.slice (some ⟨w.heap.size, 0, none⟩) 1 1) (w.alloc (.cells #[.int .u32 x0] 54 (0, 0))) := by
  simp [go_sem]
theorem bits_wds : ∀ n : Nat, n ≠ 0 → 32 * ((wds n).length - 1) + lenI ((wds n).getD ((wds n).length - 1) 0) = bitsN n := by
  intro n
  induction n using Nat.strongRecOn with
  | _ n ih =>
    intro hn
    by_cases h : n < 4294967296
    · rw [wds_pos hn, show n / 4294967296 = 0 by omega, wds_zero, show n % 4294967296 = n by omega]
      show 32 * 0 + lenI n = bitsN n
      unfold lenI bitsN; omega
    · have h1 := ih (n / 4294967296) (by omega) (by omega)
      have h2 := wds_pos_len (show n / 4294967296 ≠ 0 by omega)
      rw [wds_pos hn, List.length_cons, show (wds (n / 4294967296)).length + 1 - 1 = (wds (n / 4294967296)).length - 1 + 1 by omega]
      rw [show ((n % 4294967296) :: wds (n / 4294967296)).getD ((wds (n / 4294967296)).length - 1 + 1) 0 = (wds (n / 4294967296)).getD ((wds (n / 4294967296)).length - 1) 0 from rfl]
      have h3 := lenI_shift (n := n) (k := 32) (by show 4294967296 ≤ n; omega)
      have h4 : lenI n = bitsN n := rfl
      have h5 : lenI (n / 2 ^ 32) = bitsN (n / 4294967296) := rfl
      omega
theorem bitsN_le (n : Nat) : bitsN n ≤ 32 * (wds n).length := by
  by_cases h : n = 0
  · subst h; exact Nat.zero_le _
  · rw [← bits_wds n h]
    have h1 := wds_pos_len h
    have h2 := (Wd.wds n).getD ((wds n).length - 1)
    have h3 := lenI_le_of (n := (wds n).getD ((wds n).length - 1) 0) (k := 32) h2
    omega
theorem C_Bits (n : Nat) (hn : (wds n).length ≤ 10000000000) : CtrV Tryz.prog 114 [encN n] (.int .i64 ((bitsN n : Nat) : Int)) := by
  refine fn_intro Tryz.func114 rfl Tryz.ntmps114 nb ?_
  intro S w0 a hS h
  refine gC h (zs (zr (zx rfl fun b1 => za rfl (zn (zs (zr (zd rfl mr Tryz.isAgg47 Tryz.sizeOf47 (rd_2_0_2 _ _) ?_))))))); clear h; intro a w h
  refine gL h (zf [_] rfl Tryz.call92 (C_words n (by omega)) ?_); clear h; rintro v5 Ψ5 ⟨ad5, c5, rfl, hc5, rfl⟩ a w h
  refine gL h (za rfl (zn (zs (zs (zr (zm rfl (zp (.builtin [_] rfl (len_slice_151 _ _ _)) (zp (.eql rfl rfl) (zn ?_))))))))); clear h; intro a w h
  change Code.wp _ _ _ _ _
  refine cond_split h rfl (fun hc8 => ?_) (fun hc8 => ?_)
  · skip
    have h0 : (wds n).length = 0 := by have := eq_of_beq hc8; omega
    refine gC h (zs (zr (za rfl (zn (zt ?_))))); clear h; intro a w h
    refine retV h (results1 h rfl (.tmp rfl)) ?_
    have e0 : n = 0 := Decidable.of_not_not (fun hn => by have := wds_pos_len hn; omega)
    subst e0; rfl
  · skip
    have h0 : (wds n).length ≠ 0 := fun e => by rw [e] at hc8; exact absurd hc8 (by decide)
    obtain ⟨B5, O5, rfl⟩ := h.row_addr (ad := ad5) (M := u32s (wds n)) List.mem_cons_self (by intro e; apply h0; have := congrArg List.length e; simpa [u32s] using this)
    have hw := (Wd.wds n).getD ((wds n).length - 1)
    refine gC h (zk (zs (zr (zm rfl (zp (.builtin [_] rfl (len_slice_151 _ _ _)) (zp (Pure1.cast (v' := (.int .i64 ((((wds n).length) - 1 : Nat) : Int))) (.sub rfl rfl) (by show Value.int _ _ = Value.int _ _; congr 1; omega)) (zp (Pure1.cast (v' := (.int .i64 ((32 * (((wds n).length) - 1) : Nat) : Int))) (.mul rfl rfl) (by show Value.int _ _ = Value.int _ _; congr 1)) (zm rfl (zm rfl (zp (.builtin [_] rfl (len_slice_151 _ _ _)) (zp (Pure1.cast (v' := (.int .i64 ((((wds n).length) - 1 : Nat) : Int))) (.sub rfl rfl) (by show Value.int _ _ = Value.int _ _; congr 1; omega)) (zp (.indexAddr rfl rfl (ix_151 _ _ _ _ _ (by omega))) (zD rfl mm (by simp; omega) Tryz.isAgg54 Tryz.sizeOf54 (read_row 0 (by omega)) (.inr rfl) ?_))))))))))))); clear h; intro a w h
    refine gL h (zv [_] rfl Tryz.call164 (C_Len32 _ hw) ?_); clear h; intro a w h
    have hle := lenI_le_of (n := (wds n).getD ((wds n).length - 1) 0) (k := 32) hw
    refine gL h (zp (Pure1.cast (v' := (.int .i64 (((32 * (((wds n).length) - 1)) + (lenI ((wds n).getD ((wds n).length - 1) 0)) : Nat) : Int))) (.add rfl rfl) (by show Value.int _ _ = Value.int _ _; congr 1)) (za rfl (zn (zt ?_)))); clear h; intro a w h
    refine retV h (results1 h rfl (.tmp rfl)) ?_
    exact congrArg (fun k : Nat => Value.int .i64 (k : Int)) (bits_wds n (fun e => h0 (by rw [e, wds_zero]; rfl)))
theorem C_QNum (x : Rat) : CtrV Tryz.prog 116 [encQ x] (encZ x.num) := by
  refine fn_intro Tryz.func116 rfl Tryz.ntmps116 nb ?_
  intro S w0 a hS h
  refine gC h (zs (zr (zx rfl fun b1 => zz zeroZ fun b2 => zn (zs (zr (zp (.fieldAddr rfl (fa_53_0 _ _)) (zd rfl mr Tryz.isAgg51 Tryz.sizeOf51 (rd_5_0_3 _ _ _ _ _) ?_))))))); clear h; intro a w h
  refine gL h (zt' rfl rfl (st_3_0_3 _ _ _ _ _ _) uu Tryz.sizeOf51 rfl nb rfl ?_); clear h; intro a w h
  refine wpList_nil (wp_ret ?_)
  refine retV h (results1 h rfl (.cell rfl mr Tryz.isAgg51 Tryz.sizeOf51 (rd_3_0_3 _ _ _))) ?_
  rfl
theorem C_QDen (x : Rat) (hx : (wds x.den).length ≤ 400000000000) : CtrV Tryz.prog 115 [encQ x] (encN x.den) := by
  refine fn_intro Tryz.func115 rfl Tryz.ntmps115 nb ?_
  intro S w0 a hS h
  refine gC h (zs (zr (zx rfl fun b1 => zz zeroN fun b2 => zn (zs (zr (zd rfl mr Tryz.isAgg53 Tryz.sizeOf53 (rd_5_0_5 _ _ _ _ _) ?_)))))); clear h; intro a w h
  refine gL h (zv [_] rfl Tryz.call57 (C_den x hx) (zt' rfl rfl (st_2_0_2 _ _ _ _) uu Tryz.sizeOf47 rfl nb rfl ?_)); clear h; intro a w h
  refine wpList_nil (wp_ret ?_)
  refine retV h (results1 h rfl (.cell rfl mr Tryz.isAgg47 Tryz.sizeOf47 (rd_2_0_2 _ _))) ?_
  rfl
theorem C_U64 (n : Nat) : CtrV Tryz.prog 160 [encN n] (.tuple #[.int .u64 (lowN n), .bool (decide (n < 18446744073709551616))]) := by
  refine fn_intro Tryz.func160 rfl Tryz.ntmps160 nb ?_
  intro S w0 a hS h
  refine gC h (zs (zr (zx rfl fun b1 => za rfl (za rfl (zn (zs (yD mixed_YtgkicbaomcmfoaaGreatDoor [0, 1, 2, 3, 4, 5, 6] (floatsOK_none (by kernel_rfl)) (yp rfl (.fieldAddr rfl (fa_47_0 _ _)) (yd rfl rfl mr Tryz.isAgg45 Tryz.sizeOf45 (rs_2_0 _ _) ?_))))))))); clear h
  refine yp rfl (.fieldAddr rfl (fa_47_1 _ _)) (yd rfl rfl mr Tryz.isAgg9 Tryz.sizeOf9 (rs_2_1 _ _) ?_)
  refine yp rfl (.binOp rfl rfl (fun _ => run_seql _ _ _ _ _)) (yp rfl (.assign rfl) (yp rfl (.assign rfl) (yn (zt ?_)))); intro a w h
  refine retV h (results2 h rfl (.tmp rfl) (.tmp rfl)) ?_
  refine congrArg (fun c => Value.tuple #[Value.int .u64 (lowN n), Value.bool c]) ?_
  by_cases hs : n < 18446744073709551616
  · rw [decide_eq_true hs, bigN_empty.2 hs]; rfl
  · rw [decide_eq_false hs]
    refine Bool.eq_false_iff.2 (fun e => hs (bigN_empty.1 ?_))
    simpa using e
theorem C_QFrom (z : Int) (d : Nat) (hd : d ≠ 0) (hz : lenZ z ≤ 400000000000) (hdl : (wds d).length ≤ 400000000000) : CtrV Tryz.prog 163 [encZ z, encN d] (.tuple #[encQ (mkRat z d), .int .i64 0]) := by
  refine fn_intro Tryz.func163 rfl Tryz.ntmps163 nb ?_
  intro S w0 a hS h
  refine gC h (zs (zr (zx rfl fun b2 => zx rfl fun b3 => zz zeroQ fun b4 => za rfl (zn (zs (zs (zr (zd rfl mr Tryz.isAgg47 Tryz.sizeOf47 (rd_2_0_2 _ _) ?_)))))))); clear h; intro a w h
  refine gL h (zp (Pure1.cast (v' := encN 0) (.build [] rfl (bd_47_z)) (by rfl)) (zp (.binOp rfl rfl (fun _ => run_eqN _ _ d 0 _)) (zn ?_))); clear h; intro a w h
  change Code.wp _ _ _ _ _
  refine cond_split h rfl (fun hc8 => (by exfalso; exact absurd (of_decide_eq_true hc8) hd)) (fun hc8 => ?_)
  refine gC h (zk (zs (zr (zd rfl mr Tryz.isAgg51 Tryz.sizeOf51 (rd_3_0_3 _ _ _) ?_)))); clear h; intro a w h
  refine gL h (zd rfl mr Tryz.isAgg47 Tryz.sizeOf47 (rd_2_0_2 _ _) ?_); clear h; intro a w h
  refine gL h (zv [_, _] rfl Tryz.call84 (C_lowest z d hd hz hdl) (zt' rfl rfl (st_5_0_5 _ _ _ _ _ _ _ _ _ _) uu Tryz.sizeOf53 rfl nb rfl ?_)); clear h; intro a w h
  refine gL h (za rfl (zn (zt ?_))); clear h; intro a w h
  refine retV h (results2 h rfl (.cell rfl mr Tryz.isAgg53 Tryz.sizeOf53 (rd_5_0_5 _ _ _ _ _)) (.tmp rfl)) ?_
  rfl
theorem C_QFrom1 (n : Nat) (hn : (wds n).length ≤ 400000000000) : CtrV Tryz.prog 163 [encZ (sgZ false n), encN 1] (.tuple #[encQ ((n : Int) : Rat), .int .i64 0]) := by
  have h := C_QFrom (sgZ false n) 1 (by decide) (by unfold lenZ; rw [sgZ_abs]; exact hn) (Nat.le_trans (wds_small (by decide)) (by decide))
  have e : mkRat (sgZ false n) 1 = ((n : Int) : Rat) := by rw [Rat.mkRat_one]; rfl
  rw [e] at h; exact h
theorem valE_add (s : ByteArray) (a j : Nat) : ∀ m, valE s a (j + m) = 10 ^ m * valE s a j + valE s (a + j) m
  | 0 => by rw [Nat.add_zero, valE, Nat.pow_zero]; omega
  | m + 1 => by
    have ih := valE_add s a j m
    rw [← Nat.add_assoc, valE, valE, ih, Nat.pow_succ, Nat.mul_add, ← Nat.mul_assoc, Nat.mul_comm 10 (10 ^ m), Nat.add_assoc a j m]; omega
theorem take_snN (l : List Nat) {i : Nat} (h : i < l.length) : l.take (i + 1) = l.take i ++ [l.getD i 0] := by
  rw [List.take_add_one, List.getElem?_eq_getElem h]
  simp [List.getD, List.getElem?_eq_getElem h]
theorem carry_step {l Z : List Nat} {i pt sc p0 : Nat} (hi : i < l.length) (hl : Z.length = l.length) (hd : Z.drop i = l.drop i) (hv : valW (Z.take i) + 4294967296 ^ i * pt = sc * valW (l.take i) + p0) :
    (Z.set i ((pt + Z.getD i 0 * sc) % 4294967296)).drop (i + 1) = l.drop (i + 1) ∧ valW ((Z.set i ((pt + Z.getD i 0 * sc) % 4294967296)).take (i + 1)) + 4294967296 ^ (i + 1) * ((pt + Z.getD i 0 * sc) / 4294967296) = sc * valW (l.take (i + 1)) + p0 := by
  have hg : Z.getD i 0 = l.getD i 0 := getD_drop_eq hd (Nat.le_refl i)
  refine ⟨drop_set_succ hd, ?_⟩
  have e1 : (Z.set i ((pt + Z.getD i 0 * sc) % 4294967296)).take (i + 1) = Z.take i ++ [(pt + Z.getD i 0 * sc) % 4294967296] := by
    rw [take_snN _ (by rw [List.length_set]; omega), List.take_set_of_le (Nat.le_refl i)]
    congr 2
    simp [List.getD, hl, hi]
  rw [e1, take_snN l hi, valW_append, valW_append, hg, List.length_take, List.length_take, Nat.min_eq_left (by omega), Nat.min_eq_left (by omega)]
  simp only [valW]
  have h2 := Nat.mod_add_div (pt + l.getD i 0 * sc) 4294967296
  generalize (pt + l.getD i 0 * sc) % 4294967296 = r at *
  generalize (pt + l.getD i 0 * sc) / 4294967296 = q at *
  have h3 : 4294967296 ^ (i + 1) = 4294967296 ^ i * 4294967296 := Nat.pow_succ _ _
  rw [h3]
  generalize 4294967296 ^ i = P at *
  have h4 : P * (r + 4294967296 * q) = P * (pt + l.getD i 0 * sc) := by rw [h2]
  grind
theorem carry_lt {x pt sc : Nat} (hx : x < 4294967296) (hp : pt ≤ 1000000000) (hs : sc ≤ 1000000000) : x * sc ≤ 4294967295000000000 ∧ (pt + x * sc) / 4294967296 ≤ 1000000000 := by
  have := Nat.mul_le_mul (show x ≤ 4294967295 by omega) hs
  omega
set_option maxHeartbeats 1000000 in
theorem C_Parse (s : ByteArray) (h0 : 0 < s.size) (hs : s.size ≤ 4096) (hd : ∀ i, i < s.size → isDg (chA s i) = true) (hl : chA s 0 = 48 → s.size = 1) : CtrV Tryz.prog 162 [.string s] (.tuple #[encN (valE s 0 s.size), .int .i64 0]) := by
  refine fn_intro Tryz.func162 rfl Tryz.ntmps162 nb ?_
  intro S w0 a hS h
  refine gC h (zs (zr (zz zeroN fun b2 => za rfl (zn ?_)))); clear h; intro a w h
  change Code.wp _ _ _ _ _
  refine wp_join (fun a w => St 99 S w0 [(0, .string s), (2, .pointer (some ⟨b2, 0, none⟩))] [(b2, .cells (encN 0).cells 47 (0, 0))] [] a w) ?_ ?_
  · skip
    refine gC h (zb (zs (zr (zm rfl (zp (.builtin [_] rfl (len_string_9 _)) (zp (.gtr rfl rfl) (za rfl (zn ?_)))))))); clear h; intro a w h
    change Code.wp _ _ _ _ _
    refine cond_split h rfl (fun hc10 => (by exfalso; have := of_decide_eq_true hc10; omega)) (fun hc10 => ?_)
    refine gC h (zs (zr (zm rfl (zp (.binOp rfl rfl (fun _ => run_seql _ _ _ _ _)) ?_)))); clear h; intro a w h
    refine by_bool h (fun hc17 h => (by exfalso; have h9 : s = ⟨#[]⟩ := (by simpa using hc17); rw [h9] at h0; exact absurd h0 (by decide))) (fun hc17 h => ?_)
    refine gL h (zm rfl (zq 18 rfl rfl (.move rfl) (zq 18 rfl rfl (Pure1.cast (v' := .int .u8 ((chA s 0 : Nat) : Int)) (.index rfl rfl (fun _ => run_index_str Tryz.runUnderlying9 s 0 (by omega))) (by rfl)) (zq 18 rfl rfl (.eql rfl rfl) ?_)))); clear h; intro a w h
    refine by_bool h (fun hc21 h => ?_) (fun hc21 h => ?_)
    · skip
      refine gL h (zq 18 rfl rfl (.move rfl) (zq 22 rfl rfl (.move rfl) (zq 22 rfl rfl (.builtin [_] rfl (len_string_9 _)) (zq 22 rfl rfl (.gtr rfl rfl) ?_)))); clear h; intro a w h
      refine by_bool h (fun hc25 h => (by exfalso; have h48 : chA s 0 = 48 := (by have := eq_of_beq hc21; omega); have := hl h48; have := of_decide_eq_true hc25; omega)) (fun hc25 h => ?_)
      refine gL h (zq 18 rfl rfl (.pickT rfl rfl) (zp (.pickF rfl rfl) (za rfl (zn ?_)))); clear h; intro a w h
      change Code.wp _ _ _ _ _
      refine cond_false h rfl ?_
      refine wp_skip ?_
      exact h.sub sA
    · skip
      refine gL h (zq 18 rfl rfl (.move rfl) (zo 22 rfl rfl rfl (zo 22 rfl rfl rfl (zo 22 rfl rfl rfl (zq 18 rfl rfl (.pickF rfl rfl) (zp (.pickF rfl rfl) (za rfl (zn ?_)))))))); clear h; intro a w h
      change Code.wp _ _ _ _ _
      refine cond_false h rfl ?_
      refine wp_skip ?_
      exact h.sub sA
  · clear h
    intro a w h
    refine gC h (zs (zr (za rfl (zn (zs (zs (zr (za rfl (zn (zb ?_)))))))))); clear h; intro a w h
    refine wp_loop_inv (fun (j : Nat) a w => ∃ (l : List Nat) (ad : Option Addr) (c : Nat) (o : List (Nat × Obj)), (j ≤ s.size ∧ Wd l ∧ l.length ≤ j ∧ valW l = valE s 0 j ∧ GrowO 1 54 (.slice ad (l).length c) (l).length (List.map (fun x : Nat => Value.int .u32 (x : Int)) (l)) o) ∧ St 99 S w0 [(0, .string s), (2, .pointer (some ⟨b2, 0, none⟩)), (4, (.slice ad (l).length c)), (5, .int .i64 ((j : Nat) : Int))] (o ++ ((b2, .cells (Value.cells (encN (0))) 47 (0, 0)) :: [])) [] a w) (fun j => s.size - j) (0) (⟨[], none, 0, [], ⟨by omega, (fun _ h => nomatch h), Nat.le_refl _, rfl, GrowO.nil _ _⟩, by exact h.sub (subL ⟨rfl, rfl, rfl, rfl, trivial⟩)⟩) ?_; clear h
    rintro j a w ⟨l, ad, c, o, ⟨hj, hW, hll, hval, hG⟩, h⟩
    refine gC h (zs (zs (zr (zm rfl (zm rfl (zp (.builtin [_] rfl (len_string_9 _)) (zp (.lss rfl rfl) (zn ?_)))))))); clear h; intro a w h
    change Code.wp _ _ _ _ _
    refine cond_split h rfl (fun hc32 => ?_) (fun hc32 => ?_)
    · skip
      have hlt : j < s.size := by have := of_decide_eq_true hc32; omega
      obtain ⟨cnt, hcnt⟩ : ∃ cnt, cnt = (s.size - j - 1) % 9 + 1 := ⟨_, rfl⟩
      have hcj : j + cnt ≤ s.size := by have := Nat.mod_le (s.size - j - 1) 9; omega
      have hc9 : cnt ≤ 9 := by omega
      refine gC h (zk (zb (zs (zr (zm rfl (zm rfl (zp (.builtin [_] rfl (len_string_9 _)) (zm rfl (zp (Pure1.cast (v' := (.int .i64 ((s.size - j : Nat) : Int))) (.sub rfl rfl) (by show Value.int _ _ = Value.int _ _; congr 1; omega)) (zp (Pure1.cast (v' := (.int .i64 (((s.size - j) - 1 : Nat) : Int))) (.sub rfl rfl) (by show Value.int _ _ = Value.int _ _; congr 1; omega)) (zp (Pure1.cast (v' := .int .i64 (((s.size - j - 1) % 9 : Nat) : Int)) (.binOp rfl rfl (fun _ => run_rem _ _ _ _ _ (by decide))) (by exact congrArg (Value.int .i64) (tmod_nat _ 9))) (zp (Pure1.cast (v' := (.int .i64 ((j + ((s.size - j - 1) % 9) : Nat) : Int))) (.add rfl rfl) (by show Value.int _ _ = Value.int _ _; congr 1)) (zp (Pure1.cast (v' := .int .i64 ((j + cnt : Nat) : Int)) (Pure1.cast (v' := (.int .i64 (((j + ((s.size - j - 1) % 9)) + 1 : Nat) : Int))) (.add rfl rfl) (by show Value.int _ _ = Value.int _ _; congr 1)) (by show Value.int _ _ = Value.int _ _; congr 1; omega)) (za rfl (zn (zs (zr (za rfl (za rfl (zn (zs (zb ?_)))))))))))))))))))))); clear h; intro a w h
      refine wp_loop_inv (fun (m : Nat) a w => m ≤ cnt ∧ St 99 S w0 [(0, .string s), (2, .pointer (some ⟨b2, 0, none⟩)), (4, (.slice ad (l).length c)), (5, .int .i64 ((j + m : Nat) : Int)), (6, .int .i64 ((j + cnt : Nat) : Int)), (7, .int .u64 (((valE s j m : Nat) : Int))), (8, .int .u64 (((10 ^ m : Nat) : Int)))] (o ++ ((b2, .cells (Value.cells (encN (0))) 47 (0, 0)) :: [])) [] a w) (fun m => cnt - m) (0) (⟨Nat.zero_le _, by exact h.sub (subL ⟨rfl, rfl, rfl, rfl, rfl, rfl, rfl, trivial⟩)⟩) ?_; clear h
      rintro m a w ⟨hmc, h⟩
      refine gC h (zs (zs (zr (zm rfl (zm rfl (zp (.lss rfl rfl) (zn ?_))))))); clear h; intro a w h
      change Code.wp _ _ _ _ _
      refine cond_split h rfl (fun hc44 => ?_) (fun hc44 => ?_)
      · skip
        have hm : m < cnt := by have := of_decide_eq_true hc44; omega
        have hdg := hd (j + m) (by omega)
        unfold isDg at hdg
        rw [Bool.and_eq_true, decide_eq_true_eq, decide_eq_true_eq] at hdg
        have hv := valE_lt s j m (fun i h1 h2 => hd i (by omega))
        have hp : 10 ^ m ≤ 100000000 := Nat.le_trans (Nat.pow_le_pow_right (n := 10) (by decide) (show m ≤ 8 by omega)) (by decide)
        refine gC h (zk (zs (zb (zs (zs (zr (zm rfl (zm rfl (zp (Pure1.cast (v' := .int .u8 ((chA s (j + m) : Nat) : Int)) (.index rfl rfl (fun _ => run_index_str Tryz.runUnderlying9 _ _ (by omega))) (by rfl)) (zp (.lss rfl rfl) ?_)))))))))); clear h; intro a w h
        refine by_bool h (fun hc50 h => (by exfalso; have := of_decide_eq_true hc50; omega)) (fun hc50 h => ?_)
        refine gL h (zm rfl (zq 51 rfl rfl (.move rfl) (zq 51 rfl rfl (.move rfl) (zq 51 rfl rfl (Pure1.cast (v' := .int .u8 ((chA s (j + m) : Nat) : Int)) (.index rfl rfl (fun _ => run_index_str Tryz.runUnderlying9 _ _ (by omega))) (by rfl)) (zq 51 rfl rfl (.gtr rfl rfl) ?_))))); clear h; intro a w h
        refine by_bool h (fun hc55 h => (by exfalso; have := of_decide_eq_true hc55; omega)) (fun hc55 h => ?_)
        refine gL h (zp (.pickF rfl rfl) (zn ?_)); clear h; intro a w h
        change Code.wp _ _ _ _ _
        refine cond_false h rfl ?_
        refine gC h (zk (zr (zm rfl (zp (.binOp rfl rfl (fun _ => run_mulb _ _ _ _ _ (wrap_u64 _ (by omega) (by omega)))) (zm rfl (zm rfl (zp (Pure1.cast (v' := .int .u8 ((chA s (j + m) : Nat) : Int)) (.index rfl rfl (fun _ => run_index_str Tryz.runUnderlying9 _ _ (by omega))) (by rfl)) (zp (Pure1.cast (v' := .int .u8 ((chA s (j + m) - 48 : Nat) : Int)) (.binOp rfl rfl (fun _ => run_subb _ _ _ _ _ (wrap_u8 _ (by omega) (by omega)))) (by show Value.int _ _ = Value.int _ _; congr 1; omega)) (zp (.convert rfl (cv_5_45b _ (wrap_u64 _ (by omega) (by omega)))) (zp (Pure1.cast (v' := .int .u64 ((valE s j (m + 1) : Nat) : Int)) (.binOp rfl rfl (fun _ => run_addb _ _ _ _ _ (wrap_u64 _ (by omega) (by omega)))) (by show Value.int _ _ = Value.int _ _; congr 1)) (zm rfl (zp (Pure1.cast (v' := .int .u64 ((10 ^ (m + 1) : Nat) : Int)) (.binOp rfl rfl (fun _ => run_mulb _ _ _ _ _ (wrap_u64 _ (by omega) (by omega)))) (by show Value.int _ _ = Value.int _ _; congr 1; rw [Nat.pow_succ]; omega)) (za rfl (za rfl (zn (zr (zm rfl (zp (Pure1.cast (v' := (.int .i64 (((j + m) + 1 : Nat) : Int))) (.add rfl rfl) (by show Value.int _ _ = Value.int _ _; congr 1)) (za rfl (zn ?_)))))))))))))))))))); clear h; intro a w h
        exact ⟨m + 1, ⟨hm, by exact h.sub sA⟩, by omega⟩
      · skip
        have hme : m = cnt := by have := of_decide_eq_false hc44; omega
        subst hme
        have hv := valE_lt s j m (fun i h1 h2 => hd i (by omega))
        have hp : 10 ^ m ≤ 1000000000 := Nat.le_trans (Nat.pow_le_pow_right (n := 10) (by decide) hc9) (by decide)
        refine gC h (ze (zs (zs (zr (zm rfl (zp (.builtin [_] rfl (len_slice_151 _ _ _)) (zm rfl (zn (zb ?_))))))))); clear h; intro a w h
        refine wp_loop_inv (fun (i : Nat) a w => ∃ (Z : List Nat) (pt : Nat) (o2 : List (Nat × Obj)), (i ≤ l.length ∧ Z.length = l.length ∧ Wd Z ∧ Z.drop i = l.drop i ∧ pt ≤ 1000000000 ∧ valW (Z.take i) + 4294967296 ^ i * pt = 10 ^ m * valW (l.take i) + valE s j m ∧ GrowO 1 54 (.slice ad l.length c) l.length (List.map (fun x : Nat => Value.int .u32 (x : Int)) Z) o2) ∧ St 99 S w0 [(0, .string s), (2, .pointer (some ⟨b2, 0, none⟩)), (4, (.slice ad l.length c)), (5, .int .i64 ((j + m : Nat) : Int)), (7, .int .u64 (((pt : Nat) : Int))), (8, .int .u64 (((10 ^ m : Nat) : Int))), (69, .int .i64 ((l.length : Nat) : Int)), (70, .int .i64 ((i : Nat) : Int))] (o2 ++ ((b2, .cells (Value.cells (encN (0))) 47 (0, 0)) :: [])) [] a w) (fun i => l.length - i) (0) (⟨l, valE s j m, o, ⟨Nat.zero_le _, rfl, hW, rfl, by omega, by rw [List.take_zero, Nat.pow_zero]; simp [valW], hG⟩, by exact (h.drop (by repeat (first | exact List.Sublist.refl _ | apply List.Sublist.cons))).sub (subL ⟨rfl, rfl, rfl, rfl, rfl, rfl, rfl, rfl, trivial⟩)⟩) ?_; clear h
        rintro i a w ⟨Z, pt, o2, ⟨hil, hZl, hWZ, hdr, hpt, hva, hG2⟩, h⟩
        refine gC h (zs (zr (zp (.lss rfl rfl) (zn (zs ?_))))); clear h; intro a w h
        refine cond_split h rfl (fun hc71 => ?_) (fun hc71 => ?_)
        · skip
          have hli : i < l.length := by have := of_decide_eq_true hc71; omega
          obtain ⟨bL, RL, rfl, rfl, hRl, hRc⟩ := hG2.open (by omega)
          rw [List.cons_append, List.nil_append] at h
          have hxW := hWZ.getD i
          obtain ⟨hcm, hcq⟩ := carry_lt hxW hpt hp
          obtain ⟨hs1, hs2⟩ := carry_step hli hZl hdr hva
          refine gC h (zk (zs (zb (zs (zr (zm rfl (za rfl (zn (zs (zr (zm rfl (zm rfl (zm rfl (zp (.indexAddr rfl rfl (ix_151 _ _ _ _ _ (by omega))) (zd rfl mm Tryz.isAgg54 Tryz.sizeOf54 ((congrArg _ (Nat.zero_add _)).trans (read_rowR (enc := (fun x : Nat => Value.int .u32 (x : Int))) (l := Z) 0 (by omega))) ?_))))))))))))))); clear h; intro a w h
          refine gL h (zp (.convert rfl (cv_54_45b _ (wrap_u64 _ (by omega) (by omega)))) (zm rfl (zp (.binOp rfl rfl (fun _ => run_mulb _ _ _ _ _ (wrap_u64 _ (by rw [← Int.natCast_mul]; omega) (by rw [← Int.natCast_mul]; omega)))) (zp (Pure1.cast (v' := .int .u64 (((pt + Z.getD i 0 * 10 ^ m) : Nat) : Int)) (.binOp rfl rfl (fun _ => run_addb _ _ _ _ _ (wrap_u64 _ (by omega) (by omega)))) (by show Value.int _ _ = Value.int _ _; congr 1)) (za rfl (zn (zs (zr (zm rfl (zm rfl (zm rfl (zp (Pure1.cast (v' := .int .u32 (((pt + Z.getD i 0 * 10 ^ m) % 4294967296 : Nat) : Int)) (.convert rfl (cv_45_54 _)) (by rw [wrap_u32_mod]; congr 1)) (zp (.indexAddr rfl rfl (ix_151 _ _ _ _ _ (by omega))) (zt' rfl rfl ((congrArg (fun z => setFrom _ z _) (Nat.zero_add _)).trans (set_rowR (enc := (fun x : Nat => Value.int .u32 (x : Int))) Z RL i ((pt + Z.getD i 0 * 10 ^ m) % 4294967296) (by omega))) uu Tryz.sizeOf54 rfl (by rw [List.size_toArray, List.length_append, List.length_map]; omega) rfl ?_)))))))))))))); clear h; intro a w h
          refine gL h (zn (zr (zm rfl (zp (Pure1.cast (v' := .int .u64 (((pt + Z.getD i 0 * 10 ^ m) / 4294967296 : Nat) : Int)) (.binOp rfl rfl (fun _ => run_shr _ _ _ (pt + Z.getD i 0 * 10 ^ m) 32 (by decide))) (by rfl)) (za rfl (zn (zr (zp (Pure1.cast (v' := (.int .i64 ((i + 1 : Nat) : Int))) (.add rfl rfl) (by show Value.int _ _ = Value.int _ _; congr 1)) (zm rfl (zn ?_)))))))))); clear h; intro a w h
          exact ⟨i + 1, ⟨Z.set i ((pt + Z.getD i 0 * 10 ^ m) % 4294967296), (pt + Z.getD i 0 * 10 ^ m) / 4294967296, [(bL, _)], ⟨by omega, by rw [List.length_set]; exact hZl, hWZ.set _ _ (Nat.mod_lt _ (by decide)), hs1, hcq, hs2, GrowO.close (by simp [hZl]) (by simpa using hRl) hRc⟩, by exact (h.drop (by repeat (first | exact List.Sublist.refl _ | apply List.Sublist.cons))).sub sA⟩, by omega⟩
        · skip
          have hie : i = l.length := by have := of_decide_eq_false hc71; omega
          subst hie
          rw [List.take_of_length_le (by omega), List.take_length] at hva
          have hvn : valW Z + 4294967296 ^ Z.length * pt = valE s 0 (j + m) := by rw [hZl, hva, valE_add, hval, Nat.zero_add]
          rw [← hZl] at h hG2
          refine gC h (ze (zs (zr (zm rfl (zp (.gtr rfl rfl) (zn ?_)))))); clear h; intro a w h
          change Code.wp _ _ _ _ _
          refine cond_split h rfl (fun hc91 => ?_) (fun hc91 => ?_)
          · skip
            have hp0 : 0 < pt := by have := of_decide_eq_true hc91; omega
            refine gC h (zr (zm rfl (zm rfl (zp (.convert rfl (cv_45_54b _ (wrap_u32 _ (by omega) (by omega)))) (zB [(_, _)] rfl (bs_151_1_0 _) fun b95 => ?_))))); clear h; intro a w h
            refine wpl_plain (op_appendO (σr := [(b2, .cells (Value.cells (encN (0))) 47 (0, 0))]) h rfl rfl (List.Perm.trans (List.Perm.refl _) (List.Perm.cons _ (List.Perm.refl _))) hG2 Tryz.runUnderlying151 Tryz.runUnderlying151 Tryz.typeInfo54 Tryz.sizeOf54 Tryz.zeroValue54 rfl (by decide) (by decide) rfl rfl (by decide) (by show 4 * (2 * ((Z).length + 1) + 192) ≤ 281474976710656; omega) (by decide) ?_); clear h
            intro v96 o96 a w hG96 h
            obtain ⟨ad96, c96, rfl⟩ := hG96.is
            have hLn96 : (Z).length + 1 = (Z ++ [pt]).length := by simp only [List.length_append, List.length_cons, List.length_nil, Nat.zero_add]
            rw [hLn96] at h hG96
            replace hG96 : GrowO 1 54 (.slice ad96 (Z ++ [pt]).length c96) (Z ++ [pt]).length (List.map (fun x : Nat => Value.int .u32 (x : Int)) (Z ++ [pt])) o96 := by rw [List.map_append]; exact hG96
            refine gL h (za rfl (zn ?_)); clear h; intro a w h
            exact ⟨j + m, ⟨Z ++ [pt], ad96, c96, o96, ⟨hcj, hWZ.append (fun x hx => by rw [List.mem_singleton] at hx; omega), by rw [List.length_append, List.length_singleton]; omega, by rw [valW_append]; simpa [valW] using hvn, hG96⟩, by exact h.sub sA⟩, by omega⟩
          · skip
            have hp0 : pt = 0 := by have := of_decide_eq_false hc91; omega
            subst hp0
            rw [Nat.mul_zero, Nat.add_zero] at hvn
            refine wp_skip ?_
            exact ⟨j + m, ⟨Z, ad, c, o2, ⟨hcj, hWZ, by omega, hvn, hG2⟩, by exact h.sub sA⟩, by omega⟩
    · skip
      have hje : j = s.size := by have := of_decide_eq_false hc32; omega
      subst hje
      have hcap := hG.le
      replace h := St.shareO' h hS hG
      refine gC h (ze (zs (zr (zm rfl (zw [_] rfl Tryz.call128 (C_of ad c l hW hcap (by omega)) (zt' rfl rfl (st_2_0_2 _ _ _ _) uu Tryz.sizeOf47 rfl nb rfl ?_)))))); clear h; intro a w h
      refine gL h (za rfl (zn (zt ?_))); clear h; intro a w h
      refine retV h (results2 h rfl (.cell rfl mr Tryz.isAgg47 Tryz.sizeOf47 (rd_2_0_2 _ _)) (.tmp rfl)) ?_
      show Value.tuple #[encN (valW l), _] = _
      rw [hval]
theorem chA_extract (s : ByteArray) (a e i : Nat) (h : e ≤ s.size) (hi : i < e - a) : chA (s.extract a e) i = chA s (a + i) := by
  unfold chA
  rw [ByteArray.data_extract, Array.toList_extract, List.extract_eq_take_drop]
  simp [List.getD, List.getElem?_take, hi]
theorem valE_extract (s : ByteArray) (a e : Nat) (h : e ≤ s.size) : ∀ n, n ≤ e - a → valE (s.extract a e) 0 n = valE s a n
  | 0, _ => rfl
  | n + 1, hn => by rw [valE, valE, valE_extract s a e h n (by omega), Nat.zero_add, chA_extract s a e n h (by omega)]
theorem C_ParseS (s : ByteArray) (a e : Nat) (h1 : a < e) (h2 : e ≤ s.size) (hs : s.size ≤ 4096) (hd : ∀ i, a ≤ i → i < e → isDg (chA s i) = true) (hl : chA s a = 48 → e = a + 1) : CtrV Tryz.prog 162 [.string (s.extract a e)] (.tuple #[encN (valE s a (e - a)), .int .i64 0]) := by
  have hz : (s.extract a e).size = e - a := by rw [ByteArray.size_extract]; omega
  have h := C_Parse (s.extract a e) (by omega) (by omega) (fun i hi => by rw [chA_extract s a e i h2 (by omega)]; exact hd _ (by omega) (by omega)) (fun h48 => by
    rw [chA_extract s a e 0 h2 (by omega)] at h48
    have := hl h48; omega)
  rw [hz, valE_extract s a e h2 _ (Nat.le_refl _)] at h
  exact h
end
section
theorem bd_28_0_1 (x0 : Int) (x1 : Int) (w : World) : (Instr.build 28 [(0, .int .i64 x0), (1, .int .i64 x1)].toArray).run Tryz.prog w = .ok (.agg #[.int .i64 x0, .int .i64 x1]) w := by simp [go_sem]
theorem fa_78_1 (b off : Nat) (w : World) : (Instr.fieldAt 78 (.pointer (some ⟨b, off, none⟩)) 1).run Tryz.prog w = .ok (.pointer (some ⟨b, off + 1, none⟩)) w := by
  simp [go_sem]
theorem fa_78_0 (b off : Nat) (w : World) : (Instr.fieldAt 78 (.pointer (some ⟨b, off, none⟩)) 0).run Tryz.prog w = .ok (.pointer (some ⟨b, off + 0, none⟩)) w := by
  simp [go_sem]
theorem st_3_1_1 (c0 c1 c2 v0 : Value) : setFrom #[c0, c1, c2] 1 [v0] = #[c0, v0, c2] := rfl
abbrev faV (e k : Int) : Value := .iface 28 (.agg #[.int .i64 e, .int .i64 k])
abbrev rdB (b : Nat) (s : ByteArray) (k o : Nat) : Nat × Obj := (b, .cells #[.string s, .int .i64 ((k : Nat) : Int), .int .i64 ((o : Nat) : Int)] 78 (0, 0))
def PostP (r : Except Fa (List Tm × Nat)) (b : Nat) (s : ByteArray) (o : Nat) (σ : List (Nat × Obj)) (Φ : List SPred) (v : Value) (σ' : List (Nat × Obj)) (Ψ : List SPred) : Prop :=
  ∃ p k' ad c, r = .ok (p, k') ∧ v = .slice ad p.length c ∧ σ' = rdB b s k' o :: σ ∧ Ψ = Row ad (cellsOf encT p) :: Φ
def PanP {α : Type} (r : Except Fa α) (b : Nat) (σ : List (Nat × Obj)) (v : Value) (σ' : List (Nat × Obj)) : Prop :=
  ∃ e i ob, r = .error (e, i) ∧ v = faV e ((i : Nat) : Int) ∧ σ' = (b, ob) :: σ
theorem C_fails (e k : Int) (σ : List (Nat × Obj)) (Φ : List SPred) : CtrE Tryz.prog 37 [.int .i64 e, .int .i64 k] σ Φ (fun _ _ _ => False) (fun v σ' => v = faV e k ∧ σ' = σ) := by
  refine fn_introE Tryz.func37 rfl Tryz.ntmps37 (Nat.le_of_ble_eq_true rfl) ?_
  intro S w0 a w hS h
  refine wp_region_lit ?_
  refine gL h (zm rfl (zm rfl (zp (.build [(_, _), (_, _)] rfl (bd_28_0_1 _ _)) ?_))); clear h; intro a w h
  refine wpl_plain (op_iface (v := faV e k) h rfl (fun w => by simp [go_sem, Instr.makeInterface]) (by decide) ?_); clear h; intro a h
  refine wpl_plain (op_panic h rfl ?_)
  exact panE h h.mem ⟨rfl, rfl⟩ (List.Sublist.refl _) (fun _ hR => hR)
theorem C_fits (n k : Int) (σ : List (Nat × Obj)) (Φ : List SPred) : CtrE Tryz.prog 72 [.int .i64 n, .int .i64 k] σ Φ (fun v σ' Ψ => ¬ n > 16384 ∧ v = .tuple #[] ∧ σ' = σ ∧ Φ = Ψ) (fun v σ' => n > 16384 ∧ v = faV 3 k ∧ σ' = σ) := by
  refine fn_introE Tryz.func72 rfl Tryz.ntmps72 nb ?_
  intro S w0 a w hS h
  refine gC h (zs (zr (zm rfl (zp (.gtr rfl rfl) (zn ?_))))); clear h; intro a w h
  change Code.wp _ _ _ _ _
  refine cond_split h rfl (fun hc5 => ?_) (fun hc5 => ?_)
  · skip
    refine gC h (zr (zm rfl ?_)); clear h; intro a w h
    refine wpl_plain (op_callE h hS (vs := [_, _]) rfl Tryz.call37 (C_fails 3 k _ _) (List.Perm.refl _) (by simp) ?_ (fun _ _ _ _ _ hp _ => by exact hp.elim))
    rintro _ _ w' ⟨rfl, rfl⟩ hm
    exact panE h hm ⟨of_decide_eq_true hc5, rfl, rfl⟩ sl (fun _ hR => by repeat (first | exact hR | apply List.Mem.tail))
  · skip
    refine wp_skip ?_
    refine endE h (results0 rfl) ⟨of_decide_eq_false hc5, rfl, rfl, rfl⟩ (List.Sublist.refl _) (fun _ h => h)
theorem C_fitsOk (n k : Int) (hn : ¬ n > 16384) : CtrV Tryz.prog 72 [.int .i64 n, .int .i64 k] (.tuple #[]) := by
  refine fn_intro Tryz.func72 rfl Tryz.ntmps72 nb ?_
  intro S w0 a hS h
  refine gC h (zs (zr (zm rfl (zp (.gtr rfl rfl) (zn ?_))))); clear h; intro a w h
  change Code.wp _ _ _ _ _
  refine cond_split h rfl (fun hc5 => (by exfalso; exact absurd (of_decide_eq_true hc5) hn)) (fun hc5 => ?_)
  refine wp_skip ?_
  refine retV h (results0 rfl) ?_
  rfl
theorem C_digit (c : Nat) : CtrV Tryz.prog 161 [.int .u8 ((c : Nat) : Int)] (.bool (isDg c)) := by
  refine fn_intro Tryz.func161 rfl Tryz.ntmps161 nb ?_
  intro S w0 a hS h
  refine gC h (zs (zr (za rfl (zn (zs (zr (zm rfl (zp (.geq rfl rfl) ?_)))))))); clear h; intro a w h
  refine by_bool h (fun hc4 h => ?_) (fun hc4 h => ?_)
  · skip
    refine gL h (zm rfl (zq 5 rfl rfl (.move rfl) (zq 5 rfl rfl (.leq rfl rfl) (zp (.pickT rfl rfl) (za rfl (zn (zt ?_))))))); clear h; intro a w h
    refine retV h (results1 h rfl (.tmp rfl)) ?_
    have h4 : 48 ≤ c := by have := of_decide_eq_true hc4; omega
    refine congrArg Value.bool ?_
    unfold isDg
    rw [decide_eq_true h4, Bool.true_and]
    exact decide_eq_decide.2 (by omega)
  · skip
    refine gL h (zm rfl (zo 5 rfl rfl rfl (zo 5 rfl rfl rfl (zp (.pickF rfl rfl) (za rfl (zn (zt ?_))))))); clear h; intro a w h
    refine retV h (results1 h rfl (.tmp rfl)) ?_
    have h4 : ¬ 48 ≤ c := by have := of_decide_eq_false hc4; omega
    refine congrArg Value.bool ?_
    unfold isDg
    rw [decide_eq_false h4, Bool.false_and]
theorem C_next (b k o : Nat) (s : ByteArray) (hs : s.size ≤ 4096) (hk : k ≤ s.size) (σ : List (Nat × Obj)) (Φ : List SPred) : CtrM Tryz.prog 36 [.pointer (some ⟨b, 0, none⟩)] (rdB b s k o :: σ) Φ (fun v σ' Ψ => v = .int .u8 ((nextE s k : Nat) : Int) ∧ σ' = rdB b s (blkE s k) o :: σ ∧ Φ = Ψ) := by
  refine fn_introM Tryz.func36 rfl Tryz.ntmps36 nb ?_
  intro S w0 a w hS h
  refine gC h (zs (zr (za rfl (zn ?_)))); clear h; intro a w h
  change Code.wp _ _ _ _ _
  refine wp_join (fun a w => St 51 S w0 [(0, .pointer (some ⟨b, 0, none⟩))] (rdB b s (blkE s k) o :: σ) Φ a w) ?_ ?_
  · skip
    refine wp_block ?_
    refine wp_loop_inv (fun (k1 : Nat) a w => (k1 ≤ s.size ∧ blkE s k1 = blkE s k) ∧ St 51 S w0 [(0, .pointer (some ⟨b, 0, none⟩)), (2, .int .u8 0)] ((b, .cells (Value.cells (.agg #[.string s, .int .i64 ((k1 : Nat) : Int), .int .i64 ((o : Nat) : Int)])) 78 (0, 0)) :: σ) (Φ) a w) (fun k1 => s.size - k1) (k) (⟨⟨hk, rfl⟩, by exact h.sub sA⟩) ?_; clear h
    rintro k1 a w ⟨⟨hk1, hb1⟩, h⟩
    refine gC h (zs (zs (yD mixed_YtgkicbaomcmfoaaGreatDoor [0, 1, 2, 3, 4, 5, 6, 7, 8, 9, 10, 11, 12, 13, 14, 15, 16, 17, 18, 19, 20, 21] (floatsOK_none (by kernel_rfl)) (yp rfl (.move rfl) (yp rfl (.nilCheck rfl) (yp rfl (.fieldAddr rfl (fa_78_1 _ _)) (yd rfl rfl mr Tryz.isAgg3 Tryz.sizeOf3 (rs_3_1 _ _ _) ?_))))))); clear h
    refine yp rfl (.move rfl) (yp rfl (.nilCheck rfl) (yp rfl (.fieldAddr rfl (fa_78_0 _ _)) (yd rfl rfl mr Tryz.isAgg9 Tryz.sizeOf9 (rs_3_0 _ _ _) ?_)))
    refine yp rfl (.builtin [_] rfl (len_string_9 _)) (yp rfl (.lss rfl rfl) ?_)
    refine head_bool (fun hc12  => ?_) (fun hc12  => ?_)
    · skip
      have hlt : k1 < s.size := by have := of_decide_eq_true hc12; omega
      refine yp rfl (.move rfl) (yq rfl rfl rfl (.move rfl) (yq rfl rfl rfl (.nilCheck rfl) (yq rfl rfl rfl (.fieldAddr rfl (fa_78_0 _ _)) (yg rfl rfl rfl rfl mr Tryz.isAgg9 Tryz.sizeOf9 (rs_3_0 _ _ _) ?_))))
      refine yq rfl rfl rfl (.move rfl) (yq rfl rfl rfl (.nilCheck rfl) (yq rfl rfl rfl (.fieldAddr rfl (fa_78_1 _ _)) (yg rfl rfl rfl rfl mr Tryz.isAgg3 Tryz.sizeOf3 (rs_3_1 _ _ _) ?_)))
      refine yq rfl rfl rfl (Pure1.cast (v' := .int .u8 ((chA s k1 : Nat) : Int)) (.index rfl rfl (fun _ => run_index_str Tryz.runUnderlying9 _ _ (by omega))) (by rfl)) (yq rfl rfl rfl (.eql rfl rfl) (yp rfl (.pickT rfl rfl) (yn ?_))); intro a w h
      change Code.wp _ _ _ _ _
      refine cond_split h rfl (fun hc24 => ?_) (fun hc24 => ?_)
      · skip
        have h32 : chA s k1 = 32 := by have := eq_of_beq hc24; omega
        refine gC h (zk (zb (zr (zm rfl (zp (.nilCheck rfl) (zp (.fieldAddr rfl (fa_78_1 _ _)) (zd rfl mr Tryz.isAgg3 Tryz.sizeOf3 (rs_3_1 _ _ _) ?_))))))); clear h; intro a w h
        refine gL h (zp (Pure1.cast (v' := (.int .i64 ((k1 + 1 : Nat) : Int))) (.add rfl rfl) (by show Value.int _ _ = Value.int _ _; congr 1)) (zp (.nilCheck rfl) (zp (.fieldAddr rfl (fa_78_1 _ _)) (zt' rfl rfl (st_3_1_1 _ _ _ _) uu Tryz.sizeOf3 rfl nb rfl ?_)))); clear h; intro a w h
        refine wpList_nil ?_
        exact ⟨k1 + 1, ⟨⟨by omega, by rw [blkE_step hlt h32]; exact hb1⟩, by exact h.sub sA⟩, by omega⟩
      · skip
        have h32 : ¬ chA s k1 = 32 := fun e => by rw [e] at hc24; exact absurd hc24 (by decide)
        refine wp_exit ?_
        have e := blkE_fix (s := s) (k := k1) (fun hh => h32 hh.2)
        rw [hb1] at e; subst e
        exact h.sub sA
    · skip
      have hge : ¬ k1 < s.size := by have := of_decide_eq_false hc12; omega
      refine yp rfl (.move rfl) (yo 13 rfl rfl rfl rfl (yo 13 rfl rfl rfl rfl (yo 13 rfl rfl rfl rfl (yo 13 rfl rfl rfl rfl (yo 13 rfl rfl rfl rfl (yo 13 rfl rfl rfl rfl (yo 13 rfl rfl rfl rfl (yo 13 rfl rfl rfl rfl (yo 13 rfl rfl rfl rfl (yo 13 rfl rfl rfl rfl (yp rfl (.pickF rfl rfl) (yn ?_)))))))))))); intro a w h
      change Code.wp _ _ _ _ _
      refine cond_false h rfl ?_
      refine wp_exit ?_
      have e := blkE_fix (s := s) (k := k1) (fun hh => hge hh.1)
      rw [hb1] at e; subst e
      exact h.sub sA
  · clear h
    intro a w h
    have hbl := blkE_le hk
    refine gC h (zs (zs (yD mixed_YtgkicbaomcmfoaaGreatDoor [0, 1, 2, 3, 4, 5, 6, 7, 8, 9] (floatsOK_none (by kernel_rfl)) (yp rfl (.move rfl) (yp rfl (.nilCheck rfl) (yp rfl (.fieldAddr rfl (fa_78_1 _ _)) (yd rfl rfl mr Tryz.isAgg3 Tryz.sizeOf3 (rs_3_1 _ _ _) ?_))))))); clear h
    refine yp rfl (.move rfl) (yp rfl (.nilCheck rfl) (yp rfl (.fieldAddr rfl (fa_78_0 _ _)) (yd rfl rfl mr Tryz.isAgg9 Tryz.sizeOf9 (rs_3_0 _ _ _) ?_)))
    refine yp rfl (.builtin [_] rfl (len_string_9 _)) (yp rfl (.eql rfl rfl) (yn ?_)); intro a w h
    change Code.wp _ _ _ _ _
    refine cond_split h rfl (fun hc41 => ?_) (fun hc41 => ?_)
    · skip
      have he : blkE s k = s.size := by have := eq_of_beq hc41; omega
      refine gC h (zs (zr (za rfl (zn (zt ?_))))); clear h; intro a w h
      refine retM h (results1 h rfl (.tmp rfl)) ⟨by unfold nextE; rw [if_pos he]; rfl, rfl, rfl⟩ (List.Sublist.refl _) (fun _ h => h)
    · skip
      have he : blkE s k ≠ s.size := fun e => by rw [e] at hc41; simp at hc41
      refine gC h (zk (zs (yD mixed_YtgkicbaomcmfoaaGreatDoor [0, 1, 2, 3, 4, 5, 6, 7, 8, 9] (floatsOK_none (by kernel_rfl)) (yp rfl (.move rfl) (yp rfl (.nilCheck rfl) (yp rfl (.fieldAddr rfl (fa_78_0 _ _)) (yd rfl rfl mr Tryz.isAgg9 Tryz.sizeOf9 (rs_3_0 _ _ _) ?_))))))); clear h
      refine yp rfl (.move rfl) (yp rfl (.nilCheck rfl) (yp rfl (.fieldAddr rfl (fa_78_1 _ _)) (yd rfl rfl mr Tryz.isAgg3 Tryz.sizeOf3 (rs_3_1 _ _ _) ?_)))
      refine yp rfl (Pure1.cast (v' := .int .u8 ((chA s (blkE s k) : Nat) : Int)) (.index rfl rfl (fun _ => run_index_str Tryz.runUnderlying9 _ _ (by omega))) (by rfl)) (yp rfl (.assign rfl) (yn (zt ?_))); intro a w h
      refine retM h (results1 h rfl (.tmp rfl)) ⟨by unfold nextE; rw [if_neg he], rfl, rfl⟩ (List.Sublist.refl _) (fun _ h => h)
theorem C_takes (b k o : Nat) (s : ByteArray) (hs : s.size ≤ 4096) (hk : k ≤ s.size) (σ : List (Nat × Obj)) (Φ : List SPred) (c : Nat) (hc : 0 < c) : CtrM Tryz.prog 70 [.pointer (some ⟨b, 0, none⟩), .int .u8 ((c : Nat) : Int)] (rdB b s k o :: σ) Φ (fun v σ' Ψ => v = .tuple #[.int .i64 (((if takesE s c k = true then blkE s k else 0) : Nat) : Int), .bool (takesE s c k)] ∧ σ' = rdB b s (if takesE s c k = true then blkE s k + 1 else blkE s k) o :: σ ∧ Φ = Ψ) := by
  have hbl := blkE_le hk
  refine fn_introM Tryz.func70 rfl Tryz.ntmps70 nb ?_
  intro S w0 a w hS h
  refine gC h (zs (zr (za rfl (za rfl (zn (zs (zs ?_))))))); clear h; intro a w h
  refine wp_anyR mixed_YtgkicbaomcmfoaaGreatDoor h ?_; clear h; intro a w h
  refine a_pre (n := 34) (S := S) (w0 := w0) [4, 5, 6, 7, 8, 9, 10, 11, 12, 13, 14, 15] [(0, .pointer (some ⟨b, 0, none⟩)), (1, .int .u8 (((c : Nat) : Int))), (4, .int .i64 0), (5, .bool false), (6, .pointer (some ⟨b, 0, none⟩)), (7, .int .u8 (((nextE s k : Nat) : Int))), (8, .int .u8 (((c : Nat) : Int))), (9, .bool ((((nextE s k : Nat) : Int)) != (((c : Nat) : Int))))] ((b, .cells (Value.cells (.agg #[.string s, .int .i64 ((blkE s k : Nat) : Int), .int .i64 ((o : Nat) : Int)])) 78 (0, 0)) :: σ) (Φ) ?_ ?_
  · clear h; intro a w h
    refine a_head [4, 5, 6, 7, 8, 9, 10, 11, 12, 13, 14, 15] h (by kernel_rfl) (floatsOK_none (by kernel_rfl)) ?_; clear h
    refine yp rfl (.move rfl) ?_
    refine head_bool (fun hc10  => ?_) (fun hc10  => ?_)
    · skip
      have hn : nextE s k ≠ c := fun e => by rw [e] at hc10; simp at hc10
      refine yo 10 rfl rfl rfl rfl (yo 10 rfl rfl rfl rfl (yo 10 rfl rfl rfl rfl (yo 10 rfl rfl rfl rfl (yo 10 rfl rfl rfl rfl (yo 10 rfl rfl rfl rfl (yo 10 rfl rfl rfl rfl (yo 10 rfl rfl rfl rfl (yo 10 rfl rfl rfl rfl (yo 10 rfl rfl rfl rfl (yp rfl (.pickT rfl rfl) (yn ?_))))))))))); intro a w h
      change Code.wp _ _ _ _ _
      refine cond_true h rfl ?_
      refine gC h (zs (zr (za rfl (za rfl (zn (zt ?_)))))); clear h; intro a w h
      have hf : takesE s c k = false := by unfold takesE; rw [decide_eq_false hn, Bool.false_and]
      refine retM h (results2 h rfl (.tmp rfl) (.tmp rfl)) ⟨by rw [hf]; rfl, by rw [hf]; rfl, rfl⟩ (List.Sublist.refl _) (fun _ h => h)
    · skip
      have hn : nextE s k = c := by simp at hc10; omega
      refine yq rfl rfl rfl (.move rfl) (yq rfl rfl rfl (.nilCheck rfl) (yq rfl rfl rfl (.fieldAddr rfl (fa_78_1 _ _)) (yg rfl rfl rfl rfl mr Tryz.isAgg3 Tryz.sizeOf3 (rs_3_1 _ _ _) ?_)))
      refine yq rfl rfl rfl (.move rfl) (yq rfl rfl rfl (.nilCheck rfl) (yq rfl rfl rfl (.fieldAddr rfl (fa_78_0 _ _)) (yg rfl rfl rfl rfl mr Tryz.isAgg9 Tryz.sizeOf9 (rs_3_0 _ _ _) ?_)))
      refine yq rfl rfl rfl (.builtin [_] rfl (len_string_9 _)) (yq rfl rfl rfl (.eql rfl rfl) (yp rfl (.pickF rfl rfl) (yn ?_))); intro a w h
      change Code.wp _ _ _ _ _
      refine cond_split h rfl (fun hc21 => ?_) (fun hc21 => ?_)
      · skip
        have he : blkE s k = s.size := by have := eq_of_beq hc21; omega
        refine gC h (zs (zr (za rfl (za rfl (zn (zt ?_)))))); clear h; intro a w h
        have hf : takesE s c k = false := by unfold takesE; rw [decide_eq_true he]; simp
        refine retM h (results2 h rfl (.tmp rfl) (.tmp rfl)) ⟨by rw [hf]; rfl, by rw [hf]; rfl, rfl⟩ (List.Sublist.refl _) (fun _ h => h)
      · skip
        have he : blkE s k ≠ s.size := fun e => by rw [e] at hc21; simp at hc21
        refine gC h (zk (zs (zr (zm rfl (zp (.nilCheck rfl) (zp (.fieldAddr rfl (fa_78_1 _ _)) (zd rfl mr Tryz.isAgg3 Tryz.sizeOf3 (rs_3_1 _ _ _) ?_))))))); clear h; intro a w h
        refine gL h (zp (Pure1.cast (v' := (.int .i64 (((blkE s k) + 1 : Nat) : Int))) (.add rfl rfl) (by show Value.int _ _ = Value.int _ _; congr 1)) (zp (.nilCheck rfl) (zp (.fieldAddr rfl (fa_78_1 _ _)) (zt' rfl rfl (st_3_1_1 _ _ _ _) uu Tryz.sizeOf3 rfl nb rfl ?_)))); clear h; intro a w h
        refine gL h (zn (zs (zr (zm rfl (zp (.nilCheck rfl) (zp (.fieldAddr rfl (fa_78_1 _ _)) (zd rfl mr Tryz.isAgg3 Tryz.sizeOf3 (rs_3_1 _ _ _) ?_))))))); clear h; intro a w h
        refine gL h (zp (Pure1.cast (v' := (.int .i64 ((((blkE s k) + 1) - 1 : Nat) : Int))) (.sub rfl rfl) (by show Value.int _ _ = Value.int _ _; congr 1; omega)) (za rfl (za rfl (zn (zt ?_))))); clear h; intro a w h
        have hf : takesE s c k = true := by unfold takesE; rw [decide_eq_true hn, decide_eq_false he]; rfl
        refine retM h (results2 h rfl (.tmp rfl) (.tmp rfl)) ⟨by rw [hf]; rfl, by rw [hf]; rfl, rfl⟩ (List.Sublist.refl _) (fun _ h => h)
  · intro hkey
    refine a_step [0, 2] (by kernel_rfl) (by decide) ?_; intro i hi
    simp only [List.mem_cons, List.not_mem_nil, or_false] at hi
    rcases hi with rfl | rfl
    · skip
      refine a_pure h rfl (.move rfl) (by decide) ?_; clear h; intro a h
      refine a_step [1, 2] (by kernel_rfl) (by decide) ?_; intro i hi
      simp only [List.mem_cons, List.not_mem_nil, or_false] at hi
      rcases hi with rfl | rfl
      · skip
        refine a_callM h hS rfl (vs := [_]) rfl Tryz.call36 (C_next b k o s hs hk _ Φ) (List.Perm.refl _) (by simp) (by decide) ?_; clear h; rintro v7 σ7 Ψ7 a w ⟨rfl, rfl, rfl⟩ h
        refine a_step [2] (by kernel_rfl) (by decide) ?_; intro i hi
        simp only [List.mem_cons, List.not_mem_nil, or_false] at hi
        rcases hi with rfl
        refine a_pure h rfl (.move rfl) (by decide) ?_; clear h; intro a h
        refine a_step [3] (by kernel_rfl) (by decide) ?_; intro i hi
        simp only [List.mem_cons, List.not_mem_nil, or_false] at hi
        rcases hi with rfl
        refine a_pure h rfl (.binOp rfl rfl (fun _ => run_neq _ _ _ _ _)) (by decide) ?_; clear h; intro a h
        exact a_conv (by kernel_rfl) (hkey _ _ (h.sub sA))
      · skip
        refine a_pure h rfl (.move rfl) (by decide) ?_; clear h; intro a h
        refine a_step [1] (by kernel_rfl) (by decide) ?_; intro i hi
        simp only [List.mem_cons, List.not_mem_nil, or_false] at hi
        rcases hi with rfl
        refine a_callM h hS rfl (vs := [_]) rfl Tryz.call36 (C_next b k o s hs hk _ Φ) (List.Perm.refl _) (by simp) (by decide) ?_; clear h; rintro v7 σ7 Ψ7 a w ⟨rfl, rfl, rfl⟩ h
        refine a_step [3] (by kernel_rfl) (by decide) ?_; intro i hi
        simp only [List.mem_cons, List.not_mem_nil, or_false] at hi
        rcases hi with rfl
        refine a_pure h rfl (.binOp rfl rfl (fun _ => run_neq _ _ _ _ _)) (by decide) ?_; clear h; intro a h
        exact a_conv (by kernel_rfl) (hkey _ _ (h.sub sA))
    · skip
      refine a_pure h rfl (.move rfl) (by decide) ?_; clear h; intro a h
      refine a_step [0] (by kernel_rfl) (by decide) ?_; intro i hi
      simp only [List.mem_cons, List.not_mem_nil, or_false] at hi
      rcases hi with rfl
      refine a_pure h rfl (.move rfl) (by decide) ?_; clear h; intro a h
      refine a_step [1] (by kernel_rfl) (by decide) ?_; intro i hi
      simp only [List.mem_cons, List.not_mem_nil, or_false] at hi
      rcases hi with rfl
      refine a_callM h hS rfl (vs := [_]) rfl Tryz.call36 (C_next b k o s hs hk _ Φ) (List.Perm.refl _) (by simp) (by decide) ?_; clear h; rintro v7 σ7 Ψ7 a w ⟨rfl, rfl, rfl⟩ h
      refine a_step [3] (by kernel_rfl) (by decide) ?_; intro i hi
      simp only [List.mem_cons, List.not_mem_nil, or_false] at hi
      rcases hi with rfl
      refine a_pure h rfl (.binOp rfl rfl (fun _ => run_neq _ _ _ _ _)) (by decide) ?_; clear h; intro a h
      exact a_conv (by kernel_rfl) (hkey _ _ (h.sub sA))
theorem C_number (b k o : Nat) (s : ByteArray) (hs : s.size ≤ 4096) (hk : k ≤ s.size) (σ : List (Nat × Obj)) (Φ : List SPred) : CtrE Tryz.prog 113 [.pointer (some ⟨b, 0, none⟩)] (rdB b s k o :: σ) Φ (fun v σ' Ψ => ∃ n a e, numE s k = .ok (n, a, e) ∧ v = .tuple #[encQ ((n : Int) : Rat), .int .i64 ((a : Nat) : Int)] ∧ σ' = rdB b s e o :: σ ∧ Φ = Ψ) (PanP (numE s k) b σ) := by
  have hbl := blkE_le hk
  refine fn_introE Tryz.func113 rfl Tryz.ntmps113 nb ?_
  intro S w0 a w hS h
  refine gC h (zs (zr (zz zeroQ fun b2 => za rfl (zn (zs (zs (zr (zm rfl ?_)))))))); clear h; intro a w h
  refine wpl_plain (op_callM h hS (vs := [_]) rfl Tryz.call36 (C_next b k o s hs hk _ Φ) ((pm_cc (List.Perm.refl _))) (by simp) (by simp) ?_); clear h; rintro v10 σ10 Ψ10 a w ⟨rfl, rfl, rfl⟩ h
  refine gL h (zv [_] rfl Tryz.call161 (C_digit _) (zp (.unOp rfl (un_not _)) (zn ?_))); clear h; intro a w h
  change Code.wp _ _ _ _ _
  refine cond_split h rfl (fun hc12 => ?_) (fun hc12 => ?_)
  · skip
    have h0 : isDg (nextE s k) = false := by simpa using hc12
    refine gC h (zr (zm rfl (zp (.nilCheck rfl) (zp (.fieldAddr rfl (fa_78_1 _ _)) (zd rfl mr Tryz.isAgg3 Tryz.sizeOf3 (rs_3_1 _ _ _) ?_))))); clear h; intro a w h
    refine wpl_plain (op_callE h hS (vs := [_, _]) rfl Tryz.call37 (C_fails 4 _ _ _) (List.Perm.refl _) (by simp) ?_ (fun _ _ _ _ _ hp _ => by exact hp.elim))
    rintro _ _ w' ⟨rfl, rfl⟩ hm
    exact panE h hm ⟨4, blkE s k, _, by unfold numE; simp only [h0, if_true], rfl, rfl⟩ sl (fun _ hR => by repeat (first | exact hR | apply List.Mem.tail))
  · skip
    have h0 : isDg (nextE s k) = true := by simpa using hc12
    obtain ⟨hN1, hN⟩ := numE_dig hk h0
    have hlt0 := hN.lt
    have hle0 := hN.le
    refine gC h (zk (zs (zr (zm rfl (zp (.nilCheck rfl) (zp (.fieldAddr rfl (fa_78_1 _ _)) (zd rfl mr Tryz.isAgg3 Tryz.sizeOf3 (rs_3_1 _ _ _) ?_))))))); clear h; intro a w h
    refine gL h (za rfl (zn ?_)); clear h; intro a w h
    change Code.wp _ _ _ _ _
    refine wp_join (fun a w => St 91 S w0 [(0, .pointer (some ⟨b, 0, none⟩)), (4, .int .i64 ((blkE s k : Nat) : Int)), (2, .pointer (some ⟨b2, 0, none⟩))] (rdB b s (digE s (blkE s k) (s.size - blkE s k) (blkE s k)) o :: (b2, .cells (encQ 0).cells 53 (0, 0)) :: σ) Φ a w) ?_ ?_
    · skip
      refine wp_block ?_
      refine wp_loop_inv (fun (k1 : Nat) a w => (k1 ≤ s.size ∧ blkE s k ≤ k1 ∧ digE s (blkE s k) (s.size - k1) k1 = digE s (blkE s k) (s.size - blkE s k) (blkE s k)) ∧ St 91 S w0 [(0, .pointer (some ⟨b, 0, none⟩)), (2, .pointer (some ⟨b2, 0, none⟩)), (3, .int .i64 0), (4, .int .i64 ((blkE s k : Nat) : Int)), (21, .int .i64 ((blkE s k : Nat) : Int))] ((b, .cells (Value.cells (.agg #[.string s, .int .i64 ((k1 : Nat) : Int), .int .i64 ((o : Nat) : Int)])) 78 (0, 0)) :: (b2, .cells (Value.cells (encQ (0))) 53 (0, 0)) :: σ) (Φ) a w) (fun k1 => s.size - k1) (blkE s k) (⟨⟨hbl, Nat.le_refl _, rfl⟩, by exact h.sub (subL ⟨rfl, rfl, rfl, rfl, rfl, trivial⟩)⟩) ?_; clear h
      rintro k1 a w ⟨⟨hk1, hk2, hd1⟩, h⟩
      refine gC h (zs (zs (yD mixed_YtgkicbaomcmfoaaGreatDoor [0, 1, 2, 3, 4, 5, 6, 7, 8, 9, 10, 11, 12, 13, 14, 15, 16, 17, 18, 19, 20, 21, 22, 23, 24, 25, 26, 27, 28, 29, 30, 31, 32, 33, 34, 35, 36, 37, 38] (floatsOK_none (by kernel_rfl)) (yp rfl (.move rfl) (yp rfl (.nilCheck rfl) (yp rfl (.fieldAddr rfl (fa_78_1 _ _)) (yd rfl rfl mr Tryz.isAgg3 Tryz.sizeOf3 (rs_3_1 _ _ _) ?_))))))); clear h
      refine yp rfl (.move rfl) (yp rfl (.nilCheck rfl) (yp rfl (.fieldAddr rfl (fa_78_0 _ _)) (yd rfl rfl mr Tryz.isAgg9 Tryz.sizeOf9 (rs_3_0 _ _ _) ?_)))
      refine yp rfl (.builtin [_] rfl (len_string_9 _)) (yp rfl (.lss rfl rfl) ?_)
      refine head_bool (fun hc31  => ?_) (fun hc31  => ?_)
      · skip
        have hlt : k1 < s.size := by have := of_decide_eq_true hc31; omega
        refine yp rfl (.move rfl) (yq rfl rfl rfl (.move rfl) (yq rfl rfl rfl (.nilCheck rfl) (yq rfl rfl rfl (.fieldAddr rfl (fa_78_0 _ _)) (yg rfl rfl rfl rfl mr Tryz.isAgg9 Tryz.sizeOf9 (rs_3_0 _ _ _) ?_))))
        refine yq rfl rfl rfl (.move rfl) (yq rfl rfl rfl (.nilCheck rfl) (yq rfl rfl rfl (.fieldAddr rfl (fa_78_1 _ _)) (yg rfl rfl rfl rfl mr Tryz.isAgg3 Tryz.sizeOf3 (rs_3_1 _ _ _) ?_)))
        refine yq rfl rfl rfl (Pure1.cast (v' := .int .u8 ((chA s k1 : Nat) : Int)) (.index rfl rfl (fun _ => run_index_str Tryz.runUnderlying9 _ _ (by omega))) (by rfl)) ?_
        refine head_callVG rfl rfl rfl (by kernel_rfl) (vs := [_]) rfl Tryz.call161 (C_digit _) (by decide) ?_
        refine head_bool (fun hc42  => ?_) (fun hc42  => ?_)
        · skip
          skip
          refine yp rfl (.pickT rfl rfl) (yp rfl (.move rfl) (yq rfl rfl rfl (.move rfl) (yq rfl rfl rfl (.nilCheck rfl) (yq rfl rfl rfl (.fieldAddr rfl (fa_78_1 _ _)) (yg rfl rfl rfl rfl mr Tryz.isAgg3 Tryz.sizeOf3 (rs_3_1 _ _ _) ?_)))))
          refine yq rfl rfl rfl (.move rfl) (yq rfl rfl rfl (.eql rfl rfl) ?_)
          refine head_bool (fun hc50  => ?_) (fun hc50  => ?_)
          · skip
            have hst : k1 < s.size ∧ isDg (chA s k1) = true ∧ (k1 = blkE s k ∨ chA s (blkE s k) ≠ 48) := ⟨hlt, hc42, .inl (by have := eq_of_beq hc50; omega)⟩
            refine yq rfl rfl rfl (.move rfl) (yo 51 rfl rfl rfl rfl (yo 51 rfl rfl rfl rfl (yo 51 rfl rfl rfl rfl (yo 51 rfl rfl rfl rfl (yo 51 rfl rfl rfl rfl (yo 51 rfl rfl rfl rfl (yo 51 rfl rfl rfl rfl (yq rfl rfl rfl (.pickT rfl rfl) (yp rfl (.pickT rfl rfl) (yn ?_)))))))))); intro a w h
            change Code.wp _ _ _ _ _
            refine cond_true h rfl ?_
            refine gC h (zk (zb (zr (zm rfl (zp (.nilCheck rfl) (zp (.fieldAddr rfl (fa_78_1 _ _)) (zd rfl mr Tryz.isAgg3 Tryz.sizeOf3 (rs_3_1 _ _ _) ?_))))))); clear h; intro a w h
            refine gL h (zp (Pure1.cast (v' := (.int .i64 ((k1 + 1 : Nat) : Int))) (.add rfl rfl) (by show Value.int _ _ = Value.int _ _; congr 1)) (zp (.nilCheck rfl) (zp (.fieldAddr rfl (fa_78_1 _ _)) (zt' rfl rfl (st_3_1_1 _ _ _ _) uu Tryz.sizeOf3 rfl nb rfl ?_)))); clear h; intro a w h
            refine wpList_nil ?_
            exact ⟨k1 + 1, ⟨⟨by omega, by omega, (digE_step hst).trans hd1⟩, by exact h.sub sA⟩, by omega⟩
          · skip
            have hne : k1 ≠ blkE s k := fun e => by rw [e] at hc50; simp at hc50
            refine yq rfl rfl rfl (.move rfl) (yq rfl rfl rfl (.move rfl) (yq rfl rfl rfl (.nilCheck rfl) (yq rfl rfl rfl (.fieldAddr rfl (fa_78_0 _ _)) (yg rfl rfl rfl rfl mr Tryz.isAgg9 Tryz.sizeOf9 (rs_3_0 _ _ _) ?_))))
            refine yq rfl rfl rfl (.move rfl) (yq rfl rfl rfl (Pure1.cast (v' := .int .u8 ((chA s (blkE s k) : Nat) : Int)) (.index rfl rfl (fun _ => run_index_str Tryz.runUnderlying9 _ _ (by omega))) (by rfl)) (yq rfl rfl rfl (.neq rfl rfl) (yq rfl rfl rfl (.pickF rfl rfl) (yp rfl (.pickT rfl rfl) (yn ?_))))); intro a w h
            change Code.wp _ _ _ _ _
            refine cond_split h rfl (fun hc60 => ?_) (fun hc60 => ?_)
            · skip
              have hst : k1 < s.size ∧ isDg (chA s k1) = true ∧ (k1 = blkE s k ∨ chA s (blkE s k) ≠ 48) := ⟨hlt, hc42, .inr (fun e => by rw [e] at hc60; simp at hc60)⟩
              refine gC h (zk (zb (zr (zm rfl (zp (.nilCheck rfl) (zp (.fieldAddr rfl (fa_78_1 _ _)) (zd rfl mr Tryz.isAgg3 Tryz.sizeOf3 (rs_3_1 _ _ _) ?_))))))); clear h; intro a w h
              refine gL h (zp (Pure1.cast (v' := (.int .i64 ((k1 + 1 : Nat) : Int))) (.add rfl rfl) (by show Value.int _ _ = Value.int _ _; congr 1)) (zp (.nilCheck rfl) (zp (.fieldAddr rfl (fa_78_1 _ _)) (zt' rfl rfl (st_3_1_1 _ _ _ _) uu Tryz.sizeOf3 rfl nb rfl ?_)))); clear h; intro a w h
              refine wpList_nil ?_
              exact ⟨k1 + 1, ⟨⟨by omega, by omega, (digE_step hst).trans hd1⟩, by exact h.sub sA⟩, by omega⟩
            · skip
              have h48 : chA s (blkE s k) = 48 := by simp at hc60; omega
              refine wp_exit ?_
              rw [digE_stop (s := s) (a := blkE s k) (k := k1) (fun hh => hh.2.2.elim hne (fun h9 => h9 h48))] at hd1
              subst hd1
              exact h.sub sA
        · skip
          skip
          refine yp rfl (.pickT rfl rfl) (yp rfl (.move rfl) (yo 44 rfl rfl rfl rfl (yo 44 rfl rfl rfl rfl (yo 44 rfl rfl rfl rfl (yo 44 rfl rfl rfl rfl (yo 44 rfl rfl rfl rfl (yo 44 rfl rfl rfl rfl (yo 44 rfl rfl rfl rfl (yu 51 rfl rfl rfl (yu 51 rfl rfl rfl (yu 51 rfl rfl rfl (yu 51 rfl rfl rfl (yu 51 rfl rfl rfl (yu 51 rfl rfl rfl (yu 51 rfl rfl rfl (yo 44 rfl rfl rfl rfl (yp rfl (.pickF rfl rfl) (yn ?_)))))))))))))))))); intro a w h
          change Code.wp _ _ _ _ _
          refine cond_false h rfl ?_
          refine wp_exit ?_
          rw [digE_stop (s := s) (a := blkE s k) (k := k1) (fun hh => by rw [hc42] at hh; exact absurd hh.2.1 (by decide))] at hd1
          subst hd1
          exact h.sub sA
      · skip
        have hge : ¬ k1 < s.size := by have := of_decide_eq_false hc31; omega
        refine yp rfl (.move rfl) (yo 32 rfl rfl rfl rfl (yo 32 rfl rfl rfl rfl (yo 32 rfl rfl rfl rfl (yo 32 rfl rfl rfl rfl (yo 32 rfl rfl rfl rfl (yo 32 rfl rfl rfl rfl (yo 32 rfl rfl rfl rfl (yo 32 rfl rfl rfl rfl (yo 32 rfl rfl rfl rfl (yo 32 rfl rfl rfl rfl (yp rfl (.pickF rfl rfl) (yp rfl (.move rfl) (yo 44 rfl rfl rfl rfl (yo 44 rfl rfl rfl rfl (yo 44 rfl rfl rfl rfl (yo 44 rfl rfl rfl rfl (yo 44 rfl rfl rfl rfl (yo 44 rfl rfl rfl rfl (yo 44 rfl rfl rfl rfl (yu 51 rfl rfl rfl (yu 51 rfl rfl rfl (yu 51 rfl rfl rfl (yu 51 rfl rfl rfl (yu 51 rfl rfl rfl (yu 51 rfl rfl rfl (yu 51 rfl rfl rfl (yo 44 rfl rfl rfl rfl (yp rfl (.pickF rfl rfl) (yn ?_))))))))))))))))))))))))))))); intro a w h
        change Code.wp _ _ _ _ _
        refine cond_false h rfl ?_
        refine wp_exit ?_
        rw [digE_stop (s := s) (a := blkE s k) (k := k1) (fun hh => hge hh.1)] at hd1
        subst hd1
        exact h.sub sA
    · clear h
      intro a w h
      refine gC h (zs (yD mixed_YtgkicbaomcmfoaaGreatDoor [0, 1, 2, 3, 4, 5, 6, 7, 8, 9, 10, 11, 12, 13, 14, 15, 16] (floatsOK_of ⟨.inl rfl, .inl rfl, .inl rfl, .inl rfl, .inl rfl, .inl rfl, .inl rfl, .inl rfl, .inl rfl, .inl rfl, .inl rfl, .inl rfl, .inl rfl, .inl rfl, .inr ⟨5, 47, _, _, _, rfl, rfl, by decide, _, zeroN⟩, .inl rfl, .inl rfl, trivial⟩) (yp rfl (.move rfl) (yp rfl (.nilCheck rfl) (yp rfl (.fieldAddr rfl (fa_78_0 _ _)) (yd rfl rfl mr Tryz.isAgg9 Tryz.sizeOf9 (rs_3_0 _ _ _) ?_)))))); clear h
      refine yp rfl (.move rfl) (yp rfl (.move rfl) (yp rfl (.nilCheck rfl) (yp rfl (.fieldAddr rfl (fa_78_1 _ _)) (yd rfl rfl mr Tryz.isAgg3 Tryz.sizeOf3 (rs_3_1 _ _ _) ?_))))
      refine yp rfl (.slice rfl (some _) (some _) none rfl rfl rfl (sls_9 _ _ _ (by omega) (by omega))) (yv [_] rfl rfl Tryz.call162 (C_ParseS s (blkE s k) (digE s (blkE s k) (s.size - blkE s k) (blkE s k)) hN.lt hN.le hs hN.dig hN.lead) (yp rfl (.move rfl) (yp rfl (.extract rfl (fun _ => rfl)) (yp rfl (.extract rfl (fun _ => rfl)) (yz rfl zeroN fun b5 => yt rfl rfl rfl (st_2_0_2 _ _ _ _) uu Tryz.sizeOf47 rfl nb rfl ?_)))))
      refine yp rfl (.assign rfl) (yn (zs (zr (zd rfl mr Tryz.isAgg47 Tryz.sizeOf47 (rd_2_0_2 _ _) ?_)))); intro a w h
      refine gL h (zv [_, _] rfl Tryz.call75 (C_From false _) (zv [_] rfl Tryz.call98 (C_Of 1 (by decide)) (zv [_, _] rfl Tryz.call163 (C_QFrom1 _ (Nat.le_trans (wds_len_le (hN.big hs)) (by decide))) (zm rfl (zp (.extract rfl (fun _ => rfl)) (zp (.extract rfl (fun _ => rfl)) (zz zeroQ fun b7 => zt' rfl rfl (st_5_0_5 _ _ _ _ _ _ _ _ _ _) uu Tryz.sizeOf53 rfl nb rfl ?_))))))); clear h; intro a w h
      refine gL h (za rfl (zn (zs (zr (zd rfl mr Tryz.isAgg53 Tryz.sizeOf53 (rd_5_0_5 _ _ _ _ _) ?_))))); clear h; intro a w h
      refine gL h (zm rfl (zt' rfl rfl (st_5_0_5 _ _ _ _ _ _ _ _ _ _) uu Tryz.sizeOf53 rfl nb rfl ?_)); clear h; intro a w h
      refine gL h (za rfl (zn (zt ?_))); clear h; intro a w h
      refine retE h (results2 h rfl (.cell rfl mr Tryz.isAgg53 Tryz.sizeOf53 (rd_5_0_5 _ _ _ _ _)) (.tmp rfl)) ⟨_, _, _, hN1, rfl, rfl, rfl⟩ sl (fun _ hR => by repeat (first | exact hR | apply List.Mem.tail))
end
end Go.Proofs.YtgkicbaomcmfoaaGreatDoor
