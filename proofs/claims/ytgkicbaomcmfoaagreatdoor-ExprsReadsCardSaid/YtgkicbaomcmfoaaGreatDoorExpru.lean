/- Walks of functions. By an AI agent. -/
import Derived.Test.YtgkicbaomcmfoaaGreatDoorExprf
set_option linter.unusedVariables false
set_option linter.unusedSimpArgs false
set_option maxRecDepth 4000
namespace Go.Proofs.YtgkicbaomcmfoaaGreatDoor
open Go Go.Proofs Go.Fx Tryz
attribute [local irreducible] Oper.wp Code.wp wpList Fx.Head wpOp
section
def brE (s : ByteArray) (ins : Ins) (i0 k : Nat) : Except Fa (List Tm × Nat) :=
 match ins with
 | none => .error (3, i0)
 | some f =>
  match f k with
  | .error e => .error e
  | .ok (p, k2) => if Zn s 41 k2 = true then .ok (p, Zm s k2 + 1) else .error (4, Zm s k2)
section
variable {s : ByteArray} {ins : Ins} {k f b n c : Nat} {p q : List Tm} {e : Fa}
theorem Zl0 (h1 : Zn s 43 k = false) (h2 : Zn s 45 k = false) : Ziv s ins (f + 1) p k = .ok (p, Zm s k) := by
 rw [Ziv, if_neg (by rw [h1, h2]; simp)]
theorem Zkd (ht : Zn s 43 k = true ∨ Zn s 45 k = true) (h : Ke s ins (Zm s k + 1) = .error e) : Ziv s ins (f + 1) p k = .error e := by
 rw [Ziv, if_pos ht, h]
theorem Zkc (ht : Zn s 43 k = true ∨ Zn s 45 k = true) (h : Ke s ins (Zm s k + 1) = .ok (q, b)) (hl : Qf p + Qf q > 16384) : Ziv s ins (f + 1) p k = .error (3, Zm s k) := by
 rw [Ziv, if_pos ht, h]; simp only [if_pos hl]
theorem Zqe (ht : Zn s 43 k = true) (h : Ke s ins (Zm s k + 1) = .ok (q, b)) (hl : ¬ Qf p + Qf q > 16384) : Ziv s ins (f + 1) p k = Ziv s ins f (norm (p ++ q)) b := by
 rw [Ziv, if_pos (.inl ht), h]; simp only [if_neg hl, if_pos ht, Gs]
theorem Zqd (h0 : Zn s 43 k = false) (ht : Zn s 45 k = true) (h : Ke s ins (Zm s k + 1) = .ok (q, b)) (hl : ¬ Qf p + Qf q > 16384) : Ziv s ins (f + 1) p k = Ziv s ins f (norm (p ++ Qj ((-1 : Int) : Rat) q)) b := by
 rw [Ziv, if_pos (.inr ht), h]; simp only [if_neg hl, h0, Bool.false_eq_true, if_false, Gs]
theorem Zqf (h : Ke s ins (if Zn s 45 k = true then Zm s k + 1 else Zm s k) = .error e) : Zoj s ins k = .error e := by
 unfold Zoj; rw [h]
theorem Zux (h : Ke s ins (if Zn s 45 k = true then Zm s k + 1 else Zm s k) = .ok (p, b)) : Zoj s ins k = Ziv s ins (s.size - b + 1) (if Zn s 45 k = true then norm (Qj ((-1 : Int) : Rat) p) else p) b := by
 unfold Zoj; rw [h]; simp only [Gs]
theorem Zlx (h : Ye s ins k = .error e) : Ke s ins k = .error e := by unfold Ke; rw [h]
theorem Zqa (h : Ye s ins k = .ok (p, b)) : Ke s ins k = Vx s ins (s.size - b + 1) p b := by unfold Ke; rw [h]
theorem Zi5 (h1 : Zn s 42 k = false) (h2 : Zn s 47 k = false) : Vx s ins (f + 1) p k = .ok (p, Zm s k) := by
 rw [Vx, if_neg (by rw [h1]; simp), if_neg (by rw [h2]; simp)]
theorem Zi9 (h1 : Zn s 42 k = true) (h : Ye s ins (Zm s k + 1) = .error e) : Vx s ins (f + 1) p k = .error e := by
 rw [Vx, if_pos h1, h]
theorem Zja (h1 : Zn s 42 k = true) (h : Ye s ins (Zm s k + 1) = .ok (q, b)) (hd : ¬ mulOk p q) : Vx s ins (f + 1) p k = .error (9, Zm s k) := by
 rw [Vx, if_pos h1, h]; simp only [if_pos (Decidable.of_not_not hd)]
theorem Zi8 (h1 : Zn s 42 k = true) (h : Ye s ins (Zm s k + 1) = .ok (q, b)) (hd : mulOk p q) (hl : Qf p + Qf q > 16384) : Vx s ins (f + 1) p k = .error (3, Zm s k) := by
 rw [Vx, if_pos h1, h]; simp only [if_neg hd, if_pos hl]
theorem Zlz (h1 : Zn s 42 k = true) (h : Ye s ins (Zm s k + 1) = .ok (q, b)) (hd : mulOk p q) (hl : ¬ Qf p + Qf q > 16384) : Vx s ins (f + 1) p k = Vx s ins f (norm (Vh p q)) b := by
 rw [Vx, if_pos h1, h]; simp only [if_neg hd, if_neg hl, Gs]
theorem Zi7 (h1 : Zn s 42 k = false) (h2 : Zn s 47 k = true) (h : Vy s (Zm s k + 1) = .error e) : Vx s ins (f + 1) p k = .error e := by
 rw [Vx, if_neg (by rw [h1]; simp), if_pos h2, h]
theorem Zhi (h1 : Zn s 42 k = false) (h2 : Zn s 47 k = true) (h : Vy s (Zm s k + 1) = .ok (n, c, b)) (h0 : n = 0) : Vx s ins (f + 1) p k = .error (5, c) := by
 rw [Vx, if_neg (by rw [h1]; simp), if_pos h2, h]; simp only [if_pos h0]
theorem Zi6 (h1 : Zn s 42 k = false) (h2 : Zn s 47 k = true) (h : Vy s (Zm s k + 1) = .ok (n, c, b)) (h0 : n ≠ 0) (hl : Qf p + Je n > 16384) : Vx s ins (f + 1) p k = .error (3, Zm s k) := by
 rw [Vx, if_neg (by rw [h1]; simp), if_pos h2, h]; simp only [if_neg h0, if_pos hl]
theorem Zly (h1 : Zn s 42 k = false) (h2 : Zn s 47 k = true) (h : Vy s (Zm s k + 1) = .ok (n, c, b)) (h0 : n ≠ 0) (hl : ¬ Qf p + Je n > 16384) : Vx s ins (f + 1) p k = Vx s ins f (norm (Qj (1 / ((n : Int) : Rat)) p)) b := by
 rw [Vx, if_neg (by rw [h1]; simp), if_pos h2, h]; simp only [if_neg h0, if_neg hl, Gs]
theorem Zm8 (h : Vq s ins k = .error e) : Ye s ins k = .error e := by unfold Ye; rw [h]
theorem Zm6 (h : Vq s ins k = .ok (p, b)) (h1 : Zn s 94 b = false) : Ye s ins k = .ok (p, Zm s b) := by
 unfold Ye; rw [h]; simp only [h1, Bool.false_eq_true, if_false]
theorem Zjq (h : Vq s ins k = .ok (p, b)) (h1 : Zn s 94 b = true) (h2 : Vy s (Zm s b + 1) = .error e) : Ye s ins k = .error e := by
 unfold Ye; rw [h]; simp only [if_pos h1, h2]
theorem Zc5 {m : Nat} (h : Vq s ins k = .ok (p, b)) (h1 : Zn s 94 b = true) (h2 : Vy s (Zm s b + 1) = .ok (n, c, m)) (h3 : n > 12 ∨ (n : Int) * Yz p > 12) : Ye s ins k = .error (9, Zm s b) := by
 unfold Ye; rw [h]; simp only [if_pos h1, h2, if_pos h3]
theorem Zm7 {m : Nat} (h : Vq s ins k = .ok (p, b)) (h1 : Zn s 94 b = true) (h2 : Vy s (Zm s b + 1) = .ok (n, c, m)) (h3 : ¬ (n > 12 ∨ (n : Int) * Yz p > 12)) (h4 : n * Qf p > 16384) : Ye s ins k = .error (3, Zm s b) := by
 unfold Ye; rw [h]; simp only [if_pos h1, h2, if_neg h3, if_pos h4]
theorem Zm5 {m : Nat} (h : Vq s ins k = .ok (p, b)) (h1 : Zn s 94 b = true) (h2 : Vy s (Zm s b + 1) = .ok (n, c, m)) (h3 : ¬ (n > 12 ∨ (n : Int) * Yz p > 12)) (h4 : ¬ n * Qf p > 16384) : Ye s ins k = .ok (norm (Zea p n), m) := by
 unfold Ye; rw [h]; simp only [if_pos h1, h2, if_neg h3, if_neg h4, Gs]
theorem Zxs (h : Zn s 120 k = true) : Vq s ins k = .ok ([⟨1, 0, 1⟩], Zm s k + 1) := by unfold Vq; rw [if_pos h]
theorem Zxr (h0 : Zn s 120 k = false) (h : Zn s 121 k = true) : Vq s ins k = .ok ([⟨0, 1, 1⟩], Zm s k + 1) := by
 unfold Vq; rw [if_neg (by rw [h0]; simp), if_pos h]
theorem Zg5 (h0 : Zn s 120 k = false) (h1 : Zn s 121 k = false) (h : Zn s 40 k = true) : Vq s ins k = brE s ins (Zm s k) (Zm s k + 1) := by
 unfold Vq brE; rw [if_neg (by rw [h0]; simp), if_neg (by rw [h1]; simp), if_pos h]; cases ins <;> rfl
theorem Zjx (h0 : Zn s 120 k = false) (h1 : Zn s 121 k = false) (h2 : Zn s 40 k = false) (h : Vy s k = .error e) : Vq s ins k = .error e := by
 unfold Vq; rw [if_neg (by rw [h0]; simp), if_neg (by rw [h1]; simp), if_neg (by rw [h2]; simp), h]
theorem Zns (h0 : Zn s 120 k = false) (h1 : Zn s 121 k = false) (h2 : Zn s 40 k = false) (h : Vy s k = .ok (n, c, b)) : Vq s ins k = .ok (norm [⟨0, 0, ((n : Int) : Rat)⟩], b) := by
 unfold Vq; rw [if_neg (by rw [h0]; simp), if_neg (by rw [h1]; simp), if_neg (by rw [h2]; simp), h]; simp only [Gs]
end
theorem Zsz (p : List Tm) {i : Nat} (h : i < p.length) : Qf (p.take (i + 1)) = Qf (p.take i) + (Je (p.getD i T0).c.num.natAbs + Je (p.getD i T0).c.den) := by
 unfold Qf; rw [Zh5 p 0 i T0 h]
theorem Gd.size {p : List Tm} (h : Gd p) : Qf p ≤ 37273600 := by
 have key : ∀ l : List Tm, KL 6400 l → (l.map szT).sum ≤ 409600 * l.length := by
  intro l
  induction l with
  | nil => intro _; exact Nat.le_refl _
  | cons t l ih =>
   intro hk
   have h1 := ih (fun u hu => hk u (List.mem_cons_of_mem _ hu))
   obtain ⟨h2, h3⟩ := Gt (hk t List.mem_cons_self)
   have h4 := Gy t.c.num.natAbs
   have h5 := Gy t.c.den
   unfold Kk at h2
   rw [List.map_cons, List.sum_cons, List.length_cons]
   have h6 : szT t = Je t.c.num.natAbs + Je t.c.den := rfl
   omega
 have h1 := key p h.pq.siz
 have h2 := h.len
 rw [Gf]; omega
end
section
theorem Qfa (w : World) : (Instr.build 53 [].toArray).run Tryz.prog w = .ok (.agg #[.int .u64 0, .string ⟨#[]⟩, .bool false, .int .u64 0, .string ⟨#[]⟩]) w := by simp [go_sem]
theorem Zf1 {b off : Nat} (w : World) : (Instr.fieldAt 78 (.pointer (some ⟨b, off, none⟩)) 2).run Tryz.prog w = .ok (.pointer (some ⟨b, off + 2, none⟩)) w := by
 simp [go_sem]
theorem Zqg {c0 c1 c2 v0 : Value} : Qq #[c0, c1, c2] 2 [v0] = #[c0, c1, v0] := rfl
theorem Zgh (p : List Tm) (ad : Option Addr) (c : Nat) (hg : Gd p) : Gn Tryz.prog 73 [.slice ad p.length c] [Row ad (cellsOf Qb p)] (.int .i64 ((Qf p : Nat) : Int)) := by
 have hl91 := hg.len
 refine fn_intro func73 rfl ntmps73 nb ?_
 intro S w0 a hS h
 refine gC h (zS (za rfl (zn (zS (za rfl (zn (zs (zS (zm rfl (zp (.builtin [_] rfl (Qd _ _ _)) (zm rfl (zn (zb ?_))))))))))))); clear h; intro a w h
 refine Zi (fun (i : Nat) a w => i ≤ p.length ∧ (Qf (p.take i) ≤ 409600 * i) ∧ St 26 S w0 [(2, .int .i64 0), (3, nI (Qf (p.take i))), (6, .slice ad p.length c), (7, nI p.length), (8, nI i)] [] [Row ad (cellsOf Qb p)] a w) (fun i => p.length - i) 0 (⟨Nat.zero_le _, Nat.zero_le _, by exact (h).sub sA⟩) ?_; clear h
 rintro i a w ⟨hi_i, hsz, h⟩
 refine gC h (zS (zp (.lss rfl rfl) (zn (zs ?_)))); clear h; intro a w h
 refine Zb h rfl (fun hc9 => ?_) (fun hc9 => ?_)
 ·
  skip
  have hlt_i : i < p.length := dT hc9
  obtain ⟨B_ad, O_ad, rfl⟩ := h.row_addr (ad := ad) (M := cellsOf Qb p) mm (nE 7)
  have hstep := Zsz p hlt_i
  obtain ⟨hb1, hb2⟩ := Gt (hg.pq.siz _ (getD_mem p (d := T0) hlt_i))
  unfold Kk at hb1
  have hc1 := Gy (p.getD i T0).c.num.natAbs
  have hc2 := Gy (p.getD i T0).c.den
  refine gC h (zk (zs (zb (zS (zp (.indexAddr rfl rfl (Zc2 _ _ _ _ _ oo)) (zD rfl mm (cells_lt (k := 7) dd (fun _ => rfl) p i oo) isAgg82 sizeOf82 (Qn (k := 7) (fun _ => rfl) ((fun _ => rfl)) p T0 i oo) (.inl rfl) ?_))))))
  refine zz Zdq fun b5 => zt' rfl rfl Kg uu sizeOf82 rfl nb rfl ?_
  refine zn (yD Za [0, 1, 2, 6, 7, 3, 4, 5, 8, 9, 10, 11, 12] (Zf kk) (ym rfl rfl (yp rfl (.fA rfl Vo) (yd rfl rfl mr isAgg53 sizeOf53 Ki ?_))))
  refine yp rfl (.fA rfl Vo) (yd rfl rfl mr isAgg53 sizeOf53 Ki ?_)
  refine yv [_] rfl rfl call116 (Qcx _) (yv [_] rfl rfl call76 (Zj6 _) (yv [_] rfl rfl call114 (Zyw _ oo) (yv [_] rfl rfl call115 (Qcy _ oo) (yv [_] rfl rfl call114 (Zyw _ oo) (yp rfl (.pN ((Je (p.getD i T0).c.num.natAbs) + (Je (p.getD i T0).c.den)) (.add rfl rfl)) (yp rfl (.pN ((Qf (p.take i)) + ((Je (p.getD i T0).c.num.natAbs) + (Je (p.getD i T0).c.den))) (.add rfl rfl)) (yp rfl (.assign rfl) (yn (zr (zp (.pN (i + 1) (.add rfl rfl)) (zm rfl (zn ?_)))))))))))); intro a w h
  rw [← hstep] at h
  exact ⟨i + 1, ⟨oo, by rw [hstep]; omega, ((h.drop sl).factsSub (by simp)).sub sA⟩, oo⟩
 ·
  skip
  have heq_i : p.length = i := dF hc9
  subst heq_i
  refine gC h (ze (zS (zm rfl (za rfl (zn (zt ?_)))))); clear h; intro a w h
  refine Jk h (Zd h rfl (.tmp rfl)) ?_
  rw [List.take_length]
theorem Zn5 (p : List Tm) (ad : Option Addr) (c : Nat) (hg : Gd p) : Gn Tryz.prog 49 [.slice ad p.length c] [Row ad (cellsOf Qb p)] (.int .i64 (Yz p)) := by
 have h := Zg8 p ad c 12 6400 hg.pq dd dd
 rw [hg.nn] at h; exact h
theorem Qf4 (n : Nat) : Xl Tryz.prog 116 [Vv ((n : Int) : Rat)] (encZ ((n : Nat) : Int)) := by
 have h := Qcx ((n : Int) : Rat)
 rw [Rat.num_intCast] at h; exact h
theorem Qfy (n : Nat) : Xl Tryz.prog 76 [encZ ((n : Nat) : Int)] (Xk n) := Zj6 ((n : Nat) : Int)
def qinv (n : Nat) : Rat := if n = 0 then 0 else 1 / ((n : Int) : Rat)
def qer (n : Nat) : Int := if n = 0 then 5 else 0
theorem Qf7 (x : Rat) : Xl Tryz.prog 90 [Vv x, Vv 0] (.tuple #[Vv 0, .int .i64 5]) := by
 refine fn_intro func90 rfl ntmps90 nb ?_
 intro S w0 a hS h
 refine gC h (zS (zx rfl fun b2 => zx rfl fun b3 => zz Zg9 fun b4 => za rfl (zn (zs (zS (zd rfl mr isAgg53 sizeOf53 Zx ?_))))))
 refine zv [_] rfl call43 (Zf7 0) (zp (.eql rfl rfl) (zn ?_)); intro a w h
 refine cW ?_
 refine Zb h rfl (fun hc9 => ?_) (fun hc9 => (absurd hc9 dd))
 refine gC h (zS (zp (.build [] rfl (Qfa)) (zt' rfl rfl Xa uu sizeOf53 rfl nb rfl ?_)))
 refine za rfl (zn (zt ?_)); intro a w h
 refine Jk h (Ql h rfl (.cell rfl mr isAgg53 sizeOf53 Zx) (.tmp rfl)) ?_
 rfl
theorem Qa5 {n : Nat} (h : n ≠ 0) : ((n : Int) : Rat) ≠ 0 := fun e => h (by have := Rat.intCast_eq_zero_iff.1 e; omega)
theorem Qf6 (n : Nat) (hn : n < 4294967296 ^ 426) : Xl Tryz.prog 90 [Vv (((1 : Int)) : Rat), Vv ((n : Int) : Rat)] (.tuple #[Vv (qinv n), .int .i64 (qer n)]) := by
 unfold qinv qer
 by_cases h0 : n = 0
 ·
  subst h0
  rw [if_pos rfl, if_pos rfl]; exact Qf7 _
 ·
  rw [if_neg h0, if_neg h0]
  have h1 := Zes hn dd
  exact C_QDiv ((1 : Int) : Rat) _ (Qa5 h0) (Nat.le_trans (Jp 1 dd dd) dd) (Nat.le_trans h1 dd)
theorem Zwq (n : Nat) (h : n ≠ 0) : (1 / ((n : Int) : Rat)).den = n := by
 have e : (1 : Rat) / ((n : Int) : Rat) = mkRat 1 n := by
  rw [Rat.mkRat_eq_div]; rfl
 rw [e, Rat.den_mkRat]; simp [h]
theorem Zyr (n : Nat) (h0 : n ≠ 0) (hn : n < 4294967296 ^ 426) : Xl Tryz.prog 115 [Vv (1 / ((n : Int) : Rat))] (Xk n) := by
 have h := Qcy (1 / ((n : Int) : Rat)) (by rw [Zwq n h0]; exact Nat.le_trans (Yx hn) dd)
 rw [Zwq n h0] at h; exact h
def InsC (b : Nat) (s : ByteArray) (o : Nat) (ins : Ins) : Prop :=
 (o = 32 ∧ ins = none) ∨ (o < 32 ∧ ∃ f, ins = some f ∧ ∀ (k : Nat) (σ : List (Nat × Obj)) (Φ : List Zp), k ≤ s.size → Zlp Tryz.prog 35 [.pointer (some ⟨b, 0, none⟩)] (rdB b s k (o + 1) :: σ) Φ (Zlk (f k) b s (o + 1) σ Φ) (Zx1 (f k) b σ))
theorem Zt0 (b k o : Nat) (s : ByteArray) (hs : s.size ≤ 4096) (hk : k ≤ s.size) (σ : List (Nat × Obj)) (Φ : List Zp) (i0 : Nat) (ho : o = 32) (fv : Value) : Zlp Tryz.prog 207 [.pointer (some ⟨b, 0, none⟩), .int .i64 ((i0 : Nat) : Int), fv] (rdB b s k o :: σ) Φ (fun _ _ _ => False) (Zx1 (.error (3, i0) : Except Fa Unit) b σ) := by
 refine fn_introE func207 rfl ntmps207 nb ?_
 intro S w0 a w hS h
 refine gC h (zS (za rfl (zn (zs (zS (zm rfl (zp (.nilCheck rfl) (zp (.fA rfl Zf1) (zd rfl mr isAgg3 sizeOf3 Gh ?_)))))))))
 refine zp (.eql rfl rfl) (zn ?_); intro a w h
 refine cW ?_
 refine Zb h rfl (fun hc14 => ?_) (fun hc14 => (by exfalso; rw [ho] at hc14; exact absurd hc14 dd))
 refine gC h (zr (zm rfl ?_)); clear h; intro a w h
 refine Zc (Jh h hS (vs := [_, _]) rfl call37 (Zbg 3 _ _ _) (List.Perm.refl _) ss ?_ (fun _ _ _ _ _ hp _ => by exact hp.elim))
 rintro _ _ w' ⟨rfl, rfl⟩ hm
 exact Zgl h hm ⟨3, i0, _, rfl, rfl, rfl⟩ sl (fun _ hR => by repeat (first | exact hR | apply List.Mem.tail))
theorem Zt1 (b k o : Nat) (s : ByteArray) (hs : s.size ≤ 4096) (hk : k ≤ s.size) (σ : List (Nat × Obj)) (Φ : List Zp) (i0 : Nat) (ho : o < 32) (f : Nat → Except Fa (List Tm × Nat)) (hf : ∀ (k : Nat) (σ : List (Nat × Obj)) (Φ : List Zp), k ≤ s.size → Zlp Tryz.prog 35 [.pointer (some ⟨b, 0, none⟩)] (rdB b s k (o + 1) :: σ) Φ (Zlk (f k) b s (o + 1) σ Φ) (Zx1 (f k) b σ))
  (hgf : ∀ k p k', k ≤ s.size → f k = .ok (p, k') → Gd p ∧ k ≤ k' ∧ k' ≤ s.size) :
  Zlp Tryz.prog 207 [.pointer (some ⟨b, 0, none⟩), .int .i64 ((i0 : Nat) : Int), .func (.func 35) #[.pointer (some ⟨b, 0, none⟩)] #[]] (rdB b s k o :: σ) Φ (Zlk (brE s (some f) i0 k) b s o σ Φ) (Zx1 (brE s (some f) i0 k) b σ) := by
 refine fn_introE func207 rfl ntmps207 nb ?_
 intro S w0 a w hS h
 refine gC h (zS (za rfl (zn (zs (zS (zm rfl (zp (.nilCheck rfl) (zp (.fA rfl Zf1) (zd rfl mr isAgg3 sizeOf3 Gh ?_)))))))))
 refine zp (.eql rfl rfl) (zn ?_); intro a w h
 refine cW ?_
 refine Zb h rfl (fun hc14 => (by exfalso; have := eq_of_beq hc14; omega)) (fun hc14 => ?_)
 refine gC h (zk (zS (zm rfl (zp (.nilCheck rfl) (zp (.fA rfl Zf1) (zd rfl mr isAgg3 sizeOf3 Gh ?_))))))
 refine zp (.pN (o + 1) (.add rfl rfl)) (zp (.nilCheck rfl) (zp (.fA rfl Zf1) (zt' rfl rfl Zqg uu sizeOf3 rfl nb rfl ?_)))
 refine zn (zS (zm rfl ?_)); intro a w h
 refine Zc (Zv1 h hS (fs := [.pointer (some ⟨b, 0, none⟩)]) (cs := []) rfl (vs := []) rfl call35 (hf k σ Φ hk) (List.Perm.refl _) ss ?_ ?_)
 ·
  skip
  rintro _ _ w' ⟨e, i, ob, hx, rfl, rfl⟩ hm
  exact Zgl h hm ⟨e, i, ob, by unfold brE; simp only [hx], rfl, rfl⟩ sl (fun _ hR => by repeat (first | exact hR | apply List.Mem.tail))
 clear h; rintro v25 σ25 Ψ25 a w ⟨p25, k25, ad25, c25, hr25, rfl, rfl, rfl⟩ h
 obtain ⟨hg25, hk25a, hk25⟩ := hgf k p25 k25 hk hr25
 refine gL h (za rfl (zn (zs (zS (zm rfl ?_))))); clear h; intro a w h
 refine Zc (Xc h hS (vs := [_, _]) rfl call70 (Zbe b k25 (o + 1) s hs hk25 _ (Row ad25 (cellsOf Qb p25) :: Φ) 41 dd) ((List.Perm.refl _)) ss ss ?_); clear h; rintro v28 σ28 Ψ28 a w ⟨rfl, rfl, rfl⟩ h
 refine gL h (zm rfl (zp (.eX rfl) (zp (.eX rfl) ?_))); clear h; intro a w h
 refine Zg h (fun hc30 h => ?_) (fun hc30 h => ?_)
 ·
  skip
  simp only [if_pos hc30] at h
  have hlt30 := Zz hk25 hc30
  refine gL h (za rfl (za rfl (zn (zS (zm rfl (zp (.unOp rfl (Ji _)) (zn ?_))))))); clear h; intro a w h
  refine cW ?_
  refine Ze h rfl ?_
  refine gC h (zk (zS (zm rfl (zp (.nilCheck rfl) (zp (.fA rfl Zf1) (zd rfl mr isAgg3 sizeOf3 Gh ?_))))))
  refine zp (.pO o (.sub rfl rfl)) (zp (.nilCheck rfl) (zp (.fA rfl Zf1) (zt' rfl rfl Zqg uu sizeOf3 rfl nb rfl ?_)))
  refine zn (zS (zm rfl (za rfl (zn (zt ?_))))); intro a w h
  refine Zvh h (Zd h rfl (.tmp rfl)) ⟨p25, Zm s k25 + 1, ad25, c25, by unfold brE; simp only [hr25, if_pos hc30], rfl, rfl, rfl⟩ sl (fun _ hR => by rcases List.mem_cons.1 hR with rfl | hR <;> (repeat (first | exact List.Mem.head _ | exact hR | apply List.Mem.tail)))
 ·
  skip
  simp only [hc30, Bool.false_eq_true, if_false] at h
  refine gL h (za rfl (za rfl (zn (zS (zm rfl (zp (.unOp rfl (Ji _)) (zn ?_))))))); clear h; intro a w h
  refine cW ?_
  refine Zj h rfl ?_
  refine gC h (zr (zm rfl (zp (.nilCheck rfl) (zp (.fA rfl Xt) (zd rfl mr isAgg3 sizeOf3 Kh ?_))))); clear h; intro a w h
  refine Zc (Jh h hS (vs := [_, _]) rfl call37 (Zbg 4 _ _ _) (List.Perm.refl _) ss ?_ (fun _ _ _ _ _ hp _ => by exact hp.elim))
  rintro _ _ w' ⟨rfl, rfl⟩ hm
  exact Zgl h hm ⟨4, Zm s k25, _, by unfold brE; simp only [hr25, hc30, Bool.false_eq_true, if_false], rfl, rfl⟩ sl (fun _ hR => by repeat (first | exact hR | apply List.Mem.tail))
theorem Zyk (b k o : Nat) (s : ByteArray) (hs : s.size ≤ 4096) (hk : k ≤ s.size) (σ : List (Nat × Obj)) (Φ : List Zp) (i0 : Nat) (ins : Ins) (hI : InsC b s o ins) (hGi : InsG s ins) :
  Zlp Tryz.prog 207 [.pointer (some ⟨b, 0, none⟩), .int .i64 ((i0 : Nat) : Int), .func (.func 35) #[.pointer (some ⟨b, 0, none⟩)] #[]] (rdB b s k o :: σ) Φ (Zlk (brE s ins i0 k) b s o σ Φ) (Zx1 (brE s ins i0 k) b σ) := by
 rcases hI with ⟨ho, rfl⟩ | ⟨ho, f, rfl, hf⟩
 ·
  intro S w0 w hS hm
  refine (Zt0 b k o s hs hk σ Φ i0 ho _ S w0 w hS hm).mono ?_
  rintro e w' (⟨_, _, _, _, hp, _⟩ | ⟨v, σ', he, ⟨e1, i1, ob, hx, hv, hσ⟩, hm'⟩)
  · exact hp.elim
  ·
   refine .inr ⟨v, σ', he, ⟨e1, i1, ob, ?_, hv, hσ⟩, hm'⟩
   cases hx; rfl
 · exact Zt1 b k o s hs hk σ Φ i0 ho f hf (hGi f rfl)
end
section
theorem C_base (b k o : Nat) (s : ByteArray) (hs : s.size ≤ 4096) (hk : k ≤ s.size) (σ : List (Nat × Obj)) (Φ : List Zp) (ins : Ins) (hI : InsC b s o ins) (hGi : InsG s ins) : Zlp Tryz.prog 159 [.pointer (some ⟨b, 0, none⟩)] (rdB b s k o :: σ) Φ (Zlk (Vq s ins k) b s o σ Φ) (Zx1 (Vq s ins k) b σ) := by
 refine fn_introE func159 rfl ntmps159 nb ?_
 intro S w0 a w hS h
 refine gC h (zS (za rfl (zn (zs (zS (zm rfl ?_)))))); clear h; intro a w h
 refine Zc (Xc h hS (vs := [_, _]) rfl call70 (Zbe b k o s hs hk _ Φ 120 dd) ((List.Perm.refl _)) ss ss ?_); clear h; rintro v13 σ13 Ψ13 a w ⟨rfl, rfl, rfl⟩ h
 refine gL h (zm rfl (zp (.eX rfl) (zp (.eX rfl) ?_))); clear h; intro a w h
 refine Zg h (fun hc15 h => ?_) (fun hc15 h => ?_)
 ·
  skip
  simp only [if_pos hc15] at h
  have hlt15 := Zz hk hc15
  refine gL h (za rfl (za rfl (zn (zS (zm rfl (zn ?_)))))); clear h; intro a w h
  refine cW ?_
  refine Zj h rfl ?_
  refine gC h (zS (zf [] rfl call13 (C_X) ?_)); rintro v17 Ψ17 ⟨ad17, rfl, rfl⟩
  refine za rfl (zn (zt ?_)); intro a w h
  refine Zvh h (Zd h rfl (.tmp rfl)) ⟨[⟨1, 0, 1⟩], _, ad17, 1, Zxs hc15, rfl, rfl, rfl⟩ sl (fun _ hR => by rcases List.mem_cons.1 hR with rfl | hR <;> (repeat (first | exact List.Mem.head _ | exact hR | apply List.Mem.tail)))
 ·
  skip
  simp only [hc15, Bool.false_eq_true, if_false] at h
  refine gL h (za rfl (za rfl (zn (zS (zm rfl (zn ?_)))))); clear h; intro a w h
  refine cW ?_
  refine Ze h rfl ?_
  refine gC h (zk (zs (zS (zm rfl ?_)))); clear h; intro a w h
  refine Zc (Xc h hS (vs := [_, _]) rfl call70 (Zbe b (Zm s k) o s hs (Ja hk) _ Φ 121 dd) ((List.Perm.refl _)) ss ss ?_); clear h; rintro v20 σ20 Ψ20 a w ⟨rfl, rfl, rfl⟩ h
  simp only [Zbl, Kr] at h
  refine gL h (zm rfl (zp (.eX rfl) (zp (.eX rfl) ?_))); clear h; intro a w h
  refine Zg h (fun hc22 h => ?_) (fun hc22 h => ?_)
  ·
   skip
   simp only [if_pos hc22] at h
   have hlt22 := Zz hk hc22
   refine gL h (za rfl (za rfl (zn (zS (zm rfl (zn ?_)))))); clear h; intro a w h
   refine cW ?_
   refine Zj h rfl ?_
   refine gC h (zS (zf [] rfl call14 (C_Y) ?_)); rintro v24 Ψ24 ⟨ad24, rfl, rfl⟩
   refine za rfl (zn (zt ?_)); intro a w h
   refine Zvh h (Zd h rfl (.tmp rfl)) ⟨[⟨0, 1, 1⟩], _, ad24, 1, Zxr hc15 hc22, rfl, rfl, rfl⟩ sl (fun _ hR => by rcases List.mem_cons.1 hR with rfl | hR <;> (repeat (first | exact List.Mem.head _ | exact hR | apply List.Mem.tail)))
  ·
   skip
   simp only [hc22, Bool.false_eq_true, if_false] at h
   refine gL h (za rfl (za rfl (zn (zS (zm rfl (zn ?_)))))); clear h; intro a w h
   refine cW ?_
   refine Ze h rfl ?_
   refine gC h (zk (zs (zS (zm rfl ?_)))); clear h; intro a w h
   refine Zc (Xc h hS (vs := [_, _]) rfl call70 (Zbe b (Zm s k) o s hs (Ja hk) _ Φ 40 dd) ((List.Perm.refl _)) ss ss ?_); clear h; rintro v27 σ27 Ψ27 a w ⟨rfl, rfl, rfl⟩ h
   simp only [Zbl, Kr] at h
   refine gL h (zm rfl (zp (.eX rfl) (zp (.eX rfl) ?_))); clear h; intro a w h
   refine Zg h (fun hc29 h => ?_) (fun hc29 h => ?_)
   ·
    skip
    simp only [if_pos hc29] at h
    have hlt29 := Zz hk hc29
    refine gL h (za rfl (za rfl (zn (zS (zm rfl (zn ?_)))))); clear h; intro a w h
    refine cW ?_
    refine Zj h rfl ?_
    refine gC h (zS (zm rfl (zm rfl (zm rfl (zp (.makeFunc [_] [] rfl rfl) ?_))))); clear h; intro a w h
    refine Zc (Jh h hS (vs := [_, _, _]) rfl call207 (Zyk b (Zm s k + 1) o s hs hlt29 _ Φ (Zm s k) ins hI hGi) ((List.Perm.refl _)) ss ?_ ?_)
    ·
     skip
     rintro _ _ w' ⟨e, i, ob, hx, rfl, rfl⟩ hm
     exact Zgl h hm ⟨e, i, ob, by rw [Zg5 hc15 hc22 hc29]; exact hx, rfl, rfl⟩ sl (fun _ hR => by repeat (first | exact hR | apply List.Mem.tail))
    clear h; rintro v35 σ35 Ψ35 a w ⟨p35, k35, ad35, c35, hr35, rfl, rfl, rfl⟩ h
    refine gL h (za rfl (zn (zt ?_))); clear h; intro a w h
    refine Zvh h (Zd h rfl (.tmp rfl)) ⟨p35, k35, ad35, c35, by rw [Zg5 hc15 hc22 hc29]; exact hr35, rfl, rfl, rfl⟩ sl (fun _ hR => by rcases List.mem_cons.1 hR with rfl | hR <;> (repeat (first | exact List.Mem.head _ | exact hR | apply List.Mem.tail)))
   ·
    skip
    simp only [hc29, Bool.false_eq_true, if_false] at h
    refine gL h (za rfl (za rfl (zn (zS (zm rfl (zn ?_)))))); clear h; intro a w h
    refine cW ?_
    refine Ze h rfl ?_
    refine gC h (zk (zS (zm rfl ?_))); clear h; intro a w h
    refine Zc (Jh h hS (vs := [_]) rfl call113 (Zlm b (Zm s k) o s hs (Ja hk) _ Φ) ((List.Perm.refl _)) ss ?_ ?_)
    ·
     skip
     rintro _ _ w' ⟨e, i, ob, hx, rfl, rfl⟩ hm
     exact Zgl h hm ⟨e, i, ob, Zjx hc15 hc22 hc29 (by rw [Zgx] at hx; exact hx), rfl, rfl⟩ sl (fun _ hR => by repeat (first | exact hR | apply List.Mem.tail))
    clear h; rintro v38 σ38 Ψ38 a w ⟨n38, a38, e38, hn38, rfl, rfl, rfl⟩ h
    have hN38 := Gr (k := Zm s k) (Ja hk) hn38
    rw [Zgx] at hn38
    refine gL h (zm rfl (zp (.eX rfl) (zp (.eX rfl) (zz Zg9 fun b9 => zt' rfl rfl Xa uu sizeOf53 rfl nb rfl ?_))))
    refine za rfl (zn (zS (zd rfl mr isAgg53 sizeOf53 Zx ?_)))
    refine zf [_] rfl call52 (Zsp ((n38 : Int) : Rat) 426 (Zes (hN38.big hs) dd) dd) ?_; rintro v42 Ψ42 ⟨ad42, c42, rfl, rfl⟩
    refine za rfl (zn (zt ?_)); intro a w h
    refine Zvh h (Zd h rfl (.tmp rfl)) ⟨_, _, ad42, c42, Zns hc15 hc22 hc29 hn38, rfl, rfl, rfl⟩ sl (fun _ hR => by rcases List.mem_cons.1 hR with rfl | hR <;> (repeat (first | exact List.Mem.head _ | exact hR | apply List.Mem.tail)))
theorem powOk.dk {p : List Tm} {n : Nat} (hp : Gd p) (hn : n ≤ 12) (hs : ¬ n * Qf p > 16384) (h : ¬ (n : Int) * Yz p > 12) : ∃ d K : Nat, d ≤ 12 ∧ n * d ≤ 12 ∧ Pq d K p ∧ K ≤ 6400 := by
 rcases powOk.ds hp hn oo h with rfl | ⟨d, h1, h2, h3⟩
 · exact ⟨12, 6400, by decide, by decide, hp.pq, Nat.le_refl _⟩
 · exact ⟨d, 513, h1, h2, h3, by decide⟩
theorem Qcu (b k o : Nat) (s : ByteArray) (hs : s.size ≤ 4096) (hk : k ≤ s.size) (σ : List (Nat × Obj)) (Φ : List Zp) (ins : Ins) (hI : InsC b s o ins) (hGi : InsG s ins) : Zlp Tryz.prog 112 [.pointer (some ⟨b, 0, none⟩)] (rdB b s k o :: σ) Φ (Zlk (Ye s ins k) b s o σ Φ) (Zx1 (Ye s ins k) b σ) := by
 refine fn_introE func112 rfl ntmps112 nb ?_
 intro S w0 a w hS h
 refine gC h (zS (za rfl (zn (zS (zm rfl ?_))))); clear h; intro a w h
 refine Zc (Jh h hS (vs := [_]) rfl call159 (C_base b k o s hs hk σ Φ ins hI hGi) ((List.Perm.refl _)) ss ?_ ?_)
 ·
  skip
  rintro _ _ w' ⟨e, i, ob, hx, rfl, rfl⟩ hm
  exact Zgl h hm ⟨e, i, ob, Zm8 hx, rfl, rfl⟩ sl (fun _ hR => by repeat (first | exact hR | apply List.Mem.tail))
 clear h; rintro v13 σ13 Ψ13 a w ⟨p13, k13, ad13, c13, hr13, rfl, rfl, rfl⟩ h
 obtain ⟨hg13, hk13a, hk13⟩ := Zjy hs hGi hk hr13
 have hbk13 := Ja hk13
 refine gL h (za rfl (zn (zS (zm rfl ?_)))); clear h; intro a w h
 refine Zc (Xc h hS (vs := [_, _]) rfl call70 (Zbe b k13 o s hs hk13 _ (Row ad13 (cellsOf Qb p13) :: Φ) 94 dd) ((List.Perm.refl _)) ss ss ?_); clear h; rintro v16 σ16 Ψ16 a w ⟨rfl, rfl, rfl⟩ h
 refine gL h (zm rfl (zp (.eX rfl) (zp (.eX rfl) ?_))); clear h; intro a w h
 refine Zg h (fun hc18 h => ?_) (fun hc18 h => ?_)
 ·
  skip
  simp only [if_pos hc18] at h
  have hlt18 := Zz hk13 hc18
  refine gL h (za rfl (za rfl (zn (zs (zS (zm rfl (zp (.unOp rfl (Ji _)) (zn ?_)))))))); clear h; intro a w h
  refine cW ?_
  refine Ze h rfl ?_
  refine gC h (zk (zS (zm rfl ?_))); clear h; intro a w h
  refine Zc (Jh h hS (vs := [_]) rfl call113 (Zlm b (Zm s k13 + 1) o s hs hlt18 _ (Row ad13 (cellsOf Qb p13) :: Φ)) ((List.Perm.refl _)) ss ?_ ?_)
  ·
   skip
   rintro _ _ w' ⟨e, i, ob, hx, rfl, rfl⟩ hm
   exact Zgl h hm ⟨e, i, ob, Zjq hr13 hc18 hx, rfl, rfl⟩ sl (fun _ hR => by repeat (first | exact hR | apply List.Mem.tail))
  clear h; rintro v24 σ24 Ψ24 a w ⟨n24, a24, e24, hn24, rfl, rfl, rfl⟩ h
  have hN24 := Gr (k := Zm s k13 + 1) hlt18 hn24
  refine gL h (zm rfl (zp (.eX rfl) (zp (.eX rfl) (zz Zg9 fun b6 => zt' rfl rfl Xa uu sizeOf53 rfl nb rfl ?_))))
  refine za rfl (zn (zS (zd rfl mr isAgg53 sizeOf53 Zx ?_)))
  refine zv [_] rfl call116 (Qf4 n24) (zv [_] rfl call76 (Qfy n24) (zv [_] rfl call160 (C_U64 n24) (zm rfl (zp (.eX rfl) (zp (.eX rfl) ?_))))); intro a w h
  refine Zg h (fun hc33 h => ?_) (fun hc33 h => ?_)
  ·
   skip
   have hn64 : n24 < 18446744073709551616 := of_decide_eq_true hc33
   rw [Zw hn64] at h
   refine gL h (za rfl (za rfl (zn (zs (zS (zm rfl (zp (.unOp rfl (Ji _)) (zm rfl (zq 36 rfl rfl (.move rfl) (zq 36 rfl rfl (.gtr rfl rfl) ?_)))))))))); clear h; intro a w h
   refine Zg h (fun hc38 h => ?_) (fun hc38 h => ?_)
   ·
    skip
    have hn12 : n24 > 12 := dT hc38
    refine gL h (zp (.pickF rfl rfl) (zm rfl (zo 40 rfl rfl rfl (zo 40 rfl rfl rfl (zo 40 rfl rfl rfl (zo 40 rfl rfl rfl (zo 40 rfl rfl rfl (zo 40 rfl rfl rfl (zp (.pickT rfl rfl) (zn ?_)))))))))); clear h; intro a w h
    refine cW ?_
    refine Zj h rfl ?_
    refine gC h (zr (zm rfl ?_)); clear h; intro a w h
    refine Zc (Jh h hS (vs := [_, _]) rfl call37 (Zbg 9 _ _ _) (List.Perm.refl _) ss ?_ (fun _ _ _ _ _ hp _ => by exact hp.elim))
    rintro _ _ w' ⟨rfl, rfl⟩ hm
    exact Zgl h hm ⟨9, Zm s k13, _, Zc5 hr13 hc18 hn24 (.inl hn12), rfl, rfl⟩ sl (fun _ hR => by repeat (first | exact hR | apply List.Mem.tail))
   ·
    skip
    have hn12 : ¬ n24 > 12 := dF hc38
    have hge13 := Zid p13
    have hle13 := Zbd hg13.pq.deg
    have hmb : -12 ≤ (n24 : Int) * Yz p13 ∧ (n24 : Int) * Yz p13 ≤ 144 := by
     have a := Int.mul_le_mul_of_nonneg_left hge13 (show (0 : Int) ≤ n24 by omega)
     have c := Int.mul_le_mul_of_nonneg_left hle13 (show (0 : Int) ≤ n24 by omega)
     omega
    refine gL h (zp (.pickF rfl rfl) (zm rfl (zq 40 rfl rfl (.move rfl) (zq 40 rfl rfl (.convert rfl (Ze6 _ (wrap_i64 _ oo oo))) (zq 40 rfl rfl (.move rfl) ?_))))); clear h; intro a w h
    refine Zo 40 h rfl rfl (Qo h (vs := [_]) rfl call49 (Zn5 p13 _ _ hg13) ss dd ?_); clear h; intro a w h
    refine gL h (zq 40 rfl rfl (.mul rfl rfl) (zq 40 rfl rfl (.gtr rfl rfl) ?_)); clear h; intro a w h
    refine Zg h (fun hc46 h => ?_) (fun hc46 h => ?_)
    ·
     skip
     skip
     refine gL h (zp (.pickF rfl rfl) (zn ?_)); clear h; intro a w h
     refine cW ?_
     refine Zj h rfl ?_
     refine gC h (zr (zm rfl ?_)); clear h; intro a w h
     refine Zc (Jh h hS (vs := [_, _]) rfl call37 (Zbg 9 _ _ _) (List.Perm.refl _) ss ?_ (fun _ _ _ _ _ hp _ => by exact hp.elim))
     rintro _ _ w' ⟨rfl, rfl⟩ hm
     exact Zgl h hm ⟨9, Zm s k13, _, Zc5 hr13 hc18 hn24 (.inr (of_decide_eq_true hc46)), rfl, rfl⟩ sl (fun _ hR => by repeat (first | exact hR | apply List.Mem.tail))
    ·
     skip
     have hnd : ¬ (n24 > 12 ∨ (n24 : Int) * Yz p13 > 12) := fun hh => hh.elim hn12 (of_decide_eq_false hc46)
     have hsz13 := hg13.size
     have hms := Nat.mul_le_mul (show n24 ≤ 12 by omega) hsz13
     refine gL h (zp (.pickF rfl rfl) (zn ?_)); clear h; intro a w h
     refine cW ?_
     refine Ze h rfl ?_
     refine gC h (zk (zS (zm rfl (zp (.convert rfl (Ze6 _ (wrap_i64 _ oo oo))) (zm rfl (zw [_] rfl call73 (Zgh p13 _ _ hg13) (zp (.pN (n24 * (Qf p13)) (.mul rfl rfl)) (zm rfl ?_)))))))); clear h; intro a w h
     refine Zc (Jh h hS (vs := [_, _]) rfl call72 (Zn3 _ _ _ (Row ad13 (cellsOf Qb p13) :: Φ)) (List.Perm.refl _) ss ?_ ?_)
     ·
      skip
      rintro _ _ w' ⟨hl, rfl, rfl⟩ hm
      exact Zgl h hm ⟨3, _, _, Zm7 hr13 hc18 hn24 hnd oo, rfl, rfl⟩ sl (fun _ hR => by repeat (first | exact hR | apply List.Mem.tail))
     clear h; rintro v56 σ56 Ψ56 a w ⟨hf56, rfl, rfl, rfl⟩ h
     have hf56b : ¬ n24 * Qf p13 > 16384 := oo
     obtain ⟨d61, K61, hd61, hnd61, hq61, hK61⟩ := powOk.dk hg13 oo hf56b (fun hh => hnd (.inr hh))
     refine gL h (zn (zS (zm rfl (zm rfl (zp (.convert rfl (Ze6 _ (wrap_i64 _ oo oo))) (zf [_, _] rfl call19 (C_Pow p13 _ _ d61 K61 hq61 n24 oo hd61 hnd61 (by have := Nat.mul_le_mul_left n24 hK61; omega) oo) ?_)))))); rintro v61 Ψ61 ⟨ad61, c61, rfl, rfl⟩
     refine zm rfl (zp (.eX rfl) (zp (.eX rfl) (za rfl (za rfl (zn (zS (zm rfl (za rfl (zn (zt ?_)))))))))); intro a w h
     refine Zvh h (Zd h rfl (.tmp rfl)) ⟨_, _, ad61, c61, Zm5 hr13 hc18 hn24 hnd hf56b, rfl, rfl, rfl⟩ sl (fun _ hR => by rcases List.mem_cons.1 hR with rfl | hR <;> (repeat (first | exact List.Mem.head _ | exact hR | apply List.Mem.tail)))
  ·
   skip
   have hn64 : ¬ n24 < 18446744073709551616 := of_decide_eq_false hc33
   refine gL h (za rfl (za rfl (zn (zs (zS (zm rfl (zp (.unOp rfl (Ji _)) (zm rfl (zo 36 rfl rfl rfl (zo 36 rfl rfl rfl (zp (.pickT rfl rfl) (zm rfl (zo 40 rfl rfl rfl (zo 40 rfl rfl rfl (zo 40 rfl rfl rfl (zo 40 rfl rfl rfl (zo 40 rfl rfl rfl (zo 40 rfl rfl rfl (zp (.pickT rfl rfl) (zn ?_)))))))))))))))))))); clear h; intro a w h
   refine cW ?_
   refine Zj h rfl ?_
   refine gC h (zr (zm rfl ?_)); clear h; intro a w h
   refine Zc (Jh h hS (vs := [_, _]) rfl call37 (Zbg 9 _ _ _) (List.Perm.refl _) ss ?_ (fun _ _ _ _ _ hp _ => by exact hp.elim))
   rintro _ _ w' ⟨rfl, rfl⟩ hm
   exact Zgl h hm ⟨9, Zm s k13, _, Zc5 hr13 hc18 hn24 (.inl oo), rfl, rfl⟩ sl (fun _ hR => by repeat (first | exact hR | apply List.Mem.tail))
 ·
  skip
  simp only [hc18, Bool.false_eq_true, if_false] at h
  refine gL h (za rfl (za rfl (zn (zs (zS (zm rfl (zp (.unOp rfl (Ji _)) (zn ?_)))))))); clear h; intro a w h
  refine cW ?_
  refine Zj h rfl ?_
  refine gC h (zS (zm rfl (za rfl (zn (zt ?_))))); clear h; intro a w h
  refine Zvh h (Zd h rfl (.tmp rfl)) ⟨p13, Zm s k13, ad13, c13, Zm6 hr13 hc18, rfl, rfl, rfl⟩ sl (fun _ hR => by rcases List.mem_cons.1 hR with rfl | hR <;> (repeat (first | exact List.Mem.head _ | exact hR | apply List.Mem.tail)))
end
section
set_option maxHeartbeats 2000000 in
theorem Zx6 (b k o : Nat) (s : ByteArray) (hs : s.size ≤ 4096) (hk : k ≤ s.size) (σ : List (Nat × Obj)) (Φ : List Zp) (ins : Ins) (hI : InsC b s o ins) (hGi : InsG s ins) : Zlp Tryz.prog 71 [.pointer (some ⟨b, 0, none⟩)] (rdB b s k o :: σ) Φ (Zlk (Ke s ins k) b s o σ Φ) (Zx1 (Ke s ins k) b σ) := by
 refine fn_introE func71 rfl ntmps71 nb ?_
 intro S w0 a w hS h
 refine gC h (zS (za rfl (zn (zS (zm rfl ?_))))); clear h; intro a w h
 refine Zc (Jh h hS (vs := [_]) rfl call112 (Qcu b k o s hs hk σ Φ ins hI hGi) ((List.Perm.refl _)) ss ?_ ?_)
 ·
  skip
  rintro _ _ w' ⟨e, i, ob, hx, rfl, rfl⟩ hm
  exact Zgl h hm ⟨e, i, ob, Zlx (hx), rfl, rfl⟩ sl (fun _ hR => by repeat (first | exact hR | apply List.Mem.tail))
 clear h; rintro v14 σ14 Ψ14 a w ⟨p14, k14, ad14, c14, hr14, rfl, rfl, rfl⟩ h
 obtain ⟨hg14, hk14a, hk14⟩ := Zbu hs hGi hk hr14
 refine gL h (za rfl (zn (zb ?_))); clear h; intro a w h
 refine Zi (fun (f : Nat) a w => ∃ (p : List Tm) (k2 : Nat) (ad : Option Addr) (c : Nat), (Ke s ins k = Vx s ins f p k2 ∧ Gd p ∧ k2 ≤ s.size ∧ s.size - k2 < f) ∧ St 89 S w0 [(0, pB b), (3, .slice ad p.length c)] ((b, bV (.agg #[.string s, .int .i64 ((k2 : Nat) : Int), .int .i64 ((o : Nat) : Int)]) 78) :: σ) (Row ad (cellsOf Qb p) :: Φ) a w) (fun f => f) (s.size - k14 + 1) (⟨p14, k14, ad14, c14, ⟨Zqa hr14, hg14, hk14, oo⟩, by exact (h.factsSub (by exact (fun _ hR => by rcases List.mem_cons.1 hR with rfl | hR <;> (repeat (first | exact List.Mem.head _ | exact hR | apply List.Mem.tail))))).sub sA⟩) ?_; clear h
 rintro f a w ⟨p, k2, ad, c, ⟨hr, hg, hk2, hf⟩, h⟩
 obtain ⟨f, rfl⟩ : ∃ f1, f = f1 + 1 := ⟨f - 1, oo⟩
 refine gC h (zb (zs (zS (zm rfl ?_)))); clear h; intro a w h
 refine Zc (Xc h hS (vs := [_, _]) rfl call70 (Zbe b k2 o s hs hk2 _ (Row ad (cellsOf Qb p) :: Φ) 42 dd) ((List.Perm.refl _)) ss ss ?_); clear h; rintro v17 σ17 Ψ17 a w ⟨rfl, rfl, rfl⟩ h
 refine gL h (zm rfl (zp (.eX rfl) (zp (.eX rfl) ?_))); clear h; intro a w h
 refine Zg h (fun hc19 h => ?_) (fun hc19 h => ?_)
 ·
  skip
  simp only [if_pos hc19] at h
  have hlt19 := Zz hk2 hc19
  refine gL h (za rfl (za rfl (zn (zS (zm rfl (zn ?_)))))); clear h; intro a w h
  refine cW ?_
  refine Zj h rfl ?_
  refine gC h (zS (zm rfl ?_)); clear h; intro a w h
  refine Zc (Jh h hS (vs := [_]) rfl call112 (Qcu b (Zm s k2 + 1) o s hs hlt19 _ (Row ad (cellsOf Qb p) :: Φ) ins hI hGi) ((List.Perm.refl _)) ss ?_ ?_)
  ·
   skip
   rintro _ _ w' ⟨e, i, ob, hx, rfl, rfl⟩ hm
   exact Zgl h hm ⟨e, i, ob, hr.trans (Zi9 hc19 hx), rfl, rfl⟩ sl (fun _ hR => by repeat (first | exact hR | apply List.Mem.tail))
  clear h; rintro v22 σ22 Ψ22 a w ⟨p22, k22, ad22, c22, hr22, rfl, rfl, rfl⟩ h
  obtain ⟨hg22, hk22a, hk22⟩ := Zbu hs hGi hlt19 hr22
  have hbk2 := Xd s k2
  have hsz := hg.size
  have hsz22 := hg22.size
  refine gL h (za rfl (zn ?_)); clear h; intro a w h
  refine cW ?_
  refine Xu (fun a w => mulOk p p22 ∧ St 89 S w0 [(0, pB b), (3, .slice ad p.length c), (4, nI (Zm s k2)), (6, .slice ad22 p22.length c22)] (rdB b s k22 o :: σ) (Row ad22 (cellsOf Qb p22) :: Row ad (cellsOf Qb p) :: Φ) a w) ?_ ?_
  ·
   skip
   refine gC h (zS (zm rfl (zw [_] rfl call49 (Zn5 p _ _ hg) (zp (.geq rfl rfl) ?_)))); clear h; intro a w h
   refine Zg h (fun hc25 h => ?_) (fun hc25 h => ?_)
   ·
    skip
    have hd1 : Yz p ≥ 0 := of_decide_eq_true hc25
    refine gL h (zm rfl (zq 26 rfl rfl (.move rfl) ?_)); clear h; intro a w h
    refine Zo 26 h rfl rfl (Qo h (vs := [_]) rfl call49 (Zn5 p22 _ _ hg22) ss dd ?_); clear h; intro a w h
    refine gL h (zq 26 rfl rfl (.geq rfl rfl) ?_); clear h; intro a w h
    refine Zg h (fun hc29 h => ?_) (fun hc29 h => ?_)
    ·
     skip
     have hd2 : Yz p22 ≥ 0 := of_decide_eq_true hc29
     have hle1 := Zbd hg.pq.deg
     have hle2 := Zbd hg22.pq.deg
     refine gL h (zp (.pickT rfl rfl) (zm rfl (zq 31 rfl rfl (.move rfl) ?_))); clear h; intro a w h
     refine Zo 31 h rfl rfl (Qo h (vs := [_]) rfl call49 (Zn5 p _ _ hg) ss dd ?_); clear h; intro a w h
     refine gL h (zq 31 rfl rfl (.move rfl) ?_); clear h; intro a w h
     refine Zo 31 h rfl rfl (Qo h (vs := [_]) rfl call49 (Zn5 p22 _ _ hg22) ss dd ?_); clear h; intro a w h
     refine gL h (zq 31 rfl rfl (.add rfl rfl) (zq 31 rfl rfl (.gtr rfl rfl) ?_)); clear h; intro a w h
     refine Zg h (fun hc37 h => ?_) (fun hc37 h => ?_)
     ·
      skip
      have hd3 : Yz p + Yz p22 > 12 := of_decide_eq_true hc37
      refine gL h (zp (.pickT rfl rfl) (zn ?_)); clear h; intro a w h
      refine cW ?_
      refine Zj h rfl ?_
      refine gC h (zr (zm rfl ?_)); clear h; intro a w h
      refine Zc (Jh h hS (vs := [_, _]) rfl call37 (Zbg 9 _ _ _) (List.Perm.refl _) ss ?_ (fun _ _ _ _ _ hp _ => by exact hp.elim))
      rintro _ _ w' ⟨rfl, rfl⟩ hm
      exact Zgl h hm ⟨9, Zm s k2, _, hr.trans (Zja hc19 hr22 (fun hh => hh ⟨hd1, hd2, hd3⟩)), rfl, rfl⟩ sl (fun _ hR => by repeat (first | exact hR | apply List.Mem.tail))
     ·
      skip
      have hd3 : ¬ Yz p + Yz p22 > 12 := of_decide_eq_false hc37
      refine gL h (zp (.pickT rfl rfl) (zn ?_)); clear h; intro a w h
      refine cW ?_
      refine Ze h rfl ?_
      refine wp_skip ?_
      exact ⟨fun hh => hd3 hh.2.2, h.sub sA⟩
    ·
     skip
     have hd2 : ¬ Yz p22 ≥ 0 := of_decide_eq_false hc29
     refine gL h (zp (.pickT rfl rfl) (zm rfl (zo 31 rfl rfl rfl (zo 31 rfl rfl rfl (zo 31 rfl rfl rfl (zo 31 rfl rfl rfl (zo 31 rfl rfl rfl (zo 31 rfl rfl rfl (zp (.pickF rfl rfl) (zn ?_)))))))))); clear h; intro a w h
     refine cW ?_
     refine Ze h rfl ?_
     refine wp_skip ?_
     exact ⟨fun hh => hd2 hh.2.1, h.sub sA⟩
   ·
    skip
    have hd1 : ¬ Yz p ≥ 0 := of_decide_eq_false hc25
    refine gL h (zm rfl (zo 26 rfl rfl rfl (zo 26 rfl rfl rfl (zo 26 rfl rfl rfl (zp (.pickF rfl rfl) (zm rfl (zo 31 rfl rfl rfl (zo 31 rfl rfl rfl (zo 31 rfl rfl rfl (zo 31 rfl rfl rfl (zo 31 rfl rfl rfl (zo 31 rfl rfl rfl (zp (.pickF rfl rfl) (zn ?_)))))))))))))); clear h; intro a w h
    refine cW ?_
    refine Ze h rfl ?_
    refine wp_skip ?_
    exact ⟨fun hh => hd1 hh.1, h.sub sA⟩
  ·
   clear h
   rintro a w ⟨hmo, h⟩
   refine gC h (zS (zm rfl (zw [_] rfl call73 (Zgh p _ _ hg) (zm rfl (zw [_] rfl call73 (Zgh p22 _ _ hg22) (zp (.pN ((Qf p) + (Qf p22)) (.add rfl rfl)) (zm rfl ?_))))))); clear h; intro a w h
   refine Zc (Jh h hS (vs := [_, _]) rfl call72 (Zn3 _ _ _ (Row ad22 (cellsOf Qb p22) :: Row ad (cellsOf Qb p) :: Φ)) (List.Perm.refl _) ss ?_ ?_)
   ·
    skip
    rintro _ _ w' ⟨hl, rfl, rfl⟩ hm
    exact Zgl h hm ⟨3, _, _, hr.trans (Zi8 hc19 hr22 hmo oo), rfl, rfl⟩ sl (fun _ hR => by repeat (first | exact hR | apply List.Mem.tail))
   clear h; rintro v47 σ47 Ψ47 a w ⟨hf47, rfl, rfl, rfl⟩ h
   have hfit : ¬ Qf p + Qf p22 > 16384 := oo
   obtain ⟨da, db, hdd, hqa, hqb⟩ := mulOk.ds hg hg22 oo oo hmo
   refine gL h (zn (zS (zm rfl (zm rfl (zf [_, _] rfl call18 (Zye p p22 _ _ _ _ da db 513 513 hqa hqb hdd dd dd) ?_))))); rintro v51 Ψ51 ⟨ad51, c51, rfl, rfl⟩
   refine zm rfl (zp (.eX rfl) (zp (.eX rfl) (za rfl (zn (ze ?_))))); intro a w h
   exact ⟨f, ⟨_, k22, ad51, c51, ⟨hr.trans (Zlz hc19 hr22 hmo hfit), hg.mul hg22 oo hmo, hk22, oo⟩, by exact (h.factsSub (by exact (fun _ hR => by rcases List.mem_cons.1 hR with rfl | hR <;> (repeat (first | exact List.Mem.head _ | exact hR | apply List.Mem.tail))))).sub (Zfn ⟨rfl, rfl, trivial⟩)⟩, oo⟩
 ·
  skip
  simp only [hc19, Bool.false_eq_true, if_false] at h
  refine gL h (za rfl (za rfl (zn (zS (zm rfl (zn ?_)))))); clear h; intro a w h
  refine cW ?_
  refine Ze h rfl ?_
  refine gC h (zk (zS (zm rfl ?_))); clear h; intro a w h
  refine Zc (Xc h hS (vs := [_, _]) rfl call70 (Zbe b (Zm s k2) o s hs (Ja hk2) _ (Row ad (cellsOf Qb p) :: Φ) 47 dd) ((List.Perm.refl _)) ss ss ?_); clear h; rintro v56 σ56 Ψ56 a w ⟨rfl, rfl, rfl⟩ h
  simp only [Zbl, Kr] at h
  refine gL h (zm rfl (zp (.eX rfl) (zp (.eX rfl) ?_))); clear h; intro a w h
  refine Zg h (fun hc58 h => ?_) (fun hc58 h => ?_)
  ·
   skip
   simp only [if_pos hc58] at h
   have hlt58 := Zz hk2 hc58
   refine gL h (za rfl (za rfl (zn (zs (zS (zm rfl (zp (.unOp rfl (Ji _)) (zn ?_)))))))); clear h; intro a w h
   refine cW ?_
   refine Ze h rfl ?_
   refine gC h (zk (zS (zm rfl ?_))); clear h; intro a w h
   refine Zc (Jh h hS (vs := [_]) rfl call113 (Zlm b (Zm s k2 + 1) o s hs hlt58 _ (Row ad (cellsOf Qb p) :: Φ)) ((List.Perm.refl _)) ss ?_ ?_)
   ·
    skip
    rintro _ _ w' ⟨e, i, ob, hx, rfl, rfl⟩ hm
    exact Zgl h hm ⟨e, i, ob, hr.trans (Zi7 hc19 hc58 hx), rfl, rfl⟩ sl (fun _ hR => by repeat (first | exact hR | apply List.Mem.tail))
   clear h; rintro v64 σ64 Ψ64 a w ⟨n64, a64, e64, hn64, rfl, rfl, rfl⟩ h
   have hN64 := Gr (k := Zm s k2 + 1) hlt58 hn64
   have hbk2 := Xd s k2
   have hsz := hg.size
   have hbig := hN64.big hs
   have hat64 := hN64.at_
   have hlt64 := hN64.lt
   have hge64 := Xd s (Zm s k2 + 1)
   have hle64 := hN64.le
   refine gL h (zm rfl (zp (.eX rfl) (zp (.eX rfl) (zz Zg9 fun b9 => zt' rfl rfl Xa uu sizeOf53 rfl nb rfl ?_))))
   refine za rfl (zn (zs (yD Za [1, 0, 2, 3, 4, 5, 6, 7, 8] (Kv ⟨.inl rfl, .inl rfl, .inl rfl, .inl rfl, .inl rfl, .inl rfl, .inr ⟨11, 53, _, _, _, rfl, rfl, by decide, _, Zg9⟩, .inl rfl, .inl rfl, trivial⟩) (yd rfl rfl mr isAgg53 sizeOf53 Zx ?_))))
   refine yv [_] rfl rfl call22 (Zj7 1 dd dd) (yv [_, _] rfl rfl call90 (Qf6 n64 hbig) (ym rfl rfl (yp rfl (.eX rfl) (yp rfl (.eX rfl) (yz rfl Zg9 fun b11 => yt rfl rfl rfl Xa uu sizeOf53 rfl nb rfl ?_)))))
   refine yp rfl (.assign rfl) (yn (zs (zS (zm rfl (zp (.neq rfl rfl) (zn ?_)))))); intro a w h
   refine cW ?_
   refine Zb h rfl (fun hc74 => ?_) (fun hc74 => ?_)
   ·
    skip
    have hz64 : n64 = 0 := Decidable.of_not_not (fun hh => by rw [show qer n64 = 0 from if_neg hh] at hc74; exact absurd hc74 dd)
    have e5 : qer n64 = 5 := if_pos hz64
    refine gC h (zr (zm rfl (zm rfl ?_))); clear h; intro a w h
    refine Zc (Jh h hS (vs := [_, _]) rfl call37 (Zbg _ _ _ _) (List.Perm.refl _) ss ?_ (fun _ _ _ _ _ hp _ => by exact hp.elim))
    rintro _ _ w' ⟨rfl, rfl⟩ hm
    exact Zgl h hm ⟨5, a64, _, hr.trans (Zhi hc19 hc58 hn64 hz64), by rw [e5], rfl⟩ sl (fun _ hR => by repeat (first | exact hR | apply List.Mem.tail))
   ·
    skip
    have hnz : n64 ≠ 0 := fun hh => by rw [show qer n64 = 5 from if_pos hh] at hc74; exact absurd hc74 dd
    have eqi : qinv n64 = 1 / ((n64 : Int) : Rat) := if_neg hnz
    rw [eqi] at h
    have hbl64 := Gy n64
    have hwl64 := Yx hbig
    refine gC h (zk (zs (yD Za [0, 2, 6, 1, 3, 4, 5, 7] (Zf kk) (ym rfl rfl (yd rfl rfl mr isAgg53 sizeOf53 Zx ?_))))); clear h
    refine ym rfl rfl (yw [_] rfl rfl call73 (Zgh p _ _ hg) (yv [_] rfl rfl call115 (Zyr n64 hnz hbig) (yv [_] rfl rfl call114 (Zyw n64 (Nat.le_trans (Yx hbig) dd)) (yp rfl (.pN ((Qf p) + (Je n64)) (.add rfl rfl)) ?_))))
    refine Zmz kk ?_; intro a w h
    refine Zci [7] kk dd ?_; intro i hi
    simp only [List.mem_cons, List.not_mem_nil, or_false] at hi
    rcases hi with rfl
    by_cases hF : ((Qf p + Je n64 : Nat) : Int) > 16384
    ·
     refine Qc5 h hS (vs := [_, _]) rfl rfl call72 (Zn3 _ _ _ (Row ad (cellsOf Qb p) :: Φ)) (List.Perm.refl _) dd (fun _ _ _ hp => hp.1 hF) ?_
     rintro _ _ a' w' hd ⟨_, rfl, rfl⟩ hm
     exact panE' hd hm ⟨3, Zm s k2, _, hr.trans (Zi6 hc19 hc58 hn64 hnz oo), rfl, rfl⟩ sl (fun _ hR => by repeat (first | exact hR | apply List.Mem.tail))
    refine Zua h (vs := [_, _]) rfl rfl call72 (Qbf _ _ hF) ss dd ?_; clear h; intro a w h
    have hfit : ¬ Qf p + Je n64 > 16384 := oo
    refine x_end kk ?_
    refine cW ?_
    refine gC h (zr (zm rfl (zd rfl mr isAgg53 sizeOf53 Zx ?_)))
    refine zf [_, _] rfl call27 (Qbi p _ _ 12 513 (hg.fit oo) dd dd (1 / ((n64 : Int) : Rat)) 428 (Zmt hbig dd) dd) ?_; rintro v88 Ψ88 ⟨ad88, c88, rfl, rfl⟩
    refine za rfl (zn ?_); intro a w h
    exact ⟨f, ⟨_, e64, ad88, c88, ⟨hr.trans (Zly hc19 hc58 hn64 hnz hfit), hg.quo oo hbig, hle64, oo⟩, by exact ((h.drop sl).factsSub (by exact (fun _ hR => by rcases List.mem_cons.1 hR with rfl | hR <;> (repeat (first | exact List.Mem.head _ | exact hR | apply List.Mem.tail))))).sub (Zfn ⟨rfl, rfl, trivial⟩)⟩, oo⟩
  ·
   skip
   simp only [hc58, Bool.false_eq_true, if_false] at h
   refine gL h (za rfl (za rfl (zn (zs (zS (zm rfl (zp (.unOp rfl (Ji _)) (zn ?_)))))))); clear h; intro a w h
   refine cW ?_
   refine Zj h rfl ?_
   refine gC h (zS (zm rfl (za rfl (zn (zt ?_))))); clear h; intro a w h
   refine Zvh h (Zd h rfl (.tmp rfl)) ⟨p, Zm s k2, ad, c, hr.trans (Zi5 hc19 hc58), rfl, rfl, rfl⟩ sl (fun _ hR => by rcases List.mem_cons.1 hR with rfl | hR <;> (repeat (first | exact List.Mem.head _ | exact hR | apply List.Mem.tail)))
end
section
set_option maxHeartbeats 2000000 in
theorem C_sum (b k o : Nat) (s : ByteArray) (hs : s.size ≤ 4096) (hk : k ≤ s.size) (σ : List (Nat × Obj)) (Φ : List Zp) (ins : Ins) (hI : InsC b s o ins) (hGi : InsG s ins) : Zlp Tryz.prog 35 [.pointer (some ⟨b, 0, none⟩)] (rdB b s k o :: σ) Φ (Zlk (Zoj s ins k) b s o σ Φ) (Zx1 (Zoj s ins k) b σ) := by
 have hK1 : (if Zn s 45 k = true then Zm s k + 1 else Zm s k) ≤ s.size := by
  split
  · rename_i ht; exact Zz hk ht
  · exact Ja hk
 refine fn_introE func35 rfl ntmps35 nb ?_
 intro S w0 a w hS h
 refine gC h (zS (za rfl (zn (zS (zm rfl ?_))))); clear h; intro a w h
 refine Zc (Xc h hS (vs := [_, _]) rfl call70 (Zbe b k o s hs hk _ Φ 45 dd) ((List.Perm.refl _)) ss ss ?_); clear h; rintro v12 σ12 Ψ12 a w ⟨rfl, rfl, rfl⟩ h
 refine gL h (zm rfl (zp (.eX rfl) (zp (.eX rfl) (za rfl (za rfl (zn (zS (zm rfl ?_)))))))); clear h; intro a w h
 refine Zc (Jh h hS (vs := [_]) rfl call71 (Zx6 b (if Zn s 45 k = true then Zm s k + 1 else Zm s k) o s hs hK1 _ Φ ins hI hGi) ((List.Perm.refl _)) ss ?_ ?_)
 ·
  skip
  rintro _ _ w' ⟨e, i, ob, hx, rfl, rfl⟩ hm
  exact Zgl h hm ⟨e, i, ob, Zqf hx, rfl, rfl⟩ sl (fun _ hR => by repeat (first | exact hR | apply List.Mem.tail))
 clear h; rintro v16 σ16 Ψ16 a w ⟨p16, k16, ad16, c16, hr16, rfl, rfl, rfl⟩ h
 obtain ⟨hg16, hk16a, hk16⟩ := Vt hs hGi hK1 hr16
 refine gL h (za rfl (zn ?_)); clear h; intro a w h
 refine cW ?_
 refine Xu (fun a w => ∃ (ad : Option Addr) (c : Nat), St 48 S w0 [(0, pB b), (5, .slice ad (if Zn s 45 k = true then norm (Qj ((-1 : Int) : Rat) p16) else p16).length c)] (rdB b s k16 o :: σ) (Row ad (cellsOf Qb (if Zn s 45 k = true then norm (Qj ((-1 : Int) : Rat) p16) else p16)) :: Φ) a w) ?_ ?_
 ·
  skip
  refine gC h (zS (zm rfl (zn ?_))); clear h; intro a w h
  refine cW ?_
  refine Zb h rfl (fun hc17 => ?_) (fun hc17 => ?_)
  focus
   refine gC h (zr (zm rfl (zf [_] rfl call26 (Qc0 p16 _ _ 12 6400 hg16.pq dd dd dd) ?_))); rintro v19 Ψ19 ⟨ad19, c19, rfl, rfl⟩
   refine za rfl (zn ?_); intro a w h
   refine ⟨ad19, c19, ?_⟩
   rw [if_pos hc17]
  rotate_left
  focus
   refine wp_skip ?_
   refine ⟨ad16, c16, ?_⟩
   rw [if_neg (by rw [hc17]; decide)]
  all_goals
   exact (h.factsSub (fun _ hR => by rcases List.mem_cons.1 hR with rfl | hR <;> (repeat (first | exact List.Mem.head _ | exact hR | apply List.Mem.tail)))).sub sA
 ·
  skip
  clear h
  rintro a w ⟨ad0, c0, h⟩
  have hg0 : Gd (if Zn s 45 k = true then norm (Qj ((-1 : Int) : Rat) p16) else p16) := by
   split
   · exact hg16.neg
   · exact hg16
  have hr0 := Zux hr16
  refine wp_block ?_
  refine Zi (fun (f : Nat) a w => ∃ (p : List Tm) (k2 : Nat) (ad : Option Addr) (c : Nat), (Zoj s ins k = Ziv s ins f p k2 ∧ Gd p ∧ k2 ≤ s.size ∧ s.size - k2 < f) ∧ St 48 S w0 [(0, pB b), (5, .slice ad p.length c)] ((b, bV (.agg #[.string s, .int .i64 ((k2 : Nat) : Int), .int .i64 ((o : Nat) : Int)]) 78) :: σ) (Row ad (cellsOf Qb p) :: Φ) a w) (fun f => f) (s.size - k16 + 1) (⟨_, k16, ad0, c0, ⟨hr0, hg0, hk16, oo⟩, by exact (h.factsSub (by exact (fun _ hR => by rcases List.mem_cons.1 hR with rfl | hR <;> (repeat (first | exact List.Mem.head _ | exact hR | apply List.Mem.tail))))).sub (Zfn ⟨rfl, rfl, trivial⟩)⟩) ?_; clear h
  rintro f a w ⟨p, k2, ad, c, ⟨hr, hg, hk2, hf⟩, h⟩
  obtain ⟨f, rfl⟩ : ∃ f1, f = f1 + 1 := ⟨f - 1, oo⟩
  refine gC h (zb (zS (za rfl (zn (zS (zm rfl ?_)))))); clear h; intro a w h
  refine Zc (Xc h hS (vs := [_, _]) rfl call70 (Zbe b k2 o s hs hk2 _ (Row ad (cellsOf Qb p) :: Φ) 43 dd) ((List.Perm.refl _)) ss ss ?_); clear h; rintro v22 σ22 Ψ22 a w ⟨rfl, rfl, rfl⟩ h
  refine gL h (zm rfl (zp (.eX rfl) (zp (.eX rfl) ?_))); clear h; intro a w h
  refine Zg h (fun hc24 h => ?_) (fun hc24 h => ?_)
  ·
   skip
   simp only [if_pos hc24] at h
   have hlt24 := Zz hk2 hc24
   refine gL h (za rfl (za rfl (zn (zs (zS (zm rfl (zp (.unOp rfl (Ji _)) (zn ?_)))))))); clear h; intro a w h
   refine cW ?_
   refine Ze h rfl ?_
   refine gC h (zk (zS (zm rfl ?_))); clear h; intro a w h
   refine Zc (Jh h hS (vs := [_]) rfl call71 (Zx6 b (Zm s k2 + 1) o s hs oo _ (Row ad (cellsOf Qb p) :: Φ) ins hI hGi) ((List.Perm.refl _)) ss ?_ ?_)
   ·
    skip
    rintro _ _ w' ⟨e, i, ob, hx, rfl, rfl⟩ hm
    exact Zgl h hm ⟨e, i, ob, hr.trans (Zkd (.inl hc24) hx), rfl, rfl⟩ sl (fun _ hR => by repeat (first | exact hR | apply List.Mem.tail))
   clear h; rintro v36 σ36 Ψ36 a w ⟨p36, k36, ad36, c36, hr36, rfl, rfl, rfl⟩ h
   obtain ⟨hg36, hk36a, hk36⟩ := Vt (k := Zm s k2 + 1) hs hGi oo hr36
   have hbk2 := Xd s k2
   have hsz := hg.size
   have hsz36 := hg36.size
   refine gL h (za rfl (zn (zS (zm rfl (zw [_] rfl call73 (Zgh p _ _ hg) (zm rfl (zw [_] rfl call73 (Zgh p36 _ _ hg36) (zp (.pN ((Qf p) + (Qf p36)) (.add rfl rfl)) (zm rfl ?_))))))))); clear h; intro a w h
   refine Zc (Jh h hS (vs := [_, _]) rfl call72 (Zn3 _ _ _ (Row ad36 (cellsOf Qb p36) :: Row ad (cellsOf Qb p) :: Φ)) (List.Perm.refl _) ss ?_ ?_)
   ·
    skip
    rintro _ _ w' ⟨hl, rfl, rfl⟩ hm
    exact Zgl h hm ⟨3, _, _, hr.trans (Zkc (.inl hc24) hr36 oo), rfl, rfl⟩ sl (fun _ hR => by repeat (first | exact hR | apply List.Mem.tail))
   clear h; rintro v43 σ43 Ψ43 a w ⟨hf43, rfl, rfl, rfl⟩ h
   have hfit : ¬ Qf p + Qf p36 > 16384 := oo
   refine gL h (zn (zr (zm rfl (zm rfl (zm rfl ?_))))); clear h; intro a w h
   refine Zc (Zgu h (fs := []) (cs := []) rfl (vs := [_, _]) rfl call24 (Qfs p p36 _ _ _ _ 12 12 513 513 (hg.fit oo) (hg36.fit oo) dd dd dd dd) ss dd ?_); clear h; rintro v47 Ψ47 a w ⟨ad47, c47, rfl, rfl⟩ h
   refine gL h (za rfl (zn ?_)); clear h; intro a w h
   exact ⟨f, ⟨_, k36, ad47, c47, ⟨hr.trans (Zqe hc24 hr36 hfit), hg.add hg36 oo, hk36, oo⟩, by exact (h.factsSub (by exact (fun _ hR => by rcases List.mem_cons.1 hR with rfl | hR <;> (repeat (first | exact List.Mem.head _ | exact hR | apply List.Mem.tail))))).sub (Zfn ⟨rfl, rfl, trivial⟩)⟩, oo⟩
  ·
   skip
   simp only [hc24, Bool.false_eq_true, if_false] at h
   refine gL h (za rfl (za rfl (zn (zs (zS (zm rfl (zp (.unOp rfl (Ji _)) (zn ?_)))))))); clear h; intro a w h
   refine cW ?_
   refine Zj h rfl ?_
   refine gC h (zS (za rfl (zn (zS (zm rfl ?_))))); clear h; intro a w h
   refine Zc (Xc h hS (vs := [_, _]) rfl call70 (Zbe b (Zm s k2) o s hs (Ja hk2) _ (Row ad (cellsOf Qb p) :: Φ) 45 dd) ((List.Perm.refl _)) ss ss ?_); clear h; rintro v29 σ29 Ψ29 a w ⟨rfl, rfl, rfl⟩ h
   simp only [Zbl, Kr] at h
   refine gL h (zm rfl (zp (.eX rfl) (zp (.eX rfl) ?_))); clear h; intro a w h
   refine Zg h (fun hc31 h => ?_) (fun hc31 h => ?_)
   ·
    skip
    simp only [if_pos hc31] at h
    have hlt31 := Zz hk2 hc31
    refine gL h (za rfl (za rfl (zn (zS (zm rfl (zp (.unOp rfl (Ji _)) (zn ?_))))))); clear h; intro a w h
    refine cW ?_
    refine Ze h rfl ?_
    refine gC h (zk (zS (zm rfl ?_))); clear h; intro a w h
    refine Zc (Jh h hS (vs := [_]) rfl call71 (Zx6 b (Zm s k2 + 1) o s hs oo _ (Row ad (cellsOf Qb p) :: Φ) ins hI hGi) ((List.Perm.refl _)) ss ?_ ?_)
    ·
     skip
     rintro _ _ w' ⟨e, i, ob, hx, rfl, rfl⟩ hm
     exact Zgl h hm ⟨e, i, ob, hr.trans (Zkd (.inr hc31) hx), rfl, rfl⟩ sl (fun _ hR => by repeat (first | exact hR | apply List.Mem.tail))
    clear h; rintro v36 σ36 Ψ36 a w ⟨p36, k36, ad36, c36, hr36, rfl, rfl, rfl⟩ h
    obtain ⟨hg36, hk36a, hk36⟩ := Vt (k := Zm s k2 + 1) hs hGi oo hr36
    have hbk2 := Xd s k2
    have hsz := hg.size
    have hsz36 := hg36.size
    refine gL h (za rfl (zn (zS (zm rfl (zw [_] rfl call73 (Zgh p _ _ hg) (zm rfl (zw [_] rfl call73 (Zgh p36 _ _ hg36) (zp (.pN ((Qf p) + (Qf p36)) (.add rfl rfl)) (zm rfl ?_))))))))); clear h; intro a w h
    refine Zc (Jh h hS (vs := [_, _]) rfl call72 (Zn3 _ _ _ (Row ad36 (cellsOf Qb p36) :: Row ad (cellsOf Qb p) :: Φ)) (List.Perm.refl _) ss ?_ ?_)
    ·
     skip
     rintro _ _ w' ⟨hl, rfl, rfl⟩ hm
     exact Zgl h hm ⟨3, _, _, hr.trans (Zkc (.inr hc31) hr36 oo), rfl, rfl⟩ sl (fun _ hR => by repeat (first | exact hR | apply List.Mem.tail))
    clear h; rintro v43 σ43 Ψ43 a w ⟨hf43, rfl, rfl, rfl⟩ h
    have hfit : ¬ Qf p + Qf p36 > 16384 := oo
    refine gL h (zn (zr (zm rfl (zm rfl (zm rfl ?_))))); clear h; intro a w h
    refine Zc (Zgu h (fs := []) (cs := []) rfl (vs := [_, _]) rfl call25 (Qfq p p36 _ _ _ _ 12 12 513 513 (hg.fit oo) (hg36.fit oo) dd dd dd dd) ss dd ?_); clear h; rintro v47 Ψ47 a w ⟨ad47, c47, rfl, rfl⟩ h
    refine gL h (za rfl (zn ?_)); clear h; intro a w h
    exact ⟨f, ⟨_, k36, ad47, c47, ⟨hr.trans (Zqd hc24 hc31 hr36 hfit), hg.sub hg36 oo, hk36, oo⟩, by exact (h.factsSub (by exact (fun _ hR => by rcases List.mem_cons.1 hR with rfl | hR <;> (repeat (first | exact List.Mem.head _ | exact hR | apply List.Mem.tail))))).sub (Zfn ⟨rfl, rfl, trivial⟩)⟩, oo⟩
   ·
    skip
    simp only [hc31, Bool.false_eq_true, if_false] at h
    refine gL h (za rfl (za rfl (zn (zS (zm rfl (zp (.unOp rfl (Ji _)) (zn ?_))))))); clear h; intro a w h
    refine cW ?_
    refine Zj h rfl ?_
    refine gC h (zS (zm rfl (za rfl (zn (zt ?_))))); clear h; intro a w h
    refine Zvh h (Zd h rfl (.tmp rfl)) ⟨p, Zm s k2, ad, c, hr.trans (Zl0 hc24 hc31), rfl, rfl, rfl⟩ sl (fun _ hR => by rcases List.mem_cons.1 hR with rfl | hR <;> (repeat (first | exact List.Mem.head _ | exact hR | apply List.Mem.tail)))
theorem InsG.sumE {s : ByteArray} (hs : s.size ≤ 4096) (n : Nat) : InsG s (some (sumE s n)) := fun f hf k p k' hk h => by
 cases hf
 obtain ⟨h1, h2, h3⟩ := Zcu hs n hk h
 exact ⟨h1, oo, h3⟩
theorem Qco (b : Nat) (s : ByteArray) (hs : s.size ≤ 4096) : ∀ (n o k : Nat) (σ : List (Nat × Obj)) (Φ : List Zp), o + n = 32 → k ≤ s.size →
  Zlp Tryz.prog 35 [.pointer (some ⟨b, 0, none⟩)] (rdB b s k o :: σ) Φ (Zlk (sumE s n k) b s o σ Φ) (Zx1 (sumE s n k) b σ)
 | 0, o, k, σ, Φ, ho, hk => C_sum b k o s hs hk σ Φ none (.inl ⟨oo, rfl⟩) (InsG.none s)
 | n + 1, o, k, σ, Φ, ho, hk => C_sum b k o s hs hk σ Φ (some (sumE s n)) (.inr ⟨oo, _, rfl, fun k σ Φ hk => Qco b s hs n (o + 1) k σ Φ oo hk⟩) (InsG.sumE hs n)
end
end Go.Proofs.YtgkicbaomcmfoaaGreatDoor
