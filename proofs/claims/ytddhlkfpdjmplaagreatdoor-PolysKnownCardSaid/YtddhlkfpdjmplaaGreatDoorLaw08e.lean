/- Walks of functions. By an AI agent. -/
import Derived.Test.YtddhlkfpdjmplaaGreatDoorJoin1
import Derived.Test.YtddhlkfpdjmplaaGreatDoorFxG
set_option linter.unusedVariables false
set_option linter.unusedSimpArgs false
set_option maxRecDepth 4000
namespace Go.Proofs.YtddhlkfpdjmplaaGreatDoor
open Go Go.Proofs Go.Fx Tryz
attribute [local irreducible] Oper.wp Code.wp wpList Fx.Head wpOp
section
theorem Zcz (x0 : ByteArray) (w : World) : (Instr.buildSlice 132 1 [(0, .string x0)].toArray).run Tryz.prog w = .ok (.slice (some ⟨w.heap.size, 0, none⟩) 1 1) (w.alloc (.cells #[.string x0] 9 (0, 0))) := by
 simp [go_sem]
theorem Zbn (x : Rat) : (ab x).num = ((x.num.natAbs : Nat) : Int) ∧ (ab x).den = x.den := by
 unfold ab
 split
 ·
  rename_i h
  have h2 : x.num < 0 := by
   have h3 := @Rat.num_nonneg x
   have h4 : ¬ 0 ≤ x := by grind
   rw [← h3] at h4; omega
  rw [Rat.neg_num, Rat.neg_den]
  exact ⟨oo, rfl⟩
 ·
  rename_i h
  have h2 : ¬ x.num < 0 := by
   have h3 := @Rat.num_nonneg x
   have h4 : 0 ≤ x := by grind
   rw [← h3] at h4; omega
  exact ⟨oo, rfl⟩
theorem Qex (x : Rat) (hx : Qc x ≤ 100000000000) : Ys Tryz.prog 79 [Jo x] (Jo (ab x)) := by
 obtain ⟨hx1, hx2⟩ := Zca hx
 obtain ⟨hab1, hab2⟩ := Zbn x
 refine fn_intro func79 rfl ntmps79 nb ?_
 intro S w0 a hS h
 refine gC h (zS (zx rfl fun b1 => zz Vd fun b2 => zn (zs (yD Za [0, 1, 4, 5, 2, 3, 6, 7] (Zd kk) (yp rfl (.fA rfl Vq) (yd rfl rfl mr isAgg42 sizeOf42 Yi ?_)))))); clear h
 refine yp rfl (.fA rfl Zgy) (yd rfl rfl mr isAgg38 sizeOf38 Zep ?_)
 refine yv [_] rfl rfl call141 (Ztk x.num) (yv [_, _] rfl rfl call140 (Zej false x.num.natAbs) (yp rfl (.build [(_, _), (_, _)] rfl (Zjs _ _ _ _ _)) (yt rfl rfl rfl Qi uu sizeOf44 rfl nb rfl ?_)))
 refine yn (zt ?_); intro a w h
 refine Jm h (Zc h rfl (.cell rfl mr isAgg44 sizeOf44 Zh)) ?_
 unfold Jo; rw [hab1, hab2]; rfl
theorem C_iFI (n : Nat) (hn : n < 100) : Ys Tryz.prog 223 [.int .i64 ((n : Nat) : Int), .int .i64 10] (.string (Zj6 n)) := by
 refine fn_intro func223 rfl ntmps223 nb ?_
 intro S w0 a hS h
 refine gC h (zS (za rfl (zn (zs (zS (zm rfl (zp (.eql rfl rfl) (zn ?_)))))))); clear h; intro a w h
 refine cW ?_
 refine Zb h rfl (fun hc11 => ?_) (fun hc11 => (absurd hc11 dd))
 refine gC h (zs (zS (zm rfl (zp (.leq rfl rfl) ?_)))); clear h; intro a w h
 refine Zg h (fun hc13 h => ?_) (fun hc13 h => (by exfalso; have := of_decide_eq_false hc13; omega))
 refine gL h (zm rfl (zq 14 rfl rfl (.move rfl) (zq 14 rfl rfl (.lss rfl rfl) ?_))); clear h; intro a w h
 refine Zg h (fun hc16 h => ?_) (fun hc16 h => (by exfalso; have := of_decide_eq_false hc16; omega))
 refine gL h (zp (.pickT rfl rfl) (zn ?_)); clear h; intro a w h
 refine cW ?_
 refine Zq h rfl ?_
 refine gC h (zS (zm rfl (zv [_] rfl call224 (Zzz n hn) (za rfl (zn (zt ?_)))))); clear h; intro a w h
 exact Zbw h
theorem Qhy (n : Nat) (hn : n < 100) : Ys Tryz.prog 195 [.int .i64 ((n : Nat) : Int)] (.string (Zj6 n)) := by
 refine fn_intro func195 rfl ntmps195 nb ?_
 intro S w0 a hS h
 refine gC h (zS (za rfl (zn (zS (zm rfl (zv [_, _] rfl call223 (C_iFI n hn) (za rfl (zn (zt ?_))))))))); clear h; intro a w h
 exact Zbw h
theorem C_Itoa (n : Nat) (hn : n < 100) : Ys Tryz.prog 149 [.int .i64 ((n : Nat) : Int)] (.string (Zj6 n)) := by
 refine fn_intro func149 rfl ntmps149 nb ?_
 intro S w0 a hS h
 refine gC h (zS (za rfl (zn (zS (zm rfl (zv [_] rfl call195 (Qhy n hn) (za rfl (zn (zt ?_))))))))); clear h; intro a w h
 exact Zbw h
def Zb2 (s : ByteArray) (n : Nat) : List ByteArray := if n = 0 then [] else if n = 1 then [s] else [(s ++ ⟨#[94]⟩) ++ Zj6 n]
theorem Zf0 {s : ByteArray} {n : Nat} (hs : s.size ≤ 1) : (Zb2 s n).length ≤ 1 ∧ ∀ x ∈ Zb2 s n, x.size ≤ 4 := by
 unfold Zb2
 split
 · exact ⟨Nat.zero_le _, fun _ h => nomatch h⟩
 ·
  split
  · exact ⟨Nat.le_refl _, fun x hx => by rw [List.mem_singleton.1 hx]; omega⟩
  ·
   refine ⟨Nat.le_refl _, fun x hx => ?_⟩
   rw [List.mem_singleton.1 hx, ByteArray.size_append, ByteArray.size_append]
   have := Zcw n
   have h94 : (ByteArray.mk #[94]).size = 1 := rfl
   omega
theorem Zmg (s : ByteArray) (n : Nat) (hn : n < 100) (hs : s.size ≤ 1) : Ctr Tryz.prog 85 [.string s, .int .i64 ((n : Nat) : Int)] [] (fun v Ψ => ∃ ad' c', v = .slice ad' (Zb2 s n).length c' ∧ Ψ = [Row ad' (List.map encs (Zb2 s n))]) := by
 refine fn_intro func85 rfl ntmps85 nb ?_
 intro S w0 a hS h
 refine gC h (zS (za rfl (zn (zs (zb (zS (zm rfl (zp (.eql rfl rfl) (za rfl (zn ?_)))))))))); clear h; intro a w h
 refine cW ?_
 refine Zb h rfl (fun hc5 => ?_) (fun hc5 => ?_)
 ·
  skip
  have hz : Zb2 s n = [] := if_pos (Zbf hc5)
  refine gC h (zS (za rfl (zn (zt ?_)))); clear h; intro a w h
  replace h := h.derive (R := Row none (List.map encs (Zb2 s n))) (fun X _ hne => absurd (by rw [hz]; rfl) hne)
  exact Qg (Ψ := [Row none (List.map encs (Zb2 s n))]) h (Zc h rfl (.tmp rfl)) ⟨none, 0, by rw [hz]; rfl, rfl⟩ ss
 ·
  skip
  have hz0 : n ≠ 0 := Zaw hc5
  refine gC h (zS (zm rfl (zp (.eql rfl rfl) (za rfl (zn ?_))))); clear h; intro a w h
  refine cW ?_
  refine Zb h rfl (fun hc8 => ?_) (fun hc8 => ?_)
  ·
   skip
   have hz : Zb2 s n = [s] := by unfold Zb2; rw [if_neg hz0, if_pos (Zbf hc8)]
   refine gC h (zS (zm rfl (zB [(_, _)] rfl (Zcz _) fun b12 => ?_))); clear h; intro a w h
   replace h := h.shareAll hS (List.map encs ([s])) rfl
   refine gL h (za rfl (zn (zt ?_))); clear h; intro a w h
   exact Qg (Ψ := [Row (some ⟨b12, 0, none⟩) (List.map encs (Zb2 s n))]) h (Zc h rfl (.tmp rfl)) ⟨_, 1, by rw [hz]; rfl, rfl⟩ (by rw [hz]; simp)
  ·
   skip
   have hz : Zb2 s n = [(s ++ ⟨#[94]⟩) ++ Zj6 n] := by unfold Zb2; rw [if_neg hz0, if_neg (Zaw hc8)]
   refine gC h (zk (zS (zm rfl (zp (.binOp rfl rfl (fun _ => Je _ _ _ _ _ (by have h94 : (ByteArray.mk #[94]).size = 1 := rfl; omega))) (zm rfl (zv [_] rfl call149 (C_Itoa n hn) (zp (.binOp rfl rfl (fun _ => Je _ _ _ _ _ (by have h94 : (ByteArray.mk #[94]).size = 1 := rfl; have := Zcw n; rw [ByteArray.size_append]; omega))) (zB [(_, _)] rfl (Zcz _) fun b18 => ?_)))))))); clear h; intro a w h
   replace h := h.shareAll hS (List.map encs ([(s ++ (⟨#[94]⟩)) ++ (Zj6 n)])) rfl
   refine gL h (za rfl (zn (zt ?_))); clear h; intro a w h
   exact Qg (Ψ := [Row (some ⟨b18, 0, none⟩) (List.map encs (Zb2 s n))]) h (Zc h rfl (.tmp rfl)) ⟨_, 1, by rw [hz]; rfl, rfl⟩ (by rw [hz]; simp)
def hdB (tx : Rat → ByteArray) (t : Tm) : List ByteArray := if (!decide (ab t.c = ((1 : Int) : Rat)) || decide (t.i + t.j = 0)) = true then [tx (ab t.c)] else []
def Qbl (out : ByteArray) : Bool → Bool → ByteArray
 | true, true => ⟨#[45]⟩
 | true, false => out
 | false, true => out ++ ⟨#[32, 45, 32]⟩
 | false, false => out ++ ⟨#[32, 43, 32]⟩
def tmTx (tx : Rat → ByteArray) (t : Tm) : ByteArray := Zj5 ((hdB tx t ++ Zb2 ⟨#[120]⟩ t.i) ++ Zb2 ⟨#[121]⟩ t.j) ⟨#[42]⟩
def txP (tx : Rat → ByteArray) (p : List Tm) : Nat → ByteArray
 | 0 => ⟨#[]⟩
 | k + 1 => Qbl (txP tx p k) (decide (k = 0)) (decide ((p.getD k T0).c.num.sign < 0)) ++ tmTx tx (p.getD k T0)
def Zkc (tx : Rat → ByteArray) (p : List Tm) : ByteArray := if txP tx p p.length = ⟨#[]⟩ then ⟨#[48]⟩ else txP tx p p.length
theorem Zx6 (tx : Rat → ByteArray) (t : Tm) : (hdB tx t).length ≤ 1 := by unfold hdB; split <;> simp
theorem Zkh {tx : Rat → ByteArray} {t : Tm} {M : Nat} (h : (tx (ab t.c)).size ≤ M) (hM : 4 ≤ M) : ((hdB tx t ++ Zb2 ⟨#[120]⟩ t.i) ++ Zb2 ⟨#[121]⟩ t.j).length ≤ 3 ∧ ∀ x ∈ (hdB tx t ++ Zb2 ⟨#[120]⟩ t.i) ++ Zb2 ⟨#[121]⟩ t.j, x.size ≤ M := by
 have h1 := Zx6 tx t
 obtain ⟨h2, h3⟩ := Zf0 (s := ⟨#[120]⟩) (n := t.i) (Nat.le_refl 1)
 obtain ⟨h4, h5⟩ := Zf0 (s := ⟨#[121]⟩) (n := t.j) (Nat.le_refl 1)
 refine ⟨by rw [List.length_append, List.length_append]; omega, fun x hx => ?_⟩
 rcases List.mem_append.1 hx with hx | hx
 ·
  rcases List.mem_append.1 hx with hx | hx
  ·
   unfold hdB at hx
   split at hx
   · rw [List.mem_singleton.1 hx]; exact h
   · cases hx
  · exact Nat.le_trans (h3 x hx) hM
 · exact Nat.le_trans (h5 x hx) hM
theorem Zmt {tx : Rat → ByteArray} {t : Tm} {M : Nat} (h : (tx (ab t.c)).size ≤ M) (hM : 4 ≤ M) : (tmTx tx t).size ≤ 3 * (M + 1) := by
 obtain ⟨h1, h2⟩ := Zkh h hM
 exact Nat.le_trans (Zkq M _ _ h2) (Nat.mul_le_mul_right (M + 1) h1)
theorem Zm6 (out : ByteArray) (z b : Bool) : (Qbl out z b).size ≤ out.size + 3 := by
 have e1 : (ByteArray.mk #[45]).size = 1 := rfl
 have e2 : (ByteArray.mk #[32, 45, 32]).size = 3 := rfl
 have e3 : (ByteArray.mk #[32, 43, 32]).size = 3 := rfl
 cases z <;> cases b <;> simp only [Qbl, ByteArray.size_append] <;> omega
theorem Zqz {tx : Rat → ByteArray} {p : List Tm} {M : Nat} (h : ∀ t ∈ p, (tx (ab t.c)).size ≤ M) (hM : 4 ≤ M) : ∀ k, k ≤ p.length → (txP tx p k).size ≤ k * (3 * (M + 1) + 3)
 | 0, _ => Nat.zero_le _
 | k + 1, hk => by
  have ih := Zqz h hM k oo
  have h1 := Zmt (h _ (getD_mem p (d := T0) (show k < p.length by omega))) hM
  have h2 := Zm6 (txP tx p k) (decide (k = 0)) (decide ((p.getD k T0).c.num.sign < 0))
  rw [txP, ByteArray.size_append, Nat.add_mul]; omega
theorem Zyb : ∀ l : List ByteArray, (List.map encs l).all flat = true
 | [] => rfl
 | t :: l => by rw [List.map_cons, List.all_cons, Zyb l]; rfl
theorem Ztp (p : List Tm) (ad : Option Addr) (c d K M : Nat) (Φf : List Zy) (tx : Rat → ByteArray) (hq : Pq d K p) (hd : d ≤ 12) (hK : K ≤ 390000000) (hT : ∀ t ∈ norm p, Vj Tryz.prog 55 [Jo (ab t.c)] Φf (.string (tx (ab t.c)))) (hsz : ∀ t ∈ norm p, (tx (ab t.c)).size ≤ M) (hM : 4 ≤ M) (hM2 : M ≤ 100000000000) :
  Vj Tryz.prog 21 [.slice ad p.length c] (Row ad (cellsOf Zp p) :: Φf) (.string (Zkc tx (norm p))) := by
 have hn91 := hq.n91 hd
 refine fn_intro func21 rfl ntmps21 nb ?_
 intro S w0 a hS h
 refine gC h (zS (za rfl (zn (zS (za rfl (zn (zs (zS (zm rfl (zf [_] rfl call82 (Xk p _ _ d K hq hd oo) ?_)))))))))); rintro v10 Ψ10 ⟨ad10, c10, rfl, rfl⟩
 refine zp (.builtin [_] rfl (Zk _ _ _)) (zm rfl (zn (zb ?_))); intro a w h
 refine Zf (fun (k : Nat) a w => k ≤ (norm p).length ∧ St 75 S w0 [(2, .string (⟨#[]⟩)), (3, .string (txP tx (norm p) k)), (10, .slice ad10 ((norm p).length) c10), (11, nI ((norm p).length)), (12, nI k)] [] (Row ad10 (cellsOf Zp (norm p)) :: Row ad (cellsOf Zp p) :: Φf) a w) (fun k => (norm p).length - k) 0 (⟨Nat.zero_le _, by exact (h).sub sA⟩) ?_; clear h
 rintro k a w ⟨hi_k, h⟩
 refine gC h (zS (zp (.lss rfl rfl) (zn (zs ?_)))); clear h; intro a w h
 refine Zb h rfl (fun hc13 => ?_) (fun hc13 => ?_)
 ·
  skip
  have hlt_k : k < (norm p).length := dT hc13
  obtain ⟨B_ad10, O_ad10, rfl⟩ := h.row_addr (ad := ad10) (M := cellsOf Zp (norm p)) mm (nE 7)
  have hnl : ([] : List ByteArray).length = 0 := rfl
  have hmem := getD_mem (norm p) (d := T0) hlt_k
  have hcs := hq.nsz _ hmem
  have hdg := (Qm hq.deg) _ hmem
  have hts := Zqz hsz hM k oo
  have hkm := Nat.mul_le_mul_right (3 * (M + 1) + 3) (show k ≤ 91 by omega)
  obtain ⟨hps1, hps2⟩ := Zkh (hsz _ hmem) hM
  have hts2 := Zmt (hsz _ hmem) hM
  have hpp := Zm6 (txP tx (norm p) k) (decide (k = 0)) (decide (((norm p).getD k T0).c.num.sign < 0))
  have hjm : ((hdB tx ((norm p).getD k T0) ++ Zb2 ⟨#[120]⟩ ((norm p).getD k T0).i) ++ Zb2 ⟨#[121]⟩ ((norm p).getD k T0).j).length * (M + (ByteArray.mk #[42]).size) ≤ 140737488355328 := Nat.le_trans (Nat.mul_le_mul hps1 (show M + (ByteArray.mk #[42]).size ≤ 100000000001 by show M + 1 ≤ _; omega)) dd
  have hhl := Zx6 tx ((norm p).getD k T0)
  have hll := (Zf0 (s := ⟨#[120]⟩) (n := ((norm p).getD k T0).i) (Nat.le_refl 1)).1
  have hll2 := (Zf0 (s := ⟨#[121]⟩) (n := ((norm p).getD k T0).j) (Nat.le_refl 1)).1
  refine gC h (zk (zs (zb (zS (zm rfl (zp (.indexAddr rfl rfl (Zao _ _ _ _ _ oo)) (zD rfl mm (cells_lt (k := 7) dd (fun _ => rfl) (norm p) k oo) isAgg117 sizeOf117 (Zr (k := 7) (fun _ => rfl) ((fun _ => rfl)) (norm p) T0 k oo) (.inl rfl) ?_)))))))
  refine zz Gz fun b5 => za rfl (zt' rfl rfl Xp uu sizeOf117 rfl nb rfl ?_)
  refine zn (zS (zp (.fA rfl Xz) (zd rfl mr isAgg44 sizeOf44 Vh ?_)))
  refine zv [_] rfl call83 (Zha _) (zp (.lss rfl rfl) ?_); intro a w h
  refine Zg h (fun hc20 h => ?_) (fun hc20 h => ?_)
  focus
   have hb : decide (((norm p).getD k T0).c.num.sign < 0) = true := hc20
   refine gL h (za rfl (zn ?_)); clear h; intro a w h
   refine cW ?_
   refine Gm (fun a w => ∃ b5 : Nat, St 75 S w0 [(2, .string ⟨#[]⟩), (3, .string (Qbl (txP tx (norm p) k) (decide (k = 0)) (decide (((norm p).getD k T0).c.num.sign < 0)))), (5, pB b5), (10, .slice (some ⟨B_ad10, O_ad10, none⟩) (norm p).length c10), (11, nI ((norm p).length)), (12, nI k)] [(b5, bV (Zp ((norm p).getD k T0)) 117)] (Row (some ⟨B_ad10, O_ad10, none⟩) (cellsOf Zp (norm p)) :: Row ad (cellsOf Zp p) :: Φf) a w) ?_ ?_
   ·
    skip
    refine gC h (zb (zS (zm rfl (zp (.eql rfl rfl) ?_)))); clear h; intro a w h
    refine Zg h (fun hc23 h => ?_) (fun hc23 h => ?_)
    focus
     have hz : decide (k = 0) = true := decide_eq_true (Zbf hc23)
     refine gL h (zm rfl (zq 24 rfl rfl (.move rfl) (zp (.pickT rfl rfl) (za rfl (zn ?_))))); clear h; intro a w h
     refine cW ?_
     refine Zq h rfl ?_
     refine gC h (zr (za rfl (zn ?_))); clear h; intro a w h
    rotate_left
    focus
     have hz : decide (k = 0) = false := decide_eq_false (Zaw hc23)
     refine gL h (zm rfl (zo 24 rfl rfl rfl (zp (.pickF rfl rfl) (za rfl (zn ?_))))); clear h; intro a w h
     refine cW ?_
     refine Zj h rfl ?_
     refine gC h (zS (zm rfl (zp (.gtr rfl rfl) ?_))); clear h; intro a w h
     refine Zg h (fun hc29 h => ?_) (fun hc29 h => (by exfalso; have : k ≠ 0 := Zaw hc23; have := of_decide_eq_false hc29; omega))
     refine gL h (zm rfl (zq 30 rfl rfl (.move rfl) (zp (.pickT rfl rfl) (za rfl (zn ?_))))); clear h; intro a w h
     refine cW ?_
     refine Zq h rfl ?_
     refine gC h (zr (zm rfl (zp (.binOp rfl rfl (fun _ => Je _ _ _ _ _ (by rw [show (ByteArray.mk #[32, 45, 32]).size = 3 from rfl]; omega))) (za rfl (zn ?_))))); clear h; intro a w h
    all_goals
     exact ⟨_, by rw [hz, hb]; exact h.sub sA⟩
  rotate_left
  focus
   have hb : decide (((norm p).getD k T0).c.num.sign < 0) = false := hc20
   refine gL h (za rfl (zn ?_)); clear h; intro a w h
   refine cW ?_
   refine Gm (fun a w => ∃ b5 : Nat, St 75 S w0 [(2, .string ⟨#[]⟩), (3, .string (Qbl (txP tx (norm p) k) (decide (k = 0)) (decide (((norm p).getD k T0).c.num.sign < 0)))), (5, pB b5), (10, .slice (some ⟨B_ad10, O_ad10, none⟩) (norm p).length c10), (11, nI ((norm p).length)), (12, nI k)] [(b5, bV (Zp ((norm p).getD k T0)) 117)] (Row (some ⟨B_ad10, O_ad10, none⟩) (cellsOf Zp (norm p)) :: Row ad (cellsOf Zp p) :: Φf) a w) ?_ ?_
   ·
    skip
    refine gC h (zb (zS (zm rfl (zp (.eql rfl rfl) ?_)))); clear h; intro a w h
    refine Zg h (fun hc23 h => ?_) (fun hc23 h => ?_)
    focus
     have hz : decide (k = 0) = true := decide_eq_true (Zbf hc23)
     refine gL h (zm rfl (zq 24 rfl rfl (.move rfl) (zp (.pickT rfl rfl) (za rfl (zn ?_))))); clear h; intro a w h
     refine cW ?_
     refine Zj h rfl ?_
     refine gC h (zS (zm rfl (zp (.gtr rfl rfl) ?_))); clear h; intro a w h
     refine Zg h (fun hc29 h => (by exfalso; have : k = 0 := Zbf hc23; have := of_decide_eq_true hc29; omega)) (fun hc29 h => ?_)
     refine gL h (zm rfl (zo 30 rfl rfl rfl (zp (.pickF rfl rfl) (za rfl (zn ?_))))); clear h; intro a w h
     refine cW ?_
     refine Zj h rfl ?_
     refine gC h (zS (zm rfl (zp (.gtr rfl rfl) ?_))); clear h; intro a w h
     refine Zg h (fun hc37 h => (by exfalso; have : k = 0 := Zbf hc23; have := of_decide_eq_true hc37; omega)) (fun hc37 h => ?_)
     refine gL h (za rfl (zn ?_)); clear h; intro a w h
     refine cW ?_
     refine Zj h rfl ?_
     refine wp_skip ?_
    rotate_left
    focus
     have hz : decide (k = 0) = false := decide_eq_false (Zaw hc23)
     refine gL h (zm rfl (zo 24 rfl rfl rfl (zp (.pickF rfl rfl) (za rfl (zn ?_))))); clear h; intro a w h
     refine cW ?_
     refine Zj h rfl ?_
     refine gC h (zS (zm rfl (zp (.gtr rfl rfl) ?_))); clear h; intro a w h
     refine Zg h (fun hc29 h => ?_) (fun hc29 h => (by exfalso; have : k ≠ 0 := Zaw hc23; have := of_decide_eq_false hc29; omega))
     refine gL h (zm rfl (zq 30 rfl rfl (.move rfl) (zp (.pickT rfl rfl) (za rfl (zn ?_))))); clear h; intro a w h
     refine cW ?_
     refine Zj h rfl ?_
     refine gC h (zS (zm rfl (zp (.gtr rfl rfl) ?_))); clear h; intro a w h
     refine Zg h (fun hc37 h => ?_) (fun hc37 h => (by exfalso; have : k ≠ 0 := Zaw hc23; have := of_decide_eq_false hc37; omega))
     refine gL h (za rfl (zn ?_)); clear h; intro a w h
     refine cW ?_
     refine Zq h rfl ?_
     refine gC h (zr (zm rfl (zp (.binOp rfl rfl (fun _ => Je _ _ _ _ _ (by rw [show (ByteArray.mk #[32, 43, 32]).size = 3 from rfl]; omega))) (za rfl (zn ?_))))); clear h; intro a w h
    all_goals
     exact ⟨_, by rw [hz, hb]; exact h.sub sA⟩
  all_goals
   clear h
   rintro a w ⟨b5, h⟩
   refine gC h (zS (za rfl (zn ?_))); clear h; intro a w h
   refine cW ?_
   refine Gm (fun a w => ∃ (b5 : Nat) (ad7 : Option Addr) (c7 : Nat) (o7 : List (Nat × Obj)), GrowO 1 9 (.slice ad7 (hdB tx ((norm p).getD k T0)).length c7) (hdB tx ((norm p).getD k T0)).length (List.map encs (hdB tx ((norm p).getD k T0))) o7 ∧ St 75 S w0 [(2, .string ⟨#[]⟩), (3, .string (Qbl (txP tx (norm p) k) (decide (k = 0)) (decide (((norm p).getD k T0).c.num.sign < 0)))), (5, pB b5), (7, .slice ad7 (hdB tx ((norm p).getD k T0)).length c7), (10, .slice (some ⟨B_ad10, O_ad10, none⟩) (norm p).length c10), (11, nI ((norm p).length)), (12, nI k)] (o7 ++ [(b5, bV (Zp ((norm p).getD k T0)) 117)]) (Row (some ⟨B_ad10, O_ad10, none⟩) (cellsOf Zp (norm p)) :: Row ad (cellsOf Zp p) :: Φf) a w) ?_ ?_
   ·
    skip
    refine gC h (zS (zp (.fA rfl Xz) (zd rfl mr isAgg44 sizeOf44 Vh ?_)))
    refine zv [_] rfl call79 (Qex ((norm p).getD k T0).c oo) (zz Vd fun b8 => zt' rfl rfl Qi uu sizeOf44 rfl nb rfl ?_)
    refine zn (zs (yD Za [0, 1, 2, 3, 4, 5, 6, 7, 8, 9, 10] (Zd kk) (yd rfl rfl mr isAgg44 sizeOf44 Zh ?_)))
    refine yv [_] rfl rfl call45 (Vw _ oo oo) ?_
    have hl44 := Zw (1) oo oo
    refine yp rfl (.binOp rfl rfl (fun _ => Zgp _ _ (ab ((norm p).getD k T0).c) (((1 : Int) : Rat)) _)) ?_
    refine Zt (fun hc45  => ?_) (fun hc45  => ?_)
    focus
     have hhd : hdB tx ((norm p).getD k T0) = [] ++ [tx (ab ((norm p).getD k T0).c)] := by unfold hdB; rw [if_pos (by simpa using Or.inl (by simpa using hc45))]; rfl
     refine ym rfl rfl (yo 46 rfl rfl rfl rfl (yo 46 rfl rfl rfl rfl (yo 46 rfl rfl rfl rfl (yo 46 rfl rfl rfl rfl (yo 46 rfl rfl rfl rfl (yo 46 rfl rfl rfl rfl (yp rfl (.pickT rfl rfl) (yn ?_)))))))); intro a w h
    rotate_left
    focus
     refine ym rfl rfl (yq rfl rfl rfl (.fA rfl Jz) (yg rfl rfl rfl rfl mr isAgg3 sizeOf3 Ke ?_))
     refine yq rfl rfl rfl (.fA rfl Jy) (yg rfl rfl rfl rfl mr isAgg3 sizeOf3 Vk ?_)
     refine yq rfl rfl rfl (.pN ((((norm p).getD k T0).i) + (((norm p).getD k T0).j)) (.add rfl rfl)) (yq rfl rfl rfl (.eql rfl rfl) ?_)
     refine Zt (fun hc52  => ?_) (fun hc52  => ?_)
     rotate_left
     ·
      skip
      have hhd : hdB tx ((norm p).getD k T0) = [] := by
       have h8 : ab ((norm p).getD k T0).c = ((1 : Int) : Rat) := by simpa using hc45
       have h9 := Zaw hc52
       unfold hdB; rw [if_neg]; simp only [Bool.or_eq_true, Bool.not_eq_true', decide_eq_false_iff_not, decide_eq_true_eq, not_or, Decidable.not_not]; exact ⟨h8, h9⟩
      refine yp rfl (.pickF rfl rfl) (yn ?_); intro a w h
      refine cW ?_
      refine Zj h rfl ?_
      refine wp_skip ?_
      exact ⟨b5, none, 0, [], by rw [hhd]; exact GrowO.nil _ _, by rw [hhd]; exact (h.drop (by repeat (first | exact List.Sublist.refl _ | apply List.Sublist.cons))).sub sA⟩
     have hhd : hdB tx ((norm p).getD k T0) = [] ++ [tx (ab ((norm p).getD k T0).c)] := by unfold hdB; rw [if_pos (by have h9 := Zbf hc52; simp only [Bool.or_eq_true, decide_eq_true_eq]; exact Or.inr h9)]; rfl
     refine yp rfl (.pickF rfl rfl) (yn ?_); intro a w h
    all_goals
     refine cW ?_
     refine Zq h rfl ?_
     refine gC h (zr (zm rfl (zd rfl mr isAgg44 sizeOf44 Zh ?_))); clear h; intro a w h
     refine Zi (Qb h (vs := [_]) rfl call55 (hT _ hmem) (by intro R hR; simp [hR]) dd ?_); clear h; intro a w h
     refine gL h (zB [(_, _)] rfl (Zcz _) fun b57 => ?_); clear h; intro a w h
     refine Zi (Gd (σr := [(b8, bV (Jo (ab ((norm p).getD k T0).c)) 44), (b5, bV (Zp ((norm p).getD k T0)) 117)]) h rfl rfl (List.Perm.refl _) (GrowO.nil _ _ : GrowO 1 9 (.slice none 0 0) 0 (List.map encs []) []) runUnderlying132 runUnderlying132 typeInfo9 sizeOf9 zeroValue9 rfl dd dd rfl rfl dd (by show 16 * (2 * ((([] : List ByteArray)).length + 1) + 192) ≤ 281474976710656; omega) dd ?_); clear h
     intro v58 o58 a w hG58 h
     obtain ⟨ad58, c58, rfl⟩ := hG58.is
     have hLn58 : (0 : Nat) + 1 = (([] : List ByteArray) ++ [tx (ab ((norm p).getD k T0).c)]).length := lA
     rw [hLn58] at h hG58
     replace hG58 : GrowO 1 9 (.slice ad58 (([] : List ByteArray) ++ [tx (ab ((norm p).getD k T0).c)]).length c58) (([] : List ByteArray) ++ [tx (ab ((norm p).getD k T0).c)]).length (List.map encs (([] : List ByteArray) ++ [tx (ab ((norm p).getD k T0).c)])) o58 := by rw [List.map_append]; exact hG58
     refine gL h (za rfl (zn ?_)); clear h; intro a w h
     exact ⟨b5, ad58, c58, o58, by rw [hhd]; exact hG58, by rw [hhd]; exact ((h.perm (Qbn (List.Perm.refl _)).symm).drop (by repeat (first | exact List.Sublist.refl _ | apply List.Sublist.cons))).sub sA⟩
   ·
    skip
    clear h
    rintro a w ⟨b5, ad7, c7, o7, hG7, h⟩
    refine gC h (yD Za [0, 1, 2, 3, 6, 7, 4, 5, 8, 9, 10, 11, 12] (Zd kk) (ym rfl rfl (ym rfl rfl (yp rfl (.fA rfl Jz) (yd rfl rfl mr isAgg3 sizeOf3 Ke ?_))))); clear h
    refine yp rfl (.fA rfl Jy) ?_
    refine Zx5 kk ?_; intro a w h
    refine Zdv [4, 7] kk dd ?_; intro i hi
    simp only [List.mem_cons, List.not_mem_nil, or_false] at hi
    rcases hi with rfl | rfl
    focus
     refine Zvg h (vs := [_, _]) rfl rfl call85 (Zmg ⟨#[120]⟩ ((norm p).getD k T0).i oo (Nat.le_refl 1)) ss dd ?_; clear h; rintro v63 Ψ63 a w ⟨ad63, c63, rfl, rfl⟩ h
     refine Zdv [5, 7] kk dd ?_; intro i hi
     simp only [List.mem_cons, List.not_mem_nil, or_false] at hi
     rcases hi with rfl | rfl
     focus
      refine Zfk (o := o7) h rfl rfl hG7 rfl mm runUnderlying132 runUnderlying132 typeInfo9 sizeOf9 zeroValue9 rfl dd dd (by rw [List.length_map, Nat.mul_one]) (Zyb _) (by show 16 * _ ≤ 281474976710656; omega) dd ?_; clear h; intro v64 o64 a w hG64 h; obtain ⟨ad64, c64, rfl⟩ := hG64.is
      have e64 : (hdB tx ((norm p).getD k T0)).length + (Zb2 ⟨#[120]⟩ ((norm p).getD k T0).i).length = (hdB tx ((norm p).getD k T0) ++ Zb2 ⟨#[120]⟩ ((norm p).getD k T0).i).length := (List.length_append ..).symm
      rw [e64] at h
      rw [e64, ← List.map_append] at hG64
      refine Zdv [7] kk dd ?_; intro i hi
      simp only [List.mem_cons, List.not_mem_nil, or_false] at hi
      rcases hi with rfl
      refine Zot h rfl rfl mr isAgg3 sizeOf3 Vk dd ?_; clear h; intro a h
     rotate_left
     focus
      refine Zot h rfl rfl mr isAgg3 sizeOf3 Vk dd ?_; clear h; intro a h
      refine Zdv [5] kk dd ?_; intro i hi
      simp only [List.mem_cons, List.not_mem_nil, or_false] at hi
      rcases hi with rfl
      refine Zfk (o := o7) h rfl rfl hG7 rfl mm runUnderlying132 runUnderlying132 typeInfo9 sizeOf9 zeroValue9 rfl dd dd (by rw [List.length_map, Nat.mul_one]) (Zyb _) (by show 16 * _ ≤ 281474976710656; omega) dd ?_; clear h; intro v64 o64 a w hG64 h; obtain ⟨ad64, c64, rfl⟩ := hG64.is
      have e64 : (hdB tx ((norm p).getD k T0)).length + (Zb2 ⟨#[120]⟩ ((norm p).getD k T0).i).length = (hdB tx ((norm p).getD k T0) ++ Zb2 ⟨#[120]⟩ ((norm p).getD k T0).i).length := (List.length_append ..).symm
      rw [e64] at h
      rw [e64, ← List.map_append] at hG64
    rotate_left 2
    focus
     refine Zot h rfl rfl mr isAgg3 sizeOf3 Vk dd ?_; clear h; intro a h
     refine Zdv [4] kk dd ?_; intro i hi
     simp only [List.mem_cons, List.not_mem_nil, or_false] at hi
     rcases hi with rfl
     refine Zvg h (vs := [_, _]) rfl rfl call85 (Zmg ⟨#[120]⟩ ((norm p).getD k T0).i oo (Nat.le_refl 1)) ss dd ?_; clear h; rintro v63 Ψ63 a w ⟨ad63, c63, rfl, rfl⟩ h
     refine Zdv [5] kk dd ?_; intro i hi
     simp only [List.mem_cons, List.not_mem_nil, or_false] at hi
     rcases hi with rfl
     refine Zfk (o := o7) h rfl rfl hG7 rfl mm runUnderlying132 runUnderlying132 typeInfo9 sizeOf9 zeroValue9 rfl dd dd (by rw [List.length_map, Nat.mul_one]) (Zyb _) (by show 16 * _ ≤ 281474976710656; omega) dd ?_; clear h; intro v64 o64 a w hG64 h; obtain ⟨ad64, c64, rfl⟩ := hG64.is
     have e64 : (hdB tx ((norm p).getD k T0)).length + (Zb2 ⟨#[120]⟩ ((norm p).getD k T0).i).length = (hdB tx ((norm p).getD k T0) ++ Zb2 ⟨#[120]⟩ ((norm p).getD k T0).i).length := (List.length_append ..).symm
     rw [e64] at h
     rw [e64, ← List.map_append] at hG64
    all_goals
     refine Zdv [8] kk dd ?_; intro i hi
     simp only [List.mem_cons, List.not_mem_nil, or_false] at hi
     rcases hi with rfl
     refine Zvg h (vs := [_, _]) rfl rfl call85 (Zmg ⟨#[121]⟩ ((norm p).getD k T0).j oo (Nat.le_refl 1)) ss dd ?_; clear h; rintro v67 Ψ67 a w ⟨ad67, c67, rfl, rfl⟩ h
     refine Zdv [9] kk dd ?_; intro i hi
     simp only [List.mem_cons, List.not_mem_nil, or_false] at hi
     rcases hi with rfl
     refine Zfk (o := o64) h rfl rfl hG64 rfl mm runUnderlying132 runUnderlying132 typeInfo9 sizeOf9 zeroValue9 rfl dd dd (by rw [List.length_map, Nat.mul_one]) (Zyb _) (by show 16 * _ ≤ 281474976710656; omega) dd ?_; clear h; intro v68 o68 a w hG68 h; obtain ⟨ad68, c68, rfl⟩ := hG68.is
     have e68 : (hdB tx ((norm p).getD k T0) ++ Zb2 ⟨#[120]⟩ ((norm p).getD k T0).i).length + (Zb2 ⟨#[121]⟩ ((norm p).getD k T0).j).length = ((hdB tx ((norm p).getD k T0) ++ Zb2 ⟨#[120]⟩ ((norm p).getD k T0).i) ++ Zb2 ⟨#[121]⟩ ((norm p).getD k T0).j).length := (List.length_append ..).symm
     rw [e68] at h
     rw [e68, ← List.map_append] at hG68
     replace h := h.shareO' hS hG68
     refine Zdv [10] kk dd ?_; intro i hi
     simp only [List.mem_cons, List.not_mem_nil, or_false] at hi
     rcases hi with rfl
     refine Qe5 h (vs := [_, _]) rfl rfl call84 (Qez ad68 c68 ((hdB tx ((norm p).getD k T0) ++ Zb2 ⟨#[120]⟩ ((norm p).getD k T0).i) ++ Zb2 ⟨#[121]⟩ ((norm p).getD k T0).j) ⟨#[42]⟩ hG68.cap oo M hps2 hjm) ss dd ?_; clear h; intro a w h
     refine Zdv [11] kk dd ?_; intro i hi
     simp only [List.mem_cons, List.not_mem_nil, or_false] at hi
     rcases hi with rfl
     refine Qdi h rfl (.binOp rfl rfl (fun _ => Je _ _ _ _ _ (by unfold tmTx at hts2; omega))) dd ?_; clear h; intro a h
     refine Zdv [12] kk dd ?_; intro i hi
     simp only [List.mem_cons, List.not_mem_nil, or_false] at hi
     rcases hi with rfl
     refine Qdi h rfl (.assign rfl) dd ?_; clear h; intro a h
     refine x_end kk ?_
     refine cW ?_
     refine gC h (zr (zp (.pN (k + 1) (.add rfl rfl)) (zm rfl (zn ?_)))); clear h; intro a w h
     have htk : txP tx (norm p) (k + 1) = Qbl (txP tx (norm p) k) (decide (k = 0)) (decide (((norm p).getD k T0).c.num.sign < 0)) ++ Zj5 ((hdB tx ((norm p).getD k T0) ++ Zb2 ⟨#[120]⟩ ((norm p).getD k T0).i) ++ Zb2 ⟨#[121]⟩ ((norm p).getD k T0).j) ⟨#[42]⟩ := rfl
     rw [← htk] at h
     exact ⟨k + 1, ⟨oo, ((h.drop sl).factsSub (by exact (fun _ hR => by repeat (first | exact hR | apply List.Mem.tail)))).sub sA⟩, oo⟩
 ·
  skip
  have heq_k : (norm p).length = k := dF hc13
  subst heq_k
  refine gC h (ze (zs (zS (zm rfl (zp (.binOp rfl rfl (fun _ => Xf _ _ _ _ _)) (zn ?_)))))); clear h; intro a w h
  refine cW ?_
  refine Zb h rfl (fun hc73 => ?_) (fun hc73 => ?_)
  ·
   skip
   refine gC h (zS (za rfl (zn (zt ?_)))); clear h; intro a w h
   refine Jm h (Zc h rfl (.tmp rfl)) ?_
   unfold Zkc; rw [if_pos (by simpa using hc73)]
  ·
   skip
   refine gC h (zk (zS (zm rfl (za rfl (zn (zt ?_)))))); clear h; intro a w h
   refine Jm h (Zc h rfl (.tmp rfl)) ?_
   unfold Zkc; rw [if_neg (by simpa using hc73)]
end
section
theorem Zfi (x0_0 : Value) (x0_1 : Value) (x0_2 : Value) (x0_3 : Value) (x0_4 : Value) (x0_5 : Value) (x0_6 : Value) (x1_0 : Value) (x1_1 : Value) (x1_2 : Value) (x1_3 : Value) (x1_4 : Value) (x1_5 : Value) (x1_6 : Value) (w : World) : (Instr.buildSlice 46 2 [(0, .agg #[x0_0, x0_1, x0_2, x0_3, x0_4, x0_5, x0_6]), (1, .agg #[x1_0, x1_1, x1_2, x1_3, x1_4, x1_5, x1_6])].toArray).run Tryz.prog w = .ok (.slice (some ⟨w.heap.size, 0, none⟩) 2 2) (w.alloc (.cells #[x0_0, x0_1, x0_2, x0_3, x0_4, x0_5, x0_6, x1_0, x1_1, x1_2, x1_3, x1_4, x1_5, x1_6] 117 (0, 0))) := by
 simp [go_sem]
theorem Zhj {P : Program} {f : FuncId} {vs : List Value} {Φ : List Zy} {A B : List Tm} (e : A = B) (h : Ctr P f vs Φ (fun v Ψ => ∃ ad' c', v = .slice ad' (A).length c' ∧ Ψ = [Row ad' (cellsOf Zp (A))])) : Ctr P f vs Φ (fun v Ψ => ∃ ad' c', v = .slice ad' (B).length c' ∧ Ψ = [Row ad' (cellsOf Zp (B))]) := by subst e; exact h
theorem Zqf {P : Program} {f : FuncId} {vs : List Value} {Φ : List Zy} {A B : List Tm} (e : A = B) (h : Ctr P f vs Φ (fun v Ψ => ∃ ad' c', v = .tuple #[.slice ad' (A).length c', .int .i64 0] ∧ Ψ = [Row ad' (cellsOf Zp (A))])) : Ctr P f vs Φ (fun v Ψ => ∃ ad' c', v = .tuple #[.slice ad' (B).length c', .int .i64 0] ∧ Ψ = [Row ad' (cellsOf Zp (B))]) := by subst e; exact h
def OkE (E : List Tm) : Prop := Nrm E ∧ E.length ≤ 20 ∧ ∀ t ∈ E, t.i + t.j ≤ 12 ∧ t.c.num.natAbs < 100 ∧ t.c.den < 100
instance (E : List Tm) : Decidable (OkE E) := by unfold OkE Nrm; infer_instance
theorem Zf1 {x : Rat} (h1 : x.num.natAbs < 100) (h2 : x.den < 100) : Qc x ≤ 4 := by
 have a := Gp (n := x.num.natAbs) oo
 have b := Gp (n := x.den) oo
 unfold Qc Zat; omega
theorem OkE.pq {E : List Tm} (h : OkE E) : Pq 12 101 E := (Pq.raw (fun t ht => (h.2.2 t ht).1) (k := 4) (fun t ht => Zf1 (h.2.2 t ht).2.1 (h.2.2 t ht).2.2) h.2.1 dd).mono (Nat.le_refl _) dd
theorem pqE {d : Nat} {E : List Tm} (h : OkE E) (hd : ∀ t ∈ E, t.i + t.j ≤ d) : Pq d 101 E := ⟨hd, h.pq.len, h.pq.hgt⟩
theorem Zbe {l E : List Tm} (hE : OkE E) (h : ∀ x y, evP l x y = evP E x y) : norm l = E := by rw [← Xr hE.1]; exact Yt h
theorem Qh3 (E : List Tm) (s : ByteArray) (ad : Option Addr) (c : Nat) (h : OkE E) (hs : Zkc Zfn E = s) : Vj Tryz.prog 21 [.slice ad E.length c] [Row ad (cellsOf Zp E)] (.string s) := by
 have hn := Xr h.1
 have h1 := Ztp E ad c 12 101 100 [] Zfn h.pq dd dd (fun t ht => by
  rw [hn] at ht
  obtain ⟨_, h2, h3⟩ := h.2.2 t ht
  exact Qae (ab t.c) (by rw [(Zbn t.c).1]; simpa using h2) (by rw [(Zbn t.c).2]; exact h3)) (fun t _ => by have := Ztx (ab t.c); omega) dd dd
 rw [hn, hs] at h1
 exact h1
def hf : Rat := ((-1 : Int) : Rat) / ((2 : Int) : Rat)
theorem hf_eq : ((-1 : Int) : Rat) / ((2 : Int) : Rat) = hf := rfl
theorem hf_K : Qc hf ≤ 4 := Zf1 kD kD
attribute [local irreducible] hf
def xL : List Tm := [(⟨1, 0, ((1 : Int) : Rat)⟩ : Tm)]
def yL : List Tm := [(⟨0, 1, ((1 : Int) : Rat)⟩ : Tm)]
theorem C_xL : Ctr Tryz.prog 46 [] [] (fun v Ψ => ∃ ad' c', v = .slice ad' xL.length c' ∧ Ψ = [Row ad' (cellsOf Zp xL)]) := by
 refine fn_intro func46 rfl ntmps46 nb ?_
 intro S w0 a hS h
 refine gC h (zS (za rfl (zn (zS (zv [_] rfl call45 (Vw _ oo oo) ?_)))))
 have hl1 := Zw (1) oo oo
 refine zp (.build [(_, _), (_, _)] rfl (Zg8 _ _ _ _ _ _)) (zB [(_, _)] rfl (Zef _ _ _ _ _ _ _) fun b3 => ?_); intro a w h
 replace h := h.shareAll hS (cellsOf Zp xL) rfl
 refine gL h (za rfl (zn (zt ?_))); clear h; intro a w h
 exact Qg (Ψ := [Row _ (cellsOf Zp xL)]) h (Zc h rfl (.tmp rfl)) ⟨_, 1, rfl, rfl⟩ ss
theorem C_yL : Ctr Tryz.prog 47 [] [] (fun v Ψ => ∃ ad' c', v = .slice ad' yL.length c' ∧ Ψ = [Row ad' (cellsOf Zp yL)]) := by
 refine fn_intro func47 rfl ntmps47 nb ?_
 intro S w0 a hS h
 refine gC h (zS (za rfl (zn (zS (zv [_] rfl call45 (Vw _ oo oo) ?_)))))
 have hl1 := Zw (1) oo oo
 refine zp (.build [(_, _), (_, _)] rfl (Zg7 _ _ _ _ _ _)) (zB [(_, _)] rfl (Zef _ _ _ _ _ _ _) fun b3 => ?_); intro a w h
 replace h := h.shareAll hS (cellsOf Zp yL) rfl
 refine gL h (za rfl (zn (zt ?_))); clear h; intro a w h
 exact Qg (Ψ := [Row _ (cellsOf Zp yL)]) h (Zc h rfl (.tmp rfl)) ⟨_, 1, rfl, rfl⟩ ss
theorem Zbp (n : Int) (i j : Nat) (h0 : -9223372036854775808 ≤ n) (h1 : n ≤ 9223372036854775807) : Ys Tryz.prog 72 [.int .i64 n, .int .i64 ((i : Nat) : Int), .int .i64 ((j : Nat) : Int)] (Zp ⟨i, j, ((n : Int) : Rat)⟩) := by
 refine fn_intro func72 rfl ntmps72 nb ?_
 intro S w0 a hS h
 refine gC h (zS (zz Gz fun b6 => zn (zS (zm rfl (zm rfl (zm rfl (zv [_] rfl call45 (Vw _ oo oo) ?_)))))))
 have hl10 := Zw (n) oo oo
 refine zp (.build [(_, _), (_, _), (_, _)] rfl (Vc _ _ _ _ _ _ _)) (zt' rfl rfl Xp uu sizeOf117 rfl nb rfl ?_); intro a w h
 refine wpList_nil (wp_ret ?_)
 refine Jm h (Zc h rfl (.cell rfl mr isAgg117 sizeOf117 Vu)) ?_
 rfl
theorem Zzq (n i j : Int) (h0 : -9223372036854775808 ≤ n) (h1 : n ≤ 9223372036854775807) : Ys Tryz.prog 72 [.int .i64 n, .int .i64 i, .int .i64 j] (Qy ⟨i, j, ((n : Int) : Rat)⟩) := by
 refine fn_intro func72 rfl ntmps72 nb ?_
 intro S w0 a hS h
 refine gC h (zS (zz Gz fun b6 => zn (zS (zm rfl (zm rfl (zm rfl (zv [_] rfl call45 (Vw _ oo oo) ?_)))))))
 have hl10 := Zw (n) oo oo
 refine zp (.build [(_, _), (_, _), (_, _)] rfl (Vc _ _ _ _ _ _ _)) (zt' rfl rfl Xp uu sizeOf117 rfl nb rfl ?_); intro a w h
 refine wpList_nil (wp_ret ?_)
 refine Jm h (Zc h rfl (.cell rfl mr isAgg117 sizeOf117 Vu)) ?_
 rfl
theorem C_read (l : List Tm) (ad : Option Addr) (c K : Nat) (hd : DL 12 l) (hK : KL K l) (hs : l.length * (K + 1) ≤ 50000000000) (hn : l.length ≤ 100000) : Ctr Tryz.prog 71 [.slice ad l.length c] [Row ad (cellsOf Zp l)] (fun v Ψ => ∃ ad' c', v = .slice ad' (norm l).length c' ∧ Ψ = [Row ad' (cellsOf Zp (norm l))]) := by
 refine fn_intro func71 rfl ntmps71 nb ?_
 intro S w0 a hS h
 refine gC h (zS (za rfl (zn (zS (zm rfl (zf [_] rfl call19 (Ztf l _ _ K hd hK hs hn) ?_)))))); rintro v7 Ψ7 ⟨ad7, c7, rfl, rfl⟩
 refine zm rfl (zp (.eX rfl) (zp (.eX rfl) (za rfl (za rfl (zn (zS (zm rfl (za rfl (zn (zt ?_)))))))))); intro a w h
 refine Qg (Ψ := [Row _ (cellsOf Zp (norm l))]) h (Zc h rfl (.tmp rfl)) ⟨_, _, rfl, rfl⟩ ss
def rA : List Tm := [(⟨0, 0, hf⟩ : Tm), (⟨1, 0, ((1 : Int) : Rat)⟩ : Tm), (⟨1, 2, ((-3 : Int) : Rat)⟩ : Tm)]
theorem rA_s : DL 12 rA ∧ (∀ t ∈ rA, t.c.num.natAbs < 100 ∧ t.c.den < 100) ∧ rA.length ≤ 3 := by unfold rA DL; decide +kernel
def rB : List Tm := [(⟨2, 0, ((1 : Int) : Rat)⟩ : Tm), (⟨1, 1, ((2 : Int) : Rat)⟩ : Tm), (⟨2, 0, ((-1 : Int) : Rat)⟩ : Tm)]
theorem rB_s : DL 12 rB ∧ (∀ t ∈ rB, t.c.num.natAbs < 100 ∧ t.c.den < 100) ∧ rB.length ≤ 3 := by unfold rB DL; decide +kernel
def r7 : List Tm := [(⟨7, 0, ((1 : Int) : Rat)⟩ : Tm)]
theorem r7_s : DL 12 r7 ∧ (∀ t ∈ r7, t.c.num.natAbs < 100 ∧ t.c.den < 100) ∧ r7.length ≤ 3 := by unfold r7 DL; decide +kernel
def r6 : List Tm := [(⟨0, 6, ((1 : Int) : Rat)⟩ : Tm)]
theorem r6_s : DL 12 r6 ∧ (∀ t ∈ r6, t.c.num.natAbs < 100 ∧ t.c.den < 100) ∧ r6.length ≤ 3 := by unfold r6 DL; decide +kernel
def rH : List Tm := [(⟨1, 1, ((1 : Int) : Rat)⟩ : Tm)]
theorem rH_s : DL 12 rH ∧ (∀ t ∈ rH, t.c.num.natAbs < 100 ∧ t.c.den < 100) ∧ rH.length ≤ 3 := by unfold rH DL; decide +kernel
def rG : List Tm := [(⟨2, 1, ((1 : Int) : Rat)⟩ : Tm)]
theorem rG_s : DL 12 rG ∧ (∀ t ∈ rG, t.c.num.natAbs < 100 ∧ t.c.den < 100) ∧ rG.length ≤ 3 := by unfold rG DL; decide +kernel
def rL : List Tm := [(⟨3, 0, ((1 : Int) : Rat)⟩ : Tm), (⟨0, 2, ((1 : Int) : Rat)⟩ : Tm)]
theorem rL_s : DL 12 rL ∧ (∀ t ∈ rL, t.c.num.natAbs < 100 ∧ t.c.den < 100) ∧ rL.length ≤ 3 := by unfold rL DL; decide +kernel
def rK : List Tm := [(⟨0, 0, ((5 : Int) : Rat)⟩ : Tm), (⟨1, 0, ((1 : Int) : Rat)⟩ : Tm)]
theorem rK_s : DL 12 rK ∧ (∀ t ∈ rK, t.c.num.natAbs < 100 ∧ t.c.den < 100) ∧ rK.length ≤ 3 := by unfold rK DL; decide +kernel
def rM : List Tm := [(⟨2, 0, ((1 : Int) : Rat)⟩ : Tm), (⟨0, 1, ((1 : Int) : Rat)⟩ : Tm)]
theorem rM_s : DL 12 rM ∧ (∀ t ∈ rM, t.c.num.natAbs < 100 ∧ t.c.den < 100) ∧ rM.length ≤ 3 := by unfold rM DL; decide +kernel
def eA : List Tm := [(⟨0, 0, hf⟩ : Tm), (⟨1, 0, ((1 : Int) : Rat)⟩ : Tm), (⟨1, 2, ((-3 : Int) : Rat)⟩ : Tm)]
theorem eA_ok : OkE eA := by unfold eA; decide +kernel
def eB : List Tm := [(⟨1, 1, ((2 : Int) : Rat)⟩ : Tm)]
theorem Qch : OkE eB := by unfold eB; decide +kernel
def e7 : List Tm := [(⟨7, 0, ((1 : Int) : Rat)⟩ : Tm)]
theorem Qci : OkE e7 := by unfold e7; decide +kernel
def e6 : List Tm := [(⟨0, 6, ((1 : Int) : Rat)⟩ : Tm)]
theorem Qcj : OkE e6 := by unfold e6; decide +kernel
def eH0 : List Tm := [(⟨1, 1, ((1 : Int) : Rat)⟩ : Tm)]
theorem Qd6 : OkE eH0 := by unfold eH0; decide +kernel
def eG : List Tm := [(⟨2, 1, ((1 : Int) : Rat)⟩ : Tm)]
theorem eG_ok : OkE eG := by unfold eG; decide +kernel
def eL0 : List Tm := [(⟨0, 2, ((1 : Int) : Rat)⟩ : Tm), (⟨3, 0, ((1 : Int) : Rat)⟩ : Tm)]
theorem Qd5 : OkE eL0 := by unfold eL0; decide +kernel
def eK : List Tm := [(⟨0, 0, ((5 : Int) : Rat)⟩ : Tm), (⟨1, 0, ((1 : Int) : Rat)⟩ : Tm)]
theorem Qgs : OkE eK := by unfold eK; decide +kernel
def eM : List Tm := [(⟨0, 1, ((1 : Int) : Rat)⟩ : Tm), (⟨2, 0, ((1 : Int) : Rat)⟩ : Tm)]
theorem eM_ok : OkE eM := by unfold eM; decide +kernel
def eS : List Tm := [(⟨1, 0, ((1 : Int) : Rat)⟩ : Tm), (⟨0, 1, ((1 : Int) : Rat)⟩ : Tm)]
theorem eS_ok : OkE eS := by unfold eS; decide +kernel
def eD : List Tm := [(⟨1, 0, ((1 : Int) : Rat)⟩ : Tm), (⟨0, 1, ((-1 : Int) : Rat)⟩ : Tm)]
theorem eD_ok : OkE eD := by unfold eD; decide +kernel
def eC : List Tm := [(⟨2, 0, ((1 : Int) : Rat)⟩ : Tm), (⟨0, 2, ((-1 : Int) : Rat)⟩ : Tm)]
theorem eC_ok : OkE eC := by unfold eC; decide +kernel
def e1 : List Tm := [(⟨0, 0, ((1 : Int) : Rat)⟩ : Tm)]
theorem e1_ok : OkE e1 := by unfold e1; decide +kernel
def eP : List Tm := [(⟨0, 0, ((1 : Int) : Rat)⟩ : Tm), (⟨1, 0, ((1 : Int) : Rat)⟩ : Tm)]
theorem eP_ok : OkE eP := by unfold eP; decide +kernel
def eQ : List Tm := [(⟨0, 0, ((1 : Int) : Rat)⟩ : Tm), (⟨1, 0, ((3 : Int) : Rat)⟩ : Tm), (⟨2, 0, ((3 : Int) : Rat)⟩ : Tm), (⟨3, 0, ((1 : Int) : Rat)⟩ : Tm)]
theorem eQ_ok : OkE eQ := by unfold eQ; decide +kernel
def eH : List Tm := [(⟨0, 1, ((2 : Int) : Rat)⟩ : Tm), (⟨1, 1, ((1 : Int) : Rat)⟩ : Tm)]
theorem eH_ok : OkE eH := by unfold eH; decide +kernel
def eL : List Tm := [(⟨0, 0, ((2 : Int) : Rat)⟩ : Tm), (⟨1, 0, ((6 : Int) : Rat)⟩ : Tm)]
theorem eL_ok : OkE eL := by unfold eL; decide +kernel
theorem Zd0 (l E : List Tm) {ad : Option Addr} {c : Nat} (hs : DL 12 l ∧ (∀ t ∈ l, t.c.num.natAbs < 100 ∧ t.c.den < 100) ∧ l.length ≤ 3) (he : norm l = E) : Ctr Tryz.prog 71 [.slice ad l.length c] [Row ad (cellsOf Zp l)] (fun v Ψ => ∃ ad' c', v = .slice ad' (E).length c' ∧ Ψ = [Row ad' (cellsOf Zp (E))]) :=
 Zhj he (C_read l ad c 4 hs.1 (fun t ht => Zf1 (hs.2.1 t ht).1 (hs.2.1 t ht).2) (by have := hs.2.2; omega) (by have := hs.2.2; omega))
theorem of_to (l E : List Tm) {ad : Option Addr} {c : Nat} (hs : DL 12 l ∧ (∀ t ∈ l, t.c.num.natAbs < 100 ∧ t.c.den < 100) ∧ l.length ≤ 3) (he : norm l = E) : Ctr Tryz.prog 19 [.slice ad l.length c] [Row ad (cellsOf Zp l)] (fun v Ψ => ∃ ad' c', v = .tuple #[.slice ad' (E).length c', .int .i64 0] ∧ Ψ = [Row ad' (cellsOf Zp (E))]) :=
 Zqf he (Ztf l ad c 4 hs.1 (fun t ht => Zf1 (hs.2.1 t ht).1 (hs.2.1 t ht).2) (by have := hs.2.2; omega) (by have := hs.2.2; omega))
theorem i1 : ((1 : Int) : Rat) = 1 := rfl
theorem i0 : ((0 : Int) : Rat) = 0 := rfl
theorem i2 : ((2 : Int) : Rat) = 2 := rfl
theorem i3 : ((3 : Int) : Rat) = 3 := rfl
theorem i5 : ((5 : Int) : Rat) = 5 := rfl
theorem i6 : ((6 : Int) : Rat) = 6 := rfl
theorem im1 : ((-1 : Int) : Rat) = -1 := rfl
theorem nB : norm rB = eB := Zbe Qch (fun x y => by
 simp only [rB, eB, evP, lin, i1, i2, im1]; grind)
theorem nL0 : norm rL = eL0 := Zbe Qd5 (fun x y => by simp only [rL, eL0, evP, lin, i1]; grind)
theorem nM : norm rM = eM := Zbe eM_ok (fun x y => by simp only [rM, eM, evP, lin, i1]; grind)
theorem nS : norm (xL ++ yL) = eS := Zbe eS_ok (fun x y => by simp only [Xa]; simp only [xL, yL, eS, evP, lin, i1]; grind)
theorem nD : norm (xL ++ Zs ((-1 : Int) : Rat) yL) = eD := Zbe eD_ok (fun x y => by simp only [Xa, Gw]; simp only [xL, yL, eD, evP, lin, i1, im1]; grind)
theorem nC : norm (Jg eS eD) = eC := Zbe eC_ok (fun x y => by simp only [Zag]; simp only [eS, eD, eC, evP, lin, i1, im1, Rat.pow_succ, Rat.pow_zero]; grind)
theorem nP : norm (xL ++ e1) = eP := Zbe eP_ok (fun x y => by simp only [Xa]; simp only [xL, e1, eP, evP, lin, i1]; grind)
theorem nQ : norm (Yb eP 3) = eQ := Zbe eQ_ok (fun x y => by simp only [Zcc]; simp only [eP, eQ, evP, lin, i1, i3, Rat.pow_succ, Rat.pow_zero]; grind)
theorem nH : norm (shL eH0 ((0 : Int) : Rat) ((1 : Int) : Rat) ((0 : Int) : Rat) ((1 : Int) : Rat) ((0 : Int) : Rat) ((2 : Int) : Rat)) = eH := Zbe eH_ok (fun x y => by
 simp only [Zjd]; simp only [eH0, eH, evP, lin, i1, i0, i2, Rat.pow_succ, Rat.pow_zero]; grind)
theorem nG : norm (dxL eG) = eB := Zbe Qch (fun x y => by simp only [eG, eB, dxL, List.map, evP, lin, i1, i2, Za1]; simp only [show ((2 : Nat) - 1) = 1 from rfl, show (((2 : Nat) : Int) : Rat) = 2 from rfl]; grind)
theorem nL : norm (norm (dxL (norm (dxL eL0))) ++ norm (dyL (norm (dyL eL0)))) = eL := Zbe eL_ok (fun x y => by
 simp only [Xa, Kk, Zcv, Zcu]
 simp only [eL0, eL, dxL, dyL, List.map, evP, lin, i1, i2, i6]
 simp only [show ((2 : Nat) - 1) = 1 from rfl, show ((3 : Nat) - 1) = 2 from rfl, show ((1 : Nat) - 1) = 0 from rfl, show ((0 : Nat) - 1) = 0 from rfl, show (((2 : Nat) : Int) : Rat) = 2 from rfl, show (((3 : Nat) : Int) : Rat) = 3 from rfl, Za1, Xo, Rat.pow_succ, Rat.pow_zero]; grind)
theorem nA : norm rA = eA := Xr eA_ok.1
theorem n7 : norm r7 = e7 := Xr Qci.1
theorem n6 : norm r6 = e6 := Xr Qcj.1
theorem nH0 : norm rH = eH0 := Xr Qd6.1
theorem nG0 : norm rG = eG := Xr eG_ok.1
theorem nK : norm rK = eK := Xr Qgs.1
theorem n1 : norm [(⟨0, 0, ((1 : Int) : Rat)⟩ : Tm)] = e1 := Xr e1_ok.1
theorem teA : Zkc Zfn eA = ⟨#[45, 49, 47, 50, 32, 43, 32, 120, 32, 45, 32, 51, 42, 120, 42, 121, 94, 50]⟩ := by decide +kernel
theorem teB : Zkc Zfn eB = ⟨#[50, 42, 120, 42, 121]⟩ := by decide +kernel
theorem teC : Zkc Zfn eC = ⟨#[120, 94, 50, 32, 45, 32, 121, 94, 50]⟩ := by decide +kernel
theorem teQ : Zkc Zfn eQ = ⟨#[49, 32, 43, 32, 51, 42, 120, 32, 43, 32, 51, 42, 120, 94, 50, 32, 43, 32, 120, 94, 51]⟩ := by decide +kernel
theorem teL : Zkc Zfn eL = ⟨#[50, 32, 43, 32, 54, 42, 120]⟩ := by decide +kernel
theorem teH : Zkc Zfn eH = ⟨#[50, 42, 121, 32, 43, 32, 120, 42, 121]⟩ := by decide +kernel
theorem Qe6 : OkE xL := by unfold xL; decide +kernel
theorem yL_ok : OkE yL := by unfold yL; decide +kernel
set_option maxHeartbeats 1000000 in
theorem Yk : Ys Tryz.prog 18 [] (.bool true) := by
 refine fn_intro func18 rfl ntmps18 nb ?_
 intro S w0 a hS h
 replace h := h.derive (R := Row none (cellsOf Zp [])) (fun X _ hne => absurd rfl hne)
 refine gC h (zS (za rfl (zn (zS (zv [_, _] rfl call60 (C_QOf _ _ oo oo oo oo oo) ?_))))); clear h; intro a w h
 have hl21 := Zlj ((-1)) (2) oo oo oo oo
 rw [hf_eq] at h
 refine gL h (zm rfl (zp (.eX rfl) (zp (.eX rfl) (zz Vd fun b1 => zt' rfl rfl Qi uu sizeOf44 rfl nb rfl ?_))))
 refine za rfl (zn (zs (yD Za [0, 1, 2, 3, 4, 5, 6] (Zd kk) (yd rfl rfl mr isAgg44 sizeOf44 Zh ?_))))
 refine yp rfl (.build [(_, _)] rfl (Zh9 _ _ _ _ _)) (yv [_, _, _] rfl rfl call72 (Zbp 1 1 0 dd dd) (yv [_, _, _] rfl rfl call72 (Zbp (-3) 1 2 dd dd) ?_))
 refine Xy hS rfl kk [(_, _), (_, _), (_, _)] rfl (Za2 _ _ _ _ _ _ _ _ _ _ _ _ _ _ _ _ _ _ _ _ _) (cellsOf Zp rA) rfl dd ?_; intro b28
 refine yf [_] rfl rfl call71 (Zd0 rA eA rA_s nA) ?_; rintro v29 Ψ29 ⟨ad29, c29, rfl, rfl⟩
 refine yp rfl (.assign rfl) (yn (zS (zv [_, _, _] rfl call72 (Zbp 1 2 0 dd dd) (zv [_, _, _] rfl call72 (Zbp 2 1 1 dd dd) (zv [_, _, _] rfl call72 (Zbp (-1) 2 0 dd dd) (zB [(_, _), (_, _), (_, _)] rfl (Za2 _ _ _ _ _ _ _ _ _ _ _ _ _ _ _ _ _ _ _ _ _) fun b34 => ?_)))))); intro a w h
 replace h := h.shareAll hS (cellsOf Zp rB) rfl
 refine gL h (zf [_] rfl call19 (of_to rB eB rB_s nB) ?_); rintro v35 Ψ35 ⟨ad35, c35, rfl, rfl⟩
 refine zm rfl (zp (.eX rfl) (zp (.eX rfl) (za rfl (za rfl (zn (zS (zv [_, _, _] rfl call72 (Zzq 1 (-1) 0 dd dd) (zB [(_, _)] rfl (Gy _ _ _ _ _ _ _) fun b40 => ?_)))))))); intro a w h
 replace h := h.shareAll hS (cellsOf Qy ([(⟨-1, 0, ((1 : Int) : Rat)⟩ : Tz)])) rfl
 refine gL h (zw [_] rfl call19 (Zib [(⟨-1, 0, ((1 : Int) : Rat)⟩ : Tz)] _ _ dd kD) (zm rfl (zp (.eX rfl) (zp (.eX rfl) (za rfl (za rfl (zn (zS (zv [_, _, _] rfl call72 (Zzq 0 (13) 0 dd dd) (zB [(_, _)] rfl (Gy _ _ _ _ _ _ _) fun b46 => ?_)))))))))); clear h; intro a w h
 replace h := h.shareAll hS (cellsOf Qy ([(⟨13, 0, ((0 : Int) : Rat)⟩ : Tz)])) rfl
 refine gL h (zw [_] rfl call19 (Zib [(⟨13, 0, ((0 : Int) : Rat)⟩ : Tz)] _ _ dd kD) (zm rfl (zp (.eX rfl) (zp (.eX rfl) (za rfl (za rfl (zn (zS (zf [] rfl call46 (C_xL) ?_))))))))); rintro v51 Ψ51 ⟨ad51, c51, rfl, rfl⟩
 refine zf [] rfl call47 (C_yL) ?_; rintro v52 Ψ52 ⟨ad52, c52, rfl, rfl⟩
 refine zf [_, _] rfl call73 (Zhj nS (Yv xL yL _ _ _ _ 1 1 101 101 (pqE (d := 1) Qe6 (by unfold xL; decide)) (pqE (d := 1) yL_ok (by unfold yL; decide)) dd dd dd dd)) ?_; rintro v53 Ψ53 ⟨ad53, c53, rfl, rfl⟩
 refine zf [] rfl call46 (C_xL) ?_; rintro v54 Ψ54 ⟨ad54, c54, rfl, rfl⟩
 refine zf [] rfl call47 (C_yL) ?_; rintro v55 Ψ55 ⟨ad55, c55, rfl, rfl⟩
 refine zf [_, _] rfl call74 (Zhj nD (Zjw xL yL _ _ _ _ 1 1 101 101 (pqE (d := 1) Qe6 (by unfold xL; decide)) (pqE (d := 1) yL_ok (by unfold yL; decide)) dd dd dd dd)) ?_; rintro v56 Ψ56 ⟨ad56, c56, rfl, rfl⟩
 refine zf [_, _] rfl call48 (Zqf nC (Km eS eD _ _ _ _ 1 1 101 101 (pqE (d := 1) eS_ok (by unfold eS; decide)) (pqE (d := 1) eD_ok (by unfold eD; decide)) dd dd dd)) ?_; rintro v57 Ψ57 ⟨ad57, c57, rfl, rfl⟩
 refine zm rfl (zp (.eX rfl) (zp (.eX rfl) (za rfl (za rfl (zn (zS (zf [] rfl call46 (C_xL) ?_))))))); rintro v61 Ψ61 ⟨ad61, c61, rfl, rfl⟩
 refine zv [_] rfl call45 (Vw _ oo oo) ?_
 have hl62 := Zw (1) oo oo
 refine zf [_] rfl call44 (Zhj n1 (Ze1 ((1 : Int) : Rat) 2 (Zw 1 dd dd) dd)) ?_; rintro v63 Ψ63 ⟨ad63, c63, rfl, rfl⟩
 refine zf [_, _] rfl call73 (Zhj nP (Yv xL e1 _ _ _ _ 1 1 101 101 (pqE (d := 1) Qe6 (by unfold xL; decide)) (pqE (d := 1) e1_ok (by unfold e1; decide)) dd dd dd dd)) ?_; rintro v64 Ψ64 ⟨ad64, c64, rfl, rfl⟩
 refine zf [_, _] rfl call75 (Zqf nQ (Qaf eP _ _ 1 101 (pqE (d := 1) eP_ok (by unfold eP; decide)) 3 dd dd dd dd dd)) ?_; rintro v65 Ψ65 ⟨ad65, c65, rfl, rfl⟩
 refine zm rfl (zp (.eX rfl) (zp (.eX rfl) (za rfl (za rfl (zn (zS (zv [_, _, _] rfl call72 (Zbp 1 7 0 dd dd) (zB [(_, _)] rfl (Gy _ _ _ _ _ _ _) fun b70 => ?_)))))))); intro a w h
 replace h := h.shareAll hS (cellsOf Zp r7) rfl
 refine gL h (zf [_] rfl call71 (Zd0 r7 e7 r7_s n7) ?_); rintro v71 Ψ71 ⟨ad71, c71, rfl, rfl⟩
 refine zv [_, _, _] rfl call72 (Zbp 1 0 6 dd dd) (zB [(_, _)] rfl (Gy _ _ _ _ _ _ _) fun b73 => ?_); intro a w h
 replace h := h.shareAll hS (cellsOf Zp r6) rfl
 refine gL h (zf [_] rfl call71 (Zd0 r6 e6 r6_s n6) ?_); rintro v74 Ψ74 ⟨ad74, c74, rfl, rfl⟩
 refine zw [_, _] rfl call48 (Zog e7 e6 _ _ _ _ 7 6 101 101 (pqE (d := 7) Qci (by unfold e7; decide)) (pqE (d := 6) Qcj (by unfold e6; decide)) dd dd dd dd (by rw [Xr Qci.1]; unfold e7; simp) (by rw [Xr Qcj.1]; unfold e6; simp) (by rw [Xr Qci.1, Xr Qcj.1]; decide)) (zm rfl (zp (.eX rfl) (zp (.eX rfl) (za rfl (za rfl (zn (zs (zS (zm rfl (zw [_] rfl call21 (Qh3 eA _ _ _ eA_ok teA) (zp (.binOp rfl rfl (fun _ => Kn _ _ _ _ _)) ?_))))))))))); intro a w h
 refine Zg h (fun hc80 h => (absurd hc80 kD)) (fun hc80 h => ?_)
 refine gL h (zm rfl (zq 81 rfl rfl (.move rfl) ?_)); clear h; intro a w h
 refine Ze 81 h rfl rfl (Qb h (vs := [_]) rfl call21 (Qh3 eB _ _ _ Qch teB) ss dd ?_); clear h; intro a w h
 refine gL h (zq 81 rfl rfl (.binOp rfl rfl (fun _ => Kn _ _ _ _ _)) ?_); clear h; intro a w h
 refine Zg h (fun hc84 h => (absurd hc84 kD)) (fun hc84 h => ?_)
 refine gL h (zp (.pickF rfl rfl) (zm rfl (zq 86 rfl rfl (.move rfl) (zq 86 rfl rfl (.neq rfl rfl) ?_)))); clear h; intro a w h
 refine Zg h (fun hc88 h => (absurd hc88 kD)) (fun hc88 h => ?_)
 refine gL h (zp (.pickF rfl rfl) (zm rfl (zq 90 rfl rfl (.move rfl) (zq 90 rfl rfl (.neq rfl rfl) ?_)))); clear h; intro a w h
 refine Zg h (fun hc92 h => (absurd hc92 kD)) (fun hc92 h => ?_)
 refine gL h (zp (.pickF rfl rfl) (zm rfl (zq 94 rfl rfl (.move rfl) (zq 94 rfl rfl (.neq rfl rfl) ?_)))); clear h; intro a w h
 refine Zg h (fun hc96 h => (absurd hc96 kD)) (fun hc96 h => ?_)
 refine gL h (zp (.pickF rfl rfl) (zm rfl (zq 98 rfl rfl (.move rfl) ?_))); clear h; intro a w h
 refine Ze 98 h rfl rfl (Qb h (vs := [_]) rfl call21 (Qh3 eC _ _ _ eC_ok teC) ss dd ?_); clear h; intro a w h
 refine gL h (zq 98 rfl rfl (.binOp rfl rfl (fun _ => Kn _ _ _ _ _)) ?_); clear h; intro a w h
 refine Zg h (fun hc101 h => (absurd hc101 kD)) (fun hc101 h => ?_)
 refine gL h (zp (.pickF rfl rfl) (zm rfl (zq 103 rfl rfl (.move rfl) (zq 103 rfl rfl (.neq rfl rfl) ?_)))); clear h; intro a w h
 refine Zg h (fun hc105 h => (absurd hc105 kD)) (fun hc105 h => ?_)
 refine gL h (zp (.pickF rfl rfl) (zm rfl (zq 107 rfl rfl (.move rfl) ?_))); clear h; intro a w h
 refine Ze 107 h rfl rfl (Qb h (vs := [_]) rfl call21 (Qh3 eQ _ _ _ eQ_ok teQ) ss dd ?_); clear h; intro a w h
 refine gL h (zq 107 rfl rfl (.binOp rfl rfl (fun _ => Kn _ _ _ _ _)) ?_); clear h; intro a w h
 refine Zg h (fun hc110 h => (absurd hc110 kD)) (fun hc110 h => ?_)
 refine gL h (zp (.pickF rfl rfl) (zm rfl (zq 112 rfl rfl (.move rfl) (zq 112 rfl rfl (.neq rfl rfl) ?_)))); clear h; intro a w h
 refine Zg h (fun hc114 h => (absurd hc114 kD)) (fun hc114 h => ?_)
 refine gL h (zp (.pickF rfl rfl) (zm rfl (zq 116 rfl rfl (.move rfl) (zq 116 rfl rfl (.neq rfl rfl) ?_)))); clear h; intro a w h
 refine Zg h (fun hc118 h => (absurd hc118 kD)) (fun hc118 h => ?_)
 refine gL h (zp (.pickF rfl rfl) (zn ?_)); clear h; intro a w h
 refine cW ?_
 refine Zj h rfl ?_
 refine gC h (zk (zS (zv [_] rfl call45 (Vw _ oo oo) ?_)))
 have hl120 := Zw (1) oo oo
 refine zv [_] rfl call45 (Vw _ oo oo) ?_
 have hl121 := Zw (0) oo oo
 refine zv [_] rfl call45 (Vw _ oo oo) ?_
 have hl122 := Zw (2) oo oo
 refine zz Vd fun b16 => zz Vd fun b17 => zz Vd fun b18 => zt' rfl rfl Qi uu sizeOf44 rfl nb rfl ?_
 refine zt' rfl rfl Qi uu sizeOf44 rfl nb rfl ?_; intro a w h
 refine gL h (zt' rfl rfl Qi uu sizeOf44 rfl nb rfl ?_)
 refine zn (zs (yD Za [3, 4, 5, 6, 7, 8, 0, 1, 2, 9, 10] (Zd kk) (yd rfl rfl mr isAgg44 sizeOf44 Zh ?_)))
 refine yd rfl rfl mr isAgg44 sizeOf44 Zh ?_
 refine yd rfl rfl mr isAgg44 sizeOf44 Zh ?_
 refine yd rfl rfl mr isAgg44 sizeOf44 Zh ?_
 refine yd rfl rfl mr isAgg44 sizeOf44 Zh ?_
 refine yd rfl rfl mr isAgg44 sizeOf44 Zh ?_
 refine yv [_, _, _] rfl rfl call72 (Zbp 1 1 1 dd dd) ?_
 refine Xy hS rfl kk [(_, _)] rfl (Gy _ _ _ _ _ _ _) (cellsOf Zp rH) rfl dd ?_; intro b124
 refine yf [_] rfl rfl call71 (Zd0 rH eH0 rH_s nH0) ?_; rintro v125 Ψ125 ⟨ad125, c125, rfl, rfl⟩
 refine yf [_, _, _, _, _, _, _] rfl rfl call58 (Zhj nH (Zei eH0 _ _ 2 101 (pqE (d := 2) Qd6 (by unfold eH0; decide)) ((0 : Int) : Rat) ((1 : Int) : Rat) ((0 : Int) : Rat) ((1 : Int) : Rat) ((0 : Int) : Rat) ((2 : Int) : Rat) 4 dd oo oo oo oo oo oo dd dd)) ?_; rintro v132 Ψ132 ⟨ad132, c132, rfl, rfl⟩
 refine yp rfl (.assign rfl) (yn (zs (zs (yD Za [0, 1, 2, 3, 4, 5, 6, 7, 8, 9, 10, 11, 12, 13, 14, 15, 16, 17, 18, 19, 20, 21, 22, 23, 24, 30, 25, 26, 27, 28, 29, 31, 32] (Zd kk) (yv [_, _, _] rfl rfl call72 (Zbp 1 2 1 dd dd) ?_)))))
 refine Xy hS rfl kk [(_, _)] rfl (Gy _ _ _ _ _ _ _) (cellsOf Zp rG) rfl dd ?_; intro b134
 refine yf [_] rfl rfl call71 (Zd0 rG eG rG_s nG0) ?_; rintro v135 Ψ135 ⟨ad135, c135, rfl, rfl⟩
 refine yf [_] rfl rfl call76 (Zhj nG (Zdl eG _ _ 3 101 (pqE (d := 3) eG_ok (by unfold eG; decide)) dd dd)) ?_; rintro v136 Ψ136 ⟨ad136, c136, rfl, rfl⟩
 refine yw [_] rfl rfl call21 (Qh3 eB _ _ _ Qch teB) (yp rfl (.binOp rfl rfl (fun _ => Kn _ _ _ _ _)) ?_)
 refine Zt (fun hc138  => (absurd hc138 kD)) (fun hc138  => ?_)
 refine ym rfl rfl ?_
 refine Jp rfl rfl rfl kk (vs := [_, _, _]) rfl call72 (Zbp 1 3 0 dd dd) dd ?_
 refine Jp rfl rfl rfl kk (vs := [_, _, _]) rfl call72 (Zbp 1 0 2 dd dd) dd ?_
 refine Ze5 hS rfl rfl rfl kk [(_, _), (_, _)] rfl (Zfi _ _ _ _ _ _ _ _ _ _ _ _ _ _) (cellsOf Zp rL) rfl dd ?_; intro b142
 refine Qo rfl rfl rfl kk (vs := [_]) rfl call71 (Zd0 rL eL0 rL_s nL0) ss dd ?_; rintro v143 Ψ143 ⟨ad143, c143, rfl, rfl⟩
 refine Qo rfl rfl rfl kk (vs := [_]) rfl call77 (Zhj nL (Zj1 eL0 _ _ 3 101 (pqE (d := 3) Qd5 (by unfold eL0; decide)) dd dd)) ss dd ?_; rintro v144 Ψ144 ⟨ad144, c144, rfl, rfl⟩
 refine Qp rfl rfl rfl kk (vs := [_]) rfl call21 (Qh3 eL _ _ _ eL_ok teL) ss dd ?_
 refine yq rfl rfl rfl (.binOp rfl rfl (fun _ => Kn _ _ _ _ _)) ?_
 refine Zt (fun hc146  => (absurd hc146 kD)) (fun hc146  => ?_)
 refine yp rfl (.pickF rfl rfl) (ym rfl rfl (yq rfl rfl rfl (.move rfl) ?_))
 refine Qp rfl rfl rfl kk (vs := [_]) rfl call21 (Qh3 eH _ _ _ eH_ok teH) ss dd ?_
 refine yq rfl rfl rfl (.binOp rfl rfl (fun _ => Kn _ _ _ _ _)) ?_
 refine Zt (fun hc151  => (absurd hc151 kD)) (fun hc151  => ?_)
 refine yp rfl (.pickF rfl rfl) (ym rfl rfl ?_)
 refine Qp rfl rfl rfl kk (vs := [_]) rfl call23 (Ya [] _ _ 1 1 (Pq.nil 1) dd dd) ss dd ?_
 refine yq rfl rfl rfl (.neq rfl rfl) ?_
 refine Zt (fun hc155  => (by exfalso; rw [Qw] at hc155; exact absurd hc155 dd)) (fun hc155  => ?_)
 refine yp rfl (.pickF rfl rfl) (ym rfl rfl (yg rfl rfl rfl rfl mr isAgg44 sizeOf44 Zh ?_))
 refine Jp rfl rfl rfl kk (vs := [_, _, _]) rfl call72 (Zbp 5 0 0 dd dd) dd ?_
 refine Jp rfl rfl rfl kk (vs := [_, _, _]) rfl call72 (Zbp 1 1 0 dd dd) dd ?_
 refine Ze5 hS rfl rfl rfl kk [(_, _), (_, _)] rfl (Zfi _ _ _ _ _ _ _ _ _ _ _ _ _ _) (cellsOf Zp rK) rfl dd ?_; intro b160
 refine Qo rfl rfl rfl kk (vs := [_]) rfl call71 (Zd0 rK eK rK_s nK) ss dd ?_; rintro v161 Ψ161 ⟨ad161, c161, rfl, rfl⟩
 refine Qp rfl rfl rfl kk (vs := [_, _, _]) rfl call28 (Qe0 eK _ _ 1 101 (pqE (d := 1) Qgs (by unfold eK; decide)) dd dd 1 0) ss dd ?_
 refine yq rfl rfl rfl (.binOp rfl rfl (fun _ => Zgp _ _ (cfT (norm eK) 1 0) (((1 : Int) : Rat)) _)) ?_
 refine Zt (fun hc164  => (by exfalso; rw [Xr Qgs.1] at hc164; exact absurd hc164 kD)) (fun hc164  => ?_)
 refine yp rfl (.pickF rfl rfl) (yn ?_); intro a w h
 refine cW ?_
 refine Zj h rfl ?_
 refine gC h (zk (zs (yD Za [4, 0, 1, 2, 3, 5, 6, 7, 8, 9, 10] (Zd kk) (yd rfl rfl mr isAgg44 sizeOf44 Zh ?_)))); clear h
 refine yv [_, _, _] rfl rfl call72 (Zbp 1 2 0 dd dd) (yv [_, _, _] rfl rfl call72 (Zbp 1 0 1 dd dd) ?_)
 refine Xy hS rfl kk [(_, _), (_, _)] rfl (Zfi _ _ _ _ _ _ _ _ _ _ _ _ _ _) (cellsOf Zp rM) rfl dd ?_; intro b168
 refine yf [_] rfl rfl call71 (Zd0 rM eM rM_s nM) ?_; rintro v169 Ψ169 ⟨ad169, c169, rfl, rfl⟩
 refine yv [_] rfl rfl call79 (Qex (hf) (by have := hf_K; omega)) (yv [_] rfl rfl call45 (Vw _ oo oo) ?_)
 have hl172 := Zw (3) oo oo
 refine yw [_, _, _] rfl rfl call78 (Qdh eM _ _ 2 101 4 (pqE (d := 2) eM_ok (by unfold eM; decide)) dd (ab (hf)) ((3 : Int) : Rat) (Zf1 kD kD) (Nat.le_trans (Zw 3 dd dd) dd) dd dd) (yv [_] rfl rfl call55 (Qae _ kD kD) (yp rfl (.binOp rfl rfl (fun _ => Xf _ _ _ _ _)) ?_))
 refine Zt (fun hc175  => ?_) (fun hc175  => (absurd hc175 kD))
 refine yp rfl (.assign rfl) (yn (zt ?_)); intro a w h
 exact Zbw h
end
section
theorem clN {p : Prop} [Decidable p] (h : p) (hc : (!decide p) = true) : False := by rw [decide_eq_true h] at hc; cases hc
theorem clE {p : Prop} [Decidable p] (h : p) (hc : decide p = false) : False := absurd h (of_decide_eq_false hc)
theorem Pq.sub' {da db Ka Kb : Nat} {a b : List Tm} (ha : Pq da Ka a) (hb : Pq db Kb b) (h1 : da ≤ 12) (h2 : db ≤ 12) : Pq (max da db) (Ka + Kb + 5) (norm (a ++ Zs ((-1 : Int) : Rat) b)) :=
 Pq.of_norm (Zjv (ha.deg.mono (Nat.le_max_left _ _)) (Zju _ (hb.deg.mono (Nat.le_max_right _ _)))) ((ha.hgt.append (hb.hgt.scale (Zw (-1) dd dd))).mono oo) oo
theorem Zza (x : Int) (w : World) (ty : TypeId) (cs : Array Bool) : (Go.builtin .max #[3, 3] ty cs #[.int .i64 (-1), .int .i64 x]).run Tryz.prog w = .ok (.value (.int .i64 (max (-1) x))) w := by
 simp [go_sem] <;> (try rw [Int.max_def]) <;> (try split) <;> (try split) <;> (try omega)
theorem c5_Pq : Pq 12 18 (norm [(⟨0, 0, ((5 : Int) : Rat)⟩ : Tm)]) := (Pq.raw (d := 0) (k := 2) (m := 3) (fun t ht => by rw [List.mem_singleton] at ht; subst ht; decide) (fun t ht => by rw [List.mem_singleton] at ht; subst ht; exact Zw 5 dd dd) dd dd).nrm dd |>.mono dd dd
theorem Zq8 {a : List Tm} (h : a = []) (hc : (((a.length : Nat) : Int) != 0) = true) : False := by subst h; exact absurd hc dd
theorem Zol (l m : List Ti) (ad ad2 : Option Addr) (c c2 : Nat) (hokl : ∀ t ∈ l, OkT t) (hokm : ∀ t ∈ m, OkT t) (hln : l.length ≤ 9223372036854775807) (hmn : m.length ≤ 9223372036854775807) : Vj Tryz.prog 40 [.slice ad l.length c, .slice ad2 m.length c2] [Row ad (cellsOf Jq l), Row ad2 (cellsOf Jq m)] (.bool true) := by
 refine fn_intro func40 rfl ntmps40 nb ?_
 intro S w0 a hS h
 refine gC h (zS (za rfl (zn (zs (zS (zm rfl (zp (.builtin [_] rfl (Qz _ _ _)) (zp (.gtr rfl rfl) ?_)))))))); clear h; intro a w h
 refine Zg h (fun hc17 h => ?_) (fun hc17 h => ?_)
 focus
  refine gL h (zm rfl (zo 18 rfl rfl rfl (zo 18 rfl rfl rfl (zo 18 rfl rfl rfl (zp (.pickT rfl rfl) (zn ?_)))))); clear h; intro a w h
 rotate_left
 focus
  refine gL h (zm rfl (zq 18 rfl rfl (.move rfl) (zq 18 rfl rfl (.builtin [_] rfl (Qz _ _ _)) (zq 18 rfl rfl (.gtr rfl rfl) ?_)))); clear h; intro a w h
  refine Zg h (fun hc21 h => ?_) (fun hc21 h => ?_)
  rotate_left
  ·
   skip
   have hll : l.length ≤ 8 := dF hc17
   have hml : m.length ≤ 8 := dF hc21
   have hgx := Zd2 (d := 5) hokl hll dd dd
   have hgy := Zd2 (d := 5) hokm hml dd dd
   refine gL h (zp (.pickF rfl rfl) (zn ?_)); clear h; intro a w h
   refine cW ?_
   refine Zj h rfl ?_
   refine gC h (zk (zS (zm rfl (zf [_, _] rfl call96 (Zhm l _ _ 5 8 (by assumption) oo oo) ?_)))); rintro v25 Ψ25 ⟨ad25, c25, rfl, rfl⟩
   refine zm rfl (zf [_, _] rfl call96 (Zhm m _ _ 5 8 (by assumption) oo oo) ?_); rintro v27 Ψ27 ⟨ad27, c27, rfl, rfl⟩ a w h
   obtain ⟨G, hnG⟩ : ∃ G, norm (Yl 5 l) = G := ⟨_, rfl⟩
   rw [hnG] at h hgx
   obtain ⟨H, hnH⟩ : ∃ G, norm (Yl 5 m) = G := ⟨_, rfl⟩
   rw [hnH] at h hgy
   refine gL h (za rfl (za rfl (zn (zS (zm rfl (zm rfl (zf [_, _] rfl call48 (Km G H _ _ _ _ 5 5 41 41 hgx hgy dd dd dd) ?_))))))); rintro v31 Ψ31 ⟨ad31, c31, rfl, rfl⟩
   refine zm rfl (zp (.eX rfl) (zp (.eX rfl) (za rfl (za rfl (zn (zs (zS (za rfl (zn (zb ?_)))))))))); intro a w h
   refine Zf (fun (i : Nat) a w => i ≤ 2 ∧ St 121 S w0 [(5, .slice ad25 ((G).length) c25), (6, .slice ad27 ((H).length) c27), (7, .slice ad31 ((norm (Jg G H)).length) c31), (9, nI i)] [] [Row ad31 (cellsOf Zp (norm (Jg G H))), Row ad27 (cellsOf Zp (H)), Row ad25 (cellsOf Zp (G)), Row ad (cellsOf Jq l), Row ad2 (cellsOf Jq m)] a w) (fun i => 2 - i) 0 (⟨Nat.zero_le _, by exact (h).sub sA⟩) ?_; clear h
   rintro i a w ⟨hi_i, h⟩
   refine gC h (zs (zS (zm rfl (zp (.lss rfl rfl) (zn ?_))))); clear h; intro a w h
   refine cW ?_
   refine Zb h rfl (fun hc35 => ?_) (fun hc35 => ?_)
   ·
    skip
    have hlt_i : i < 2 := dT hc35
    refine gC h (zk (zs (zb (zS (za rfl (zn (zs (zS (zm rfl (zp (.eql rfl rfl) ?_)))))))))); clear h; intro a w h
    refine Zg h (fun hc39 h => ?_) (fun hc39 h => ?_)
    focus
     refine wpList_nil ?_
     refine cW ?_
     refine Zq h rfl ?_
     refine gC h (zr (za rfl (zn (zS (zm rfl (zm rfl ?_)))))); clear h; intro a w h
     refine Zi (Yj h (fs := []) (cs := []) rfl (vs := [_]) rfl call97 (Zds (G) _ _ 5 41 hgx dd dd) ss dd ?_); clear h; rintro v43 Ψ43 a w ⟨ad43, c43, rfl, rfl⟩ h
     refine gL h (zm rfl (zf [_, _] rfl call48 (Km (norm (dyL G)) H _ _ _ _ 5 5 42 41 (hgx.dy dd) hgy dd dd dd) ?_)); rintro v45 Ψ45 ⟨ad45, c45, rfl, rfl⟩
     refine zm rfl (zp (.eX rfl) (zp (.eX rfl) (za rfl (za rfl (zn (zS (zm rfl (zm rfl (zm rfl ?_))))))))); intro a w h
     refine Zi (Yj h (fs := []) (cs := []) rfl (vs := [_]) rfl call97 (Zds (H) _ _ 5 41 hgy dd dd) ss dd ?_); clear h; rintro v52 Ψ52 a w ⟨ad52, c52, rfl, rfl⟩ h
     refine gL h (zf [_, _] rfl call48 (Km G (norm (dyL H)) _ _ _ _ 5 5 41 42 hgx (hgy.dy dd) dd dd dd) ?_); rintro v53 Ψ53 ⟨ad53, c53, rfl, rfl⟩
     refine zm rfl (zp (.eX rfl) (zp (.eX rfl) (za rfl (za rfl (zn (zS (zm rfl (zm rfl ?_)))))))); intro a w h
     refine Zi (Yj h (fs := []) (cs := []) rfl (vs := [_]) rfl call97 (Zds (norm (Jg G H)) _ _ 10 82 (hgx.mul hgy dd) dd dd) ss dd ?_); clear h; rintro v58 Ψ58 a w ⟨ad58, c58, rfl, rfl⟩ h
     refine gL h (zm rfl (zm rfl (zf [_, _] rfl call73 (Yv (norm (Jg (norm (dyL G)) H)) (norm (Jg G (norm (dyL H)))) _ _ _ _ 10 10 83 83 ((hgx.dy dd).mul hgy dd) (hgx.mul (hgy.dy dd) dd) dd dd dd dd) ?_))); rintro v61 Ψ61 ⟨ad61, c61, rfl, rfl⟩
     refine zw [_, _] rfl call25 (Vs (norm (dyL (norm (Jg G H)))) (norm (norm (Jg (norm (dyL G)) H) ++ norm (Jg G (norm (dyL H))))) _ _ _ _ 10 10 83 168 ((hgx.mul hgy dd).dy dd) (((hgx.dy dd).mul hgy dd).add (hgx.mul (hgy.dy dd) dd) dd dd) dd dd dd dd) (zp (.unOp rfl (Xe _)) ?_); intro a w h
     refine Zg h (fun hc63 h => (by exfalso; exact clN (Zt5 G H) hc63)) (fun hc63 h => ?_)
     refine gL h (zm rfl (zq 64 rfl rfl (.move rfl) (zq 64 rfl rfl (.move rfl) (zq 64 rfl rfl (.move rfl) ?_)))); clear h; intro a w h
     refine Ze 64 h rfl rfl (Xj h (vs := [_, _]) rfl call73 (Yv G H _ _ _ _ 5 5 41 41 hgx hgy dd dd dd dd) ss dd ?_); clear h; rintro v68 Ψ68 a w ⟨ad68, c68, rfl, rfl⟩ h
     refine Ze 64 h rfl rfl (Yj h (fs := []) (cs := []) rfl (vs := [_]) rfl call97 (Zds (norm (G ++ H)) _ _ 5 84 (hgx.add hgy dd dd) dd dd) ss dd ?_); clear h; rintro v69 Ψ69 a w ⟨ad69, c69, rfl, rfl⟩ h
     refine gL h (zq 64 rfl rfl (.move rfl) (zq 64 rfl rfl (.move rfl) ?_)); clear h; intro a w h
     refine Ze 64 h rfl rfl (Yj h (fs := []) (cs := []) rfl (vs := [_]) rfl call97 (Zds (G) _ _ 5 41 hgx dd dd) ss dd ?_); clear h; rintro v72 Ψ72 a w ⟨ad72, c72, rfl, rfl⟩ h
     refine gL h (zq 64 rfl rfl (.move rfl) (zq 64 rfl rfl (.move rfl) ?_)); clear h; intro a w h
     refine Ze 64 h rfl rfl (Yj h (fs := []) (cs := []) rfl (vs := [_]) rfl call97 (Zds (H) _ _ 5 41 hgy dd dd) ss dd ?_); clear h; rintro v75 Ψ75 a w ⟨ad75, c75, rfl, rfl⟩ h
     refine Ze 64 h rfl rfl (Xj h (vs := [_, _]) rfl call73 (Yv (norm (dyL G)) (norm (dyL H)) _ _ _ _ 5 5 42 42 (hgx.dy dd) (hgy.dy dd) dd dd dd dd) ss dd ?_); clear h; rintro v76 Ψ76 a w ⟨ad76, c76, rfl, rfl⟩ h
     refine Ze 64 h rfl rfl (Qb h (vs := [_, _]) rfl call25 (Vs (norm (dyL (norm (G ++ H)))) (norm (norm (dyL G) ++ norm (dyL H))) _ _ _ _ 5 5 85 86 ((hgx.add hgy dd dd).dy dd) ((hgx.dy dd).add (hgy.dy dd) dd dd) dd dd dd dd) ss dd ?_); clear h; intro a w h
     refine gL h (zq 64 rfl rfl (.unOp rfl (Xe _)) ?_); clear h; intro a w h
     refine Zg h (fun hc78 h => (by exfalso; exact clN (Zt7 G H) hc78)) (fun hc78 h => ?_)
     refine gL h (zp (.pickF rfl rfl) (zm rfl (zq 80 rfl rfl (.move rfl) (zq 80 rfl rfl (.move rfl) ?_)))); clear h; intro a w h
     refine Ze 80 h rfl rfl (Yj h (fs := []) (cs := []) rfl (vs := [_]) rfl call97 (Zds (G) _ _ 5 41 hgx dd dd) ss dd ?_); clear h; rintro v83 Ψ83 a w ⟨ad83, c83, rfl, rfl⟩ h
     refine Ze 80 h rfl rfl (Qb h (vs := [_]) rfl call23 (Ya (norm (dyL G)) _ _ 5 42 (hgx.dy dd) dd dd) ss dd ?_); clear h; intro a w h
     refine gL h (zq 80 rfl rfl (.move rfl) ?_); clear h; intro a w h
     refine Ze 80 h rfl rfl (Qb h (vs := [_]) rfl call23 (Ya G _ _ 5 41 hgx dd dd) ss dd ?_); clear h; intro a w h
     have hdg := Zcd (norm G)
     have hdl := Gx (Qm hgx.deg)
     refine gL h (zq 80 rfl rfl (.sub rfl rfl) (zq 80 rfl rfl (.builtin [_, _] rfl (fun w ty cs => Zza _ w ty cs)) (zq 80 rfl rfl (.gtr rfl rfl) ?_))); clear h; intro a w h
     refine Zg h (fun hc89 h => (by exfalso; have h8 := of_decide_eq_true hc89; have h9 := Qgz G; rw [Zco] at h8; omega)) (fun hc89 h => ?_)
     refine gL h (zp (.pickF rfl rfl) (zm rfl (zq 91 rfl rfl (.move rfl) ?_))); clear h; intro a w h
     refine Ze 91 h rfl rfl (Yr h (vs := [_]) rfl call45 (Vw _ oo oo) dd ?_); clear h; intro a w h
     have hl93 := Zw (5) oo oo
     refine Ze 91 h rfl rfl (Xj h (vs := [_]) rfl call44 (Ze1 ((5 : Int) : Rat) 2 (Zw 5 dd dd) dd) ss dd ?_); clear h; rintro v94 Ψ94 a w ⟨ad94, c94, rfl, rfl⟩ h
     refine Ze 91 h rfl rfl (Yj h (fs := []) (cs := []) rfl (vs := [_]) rfl call97 (Zds (norm [(⟨0, 0, ((5 : Int) : Rat)⟩ : Tm)]) _ _ 12 18 c5_Pq dd dd) ss dd ?_); clear h; rintro v95 Ψ95 a w ⟨ad95, c95, rfl, rfl⟩ h
     refine gL h (zq 91 rfl rfl (.builtin [_] rfl (Zk _ _ _)) (zq 91 rfl rfl (.neq rfl rfl) ?_)); clear h; intro a w h
     refine Zg h (fun hc97 h => (by exfalso; exact Zq8 (Qck _) hc97)) (fun hc97 h => ?_)
    rotate_left
    focus
     refine wpList_nil ?_
     refine cW ?_
     refine Zj h rfl ?_
     refine gC h (zk (zS (zm rfl (zm rfl ?_)))); clear h; intro a w h
     refine Zi (Yj h (fs := []) (cs := []) rfl (vs := [_]) rfl call76 (Zdl (G) _ _ 5 41 hgx dd dd) ss dd ?_); clear h; rintro v43 Ψ43 a w ⟨ad43, c43, rfl, rfl⟩ h
     refine gL h (zm rfl (zf [_, _] rfl call48 (Km (norm (dxL G)) H _ _ _ _ 5 5 42 41 (hgx.dx dd) hgy dd dd dd) ?_)); rintro v45 Ψ45 ⟨ad45, c45, rfl, rfl⟩
     refine zm rfl (zp (.eX rfl) (zp (.eX rfl) (za rfl (za rfl (zn (zS (zm rfl (zm rfl (zm rfl ?_))))))))); intro a w h
     refine Zi (Yj h (fs := []) (cs := []) rfl (vs := [_]) rfl call76 (Zdl (H) _ _ 5 41 hgy dd dd) ss dd ?_); clear h; rintro v52 Ψ52 a w ⟨ad52, c52, rfl, rfl⟩ h
     refine gL h (zf [_, _] rfl call48 (Km G (norm (dxL H)) _ _ _ _ 5 5 41 42 hgx (hgy.dx dd) dd dd dd) ?_); rintro v53 Ψ53 ⟨ad53, c53, rfl, rfl⟩
     refine zm rfl (zp (.eX rfl) (zp (.eX rfl) (za rfl (za rfl (zn (zS (zm rfl (zm rfl ?_)))))))); intro a w h
     refine Zi (Yj h (fs := []) (cs := []) rfl (vs := [_]) rfl call76 (Zdl (norm (Jg G H)) _ _ 10 82 (hgx.mul hgy dd) dd dd) ss dd ?_); clear h; rintro v58 Ψ58 a w ⟨ad58, c58, rfl, rfl⟩ h
     refine gL h (zm rfl (zm rfl (zf [_, _] rfl call73 (Yv (norm (Jg (norm (dxL G)) H)) (norm (Jg G (norm (dxL H)))) _ _ _ _ 10 10 83 83 ((hgx.dx dd).mul hgy dd) (hgx.mul (hgy.dx dd) dd) dd dd dd dd) ?_))); rintro v61 Ψ61 ⟨ad61, c61, rfl, rfl⟩
     refine zw [_, _] rfl call25 (Vs (norm (dxL (norm (Jg G H)))) (norm (norm (Jg (norm (dxL G)) H) ++ norm (Jg G (norm (dxL H))))) _ _ _ _ 10 10 83 168 ((hgx.mul hgy dd).dx dd) (((hgx.dx dd).mul hgy dd).add (hgx.mul (hgy.dx dd) dd) dd dd) dd dd dd dd) (zp (.unOp rfl (Xe _)) ?_); intro a w h
     refine Zg h (fun hc63 h => (by exfalso; exact clN (Zt6 G H) hc63)) (fun hc63 h => ?_)
     refine gL h (zm rfl (zq 64 rfl rfl (.move rfl) (zq 64 rfl rfl (.move rfl) (zq 64 rfl rfl (.move rfl) ?_)))); clear h; intro a w h
     refine Ze 64 h rfl rfl (Xj h (vs := [_, _]) rfl call73 (Yv G H _ _ _ _ 5 5 41 41 hgx hgy dd dd dd dd) ss dd ?_); clear h; rintro v68 Ψ68 a w ⟨ad68, c68, rfl, rfl⟩ h
     refine Ze 64 h rfl rfl (Yj h (fs := []) (cs := []) rfl (vs := [_]) rfl call76 (Zdl (norm (G ++ H)) _ _ 5 84 (hgx.add hgy dd dd) dd dd) ss dd ?_); clear h; rintro v69 Ψ69 a w ⟨ad69, c69, rfl, rfl⟩ h
     refine gL h (zq 64 rfl rfl (.move rfl) (zq 64 rfl rfl (.move rfl) ?_)); clear h; intro a w h
     refine Ze 64 h rfl rfl (Yj h (fs := []) (cs := []) rfl (vs := [_]) rfl call76 (Zdl (G) _ _ 5 41 hgx dd dd) ss dd ?_); clear h; rintro v72 Ψ72 a w ⟨ad72, c72, rfl, rfl⟩ h
     refine gL h (zq 64 rfl rfl (.move rfl) (zq 64 rfl rfl (.move rfl) ?_)); clear h; intro a w h
     refine Ze 64 h rfl rfl (Yj h (fs := []) (cs := []) rfl (vs := [_]) rfl call76 (Zdl (H) _ _ 5 41 hgy dd dd) ss dd ?_); clear h; rintro v75 Ψ75 a w ⟨ad75, c75, rfl, rfl⟩ h
     refine Ze 64 h rfl rfl (Xj h (vs := [_, _]) rfl call73 (Yv (norm (dxL G)) (norm (dxL H)) _ _ _ _ 5 5 42 42 (hgx.dx dd) (hgy.dx dd) dd dd dd dd) ss dd ?_); clear h; rintro v76 Ψ76 a w ⟨ad76, c76, rfl, rfl⟩ h
     refine Ze 64 h rfl rfl (Qb h (vs := [_, _]) rfl call25 (Vs (norm (dxL (norm (G ++ H)))) (norm (norm (dxL G) ++ norm (dxL H))) _ _ _ _ 5 5 85 86 ((hgx.add hgy dd dd).dx dd) ((hgx.dx dd).add (hgy.dx dd) dd dd) dd dd dd dd) ss dd ?_); clear h; intro a w h
     refine gL h (zq 64 rfl rfl (.unOp rfl (Xe _)) ?_); clear h; intro a w h
     refine Zg h (fun hc78 h => (by exfalso; exact clN (Zt8 G H) hc78)) (fun hc78 h => ?_)
     refine gL h (zp (.pickF rfl rfl) (zm rfl (zq 80 rfl rfl (.move rfl) (zq 80 rfl rfl (.move rfl) ?_)))); clear h; intro a w h
     refine Ze 80 h rfl rfl (Yj h (fs := []) (cs := []) rfl (vs := [_]) rfl call76 (Zdl (G) _ _ 5 41 hgx dd dd) ss dd ?_); clear h; rintro v83 Ψ83 a w ⟨ad83, c83, rfl, rfl⟩ h
     refine Ze 80 h rfl rfl (Qb h (vs := [_]) rfl call23 (Ya (norm (dxL G)) _ _ 5 42 (hgx.dx dd) dd dd) ss dd ?_); clear h; intro a w h
     refine gL h (zq 80 rfl rfl (.move rfl) ?_); clear h; intro a w h
     refine Ze 80 h rfl rfl (Qb h (vs := [_]) rfl call23 (Ya G _ _ 5 41 hgx dd dd) ss dd ?_); clear h; intro a w h
     have hdg := Zcd (norm G)
     have hdl := Gx (Qm hgx.deg)
     refine gL h (zq 80 rfl rfl (.sub rfl rfl) (zq 80 rfl rfl (.builtin [_, _] rfl (fun w ty cs => Zza _ w ty cs)) (zq 80 rfl rfl (.gtr rfl rfl) ?_))); clear h; intro a w h
     refine Zg h (fun hc89 h => (by exfalso; have h8 := of_decide_eq_true hc89; have h9 := Qg0 G; rw [Zco] at h8; omega)) (fun hc89 h => ?_)
     refine gL h (zp (.pickF rfl rfl) (zm rfl (zq 91 rfl rfl (.move rfl) ?_))); clear h; intro a w h
     refine Ze 91 h rfl rfl (Yr h (vs := [_]) rfl call45 (Vw _ oo oo) dd ?_); clear h; intro a w h
     have hl93 := Zw (5) oo oo
     refine Ze 91 h rfl rfl (Xj h (vs := [_]) rfl call44 (Ze1 ((5 : Int) : Rat) 2 (Zw 5 dd dd) dd) ss dd ?_); clear h; rintro v94 Ψ94 a w ⟨ad94, c94, rfl, rfl⟩ h
     refine Ze 91 h rfl rfl (Yj h (fs := []) (cs := []) rfl (vs := [_]) rfl call76 (Zdl (norm [(⟨0, 0, ((5 : Int) : Rat)⟩ : Tm)]) _ _ 12 18 c5_Pq dd dd) ss dd ?_); clear h; rintro v95 Ψ95 a w ⟨ad95, c95, rfl, rfl⟩ h
     refine gL h (zq 91 rfl rfl (.builtin [_] rfl (Zk _ _ _)) (zq 91 rfl rfl (.neq rfl rfl) ?_)); clear h; intro a w h
     refine Zg h (fun hc97 h => (by exfalso; exact Zq8 (Qcl _) hc97)) (fun hc97 h => ?_)
    all_goals
     refine gL h (zp (.pickF rfl rfl) (zn ?_)); clear h; intro a w h
     refine cW ?_
     refine Zj h rfl ?_
     refine gC h (zk (zr (zm rfl (zp (.pN (i + 1) (.add rfl rfl)) (za rfl (zn ?_)))))); clear h; intro a w h
     exact ⟨i + 1, ⟨oo, (h.factsSub (by simp)).sub sA⟩, oo⟩
   ·
    skip
    have heq_i : 2 = i := dF hc35
    subst heq_i
    refine gC h (ze (zS (zm rfl (zf [_] rfl call97 (Zds G _ _ 5 41 hgx dd dd) ?_)))); rintro v100 Ψ100 ⟨ad100, c100, rfl, rfl⟩
    refine zf [_] rfl call76 (Zdl (norm (dyL G)) _ _ 5 42 (hgx.dy dd) dd dd) ?_; rintro v101 Ψ101 ⟨ad101, c101, rfl, rfl⟩
    refine zm rfl (zf [_] rfl call76 (Zdl G _ _ 5 41 hgx dd dd) ?_); rintro v103 Ψ103 ⟨ad103, c103, rfl, rfl⟩
    refine zf [_] rfl call97 (Zds (norm (dxL G)) _ _ 5 42 (hgx.dx dd) dd dd) ?_; rintro v104 Ψ104 ⟨ad104, c104, rfl, rfl⟩
    refine zw [_, _] rfl call25 (Vs (norm (dxL (norm (dyL G)))) (norm (dyL (norm (dxL G)))) _ _ _ _ 5 5 43 43 ((hgx.dy dd).dx dd) ((hgx.dx dd).dy dd) dd dd dd dd) ?_; intro a w h
    refine Zg h (fun hc105 h => ?_) (fun hc105 h => (by exfalso; exact clE (Zwg G) hc105))
    refine gL h (zm rfl (zq 106 rfl rfl (.move rfl) ?_)); clear h; intro a w h
    refine Ze 106 h rfl rfl (Xj h (vs := [_]) rfl call77 (Zj1 G _ _ 5 41 hgx dd dd) ss dd ?_); clear h; rintro v108 Ψ108 a w ⟨ad108, c108, rfl, rfl⟩ h
    refine gL h (zq 106 rfl rfl (.move rfl) ?_); clear h; intro a w h
    refine Ze 106 h rfl rfl (Xj h (vs := [_]) rfl call76 (Zdl G _ _ 5 41 hgx dd dd) ss dd ?_); clear h; rintro v110 Ψ110 a w ⟨ad110, c110, rfl, rfl⟩ h
    refine Ze 106 h rfl rfl (Xj h (vs := [_]) rfl call76 (Zdl (norm (dxL G)) _ _ 5 42 (hgx.dx dd) dd dd) ss dd ?_); clear h; rintro v111 Ψ111 a w ⟨ad111, c111, rfl, rfl⟩ h
    refine gL h (zq 106 rfl rfl (.move rfl) ?_); clear h; intro a w h
    refine Ze 106 h rfl rfl (Xj h (vs := [_]) rfl call97 (Zds G _ _ 5 41 hgx dd dd) ss dd ?_); clear h; rintro v113 Ψ113 a w ⟨ad113, c113, rfl, rfl⟩ h
    refine Ze 106 h rfl rfl (Xj h (vs := [_]) rfl call97 (Zds (norm (dyL G)) _ _ 5 42 (hgx.dy dd) dd dd) ss dd ?_); clear h; rintro v114 Ψ114 a w ⟨ad114, c114, rfl, rfl⟩ h
    refine Ze 106 h rfl rfl (Xj h (vs := [_, _]) rfl call73 (Yv (norm (dxL (norm (dxL G)))) (norm (dyL (norm (dyL G)))) _ _ _ _ 5 5 43 43 ((hgx.dx dd).dx dd) ((hgx.dy dd).dy dd) dd dd dd dd) ss dd ?_); clear h; rintro v115 Ψ115 a w ⟨ad115, c115, rfl, rfl⟩ h
    refine Ze 106 h rfl rfl (Qb h (vs := [_, _]) rfl call25 (Vs (norm (norm (dxL (norm (dxL G))) ++ norm (dyL (norm (dyL G))))) (norm (norm (dxL (norm (dxL G))) ++ norm (dyL (norm (dyL G))))) _ _ _ _ 5 5 88 88 (((hgx.dx dd).dx dd).add ((hgx.dy dd).dy dd) dd dd) (((hgx.dx dd).dx dd).add ((hgx.dy dd).dy dd) dd dd) dd dd dd dd) ss dd ?_); clear h; intro a w h
    refine Zg h (fun hc116 h => ?_) (fun hc116 h => (by exfalso; exact clE rfl hc116))
    refine gL h (zp (.pickT rfl rfl) (zm rfl ?_)); clear h; intro a w h
    refine Ze 118 h rfl rfl (Yr h (vs := []) rfl call18 (Yk) dd ?_); clear h; intro a w h
    refine gL h (zp (.pickT rfl rfl) (za rfl (zn (zt ?_)))); clear h; intro a w h
    exact Zbw h
  refine gL h (zp (.pickF rfl rfl) (zn ?_)); clear h; intro a w h
 all_goals
  refine cW ?_
  refine Zq h rfl ?_
  refine gC h (zS (zv [] rfl call18 (Yk) (za rfl (zn (zt ?_))))); clear h; intro a w h
  exact Zbw h
end
section
theorem Zq9 {G H : List Tm} (h : G = [] ∨ H = []) (hc : (((norm (Jg G H)).length : Int) == 0) = false) : False := by
 have e : norm (Jg G H) = [] := by
  rcases h with h | h
  · rw [h]; exact Zxh H
  · rw [h]; exact Zxg G
 rw [e] at hc; exact absurd hc dd
theorem Qbf {G H : List Tm} (hG : Nrm G) (hH : Nrm H) (h1 : G ≠ []) (h2 : H ≠ []) : Gl (norm (norm (Jg G H))) = Gl (norm G) + Gl (norm H) := by
 rw [Zco, Xr hG, Xr hH]; exact Zsp hG hH h1 h2
theorem Zxb {l G : List Tm} (h : norm l = G) : Nrm G := h ▸ Qr l
theorem Zpz {d K Kx : Nat} {p : List Tm} (hq : Pq d K p) (hd : d ≤ 12) {x y : Rat} (hx : Qc x ≤ Kx) (hy : Qc y ≤ Kx) : Qc (evP p x y) ≤ 2 + 91 * (K + (4 + 12 * Kx) + 1) := by
 rw [← at_ev x y ((Qm hq.deg).mono hd)]
 have h1 := Ziz (φ := PWf x y) (Kf := 4 + 12 * Kx) (norm p).length (Nat.le_refl _) hq.nsz (fun t ht => Zr4 hx hy t.i t.j (by have := (Qm hq.deg) t ht; omega))
 rw [List.take_length] at h1
 have h2 := Nat.mul_le_mul_right (K + (4 + 12 * Kx) + 1) (hq.n91 hd)
 omega
set_option maxHeartbeats 1000000 in
theorem Zqr (l m k : List Ti) (ad ad2 ad3 : Option Addr) (c c2 c3 : Nat) (hokl : ∀ t ∈ l, OkT t) (hokm : ∀ t ∈ m, OkT t) (hokk : ∀ t ∈ k, OkT t) (hln : l.length ≤ 9223372036854775807) (hmn : m.length ≤ 9223372036854775807) (hkn : k.length ≤ 9223372036854775807) (qx qy : Int × Int) (hqx : OkQ qx) (hqy : OkQ qy) : Vj Tryz.prog 39 [.slice ad l.length c, .slice ad2 m.length c2, .slice ad3 k.length c3, Zjg qx, Zjg qy] [Row ad (cellsOf Jq l), Row ad2 (cellsOf Jq m), Row ad3 (cellsOf Jq k)] (.bool true) := by
 have hlx : Qc (qv qx.1 qx.2) ≤ 4 := Jn hqx
 have hly : Qc (qv qy.1 qy.2) ≤ 4 := Jn hqy
 obtain ⟨hx1, hx2, hx3, hx4⟩ := hqx
 obtain ⟨hy1, hy2, hy3, hy4⟩ := hqy
 refine fn_intro func39 rfl ntmps39 nb ?_
 intro S w0 a hS h
 refine gC h (zS (zx rfl fun b8 => zx rfl fun b9 => za rfl (zn (zs (zS (zm rfl (zp (.builtin [_] rfl (Qz _ _ _)) (zp (.gtr rfl rfl) ?_)))))))); clear h; intro a w h
 refine Zg h (fun hc34 h => ?_) (fun hc34 h => ?_)
 focus
  refine gL h (zm rfl (zo 35 rfl rfl rfl (zo 35 rfl rfl rfl (zo 35 rfl rfl rfl (zp (.pickT rfl rfl) (zm rfl (zo 40 rfl rfl rfl (zo 40 rfl rfl rfl (zo 40 rfl rfl rfl (zp (.pickT rfl rfl) (zn ?_))))))))))); clear h; intro a w h
 rotate_left
 focus
  refine gL h (zm rfl (zq 35 rfl rfl (.move rfl) (zq 35 rfl rfl (.builtin [_] rfl (Qz _ _ _)) (zq 35 rfl rfl (.gtr rfl rfl) ?_)))); clear h; intro a w h
  refine Zg h (fun hc38 h => ?_) (fun hc38 h => ?_)
  focus
   refine gL h (zp (.pickF rfl rfl) (zm rfl (zo 40 rfl rfl rfl (zo 40 rfl rfl rfl (zo 40 rfl rfl rfl (zp (.pickT rfl rfl) (zn ?_))))))); clear h; intro a w h
  rotate_left
  focus
   refine gL h (zp (.pickF rfl rfl) (zm rfl (zq 40 rfl rfl (.move rfl) (zq 40 rfl rfl (.builtin [_] rfl (Qz _ _ _)) (zq 40 rfl rfl (.gtr rfl rfl) ?_))))); clear h; intro a w h
   refine Zg h (fun hc43 h => ?_) (fun hc43 h => ?_)
   rotate_left
   ·
    skip
    have hll : l.length ≤ 8 := dF hc34
    have hml : m.length ≤ 8 := dF hc38
    have hkl : k.length ≤ 8 := dF hc43
    have hgx := Zd2 (d := 4) hokl hll dd dd
    have hgy := Zd2 (d := 4) hokm hml dd dd
    have hgz := Zd2 (d := 4) hokk hkl dd dd
    refine gL h (zp (.pickF rfl rfl) (zn ?_)); clear h; intro a w h
    refine cW ?_
    refine Zj h rfl ?_
    refine gC h (zk (zS (zm rfl (zf [_, _] rfl call96 (Zhm l _ _ 4 8 (by assumption) oo oo) ?_)))); rintro v47 Ψ47 ⟨ad47, c47, rfl, rfl⟩
    refine zm rfl (zf [_, _] rfl call96 (Zhm m _ _ 4 8 (by assumption) oo oo) ?_); rintro v49 Ψ49 ⟨ad49, c49, rfl, rfl⟩
    refine zm rfl (zf [_, _] rfl call96 (Zhm k _ _ 4 8 (by assumption) oo oo) ?_); rintro v51 Ψ51 ⟨ad51, c51, rfl, rfl⟩ a w h
    obtain ⟨G, hnG⟩ : ∃ G, norm (Yl 4 l) = G := ⟨_, rfl⟩
    rw [hnG] at h hgx
    obtain ⟨H, hnH⟩ : ∃ G, norm (Yl 4 m) = G := ⟨_, rfl⟩
    rw [hnH] at h hgy
    obtain ⟨J, hnJ⟩ : ∃ G, norm (Yl 4 k) = G := ⟨_, rfl⟩
    rw [hnJ] at h hgz
    have he1 : Qc (evP G (qv qx.1 qx.2) (qv qy.1 qy.2)) ≤ 100000 := Nat.le_trans (Zpz hgx dd hlx hly) dd
    have he2 : Qc (evP H (qv qx.1 qx.2) (qv qy.1 qy.2)) ≤ 100000 := Nat.le_trans (Zpz hgy dd hlx hly) dd
    refine gL h (za rfl (za rfl (za rfl (zn (zS (zm rfl (zm rfl (zf [_, _] rfl call48 (Km G H _ _ _ _ 4 4 41 41 hgx hgy dd dd dd) ?_)))))))); rintro v55 Ψ55 ⟨ad55, c55, rfl, rfl⟩
    refine zm rfl (zp (.eX rfl) (zp (.eX rfl) (za rfl (za rfl (zn (zS (zm rfl (zm rfl (zf [_, _] rfl call48 (Km H G _ _ _ _ 4 4 41 41 hgy hgx dd dd dd) ?_))))))))); rintro v61 Ψ61 ⟨ad61, c61, rfl, rfl⟩
    refine zm rfl (zp (.eX rfl) (zp (.eX rfl) (za rfl (za rfl (zn (zS (zm rfl (zm rfl (zf [_, _] rfl call48 (Km H J _ _ _ _ 4 4 41 41 hgy hgz dd dd dd) ?_))))))))); rintro v67 Ψ67 ⟨ad67, c67, rfl, rfl⟩
    refine zm rfl (zp (.eX rfl) (zp (.eX rfl) (za rfl (za rfl (zn (zS (zm rfl (zm rfl (zf [_, _] rfl call48 (Km G J _ _ _ _ 4 4 41 41 hgx hgz dd dd dd) ?_))))))))); rintro v73 Ψ73 ⟨ad73, c73, rfl, rfl⟩
    refine zm rfl (zp (.eX rfl) (zp (.eX rfl) (za rfl (za rfl (zn (zS (zm rfl (zm rfl (zf [_, _] rfl call48 (Km (norm (Jg G H)) J _ _ _ _ 8 4 82 41 (hgx.mul hgy dd) hgz dd dd dd) ?_))))))))); rintro v79 Ψ79 ⟨ad79, c79, rfl, rfl⟩
    refine zm rfl (zp (.eX rfl) (zp (.eX rfl) (za rfl (za rfl (zn (zS (zm rfl (zm rfl (zf [_, _] rfl call48 (Km G (norm (Jg H J)) _ _ _ _ 4 8 41 82 hgx (hgy.mul hgz dd) dd dd dd) ?_))))))))); rintro v85 Ψ85 ⟨ad85, c85, rfl, rfl⟩
    refine zm rfl (zp (.eX rfl) (zp (.eX rfl) (za rfl (za rfl (zn (zS (zm rfl (zm rfl (zm rfl (zf [_, _] rfl call73 (Yv H J _ _ _ _ 4 4 41 41 hgy hgz dd dd dd dd) ?_)))))))))); rintro v92 Ψ92 ⟨ad92, c92, rfl, rfl⟩
    refine zf [_, _] rfl call48 (Km G (norm (H ++ J)) _ _ _ _ 4 4 41 84 hgx (hgy.add hgz dd dd) dd dd dd) ?_; rintro v93 Ψ93 ⟨ad93, c93, rfl, rfl⟩
    refine zm rfl (zp (.eX rfl) (zp (.eX rfl) (za rfl (za rfl (zn (zs (zS (zm rfl (zp (.neq rfl rfl) ?_))))))))); intro a w h
    refine Zg h (fun hc97 h => (absurd hc97 dd)) (fun hc97 h => ?_)
    refine gL h (zm rfl (zq 98 rfl rfl (.move rfl) (zq 98 rfl rfl (.neq rfl rfl) ?_))); clear h; intro a w h
    refine Zg h (fun hc100 h => (absurd hc100 dd)) (fun hc100 h => ?_)
    refine gL h (zp (.pickF rfl rfl) (zm rfl (zq 102 rfl rfl (.move rfl) (zq 102 rfl rfl (.move rfl) ?_)))); clear h; intro a w h
    refine Ze 102 h rfl rfl (Qb h (vs := [_, _]) rfl call25 (Vs (norm (Jg G H)) (norm (Jg H G)) _ _ _ _ 8 8 82 82 (hgx.mul hgy dd) (hgy.mul hgx dd) dd dd dd dd) ss dd ?_); clear h; intro a w h
    refine gL h (zq 102 rfl rfl (.unOp rfl (Xe _)) ?_); clear h; intro a w h
    refine Zg h (fun hc106 h => (by exfalso; exact clN (Zwj G H) hc106)) (fun hc106 h => ?_)
    refine gL h (zp (.pickF rfl rfl) (zm rfl (zq 108 rfl rfl (.move rfl) (zq 108 rfl rfl (.move rfl) ?_)))); clear h; intro a w h
    refine Ze 108 h rfl rfl (Qb h (vs := [_, _]) rfl call25 (Vs (norm (Jg (norm (Jg G H)) J)) (norm (Jg G (norm (Jg H J)))) _ _ _ _ 12 12 123 123 ((hgx.mul hgy dd).mul hgz dd) (hgx.mul (hgy.mul hgz dd) dd) dd dd dd dd) ss dd ?_); clear h; intro a w h
    refine gL h (zq 108 rfl rfl (.unOp rfl (Xe _)) ?_); clear h; intro a w h
    refine Zg h (fun hc112 h => (by exfalso; exact clN (Zt9 G H J) hc112)) (fun hc112 h => ?_)
    refine gL h (zp (.pickF rfl rfl) (zm rfl (zq 114 rfl rfl (.move rfl) (zq 114 rfl rfl (.move rfl) (zq 114 rfl rfl (.move rfl) ?_))))); clear h; intro a w h
    refine Ze 114 h rfl rfl (Xj h (vs := [_, _]) rfl call73 (Yv (norm (Jg G H)) (norm (Jg G J)) _ _ _ _ 8 8 82 82 (hgx.mul hgy dd) (hgx.mul hgz dd) dd dd dd dd) ss dd ?_); clear h; rintro v118 Ψ118 a w ⟨ad118, c118, rfl, rfl⟩ h
    refine Ze 114 h rfl rfl (Qb h (vs := [_, _]) rfl call25 (Vs (norm (Jg G (norm (H ++ J)))) (norm (norm (Jg G H) ++ norm (Jg G J))) _ _ _ _ 8 8 125 166 (hgx.mul (hgy.add hgz dd dd) dd) ((hgx.mul hgy dd).add (hgx.mul hgz dd) dd dd) dd dd dd dd) ss dd ?_); clear h; intro a w h
    refine gL h (zq 114 rfl rfl (.unOp rfl (Xe _)) ?_); clear h; intro a w h
    refine Zg h (fun hc120 h => (by exfalso; exact clN (Zwi G H J) hc120)) (fun hc120 h => ?_)
    refine gL h (zp (.pickF rfl rfl) (zm rfl (zq 122 rfl rfl (.move rfl) (zq 122 rfl rfl (.move rfl) ?_)))); clear h; intro a w h
    refine Ze 122 h rfl rfl (Xj h (vs := [_, _]) rfl call73 (Yv G H _ _ _ _ 4 4 41 41 hgx hgy dd dd dd dd) ss dd ?_); clear h; rintro v125 Ψ125 a w ⟨ad125, c125, rfl, rfl⟩ h
    refine gL h (zq 122 rfl rfl (.move rfl) (zq 122 rfl rfl (.move rfl) ?_)); clear h; intro a w h
    refine Ze 122 h rfl rfl (Xj h (vs := [_, _]) rfl call73 (Yv H G _ _ _ _ 4 4 41 41 hgy hgx dd dd dd dd) ss dd ?_); clear h; rintro v128 Ψ128 a w ⟨ad128, c128, rfl, rfl⟩ h
    refine Ze 122 h rfl rfl (Qb h (vs := [_, _]) rfl call25 (Vs (norm (G ++ H)) (norm (H ++ G)) _ _ _ _ 4 4 84 84 (hgx.add hgy dd dd) (hgy.add hgx dd dd) dd dd dd dd) ss dd ?_); clear h; intro a w h
    refine gL h (zq 122 rfl rfl (.unOp rfl (Xe _)) ?_); clear h; intro a w h
    refine Zg h (fun hc130 h => (by exfalso; exact clN (Zwk G H) hc130)) (fun hc130 h => ?_)
    refine gL h (zp (.pickF rfl rfl) (zm rfl (zq 132 rfl rfl (.move rfl) (zq 132 rfl rfl (.move rfl) ?_)))); clear h; intro a w h
    refine Ze 132 h rfl rfl (Xj h (vs := [_, _]) rfl call73 (Yv G H _ _ _ _ 4 4 41 41 hgx hgy dd dd dd dd) ss dd ?_); clear h; rintro v135 Ψ135 a w ⟨ad135, c135, rfl, rfl⟩ h
    refine gL h (zq 132 rfl rfl (.move rfl) ?_); clear h; intro a w h
    refine Ze 132 h rfl rfl (Xj h (vs := [_, _]) rfl call74 (Zjw (norm (G ++ H)) H _ _ _ _ 4 4 84 41 (hgx.add hgy dd dd) hgy dd dd dd dd) ss dd ?_); clear h; rintro v137 Ψ137 a w ⟨ad137, c137, rfl, rfl⟩ h
    refine gL h (zq 132 rfl rfl (.move rfl) ?_); clear h; intro a w h
    refine Ze 132 h rfl rfl (Qb h (vs := [_, _]) rfl call25 (Vs (norm (norm (G ++ H) ++ Zs ((-1 : Int) : Rat) H)) G _ _ _ _ 4 4 130 41 ((hgx.add hgy dd dd).sub' hgy dd dd) hgx dd dd dd dd) ss dd ?_); clear h; intro a w h
    refine gL h (zq 132 rfl rfl (.unOp rfl (Xe _)) ?_); clear h; intro a w h
    refine Zg h (fun hc140 h => (by exfalso; exact clN (Qbe G H) hc140)) (fun hc140 h => ?_)
    refine gL h (zp (.pickF rfl rfl) (zm rfl (zq 142 rfl rfl (.move rfl) (zq 142 rfl rfl (.move rfl) ?_)))); clear h; intro a w h
    refine Ze 142 h rfl rfl (Xj h (vs := [_, _]) rfl call74 (Zjw G G _ _ _ _ 4 4 41 41 hgx hgx dd dd dd dd) ss dd ?_); clear h; rintro v145 Ψ145 a w ⟨ad145, c145, rfl, rfl⟩ h
    refine Ze 142 h rfl rfl (Qb h (vs := [_]) rfl call23 (Ya (norm (G ++ Zs ((-1 : Int) : Rat) G)) _ _ 4 87 (hgx.sub' hgx dd dd) dd dd) ss dd ?_); clear h; intro a w h
    refine gL h (zq 142 rfl rfl (.neq rfl rfl) ?_); clear h; intro a w h
    refine Zg h (fun hc147 h => (by exfalso; rw [Zwh, Qw] at hc147; exact absurd hc147 dd)) (fun hc147 h => ?_)
    refine gL h (zp (.pickF rfl rfl) (zn ?_)); clear h; intro a w h
    refine cW ?_
    refine Zj h rfl ?_
    refine gC h (zk (zs (yD Za [0, 2, 1, 3, 4, 5, 6, 7] (Xs ⟨.inl rfl, .inl rfl, .inl rfl, .inl rfl, .inr ⟨28, 44, _, _, _, rfl, rfl, by decide, _, Vd⟩, .inr ⟨29, 44, _, _, _, rfl, rfl, by decide, _, Vd⟩, .inl rfl, .inl rfl, trivial⟩) (yd rfl rfl mr isAgg25 sizeOf25 Zn ?_)))); clear h
    refine yd rfl rfl mr isAgg25 sizeOf25 Zn ?_
    refine yv [_] rfl rfl call62 (Zdr qx.1 qx.2 oo oo oo oo) ?_
    have hl150 := Ju qx.1 qx.2 oo oo oo oo
    refine yv [_] rfl rfl call62 (Zdr qy.1 qy.2 oo oo oo oo) ?_
    have hl152 := Ju qy.1 qy.2 oo oo oo oo
    refine yz rfl Vd fun b28 => yz rfl Vd fun b29 => yt rfl rfl rfl Qi uu sizeOf44 rfl nb rfl ?_
    refine yt rfl rfl rfl Qi uu sizeOf44 rfl nb rfl ?_
    refine yn (zs (yD Za [0, 1, 2, 4, 5, 6, 3, 7, 8, 9, 10, 11] (Xs ⟨.inl rfl, .inl rfl, .inl rfl, .inl rfl, .inl rfl, .inl rfl, .inl rfl, .inl rfl, .inr ⟨30, 44, _, _, _, rfl, rfl, by decide, _, Vd⟩, .inr ⟨31, 44, _, _, _, rfl, rfl, by decide, _, Vd⟩, .inl rfl, .inl rfl, trivial⟩) (ym rfl rfl (yd rfl rfl mr isAgg44 sizeOf44 Zh ?_))))
    refine yd rfl rfl mr isAgg44 sizeOf44 Zh ?_
    refine ym rfl rfl (yd rfl rfl mr isAgg44 sizeOf44 Zh ?_)
    refine yd rfl rfl mr isAgg44 sizeOf44 Zh ?_
    refine yw [_, _, _] rfl rfl call78 (Qdh G _ _ 4 41 4 hgx dd (qv qx.1 qx.2) (qv qy.1 qy.2) oo oo dd dd) (yw [_, _, _] rfl rfl call78 (Qdh H _ _ 4 41 4 hgy dd (qv qx.1 qx.2) (qv qy.1 qy.2) oo oo dd dd) (yz rfl Vd fun b30 => yz rfl Vd fun b31 => yt rfl rfl rfl Qi uu sizeOf44 rfl nb rfl ?_))
    refine yt rfl rfl rfl Qi uu sizeOf44 rfl nb rfl ?_
    refine yn (zs (zs (yD Za [0, 1, 2, 4, 5, 3, 6, 7, 8, 9, 10, 12, 13, 15, 16, 11, 14, 17, 18, 19, 20, 21, 23, 24, 26, 22, 25, 27, 28, 29] (Zd kk) (ym rfl rfl (yd rfl rfl mr isAgg44 sizeOf44 Zh ?_)))))
    refine yd rfl rfl mr isAgg44 sizeOf44 Zh ?_
    refine yd rfl rfl mr isAgg44 sizeOf44 Zh ?_
    refine yd rfl rfl mr isAgg44 sizeOf44 Zh ?_
    refine yw [_, _, _] rfl rfl call78 (Qdh (norm (Jg G H)) _ _ 8 82 4 (hgx.mul hgy dd) dd (qv qx.1 qx.2) (qv qy.1 qy.2) oo oo dd dd) (yv [_, _] rfl rfl call69 (Zaq _ _ oo oo) ?_)
    have hl167 := Qf (evP G (qv qx.1 qx.2) (qv qy.1 qy.2)) (evP H (qv qx.1 qx.2) (qv qy.1 qy.2))
    refine yp rfl (.binOp rfl rfl (fun _ => Zgp _ _ (evP (norm (Jg G H)) (qv qx.1 qx.2) (qv qy.1 qy.2)) ((evP G (qv qx.1 qx.2) (qv qy.1 qy.2)) * (evP H (qv qx.1 qx.2) (qv qy.1 qy.2))) _)) ?_
    refine Zt (fun hc168  => (by exfalso; exact clN (Zph G H _ _) hc168)) (fun hc168  => ?_)
    refine ym rfl rfl (yq rfl rfl rfl (.move rfl) (yq rfl rfl rfl (.move rfl) (yg rfl rfl rfl rfl mr isAgg44 sizeOf44 Zh ?_)))
    refine yg rfl rfl rfl rfl mr isAgg44 sizeOf44 Zh ?_
    refine yg rfl rfl rfl rfl mr isAgg44 sizeOf44 Zh ?_
    refine yg rfl rfl rfl rfl mr isAgg44 sizeOf44 Zh ?_
    refine Qo rfl rfl rfl kk (vs := [_, _]) rfl call73 (Yv G H _ _ _ _ 4 4 41 41 hgx hgy dd dd dd dd) ss dd ?_; rintro v172 Ψ172 ⟨ad172, c172, rfl, rfl⟩
    refine Qp rfl rfl rfl kk (vs := [_, _, _]) rfl call78 (Qdh (norm (G ++ H)) _ _ 4 84 4 (hgx.add hgy dd dd) dd (qv qx.1 qx.2) (qv qy.1 qy.2) oo oo dd dd) ss dd ?_
    refine Jp rfl rfl rfl kk (vs := [_, _]) rfl call98 (Zoj _ _ oo oo) dd ?_
    have hl178 := Yw (evP G (qv qx.1 qx.2) (qv qy.1 qy.2)) (evP H (qv qx.1 qx.2) (qv qy.1 qy.2))
    refine yq rfl rfl rfl (.binOp rfl rfl (fun _ => Zgp _ _ (evP (norm (G ++ H)) (qv qx.1 qx.2) (qv qy.1 qy.2)) ((evP G (qv qx.1 qx.2) (qv qy.1 qy.2)) + (evP H (qv qx.1 qx.2) (qv qy.1 qy.2))) _)) ?_
    refine Zt (fun hc179  => (by exfalso; exact clN (Zpi G H _ _) hc179)) (fun hc179  => ?_)
    refine yp rfl (.pickF rfl rfl) (ym rfl rfl (yq rfl rfl rfl (.move rfl) (yg rfl rfl rfl rfl mr isAgg44 sizeOf44 Zh ?_)))
    refine yg rfl rfl rfl rfl mr isAgg44 sizeOf44 Zh ?_
    refine yg rfl rfl rfl rfl mr isAgg44 sizeOf44 Zh ?_
    refine Qo rfl rfl rfl kk (vs := [_]) rfl call104 (Qag G _ _ 4 41 hgx dd dd dd) ss dd ?_; rintro v183 Ψ183 ⟨ad183, c183, rfl, rfl⟩
    refine Qp rfl rfl rfl kk (vs := [_, _, _]) rfl call78 (Qdh (norm (Zs ((-1 : Int) : Rat) G)) _ _ 4 44 4 ((hgx.scale (c := ((-1 : Int) : Rat)) (Kc := 2) (Zw (-1) dd dd) dd).mono (Nat.le_refl _) oo) dd (qv qx.1 qx.2) (qv qy.1 qy.2) oo oo dd dd) ss dd ?_
    refine Jp rfl rfl rfl kk (vs := [_]) rfl call99 (C_QNeg _) dd ?_
    have hl188 := Zr1 (evP G (qv qx.1 qx.2) (qv qy.1 qy.2))
    refine yq rfl rfl rfl (.binOp rfl rfl (fun _ => Zgp _ _ (evP (norm (Zs ((-1 : Int) : Rat) G)) (qv qx.1 qx.2) (qv qy.1 qy.2)) (-(evP G (qv qx.1 qx.2) (qv qy.1 qy.2))) _)) ?_
    refine Zt (fun hc189  => (by exfalso; exact clN (Zpg G _ _) hc189)) (fun hc189  => ?_)
    refine yp rfl (.pickF rfl rfl) (yn ?_); intro a w h
    refine cW ?_
    refine Zj h rfl ?_
    refine gC h (zk (zs (zS (zm rfl (zp (.builtin [_] rfl (Zk _ _ _)) (zp (.eql rfl rfl) ?_)))))); clear h; intro a w h
    refine Zg h (fun hc193 h => ?_) (fun hc193 h => ?_)
    focus
     have hz : G = [] ∨ H = [] := .inl (List.eq_nil_of_length_eq_zero (Zbf hc193))
     refine gL h (zm rfl (zo 194 rfl rfl rfl (zo 194 rfl rfl rfl (zo 194 rfl rfl rfl (zp (.pickT rfl rfl) (zn ?_)))))); clear h; intro a w h
     refine cW ?_
     refine Zq h rfl ?_
     refine gC h (zS (zm rfl (zp (.builtin [_] rfl (Zk _ _ _)) (zp (.eql rfl rfl) ?_)))); clear h; intro a w h
     refine Zg h (fun hc201 h => ?_) (fun hc201 h => (by exfalso; exact Zq9 hz hc201))
     refine gL h (zm rfl ?_); clear h; intro a w h
     refine Ze 202 h rfl rfl (Yr h (vs := []) rfl call18 (Yk) dd ?_); clear h; intro a w h
    rotate_left
    focus
     have hz1 : G ≠ [] := fun e => Zaw hc193 (by rw [e]; rfl)
     refine gL h (zm rfl (zq 194 rfl rfl (.move rfl) (zq 194 rfl rfl (.builtin [_] rfl (Zk _ _ _)) (zq 194 rfl rfl (.eql rfl rfl) ?_)))); clear h; intro a w h
     refine Zg h (fun hc197 h => ?_) (fun hc197 h => ?_)
     focus
      have hz : G = [] ∨ H = [] := .inr (List.eq_nil_of_length_eq_zero (Zbf hc197))
      refine gL h (zp (.pickF rfl rfl) (zn ?_)); clear h; intro a w h
      refine cW ?_
      refine Zq h rfl ?_
      refine gC h (zS (zm rfl (zp (.builtin [_] rfl (Zk _ _ _)) (zp (.eql rfl rfl) ?_)))); clear h; intro a w h
      refine Zg h (fun hc201 h => ?_) (fun hc201 h => (by exfalso; exact Zq9 hz hc201))
      refine gL h (zm rfl ?_); clear h; intro a w h
      refine Ze 202 h rfl rfl (Yr h (vs := []) rfl call18 (Yk) dd ?_); clear h; intro a w h
     rotate_left
     focus
      have hz2 : H ≠ [] := fun e => Zaw hc197 (by rw [e]; rfl)
      refine gL h (zp (.pickF rfl rfl) (zn ?_)); clear h; intro a w h
      refine cW ?_
      refine Zj h rfl ?_
      refine gC h (zk (zS (zm rfl (zw [_] rfl call23 (Ya (norm (Jg G H)) _ _ 8 82 (hgx.mul hgy dd) dd dd) (zm rfl (zw [_] rfl call23 (Ya G _ _ 4 41 hgx dd dd) (zm rfl (zw [_] rfl call23 (Ya H _ _ 4 41 hgy dd dd) ?_))))))))
      have hd1 := Zcd (norm G)
      have hd2 := Gx (Qm hgx.deg)
      have hd3 := Zcd (norm H)
      have hd4 := Gx (Qm hgy.deg)
      refine zp (.add rfl rfl) (zp (.eql rfl rfl) ?_); intro a w h
      refine Zg h (fun hc212 h => ?_) (fun hc212 h => (by exfalso; rw [Qbf (Zxb hnG) (Zxb hnH) hz1 hz2] at hc212; simp at hc212))
      refine gL h (zm rfl ?_); clear h; intro a w h
      refine Ze 213 h rfl rfl (Yr h (vs := []) rfl call18 (Yk) dd ?_); clear h; intro a w h
    all_goals
     refine gL h (zp (.pickT rfl rfl) (za rfl (zn (zt ?_)))); clear h; intro a w h
     exact Zbw h
   refine gL h (zp (.pickF rfl rfl) (zn ?_)); clear h; intro a w h
 all_goals
  refine cW ?_
  refine Zq h rfl ?_
  refine gC h (zS (zv [] rfl call18 (Yk) (za rfl (zn (zt ?_))))); clear h; intro a w h
  exact Zbw h
end
section
theorem ixv_87 (b off j : Nat) (h : j < 6) (w : World) : (Instr.indexAt 87 (.pointer (some ⟨b, off, none⟩)) (.int .i64 (j : Int))).run Tryz.prog w = .ok (.pointer (some ⟨b, off + j * 2, none⟩)) w := Zff runUnderlying87 sizeOf25 b off j h w
theorem Qgh (b off j : Nat) (h : j < 6) (w : World) : (Instr.indexAt 154 (.pointer (some ⟨b, off, none⟩)) (.int .i64 (j : Int))).run Tryz.prog w = .ok (.pointer (some ⟨b, off + j * 5, none⟩)) w := Zff runUnderlying154 sizeOf44 b off j h w
theorem Zbj (b off : Nat) (w : World) : (Instr.indexAt 154 (.pointer (some ⟨b, off, none⟩)) (.int .i64 0)).run Tryz.prog w = .ok (.pointer (some ⟨b, off + 0, none⟩)) w := by
 simp [go_sem, Instr.indexAt]
theorem Zbd {c0 c1 c2 c3 c4 c5 c6 c7 c8 c9 c10 c11 c12 c13 c14 c15 c16 c17 c18 c19 c20 c21 c22 c23 c24 c25 c26 c27 c28 c29 : Value} : Qk true 5 #[c0, c1, c2, c3, c4, c5, c6, c7, c8, c9, c10, c11, c12, c13, c14, c15, c16, c17, c18, c19, c20, c21, c22, c23, c24, c25, c26, c27, c28, c29] 0 = some (.agg #[c0, c1, c2, c3, c4]) := rfl
theorem Zbi (b off : Nat) (w : World) : (Instr.indexAt 154 (.pointer (some ⟨b, off, none⟩)) (.int .i64 1)).run Tryz.prog w = .ok (.pointer (some ⟨b, off + 5, none⟩)) w := by
 simp [go_sem, Instr.indexAt]
theorem Zbc {c0 c1 c2 c3 c4 c5 c6 c7 c8 c9 c10 c11 c12 c13 c14 c15 c16 c17 c18 c19 c20 c21 c22 c23 c24 c25 c26 c27 c28 c29 : Value} : Qk true 5 #[c0, c1, c2, c3, c4, c5, c6, c7, c8, c9, c10, c11, c12, c13, c14, c15, c16, c17, c18, c19, c20, c21, c22, c23, c24, c25, c26, c27, c28, c29] 5 = some (.agg #[c5, c6, c7, c8, c9]) := rfl
theorem Zd8 (b off : Nat) (w : World) : (Instr.indexAt 154 (.pointer (some ⟨b, off, none⟩)) (.int .i64 2)).run Tryz.prog w = .ok (.pointer (some ⟨b, off + 10, none⟩)) w := by
 simp [go_sem, Instr.indexAt]
theorem Zcn {c0 c1 c2 c3 c4 c5 c6 c7 c8 c9 c10 c11 c12 c13 c14 c15 c16 c17 c18 c19 c20 c21 c22 c23 c24 c25 c26 c27 c28 c29 : Value} : Qk true 5 #[c0, c1, c2, c3, c4, c5, c6, c7, c8, c9, c10, c11, c12, c13, c14, c15, c16, c17, c18, c19, c20, c21, c22, c23, c24, c25, c26, c27, c28, c29] 10 = some (.agg #[c10, c11, c12, c13, c14]) := rfl
theorem Zbh (b off : Nat) (w : World) : (Instr.indexAt 154 (.pointer (some ⟨b, off, none⟩)) (.int .i64 3)).run Tryz.prog w = .ok (.pointer (some ⟨b, off + 15, none⟩)) w := by
 simp [go_sem, Instr.indexAt]
theorem Zae {c0 c1 c2 c3 c4 c5 c6 c7 c8 c9 c10 c11 c12 c13 c14 c15 c16 c17 c18 c19 c20 c21 c22 c23 c24 c25 c26 c27 c28 c29 : Value} : Qk true 5 #[c0, c1, c2, c3, c4, c5, c6, c7, c8, c9, c10, c11, c12, c13, c14, c15, c16, c17, c18, c19, c20, c21, c22, c23, c24, c25, c26, c27, c28, c29] 15 = some (.agg #[c15, c16, c17, c18, c19]) := rfl
theorem Zbg (b off : Nat) (w : World) : (Instr.indexAt 154 (.pointer (some ⟨b, off, none⟩)) (.int .i64 4)).run Tryz.prog w = .ok (.pointer (some ⟨b, off + 20, none⟩)) w := by
 simp [go_sem, Instr.indexAt]
theorem Zad {c0 c1 c2 c3 c4 c5 c6 c7 c8 c9 c10 c11 c12 c13 c14 c15 c16 c17 c18 c19 c20 c21 c22 c23 c24 c25 c26 c27 c28 c29 : Value} : Qk true 5 #[c0, c1, c2, c3, c4, c5, c6, c7, c8, c9, c10, c11, c12, c13, c14, c15, c16, c17, c18, c19, c20, c21, c22, c23, c24, c25, c26, c27, c28, c29] 20 = some (.agg #[c20, c21, c22, c23, c24]) := rfl
theorem Zd7 (b off : Nat) (w : World) : (Instr.indexAt 154 (.pointer (some ⟨b, off, none⟩)) (.int .i64 5)).run Tryz.prog w = .ok (.pointer (some ⟨b, off + 25, none⟩)) w := by
 simp [go_sem, Instr.indexAt]
theorem Zcm {c0 c1 c2 c3 c4 c5 c6 c7 c8 c9 c10 c11 c12 c13 c14 c15 c16 c17 c18 c19 c20 c21 c22 c23 c24 c25 c26 c27 c28 c29 : Value} : Qk true 5 #[c0, c1, c2, c3, c4, c5, c6, c7, c8, c9, c10, c11, c12, c13, c14, c15, c16, c17, c18, c19, c20, c21, c22, c23, c24, c25, c26, c27, c28, c29] 25 = some (.agg #[c25, c26, c27, c28, c29]) := rfl
theorem Zal (x0_0 : Value) (x0_1 : Value) (x0_2 : Value) (x0_3 : Value) (x0_4 : Value) (x1_0 : Value) (x1_1 : Value) (x1_2 : Value) (x1_3 : Value) (x1_4 : Value) (x2_0 : Value) (x2_1 : Value) (x2_2 : Value) (x2_3 : Value) (x2_4 : Value) (w : World) : (Instr.buildSlice 207 3 [(0, .agg #[x0_0, x0_1, x0_2, x0_3, x0_4]), (1, .agg #[x1_0, x1_1, x1_2, x1_3, x1_4]), (2, .agg #[x2_0, x2_1, x2_2, x2_3, x2_4])].toArray).run Tryz.prog w = .ok (.slice (some ⟨w.heap.size, 0, none⟩) 3 3) (w.alloc (.cells #[x0_0, x0_1, x0_2, x0_3, x0_4, x1_0, x1_1, x1_2, x1_3, x1_4, x2_0, x2_1, x2_2, x2_3, x2_4] 44 (0, 0))) := by
 simp [go_sem]
abbrev encA6 (a b c d e f : Rat) : Value := .agg #[.int .u64 (Za6 a.num.natAbs), .string (Kt a.num.natAbs), .bool (decide (a.num < 0)), .int .u64 (Za6 (a.den - 1)), .string (Kt (a.den - 1)), .int .u64 (Za6 b.num.natAbs), .string (Kt b.num.natAbs), .bool (decide (b.num < 0)), .int .u64 (Za6 (b.den - 1)), .string (Kt (b.den - 1)), .int .u64 (Za6 c.num.natAbs), .string (Kt c.num.natAbs), .bool (decide (c.num < 0)), .int .u64 (Za6 (c.den - 1)), .string (Kt (c.den - 1)), .int .u64 (Za6 d.num.natAbs), .string (Kt d.num.natAbs), .bool (decide (d.num < 0)), .int .u64 (Za6 (d.den - 1)), .string (Kt (d.den - 1)), .int .u64 (Za6 e.num.natAbs), .string (Kt e.num.natAbs), .bool (decide (e.num < 0)), .int .u64 (Za6 (e.den - 1)), .string (Kt (e.den - 1)), .int .u64 (Za6 f.num.natAbs), .string (Kt f.num.natAbs), .bool (decide (f.num < 0)), .int .u64 (Za6 (f.den - 1)), .string (Kt (f.den - 1))]
abbrev Qgr (s0 s1 s2 s3 s4 s5 : Int × Int) : Value := .agg #[.int .i64 s0.1, .int .u32 s0.2, .int .i64 s1.1, .int .u32 s1.2, .int .i64 s2.1, .int .u32 s2.2, .int .i64 s3.1, .int .u32 s3.2, .int .i64 s4.1, .int .u32 s4.2, .int .i64 s5.1, .int .u32 s5.2]
theorem zero6 (w : World) : (zeroValue 154).run Tryz.prog w = .ok (.agg (cellsOf Jo (List.replicate 6 (0 : Rat))).toArray) w := zeroValue154 w
def c6 (ss : List (Int × Int)) : Nat → List Rat
 | 0 => List.replicate 6 0
 | i + 1 => (c6 ss i).set i (qv (ss.getD i (0, 0)).1 (ss.getD i (0, 0)).2)
theorem Zy8 (ss : List (Int × Int)) : ∀ i, (c6 ss i).length = 6
 | 0 => rfl
 | i + 1 => by rw [c6, List.length_set, Zy8 ss i]
theorem Qcz (s0 s1 s2 s3 s4 s5 : Int × Int) : (cellsOf Jo (c6 [s0, s1, s2, s3, s4, s5] 6)).toArray = Value.cells (encA6 (qv s0.1 s0.2) (qv s1.1 s1.2) (qv s2.1 s2.2) (qv s3.1 s3.2) (qv s4.1 s4.2) (qv s5.1 s5.2)) := rfl
theorem Qa9 (s0 s1 s2 s3 s4 s5 : Int × Int) : Value.cells (Qgr s0 s1 s2 s3 s4 s5) = (cellsOf Zjg [s0, s1, s2, s3, s4, s5]).toArray := rfl
theorem Zty {x y z : Rat} {a b c : Nat} (h1 : Qc x ≤ a) (h2 : Qc y ≤ b) (h3 : Qc z ≤ c) : Qc ([x, y, z].foldl (· + ·) 0) ≤ a + b + c + 5 := by
 simp only [List.foldl_cons, List.foldl_nil]
 have := Zd6
 have a1 := Yw 0 x
 have a2 := Yw (0 + x) y
 have a3 := Yw (0 + x + y) z
 omega
theorem all3 {x y z : Rat} {K : Nat} (h1 : Qc x ≤ K) (h2 : Qc y ≤ K) (h3 : Qc z ≤ K) : ∀ w ∈ [x, y, z], Qc w ≤ K := fun w hw => by
 simp only [List.mem_cons, List.not_mem_nil, or_false] at hw
 rcases hw with rfl | rfl | rfl <;> assumption
set_option maxHeartbeats 1000000 in
theorem Zmj (l : List Ti) (ad : Option Addr) (c : Nat) (hokl : ∀ t ∈ l, OkT t) (hln : l.length ≤ 9223372036854775807) (qx qy s0 s1 s2 s3 s4 s5 qu qw : Int × Int) (hqx : OkQ qx) (hqy : OkQ qy) (hs : ∀ q ∈ [s0, s1, s2, s3, s4, s5], OkQ q) (hqu : OkQ qu) (hqw : OkQ qw) : Vj Tryz.prog 41 [.slice ad l.length c, Zjg qx, Zjg qy, Qgr s0 s1 s2 s3 s4 s5, Zjg qu, Zjg qw] [Row ad (cellsOf Jq l)] (.bool true) := by
 have hlx : Qc (qv qx.1 qx.2) ≤ 4 := Jn hqx
 have hly : Qc (qv qy.1 qy.2) ≤ 4 := Jn hqy
 have hlu : Qc (qv qu.1 qu.2) ≤ 4 := Jn hqu
 have hlw : Qc (qv qw.1 qw.2) ≤ 4 := Jn hqw
 have hn0 : Qc (qv s0.1 s0.2) ≤ 4 := Jn (hs s0 ss)
 have hn1 : Qc (qv s1.1 s1.2) ≤ 4 := Jn (hs s1 ss)
 have hn2 : Qc (qv s2.1 s2.2) ≤ 4 := Jn (hs s2 ss)
 have hn3 : Qc (qv s3.1 s3.2) ≤ 4 := Jn (hs s3 ss)
 have hn4 : Qc (qv s4.1 s4.2) ≤ 4 := Jn (hs s4 ss)
 have hn5 : Qc (qv s5.1 s5.2) ≤ 4 := Jn (hs s5 ss)
 obtain ⟨hx1, hx2, hx3, hx4⟩ := hqx
 obtain ⟨hy1, hy2, hy3, hy4⟩ := hqy
 obtain ⟨hu1, hu2, hu3, hu4⟩ := hqu
 obtain ⟨hw1, hw2, hw3, hw4⟩ := hqw
 have hm0a := Qf (qv s0.1 s0.2) (qv qx.1 qx.2)
 have hm1a := Qf (qv s1.1 s1.2) (qv qy.1 qy.2)
 have hm3a := Qf (qv s3.1 s3.2) (qv qx.1 qx.2)
 have hm4a := Qf (qv s4.1 s4.2) (qv qy.1 qy.2)
 have hm0u := Qf (qv s0.1 s0.2) (qv qu.1 qu.2)
 have hm1u := Qf (qv s1.1 s1.2) (qv qw.1 qw.2)
 have hm3u := Qf (qv s3.1 s3.2) (qv qu.1 qu.2)
 have hm4u := Qf (qv s4.1 s4.2) (qv qw.1 qw.2)
 refine fn_intro func41 rfl ntmps41 nb ?_
 intro S w0 a hS h
 refine gC h (zS (zx rfl fun b7 => zx rfl fun b8 => zx rfl fun b9 => ?_)); clear h; intro a w h
 rw [Qa9] at h
 refine gL h (zx rfl fun b10 => zx rfl fun b11 => za rfl (zn (zs (zS (zm rfl (zp (.builtin [_] rfl (Qz _ _ _)) (zp (.gtr rfl rfl) ?_))))))); clear h; intro a w h
 refine Zg h (fun hc31 h => ?_) (fun hc31 h => ?_)
 ·
  skip
  refine wpList_nil ?_
  refine cW ?_
  refine Zq h rfl ?_
  refine gC h (zS (zv [] rfl call18 (Yk) (za rfl (zn (zt ?_))))); clear h; intro a w h
  exact Zbw h
 ·
  skip
  have hll : l.length ≤ 6 := dF hc31
  have hgx := Zd2 (d := 4) hokl hll dd dd
  refine wpList_nil ?_
  refine cW ?_
  refine Zj h rfl ?_
  refine gC h (zk (zS (zm rfl (zf [_, _] rfl call96 (Zhm l _ _ 4 8 (by assumption) oo oo) ?_)))); clear h; rintro v34 Ψ34 ⟨ad34, c34, rfl, rfl⟩ a w h
  obtain ⟨G, hnG⟩ : ∃ G, norm (Yl 4 l) = G := ⟨_, rfl⟩
  rw [hnG] at h hgx
  refine gL h (za rfl (zn (zS (zz zero6 fun b14 => zn (zs (zS (za rfl (zn (zb ?_))))))))); clear h; intro a w h
  refine Zf (fun (i : Nat) a w => i ≤ 6 ∧ St 227 S w0 [(7, pB b7), (8, pB b8), (9, pB b9), (10, pB b10), (11, pB b11), (12, .bool false), (13, .slice ad34 ((G).length) c34), (14, pB b14), (15, nI i)] [(b14, .cells (cellsOf Jo (c6 [s0, s1, s2, s3, s4, s5] i)).toArray 154 (0, 0)), (b11, bV (.agg #[.int .i64 qw.1, .int .u32 qw.2]) 25), (b10, bV (.agg #[.int .i64 qu.1, .int .u32 qu.2]) 25), (b9, .cells (cellsOf Zjg ([s0, s1, s2, s3, s4, s5])).toArray 87 (0, 0)), (b8, bV (.agg #[.int .i64 qy.1, .int .u32 qy.2]) 25), (b7, bV (.agg #[.int .i64 qx.1, .int .u32 qx.2]) 25)] [Row ad34 (cellsOf Zp (G)), Row ad (cellsOf Jq l)] a w) (fun i => 6 - i) 0 (⟨Nat.zero_le _, by exact (h).sub sA⟩) ?_; clear h
  rintro i a w ⟨hi_i, h⟩
  refine gC h (zs (zS (zm rfl (zp (.lss rfl rfl) (zn ?_))))); clear h; intro a w h
  refine cW ?_
  refine Zb h rfl (fun hc36 => ?_) (fun hc36 => ?_)
  ·
   skip
   have hlt_i : i < 6 := dT hc36
   obtain ⟨hi1, hi2, hi3, hi4⟩ := hs _ (getD_mem [s0, s1, s2, s3, s4, s5] (d := (0, 0)) (show i < 6 by omega))
   refine gC h (zk (zs (zb (zr (zm rfl (zm rfl (zp (.indexAddr rfl rfl (ixv_87 _ _ _ oo)) (zd rfl mm isAgg25 sizeOf25 (Zac (k := 2) (fun _ => rfl) ((fun _ => rfl)) ([s0, s1, s2, s3, s4, s5]) (0, 0) i (by show i < 6; omega)) ?_))))))))
   refine zv [_] rfl call62 (Zdr ((([s0, s1, s2, s3, s4, s5]).getD i (0, 0)).1) ((([s0, s1, s2, s3, s4, s5]).getD i (0, 0)).2) oo oo oo oo) ?_
   have hl43 := Ju ((([s0, s1, s2, s3, s4, s5]).getD i (0, 0)).1) ((([s0, s1, s2, s3, s4, s5]).getD i (0, 0)).2) oo oo oo oo
   refine zp (.indexAddr rfl rfl (Qgh _ _ _ oo)) (zt' (b := b14) (cs := (cellsOf Jo (c6 [s0, s1, s2, s3, s4, s5] i)).toArray) (cs' := (cellsOf Jo ((c6 [s0, s1, s2, s3, s4, s5] i).set i (qv ((([s0, s1, s2, s3, s4, s5]).getD i (0, 0)).1) ((([s0, s1, s2, s3, s4, s5]).getD i (0, 0)).2)))).toArray) (v := Jo (qv ((([s0, s1, s2, s3, s4, s5]).getD i (0, 0)).1) ((([s0, s1, s2, s3, s4, s5]).getD i (0, 0)).2))) rfl rfl (Yd (k := 5) (fun _ => rfl) (c6 [s0, s1, s2, s3, s4, s5] i) i (by rw [Zy8]; omega) (qv ((([s0, s1, s2, s3, s4, s5]).getD i (0, 0)).1) ((([s0, s1, s2, s3, s4, s5]).getD i (0, 0)).2))) uu sizeOf44 rfl (Vv (k := 5) (fun _ => rfl) (c6 [s0, s1, s2, s3, s4, s5] i) i (by rw [Zy8]; omega)) rfl ?_)
   refine zn (zr (zm rfl (zp (.pN (i + 1) (.add rfl rfl)) (za rfl (zn ?_))))); intro a w h
   exact ⟨i + 1, ⟨oo, h.sub sA⟩, oo⟩
  ·
   skip
   have heq_i : 6 = i := dF hc36
   subst heq_i
   rw [Qcz] at h
   refine gC h (ze (zs (yD Za [0, 2, 1, 3, 4, 5, 6, 7] (Xs ⟨.inl rfl, .inl rfl, .inl rfl, .inl rfl, .inr ⟨16, 44, _, _, _, rfl, rfl, by decide, _, Vd⟩, .inr ⟨17, 44, _, _, _, rfl, rfl, by decide, _, Vd⟩, .inl rfl, .inl rfl, trivial⟩) (yd rfl rfl mr isAgg25 sizeOf25 Zn ?_)))); clear h
   refine yd rfl rfl mr isAgg25 sizeOf25 Zn ?_
   refine yv [_] rfl rfl call62 (Zdr qx.1 qx.2 oo oo oo oo) ?_
   have hl46 := Ju qx.1 qx.2 oo oo oo oo
   refine yv [_] rfl rfl call62 (Zdr qy.1 qy.2 oo oo oo oo) ?_
   have hl48 := Ju qy.1 qy.2 oo oo oo oo
   refine yz rfl Vd fun b16 => yz rfl Vd fun b17 => yt rfl rfl rfl Qi uu sizeOf44 rfl nb rfl ?_
   refine yt rfl rfl rfl Qi uu sizeOf44 rfl nb rfl ?_
   refine yn (zS (zm rfl (zp (.indexAddr rfl rfl (Zbj _ _)) (zd rfl mr isAgg44 sizeOf44 Zbd ?_))))
   refine zp (.indexAddr rfl rfl (Zbi _ _)) (zd rfl mr isAgg44 sizeOf44 Zbc ?_)
   refine zp (.indexAddr rfl rfl (Zd8 _ _)) (zd rfl mr isAgg44 sizeOf44 Zcn ?_)
   refine zp (.indexAddr rfl rfl (Zbh _ _)) (zd rfl mr isAgg44 sizeOf44 Zae ?_)
   refine zp (.indexAddr rfl rfl (Zbg _ _)) (zd rfl mr isAgg44 sizeOf44 Zad ?_)
   refine zp (.indexAddr rfl rfl (Zd7 _ _)) (zd rfl mr isAgg44 sizeOf44 Zcm ?_)
   refine zf [_, _, _, _, _, _, _] rfl call58 (Zei G _ _ 4 31 hgx (qv s0.1 s0.2) (qv s1.1 s1.2) (qv s2.1 s2.2) (qv s3.1 s3.2) (qv s4.1 s4.2) (qv s5.1 s5.2) 4 dd oo oo oo oo oo oo dd dd) ?_; rintro v62 Ψ62 ⟨ad62, c62, rfl, rfl⟩
   have hP62 : Pq 4 1726 (norm (shL G (qv s0.1 s0.2) (qv s1.1 s1.2) (qv s2.1 s2.2) (qv s3.1 s3.2) (qv s4.1 s4.2) (qv s5.1 s5.2))) := (Pq.shift (Kx := 4) hgx oo oo oo oo oo oo dd).mono (Nat.le_refl _) kD
   refine za rfl (zn (zs (yD Za [0, 1, 2, 4, 5, 6, 8, 9, 3, 7, 10, 11, 12, 13] (Xs ⟨.inl rfl, .inl rfl, .inl rfl, .inl rfl, .inl rfl, .inl rfl, .inl rfl, .inl rfl, .inl rfl, .inl rfl, .inl rfl, .inl rfl, .inr ⟨19, 44, _, _, _, rfl, rfl, by decide, _, Vd⟩, .inl rfl, trivial⟩) (yp rfl (.indexAddr rfl rfl (Zbj _ _)) (yd rfl rfl mr isAgg44 sizeOf44 Zbd ?_)))))
   refine yd rfl rfl mr isAgg44 sizeOf44 Zh ?_
   refine yp rfl (.indexAddr rfl rfl (Zbi _ _)) (yd rfl rfl mr isAgg44 sizeOf44 Zbc ?_)
   refine yd rfl rfl mr isAgg44 sizeOf44 Zh ?_
   refine yp rfl (.indexAddr rfl rfl (Zd8 _ _)) (yd rfl rfl mr isAgg44 sizeOf44 Zcn ?_)
   refine yv [_, _] rfl rfl call69 (Zaq _ _ oo oo) ?_
   have hl66 := Qf (qv s0.1 s0.2) (qv qx.1 qx.2)
   refine yv [_, _] rfl rfl call69 (Zaq _ _ oo oo) ?_
   have hl70 := Qf (qv s1.1 s1.2) (qv qy.1 qy.2)
   refine Xy hS rfl kk [(_, _), (_, _), (_, _)] rfl (Zal _ _ _ _ _ _ _ _ _ _ _ _ _ _ _) (cellsOf Jo [(qv s0.1 s0.2) * (qv qx.1 qx.2), (qv s1.1 s1.2) * (qv qy.1 qy.2), qv s2.1 s2.2]) rfl dd ?_; intro b73
   refine yw [_] rfl rfl call92 (Zto _ _ [(qv s0.1 s0.2) * (qv qx.1 qx.2), (qv s1.1 s1.2) * (qv qy.1 qy.2), qv s2.1 s2.2] ss (all3 oo oo oo)) (yz rfl Vd fun b19 => yt rfl rfl rfl Qi uu sizeOf44 rfl nb rfl ?_)
   refine yn (zs (yD Za [0, 1, 2, 4, 5, 6, 8, 9, 3, 7, 10, 11, 12, 13] (Xs ⟨.inl rfl, .inl rfl, .inl rfl, .inl rfl, .inl rfl, .inl rfl, .inl rfl, .inl rfl, .inl rfl, .inl rfl, .inl rfl, .inl rfl, .inr ⟨20, 44, _, _, _, rfl, rfl, by decide, _, Vd⟩, .inl rfl, trivial⟩) (yp rfl (.indexAddr rfl rfl (Zbh _ _)) (yd rfl rfl mr isAgg44 sizeOf44 Zae ?_))))
   refine yd rfl rfl mr isAgg44 sizeOf44 Zh ?_
   refine yp rfl (.indexAddr rfl rfl (Zbg _ _)) (yd rfl rfl mr isAgg44 sizeOf44 Zad ?_)
   refine yd rfl rfl mr isAgg44 sizeOf44 Zh ?_
   refine yp rfl (.indexAddr rfl rfl (Zd7 _ _)) (yd rfl rfl mr isAgg44 sizeOf44 Zcm ?_)
   refine yv [_, _] rfl rfl call69 (Zaq _ _ oo oo) ?_
   have hl78 := Qf (qv s3.1 s3.2) (qv qx.1 qx.2)
   refine yv [_, _] rfl rfl call69 (Zaq _ _ oo oo) ?_
   have hl82 := Qf (qv s4.1 s4.2) (qv qy.1 qy.2)
   refine Xy hS rfl kk [(_, _), (_, _), (_, _)] rfl (Zal _ _ _ _ _ _ _ _ _ _ _ _ _ _ _) (cellsOf Jo [(qv s3.1 s3.2) * (qv qx.1 qx.2), (qv s4.1 s4.2) * (qv qy.1 qy.2), qv s5.1 s5.2]) rfl dd ?_; intro b85
   refine yw [_] rfl rfl call92 (Zto _ _ [(qv s3.1 s3.2) * (qv qx.1 qx.2), (qv s4.1 s4.2) * (qv qy.1 qy.2), qv s5.1 s5.2] ss (all3 oo oo oo)) (yz rfl Vd fun b20 => yt rfl rfl rfl Qi uu sizeOf44 rfl nb rfl ?_)
   refine yn (zs (zs (yD Za [0, 1, 2, 4, 5, 6, 3, 7, 8, 9, 10, 12, 11, 13, 14, 15] (Zd kk) (ym rfl rfl (yd rfl rfl mr isAgg44 sizeOf44 Zh ?_)))))
   refine yd rfl rfl mr isAgg44 sizeOf44 Zh ?_
   refine ym rfl rfl (yd rfl rfl mr isAgg44 sizeOf44 Zh ?_)
   refine yd rfl rfl mr isAgg44 sizeOf44 Zh ?_
   refine yw [_, _, _] rfl rfl call78 (Qdh (norm (shL G (qv s0.1 s0.2) (qv s1.1 s1.2) (qv s2.1 s2.2) (qv s3.1 s3.2) (qv s4.1 s4.2) (qv s5.1 s5.2))) _ _ 4 1726 4 hP62 dd (qv qx.1 qx.2) (qv qy.1 qy.2) oo oo dd dd) (yw [_, _, _] rfl rfl call78 (Qdh G _ _ 4 31 25 hgx dd ([(qv s0.1 s0.2) * (qv qx.1 qx.2), (qv s1.1 s1.2) * (qv qy.1 qy.2), qv s2.1 s2.2].foldl (· + ·) 0) ([(qv s3.1 s3.2) * (qv qx.1 qx.2), (qv s4.1 s4.2) * (qv qy.1 qy.2), qv s5.1 s5.2].foldl (· + ·) 0) (Zty (a := 8) (b := 8) (c := 4) oo oo oo) (Zty (a := 8) (b := 8) (c := 4) oo oo oo) dd dd) (yp rfl (.binOp rfl rfl (fun _ => Zgp _ _ (evP (norm (shL G (qv s0.1 s0.2) (qv s1.1 s1.2) (qv s2.1 s2.2) (qv s3.1 s3.2) (qv s4.1 s4.2) (qv s5.1 s5.2))) (qv qx.1 qx.2) (qv qy.1 qy.2)) (evP G ([(qv s0.1 s0.2) * (qv qx.1 qx.2), (qv s1.1 s1.2) * (qv qy.1 qy.2), qv s2.1 s2.2].foldl (· + ·) 0) ([(qv s3.1 s3.2) * (qv qx.1 qx.2), (qv s4.1 s4.2) * (qv qy.1 qy.2), qv s5.1 s5.2].foldl (· + ·) 0)) _)) ?_))
   refine Zt (fun hc95  => (by exfalso; exact clN (Qa1 G _ _ _ _ _ _ _ _) hc95)) (fun hc95  => ?_)
   refine ym rfl rfl (yq rfl rfl rfl (.move rfl) (yq rfl rfl rfl (.move rfl) ?_))
   refine Qp rfl rfl rfl kk (vs := [_]) rfl call23 (Ya (norm (shL G (qv s0.1 s0.2) (qv s1.1 s1.2) (qv s2.1 s2.2) (qv s3.1 s3.2) (qv s4.1 s4.2) (qv s5.1 s5.2))) _ _ 4 1726 hP62 dd dd) ss dd ?_
   refine Qp rfl rfl rfl kk (vs := [_]) rfl call23 (Ya G _ _ 4 31 hgx dd dd) ss dd ?_
   refine yq rfl rfl rfl (.gtr rfl rfl) ?_
   refine Zt (fun hc101  => (by exfalso; have h8 := of_decide_eq_true hc101; have h9 := Zv5 G (qv s0.1 s0.2) (qv s1.1 s1.2) (qv s2.1 s2.2) (qv s3.1 s3.2) (qv s4.1 s4.2) (qv s5.1 s5.2); omega)) (fun hc101  => ?_)
   refine yp rfl (.pickF rfl rfl) (yn ?_); intro a w h
   refine cW ?_
   refine Zj h rfl ?_
   refine gC h (zk (zs (yD Za [0, 2, 3, 4, 5, 6, 7, 8, 9, 10, 11, 12, 13, 1, 14, 15] (Zd kk) (ym rfl rfl (yp rfl (.indexAddr rfl rfl (Zbj _ _)) (yd rfl rfl mr isAgg44 sizeOf44 Zbd ?_)))))); clear h
   refine yp rfl (.indexAddr rfl rfl (Zbi _ _)) (yd rfl rfl mr isAgg44 sizeOf44 Zbc ?_)
   refine yp rfl (.indexAddr rfl rfl (Zd8 _ _)) (yd rfl rfl mr isAgg44 sizeOf44 Zcn ?_)
   refine yp rfl (.indexAddr rfl rfl (Zbh _ _)) (yd rfl rfl mr isAgg44 sizeOf44 Zae ?_)
   refine yp rfl (.indexAddr rfl rfl (Zbg _ _)) (yd rfl rfl mr isAgg44 sizeOf44 Zad ?_)
   refine yp rfl (.indexAddr rfl rfl (Zd7 _ _)) (yd rfl rfl mr isAgg44 sizeOf44 Zcm ?_)
   refine yf [_] rfl rfl call76 (Zdl G _ _ 4 31 hgx dd dd) ?_; rintro v104 Ψ104 ⟨ad104, c104, rfl, rfl⟩
   refine yf [_, _, _, _, _, _, _] rfl rfl call58 (Zei (norm (dxL G)) _ _ 4 32 (hgx.dx dd) (qv s0.1 s0.2) (qv s1.1 s1.2) (qv s2.1 s2.2) (qv s3.1 s3.2) (qv s4.1 s4.2) (qv s5.1 s5.2) 4 dd oo oo oo oo oo oo dd dd) ?_; rintro v117 Ψ117 ⟨ad117, c117, rfl, rfl⟩
   have hP117 : Pq 4 1741 (norm (shL (norm (dxL G)) (qv s0.1 s0.2) (qv s1.1 s1.2) (qv s2.1 s2.2) (qv s3.1 s3.2) (qv s4.1 s4.2) (qv s5.1 s5.2))) := (Pq.shift (Kx := 4) (hgx.dx dd) oo oo oo oo oo oo dd).mono (Nat.le_refl _) kD
   refine yp rfl (.assign rfl) (yn (zs (yD Za [0, 2, 3, 4, 5, 6, 7, 8, 9, 10, 11, 12, 13, 1, 14, 15] (Zd kk) (ym rfl rfl (yp rfl (.indexAddr rfl rfl (Zbj _ _)) (yd rfl rfl mr isAgg44 sizeOf44 Zbd ?_))))))
   refine yp rfl (.indexAddr rfl rfl (Zbi _ _)) (yd rfl rfl mr isAgg44 sizeOf44 Zbc ?_)
   refine yp rfl (.indexAddr rfl rfl (Zd8 _ _)) (yd rfl rfl mr isAgg44 sizeOf44 Zcn ?_)
   refine yp rfl (.indexAddr rfl rfl (Zbh _ _)) (yd rfl rfl mr isAgg44 sizeOf44 Zae ?_)
   refine yp rfl (.indexAddr rfl rfl (Zbg _ _)) (yd rfl rfl mr isAgg44 sizeOf44 Zad ?_)
   refine yp rfl (.indexAddr rfl rfl (Zd7 _ _)) (yd rfl rfl mr isAgg44 sizeOf44 Zcm ?_)
   refine yf [_] rfl rfl call97 (Zds G _ _ 4 31 hgx dd dd) ?_; rintro v119 Ψ119 ⟨ad119, c119, rfl, rfl⟩
   refine yf [_, _, _, _, _, _, _] rfl rfl call58 (Zei (norm (dyL G)) _ _ 4 32 (hgx.dy dd) (qv s0.1 s0.2) (qv s1.1 s1.2) (qv s2.1 s2.2) (qv s3.1 s3.2) (qv s4.1 s4.2) (qv s5.1 s5.2) 4 dd oo oo oo oo oo oo dd dd) ?_; rintro v132 Ψ132 ⟨ad132, c132, rfl, rfl⟩
   have hP132 : Pq 4 1741 (norm (shL (norm (dyL G)) (qv s0.1 s0.2) (qv s1.1 s1.2) (qv s2.1 s2.2) (qv s3.1 s3.2) (qv s4.1 s4.2) (qv s5.1 s5.2))) := (Pq.shift (Kx := 4) (hgx.dy dd) oo oo oo oo oo oo dd).mono (Nat.le_refl _) kD
   refine yp rfl (.assign rfl) (yn (zs (zs (yD Za [0, 2, 3, 4, 6, 7, 8, 1, 5, 9, 10, 11, 12, 13, 14, 16, 17, 18, 20, 21, 22, 15, 19, 23, 24, 25, 26, 27] (Zd kk) (ym rfl rfl (ym rfl rfl (yp rfl (.indexAddr rfl rfl (Zbj _ _)) (yd rfl rfl mr isAgg44 sizeOf44 Zbd ?_))))))))
   refine ym rfl rfl (yp rfl (.indexAddr rfl rfl (Zbh _ _)) (yd rfl rfl mr isAgg44 sizeOf44 Zae ?_))
   refine yf [_] rfl rfl call76 (Zdl (norm (shL G (qv s0.1 s0.2) (qv s1.1 s1.2) (qv s2.1 s2.2) (qv s3.1 s3.2) (qv s4.1 s4.2) (qv s5.1 s5.2))) _ _ 4 1726 hP62 dd dd) ?_; rintro v134 Ψ134 ⟨ad134, c134, rfl, rfl⟩
   refine yf [_, _] rfl rfl call100 (Ze0 (norm (shL (norm (dxL G)) (qv s0.1 s0.2) (qv s1.1 s1.2) (qv s2.1 s2.2) (qv s3.1 s3.2) (qv s4.1 s4.2) (qv s5.1 s5.2))) _ _ 4 1741 hP117 dd dd (qv s0.1 s0.2) 4 oo dd) ?_; rintro v138 Ψ138 ⟨ad138, c138, rfl, rfl⟩
   refine yf [_, _] rfl rfl call100 (Ze0 (norm (shL (norm (dyL G)) (qv s0.1 s0.2) (qv s1.1 s1.2) (qv s2.1 s2.2) (qv s3.1 s3.2) (qv s4.1 s4.2) (qv s5.1 s5.2))) _ _ 4 1741 hP132 dd dd (qv s3.1 s3.2) 4 oo dd) ?_; rintro v142 Ψ142 ⟨ad142, c142, rfl, rfl⟩
   refine yf [_, _] rfl rfl call73 (Yv (norm (Zs (qv s0.1 s0.2) (norm (shL (norm (dxL G)) (qv s0.1 s0.2) (qv s1.1 s1.2) (qv s2.1 s2.2) (qv s3.1 s3.2) (qv s4.1 s4.2) (qv s5.1 s5.2))))) (norm (Zs (qv s3.1 s3.2) (norm (shL (norm (dyL G)) (qv s0.1 s0.2) (qv s1.1 s1.2) (qv s2.1 s2.2) (qv s3.1 s3.2) (qv s4.1 s4.2) (qv s5.1 s5.2))))) _ _ _ _ 4 4 1746 1746 (hP117.scale (c := qv s0.1 s0.2) (Kc := 4) oo dd) (hP132.scale (c := qv s3.1 s3.2) (Kc := 4) oo dd) dd dd dd dd) ?_; rintro v143 Ψ143 ⟨ad143, c143, rfl, rfl⟩
   refine yw [_, _] rfl rfl call25 (Vs (norm (dxL (norm (shL G (qv s0.1 s0.2) (qv s1.1 s1.2) (qv s2.1 s2.2) (qv s3.1 s3.2) (qv s4.1 s4.2) (qv s5.1 s5.2))))) (norm (norm (Zs (qv s0.1 s0.2) (norm (shL (norm (dxL G)) (qv s0.1 s0.2) (qv s1.1 s1.2) (qv s2.1 s2.2) (qv s3.1 s3.2) (qv s4.1 s4.2) (qv s5.1 s5.2)))) ++ norm (Zs (qv s3.1 s3.2) (norm (shL (norm (dyL G)) (qv s0.1 s0.2) (qv s1.1 s1.2) (qv s2.1 s2.2) (qv s3.1 s3.2) (qv s4.1 s4.2) (qv s5.1 s5.2)))))) _ _ _ _ 4 4 1727 3494 (hP62.dx dd) ((hP117.scale (c := qv s0.1 s0.2) (Kc := 4) oo dd).add (hP132.scale (c := qv s3.1 s3.2) (Kc := 4) oo dd) dd dd) dd dd dd dd) (yp rfl (.unOp rfl (Xe _)) ?_)
   refine Zt (fun hc145  => (by exfalso; exact clN (Qa0 G _ _ _ _ _ _) hc145)) (fun hc145  => ?_)
   refine ym rfl rfl (yq rfl rfl rfl (.move rfl) (yq rfl rfl rfl (.move rfl) (yq rfl rfl rfl (.indexAddr rfl rfl (Zbi _ _)) (yg rfl rfl rfl rfl mr isAgg44 sizeOf44 Zbc ?_))))
   refine yq rfl rfl rfl (.move rfl) (yq rfl rfl rfl (.indexAddr rfl rfl (Zbg _ _)) (yg rfl rfl rfl rfl mr isAgg44 sizeOf44 Zad ?_))
   refine Qo rfl rfl rfl kk (vs := [_]) rfl call97 (Zds (norm (shL G (qv s0.1 s0.2) (qv s1.1 s1.2) (qv s2.1 s2.2) (qv s3.1 s3.2) (qv s4.1 s4.2) (qv s5.1 s5.2))) _ _ 4 1726 hP62 dd dd) ss dd ?_; rintro v148 Ψ148 ⟨ad148, c148, rfl, rfl⟩
   refine Qo rfl rfl rfl kk (vs := [_, _]) rfl call100 (Ze0 (norm (shL (norm (dxL G)) (qv s0.1 s0.2) (qv s1.1 s1.2) (qv s2.1 s2.2) (qv s3.1 s3.2) (qv s4.1 s4.2) (qv s5.1 s5.2))) _ _ 4 1741 hP117 dd dd (qv s1.1 s1.2) 4 oo dd) ss dd ?_; rintro v152 Ψ152 ⟨ad152, c152, rfl, rfl⟩
   refine Qo rfl rfl rfl kk (vs := [_, _]) rfl call100 (Ze0 (norm (shL (norm (dyL G)) (qv s0.1 s0.2) (qv s1.1 s1.2) (qv s2.1 s2.2) (qv s3.1 s3.2) (qv s4.1 s4.2) (qv s5.1 s5.2))) _ _ 4 1741 hP132 dd dd (qv s4.1 s4.2) 4 oo dd) ss dd ?_; rintro v156 Ψ156 ⟨ad156, c156, rfl, rfl⟩
   refine Qo rfl rfl rfl kk (vs := [_, _]) rfl call73 (Yv (norm (Zs (qv s1.1 s1.2) (norm (shL (norm (dxL G)) (qv s0.1 s0.2) (qv s1.1 s1.2) (qv s2.1 s2.2) (qv s3.1 s3.2) (qv s4.1 s4.2) (qv s5.1 s5.2))))) (norm (Zs (qv s4.1 s4.2) (norm (shL (norm (dyL G)) (qv s0.1 s0.2) (qv s1.1 s1.2) (qv s2.1 s2.2) (qv s3.1 s3.2) (qv s4.1 s4.2) (qv s5.1 s5.2))))) _ _ _ _ 4 4 1746 1746 (hP117.scale (c := qv s1.1 s1.2) (Kc := 4) oo dd) (hP132.scale (c := qv s4.1 s4.2) (Kc := 4) oo dd) dd dd dd dd) ss dd ?_; rintro v157 Ψ157 ⟨ad157, c157, rfl, rfl⟩
   refine Qp rfl rfl rfl kk (vs := [_, _]) rfl call25 (Vs (norm (dyL (norm (shL G (qv s0.1 s0.2) (qv s1.1 s1.2) (qv s2.1 s2.2) (qv s3.1 s3.2) (qv s4.1 s4.2) (qv s5.1 s5.2))))) (norm (norm (Zs (qv s1.1 s1.2) (norm (shL (norm (dxL G)) (qv s0.1 s0.2) (qv s1.1 s1.2) (qv s2.1 s2.2) (qv s3.1 s3.2) (qv s4.1 s4.2) (qv s5.1 s5.2)))) ++ norm (Zs (qv s4.1 s4.2) (norm (shL (norm (dyL G)) (qv s0.1 s0.2) (qv s1.1 s1.2) (qv s2.1 s2.2) (qv s3.1 s3.2) (qv s4.1 s4.2) (qv s5.1 s5.2)))))) _ _ _ _ 4 4 1727 3494 (hP62.dy dd) ((hP117.scale (c := qv s1.1 s1.2) (Kc := 4) oo dd).add (hP132.scale (c := qv s4.1 s4.2) (Kc := 4) oo dd) dd dd) dd dd dd dd) ss dd ?_
   refine yq rfl rfl rfl (.unOp rfl (Xe _)) ?_
   refine Zt (fun hc159  => (by exfalso; exact clN (Qaz G _ _ _ _ _ _) hc159)) (fun hc159  => ?_)
   refine yp rfl (.pickF rfl rfl) (yn ?_); intro a w h
   refine cW ?_
   refine Zj h rfl ?_
   refine gC h (zk (zS (zv [_] rfl call45 (Vw _ oo oo) ?_)))
   have hl161 := Zw (1) oo oo
   refine zv [_] rfl call45 (Vw _ oo oo) ?_
   have hl162 := Zw (0) oo oo
   refine zz Vd fun b23 => zz Vd fun b24 => zt' rfl rfl Qi uu sizeOf44 rfl nb rfl ?_
   refine zt' rfl rfl Qi uu sizeOf44 rfl nb rfl ?_; intro a w h
   refine gL h (zn (zs (yD Za [0, 2, 1, 3, 4, 5, 6, 7] (Xs ⟨.inl rfl, .inl rfl, .inl rfl, .inl rfl, .inr ⟨25, 44, _, _, _, rfl, rfl, by decide, _, Vd⟩, .inr ⟨26, 44, _, _, _, rfl, rfl, by decide, _, Vd⟩, .inl rfl, .inl rfl, trivial⟩) (yd rfl rfl mr isAgg25 sizeOf25 Zn ?_)))); clear h
   refine yd rfl rfl mr isAgg25 sizeOf25 Zn ?_
   refine yv [_] rfl rfl call62 (Zdr qu.1 qu.2 oo oo oo oo) ?_
   have hl164 := Ju qu.1 qu.2 oo oo oo oo
   refine yv [_] rfl rfl call62 (Zdr qw.1 qw.2 oo oo oo oo) ?_
   have hl166 := Ju qw.1 qw.2 oo oo oo oo
   refine yz rfl Vd fun b25 => yz rfl Vd fun b26 => yt rfl rfl rfl Qi uu sizeOf44 rfl nb rfl ?_
   refine yt rfl rfl rfl Qi uu sizeOf44 rfl nb rfl ?_
   refine yn (zS (zm rfl (zd rfl mr isAgg44 sizeOf44 Zh ?_)))
   refine zd rfl mr isAgg44 sizeOf44 Zh ?_
   refine zd rfl mr isAgg44 sizeOf44 Zh ?_
   refine zd rfl mr isAgg44 sizeOf44 Zh ?_
   refine zd rfl mr isAgg44 sizeOf44 Zh ?_
   refine zd rfl mr isAgg44 sizeOf44 Zh ?_
   refine zf [_, _, _, _, _, _, _] rfl call58 (Zei (norm (shL G (qv s0.1 s0.2) (qv s1.1 s1.2) (qv s2.1 s2.2) (qv s3.1 s3.2) (qv s4.1 s4.2) (qv s5.1 s5.2))) _ _ 4 1726 hP62 (((1 : Int) : Rat)) (((0 : Int) : Rat)) (qv qu.1 qu.2) (((0 : Int) : Rat)) (((1 : Int) : Rat)) (qv qw.1 qw.2) 4 dd oo oo oo oo oo oo dd dd) ?_; rintro v174 Ψ174 ⟨ad174, c174, rfl, rfl⟩
   have hP174 : Pq 4 27151 (norm (shL (norm (shL G (qv s0.1 s0.2) (qv s1.1 s1.2) (qv s2.1 s2.2) (qv s3.1 s3.2) (qv s4.1 s4.2) (qv s5.1 s5.2))) (((1 : Int) : Rat)) (((0 : Int) : Rat)) (qv qu.1 qu.2) (((0 : Int) : Rat)) (((1 : Int) : Rat)) (qv qw.1 qw.2))) := (Pq.shift (Kx := 4) hP62 oo oo oo oo oo oo dd).mono (Nat.le_refl _) kD
   refine za rfl (zn (zs (yD Za [0, 1, 2, 3, 4, 5, 6, 7, 9, 10, 11, 13, 14, 17, 18, 19, 20, 21, 22, 23, 25, 26, 27, 29, 30, 8, 12, 15, 16, 24, 28, 31, 32, 33, 34] (Zd kk) (ym rfl rfl (yp rfl (.indexAddr rfl rfl (Zbj _ _)) (yd rfl rfl mr isAgg44 sizeOf44 Zbd ?_))))))
   refine yp rfl (.indexAddr rfl rfl (Zbi _ _)) (yd rfl rfl mr isAgg44 sizeOf44 Zbc ?_)
   refine yp rfl (.indexAddr rfl rfl (Zbj _ _)) (yd rfl rfl mr isAgg44 sizeOf44 Zbd ?_)
   refine yd rfl rfl mr isAgg44 sizeOf44 Zh ?_
   refine yp rfl (.indexAddr rfl rfl (Zbi _ _)) (yd rfl rfl mr isAgg44 sizeOf44 Zbc ?_)
   refine yd rfl rfl mr isAgg44 sizeOf44 Zh ?_
   refine yp rfl (.indexAddr rfl rfl (Zd8 _ _)) (yd rfl rfl mr isAgg44 sizeOf44 Zcn ?_)
   refine yp rfl (.indexAddr rfl rfl (Zbh _ _)) (yd rfl rfl mr isAgg44 sizeOf44 Zae ?_)
   refine yp rfl (.indexAddr rfl rfl (Zbg _ _)) (yd rfl rfl mr isAgg44 sizeOf44 Zad ?_)
   refine yp rfl (.indexAddr rfl rfl (Zbh _ _)) (yd rfl rfl mr isAgg44 sizeOf44 Zae ?_)
   refine yd rfl rfl mr isAgg44 sizeOf44 Zh ?_
   refine yp rfl (.indexAddr rfl rfl (Zbg _ _)) (yd rfl rfl mr isAgg44 sizeOf44 Zad ?_)
   refine yd rfl rfl mr isAgg44 sizeOf44 Zh ?_
   refine yp rfl (.indexAddr rfl rfl (Zd7 _ _)) (yd rfl rfl mr isAgg44 sizeOf44 Zcm ?_)
   refine yv [_, _] rfl rfl call69 (Zaq _ _ oo oo) ?_
   have hl183 := Qf (qv s0.1 s0.2) (qv qu.1 qu.2)
   refine yv [_, _] rfl rfl call69 (Zaq _ _ oo oo) ?_
   have hl187 := Qf (qv s1.1 s1.2) (qv qw.1 qw.2)
   refine Xy hS rfl kk [(_, _), (_, _), (_, _)] rfl (Zal _ _ _ _ _ _ _ _ _ _ _ _ _ _ _) (cellsOf Jo [(qv s0.1 s0.2) * (qv qu.1 qu.2), (qv s1.1 s1.2) * (qv qw.1 qw.2), qv s2.1 s2.2]) rfl dd ?_; intro b190
   refine yw [_] rfl rfl call92 (Zto _ _ [(qv s0.1 s0.2) * (qv qu.1 qu.2), (qv s1.1 s1.2) * (qv qw.1 qw.2), qv s2.1 s2.2] ss (all3 oo oo oo)) (yv [_, _] rfl rfl call69 (Zaq _ _ oo oo) ?_)
   have hl199 := Qf (qv s3.1 s3.2) (qv qu.1 qu.2)
   refine yv [_, _] rfl rfl call69 (Zaq _ _ oo oo) ?_
   have hl203 := Qf (qv s4.1 s4.2) (qv qw.1 qw.2)
   refine Xy hS rfl kk [(_, _), (_, _), (_, _)] rfl (Zal _ _ _ _ _ _ _ _ _ _ _ _ _ _ _) (cellsOf Jo [(qv s3.1 s3.2) * (qv qu.1 qu.2), (qv s4.1 s4.2) * (qv qw.1 qw.2), qv s5.1 s5.2]) rfl dd ?_; intro b206
   refine yw [_] rfl rfl call92 (Zto _ _ [(qv s3.1 s3.2) * (qv qu.1 qu.2), (qv s4.1 s4.2) * (qv qw.1 qw.2), qv s5.1 s5.2] ss (all3 oo oo oo)) (yf [_, _, _, _, _, _, _] rfl rfl call58 (Zei G _ _ 4 31 hgx (qv s0.1 s0.2) (qv s1.1 s1.2) ([(qv s0.1 s0.2) * (qv qu.1 qu.2), (qv s1.1 s1.2) * (qv qw.1 qw.2), qv s2.1 s2.2].foldl (· + ·) 0) (qv s3.1 s3.2) (qv s4.1 s4.2) ([(qv s3.1 s3.2) * (qv qu.1 qu.2), (qv s4.1 s4.2) * (qv qw.1 qw.2), qv s5.1 s5.2].foldl (· + ·) 0) 25 dd oo oo (Nat.le_trans (Zty (a := 8) (b := 8) (c := 4) oo oo oo) dd) oo oo (Nat.le_trans (Zty (a := 8) (b := 8) (c := 4) oo oo oo) dd) dd dd) ?_); rintro v208 Ψ208 ⟨ad208, c208, rfl, rfl⟩
   have hP208 : Pq 4 5506 (norm (shL G (qv s0.1 s0.2) (qv s1.1 s1.2) ([(qv s0.1 s0.2) * (qv qu.1 qu.2), (qv s1.1 s1.2) * (qv qw.1 qw.2), qv s2.1 s2.2].foldl (· + ·) 0) (qv s3.1 s3.2) (qv s4.1 s4.2) ([(qv s3.1 s3.2) * (qv qu.1 qu.2), (qv s4.1 s4.2) * (qv qw.1 qw.2), qv s5.1 s5.2].foldl (· + ·) 0))) := (Pq.shift (Kx := 25) hgx oo oo (Nat.le_trans (Zty (a := 8) (b := 8) (c := 4) oo oo oo) dd) oo oo (Nat.le_trans (Zty (a := 8) (b := 8) (c := 4) oo oo oo) dd) dd).mono (Nat.le_refl _) kD
   refine yp rfl (.assign rfl) (yn (zS (zm rfl (zm rfl (zw [_, _] rfl call25 (Vs (norm (shL (norm (shL G (qv s0.1 s0.2) (qv s1.1 s1.2) (qv s2.1 s2.2) (qv s3.1 s3.2) (qv s4.1 s4.2) (qv s5.1 s5.2))) (((1 : Int) : Rat)) (((0 : Int) : Rat)) (qv qu.1 qu.2) (((0 : Int) : Rat)) (((1 : Int) : Rat)) (qv qw.1 qw.2))) (norm (shL G (qv s0.1 s0.2) (qv s1.1 s1.2) ([(qv s0.1 s0.2) * (qv qu.1 qu.2), (qv s1.1 s1.2) * (qv qw.1 qw.2), qv s2.1 s2.2].foldl (· + ·) 0) (qv s3.1 s3.2) (qv s4.1 s4.2) ([(qv s3.1 s3.2) * (qv qu.1 qu.2), (qv s4.1 s4.2) * (qv qw.1 qw.2), qv s5.1 s5.2].foldl (· + ·) 0))) _ _ _ _ 4 4 27151 5506 hP174 hP208 dd dd dd dd) ?_))))); intro a w h
   refine Zg h (fun hc211 h => ?_) (fun hc211 h => (by exfalso; exact clE (Zt2 G _ _ _ _ _ _ _ _) hc211))
   refine gL h (zm rfl (zq 212 rfl rfl (.move rfl) ?_)); clear h; intro a w h
   refine Ze 212 h rfl rfl (Vi h rfl mr isAgg44 sizeOf44 Zh dd ?_); clear h; intro a h
   refine Ze 212 h rfl rfl (Vi h rfl mr isAgg44 sizeOf44 Zh dd ?_); clear h; intro a h
   refine Ze 212 h rfl rfl (Vi h rfl mr isAgg44 sizeOf44 Zh dd ?_); clear h; intro a h
   refine Ze 212 h rfl rfl (Vi h rfl mr isAgg44 sizeOf44 Zh dd ?_); clear h; intro a h
   refine Ze 212 h rfl rfl (Vi h rfl mr isAgg44 sizeOf44 Zh dd ?_); clear h; intro a h
   refine Ze 212 h rfl rfl (Vi h rfl mr isAgg44 sizeOf44 Zh dd ?_); clear h; intro a h
   refine Ze 212 h rfl rfl (Xj h (vs := [_, _, _, _, _, _, _]) rfl call58 (Zei G _ _ 4 31 hgx (((1 : Int) : Rat)) (((0 : Int) : Rat)) (((0 : Int) : Rat)) (((0 : Int) : Rat)) (((1 : Int) : Rat)) (((0 : Int) : Rat)) 4 dd oo oo oo oo oo oo dd dd) ss dd ?_); clear h; rintro v220 Ψ220 a w ⟨ad220, c220, rfl, rfl⟩ h
   have hP220 : Pq 4 1726 (norm (shL G (((1 : Int) : Rat)) (((0 : Int) : Rat)) (((0 : Int) : Rat)) (((0 : Int) : Rat)) (((1 : Int) : Rat)) (((0 : Int) : Rat)))) := (Pq.shift (Kx := 4) hgx oo oo oo oo oo oo dd).mono (Nat.le_refl _) kD
   refine gL h (zq 212 rfl rfl (.move rfl) ?_); clear h; intro a w h
   refine Ze 212 h rfl rfl (Qb h (vs := [_, _]) rfl call25 (Vs (norm (shL G (((1 : Int) : Rat)) (((0 : Int) : Rat)) (((0 : Int) : Rat)) (((0 : Int) : Rat)) (((1 : Int) : Rat)) (((0 : Int) : Rat)))) G _ _ _ _ 4 4 1726 31 hP220 hgx dd dd dd dd) ss dd ?_); clear h; intro a w h
   refine Zg h (fun hc222 h => ?_) (fun hc222 h => (by exfalso; exact clE (Qay G) hc222))
   refine gL h (zp (.pickT rfl rfl) (zm rfl ?_)); clear h; intro a w h
   refine Ze 224 h rfl rfl (Yr h (vs := []) rfl call18 (Yk) dd ?_); clear h; intro a w h
   refine gL h (zp (.pickT rfl rfl) (za rfl (zn (zt ?_)))); clear h; intro a w h
   exact Zbw h
end
end Go.Proofs.YtddhlkfpdjmplaaGreatDoor
