/- Walks of functions. By an AI agent. -/
import Derived.Test.YtgkicbaomcmfoaaGreatDoorJoin1
import Derived.Test.YtgkicbaomcmfoaaGreatDoorFxG
set_option linter.unusedVariables false
set_option linter.unusedSimpArgs false
set_option maxRecDepth 4000
namespace Go.Proofs.YtgkicbaomcmfoaaGreatDoor
open Go Go.Proofs Go.Fx Tryz
attribute [local irreducible] Oper.wp Code.wp wpList Fx.Head wpOp
theorem Zdb (x0 : ByteArray) (w : World) : (Instr.buildSlice 87 1 [(0, .string x0)].toArray).run Tryz.prog w = .ok (.slice (some ⟨w.heap.size, 0, none⟩) 1 1) (w.alloc (.cells #[.string x0] 9 (0, 0))) := by
 simp [go_sem]
theorem Zcl (x : Rat) : (ab x).num = ((x.num.natAbs : Nat) : Int) ∧ (ab x).den = x.den := by
 unfold ab
 split
 ·
  rename_i h
  have h2 : x.num < 0 := by
   have h3 := @Rat.num_nonneg x
   have h4 : ¬ 0 ≤ x := by grind
   rw [← h3] at h4; omega
  rw [Rat.neg_num, Rat.neg_den]
  exact ⟨oo, rfl⟩
 ·
  rename_i h
  have h2 : ¬ x.num < 0 := by
   have h3 := @Rat.num_nonneg x
   have h4 : 0 ≤ x := by grind
   rw [← h3] at h4; omega
  exact ⟨oo, rfl⟩
theorem C_QAbs (x : Rat) (hx : Jr x ≤ 100000000000) : Xl Tryz.prog 44 [Vv x] (Vv (ab x)) := by
 obtain ⟨hx1, hx2⟩ := Gt hx
 obtain ⟨hab1, hab2⟩ := Zcl x
 refine fn_intro func44 rfl ntmps44 nb ?_
 intro S w0 a hS h
 refine gC h (zS (zx rfl fun b1 => zz Zg9 fun b2 => zn (zs (yD Za [0, 1, 4, 5, 2, 3, 6, 7] (Zf kk) (yp rfl (.fA rfl Ym) (yd rfl rfl mr isAgg51 sizeOf51 Xg ?_)))))); clear h
 refine yp rfl (.fA rfl Zh8) (yd rfl rfl mr isAgg47 sizeOf47 Zei ?_)
 refine yv [_] rfl rfl call76 (Zj6 x.num) (yv [_, _] rfl rfl call75 (Zde false x.num.natAbs) (yp rfl (.build [(_, _), (_, _)] rfl (Znq _ _ _ _ _)) (yt rfl rfl rfl Xa uu sizeOf53 rfl nb rfl ?_)))
 refine yn (zt ?_); intro a w h
 refine Jk h (Zd h rfl (.cell rfl mr isAgg53 sizeOf53 Zx)) ?_
 unfold Vv; rw [hab1, hab2]; rfl
theorem C_iFI (n : Nat) (hn : n < 100) : Xl Tryz.prog 167 [.int .i64 ((n : Nat) : Int), .int .i64 10] (.string (Ziy n)) := by
 refine fn_intro func167 rfl ntmps167 nb ?_
 intro S w0 a hS h
 refine gC h (zS (za rfl (zn (zs (zS (zm rfl (zp (.eql rfl rfl) (zn ?_)))))))); clear h; intro a w h
 refine cW ?_
 refine Zb h rfl (fun hc11 => ?_) (fun hc11 => (absurd hc11 dd))
 refine gC h (zs (zS (zm rfl (zp (.leq rfl rfl) ?_)))); clear h; intro a w h
 refine Zg h (fun hc13 h => ?_) (fun hc13 h => (by exfalso; have := of_decide_eq_false hc13; omega))
 refine gL h (zm rfl (zq 14 rfl rfl (.move rfl) (zq 14 rfl rfl (.lss rfl rfl) ?_))); clear h; intro a w h
 refine Zg h (fun hc16 h => ?_) (fun hc16 h => (by exfalso; have := of_decide_eq_false hc16; omega))
 refine gL h (zp (.pickT rfl rfl) (zn ?_)); clear h; intro a w h
 refine cW ?_
 refine Zj h rfl ?_
 refine gC h (zS (zm rfl (zv [_] rfl call182 (Zx9 n hn) (za rfl (zn (zt ?_)))))); clear h; intro a w h
 exact Zeh h
theorem Qfu (n : Nat) (hn : n < 100) : Xl Tryz.prog 120 [.int .i64 ((n : Nat) : Int)] (.string (Ziy n)) := by
 refine fn_intro func120 rfl ntmps120 nb ?_
 intro S w0 a hS h
 refine gC h (zS (za rfl (zn (zS (zm rfl (zv [_, _] rfl call167 (C_iFI n hn) (za rfl (zn (zt ?_))))))))); clear h; intro a w h
 exact Zeh h
theorem C_Itoa (n : Nat) (hn : n < 100) : Xl Tryz.prog 80 [.int .i64 ((n : Nat) : Int)] (.string (Ziy n)) := by
 refine fn_intro func80 rfl ntmps80 nb ?_
 intro S w0 a hS h
 refine gC h (zS (za rfl (zn (zS (zm rfl (zv [_] rfl call120 (Qfu n hn) (za rfl (zn (zt ?_))))))))); clear h; intro a w h
 exact Zeh h
def Za2 (s : ByteArray) (n : Nat) : List ByteArray := if n = 0 then [] else if n = 1 then [s] else [(s ++ ⟨#[94]⟩) ++ Ziy n]
theorem Zer {s : ByteArray} {n : Nat} (hs : s.size ≤ 1) : (Za2 s n).length ≤ 1 ∧ ∀ x ∈ Za2 s n, x.size ≤ 4 := by
 unfold Za2
 split
 · exact ⟨Nat.zero_le _, fun _ h => nomatch h⟩
 ·
  split
  · exact ⟨Nat.le_refl _, fun x hx => by rw [List.mem_singleton.1 hx]; omega⟩
  ·
   refine ⟨Nat.le_refl _, fun x hx => ?_⟩
   rw [List.mem_singleton.1 hx, ByteArray.size_append, ByteArray.size_append]
   have := Zbv n
   have h94 : (ByteArray.mk #[94]).size = 1 := rfl
   omega
theorem Zln (s : ByteArray) (n : Nat) (hn : n < 100) (hs : s.size ≤ 1) : Ctr Tryz.prog 46 [.string s, .int .i64 ((n : Nat) : Int)] [] (fun v Ψ => ∃ ad' c', v = .slice ad' (Za2 s n).length c' ∧ Ψ = [Row ad' (List.map encs (Za2 s n))]) := by
 refine fn_intro func46 rfl ntmps46 nb ?_
 intro S w0 a hS h
 refine gC h (zS (za rfl (zn (zs (zb (zS (zm rfl (zp (.eql rfl rfl) (za rfl (zn ?_)))))))))); clear h; intro a w h
 refine cW ?_
 refine Zb h rfl (fun hc5 => ?_) (fun hc5 => ?_)
 ·
  skip
  have hz : Za2 s n = [] := if_pos (Zcj hc5)
  refine gC h (zS (za rfl (zn (zt ?_)))); clear h; intro a w h
  replace h := h.derive (R := Row none (List.map encs (Za2 s n))) (fun X _ hne => absurd (by rw [hz]; rfl) hne)
  exact Zy (Ψ := [Row none (List.map encs (Za2 s n))]) h (Zd h rfl (.tmp rfl)) ⟨none, 0, by rw [hz]; rfl, rfl⟩ ss
 ·
  skip
  have hz0 : n ≠ 0 := Zbn hc5
  refine gC h (zS (zm rfl (zp (.eql rfl rfl) (za rfl (zn ?_))))); clear h; intro a w h
  refine cW ?_
  refine Zb h rfl (fun hc8 => ?_) (fun hc8 => ?_)
  ·
   skip
   have hz : Za2 s n = [s] := by unfold Za2; rw [if_neg hz0, if_pos (Zcj hc8)]
   refine gC h (zS (zm rfl (zB [(_, _)] rfl (Zdb _) fun b12 => ?_))); clear h; intro a w h
   replace h := h.shareAll hS (List.map encs ([s])) rfl
   refine gL h (za rfl (zn (zt ?_))); clear h; intro a w h
   exact Zy (Ψ := [Row (some ⟨b12, 0, none⟩) (List.map encs (Za2 s n))]) h (Zd h rfl (.tmp rfl)) ⟨_, 1, by rw [hz]; rfl, rfl⟩ (by rw [hz]; simp)
  ·
   skip
   have hz : Za2 s n = [(s ++ ⟨#[94]⟩) ++ Ziy n] := by unfold Za2; rw [if_neg hz0, if_neg (Zbn hc8)]
   refine gC h (zk (zS (zm rfl (zp (.binOp rfl rfl (fun _ => Qx _ _ _ _ _ (by have h94 : (ByteArray.mk #[94]).size = 1 := rfl; omega))) (zm rfl (zv [_] rfl call80 (C_Itoa n hn) (zp (.binOp rfl rfl (fun _ => Qx _ _ _ _ _ (by have h94 : (ByteArray.mk #[94]).size = 1 := rfl; have := Zbv n; rw [ByteArray.size_append]; omega))) (zB [(_, _)] rfl (Zdb _) fun b18 => ?_)))))))); clear h; intro a w h
   replace h := h.shareAll hS (List.map encs ([(s ++ (⟨#[94]⟩)) ++ (Ziy n)])) rfl
   refine gL h (za rfl (zn (zt ?_))); clear h; intro a w h
   exact Zy (Ψ := [Row (some ⟨b18, 0, none⟩) (List.map encs (Za2 s n))]) h (Zd h rfl (.tmp rfl)) ⟨_, 1, by rw [hz]; rfl, rfl⟩ (by rw [hz]; simp)
def hdB (tx : Rat → ByteArray) (t : Tm) : List ByteArray := if (!decide (ab t.c = ((1 : Int) : Rat)) || decide (t.i + t.j = 0)) = true then [tx (ab t.c)] else []
def Zzm (out : ByteArray) : Bool → Bool → ByteArray
 | true, true => ⟨#[45]⟩
 | true, false => out
 | false, true => out ++ ⟨#[32, 45, 32]⟩
 | false, false => out ++ ⟨#[32, 43, 32]⟩
def tmTx (tx : Rat → ByteArray) (t : Tm) : ByteArray := Zix ((hdB tx t ++ Za2 ⟨#[120]⟩ t.i) ++ Za2 ⟨#[121]⟩ t.j) ⟨#[42]⟩
def txP (tx : Rat → ByteArray) (p : List Tm) : Nat → ByteArray
 | 0 => ⟨#[]⟩
 | k + 1 => Zzm (txP tx p k) (decide (k = 0)) (decide ((p.getD k T0).c.num.sign < 0)) ++ tmTx tx (p.getD k T0)
def Zn8 (tx : Rat → ByteArray) (p : List Tm) : ByteArray := if txP tx p p.length = ⟨#[]⟩ then ⟨#[48]⟩ else txP tx p p.length
theorem Zws (tx : Rat → ByteArray) (t : Tm) : (hdB tx t).length ≤ 1 := by unfold hdB; split <;> simp
theorem Zjg {tx : Rat → ByteArray} {t : Tm} {M : Nat} (h : (tx (ab t.c)).size ≤ M) (hM : 4 ≤ M) : ((hdB tx t ++ Za2 ⟨#[120]⟩ t.i) ++ Za2 ⟨#[121]⟩ t.j).length ≤ 3 ∧ ∀ x ∈ (hdB tx t ++ Za2 ⟨#[120]⟩ t.i) ++ Za2 ⟨#[121]⟩ t.j, x.size ≤ M := by
 have h1 := Zws tx t
 obtain ⟨h2, h3⟩ := Zer (s := ⟨#[120]⟩) (n := t.i) (Nat.le_refl 1)
 obtain ⟨h4, h5⟩ := Zer (s := ⟨#[121]⟩) (n := t.j) (Nat.le_refl 1)
 refine ⟨by rw [List.length_append, List.length_append]; omega, fun x hx => ?_⟩
 rcases List.mem_append.1 hx with hx | hx
 ·
  rcases List.mem_append.1 hx with hx | hx
  ·
   unfold hdB at hx
   split at hx
   · rw [List.mem_singleton.1 hx]; exact h
   · cases hx
  · exact Nat.le_trans (h3 x hx) hM
 · exact Nat.le_trans (h5 x hx) hM
theorem Zlw {tx : Rat → ByteArray} {t : Tm} {M : Nat} (h : (tx (ab t.c)).size ≤ M) (hM : 4 ≤ M) : (tmTx tx t).size ≤ 3 * (M + 1) := by
 obtain ⟨h1, h2⟩ := Zjg h hM
 exact Nat.le_trans (Zjo M _ _ h2) (Nat.mul_le_mul_right (M + 1) h1)
theorem Zmc (out : ByteArray) (z b : Bool) : (Zzm out z b).size ≤ out.size + 3 := by
 have e1 : (ByteArray.mk #[45]).size = 1 := rfl
 have e2 : (ByteArray.mk #[32, 45, 32]).size = 3 := rfl
 have e3 : (ByteArray.mk #[32, 43, 32]).size = 3 := rfl
 cases z <;> cases b <;> simp only [Zzm, ByteArray.size_append] <;> omega
theorem Zp8 {tx : Rat → ByteArray} {p : List Tm} {M : Nat} (h : ∀ t ∈ p, (tx (ab t.c)).size ≤ M) (hM : 4 ≤ M) : ∀ k, k ≤ p.length → (txP tx p k).size ≤ k * (3 * (M + 1) + 3)
 | 0, _ => Nat.zero_le _
 | k + 1, hk => by
  have ih := Zp8 h hM k oo
  have h1 := Zlw (h _ (getD_mem p (d := T0) (show k < p.length by omega))) hM
  have h2 := Zmc (txP tx p k) (decide (k = 0)) (decide ((p.getD k T0).c.num.sign < 0))
  rw [txP, ByteArray.size_append, Nat.add_mul]; omega
theorem Zwx : ∀ l : List ByteArray, (List.map encs l).all flat = true
 | [] => rfl
 | t :: l => by rw [List.map_cons, List.all_cons, Zwx l]; rfl
theorem Zso (p : List Tm) (ad : Option Addr) (c d K M : Nat) (Φf : List Zp) (tx : Rat → ByteArray) (hq : Pq d K p) (hd : d ≤ 12) (hK : K ≤ 390000000) (hT : ∀ t ∈ norm p, Gn Tryz.prog 21 [Vv (ab t.c)] Φf (.string (tx (ab t.c)))) (hsz : ∀ t ∈ norm p, (tx (ab t.c)).size ≤ M) (hM : 4 ≤ M) (hM2 : M ≤ 100000000000) :
  Gn Tryz.prog 16 [.slice ad p.length c] (Row ad (cellsOf Qb p) :: Φf) (.string (Zn8 tx (norm p))) := by
 have hn91 := hq.n91 hd
 refine fn_intro func16 rfl ntmps16 nb ?_
 intro S w0 a hS h
 refine gC h (zS (za rfl (zn (zS (za rfl (zn (zs (zS (zm rfl (zf [_] rfl call39 (Ky p _ _ d K hq hd oo) ?_)))))))))); rintro v10 Ψ10 ⟨ad10, c10, rfl, rfl⟩
 refine zp (.builtin [_] rfl (Qd _ _ _)) (zm rfl (zn (zb ?_))); intro a w h
 refine Zi (fun (k : Nat) a w => k ≤ (norm p).length ∧ St 75 S w0 [(2, .string (⟨#[]⟩)), (3, .string (txP tx (norm p) k)), (10, .slice ad10 ((norm p).length) c10), (11, nI ((norm p).length)), (12, nI k)] [] (Row ad10 (cellsOf Qb (norm p)) :: Row ad (cellsOf Qb p) :: Φf) a w) (fun k => (norm p).length - k) 0 (⟨Nat.zero_le _, by exact (h).sub sA⟩) ?_; clear h
 rintro k a w ⟨hi_k, h⟩
 refine gC h (zS (zp (.lss rfl rfl) (zn (zs ?_)))); clear h; intro a w h
 refine Zb h rfl (fun hc13 => ?_) (fun hc13 => ?_)
 ·
  skip
  have hlt_k : k < (norm p).length := dT hc13
  obtain ⟨B_ad10, O_ad10, rfl⟩ := h.row_addr (ad := ad10) (M := cellsOf Qb (norm p)) mm (nE 7)
  have hnl : ([] : List ByteArray).length = 0 := rfl
  have hmem := getD_mem (norm p) (d := T0) hlt_k
  have hcs := hq.nsz _ hmem
  have hdg := (Yh hq.deg) _ hmem
  have hts := Zp8 hsz hM k oo
  have hkm := Nat.mul_le_mul_right (3 * (M + 1) + 3) (show k ≤ 91 by omega)
  obtain ⟨hps1, hps2⟩ := Zjg (hsz _ hmem) hM
  have hts2 := Zlw (hsz _ hmem) hM
  have hpp := Zmc (txP tx (norm p) k) (decide (k = 0)) (decide (((norm p).getD k T0).c.num.sign < 0))
  have hjm : ((hdB tx ((norm p).getD k T0) ++ Za2 ⟨#[120]⟩ ((norm p).getD k T0).i) ++ Za2 ⟨#[121]⟩ ((norm p).getD k T0).j).length * (M + (ByteArray.mk #[42]).size) ≤ 140737488355328 := Nat.le_trans (Nat.mul_le_mul hps1 (show M + (ByteArray.mk #[42]).size ≤ 100000000001 by show M + 1 ≤ _; omega)) dd
  have hhl := Zws tx ((norm p).getD k T0)
  have hll := (Zer (s := ⟨#[120]⟩) (n := ((norm p).getD k T0).i) (Nat.le_refl 1)).1
  have hll2 := (Zer (s := ⟨#[121]⟩) (n := ((norm p).getD k T0).j) (Nat.le_refl 1)).1
  refine gC h (zk (zs (zb (zS (zm rfl (zp (.indexAddr rfl rfl (Zc2 _ _ _ _ _ oo)) (zD rfl mm (cells_lt (k := 7) dd (fun _ => rfl) (norm p) k oo) isAgg82 sizeOf82 (Qn (k := 7) (fun _ => rfl) ((fun _ => rfl)) (norm p) T0 k oo) (.inl rfl) ?_)))))))
  refine zz Zdq fun b5 => za rfl (zt' rfl rfl Kg uu sizeOf82 rfl nb rfl ?_)
  refine zn (zS (zp (.fA rfl Vo) (zd rfl mr isAgg53 sizeOf53 Ki ?_)))
  refine zv [_] rfl call43 (Zf7 _) (zp (.lss rfl rfl) ?_); intro a w h
  refine Zg h (fun hc20 h => ?_) (fun hc20 h => ?_)
  focus
   have hb : decide (((norm p).getD k T0).c.num.sign < 0) = true := hc20
   refine gL h (za rfl (zn ?_)); clear h; intro a w h
   refine cW ?_
   refine Xu (fun a w => ∃ b5 : Nat, St 75 S w0 [(2, .string ⟨#[]⟩), (3, .string (Zzm (txP tx (norm p) k) (decide (k = 0)) (decide (((norm p).getD k T0).c.num.sign < 0)))), (5, pB b5), (10, .slice (some ⟨B_ad10, O_ad10, none⟩) (norm p).length c10), (11, nI ((norm p).length)), (12, nI k)] [(b5, bV (Qb ((norm p).getD k T0)) 82)] (Row (some ⟨B_ad10, O_ad10, none⟩) (cellsOf Qb (norm p)) :: Row ad (cellsOf Qb p) :: Φf) a w) ?_ ?_
   ·
    skip
    refine gC h (zb (zS (zm rfl (zp (.eql rfl rfl) ?_)))); clear h; intro a w h
    refine Zg h (fun hc23 h => ?_) (fun hc23 h => ?_)
    ·
     skip
     have hz : decide (k = 0) = true := decide_eq_true (Zcj hc23)
     refine gL h (zm rfl (zq 24 rfl rfl (.move rfl) (zp (.pickT rfl rfl) (za rfl (zn ?_))))); clear h; intro a w h
     refine cW ?_
     refine Zj h rfl ?_
     refine gC h (zr (za rfl (zn ?_))); clear h; intro a w h
     exact ⟨_, by rw [hz, hb]; exact h.sub sA⟩
    ·
     skip
     have hz : decide (k = 0) = false := decide_eq_false (Zbn hc23)
     refine gL h (zm rfl (zo 24 rfl rfl rfl (zp (.pickF rfl rfl) (za rfl (zn ?_))))); clear h; intro a w h
     refine cW ?_
     refine Ze h rfl ?_
     refine gC h (zS (zm rfl (zp (.gtr rfl rfl) ?_))); clear h; intro a w h
     refine Zg h (fun hc29 h => ?_) (fun hc29 h => (by exfalso; have : k ≠ 0 := Zbn hc23; have := of_decide_eq_false hc29; omega))
     refine gL h (zm rfl (zq 30 rfl rfl (.move rfl) (zp (.pickT rfl rfl) (za rfl (zn ?_))))); clear h; intro a w h
     refine cW ?_
     refine Zj h rfl ?_
     refine gC h (zr (zm rfl (zp (.binOp rfl rfl (fun _ => Qx _ _ _ _ _ (by rw [show (ByteArray.mk #[32, 45, 32]).size = 3 from rfl]; omega))) (za rfl (zn ?_))))); clear h; intro a w h
     exact ⟨_, by rw [hz, hb]; exact h.sub sA⟩
  rotate_left
  focus
   have hb : decide (((norm p).getD k T0).c.num.sign < 0) = false := hc20
   refine gL h (za rfl (zn ?_)); clear h; intro a w h
   refine cW ?_
   refine Xu (fun a w => ∃ b5 : Nat, St 75 S w0 [(2, .string ⟨#[]⟩), (3, .string (Zzm (txP tx (norm p) k) (decide (k = 0)) (decide (((norm p).getD k T0).c.num.sign < 0)))), (5, pB b5), (10, .slice (some ⟨B_ad10, O_ad10, none⟩) (norm p).length c10), (11, nI ((norm p).length)), (12, nI k)] [(b5, bV (Qb ((norm p).getD k T0)) 82)] (Row (some ⟨B_ad10, O_ad10, none⟩) (cellsOf Qb (norm p)) :: Row ad (cellsOf Qb p) :: Φf) a w) ?_ ?_
   ·
    skip
    refine gC h (zb (zS (zm rfl (zp (.eql rfl rfl) ?_)))); clear h; intro a w h
    refine Zg h (fun hc23 h => ?_) (fun hc23 h => ?_)
    ·
     skip
     have hz : decide (k = 0) = true := decide_eq_true (Zcj hc23)
     refine gL h (zm rfl (zq 24 rfl rfl (.move rfl) (zp (.pickT rfl rfl) (za rfl (zn ?_))))); clear h; intro a w h
     refine cW ?_
     refine Ze h rfl ?_
     refine gC h (zS (zm rfl (zp (.gtr rfl rfl) ?_))); clear h; intro a w h
     refine Zg h (fun hc29 h => (by exfalso; have : k = 0 := Zcj hc23; have := of_decide_eq_true hc29; omega)) (fun hc29 h => ?_)
     refine gL h (zm rfl (zo 30 rfl rfl rfl (zp (.pickF rfl rfl) (za rfl (zn ?_))))); clear h; intro a w h
     refine cW ?_
     refine Ze h rfl ?_
     refine gC h (zS (zm rfl (zp (.gtr rfl rfl) ?_))); clear h; intro a w h
     refine Zg h (fun hc37 h => (by exfalso; have : k = 0 := Zcj hc23; have := of_decide_eq_true hc37; omega)) (fun hc37 h => ?_)
     refine gL h (za rfl (zn ?_)); clear h; intro a w h
     refine cW ?_
     refine Ze h rfl ?_
     refine wp_skip ?_
     exact ⟨_, by rw [hz, hb]; exact h.sub sA⟩
    ·
     skip
     have hz : decide (k = 0) = false := decide_eq_false (Zbn hc23)
     refine gL h (zm rfl (zo 24 rfl rfl rfl (zp (.pickF rfl rfl) (za rfl (zn ?_))))); clear h; intro a w h
     refine cW ?_
     refine Ze h rfl ?_
     refine gC h (zS (zm rfl (zp (.gtr rfl rfl) ?_))); clear h; intro a w h
     refine Zg h (fun hc29 h => ?_) (fun hc29 h => (by exfalso; have : k ≠ 0 := Zbn hc23; have := of_decide_eq_false hc29; omega))
     refine gL h (zm rfl (zq 30 rfl rfl (.move rfl) (zp (.pickT rfl rfl) (za rfl (zn ?_))))); clear h; intro a w h
     refine cW ?_
     refine Ze h rfl ?_
     refine gC h (zS (zm rfl (zp (.gtr rfl rfl) ?_))); clear h; intro a w h
     refine Zg h (fun hc37 h => ?_) (fun hc37 h => (by exfalso; have : k ≠ 0 := Zbn hc23; have := of_decide_eq_false hc37; omega))
     refine gL h (za rfl (zn ?_)); clear h; intro a w h
     refine cW ?_
     refine Zj h rfl ?_
     refine gC h (zr (zm rfl (zp (.binOp rfl rfl (fun _ => Qx _ _ _ _ _ (by rw [show (ByteArray.mk #[32, 43, 32]).size = 3 from rfl]; omega))) (za rfl (zn ?_))))); clear h; intro a w h
     exact ⟨_, by rw [hz, hb]; exact h.sub sA⟩
  all_goals
   clear h
   rintro a w ⟨b5, h⟩
   refine gC h (zS (za rfl (zn ?_))); clear h; intro a w h
   refine cW ?_
   refine Xu (fun a w => ∃ (b5 : Nat) (ad7 : Option Addr) (c7 : Nat) (o7 : List (Nat × Obj)), GrowO 1 9 (.slice ad7 (hdB tx ((norm p).getD k T0)).length c7) (hdB tx ((norm p).getD k T0)).length (List.map encs (hdB tx ((norm p).getD k T0))) o7 ∧ St 75 S w0 [(2, .string ⟨#[]⟩), (3, .string (Zzm (txP tx (norm p) k) (decide (k = 0)) (decide (((norm p).getD k T0).c.num.sign < 0)))), (5, pB b5), (7, .slice ad7 (hdB tx ((norm p).getD k T0)).length c7), (10, .slice (some ⟨B_ad10, O_ad10, none⟩) (norm p).length c10), (11, nI ((norm p).length)), (12, nI k)] (o7 ++ [(b5, bV (Qb ((norm p).getD k T0)) 82)]) (Row (some ⟨B_ad10, O_ad10, none⟩) (cellsOf Qb (norm p)) :: Row ad (cellsOf Qb p) :: Φf) a w) ?_ ?_
   ·
    skip
    refine gC h (zS (zp (.fA rfl Vo) (zd rfl mr isAgg53 sizeOf53 Ki ?_)))
    refine zv [_] rfl call44 (C_QAbs ((norm p).getD k T0).c oo) (zz Zg9 fun b8 => zt' rfl rfl Xa uu sizeOf53 rfl nb rfl ?_)
    refine zn (zs (yD Za [0, 1, 2, 3, 4, 5, 6, 7, 8, 9, 10] (Zf kk) (yd rfl rfl mr isAgg53 sizeOf53 Zx ?_)))
    refine yv [_] rfl rfl call22 (Zj7 _ oo oo) ?_
    have hl44 := Jp (1) oo oo
    refine yp rfl (.binOp rfl rfl (fun _ => Qdo _ _ (ab ((norm p).getD k T0).c) (((1 : Int) : Rat)) _)) ?_
    refine Xs (fun hc45  => ?_) (fun hc45  => ?_)
    focus
     have hhd : hdB tx ((norm p).getD k T0) = [] ++ [tx (ab ((norm p).getD k T0).c)] := by unfold hdB; rw [if_pos (by simpa using Or.inl (by simpa using hc45))]; rfl
     refine ym rfl rfl (yo 46 rfl rfl rfl rfl (yo 46 rfl rfl rfl rfl (yo 46 rfl rfl rfl rfl (yo 46 rfl rfl rfl rfl (yo 46 rfl rfl rfl rfl (yo 46 rfl rfl rfl rfl (yp rfl (.pickT rfl rfl) (yn ?_)))))))); intro a w h
    rotate_left
    focus
     refine ym rfl rfl (yq rfl rfl rfl (.fA rfl Kn) (yg rfl rfl rfl rfl mr isAgg3 sizeOf3 Zaw ?_))
     refine yq rfl rfl rfl (.fA rfl Vp) (yg rfl rfl rfl rfl mr isAgg3 sizeOf3 Gg ?_)
     refine yq rfl rfl rfl (.pN ((((norm p).getD k T0).i) + (((norm p).getD k T0).j)) (.add rfl rfl)) (yq rfl rfl rfl (.eql rfl rfl) ?_)
     refine Xs (fun hc52  => ?_) (fun hc52  => ?_)
     rotate_left
     ·
      skip
      have hhd : hdB tx ((norm p).getD k T0) = [] := by
       have h8 : ab ((norm p).getD k T0).c = ((1 : Int) : Rat) := by simpa using hc45
       have h9 := Zbn hc52
       unfold hdB; rw [if_neg]; simp only [Bool.or_eq_true, Bool.not_eq_true', decide_eq_false_iff_not, decide_eq_true_eq, not_or, Decidable.not_not]; exact ⟨h8, h9⟩
      refine yp rfl (.pickF rfl rfl) (yn ?_); intro a w h
      refine cW ?_
      refine Ze h rfl ?_
      refine wp_skip ?_
      exact ⟨b5, none, 0, [], by rw [hhd]; exact GrowO.nil _ _, by rw [hhd]; exact (h.drop (by repeat (first | exact List.Sublist.refl _ | apply List.Sublist.cons))).sub sA⟩
     have hhd : hdB tx ((norm p).getD k T0) = [] ++ [tx (ab ((norm p).getD k T0).c)] := by unfold hdB; rw [if_pos (by have h9 := Zcj hc52; simp only [Bool.or_eq_true, decide_eq_true_eq]; exact Or.inr h9)]; rfl
     refine yp rfl (.pickF rfl rfl) (yn ?_); intro a w h
    all_goals
     refine cW ?_
     refine Zj h rfl ?_
     refine gC h (zr (zm rfl (zd rfl mr isAgg53 sizeOf53 Zx ?_))); clear h; intro a w h
     refine Zc (Qo h (vs := [_]) rfl call21 (hT _ hmem) (by intro R hR; simp [hR]) dd ?_); clear h; intro a w h
     refine gL h (zB [(_, _)] rfl (Zdb _) fun b57 => ?_); clear h; intro a w h
     refine Zc (Yj (σr := [(b8, bV (Vv (ab ((norm p).getD k T0).c)) 53), (b5, bV (Qb ((norm p).getD k T0)) 82)]) h rfl rfl (List.Perm.refl _) (GrowO.nil _ _ : GrowO 1 9 (.slice none 0 0) 0 (List.map encs []) []) runUnderlying87 runUnderlying87 typeInfo9 sizeOf9 zeroValue9 rfl dd dd rfl rfl dd (by show 16 * (2 * ((([] : List ByteArray)).length + 1) + 192) ≤ 281474976710656; omega) dd ?_); clear h
     intro v58 o58 a w hG58 h
     obtain ⟨ad58, c58, rfl⟩ := hG58.is
     have hLn58 : (0 : Nat) + 1 = (([] : List ByteArray) ++ [tx (ab ((norm p).getD k T0).c)]).length := lA
     rw [hLn58] at h hG58
     replace hG58 : GrowO 1 9 (.slice ad58 (([] : List ByteArray) ++ [tx (ab ((norm p).getD k T0).c)]).length c58) (([] : List ByteArray) ++ [tx (ab ((norm p).getD k T0).c)]).length (List.map encs (([] : List ByteArray) ++ [tx (ab ((norm p).getD k T0).c)])) o58 := by rw [List.map_append]; exact hG58
     refine gL h (za rfl (zn ?_)); clear h; intro a w h
     exact ⟨b5, ad58, c58, o58, by rw [hhd]; exact hG58, by rw [hhd]; exact ((h.perm (Zzs (List.Perm.refl _)).symm).drop (by repeat (first | exact List.Sublist.refl _ | apply List.Sublist.cons))).sub sA⟩
   ·
    skip
    clear h
    rintro a w ⟨b5, ad7, c7, o7, hG7, h⟩
    refine gC h (yD Za [0, 1, 2, 3, 6, 7, 4, 5, 8, 9, 10, 11, 12] (Zf kk) (ym rfl rfl (ym rfl rfl (yp rfl (.fA rfl Kn) (yd rfl rfl mr isAgg3 sizeOf3 Zaw ?_))))); clear h
    refine yp rfl (.fA rfl Vp) ?_
    refine Zmz kk ?_; intro a w h
    refine Zci [4, 7] kk dd ?_; intro i hi
    simp only [List.mem_cons, List.not_mem_nil, or_false] at hi
    rcases hi with rfl | rfl
    focus
     refine Zub h (vs := [_, _]) rfl rfl call46 (Zln ⟨#[120]⟩ ((norm p).getD k T0).i oo (Nat.le_refl 1)) ss dd ?_; clear h; rintro v63 Ψ63 a w ⟨ad63, c63, rfl, rfl⟩ h
     refine Zci [5, 7] kk dd ?_; intro i hi
     simp only [List.mem_cons, List.not_mem_nil, or_false] at hi
     rcases hi with rfl | rfl
     focus
      refine Zeb (o := o7) h rfl rfl hG7 rfl mm runUnderlying87 runUnderlying87 typeInfo9 sizeOf9 zeroValue9 rfl dd dd (by rw [List.length_map, Nat.mul_one]) (Zwx _) (by show 16 * _ ≤ 281474976710656; omega) dd ?_; clear h; intro v64 o64 a w hG64 h; obtain ⟨ad64, c64, rfl⟩ := hG64.is
      have e64 : (hdB tx ((norm p).getD k T0)).length + (Za2 ⟨#[120]⟩ ((norm p).getD k T0).i).length = (hdB tx ((norm p).getD k T0) ++ Za2 ⟨#[120]⟩ ((norm p).getD k T0).i).length := (List.length_append ..).symm
      rw [e64] at h
      rw [e64, ← List.map_append] at hG64
      refine Zci [7] kk dd ?_; intro i hi
      simp only [List.mem_cons, List.not_mem_nil, or_false] at hi
      rcases hi with rfl
      refine Zn9 h rfl rfl mr isAgg3 sizeOf3 Gg dd ?_; clear h; intro a h
     rotate_left
     focus
      refine Zn9 h rfl rfl mr isAgg3 sizeOf3 Gg dd ?_; clear h; intro a h
      refine Zci [5] kk dd ?_; intro i hi
      simp only [List.mem_cons, List.not_mem_nil, or_false] at hi
      rcases hi with rfl
      refine Zeb (o := o7) h rfl rfl hG7 rfl mm runUnderlying87 runUnderlying87 typeInfo9 sizeOf9 zeroValue9 rfl dd dd (by rw [List.length_map, Nat.mul_one]) (Zwx _) (by show 16 * _ ≤ 281474976710656; omega) dd ?_; clear h; intro v64 o64 a w hG64 h; obtain ⟨ad64, c64, rfl⟩ := hG64.is
      have e64 : (hdB tx ((norm p).getD k T0)).length + (Za2 ⟨#[120]⟩ ((norm p).getD k T0).i).length = (hdB tx ((norm p).getD k T0) ++ Za2 ⟨#[120]⟩ ((norm p).getD k T0).i).length := (List.length_append ..).symm
      rw [e64] at h
      rw [e64, ← List.map_append] at hG64
    rotate_left 2
    focus
     refine Zn9 h rfl rfl mr isAgg3 sizeOf3 Gg dd ?_; clear h; intro a h
     refine Zci [4] kk dd ?_; intro i hi
     simp only [List.mem_cons, List.not_mem_nil, or_false] at hi
     rcases hi with rfl
     refine Zub h (vs := [_, _]) rfl rfl call46 (Zln ⟨#[120]⟩ ((norm p).getD k T0).i oo (Nat.le_refl 1)) ss dd ?_; clear h; rintro v63 Ψ63 a w ⟨ad63, c63, rfl, rfl⟩ h
     refine Zci [5] kk dd ?_; intro i hi
     simp only [List.mem_cons, List.not_mem_nil, or_false] at hi
     rcases hi with rfl
     refine Zeb (o := o7) h rfl rfl hG7 rfl mm runUnderlying87 runUnderlying87 typeInfo9 sizeOf9 zeroValue9 rfl dd dd (by rw [List.length_map, Nat.mul_one]) (Zwx _) (by show 16 * _ ≤ 281474976710656; omega) dd ?_; clear h; intro v64 o64 a w hG64 h; obtain ⟨ad64, c64, rfl⟩ := hG64.is
     have e64 : (hdB tx ((norm p).getD k T0)).length + (Za2 ⟨#[120]⟩ ((norm p).getD k T0).i).length = (hdB tx ((norm p).getD k T0) ++ Za2 ⟨#[120]⟩ ((norm p).getD k T0).i).length := (List.length_append ..).symm
     rw [e64] at h
     rw [e64, ← List.map_append] at hG64
    all_goals
     refine Zci [8] kk dd ?_; intro i hi
     simp only [List.mem_cons, List.not_mem_nil, or_false] at hi
     rcases hi with rfl
     refine Zub h (vs := [_, _]) rfl rfl call46 (Zln ⟨#[121]⟩ ((norm p).getD k T0).j oo (Nat.le_refl 1)) ss dd ?_; clear h; rintro v67 Ψ67 a w ⟨ad67, c67, rfl, rfl⟩ h
     refine Zci [9] kk dd ?_; intro i hi
     simp only [List.mem_cons, List.not_mem_nil, or_false] at hi
     rcases hi with rfl
     refine Zeb (o := o64) h rfl rfl hG64 rfl mm runUnderlying87 runUnderlying87 typeInfo9 sizeOf9 zeroValue9 rfl dd dd (by rw [List.length_map, Nat.mul_one]) (Zwx _) (by show 16 * _ ≤ 281474976710656; omega) dd ?_; clear h; intro v68 o68 a w hG68 h; obtain ⟨ad68, c68, rfl⟩ := hG68.is
     have e68 : (hdB tx ((norm p).getD k T0) ++ Za2 ⟨#[120]⟩ ((norm p).getD k T0).i).length + (Za2 ⟨#[121]⟩ ((norm p).getD k T0).j).length = ((hdB tx ((norm p).getD k T0) ++ Za2 ⟨#[120]⟩ ((norm p).getD k T0).i) ++ Za2 ⟨#[121]⟩ ((norm p).getD k T0).j).length := (List.length_append ..).symm
     rw [e68] at h
     rw [e68, ← List.map_append] at hG68
     replace h := h.shareO' hS hG68
     refine Zci [10] kk dd ?_; intro i hi
     simp only [List.mem_cons, List.not_mem_nil, or_false] at hi
     rcases hi with rfl
     refine Zua h (vs := [_, _]) rfl rfl call45 (Qc1 ad68 c68 ((hdB tx ((norm p).getD k T0) ++ Za2 ⟨#[120]⟩ ((norm p).getD k T0).i) ++ Za2 ⟨#[121]⟩ ((norm p).getD k T0).j) ⟨#[42]⟩ hG68.cap oo M hps2 hjm) ss dd ?_; clear h; intro a w h
     refine Zci [11] kk dd ?_; intro i hi
     simp only [List.mem_cons, List.not_mem_nil, or_false] at hi
     rcases hi with rfl
     refine Qbu h rfl (.binOp rfl rfl (fun _ => Qx _ _ _ _ _ (by unfold tmTx at hts2; omega))) dd ?_; clear h; intro a h
     refine Zci [12] kk dd ?_; intro i hi
     simp only [List.mem_cons, List.not_mem_nil, or_false] at hi
     rcases hi with rfl
     refine Qbu h rfl (.assign rfl) dd ?_; clear h; intro a h
     refine x_end kk ?_
     refine cW ?_
     refine gC h (zr (zp (.pN (k + 1) (.add rfl rfl)) (zm rfl (zn ?_)))); clear h; intro a w h
     have htk : txP tx (norm p) (k + 1) = Zzm (txP tx (norm p) k) (decide (k = 0)) (decide (((norm p).getD k T0).c.num.sign < 0)) ++ Zix ((hdB tx ((norm p).getD k T0) ++ Za2 ⟨#[120]⟩ ((norm p).getD k T0).i) ++ Za2 ⟨#[121]⟩ ((norm p).getD k T0).j) ⟨#[42]⟩ := rfl
     rw [← htk] at h
     exact ⟨k + 1, ⟨oo, ((h.drop sl).factsSub (by exact (fun _ hR => by repeat (first | exact hR | apply List.Mem.tail)))).sub sA⟩, oo⟩
 ·
  skip
  have heq_k : (norm p).length = k := dF hc13
  subst heq_k
  refine gC h (ze (zs (zS (zm rfl (zp (.binOp rfl rfl (fun _ => Jv _ _ _ _ _)) (zn ?_)))))); clear h; intro a w h
  refine cW ?_
  refine Zb h rfl (fun hc73 => ?_) (fun hc73 => ?_)
  ·
   skip
   refine gC h (zS (za rfl (zn (zt ?_)))); clear h; intro a w h
   refine Jk h (Zd h rfl (.tmp rfl)) ?_
   unfold Zn8; rw [if_pos (by simpa using hc73)]
  ·
   skip
   refine gC h (zk (zS (zm rfl (za rfl (zn (zt ?_)))))); clear h; intro a w h
   refine Jk h (Zd h rfl (.tmp rfl)) ?_
   unfold Zn8; rw [if_neg (by simpa using hc73)]
end Go.Proofs.YtgkicbaomcmfoaaGreatDoor
