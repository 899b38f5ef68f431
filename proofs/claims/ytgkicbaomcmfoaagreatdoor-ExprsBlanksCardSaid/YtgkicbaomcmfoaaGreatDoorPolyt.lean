/- Written by a program of ours (gen.py) out of short specifications. By an AI agent. -/
import Derived.Test.YtgkicbaomcmfoaaGreatDoorJoin1
import Derived.Test.YtgkicbaomcmfoaaGreatDoorFxG
set_option linter.unusedVariables false
set_option linter.unusedSimpArgs false
set_option maxRecDepth 4000
namespace Go.Proofs.YtgkicbaomcmfoaaGreatDoor
open Go Go.Proofs Go.Fx
attribute [local irreducible] Oper.wp Code.wp wpList Fx.Head wpOp
theorem bs_87_1_0 (x0 : ByteArray) (w : World) : (Instr.buildSlice 87 1 [(0, .string x0)].toArray).run Tryz.prog w = .ok (.slice (some ⟨w.heap.size, 0, none⟩) 1 1) (w.alloc (.cells #[.string x0] 9 (0, 0))) := by
  simp [go_sem]
theorem ab_num (x : Rat) : (ab x).num = ((x.num.natAbs : Nat) : Int) ∧ (ab x).den = x.den := by
  unfold ab
  split
  · rename_i h
    have h2 : x.num < 0 := by
      have h3 := @Rat.num_nonneg x
      have h4 : ¬ 0 ≤ x := by grind
      rw [← h3] at h4; omega
    rw [Rat.neg_num, Rat.neg_den]
    exact ⟨by omega, rfl⟩
  · rename_i h
    have h2 : ¬ x.num < 0 := by
      have h3 := @Rat.num_nonneg x
      have h4 : 0 ≤ x := by grind
      rw [← h3] at h4; omega
    exact ⟨by omega, rfl⟩
theorem C_QAbs (x : Rat) (hx : lenQ x ≤ 100000000000) : CtrV Tryz.prog 44 [encQ x] (encQ (ab x)) := by
  obtain ⟨hx1, hx2⟩ := lenQ_le hx
  obtain ⟨hab1, hab2⟩ := ab_num x
  refine fn_intro Tryz.func44 rfl Tryz.ntmps44 nb ?_
  intro S w0 a hS h
  refine gC h (zs (zr (zx rfl fun b1 => zz zeroQ fun b2 => zn (zs (yD mixed_YtgkicbaomcmfoaaGreatDoor [0, 1, 4, 5, 2, 3, 6, 7] (floatsOK_none (by kernel_rfl)) (yp rfl (.fieldAddr rfl (fa_53_0 _ _)) (yd rfl rfl mr Tryz.isAgg51 Tryz.sizeOf51 (rd_5_0_3 _ _ _ _ _) ?_))))))); clear h
  refine yp rfl (.fieldAddr rfl (fa_53_1 _ _)) (yd rfl rfl mr Tryz.isAgg47 Tryz.sizeOf47 (rd_5_3_2 _ _ _ _ _) ?_)
  refine yv [_] rfl rfl Tryz.call76 (C_ZAbs x.num) (yv [_, _] rfl rfl Tryz.call75 (C_From false x.num.natAbs) (yp rfl (.build [(_, _), (_, _)] rfl (bd_53_0_1 _ _ _ _ _)) (yt rfl rfl rfl (st_5_0_5 _ _ _ _ _ _ _ _ _ _) uu Tryz.sizeOf53 rfl nb rfl ?_)))
  refine yn (zt ?_); intro a w h
  refine retV h (results1 h rfl (.cell rfl mr Tryz.isAgg53 Tryz.sizeOf53 (rd_5_0_5 _ _ _ _ _))) ?_
  unfold encQ; rw [hab1, hab2]; rfl
theorem C_iFI (n : Nat) (hn : n < 100) : CtrV Tryz.prog 167 [.int .i64 ((n : Nat) : Int), .int .i64 10] (.string (digS n)) := by
  refine fn_intro Tryz.func167 rfl Tryz.ntmps167 nb ?_
  intro S w0 a hS h
  refine gC h (zs (zr (za rfl (zn (zs (zs (zr (zm rfl (zp (.eql rfl rfl) (zn ?_)))))))))); clear h; intro a w h
  change Code.wp _ _ _ _ _
  refine cond_split h rfl (fun hc11 => ?_) (fun hc11 => (by exfalso; exact absurd hc11 (by decide)))
  refine gC h (zs (zs (zr (zm rfl (zp (.leq rfl rfl) ?_))))); clear h; intro a w h
  refine by_bool h (fun hc13 h => ?_) (fun hc13 h => (by exfalso; have := of_decide_eq_false hc13; omega))
  refine gL h (zm rfl (zq 14 rfl rfl (.move rfl) (zq 14 rfl rfl (.lss rfl rfl) ?_))); clear h; intro a w h
  refine by_bool h (fun hc16 h => ?_) (fun hc16 h => (by exfalso; have := of_decide_eq_false hc16; omega))
  refine gL h (zp (.pickT rfl rfl) (zn ?_)); clear h; intro a w h
  change Code.wp _ _ _ _ _
  refine cond_true h rfl ?_
  refine gC h (zs (zr (zm rfl (zv [_] rfl Tryz.call182 (C_small n hn) (za rfl (zn (zt ?_))))))); clear h; intro a w h
  refine retV h (results1 h rfl (.tmp rfl)) ?_
  rfl
theorem C_iItoa (n : Nat) (hn : n < 100) : CtrV Tryz.prog 120 [.int .i64 ((n : Nat) : Int)] (.string (digS n)) := by
  refine fn_intro Tryz.func120 rfl Tryz.ntmps120 nb ?_
  intro S w0 a hS h
  refine gC h (zs (zr (za rfl (zn (zs (zr (zm rfl (zv [_, _] rfl Tryz.call167 (C_iFI n hn) (za rfl (zn (zt ?_))))))))))); clear h; intro a w h
  refine retV h (results1 h rfl (.tmp rfl)) ?_
  rfl
theorem C_Itoa (n : Nat) (hn : n < 100) : CtrV Tryz.prog 80 [.int .i64 ((n : Nat) : Int)] (.string (digS n)) := by
  refine fn_intro Tryz.func80 rfl Tryz.ntmps80 nb ?_
  intro S w0 a hS h
  refine gC h (zs (zr (za rfl (zn (zs (zr (zm rfl (zv [_] rfl Tryz.call120 (C_iItoa n hn) (za rfl (zn (zt ?_))))))))))); clear h; intro a w h
  refine retV h (results1 h rfl (.tmp rfl)) ?_
  rfl
def letL (s : ByteArray) (n : Nat) : List ByteArray := if n = 0 then [] else if n = 1 then [s] else [(s ++ ⟨#[94]⟩) ++ digS n]
theorem letL_size {s : ByteArray} {n : Nat} (hs : s.size ≤ 1) : (letL s n).length ≤ 1 ∧ ∀ x ∈ letL s n, x.size ≤ 4 := by
  unfold letL
  split
  · exact ⟨Nat.zero_le _, fun _ h => nomatch h⟩
  · split
    · exact ⟨Nat.le_refl _, fun x hx => by rw [List.mem_singleton.1 hx]; omega⟩
    · refine ⟨Nat.le_refl _, fun x hx => ?_⟩
      rw [List.mem_singleton.1 hx, ByteArray.size_append, ByteArray.size_append]
      have := digS_size n
      have h94 : (ByteArray.mk #[94]).size = 1 := rfl
      omega
theorem C_letter (s : ByteArray) (n : Nat) (hn : n < 100) (hs : s.size ≤ 1) : Ctr Tryz.prog 46 [.string s, .int .i64 ((n : Nat) : Int)] [] (fun v Ψ => ∃ ad' c', v = .slice ad' (letL s n).length c' ∧ Ψ = [Row ad' (List.map encs (letL s n))]) := by
  refine fn_intro Tryz.func46 rfl Tryz.ntmps46 nb ?_
  intro S w0 a hS h
  refine gC h (zs (zr (za rfl (zn (zs (zb (zs (zr (zm rfl (zp (.eql rfl rfl) (za rfl (zn ?_)))))))))))); clear h; intro a w h
  change Code.wp _ _ _ _ _
  refine cond_split h rfl (fun hc5 => ?_) (fun hc5 => ?_)
  · skip
    have hz : letL s n = [] := if_pos (natEq' hc5)
    refine gC h (zs (zr (za rfl (zn (zt ?_))))); clear h; intro a w h
    replace h := h.derive (R := Row none (List.map encs (letL s n))) (fun X _ hne => absurd (by rw [hz]; rfl) hne)
    exact ret_of (Ψ := [Row none (List.map encs (letL s n))]) h (results1 h rfl (.tmp rfl)) ⟨none, 0, by rw [hz]; rfl, rfl⟩ (by simp)
  · skip
    have hz0 : n ≠ 0 := natNe' hc5
    refine gC h (zs (zr (zm rfl (zp (.eql rfl rfl) (za rfl (zn ?_)))))); clear h; intro a w h
    change Code.wp _ _ _ _ _
    refine cond_split h rfl (fun hc8 => ?_) (fun hc8 => ?_)
    · skip
      have hz : letL s n = [s] := by unfold letL; rw [if_neg hz0, if_pos (natEq' hc8)]
      refine gC h (zs (zr (zm rfl (zB [(_, _)] rfl (bs_87_1_0 _) fun b12 => ?_)))); clear h; intro a w h
      replace h := h.shareAll hS (List.map encs ([s])) rfl
      refine gL h (za rfl (zn (zt ?_))); clear h; intro a w h
      exact ret_of (Ψ := [Row (some ⟨b12, 0, none⟩) (List.map encs (letL s n))]) h (results1 h rfl (.tmp rfl)) ⟨_, 1, by rw [hz]; rfl, rfl⟩ (by rw [hz]; simp)
    · skip
      have hz : letL s n = [(s ++ ⟨#[94]⟩) ++ digS n] := by unfold letL; rw [if_neg hz0, if_neg (natNe' hc8)]
      refine gC h (zk (zs (zr (zm rfl (zp (.binOp rfl rfl (fun _ => run_sadd _ _ _ _ _ (by have h94 : (ByteArray.mk #[94]).size = 1 := rfl; omega))) (zm rfl (zv [_] rfl Tryz.call80 (C_Itoa n hn) (zp (.binOp rfl rfl (fun _ => run_sadd _ _ _ _ _ (by have h94 : (ByteArray.mk #[94]).size = 1 := rfl; have := digS_size n; rw [ByteArray.size_append]; omega))) (zB [(_, _)] rfl (bs_87_1_0 _) fun b18 => ?_))))))))); clear h; intro a w h
      replace h := h.shareAll hS (List.map encs ([(s ++ (⟨#[94]⟩)) ++ (digS n)])) rfl
      refine gL h (za rfl (zn (zt ?_))); clear h; intro a w h
      exact ret_of (Ψ := [Row (some ⟨b18, 0, none⟩) (List.map encs (letL s n))]) h (results1 h rfl (.tmp rfl)) ⟨_, 1, by rw [hz]; rfl, rfl⟩ (by rw [hz]; simp)
def hdB (tx : Rat → ByteArray) (t : Tm) : List ByteArray := if (!decide (ab t.c = ((1 : Int) : Rat)) || decide (t.i + t.j = 0)) = true then [tx (ab t.c)] else []
def preP (out : ByteArray) : Bool → Bool → ByteArray
  | true, true => ⟨#[45]⟩
  | true, false => out
  | false, true => out ++ ⟨#[32, 45, 32]⟩
  | false, false => out ++ ⟨#[32, 43, 32]⟩
def tmTx (tx : Rat → ByteArray) (t : Tm) : ByteArray := joinB ((hdB tx t ++ letL ⟨#[120]⟩ t.i) ++ letL ⟨#[121]⟩ t.j) ⟨#[42]⟩
def txP (tx : Rat → ByteArray) (p : List Tm) : Nat → ByteArray
  | 0 => ⟨#[]⟩
  | k + 1 => preP (txP tx p k) (decide (k = 0)) (decide ((p.getD k T0).c.num.sign < 0)) ++ tmTx tx (p.getD k T0)
def txtP (tx : Rat → ByteArray) (p : List Tm) : ByteArray := if txP tx p p.length = ⟨#[]⟩ then ⟨#[48]⟩ else txP tx p p.length
theorem hdB_len (tx : Rat → ByteArray) (t : Tm) : (hdB tx t).length ≤ 1 := by unfold hdB; split <;> simp
theorem parts_size {tx : Rat → ByteArray} {t : Tm} {M : Nat} (h : (tx (ab t.c)).size ≤ M) (hM : 4 ≤ M) : ((hdB tx t ++ letL ⟨#[120]⟩ t.i) ++ letL ⟨#[121]⟩ t.j).length ≤ 3 ∧ ∀ x ∈ (hdB tx t ++ letL ⟨#[120]⟩ t.i) ++ letL ⟨#[121]⟩ t.j, x.size ≤ M := by
  have h1 := hdB_len tx t
  obtain ⟨h2, h3⟩ := letL_size (s := ⟨#[120]⟩) (n := t.i) (Nat.le_refl 1)
  obtain ⟨h4, h5⟩ := letL_size (s := ⟨#[121]⟩) (n := t.j) (Nat.le_refl 1)
  refine ⟨by rw [List.length_append, List.length_append]; omega, fun x hx => ?_⟩
  rcases List.mem_append.1 hx with hx | hx
  · rcases List.mem_append.1 hx with hx | hx
    · unfold hdB at hx
      split at hx
      · rw [List.mem_singleton.1 hx]; exact h
      · cases hx
    · exact Nat.le_trans (h3 x hx) hM
  · exact Nat.le_trans (h5 x hx) hM
theorem tmTx_size {tx : Rat → ByteArray} {t : Tm} {M : Nat} (h : (tx (ab t.c)).size ≤ M) (hM : 4 ≤ M) : (tmTx tx t).size ≤ 3 * (M + 1) := by
  obtain ⟨h1, h2⟩ := parts_size h hM
  exact Nat.le_trans (joinB_size M _ _ h2) (Nat.mul_le_mul_right (M + 1) h1)
theorem preP_size (out : ByteArray) (z b : Bool) : (preP out z b).size ≤ out.size + 3 := by
  have e1 : (ByteArray.mk #[45]).size = 1 := rfl
  have e2 : (ByteArray.mk #[32, 45, 32]).size = 3 := rfl
  have e3 : (ByteArray.mk #[32, 43, 32]).size = 3 := rfl
  cases z <;> cases b <;> simp only [preP, ByteArray.size_append] <;> omega
theorem txP_size {tx : Rat → ByteArray} {p : List Tm} {M : Nat} (h : ∀ t ∈ p, (tx (ab t.c)).size ≤ M) (hM : 4 ≤ M) : ∀ k, k ≤ p.length → (txP tx p k).size ≤ k * (3 * (M + 1) + 3)
  | 0, _ => Nat.zero_le _
  | k + 1, hk => by
    have ih := txP_size h hM k (by omega)
    have h1 := tmTx_size (h _ (getD_mem p (d := T0) (show k < p.length by omega))) hM
    have h2 := preP_size (txP tx p k) (decide (k = 0)) (decide ((p.getD k T0).c.num.sign < 0))
    rw [txP, ByteArray.size_append, Nat.add_mul]; omega
theorem flatS : ∀ l : List ByteArray, (List.map encs l).all flat = true
  | [] => rfl
  | t :: l => by rw [List.map_cons, List.all_cons, flatS l]; rfl
theorem C_PTextG (p : List Tm) (ad : Option Addr) (c d K M : Nat) (Φf : List SPred) (tx : Rat → ByteArray) (hq : Pq d K p) (hd : d ≤ 12) (hK : K ≤ 390000000) (hT : ∀ t ∈ norm p, CtrW Tryz.prog 21 [encQ (ab t.c)] Φf (.string (tx (ab t.c)))) (hsz : ∀ t ∈ norm p, (tx (ab t.c)).size ≤ M) (hM : 4 ≤ M) (hM2 : M ≤ 100000000000) :
    CtrW Tryz.prog 16 [.slice ad p.length c] (Row ad (cellsOf encT p) :: Φf) (.string (txtP tx (norm p))) := by
  have hn91 := hq.n91 hd
  refine fn_intro Tryz.func16 rfl Tryz.ntmps16 nb ?_
  intro S w0 a hS h
  refine gC h (zs (zr (za rfl (zn (zs (zr (za rfl (zn (zs (zs (zr (zm rfl (zf [_] rfl Tryz.call39 (C_broughtF p _ _ d K hq hd (by omega)) ?_))))))))))))); clear h; rintro v10 Ψ10 ⟨ad10, c10, rfl, rfl⟩ a w h
  refine gL h (zp (.builtin [_] rfl (len_slice_25 _ _ _)) (zm rfl (zn (zb ?_)))); clear h; intro a w h
  refine wp_loop_inv (fun (k : Nat) a w => k ≤ (norm p).length ∧ St 75 S w0 [(2, .string (⟨#[]⟩)), (3, .string (txP tx (norm p) k)), (10, .slice ad10 ((norm p).length) c10), (11, .int .i64 (((norm p).length : Nat) : Int)), (12, .int .i64 ((k : Nat) : Int))] [] (Row ad10 (cellsOf encT (norm p)) :: Row ad (cellsOf encT p) :: Φf) a w) (fun k => (norm p).length - k) 0 (⟨Nat.zero_le _, by exact (h).sub (subL ⟨rfl, rfl, rfl, rfl, rfl, trivial⟩)⟩) ?_; clear h
  rintro k a w ⟨hi_k, h⟩
  refine gC h (zs (zr (zp (.lss rfl rfl) (zn (zs ?_))))); clear h; intro a w h
  refine cond_split h rfl (fun hc13 => ?_) (fun hc13 => ?_)
  · skip
    have hlt_k : k < (norm p).length := by have := of_decide_eq_true hc13; omega
    obtain ⟨B_ad10, O_ad10, rfl⟩ := h.row_addr (ad := ad10) (M := cellsOf encT (norm p)) mm (by intro e; have := congrArg List.length e; rw [cellsOf_length (k := 7) (fun _ => rfl)] at this; simp only [List.length_nil, Nat.mul_eq_zero] at this; omega)
    have hnl : ([] : List ByteArray).length = 0 := rfl
    have hmem := getD_mem (norm p) (d := T0) hlt_k
    have hcs := hq.nsz _ hmem
    have hdg := (DL_norm hq.deg) _ hmem
    have hts := txP_size hsz hM k (by omega)
    have hkm := Nat.mul_le_mul_right (3 * (M + 1) + 3) (show k ≤ 91 by omega)
    obtain ⟨hps1, hps2⟩ := parts_size (hsz _ hmem) hM
    have hts2 := tmTx_size (hsz _ hmem) hM
    have hpp := preP_size (txP tx (norm p) k) (decide (k = 0)) (decide (((norm p).getD k T0).c.num.sign < 0))
    have hjm : ((hdB tx ((norm p).getD k T0) ++ letL ⟨#[120]⟩ ((norm p).getD k T0).i) ++ letL ⟨#[121]⟩ ((norm p).getD k T0).j).length * (M + (ByteArray.mk #[42]).size) ≤ 140737488355328 := Nat.le_trans (Nat.mul_le_mul hps1 (show M + (ByteArray.mk #[42]).size ≤ 100000000001 by show M + 1 ≤ _; omega)) (by decide)
    have hhl := hdB_len tx ((norm p).getD k T0)
    have hll := (letL_size (s := ⟨#[120]⟩) (n := ((norm p).getD k T0).i) (Nat.le_refl 1)).1
    have hll2 := (letL_size (s := ⟨#[121]⟩) (n := ((norm p).getD k T0).j) (Nat.le_refl 1)).1
    refine gC h (zk (zs (zb (zs (zr (zm rfl (zp (.indexAddr rfl rfl (ix_25 _ _ _ _ _ (by omega))) (zD rfl mm (cells_lt (k := 7) (by decide) (fun _ => rfl) (norm p) k (by omega)) Tryz.isAgg82 Tryz.sizeOf82 (read_cells (k := 7) (fun _ => rfl) ((fun _ => rfl)) (norm p) T0 k (by omega)) (.inl rfl) ?_)))))))); clear h; intro a w h
    refine gL h (zz zeroT fun b5 => za rfl (zt' rfl rfl (st_7_0_7 _ _ _ _ _ _ _ _ _ _ _ _ _ _) uu Tryz.sizeOf82 rfl nb rfl ?_)); clear h; intro a w h
    refine gL h (zn (zs (zr (zp (.fieldAddr rfl (fa_82_2 _ _)) (zd rfl mr Tryz.isAgg53 Tryz.sizeOf53 (rd_7_2_5 _ _ _ _ _ _ _) ?_))))); clear h; intro a w h
    refine gL h (zv [_] rfl Tryz.call43 (C_QSign _) (zp (.lss rfl rfl) ?_)); clear h; intro a w h
    refine by_bool h (fun hc20 h => ?_) (fun hc20 h => ?_)
    · skip
      have hb : decide (((norm p).getD k T0).c.num.sign < 0) = true := hc20
      refine gL h (za rfl (zn ?_)); clear h; intro a w h
      change Code.wp _ _ _ _ _
      refine wp_join (fun a w => ∃ b5 : Nat, St 75 S w0 [(2, .string ⟨#[]⟩), (3, .string (preP (txP tx (norm p) k) (decide (k = 0)) (decide (((norm p).getD k T0).c.num.sign < 0)))), (5, .pointer (some ⟨b5, 0, none⟩)), (10, .slice (some ⟨B_ad10, O_ad10, none⟩) (norm p).length c10), (11, .int .i64 (((norm p).length : Nat) : Int)), (12, .int .i64 ((k : Nat) : Int))] [(b5, .cells (Value.cells (encT ((norm p).getD k T0))) 82 (0, 0))] (Row (some ⟨B_ad10, O_ad10, none⟩) (cellsOf encT (norm p)) :: Row ad (cellsOf encT p) :: Φf) a w) ?_ ?_
      · skip
        refine gC h (zb (zs (zr (zm rfl (zp (.eql rfl rfl) ?_))))); clear h; intro a w h
        refine by_bool h (fun hc23 h => ?_) (fun hc23 h => ?_)
        · skip
          have hz : decide (k = 0) = true := decide_eq_true (natEq' hc23)
          refine gL h (zm rfl (zq 24 rfl rfl (.move rfl) (zp (.pickT rfl rfl) (za rfl (zn ?_))))); clear h; intro a w h
          change Code.wp _ _ _ _ _
          refine cond_true h rfl ?_
          refine gC h (zr (za rfl (zn ?_))); clear h; intro a w h
          exact ⟨_, by rw [hz, hb]; exact h.sub (subL ⟨rfl, rfl, rfl, rfl, rfl, rfl, trivial⟩)⟩
        · skip
          have hz : decide (k = 0) = false := decide_eq_false (natNe' hc23)
          refine gL h (zm rfl (zo 24 rfl rfl rfl (zp (.pickF rfl rfl) (za rfl (zn ?_))))); clear h; intro a w h
          change Code.wp _ _ _ _ _
          refine cond_false h rfl ?_
          refine gC h (zs (zr (zm rfl (zp (.gtr rfl rfl) ?_)))); clear h; intro a w h
          refine by_bool h (fun hc29 h => ?_) (fun hc29 h => (by exfalso; have : k ≠ 0 := natNe' hc23; have := of_decide_eq_false hc29; omega))
          refine gL h (zm rfl (zq 30 rfl rfl (.move rfl) (zp (.pickT rfl rfl) (za rfl (zn ?_))))); clear h; intro a w h
          change Code.wp _ _ _ _ _
          refine cond_true h rfl ?_
          refine gC h (zr (zm rfl (zp (.binOp rfl rfl (fun _ => run_sadd _ _ _ _ _ (by rw [show (ByteArray.mk #[32, 45, 32]).size = 3 from rfl]; omega))) (za rfl (zn ?_))))); clear h; intro a w h
          exact ⟨_, by rw [hz, hb]; exact h.sub (subL ⟨rfl, rfl, rfl, rfl, rfl, rfl, trivial⟩)⟩
      · clear h
        rintro a w ⟨b5, h⟩
        refine gC h (zs (zr (za rfl (zn ?_)))); clear h; intro a w h
        change Code.wp _ _ _ _ _
        refine wp_join (fun a w => ∃ (b5 : Nat) (ad7 : Option Addr) (c7 : Nat) (o7 : List (Nat × Obj)), GrowO 1 9 (.slice ad7 (hdB tx ((norm p).getD k T0)).length c7) (hdB tx ((norm p).getD k T0)).length (List.map encs (hdB tx ((norm p).getD k T0))) o7 ∧ St 75 S w0 [(2, .string ⟨#[]⟩), (3, .string (preP (txP tx (norm p) k) (decide (k = 0)) (decide (((norm p).getD k T0).c.num.sign < 0)))), (5, .pointer (some ⟨b5, 0, none⟩)), (7, .slice ad7 (hdB tx ((norm p).getD k T0)).length c7), (10, .slice (some ⟨B_ad10, O_ad10, none⟩) (norm p).length c10), (11, .int .i64 (((norm p).length : Nat) : Int)), (12, .int .i64 ((k : Nat) : Int))] (o7 ++ [(b5, .cells (Value.cells (encT ((norm p).getD k T0))) 82 (0, 0))]) (Row (some ⟨B_ad10, O_ad10, none⟩) (cellsOf encT (norm p)) :: Row ad (cellsOf encT p) :: Φf) a w) ?_ ?_
        · skip
          refine gC h (zs (zr (zp (.fieldAddr rfl (fa_82_2 _ _)) (zd rfl mr Tryz.isAgg53 Tryz.sizeOf53 (rd_7_2_5 _ _ _ _ _ _ _) ?_)))); clear h; intro a w h
          refine gL h (zv [_] rfl Tryz.call44 (C_QAbs ((norm p).getD k T0).c (by omega)) (zz zeroQ fun b8 => zt' rfl rfl (st_5_0_5 _ _ _ _ _ _ _ _ _ _) uu Tryz.sizeOf53 rfl nb rfl ?_)); clear h; intro a w h
          refine gL h (zn (zs (yD mixed_YtgkicbaomcmfoaaGreatDoor [0, 1, 2, 3, 4, 5, 6, 7, 8, 9, 10] (floatsOK_none (by kernel_rfl)) (yd rfl rfl mr Tryz.isAgg53 Tryz.sizeOf53 (rd_5_0_5 _ _ _ _ _) ?_)))); clear h
          refine yv [_] rfl rfl Tryz.call22 (C_QInt _ (by omega) (by omega)) ?_
          have hl44 := lenQ_int (1) (by omega) (by omega)
          refine yp rfl (.binOp rfl rfl (fun _ => run_neQ _ _ (ab ((norm p).getD k T0).c) (((1 : Int) : Rat)) _)) ?_
          refine head_bool (fun hc45  => ?_) (fun hc45  => ?_)
          · skip
            have hhd : hdB tx ((norm p).getD k T0) = [] ++ [tx (ab ((norm p).getD k T0).c)] := by unfold hdB; rw [if_pos (by simpa using Or.inl (by simpa using hc45))]; rfl
            refine yp rfl (.move rfl) (yo 46 rfl rfl rfl rfl (yo 46 rfl rfl rfl rfl (yo 46 rfl rfl rfl rfl (yo 46 rfl rfl rfl rfl (yo 46 rfl rfl rfl rfl (yo 46 rfl rfl rfl rfl (yp rfl (.pickT rfl rfl) (yn ?_)))))))); intro a w h
            change Code.wp _ _ _ _ _
            refine cond_true h rfl ?_
            refine gC h (zr (zm rfl (zd rfl mr Tryz.isAgg53 Tryz.sizeOf53 (rd_5_0_5 _ _ _ _ _) ?_))); clear h; intro a w h
            refine wpl_plain (op_callW h (vs := [_]) rfl Tryz.call21 (hT _ hmem) (by intro R hR; simp [hR]) (by decide) ?_); clear h; intro a w h
            refine gL h (zB [(_, _)] rfl (bs_87_1_0 _) fun b57 => ?_); clear h; intro a w h
            refine wpl_plain (op_appendO (σr := [(b8, .cells (Value.cells (encQ (ab ((norm p).getD k T0).c))) 53 (0, 0)), (b5, .cells (Value.cells (encT ((norm p).getD k T0))) 82 (0, 0))]) h rfl rfl (List.Perm.refl _) (GrowO.nil _ _ : GrowO 1 9 (.slice none 0 0) 0 (List.map encs []) []) Tryz.runUnderlying87 Tryz.runUnderlying87 Tryz.typeInfo9 Tryz.sizeOf9 Tryz.zeroValue9 rfl (by decide) (by decide) rfl rfl (by decide) (by show 16 * (2 * ((([] : List ByteArray)).length + 1) + 192) ≤ 281474976710656; omega) (by decide) ?_); clear h
            intro v58 o58 a w hG58 h
            obtain ⟨ad58, c58, rfl⟩ := hG58.is
            have hLn58 : (0 : Nat) + 1 = (([] : List ByteArray) ++ [tx (ab ((norm p).getD k T0).c)]).length := by simp only [List.length_append, List.length_cons, List.length_nil, Nat.zero_add]
            rw [hLn58] at h hG58
            replace hG58 : GrowO 1 9 (.slice ad58 (([] : List ByteArray) ++ [tx (ab ((norm p).getD k T0).c)]).length c58) (([] : List ByteArray) ++ [tx (ab ((norm p).getD k T0).c)]).length (List.map encs (([] : List ByteArray) ++ [tx (ab ((norm p).getD k T0).c)])) o58 := by rw [List.map_append]; exact hG58
            refine gL h (za rfl (zn ?_)); clear h; intro a w h
            exact ⟨b5, ad58, c58, o58, by rw [hhd]; exact hG58, by rw [hhd]; exact ((h.perm (pm_ac (List.Perm.refl _)).symm).drop (by repeat (first | exact List.Sublist.refl _ | apply List.Sublist.cons))).sub sA⟩
          · skip
            refine yp rfl (.move rfl) (yq rfl rfl rfl (.fieldAddr rfl (fa_82_0 _ _)) (yg rfl rfl rfl rfl mr Tryz.isAgg3 Tryz.sizeOf3 (rs_7_0 _ _ _ _ _ _ _) ?_))
            refine yq rfl rfl rfl (.fieldAddr rfl (fa_82_1 _ _)) (yg rfl rfl rfl rfl mr Tryz.isAgg3 Tryz.sizeOf3 (rs_7_1 _ _ _ _ _ _ _) ?_)
            refine yq rfl rfl rfl (Pure1.cast (v' := (.int .i64 (((((norm p).getD k T0).i) + (((norm p).getD k T0).j) : Nat) : Int))) (.add rfl rfl) (by show Value.int _ _ = Value.int _ _; congr 1)) (yq rfl rfl rfl (.eql rfl rfl) ?_)
            refine head_bool (fun hc52  => ?_) (fun hc52  => ?_)
            · skip
              have hhd : hdB tx ((norm p).getD k T0) = [] ++ [tx (ab ((norm p).getD k T0).c)] := by unfold hdB; rw [if_pos (by have h9 := natEq' hc52; simp only [Bool.or_eq_true, decide_eq_true_eq]; exact Or.inr h9)]; rfl
              refine yp rfl (.pickF rfl rfl) (yn ?_); intro a w h
              change Code.wp _ _ _ _ _
              refine cond_true h rfl ?_
              refine gC h (zr (zm rfl (zd rfl mr Tryz.isAgg53 Tryz.sizeOf53 (rd_5_0_5 _ _ _ _ _) ?_))); clear h; intro a w h
              refine wpl_plain (op_callW h (vs := [_]) rfl Tryz.call21 (hT _ hmem) (by intro R hR; simp [hR]) (by decide) ?_); clear h; intro a w h
              refine gL h (zB [(_, _)] rfl (bs_87_1_0 _) fun b57 => ?_); clear h; intro a w h
              refine wpl_plain (op_appendO (σr := [(b8, .cells (Value.cells (encQ (ab ((norm p).getD k T0).c))) 53 (0, 0)), (b5, .cells (Value.cells (encT ((norm p).getD k T0))) 82 (0, 0))]) h rfl rfl (List.Perm.refl _) (GrowO.nil _ _ : GrowO 1 9 (.slice none 0 0) 0 (List.map encs []) []) Tryz.runUnderlying87 Tryz.runUnderlying87 Tryz.typeInfo9 Tryz.sizeOf9 Tryz.zeroValue9 rfl (by decide) (by decide) rfl rfl (by decide) (by show 16 * (2 * ((([] : List ByteArray)).length + 1) + 192) ≤ 281474976710656; omega) (by decide) ?_); clear h
              intro v58 o58 a w hG58 h
              obtain ⟨ad58, c58, rfl⟩ := hG58.is
              have hLn58 : (0 : Nat) + 1 = (([] : List ByteArray) ++ [tx (ab ((norm p).getD k T0).c)]).length := by simp only [List.length_append, List.length_cons, List.length_nil, Nat.zero_add]
              rw [hLn58] at h hG58
              replace hG58 : GrowO 1 9 (.slice ad58 (([] : List ByteArray) ++ [tx (ab ((norm p).getD k T0).c)]).length c58) (([] : List ByteArray) ++ [tx (ab ((norm p).getD k T0).c)]).length (List.map encs (([] : List ByteArray) ++ [tx (ab ((norm p).getD k T0).c)])) o58 := by rw [List.map_append]; exact hG58
              refine gL h (za rfl (zn ?_)); clear h; intro a w h
              exact ⟨b5, ad58, c58, o58, by rw [hhd]; exact hG58, by rw [hhd]; exact ((h.perm (pm_ac (List.Perm.refl _)).symm).drop (by repeat (first | exact List.Sublist.refl _ | apply List.Sublist.cons))).sub sA⟩
            · skip
              have hhd : hdB tx ((norm p).getD k T0) = [] := by
                have h8 : ab ((norm p).getD k T0).c = ((1 : Int) : Rat) := by simpa using hc45
                have h9 := natNe' hc52
                unfold hdB; rw [if_neg]; simp only [Bool.or_eq_true, Bool.not_eq_true', decide_eq_false_iff_not, decide_eq_true_eq, not_or, Decidable.not_not]; exact ⟨h8, h9⟩
              refine yp rfl (.pickF rfl rfl) (yn ?_); intro a w h
              change Code.wp _ _ _ _ _
              refine cond_false h rfl ?_
              refine wp_skip ?_
              exact ⟨b5, none, 0, [], by rw [hhd]; exact GrowO.nil _ _, by rw [hhd]; exact (h.drop (by repeat (first | exact List.Sublist.refl _ | apply List.Sublist.cons))).sub (subL ⟨rfl, rfl, rfl, rfl, rfl, rfl, rfl, trivial⟩)⟩
        · clear h
          rintro a w ⟨b5, ad7, c7, o7, hG7, h⟩
          refine gC h (yD mixed_YtgkicbaomcmfoaaGreatDoor [0, 1, 2, 3, 6, 7, 4, 5, 8, 9, 10, 11, 12] (floatsOK_none (by kernel_rfl)) (yp rfl (.move rfl) (yp rfl (.move rfl) (yp rfl (.fieldAddr rfl (fa_82_0 _ _)) (yd rfl rfl mr Tryz.isAgg3 Tryz.sizeOf3 (rs_7_0 _ _ _ _ _ _ _) ?_))))); clear h
          refine yp rfl (.fieldAddr rfl (fa_82_1 _ _)) ?_
          refine head_enum (by kernel_rfl) ?_; intro a w h
          refine x_step [4, 7] (by kernel_rfl) (by decide) ?_; intro i hi
          simp only [List.mem_cons, List.not_mem_nil, or_false] at hi
          rcases hi with rfl | rfl
          · skip
            refine x_call h (vs := [_, _]) rfl rfl Tryz.call46 (C_letter ⟨#[120]⟩ ((norm p).getD k T0).i (by omega) (Nat.le_refl 1)) (by simp) (by decide) ?_; clear h; rintro v63 Ψ63 a w ⟨ad63, c63, rfl, rfl⟩ h
            refine x_step [5, 7] (by kernel_rfl) (by decide) ?_; intro i hi
            simp only [List.mem_cons, List.not_mem_nil, or_false] at hi
            rcases hi with rfl | rfl
            · skip
              refine x_appendG (o := o7) h rfl rfl hG7 rfl mm Tryz.runUnderlying87 Tryz.runUnderlying87 Tryz.typeInfo9 Tryz.sizeOf9 Tryz.zeroValue9 rfl (by decide) (by decide) (by rw [List.length_map, Nat.mul_one]) (flatS _) (by show 16 * _ ≤ 281474976710656; omega) (by decide) ?_; clear h; intro v64 o64 a w hG64 h; obtain ⟨ad64, c64, rfl⟩ := hG64.is
              have e64 : (hdB tx ((norm p).getD k T0)).length + (letL ⟨#[120]⟩ ((norm p).getD k T0).i).length = (hdB tx ((norm p).getD k T0) ++ letL ⟨#[120]⟩ ((norm p).getD k T0).i).length := (List.length_append ..).symm
              rw [e64] at h
              rw [e64, ← List.map_append] at hG64
              refine x_step [7] (by kernel_rfl) (by decide) ?_; intro i hi
              simp only [List.mem_cons, List.not_mem_nil, or_false] at hi
              rcases hi with rfl
              refine x_loadO h rfl rfl mr Tryz.isAgg3 Tryz.sizeOf3 (rs_7_1 _ _ _ _ _ _ _) (by decide) ?_; clear h; intro a h
              refine x_step [8] (by kernel_rfl) (by decide) ?_; intro i hi
              simp only [List.mem_cons, List.not_mem_nil, or_false] at hi
              rcases hi with rfl
              refine x_call h (vs := [_, _]) rfl rfl Tryz.call46 (C_letter ⟨#[121]⟩ ((norm p).getD k T0).j (by omega) (Nat.le_refl 1)) (by simp) (by decide) ?_; clear h; rintro v67 Ψ67 a w ⟨ad67, c67, rfl, rfl⟩ h
              refine x_step [9] (by kernel_rfl) (by decide) ?_; intro i hi
              simp only [List.mem_cons, List.not_mem_nil, or_false] at hi
              rcases hi with rfl
              refine x_appendG (o := o64) h rfl rfl hG64 rfl mm Tryz.runUnderlying87 Tryz.runUnderlying87 Tryz.typeInfo9 Tryz.sizeOf9 Tryz.zeroValue9 rfl (by decide) (by decide) (by rw [List.length_map, Nat.mul_one]) (flatS _) (by show 16 * _ ≤ 281474976710656; omega) (by decide) ?_; clear h; intro v68 o68 a w hG68 h; obtain ⟨ad68, c68, rfl⟩ := hG68.is
              have e68 : (hdB tx ((norm p).getD k T0) ++ letL ⟨#[120]⟩ ((norm p).getD k T0).i).length + (letL ⟨#[121]⟩ ((norm p).getD k T0).j).length = ((hdB tx ((norm p).getD k T0) ++ letL ⟨#[120]⟩ ((norm p).getD k T0).i) ++ letL ⟨#[121]⟩ ((norm p).getD k T0).j).length := (List.length_append ..).symm
              rw [e68] at h
              rw [e68, ← List.map_append] at hG68
              replace h := h.shareO' hS hG68
              refine x_step [10] (by kernel_rfl) (by decide) ?_; intro i hi
              simp only [List.mem_cons, List.not_mem_nil, or_false] at hi
              rcases hi with rfl
              refine x_callV h (vs := [_, _]) rfl rfl Tryz.call45 (C_Join ad68 c68 ((hdB tx ((norm p).getD k T0) ++ letL ⟨#[120]⟩ ((norm p).getD k T0).i) ++ letL ⟨#[121]⟩ ((norm p).getD k T0).j) ⟨#[42]⟩ hG68.cap (by omega) M hps2 hjm) (by simp) (by decide) ?_; clear h; intro a w h
              refine x_step [11] (by kernel_rfl) (by decide) ?_; intro i hi
              simp only [List.mem_cons, List.not_mem_nil, or_false] at hi
              rcases hi with rfl
              refine x_pure h rfl (.binOp rfl rfl (fun _ => run_sadd _ _ _ _ _ (by unfold tmTx at hts2; omega))) (by decide) ?_; clear h; intro a h
              refine x_step [12] (by kernel_rfl) (by decide) ?_; intro i hi
              simp only [List.mem_cons, List.not_mem_nil, or_false] at hi
              rcases hi with rfl
              refine x_pure h rfl (.assign rfl) (by decide) ?_; clear h; intro a h
              refine x_end (by kernel_rfl) ?_
              change Code.wp _ _ _ _ _
              refine gC h (zr (zp (Pure1.cast (v' := (.int .i64 ((k + 1 : Nat) : Int))) (.add rfl rfl) (by show Value.int _ _ = Value.int _ _; congr 1)) (zm rfl (zn ?_)))); clear h; intro a w h
              have htk : txP tx (norm p) (k + 1) = preP (txP tx (norm p) k) (decide (k = 0)) (decide (((norm p).getD k T0).c.num.sign < 0)) ++ joinB ((hdB tx ((norm p).getD k T0) ++ letL ⟨#[120]⟩ ((norm p).getD k T0).i) ++ letL ⟨#[121]⟩ ((norm p).getD k T0).j) ⟨#[42]⟩ := rfl
              rw [← htk] at h
              exact ⟨k + 1, ⟨by omega, ((h.drop sl).factsSub (by exact (fun _ hR => by repeat (first | exact hR | apply List.Mem.tail)))).sub sA⟩, by omega⟩
            · skip
              refine x_loadO h rfl rfl mr Tryz.isAgg3 Tryz.sizeOf3 (rs_7_1 _ _ _ _ _ _ _) (by decide) ?_; clear h; intro a h
              refine x_step [5] (by kernel_rfl) (by decide) ?_; intro i hi
              simp only [List.mem_cons, List.not_mem_nil, or_false] at hi
              rcases hi with rfl
              refine x_appendG (o := o7) h rfl rfl hG7 rfl mm Tryz.runUnderlying87 Tryz.runUnderlying87 Tryz.typeInfo9 Tryz.sizeOf9 Tryz.zeroValue9 rfl (by decide) (by decide) (by rw [List.length_map, Nat.mul_one]) (flatS _) (by show 16 * _ ≤ 281474976710656; omega) (by decide) ?_; clear h; intro v64 o64 a w hG64 h; obtain ⟨ad64, c64, rfl⟩ := hG64.is
              have e64 : (hdB tx ((norm p).getD k T0)).length + (letL ⟨#[120]⟩ ((norm p).getD k T0).i).length = (hdB tx ((norm p).getD k T0) ++ letL ⟨#[120]⟩ ((norm p).getD k T0).i).length := (List.length_append ..).symm
              rw [e64] at h
              rw [e64, ← List.map_append] at hG64
              refine x_step [8] (by kernel_rfl) (by decide) ?_; intro i hi
              simp only [List.mem_cons, List.not_mem_nil, or_false] at hi
              rcases hi with rfl
              refine x_call h (vs := [_, _]) rfl rfl Tryz.call46 (C_letter ⟨#[121]⟩ ((norm p).getD k T0).j (by omega) (Nat.le_refl 1)) (by simp) (by decide) ?_; clear h; rintro v67 Ψ67 a w ⟨ad67, c67, rfl, rfl⟩ h
              refine x_step [9] (by kernel_rfl) (by decide) ?_; intro i hi
              simp only [List.mem_cons, List.not_mem_nil, or_false] at hi
              rcases hi with rfl
              refine x_appendG (o := o64) h rfl rfl hG64 rfl mm Tryz.runUnderlying87 Tryz.runUnderlying87 Tryz.typeInfo9 Tryz.sizeOf9 Tryz.zeroValue9 rfl (by decide) (by decide) (by rw [List.length_map, Nat.mul_one]) (flatS _) (by show 16 * _ ≤ 281474976710656; omega) (by decide) ?_; clear h; intro v68 o68 a w hG68 h; obtain ⟨ad68, c68, rfl⟩ := hG68.is
              have e68 : (hdB tx ((norm p).getD k T0) ++ letL ⟨#[120]⟩ ((norm p).getD k T0).i).length + (letL ⟨#[121]⟩ ((norm p).getD k T0).j).length = ((hdB tx ((norm p).getD k T0) ++ letL ⟨#[120]⟩ ((norm p).getD k T0).i) ++ letL ⟨#[121]⟩ ((norm p).getD k T0).j).length := (List.length_append ..).symm
              rw [e68] at h
              rw [e68, ← List.map_append] at hG68
              replace h := h.shareO' hS hG68
              refine x_step [10] (by kernel_rfl) (by decide) ?_; intro i hi
              simp only [List.mem_cons, List.not_mem_nil, or_false] at hi
              rcases hi with rfl
              refine x_callV h (vs := [_, _]) rfl rfl Tryz.call45 (C_Join ad68 c68 ((hdB tx ((norm p).getD k T0) ++ letL ⟨#[120]⟩ ((norm p).getD k T0).i) ++ letL ⟨#[121]⟩ ((norm p).getD k T0).j) ⟨#[42]⟩ hG68.cap (by omega) M hps2 hjm) (by simp) (by decide) ?_; clear h; intro a w h
              refine x_step [11] (by kernel_rfl) (by decide) ?_; intro i hi
              simp only [List.mem_cons, List.not_mem_nil, or_false] at hi
              rcases hi with rfl
              refine x_pure h rfl (.binOp rfl rfl (fun _ => run_sadd _ _ _ _ _ (by unfold tmTx at hts2; omega))) (by decide) ?_; clear h; intro a h
              refine x_step [12] (by kernel_rfl) (by decide) ?_; intro i hi
              simp only [List.mem_cons, List.not_mem_nil, or_false] at hi
              rcases hi with rfl
              refine x_pure h rfl (.assign rfl) (by decide) ?_; clear h; intro a h
              refine x_end (by kernel_rfl) ?_
              change Code.wp _ _ _ _ _
              refine gC h (zr (zp (Pure1.cast (v' := (.int .i64 ((k + 1 : Nat) : Int))) (.add rfl rfl) (by show Value.int _ _ = Value.int _ _; congr 1)) (zm rfl (zn ?_)))); clear h; intro a w h
              have htk : txP tx (norm p) (k + 1) = preP (txP tx (norm p) k) (decide (k = 0)) (decide (((norm p).getD k T0).c.num.sign < 0)) ++ joinB ((hdB tx ((norm p).getD k T0) ++ letL ⟨#[120]⟩ ((norm p).getD k T0).i) ++ letL ⟨#[121]⟩ ((norm p).getD k T0).j) ⟨#[42]⟩ := rfl
              rw [← htk] at h
              exact ⟨k + 1, ⟨by omega, ((h.drop sl).factsSub (by exact (fun _ hR => by repeat (first | exact hR | apply List.Mem.tail)))).sub sA⟩, by omega⟩
          · skip
            refine x_loadO h rfl rfl mr Tryz.isAgg3 Tryz.sizeOf3 (rs_7_1 _ _ _ _ _ _ _) (by decide) ?_; clear h; intro a h
            refine x_step [4] (by kernel_rfl) (by decide) ?_; intro i hi
            simp only [List.mem_cons, List.not_mem_nil, or_false] at hi
            rcases hi with rfl
            refine x_call h (vs := [_, _]) rfl rfl Tryz.call46 (C_letter ⟨#[120]⟩ ((norm p).getD k T0).i (by omega) (Nat.le_refl 1)) (by simp) (by decide) ?_; clear h; rintro v63 Ψ63 a w ⟨ad63, c63, rfl, rfl⟩ h
            refine x_step [5] (by kernel_rfl) (by decide) ?_; intro i hi
            simp only [List.mem_cons, List.not_mem_nil, or_false] at hi
            rcases hi with rfl
            refine x_appendG (o := o7) h rfl rfl hG7 rfl mm Tryz.runUnderlying87 Tryz.runUnderlying87 Tryz.typeInfo9 Tryz.sizeOf9 Tryz.zeroValue9 rfl (by decide) (by decide) (by rw [List.length_map, Nat.mul_one]) (flatS _) (by show 16 * _ ≤ 281474976710656; omega) (by decide) ?_; clear h; intro v64 o64 a w hG64 h; obtain ⟨ad64, c64, rfl⟩ := hG64.is
            have e64 : (hdB tx ((norm p).getD k T0)).length + (letL ⟨#[120]⟩ ((norm p).getD k T0).i).length = (hdB tx ((norm p).getD k T0) ++ letL ⟨#[120]⟩ ((norm p).getD k T0).i).length := (List.length_append ..).symm
            rw [e64] at h
            rw [e64, ← List.map_append] at hG64
            refine x_step [8] (by kernel_rfl) (by decide) ?_; intro i hi
            simp only [List.mem_cons, List.not_mem_nil, or_false] at hi
            rcases hi with rfl
            refine x_call h (vs := [_, _]) rfl rfl Tryz.call46 (C_letter ⟨#[121]⟩ ((norm p).getD k T0).j (by omega) (Nat.le_refl 1)) (by simp) (by decide) ?_; clear h; rintro v67 Ψ67 a w ⟨ad67, c67, rfl, rfl⟩ h
            refine x_step [9] (by kernel_rfl) (by decide) ?_; intro i hi
            simp only [List.mem_cons, List.not_mem_nil, or_false] at hi
            rcases hi with rfl
            refine x_appendG (o := o64) h rfl rfl hG64 rfl mm Tryz.runUnderlying87 Tryz.runUnderlying87 Tryz.typeInfo9 Tryz.sizeOf9 Tryz.zeroValue9 rfl (by decide) (by decide) (by rw [List.length_map, Nat.mul_one]) (flatS _) (by show 16 * _ ≤ 281474976710656; omega) (by decide) ?_; clear h; intro v68 o68 a w hG68 h; obtain ⟨ad68, c68, rfl⟩ := hG68.is
            have e68 : (hdB tx ((norm p).getD k T0) ++ letL ⟨#[120]⟩ ((norm p).getD k T0).i).length + (letL ⟨#[121]⟩ ((norm p).getD k T0).j).length = ((hdB tx ((norm p).getD k T0) ++ letL ⟨#[120]⟩ ((norm p).getD k T0).i) ++ letL ⟨#[121]⟩ ((norm p).getD k T0).j).length := (List.length_append ..).symm
            rw [e68] at h
            rw [e68, ← List.map_append] at hG68
            replace h := h.shareO' hS hG68
            refine x_step [10] (by kernel_rfl) (by decide) ?_; intro i hi
            simp only [List.mem_cons, List.not_mem_nil, or_false] at hi
            rcases hi with rfl
            refine x_callV h (vs := [_, _]) rfl rfl Tryz.call45 (C_Join ad68 c68 ((hdB tx ((norm p).getD k T0) ++ letL ⟨#[120]⟩ ((norm p).getD k T0).i) ++ letL ⟨#[121]⟩ ((norm p).getD k T0).j) ⟨#[42]⟩ hG68.cap (by omega) M hps2 hjm) (by simp) (by decide) ?_; clear h; intro a w h
            refine x_step [11] (by kernel_rfl) (by decide) ?_; intro i hi
            simp only [List.mem_cons, List.not_mem_nil, or_false] at hi
            rcases hi with rfl
            refine x_pure h rfl (.binOp rfl rfl (fun _ => run_sadd _ _ _ _ _ (by unfold tmTx at hts2; omega))) (by decide) ?_; clear h; intro a h
            refine x_step [12] (by kernel_rfl) (by decide) ?_; intro i hi
            simp only [List.mem_cons, List.not_mem_nil, or_false] at hi
            rcases hi with rfl
            refine x_pure h rfl (.assign rfl) (by decide) ?_; clear h; intro a h
            refine x_end (by kernel_rfl) ?_
            change Code.wp _ _ _ _ _
            refine gC h (zr (zp (Pure1.cast (v' := (.int .i64 ((k + 1 : Nat) : Int))) (.add rfl rfl) (by show Value.int _ _ = Value.int _ _; congr 1)) (zm rfl (zn ?_)))); clear h; intro a w h
            have htk : txP tx (norm p) (k + 1) = preP (txP tx (norm p) k) (decide (k = 0)) (decide (((norm p).getD k T0).c.num.sign < 0)) ++ joinB ((hdB tx ((norm p).getD k T0) ++ letL ⟨#[120]⟩ ((norm p).getD k T0).i) ++ letL ⟨#[121]⟩ ((norm p).getD k T0).j) ⟨#[42]⟩ := rfl
            rw [← htk] at h
            exact ⟨k + 1, ⟨by omega, ((h.drop sl).factsSub (by exact (fun _ hR => by repeat (first | exact hR | apply List.Mem.tail)))).sub sA⟩, by omega⟩
    · skip
      have hb : decide (((norm p).getD k T0).c.num.sign < 0) = false := hc20
      refine gL h (za rfl (zn ?_)); clear h; intro a w h
      change Code.wp _ _ _ _ _
      refine wp_join (fun a w => ∃ b5 : Nat, St 75 S w0 [(2, .string ⟨#[]⟩), (3, .string (preP (txP tx (norm p) k) (decide (k = 0)) (decide (((norm p).getD k T0).c.num.sign < 0)))), (5, .pointer (some ⟨b5, 0, none⟩)), (10, .slice (some ⟨B_ad10, O_ad10, none⟩) (norm p).length c10), (11, .int .i64 (((norm p).length : Nat) : Int)), (12, .int .i64 ((k : Nat) : Int))] [(b5, .cells (Value.cells (encT ((norm p).getD k T0))) 82 (0, 0))] (Row (some ⟨B_ad10, O_ad10, none⟩) (cellsOf encT (norm p)) :: Row ad (cellsOf encT p) :: Φf) a w) ?_ ?_
      · skip
        refine gC h (zb (zs (zr (zm rfl (zp (.eql rfl rfl) ?_))))); clear h; intro a w h
        refine by_bool h (fun hc23 h => ?_) (fun hc23 h => ?_)
        · skip
          have hz : decide (k = 0) = true := decide_eq_true (natEq' hc23)
          refine gL h (zm rfl (zq 24 rfl rfl (.move rfl) (zp (.pickT rfl rfl) (za rfl (zn ?_))))); clear h; intro a w h
          change Code.wp _ _ _ _ _
          refine cond_false h rfl ?_
          refine gC h (zs (zr (zm rfl (zp (.gtr rfl rfl) ?_)))); clear h; intro a w h
          refine by_bool h (fun hc29 h => (by exfalso; have : k = 0 := natEq' hc23; have := of_decide_eq_true hc29; omega)) (fun hc29 h => ?_)
          refine gL h (zm rfl (zo 30 rfl rfl rfl (zp (.pickF rfl rfl) (za rfl (zn ?_))))); clear h; intro a w h
          change Code.wp _ _ _ _ _
          refine cond_false h rfl ?_
          refine gC h (zs (zr (zm rfl (zp (.gtr rfl rfl) ?_)))); clear h; intro a w h
          refine by_bool h (fun hc37 h => (by exfalso; have : k = 0 := natEq' hc23; have := of_decide_eq_true hc37; omega)) (fun hc37 h => ?_)
          refine gL h (za rfl (zn ?_)); clear h; intro a w h
          change Code.wp _ _ _ _ _
          refine cond_false h rfl ?_
          refine wp_skip ?_
          exact ⟨_, by rw [hz, hb]; exact h.sub (subL ⟨rfl, rfl, rfl, rfl, rfl, rfl, trivial⟩)⟩
        · skip
          have hz : decide (k = 0) = false := decide_eq_false (natNe' hc23)
          refine gL h (zm rfl (zo 24 rfl rfl rfl (zp (.pickF rfl rfl) (za rfl (zn ?_))))); clear h; intro a w h
          change Code.wp _ _ _ _ _
          refine cond_false h rfl ?_
          refine gC h (zs (zr (zm rfl (zp (.gtr rfl rfl) ?_)))); clear h; intro a w h
          refine by_bool h (fun hc29 h => ?_) (fun hc29 h => (by exfalso; have : k ≠ 0 := natNe' hc23; have := of_decide_eq_false hc29; omega))
          refine gL h (zm rfl (zq 30 rfl rfl (.move rfl) (zp (.pickT rfl rfl) (za rfl (zn ?_))))); clear h; intro a w h
          change Code.wp _ _ _ _ _
          refine cond_false h rfl ?_
          refine gC h (zs (zr (zm rfl (zp (.gtr rfl rfl) ?_)))); clear h; intro a w h
          refine by_bool h (fun hc37 h => ?_) (fun hc37 h => (by exfalso; have : k ≠ 0 := natNe' hc23; have := of_decide_eq_false hc37; omega))
          refine gL h (za rfl (zn ?_)); clear h; intro a w h
          change Code.wp _ _ _ _ _
          refine cond_true h rfl ?_
          refine gC h (zr (zm rfl (zp (.binOp rfl rfl (fun _ => run_sadd _ _ _ _ _ (by rw [show (ByteArray.mk #[32, 43, 32]).size = 3 from rfl]; omega))) (za rfl (zn ?_))))); clear h; intro a w h
          exact ⟨_, by rw [hz, hb]; exact h.sub (subL ⟨rfl, rfl, rfl, rfl, rfl, rfl, trivial⟩)⟩
      · clear h
        rintro a w ⟨b5, h⟩
        refine gC h (zs (zr (za rfl (zn ?_)))); clear h; intro a w h
        change Code.wp _ _ _ _ _
        refine wp_join (fun a w => ∃ (b5 : Nat) (ad7 : Option Addr) (c7 : Nat) (o7 : List (Nat × Obj)), GrowO 1 9 (.slice ad7 (hdB tx ((norm p).getD k T0)).length c7) (hdB tx ((norm p).getD k T0)).length (List.map encs (hdB tx ((norm p).getD k T0))) o7 ∧ St 75 S w0 [(2, .string ⟨#[]⟩), (3, .string (preP (txP tx (norm p) k) (decide (k = 0)) (decide (((norm p).getD k T0).c.num.sign < 0)))), (5, .pointer (some ⟨b5, 0, none⟩)), (7, .slice ad7 (hdB tx ((norm p).getD k T0)).length c7), (10, .slice (some ⟨B_ad10, O_ad10, none⟩) (norm p).length c10), (11, .int .i64 (((norm p).length : Nat) : Int)), (12, .int .i64 ((k : Nat) : Int))] (o7 ++ [(b5, .cells (Value.cells (encT ((norm p).getD k T0))) 82 (0, 0))]) (Row (some ⟨B_ad10, O_ad10, none⟩) (cellsOf encT (norm p)) :: Row ad (cellsOf encT p) :: Φf) a w) ?_ ?_
        · skip
          refine gC h (zs (zr (zp (.fieldAddr rfl (fa_82_2 _ _)) (zd rfl mr Tryz.isAgg53 Tryz.sizeOf53 (rd_7_2_5 _ _ _ _ _ _ _) ?_)))); clear h; intro a w h
          refine gL h (zv [_] rfl Tryz.call44 (C_QAbs ((norm p).getD k T0).c (by omega)) (zz zeroQ fun b8 => zt' rfl rfl (st_5_0_5 _ _ _ _ _ _ _ _ _ _) uu Tryz.sizeOf53 rfl nb rfl ?_)); clear h; intro a w h
          refine gL h (zn (zs (yD mixed_YtgkicbaomcmfoaaGreatDoor [0, 1, 2, 3, 4, 5, 6, 7, 8, 9, 10] (floatsOK_none (by kernel_rfl)) (yd rfl rfl mr Tryz.isAgg53 Tryz.sizeOf53 (rd_5_0_5 _ _ _ _ _) ?_)))); clear h
          refine yv [_] rfl rfl Tryz.call22 (C_QInt _ (by omega) (by omega)) ?_
          have hl44 := lenQ_int (1) (by omega) (by omega)
          refine yp rfl (.binOp rfl rfl (fun _ => run_neQ _ _ (ab ((norm p).getD k T0).c) (((1 : Int) : Rat)) _)) ?_
          refine head_bool (fun hc45  => ?_) (fun hc45  => ?_)
          · skip
            have hhd : hdB tx ((norm p).getD k T0) = [] ++ [tx (ab ((norm p).getD k T0).c)] := by unfold hdB; rw [if_pos (by simpa using Or.inl (by simpa using hc45))]; rfl
            refine yp rfl (.move rfl) (yo 46 rfl rfl rfl rfl (yo 46 rfl rfl rfl rfl (yo 46 rfl rfl rfl rfl (yo 46 rfl rfl rfl rfl (yo 46 rfl rfl rfl rfl (yo 46 rfl rfl rfl rfl (yp rfl (.pickT rfl rfl) (yn ?_)))))))); intro a w h
            change Code.wp _ _ _ _ _
            refine cond_true h rfl ?_
            refine gC h (zr (zm rfl (zd rfl mr Tryz.isAgg53 Tryz.sizeOf53 (rd_5_0_5 _ _ _ _ _) ?_))); clear h; intro a w h
            refine wpl_plain (op_callW h (vs := [_]) rfl Tryz.call21 (hT _ hmem) (by intro R hR; simp [hR]) (by decide) ?_); clear h; intro a w h
            refine gL h (zB [(_, _)] rfl (bs_87_1_0 _) fun b57 => ?_); clear h; intro a w h
            refine wpl_plain (op_appendO (σr := [(b8, .cells (Value.cells (encQ (ab ((norm p).getD k T0).c))) 53 (0, 0)), (b5, .cells (Value.cells (encT ((norm p).getD k T0))) 82 (0, 0))]) h rfl rfl (List.Perm.refl _) (GrowO.nil _ _ : GrowO 1 9 (.slice none 0 0) 0 (List.map encs []) []) Tryz.runUnderlying87 Tryz.runUnderlying87 Tryz.typeInfo9 Tryz.sizeOf9 Tryz.zeroValue9 rfl (by decide) (by decide) rfl rfl (by decide) (by show 16 * (2 * ((([] : List ByteArray)).length + 1) + 192) ≤ 281474976710656; omega) (by decide) ?_); clear h
            intro v58 o58 a w hG58 h
            obtain ⟨ad58, c58, rfl⟩ := hG58.is
            have hLn58 : (0 : Nat) + 1 = (([] : List ByteArray) ++ [tx (ab ((norm p).getD k T0).c)]).length := by simp only [List.length_append, List.length_cons, List.length_nil, Nat.zero_add]
            rw [hLn58] at h hG58
            replace hG58 : GrowO 1 9 (.slice ad58 (([] : List ByteArray) ++ [tx (ab ((norm p).getD k T0).c)]).length c58) (([] : List ByteArray) ++ [tx (ab ((norm p).getD k T0).c)]).length (List.map encs (([] : List ByteArray) ++ [tx (ab ((norm p).getD k T0).c)])) o58 := by rw [List.map_append]; exact hG58
            refine gL h (za rfl (zn ?_)); clear h; intro a w h
            exact ⟨b5, ad58, c58, o58, by rw [hhd]; exact hG58, by rw [hhd]; exact ((h.perm (pm_ac (List.Perm.refl _)).symm).drop (by repeat (first | exact List.Sublist.refl _ | apply List.Sublist.cons))).sub sA⟩
          · skip
            refine yp rfl (.move rfl) (yq rfl rfl rfl (.fieldAddr rfl (fa_82_0 _ _)) (yg rfl rfl rfl rfl mr Tryz.isAgg3 Tryz.sizeOf3 (rs_7_0 _ _ _ _ _ _ _) ?_))
            refine yq rfl rfl rfl (.fieldAddr rfl (fa_82_1 _ _)) (yg rfl rfl rfl rfl mr Tryz.isAgg3 Tryz.sizeOf3 (rs_7_1 _ _ _ _ _ _ _) ?_)
            refine yq rfl rfl rfl (Pure1.cast (v' := (.int .i64 (((((norm p).getD k T0).i) + (((norm p).getD k T0).j) : Nat) : Int))) (.add rfl rfl) (by show Value.int _ _ = Value.int _ _; congr 1)) (yq rfl rfl rfl (.eql rfl rfl) ?_)
            refine head_bool (fun hc52  => ?_) (fun hc52  => ?_)
            · skip
              have hhd : hdB tx ((norm p).getD k T0) = [] ++ [tx (ab ((norm p).getD k T0).c)] := by unfold hdB; rw [if_pos (by have h9 := natEq' hc52; simp only [Bool.or_eq_true, decide_eq_true_eq]; exact Or.inr h9)]; rfl
              refine yp rfl (.pickF rfl rfl) (yn ?_); intro a w h
              change Code.wp _ _ _ _ _
              refine cond_true h rfl ?_
              refine gC h (zr (zm rfl (zd rfl mr Tryz.isAgg53 Tryz.sizeOf53 (rd_5_0_5 _ _ _ _ _) ?_))); clear h; intro a w h
              refine wpl_plain (op_callW h (vs := [_]) rfl Tryz.call21 (hT _ hmem) (by intro R hR; simp [hR]) (by decide) ?_); clear h; intro a w h
              refine gL h (zB [(_, _)] rfl (bs_87_1_0 _) fun b57 => ?_); clear h; intro a w h
              refine wpl_plain (op_appendO (σr := [(b8, .cells (Value.cells (encQ (ab ((norm p).getD k T0).c))) 53 (0, 0)), (b5, .cells (Value.cells (encT ((norm p).getD k T0))) 82 (0, 0))]) h rfl rfl (List.Perm.refl _) (GrowO.nil _ _ : GrowO 1 9 (.slice none 0 0) 0 (List.map encs []) []) Tryz.runUnderlying87 Tryz.runUnderlying87 Tryz.typeInfo9 Tryz.sizeOf9 Tryz.zeroValue9 rfl (by decide) (by decide) rfl rfl (by decide) (by show 16 * (2 * ((([] : List ByteArray)).length + 1) + 192) ≤ 281474976710656; omega) (by decide) ?_); clear h
              intro v58 o58 a w hG58 h
              obtain ⟨ad58, c58, rfl⟩ := hG58.is
              have hLn58 : (0 : Nat) + 1 = (([] : List ByteArray) ++ [tx (ab ((norm p).getD k T0).c)]).length := by simp only [List.length_append, List.length_cons, List.length_nil, Nat.zero_add]
              rw [hLn58] at h hG58
              replace hG58 : GrowO 1 9 (.slice ad58 (([] : List ByteArray) ++ [tx (ab ((norm p).getD k T0).c)]).length c58) (([] : List ByteArray) ++ [tx (ab ((norm p).getD k T0).c)]).length (List.map encs (([] : List ByteArray) ++ [tx (ab ((norm p).getD k T0).c)])) o58 := by rw [List.map_append]; exact hG58
              refine gL h (za rfl (zn ?_)); clear h; intro a w h
              exact ⟨b5, ad58, c58, o58, by rw [hhd]; exact hG58, by rw [hhd]; exact ((h.perm (pm_ac (List.Perm.refl _)).symm).drop (by repeat (first | exact List.Sublist.refl _ | apply List.Sublist.cons))).sub sA⟩
            · skip
              have hhd : hdB tx ((norm p).getD k T0) = [] := by
                have h8 : ab ((norm p).getD k T0).c = ((1 : Int) : Rat) := by simpa using hc45
                have h9 := natNe' hc52
                unfold hdB; rw [if_neg]; simp only [Bool.or_eq_true, Bool.not_eq_true', decide_eq_false_iff_not, decide_eq_true_eq, not_or, Decidable.not_not]; exact ⟨h8, h9⟩
              refine yp rfl (.pickF rfl rfl) (yn ?_); intro a w h
              change Code.wp _ _ _ _ _
              refine cond_false h rfl ?_
              refine wp_skip ?_
              exact ⟨b5, none, 0, [], by rw [hhd]; exact GrowO.nil _ _, by rw [hhd]; exact (h.drop (by repeat (first | exact List.Sublist.refl _ | apply List.Sublist.cons))).sub (subL ⟨rfl, rfl, rfl, rfl, rfl, rfl, rfl, trivial⟩)⟩
        · clear h
          rintro a w ⟨b5, ad7, c7, o7, hG7, h⟩
          refine gC h (yD mixed_YtgkicbaomcmfoaaGreatDoor [0, 1, 2, 3, 6, 7, 4, 5, 8, 9, 10, 11, 12] (floatsOK_none (by kernel_rfl)) (yp rfl (.move rfl) (yp rfl (.move rfl) (yp rfl (.fieldAddr rfl (fa_82_0 _ _)) (yd rfl rfl mr Tryz.isAgg3 Tryz.sizeOf3 (rs_7_0 _ _ _ _ _ _ _) ?_))))); clear h
          refine yp rfl (.fieldAddr rfl (fa_82_1 _ _)) ?_
          refine head_enum (by kernel_rfl) ?_; intro a w h
          refine x_step [4, 7] (by kernel_rfl) (by decide) ?_; intro i hi
          simp only [List.mem_cons, List.not_mem_nil, or_false] at hi
          rcases hi with rfl | rfl
          · skip
            refine x_call h (vs := [_, _]) rfl rfl Tryz.call46 (C_letter ⟨#[120]⟩ ((norm p).getD k T0).i (by omega) (Nat.le_refl 1)) (by simp) (by decide) ?_; clear h; rintro v63 Ψ63 a w ⟨ad63, c63, rfl, rfl⟩ h
            refine x_step [5, 7] (by kernel_rfl) (by decide) ?_; intro i hi
            simp only [List.mem_cons, List.not_mem_nil, or_false] at hi
            rcases hi with rfl | rfl
            · skip
              refine x_appendG (o := o7) h rfl rfl hG7 rfl mm Tryz.runUnderlying87 Tryz.runUnderlying87 Tryz.typeInfo9 Tryz.sizeOf9 Tryz.zeroValue9 rfl (by decide) (by decide) (by rw [List.length_map, Nat.mul_one]) (flatS _) (by show 16 * _ ≤ 281474976710656; omega) (by decide) ?_; clear h; intro v64 o64 a w hG64 h; obtain ⟨ad64, c64, rfl⟩ := hG64.is
              have e64 : (hdB tx ((norm p).getD k T0)).length + (letL ⟨#[120]⟩ ((norm p).getD k T0).i).length = (hdB tx ((norm p).getD k T0) ++ letL ⟨#[120]⟩ ((norm p).getD k T0).i).length := (List.length_append ..).symm
              rw [e64] at h
              rw [e64, ← List.map_append] at hG64
              refine x_step [7] (by kernel_rfl) (by decide) ?_; intro i hi
              simp only [List.mem_cons, List.not_mem_nil, or_false] at hi
              rcases hi with rfl
              refine x_loadO h rfl rfl mr Tryz.isAgg3 Tryz.sizeOf3 (rs_7_1 _ _ _ _ _ _ _) (by decide) ?_; clear h; intro a h
              refine x_step [8] (by kernel_rfl) (by decide) ?_; intro i hi
              simp only [List.mem_cons, List.not_mem_nil, or_false] at hi
              rcases hi with rfl
              refine x_call h (vs := [_, _]) rfl rfl Tryz.call46 (C_letter ⟨#[121]⟩ ((norm p).getD k T0).j (by omega) (Nat.le_refl 1)) (by simp) (by decide) ?_; clear h; rintro v67 Ψ67 a w ⟨ad67, c67, rfl, rfl⟩ h
              refine x_step [9] (by kernel_rfl) (by decide) ?_; intro i hi
              simp only [List.mem_cons, List.not_mem_nil, or_false] at hi
              rcases hi with rfl
              refine x_appendG (o := o64) h rfl rfl hG64 rfl mm Tryz.runUnderlying87 Tryz.runUnderlying87 Tryz.typeInfo9 Tryz.sizeOf9 Tryz.zeroValue9 rfl (by decide) (by decide) (by rw [List.length_map, Nat.mul_one]) (flatS _) (by show 16 * _ ≤ 281474976710656; omega) (by decide) ?_; clear h; intro v68 o68 a w hG68 h; obtain ⟨ad68, c68, rfl⟩ := hG68.is
              have e68 : (hdB tx ((norm p).getD k T0) ++ letL ⟨#[120]⟩ ((norm p).getD k T0).i).length + (letL ⟨#[121]⟩ ((norm p).getD k T0).j).length = ((hdB tx ((norm p).getD k T0) ++ letL ⟨#[120]⟩ ((norm p).getD k T0).i) ++ letL ⟨#[121]⟩ ((norm p).getD k T0).j).length := (List.length_append ..).symm
              rw [e68] at h
              rw [e68, ← List.map_append] at hG68
              replace h := h.shareO' hS hG68
              refine x_step [10] (by kernel_rfl) (by decide) ?_; intro i hi
              simp only [List.mem_cons, List.not_mem_nil, or_false] at hi
              rcases hi with rfl
              refine x_callV h (vs := [_, _]) rfl rfl Tryz.call45 (C_Join ad68 c68 ((hdB tx ((norm p).getD k T0) ++ letL ⟨#[120]⟩ ((norm p).getD k T0).i) ++ letL ⟨#[121]⟩ ((norm p).getD k T0).j) ⟨#[42]⟩ hG68.cap (by omega) M hps2 hjm) (by simp) (by decide) ?_; clear h; intro a w h
              refine x_step [11] (by kernel_rfl) (by decide) ?_; intro i hi
              simp only [List.mem_cons, List.not_mem_nil, or_false] at hi
              rcases hi with rfl
              refine x_pure h rfl (.binOp rfl rfl (fun _ => run_sadd _ _ _ _ _ (by unfold tmTx at hts2; omega))) (by decide) ?_; clear h; intro a h
              refine x_step [12] (by kernel_rfl) (by decide) ?_; intro i hi
              simp only [List.mem_cons, List.not_mem_nil, or_false] at hi
              rcases hi with rfl
              refine x_pure h rfl (.assign rfl) (by decide) ?_; clear h; intro a h
              refine x_end (by kernel_rfl) ?_
              change Code.wp _ _ _ _ _
              refine gC h (zr (zp (Pure1.cast (v' := (.int .i64 ((k + 1 : Nat) : Int))) (.add rfl rfl) (by show Value.int _ _ = Value.int _ _; congr 1)) (zm rfl (zn ?_)))); clear h; intro a w h
              have htk : txP tx (norm p) (k + 1) = preP (txP tx (norm p) k) (decide (k = 0)) (decide (((norm p).getD k T0).c.num.sign < 0)) ++ joinB ((hdB tx ((norm p).getD k T0) ++ letL ⟨#[120]⟩ ((norm p).getD k T0).i) ++ letL ⟨#[121]⟩ ((norm p).getD k T0).j) ⟨#[42]⟩ := rfl
              rw [← htk] at h
              exact ⟨k + 1, ⟨by omega, ((h.drop sl).factsSub (by exact (fun _ hR => by repeat (first | exact hR | apply List.Mem.tail)))).sub sA⟩, by omega⟩
            · skip
              refine x_loadO h rfl rfl mr Tryz.isAgg3 Tryz.sizeOf3 (rs_7_1 _ _ _ _ _ _ _) (by decide) ?_; clear h; intro a h
              refine x_step [5] (by kernel_rfl) (by decide) ?_; intro i hi
              simp only [List.mem_cons, List.not_mem_nil, or_false] at hi
              rcases hi with rfl
              refine x_appendG (o := o7) h rfl rfl hG7 rfl mm Tryz.runUnderlying87 Tryz.runUnderlying87 Tryz.typeInfo9 Tryz.sizeOf9 Tryz.zeroValue9 rfl (by decide) (by decide) (by rw [List.length_map, Nat.mul_one]) (flatS _) (by show 16 * _ ≤ 281474976710656; omega) (by decide) ?_; clear h; intro v64 o64 a w hG64 h; obtain ⟨ad64, c64, rfl⟩ := hG64.is
              have e64 : (hdB tx ((norm p).getD k T0)).length + (letL ⟨#[120]⟩ ((norm p).getD k T0).i).length = (hdB tx ((norm p).getD k T0) ++ letL ⟨#[120]⟩ ((norm p).getD k T0).i).length := (List.length_append ..).symm
              rw [e64] at h
              rw [e64, ← List.map_append] at hG64
              refine x_step [8] (by kernel_rfl) (by decide) ?_; intro i hi
              simp only [List.mem_cons, List.not_mem_nil, or_false] at hi
              rcases hi with rfl
              refine x_call h (vs := [_, _]) rfl rfl Tryz.call46 (C_letter ⟨#[121]⟩ ((norm p).getD k T0).j (by omega) (Nat.le_refl 1)) (by simp) (by decide) ?_; clear h; rintro v67 Ψ67 a w ⟨ad67, c67, rfl, rfl⟩ h
              refine x_step [9] (by kernel_rfl) (by decide) ?_; intro i hi
              simp only [List.mem_cons, List.not_mem_nil, or_false] at hi
              rcases hi with rfl
              refine x_appendG (o := o64) h rfl rfl hG64 rfl mm Tryz.runUnderlying87 Tryz.runUnderlying87 Tryz.typeInfo9 Tryz.sizeOf9 Tryz.zeroValue9 rfl (by decide) (by decide) (by rw [List.length_map, Nat.mul_one]) (flatS _) (by show 16 * _ ≤ 281474976710656; omega) (by decide) ?_; clear h; intro v68 o68 a w hG68 h; obtain ⟨ad68, c68, rfl⟩ := hG68.is
              have e68 : (hdB tx ((norm p).getD k T0) ++ letL ⟨#[120]⟩ ((norm p).getD k T0).i).length + (letL ⟨#[121]⟩ ((norm p).getD k T0).j).length = ((hdB tx ((norm p).getD k T0) ++ letL ⟨#[120]⟩ ((norm p).getD k T0).i) ++ letL ⟨#[121]⟩ ((norm p).getD k T0).j).length := (List.length_append ..).symm
              rw [e68] at h
              rw [e68, ← List.map_append] at hG68
              replace h := h.shareO' hS hG68
              refine x_step [10] (by kernel_rfl) (by decide) ?_; intro i hi
              simp only [List.mem_cons, List.not_mem_nil, or_false] at hi
              rcases hi with rfl
              refine x_callV h (vs := [_, _]) rfl rfl Tryz.call45 (C_Join ad68 c68 ((hdB tx ((norm p).getD k T0) ++ letL ⟨#[120]⟩ ((norm p).getD k T0).i) ++ letL ⟨#[121]⟩ ((norm p).getD k T0).j) ⟨#[42]⟩ hG68.cap (by omega) M hps2 hjm) (by simp) (by decide) ?_; clear h; intro a w h
              refine x_step [11] (by kernel_rfl) (by decide) ?_; intro i hi
              simp only [List.mem_cons, List.not_mem_nil, or_false] at hi
              rcases hi with rfl
              refine x_pure h rfl (.binOp rfl rfl (fun _ => run_sadd _ _ _ _ _ (by unfold tmTx at hts2; omega))) (by decide) ?_; clear h; intro a h
              refine x_step [12] (by kernel_rfl) (by decide) ?_; intro i hi
              simp only [List.mem_cons, List.not_mem_nil, or_false] at hi
              rcases hi with rfl
              refine x_pure h rfl (.assign rfl) (by decide) ?_; clear h; intro a h
              refine x_end (by kernel_rfl) ?_
              change Code.wp _ _ _ _ _
              refine gC h (zr (zp (Pure1.cast (v' := (.int .i64 ((k + 1 : Nat) : Int))) (.add rfl rfl) (by show Value.int _ _ = Value.int _ _; congr 1)) (zm rfl (zn ?_)))); clear h; intro a w h
              have htk : txP tx (norm p) (k + 1) = preP (txP tx (norm p) k) (decide (k = 0)) (decide (((norm p).getD k T0).c.num.sign < 0)) ++ joinB ((hdB tx ((norm p).getD k T0) ++ letL ⟨#[120]⟩ ((norm p).getD k T0).i) ++ letL ⟨#[121]⟩ ((norm p).getD k T0).j) ⟨#[42]⟩ := rfl
              rw [← htk] at h
              exact ⟨k + 1, ⟨by omega, ((h.drop sl).factsSub (by exact (fun _ hR => by repeat (first | exact hR | apply List.Mem.tail)))).sub sA⟩, by omega⟩
          · skip
            refine x_loadO h rfl rfl mr Tryz.isAgg3 Tryz.sizeOf3 (rs_7_1 _ _ _ _ _ _ _) (by decide) ?_; clear h; intro a h
            refine x_step [4] (by kernel_rfl) (by decide) ?_; intro i hi
            simp only [List.mem_cons, List.not_mem_nil, or_false] at hi
            rcases hi with rfl
            refine x_call h (vs := [_, _]) rfl rfl Tryz.call46 (C_letter ⟨#[120]⟩ ((norm p).getD k T0).i (by omega) (Nat.le_refl 1)) (by simp) (by decide) ?_; clear h; rintro v63 Ψ63 a w ⟨ad63, c63, rfl, rfl⟩ h
            refine x_step [5] (by kernel_rfl) (by decide) ?_; intro i hi
            simp only [List.mem_cons, List.not_mem_nil, or_false] at hi
            rcases hi with rfl
            refine x_appendG (o := o7) h rfl rfl hG7 rfl mm Tryz.runUnderlying87 Tryz.runUnderlying87 Tryz.typeInfo9 Tryz.sizeOf9 Tryz.zeroValue9 rfl (by decide) (by decide) (by rw [List.length_map, Nat.mul_one]) (flatS _) (by show 16 * _ ≤ 281474976710656; omega) (by decide) ?_; clear h; intro v64 o64 a w hG64 h; obtain ⟨ad64, c64, rfl⟩ := hG64.is
            have e64 : (hdB tx ((norm p).getD k T0)).length + (letL ⟨#[120]⟩ ((norm p).getD k T0).i).length = (hdB tx ((norm p).getD k T0) ++ letL ⟨#[120]⟩ ((norm p).getD k T0).i).length := (List.length_append ..).symm
            rw [e64] at h
            rw [e64, ← List.map_append] at hG64
            refine x_step [8] (by kernel_rfl) (by decide) ?_; intro i hi
            simp only [List.mem_cons, List.not_mem_nil, or_false] at hi
            rcases hi with rfl
            refine x_call h (vs := [_, _]) rfl rfl Tryz.call46 (C_letter ⟨#[121]⟩ ((norm p).getD k T0).j (by omega) (Nat.le_refl 1)) (by simp) (by decide) ?_; clear h; rintro v67 Ψ67 a w ⟨ad67, c67, rfl, rfl⟩ h
            refine x_step [9] (by kernel_rfl) (by decide) ?_; intro i hi
            simp only [List.mem_cons, List.not_mem_nil, or_false] at hi
            rcases hi with rfl
            refine x_appendG (o := o64) h rfl rfl hG64 rfl mm Tryz.runUnderlying87 Tryz.runUnderlying87 Tryz.typeInfo9 Tryz.sizeOf9 Tryz.zeroValue9 rfl (by decide) (by decide) (by rw [List.length_map, Nat.mul_one]) (flatS _) (by show 16 * _ ≤ 281474976710656; omega) (by decide) ?_; clear h; intro v68 o68 a w hG68 h; obtain ⟨ad68, c68, rfl⟩ := hG68.is
            have e68 : (hdB tx ((norm p).getD k T0) ++ letL ⟨#[120]⟩ ((norm p).getD k T0).i).length + (letL ⟨#[121]⟩ ((norm p).getD k T0).j).length = ((hdB tx ((norm p).getD k T0) ++ letL ⟨#[120]⟩ ((norm p).getD k T0).i) ++ letL ⟨#[121]⟩ ((norm p).getD k T0).j).length := (List.length_append ..).symm
            rw [e68] at h
            rw [e68, ← List.map_append] at hG68
            replace h := h.shareO' hS hG68
            refine x_step [10] (by kernel_rfl) (by decide) ?_; intro i hi
            simp only [List.mem_cons, List.not_mem_nil, or_false] at hi
            rcases hi with rfl
            refine x_callV h (vs := [_, _]) rfl rfl Tryz.call45 (C_Join ad68 c68 ((hdB tx ((norm p).getD k T0) ++ letL ⟨#[120]⟩ ((norm p).getD k T0).i) ++ letL ⟨#[121]⟩ ((norm p).getD k T0).j) ⟨#[42]⟩ hG68.cap (by omega) M hps2 hjm) (by simp) (by decide) ?_; clear h; intro a w h
            refine x_step [11] (by kernel_rfl) (by decide) ?_; intro i hi
            simp only [List.mem_cons, List.not_mem_nil, or_false] at hi
            rcases hi with rfl
            refine x_pure h rfl (.binOp rfl rfl (fun _ => run_sadd _ _ _ _ _ (by unfold tmTx at hts2; omega))) (by decide) ?_; clear h; intro a h
            refine x_step [12] (by kernel_rfl) (by decide) ?_; intro i hi
            simp only [List.mem_cons, List.not_mem_nil, or_false] at hi
            rcases hi with rfl
            refine x_pure h rfl (.assign rfl) (by decide) ?_; clear h; intro a h
            refine x_end (by kernel_rfl) ?_
            change Code.wp _ _ _ _ _
            refine gC h (zr (zp (Pure1.cast (v' := (.int .i64 ((k + 1 : Nat) : Int))) (.add rfl rfl) (by show Value.int _ _ = Value.int _ _; congr 1)) (zm rfl (zn ?_)))); clear h; intro a w h
            have htk : txP tx (norm p) (k + 1) = preP (txP tx (norm p) k) (decide (k = 0)) (decide (((norm p).getD k T0).c.num.sign < 0)) ++ joinB ((hdB tx ((norm p).getD k T0) ++ letL ⟨#[120]⟩ ((norm p).getD k T0).i) ++ letL ⟨#[121]⟩ ((norm p).getD k T0).j) ⟨#[42]⟩ := rfl
            rw [← htk] at h
            exact ⟨k + 1, ⟨by omega, ((h.drop sl).factsSub (by exact (fun _ hR => by repeat (first | exact hR | apply List.Mem.tail)))).sub sA⟩, by omega⟩
  · skip
    have heq_k : (norm p).length = k := by have := of_decide_eq_false hc13; omega
    subst heq_k
    refine gC h (ze (zs (zs (zr (zm rfl (zp (.binOp rfl rfl (fun _ => run_seql _ _ _ _ _)) (zn ?_))))))); clear h; intro a w h
    change Code.wp _ _ _ _ _
    refine cond_split h rfl (fun hc73 => ?_) (fun hc73 => ?_)
    · skip
      refine gC h (zs (zr (za rfl (zn (zt ?_))))); clear h; intro a w h
      refine retV h (results1 h rfl (.tmp rfl)) ?_
      unfold txtP; rw [if_pos (by simpa using hc73)]
    · skip
      refine gC h (zk (zs (zr (zm rfl (za rfl (zn (zt ?_))))))); clear h; intro a w h
      refine retV h (results1 h rfl (.tmp rfl)) ?_
      unfold txtP; rw [if_neg (by simpa using hc73)]
end Go.Proofs.YtgkicbaomcmfoaaGreatDoor
