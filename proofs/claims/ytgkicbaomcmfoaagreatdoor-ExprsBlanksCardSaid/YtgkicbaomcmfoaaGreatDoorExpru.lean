/- Written by a program of ours (gen.py) out of short specifications. By an AI agent. -/
import Derived.Test.YtgkicbaomcmfoaaGreatDoorExprf
set_option linter.unusedVariables false
set_option linter.unusedSimpArgs false
set_option maxRecDepth 4000
namespace Go.Proofs.YtgkicbaomcmfoaaGreatDoor
open Go Go.Proofs Go.Fx
attribute [local irreducible] Oper.wp Code.wp wpList Fx.Head wpOp
section
def brE (s : ByteArray) (ins : Ins) (i0 k : Nat) : Except Fa (List Tm × Nat) :=
  match ins with
  | none => .error (3, i0)
  | some f =>
    match f k with
    | .error e => .error e
    | .ok (p, k2) => if takesE s 41 k2 = true then .ok (p, blkE s k2 + 1) else .error (4, blkE s k2)
section
variable {s : ByteArray} {ins : Ins} {k f b n c : Nat} {p q : List Tm} {e : Fa}
theorem sumL_stop (h1 : takesE s 43 k = false) (h2 : takesE s 45 k = false) : sumL s ins (f + 1) p k = .ok (p, blkE s k) := by
  rw [sumL, if_neg (by rw [h1, h2]; simp)]
theorem sumL_err (ht : takesE s 43 k = true ∨ takesE s 45 k = true) (h : termI s ins (blkE s k + 1) = .error e) : sumL s ins (f + 1) p k = .error e := by
  rw [sumL, if_pos ht, h]
theorem sumL_lim (ht : takesE s 43 k = true ∨ takesE s 45 k = true) (h : termI s ins (blkE s k + 1) = .ok (q, b)) (hl : sizeE p + sizeE q > 16384) : sumL s ins (f + 1) p k = .error (3, blkE s k) := by
  rw [sumL, if_pos ht, h]; simp only [if_pos hl]
theorem sumL_add (ht : takesE s 43 k = true) (h : termI s ins (blkE s k + 1) = .ok (q, b)) (hl : ¬ sizeE p + sizeE q > 16384) : sumL s ins (f + 1) p k = sumL s ins f (norm (p ++ q)) b := by
  rw [sumL, if_pos (.inl ht), h]; simp only [if_neg hl, if_pos ht, nI_norm]
theorem sumL_sub (h0 : takesE s 43 k = false) (ht : takesE s 45 k = true) (h : termI s ins (blkE s k + 1) = .ok (q, b)) (hl : ¬ sizeE p + sizeE q > 16384) : sumL s ins (f + 1) p k = sumL s ins f (norm (p ++ scaleL ((-1 : Int) : Rat) q)) b := by
  rw [sumL, if_pos (.inr ht), h]; simp only [if_neg hl, h0, Bool.false_eq_true, if_false, nI_norm]
theorem sumI_err (h : termI s ins (if takesE s 45 k = true then blkE s k + 1 else blkE s k) = .error e) : sumI s ins k = .error e := by
  unfold sumI; rw [h]
theorem sumI_ok (h : termI s ins (if takesE s 45 k = true then blkE s k + 1 else blkE s k) = .ok (p, b)) : sumI s ins k = sumL s ins (s.size - b + 1) (if takesE s 45 k = true then norm (scaleL ((-1 : Int) : Rat) p) else p) b := by
  unfold sumI; rw [h]; simp only [nI_norm]
theorem termI_err (h : factE s ins k = .error e) : termI s ins k = .error e := by unfold termI; rw [h]
theorem termI_ok (h : factE s ins k = .ok (p, b)) : termI s ins k = termE s ins (s.size - b + 1) p b := by unfold termI; rw [h]
theorem termE_stop (h1 : takesE s 42 k = false) (h2 : takesE s 47 k = false) : termE s ins (f + 1) p k = .ok (p, blkE s k) := by
  rw [termE, if_neg (by rw [h1]; simp), if_neg (by rw [h2]; simp)]
theorem termE_merr (h1 : takesE s 42 k = true) (h : factE s ins (blkE s k + 1) = .error e) : termE s ins (f + 1) p k = .error e := by
  rw [termE, if_pos h1, h]
theorem termE_mdeg (h1 : takesE s 42 k = true) (h : factE s ins (blkE s k + 1) = .ok (q, b)) (hd : ¬ mulOk p q) : termE s ins (f + 1) p k = .error (9, blkE s k) := by
  rw [termE, if_pos h1, h]; simp only [if_pos (Decidable.of_not_not hd)]
theorem termE_mlim (h1 : takesE s 42 k = true) (h : factE s ins (blkE s k + 1) = .ok (q, b)) (hd : mulOk p q) (hl : sizeE p + sizeE q > 16384) : termE s ins (f + 1) p k = .error (3, blkE s k) := by
  rw [termE, if_pos h1, h]; simp only [if_neg hd, if_pos hl]
theorem termE_mul (h1 : takesE s 42 k = true) (h : factE s ins (blkE s k + 1) = .ok (q, b)) (hd : mulOk p q) (hl : ¬ sizeE p + sizeE q > 16384) : termE s ins (f + 1) p k = termE s ins f (norm (mulL p q)) b := by
  rw [termE, if_pos h1, h]; simp only [if_neg hd, if_neg hl, nI_norm]
theorem termE_qerr (h1 : takesE s 42 k = false) (h2 : takesE s 47 k = true) (h : numE s (blkE s k + 1) = .error e) : termE s ins (f + 1) p k = .error e := by
  rw [termE, if_neg (by rw [h1]; simp), if_pos h2, h]
theorem termE_qzero (h1 : takesE s 42 k = false) (h2 : takesE s 47 k = true) (h : numE s (blkE s k + 1) = .ok (n, c, b)) (h0 : n = 0) : termE s ins (f + 1) p k = .error (5, c) := by
  rw [termE, if_neg (by rw [h1]; simp), if_pos h2, h]; simp only [if_pos h0]
theorem termE_qlim (h1 : takesE s 42 k = false) (h2 : takesE s 47 k = true) (h : numE s (blkE s k + 1) = .ok (n, c, b)) (h0 : n ≠ 0) (hl : sizeE p + bitsN n > 16384) : termE s ins (f + 1) p k = .error (3, blkE s k) := by
  rw [termE, if_neg (by rw [h1]; simp), if_pos h2, h]; simp only [if_neg h0, if_pos hl]
theorem termE_quo (h1 : takesE s 42 k = false) (h2 : takesE s 47 k = true) (h : numE s (blkE s k + 1) = .ok (n, c, b)) (h0 : n ≠ 0) (hl : ¬ sizeE p + bitsN n > 16384) : termE s ins (f + 1) p k = termE s ins f (norm (scaleL (1 / ((n : Int) : Rat)) p)) b := by
  rw [termE, if_neg (by rw [h1]; simp), if_pos h2, h]; simp only [if_neg h0, if_neg hl, nI_norm]
theorem factE_err (h : baseE s ins k = .error e) : factE s ins k = .error e := by unfold factE; rw [h]
theorem factE_one (h : baseE s ins k = .ok (p, b)) (h1 : takesE s 94 b = false) : factE s ins k = .ok (p, blkE s b) := by
  unfold factE; rw [h]; simp only [h1, Bool.false_eq_true, if_false]
theorem factE_nerr (h : baseE s ins k = .ok (p, b)) (h1 : takesE s 94 b = true) (h2 : numE s (blkE s b + 1) = .error e) : factE s ins k = .error e := by
  unfold factE; rw [h]; simp only [if_pos h1, h2]
theorem factE_deg {m : Nat} (h : baseE s ins k = .ok (p, b)) (h1 : takesE s 94 b = true) (h2 : numE s (blkE s b + 1) = .ok (n, c, m)) (h3 : n > 12 ∨ (n : Int) * degN p > 12) : factE s ins k = .error (9, blkE s b) := by
  unfold factE; rw [h]; simp only [if_pos h1, h2, if_pos h3]
theorem factE_lim {m : Nat} (h : baseE s ins k = .ok (p, b)) (h1 : takesE s 94 b = true) (h2 : numE s (blkE s b + 1) = .ok (n, c, m)) (h3 : ¬ (n > 12 ∨ (n : Int) * degN p > 12)) (h4 : n * sizeE p > 16384) : factE s ins k = .error (3, blkE s b) := by
  unfold factE; rw [h]; simp only [if_pos h1, h2, if_neg h3, if_pos h4]
theorem factE_pow {m : Nat} (h : baseE s ins k = .ok (p, b)) (h1 : takesE s 94 b = true) (h2 : numE s (blkE s b + 1) = .ok (n, c, m)) (h3 : ¬ (n > 12 ∨ (n : Int) * degN p > 12)) (h4 : ¬ n * sizeE p > 16384) : factE s ins k = .ok (norm (powL p n), m) := by
  unfold factE; rw [h]; simp only [if_pos h1, h2, if_neg h3, if_neg h4, nI_norm]
theorem baseE_x (h : takesE s 120 k = true) : baseE s ins k = .ok ([⟨1, 0, 1⟩], blkE s k + 1) := by unfold baseE; rw [if_pos h]
theorem baseE_y (h0 : takesE s 120 k = false) (h : takesE s 121 k = true) : baseE s ins k = .ok ([⟨0, 1, 1⟩], blkE s k + 1) := by
  unfold baseE; rw [if_neg (by rw [h0]; simp), if_pos h]
theorem baseE_br (h0 : takesE s 120 k = false) (h1 : takesE s 121 k = false) (h : takesE s 40 k = true) : baseE s ins k = brE s ins (blkE s k) (blkE s k + 1) := by
  unfold baseE brE; rw [if_neg (by rw [h0]; simp), if_neg (by rw [h1]; simp), if_pos h]; cases ins <;> rfl
theorem baseE_nerr (h0 : takesE s 120 k = false) (h1 : takesE s 121 k = false) (h2 : takesE s 40 k = false) (h : numE s k = .error e) : baseE s ins k = .error e := by
  unfold baseE; rw [if_neg (by rw [h0]; simp), if_neg (by rw [h1]; simp), if_neg (by rw [h2]; simp), h]
theorem baseE_num (h0 : takesE s 120 k = false) (h1 : takesE s 121 k = false) (h2 : takesE s 40 k = false) (h : numE s k = .ok (n, c, b)) : baseE s ins k = .ok (norm [⟨0, 0, ((n : Int) : Rat)⟩], b) := by
  unfold baseE; rw [if_neg (by rw [h0]; simp), if_neg (by rw [h1]; simp), if_neg (by rw [h2]; simp), h]; simp only [nI_norm]
end
theorem sizeE_take (p : List Tm) {i : Nat} (h : i < p.length) : sizeE (p.take (i + 1)) = sizeE (p.take i) + (bitsN (p.getD i T0).c.num.natAbs + bitsN (p.getD i T0).c.den) := by
  unfold sizeE; rw [foldl_take_succ p 0 i T0 h]
theorem Gd.size {p : List Tm} (h : Gd p) : sizeE p ≤ 37273600 := by
  have key : ∀ l : List Tm, KL 6400 l → (l.map szT).sum ≤ 409600 * l.length := by
    intro l
    induction l with
    | nil => intro _; exact Nat.le_refl _
    | cons t l ih =>
      intro hk
      have h1 := ih (fun u hu => hk u (List.mem_cons_of_mem _ hu))
      obtain ⟨h2, h3⟩ := lenQ_le (hk t List.mem_cons_self)
      have h4 := bitsN_le t.c.num.natAbs
      have h5 := bitsN_le t.c.den
      unfold lenZ at h2
      rw [List.map_cons, List.sum_cons, List.length_cons]
      have h6 : szT t = bitsN t.c.num.natAbs + bitsN t.c.den := rfl
      omega
  have h1 := key p h.pq.siz
  have h2 := h.len
  rw [sizeE_sum]; omega
end
section
theorem bd_53_z (w : World) : (Instr.build 53 [].toArray).run Tryz.prog w = .ok (.agg #[.int .u64 0, .string ⟨#[]⟩, .bool false, .int .u64 0, .string ⟨#[]⟩]) w := by simp [go_sem]
theorem fa_78_2 (b off : Nat) (w : World) : (Instr.fieldAt 78 (.pointer (some ⟨b, off, none⟩)) 2).run Tryz.prog w = .ok (.pointer (some ⟨b, off + 2, none⟩)) w := by
  simp [go_sem]
theorem st_3_2_1 (c0 c1 c2 v0 : Value) : setFrom #[c0, c1, c2] 2 [v0] = #[c0, c1, v0] := rfl
theorem C_size (p : List Tm) (ad : Option Addr) (c : Nat) (hg : Gd p) : CtrW Tryz.prog 73 [.slice ad p.length c] [Row ad (cellsOf encT p)] (.int .i64 ((sizeE p : Nat) : Int)) := by
  have hl91 := hg.len
  refine fn_intro Tryz.func73 rfl Tryz.ntmps73 nb ?_
  intro S w0 a hS h
  refine gC h (zs (zr (za rfl (zn (zs (zr (za rfl (zn (zs (zs (zr (zm rfl (zp (.builtin [_] rfl (len_slice_25 _ _ _)) (zm rfl (zn (zb ?_)))))))))))))))); clear h; intro a w h
  refine wp_loop_inv (fun (i : Nat) a w => i ≤ p.length ∧ (sizeE (p.take i) ≤ 409600 * i) ∧ St 26 S w0 [(2, .int .i64 0), (3, .int .i64 ((sizeE (p.take i) : Nat) : Int)), (6, .slice ad p.length c), (7, .int .i64 ((p.length : Nat) : Int)), (8, .int .i64 ((i : Nat) : Int))] [] [Row ad (cellsOf encT p)] a w) (fun i => p.length - i) 0 (⟨Nat.zero_le _, Nat.zero_le _, by exact (h).sub (subL ⟨rfl, rfl, rfl, rfl, rfl, trivial⟩)⟩) ?_; clear h
  rintro i a w ⟨hi_i, hsz, h⟩
  refine gC h (zs (zr (zp (.lss rfl rfl) (zn (zs ?_))))); clear h; intro a w h
  refine cond_split h rfl (fun hc9 => ?_) (fun hc9 => ?_)
  · skip
    have hlt_i : i < p.length := by have := of_decide_eq_true hc9; omega
    obtain ⟨B_ad, O_ad, rfl⟩ := h.row_addr (ad := ad) (M := cellsOf encT p) mm (by intro e; have := congrArg List.length e; rw [cellsOf_length (k := 7) (fun _ => rfl)] at this; simp only [List.length_nil, Nat.mul_eq_zero] at this; omega)
    have hstep := sizeE_take p hlt_i
    obtain ⟨hb1, hb2⟩ := lenQ_le (hg.pq.siz _ (getD_mem p (d := T0) hlt_i))
    unfold lenZ at hb1
    have hc1 := bitsN_le (p.getD i T0).c.num.natAbs
    have hc2 := bitsN_le (p.getD i T0).c.den
    refine gC h (zk (zs (zb (zs (zr (zp (.indexAddr rfl rfl (ix_25 _ _ _ _ _ (by omega))) (zD rfl mm (cells_lt (k := 7) (by decide) (fun _ => rfl) p i (by omega)) Tryz.isAgg82 Tryz.sizeOf82 (read_cells (k := 7) (fun _ => rfl) ((fun _ => rfl)) p T0 i (by omega)) (.inl rfl) ?_))))))); clear h; intro a w h
    refine gL h (zz zeroT fun b5 => zt' rfl rfl (st_7_0_7 _ _ _ _ _ _ _ _ _ _ _ _ _ _) uu Tryz.sizeOf82 rfl nb rfl ?_); clear h; intro a w h
    refine gL h (zn (yD mixed_YtgkicbaomcmfoaaGreatDoor [0, 1, 2, 6, 7, 3, 4, 5, 8, 9, 10, 11, 12] (floatsOK_none (by kernel_rfl)) (yp rfl (.move rfl) (yp rfl (.fieldAddr rfl (fa_82_2 _ _)) (yd rfl rfl mr Tryz.isAgg53 Tryz.sizeOf53 (rd_7_2_5 _ _ _ _ _ _ _) ?_))))); clear h
    refine yp rfl (.fieldAddr rfl (fa_82_2 _ _)) (yd rfl rfl mr Tryz.isAgg53 Tryz.sizeOf53 (rd_7_2_5 _ _ _ _ _ _ _) ?_)
    refine yv [_] rfl rfl Tryz.call116 (C_QNum _) (yv [_] rfl rfl Tryz.call76 (C_ZAbs _) (yv [_] rfl rfl Tryz.call114 (C_Bits _ (by omega)) (yv [_] rfl rfl Tryz.call115 (C_QDen _ (by omega)) (yv [_] rfl rfl Tryz.call114 (C_Bits _ (by omega)) (yp rfl (Pure1.cast (v' := (.int .i64 (((bitsN (p.getD i T0).c.num.natAbs) + (bitsN (p.getD i T0).c.den) : Nat) : Int))) (.add rfl rfl) (by show Value.int _ _ = Value.int _ _; congr 1)) (yp rfl (Pure1.cast (v' := (.int .i64 (((sizeE (p.take i)) + ((bitsN (p.getD i T0).c.num.natAbs) + (bitsN (p.getD i T0).c.den)) : Nat) : Int))) (.add rfl rfl) (by show Value.int _ _ = Value.int _ _; congr 1)) (yp rfl (.assign rfl) (yn (zr (zp (Pure1.cast (v' := (.int .i64 ((i + 1 : Nat) : Int))) (.add rfl rfl) (by show Value.int _ _ = Value.int _ _; congr 1)) (zm rfl (zn ?_)))))))))))); intro a w h
    rw [← hstep] at h
    exact ⟨i + 1, ⟨by omega, by rw [hstep]; omega, ((h.drop sl).factsSub (by simp)).sub sA⟩, by omega⟩
  · skip
    have heq_i : p.length = i := by have := of_decide_eq_false hc9; omega
    subst heq_i
    refine gC h (ze (zs (zr (zm rfl (za rfl (zn (zt ?_))))))); clear h; intro a w h
    refine retV h (results1 h rfl (.tmp rfl)) ?_
    rw [List.take_length]
theorem C_degG (p : List Tm) (ad : Option Addr) (c : Nat) (hg : Gd p) : CtrW Tryz.prog 49 [.slice ad p.length c] [Row ad (cellsOf encT p)] (.int .i64 (degN p)) := by
  have h := C_Degree p ad c 12 6400 hg.pq (by decide) (by decide)
  rw [hg.nn] at h; exact h
theorem C_QNumN (n : Nat) : CtrV Tryz.prog 116 [encQ ((n : Int) : Rat)] (encZ ((n : Nat) : Int)) := by
  have h := C_QNum ((n : Int) : Rat)
  rw [Rat.num_intCast] at h; exact h
theorem C_ZAbsN (n : Nat) : CtrV Tryz.prog 76 [encZ ((n : Nat) : Int)] (encN n) := C_ZAbs ((n : Nat) : Int)
def qinv (n : Nat) : Rat := if n = 0 then 0 else 1 / ((n : Int) : Rat)
def qer (n : Nat) : Int := if n = 0 then 5 else 0
theorem C_QDiv0 (x : Rat) : CtrV Tryz.prog 90 [encQ x, encQ 0] (.tuple #[encQ 0, .int .i64 5]) := by
  refine fn_intro Tryz.func90 rfl Tryz.ntmps90 nb ?_
  intro S w0 a hS h
  refine gC h (zs (zr (zx rfl fun b2 => zx rfl fun b3 => zz zeroQ fun b4 => za rfl (zn (zs (zs (zr (zd rfl mr Tryz.isAgg53 Tryz.sizeOf53 (rd_5_0_5 _ _ _ _ _) ?_)))))))); clear h; intro a w h
  refine gL h (zv [_] rfl Tryz.call43 (C_QSign 0) (zp (.eql rfl rfl) (zn ?_))); clear h; intro a w h
  change Code.wp _ _ _ _ _
  refine cond_split h rfl (fun hc9 => ?_) (fun hc9 => (by exfalso; exact absurd hc9 (by decide)))
  refine gC h (zs (zr (zp (.build [] rfl (bd_53_z)) (zt' rfl rfl (st_5_0_5 _ _ _ _ _ _ _ _ _ _) uu Tryz.sizeOf53 rfl nb rfl ?_)))); clear h; intro a w h
  refine gL h (za rfl (zn (zt ?_))); clear h; intro a w h
  refine retV h (results2 h rfl (.cell rfl mr Tryz.isAgg53 Tryz.sizeOf53 (rd_5_0_5 _ _ _ _ _)) (.tmp rfl)) ?_
  rfl
theorem castN_ne {n : Nat} (h : n ≠ 0) : ((n : Int) : Rat) ≠ 0 := fun e => h (by have := Rat.intCast_eq_zero_iff.1 e; omega)
theorem C_QDivN (n : Nat) (hn : n < 4294967296 ^ 426) : CtrV Tryz.prog 90 [encQ (((1 : Int)) : Rat), encQ ((n : Int) : Rat)] (.tuple #[encQ (qinv n), .int .i64 (qer n)]) := by
  unfold qinv qer
  by_cases h0 : n = 0
  · subst h0
    rw [if_pos rfl, if_pos rfl]; exact C_QDiv0 _
  · rw [if_neg h0, if_neg h0]
    have h1 := lenQ_nat hn (by decide)
    exact C_QDiv ((1 : Int) : Rat) _ (castN_ne h0) (Nat.le_trans (lenQ_int 1 (by decide) (by decide)) (by decide)) (Nat.le_trans h1 (by decide))
theorem inv_den (n : Nat) (h : n ≠ 0) : (1 / ((n : Int) : Rat)).den = n := by
  have e : (1 : Rat) / ((n : Int) : Rat) = mkRat 1 n := by
    rw [Rat.mkRat_eq_div]; rfl
  rw [e, Rat.den_mkRat]; simp [h]
theorem C_QDenInv (n : Nat) (h0 : n ≠ 0) (hn : n < 4294967296 ^ 426) : CtrV Tryz.prog 115 [encQ (1 / ((n : Int) : Rat))] (encN n) := by
  have h := C_QDen (1 / ((n : Int) : Rat)) (by rw [inv_den n h0]; exact Nat.le_trans (wds_len_le hn) (by decide))
  rw [inv_den n h0] at h; exact h
def InsC (b : Nat) (s : ByteArray) (o : Nat) (ins : Ins) : Prop :=
  (o = 32 ∧ ins = none) ∨ (o < 32 ∧ ∃ f, ins = some f ∧ ∀ (k : Nat) (σ : List (Nat × Obj)) (Φ : List SPred), k ≤ s.size → CtrE Tryz.prog 35 [.pointer (some ⟨b, 0, none⟩)] (rdB b s k (o + 1) :: σ) Φ (PostP (f k) b s (o + 1) σ Φ) (PanP (f k) b σ))
theorem C_bracketN (b k o : Nat) (s : ByteArray) (hs : s.size ≤ 4096) (hk : k ≤ s.size) (σ : List (Nat × Obj)) (Φ : List SPred) (i0 : Nat) (ho : o = 32) (fv : Value) : CtrE Tryz.prog 207 [.pointer (some ⟨b, 0, none⟩), .int .i64 ((i0 : Nat) : Int), fv] (rdB b s k o :: σ) Φ (fun _ _ _ => False) (PanP (.error (3, i0) : Except Fa Unit) b σ) := by
  refine fn_introE Tryz.func207 rfl Tryz.ntmps207 nb ?_
  intro S w0 a w hS h
  refine gC h (zs (zr (za rfl (zn (zs (zs (zr (zm rfl (zp (.nilCheck rfl) (zp (.fieldAddr rfl (fa_78_2 _ _)) (zd rfl mr Tryz.isAgg3 Tryz.sizeOf3 (rs_3_2 _ _ _) ?_))))))))))); clear h; intro a w h
  refine gL h (zp (.eql rfl rfl) (zn ?_)); clear h; intro a w h
  change Code.wp _ _ _ _ _
  refine cond_split h rfl (fun hc14 => ?_) (fun hc14 => (by exfalso; rw [ho] at hc14; exact absurd hc14 (by decide)))
  refine gC h (zr (zm rfl ?_)); clear h; intro a w h
  refine wpl_plain (op_callE h hS (vs := [_, _]) rfl Tryz.call37 (C_fails 3 _ _ _) (List.Perm.refl _) (by simp) ?_ (fun _ _ _ _ _ hp _ => by exact hp.elim))
  rintro _ _ w' ⟨rfl, rfl⟩ hm
  exact panE h hm ⟨3, i0, _, rfl, rfl, rfl⟩ sl (fun _ hR => by repeat (first | exact hR | apply List.Mem.tail))
theorem C_bracketF (b k o : Nat) (s : ByteArray) (hs : s.size ≤ 4096) (hk : k ≤ s.size) (σ : List (Nat × Obj)) (Φ : List SPred) (i0 : Nat) (ho : o < 32) (f : Nat → Except Fa (List Tm × Nat)) (hf : ∀ (k : Nat) (σ : List (Nat × Obj)) (Φ : List SPred), k ≤ s.size → CtrE Tryz.prog 35 [.pointer (some ⟨b, 0, none⟩)] (rdB b s k (o + 1) :: σ) Φ (PostP (f k) b s (o + 1) σ Φ) (PanP (f k) b σ))
    (hgf : ∀ k p k', k ≤ s.size → f k = .ok (p, k') → Gd p ∧ k ≤ k' ∧ k' ≤ s.size) :
    CtrE Tryz.prog 207 [.pointer (some ⟨b, 0, none⟩), .int .i64 ((i0 : Nat) : Int), .func (.func 35) #[.pointer (some ⟨b, 0, none⟩)] #[]] (rdB b s k o :: σ) Φ (PostP (brE s (some f) i0 k) b s o σ Φ) (PanP (brE s (some f) i0 k) b σ) := by
  refine fn_introE Tryz.func207 rfl Tryz.ntmps207 nb ?_
  intro S w0 a w hS h
  refine gC h (zs (zr (za rfl (zn (zs (zs (zr (zm rfl (zp (.nilCheck rfl) (zp (.fieldAddr rfl (fa_78_2 _ _)) (zd rfl mr Tryz.isAgg3 Tryz.sizeOf3 (rs_3_2 _ _ _) ?_))))))))))); clear h; intro a w h
  refine gL h (zp (.eql rfl rfl) (zn ?_)); clear h; intro a w h
  change Code.wp _ _ _ _ _
  refine cond_split h rfl (fun hc14 => (by exfalso; have := eq_of_beq hc14; omega)) (fun hc14 => ?_)
  refine gC h (zk (zs (zr (zm rfl (zp (.nilCheck rfl) (zp (.fieldAddr rfl (fa_78_2 _ _)) (zd rfl mr Tryz.isAgg3 Tryz.sizeOf3 (rs_3_2 _ _ _) ?_))))))); clear h; intro a w h
  refine gL h (zp (Pure1.cast (v' := (.int .i64 ((o + 1 : Nat) : Int))) (.add rfl rfl) (by show Value.int _ _ = Value.int _ _; congr 1)) (zp (.nilCheck rfl) (zp (.fieldAddr rfl (fa_78_2 _ _)) (zt' rfl rfl (st_3_2_1 _ _ _ _) uu Tryz.sizeOf3 rfl nb rfl ?_)))); clear h; intro a w h
  refine gL h (zn (zs (zr (zm rfl ?_)))); clear h; intro a w h
  refine wpl_plain (op_callEx h hS (fs := [.pointer (some ⟨b, 0, none⟩)]) (cs := []) rfl (vs := []) rfl Tryz.call35 (hf k σ Φ hk) (List.Perm.refl _) (by simp) ?_ ?_)
  · skip
    rintro _ _ w' ⟨e, i, ob, hx, rfl, rfl⟩ hm
    exact panE h hm ⟨e, i, ob, by unfold brE; simp only [hx], rfl, rfl⟩ sl (fun _ hR => by repeat (first | exact hR | apply List.Mem.tail))
  clear h; rintro v25 σ25 Ψ25 a w ⟨p25, k25, ad25, c25, hr25, rfl, rfl, rfl⟩ h
  obtain ⟨hg25, hk25a, hk25⟩ := hgf k p25 k25 hk hr25
  refine gL h (za rfl (zn (zs (zs (zr (zm rfl ?_)))))); clear h; intro a w h
  refine wpl_plain (op_callM h hS (vs := [_, _]) rfl Tryz.call70 (C_takes b k25 (o + 1) s hs hk25 _ (Row ad25 (cellsOf encT p25) :: Φ) 41 (by decide)) ((List.Perm.refl _)) (by simp) (by simp) ?_); clear h; rintro v28 σ28 Ψ28 a w ⟨rfl, rfl, rfl⟩ h
  refine gL h (zm rfl (zp (.extract rfl (fun _ => rfl)) (zp (.extract rfl (fun _ => rfl)) ?_))); clear h; intro a w h
  refine by_bool h (fun hc30 h => ?_) (fun hc30 h => ?_)
  · skip
    simp only [if_pos hc30] at h
    have hlt30 := takesE_lt hk25 hc30
    refine gL h (za rfl (za rfl (zn (zs (zr (zm rfl (zp (.unOp rfl (un_not _)) (zn ?_)))))))); clear h; intro a w h
    change Code.wp _ _ _ _ _
    refine cond_false h rfl ?_
    refine gC h (zk (zs (zr (zm rfl (zp (.nilCheck rfl) (zp (.fieldAddr rfl (fa_78_2 _ _)) (zd rfl mr Tryz.isAgg3 Tryz.sizeOf3 (rs_3_2 _ _ _) ?_))))))); clear h; intro a w h
    refine gL h (zp (Pure1.cast (v' := .int .i64 ((o : Nat) : Int)) (.sub rfl rfl) (by show Value.int _ _ = Value.int _ _; congr 1; omega)) (zp (.nilCheck rfl) (zp (.fieldAddr rfl (fa_78_2 _ _)) (zt' rfl rfl (st_3_2_1 _ _ _ _) uu Tryz.sizeOf3 rfl nb rfl ?_)))); clear h; intro a w h
    refine gL h (zn (zs (zr (zm rfl (za rfl (zn (zt ?_))))))); clear h; intro a w h
    refine retE h (results1 h rfl (.tmp rfl)) ⟨p25, blkE s k25 + 1, ad25, c25, by unfold brE; simp only [hr25, if_pos hc30], rfl, rfl, rfl⟩ sl (fun _ hR => by rcases List.mem_cons.1 hR with rfl | hR <;> (repeat (first | exact List.Mem.head _ | exact hR | apply List.Mem.tail)))
  · skip
    simp only [hc30, Bool.false_eq_true, if_false] at h
    refine gL h (za rfl (za rfl (zn (zs (zr (zm rfl (zp (.unOp rfl (un_not _)) (zn ?_)))))))); clear h; intro a w h
    change Code.wp _ _ _ _ _
    refine cond_true h rfl ?_
    refine gC h (zr (zm rfl (zp (.nilCheck rfl) (zp (.fieldAddr rfl (fa_78_1 _ _)) (zd rfl mr Tryz.isAgg3 Tryz.sizeOf3 (rs_3_1 _ _ _) ?_))))); clear h; intro a w h
    refine wpl_plain (op_callE h hS (vs := [_, _]) rfl Tryz.call37 (C_fails 4 _ _ _) (List.Perm.refl _) (by simp) ?_ (fun _ _ _ _ _ hp _ => by exact hp.elim))
    rintro _ _ w' ⟨rfl, rfl⟩ hm
    exact panE h hm ⟨4, blkE s k25, _, by unfold brE; simp only [hr25, hc30, Bool.false_eq_true, if_false], rfl, rfl⟩ sl (fun _ hR => by repeat (first | exact hR | apply List.Mem.tail))
theorem C_bracket (b k o : Nat) (s : ByteArray) (hs : s.size ≤ 4096) (hk : k ≤ s.size) (σ : List (Nat × Obj)) (Φ : List SPred) (i0 : Nat) (ins : Ins) (hI : InsC b s o ins) (hGi : InsG s ins) :
    CtrE Tryz.prog 207 [.pointer (some ⟨b, 0, none⟩), .int .i64 ((i0 : Nat) : Int), .func (.func 35) #[.pointer (some ⟨b, 0, none⟩)] #[]] (rdB b s k o :: σ) Φ (PostP (brE s ins i0 k) b s o σ Φ) (PanP (brE s ins i0 k) b σ) := by
  rcases hI with ⟨ho, rfl⟩ | ⟨ho, f, rfl, hf⟩
  · intro S w0 w hS hm
    refine (C_bracketN b k o s hs hk σ Φ i0 ho _ S w0 w hS hm).mono ?_
    rintro e w' (⟨_, _, _, _, hp, _⟩ | ⟨v, σ', he, ⟨e1, i1, ob, hx, hv, hσ⟩, hm'⟩)
    · exact hp.elim
    · refine .inr ⟨v, σ', he, ⟨e1, i1, ob, ?_, hv, hσ⟩, hm'⟩
      cases hx; rfl
  · exact C_bracketF b k o s hs hk σ Φ i0 ho f hf (hGi f rfl)
end
section
theorem C_base (b k o : Nat) (s : ByteArray) (hs : s.size ≤ 4096) (hk : k ≤ s.size) (σ : List (Nat × Obj)) (Φ : List SPred) (ins : Ins) (hI : InsC b s o ins) (hGi : InsG s ins) : CtrE Tryz.prog 159 [.pointer (some ⟨b, 0, none⟩)] (rdB b s k o :: σ) Φ (PostP (baseE s ins k) b s o σ Φ) (PanP (baseE s ins k) b σ) := by
  refine fn_introE Tryz.func159 rfl Tryz.ntmps159 nb ?_
  intro S w0 a w hS h
  refine gC h (zs (zr (za rfl (zn (zs (zs (zr (zm rfl ?_)))))))); clear h; intro a w h
  refine wpl_plain (op_callM h hS (vs := [_, _]) rfl Tryz.call70 (C_takes b k o s hs hk _ Φ 120 (by decide)) ((List.Perm.refl _)) (by simp) (by simp) ?_); clear h; rintro v13 σ13 Ψ13 a w ⟨rfl, rfl, rfl⟩ h
  refine gL h (zm rfl (zp (.extract rfl (fun _ => rfl)) (zp (.extract rfl (fun _ => rfl)) ?_))); clear h; intro a w h
  refine by_bool h (fun hc15 h => ?_) (fun hc15 h => ?_)
  · skip
    simp only [if_pos hc15] at h
    have hlt15 := takesE_lt hk hc15
    refine gL h (za rfl (za rfl (zn (zs (zr (zm rfl (zn ?_))))))); clear h; intro a w h
    change Code.wp _ _ _ _ _
    refine cond_true h rfl ?_
    refine gC h (zs (zr (zf [] rfl Tryz.call13 (C_X) ?_))); clear h; rintro v17 Ψ17 ⟨ad17, rfl, rfl⟩ a w h
    refine gL h (za rfl (zn (zt ?_))); clear h; intro a w h
    refine retE h (results1 h rfl (.tmp rfl)) ⟨[⟨1, 0, 1⟩], _, ad17, 1, baseE_x hc15, rfl, rfl, rfl⟩ sl (fun _ hR => by rcases List.mem_cons.1 hR with rfl | hR <;> (repeat (first | exact List.Mem.head _ | exact hR | apply List.Mem.tail)))
  · skip
    simp only [hc15, Bool.false_eq_true, if_false] at h
    refine gL h (za rfl (za rfl (zn (zs (zr (zm rfl (zn ?_))))))); clear h; intro a w h
    change Code.wp _ _ _ _ _
    refine cond_false h rfl ?_
    refine gC h (zk (zs (zs (zr (zm rfl ?_))))); clear h; intro a w h
    refine wpl_plain (op_callM h hS (vs := [_, _]) rfl Tryz.call70 (C_takes b (blkE s k) o s hs (blkE_le hk) _ Φ 121 (by decide)) ((List.Perm.refl _)) (by simp) (by simp) ?_); clear h; rintro v20 σ20 Ψ20 a w ⟨rfl, rfl, rfl⟩ h
    simp only [takesE_blk, blkE_blk] at h
    refine gL h (zm rfl (zp (.extract rfl (fun _ => rfl)) (zp (.extract rfl (fun _ => rfl)) ?_))); clear h; intro a w h
    refine by_bool h (fun hc22 h => ?_) (fun hc22 h => ?_)
    · skip
      simp only [if_pos hc22] at h
      have hlt22 := takesE_lt hk hc22
      refine gL h (za rfl (za rfl (zn (zs (zr (zm rfl (zn ?_))))))); clear h; intro a w h
      change Code.wp _ _ _ _ _
      refine cond_true h rfl ?_
      refine gC h (zs (zr (zf [] rfl Tryz.call14 (C_Y) ?_))); clear h; rintro v24 Ψ24 ⟨ad24, rfl, rfl⟩ a w h
      refine gL h (za rfl (zn (zt ?_))); clear h; intro a w h
      refine retE h (results1 h rfl (.tmp rfl)) ⟨[⟨0, 1, 1⟩], _, ad24, 1, baseE_y hc15 hc22, rfl, rfl, rfl⟩ sl (fun _ hR => by rcases List.mem_cons.1 hR with rfl | hR <;> (repeat (first | exact List.Mem.head _ | exact hR | apply List.Mem.tail)))
    · skip
      simp only [hc22, Bool.false_eq_true, if_false] at h
      refine gL h (za rfl (za rfl (zn (zs (zr (zm rfl (zn ?_))))))); clear h; intro a w h
      change Code.wp _ _ _ _ _
      refine cond_false h rfl ?_
      refine gC h (zk (zs (zs (zr (zm rfl ?_))))); clear h; intro a w h
      refine wpl_plain (op_callM h hS (vs := [_, _]) rfl Tryz.call70 (C_takes b (blkE s k) o s hs (blkE_le hk) _ Φ 40 (by decide)) ((List.Perm.refl _)) (by simp) (by simp) ?_); clear h; rintro v27 σ27 Ψ27 a w ⟨rfl, rfl, rfl⟩ h
      simp only [takesE_blk, blkE_blk] at h
      refine gL h (zm rfl (zp (.extract rfl (fun _ => rfl)) (zp (.extract rfl (fun _ => rfl)) ?_))); clear h; intro a w h
      refine by_bool h (fun hc29 h => ?_) (fun hc29 h => ?_)
      · skip
        simp only [if_pos hc29] at h
        have hlt29 := takesE_lt hk hc29
        refine gL h (za rfl (za rfl (zn (zs (zr (zm rfl (zn ?_))))))); clear h; intro a w h
        change Code.wp _ _ _ _ _
        refine cond_true h rfl ?_
        refine gC h (zs (zr (zm rfl (zm rfl (zm rfl (zp (.makeFunc [_] [] rfl rfl) ?_)))))); clear h; intro a w h
        refine wpl_plain (op_callE h hS (vs := [_, _, _]) rfl Tryz.call207 (C_bracket b (blkE s k + 1) o s hs hlt29 _ Φ (blkE s k) ins hI hGi) ((List.Perm.refl _)) (by simp) ?_ ?_)
        · skip
          rintro _ _ w' ⟨e, i, ob, hx, rfl, rfl⟩ hm
          exact panE h hm ⟨e, i, ob, by rw [baseE_br hc15 hc22 hc29]; exact hx, rfl, rfl⟩ sl (fun _ hR => by repeat (first | exact hR | apply List.Mem.tail))
        clear h; rintro v35 σ35 Ψ35 a w ⟨p35, k35, ad35, c35, hr35, rfl, rfl, rfl⟩ h
        refine gL h (za rfl (zn (zt ?_))); clear h; intro a w h
        refine retE h (results1 h rfl (.tmp rfl)) ⟨p35, k35, ad35, c35, by rw [baseE_br hc15 hc22 hc29]; exact hr35, rfl, rfl, rfl⟩ sl (fun _ hR => by rcases List.mem_cons.1 hR with rfl | hR <;> (repeat (first | exact List.Mem.head _ | exact hR | apply List.Mem.tail)))
      · skip
        simp only [hc29, Bool.false_eq_true, if_false] at h
        refine gL h (za rfl (za rfl (zn (zs (zr (zm rfl (zn ?_))))))); clear h; intro a w h
        change Code.wp _ _ _ _ _
        refine cond_false h rfl ?_
        refine gC h (zk (zs (zr (zm rfl ?_)))); clear h; intro a w h
        refine wpl_plain (op_callE h hS (vs := [_]) rfl Tryz.call113 (C_number b (blkE s k) o s hs (blkE_le hk) _ Φ) ((List.Perm.refl _)) (by simp) ?_ ?_)
        · skip
          rintro _ _ w' ⟨e, i, ob, hx, rfl, rfl⟩ hm
          exact panE h hm ⟨e, i, ob, baseE_nerr hc15 hc22 hc29 (by rw [numE_blk] at hx; exact hx), rfl, rfl⟩ sl (fun _ hR => by repeat (first | exact hR | apply List.Mem.tail))
        clear h; rintro v38 σ38 Ψ38 a w ⟨n38, a38, e38, hn38, rfl, rfl, rfl⟩ h
        have hN38 := numE_ok (k := blkE s k) (blkE_le hk) hn38
        rw [numE_blk] at hn38
        refine gL h (zm rfl (zp (.extract rfl (fun _ => rfl)) (zp (.extract rfl (fun _ => rfl)) (zz zeroQ fun b9 => zt' rfl rfl (st_5_0_5 _ _ _ _ _ _ _ _ _ _) uu Tryz.sizeOf53 rfl nb rfl ?_)))); clear h; intro a w h
        refine gL h (za rfl (zn (zs (zr (zd rfl mr Tryz.isAgg53 Tryz.sizeOf53 (rd_5_0_5 _ _ _ _ _) ?_))))); clear h; intro a w h
        refine gL h (zf [_] rfl Tryz.call52 (C_ConstF ((n38 : Int) : Rat) 426 (lenQ_nat (hN38.big hs) (by decide)) (by decide)) ?_); clear h; rintro v42 Ψ42 ⟨ad42, c42, rfl, rfl⟩ a w h
        refine gL h (za rfl (zn (zt ?_))); clear h; intro a w h
        refine retE h (results1 h rfl (.tmp rfl)) ⟨_, _, ad42, c42, baseE_num hc15 hc22 hc29 hn38, rfl, rfl, rfl⟩ sl (fun _ hR => by rcases List.mem_cons.1 hR with rfl | hR <;> (repeat (first | exact List.Mem.head _ | exact hR | apply List.Mem.tail)))
theorem powOk.dk {p : List Tm} {n : Nat} (hp : Gd p) (hn : n ≤ 12) (hs : ¬ n * sizeE p > 16384) (h : ¬ (n : Int) * degN p > 12) : ∃ d K : Nat, d ≤ 12 ∧ n * d ≤ 12 ∧ Pq d K p ∧ K ≤ 6400 := by
  rcases powOk.ds hp hn (by omega) h with rfl | ⟨d, h1, h2, h3⟩
  · exact ⟨12, 6400, by decide, by decide, hp.pq, Nat.le_refl _⟩
  · exact ⟨d, 513, h1, h2, h3, by decide⟩
theorem C_fact (b k o : Nat) (s : ByteArray) (hs : s.size ≤ 4096) (hk : k ≤ s.size) (σ : List (Nat × Obj)) (Φ : List SPred) (ins : Ins) (hI : InsC b s o ins) (hGi : InsG s ins) : CtrE Tryz.prog 112 [.pointer (some ⟨b, 0, none⟩)] (rdB b s k o :: σ) Φ (PostP (factE s ins k) b s o σ Φ) (PanP (factE s ins k) b σ) := by
  refine fn_introE Tryz.func112 rfl Tryz.ntmps112 nb ?_
  intro S w0 a w hS h
  refine gC h (zs (zr (za rfl (zn (zs (zr (zm rfl ?_))))))); clear h; intro a w h
  refine wpl_plain (op_callE h hS (vs := [_]) rfl Tryz.call159 (C_base b k o s hs hk σ Φ ins hI hGi) ((List.Perm.refl _)) (by simp) ?_ ?_)
  · skip
    rintro _ _ w' ⟨e, i, ob, hx, rfl, rfl⟩ hm
    exact panE h hm ⟨e, i, ob, factE_err hx, rfl, rfl⟩ sl (fun _ hR => by repeat (first | exact hR | apply List.Mem.tail))
  clear h; rintro v13 σ13 Ψ13 a w ⟨p13, k13, ad13, c13, hr13, rfl, rfl, rfl⟩ h
  obtain ⟨hg13, hk13a, hk13⟩ := baseE_good hs hGi hk hr13
  have hbk13 := blkE_le hk13
  refine gL h (za rfl (zn (zs (zr (zm rfl ?_))))); clear h; intro a w h
  refine wpl_plain (op_callM h hS (vs := [_, _]) rfl Tryz.call70 (C_takes b k13 o s hs hk13 _ (Row ad13 (cellsOf encT p13) :: Φ) 94 (by decide)) ((List.Perm.refl _)) (by simp) (by simp) ?_); clear h; rintro v16 σ16 Ψ16 a w ⟨rfl, rfl, rfl⟩ h
  refine gL h (zm rfl (zp (.extract rfl (fun _ => rfl)) (zp (.extract rfl (fun _ => rfl)) ?_))); clear h; intro a w h
  refine by_bool h (fun hc18 h => ?_) (fun hc18 h => ?_)
  · skip
    simp only [if_pos hc18] at h
    have hlt18 := takesE_lt hk13 hc18
    refine gL h (za rfl (za rfl (zn (zs (zs (zr (zm rfl (zp (.unOp rfl (un_not _)) (zn ?_))))))))); clear h; intro a w h
    change Code.wp _ _ _ _ _
    refine cond_false h rfl ?_
    refine gC h (zk (zs (zr (zm rfl ?_)))); clear h; intro a w h
    refine wpl_plain (op_callE h hS (vs := [_]) rfl Tryz.call113 (C_number b (blkE s k13 + 1) o s hs hlt18 _ (Row ad13 (cellsOf encT p13) :: Φ)) ((List.Perm.refl _)) (by simp) ?_ ?_)
    · skip
      rintro _ _ w' ⟨e, i, ob, hx, rfl, rfl⟩ hm
      exact panE h hm ⟨e, i, ob, factE_nerr hr13 hc18 hx, rfl, rfl⟩ sl (fun _ hR => by repeat (first | exact hR | apply List.Mem.tail))
    clear h; rintro v24 σ24 Ψ24 a w ⟨n24, a24, e24, hn24, rfl, rfl, rfl⟩ h
    have hN24 := numE_ok (k := blkE s k13 + 1) hlt18 hn24
    refine gL h (zm rfl (zp (.extract rfl (fun _ => rfl)) (zp (.extract rfl (fun _ => rfl)) (zz zeroQ fun b6 => zt' rfl rfl (st_5_0_5 _ _ _ _ _ _ _ _ _ _) uu Tryz.sizeOf53 rfl nb rfl ?_)))); clear h; intro a w h
    refine gL h (za rfl (zn (zs (zr (zd rfl mr Tryz.isAgg53 Tryz.sizeOf53 (rd_5_0_5 _ _ _ _ _) ?_))))); clear h; intro a w h
    refine gL h (zv [_] rfl Tryz.call116 (C_QNumN n24) (zv [_] rfl Tryz.call76 (C_ZAbsN n24) (zv [_] rfl Tryz.call160 (C_U64 n24) (zm rfl (zp (.extract rfl (fun _ => rfl)) (zp (.extract rfl (fun _ => rfl)) ?_)))))); clear h; intro a w h
    refine by_bool h (fun hc33 h => ?_) (fun hc33 h => ?_)
    · skip
      have hn64 : n24 < 18446744073709551616 := of_decide_eq_true hc33
      rw [lowN_small hn64] at h
      refine gL h (za rfl (za rfl (zn (zs (zs (zr (zm rfl (zp (.unOp rfl (un_not _)) (zm rfl (zq 36 rfl rfl (.move rfl) (zq 36 rfl rfl (.gtr rfl rfl) ?_))))))))))); clear h; intro a w h
      refine by_bool h (fun hc38 h => ?_) (fun hc38 h => ?_)
      · skip
        have hn12 : n24 > 12 := by have := of_decide_eq_true hc38; omega
        refine gL h (zp (.pickF rfl rfl) (zm rfl (zo 40 rfl rfl rfl (zo 40 rfl rfl rfl (zo 40 rfl rfl rfl (zo 40 rfl rfl rfl (zo 40 rfl rfl rfl (zo 40 rfl rfl rfl (zp (.pickT rfl rfl) (zn ?_)))))))))); clear h; intro a w h
        change Code.wp _ _ _ _ _
        refine cond_true h rfl ?_
        refine gC h (zr (zm rfl ?_)); clear h; intro a w h
        refine wpl_plain (op_callE h hS (vs := [_, _]) rfl Tryz.call37 (C_fails 9 _ _ _) (List.Perm.refl _) (by simp) ?_ (fun _ _ _ _ _ hp _ => by exact hp.elim))
        rintro _ _ w' ⟨rfl, rfl⟩ hm
        exact panE h hm ⟨9, blkE s k13, _, factE_deg hr13 hc18 hn24 (.inl hn12), rfl, rfl⟩ sl (fun _ hR => by repeat (first | exact hR | apply List.Mem.tail))
      · skip
        have hn12 : ¬ n24 > 12 := by have := of_decide_eq_false hc38; omega
        have hge13 := degN_ge p13
        have hle13 := degN_le hg13.pq.deg
        have hmb : -12 ≤ (n24 : Int) * degN p13 ∧ (n24 : Int) * degN p13 ≤ 144 := by
          have a := Int.mul_le_mul_of_nonneg_left hge13 (show (0 : Int) ≤ n24 by omega)
          have c := Int.mul_le_mul_of_nonneg_left hle13 (show (0 : Int) ≤ n24 by omega)
          omega
        refine gL h (zp (.pickF rfl rfl) (zm rfl (zq 40 rfl rfl (.move rfl) (zq 40 rfl rfl (.convert rfl (cv_45_3b _ (wrap_i64 _ (by omega) (by omega)))) (zq 40 rfl rfl (.move rfl) ?_))))); clear h; intro a w h
        refine wpl_guard 40 h rfl rfl (op_callW h (vs := [_]) rfl Tryz.call49 (C_degG p13 _ _ hg13) (by simp) (by decide) ?_); clear h; intro a w h
        refine gL h (zq 40 rfl rfl (.mul rfl rfl) (zq 40 rfl rfl (.gtr rfl rfl) ?_)); clear h; intro a w h
        refine by_bool h (fun hc46 h => ?_) (fun hc46 h => ?_)
        · skip
          skip
          refine gL h (zp (.pickF rfl rfl) (zn ?_)); clear h; intro a w h
          change Code.wp _ _ _ _ _
          refine cond_true h rfl ?_
          refine gC h (zr (zm rfl ?_)); clear h; intro a w h
          refine wpl_plain (op_callE h hS (vs := [_, _]) rfl Tryz.call37 (C_fails 9 _ _ _) (List.Perm.refl _) (by simp) ?_ (fun _ _ _ _ _ hp _ => by exact hp.elim))
          rintro _ _ w' ⟨rfl, rfl⟩ hm
          exact panE h hm ⟨9, blkE s k13, _, factE_deg hr13 hc18 hn24 (.inr (of_decide_eq_true hc46)), rfl, rfl⟩ sl (fun _ hR => by repeat (first | exact hR | apply List.Mem.tail))
        · skip
          have hnd : ¬ (n24 > 12 ∨ (n24 : Int) * degN p13 > 12) := fun hh => hh.elim hn12 (of_decide_eq_false hc46)
          have hsz13 := hg13.size
          have hms := Nat.mul_le_mul (show n24 ≤ 12 by omega) hsz13
          refine gL h (zp (.pickF rfl rfl) (zn ?_)); clear h; intro a w h
          change Code.wp _ _ _ _ _
          refine cond_false h rfl ?_
          refine gC h (zk (zs (zr (zm rfl (zp (.convert rfl (cv_45_3b _ (wrap_i64 _ (by omega) (by omega)))) (zm rfl (zw [_] rfl Tryz.call73 (C_size p13 _ _ hg13) (zp (Pure1.cast (v' := (.int .i64 ((n24 * (sizeE p13) : Nat) : Int))) (.mul rfl rfl) (by show Value.int _ _ = Value.int _ _; congr 1)) (zm rfl ?_))))))))); clear h; intro a w h
          refine wpl_plain (op_callE h hS (vs := [_, _]) rfl Tryz.call72 (C_fits _ _ _ (Row ad13 (cellsOf encT p13) :: Φ)) (List.Perm.refl _) (by simp) ?_ ?_)
          · skip
            rintro _ _ w' ⟨hl, rfl, rfl⟩ hm
            exact panE h hm ⟨3, _, _, factE_lim hr13 hc18 hn24 hnd (by omega), rfl, rfl⟩ sl (fun _ hR => by repeat (first | exact hR | apply List.Mem.tail))
          clear h; rintro v56 σ56 Ψ56 a w ⟨hf56, rfl, rfl, rfl⟩ h
          have hf56b : ¬ n24 * sizeE p13 > 16384 := by omega
          obtain ⟨d61, K61, hd61, hnd61, hq61, hK61⟩ := powOk.dk hg13 (by omega) hf56b (fun hh => hnd (.inr hh))
          refine gL h (zn (zs (zr (zm rfl (zm rfl (zp (.convert rfl (cv_45_3b _ (wrap_i64 _ (by omega) (by omega)))) (zf [_, _] rfl Tryz.call19 (C_Pow p13 _ _ d61 K61 hq61 n24 (by omega) hd61 hnd61 (by have := Nat.mul_le_mul_left n24 hK61; omega) (by omega)) ?_))))))); clear h; rintro v61 Ψ61 ⟨ad61, c61, rfl, rfl⟩ a w h
          refine gL h (zm rfl (zp (.extract rfl (fun _ => rfl)) (zp (.extract rfl (fun _ => rfl)) (za rfl (za rfl (zn (zs (zr (zm rfl (za rfl (zn (zt ?_)))))))))))); clear h; intro a w h
          refine retE h (results1 h rfl (.tmp rfl)) ⟨_, _, ad61, c61, factE_pow hr13 hc18 hn24 hnd hf56b, rfl, rfl, rfl⟩ sl (fun _ hR => by rcases List.mem_cons.1 hR with rfl | hR <;> (repeat (first | exact List.Mem.head _ | exact hR | apply List.Mem.tail)))
    · skip
      have hn64 : ¬ n24 < 18446744073709551616 := of_decide_eq_false hc33
      refine gL h (za rfl (za rfl (zn (zs (zs (zr (zm rfl (zp (.unOp rfl (un_not _)) (zm rfl (zo 36 rfl rfl rfl (zo 36 rfl rfl rfl (zp (.pickT rfl rfl) (zm rfl (zo 40 rfl rfl rfl (zo 40 rfl rfl rfl (zo 40 rfl rfl rfl (zo 40 rfl rfl rfl (zo 40 rfl rfl rfl (zo 40 rfl rfl rfl (zp (.pickT rfl rfl) (zn ?_))))))))))))))))))))); clear h; intro a w h
      change Code.wp _ _ _ _ _
      refine cond_true h rfl ?_
      refine gC h (zr (zm rfl ?_)); clear h; intro a w h
      refine wpl_plain (op_callE h hS (vs := [_, _]) rfl Tryz.call37 (C_fails 9 _ _ _) (List.Perm.refl _) (by simp) ?_ (fun _ _ _ _ _ hp _ => by exact hp.elim))
      rintro _ _ w' ⟨rfl, rfl⟩ hm
      exact panE h hm ⟨9, blkE s k13, _, factE_deg hr13 hc18 hn24 (.inl (by omega)), rfl, rfl⟩ sl (fun _ hR => by repeat (first | exact hR | apply List.Mem.tail))
  · skip
    simp only [hc18, Bool.false_eq_true, if_false] at h
    refine gL h (za rfl (za rfl (zn (zs (zs (zr (zm rfl (zp (.unOp rfl (un_not _)) (zn ?_))))))))); clear h; intro a w h
    change Code.wp _ _ _ _ _
    refine cond_true h rfl ?_
    refine gC h (zs (zr (zm rfl (za rfl (zn (zt ?_)))))); clear h; intro a w h
    refine retE h (results1 h rfl (.tmp rfl)) ⟨p13, blkE s k13, ad13, c13, factE_one hr13 hc18, rfl, rfl, rfl⟩ sl (fun _ hR => by rcases List.mem_cons.1 hR with rfl | hR <;> (repeat (first | exact List.Mem.head _ | exact hR | apply List.Mem.tail)))
end
section
set_option maxHeartbeats 2000000 in
theorem C_term (b k o : Nat) (s : ByteArray) (hs : s.size ≤ 4096) (hk : k ≤ s.size) (σ : List (Nat × Obj)) (Φ : List SPred) (ins : Ins) (hI : InsC b s o ins) (hGi : InsG s ins) : CtrE Tryz.prog 71 [.pointer (some ⟨b, 0, none⟩)] (rdB b s k o :: σ) Φ (PostP (termI s ins k) b s o σ Φ) (PanP (termI s ins k) b σ) := by
  refine fn_introE Tryz.func71 rfl Tryz.ntmps71 nb ?_
  intro S w0 a w hS h
  refine gC h (zs (zr (za rfl (zn (zs (zr (zm rfl ?_))))))); clear h; intro a w h
  refine wpl_plain (op_callE h hS (vs := [_]) rfl Tryz.call112 (C_fact b k o s hs hk σ Φ ins hI hGi) ((List.Perm.refl _)) (by simp) ?_ ?_)
  · skip
    rintro _ _ w' ⟨e, i, ob, hx, rfl, rfl⟩ hm
    exact panE h hm ⟨e, i, ob, termI_err (hx), rfl, rfl⟩ sl (fun _ hR => by repeat (first | exact hR | apply List.Mem.tail))
  clear h; rintro v14 σ14 Ψ14 a w ⟨p14, k14, ad14, c14, hr14, rfl, rfl, rfl⟩ h
  obtain ⟨hg14, hk14a, hk14⟩ := factE_good hs hGi hk hr14
  refine gL h (za rfl (zn (zb ?_))); clear h; intro a w h
  refine wp_loop_inv (fun (f : Nat) a w => ∃ (p : List Tm) (k2 : Nat) (ad : Option Addr) (c : Nat), (termI s ins k = termE s ins f p k2 ∧ Gd p ∧ k2 ≤ s.size ∧ s.size - k2 < f) ∧ St 89 S w0 [(0, .pointer (some ⟨b, 0, none⟩)), (3, .slice ad p.length c)] ((b, .cells (Value.cells (.agg #[.string s, .int .i64 ((k2 : Nat) : Int), .int .i64 ((o : Nat) : Int)])) 78 (0, 0)) :: σ) (Row ad (cellsOf encT p) :: Φ) a w) (fun f => f) (s.size - k14 + 1) (⟨p14, k14, ad14, c14, ⟨termI_ok hr14, hg14, hk14, by omega⟩, by exact (h.factsSub (by exact (fun _ hR => by rcases List.mem_cons.1 hR with rfl | hR <;> (repeat (first | exact List.Mem.head _ | exact hR | apply List.Mem.tail))))).sub sA⟩) ?_; clear h
  rintro f a w ⟨p, k2, ad, c, ⟨hr, hg, hk2, hf⟩, h⟩
  obtain ⟨f, rfl⟩ : ∃ f1, f = f1 + 1 := ⟨f - 1, by omega⟩
  refine gC h (zb (zs (zs (zr (zm rfl ?_))))); clear h; intro a w h
  refine wpl_plain (op_callM h hS (vs := [_, _]) rfl Tryz.call70 (C_takes b k2 o s hs hk2 _ (Row ad (cellsOf encT p) :: Φ) 42 (by decide)) ((List.Perm.refl _)) (by simp) (by simp) ?_); clear h; rintro v17 σ17 Ψ17 a w ⟨rfl, rfl, rfl⟩ h
  refine gL h (zm rfl (zp (.extract rfl (fun _ => rfl)) (zp (.extract rfl (fun _ => rfl)) ?_))); clear h; intro a w h
  refine by_bool h (fun hc19 h => ?_) (fun hc19 h => ?_)
  · skip
    simp only [if_pos hc19] at h
    have hlt19 := takesE_lt hk2 hc19
    refine gL h (za rfl (za rfl (zn (zs (zr (zm rfl (zn ?_))))))); clear h; intro a w h
    change Code.wp _ _ _ _ _
    refine cond_true h rfl ?_
    refine gC h (zs (zr (zm rfl ?_))); clear h; intro a w h
    refine wpl_plain (op_callE h hS (vs := [_]) rfl Tryz.call112 (C_fact b (blkE s k2 + 1) o s hs hlt19 _ (Row ad (cellsOf encT p) :: Φ) ins hI hGi) ((List.Perm.refl _)) (by simp) ?_ ?_)
    · skip
      rintro _ _ w' ⟨e, i, ob, hx, rfl, rfl⟩ hm
      exact panE h hm ⟨e, i, ob, hr.trans (termE_merr hc19 hx), rfl, rfl⟩ sl (fun _ hR => by repeat (first | exact hR | apply List.Mem.tail))
    clear h; rintro v22 σ22 Ψ22 a w ⟨p22, k22, ad22, c22, hr22, rfl, rfl, rfl⟩ h
    obtain ⟨hg22, hk22a, hk22⟩ := factE_good hs hGi hlt19 hr22
    have hbk2 := blkE_ge s k2
    have hsz := hg.size
    have hsz22 := hg22.size
    refine gL h (za rfl (zn ?_)); clear h; intro a w h
    change Code.wp _ _ _ _ _
    refine wp_join (fun a w => mulOk p p22 ∧ St 89 S w0 [(0, .pointer (some ⟨b, 0, none⟩)), (3, .slice ad p.length c), (4, .int .i64 ((blkE s k2 : Nat) : Int)), (6, .slice ad22 p22.length c22)] (rdB b s k22 o :: σ) (Row ad22 (cellsOf encT p22) :: Row ad (cellsOf encT p) :: Φ) a w) ?_ ?_
    · skip
      refine gC h (zs (zr (zm rfl (zw [_] rfl Tryz.call49 (C_degG p _ _ hg) (zp (.geq rfl rfl) ?_))))); clear h; intro a w h
      refine by_bool h (fun hc25 h => ?_) (fun hc25 h => ?_)
      · skip
        have hd1 : degN p ≥ 0 := of_decide_eq_true hc25
        refine gL h (zm rfl (zq 26 rfl rfl (.move rfl) ?_)); clear h; intro a w h
        refine wpl_guard 26 h rfl rfl (op_callW h (vs := [_]) rfl Tryz.call49 (C_degG p22 _ _ hg22) (by simp) (by decide) ?_); clear h; intro a w h
        refine gL h (zq 26 rfl rfl (.geq rfl rfl) ?_); clear h; intro a w h
        refine by_bool h (fun hc29 h => ?_) (fun hc29 h => ?_)
        · skip
          have hd2 : degN p22 ≥ 0 := of_decide_eq_true hc29
          have hle1 := degN_le hg.pq.deg
          have hle2 := degN_le hg22.pq.deg
          refine gL h (zp (.pickT rfl rfl) (zm rfl (zq 31 rfl rfl (.move rfl) ?_))); clear h; intro a w h
          refine wpl_guard 31 h rfl rfl (op_callW h (vs := [_]) rfl Tryz.call49 (C_degG p _ _ hg) (by simp) (by decide) ?_); clear h; intro a w h
          refine gL h (zq 31 rfl rfl (.move rfl) ?_); clear h; intro a w h
          refine wpl_guard 31 h rfl rfl (op_callW h (vs := [_]) rfl Tryz.call49 (C_degG p22 _ _ hg22) (by simp) (by decide) ?_); clear h; intro a w h
          refine gL h (zq 31 rfl rfl (.add rfl rfl) (zq 31 rfl rfl (.gtr rfl rfl) ?_)); clear h; intro a w h
          refine by_bool h (fun hc37 h => ?_) (fun hc37 h => ?_)
          · skip
            have hd3 : degN p + degN p22 > 12 := of_decide_eq_true hc37
            refine gL h (zp (.pickT rfl rfl) (zn ?_)); clear h; intro a w h
            change Code.wp _ _ _ _ _
            refine cond_true h rfl ?_
            refine gC h (zr (zm rfl ?_)); clear h; intro a w h
            refine wpl_plain (op_callE h hS (vs := [_, _]) rfl Tryz.call37 (C_fails 9 _ _ _) (List.Perm.refl _) (by simp) ?_ (fun _ _ _ _ _ hp _ => by exact hp.elim))
            rintro _ _ w' ⟨rfl, rfl⟩ hm
            exact panE h hm ⟨9, blkE s k2, _, hr.trans (termE_mdeg hc19 hr22 (fun hh => hh ⟨hd1, hd2, hd3⟩)), rfl, rfl⟩ sl (fun _ hR => by repeat (first | exact hR | apply List.Mem.tail))
          · skip
            have hd3 : ¬ degN p + degN p22 > 12 := of_decide_eq_false hc37
            refine gL h (zp (.pickT rfl rfl) (zn ?_)); clear h; intro a w h
            change Code.wp _ _ _ _ _
            refine cond_false h rfl ?_
            refine wp_skip ?_
            exact ⟨fun hh => hd3 hh.2.2, h.sub sA⟩
        · skip
          have hd2 : ¬ degN p22 ≥ 0 := of_decide_eq_false hc29
          refine gL h (zp (.pickT rfl rfl) (zm rfl (zo 31 rfl rfl rfl (zo 31 rfl rfl rfl (zo 31 rfl rfl rfl (zo 31 rfl rfl rfl (zo 31 rfl rfl rfl (zo 31 rfl rfl rfl (zp (.pickF rfl rfl) (zn ?_)))))))))); clear h; intro a w h
          change Code.wp _ _ _ _ _
          refine cond_false h rfl ?_
          refine wp_skip ?_
          exact ⟨fun hh => hd2 hh.2.1, h.sub sA⟩
      · skip
        have hd1 : ¬ degN p ≥ 0 := of_decide_eq_false hc25
        refine gL h (zm rfl (zo 26 rfl rfl rfl (zo 26 rfl rfl rfl (zo 26 rfl rfl rfl (zp (.pickF rfl rfl) (zm rfl (zo 31 rfl rfl rfl (zo 31 rfl rfl rfl (zo 31 rfl rfl rfl (zo 31 rfl rfl rfl (zo 31 rfl rfl rfl (zo 31 rfl rfl rfl (zp (.pickF rfl rfl) (zn ?_)))))))))))))); clear h; intro a w h
        change Code.wp _ _ _ _ _
        refine cond_false h rfl ?_
        refine wp_skip ?_
        exact ⟨fun hh => hd1 hh.1, h.sub sA⟩
    · clear h
      rintro a w ⟨hmo, h⟩
      refine gC h (zs (zr (zm rfl (zw [_] rfl Tryz.call73 (C_size p _ _ hg) (zm rfl (zw [_] rfl Tryz.call73 (C_size p22 _ _ hg22) (zp (Pure1.cast (v' := (.int .i64 (((sizeE p) + (sizeE p22) : Nat) : Int))) (.add rfl rfl) (by show Value.int _ _ = Value.int _ _; congr 1)) (zm rfl ?_)))))))); clear h; intro a w h
      refine wpl_plain (op_callE h hS (vs := [_, _]) rfl Tryz.call72 (C_fits _ _ _ (Row ad22 (cellsOf encT p22) :: Row ad (cellsOf encT p) :: Φ)) (List.Perm.refl _) (by simp) ?_ ?_)
      · skip
        rintro _ _ w' ⟨hl, rfl, rfl⟩ hm
        exact panE h hm ⟨3, _, _, hr.trans (termE_mlim hc19 hr22 hmo (by omega)), rfl, rfl⟩ sl (fun _ hR => by repeat (first | exact hR | apply List.Mem.tail))
      clear h; rintro v47 σ47 Ψ47 a w ⟨hf47, rfl, rfl, rfl⟩ h
      have hfit : ¬ sizeE p + sizeE p22 > 16384 := by omega
      obtain ⟨da, db, hdd, hqa, hqb⟩ := mulOk.ds hg hg22 (by omega) (by omega) hmo
      refine gL h (zn (zs (zr (zm rfl (zm rfl (zf [_, _] rfl Tryz.call18 (C_pMulF p p22 _ _ _ _ da db 513 513 hqa hqb hdd (by decide) (by decide)) ?_)))))); clear h; rintro v51 Ψ51 ⟨ad51, c51, rfl, rfl⟩ a w h
      refine gL h (zm rfl (zp (.extract rfl (fun _ => rfl)) (zp (.extract rfl (fun _ => rfl)) (za rfl (zn (ze ?_)))))); clear h; intro a w h
      exact ⟨f, ⟨_, k22, ad51, c51, ⟨hr.trans (termE_mul hc19 hr22 hmo hfit), hg.mul hg22 (by omega) hmo, hk22, by omega⟩, by exact (h.factsSub (by exact (fun _ hR => by rcases List.mem_cons.1 hR with rfl | hR <;> (repeat (first | exact List.Mem.head _ | exact hR | apply List.Mem.tail))))).sub (subL ⟨rfl, rfl, trivial⟩)⟩, by omega⟩
  · skip
    simp only [hc19, Bool.false_eq_true, if_false] at h
    refine gL h (za rfl (za rfl (zn (zs (zr (zm rfl (zn ?_))))))); clear h; intro a w h
    change Code.wp _ _ _ _ _
    refine cond_false h rfl ?_
    refine gC h (zk (zs (zr (zm rfl ?_)))); clear h; intro a w h
    refine wpl_plain (op_callM h hS (vs := [_, _]) rfl Tryz.call70 (C_takes b (blkE s k2) o s hs (blkE_le hk2) _ (Row ad (cellsOf encT p) :: Φ) 47 (by decide)) ((List.Perm.refl _)) (by simp) (by simp) ?_); clear h; rintro v56 σ56 Ψ56 a w ⟨rfl, rfl, rfl⟩ h
    simp only [takesE_blk, blkE_blk] at h
    refine gL h (zm rfl (zp (.extract rfl (fun _ => rfl)) (zp (.extract rfl (fun _ => rfl)) ?_))); clear h; intro a w h
    refine by_bool h (fun hc58 h => ?_) (fun hc58 h => ?_)
    · skip
      simp only [if_pos hc58] at h
      have hlt58 := takesE_lt hk2 hc58
      refine gL h (za rfl (za rfl (zn (zs (zs (zr (zm rfl (zp (.unOp rfl (un_not _)) (zn ?_))))))))); clear h; intro a w h
      change Code.wp _ _ _ _ _
      refine cond_false h rfl ?_
      refine gC h (zk (zs (zr (zm rfl ?_)))); clear h; intro a w h
      refine wpl_plain (op_callE h hS (vs := [_]) rfl Tryz.call113 (C_number b (blkE s k2 + 1) o s hs hlt58 _ (Row ad (cellsOf encT p) :: Φ)) ((List.Perm.refl _)) (by simp) ?_ ?_)
      · skip
        rintro _ _ w' ⟨e, i, ob, hx, rfl, rfl⟩ hm
        exact panE h hm ⟨e, i, ob, hr.trans (termE_qerr hc19 hc58 hx), rfl, rfl⟩ sl (fun _ hR => by repeat (first | exact hR | apply List.Mem.tail))
      clear h; rintro v64 σ64 Ψ64 a w ⟨n64, a64, e64, hn64, rfl, rfl, rfl⟩ h
      have hN64 := numE_ok (k := blkE s k2 + 1) hlt58 hn64
      have hbk2 := blkE_ge s k2
      have hsz := hg.size
      have hbig := hN64.big hs
      have hat64 := hN64.at_
      have hlt64 := hN64.lt
      have hge64 := blkE_ge s (blkE s k2 + 1)
      have hle64 := hN64.le
      refine gL h (zm rfl (zp (.extract rfl (fun _ => rfl)) (zp (.extract rfl (fun _ => rfl)) (zz zeroQ fun b9 => zt' rfl rfl (st_5_0_5 _ _ _ _ _ _ _ _ _ _) uu Tryz.sizeOf53 rfl nb rfl ?_)))); clear h; intro a w h
      refine gL h (za rfl (zn (zs (yD mixed_YtgkicbaomcmfoaaGreatDoor [1, 0, 2, 3, 4, 5, 6, 7, 8] (floatsOK_of ⟨.inl rfl, .inl rfl, .inl rfl, .inl rfl, .inl rfl, .inl rfl, .inr ⟨11, 53, _, _, _, rfl, rfl, by decide, _, zeroQ⟩, .inl rfl, .inl rfl, trivial⟩) (yd rfl rfl mr Tryz.isAgg53 Tryz.sizeOf53 (rd_5_0_5 _ _ _ _ _) ?_))))); clear h
      refine yv [_] rfl rfl Tryz.call22 (C_QInt 1 (by decide) (by decide)) (yv [_, _] rfl rfl Tryz.call90 (C_QDivN n64 hbig) (yp rfl (.move rfl) (yp rfl (.extract rfl (fun _ => rfl)) (yp rfl (.extract rfl (fun _ => rfl)) (yz rfl zeroQ fun b11 => yt rfl rfl rfl (st_5_0_5 _ _ _ _ _ _ _ _ _ _) uu Tryz.sizeOf53 rfl nb rfl ?_)))))
      refine yp rfl (.assign rfl) (yn (zs (zs (zr (zm rfl (zp (.neq rfl rfl) (zn ?_))))))); intro a w h
      change Code.wp _ _ _ _ _
      refine cond_split h rfl (fun hc74 => ?_) (fun hc74 => ?_)
      · skip
        have hz64 : n64 = 0 := Decidable.of_not_not (fun hh => by rw [show qer n64 = 0 from if_neg hh] at hc74; exact absurd hc74 (by decide))
        have e5 : qer n64 = 5 := if_pos hz64
        refine gC h (zr (zm rfl (zm rfl ?_))); clear h; intro a w h
        refine wpl_plain (op_callE h hS (vs := [_, _]) rfl Tryz.call37 (C_fails _ _ _ _) (List.Perm.refl _) (by simp) ?_ (fun _ _ _ _ _ hp _ => by exact hp.elim))
        rintro _ _ w' ⟨rfl, rfl⟩ hm
        exact panE h hm ⟨5, a64, _, hr.trans (termE_qzero hc19 hc58 hn64 hz64), by rw [e5], rfl⟩ sl (fun _ hR => by repeat (first | exact hR | apply List.Mem.tail))
      · skip
        have hnz : n64 ≠ 0 := fun hh => by rw [show qer n64 = 5 from if_pos hh] at hc74; exact absurd hc74 (by decide)
        have eqi : qinv n64 = 1 / ((n64 : Int) : Rat) := if_neg hnz
        rw [eqi] at h
        have hbl64 := bitsN_le n64
        have hwl64 := wds_len_le hbig
        refine gC h (zk (zs (yD mixed_YtgkicbaomcmfoaaGreatDoor [0, 2, 6, 1, 3, 4, 5, 7] (floatsOK_none (by kernel_rfl)) (yp rfl (.move rfl) (yd rfl rfl mr Tryz.isAgg53 Tryz.sizeOf53 (rd_5_0_5 _ _ _ _ _) ?_))))); clear h
        refine yp rfl (.move rfl) (yw [_] rfl rfl Tryz.call73 (C_size p _ _ hg) (yv [_] rfl rfl Tryz.call115 (C_QDenInv n64 hnz hbig) (yv [_] rfl rfl Tryz.call114 (C_Bits n64 (Nat.le_trans (wds_len_le hbig) (by decide))) (yp rfl (Pure1.cast (v' := (.int .i64 (((sizeE p) + (bitsN n64) : Nat) : Int))) (.add rfl rfl) (by show Value.int _ _ = Value.int _ _; congr 1)) ?_))))
        refine head_enum (by kernel_rfl) ?_; intro a w h
        refine x_step [7] (by kernel_rfl) (by decide) ?_; intro i hi
        simp only [List.mem_cons, List.not_mem_nil, or_false] at hi
        rcases hi with rfl
        by_cases hF : ((sizeE p + bitsN n64 : Nat) : Int) > 16384
        · refine x_callX h hS (vs := [_, _]) rfl rfl Tryz.call72 (C_fits _ _ _ (Row ad (cellsOf encT p) :: Φ)) (List.Perm.refl _) (by decide) (fun _ _ _ hp => hp.1 hF) ?_
          rintro _ _ a' w' hd ⟨_, rfl, rfl⟩ hm
          exact panE' hd hm ⟨3, blkE s k2, _, hr.trans (termE_qlim hc19 hc58 hn64 hnz (by omega)), rfl, rfl⟩ sl (fun _ hR => by repeat (first | exact hR | apply List.Mem.tail))
        refine x_callV h (vs := [_, _]) rfl rfl Tryz.call72 (C_fitsOk _ _ hF) (by simp) (by decide) ?_; clear h; intro a w h
        have hfit : ¬ sizeE p + bitsN n64 > 16384 := by omega
        refine x_end (by kernel_rfl) ?_
        change Code.wp _ _ _ _ _
        refine gC h (zr (zm rfl (zd rfl mr Tryz.isAgg53 Tryz.sizeOf53 (rd_5_0_5 _ _ _ _ _) ?_))); clear h; intro a w h
        refine gL h (zf [_, _] rfl Tryz.call27 (C_ScaleF p _ _ 12 513 (hg.fit (by omega)) (by decide) (by decide) (1 / ((n64 : Int) : Rat)) 428 (lenQ_invN hbig (by decide)) (by decide)) ?_); clear h; rintro v88 Ψ88 ⟨ad88, c88, rfl, rfl⟩ a w h
        refine gL h (za rfl (zn ?_)); clear h; intro a w h
        exact ⟨f, ⟨_, e64, ad88, c88, ⟨hr.trans (termE_quo hc19 hc58 hn64 hnz hfit), hg.quo (by omega) hbig, hle64, by omega⟩, by exact ((h.drop sl).factsSub (by exact (fun _ hR => by rcases List.mem_cons.1 hR with rfl | hR <;> (repeat (first | exact List.Mem.head _ | exact hR | apply List.Mem.tail))))).sub (subL ⟨rfl, rfl, trivial⟩)⟩, by omega⟩
    · skip
      simp only [hc58, Bool.false_eq_true, if_false] at h
      refine gL h (za rfl (za rfl (zn (zs (zs (zr (zm rfl (zp (.unOp rfl (un_not _)) (zn ?_))))))))); clear h; intro a w h
      change Code.wp _ _ _ _ _
      refine cond_true h rfl ?_
      refine gC h (zs (zr (zm rfl (za rfl (zn (zt ?_)))))); clear h; intro a w h
      refine retE h (results1 h rfl (.tmp rfl)) ⟨p, blkE s k2, ad, c, hr.trans (termE_stop hc19 hc58), rfl, rfl, rfl⟩ sl (fun _ hR => by rcases List.mem_cons.1 hR with rfl | hR <;> (repeat (first | exact List.Mem.head _ | exact hR | apply List.Mem.tail)))
end
section
set_option maxHeartbeats 2000000 in
theorem C_sum (b k o : Nat) (s : ByteArray) (hs : s.size ≤ 4096) (hk : k ≤ s.size) (σ : List (Nat × Obj)) (Φ : List SPred) (ins : Ins) (hI : InsC b s o ins) (hGi : InsG s ins) : CtrE Tryz.prog 35 [.pointer (some ⟨b, 0, none⟩)] (rdB b s k o :: σ) Φ (PostP (sumI s ins k) b s o σ Φ) (PanP (sumI s ins k) b σ) := by
  have hK1 : (if takesE s 45 k = true then blkE s k + 1 else blkE s k) ≤ s.size := by
    split
    · rename_i ht; exact takesE_lt hk ht
    · exact blkE_le hk
  refine fn_introE Tryz.func35 rfl Tryz.ntmps35 nb ?_
  intro S w0 a w hS h
  refine gC h (zs (zr (za rfl (zn (zs (zr (zm rfl ?_))))))); clear h; intro a w h
  refine wpl_plain (op_callM h hS (vs := [_, _]) rfl Tryz.call70 (C_takes b k o s hs hk _ Φ 45 (by decide)) ((List.Perm.refl _)) (by simp) (by simp) ?_); clear h; rintro v12 σ12 Ψ12 a w ⟨rfl, rfl, rfl⟩ h
  refine gL h (zm rfl (zp (.extract rfl (fun _ => rfl)) (zp (.extract rfl (fun _ => rfl)) (za rfl (za rfl (zn (zs (zr (zm rfl ?_))))))))); clear h; intro a w h
  refine wpl_plain (op_callE h hS (vs := [_]) rfl Tryz.call71 (C_term b (if takesE s 45 k = true then blkE s k + 1 else blkE s k) o s hs hK1 _ Φ ins hI hGi) ((List.Perm.refl _)) (by simp) ?_ ?_)
  · skip
    rintro _ _ w' ⟨e, i, ob, hx, rfl, rfl⟩ hm
    exact panE h hm ⟨e, i, ob, sumI_err hx, rfl, rfl⟩ sl (fun _ hR => by repeat (first | exact hR | apply List.Mem.tail))
  clear h; rintro v16 σ16 Ψ16 a w ⟨p16, k16, ad16, c16, hr16, rfl, rfl, rfl⟩ h
  obtain ⟨hg16, hk16a, hk16⟩ := termI_good hs hGi hK1 hr16
  refine gL h (za rfl (zn ?_)); clear h; intro a w h
  change Code.wp _ _ _ _ _
  refine wp_join (fun a w => ∃ (ad : Option Addr) (c : Nat), St 48 S w0 [(0, .pointer (some ⟨b, 0, none⟩)), (5, .slice ad (if takesE s 45 k = true then norm (scaleL ((-1 : Int) : Rat) p16) else p16).length c)] (rdB b s k16 o :: σ) (Row ad (cellsOf encT (if takesE s 45 k = true then norm (scaleL ((-1 : Int) : Rat) p16) else p16)) :: Φ) a w) ?_ ?_
  · skip
    refine gC h (zs (zr (zm rfl (zn ?_)))); clear h; intro a w h
    change Code.wp _ _ _ _ _
    refine cond_split h rfl (fun hc17 => ?_) (fun hc17 => ?_)
    · skip
      refine gC h (zr (zm rfl (zf [_] rfl Tryz.call26 (C_NegF p16 _ _ 12 6400 hg16.pq (by decide) (by decide) (by decide)) ?_))); clear h; rintro v19 Ψ19 ⟨ad19, c19, rfl, rfl⟩ a w h
      refine gL h (za rfl (zn ?_)); clear h; intro a w h
      refine ⟨ad19, c19, ?_⟩
      rw [if_pos hc17]
      exact (h.factsSub (fun _ hR => by rcases List.mem_cons.1 hR with rfl | hR <;> (repeat (first | exact List.Mem.head _ | exact hR | apply List.Mem.tail)))).sub sA
    · skip
      refine wp_skip ?_
      refine ⟨ad16, c16, ?_⟩
      rw [if_neg (by rw [hc17]; decide)]
      exact (h.factsSub (fun _ hR => by rcases List.mem_cons.1 hR with rfl | hR <;> (repeat (first | exact List.Mem.head _ | exact hR | apply List.Mem.tail)))).sub sA
  · clear h
    rintro a w ⟨ad0, c0, h⟩
    have hg0 : Gd (if takesE s 45 k = true then norm (scaleL ((-1 : Int) : Rat) p16) else p16) := by
      split
      · exact hg16.neg
      · exact hg16
    have hr0 := sumI_ok hr16
    refine wp_block ?_
    refine wp_loop_inv (fun (f : Nat) a w => ∃ (p : List Tm) (k2 : Nat) (ad : Option Addr) (c : Nat), (sumI s ins k = sumL s ins f p k2 ∧ Gd p ∧ k2 ≤ s.size ∧ s.size - k2 < f) ∧ St 48 S w0 [(0, .pointer (some ⟨b, 0, none⟩)), (5, .slice ad p.length c)] ((b, .cells (Value.cells (.agg #[.string s, .int .i64 ((k2 : Nat) : Int), .int .i64 ((o : Nat) : Int)])) 78 (0, 0)) :: σ) (Row ad (cellsOf encT p) :: Φ) a w) (fun f => f) (s.size - k16 + 1) (⟨_, k16, ad0, c0, ⟨hr0, hg0, hk16, by omega⟩, by exact (h.factsSub (by exact (fun _ hR => by rcases List.mem_cons.1 hR with rfl | hR <;> (repeat (first | exact List.Mem.head _ | exact hR | apply List.Mem.tail))))).sub (subL ⟨rfl, rfl, trivial⟩)⟩) ?_; clear h
    rintro f a w ⟨p, k2, ad, c, ⟨hr, hg, hk2, hf⟩, h⟩
    obtain ⟨f, rfl⟩ : ∃ f1, f = f1 + 1 := ⟨f - 1, by omega⟩
    refine gC h (zb (zs (zr (za rfl (zn (zs (zr (zm rfl ?_)))))))); clear h; intro a w h
    refine wpl_plain (op_callM h hS (vs := [_, _]) rfl Tryz.call70 (C_takes b k2 o s hs hk2 _ (Row ad (cellsOf encT p) :: Φ) 43 (by decide)) ((List.Perm.refl _)) (by simp) (by simp) ?_); clear h; rintro v22 σ22 Ψ22 a w ⟨rfl, rfl, rfl⟩ h
    refine gL h (zm rfl (zp (.extract rfl (fun _ => rfl)) (zp (.extract rfl (fun _ => rfl)) ?_))); clear h; intro a w h
    refine by_bool h (fun hc24 h => ?_) (fun hc24 h => ?_)
    · skip
      simp only [if_pos hc24] at h
      have hlt24 := takesE_lt hk2 hc24
      refine gL h (za rfl (za rfl (zn (zs (zs (zr (zm rfl (zp (.unOp rfl (un_not _)) (zn ?_))))))))); clear h; intro a w h
      change Code.wp _ _ _ _ _
      refine cond_false h rfl ?_
      refine gC h (zk (zs (zr (zm rfl ?_)))); clear h; intro a w h
      refine wpl_plain (op_callE h hS (vs := [_]) rfl Tryz.call71 (C_term b (blkE s k2 + 1) o s hs (by omega) _ (Row ad (cellsOf encT p) :: Φ) ins hI hGi) ((List.Perm.refl _)) (by simp) ?_ ?_)
      · skip
        rintro _ _ w' ⟨e, i, ob, hx, rfl, rfl⟩ hm
        exact panE h hm ⟨e, i, ob, hr.trans (sumL_err (.inl hc24) hx), rfl, rfl⟩ sl (fun _ hR => by repeat (first | exact hR | apply List.Mem.tail))
      clear h; rintro v36 σ36 Ψ36 a w ⟨p36, k36, ad36, c36, hr36, rfl, rfl, rfl⟩ h
      obtain ⟨hg36, hk36a, hk36⟩ := termI_good (k := blkE s k2 + 1) hs hGi (by omega) hr36
      have hbk2 := blkE_ge s k2
      have hsz := hg.size
      have hsz36 := hg36.size
      refine gL h (za rfl (zn (zs (zr (zm rfl (zw [_] rfl Tryz.call73 (C_size p _ _ hg) (zm rfl (zw [_] rfl Tryz.call73 (C_size p36 _ _ hg36) (zp (Pure1.cast (v' := (.int .i64 (((sizeE p) + (sizeE p36) : Nat) : Int))) (.add rfl rfl) (by show Value.int _ _ = Value.int _ _; congr 1)) (zm rfl ?_)))))))))); clear h; intro a w h
      refine wpl_plain (op_callE h hS (vs := [_, _]) rfl Tryz.call72 (C_fits _ _ _ (Row ad36 (cellsOf encT p36) :: Row ad (cellsOf encT p) :: Φ)) (List.Perm.refl _) (by simp) ?_ ?_)
      · skip
        rintro _ _ w' ⟨hl, rfl, rfl⟩ hm
        exact panE h hm ⟨3, _, _, hr.trans (sumL_lim (.inl hc24) hr36 (by omega)), rfl, rfl⟩ sl (fun _ hR => by repeat (first | exact hR | apply List.Mem.tail))
      clear h; rintro v43 σ43 Ψ43 a w ⟨hf43, rfl, rfl, rfl⟩ h
      have hfit : ¬ sizeE p + sizeE p36 > 16384 := by omega
      refine gL h (zn (zr (zm rfl (zm rfl (zm rfl ?_))))); clear h; intro a w h
      refine wpl_plain (op_callx h (fs := []) (cs := []) rfl (vs := [_, _]) rfl Tryz.call24 (C_pAddF p p36 _ _ _ _ 12 12 513 513 (hg.fit (by omega)) (hg36.fit (by omega)) (by decide) (by decide) (by decide) (by decide)) (by simp) (by decide) ?_); clear h; rintro v47 Ψ47 a w ⟨ad47, c47, rfl, rfl⟩ h
      refine gL h (za rfl (zn ?_)); clear h; intro a w h
      exact ⟨f, ⟨_, k36, ad47, c47, ⟨hr.trans (sumL_add hc24 hr36 hfit), hg.add hg36 (by omega), hk36, by omega⟩, by exact (h.factsSub (by exact (fun _ hR => by rcases List.mem_cons.1 hR with rfl | hR <;> (repeat (first | exact List.Mem.head _ | exact hR | apply List.Mem.tail))))).sub (subL ⟨rfl, rfl, trivial⟩)⟩, by omega⟩
    · skip
      simp only [hc24, Bool.false_eq_true, if_false] at h
      refine gL h (za rfl (za rfl (zn (zs (zs (zr (zm rfl (zp (.unOp rfl (un_not _)) (zn ?_))))))))); clear h; intro a w h
      change Code.wp _ _ _ _ _
      refine cond_true h rfl ?_
      refine gC h (zs (zr (za rfl (zn (zs (zr (zm rfl ?_))))))); clear h; intro a w h
      refine wpl_plain (op_callM h hS (vs := [_, _]) rfl Tryz.call70 (C_takes b (blkE s k2) o s hs (blkE_le hk2) _ (Row ad (cellsOf encT p) :: Φ) 45 (by decide)) ((List.Perm.refl _)) (by simp) (by simp) ?_); clear h; rintro v29 σ29 Ψ29 a w ⟨rfl, rfl, rfl⟩ h
      simp only [takesE_blk, blkE_blk] at h
      refine gL h (zm rfl (zp (.extract rfl (fun _ => rfl)) (zp (.extract rfl (fun _ => rfl)) ?_))); clear h; intro a w h
      refine by_bool h (fun hc31 h => ?_) (fun hc31 h => ?_)
      · skip
        simp only [if_pos hc31] at h
        have hlt31 := takesE_lt hk2 hc31
        refine gL h (za rfl (za rfl (zn (zs (zr (zm rfl (zp (.unOp rfl (un_not _)) (zn ?_)))))))); clear h; intro a w h
        change Code.wp _ _ _ _ _
        refine cond_false h rfl ?_
        refine gC h (zk (zs (zr (zm rfl ?_)))); clear h; intro a w h
        refine wpl_plain (op_callE h hS (vs := [_]) rfl Tryz.call71 (C_term b (blkE s k2 + 1) o s hs (by omega) _ (Row ad (cellsOf encT p) :: Φ) ins hI hGi) ((List.Perm.refl _)) (by simp) ?_ ?_)
        · skip
          rintro _ _ w' ⟨e, i, ob, hx, rfl, rfl⟩ hm
          exact panE h hm ⟨e, i, ob, hr.trans (sumL_err (.inr hc31) hx), rfl, rfl⟩ sl (fun _ hR => by repeat (first | exact hR | apply List.Mem.tail))
        clear h; rintro v36 σ36 Ψ36 a w ⟨p36, k36, ad36, c36, hr36, rfl, rfl, rfl⟩ h
        obtain ⟨hg36, hk36a, hk36⟩ := termI_good (k := blkE s k2 + 1) hs hGi (by omega) hr36
        have hbk2 := blkE_ge s k2
        have hsz := hg.size
        have hsz36 := hg36.size
        refine gL h (za rfl (zn (zs (zr (zm rfl (zw [_] rfl Tryz.call73 (C_size p _ _ hg) (zm rfl (zw [_] rfl Tryz.call73 (C_size p36 _ _ hg36) (zp (Pure1.cast (v' := (.int .i64 (((sizeE p) + (sizeE p36) : Nat) : Int))) (.add rfl rfl) (by show Value.int _ _ = Value.int _ _; congr 1)) (zm rfl ?_)))))))))); clear h; intro a w h
        refine wpl_plain (op_callE h hS (vs := [_, _]) rfl Tryz.call72 (C_fits _ _ _ (Row ad36 (cellsOf encT p36) :: Row ad (cellsOf encT p) :: Φ)) (List.Perm.refl _) (by simp) ?_ ?_)
        · skip
          rintro _ _ w' ⟨hl, rfl, rfl⟩ hm
          exact panE h hm ⟨3, _, _, hr.trans (sumL_lim (.inr hc31) hr36 (by omega)), rfl, rfl⟩ sl (fun _ hR => by repeat (first | exact hR | apply List.Mem.tail))
        clear h; rintro v43 σ43 Ψ43 a w ⟨hf43, rfl, rfl, rfl⟩ h
        have hfit : ¬ sizeE p + sizeE p36 > 16384 := by omega
        refine gL h (zn (zr (zm rfl (zm rfl (zm rfl ?_))))); clear h; intro a w h
        refine wpl_plain (op_callx h (fs := []) (cs := []) rfl (vs := [_, _]) rfl Tryz.call25 (C_pSubF p p36 _ _ _ _ 12 12 513 513 (hg.fit (by omega)) (hg36.fit (by omega)) (by decide) (by decide) (by decide) (by decide)) (by simp) (by decide) ?_); clear h; rintro v47 Ψ47 a w ⟨ad47, c47, rfl, rfl⟩ h
        refine gL h (za rfl (zn ?_)); clear h; intro a w h
        exact ⟨f, ⟨_, k36, ad47, c47, ⟨hr.trans (sumL_sub hc24 hc31 hr36 hfit), hg.sub hg36 (by omega), hk36, by omega⟩, by exact (h.factsSub (by exact (fun _ hR => by rcases List.mem_cons.1 hR with rfl | hR <;> (repeat (first | exact List.Mem.head _ | exact hR | apply List.Mem.tail))))).sub (subL ⟨rfl, rfl, trivial⟩)⟩, by omega⟩
      · skip
        simp only [hc31, Bool.false_eq_true, if_false] at h
        refine gL h (za rfl (za rfl (zn (zs (zr (zm rfl (zp (.unOp rfl (un_not _)) (zn ?_)))))))); clear h; intro a w h
        change Code.wp _ _ _ _ _
        refine cond_true h rfl ?_
        refine gC h (zs (zr (zm rfl (za rfl (zn (zt ?_)))))); clear h; intro a w h
        refine retE h (results1 h rfl (.tmp rfl)) ⟨p, blkE s k2, ad, c, hr.trans (sumL_stop hc24 hc31), rfl, rfl, rfl⟩ sl (fun _ hR => by rcases List.mem_cons.1 hR with rfl | hR <;> (repeat (first | exact List.Mem.head _ | exact hR | apply List.Mem.tail)))
theorem InsG.sumE {s : ByteArray} (hs : s.size ≤ 4096) (n : Nat) : InsG s (some (sumE s n)) := fun f hf k p k' hk h => by
  cases hf
  obtain ⟨h1, h2, h3⟩ := sumE_good hs n hk h
  exact ⟨h1, by omega, h3⟩
theorem C_sumE (b : Nat) (s : ByteArray) (hs : s.size ≤ 4096) : ∀ (n o k : Nat) (σ : List (Nat × Obj)) (Φ : List SPred), o + n = 32 → k ≤ s.size →
    CtrE Tryz.prog 35 [.pointer (some ⟨b, 0, none⟩)] (rdB b s k o :: σ) Φ (PostP (sumE s n k) b s o σ Φ) (PanP (sumE s n k) b σ)
  | 0, o, k, σ, Φ, ho, hk => C_sum b k o s hs hk σ Φ none (.inl ⟨by omega, rfl⟩) (InsG.none s)
  | n + 1, o, k, σ, Φ, ho, hk => C_sum b k o s hs hk σ Φ (some (sumE s n)) (.inr ⟨by omega, _, rfl, fun k σ Φ hk => C_sumE b s hs n (o + 1) k σ Φ (by omega) hk⟩) (InsG.sumE hs n)
end
end Go.Proofs.YtgkicbaomcmfoaaGreatDoor
