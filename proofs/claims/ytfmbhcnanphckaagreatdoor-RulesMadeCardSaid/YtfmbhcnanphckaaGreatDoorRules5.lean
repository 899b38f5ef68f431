/- Written by a program of ours (gen.py) out of short specifications. By an AI agent. -/
import Derived.Test.YtfmbhcnanphckaaGreatDoorRules4
import Derived.Test.YtfmbhcnanphckaaGreatDoorFxZ
set_option linter.unusedVariables false
set_option linter.unusedSimpArgs false
set_option maxRecDepth 4000
namespace Go.Proofs.YtfmbhcnanphckaaGreatDoor
open Go Go.Proofs Go.Fx
attribute [local irreducible] Oper.wp Code.wp wpList Fx.Head wpOp
theorem fa_30_0 (b off : Nat) (w : World) : (Instr.fieldAt 30 (.pointer (some ⟨b, off, none⟩)) 0).run Tryz.prog w = .ok (.pointer (some ⟨b, off + 0, none⟩)) w := by
  simp [go_sem]
theorem fa_30_1 (b off : Nat) (w : World) : (Instr.fieldAt 30 (.pointer (some ⟨b, off, none⟩)) 1).run Tryz.prog w = .ok (.pointer (some ⟨b, off + 1, none⟩)) w := by
  simp [go_sem]
def lsum (ats ws : List Rat) (d : Nat) : Nat → Rat
  | 0 => 0
  | n + 1 => lsum ats ws d n + ws.getD n 0 * ats.getD n 0 ^ d
theorem lenQ_lsum (ats ws : List Rat) (d : Nat) (ha : ∀ p ∈ ats, lenQ p ≤ 1000) (hw : ∀ x ∈ ws, lenQ x ≤ 1000) (hd : d ≤ 100) : ∀ n, lenQ (lsum ats ws d n) ≤ 2 + 101003 * n
  | 0 => by rw [lsum]; have := lenQ_zero; omega
  | n + 1 => by
    have h0 := lenQ_lsum ats ws d ha hw hd n
    have h1 := lenQ_getD (k := 1000) (by omega) ha n
    have h2 := lenQ_getD (k := 1000) (by omega) hw n
    have h3 := lenQ_powle (ats.getD n 0) d 1000 100 h1 hd
    have h4 := lenQ_mul (ws.getD n 0) (ats.getD n 0 ^ d)
    have h5 := lenQ_add (lsum ats ws d n) (ws.getD n 0 * ats.getD n 0 ^ d)
    rw [lsum]; omega
def okL (ats ws : List Rat) (d : Nat) : Prop := lsum ats ws d ws.length = ((1 : Int) : Rat) / (((d + 1 : Nat) : Int) : Rat)
instance (ats ws : List Rat) (d : Nat) : Decidable (okL ats ws d) := by unfold okL; infer_instance
def exL (ats ws : List Rat) : Nat → Nat → Nat
  | 0, d => d
  | f + 1, d => if okL ats ws d then exL ats ws f (d + 1) else d
def lineI (ats ws : List Rat) : Int := (exL ats ws 13 0 : Int) - 1
theorem exL_end (ats ws : List Rat) : ∀ (f d e : Nat), d ≤ e → e ≤ d + f → (∀ x, d ≤ x → x < e → okL ats ws x) → (e = d + f ∨ ¬ okL ats ws e) → exL ats ws f d = e
  | 0, d, e, h1, h2, _, _ => by rw [exL]; omega
  | f + 1, d, e, h1, h2, h3, h4 => by
    rw [exL]
    by_cases h : d = e
    · subst h
      rcases h4 with h4 | h4
      · omega
      · rw [if_neg h4]
    · rw [if_pos (h3 d (Nat.le_refl _) (by omega))]
      exact exL_end ats ws f (d + 1) e (by omega) (by omega) (fun x hx hy => h3 x (by omega) hy) (h4.imp (fun h => by omega) id)

theorem C_ExactLine (ad1 ad2 : Option Addr) (c1 c2 : Nat) (ats ws : List Rat) (hnw : ws.length ≤ 1000) (hats : ∀ x ∈ ats, lenQ x ≤ 1000) (hws : ∀ x ∈ ws, lenQ x ≤ 1000) (hle : ats.length = ws.length) :
    CtrW Tryz.prog 35 [.agg #[.slice ad1 ats.length c1, .slice ad2 ws.length c2]] [Row ad1 (cellsOf encQ ats), Row ad2 (cellsOf encQ ws)] (.int .i64 (lineI ats ws)) := by
  refine fn_intro Tryz.func35 rfl Tryz.ntmps35 nb ?_
  intro S w0 a hS h
  refine gC h (zs (zr (zx rfl fun b1 => za rfl (zn (zs (zs (zr (zp (.fieldAddr rfl (fa_30_0 _ _)) (zd rfl mr Tryz.isAgg23 Tryz.sizeOf23 (rs_2_0 _ _) ?_))))))))); clear h; intro a w h
  refine gL h (zp (.builtin [_] rfl (len_slice_23 _ _ _)) (zp (.fieldAddr rfl (fa_30_1 _ _)) (zd rfl mr Tryz.isAgg23 Tryz.sizeOf23 (rs_2_1 _ _) ?_))); clear h; intro a w h
  refine gL h (zp (.builtin [_] rfl (len_slice_23 _ _ _)) (zp (.neq rfl rfl) ?_)); clear h; intro a w h
  refine by_bool h (fun hc13 h => (by exfalso; exact natNe hc13 hle)) (fun hc13 h => ?_)
  refine wpList_nil ?_
  change Code.wp _ _ _ _ _
  refine cond_false h rfl ?_
  refine gC h (zk (zs (zs (zr (zm rfl (zn (zb ?_))))))); clear h; intro a w h
  refine wp_loop_inv (fun (d : Nat) a w => d ≤ 13 ∧ (∀ x, x < d → okL ats ws x) ∧ St 45 S w0 [(1, .pointer (some ⟨b1, 0, none⟩)), (14, .int .i64 ((d : Nat) : Int))] [(b1, .cells (Value.cells (.agg #[.slice ad1 ats.length c1, .slice ad2 ws.length c2])) 30 (0, 0))] [Row ad1 (cellsOf encQ ats), Row ad2 (cellsOf encQ ws)] a w) (fun d => 13 - d) 0 (⟨Nat.zero_le _, fun x hx => absurd hx (Nat.not_lt_zero _), by exact (h).sub (subL ⟨rfl, rfl, trivial⟩)⟩) ?_; clear h
  rintro d a w ⟨hi_d, hinv_d, h⟩
  refine gC h (zs (zr (zp (.lss rfl rfl) (zn (zs ?_))))); clear h; intro a w h
  refine cond_split h rfl (fun hc15 => ?_) (fun hc15 => ?_)
  · skip
    have hlt_d : d < 13 := by have := of_decide_eq_true hc15; omega
    refine gC h (zk (zs (zb (zs (zr (zm rfl (za rfl (zn (zs (zr (zz zeroQ fun b4 => zn (zs (zs (zr (zp (.fieldAddr rfl (fa_30_1 _ _)) (zd rfl mr Tryz.isAgg23 Tryz.sizeOf23 (rs_2_1 _ _) ?_)))))))))))))))); clear h; intro a w h
    refine gL h (zp (.builtin [_] rfl (len_slice_23 _ _ _)) (zm rfl (zn (zb ?_)))); clear h; intro a w h
    refine wp_loop_inv (fun (n : Nat) a w => n ≤ ws.length ∧ St 45 S w0 [(1, .pointer (some ⟨b1, 0, none⟩)), (3, .int .i64 ((d : Nat) : Int)), (4, .pointer (some ⟨b4, 0, none⟩)), (14, .int .i64 ((d : Nat) : Int)), (18, .slice ad2 ws.length c2), (19, .int .i64 ((ws.length : Nat) : Int)), (20, .int .i64 ((n : Nat) : Int))] [(b4, .cells (Value.cells (encQ (lsum ats ws d n))) 42 (0, 0)), (b1, .cells (Value.cells (.agg #[.slice ad1 ats.length c1, .slice ad2 ws.length c2])) 30 (0, 0))] [Row ad1 (cellsOf encQ ats), Row ad2 (cellsOf encQ ws)] a w) (fun n => ws.length - n) 0 (⟨Nat.zero_le _, by exact (h).sub (subL ⟨rfl, rfl, rfl, rfl, rfl, rfl, rfl, trivial⟩)⟩) ?_; clear h
    rintro n a w ⟨hi_n, h⟩
    refine gC h (zs (zr (zp (.lss rfl rfl) (zn (zs ?_))))); clear h; intro a w h
    refine cond_split h rfl (fun hc21 => ?_) (fun hc21 => ?_)
    · skip
      have hlt_n : n < ws.length := by have := of_decide_eq_true hc21; omega
      have hn1 : n < ats.length := by omega
      obtain ⟨B_ad2, O_ad2, rfl⟩ := h.row_addr (ad := ad2) (M := cellsOf encQ ws) mm (by intro e; have := congrArg List.length e; rw [cellsOf_length (k := 5) (fun _ => rfl)] at this; simp only [List.length_nil, Nat.mul_eq_zero] at this; omega)
      obtain ⟨B_ad1, O_ad1, rfl⟩ := h.row_addr (ad := ad1) (M := cellsOf encQ ats) mm (by intro e; have := congrArg List.length e; rw [cellsOf_length (k := 5) (fun _ => rfl)] at this; simp only [List.length_nil, Nat.mul_eq_zero] at this; omega)
      have ha := lenQ_getD (k := 1000) (by omega) hats n
      have hw := lenQ_getD (k := 1000) (by omega) hws n
      have hm := lenQ_lsum ats ws d hats hws (by omega) n
      refine gC h (zk (zs (zb (zs (zr (zm rfl (zp (.indexAddr rfl rfl (ix_23 _ _ _ _ _ (by omega))) (zD rfl mm (cells_lt (k := 5) (by decide) (fun _ => rfl) ws n (by omega)) Tryz.isAgg42 Tryz.sizeOf42 (read_cells (k := 5) (fun _ => rfl) ((fun _ => rfl)) ws 0 n (by omega)) (.inl rfl) ?_)))))))); clear h; intro a w h
      refine gL h (zz zeroQ fun b6 => za rfl (zt' rfl rfl (st_5_0_5 _ _ _ _ _ _ _ _ _ _) uu Tryz.sizeOf42 rfl nb rfl ?_)); clear h; intro a w h
      refine gL h (zn (yD mixed_YtfmbhcnanphckaaGreatDoor [0, 1, 2, 3, 4, 5, 6, 7, 8, 9, 10, 11] (floatsOK_none (by kernel_rfl)) (yd rfl rfl mr Tryz.isAgg42 Tryz.sizeOf42 (rd_5_0_5 _ _ _ _ _) ?_))); clear h
      refine yd rfl rfl mr Tryz.isAgg42 Tryz.sizeOf42 (rd_5_0_5 _ _ _ _ _) ?_
      refine yp rfl (.fieldAddr rfl (fa_30_0 _ _)) (yd rfl rfl mr Tryz.isAgg23 Tryz.sizeOf23 (rs_2_0 _ _) ?_)
      refine yp rfl (.move rfl) (yp rfl (.indexAddr rfl rfl (ix_23 _ _ _ _ _ (by omega))) ?_)
      refine head_loadRow rfl (by kernel_rfl) rfl mm (cells_lt (k := 5) (by decide) (fun _ => rfl) ats n (by omega)) Tryz.isAgg42 Tryz.sizeOf42 (read_cells (k := 5) (fun _ => rfl) ((fun _ => rfl)) ats 0 n (by omega)) (.inl rfl) (by decide) ?_
      refine yp rfl (.move rfl) (yv [_, _] rfl rfl Tryz.call62 (C_power _ _ (by omega) (by omega)) ?_)
      have hl33 := lenQ_powle (ats.getD n 0) (d) 1000 100 (by omega) (by omega)
      refine yv [_, _] rfl rfl Tryz.call44 (C_QMul _ _ (by omega) (by omega)) ?_
      have hl34 := lenQ_mul (ws.getD n 0) ((ats.getD n 0) ^ d)
      refine yv [_, _] rfl rfl Tryz.call30 (C_QAdd _ _ (by omega) (by omega)) ?_
      have hl35 := lenQ_add (lsum ats ws d n) ((ws.getD n 0) * ((ats.getD n 0) ^ d))
      refine yt rfl rfl rfl (st_5_0_5 _ _ _ _ _ _ _ _ _ _) uu Tryz.sizeOf42 rfl nb rfl ?_
      refine yn (zr (zp (Pure1.cast (v' := (.int .i64 ((n + 1 : Nat) : Int))) (.add rfl rfl) (by show Value.int _ _ = Value.int _ _; congr 1)) (zm rfl (zn ?_)))); intro a w h
      exact ⟨n + 1, ⟨by omega, ((h.drop sl).factsSub (by simp)).sub sA⟩, by omega⟩
    · skip
      have heq_n : ws.length = n := by have := of_decide_eq_false hc21; omega
      subst heq_n
      have hm := lenQ_lsum ats ws d hats hws (by omega) ws.length
      refine gC h (ze (zs (yD mixed_YtfmbhcnanphckaaGreatDoor [0, 1, 2, 3, 4] (floatsOK_none (by kernel_rfl)) (yd rfl rfl mr Tryz.isAgg42 Tryz.sizeOf42 (rd_5_0_5 _ _ _ _ _) ?_)))); clear h
      refine yp rfl (.move rfl) (yp rfl (Pure1.cast (v' := (.int .i64 ((d + 1 : Nat) : Int))) (.add rfl rfl) (by show Value.int _ _ = Value.int _ _; congr 1)) (yv [_, _] rfl rfl Tryz.call46 (C_rratio _ _ (by omega) (by omega) (by omega) (by omega) (by omega)) ?_))
      have hl40 := lenQ_of (1) (((d + 1 : Nat) : Int)) (by omega) (by omega) (by omega) (by omega)
      refine yp rfl (.binOp rfl rfl (fun _ => run_neQ _ _ (lsum ats ws d ws.length) (((1 : Int) : Rat) / ((((d + 1 : Nat) : Int) : Int) : Rat)) _)) (yn ?_); intro a w h
      change Code.wp _ _ _ _ _
      refine cond_split h rfl (fun hc41 => ?_) (fun hc41 => ?_)
      · skip
        have hbad : ¬ okL ats ws d := by simpa [okL] using hc41
        refine gC h (zs (zr (zm rfl (zp (.sub rfl rfl) (za rfl (zn (zt ?_))))))); clear h; intro a w h
        refine retV h (results1 h rfl (.tmp rfl)) ?_
        unfold lineI; rw [exL_end ats ws 13 0 d (Nat.zero_le _) (by omega) (fun x _ hx => hinv_d x hx) (.inr hbad)]
      · skip
        have hgood : okL ats ws d := by simpa [okL] using hc41
        refine gC h (zk (zr (zp (Pure1.cast (v' := (.int .i64 ((d + 1 : Nat) : Int))) (.add rfl rfl) (by show Value.int _ _ = Value.int _ _; congr 1)) (zm rfl (zn ?_))))); clear h; intro a w h
        exact ⟨d + 1, ⟨by omega, fun x hx => by rcases Nat.lt_or_ge x d with h | h; exact hinv_d x h; rw [show x = d by omega]; exact hgood, (h.drop sl).sub sA⟩, by omega⟩
  · skip
    have heq_d : 13 = d := by have := of_decide_eq_false hc15; omega
    subst heq_d
    refine gC h (ze (zs (zr (za rfl (zn (zt ?_)))))); clear h; intro a w h
    refine retV h (results1 h rfl (.tmp rfl)) ?_
    unfold lineI; rw [exL_end ats ws 13 0 13 (Nat.zero_le _) (by omega) (fun x _ hx => hinv_d x hx) (.inl rfl)]; rfl

def cotN (n i : Nat) : Nat → List Rat
  | 0 => [((1 : Int) : Rat)]
  | m + 1 => if m ≠ i then timesQ (cotN n i m) (((-((m : Nat) : Int) : Int) : Rat) / ((((i : Nat) : Int) - ((m : Nat) : Int) : Int) : Rat)) ((((n : Nat) : Int) : Rat) / ((((i : Nat) : Int) - ((m : Nat) : Int) : Int) : Rat)) else cotN n i m
theorem cotN_len (n i : Nat) : ∀ m, (cotN n i m).length ≤ m + 1
  | 0 => Nat.le_refl _
  | m + 1 => by
    have := cotN_len n i m
    rw [cotN]; split
    · rw [timesQ, timesN_len]; omega
    · omega
def csum (l : List Rat) : Nat → Rat
  | 0 => 0
  | p + 1 => csum l p + l.getD p 0 * (((1 : Int) : Rat) / (((p + 1 : Nat) : Int) : Rat))
theorem lenQ_csum (l : List Rat) (hl : ∀ x ∈ l, lenQ x ≤ 1000) : ∀ p, p ≤ 1000000 → lenQ (csum l p) ≤ 2 + 1005 * p
  | 0, _ => by rw [csum]; have := lenQ_zero; omega
  | p + 1, hp => by
    have h0 := lenQ_csum l hl p (by omega)
    have h1 := lenQ_getD (k := 1000) (by omega) hl p
    have h2 := lenQ_of 1 ((p + 1 : Nat) : Int) (by omega) (by omega) (by omega) (by omega)
    have h3 := lenQ_mul (l.getD p 0) (((1 : Int) : Rat) / (((p + 1 : Nat) : Int) : Rat))
    have h4 := lenQ_add (csum l p) (l.getD p 0 * (((1 : Int) : Rat) / (((p + 1 : Nat) : Int) : Rat)))
    rw [csum]; omega
def cotW (n i : Nat) : Rat := csum (cotN n i (n + 1)) (cotN n i (n + 1)).length
def cotA (n i : Nat) : Rat := (((i : Nat) : Int) : Rat) / (((n : Nat) : Int) : Rat)
def lstT {α : Type} (f : Nat → α) : Nat → List α
  | 0 => []
  | i + 1 => lstT f i ++ [f i]
theorem lstT_len {α : Type} (f : Nat → α) : ∀ i, (lstT f i).length = i
  | 0 => rfl
  | i + 1 => by rw [lstT, List.length_append, lstT_len f i]; rfl
theorem C_times2Y (ad : Option Addr) (c : Nat) (l : List Rat) (x y : Rat) (hn : l.length ≤ 1000) (hl : ∀ x ∈ l, lenQ x ≤ 1000) (hx : lenQ x ≤ 1000) (hy : lenQ y ≤ 1000) :
    CtrO Tryz.prog 47 [.slice ad l.length c, encQ x, encQ y] [Row ad (cellsOf encQ l)] (fun v σ => ∃ b, v = .slice (some ⟨b, 0, none⟩) (timesQ l x y).length (timesQ l x y).length ∧ σ = [(b, .cells (cellsOf encQ (timesQ l x y)).toArray 42 (0, 0))]) := by
  have := C_times2 ad c l x y hn hl hx hy
  rw [show (timesQ l x y).length = l.length + 1 from timesN_len l x y l.length]
  exact this

theorem C_Cotes (n : Nat) (h1 : 1 ≤ n) (h8 : n ≤ 8) (hs : ∀ i, i ≤ n → ∀ m, m ≤ n + 1 → ∀ x ∈ cotN n i m, lenQ x ≤ 1000) :
    Ctr Tryz.prog 12 [.int .i64 ((n : Nat) : Int)] [] (fun v Ψ => ∃ ad1 c1 ad2 c2, v = .tuple #[.agg #[.slice ad1 (lstT (cotA n) (n + 1)).length c1, .slice ad2 (lstT (cotW n) (n + 1)).length c2], .int .i64 0] ∧ Ψ = [Row ad2 (cellsOf encQ (lstT (cotW n) (n + 1))), Row ad1 (cellsOf encQ (lstT (cotA n) (n + 1)))]) := by
  refine fn_intro Tryz.func12 rfl Tryz.ntmps12 nb ?_
  intro S w0 a hS h
  refine gC h (zs (zr (zz Tryz.zeroValue30 fun b2 => za rfl (zn (zs (zb (zs (zr (zm rfl (zp (.lss rfl rfl) (za rfl (zn ?_)))))))))))); clear h; intro a w h
  change Code.wp _ _ _ _ _
  refine cond_split h rfl (fun hc11 => (by exfalso; have := of_decide_eq_true hc11; omega)) (fun hc11 => ?_)
  refine gC h (zs (zr (zm rfl (zp (.gtr rfl rfl) (za rfl (zn ?_)))))); clear h; intro a w h
  change Code.wp _ _ _ _ _
  refine cond_split h rfl (fun hc15 => (by exfalso; have := of_decide_eq_true hc15; omega)) (fun hc15 => ?_)
  refine gC h (zk (zs (zr (zz Tryz.zeroValue30 fun b4 => zn (zs (zs (zr (zm rfl (zp (Pure1.cast (v' := (.int .i64 ((n + 1 : Nat) : Int))) (.add rfl rfl) (by show Value.int _ _ = Value.int _ _; congr 1)) (zm rfl (zn (zb ?_)))))))))))); clear h; intro a w h
  refine wp_loop_inv (fun (i : Nat) a w => i ≤ (n + 1) ∧ ∃ (ad1 : Option Addr) (c1 : Nat) (o1 : List (Nat × Obj)) (ad2 : Option Addr) (c2 : Nat) (o2 : List (Nat × Obj)), (GrowO 5 42 (.slice ad1 (lstT (cotA n) i).length c1) (lstT (cotA n) i).length (cellsOf encQ (lstT (cotA n) i)) o1 ∧ GrowO 5 42 (.slice ad2 (lstT (cotW n) i).length c2) (lstT (cotW n) i).length (cellsOf encQ (lstT (cotW n) i)) o2) ∧ St 79 S w0 [(0, .int .i64 ((n : Nat) : Int)), (2, .pointer (some ⟨b2, 0, none⟩)), (3, .int .i64 0), (4, .pointer (some ⟨b4, 0, none⟩)), (20, .int .i64 ((n + 1 : Nat) : Int)), (21, .int .i64 ((i : Nat) : Int))] (o2 ++ (o1 ++ ((b4, .cells (Value.cells (.agg #[(.slice ad1 (lstT (cotA n) i).length c1), (.slice ad2 (lstT (cotW n) i).length c2)])) 30 (0, 0)) :: ((b2, .cells (Value.cells (.agg #[.slice none 0 0, .slice none 0 0])) 30 (0, 0)) :: [])))) [] a w) (fun i => (n + 1) - i) 0 (⟨Nat.zero_le _, none, 0, [], none, 0, [], ⟨GrowO.nil _ _, GrowO.nil _ _⟩, by exact (h.factsSub (by simp)).sub (subL ⟨rfl, rfl, rfl, rfl, rfl, rfl, trivial⟩)⟩) ?_; clear h
  rintro i a w ⟨hi_i, ad1, c1, o1, ad2, c2, o2, ⟨hG1, hG2⟩, h⟩
  refine gC h (zs (zr (zp (.lss rfl rfl) (zn (zs ?_))))); clear h; intro a w h
  refine cond_split h rfl (fun hc22 => ?_) (fun hc22 => ?_)
  · skip
    have hlt_i : i < (n + 1) := by have := of_decide_eq_true hc22; omega
    have hsi := hs i (by omega)
    refine gC h (zk (zs (zb (zs (zr (zm rfl (za rfl (zn (zs (zr (zv [_] rfl Tryz.call20 (C_QInt _ (by omega) (by omega)) ?_))))))))))); clear h; intro a w h
    have hl24 := lenQ_int (1) (by omega) (by omega)
    refine gL h (zB [(_, _)] rfl (bs_23_1_0 _ _ _ _ _) fun b25 => ?_); clear h; intro a w h
    replace h := h.shareAll hS (cellsOf encQ ([((1 : Int) : Rat)])) rfl
    refine gL h (za rfl (zn (zs (zs (zr (zm rfl (zp (Pure1.cast (v' := (.int .i64 ((n + 1 : Nat) : Int))) (.add rfl rfl) (by show Value.int _ _ = Value.int _ _; congr 1)) (zm rfl (zn (zb ?_)))))))))); clear h; intro a w h
    refine wp_loop_inv (fun (m : Nat) a w => m ≤ (n + 1) ∧ ∃ (ad : Option Addr) (c : Nat), St 79 S w0 [(0, .int .i64 ((n : Nat) : Int)), (2, .pointer (some ⟨b2, 0, none⟩)), (3, .int .i64 0), (4, .pointer (some ⟨b4, 0, none⟩)), (5, .int .i64 ((i : Nat) : Int)), (6, .slice ad ((cotN n i m).length) c), (20, .int .i64 ((n + 1 : Nat) : Int)), (21, .int .i64 ((i : Nat) : Int)), (27, .int .i64 ((n + 1 : Nat) : Int)), (28, .int .i64 ((m : Nat) : Int))] (o2 ++ (o1 ++ ((b4, .cells (Value.cells (.agg #[(.slice ad1 (lstT (cotA n) i).length c1), (.slice ad2 (lstT (cotW n) i).length c2)])) 30 (0, 0)) :: ((b2, .cells (Value.cells (.agg #[.slice none 0 0, .slice none 0 0])) 30 (0, 0)) :: [])))) [Row ad (cellsOf encQ (cotN n i m))] a w) (fun m => (n + 1) - m) 0 (⟨Nat.zero_le _, _, _, by rw [show cotN n i 0 = [((1 : Int) : Rat)] from rfl]; exact (h.factsSub (by simp)).sub (subL ⟨rfl, rfl, rfl, rfl, rfl, rfl, rfl, rfl, rfl, rfl, trivial⟩)⟩) ?_; clear h
    rintro m a w ⟨hi_m, ad, c, h⟩
    refine gC h (zs (zr (zp (.lss rfl rfl) (zn (zs ?_))))); clear h; intro a w h
    refine cond_split h rfl (fun hc29 => ?_) (fun hc29 => ?_)
    · skip
      have hlt_m : m < (n + 1) := by have := of_decide_eq_true hc29; omega
      have hsm := hsi m (by omega)
      have hcl := cotN_len n i m
      refine gC h (zk (zs (zb (zs (zr (zm rfl (za rfl (zn (zs (zr (zm rfl (zm rfl (zp (.neq rfl rfl) (zn ?_)))))))))))))); clear h; intro a w h
      change Code.wp _ _ _ _ _
      refine cond_split h rfl (fun hc33 => ?_) (fun hc33 => ?_)
      · skip
        have hne : m ≠ i := by have := natNe hc33; exact this
        have hcot : cotN n i (m + 1) = timesQ (cotN n i m) (((-((m : Nat) : Int) : Int) : Rat) / ((((i : Nat) : Int) - ((m : Nat) : Int) : Int) : Rat)) ((((n : Nat) : Int) : Rat) / ((((i : Nat) : Int) - ((m : Nat) : Int) : Int) : Rat)) := by rw [cotN, if_pos hne]
        refine gC h (zr (zm rfl (zm rfl (zp (.unOp rfl (fun w => run_negi _ (by omega) (by omega) w)) (zm rfl (zm rfl (zp (.sub rfl rfl) (zv [_, _] rfl Tryz.call46 (C_rratio _ _ (by omega) (by omega) (by omega) (by omega) (by omega)) ?_)))))))); clear h; intro a w h
        have hl40 := lenQ_of (-((m : Nat) : Int)) ((((i : Nat) : Int)) - (((m : Nat) : Int))) (by omega) (by omega) (by omega) (by omega)
        refine gL h (zm rfl (zm rfl (zm rfl (zp (.sub rfl rfl) (zv [_, _] rfl Tryz.call46 (C_rratio _ _ (by omega) (by omega) (by omega) (by omega) (by omega)) ?_))))); clear h; intro a w h
        have hl45 := lenQ_of (((n : Nat) : Int)) ((((i : Nat) : Int)) - (((m : Nat) : Int))) (by omega) (by omega) (by omega) (by omega)
        refine wpl_plain (op_callO h (vs := [_, _, _]) rfl Tryz.call47 (C_times2Y ad c (cotN n i m) _ _ (by omega) hsm (by omega) (by omega)) (by simp) (by decide) ?_); clear h; rintro v46 σ46 a w ⟨b46, rfl, rfl⟩ h
        replace h := h.shareAll hS (cellsOf encQ (timesQ (cotN n i m) (((-((m : Nat) : Int) : Int) : Rat) / ((((i : Nat) : Int) - ((m : Nat) : Int) : Int) : Rat)) ((((n : Nat) : Int) : Rat) / ((((i : Nat) : Int) - ((m : Nat) : Int) : Int) : Rat)))) rfl
        refine gL h (za rfl (zn (zr (zp (Pure1.cast (v' := (.int .i64 ((m + 1 : Nat) : Int))) (.add rfl rfl) (by show Value.int _ _ = Value.int _ _; congr 1)) (zm rfl (zn ?_)))))); clear h; intro a w h
        exact ⟨m + 1, ⟨by omega, _, _, by rw [hcot]; exact by exact (h.factsSub (by simp)).sub (subL ⟨rfl, rfl, rfl, rfl, rfl, rfl, rfl, rfl, rfl, rfl, trivial⟩)⟩, by omega⟩
      · skip
        have hne : ¬ m ≠ i := by have := natEq hc33; omega
        have hcot : cotN n i (m + 1) = cotN n i m := by rw [cotN, if_neg hne]
        refine gC h (zk (zr (zp (Pure1.cast (v' := (.int .i64 ((m + 1 : Nat) : Int))) (.add rfl rfl) (by show Value.int _ _ = Value.int _ _; congr 1)) (zm rfl (zn ?_))))); clear h; intro a w h
        exact ⟨m + 1, ⟨by omega, _, _, by rw [hcot]; exact by exact (h.factsSub (by simp)).sub (subL ⟨rfl, rfl, rfl, rfl, rfl, rfl, rfl, rfl, rfl, rfl, trivial⟩)⟩, by omega⟩
    · skip
      have heq_m : (n + 1) = m := by have := of_decide_eq_false hc29; omega
      subst heq_m
      refine gC h (ze (zs (zr (zz zeroQ fun b8 => zn (zs (zs (zr (zm rfl (zp (.builtin [_] rfl (len_slice_23 _ _ _)) (zm rfl (zn (zb ?_)))))))))))); clear h; intro a w h
      have hcl2 := cotN_len n i (n + 1)
      refine wp_loop_inv (fun (p : Nat) a w => p ≤ (cotN n i (n + 1)).length ∧ St 79 S w0 [(0, .int .i64 ((n : Nat) : Int)), (2, .pointer (some ⟨b2, 0, none⟩)), (3, .int .i64 0), (4, .pointer (some ⟨b4, 0, none⟩)), (5, .int .i64 ((i : Nat) : Int)), (6, .slice ad ((cotN n i (n + 1)).length) c), (8, .pointer (some ⟨b8, 0, none⟩)), (20, .int .i64 ((n + 1 : Nat) : Int)), (21, .int .i64 ((i : Nat) : Int)), (27, .int .i64 ((n + 1 : Nat) : Int)), (28, .int .i64 (((n + 1) : Nat) : Int)), (48, .slice ad ((cotN n i (n + 1)).length) c), (49, .int .i64 (((cotN n i (n + 1)).length : Nat) : Int)), (50, .int .i64 ((p : Nat) : Int))] ((b8, .cells (Value.cells (encQ (csum (cotN n i (n + 1)) p))) 42 (0, 0)) :: (o2 ++ (o1 ++ ((b4, .cells (Value.cells (.agg #[(.slice ad1 (lstT (cotA n) i).length c1), (.slice ad2 (lstT (cotW n) i).length c2)])) 30 (0, 0)) :: ((b2, .cells (Value.cells (.agg #[.slice none 0 0, .slice none 0 0])) 30 (0, 0)) :: []))))) [Row ad (cellsOf encQ (cotN n i (n + 1)))] a w) (fun p => (cotN n i (n + 1)).length - p) 0 (⟨Nat.zero_le _, by exact (h).sub (subL ⟨rfl, rfl, rfl, rfl, rfl, rfl, rfl, rfl, rfl, rfl, rfl, rfl, rfl, rfl, trivial⟩)⟩) ?_; clear h
      rintro p a w ⟨hi_p, h⟩
      refine gC h (zs (zr (zp (.lss rfl rfl) (zn (zs ?_))))); clear h; intro a w h
      refine cond_split h rfl (fun hc51 => ?_) (fun hc51 => ?_)
      · skip
        have hlt_p : p < (cotN n i (n + 1)).length := by have := of_decide_eq_true hc51; omega
        obtain ⟨B_ad, O_ad, rfl⟩ := h.row_addr (ad := ad) (M := cellsOf encQ (cotN n i (n + 1))) mm (by intro e; have := congrArg List.length e; rw [cellsOf_length (k := 5) (fun _ => rfl)] at this; simp only [List.length_nil, Nat.mul_eq_zero] at this; omega)
        have hgp := lenQ_getD (k := 1000) (by omega) (hsi (n + 1) (by omega)) p
        have hcs := lenQ_csum (cotN n i (n + 1)) (hsi (n + 1) (by omega)) p (by omega)
        refine gC h (zk (zs (zb (zs (zr (zm rfl (zp (.indexAddr rfl rfl (ix_23 _ _ _ _ _ (by omega))) (zD rfl mm (cells_lt (k := 5) (by decide) (fun _ => rfl) (cotN n i (n + 1)) p (by omega)) Tryz.isAgg42 Tryz.sizeOf42 (read_cells (k := 5) (fun _ => rfl) ((fun _ => rfl)) (cotN n i (n + 1)) 0 p (by omega)) (.inl rfl) ?_)))))))); clear h; intro a w h
        refine gL h (zz zeroQ fun b10 => za rfl (zt' rfl rfl (st_5_0_5 _ _ _ _ _ _ _ _ _ _) uu Tryz.sizeOf42 rfl nb rfl ?_)); clear h; intro a w h
        refine gL h (zn (yD mixed_YtfmbhcnanphckaaGreatDoor [0, 1, 2, 3, 4, 5, 6, 7] (floatsOK_none (by kernel_rfl)) (yd rfl rfl mr Tryz.isAgg42 Tryz.sizeOf42 (rd_5_0_5 _ _ _ _ _) ?_))); clear h
        refine yd rfl rfl mr Tryz.isAgg42 Tryz.sizeOf42 (rd_5_0_5 _ _ _ _ _) ?_
        refine yp rfl (.move rfl) (yp rfl (Pure1.cast (v' := (.int .i64 ((p + 1 : Nat) : Int))) (.add rfl rfl) (by show Value.int _ _ = Value.int _ _; congr 1)) (yv [_, _] rfl rfl Tryz.call46 (C_rratio _ _ (by omega) (by omega) (by omega) (by omega) (by omega)) ?_))
        have hl59 := lenQ_of (1) (((p + 1 : Nat) : Int)) (by omega) (by omega) (by omega) (by omega)
        refine yv [_, _] rfl rfl Tryz.call44 (C_QMul _ _ (by omega) (by omega)) ?_
        have hl60 := lenQ_mul ((cotN n i (n + 1)).getD p 0) (((1 : Int) : Rat) / ((((p + 1 : Nat) : Int) : Int) : Rat))
        refine yv [_, _] rfl rfl Tryz.call30 (C_QAdd _ _ (by omega) (by omega)) ?_
        have hl61 := lenQ_add (csum (cotN n i (n + 1)) p) (((cotN n i (n + 1)).getD p 0) * (((1 : Int) : Rat) / ((((p + 1 : Nat) : Int) : Int) : Rat)))
        refine yt rfl rfl rfl (st_5_0_5 _ _ _ _ _ _ _ _ _ _) uu Tryz.sizeOf42 rfl nb rfl ?_
        refine yn (zr (zp (Pure1.cast (v' := (.int .i64 ((p + 1 : Nat) : Int))) (.add rfl rfl) (by show Value.int _ _ = Value.int _ _; congr 1)) (zm rfl (zn ?_)))); intro a w h
        exact ⟨p + 1, ⟨by omega, ((h.drop sl).factsSub (by simp)).sub sA⟩, by omega⟩
      · skip
        have heq_p : (cotN n i (n + 1)).length = p := by have := of_decide_eq_false hc51; omega
        subst heq_p
        refine gC h (ze (zs (yD mixed_YtfmbhcnanphckaaGreatDoor [0, 1, 2, 3, 4, 5, 6, 7, 8] (floatsOK_none (by kernel_rfl)) (yp rfl (.fieldAddr rfl (fa_30_0 _ _)) (yd rfl rfl mr Tryz.isAgg23 Tryz.sizeOf23 (rs_2_0 _ _) ?_))))); clear h
        refine yp rfl (.move rfl) (yp rfl (.move rfl) (yv [_, _] rfl rfl Tryz.call46 (C_rratio _ _ (by omega) (by omega) (by omega) (by omega) (by omega)) ?_))
        have hl67 := lenQ_of (((i : Nat) : Int)) (((n : Nat) : Int)) (by omega) (by omega) (by omega) (by omega)
        refine yB rfl [(_, _)] rfl (bs_23_1_0 _ _ _ _ _) fun b68 => ?_
        refine head_appendO (σr := ((b8, .cells (Value.cells (encQ (csum (cotN n i (n + 1)) ((cotN n i (n + 1)).length)))) 42 (0, 0)) :: (o2 ++ ((b4, .cells (Value.cells (.agg #[(.slice ad1 (lstT (cotA n) i).length c1), (.slice ad2 (lstT (cotW n) i).length c2)])) 30 (0, 0)) :: ((b2, .cells (Value.cells (.agg #[.slice none 0 0, .slice none 0 0])) 30 (0, 0)) :: []))))) rfl (by kernel_rfl) rfl rfl (List.Perm.trans (List.Perm.refl _) (List.Perm.cons _ (pm_ca (pm_aa (List.Perm.refl _))))) hG1 Tryz.runUnderlying23 Tryz.runUnderlying23 Tryz.typeInfo42 Tryz.sizeOf42 zeroQ rfl (by decide) (by decide) rfl rfl (by decide) (by show 56 * (2 * ((lstT (cotA n) i).length + 1) + 192) ≤ 281474976710656; have h1 := lstT_len (cotA n) i; have h2 := lstT_len (cotW n) i; omega) (by decide) ?_
        intro v69 o69 hG69
        obtain ⟨ad69, c69, rfl⟩ := hG69.is
        have hLn69 : (lstT (cotA n) i).length + 1 = ((lstT (cotA n) i) ++ [((((i : Nat) : Int) : Int) : Rat) / ((((n : Nat) : Int) : Int) : Rat)]).length := by simp only [List.length_append, List.length_cons, List.length_nil, Nat.zero_add]
        rw [hLn69]; rw [hLn69] at hG69
        replace hG69 : GrowO 5 42 (.slice ad69 ((lstT (cotA n) i) ++ [((((i : Nat) : Int) : Int) : Rat) / ((((n : Nat) : Int) : Int) : Rat)]).length c69) ((lstT (cotA n) i) ++ [((((i : Nat) : Int) : Int) : Rat) / ((((n : Nat) : Int) : Int) : Rat)]).length (cellsOf encQ ((lstT (cotA n) i) ++ [((((i : Nat) : Int) : Int) : Rat) / ((((n : Nat) : Int) : Int) : Rat)])) o69 := by rw [cellsOf_append, cellsOf_one]; exact hG69
        refine yp rfl (.fieldAddr rfl (fa_30_0 _ _)) (yt rfl rfl rfl (st_2_0_1 _ _ _) uu Tryz.sizeOf23 rfl nb (by show ((flat ((.slice ad69 ((lstT (cotA n) i) ++ [((((i : Nat) : Int) : Int) : Rat) / ((((n : Nat) : Int) : Int) : Rat)]).length c69)) && true)) = true; simp only [GrowO.flat (hG69)]; rfl) ?_)
        refine yn (zr (zp (.fieldAddr rfl (fa_30_1 _ _)) (zd rfl mr Tryz.isAgg23 Tryz.sizeOf23 (rs_2_1 _ _) ?_))); intro a w h
        refine gL h (zd rfl mr Tryz.isAgg42 Tryz.sizeOf42 (rd_5_0_5 _ _ _ _ _) ?_); clear h; intro a w h
        refine gL h (zB [(_, _)] rfl (bs_23_1_0 _ _ _ _ _) fun b74 => ?_); clear h; intro a w h
        refine wpl_plain (op_appendO (σr := (o69 ++ ((b8, .cells (Value.cells (encQ (csum (cotN n i (n + 1)) ((cotN n i (n + 1)).length)))) 42 (0, 0)) :: ((b4, .cells (Value.cells (.agg #[(.slice ad69 ((lstT (cotA n) i) ++ [((((i : Nat) : Int) : Int) : Rat) / ((((n : Nat) : Int) : Int) : Rat)]).length c69), (.slice ad2 (lstT (cotW n) i).length c2)])) 30 (0, 0)) :: ((b2, .cells (Value.cells (.agg #[.slice none 0 0, .slice none 0 0])) 30 (0, 0)) :: []))))) h rfl rfl (List.Perm.trans (List.Perm.refl _) (List.Perm.cons _ (pm_aa (pm_ca (List.Perm.refl _))))) hG2 Tryz.runUnderlying23 Tryz.runUnderlying23 Tryz.typeInfo42 Tryz.sizeOf42 zeroQ rfl (by decide) (by decide) rfl rfl (by decide) (by show 56 * (2 * ((lstT (cotW n) i).length + 1) + 192) ≤ 281474976710656; have h1 := lstT_len (cotA n) i; have h2 := lstT_len (cotW n) i; omega) (by decide) ?_); clear h
        intro v75 o75 a w hG75 h
        obtain ⟨ad75, c75, rfl⟩ := hG75.is
        have hLn75 : (lstT (cotW n) i).length + 1 = ((lstT (cotW n) i) ++ [csum (cotN n i (n + 1)) ((cotN n i (n + 1)).length)]).length := by simp only [List.length_append, List.length_cons, List.length_nil, Nat.zero_add]
        rw [hLn75] at h hG75
        replace hG75 : GrowO 5 42 (.slice ad75 ((lstT (cotW n) i) ++ [csum (cotN n i (n + 1)) ((cotN n i (n + 1)).length)]).length c75) ((lstT (cotW n) i) ++ [csum (cotN n i (n + 1)) ((cotN n i (n + 1)).length)]).length (cellsOf encQ ((lstT (cotW n) i) ++ [csum (cotN n i (n + 1)) ((cotN n i (n + 1)).length)])) o75 := by rw [cellsOf_append, cellsOf_one]; exact hG75
        refine gL h (zp (.fieldAddr rfl (fa_30_1 _ _)) (zt' rfl rfl (st_2_1_1 _ _ _) uu Tryz.sizeOf23 rfl nb (by show ((flat ((.slice ad75 ((lstT (cotW n) i) ++ [csum (cotN n i (n + 1)) ((cotN n i (n + 1)).length)]).length c75)) && true)) = true; simp only [GrowO.flat (hG75)]; rfl) ?_)); clear h; intro a w h
        refine gL h (zn (zr (zp (Pure1.cast (v' := (.int .i64 ((i + 1 : Nat) : Int))) (.add rfl rfl) (by show Value.int _ _ = Value.int _ _; congr 1)) (zm rfl (zn ?_))))); clear h; intro a w h
        exact ⟨i + 1, ⟨by omega, ad69, c69, o69, ad75, c75, o75, ⟨hG69, hG75⟩, by exact (((h.perm (List.Perm.trans (pm_ac (pm_ac (List.Perm.refl _))) (List.Perm.cons _ (List.Perm.refl _))).symm).drop (by repeat (first | exact List.Sublist.refl _ | apply List.Sublist.cons))).factsSub (by simp)).sub sA⟩, by omega⟩
  · skip
    have heq_i : (n + 1) = i := by have := of_decide_eq_false hc22; omega
    subst heq_i
    refine gC h (ze (zs (zr (zd rfl mr Tryz.isAgg30 Tryz.sizeOf30 (rd_2_0_2 _ _) ?_)))); clear h; intro a w h
    refine gL h (zt' rfl rfl (st_2_0_2 _ _ _ _) uu Tryz.sizeOf30 rfl nb (by show ((flat ((.slice ad1 (lstT (cotA n) (n + 1)).length c1)) && (flat ((.slice ad2 (lstT (cotW n) (n + 1)).length c2)) && true))) = true; simp only [GrowO.flat (hG1), GrowO.flat (hG2)]; rfl) ?_); clear h; intro a w h
    refine gL h (za rfl (zn (zt ?_))); clear h; intro a w h
    replace h := (St.shareO' (St.shareO' (h.perm (pm_aa (List.Perm.refl _)).symm) hS hG1) hS hG2)
    refine ret_of (Ψ := [Row ad2 (cellsOf encQ (lstT (cotW n) (n + 1))), Row ad1 (cellsOf encQ (lstT (cotA n) (n + 1)))]) h (results2 h rfl (.cell rfl mr Tryz.isAgg30 Tryz.sizeOf30 (rd_2_0_2 _ _)) (.tmp rfl)) ⟨ad1, c1, ad2, c2, rfl, rfl⟩ (by simp)
end Go.Proofs.YtfmbhcnanphckaaGreatDoor
