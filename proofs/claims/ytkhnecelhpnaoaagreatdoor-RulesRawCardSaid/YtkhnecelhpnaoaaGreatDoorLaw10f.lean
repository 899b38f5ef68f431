/- Written by a program of ours (gen.py) out of short specifications. By an AI agent. -/
import Derived.Test.YtkhnecelhpnaoaaGreatDoorRulp
set_option linter.unusedVariables false
set_option linter.unusedSimpArgs false
set_option maxRecDepth 4000
namespace Go.Proofs.YtkhnecelhpnaoaaGreatDoor
open Go Go.Proofs Go.Fx
attribute [local irreducible] Oper.wp Code.wp wpList Fx.Head wpOp
theorem bs_124_3_0_1_2 (x0_0 : Value) (x0_1 : Value) (x0_2 : Value) (x0_3 : Value) (x0_4 : Value) (x0_5 : Value) (x0_6 : Value) (x0_7 : Value) (x0_8 : Value) (x0_9 : Value) (x1_0 : Value) (x1_1 : Value) (x1_2 : Value) (x1_3 : Value) (x1_4 : Value) (x1_5 : Value) (x1_6 : Value) (x1_7 : Value) (x1_8 : Value) (x1_9 : Value) (x2_0 : Value) (x2_1 : Value) (x2_2 : Value) (x2_3 : Value) (x2_4 : Value) (x2_5 : Value) (x2_6 : Value) (x2_7 : Value) (x2_8 : Value) (x2_9 : Value) (w : World) : (Instr.buildSlice 124 3 [(0, .agg #[x0_0, x0_1, x0_2, x0_3, x0_4, x0_5, x0_6, x0_7, x0_8, x0_9]), (1, .agg #[x1_0, x1_1, x1_2, x1_3, x1_4, x1_5, x1_6, x1_7, x1_8, x1_9]), (2, .agg #[x2_0, x2_1, x2_2, x2_3, x2_4, x2_5, x2_6, x2_7, x2_8, x2_9])].toArray).run Tryz.prog w = .ok (.slice (some ⟨w.heap.size, 0, none⟩) 3 3) (w.alloc (.cells #[x0_0, x0_1, x0_2, x0_3, x0_4, x0_5, x0_6, x0_7, x0_8, x0_9, x1_0, x1_1, x1_2, x1_3, x1_4, x1_5, x1_6, x1_7, x1_8, x1_9, x2_0, x2_1, x2_2, x2_3, x2_4, x2_5, x2_6, x2_7, x2_8, x2_9] 53 (0, 0))) := by
  simp [go_sem]
theorem mixK {K Kp : Nat} {ns : List Rat} {l : List Pt} (hn : ∀ x ∈ ns, lenQ x ≤ K) (hl : ∀ x ∈ l, PtK Kp x) (hK : K ≤ 3000) (hKp : Kp ≤ 3000) (h3 : ns.length ≤ 3) {k : Nat} (h1 : k ≤ ns.length) (h2 : k ≤ l.length) : PtK 18005 (mixN ns l k) := by
  obtain ⟨a, b⟩ := lenQ_mixN hn hl k h1 h2
  have := Nat.mul_le_mul (show k ≤ 3 by omega) (show K + Kp + 1 ≤ 6001 by omega)
  exact ⟨by omega, by omega⟩
theorem l3_K {K : Nat} {a b c : Pt} (ha : PtK K a) (hb : PtK K b) (hc : PtK K c) : ∀ x ∈ [a, b, c], PtK K x := fun x hx => by
  simp only [List.mem_cons, List.not_mem_nil, or_false] at hx
  rcases hx with rfl | rfl | rfl <;> assumption
theorem l2_K {K : Nat} {a b : Pt} (ha : PtK K a) (hb : PtK K b) : ∀ x ∈ [a, b], PtK K x := fun x hx => by
  simp only [List.mem_cons, List.not_mem_nil, or_false] at hx
  rcases hx with rfl | rfl <;> assumption
theorem n3_K {K : Nat} {p : Rat × Rat × Rat} (h : lenQ p.1 ≤ K ∧ lenQ p.2.1 ≤ K ∧ lenQ p.2.2 ≤ K) : ∀ x ∈ [p.1, p.2.1, p.2.2], lenQ x ≤ K := fun x hx => by
  simp only [List.mem_cons, List.not_mem_nil, or_false] at hx
  rcases hx with rfl | rfl | rfl
  · exact h.1
  · exact h.2.1
  · exact h.2.2
theorem n2_K {K : Nat} {x y : Rat} (h : lenQ x ≤ K) (h2 : lenQ y ≤ K) : ∀ z ∈ [x, y], lenQ z ≤ K := fun z hx => by
  simp only [List.mem_cons, List.not_mem_nil, or_false] at hx
  rcases hx with rfl | rfl
  · exact h
  · exact h2
theorem area_K {K : Nat} {a b c : Pt} (ha : PtK K a) (hb : PtK K b) (hc : PtK K c) : lenQ (twQ a b c / ((2 : Int) : Rat)) ≤ 8 * K + 7 := by
  have := lenQ_tw ha hb hc
  have := lenQ_div (twQ a b c) ((2 : Int) : Rat)
  have := lenQ_int 2 (by decide) (by decide)
  omega
theorem mix3_K {Kp : Nat} {p : Rat × Rat × Rat} {a b c : Pt} (h : lenQ p.1 ≤ 1000 ∧ lenQ p.2.1 ≤ 1000 ∧ lenQ p.2.2 ≤ 1000) (ha : PtK Kp a) (hb : PtK Kp b) (hc : PtK Kp c) (hKp : Kp ≤ 3000) : PtK 18005 (mix3 p a b c) :=
  mixK (n3_K h) (l3_K ha hb hc) (by omega) hKp (by simp) (by simp) (by simp)
theorem ev_K {d K : Nat} {p : List Tm} (hq : Pq d K p) (hd : d ≤ 12) (hK : K ≤ 300000) {x : Pt} (hx : PtK 18005 x) : lenQ (evP p x.1 x.2) ≤ 47000000 := by
  have h1 := lenQ_linF (φ := PWf x.1 x.2) (Kf := 4 + 12 * 18005) (norm p).length (Nat.le_refl _) hq.nsz (fun t ht => lenQ_PWf hx.1 hx.2 t.i t.j (by have := (DL_norm hq.deg) t ht; omega))
  rw [List.take_length, at_ev x.1 x.2 ((DL_norm hq.deg).mono hd)] at h1
  have h2 := Nat.mul_le_mul (hq.n91 hd) (show K + (4 + 12 * 18005) + 1 ≤ 516065 by omega)
  omega
theorem apK {Kp d K : Nat} {ps : List (Rat × Rat × Rat)} {ws : List Rat} {p : List Tm} {a b c : Pt} (hw : ∀ x ∈ ws, lenQ x ≤ 1000) (hps : ∀ p ∈ ps, lenQ p.1 ≤ 1000 ∧ lenQ p.2.1 ≤ 1000 ∧ lenQ p.2.2 ≤ 1000) (hq : Pq d K p) (hd : d ≤ 12) (hK : K ≤ 300000)
    (ha : PtK Kp a) (hb : PtK Kp b) (hc : PtK Kp c) (hKp : Kp ≤ 3000) (hle : ps.length = ws.length) (hn : ws.length ≤ 100) : ∀ n, n ≤ ws.length → lenQ (apN ps ws p a b c n) ≤ 2 + n * 47001001
  | 0, _ => by rw [apN]; have := lenQ_zero; omega
  | n + 1, h => by
    have ih := apK hw hps hq hd hK ha hb hc hKp hle hn n (by omega)
    have h1 := ev_K hq hd hK (mix3_K (hps _ (getD_mem ps (d := (0, 0, 0)) (show n < ps.length by omega))) ha hb hc hKp)
    have h2 := hw _ (getD_mem ws (d := 0) (show n < ws.length by omega))
    have h3 := lenQ_mul (ws.getD n 0) (evP p (mix3 (ps.getD n (0, 0, 0)) a b c).1 (mix3 (ps.getD n (0, 0, 0)) a b c).2)
    have h4 := lenQ_add (apN ps ws p a b c n) (ws.getD n 0 * evP p (mix3 (ps.getD n (0, 0, 0)) a b c).1 (mix3 (ps.getD n (0, 0, 0)) a b c).2)
    rw [apN, Nat.add_mul]; omega

theorem C_mixed (ad1 ad2 : Option Addr) (c1 c2 K Kp : Nat) (ns : List Rat) (l : List Pt) (hn : ∀ x ∈ ns, lenQ x ≤ K) (hl : ∀ x ∈ l, PtK Kp x) (hK : K ≤ 3000) (hKp : Kp ≤ 3000) (h3 : ns.length ≤ 3) (hle : ns.length = l.length) : CtrW Tryz.prog 83 [.slice ad1 ns.length c1, .slice ad2 l.length c2] [Row ad1 (cellsOf encQ ns), Row ad2 (cellsOf encPt l)] (.tuple #[encQ (mixN ns l ns.length).1, encQ (mixN ns l ns.length).2]) := by
  refine fn_intro Tryz.func83 rfl Tryz.ntmps83 nb ?_
  intro S w0 a hS h
  refine gC h (zs (zr (zz zeroQ fun b4 => zz zeroQ fun b5 => zn (zs (zs (zr (zm rfl (zp (.builtin [_] rfl (len_slice_56 _ _ _)) (zm rfl (zn (zb ?_))))))))))); clear h; intro a w h
  refine wp_loop_inv (fun (i : Nat) a w => i ≤ ns.length ∧ St 36 S w0 [(1, .slice ad2 l.length c2), (4, .pointer (some ⟨b4, 0, none⟩)), (5, .pointer (some ⟨b5, 0, none⟩)), (8, .slice ad1 ns.length c1), (9, .int .i64 ((ns.length : Nat) : Int)), (10, .int .i64 ((i : Nat) : Int))] [(b5, .cells (Value.cells (encQ ((mixN ns l i).2))) 52 (0, 0)), (b4, .cells (Value.cells (encQ ((mixN ns l i).1))) 52 (0, 0))] [Row ad1 (cellsOf encQ ns), Row ad2 (cellsOf encPt l)] a w) (fun i => ns.length - i) 0 (⟨Nat.zero_le _, by exact (h).sub (subL ⟨rfl, rfl, rfl, rfl, rfl, rfl, trivial⟩)⟩) ?_; clear h
  rintro i a w ⟨hi_i, h⟩
  refine gC h (zs (zr (zp (.lss rfl rfl) (zn (zs ?_))))); clear h; intro a w h
  refine cond_split h rfl (fun hc11 => ?_) (fun hc11 => ?_)
  · skip
    have hlt_i : i < ns.length := by have := of_decide_eq_true hc11; omega
    have hi2 : i < l.length := by omega
    obtain ⟨B_ad2, O_ad2, rfl⟩ := h.row_addr (ad := ad2) (M := cellsOf encPt l) mm (by intro e; have := congrArg List.length e; rw [cellsOf_length (k := 10) (fun _ => rfl)] at this; simp only [List.length_nil, Nat.mul_eq_zero] at this; omega)
    obtain ⟨B_ad1, O_ad1, rfl⟩ := h.row_addr (ad := ad1) (M := cellsOf encQ ns) mm (by intro e; have := congrArg List.length e; rw [cellsOf_length (k := 5) (fun _ => rfl)] at this; simp only [List.length_nil, Nat.mul_eq_zero] at this; omega)
    have hm := mixK hn hl hK hKp h3 (show i ≤ ns.length by omega) (show i ≤ l.length by omega)
    obtain ⟨hm1, hm2⟩ := hm
    have hx := hn _ (getD_mem ns (d := 0) hlt_i)
    obtain ⟨hp1, hp2⟩ := hl _ (getD_mem l (d := (0, 0)) hi2)
    refine gC h (zk (zs (zb (zs (zr (zm rfl (zp (.indexAddr rfl rfl (ix_56 _ _ _ _ _ (by omega))) (zD rfl mm (cells_lt (k := 5) (by decide) (fun _ => rfl) ns i (by omega)) Tryz.isAgg52 Tryz.sizeOf52 (read_cells (k := 5) (fun _ => rfl) ((fun _ => rfl)) ns 0 i (by omega)) (.inl rfl) ?_)))))))); clear h; intro a w h
    refine gL h (zz zeroQ fun b7 => za rfl (zt' rfl rfl (st_5_0_5 _ _ _ _ _ _ _ _ _ _) uu Tryz.sizeOf52 rfl nb rfl ?_)); clear h; intro a w h
    refine gL h (zn (zs (yD mixed_YtkhnecelhpnaoaaGreatDoor [0, 1, 2, 3, 4, 5, 6, 7, 8, 9] (floatsOK_none (by kernel_rfl)) (yd rfl rfl mr Tryz.isAgg52 Tryz.sizeOf52 (rd_5_0_5 _ _ _ _ _) ?_)))); clear h
    refine yd rfl rfl mr Tryz.isAgg52 Tryz.sizeOf52 (rd_5_0_5 _ _ _ _ _) ?_
    refine yp rfl (.move rfl) (yp rfl (.move rfl) (yp rfl (.indexAddr rfl rfl (ix_124 _ _ _ _ _ (by omega))) (yp rfl (Pure1.cast (v' := .pointer (some ⟨B_ad2, O_ad2 + (i * 10 + 0), none⟩)) (.indexAddr rfl rfl (ixc_53_0 _ _)) (by rw [Nat.add_assoc])) ?_)))
    refine head_loadRow rfl (by kernel_rfl) rfl mm (at_lt (k := 10) (enc := encPt) (fun _ => rfl) l i 0 (by omega) (by decide)) Tryz.isAgg52 Tryz.sizeOf52 (read_at (k := 10) (enc := encPt) (fun _ => rfl) l (0, 0) i (by omega) true 5 0 _ (by decide) (by decide) rfl) (.inl rfl) (by decide) ?_
    refine yv [_, _] rfl rfl Tryz.call61 (C_QMul _ _ (by omega) (by omega)) ?_
    have hl22 := lenQ_mul (ns.getD i 0) ((l.getD i (0, 0)).1)
    refine yv [_, _] rfl rfl Tryz.call22 (C_QAdd _ _ (by omega) (by omega)) ?_
    have hl23 := lenQ_add ((mixN ns l i).1) ((ns.getD i 0) * ((l.getD i (0, 0)).1))
    refine yt rfl rfl rfl (st_5_0_5 _ _ _ _ _ _ _ _ _ _) uu Tryz.sizeOf52 rfl nb rfl ?_
    refine yn (yD mixed_YtkhnecelhpnaoaaGreatDoor [0, 1, 2, 3, 4, 5, 6, 7, 8, 9] (floatsOK_none (by kernel_rfl)) (yd rfl rfl mr Tryz.isAgg52 Tryz.sizeOf52 (rd_5_0_5 _ _ _ _ _) ?_))
    refine yd rfl rfl mr Tryz.isAgg52 Tryz.sizeOf52 (rd_5_0_5 _ _ _ _ _) ?_
    refine yp rfl (.move rfl) (yp rfl (.move rfl) (yp rfl (.indexAddr rfl rfl (ix_124 _ _ _ _ _ (by omega))) (yp rfl (Pure1.cast (v' := .pointer (some ⟨B_ad2, O_ad2 + (i * 10 + 5), none⟩)) (.indexAddr rfl rfl (ixc_53_1 _ _)) (by rw [Nat.add_assoc])) ?_)))
    refine head_loadRow rfl (by kernel_rfl) rfl mm (at_lt (k := 10) (enc := encPt) (fun _ => rfl) l i 5 (by omega) (by decide)) Tryz.isAgg52 Tryz.sizeOf52 (read_at (k := 10) (enc := encPt) (fun _ => rfl) l (0, 0) i (by omega) true 5 5 _ (by decide) (by decide) rfl) (.inl rfl) (by decide) ?_
    refine yv [_, _] rfl rfl Tryz.call61 (C_QMul _ _ (by omega) (by omega)) ?_
    have hl31 := lenQ_mul (ns.getD i 0) ((l.getD i (0, 0)).2)
    refine yv [_, _] rfl rfl Tryz.call22 (C_QAdd _ _ (by omega) (by omega)) ?_
    have hl32 := lenQ_add ((mixN ns l i).2) ((ns.getD i 0) * ((l.getD i (0, 0)).2))
    refine yt rfl rfl rfl (st_5_0_5 _ _ _ _ _ _ _ _ _ _) uu Tryz.sizeOf52 rfl nb rfl ?_
    refine yn (zr (zp (Pure1.cast (v' := (.int .i64 ((i + 1 : Nat) : Int))) (.add rfl rfl) (by show Value.int _ _ = Value.int _ _; congr 1)) (zm rfl (zn ?_)))); intro a w h
    exact ⟨i + 1, ⟨by omega, ((h.drop sl).factsSub (by simp)).sub sA⟩, by omega⟩
  · skip
    have heq_i : ns.length = i := by have := of_decide_eq_false hc11; omega
    subst heq_i
    refine gC h (ze (zs (yD mixed_YtkhnecelhpnaoaaGreatDoor [0, 1, 2, 3] (floatsOK_none (by kernel_rfl)) (yd rfl rfl mr Tryz.isAgg52 Tryz.sizeOf52 (rd_5_0_5 _ _ _ _ _) ?_)))); clear h
    refine head_loadLate [4] rfl (by kernel_rfl) rfl mr Tryz.isAgg52 Tryz.sizeOf52 (rd_5_0_5 _ _ _ _ _) (fun a w σx hst => by intro t ht; simp only [List.mem_cons, List.not_mem_nil, or_false] at ht; rcases ht with rfl <;> exact ⟨_, rfl, by have h1 := (List.pairwise_append.1 hst.nd).2.1; simp at h1; dsimp only; omega⟩) (by decide) ?_
    refine yt rfl rfl rfl (st_5_0_5 _ _ _ _ _ _ _ _ _ _) uu Tryz.sizeOf52 rfl nb rfl ?_
    refine yt rfl rfl rfl (st_5_0_5 _ _ _ _ _ _ _ _ _ _) uu Tryz.sizeOf52 rfl nb rfl ?_
    refine yn (zt ?_); intro a w h
    refine retV h (results2 h rfl (.cell rfl mr Tryz.isAgg52 Tryz.sizeOf52 (rd_5_0_5 _ _ _ _ _)) (.cell rfl mr Tryz.isAgg52 Tryz.sizeOf52 (rd_5_0_5 _ _ _ _ _))) ?_
    rfl

theorem C_Apply (ad1 ad2 ad : Option Addr) (c1 c2 c d K Kp : Nat) (ps : List (Rat × Rat × Rat)) (ws : List Rat) (p : List Tm) (pa pb pc : Pt) (hnp : ps.length ≤ 100) (hnw : ws.length ≤ 100) (hps : ∀ p ∈ ps, lenQ p.1 ≤ 1000 ∧ lenQ p.2.1 ≤ 1000 ∧ lenQ p.2.2 ≤ 1000) (hws : ∀ x ∈ ws, lenQ x ≤ 1000) (hq : Pq d K p) (hd : d ≤ 12) (hK : K ≤ 300000) (ha : PtK Kp pa) (hb : PtK Kp pb) (hc : PtK Kp pc) (hKp : Kp ≤ 3000) (hv : checkI ps ws = 0) : CtrW Tryz.prog 27 [.agg #[.slice ad1 ps.length c1, .slice ad2 ws.length c2], .slice ad p.length c, encPt pa, encPt pb, encPt pc] [Row ad1 (cellsOf encP ps), Row ad2 (cellsOf encQ ws), Row ad (cellsOf encT p)] (encQ (applyQ ps ws p pa pb pc)) := by
  obtain ⟨hle, hs3⟩ := check_of hv
  obtain ⟨ha1, ha2⟩ := ha
  obtain ⟨hb1, hb2⟩ := hb
  obtain ⟨hc1, hc2⟩ := hc
  have ha : PtK Kp pa := ⟨ha1, ha2⟩
  have hb : PtK Kp pb := ⟨hb1, hb2⟩
  have hc : PtK Kp pc := ⟨hc1, hc2⟩
  have har := area_K ha hb hc
  refine fn_intro Tryz.func27 rfl Tryz.ntmps27 nb ?_
  intro S w0 a hS h
  refine gC h (zs (zr (zx rfl fun b5 => zx rfl fun b7 => zx rfl fun b8 => zx rfl fun b9 => zz zeroQ fun b10 => zn (zs (zs (zr (zd rfl mr Tryz.isAgg58 Tryz.sizeOf58 (rd_2_0_2 _ _) ?_))))))); clear h; intro a w h
  refine gL h (zw [_] rfl Tryz.call25 (C_Check ad1 ad2 c1 c2 ps ws (by omega) (by omega) hps) (zp (.neq rfl rfl) ?_)); clear h; intro a w h
  refine by_bool h (fun hc17 h => (by exfalso; rw [hv] at hc17; exact absurd hc17 (by decide))) (fun hc17 h => ?_)
  refine wpList_nil ?_
  change Code.wp _ _ _ _ _
  refine cond_false h rfl ?_
  refine gC h (zk (zs (zs (zr (zp (.fieldAddr rfl (fa_58_1 _ _)) (zd rfl mr Tryz.isAgg56 Tryz.sizeOf56 (rs_2_1 _ _) ?_)))))); clear h; intro a w h
  refine gL h (zp (.builtin [_] rfl (len_slice_56 _ _ _)) (zm rfl (zn (zb ?_)))); clear h; intro a w h
  refine wp_loop_inv (fun (i : Nat) a w => i ≤ ws.length ∧ St 55 S w0 [(1, .slice ad p.length c), (5, .pointer (some ⟨b5, 0, none⟩)), (7, .pointer (some ⟨b7, 0, none⟩)), (8, .pointer (some ⟨b8, 0, none⟩)), (9, .pointer (some ⟨b9, 0, none⟩)), (10, .pointer (some ⟨b10, 0, none⟩)), (20, .slice ad2 ws.length c2), (21, .int .i64 ((ws.length : Nat) : Int)), (22, .int .i64 ((i : Nat) : Int))] [(b10, .cells (Value.cells (encQ (apN ps ws p pa pb pc i))) 52 (0, 0)), (b9, .cells (Value.cells (encV pc.1 pc.2)) 53 (0, 0)), (b8, .cells (Value.cells (encV pb.1 pb.2)) 53 (0, 0)), (b7, .cells (Value.cells (encV pa.1 pa.2)) 53 (0, 0)), (b5, .cells (Value.cells (.agg #[.slice ad1 ps.length c1, .slice ad2 ws.length c2])) 58 (0, 0))] [Row ad1 (cellsOf encP ps), Row ad2 (cellsOf encQ ws), Row ad (cellsOf encT p)] a w) (fun i => ws.length - i) 0 (⟨Nat.zero_le _, by exact (h).sub (subL ⟨rfl, rfl, rfl, rfl, rfl, rfl, rfl, rfl, rfl, trivial⟩)⟩) ?_; clear h
  rintro i a w ⟨hi_i, h⟩
  refine gC h (zs (zr (zp (.lss rfl rfl) (zn (zs ?_))))); clear h; intro a w h
  refine cond_split h rfl (fun hc23 => ?_) (fun hc23 => ?_)
  · skip
    have hlt_i : i < ws.length := by have := of_decide_eq_true hc23; omega
    have hi2 : i < ps.length := by omega
    obtain ⟨B_ad2, O_ad2, rfl⟩ := h.row_addr (ad := ad2) (M := cellsOf encQ ws) mm (by intro e; have := congrArg List.length e; rw [cellsOf_length (k := 5) (fun _ => rfl)] at this; simp only [List.length_nil, Nat.mul_eq_zero] at this; omega)
    obtain ⟨B_ad1, O_ad1, rfl⟩ := h.row_addr (ad := ad1) (M := cellsOf encP ps) mm (by intro e; have := congrArg List.length e; rw [cellsOf_length (k := 15) (fun _ => rfl)] at this; simp only [List.length_nil, Nat.mul_eq_zero] at this; omega)
    have hpi := hps _ (getD_mem ps (d := (0, 0, 0)) hi2)
    have hwi := hws _ (getD_mem ws (d := 0) hlt_i)
    have hmx := mix3_K hpi ha hb hc hKp
    have hev := ev_K hq hd hK hmx
    have hap := apK hws hps hq hd hK ha hb hc hKp hle hnw i (by omega)
    have him := Nat.mul_le_mul_right 47001001 (show i ≤ 100 by omega)
    replace h := h.derive (R := Row (some ⟨B_ad1, O_ad1 + i * 15, none⟩) (cellsOf encQ [(ps.getD i (0, 0, 0)).1, (ps.getD i (0, 0, 0)).2.1, (ps.getD i (0, 0, 0)).2.2])) (fun X hX => row_point (l := ps) (hX _ mm) i hi2)
    refine gC h (zk (zs (zb (zs (zr (zm rfl (zp (.indexAddr rfl rfl (ix_56 _ _ _ _ _ (by omega))) (zD rfl mm (cells_lt (k := 5) (by decide) (fun _ => rfl) ws i (by omega)) Tryz.isAgg52 Tryz.sizeOf52 (read_cells (k := 5) (fun _ => rfl) ((fun _ => rfl)) ws 0 i (by omega)) (.inl rfl) ?_)))))))); clear h; intro a w h
    refine gL h (zz zeroQ fun b12 => za rfl (zt' rfl rfl (st_5_0_5 _ _ _ _ _ _ _ _ _ _) uu Tryz.sizeOf52 rfl nb rfl ?_)); clear h; intro a w h
    refine gL h (zn (zs (yD mixed_YtkhnecelhpnaoaaGreatDoor [0, 1, 2, 3, 4, 5, 6, 7, 8, 9, 10, 11, 12, 13, 14, 15, 16] (floatsOK_of ⟨.inl rfl, .inl rfl, .inl rfl, .inl rfl, .inl rfl, .inl rfl, .inl rfl, .inl rfl, .inl rfl, .inl rfl, .inl rfl, .inl rfl, .inl rfl, .inr ⟨13, 52, _, _, _, rfl, rfl, by decide, _, zeroQ⟩, .inr ⟨14, 52, _, _, _, rfl, rfl, by decide, _, zeroQ⟩, .inl rfl, .inl rfl, trivial⟩) (yp rfl (.fieldAddr rfl (fa_58_0 _ _)) (yd rfl rfl mr Tryz.isAgg55 Tryz.sizeOf55 (rs_2_0 _ _) ?_))))); clear h
    refine yp rfl (.move rfl) (yp rfl (.indexAddr rfl rfl (ix_55 _ _ _ _ _ (by omega))) (yp rfl (.slice rfl none none none rfl rfl rfl (sla_62 _ _)) (yd rfl rfl mr Tryz.isAgg53 Tryz.sizeOf53 (rd_10_0_10 _ _ _ _ _ _ _ _ _ _) ?_)))
    refine yd rfl rfl mr Tryz.isAgg53 Tryz.sizeOf53 (rd_10_0_10 _ _ _ _ _ _ _ _ _ _) ?_
    refine yd rfl rfl mr Tryz.isAgg53 Tryz.sizeOf53 (rd_10_0_10 _ _ _ _ _ _ _ _ _ _) ?_
    refine head_buildRow hS rfl (by kernel_rfl) [(_, _), (_, _), (_, _)] rfl (bs_124_3_0_1_2 _ _ _ _ _ _ _ _ _ _ _ _ _ _ _ _ _ _ _ _ _ _ _ _ _ _ _ _ _ _) (cellsOf encPt [pa, pb, pc]) rfl (by decide) ?_; intro b36
    refine yw [_, _] rfl rfl Tryz.call83 (C_mixed _ _ 3 3 1000 Kp [(ps.getD i (0, 0, 0)).1, (ps.getD i (0, 0, 0)).2.1, (ps.getD i (0, 0, 0)).2.2] [pa, pb, pc] (n3_K hpi) (l3_K ha hb hc) (by omega) hKp (by simp) (by simp)) (yp rfl (.move rfl) (yp rfl (.extract rfl (fun _ => rfl)) (yp rfl (.extract rfl (fun _ => rfl)) (yz rfl zeroQ fun b13 => yz rfl zeroQ fun b14 => yt rfl rfl rfl (st_5_0_5 _ _ _ _ _ _ _ _ _ _) uu Tryz.sizeOf52 rfl nb rfl ?_))))
    refine yt rfl rfl rfl (st_5_0_5 _ _ _ _ _ _ _ _ _ _) uu Tryz.sizeOf52 rfl nb rfl ?_
    refine yn (yD mixed_YtkhnecelhpnaoaaGreatDoor [0, 1, 2, 3, 4, 5, 6, 7, 8] (floatsOK_none (by kernel_rfl)) (yd rfl rfl mr Tryz.isAgg52 Tryz.sizeOf52 (rd_5_0_5 _ _ _ _ _) ?_))
    refine yd rfl rfl mr Tryz.isAgg52 Tryz.sizeOf52 (rd_5_0_5 _ _ _ _ _) ?_
    refine yp rfl (.move rfl) (yd rfl rfl mr Tryz.isAgg52 Tryz.sizeOf52 (rd_5_0_5 _ _ _ _ _) ?_)
    refine yd rfl rfl mr Tryz.isAgg52 Tryz.sizeOf52 (rd_5_0_5 _ _ _ _ _) ?_
    refine yw [_, _, _] rfl rfl Tryz.call63 (C_At p _ _ d K 18005 hq hd (mix3 (ps.getD i (0, 0, 0)) pa pb pc).1 (mix3 (ps.getD i (0, 0, 0)) pa pb pc).2 hmx.1 hmx.2 (by omega) (by decide)) (yv [_, _] rfl rfl Tryz.call61 (C_QMul _ _ (by omega) (by omega)) ?_)
    have hl46 := lenQ_mul (ws.getD i 0) (evP p (mix3 (ps.getD i (0, 0, 0)) pa pb pc).1 (mix3 (ps.getD i (0, 0, 0)) pa pb pc).2)
    refine yv [_, _] rfl rfl Tryz.call22 (C_QAdd _ _ (by omega) (by omega)) ?_
    have hl47 := lenQ_add (apN ps ws p pa pb pc i) ((ws.getD i 0) * (evP p (mix3 (ps.getD i (0, 0, 0)) pa pb pc).1 (mix3 (ps.getD i (0, 0, 0)) pa pb pc).2))
    refine yt rfl rfl rfl (st_5_0_5 _ _ _ _ _ _ _ _ _ _) uu Tryz.sizeOf52 rfl nb rfl ?_
    refine yn (zr (zp (Pure1.cast (v' := (.int .i64 ((i + 1 : Nat) : Int))) (.add rfl rfl) (by show Value.int _ _ = Value.int _ _; congr 1)) (zm rfl (zn ?_)))); intro a w h
    exact ⟨i + 1, ⟨by omega, ((h.drop sl).factsSub (by simp)).sub sA⟩, by omega⟩
  · skip
    have heq_i : ws.length = i := by have := of_decide_eq_false hc23; omega
    subst heq_i
    have hap := apK hws hps hq hd hK ha hb hc hKp hle hnw ws.length (Nat.le_refl _)
    have him := Nat.mul_le_mul_right 47001001 hnw
    refine gC h (ze (zs (yD mixed_YtkhnecelhpnaoaaGreatDoor [0, 1, 2, 4, 3, 5, 6] (floatsOK_none (by kernel_rfl)) (yd rfl rfl mr Tryz.isAgg53 Tryz.sizeOf53 (rd_10_0_10 _ _ _ _ _ _ _ _ _ _) ?_)))); clear h
    refine yd rfl rfl mr Tryz.isAgg53 Tryz.sizeOf53 (rd_10_0_10 _ _ _ _ _ _ _ _ _ _) ?_
    refine yd rfl rfl mr Tryz.isAgg53 Tryz.sizeOf53 (rd_10_0_10 _ _ _ _ _ _ _ _ _ _) ?_
    refine yd rfl rfl mr Tryz.isAgg52 Tryz.sizeOf52 (rd_5_0_5 _ _ _ _ _) ?_
    refine yv [_, _, _] rfl rfl Tryz.call37 (C_Area pa pb pc Kp ha hb hc (by omega)) (yv [_, _] rfl rfl Tryz.call61 (C_QMul _ _ (by omega) (by omega)) ?_)
    have hl54 := lenQ_mul (twQ pa pb pc / ((2 : Int) : Rat)) (apN ps ws p pa pb pc ws.length)
    refine yt rfl rfl rfl (st_5_0_5 _ _ _ _ _ _ _ _ _ _) uu Tryz.sizeOf52 rfl nb rfl ?_
    refine yn (zt ?_); intro a w h
    refine retV h (results1 h rfl (.cell rfl mr Tryz.isAgg52 Tryz.sizeOf52 (rd_5_0_5 _ _ _ _ _))) ?_
    rfl
end Go.Proofs.YtkhnecelhpnaoaaGreatDoor
