/- Written by a program of ours (gen.py) out of short specifications. By an AI agent. -/
import Derived.Test.YtealgpgmbflilaaGreatDoorLaw09a
set_option linter.unusedVariables false
set_option linter.unusedSimpArgs false
set_option maxRecDepth 4000
namespace Go.Proofs.YtealgpgmbflilaaGreatDoor
open Go Go.Proofs Go.Fx
attribute [local irreducible] Oper.wp Code.wp wpList Fx.Head wpOp
theorem rd_4_0_4 (c0 c1 c2 c3 : Value) : readAt true 4 #[c0, c1, c2, c3] 0 = some (.agg #[c0, c1, c2, c3]) := rfl
theorem bs_146_3_0_1_2 (x0_0 : Value) (x0_1 : Value) (x0_2 : Value) (x0_3 : Value) (x0_4 : Value) (x1_0 : Value) (x1_1 : Value) (x1_2 : Value) (x1_3 : Value) (x1_4 : Value) (x2_0 : Value) (x2_1 : Value) (x2_2 : Value) (x2_3 : Value) (x2_4 : Value) (w : World) : (Instr.buildSlice 146 3 [(0, .agg #[x0_0, x0_1, x0_2, x0_3, x0_4]), (1, .agg #[x1_0, x1_1, x1_2, x1_3, x1_4]), (2, .agg #[x2_0, x2_1, x2_2, x2_3, x2_4])].toArray).run Tryz.prog w = .ok (.slice (some ⟨w.heap.size, 0, none⟩) 3 3) (w.alloc (.cells #[x0_0, x0_1, x0_2, x0_3, x0_4, x1_0, x1_1, x1_2, x1_3, x1_4, x2_0, x2_1, x2_2, x2_3, x2_4] 44 (0, 0))) := by
  simp [go_sem]
theorem C_each_addK (b : Nat) (s : Rat) (ad : Option Addr) (c K : Nat) (l : List Rat) (σ : List (Nat × Obj)) (Φ : List SPred) (hn : l.length ≤ 100) (hK : K ≤ 9000000) (hs : lenQ s ≤ 1000000) (hx : ∀ x ∈ l, lenQ x ≤ K) (hR : Row ad (cellsOf encQ l) ∈ Φ) :
    CtrM Tryz.prog 96 [.func (.func 97) #[.pointer (some ⟨b, 0, none⟩)] #[], .slice ad l.length c] ((b, .cells (encQ s).cells 148 (0, 0)) :: σ) Φ (fun v σ' Φ' => v = .tuple #[] ∧ σ' = (b, .cells (encQ (l.foldl (· + ·) s)).cells 148 (0, 0)) :: σ ∧ Φ' = Φ) := by
  refine fn_introM Tryz.func96 rfl Tryz.ntmps96 nb ?_
  intro S w0 a w hS h
  refine gC h (zs (zr (zm rfl (zp (.builtin [_] rfl (len_slice_146 _ _ _)) (zm rfl (zn (zb ?_))))))); clear h; intro a w h
  refine wp_loop_inv (fun (i : Nat) a w => i ≤ l.length ∧ (lenQ ((l.take i).foldl (· + ·) s) ≤ 1000000 + i * (K + 1)) ∧ St 16 S w0 [(0, .func (.func 97) #[.pointer (some ⟨b, 0, none⟩)] #[]), (6, .slice ad l.length c), (7, .int .i64 ((l.length : Nat) : Int)), (8, .int .i64 ((i : Nat) : Int))] ((b, .cells (Value.cells (encQ ((l.take i).foldl (· + ·) s))) 148 (0, 0)) :: σ) (Φ) a w) (fun i => l.length - i) 0 (⟨Nat.zero_le _, by simpa using hs, by exact (h).sub (subL ⟨rfl, rfl, rfl, rfl, trivial⟩)⟩) ?_; clear h
  rintro i a w ⟨hi_i, hinv_i, h⟩
  refine gC h (zs (zr (zp (.lss rfl rfl) (zn (zs ?_))))); clear h; intro a w h
  refine cond_split h rfl (fun hc9 => ?_) (fun hc9 => ?_)
  · skip
    have hlt_i : i < l.length := by have := of_decide_eq_true hc9; omega
    obtain ⟨B_ad, O_ad, rfl⟩ := h.row_addr (ad := ad) (M := cellsOf encQ l) mm (by intro e; have := congrArg List.length e; rw [cellsOf_length (k := 5) (fun _ => rfl)] at this; simp only [List.length_nil, Nat.mul_eq_zero] at this; omega)
    have hl := hx (l.getD i 0) (getD_mem _ hlt_i)
    have hsum := foldl_take_succ (f := (· + ·)) l s i 0 hlt_i
    have hla := lenQ_add ((l.take i).foldl (· + ·) s) (l.getD i 0)
    have hik := Nat.mul_le_mul (show i ≤ 100 by omega) (show K + 1 ≤ 9000001 by omega)
    refine gC h (zk (zs (zb (zs (zr (zp (.indexAddr rfl rfl (ix_146 _ _ _ _ _ (by omega))) (zD rfl mm (cells_lt (k := 5) (by decide) (fun _ => rfl) l i (by omega)) Tryz.isAgg44 Tryz.sizeOf44 (read_cells (k := 5) (fun _ => rfl) ((fun _ => rfl)) l 0 i (by omega)) (.inl rfl) ?_))))))); clear h; intro a w h
    refine gL h (zz zeroQ fun b5 => zt' rfl rfl (st_5_0_5 _ _ _ _ _ _ _ _ _ _) uu Tryz.sizeOf44 rfl nb rfl ?_); clear h; intro a w h
    refine gL h (zn (zr (zm rfl (zd rfl mr Tryz.isAgg44 Tryz.sizeOf44 (rd_5_0_5 _ _ _ _ _) ?_)))); clear h; intro a w h
    refine wpl_plain (op_callMx h hS (fs := [.pointer (some ⟨b, 0, none⟩)]) (cs := []) rfl (vs := [_]) rfl Tryz.call97 (C_tadd b ((l.take i).foldl (· + ·) s) (l.getD i 0) ((b5, _) :: σ) Φ (by omega) (by omega)) (List.Perm.swap _ _ _) (by simp) (by simp) ?_); clear h; rintro v14 σ14 Ψ14 a w ⟨rfl, rfl, rfl⟩ h
    refine gL h (zn (zr (zp (Pure1.cast (v' := (.int .i64 ((i + 1 : Nat) : Int))) (.add rfl rfl) (by show Value.int _ _ = Value.int _ _; congr 1)) (zm rfl (zn ?_))))); clear h; intro a w h
    rw [← hsum] at h
    exact ⟨i + 1, ⟨by omega, by rw [hsum, Nat.add_mul]; omega, (h.drop sl).sub sA⟩, by omega⟩
  · skip
    have heq_i : l.length = i := by have := of_decide_eq_false hc9; omega
    subst heq_i
    refine wp_exit ?_
    refine endM h (results0 rfl) ⟨rfl, by rw [List.take_length], rfl⟩ (List.Sublist.refl _) (fun _ h => h)

theorem C_QSumK (ad : Option Addr) (c K : Nat) (l : List Rat) (hn : l.length ≤ 100) (hK : K ≤ 9000000) (hx : ∀ x ∈ l, lenQ x ≤ K) :
    CtrW Tryz.prog 36 [.slice ad l.length c] [Row ad (cellsOf encQ l)] (encQ (l.foldl (· + ·) 0)) := by
  refine fn_intro Tryz.func36 rfl Tryz.ntmps36 nb ?_
  intro S w0 a hS h
  refine gC h (zs (zr (zz zeroQ fun b2 => zn (zs (zr (zz Tryz.zeroValue148 fun b3 => zn (zs (zr (zp (.makeFunc [_] [] rfl rfl) (zm rfl ?_)))))))))); clear h; intro a w h
  refine wpl_plain (op_callM h hS (vs := [_, _]) rfl Tryz.call96 (C_each_addK b3 0 ad c K l [(b2, _)] [Row ad (cellsOf encQ l)] hn hK (Nat.le_trans lenQ_zero (by decide)) hx List.mem_cons_self) (List.Perm.refl _) (by simp) (by simp) ?_); clear h; rintro v6 σ6 Ψ6 a w ⟨rfl, rfl, rfl⟩ h
  refine gL h (zn (zs (zr (zp (.fieldAddr rfl (fa_148_0 _ _)) (zd rfl mr Tryz.isAgg44 Tryz.sizeOf44 (rd_5_0_5 _ _ _ _ _) ?_))))); clear h; intro a w h
  refine gL h (zt' rfl rfl (st_5_0_5 _ _ _ _ _ _ _ _ _ _) uu Tryz.sizeOf44 rfl nb rfl ?_); clear h; intro a w h
  refine wpList_nil (wp_ret ?_)
  refine retV h (results1 h rfl (.cell rfl mr Tryz.isAgg44 Tryz.sizeOf44 (rd_5_0_5 _ _ _ _ _))) ?_
  rfl

theorem gauss_law (g h : List Tm) (u v z : Pt) : triQ (norm (norm (dxL g) ++ norm (dyL h))) u v z = [flowQ g h u v, flowQ g h v z, flowQ g h z u].foldl (· + ·) 0 := by
  rw [add_nrm, nrm_tri, gauss]; simp only [List.foldl_cons, List.foldl_nil]; grind
theorem three_K {x y z : Rat} {K : Nat} (h1 : lenQ x ≤ K) (h2 : lenQ y ≤ K) (h3 : lenQ z ≤ K) : ∀ w ∈ [x, y, z], lenQ w ≤ K := fun w hw => by
  simp only [List.mem_cons, List.not_mem_nil, or_false] at hw
  rcases hw with rfl | rfl | rfl <;> assumption

theorem C_IntegralsGauss (l m : List Ti) (ad ad2 : Option Addr) (c c2 : Nat) (hokl : ∀ t ∈ l, OkT t) (hokm : ∀ t ∈ m, OkT t) (hln : l.length ≤ 9223372036854775807) (hmn : m.length ≤ 9223372036854775807) (qa : (Int × Int) × (Int × Int)) (qb : (Int × Int) × (Int × Int)) (qc : (Int × Int) × (Int × Int)) (hqa : OkP qa) (hqb : OkP qb) (hqc : OkP qc) : CtrW Tryz.prog 9 [.slice ad l.length c, .slice ad2 m.length c2, encPQ qa, encPQ qb, encPQ qc] [Row ad (cellsOf encTi l), Row ad2 (cellsOf encTi m)] (.bool true) := by
  have hKa := ptv_K hqa
  have hKb := ptv_K hqb
  have hKc := ptv_K hqc
  refine fn_intro Tryz.func9 rfl Tryz.ntmps9 nb ?_
  intro S w0 a hS h
  refine gC h (zs (zr (zx rfl fun b7 => zx rfl fun b8 => zx rfl fun b9 => za rfl (zn (zs (zs (zr (zm rfl (zp (.builtin [_] rfl (len_slice_22 _ _ _)) (zp (.gtr rfl rfl) ?_)))))))))); clear h; intro a w h
  refine by_bool h (fun hc19 h => ?_) (fun hc19 h => ?_)
  · skip
    refine gL h (zm rfl (zo 20 rfl rfl rfl (zo 20 rfl rfl rfl (zo 20 rfl rfl rfl (zp (.pickT rfl rfl) (zn ?_)))))); clear h; intro a w h
    change Code.wp _ _ _ _ _
    refine cond_true h rfl ?_
    refine gC h (zs (zr (zv [] rfl Tryz.call15 (C_works9) (za rfl (zn (zt ?_)))))); clear h; intro a w h
    refine retV h (results1 h rfl (.tmp rfl)) ?_
    rfl
  · skip
    refine gL h (zm rfl (zq 20 rfl rfl (.move rfl) (zq 20 rfl rfl (.builtin [_] rfl (len_slice_22 _ _ _)) (zq 20 rfl rfl (.gtr rfl rfl) ?_)))); clear h; intro a w h
    refine by_bool h (fun hc23 h => ?_) (fun hc23 h => ?_)
    · skip
      refine gL h (zp (.pickF rfl rfl) (zn ?_)); clear h; intro a w h
      change Code.wp _ _ _ _ _
      refine cond_true h rfl ?_
      refine gC h (zs (zr (zv [] rfl Tryz.call15 (C_works9) (za rfl (zn (zt ?_)))))); clear h; intro a w h
      refine retV h (results1 h rfl (.tmp rfl)) ?_
      rfl
    · skip
      have hll : l.length ≤ 8 := by have := of_decide_eq_false hc19; omega
      have hml : m.length ≤ 8 := by have := of_decide_eq_false hc23; omega
      have hgx := made_Pq (d := 5) hokl hll (by decide) (by decide)
      have hgy := made_Pq (d := 5) hokm hml (by decide) (by decide)
      refine gL h (zp (.pickF rfl rfl) (zn ?_)); clear h; intro a w h
      change Code.wp _ _ _ _ _
      refine cond_false h rfl ?_
      refine gC h (zk (zs (zr (zm rfl (zf [_, _] rfl Tryz.call26 (C_Made l _ _ 5 8 (by assumption) (by omega) (by omega)) ?_))))); clear h; rintro v27 Ψ27 ⟨ad27, c27, rfl, rfl⟩ a w h
      refine gL h (zm rfl (zf [_, _] rfl Tryz.call26 (C_Made m _ _ 5 8 (by assumption) (by omega) (by omega)) ?_)); clear h; rintro v29 Ψ29 ⟨ad29, c29, rfl, rfl⟩ a w h
      obtain ⟨G, hnG⟩ : ∃ G, norm (madeL 5 l) = G := ⟨_, rfl⟩
      rw [hnG] at h hgx
      obtain ⟨H, hnH⟩ : ∃ G, norm (madeL 5 m) = G := ⟨_, rfl⟩
      rw [hnH] at h hgy
      refine gL h (za rfl (za rfl (zn (zs (yD mixed_YtealgpgmbflilaaGreatDoor [0, 2, 4, 1, 3, 5, 6, 7, 8, 9, 10, 11] (floatsOK_of ⟨.inl rfl, .inl rfl, .inl rfl, .inl rfl, .inl rfl, .inl rfl, .inr ⟨13, 49, _, _, _, rfl, rfl, by decide, _, zeroPt⟩, .inr ⟨14, 49, _, _, _, rfl, rfl, by decide, _, zeroPt⟩, .inr ⟨15, 49, _, _, _, rfl, rfl, by decide, _, zeroPt⟩, .inl rfl, .inl rfl, .inl rfl, trivial⟩) (yd rfl rfl mr Tryz.isAgg27 Tryz.sizeOf27 (rd_4_0_4 _ _ _ _) ?_)))))); clear h
      refine yd rfl rfl mr Tryz.isAgg27 Tryz.sizeOf27 (rd_4_0_4 _ _ _ _) ?_
      refine yd rfl rfl mr Tryz.isAgg27 Tryz.sizeOf27 (rd_4_0_4 _ _ _ _) ?_
      refine yv [_] rfl rfl Tryz.call21 (C_POf qa (by assumption)) (yv [_] rfl rfl Tryz.call21 (C_POf qb (by assumption)) (yv [_] rfl rfl Tryz.call21 (C_POf qc (by assumption)) (yz rfl zeroPt fun b13 => yz rfl zeroPt fun b14 => yz rfl zeroPt fun b15 => yt rfl rfl rfl (st_10_0_10 _ _ _ _ _ _ _ _ _ _ _ _ _ _ _ _ _ _ _ _) uu Tryz.sizeOf49 rfl nb rfl ?_)))
      refine yt rfl rfl rfl (st_10_0_10 _ _ _ _ _ _ _ _ _ _ _ _ _ _ _ _ _ _ _ _) uu Tryz.sizeOf49 rfl nb rfl ?_
      refine yt rfl rfl rfl (st_10_0_10 _ _ _ _ _ _ _ _ _ _ _ _ _ _ _ _ _ _ _ _) uu Tryz.sizeOf49 rfl nb rfl ?_
      refine yn (zs (yD mixed_YtealgpgmbflilaaGreatDoor [0, 2, 5, 6, 7, 1, 3, 4, 8, 9, 10] (floatsOK_of ⟨.inl rfl, .inl rfl, .inl rfl, .inl rfl, .inl rfl, .inl rfl, .inl rfl, .inl rfl, .inl rfl, .inr ⟨16, 44, _, _, _, rfl, rfl, by decide, _, zeroQ⟩, .inl rfl, trivial⟩) (yp rfl (.move rfl) (yp rfl (.move rfl) (yd rfl rfl mr Tryz.isAgg49 Tryz.sizeOf49 (rd_10_0_10 _ _ _ _ _ _ _ _ _ _) ?_)))))
      refine yd rfl rfl mr Tryz.isAgg49 Tryz.sizeOf49 (rd_10_0_10 _ _ _ _ _ _ _ _ _ _) ?_
      refine yd rfl rfl mr Tryz.isAgg49 Tryz.sizeOf49 (rd_10_0_10 _ _ _ _ _ _ _ _ _ _) ?_
      refine yf [_] rfl rfl Tryz.call33 (C_DxF G _ _ 5 41 hgx (by decide) (by decide)) ?_; rintro v37 Ψ37 ⟨ad37, c37, rfl, rfl⟩
      refine yf [_] rfl rfl Tryz.call39 (C_DyF H _ _ 5 41 hgy (by decide) (by decide)) ?_; rintro v39 Ψ39 ⟨ad39, c39, rfl, rfl⟩
      refine yf [_, _] rfl rfl Tryz.call41 (C_pAddF (norm (dxL G)) (norm (dyL H)) _ _ _ _ 5 5 42 42 (hgx.dx (by decide)) (hgy.dy (by decide)) (by decide) (by decide) (by decide) (by decide)) ?_; rintro v40 Ψ40 ⟨ad40, c40, rfl, rfl⟩
      refine yw [_, _, _, _] rfl rfl Tryz.call46 (C_Tri (norm (norm (dxL G) ++ norm (dyL H))) _ _ 5 86 4 ((hgx.dx (by decide)).add (hgy.dy (by decide)) (by decide) (by decide)) (by decide) (ptv qa) (ptv qb) (ptv qc) hKa hKb hKc (by decide) (by decide)) (yz rfl zeroQ fun b16 => yt rfl rfl rfl (st_5_0_5 _ _ _ _ _ _ _ _ _ _) uu Tryz.sizeOf44 rfl nb rfl ?_)
      refine yn (zs (yD mixed_YtealgpgmbflilaaGreatDoor [0, 1, 2, 3, 4, 6, 7, 8, 9, 11, 12, 13, 14, 5, 10, 15, 16, 17, 18, 19, 20, 21, 22] (floatsOK_none (by kernel_rfl)) (yd rfl rfl mr Tryz.isAgg44 Tryz.sizeOf44 (rd_5_0_5 _ _ _ _ _) ?_)))
      refine yp rfl (.move rfl) (yp rfl (.move rfl) (yd rfl rfl mr Tryz.isAgg49 Tryz.sizeOf49 (rd_10_0_10 _ _ _ _ _ _ _ _ _ _) ?_))
      refine yd rfl rfl mr Tryz.isAgg49 Tryz.sizeOf49 (rd_10_0_10 _ _ _ _ _ _ _ _ _ _) ?_
      refine yp rfl (.move rfl) (yp rfl (.move rfl) (yd rfl rfl mr Tryz.isAgg49 Tryz.sizeOf49 (rd_10_0_10 _ _ _ _ _ _ _ _ _ _) ?_))
      refine yd rfl rfl mr Tryz.isAgg49 Tryz.sizeOf49 (rd_10_0_10 _ _ _ _ _ _ _ _ _ _) ?_
      refine yp rfl (.move rfl) (yp rfl (.move rfl) (yd rfl rfl mr Tryz.isAgg49 Tryz.sizeOf49 (rd_10_0_10 _ _ _ _ _ _ _ _ _ _) ?_))
      refine yd rfl rfl mr Tryz.isAgg49 Tryz.sizeOf49 (rd_10_0_10 _ _ _ _ _ _ _ _ _ _) ?_
      refine yw [_, _, _, _] rfl rfl Tryz.call24 (C_Flow G H _ _ _ _ 5 5 41 41 4 hgx hgy (by decide) (by decide) (ptv qa) (ptv qb) hKa hKb (by decide) (by decide) (by decide) (by decide)) (yw [_, _, _, _] rfl rfl Tryz.call24 (C_Flow G H _ _ _ _ 5 5 41 41 4 hgx hgy (by decide) (by decide) (ptv qb) (ptv qc) hKb hKc (by decide) (by decide) (by decide) (by decide)) (yw [_, _, _, _] rfl rfl Tryz.call24 (C_Flow G H _ _ _ _ 5 5 41 41 4 hgx hgy (by decide) (by decide) (ptv qc) (ptv qa) hKc hKa (by decide) (by decide) (by decide) (by decide)) ?_))
      refine head_buildRow hS rfl (by kernel_rfl) [(_, _), (_, _), (_, _)] rfl (bs_146_3_0_1_2 _ _ _ _ _ _ _ _ _ _ _ _ _ _ _) (cellsOf encQ [flowQ G H (ptv qa) (ptv qb), flowQ G H (ptv qb) (ptv qc), flowQ G H (ptv qc) (ptv qa)]) rfl (by decide) ?_; intro b61
      refine yw [_] rfl rfl Tryz.call36 (C_QSumK _ _ 1000000 [flowQ G H (ptv qa) (ptv qb), flowQ G H (ptv qb) (ptv qc), flowQ G H (ptv qc) (ptv qa)] (by simp) (by decide) (three_K (lenQ_flow hgx hgy (by decide) (by decide) hKa hKb (by decide) (by decide +kernel)) (lenQ_flow hgx hgy (by decide) (by decide) hKb hKc (by decide) (by decide +kernel)) (lenQ_flow hgx hgy (by decide) (by decide) hKc hKa (by decide) (by decide +kernel)))) (yp rfl (.binOp rfl rfl (fun _ => run_eqQ _ _ (triQ (norm (norm (dxL G) ++ norm (dyL H))) (ptv qa) (ptv qb) (ptv qc)) ([flowQ G H (ptv qa) (ptv qb), flowQ G H (ptv qb) (ptv qc), flowQ G H (ptv qc) (ptv qa)].foldl (· + ·) 0) _)) ?_)
      refine head_bool (fun hc63  => ?_) (fun hc63  => (by exfalso; exact absurd (gauss_law G H (ptv qa) (ptv qb) (ptv qc)) (of_decide_eq_false hc63)))
      refine yp rfl (.move rfl) ?_
      refine head_callVG rfl rfl rfl (by kernel_rfl) (vs := []) rfl Tryz.call15 (C_works9) (by decide) ?_
      refine yp rfl (.pickT rfl rfl) (yp rfl (.assign rfl) (yn (zt ?_))); intro a w h
      refine retV h (results1 h rfl (.tmp rfl)) ?_
      rfl
end Go.Proofs.YtealgpgmbflilaaGreatDoor
