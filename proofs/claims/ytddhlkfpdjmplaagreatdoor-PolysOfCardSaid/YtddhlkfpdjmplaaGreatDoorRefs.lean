/- Written by a program of ours (gen.py) out of short specifications. By an AI agent. -/
import Derived.Test.YtddhlkfpdjmplaaGreatDoorRefq
set_option linter.unusedVariables false
set_option linter.unusedSimpArgs false
set_option maxRecDepth 4000
namespace Go.Proofs.YtddhlkfpdjmplaaGreatDoor
open Go Go.Proofs Go.Fx
attribute [local irreducible] Oper.wp Code.wp wpList Fx.Head wpOp
theorem bd_105_0_1_2 (x0 : Int) (x1 : Int) (x2_0 : Value) (x2_1 : Value) (x2_2 : Value) (w : World) : (Instr.build 105 [(0, .int .i64 x0), (1, .int .i64 x1), (2, .agg #[x2_0, x2_1, x2_2])].toArray).run Tryz.prog w = .ok (.agg #[.int .i64 x0, .int .i64 x1, x2_0, x2_1, x2_2]) w := by simp [go_sem]
theorem bs_102_1_0 (x0_0 : Value) (x0_1 : Value) (x0_2 : Value) (x0_3 : Value) (x0_4 : Value) (w : World) : (Instr.buildSlice 102 1 [(0, .agg #[x0_0, x0_1, x0_2, x0_3, x0_4])].toArray).run Tryz.prog w = .ok (.slice (some ⟨w.heap.size, 0, none⟩) 1 1) (w.alloc (.cells #[x0_0, x0_1, x0_2, x0_3, x0_4] 105 (0, 0))) := by
  simp [go_sem]
def t3 (t : TF) : Int × Int × Rat := (t.i, t.j, t.f.x)
def tzB (d : Nat) (t : Ti) : Int × Int × Rat := (((brI d t : Nat) : Int), ((brJ d t : Nat) : Int), qv t.n t.d)
def tzI (t : Ti) : Int × Int × Rat := (t.i, t.j, qv t.n t.d)
def er3 (t : Int × Int × Rat) : Int := if t.1 < 0 ∨ t.2.1 < 0 then 1 else if t.1 > 12 ∨ t.2.1 > 12 ∨ t.1 + t.2.1 > 12 then 9 else 0
def erT : List (Int × Int × Rat) → Int
  | [] => 0
  | t :: l => if er3 t = 0 then erT l else er3 t
def tm3 (t : Int × Int × Rat) : Tm := ⟨t.1.toNat, t.2.1.toNat, t.2.2⟩
theorem erL_t3 : ∀ l : List TF, erL l = erT (l.map t3)
  | [] => rfl
  | t :: l => by rw [List.map_cons, erL, erT, erL_t3 l]; rfl
theorem tmF_t3 (l : List TF) : l.map tmF = (l.map t3).map tm3 := by rw [List.map_map]; rfl
def PostRef (T : List (Int × Int × Rat)) (v : Value) (Ψ : List SPred) : Prop := ∃ b lo, v = .tuple #[.slice (some ⟨b, 0, none⟩) 169 169, .int .i64 (erT T)] ∧ lo.length = 169 ∧ Eqv (pol (xs lo)) (if erT T = 0 then T.map tm3 else []) ∧ Ψ = [Row (some ⟨b, 0, none⟩) (cellsOf encF lo), AllF lo]
theorem ref_mem {W : List TF} {l : List Ti} {g : Ti → Int × Int × Rat} (h : W.map t3 = l.map g) {t : TF} (ht : t ∈ W) : ∃ s ∈ l, g s = t3 t := by
  have h1 : t3 t ∈ l.map g := by rw [← h]; exact List.mem_map_of_mem ht
  obtain ⟨s, hs, e⟩ := List.mem_map.1 h1
  exact ⟨s, hs, e⟩
theorem ref_K {W : List TF} {l : List Ti} {g : Ti → Int × Int × Rat} (h : W.map t3 = l.map g) (hok : ∀ t ∈ l, OkT t) (hg : ∀ s, (g s).2.2 = qv s.n s.d := by exact fun _ => rfl) : ∀ t ∈ W, lenQ t.f.x ≤ 4 := fun t ht => by
  obtain ⟨s, hs, e⟩ := ref_mem h ht
  have e2 : t.f.x = qv s.n s.d := by rw [← hg s, e]; rfl
  rw [e2]; exact lenQ_qvp (hok s hs).2.2
theorem ref_ij {W : List TF} {l : List Ti} {g : Ti → Int × Int × Rat} (h : W.map t3 = l.map g) (hg : ∀ s ∈ l, (-9223372036854775808 ≤ (g s).1 ∧ (g s).1 ≤ 9223372036854775807) ∧ (-9223372036854775808 ≤ (g s).2.1 ∧ (g s).2.1 ≤ 9223372036854775807)) : ∀ t ∈ W, OkIJ t := fun t ht => by
  obtain ⟨s, hs, e⟩ := ref_mem h ht
  have := hg s hs
  rw [e] at this; exact this
theorem okI_ij {t : Ti} (h : OkT t) : (-9223372036854775808 ≤ (tzI t).1 ∧ (tzI t).1 ≤ 9223372036854775807) ∧ (-9223372036854775808 ≤ (tzI t).2.1 ∧ (tzI t).2.1 ≤ 9223372036854775807) := ⟨h.1, h.2.1⟩
theorem C_RefI (l : List Ti) (ad : Option Addr) (c : Nat) (hok : ∀ t ∈ l, OkT t) (hn : l.length ≤ 1000) : Ctr Tryz.prog 9 [.slice ad l.length c] [Row ad (cellsOf encTi l)] (PostRef (l.map tzI)) := by
  refine fn_intro Tryz.func9 rfl Tryz.ntmps9 nb ?_
  intro S w0 a hS h
  refine gC h (zs (zr (za rfl (za rfl (zn (zs (zr (za rfl (zn (zs (zs (zr (za rfl (zn (zb ?_))))))))))))))); clear h; intro a w h
  replace h := h.derive (R := AllF (([] : List TF).map TF.f)) (fun X hX => AllF.nil X _)
  refine wp_loop_inv (fun (k : Nat) a w => k ≤ l.length ∧ ∃ (W : List TF) (ad1 : Option Addr) (c1 : Nat) (o1 : List (Nat × Obj)), (W.map t3 = (l.take k).map tzI ∧ GrowO 5 105 (.slice ad1 W.length c1) W.length (cellsOf encTF W) o1) ∧ St 36 S w0 [(0, .slice ad l.length c), (2, .slice none 0 0), (3, .int .i64 0), (4, (.slice ad1 W.length c1)), (5, .int .i64 ((k : Nat) : Int))] (o1 ++ []) [AllF (W.map TF.f), Row ad (cellsOf encTi l)] a w) (fun k => l.length - k) 0 (⟨Nat.zero_le _, [], none, 0, [], ⟨rfl, GrowO.nil _ _⟩, by exact (h.factsSub (by simp)).sub (subL ⟨rfl, rfl, rfl, rfl, rfl, trivial⟩)⟩) ?_; clear h
  rintro k a w ⟨hi_k, W, ad1, c1, o1, ⟨hW, hG1⟩, h⟩
  refine gC h (zs (zs (zr (zm rfl (zm rfl (zp (.builtin [_] rfl (len_slice_22 _ _ _)) (zp (.lss rfl rfl) (zn ?_)))))))); clear h; intro a w h
  change Code.wp _ _ _ _ _
  refine cond_split h rfl (fun hc9 => ?_) (fun hc9 => ?_)
  · skip
    have hlt_k : k < l.length := by have := of_decide_eq_true hc9; omega
    obtain ⟨B_ad, O_ad, rfl⟩ := h.row_addr (ad := ad) (M := cellsOf encTi l) mm (by intro e; have := congrArg List.length e; rw [cellsOf_length (k := 4) (fun _ => rfl)] at this; simp only [List.length_nil, Nat.mul_eq_zero] at this; omega)
    obtain ⟨_, _, hqa, hqb, hqc, hqd⟩ := hok _ (getD_mem l (d := Ti0) hlt_k)
    have hlk : W.length = k := by have h5 := congrArg List.length hW; rwa [List.length_map, List.length_map, List.length_take, Nat.min_eq_left (by omega)] at h5
    refine gC h (zk (zs (zb (yD mixed_YtddhlkfpdjmplaaGreatDoor [0, 1, 2, 3, 4, 5, 6, 7, 8, 9, 10, 11, 12, 13, 14, 15, 16, 17, 18, 19, 20] (floatsOK_none (by kernel_rfl)) (yp rfl (.move rfl) (yp rfl (.move rfl) (yp rfl (.move rfl) (yp rfl (.indexAddr rfl rfl (ix_22 _ _ _ _ _ (by omega))) (yp rfl (Pure1.cast (v' := .pointer (some ⟨B_ad, O_ad + (k * 4 + 0), none⟩)) (.fieldAddr rfl (fa_78_0 _ _)) (by rw [Nat.add_assoc])) ?_))))))))); clear h
    refine head_loadRow rfl (by kernel_rfl) rfl mm (at_lt (k := 4) (enc := encTi) (fun _ => rfl) l k 0 (by omega) (by decide)) Tryz.isAgg3 Tryz.sizeOf3 (read_at (k := 4) (enc := encTi) (fun _ => rfl) l Ti0 k (by omega) false 1 0 _ (by decide) (by decide) rfl) (.inr rfl) (by decide) ?_
    refine yp rfl (.move rfl) (yp rfl (.move rfl) (yp rfl (.indexAddr rfl rfl (ix_22 _ _ _ _ _ (by omega))) (yp rfl (Pure1.cast (v' := .pointer (some ⟨B_ad, O_ad + (k * 4 + 1), none⟩)) (.fieldAddr rfl (fa_78_1 _ _)) (by rw [Nat.add_assoc])) ?_)))
    refine head_loadRow rfl (by kernel_rfl) rfl mm (at_lt (k := 4) (enc := encTi) (fun _ => rfl) l k 1 (by omega) (by decide)) Tryz.isAgg3 Tryz.sizeOf3 (read_at (k := 4) (enc := encTi) (fun _ => rfl) l Ti0 k (by omega) false 1 1 _ (by decide) (by decide) rfl) (.inr rfl) (by decide) ?_
    refine yp rfl (.move rfl) (yp rfl (.move rfl) (yp rfl (.indexAddr rfl rfl (ix_22 _ _ _ _ _ (by omega))) (yp rfl (Pure1.cast (v' := .pointer (some ⟨B_ad, O_ad + (k * 4 + 2), none⟩)) (.fieldAddr rfl (fa_78_2 _ _)) (by rw [Nat.add_assoc])) ?_)))
    refine head_loadRow rfl (by kernel_rfl) rfl mm (at_lt (k := 4) (enc := encTi) (fun _ => rfl) l k 2 (by omega) (by decide)) Tryz.isAgg25 Tryz.sizeOf25 (read_at (k := 4) (enc := encTi) (fun _ => rfl) l Ti0 k (by omega) true 2 2 _ (by decide) (by decide) rfl) (.inl rfl) (by decide) ?_
    refine yf [_] rfl rfl Tryz.call53 (C_qRef ((l.getD k Ti0).n) ((l.getD k Ti0).d) (by omega) (by omega) (by omega) (by omega)) ?_; rintro v28 Ψ28 ⟨ad28, c28, bd28, d28, rfl, hle28, hlf28, rfl⟩
    have hl28 := lenQ_qv ((l.getD k Ti0).n) ((l.getD k Ti0).d) (by omega) (by omega) (by omega) (by omega)
    refine yp rfl (.build [(_, _), (_, _), (_, _)] rfl (bd_105_0_1_2 _ _ _ _ _)) (yB rfl [(_, _)] rfl (bs_102_1_0 _ _ _ _ _) fun b30 => ?_)
    refine head_appendO (σr := []) rfl (by kernel_rfl) rfl rfl (List.Perm.trans (List.Perm.refl _) (List.Perm.cons _ (List.Perm.refl _))) hG1 Tryz.runUnderlying102 Tryz.runUnderlying102 Tryz.typeInfo105 Tryz.sizeOf105 Tryz.zeroValue105 rfl (by decide) (by decide) rfl rfl (by decide) (by show 72 * (2 * ((W).length + 1) + 192) ≤ 281474976710656; omega) (by decide) ?_
    intro v31 o31 hG31
    obtain ⟨ad31, c31, rfl⟩ := hG31.is
    have hLn31 : (W).length + 1 = (W ++ [TF.mk ((l.getD k Ti0).i) ((l.getD k Ti0).j) (FT.mk (qv ((l.getD k Ti0).n) ((l.getD k Ti0).d)) ad28 c28 bd28 d28 hle28 hlf28)]).length := by simp only [List.length_append, List.length_cons, List.length_nil, Nat.zero_add]
    rw [hLn31]; rw [hLn31] at hG31
    replace hG31 : GrowO 5 105 (.slice ad31 (W ++ [TF.mk ((l.getD k Ti0).i) ((l.getD k Ti0).j) (FT.mk (qv ((l.getD k Ti0).n) ((l.getD k Ti0).d)) ad28 c28 bd28 d28 hle28 hlf28)]).length c31) (W ++ [TF.mk ((l.getD k Ti0).i) ((l.getD k Ti0).j) (FT.mk (qv ((l.getD k Ti0).n) ((l.getD k Ti0).d)) ad28 c28 bd28 d28 hle28 hlf28)]).length (cellsOf encTF (W ++ [TF.mk ((l.getD k Ti0).i) ((l.getD k Ti0).j) (FT.mk (qv ((l.getD k Ti0).n) ((l.getD k Ti0).d)) ad28 c28 bd28 d28 hle28 hlf28)])) o31 := by rw [cellsOf_append, cellsOf_one]; exact hG31
    refine yp rfl (.assign rfl) (yn (zr (zm rfl (zp (Pure1.cast (v' := (.int .i64 ((k + 1 : Nat) : Int))) (.add rfl rfl) (by show Value.int _ _ = Value.int _ _; congr 1)) (za rfl (zn ?_)))))); intro a w h
    replace h := h.derive (R := AllF ((W ++ [TF.mk ((l.getD k Ti0).i) ((l.getD k Ti0).j) (FT.mk (qv ((l.getD k Ti0).n) ((l.getD k Ti0).d)) ad28 c28 bd28 d28 hle28 hlf28)]).map TF.f)) (fun X hX => by rw [List.map_append]; exact AllF.snoc (hX _ mm) (hX _ mm) (hX _ mm))
    have hW2 : (W ++ [TF.mk ((l.getD k Ti0).i) ((l.getD k Ti0).j) (FT.mk (qv ((l.getD k Ti0).n) ((l.getD k Ti0).d)) ad28 c28 bd28 d28 hle28 hlf28)]).map t3 = (l.take (k + 1)).map tzI := by rw [List.map_append, hW, takeTi_snoc l hlt_k, List.map_append]; rfl
    exact ⟨k + 1, ⟨by omega, W ++ [TF.mk ((l.getD k Ti0).i) ((l.getD k Ti0).j) (FT.mk (qv ((l.getD k Ti0).n) ((l.getD k Ti0).d)) ad28 c28 bd28 d28 hle28 hlf28)], ad31, c31, o31, ⟨hW2, hG31⟩, by exact (h.factsSub (by simp)).sub sA⟩, by omega⟩
  · skip
    have heq_k : l.length = k := by have := of_decide_eq_false hc9; omega
    subst heq_k
    rw [List.take_length] at hW
    have hWA := hW
    have hlk : W.length = l.length := by have h5 := congrArg List.length hW; rwa [List.length_map, List.length_map] at h5
    replace h := St.shareO' h hS hG1
    refine gC h (ze (zs (zr (zm rfl (zf [_] rfl Tryz.call54 (C_tOf W ad1 c1 4 (by omega) (ref_K hWA hok) (by decide) (ref_ij hWA (fun t ht => okI_ij (hok t ht)))) ?_))))); clear h; rintro v33 Ψ33 ⟨b33, l33, rfl, hn33, he33, rfl⟩ a w h
    refine gL h (zp (.extract rfl (fun _ => rfl)) (zp (.extract rfl (fun _ => rfl)) (za rfl (za rfl (zn (zt ?_)))))); clear h; intro a w h
    exact ret_of (Ψ := [Row (some ⟨b33, 0, none⟩) (cellsOf encF l33), AllF l33]) h (results2 h rfl (.tmp rfl) (.tmp rfl)) ⟨b33, l33, by rw [erL_t3, hWA]; rfl, hn33, by rw [erL_t3, tmF_t3, hWA] at he33; exact he33, rfl⟩ (by simp)
end Go.Proofs.YtddhlkfpdjmplaaGreatDoor
