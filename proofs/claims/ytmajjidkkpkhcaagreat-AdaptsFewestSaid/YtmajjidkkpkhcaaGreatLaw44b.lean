/- Written by a program of ours (gen.py) out of short specifications. By an AI agent. -/
import Derived.Test.YtmajjidkkpkhcaaGreatLaw44a
import Derived.Test.YtmajjidkkpkhcaaGreatFxZ
set_option linter.unusedVariables false
set_option linter.unusedSimpArgs false
set_option maxRecDepth 4000
namespace Go.Proofs.YtmajjidkkpkhcaaGreat
open Go Go.Proofs Go.Fx
attribute [local irreducible] Oper.wp Code.wp wpList Fx.Head wpOp
theorem len_slice_27 (a : Option Addr) (n c : Nat) (w : World) (ty : TypeId) (cs : Array Bool) : (Go.builtin .len #[27] ty cs #[.slice a n c]).run Tryz.prog w = .ok (.value (.int .i64 n)) w := by
  simp [go_sem]
theorem bs_28_1_0 (x0 : Int) (w : World) : (Instr.buildSlice 28 1 [(0, .int .i64 x0)].toArray).run Tryz.prog w = .ok (.slice (some ⟨w.heap.size, 0, none⟩) 1 1) (w.alloc (.cells #[.int .i64 x0] 3 (0, 0))) := by
  simp [go_sem]
def sumI (L : List FT) (i : Nat) : Rat := sumL ((L.take i).map FT.x)
def sumX (L : List FT) (l : List Nat) : Rat := l.foldl (fun s m => s + (L.getD m FT0).x) 0
def hvI (L : List FT) (q k : Nat) : Rat := sumX L ((List.range k).filter (fun m => befF L m q))
def rfL (L : List FT) (T : Rat) (n q : Nat) : List Nat := (List.range q).filter (fun i => decide ((hvI L i n - T).num.sign < 0))
theorem sumI_succ (L : List FT) {i : Nat} (h : i < L.length) : sumI L i + (L.getD i FT0).x = sumI L (i + 1) := by
  unfold sumI sumL
  rw [List.take_add_one, List.map_append, List.foldl_append]
  simp [List.getD, h]
theorem hvI_yes {L : List FT} {q k : Nat} (h : befF L k q = true) : hvI L q k + (L.getD k FT0).x = hvI L q (k + 1) := by
  unfold hvI sumX
  rw [List.range_succ, List.filter_append, List.foldl_append]; simp [h]
theorem hvI_no {L : List FT} {q k : Nat} (h : befF L k q = false) : hvI L q (k + 1) = hvI L q k := by
  unfold hvI sumX
  rw [List.range_succ, List.filter_append, List.foldl_append]; simp [h]
theorem rfL_yes {L : List FT} {T : Rat} {n q : Nat} (h : decide ((hvI L q n - T).num.sign < 0) = true) : rfL L T n q ++ [q] = rfL L T n (q + 1) := by
  unfold rfL
  rw [List.range_succ, List.filter_append]; simp only [List.filter_cons, h, if_true, List.filter_nil]
theorem rfL_no {L : List FT} {T : Rat} {n q : Nat} (h : decide ((hvI L q n - T).num.sign < 0) = false) : rfL L T n (q + 1) = rfL L T n q := by
  unfold rfL
  rw [List.range_succ, List.filter_append]; simp only [List.filter_cons, h, Bool.false_eq_true, if_false, List.filter_nil, List.append_nil]
theorem rfL_zero (L : List FT) (T : Rat) (n : Nat) : rfL L T n 0 = [] := rfl
theorem rfL_len (L : List FT) (T : Rat) (n q : Nat) : (rfL L T n q).length ≤ q := by
  unfold rfL; have := List.length_filter_le (fun i => decide ((hvI L i n - T).num.sign < 0)) (List.range q); rwa [List.length_range] at this
theorem lenQ_sumI {L : List FT} (h : ∀ e ∈ L, lenQ e.x ≤ 1000) (i : Nat) : lenQ (sumI L i) ≤ 2 + 1001 * L.length := by
  have h1 := lenQ_sumL (E := (L.take i).map FT.x) (fun x hx => by
    obtain ⟨e, he, rfl⟩ := List.mem_map.1 hx
    exact h e (List.mem_of_mem_take he))
  rw [List.length_map, List.length_take] at h1
  unfold sumI; omega
theorem lenQ_getX {L : List FT} (h : ∀ e ∈ L, lenQ e.x ≤ 1000) (m : Nat) : lenQ (L.getD m FT0).x ≤ 1000 := by
  rcases Nat.lt_or_ge m L.length with h1 | h1
  · exact h _ (getD_mem L h1)
  · rw [List.getD, List.getElem?_eq_none h1]
    have := lenQ_zero
    show lenQ (0 : Rat) ≤ 1000
    omega
theorem lenQ_sumX {L : List FT} (h : ∀ e ∈ L, lenQ e.x ≤ 1000) : ∀ (l : List Nat) (s : Rat), lenQ (l.foldl (fun s m => s + (L.getD m FT0).x) s) ≤ lenQ s + 1001 * l.length
  | [], s => by simp
  | m :: l, s => by
    have h1 := lenQ_sumX h l (s + (L.getD m FT0).x)
    have h2 := lenQ_add s (L.getD m FT0).x
    have h3 := lenQ_getX h m
    rw [List.foldl_cons, List.length_cons]; omega
theorem lenQ_hvI {L : List FT} (h : ∀ e ∈ L, lenQ e.x ≤ 1000) (q k : Nat) : lenQ (hvI L q k) ≤ 2 + 1001 * k := by
  have h1 := lenQ_sumX h ((List.range k).filter (fun m => befF L m q)) 0
  have h2 := List.length_filter_le (fun m => befF L m q) (List.range k)
  have h3 := lenQ_zero
  rw [List.length_range] at h2
  unfold hvI sumX; omega
theorem getX (L : List FT) (m : Nat) : (List.map FT.x L).getD m 0 = (L.getD m FT0).x := by
  rw [List.getD, List.getD, List.getElem?_map]; cases L[m]? <;> rfl
theorem bef_lt (L : List FT) (i k : Nat) : befF L i k = ltN (List.map FT.x L) i k := by
  rw [Bool.eq_iff_iff, ltN_iff, getX, getX]
  unfold befF
  rw [Bool.or_eq_true, Bool.and_eq_true, decide_eq_true_iff, decide_eq_true_iff, beq_iff_eq, sgs_pos, sgs_zero]
  constructor
  · rintro (h | ⟨h1, h2⟩)
    · exact .inl h
    · exact .inr ⟨h1.symm, by omega⟩
  · rintro (h | ⟨h1, h2⟩)
    · exact .inl h
    · exact .inr ⟨h1.symm, by omega⟩
theorem hv_eq (L : List FT) (i : Nat) : hvI L i L.length = havN (List.map FT.x L) i := by
  unfold hvI havN sumX sumF
  rw [List.length_map]
  simp only [bef_lt, getX]
theorem sumI_all (L : List FT) : sumI L L.length = sumL (List.map FT.x L) := by unfold sumI; rw [List.take_length]
theorem rf_eq (L : List FT) (x : Rat) : rfL L (x * sumI L L.length) L.length L.length = refL (List.map FT.x L) x := by
  unfold rfL refL
  rw [List.length_map, sumI_all]
  refine List.filter_congr (fun i _ => ?_)
  rw [hv_eq]
  exact decide_eq_decide.2 (sgs_neg _ _)
def PostRM (L : List FT) (x : Rat) (v : Value) (Ψ : List SPred) : Prop := ∃ ad c, v = .tuple #[.slice ad (markR (List.map FT.x L) x).length c, .int .i64 (markE (List.map FT.x L) x)] ∧ Ψ = [Row ad (List.map encn (markR (List.map FT.x L) x))]
theorem PostRM.err {L : List FT} {x : Rat} (h : (validQ x && !(List.map FT.x L).any (fun x : Rat => decide (x.num.sign < 0))) = false) : PostRM L x (.tuple #[.slice none 0 0, .int .i64 1]) [Row none []] := by
  have e1 : markE (List.map FT.x L) x = 1 := by unfold markE; rw [h]; rfl
  have e2 : markR (List.map FT.x L) x = [] := by unfold markR; rw [e1]; rfl
  exact ⟨none, 0, by rw [e2, e1]; rfl, by rw [e2]; rfl⟩
theorem PostRM.neg {L : List FT} {x : Rat} {i : Nat} (hi : i < L.length) (h : (L.getD i FT0).x.num.sign < 0) : PostRM L x (.tuple #[.slice none 0 0, .int .i64 1]) [Row none []] := by
  refine PostRM.err ?_
  have : (List.map FT.x L).any (fun x : Rat => decide (x.num.sign < 0)) = true := List.any_eq_true.2 ⟨_, List.mem_map_of_mem (f := FT.x) (getD_mem L (d := FT0) hi), decide_eq_true h⟩
  rw [this]; simp
theorem PostRM.ok {L : List FT} {x : Rat} {ad : Option Addr} {c : Nat} (h1 : validQ x = true) (h2 : ∀ j, j < L.length → ¬ (L.getD j FT0).x.num.sign < 0) :
    PostRM L x (.tuple #[.slice ad (rfL L (x * sumI L L.length) L.length L.length).length c, .int .i64 0]) [Row ad (List.map encn (rfL L (x * sumI L L.length) L.length L.length))] := by
  have h3 : (List.map FT.x L).any (fun x : Rat => decide (x.num.sign < 0)) = false := by
    rw [List.any_eq_false]
    intro y hy
    obtain ⟨e, he, rfl⟩ := List.mem_map.1 hy
    obtain ⟨j, hj, rfl⟩ := List.mem_iff_getElem.1 he
    have := h2 j hj
    rw [List.getD, List.getElem?_eq_getElem hj] at this
    simpa using this
  have e1 : markE (List.map FT.x L) x = 0 := by unfold markE; rw [h1, h3]; rfl
  have e2 : markR (List.map FT.x L) x = refL (List.map FT.x L) x := by unfold markR; rw [if_pos e1]
  exact ⟨ad, c, by rw [e2, e1, rf_eq], by rw [e2, rf_eq]⟩
theorem valid_of {x : Rat} (h1 : decide (x.num.sign < 0) = false) (h2 : decide ((x - ((1 : Int) : Rat)).num.sign > 0) = false) : validQ x = true := by
  have h3 := of_decide_eq_false h1
  have h4 := of_decide_eq_false h2
  unfold validQ
  rw [decide_eq_true (by omega), decide_eq_true (by omega)]; rfl
theorem invalid_lo {x : Rat} (h1 : decide (x.num.sign < 0) = true) : validQ x = false := by
  have h3 := of_decide_eq_true h1
  unfold validQ
  rw [decide_eq_false (by omega)]; rfl
theorem invalid_hi {x : Rat} (h1 : decide ((x - ((1 : Int) : Rat)).num.sign > 0) = true) : validQ x = false := by
  have h3 := of_decide_eq_true h1
  unfold validQ
  rw [decide_eq_false (p := (x - ((1 : Int) : Rat)).num.sign ≤ 0) (by omega), Bool.and_false]

theorem C_rMark (L : List FT) (ad : Option Addr) (c : Nat) (x : Rat) (xa : Option Addr) (xc : Nat) (xb : Option Addr) (xd : Nat) (hL : ∀ e ∈ L, lenQ e.x ≤ 1000) (hx : lenQ x ≤ 1000) (hn : L.length ≤ 1000) :
    Ctr Tryz.prog 10 [.slice ad L.length c, fV x xa xc xb xd] [Row ad (cellsOf encF L), AllF L, Row xa (List.map encn (dg x.num.natAbs)), Row xb (List.map encn (dg (x.den - 1)))] (PostRM L x) := by
  refine fn_intro Tryz.func10 rfl Tryz.ntmps10 nb ?_
  intro S w0 a hS h
  refine gC h (zs (zr (zx rfl fun b3 => za rfl (za rfl (zn (zs (zs (yD mixed_YtmajjidkkpkhcaaGreat [0, 1, 2, 3, 4, 5, 6, 7, 8] (floatsOK_none (by kernel_rfl)) (yd rfl rfl mr Tryz.isAgg33 Tryz.sizeOf33 (rd_3_0_3 _ _ _) ?_))))))))); clear h
  refine yv [_] rfl rfl Tryz.call32 (C_fSign x _ _ _ _) (yp rfl (.lss rfl rfl) ?_)
  refine head_bool (fun hc14  => ?_) (fun hc14  => ?_)
  · skip
    refine yp rfl (.move rfl) (yo 15 rfl rfl rfl rfl (yo 15 rfl rfl rfl rfl (yo 15 rfl rfl rfl rfl (yo 15 rfl rfl rfl rfl (yp rfl (.pickT rfl rfl) (yn ?_)))))); intro a w h
    change Code.wp _ _ _ _ _
    refine cond_true h rfl ?_
    refine gC h (zs (zr (za rfl (za rfl (zn (zt ?_)))))); clear h; intro a w h
    replace h := h.derive (R := Row none []) (fun X hX hne => absurd rfl hne)
    exact ret_of (Ψ := [Row none []]) h (results2 h rfl (.tmp rfl) (.tmp rfl)) (PostRM.err (by rw [invalid_lo hc14]; rfl)) (by simp)
  · skip
    refine yp rfl (.move rfl) (yg rfl rfl rfl rfl mr Tryz.isAgg33 Tryz.sizeOf33 (rd_3_0_3 _ _ _) ?_)
    refine head_callG rfl rfl rfl (by kernel_rfl) (vs := [_]) rfl Tryz.call34 (C_fInt 1 (by omega) (by omega)) (by simp) (by decide) ?_; rintro v17 Ψ17 ⟨ad17, c17, bd17, d17, rfl, hle17, hlf17, rfl⟩
    have hl17 := lenQ_int 1 (by omega) (by omega)
    refine head_callWG rfl rfl rfl (by kernel_rfl) (vs := [_, _]) rfl Tryz.call33 (C_fCmp _ _ _ _ _ _ _ _ x (((1 : Int) : Rat)) (by omega) (by omega)) (by simp) (by decide) ?_
    refine yq rfl rfl rfl (.gtr rfl rfl) ?_
    refine head_bool (fun hc19  => ?_) (fun hc19  => ?_)
    · skip
      refine yp rfl (.pickF rfl rfl) (yn ?_); intro a w h
      change Code.wp _ _ _ _ _
      refine cond_true h rfl ?_
      refine gC h (zs (zr (za rfl (za rfl (zn (zt ?_)))))); clear h; intro a w h
      replace h := h.derive (R := Row none []) (fun X hX hne => absurd rfl hne)
      exact ret_of (Ψ := [Row none []]) h (results2 h rfl (.tmp rfl) (.tmp rfl)) (PostRM.err (by rw [invalid_hi hc19]; rfl)) (by simp)
    · skip
      refine yp rfl (.pickF rfl rfl) (yn ?_); intro a w h
      change Code.wp _ _ _ _ _
      refine cond_false h rfl ?_
      refine gC h (zk (zs (zr (zf [_] rfl Tryz.call34 (C_fInt 0 (by omega) (by omega)) ?_)))); clear h; rintro v21 Ψ21 ⟨ad21, c21, bd21, d21, rfl, hle21, hlf21, rfl⟩ a w h
      have hl21 := lenQ_int 0 (by omega) (by omega)
      refine gL h (zz zeroF fun b6 => zt' rfl rfl (st_3_0_3 _ _ _ _ _ _) uu Tryz.sizeOf33 rfl nb rfl ?_); clear h; intro a w h
      refine gL h (zn (zs (zs (zr (za rfl (zn (zb ?_))))))); clear h; intro a w h
      rw [show ((0 : Int) : Rat) = sumI L 0 from rfl] at h hle21 hlf21
      refine wp_loop_inv (fun (i : Nat) a w => i ≤ L.length ∧ ∃ p1 p2 p3 p4, (((dg (sumI L i).num.natAbs).length ≤ p2 ∧ (dg ((sumI L i).den - 1)).length ≤ p4) ∧ ∀ j, j < i → ¬ (L.getD j FT0).x.num.sign < 0) ∧ St 74 S w0 [(0, .slice ad L.length c), (3, .pointer (some ⟨b3, 0, none⟩)), (6, .pointer (some ⟨b6, 0, none⟩)), (7, .int .i64 ((i : Nat) : Int))] [(b6, .cells (Value.cells (.agg #[.bool (decide ((sumI L i).num < 0)), .slice p1 (dg (sumI L i).num.natAbs).length p2, .slice p3 (dg ((sumI L i).den - 1)).length p4])) 33 (0, 0)), (b3, .cells (Value.cells (.agg #[.bool (decide (x.num < 0)), .slice xa (dg x.num.natAbs).length xc, .slice xb (dg (x.den - 1)).length xd])) 33 (0, 0))] [Row p1 (List.map encn (dg (sumI L i).num.natAbs)), Row p3 (List.map encn (dg ((sumI L i).den - 1))), Row ad (cellsOf encF L), AllF L, Row xa (List.map encn (dg x.num.natAbs)), Row xb (List.map encn (dg (x.den - 1)))] a w) (fun i => L.length - i) 0 (⟨Nat.zero_le _, ad21, c21, bd21, d21, ⟨⟨hle21, hlf21⟩, fun j hj => absurd hj (by omega)⟩, by exact (h.factsSub (by simp)).sub (subL ⟨rfl, rfl, rfl, rfl, trivial⟩)⟩) ?_; clear h
      rintro i a w ⟨hi_i, p1, p2, p3, p4, ⟨⟨hp2, hp4⟩, hnn⟩, h⟩
      refine gC h (zs (zs (zr (zm rfl (zm rfl (zp (.builtin [_] rfl (len_slice_27 _ _ _)) (zp (.lss rfl rfl) (zn ?_)))))))); clear h; intro a w h
      change Code.wp _ _ _ _ _
      refine cond_split h rfl (fun hc25 => ?_) (fun hc25 => ?_)
      · skip
        have hlt_i : i < L.length := by have := of_decide_eq_true hc25; omega
        obtain ⟨B_ad, O_ad, rfl⟩ := h.row_addr (ad := ad) (M := cellsOf encF L) mm (by intro e; have := congrArg List.length e; rw [cellsOf_length (k := 3) (fun _ => rfl)] at this; simp only [List.length_nil, Nat.mul_eq_zero] at this; omega)
        have hei : L.getD i FT0 ∈ L := getD_mem _ hlt_i
        have hli := hL _ hei
        have hsi := lenQ_sumI hL i
        replace h := h.derive (R := Row (L.getD i FT0).a2 (List.map encn (dg ((L.getD i FT0).x.den - 1)))) (fun X hX => AllF.get2 (hX _ mm) hei)
        replace h := h.derive (R := Row (L.getD i FT0).a1 (List.map encn (dg (L.getD i FT0).x.num.natAbs))) (fun X hX => AllF.get1 (hX _ mm) hei)
        refine gC h (zk (zs (zb (zs (zs (zr (zm rfl (zm rfl (zp (.indexAddr rfl rfl (ix_27 _ _ _ _ _ (by omega))) (zD rfl mm (cells_lt (k := 3) (by decide) (fun _ => rfl) L i (by omega)) Tryz.isAgg33 Tryz.sizeOf33 (read_cells (k := 3) (fun _ => rfl) ((fun _ => rfl)) L FT0 i (by omega)) (.inl rfl) ?_)))))))))); clear h; intro a w h
        refine gL h (zv [_] rfl Tryz.call32 (C_fSign ((L.getD i FT0).x) _ _ _ _) (zp (.lss rfl rfl) (zn ?_))); clear h; intro a w h
        change Code.wp _ _ _ _ _
        refine cond_split h rfl (fun hc33 => ?_) (fun hc33 => ?_)
        · skip
          refine gC h (zs (zr (za rfl (za rfl (zn (zt ?_)))))); clear h; intro a w h
          replace h := h.derive (R := Row none []) (fun X hX hne => absurd rfl hne)
          exact ret_of (Ψ := [Row none []]) h (results2 h rfl (.tmp rfl) (.tmp rfl)) (PostRM.neg hlt_i (of_decide_eq_true hc33)) (by simp)
        · skip
          refine gC h (zk (yD mixed_YtmajjidkkpkhcaaGreat [0, 1, 2, 3, 4, 5, 6] (floatsOK_none (by kernel_rfl)) (yd rfl rfl mr Tryz.isAgg33 Tryz.sizeOf33 (rd_3_0_3 _ _ _) ?_))); clear h
          refine yp rfl (.move rfl) (yp rfl (.move rfl) (yp rfl (.indexAddr rfl rfl (ix_27 _ _ _ _ _ (by omega))) ?_))
          refine head_loadRow rfl (by kernel_rfl) rfl mm (cells_lt (k := 3) (by decide) (fun _ => rfl) L i (by omega)) Tryz.isAgg33 Tryz.sizeOf33 (read_cells (k := 3) (fun _ => rfl) ((fun _ => rfl)) L FT0 i (by omega)) (.inl rfl) (by decide) ?_
          refine yf [_, _] rfl rfl Tryz.call35 (C_fAdd _ _ _ _ _ _ _ _ (sumI L i) ((L.getD i FT0).x) (by omega) (by omega)) ?_; rintro v39 Ψ39 ⟨ad39, c39, bd39, d39, rfl, hle39, hlf39, rfl⟩
          have hl39 := lenQ_add (sumI L i) ((L.getD i FT0).x)
          refine yt rfl rfl rfl (st_3_0_3 _ _ _ _ _ _) uu Tryz.sizeOf33 rfl nb rfl ?_
          refine yn (zr (zm rfl (zp (Pure1.cast (v' := (.int .i64 ((i + 1 : Nat) : Int))) (.add rfl rfl) (by show Value.int _ _ = Value.int _ _; congr 1)) (za rfl (zn ?_))))); intro a w h
          rw [sumI_succ L hlt_i] at h hle39 hlf39
          exact ⟨i + 1, ⟨by omega, ad39, c39, bd39, d39, ⟨⟨hle39, hlf39⟩, fun j hj => by
            rcases Nat.lt_or_ge j i with h1 | h1
            · exact hnn j h1
            · rw [show j = i by omega]; exact of_decide_eq_false hc33⟩, by exact (h.factsSub (by simp)).sub sA⟩, by omega⟩
      · skip
        have heq_i : L.length = i := by have := of_decide_eq_false hc25; omega
        subst heq_i
        have hsn := lenQ_sumI hL L.length
        refine gC h (ze (zs (zr (za rfl (zn (zs (zs (zr (za rfl (zn (zb ?_))))))))))); clear h; intro a w h
        refine wp_loop_inv (fun (q : Nat) a w => q ≤ L.length ∧ ∃ (ad1 : Option Addr) (c1 : Nat) (o1 : List (Nat × Obj)), (GrowO 1 3 (.slice ad1 (rfL L (x * sumI L L.length) L.length q).length c1) (rfL L (x * sumI L L.length) L.length q).length (List.map encn (rfL L (x * sumI L L.length) L.length q)) o1) ∧ St 74 S w0 [(0, .slice ad L.length c), (3, .pointer (some ⟨b3, 0, none⟩)), (6, .pointer (some ⟨b6, 0, none⟩)), (7, .int .i64 ((L.length : Nat) : Int)), (8, (.slice ad1 (rfL L (x * sumI L L.length) L.length q).length c1)), (9, .int .i64 ((q : Nat) : Int))] (o1 ++ ((b6, .cells (Value.cells (.agg #[.bool (decide ((sumI L L.length).num < 0)), .slice p1 (dg (sumI L L.length).num.natAbs).length p2, .slice p3 (dg ((sumI L L.length).den - 1)).length p4])) 33 (0, 0)) :: ((b3, .cells (Value.cells (.agg #[.bool (decide (x.num < 0)), .slice xa (dg x.num.natAbs).length xc, .slice xb (dg (x.den - 1)).length xd])) 33 (0, 0)) :: []))) [Row p1 (List.map encn (dg (sumI L L.length).num.natAbs)), Row p3 (List.map encn (dg ((sumI L L.length).den - 1))), Row ad (cellsOf encF L), AllF L, Row xa (List.map encn (dg x.num.natAbs)), Row xb (List.map encn (dg (x.den - 1)))] a w) (fun q => L.length - q) 0 (⟨Nat.zero_le _, none, 0, [], by rw [rfL_zero]; exact GrowO.nil _ _, by rw [rfL_zero]; exact (h.factsSub (by simp)).sub (subL ⟨rfl, rfl, rfl, rfl, rfl, rfl, trivial⟩)⟩) ?_; clear h
        rintro q a w ⟨hi_q, ad1, c1, o1, hG1, h⟩
        refine gC h (zs (zs (zr (zm rfl (zm rfl (zp (.builtin [_] rfl (len_slice_27 _ _ _)) (zp (.lss rfl rfl) (zn ?_)))))))); clear h; intro a w h
        change Code.wp _ _ _ _ _
        refine cond_split h rfl (fun hc43 => ?_) (fun hc43 => ?_)
        · skip
          have hlt_q : q < L.length := by have := of_decide_eq_true hc43; omega
          obtain ⟨B_ad, O_ad, rfl⟩ := h.row_addr (ad := ad) (M := cellsOf encF L) mm (by intro e; have := congrArg List.length e; rw [cellsOf_length (k := 3) (fun _ => rfl)] at this; simp only [List.length_nil, Nat.mul_eq_zero] at this; omega)
          have hrl := rfL_len L (x * sumI L L.length) L.length q
          refine gC h (zk (zs (zb (zs (zr (zf [_] rfl Tryz.call34 (C_fInt 0 (by omega) (by omega)) ?_)))))); clear h; rintro v46 Ψ46 ⟨ad46, c46, bd46, d46, rfl, hle46, hlf46, rfl⟩ a w h
          have hl46 := lenQ_int 0 (by omega) (by omega)
          refine gL h (zz zeroF fun b10 => zt' rfl rfl (st_3_0_3 _ _ _ _ _ _) uu Tryz.sizeOf33 rfl nb rfl ?_); clear h; intro a w h
          refine gL h (zn (zs (zs (zr (za rfl (zn (zb ?_))))))); clear h; intro a w h
          rw [show ((0 : Int) : Rat) = hvI L q 0 from rfl] at h hle46 hlf46
          refine wp_loop_inv (fun (k : Nat) a w => k ≤ L.length ∧ ∃ r1 r2 r3 r4, ((dg (hvI L q k).num.natAbs).length ≤ r2 ∧ (dg ((hvI L q k).den - 1)).length ≤ r4) ∧ St 74 S w0 [(0, .slice (some ⟨B_ad, O_ad, none⟩) L.length c), (3, .pointer (some ⟨b3, 0, none⟩)), (6, .pointer (some ⟨b6, 0, none⟩)), (7, .int .i64 ((L.length : Nat) : Int)), (8, (.slice ad1 (rfL L (x * sumI L L.length) L.length q).length c1)), (9, .int .i64 ((q : Nat) : Int)), (10, .pointer (some ⟨b10, 0, none⟩)), (11, .int .i64 ((k : Nat) : Int))] ((b10, .cells (Value.cells (.agg #[.bool (decide ((hvI L q k).num < 0)), .slice r1 (dg (hvI L q k).num.natAbs).length r2, .slice r3 (dg ((hvI L q k).den - 1)).length r4])) 33 (0, 0)) :: (o1 ++ ((b6, .cells (Value.cells (.agg #[.bool (decide ((sumI L L.length).num < 0)), .slice p1 (dg (sumI L L.length).num.natAbs).length p2, .slice p3 (dg ((sumI L L.length).den - 1)).length p4])) 33 (0, 0)) :: ((b3, .cells (Value.cells (.agg #[.bool (decide (x.num < 0)), .slice xa (dg x.num.natAbs).length xc, .slice xb (dg (x.den - 1)).length xd])) 33 (0, 0)) :: [])))) [Row r1 (List.map encn (dg (hvI L q k).num.natAbs)), Row r3 (List.map encn (dg ((hvI L q k).den - 1))), Row p1 (List.map encn (dg (sumI L L.length).num.natAbs)), Row p3 (List.map encn (dg ((sumI L L.length).den - 1))), Row (some ⟨B_ad, O_ad, none⟩) (cellsOf encF L), AllF L, Row xa (List.map encn (dg x.num.natAbs)), Row xb (List.map encn (dg (x.den - 1)))] a w) (fun k => L.length - k) 0 (⟨Nat.zero_le _, ad46, c46, bd46, d46, ⟨hle46, hlf46⟩, by exact (h.factsSub (by simp)).sub (subL ⟨rfl, rfl, rfl, rfl, rfl, rfl, rfl, rfl, trivial⟩)⟩) ?_; clear h
          rintro k a w ⟨hi_k, r1, r2, r3, r4, ⟨hr2, hr4⟩, h⟩
          refine gC h (zs (zs (zr (zm rfl (zm rfl (zp (.builtin [_] rfl (len_slice_27 _ _ _)) (zp (.lss rfl rfl) (zn ?_)))))))); clear h; intro a w h
          change Code.wp _ _ _ _ _
          refine cond_split h rfl (fun hc50 => ?_) (fun hc50 => ?_)
          · skip
            have hlt_k : k < L.length := by have := of_decide_eq_true hc50; omega
            have hek : L.getD k FT0 ∈ L := getD_mem _ hlt_k
            have hlk := hL _ hek
            have hhk := lenQ_hvI hL q k
            replace h := h.derive (R := Row (L.getD k FT0).a2 (List.map encn (dg ((L.getD k FT0).x.den - 1)))) (fun X hX => AllF.get2 (hX _ mm) hek)
            replace h := h.derive (R := Row (L.getD k FT0).a1 (List.map encn (dg (L.getD k FT0).x.num.natAbs))) (fun X hX => AllF.get1 (hX _ mm) hek)
            refine gC h (zk (zs (zb (zs (zr (zm rfl (zm rfl (zm rfl (zw [_, _, _] rfl Tryz.call36 (C_before _ _ L k q (by omega) (by omega) (by assumption)) (zn ?_)))))))))); clear h; intro a w h
            change Code.wp _ _ _ _ _
            refine cond_split h rfl (fun hc56 => ?_) (fun hc56 => ?_)
            · skip
              refine gC h (yD mixed_YtmajjidkkpkhcaaGreat [0, 1, 2, 3, 4, 5, 6] (floatsOK_none (by kernel_rfl)) (yd rfl rfl mr Tryz.isAgg33 Tryz.sizeOf33 (rd_3_0_3 _ _ _) ?_)); clear h
              refine yp rfl (.move rfl) (yp rfl (.move rfl) (yp rfl (.indexAddr rfl rfl (ix_27 _ _ _ _ _ (by omega))) ?_))
              refine head_loadRow rfl (by kernel_rfl) rfl mm (cells_lt (k := 3) (by decide) (fun _ => rfl) L k (by omega)) Tryz.isAgg33 Tryz.sizeOf33 (read_cells (k := 3) (fun _ => rfl) ((fun _ => rfl)) L FT0 k (by omega)) (.inl rfl) (by decide) ?_
              refine yf [_, _] rfl rfl Tryz.call35 (C_fAdd _ _ _ _ _ _ _ _ (hvI L q k) ((L.getD k FT0).x) (by omega) (by omega)) ?_; rintro v62 Ψ62 ⟨ad62, c62, bd62, d62, rfl, hle62, hlf62, rfl⟩
              have hl62 := lenQ_add (hvI L q k) ((L.getD k FT0).x)
              refine yt rfl rfl rfl (st_3_0_3 _ _ _ _ _ _) uu Tryz.sizeOf33 rfl nb rfl ?_
              refine yn (zr (zm rfl (zp (Pure1.cast (v' := (.int .i64 ((k + 1 : Nat) : Int))) (.add rfl rfl) (by show Value.int _ _ = Value.int _ _; congr 1)) (za rfl (zn ?_))))); intro a w h
              rw [hvI_yes hc56] at h hle62 hlf62
              exact ⟨k + 1, ⟨by omega, ad62, c62, bd62, d62, ⟨hle62, hlf62⟩, by exact (h.factsSub (by simp)).sub sA⟩, by omega⟩
            · skip
              refine gC h (zk (zr (zm rfl (zp (Pure1.cast (v' := (.int .i64 ((k + 1 : Nat) : Int))) (.add rfl rfl) (by show Value.int _ _ = Value.int _ _; congr 1)) (za rfl (zn ?_)))))); clear h; intro a w h
              rw [← hvI_no hc56] at h hr2 hr4
              exact ⟨k + 1, ⟨by omega, r1, r2, r3, r4, ⟨hr2, hr4⟩, by exact (h.factsSub (by simp)).sub sA⟩, by omega⟩
          · skip
            have heq_k : L.length = k := by have := of_decide_eq_false hc50; omega
            subst heq_k
            have hhn := lenQ_hvI hL q L.length
            refine gC h (ze (zs (yD mixed_YtmajjidkkpkhcaaGreat [0, 1, 2, 3, 4, 5] (floatsOK_none (by kernel_rfl)) (yd rfl rfl mr Tryz.isAgg33 Tryz.sizeOf33 (rd_3_0_3 _ _ _) ?_)))); clear h
            refine yd rfl rfl mr Tryz.isAgg33 Tryz.sizeOf33 (rd_3_0_3 _ _ _) ?_
            refine yd rfl rfl mr Tryz.isAgg33 Tryz.sizeOf33 (rd_3_0_3 _ _ _) ?_
            refine yf [_, _] rfl rfl Tryz.call37 (C_fMul _ _ _ _ _ _ _ _ x (sumI L L.length) (by omega) (by omega)) ?_; rintro v66 Ψ66 ⟨ad66, c66, bd66, d66, rfl, hle66, hlf66, rfl⟩
            have hl66 := lenQ_mul x (sumI L L.length)
            refine yw [_, _] rfl rfl Tryz.call33 (C_fCmp _ _ _ _ _ _ _ _ (hvI L q L.length) (x * (sumI L L.length)) (by omega) (by omega)) (yp rfl (.lss rfl rfl) (yn ?_)); intro a w h
            change Code.wp _ _ _ _ _
            refine cond_split h rfl (fun hc68 => ?_) (fun hc68 => ?_)
            · skip
              refine gC h (zr (zm rfl (zm rfl (zB [(_, _)] rfl (bs_28_1_0 _) fun b71 => ?_)))); clear h; intro a w h
              refine wpl_plain (op_appendO (σr := [(b10, .cells (Value.cells (.agg #[.bool (decide ((hvI L q L.length).num < 0)), .slice r1 (dg (hvI L q L.length).num.natAbs).length r2, .slice r3 (dg ((hvI L q L.length).den - 1)).length r4])) 33 (0, 0)), (b6, .cells (Value.cells (.agg #[.bool (decide ((sumI L L.length).num < 0)), .slice p1 (dg (sumI L L.length).num.natAbs).length p2, .slice p3 (dg ((sumI L L.length).den - 1)).length p4])) 33 (0, 0)), (b3, .cells (Value.cells (.agg #[.bool (decide (x.num < 0)), .slice xa (dg x.num.natAbs).length xc, .slice xb (dg (x.den - 1)).length xd])) 33 (0, 0))]) h rfl rfl (List.Perm.trans (List.Perm.refl _) (List.Perm.cons _ (pm_ca (List.Perm.refl _)))) hG1 Tryz.runUnderlying28 Tryz.runUnderlying28 Tryz.typeInfo3 Tryz.sizeOf3 Tryz.zeroValue3 rfl (by decide) (by decide) rfl rfl (by decide) (by show 8 * (2 * ((rfL L (x * sumI L L.length) L.length q).length + 1) + 192) ≤ 281474976710656; omega) (by decide) ?_); clear h
              intro v72 o72 a w hG72 h
              obtain ⟨ad72, c72, rfl⟩ := hG72.is
              have hLn72 : (rfL L (x * sumI L L.length) L.length q).length + 1 = ((rfL L (x * sumI L L.length) L.length q) ++ [q]).length := by simp only [List.length_append, List.length_cons, List.length_nil, Nat.zero_add]
              rw [hLn72] at h hG72
              replace hG72 : GrowO 1 3 (.slice ad72 ((rfL L (x * sumI L L.length) L.length q) ++ [q]).length c72) ((rfL L (x * sumI L L.length) L.length q) ++ [q]).length (List.map encn ((rfL L (x * sumI L L.length) L.length q) ++ [q])) o72 := by rw [List.map_append]; exact hG72
              refine gL h (za rfl (zn (zr (zm rfl (zp (Pure1.cast (v' := (.int .i64 ((q + 1 : Nat) : Int))) (.add rfl rfl) (by show Value.int _ _ = Value.int _ _; congr 1)) (za rfl (zn ?_))))))); clear h; intro a w h
              rw [rfL_yes hc68] at h hG72
              exact ⟨q + 1, ⟨by omega, ad72, c72, o72, hG72, by exact (((h.perm (List.Perm.trans (pm_ac (List.Perm.refl _)) (List.Perm.cons _ (List.Perm.refl _))).symm).drop (by repeat (first | exact List.Sublist.refl _ | apply List.Sublist.cons))).factsSub (by simp)).sub sA⟩, by omega⟩
            · skip
              refine gC h (zk (zr (zm rfl (zp (Pure1.cast (v' := (.int .i64 ((q + 1 : Nat) : Int))) (.add rfl rfl) (by show Value.int _ _ = Value.int _ _; congr 1)) (za rfl (zn ?_)))))); clear h; intro a w h
              rw [← rfL_no hc68] at h hG1
              exact ⟨q + 1, ⟨by omega, ad1, c1, o1, hG1, by exact ((h.drop (by repeat (first | exact List.Sublist.refl _ | apply List.Sublist.cons))).factsSub (by simp)).sub sA⟩, by omega⟩
        · skip
          have heq_q : L.length = q := by have := of_decide_eq_false hc43; omega
          subst heq_q
          refine gC h (ze (zs (zr (zm rfl (za rfl (za rfl (zn (zt ?_)))))))); clear h; intro a w h
          exact ret_of (Ψ := [Row ad1 (List.map encn (rfL L (x * sumI L L.length) L.length L.length))]) (h.shareO' hS hG1) (results2 h rfl (.tmp rfl) (.tmp rfl)) (PostRM.ok (valid_of hc14 hc19) hnn) (by simp)
end Go.Proofs.YtmajjidkkpkhcaaGreat
