/- Written by a program of ours (gen.py) out of short specifications. By an AI agent. -/
import Derived.Test.YtmajjidkkpkhcaaGreatSort1
import Derived.Test.YtmajjidkkpkhcaaGreatFxV
import Derived.Test.YtmajjidkkpkhcaaGreatFxZ
set_option linter.unusedVariables false
set_option linter.unusedSimpArgs false
set_option maxRecDepth 4000
namespace Go.Proofs.YtmajjidkkpkhcaaGreat
open Go Go.Proofs Go.Fx
attribute [local irreducible] Oper.wp Code.wp wpList Fx.Head wpOp
theorem bs_28_0_ (w : World) : (Instr.buildSlice 28 0 [].toArray).run Tryz.prog w = .ok (.slice (some ⟨w.heap.size, 0, none⟩) 0 0) (w.alloc (.cells #[] 3 (0, 0))) := by
  simp [go_sem]
theorem slh_28 (a : Option Addr) (n c j : Nat) (h : j ≤ c) (w : World) : (Instr.sliceAt 28 (.slice a n c) none (some (.int .i64 (j : Int))) none).run Tryz.prog w = .ok (.slice a j c) w := by
  exact sliceAt_high Tryz.runUnderlying28 Tryz.sizeOf3 a n c j h w
theorem flat_encn : ∀ l : List Nat, (List.map encn l).all flat = true
  | [] => rfl
  | x :: l => by rw [List.map_cons, List.all_cons, flat_encn l]; rfl
theorem eq_nil (X Y : Operand) (b o n c : Nat) (w : World) : (do eqGuard .eql 28 X Y (.slice (some ⟨b, o, none⟩) n c) (.slice none 0 0); Go.binOp .eql 28 (.slice (some ⟨b, o, none⟩) n c) (.slice none 0 0) : Sem Value).run Tryz.prog w = .ok (.bool false) w := by
  simp [go_sem]
  have e : (Op.equalIn 10000 28 (.slice (some ⟨b, o, none⟩) n c) (.slice none 0 0)).run Tryz.prog w = .ok false w := by
    rw [show (10000:Nat) = 9999+1 from rfl, Op.equalIn]
    simp [go_sem]
  show (do pure (.bool (← Op.equal 28 _ _)) : Sem Value).run Tryz.prog w = _
  unfold Op.equal
  simp only [Sem.run_bind]
  rw [show Op.maxDepth = 10000 from rfl, e]; rfl
def fillN (n i : Nat) : List Nat := List.range i ++ List.replicate (n - i) 0
theorem fillN_set {n i : Nat} (h : i < n) : (fillN n i).set i i = fillN n (i + 1) := by
  unfold fillN
  rw [List.set_append_right _ _ (by simp), List.length_range, Nat.sub_self, List.range_succ, List.append_assoc, show n - i = (n - (i + 1)) + 1 by omega, List.replicate_succ]; rfl
theorem fillN_end (n : Nat) : fillN n n = List.range n := by unfold fillN; simp
theorem fillN_len {n i : Nat} (h : i ≤ n) : (fillN n i).length = n := by unfold fillN; simp; omega
theorem C_SortMark (E : List Rat) (ad : Option Addr) (c b0 : Nat) (hE : ∀ x ∈ E, lenQ x ≤ 1000) (hn : E.length ≤ 1000000) (b : Nat) (σ : List (Nat × Obj)) :
    CtrM Tryz.prog 25 [.slice (some ⟨b, 0, none⟩) E.length E.length, .func (.func 26) #[] #[.pointer (some ⟨b0, 0, none⟩)]] ((b, .cells (List.map encn (List.range E.length)).toArray 3 (0, 0)) :: σ)
      [Row (some ⟨b0, 0, none⟩) [.slice ad E.length c], Row ad (cellsOf encQ E)]
      (fun v σ' Ψ => v = .tuple #[] ∧ σ' = (b, .cells (List.map encn (ordL E)).toArray 3 (0, 0)) :: σ ∧ Ψ = [Row (some ⟨b0, 0, none⟩) [.slice ad E.length c], Row ad (cellsOf encQ E)]) := by
  have h := C_SortFunc E ad c b0 hE hn b E.length (List.range E.length) (fun i hi => List.mem_range.1 hi) (by rw [List.length_range]; exact hn) σ
  rw [List.length_range] at h
  exact h
theorem C_SortIN (b cap n : Nat) (l : List Nat) (R : List Value) (hl : l.length = n) (hn : n ≤ 1000000) (σ : List (Nat × Obj)) (Φ : List SPred) :
    CtrM Tryz.prog 31 [.slice (some ⟨b, 0, none⟩) n cap] ((b, .cells (List.map encn l ++ R).toArray 3 (0, 0)) :: σ) Φ
      (fun v σ' Ψ => v = .tuple #[] ∧ σ' = (b, .cells (List.map encn (l.mergeSort fun x y => decide (x ≤ y)) ++ R).toArray 3 (0, 0)) :: σ ∧ Ψ = Φ) := by
  subst hl; exact C_SortI b cap l R hn σ Φ
theorem lenQ_foldl (E : List Rat) (h : ∀ x ∈ E, lenQ x ≤ 1000) : ∀ s : Rat, lenQ (E.foldl (· + ·) s) ≤ lenQ s + 1001 * E.length := by
  induction E with
  | nil => intro s; simp
  | cons x E ih =>
    intro s
    have h1 := ih (fun y hy => h y (List.mem_cons_of_mem _ hy)) (s + x)
    have h2 := lenQ_add s x
    have h3 := h x List.mem_cons_self
    rw [List.foldl_cons, List.length_cons]; omega
theorem lenQ_sumL {E : List Rat} (h : ∀ x ∈ E, lenQ x ≤ 1000) : lenQ (sumL E) ≤ 2 + 1001 * E.length := by
  have h1 := lenQ_foldl E h 0; have h2 := lenQ_zero; unfold sumL; omega
theorem lenQ_leftN {E : List Rat} (h : ∀ x ∈ E, lenQ x ≤ 1000) (t : Rat) : ∀ j, j ≤ E.length → lenQ (leftN E t j) ≤ lenQ t + 3 + 1001 * E.length + 1001 * j
  | 0, _ => by have h1 := lenQ_mul t (sumL E); have h2 := lenQ_sumL h; rw [leftN]; omega
  | j + 1, hj => by
    have h1 := lenQ_leftN h t j (by omega)
    have h2 := lenQ_sub (leftN E t j) (E.getD ((ordL E).getD j 0) 0)
    have h3 := h _ (getD_mem E (d := 0) (ordL_lt E (getD_mem (ordL E) (i := j) (d := 0) (by rw [ordL_len]; omega))))
    rw [leftN]; omega
theorem C_QSumL (ad : Option Addr) (c : Nat) (l : List Rat) (hn : l.length ≤ 1000000) (hx : ∀ x ∈ l, lenQ x ≤ 1000) :
    CtrW Tryz.prog 13 [.slice ad l.length c] [Row ad (cellsOf encQ l)] (encQ (sumL l)) := C_QSum ad c l hn hx
theorem valid_le {t : Rat} (h : validQ t = true) : t ≤ 1 := by
  unfold validQ at h
  rw [Bool.and_eq_true, decide_eq_true_iff, decide_eq_true_iff] at h
  have h1 := sgs_pos t ((1 : Int) : Rat)
  have h2 : ¬ ((1 : Int) : Rat) < t := fun h3 => by have := h1.2 h3; omega
  have h3 : ((1 : Int) : Rat) = 1 := rfl
  rw [h3] at h2
  exact Rat.not_lt.1 h2
theorem nonneg_of {E : List Rat} (h : E.any (fun x : Rat => decide (x.num.sign < 0)) = false) : ∀ x ∈ E, (0 : Rat) ≤ x := by
  intro x hx
  rw [List.any_eq_false] at h
  have h1 := h x hx
  rw [decide_eq_true_iff, sgn_neg] at h1
  exact Rat.not_lt.1 h1
/-- The answer's error, and the indices that are marked. -/
def markE (E : List Rat) (t : Rat) : Int := if (validQ t && !E.any (fun x : Rat => decide (x.num.sign < 0))) = true then 0 else 1
def markR (E : List Rat) (t : Rat) : List Nat := if markE E t = 0 then refL E t else []
def PostMark (E : List Rat) (t : Rat) (v : Value) (Ψ : List SPred) : Prop := ∃ ad, v = .tuple #[.slice ad (markR E t).length (markR E t).length, .int .i64 (markE E t)] ∧ Ψ = [Row ad (List.map encn (markR E t))]
theorem PostMark.ok {E : List Rat} {t : Rat} {ad : Option Addr} {n : Nat} (h1 : validQ t = true) (h2 : E.any (fun x : Rat => decide (x.num.sign < 0)) = false) (hn : (refL E t).length = n) :
    PostMark E t (.tuple #[.slice ad n n, .int .i64 0]) [Row ad (List.map encn (refL E t))] := by
  have e1 : markE E t = 0 := by unfold markE; rw [h1, h2]; rfl
  have e2 : markR E t = refL E t := by unfold markR; rw [if_pos e1]
  exact ⟨ad, by rw [e2, e1, hn], by rw [e2]⟩
theorem PostMark.err {E : List Rat} {t : Rat} (h : (validQ t && !E.any (fun x : Rat => decide (x.num.sign < 0))) = false) : PostMark E t (.tuple #[.slice none 0 0, .int .i64 1]) [Row none []] := by
  have e1 : markE E t = 1 := by unfold markE; rw [h]; rfl
  have e2 : markR E t = [] := by unfold markR; rw [e1]; rfl
  exact ⟨none, by rw [e2, e1]; rfl, by rw [e2]; rfl⟩
theorem refL_len {E : List Rat} (hE : ∀ x ∈ E, 0 ≤ x) (t : Rat) {m : Nat} (hm : m ≤ E.length) (h1 : ∀ j, j < m → 0 < leftN E t j) (h2 : ¬ 0 < leftN E t m) : (refL E t).length = m := by
  rw [← mark_eq hE t hm h1 h2, List.length_mergeSort, List.length_take, ordL_len]; omega

theorem C_Clip (ad : Option Addr) (n c : Nat) (hn : n ≤ c) : CtrV Tryz.prog 29 [.slice ad n c] (.slice ad n n) := by
  refine fn_intro Tryz.func29 rfl Tryz.ntmps29 nb ?_
  intro S w0 a hS h
  refine gC h (zs (zr (za rfl (zn (zs (zr (zm rfl (zm rfl (zp (.builtin [_] rfl (len_slice_28 _ _ _)) (zm rfl (zp (.builtin [_] rfl (len_slice_28 _ _ _)) (zp (.slice rfl none (some _) (some _) rfl rfl rfl (sliceAt_clip Tryz.runUnderlying28 Tryz.sizeOf3 _ _ _ hn)) (za rfl (zn (zt ?_))))))))))))))); clear h; intro a w h
  refine retV h (results1 h rfl (.tmp rfl)) ?_
  rfl

theorem C_Clone (b o c : Nat) (l : List Nat) (hn : l.length ≤ 1000000) : CtrO Tryz.prog 30 [.slice (some ⟨b, o, none⟩) l.length c] [Row (some ⟨b, o, none⟩) (List.map encn l)]
      (fun v σn => ∃ b' c' R, v = .slice (some ⟨b', 0, none⟩) l.length c' ∧ l.length ≤ c' ∧ σn = [(b', .cells (List.map encn l ++ R).toArray 3 (0, 0))]) := by
  refine fn_introO Tryz.func30 rfl Tryz.ntmps30 nb ?_
  intro S w0 a hS h
  refine gC h (zs (zr (za rfl (zn (zs (zs (zr (zm rfl (zp (.binOp rfl rfl (eq_nil _ _ _ _ _ _)) ?_))))))))); clear h; intro a w h
  refine by_bool h (fun hc4 h => (by exfalso; cases hc4)) (fun hc4 h => ?_)
  refine wpList_nil ?_
  change Code.wp _ _ _ _ _
  refine cond_false h rfl ?_
  refine gC h (zk (zs (zr (zB [] rfl (bs_28_0_) fun b5 => zm rfl ?_)))); clear h; intro a w h
  refine wpl_plain (op_appendRowB (b := b5) (xs := []) (ys := List.map encn l) (ad2 := some ⟨b, o, none⟩) (k := 1) h rfl rfl mm rfl Tryz.runUnderlying28 Tryz.runUnderlying28 Tryz.typeInfo3 Tryz.sizeOf3 Tryz.zeroValue3 rfl (by decide) (by decide) (by rw [List.length_map, Nat.mul_one]) (flat_encn _) (by show 8 * (2 * _ + 192) ≤ 281474976710656; omega) (by decide) ?_); clear h; intro b7 c7 R7 a w hc7 h
  rw [Nat.zero_add, List.nil_append] at h
  rw [Nat.zero_add] at hc7
  refine gL h (za rfl (zn (zt ?_))); clear h; intro a w h
  exact retO h (results1 h rfl (.tmp rfl)) ⟨b7, c7, R7, rfl, hc7, rfl⟩ (List.Sublist.refl _)

theorem C_CloneN (b o c n : Nat) (l : List Nat) (hl : l.length = n) (hn : n ≤ 1000000) : CtrO Tryz.prog 30 [.slice (some ⟨b, o, none⟩) n c] [Row (some ⟨b, o, none⟩) (List.map encn l)]
      (fun v σn => ∃ b' c' R, v = .slice (some ⟨b', 0, none⟩) n c' ∧ n ≤ c' ∧ σn = [(b', .cells (List.map encn l ++ R).toArray 3 (0, 0))]) := by
  subst hl; exact C_Clone b o c l hn

theorem C_Mark (E : List Rat) (ad : Option Addr) (c : Nat) (t : Rat) (hE : ∀ x ∈ E, lenQ x ≤ 1000) (ht : lenQ t ≤ 1000) (hn : E.length ≤ 1000) :
    Ctr Tryz.prog 8 [.slice ad E.length c, encQ t] [Row ad (cellsOf encQ E)] (PostMark E t) := by
  have hol := ordL_len E
  have hls := lenQ_sumL hE
  refine fn_intro Tryz.func8 rfl Tryz.ntmps8 nb ?_
  intro S w0 a hS h
  refine gC h (zs (zr (zx rfl fun b2 => ?_))); clear h; intro a w h
  replace h := h.shareAll hS ([.slice ad E.length c]) rfl
  refine gL h (zx rfl fun b3 => za rfl (za rfl (zn (zs (zr (za rfl (zn (zs (zs (zr (zd rfl mr Tryz.isAgg48 Tryz.sizeOf48 (rd_5_0_5 _ _ _ _ _) ?_))))))))))); clear h; intro a w h
  refine gL h (zv [_] rfl Tryz.call23 (C_valid t (by omega)) ?_); clear h; intro a w h
  refine by_bool h (fun hc13 h => ?_) (fun hc13 h => ?_)
  · skip
    have ht1 := valid_le hc13
    refine gL h (zp (.unOp rfl (un_not _)) (zm rfl ?_)); clear h; intro a w h
    refine wpl_guard 15 h rfl rfl (op_loadRow h (b := b2) (off := 0) (j := 0) (M := [.slice ad E.length c]) (v := .slice ad E.length c) rfl mm (Nat.succ_pos _) Tryz.isAgg35 Tryz.sizeOf35 rfl (.inr rfl) (by decide) ?_); clear h; intro a h
    refine gL h (zq 15 rfl rfl (.move rfl) ?_); clear h; intro a w h
    refine wpl_guard 15 h rfl rfl (op_callW h (vs := [_, _]) rfl Tryz.call24 (C_Contains _ _ E (by omega)) (by simp) (by decide) ?_); clear h; intro a w h
    refine by_bool h (fun hc18 h => ?_) (fun hc18 h => ?_)
    · skip
      refine gL h (zp (.pickF rfl rfl) (zn ?_)); clear h; intro a w h
      change Code.wp _ _ _ _ _
      refine cond_true h rfl ?_
      refine gC h (zs (zr (za rfl (za rfl (zn (zt ?_)))))); clear h; intro a w h
      replace h := h.derive (R := Row none []) (fun X hX hne => absurd rfl hne)
      exact ret_of (Ψ := [Row none []]) h (results2 h rfl (.tmp rfl) (.tmp rfl)) (PostMark.err (by rw [hc13, hc18]; rfl)) (by simp)
    · skip
      have hE0 := nonneg_of hc18
      refine gL h (zp (.pickF rfl rfl) (zn ?_)); clear h; intro a w h
      change Code.wp _ _ _ _ _
      refine cond_false h rfl ?_
      refine gC h (zk (zs (zr (zD (b := b2) (off := 0) (j := 0) (M := [.slice ad E.length c]) (v := .slice ad E.length c) rfl mm (Nat.succ_pos _) Tryz.isAgg35 Tryz.sizeOf35 rfl (.inr rfl) ?_)))); clear h; intro a w h
      refine gL h (zp (.builtin [_] rfl (len_slice_35 _ _ _)) ?_); clear h; intro a w h
      refine wpl_plain (op_makeSlice h rfl rfl Tryz.runUnderlying28 Tryz.typeInfo3 Tryz.sizeOf3 Tryz.zeroValue3 rfl (by decide) (by exact Nat.le_refl _) (by show 8 * (E.length) ≤ 281474976710656; omega) (by omega) (by decide) ?_); clear h; intro b22 a w h; replace h := h.same rfl (by rw [← map_reps]) rfl
      refine gL h (za rfl (zn (zs (zs (zr (zm rfl (zp (.builtin [_] rfl (len_slice_28 _ _ _)) (zm rfl (zn (zb ?_)))))))))); clear h; intro a w h
      refine wp_loop_inv (fun (i : Nat) a w => i ≤ E.length ∧ St 62 S w0 [(2, .pointer (some ⟨b2, 0, none⟩)), (3, .pointer (some ⟨b3, 0, none⟩)), (5, .int .i64 0), (7, .slice (some ⟨b22, 0, none⟩) E.length E.length), (24, .int .i64 ((E.length : Nat) : Int)), (25, .int .i64 ((i : Nat) : Int))] [(b22, .cells (List.map encn (fillN E.length i)).toArray 3 (0, 0)), (b3, .cells (Value.cells (encQ (t))) 48 (0, 0))] [Row (some ⟨b2, 0, none⟩) ([.slice ad E.length c]), Row ad (cellsOf encQ E)] a w) (fun i => E.length - i) 0 (⟨Nat.zero_le _, by exact (h).sub (subL ⟨rfl, rfl, rfl, rfl, rfl, rfl, trivial⟩)⟩) ?_; clear h
      rintro i a w ⟨hi_i, h⟩
      refine gC h (zs (zr (zp (.lss rfl rfl) (zn (zs ?_))))); clear h; intro a w h
      refine cond_split h rfl (fun hc26 => ?_) (fun hc26 => ?_)
      · skip
        have hlt_i : i < E.length := by have := of_decide_eq_true hc26; omega
        obtain ⟨B_ad, O_ad, rfl⟩ := h.row_addr (ad := ad) (M := cellsOf encQ E) mm (by intro e; have := congrArg List.length e; rw [cellsOf_length (k := 5) (fun _ => rfl)] at this; simp only [List.length_nil, Nat.mul_eq_zero] at this; omega)
        have hfl := fillN_len (Nat.le_of_lt hlt_i)
        refine gC h (zk (zs (zb (zs (zr (zm rfl (za rfl (zn (zr (zm rfl (zm rfl (zm rfl (zp (.indexAddr rfl rfl (ix_28 _ _ _ _ _ (by omega))) (zt' rfl rfl ((congrArg (fun z => setFrom _ z _) (Nat.zero_add _)).trans (set_row (enc := encn) (fillN E.length i) i i)) uu Tryz.sizeOf3 rfl (by simp; omega) rfl ?_)))))))))))))); clear h; intro a w h
        refine gL h (zn (zr (zp (Pure1.cast (v' := (.int .i64 ((i + 1 : Nat) : Int))) (.add rfl rfl) (by show Value.int _ _ = Value.int _ _; congr 1)) (zm rfl (zn ?_))))); clear h; intro a w h
        rw [fillN_set hlt_i] at h
        exact ⟨i + 1, ⟨by omega, (h.factsSub (by simp)).sub sA⟩, by omega⟩
      · skip
        have heq_i : E.length = i := by have := of_decide_eq_false hc26; omega
        subst heq_i
        rw [fillN_end] at h
        refine gC h (ze (zs (zr (zm rfl (zp (.makeFunc [] [_] rfl rfl) ?_))))); clear h; intro a w h
        refine wpl_plain (op_callM h hS (vs := [_, _]) rfl Tryz.call25 (C_SortMark E ad c b2 hE (by omega) b22 [(b3, _)]) (List.Perm.refl _) (by simp) (by simp) ?_); clear h; rintro v35 σ35 Ψ35 a w ⟨rfl, rfl, rfl⟩ h
        replace h := h.shareAll hS (List.map encn (ordL E)) rfl
        refine gL h (zn (zs (yD mixed_YtmajjidkkpkhcaaGreat [0, 1, 2, 3, 4, 5] (floatsOK_of ⟨.inl rfl, .inl rfl, .inl rfl, .inl rfl, .inr ⟨9, 48, _, _, _, rfl, rfl, by decide, _, zeroQ⟩, .inl rfl, trivial⟩) (yd rfl rfl mr Tryz.isAgg48 Tryz.sizeOf48 (rd_5_0_5 _ _ _ _ _) ?_)))); clear h
        refine head_loadRow (b := b2) (off := 0) (j := 0) (M := [.slice ad E.length c]) (v := .slice ad E.length c) rfl (by kernel_rfl) rfl mm (Nat.succ_pos _) Tryz.isAgg35 Tryz.sizeOf35 rfl (.inr rfl) (by decide) ?_
        refine yw [_] rfl rfl Tryz.call13 (C_QSumL ad c E (by omega) hE) (yv [_, _] rfl rfl Tryz.call12 (C_QMul _ _ (by omega) (by omega)) ?_)
        have hl39 := lenQ_mul (t) (sumL E)
        refine yz rfl zeroQ fun b9 => yt rfl rfl rfl (st_5_0_5 _ _ _ _ _ _ _ _ _ _) uu Tryz.sizeOf48 rfl nb rfl ?_
        refine yn (zs (zr (za rfl (zn (zs (zb ?_)))))); intro a w h
        refine wp_loop_inv (fun (j : Nat) a w => (j ≤ E.length ∧ ∀ i, i < j → 0 < leftN E t i) ∧ St 62 S w0 [(2, .pointer (some ⟨b2, 0, none⟩)), (3, .pointer (some ⟨b3, 0, none⟩)), (5, .int .i64 0), (7, .slice (some ⟨b22, 0, none⟩) E.length E.length), (9, .pointer (some ⟨b9, 0, none⟩)), (10, .int .i64 ((j : Nat) : Int)), (24, .int .i64 ((E.length : Nat) : Int)), (25, .int .i64 ((E.length : Nat) : Int))] [(b9, .cells (Value.cells (encQ (leftN E t j))) 48 (0, 0)), (b3, .cells (Value.cells (encQ (t))) 48 (0, 0))] [Row (some ⟨b22, 0, none⟩) (List.map encn (ordL E)), Row (some ⟨b2, 0, none⟩) ([.slice ad E.length c]), Row ad (cellsOf encQ E)] a w) (fun j => E.length - j) (0) (⟨⟨Nat.zero_le _, fun i hi => absurd hi (by omega)⟩, by exact h.sub (subL ⟨rfl, rfl, rfl, rfl, rfl, rfl, rfl, rfl, trivial⟩)⟩) ?_; clear h
        rintro j a w ⟨hj, h⟩
        have hlj := lenQ_leftN hE t j hj.1
        refine gC h (zs (zs (zr (zd rfl mr Tryz.isAgg48 Tryz.sizeOf48 (rd_5_0_5 _ _ _ _ _) ?_)))); clear h; intro a w h
        refine gL h (zv [_] rfl Tryz.call22 (C_QSign _) (zp (.gtr rfl rfl) (zn ?_))); clear h; intro a w h
        change Code.wp _ _ _ _ _
        refine cond_split h rfl (fun hc42 => ?_) (fun hc42 => ?_)
        · skip
          have hp : 0 < leftN E t j := (sgn_pos _).1 (of_decide_eq_true hc42)
          have hjl := leftN_lt hE0 ht1 hj.1 hp
          have hoj := ordL_lt E (getD_mem (ordL E) (i := j) (d := 0) (by omega))
          have hej := hE _ (getD_mem E (d := 0) hoj)
          obtain ⟨B_ad, O_ad, rfl⟩ := h.row_addr (ad := ad) (M := cellsOf encQ E) mm (by intro e; have := congrArg List.length e; rw [cellsOf_length (k := 5) (fun _ => rfl)] at this; simp only [List.length_nil, Nat.mul_eq_zero] at this; omega)
          refine gC h (zk (zb (zs (yD mixed_YtmajjidkkpkhcaaGreat [0, 1, 2, 3, 4, 5, 6, 7, 8, 9] (floatsOK_none (by kernel_rfl)) (yd rfl rfl mr Tryz.isAgg48 Tryz.sizeOf48 (rd_5_0_5 _ _ _ _ _) ?_))))); clear h
          refine head_loadRow (b := b2) (off := 0) (j := 0) (M := [.slice (some ⟨B_ad, O_ad, none⟩) E.length c]) (v := .slice (some ⟨B_ad, O_ad, none⟩) E.length c) rfl (by kernel_rfl) rfl mm (Nat.succ_pos _) Tryz.isAgg35 Tryz.sizeOf35 rfl (.inr rfl) (by decide) ?_
          refine yp rfl (.move rfl) (yp rfl (.move rfl) (yp rfl (.indexAddr rfl rfl (ix_28 _ _ _ _ _ (by omega))) ?_))
          refine head_loadRow rfl (by kernel_rfl) rfl mm (by rw [List.length_map]; omega) Tryz.isAgg3 Tryz.sizeOf3 (read_row (enc := encn) (l := (ordL E)) 0 (by omega)) (.inr rfl) (by decide) ?_
          refine yp rfl (.indexAddr rfl rfl (ix_35 _ _ _ _ _ (by omega))) ?_
          refine head_loadRow rfl (by kernel_rfl) rfl mm (cells_lt (k := 5) (by decide) (fun _ => rfl) E ((ordL E).getD j 0) (by omega)) Tryz.isAgg48 Tryz.sizeOf48 (read_cells (k := 5) (fun _ => rfl) ((fun _ => rfl)) E 0 ((ordL E).getD j 0) (by omega)) (.inl rfl) (by decide) ?_
          refine yv [_, _] rfl rfl Tryz.call16 (C_QSub _ _ (by omega) (by omega)) ?_
          have hl51 := lenQ_sub (leftN E t j) (E.getD ((ordL E).getD j 0) 0)
          refine yt rfl rfl rfl (st_5_0_5 _ _ _ _ _ _ _ _ _ _) uu Tryz.sizeOf48 rfl nb rfl ?_
          refine yn (zr (zm rfl (zp (Pure1.cast (v' := (.int .i64 ((j + 1 : Nat) : Int))) (.add rfl rfl) (by show Value.int _ _ = Value.int _ _; congr 1)) (za rfl (zn ?_))))); intro a w h
          exact ⟨j + 1, ⟨⟨by omega, fun i hi => by
            rcases Nat.lt_or_ge i j with h1 | h1
            · exact hj.2 i h1
            · rw [show i = j by omega]; exact hp⟩, by exact (h.factsSub (by simp)).sub sA⟩, by omega⟩
        · skip
          have hnp : ¬ 0 < leftN E t j := fun h1 => of_decide_eq_false hc42 ((sgn_pos _).2 h1)
          have htk : ((ordL E).take j).length = j := by rw [List.length_take]; omega
          refine gC h (ze (zs (zr (zm rfl (zm rfl (zp (.slice rfl none (some _) none rfl rfl rfl (slh_28 _ _ _ _ (by omega))) ?_)))))); clear h; intro a w h
          replace h := h.derive (R := Row (some ⟨b22, 0, none⟩) (List.map encn ((ordL E).take j))) (fun X hX => by rw [List.map_take]; exact row_take (hX _ mm) j)
          refine wpl_plain (op_callO h (vs := [_]) rfl Tryz.call30 (C_CloneN b22 0 E.length j ((ordL E).take j) htk (by omega)) (by simp) (by decide) ?_); clear h; rintro v57 σ57 a w ⟨b57, c57, R57, rfl, hc57, rfl⟩ h
          refine gL h (zv [_] rfl Tryz.call29 (C_Clip _ _ _ hc57) (za rfl (zn (zs (zr (zm rfl ?_)))))); clear h; intro a w h
          refine wpl_plain (op_callM h hS (vs := [_]) rfl Tryz.call31 (C_SortIN b57 j j ((ordL E).take j) R57 htk (by omega) [(b9, _), (b3, _)] []) (List.Perm.refl _) (by simp) (by simp) ?_); clear h; rintro v60 σ60 Ψ60 a w ⟨rfl, rfl, rfl⟩ h
          rw [mark_eq hE0 t hj.1 hj.2 hnp] at h
          replace h := h.share hS (off := 0) (M := List.map encn (refL E t)) (fun k hk => by rw [Nat.zero_add, List.getElem?_toArray, List.getElem?_append_left hk])
          refine gL h (zn (zs (zr (zm rfl (za rfl (za rfl (zn (zt ?_)))))))); clear h; intro a w h
          exact ret_of (Ψ := [Row (some ⟨b57, 0, none⟩) (List.map encn (refL E t))]) h (results2 h rfl (.tmp rfl) (.tmp rfl)) (PostMark.ok hc13 hc18 (refL_len hE0 t hj.1 hj.2 hnp)) (by simp)
  · skip
    refine gL h (zp (.unOp rfl (un_not _)) (zm rfl (zo 15 rfl rfl rfl (zo 15 rfl rfl rfl (zo 15 rfl rfl rfl (zp (.pickT rfl rfl) (zn ?_))))))); clear h; intro a w h
    change Code.wp _ _ _ _ _
    refine cond_true h rfl ?_
    refine gC h (zs (zr (za rfl (za rfl (zn (zt ?_)))))); clear h; intro a w h
    replace h := h.derive (R := Row none []) (fun X hX hne => absurd rfl hne)
    exact ret_of (Ψ := [Row none []]) h (results2 h rfl (.tmp rfl) (.tmp rfl)) (PostMark.err (by rw [hc13]; rfl)) (by simp)
end Go.Proofs.YtmajjidkkpkhcaaGreat
