/- Written by a program of ours (gen.py) out of short specifications. By an AI agent. -/
import Derived.Test.YtealgpgmbflilaaGreatDoorTextg2
import Derived.Test.YtealgpgmbflilaaGreatDoorNumT
set_option linter.unusedVariables false
set_option linter.unusedSimpArgs false
set_option maxRecDepth 4000
namespace Go.Proofs.YtealgpgmbflilaaGreatDoor
open Go Go.Proofs Go.Fx
attribute [local irreducible] Oper.wp Code.wp wpList Fx.Head wpOp
theorem len_slice_52 (a : Option Addr) (n c : Nat) (w : World) (ty : TypeId) (cs : Array Bool) : (Go.builtin .len #[52] ty cs #[.slice a n c]).run Tryz.prog w = .ok (.value (.int .i64 n)) w := by
  simp [go_sem]
theorem ix_52 (b off n c j : Nat) (h : j < n) (w : World) : (Instr.indexAt 52 (.slice (some ⟨b, off, none⟩) n c) (.int .i64 (j : Int))).run Tryz.prog w = .ok (.pointer (some ⟨b, off + j, none⟩)) w := by
  simpa using indexAt_slice Tryz.runUnderlying52 Tryz.sizeOf3 b off n c j h w
theorem slh_52 (a : Option Addr) (n c j : Nat) (h : j ≤ c) (w : World) : (Instr.sliceAt 52 (.slice a n c) none (some (.int .i64 (j : Int))) none).run Tryz.prog w = .ok (.slice a j c) w := by
  exact sliceAt_high Tryz.runUnderlying52 Tryz.sizeOf3 a n c j h w
theorem bs_52_1_0 (x0 : Int) (w : World) : (Instr.buildSlice 52 1 [(0, .int .i64 x0)].toArray).run Tryz.prog w = .ok (.slice (some ⟨w.heap.size, 0, none⟩) 1 1) (w.alloc (.cells #[.int .i64 x0] 3 (0, 0))) := by
  simp [go_sem]
theorem C_trim (ad : Option Addr) (c : Nat) (l : List Nat) (hw : Dd l) (hc : l.length ≤ c) (hs : l.length ≤ 2199023255552) :
    Ctr Tryz.prog 181 [.slice ad l.length c] [Row ad (List.map encn l)] (fun v Ψ => v = .slice ad (dg (valD l)).length c ∧ Ψ = [Row ad (List.map encn (dg (valD l)))]) := by
  refine fn_intro Tryz.func181 rfl Tryz.ntmps181 nb ?_
  intro S w0 a hS h
  refine gC h (zs (zr (za rfl (zn (zs (zb ?_)))))); clear h; intro a w h
  refine wp_loop_inv (fun (m : Nat) a w => m ≤ l.length ∧ (∀ j, m ≤ j → j < l.length → l.getD j 0 = 0) ∧ St 21 S w0 [(0, .slice ad m c)] [] [Row ad (List.map encn l)] a w) (fun m => m) (l.length) (⟨Nat.le_refl _, fun j h1 h2 => absurd h2 (by omega), h.sub (subL ⟨rfl, trivial⟩)⟩) ?_; clear h
  rintro m a w ⟨hm, hz, h⟩
  refine gC h (zs (zs (zr (zm rfl (zp (.builtin [_] rfl (len_slice_52 _ _ _)) (zp (.gtr rfl rfl) ?_)))))); clear h; intro a w h
  refine by_bool h (fun hc5 h => ?_) (fun hc5 h => ?_)
  · skip
    have hm0 : 0 < m := by have := of_decide_eq_true hc5; omega
    obtain ⟨B_ad, O_ad, rfl⟩ := h.row_addr (ad := ad) (M := List.map encn l) (by first | assumption | (repeat (first | exact List.Mem.head _ | apply List.Mem.tail))) (by intro e; have := congrArg List.length e; simp only [List.length_map, List.length_nil] at this; omega)
    refine gL h (zm rfl (zq 6 rfl rfl (.move rfl) (zq 6 rfl rfl (.move rfl) (zq 6 rfl rfl (.builtin [_] rfl (len_slice_52 _ _ _)) (zq 6 rfl rfl (Pure1.cast (v' := (.int .i64 ((m - 1 : Nat) : Int))) (.sub rfl rfl) (by show Value.int _ _ = Value.int _ _; congr 1; omega)) (zq 6 rfl rfl (.indexAddr rfl rfl (ix_52 _ _ _ _ _ (by omega))) ?_)))))); clear h; intro a w h
    refine wpl_guard 6 h rfl rfl (op_loadRow h rfl mm (by rw [List.length_map]; omega) Tryz.isAgg3 Tryz.sizeOf3 (read_row (enc := encn) (l := l) 0 (by omega)) (.inr rfl) (by decide) ?_); clear h; intro a h
    refine gL h (zq 6 rfl rfl (.eql rfl rfl) ?_); clear h; intro a w h
    refine by_bool h (fun hc13 h => ?_) (fun hc13 h => ?_)
    · skip
      have hv0 : l.getD (m - 1) 0 = 0 := natEq' hc13
      refine gL h (zp (.pickT rfl rfl) (zn ?_)); clear h; intro a w h
      change Code.wp _ _ _ _ _
      refine cond_true h rfl ?_
      refine gC h (zk (zb (zr (zm rfl (zm rfl (zp (.builtin [_] rfl (len_slice_52 _ _ _)) (zp (Pure1.cast (v' := (.int .i64 ((m - 1 : Nat) : Int))) (.sub rfl rfl) (by show Value.int _ _ = Value.int _ _; congr 1; omega)) (zp (.slice rfl none (some _) none rfl rfl rfl (slh_52 _ _ _ _ (by omega))) (za rfl (zn ?_)))))))))); clear h; intro a w h
      refine ⟨m - 1, ⟨by omega, fun j h1 h2 => ?_, h.sub sA⟩, by omega⟩
      by_cases hj : j = m - 1
      · subst hj; exact hv0
      · exact hz j (by omega) h2
    · skip
      have hv0 : l.getD (m - 1) 0 ≠ 0 := natNe' hc13
      refine gL h (zp (.pickT rfl rfl) (zn ?_)); clear h; intro a w h
      change Code.wp _ _ _ _ _
      refine cond_false h rfl ?_
      refine gC h (ze (zs (zr (zm rfl (za rfl (zn (zt ?_))))))); clear h; intro a w h
      have hcut := dcut_end hw hm hz (.inr hv0)
      have hR : ∀ ad, Row ad (List.map encn (dg (valD l))) = Row ad ((List.map encn l).take m) := by intro ad; rw [hcut, List.map_take]
      replace h := h.derive (R := Row _ (List.map encn (dg (valD l)))) (fun X hX => by rw [hR]; exact row_take (hX _ List.mem_cons_self) m)
      have hl : m = (dg (valD l)).length := by rw [hcut]; simp; omega
      refine ret_of (Ψ := [Row _ (List.map encn (dg (valD l)))]) h (results1 h rfl (.tmp rfl)) ⟨by rw [← hl], rfl⟩ (by simp)
  · skip
    have hm0 : m = 0 := by have := of_decide_eq_false hc5; omega
    refine gL h (zm rfl (zo 6 rfl rfl rfl (zo 6 rfl rfl rfl (zo 6 rfl rfl rfl (zo 6 rfl rfl rfl (zo 6 rfl rfl rfl (zo 6 rfl rfl rfl (zo 6 rfl rfl rfl (zp (.pickF rfl rfl) (zn ?_)))))))))); clear h; intro a w h
    change Code.wp _ _ _ _ _
    refine cond_false h rfl ?_
    refine gC h (ze (zs (zr (zm rfl (za rfl (zn (zt ?_))))))); clear h; intro a w h
    have hcut := dcut_end hw hm hz (.inl hm0)
    have hR : ∀ ad, Row ad (List.map encn (dg (valD l))) = Row ad ((List.map encn l).take m) := by intro ad; rw [hcut, List.map_take]
    replace h := h.derive (R := Row _ (List.map encn (dg (valD l)))) (fun X hX => by rw [hR]; exact row_take (hX _ List.mem_cons_self) m)
    have hl : m = (dg (valD l)).length := by rw [hcut]; simp; omega
    refine ret_of (Ψ := [Row _ (List.map encn (dg (valD l)))]) h (results1 h rfl (.tmp rfl)) ⟨by rw [← hl], rfl⟩ (by simp)

theorem C_rat (ad : Option Addr) (c : Nat) (l : List Nat) (i : Nat) :
    CtrW Tryz.prog 180 [.slice ad l.length c, .int .i64 ((i : Nat) : Int)] [Row ad (List.map encn l)] (.int .i64 ((l.getD i 0 : Nat) : Int)) := by
  refine fn_intro Tryz.func180 rfl Tryz.ntmps180 nb ?_
  intro S w0 a hS h
  refine gC h (zs (zr (za rfl (zn (zs (zs (zr (zm rfl (zm rfl (zp (.builtin [_] rfl (len_slice_52 _ _ _)) (zp (.lss rfl rfl) (zn ?_)))))))))))); clear h; intro a w h
  change Code.wp _ _ _ _ _
  refine cond_split h rfl (fun hc8 => ?_) (fun hc8 => ?_)
  · skip
    have hi : i < l.length := by have := of_decide_eq_true hc8; omega
    obtain ⟨B_ad, O_ad, rfl⟩ := h.row_addr (ad := ad) (M := List.map encn l) (by first | assumption | (repeat (first | exact List.Mem.head _ | apply List.Mem.tail))) (by intro e; have := congrArg List.length e; simp only [List.length_map, List.length_nil] at this; omega)
    refine gC h (zs (zr (zm rfl (zm rfl (zp (.indexAddr rfl rfl (ix_52 _ _ _ _ _ (by omega))) (zD rfl mm (by rw [List.length_map]; omega) Tryz.isAgg3 Tryz.sizeOf3 (read_row (enc := encn) (l := l) 0 (by omega)) (.inr rfl) ?_)))))); clear h; intro a w h
    refine gL h (za rfl (zn (zt ?_))); clear h; intro a w h
    refine retV h (results1 h rfl (.tmp rfl)) ?_
    rfl
  · skip
    have hi : l.length ≤ i := by have := of_decide_eq_false hc8; omega
    refine gC h (zk (zs (zr (za rfl (zn (zt ?_)))))); clear h; intro a w h
    refine retV h (results1 h rfl (.tmp rfl)) ?_
    rw [getD_ge hi]; rfl

/-- A list of digits is returned. -/
def PostN (n : Nat) (v : Value) (Ψ : List SPred) : Prop := ∃ ad c, v = .slice ad (dg n).length c ∧ (dg n).length ≤ c ∧ Ψ = [Row ad (List.map encn (dg n))]
theorem dlt (n i : Nat) : (dg n).getD i 0 < 10000 := (Dd.dg n).getD i
theorem trimmed {n : Nat} {ad : Option Addr} {c : Nat} {v : Value} {Ψ : List SPred} {Z : List Nat} (hv : v = .slice ad (dg (valD Z)).length c ∧ Ψ = [Row ad (List.map encn (dg (valD Z)))]) (hZ : valD Z = n) (hw : Dd Z) (hc : Z.length ≤ c) : PostN n v Ψ := by
  subst hZ; exact ⟨ad, c, hv.1, Nat.le_trans (dg_length_le hw) hc, hv.2⟩

theorem C_rOf (n : Nat) (hn : n < 18446744073709551616) :
    Ctr Tryz.prog 182 [.int .u64 (n : Int)] [] (PostN n) := by
  have h5 : (dg n).length ≤ 5 := dg_len_le (Nat.lt_trans hn (by decide))
  refine fn_intro Tryz.func182 rfl Tryz.ntmps182 nb ?_
  intro S w0 a hS h
  refine gC h (zs (zr (za rfl (zn (zs (zr (za rfl (zn (zs (zb ?_)))))))))); clear h; intro a w h
  refine wp_loop_inv (fun (m : Nat) a w => ∃ l ad c o, m ≤ n ∧ dg n = l ++ dg m ∧ GrowO 1 3 (.slice ad l.length c) l.length (List.map encn l) o ∧ St 15 S w0 [(0, .int .u64 (m : Int)), (3, .slice ad l.length c)] (o ++ []) [] a w) (fun m => m) (n) (⟨[], none, 0, [], Nat.le_refl _, rfl, GrowO.nil _ _, by exact h.sub (subL ⟨rfl, rfl, trivial⟩)⟩) ?_; clear h
  rintro m a w ⟨l, ad, c, o, hm, hd, hG, h⟩
  have hll : l.length ≤ 5 := by have := congrArg List.length hd; simp at this; omega
  refine gC h (zs (zs (zr (zm rfl (zp (.gtr rfl rfl) (zn ?_)))))); clear h; intro a w h
  change Code.wp _ _ _ _ _
  refine cond_split h rfl (fun hc5 => ?_) (fun hc5 => ?_)
  · skip
    have hm0 : 0 < m := by have := of_decide_eq_true hc5; omega
    refine gC h (zk (zb (zs (zr (zm rfl (zm rfl (zp (Pure1.cast (v' := .int .u64 ((m % 10000 : Nat) : Int)) (.binOp rfl rfl (fun _ => run_rem _ _ _ _ _ (by decide))) (by rw [show (10000 : Int) = ((10000 : Nat) : Int) from rfl, tmod_nat])) (zp (.convert rfl (cv_36_3b _ (wrap_i64 _ (by omega) (by omega)))) (zB [(_, _)] rfl (bs_52_1_0 _) fun b10 => ?_))))))))); clear h; intro a w h
    refine wpl_plain (op_appendO (σr := []) h rfl rfl (List.Perm.trans (List.Perm.refl _) (List.Perm.cons _ (List.Perm.refl _))) hG Tryz.runUnderlying52 Tryz.runUnderlying52 Tryz.typeInfo3 Tryz.sizeOf3 Tryz.zeroValue3 rfl (by decide) (by decide) rfl rfl (by decide) (by show 8 * (2 * ((l).length + 1) + 192) ≤ 281474976710656; omega) (by decide) ?_); clear h
    intro v11 o11 a w hG11 h
    obtain ⟨ad11, c11, rfl⟩ := hG11.is
    have hLn11 : (l).length + 1 = (l ++ [m % 10000]).length := by simp only [List.length_append, List.length_cons, List.length_nil, Nat.zero_add]
    rw [hLn11] at h hG11
    replace hG11 : GrowO 1 3 (.slice ad11 (l ++ [m % 10000]).length c11) (l ++ [m % 10000]).length (List.map encn (l ++ [m % 10000])) o11 := by rw [List.map_append]; exact hG11
    refine gL h (za rfl (zn (zr (zm rfl (zp (Pure1.cast (v' := .int .u64 ((m / 10000 : Nat) : Int)) (.binOp rfl rfl (fun _ => run_quo _ _ _ _ _ (by decide))) (by rw [show (10000 : Int) = ((10000 : Nat) : Int) from rfl, tdiv_nat, wrap_u64n (Nat.lt_of_le_of_lt (Nat.div_le_self _ _) (Nat.lt_of_le_of_lt hm hn))])) (za rfl (zn ?_))))))); clear h; intro a w h
    exact ⟨m / 10000, ⟨l ++ [m % 10000], ad11, c11, o11, by omega, by rw [hd, dg_pos (Nat.ne_of_gt hm0)]; simp, hG11, by exact h.sub sA⟩, by omega⟩
  · skip
    have hm0 : m = 0 := by have := of_decide_eq_false hc5; omega
    refine gC h (ze (zs (zr (zm rfl (za rfl (zn (zt ?_))))))); clear h; intro a w h
    obtain rfl : l = dg n := by rw [hd, hm0, dg_zero, List.append_nil]
    exact ret_of (Ψ := [Row ad (List.map encn (dg n))]) (h.shareO' hS hG) (results1 h rfl (.tmp rfl)) ⟨ad, c, rfl, hG.le, rfl⟩ (by simp)

theorem drop_zero {l : List Nat} {i : Nat} (h : l.length ≤ i) : valD (l.drop i) = 0 := valD_drop_ge h

theorem C_rAdd (ad1 ad2 : Option Addr) (c1 c2 : Nat) (n m : Nat) (h1 : (dg n).length ≤ 1000000000000) (h2 : (dg m).length ≤ 1000000000000) :
    Ctr Tryz.prog 173 [.slice ad1 (dg n).length c1, .slice ad2 (dg m).length c2] [Row ad1 (List.map encn (dg n)), Row ad2 (List.map encn (dg m))] (PostN (n + m)) := by
  refine fn_intro Tryz.func173 rfl Tryz.ntmps173 nb ?_
  intro S w0 a hS h
  refine gC h (zs (zr (za rfl (zn (zs (zr (za rfl (zn (zs (zr (za rfl (zn (zs (zs (zr (za rfl (zn (zb ?_)))))))))))))))))); clear h; intro a w h
  refine wp_loop_inv (fun (i : Nat) a w => ∃ k Z ad c o, i ≤ max (dg n).length (dg m).length + 1 ∧ k ≤ 1 ∧ (i = max (dg n).length (dg m).length + 1 → k = 0) ∧ Z.length = i ∧ Dd Z ∧ valD Z + 10000 ^ i * (k + valD ((dg n).drop i) + valD ((dg m).drop i)) = n + m ∧ GrowO 1 3 (.slice ad Z.length c) Z.length (List.map encn Z) o ∧ St 43 S w0 [(0, .slice ad1 ((dg n).length) c1), (1, .slice ad2 ((dg m).length) c2), (5, .slice ad Z.length c), (6, .int .i64 ((k : Nat) : Int)), (7, .int .i64 ((i : Nat) : Int))] (o ++ []) [Row ad1 (List.map encn (dg n)), Row ad2 (List.map encn (dg m))] a w) (fun i => max (dg n).length (dg m).length + 1 - i) (0) (⟨0, [], none, 0, [], Nat.zero_le _, by omega, fun _ => rfl, rfl, (fun x hx => by cases hx), by simp [valD, valD_dg], GrowO.nil _ _, by exact h.sub (subL ⟨rfl, rfl, rfl, rfl, rfl, trivial⟩)⟩) ?_; clear h
  rintro i a w ⟨k, Z, ad, c, o, hi, hk, hik, hl, hw, hv, hG, h⟩
  have e1 := dlt n i
  have e2 := dlt m i
  refine gC h (zs (zs (zr (zm rfl (zm rfl (zp (.builtin [_] rfl (len_slice_52 _ _ _)) (zp (.lss rfl rfl) ?_))))))); clear h; intro a w h
  refine by_bool h (fun hc12 h => ?_) (fun hc12 h => ?_)
  · skip
    have hrun : i ≤ max (dg n).length (dg m).length := by have := of_decide_eq_true hc12; omega
    refine gL h (zm rfl (zo 13 rfl rfl rfl (zo 13 rfl rfl rfl (zo 13 rfl rfl rfl (zo 13 rfl rfl rfl (zp (.pickT rfl rfl) (zm rfl (zo 19 rfl rfl rfl (zo 19 rfl rfl rfl (zp (.pickT rfl rfl) (zn ?_))))))))))); clear h; intro a w h
    change Code.wp _ _ _ _ _
    refine cond_true h rfl ?_
    refine gC h (zk (zs (zb (zs (zr (zm rfl (zm rfl (zw [_, _] rfl Tryz.call180 (C_rat _ _ (dg n) (i)) (zm rfl (zm rfl (zw [_, _] rfl Tryz.call180 (C_rat _ _ (dg m) (i)) (zp (Pure1.cast (v' := (.int .i64 ((((dg n).getD i 0) + ((dg m).getD i 0) : Nat) : Int))) (.add rfl rfl) (by show Value.int _ _ = Value.int _ _; congr 1)) (zm rfl (zp (Pure1.cast (v' := (.int .i64 (((((dg n).getD i 0) + ((dg m).getD i 0)) + k : Nat) : Int))) (.add rfl rfl) (by show Value.int _ _ = Value.int _ _; congr 1)) (za rfl (zn (zs (zr (zm rfl (zm rfl (zp (Pure1.cast (v' := .int .i64 ((((dg n).getD i 0 + (dg m).getD i 0 + k) % 10000 : Nat) : Int)) (.binOp rfl rfl (fun _ => run_rem _ _ _ _ _ (by decide))) (by rw [show (10000 : Int) = ((10000 : Nat) : Int) from rfl, tmod_nat])) (zB [(_, _)] rfl (bs_52_1_0 _) fun b37 => ?_)))))))))))))))))))))); clear h; intro a w h
    refine wpl_plain (op_appendO (σr := []) h rfl rfl (List.Perm.trans (List.Perm.refl _) (List.Perm.cons _ (List.Perm.refl _))) hG Tryz.runUnderlying52 Tryz.runUnderlying52 Tryz.typeInfo3 Tryz.sizeOf3 Tryz.zeroValue3 rfl (by decide) (by decide) rfl rfl (by decide) (by show 8 * (2 * ((Z).length + 1) + 192) ≤ 281474976710656; omega) (by decide) ?_); clear h
    intro v38 o38 a w hG38 h
    obtain ⟨ad38, c38, rfl⟩ := hG38.is
    have hLn38 : (Z).length + 1 = (Z ++ [((dg n).getD i 0 + (dg m).getD i 0 + k) % 10000]).length := by simp only [List.length_append, List.length_cons, List.length_nil, Nat.zero_add]
    rw [hLn38] at h hG38
    replace hG38 : GrowO 1 3 (.slice ad38 (Z ++ [((dg n).getD i 0 + (dg m).getD i 0 + k) % 10000]).length c38) (Z ++ [((dg n).getD i 0 + (dg m).getD i 0 + k) % 10000]).length (List.map encn (Z ++ [((dg n).getD i 0 + (dg m).getD i 0 + k) % 10000])) o38 := by rw [List.map_append]; exact hG38
    refine gL h (za rfl (zn (zr (zm rfl (zp (Pure1.cast (v' := .int .i64 ((((dg n).getD i 0 + (dg m).getD i 0 + k) / 10000 : Nat) : Int)) (.binOp rfl rfl (fun _ => run_quo _ _ _ _ _ (by decide))) (by rw [show (10000 : Int) = ((10000 : Nat) : Int) from rfl, tdiv_nat, wrap_i64 _ (by omega) (by omega)])) (za rfl (zn (zr (zm rfl (zp (Pure1.cast (v' := (.int .i64 ((i + 1 : Nat) : Int))) (.add rfl rfl) (by show Value.int _ _ = Value.int _ _; congr 1)) (za rfl (zn ?_)))))))))))); clear h; intro a w h
    exact ⟨i + 1, ⟨((dg n).getD i 0 + (dg m).getD i 0 + k) / 10000, Z ++ [((dg n).getD i 0 + (dg m).getD i 0 + k) % 10000], ad38, c38, o38, by omega, by omega, fun hx => by rw [getD_ge (l := dg n) (by omega), getD_ge (l := dg m) (by omega)]; omega, by rw [List.length_append, hl]; rfl, hw.snoc (Nat.mod_lt _ (by decide)), radd_step hl hv, hG38, by exact h.sub sA⟩, by omega⟩
  · skip
    have hna : (dg n).length ≤ i := by have := of_decide_eq_false hc12; omega
    refine gL h (zm rfl (zq 13 rfl rfl (.move rfl) (zq 13 rfl rfl (.move rfl) (zq 13 rfl rfl (.builtin [_] rfl (len_slice_52 _ _ _)) (zq 13 rfl rfl (.lss rfl rfl) ?_))))); clear h; intro a w h
    refine by_bool h (fun hc17 h => ?_) (fun hc17 h => ?_)
    · skip
      have hrun : i ≤ max (dg n).length (dg m).length := by have := of_decide_eq_true hc17; omega
      refine gL h (zp (.pickF rfl rfl) (zm rfl (zo 19 rfl rfl rfl (zo 19 rfl rfl rfl (zp (.pickT rfl rfl) (zn ?_)))))); clear h; intro a w h
      change Code.wp _ _ _ _ _
      refine cond_true h rfl ?_
      refine gC h (zk (zs (zb (zs (zr (zm rfl (zm rfl (zw [_, _] rfl Tryz.call180 (C_rat _ _ (dg n) (i)) (zm rfl (zm rfl (zw [_, _] rfl Tryz.call180 (C_rat _ _ (dg m) (i)) (zp (Pure1.cast (v' := (.int .i64 ((((dg n).getD i 0) + ((dg m).getD i 0) : Nat) : Int))) (.add rfl rfl) (by show Value.int _ _ = Value.int _ _; congr 1)) (zm rfl (zp (Pure1.cast (v' := (.int .i64 (((((dg n).getD i 0) + ((dg m).getD i 0)) + k : Nat) : Int))) (.add rfl rfl) (by show Value.int _ _ = Value.int _ _; congr 1)) (za rfl (zn (zs (zr (zm rfl (zm rfl (zp (Pure1.cast (v' := .int .i64 ((((dg n).getD i 0 + (dg m).getD i 0 + k) % 10000 : Nat) : Int)) (.binOp rfl rfl (fun _ => run_rem _ _ _ _ _ (by decide))) (by rw [show (10000 : Int) = ((10000 : Nat) : Int) from rfl, tmod_nat])) (zB [(_, _)] rfl (bs_52_1_0 _) fun b37 => ?_)))))))))))))))))))))); clear h; intro a w h
      refine wpl_plain (op_appendO (σr := []) h rfl rfl (List.Perm.trans (List.Perm.refl _) (List.Perm.cons _ (List.Perm.refl _))) hG Tryz.runUnderlying52 Tryz.runUnderlying52 Tryz.typeInfo3 Tryz.sizeOf3 Tryz.zeroValue3 rfl (by decide) (by decide) rfl rfl (by decide) (by show 8 * (2 * ((Z).length + 1) + 192) ≤ 281474976710656; omega) (by decide) ?_); clear h
      intro v38 o38 a w hG38 h
      obtain ⟨ad38, c38, rfl⟩ := hG38.is
      have hLn38 : (Z).length + 1 = (Z ++ [((dg n).getD i 0 + (dg m).getD i 0 + k) % 10000]).length := by simp only [List.length_append, List.length_cons, List.length_nil, Nat.zero_add]
      rw [hLn38] at h hG38
      replace hG38 : GrowO 1 3 (.slice ad38 (Z ++ [((dg n).getD i 0 + (dg m).getD i 0 + k) % 10000]).length c38) (Z ++ [((dg n).getD i 0 + (dg m).getD i 0 + k) % 10000]).length (List.map encn (Z ++ [((dg n).getD i 0 + (dg m).getD i 0 + k) % 10000])) o38 := by rw [List.map_append]; exact hG38
      refine gL h (za rfl (zn (zr (zm rfl (zp (Pure1.cast (v' := .int .i64 ((((dg n).getD i 0 + (dg m).getD i 0 + k) / 10000 : Nat) : Int)) (.binOp rfl rfl (fun _ => run_quo _ _ _ _ _ (by decide))) (by rw [show (10000 : Int) = ((10000 : Nat) : Int) from rfl, tdiv_nat, wrap_i64 _ (by omega) (by omega)])) (za rfl (zn (zr (zm rfl (zp (Pure1.cast (v' := (.int .i64 ((i + 1 : Nat) : Int))) (.add rfl rfl) (by show Value.int _ _ = Value.int _ _; congr 1)) (za rfl (zn ?_)))))))))))); clear h; intro a w h
      exact ⟨i + 1, ⟨((dg n).getD i 0 + (dg m).getD i 0 + k) / 10000, Z ++ [((dg n).getD i 0 + (dg m).getD i 0 + k) % 10000], ad38, c38, o38, by omega, by omega, fun hx => by rw [getD_ge (l := dg n) (by omega), getD_ge (l := dg m) (by omega)]; omega, by rw [List.length_append, hl]; rfl, hw.snoc (Nat.mod_lt _ (by decide)), radd_step hl hv, hG38, by exact h.sub sA⟩, by omega⟩
    · skip
      have hnb : (dg m).length ≤ i := by have := of_decide_eq_false hc17; omega
      refine gL h (zp (.pickF rfl rfl) (zm rfl (zq 19 rfl rfl (.move rfl) (zq 19 rfl rfl (.gtr rfl rfl) ?_)))); clear h; intro a w h
      refine by_bool h (fun hc21 h => ?_) (fun hc21 h => ?_)
      · skip
        have hrun : i ≤ max (dg n).length (dg m).length := by have := of_decide_eq_true hc21; omega
        refine gL h (zp (.pickF rfl rfl) (zn ?_)); clear h; intro a w h
        change Code.wp _ _ _ _ _
        refine cond_true h rfl ?_
        refine gC h (zk (zs (zb (zs (zr (zm rfl (zm rfl (zw [_, _] rfl Tryz.call180 (C_rat _ _ (dg n) (i)) (zm rfl (zm rfl (zw [_, _] rfl Tryz.call180 (C_rat _ _ (dg m) (i)) (zp (Pure1.cast (v' := (.int .i64 ((((dg n).getD i 0) + ((dg m).getD i 0) : Nat) : Int))) (.add rfl rfl) (by show Value.int _ _ = Value.int _ _; congr 1)) (zm rfl (zp (Pure1.cast (v' := (.int .i64 (((((dg n).getD i 0) + ((dg m).getD i 0)) + k : Nat) : Int))) (.add rfl rfl) (by show Value.int _ _ = Value.int _ _; congr 1)) (za rfl (zn (zs (zr (zm rfl (zm rfl (zp (Pure1.cast (v' := .int .i64 ((((dg n).getD i 0 + (dg m).getD i 0 + k) % 10000 : Nat) : Int)) (.binOp rfl rfl (fun _ => run_rem _ _ _ _ _ (by decide))) (by rw [show (10000 : Int) = ((10000 : Nat) : Int) from rfl, tmod_nat])) (zB [(_, _)] rfl (bs_52_1_0 _) fun b37 => ?_)))))))))))))))))))))); clear h; intro a w h
        refine wpl_plain (op_appendO (σr := []) h rfl rfl (List.Perm.trans (List.Perm.refl _) (List.Perm.cons _ (List.Perm.refl _))) hG Tryz.runUnderlying52 Tryz.runUnderlying52 Tryz.typeInfo3 Tryz.sizeOf3 Tryz.zeroValue3 rfl (by decide) (by decide) rfl rfl (by decide) (by show 8 * (2 * ((Z).length + 1) + 192) ≤ 281474976710656; omega) (by decide) ?_); clear h
        intro v38 o38 a w hG38 h
        obtain ⟨ad38, c38, rfl⟩ := hG38.is
        have hLn38 : (Z).length + 1 = (Z ++ [((dg n).getD i 0 + (dg m).getD i 0 + k) % 10000]).length := by simp only [List.length_append, List.length_cons, List.length_nil, Nat.zero_add]
        rw [hLn38] at h hG38
        replace hG38 : GrowO 1 3 (.slice ad38 (Z ++ [((dg n).getD i 0 + (dg m).getD i 0 + k) % 10000]).length c38) (Z ++ [((dg n).getD i 0 + (dg m).getD i 0 + k) % 10000]).length (List.map encn (Z ++ [((dg n).getD i 0 + (dg m).getD i 0 + k) % 10000])) o38 := by rw [List.map_append]; exact hG38
        refine gL h (za rfl (zn (zr (zm rfl (zp (Pure1.cast (v' := .int .i64 ((((dg n).getD i 0 + (dg m).getD i 0 + k) / 10000 : Nat) : Int)) (.binOp rfl rfl (fun _ => run_quo _ _ _ _ _ (by decide))) (by rw [show (10000 : Int) = ((10000 : Nat) : Int) from rfl, tdiv_nat, wrap_i64 _ (by omega) (by omega)])) (za rfl (zn (zr (zm rfl (zp (Pure1.cast (v' := (.int .i64 ((i + 1 : Nat) : Int))) (.add rfl rfl) (by show Value.int _ _ = Value.int _ _; congr 1)) (za rfl (zn ?_)))))))))))); clear h; intro a w h
        exact ⟨i + 1, ⟨((dg n).getD i 0 + (dg m).getD i 0 + k) / 10000, Z ++ [((dg n).getD i 0 + (dg m).getD i 0 + k) % 10000], ad38, c38, o38, by omega, by omega, fun hx => by rw [getD_ge (l := dg n) (by omega), getD_ge (l := dg m) (by omega)]; omega, by rw [List.length_append, hl]; rfl, hw.snoc (Nat.mod_lt _ (by decide)), radd_step hl hv, hG38, by exact h.sub sA⟩, by omega⟩
      · skip
        have hk0 : k = 0 := by have := of_decide_eq_false hc21; omega
        refine gL h (zp (.pickF rfl rfl) (zn ?_)); clear h; intro a w h
        change Code.wp _ _ _ _ _
        refine cond_false h rfl ?_
        refine gC h (ze (zs (zr (zm rfl ?_)))); clear h; intro a w h
        replace h := h.shareO' hS hG
        have hZ : valD Z = n + m := by rw [hk0, drop_zero hna, drop_zero hnb] at hv; simpa using hv
        refine gL h (zf [_] rfl Tryz.call181 (C_trim ad c Z hw hG.le (by omega)) ?_); clear h; rintro v42 Ψ42 ht a w h
        refine gL h (za rfl (zn (zt ?_))); clear h; intro a w h
        exact ret_of h (results1 h rfl (.tmp rfl)) (trimmed ht hZ hw hG.le) (fun R hR => List.mem_append_left _ hR)

theorem C_rSub (ad1 ad2 : Option Addr) (c1 c2 : Nat) (n m : Nat) (h1 : (dg n).length ≤ 1000000000000) (h2 : (dg m).length ≤ 1000000000000) (hle : m ≤ n) :
    Ctr Tryz.prog 178 [.slice ad1 (dg n).length c1, .slice ad2 (dg m).length c2] [Row ad1 (List.map encn (dg n)), Row ad2 (List.map encn (dg m))] (PostN (n - m)) := by
  refine fn_intro Tryz.func178 rfl Tryz.ntmps178 nb ?_
  intro S w0 a hS h
  refine gC h (zs (zr (za rfl (zn (zs (zr (za rfl (zn (zs (zr (za rfl (zn (zs (zs (zr (za rfl (zn (zb ?_)))))))))))))))))); clear h; intro a w h
  refine wp_loop_inv (fun (i : Nat) a w => ∃ k Z ad c o, i ≤ (dg n).length ∧ k ≤ 1 ∧ Z.length = i ∧ Dd Z ∧ valD Z + m + 10000 ^ i * valD ((dg n).drop i) = n + 10000 ^ i * (k + valD ((dg m).drop i)) ∧ GrowO 1 3 (.slice ad Z.length c) Z.length (List.map encn Z) o ∧ St 35 S w0 [(0, .slice ad1 ((dg n).length) c1), (1, .slice ad2 ((dg m).length) c2), (5, .slice ad Z.length c), (6, .int .i64 ((k : Nat) : Int)), (7, .int .i64 ((i : Nat) : Int))] (o ++ []) [Row ad1 (List.map encn (dg n)), Row ad2 (List.map encn (dg m))] a w) (fun i => (dg n).length - i) (0) (⟨0, [], none, 0, [], Nat.zero_le _, by omega, rfl, (fun x hx => by cases hx), by simp [valD, valD_dg, Nat.add_comm], GrowO.nil _ _, by exact h.sub (subL ⟨rfl, rfl, rfl, rfl, rfl, trivial⟩)⟩) ?_; clear h
  rintro i a w ⟨k, Z, ad, c, o, hi, hk, hl, hw, hv, hG, h⟩
  have e1 := dlt n i
  have e2 := dlt m i
  refine gC h (zs (zs (zr (zm rfl (zm rfl (zp (.builtin [_] rfl (len_slice_52 _ _ _)) (zp (.lss rfl rfl) (zn ?_)))))))); clear h; intro a w h
  change Code.wp _ _ _ _ _
  refine cond_split h rfl (fun hc12 => ?_) (fun hc12 => ?_)
  · skip
    have hrun : i < (dg n).length := by have := of_decide_eq_true hc12; omega
    obtain ⟨B_ad, O_ad, rfl⟩ := h.row_addr (ad := ad1) (M := List.map encn (dg n)) mm (by intro e; have := congrArg List.length e; simp only [List.length_map, List.length_nil] at this; omega)
    refine gC h (zk (zs (zb (zs (yD mixed_YtealgpgmbflilaaGreatDoor [0, 1, 2, 3, 4, 5, 8, 6, 7, 9, 10] (floatsOK_none (by kernel_rfl)) (yp rfl (.move rfl) (yp rfl (.move rfl) (yp rfl (.indexAddr rfl rfl (ix_52 _ _ _ _ _ (by omega))) ?_)))))))); clear h
    refine head_loadRow rfl (by kernel_rfl) rfl mm (by rw [List.length_map]; omega) Tryz.isAgg3 Tryz.sizeOf3 (read_row (enc := encn) (l := (dg n)) 0 (by omega)) (.inr rfl) (by decide) ?_
    refine yp rfl (.move rfl) (yp rfl (.move rfl) (yp rfl (.move rfl) (yw [_, _] rfl rfl Tryz.call180 (C_rat _ _ (dg m) (i)) (yp rfl (.sub rfl rfl) (yp rfl (.sub rfl rfl) (yp rfl (.assign rfl) (yn (zs (zr (za rfl (zn (zs (zs (zr (zm rfl (zp (.lss rfl rfl) (zn ?_))))))))))))))))); intro a w h
    change Code.wp _ _ _ _ _
    refine cond_split h rfl (fun hc26 => ?_) (fun hc26 => ?_)
    · skip
      have hneg := of_decide_eq_true hc26
      obtain ⟨d, hd⟩ : ∃ d : Nat, d + (dg m).getD i 0 + k = (dg n).getD i 0 + 10000 * 1 := ⟨(dg n).getD i 0 + 10000 - (dg m).getD i 0 - k, by omega⟩
      have hd1 : d < 10000 := by omega
      refine gC h (zs (zr (zm rfl (zp (Pure1.cast (v' := .int .i64 ((d : Nat) : Int)) (.add rfl rfl) (by show Value.int _ _ = Value.int _ _; congr 1; omega)) (za rfl (zn (zr (za rfl (zn (zr (zm rfl (zp (Pure1.cast (v' := .int .i64 ((d : Nat) : Int)) (.move rfl) (by first | rfl | (show Value.int _ _ = Value.int _ _; congr 1; omega))) (zB [(_, _)] rfl (bs_52_1_0 _) fun b31 => ?_))))))))))))); clear h; intro a w h
      refine wpl_plain (op_appendO (σr := []) h rfl rfl (List.Perm.trans (List.Perm.refl _) (List.Perm.cons _ (List.Perm.refl _))) hG Tryz.runUnderlying52 Tryz.runUnderlying52 Tryz.typeInfo3 Tryz.sizeOf3 Tryz.zeroValue3 rfl (by decide) (by decide) rfl rfl (by decide) (by show 8 * (2 * ((Z).length + 1) + 192) ≤ 281474976710656; omega) (by decide) ?_); clear h
      intro v32 o32 a w hG32 h
      obtain ⟨ad32, c32, rfl⟩ := hG32.is
      have hLn32 : (Z).length + 1 = (Z ++ [d]).length := by simp only [List.length_append, List.length_cons, List.length_nil, Nat.zero_add]
      rw [hLn32] at h hG32
      replace hG32 : GrowO 1 3 (.slice ad32 (Z ++ [d]).length c32) (Z ++ [d]).length (List.map encn (Z ++ [d])) o32 := by rw [List.map_append]; exact hG32
      refine gL h (za rfl (zn (zr (zm rfl (zp (Pure1.cast (v' := (.int .i64 ((i + 1 : Nat) : Int))) (.add rfl rfl) (by show Value.int _ _ = Value.int _ _; congr 1)) (za rfl (zn ?_))))))); clear h; intro a w h
      exact ⟨i + 1, ⟨1, Z ++ [d], ad32, c32, o32, by omega, by omega, by rw [List.length_append, hl]; rfl, hw.snoc hd1, rsub_step hl hd hv, hG32, by exact h.sub sA⟩, by omega⟩
    · skip
      have hneg := of_decide_eq_false hc26
      obtain ⟨d, hd⟩ : ∃ d : Nat, d + (dg m).getD i 0 + k = (dg n).getD i 0 + 10000 * 0 := ⟨(dg n).getD i 0 - (dg m).getD i 0 - k, by omega⟩
      have hd1 : d < 10000 := by omega
      refine gC h (zk (zr (zm rfl (zp (Pure1.cast (v' := .int .i64 ((d : Nat) : Int)) (.move rfl) (by first | rfl | (show Value.int _ _ = Value.int _ _; congr 1; omega))) (zB [(_, _)] rfl (bs_52_1_0 _) fun b31 => ?_))))); clear h; intro a w h
      refine wpl_plain (op_appendO (σr := []) h rfl rfl (List.Perm.trans (List.Perm.refl _) (List.Perm.cons _ (List.Perm.refl _))) hG Tryz.runUnderlying52 Tryz.runUnderlying52 Tryz.typeInfo3 Tryz.sizeOf3 Tryz.zeroValue3 rfl (by decide) (by decide) rfl rfl (by decide) (by show 8 * (2 * ((Z).length + 1) + 192) ≤ 281474976710656; omega) (by decide) ?_); clear h
      intro v32 o32 a w hG32 h
      obtain ⟨ad32, c32, rfl⟩ := hG32.is
      have hLn32 : (Z).length + 1 = (Z ++ [d]).length := by simp only [List.length_append, List.length_cons, List.length_nil, Nat.zero_add]
      rw [hLn32] at h hG32
      replace hG32 : GrowO 1 3 (.slice ad32 (Z ++ [d]).length c32) (Z ++ [d]).length (List.map encn (Z ++ [d])) o32 := by rw [List.map_append]; exact hG32
      refine gL h (za rfl (zn (zr (zm rfl (zp (Pure1.cast (v' := (.int .i64 ((i + 1 : Nat) : Int))) (.add rfl rfl) (by show Value.int _ _ = Value.int _ _; congr 1)) (za rfl (zn ?_))))))); clear h; intro a w h
      exact ⟨i + 1, ⟨0, Z ++ [d], ad32, c32, o32, by omega, by omega, by rw [List.length_append, hl]; rfl, hw.snoc hd1, rsub_step hl hd hv, hG32, by exact h.sub sA⟩, by omega⟩
  · skip
    have hna : i = (dg n).length := by have := of_decide_eq_false hc12; omega
    refine gC h (ze (zs (zr (zm rfl ?_)))); clear h; intro a w h
    replace h := h.shareO' hS hG
    have hZ : valD Z = n - m := by rw [hna, drop_zero (Nat.le_refl _), drop_zero (dg_len_mono hle)] at hv; exact dsub_end hw (hl.trans hna) hle (by simpa using hv)
    refine gL h (zf [_] rfl Tryz.call181 (C_trim ad c Z hw hG.le (by omega)) ?_); clear h; rintro v34 Ψ34 ht a w h
    refine gL h (za rfl (zn (zt ?_))); clear h; intro a w h
    exact ret_of h (results1 h rfl (.tmp rfl)) (trimmed ht hZ hw hG.le) (fun R hR => List.mem_append_left _ hR)

theorem map_reps (n : Nat) : List.map encn (List.replicate n 0) = reps n (Value.cells (.int .i64 0)).toList := by
  rw [List.map_replicate]; unfold reps
  induction n with
  | zero => rfl
  | succ n ih => rw [List.replicate_succ, List.replicate_succ, List.flatten_cons, ← ih]; rfl

theorem C_rMul (ad1 ad2 : Option Addr) (c1 c2 : Nat) (n m : Nat) (h1 : (dg n).length ≤ 1000000000000) (h2 : (dg m).length ≤ 1000000000000) :
    Ctr Tryz.prog 140 [.slice ad1 (dg n).length c1, .slice ad2 (dg m).length c2] [Row ad1 (List.map encn (dg n)), Row ad2 (List.map encn (dg m))] (PostN (n * m)) := by
  refine fn_intro Tryz.func140 rfl Tryz.ntmps140 nb ?_
  intro S w0 a hS h
  refine gC h (zs (zr (za rfl (zn (zs (zr (zm rfl (zp (.builtin [_] rfl (len_slice_52 _ _ _)) (zm rfl (zp (.builtin [_] rfl (len_slice_52 _ _ _)) (zp (Pure1.cast (v' := (.int .i64 ((((dg n).length) + ((dg m).length) : Nat) : Int))) (.add rfl rfl) (by show Value.int _ _ = Value.int _ _; congr 1)) ?_))))))))))); clear h; intro a w h
  refine wpl_plain (op_makeSlice h rfl rfl Tryz.runUnderlying52 Tryz.typeInfo3 Tryz.sizeOf3 Tryz.zeroValue3 rfl (by decide) (by omega) (by show 8 * (((dg n).length) + ((dg m).length)) ≤ 281474976710656; omega) (by omega) (by decide) ?_); clear h; intro b15 a w h; replace h := h.same rfl (by rw [← map_reps]) rfl
  refine gL h (za rfl (zn (zs (zs (zr (za rfl (zn (zb ?_)))))))); clear h; intro a w h
  refine wp_loop_inv (fun (i : Nat) a w => i ≤ (dg n).length ∧ ∃ Z, (Z.length = (dg n).length + (dg m).length ∧ Dd Z ∧ valD Z = valD ((dg n).take i) * m) ∧ St 60 S w0 [(0, .slice ad1 ((dg n).length) c1), (1, .slice ad2 ((dg m).length) c2), (5, .slice (some ⟨b15, 0, none⟩) (((dg n).length) + ((dg m).length)) (((dg n).length) + ((dg m).length))), (6, .int .i64 ((i : Nat) : Int))] [(b15, .cells (List.map encn (Z)).toArray 3 (0, 0))] [Row ad1 (List.map encn (dg n)), Row ad2 (List.map encn (dg m))] a w) (fun i => (dg n).length - i) 0 (⟨Nat.zero_le _, List.replicate _ 0, ⟨by rw [List.length_replicate], Dd.zeros _, by rw [valD_zeros _ (fun x hx => List.eq_of_mem_replicate hx)]; simp [valD]⟩, by exact (h).sub (subL ⟨rfl, rfl, rfl, rfl, trivial⟩)⟩) ?_; clear h
  rintro i a w ⟨hi_i, Z, ⟨hl, hw, hv⟩, h⟩
  refine gC h (zs (zs (zr (zm rfl (zm rfl (zp (.builtin [_] rfl (len_slice_52 _ _ _)) (zp (.lss rfl rfl) (zn ?_)))))))); clear h; intro a w h
  change Code.wp _ _ _ _ _
  refine cond_split h rfl (fun hc19 => ?_) (fun hc19 => ?_)
  · skip
    have hlt_i : i < (dg n).length := by have := of_decide_eq_true hc19; omega
    obtain ⟨B_ad1, O_ad1, rfl⟩ := h.row_addr (ad := ad1) (M := List.map encn (dg n)) mm (by intro e; have := congrArg List.length e; simp only [List.length_map, List.length_nil] at this; omega)
    refine gC h (zk (zs (zb (zs (zr (za rfl (zn (zs (zr (za rfl (zn (zb ?_)))))))))))); clear h; intro a w h
    refine wp_loop_inv (fun (k : Nat) a w => ∃ c Z, (k ≤ (dg m).length + 1 ∧ c < 10000 ∧ (k = (dg m).length + 1 → c = 0) ∧ (k ≤ (dg m).length → Z.getD (i + (dg m).length) 0 = 0) ∧ Z.length = (dg n).length + (dg m).length ∧ Dd Z ∧ valD Z + 10000 ^ (i + k) * c + 10000 ^ (i + k) * ((dg n).getD i 0 * valD ((dg m).drop k)) = valD ((dg n).take i) * m + 10000 ^ i * ((dg n).getD i 0 * m)) ∧ St 60 S w0 [(0, .slice (some ⟨B_ad1, O_ad1, none⟩) ((dg n).length) c1), (1, .slice ad2 ((dg m).length) c2), (5, .slice (some ⟨b15, 0, none⟩) (((dg n).length) + ((dg m).length)) (((dg n).length) + ((dg m).length))), (6, .int .i64 ((i : Nat) : Int)), (7, .int .i64 ((c : Nat) : Int)), (8, .int .i64 ((k : Nat) : Int))] [(b15, .cells (List.map encn (Z)).toArray 3 (0, 0))] [Row (some ⟨B_ad1, O_ad1, none⟩) (List.map encn (dg n)), Row ad2 (List.map encn (dg m))] a w) (fun k => (dg m).length + 1 - k) (0) (⟨0, Z, ⟨Nat.zero_le _, by decide, fun _ => rfl, fun _ => dmul_zero_above (Dd.dg n) (Dd.dg m) (by rw [valD_dg]; exact hv) (Nat.le_refl _), hl, hw, by rw [hv]; simp [valD_dg]⟩, by exact h.sub (subL ⟨rfl, rfl, rfl, rfl, rfl, rfl, trivial⟩)⟩) ?_; clear h
    rintro k a w ⟨c, Z, ⟨hk, hc, hkc, hz, hl, hw, hv⟩, h⟩
    have e1 := dlt n i
    have e2 := dlt m k
    have hab : (dg n).getD i 0 * (dg m).getD k 0 ≤ 9999 * 9999 := Nat.mul_le_mul (by omega) (by omega)
    have e3 := hw.getD (i + k)
    refine gC h (zs (zs (zr (zm rfl (zm rfl (zp (.builtin [_] rfl (len_slice_52 _ _ _)) (zp (.lss rfl rfl) ?_))))))); clear h; intro a w h
    refine by_bool h (fun hc25 h => ?_) (fun hc25 h => ?_)
    · skip
      have hrun : k ≤ (dg m).length := by have := of_decide_eq_true hc25; omega
      refine gL h (zm rfl (zo 26 rfl rfl rfl (zo 26 rfl rfl rfl (zp (.pickT rfl rfl) (zn ?_))))); clear h; intro a w h
      change Code.wp _ _ _ _ _
      refine cond_true h rfl ?_
      refine gC h (zk (zs (zb (zs (yD mixed_YtealgpgmbflilaaGreatDoor [0, 1, 2, 3, 4, 5, 6, 7, 8, 9, 10, 11, 15, 12, 13, 14, 16, 17] (floatsOK_none (by kernel_rfl)) (yp rfl (.move rfl) (yp rfl (.move rfl) (yp rfl (.move rfl) (yp rfl (Pure1.cast (v' := (.int .i64 ((i + k : Nat) : Int))) (.add rfl rfl) (by show Value.int _ _ = Value.int _ _; congr 1)) (yp rfl (.indexAddr rfl rfl (ix_52 _ _ _ _ _ (by omega))) (yd rfl rfl mm Tryz.isAgg3 Tryz.sizeOf3 ((congrArg _ (Nat.zero_add _)).trans (read_row (enc := encn) (l := Z) 0 (by omega))) ?_))))))))))); clear h
      refine yp rfl (.move rfl) (yp rfl (.move rfl) (yp rfl (.indexAddr rfl rfl (ix_52 _ _ _ _ _ (by omega))) ?_))
      refine head_loadRow rfl (by kernel_rfl) rfl mm (by rw [List.length_map]; omega) Tryz.isAgg3 Tryz.sizeOf3 (read_row (enc := encn) (l := (dg n)) 0 (by omega)) (.inr rfl) (by decide) ?_
      refine yp rfl (.move rfl) (yp rfl (.move rfl) (yp rfl (.move rfl) (yw [_, _] rfl rfl Tryz.call180 (C_rat _ _ (dg m) (k)) (yp rfl (Pure1.cast (v' := (.int .i64 ((((dg n).getD i 0) * ((dg m).getD k 0) : Nat) : Int))) (.mul rfl rfl) (by show Value.int _ _ = Value.int _ _; congr 1)) (yp rfl (Pure1.cast (v' := (.int .i64 (((Z.getD (i + k) 0) + (((dg n).getD i 0) * ((dg m).getD k 0)) : Nat) : Int))) (.add rfl rfl) (by show Value.int _ _ = Value.int _ _; congr 1)) (yp rfl (Pure1.cast (v' := .int .i64 ((c + ((dg n).getD i 0 * (dg m).getD k 0 + Z.getD (i + k) 0) : Nat) : Int)) (Pure1.cast (v' := (.int .i64 ((((Z.getD (i + k) 0) + (((dg n).getD i 0) * ((dg m).getD k 0))) + c : Nat) : Int))) (.add rfl rfl) (by show Value.int _ _ = Value.int _ _; congr 1)) (by show Value.int _ _ = Value.int _ _; congr 1; omega)) (yp rfl (.assign rfl) (yn (zs (zr (zm rfl (zm rfl (zm rfl (zp (Pure1.cast (v' := (.int .i64 ((i + k : Nat) : Int))) (.add rfl rfl) (by show Value.int _ _ = Value.int _ _; congr 1)) (zm rfl (zp (Pure1.cast (v' := .int .i64 (((c + ((dg n).getD i 0 * (dg m).getD k 0 + Z.getD (i + k) 0)) % 10000 : Nat) : Int)) (.binOp rfl rfl (fun _ => run_rem _ _ _ _ _ (by decide))) (by rw [show (10000 : Int) = ((10000 : Nat) : Int) from rfl, tmod_nat])) (zp (.indexAddr rfl rfl (ix_52 _ _ _ _ _ (by omega))) (zt' rfl rfl ((congrArg (fun z => setFrom _ z _) (Nat.zero_add _)).trans (set_row (enc := encn) Z (i + k) ((c + ((dg n).getD i 0 * (dg m).getD k 0 + Z.getD (i + k) 0)) % 10000))) uu Tryz.sizeOf3 rfl (by simp; omega) rfl ?_)))))))))))))))))); intro a w h
      refine gL h (zn (zr (zm rfl (zp (Pure1.cast (v' := .int .i64 (((c + ((dg n).getD i 0 * (dg m).getD k 0 + Z.getD (i + k) 0)) / 10000 : Nat) : Int)) (.binOp rfl rfl (fun _ => run_quo _ _ _ _ _ (by decide))) (by rw [show (10000 : Int) = ((10000 : Nat) : Int) from rfl, tdiv_nat, wrap_i64 _ (by omega) (by omega)])) (za rfl (zn (zr (zm rfl (zp (Pure1.cast (v' := (.int .i64 ((k + 1 : Nat) : Int))) (.add rfl rfl) (by show Value.int _ _ = Value.int _ _; congr 1)) (za rfl (zn ?_))))))))))); clear h; intro a w h
      exact ⟨k + 1, ⟨(c + ((dg n).getD i 0 * (dg m).getD k 0 + Z.getD (i + k) 0)) / 10000, Z.set (i + k) ((c + ((dg n).getD i 0 * (dg m).getD k 0 + Z.getD (i + k) 0)) % 10000), ⟨by omega, by omega, (by intro hx; have hkl : k = (dg m).length := (by omega); rw [getD_ge (l := dg m) (by omega), hkl, hz (by omega)]; omega), (by intro hx; rw [getD_setw (by omega)]; exact hz (by omega)), by rw [List.length_set]; exact hl, hw.set _ _ (Nat.mod_lt _ (by decide)), dmul_step (by omega) hv⟩, by exact h.sub sA⟩, by omega⟩
    · skip
      have hnb : (dg m).length ≤ k := by have := of_decide_eq_false hc25; omega
      refine gL h (zm rfl (zq 26 rfl rfl (.move rfl) (zq 26 rfl rfl (.gtr rfl rfl) ?_))); clear h; intro a w h
      refine by_bool h (fun hc28 h => ?_) (fun hc28 h => ?_)
      · skip
        have hrun : k ≤ (dg m).length := by have := of_decide_eq_true hc28; omega
        refine gL h (zp (.pickF rfl rfl) (zn ?_)); clear h; intro a w h
        change Code.wp _ _ _ _ _
        refine cond_true h rfl ?_
        refine gC h (zk (zs (zb (zs (yD mixed_YtealgpgmbflilaaGreatDoor [0, 1, 2, 3, 4, 5, 6, 7, 8, 9, 10, 11, 15, 12, 13, 14, 16, 17] (floatsOK_none (by kernel_rfl)) (yp rfl (.move rfl) (yp rfl (.move rfl) (yp rfl (.move rfl) (yp rfl (Pure1.cast (v' := (.int .i64 ((i + k : Nat) : Int))) (.add rfl rfl) (by show Value.int _ _ = Value.int _ _; congr 1)) (yp rfl (.indexAddr rfl rfl (ix_52 _ _ _ _ _ (by omega))) (yd rfl rfl mm Tryz.isAgg3 Tryz.sizeOf3 ((congrArg _ (Nat.zero_add _)).trans (read_row (enc := encn) (l := Z) 0 (by omega))) ?_))))))))))); clear h
        refine yp rfl (.move rfl) (yp rfl (.move rfl) (yp rfl (.indexAddr rfl rfl (ix_52 _ _ _ _ _ (by omega))) ?_))
        refine head_loadRow rfl (by kernel_rfl) rfl mm (by rw [List.length_map]; omega) Tryz.isAgg3 Tryz.sizeOf3 (read_row (enc := encn) (l := (dg n)) 0 (by omega)) (.inr rfl) (by decide) ?_
        refine yp rfl (.move rfl) (yp rfl (.move rfl) (yp rfl (.move rfl) (yw [_, _] rfl rfl Tryz.call180 (C_rat _ _ (dg m) (k)) (yp rfl (Pure1.cast (v' := (.int .i64 ((((dg n).getD i 0) * ((dg m).getD k 0) : Nat) : Int))) (.mul rfl rfl) (by show Value.int _ _ = Value.int _ _; congr 1)) (yp rfl (Pure1.cast (v' := (.int .i64 (((Z.getD (i + k) 0) + (((dg n).getD i 0) * ((dg m).getD k 0)) : Nat) : Int))) (.add rfl rfl) (by show Value.int _ _ = Value.int _ _; congr 1)) (yp rfl (Pure1.cast (v' := .int .i64 ((c + ((dg n).getD i 0 * (dg m).getD k 0 + Z.getD (i + k) 0) : Nat) : Int)) (Pure1.cast (v' := (.int .i64 ((((Z.getD (i + k) 0) + (((dg n).getD i 0) * ((dg m).getD k 0))) + c : Nat) : Int))) (.add rfl rfl) (by show Value.int _ _ = Value.int _ _; congr 1)) (by show Value.int _ _ = Value.int _ _; congr 1; omega)) (yp rfl (.assign rfl) (yn (zs (zr (zm rfl (zm rfl (zm rfl (zp (Pure1.cast (v' := (.int .i64 ((i + k : Nat) : Int))) (.add rfl rfl) (by show Value.int _ _ = Value.int _ _; congr 1)) (zm rfl (zp (Pure1.cast (v' := .int .i64 (((c + ((dg n).getD i 0 * (dg m).getD k 0 + Z.getD (i + k) 0)) % 10000 : Nat) : Int)) (.binOp rfl rfl (fun _ => run_rem _ _ _ _ _ (by decide))) (by rw [show (10000 : Int) = ((10000 : Nat) : Int) from rfl, tmod_nat])) (zp (.indexAddr rfl rfl (ix_52 _ _ _ _ _ (by omega))) (zt' rfl rfl ((congrArg (fun z => setFrom _ z _) (Nat.zero_add _)).trans (set_row (enc := encn) Z (i + k) ((c + ((dg n).getD i 0 * (dg m).getD k 0 + Z.getD (i + k) 0)) % 10000))) uu Tryz.sizeOf3 rfl (by simp; omega) rfl ?_)))))))))))))))))); intro a w h
        refine gL h (zn (zr (zm rfl (zp (Pure1.cast (v' := .int .i64 (((c + ((dg n).getD i 0 * (dg m).getD k 0 + Z.getD (i + k) 0)) / 10000 : Nat) : Int)) (.binOp rfl rfl (fun _ => run_quo _ _ _ _ _ (by decide))) (by rw [show (10000 : Int) = ((10000 : Nat) : Int) from rfl, tdiv_nat, wrap_i64 _ (by omega) (by omega)])) (za rfl (zn (zr (zm rfl (zp (Pure1.cast (v' := (.int .i64 ((k + 1 : Nat) : Int))) (.add rfl rfl) (by show Value.int _ _ = Value.int _ _; congr 1)) (za rfl (zn ?_))))))))))); clear h; intro a w h
        exact ⟨k + 1, ⟨(c + ((dg n).getD i 0 * (dg m).getD k 0 + Z.getD (i + k) 0)) / 10000, Z.set (i + k) ((c + ((dg n).getD i 0 * (dg m).getD k 0 + Z.getD (i + k) 0)) % 10000), ⟨by omega, by omega, (by intro hx; have hkl : k = (dg m).length := (by omega); rw [getD_ge (l := dg m) (by omega), hkl, hz (by omega)]; omega), (by intro hx; rw [getD_setw (by omega)]; exact hz (by omega)), by rw [List.length_set]; exact hl, hw.set _ _ (Nat.mod_lt _ (by decide)), dmul_step (by omega) hv⟩, by exact h.sub sA⟩, by omega⟩
      · skip
        have hk0 : c = 0 := by have := of_decide_eq_false hc28; omega
        refine gL h (zp (.pickF rfl rfl) (zn ?_)); clear h; intro a w h
        change Code.wp _ _ _ _ _
        refine cond_false h rfl ?_
        refine gC h (ze (zr (zm rfl (zp (Pure1.cast (v' := (.int .i64 ((i + 1 : Nat) : Int))) (.add rfl rfl) (by show Value.int _ _ = Value.int _ _; congr 1)) (za rfl (zn ?_)))))); clear h; intro a w h
        exact ⟨i + 1, ⟨by omega, Z, ⟨hl, hw, by rw [hk0, drop_zero hnb] at hv; rw [valD_take_succ' _ _ hlt_i, Nat.add_mul, Nat.mul_assoc, ← hv]; simp⟩, by exact (h.factsSub (by simp)).sub sA⟩, by omega⟩
  · skip
    have heq_i : (dg n).length = i := by have := of_decide_eq_false hc19; omega
    subst heq_i
    refine gC h (ze (zs (zr (zm rfl ?_)))); clear h; intro a w h
    rw [← hl] at h
    replace h := h.shareAll hS (List.map encn Z) rfl
    have hZ : valD Z = n * m := by rw [List.take_length, valD_dg] at hv; exact hv
    refine gL h (zf [_] rfl Tryz.call181 (C_trim (some ⟨b15, 0, none⟩) Z.length Z hw (Nat.le_refl _) (by omega)) ?_); clear h; rintro v59 Ψ59 ht a w h
    refine gL h (za rfl (zn (zt ?_))); clear h; intro a w h
    exact ret_of h (results1 h rfl (.tmp rfl)) (trimmed ht hZ hw (Nat.le_refl _)) (fun R hR => List.mem_append_left _ hR)

theorem C_rCmp (ad1 ad2 : Option Addr) (c1 c2 : Nat) (n m : Nat) (h1 : (dg n).length ≤ 1000000000000) (h2 : (dg m).length ≤ 1000000000000) :
    CtrW Tryz.prog 179 [.slice ad1 (dg n).length c1, .slice ad2 (dg m).length c2] [Row ad1 (List.map encn (dg n)), Row ad2 (List.map encn (dg m))] (.int .i64 (cmpI n m)) := by
  refine fn_intro Tryz.func179 rfl Tryz.ntmps179 nb ?_
  intro S w0 a hS h
  refine gC h (zs (zr (za rfl (zn (zs (zs (zr (zm rfl (zp (.builtin [_] rfl (len_slice_52 _ _ _)) (zm rfl (zp (.builtin [_] rfl (len_slice_52 _ _ _)) (zp (.lss rfl rfl) (zn ?_))))))))))))); clear h; intro a w h
  change Code.wp _ _ _ _ _
  refine cond_split h rfl (fun hc10 => ?_) (fun hc10 => ?_)
  · skip
    have hl1 : (dg n).length < (dg m).length := by have := of_decide_eq_true hc10; omega
    refine gC h (zs (zr (za rfl (zn (zt ?_))))); clear h; intro a w h
    refine retV h (results1 h rfl (.tmp rfl)) ?_
    unfold cmpI; rw [if_pos (dg_len_lt hl1)]
  · skip
    have hl1 : (dg m).length ≤ (dg n).length := by have := of_decide_eq_false hc10; omega
    refine gC h (zk (zs (zs (zr (zm rfl (zp (.builtin [_] rfl (len_slice_52 _ _ _)) (zm rfl (zp (.builtin [_] rfl (len_slice_52 _ _ _)) (zp (.gtr rfl rfl) (zn ?_)))))))))); clear h; intro a w h
    change Code.wp _ _ _ _ _
    refine cond_split h rfl (fun hc15 => ?_) (fun hc15 => ?_)
    · skip
      have hl2 : (dg m).length < (dg n).length := by have := of_decide_eq_true hc15; omega
      refine gC h (zs (zr (za rfl (zn (zt ?_))))); clear h; intro a w h
      refine retV h (results1 h rfl (.tmp rfl)) ?_
      have h3 := dg_len_lt hl2; unfold cmpI; rw [if_neg (by omega), if_pos h3]
    · skip
      have hl : (dg n).length = (dg m).length := by have := of_decide_eq_false hc15; omega
      refine gC h (zk (zs (zs (zr (zm rfl (zp (.builtin [_] rfl (len_slice_52 _ _ _)) (zp (.sub rfl rfl) (za rfl (zn (zb ?_)))))))))); clear h; intro a w h
      refine wp_loop_inv (fun (k : Nat) a w => (k ≤ (dg n).length ∧ (dg n).drop k = (dg m).drop k) ∧ St 41 S w0 [(0, .slice ad1 ((dg n).length) c1), (1, .slice ad2 ((dg m).length) c2), (5, .int .i64 (((k : Nat) : Int) - 1)), (18, .int .i64 (((((dg n).length : Nat) : Int)) - 1))] [] [Row ad1 (List.map encn (dg n)), Row ad2 (List.map encn (dg m))] a w) (fun k => k) ((dg n).length) (⟨⟨Nat.le_refl _, by rw [List.drop_eq_nil_of_le (Nat.le_refl _), List.drop_eq_nil_of_le (Nat.le_of_eq hl.symm)]⟩, by exact h.sub (subL ⟨rfl, rfl, rfl, rfl, trivial⟩)⟩) ?_; clear h
      rintro k a w ⟨⟨hN, hd⟩, h⟩
      refine gC h (zs (zs (zr (zm rfl (zp (.geq rfl rfl) (zn ?_)))))); clear h; intro a w h
      change Code.wp _ _ _ _ _
      refine cond_split h rfl (fun hc20 => ?_) (fun hc20 => ?_)
      · skip
        have hk : 1 ≤ k := by have := of_decide_eq_true hc20; omega
        obtain ⟨B_ad1, O_ad1, rfl⟩ := h.row_addr (ad := ad1) (M := List.map encn (dg n)) mm (by intro e; have := congrArg List.length e; simp only [List.length_map, List.length_nil] at this; omega)
        obtain ⟨B_ad2, O_ad2, rfl⟩ := h.row_addr (ad := ad2) (M := List.map encn (dg m)) mm (by intro e; have := congrArg List.length e; simp only [List.length_map, List.length_nil] at this; omega)
        refine gC h (zk (zs (zb (zs (zs (yD mixed_YtealgpgmbflilaaGreatDoor [0, 1, 2, 3, 4, 5, 6, 7, 8] (floatsOK_none (by kernel_rfl)) (yp rfl (.move rfl) (yp rfl (Pure1.cast (v' := .int .i64 ((k - 1 : Nat) : Int)) (.move rfl) (by show Value.int _ _ = Value.int _ _; congr 1; omega)) (yp rfl (.indexAddr rfl rfl (ix_52 _ _ _ _ _ (by omega))) ?_))))))))); clear h
        refine head_loadRow rfl (by kernel_rfl) rfl mm (by rw [List.length_map]; omega) Tryz.isAgg3 Tryz.sizeOf3 (read_row (enc := encn) (l := (dg n)) 0 (by omega)) (.inr rfl) (by decide) ?_
        refine yp rfl (.move rfl) (yp rfl (Pure1.cast (v' := .int .i64 ((k - 1 : Nat) : Int)) (.move rfl) (by show Value.int _ _ = Value.int _ _; congr 1; omega)) (yp rfl (.indexAddr rfl rfl (ix_52 _ _ _ _ _ (by omega))) ?_))
        refine head_loadRow rfl (by kernel_rfl) rfl mm (by rw [List.length_map]; omega) Tryz.isAgg3 Tryz.sizeOf3 (read_row (enc := encn) (l := (dg m)) 0 (by omega)) (.inr rfl) (by decide) ?_
        refine yp rfl (.lss rfl rfl) (yn ?_); intro a w h
        change Code.wp _ _ _ _ _
        refine cond_split h rfl (fun hc31 => ?_) (fun hc31 => ?_)
        · skip
          have hlt : (dg n).getD (k - 1) 0 < (dg m).getD (k - 1) 0 := by have := of_decide_eq_true hc31; omega
          refine gC h (zs (zr (za rfl (zn (zt ?_))))); clear h; intro a w h
          refine retV h (results1 h rfl (.tmp rfl)) ?_
          have h3 := valD_cmp (Dd.dg n) (Dd.dg m) hlt (by rw [Nat.sub_add_cancel hk]; exact hd)
          rw [valD_dg, valD_dg] at h3
          unfold cmpI; rw [if_pos h3]
        · skip
          have hge : (dg m).getD (k - 1) 0 ≤ (dg n).getD (k - 1) 0 := by have := of_decide_eq_false hc31; omega
          refine gC h (zk (zs (yD mixed_YtealgpgmbflilaaGreatDoor [0, 1, 2, 3, 4, 5, 6, 7, 8] (floatsOK_none (by kernel_rfl)) (yp rfl (.move rfl) (yp rfl (Pure1.cast (v' := .int .i64 ((k - 1 : Nat) : Int)) (.move rfl) (by show Value.int _ _ = Value.int _ _; congr 1; omega)) (yp rfl (.indexAddr rfl rfl (ix_52 _ _ _ _ _ (by omega))) ?_)))))); clear h
          refine head_loadRow rfl (by kernel_rfl) rfl mm (by rw [List.length_map]; omega) Tryz.isAgg3 Tryz.sizeOf3 (read_row (enc := encn) (l := (dg n)) 0 (by omega)) (.inr rfl) (by decide) ?_
          refine yp rfl (.move rfl) (yp rfl (Pure1.cast (v' := .int .i64 ((k - 1 : Nat) : Int)) (.move rfl) (by show Value.int _ _ = Value.int _ _; congr 1; omega)) (yp rfl (.indexAddr rfl rfl (ix_52 _ _ _ _ _ (by omega))) ?_))
          refine head_loadRow rfl (by kernel_rfl) rfl mm (by rw [List.length_map]; omega) Tryz.isAgg3 Tryz.sizeOf3 (read_row (enc := encn) (l := (dg m)) 0 (by omega)) (.inr rfl) (by decide) ?_
          refine yp rfl (.gtr rfl rfl) (yn ?_); intro a w h
          change Code.wp _ _ _ _ _
          refine cond_split h rfl (fun hc40 => ?_) (fun hc40 => ?_)
          · skip
            have hlt : (dg m).getD (k - 1) 0 < (dg n).getD (k - 1) 0 := by have := of_decide_eq_true hc40; omega
            refine gC h (zs (zr (za rfl (zn (zt ?_))))); clear h; intro a w h
            refine retV h (results1 h rfl (.tmp rfl)) ?_
            have h3 := valD_cmp (Dd.dg m) (Dd.dg n) hlt (by rw [Nat.sub_add_cancel hk]; exact hd.symm)
            rw [valD_dg, valD_dg] at h3
            unfold cmpI; rw [if_neg (by omega), if_pos h3]
          · skip
            have he : (dg n).getD (k - 1) 0 = (dg m).getD (k - 1) 0 := by have := of_decide_eq_false hc40; omega
            refine gC h (zk (zr (zm rfl (zp (Pure1.cast (v' := .int .i64 (((k - 1 : Nat) : Int) - 1)) (.sub rfl rfl) (by show Value.int _ _ = Value.int _ _; congr 1; omega)) (za rfl (zn ?_)))))); clear h; intro a w h
            exact ⟨k - 1, ⟨⟨by omega, drop_step hl (by omega) he (by rw [Nat.sub_add_cancel hk]; exact hd)⟩, by exact (h.factsSub (by simp)).sub sA⟩, by omega⟩
      · skip
        have hk : k = 0 := by have := of_decide_eq_false hc20; omega
        refine gC h (ze (zs (zr (za rfl (zn (zt ?_)))))); clear h; intro a w h
        refine retV h (results1 h rfl (.tmp rfl)) ?_
        subst hk
        have e : n = m := by rw [← valD_dg n, ← valD_dg m]; simp at hd; rw [hd]
        unfold cmpI; rw [if_neg (by omega), if_neg (by omega)]

theorem vdrop_lt (n f j : Nat) (hlen : (dg n).length ≤ f + 4) (hj : f ≤ j) : valD ((dg n).drop j) < 10000000000000000 := by
  have h1 := valD_lt ((Dd.dg n).drop j)
  rw [List.length_drop] at h1
  have h2 : 10000 ^ ((dg n).length - j) ≤ 10000 ^ 4 := Nat.pow_le_pow_right (by decide) (by omega)
  exact Nat.lt_of_lt_of_le h1 h2

theorem C_rLead (ad1 : Option Addr) (c1 : Nat) (n f : Nat) (h1 : (dg n).length ≤ 1000000000000) (hlen : (dg n).length ≤ f + 4) (hf : f ≤ 1000000000000) :
    CtrW Tryz.prog 202 [.slice ad1 (dg n).length c1, .int .i64 ((f : Nat) : Int)] [Row ad1 (List.map encn (dg n))] (.int .i64 ((valD ((dg n).drop f) : Nat) : Int)) := by
  refine fn_intro Tryz.func202 rfl Tryz.ntmps202 nb ?_
  intro S w0 a hS h
  refine gC h (zs (zr (za rfl (zn (zs (zr (za rfl (zn (zs (zs (zr (zm rfl (zp (.builtin [_] rfl (len_slice_52 _ _ _)) (zp (.sub rfl rfl) (za rfl (zn (zb ?_))))))))))))))))); clear h; intro a w h
  have hz : valD ((dg n).drop (dg n).length) = 0 := drop_zero (Nat.le_refl _)
  replace h := h.sub (L' := [(0, .slice ad1 (dg n).length c1), (1, .int .i64 ((f : Nat) : Int)), (5, .int .i64 ((valD ((dg n).drop (dg n).length) : Nat) : Int)), (6, .int .i64 (((dg n).length : Nat) - 1 : Int))]) (subL ⟨rfl, rfl, by rw [hz]; rfl, rfl, trivial⟩)
  refine wp_loop_inv (fun (k : Nat) a w => (k ≤ (dg n).length ∧ (f ≤ k ∨ k = (dg n).length)) ∧ St 23 S w0 [(0, .slice ad1 ((dg n).length) c1), (1, .int .i64 ((f : Nat) : Int)), (5, .int .i64 ((valD ((dg n).drop k) : Nat) : Int)), (6, .int .i64 (((k : Nat) : Int) - 1))] [] [Row ad1 (List.map encn (dg n))] a w) (fun k => k) ((dg n).length) (⟨⟨Nat.le_refl _, .inr rfl⟩, by exact h.sub (subL ⟨rfl, rfl, rfl, rfl, trivial⟩)⟩) ?_; clear h
  rintro k a w ⟨⟨hN, hd⟩, h⟩
  refine gC h (zs (zs (zr (zm rfl (zm rfl (zp (.geq rfl rfl) (zn ?_))))))); clear h; intro a w h
  change Code.wp _ _ _ _ _
  refine cond_split h rfl (fun hc12 => ?_) (fun hc12 => ?_)
  · skip
    have hk : f + 1 ≤ k := by have := of_decide_eq_true hc12; omega
    obtain ⟨B_ad1, O_ad1, rfl⟩ := h.row_addr (ad := ad1) (M := List.map encn (dg n)) mm (by intro e; have := congrArg List.length e; simp only [List.length_map, List.length_nil] at this; omega)
    have e1 := dlt n (k - 1)
    have e2 := vdrop_lt n f (k - 1) hlen (by omega)
    have e3 : valD ((dg n).drop (k - 1)) = (dg n).getD (k - 1) 0 + 10000 * valD ((dg n).drop k) := by rw [valD_drop, Nat.sub_add_cancel (by omega)]
    refine gC h (zk (zs (zb (zr (zm rfl (zp (Pure1.cast (v' := (.int .i64 ((10000 * (valD ((dg n).drop k)) : Nat) : Int))) (.mul rfl rfl) (by show Value.int _ _ = Value.int _ _; congr 1)) (zm rfl (zp (Pure1.cast (v' := .int .i64 ((k - 1 : Nat) : Int)) (.move rfl) (by show Value.int _ _ = Value.int _ _; congr 1; omega)) (zp (.indexAddr rfl rfl (ix_52 _ _ _ _ _ (by omega))) (zD rfl mm (by rw [List.length_map]; omega) Tryz.isAgg3 Tryz.sizeOf3 (read_row (enc := encn) (l := (dg n)) 0 (by omega)) (.inr rfl) ?_)))))))))); clear h; intro a w h
    refine gL h (zp (Pure1.cast (v' := .int .i64 ((valD ((dg n).drop (k - 1)) : Nat) : Int)) (Pure1.cast (v' := (.int .i64 (((10000 * (valD ((dg n).drop k))) + ((dg n).getD (k - 1) 0) : Nat) : Int))) (.add rfl rfl) (by show Value.int _ _ = Value.int _ _; congr 1)) (by show Value.int _ _ = Value.int _ _; congr 1; omega)) (za rfl (zn (zr (zm rfl (zp (Pure1.cast (v' := .int .i64 (((k - 1 : Nat) : Int) - 1)) (.sub rfl rfl) (by show Value.int _ _ = Value.int _ _; congr 1; omega)) (za rfl (zn ?_)))))))); clear h; intro a w h
    exact ⟨k - 1, ⟨⟨by omega, .inl (by omega)⟩, by exact (h.factsSub (by simp)).sub sA⟩, by omega⟩
  · skip
    have hk : k ≤ f := by have := of_decide_eq_false hc12; omega
    refine gC h (ze (zs (zr (zm rfl (za rfl (zn (zt ?_))))))); clear h; intro a w h
    refine retV h (results1 h rfl (.tmp rfl)) ?_
    have e : valD ((dg n).drop f) = valD ((dg n).drop k) := by
      rcases hd with hd | hd
      · rw [show k = f by omega]
      · rw [drop_zero (by omega), drop_zero (by omega)]
    rw [e]
end Go.Proofs.YtealgpgmbflilaaGreatDoor
