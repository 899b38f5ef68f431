/- Written by a program of ours (gen.py) out of short specifications. By an AI agent. -/
import Derived.Test.YtealgpgmbflilaaGreatDoorLaw09c
set_option linter.unusedVariables false
set_option linter.unusedSimpArgs false
set_option maxRecDepth 4000
namespace Go.Proofs.YtealgpgmbflilaaGreatDoor
open Go Go.Proofs Go.Fx
attribute [local irreducible] Oper.wp Code.wp wpList Fx.Head wpOp
theorem len_slice_64 (a : Option Addr) (n c : Nat) (w : World) (ty : TypeId) (cs : Array Bool) : (Go.builtin .len #[64] ty cs #[.slice a n c]).run Tryz.prog w = .ok (.value (.int .i64 n)) w := by
  simp [go_sem]
theorem ix_64 (b off n c j : Nat) (h : j < n) (w : World) : (Instr.indexAt 64 (.slice (some ⟨b, off, none⟩) n c) (.int .i64 (j : Int))).run Tryz.prog w = .ok (.pointer (some ⟨b, off + j * 4, none⟩)) w := by
  simpa using indexAt_slice Tryz.runUnderlying64 Tryz.sizeOf27 b off n c j h w
theorem bs_66_1_0 (x0_0 : Value) (x0_1 : Value) (x0_2 : Value) (x0_3 : Value) (x0_4 : Value) (x0_5 : Value) (x0_6 : Value) (x0_7 : Value) (x0_8 : Value) (x0_9 : Value) (w : World) : (Instr.buildSlice 66 1 [(0, .agg #[x0_0, x0_1, x0_2, x0_3, x0_4, x0_5, x0_6, x0_7, x0_8, x0_9])].toArray).run Tryz.prog w = .ok (.slice (some ⟨w.heap.size, 0, none⟩) 1 1) (w.alloc (.cells #[x0_0, x0_1, x0_2, x0_3, x0_4, x0_5, x0_6, x0_7, x0_8, x0_9] 49 (0, 0))) := by
  simp [go_sem]
abbrev PQ0 : (Int × Int) × (Int × Int) := ((0, 0), (0, 0))
theorem few_take (cs : List ((Int × Int) × (Int × Int))) {j : Nat} (h : j < cs.length) : (cs.take j).map ptv ++ [ptv (cs.getD j PQ0)] = (cs.take (j + 1)).map ptv := by
  rw [List.take_add_one, List.getElem?_eq_getElem h, List.map_append]; simp [List.getD, h]
def fA (cs : List ((Int × Int) × (Int × Int))) (i : Nat) : Pt := ptv (cs.getD i PQ0)
theorem fA_K {cs : List ((Int × Int) × (Int × Int))} (h : ∀ q ∈ cs, OkP q) {i : Nat} (hi : i < cs.length) : PtK 4 (fA cs i) := ptv_K (h _ (getD_mem cs (d := PQ0) hi))
theorem flatPt : ∀ l : List Pt, (cellsOf encPt l).all flat = true
  | [] => rfl
  | t :: l => by
    have h := flatPt l
    rw [show t :: l = [t] ++ l from rfl, cellsOf_append, cellsOf_one, List.all_append, h]; rfl
theorem encPt_size (p : Pt) : (encPt p).cells.size = 10 := rfl
theorem lenQ_flG {d K Kp n : Nat} {p : List Tm} (hq : Pq d K p) (hd : d ≤ 12) {l : List Pt} (hl : ∀ x ∈ l, PtK Kp x) (hk : 2 ≤ Kp) (hn : SG d K Kp + SG 1 1 Kp + 4 * Kp + 3 ≤ n) (h2 : 2 ≤ l.length) : ∀ k, k + 1 ≤ l.length → lenQ (flG p l k) ≤ n + k * (n + 1)
  | 0, _ => by
    have := lenQ_flow hq (Pq.nil 1) hd (by decide) (hl _ (getD_mem l (d := (0, 0)) (show 0 < l.length by omega))) (hl _ (getD_mem l (d := (0, 0)) (show 1 < l.length by omega))) hk hn
    rw [flG]; omega
  | k + 1, hk2 => by
    have ih := lenQ_flG hq hd hl hk hn h2 k (by omega)
    have h3 := lenQ_flow hq (Pq.nil 1) hd (by decide) (hl _ (getD_mem l (d := (0, 0)) (show k + 1 < l.length by omega))) (hl _ (getD_mem l (d := (0, 0)) (show (k + 2) % l.length < l.length from Nat.mod_lt _ (by omega)))) hk hn
    have h4 := lenQ_add (flG p l k) (flowQ p [] (l.getD (k + 1) (0, 0)) (l.getD ((k + 2) % l.length) (0, 0)))
    rw [flG, Nat.add_mul]; omega

theorem C_IntegralsRound (l : List Ti) (cs : List ((Int × Int) × (Int × Int))) (ad ad9 : Option Addr) (c c9 : Nat) (hokl : ∀ t ∈ l, OkT t) (hokc : ∀ q ∈ cs, OkP q) (hln : l.length ≤ 9223372036854775807) (hcn : cs.length ≤ 9223372036854775807) (fi : Int) (hf1 : -9223372036854775808 ≤ fi) (hf2 : fi ≤ 9223372036854775807) (qt : Int × Int) (hqt : OkQ qt) : CtrW Tryz.prog 4 [.slice ad l.length c, .slice ad9 cs.length c9, .int .i64 fi, encQ2 qt] [Row ad (cellsOf encTi l), Row ad9 (cellsOf encPQ cs)] (.bool true) := by
  have hls : lenQ (qv qt.1 qt.2) ≤ 4 := lenQ_qvp hqt
  obtain ⟨ht1, ht2, ht3, ht4⟩ := hqt
  refine fn_intro Tryz.func4 rfl Tryz.ntmps4 nb ?_
  intro S w0 a hS h
  replace h := h.derive (R := Row none (cellsOf encT [])) (fun X _ hne => absurd rfl hne)
  refine gC h (zs (zr (zx rfl fun b7 => za rfl (zn (zs (zs (zr (zm rfl (zp (.builtin [_] rfl (len_slice_22 _ _ _)) (zp (.gtr rfl rfl) ?_)))))))))); clear h; intro a w h
  refine by_bool h (fun hc26 h => ?_) (fun hc26 h => ?_)
  · skip
    refine gL h (zm rfl (zo 27 rfl rfl rfl (zo 27 rfl rfl rfl (zo 27 rfl rfl rfl (zp (.pickT rfl rfl) (zn ?_)))))); clear h; intro a w h
    change Code.wp _ _ _ _ _
    refine cond_true h rfl ?_
    refine gC h (zs (zr (zv [] rfl Tryz.call15 (C_works9) (za rfl (zn (zt ?_)))))); clear h; intro a w h
    refine retV h (results1 h rfl (.tmp rfl)) ?_
    rfl
  · skip
    refine gL h (zm rfl (zq 27 rfl rfl (.move rfl) (zq 27 rfl rfl (.builtin [_] rfl (len_slice_64 _ _ _)) (zq 27 rfl rfl (.gtr rfl rfl) ?_)))); clear h; intro a w h
    refine by_bool h (fun hc30 h => ?_) (fun hc30 h => ?_)
    · skip
      refine gL h (zp (.pickF rfl rfl) (zn ?_)); clear h; intro a w h
      change Code.wp _ _ _ _ _
      refine cond_true h rfl ?_
      refine gC h (zs (zr (zv [] rfl Tryz.call15 (C_works9) (za rfl (zn (zt ?_)))))); clear h; intro a w h
      refine retV h (results1 h rfl (.tmp rfl)) ?_
      rfl
    · skip
      have hll : l.length ≤ 6 := by have := of_decide_eq_false hc26; omega
      have hcl : cs.length ≤ 7 := by have := of_decide_eq_false hc30; omega
      have hgx := made_Pq (d := 3) hokl hll (by decide) (by decide)
      refine gL h (zp (.pickF rfl rfl) (zn ?_)); clear h; intro a w h
      change Code.wp _ _ _ _ _
      refine cond_false h rfl ?_
      refine gC h (zk (zs (zr (zm rfl (zf [_, _] rfl Tryz.call26 (C_Made l _ _ 3 8 (by assumption) (by omega) (by omega)) ?_))))); clear h; rintro v34 Ψ34 ⟨ad34, c34, rfl, rfl⟩ a w h
      obtain ⟨G, hnG⟩ : ∃ G, norm (madeL 3 l) = G := ⟨_, rfl⟩
      rw [hnG] at h hgx
      refine gL h (za rfl (zn (zs (zr (zm rfl (zp (.builtin [_] rfl (len_slice_64 _ _ _)) (za rfl (zn (zs (zs (zr (zm rfl (zp (.lss rfl rfl) (zn ?_)))))))))))))); clear h; intro a w h
      change Code.wp _ _ _ _ _
      refine cond_split h rfl (fun hc38 => ?_) (fun hc38 => ?_)
      · skip
        have hc3 : cs.length < 3 := by have := of_decide_eq_true hc38; omega
        have hKw : ∀ x ∈ List.map ptv cs, PtK 4 x := fun x hx => by obtain ⟨q, hq, rfl⟩ := List.mem_map.1 hx; exact ptv_K (hokc q hq)
        refine gC h (zs (zr (za rfl (zn (zs (zs (zr (za rfl (zn (zb ?_)))))))))); clear h; intro a w h
        refine wp_loop_inv (fun (k : Nat) a w => k ≤ cs.length ∧ ∃ (ad1 : Option Addr) (c1 : Nat) (o1 : List (Nat × Obj)), (GrowO 10 49 (.slice ad1 ((cs.take k).map ptv).length c1) ((cs.take k).map ptv).length (cellsOf encPt ((cs.take k).map ptv)) o1) ∧ St 211 S w0 [(1, .slice ad9 cs.length c9), (2, .int .i64 fi), (7, .pointer (some ⟨b7, 0, none⟩)), (8, .bool false), (9, .slice ad34 ((G).length) c34), (10, .int .i64 ((cs.length : Nat) : Int)), (11, (.slice ad1 ((cs.take k).map ptv).length c1)), (12, .int .i64 ((k : Nat) : Int))] (o1 ++ ((b7, .cells (Value.cells (.agg #[.int .i64 qt.1, .int .u32 qt.2])) 25 (0, 0)) :: [])) [Row ad34 (cellsOf encT (G)), Row none (cellsOf encT []), Row ad (cellsOf encTi l), Row ad9 (cellsOf encPQ cs)] a w) (fun k => cs.length - k) 0 (⟨Nat.zero_le _, none, 0, [], GrowO.nil _ _, by exact (h).sub (subL ⟨rfl, rfl, rfl, rfl, rfl, rfl, rfl, rfl, trivial⟩)⟩) ?_; clear h
        rintro k a w ⟨hi_k, ad1, c1, o1, hG1, h⟩
        refine gC h (zs (zs (zr (zm rfl (zm rfl (zp (.lss rfl rfl) (zn ?_))))))); clear h; intro a w h
        change Code.wp _ _ _ _ _
        refine cond_split h rfl (fun hc41 => ?_) (fun hc41 => ?_)
        · skip
          have hlt_k : k < cs.length := by have := of_decide_eq_true hc41; omega
          obtain ⟨B_ad9, O_ad9, rfl⟩ := h.row_addr (ad := ad9) (M := cellsOf encPQ cs) mm (by intro e; have := congrArg List.length e; rw [cellsOf_length (k := 4) (fun _ => rfl)] at this; simp only [List.length_nil, Nat.mul_eq_zero] at this; omega)
          have hlk : ((cs.take k).map ptv).length = k := by rw [List.length_map, List.length_take]; omega
          refine gC h (zk (zs (zb (zr (zm rfl (zm rfl (zm rfl (zp (.indexAddr rfl rfl (ix_64 _ _ _ _ _ (by omega))) (zD rfl mm (cells_lt (k := 4) (by decide) (fun _ => rfl) cs k (by omega)) Tryz.isAgg27 Tryz.sizeOf27 (read_cells (k := 4) (fun _ => rfl) ((fun _ => rfl)) cs (((0, 0), (0, 0))) k (by omega)) (.inl rfl) ?_))))))))); clear h; intro a w h
          refine gL h (zv [_] rfl Tryz.call21 (C_POf (cs.getD k PQ0) (hokc _ (getD_mem cs (d := PQ0) (by first | omega | exact Nat.mod_lt _ (by omega))))) (zB [(_, _)] rfl (bs_66_1_0 _ _ _ _ _ _ _ _ _ _) fun b50 => ?_)); clear h; intro a w h
          refine wpl_plain (op_appendO (σr := [(b7, .cells (Value.cells (.agg #[.int .i64 qt.1, .int .u32 qt.2])) 25 (0, 0))]) h rfl rfl (List.Perm.trans (List.Perm.refl _) (List.Perm.cons _ (List.Perm.refl _))) hG1 Tryz.runUnderlying66 Tryz.runUnderlying66 Tryz.typeInfo49 Tryz.sizeOf49 zeroPt rfl (by decide) (by decide) rfl rfl (by decide) (by show 112 * (2 * (((cs.take k).map ptv).length + 1) + 192) ≤ 281474976710656; omega) (by decide) ?_); clear h
          intro v51 o51 a w hG51 h
          obtain ⟨ad51, c51, rfl⟩ := hG51.is
          have hLn51 : ((cs.take k).map ptv).length + 1 = (((cs.take k).map ptv) ++ [ptv (cs.getD k PQ0)]).length := by simp only [List.length_append, List.length_cons, List.length_nil, Nat.zero_add]
          rw [hLn51] at h hG51
          replace hG51 : GrowO 10 49 (.slice ad51 (((cs.take k).map ptv) ++ [ptv (cs.getD k PQ0)]).length c51) (((cs.take k).map ptv) ++ [ptv (cs.getD k PQ0)]).length (cellsOf encPt (((cs.take k).map ptv) ++ [ptv (cs.getD k PQ0)])) o51 := by rw [cellsOf_append, cellsOf_one]; exact hG51
          refine gL h (za rfl (zn (zr (zm rfl (zp (Pure1.cast (v' := (.int .i64 ((k + 1 : Nat) : Int))) (.add rfl rfl) (by show Value.int _ _ = Value.int _ _; congr 1)) (za rfl (zn ?_))))))); clear h; intro a w h
          rw [few_take cs hlt_k] at h hG51
          exact ⟨k + 1, ⟨by omega, ad51, c51, o51, hG51, by exact (h.factsSub (by simp)).sub sA⟩, by omega⟩
        · skip
          have heq_k : cs.length = k := by have := of_decide_eq_false hc41; omega
          subst heq_k
          rw [List.take_length] at h hG1
          replace h := St.shareO' h hS hG1
          refine gC h (ze (zs (zr (zm rfl (zm rfl (zw [_, _] rfl Tryz.call27 (C_Polygon G _ _ _ _ 3 31 4 (List.map ptv cs) hgx (by decide) hKw (by rw [List.length_map]; omega) (by decide) (by decide) (by decide +kernel)) (zp (.build [] rfl (bd_44_z)) (zp (.binOp rfl rfl (fun _ => run_eqQ _ _ (polyQ G (List.map ptv cs)) 0 _)) ?_)))))))); clear h; intro a w h
          refine by_bool h (fun hc56 h => ?_) (fun hc56 h => (by exfalso; exact clE (polyQ_few G (l := List.map ptv cs) (by rw [List.length_map]; omega)) hc56))
          refine gL h (zm rfl ?_); clear h; intro a w h
          refine wpl_guard 57 h rfl rfl (op_callV h (vs := []) rfl Tryz.call15 (C_works9) (by decide) ?_); clear h; intro a w h
          refine gL h (zp (.pickT rfl rfl) (za rfl (zn (zt ?_)))); clear h; intro a w h
          refine retV h (results1 h rfl (.tmp rfl)) ?_
          rfl
      · skip
        have hc3 : 3 ≤ cs.length := by have := of_decide_eq_false hc38; omega
        obtain ⟨f, hf⟩ : ∃ f, uN fi % cs.length = f := ⟨_, rfl⟩
        have hfn : f < cs.length := by rw [← hf]; exact Nat.mod_lt _ (by omega)
        refine gC h (zk (zs (zr (zm rfl (zp (Pure1.cast (v' := .int .u64 ((uN fi : Nat) : Int)) (.convert rfl (cv_3_68 _)) (by rw [uN_wrap])) (zm rfl (zp (Pure1.cast (v' := .int .u64 ((cs.length : Nat) : Int)) (.convert rfl (cv_3_68 _)) (by rw [wrap_u64 _ (by omega) (by omega)])) (zp (Pure1.cast (v' := .int .u64 ((f : Nat) : Int)) (.binOp rfl rfl (fun _ => run_rem _ _ _ _ _ (by omega))) (by rw [tmod_nat, hf])) (zp (Pure1.cast (v' := .int .i64 ((f : Nat) : Int)) (.convert rfl (cv_68_3 _)) (by rw [wrap_i64 _ (by omega) (by omega)])) (za rfl (zn (zs (zr (za rfl (za rfl (za rfl (za rfl (zn (zs (zs (zr (za rfl (zn (zb ?_)))))))))))))))))))))))); clear h; intro a w h
        refine wp_loop_inv (fun (k : Nat) a w => k ≤ cs.length ∧ ∃ (ad1 : Option Addr) (c1 : Nat) (o1 : List (Nat × Obj)) (ad2 : Option Addr) (c2 : Nat) (o2 : List (Nat × Obj)) (ad3 : Option Addr) (c3 : Nat) (o3 : List (Nat × Obj)), (GrowO 10 49 (.slice ad1 (tabL (fA cs) k).length c1) (tabL (fA cs) k).length (cellsOf encPt (tabL (fA cs) k)) o1 ∧ GrowO 10 49 (.slice ad2 (tabL (fun i => fA cs ((f + i) % cs.length)) k).length c2) (tabL (fun i => fA cs ((f + i) % cs.length)) k).length (cellsOf encPt (tabL (fun i => fA cs ((f + i) % cs.length)) k)) o2 ∧ GrowO 10 49 (.slice ad3 (tabL (fun i => fA cs (cs.length - 1 - i)) k).length c3) (tabL (fun i => fA cs (cs.length - 1 - i)) k).length (cellsOf encPt (tabL (fun i => fA cs (cs.length - 1 - i)) k)) o3) ∧ St 211 S w0 [(1, .slice ad9 cs.length c9), (2, .int .i64 ((f : Nat) : Int)), (7, .pointer (some ⟨b7, 0, none⟩)), (8, .bool false), (9, .slice ad34 ((G).length) c34), (10, .int .i64 ((cs.length : Nat) : Int)), (13, (.slice ad1 (tabL (fA cs) k).length c1)), (14, (.slice ad2 (tabL (fun i => fA cs ((f + i) % cs.length)) k).length c2)), (15, (.slice ad3 (tabL (fun i => fA cs (cs.length - 1 - i)) k).length c3)), (16, .slice none 0 0), (17, .int .i64 ((k : Nat) : Int))] (o1 ++ (o2 ++ (o3 ++ ((b7, .cells (Value.cells (.agg #[.int .i64 qt.1, .int .u32 qt.2])) 25 (0, 0)) :: [])))) [Row ad34 (cellsOf encT (G)), Row none (cellsOf encT []), Row ad (cellsOf encTi l), Row ad9 (cellsOf encPQ cs)] a w) (fun k => cs.length - k) 0 (⟨Nat.zero_le _, none, 0, [], none, 0, [], none, 0, [], ⟨GrowO.nil _ _, GrowO.nil _ _, GrowO.nil _ _⟩, by exact (h).sub (subL ⟨rfl, rfl, rfl, rfl, rfl, rfl, rfl, rfl, rfl, rfl, rfl, trivial⟩)⟩) ?_; clear h
        rintro k a w ⟨hi_k, ad1, c1, o1, ad2, c2, o2, ad3, c3, o3, ⟨hG1, hG2, hG3⟩, h⟩
        refine gC h (zs (zs (zr (zm rfl (zm rfl (zp (.lss rfl rfl) (zn ?_))))))); clear h; intro a w h
        change Code.wp _ _ _ _ _
        refine cond_split h rfl (fun hc68 => ?_) (fun hc68 => ?_)
        · skip
          have hlt_k : k < cs.length := by have := of_decide_eq_true hc68; omega
          obtain ⟨B_ad9, O_ad9, rfl⟩ := h.row_addr (ad := ad9) (M := cellsOf encPQ cs) mm (by intro e; have := congrArg List.length e; rw [cellsOf_length (k := 4) (fun _ => rfl)] at this; simp only [List.length_nil, Nat.mul_eq_zero] at this; omega)
          have hl1 := tabL_len (fA cs) k
          have hl2 := tabL_len (fun i => fA cs ((f + i) % cs.length)) k
          have hl3 := tabL_len (fun i => fA cs (cs.length - 1 - i)) k
          have hml := Nat.mod_lt (f + k) (show 0 < cs.length by omega)
          refine gC h (zk (zs (zb (zs (zr (zm rfl (zm rfl (zm rfl (zp (.indexAddr rfl rfl (ix_64 _ _ _ _ _ (by omega))) (zD rfl mm (cells_lt (k := 4) (by decide) (fun _ => rfl) cs k (by omega)) Tryz.isAgg27 Tryz.sizeOf27 (read_cells (k := 4) (fun _ => rfl) ((fun _ => rfl)) cs (((0, 0), (0, 0))) k (by omega)) (.inl rfl) ?_)))))))))); clear h; intro a w h
          refine gL h (zv [_] rfl Tryz.call21 (C_POf (cs.getD k PQ0) (hokc _ (getD_mem cs (d := PQ0) (by first | omega | exact Nat.mod_lt _ (by omega))))) (zB [(_, _)] rfl (bs_66_1_0 _ _ _ _ _ _ _ _ _ _) fun b77 => ?_)); clear h; intro a w h
          refine wpl_plain (op_appendO (σr := (o2 ++ (o3 ++ ((b7, .cells (Value.cells (.agg #[.int .i64 qt.1, .int .u32 qt.2])) 25 (0, 0)) :: [])))) h rfl rfl (List.Perm.trans (List.Perm.refl _) (List.Perm.cons _ (List.Perm.refl _))) hG1 Tryz.runUnderlying66 Tryz.runUnderlying66 Tryz.typeInfo49 Tryz.sizeOf49 zeroPt rfl (by decide) (by decide) rfl rfl (by decide) (by show 112 * (2 * ((tabL (fA cs) k).length + 1) + 192) ≤ 281474976710656; omega) (by decide) ?_); clear h
          intro v78 o78 a w hG78 h
          obtain ⟨ad78, c78, rfl⟩ := hG78.is
          have hLn78 : (tabL (fA cs) k).length + 1 = ((tabL (fA cs) k) ++ [ptv (cs.getD k PQ0)]).length := by simp only [List.length_append, List.length_cons, List.length_nil, Nat.zero_add]
          rw [hLn78] at h hG78
          replace hG78 : GrowO 10 49 (.slice ad78 ((tabL (fA cs) k) ++ [ptv (cs.getD k PQ0)]).length c78) ((tabL (fA cs) k) ++ [ptv (cs.getD k PQ0)]).length (cellsOf encPt ((tabL (fA cs) k) ++ [ptv (cs.getD k PQ0)])) o78 := by rw [cellsOf_append, cellsOf_one]; exact hG78
          refine gL h (za rfl (zn (zs (zr (zm rfl (zm rfl (zm rfl (zm rfl (zp (Pure1.cast (v' := (.int .i64 ((f + k : Nat) : Int))) (.add rfl rfl) (by show Value.int _ _ = Value.int _ _; congr 1)) (zm rfl (zp (Pure1.cast (v' := .int .i64 (((f + k) % cs.length : Nat) : Int)) (.binOp rfl rfl (fun _ => run_rem _ _ _ _ _ (by omega))) (by rw [tmod_nat])) (zp (.indexAddr rfl rfl (ix_64 _ _ _ _ _ (by exact Nat.mod_lt _ (by omega)))) (zD rfl mm (cells_lt (k := 4) (by decide) (fun _ => rfl) cs ((f + k) % cs.length) (by exact Nat.mod_lt _ (by omega))) Tryz.isAgg27 Tryz.sizeOf27 (read_cells (k := 4) (fun _ => rfl) ((fun _ => rfl)) cs (((0, 0), (0, 0))) ((f + k) % cs.length) (by exact Nat.mod_lt _ (by omega))) (.inl rfl) ?_))))))))))))); clear h; intro a w h
          refine gL h (zv [_] rfl Tryz.call21 (C_POf (cs.getD ((f + k) % cs.length) PQ0) (hokc _ (getD_mem cs (d := PQ0) (by first | omega | exact Nat.mod_lt _ (by omega))))) (zB [(_, _)] rfl (bs_66_1_0 _ _ _ _ _ _ _ _ _ _) fun b89 => ?_)); clear h; intro a w h
          refine wpl_plain (op_appendO (σr := (o78 ++ (o3 ++ ((b7, .cells (Value.cells (.agg #[.int .i64 qt.1, .int .u32 qt.2])) 25 (0, 0)) :: [])))) h rfl rfl (List.Perm.trans (List.Perm.refl _) (List.Perm.cons _ (pm_aa (List.Perm.refl _)))) hG2 Tryz.runUnderlying66 Tryz.runUnderlying66 Tryz.typeInfo49 Tryz.sizeOf49 zeroPt rfl (by decide) (by decide) rfl rfl (by decide) (by show 112 * (2 * ((tabL (fun i => fA cs ((f + i) % cs.length)) k).length + 1) + 192) ≤ 281474976710656; omega) (by decide) ?_); clear h
          intro v90 o90 a w hG90 h
          obtain ⟨ad90, c90, rfl⟩ := hG90.is
          have hLn90 : (tabL (fun i => fA cs ((f + i) % cs.length)) k).length + 1 = ((tabL (fun i => fA cs ((f + i) % cs.length)) k) ++ [ptv (cs.getD ((f + k) % cs.length) PQ0)]).length := by simp only [List.length_append, List.length_cons, List.length_nil, Nat.zero_add]
          rw [hLn90] at h hG90
          replace hG90 : GrowO 10 49 (.slice ad90 ((tabL (fun i => fA cs ((f + i) % cs.length)) k) ++ [ptv (cs.getD ((f + k) % cs.length) PQ0)]).length c90) ((tabL (fun i => fA cs ((f + i) % cs.length)) k) ++ [ptv (cs.getD ((f + k) % cs.length) PQ0)]).length (cellsOf encPt ((tabL (fun i => fA cs ((f + i) % cs.length)) k) ++ [ptv (cs.getD ((f + k) % cs.length) PQ0)])) o90 := by rw [cellsOf_append, cellsOf_one]; exact hG90
          refine gL h (za rfl (zn (zr (zm rfl (zm rfl (zm rfl (zp (Pure1.cast (v' := (.int .i64 ((cs.length - 1 : Nat) : Int))) (.sub rfl rfl) (by show Value.int _ _ = Value.int _ _; congr 1; omega)) (zm rfl (zp (Pure1.cast (v' := (.int .i64 (((cs.length - 1) - k : Nat) : Int))) (.sub rfl rfl) (by show Value.int _ _ = Value.int _ _; congr 1; omega)) (zp (.indexAddr rfl rfl (ix_64 _ _ _ _ _ (by omega))) (zD rfl mm (cells_lt (k := 4) (by decide) (fun _ => rfl) cs ((cs.length - 1) - k) (by omega)) Tryz.isAgg27 Tryz.sizeOf27 (read_cells (k := 4) (fun _ => rfl) ((fun _ => rfl)) cs (((0, 0), (0, 0))) ((cs.length - 1) - k) (by omega)) (.inl rfl) ?_))))))))))); clear h; intro a w h
          refine gL h (zv [_] rfl Tryz.call21 (C_POf (cs.getD (cs.length - 1 - k) PQ0) (hokc _ (getD_mem cs (d := PQ0) (by first | omega | exact Nat.mod_lt _ (by omega))))) (zB [(_, _)] rfl (bs_66_1_0 _ _ _ _ _ _ _ _ _ _) fun b100 => ?_)); clear h; intro a w h
          refine wpl_plain (op_appendO (σr := (o90 ++ (o78 ++ ((b7, .cells (Value.cells (.agg #[.int .i64 qt.1, .int .u32 qt.2])) 25 (0, 0)) :: [])))) h rfl rfl (List.Perm.trans (List.Perm.refl _) (List.Perm.cons _ (pm_aa (pm_aa (List.Perm.refl _))))) hG3 Tryz.runUnderlying66 Tryz.runUnderlying66 Tryz.typeInfo49 Tryz.sizeOf49 zeroPt rfl (by decide) (by decide) rfl rfl (by decide) (by show 112 * (2 * ((tabL (fun i => fA cs (cs.length - 1 - i)) k).length + 1) + 192) ≤ 281474976710656; omega) (by decide) ?_); clear h
          intro v101 o101 a w hG101 h
          obtain ⟨ad101, c101, rfl⟩ := hG101.is
          have hLn101 : (tabL (fun i => fA cs (cs.length - 1 - i)) k).length + 1 = ((tabL (fun i => fA cs (cs.length - 1 - i)) k) ++ [ptv (cs.getD (cs.length - 1 - k) PQ0)]).length := by simp only [List.length_append, List.length_cons, List.length_nil, Nat.zero_add]
          rw [hLn101] at h hG101
          replace hG101 : GrowO 10 49 (.slice ad101 ((tabL (fun i => fA cs (cs.length - 1 - i)) k) ++ [ptv (cs.getD (cs.length - 1 - k) PQ0)]).length c101) ((tabL (fun i => fA cs (cs.length - 1 - i)) k) ++ [ptv (cs.getD (cs.length - 1 - k) PQ0)]).length (cellsOf encPt ((tabL (fun i => fA cs (cs.length - 1 - i)) k) ++ [ptv (cs.getD (cs.length - 1 - k) PQ0)])) o101 := by rw [cellsOf_append, cellsOf_one]; exact hG101
          refine gL h (za rfl (zn (zr (zm rfl (zp (Pure1.cast (v' := (.int .i64 ((k + 1 : Nat) : Int))) (.add rfl rfl) (by show Value.int _ _ = Value.int _ _; congr 1)) (za rfl (zn ?_))))))); clear h; intro a w h
          exact ⟨k + 1, ⟨by omega, ad78, c78, o78, ad90, c90, o90, ad101, c101, o101, ⟨hG78, hG90, hG101⟩, by exact ((h.perm (List.Perm.trans (pm_aa (pm_aa (List.Perm.refl _))) (List.Perm.append_left _ (List.Perm.trans (pm_aa (List.Perm.refl _)) (List.Perm.append_left _ (List.Perm.refl _))))).symm).factsSub (by simp)).sub sA⟩, by omega⟩
        · skip
          have heq_k : cs.length = k := by have := of_decide_eq_false hc68; omega
          subst heq_k
          replace h := St.shareO' (St.shareO' (St.shareO' h hS hG1) hS hG2) hS hG3
          obtain ⟨B_ad1, O_ad1, rfl⟩ := h.row_addr (ad := ad1) (M := cellsOf encPt (tabL (fA cs) cs.length)) mm (by intro e; have := congrArg List.length e; rw [cellsOf_length (k := 10) (fun _ => rfl), tabL_len] at this; simp only [List.length_nil, Nat.mul_eq_zero] at this; omega)
          have hKA : ∀ x ∈ tabL (fA cs) cs.length, PtK 4 x := fun x hx => by obtain ⟨i, hi, rfl⟩ := tabL_mem hx; exact fA_K hokc hi
          have hKB : ∀ x ∈ tabL (fun i => fA cs ((f + i) % cs.length)) cs.length, PtK 4 x := fun x hx => by obtain ⟨i, hi, rfl⟩ := tabL_mem hx; exact fA_K hokc (Nat.mod_lt _ (by omega))
          have hKC : ∀ x ∈ tabL (fun i => fA cs (cs.length - 1 - i)) cs.length, PtK 4 x := fun x hx => by obtain ⟨i, hi, rfl⟩ := tabL_mem hx; exact fA_K hokc (by omega)
          have hKx : PtK 4 ((tabL (fA cs) cs.length).getD (cs.length - 1) (0, 0)) := (hKA _ (getD_mem _ (d := (0, 0)) (by rw [tabL_len]; omega)))
          have hKu : PtK 4 ((tabL (fA cs) cs.length).getD 0 (0, 0)) := (hKA _ (getD_mem _ (d := (0, 0)) (by rw [tabL_len]; omega)))
          have hKz := cut_K (s := qv qt.1 qt.2) hKx hKu hls
          have hKM : ∀ x ∈ tabL (fA cs) cs.length ++ [(((tabL (fA cs) cs.length).getD (cs.length - 1) (0, 0)).1 + qv qt.1 qt.2 * (((tabL (fA cs) cs.length).getD 0 (0, 0)).1 - ((tabL (fA cs) cs.length).getD (cs.length - 1) (0, 0)).1), ((tabL (fA cs) cs.length).getD (cs.length - 1) (0, 0)).2 + qv qt.1 qt.2 * (((tabL (fA cs) cs.length).getD 0 (0, 0)).2 - ((tabL (fA cs) cs.length).getD (cs.length - 1) (0, 0)).2))], PtK 18 x := fun x hx => by
            rcases List.mem_append.1 hx with h | h
            · exact (hKA x h).mono (by decide)
            · rw [List.mem_singleton.1 h]; exact hKz
          obtain ⟨hx1, hx2⟩ := hKx
          obtain ⟨hu1, hu2⟩ := hKu
          refine gC h (ze (zs (yD mixed_YtealgpgmbflilaaGreatDoor [0, 1, 2, 3, 4, 6, 5, 7, 8, 9, 10, 11, 12, 13] (floatsOK_of ⟨.inl rfl, .inl rfl, .inl rfl, .inl rfl, .inl rfl, .inl rfl, .inl rfl, .inl rfl, .inr ⟨18, 49, _, _, _, rfl, rfl, by decide, _, zeroPt⟩, .inr ⟨19, 49, _, _, _, rfl, rfl, by decide, _, zeroPt⟩, .inr ⟨20, 44, _, _, _, rfl, rfl, by decide, _, zeroQ⟩, .inl rfl, .inl rfl, .inl rfl, trivial⟩) (yp rfl (.move rfl) (yp rfl (.indexAddr rfl rfl (ix_66 _ _ _ _ 0 (by rw [tabL_len]; omega))) ?_))))); clear h
          refine head_loadRow rfl (by kernel_rfl) rfl mm (cells_lt (k := 10) (by decide) (fun _ => rfl) (tabL (fA cs) cs.length) 0 (by rw [tabL_len]; omega)) Tryz.isAgg49 Tryz.sizeOf49 (read_cells (k := 10) (fun _ => rfl) ((fun _ => rfl)) (tabL (fA cs) cs.length) (0, 0) 0 (by rw [tabL_len]; omega)) (.inl rfl) (by decide) ?_
          refine yp rfl (.move rfl) (yp rfl (.indexAddr rfl rfl (ix_66 _ _ _ _ 1 (by rw [tabL_len]; omega))) (yd rfl rfl mr Tryz.isAgg25 Tryz.sizeOf25 (rd_2_0_2 _ _) ?_))
          refine head_loadRowLate [] rfl (by kernel_rfl) rfl mm (cells_lt (k := 10) (by decide) (fun _ => rfl) (tabL (fA cs) cs.length) 1 (by rw [tabL_len]; omega)) Tryz.isAgg49 Tryz.sizeOf49 (read_cells (k := 10) (fun _ => rfl) ((fun _ => rfl)) (tabL (fA cs) cs.length) (0, 0) 1 (by rw [tabL_len]; omega)) (.inl rfl) (fun _ ht => nomatch ht) (by decide) ?_
          refine yv [_] rfl rfl Tryz.call28 (C_qOf qt.1 qt.2 (by omega) (by omega) (by omega) (by omega)) ?_
          have hl109 := lenQ_qv qt.1 qt.2 (by omega) (by omega) (by omega) (by omega)
          refine yz rfl zeroPt fun b18 => yz rfl zeroPt fun b19 => yz rfl zeroQ fun b20 => yt rfl rfl rfl (st_10_0_10 _ _ _ _ _ _ _ _ _ _ _ _ _ _ _ _ _ _ _ _) uu Tryz.sizeOf49 rfl nb rfl ?_
          refine yt rfl rfl rfl (st_10_0_10 _ _ _ _ _ _ _ _ _ _ _ _ _ _ _ _ _ _ _ _) uu Tryz.sizeOf49 rfl nb rfl ?_
          refine yt rfl rfl rfl (st_5_0_5 _ _ _ _ _ _ _ _ _ _) uu Tryz.sizeOf44 rfl nb rfl ?_
          refine yn (zs (zr (zm rfl (zm rfl ?_)))); intro a w h
          refine wpl_plain (op_appendG (o := []) h rfl (GrowO.nil 10 49) rfl mm Tryz.runUnderlying66 Tryz.runUnderlying66 Tryz.typeInfo49 Tryz.sizeOf49 zeroPt rfl (by decide) (by decide) (cellsOf_length encPt_size _) (flatPt _) (by rw [tabL_len]; show 112 * _ ≤ 281474976710656; omega) (by decide) ?_); clear h; intro v112 o112 a w hG112 h; obtain ⟨ad112, c112, rfl⟩ := hG112.is; rw [Nat.zero_add, List.nil_append] at hG112; rw [Nat.zero_add] at h
          refine gL h (za rfl (zn (zs (yD mixed_YtealgpgmbflilaaGreatDoor [0, 1, 2, 3, 4, 5, 6, 7, 8, 9, 10, 11, 12, 13, 14, 15, 19, 20, 21, 22, 23, 24, 25, 26, 27, 28, 29, 30, 31, 32, 33, 16, 17, 18, 34, 35, 36, 37, 38, 39, 40] (floatsOK_none (by kernel_rfl)) (yp rfl (.move rfl) (yp rfl (.move rfl) (yp rfl (.move rfl) (yp rfl (Pure1.cast (v' := (.int .i64 ((cs.length - 1 : Nat) : Int))) (.sub rfl rfl) (by show Value.int _ _ = Value.int _ _; congr 1; omega)) (yp rfl (.indexAddr rfl rfl (ix_66 _ _ _ _ _ (by rw [tabL_len]; omega))) (yp rfl (Pure1.cast (v' := .pointer (some ⟨B_ad1, O_ad1 + ((cs.length - 1) * 10 + 0), none⟩)) (.indexAddr rfl rfl (ixc_49_0 _ _)) (by rw [Nat.add_assoc])) ?_)))))))))); clear h
          refine head_loadRow rfl (by kernel_rfl) rfl mm (at_lt (k := 10) (enc := encPt) (fun _ => rfl) (tabL (fA cs) cs.length) (cs.length - 1) 0 (by rw [tabL_len]; omega) (by decide)) Tryz.isAgg44 Tryz.sizeOf44 (read_at (k := 10) (enc := encPt) (fun _ => rfl) (tabL (fA cs) cs.length) (0, 0) (cs.length - 1) (by rw [tabL_len]; omega) true 5 0 _ (by decide) (by decide) rfl) (.inl rfl) (by decide) ?_
          refine yd rfl rfl mr Tryz.isAgg44 Tryz.sizeOf44 (rd_5_0_5 _ _ _ _ _) ?_
          refine yp rfl (.indexAddr rfl rfl (ixc_49_0 _ _)) (yd rfl rfl mr Tryz.isAgg44 Tryz.sizeOf44 (rd_10_0_5 _ _ _ _ _ _ _ _ _ _) ?_)
          refine yp rfl (.move rfl) (yp rfl (.move rfl) (yp rfl (Pure1.cast (v' := (.int .i64 ((cs.length - 1 : Nat) : Int))) (.sub rfl rfl) (by show Value.int _ _ = Value.int _ _; congr 1; omega)) (yp rfl (.indexAddr rfl rfl (ix_66 _ _ _ _ _ (by rw [tabL_len]; omega))) (yp rfl (Pure1.cast (v' := .pointer (some ⟨B_ad1, O_ad1 + ((cs.length - 1) * 10 + 0), none⟩)) (.indexAddr rfl rfl (ixc_49_0 _ _)) (by rw [Nat.add_assoc])) ?_))))
          refine head_loadRow rfl (by kernel_rfl) rfl mm (at_lt (k := 10) (enc := encPt) (fun _ => rfl) (tabL (fA cs) cs.length) (cs.length - 1) 0 (by rw [tabL_len]; omega) (by decide)) Tryz.isAgg44 Tryz.sizeOf44 (read_at (k := 10) (enc := encPt) (fun _ => rfl) (tabL (fA cs) cs.length) (0, 0) (cs.length - 1) (by rw [tabL_len]; omega) true 5 0 _ (by decide) (by decide) rfl) (.inl rfl) (by decide) ?_
          refine yp rfl (.move rfl) (yp rfl (.move rfl) (yp rfl (Pure1.cast (v' := (.int .i64 ((cs.length - 1 : Nat) : Int))) (.sub rfl rfl) (by show Value.int _ _ = Value.int _ _; congr 1; omega)) (yp rfl (.indexAddr rfl rfl (ix_66 _ _ _ _ _ (by rw [tabL_len]; omega))) (yp rfl (Pure1.cast (v' := .pointer (some ⟨B_ad1, O_ad1 + ((cs.length - 1) * 10 + 5), none⟩)) (.indexAddr rfl rfl (ixc_49_1 _ _)) (by rw [Nat.add_assoc])) ?_))))
          refine head_loadRow rfl (by kernel_rfl) rfl mm (at_lt (k := 10) (enc := encPt) (fun _ => rfl) (tabL (fA cs) cs.length) (cs.length - 1) 5 (by rw [tabL_len]; omega) (by decide)) Tryz.isAgg44 Tryz.sizeOf44 (read_at (k := 10) (enc := encPt) (fun _ => rfl) (tabL (fA cs) cs.length) (0, 0) (cs.length - 1) (by rw [tabL_len]; omega) true 5 5 _ (by decide) (by decide) rfl) (.inl rfl) (by decide) ?_
          refine yd rfl rfl mr Tryz.isAgg44 Tryz.sizeOf44 (rd_5_0_5 _ _ _ _ _) ?_
          refine yp rfl (.indexAddr rfl rfl (ixc_49_1 _ _)) (yd rfl rfl mr Tryz.isAgg44 Tryz.sizeOf44 (rd_10_5_5 _ _ _ _ _ _ _ _ _ _) ?_)
          refine yp rfl (.move rfl) (yp rfl (.move rfl) (yp rfl (Pure1.cast (v' := (.int .i64 ((cs.length - 1 : Nat) : Int))) (.sub rfl rfl) (by show Value.int _ _ = Value.int _ _; congr 1; omega)) (yp rfl (.indexAddr rfl rfl (ix_66 _ _ _ _ _ (by rw [tabL_len]; omega))) (yp rfl (Pure1.cast (v' := .pointer (some ⟨B_ad1, O_ad1 + ((cs.length - 1) * 10 + 5), none⟩)) (.indexAddr rfl rfl (ixc_49_1 _ _)) (by rw [Nat.add_assoc])) ?_))))
          refine head_loadRow rfl (by kernel_rfl) rfl mm (at_lt (k := 10) (enc := encPt) (fun _ => rfl) (tabL (fA cs) cs.length) (cs.length - 1) 5 (by rw [tabL_len]; omega) (by decide)) Tryz.isAgg44 Tryz.sizeOf44 (read_at (k := 10) (enc := encPt) (fun _ => rfl) (tabL (fA cs) cs.length) (0, 0) (cs.length - 1) (by rw [tabL_len]; omega) true 5 5 _ (by decide) (by decide) rfl) (.inl rfl) (by decide) ?_
          refine yv [_, _] rfl rfl Tryz.call31 (C_QSub _ _ (by omega) (by omega)) ?_
          have hl129 := lenQ_sub (((tabL (fA cs) cs.length).getD 0 (0, 0)).1) (((tabL (fA cs) cs.length).getD (cs.length - 1) (0, 0)).1)
          refine yv [_, _] rfl rfl Tryz.call30 (C_QMul _ _ (by omega) (by omega)) ?_
          have hl130 := lenQ_mul (qv qt.1 qt.2) ((((tabL (fA cs) cs.length).getD 0 (0, 0)).1) - (((tabL (fA cs) cs.length).getD (cs.length - 1) (0, 0)).1))
          refine yv [_, _] rfl rfl Tryz.call29 (C_QAdd _ _ (by omega) (by omega)) ?_
          have hl131 := lenQ_add (((tabL (fA cs) cs.length).getD (cs.length - 1) (0, 0)).1) ((qv qt.1 qt.2) * ((((tabL (fA cs) cs.length).getD 0 (0, 0)).1) - (((tabL (fA cs) cs.length).getD (cs.length - 1) (0, 0)).1)))
          refine yv [_, _] rfl rfl Tryz.call31 (C_QSub _ _ (by omega) (by omega)) ?_
          have hl147 := lenQ_sub (((tabL (fA cs) cs.length).getD 0 (0, 0)).2) (((tabL (fA cs) cs.length).getD (cs.length - 1) (0, 0)).2)
          refine yv [_, _] rfl rfl Tryz.call30 (C_QMul _ _ (by omega) (by omega)) ?_
          have hl148 := lenQ_mul (qv qt.1 qt.2) ((((tabL (fA cs) cs.length).getD 0 (0, 0)).2) - (((tabL (fA cs) cs.length).getD (cs.length - 1) (0, 0)).2))
          refine yv [_, _] rfl rfl Tryz.call29 (C_QAdd _ _ (by omega) (by omega)) ?_
          have hl149 := lenQ_add (((tabL (fA cs) cs.length).getD (cs.length - 1) (0, 0)).2) ((qv qt.1 qt.2) * ((((tabL (fA cs) cs.length).getD 0 (0, 0)).2) - (((tabL (fA cs) cs.length).getD (cs.length - 1) (0, 0)).2)))
          refine yp rfl (.build [(_, _), (_, _)] rfl (bd_49_0_1 _ _ _ _ _ _ _ _ _ _)) (yB rfl [(_, _)] rfl (bs_66_1_0 _ _ _ _ _ _ _ _ _ _) fun b151 => ?_)
          refine head_appendO (σr := [(b20, .cells (Value.cells (encQ (qv qt.1 qt.2))) 44 (0, 0)), (b19, .cells (Value.cells (encV (((tabL (fA cs) cs.length).getD 1 (0, 0)).1) (((tabL (fA cs) cs.length).getD 1 (0, 0)).2))) 49 (0, 0)), (b18, .cells (Value.cells (encV (((tabL (fA cs) cs.length).getD 0 (0, 0)).1) (((tabL (fA cs) cs.length).getD 0 (0, 0)).2))) 49 (0, 0)), (b7, .cells (Value.cells (.agg #[.int .i64 qt.1, .int .u32 qt.2])) 25 (0, 0))]) rfl (by kernel_rfl) rfl rfl (List.Perm.trans (List.Perm.refl _) (List.Perm.cons _ (List.Perm.refl _))) hG112 Tryz.runUnderlying66 Tryz.runUnderlying66 Tryz.typeInfo49 Tryz.sizeOf49 zeroPt rfl (by decide) (by decide) rfl rfl (by decide) (by show 112 * (2 * ((tabL (fA cs) cs.length).length + 1) + 192) ≤ 281474976710656; rw [tabL_len]; omega) (by decide) ?_
          intro v152 o152 hG152
          obtain ⟨ad152, c152, rfl⟩ := hG152.is
          have hLn152 : (tabL (fA cs) cs.length).length + 1 = ((tabL (fA cs) cs.length) ++ [((((tabL (fA cs) cs.length).getD (cs.length - 1) (0, 0)).1) + ((qv qt.1 qt.2) * ((((tabL (fA cs) cs.length).getD 0 (0, 0)).1) - (((tabL (fA cs) cs.length).getD (cs.length - 1) (0, 0)).1))), (((tabL (fA cs) cs.length).getD (cs.length - 1) (0, 0)).2) + ((qv qt.1 qt.2) * ((((tabL (fA cs) cs.length).getD 0 (0, 0)).2) - (((tabL (fA cs) cs.length).getD (cs.length - 1) (0, 0)).2))))]).length := by simp only [List.length_append, List.length_cons, List.length_nil, Nat.zero_add]
          rw [hLn152]; rw [hLn152] at hG152
          replace hG152 : GrowO 10 49 (.slice ad152 ((tabL (fA cs) cs.length) ++ [((((tabL (fA cs) cs.length).getD (cs.length - 1) (0, 0)).1) + ((qv qt.1 qt.2) * ((((tabL (fA cs) cs.length).getD 0 (0, 0)).1) - (((tabL (fA cs) cs.length).getD (cs.length - 1) (0, 0)).1))), (((tabL (fA cs) cs.length).getD (cs.length - 1) (0, 0)).2) + ((qv qt.1 qt.2) * ((((tabL (fA cs) cs.length).getD 0 (0, 0)).2) - (((tabL (fA cs) cs.length).getD (cs.length - 1) (0, 0)).2))))]).length c152) ((tabL (fA cs) cs.length) ++ [((((tabL (fA cs) cs.length).getD (cs.length - 1) (0, 0)).1) + ((qv qt.1 qt.2) * ((((tabL (fA cs) cs.length).getD 0 (0, 0)).1) - (((tabL (fA cs) cs.length).getD (cs.length - 1) (0, 0)).1))), (((tabL (fA cs) cs.length).getD (cs.length - 1) (0, 0)).2) + ((qv qt.1 qt.2) * ((((tabL (fA cs) cs.length).getD 0 (0, 0)).2) - (((tabL (fA cs) cs.length).getD (cs.length - 1) (0, 0)).2))))]).length (cellsOf encPt ((tabL (fA cs) cs.length) ++ [((((tabL (fA cs) cs.length).getD (cs.length - 1) (0, 0)).1) + ((qv qt.1 qt.2) * ((((tabL (fA cs) cs.length).getD 0 (0, 0)).1) - (((tabL (fA cs) cs.length).getD (cs.length - 1) (0, 0)).1))), (((tabL (fA cs) cs.length).getD (cs.length - 1) (0, 0)).2) + ((qv qt.1 qt.2) * ((((tabL (fA cs) cs.length).getD 0 (0, 0)).2) - (((tabL (fA cs) cs.length).getD (cs.length - 1) (0, 0)).2))))])) o152 := by rw [cellsOf_append, cellsOf_one]; exact hG152
          refine yp rfl (.assign rfl) (yn (zs (zr (zm rfl ?_)))); intro a w h
          replace h := St.shareO' h hS hG152
          refine gL h (zm rfl (zw [_, _] rfl Tryz.call27 (C_Polygon G _ _ _ _ 3 31 4 (tabL (fA cs) cs.length) hgx (by decide) hKA (by rw [tabL_len]; omega) (by decide) (by decide) (by decide +kernel)) (zz zeroQ fun b21 => zt' rfl rfl (st_5_0_5 _ _ _ _ _ _ _ _ _ _) uu Tryz.sizeOf44 rfl nb rfl ?_))); clear h; intro a w h
          refine gL h (zn (zs (zr (zm rfl (zd rfl mr Tryz.isAgg49 Tryz.sizeOf49 (rd_10_0_10 _ _ _ _ _ _ _ _ _ _) ?_))))); clear h; intro a w h
          refine gL h (zd rfl mr Tryz.isAgg49 Tryz.sizeOf49 (rd_10_0_10 _ _ _ _ _ _ _ _ _ _) ?_); clear h; intro a w h
          refine gL h (zw [_, _, _, _] rfl Tryz.call24 (C_Flow G [] _ _ _ _ 3 1 31 1 4 hgx (Pq.nil 1) (by decide) (by decide) ((tabL (fA cs) cs.length).getD 0 (0, 0)) ((tabL (fA cs) cs.length).getD 1 (0, 0)) (hKA _ (getD_mem _ (d := (0, 0)) (by rw [tabL_len]; omega))) (hKA _ (getD_mem _ (d := (0, 0)) (by rw [tabL_len]; omega))) (by decide) (by decide) (by decide) (by decide)) (zz zeroQ fun b22 => zt' rfl rfl (st_5_0_5 _ _ _ _ _ _ _ _ _ _) uu Tryz.sizeOf44 rfl nb rfl ?_)); clear h; intro a w h
          refine gL h (zn (zs (zs (zr (za rfl (zn (zb ?_))))))); clear h; intro a w h
          refine wp_loop_inv (fun (k : Nat) a w => k ≤ (cs.length - 1) ∧ St 211 S w0 [(1, .slice ad9 cs.length c9), (2, .int .i64 ((f : Nat) : Int)), (7, .pointer (some ⟨b7, 0, none⟩)), (8, .bool false), (9, .slice ad34 ((G).length) c34), (10, .int .i64 ((cs.length : Nat) : Int)), (13, .slice (some ⟨B_ad1, O_ad1, none⟩) ((tabL (fA cs) cs.length).length) c1), (14, .slice ad2 ((tabL (fun i => fA cs ((f + i) % cs.length)) cs.length).length) c2), (15, .slice ad3 ((tabL (fun i => fA cs (cs.length - 1 - i)) cs.length).length) c3), (16, .slice ad152 ((tabL (fA cs) cs.length ++ [(((tabL (fA cs) cs.length).getD (cs.length - 1) (0, 0)).1 + qv qt.1 qt.2 * (((tabL (fA cs) cs.length).getD 0 (0, 0)).1 - ((tabL (fA cs) cs.length).getD (cs.length - 1) (0, 0)).1), ((tabL (fA cs) cs.length).getD (cs.length - 1) (0, 0)).2 + qv qt.1 qt.2 * (((tabL (fA cs) cs.length).getD 0 (0, 0)).2 - ((tabL (fA cs) cs.length).getD (cs.length - 1) (0, 0)).2))]).length) c152), (17, .int .i64 ((cs.length : Nat) : Int)), (21, .pointer (some ⟨b21, 0, none⟩)), (22, .pointer (some ⟨b22, 0, none⟩)), (23, .int .i64 ((k + 1 : Nat) : Int))] [(b22, .cells (Value.cells (encQ (flG G (tabL (fA cs) cs.length) k))) 44 (0, 0)), (b21, .cells (Value.cells (encQ (polyQ G (tabL (fA cs) cs.length)))) 44 (0, 0)), (b20, .cells (Value.cells (encQ (qv qt.1 qt.2))) 44 (0, 0)), (b19, .cells (Value.cells (encV (((tabL (fA cs) cs.length).getD 1 (0, 0)).1) (((tabL (fA cs) cs.length).getD 1 (0, 0)).2))) 49 (0, 0)), (b18, .cells (Value.cells (encV (((tabL (fA cs) cs.length).getD 0 (0, 0)).1) (((tabL (fA cs) cs.length).getD 0 (0, 0)).2))) 49 (0, 0)), (b7, .cells (Value.cells (.agg #[.int .i64 qt.1, .int .u32 qt.2])) 25 (0, 0))] [Row ad152 (cellsOf encPt (tabL (fA cs) cs.length ++ [(((tabL (fA cs) cs.length).getD (cs.length - 1) (0, 0)).1 + qv qt.1 qt.2 * (((tabL (fA cs) cs.length).getD 0 (0, 0)).1 - ((tabL (fA cs) cs.length).getD (cs.length - 1) (0, 0)).1), ((tabL (fA cs) cs.length).getD (cs.length - 1) (0, 0)).2 + qv qt.1 qt.2 * (((tabL (fA cs) cs.length).getD 0 (0, 0)).2 - ((tabL (fA cs) cs.length).getD (cs.length - 1) (0, 0)).2))])), Row ad3 (cellsOf encPt (tabL (fun i => fA cs (cs.length - 1 - i)) cs.length)), Row ad2 (cellsOf encPt (tabL (fun i => fA cs ((f + i) % cs.length)) cs.length)), Row (some ⟨B_ad1, O_ad1, none⟩) (cellsOf encPt (tabL (fA cs) cs.length)), Row ad34 (cellsOf encT (G)), Row none (cellsOf encT []), Row ad (cellsOf encTi l), Row ad9 (cellsOf encPQ cs)] a w) (fun k => (cs.length - 1) - k) 0 (⟨Nat.zero_le _, by exact (h).sub (subL ⟨rfl, rfl, rfl, rfl, rfl, rfl, rfl, rfl, rfl, rfl, rfl, rfl, rfl, rfl, trivial⟩)⟩) ?_; clear h
          rintro k a w ⟨hi_k, h⟩
          refine gC h (zs (zs (zr (zm rfl (zm rfl (zp (.lss rfl rfl) (zn ?_))))))); clear h; intro a w h
          change Code.wp _ _ _ _ _
          refine cond_split h rfl (fun hc162 => ?_) (fun hc162 => ?_)
          · skip
            have hlt_k : k < (cs.length - 1) := by have := of_decide_eq_true hc162; omega
            have hfg := lenQ_flG hgx (by decide) hKA (by decide) (show SG 3 31 4 + SG 1 1 4 + 4 * 4 + 3 ≤ 1000000 by decide +kernel) (by rw [tabL_len]; omega) k (by rw [tabL_len]; omega)
            have hfk := Nat.mul_le_mul_right (1000000 + 1) (show k ≤ 7 by omega)
            have hfl := lenQ_flow hgx (Pq.nil 1) (by decide) (by decide) (hKA _ (getD_mem _ (d := (0, 0)) (by rw [tabL_len]; exact (show k + 1 < cs.length by omega)))) (hKA _ (getD_mem _ (d := (0, 0)) (show (k + 2) % (tabL (fA cs) cs.length).length < (tabL (fA cs) cs.length).length from Nat.mod_lt _ (by rw [tabL_len]; omega)))) (by decide) (show SG 3 31 4 + SG 1 1 4 + 4 * 4 + 3 ≤ 1000000 by decide +kernel)
            refine gC h (zk (zs (zb (yD mixed_YtealgpgmbflilaaGreatDoor [0, 1, 2, 3, 4, 5, 6, 7, 8, 9, 10, 11, 12, 13, 14, 15] (floatsOK_none (by kernel_rfl)) (yd rfl rfl mr Tryz.isAgg44 Tryz.sizeOf44 (rd_5_0_5 _ _ _ _ _) ?_))))); clear h
            refine yp rfl (.move rfl) (yp rfl (.move rfl) (yp rfl (.move rfl) (yp rfl (.indexAddr rfl rfl (ix_66 _ _ _ _ _ (by rw [tabL_len]; omega))) ?_)))
            refine head_loadRow rfl (by kernel_rfl) rfl mm (cells_lt (k := 10) (by decide) (fun _ => rfl) (tabL (fA cs) cs.length) (k + 1) (by rw [tabL_len]; omega)) Tryz.isAgg49 Tryz.sizeOf49 (read_cells (k := 10) (fun _ => rfl) ((fun _ => rfl)) (tabL (fA cs) cs.length) (0, 0) (k + 1) (by rw [tabL_len]; omega)) (.inl rfl) (by decide) ?_
            refine yp rfl (.move rfl) (yp rfl (.move rfl) (yp rfl (Pure1.cast (v' := .int .i64 ((k + 2 : Nat) : Int)) (Pure1.cast (v' := (.int .i64 (((k + 1) + 1 : Nat) : Int))) (.add rfl rfl) (by show Value.int _ _ = Value.int _ _; congr 1)) (by show Value.int _ _ = Value.int _ _; congr 1)) (yp rfl (.move rfl) (yp rfl (Pure1.cast (v' := .int .i64 (((k + 2) % (tabL (fA cs) cs.length).length : Nat) : Int)) (.binOp rfl rfl (fun _ => run_rem _ _ _ _ _ (by omega))) (by rw [tmod_nat, tabL_len])) (yp rfl (.indexAddr rfl rfl (ix_66 _ _ _ _ _ (by exact Nat.mod_lt _ (by rw [tabL_len]; omega)))) ?_)))))
            refine head_loadRow rfl (by kernel_rfl) rfl mm (cells_lt (k := 10) (by decide) (fun _ => rfl) (tabL (fA cs) cs.length) ((k + 2) % (tabL (fA cs) cs.length).length) (by exact Nat.mod_lt _ (by rw [tabL_len]; omega))) Tryz.isAgg49 Tryz.sizeOf49 (read_cells (k := 10) (fun _ => rfl) ((fun _ => rfl)) (tabL (fA cs) cs.length) (0, 0) ((k + 2) % (tabL (fA cs) cs.length).length) (by exact Nat.mod_lt _ (by rw [tabL_len]; omega))) (.inl rfl) (by decide) ?_
            refine yw [_, _, _, _] rfl rfl Tryz.call24 (C_Flow G [] _ _ _ _ 3 1 31 1 4 hgx (Pq.nil 1) (by decide) (by decide) ((tabL (fA cs) cs.length).getD (k + 1) (0, 0)) ((tabL (fA cs) cs.length).getD ((k + 2) % (tabL (fA cs) cs.length).length) (0, 0)) (hKA _ (getD_mem _ (d := (0, 0)) (by rw [tabL_len]; omega))) (hKA _ (getD_mem _ (d := (0, 0)) (Nat.mod_lt _ (by rw [tabL_len]; omega)))) (by decide) (by decide) (by decide) (by decide)) (yv [_, _] rfl rfl Tryz.call29 (C_QAdd _ _ (by omega) (by omega)) ?_)
            have hl179 := lenQ_add (flG G (tabL (fA cs) cs.length) k) (flowQ G [] ((tabL (fA cs) cs.length).getD (k + 1) (0, 0)) ((tabL (fA cs) cs.length).getD ((k + 2) % (tabL (fA cs) cs.length).length) (0, 0)))
            refine yt rfl rfl rfl (st_5_0_5 _ _ _ _ _ _ _ _ _ _) uu Tryz.sizeOf44 rfl nb rfl ?_
            refine yn (zr (zm rfl (zp (Pure1.cast (v' := (.int .i64 (((k + 1) + 1 : Nat) : Int))) (.add rfl rfl) (by show Value.int _ _ = Value.int _ _; congr 1)) (za rfl (zn ?_))))); intro a w h
            exact ⟨k + 1, ⟨by omega, h.sub sA⟩, by omega⟩
          · skip
            have heq_k : (cs.length - 1) = k := by have := of_decide_eq_false hc162; omega
            rw [← heq_k] at h
            refine gC h (ze (zs (yD mixed_YtealgpgmbflilaaGreatDoor [0, 1, 3, 2, 4, 5, 6, 7, 9, 8, 10, 11, 12, 13, 14, 15, 17, 16, 18, 19, 20, 21, 23, 25, 22, 24, 26, 27, 28, 29, 30, 31] (floatsOK_none (by kernel_rfl)) (yp rfl (.move rfl) (yp rfl (.move rfl) (yd rfl rfl mr Tryz.isAgg44 Tryz.sizeOf44 (rd_5_0_5 _ _ _ _ _) ?_)))))); clear h
            refine yw [_, _] rfl rfl Tryz.call27 (C_Polygon G _ _ _ _ 3 31 4 (tabL (fun i => fA cs ((f + i) % cs.length)) cs.length) hgx (by decide) hKB (by rw [tabL_len]; omega) (by decide) (by decide) (by decide +kernel)) (yp rfl (.binOp rfl rfl (fun _ => run_eqQ _ _ (polyQ G (tabL (fun i => fA cs ((f + i) % cs.length)) cs.length)) (polyQ G (tabL (fA cs) cs.length)) _)) ?_)
            refine head_bool (fun hc184  => ?_) (fun hc184  => (by exfalso; exact clE (round_turn G (fA cs) cs.length f hfn) hc184))
            refine yp rfl (.move rfl) (yq rfl rfl rfl (.move rfl) (yq rfl rfl rfl (.move rfl) (yg rfl rfl rfl rfl mr Tryz.isAgg44 Tryz.sizeOf44 (rd_5_0_5 _ _ _ _ _) ?_)))
            refine head_callWG rfl rfl rfl (by kernel_rfl) (vs := [_, _]) rfl Tryz.call27 (C_Polygon G _ _ _ _ 3 31 4 (tabL (fun i => fA cs (cs.length - 1 - i)) cs.length) hgx (by decide) hKC (by rw [tabL_len]; omega) (by decide) (by decide) (by decide +kernel)) (by simp) (by decide) ?_
            refine head_callVG rfl rfl rfl (by kernel_rfl) (vs := [_]) rfl Tryz.call32 (C_QNeg _) (by decide) ?_
            have hl190 := lenQ_neg (polyQ G (tabL (fA cs) cs.length))
            refine yq rfl rfl rfl (.binOp rfl rfl (fun _ => run_eqQ _ _ (polyQ G (tabL (fun i => fA cs (cs.length - 1 - i)) cs.length)) (-(polyQ G (tabL (fA cs) cs.length))) _)) ?_
            refine head_bool (fun hc191  => ?_) (fun hc191  => (by exfalso; exact clE (round_back G (fA cs) cs.length) hc191))
            refine yp rfl (.pickT rfl rfl) (yp rfl (.move rfl) (yq rfl rfl rfl (.move rfl) (yq rfl rfl rfl (.move rfl) (yg rfl rfl rfl rfl mr Tryz.isAgg44 Tryz.sizeOf44 (rd_5_0_5 _ _ _ _ _) ?_))))
            refine head_callWG rfl rfl rfl (by kernel_rfl) (vs := [_, _]) rfl Tryz.call27 (C_Polygon G _ _ _ _ 3 31 18 (tabL (fA cs) cs.length ++ [(((tabL (fA cs) cs.length).getD (cs.length - 1) (0, 0)).1 + qv qt.1 qt.2 * (((tabL (fA cs) cs.length).getD 0 (0, 0)).1 - ((tabL (fA cs) cs.length).getD (cs.length - 1) (0, 0)).1), ((tabL (fA cs) cs.length).getD (cs.length - 1) (0, 0)).2 + qv qt.1 qt.2 * (((tabL (fA cs) cs.length).getD 0 (0, 0)).2 - ((tabL (fA cs) cs.length).getD (cs.length - 1) (0, 0)).2))]) hgx (by decide) hKM (by rw [List.length_append, tabL_len, List.length_singleton]; omega) (by decide) (by decide) (by decide +kernel)) (by simp) (by decide) ?_
            refine yq rfl rfl rfl (.binOp rfl rfl (fun _ => run_eqQ _ _ (polyQ G (tabL (fA cs) cs.length ++ [(((tabL (fA cs) cs.length).getD (cs.length - 1) (0, 0)).1 + qv qt.1 qt.2 * (((tabL (fA cs) cs.length).getD 0 (0, 0)).1 - ((tabL (fA cs) cs.length).getD (cs.length - 1) (0, 0)).1), ((tabL (fA cs) cs.length).getD (cs.length - 1) (0, 0)).2 + qv qt.1 qt.2 * (((tabL (fA cs) cs.length).getD 0 (0, 0)).2 - ((tabL (fA cs) cs.length).getD (cs.length - 1) (0, 0)).2))])) (polyQ G (tabL (fA cs) cs.length)) _)) ?_
            refine head_bool (fun hc198  => ?_) (fun hc198  => (by exfalso; exact clE (by have h9 := round_more G (tabL (fA cs) cs.length) (by rw [tabL_len]; omega) (qv qt.1 qt.2); rw [tabL_len] at h9; exact h9) hc198))
            refine yp rfl (.pickT rfl rfl) (yp rfl (.move rfl) (yq rfl rfl rfl (.move rfl) (yq rfl rfl rfl (.move rfl) (yg rfl rfl rfl rfl mr Tryz.isAgg44 Tryz.sizeOf44 (rd_5_0_5 _ _ _ _ _) ?_))))
            refine head_callG rfl rfl rfl (by kernel_rfl) (vs := [_]) rfl Tryz.call33 (C_DxF G _ _ 3 31 hgx (by decide) (by decide)) (by simp) (by decide) ?_; rintro v202 Ψ202 ⟨ad202, c202, rfl, rfl⟩
            refine head_callWG rfl rfl rfl (by kernel_rfl) (vs := [_, _]) rfl Tryz.call27 (C_Polygon (norm (dxL G)) _ _ _ _ 3 32 4 (tabL (fA cs) cs.length) (hgx.dx (by decide)) (by decide) hKA (by rw [tabL_len]; omega) (by decide) (by decide) (by decide +kernel)) (by simp) (by decide) ?_
            refine yq rfl rfl rfl (.binOp rfl rfl (fun _ => run_eqQ _ _ (polyQ (norm (dxL G)) (tabL (fA cs) cs.length)) (flG G (tabL (fA cs) cs.length) (cs.length - 1)) _)) ?_
            refine head_bool (fun hc206  => ?_) (fun hc206  => (by exfalso; exact clE (by have h9 := round_flow G (tabL (fA cs) cs.length) (by rw [tabL_len]; omega); rw [tabL_len] at h9; exact h9) hc206))
            refine yp rfl (.pickT rfl rfl) (yp rfl (.move rfl) ?_)
            refine head_callVG rfl rfl rfl (by kernel_rfl) (vs := []) rfl Tryz.call15 (C_works9) (by decide) ?_
            refine yp rfl (.pickT rfl rfl) (yp rfl (.assign rfl) (yn (zt ?_))); intro a w h
            refine retV h (results1 h rfl (.tmp rfl)) ?_
            rfl
end Go.Proofs.YtealgpgmbflilaaGreatDoor
