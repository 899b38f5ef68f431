/- Written by a program of ours (gen.py) out of short specifications. By an AI agent. -/
import Derived.Test.YtmajjidkkpkhcaaGreatNats1
import Derived.Test.YtmajjidkkpkhcaaGreatFxZ
set_option linter.unusedVariables false
set_option linter.unusedSimpArgs false
set_option maxRecDepth 4000
namespace Go.Proofs.YtmajjidkkpkhcaaGreat
open Go Go.Proofs Go.Fx
attribute [local irreducible] Oper.wp Code.wp wpList Fx.Head wpOp
theorem bd_42_0 (x0 : Int) (w : World) : (Instr.build 42 [(0, .int .u64 x0)].toArray).run Tryz.prog w = .ok (.agg #[.int .u64 x0, .string ⟨#[]⟩]) w := by simp [go_sem]
theorem st_2_0_2 (c0 c1 v0 v1 : Value) : setFrom #[c0, c1] 0 [v0, v1] = #[v0, v1] := rfl
theorem rd_2_0_2 (c0 c1 : Value) : readAt true 2 #[c0, c1] 0 = some (.agg #[c0, c1]) := rfl
theorem bd_42_z (w : World) : (Instr.build 42 [].toArray).run Tryz.prog w = .ok (.agg #[.int .u64 0, .string ⟨#[]⟩]) w := by simp [go_sem]
theorem cv_23_40 (x : Int) (w : World) : (Go.convert 23 40 (.int .u32 x)).run Tryz.prog w = .ok (.int .u64 (IntKind.u64.wrap x)) w := by
  simp [go_sem]
theorem cv_23_40b (x : Int) (h0 : IntKind.u64.wrap x = x) (w : World) : (Go.convert 23 40 (.int .u32 x)).run Tryz.prog w = .ok (.int .u64 x) w := by
  rw [cv_23_40, h0]
theorem cv_23_5 (x : Int) (w : World) : (Go.convert 23 5 (.int .u32 x)).run Tryz.prog w = .ok (.int .u8 (IntKind.u8.wrap x)) w := by
  simp [go_sem]
theorem bs_150_4_0_1_2_3 (x0 : Int) (x1 : Int) (x2 : Int) (x3 : Int) (w : World) : (Instr.buildSlice 150 4 [(0, .int .u8 x0), (1, .int .u8 x1), (2, .int .u8 x2), (3, .int .u8 x3)].toArray).run Tryz.prog w = .ok (.slice (some ⟨w.heap.size, 0, none⟩) 4 4) (w.alloc (.cells #[.int .u8 x0, .int .u8 x1, .int .u8 x2, .int .u8 x3] 5 (0, 0))) := by
  simp [go_sem]
theorem bd_42_1 (x1 : ByteArray) (w : World) : (Instr.build 42 [(1, .string x1)].toArray).run Tryz.prog w = .ok (.agg #[.int .u64 0, .string x1]) w := by simp [go_sem]
theorem run_eqN (X Y : Operand) (n m : Nat) (w : World) : (do eqGuard .eql 42 X Y (encN n) (encN m); Go.binOp .eql 42 (encN n) (encN m) : Sem Value).run Tryz.prog w = .ok (.bool (decide (n = m))) w := by
  simp [go_sem]
  have hb : ((bigN n).toList = (bigN m).toList) ↔ bigN n = bigN m := by have := toList_beq (bigN n) (bigN m); rw [Bool.eq_iff_iff] at this; simpa using this
  by_cases h : n = m
  · subst h; simp
  · have hne := fun h1 h2 => h (enc_inj h1 h2)
    by_cases h1 : lowN n = lowN m
    · simp only [h, h1, hb, if_true, decide_false]; exact if_neg (hne h1)
    · simp [h, h1]

theorem C_Of (n : Nat) (hn : n < 18446744073709551616) : CtrV Tryz.prog 74 [.int .u64 (n : Int)] (encN n) := by
  refine fn_intro Tryz.func74 rfl Tryz.ntmps74 nb ?_
  intro S w0 a hS h
  refine gC h (zs (zr (zz Tryz.zeroValue42 fun b2 => zn (zs (zr (zm rfl (zp (.build [(_, _)] rfl (bd_42_0 _)) (zt' rfl rfl (st_2_0_2 _ _ _ _) uu Tryz.sizeOf42 rfl nb rfl ?_)))))))); clear h; intro a w h
  refine wpList_nil (wp_ret ?_)
  refine retV h (results1 h rfl (.cell rfl mr Tryz.isAgg42 Tryz.sizeOf42 (rd_2_0_2 _ _))) ?_
  rw [encN, lowN_small hn, bigN_small hn]

theorem C_zero (n : Nat) : CtrV Tryz.prog 114 [encN n] (.bool (decide (n = 0))) := by
  refine fn_intro Tryz.func114 rfl Tryz.ntmps114 nb ?_
  intro S w0 a hS h
  refine gC h (zs (zr (zx rfl fun b1 => za rfl (zn (zs (zr (zd rfl mr Tryz.isAgg42 Tryz.sizeOf42 (rd_2_0_2 _ _) ?_))))))); clear h; intro a w h
  refine gL h (zp (Pure1.cast (v' := encN 0) (.build [] rfl (bd_42_z)) (by rfl)) (zp (.binOp rfl rfl (fun _ => run_eqN _ _ n 0 _)) (za rfl (zn (zt ?_))))); clear h; intro a w h
  refine retV h (results1 h rfl (.tmp rfl)) ?_
  rfl

theorem C_of (ad : Option Addr) (c : Nat) (l : List Nat) (hw : Wd l) (hc : l.length ≤ c) (hs : l.length ≤ 1099511627776) :
    CtrW Tryz.prog 77 [.slice ad l.length c] [Row ad (u32s l)] (encN (valW l)) := by
  refine fn_intro Tryz.func77 rfl Tryz.ntmps77 nb ?_
  intro S w0 a hS h
  refine gC h (zs (zr (zz Tryz.zeroValue42 fun b2 => zn (zs (zr (zm rfl (zf [_] rfl Tryz.call119 (C_cut ad c l hw hc hs) ?_))))))); clear h; rintro v10 Ψ10 ⟨rfl, rfl⟩ a w h
  have hWd := Wd.wds (valW l)
  have hV := valW_wds (valW l)
  have hN : (wds (valW l)).length ≤ 1099511627776 := Nat.le_trans (wds_length_le hw) hs
  have hNc : (wds (valW l)).length ≤ c := Nat.le_trans (wds_length_le hw) hc
  generalize hWe : wds (valW l) = W at h hWd hV hN hNc
  refine gL h (za rfl (zn (zs (zs (zr (zm rfl (zp (.builtin [_] rfl (len_slice_114 _ _ _)) (zp (.leq rfl rfl) (zn ?_))))))))); clear h; intro a w h
  change Code.wp _ _ _ _ _
  refine cond_split h rfl (fun hc13 => ?_) (fun hc13 => ?_)
  · skip
    have h2 : W.length ≤ 2 := by simp at hc13; omega
    refine gC h (zs (zr (za rfl (zn (zs (zs (zr (zm rfl (zp (.builtin [_] rfl (len_slice_114 _ _ _)) (zm rfl (zn (zb ?_)))))))))))); clear h; intro a w h
    refine wp_loop_inv (fun (i : Nat) a w => i ≤ W.length ∧ St 59 S w0 [(2, .pointer (some ⟨b2, 0, none⟩)), (3, .int .u64 (valW (W.take i) : Int)), (14, .slice ad W.length c), (15, .int .i64 (W.length : Int)), (16, .int .i64 (i : Int))] [(b2, .cells (encN 0).cells 42 (0, 0))] [Row ad (u32s W)] a w) (fun i => W.length - i) (0) (⟨Nat.zero_le _, (h.factsSub (by simp)).sub (subL ⟨rfl, rfl, rfl, rfl, rfl, trivial⟩)⟩) ?_; clear h
    rintro i a w ⟨hi, h⟩
    refine gC h (zs (zr (zp (.lss rfl rfl) (zn (zs ?_))))); clear h; intro a w h
    refine cond_split h rfl (fun hc17 => ?_) (fun hc17 => ?_)
    · skip
      have hi' : i < W.length := by simpa using hc17
      obtain ⟨b, off, had⟩ := h.row_addr List.mem_cons_self (by simp; intro e; subst e; simp at hi')
      subst had
      have hx := hWd.getD i
      refine gC h (zk (zs (zb (zs (zr (zm rfl (zp (.indexAddr rfl rfl (ix_114 _ _ _ _ _ (by omega))) (zD rfl mm (by simp; omega) Tryz.isAgg23 Tryz.sizeOf23 (read_row 0 (by omega)) (.inr rfl) ?_)))))))); clear h; intro a w h
      refine gL h (za rfl (za rfl (zn (zr (zm rfl (zm rfl (zp (.convert rfl (cv_23_40b _ (wrap_u64 _ (by omega) (by omega)))) (zm rfl (zp (Pure1.cast (v' := .int .i64 ((32 * i : Nat) : Int)) (.mul rfl rfl) (by show Value.int _ _ = Value.int _ _; congr 1)) (zp (Pure1.cast (v' := .int .u64 ((W.getD i 0 * 2 ^ (32 * i) : Nat) : Int)) (.binOp rfl rfl (fun _ => run_shl _ _ _ _ _ (by show 32 * i ≤ 64; omega))) (by rw [wrap_u64 _ (by omega) (by have := shl32_bound _ i hx (by omega); omega)])) (zp (Pure1.cast (v' := .int .u64 ((valW (W.take (i + 1)) : Nat) : Int)) (.binOp rfl rfl (fun _ => run_or rfl _ _ _ _ _ (Nat.lt_of_lt_of_le (valW_lt64 (hWd.take i) (by simp; omega)) (by decide)) (shl32_bound _ i hx (by omega)))) (by rw [or_word _ _ hi' hWd])) (za rfl (zn (zr (zp (.add rfl rfl) (zm rfl (zn ?_))))))))))))))))); clear h; intro a w h
      exact ⟨i + 1, ⟨by omega, h.sub sA⟩, by omega⟩
    · skip
      have hi' : i = W.length := by simp at hc17; omega
      refine gC h (ze (zs (zr (zm rfl (zp (.build [(_, _)] rfl (bd_42_0 _)) (zt' rfl rfl (st_2_0_2 _ _ _ _) uu Tryz.sizeOf42 rfl nb rfl ?_)))))); clear h; intro a w h
      refine wpList_nil (wp_ret ?_)
      refine retV h (results1 h rfl (.cell rfl mr Tryz.isAgg42 Tryz.sizeOf42 (rd_2_0_2 _ _))) ?_
      have hlt := valW_lt64 hWd h2; rw [hV] at hlt; subst hi'; rw [List.take_length, hV, encN, lowN_small hlt, bigN_small hlt]
  · skip
    have h2 : 2 < W.length := by simp at hc13; omega
    refine gC h (zk (zs (zr (zm rfl (zp (.builtin [_] rfl (len_slice_114 _ _ _)) (zp (Pure1.cast (v' := .int .i64 ((4 * W.length : Nat) : Int)) (.mul rfl rfl) (by show Value.int _ _ = Value.int _ _; congr 1)) ?_)))))); clear h; intro a w h
    refine wpl_plain (op_makeSlice h rfl rfl Tryz.runUnderlying150 Tryz.typeInfo5 Tryz.sizeOf5 Tryz.zeroValue5 rfl (by decide) (by exact Nat.zero_le _) (by show 1 * _ ≤ _; omega) (by omega) (by decide) ?_); clear h; intro b34 a w h
    refine gL h (za rfl (zn (zs (zs (zr (zm rfl (zp (.builtin [_] rfl (len_slice_114 _ _ _)) (zm rfl (zn (zb ?_)))))))))); clear h; intro a w h
    refine wp_loop_inv (fun (i : Nat) a w => i ≤ W.length ∧ ∃ v σ, Grow 1 5 v (4 * i) (u8s (bytesOf (W.take i))) σ [(b2, .cells (encN 0).cells 42 (0, 0))] ∧ St 59 S w0 [(2, .pointer (some ⟨b2, 0, none⟩)), (6, v), (35, .slice ad W.length c), (36, .int .i64 (W.length : Int)), (37, .int .i64 (i : Int))] σ [Row ad (u32s W)] a w) (fun i => W.length - i) (0) (⟨Nat.zero_le _, _, _, ⟨rfl, .inr ⟨b34, 4 * W.length, _, rfl, by simp [bytesOf, reps, Value.cells], Nat.zero_le _, rfl⟩⟩, (h.factsSub (by simp)).sub (subL ⟨rfl, rfl, rfl, rfl, rfl, trivial⟩)⟩) ?_; clear h
    rintro i a w ⟨hi, v, σ, hG, h⟩
    refine gC h (zs (zr (zp (.lss rfl rfl) (zn (zs ?_))))); clear h; intro a w h
    refine cond_split h rfl (fun hc38 => ?_) (fun hc38 => ?_)
    · skip
      have hi' : i < W.length := by simpa using hc38
      obtain ⟨b, off, had⟩ := h.row_addr List.mem_cons_self (by simp; intro e; subst e; simp at hi')
      subst had
      have hx := hWd.getD i
      refine gC h (zk (zs (zb (zs (zr (zp (.indexAddr rfl rfl (ix_114 _ _ _ _ _ (by omega))) (zD rfl mm (by simp; omega) Tryz.isAgg23 Tryz.sizeOf23 (read_row 0 (by omega)) (.inr rfl) ?_))))))); clear h; intro a w h
      refine gL h (za rfl (zn (zr (zm rfl (zm rfl (zp (Pure1.cast (v' := .int .u8 ((W.getD i 0 % 256 : Nat) : Int)) (.convert rfl (cv_23_5 _)) (by rw [wrap_u8_mod]; congr 1)) (zm rfl (zp (.binOp rfl rfl (fun _ => run_shr _ _ _ _ 8 (by decide))) (zp (Pure1.cast (v' := .int .u8 ((W.getD i 0 / 2 ^ 8 % 256 : Nat) : Int)) (.convert rfl (cv_23_5 _)) (by rw [wrap_u8_mod]; congr 1)) (zm rfl (zp (.binOp rfl rfl (fun _ => run_shr _ _ _ _ 16 (by decide))) (zp (Pure1.cast (v' := .int .u8 ((W.getD i 0 / 2 ^ 16 % 256 : Nat) : Int)) (.convert rfl (cv_23_5 _)) (by rw [wrap_u8_mod]; congr 1)) (zm rfl (zp (.binOp rfl rfl (fun _ => run_shr _ _ _ _ 24 (by decide))) (zp (Pure1.cast (v' := .int .u8 ((W.getD i 0 / 2 ^ 24 % 256 : Nat) : Int)) (.convert rfl (cv_23_5 _)) (by rw [wrap_u8_mod]; congr 1)) (zB [(_, _), (_, _), (_, _), (_, _)] rfl (bs_150_4_0_1_2_3 _ _ _ _) fun b53 => ?_)))))))))))))))); clear h; intro a w h
      refine wpl_plain (op_append h rfl rfl hG Tryz.runUnderlying150 Tryz.runUnderlying150 Tryz.typeInfo5 Tryz.sizeOf5 Tryz.zeroValue5 rfl (by decide) (by decide) rfl rfl (by decide) (by show 1 * _ ≤ _; omega) (by decide) ?_); clear h hG; intro v σ a w hG h
      rw [bytes_snoc _ _ hi'] at hG
      refine gL h (za rfl (zn (zr (zp (.add rfl rfl) (zm rfl (zn ?_)))))); clear h; intro a w h
      exact ⟨i + 1, ⟨by omega, _, _, hG, h.sub (subL ⟨rfl, rfl, rfl, rfl, rfl, trivial⟩)⟩, by omega⟩
    · skip
      have hi' : i = W.length := by simp at hc38; omega
      refine gC h (ze (zs (zr (zm rfl ?_)))); clear h; intro a w h
      refine wpl_plain (op_toString h rfl hG Tryz.runUnderlying150 Tryz.runUnderlying9 Tryz.runUnderlying5 (by decide) ?_); clear h; intro a h
      replace h := h.drop hG.sub
      refine gL h (zp (.build [(_, _)] rfl (bd_42_1 _)) (zt' rfl rfl (st_2_0_2 _ _ _ _) uu Tryz.sizeOf42 rfl nb rfl ?_)); clear h; intro a w h
      refine wpList_nil (wp_ret ?_)
      refine retV h (results1 h rfl (.cell rfl mr Tryz.isAgg42 Tryz.sizeOf42 (rd_2_0_2 _ _))) ?_
      have hlt : ¬ valW l < 18446744073709551616 := wds_len_big (by rw [hWe]; exact h2)
      subst hi'; rw [List.take_length, encN, lowN_large hlt, bigN_large hlt, hWe]
end Go.Proofs.YtmajjidkkpkhcaaGreat
