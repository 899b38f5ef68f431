/- Written by a program of ours (gen.py) out of short specifications. By an AI agent. -/
import Derived.Test.YtmajjidkkpkhcaaGreatProg
import Derived.Test.YtmajjidkkpkhcaaGreatFxZ
import Derived.Test.YtmajjidkkpkhcaaGreatFxS
import Derived.Test.YtmajjidkkpkhcaaGreatNumW
set_option linter.unusedVariables false
set_option linter.unusedSimpArgs false
set_option maxRecDepth 4000
namespace Go.Proofs.YtmajjidkkpkhcaaGreat
open Go Go.Proofs Go.Fx
attribute [local irreducible] Oper.wp Code.wp wpList Fx.Head wpOp
theorem len_slice_114 (a : Option Addr) (n c : Nat) (w : World) (ty : TypeId) (cs : Array Bool) : (Go.builtin .len #[114] ty cs #[.slice a n c]).run Tryz.prog w = .ok (.value (.int .i64 n)) w := by
  simp [go_sem]
theorem ix_114 (b off n c j : Nat) (h : j < n) (w : World) : (Instr.indexAt 114 (.slice (some ⟨b, off, none⟩) n c) (.int .i64 (j : Int))).run Tryz.prog w = .ok (.pointer (some ⟨b, off + j, none⟩)) w := by
  simpa using indexAt_slice Tryz.runUnderlying114 Tryz.sizeOf23 b off n c j h w
theorem slh_114 (a : Option Addr) (n c j : Nat) (h : j ≤ c) (w : World) : (Instr.sliceAt 114 (.slice a n c) none (some (.int .i64 (j : Int))) none).run Tryz.prog w = .ok (.slice a j c) w := by
  exact sliceAt_high Tryz.runUnderlying114 Tryz.sizeOf23 a n c j h w
theorem fa_42_1 (b off : Nat) (w : World) : (Instr.fieldAt 42 (.pointer (some ⟨b, off, none⟩)) 1).run Tryz.prog w = .ok (.pointer (some ⟨b, off + 1, none⟩)) w := by
  simp [go_sem]
theorem rs_2_1 (c0 c1 : Value) : readAt false 1 #[c0, c1] 1 = some c1 := rfl
theorem fa_42_0 (b off : Nat) (w : World) : (Instr.fieldAt 42 (.pointer (some ⟨b, off, none⟩)) 0).run Tryz.prog w = .ok (.pointer (some ⟨b, off + 0, none⟩)) w := by
  simp [go_sem]
theorem rs_2_0 (c0 c1 : Value) : readAt false 1 #[c0, c1] 0 = some c0 := rfl
theorem cv_40_23 (x : Int) (w : World) : (Go.convert 40 23 (.int .u64 x)).run Tryz.prog w = .ok (.int .u32 (IntKind.u32.wrap x)) w := by
  simp [go_sem]
theorem bs_114_2_0_1 (x0 : Int) (x1 : Int) (w : World) : (Instr.buildSlice 114 2 [(0, .int .u32 x0), (1, .int .u32 x1)].toArray).run Tryz.prog w = .ok (.slice (some ⟨w.heap.size, 0, none⟩) 2 2) (w.alloc (.cells #[.int .u32 x0, .int .u32 x1] 23 (0, 0))) := by
  simp [go_sem]
theorem len_string_9 (x : ByteArray) (w : World) (ty : TypeId) (cs : Array Bool) : (Go.builtin .len #[9] ty cs #[.string x]).run Tryz.prog w = .ok (.value (.int .i64 x.size)) w := by
  simp [go_sem]
theorem cv_5_23 (x : Int) (w : World) : (Go.convert 5 23 (.int .u8 x)).run Tryz.prog w = .ok (.int .u32 (IntKind.u32.wrap x)) w := by
  simp [go_sem]
theorem cv_5_23b (x : Int) (h0 : IntKind.u32.wrap x = x) (w : World) : (Go.convert 5 23 (.int .u8 x)).run Tryz.prog w = .ok (.int .u32 x) w := by
  rw [cv_5_23, h0]
theorem mixed_YtmajjidkkpkhcaaGreat : Tryz.prog.follows .mixedOrders = true := by kernel_rfl
theorem un_not (b : Bool) (w : World) : (Op.unary .not (.bool b)).run Tryz.prog w = .ok (.bool (!b)) w := by simp [go_sem]

theorem C_cut (ad : Option Addr) (c : Nat) (l : List Nat) (hw : Wd l) (hc : l.length ≤ c) (hs : l.length ≤ 1099511627776) :
    Ctr Tryz.prog 119 [.slice ad l.length c] [Row ad (u32s l)] (fun v Ψ => v = .slice ad (wds (valW l)).length c ∧ Ψ = [Row ad (u32s (wds (valW l)))]) := by
  refine fn_intro Tryz.func119 rfl Tryz.ntmps119 nb ?_
  intro S w0 a hS h
  refine gC h (zs (zr (za rfl (zn (zs (zb ?_)))))); clear h; intro a w h
  refine wp_loop_inv (fun (m : Nat) a w => m ≤ l.length ∧ (∀ j, m ≤ j → j < l.length → l.getD j 0 = 0) ∧ St 21 S w0 [(0, .slice ad m c)] [] [Row ad (u32s l)] a w) (fun m => m) (l.length) (⟨Nat.le_refl _, fun j h1 h2 => absurd h2 (by omega), h.sub (subL ⟨rfl, trivial⟩)⟩) ?_; clear h
  rintro m a w ⟨hm, hz, h⟩
  refine gC h (zs (zs (zr (zm rfl (zp (.builtin [_] rfl (len_slice_114 _ _ _)) (zp (.gtr rfl rfl) (zm rfl ?_))))))); clear h; intro a w h
  refine by_bool h (fun hc6 h => ?_) (fun hc6 h => ?_)
  · skip
    have hm0 : 0 < m := by simpa using hc6
    obtain ⟨b, off, had⟩ := h.row_addr List.mem_cons_self (by simp; intro e; subst e; simp at hm; omega)
    subst had
    refine gL h (zq 6 rfl rfl (.move rfl) (zq 6 rfl rfl (.move rfl) (zq 6 rfl rfl (.builtin [_] rfl (len_slice_114 _ _ _)) (zq 6 rfl rfl (Pure1.cast (v' := .int .i64 ((m - 1 : Nat) : Int)) (.sub rfl rfl) (by show Value.int _ _ = Value.int _ _; congr 1; omega)) (zq 6 rfl rfl (.indexAddr rfl rfl (ix_114 _ _ _ _ _ (by omega))) ?_))))); clear h; intro a w h
    refine wpl_guard 6 h rfl rfl (op_loadRow h rfl List.mem_cons_self (by simp; omega) Tryz.isAgg23 Tryz.sizeOf23 (read_row 0 (by omega)) (.inr rfl) (by decide) ?_); clear h; intro a h
    refine gL h (zq 6 rfl rfl (.eql rfl rfl) (zp (.pickT rfl rfl) (zn ?_))); clear h; intro a w h
    change Code.wp _ _ _ _ _
    refine cond_split h rfl (fun hc14 => ?_) (fun hc14 => ?_)
    · skip
      refine gC h (zk (zb (zr (zm rfl (zm rfl (zp (.builtin [_] rfl (len_slice_114 _ _ _)) (zp (Pure1.cast (v' := .int .i64 ((m - 1 : Nat) : Int)) (.sub rfl rfl) (by show Value.int _ _ = Value.int _ _; congr 1; omega)) (zp (.slice rfl none (some _) none rfl rfl rfl (slh_114 _ _ _ _ (by omega))) (za rfl (zn ?_)))))))))); clear h; intro a w h
      refine ⟨m - 1, ⟨by omega, fun j h1 h2 => ?_, h.sub sA⟩, by omega⟩
      by_cases hj : j = m - 1
      · subst hj; simpa using hc14
      · exact hz j (by omega) h2
    · skip
      refine gC h (ze (zs (zr (zm rfl (za rfl (zn (zt ?_))))))); clear h; intro a w h
      have hcut := cut_end hw hm hz (.inr (by simpa using hc14))
      have hR : ∀ ad, Row ad (u32s (wds (valW l))) = Row ad ((u32s l).take m) := by intro ad; rw [hcut, u32s, List.map_take]
      replace h := h.derive (R := Row _ (u32s (wds (valW l)))) (fun X hX => by rw [hR]; exact row_take (hX _ List.mem_cons_self) m)
      have hl : m = (wds (valW l)).length := by rw [hcut]; simp; omega
      refine ret_of (Ψ := [Row _ (u32s (wds (valW l)))]) h (results1 h rfl (.tmp rfl)) ⟨by rw [← hl], rfl⟩ (by simp)
  · skip
    refine gL h (zo 6 rfl rfl rfl (zo 6 rfl rfl rfl (zo 6 rfl rfl rfl (zo 6 rfl rfl rfl (zo 6 rfl rfl rfl (zo 6 rfl rfl rfl (zo 6 rfl rfl rfl (zp (.pickF rfl rfl) (zn ?_))))))))); clear h; intro a w h
    change Code.wp _ _ _ _ _
    refine cond_false h rfl ?_
    refine gC h (ze (zs (zr (zm rfl (za rfl (zn (zt ?_))))))); clear h; intro a w h
    have hcut := cut_end hw hm hz (.inl (by simpa using hc6))
    have hR : ∀ ad, Row ad (u32s (wds (valW l))) = Row ad ((u32s l).take m) := by intro ad; rw [hcut, u32s, List.map_take]
    replace h := h.derive (R := Row _ (u32s (wds (valW l)))) (fun X hX => by rw [hR]; exact row_take (hX _ List.mem_cons_self) m)
    have hl : m = (wds (valW l)).length := by rw [hcut]; simp; omega
    refine ret_of (Ψ := [Row _ (u32s (wds (valW l)))]) h (results1 h rfl (.tmp rfl)) ⟨by rw [← hl], rfl⟩ (by simp)

theorem C_words (n : Nat) (hs : (wds n).length ≤ 1099511627776) :
    Ctr Tryz.prog 78 [encN n] [] (fun v Ψ => ∃ ad c, v = .slice ad (wds n).length c ∧ (wds n).length ≤ c ∧ Ψ = [Row ad (u32s (wds n))]) := by
  refine fn_intro Tryz.func78 rfl Tryz.ntmps78 nb ?_
  intro S w0 a hS h
  refine gC h (zs (zr (zx rfl fun b1 => za rfl (zn (zs (zs (zr (zp (.fieldAddr rfl (fa_42_1 _ _)) (zd rfl mr Tryz.isAgg9 Tryz.sizeOf9 (rs_2_1 _ _) ?_))))))))); clear h; intro a w h
  refine gL h (zp (.binOp rfl rfl (fun _ => run_seql _ _ _ _ _)) (zn ?_)); clear h; intro a w h
  change Code.wp _ _ _ _ _
  refine cond_split h rfl (fun hc8 => ?_) (fun hc8 => ?_)
  · skip
    have hn : n < 18446744073709551616 := bigN_empty.1 (by simpa using hc8)
    refine gC h (zs (zr (zp (.fieldAddr rfl (fa_42_0 _ _)) (zd rfl mr Tryz.isAgg40 Tryz.sizeOf40 (rs_2_0 _ _) ?_)))); clear h; intro a w h
    refine gL h (zp (Pure1.cast (v' := .int .u32 ((n % 4294967296 : Nat) : Int)) (.convert rfl (cv_40_23 _)) (by rw [lowN_small hn, wrap_u32_mod]; congr 1)) (zp (.fieldAddr rfl (fa_42_0 _ _)) (zd rfl mr Tryz.isAgg40 Tryz.sizeOf40 (rs_2_0 _ _) ?_))); clear h; intro a w h
    refine gL h (zp (.binOp rfl rfl (fun _ => by rw [lowN_small hn]; exact run_shr _ _ _ n 32 (by decide))) (zp (Pure1.cast (v' := .int .u32 ((n / 4294967296 : Nat) : Int)) (.convert rfl (cv_40_23 _)) (by rw [wrap_u32_mod]; congr 1; omega)) (zB [(_, _), (_, _)] rfl (bs_114_2_0_1 _ _) fun b16 => ?_))); clear h; intro a w h
    replace h := h.shareAll hS (u32s [n % 4294967296, n / 4294967296]) rfl
    refine gL h (zf [_] rfl Tryz.call119 (C_cut _ _ [n % 4294967296, n / 4294967296] (two_Wd n hn) (by simp) (by simp)) ?_); clear h; rintro v17 Ψ17 ⟨rfl, rfl⟩ a w h
    rw [two_words n hn] at h
    refine gL h (za rfl (zn (zt ?_))); clear h; intro a w h
    refine ret_of (Ψ := [Row _ (u32s (wds n))]) h (results1 h rfl (.tmp rfl)) ⟨_, _, rfl, wds_small hn, rfl⟩ (by simp)
  · skip
    have hn : ¬ n < 18446744073709551616 := fun hn => by have := bigN_empty.2 hn; simp [this] at hc8
    refine gC h (zk (zs (zr (zp (.fieldAddr rfl (fa_42_1 _ _)) (zd rfl mr Tryz.isAgg9 Tryz.sizeOf9 (rs_2_1 _ _) ?_))))); clear h; intro a w h
    refine gL h (zp (.builtin [_] rfl (len_string_9 _)) (zp (Pure1.cast (v' := .int .i64 ((wds n).length : Int)) (.binOp rfl rfl (fun _ => run_quo _ _ _ _ _ (by decide))) (by rw [bigN_size, if_neg hn]; rw [show ((4 : Int)) = ((4 : Nat) : Int) from rfl, tdiv_nat, wrap_i64 _ (by omega) (by omega)]; congr 1; omega)) ?_)); clear h; intro a w h
    refine wpl_plain (op_makeSlice h rfl rfl Tryz.runUnderlying114 Tryz.typeInfo23 Tryz.sizeOf23 Tryz.zeroValue23 rfl (by decide) (Nat.le_refl _) (by show 4 * _ ≤ _; omega) (by omega) (by decide) ?_); clear h; intro b22 a w h
    rw [show (Value.int .u32 0).cells.toList = [Value.int .u32 0] from rfl, reps_one, show List.replicate (wds n).length (Value.int .u32 0) = u32s (partW (wds n) 0 0) from by rw [partW_zero]; simp] at h
    refine gL h (za rfl (zn (zs (zs (zr (zm rfl (zp (.builtin [_] rfl (len_slice_114 _ _ _)) (zm rfl (zn (zb ?_)))))))))); clear h; intro a w h
    refine wp_loop_inv (fun (i : Nat) a w => i ≤ (wds n).length ∧ St 51 S w0 [(1, .pointer (some ⟨b1, 0, none⟩)), (3, .slice (some ⟨b22, 0, none⟩) (wds n).length (wds n).length), (24, .int .i64 ((wds n).length : Int)), (25, .int .i64 (i : Int))] [(b22, .cells (u32s (partW (wds n) i 0)).toArray 23 (0, 0)), (b1, .cells (encN n).cells 42 (0, 0))] [] a w) (fun i => (wds n).length - i) (0) (⟨Nat.zero_le _, h.sub (subL ⟨rfl, rfl, rfl, rfl, trivial⟩)⟩) ?_; clear h
    rintro i a w ⟨hi, h⟩
    refine gC h (zs (zr (zp (.lss rfl rfl) (zn (zs ?_))))); clear h; intro a w h
    refine cond_split h rfl (fun hc26 => ?_) (fun hc26 => ?_)
    · skip
      have hi' : i < (wds n).length := by simpa using hc26
      refine gC h (zk (zs (zb (zs (zr (zm rfl (za rfl (zn (zs (zr (zm rfl (zn (zb ?_))))))))))))); clear h; intro a w h
      refine wp_loop_inv (fun (k : Nat) a w => k ≤ 4 ∧ St 51 S w0 [(1, .pointer (some ⟨b1, 0, none⟩)), (3, .slice (some ⟨b22, 0, none⟩) (wds n).length (wds n).length), (24, .int .i64 ((wds n).length : Int)), (25, .int .i64 (i : Int)), (4, .int .i64 (i : Int)), (28, .int .i64 (k : Int))] [(b22, .cells (u32s (partW (wds n) i k)).toArray 23 (0, 0)), (b1, .cells (encN n).cells 42 (0, 0))] [] a w) (fun k => 4 - k) (0) (⟨by omega, h.sub sA⟩) ?_; clear h
      rintro k a w ⟨hk, h⟩
      refine gC h (zs (zr (zp (.lss rfl rfl) (zn (zs ?_))))); clear h; intro a w h
      refine cond_split h rfl (fun hc29 => ?_) (fun hc29 => ?_)
      · skip
        have hk' : k < 4 := by simp at hc29; omega
        refine gC h (zk (zs (zb (zs (zr (zm rfl (za rfl (zn (yD mixed_YtmajjidkkpkhcaaGreat [0, 1, 2, 3, 4, 5, 6, 7, 8, 9, 10, 11, 12, 13, 14, 15, 16, 17] (floatsOK_none (by kernel_rfl)) (yp rfl (.move rfl) (yp rfl (.move rfl) (yp rfl (.indexAddr rfl rfl (ix_114 _ _ _ _ _ (by omega))) (yd rfl rfl (by repeat (first | exact List.Mem.head _ | apply List.Mem.tail)) Tryz.isAgg23 Tryz.sizeOf23 ((read_row 0 (by rw [partW_length _ _ _ hi']; omega)).trans (by rw [Nat.zero_add, partW_get _ _ _ hi'])) ?_))))))))))))); clear h
        refine yp rfl (.fieldAddr rfl (fa_42_1 _ _)) (yd rfl rfl mr Tryz.isAgg9 Tryz.sizeOf9 (rs_2_1 _ _) ?_)
        refine yp rfl (.move rfl) (yp rfl (.mul rfl rfl) (yp rfl (.move rfl) (yp rfl (Pure1.cast (v' := .int .i64 ((4 * i + k : Nat) : Int)) (.add rfl rfl) (by show Value.int _ _ = Value.int _ _; congr 1)) (yp rfl (Pure1.cast (v' := .int .u8 (((wds n).getD i 0 / 256 ^ k % 256 : Nat) : Int)) (.index rfl rfl (fun _ => run_index_str Tryz.runUnderlying9 _ _ (by rw [bigN_size, if_neg hn]; omega))) (by rw [bigN_byte hn hi' hk'])) (yp rfl (.convert rfl (cv_5_23b _ (wrap_u32 _ (by omega) (by omega)))) (yp rfl (.move rfl) (yp rfl (Pure1.cast (v' := .int .i64 ((8 * k : Nat) : Int)) (.mul rfl rfl) (by show Value.int _ _ = Value.int _ _; congr 1)) (yp rfl (Pure1.cast (v' := .int .u32 (((wds n).getD i 0 / 256 ^ k % 256 * 2 ^ (8 * k) : Nat) : Int)) (.binOp rfl rfl (fun _ => run_shl _ _ _ _ _ (by show 8 * k ≤ 32; omega))) (by rw [wrap_u32 _ (by omega) (by have := shl_bound ((wds n).getD i 0 / 256 ^ k) k hk'; omega)])) (yp rfl (Pure1.cast (v' := .int .u32 (((wds n).getD i 0 % 256 ^ (k + 1) : Nat) : Int)) (.binOp rfl rfl (fun _ => run_or rfl _ _ _ _ _ (Nat.lt_of_lt_of_le (Nat.mod_lt _ (Nat.pow_pos (by omega))) (Nat.le_trans (Nat.pow_le_pow_right (by omega) (by omega : k ≤ 4)) (by decide))) (shl_bound _ _ hk'))) (by rw [or_byte])) (yp rfl (.indexAddr rfl rfl (ix_114 _ _ _ _ _ (by omega))) (yt rfl rfl rfl ((set_row (partW (wds n) i k) (0 + i) ((wds n).getD i 0 % 256 ^ (k + 1))).trans (by rw [Nat.zero_add, partW_set _ _ _ _ hi'])) (by repeat (first | exact Upd.head | apply Upd.tail)) Tryz.sizeOf23 rfl (by simp [partW_length _ _ _ hi']; omega) rfl ?_)))))))))))
        refine yn (zr (zp (.add rfl rfl) (zm rfl (zn ?_)))); intro a w h
        exact ⟨k + 1, ⟨by omega, h.sub sA⟩, by omega⟩
      · skip
        have hk' : k = 4 := by simp at hc29; omega
        subst hk'
        rw [partW_next _ _ hi' (Wd.wds n)] at h
        refine gC h (ze (zr (zp (.add rfl rfl) (zm rfl (zn ?_))))); clear h; intro a w h
        exact ⟨i + 1, ⟨by omega, h.sub sA⟩, by omega⟩
    · skip
      have hi' : i = (wds n).length := by simp at hc26; omega
      refine gC h (ze (zs (zr (zm rfl (za rfl (zn (zt ?_))))))); clear h; intro a w h
      subst hi'
      rw [partW_end] at h
      replace h := h.shareAll hS (u32s (wds n)) rfl
      refine ret_of (Ψ := [Row _ (u32s (wds n))]) h (results1 h rfl (.tmp rfl)) ⟨_, _, rfl, Nat.le_refl _, rfl⟩ (by simp)
end Go.Proofs.YtmajjidkkpkhcaaGreat
