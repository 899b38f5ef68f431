/- Written by a program of ours (gen.py) out of short specifications. By an AI agent. -/
import Derived.Test.YtgkicbaomcmfoaaGreatDoorProg
import Derived.Test.YtgkicbaomcmfoaaGreatDoorFxZ
import Derived.Test.YtgkicbaomcmfoaaGreatDoorFxS
import Derived.Test.YtgkicbaomcmfoaaGreatDoorNumW
import Derived.Test.YtgkicbaomcmfoaaGreatDoorNumD
import Derived.Test.YtgkicbaomcmfoaaGreatDoorNumK
import Derived.Test.YtgkicbaomcmfoaaGreatDoorFxB
set_option linter.unusedVariables false
set_option linter.unusedSimpArgs false
set_option maxRecDepth 4000
namespace Go.Proofs.YtgkicbaomcmfoaaGreatDoor
open Go Go.Proofs Go.Fx
attribute [local irreducible] Oper.wp Code.wp wpList Fx.Head wpOp
section
theorem len_slice_151 (a : Option Addr) (n c : Nat) (w : World) (ty : TypeId) (cs : Array Bool) : (Go.builtin .len #[151] ty cs #[.slice a n c]).run Tryz.prog w = .ok (.value (.int .i64 n)) w := by
  simp [go_sem]
theorem ix_151 (b off n c j : Nat) (h : j < n) (w : World) : (Instr.indexAt 151 (.slice (some ⟨b, off, none⟩) n c) (.int .i64 (j : Int))).run Tryz.prog w = .ok (.pointer (some ⟨b, off + j, none⟩)) w := by
  simpa using indexAt_slice Tryz.runUnderlying151 Tryz.sizeOf54 b off n c j h w
theorem slh_151 (a : Option Addr) (n c j : Nat) (h : j ≤ c) (w : World) : (Instr.sliceAt 151 (.slice a n c) none (some (.int .i64 (j : Int))) none).run Tryz.prog w = .ok (.slice a j c) w := by
  exact sliceAt_high Tryz.runUnderlying151 Tryz.sizeOf54 a n c j h w
theorem fa_47_1 (b off : Nat) (w : World) : (Instr.fieldAt 47 (.pointer (some ⟨b, off, none⟩)) 1).run Tryz.prog w = .ok (.pointer (some ⟨b, off + 1, none⟩)) w := by
  simp [go_sem]
theorem rs_2_1 (c0 c1 : Value) : readAt false 1 #[c0, c1] 1 = some c1 := rfl
theorem fa_47_0 (b off : Nat) (w : World) : (Instr.fieldAt 47 (.pointer (some ⟨b, off, none⟩)) 0).run Tryz.prog w = .ok (.pointer (some ⟨b, off + 0, none⟩)) w := by
  simp [go_sem]
theorem rs_2_0 (c0 c1 : Value) : readAt false 1 #[c0, c1] 0 = some c0 := rfl
theorem cv_45_54 (x : Int) (w : World) : (Go.convert 45 54 (.int .u64 x)).run Tryz.prog w = .ok (.int .u32 (IntKind.u32.wrap x)) w := by
  simp [go_sem]
theorem bs_151_2_0_1 (x0 : Int) (x1 : Int) (w : World) : (Instr.buildSlice 151 2 [(0, .int .u32 x0), (1, .int .u32 x1)].toArray).run Tryz.prog w = .ok (.slice (some ⟨w.heap.size, 0, none⟩) 2 2) (w.alloc (.cells #[.int .u32 x0, .int .u32 x1] 54 (0, 0))) := by
  simp [go_sem]
theorem len_string_9 (x : ByteArray) (w : World) (ty : TypeId) (cs : Array Bool) : (Go.builtin .len #[9] ty cs #[.string x]).run Tryz.prog w = .ok (.value (.int .i64 x.size)) w := by
  simp [go_sem]
theorem cv_5_54 (x : Int) (w : World) : (Go.convert 5 54 (.int .u8 x)).run Tryz.prog w = .ok (.int .u32 (IntKind.u32.wrap x)) w := by
  simp [go_sem]
theorem cv_5_54b (x : Int) (h0 : IntKind.u32.wrap x = x) (w : World) : (Go.convert 5 54 (.int .u8 x)).run Tryz.prog w = .ok (.int .u32 x) w := by
  rw [cv_5_54, h0]
theorem mixed_YtgkicbaomcmfoaaGreatDoor : Tryz.prog.follows .mixedOrders = true := by kernel_rfl
theorem un_not (b : Bool) (w : World) : (Op.unary .not (.bool b)).run Tryz.prog w = .ok (.bool (!b)) w := by simp [go_sem]
theorem C_cut (ad : Option Addr) (c : Nat) (l : List Nat) (hw : Wd l) (hc : l.length ≤ c) (hs : l.length ≤ 1099511627776) :
    Ctr Tryz.prog 94 [.slice ad l.length c] [Row ad (u32s l)] (fun v Ψ => v = .slice ad (wds (valW l)).length c ∧ Ψ = [Row ad (u32s (wds (valW l)))]) := by
  refine fn_intro Tryz.func94 rfl Tryz.ntmps94 nb ?_
  intro S w0 a hS h
  refine gC h (zs (zr (za rfl (zn (zs (zb ?_)))))); clear h; intro a w h
  refine wp_loop_inv (fun (m : Nat) a w => m ≤ l.length ∧ (∀ j, m ≤ j → j < l.length → l.getD j 0 = 0) ∧ St 21 S w0 [(0, .slice ad m c)] [] [Row ad (u32s l)] a w) (fun m => m) (l.length) (⟨Nat.le_refl _, fun j h1 h2 => absurd h2 (by omega), h.sub (subL ⟨rfl, trivial⟩)⟩) ?_; clear h
  rintro m a w ⟨hm, hz, h⟩
  refine gC h (zs (zs (zr (zm rfl (zp (.builtin [_] rfl (len_slice_151 _ _ _)) (zp (.gtr rfl rfl) (zm rfl ?_))))))); clear h; intro a w h
  refine by_bool h (fun hc6 h => ?_) (fun hc6 h => ?_)
  · skip
    have hm0 : 0 < m := by simpa using hc6
    obtain ⟨b, off, had⟩ := h.row_addr List.mem_cons_self (by simp; intro e; subst e; simp at hm; omega)
    subst had
    refine gL h (zq 6 rfl rfl (.move rfl) (zq 6 rfl rfl (.move rfl) (zq 6 rfl rfl (.builtin [_] rfl (len_slice_151 _ _ _)) (zq 6 rfl rfl (Pure1.cast (v' := .int .i64 ((m - 1 : Nat) : Int)) (.sub rfl rfl) (by show Value.int _ _ = Value.int _ _; congr 1; omega)) (zq 6 rfl rfl (.indexAddr rfl rfl (ix_151 _ _ _ _ _ (by omega))) ?_))))); clear h; intro a w h
    refine wpl_guard 6 h rfl rfl (op_loadRow h rfl List.mem_cons_self (by simp; omega) Tryz.isAgg54 Tryz.sizeOf54 (read_row 0 (by omega)) (.inr rfl) (by decide) ?_); clear h; intro a h
    refine gL h (zq 6 rfl rfl (.eql rfl rfl) (zp (.pickT rfl rfl) (zn ?_))); clear h; intro a w h
    change Code.wp _ _ _ _ _
    refine cond_split h rfl (fun hc14 => ?_) (fun hc14 => ?_)
    · skip
      refine gC h (zk (zb (zr (zm rfl (zm rfl (zp (.builtin [_] rfl (len_slice_151 _ _ _)) (zp (Pure1.cast (v' := .int .i64 ((m - 1 : Nat) : Int)) (.sub rfl rfl) (by show Value.int _ _ = Value.int _ _; congr 1; omega)) (zp (.slice rfl none (some _) none rfl rfl rfl (slh_151 _ _ _ _ (by omega))) (za rfl (zn ?_)))))))))); clear h; intro a w h
      refine ⟨m - 1, ⟨by omega, fun j h1 h2 => ?_, h.sub sA⟩, by omega⟩
      by_cases hj : j = m - 1
      · subst hj; simpa using hc14
      · exact hz j (by omega) h2
    · skip
      refine gC h (ze (zs (zr (zm rfl (za rfl (zn (zt ?_))))))); clear h; intro a w h
      have hcut := cut_end hw hm hz (.inr (by simpa using hc14))
      have hR : ∀ ad, Row ad (u32s (wds (valW l))) = Row ad ((u32s l).take m) := by intro ad; rw [hcut, u32s, List.map_take]
      replace h := h.derive (R := Row _ (u32s (wds (valW l)))) (fun X hX => by rw [hR]; exact row_take (hX _ List.mem_cons_self) m)
      have hl : m = (wds (valW l)).length := by rw [hcut]; simp; omega
      refine ret_of (Ψ := [Row _ (u32s (wds (valW l)))]) h (results1 h rfl (.tmp rfl)) ⟨by rw [← hl], rfl⟩ (by simp)
  · skip
    refine gL h (zo 6 rfl rfl rfl (zo 6 rfl rfl rfl (zo 6 rfl rfl rfl (zo 6 rfl rfl rfl (zo 6 rfl rfl rfl (zo 6 rfl rfl rfl (zo 6 rfl rfl rfl (zp (.pickF rfl rfl) (zn ?_))))))))); clear h; intro a w h
    change Code.wp _ _ _ _ _
    refine cond_false h rfl ?_
    refine gC h (ze (zs (zr (zm rfl (za rfl (zn (zt ?_))))))); clear h; intro a w h
    have hcut := cut_end hw hm hz (.inl (by simpa using hc6))
    have hR : ∀ ad, Row ad (u32s (wds (valW l))) = Row ad ((u32s l).take m) := by intro ad; rw [hcut, u32s, List.map_take]
    replace h := h.derive (R := Row _ (u32s (wds (valW l)))) (fun X hX => by rw [hR]; exact row_take (hX _ List.mem_cons_self) m)
    have hl : m = (wds (valW l)).length := by rw [hcut]; simp; omega
    refine ret_of (Ψ := [Row _ (u32s (wds (valW l)))]) h (results1 h rfl (.tmp rfl)) ⟨by rw [← hl], rfl⟩ (by simp)
theorem C_words (n : Nat) (hs : (wds n).length ≤ 1099511627776) :
    Ctr Tryz.prog 92 [encN n] [] (fun v Ψ => ∃ ad c, v = .slice ad (wds n).length c ∧ (wds n).length ≤ c ∧ Ψ = [Row ad (u32s (wds n))]) := by
  refine fn_intro Tryz.func92 rfl Tryz.ntmps92 nb ?_
  intro S w0 a hS h
  refine gC h (zs (zr (zx rfl fun b1 => za rfl (zn (zs (zs (zr (zp (.fieldAddr rfl (fa_47_1 _ _)) (zd rfl mr Tryz.isAgg9 Tryz.sizeOf9 (rs_2_1 _ _) ?_))))))))); clear h; intro a w h
  refine gL h (zp (.binOp rfl rfl (fun _ => run_seql _ _ _ _ _)) (zn ?_)); clear h; intro a w h
  change Code.wp _ _ _ _ _
  refine cond_split h rfl (fun hc8 => ?_) (fun hc8 => ?_)
  · skip
    have hn : n < 18446744073709551616 := bigN_empty.1 (by simpa using hc8)
    refine gC h (zs (zr (zp (.fieldAddr rfl (fa_47_0 _ _)) (zd rfl mr Tryz.isAgg45 Tryz.sizeOf45 (rs_2_0 _ _) ?_)))); clear h; intro a w h
    refine gL h (zp (Pure1.cast (v' := .int .u32 ((n % 4294967296 : Nat) : Int)) (.convert rfl (cv_45_54 _)) (by rw [lowN_small hn, wrap_u32_mod]; congr 1)) (zp (.fieldAddr rfl (fa_47_0 _ _)) (zd rfl mr Tryz.isAgg45 Tryz.sizeOf45 (rs_2_0 _ _) ?_))); clear h; intro a w h
    refine gL h (zp (.binOp rfl rfl (fun _ => by rw [lowN_small hn]; exact run_shr _ _ _ n 32 (by decide))) (zp (Pure1.cast (v' := .int .u32 ((n / 4294967296 : Nat) : Int)) (.convert rfl (cv_45_54 _)) (by rw [wrap_u32_mod]; congr 1; omega)) (zB [(_, _), (_, _)] rfl (bs_151_2_0_1 _ _) fun b16 => ?_))); clear h; intro a w h
    replace h := h.shareAll hS (u32s [n % 4294967296, n / 4294967296]) rfl
    refine gL h (zf [_] rfl Tryz.call94 (C_cut _ _ [n % 4294967296, n / 4294967296] (two_Wd n hn) (by simp) (by simp)) ?_); clear h; rintro v17 Ψ17 ⟨rfl, rfl⟩ a w h
    rw [two_words n hn] at h
    refine gL h (za rfl (zn (zt ?_))); clear h; intro a w h
    refine ret_of (Ψ := [Row _ (u32s (wds n))]) h (results1 h rfl (.tmp rfl)) ⟨_, _, rfl, wds_small hn, rfl⟩ (by simp)
  · skip
    have hn : ¬ n < 18446744073709551616 := fun hn => by have := bigN_empty.2 hn; simp [this] at hc8
    refine gC h (zk (zs (zr (zp (.fieldAddr rfl (fa_47_1 _ _)) (zd rfl mr Tryz.isAgg9 Tryz.sizeOf9 (rs_2_1 _ _) ?_))))); clear h; intro a w h
    refine gL h (zp (.builtin [_] rfl (len_string_9 _)) (zp (Pure1.cast (v' := .int .i64 ((wds n).length : Int)) (.binOp rfl rfl (fun _ => run_quo _ _ _ _ _ (by decide))) (by rw [bigN_size, if_neg hn]; rw [show ((4 : Int)) = ((4 : Nat) : Int) from rfl, tdiv_nat, wrap_i64 _ (by omega) (by omega)]; congr 1; omega)) ?_)); clear h; intro a w h
    refine wpl_plain (op_makeSlice h rfl rfl Tryz.runUnderlying151 Tryz.typeInfo54 Tryz.sizeOf54 Tryz.zeroValue54 rfl (by decide) (Nat.le_refl _) (by show 4 * _ ≤ _; omega) (by omega) (by decide) ?_); clear h; intro b22 a w h
    rw [show (Value.int .u32 0).cells.toList = [Value.int .u32 0] from rfl, reps_one, show List.replicate (wds n).length (Value.int .u32 0) = u32s (partW (wds n) 0 0) from by rw [partW_zero]; simp] at h
    refine gL h (za rfl (zn (zs (zs (zr (zm rfl (zp (.builtin [_] rfl (len_slice_151 _ _ _)) (zm rfl (zn (zb ?_)))))))))); clear h; intro a w h
    refine wp_loop_inv (fun (i : Nat) a w => i ≤ (wds n).length ∧ St 51 S w0 [(1, .pointer (some ⟨b1, 0, none⟩)), (3, .slice (some ⟨b22, 0, none⟩) (wds n).length (wds n).length), (24, .int .i64 ((wds n).length : Int)), (25, .int .i64 (i : Int))] [(b22, .cells (u32s (partW (wds n) i 0)).toArray 54 (0, 0)), (b1, .cells (encN n).cells 47 (0, 0))] [] a w) (fun i => (wds n).length - i) (0) (⟨Nat.zero_le _, h.sub (subL ⟨rfl, rfl, rfl, rfl, trivial⟩)⟩) ?_; clear h
    rintro i a w ⟨hi, h⟩
    refine gC h (zs (zr (zp (.lss rfl rfl) (zn (zs ?_))))); clear h; intro a w h
    refine cond_split h rfl (fun hc26 => ?_) (fun hc26 => ?_)
    · skip
      have hi' : i < (wds n).length := by simpa using hc26
      refine gC h (zk (zs (zb (zs (zr (zm rfl (za rfl (zn (zs (zr (zm rfl (zn (zb ?_))))))))))))); clear h; intro a w h
      refine wp_loop_inv (fun (k : Nat) a w => k ≤ 4 ∧ St 51 S w0 [(1, .pointer (some ⟨b1, 0, none⟩)), (3, .slice (some ⟨b22, 0, none⟩) (wds n).length (wds n).length), (24, .int .i64 ((wds n).length : Int)), (25, .int .i64 (i : Int)), (4, .int .i64 (i : Int)), (28, .int .i64 (k : Int))] [(b22, .cells (u32s (partW (wds n) i k)).toArray 54 (0, 0)), (b1, .cells (encN n).cells 47 (0, 0))] [] a w) (fun k => 4 - k) (0) (⟨by omega, h.sub sA⟩) ?_; clear h
      rintro k a w ⟨hk, h⟩
      refine gC h (zs (zr (zp (.lss rfl rfl) (zn (zs ?_))))); clear h; intro a w h
      refine cond_split h rfl (fun hc29 => ?_) (fun hc29 => ?_)
      · skip
        have hk' : k < 4 := by simp at hc29; omega
        refine gC h (zk (zs (zb (zs (zr (zm rfl (za rfl (zn (yD mixed_YtgkicbaomcmfoaaGreatDoor [0, 1, 2, 3, 4, 5, 6, 7, 8, 9, 10, 11, 12, 13, 14, 15, 16, 17] (floatsOK_none (by kernel_rfl)) (yp rfl (.move rfl) (yp rfl (.move rfl) (yp rfl (.indexAddr rfl rfl (ix_151 _ _ _ _ _ (by omega))) (yd rfl rfl (by repeat (first | exact List.Mem.head _ | apply List.Mem.tail)) Tryz.isAgg54 Tryz.sizeOf54 ((read_row 0 (by rw [partW_length _ _ _ hi']; omega)).trans (by rw [Nat.zero_add, partW_get _ _ _ hi'])) ?_))))))))))))); clear h
        refine yp rfl (.fieldAddr rfl (fa_47_1 _ _)) (yd rfl rfl mr Tryz.isAgg9 Tryz.sizeOf9 (rs_2_1 _ _) ?_)
        refine yp rfl (.move rfl) (yp rfl (.mul rfl rfl) (yp rfl (.move rfl) (yp rfl (Pure1.cast (v' := .int .i64 ((4 * i + k : Nat) : Int)) (.add rfl rfl) (by show Value.int _ _ = Value.int _ _; congr 1)) (yp rfl (Pure1.cast (v' := .int .u8 (((wds n).getD i 0 / 256 ^ k % 256 : Nat) : Int)) (.index rfl rfl (fun _ => run_index_str Tryz.runUnderlying9 _ _ (by rw [bigN_size, if_neg hn]; omega))) (by rw [bigN_byte hn hi' hk'])) (yp rfl (.convert rfl (cv_5_54b _ (wrap_u32 _ (by omega) (by omega)))) (yp rfl (.move rfl) (yp rfl (Pure1.cast (v' := .int .i64 ((8 * k : Nat) : Int)) (.mul rfl rfl) (by show Value.int _ _ = Value.int _ _; congr 1)) (yp rfl (Pure1.cast (v' := .int .u32 (((wds n).getD i 0 / 256 ^ k % 256 * 2 ^ (8 * k) : Nat) : Int)) (.binOp rfl rfl (fun _ => run_shl _ _ _ _ _ (by show 8 * k ≤ 32; omega))) (by rw [wrap_u32 _ (by omega) (by have := shl_bound ((wds n).getD i 0 / 256 ^ k) k hk'; omega)])) (yp rfl (Pure1.cast (v' := .int .u32 (((wds n).getD i 0 % 256 ^ (k + 1) : Nat) : Int)) (.binOp rfl rfl (fun _ => run_or rfl _ _ _ _ _ (Nat.lt_of_lt_of_le (Nat.mod_lt _ (Nat.pow_pos (by omega))) (Nat.le_trans (Nat.pow_le_pow_right (by omega) (by omega : k ≤ 4)) (by decide))) (shl_bound _ _ hk'))) (by rw [or_byte])) (yp rfl (.indexAddr rfl rfl (ix_151 _ _ _ _ _ (by omega))) (yt rfl rfl rfl ((set_row (partW (wds n) i k) (0 + i) ((wds n).getD i 0 % 256 ^ (k + 1))).trans (by rw [Nat.zero_add, partW_set _ _ _ _ hi'])) (by repeat (first | exact Upd.head | apply Upd.tail)) Tryz.sizeOf54 rfl (by simp [partW_length _ _ _ hi']; omega) rfl ?_)))))))))))
        refine yn (zr (zp (.add rfl rfl) (zm rfl (zn ?_)))); intro a w h
        exact ⟨k + 1, ⟨by omega, h.sub sA⟩, by omega⟩
      · skip
        have hk' : k = 4 := by simp at hc29; omega
        subst hk'
        rw [partW_next _ _ hi' (Wd.wds n)] at h
        refine gC h (ze (zr (zp (.add rfl rfl) (zm rfl (zn ?_))))); clear h; intro a w h
        exact ⟨i + 1, ⟨by omega, h.sub sA⟩, by omega⟩
    · skip
      have hi' : i = (wds n).length := by simp at hc26; omega
      refine gC h (ze (zs (zr (zm rfl (za rfl (zn (zt ?_))))))); clear h; intro a w h
      subst hi'
      rw [partW_end] at h
      replace h := h.shareAll hS (u32s (wds n)) rfl
      refine ret_of (Ψ := [Row _ (u32s (wds n))]) h (results1 h rfl (.tmp rfl)) ⟨_, _, rfl, Nat.le_refl _, rfl⟩ (by simp)
end
section
theorem bd_47_0 (x0 : Int) (w : World) : (Instr.build 47 [(0, .int .u64 x0)].toArray).run Tryz.prog w = .ok (.agg #[.int .u64 x0, .string ⟨#[]⟩]) w := by simp [go_sem]
theorem st_2_0_2 (c0 c1 v0 v1 : Value) : setFrom #[c0, c1] 0 [v0, v1] = #[v0, v1] := rfl
theorem rd_2_0_2 (c0 c1 : Value) : readAt true 2 #[c0, c1] 0 = some (.agg #[c0, c1]) := rfl
theorem bd_47_z (w : World) : (Instr.build 47 [].toArray).run Tryz.prog w = .ok (.agg #[.int .u64 0, .string ⟨#[]⟩]) w := by simp [go_sem]
theorem cv_54_45 (x : Int) (w : World) : (Go.convert 54 45 (.int .u32 x)).run Tryz.prog w = .ok (.int .u64 (IntKind.u64.wrap x)) w := by
  simp [go_sem]
theorem cv_54_45b (x : Int) (h0 : IntKind.u64.wrap x = x) (w : World) : (Go.convert 54 45 (.int .u32 x)).run Tryz.prog w = .ok (.int .u64 x) w := by
  rw [cv_54_45, h0]
theorem cv_54_5 (x : Int) (w : World) : (Go.convert 54 5 (.int .u32 x)).run Tryz.prog w = .ok (.int .u8 (IntKind.u8.wrap x)) w := by
  simp [go_sem]
theorem bs_35_4_0_1_2_3 (x0 : Int) (x1 : Int) (x2 : Int) (x3 : Int) (w : World) : (Instr.buildSlice 35 4 [(0, .int .u8 x0), (1, .int .u8 x1), (2, .int .u8 x2), (3, .int .u8 x3)].toArray).run Tryz.prog w = .ok (.slice (some ⟨w.heap.size, 0, none⟩) 4 4) (w.alloc (.cells #[.int .u8 x0, .int .u8 x1, .int .u8 x2, .int .u8 x3] 5 (0, 0))) := by
  simp [go_sem]
theorem bd_47_1 (x1 : ByteArray) (w : World) : (Instr.build 47 [(1, .string x1)].toArray).run Tryz.prog w = .ok (.agg #[.int .u64 0, .string x1]) w := by simp [go_sem]
theorem run_eqN (X Y : Operand) (n m : Nat) (w : World) : (do eqGuard .eql 47 X Y (encN n) (encN m); Go.binOp .eql 47 (encN n) (encN m) : Sem Value).run Tryz.prog w = .ok (.bool (decide (n = m))) w := by
  simp [go_sem]
  have hb : ((bigN n).toList = (bigN m).toList) ↔ bigN n = bigN m := by have := toList_beq (bigN n) (bigN m); rw [Bool.eq_iff_iff] at this; simpa using this
  by_cases h : n = m
  · subst h; simp
  · have hne := fun h1 h2 => h (enc_inj h1 h2)
    by_cases h1 : lowN n = lowN m
    · simp only [h, h1, hb, if_true, decide_false]; exact if_neg (hne h1)
    · simp [h, h1]
theorem C_Of (n : Nat) (hn : n < 18446744073709551616) : CtrV Tryz.prog 98 [.int .u64 (n : Int)] (encN n) := by
  refine fn_intro Tryz.func98 rfl Tryz.ntmps98 nb ?_
  intro S w0 a hS h
  refine gC h (zs (zr (zz Tryz.zeroValue47 fun b2 => zn (zs (zr (zm rfl (zp (.build [(_, _)] rfl (bd_47_0 _)) (zt' rfl rfl (st_2_0_2 _ _ _ _) uu Tryz.sizeOf47 rfl nb rfl ?_)))))))); clear h; intro a w h
  refine wpList_nil (wp_ret ?_)
  refine retV h (results1 h rfl (.cell rfl mr Tryz.isAgg47 Tryz.sizeOf47 (rd_2_0_2 _ _))) ?_
  rw [encN, lowN_small hn, bigN_small hn]
theorem C_zero (n : Nat) : CtrV Tryz.prog 168 [encN n] (.bool (decide (n = 0))) := by
  refine fn_intro Tryz.func168 rfl Tryz.ntmps168 nb ?_
  intro S w0 a hS h
  refine gC h (zs (zr (zx rfl fun b1 => za rfl (zn (zs (zr (zd rfl mr Tryz.isAgg47 Tryz.sizeOf47 (rd_2_0_2 _ _) ?_))))))); clear h; intro a w h
  refine gL h (zp (Pure1.cast (v' := encN 0) (.build [] rfl (bd_47_z)) (by rfl)) (zp (.binOp rfl rfl (fun _ => run_eqN _ _ n 0 _)) (za rfl (zn (zt ?_))))); clear h; intro a w h
  refine retV h (results1 h rfl (.tmp rfl)) ?_
  rfl
theorem C_of (ad : Option Addr) (c : Nat) (l : List Nat) (hw : Wd l) (hc : l.length ≤ c) (hs : l.length ≤ 1099511627776) :
    CtrW Tryz.prog 128 [.slice ad l.length c] [Row ad (u32s l)] (encN (valW l)) := by
  refine fn_intro Tryz.func128 rfl Tryz.ntmps128 nb ?_
  intro S w0 a hS h
  refine gC h (zs (zr (zz Tryz.zeroValue47 fun b2 => zn (zs (zr (zm rfl (zf [_] rfl Tryz.call94 (C_cut ad c l hw hc hs) ?_))))))); clear h; rintro v10 Ψ10 ⟨rfl, rfl⟩ a w h
  have hWd := Wd.wds (valW l)
  have hV := valW_wds (valW l)
  have hN : (wds (valW l)).length ≤ 1099511627776 := Nat.le_trans (wds_length_le hw) hs
  have hNc : (wds (valW l)).length ≤ c := Nat.le_trans (wds_length_le hw) hc
  generalize hWe : wds (valW l) = W at h hWd hV hN hNc
  refine gL h (za rfl (zn (zs (zs (zr (zm rfl (zp (.builtin [_] rfl (len_slice_151 _ _ _)) (zp (.leq rfl rfl) (zn ?_))))))))); clear h; intro a w h
  change Code.wp _ _ _ _ _
  refine cond_split h rfl (fun hc13 => ?_) (fun hc13 => ?_)
  · skip
    have h2 : W.length ≤ 2 := by simp at hc13; omega
    refine gC h (zs (zr (za rfl (zn (zs (zs (zr (zm rfl (zp (.builtin [_] rfl (len_slice_151 _ _ _)) (zm rfl (zn (zb ?_)))))))))))); clear h; intro a w h
    refine wp_loop_inv (fun (i : Nat) a w => i ≤ W.length ∧ St 59 S w0 [(2, .pointer (some ⟨b2, 0, none⟩)), (3, .int .u64 (valW (W.take i) : Int)), (14, .slice ad W.length c), (15, .int .i64 (W.length : Int)), (16, .int .i64 (i : Int))] [(b2, .cells (encN 0).cells 47 (0, 0))] [Row ad (u32s W)] a w) (fun i => W.length - i) (0) (⟨Nat.zero_le _, (h.factsSub (by simp)).sub (subL ⟨rfl, rfl, rfl, rfl, rfl, trivial⟩)⟩) ?_; clear h
    rintro i a w ⟨hi, h⟩
    refine gC h (zs (zr (zp (.lss rfl rfl) (zn (zs ?_))))); clear h; intro a w h
    refine cond_split h rfl (fun hc17 => ?_) (fun hc17 => ?_)
    · skip
      have hi' : i < W.length := by simpa using hc17
      obtain ⟨b, off, had⟩ := h.row_addr List.mem_cons_self (by simp; intro e; subst e; simp at hi')
      subst had
      have hx := hWd.getD i
      refine gC h (zk (zs (zb (zs (zr (zm rfl (zp (.indexAddr rfl rfl (ix_151 _ _ _ _ _ (by omega))) (zD rfl mm (by simp; omega) Tryz.isAgg54 Tryz.sizeOf54 (read_row 0 (by omega)) (.inr rfl) ?_)))))))); clear h; intro a w h
      refine gL h (za rfl (za rfl (zn (zr (zm rfl (zm rfl (zp (.convert rfl (cv_54_45b _ (wrap_u64 _ (by omega) (by omega)))) (zm rfl (zp (Pure1.cast (v' := .int .i64 ((32 * i : Nat) : Int)) (.mul rfl rfl) (by show Value.int _ _ = Value.int _ _; congr 1)) (zp (Pure1.cast (v' := .int .u64 ((W.getD i 0 * 2 ^ (32 * i) : Nat) : Int)) (.binOp rfl rfl (fun _ => run_shl _ _ _ _ _ (by show 32 * i ≤ 64; omega))) (by rw [wrap_u64 _ (by omega) (by have := shl32_bound _ i hx (by omega); omega)])) (zp (Pure1.cast (v' := .int .u64 ((valW (W.take (i + 1)) : Nat) : Int)) (.binOp rfl rfl (fun _ => run_or rfl _ _ _ _ _ (Nat.lt_of_lt_of_le (valW_lt64 (hWd.take i) (by simp; omega)) (by decide)) (shl32_bound _ i hx (by omega)))) (by rw [or_word _ _ hi' hWd])) (za rfl (zn (zr (zp (.add rfl rfl) (zm rfl (zn ?_))))))))))))))))); clear h; intro a w h
      exact ⟨i + 1, ⟨by omega, h.sub sA⟩, by omega⟩
    · skip
      have hi' : i = W.length := by simp at hc17; omega
      refine gC h (ze (zs (zr (zm rfl (zp (.build [(_, _)] rfl (bd_47_0 _)) (zt' rfl rfl (st_2_0_2 _ _ _ _) uu Tryz.sizeOf47 rfl nb rfl ?_)))))); clear h; intro a w h
      refine wpList_nil (wp_ret ?_)
      refine retV h (results1 h rfl (.cell rfl mr Tryz.isAgg47 Tryz.sizeOf47 (rd_2_0_2 _ _))) ?_
      have hlt := valW_lt64 hWd h2; rw [hV] at hlt; subst hi'; rw [List.take_length, hV, encN, lowN_small hlt, bigN_small hlt]
  · skip
    have h2 : 2 < W.length := by simp at hc13; omega
    refine gC h (zk (zs (zr (zm rfl (zp (.builtin [_] rfl (len_slice_151 _ _ _)) (zp (Pure1.cast (v' := .int .i64 ((4 * W.length : Nat) : Int)) (.mul rfl rfl) (by show Value.int _ _ = Value.int _ _; congr 1)) ?_)))))); clear h; intro a w h
    refine wpl_plain (op_makeSlice h rfl rfl Tryz.runUnderlying35 Tryz.typeInfo5 Tryz.sizeOf5 Tryz.zeroValue5 rfl (by decide) (by exact Nat.zero_le _) (by show 1 * _ ≤ _; omega) (by omega) (by decide) ?_); clear h; intro b34 a w h
    refine gL h (za rfl (zn (zs (zs (zr (zm rfl (zp (.builtin [_] rfl (len_slice_151 _ _ _)) (zm rfl (zn (zb ?_)))))))))); clear h; intro a w h
    refine wp_loop_inv (fun (i : Nat) a w => i ≤ W.length ∧ ∃ v σ, Grow 1 5 v (4 * i) (u8s (bytesOf (W.take i))) σ [(b2, .cells (encN 0).cells 47 (0, 0))] ∧ St 59 S w0 [(2, .pointer (some ⟨b2, 0, none⟩)), (6, v), (35, .slice ad W.length c), (36, .int .i64 (W.length : Int)), (37, .int .i64 (i : Int))] σ [Row ad (u32s W)] a w) (fun i => W.length - i) (0) (⟨Nat.zero_le _, _, _, ⟨rfl, .inr ⟨b34, 4 * W.length, _, rfl, by simp [bytesOf, reps, Value.cells], Nat.zero_le _, rfl⟩⟩, (h.factsSub (by simp)).sub (subL ⟨rfl, rfl, rfl, rfl, rfl, trivial⟩)⟩) ?_; clear h
    rintro i a w ⟨hi, v, σ, hG, h⟩
    refine gC h (zs (zr (zp (.lss rfl rfl) (zn (zs ?_))))); clear h; intro a w h
    refine cond_split h rfl (fun hc38 => ?_) (fun hc38 => ?_)
    · skip
      have hi' : i < W.length := by simpa using hc38
      obtain ⟨b, off, had⟩ := h.row_addr List.mem_cons_self (by simp; intro e; subst e; simp at hi')
      subst had
      have hx := hWd.getD i
      refine gC h (zk (zs (zb (zs (zr (zp (.indexAddr rfl rfl (ix_151 _ _ _ _ _ (by omega))) (zD rfl mm (by simp; omega) Tryz.isAgg54 Tryz.sizeOf54 (read_row 0 (by omega)) (.inr rfl) ?_))))))); clear h; intro a w h
      refine gL h (za rfl (zn (zr (zm rfl (zm rfl (zp (Pure1.cast (v' := .int .u8 ((W.getD i 0 % 256 : Nat) : Int)) (.convert rfl (cv_54_5 _)) (by rw [wrap_u8_mod]; congr 1)) (zm rfl (zp (.binOp rfl rfl (fun _ => run_shr _ _ _ _ 8 (by decide))) (zp (Pure1.cast (v' := .int .u8 ((W.getD i 0 / 2 ^ 8 % 256 : Nat) : Int)) (.convert rfl (cv_54_5 _)) (by rw [wrap_u8_mod]; congr 1)) (zm rfl (zp (.binOp rfl rfl (fun _ => run_shr _ _ _ _ 16 (by decide))) (zp (Pure1.cast (v' := .int .u8 ((W.getD i 0 / 2 ^ 16 % 256 : Nat) : Int)) (.convert rfl (cv_54_5 _)) (by rw [wrap_u8_mod]; congr 1)) (zm rfl (zp (.binOp rfl rfl (fun _ => run_shr _ _ _ _ 24 (by decide))) (zp (Pure1.cast (v' := .int .u8 ((W.getD i 0 / 2 ^ 24 % 256 : Nat) : Int)) (.convert rfl (cv_54_5 _)) (by rw [wrap_u8_mod]; congr 1)) (zB [(_, _), (_, _), (_, _), (_, _)] rfl (bs_35_4_0_1_2_3 _ _ _ _) fun b53 => ?_)))))))))))))))); clear h; intro a w h
      refine wpl_plain (op_append h rfl rfl hG Tryz.runUnderlying35 Tryz.runUnderlying35 Tryz.typeInfo5 Tryz.sizeOf5 Tryz.zeroValue5 rfl (by decide) (by decide) rfl rfl (by decide) (by show 1 * _ ≤ _; omega) (by decide) ?_); clear h hG; intro v σ a w hG h
      rw [bytes_snoc _ _ hi'] at hG
      refine gL h (za rfl (zn (zr (zp (.add rfl rfl) (zm rfl (zn ?_)))))); clear h; intro a w h
      exact ⟨i + 1, ⟨by omega, _, _, hG, h.sub (subL ⟨rfl, rfl, rfl, rfl, rfl, trivial⟩)⟩, by omega⟩
    · skip
      have hi' : i = W.length := by simp at hc38; omega
      refine gC h (ze (zs (zr (zm rfl ?_)))); clear h; intro a w h
      refine wpl_plain (op_toString h rfl hG Tryz.runUnderlying35 Tryz.runUnderlying9 Tryz.runUnderlying5 (by decide) ?_); clear h; intro a h
      replace h := h.drop hG.sub
      refine gL h (zp (.build [(_, _)] rfl (bd_47_1 _)) (zt' rfl rfl (st_2_0_2 _ _ _ _) uu Tryz.sizeOf47 rfl nb rfl ?_)); clear h; intro a w h
      refine wpList_nil (wp_ret ?_)
      refine retV h (results1 h rfl (.cell rfl mr Tryz.isAgg47 Tryz.sizeOf47 (rd_2_0_2 _ _))) ?_
      have hlt : ¬ valW l < 18446744073709551616 := wds_len_big (by rw [hWe]; exact h2)
      subst hi'; rw [List.take_length, encN, lowN_large hlt, bigN_large hlt, hWe]
end
section
theorem bi_min (x y : Int) (w : World) (ty : TypeId) (cs : Array Bool) : (Go.builtin .min #[3, 3] ty cs #[.int .i64 x, .int .i64 y]).run Tryz.prog w = .ok (.value (.int .i64 (min x y))) w := by
  simp [go_sem]; rw [Int.min_def]; split <;> split <;> omega
theorem bi_max (x y : Int) (w : World) (ty : TypeId) (cs : Array Bool) : (Go.builtin .max #[3, 3] ty cs #[.int .i64 x, .int .i64 y]).run Tryz.prog w = .ok (.value (.int .i64 (max x y))) w := by
  simp [go_sem]; rw [Int.max_def]; split <;> split <;> omega
theorem ex_Add64 (x y c : Nat) (hc : c ≤ 1) (w : World) : (callFunc 139 #[.int .u64 (x : Int), .int .u64 (y : Int), .int .u64 (c : Int)]).run Tryz.prog w = .ok (.value (.tuple #[.int .u64 (((x + y + c) % 18446744073709551616 : Nat) : Int), .int .u64 (((x + y + c) / 18446744073709551616 : Nat) : Int)])) w :=
  run_Add64 Tryz.func139 (by kernel_rfl) (by kernel_rfl) (by kernel_rfl) (by kernel_rfl) x y c hc w
theorem C_sign (n : Int) : CtrV Tryz.prog 229 [.int .i64 n] (.int .i64 (max (-1) (min 1 n))) := by
  refine fn_intro Tryz.func229 rfl Tryz.ntmps229 nb ?_
  intro S w0 a hS h
  refine gC h (zs (zr (za rfl (zn (zs (zr (zm rfl (zp (.builtin [_, _] rfl (fun w ty cs => bi_min _ _ w ty cs)) (zp (.builtin [_, _] rfl (fun w ty cs => bi_max _ _ w ty cs)) (za rfl (zn (zt ?_)))))))))))); clear h; intro a w h
  refine retV h (results1 h rfl (.tmp rfl)) ?_
  rfl
theorem C_cmp (n m : Nat) (a1 : Option Addr) (c1 : Nat) (a2 : Option Addr) (c2 : Nat) (hn : (wds n).length ≤ 1099511627776) (hm : (wds m).length ≤ 1099511627776) :
    CtrW Tryz.prog 208 [.slice a1 (wds n).length c1, .slice a2 (wds m).length c2] [Row a1 (u32s (wds n)), Row a2 (u32s (wds m))] (.int .i64 (cmpI n m)) := by
  refine fn_intro Tryz.func208 rfl Tryz.ntmps208 nb ?_
  intro S w0 a hS h
  refine gC h (zs (zr (za rfl (zn (zs (zs (zr (zm rfl (zp (.builtin [_] rfl (len_slice_151 _ _ _)) (zm rfl (zp (.builtin [_] rfl (len_slice_151 _ _ _)) (zp (.neq rfl rfl) (zn ?_))))))))))))); clear h; intro a w h
  change Code.wp _ _ _ _ _
  refine cond_split h rfl (fun hc10 => ?_) (fun hc10 => ?_)
  · skip
    skip
    refine gC h (zs (zr (zm rfl (zp (.builtin [_] rfl (len_slice_151 _ _ _)) (zm rfl (zp (.builtin [_] rfl (len_slice_151 _ _ _)) (zp (.sub rfl rfl) (zv [_] rfl Tryz.call229 (C_sign _) (za rfl (zn (zt ?_))))))))))); clear h; intro a w h
    refine retV h (results1 h rfl (.tmp rfl)) ?_
    unfold cmpI
    have hne : (wds n).length ≠ (wds m).length := natNe hc10
    rcases Nat.lt_or_gt_of_ne hne with h1 | h1
    · have := wds_len_lt h1; rw [if_pos this]; congr 1; rw [Int.min_eq_right (by omega), Int.max_eq_left (by omega)]
    · have h2 := wds_len_lt h1; rw [if_neg (by omega), if_pos h2]; congr 1; rw [Int.min_eq_left (by omega)]; rfl
  · skip
    have hl : (wds n).length = (wds m).length := natEq hc10
    refine gC h (zk (zs (zs (zr (zm rfl (zp (.builtin [_] rfl (len_slice_151 _ _ _)) (zp (.sub rfl rfl) (za rfl (zn (zb ?_)))))))))); clear h; intro a w h
    refine wp_loop_inv (fun (k : Nat) a w => k ≤ (wds n).length ∧ (wds n).drop k = (wds m).drop k ∧ St 42 S w0 [(0, .slice a1 (wds n).length c1), (1, .slice a2 (wds m).length c2), (5, .int .i64 ((k : Int) - 1))] [] [Row a1 (u32s (wds n)), Row a2 (u32s (wds m))] a w) (fun k => k) ((wds n).length) (⟨Nat.le_refl _, by rw [List.drop_eq_nil_of_le (Nat.le_refl _), hl, List.drop_eq_nil_of_le (Nat.le_refl _)], h.sub (subL ⟨rfl, rfl, rfl, trivial⟩)⟩) ?_; clear h
    rintro k a w ⟨hN, hd, h⟩
    refine gC h (zs (zs (zr (zm rfl (zp (.geq rfl rfl) (zn ?_)))))); clear h; intro a w h
    change Code.wp _ _ _ _ _
    refine cond_split h rfl (fun hc21 => ?_) (fun hc21 => ?_)
    · skip
      have hk : 0 < k := by simp at hc21; omega
      have hN' : k ≤ (wds m).length := hl ▸ hN
      obtain ⟨b1, o1, rfl⟩ := h.row_addr (ad := a1) (M := u32s (wds n)) List.mem_cons_self (by simp; intro e; rw [e] at hN; simp at hN; omega)
      obtain ⟨b2, o2, rfl⟩ := h.row_addr (ad := a2) (M := u32s (wds m)) (List.mem_cons_of_mem _ List.mem_cons_self) (by simp; intro e; rw [e] at hN'; simp at hN'; omega)
      refine gC h (zk (zs (zb (zs (yD mixed_YtgkicbaomcmfoaaGreatDoor [0, 1, 2, 3, 4, 5, 6, 7, 8] (floatsOK_none (by kernel_rfl)) (yp rfl (.move rfl) (yp rfl (Pure1.cast (v' := .int .i64 ((k - 1 : Nat) : Int)) (.move rfl) (by show Value.int _ _ = Value.int _ _; congr 1; omega)) (yp rfl (.indexAddr rfl rfl (ix_151 _ _ _ _ _ (by omega))) ?_)))))))); clear h
      refine head_loadRow rfl (by kernel_rfl) rfl mm (by simp; omega) Tryz.isAgg54 Tryz.sizeOf54 (read_row 0 (by omega)) (.inr rfl) (by decide) ?_
      refine yp rfl (.move rfl) (yp rfl (Pure1.cast (v' := .int .i64 ((k - 1 : Nat) : Int)) (.move rfl) (by show Value.int _ _ = Value.int _ _; congr 1; omega)) (yp rfl (.indexAddr rfl rfl (ix_151 _ _ _ _ _ (by omega))) ?_))
      refine head_loadRow rfl (by kernel_rfl) rfl mm (by simp; omega) Tryz.isAgg54 Tryz.sizeOf54 (read_row 0 (by omega)) (.inr rfl) (by decide) ?_
      refine yp rfl (.neq rfl rfl) (yn ?_); intro a w h
      change Code.wp _ _ _ _ _
      refine cond_split h rfl (fun hc32 => ?_) (fun hc32 => ?_)
      · skip
        skip
        refine gC h (zs (zs (yD mixed_YtgkicbaomcmfoaaGreatDoor [0, 1, 2, 3, 4, 5, 6, 7, 8] (floatsOK_none (by kernel_rfl)) (yp rfl (.move rfl) (yp rfl (Pure1.cast (v' := .int .i64 ((k - 1 : Nat) : Int)) (.move rfl) (by show Value.int _ _ = Value.int _ _; congr 1; omega)) (yp rfl (.indexAddr rfl rfl (ix_151 _ _ _ _ _ (by omega))) ?_)))))); clear h
        refine head_loadRow rfl (by kernel_rfl) rfl mm (by simp; omega) Tryz.isAgg54 Tryz.sizeOf54 (read_row 0 (by omega)) (.inr rfl) (by decide) ?_
        refine yp rfl (.move rfl) (yp rfl (Pure1.cast (v' := .int .i64 ((k - 1 : Nat) : Int)) (.move rfl) (by show Value.int _ _ = Value.int _ _; congr 1; omega)) (yp rfl (.indexAddr rfl rfl (ix_151 _ _ _ _ _ (by omega))) ?_))
        refine head_loadRow rfl (by kernel_rfl) rfl mm (by simp; omega) Tryz.isAgg54 Tryz.sizeOf54 (read_row 0 (by omega)) (.inr rfl) (by decide) ?_
        refine yp rfl (.lss rfl rfl) (yn ?_); intro a w h
        change Code.wp _ _ _ _ _
        refine cond_split h rfl (fun hc41 => ?_) (fun hc41 => ?_)
        · skip
          refine gC h (zs (zr (za rfl (zn (zt ?_))))); clear h; intro a w h
          refine retV h (results1 h rfl (.tmp rfl)) ?_
          have h1 : (wds n).getD (k - 1) 0 < (wds m).getD (k - 1) 0 := by simpa using hc41
          have h2 := valW_cmp (Wd.wds n) (Wd.wds m) h1 (by rw [Nat.sub_add_cancel hk]; exact hd)
          rw [valW_wds, valW_wds] at h2
          unfold cmpI; rw [if_pos h2]
        · skip
          refine gC h (zk (zs (zr (za rfl (zn (zt ?_)))))); clear h; intro a w h
          refine retV h (results1 h rfl (.tmp rfl)) ?_
          have h0 : (wds n).getD (k - 1) 0 ≠ (wds m).getD (k - 1) 0 := natNe hc32
          have h0' : ¬ (wds n).getD (k - 1) 0 < (wds m).getD (k - 1) 0 := by simpa using hc41
          have h1 : (wds m).getD (k - 1) 0 < (wds n).getD (k - 1) 0 := by omega
          have h2 := valW_cmp (Wd.wds m) (Wd.wds n) h1 (by rw [Nat.sub_add_cancel hk]; exact hd.symm)
          rw [valW_wds, valW_wds] at h2
          unfold cmpI; rw [if_neg (by omega), if_pos h2]
      · skip
        have he : (wds n).getD (k - 1) 0 = (wds m).getD (k - 1) 0 := natEq hc32
        refine gC h (zk (zr (zm rfl (zp (Pure1.cast (v' := .int .i64 (((k - 1 : Nat) : Int) - 1)) (.sub rfl rfl) (by show Value.int _ _ = Value.int _ _; congr 1; omega)) (za rfl (zn ?_)))))); clear h; intro a w h
        refine ⟨k - 1, ⟨by omega, drop_step hl (by omega) he (by rw [Nat.sub_add_cancel hk]; exact hd), h.sub sA⟩, by omega⟩
    · skip
      have hk : k = 0 := by simp at hc21; omega
      refine gC h (ze (zs (zr (za rfl (zn (zt ?_)))))); clear h; intro a w h
      refine retV h (results1 h rfl (.tmp rfl)) ?_
      subst hk
      have e : n = m := by rw [← valW_wds n, ← valW_wds m]; simp at hd; rw [hd]
      unfold cmpI; rw [if_neg (by omega), if_neg (by omega)]
theorem C_Cmp (n m : Nat) (hn : (wds n).length ≤ 1099511627776) (hm : (wds m).length ≤ 1099511627776) : CtrV Tryz.prog 169 [encN n, encN m] (.int .i64 (cmpI n m)) := by
  refine fn_intro Tryz.func169 rfl Tryz.ntmps169 nb ?_
  intro S w0 a hS h
  refine gC h (zs (zr (zx rfl fun b2 => zx rfl fun b3 => za rfl (zn (zs (zs (zr (zp (.fieldAddr rfl (fa_47_1 _ _)) (zd rfl mr Tryz.isAgg9 Tryz.sizeOf9 (rs_2_1 _ _) ?_))))))))); clear h; intro a w h
  refine gL h (zp (.binOp rfl rfl (fun _ => run_seql _ _ _ _ _)) (zm rfl ?_)); clear h; intro a w h
  refine by_bool h (fun hc8 h => ?_) (fun hc8 h => ?_)
  · skip
    have ha : n < 18446744073709551616 := bigN_empty.1 (by simpa using hc8)
    refine gL h (zq 8 rfl rfl (.fieldAddr rfl (fa_47_1 _ _)) ?_); clear h; intro a w h
    refine wpl_guard 8 h rfl rfl (op_load h rfl mr Tryz.isAgg9 Tryz.sizeOf9 (rs_2_1 _ _) (by decide) ?_); clear h; intro a h
    refine gL h (zq 8 rfl rfl (.binOp rfl rfl (fun _ => run_seql _ _ _ _ _)) ?_); clear h; intro a w h
    refine by_bool h (fun hc11 h => ?_) (fun hc11 h => ?_)
    · skip
      have hb : m < 18446744073709551616 := bigN_empty.1 (by simpa using hc11)
      refine gL h (zp (.pickT rfl rfl) (zn ?_)); clear h; intro a w h
      change Code.wp _ _ _ _ _
      refine cond_true h rfl ?_
      refine gC h (zs (zb (zs (zr (zp (.fieldAddr rfl (fa_47_0 _ _)) (zd rfl mr Tryz.isAgg45 Tryz.sizeOf45 (rs_2_0 _ _) ?_)))))); clear h; intro a w h
      refine gL h (zp (.fieldAddr rfl (fa_47_0 _ _)) (zd rfl mr Tryz.isAgg45 Tryz.sizeOf45 (rs_2_0 _ _) ?_)); clear h; intro a w h
      refine gL h (zp (.lss rfl rfl) ?_); clear h; intro a w h
      refine by_bool h (fun hc18 h => ?_) (fun hc18 h => ?_)
      · skip
        refine gL h (za rfl (zn ?_)); clear h; intro a w h
        change Code.wp _ _ _ _ _
        refine cond_true h rfl ?_
        refine gC h (zs (zr (za rfl (zn (zt ?_))))); clear h; intro a w h
        refine retV h (results1 h rfl (.tmp rfl)) ?_
        rw [lowN_small ha, lowN_small hb] at hc18; have : n < m := by simpa using hc18
        unfold cmpI; rw [if_pos this]
      · skip
        refine gL h (za rfl (zn ?_)); clear h; intro a w h
        change Code.wp _ _ _ _ _
        refine cond_false h rfl ?_
        refine gC h (zs (zr (zp (.fieldAddr rfl (fa_47_0 _ _)) (zd rfl mr Tryz.isAgg45 Tryz.sizeOf45 (rs_2_0 _ _) ?_)))); clear h; intro a w h
        refine gL h (zp (.fieldAddr rfl (fa_47_0 _ _)) (zd rfl mr Tryz.isAgg45 Tryz.sizeOf45 (rs_2_0 _ _) ?_)); clear h; intro a w h
        refine gL h (zp (.gtr rfl rfl) ?_); clear h; intro a w h
        refine by_bool h (fun hc24 h => ?_) (fun hc24 h => ?_)
        · skip
          refine gL h (za rfl (zn ?_)); clear h; intro a w h
          change Code.wp _ _ _ _ _
          refine cond_true h rfl ?_
          refine gC h (zs (zr (za rfl (zn (zt ?_))))); clear h; intro a w h
          refine retV h (results1 h rfl (.tmp rfl)) ?_
          rw [lowN_small ha, lowN_small hb] at hc18 hc24; have h1 : m < n := by simpa using hc24
          unfold cmpI; rw [if_neg (by omega), if_pos h1]
        · skip
          refine gL h (za rfl (zn ?_)); clear h; intro a w h
          change Code.wp _ _ _ _ _
          refine cond_false h rfl ?_
          refine gC h (zk (zs (zr (za rfl (zn (zt ?_)))))); clear h; intro a w h
          refine retV h (results1 h rfl (.tmp rfl)) ?_
          rw [lowN_small ha, lowN_small hb] at hc18 hc24; have h1 : ¬ m < n := by simpa using hc24
          have h2 : ¬ n < m := by simpa using hc18
          unfold cmpI; rw [if_neg h2, if_neg h1]
    · skip
      have hb : ¬ m < 18446744073709551616 := fun hn => by have := bigN_empty.2 hn; simp [this] at hc11
      refine gL h (zp (.pickT rfl rfl) (zn ?_)); clear h; intro a w h
      change Code.wp _ _ _ _ _
      refine cond_false h rfl ?_
      refine gC h (zk (zs (yD mixed_YtgkicbaomcmfoaaGreatDoor [0, 2, 1, 3, 4, 5] (floatsOK_none (by kernel_rfl)) (yd rfl rfl mr Tryz.isAgg47 Tryz.sizeOf47 (rd_2_0_2 _ _) ?_)))); clear h
      refine yd rfl rfl mr Tryz.isAgg47 Tryz.sizeOf47 (rd_2_0_2 _ _) ?_
      refine yf [_] rfl rfl Tryz.call92 (C_words n hn) ?_; rintro v26 Ψ26 ⟨a1, c1, rfl, hc1, rfl⟩
      refine yf [_] rfl rfl Tryz.call92 (C_words m hm) ?_; rintro v28 Ψ28 ⟨a2, c2, rfl, hc2, rfl⟩
      refine yw [_, _] rfl rfl Tryz.call208 (C_cmp n m a1 c1 a2 c2 hn hm) (yp rfl (.assign rfl) (yn (zt ?_))); intro a w h
      refine retV h (results1 h rfl (.tmp rfl)) ?_
      rfl
  · skip
    have ha : ¬ n < 18446744073709551616 := fun hn => by have := bigN_empty.2 hn; simp [this] at hc8
    refine gL h (zo 8 rfl rfl rfl (zo 8 rfl rfl rfl (zo 8 rfl rfl rfl (zp (.pickF rfl rfl) (zn ?_))))); clear h; intro a w h
    change Code.wp _ _ _ _ _
    refine cond_false h rfl ?_
    refine gC h (zk (zs (yD mixed_YtgkicbaomcmfoaaGreatDoor [0, 2, 1, 3, 4, 5] (floatsOK_none (by kernel_rfl)) (yd rfl rfl mr Tryz.isAgg47 Tryz.sizeOf47 (rd_2_0_2 _ _) ?_)))); clear h
    refine yd rfl rfl mr Tryz.isAgg47 Tryz.sizeOf47 (rd_2_0_2 _ _) ?_
    refine yf [_] rfl rfl Tryz.call92 (C_words n hn) ?_; rintro v26 Ψ26 ⟨a1, c1, rfl, hc1, rfl⟩
    refine yf [_] rfl rfl Tryz.call92 (C_words m hm) ?_; rintro v28 Ψ28 ⟨a2, c2, rfl, hc2, rfl⟩
    refine yw [_, _] rfl rfl Tryz.call208 (C_cmp n m a1 c1 a2 c2 hn hm) (yp rfl (.assign rfl) (yn (zt ?_))); intro a w h
    refine retV h (results1 h rfl (.tmp rfl)) ?_
    rfl
theorem C_Add32 (x y c : Nat) (hx : x < 4294967296) (hy : y < 4294967296) (hc : c ≤ 1) :
    CtrV Tryz.prog 140 [.int .u32 (x : Int), .int .u32 (y : Int), .int .u32 (c : Int)] (.tuple #[.int .u32 (((x + y + c) % 4294967296 : Nat) : Int), .int .u32 (((x + y + c) / 4294967296 : Nat) : Int)]) := by
  refine fn_intro Tryz.func140 rfl Tryz.ntmps140 nb ?_
  intro S w0 a hS h
  refine gC h (zs (zr (za rfl (za rfl (zn (zs (zr (zm rfl (zp (.convert rfl (cv_54_45b _ (wrap_u64 _ (by omega) (by omega)))) (zm rfl (zp (.convert rfl (cv_54_45b _ (wrap_u64 _ (by omega) (by omega)))) (zp (.binOp rfl rfl (fun _ => run_addb _ _ _ _ _ (wrap_u64 _ (by omega) (by omega)))) (zm rfl (zp (.convert rfl (cv_54_45b _ (wrap_u64 _ (by omega) (by omega)))) (zp (Pure1.cast (v' := .int .u64 ((x + y + c : Nat) : Int)) (.binOp rfl rfl (fun _ => run_addb _ _ _ _ _ (wrap_u64 _ (by omega) (by omega)))) (by show Value.int _ _ = Value.int _ _; congr 1)) (za rfl (zn (zs (zr (zm rfl (zp (Pure1.cast (v' := .int .u32 (((x + y + c) % 4294967296 : Nat) : Int)) (.convert rfl (cv_45_54 _)) (by rw [wrap_u32_mod]; congr 1)) (za rfl (zn (zs (zr (zm rfl (zp (.binOp rfl rfl (fun _ => run_shr _ _ _ _ 32 (by decide))) (zp (Pure1.cast (v' := .int .u32 (((x + y + c) / 4294967296 : Nat) : Int)) (.convert rfl (cv_45_54 _)) (by rw [wrap_u32_mod]; congr 1; omega)) (za rfl (zn (zt ?_))))))))))))))))))))))))))))))); clear h; intro a w h
  refine retV h (results2 h rfl (.tmp rfl) (.tmp rfl)) ?_
  rfl
theorem C_Sub32 (x y c : Nat) (hx : x < 4294967296) (hy : y < 4294967296) (hc : c ≤ 1) :
    CtrV Tryz.prog 171 [.int .u32 (x : Int), .int .u32 (y : Int), .int .u32 (c : Int)] (.tuple #[.int .u32 (((x + 8589934592 - y - c) % 4294967296 : Nat) : Int), .int .u32 ((if x < y + c then 1 else 0 : Nat) : Int)]) := by
  refine fn_intro Tryz.func171 rfl Tryz.ntmps171 nb ?_
  intro S w0 a hS h
  refine gC h (zs (zr (za rfl (za rfl (zn (zs (zr (zm rfl (zm rfl (zp (.binOp rfl rfl (fun _ => run_sub _ _ _ _ _)) (zm rfl (zp (Pure1.cast (v' := .int .u32 (((x + 8589934592 - y - c) % 4294967296 : Nat) : Int)) (.binOp rfl rfl (fun _ => run_sub _ _ _ _ _)) (by rw [wrap_u32_mod, wrap_u32_mod]; congr 1; omega)) (za rfl (zn (zs (zr (zm rfl (zp (.unOp rfl (fun _ => run_not32 _ hx)) (zm rfl (zp (.binOp rfl rfl (fun _ => run_and rfl _ _ _ _ _ (by show _ < 4294967296; omega) hy)) (zm rfl (zm rfl (zp (.binOp rfl rfl (fun _ => run_xor rfl _ _ _ _ _ hx hy)) (zp (.unOp rfl (fun _ => run_not32 _ (Nat.xor_lt_two_pow (n := 32) hx hy))) (zm rfl (zp (.binOp rfl rfl (fun _ => run_and rfl _ _ _ _ _ (by show _ < 4294967296; omega) (by show _ < 4294967296; omega))) (zp (.binOp rfl rfl (fun _ => run_or rfl _ _ _ _ _ (Nat.lt_of_le_of_lt Nat.and_le_right hy) (Nat.lt_of_le_of_lt Nat.and_le_right (by show _ < 4294967296; omega)))) (zp (Pure1.cast (v' := .int .u32 ((if x < y + c then 1 else 0 : Nat) : Int)) (.binOp rfl rfl (fun _ => run_shr _ _ _ _ 31 (by decide))) (by rw [sub_borrow x y c hx hy hc])) (za rfl (zn (zt ?_))))))))))))))))))))))))))))))); clear h; intro a w h
  refine retV h (results2 h rfl (.tmp rfl) (.tmp rfl)) ?_
  rfl
end
section
theorem C_wordsO (n : Nat) (hbig : ¬ n < 18446744073709551616) (hs : (wds n).length ≤ 1099511627776) :
    CtrO Tryz.prog 92 [encN n] [] (fun v σn => ∃ b, v = .slice (some ⟨b, 0, none⟩) (wds n).length (wds n).length ∧ σn = [(b, .cells (u32s (wds n)).toArray 54 (0, 0))]) := by
  refine fn_introO Tryz.func92 rfl Tryz.ntmps92 nb ?_
  intro S w0 a hS h
  refine gC h (zs (zr (zx rfl fun b1 => za rfl (zn (zs (zs (zr (zp (.fieldAddr rfl (fa_47_1 _ _)) (zd rfl mr Tryz.isAgg9 Tryz.sizeOf9 (rs_2_1 _ _) ?_))))))))); clear h; intro a w h
  refine gL h (zp (.binOp rfl rfl (fun _ => run_seql _ _ _ _ _)) (zn ?_)); clear h; intro a w h
  change Code.wp _ _ _ _ _
  refine cond_split h rfl (fun hc8 => (by exfalso; exact hbig (bigN_empty.1 (by simpa using hc8)))) (fun hc8 => ?_)
  refine gC h (zk (zs (zr (zp (.fieldAddr rfl (fa_47_1 _ _)) (zd rfl mr Tryz.isAgg9 Tryz.sizeOf9 (rs_2_1 _ _) ?_))))); clear h; intro a w h
  have hn : ¬ n < 18446744073709551616 := hbig
  refine gL h (zp (.builtin [_] rfl (len_string_9 _)) (zp (Pure1.cast (v' := .int .i64 ((wds n).length : Int)) (.binOp rfl rfl (fun _ => run_quo _ _ _ _ _ (by decide))) (by rw [bigN_size, if_neg hn]; rw [show ((4 : Int)) = ((4 : Nat) : Int) from rfl, tdiv_nat, wrap_i64 _ (by omega) (by omega)]; congr 1; omega)) ?_)); clear h; intro a w h
  refine wpl_plain (op_makeSlice h rfl rfl Tryz.runUnderlying151 Tryz.typeInfo54 Tryz.sizeOf54 Tryz.zeroValue54 rfl (by decide) (Nat.le_refl _) (by show 4 * _ ≤ _; omega) (by omega) (by decide) ?_); clear h; intro b22 a w h
  rw [show (Value.int .u32 0).cells.toList = [Value.int .u32 0] from rfl, reps_one, show List.replicate (wds n).length (Value.int .u32 0) = u32s (partW (wds n) 0 0) from by rw [partW_zero]; simp] at h
  refine gL h (za rfl (zn (zs (zs (zr (zm rfl (zp (.builtin [_] rfl (len_slice_151 _ _ _)) (zm rfl (zn (zb ?_)))))))))); clear h; intro a w h
  refine wp_loop_inv (fun (i : Nat) a w => i ≤ (wds n).length ∧ St 51 S w0 [(1, .pointer (some ⟨b1, 0, none⟩)), (3, .slice (some ⟨b22, 0, none⟩) (wds n).length (wds n).length), (24, .int .i64 ((wds n).length : Int)), (25, .int .i64 (i : Int))] [(b22, .cells (u32s (partW (wds n) i 0)).toArray 54 (0, 0)), (b1, .cells (encN n).cells 47 (0, 0))] [] a w) (fun i => (wds n).length - i) (0) (⟨Nat.zero_le _, h.sub (subL ⟨rfl, rfl, rfl, rfl, trivial⟩)⟩) ?_; clear h
  rintro i a w ⟨hi, h⟩
  refine gC h (zs (zr (zp (.lss rfl rfl) (zn (zs ?_))))); clear h; intro a w h
  refine cond_split h rfl (fun hc26 => ?_) (fun hc26 => ?_)
  · skip
    have hi' : i < (wds n).length := by simpa using hc26
    refine gC h (zk (zs (zb (zs (zr (zm rfl (za rfl (zn (zs (zr (zm rfl (zn (zb ?_))))))))))))); clear h; intro a w h
    refine wp_loop_inv (fun (k : Nat) a w => k ≤ 4 ∧ St 51 S w0 [(1, .pointer (some ⟨b1, 0, none⟩)), (3, .slice (some ⟨b22, 0, none⟩) (wds n).length (wds n).length), (24, .int .i64 ((wds n).length : Int)), (25, .int .i64 (i : Int)), (4, .int .i64 (i : Int)), (28, .int .i64 (k : Int))] [(b22, .cells (u32s (partW (wds n) i k)).toArray 54 (0, 0)), (b1, .cells (encN n).cells 47 (0, 0))] [] a w) (fun k => 4 - k) (0) (⟨by omega, h.sub sA⟩) ?_; clear h
    rintro k a w ⟨hk, h⟩
    refine gC h (zs (zr (zp (.lss rfl rfl) (zn (zs ?_))))); clear h; intro a w h
    refine cond_split h rfl (fun hc29 => ?_) (fun hc29 => ?_)
    · skip
      have hk' : k < 4 := by simp at hc29; omega
      refine gC h (zk (zs (zb (zs (zr (zm rfl (za rfl (zn (yD mixed_YtgkicbaomcmfoaaGreatDoor [0, 1, 2, 3, 4, 5, 6, 7, 8, 9, 10, 11, 12, 13, 14, 15, 16, 17] (floatsOK_none (by kernel_rfl)) (yp rfl (.move rfl) (yp rfl (.move rfl) (yp rfl (.indexAddr rfl rfl (ix_151 _ _ _ _ _ (by omega))) (yd rfl rfl (by repeat (first | exact List.Mem.head _ | apply List.Mem.tail)) Tryz.isAgg54 Tryz.sizeOf54 ((read_row 0 (by rw [partW_length _ _ _ hi']; omega)).trans (by rw [Nat.zero_add, partW_get _ _ _ hi'])) ?_))))))))))))); clear h
      refine yp rfl (.fieldAddr rfl (fa_47_1 _ _)) (yd rfl rfl mr Tryz.isAgg9 Tryz.sizeOf9 (rs_2_1 _ _) ?_)
      refine yp rfl (.move rfl) (yp rfl (.mul rfl rfl) (yp rfl (.move rfl) (yp rfl (Pure1.cast (v' := .int .i64 ((4 * i + k : Nat) : Int)) (.add rfl rfl) (by show Value.int _ _ = Value.int _ _; congr 1)) (yp rfl (Pure1.cast (v' := .int .u8 (((wds n).getD i 0 / 256 ^ k % 256 : Nat) : Int)) (.index rfl rfl (fun _ => run_index_str Tryz.runUnderlying9 _ _ (by rw [bigN_size, if_neg hn]; omega))) (by rw [bigN_byte hn hi' hk'])) (yp rfl (.convert rfl (cv_5_54b _ (wrap_u32 _ (by omega) (by omega)))) (yp rfl (.move rfl) (yp rfl (Pure1.cast (v' := .int .i64 ((8 * k : Nat) : Int)) (.mul rfl rfl) (by show Value.int _ _ = Value.int _ _; congr 1)) (yp rfl (Pure1.cast (v' := .int .u32 (((wds n).getD i 0 / 256 ^ k % 256 * 2 ^ (8 * k) : Nat) : Int)) (.binOp rfl rfl (fun _ => run_shl _ _ _ _ _ (by show 8 * k ≤ 32; omega))) (by rw [wrap_u32 _ (by omega) (by have := shl_bound ((wds n).getD i 0 / 256 ^ k) k hk'; omega)])) (yp rfl (Pure1.cast (v' := .int .u32 (((wds n).getD i 0 % 256 ^ (k + 1) : Nat) : Int)) (.binOp rfl rfl (fun _ => run_or rfl _ _ _ _ _ (Nat.lt_of_lt_of_le (Nat.mod_lt _ (Nat.pow_pos (by omega))) (Nat.le_trans (Nat.pow_le_pow_right (by omega) (by omega : k ≤ 4)) (by decide))) (shl_bound _ _ hk'))) (by rw [or_byte])) (yp rfl (.indexAddr rfl rfl (ix_151 _ _ _ _ _ (by omega))) (yt rfl rfl rfl ((set_row (partW (wds n) i k) (0 + i) ((wds n).getD i 0 % 256 ^ (k + 1))).trans (by rw [Nat.zero_add, partW_set _ _ _ _ hi'])) (by repeat (first | exact Upd.head | apply Upd.tail)) Tryz.sizeOf54 rfl (by simp [partW_length _ _ _ hi']; omega) rfl ?_)))))))))))
      refine yn (zr (zp (.add rfl rfl) (zm rfl (zn ?_)))); intro a w h
      exact ⟨k + 1, ⟨by omega, h.sub sA⟩, by omega⟩
    · skip
      have hk' : k = 4 := by simp at hc29; omega
      subst hk'
      rw [partW_next _ _ hi' (Wd.wds n)] at h
      refine gC h (ze (zr (zp (.add rfl rfl) (zm rfl (zn ?_))))); clear h; intro a w h
      exact ⟨i + 1, ⟨by omega, h.sub sA⟩, by omega⟩
  · skip
    have hi' : i = (wds n).length := by simp at hc26; omega
    refine gC h (ze (zs (zr (zm rfl (za rfl (zn (zt ?_))))))); clear h; intro a w h
    subst hi'
    rw [partW_end] at h
    refine retO h (results1 h rfl (.tmp rfl)) ⟨b22, rfl, rfl⟩ sl
theorem u32s_flat (l : List Nat) : (u32s l).all flat = true := by simp [flat]
theorem copy_zero (X : List Nat) : setFrom (u32s (List.replicate (X.length + 1) 0)).toArray 0 (u32s X) = (u32s (X ++ [0])).toArray := by
  rw [setFrom_all _ _ (by simp)]
  simp
theorem C_Add (n m : Nat) (hn : (wds n).length ≤ 1000000000000) (hm : (wds m).length ≤ 1000000000000) : CtrV Tryz.prog 97 [encN n, encN m] (encN (n + m)) := by
  refine fn_intro Tryz.func97 rfl Tryz.ntmps97 nb ?_
  intro S w0 a hS h
  refine gC h (zs (zr (zx rfl fun b2 => zx rfl fun b3 => zz Tryz.zeroValue47 fun b4 => zn ?_))); clear h; intro a w h
  change Code.wp _ _ _ _ _
  refine wp_join (fun a w => St 80 S w0 [(2, .pointer (some ⟨b2, 0, none⟩)), (3, .pointer (some ⟨b3, 0, none⟩)), (4, .pointer (some ⟨b4, 0, none⟩))] [(b4, .cells (encN 0).cells 47 (0, 0)), (b3, .cells (encN m).cells 47 (0, 0)), (b2, .cells (encN n).cells 47 (0, 0))] [] a w) ?_ ?_
  · skip
    refine gC h (zs (zr (zp (.fieldAddr rfl (fa_47_1 _ _)) (zd rfl mr Tryz.isAgg9 Tryz.sizeOf9 (rs_2_1 _ _) ?_)))); clear h; intro a w h
    refine gL h (zp (.binOp rfl rfl (fun _ => run_seql _ _ _ _ _)) (zm rfl ?_)); clear h; intro a w h
    refine by_bool h (fun hc16 h => ?_) (fun hc16 h => ?_)
    · skip
      have ha : n < 18446744073709551616 := bigN_empty.1 (by simpa using hc16)
      refine gL h (zq 16 rfl rfl (.fieldAddr rfl (fa_47_1 _ _)) ?_); clear h; intro a w h
      refine wpl_guard 16 h rfl rfl (op_load h rfl mr Tryz.isAgg9 Tryz.sizeOf9 (rs_2_1 _ _) (by decide) ?_); clear h; intro a h
      refine gL h (zq 16 rfl rfl (.binOp rfl rfl (fun _ => run_seql _ _ _ _ _)) ?_); clear h; intro a w h
      refine by_bool h (fun hc19 h => ?_) (fun hc19 h => ?_)
      · skip
        have hb : m < 18446744073709551616 := bigN_empty.1 (by simpa using hc19)
        refine gL h (zp (.pickT rfl rfl) (zn ?_)); clear h; intro a w h
        change Code.wp _ _ _ _ _
        refine cond_true h rfl ?_
        refine gC h (zs (zr (zp (.fieldAddr rfl (fa_47_0 _ _)) (zd rfl mr Tryz.isAgg45 Tryz.sizeOf45 (rs_2_0 _ _) ?_)))); clear h; intro a w h
        refine gL h (zp (.fieldAddr rfl (fa_47_0 _ _)) (zd rfl mr Tryz.isAgg45 Tryz.sizeOf45 (rs_2_0 _ _) ?_)); clear h; intro a w h
        refine gL h (zp (.extern [_, _, _] rfl (fun w => by rw [lowN_small ha, lowN_small hb]; exact ex_Add64 n m 0 (by decide) w)) (zm rfl (zp (.extract rfl (fun _ => rfl)) (zp (.extract rfl (fun _ => rfl)) (za rfl (za rfl (zn (zs (zr (zm rfl (zp (.eql rfl rfl) (zn ?_)))))))))))); clear h; intro a w h
        change Code.wp _ _ _ _ _
        refine cond_split h rfl (fun hc30 => ?_) (fun hc30 => ?_)
        · skip
          have hsum : n + m < 18446744073709551616 := by simp at hc30; omega
          refine gC h (zs (zr (zm rfl (zp (.build [(_, _)] rfl (bd_47_0 _)) (zt' rfl rfl (st_2_0_2 _ _ _ _) uu Tryz.sizeOf47 rfl nb rfl ?_))))); clear h; intro a w h
          refine wpList_nil (wp_ret ?_)
          refine retV h (results1 h rfl (.cell rfl mr Tryz.isAgg47 Tryz.sizeOf47 (rd_2_0_2 _ _))) ?_
          have e : (n + m + 0) % 18446744073709551616 = n + m := by omega
          rw [e, encN, lowN_small hsum, bigN_small hsum]
        · skip
          refine wp_skip ?_
          exact h.sub sA
      · skip
        have hb : ¬ m < 18446744073709551616 := fun hn => by have := bigN_empty.2 hn; simp [this] at hc19
        refine gL h (zp (.pickT rfl rfl) (zn ?_)); clear h; intro a w h
        change Code.wp _ _ _ _ _
        refine cond_false h rfl ?_
        refine wp_skip ?_
        exact h.sub sA
    · skip
      have ha : ¬ n < 18446744073709551616 := fun hn => by have := bigN_empty.2 hn; simp [this] at hc16
      refine gL h (zo 16 rfl rfl rfl (zo 16 rfl rfl rfl (zo 16 rfl rfl rfl (zp (.pickF rfl rfl) (zn ?_))))); clear h; intro a w h
      change Code.wp _ _ _ _ _
      refine cond_false h rfl ?_
      refine wp_skip ?_
      exact h.sub sA
  · clear h
    intro a w h
    refine gC h (zs (yD mixed_YtgkicbaomcmfoaaGreatDoor [0, 2, 1, 3, 4, 5] (floatsOK_none (by kernel_rfl)) (yd rfl rfl mr Tryz.isAgg47 Tryz.sizeOf47 (rd_2_0_2 _ _) ?_))); clear h
    refine yd rfl rfl mr Tryz.isAgg47 Tryz.sizeOf47 (rd_2_0_2 _ _) ?_
    refine yf [_] rfl rfl Tryz.call92 (C_words n (by omega)) ?_; rintro v34 Ψ34 ⟨a1, c1, rfl, hc1, rfl⟩
    refine yf [_] rfl rfl Tryz.call92 (C_words m (by omega)) ?_; rintro v36 Ψ36 ⟨a2, c2, rfl, hc2, rfl⟩
    refine yp rfl (.assign rfl) (yp rfl (.assign rfl) (yn ?_)); intro a w h
    change Code.wp _ _ _ _ _
    refine wp_join (fun a w => ∃ X Y aX cX aY cY, Y.length ≤ X.length ∧ X.length ≤ 1000000000000 ∧ X.length ≤ cX ∧ Y.length ≤ cY ∧ Wd X ∧ Wd Y ∧ valW X + valW Y = n + m ∧ St 80 S w0 [(4, .pointer (some ⟨b4, 0, none⟩)), (7, .slice aX X.length cX), (8, .slice aY Y.length cY)] [(b4, .cells (encN 0).cells 47 (0, 0))] [Row aX (u32s X), Row aY (u32s Y)] a w) ?_ ?_
    · skip
      refine gC h (zs (zr (zm rfl (zp (.builtin [_] rfl (len_slice_151 _ _ _)) (zm rfl (zp (.builtin [_] rfl (len_slice_151 _ _ _)) (zp (.lss rfl rfl) (zn ?_)))))))); clear h; intro a w h
      change Code.wp _ _ _ _ _
      refine cond_split h rfl (fun hc41 => ?_) (fun hc41 => ?_)
      · skip
        have hlen : (wds n).length < (wds m).length := by simpa using hc41
        refine gC h (zr (zm rfl (zm rfl (za rfl (za rfl (zn ?_)))))); clear h; intro a w h
        exact ⟨wds m, wds n, _, _, _, _, by omega, hm, hc2, hc1, Wd.wds _, Wd.wds _, by rw [valW_wds, valW_wds]; omega, ((h.drop (List.Sublist.cons_cons _ (List.nil_sublist _))).factsSub (by simp)).sub (subL ⟨rfl, rfl, rfl, trivial⟩)⟩
      · skip
        have hlen : (wds m).length ≤ (wds n).length := by simpa using hc41
        refine wp_skip ?_
        exact ⟨wds n, wds m, _, _, _, _, by omega, hn, hc1, hc2, Wd.wds _, Wd.wds _, by rw [valW_wds, valW_wds], ((h.drop (List.Sublist.cons_cons _ (List.nil_sublist _))).factsSub (by simp)).sub (subL ⟨rfl, rfl, rfl, trivial⟩)⟩
    · clear h
      rintro a w ⟨X, Y, aX, cX, aY, cY, hYX, hX12, hXc, hYc, hX, hY, hV, h⟩
      refine gC h (zs (zr (zm rfl (zp (.builtin [_] rfl (len_slice_151 _ _ _)) (zp (Pure1.cast (v' := .int .i64 ((X.length + 1 : Nat) : Int)) (.add rfl rfl) (by show Value.int _ _ = Value.int _ _; congr 1)) ?_))))); clear h; intro a w h
      refine wpl_plain (op_makeSlice h rfl rfl Tryz.runUnderlying151 Tryz.typeInfo54 Tryz.sizeOf54 Tryz.zeroValue54 rfl (by decide) (by exact Nat.le_refl _) (by show 4 * _ ≤ _; omega) (by omega) (by decide) ?_); clear h; intro b47 a w h
      rw [show (Value.int .u32 0).cells.toList = [Value.int .u32 0] from rfl, reps_one, show List.replicate (X.length + 1) (Value.int .u32 0) = u32s (List.replicate (X.length + 1) 0) from by simp] at h
      refine gL h (za rfl (zn (zs (zr (zm rfl (zm rfl ?_)))))); clear h; intro a w h
      refine wpl_plain (op_copyRow h rfl rfl (M := u32s X) (by simp) (by simp) Tryz.runUnderlying151 Tryz.sizeOf54 (by omega) (by decide) (copy_zero X) (by repeat (first | exact Upd.head | apply Upd.tail)) (by simp) (u32s_flat X) (by decide) ?_); clear h; intro a w h
      rw [show X.length + 1 = (X ++ [0]).length from by simp] at h
      refine gL h (zn (zs (zr (za rfl (zn (zs (zs (zr (zm rfl (zp (.builtin [_] rfl (len_slice_151 _ _ _)) (zm rfl (zn (zb ?_))))))))))))); clear h; intro a w h
      refine wp_loop_inv (fun (i : Nat) a w => ∃ Z c, i ≤ Z.length ∧ Z.length = X.length + 1 ∧ Wd Z ∧ c ≤ 1 ∧ valW Z + 4294967296 ^ i * (c + valW (Y.drop i)) = n + m ∧ St 80 S w0 [(4, .pointer (some ⟨b4, 0, none⟩)), (8, .slice aY Y.length cY), (9, .slice (some ⟨b47, 0, none⟩) Z.length Z.length), (10, .int .u32 (c : Int)), (52, .int .i64 (Z.length : Int)), (53, .int .i64 (i : Int))] [(b47, .cells (u32s Z).toArray 54 (0, 0)), (b4, .cells (encN 0).cells 47 (0, 0))] [Row aY (u32s Y)] a w) (fun i => X.length + 1 - i) (0) (⟨X ++ [0], 0, Nat.zero_le _, by simp, hX.append (Wd.zeros 1), by omega, by rw [valW_append]; simp [valW]; omega, (h.factsSub (by simp)).sub (subL ⟨rfl, rfl, rfl, rfl, rfl, rfl, trivial⟩)⟩) ?_; clear h
      rintro i a w ⟨Z, c, hi, hZl, hZ, hc, hT, h⟩
      refine gC h (zs (zr (zp (.lss rfl rfl) (zn (zs ?_))))); clear h; intro a w h
      refine cond_split h rfl (fun hc54 => ?_) (fun hc54 => ?_)
      · skip
        have hi' : i < Z.length := by simpa using hc54
        refine gC h (zk (zs (zb (zs (zr (zm rfl (za rfl (zn (zs (zr (za rfl (zn ?_)))))))))))); clear h; intro a w h
        change Code.wp _ _ _ _ _
        refine wp_join (fun a w => St 80 S w0 [(4, .pointer (some ⟨b4, 0, none⟩)), (8, .slice aY Y.length cY), (9, .slice (some ⟨b47, 0, none⟩) Z.length Z.length), (10, .int .u32 (c : Int)), (11, .int .i64 (i : Int)), (12, .int .u32 (Y.getD i 0 : Int)), (52, .int .i64 (Z.length : Int)), (53, .int .i64 (i : Int))] [(b47, .cells (u32s Z).toArray 54 (0, 0)), (b4, .cells (encN 0).cells 47 (0, 0))] [Row aY (u32s Y)] a w) ?_ ?_
        · skip
          refine gC h (zs (zr (zm rfl (zm rfl (zp (.builtin [_] rfl (len_slice_151 _ _ _)) (zp (.lss rfl rfl) (zn ?_))))))); clear h; intro a w h
          change Code.wp _ _ _ _ _
          refine cond_split h rfl (fun hc59 => ?_) (fun hc59 => ?_)
          · skip
            have hlt : i < Y.length := by simpa using hc59
            obtain ⟨bY, bYo, bYe⟩ := h.row_addr (ad := aY) (M := u32s Y) (by simp) (by simp; intro e; simp [e] at hlt)
            subst bYe
            refine gC h (zr (zm rfl (zm rfl (zp (.indexAddr rfl rfl (ix_151 _ _ _ _ _ (by omega))) (zD rfl mm (by simp; omega) Tryz.isAgg54 Tryz.sizeOf54 (read_row 0 (by omega)) (.inr rfl) ?_))))); clear h; intro a w h
            refine gL h (za rfl (zn ?_)); clear h; intro a w h
            exact h.sub sA
          · skip
            have hlt : Y.length ≤ i := by simpa using hc59
            refine wp_skip ?_
            rw [getD_ge hlt]
            exact h.sub sA
        · clear h
          intro a w h
          refine gC h (zr (zm rfl (zm rfl (zm rfl (zm rfl (zp (.indexAddr rfl rfl (ix_151 _ _ _ _ _ (by omega))) (zd rfl mm Tryz.isAgg54 Tryz.sizeOf54 ((read_row 0 (by rw [Nat.zero_add]; omega)).trans (by rw [Nat.zero_add])) ?_))))))); clear h; intro a w h
          refine gL h (zm rfl (zm rfl (zv [_, _, _] rfl Tryz.call140 (C_Add32 _ _ _ (hZ.getD i) (hY.getD i) hc) (zm rfl (zp (.extract rfl (fun _ => rfl)) (zp (.extract rfl (fun _ => rfl)) (zp (.indexAddr rfl rfl (ix_151 _ _ _ _ _ (by omega))) (zt' rfl rfl ((set_row Z (0 + i) ((Z.getD i 0 + Y.getD i 0 + c) % 4294967296)).trans (by rw [Nat.zero_add])) uu Tryz.sizeOf54 rfl (by simp; omega) rfl ?_)))))))); clear h; intro a w h
          refine gL h (za rfl (zn (zr (zp (.add rfl rfl) (zm rfl (zn ?_)))))); clear h; intro a w h
          refine ⟨i + 1, ⟨Z.set i ((Z.getD i 0 + Y.getD i 0 + c) % 4294967296), _, by simp; omega, by simpa using hZl, hZ.set _ _ (Nat.mod_lt _ (by decide)), ?_, add_step hi' hT, by rw [List.length_set]; exact h.sub (subL ⟨rfl, rfl, rfl, rfl, rfl, rfl, trivial⟩)⟩, by omega⟩
          have hz := hZ.getD i
          have hy := hY.getD i
          omega
      · skip
        have hi' : i = Z.length := by simp at hc54; omega
        refine wp_exit (wp_seq (wp_region_lit ?_))
        replace h := h.shareAll hS (u32s Z) rfl
        refine gL h (zm rfl (zw [_] rfl Tryz.call128 (C_of _ _ Z hZ (Nat.le_refl _) (by omega)) (zt' rfl rfl (st_2_0_2 _ _ _ _) uu Tryz.sizeOf47 rfl nb rfl ?_))); clear h; intro a w h
        refine wpList_nil (wp_ret ?_)
        refine retV h (results1 h rfl (.cell rfl mr Tryz.isAgg47 Tryz.sizeOf47 (rd_2_0_2 _ _))) ?_
        rw [hi'] at hT
        have e : valW Z = n + m := add_end (N := Z.length) (c := c) (by rw [List.drop_eq_nil_of_le (by omega)] at hT; simpa [valW] using hT) (by rw [← hV, hZl]; exact add_lt hX hY hYX)
        rw [e]
end
section
theorem bs_151_4_0_1_2_3 (x0 : Int) (x1 : Int) (x2 : Int) (x3 : Int) (w : World) : (Instr.buildSlice 151 4 [(0, .int .u32 x0), (1, .int .u32 x1), (2, .int .u32 x2), (3, .int .u32 x3)].toArray).run Tryz.prog w = .ok (.slice (some ⟨w.heap.size, 0, none⟩) 4 4) (w.alloc (.cells #[.int .u32 x0, .int .u32 x1, .int .u32 x2, .int .u32 x3] 54 (0, 0))) := by
  simp [go_sem]
theorem C_Sub (n m : Nat) (hn : (wds n).length ≤ 1000000000000) (hm : (wds m).length ≤ 1000000000000) : CtrV Tryz.prog 126 [encN n, encN m] (.tuple #[encN (n - m), .bool (decide (m ≤ n))]) := by
  refine fn_intro Tryz.func126 rfl Tryz.ntmps126 nb ?_
  intro S w0 a hS h
  refine gC h (zs (zr (zx rfl fun b2 => zx rfl fun b3 => zz Tryz.zeroValue47 fun b4 => za rfl (zn (zs (zs (zr (zd rfl mr Tryz.isAgg47 Tryz.sizeOf47 (rd_2_0_2 _ _) ?_)))))))); clear h; intro a w h
  refine gL h (zd rfl mr Tryz.isAgg47 Tryz.sizeOf47 (rd_2_0_2 _ _) ?_); clear h; intro a w h
  refine gL h (zv [_, _] rfl Tryz.call169 (C_Cmp n m (by omega) (by omega)) (zp (.lss rfl rfl) (zn ?_))); clear h; intro a w h
  change Code.wp _ _ _ _ _
  refine cond_split h rfl (fun hc14 => ?_) (fun hc14 => ?_)
  · skip
    have hlt : n < m := by rw [cmpI_neg] at hc14; simpa using hc14
    refine gC h (zs (zr (zp (.build [] rfl (bd_47_z)) (zt' rfl rfl (st_2_0_2 _ _ _ _) uu Tryz.sizeOf47 rfl nb rfl ?_)))); clear h; intro a w h
    refine gL h (za rfl (zn (zt ?_))); clear h; intro a w h
    refine retV h (results2 h rfl (.cell rfl mr Tryz.isAgg47 Tryz.sizeOf47 (rd_2_0_2 _ _)) (.tmp rfl)) ?_
    rw [show n - m = 0 by omega, show decide (m ≤ n) = false from decide_eq_false (by omega)]; rfl
  · skip
    have hle : m ≤ n := by rw [cmpI_neg] at hc14; simpa using hc14
    refine gC h (zk (zs (zs (zr (zp (.fieldAddr rfl (fa_47_1 _ _)) (zd rfl mr Tryz.isAgg9 Tryz.sizeOf9 (rs_2_1 _ _) ?_)))))); clear h; intro a w h
    refine gL h (zp (.binOp rfl rfl (fun _ => run_seql _ _ _ _ _)) (zn ?_)); clear h; intro a w h
    change Code.wp _ _ _ _ _
    refine cond_split h rfl (fun hc18 => ?_) (fun hc18 => ?_)
    · skip
      have ha : n < 18446744073709551616 := bigN_empty.1 (by simpa using hc18)
      refine gC h (zs (zr (zp (.fieldAddr rfl (fa_47_0 _ _)) (zd rfl mr Tryz.isAgg45 Tryz.sizeOf45 (rs_2_0 _ _) ?_)))); clear h; intro a w h
      refine gL h (zp (.fieldAddr rfl (fa_47_0 _ _)) (zd rfl mr Tryz.isAgg45 Tryz.sizeOf45 (rs_2_0 _ _) ?_)); clear h; intro a w h
      refine gL h (zp (Pure1.cast (v' := .int .u64 ((n - m : Nat) : Int)) (.binOp rfl rfl (fun _ => run_sub _ _ _ _ _)) (by rw [lowN_small ha, lowN_small (by omega), wrap_u64 _ (by omega) (by omega)]; congr 1; omega)) (zp (.build [(_, _)] rfl (bd_47_0 _)) (zt' rfl rfl (st_2_0_2 _ _ _ _) uu Tryz.sizeOf47 rfl nb rfl ?_))); clear h; intro a w h
      refine gL h (za rfl (zn (zt ?_))); clear h; intro a w h
      refine retV h (results2 h rfl (.cell rfl mr Tryz.isAgg47 Tryz.sizeOf47 (rd_2_0_2 _ _)) (.tmp rfl)) ?_
      rw [decide_eq_true hle, encN, lowN_small (by omega : n - m < _), bigN_small (by omega)]
    · skip
      have ha : ¬ n < 18446744073709551616 := fun hn => by have := bigN_empty.2 hn; simp [this] at hc18
      refine gC h (zk (zs (yD mixed_YtgkicbaomcmfoaaGreatDoor [0, 2, 1, 3, 4, 5] (floatsOK_none (by kernel_rfl)) (yd rfl rfl mr Tryz.isAgg47 Tryz.sizeOf47 (rd_2_0_2 _ _) ?_)))); clear h
      refine yd rfl rfl mr Tryz.isAgg47 Tryz.sizeOf47 (rd_2_0_2 _ _) ?_
      refine head_callO rfl (by kernel_rfl) (vs := [_]) rfl Tryz.call92 (C_wordsO n ha (by omega)) (by simp) (by decide) ?_; rintro v26 σ26 ⟨b26, rfl, rfl⟩
      refine yf [_] rfl rfl Tryz.call92 (C_words m (by omega)) ?_; rintro v28 Ψ28 ⟨aY, cY, rfl, hYc, rfl⟩
      refine yp rfl (.assign rfl) (yp rfl (.assign rfl) (yn (zs (zr (za rfl (zn (zs (zs (zr (zm rfl (zp (.builtin [_] rfl (len_slice_151 _ _ _)) (zm rfl (zn (zb ?_)))))))))))))); intro a w h
      refine wp_loop_inv (fun (i : Nat) a w => ∃ Z c, i ≤ Z.length ∧ Z.length = (wds n).length ∧ Wd Z ∧ c ≤ 1 ∧ valW Z + m = n + 4294967296 ^ i * (c + valW ((wds m).drop i)) ∧ St 58 S w0 [(4, .pointer (some ⟨b4, 0, none⟩)), (6, .slice (some ⟨b26, 0, none⟩) Z.length Z.length), (7, .slice aY (wds m).length cY), (8, .int .u32 (c : Int)), (30, .int .i64 (Z.length : Int)), (31, .int .i64 (i : Int))] [(b26, .cells (u32s Z).toArray 54 (0, 0)), (b4, .cells (encN 0).cells 47 (0, 0))] [Row aY (u32s (wds m))] a w) (fun i => (wds n).length - i) (0) (⟨wds n, 0, Nat.zero_le _, rfl, Wd.wds n, by omega, by simp [valW_wds], ((h.drop (List.Sublist.cons_cons _ (List.Sublist.cons_cons _ (List.nil_sublist _)))).factsSub (by simp)).sub (subL ⟨rfl, rfl, rfl, rfl, rfl, rfl, trivial⟩)⟩) ?_; clear h
      rintro i a w ⟨Z, c, hi, hZl, hZ, hc, hT, h⟩
      refine gC h (zs (zr (zp (.lss rfl rfl) (zn (zs ?_))))); clear h; intro a w h
      refine cond_split h rfl (fun hc32 => ?_) (fun hc32 => ?_)
      · skip
        have hi' : i < Z.length := by simpa using hc32
        refine gC h (zk (zs (zb (zs (zr (zm rfl (za rfl (zn (zs (zr (za rfl (zn ?_)))))))))))); clear h; intro a w h
        change Code.wp _ _ _ _ _
        refine wp_join (fun a w => St 58 S w0 [(4, .pointer (some ⟨b4, 0, none⟩)), (6, .slice (some ⟨b26, 0, none⟩) Z.length Z.length), (7, .slice aY (wds m).length cY), (8, .int .u32 (c : Int)), (9, .int .i64 (i : Int)), (10, .int .u32 ((wds m).getD i 0 : Int)), (30, .int .i64 (Z.length : Int)), (31, .int .i64 (i : Int))] [(b26, .cells (u32s Z).toArray 54 (0, 0)), (b4, .cells (encN 0).cells 47 (0, 0))] [Row aY (u32s (wds m))] a w) ?_ ?_
        · skip
          refine gC h (zs (zr (zm rfl (zm rfl (zp (.builtin [_] rfl (len_slice_151 _ _ _)) (zp (.lss rfl rfl) (zn ?_))))))); clear h; intro a w h
          change Code.wp _ _ _ _ _
          refine cond_split h rfl (fun hc37 => ?_) (fun hc37 => ?_)
          · skip
            have hlt : i < (wds m).length := by simpa using hc37
            obtain ⟨bY, bYo, bYe⟩ := h.row_addr (ad := aY) (M := u32s (wds m)) (by simp) (by simp; intro e; simp [e] at hlt)
            subst bYe
            refine gC h (zr (zm rfl (zm rfl (zp (.indexAddr rfl rfl (ix_151 _ _ _ _ _ (by omega))) (zD rfl mm (by simp; omega) Tryz.isAgg54 Tryz.sizeOf54 (read_row 0 (by omega)) (.inr rfl) ?_))))); clear h; intro a w h
            refine gL h (za rfl (zn ?_)); clear h; intro a w h
            exact h.sub sA
          · skip
            have hlt : (wds m).length ≤ i := by simpa using hc37
            refine wp_skip ?_
            rw [getD_ge hlt]
            exact h.sub sA
        · clear h
          intro a w h
          refine gC h (zr (zm rfl (zm rfl (zm rfl (zm rfl (zp (.indexAddr rfl rfl (ix_151 _ _ _ _ _ (by omega))) (zd rfl mm Tryz.isAgg54 Tryz.sizeOf54 ((read_row 0 (by rw [Nat.zero_add]; omega)).trans (by rw [Nat.zero_add])) ?_))))))); clear h; intro a w h
          refine gL h (zm rfl (zm rfl (zv [_, _, _] rfl Tryz.call171 (C_Sub32 _ _ _ (hZ.getD i) ((Wd.wds m).getD i) hc) (zm rfl (zp (.extract rfl (fun _ => rfl)) (zp (.extract rfl (fun _ => rfl)) (zp (.indexAddr rfl rfl (ix_151 _ _ _ _ _ (by omega))) (zt' rfl rfl ((set_row Z (0 + i) ((Z.getD i 0 + 8589934592 - (wds m).getD i 0 - c) % 4294967296)).trans (by rw [Nat.zero_add])) uu Tryz.sizeOf54 rfl (by simp; omega) rfl ?_)))))))); clear h; intro a w h
          refine gL h (za rfl (zn (zr (zp (.add rfl rfl) (zm rfl (zn ?_)))))); clear h; intro a w h
          refine ⟨i + 1, ⟨Z.set i ((Z.getD i 0 + 8589934592 - (wds m).getD i 0 - c) % 4294967296), (if Z.getD i 0 < (wds m).getD i 0 + c then 1 else 0), by simp; omega, by simpa using hZl, hZ.set _ _ (Nat.mod_lt _ (by decide)), by split <;> omega, sub_step hi' hT (sub_eq _ _ _ (hZ.getD i) ((Wd.wds m).getD i) hc), by rw [List.length_set]; exact h.sub sA⟩, by omega⟩
      · skip
        have hi' : i = Z.length := by simp at hc32; omega
        refine wp_exit (wp_seq (wp_region_lit ?_))
        replace h := h.shareAll hS (u32s Z) rfl
        refine gL h (zm rfl (zw [_] rfl Tryz.call128 (C_of _ _ Z hZ (Nat.le_refl _) (by omega)) (zt' rfl rfl (st_2_0_2 _ _ _ _) uu Tryz.sizeOf47 rfl nb rfl ?_))); clear h; intro a w h
        refine gL h (za rfl (zn (zt ?_))); clear h; intro a w h
        refine retV h (results2 h rfl (.cell rfl mr Tryz.isAgg47 Tryz.sizeOf47 (rd_2_0_2 _ _)) (.tmp rfl)) ?_
        rw [hi'] at hT
        have e : valW Z = n - m := by
          refine sub_end (N := Z.length) (c := c) hZ rfl hle ?_
          rw [List.drop_eq_nil_of_le] at hT
          · simpa [valW] using hT
          · refine Nat.le_of_not_lt fun hgt => ?_
            have := wds_len_lt (n := n) (m := m) (by omega)
            omega
        rw [e, decide_eq_true hle]
theorem C_Mul64 (x y : Nat) (hx : x < 18446744073709551616) (hy : y < 18446744073709551616) :
    CtrV Tryz.prog 127 [.int .u64 (x : Int), .int .u64 (y : Int)] (.tuple #[.int .u64 ((x * y / 18446744073709551616 : Nat) : Int), .int .u64 ((x * y % 18446744073709551616 : Nat) : Int)]) := by
  obtain ⟨ht, hw, hh⟩ := mul64_hi x y hx hy
  have b1 := mul32_lt (a := x / 4294967296) (b := y / 4294967296) (by omega) (by omega)
  have b2 := mul32_lt (a := x / 4294967296) (b := y % 4294967296) (by omega) (by omega)
  have b3 := mul32_lt (a := x % 4294967296) (b := y / 4294967296) (by omega) (by omega)
  have b4 := mul32_lt (a := x % 4294967296) (b := y % 4294967296) (by omega) (by omega)
  refine fn_intro Tryz.func127 rfl Tryz.ntmps127 nb ?_
  intro S w0 a hS h
  refine gC h (zs (zr (za rfl (za rfl (zn (zs (zr (zm rfl (zp (Pure1.cast (v' := .int .u64 (((x % 4294967296) : Nat) : Int)) (.binOp rfl rfl (fun _ => run_and rfl _ _ _ x 4294967295 hx (by decide))) (by rw [show (4294967295 : Nat) = 2 ^ 32 - 1 from rfl, Nat.and_two_pow_sub_one_eq_mod])) (za rfl (zn (zs (zr (zm rfl (zp (Pure1.cast (v' := .int .u64 (((x / 4294967296) : Nat) : Int)) (.binOp rfl rfl (fun _ => run_shr _ _ _ x 32 (by decide))) (by rfl)) (za rfl (zn (zs (zr (zm rfl (zp (Pure1.cast (v' := .int .u64 (((y % 4294967296) : Nat) : Int)) (.binOp rfl rfl (fun _ => run_and rfl _ _ _ y 4294967295 hy (by decide))) (by rw [show (4294967295 : Nat) = 2 ^ 32 - 1 from rfl, Nat.and_two_pow_sub_one_eq_mod])) (za rfl (zn (zs (zr (zm rfl (zp (Pure1.cast (v' := .int .u64 (((y / 4294967296) : Nat) : Int)) (.binOp rfl rfl (fun _ => run_shr _ _ _ y 32 (by decide))) (by rfl)) (za rfl (zn (zs (zr (zm rfl (zm rfl (zp (Pure1.cast (v' := .int .u64 (((x % 4294967296) * (y % 4294967296) : Nat) : Int)) (.binOp rfl rfl (fun _ => run_mul _ _ _ _ _)) (by rw [wrap_mul64 (by omega)])) (za rfl (zn (zs (zr (zm rfl (zm rfl (zp (Pure1.cast (v' := .int .u64 (((x / 4294967296) * (y % 4294967296) : Nat) : Int)) (.binOp rfl rfl (fun _ => run_mul _ _ _ _ _)) (by rw [wrap_mul64 (by omega)])) (zm rfl (zp (Pure1.cast (v' := .int .u64 (((x % 4294967296) * (y % 4294967296) / 4294967296 : Nat) : Int)) (.binOp rfl rfl (fun _ => run_shr _ _ _ _ 32 (by decide))) (by rfl)) (zp (Pure1.cast (v' := .int .u64 ((((x / 4294967296) * (y % 4294967296) + (x % 4294967296) * (y % 4294967296) / 4294967296) : Nat) : Int)) (.binOp rfl rfl (fun _ => run_add _ _ _ _ _)) (by rw [wrap_add64 ht])) (za rfl (zn (zs (zr (zm rfl (zp (Pure1.cast (v' := .int .u64 ((((x / 4294967296) * (y % 4294967296) + (x % 4294967296) * (y % 4294967296) / 4294967296) % 4294967296 : Nat) : Int)) (.binOp rfl rfl (fun _ => run_and rfl _ _ _ _ 4294967295 ht (by decide))) (by rw [show (4294967295 : Nat) = 2 ^ 32 - 1 from rfl, Nat.and_two_pow_sub_one_eq_mod])) (za rfl (zn (zs (zr (zm rfl (zp (Pure1.cast (v' := .int .u64 ((((x / 4294967296) * (y % 4294967296) + (x % 4294967296) * (y % 4294967296) / 4294967296) / 4294967296 : Nat) : Int)) (.binOp rfl rfl (fun _ => run_shr _ _ _ _ 32 (by decide))) (by rfl)) (za rfl (zn (zs (zr (zm rfl (zm rfl (zm rfl (zp (Pure1.cast (v' := .int .u64 (((x % 4294967296) * (y / 4294967296) : Nat) : Int)) (.binOp rfl rfl (fun _ => run_mul _ _ _ _ _)) (by rw [wrap_mul64 (by omega)])) (zp (Pure1.cast (v' := .int .u64 (((((x / 4294967296) * (y % 4294967296) + (x % 4294967296) * (y % 4294967296) / 4294967296) % 4294967296 + (x % 4294967296) * (y / 4294967296)) : Nat) : Int)) (.binOp rfl rfl (fun _ => run_add _ _ _ _ _)) (by rw [wrap_add64 hw])) (za rfl (zn (zs (zr (zm rfl (zm rfl (zp (Pure1.cast (v' := .int .u64 (((x / 4294967296) * (y / 4294967296) : Nat) : Int)) (.binOp rfl rfl (fun _ => run_mul _ _ _ _ _)) (by rw [wrap_mul64 (by omega)])) (zm rfl (zp (Pure1.cast (v' := .int .u64 (((x / 4294967296) * (y / 4294967296) + ((x / 4294967296) * (y % 4294967296) + (x % 4294967296) * (y % 4294967296) / 4294967296) / 4294967296 : Nat) : Int)) (.binOp rfl rfl (fun _ => run_add _ _ _ _ _)) (by rw [wrap_add64 (by omega)])) (zm rfl (zp (Pure1.cast (v' := .int .u64 (((((x / 4294967296) * (y % 4294967296) + (x % 4294967296) * (y % 4294967296) / 4294967296) % 4294967296 + (x % 4294967296) * (y / 4294967296)) / 4294967296 : Nat) : Int)) (.binOp rfl rfl (fun _ => run_shr _ _ _ _ 32 (by decide))) (by rfl)) (zp (Pure1.cast (v' := .int .u64 ((x * y / 18446744073709551616 : Nat) : Int)) (.binOp rfl rfl (fun _ => run_add _ _ _ _ _)) (by rw [wrap_add64 (by rw [hh]; exact Nat.div_lt_of_lt_mul (Nat.mul_lt_mul'' hx hy)), hh])) (za rfl (zn (zs (zr (zm rfl (zm rfl (zp (Pure1.cast (v' := .int .u64 ((x * y % 18446744073709551616 : Nat) : Int)) (.binOp rfl rfl (fun _ => run_mul _ _ _ _ _)) (by rw [← Int.natCast_mul, wrap_u64_mod]; congr 1)) (za rfl (zn (zt ?_))))))))))))))))))))))))))))))))))))))))))))))))))))))))))))))))))))))))))))))))))))))); clear h; intro a w h
  refine retV h (results2 h rfl (.tmp rfl) (.tmp rfl)) ?_
  rfl
theorem C_Mul (n m : Nat) (hn : (wds n).length ≤ 500000000000) (hm : (wds m).length ≤ 500000000000) : CtrV Tryz.prog 85 [encN n, encN m] (encN (n * m)) := by
  refine fn_intro Tryz.func85 rfl Tryz.ntmps85 nb ?_
  intro S w0 a hS h
  refine gC h (zs (zr (zx rfl fun b2 => zx rfl fun b3 => zz Tryz.zeroValue47 fun b4 => zn ?_))); clear h; intro a w h
  change Code.wp _ _ _ _ _
  refine wp_join (fun a w => St 103 S w0 [(2, .pointer (some ⟨b2, 0, none⟩)), (3, .pointer (some ⟨b3, 0, none⟩)), (4, .pointer (some ⟨b4, 0, none⟩))] [(b4, .cells (encN 0).cells 47 (0, 0)), (b3, .cells (encN m).cells 47 (0, 0)), (b2, .cells (encN n).cells 47 (0, 0))] [] a w) ?_ ?_
  · skip
    refine gC h (zs (zr (zp (.fieldAddr rfl (fa_47_1 _ _)) (zd rfl mr Tryz.isAgg9 Tryz.sizeOf9 (rs_2_1 _ _) ?_)))); clear h; intro a w h
    refine gL h (zp (.binOp rfl rfl (fun _ => run_seql _ _ _ _ _)) (zm rfl ?_)); clear h; intro a w h
    refine by_bool h (fun hc18 h => ?_) (fun hc18 h => ?_)
    · skip
      have ha : n < 18446744073709551616 := bigN_empty.1 (by simpa using hc18)
      refine gL h (zq 18 rfl rfl (.fieldAddr rfl (fa_47_1 _ _)) ?_); clear h; intro a w h
      refine wpl_guard 18 h rfl rfl (op_load h rfl mr Tryz.isAgg9 Tryz.sizeOf9 (rs_2_1 _ _) (by decide) ?_); clear h; intro a h
      refine gL h (zq 18 rfl rfl (.binOp rfl rfl (fun _ => run_seql _ _ _ _ _)) ?_); clear h; intro a w h
      refine by_bool h (fun hc21 h => ?_) (fun hc21 h => ?_)
      · skip
        have hb : m < 18446744073709551616 := bigN_empty.1 (by simpa using hc21)
        refine gL h (zp (.pickT rfl rfl) (zn ?_)); clear h; intro a w h
        change Code.wp _ _ _ _ _
        refine cond_true h rfl ?_
        refine gC h (zs (zr (zp (.fieldAddr rfl (fa_47_0 _ _)) (zd rfl mr Tryz.isAgg45 Tryz.sizeOf45 (rs_2_0 _ _) ?_)))); clear h; intro a w h
        rw [lowN_small ha] at h
        refine gL h (zp (.fieldAddr rfl (fa_47_0 _ _)) (zd rfl mr Tryz.isAgg45 Tryz.sizeOf45 (rs_2_0 _ _) ?_)); clear h; intro a w h
        rw [lowN_small hb] at h
        refine gL h (zv [_, _] rfl Tryz.call127 (C_Mul64 n m ha hb) (zm rfl (zp (.extract rfl (fun _ => rfl)) (zp (.extract rfl (fun _ => rfl)) (za rfl (za rfl (zn (zs (zr (zm rfl (zp (Pure1.cast (v' := .int .u32 ((n * m % 18446744073709551616 % 4294967296 : Nat) : Int)) (.convert rfl (cv_45_54 _)) (by rw [wrap_u32_mod]; congr 1)) (zm rfl (zp (.binOp rfl rfl (fun _ => run_shr _ _ _ _ 32 (by decide))) (zp (Pure1.cast (v' := .int .u32 ((n * m % 18446744073709551616 / 4294967296 : Nat) : Int)) (.convert rfl (cv_45_54 _)) (by rw [wrap_u32_mod]; congr 1; omega)) (zm rfl (zp (Pure1.cast (v' := .int .u32 ((n * m / 18446744073709551616 % 4294967296 : Nat) : Int)) (.convert rfl (cv_45_54 _)) (by rw [wrap_u32_mod]; congr 1)) (zm rfl (zp (.binOp rfl rfl (fun _ => run_shr _ _ _ _ 32 (by decide))) (zp (Pure1.cast (v' := .int .u32 ((n * m / 18446744073709551616 / 4294967296 : Nat) : Int)) (.convert rfl (cv_45_54 _)) (by have hh := Nat.div_lt_of_lt_mul (Nat.mul_lt_mul'' ha hb); rw [wrap_u32_mod]; congr 1; omega)) (zB [(_, _), (_, _), (_, _), (_, _)] rfl (bs_151_4_0_1_2_3 _ _ _ _) fun b41 => ?_)))))))))))))))))))); clear h; intro a w h
        replace h := h.shareAll hS (u32s [n * m % 18446744073709551616 % 4294967296, n * m % 18446744073709551616 / 4294967296, n * m / 18446744073709551616 % 4294967296, n * m / 18446744073709551616 / 4294967296]) rfl
        refine gL h (zw [_] rfl Tryz.call128 (C_of _ _ [n * m % 18446744073709551616 % 4294967296, n * m % 18446744073709551616 / 4294967296, n * m / 18446744073709551616 % 4294967296, n * m / 18446744073709551616 / 4294967296] (by intro x hx; have hh := Nat.div_lt_of_lt_mul (Nat.mul_lt_mul'' ha hb); simp at hx; omega) (by simp) (by simp)) (zt' rfl rfl (st_2_0_2 _ _ _ _) uu Tryz.sizeOf47 rfl nb rfl ?_)); clear h; intro a w h
        refine wpList_nil (wp_ret ?_)
        refine retV h (results1 h rfl (.cell rfl mr Tryz.isAgg47 Tryz.sizeOf47 (rd_2_0_2 _ _))) ?_
        have e : valW [n * m % 18446744073709551616 % 4294967296, n * m % 18446744073709551616 / 4294967296, n * m / 18446744073709551616 % 4294967296, n * m / 18446744073709551616 / 4294967296] = n * m := by simp only [valW]; omega
        rw [e]
      · skip
        have hb : ¬ m < 18446744073709551616 := fun hn => by have := bigN_empty.2 hn; simp [this] at hc21
        refine gL h (zp (.pickT rfl rfl) (zn ?_)); clear h; intro a w h
        change Code.wp _ _ _ _ _
        refine cond_false h rfl ?_
        refine wp_skip ?_
        exact h.sub sA
    · skip
      have ha : ¬ n < 18446744073709551616 := fun hn => by have := bigN_empty.2 hn; simp [this] at hc18
      refine gL h (zo 18 rfl rfl rfl (zo 18 rfl rfl rfl (zo 18 rfl rfl rfl (zp (.pickF rfl rfl) (zn ?_))))); clear h; intro a w h
      change Code.wp _ _ _ _ _
      refine cond_false h rfl ?_
      refine wp_skip ?_
      exact h.sub sA
  · clear h
    intro a w h
    refine gC h (zs (yD mixed_YtgkicbaomcmfoaaGreatDoor [0, 2, 1, 3, 4, 5] (floatsOK_none (by kernel_rfl)) (yd rfl rfl mr Tryz.isAgg47 Tryz.sizeOf47 (rd_2_0_2 _ _) ?_))); clear h
    refine yd rfl rfl mr Tryz.isAgg47 Tryz.sizeOf47 (rd_2_0_2 _ _) ?_
    refine yf [_] rfl rfl Tryz.call92 (C_words n (by omega)) ?_; rintro v44 Ψ44 ⟨aX, cX, rfl, hcX, rfl⟩
    refine yf [_] rfl rfl Tryz.call92 (C_words m (by omega)) ?_; rintro v46 Ψ46 ⟨aY, cY, rfl, hcY, rfl⟩
    refine yp rfl (.assign rfl) (yp rfl (.assign rfl) (yn (zs (zr (zm rfl (zp (.builtin [_] rfl (len_slice_151 _ _ _)) (zm rfl (zp (.builtin [_] rfl (len_slice_151 _ _ _)) (zp (Pure1.cast (v' := .int .i64 (((wds n).length + (wds m).length : Nat) : Int)) (.add rfl rfl) (by show Value.int _ _ = Value.int _ _; congr 1)) ?_))))))))); intro a w h
    refine wpl_plain (op_makeSlice h rfl rfl Tryz.runUnderlying151 Tryz.typeInfo54 Tryz.sizeOf54 Tryz.zeroValue54 rfl (by decide) (by exact Nat.le_refl _) (by show 4 * _ ≤ _; omega) (by omega) (by decide) ?_); clear h; intro b52 a w h
    rw [show (Value.int .u32 0).cells.toList = [Value.int .u32 0] from rfl, reps_one, show List.replicate ((wds n).length + (wds m).length) (Value.int .u32 0) = u32s (List.replicate ((wds n).length + (wds m).length) 0) from by simp] at h
    refine gL h (za rfl (zn (zs (zs (zr (zm rfl (zp (.builtin [_] rfl (len_slice_151 _ _ _)) (zm rfl (zn (zb ?_)))))))))); clear h; intro a w h
    refine wp_loop_inv (fun (i : Nat) a w => i ≤ (wds n).length ∧ ∃ Z, Z.length = (wds n).length + (wds m).length ∧ Wd Z ∧ valW Z = valW ((wds n).take i) * valW (wds m) ∧ St 103 S w0 [(4, .pointer (some ⟨b4, 0, none⟩)), (8, .slice aY (wds m).length cY), (9, .slice (some ⟨b52, 0, none⟩) Z.length Z.length), (53, .slice aX (wds n).length cX), (54, .int .i64 ((wds n).length : Int)), (55, .int .i64 (i : Int))] [(b52, .cells (u32s Z).toArray 54 (0, 0)), (b4, .cells (encN 0).cells 47 (0, 0))] [Row aX (u32s (wds n)), Row aY (u32s (wds m))] a w) (fun i => (wds n).length - i) (0) (⟨Nat.zero_le _, List.replicate ((wds n).length + (wds m).length) 0, by simp, Wd.zeros _, by rw [valW_zeros _ (fun x hx => List.eq_of_mem_replicate hx)]; simp [valW], by rw [List.length_replicate]; exact ((h.drop (List.Sublist.cons_cons _ (List.Sublist.cons_cons _ (List.nil_sublist _)))).factsSub (by simp)).sub (subL ⟨rfl, rfl, rfl, rfl, rfl, rfl, trivial⟩)⟩) ?_; clear h
    rintro i a w ⟨hi, Z, hZl, hZ, hV, h⟩
    refine gC h (zs (zr (zp (.lss rfl rfl) (zn (zs ?_))))); clear h; intro a w h
    refine cond_split h rfl (fun hc56 => ?_) (fun hc56 => ?_)
    · skip
      have hi' : i < (wds n).length := by simpa using hc56
      have hlt := hi'
      obtain ⟨bX, bXo, bXe⟩ := h.row_addr (ad := aX) (M := u32s (wds n)) (by simp) (by simp; intro e; simp [e] at hlt)
      subst bXe
      refine gC h (zk (zs (zb (zs (zr (zm rfl (zp (.indexAddr rfl rfl (ix_151 _ _ _ _ _ (by omega))) (zD rfl mm (by simp; omega) Tryz.isAgg54 Tryz.sizeOf54 (read_row 0 (by omega)) (.inr rfl) ?_)))))))); clear h; intro a w h
      refine gL h (za rfl (za rfl (zn (zs (zr (za rfl (zn (zs (zs (zr (zm rfl (zp (.builtin [_] rfl (len_slice_151 _ _ _)) (zm rfl (zn (zb ?_))))))))))))))); clear h; intro a w h
      refine wp_loop_inv (fun (k : Nat) a w => k ≤ (wds m).length ∧ ∃ Z c, Z.length = (wds n).length + (wds m).length ∧ Wd Z ∧ c < 4294967296 ∧ Z.getD (i + (wds m).length) 0 = 0 ∧ valW Z + 4294967296 ^ (i + k) * c + 4294967296 ^ (i + k) * ((wds n).getD i 0 * valW ((wds m).drop k)) = valW ((wds n).take i) * valW (wds m) + 4294967296 ^ i * ((wds n).getD i 0 * valW (wds m)) ∧ St 103 S w0 [(4, .pointer (some ⟨b4, 0, none⟩)), (8, .slice aY (wds m).length cY), (9, .slice (some ⟨b52, 0, none⟩) Z.length Z.length), (53, .slice (some ⟨bX, bXo, none⟩) (wds n).length cX), (54, .int .i64 ((wds n).length : Int)), (55, .int .i64 (i : Int)), (10, .int .i64 (i : Int)), (11, .int .u32 ((wds n).getD i 0 : Int)), (12, .int .u64 (c : Int)), (60, .slice aY (wds m).length cY), (61, .int .i64 ((wds m).length : Int)), (62, .int .i64 (k : Int))] [(b52, .cells (u32s Z).toArray 54 (0, 0)), (b4, .cells (encN 0).cells 47 (0, 0))] [Row (some ⟨bX, bXo, none⟩) (u32s (wds n)), Row aY (u32s (wds m))] a w) (fun k => (wds m).length - k) (0) (⟨Nat.zero_le _, Z, 0, hZl, hZ, by decide, mul_zero_above (Wd.wds n) (Wd.wds m) hV (Nat.le_refl _), by simp [hV], h.sub (subL ⟨rfl, rfl, rfl, rfl, rfl, rfl, rfl, rfl, rfl, rfl, rfl, rfl, trivial⟩)⟩) ?_; clear h
      clear hZ hV hZl
      rintro k a w ⟨hk, Z, c, hZl, hZ, hc, h0, hT, h⟩
      refine gC h (zs (zr (zp (.lss rfl rfl) (zn (zs ?_))))); clear h; intro a w h
      refine cond_split h rfl (fun hc63 => ?_) (fun hc63 => ?_)
      · skip
        have hk' : k < (wds m).length := by simpa using hc63
        have hlt := hk'
        obtain ⟨bY, bYo, bYe⟩ := h.row_addr (ad := aY) (M := u32s (wds m)) (by simp) (by simp; intro e; simp [e] at hlt)
        subst bYe
        have hb := word_mul_lt ((Wd.wds n).getD i) ((Wd.wds m).getD k) hc (hZ.getD (i + k))
        have hxi := (Wd.wds n).getD i
        have hyk := (Wd.wds m).getD k
        have hzk := hZ.getD (i + k)
        refine gC h (zk (zs (zb (zs (zr (zm rfl (zp (.indexAddr rfl rfl (ix_151 _ _ _ _ _ (by omega))) (zD rfl mm (by simp; omega) Tryz.isAgg54 Tryz.sizeOf54 (read_row 0 (by omega)) (.inr rfl) ?_)))))))); clear h; intro a w h
        refine gL h (za rfl (za rfl (zn (zs (zr (zm rfl (zm rfl (zp (.convert rfl (cv_54_45b _ (wrap_u64 _ (by omega) (by omega)))) (zm rfl (zp (.convert rfl (cv_54_45b _ (wrap_u64 _ (by omega) (by omega)))) (zp (Pure1.cast (v' := .int .u64 (((wds n).getD i 0 * (wds m).getD k 0 : Nat) : Int)) (.binOp rfl rfl (fun _ => run_mul _ _ _ _ _)) (by rw [wrap_mul64 (by omega)])) (zm rfl (zm rfl (zm rfl (zp (Pure1.cast (v' := .int .i64 ((i + k : Nat) : Int)) (.add rfl rfl) (by show Value.int _ _ = Value.int _ _; congr 1)) (zp (.indexAddr rfl rfl (ix_151 _ _ _ _ _ (by omega))) (zd rfl mm Tryz.isAgg54 Tryz.sizeOf54 ((read_row 0 (by rw [Nat.zero_add]; omega)).trans (by rw [Nat.zero_add])) ?_))))))))))))))))); clear h; intro a w h
        refine gL h (zp (.convert rfl (cv_54_45b _ (wrap_u64 _ (by omega) (by omega)))) (zp (Pure1.cast (v' := .int .u64 (((wds n).getD i 0 * (wds m).getD k 0 + Z.getD (i + k) 0 : Nat) : Int)) (.binOp rfl rfl (fun _ => run_add _ _ _ _ _)) (by rw [wrap_add64 (by omega)])) (zp (Pure1.cast (v' := .int .u64 (((c + ((wds n).getD i 0 * (wds m).getD k 0 + Z.getD (i + k) 0)) : Nat) : Int)) (.binOp rfl rfl (fun _ => run_add _ _ _ _ _)) (by rw [wrap_add64 hb])) (za rfl (zn (zs (zr (zm rfl (zm rfl (zm rfl (zp (Pure1.cast (v' := .int .i64 ((i + k : Nat) : Int)) (.add rfl rfl) (by show Value.int _ _ = Value.int _ _; congr 1)) (zm rfl (zp (Pure1.cast (v' := .int .u32 (((c + ((wds n).getD i 0 * (wds m).getD k 0 + Z.getD (i + k) 0)) % 4294967296 : Nat) : Int)) (.convert rfl (cv_45_54 _)) (by rw [wrap_u32_mod]; congr 1)) (zp (.indexAddr rfl rfl (ix_151 _ _ _ _ _ (by omega))) (zt' rfl rfl ((set_row Z (0 + (i + k)) ((c + ((wds n).getD i 0 * (wds m).getD k 0 + Z.getD (i + k) 0)) % 4294967296)).trans (by rw [Nat.zero_add])) uu Tryz.sizeOf54 rfl (by simp; omega) rfl ?_))))))))))))))); clear h; intro a w h
        refine gL h (zn (zr (zm rfl (zp (Pure1.cast (v' := .int .u64 (((c + ((wds n).getD i 0 * (wds m).getD k 0 + Z.getD (i + k) 0)) / 4294967296 : Nat) : Int)) (.binOp rfl rfl (fun _ => run_shr _ _ _ _ 32 (by decide))) (by rfl)) (za rfl (zn (zr (zp (.add rfl rfl) (zm rfl (zn ?_)))))))))); clear h; intro a w h
        exact ⟨k + 1, ⟨by omega, Z.set (i + k) ((c + ((wds n).getD i 0 * (wds m).getD k 0 + Z.getD (i + k) 0)) % 4294967296), _, by simpa using hZl, hZ.set _ _ (Nat.mod_lt _ (by decide)), Nat.div_lt_of_lt_mul hb, by rw [getD_setw (by omega)]; exact h0, mul_step (by omega) hT, by rw [List.length_set]; exact h.sub (subL ⟨rfl, rfl, rfl, rfl, rfl, rfl, rfl, rfl, rfl, rfl, rfl, rfl, trivial⟩)⟩, by omega⟩
      · skip
        have hk' : k = (wds m).length := by simp at hc63; omega
        subst hk'
        refine gC h (ze (zr (zm rfl (zm rfl (zm rfl (zp (.builtin [_] rfl (len_slice_151 _ _ _)) (zp (Pure1.cast (v' := .int .i64 ((i + (wds m).length : Nat) : Int)) (.add rfl rfl) (by show Value.int _ _ = Value.int _ _; congr 1)) (zm rfl (zp (Pure1.cast (v' := .int .u32 (c : Int)) (.convert rfl (cv_45_54 _)) (by rw [wrap_u32 _ (by omega) (by omega)])) (zp (.indexAddr rfl rfl (ix_151 _ _ _ _ _ (by omega))) (zt' rfl rfl ((set_row Z (0 + (i + (wds m).length)) c).trans (by rw [Nat.zero_add])) uu Tryz.sizeOf54 rfl (by simp; omega) rfl ?_))))))))))); clear h; intro a w h
        refine gL h (zn (zr (zp (.add rfl rfl) (zm rfl (zn ?_))))); clear h; intro a w h
        exact ⟨i + 1, ⟨by omega, Z.set (i + (wds m).length) c, by simpa using hZl, hZ.set _ _ hc, mul_row_end hi' (by omega) h0 hT, by rw [List.length_set]; exact h.sub sA⟩, by omega⟩
    · skip
      have hi' : i = (wds n).length := by simp at hc56; omega
      refine wp_exit (wp_seq (wp_region_lit ?_))
      replace h := h.shareAll hS (u32s Z) rfl
      refine gL h (zm rfl (zw [_] rfl Tryz.call128 (C_of _ _ Z hZ (Nat.le_refl _) (by omega)) (zt' rfl rfl (st_2_0_2 _ _ _ _) uu Tryz.sizeOf47 rfl nb rfl ?_))); clear h; intro a w h
      refine wpList_nil (wp_ret ?_)
      refine retV h (results1 h rfl (.cell rfl mr Tryz.isAgg47 Tryz.sizeOf47 (rd_2_0_2 _ _))) ?_
      rw [hi', List.take_length, valW_wds, valW_wds] at hV
      rw [hV]
end
section
theorem C_Div32 (hi lo y : Nat) (hlo : lo < 4294967296) (hy : y < 4294967296) (h0 : hi < y) :
    CtrV Tryz.prog 135 [.int .u32 (hi : Int), .int .u32 (lo : Int), .int .u32 (y : Int)] (.tuple #[.int .u32 (((hi * 4294967296 + lo) / y : Nat) : Int), .int .u32 (((hi * 4294967296 + lo) % y : Nat) : Int)]) := by
  have hq : (hi * 4294967296 + lo) / y < 4294967296 := short_digit h0 hlo
  have hr : (hi * 4294967296 + lo) % y < y := Nat.mod_lt _ (by omega)
  refine fn_intro Tryz.func135 rfl Tryz.ntmps135 nb ?_
  intro S w0 a hS h
  refine gC h (zs (zr (za rfl (za rfl (zn (zs (zs (zr (zm rfl (zp (.neq rfl rfl) (zm rfl ?_))))))))))); clear h; intro a w h
  refine by_bool h (fun hc11 h => ?_) (fun hc11 h => (by exfalso; have := natEq (b := 0) hc11; omega))
  refine gL h (zq 11 rfl rfl (.move rfl) (zq 11 rfl rfl (.move rfl) (zq 11 rfl rfl (.leq rfl rfl) ?_))); clear h; intro a w h
  refine by_bool h (fun hc14 h => (by exfalso; have := of_decide_eq_true hc14; omega)) (fun hc14 h => ?_)
  refine gL h (zp (.pickT rfl rfl) (zn ?_)); clear h; intro a w h
  change Code.wp _ _ _ _ _
  refine cond_false h rfl ?_
  refine gC h (zk (zs (zr (zm rfl (zp (.convert rfl (cv_54_45b _ (wrap_u64 _ (by omega) (by omega)))) (zp (Pure1.cast (v' := .int .u64 ((hi * 4294967296 : Nat) : Int)) (.binOp rfl rfl (fun _ => run_shl _ _ _ hi 32 (by decide))) (by rw [wrap_u64 _ (by omega) (by omega)])) (zm rfl (zp (.convert rfl (cv_54_45b _ (wrap_u64 _ (by omega) (by omega)))) (zp (Pure1.cast (v' := .int .u64 ((hi * 4294967296 + lo : Nat) : Int)) (.binOp rfl rfl (fun _ => run_or rfl _ _ _ (hi * 4294967296) lo (by show _ < 18446744073709551616; omega) (by show _ < 18446744073709551616; omega))) (by have e := Nat.shiftLeft_add_eq_or_of_lt (show lo < 2 ^ 32 by omega) hi; rw [Nat.shiftLeft_eq] at e; rw [show hi * 4294967296 = hi * 2 ^ 32 from rfl, ← e])) (za rfl (zn (zs (yD mixed_YtgkicbaomcmfoaaGreatDoor [0, 1, 2, 3, 4, 5, 6, 7, 8, 9, 10, 11] (floatsOK_none (by kernel_rfl)) (yp rfl (.move rfl) (yp rfl (.move rfl) (yp rfl (.convert rfl (cv_54_45b _ (wrap_u64 _ (by omega) (by omega)))) (yp rfl (Pure1.cast (v' := .int .u64 (((hi * 4294967296 + lo) / y : Nat) : Int)) (.binOp rfl rfl (fun _ => run_quo _ _ _ _ _ (by omega))) (by rw [tdiv_nat, wrap_u64n (Nat.lt_of_lt_of_le hq (by decide))])) (yp rfl (Pure1.cast (v' := .int .u32 (((hi * 4294967296 + lo) / y : Nat) : Int)) (.convert rfl (cv_45_54 _)) (by rw [wrap_u32n hq])) (yp rfl (.move rfl) (yp rfl (.move rfl) (yp rfl (.convert rfl (cv_54_45b _ (wrap_u64 _ (by omega) (by omega)))) (yp rfl (Pure1.cast (v' := .int .u64 (((hi * 4294967296 + lo) % y : Nat) : Int)) (.binOp rfl rfl (fun _ => run_rem _ _ _ _ _ (by omega))) (by rw [tmod_nat])) (yp rfl (Pure1.cast (v' := .int .u32 (((hi * 4294967296 + lo) % y : Nat) : Int)) (.convert rfl (cv_45_54 _)) (by rw [wrap_u32n (Nat.lt_trans hr hy)])) (yp rfl (.assign rfl) (yp rfl (.assign rfl) (yn (zt ?_))))))))))))))))))))))))))); clear h; intro a w h
  refine retV h (results2 h rfl (.tmp rfl) (.tmp rfl)) ?_
  rfl
theorem C_short (ad : Option Addr) (cp : Nat) (X : List Nat) (y : Nat) (hX : Wd X) (hl : X.length ≤ 1099511627776) (hy0 : 0 < y) (hy : y < 4294967296) :
    CtrO Tryz.prog 93 [.slice ad X.length cp, .int .u32 (y : Int)] [Row ad (u32s X)] (fun v σn => ∃ b Q, v = .tuple #[.slice (some ⟨b, 0, none⟩) Q.length Q.length, .int .u32 ((valW X % y : Nat) : Int)] ∧ Wd Q ∧ Q.length = X.length ∧ valW Q = valW X / y ∧ σn = [(b, .cells (u32s Q).toArray 54 (0, 0))]) := by
  refine fn_introO Tryz.func93 rfl Tryz.ntmps93 nb ?_
  intro S w0 a hS h
  refine gC h (zs (zr (za rfl (za rfl (zn (zs (zr (zm rfl (zp (.builtin [_] rfl (len_slice_151 _ _ _)) ?_))))))))); clear h; intro a w h
  refine wpl_plain (op_makeSlice h rfl rfl Tryz.runUnderlying151 Tryz.typeInfo54 Tryz.sizeOf54 Tryz.zeroValue54 rfl (by decide) (by exact Nat.le_refl _) (by show 4 * _ ≤ _; omega) (by omega) (by decide) ?_); clear h; intro b9 a w h
  rw [show (Value.int .u32 0).cells.toList = [Value.int .u32 0] from rfl, reps_one, show List.replicate X.length (Value.int .u32 0) = u32s (List.replicate X.length 0) from by simp] at h
  refine gL h (za rfl (zn (zs (zs (zr (zm rfl (zp (.builtin [_] rfl (len_slice_151 _ _ _)) (zp (.sub rfl rfl) (za rfl (zn (zb ?_))))))))))); clear h; intro a w h
  refine wp_loop_inv (fun (k : Nat) a w => ∃ Q r, k ≤ X.length ∧ Q.length = X.length ∧ Wd Q ∧ r < y ∧ valW (X.drop k) = valW (Q.drop k) * y + r ∧ St 32 S w0 [(0, .slice ad X.length cp), (1, .int .u32 (y : Int)), (4, .slice (some ⟨b9, 0, none⟩) X.length X.length), (5, .int .u32 (r : Int)), (6, .int .i64 ((k : Int) - 1))] [(b9, .cells (u32s Q).toArray 54 (0, 0))] [Row ad (u32s X)] a w) (fun k => k) (X.length) (⟨List.replicate X.length 0, 0, Nat.le_refl _, by simp, Wd.zeros _, hy0, by simp [valW], h.sub (subL ⟨rfl, rfl, rfl, rfl, rfl, trivial⟩)⟩) ?_; clear h
  rintro k a w ⟨Q, r, hkX, hQ, hQw, hr, hT, h⟩
  refine gC h (zs (zs (zr (zm rfl (zp (.geq rfl rfl) (zn ?_)))))); clear h; intro a w h
  change Code.wp _ _ _ _ _
  refine cond_split h rfl (fun hc14 => ?_) (fun hc14 => ?_)
  · skip
    have hk : 0 < k := by simp at hc14; omega
    have hlt : 0 < X.length := by omega
    obtain ⟨bX, bXo, bXe⟩ := h.row_addr (ad := ad) (M := u32s X) (by simp) (by simp; intro e; simp [e] at hlt)
    subst bXe
    refine gC h (zk (zs (zb (zr (zm rfl (zp (Pure1.cast (v' := .int .i64 ((k - 1 : Nat) : Int)) (.move rfl) (by show Value.int _ _ = Value.int _ _; congr 1; omega)) (zm rfl (zm rfl (zp (Pure1.cast (v' := .int .i64 ((k - 1 : Nat) : Int)) (.move rfl) (by show Value.int _ _ = Value.int _ _; congr 1; omega)) (zp (.indexAddr rfl rfl (ix_151 _ _ _ _ _ (by omega))) (zD rfl mm (by simp; omega) Tryz.isAgg54 Tryz.sizeOf54 (read_row 0 (by omega)) (.inr rfl) ?_))))))))))); clear h; intro a w h
    refine gL h (zm rfl (zv [_, _, _] rfl Tryz.call135 (C_Div32 r (X.getD (k - 1) 0) y (hX.getD _) hy hr) (zm rfl (zp (.extract rfl (fun _ => rfl)) (zp (.extract rfl (fun _ => rfl)) (zp (.indexAddr rfl rfl (ix_151 _ _ _ _ _ (by omega))) (zt' rfl rfl ((set_row Q (0 + (k - 1)) ((r * 4294967296 + X.getD (k - 1) 0) / y)).trans (by rw [Nat.zero_add])) uu Tryz.sizeOf54 rfl (by simp; omega) rfl ?_))))))); clear h; intro a w h
    refine gL h (za rfl (zn (zr (zm rfl (zp (Pure1.cast (v' := .int .i64 (((k - 1 : Nat) : Int) - 1)) (.sub rfl rfl) (by show Value.int _ _ = Value.int _ _; congr 1; omega)) (za rfl (zn ?_))))))); clear h; intro a w h
    exact ⟨k - 1, ⟨Q.set (k - 1) ((r * 4294967296 + X.getD (k - 1) 0) / y), _, by omega, by simpa using hQ, hQw.set _ _ (short_digit hr (hX.getD _)), Nat.mod_lt _ hy0, short_step hk hkX hQ hT, h.sub (subL ⟨rfl, rfl, rfl, rfl, rfl, trivial⟩)⟩, by omega⟩
  · skip
    have hk : k = 0 := by simp at hc14; omega
    refine gC h (ze (zs (zr (zm rfl (zm rfl (za rfl (za rfl (zn (zt ?_))))))))); clear h; intro a w h
    subst hk
    simp only [List.drop_zero] at hT
    rw [← hQ] at h
    refine retO h (results2 h rfl (.tmp rfl) (.tmp rfl)) ⟨b9, Q, ?_, hQw, hQ, ?_, rfl⟩ (List.Sublist.refl _)
    · rw [hT, Nat.mul_comm, Nat.mul_add_mod, Nat.mod_eq_of_lt hr]
    · rw [hT, Nat.mul_comm, Nat.mul_add_div hy0, Nat.div_eq_of_lt hr, Nat.add_zero]
theorem C_shifted (ad : Option Addr) (cp : Nat) (X : List Nat) (s : Nat) (hX : Wd X) (hl : X.length ≤ 1000000000000) (hs : s < 32) :
    CtrO Tryz.prog 210 [.slice ad X.length cp, .int .i64 (s : Int)] [Row ad (u32s X)] (fun v σn => ∃ b Z, v = .slice (some ⟨b, 0, none⟩) Z.length Z.length ∧ Wd Z ∧ Z.length = X.length + 1 ∧ valW Z = valW X * 2 ^ s ∧ σn = [(b, .cells (u32s Z).toArray 54 (0, 0))]) := by
  refine fn_introO Tryz.func210 rfl Tryz.ntmps210 nb ?_
  intro S w0 a hS h
  refine gC h (zs (zr (za rfl (zn (zs (zr (zm rfl (zp (.builtin [_] rfl (len_slice_151 _ _ _)) (zp (Pure1.cast (v' := .int .i64 ((X.length + 1 : Nat) : Int)) (.add rfl rfl) (by show Value.int _ _ = Value.int _ _; congr 1)) ?_))))))))); clear h; intro a w h
  refine wpl_plain (op_makeSlice h rfl rfl Tryz.runUnderlying151 Tryz.typeInfo54 Tryz.sizeOf54 Tryz.zeroValue54 rfl (by decide) (by exact Nat.le_refl _) (by show 4 * _ ≤ _; omega) (by omega) (by decide) ?_); clear h; intro b12 a w h
  rw [show (Value.int .u32 0).cells.toList = [Value.int .u32 0] from rfl, reps_one, show List.replicate (X.length + 1) (Value.int .u32 0) = u32s (List.replicate (X.length + 1) 0) from by simp] at h
  refine gL h (za rfl (zn (zs (zr (za rfl (zn (zs (zs (zr (zm rfl (zp (.builtin [_] rfl (len_slice_151 _ _ _)) (zm rfl (zn (zb ?_)))))))))))))); clear h; intro a w h
  refine wp_loop_inv (fun (i : Nat) a w => ∃ Z c, i ≤ X.length ∧ Z.length = X.length + 1 ∧ Wd Z ∧ c < 2 ^ s ∧ (∀ j, i ≤ j → Z.getD j 0 = 0) ∧ valW Z + 4294967296 ^ i * c = valW (X.take i) * 2 ^ s ∧ St 41 S w0 [(0, .slice ad X.length cp), (1, .int .i64 (s : Int)), (5, .slice (some ⟨b12, 0, none⟩) (X.length + 1) (X.length + 1)), (6, .int .u32 (c : Int)), (13, .slice ad X.length cp), (14, .int .i64 (X.length : Int)), (15, .int .i64 (i : Int))] [(b12, .cells (u32s Z).toArray 54 (0, 0))] [Row ad (u32s X)] a w) (fun i => X.length - i) (0) (⟨List.replicate (X.length + 1) 0, 0, Nat.zero_le _, by simp, Wd.zeros _, Nat.pow_pos (by omega), fun j _ => by simp [List.getD, List.getElem?_replicate]; split <;> rfl, by rw [valW_zeros _ (fun x hx => List.eq_of_mem_replicate hx)]; simp [valW], h.sub (subL ⟨rfl, rfl, rfl, rfl, rfl, rfl, rfl, trivial⟩)⟩) ?_; clear h
  rintro i a w ⟨Z, c, hi, hZl, hZ, hc, hz, hT, h⟩
  refine gC h (zs (zr (zp (.lss rfl rfl) (zn (zs ?_))))); clear h; intro a w h
  refine cond_split h rfl (fun hc16 => ?_) (fun hc16 => ?_)
  · skip
    have hi' : i < X.length := by simpa using hc16
    have hlt := hi'
    obtain ⟨bX, bXo, bXe⟩ := h.row_addr (ad := ad) (M := u32s X) (by simp) (by simp; intro e; simp [e] at hlt)
    subst bXe
    have hx := hX.getD i
    have h2 := shl_or_lt (X.getD i 0) s c hs hc
    have h3 := shl_carry (X.getD i 0) s hs hx
    have h4 := pow_lt32 s hs
    have h5 : X.getD i 0 * 2 ^ s ≤ 4294967295 * 2147483648 := Nat.mul_le_mul (by omega) h4
    refine gC h (zk (zs (zb (zs (zr (zm rfl (zp (.indexAddr rfl rfl (ix_151 _ _ _ _ _ (by omega))) (zD rfl mm (by simp; omega) Tryz.isAgg54 Tryz.sizeOf54 (read_row 0 (by omega)) (.inr rfl) ?_)))))))); clear h; intro a w h
    refine gL h (za rfl (za rfl (zn (zs (zr (zm rfl (zm rfl (zm rfl (zm rfl (zp (Pure1.cast (v' := .int .u32 ((X.getD i 0 * 2 ^ s % 4294967296 : Nat) : Int)) (.binOp rfl rfl (fun _ => run_shl _ _ _ _ s (by show s ≤ 32; omega))) (by rw [wrap_u32_mod]; congr 1)) (zm rfl (zp (Pure1.cast (v' := .int .u32 ((X.getD i 0 * 2 ^ s % 4294967296 + c : Nat) : Int)) (.binOp rfl rfl (fun _ => run_or rfl _ _ _ _ c (by show _ < 4294967296; omega) (by show _ < 4294967296; omega))) (by rw [shl_or _ s c hs hc])) (zp (.indexAddr rfl rfl (ix_151 _ _ _ _ _ (by omega))) (zt' rfl rfl ((set_row Z (0 + i) (X.getD i 0 * 2 ^ s % 4294967296 + c)).trans (by rw [Nat.zero_add])) uu Tryz.sizeOf54 rfl (by simp; omega) rfl ?_)))))))))))))); clear h; intro a w h
    refine gL h (zn (zr (zm rfl (zp (.convert rfl (cv_54_45b _ (wrap_u64 _ (by omega) (by omega)))) (zm rfl (zp (Pure1.cast (v' := .int .u64 ((X.getD i 0 * 2 ^ s : Nat) : Int)) (.binOp rfl rfl (fun _ => run_shl _ _ _ _ s (by show s ≤ 64; omega))) (by rw [wrap_u64 _ (by omega) (by omega)])) (zp (.binOp rfl rfl (fun _ => run_shr _ _ _ _ 32 (by decide))) (zp (Pure1.cast (v' := .int .u32 ((X.getD i 0 * 2 ^ s / 4294967296 : Nat) : Int)) (.convert rfl (cv_45_54 _)) (by rw [wrap_u32 _ (by omega) (by omega)])) (za rfl (zn (zr (zp (.add rfl rfl) (zm rfl (zn ?_)))))))))))))); clear h; intro a w h
    exact ⟨i + 1, ⟨Z.set i (X.getD i 0 * 2 ^ s % 4294967296 + c), _, by omega, by simpa using hZl, hZ.set _ _ h2, h3, fun j hj => by rw [getD_setw (by omega)]; exact hz j (by omega), shift_step hi' hZl (hz i (Nat.le_refl _)) hT, h.sub (subL ⟨rfl, rfl, rfl, rfl, rfl, rfl, rfl, trivial⟩)⟩, by omega⟩
  · skip
    have hi' : i = X.length := by simp at hc16; omega
    refine gC h (ze (zs (zr (zm rfl (zm rfl (zp (.builtin [_] rfl (len_slice_151 _ _ _)) (zm rfl (zp (.indexAddr rfl rfl (ix_151 _ _ _ _ _ (by omega))) (zt' rfl rfl ((set_row Z (0 + X.length) c).trans (by rw [Nat.zero_add])) uu Tryz.sizeOf54 rfl (by simp; omega) rfl ?_))))))))); clear h; intro a w h
    refine gL h (zn (zs (zr (zm rfl (za rfl (zn (zt ?_))))))); clear h; intro a w h
    subst hi'
    have hp := pow_lt32 s hs
    rw [show X.length + 1 = (Z.set X.length c).length from by simp [hZl]] at h
    refine retO h (results1 h rfl (.tmp rfl)) ⟨b12, Z.set X.length c, rfl, hZ.set _ _ (by omega), by simpa using hZl, shift_end hZl (hz _ (Nat.le_refl _)) hT, rfl⟩ (List.Sublist.refl _)
end
section
theorem cv_54_5b (x : Int) (h0 : IntKind.u8.wrap x = x) (w : World) : (Go.convert 54 5 (.int .u32 x)).run Tryz.prog w = .ok (.int .u8 x) w := by
  rw [cv_54_5, h0]
theorem cv_5_3 (x : Int) (w : World) : (Go.convert 5 3 (.int .u8 x)).run Tryz.prog w = .ok (.int .i64 (IntKind.i64.wrap x)) w := by
  simp [go_sem]
theorem cv_5_3b (x : Int) (h0 : IntKind.i64.wrap x = x) (w : World) : (Go.convert 5 3 (.int .u8 x)).run Tryz.prog w = .ok (.int .i64 x) w := by
  rw [cv_5_3, h0]
theorem len8_tab : ∀ j, j < 256 → ((⟨#[0, 1, 2, 2, 3, 3, 3, 3, 4, 4, 4, 4, 4, 4, 4, 4, 5, 5, 5, 5, 5, 5, 5, 5, 5, 5, 5, 5, 5, 5, 5, 5, 6, 6, 6, 6, 6, 6, 6, 6, 6, 6, 6, 6, 6, 6, 6, 6, 6, 6, 6, 6, 6, 6, 6, 6, 6, 6, 6, 6, 6, 6, 6, 6, 7, 7, 7, 7, 7, 7, 7, 7, 7, 7, 7, 7, 7, 7, 7, 7, 7, 7, 7, 7, 7, 7, 7, 7, 7, 7, 7, 7, 7, 7, 7, 7, 7, 7, 7, 7, 7, 7, 7, 7, 7, 7, 7, 7, 7, 7, 7, 7, 7, 7, 7, 7, 7, 7, 7, 7, 7, 7, 7, 7, 7, 7, 7, 7, 8, 8, 8, 8, 8, 8, 8, 8, 8, 8, 8, 8, 8, 8, 8, 8, 8, 8, 8, 8, 8, 8, 8, 8, 8, 8, 8, 8, 8, 8, 8, 8, 8, 8, 8, 8, 8, 8, 8, 8, 8, 8, 8, 8, 8, 8, 8, 8, 8, 8, 8, 8, 8, 8, 8, 8, 8, 8, 8, 8, 8, 8, 8, 8, 8, 8, 8, 8, 8, 8, 8, 8, 8, 8, 8, 8, 8, 8, 8, 8, 8, 8, 8, 8, 8, 8, 8, 8, 8, 8, 8, 8, 8, 8, 8, 8, 8, 8, 8, 8, 8, 8, 8, 8, 8, 8, 8, 8, 8, 8, 8, 8, 8, 8, 8, 8, 8, 8, 8, 8, 8, 8, 8, 8, 8, 8, 8, 8]⟩ : ByteArray).data.toList.getD j 0).toNat = lenI j := by decide +kernel
theorem C_Len32 (x : Nat) (hx : x < 4294967296) : CtrV Tryz.prog 164 [.int .u32 (x : Int)] (.int .i64 (lenI x : Int)) := by
  refine fn_intro Tryz.func164 rfl Tryz.ntmps164 nb ?_
  intro S w0 a hS h
  refine gC h (zs (zr (za rfl (zn ?_)))); clear h; intro a w h
  change Code.wp _ _ _ _ _
  refine wp_join (fun a w => ∃ y m : Nat, y < 65536 ∧ m ≤ 16 ∧ m + lenI y = lenI x ∧ St 19 S w0 [(0, .int .u32 (y : Int)), (2, .int .i64 (m : Int))] [] [] a w) ?_ ?_
  · skip
    refine gC h (zs (zr (zm rfl (zp (.geq rfl rfl) (zn ?_))))); clear h; intro a w h
    change Code.wp _ _ _ _ _
    refine cond_split h rfl (fun hc4 => ?_) (fun hc4 => ?_)
    · skip
      have h4 : 65536 ≤ x := by have := of_decide_eq_true hc4; omega
      refine gC h (zs (zr (zm rfl (zp (.binOp rfl rfl (fun _ => run_shr _ _ _ x 16 (by decide))) (za rfl (zn (zr (za rfl (zn ?_))))))))); clear h; intro a w h
      exact ⟨x / 2 ^ 16, 16, by omega, by omega, by rw [Nat.add_comm]; exact lenI_shift (k := 16) (by omega), h.sub sA⟩
    · skip
      have h4 : x < 65536 := by have := of_decide_eq_false hc4; omega
      refine wp_skip ?_
      exact ⟨x, 0, h4, by omega, Nat.zero_add _, h.sub (subL ⟨rfl, rfl, trivial⟩)⟩
  · clear h
    rintro a w ⟨y, m, hy, hm, hl, h⟩
    refine wp_join (fun a w => ∃ y m : Nat, y < 256 ∧ m ≤ 24 ∧ m + lenI y = lenI x ∧ St 19 S w0 [(0, .int .u32 (y : Int)), (2, .int .i64 (m : Int))] [] [] a w) ?_ ?_
    · skip
      refine gC h (zs (zr (zm rfl (zp (.geq rfl rfl) (zn ?_))))); clear h; intro a w h
      change Code.wp _ _ _ _ _
      refine cond_split h rfl (fun hc8 => ?_) (fun hc8 => ?_)
      · skip
        have h7 : 256 ≤ y := by have := of_decide_eq_true hc8; omega
        refine gC h (zs (zr (zm rfl (zp (.binOp rfl rfl (fun _ => run_shr _ _ _ y 8 (by decide))) (za rfl (zn (zr (zm rfl (zp (Pure1.cast (v' := .int .i64 ((m + 8 : Nat) : Int)) (.add rfl rfl) (by show Value.int _ _ = Value.int _ _; congr 1)) (za rfl (zn ?_))))))))))); clear h; intro a w h
        exact ⟨y / 2 ^ 8, m + 8, by omega, by omega, by rw [← hl, Nat.add_assoc, Nat.add_comm 8]; congr 1; exact lenI_shift (k := 8) (by omega), h.sub sA⟩
      · skip
        have h7 : y < 256 := by have := of_decide_eq_false hc8; omega
        refine wp_skip ?_
        exact ⟨y, m, h7, by omega, hl, h.sub sA⟩
    · clear h
      rintro a w ⟨z, o, hz, ho, hl2, h⟩
      refine gC h (zs (zr (zm rfl (zm rfl ?_)))); clear h; intro a w h
      have hle : lenI z ≤ 8 := lenI_le_of hz
      refine gL h (zp (.convert rfl (cv_54_5b _ (wrap_u8 _ (by omega) (by omega)))) (zp (Pure1.cast (v' := .int .u8 (lenI z : Int)) (.index rfl rfl (fun _ => run_index_str Tryz.runUnderlying9 _ _ (by show z < 256; exact hz))) (by exact congrArg (fun n : Nat => Value.int .u8 (n : Int)) (len8_tab z hz))) (zp (.convert rfl (cv_5_3b _ (wrap_i64 _ (by omega) (by omega)))) (zp (Pure1.cast (v' := .int .i64 (lenI x : Int)) (.add rfl rfl) (by show Value.int _ _ = Value.int _ _; congr 1; omega)) (za rfl (zn (zt ?_))))))); clear h; intro a w h
      refine retV h (results1 h rfl (.tmp rfl)) ?_
      rfl
theorem C_LeadingZeros32 (x : Nat) (hx : x < 4294967296) : CtrV Tryz.prog 209 [.int .u32 (x : Int)] (.int .i64 ((32 - lenI x : Nat) : Int)) := by
  refine fn_intro Tryz.func209 rfl Tryz.ntmps209 nb ?_
  intro S w0 a hS h
  refine gC h (zs (zr (za rfl (zn (zs (zr ?_)))))); clear h; intro a w h
  have hle : lenI x ≤ 32 := lenI_le_of (k := 32) hx
  refine gL h (zm rfl (zv [_] rfl Tryz.call164 (C_Len32 x hx) (zp (Pure1.cast (v' := .int .i64 ((32 - lenI x : Nat) : Int)) (.sub rfl rfl) (by show Value.int _ _ = Value.int _ _; congr 1; omega)) (za rfl (zn (zt ?_)))))); clear h; intro a w h
  refine retV h (results1 h rfl (.tmp rfl)) ?_
  rfl
theorem C_half (b cp : Nat) (O : List Nat) (hO : Wd O) (hl : O.length ≤ 1099511627776) (σr : List (Nat × Obj)) (Φ : List SPred) :
    CtrM Tryz.prog 212 [.slice (some ⟨b, 0, none⟩) O.length cp] ((b, .cells (u32s O).toArray 54 (0, 0)) :: σr) Φ
      (fun _ σ' Φ' => ∃ Z, Wd Z ∧ Z.length = O.length ∧ valW Z = valW O / 2 ∧ σ' = (b, .cells (u32s Z).toArray 54 (0, 0)) :: σr ∧ Φ' = Φ) := by
  refine fn_introM Tryz.func212 rfl Tryz.ntmps212 nb ?_
  intro S w0 a w hS h
  refine gC h (zs (zr (zm rfl (zp (.builtin [_] rfl (len_slice_151 _ _ _)) (zm rfl (zn (zb ?_))))))); clear h; intro a w h
  refine wp_loop_inv (fun (i : Nat) a w => ∃ Z, i ≤ O.length ∧ Z.length = O.length ∧ Wd Z ∧ Z.drop i = O.drop i ∧ 2 * valW (Z.take i) + O.getD 0 0 % 2 = valW (O.take i) + 4294967296 ^ i * (O.getD i 0 % 2) ∧ St 32 S w0 [(0, .slice (some ⟨b, 0, none⟩) O.length cp), (3, .slice (some ⟨b, 0, none⟩) O.length cp), (4, .int .i64 (O.length : Int)), (5, .int .i64 (i : Int))] ((b, .cells (u32s Z).toArray 54 (0, 0)) :: σr) Φ a w) (fun i => O.length - i) (0) (⟨O, Nat.zero_le _, rfl, hO, rfl, by simp [valW], h.sub (subL ⟨rfl, rfl, rfl, rfl, trivial⟩)⟩) ?_; clear h
  rintro i a w ⟨Z, hi, hZl, hZ, hd, hT, h⟩
  refine gC h (zs (zr (zp (.lss rfl rfl) (zn (zs ?_))))); clear h; intro a w h
  refine cond_split h rfl (fun hc6 => ?_) (fun hc6 => ?_)
  · skip
    have hi' : i < O.length := by simpa using hc6
    have hzi := getD_drop_eq hd (Nat.le_refl i)
    have hzi1 := getD_drop_eq hd (Nat.le_succ i)
    have hxi := hO.getD i
    have hxj := hO.getD (i + 1)
    refine wp_skip ?_
    change Code.wp _ _ _ _ _
    refine wp_join (fun a w => St 32 S w0 [(0, .slice (some ⟨b, 0, none⟩) O.length cp), (3, .slice (some ⟨b, 0, none⟩) O.length cp), (4, .int .i64 (O.length : Int)), (5, .int .i64 (i : Int))] ((b, .cells (u32s (Z.set i (O.getD i 0 / 2 + 2147483648 * (O.getD (i + 1) 0 % 2)))).toArray 54 (0, 0)) :: σr) Φ a w) ?_ ?_
    · skip
      refine gC h (zb (zs (zr (zm rfl (za rfl (zn (zs (zr (zm rfl (zm rfl (zp (.indexAddr rfl rfl (ix_151 _ _ _ _ _ (by omega))) (zd rfl mm Tryz.isAgg54 Tryz.sizeOf54 ((read_row 0 (by rw [Nat.zero_add]; omega)).trans (by rw [Nat.zero_add, hzi])) ?_)))))))))))); clear h; intro a w h
      refine gL h (zp (.binOp rfl rfl (fun _ => run_shr _ _ _ _ 1 (by decide))) (zp (.indexAddr rfl rfl (ix_151 _ _ _ _ _ (by omega))) (zt' rfl rfl ((set_row Z (0 + i) (O.getD i 0 / 2 ^ 1)).trans (by rw [Nat.zero_add])) uu Tryz.sizeOf54 rfl (by simp; omega) rfl ?_))); clear h; intro a w h
      refine gL h (zn (zs (zr (zm rfl (zp (Pure1.cast (v' := .int .i64 ((i + 1 : Nat) : Int)) (.add rfl rfl) (by show Value.int _ _ = Value.int _ _; congr 1)) (zm rfl (zp (.builtin [_] rfl (len_slice_151 _ _ _)) (zp (.lss rfl rfl) (zn ?_))))))))); clear h; intro a w h
      change Code.wp _ _ _ _ _
      refine cond_split h rfl (fun hc18 => ?_) (fun hc18 => ?_)
      · skip
        have hlt2 : i + 1 < O.length := by have := of_decide_eq_true hc18; omega
        refine gC h (yD mixed_YtgkicbaomcmfoaaGreatDoor [0, 1, 2, 3, 4, 5, 6, 7, 8, 9, 10, 11, 12] (floatsOK_none (by kernel_rfl)) (yp rfl (.move rfl) (yp rfl (.move rfl) (yp rfl (.indexAddr rfl rfl (ix_151 _ _ _ _ _ (by omega))) (yd rfl rfl mm Tryz.isAgg54 Tryz.sizeOf54 ((read_row 0 (by rw [Nat.zero_add, List.length_set]; omega)).trans (by rw [Nat.zero_add, getD_set_self (by omega)])) ?_))))); clear h
        refine yp rfl (.move rfl) (yp rfl (.move rfl) (yp rfl (Pure1.cast (v' := .int .i64 ((i + 1 : Nat) : Int)) (.add rfl rfl) (by show Value.int _ _ = Value.int _ _; congr 1)) (yp rfl (.indexAddr rfl rfl (ix_151 _ _ _ _ _ (by omega))) (yd rfl rfl mm Tryz.isAgg54 Tryz.sizeOf54 ((read_row 0 (by rw [Nat.zero_add, List.length_set]; omega)).trans (by rw [Nat.zero_add, getD_setw (by omega), hzi1])) ?_))))
        refine yp rfl (Pure1.cast (v' := .int .u32 ((O.getD (i + 1) 0 * 2 ^ 31 % 4294967296 : Nat) : Int)) (.binOp rfl rfl (fun _ => run_shl _ _ _ _ 31 (by decide))) (by rw [wrap_u32_mod]; congr 1)) (yp rfl (Pure1.cast (v' := .int .u32 ((O.getD i 0 / 2 + 2147483648 * (O.getD (i + 1) 0 % 2) : Nat) : Int)) (.binOp rfl rfl (fun _ => run_or rfl _ _ _ _ _ (by show _ < 4294967296; omega) (by show _ < 4294967296; omega))) (by rw [half_word _ _ hxi])) (yp rfl (.indexAddr rfl rfl (ix_151 _ _ _ _ _ (by omega))) (yt rfl rfl rfl ((set_row (Z.set i (O.getD i 0 / 2 ^ 1)) (0 + i) (O.getD i 0 / 2 + 2147483648 * (O.getD (i + 1) 0 % 2))).trans (by rw [Nat.zero_add, List.set_set])) uu Tryz.sizeOf54 rfl (by simp; omega) rfl ?_)))
        refine yn ?_; intro a w h
        exact h.sub sA
      · skip
        have hlt2 : O.length ≤ i + 1 := by have := of_decide_eq_false hc18; omega
        refine wp_skip ?_
        rw [getD_ge hlt2, show O.getD i 0 / 2 + 2147483648 * (0 % 2) = O.getD i 0 / 2 ^ 1 from rfl]
        exact h.sub sA
    · clear h
      intro a w h
      refine gC h (zr (zp (.add rfl rfl) (zm rfl (zn ?_)))); clear h; intro a w h
      exact ⟨i + 1, ⟨Z.set i (O.getD i 0 / 2 + 2147483648 * (O.getD (i + 1) 0 % 2)), by omega, by simpa using hZl, hZ.set _ _ (by omega), drop_set_succ hd, half_step hi' hZl hd hT, h.sub sA⟩, by omega⟩
  · skip
    have hi' : i = O.length := by simp at hc6; omega
    refine wp_exit ?_
    subst hi'
    refine endM h (results0 rfl) ⟨Z, hZ, hZl, half_end (by omega) hZl hT, rfl, rfl⟩ (List.Sublist.refl _) (fun _ h => h)
theorem C_less (b cu : Nat) (p W0 hh : List Nat) (ad : Option Addr) (cv : Nat) (V : List Nat) (dg : Nat) (hW0 : Wd W0) (hV : Wd V) (hl : V.length ≤ 1000000000000) (hWl0 : W0.length = V.length + 1) (hdg : dg < 4294967296)
    (hp : p.length ≤ 1000000000000) (σr : List (Nat × Obj)) (Φ : List SPred) (hΦ : Row ad (u32s V) ∈ Φ) :
    CtrM Tryz.prog 211 [.slice (some ⟨b, p.length, none⟩) (V.length + 1) cu, .slice ad V.length cv, .int .u64 (dg : Int)] ((b, .cells (u32s (p ++ W0 ++ hh)).toArray 54 (0, 0)) :: σr) Φ
      (fun v σ' Φ' => ∃ (W : List Nat) (l : Nat), l ≤ 1 ∧ v = .bool (decide ((l : Int) > 0)) ∧ Wd W ∧ W.length = V.length + 1 ∧ valW W + dg * valW V = valW W0 + 4294967296 ^ (V.length + 1) * l ∧
        σ' = (b, .cells (u32s (p ++ W ++ hh)).toArray 54 (0, 0)) :: σr ∧ Φ' = Φ) := by
  refine fn_introM Tryz.func211 rfl Tryz.ntmps211 nb ?_
  intro S w0 a w hS h
  refine gC h (zs (zr (za rfl (zn (zs (zr (za rfl (za rfl (zn (zs (zs (zr (zm rfl (zp (.builtin [_] rfl (len_slice_151 _ _ _)) (zm rfl (zn (zb ?_))))))))))))))))); clear h; intro a w h
  refine wp_loop_inv (fun (i : Nat) a w => ∃ (W : List Nat) (c g : Nat), i ≤ V.length ∧ W.length = V.length + 1 ∧ Wd W ∧ c < 4294967296 ∧ g ≤ 1 ∧ valW W + dg * valW (V.take i) = valW W0 + 4294967296 ^ i * (c + g) ∧ St 60 S w0 [(0, .slice (some ⟨b, p.length, none⟩) (V.length + 1) cu), (1, .slice ad V.length cv), (2, .int .u64 (dg : Int)), (7, .int .u64 (c : Int)), (8, .int .u32 (g : Int)), (12, .slice ad V.length cv), (13, .int .i64 (V.length : Int)), (14, .int .i64 (i : Int))] ((b, .cells (u32s (p ++ W ++ hh)).toArray 54 (0, 0)) :: σr) Φ a w) (fun i => V.length - i) (0) (⟨W0, 0, 0, Nat.zero_le _, hWl0, hW0, by decide, by decide, by simp [valW], h.sub (subL ⟨rfl, rfl, rfl, rfl, rfl, rfl, rfl, rfl, trivial⟩)⟩) ?_; clear h
  rintro i a w ⟨W, c, g, hi, hWl, hW, hc, hg, hT, h⟩
  refine gC h (zs (zr (zp (.lss rfl rfl) (zn (zs ?_))))); clear h; intro a w h
  refine cond_split h rfl (fun hc15 => ?_) (fun hc15 => ?_)
  · skip
    have hi' : i < V.length := by simpa using hc15
    obtain ⟨bV, oV, rfl⟩ := h.row_addr hΦ (by simp; intro e; simp [e] at hi')
    have hwi := hV.getD i
    obtain ⟨hc1, hc2⟩ := less_carry hc hdg hwi
    have hm := Nat.mod_lt (c + dg * V.getD i 0) (show 0 < 4294967296 by decide)
    refine gC h (zk (zs (zb (zs (zr (zm rfl (zp (.indexAddr rfl rfl (ix_151 _ _ _ _ _ (by omega))) (zD rfl hΦ (by simp; omega) Tryz.isAgg54 Tryz.sizeOf54 (read_row 0 (by omega)) (.inr rfl) ?_)))))))); clear h; intro a w h
    refine gL h (za rfl (za rfl (zn (zs (zr (zm rfl (zm rfl (zm rfl (zp (.convert rfl (cv_54_45b _ (wrap_u64 _ (by omega) (by omega)))) (zp (Pure1.cast (v' := .int .u64 ((dg * V.getD i 0 : Nat) : Int)) (.binOp rfl rfl (fun _ => run_mul _ _ _ _ _)) (by rw [wrap_mul64 (by omega)])) (zp (Pure1.cast (v' := .int .u64 ((c + dg * V.getD i 0 : Nat) : Int)) (.binOp rfl rfl (fun _ => run_add _ _ _ _ _)) (by rw [wrap_add64 hc1])) (za rfl (zn (zs (zr (zm rfl (zm rfl (zm rfl (zm rfl (zp (.indexAddr rfl rfl (ix_151 _ _ _ _ _ (by omega))) (zd rfl mm Tryz.isAgg54 Tryz.sizeOf54 ((read_row 0 (by simp; omega)).trans (by rw [getD_mid _ _ _ _ (by omega)])) ?_))))))))))))))))))))); clear h; intro a w h
    refine gL h (zm rfl (zp (Pure1.cast (v' := .int .u32 (((c + dg * V.getD i 0) % 4294967296 : Nat) : Int)) (.convert rfl (cv_45_54 _)) (by rw [wrap_u32_mod]; congr 1)) (zm rfl (zv [_, _, _] rfl Tryz.call171 (C_Sub32 _ _ _ (hW.getD i) hm hg) (zm rfl (zp (.extract rfl (fun _ => rfl)) (zp (.extract rfl (fun _ => rfl)) (zp (.indexAddr rfl rfl (ix_151 _ _ _ _ _ (by omega))) (zt' rfl rfl ((set_row (p ++ W ++ hh) (p.length + i) ((W.getD i 0 + 8589934592 - (c + dg * V.getD i 0) % 4294967296 - g) % 4294967296)).trans (by rw [set_mid _ _ _ _ _ (by omega)])) uu Tryz.sizeOf54 rfl (by simp; omega) rfl ?_))))))))); clear h; intro a w h
    refine gL h (za rfl (zn (zr (zm rfl (zp (Pure1.cast (v' := .int .u64 (((c + dg * V.getD i 0) / 4294967296 : Nat) : Int)) (.binOp rfl rfl (fun _ => run_shr _ _ _ _ 32 (by decide))) (by rfl)) (za rfl (zn (zr (zp (.add rfl rfl) (zm rfl (zn ?_))))))))))); clear h; intro a w h
    exact ⟨i + 1, ⟨W.set i ((W.getD i 0 + 8589934592 - (c + dg * V.getD i 0) % 4294967296 - g) % 4294967296), _, _, by omega, by simpa using hWl, hW.set _ _ (Nat.mod_lt _ (by decide)), hc2, by split <;> omega, less_step hi' (by omega) hT (sub_eq _ _ _ (hW.getD i) hm hg), h.sub (subL ⟨rfl, rfl, rfl, rfl, rfl, rfl, rfl, rfl, trivial⟩)⟩, by omega⟩
  · skip
    have hi' : i = V.length := by simp at hc15; omega
    refine gC h (ze (zs (zr (zm rfl (zp (.builtin [_] rfl (len_slice_151 _ _ _)) (za rfl (zn (zs (zr (zm rfl (zm rfl (zm rfl (zm rfl (zp (.indexAddr rfl rfl (ix_151 _ _ _ _ _ (by omega))) (zd rfl mm Tryz.isAgg54 Tryz.sizeOf54 ((read_row 0 (by simp; omega)).trans (by rw [getD_mid _ _ _ _ (by omega)])) ?_))))))))))))))); clear h; intro a w h
    refine gL h (zm rfl (zp (Pure1.cast (v' := .int .u32 (c : Int)) (.convert rfl (cv_45_54 _)) (by rw [wrap_u32n hc])) (zm rfl (zv [_, _, _] rfl Tryz.call171 (C_Sub32 _ _ _ (hW.getD V.length) hc hg) (zm rfl (zp (.extract rfl (fun _ => rfl)) (zp (.extract rfl (fun _ => rfl)) (zp (.indexAddr rfl rfl (ix_151 _ _ _ _ _ (by omega))) (zt' rfl rfl ((set_row (p ++ W ++ hh) (p.length + V.length) ((W.getD V.length 0 + 8589934592 - c - g) % 4294967296)).trans (by rw [set_mid _ _ _ _ _ (by omega)])) uu Tryz.sizeOf54 rfl (by simp; omega) rfl ?_))))))))); clear h; intro a w h
    refine gL h (za rfl (zn (zs (zr (zm rfl (zp (.gtr rfl rfl) (za rfl (zn (zt ?_))))))))); clear h; intro a w h
    subst hi'
    refine retM h (results1 h rfl (.tmp rfl)) ⟨W.set V.length ((W.getD V.length 0 + 8589934592 - c - g) % 4294967296), _, ?_, rfl, hW.set _ _ (Nat.mod_lt _ (by decide)), by simpa using hWl, less_end (by omega) hT (sub_eq _ _ _ (hW.getD _) hc hg), rfl, rfl⟩ (List.Sublist.refl _) (fun _ h => h)
    split <;> omega
end
section
theorem sll_151 (b off n c lo hi : Nat) (h1 : lo ≤ hi) (h2 : hi ≤ c) (h3 : lo < c) (w : World) : (Instr.sliceAt 151 (.slice (some ⟨b, off, none⟩) n c) (some (.int .i64 (lo : Int))) (some (.int .i64 (hi : Int))) none).run Tryz.prog w = .ok (.slice (some ⟨b, off + lo, none⟩) (hi - lo) (c - lo)) w := by
  simpa using sliceAt_lh Tryz.runUnderlying151 Tryz.sizeOf54 b off n c lo hi h1 h2 h3 w
theorem C_long (ax : Option Addr) (cx : Nat) (X : List Nat) (ay : Option Addr) (cy : Nat) (Y : List Nat) (hX : Wd X) (hY : Wd Y) (hm : X.length ≤ 500000000000) (hY2 : 2 ≤ Y.length) (hYX : Y.length ≤ X.length) (hlast : Y.getD (Y.length - 1) 0 ≠ 0) :
    Ctr Tryz.prog 170 [.slice ax X.length cx, .slice ay Y.length cy] [Row ax (u32s X), Row ay (u32s Y)]
      (fun v Ψ => ∃ a1 c1 a2 c2 Q R, v = .tuple #[.slice a1 Q.length c1, .slice a2 R.length c2] ∧ Wd Q ∧ Wd R ∧ Q.length ≤ c1 ∧ R.length ≤ c2 ∧ Q.length ≤ X.length + 1 ∧ R.length ≤ X.length + 1 ∧ valW Q = valW X / valW Y ∧ valW R = valW X % valW Y ∧ Ψ = [Row a1 (u32s Q), Row a2 (u32s R)]) := by
  obtain ⟨e, he⟩ : ∃ e, Y.length = e + 2 := ⟨Y.length - 2, by omega⟩
  rw [show Y.length - 1 = e + 1 by omega] at hlast
  refine fn_intro Tryz.func170 rfl Tryz.ntmps170 nb ?_
  intro S w0 a hS h
  refine gC h (zs (zr (za rfl (za rfl (zn (zs (zr ?_))))))); clear h; intro a w h
  have hlt : 0 < Y.length := by omega
  obtain ⟨bY, bYo, bYe⟩ := h.row_addr (ad := ay) (M := u32s Y) (by simp) (by simp; intro e; simp [e] at hlt)
  subst bYe
  refine gL h (zm rfl (zm rfl (zp (.builtin [_] rfl (len_slice_151 _ _ _)) (zp (Pure1.cast (v' := .int .i64 ((e + 1 : Nat) : Int)) (.sub rfl rfl) (by show Value.int _ _ = Value.int _ _; congr 1 <;> omega)) (zp (.indexAddr rfl rfl (ix_151 _ _ _ _ _ (by omega))) (zD rfl mm (by simp; omega) Tryz.isAgg54 Tryz.sizeOf54 (read_row 0 (by omega)) (.inr rfl) ?_)))))); clear h; intro a w h
  refine gL h (zv [_] rfl Tryz.call209 (C_LeadingZeros32 _ (hY.getD _)) ?_); clear h; intro a w h
  obtain ⟨hs, hn1, hn2⟩ := long_norm (last := Y.getD (e + 1) 0) hlast (hY.getD _) rfl
  generalize 32 - lenI (Y.getD (e + 1) 0) = s at h hs hn1 hn2
  refine gL h (za rfl (zn (zs (yD mixed_YtgkicbaomcmfoaaGreatDoor [0, 1, 3, 4, 6, 7, 2, 5, 8, 9, 10] (floatsOK_none (by kernel_rfl)) (yp rfl (.move rfl) (yp rfl (.move rfl) (yp rfl (.move rfl) (yp rfl (.move rfl) (yp rfl (.move rfl) (yp rfl (.builtin [_] rfl (len_slice_151 _ _ _)) ?_)))))))))); clear h
  refine head_callO rfl (by kernel_rfl) (vs := [_, _]) rfl Tryz.call210 (C_shifted ax cx X s hX (by omega) hs) (by simp) (by decide) ?_; rintro v26 σ26 ⟨b26, Z0, rfl, hZ0, hZ0l, hZ0v, rfl⟩
  refine head_callO rfl (by kernel_rfl) (vs := [_, _]) rfl Tryz.call210 (C_shifted _ cy Y s hY (by omega) hs) (by simp) (by decide) ?_; rintro v29 σ29 ⟨b29, V0, rfl, hV0, hV0l, hV0v, rfl⟩
  refine yp rfl (.slice rfl none (some _) none rfl rfl rfl (slh_151 _ _ _ _ (by omega))) (yp rfl (.assign rfl) (yp rfl (.assign rfl) (yn (zs (zr ?_))))); intro a w h
  replace h := h.shareAll hS (u32s V0) rfl
  replace h := h.derive (R := Row (some ⟨b29, 0, none⟩) (u32s (V0.take Y.length))) (fun X hX => by rw [u32s, List.map_take]; exact row_take (hX _ List.mem_cons_self) _)
  obtain ⟨hVv, hv1⟩ := long_divisor hY he hs hn1 hn2 hV0 hV0v
  have hVl : (V0.take Y.length).length = Y.length := by simp; omega
  have hV : Wd (V0.take Y.length) := hV0.take _
  generalize hVd : V0.take Y.length = V at h hVv hv1 hVl hV
  rw [← hVl] at h
  have hVe : V.length = e + 2 := by omega
  have hYge : 4294967296 ^ (V.length - 1) ≤ valW Y := by
    have h1 := valW_take_succ' Y (e + 1) (by omega)
    rw [show e + 1 + 1 = Y.length by omega, List.take_length] at h1
    rw [show V.length - 1 = e + 1 by omega, h1]
    have := Nat.mul_le_mul_left (4294967296 ^ (e + 1)) (Nat.pos_of_ne_zero hlast)
    omega
  obtain ⟨M, hM⟩ : ∃ M, Z0.length = M + V.length := ⟨Z0.length - V.length, by omega⟩
  refine gL h (zm rfl (zp (Pure1.cast (v' := .int .i64 (V.length : Int)) (.builtin [_] rfl (len_slice_151 _ _ _)) (by rfl)) (za rfl (zn (zs (zr (zm rfl (zp (.builtin [_] rfl (len_slice_151 _ _ _)) (zm rfl (zp (Pure1.cast (v' := .int .i64 ((M : Nat) : Int)) (.sub rfl rfl) (by show Value.int _ _ = Value.int _ _; congr 1 <;> omega)) ?_)))))))))); clear h; intro a w h
  refine wpl_plain (op_makeSlice h rfl rfl Tryz.runUnderlying151 Tryz.typeInfo54 Tryz.sizeOf54 Tryz.zeroValue54 rfl (by decide) (by exact Nat.le_refl _) (by show 4 * _ ≤ _; omega) (by omega) (by decide) ?_); clear h; intro b39 a w h
  rw [show (Value.int .u32 0).cells.toList = [Value.int .u32 0] from rfl, reps_one, show List.replicate M (Value.int .u32 0) = u32s (List.replicate M 0) from by simp] at h
  refine gL h (za rfl (zn (zs (zs (zr (zm rfl (zp (.builtin [_] rfl (len_slice_151 _ _ _)) (zp (.sub rfl rfl) (za rfl (zn (zb ?_))))))))))); clear h; intro a w h
  refine wp_loop_inv (fun (κ : Nat) a w => ∃ (Z Q : List Nat), κ ≤ M ∧ Z.length = Z0.length ∧ Wd Z ∧ Q.length = M ∧ Wd Q ∧ valW Z + 4294967296 ^ κ * (valW V * valW (Q.drop κ)) = valW Z0 ∧ valW (Z.drop κ) < valW V ∧ St 175 S w0 [(4, .slice (some ⟨b39, 0, none⟩) M M), (6, .int .i64 (s : Int)), (7, .slice (some ⟨b26, 0, none⟩) Z0.length Z0.length), (8, .slice (some ⟨b29, 0, none⟩) V.length V0.length), (9, .int .i64 (V.length : Int)), (10, .int .i64 ((κ : Int) - 1))] [(b26, .cells (u32s Z).toArray 54 (0, 0)), (b39, .cells (u32s Q).toArray 54 (0, 0))] [Row (some ⟨b29, 0, none⟩) (u32s V)] a w) (fun κ => κ) (M) (⟨Z0, List.replicate M 0, Nat.le_refl _, rfl, hZ0, by simp, Wd.zeros _, by simp [valW], by rw [hVv]; exact long_start hX hZ0v hYge (by omega) (by omega), ((h.perm (List.Perm.swap _ _ _)).factsSub (by simp)).sub (subL ⟨rfl, rfl, rfl, rfl, rfl, rfl, trivial⟩)⟩) ?_; clear h
  rintro κ a w ⟨Z, Q, hκ, hZl, hZ, hQl, hQ, hT, hR, h⟩
  refine gC h (zs (zs (zr (zm rfl (zp (.geq rfl rfl) (zn ?_)))))); clear h; intro a w h
  change Code.wp _ _ _ _ _
  refine cond_split h rfl (fun hc44 => ?_) (fun hc44 => ?_)
  · skip
    have hκ0 : 0 < κ := by simp at hc44; omega
    obtain ⟨p, W, hh, rfl, hp, hWl, hpw, hWw, hhw, hh0, hUlt⟩ := long_window (k := κ - 1) (n := V.length) hZ (by omega) (valW_lt hV) (by rw [Nat.sub_add_cancel hκ0]; exact hR)
    obtain rfl : κ = p.length + 1 := by omega
    have hU3 := valW_top3 (l := W) (e := e) (by omega)
    have hV2 := valW_top2 (l := V) (e := e) (by omega)
    have hlu := valW_take_lt hWw e
    have hlv := valW_take_lt hV e
    have hw2 := hWw.getD (e + 2)
    have hw1 := hWw.getD (e + 1)
    have hw0 := hWw.getD e
    have hvv1 := hV.getD (e + 1)
    have hvv2 := hV.getD e
    refine gC h (zk (zs (zb (zc (zs (yD mixed_YtgkicbaomcmfoaaGreatDoor [0, 1, 2, 3, 4, 5, 6, 7, 8, 9, 10, 11, 12, 13, 14, 15, 16, 17] (floatsOK_none (by kernel_rfl)) (yp rfl (.move rfl) (yp rfl (Pure1.cast (v' := .int .i64 ((p.length : Nat) : Int)) (.move rfl) (by show Value.int _ _ = Value.int _ _; congr 1 <;> omega)) (yp rfl (.move rfl) (yp rfl (Pure1.cast (v' := .int .i64 ((p.length + (e + 2) : Nat) : Int)) (.add rfl rfl) (by show Value.int _ _ = Value.int _ _; congr 1 <;> omega)) (yp rfl (.indexAddr rfl rfl (ix_151 _ _ _ _ _ (by omega))) (yd rfl rfl mm Tryz.isAgg54 Tryz.sizeOf54 ((read_row 0 (by simp; omega)).trans (by rw [Nat.zero_add, getD_mid _ _ _ _ (by omega)])) ?_)))))))))))); clear h
    refine yp rfl (.convert rfl (cv_54_45b _ (wrap_u64 _ (by omega) (by omega)))) (yp rfl (Pure1.cast (v' := .int .u64 ((W.getD (e + 2) 0 * 4294967296 : Nat) : Int)) (.binOp rfl rfl (fun _ => run_shl _ _ _ _ 32 (by decide))) (by rw [wrap_u64 _ (by omega) (by omega)])) (yp rfl (.move rfl) (yp rfl (Pure1.cast (v' := .int .i64 ((p.length : Nat) : Int)) (.move rfl) (by show Value.int _ _ = Value.int _ _; congr 1 <;> omega)) (yp rfl (.move rfl) (yp rfl (Pure1.cast (v' := .int .i64 ((p.length + (e + 2) : Nat) : Int)) (.add rfl rfl) (by show Value.int _ _ = Value.int _ _; congr 1 <;> omega)) (yp rfl (Pure1.cast (v' := .int .i64 ((p.length + (e + 1) : Nat) : Int)) (.sub rfl rfl) (by show Value.int _ _ = Value.int _ _; congr 1 <;> omega)) (yp rfl (.indexAddr rfl rfl (ix_151 _ _ _ _ _ (by omega))) (yd rfl rfl mm Tryz.isAgg54 Tryz.sizeOf54 ((read_row 0 (by simp; omega)).trans (by rw [Nat.zero_add, getD_mid _ _ _ _ (by omega)])) ?_))))))))
    refine yp rfl (.convert rfl (cv_54_45b _ (wrap_u64 _ (by omega) (by omega)))) (yp rfl (Pure1.cast (v' := .int .u64 ((4294967296 * W.getD (e + 2) 0 + W.getD (e + 1) 0 : Nat) : Int)) (.binOp rfl rfl (fun _ => run_or rfl _ _ _ _ _ (by show _ < 18446744073709551616; omega) (by show _ < 18446744073709551616; omega))) (by rw [or_hi _ _ hw1])) (yp rfl (.assign rfl) ?_))
    have htl : 4294967296 * W.getD (e + 2) 0 + W.getD (e + 1) 0 < 18446744073709551616 := by omega
    have htop := top_lt hU3 hV2 hvv2 hlv hUlt
    generalize hTop : 4294967296 * W.getD (e + 2) 0 + W.getD (e + 1) 0 = top at hU3 htl htop ⊢
    refine yn (zs (yD mixed_YtgkicbaomcmfoaaGreatDoor [0, 1, 2, 3, 4, 5, 6, 7, 8, 9, 10, 11, 12, 13, 14, 15, 16, 17] (floatsOK_none (by kernel_rfl)) (yp rfl (.move rfl) (yp rfl (.move rfl) (yp rfl (.move rfl) (yp rfl (Pure1.cast (v' := .int .i64 ((e + 1 : Nat) : Int)) (.sub rfl rfl) (by show Value.int _ _ = Value.int _ _; congr 1 <;> omega)) (yp rfl (.indexAddr rfl rfl (ix_151 _ _ _ _ _ (by omega))) ?_)))))))
    refine head_loadRow rfl (by kernel_rfl) rfl mm (by simp; omega) Tryz.isAgg54 Tryz.sizeOf54 (read_row 0 (by omega)) (.inr rfl) (by decide) ?_
    refine yp rfl (.convert rfl (cv_54_45b _ (wrap_u64 _ (by omega) (by omega)))) (yp rfl (Pure1.cast (v' := .int .u64 ((top / V.getD (e + 1) 0 : Nat) : Int)) (.binOp rfl rfl (fun _ => run_quo _ _ _ _ _ (by omega))) (by rw [tdiv_nat, wrap_u64n (Nat.lt_of_le_of_lt (Nat.div_le_self _ _) htl)])) (yp rfl (.move rfl) (yp rfl (.move rfl) (yp rfl (.move rfl) (yp rfl (Pure1.cast (v' := .int .i64 ((e + 1 : Nat) : Int)) (.sub rfl rfl) (by show Value.int _ _ = Value.int _ _; congr 1 <;> omega)) (yp rfl (.indexAddr rfl rfl (ix_151 _ _ _ _ _ (by omega))) ?_))))))
    refine head_loadRow rfl (by kernel_rfl) rfl mm (by simp; omega) Tryz.isAgg54 Tryz.sizeOf54 (read_row 0 (by omega)) (.inr rfl) (by decide) ?_
    refine yp rfl (.convert rfl (cv_54_45b _ (wrap_u64 _ (by omega) (by omega)))) (yp rfl (Pure1.cast (v' := .int .u64 ((top % V.getD (e + 1) 0 : Nat) : Int)) (.binOp rfl rfl (fun _ => run_rem _ _ _ _ _ (by omega))) (by rw [tmod_nat])) (yp rfl (.assign rfl) (yp rfl (.assign rfl) (yn (zs (zl ?_)))))); intro a w h
    change Code.wp _ _ _ _ _
    refine wp_join (fun a w => ∃ dg : Nat, dg < 4294967296 ∧ dg * valW V ≤ valW W + valW V ∧ valW W < (dg + 1) * valW V ∧ St 175 S w0 [(4, .slice (some ⟨b39, 0, none⟩) M M), (6, .int .i64 (s : Int)), (7, .slice (some ⟨b26, 0, none⟩) Z0.length Z0.length), (8, .slice (some ⟨b29, 0, none⟩) V.length V0.length), (9, .int .i64 (V.length : Int)), (10, .int .i64 (((p.length + 1 : Nat) : Int) - 1)), (12, .int .u64 (dg : Int))] [(b26, .cells (u32s (p ++ W ++ hh)).toArray 54 (0, 0)), (b39, .cells (u32s Q).toArray 54 (0, 0))] [Row (some ⟨b29, 0, none⟩) (u32s V)] a w) ?_ ?_
    · skip
      refine wp_block ?_
      refine wp_loop_inv (fun (dg : Nat) a w => ∃ rest : Nat, dg * V.getD (e + 1) 0 + rest = top ∧ valW W < (dg + 1) * valW V ∧ rest < 8589934592 ∧ St 175 S w0 [(4, .slice (some ⟨b39, 0, none⟩) M M), (6, .int .i64 (s : Int)), (7, .slice (some ⟨b26, 0, none⟩) Z0.length Z0.length), (8, .slice (some ⟨b29, 0, none⟩) V.length V0.length), (9, .int .i64 (V.length : Int)), (10, .int .i64 (((p.length + 1 : Nat) : Int) - 1)), (12, .int .u64 (dg : Int)), (13, .int .u64 (rest : Int))] [(b26, .cells (u32s (p ++ W ++ hh)).toArray 54 (0, 0)), (b39, .cells (u32s Q).toArray 54 (0, 0))] [Row (some ⟨b29, 0, none⟩) (u32s V)] a w) (fun dg => dg) (top / V.getD (e + 1) 0) (⟨top % V.getD (e + 1) 0, by rw [Nat.mul_comm]; exact Nat.div_add_mod _ _, guess_init hU3 hV2 hw0 hlu (by omega), Nat.lt_trans (Nat.mod_lt _ (by omega)) (by omega), h.sub (subL ⟨rfl, rfl, rfl, rfl, rfl, rfl, rfl, rfl, trivial⟩)⟩) ?_; clear h
      rintro dg a w ⟨rest, hIg, hUd, hrest, h⟩
      have hdgle := digit_le hIg htop hv1
      refine gC h (zs (zs (zr (zm rfl (zp (.leq rfl rfl) (zn ?_)))))); clear h; intro a w h
      change Code.wp _ _ _ _ _
      refine cond_split h rfl (fun hc81 => ?_) (fun hc81 => ?_)
      · skip
        have hr : rest < 4294967296 := by have := of_decide_eq_true hc81; omega
        refine gC h (zk (zb (zs (zs (yD mixed_YtgkicbaomcmfoaaGreatDoor [0, 1, 2, 3, 4, 5, 6, 7, 8, 9, 10, 11, 12, 13, 14, 15, 16, 17, 18, 19, 20, 21, 22, 23] (floatsOK_none (by kernel_rfl)) (yp rfl (.move rfl) (yp rfl (.leq rfl rfl) (yp rfl (.move rfl) ?_)))))))); clear h
        refine head_bool (fun hc84  => ?_) (fun hc84  => ?_)
        · skip
          have hdg : dg < 4294967296 := by have := of_decide_eq_true hc84; omega
          have hmul := mul32_lt hdg hvv2
          refine yq rfl rfl rfl (.move rfl) (yq rfl rfl rfl (.move rfl) (yq rfl rfl rfl (.move rfl) (yq rfl rfl rfl (Pure1.cast (v' := .int .i64 ((e : Nat) : Int)) (.sub rfl rfl) (by show Value.int _ _ = Value.int _ _; congr 1 <;> omega)) (yq rfl rfl rfl (.indexAddr rfl rfl (ix_151 _ _ _ _ _ (by omega))) ?_))))
          refine head_loadRowG rfl rfl rfl (by kernel_rfl) rfl mm (by simp; omega) Tryz.isAgg54 Tryz.sizeOf54 (read_row 0 (by omega)) (.inr rfl) (by decide) ?_
          refine yq rfl rfl rfl (.convert rfl (cv_54_45b _ (wrap_u64 _ (by omega) (by omega)))) (yq rfl rfl rfl (Pure1.cast (v' := .int .u64 ((dg * V.getD e 0 : Nat) : Int)) (.binOp rfl rfl (fun _ => run_mul _ _ _ _ _)) (by rw [wrap_mul64 (by omega)])) (yq rfl rfl rfl (.move rfl) (yq rfl rfl rfl (Pure1.cast (v' := .int .u64 ((rest * 4294967296 : Nat) : Int)) (.binOp rfl rfl (fun _ => run_shl _ _ _ _ 32 (by decide))) (by rw [wrap_u64 _ (by omega) (by omega)])) (yq rfl rfl rfl (.move rfl) (yq rfl rfl rfl (Pure1.cast (v' := .int .i64 ((p.length : Nat) : Int)) (.move rfl) (by show Value.int _ _ = Value.int _ _; congr 1 <;> omega)) (yq rfl rfl rfl (.move rfl) (yq rfl rfl rfl (Pure1.cast (v' := .int .i64 ((p.length + (e + 2) : Nat) : Int)) (.add rfl rfl) (by show Value.int _ _ = Value.int _ _; congr 1 <;> omega)) (yq rfl rfl rfl (Pure1.cast (v' := .int .i64 ((p.length + e : Nat) : Int)) (.sub rfl rfl) (by show Value.int _ _ = Value.int _ _; congr 1 <;> omega)) (yq rfl rfl rfl (.indexAddr rfl rfl (ix_151 _ _ _ _ _ (by omega))) (yg rfl rfl rfl rfl mm Tryz.isAgg54 Tryz.sizeOf54 ((read_row 0 (by simp; omega)).trans (by rw [Nat.zero_add, getD_mid _ _ _ _ (by omega)])) ?_))))))))))
          refine yq rfl rfl rfl (.convert rfl (cv_54_45b _ (wrap_u64 _ (by omega) (by omega)))) (yq rfl rfl rfl (Pure1.cast (v' := .int .u64 ((4294967296 * rest + W.getD e 0 : Nat) : Int)) (.binOp rfl rfl (fun _ => run_or rfl _ _ _ _ _ (by show _ < 18446744073709551616; omega) (by show _ < 18446744073709551616; omega))) (by rw [or_hi _ _ hw0])) (yq rfl rfl rfl (.leq rfl rfl) ?_))
          refine head_bool (fun hc104  => ?_) (fun hc104  => ?_)
          · skip
            have hle : dg * V.getD e 0 ≤ 4294967296 * rest + W.getD e 0 := by have := of_decide_eq_true hc104; exact_mod_cast this
            refine yp rfl (.pickT rfl rfl) (yn ?_); intro a w h
            change Code.wp _ _ _ _ _
            refine cond_true h rfl ?_
            refine wp_exit ?_
            exact ⟨dg, hdg, guess_end hU3 hV2 (by omega) hvv2 hlv hIg (by omega) (.inr hle), hUd, h.sub sA⟩
          · skip
            have hcase : 4294967296 ≤ dg ∨ 4294967296 * rest + W.getD e 0 < dg * V.getD e 0 := .inr (by have := of_decide_eq_false hc104; exact Nat.lt_of_not_le fun hh => this (by exact_mod_cast hh))
            refine yp rfl (.pickT rfl rfl) (yn ?_); intro a w h
            change Code.wp _ _ _ _ _
            refine cond_false h rfl ?_
            refine wp_skip (wp_seq (wp_region_lit ?_))
            have hnext := guess_dec hU3 hV2 hlu hIg hUlt hcase
            have hdg0 : 0 < dg := Nat.pos_of_ne_zero fun h0 => by subst h0; simp at hnext
            refine gL h (zm rfl (zp (Pure1.cast (v' := .int .u64 ((dg - 1 : Nat) : Int)) (.binOp rfl rfl (fun _ => run_sub _ _ _ _ _)) (by rw [wrap_u64 _ (by omega) (by omega)]; congr 1; omega)) (za rfl (zn (zr (zm rfl (zm rfl (zm rfl (zp (Pure1.cast (v' := .int .i64 ((e + 1 : Nat) : Int)) (.sub rfl rfl) (by show Value.int _ _ = Value.int _ _; congr 1 <;> omega)) (zp (.indexAddr rfl rfl (ix_151 _ _ _ _ _ (by omega))) (zD rfl mm (by simp; omega) Tryz.isAgg54 Tryz.sizeOf54 (read_row 0 (by omega)) (.inr rfl) ?_))))))))))); clear h; intro a w h
            refine gL h (zp (.convert rfl (cv_54_45b _ (wrap_u64 _ (by omega) (by omega)))) (zp (Pure1.cast (v' := .int .u64 ((rest + V.getD (e + 1) 0 : Nat) : Int)) (.binOp rfl rfl (fun _ => run_add _ _ _ _ _)) (by rw [wrap_add64 (by omega)])) (za rfl (zn ?_)))); clear h; intro a w h
            exact ⟨dg - 1, ⟨rest + V.getD (e + 1) 0, guess_next hIg hdg0, by rw [Nat.sub_add_cancel hdg0]; exact hnext, by omega, h.sub sA⟩, by omega⟩
        · skip
          have hcase : 4294967296 ≤ dg ∨ 4294967296 * rest + W.getD e 0 < dg * V.getD e 0 := .inl (by have := of_decide_eq_false hc84; omega)
          refine yo 84 rfl rfl rfl rfl (yo 84 rfl rfl rfl rfl (yo 84 rfl rfl rfl rfl (yo 84 rfl rfl rfl rfl (yo 84 rfl rfl rfl rfl (yo 84 rfl rfl rfl rfl (yo 84 rfl rfl rfl rfl (yo 84 rfl rfl rfl rfl (yo 84 rfl rfl rfl rfl (yo 84 rfl rfl rfl rfl (yo 84 rfl rfl rfl rfl (yo 84 rfl rfl rfl rfl (yo 84 rfl rfl rfl rfl (yo 84 rfl rfl rfl rfl (yo 84 rfl rfl rfl rfl (yo 84 rfl rfl rfl rfl (yo 84 rfl rfl rfl rfl (yo 84 rfl rfl rfl rfl (yo 84 rfl rfl rfl rfl (yo 84 rfl rfl rfl rfl (yp rfl (.pickF rfl rfl) (yn ?_))))))))))))))))))))); intro a w h
          change Code.wp _ _ _ _ _
          refine cond_false h rfl ?_
          refine wp_skip (wp_seq (wp_region_lit ?_))
          have hnext := guess_dec hU3 hV2 hlu hIg hUlt hcase
          have hdg0 : 0 < dg := Nat.pos_of_ne_zero fun h0 => by subst h0; simp at hnext
          refine gL h (zm rfl (zp (Pure1.cast (v' := .int .u64 ((dg - 1 : Nat) : Int)) (.binOp rfl rfl (fun _ => run_sub _ _ _ _ _)) (by rw [wrap_u64 _ (by omega) (by omega)]; congr 1; omega)) (za rfl (zn (zr (zm rfl (zm rfl (zm rfl (zp (Pure1.cast (v' := .int .i64 ((e + 1 : Nat) : Int)) (.sub rfl rfl) (by show Value.int _ _ = Value.int _ _; congr 1 <;> omega)) (zp (.indexAddr rfl rfl (ix_151 _ _ _ _ _ (by omega))) (zD rfl mm (by simp; omega) Tryz.isAgg54 Tryz.sizeOf54 (read_row 0 (by omega)) (.inr rfl) ?_))))))))))); clear h; intro a w h
          refine gL h (zp (.convert rfl (cv_54_45b _ (wrap_u64 _ (by omega) (by omega)))) (zp (Pure1.cast (v' := .int .u64 ((rest + V.getD (e + 1) 0 : Nat) : Int)) (.binOp rfl rfl (fun _ => run_add _ _ _ _ _)) (by rw [wrap_add64 (by omega)])) (za rfl (zn ?_)))); clear h; intro a w h
          exact ⟨dg - 1, ⟨rest + V.getD (e + 1) 0, guess_next hIg hdg0, by rw [Nat.sub_add_cancel hdg0]; exact hnext, by omega, h.sub sA⟩, by omega⟩
      · skip
        have hr : 4294967296 ≤ rest := by have := of_decide_eq_false hc81; omega
        refine wp_exit ?_
        have hdg := digit_small hIg htop hr
        exact ⟨dg, hdg, guess_end hU3 hV2 (by omega) hvv2 hlv hIg (by omega) (.inl hr), hUd, h.sub sA⟩
    · clear h
      rintro a w ⟨dg, hdg, hend, hUd, h⟩
      refine wp_join (fun a w => ∃ (W3 : List Nat) (dg : Nat), dg < 4294967296 ∧ Wd W3 ∧ W3.length = V.length + 1 ∧ valW W3 + dg * valW V = valW W ∧ valW W3 < valW V ∧ St 175 S w0 [(4, .slice (some ⟨b39, 0, none⟩) M M), (6, .int .i64 (s : Int)), (7, .slice (some ⟨b26, 0, none⟩) Z0.length Z0.length), (8, .slice (some ⟨b29, 0, none⟩) V.length V0.length), (9, .int .i64 (V.length : Int)), (10, .int .i64 (((p.length + 1 : Nat) : Int) - 1)), (12, .int .u64 (dg : Int))] [(b26, .cells (u32s (p ++ W3 ++ hh)).toArray 54 (0, 0)), (b39, .cells (u32s Q).toArray 54 (0, 0))] [Row (some ⟨b29, 0, none⟩) (u32s V)] a w) ?_ ?_
      · skip
        refine gC h (zs (zr (zm rfl (zp (Pure1.cast (v' := .int .i64 ((p.length : Nat) : Int)) (.move rfl) (by show Value.int _ _ = Value.int _ _; congr 1 <;> omega)) (zp (Pure1.cast (v' := .int .i64 ((p.length : Nat) : Int)) (.move rfl) (by show Value.int _ _ = Value.int _ _; congr 1 <;> omega)) (zm rfl (zp (Pure1.cast (v' := .int .i64 ((p.length + V.length : Nat) : Int)) (.add rfl rfl) (by show Value.int _ _ = Value.int _ _; congr 1 <;> omega)) (zp (Pure1.cast (v' := .int .i64 ((p.length + V.length + 1 : Nat) : Int)) (.add rfl rfl) (by show Value.int _ _ = Value.int _ _; congr 1 <;> omega)) (zp (Pure1.cast (v' := .slice (some ⟨b26, p.length, none⟩) (V.length + 1) (Z0.length - p.length)) (.slice rfl (some _) (some _) none rfl rfl rfl (sll_151 _ _ _ _ _ _ (by omega) (by omega) (by omega))) (by rw [Nat.zero_add, show p.length + V.length + 1 - p.length = V.length + 1 by omega])) (zm rfl (zm rfl ?_))))))))))); clear h; intro a w h
        refine wpl_plain (op_callM h hS (vs := [_, _, _]) rfl Tryz.call211 (C_less b26 (Z0.length - p.length) p W hh (some ⟨b29, 0, none⟩) V0.length V dg hWw hV (by omega) hWl hdg (by omega) [(b39, .cells (u32s Q).toArray 54 (0, 0))] [Row (some ⟨b29, 0, none⟩) (u32s V)] List.mem_cons_self) (List.Perm.refl _) (by simp) (by simp) ?_); clear h; rintro v125 σ125 Ψ125 a w ⟨W1, l, hl, rfl, hW1, hW1l, hW1v, rfl, rfl⟩ h
        refine wpList_nil ?_
        change Code.wp _ _ _ _ _
        refine cond_split h rfl (fun hc125 => ?_) (fun hc125 => ?_)
        · skip
          have hl1 : 0 < l := by have := of_decide_eq_true hc125; omega
          have hW1lt := valW_lt hW1
          rw [hW1l] at hW1lt
          have hdg0 : 0 < dg := Nat.pos_of_ne_zero fun e0 => by
            subst e0
            obtain rfl : l = 1 := by omega
            omega
          refine gC h (zs (zr (zm rfl (zp (Pure1.cast (v' := .int .u64 ((dg - 1 : Nat) : Int)) (.binOp rfl rfl (fun _ => run_sub _ _ _ _ _)) (by rw [wrap_u64 _ (by omega) (by omega)]; congr 1; omega)) (za rfl (zn (zs (zr (za rfl (zn (zs (zs (zr (zm rfl (zp (.builtin [_] rfl (len_slice_151 _ _ _)) (zm rfl (zn (zb ?_)))))))))))))))))); clear h; intro a w h
          refine wp_loop_inv (fun (i : Nat) a w => ∃ (W2 : List Nat) (c : Nat), i ≤ V.length ∧ W2.length = V.length + 1 ∧ Wd W2 ∧ c ≤ 1 ∧ valW W2 + 4294967296 ^ i * (c + valW (V.drop i)) = valW W1 + valW V ∧ St 175 S w0 [(4, .slice (some ⟨b39, 0, none⟩) M M), (6, .int .i64 (s : Int)), (7, .slice (some ⟨b26, 0, none⟩) Z0.length Z0.length), (8, .slice (some ⟨b29, 0, none⟩) V.length V0.length), (9, .int .i64 (V.length : Int)), (10, .int .i64 (((p.length + 1 : Nat) : Int) - 1)), (12, .int .u64 ((dg - 1 : Nat) : Int)), (14, .int .u32 (c : Int)), (128, .slice (some ⟨b29, 0, none⟩) V.length V0.length), (129, .int .i64 (V.length : Int)), (130, .int .i64 (i : Int))] [(b26, .cells (u32s (p ++ W2 ++ hh)).toArray 54 (0, 0)), (b39, .cells (u32s Q).toArray 54 (0, 0))] [Row (some ⟨b29, 0, none⟩) (u32s V)] a w) (fun i => V.length - i) (0) (⟨W1, 0, Nat.zero_le _, hW1l, hW1, by decide, by simp, h.sub (subL ⟨rfl, rfl, rfl, rfl, rfl, rfl, rfl, rfl, rfl, rfl, rfl, trivial⟩)⟩) ?_; clear h
          rintro i a w ⟨W2, c, hi, hW2l, hW2, hc, hT2, h⟩
          refine gC h (zs (zr (zp (.lss rfl rfl) (zn (zs ?_))))); clear h; intro a w h
          refine cond_split h rfl (fun hc131 => ?_) (fun hc131 => ?_)
          · skip
            have hi' : i < V.length := by simpa using hc131
            refine gC h (zk (zs (zb (zs (zr (zm rfl (zp (.indexAddr rfl rfl (ix_151 _ _ _ _ _ (by omega))) (zD rfl mm (by simp; omega) Tryz.isAgg54 Tryz.sizeOf54 (read_row 0 (by omega)) (.inr rfl) ?_)))))))); clear h; intro a w h
            refine gL h (za rfl (za rfl (zn (zr (zm rfl (zp (Pure1.cast (v' := .int .i64 ((p.length : Nat) : Int)) (.move rfl) (by show Value.int _ _ = Value.int _ _; congr 1 <;> omega)) (zm rfl (zp (Pure1.cast (v' := .int .i64 ((p.length + i : Nat) : Int)) (.add rfl rfl) (by show Value.int _ _ = Value.int _ _; congr 1 <;> omega)) (zm rfl (zp (Pure1.cast (v' := .int .i64 ((p.length : Nat) : Int)) (.move rfl) (by show Value.int _ _ = Value.int _ _; congr 1 <;> omega)) (zm rfl (zp (Pure1.cast (v' := .int .i64 ((p.length + i : Nat) : Int)) (.add rfl rfl) (by show Value.int _ _ = Value.int _ _; congr 1 <;> omega)) (zp (.indexAddr rfl rfl (ix_151 _ _ _ _ _ (by omega))) (zd rfl mm Tryz.isAgg54 Tryz.sizeOf54 ((read_row 0 (by simp; omega)).trans (by rw [Nat.zero_add, getD_mid _ _ _ _ (by omega)])) ?_)))))))))))))); clear h; intro a w h
            refine gL h (zm rfl (zm rfl (zv [_, _, _] rfl Tryz.call140 (C_Add32 _ _ _ (hW2.getD i) (hV.getD i) hc) (zm rfl (zp (.extract rfl (fun _ => rfl)) (zp (.extract rfl (fun _ => rfl)) (zp (.indexAddr rfl rfl (ix_151 _ _ _ _ _ (by omega))) (zt' rfl rfl ((set_row (p ++ W2 ++ hh) (0 + (p.length + i)) ((W2.getD i 0 + V.getD i 0 + c) % 4294967296)).trans (by rw [Nat.zero_add, set_mid _ _ _ _ _ (by omega)])) uu Tryz.sizeOf54 rfl (by simp; omega) rfl ?_)))))))); clear h; intro a w h
            refine gL h (za rfl (zn (zr (zp (.add rfl rfl) (zm rfl (zn ?_)))))); clear h; intro a w h
            refine ⟨i + 1, ⟨W2.set i ((W2.getD i 0 + V.getD i 0 + c) % 4294967296), _, by omega, by simpa using hW2l, hW2.set _ _ (Nat.mod_lt _ (by decide)), ?_, add_step (by omega) hT2, h.sub (subL ⟨rfl, rfl, rfl, rfl, rfl, rfl, rfl, rfl, rfl, rfl, rfl, trivial⟩)⟩, by omega⟩
            have hz := hW2.getD i
            have hy := hV.getD i
            omega
          · skip
            have hi' : i = V.length := by simp at hc131; omega
            subst hi'
            refine gC h (ze (zr (zm rfl (zp (Pure1.cast (v' := .int .i64 ((p.length : Nat) : Int)) (.move rfl) (by show Value.int _ _ = Value.int _ _; congr 1 <;> omega)) (zm rfl (zp (Pure1.cast (v' := .int .i64 ((p.length + V.length : Nat) : Int)) (.add rfl rfl) (by show Value.int _ _ = Value.int _ _; congr 1 <;> omega)) (zp (.indexAddr rfl rfl (ix_151 _ _ _ _ _ (by omega))) (zd rfl mm Tryz.isAgg54 Tryz.sizeOf54 ((read_row 0 (by simp; omega)).trans (by rw [Nat.zero_add, getD_mid _ _ _ _ (by omega)])) ?_)))))))); clear h; intro a w h
            refine gL h (zm rfl (zp (Pure1.cast (v' := .int .u32 ((((W2.getD V.length 0 + c) % 4294967296) : Nat) : Int)) (.binOp rfl rfl (fun _ => run_add _ _ _ _ _)) (by rw [wrap_u32_mod]; congr 1)) (zp (.indexAddr rfl rfl (ix_151 _ _ _ _ _ (by omega))) (zt' rfl rfl ((set_row (p ++ W2 ++ hh) (0 + (p.length + V.length)) ((W2.getD V.length 0 + c) % 4294967296)).trans (by rw [Nat.zero_add, set_mid _ _ _ _ _ (by omega)])) uu Tryz.sizeOf54 rfl (by simp; omega) rfl ?_)))); clear h; intro a w h
            refine wpList_nil ?_
            have hst := add_step (Z := W2) (Y := V) (i := V.length) (by omega) hT2
            rw [getD_ge (Nat.le_refl V.length), Nat.add_zero, List.drop_eq_nil_of_le (by omega : V.length ≤ V.length + 1)] at hst
            simp only [valW, Nat.add_zero] at hst
            have hW3 : Wd (W2.set V.length ((W2.getD V.length 0 + c) % 4294967296)) := hW2.set _ _ (Nat.mod_lt _ (by decide))
            have hlt3 := valW_lt hW3
            rw [List.length_set, hW2l] at hlt3
            obtain ⟨_, hk1, hk2⟩ := knuth_back hW1v hl hW1lt hend (Nat.le_of_lt (Nat.lt_of_lt_of_le (valW_lt hV) (Nat.pow_le_pow_right (by decide) (Nat.le_succ _)))) hl1 hst hlt3
            exact ⟨_, dg - 1, by omega, hW3, by rw [List.length_set, hW2l], hk1, hk2, h.sub (subL ⟨rfl, rfl, rfl, rfl, rfl, rfl, rfl, trivial⟩)⟩
        · skip
          have hl1 : ¬ 0 < l := by have := of_decide_eq_false hc125; omega
          have hW1lt := valW_lt hW1
          rw [hW1l] at hW1lt
          refine wp_skip ?_
          obtain ⟨hk1, hk2⟩ := knuth_ok hW1v hW1lt hl hUd hl1
          exact ⟨W1, dg, hdg, hW1, hW1l, hk1, hk2, h.sub sA⟩
      · clear h
        clear hdg hend hUd
        rintro a w ⟨W3, dg, hdg, hW3, hW3l, hk1, hk2, h⟩
        refine gC h (zr (zm rfl (zp (Pure1.cast (v' := .int .i64 ((p.length : Nat) : Int)) (.move rfl) (by show Value.int _ _ = Value.int _ _; congr 1 <;> omega)) (zm rfl (zp (Pure1.cast (v' := .int .u32 (dg : Int)) (.convert rfl (cv_45_54 _)) (by rw [wrap_u32n hdg])) (zp (.indexAddr rfl rfl (ix_151 _ _ _ _ _ (by omega))) (zt' rfl rfl ((set_row Q (0 + p.length) dg).trans (by rw [Nat.zero_add])) uu Tryz.sizeOf54 rfl (by simp; omega) rfl ?_))))))); clear h; intro a w h
        refine gL h (zn (zr (zp (Pure1.cast (v' := .int .i64 ((p.length : Nat) : Int)) (.move rfl) (by show Value.int _ _ = Value.int _ _; congr 1 <;> omega)) (zp (.sub rfl rfl) (za rfl (zn ?_)))))); clear h; intro a w h
        exact ⟨p.length, ⟨p ++ W3 ++ hh, Q.set p.length dg, by omega, by simp at hZl ⊢; omega, (hpw.append hW3).append hhw, by simpa using hQl, hQ.set _ _ hdg, long_step (by omega) (by omega) hT hk1, long_rest hh0 hk2, h.sub sA⟩, by omega⟩
  · skip
    have hκ0 : κ = 0 := by simp at hc44; omega
    subst hκ0
    refine gC h (ze (zs (zs (zr (zm rfl (zm rfl (zn (zb ?_)))))))); clear h; intro a w h
    refine wp_loop_inv (fun (i : Nat) a w => ∃ R : List Nat, i ≤ s ∧ Wd R ∧ R.length = Z0.length ∧ valW R = valW Z / 2 ^ i ∧ St 175 S w0 [(4, .slice (some ⟨b39, 0, none⟩) M M), (6, .int .i64 (s : Int)), (7, .slice (some ⟨b26, 0, none⟩) R.length Z0.length), (167, .int .i64 (s : Int)), (168, .int .i64 (i : Int))] [(b26, .cells (u32s R).toArray 54 (0, 0)), (b39, .cells (u32s Q).toArray 54 (0, 0))] [Row (some ⟨b29, 0, none⟩) (u32s V)] a w) (fun i => s - i) (0) (⟨Z, Nat.zero_le _, hZ, hZl, by simp, by rw [hZl]; exact h.sub (subL ⟨rfl, rfl, rfl, rfl, rfl, trivial⟩)⟩) ?_; clear h
    rintro i a w ⟨R, hi, hR, hRl, hRv, h⟩
    refine gC h (zs (zr (zp (.lss rfl rfl) (zn (zs ?_))))); clear h; intro a w h
    refine cond_split h rfl (fun hc169 => ?_) (fun hc169 => ?_)
    · skip
      have hi' : i < s := by simpa using hc169
      refine gC h (zk (zs (zb (zr (zm rfl ?_))))); clear h; intro a w h
      refine wpl_plain (op_callM h hS (vs := [_]) rfl Tryz.call212 (C_half b26 Z0.length R hR (by omega) [(b39, .cells (u32s Q).toArray 54 (0, 0))] [Row (some ⟨b29, 0, none⟩) (u32s V)]) (List.Perm.refl _) (by simp) (by simp) ?_); clear h; rintro v171 σ171 Ψ171 a w ⟨R2, hR2, hR2l, hR2v, rfl, rfl⟩ h
      refine gL h (zn (zr (zp (.add rfl rfl) (zm rfl (zn ?_))))); clear h; intro a w h
      exact ⟨i + 1, ⟨R2, by omega, hR2, by omega, by rw [hR2v, hRv, Nat.div_div_eq_div_mul, ← Nat.pow_succ], by rw [hR2l]; exact h.sub sA⟩, by omega⟩
    · skip
      have hi' : i = s := by simp at hc169; omega
      refine gC h (ze (zs (zr (zm rfl (zm rfl (za rfl (za rfl (zn (zt ?_))))))))); clear h; intro a w h
      subst hi'
      simp only [List.drop_zero, Nat.pow_zero, Nat.one_mul] at hT hR
      obtain ⟨hq, hr⟩ := long_final (hT.trans hZ0v) ‹valW Z < valW V› hVv
      replace h := h.shareAll hS (u32s R) rfl
      replace h := h.shareAll hS (u32s Q) rfl
      rw [← hQl] at h
      refine ret_of (Ψ := [Row (some ⟨b39, 0, none⟩) (u32s Q), Row (some ⟨b26, 0, none⟩) (u32s R)]) h (results2 h rfl (.tmp rfl) (.tmp rfl)) ⟨_, _, _, _, Q, R, rfl, hQ, ‹Wd R›, by omega, by omega, by omega, by omega, hq, by rw [hRv, hr], rfl⟩ (by simp)
end
section
theorem wds_lastD {m : Nat} (h : m ≠ 0) : (wds m).getD ((wds m).length - 1) 0 ≠ 0 := by
  have hne : wds m ≠ [] := fun e => h (by rw [← valW_wds m, e]; rfl)
  have := wds_last m hne
  rw [List.getLast_eq_getElem] at this
  have hl : (wds m).length - 1 < (wds m).length := by have := List.length_pos_iff.2 hne; omega
  simpa [List.getD, hl] using this
theorem wds_pos_len {m : Nat} (h : m ≠ 0) : 0 < (wds m).length := List.length_pos_iff.2 fun e => h (by rw [← valW_wds m, e]; rfl)
theorem wds_len_mono {n m : Nat} (h : n ≤ m) : (wds n).length ≤ (wds m).length := Nat.le_of_not_lt fun hl => by have := wds_len_lt hl; omega
theorem wds_one {m : Nat} (h : (wds m).length = 1) : (wds m).getD 0 0 = m := by
  have e := valW_wds m
  match hw : wds m, h with
  | [x], _ => rw [hw] at e; simpa [valW] using e
theorem C_Div (n m : Nat) (hn : (wds n).length ≤ 500000000000) (hm : (wds m).length ≤ 500000000000) (h0 : m ≠ 0) : CtrV Tryz.prog 125 [encN n, encN m] (.tuple #[encN (n / m), encN (n % m), .bool true]) := by
  refine fn_intro Tryz.func125 rfl Tryz.ntmps125 nb ?_
  intro S w0 a hS h
  refine gC h (zs (zr (zx rfl fun b2 => zx rfl fun b3 => zz Tryz.zeroValue47 fun b4 => zz Tryz.zeroValue47 fun b5 => za rfl (zn (zs (zb (zs (zr (zd rfl mr Tryz.isAgg47 Tryz.sizeOf47 (rd_2_0_2 _ _) ?_))))))))); clear h; intro a w h
  refine gL h (zv [_] rfl Tryz.call168 (C_zero m) (za rfl (zn ?_))); clear h; intro a w h
  change Code.wp _ _ _ _ _
  refine cond_split h rfl (fun hc12 => (by exfalso; exact h0 (of_decide_eq_true hc12))) (fun hc12 => ?_)
  refine gC h (zs (zr (zd rfl mr Tryz.isAgg47 Tryz.sizeOf47 (rd_2_0_2 _ _) ?_))); clear h; intro a w h
  refine gL h (zd rfl mr Tryz.isAgg47 Tryz.sizeOf47 (rd_2_0_2 _ _) ?_); clear h; intro a w h
  refine gL h (zv [_, _] rfl Tryz.call169 (C_Cmp n m (by omega) (by omega)) (zp (.lss rfl rfl) (za rfl (zn ?_)))); clear h; intro a w h
  change Code.wp _ _ _ _ _
  refine cond_split h rfl (fun hc17 => ?_) (fun hc17 => ?_)
  · skip
    have hlt : n < m := by rw [cmpI_neg] at hc17; exact of_decide_eq_true hc17
    refine gC h (zs (yD mixed_YtgkicbaomcmfoaaGreatDoor [0, 1, 2, 3, 4] (floatsOK_none (by kernel_rfl)) (yp rfl (.build [] rfl (bd_47_z)) ?_))); clear h
    refine head_loadLate [4] rfl (by kernel_rfl) rfl mr Tryz.isAgg47 Tryz.sizeOf47 (rd_2_0_2 _ _) (fun a w σx hst => by intro t ht; simp only [List.mem_cons, List.not_mem_nil, or_false] at ht; rcases ht with rfl <;> exact ⟨_, rfl, by have h1 := (List.pairwise_append.1 hst.nd).2.1; simp at h1; dsimp only; omega⟩) (by decide) ?_
    refine yt rfl rfl rfl (st_2_0_2 _ _ _ _) uu Tryz.sizeOf47 rfl nb rfl ?_
    refine yt rfl rfl rfl (st_2_0_2 _ _ _ _) uu Tryz.sizeOf47 rfl nb rfl ?_
    refine yp rfl (.assign rfl) (yn (zt ?_)); intro a w h
    refine retV h (results3 h rfl (.cell rfl mr Tryz.isAgg47 Tryz.sizeOf47 (rd_2_0_2 _ _)) (.cell rfl mr Tryz.isAgg47 Tryz.sizeOf47 (rd_2_0_2 _ _)) (.tmp rfl)) ?_
    rw [Nat.div_eq_of_lt hlt, Nat.mod_eq_of_lt hlt]; rfl
  · skip
    have hle : m ≤ n := by rw [cmpI_neg] at hc17; exact Nat.le_of_not_lt (of_decide_eq_false hc17)
    refine gC h (zs (zr (zp (.fieldAddr rfl (fa_47_1 _ _)) (zd rfl mr Tryz.isAgg9 Tryz.sizeOf9 (rs_2_1 _ _) ?_)))); clear h; intro a w h
    refine gL h (zp (.binOp rfl rfl (fun _ => run_seql _ _ _ _ _)) (za rfl (zn ?_))); clear h; intro a w h
    change Code.wp _ _ _ _ _
    refine cond_split h rfl (fun hc24 => ?_) (fun hc24 => ?_)
    · skip
      have ha : n < 18446744073709551616 := bigN_empty.1 (by simpa using hc24)
      have hb : m < 18446744073709551616 := by omega
      refine gC h (zs (yD mixed_YtgkicbaomcmfoaaGreatDoor [0, 1, 2, 3, 4, 5, 6, 7, 8, 9, 10, 11, 12, 13, 14] (floatsOK_none (by kernel_rfl)) (yp rfl (.fieldAddr rfl (fa_47_0 _ _)) (yd rfl rfl mr Tryz.isAgg45 Tryz.sizeOf45 (rs_2_0 _ _) ?_)))); clear h
      refine yp rfl (.fieldAddr rfl (fa_47_0 _ _)) (yd rfl rfl mr Tryz.isAgg45 Tryz.sizeOf45 (rs_2_0 _ _) ?_)
      refine yp rfl (Pure1.cast (v' := .int .u64 ((n / m : Nat) : Int)) (.binOp rfl rfl (fun _ => run_quo _ _ _ _ _ (by rw [lowN_small hb]; omega))) (by rw [lowN_small ha, lowN_small hb, tdiv_nat, wrap_u64n (Nat.lt_of_le_of_lt (Nat.div_le_self _ _) ha)])) (yp rfl (.build [(_, _)] rfl (bd_47_0 _)) (yp rfl (.fieldAddr rfl (fa_47_0 _ _)) ?_))
      refine head_loadLate [4] rfl (by kernel_rfl) rfl mr Tryz.isAgg45 Tryz.sizeOf45 (rs_2_0 _ _) (fun a w σx hst => by intro t ht; simp only [List.mem_cons, List.not_mem_nil, or_false] at ht; rcases ht with rfl <;> exact ⟨_, rfl, by have h1 := (List.pairwise_append.1 hst.nd).2.1; simp at h1; dsimp only; omega⟩) (by decide) ?_
      refine yp rfl (.fieldAddr rfl (fa_47_0 _ _)) ?_
      refine head_loadLate [4] rfl (by kernel_rfl) rfl mr Tryz.isAgg45 Tryz.sizeOf45 (rs_2_0 _ _) (fun a w σx hst => by intro t ht; simp only [List.mem_cons, List.not_mem_nil, or_false] at ht; rcases ht with rfl <;> exact ⟨_, rfl, by have h1 := (List.pairwise_append.1 hst.nd).2.1; simp at h1; dsimp only; omega⟩) (by decide) ?_
      refine yp rfl (Pure1.cast (v' := .int .u64 ((n % m : Nat) : Int)) (.binOp rfl rfl (fun _ => run_rem _ _ _ _ _ (by rw [lowN_small hb]; omega))) (by rw [lowN_small ha, lowN_small hb, tmod_nat])) (yp rfl (.build [(_, _)] rfl (bd_47_0 _)) (yt rfl rfl rfl (st_2_0_2 _ _ _ _) uu Tryz.sizeOf47 rfl nb rfl ?_))
      refine yt rfl rfl rfl (st_2_0_2 _ _ _ _) uu Tryz.sizeOf47 rfl nb rfl ?_
      refine yp rfl (.assign rfl) (yn (zt ?_)); intro a w h
      refine retV h (results3 h rfl (.cell rfl mr Tryz.isAgg47 Tryz.sizeOf47 (rd_2_0_2 _ _)) (.cell rfl mr Tryz.isAgg47 Tryz.sizeOf47 (rd_2_0_2 _ _)) (.tmp rfl)) ?_
      rw [encN, encN, lowN_small (Nat.lt_of_le_of_lt (Nat.div_le_self _ _) ha), bigN_small (Nat.lt_of_le_of_lt (Nat.div_le_self _ _) ha), lowN_small (Nat.lt_of_le_of_lt (Nat.mod_le _ _) ha), bigN_small (Nat.lt_of_le_of_lt (Nat.mod_le _ _) ha)]
    · skip
      have ha : ¬ n < 18446744073709551616 := fun hn => by have := bigN_empty.2 hn; simp [this] at hc24
      refine gC h (zk (zs (zr (zd rfl mr Tryz.isAgg47 Tryz.sizeOf47 (rd_2_0_2 _ _) ?_)))); clear h; intro a w h
      refine gL h (zf [_] rfl Tryz.call92 (C_words m (by omega)) ?_); clear h; rintro v41 Ψ41 ⟨aY, cY, rfl, hcY, rfl⟩ a w h
      refine gL h (za rfl (zn (zs (zs (zr (zm rfl (zp (.builtin [_] rfl (len_slice_151 _ _ _)) (zp (.eql rfl rfl) (zn ?_))))))))); clear h; intro a w h
      change Code.wp _ _ _ _ _
      refine cond_split h rfl (fun hc44 => ?_) (fun hc44 => ?_)
      · skip
        have h1 : (wds m).length = 1 := natEq' (b := 1) hc44
        have hm1 := wds_one h1
        have hm2 := (Wd.wds m).getD 0
        rw [hm1] at hm2
        have hlt : 0 < (wds m).length := by omega
        obtain ⟨bY, bYo, bYe⟩ := h.row_addr (ad := aY) (M := u32s (wds m)) (by simp) (by simp; intro e; simp [e] at hlt)
        subst bYe
        refine gC h (zs (yD mixed_YtgkicbaomcmfoaaGreatDoor [0, 2, 3, 4, 1, 5, 6, 7, 8, 9, 10] (floatsOK_none (by kernel_rfl)) (yd rfl rfl mr Tryz.isAgg47 Tryz.sizeOf47 (rd_2_0_2 _ _) ?_))); clear h
        refine yp rfl (.move rfl) (yp rfl (.indexAddr rfl rfl (ix_151 _ _ _ _ 0 (by omega))) ?_)
        refine head_loadRow rfl (by kernel_rfl) rfl mm (by simp; omega) Tryz.isAgg54 Tryz.sizeOf54 ((read_row 0 (by omega)).trans (by rw [hm1])) (.inr rfl) (by decide) ?_
        refine yf [_] rfl rfl Tryz.call92 (C_words n (by omega)) ?_; rintro v47 Ψ47 ⟨aX, cX, rfl, hcX, rfl⟩
        refine head_callO rfl (by kernel_rfl) (vs := [_, _]) rfl Tryz.call93 (C_short aX cX (wds n) m (Wd.wds n) (by omega) (by omega) hm2) (by simp) (by decide) ?_; rintro v51 σ51 ⟨bq, Q, rfl, hQ, hQl, hQv, rfl⟩
        refine yp rfl (.move rfl) (yp rfl (.extract rfl (fun _ => rfl)) (yp rfl (.extract rfl (fun _ => rfl)) (yp rfl (.assign rfl) (yp rfl (.assign rfl) (yn (zs (zr ?_))))))); intro a w h
        replace h := h.shareAll hS (u32s Q) rfl
        refine gL h (zm rfl (zw [_] rfl Tryz.call128 (C_of _ _ Q hQ (Nat.le_refl _) (by omega)) (zm rfl (zp (Pure1.cast (v' := .int .u64 ((n % m : Nat) : Int)) (.convert rfl (cv_54_45 _)) (by rw [valW_wds, wrap_u64n (Nat.lt_trans (Nat.mod_lt _ (by omega)) (by omega))])) (zp (.build [(_, _)] rfl (bd_47_0 _)) (zt' rfl rfl (st_2_0_2 _ _ _ _) uu Tryz.sizeOf47 rfl nb rfl ?_)))))); clear h; intro a w h
        refine gL h (zt' rfl rfl (st_2_0_2 _ _ _ _) uu Tryz.sizeOf47 rfl nb rfl ?_); clear h; intro a w h
        refine gL h (za rfl (zn (zt ?_))); clear h; intro a w h
        refine retV h (results3 h rfl (.cell rfl mr Tryz.isAgg47 Tryz.sizeOf47 (rd_2_0_2 _ _)) (.cell rfl mr Tryz.isAgg47 Tryz.sizeOf47 (rd_2_0_2 _ _)) (.tmp rfl)) ?_
        have hr : n % m < 18446744073709551616 := Nat.lt_trans (Nat.mod_lt _ (by omega)) (by omega)
        rw [hQv, valW_wds, encN, encN, lowN_small hr, bigN_small hr]
      · skip
        have h1 : (wds m).length ≠ 1 := natNe' (b := 1) hc44
        have h2 := wds_pos_len h0
        have h3 := wds_len_mono hle
        refine gC h (zk (zs (zr (zd rfl mr Tryz.isAgg47 Tryz.sizeOf47 (rd_2_0_2 _ _) ?_)))); clear h; intro a w h
        refine gL h (zf [_] rfl Tryz.call92 (C_words n (by omega)) ?_); clear h; rintro v61 Ψ61 ⟨aX, cX, rfl, hcX, rfl⟩ a w h
        refine gL h (zm rfl (zf [_, _] rfl Tryz.call170 (C_long aX cX (wds n) aY cY (wds m) (Wd.wds n) (Wd.wds m) hn (by omega) h3 (wds_lastD h0)) ?_)); clear h; rintro v63 Ψ63 ⟨a1, c1, a2, c2, Q, R, rfl, hQ, hR, hQc, hRc, hQl, hRl, hQv, hRv, rfl⟩ a w h
        refine gL h (zm rfl (zp (.extract rfl (fun _ => rfl)) (zp (.extract rfl (fun _ => rfl)) (za rfl (za rfl (zn (zs (zr (zm rfl (zw [_] rfl Tryz.call128 (C_of _ _ Q hQ hQc (by omega)) (zm rfl (zw [_] rfl Tryz.call128 (C_of _ _ R hR hRc (by omega)) (zt' rfl rfl (st_2_0_2 _ _ _ _) uu Tryz.sizeOf47 rfl nb rfl ?_))))))))))))); clear h; intro a w h
        refine gL h (zt' rfl rfl (st_2_0_2 _ _ _ _) uu Tryz.sizeOf47 rfl nb rfl ?_); clear h; intro a w h
        refine gL h (za rfl (zn (zt ?_))); clear h; intro a w h
        refine retV h (results3 h rfl (.cell rfl mr Tryz.isAgg47 Tryz.sizeOf47 (rd_2_0_2 _ _)) (.cell rfl mr Tryz.isAgg47 Tryz.sizeOf47 (rd_2_0_2 _ _)) (.tmp rfl)) ?_
        rw [hQv, hRv, valW_wds, valW_wds]
theorem C_Gcd (n m : Nat) (hn : (wds n).length ≤ 500000000000) (hm : (wds m).length ≤ 500000000000) : CtrV Tryz.prog 124 [encN n, encN m] (encN (Nat.gcd n m)) := by
  refine fn_intro Tryz.func124 rfl Tryz.ntmps124 nb ?_
  intro S w0 a hS h
  refine gC h (zs (zr (zx rfl fun b2 => zx rfl fun b3 => zz Tryz.zeroValue47 fun b4 => zn (zs (zb ?_))))); clear h; intro a w h
  refine wp_loop_inv (fun (y : Nat) a w => ∃ x : Nat, (wds x).length ≤ 500000000000 ∧ (wds y).length ≤ 500000000000 ∧ Nat.gcd x y = Nat.gcd n m ∧ St 21 S w0 [(2, .pointer (some ⟨b2, 0, none⟩)), (3, .pointer (some ⟨b3, 0, none⟩)), (4, .pointer (some ⟨b4, 0, none⟩))] [(b4, .cells (encN 0).cells 47 (0, 0)), (b3, .cells (encN y).cells 47 (0, 0)), (b2, .cells (encN x).cells 47 (0, 0))] [] a w) (fun y => y) (m) (⟨n, hn, hm, rfl, h.sub sA⟩) ?_; clear h
  rintro y a w ⟨x, hx, hy, hg, h⟩
  refine gC h (zs (zs (zr (zd rfl mr Tryz.isAgg47 Tryz.sizeOf47 (rd_2_0_2 _ _) ?_)))); clear h; intro a w h
  refine gL h (zv [_] rfl Tryz.call168 (C_zero y) (zp (.unOp rfl (un_not _)) (zn ?_))); clear h; intro a w h
  change Code.wp _ _ _ _ _
  refine cond_split h rfl (fun hc10 => ?_) (fun hc10 => ?_)
  · skip
    have hy0 : y ≠ 0 := by simpa using hc10
    refine gC h (zk (zb (zs (zr (zd rfl mr Tryz.isAgg47 Tryz.sizeOf47 (rd_2_0_2 _ _) ?_))))); clear h; intro a w h
    refine gL h (zd rfl mr Tryz.isAgg47 Tryz.sizeOf47 (rd_2_0_2 _ _) ?_); clear h; intro a w h
    refine gL h (zv [_, _] rfl Tryz.call125 (C_Div x y hx hy hy0) (zm rfl (zp (.extract rfl (fun _ => rfl)) (zp (.extract rfl (fun _ => rfl)) (zp (.extract rfl (fun _ => rfl)) (zz Tryz.zeroValue47 fun b5 => zz Tryz.zeroValue47 fun b6 => zt' rfl rfl (st_2_0_2 _ _ _ _) uu Tryz.sizeOf47 rfl nb rfl ?_)))))); clear h; intro a w h
    refine gL h (zt' rfl rfl (st_2_0_2 _ _ _ _) uu Tryz.sizeOf47 rfl nb rfl ?_); clear h; intro a w h
    refine gL h (za rfl (zn (yD mixed_YtgkicbaomcmfoaaGreatDoor [0, 1, 2, 3] (floatsOK_none (by kernel_rfl)) (yd rfl rfl mr Tryz.isAgg47 Tryz.sizeOf47 (rd_2_0_2 _ _) ?_)))); clear h
    refine head_loadLate [2] rfl (by kernel_rfl) rfl mr Tryz.isAgg47 Tryz.sizeOf47 (rd_2_0_2 _ _) (fun a w σx hst => by intro t ht; simp only [List.mem_cons, List.not_mem_nil, or_false] at ht; rcases ht with rfl <;> exact ⟨_, rfl, by have h1 := (List.pairwise_append.1 hst.nd).2.1; simp at h1; dsimp only; omega⟩) (by decide) ?_
    refine yt rfl rfl rfl (st_2_0_2 _ _ _ _) uu Tryz.sizeOf47 rfl nb rfl ?_
    refine yt rfl rfl rfl (st_2_0_2 _ _ _ _) uu Tryz.sizeOf47 rfl nb rfl ?_
    refine yn ?_; intro a w h
    exact ⟨x % y, ⟨y, hy, Nat.le_trans (wds_len_mono (Nat.le_of_lt (Nat.mod_lt _ (Nat.pos_of_ne_zero hy0)))) hy, by rw [← hg, Nat.gcd_comm y (x % y), ← Nat.gcd_rec, Nat.gcd_comm], (h.drop (.cons _ (.cons _ (List.Sublist.refl _)))).sub sA⟩, Nat.mod_lt _ (Nat.pos_of_ne_zero hy0)⟩
  · skip
    have hy0 : y = 0 := by simpa using hc10
    subst hy0
    refine gC h (ze (zs (zr (zd rfl mr Tryz.isAgg47 Tryz.sizeOf47 (rd_2_0_2 _ _) ?_)))); clear h; intro a w h
    refine gL h (zt' rfl rfl (st_2_0_2 _ _ _ _) uu Tryz.sizeOf47 rfl nb rfl ?_); clear h; intro a w h
    refine wpList_nil (wp_ret ?_)
    refine retV h (results1 h rfl (.cell rfl mr Tryz.isAgg47 Tryz.sizeOf47 (rd_2_0_2 _ _))) ?_
    rw [← hg, Nat.gcd_zero_right]
end
section
theorem bd_49_z (w : World) : (Instr.build 49 [].toArray).run Tryz.prog w = .ok (.agg #[.int .u64 0, .string ⟨#[]⟩]) w := by simp [go_sem]
theorem bd_49_0 (x0_0 : Value) (x0_1 : Value) (w : World) : (Instr.build 49 [(0, .agg #[x0_0, x0_1])].toArray).run Tryz.prog w = .ok (.agg #[x0_0, x0_1]) w := by simp [go_sem]
theorem bd_51_0_1 (x0_0 : Value) (x0_1 : Value) (x1 : Bool) (w : World) : (Instr.build 51 [(0, .agg #[x0_0, x0_1]), (1, .bool x1)].toArray).run Tryz.prog w = .ok (.agg #[x0_0, x0_1, .bool x1]) w := by simp [go_sem]
theorem st_3_0_3 (c0 c1 c2 v0 v1 v2 : Value) : setFrom #[c0, c1, c2] 0 [v0, v1, v2] = #[v0, v1, v2] := rfl
theorem rd_3_0_3 (c0 c1 c2 : Value) : readAt true 3 #[c0, c1, c2] 0 = some (.agg #[c0, c1, c2]) := rfl
theorem fa_51_1 (b off : Nat) (w : World) : (Instr.fieldAt 51 (.pointer (some ⟨b, off, none⟩)) 1).run Tryz.prog w = .ok (.pointer (some ⟨b, off + 2, none⟩)) w := by
  simp [go_sem]
theorem rs_3_2 (c0 c1 c2 : Value) : readAt false 1 #[c0, c1, c2] 2 = some c2 := rfl
theorem fa_51_0 (b off : Nat) (w : World) : (Instr.fieldAt 51 (.pointer (some ⟨b, off, none⟩)) 0).run Tryz.prog w = .ok (.pointer (some ⟨b, off + 0, none⟩)) w := by
  simp [go_sem]
theorem fa_49_0 (b off : Nat) (w : World) : (Instr.fieldAt 49 (.pointer (some ⟨b, off, none⟩)) 0).run Tryz.prog w = .ok (.pointer (some ⟨b, off + 0, none⟩)) w := by
  simp [go_sem]
theorem rd_3_0_2 (c0 c1 c2 : Value) : readAt true 2 #[c0, c1, c2] 0 = some (.agg #[c0, c1]) := rfl
def lenZ (z : Int) : Nat := (wds z.natAbs).length
def sgZ (neg : Bool) (n : Nat) : Int := if neg then -(n : Int) else (n : Int)
theorem sgZ_abs (neg : Bool) (n : Nat) : (sgZ neg n).natAbs = n := by unfold sgZ; split <;> omega
theorem sgZ_self (z : Int) : sgZ (decide (z < 0)) z.natAbs = z := by unfold sgZ; split <;> simp_all <;> omega
theorem sgZ_neg (neg : Bool) (n : Nat) : decide (sgZ neg n < 0) = (neg && !decide (n = 0)) := by
  unfold sgZ; cases neg <;> by_cases h : n = 0 <;> simp [h] <;> omega
theorem encS_eq (X Y : Operand) (n m : Nat) (w : World) : (do eqGuard .eql 49 X Y (encN n) (encN m); Go.binOp .eql 49 (encN n) (encN m) : Sem Value).run Tryz.prog w = .ok (.bool (decide (n = m))) w := by
  simp [go_sem]
  have hb : ((bigN n).toList = (bigN m).toList) ↔ bigN n = bigN m := by have := toList_beq (bigN n) (bigN m); rw [Bool.eq_iff_iff] at this; simpa using this
  by_cases h : n = m
  · subst h; simp
  · have hne := fun h1 h2 => h (enc_inj h1 h2)
    by_cases h1 : lowN n = lowN m
    · simp only [h, h1, hb, if_true, decide_false]; exact if_neg (hne h1)
    · simp [h, h1]
theorem C_szero (n : Nat) : CtrV Tryz.prog 117 [encN n] (.bool (decide (n = 0))) := by
  refine fn_intro Tryz.func117 rfl Tryz.ntmps117 nb ?_
  intro S w0 a hS h
  refine gC h (zs (zr (zx rfl fun b1 => za rfl (zn (zs (zr (zd rfl mr Tryz.isAgg49 Tryz.sizeOf49 (rd_2_0_2 _ _) ?_))))))); clear h; intro a w h
  refine gL h (zp (Pure1.cast (v' := encN 0) (.build [] rfl (bd_49_z)) (by rfl)) (zp (.binOp rfl rfl (fun _ => encS_eq _ _ n 0 _)) (za rfl (zn (zt ?_))))); clear h; intro a w h
  refine retV h (results1 h rfl (.tmp rfl)) ?_
  rfl
theorem C_From (neg : Bool) (n : Nat) : CtrV Tryz.prog 75 [.bool neg, encN n] (encZ (sgZ neg n)) := by
  refine fn_intro Tryz.func75 rfl Tryz.ntmps75 nb ?_
  intro S w0 a hS h
  refine gC h (zs (zr (zx rfl fun b3 => zz Tryz.zeroValue51 fun b4 => zn (zs (zr (zd rfl mr Tryz.isAgg47 Tryz.sizeOf47 (rd_2_0_2 _ _) ?_)))))); clear h; intro a w h
  refine gL h (zp (.build [(_, _)] rfl (bd_49_0 _ _)) (zz Tryz.zeroValue49 fun b5 => zt' rfl rfl (st_2_0_2 _ _ _ _) uu Tryz.sizeOf49 rfl nb rfl ?_)); clear h; intro a w h
  refine gL h (zn (zs (yD mixed_YtgkicbaomcmfoaaGreatDoor [0, 1, 2, 3, 4, 5, 6, 7, 8] (floatsOK_none (by kernel_rfl)) (yd rfl rfl mr Tryz.isAgg49 Tryz.sizeOf49 (rd_2_0_2 _ _) ?_)))); clear h
  refine yp rfl (.move rfl) (yp rfl (.move rfl) ?_)
  refine head_bool (fun hc10  => ?_) (fun hc10  => ?_)
  · skip
    refine yg rfl rfl rfl rfl mr Tryz.isAgg49 Tryz.sizeOf49 (rd_2_0_2 _ _) ?_
    refine head_callVG rfl rfl rfl (by kernel_rfl) (vs := [_]) rfl Tryz.call117 (C_szero n) (by decide) ?_
    refine yq rfl rfl rfl (.unOp rfl (un_not _)) (yp rfl (.pickT rfl rfl) (yp rfl (.build [(_, _), (_, _)] rfl (bd_51_0_1 _ _ _)) (yt rfl rfl rfl (st_3_0_3 _ _ _ _ _ _) uu Tryz.sizeOf51 rfl nb rfl ?_)))
    refine yn (zt ?_); intro a w h
    refine retV h (results1 h rfl (.cell rfl mr Tryz.isAgg51 Tryz.sizeOf51 (rd_3_0_3 _ _ _))) ?_
    subst hc10; rw [encZ, sgZ_abs, sgZ_neg]; rfl
  · skip
    refine yo 10 rfl rfl rfl rfl (yo 10 rfl rfl rfl rfl (yo 10 rfl rfl rfl rfl (yp rfl (.pickF rfl rfl) (yp rfl (.build [(_, _), (_, _)] rfl (bd_51_0_1 _ _ _)) (yt rfl rfl rfl (st_3_0_3 _ _ _ _ _ _) uu Tryz.sizeOf51 rfl nb rfl ?_)))))
    refine yn (zt ?_); intro a w h
    refine retV h (results1 h rfl (.cell rfl mr Tryz.isAgg51 Tryz.sizeOf51 (rd_3_0_3 _ _ _))) ?_
    subst hc10; rw [encZ, sgZ_abs, sgZ_neg]; rfl
theorem C_plus (x y : Int) (hx : lenZ x ≤ 400000000000) (hy : lenZ y ≤ 400000000000) : CtrV Tryz.prog 172 [encZ x, encZ y] (encZ (x + y)) := by
  unfold lenZ at hx hy
  refine fn_intro Tryz.func172 rfl Tryz.ntmps172 nb ?_
  intro S w0 a hS h
  refine gC h (zs (zr (zx rfl fun b2 => zx rfl fun b3 => zz Tryz.zeroValue51 fun b4 => zn (zs (zs (zr (zp (.fieldAddr rfl (fa_51_1 _ _)) (zd rfl mr Tryz.isAgg4 Tryz.sizeOf4 (rs_3_2 _ _ _) ?_)))))))); clear h; intro a w h
  refine gL h (zp (.fieldAddr rfl (fa_51_1 _ _)) (zd rfl mr Tryz.isAgg4 Tryz.sizeOf4 (rs_3_2 _ _ _) ?_)); clear h; intro a w h
  refine gL h (zp (.binOp rfl rfl (fun _ => run_beql _ Tryz.underlying4 _ _ _ _)) (zn ?_)); clear h; intro a w h
  change Code.wp _ _ _ _ _
  refine cond_split h rfl (fun hc13 => ?_) (fun hc13 => ?_)
  · skip
    refine gC h (zs (yD mixed_YtgkicbaomcmfoaaGreatDoor [0, 1, 2, 3, 4, 5, 6, 7, 8, 9, 10] (floatsOK_none (by kernel_rfl)) (yp rfl (.fieldAddr rfl (fa_51_1 _ _)) (yd rfl rfl mr Tryz.isAgg4 Tryz.sizeOf4 (rs_3_2 _ _ _) ?_)))); clear h
    refine yp rfl (.fieldAddr rfl (fa_51_0 _ _)) (yp rfl (.fieldAddr rfl (fa_49_0 _ _)) (yd rfl rfl mr Tryz.isAgg47 Tryz.sizeOf47 (rd_3_0_2 _ _ _) ?_))
    refine yp rfl (.fieldAddr rfl (fa_51_0 _ _)) (yp rfl (.fieldAddr rfl (fa_49_0 _ _)) (yd rfl rfl mr Tryz.isAgg47 Tryz.sizeOf47 (rd_3_0_2 _ _ _) ?_))
    refine yv [_, _] rfl rfl Tryz.call97 (C_Add _ _ (by omega) (by omega)) (yv [_, _] rfl rfl Tryz.call75 (C_From _ _) (yt rfl rfl rfl (st_3_0_3 _ _ _ _ _ _) uu Tryz.sizeOf51 rfl nb rfl ?_))
    refine yn (zt ?_); intro a w h
    refine retV h (results1 h rfl (.cell rfl mr Tryz.isAgg51 Tryz.sizeOf51 (rd_3_0_3 _ _ _))) ?_
    rw [show sgZ (decide (x < 0)) (x.natAbs + y.natAbs) = x + y from by unfold sgZ; by_cases h1 : x < 0 <;> by_cases h2 : y < 0 <;> simp [h1, h2] at hc13 ⊢ <;> omega]
  · skip
    refine gC h (zk (zs (zs (zr (zp (.fieldAddr rfl (fa_51_0 _ _)) (zp (.fieldAddr rfl (fa_49_0 _ _)) (zd rfl mr Tryz.isAgg47 Tryz.sizeOf47 (rd_3_0_2 _ _ _) ?_))))))); clear h; intro a w h
    refine gL h (zp (.fieldAddr rfl (fa_51_0 _ _)) (zp (.fieldAddr rfl (fa_49_0 _ _)) (zd rfl mr Tryz.isAgg47 Tryz.sizeOf47 (rd_3_0_2 _ _ _) ?_))); clear h; intro a w h
    refine gL h (zv [_, _] rfl Tryz.call126 (C_Sub x.natAbs y.natAbs (by omega) (by omega)) (zm rfl (zp (.extract rfl (fun _ => rfl)) (zp (.extract rfl (fun _ => rfl)) (zz Tryz.zeroValue47 fun b5 => zt' rfl rfl (st_2_0_2 _ _ _ _) uu Tryz.sizeOf47 rfl nb rfl ?_))))); clear h; intro a w h
    refine gL h (za rfl (zn (zs (zr (zm rfl (zn ?_)))))); clear h; intro a w h
    change Code.wp _ _ _ _ _
    refine cond_split h rfl (fun hc34 => ?_) (fun hc34 => ?_)
    · skip
      refine gC h (zs (zr (zp (.fieldAddr rfl (fa_51_1 _ _)) (zd rfl mr Tryz.isAgg4 Tryz.sizeOf4 (rs_3_2 _ _ _) ?_)))); clear h; intro a w h
      refine gL h (zd rfl mr Tryz.isAgg47 Tryz.sizeOf47 (rd_2_0_2 _ _) ?_); clear h; intro a w h
      refine gL h (zv [_, _] rfl Tryz.call75 (C_From _ _) (zt' rfl rfl (st_3_0_3 _ _ _ _ _ _) uu Tryz.sizeOf51 rfl nb rfl ?_)); clear h; intro a w h
      refine wpList_nil (wp_ret ?_)
      refine retV h (results1 h rfl (.cell rfl mr Tryz.isAgg51 Tryz.sizeOf51 (rd_3_0_3 _ _ _))) ?_
      have hle : y.natAbs ≤ x.natAbs := of_decide_eq_true hc34
      rw [show sgZ (decide (x < 0)) (x.natAbs - y.natAbs) = x + y from by unfold sgZ; by_cases h1 : x < 0 <;> by_cases h2 : y < 0 <;> simp [h1, h2] at hc13 ⊢ <;> omega]
    · skip
      refine gC h (zk (zs (zr (zp (.fieldAddr rfl (fa_51_0 _ _)) (zp (.fieldAddr rfl (fa_49_0 _ _)) (zd rfl mr Tryz.isAgg47 Tryz.sizeOf47 (rd_3_0_2 _ _ _) ?_)))))); clear h; intro a w h
      refine gL h (zp (.fieldAddr rfl (fa_51_0 _ _)) (zp (.fieldAddr rfl (fa_49_0 _ _)) (zd rfl mr Tryz.isAgg47 Tryz.sizeOf47 (rd_3_0_2 _ _ _) ?_))); clear h; intro a w h
      refine gL h (zv [_, _] rfl Tryz.call126 (C_Sub y.natAbs x.natAbs (by omega) (by omega)) (zm rfl (zp (.extract rfl (fun _ => rfl)) (zp (.extract rfl (fun _ => rfl)) (zz Tryz.zeroValue47 fun b7 => zt' rfl rfl (st_2_0_2 _ _ _ _) uu Tryz.sizeOf47 rfl nb rfl ?_))))); clear h; intro a w h
      refine gL h (za rfl (zn (zs (zr (zp (.fieldAddr rfl (fa_51_1 _ _)) (zd rfl mr Tryz.isAgg4 Tryz.sizeOf4 (rs_3_2 _ _ _) ?_)))))); clear h; intro a w h
      refine gL h (zd rfl mr Tryz.isAgg47 Tryz.sizeOf47 (rd_2_0_2 _ _) ?_); clear h; intro a w h
      refine gL h (zv [_, _] rfl Tryz.call75 (C_From _ _) (zt' rfl rfl (st_3_0_3 _ _ _ _ _ _) uu Tryz.sizeOf51 rfl nb rfl ?_)); clear h; intro a w h
      refine wpList_nil (wp_ret ?_)
      refine retV h (results1 h rfl (.cell rfl mr Tryz.isAgg51 Tryz.sizeOf51 (rd_3_0_3 _ _ _))) ?_
      have hle : ¬ y.natAbs ≤ x.natAbs := of_decide_eq_false hc34
      rw [show sgZ (decide (y < 0)) (y.natAbs - x.natAbs) = x + y from by unfold sgZ; by_cases h1 : x < 0 <;> by_cases h2 : y < 0 <;> simp [h1, h2] at hc13 ⊢ <;> omega]
theorem C_times (x y : Int) (hx : lenZ x ≤ 400000000000) (hy : lenZ y ≤ 400000000000) : CtrV Tryz.prog 123 [encZ x, encZ y] (encZ (x * y)) := by
  unfold lenZ at hx hy
  refine fn_intro Tryz.func123 rfl Tryz.ntmps123 nb ?_
  intro S w0 a hS h
  refine gC h (zs (zr (zx rfl fun b2 => zx rfl fun b3 => zz Tryz.zeroValue51 fun b4 => zn (zs (yD mixed_YtgkicbaomcmfoaaGreatDoor [0, 1, 2, 3, 4, 5, 6, 7, 8, 9, 10, 11, 12, 13] (floatsOK_none (by kernel_rfl)) (yp rfl (.fieldAddr rfl (fa_51_1 _ _)) (yd rfl rfl mr Tryz.isAgg4 Tryz.sizeOf4 (rs_3_2 _ _ _) ?_))))))); clear h
  refine yp rfl (.fieldAddr rfl (fa_51_1 _ _)) (yd rfl rfl mr Tryz.isAgg4 Tryz.sizeOf4 (rs_3_2 _ _ _) ?_)
  refine yp rfl (.binOp rfl rfl (fun _ => run_bneq _ Tryz.underlying4 _ _ _ _)) (yp rfl (.fieldAddr rfl (fa_51_0 _ _)) (yp rfl (.fieldAddr rfl (fa_49_0 _ _)) (yd rfl rfl mr Tryz.isAgg47 Tryz.sizeOf47 (rd_3_0_2 _ _ _) ?_)))
  refine yp rfl (.fieldAddr rfl (fa_51_0 _ _)) (yp rfl (.fieldAddr rfl (fa_49_0 _ _)) (yd rfl rfl mr Tryz.isAgg47 Tryz.sizeOf47 (rd_3_0_2 _ _ _) ?_))
  refine yv [_, _] rfl rfl Tryz.call85 (C_Mul _ _ (by omega) (by omega)) (yv [_, _] rfl rfl Tryz.call75 (C_From _ _) (yt rfl rfl rfl (st_3_0_3 _ _ _ _ _ _) uu Tryz.sizeOf51 rfl nb rfl ?_))
  refine yn (zt ?_); intro a w h
  refine retV h (results1 h rfl (.cell rfl mr Tryz.isAgg51 Tryz.sizeOf51 (rd_3_0_3 _ _ _))) ?_
  rw [show sgZ (decide (x < 0) != decide (y < 0)) (x.natAbs * y.natAbs) = x * y from by
    conv => rhs; rw [← sgZ_self x, ← sgZ_self y]
    unfold sgZ
    by_cases h1 : x < 0 <;> by_cases h2 : y < 0 <;> simp only [h1, h2, decide_true, decide_false, bne_self_eq_false, Bool.true_bne, Bool.false_bne, Bool.not_true, Bool.not_false, if_true, Bool.false_eq_true, if_false, Int.natCast_mul, Int.neg_mul, Int.mul_neg, Int.neg_neg]]
theorem C_told_plus (x y : Int) (hx : lenZ x ≤ 400000000000) (hy : lenZ y ≤ 400000000000) : CtrV Tryz.prog 122 [.func (.func 172) #[] #[], encZ x, encZ y] (encZ (x + y)) := by
  refine fn_intro Tryz.func122 rfl Tryz.ntmps122 nb ?_
  intro S w0 a hS h
  refine gC h (zs (zr (zx rfl fun b4 => zx rfl fun b5 => zz Tryz.zeroValue51 fun b6 => zn (zs (zr (zm rfl (zd rfl mr Tryz.isAgg51 Tryz.sizeOf51 (rd_3_0_3 _ _ _) ?_))))))); clear h; intro a w h
  refine gL h (zd rfl mr Tryz.isAgg51 Tryz.sizeOf51 (rd_3_0_3 _ _ _) ?_); clear h; intro a w h
  refine wpl_plain (op_callVx h (fs := []) (cs := []) rfl (vs := [_, _]) rfl Tryz.call172 (C_plus x y hx hy) (by decide) ?_); clear h; intro a w h
  refine gL h (zt' rfl rfl (st_3_0_3 _ _ _ _ _ _) uu Tryz.sizeOf51 rfl nb rfl ?_); clear h; intro a w h
  refine wpList_nil (wp_ret ?_)
  refine retV h (results1 h rfl (.cell rfl mr Tryz.isAgg51 Tryz.sizeOf51 (rd_3_0_3 _ _ _))) ?_
  rfl
theorem C_ZAdd (x y : Int) (hx : lenZ x ≤ 400000000000) (hy : lenZ y ≤ 400000000000) : CtrV Tryz.prog 129 [encZ x, encZ y] (encZ (x + y)) := by
  refine fn_intro Tryz.func129 rfl Tryz.ntmps129 nb ?_
  intro S w0 a hS h
  refine gC h (zs (zr (zx rfl fun b2 => zx rfl fun b3 => zz Tryz.zeroValue51 fun b4 => zn (zs (zr (zd rfl mr Tryz.isAgg51 Tryz.sizeOf51 (rd_3_0_3 _ _ _) ?_)))))); clear h; intro a w h
  refine gL h (zd rfl mr Tryz.isAgg51 Tryz.sizeOf51 (rd_3_0_3 _ _ _) ?_); clear h; intro a w h
  refine gL h (zv [_, _, _] rfl Tryz.call122 (C_told_plus x y hx hy) (zt' rfl rfl (st_3_0_3 _ _ _ _ _ _) uu Tryz.sizeOf51 rfl nb rfl ?_)); clear h; intro a w h
  refine wpList_nil (wp_ret ?_)
  refine retV h (results1 h rfl (.cell rfl mr Tryz.isAgg51 Tryz.sizeOf51 (rd_3_0_3 _ _ _))) ?_
  rfl
theorem C_told_times (x y : Int) (hx : lenZ x ≤ 400000000000) (hy : lenZ y ≤ 400000000000) : CtrV Tryz.prog 122 [.func (.func 123) #[] #[], encZ x, encZ y] (encZ (x * y)) := by
  refine fn_intro Tryz.func122 rfl Tryz.ntmps122 nb ?_
  intro S w0 a hS h
  refine gC h (zs (zr (zx rfl fun b4 => zx rfl fun b5 => zz Tryz.zeroValue51 fun b6 => zn (zs (zr (zm rfl (zd rfl mr Tryz.isAgg51 Tryz.sizeOf51 (rd_3_0_3 _ _ _) ?_))))))); clear h; intro a w h
  refine gL h (zd rfl mr Tryz.isAgg51 Tryz.sizeOf51 (rd_3_0_3 _ _ _) ?_); clear h; intro a w h
  refine wpl_plain (op_callVx h (fs := []) (cs := []) rfl (vs := [_, _]) rfl Tryz.call123 (C_times x y hx hy) (by decide) ?_); clear h; intro a w h
  refine gL h (zt' rfl rfl (st_3_0_3 _ _ _ _ _ _) uu Tryz.sizeOf51 rfl nb rfl ?_); clear h; intro a w h
  refine wpList_nil (wp_ret ?_)
  refine retV h (results1 h rfl (.cell rfl mr Tryz.isAgg51 Tryz.sizeOf51 (rd_3_0_3 _ _ _))) ?_
  rfl
theorem C_ZMul (x y : Int) (hx : lenZ x ≤ 400000000000) (hy : lenZ y ≤ 400000000000) : CtrV Tryz.prog 83 [encZ x, encZ y] (encZ (x * y)) := by
  refine fn_intro Tryz.func83 rfl Tryz.ntmps83 nb ?_
  intro S w0 a hS h
  refine gC h (zs (zr (zx rfl fun b2 => zx rfl fun b3 => zz Tryz.zeroValue51 fun b4 => zn (zs (zr (zd rfl mr Tryz.isAgg51 Tryz.sizeOf51 (rd_3_0_3 _ _ _) ?_)))))); clear h; intro a w h
  refine gL h (zd rfl mr Tryz.isAgg51 Tryz.sizeOf51 (rd_3_0_3 _ _ _) ?_); clear h; intro a w h
  refine gL h (zv [_, _, _] rfl Tryz.call122 (C_told_times x y hx hy) (zt' rfl rfl (st_3_0_3 _ _ _ _ _ _) uu Tryz.sizeOf51 rfl nb rfl ?_)); clear h; intro a w h
  refine wpList_nil (wp_ret ?_)
  refine retV h (results1 h rfl (.cell rfl mr Tryz.isAgg51 Tryz.sizeOf51 (rd_3_0_3 _ _ _))) ?_
  rfl
theorem C_ZAbs (x : Int) : CtrV Tryz.prog 76 [encZ x] (encN x.natAbs) := by
  refine fn_intro Tryz.func76 rfl Tryz.ntmps76 nb ?_
  intro S w0 a hS h
  refine gC h (zs (zr (zx rfl fun b1 => zz Tryz.zeroValue47 fun b2 => zn (zs (zr (zp (.fieldAddr rfl (fa_51_0 _ _)) (zp (.fieldAddr rfl (fa_49_0 _ _)) (zd rfl mr Tryz.isAgg47 Tryz.sizeOf47 (rd_3_0_2 _ _ _) ?_)))))))); clear h; intro a w h
  refine gL h (zt' rfl rfl (st_2_0_2 _ _ _ _) uu Tryz.sizeOf47 rfl nb rfl ?_); clear h; intro a w h
  refine wpList_nil (wp_ret ?_)
  refine retV h (results1 h rfl (.cell rfl mr Tryz.isAgg47 Tryz.sizeOf47 (rd_2_0_2 _ _))) ?_
  rfl
theorem C_ZSign (x : Int) : CtrV Tryz.prog 74 [encZ x] (.int .i64 x.sign) := by
  refine fn_intro Tryz.func74 rfl Tryz.ntmps74 nb ?_
  intro S w0 a hS h
  refine gC h (zs (zr (zx rfl fun b1 => za rfl (zn (zs (zb (zs (zr (zp (.fieldAddr rfl (fa_51_0 _ _)) (zd rfl mr Tryz.isAgg49 Tryz.sizeOf49 (rd_3_0_2 _ _ _) ?_)))))))))); clear h; intro a w h
  refine gL h (zv [_] rfl Tryz.call117 (C_szero x.natAbs) (za rfl (zn ?_))); clear h; intro a w h
  change Code.wp _ _ _ _ _
  refine cond_split h rfl (fun hc3 => ?_) (fun hc3 => ?_)
  · skip
    refine gC h (zs (zr (za rfl (zn (zt ?_))))); clear h; intro a w h
    refine retV h (results1 h rfl (.tmp rfl)) ?_
    rw [show x = 0 by have := of_decide_eq_true hc3; omega]; rfl
  · skip
    refine gC h (zs (zr (zp (.fieldAddr rfl (fa_51_1 _ _)) (zd rfl mr Tryz.isAgg4 Tryz.sizeOf4 (rs_3_2 _ _ _) ?_)))); clear h; intro a w h
    refine gL h (za rfl (zn ?_)); clear h; intro a w h
    change Code.wp _ _ _ _ _
    refine cond_split h rfl (fun hc7 => ?_) (fun hc7 => ?_)
    · skip
      refine gC h (zs (zr (za rfl (zn (zt ?_))))); clear h; intro a w h
      refine retV h (results1 h rfl (.tmp rfl)) ?_
      rw [Int.sign_eq_neg_one_of_neg (of_decide_eq_true hc7)]
    · skip
      refine gC h (zk (zs (zr (za rfl (zn (zt ?_)))))); clear h; intro a w h
      refine retV h (results1 h rfl (.tmp rfl)) ?_
      have h1 := of_decide_eq_false hc3; have h2 := of_decide_eq_false hc7; rw [Int.sign_eq_one_of_pos (by omega)]
end
section
theorem cv_2_45 (x : Int) (w : World) : (Go.convert 2 45 (.int .i64 x)).run Tryz.prog w = .ok (.int .u64 (IntKind.u64.wrap x)) w := by
  simp [go_sem]
theorem bd_53_0 (x0_0 : Value) (x0_1 : Value) (x0_2 : Value) (w : World) : (Instr.build 53 [(0, .agg #[x0_0, x0_1, x0_2])].toArray).run Tryz.prog w = .ok (.agg #[x0_0, x0_1, x0_2, .int .u64 0, .string ⟨#[]⟩]) w := by simp [go_sem]
theorem st_5_0_5 (c0 c1 c2 c3 c4 v0 v1 v2 v3 v4 : Value) : setFrom #[c0, c1, c2, c3, c4] 0 [v0, v1, v2, v3, v4] = #[v0, v1, v2, v3, v4] := rfl
theorem rd_5_0_5 (c0 c1 c2 c3 c4 : Value) : readAt true 5 #[c0, c1, c2, c3, c4] 0 = some (.agg #[c0, c1, c2, c3, c4]) := rfl
theorem fa_53_1 (b off : Nat) (w : World) : (Instr.fieldAt 53 (.pointer (some ⟨b, off, none⟩)) 1).run Tryz.prog w = .ok (.pointer (some ⟨b, off + 3, none⟩)) w := by
  simp [go_sem]
theorem rd_5_3_2 (c0 c1 c2 c3 c4 : Value) : readAt true 2 #[c0, c1, c2, c3, c4] 3 = some (.agg #[c3, c4]) := rfl
theorem bd_53_0_1 (x0_0 : Value) (x0_1 : Value) (x0_2 : Value) (x1_0 : Value) (x1_1 : Value) (w : World) : (Instr.build 53 [(0, .agg #[x0_0, x0_1, x0_2]), (1, .agg #[x1_0, x1_1])].toArray).run Tryz.prog w = .ok (.agg #[x0_0, x0_1, x0_2, x1_0, x1_1]) w := by simp [go_sem]
theorem fa_53_0 (b off : Nat) (w : World) : (Instr.fieldAt 53 (.pointer (some ⟨b, off, none⟩)) 0).run Tryz.prog w = .ok (.pointer (some ⟨b, off + 0, none⟩)) w := by
  simp [go_sem]
theorem rd_5_0_3 (c0 c1 c2 c3 c4 : Value) : readAt true 3 #[c0, c1, c2, c3, c4] 0 = some (.agg #[c0, c1, c2]) := rfl
theorem mkRat_parts (n : Int) (d : Nat) (hd : d ≠ 0) : (mkRat n d).num = sgZ (decide (n.sign < 0)) (n.natAbs / n.natAbs.gcd d) ∧ (mkRat n d).den = d / n.natAbs.gcd d := by
  rw [← Rat.normalize_eq_mkRat hd, Rat.normalize_eq hd]
  refine ⟨?_, rfl⟩
  show n / ((n.natAbs.gcd d : Nat) : Int) = _
  unfold sgZ
  have hg : ((n.natAbs.gcd d : Nat) : Int) ∣ n := Int.ofNat_dvd_left.2 (Nat.gcd_dvd_left _ _)
  have hg0 : n.natAbs.gcd d ≠ 0 := fun h => hd (Nat.gcd_eq_zero_iff.1 h).2
  have hdv := Nat.gcd_dvd_left n.natAbs d
  generalize n.natAbs.gcd d = g at *
  obtain ⟨k, hk⟩ := hdv
  rw [hk, Nat.mul_div_cancel_left k (Nat.pos_of_ne_zero hg0)]
  by_cases h : n < 0
  · have h2 : n.sign < 0 := by rw [Int.sign_eq_neg_one_of_neg h]; decide
    simp only [h2, decide_true, if_true]
    have : n = (g : Int) * -(k : Int) := by rw [Int.mul_neg, ← Int.natCast_mul, ← hk]; omega
    rw [this, Int.mul_ediv_cancel_left _ (by omega)]
  · have h2 : ¬ n.sign < 0 := by
      rcases Int.lt_or_eq_of_le (Int.not_lt.1 h) with h3 | h3
      · rw [Int.sign_eq_one_of_pos h3]; decide
      · rw [← h3]; decide
    simp only [h2, decide_false, Bool.false_eq_true, if_false]
    have : n = (g : Int) * (k : Int) := by rw [← Int.natCast_mul, ← hk]; omega
    rw [this, Int.mul_ediv_cancel_left _ (by omega)]
def lenQ (q : Rat) : Nat := max (lenZ q.num) (wds q.den).length
theorem lenQ_le {q : Rat} {k : Nat} (h : lenQ q ≤ k) : lenZ q.num ≤ k ∧ (wds q.den).length ≤ k := by unfold lenQ at h; omega
theorem wds_ge {n : Nat} (h : n ≠ 0) : 4294967296 ^ ((wds n).length - 1) ≤ n := by
  have hne : wds n ≠ [] := fun e => h (by rw [← valW_wds n, e]; rfl)
  have h2 := valW_wds n
  rw [← List.dropLast_concat_getLast hne, valW_append] at h2
  have h3 := wds_last _ hne
  simp only [valW, List.length_dropLast, Nat.mul_zero, Nat.add_zero] at h2
  have h5 : 4294967296 ^ ((wds n).length - 1) * 1 ≤ 4294967296 ^ ((wds n).length - 1) * (wds n).getLast hne := Nat.mul_le_mul_left _ (by omega)
  omega
theorem wds_len_le {n k : Nat} (h : n < 4294967296 ^ k) : (wds n).length ≤ k := by
  by_cases h0 : n = 0
  · subst h0; simp [wds_zero]
  · have h1 := wds_ge h0
    have h2 := (Nat.pow_lt_pow_iff_right (a := 4294967296) (by decide)).1 (Nat.lt_of_le_of_lt h1 h)
    omega
theorem wds_lt_pow (n : Nat) : n < 4294967296 ^ (wds n).length := by
  have := valW_lt (Wd.wds n); rwa [valW_wds] at this
theorem wds_len_mul (n m : Nat) : (wds (n * m)).length ≤ (wds n).length + (wds m).length :=
  wds_len_le (by rw [Nat.pow_add]; exact Nat.mul_lt_mul'' (wds_lt_pow n) (wds_lt_pow m))
theorem wds_len_add (n m : Nat) : (wds (n + m)).length ≤ max (wds n).length (wds m).length + 1 := wds_len_le (by
  have h1 := wds_lt_pow n
  have h2 := wds_lt_pow m
  have h3 : 4294967296 ^ (wds n).length ≤ 4294967296 ^ max (wds n).length (wds m).length := Nat.pow_le_pow_right (by decide) (by omega)
  have h4 : 4294967296 ^ (wds m).length ≤ 4294967296 ^ max (wds n).length (wds m).length := Nat.pow_le_pow_right (by decide) (by omega)
  rw [Nat.pow_succ]; omega)
theorem lenZ_mul (x y : Int) : lenZ (x * y) ≤ lenZ x + lenZ y := by unfold lenZ; rw [Int.natAbs_mul]; exact wds_len_mul _ _
theorem lenZ_add (x y : Int) : lenZ (x + y) ≤ max (lenZ x) (lenZ y) + 1 := by
  unfold lenZ; exact Nat.le_trans (wds_len_mono (Int.natAbs_add_le x y)) (wds_len_add _ _)
theorem lenQ_mkRat (n : Int) (d : Nat) (hd : d ≠ 0) : lenQ (mkRat n d) ≤ max (lenZ n) (wds d).length := by
  obtain ⟨h1, h2⟩ := mkRat_parts n d hd
  unfold lenQ lenZ
  rw [h1, h2, sgZ_abs]
  have a1 := wds_len_mono (Nat.div_le_self n.natAbs (n.natAbs.gcd d))
  have a2 := wds_len_mono (Nat.div_le_self d (n.natAbs.gcd d))
  omega
theorem lenQ_add (a b : Rat) : lenQ (a + b) ≤ lenQ a + lenQ b + 1 := by
  rw [Rat.add_def']
  have h := lenQ_mkRat (a.num * b.den + b.num * a.den) (a.den * b.den) (Nat.mul_ne_zero a.den_nz b.den_nz)
  have h1 := lenZ_add (a.num * b.den) (b.num * a.den)
  have h2 := lenZ_mul a.num b.den
  have h3 := lenZ_mul b.num a.den
  have h4 := wds_len_mul a.den b.den
  have e1 : lenZ (a.den : Int) = (wds a.den).length := rfl
  have e2 : lenZ (b.den : Int) = (wds b.den).length := rfl
  unfold lenQ at h ⊢
  omega
theorem lenQ_mul (a b : Rat) : lenQ (a * b) ≤ lenQ a + lenQ b := by
  rw [Rat.mul_def']
  have h := lenQ_mkRat (a.num * b.num) (a.den * b.den) (Nat.mul_ne_zero a.den_nz b.den_nz)
  have h2 := lenZ_mul a.num b.num
  have h4 := wds_len_mul a.den b.den
  unfold lenQ at h ⊢
  omega
theorem add_same {a b : Rat} (h : a.den = b.den) : mkRat (a.num + b.num) a.den = a + b := by
  rw [Rat.add_def', ← h, ← Int.add_mul, Rat.mkRat_mul_right a.den_nz]
theorem add_whole {a b : Rat} (ha : a.den = 1) (hb : b.den = 1) : ((a.num + b.num : Int) : Rat) = a + b := by
  rw [← add_same (a := a) (b := b) (by omega), ha, Rat.mkRat_one]
theorem mul_whole {a b : Rat} (ha : a.den = 1) (hb : b.den = 1) : ((a.num * b.num : Int) : Rat) = a * b := by
  rw [Rat.mul_def', ha, hb, Nat.mul_one, Rat.mkRat_one]
theorem inv_mkRat (y : Rat) (hy : y ≠ 0) : mkRat (sgZ (decide (y.num.sign < 0)) y.den) y.num.natAbs = y⁻¹ := by
  rw [Rat.inv_def]
  have h0 : y.num ≠ 0 := fun h => hy (Rat.num_eq_zero.1 h)
  unfold sgZ
  generalize y.num = m at *
  rcases Int.lt_or_gt_of_ne h0 with h | h
  · have h2 : m.sign < 0 := by rw [Int.sign_eq_neg_one_of_neg h]; decide
    simp only [h2, decide_true, if_true]
    obtain ⟨k, rfl⟩ : ∃ k : Nat, m = -(k : Int) := ⟨m.natAbs, by omega⟩
    have e : Rat.divInt (y.den : Int) (-(k : Int)) = Rat.divInt (-(y.den : Int)) (k : Int) := by
      have := Rat.neg_divInt_neg (-(y.den : Int)) (k : Int)
      rwa [Int.neg_neg] at this
    rw [e, Rat.divInt_ofNat, Int.natAbs_neg, Int.natAbs_natCast]
  · have h2 : ¬ m.sign < 0 := by rw [Int.sign_eq_one_of_pos h]; decide
    simp only [h2, decide_false, Bool.false_eq_true, if_false]
    obtain ⟨k, rfl⟩ : ∃ k : Nat, m = (k : Int) := ⟨m.natAbs, by omega⟩
    rw [Rat.divInt_ofNat, Int.natAbs_natCast]
theorem run_neg64 (x : Int) (w : World) : (Op.unary .neg (.int .u64 x)).run Tryz.prog w = .ok (.int .u64 (IntKind.u64.wrap (0 - x))) w := by simp [Op.unary, Op.intArith]
theorem C_ZOf (n : Int) (h0 : -9223372036854775808 ≤ n) (h1 : n ≤ 9223372036854775807) : CtrV Tryz.prog 59 [.int .i64 n] (encZ n) := by
  refine fn_intro Tryz.func59 rfl Tryz.ntmps59 nb ?_
  intro S w0 a hS h
  refine gC h (zs (zr (zz Tryz.zeroValue51 fun b2 => zn (zs (zs (zr (zm rfl (zp (.lss rfl rfl) (zn ?_))))))))); clear h; intro a w h
  change Code.wp _ _ _ _ _
  refine cond_split h rfl (fun hc4 => ?_) (fun hc4 => ?_)
  · skip
    have hn : n < 0 := of_decide_eq_true hc4
    refine gC h (zs (zr (zm rfl (zp (.convert rfl (cv_2_45 _)) (zp (.unOp rfl (fun w => by rw [run_neg64, wrap_u64_mod, wrap_u64_mod, show (0 - n % 18446744073709551616) % 18446744073709551616 = ((n.natAbs : Nat) : Int) by omega])) (zv [_] rfl Tryz.call98 (C_Of n.natAbs (by omega)) (zv [_, _] rfl Tryz.call75 (C_From true n.natAbs) (zt' rfl rfl (st_3_0_3 _ _ _ _ _ _) uu Tryz.sizeOf51 rfl nb rfl ?_)))))))); clear h; intro a w h
    refine wpList_nil (wp_ret ?_)
    refine retV h (results1 h rfl (.cell rfl mr Tryz.isAgg51 Tryz.sizeOf51 (rd_3_0_3 _ _ _))) ?_
    rw [show sgZ true n.natAbs = n from by unfold sgZ; simp; omega]
  · skip
    have hn : ¬ n < 0 := of_decide_eq_false hc4
    refine gC h (zk (zs (zr (zm rfl (zp (Pure1.cast (v' := .int .u64 ((n.natAbs : Nat) : Int)) (.convert rfl (cv_2_45 _)) (by rw [wrap_u64_mod]; congr 1; omega)) (zv [_] rfl Tryz.call98 (C_Of n.natAbs (by omega)) (zv [_, _] rfl Tryz.call75 (C_From false n.natAbs) (zt' rfl rfl (st_3_0_3 _ _ _ _ _ _) uu Tryz.sizeOf51 rfl nb rfl ?_)))))))); clear h; intro a w h
    refine wpList_nil (wp_ret ?_)
    refine retV h (results1 h rfl (.cell rfl mr Tryz.isAgg51 Tryz.sizeOf51 (rd_3_0_3 _ _ _))) ?_
    rw [show sgZ false n.natAbs = n from by unfold sgZ; simp; omega]
theorem C_whole (n : Int) : CtrV Tryz.prog 58 [encZ n] (encQ (n : Rat)) := by
  refine fn_intro Tryz.func58 rfl Tryz.ntmps58 nb ?_
  intro S w0 a hS h
  refine gC h (zs (zr (zx rfl fun b1 => zz Tryz.zeroValue53 fun b2 => zn (zs (zr (zd rfl mr Tryz.isAgg51 Tryz.sizeOf51 (rd_3_0_3 _ _ _) ?_)))))); clear h; intro a w h
  refine gL h (zp (.build [(_, _)] rfl (bd_53_0 _ _ _)) (zt' rfl rfl (st_5_0_5 _ _ _ _ _ _ _ _ _ _) uu Tryz.sizeOf53 rfl nb rfl ?_)); clear h; intro a w h
  refine wpList_nil (wp_ret ?_)
  refine retV h (results1 h rfl (.cell rfl mr Tryz.isAgg53 Tryz.sizeOf53 (rd_5_0_5 _ _ _ _ _))) ?_
  rfl
theorem C_Whole (x : Rat) : CtrV Tryz.prog 54 [encQ x] (.bool (decide (x.den = 1))) := by
  refine fn_intro Tryz.func54 rfl Tryz.ntmps54 nb ?_
  intro S w0 a hS h
  refine gC h (zs (zr (zx rfl fun b1 => za rfl (zn (zs (zr (zp (.fieldAddr rfl (fa_53_1 _ _)) (zd rfl mr Tryz.isAgg47 Tryz.sizeOf47 (rd_5_3_2 _ _ _ _ _) ?_)))))))); clear h; intro a w h
  refine gL h (zp (Pure1.cast (v' := encN 0) (.build [] rfl (bd_47_z)) (by rfl)) (zp (.binOp rfl rfl (fun _ => run_eqN _ _ (x.den - 1) 0 _)) (za rfl (zn (zt ?_))))); clear h; intro a w h
  refine retV h (results1 h rfl (.tmp rfl)) ?_
  have := x.den_pos; show Value.bool _ = Value.bool _; congr 1; apply decide_eq_decide.2; omega
theorem C_den (x : Rat) (h0 : (wds x.den).length ≤ 400000000000) : CtrV Tryz.prog 57 [encQ x] (encN x.den) := by
  refine fn_intro Tryz.func57 rfl Tryz.ntmps57 nb ?_
  intro S w0 a hS h
  refine gC h (zs (zr (zx rfl fun b1 => zz Tryz.zeroValue47 fun b2 => zn (zs (yD mixed_YtgkicbaomcmfoaaGreatDoor [0, 1, 2, 3, 4] (floatsOK_none (by kernel_rfl)) (yp rfl (.fieldAddr rfl (fa_53_1 _ _)) (yd rfl rfl mr Tryz.isAgg47 Tryz.sizeOf47 (rd_5_3_2 _ _ _ _ _) ?_))))))); clear h
  refine yv [_] rfl rfl Tryz.call98 (C_Of 1 (by decide)) (yv [_, _] rfl rfl Tryz.call97 (C_Add (x.den - 1) 1 (Nat.le_trans (wds_len_mono (Nat.sub_le _ _)) (by omega)) (Nat.le_trans (wds_small (by decide)) (by decide))) (yt rfl rfl rfl (st_2_0_2 _ _ _ _) uu Tryz.sizeOf47 rfl nb rfl ?_))
  refine yn (zt ?_); intro a w h
  refine retV h (results1 h rfl (.cell rfl mr Tryz.isAgg47 Tryz.sizeOf47 (rd_2_0_2 _ _))) ?_
  rw [Nat.sub_add_cancel x.den_pos]
theorem C_signed (x : Rat) (h0 : (wds x.den).length ≤ 400000000000) : CtrV Tryz.prog 130 [encQ x] (encZ (x.den : Int)) := by
  refine fn_intro Tryz.func130 rfl Tryz.ntmps130 nb ?_
  intro S w0 a hS h
  refine gC h (zs (zr (zx rfl fun b1 => zz Tryz.zeroValue51 fun b2 => zn (zs (zr (zd rfl mr Tryz.isAgg53 Tryz.sizeOf53 (rd_5_0_5 _ _ _ _ _) ?_)))))); clear h; intro a w h
  refine gL h (zv [_] rfl Tryz.call57 (C_den x h0) (zv [_, _] rfl Tryz.call75 (C_From false x.den) (zt' rfl rfl (st_3_0_3 _ _ _ _ _ _) uu Tryz.sizeOf51 rfl nb rfl ?_))); clear h; intro a w h
  refine wpList_nil (wp_ret ?_)
  refine retV h (results1 h rfl (.cell rfl mr Tryz.isAgg51 Tryz.sizeOf51 (rd_3_0_3 _ _ _))) ?_
  rfl
theorem C_lowest (n : Int) (d : Nat) (hd : d ≠ 0) (hn : lenZ n ≤ 400000000000) (hdl : (wds d).length ≤ 400000000000) : CtrV Tryz.prog 84 [encZ n, encN d] (encQ (mkRat n d)) := by
  unfold lenZ at hn
  have hg0 : n.natAbs.gcd d ≠ 0 := fun h => hd (Nat.gcd_eq_zero_iff.1 h).2
  have hgl : (wds (n.natAbs.gcd d)).length ≤ 400000000000 := Nat.le_trans (wds_len_mono (Nat.gcd_le_right _ (Nat.pos_of_ne_zero hd))) hdl
  have hq : 1 ≤ d / n.natAbs.gcd d := Nat.div_pos (Nat.gcd_le_right _ (Nat.pos_of_ne_zero hd)) (Nat.pos_of_ne_zero hg0)
  have hql : (wds (d / n.natAbs.gcd d)).length ≤ 400000000000 := Nat.le_trans (wds_len_mono (Nat.div_le_self _ _)) hdl
  obtain ⟨hm1, hm2⟩ := mkRat_parts n d hd
  refine fn_intro Tryz.func84 rfl Tryz.ntmps84 nb ?_
  intro S w0 a hS h
  refine gC h (zs (zr (zx rfl fun b2 => zx rfl fun b3 => zz Tryz.zeroValue53 fun b4 => zn (zs (yD mixed_YtgkicbaomcmfoaaGreatDoor [0, 2, 1, 3, 4, 5] (floatsOK_of ⟨.inl rfl, .inl rfl, .inl rfl, .inl rfl, .inr ⟨5, 47, _, _, _, rfl, rfl, by decide, _, Tryz.zeroValue47⟩, .inl rfl, trivial⟩) (yd rfl rfl mr Tryz.isAgg51 Tryz.sizeOf51 (rd_3_0_3 _ _ _) ?_)))))); clear h
  refine yd rfl rfl mr Tryz.isAgg47 Tryz.sizeOf47 (rd_2_0_2 _ _) ?_
  refine yv [_] rfl rfl Tryz.call76 (C_ZAbs n) (yv [_, _] rfl rfl Tryz.call124 (C_Gcd _ _ (by omega) (by omega)) (yz rfl Tryz.zeroValue47 fun b5 => yt rfl rfl rfl (st_2_0_2 _ _ _ _) uu Tryz.sizeOf47 rfl nb rfl ?_))
  refine yn (zs (yD mixed_YtgkicbaomcmfoaaGreatDoor [0, 2, 1, 3, 4, 5, 6, 7, 8, 9, 10, 11, 12] (floatsOK_of ⟨.inl rfl, .inl rfl, .inl rfl, .inl rfl, .inl rfl, .inl rfl, .inl rfl, .inl rfl, .inr ⟨6, 47, _, _, _, rfl, rfl, by decide, _, Tryz.zeroValue47⟩, .inr ⟨7, 47, _, _, _, rfl, rfl, by decide, _, Tryz.zeroValue47⟩, .inl rfl, .inl rfl, .inl rfl, trivial⟩) (yd rfl rfl mr Tryz.isAgg51 Tryz.sizeOf51 (rd_3_0_3 _ _ _) ?_)))
  refine yd rfl rfl mr Tryz.isAgg47 Tryz.sizeOf47 (rd_2_0_2 _ _) ?_
  refine yv [_] rfl rfl Tryz.call76 (C_ZAbs n) (yv [_, _] rfl rfl Tryz.call125 (C_Div n.natAbs (n.natAbs.gcd d) (by omega) (by omega) hg0) (yp rfl (.move rfl) (yp rfl (.extract rfl (fun _ => rfl)) (yp rfl (.extract rfl (fun _ => rfl)) (yp rfl (.extract rfl (fun _ => rfl)) (yz rfl Tryz.zeroValue47 fun b6 => yz rfl Tryz.zeroValue47 fun b7 => yt rfl rfl rfl (st_2_0_2 _ _ _ _) uu Tryz.sizeOf47 rfl nb rfl ?_))))))
  refine yt rfl rfl rfl (st_2_0_2 _ _ _ _) uu Tryz.sizeOf47 rfl nb rfl ?_
  refine yp rfl (.assign rfl) (yn (zs (zr (zd rfl mr Tryz.isAgg47 Tryz.sizeOf47 (rd_2_0_2 _ _) ?_)))); intro a w h
  refine gL h (zd rfl mr Tryz.isAgg47 Tryz.sizeOf47 (rd_2_0_2 _ _) ?_); clear h; intro a w h
  refine gL h (zv [_, _] rfl Tryz.call125 (C_Div d (n.natAbs.gcd d) (by omega) (by omega) hg0) (zm rfl (zp (.extract rfl (fun _ => rfl)) (zp (.extract rfl (fun _ => rfl)) (zp (.extract rfl (fun _ => rfl)) (zz Tryz.zeroValue47 fun b9 => zz Tryz.zeroValue47 fun b10 => zt' rfl rfl (st_2_0_2 _ _ _ _) uu Tryz.sizeOf47 rfl nb rfl ?_)))))); clear h; intro a w h
  refine gL h (zt' rfl rfl (st_2_0_2 _ _ _ _) uu Tryz.sizeOf47 rfl nb rfl ?_); clear h; intro a w h
  refine gL h (za rfl (zn (zs (yD mixed_YtgkicbaomcmfoaaGreatDoor [0, 1, 2, 3, 4, 5, 6] (floatsOK_none (by kernel_rfl)) (yd rfl rfl mr Tryz.isAgg47 Tryz.sizeOf47 (rd_2_0_2 _ _) ?_))))); clear h
  refine yv [_] rfl rfl Tryz.call98 (C_Of 1 (by decide)) (yv [_, _] rfl rfl Tryz.call126 (C_Sub _ 1 (by omega) (Nat.le_trans (wds_small (by decide)) (by decide))) (yp rfl (.move rfl) (yp rfl (.extract rfl (fun _ => rfl)) (yp rfl (.extract rfl (fun _ => rfl)) (yt rfl rfl rfl (st_2_0_2 _ _ _ _) uu Tryz.sizeOf47 rfl nb rfl ?_)))))
  refine yn (zs (yD mixed_YtgkicbaomcmfoaaGreatDoor [0, 3, 5, 1, 2, 4, 6, 7] (floatsOK_none (by kernel_rfl)) (yd rfl rfl mr Tryz.isAgg51 Tryz.sizeOf51 (rd_3_0_3 _ _ _) ?_)))
  refine yd rfl rfl mr Tryz.isAgg47 Tryz.sizeOf47 (rd_2_0_2 _ _) ?_
  refine yd rfl rfl mr Tryz.isAgg47 Tryz.sizeOf47 (rd_2_0_2 _ _) ?_
  refine yv [_] rfl rfl Tryz.call74 (C_ZSign n) (yp rfl (.lss rfl rfl) (yv [_, _] rfl rfl Tryz.call75 (C_From _ _) (yp rfl (.build [(_, _), (_, _)] rfl (bd_53_0_1 _ _ _ _ _)) (yt rfl rfl rfl (st_5_0_5 _ _ _ _ _ _ _ _ _ _) uu Tryz.sizeOf53 rfl nb rfl ?_))))
  refine yn (zt ?_); intro a w h
  refine retV h (results1 h rfl (.cell rfl mr Tryz.isAgg53 Tryz.sizeOf53 (rd_5_0_5 _ _ _ _ _))) ?_
  rw [encQ, hm1, hm2]
theorem C_QAdd (x y : Rat) (ha : lenQ x ≤ 100000000000) (hb : lenQ y ≤ 100000000000) : CtrV Tryz.prog 86 [encQ x, encQ y] (encQ (x + y)) := by
  obtain ⟨ha1, ha2⟩ := lenQ_le ha
  obtain ⟨hb1, hb2⟩ := lenQ_le hb
  have hm1 := lenZ_mul x.num (y.den : Int)
  have hm2 := lenZ_mul y.num (x.den : Int)
  have hs := lenZ_add (x.num * (y.den : Int)) (y.num * (x.den : Int))
  have hs2 := lenZ_add x.num y.num
  have hda : lenZ (x.den : Int) = (wds x.den).length := rfl
  have hdb : lenZ (y.den : Int) = (wds y.den).length := rfl
  have hdm := wds_len_mul x.den y.den
  have hpa := x.den_pos
  have hpb := y.den_pos
  refine fn_intro Tryz.func86 rfl Tryz.ntmps86 nb ?_
  intro S w0 a hS h
  refine gC h (zs (zr (zx rfl fun b2 => zx rfl fun b3 => zz Tryz.zeroValue53 fun b4 => zn (zs (zb (zs (zr (zd rfl mr Tryz.isAgg53 Tryz.sizeOf53 (rd_5_0_5 _ _ _ _ _) ?_)))))))); clear h; intro a w h
  refine gL h (zv [_] rfl Tryz.call54 (C_Whole x) (zm rfl ?_)); clear h; intro a w h
  refine by_bool h (fun hc8 h => ?_) (fun hc8 h => ?_)
  · skip
    have hwa : x.den = 1 := of_decide_eq_true hc8
    refine wpl_guard 8 h rfl rfl (op_load h rfl mr Tryz.isAgg53 Tryz.sizeOf53 (rd_5_0_5 _ _ _ _ _) (by decide) ?_); clear h; intro a h
    refine wpl_guard 8 h rfl rfl (op_callV h (vs := [_]) rfl Tryz.call54 (C_Whole y) (by decide) ?_); clear h; intro a w h
    refine by_bool h (fun hc10 h => ?_) (fun hc10 h => ?_)
    · skip
      have hwb : y.den = 1 := of_decide_eq_true hc10
      refine gL h (zp (.pickT rfl rfl) (za rfl (zn ?_))); clear h; intro a w h
      change Code.wp _ _ _ _ _
      refine cond_true h rfl ?_
      refine gC h (zs (zr (zp (.fieldAddr rfl (fa_53_0 _ _)) (zd rfl mr Tryz.isAgg51 Tryz.sizeOf51 (rd_5_0_3 _ _ _ _ _) ?_)))); clear h; intro a w h
      refine gL h (zp (.fieldAddr rfl (fa_53_0 _ _)) (zd rfl mr Tryz.isAgg51 Tryz.sizeOf51 (rd_5_0_3 _ _ _ _ _) ?_)); clear h; intro a w h
      refine gL h (zv [_, _] rfl Tryz.call129 (C_ZAdd _ _ (by omega) (by omega)) (zv [_] rfl Tryz.call58 (C_whole _) (zt' rfl rfl (st_5_0_5 _ _ _ _ _ _ _ _ _ _) uu Tryz.sizeOf53 rfl nb rfl ?_))); clear h; intro a w h
      refine wpList_nil (wp_ret ?_)
      refine retV h (results1 h rfl (.cell rfl mr Tryz.isAgg53 Tryz.sizeOf53 (rd_5_0_5 _ _ _ _ _))) ?_
      rw [show ((x.num + y.num : Int) : Rat) = x + y from add_whole hwa hwb]
    · skip
      have hwb : y.den ≠ 1 := of_decide_eq_false hc10
      refine gL h (zp (.pickT rfl rfl) (za rfl (zn ?_))); clear h; intro a w h
      change Code.wp _ _ _ _ _
      refine cond_false h rfl ?_
      refine gC h (zs (zr (zp (.fieldAddr rfl (fa_53_1 _ _)) (zd rfl mr Tryz.isAgg47 Tryz.sizeOf47 (rd_5_3_2 _ _ _ _ _) ?_)))); clear h; intro a w h
      refine gL h (zp (.fieldAddr rfl (fa_53_1 _ _)) (zd rfl mr Tryz.isAgg47 Tryz.sizeOf47 (rd_5_3_2 _ _ _ _ _) ?_)); clear h; intro a w h
      refine gL h (zp (.binOp rfl rfl (fun _ => run_eqN _ _ (x.den - 1) (y.den - 1) _)) ?_); clear h; intro a w h
      refine by_bool h (fun hc23 h => ?_) (fun hc23 h => ?_)
      · skip
        have hde : x.den = y.den := by have := of_decide_eq_true hc23; omega
        refine gL h (za rfl (zn ?_)); clear h; intro a w h
        change Code.wp _ _ _ _ _
        refine cond_true h rfl ?_
        refine gC h (zs (yD mixed_YtgkicbaomcmfoaaGreatDoor [0, 1, 2, 3, 5, 4, 6, 7, 8] (floatsOK_none (by kernel_rfl)) (yp rfl (.fieldAddr rfl (fa_53_0 _ _)) (yd rfl rfl mr Tryz.isAgg51 Tryz.sizeOf51 (rd_5_0_3 _ _ _ _ _) ?_)))); clear h
        refine yp rfl (.fieldAddr rfl (fa_53_0 _ _)) (yd rfl rfl mr Tryz.isAgg51 Tryz.sizeOf51 (rd_5_0_3 _ _ _ _ _) ?_)
        refine yd rfl rfl mr Tryz.isAgg53 Tryz.sizeOf53 (rd_5_0_5 _ _ _ _ _) ?_
        refine yv [_, _] rfl rfl Tryz.call129 (C_ZAdd _ _ (by omega) (by omega)) (yv [_] rfl rfl Tryz.call57 (C_den x (by omega)) (yv [_, _] rfl rfl Tryz.call84 (C_lowest _ _ (by omega) (by omega) (by omega)) (yt rfl rfl rfl (st_5_0_5 _ _ _ _ _ _ _ _ _ _) uu Tryz.sizeOf53 rfl nb rfl ?_)))
        refine yn (zt ?_); intro a w h
        refine retV h (results1 h rfl (.cell rfl mr Tryz.isAgg53 Tryz.sizeOf53 (rd_5_0_5 _ _ _ _ _))) ?_
        rw [show mkRat (x.num + y.num) x.den = x + y from add_same hde]
      · skip
        have hde : x.den ≠ y.den := by have := of_decide_eq_false hc23; omega
        refine gL h (za rfl (zn ?_)); clear h; intro a w h
        change Code.wp _ _ _ _ _
        refine cond_false h rfl ?_
        refine gC h (zk (zs (yD mixed_YtgkicbaomcmfoaaGreatDoor [0, 1, 2, 5, 6, 7, 11, 13, 3, 4, 8, 9, 10, 12, 14, 15, 16, 17] (floatsOK_none (by kernel_rfl)) (yp rfl (.fieldAddr rfl (fa_53_0 _ _)) (yd rfl rfl mr Tryz.isAgg51 Tryz.sizeOf51 (rd_5_0_3 _ _ _ _ _) ?_))))); clear h
        refine yd rfl rfl mr Tryz.isAgg53 Tryz.sizeOf53 (rd_5_0_5 _ _ _ _ _) ?_
        refine yp rfl (.fieldAddr rfl (fa_53_0 _ _)) (yd rfl rfl mr Tryz.isAgg51 Tryz.sizeOf51 (rd_5_0_3 _ _ _ _ _) ?_)
        refine yd rfl rfl mr Tryz.isAgg53 Tryz.sizeOf53 (rd_5_0_5 _ _ _ _ _) ?_
        refine yd rfl rfl mr Tryz.isAgg53 Tryz.sizeOf53 (rd_5_0_5 _ _ _ _ _) ?_
        refine yd rfl rfl mr Tryz.isAgg53 Tryz.sizeOf53 (rd_5_0_5 _ _ _ _ _) ?_
        refine yv [_] rfl rfl Tryz.call130 (C_signed y (by omega)) (yv [_, _] rfl rfl Tryz.call83 (C_ZMul _ _ (by omega) (by omega)) (yv [_] rfl rfl Tryz.call130 (C_signed x (by omega)) (yv [_, _] rfl rfl Tryz.call83 (C_ZMul _ _ (by omega) (by omega)) (yv [_, _] rfl rfl Tryz.call129 (C_ZAdd _ _ (by omega) (by omega)) (yv [_] rfl rfl Tryz.call57 (C_den x (by omega)) (yv [_] rfl rfl Tryz.call57 (C_den y (by omega)) (yv [_, _] rfl rfl Tryz.call85 (C_Mul _ _ (by omega) (by omega)) (yv [_, _] rfl rfl Tryz.call84 (C_lowest _ _ (Nat.mul_ne_zero (by omega) (by omega)) (by omega) (by omega)) (yt rfl rfl rfl (st_5_0_5 _ _ _ _ _ _ _ _ _ _) uu Tryz.sizeOf53 rfl nb rfl ?_)))))))))
        refine yn (zt ?_); intro a w h
        refine retV h (results1 h rfl (.cell rfl mr Tryz.isAgg53 Tryz.sizeOf53 (rd_5_0_5 _ _ _ _ _))) ?_
        rw [Rat.add_def']
  · skip
    have hwa : x.den ≠ 1 := of_decide_eq_false hc8
    refine gL h (zo 8 rfl rfl rfl (zo 8 rfl rfl rfl (zp (.pickF rfl rfl) (za rfl (zn ?_))))); clear h; intro a w h
    change Code.wp _ _ _ _ _
    refine cond_false h rfl ?_
    refine gC h (zs (zr (zp (.fieldAddr rfl (fa_53_1 _ _)) (zd rfl mr Tryz.isAgg47 Tryz.sizeOf47 (rd_5_3_2 _ _ _ _ _) ?_)))); clear h; intro a w h
    refine gL h (zp (.fieldAddr rfl (fa_53_1 _ _)) (zd rfl mr Tryz.isAgg47 Tryz.sizeOf47 (rd_5_3_2 _ _ _ _ _) ?_)); clear h; intro a w h
    refine gL h (zp (.binOp rfl rfl (fun _ => run_eqN _ _ (x.den - 1) (y.den - 1) _)) ?_); clear h; intro a w h
    refine by_bool h (fun hc23 h => ?_) (fun hc23 h => ?_)
    · skip
      have hde : x.den = y.den := by have := of_decide_eq_true hc23; omega
      refine gL h (za rfl (zn ?_)); clear h; intro a w h
      change Code.wp _ _ _ _ _
      refine cond_true h rfl ?_
      refine gC h (zs (yD mixed_YtgkicbaomcmfoaaGreatDoor [0, 1, 2, 3, 5, 4, 6, 7, 8] (floatsOK_none (by kernel_rfl)) (yp rfl (.fieldAddr rfl (fa_53_0 _ _)) (yd rfl rfl mr Tryz.isAgg51 Tryz.sizeOf51 (rd_5_0_3 _ _ _ _ _) ?_)))); clear h
      refine yp rfl (.fieldAddr rfl (fa_53_0 _ _)) (yd rfl rfl mr Tryz.isAgg51 Tryz.sizeOf51 (rd_5_0_3 _ _ _ _ _) ?_)
      refine yd rfl rfl mr Tryz.isAgg53 Tryz.sizeOf53 (rd_5_0_5 _ _ _ _ _) ?_
      refine yv [_, _] rfl rfl Tryz.call129 (C_ZAdd _ _ (by omega) (by omega)) (yv [_] rfl rfl Tryz.call57 (C_den x (by omega)) (yv [_, _] rfl rfl Tryz.call84 (C_lowest _ _ (by omega) (by omega) (by omega)) (yt rfl rfl rfl (st_5_0_5 _ _ _ _ _ _ _ _ _ _) uu Tryz.sizeOf53 rfl nb rfl ?_)))
      refine yn (zt ?_); intro a w h
      refine retV h (results1 h rfl (.cell rfl mr Tryz.isAgg53 Tryz.sizeOf53 (rd_5_0_5 _ _ _ _ _))) ?_
      rw [show mkRat (x.num + y.num) x.den = x + y from add_same hde]
    · skip
      have hde : x.den ≠ y.den := by have := of_decide_eq_false hc23; omega
      refine gL h (za rfl (zn ?_)); clear h; intro a w h
      change Code.wp _ _ _ _ _
      refine cond_false h rfl ?_
      refine gC h (zk (zs (yD mixed_YtgkicbaomcmfoaaGreatDoor [0, 1, 2, 5, 6, 7, 11, 13, 3, 4, 8, 9, 10, 12, 14, 15, 16, 17] (floatsOK_none (by kernel_rfl)) (yp rfl (.fieldAddr rfl (fa_53_0 _ _)) (yd rfl rfl mr Tryz.isAgg51 Tryz.sizeOf51 (rd_5_0_3 _ _ _ _ _) ?_))))); clear h
      refine yd rfl rfl mr Tryz.isAgg53 Tryz.sizeOf53 (rd_5_0_5 _ _ _ _ _) ?_
      refine yp rfl (.fieldAddr rfl (fa_53_0 _ _)) (yd rfl rfl mr Tryz.isAgg51 Tryz.sizeOf51 (rd_5_0_3 _ _ _ _ _) ?_)
      refine yd rfl rfl mr Tryz.isAgg53 Tryz.sizeOf53 (rd_5_0_5 _ _ _ _ _) ?_
      refine yd rfl rfl mr Tryz.isAgg53 Tryz.sizeOf53 (rd_5_0_5 _ _ _ _ _) ?_
      refine yd rfl rfl mr Tryz.isAgg53 Tryz.sizeOf53 (rd_5_0_5 _ _ _ _ _) ?_
      refine yv [_] rfl rfl Tryz.call130 (C_signed y (by omega)) (yv [_, _] rfl rfl Tryz.call83 (C_ZMul _ _ (by omega) (by omega)) (yv [_] rfl rfl Tryz.call130 (C_signed x (by omega)) (yv [_, _] rfl rfl Tryz.call83 (C_ZMul _ _ (by omega) (by omega)) (yv [_, _] rfl rfl Tryz.call129 (C_ZAdd _ _ (by omega) (by omega)) (yv [_] rfl rfl Tryz.call57 (C_den x (by omega)) (yv [_] rfl rfl Tryz.call57 (C_den y (by omega)) (yv [_, _] rfl rfl Tryz.call85 (C_Mul _ _ (by omega) (by omega)) (yv [_, _] rfl rfl Tryz.call84 (C_lowest _ _ (Nat.mul_ne_zero (by omega) (by omega)) (by omega) (by omega)) (yt rfl rfl rfl (st_5_0_5 _ _ _ _ _ _ _ _ _ _) uu Tryz.sizeOf53 rfl nb rfl ?_)))))))))
      refine yn (zt ?_); intro a w h
      refine retV h (results1 h rfl (.cell rfl mr Tryz.isAgg53 Tryz.sizeOf53 (rd_5_0_5 _ _ _ _ _))) ?_
      rw [Rat.add_def']
theorem C_QMul (x y : Rat) (ha : lenQ x ≤ 100000000000) (hb : lenQ y ≤ 100000000000) : CtrV Tryz.prog 50 [encQ x, encQ y] (encQ (x * y)) := by
  obtain ⟨ha1, ha2⟩ := lenQ_le ha
  obtain ⟨hb1, hb2⟩ := lenQ_le hb
  have hm1 := lenZ_mul x.num y.num
  have hdm := wds_len_mul x.den y.den
  have hpa := x.den_pos
  have hpb := y.den_pos
  refine fn_intro Tryz.func50 rfl Tryz.ntmps50 nb ?_
  intro S w0 a hS h
  refine gC h (zs (zr (zx rfl fun b2 => zx rfl fun b3 => zz Tryz.zeroValue53 fun b4 => zn (zs (zs (zr (zd rfl mr Tryz.isAgg53 Tryz.sizeOf53 (rd_5_0_5 _ _ _ _ _) ?_))))))); clear h; intro a w h
  refine gL h (zv [_] rfl Tryz.call54 (C_Whole x) (zm rfl ?_)); clear h; intro a w h
  refine by_bool h (fun hc7 h => ?_) (fun hc7 h => ?_)
  · skip
    have hwa : x.den = 1 := of_decide_eq_true hc7
    refine wpl_guard 7 h rfl rfl (op_load h rfl mr Tryz.isAgg53 Tryz.sizeOf53 (rd_5_0_5 _ _ _ _ _) (by decide) ?_); clear h; intro a h
    refine wpl_guard 7 h rfl rfl (op_callV h (vs := [_]) rfl Tryz.call54 (C_Whole y) (by decide) ?_); clear h; intro a w h
    refine by_bool h (fun hc9 h => ?_) (fun hc9 h => ?_)
    · skip
      have hwb : y.den = 1 := of_decide_eq_true hc9
      refine gL h (zp (.pickT rfl rfl) (zn ?_)); clear h; intro a w h
      change Code.wp _ _ _ _ _
      refine cond_true h rfl ?_
      refine gC h (zs (zr (zp (.fieldAddr rfl (fa_53_0 _ _)) (zd rfl mr Tryz.isAgg51 Tryz.sizeOf51 (rd_5_0_3 _ _ _ _ _) ?_)))); clear h; intro a w h
      refine gL h (zp (.fieldAddr rfl (fa_53_0 _ _)) (zd rfl mr Tryz.isAgg51 Tryz.sizeOf51 (rd_5_0_3 _ _ _ _ _) ?_)); clear h; intro a w h
      refine gL h (zv [_, _] rfl Tryz.call83 (C_ZMul _ _ (by omega) (by omega)) (zv [_] rfl Tryz.call58 (C_whole _) (zt' rfl rfl (st_5_0_5 _ _ _ _ _ _ _ _ _ _) uu Tryz.sizeOf53 rfl nb rfl ?_))); clear h; intro a w h
      refine wpList_nil (wp_ret ?_)
      refine retV h (results1 h rfl (.cell rfl mr Tryz.isAgg53 Tryz.sizeOf53 (rd_5_0_5 _ _ _ _ _))) ?_
      rw [show ((x.num * y.num : Int) : Rat) = x * y from mul_whole hwa hwb]
    · skip
      refine gL h (zp (.pickT rfl rfl) (zn ?_)); clear h; intro a w h
      change Code.wp _ _ _ _ _
      refine cond_false h rfl ?_
      refine gC h (zk (zs (yD mixed_YtgkicbaomcmfoaaGreatDoor [0, 1, 2, 3, 5, 7, 4, 6, 8, 9, 10, 11] (floatsOK_none (by kernel_rfl)) (yp rfl (.fieldAddr rfl (fa_53_0 _ _)) (yd rfl rfl mr Tryz.isAgg51 Tryz.sizeOf51 (rd_5_0_3 _ _ _ _ _) ?_))))); clear h
      refine yp rfl (.fieldAddr rfl (fa_53_0 _ _)) (yd rfl rfl mr Tryz.isAgg51 Tryz.sizeOf51 (rd_5_0_3 _ _ _ _ _) ?_)
      refine yd rfl rfl mr Tryz.isAgg53 Tryz.sizeOf53 (rd_5_0_5 _ _ _ _ _) ?_
      refine yd rfl rfl mr Tryz.isAgg53 Tryz.sizeOf53 (rd_5_0_5 _ _ _ _ _) ?_
      refine yv [_, _] rfl rfl Tryz.call83 (C_ZMul _ _ (by omega) (by omega)) (yv [_] rfl rfl Tryz.call57 (C_den x (by omega)) (yv [_] rfl rfl Tryz.call57 (C_den y (by omega)) (yv [_, _] rfl rfl Tryz.call85 (C_Mul _ _ (by omega) (by omega)) (yv [_, _] rfl rfl Tryz.call84 (C_lowest _ _ (Nat.mul_ne_zero (by omega) (by omega)) (by omega) (by omega)) (yt rfl rfl rfl (st_5_0_5 _ _ _ _ _ _ _ _ _ _) uu Tryz.sizeOf53 rfl nb rfl ?_)))))
      refine yn (zt ?_); intro a w h
      refine retV h (results1 h rfl (.cell rfl mr Tryz.isAgg53 Tryz.sizeOf53 (rd_5_0_5 _ _ _ _ _))) ?_
      rw [Rat.mul_def']
  · skip
    refine gL h (zo 7 rfl rfl rfl (zo 7 rfl rfl rfl (zp (.pickF rfl rfl) (zn ?_)))); clear h; intro a w h
    change Code.wp _ _ _ _ _
    refine cond_false h rfl ?_
    refine gC h (zk (zs (yD mixed_YtgkicbaomcmfoaaGreatDoor [0, 1, 2, 3, 5, 7, 4, 6, 8, 9, 10, 11] (floatsOK_none (by kernel_rfl)) (yp rfl (.fieldAddr rfl (fa_53_0 _ _)) (yd rfl rfl mr Tryz.isAgg51 Tryz.sizeOf51 (rd_5_0_3 _ _ _ _ _) ?_))))); clear h
    refine yp rfl (.fieldAddr rfl (fa_53_0 _ _)) (yd rfl rfl mr Tryz.isAgg51 Tryz.sizeOf51 (rd_5_0_3 _ _ _ _ _) ?_)
    refine yd rfl rfl mr Tryz.isAgg53 Tryz.sizeOf53 (rd_5_0_5 _ _ _ _ _) ?_
    refine yd rfl rfl mr Tryz.isAgg53 Tryz.sizeOf53 (rd_5_0_5 _ _ _ _ _) ?_
    refine yv [_, _] rfl rfl Tryz.call83 (C_ZMul _ _ (by omega) (by omega)) (yv [_] rfl rfl Tryz.call57 (C_den x (by omega)) (yv [_] rfl rfl Tryz.call57 (C_den y (by omega)) (yv [_, _] rfl rfl Tryz.call85 (C_Mul _ _ (by omega) (by omega)) (yv [_, _] rfl rfl Tryz.call84 (C_lowest _ _ (Nat.mul_ne_zero (by omega) (by omega)) (by omega) (by omega)) (yt rfl rfl rfl (st_5_0_5 _ _ _ _ _ _ _ _ _ _) uu Tryz.sizeOf53 rfl nb rfl ?_)))))
    refine yn (zt ?_); intro a w h
    refine retV h (results1 h rfl (.cell rfl mr Tryz.isAgg53 Tryz.sizeOf53 (rd_5_0_5 _ _ _ _ _))) ?_
    rw [Rat.mul_def']
theorem C_QSign (x : Rat) : CtrV Tryz.prog 43 [encQ x] (.int .i64 x.num.sign) := by
  refine fn_intro Tryz.func43 rfl Tryz.ntmps43 nb ?_
  intro S w0 a hS h
  refine gC h (zs (zr (zx rfl fun b1 => za rfl (zn (zs (zr (zp (.fieldAddr rfl (fa_53_0 _ _)) (zd rfl mr Tryz.isAgg51 Tryz.sizeOf51 (rd_5_0_3 _ _ _ _ _) ?_)))))))); clear h; intro a w h
  refine gL h (zv [_] rfl Tryz.call74 (C_ZSign x.num) (za rfl (zn (zt ?_)))); clear h; intro a w h
  refine retV h (results1 h rfl (.tmp rfl)) ?_
  rfl
theorem C_QInt (n : Int) (h0 : -9223372036854775808 ≤ n) (h1 : n ≤ 9223372036854775807) : CtrV Tryz.prog 22 [.int .i64 n] (encQ (n : Rat)) := by
  refine fn_intro Tryz.func22 rfl Tryz.ntmps22 nb ?_
  intro S w0 a hS h
  refine gC h (zs (zr (zz Tryz.zeroValue53 fun b2 => zn (zs (zr (zm rfl (zv [_] rfl Tryz.call59 (C_ZOf n h0 h1) (zv [_] rfl Tryz.call58 (C_whole n) (zt' rfl rfl (st_5_0_5 _ _ _ _ _ _ _ _ _ _) uu Tryz.sizeOf53 rfl nb rfl ?_))))))))); clear h; intro a w h
  refine wpList_nil (wp_ret ?_)
  refine retV h (results1 h rfl (.cell rfl mr Tryz.isAgg53 Tryz.sizeOf53 (rd_5_0_5 _ _ _ _ _))) ?_
  rfl
theorem C_inv (y : Rat) (hy : y ≠ 0) (h1 : lenZ (sgZ (decide (y.num.sign < 0)) y.den) ≤ 400000000000) (h2 : (wds y.num.natAbs).length ≤ 400000000000) :
    CtrV Tryz.prog 84 [encZ (sgZ (decide (y.num.sign < 0)) y.den), encN y.num.natAbs] (encQ y⁻¹) := by
  rw [← inv_mkRat y hy]
  exact C_lowest _ _ (fun h => hy (Rat.num_eq_zero.1 (Int.natAbs_eq_zero.1 h))) h1 h2
theorem C_QDiv (x y : Rat) (hy : y ≠ 0) (hx : lenQ x ≤ 100000000000) (hyl : lenQ y ≤ 100000000000) : CtrV Tryz.prog 90 [encQ x, encQ y] (.tuple #[encQ (x / y), .int .i64 0]) := by
  obtain ⟨hb1, hb2⟩ := lenQ_le hyl
  have h0 : y.num ≠ 0 := fun h => hy (Rat.num_eq_zero.1 h)
  have hs : lenZ (sgZ (decide (y.num.sign < 0)) y.den) = (wds y.den).length := by unfold lenZ; rw [sgZ_abs]
  have hz : (wds y.num.natAbs).length = lenZ y.num := rfl
  have hinv := lenQ_mkRat (sgZ (decide (y.num.sign < 0)) y.den) y.num.natAbs (by omega)
  rw [inv_mkRat y hy] at hinv
  refine fn_intro Tryz.func90 rfl Tryz.ntmps90 nb ?_
  intro S w0 a hS h
  refine gC h (zs (zr (zx rfl fun b2 => zx rfl fun b3 => zz Tryz.zeroValue53 fun b4 => za rfl (zn (zs (zs (zr (zd rfl mr Tryz.isAgg53 Tryz.sizeOf53 (rd_5_0_5 _ _ _ _ _) ?_)))))))); clear h; intro a w h
  refine gL h (zv [_] rfl Tryz.call43 (C_QSign y) (zp (.eql rfl rfl) (zn ?_))); clear h; intro a w h
  change Code.wp _ _ _ _ _
  refine cond_split h rfl (fun hc9 => (by exfalso; have := eq_of_beq hc9; exact h0 (Int.sign_eq_zero_iff_zero.1 this))) (fun hc9 => ?_)
  refine gC h (zk (zs (yD mixed_YtgkicbaomcmfoaaGreatDoor [0, 3, 6, 7, 1, 2, 4, 5, 8, 9, 10, 11] (floatsOK_of ⟨.inl rfl, .inl rfl, .inl rfl, .inl rfl, .inl rfl, .inl rfl, .inl rfl, .inl rfl, .inl rfl, .inl rfl, .inr ⟨6, 53, _, _, _, rfl, rfl, by decide, _, Tryz.zeroValue53⟩, .inl rfl, trivial⟩) (yd rfl rfl mr Tryz.isAgg53 Tryz.sizeOf53 (rd_5_0_5 _ _ _ _ _) ?_)))); clear h
  refine yd rfl rfl mr Tryz.isAgg53 Tryz.sizeOf53 (rd_5_0_5 _ _ _ _ _) ?_
  refine yp rfl (.fieldAddr rfl (fa_53_0 _ _)) (yd rfl rfl mr Tryz.isAgg51 Tryz.sizeOf51 (rd_5_0_3 _ _ _ _ _) ?_)
  refine yv [_] rfl rfl Tryz.call43 (C_QSign y) (yp rfl (.lss rfl rfl) (yv [_] rfl rfl Tryz.call57 (C_den y (by omega)) (yv [_, _] rfl rfl Tryz.call75 (C_From _ _) (yv [_] rfl rfl Tryz.call76 (C_ZAbs y.num) (yv [_, _] rfl rfl Tryz.call84 (C_inv y hy (by omega) (by omega)) (yz rfl Tryz.zeroValue53 fun b6 => yt rfl rfl rfl (st_5_0_5 _ _ _ _ _ _ _ _ _ _) uu Tryz.sizeOf53 rfl nb rfl ?_))))))
  refine yn (zs (zr (zd rfl mr Tryz.isAgg53 Tryz.sizeOf53 (rd_5_0_5 _ _ _ _ _) ?_))); intro a w h
  refine gL h (zd rfl mr Tryz.isAgg53 Tryz.sizeOf53 (rd_5_0_5 _ _ _ _ _) ?_); clear h; intro a w h
  refine gL h (zv [_, _] rfl Tryz.call50 (C_QMul x y⁻¹ hx (by omega)) (zt' rfl rfl (st_5_0_5 _ _ _ _ _ _ _ _ _ _) uu Tryz.sizeOf53 rfl nb rfl ?_)); clear h; intro a w h
  refine gL h (za rfl (zn (zt ?_))); clear h; intro a w h
  refine retV h (results2 h rfl (.cell rfl mr Tryz.isAgg53 Tryz.sizeOf53 (rd_5_0_5 _ _ _ _ _)) (.tmp rfl)) ?_
  rw [Rat.div_def]
end
section
theorem zeroQ (w : World) : (zeroValue 53).run Tryz.prog w = .ok (encQ 0) w := Tryz.zeroValue53 w
theorem zeroN (w : World) : (zeroValue 47).run Tryz.prog w = .ok (encN 0) w := Tryz.zeroValue47 w
theorem zeroZ (w : World) : (zeroValue 51).run Tryz.prog w = .ok (encZ 0) w := Tryz.zeroValue51 w
abbrev encP (p : Rat × Rat × Rat) : Value := .agg #[.int .u64 (lowN p.1.num.natAbs), .string (bigN p.1.num.natAbs), .bool (decide (p.1.num < 0)), .int .u64 (lowN (p.1.den - 1)), .string (bigN (p.1.den - 1)),
  .int .u64 (lowN p.2.1.num.natAbs), .string (bigN p.2.1.num.natAbs), .bool (decide (p.2.1.num < 0)), .int .u64 (lowN (p.2.1.den - 1)), .string (bigN (p.2.1.den - 1)),
  .int .u64 (lowN p.2.2.num.natAbs), .string (bigN p.2.2.num.natAbs), .bool (decide (p.2.2.num < 0)), .int .u64 (lowN (p.2.2.den - 1)), .string (bigN (p.2.2.den - 1))]
theorem encQ_iff {x y : Rat} : (lowN x.num.natAbs = lowN y.num.natAbs ∧ bigN x.num.natAbs = bigN y.num.natAbs ∧ decide (x.num < 0) = decide (y.num < 0) ∧ lowN (x.den - 1) = lowN (y.den - 1) ∧ bigN (x.den - 1) = bigN (y.den - 1)) ↔ x = y := by
  constructor
  · rintro ⟨h1, h2, h3, h4, h5⟩
    have e1 := enc_inj h1 h2
    have e2 := enc_inj h4 h5
    have := x.den_pos
    have := y.den_pos
    refine Rat.ext ?_ (by omega)
    have h3' : (x.num < 0) ↔ (y.num < 0) := decide_eq_decide.1 h3
    omega
  · rintro rfl; exact ⟨rfl, rfl, rfl, rfl, rfl⟩
theorem str_eq (n m : Nat) : ((bigN n).toList = (bigN m).toList) ↔ bigN n = bigN m := by have := toList_beq (bigN n) (bigN m); rw [Bool.eq_iff_iff] at this; simpa using this
theorem run_neQ (X Y : Operand) (x y : Rat) (w : World) : (do eqGuard .neq 53 X Y (encQ x) (encQ y); Go.binOp .neq 53 (encQ x) (encQ y) : Sem Value).run Tryz.prog w = .ok (.bool (!decide (x = y))) w := by
  simp [go_sem]
  have hq := @encQ_iff x y
  rw [decide_eq_decide] at hq
  simp only [← str_eq] at hq
  by_cases e : x = y
  · obtain ⟨h1, h2, h3, h4, h5⟩ := hq.2 e
    rw [if_pos h1, if_pos h2, if_pos h3, if_pos h4, if_pos h5]; simp [e]
  · rw [show decide (x = y) = false from by simp [e]]
    (repeat' split) <;> first | rfl | (exact absurd (hq.1 ⟨‹_›, ‹_›, ‹_›, ‹_›, ‹_›⟩) e)
theorem nestQ {α : Type} (x y : Rat) (A B : α) : (if lowN x.num.natAbs = lowN y.num.natAbs then if (bigN x.num.natAbs).toList = (bigN y.num.natAbs).toList then if x.num < 0 ↔ y.num < 0 then if lowN (x.den - 1) = lowN (y.den - 1) then
    if (bigN (x.den - 1)).toList = (bigN (y.den - 1)).toList then A else B else B else B else B else B) = if x = y then A else B := by
  have hq := @encQ_iff x y
  rw [decide_eq_decide] at hq
  simp only [← str_eq] at hq
  by_cases e : x = y
  · obtain ⟨h1, h2, h3, h4, h5⟩ := hq.2 e
    rw [if_pos h1, if_pos h2, if_pos h3, if_pos h4, if_pos h5, if_pos e]
  · rw [if_neg e]
    (repeat' split) <;> first | rfl | (exact absurd (hq.1 ⟨‹_›, ‹_›, ‹_›, ‹_›, ‹_›⟩) e)
theorem lenQ_int (n : Int) (h0 : -9223372036854775808 ≤ n) (h1 : n ≤ 9223372036854775807) : lenQ ((n : Int) : Rat) ≤ 2 := by
  have : (wds n.natAbs).length ≤ 2 := wds_small (by omega)
  unfold lenQ lenZ
  rw [Rat.num_intCast, Rat.den_intCast]
  have h2 : (wds 1).length ≤ 2 := wds_small (by decide)
  omega
theorem lenQ_zero : lenQ 0 ≤ 2 := lenQ_int 0 (by omega) (by omega)
theorem lenQ_inv (y : Rat) : lenQ y⁻¹ ≤ lenQ y := by
  by_cases hy : y = 0
  · subst hy; rw [Rat.inv_zero]; exact Nat.le_refl _
  · rw [← inv_mkRat y hy]
    have h0 : y.num ≠ 0 := fun h => hy (Rat.num_eq_zero.1 h)
    have := lenQ_mkRat (sgZ (decide (y.num.sign < 0)) y.den) y.num.natAbs (by omega)
    unfold lenZ at this
    rw [sgZ_abs] at this
    unfold lenQ lenZ at *
    omega
theorem lenQ_div (x y : Rat) : lenQ (x / y) ≤ lenQ x + lenQ y := by
  rw [Rat.div_def]; have := lenQ_mul x y⁻¹; have := lenQ_inv y; omega
theorem lenQ_of (n d : Int) (h0 : -9223372036854775808 ≤ n) (h1 : n ≤ 9223372036854775807) (h2 : -9223372036854775808 ≤ d) (h3 : d ≤ 9223372036854775807) : lenQ ((n : Rat) / (d : Rat)) ≤ 4 := by
  have := lenQ_div (n : Rat) (d : Rat); have := lenQ_int n h0 h1; have := lenQ_int d h2 h3; omega
abbrev encn (k : Nat) : Value := .int .i64 (k : Int)
theorem getD_mem {α : Type} (l : List α) {i : Nat} {d : α} (h : i < l.length) : l.getD i d ∈ l := by
  simp only [List.getD, List.getElem?_eq_getElem h, Option.getD_some]; exact List.getElem_mem h
theorem foldl_take_succ {α β : Type} {f : β → α → β} (l : List α) (s : β) (i : Nat) (d : α) (h : i < l.length) : (l.take (i + 1)).foldl f s = f ((l.take i).foldl f s) (l.getD i d) := by
  rw [List.take_add_one, List.getElem?_eq_getElem h, List.foldl_append]
  simp [List.getD, List.getElem?_eq_getElem h]
theorem C_QOf (n d : Int) (h0 : -9223372036854775808 ≤ n) (h1 : n ≤ 9223372036854775807) (h2 : -9223372036854775808 ≤ d) (h3 : d ≤ 9223372036854775807) (hd : d ≠ 0) :
    CtrV Tryz.prog 53 [.int .i64 n, .int .i64 d] (.tuple #[encQ ((n : Rat) / (d : Rat)), .int .i64 0]) := by
  refine fn_intro Tryz.func53 rfl Tryz.ntmps53 nb ?_
  intro S w0 a hS h
  refine gC h (zs (zr (zz zeroQ fun b4 => za rfl (zn (zs (zr (zm rfl (zv [_] rfl Tryz.call22 (C_QInt _ (by omega) (by omega)) ?_)))))))); clear h; intro a w h
  have hl7 := lenQ_int (n) (by omega) (by omega)
  refine gL h (zm rfl (zv [_] rfl Tryz.call22 (C_QInt _ (by omega) (by omega)) ?_)); clear h; intro a w h
  have hl9 := lenQ_int (d) (by omega) (by omega)
  refine gL h (zv [_, _] rfl Tryz.call90 (C_QDiv _ _ (by exact fun e => hd (Rat.intCast_eq_zero_iff.1 e)) (by omega) (by omega)) (zp (.extract rfl (fun _ => rfl)) (zp (.extract rfl (fun _ => rfl)) (zt' rfl rfl (st_5_0_5 _ _ _ _ _ _ _ _ _ _) uu Tryz.sizeOf53 rfl nb rfl ?_)))); clear h; intro a w h
  refine gL h (za rfl (zn (zt ?_))); clear h; intro a w h
  refine retV h (results2 h rfl (.cell rfl mr Tryz.isAgg53 Tryz.sizeOf53 (rd_5_0_5 _ _ _ _ _)) (.tmp rfl)) ?_
  rfl
end
end Go.Proofs.YtgkicbaomcmfoaaGreatDoor
