/- Written by a program of ours (gen.py) out of short specifications. By an AI agent. -/
import Derived.Test.YtmajjidkkpkhcaaGreatNats6
import Derived.Test.YtmajjidkkpkhcaaGreatFxZ
set_option linter.unusedVariables false
set_option linter.unusedSimpArgs false
set_option maxRecDepth 4000
namespace Go.Proofs.YtmajjidkkpkhcaaGreat
open Go Go.Proofs Go.Fx
attribute [local irreducible] Oper.wp Code.wp wpList Fx.Head wpOp
theorem cv_23_5b (x : Int) (h0 : IntKind.u8.wrap x = x) (w : World) : (Go.convert 23 5 (.int .u32 x)).run Tryz.prog w = .ok (.int .u8 x) w := by
  rw [cv_23_5, h0]
theorem cv_5_3 (x : Int) (w : World) : (Go.convert 5 3 (.int .u8 x)).run Tryz.prog w = .ok (.int .i64 (IntKind.i64.wrap x)) w := by
  simp [go_sem]
theorem cv_5_3b (x : Int) (h0 : IntKind.i64.wrap x = x) (w : World) : (Go.convert 5 3 (.int .u8 x)).run Tryz.prog w = .ok (.int .i64 x) w := by
  rw [cv_5_3, h0]
theorem len8_tab : ∀ j, j < 256 → ((⟨#[0, 1, 2, 2, 3, 3, 3, 3, 4, 4, 4, 4, 4, 4, 4, 4, 5, 5, 5, 5, 5, 5, 5, 5, 5, 5, 5, 5, 5, 5, 5, 5, 6, 6, 6, 6, 6, 6, 6, 6, 6, 6, 6, 6, 6, 6, 6, 6, 6, 6, 6, 6, 6, 6, 6, 6, 6, 6, 6, 6, 6, 6, 6, 6, 7, 7, 7, 7, 7, 7, 7, 7, 7, 7, 7, 7, 7, 7, 7, 7, 7, 7, 7, 7, 7, 7, 7, 7, 7, 7, 7, 7, 7, 7, 7, 7, 7, 7, 7, 7, 7, 7, 7, 7, 7, 7, 7, 7, 7, 7, 7, 7, 7, 7, 7, 7, 7, 7, 7, 7, 7, 7, 7, 7, 7, 7, 7, 7, 8, 8, 8, 8, 8, 8, 8, 8, 8, 8, 8, 8, 8, 8, 8, 8, 8, 8, 8, 8, 8, 8, 8, 8, 8, 8, 8, 8, 8, 8, 8, 8, 8, 8, 8, 8, 8, 8, 8, 8, 8, 8, 8, 8, 8, 8, 8, 8, 8, 8, 8, 8, 8, 8, 8, 8, 8, 8, 8, 8, 8, 8, 8, 8, 8, 8, 8, 8, 8, 8, 8, 8, 8, 8, 8, 8, 8, 8, 8, 8, 8, 8, 8, 8, 8, 8, 8, 8, 8, 8, 8, 8, 8, 8, 8, 8, 8, 8, 8, 8, 8, 8, 8, 8, 8, 8, 8, 8, 8, 8, 8, 8, 8, 8, 8, 8, 8, 8, 8, 8, 8, 8, 8, 8, 8, 8, 8, 8]⟩ : ByteArray).data.toList.getD j 0).toNat = lenI j := by decide +kernel

theorem C_Len32 (x : Nat) (hx : x < 4294967296) : CtrV Tryz.prog 93 [.int .u32 (x : Int)] (.int .i64 (lenI x : Int)) := by
  refine fn_intro Tryz.func93 rfl Tryz.ntmps93 nb ?_
  intro S w0 a hS h
  refine gC h (zs (zr (za rfl (zn ?_)))); clear h; intro a w h
  change Code.wp _ _ _ _ _
  refine wp_join (fun a w => ∃ y m : Nat, y < 65536 ∧ m ≤ 16 ∧ m + lenI y = lenI x ∧ St 19 S w0 [(0, .int .u32 (y : Int)), (2, .int .i64 (m : Int))] [] [] a w) ?_ ?_
  · skip
    refine gC h (zs (zr (zm rfl (zp (.geq rfl rfl) (zn ?_))))); clear h; intro a w h
    change Code.wp _ _ _ _ _
    refine cond_split h rfl (fun hc4 => ?_) (fun hc4 => ?_)
    · skip
      have h4 : 65536 ≤ x := by have := of_decide_eq_true hc4; omega
      refine gC h (zs (zr (zm rfl (zp (.binOp rfl rfl (fun _ => run_shr _ _ _ x 16 (by decide))) (za rfl (zn (zr (za rfl (zn ?_))))))))); clear h; intro a w h
      exact ⟨x / 2 ^ 16, 16, by omega, by omega, by rw [Nat.add_comm]; exact lenI_shift (k := 16) (by omega), h.sub sA⟩
    · skip
      have h4 : x < 65536 := by have := of_decide_eq_false hc4; omega
      refine wp_skip ?_
      exact ⟨x, 0, h4, by omega, Nat.zero_add _, h.sub (subL ⟨rfl, rfl, trivial⟩)⟩
  · clear h
    rintro a w ⟨y, m, hy, hm, hl, h⟩
    refine wp_join (fun a w => ∃ y m : Nat, y < 256 ∧ m ≤ 24 ∧ m + lenI y = lenI x ∧ St 19 S w0 [(0, .int .u32 (y : Int)), (2, .int .i64 (m : Int))] [] [] a w) ?_ ?_
    · skip
      refine gC h (zs (zr (zm rfl (zp (.geq rfl rfl) (zn ?_))))); clear h; intro a w h
      change Code.wp _ _ _ _ _
      refine cond_split h rfl (fun hc8 => ?_) (fun hc8 => ?_)
      · skip
        have h7 : 256 ≤ y := by have := of_decide_eq_true hc8; omega
        refine gC h (zs (zr (zm rfl (zp (.binOp rfl rfl (fun _ => run_shr _ _ _ y 8 (by decide))) (za rfl (zn (zr (zm rfl (zp (Pure1.cast (v' := .int .i64 ((m + 8 : Nat) : Int)) (.add rfl rfl) (by show Value.int _ _ = Value.int _ _; congr 1)) (za rfl (zn ?_))))))))))); clear h; intro a w h
        exact ⟨y / 2 ^ 8, m + 8, by omega, by omega, by rw [← hl, Nat.add_assoc, Nat.add_comm 8]; congr 1; exact lenI_shift (k := 8) (by omega), h.sub sA⟩
      · skip
        have h7 : y < 256 := by have := of_decide_eq_false hc8; omega
        refine wp_skip ?_
        exact ⟨y, m, h7, by omega, hl, h.sub sA⟩
    · clear h
      rintro a w ⟨z, o, hz, ho, hl2, h⟩
      refine gC h (zs (zr (zm rfl (zm rfl ?_)))); clear h; intro a w h
      have hle : lenI z ≤ 8 := lenI_le_of hz
      refine gL h (zp (.convert rfl (cv_23_5b _ (wrap_u8 _ (by omega) (by omega)))) (zp (Pure1.cast (v' := .int .u8 (lenI z : Int)) (.index rfl rfl (fun _ => run_index_str Tryz.runUnderlying9 _ _ (by show z < 256; exact hz))) (by exact congrArg (fun n : Nat => Value.int .u8 (n : Int)) (len8_tab z hz))) (zp (.convert rfl (cv_5_3b _ (wrap_i64 _ (by omega) (by omega)))) (zp (Pure1.cast (v' := .int .i64 (lenI x : Int)) (.add rfl rfl) (by show Value.int _ _ = Value.int _ _; congr 1; omega)) (za rfl (zn (zt ?_))))))); clear h; intro a w h
      refine retV h (results1 h rfl (.tmp rfl)) ?_
      rfl

theorem C_LeadingZeros32 (x : Nat) (hx : x < 4294967296) : CtrV Tryz.prog 134 [.int .u32 (x : Int)] (.int .i64 ((32 - lenI x : Nat) : Int)) := by
  refine fn_intro Tryz.func134 rfl Tryz.ntmps134 nb ?_
  intro S w0 a hS h
  refine gC h (zs (zr (za rfl (zn (zs (zr ?_)))))); clear h; intro a w h
  have hle : lenI x ≤ 32 := lenI_le_of (k := 32) hx
  refine gL h (zm rfl (zv [_] rfl Tryz.call93 (C_Len32 x hx) (zp (Pure1.cast (v' := .int .i64 ((32 - lenI x : Nat) : Int)) (.sub rfl rfl) (by show Value.int _ _ = Value.int _ _; congr 1; omega)) (za rfl (zn (zt ?_)))))); clear h; intro a w h
  refine retV h (results1 h rfl (.tmp rfl)) ?_
  rfl

theorem C_half (b cp : Nat) (O : List Nat) (hO : Wd O) (hl : O.length ≤ 1099511627776) (σr : List (Nat × Obj)) (Φ : List SPred) :
    CtrM Tryz.prog 137 [.slice (some ⟨b, 0, none⟩) O.length cp] ((b, .cells (u32s O).toArray 23 (0, 0)) :: σr) Φ
      (fun _ σ' Φ' => ∃ Z, Wd Z ∧ Z.length = O.length ∧ valW Z = valW O / 2 ∧ σ' = (b, .cells (u32s Z).toArray 23 (0, 0)) :: σr ∧ Φ' = Φ) := by
  refine fn_introM Tryz.func137 rfl Tryz.ntmps137 nb ?_
  intro S w0 a w hS h
  refine gC h (zs (zr (zm rfl (zp (.builtin [_] rfl (len_slice_114 _ _ _)) (zm rfl (zn (zb ?_))))))); clear h; intro a w h
  refine wp_loop_inv (fun (i : Nat) a w => ∃ Z, i ≤ O.length ∧ Z.length = O.length ∧ Wd Z ∧ Z.drop i = O.drop i ∧ 2 * valW (Z.take i) + O.getD 0 0 % 2 = valW (O.take i) + 4294967296 ^ i * (O.getD i 0 % 2) ∧ St 32 S w0 [(0, .slice (some ⟨b, 0, none⟩) O.length cp), (3, .slice (some ⟨b, 0, none⟩) O.length cp), (4, .int .i64 (O.length : Int)), (5, .int .i64 (i : Int))] ((b, .cells (u32s Z).toArray 23 (0, 0)) :: σr) Φ a w) (fun i => O.length - i) (0) (⟨O, Nat.zero_le _, rfl, hO, rfl, by simp [valW], h.sub (subL ⟨rfl, rfl, rfl, rfl, trivial⟩)⟩) ?_; clear h
  rintro i a w ⟨Z, hi, hZl, hZ, hd, hT, h⟩
  refine gC h (zs (zr (zp (.lss rfl rfl) (zn (zs ?_))))); clear h; intro a w h
  refine cond_split h rfl (fun hc6 => ?_) (fun hc6 => ?_)
  · skip
    have hi' : i < O.length := by simpa using hc6
    have hzi := getD_drop_eq hd (Nat.le_refl i)
    have hzi1 := getD_drop_eq hd (Nat.le_succ i)
    have hxi := hO.getD i
    have hxj := hO.getD (i + 1)
    refine wp_skip ?_
    change Code.wp _ _ _ _ _
    refine wp_join (fun a w => St 32 S w0 [(0, .slice (some ⟨b, 0, none⟩) O.length cp), (3, .slice (some ⟨b, 0, none⟩) O.length cp), (4, .int .i64 (O.length : Int)), (5, .int .i64 (i : Int))] ((b, .cells (u32s (Z.set i (O.getD i 0 / 2 + 2147483648 * (O.getD (i + 1) 0 % 2)))).toArray 23 (0, 0)) :: σr) Φ a w) ?_ ?_
    · skip
      refine gC h (zb (zs (zr (zm rfl (za rfl (zn (zs (zr (zm rfl (zm rfl (zp (.indexAddr rfl rfl (ix_114 _ _ _ _ _ (by omega))) (zd rfl mm Tryz.isAgg23 Tryz.sizeOf23 ((read_row 0 (by rw [Nat.zero_add]; omega)).trans (by rw [Nat.zero_add, hzi])) ?_)))))))))))); clear h; intro a w h
      refine gL h (zp (.binOp rfl rfl (fun _ => run_shr _ _ _ _ 1 (by decide))) (zp (.indexAddr rfl rfl (ix_114 _ _ _ _ _ (by omega))) (zt' rfl rfl ((set_row Z (0 + i) (O.getD i 0 / 2 ^ 1)).trans (by rw [Nat.zero_add])) uu Tryz.sizeOf23 rfl (by simp; omega) rfl ?_))); clear h; intro a w h
      refine gL h (zn (zs (zr (zm rfl (zp (Pure1.cast (v' := .int .i64 ((i + 1 : Nat) : Int)) (.add rfl rfl) (by show Value.int _ _ = Value.int _ _; congr 1)) (zm rfl (zp (.builtin [_] rfl (len_slice_114 _ _ _)) (zp (.lss rfl rfl) (zn ?_))))))))); clear h; intro a w h
      change Code.wp _ _ _ _ _
      refine cond_split h rfl (fun hc18 => ?_) (fun hc18 => ?_)
      · skip
        have hlt2 : i + 1 < O.length := by have := of_decide_eq_true hc18; omega
        refine gC h (yD mixed_YtmajjidkkpkhcaaGreat [0, 1, 2, 3, 4, 5, 6, 7, 8, 9, 10, 11, 12] (floatsOK_none (by kernel_rfl)) (yp rfl (.move rfl) (yp rfl (.move rfl) (yp rfl (.indexAddr rfl rfl (ix_114 _ _ _ _ _ (by omega))) (yd rfl rfl mm Tryz.isAgg23 Tryz.sizeOf23 ((read_row 0 (by rw [Nat.zero_add, List.length_set]; omega)).trans (by rw [Nat.zero_add, getD_set_self (by omega)])) ?_))))); clear h
        refine yp rfl (.move rfl) (yp rfl (.move rfl) (yp rfl (Pure1.cast (v' := .int .i64 ((i + 1 : Nat) : Int)) (.add rfl rfl) (by show Value.int _ _ = Value.int _ _; congr 1)) (yp rfl (.indexAddr rfl rfl (ix_114 _ _ _ _ _ (by omega))) (yd rfl rfl mm Tryz.isAgg23 Tryz.sizeOf23 ((read_row 0 (by rw [Nat.zero_add, List.length_set]; omega)).trans (by rw [Nat.zero_add, getD_setw (by omega), hzi1])) ?_))))
        refine yp rfl (Pure1.cast (v' := .int .u32 ((O.getD (i + 1) 0 * 2 ^ 31 % 4294967296 : Nat) : Int)) (.binOp rfl rfl (fun _ => run_shl _ _ _ _ 31 (by decide))) (by rw [wrap_u32_mod]; congr 1)) (yp rfl (Pure1.cast (v' := .int .u32 ((O.getD i 0 / 2 + 2147483648 * (O.getD (i + 1) 0 % 2) : Nat) : Int)) (.binOp rfl rfl (fun _ => run_or rfl _ _ _ _ _ (by show _ < 4294967296; omega) (by show _ < 4294967296; omega))) (by rw [half_word _ _ hxi])) (yp rfl (.indexAddr rfl rfl (ix_114 _ _ _ _ _ (by omega))) (yt rfl rfl rfl ((set_row (Z.set i (O.getD i 0 / 2 ^ 1)) (0 + i) (O.getD i 0 / 2 + 2147483648 * (O.getD (i + 1) 0 % 2))).trans (by rw [Nat.zero_add, List.set_set])) uu Tryz.sizeOf23 rfl (by simp; omega) rfl ?_)))
        refine yn ?_; intro a w h
        exact h.sub sA
      · skip
        have hlt2 : O.length ≤ i + 1 := by have := of_decide_eq_false hc18; omega
        refine wp_skip ?_
        rw [getD_ge hlt2, show O.getD i 0 / 2 + 2147483648 * (0 % 2) = O.getD i 0 / 2 ^ 1 from rfl]
        exact h.sub sA
    · clear h
      intro a w h
      refine gC h (zr (zp (.add rfl rfl) (zm rfl (zn ?_)))); clear h; intro a w h
      exact ⟨i + 1, ⟨Z.set i (O.getD i 0 / 2 + 2147483648 * (O.getD (i + 1) 0 % 2)), by omega, by simpa using hZl, hZ.set _ _ (by omega), drop_set_succ hd, half_step hi' hZl hd hT, h.sub sA⟩, by omega⟩
  · skip
    have hi' : i = O.length := by simp at hc6; omega
    refine wp_exit ?_
    subst hi'
    refine endM h (results0 rfl) ⟨Z, hZ, hZl, half_end (by omega) hZl hT, rfl, rfl⟩ (List.Sublist.refl _) (fun _ h => h)

theorem C_less (b cu : Nat) (p W0 hh : List Nat) (ad : Option Addr) (cv : Nat) (V : List Nat) (dg : Nat) (hW0 : Wd W0) (hV : Wd V) (hl : V.length ≤ 1000000000000) (hWl0 : W0.length = V.length + 1) (hdg : dg < 4294967296)
    (hp : p.length ≤ 1000000000000) (σr : List (Nat × Obj)) (Φ : List SPred) (hΦ : Row ad (u32s V) ∈ Φ) :
    CtrM Tryz.prog 136 [.slice (some ⟨b, p.length, none⟩) (V.length + 1) cu, .slice ad V.length cv, .int .u64 (dg : Int)] ((b, .cells (u32s (p ++ W0 ++ hh)).toArray 23 (0, 0)) :: σr) Φ
      (fun v σ' Φ' => ∃ (W : List Nat) (l : Nat), l ≤ 1 ∧ v = .bool (decide ((l : Int) > 0)) ∧ Wd W ∧ W.length = V.length + 1 ∧ valW W + dg * valW V = valW W0 + 4294967296 ^ (V.length + 1) * l ∧
        σ' = (b, .cells (u32s (p ++ W ++ hh)).toArray 23 (0, 0)) :: σr ∧ Φ' = Φ) := by
  refine fn_introM Tryz.func136 rfl Tryz.ntmps136 nb ?_
  intro S w0 a w hS h
  refine gC h (zs (zr (za rfl (zn (zs (zr (za rfl (za rfl (zn (zs (zs (zr (zm rfl (zp (.builtin [_] rfl (len_slice_114 _ _ _)) (zm rfl (zn (zb ?_))))))))))))))))); clear h; intro a w h
  refine wp_loop_inv (fun (i : Nat) a w => ∃ (W : List Nat) (c g : Nat), i ≤ V.length ∧ W.length = V.length + 1 ∧ Wd W ∧ c < 4294967296 ∧ g ≤ 1 ∧ valW W + dg * valW (V.take i) = valW W0 + 4294967296 ^ i * (c + g) ∧ St 60 S w0 [(0, .slice (some ⟨b, p.length, none⟩) (V.length + 1) cu), (1, .slice ad V.length cv), (2, .int .u64 (dg : Int)), (7, .int .u64 (c : Int)), (8, .int .u32 (g : Int)), (12, .slice ad V.length cv), (13, .int .i64 (V.length : Int)), (14, .int .i64 (i : Int))] ((b, .cells (u32s (p ++ W ++ hh)).toArray 23 (0, 0)) :: σr) Φ a w) (fun i => V.length - i) (0) (⟨W0, 0, 0, Nat.zero_le _, hWl0, hW0, by decide, by decide, by simp [valW], h.sub (subL ⟨rfl, rfl, rfl, rfl, rfl, rfl, rfl, rfl, trivial⟩)⟩) ?_; clear h
  rintro i a w ⟨W, c, g, hi, hWl, hW, hc, hg, hT, h⟩
  refine gC h (zs (zr (zp (.lss rfl rfl) (zn (zs ?_))))); clear h; intro a w h
  refine cond_split h rfl (fun hc15 => ?_) (fun hc15 => ?_)
  · skip
    have hi' : i < V.length := by simpa using hc15
    obtain ⟨bV, oV, rfl⟩ := h.row_addr hΦ (by simp; intro e; simp [e] at hi')
    have hwi := hV.getD i
    obtain ⟨hc1, hc2⟩ := less_carry hc hdg hwi
    have hm := Nat.mod_lt (c + dg * V.getD i 0) (show 0 < 4294967296 by decide)
    refine gC h (zk (zs (zb (zs (zr (zm rfl (zp (.indexAddr rfl rfl (ix_114 _ _ _ _ _ (by omega))) (zD rfl hΦ (by simp; omega) Tryz.isAgg23 Tryz.sizeOf23 (read_row 0 (by omega)) (.inr rfl) ?_)))))))); clear h; intro a w h
    refine gL h (za rfl (za rfl (zn (zs (zr (zm rfl (zm rfl (zm rfl (zp (.convert rfl (cv_23_40b _ (wrap_u64 _ (by omega) (by omega)))) (zp (Pure1.cast (v' := .int .u64 ((dg * V.getD i 0 : Nat) : Int)) (.binOp rfl rfl (fun _ => run_mul _ _ _ _ _)) (by rw [wrap_mul64 (by omega)])) (zp (Pure1.cast (v' := .int .u64 ((c + dg * V.getD i 0 : Nat) : Int)) (.binOp rfl rfl (fun _ => run_add _ _ _ _ _)) (by rw [wrap_add64 hc1])) (za rfl (zn (zs (zr (zm rfl (zm rfl (zm rfl (zm rfl (zp (.indexAddr rfl rfl (ix_114 _ _ _ _ _ (by omega))) (zd rfl mm Tryz.isAgg23 Tryz.sizeOf23 ((read_row 0 (by simp; omega)).trans (by rw [getD_mid _ _ _ _ (by omega)])) ?_))))))))))))))))))))); clear h; intro a w h
    refine gL h (zm rfl (zp (Pure1.cast (v' := .int .u32 (((c + dg * V.getD i 0) % 4294967296 : Nat) : Int)) (.convert rfl (cv_40_23 _)) (by rw [wrap_u32_mod]; congr 1)) (zm rfl (zv [_, _, _] rfl Tryz.call118 (C_Sub32 _ _ _ (hW.getD i) hm hg) (zm rfl (zp (.extract rfl (fun _ => rfl)) (zp (.extract rfl (fun _ => rfl)) (zp (.indexAddr rfl rfl (ix_114 _ _ _ _ _ (by omega))) (zt' rfl rfl ((set_row (p ++ W ++ hh) (p.length + i) ((W.getD i 0 + 8589934592 - (c + dg * V.getD i 0) % 4294967296 - g) % 4294967296)).trans (by rw [set_mid _ _ _ _ _ (by omega)])) uu Tryz.sizeOf23 rfl (by simp; omega) rfl ?_))))))))); clear h; intro a w h
    refine gL h (za rfl (zn (zr (zm rfl (zp (Pure1.cast (v' := .int .u64 (((c + dg * V.getD i 0) / 4294967296 : Nat) : Int)) (.binOp rfl rfl (fun _ => run_shr _ _ _ _ 32 (by decide))) (by rfl)) (za rfl (zn (zr (zp (.add rfl rfl) (zm rfl (zn ?_))))))))))); clear h; intro a w h
    exact ⟨i + 1, ⟨W.set i ((W.getD i 0 + 8589934592 - (c + dg * V.getD i 0) % 4294967296 - g) % 4294967296), _, _, by omega, by simpa using hWl, hW.set _ _ (Nat.mod_lt _ (by decide)), hc2, by split <;> omega, less_step hi' (by omega) hT (sub_eq _ _ _ (hW.getD i) hm hg), h.sub (subL ⟨rfl, rfl, rfl, rfl, rfl, rfl, rfl, rfl, trivial⟩)⟩, by omega⟩
  · skip
    have hi' : i = V.length := by simp at hc15; omega
    refine gC h (ze (zs (zr (zm rfl (zp (.builtin [_] rfl (len_slice_114 _ _ _)) (za rfl (zn (zs (zr (zm rfl (zm rfl (zm rfl (zm rfl (zp (.indexAddr rfl rfl (ix_114 _ _ _ _ _ (by omega))) (zd rfl mm Tryz.isAgg23 Tryz.sizeOf23 ((read_row 0 (by simp; omega)).trans (by rw [getD_mid _ _ _ _ (by omega)])) ?_))))))))))))))); clear h; intro a w h
    refine gL h (zm rfl (zp (Pure1.cast (v' := .int .u32 (c : Int)) (.convert rfl (cv_40_23 _)) (by rw [wrap_u32n hc])) (zm rfl (zv [_, _, _] rfl Tryz.call118 (C_Sub32 _ _ _ (hW.getD V.length) hc hg) (zm rfl (zp (.extract rfl (fun _ => rfl)) (zp (.extract rfl (fun _ => rfl)) (zp (.indexAddr rfl rfl (ix_114 _ _ _ _ _ (by omega))) (zt' rfl rfl ((set_row (p ++ W ++ hh) (p.length + V.length) ((W.getD V.length 0 + 8589934592 - c - g) % 4294967296)).trans (by rw [set_mid _ _ _ _ _ (by omega)])) uu Tryz.sizeOf23 rfl (by simp; omega) rfl ?_))))))))); clear h; intro a w h
    refine gL h (za rfl (zn (zs (zr (zm rfl (zp (.gtr rfl rfl) (za rfl (zn (zt ?_))))))))); clear h; intro a w h
    subst hi'
    refine retM h (results1 h rfl (.tmp rfl)) ⟨W.set V.length ((W.getD V.length 0 + 8589934592 - c - g) % 4294967296), _, ?_, rfl, hW.set _ _ (Nat.mod_lt _ (by decide)), by simpa using hWl, less_end (by omega) hT (sub_eq _ _ _ (hW.getD _) hc hg), rfl, rfl⟩ (List.Sublist.refl _) (fun _ h => h)
    split <;> omega
end Go.Proofs.YtmajjidkkpkhcaaGreat
