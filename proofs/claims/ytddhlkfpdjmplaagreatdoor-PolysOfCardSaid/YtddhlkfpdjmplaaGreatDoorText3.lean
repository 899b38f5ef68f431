/- Written by a program of ours (gen.py) out of short specifications. By an AI agent. -/
import Derived.Test.YtddhlkfpdjmplaaGreatDoorLaw09a
set_option linter.unusedVariables false
set_option linter.unusedSimpArgs false
set_option maxRecDepth 4000
namespace Go.Proofs.YtddhlkfpdjmplaaGreatDoor
open Go Go.Proofs Go.Fx
attribute [local irreducible] Oper.wp Code.wp wpList Fx.Head wpOp
theorem cv_3_5 (x : Int) (w : World) : (Go.convert 3 5 (.int .i64 x)).run Tryz.prog w = .ok (.int .u8 (IntKind.u8.wrap x)) w := by
  simp [go_sem]
theorem cv_3_5b (x : Int) (h0 : IntKind.u8.wrap x = x) (w : World) : (Go.convert 3 5 (.int .i64 x)).run Tryz.prog w = .ok (.int .u8 x) w := by
  rw [cv_3_5, h0]
theorem dg_get : ∀ (n i : Nat), (dg n).getD i 0 = n / 10000 ^ i % 10000 := by
  intro n
  induction n using Nat.strongRecOn with
  | _ n ih =>
    intro i
    by_cases h : n = 0
    · subst h; rw [dg_zero]; simp
    · rw [dg_pos h]
      cases i with
      | zero => simp
      | succ i => rw [List.getD_cons_succ, ih (n / 10000) (by omega), Nat.div_div_eq_div_mul, Nat.pow_succ, Nat.mul_comm]
theorem dg_bound (n : Nat) : n < 10000 ^ (dg n).length := by have := valD_lt (Dd.dg n); rwa [valD_dg] at this
def rS (n i : Nat) : ByteArray := if i = (dg n).length then dB n else lowS n (4 * i)
theorem rS_digit (n i k : Nat) (hk : k < 4) : (dg n).getD i 0 / 10 ^ k % 10 = n / 10 ^ (4 * i + k) % 10 := by
  have h1 : (dg n).getD i 0 = n / 10 ^ (4 * i) % 10000 := by rw [dg_get, show 10000 ^ i = 10 ^ (4 * i) from by rw [Nat.pow_mul]]
  have e : n / 10 ^ (4 * i + k) = n / 10 ^ (4 * i) / 10 ^ k := by rw [Nat.div_div_eq_div_mul, ← Nat.pow_add]
  rw [h1, e]
  generalize n / 10 ^ (4 * i) = m
  match k, hk with
  | 0, _ => simp only [Nat.pow_zero, Nat.div_one]; omega
  | 1, _ => simp only [Nat.pow_one]; omega
  | 2, _ => rw [show (10 : Nat) ^ 2 = 100 from rfl]; omega
  | 3, _ => rw [show (10 : Nat) ^ 3 = 1000 from rfl]; omega
theorem rS_end {n i k : Nat} (hi : i < (dg n).length) (hk : k ≤ 4) (hp : i + 1 = (dg n).length → k = 0 ∨ 0 < (dg n).getD i 0 / 10 ^ (k - 1))
    (he : 4 ≤ k ∨ ((dg n).length ≤ i + 1 ∧ (dg n).getD i 0 / 10 ^ k = 0)) : lowS n (4 * i + k) = rS n (i + 1) := by
  by_cases hl : i + 1 = (dg n).length
  · rw [rS, if_pos hl]
    have hb := dg_bound n
    rw [← hl, show (10000 : Nat) = 10 ^ 4 from rfl, ← Nat.pow_mul] at hb
    have hd : (dg n).getD i 0 = n / 10 ^ (4 * i) := by
      rw [dg_get, show (10000 : Nat) = 10 ^ 4 from rfl, ← Nat.pow_mul]
      refine Nat.mod_eq_of_lt ((Nat.div_lt_iff_lt_mul (Nat.pow_pos (by decide))).2 ?_)
      rw [← Nat.pow_add, show 4 + 4 * i = 4 * (i + 1) by omega]; exact hb
    have hne : (dg n).getD i 0 ≠ 0 := by
      have hne' : dg n ≠ [] := fun e => by rw [e] at hi; cases hi
      have h1 := dg_last n hne'
      rw [List.getLast_eq_getElem] at h1
      rw [List.getD_eq_getElem?_getD, List.getElem?_eq_getElem hi]
      simpa [show (dg n).length - 1 = i by omega] using h1
    have hdl : (dg n).getD i 0 < 10000 := (Dd.dg n).getD i
    have hz : (dg n).getD i 0 / 10 ^ k = 0 := by
      rcases he with he | he
      · rw [show k = 4 by omega]; exact Nat.div_eq_of_lt hdl
      · exact he.2
    have hk0 : k ≠ 0 := by intro e; subst e; rw [Nat.pow_zero, Nat.div_one] at hz; exact hne hz
    obtain ⟨k', rfl⟩ : ∃ k', k = k' + 1 := ⟨k - 1, by omega⟩
    have hp' := (hp hl).resolve_left hk0
    rw [Nat.add_sub_cancel, hd, Nat.div_div_eq_div_mul, ← Nat.pow_add] at hp'
    rw [hd, Nat.div_div_eq_div_mul, ← Nat.pow_add] at hz
    have hlo : 10 ^ (4 * i + k') ≤ n := by
      rcases Nat.lt_or_ge n (10 ^ (4 * i + k')) with h | h
      · rw [Nat.div_eq_of_lt h] at hp'; omega
      · exact h
    have hhi : n < 10 ^ (4 * i + k' + 1) := by
      rcases Nat.lt_or_ge n (10 ^ (4 * i + (k' + 1))) with h | h
      · exact h
      · have := Nat.div_pos h (Nat.pow_pos (by decide)); omega
    unfold lowS dB
    rw [decDigits_low, Lib.nDigits_unique _ _ hlo hhi]
    rfl
  · rw [rS, if_neg hl, show k = 4 by rcases he with he | he <;> omega]
    rfl
theorem dB_zero : dB 0 = ⟨#[48]⟩ := by unfold dB; rw [Lib.decDigits_one (by decide)]; rfl
theorem dB_sizeD (n : Nat) : (dB n).size ≤ 4 * (dg n).length + 1 := by
  rw [dB_size]
  refine nDigits_le (Nat.lt_of_lt_of_le (dg_bound n) ?_)
  rw [show (10000 : Nat) = 10 ^ 4 from rfl, ← Nat.pow_mul, Nat.pow_succ]
  have := Nat.pow_pos (n := 4 * (dg n).length) (show 0 < 10 by decide)
  omega
theorem cv_byte (x : Nat) (hx : x < 128) (w : World) : (Go.convert 5 9 (.int .u8 (x : Int))).run Tryz.prog w = .ok (.string ⟨#[UInt8.ofNat x]⟩) w := by
  have h : ∀ x, x < 128 → Utf8.encode ((x : Nat) : Int) = ⟨#[UInt8.ofNat x]⟩ := by decide +kernel
  rw [run_convert_int_string w _ _ _ _ (by rw [Tryz.underlying5]; rfl) Tryz.underlying9, h x hx]
theorem C_rNText (ad : Option Addr) (c n : Nat) (hn : (dg n).length ≤ 300000000000) : CtrW Tryz.prog 122 [.slice ad (dg n).length c] [Row ad (List.map encn (dg n))] (.string (dB n)) := by
  refine fn_intro Tryz.func122 rfl Tryz.ntmps122 nb ?_
  intro S w0 a hS h
  refine gC h (zs (zr (za rfl (zn (zs (zs (zr (zm rfl (zp (.builtin [_] rfl (len_slice_52 _ _ _)) (zp (.eql rfl rfl) (zn ?_))))))))))); clear h; intro a w h
  change Code.wp _ _ _ _ _
  refine cond_split h rfl (fun hc9 => ?_) (fun hc9 => ?_)
  · skip
    have hz : (dg n).length = 0 := natEq' hc9
    refine gC h (zs (zr (za rfl (zn (zt ?_))))); clear h; intro a w h
    refine retV h (results1 h rfl (.tmp rfl)) ?_
    rw [show n = 0 from by have := dg_bound n; rw [hz] at this; simpa using this, dB_zero]
  · skip
    have hz : (dg n).length ≠ 0 := natNe' hc9
    refine gC h (zk (zs (zr (za rfl (zn (zs (zs (zr (za rfl (zn (zb ?_))))))))))); clear h; intro a w h
    refine wp_loop_inv (fun (i : Nat) a w => i ≤ (dg n).length ∧ St 45 S w0 [(0, .slice ad ((dg n).length) c), (2, .string (⟨#[]⟩)), (3, .string (rS n i)), (4, .int .i64 ((i : Nat) : Int))] [] [Row ad (List.map encn (dg n))] a w) (fun i => (dg n).length - i) 0 (⟨Nat.zero_le _, by rw [show rS n 0 = ⟨#[]⟩ from if_neg (by omega)]; exact (h).sub (subL ⟨rfl, rfl, rfl, rfl, trivial⟩)⟩) ?_; clear h
    rintro i a w ⟨hi_i, h⟩
    refine gC h (zs (zs (zr (zm rfl (zm rfl (zp (.builtin [_] rfl (len_slice_52 _ _ _)) (zp (.lss rfl rfl) (zn ?_)))))))); clear h; intro a w h
    change Code.wp _ _ _ _ _
    refine cond_split h rfl (fun hc13 => ?_) (fun hc13 => ?_)
    · skip
      have hlt_i : i < (dg n).length := by have := of_decide_eq_true hc13; omega
      obtain ⟨B_ad, O_ad, rfl⟩ := h.row_addr (ad := ad) (M := List.map encn (dg n)) mm (by intro e; have := congrArg List.length e; simp only [List.length_map, List.length_nil] at this; omega)
      rw [show rS n i = lowS n (4 * i) from if_neg (by omega)] at h
      refine gC h (zk (zs (zb (zs (zr (zm rfl (zm rfl (zp (.indexAddr rfl rfl (ix_52 _ _ _ _ _ (by omega))) (zD rfl mm (by rw [List.length_map]; omega) Tryz.isAgg3 Tryz.sizeOf3 (read_row (enc := encn) (l := (dg n)) 0 (by omega)) (.inr rfl) ?_))))))))); clear h; intro a w h
      refine gL h (za rfl (zn (zs (zr (za rfl (zn (zb ?_))))))); clear h; intro a w h
      rw [show ((dg n).getD i 0) = ((dg n).getD i 0) / 10 ^ 0 by rw [Nat.pow_zero, Nat.div_one]] at h
      refine wp_loop_inv (fun (k : Nat) a w => (k ≤ 4 ∧ (i + 1 = (dg n).length → k = 0 ∨ 0 < ((dg n).getD i 0) / 10 ^ (k - 1))) ∧ St 45 S w0 [(0, .slice (some ⟨B_ad, O_ad, none⟩) ((dg n).length) c), (2, .string (⟨#[]⟩)), (3, .string (lowS n (4 * i + k))), (4, .int .i64 ((i : Nat) : Int)), (5, .int .i64 ((((dg n).getD i 0) / 10 ^ k : Nat) : Int)), (6, .int .i64 ((k : Nat) : Int))] [] [Row (some ⟨B_ad, O_ad, none⟩) (List.map encn (dg n))] a w) (fun k => 4 - k) (0) (⟨⟨by omega, fun _ => .inl rfl⟩, by exact h.sub sA⟩) ?_; clear h
      rintro k a w ⟨⟨hk, hp⟩, h⟩
      have hsz := lowS_size n (4 * i + k)
      have hdl : ((dg n).getD i 0) < 10000 := (Dd.dg n).getD i
      have hdk : ((dg n).getD i 0) / 10 ^ k ≤ ((dg n).getD i 0) := Nat.div_le_self _ _
      have hd0 : (0 : Int) ≤ ((((dg n).getD i 0) / 10 ^ k : Nat) : Int) := Int.natCast_nonneg _
      refine gC h (zs (zs (zr (zm rfl (zp (.lss rfl rfl) (zm rfl ?_)))))); clear h; intro a w h
      refine by_bool h (fun hc22 h => ?_) (fun hc22 h => ?_)
      · skip
        have hk4 : k < 4 := by have := of_decide_eq_true hc22; omega
        refine gL h (zq 22 rfl rfl (.move rfl) (zq 22 rfl rfl (Pure1.cast (v' := (.int .i64 ((i + 1 : Nat) : Int))) (.add rfl rfl) (by show Value.int _ _ = Value.int _ _; congr 1)) (zq 22 rfl rfl (.move rfl) (zq 22 rfl rfl (.builtin [_] rfl (len_slice_52 _ _ _)) (zq 22 rfl rfl (.lss rfl rfl) (zq 22 rfl rfl (.move rfl) ?_)))))); clear h; intro a w h
        refine by_bool h (fun hc28 h => ?_) (fun hc28 h => ?_)
        · skip
          have hmore : i + 1 < (dg n).length := by have := of_decide_eq_true hc28; omega
          refine gL h (zo 28 rfl rfl rfl (zo 28 rfl rfl rfl (zq 22 rfl rfl (.pickT rfl rfl) (zp (.pickT rfl rfl) (zn ?_))))); clear h; intro a w h
          change Code.wp _ _ _ _ _
          refine cond_true h rfl ?_
          refine gC h (zk (zs (zb (zs (zr (zm rfl (zp (Pure1.cast (v' := .int .i64 ((n / 10 ^ (4 * i + k) % 10 : Nat) : Int)) (.binOp rfl rfl (fun _ => run_rem _ _ _ _ _ (by decide))) (by rw [show (10 : Int) = ((10 : Nat) : Int) from rfl, tmod_nat, rS_digit n i k hk4])) (zp (Pure1.cast (v' := .int .i64 ((48 + n / 10 ^ (4 * i + k) % 10 : Nat) : Int)) (Pure1.cast (v' := (.int .i64 ((48 + (n / 10 ^ (4 * i + k) % 10) : Nat) : Int))) (.add rfl rfl) (by show Value.int _ _ = Value.int _ _; congr 1)) (by show Value.int _ _ = Value.int _ _; congr 1)) (zp (.convert rfl (cv_3_5b _ (wrap_u8 _ (by omega) (by omega)))) (zp (.convert rfl (cv_byte _ (by omega))) (zm rfl (zp (.binOp rfl rfl (fun _ => run_sadd _ _ _ _ _ (by rw [hsz, size1]; omega))) (za rfl (zn (zr (zm rfl (zp (Pure1.cast (v' := .int .i64 ((((dg n).getD i 0) / 10 ^ (k + 1) : Nat) : Int)) (.binOp rfl rfl (fun _ => run_quo _ _ _ _ _ (by decide))) (by rw [show (10 : Int) = ((10 : Nat) : Int) from rfl, tdiv_nat, wrap_i64 _ (by omega) (by omega), Nat.div_div_eq_div_mul, ← Nat.pow_succ])) (za rfl (zn (zr (zm rfl (zp (Pure1.cast (v' := (.int .i64 ((k + 1 : Nat) : Int))) (.add rfl rfl) (by show Value.int _ _ = Value.int _ _; congr 1)) (za rfl (zn ?_)))))))))))))))))))))))); clear h; intro a w h
          rw [lowS_cons] at h
          exact ⟨k + 1, ⟨⟨by omega, fun _ => .inr (by first | assumption | omega)⟩, by exact h.sub sA⟩, by omega⟩
        · skip
          have hlast : (dg n).length ≤ i + 1 := by have := of_decide_eq_false hc28; omega
          refine gL h (zq 28 rfl rfl (.move rfl) (zq 28 rfl rfl (.gtr rfl rfl) (zq 22 rfl rfl (.pickF rfl rfl) (zp (.pickT rfl rfl) (zn ?_))))); clear h; intro a w h
          change Code.wp _ _ _ _ _
          refine cond_split h rfl (fun hc32 => ?_) (fun hc32 => ?_)
          · skip
            have hpos : 0 < ((dg n).getD i 0) / 10 ^ k := by have := of_decide_eq_true hc32; omega
            refine gC h (zk (zs (zb (zs (zr (zm rfl (zp (Pure1.cast (v' := .int .i64 ((n / 10 ^ (4 * i + k) % 10 : Nat) : Int)) (.binOp rfl rfl (fun _ => run_rem _ _ _ _ _ (by decide))) (by rw [show (10 : Int) = ((10 : Nat) : Int) from rfl, tmod_nat, rS_digit n i k hk4])) (zp (Pure1.cast (v' := .int .i64 ((48 + n / 10 ^ (4 * i + k) % 10 : Nat) : Int)) (Pure1.cast (v' := (.int .i64 ((48 + (n / 10 ^ (4 * i + k) % 10) : Nat) : Int))) (.add rfl rfl) (by show Value.int _ _ = Value.int _ _; congr 1)) (by show Value.int _ _ = Value.int _ _; congr 1)) (zp (.convert rfl (cv_3_5b _ (wrap_u8 _ (by omega) (by omega)))) (zp (.convert rfl (cv_byte _ (by omega))) (zm rfl (zp (.binOp rfl rfl (fun _ => run_sadd _ _ _ _ _ (by rw [hsz, size1]; omega))) (za rfl (zn (zr (zm rfl (zp (Pure1.cast (v' := .int .i64 ((((dg n).getD i 0) / 10 ^ (k + 1) : Nat) : Int)) (.binOp rfl rfl (fun _ => run_quo _ _ _ _ _ (by decide))) (by rw [show (10 : Int) = ((10 : Nat) : Int) from rfl, tdiv_nat, wrap_i64 _ (by omega) (by omega), Nat.div_div_eq_div_mul, ← Nat.pow_succ])) (za rfl (zn (zr (zm rfl (zp (Pure1.cast (v' := (.int .i64 ((k + 1 : Nat) : Int))) (.add rfl rfl) (by show Value.int _ _ = Value.int _ _; congr 1)) (za rfl (zn ?_)))))))))))))))))))))))); clear h; intro a w h
            rw [lowS_cons] at h
            exact ⟨k + 1, ⟨⟨by omega, fun _ => .inr (by first | assumption | omega)⟩, by exact h.sub sA⟩, by omega⟩
          · skip
            have hex : 4 ≤ k ∨ ((dg n).length ≤ i + 1 ∧ ((dg n).getD i 0) / 10 ^ k = 0) := .inr ⟨hlast, by have := of_decide_eq_false hc32; omega⟩
            refine gC h (ze (zr (zm rfl (zp (Pure1.cast (v' := (.int .i64 ((i + 1 : Nat) : Int))) (.add rfl rfl) (by show Value.int _ _ = Value.int _ _; congr 1)) (za rfl (zn ?_)))))); clear h; intro a w h
            rw [rS_end hlt_i hk hp hex] at h
            exact ⟨i + 1, ⟨by omega, (h.factsSub (by simp)).sub sA⟩, by omega⟩
      · skip
        have hex : 4 ≤ k ∨ ((dg n).length ≤ i + 1 ∧ ((dg n).getD i 0) / 10 ^ k = 0) := .inl (by have := of_decide_eq_false hc22; omega)
        refine gL h (zo 22 rfl rfl rfl (zo 22 rfl rfl rfl (zo 22 rfl rfl rfl (zo 22 rfl rfl rfl (zo 22 rfl rfl rfl (zo 22 rfl rfl rfl (zu 28 rfl rfl (zu 28 rfl rfl (zo 22 rfl rfl rfl (zp (.pickF rfl rfl) (zn ?_))))))))))); clear h; intro a w h
        change Code.wp _ _ _ _ _
        refine cond_false h rfl ?_
        refine gC h (ze (zr (zm rfl (zp (Pure1.cast (v' := (.int .i64 ((i + 1 : Nat) : Int))) (.add rfl rfl) (by show Value.int _ _ = Value.int _ _; congr 1)) (za rfl (zn ?_)))))); clear h; intro a w h
        rw [rS_end hlt_i hk hp hex] at h
        exact ⟨i + 1, ⟨by omega, (h.factsSub (by simp)).sub sA⟩, by omega⟩
    · skip
      have heq_i : (dg n).length = i := by have := of_decide_eq_false hc13; omega
      subst heq_i
      refine gC h (ze (zs (zr (zm rfl (za rfl (zn (zt ?_))))))); clear h; intro a w h
      refine retV h (results1 h rfl (.tmp rfl)) ?_
      exact congrArg _ (if_pos rfl)
theorem C_rZText (ad : Option Addr) (c : Nat) (z : Int) (hn : (dg z.natAbs).length ≤ 300000000000) : CtrW Tryz.prog 121 [zV z ad c] [Row ad (List.map encn (dg z.natAbs))] (.string (txtZ z)) := by
  refine fn_intro Tryz.func121 rfl Tryz.ntmps121 nb ?_
  intro S w0 a hS h
  refine gC h (zs (zr (zx rfl fun b1 => za rfl (zn (zs (zs (zr (zp (.fieldAddr rfl (fa_54_0 _ _)) (zd rfl mr Tryz.isAgg4 Tryz.sizeOf4 (rs_2_0 _ _) ?_))))))))); clear h; intro a w h
  refine wpList_nil ?_
  change Code.wp _ _ _ _ _
  refine cond_split h rfl (fun hc4 => ?_) (fun hc4 => ?_)
  · skip
    have hz : z < 0 := of_decide_eq_true hc4
    refine gC h (zs (zr (zp (.fieldAddr rfl (fa_54_1 _ _)) (zd rfl mr Tryz.isAgg52 Tryz.sizeOf52 (rs_2_1 _ _) ?_)))); clear h; intro a w h
    refine gL h (zw [_] rfl Tryz.call122 (C_rNText _ _ z.natAbs (by omega)) (zp (.binOp rfl rfl (fun _ => run_sadd _ _ _ _ _ (by have := dB_sizeD z.natAbs; rw [size1]; omega))) (za rfl (zn (zt ?_))))); clear h; intro a w h
    refine retV h (results1 h rfl (.tmp rfl)) ?_
    exact congrArg _ (if_pos hz).symm
  · skip
    have hz : ¬ z < 0 := of_decide_eq_false hc4
    refine gC h (zk (zs (zr (zp (.fieldAddr rfl (fa_54_1 _ _)) (zd rfl mr Tryz.isAgg52 Tryz.sizeOf52 (rs_2_1 _ _) ?_))))); clear h; intro a w h
    refine gL h (zw [_] rfl Tryz.call122 (C_rNText _ _ z.natAbs (by omega)) (za rfl (zn (zt ?_)))); clear h; intro a w h
    refine retV h (results1 h rfl (.tmp rfl)) ?_
    exact congrArg _ (if_neg hz).symm
theorem dg_len0 {n : Nat} (h : (dg n).length = 0) : n = 0 := by have := dg_bound n; rw [h] at this; simpa using this
theorem txtZ_sizeD (z : Int) : (txtZ z).size ≤ 4 * (dg z.natAbs).length + 2 := by
  unfold txtZ; have h1 := dB_sizeD z.natAbs; have h2 := size1 45
  split
  · rw [ByteArray.size_append]; omega
  · omega
theorem C_rQText (a1 a2 : Option Addr) (c1 c2 : Nat) (x : Rat) (hx : lenQ x ≤ 100000000000) : CtrW Tryz.prog 56 [fV x a1 c1 a2 c2] [Row a1 (List.map encn (dg x.num.natAbs)), Row a2 (List.map encn (dg (x.den - 1)))] (.string (txtQ x)) := by
  obtain ⟨hq1, hq2, hq3⟩ := dgQ hx
  have hs1 := txtZ_sizeD x.num
  have hs2 := dB_sizeD x.den
  have hs3 := size1 47
  refine fn_intro Tryz.func56 rfl Tryz.ntmps56 nb ?_
  intro S w0 a hS h
  refine gC h (zs (zr (zx rfl fun b1 => za rfl (zn (zs (zs (zr (zp (.fieldAddr rfl (fa_56_1 _ _)) (zd rfl mr Tryz.isAgg52 Tryz.sizeOf52 (rs_3_2 _ _ _) ?_))))))))); clear h; intro a w h
  refine gL h (zp (.builtin [_] rfl (len_slice_52 _ _ _)) (zp (.eql rfl rfl) (zn ?_))); clear h; intro a w h
  change Code.wp _ _ _ _ _
  refine cond_split h rfl (fun hc6 => ?_) (fun hc6 => ?_)
  · skip
    have hd : x.den = 1 := by have := dg_len0 (natEq' hc6); have := x.den_pos; omega
    refine gC h (zs (zr (zp (.fieldAddr rfl (fa_56_0 _ _)) (zd rfl mr Tryz.isAgg54 Tryz.sizeOf54 (rd_3_0_2 _ _ _) ?_)))); clear h; intro a w h
    refine gL h (zw [_] rfl Tryz.call121 (C_rZText _ _ x.num (by omega)) (za rfl (zn (zt ?_)))); clear h; intro a w h
    refine retV h (results1 h rfl (.tmp rfl)) ?_
    exact congrArg _ (if_pos hd).symm
  · skip
    have hd : ¬ x.den = 1 := fun e => natNe' hc6 (by rw [e]; show (dg 0).length = 0; rw [dg_zero]; rfl)
    refine gC h (zk (zs (yD mixed_YtddhlkfpdjmplaaGreatDoor [0, 1, 4, 2, 3, 5, 6, 7, 8] (floatsOK_none (by kernel_rfl)) (yp rfl (.fieldAddr rfl (fa_56_0 _ _)) (yd rfl rfl mr Tryz.isAgg54 Tryz.sizeOf54 (rd_3_0_2 _ _ _) ?_))))); clear h
    refine yd rfl rfl mr Tryz.isAgg56 Tryz.sizeOf56 (rd_3_0_3 _ _ _) ?_
    refine yw [_] rfl rfl Tryz.call121 (C_rZText _ _ x.num (by omega)) (yp rfl (.binOp rfl rfl (fun _ => run_sadd _ _ _ _ _ (by omega))) (yf [_] rfl rfl Tryz.call123 (C_fDen _ _ _ _ x (by omega)) ?_)); rintro v15 Ψ15 ⟨ad15, c15, rfl, hle15, rfl⟩
    refine yw [_] rfl rfl Tryz.call122 (C_rNText _ _ x.den (by omega)) (yp rfl (.binOp rfl rfl (fun _ => run_sadd _ _ _ _ _ (by rw [ByteArray.size_append]; omega))) (yp rfl (.assign rfl) (yn (zt ?_)))); intro a w h
    refine retV h (results1 h rfl (.tmp rfl)) ?_
    exact congrArg _ (if_neg hd).symm
end Go.Proofs.YtddhlkfpdjmplaaGreatDoor
