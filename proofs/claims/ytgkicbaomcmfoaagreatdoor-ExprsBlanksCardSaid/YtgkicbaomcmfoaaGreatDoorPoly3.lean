/- Written by a program of ours (gen.py) out of short specifications. By an AI agent. -/
import Derived.Test.YtgkicbaomcmfoaaGreatDoorText2
import Derived.Test.YtgkicbaomcmfoaaGreatDoorNumT
import Derived.Test.YtgkicbaomcmfoaaGreatDoorFxD
import Derived.Test.YtgkicbaomcmfoaaGreatDoorFxM
set_option linter.unusedVariables false
set_option linter.unusedSimpArgs false
set_option maxRecDepth 4000
namespace Go.Proofs.YtgkicbaomcmfoaaGreatDoor
open Go Go.Proofs Go.Fx
attribute [local irreducible] Oper.wp Code.wp wpList Fx.Head wpOp
section
def TabF : SPred where
  p X w := ∃ g, Tryz.prog.globalNamed "internal/strconv.uint64pow10" = some g ∧ ¬ X g ∧ g < w.heap.size ∧ Lib.TabIs Tryz.prog w "internal/strconv.uint64pow10" .u64 Lib.pow10Tab
  st X X' w w' h hk hs hX := by
    obtain ⟨g, hg, hx, hlt, ht⟩ := h
    refine ⟨g, hg, fun h' => ?_, by omega, ?_⟩
    · rcases hX g h' with h1 | h1
      · exact hx h1
      · omega
    · unfold Lib.TabIs World.var? at *
      simp only [hg, Option.bind_some] at ht ⊢
      rw [hk g hlt hx]; exact ht
theorem below_grow (w : World) (k : Nat) (os : Array Obj) : Go.RowKit.Below w.heap.size w (Sort.grow (w.drewN k) os) := ⟨rfl, rfl, rfl, by simp [Sort.grow, World.drewN], fun b hb => by
  show (w.heap ++ os)[b]? = _
  rw [Array.getElem?_append_left hb]⟩
def dB (n : Nat) : ByteArray := ⟨(Lib.decDigits n).toArray⟩
theorem dB_small {n : Nat} (h : n < 100) : dB n = digS n := by
  unfold dB digS
  split
  · rw [Lib.decDigits_one (by assumption)]
  · rw [Lib.decDigits_two (by assumption) h]
theorem dB_size (n : Nat) : (dB n).size = Lib.nDigits n := by
  show (Lib.decDigits n).toArray.size = _
  rw [List.size_toArray, Lib.decDigits_length]
theorem nDigits_le {k n : Nat} (h : n < 10 ^ (k + 1)) : Lib.nDigits n ≤ k + 1 := by
  induction k generalizing n with
  | zero => rw [Lib.nDigits_small (by simpa using h)]; exact Nat.le_refl _
  | succ k ih =>
    by_cases h1 : n < 10
    · rw [Lib.nDigits_small h1]; omega
    · rw [Lib.nDigits_big h1]
      have := ih (n := n / 10) (by rw [Nat.pow_succ] at h; omega)
      omega
def txtZ (z : Int) : ByteArray := if z < 0 then ⟨#[45]⟩ ++ dB z.natAbs else dB z.natAbs
def txtQ (x : Rat) : ByteArray := if x.den = 1 then txtZ x.num else txtZ x.num ++ ⟨#[47]⟩ ++ dB x.den
theorem size1 (c : UInt8) : (ByteArray.mk #[c]).size = 1 := rfl
theorem C_iFU2 (n : Nat) (hn : n < 18446744073709551616) : CtrW Tryz.prog 134 [.int .u64 (n : Int), .int .i64 10] [TabF] (.string (dB n)) := by
  intro X w hX hΦ
  by_cases h : n < 100
  · refine (C_iFU n h X w hX (fun _ h => nomatch h)).mono ?_
    rintro e w' ⟨v, Ψ, rfl, ⟨rfl, rfl⟩, hb, _⟩
    exact ⟨_, [], rfl, ⟨by rw [dB_small h], rfl⟩, hb, fun _ h => nomatch h⟩
  · obtain ⟨g, hg, _, _, ht⟩ := hΦ TabF (List.Mem.head _)
    refine (K_FU n (by omega) hn w ht).mono ?_
    rintro e w' ⟨rfl, k, os, rfl⟩
    exact ⟨_, [], rfl, ⟨rfl, rfl⟩, below_grow w k os, fun _ h => nomatch h⟩
theorem C_FU2 (n : Nat) (hlt : n < 18446744073709551616) : CtrW Tryz.prog 91 [.int .u64 (n : Int), .int .i64 10] [TabF] (.string (dB n)) := by
  refine fn_intro Tryz.func91 rfl Tryz.ntmps91 nb ?_
  intro S w0 a hS h
  refine gC h (zs (zr (za rfl (zn (zs (zr (zm rfl (zm rfl (zw [_, _] rfl Tryz.call134 (C_iFU2 n hlt) (za rfl (zn (zt ?_)))))))))))); clear h; intro a w h
  refine retV h (results1 h rfl (.tmp rfl)) ?_
  rfl
theorem C_NText2 (n : Nat) (hlt : n < 18446744073709551616) : CtrW Tryz.prog 56 [encN n] [TabF] (.string (dB n)) := by
  refine fn_intro Tryz.func56 rfl Tryz.ntmps56 nb ?_
  intro S w0 a hS h
  refine gC h (zs (zr (zx rfl fun b1 => za rfl (zn (zs (zs (zr (zp (.fieldAddr rfl (fa_47_1 _ _)) (zd rfl mr Tryz.isAgg9 Tryz.sizeOf9 (rs_2_1 _ _) ?_))))))))); clear h; intro a w h
  refine gL h (zp (.binOp rfl rfl (fun _ => run_seql _ _ _ _ _)) (zn ?_)); clear h; intro a w h
  change Code.wp _ _ _ _ _
  refine cond_split h rfl (fun hc10 => ?_) (fun hc10 => (by exfalso; have hb : bigN n = ⟨#[]⟩ := bigN_small (by omega); rw [hb] at hc10; exact absurd hc10 (by decide)))
  refine gC h (zs (zr (zp (.fieldAddr rfl (fa_47_0 _ _)) (zd rfl mr Tryz.isAgg45 Tryz.sizeOf45 (rs_2_0 _ _) ?_)))); clear h; intro a w h
  rw [lowN_small hlt] at h
  refine gL h (zw [_, _] rfl Tryz.call91 (C_FU2 n hlt) (za rfl (zn (zt ?_)))); clear h; intro a w h
  refine retV h (results1 h rfl (.tmp rfl)) ?_
  rfl
end
section
def lowD (n : Nat) : Nat → List UInt8
  | 0 => []
  | k + 1 => UInt8.ofNat (48 + n / 10 ^ k % 10) :: lowD n k
def lowS (n k : Nat) : ByteArray := ⟨(lowD n k).toArray⟩
theorem lowD_len (n : Nat) : ∀ k, (lowD n k).length = k
  | 0 => rfl
  | k + 1 => congrArg (· + 1) (lowD_len n k)
theorem lowS_size (n k : Nat) : (lowS n k).size = k := by show (lowD n k).toArray.size = k; rw [List.size_toArray, lowD_len]
theorem lowD_snoc (n : Nat) : ∀ k, lowD n (k + 1) = lowD (n / 10) k ++ [UInt8.ofNat (48 + n % 10)]
  | 0 => by simp [lowD]
  | k + 1 => by
    rw [lowD, lowD_snoc n k, lowD, List.cons_append]
    congr 2
    rw [Nat.div_div_eq_div_mul, Nat.pow_succ, Nat.mul_comm]
theorem decDigits_low (n : Nat) : Lib.decDigits n = lowD n (Lib.nDigits n) := by
  induction n using Nat.strongRecOn with
  | _ n ih =>
    by_cases h : n < 10
    · rw [Lib.decDigits_one h, Lib.nDigits_small h]
      simp [lowD, Nat.mod_eq_of_lt h]
    · rw [Lib.decDigits, dif_neg h, Lib.nDigits_big h, lowD_snoc, ih (n / 10) (by omega)]
theorem decDigits_cut : ∀ (k n : Nat), 10 ^ k ≤ n → Lib.decDigits n = Lib.decDigits (n / 10 ^ k) ++ lowD n k
  | 0, n, _ => by rw [Nat.pow_zero, Nat.div_one, lowD, List.append_nil]
  | k + 1, n, h => by
    have h1 : 10 ^ k * 10 ≤ n := by rw [← Nat.pow_succ]; exact h
    have h0 : 0 < 10 ^ k := Nat.pow_pos (by decide)
    have h10 : ¬ n < 10 := by omega
    have e : Lib.decDigits n = Lib.decDigits (n / 10) ++ [UInt8.ofNat (48 + n % 10)] := by rw [Lib.decDigits, dif_neg h10]
    rw [e, lowD_snoc, ← List.append_assoc, decDigits_cut k (n / 10) ((Nat.le_div_iff_mul_le (by decide)).2 h1), Nat.div_div_eq_div_mul, Nat.pow_succ, Nat.mul_comm 10]
theorem lowD_pad (r m : Nat) (h : r < 10 ^ m) : ∀ a, lowD r (m + a) = List.replicate a 48 ++ lowD r m
  | 0 => rfl
  | a + 1 => by
    rw [← Nat.add_assoc, lowD, lowD_pad r m h a, List.replicate_succ, List.cons_append]
    have : r / 10 ^ (m + a) = 0 := Nat.div_eq_of_lt (Nat.lt_of_lt_of_le h (Nat.pow_le_pow_right (by decide) (by omega)))
    rw [this]; rfl
theorem pad_low {r k : Nat} (h : r < 10 ^ (k + 1)) : List.replicate (k + 1 - Lib.nDigits r) 48 ++ Lib.decDigits r = lowD r (k + 1) := by
  have h1 := nDigits_le h
  have h2 := lowD_pad r (Lib.nDigits r) (Lib.lt_pow_nDigits r) (k + 1 - Lib.nDigits r)
  rw [decDigits_low, ← h2]
  congr 1; omega
theorem lowD_mod : ∀ (k n : Nat), lowD (n % 10 ^ k) k = lowD n k
  | 0, _ => rfl
  | k + 1, n => by
    rw [lowD_snoc, lowD_snoc]
    have e1 : n % 10 ^ (k + 1) / 10 = n / 10 % 10 ^ k := by rw [Nat.pow_succ, Nat.mul_comm, Nat.mod_mul_right_div_self]
    have e2 : n % 10 ^ (k + 1) % 10 = n % 10 := by rw [Nat.pow_succ, Nat.mul_comm, Nat.mod_mul_right_mod]
    rw [e1, e2, lowD_mod k (n / 10)]
theorem lowD_add (n a : Nat) : ∀ b, lowD n (a + b) = lowD (n / 10 ^ a) b ++ lowD n a
  | 0 => rfl
  | b + 1 => by
    rw [← Nat.add_assoc, lowD, lowD_add n a b, lowD, List.cons_append]
    congr 3
    rw [Nat.div_div_eq_div_mul, ← Nat.pow_add]
def chunk (m : Nat) : ByteArray := if m / 1000000000 = 0 then dB m else lowS m 9
def prt (n : Nat) : Nat → List ByteArray
  | 0 => []
  | i + 1 => prt n i ++ [chunk (n / 10 ^ (9 * i))]
theorem prt_len (n : Nat) : ∀ i, (prt n i).length = i
  | 0 => rfl
  | i + 1 => by rw [prt, List.length_append, prt_len n i]; rfl
def catB (l : List ByteArray) : List UInt8 := l.flatMap (·.data.toList)
theorem cat_low (n : Nat) : ∀ i, n / 10 ^ (9 * i) ≠ 0 → catB (prt n i).reverse = lowD n (9 * i)
  | 0, _ => rfl
  | i + 1, h => by
    have e : n / 10 ^ (9 * (i + 1)) = n / 10 ^ (9 * i) / 1000000000 := by
      rw [Nat.div_div_eq_div_mul, show 9 * (i + 1) = 9 * i + 9 by omega, Nat.pow_add]
    rw [e] at h
    have h0 : n / 10 ^ (9 * i) ≠ 0 := fun h1 => h (by rw [h1])
    have ih := cat_low n i h0
    rw [prt, List.reverse_append, List.reverse_singleton, List.singleton_append]
    show (chunk (n / 10 ^ (9 * i))).data.toList ++ catB (prt n i).reverse = _
    rw [ih, chunk, if_neg h, show 9 * (i + 1) = 9 * i + 9 by omega, lowD_add]; rfl
theorem cat_all {n i : Nat} (h : n / 10 ^ (9 * i) ≠ 0) (h2 : n / 10 ^ (9 * (i + 1)) = 0) : catB (prt n (i + 1)).reverse = Lib.decDigits n := by
  have e : n / 10 ^ (9 * (i + 1)) = n / 10 ^ (9 * i) / 1000000000 := by
    rw [Nat.div_div_eq_div_mul, show 9 * (i + 1) = 9 * i + 9 by omega, Nat.pow_add]
  rw [e] at h2
  rw [prt, List.reverse_append, List.reverse_singleton, List.singleton_append]
  show (chunk (n / 10 ^ (9 * i))).data.toList ++ catB (prt n i).reverse = _
  have hle : 10 ^ (9 * i) ≤ n := by
    rcases Nat.lt_or_ge n (10 ^ (9 * i)) with h3 | h3
    · exact absurd (Nat.div_eq_of_lt h3) h
    · exact h3
  rw [cat_low n i h, chunk, if_pos h2, decDigits_cut (9 * i) n hle]; rfl
theorem wds_bound (n : Nat) : n < 2 ^ (32 * (wds n).length) := by
  have h := valW_lt (Wd.wds n)
  rw [valW_wds] at h
  rw [Nat.pow_mul]; exact h
theorem prt_few {n i : Nat} (h : n / 10 ^ (9 * i) ≠ 0) : i < 2 * (wds n).length + 1 := by
  have hle : 10 ^ (9 * i) ≤ n := by
    rcases Nat.lt_or_ge n (10 ^ (9 * i)) with h3 | h3
    · exact absurd (Nat.div_eq_of_lt h3) h
    · exact h3
  have h1 : 2 ^ (16 * i) ≤ 10 ^ (9 * i) := by
    rw [Nat.pow_mul, Nat.pow_mul]; exact Nat.pow_le_pow_left (by decide) i
  have h2 := Nat.lt_of_le_of_lt (Nat.le_trans h1 hle) (wds_bound n)
  have h3 := (Nat.pow_lt_pow_iff_right (show 1 < 2 by decide)).1 h2
  omega
theorem nDigits_wds (n : Nat) : Lib.nDigits n ≤ 10 * (wds n).length + 1 := by
  refine nDigits_le ?_
  have h1 := wds_bound n
  have h2 : 2 ^ (32 * (wds n).length) ≤ 10 ^ (10 * (wds n).length) := by
    rw [Nat.pow_mul, Nat.pow_mul]; exact Nat.pow_le_pow_left (by decide) _
  have h3 : 10 ^ (10 * (wds n).length) ≤ 10 ^ (10 * (wds n).length + 1) := Nat.pow_le_pow_right (by decide) (by omega)
  omega
theorem dB_sizeW (n : Nat) : (dB n).size ≤ 10 * (wds n).length + 1 := by rw [dB_size]; exact nDigits_wds n
theorem chunk_size (m : Nat) : (chunk m).size ≤ 9 := by
  unfold chunk
  have h9 : (10 : Nat) ^ (8 + 1) = 1000000000 := rfl
  split
  · rename_i h
    rw [dB_size]; exact nDigits_le (k := 8) (by omega)
  · rw [lowS_size]; exact Nat.le_refl _
theorem prt_size (n : Nat) : ∀ i, ∀ x ∈ prt n i, x.size ≤ 9
  | 0, x, h => nomatch h
  | i + 1, x, h => by
    rw [prt] at h
    rcases List.mem_append.1 h with h | h
    · exact prt_size n i x h
    · rw [List.mem_singleton.1 h]; exact chunk_size _
end
section
def PostN (n : Nat) (v : Value) (Ψ : List SPred) : Prop := ∃ ad c, v = .slice ad (dg n).length c ∧ (dg n).length ≤ c ∧ Ψ = [Row ad (List.map encn (dg n))]
theorem drop_zero {l : List Nat} {i : Nat} (h : l.length ≤ i) : valD (l.drop i) = 0 := valD_drop_ge h
end
section
def PostN2 (p q : Nat) (v : Value) (Ψ : List SPred) : Prop := ∃ ad c ad' c', v = .tuple #[.slice ad (dg p).length c, .slice ad' (dg q).length c'] ∧ (dg p).length ≤ c ∧ (dg q).length ≤ c' ∧ Ψ = [Row ad (List.map encn (dg p)), Row ad' (List.map encn (dg q))]
end
section
abbrev zV (z : Int) (ad : Option Addr) (c : Nat) : Value := .agg #[.bool (decide (z < 0)), .slice ad (dg z.natAbs).length c]
def PostZ (z : Int) (v : Value) (Ψ : List SPred) : Prop := ∃ ad c, v = zV z ad c ∧ (dg z.natAbs).length ≤ c ∧ Ψ = [Row ad (List.map encn (dg z.natAbs))]
end
section
theorem rs_3_0 (c0 c1 c2 : Value) : readAt false 1 #[c0, c1, c2] 0 = some c0 := rfl
theorem rs_3_1 (c0 c1 c2 : Value) : readAt false 1 #[c0, c1, c2] 1 = some c1 := rfl
abbrev fV (x : Rat) (a1 : Option Addr) (c1 : Nat) (a2 : Option Addr) (c2 : Nat) : Value := .agg #[.bool (decide (x.num < 0)), .slice a1 (dg x.num.natAbs).length c1, .slice a2 (dg (x.den - 1)).length c2]
def PostF (x : Rat) (v : Value) (Ψ : List SPred) : Prop := ∃ a1 c1 a2 c2, v = fV x a1 c1 a2 c2 ∧ (dg x.num.natAbs).length ≤ c1 ∧ (dg (x.den - 1)).length ≤ c2 ∧ Ψ = [Row a1 (List.map encn (dg x.num.natAbs)), Row a2 (List.map encn (dg (x.den - 1)))]
end
section
structure FT where
  x : Rat
  a1 : Option Addr
  c1 : Nat
  a2 : Option Addr
  c2 : Nat
  h1 : (dg x.num.natAbs).length ≤ c1
  h2 : (dg (x.den - 1)).length ≤ c2
abbrev encF (e : FT) : Value := .agg #[.bool (decide (e.x.num < 0)), .slice e.a1 (dg e.x.num.natAbs).length e.c1, .slice e.a2 (dg (e.x.den - 1)).length e.c2]
def FT0 : FT := ⟨0, none, 0, none, 0, by rw [show (0 : Rat).num.natAbs = 0 from rfl, dg_zero]; exact Nat.le_refl _, by rw [show (0 : Rat).den - 1 = 0 from rfl, dg_zero]; exact Nat.le_refl _⟩
def AllF (l : List FT) : SPred where
  p X w := ∀ e ∈ l, (Row e.a1 (List.map encn (dg e.x.num.natAbs))).p X w ∧ (Row e.a2 (List.map encn (dg (e.x.den - 1)))).p X w
  st X X' w w' h hk hs hX e he := ⟨(Row e.a1 _).st X X' w w' (h e he).1 hk hs hX, (Row e.a2 _).st X X' w w' (h e he).2 hk hs hX⟩
theorem AllF.get1 {l : List FT} {e : FT} {X : Nat → Prop} {w : World} (h : (AllF l).p X w) (he : e ∈ l) : (Row e.a1 (List.map encn (dg e.x.num.natAbs))).p X w := (h e he).1
theorem AllF.get2 {l : List FT} {e : FT} {X : Nat → Prop} {w : World} (h : (AllF l).p X w) (he : e ∈ l) : (Row e.a2 (List.map encn (dg (e.x.den - 1)))).p X w := (h e he).2
theorem AllF.nil (X : Nat → Prop) (w : World) : (AllF []).p X w := fun e he => by cases he
end
section
theorem fa_56_0 (b off : Nat) (w : World) : (Instr.fieldAt 56 (.pointer (some ⟨b, off, none⟩)) 0).run Tryz.prog w = .ok (.pointer (some ⟨b, off + 0, none⟩)) w := by
  simp [go_sem]
theorem fa_56_1 (b off : Nat) (w : World) : (Instr.fieldAt 56 (.pointer (some ⟨b, off, none⟩)) 1).run Tryz.prog w = .ok (.pointer (some ⟨b, off + 1, none⟩)) w := by
  simp [go_sem]
theorem cv_54_2 (x : Int) (w : World) : (Go.convert 54 2 (.int .u32 x)).run Tryz.prog w = .ok (.int .i64 (IntKind.i64.wrap x)) w := by
  simp [go_sem]
theorem cv_54_2b (x : Int) (h0 : IntKind.i64.wrap x = x) (w : World) : (Go.convert 54 2 (.int .u32 x)).run Tryz.prog w = .ok (.int .i64 x) w := by
  rw [cv_54_2, h0]
def qv (N D : Int) : Rat := ((N : Int) : Rat) / ((max D 1 : Int) : Rat)
theorem lenQ_qv (N D : Int) (h0 : -9223372036854775808 ≤ N) (h1 : N ≤ 9223372036854775807) (h2 : 0 ≤ D) (h3 : D ≤ 4294967295) : lenQ (qv N D) ≤ 4 := lenQ_of N (max D 1) h0 h1 (by omega) (by omega)
theorem bi_maxu (x y : Int) (w : World) (ty : TypeId) (cs : Array Bool) : (Go.builtin .max #[54, 54] ty cs #[.int .u32 x, .int .u32 y]).run Tryz.prog w = .ok (.value (.int .u32 (max x y))) w := by
  simp [go_sem] <;> (try rw [Int.max_def]) <;> (try split) <;> (try split) <;> (try omega)
abbrev encQ2 (q : Int × Int) : Value := .agg #[.int .i64 q.1, .int .u32 q.2]
def OkQ (q : Int × Int) : Prop := -9223372036854775808 ≤ q.1 ∧ q.1 ≤ 9223372036854775807 ∧ 0 ≤ q.2 ∧ q.2 ≤ 4294967295
def qvp (q : Int × Int) : Rat := qv q.1 q.2
theorem lenQ_qvp {q : Int × Int} (h : OkQ q) : lenQ (qvp q) ≤ 4 := lenQ_qv _ _ h.1 h.2.1 h.2.2.1 h.2.2.2
theorem C_qOf (N D : Int) (h0 : -9223372036854775808 ≤ N) (h1 : N ≤ 9223372036854775807) (h2 : 0 ≤ D) (h3 : D ≤ 4294967295) : CtrV Tryz.prog 20 [.agg #[.int .i64 N, .int .u32 D]] (encQ (qv N D)) := by
  refine fn_intro Tryz.func20 rfl Tryz.ntmps20 nb ?_
  intro S w0 a hS h
  refine gC h (zs (zr (zx rfl fun b1 => zz zeroQ fun b2 => zn (zs (zr (zp (.fieldAddr rfl (fa_56_0 _ _)) (zd rfl mr Tryz.isAgg2 Tryz.sizeOf2 (rs_2_0 _ _) ?_))))))); clear h; intro a w h
  refine gL h (zp (.fieldAddr rfl (fa_56_1 _ _)) (zd rfl mr Tryz.isAgg54 Tryz.sizeOf54 (rs_2_1 _ _) ?_)); clear h; intro a w h
  refine gL h (zp (.builtin [_, _] rfl (fun w ty cs => bi_maxu _ _ w ty cs)) (zp (.convert rfl (cv_54_2b _ (wrap_i64 _ (by omega) (by omega)))) (zv [_, _] rfl Tryz.call53 (C_QOf _ _ (by omega) (by omega) (by omega) (by omega) (by omega)) ?_))); clear h; intro a w h
  have hl12 := lenQ_of (N) (max D 1) (by omega) (by omega) (by omega) (by omega)
  refine gL h (zm rfl (zp (.extract rfl (fun _ => rfl)) (zp (.extract rfl (fun _ => rfl)) (zz zeroQ fun b3 => zt' rfl rfl (st_5_0_5 _ _ _ _ _ _ _ _ _ _) uu Tryz.sizeOf53 rfl nb rfl ?_)))); clear h; intro a w h
  refine gL h (za rfl (zn (zs (zr (zd rfl mr Tryz.isAgg53 Tryz.sizeOf53 (rd_5_0_5 _ _ _ _ _) ?_))))); clear h; intro a w h
  refine gL h (zt' rfl rfl (st_5_0_5 _ _ _ _ _ _ _ _ _ _) uu Tryz.sizeOf53 rfl nb rfl ?_); clear h; intro a w h
  refine wpList_nil (wp_ret ?_)
  refine retV h (results1 h rfl (.cell rfl mr Tryz.isAgg53 Tryz.sizeOf53 (rd_5_0_5 _ _ _ _ _))) ?_
  rfl
end
section
def rS (n i : Nat) : ByteArray := if i = (dg n).length then dB n else lowS n (4 * i)
end
section
def upQ (q : Rat) : Nat → Rat
  | 0 => q
  | p + 1 => upQ q p * (((p + 1 : Nat) : Int) : Rat)
def downQ (q : Rat) : Nat → Rat
  | 0 => q
  | n + 1 => downQ q n / (((n + 1 : Nat) : Int) : Rat)
def ratioQ (n : Nat) (l : List Nat) : Rat := downQ (l.foldl upQ 1) n
def momentQ (i j k : Nat) : Rat := ((2 : Int) : Rat) * ratioQ (i + j + k + 2) [i, j, k]
theorem lenQ_one : lenQ 1 ≤ 2 := lenQ_int 1 (by omega) (by omega)
end
section
theorem len_slice_159 (a : Option Addr) (n c : Nat) (w : World) (ty : TypeId) (cs : Array Bool) : (Go.builtin .len #[159] ty cs #[.slice a n c]).run Tryz.prog w = .ok (.value (.int .i64 n)) w := by
  simp [go_sem]
theorem ix_159 (b off n c j : Nat) (h : j < n) (w : World) : (Instr.indexAt 159 (.slice (some ⟨b, off, none⟩) n c) (.int .i64 (j : Int))).run Tryz.prog w = .ok (.pointer (some ⟨b, off + j, none⟩)) w := by
  simpa using indexAt_slice Tryz.runUnderlying159 Tryz.sizeOf3 b off n c j h w
abbrev enci (x : Int) : Value := .int .i64 x
def orI : List Int → Int
  | [] => 0
  | x :: l => if x ≠ 0 then x else orI l
theorem orI_hit : ∀ (l : List Int) (i : Nat), (∀ j, j < i → l.getD j 0 = 0) → i < l.length → l.getD i 0 ≠ 0 → orI l = l.getD i 0
  | [], i, _, h, _ => by simp at h
  | x :: l, 0, _, _, h => by rw [orI]; exact if_pos (by simpa using h)
  | x :: l, i + 1, hz, hl, h => by
    have h0 : x = 0 := by simpa using hz 0 (by omega)
    rw [orI, if_neg (by simp [h0]), orI_hit l i (fun j hj => by simpa using hz (j + 1) (by omega)) (by simpa using hl) (by simpa using h)]
    simp
theorem orI_none : ∀ (l : List Int), (∀ j, j < l.length → l.getD j 0 = 0) → orI l = 0
  | [], _ => rfl
  | x :: l, hz => by
    have h0 : x = 0 := by simpa using hz 0 (by simp)
    rw [orI, if_neg (by simp [h0]), orI_none l (fun j hj => by simpa using hz (j + 1) (by simpa using hj))]
def idxN : List Rat → Nat → Int
  | [], _ => -1
  | x :: l, i => if x.num.sign < 0 then (i : Int) else idxN l (i + 1)
def cfN (E : List Rat) (i k : Nat) : Int := orI [(E.getD k 0 - E.getD i 0).num.sign, cmpZ (i : Int) (k : Int)]
theorem C_Or (ad : Option Addr) (c : Nat) (l : List Int) (hn : l.length ≤ 1000) : CtrW Tryz.prog 81 [.slice ad l.length c] [Row ad (List.map enci l)] (.int .i64 (orI l)) := by
  refine fn_intro Tryz.func81 rfl Tryz.ntmps81 nb ?_
  intro S w0 a hS h
  refine gC h (zs (zr (za rfl (zn (zs (zr (za rfl (zn (zs (zs (zr (zm rfl (zp (.builtin [_] rfl (len_slice_159 _ _ _)) (zm rfl (zn (zb ?_)))))))))))))))); clear h; intro a w h
  refine wp_loop_inv (fun (i : Nat) a w => i ≤ l.length ∧ (∀ j, j < i → l.getD j 0 = 0) ∧ St 18 S w0 [(3, .int .i64 0), (6, .slice ad l.length c), (7, .int .i64 ((l.length : Nat) : Int)), (8, .int .i64 ((i : Nat) : Int))] [] [Row ad (List.map enci l)] a w) (fun i => l.length - i) 0 (⟨Nat.zero_le _, fun j hj => absurd hj (by omega), by exact (h).sub (subL ⟨rfl, rfl, rfl, rfl, trivial⟩)⟩) ?_; clear h
  rintro i a w ⟨hi_i, hinv_i, h⟩
  refine gC h (zs (zr (zp (.lss rfl rfl) (zn (zs ?_))))); clear h; intro a w h
  refine cond_split h rfl (fun hc9 => ?_) (fun hc9 => ?_)
  · skip
    have hlt_i : i < l.length := by have := of_decide_eq_true hc9; omega
    obtain ⟨B_ad, O_ad, rfl⟩ := h.row_addr (ad := ad) (M := List.map enci l) mm (by intro e; have := congrArg List.length e; simp only [List.length_map, List.length_nil] at this; omega)
    refine gC h (zk (zs (zb (zs (zr (zp (.indexAddr rfl rfl (ix_159 _ _ _ _ _ (by omega))) (zD rfl mm (by rw [List.length_map]; omega) Tryz.isAgg3 Tryz.sizeOf3 (read_row (enc := enci) (l := l) 0 (by omega)) (.inr rfl) ?_))))))); clear h; intro a w h
    refine gL h (za rfl (zn (zs (zr (zm rfl (zm rfl (zp (.neq rfl rfl) ?_))))))); clear h; intro a w h
    refine by_bool h (fun hc14 h => ?_) (fun hc14 h => ?_)
    · skip
      refine wpList_nil ?_
      change Code.wp _ _ _ _ _
      refine cond_true h rfl ?_
      refine gC h (zs (zr (zm rfl (za rfl (zn (zt ?_)))))); clear h; intro a w h
      refine retV h (results1 h rfl (.tmp rfl)) ?_
      rw [orI_hit l i hinv_i hlt_i (by simpa using hc14)]
    · skip
      refine wpList_nil ?_
      change Code.wp _ _ _ _ _
      refine cond_false h rfl ?_
      refine gC h (zk (zr (zp (Pure1.cast (v' := (.int .i64 ((i + 1 : Nat) : Int))) (.add rfl rfl) (by show Value.int _ _ = Value.int _ _; congr 1)) (zm rfl (zn ?_))))); clear h; intro a w h
      exact ⟨i + 1, ⟨by omega, fun j hj => by
        rcases Nat.lt_or_ge j i with h1 | h1
        · exact hinv_i j h1
        · rw [show j = i by omega]; simpa using hc14, (h.factsSub (by simp)).sub sA⟩, by omega⟩
  · skip
    have heq_i : l.length = i := by have := of_decide_eq_false hc9; omega
    subst heq_i
    refine gC h (ze (zs (zr (zm rfl (za rfl (zn (zt ?_))))))); clear h; intro a w h
    refine retV h (results1 h rfl (.tmp rfl)) ?_
    rw [orI_none l hinv_i]
end
section
structure Tm where
  i : Nat
  j : Nat
  c : Rat
theorem Tm.ext' {s t : Tm} (h1 : s.i = t.i) (h2 : s.j = t.j) (h3 : s.c = t.c) : s = t := by cases s; cases t; simp_all
instance : DecidableEq Tm := fun s t => decidable_of_iff (s.i = t.i ∧ s.j = t.j ∧ s.c = t.c) ⟨fun h => Tm.ext' h.1 h.2.1 h.2.2, fun h => by rw [h]; exact ⟨rfl, rfl, rfl⟩⟩
def lin (φ : Nat → Nat → Rat) : List Tm → Rat
  | [] => 0
  | t :: l => t.c * φ t.i t.j + lin φ l
theorem lin_nil (φ : Nat → Nat → Rat) : lin φ [] = 0 := rfl
theorem lin_append (φ : Nat → Nat → Rat) : ∀ l m : List Tm, lin φ (l ++ m) = lin φ l + lin φ m
  | [], m => by simp only [List.nil_append, lin]; grind
  | t :: l, m => by simp only [List.cons_append, lin, lin_append φ l m]; grind
theorem lin_perm (φ : Nat → Nat → Rat) {l m : List Tm} (h : l.Perm m) : lin φ l = lin φ m := by
  induction h with
  | nil => rfl
  | cons x _ ih => simp only [lin, ih]
  | swap x y l => simp only [lin]; grind
  | trans _ _ h1 h2 => rw [h1, h2]
theorem lin_congr {φ ψ : Nat → Nat → Rat} : ∀ {l : List Tm}, (∀ t ∈ l, φ t.i t.j = ψ t.i t.j) → lin φ l = lin ψ l
  | [], _ => rfl
  | t :: l, h => by rw [lin, lin, h t List.mem_cons_self, lin_congr (fun s hs => h s (List.mem_cons_of_mem _ hs))]
theorem lin_smul (a : Rat) (φ : Nat → Nat → Rat) : ∀ l : List Tm, lin (fun i j => a * φ i j) l = a * lin φ l
  | [] => by simp only [lin]; grind
  | t :: l => by simp only [lin, lin_smul a φ l]; grind
theorem lin_map (φ : Nat → Nat → Rat) (g : Tm → Tm) (ψ : Nat → Nat → Rat) : ∀ l : List Tm, (∀ t ∈ l, (g t).c * φ (g t).i (g t).j = t.c * ψ t.i t.j) → lin φ (l.map g) = lin ψ l
  | [], _ => rfl
  | t :: l, h => by rw [List.map_cons, lin, lin, h t List.mem_cons_self, lin_map φ g ψ l (fun s hs => h s (List.mem_cons_of_mem _ hs))]
theorem lin_flatMap (φ : Nat → Nat → Rat) (g : Tm → List Tm) (ψ : Nat → Nat → Rat) : ∀ l : List Tm, (∀ t ∈ l, lin φ (g t) = t.c * ψ t.i t.j) → lin φ (l.flatMap g) = lin ψ l
  | [], _ => rfl
  | t :: l, h => by rw [List.flatMap_cons, lin_append, lin, h t List.mem_cons_self, lin_flatMap φ g ψ l (fun s hs => h s (List.mem_cons_of_mem _ hs))]
def same (s t : Tm) : Prop := s.i = t.i ∧ s.j = t.j
instance (s t : Tm) : Decidable (same s t) := inferInstanceAs (Decidable (_ ∧ _))
def insT (t : Tm) : List Tm → List Tm
  | [] => [⟨t.i, t.j, 0 + t.c⟩]
  | s :: p => if same s t then ⟨s.i, s.j, s.c + t.c⟩ :: p else s :: insT t p
theorem lin_insT (φ : Nat → Nat → Rat) (t : Tm) : ∀ p : List Tm, lin φ (insT t p) = lin φ p + t.c * φ t.i t.j
  | [] => by simp only [insT, lin]; grind
  | s :: p => by
    rw [insT]
    split
    · rename_i h; obtain ⟨h1, h2⟩ := h; simp only [lin, h1, h2]; grind
    · simp only [lin, lin_insT φ t p]; grind
theorem insT_mem {t u : Tm} : ∀ {p : List Tm}, u ∈ insT t p → same u t ∨ u ∈ p
  | [], h => by simp only [insT, List.mem_singleton] at h; subst h; exact .inl ⟨rfl, rfl⟩
  | s :: p, h => by
    rw [insT] at h
    split at h
    · rename_i h2
      rcases List.mem_cons.1 h with rfl | h
      · exact .inl h2
      · exact .inr (List.mem_cons_of_mem _ h)
    · rcases List.mem_cons.1 h with rfl | h
      · exact .inr List.mem_cons_self
      · exact (insT_mem h).imp id (List.mem_cons_of_mem _)
def dif (p : List Tm) : Prop := p.Pairwise (fun s t => ¬ same s t)
theorem insT_dif (t : Tm) : ∀ {p : List Tm}, dif p → dif (insT t p)
  | [], _ => by rw [insT]; exact List.pairwise_singleton _ _
  | s :: p, h => by
    obtain ⟨h1, h2⟩ := List.pairwise_cons.1 h
    rw [insT]
    split
    · rename_i hs; exact List.pairwise_cons.2 ⟨fun u hu hc => h1 u hu hc, h2⟩
    · rename_i hs
      refine List.pairwise_cons.2 ⟨fun u hu => ?_, insT_dif t h2⟩
      rcases insT_mem hu with h3 | h3
      · exact fun h4 => hs ⟨h4.1.trans h3.1, h4.2.trans h3.2⟩
      · exact h1 u h3
theorem insT_len (t : Tm) : ∀ p : List Tm, (insT t p).length ≤ p.length + 1
  | [] => Nat.le_refl _
  | s :: p => by
    have h := insT_len t p
    rw [insT]; split <;> simp only [List.length_cons] <;> omega
def collect (l : List Tm) : List Tm := l.foldl (fun p t => insT t p) []
theorem collect_gen (φ : Nat → Nat → Rat) : ∀ (l p : List Tm), lin φ (l.foldl (fun p t => insT t p) p) = lin φ p + lin φ l
  | [], p => by simp only [List.foldl_nil, lin]; grind
  | t :: l, p => by rw [List.foldl_cons, collect_gen φ l, lin_insT, lin]; grind
theorem lin_collect (φ : Nat → Nat → Rat) (l : List Tm) : lin φ (collect l) = lin φ l := by
  rw [collect, collect_gen, lin]; grind
theorem collect_dif_gen : ∀ (l : List Tm) {p : List Tm}, dif p → dif (l.foldl (fun p t => insT t p) p)
  | [], p, h => h
  | t :: l, p, h => by rw [List.foldl_cons]; exact collect_dif_gen l (insT_dif t h)
theorem collect_dif (l : List Tm) : dif (collect l) := collect_dif_gen l List.Pairwise.nil
theorem collect_mem_gen {u : Tm} : ∀ (l : List Tm) {p : List Tm}, u ∈ l.foldl (fun p t => insT t p) p → u ∈ p ∨ ∃ t ∈ l, same u t
  | [], p, h => .inl h
  | t :: l, p, h => by
    rw [List.foldl_cons] at h
    rcases collect_mem_gen l h with h1 | ⟨s, hs, h1⟩
    · rcases insT_mem h1 with h2 | h2
      · exact .inr ⟨t, List.mem_cons_self, h2⟩
      · exact .inl h2
    · exact .inr ⟨s, List.mem_cons_of_mem _ hs, h1⟩
theorem collect_mem {l : List Tm} {u : Tm} (h : u ∈ collect l) : ∃ t ∈ l, same u t := by
  rcases collect_mem_gen l h with h | h
  · cases h
  · exact h
theorem collect_len_gen : ∀ (l p : List Tm), (l.foldl (fun p t => insT t p) p).length ≤ p.length + l.length
  | [], p => Nat.le_refl _
  | t :: l, p => by rw [List.foldl_cons]; have := collect_len_gen l (insT t p); have := insT_len t p; simp only [List.length_cons]; omega
theorem collect_len (l : List Tm) : (collect l).length ≤ l.length := by have := collect_len_gen l []; simpa [collect] using this
def ltT (s t : Tm) : Bool := decide (s.i + s.j < t.i + t.j ∨ (s.i + s.j = t.i + t.j ∧ s.j < t.j))
theorem ltT_iff (s t : Tm) : ltT s t = true ↔ (s.i + s.j < t.i + t.j ∨ (s.i + s.j = t.i + t.j ∧ s.j < t.j)) := decide_eq_true_iff
theorem ltT_irrefl (s : Tm) : ltT s s = false := by rw [Bool.eq_false_iff, Ne, ltT_iff]; omega
theorem ltT_trans {s t u : Tm} (h1 : ltT s t = true) (h2 : ltT t u = true) : ltT s u = true := by rw [ltT_iff] at *; omega
theorem ltT_ntrans {s t u : Tm} (h1 : ltT s t = false) (h2 : ltT t u = false) : ltT s u = false := by rw [Bool.eq_false_iff, Ne, ltT_iff] at *; omega
theorem ltT_total {s t : Tm} (h1 : ltT s t = false) (h2 : ltT t s = false) : same s t := by
  rw [Bool.eq_false_iff, Ne, ltT_iff] at *; unfold same; omega
def Nrm (p : List Tm) : Prop := (∀ t ∈ p, t.c ≠ 0) ∧ p.Pairwise (fun s t => ltT s t = true)
def norm (l : List Tm) : List Tm := ((collect l).filter (fun t => decide (t.c ≠ 0))).mergeSort (fun s t => !ltT t s)
theorem lin_filter (φ : Nat → Nat → Rat) : ∀ l : List Tm, lin φ (l.filter (fun t => decide (t.c ≠ 0))) = lin φ l
  | [] => rfl
  | t :: l => by
    rw [List.filter_cons]
    split
    · rw [lin, lin, lin_filter φ l]
    · rename_i h
      have h0 : t.c = 0 := by simpa using h
      rw [lin, lin_filter φ l, h0]; grind
theorem lin_norm (φ : Nat → Nat → Rat) (l : List Tm) : lin φ (norm l) = lin φ l := by
  rw [norm, lin_perm φ (List.mergeSort_perm _ _), lin_filter, lin_collect]
theorem norm_mem {l : List Tm} {u : Tm} (h : u ∈ norm l) : u ∈ collect l ∧ u.c ≠ 0 := by
  have := (List.mergeSort_perm _ _).mem_iff.1 h
  rw [List.mem_filter] at this
  exact ⟨this.1, by simpa using this.2⟩
theorem norm_nrm (l : List Tm) : Nrm (norm l) := by
  refine ⟨fun t ht => (norm_mem ht).2, ?_⟩
  have hd : dif (norm l) := by
    have h1 : dif ((collect l).filter (fun t => decide (t.c ≠ 0))) := List.Pairwise.filter _ (collect_dif l)
    refine (List.Perm.pairwise_iff (fun {x y} h h2 => h ⟨h2.1.symm, h2.2.symm⟩) (List.mergeSort_perm _ _)).2 h1
  have hs := List.pairwise_mergeSort (le := fun s t => !ltT t s) (fun a b c h1 h2 => by
      simp only [Bool.not_eq_true'] at *
      exact ltT_ntrans h2 h1) (fun a b => by
      rcases h : ltT b a with _ | _
      · simp
      · have : ltT a b = false := by rw [Bool.eq_false_iff]; intro h2; have := ltT_trans h h2; rw [ltT_irrefl] at this; cases this
        simp [this]) ((collect l).filter (fun t => decide (t.c ≠ 0)))
  refine List.Pairwise.imp₂ (fun s t h1 h2 => ?_) hs hd
  rcases h : ltT s t with _ | _
  · exact absurd (ltT_total h (by simpa using h1)) h2
  · rfl
def at0 (a b : Nat) : Nat → Nat → Rat := fun i j => if i = a ∧ j = b then 1 else 0
theorem lin_at0_none {a b : Nat} : ∀ {l : List Tm}, (∀ t ∈ l, ¬ (t.i = a ∧ t.j = b)) → lin (at0 a b) l = 0
  | [], _ => rfl
  | t :: l, h => by
    rw [lin, lin_at0_none (fun s hs => h s (List.mem_cons_of_mem _ hs)), at0, if_neg (h t List.mem_cons_self)]; grind
theorem nrm_tail {t : Tm} {p : List Tm} (h : Nrm (t :: p)) : Nrm p := ⟨fun s hs => h.1 s (List.mem_cons_of_mem _ hs), (List.pairwise_cons.1 h.2).2⟩
theorem nrm_head {t : Tm} {p : List Tm} (h : Nrm (t :: p)) : lin (at0 t.i t.j) (t :: p) = t.c := by
  rw [lin, lin_at0_none (fun s hs => ?_), at0, if_pos ⟨rfl, rfl⟩]
  · grind
  · have := (List.pairwise_cons.1 h.2).1 s hs
    rw [ltT_iff] at this; omega
theorem nrm_less {s t : Tm} {q : List Tm} (h : ltT s t = true) (hq : Nrm (t :: q)) : lin (at0 s.i s.j) (t :: q) = 0 := by
  refine lin_at0_none (fun u hu => ?_)
  have hu' : ltT s u = true := by
    rcases List.mem_cons.1 hu with rfl | hu
    · exact h
    · exact ltT_trans h ((List.pairwise_cons.1 hq.2).1 u hu)
  rw [ltT_iff] at hu'; omega
theorem nrm_ext : ∀ {p q : List Tm}, Nrm p → Nrm q → (∀ φ, lin φ p = lin φ q) → p = q
  | [], [], _, _, _ => rfl
  | [], t :: q, _, hq, h => by
    have h1 := h (at0 t.i t.j)
    rw [nrm_head hq, lin_nil] at h1
    exact absurd h1.symm (hq.1 t List.mem_cons_self)
  | s :: p, [], hp, _, h => by
    have h1 := h (at0 s.i s.j)
    rw [nrm_head hp, lin_nil] at h1
    exact absurd h1 (hp.1 s List.mem_cons_self)
  | s :: p, t :: q, hp, hq, h => by
    have hst : same s t := by
      refine ltT_total ?_ ?_
      · rw [Bool.eq_false_iff]; intro hc
        have h1 := h (at0 s.i s.j)
        rw [nrm_head hp, nrm_less hc hq] at h1
        exact hp.1 s List.mem_cons_self h1
      · rw [Bool.eq_false_iff]; intro hc
        have h1 := h (at0 t.i t.j)
        rw [nrm_head hq, nrm_less hc hp] at h1
        exact hq.1 t List.mem_cons_self h1.symm
    have hc : s.c = t.c := by
      have h1 := h (at0 s.i s.j)
      rw [nrm_head hp, hst.1, hst.2, nrm_head hq] at h1
      exact h1
    have e := Tm.ext' hst.1 hst.2 hc
    subst e
    rw [nrm_ext (nrm_tail hp) (nrm_tail hq) (fun φ => by have := h φ; rw [lin, lin] at this; grind)]
theorem norm_eq {l m : List Tm} (h : ∀ φ, lin φ l = lin φ m) : norm l = norm m :=
  nrm_ext (norm_nrm l) (norm_nrm m) (fun φ => by rw [lin_norm, lin_norm, h])
theorem norm_id {p : List Tm} (h : Nrm p) : norm p = p := nrm_ext (norm_nrm p) h (fun φ => lin_norm φ p)
end
section
def evP (l : List Tm) (x y : Rat) : Rat := lin (fun i j => x ^ i * y ^ j) l
def mulL (a b : List Tm) : List Tm := a.flatMap (fun s => b.map (fun t => ⟨s.i + t.i, s.j + t.j, s.c * t.c⟩))
theorem lin_mulL (φ : Nat → Nat → Rat) (a b : List Tm) : lin φ (mulL a b) = lin (fun i j => lin (fun p q => φ (i + p) (j + q)) b) a := by
  unfold mulL
  refine lin_flatMap φ _ _ a (fun s _ => ?_)
  rw [lin_map φ _ (fun p q => s.c * φ (s.i + p) (s.j + q)) b (fun t _ => by simp only; grind), lin_smul]
def powL (p : List Tm) : Nat → List Tm
  | 0 => [⟨0, 0, 1⟩]
  | n + 1 => mulL (powL p n) p
def scaleL (c : Rat) (l : List Tm) : List Tm := l.map (fun t => ⟨t.i, t.j, c * t.c⟩)
theorem lin_scaleL (φ : Nat → Nat → Rat) (c : Rat) (l : List Tm) : lin φ (scaleL c l) = c * lin φ l := by
  unfold scaleL
  rw [← lin_smul]
  exact lin_map φ _ _ l (fun t _ => by simp only; grind)
def sbL (X Y : List Tm) (l : List Tm) : List Tm := l.flatMap (fun t => scaleL t.c (mulL (powL X t.i) (powL Y t.j)))
theorem lin_sbL (φ : Nat → Nat → Rat) (X Y l : List Tm) : lin φ (sbL X Y l) = lin (fun i j => lin φ (mulL (powL X i) (powL Y j))) l := by
  unfold sbL
  exact lin_flatMap φ _ _ l (fun t _ => by rw [lin_scaleL])
def dxL (l : List Tm) : List Tm := l.map (fun t => ⟨t.i - 1, t.j, t.c * ((t.i : Int) : Rat)⟩)
def dyL (l : List Tm) : List Tm := l.map (fun t => ⟨t.i, t.j - 1, t.c * ((t.j : Int) : Rat)⟩)
theorem lin_dyL (φ : Nat → Nat → Rat) (l : List Tm) : lin φ (dyL l) = lin (fun i j => ((j : Int) : Rat) * φ i (j - 1)) l :=
  lin_map φ _ _ l (fun t _ => by simp only; grind)
theorem cast_add (a b : Nat) : (((a + b : Nat) : Int) : Rat) = ((a : Int) : Rat) + ((b : Int) : Rat) := by
  rw [Int.natCast_add, Rat.intCast_add]
theorem cast_one : (((1 : Nat) : Int) : Rat) = 1 := rfl
def Eqv (l m : List Tm) : Prop := ∀ φ, lin φ l = lin φ m
theorem Eqv.rfl' {l : List Tm} : Eqv l l := fun _ => rfl
theorem Eqv.symm {l m : List Tm} (h : Eqv l m) : Eqv m l := fun φ => (h φ).symm
theorem Eqv.trans {l m k : List Tm} (h : Eqv l m) (h2 : Eqv m k) : Eqv l k := fun φ => (h φ).trans (h2 φ)
theorem Eqv.nrm (l : List Tm) : Eqv (norm l) l := fun φ => lin_norm φ l
theorem Eqv.mul {a b a' b' : List Tm} (h : Eqv a a') (h2 : Eqv b b') : Eqv (mulL a b) (mulL a' b') := fun φ => by
  rw [lin_mulL, lin_mulL, h]
  exact lin_congr (fun s _ => h2 _)
theorem Eqv.append {a b a' b' : List Tm} (h : Eqv a a') (h2 : Eqv b b') : Eqv (a ++ b) (a' ++ b') := fun φ => by rw [lin_append, lin_append, h, h2]
theorem Eqv.scale {a a' : List Tm} (c : Rat) (h : Eqv a a') : Eqv (scaleL c a) (scaleL c a') := fun φ => by rw [lin_scaleL, lin_scaleL, h]
theorem Eqv.dy {a a' : List Tm} (h : Eqv a a') : Eqv (dyL a) (dyL a') := fun φ => by rw [lin_dyL, lin_dyL, h]
theorem Eqv.pow {a a' : List Tm} (h : Eqv a a') : ∀ n, Eqv (powL a n) (powL a' n)
  | 0 => Eqv.rfl'
  | n + 1 => (Eqv.pow h n).mul h
theorem Eqv.sub {X Y l X' Y' l' : List Tm} (hX : Eqv X X') (hY : Eqv Y Y') (h : Eqv l l') : Eqv (sbL X Y l) (sbL X' Y' l') := fun φ => by
  rw [lin_sbL, lin_sbL, h]
  exact lin_congr (fun s _ => ((hX.pow _).mul (hY.pow _)) φ)
theorem Eqv.val {l m : List Tm} (h : Eqv l m) (x y : Rat) : evP l x y = evP m x y := h _
theorem Eqv.eq {l m : List Tm} (h : Eqv l m) : norm l = norm m := norm_eq h
def pv (a : Nat → Rat) (x : Rat) : Nat → Rat
  | 0 => 0
  | n + 1 => pv a x n + a n * x ^ n
def topE : List Tm → Nat
  | [] => 0
  | t :: l => max (max (t.i + 1) (t.j + 1)) (topE l)
theorem eqv_zero {l : List Tm} (h : ∀ a b, lin (at0 a b) l = 0) : ∀ φ, lin φ l = 0 := by
  intro φ
  rw [← lin_norm]
  have hn := norm_nrm l
  rcases hl : norm l with _ | ⟨t, p⟩
  · rfl
  · rw [hl] at hn
    have h1 := nrm_head hn
    rw [← hl, lin_norm, h] at h1
    exact absurd h1.symm (hn.1 t List.mem_cons_self)
end
section
def ln (a b c : Rat) : List Tm := [⟨1, 0, a⟩, ⟨0, 1, b⟩, ⟨0, 0, c⟩]
def shL (p : List Tm) (ax bx cx ay by' cy : Rat) : List Tm := sbL (ln ax bx cx) (ln ay by' cy) p
def lam (i j : Nat) : Rat := ((1 : Int) : Rat) / (((i + 1 : Nat) : Int) : Rat)
def bt : Nat → Nat → Rat
  | 0, j => lam j 0
  | i + 1, j => bt i j - bt i (j + 1)
def mu (i j : Nat) : Rat := bt (i + 1) j / (((i + 1 : Nat) : Int) : Rat)
def W1 : List Tm := [⟨0, 0, 1⟩, ⟨1, 0, -1⟩]
def X1 : List Tm := [⟨1, 0, 1⟩]
abbrev Pt := Rat × Rat
def twQ (a b c : Pt) : Rat := (b.1 - a.1) * (c.2 - a.2) - (c.1 - a.1) * (b.2 - a.2)
def segQ (p : List Tm) (a b : Pt) : Rat := lin lam (shL p (b.1 - a.1) 0 a.1 (b.2 - a.2) 0 a.2)
def triQ (p : List Tm) (a b c : Pt) : Rat := twQ a b c * lin mu (shL p (b.1 - a.1) (c.1 - a.1) a.1 (b.2 - a.2) (c.2 - a.2) a.2)
def flowQ (g h : List Tm) (a b : Pt) : Rat := (b.2 - a.2) * segQ g a b - (b.1 - a.1) * segQ h a b
end
section
theorem triQ_eqv {p q : List Tm} (h : Eqv p q) (a b c : Pt) : triQ p a b c = triQ q a b c := by
  unfold triQ shL; rw [(Eqv.sub Eqv.rfl' Eqv.rfl' h) mu]
def prL (p : List Tm) : List Tm := p.map (fun t => ⟨t.i + 1, t.j, t.c / (((t.i + 1 : Nat) : Int) : Rat)⟩)
def fanQ (p : List Tm) (a : Pt) : List Pt → Rat
  | b :: c :: l => triQ p a b c + fanQ p a (c :: l)
  | _ => 0
def pathQ (f : Pt → Pt → Rat) : List Pt → Rat
  | a :: b :: l => f a b + pathQ f (b :: l)
  | _ => 0
def cycQ (f : Pt → Pt → Rat) : List Pt → Rat
  | [] => 0
  | a :: l => pathQ f (a :: l ++ [a])
def polyQ (p : List Tm) : List Pt → Rat
  | [] => 0
  | a :: l => fanQ p a l
end
end Go.Proofs.YtgkicbaomcmfoaaGreatDoor
