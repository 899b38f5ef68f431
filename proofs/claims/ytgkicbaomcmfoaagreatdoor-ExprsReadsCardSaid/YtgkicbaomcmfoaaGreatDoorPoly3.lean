/- Walks of functions. By an AI agent. -/
import Derived.Test.YtgkicbaomcmfoaaGreatDoorText2
import Derived.Test.YtgkicbaomcmfoaaGreatDoorNumT
import Derived.Test.YtgkicbaomcmfoaaGreatDoorFxD
import Derived.Test.YtgkicbaomcmfoaaGreatDoorFxM
set_option linter.unusedVariables false
set_option linter.unusedSimpArgs false
set_option maxRecDepth 4000
namespace Go.Proofs.YtgkicbaomcmfoaaGreatDoor
open Go Go.Proofs Go.Fx Tryz
attribute [local irreducible] Oper.wp Code.wp wpList Fx.Head wpOp
section
def TabF : Zp where
 p X w := ∃ g, Tryz.prog.globalNamed "internal/strconv.uint64pow10" = some g ∧ ¬ X g ∧ g < w.heap.size ∧ Lib.TabIs Tryz.prog w "internal/strconv.uint64pow10" .u64 Lib.pow10Tab
 st X X' w w' h hk hs hX := by
  obtain ⟨g, hg, hx, hlt, ht⟩ := h
  refine ⟨g, hg, fun h' => ?_, oo, ?_⟩
  ·
   rcases hX g h' with h1 | h1
   · exact hx h1
   · omega
  ·
   unfold Lib.TabIs World.var? at *
   simp only [hg, Option.bind_some] at ht ⊢
   rw [hk g hlt hx]; exact ht
theorem below_grow (w : World) (k : Nat) (os : Array Obj) : Go.RowKit.Below w.heap.size w (Sort.grow (w.drewN k) os) := ⟨rfl, rfl, rfl, by simp [Sort.grow, World.drewN], fun b hb => by
 show (w.heap ++ os)[b]? = _
 rw [Array.getElem?_append_left hb]⟩
def dB (n : Nat) : ByteArray := ⟨(Lib.decDigits n).toArray⟩
theorem Qax {n : Nat} (h : n < 100) : dB n = Ziy n := by
 unfold dB Ziy
 split
 · rw [Lib.decDigits_one (by assumption)]
 · rw [Lib.decDigits_two (by assumption) h]
theorem Zif (n : Nat) : (dB n).size = Lib.nDigits n := by
 show (Lib.decDigits n).toArray.size = _
 rw [List.size_toArray, Lib.decDigits_length]
theorem Zbo {k n : Nat} (h : n < 10 ^ (k + 1)) : Lib.nDigits n ≤ k + 1 := by
 induction k generalizing n with
 | zero => rw [Lib.nDigits_small (by simpa using h)]; exact Nat.le_refl _
 | succ k ih =>
  by_cases h1 : n < 10
  · rw [Lib.nDigits_small h1]; omega
  ·
   rw [Lib.nDigits_big h1]
   have := ih (n := n / 10) (by rw [Nat.pow_succ] at h; omega)
   omega
def Zt2 (z : Int) : ByteArray := if z < 0 then ⟨#[45]⟩ ++ dB z.natAbs else dB z.natAbs
def Ks (x : Rat) : ByteArray := if x.den = 1 then Zt2 x.num else Zt2 x.num ++ ⟨#[47]⟩ ++ dB x.den
theorem Zkg (c : UInt8) : (ByteArray.mk #[c]).size = 1 := rfl
theorem C_iFU2 (n : Nat) (hn : n < 18446744073709551616) : Gn Tryz.prog 134 [.int .u64 (n : Int), .int .i64 10] [TabF] (.string (dB n)) := by
 intro X w hX hΦ
 by_cases h : n < 100
 ·
  refine (C_iFU n h X w hX (fun _ h => nomatch h)).mono ?_
  rintro e w' ⟨v, Ψ, rfl, ⟨rfl, rfl⟩, hb, _⟩
  exact ⟨_, [], rfl, ⟨by rw [Qax h], rfl⟩, hb, fun _ h => nomatch h⟩
 ·
  obtain ⟨g, hg, _, _, ht⟩ := hΦ TabF (List.Mem.head _)
  refine (K_FU n oo hn w ht).mono ?_
  rintro e w' ⟨rfl, k, os, rfl⟩
  exact ⟨_, [], rfl, ⟨rfl, rfl⟩, below_grow w k os, fun _ h => nomatch h⟩
theorem C_FU2 (n : Nat) (hlt : n < 18446744073709551616) : Gn Tryz.prog 91 [.int .u64 (n : Int), .int .i64 10] [TabF] (.string (dB n)) := by
 refine fn_intro func91 rfl ntmps91 nb ?_
 intro S w0 a hS h
 refine gC h (zS (za rfl (zn (zS (zm rfl (zm rfl (zw [_, _] rfl call134 (C_iFU2 n hlt) (za rfl (zn (zt ?_)))))))))); clear h; intro a w h
 exact Zeh h
theorem Qbq (n : Nat) (hlt : n < 18446744073709551616) : Gn Tryz.prog 56 [Xk n] [TabF] (.string (dB n)) := by
 refine fn_intro func56 rfl ntmps56 nb ?_
 intro S w0 a hS h
 refine gC h (zS (zx rfl fun b1 => za rfl (zn (zs (zS (zp (.fA rfl Yn) (zd rfl mr isAgg9 sizeOf9 Jy ?_)))))))
 refine zp (.binOp rfl rfl (fun _ => Jv _ _ _ _ _)) (zn ?_); intro a w h
 refine cW ?_
 refine Zb h rfl (fun hc10 => ?_) (fun hc10 => (by exfalso; have hb : Va n = ⟨#[]⟩ := Yk oo; rw [hb] at hc10; exact absurd hc10 dd))
 refine gC h (zS (zp (.fA rfl Yf) (zd rfl mr isAgg45 sizeOf45 Jn ?_))); clear h; intro a w h
 rw [Zw hlt] at h
 refine gL h (zw [_, _] rfl call91 (C_FU2 n hlt) (za rfl (zn (zt ?_)))); clear h; intro a w h
 exact Zeh h
end
section
def Zep (n : Nat) : Nat → List UInt8
 | 0 => []
 | k + 1 => UInt8.ofNat (48 + n / 10 ^ k % 10) :: Zep n k
def Zyz (n k : Nat) : ByteArray := ⟨(Zep n k).toArray⟩
theorem Zrb (n : Nat) : ∀ k, (Zep n k).length = k
 | 0 => rfl
 | k + 1 => congrArg (· + 1) (Zrb n k)
theorem Zmo (n k : Nat) : (Zyz n k).size = k := by show (Zep n k).toArray.size = k; rw [List.size_toArray, Zrb]
theorem Zc1 (n : Nat) : ∀ k, Zep n (k + 1) = Zep (n / 10) k ++ [UInt8.ofNat (48 + n % 10)]
 | 0 => by simp [Zep]
 | k + 1 => by
  rw [Zep, Zc1 n k, Zep, List.cons_append]
  congr 2
  rw [Nat.div_div_eq_div_mul, Nat.pow_succ, Nat.mul_comm]
theorem Ze3 (n : Nat) : Lib.decDigits n = Zep n (Lib.nDigits n) := by
 induction n using Nat.strongRecOn with
 | _ n ih =>
  by_cases h : n < 10
  ·
   rw [Lib.decDigits_one h, Lib.nDigits_small h]
   simp [Zep, Nat.mod_eq_of_lt h]
  · rw [Lib.decDigits, dif_neg h, Lib.nDigits_big h, Zc1, ih (n / 10) oo]
theorem Zv7 (n k : Nat) : (ByteArray.mk #[UInt8.ofNat (48 + n / 10 ^ k % 10)]) ++ Zyz n k = Zyz n (k + 1) := by
 apply ByteArray.ext
 rw [ByteArray.data_append]
 apply Array.ext'
 simp [Zyz, Zep]
theorem Ze5 : ∀ (k n : Nat), 10 ^ k ≤ n → Lib.decDigits n = Lib.decDigits (n / 10 ^ k) ++ Zep n k
 | 0, n, _ => by rw [Nat.pow_zero, Nat.div_one, Zep, List.append_nil]
 | k + 1, n, h => by
  have h1 : 10 ^ k * 10 ≤ n := by rw [← Nat.pow_succ]; exact h
  have h0 : 0 < 10 ^ k := Nat.pow_pos dd
  have h10 : ¬ n < 10 := oo
  have e : Lib.decDigits n = Lib.decDigits (n / 10) ++ [UInt8.ofNat (48 + n % 10)] := by rw [Lib.decDigits, dif_neg h10]
  rw [e, Zc1, ← List.append_assoc, Ze5 k (n / 10) ((Nat.le_div_iff_mul_le dd).2 h1), Nat.div_div_eq_div_mul, Nat.pow_succ, Nat.mul_comm 10]
theorem Zq9 (r m : Nat) (h : r < 10 ^ m) : ∀ a, Zep r (m + a) = List.replicate a 48 ++ Zep r m
 | 0 => rfl
 | a + 1 => by
  rw [← Nat.add_assoc, Zep, Zq9 r m h a, List.replicate_succ, List.cons_append]
  have : r / 10 ^ (m + a) = 0 := Nat.div_eq_of_lt (Nat.lt_of_lt_of_le h (Nat.pow_le_pow_right dd oo))
  rw [this]; rfl
theorem Qd5 {r k : Nat} (h : r < 10 ^ (k + 1)) : List.replicate (k + 1 - Lib.nDigits r) 48 ++ Lib.decDigits r = Zep r (k + 1) := by
 have h1 := Zbo h
 have h2 := Zq9 r (Lib.nDigits r) (Lib.lt_pow_nDigits r) (k + 1 - Lib.nDigits r)
 rw [Ze3, ← h2]
 congr 1; omega
theorem Zra : ∀ (k n : Nat), Zep (n % 10 ^ k) k = Zep n k
 | 0, _ => rfl
 | k + 1, n => by
  rw [Zc1, Zc1]
  have e1 : n % 10 ^ (k + 1) / 10 = n / 10 % 10 ^ k := by rw [Nat.pow_succ, Nat.mul_comm, Nat.mod_mul_right_div_self]
  have e2 : n % 10 ^ (k + 1) % 10 = n % 10 := by rw [Nat.pow_succ, Nat.mul_comm, Nat.mod_mul_right_mod]
  rw [e1, e2, Zra k (n / 10)]
theorem Zrc (n a : Nat) : ∀ b, Zep n (a + b) = Zep (n / 10 ^ a) b ++ Zep n a
 | 0 => rfl
 | b + 1 => by
  rw [← Nat.add_assoc, Zep, Zrc n a b, Zep, List.cons_append]
  congr 3
  rw [Nat.div_div_eq_div_mul, ← Nat.pow_add]
def Zd6 (m : Nat) : ByteArray := if m / 1000000000 = 0 then dB m else Zyz m 9
def prt (n : Nat) : Nat → List ByteArray
 | 0 => []
 | i + 1 => prt n i ++ [Zd6 (n / 10 ^ (9 * i))]
theorem Zkl (n : Nat) : ∀ i, (prt n i).length = i
 | 0 => rfl
 | i + 1 => by rw [prt, List.length_append, Zkl n i]; rfl
def Qcc (l : List ByteArray) : List UInt8 := l.flatMap (·.data.toList)
theorem Zxi (n : Nat) : ∀ i, n / 10 ^ (9 * i) ≠ 0 → Qcc (prt n i).reverse = Zep n (9 * i)
 | 0, _ => rfl
 | i + 1, h => by
  have e : n / 10 ^ (9 * (i + 1)) = n / 10 ^ (9 * i) / 1000000000 := by
   rw [Nat.div_div_eq_div_mul, show 9 * (i + 1) = 9 * i + 9 by omega, Nat.pow_add]
  rw [e] at h
  have h0 : n / 10 ^ (9 * i) ≠ 0 := fun h1 => h (by rw [h1])
  have ih := Zxi n i h0
  rw [prt, List.reverse_append, List.reverse_singleton, List.singleton_append]
  show (Zd6 (n / 10 ^ (9 * i))).data.toList ++ Qcc (prt n i).reverse = _
  rw [ih, Zd6, if_neg h, show 9 * (i + 1) = 9 * i + 9 by omega, Zrc]; rfl
theorem Qe5 {n i : Nat} (h : n / 10 ^ (9 * i) ≠ 0) (h2 : n / 10 ^ (9 * (i + 1)) = 0) : Qcc (prt n (i + 1)).reverse = Lib.decDigits n := by
 have e : n / 10 ^ (9 * (i + 1)) = n / 10 ^ (9 * i) / 1000000000 := by
  rw [Nat.div_div_eq_div_mul, show 9 * (i + 1) = 9 * i + 9 by omega, Nat.pow_add]
 rw [e] at h2
 rw [prt, List.reverse_append, List.reverse_singleton, List.singleton_append]
 show (Zd6 (n / 10 ^ (9 * i))).data.toList ++ Qcc (prt n i).reverse = _
 have hle : 10 ^ (9 * i) ≤ n := by
  rcases Nat.lt_or_ge n (10 ^ (9 * i)) with h3 | h3
  · exact absurd (Nat.div_eq_of_lt h3) h
  · exact h3
 rw [Zxi n i h, Zd6, if_pos h2, Ze5 (9 * i) n hle]; rfl
theorem Zhc (n : Nat) : n < 2 ^ (32 * (wds n).length) := by
 have h := Yb (Wd.wds n)
 rw [Qp] at h
 rw [Nat.pow_mul]; exact h
theorem Zvo {n i : Nat} (h : n / 10 ^ (9 * i) ≠ 0) : i < 2 * (wds n).length + 1 := by
 have hle : 10 ^ (9 * i) ≤ n := by
  rcases Nat.lt_or_ge n (10 ^ (9 * i)) with h3 | h3
  · exact absurd (Nat.div_eq_of_lt h3) h
  · exact h3
 have h1 : 2 ^ (16 * i) ≤ 10 ^ (9 * i) := by
  rw [Nat.pow_mul, Nat.pow_mul]; exact Nat.pow_le_pow_left dd i
 have h2 := Nat.lt_of_le_of_lt (Nat.le_trans h1 hle) (Zhc n)
 have h3 := (Nat.pow_lt_pow_iff_right (show 1 < 2 by decide)).1 h2
 omega
theorem Zo1 (n : Nat) : Lib.nDigits n ≤ 10 * (wds n).length + 1 := by
 refine Zbo ?_
 have h1 := Zhc n
 have h2 : 2 ^ (32 * (wds n).length) ≤ 10 ^ (10 * (wds n).length) := by
  rw [Nat.pow_mul, Nat.pow_mul]; exact Nat.pow_le_pow_left dd _
 have h3 : 10 ^ (10 * (wds n).length) ≤ 10 ^ (10 * (wds n).length + 1) := Nat.pow_le_pow_right dd oo
 omega
theorem Zg3 (n : Nat) : (dB n).size ≤ 10 * (wds n).length + 1 := by rw [Zif]; exact Zo1 n
theorem Ztt (m : Nat) : (Zd6 m).size ≤ 9 := by
 unfold Zd6
 have h9 : (10 : Nat) ^ (8 + 1) = 1000000000 := rfl
 split
 ·
  rename_i h
  rw [Zif]; exact Zbo (k := 8) oo
 · rw [Zmo]; exact Nat.le_refl _
theorem Zqw (n : Nat) : ∀ i, ∀ x ∈ prt n i, x.size ≤ 9
 | 0, x, h => nomatch h
 | i + 1, x, h => by
  rw [prt] at h
  rcases List.mem_append.1 h with h | h
  · exact Zqw n i x h
  · rw [List.mem_singleton.1 h]; exact Ztt _
end
section
theorem Zq (a : Option Addr) (n c : Nat) (w : World) (ty : TypeId) (cs : Array Bool) : (Go.builtin .len #[160] ty cs #[.slice a n c]).run Tryz.prog w = .ok (.value (.int .i64 n)) w := by
 simp [go_sem]
theorem Za4 (b off n c j : Nat) (h : j < n) (w : World) : (Instr.indexAt 160 (.slice (some ⟨b, off, none⟩) n c) (.int .i64 (j : Int))).run Tryz.prog w = .ok (.pointer (some ⟨b, off + j, none⟩)) w := by
 simpa using Yy runUnderlying160 sizeOf3 b off n c j h w
theorem Qdj (a : Option Addr) (n c j : Nat) (h : j ≤ c) (w : World) : (Instr.sliceAt 160 (.slice a n c) none (some (.int .i64 (j : Int))) none).run Tryz.prog w = .ok (.slice a j c) w := by
 exact Zcv runUnderlying160 sizeOf3 a n c j h w
theorem Zad (x0 : Int) (w : World) : (Instr.buildSlice 160 1 [(0, .int .i64 x0)].toArray).run Tryz.prog w = .ok (.slice (some ⟨w.heap.size, 0, none⟩) 1 1) (w.alloc (.cells #[.int .i64 x0] 3 (0, 0))) := by
 simp [go_sem]
theorem Zj3 (ad : Option Addr) (c : Nat) (l : List Nat) (hw : Dd l) (hc : l.length ≤ c) (hs : l.length ≤ 2199023255552) :
  Ctr Tryz.prog 223 [.slice ad l.length c] [Row ad (List.map Qe l)] (fun v Ψ => v = .slice ad (dg (Qi l)).length c ∧ Ψ = [Row ad (List.map Qe (dg (Qi l)))]) := by
 refine fn_intro func223 rfl ntmps223 nb ?_
 intro S w0 a hS h
 refine gC h (zS (za rfl (zn (zs (zb ?_))))); clear h; intro a w h
 refine Zi (fun (m : Nat) a w => m ≤ l.length ∧ (∀ j, m ≤ j → j < l.length → l.getD j 0 = 0) ∧ St 21 S w0 [(0, .slice ad m c)] [] [Row ad (List.map Qe l)] a w) (fun m => m) (l.length) (⟨Nat.le_refl _, fun j h1 h2 => absurd h2 oo, h.sub sA⟩) ?_; clear h
 rintro m a w ⟨hm, hz, h⟩
 refine gC h (zs (zS (zm rfl (zp (.builtin [_] rfl (Zq _ _ _)) (zp (.gtr rfl rfl) ?_))))); clear h; intro a w h
 refine Zg h (fun hc5 h => ?_) (fun hc5 h => ?_)
 focus
  have hm0 : 0 < m := dT hc5
  obtain ⟨B_ad, O_ad, rfl⟩ := h.row_addr (ad := ad) (M := List.map Qe l) (by first | assumption | (repeat (first | exact List.Mem.head _ | apply List.Mem.tail))) nF
  refine gL h (zm rfl (zq 6 rfl rfl (.move rfl) (zq 6 rfl rfl (.move rfl) (zq 6 rfl rfl (.builtin [_] rfl (Zq _ _ _)) (zq 6 rfl rfl (.pO (m - 1) (.sub rfl rfl)) (zq 6 rfl rfl (.indexAddr rfl rfl (Za4 _ _ _ _ _ oo)) ?_)))))); clear h; intro a w h
  refine Zo 6 h rfl rfl (Zdk h rfl mm (by rw [List.length_map]; omega) isAgg3 sizeOf3 (Zv (enc := Qe) (l := l) 0 oo) (.inr rfl) dd ?_); clear h; intro a h
  refine gL h (zq 6 rfl rfl (.eql rfl rfl) ?_); clear h; intro a w h
  refine Zg h (fun hc13 h => ?_) (fun hc13 h => ?_)
  ·
   skip
   have hv0 : l.getD (m - 1) 0 = 0 := Zcj hc13
   refine gL h (zp (.pickT rfl rfl) (zn ?_)); clear h; intro a w h
   refine cW ?_
   refine Zj h rfl ?_
   refine gC h (zk (zb (zr (zm rfl (zm rfl (zp (.builtin [_] rfl (Zq _ _ _)) (zp (.pO (m - 1) (.sub rfl rfl)) (zp (.slice rfl none (some _) none rfl rfl rfl (Qdj _ _ _ _ oo)) (za rfl (zn ?_)))))))))); clear h; intro a w h
   refine ⟨m - 1, ⟨oo, fun j h1 h2 => ?_, h.sub sA⟩, oo⟩
   by_cases hj : j = m - 1
   ·
    skip
    subst hj; exact hv0
   ·
    skip
    exact hz j oo h2
  have hv0 : l.getD (m - 1) 0 ≠ 0 := Zbn hc13
  refine gL h (zp (.pickT rfl rfl) (zn ?_)); clear h; intro a w h
  refine cW ?_
  refine Ze h rfl ?_
  refine gC h (ze (zS (zm rfl (za rfl (zn (zt ?_)))))); clear h; intro a w h
  have hcut := Zru hw hm hz (.inr hv0)
 rotate_left
 focus
  have hm0 : m = 0 := dF hc5
  refine gL h (zm rfl (zo 6 rfl rfl rfl (zo 6 rfl rfl rfl (zo 6 rfl rfl rfl (zo 6 rfl rfl rfl (zo 6 rfl rfl rfl (zo 6 rfl rfl rfl (zo 6 rfl rfl rfl (zp (.pickF rfl rfl) (zn ?_)))))))))); clear h; intro a w h
  refine cW ?_
  refine Ze h rfl ?_
  refine gC h (ze (zS (zm rfl (za rfl (zn (zt ?_)))))); clear h; intro a w h
  have hcut := Zru hw hm hz (.inl hm0)
 all_goals
  have hR : ∀ ad, Row ad (List.map Qe (dg (Qi l))) = Row ad ((List.map Qe l).take m) := by intro ad; rw [hcut, List.map_take]
  replace h := h.derive (R := Row _ (List.map Qe (dg (Qi l)))) (fun X hX => by rw [hR]; exact Zgs (hX _ List.mem_cons_self) m)
  have hl : m = (dg (Qi l)).length := by rw [hcut]; simp; omega
  refine Zy (Ψ := [Row _ (List.map Qe (dg (Qi l)))]) h (Zd h rfl (.tmp rfl)) ⟨by rw [← hl], rfl⟩ ss
theorem Qbc (ad : Option Addr) (c : Nat) (l : List Nat) (i : Nat) :
  Gn Tryz.prog 224 [.slice ad l.length c, .int .i64 ((i : Nat) : Int)] [Row ad (List.map Qe l)] (.int .i64 ((l.getD i 0 : Nat) : Int)) := by
 refine fn_intro func224 rfl ntmps224 nb ?_
 intro S w0 a hS h
 refine gC h (zS (za rfl (zn (zs (zS (zm rfl (zm rfl (zp (.builtin [_] rfl (Zq _ _ _)) (zp (.lss rfl rfl) (zn ?_)))))))))); clear h; intro a w h
 refine cW ?_
 refine Zb h rfl (fun hc8 => ?_) (fun hc8 => ?_)
 ·
  skip
  have hi : i < l.length := dT hc8
  obtain ⟨B_ad, O_ad, rfl⟩ := h.row_addr (ad := ad) (M := List.map Qe l) (by first | assumption | (repeat (first | exact List.Mem.head _ | apply List.Mem.tail))) nF
  refine gC h (zS (zm rfl (zm rfl (zp (.indexAddr rfl rfl (Za4 _ _ _ _ _ oo)) (zD rfl mm (by rw [List.length_map]; omega) isAgg3 sizeOf3 (Zv (enc := Qe) (l := l) 0 oo) (.inr rfl) ?_)))))
  refine za rfl (zn (zt ?_)); intro a w h
  exact Zeh h
 ·
  skip
  have hi : l.length ≤ i := dF hc8
  refine gC h (zk (zS (za rfl (zn (zt ?_))))); clear h; intro a w h
  refine Jk h (Zd h rfl (.tmp rfl)) ?_
  rw [Km hi]; rfl
def Znu (n : Nat) (v : Value) (Ψ : List Zp) : Prop := ∃ ad c, v = .slice ad (dg n).length c ∧ (dg n).length ≤ c ∧ Ψ = [Row ad (List.map Qe (dg n))]
theorem dlt (n i : Nat) : (dg n).getD i 0 < 10000 := (Dd.dg n).getD i
theorem trimmed {n : Nat} {ad : Option Addr} {c : Nat} {v : Value} {Ψ : List Zp} {Z : List Nat} (hv : v = .slice ad (dg (Qi Z)).length c ∧ Ψ = [Row ad (List.map Qe (dg (Qi Z)))]) (hZ : Qi Z = n) (hw : Dd Z) (hc : Z.length ≤ c) : Znu n v Ψ := by
 subst hZ; exact ⟨ad, c, hv.1, Nat.le_trans (Zc6 hw) hc, hv.2⟩
theorem Zn0 (n : Nat) (hn : n < 18446744073709551616) :
  Ctr Tryz.prog 189 [.int .u64 (n : Int)] [] (Znu n) := by
 have h5 : (dg n).length ≤ 5 := Vf (Nat.lt_trans hn dd)
 refine fn_intro func189 rfl ntmps189 nb ?_
 intro S w0 a hS h
 refine gC h (zS (za rfl (zn (zS (za rfl (zn (zs (zb ?_)))))))); clear h; intro a w h
 refine Zi (fun (m : Nat) a w => ∃ l ad c o, m ≤ n ∧ dg n = l ++ dg m ∧ GrowO 1 3 (.slice ad l.length c) l.length (List.map Qe l) o ∧ St 15 S w0 [(0, .int .u64 (m : Int)), (3, .slice ad l.length c)] (o ++ []) [] a w) (fun m => m) (n) (⟨[], none, 0, [], Nat.le_refl _, rfl, GrowO.nil _ _, by exact h.sub sA⟩) ?_; clear h
 rintro m a w ⟨l, ad, c, o, hm, hd, hG, h⟩
 have hll : l.length ≤ 5 := by have := congrArg List.length hd; simp at this; omega
 refine gC h (zs (zS (zm rfl (zp (.gtr rfl rfl) (zn ?_))))); clear h; intro a w h
 refine cW ?_
 refine Zb h rfl (fun hc5 => ?_) (fun hc5 => ?_)
 ·
  skip
  have hm0 : 0 < m := dT hc5
  refine gC h (zk (zb (zS (zm rfl (zm rfl (zp (Pure1.cast (v' := .int .u64 ((m % 10000 : Nat) : Int)) (.binOp rfl rfl (fun _ => Zai _ _ _ _ _ dd)) (by rw [show (10000 : Int) = ((10000 : Nat) : Int) from rfl, Kd])) (zp (.convert rfl (Ze6 _ (wrap_i64 _ oo oo))) (zB [(_, _)] rfl (Zad _) fun b10 => ?_)))))))); clear h; intro a w h
  refine Zc (Yj (σr := []) h rfl rfl (List.Perm.trans (List.Perm.refl _) (List.Perm.cons _ (List.Perm.refl _))) hG runUnderlying160 runUnderlying160 typeInfo3 sizeOf3 zeroValue3 rfl dd dd rfl rfl dd (by show 8 * (2 * ((l).length + 1) + 192) ≤ 281474976710656; omega) dd ?_); clear h
  intro v11 o11 a w hG11 h
  obtain ⟨ad11, c11, rfl⟩ := hG11.is
  have hLn11 : (l).length + 1 = (l ++ [m % 10000]).length := lA
  rw [hLn11] at h hG11
  replace hG11 : GrowO 1 3 (.slice ad11 (l ++ [m % 10000]).length c11) (l ++ [m % 10000]).length (List.map Qe (l ++ [m % 10000])) o11 := by rw [List.map_append]; exact hG11
  refine gL h (za rfl (zn (zr (zm rfl (zp (Pure1.cast (v' := .int .u64 ((m / 10000 : Nat) : Int)) (.binOp rfl rfl (fun _ => Vl _ _ _ _ _ dd)) (by rw [show (10000 : Int) = ((10000 : Nat) : Int) from rfl, Yc, Zcq (Nat.lt_of_le_of_lt (Nat.div_le_self _ _) (Nat.lt_of_le_of_lt hm hn))])) (za rfl (zn ?_))))))); clear h; intro a w h
  exact ⟨m / 10000, ⟨l ++ [m % 10000], ad11, c11, o11, oo, by rw [hd, Zib (Nat.ne_of_gt hm0)]; simp, hG11, by exact h.sub sA⟩, oo⟩
 ·
  skip
  have hm0 : m = 0 := dF hc5
  refine gC h (ze (zS (zm rfl (za rfl (zn (zt ?_)))))); clear h; intro a w h
  obtain rfl : l = dg n := by rw [hd, hm0, Qv, List.append_nil]
  exact Zy (Ψ := [Row ad (List.map Qe (dg n))]) (h.shareO' hS hG) (Zd h rfl (.tmp rfl)) ⟨ad, c, rfl, hG.le, rfl⟩ ss
theorem drop_zero {l : List Nat} {i : Nat} (h : l.length ≤ i) : Qi (l.drop i) = 0 := Zlv h
theorem Zyd (ad1 ad2 : Option Addr) (c1 c2 : Nat) (n m : Nat) (h1 : (dg n).length ≤ 1000000000000) (h2 : (dg m).length ≤ 1000000000000) :
  Ctr Tryz.prog 194 [.slice ad1 (dg n).length c1, .slice ad2 (dg m).length c2] [Row ad1 (List.map Qe (dg n)), Row ad2 (List.map Qe (dg m))] (Znu (n + m)) := by
 refine fn_intro func194 rfl ntmps194 nb ?_
 intro S w0 a hS h
 refine gC h (zS (za rfl (zn (zS (za rfl (zn (zS (za rfl (zn (zs (zS (za rfl (zn (zb ?_)))))))))))))); clear h; intro a w h
 refine Zi (fun (i : Nat) a w => ∃ k Z ad c o, i ≤ max (dg n).length (dg m).length + 1 ∧ k ≤ 1 ∧ (i = max (dg n).length (dg m).length + 1 → k = 0) ∧ Z.length = i ∧ Dd Z ∧ Qi Z + 10000 ^ i * (k + Qi ((dg n).drop i) + Qi ((dg m).drop i)) = n + m ∧ GrowO 1 3 (.slice ad Z.length c) Z.length (List.map Qe Z) o ∧ St 43 S w0 [(0, .slice ad1 ((dg n).length) c1), (1, .slice ad2 ((dg m).length) c2), (5, .slice ad Z.length c), (6, nI k), (7, nI i)] (o ++ []) [Row ad1 (List.map Qe (dg n)), Row ad2 (List.map Qe (dg m))] a w) (fun i => max (dg n).length (dg m).length + 1 - i) (0) (⟨0, [], none, 0, [], Nat.zero_le _, oo, fun _ => rfl, rfl, (fun x hx => by cases hx), by simp [Qi, Xm], GrowO.nil _ _, by exact h.sub sA⟩) ?_; clear h
 rintro i a w ⟨k, Z, ad, c, o, hi, hk, hik, hl, hw, hv, hG, h⟩
 have e1 := dlt n i
 have e2 := dlt m i
 refine gC h (zs (zS (zm rfl (zm rfl (zp (.builtin [_] rfl (Zq _ _ _)) (zp (.lss rfl rfl) ?_)))))); clear h; intro a w h
 refine Zg h (fun hc12 h => ?_) (fun hc12 h => ?_)
 focus
  have hrun : i ≤ max (dg n).length (dg m).length := dT hc12
  refine gL h (zm rfl (zo 13 rfl rfl rfl (zo 13 rfl rfl rfl (zo 13 rfl rfl rfl (zo 13 rfl rfl rfl (zp (.pickT rfl rfl) (zm rfl (zo 19 rfl rfl rfl (zo 19 rfl rfl rfl (zp (.pickT rfl rfl) (zn ?_))))))))))); clear h; intro a w h
 rotate_left
 focus
  have hna : (dg n).length ≤ i := dF hc12
  refine gL h (zm rfl (zq 13 rfl rfl (.move rfl) (zq 13 rfl rfl (.move rfl) (zq 13 rfl rfl (.builtin [_] rfl (Zq _ _ _)) (zq 13 rfl rfl (.lss rfl rfl) ?_))))); clear h; intro a w h
  refine Zg h (fun hc17 h => ?_) (fun hc17 h => ?_)
  focus
   have hrun : i ≤ max (dg n).length (dg m).length := dT hc17
   refine gL h (zp (.pickF rfl rfl) (zm rfl (zo 19 rfl rfl rfl (zo 19 rfl rfl rfl (zp (.pickT rfl rfl) (zn ?_)))))); clear h; intro a w h
  rotate_left
  focus
   have hnb : (dg m).length ≤ i := dF hc17
   refine gL h (zp (.pickF rfl rfl) (zm rfl (zq 19 rfl rfl (.move rfl) (zq 19 rfl rfl (.gtr rfl rfl) ?_)))); clear h; intro a w h
   refine Zg h (fun hc21 h => ?_) (fun hc21 h => ?_)
   rotate_left
   ·
    skip
    have hk0 : k = 0 := dF hc21
    refine gL h (zp (.pickF rfl rfl) (zn ?_)); clear h; intro a w h
    refine cW ?_
    refine Ze h rfl ?_
    refine gC h (ze (zS (zm rfl ?_))); clear h; intro a w h
    replace h := h.shareO' hS hG
    have hZ : Qi Z = n + m := by rw [hk0, drop_zero hna, drop_zero hnb] at hv; simpa using hv
    refine gL h (zf [_] rfl call223 (Zj3 ad c Z hw hG.le oo) ?_); rintro v42 Ψ42 ht
    refine za rfl (zn (zt ?_)); intro a w h
    exact Zy h (Zd h rfl (.tmp rfl)) (trimmed ht hZ hw hG.le) (fun R hR => List.mem_append_left _ hR)
   have hrun : i ≤ max (dg n).length (dg m).length := dT hc21
   refine gL h (zp (.pickF rfl rfl) (zn ?_)); clear h; intro a w h
 all_goals
  refine cW ?_
  refine Zj h rfl ?_
  refine gC h (zk (zs (zb (zS (zm rfl (zm rfl (zw [_, _] rfl call224 (Qbc _ _ (dg n) (i)) (zm rfl (zm rfl (zw [_, _] rfl call224 (Qbc _ _ (dg m) (i)) (zp (.pN (((dg n).getD i 0) + ((dg m).getD i 0)) (.add rfl rfl)) (zm rfl (zp (.pN ((((dg n).getD i 0) + ((dg m).getD i 0)) + k) (.add rfl rfl)) (za rfl (zn (zS (zm rfl (zm rfl (zp (Pure1.cast (v' := .int .i64 ((((dg n).getD i 0 + (dg m).getD i 0 + k) % 10000 : Nat) : Int)) (.binOp rfl rfl (fun _ => Zai _ _ _ _ _ dd)) (by rw [show (10000 : Int) = ((10000 : Nat) : Int) from rfl, Kd])) (zB [(_, _)] rfl (Zad _) fun b37 => ?_)))))))))))))))))))); clear h; intro a w h
  refine Zc (Yj (σr := []) h rfl rfl (List.Perm.trans (List.Perm.refl _) (List.Perm.cons _ (List.Perm.refl _))) hG runUnderlying160 runUnderlying160 typeInfo3 sizeOf3 zeroValue3 rfl dd dd rfl rfl dd (by show 8 * (2 * ((Z).length + 1) + 192) ≤ 281474976710656; omega) dd ?_); clear h
  intro v38 o38 a w hG38 h
  obtain ⟨ad38, c38, rfl⟩ := hG38.is
  have hLn38 : (Z).length + 1 = (Z ++ [((dg n).getD i 0 + (dg m).getD i 0 + k) % 10000]).length := lA
  rw [hLn38] at h hG38
  replace hG38 : GrowO 1 3 (.slice ad38 (Z ++ [((dg n).getD i 0 + (dg m).getD i 0 + k) % 10000]).length c38) (Z ++ [((dg n).getD i 0 + (dg m).getD i 0 + k) % 10000]).length (List.map Qe (Z ++ [((dg n).getD i 0 + (dg m).getD i 0 + k) % 10000])) o38 := by rw [List.map_append]; exact hG38
  refine gL h (za rfl (zn (zr (zm rfl (zp (Pure1.cast (v' := .int .i64 ((((dg n).getD i 0 + (dg m).getD i 0 + k) / 10000 : Nat) : Int)) (.binOp rfl rfl (fun _ => Vl _ _ _ _ _ dd)) (by rw [show (10000 : Int) = ((10000 : Nat) : Int) from rfl, Yc, wrap_i64 _ oo oo])) (za rfl (zn (zr (zm rfl (zp (.pN (i + 1) (.add rfl rfl)) (za rfl (zn ?_)))))))))))); clear h; intro a w h
  exact ⟨i + 1, ⟨((dg n).getD i 0 + (dg m).getD i 0 + k) / 10000, Z ++ [((dg n).getD i 0 + (dg m).getD i 0 + k) % 10000], ad38, c38, o38, oo, by omega, fun hx => by rw [Km (l := dg n) oo, Km (l := dg m) oo]; omega, by rw [List.length_append, hl]; rfl, hw.snoc (Nat.mod_lt _ dd), Zvl hl hv, hG38, by exact h.sub sA⟩, oo⟩
theorem Zsk (ad1 ad2 : Option Addr) (c1 c2 : Nat) (n m : Nat) (h1 : (dg n).length ≤ 1000000000000) (h2 : (dg m).length ≤ 1000000000000) (hle : m ≤ n) :
  Ctr Tryz.prog 227 [.slice ad1 (dg n).length c1, .slice ad2 (dg m).length c2] [Row ad1 (List.map Qe (dg n)), Row ad2 (List.map Qe (dg m))] (Znu (n - m)) := by
 refine fn_intro func227 rfl ntmps227 nb ?_
 intro S w0 a hS h
 refine gC h (zS (za rfl (zn (zS (za rfl (zn (zS (za rfl (zn (zs (zS (za rfl (zn (zb ?_)))))))))))))); clear h; intro a w h
 refine Zi (fun (i : Nat) a w => ∃ k Z ad c o, i ≤ (dg n).length ∧ k ≤ 1 ∧ Z.length = i ∧ Dd Z ∧ Qi Z + m + 10000 ^ i * Qi ((dg n).drop i) = n + 10000 ^ i * (k + Qi ((dg m).drop i)) ∧ GrowO 1 3 (.slice ad Z.length c) Z.length (List.map Qe Z) o ∧ St 35 S w0 [(0, .slice ad1 ((dg n).length) c1), (1, .slice ad2 ((dg m).length) c2), (5, .slice ad Z.length c), (6, nI k), (7, nI i)] (o ++ []) [Row ad1 (List.map Qe (dg n)), Row ad2 (List.map Qe (dg m))] a w) (fun i => (dg n).length - i) (0) (⟨0, [], none, 0, [], Nat.zero_le _, oo, rfl, (fun x hx => by cases hx), by simp [Qi, Xm, Nat.add_comm], GrowO.nil _ _, by exact h.sub sA⟩) ?_; clear h
 rintro i a w ⟨k, Z, ad, c, o, hi, hk, hl, hw, hv, hG, h⟩
 have e1 := dlt n i
 have e2 := dlt m i
 refine gC h (zs (zS (zm rfl (zm rfl (zp (.builtin [_] rfl (Zq _ _ _)) (zp (.lss rfl rfl) (zn ?_))))))); clear h; intro a w h
 refine cW ?_
 refine Zb h rfl (fun hc12 => ?_) (fun hc12 => ?_)
 ·
  skip
  have hrun : i < (dg n).length := dT hc12
  obtain ⟨B_ad, O_ad, rfl⟩ := h.row_addr (ad := ad1) (M := List.map Qe (dg n)) mm nF
  refine gC h (zk (zs (zb (zs (yD Za [0, 1, 2, 3, 4, 5, 8, 6, 7, 9, 10] (Zf kk) (ym rfl rfl (ym rfl rfl (yp rfl (.indexAddr rfl rfl (Za4 _ _ _ _ _ oo)) ?_)))))))); clear h
  refine Qa rfl kk rfl mm (by rw [List.length_map]; omega) isAgg3 sizeOf3 (Zv (enc := Qe) (l := (dg n)) 0 oo) (.inr rfl) dd ?_
  refine ym rfl rfl (ym rfl rfl (ym rfl rfl (yw [_, _] rfl rfl call224 (Qbc _ _ (dg m) (i)) (yp rfl (.sub rfl rfl) (yp rfl (.sub rfl rfl) (yp rfl (.assign rfl) (yn (zS (za rfl (zn (zs (zS (zm rfl (zp (.lss rfl rfl) (zn ?_))))))))))))))); intro a w h
  refine cW ?_
  refine Zb h rfl (fun hc26 => ?_) (fun hc26 => ?_)
  ·
   skip
   have hneg := of_decide_eq_true hc26
   obtain ⟨d, hd⟩ : ∃ d : Nat, d + (dg m).getD i 0 + k = (dg n).getD i 0 + 10000 * 1 := ⟨(dg n).getD i 0 + 10000 - (dg m).getD i 0 - k, oo⟩
   have hd1 : d < 10000 := oo
   refine gC h (zS (zm rfl (zp (.pO d (.add rfl rfl)) (za rfl (zn (zr (za rfl (zn (zr (zm rfl (zp (Pure1.cast (v' := .int .i64 ((d : Nat) : Int)) (.move rfl) (by first | rfl | (show Value.int _ _ = Value.int _ _; congr 1; omega))) (zB [(_, _)] rfl (Zad _) fun b31 => ?_)))))))))))); clear h; intro a w h
   refine Zc (Yj (σr := []) h rfl rfl (List.Perm.trans (List.Perm.refl _) (List.Perm.cons _ (List.Perm.refl _))) hG runUnderlying160 runUnderlying160 typeInfo3 sizeOf3 zeroValue3 rfl dd dd rfl rfl dd (by show 8 * (2 * ((Z).length + 1) + 192) ≤ 281474976710656; omega) dd ?_); clear h
   intro v32 o32 a w hG32 h
   obtain ⟨ad32, c32, rfl⟩ := hG32.is
   have hLn32 : (Z).length + 1 = (Z ++ [d]).length := lA
   rw [hLn32] at h hG32
   replace hG32 : GrowO 1 3 (.slice ad32 (Z ++ [d]).length c32) (Z ++ [d]).length (List.map Qe (Z ++ [d])) o32 := by rw [List.map_append]; exact hG32
   refine gL h (za rfl (zn (zr (zm rfl (zp (.pN (i + 1) (.add rfl rfl)) (za rfl (zn ?_))))))); clear h; intro a w h
   exact ⟨i + 1, ⟨1, Z ++ [d], ad32, c32, o32, oo, by omega, by rw [List.length_append, hl]; rfl, hw.snoc hd1, Zl8 hl hd hv, hG32, by exact h.sub sA⟩, oo⟩
  ·
   skip
   have hneg := of_decide_eq_false hc26
   obtain ⟨d, hd⟩ : ∃ d : Nat, d + (dg m).getD i 0 + k = (dg n).getD i 0 + 10000 * 0 := ⟨(dg n).getD i 0 - (dg m).getD i 0 - k, oo⟩
   have hd1 : d < 10000 := oo
   refine gC h (zk (zr (zm rfl (zp (Pure1.cast (v' := .int .i64 ((d : Nat) : Int)) (.move rfl) (by first | rfl | (show Value.int _ _ = Value.int _ _; congr 1; omega))) (zB [(_, _)] rfl (Zad _) fun b31 => ?_))))); clear h; intro a w h
   refine Zc (Yj (σr := []) h rfl rfl (List.Perm.trans (List.Perm.refl _) (List.Perm.cons _ (List.Perm.refl _))) hG runUnderlying160 runUnderlying160 typeInfo3 sizeOf3 zeroValue3 rfl dd dd rfl rfl dd (by show 8 * (2 * ((Z).length + 1) + 192) ≤ 281474976710656; omega) dd ?_); clear h
   intro v32 o32 a w hG32 h
   obtain ⟨ad32, c32, rfl⟩ := hG32.is
   have hLn32 : (Z).length + 1 = (Z ++ [d]).length := lA
   rw [hLn32] at h hG32
   replace hG32 : GrowO 1 3 (.slice ad32 (Z ++ [d]).length c32) (Z ++ [d]).length (List.map Qe (Z ++ [d])) o32 := by rw [List.map_append]; exact hG32
   refine gL h (za rfl (zn (zr (zm rfl (zp (.pN (i + 1) (.add rfl rfl)) (za rfl (zn ?_))))))); clear h; intro a w h
   exact ⟨i + 1, ⟨0, Z ++ [d], ad32, c32, o32, oo, by omega, by rw [List.length_append, hl]; rfl, hw.snoc hd1, Zl8 hl hd hv, hG32, by exact h.sub sA⟩, oo⟩
 ·
  skip
  have hna : i = (dg n).length := dF hc12
  refine gC h (ze (zS (zm rfl ?_))); clear h; intro a w h
  replace h := h.shareO' hS hG
  have hZ : Qi Z = n - m := by rw [hna, drop_zero (Nat.le_refl _), drop_zero (Yg hle)] at hv; exact Qap hw (hl.trans hna) hle (by simpa using hv)
  refine gL h (zf [_] rfl call223 (Zj3 ad c Z hw hG.le oo) ?_); rintro v34 Ψ34 ht
  refine za rfl (zn (zt ?_)); intro a w h
  exact Zy h (Zd h rfl (.tmp rfl)) (trimmed ht hZ hw hG.le) (fun R hR => List.mem_append_left _ hR)
theorem Zq8 (n : Nat) : List.map Qe (List.replicate n 0) = Zco n (Value.cells (.int .i64 0)).toList := by
 rw [List.map_replicate]; unfold Zco
 induction n with
 | zero => rfl
 | succ n ih => rw [List.replicate_succ, List.replicate_succ, List.flatten_cons, ← ih]; rfl
theorem Zn1 (ad1 ad2 : Option Addr) (c1 c2 : Nat) (n m : Nat) (h1 : (dg n).length ≤ 1000000000000) (h2 : (dg m).length ≤ 1000000000000) :
  Ctr Tryz.prog 200 [.slice ad1 (dg n).length c1, .slice ad2 (dg m).length c2] [Row ad1 (List.map Qe (dg n)), Row ad2 (List.map Qe (dg m))] (Znu (n * m)) := by
 refine fn_intro func200 rfl ntmps200 nb ?_
 intro S w0 a hS h
 refine gC h (zS (za rfl (zn (zS (zm rfl (zp (.builtin [_] rfl (Zq _ _ _)) (zm rfl (zp (.builtin [_] rfl (Zq _ _ _)) (zp (.pN (((dg n).length) + ((dg m).length)) (.add rfl rfl)) ?_))))))))); clear h; intro a w h
 refine Zc (Jz h rfl rfl runUnderlying160 typeInfo3 sizeOf3 zeroValue3 rfl dd oo (by show 8 * (((dg n).length) + ((dg m).length)) ≤ 281474976710656; omega) oo dd ?_); clear h; intro b15 a w h; replace h := h.same rfl (by rw [← Zq8]) rfl
 refine gL h (za rfl (zn (zs (zS (za rfl (zn (zb ?_))))))); clear h; intro a w h
 refine Zi (fun (i : Nat) a w => i ≤ (dg n).length ∧ ∃ Z, (Z.length = (dg n).length + (dg m).length ∧ Dd Z ∧ Qi Z = Qi ((dg n).take i) * m) ∧ St 60 S w0 [(0, .slice ad1 ((dg n).length) c1), (1, .slice ad2 ((dg m).length) c2), (5, .slice (some ⟨b15, 0, none⟩) (((dg n).length) + ((dg m).length)) (((dg n).length) + ((dg m).length))), (6, nI i)] [(b15, .cells (List.map Qe (Z)).toArray 3 (0, 0))] [Row ad1 (List.map Qe (dg n)), Row ad2 (List.map Qe (dg m))] a w) (fun i => (dg n).length - i) 0 (⟨Nat.zero_le _, List.replicate _ 0, ⟨by rw [List.length_replicate], Dd.zeros _, by rw [Zfi _ (fun x hx => List.eq_of_mem_replicate hx)]; simp [Qi]⟩, by exact (h).sub sA⟩) ?_; clear h
 rintro i a w ⟨hi_i, Z, ⟨hl, hw, hv⟩, h⟩
 refine gC h (zs (zS (zm rfl (zm rfl (zp (.builtin [_] rfl (Zq _ _ _)) (zp (.lss rfl rfl) (zn ?_))))))); clear h; intro a w h
 refine cW ?_
 refine Zb h rfl (fun hc19 => ?_) (fun hc19 => ?_)
 ·
  skip
  have hlt_i : i < (dg n).length := dT hc19
  obtain ⟨B_ad1, O_ad1, rfl⟩ := h.row_addr (ad := ad1) (M := List.map Qe (dg n)) mm nF
  refine gC h (zk (zs (zb (zS (za rfl (zn (zS (za rfl (zn (zb ?_)))))))))); clear h; intro a w h
  refine Zi (fun (k : Nat) a w => ∃ c Z, (k ≤ (dg m).length + 1 ∧ c < 10000 ∧ (k = (dg m).length + 1 → c = 0) ∧ (k ≤ (dg m).length → Z.getD (i + (dg m).length) 0 = 0) ∧ Z.length = (dg n).length + (dg m).length ∧ Dd Z ∧ Qi Z + 10000 ^ (i + k) * c + 10000 ^ (i + k) * ((dg n).getD i 0 * Qi ((dg m).drop k)) = Qi ((dg n).take i) * m + 10000 ^ i * ((dg n).getD i 0 * m)) ∧ St 60 S w0 [(0, .slice (some ⟨B_ad1, O_ad1, none⟩) ((dg n).length) c1), (1, .slice ad2 ((dg m).length) c2), (5, .slice (some ⟨b15, 0, none⟩) (((dg n).length) + ((dg m).length)) (((dg n).length) + ((dg m).length))), (6, nI i), (7, nI c), (8, nI k)] [(b15, .cells (List.map Qe (Z)).toArray 3 (0, 0))] [Row (some ⟨B_ad1, O_ad1, none⟩) (List.map Qe (dg n)), Row ad2 (List.map Qe (dg m))] a w) (fun k => (dg m).length + 1 - k) (0) (⟨0, Z, ⟨Nat.zero_le _, by decide, fun _ => rfl, fun _ => Zh9 (Dd.dg n) (Dd.dg m) (by rw [Xm]; exact hv) (Nat.le_refl _), hl, hw, by rw [hv]; simp [Xm]⟩, by exact h.sub sA⟩) ?_; clear h
  rintro k a w ⟨c, Z, ⟨hk, hc, hkc, hz, hl, hw, hv⟩, h⟩
  have e1 := dlt n i
  have e2 := dlt m k
  have hab : (dg n).getD i 0 * (dg m).getD k 0 ≤ 9999 * 9999 := Nat.mul_le_mul oo oo
  have e3 := hw.getD (i + k)
  refine gC h (zs (zS (zm rfl (zm rfl (zp (.builtin [_] rfl (Zq _ _ _)) (zp (.lss rfl rfl) ?_)))))); clear h; intro a w h
  refine Zg h (fun hc25 h => ?_) (fun hc25 h => ?_)
  focus
   have hrun : k ≤ (dg m).length := dT hc25
   refine gL h (zm rfl (zo 26 rfl rfl rfl (zo 26 rfl rfl rfl (zp (.pickT rfl rfl) (zn ?_))))); clear h; intro a w h
  rotate_left
  focus
   have hnb : (dg m).length ≤ k := dF hc25
   refine gL h (zm rfl (zq 26 rfl rfl (.move rfl) (zq 26 rfl rfl (.gtr rfl rfl) ?_))); clear h; intro a w h
   refine Zg h (fun hc28 h => ?_) (fun hc28 h => ?_)
   rotate_left
   ·
    skip
    have hk0 : c = 0 := dF hc28
    refine gL h (zp (.pickF rfl rfl) (zn ?_)); clear h; intro a w h
    refine cW ?_
    refine Ze h rfl ?_
    refine gC h (ze (zr (zm rfl (zp (.pN (i + 1) (.add rfl rfl)) (za rfl (zn ?_)))))); clear h; intro a w h
    exact ⟨i + 1, ⟨oo, Z, ⟨hl, hw, by rw [hk0, drop_zero hnb] at hv; rw [Zhe _ _ hlt_i, Nat.add_mul, Nat.mul_assoc, ← hv]; simp⟩, by exact (h.factsSub (by simp)).sub sA⟩, oo⟩
   have hrun : k ≤ (dg m).length := dT hc28
   refine gL h (zp (.pickF rfl rfl) (zn ?_)); clear h; intro a w h
  all_goals
   refine cW ?_
   refine Zj h rfl ?_
   refine gC h (zk (zs (zb (zs (yD Za [0, 1, 2, 3, 4, 5, 6, 7, 8, 9, 10, 11, 15, 12, 13, 14, 16, 17] (Zf kk) (ym rfl rfl (ym rfl rfl (ym rfl rfl (yp rfl (.pN (i + k) (.add rfl rfl)) (yp rfl (.indexAddr rfl rfl (Za4 _ _ _ _ _ oo)) (yd rfl rfl mm isAgg3 sizeOf3 ((congrArg _ (Nat.zero_add _)).trans (Zv (enc := Qe) (l := Z) 0 oo)) ?_))))))))))); clear h
   refine ym rfl rfl (ym rfl rfl (yp rfl (.indexAddr rfl rfl (Za4 _ _ _ _ _ oo)) ?_))
   refine Qa rfl kk rfl mm (by rw [List.length_map]; omega) isAgg3 sizeOf3 (Zv (enc := Qe) (l := (dg n)) 0 oo) (.inr rfl) dd ?_
   refine ym rfl rfl (ym rfl rfl (ym rfl rfl (yw [_, _] rfl rfl call224 (Qbc _ _ (dg m) (k)) (yp rfl (.pN (((dg n).getD i 0) * ((dg m).getD k 0)) (.mul rfl rfl)) (yp rfl (.pN ((Z.getD (i + k) 0) + (((dg n).getD i 0) * ((dg m).getD k 0))) (.add rfl rfl)) (yp rfl (.pO (c + ((dg n).getD i 0 * (dg m).getD k 0 + Z.getD (i + k) 0)) (Pure1.cast (v' := (.int .i64 ((((Z.getD (i + k) 0) + (((dg n).getD i 0) * ((dg m).getD k 0))) + c : Nat) : Int))) (.add rfl rfl) (by show Value.int _ _ = Value.int _ _; congr 1))) (yp rfl (.assign rfl) (yn (zS (zm rfl (zm rfl (zm rfl (zp (.pN (i + k) (.add rfl rfl)) (zm rfl (zp (Pure1.cast (v' := .int .i64 (((c + ((dg n).getD i 0 * (dg m).getD k 0 + Z.getD (i + k) 0)) % 10000 : Nat) : Int)) (.binOp rfl rfl (fun _ => Zai _ _ _ _ _ dd)) (by rw [show (10000 : Int) = ((10000 : Nat) : Int) from rfl, Kd])) (zp (.indexAddr rfl rfl (Za4 _ _ _ _ _ oo)) (zt' rfl rfl ((congrArg (fun z => Qq _ z _) (Nat.zero_add _)).trans (Yl (enc := Qe) Z (i + k) ((c + ((dg n).getD i 0 * (dg m).getD k 0 + Z.getD (i + k) 0)) % 10000))) uu sizeOf3 rfl (by simp; omega) rfl ?_)))))))))))))))))
   refine zn (zr (zm rfl (zp (Pure1.cast (v' := .int .i64 (((c + ((dg n).getD i 0 * (dg m).getD k 0 + Z.getD (i + k) 0)) / 10000 : Nat) : Int)) (.binOp rfl rfl (fun _ => Vl _ _ _ _ _ dd)) (by rw [show (10000 : Int) = ((10000 : Nat) : Int) from rfl, Yc, wrap_i64 _ oo oo])) (za rfl (zn (zr (zm rfl (zp (.pN (k + 1) (.add rfl rfl)) (za rfl (zn ?_)))))))))); intro a w h
   exact ⟨k + 1, ⟨(c + ((dg n).getD i 0 * (dg m).getD k 0 + Z.getD (i + k) 0)) / 10000, Z.set (i + k) ((c + ((dg n).getD i 0 * (dg m).getD k 0 + Z.getD (i + k) 0)) % 10000), ⟨oo, oo, (by intro hx; have hkl : k = (dg m).length := oo; rw [Km (l := dg m) oo, hkl, hz oo]; omega), (by intro hx; rw [Zew oo]; exact hz oo), by rw [List.length_set]; exact hl, hw.set _ _ (Nat.mod_lt _ dd), Zw2 oo hv⟩, by exact h.sub sA⟩, oo⟩
 ·
  skip
  have heq_i : (dg n).length = i := dF hc19
  subst heq_i
  refine gC h (ze (zS (zm rfl ?_))); clear h; intro a w h
  rw [← hl] at h
  replace h := h.shareAll hS (List.map Qe Z) rfl
  have hZ : Qi Z = n * m := by rw [List.take_length, Xm] at hv; exact hv
  refine gL h (zf [_] rfl call223 (Zj3 (some ⟨b15, 0, none⟩) Z.length Z hw (Nat.le_refl _) oo) ?_); rintro v59 Ψ59 ht
  refine za rfl (zn (zt ?_)); intro a w h
  exact Zy h (Zd h rfl (.tmp rfl)) (trimmed ht hZ hw (Nat.le_refl _)) (fun R hR => List.mem_append_left _ hR)
theorem Zj5 (ad1 ad2 : Option Addr) (c1 c2 : Nat) (n m : Nat) (h1 : (dg n).length ≤ 1000000000000) (h2 : (dg m).length ≤ 1000000000000) :
  Gn Tryz.prog 191 [.slice ad1 (dg n).length c1, .slice ad2 (dg m).length c2] [Row ad1 (List.map Qe (dg n)), Row ad2 (List.map Qe (dg m))] (.int .i64 (Ze7 n m)) := by
 refine fn_intro func191 rfl ntmps191 nb ?_
 intro S w0 a hS h
 refine gC h (zS (za rfl (zn (zs (zS (zm rfl (zp (.builtin [_] rfl (Zq _ _ _)) (zm rfl (zp (.builtin [_] rfl (Zq _ _ _)) (zp (.lss rfl rfl) (zn ?_))))))))))); clear h; intro a w h
 refine cW ?_
 refine Zb h rfl (fun hc10 => ?_) (fun hc10 => ?_)
 ·
  skip
  have hl1 : (dg n).length < (dg m).length := dT hc10
  refine gC h (zS (za rfl (zn (zt ?_)))); clear h; intro a w h
  refine Jk h (Zd h rfl (.tmp rfl)) ?_
  unfold Ze7; rw [if_pos (Zic hl1)]
 ·
  skip
  have hl1 : (dg m).length ≤ (dg n).length := dF hc10
  refine gC h (zk (zs (zS (zm rfl (zp (.builtin [_] rfl (Zq _ _ _)) (zm rfl (zp (.builtin [_] rfl (Zq _ _ _)) (zp (.gtr rfl rfl) (zn ?_))))))))); clear h; intro a w h
  refine cW ?_
  refine Zb h rfl (fun hc15 => ?_) (fun hc15 => ?_)
  ·
   skip
   have hl2 : (dg m).length < (dg n).length := dT hc15
   refine gC h (zS (za rfl (zn (zt ?_)))); clear h; intro a w h
   refine Jk h (Zd h rfl (.tmp rfl)) ?_
   have h3 := Zic hl2; unfold Ze7; rw [if_neg oo, if_pos h3]
  ·
   skip
   have hl : (dg n).length = (dg m).length := dF hc15
   refine gC h (zk (zs (zS (zm rfl (zp (.builtin [_] rfl (Zq _ _ _)) (zp (.sub rfl rfl) (za rfl (zn (zb ?_))))))))); clear h; intro a w h
   refine Zi (fun (k : Nat) a w => (k ≤ (dg n).length ∧ (dg n).drop k = (dg m).drop k) ∧ St 41 S w0 [(0, .slice ad1 ((dg n).length) c1), (1, .slice ad2 ((dg m).length) c2), (5, .int .i64 (((k : Nat) : Int) - 1)), (18, .int .i64 (((((dg n).length : Nat) : Int)) - 1))] [] [Row ad1 (List.map Qe (dg n)), Row ad2 (List.map Qe (dg m))] a w) (fun k => k) ((dg n).length) (⟨⟨Nat.le_refl _, by rw [List.drop_eq_nil_of_le (Nat.le_refl _), List.drop_eq_nil_of_le (Nat.le_of_eq hl.symm)]⟩, by exact h.sub sA⟩) ?_; clear h
   rintro k a w ⟨⟨hN, hd⟩, h⟩
   refine gC h (zs (zS (zm rfl (zp (.geq rfl rfl) (zn ?_))))); clear h; intro a w h
   refine cW ?_
   refine Zb h rfl (fun hc20 => ?_) (fun hc20 => ?_)
   ·
    skip
    have hk : 1 ≤ k := dT hc20
    obtain ⟨B_ad1, O_ad1, rfl⟩ := h.row_addr (ad := ad1) (M := List.map Qe (dg n)) mm nF
    obtain ⟨B_ad2, O_ad2, rfl⟩ := h.row_addr (ad := ad2) (M := List.map Qe (dg m)) mm nF
    refine gC h (zk (zs (zb (zs (zs (yD Za [0, 1, 2, 3, 4, 5, 6, 7, 8] (Zf kk) (ym rfl rfl (yp rfl (.pO (k - 1) (.move rfl)) (yp rfl (.indexAddr rfl rfl (Za4 _ _ _ _ _ oo)) ?_))))))))); clear h
    refine Qa rfl kk rfl mm (by rw [List.length_map]; omega) isAgg3 sizeOf3 (Zv (enc := Qe) (l := (dg n)) 0 oo) (.inr rfl) dd ?_
    refine ym rfl rfl (yp rfl (.pO (k - 1) (.move rfl)) (yp rfl (.indexAddr rfl rfl (Za4 _ _ _ _ _ oo)) ?_))
    refine Qa rfl kk rfl mm (by rw [List.length_map]; omega) isAgg3 sizeOf3 (Zv (enc := Qe) (l := (dg m)) 0 oo) (.inr rfl) dd ?_
    refine yp rfl (.lss rfl rfl) (yn ?_); intro a w h
    refine cW ?_
    refine Zb h rfl (fun hc31 => ?_) (fun hc31 => ?_)
    ·
     skip
     have hlt : (dg n).getD (k - 1) 0 < (dg m).getD (k - 1) 0 := dT hc31
     refine gC h (zS (za rfl (zn (zt ?_)))); clear h; intro a w h
     refine Jk h (Zd h rfl (.tmp rfl)) ?_
     have h3 := Zp6 (Dd.dg n) (Dd.dg m) hlt (by rw [Nat.sub_add_cancel hk]; exact hd)
     rw [Xm, Xm] at h3
     unfold Ze7; rw [if_pos h3]
    ·
     skip
     have hge : (dg m).getD (k - 1) 0 ≤ (dg n).getD (k - 1) 0 := dF hc31
     refine gC h (zk (zs (yD Za [0, 1, 2, 3, 4, 5, 6, 7, 8] (Zf kk) (ym rfl rfl (yp rfl (.pO (k - 1) (.move rfl)) (yp rfl (.indexAddr rfl rfl (Za4 _ _ _ _ _ oo)) ?_)))))); clear h
     refine Qa rfl kk rfl mm (by rw [List.length_map]; omega) isAgg3 sizeOf3 (Zv (enc := Qe) (l := (dg n)) 0 oo) (.inr rfl) dd ?_
     refine ym rfl rfl (yp rfl (.pO (k - 1) (.move rfl)) (yp rfl (.indexAddr rfl rfl (Za4 _ _ _ _ _ oo)) ?_))
     refine Qa rfl kk rfl mm (by rw [List.length_map]; omega) isAgg3 sizeOf3 (Zv (enc := Qe) (l := (dg m)) 0 oo) (.inr rfl) dd ?_
     refine yp rfl (.gtr rfl rfl) (yn ?_); intro a w h
     refine cW ?_
     refine Zb h rfl (fun hc40 => ?_) (fun hc40 => ?_)
     ·
      skip
      have hlt : (dg m).getD (k - 1) 0 < (dg n).getD (k - 1) 0 := dT hc40
      refine gC h (zS (za rfl (zn (zt ?_)))); clear h; intro a w h
      refine Jk h (Zd h rfl (.tmp rfl)) ?_
      have h3 := Zp6 (Dd.dg m) (Dd.dg n) hlt (by rw [Nat.sub_add_cancel hk]; exact hd.symm)
      rw [Xm, Xm] at h3
      unfold Ze7; rw [if_neg oo, if_pos h3]
     ·
      skip
      have he : (dg n).getD (k - 1) 0 = (dg m).getD (k - 1) 0 := dF hc40
      refine gC h (zk (zr (zm rfl (zp (Pure1.cast (v' := .int .i64 (((k - 1 : Nat) : Int) - 1)) (.sub rfl rfl) (by show Value.int _ _ = Value.int _ _; congr 1; omega)) (za rfl (zn ?_)))))); clear h; intro a w h
      exact ⟨k - 1, ⟨⟨oo, drop_step hl oo he (by rw [Nat.sub_add_cancel hk]; exact hd)⟩, by exact (h.factsSub (by simp)).sub sA⟩, oo⟩
   ·
    skip
    have hk : k = 0 := dF hc20
    refine gC h (ze (zS (za rfl (zn (zt ?_))))); clear h; intro a w h
    refine Jk h (Zd h rfl (.tmp rfl)) ?_
    subst hk
    have e : n = m := by rw [← Xm n, ← Xm m]; simp at hd; rw [hd]
    unfold Ze7; rw [if_neg oo, if_neg oo]
theorem Zj8 (n f j : Nat) (hlen : (dg n).length ≤ f + 4) (hj : f ≤ j) : Qi ((dg n).drop j) < 10000000000000000 := by
 have h1 := Zb3 ((Dd.dg n).drop j)
 rw [List.length_drop] at h1
 have h2 : 10000 ^ ((dg n).length - j) ≤ 10000 ^ 4 := Nat.pow_le_pow_right dd oo
 exact Nat.lt_of_lt_of_le h1 h2
theorem Zyb (ad1 : Option Addr) (c1 : Nat) (n f : Nat) (h1 : (dg n).length ≤ 1000000000000) (hlen : (dg n).length ≤ f + 4) (hf : f ≤ 1000000000000) :
  Gn Tryz.prog 233 [.slice ad1 (dg n).length c1, .int .i64 ((f : Nat) : Int)] [Row ad1 (List.map Qe (dg n))] (.int .i64 ((Qi ((dg n).drop f) : Nat) : Int)) := by
 refine fn_intro func233 rfl ntmps233 nb ?_
 intro S w0 a hS h
 refine gC h (zS (za rfl (zn (zS (za rfl (zn (zs (zS (zm rfl (zp (.builtin [_] rfl (Zq _ _ _)) (zp (.sub rfl rfl) (za rfl (zn (zb ?_)))))))))))))); clear h; intro a w h
 have hz : Qi ((dg n).drop (dg n).length) = 0 := drop_zero (Nat.le_refl _)
 replace h := h.sub (L' := [(0, .slice ad1 (dg n).length c1), (1, nI f), (5, nI (Qi ((dg n).drop (dg n).length))), (6, .int .i64 (((dg n).length : Nat) - 1 : Int))]) (Zfn ⟨rfl, rfl, by rw [hz]; rfl, rfl, trivial⟩)
 refine Zi (fun (k : Nat) a w => (k ≤ (dg n).length ∧ (f ≤ k ∨ k = (dg n).length)) ∧ St 23 S w0 [(0, .slice ad1 ((dg n).length) c1), (1, nI f), (5, nI (Qi ((dg n).drop k))), (6, .int .i64 (((k : Nat) : Int) - 1))] [] [Row ad1 (List.map Qe (dg n))] a w) (fun k => k) ((dg n).length) (⟨⟨Nat.le_refl _, .inr rfl⟩, by exact h.sub sA⟩) ?_; clear h
 rintro k a w ⟨⟨hN, hd⟩, h⟩
 refine gC h (zs (zS (zm rfl (zm rfl (zp (.geq rfl rfl) (zn ?_)))))); clear h; intro a w h
 refine cW ?_
 refine Zb h rfl (fun hc12 => ?_) (fun hc12 => ?_)
 ·
  skip
  have hk : f + 1 ≤ k := dT hc12
  obtain ⟨B_ad1, O_ad1, rfl⟩ := h.row_addr (ad := ad1) (M := List.map Qe (dg n)) mm nF
  have e1 := dlt n (k - 1)
  have e2 := Zj8 n f (k - 1) hlen oo
  have e3 : Qi ((dg n).drop (k - 1)) = (dg n).getD (k - 1) 0 + 10000 * Qi ((dg n).drop k) := by rw [Vz, Nat.sub_add_cancel oo]
  refine gC h (zk (zs (zb (zr (zm rfl (zp (.pN (10000 * (Qi ((dg n).drop k))) (.mul rfl rfl)) (zm rfl (zp (.pO (k - 1) (.move rfl)) (zp (.indexAddr rfl rfl (Za4 _ _ _ _ _ oo)) (zD rfl mm (by rw [List.length_map]; omega) isAgg3 sizeOf3 (Zv (enc := Qe) (l := (dg n)) 0 oo) (.inr rfl) ?_))))))))))
  refine zp (.pO (Qi ((dg n).drop (k - 1))) (Pure1.cast (v' := (.int .i64 (((10000 * (Qi ((dg n).drop k))) + ((dg n).getD (k - 1) 0) : Nat) : Int))) (.add rfl rfl) (by show Value.int _ _ = Value.int _ _; congr 1))) (za rfl (zn (zr (zm rfl (zp (Pure1.cast (v' := .int .i64 (((k - 1 : Nat) : Int) - 1)) (.sub rfl rfl) (by show Value.int _ _ = Value.int _ _; congr 1; omega)) (za rfl (zn ?_))))))); intro a w h
  exact ⟨k - 1, ⟨⟨oo, .inl oo⟩, by exact (h.factsSub (by simp)).sub sA⟩, oo⟩
 ·
  skip
  have hk : k ≤ f := dF hc12
  refine gC h (ze (zS (zm rfl (za rfl (zn (zt ?_)))))); clear h; intro a w h
  refine Jk h (Zd h rfl (.tmp rfl)) ?_
  have e : Qi ((dg n).drop f) = Qi ((dg n).drop k) := by
   rcases hd with hd | hd
   · rw [show k = f by omega]
   · rw [drop_zero oo, drop_zero oo]
  rw [e]
end
section
theorem Zxl (w : World) : (Instr.buildSlice 160 0 [].toArray).run Tryz.prog w = .ok (.slice (some ⟨w.heap.size, 0, none⟩) 0 0) (w.alloc (.cells #[] 3 (0, 0))) := by
 simp [go_sem]
theorem Qdh (b off n c lo : Nat) (h1 : lo ≤ n) (w : World) : (Instr.sliceAt 160 (.slice (some ⟨b, off, none⟩) n c) (some (.int .i64 (lo : Int))) none none).run Tryz.prog w = .ok (.slice (some ⟨b, if c = lo then off else off + lo * 1, none⟩) (n - lo) (c - lo)) w := Zhk runUnderlying160 sizeOf3 b off n c lo h1 w
theorem Zxa (x : Int) (w : World) : (Go.convert 3 45 (.int .i64 x)).run Tryz.prog w = .ok (.int .u64 (IntKind.u64.wrap x)) w := by
 simp [go_sem]
theorem Zrx (x : Int) (h0 : IntKind.u64.wrap x = x) (w : World) : (Go.convert 3 45 (.int .i64 x)).run Tryz.prog w = .ok (.int .u64 x) w := by
 rw [Zxa, h0]
theorem dg5 (n : Nat) (h : n < 18446744073709551616) : (dg n).length ≤ 5 := Vf (Nat.lt_trans h dd)
theorem Zk4 : ∀ l : List Nat, (List.map Qe l).all flat = true
 | [] => rfl
 | x :: l => by rw [List.map_cons, List.all_cons, Zk4 l]; rfl
theorem Zxg {x y : Nat} : Ze7 x y ≤ 0 ↔ x ≤ y := by
 unfold Ze7
 split
 · omega
 · split <;> omega
def Qcj (p q : Nat) (v : Value) (Ψ : List Zp) : Prop := ∃ ad c ad' c', v = .tuple #[.slice ad (dg p).length c, .slice ad' (dg q).length c'] ∧ (dg p).length ≤ c ∧ (dg q).length ≤ c' ∧ Ψ = [Row ad (List.map Qe (dg p)), Row ad' (List.map Qe (dg q))]
theorem Zyc (ad1 ad2 : Option Addr) (c1 c2 : Nat) (n m : Nat) (h1 : (dg n).length ≤ 300000000000) (h2 : (dg m).length ≤ 300000000000) (hm : m ≠ 0) (hc1 : (dg n).length ≤ c1) :
  Ctr Tryz.prog 226 [.slice ad1 (dg n).length c1, .slice ad2 (dg m).length c2] [Row ad1 (List.map Qe (dg n)), Row ad2 (List.map Qe (dg m))] (Qcj (n / m) (n % m)) := by
 have hlb : 0 < (dg m).length := List.length_pos_iff.2 (fun e => hm (Zne.1 e))
 have hm0 : 0 < m := Nat.pos_of_ne_zero hm
 refine fn_intro func226 rfl ntmps226 nb ?_
 intro S w0 a hS h
 refine gC h (zS (za rfl (za rfl (zn (zs (zS (zm rfl (zm rfl (zw [_, _] rfl call191 (Zj5 _ _ _ _ n m oo oo) (zp (.lss rfl rfl) (zn ?_))))))))))); clear h; intro a w h
 refine cW ?_
 refine Zb h rfl (fun hc18 => ?_) (fun hc18 => ?_)
 ·
  skip
  have hlt : n < m := by
   have h3 := of_decide_eq_true hc18
   unfold Ze7 at h3; split at h3
   · assumption
   · split at h3 <;> omega
  refine gC h (zS (zm rfl (za rfl (za rfl (zn (zt ?_)))))); clear h; intro a w h
  have e1 : n / m = 0 := Nat.div_eq_of_lt hlt
  have e2 : n % m = n := Nat.mod_eq_of_lt hlt
  have e3 : Qcj (n / m) (n % m) (.tuple #[.slice none 0 0, .slice ad1 (dg n).length c1]) [Row none [], Row ad1 (List.map Qe (dg n))] := by rw [e1, e2]; exact ⟨none, 0, ad1, c1, by rw [Qv]; rfl, by rw [Qv]; exact Nat.le_refl _, hc1, by rw [Qv]; rfl⟩
  replace h := h.derive (R := Row none []) (fun X hX hne => absurd rfl hne)
  exact Zy h (Ql h rfl (.tmp rfl) (.tmp rfl)) e3 ss
 ·
  skip
  have hle : m ≤ n := by
   have h3 := of_decide_eq_false hc18
   unfold Ze7 at h3; split at h3
   · omega
   · omega
  have hll := Yg hle
  obtain ⟨B_ad1, O_ad1, rfl⟩ := h.row_addr (ad := ad1) (M := List.map Qe (dg n)) mm nF
  refine gC h (zk (zS (zm rfl (zp (.builtin [_] rfl (Zq _ _ _)) (zp (.sub rfl rfl) (zp (.pO (((dg m).length - 3)) (.builtin [_, _] rfl (fun w ty cs => Qce _ _ w ty cs))) (za rfl (zn (zS (zm rfl (zm rfl (zw [_, _] rfl call233 (Zyb _ _ m ((dg m).length - 3) oo oo oo) (za rfl (zn (zS (zm rfl (zp (.builtin [_] rfl (Zq _ _ _)) (zm rfl (zp (.builtin [_] rfl (Zq _ _ _)) (zp (Pure1.cast (v' := .int .i64 (((((dg n).length - (dg m).length) + 1 : Nat) : Int) - 1)) (.sub rfl rfl) (by show Value.int _ _ = Value.int _ _; congr 1; omega)) (za rfl (zn (zS (zm rfl (zp (.pO (((dg n).length - (dg m).length) + 1) (.add rfl rfl)) ?_))))))))))))))))))))))))); clear h; intro a w h
  refine Zc (Jz h rfl rfl runUnderlying160 typeInfo3 sizeOf3 zeroValue3 rfl dd (by exact Nat.le_refl _) (by show 8 * (((dg n).length - (dg m).length) + 1) ≤ 281474976710656; omega) oo dd ?_); clear h; intro b34 a w h; replace h := h.same rfl (by rw [← Zq8]) rfl
  refine gL h (za rfl (zn (zS (zB [] rfl (Zxl) fun b35 => zm rfl (zm rfl (zp (.pO (((dg n).length - (dg m).length) + 1) (.add rfl rfl)) (zp (.slice rfl (some _) none none rfl rfl rfl (Qdh _ _ _ _ _ oo)) ?_))))))); clear h; intro a w h
  replace h := h.derive (R := Row (some ⟨B_ad1, if c1 = ((dg n).length - (dg m).length) + 1 then O_ad1 else O_ad1 + (((dg n).length - (dg m).length) + 1) * 1, none⟩) ((List.map Qe (dg n)).drop (((dg n).length - (dg m).length) + 1))) (fun X hX => row_drop (hX _ mm) (by rw [List.length_map]; exact hc1))
  rw [← List.map_drop, Zla n (((dg n).length - (dg m).length) + 1)] at h
  have hlr : (dg (n / 10000 ^ (((dg n).length - (dg m).length) + 1))).length = (dg n).length - (((dg n).length - (dg m).length) + 1) := by rw [← Zla, List.length_drop]
  rw [← hlr] at h
  refine Zc (Zgc (b := b35) (xs := []) (ys := List.map Qe (dg (n / 10000 ^ (((dg n).length - (dg m).length) + 1)))) (ad2 := some ⟨B_ad1, if c1 = ((dg n).length - (dg m).length) + 1 then O_ad1 else O_ad1 + (((dg n).length - (dg m).length) + 1) * 1, none⟩) (k := 1) h rfl rfl mm rfl runUnderlying160 runUnderlying160 typeInfo3 sizeOf3 zeroValue3 rfl dd dd (by rw [List.length_map, Nat.mul_one]) (Zk4 _) (by show 8 * (2 * _ + 192) ≤ 281474976710656; omega) dd ?_); clear h; intro v40 o40 a w hG40 h
  obtain ⟨ad40, c40, rfl⟩ := hG40.is
  have hle40 := hG40.le
  replace h := h.shareO' hS hG40
  replace h := h.same (Φ' := Row ad40 (List.map Qe (dg (n / 10000 ^ (((dg n).length - (dg m).length) + 1)))) :: _) rfl rfl rfl
  have hr0 : n / 10000 ^ (((dg n).length - (dg m).length) + 1) < m := Zic oo
  have hr1 : n / 10000 ^ (((dg n).length - (dg m).length) + 1) % m = n / 10000 ^ (((dg n).length - (dg m).length) + 1) := Nat.mod_eq_of_lt hr0
  rw [Nat.zero_add (dg (n / 10000 ^ (((dg n).length - (dg m).length) + 1))).length, ← hr1] at h
  rw [Nat.zero_add (dg (n / 10000 ^ (((dg n).length - (dg m).length) + 1))).length, ← hr1] at hle40
  refine gL h (za rfl (zn (zs (zb ?_)))); clear h; intro a w h
  refine Zi (fun (k : Nat) a w => ∃ Z ad c, (k ≤ ((dg n).length - (dg m).length) + 1 ∧ Z.length = ((dg n).length - (dg m).length) + 1 ∧ Dd Z ∧ Qi (Z.drop k) = n / 10000 ^ k / m ∧ (dg (n / 10000 ^ k % m)).length ≤ c) ∧ St 97 S w0 [(0, .slice (some ⟨B_ad1, O_ad1, none⟩) ((dg n).length) c1), (1, .slice ad2 ((dg m).length) c2), (6, nI ((dg m).length - 3)), (7, nI (Qi ((dg m).drop ((dg m).length - 3)))), (8, .int .i64 (((k : Nat) : Int) - 1)), (9, .slice (some ⟨b34, 0, none⟩) (((dg n).length - (dg m).length) + 1) (((dg n).length - (dg m).length) + 1)), (10, .slice ad ((dg (n / 10000 ^ k % m)).length) c)] [(b34, .cells (List.map Qe (Z)).toArray 3 (0, 0))] [Row (some ⟨B_ad1, O_ad1, none⟩) (List.map Qe (dg n)), Row ad2 (List.map Qe (dg m)), Row ad (List.map Qe (dg (n / 10000 ^ k % m)))] a w) (fun k => k) ((((dg n).length - (dg m).length) + 1)) (⟨List.replicate _ 0, ad40, c40, ⟨Nat.le_refl _, List.length_replicate, Dd.zeros _, by rw [List.drop_eq_nil_of_le (by rw [List.length_replicate]; exact Nat.le_refl _), Nat.div_eq_of_lt hr0]; rfl, hle40⟩, by exact (h.factsSub (by simp)).sub (Zfn ⟨rfl, rfl, rfl, rfl, rfl, rfl, rfl, trivial⟩)⟩) ?_; clear h
  rintro k a w ⟨Z, ad, c, ⟨hK, hZl, hZw, hZv, hlc⟩, h⟩
  have hrl := Yg (Nat.le_of_lt (Nat.mod_lt (n / 10000 ^ k) hm0))
  refine gC h (zs (zS (zm rfl (zp (.geq rfl rfl) (zn ?_))))); clear h; intro a w h
  refine cW ?_
  refine Zb h rfl (fun hc42 => ?_) (fun hc42 => ?_)
  ·
   skip
   have hk : 1 ≤ k := dT hc42
   refine gC h (zk (zs (zb (zS (zm rfl (zp (.pO (k - 1) (.move rfl)) (zp (.indexAddr rfl rfl (Za4 _ _ _ _ _ oo)) (zD rfl mm (by rw [List.length_map]; omega) isAgg3 sizeOf3 (Zv (enc := Qe) (l := (dg n)) 0 oo) (.inr rfl) ?_))))))))
   refine zB [(_, _)] rfl (Zad _) fun b49 => zm rfl ?_; intro a w h
   refine Zc (Zgc (b := b49) (xs := [Qe ((dg n).getD (k - 1) 0)]) (ys := List.map Qe (dg (n / 10000 ^ k % m))) (ad2 := ad) (k := 1) h rfl rfl mm rfl runUnderlying160 runUnderlying160 typeInfo3 sizeOf3 zeroValue3 rfl dd dd (by rw [List.length_map, Nat.mul_one]) (Zk4 _) (by show 8 * (2 * _ + 192) ≤ 281474976710656; omega) dd ?_); clear h; intro v51 o51 a w hG51 h
   obtain ⟨ad51, c51, rfl⟩ := hG51.is
   have hle51 := hG51.le
   replace h := h.shareO' hS hG51
   replace h := h.same (Φ' := Row ad51 (List.map Qe ((dg n).getD (k - 1) 0 :: dg (n / 10000 ^ k % m))) :: _) rfl rfl rfl
   rw [show 1 + (dg (n / 10000 ^ k % m)).length = ((dg n).getD (k - 1) 0 :: dg (n / 10000 ^ k % m)).length from Nat.add_comm _ _] at h hle51
   have hwd : Dd ((dg n).getD (k - 1) 0 :: dg (n / 10000 ^ k % m)) := by
    intro x hx
    rcases List.mem_cons.1 hx with rfl | hx
    · exact dlt _ _
    · exact Dd.dg _ x hx
   refine gL h (zf [_] rfl call223 (Zj3 ad51 c51 ((dg n).getD (k - 1) 0 :: dg (n / 10000 ^ k % m)) hwd hle51 (by simp only [List.length_cons]; omega)) ?_); clear h; rintro v52 Ψ52 ⟨rfl, rfl⟩ a w h
   obtain ⟨R, hR⟩ : ∃ R, R = (dg n).getD (k - 1) 0 + 10000 * (n / 10000 ^ k % m) := ⟨_, rfl⟩
   rw [show Qi ((dg n).getD (k - 1) 0 :: dg (n / 10000 ^ k % m)) = R from by rw [hR, Qi, Xm]] at h
   have hkk : k - 1 + 1 = k := oo
   have hR' : R = (dg n).getD (k - 1) 0 + 10000 * (n / 10000 ^ (k - 1 + 1) % m) := by rw [hkk]; exact hR
   have hRm : R < 10000 * m := Qdv hR (dlt n _) (Nat.mod_lt _ hm0)
   have hRl := Zzj hRm
   refine gL h (za rfl (zn (zS (zm rfl (zm rfl (zw [_, _] rfl call233 (Zyb _ _ R ((dg m).length - 3) oo oo oo) ?_))))))
   have htop : 0 < Qi ((dg m).drop ((dg m).length - 3)) := Qdb hm oo
   have hFR := Zj8 R ((dg m).length - 3) ((dg m).length - 3) oo (Nat.le_refl _)
   have hFT := Zj8 m ((dg m).length - 3) ((dg m).length - 3) oo (Nat.le_refl _)
   have hq1 : Qi ((dg R).drop ((dg m).length - 3)) / (Qi ((dg m).drop ((dg m).length - 3)) + 1) ≤ Qi ((dg R).drop ((dg m).length - 3)) := Nat.div_le_self _ _
   have hq2 : Qi ((dg R).drop ((dg m).length - 3)) / Qi ((dg m).drop ((dg m).length - 3)) ≤ Qi ((dg R).drop ((dg m).length - 3)) := Nat.div_le_self _ _
   have hql : Qi ((dg R).drop ((dg m).length - 3)) / (Qi ((dg m).drop ((dg m).length - 3)) + 1) ≤ R / m := Qer hm0
   have hqh : R / m ≤ Qi ((dg R).drop ((dg m).length - 3)) / Qi ((dg m).drop ((dg m).length - 3)) := Qar htop
   have hq9 : R / m < 10000 := (Nat.div_lt_iff_lt_mul hm0).2 hRm
   have hn1 : (0 : Int) ≤ ((R / m : Nat) : Int) := Int.natCast_nonneg _
   have hn2 : (0 : Int) ≤ ((Qi ((dg R).drop ((dg m).length - 3)) / (Qi ((dg m).drop ((dg m).length - 3)) + 1) : Nat) : Int) := Int.natCast_nonneg _
   have hn3 : (0 : Int) ≤ ((Qi ((dg R).drop ((dg m).length - 3)) / Qi ((dg m).drop ((dg m).length - 3)) : Nat) : Int) := Int.natCast_nonneg _
   refine za rfl (zn (zs (yD Za [0, 1, 2, 3, 4, 5, 6, 7, 8, 9] (Zf kk) (ym rfl rfl (ym rfl rfl (yp rfl (.pN ((Qi ((dg m).drop ((dg m).length - 3))) + 1) (.add rfl rfl)) (yp rfl (Pure1.cast (v' := .int .i64 ((Qi ((dg R).drop ((dg m).length - 3)) / (Qi ((dg m).drop ((dg m).length - 3)) + 1) : Nat) : Int)) (.binOp rfl rfl (fun _ => Vl _ _ _ _ _ oo)) (by rw [Yc, wrap_i64 _ oo oo])) (ym rfl rfl (ym rfl rfl (yp rfl (Pure1.cast (v' := .int .i64 ((Qi ((dg R).drop ((dg m).length - 3)) / Qi ((dg m).drop ((dg m).length - 3)) : Nat) : Int)) (.binOp rfl rfl (fun _ => Vl _ _ _ _ _ oo)) (by rw [Yc, wrap_i64 _ oo oo])) (yp rfl (.pO (min (Qi ((dg R).drop ((dg m).length - 3)) / Qi ((dg m).drop ((dg m).length - 3))) 9999) (.builtin [_, _] rfl (fun w ty cs => Qcd _ _ w ty cs))) (yp rfl (.assign rfl) (yp rfl (.assign rfl) (yn (zs (zb ?_)))))))))))))))); intro a w h
   refine Zi (fun (g : Nat) a w => ∃ lo hi, (lo + g = hi ∧ lo ≤ R / m ∧ R / m ≤ hi ∧ hi ≤ 9999) ∧ St 97 S w0 [(0, .slice (some ⟨B_ad1, O_ad1, none⟩) ((dg n).length) c1), (1, .slice ad2 ((dg m).length) c2), (6, nI ((dg m).length - 3)), (7, nI (Qi ((dg m).drop ((dg m).length - 3)))), (8, .int .i64 (((k : Nat) : Int) - 1)), (9, .slice (some ⟨b34, 0, none⟩) (((dg n).length - (dg m).length) + 1) (((dg n).length - (dg m).length) + 1)), (10, .slice ad51 ((dg R).length) c51), (12, nI lo), (13, nI hi)] [(b34, .cells (List.map Qe (Z)).toArray 3 (0, 0))] [Row ad51 (List.map Qe (dg R)), Row ad51 (List.map Qe ((dg n).getD (k - 1) 0 :: dg (n / 10000 ^ k % m))), Row (some ⟨B_ad1, O_ad1, none⟩) (List.map Qe (dg n)), Row ad2 (List.map Qe (dg m)), Row ad (List.map Qe (dg (n / 10000 ^ k % m)))] a w) (fun g => g) ((min (Qi ((dg R).drop ((dg m).length - 3)) / Qi ((dg m).drop ((dg m).length - 3))) 9999 - Qi ((dg R).drop ((dg m).length - 3)) / (Qi ((dg m).drop ((dg m).length - 3)) + 1))) (⟨Qi ((dg R).drop ((dg m).length - 3)) / (Qi ((dg m).drop ((dg m).length - 3)) + 1), min (Qi ((dg R).drop ((dg m).length - 3)) / Qi ((dg m).drop ((dg m).length - 3))) 9999, ⟨oo, hql, oo, oo⟩, by exact h.sub sA⟩) ?_; clear h
   rintro g a w ⟨lo, hi, ⟨hg, hlo, hhi, h9⟩, h⟩
   refine gC h (zs (zS (zm rfl (zm rfl (zp (.lss rfl rfl) (zn ?_)))))); clear h; intro a w h
   refine cW ?_
   refine Zb h rfl (fun hc66 => ?_) (fun hc66 => ?_)
   ·
    skip
    have hrun : lo < hi := dT hc66
    refine gC h (zk (zb (zS (zm rfl (zm rfl (zp (.pN (lo + hi) (.add rfl rfl)) (zp (.pN ((lo + hi) + 1) (.add rfl rfl)) (zp (Pure1.cast (v' := .int .i64 (((lo + hi + 1) / 2 : Nat) : Int)) (.binOp rfl rfl (fun _ => Vl _ _ _ _ _ dd)) (by rw [show (2 : Int) = ((2 : Nat) : Int) from rfl, Yc, wrap_i64 _ oo oo])) (za rfl (zn (zS (zm rfl (zm rfl (zp (.convert rfl (Zrx _ (wrap_u64 _ oo oo))) (zf [_] rfl call189 (Zn0 ((lo + hi + 1) / 2) oo) ?_))))))))))))))); rintro v75 Ψ75 ⟨ad75, c75, rfl, hle75, rfl⟩
    have hl75 := dg5 ((lo + hi + 1) / 2) oo
    refine zf [_, _] rfl call200 (Zn1 _ _ _ _ m ((lo + hi + 1) / 2) oo oo) ?_; rintro v76 Ψ76 ⟨ad76, c76, rfl, hle76, rfl⟩
    have hl76 := Vw m ((lo + hi + 1) / 2)
    refine zm rfl (zw [_, _] rfl call191 (Zj5 _ _ _ _ (m * ((lo + hi + 1) / 2)) R oo oo) (zp (.leq rfl rfl) (zn ?_))); intro a w h
    refine cW ?_
    refine Zb h rfl (fun hc79 => ?_) (fun hc79 => ?_)
    ·
     skip
     have hmid : (lo + hi + 1) / 2 ≤ R / m := by
      have h3 := Zxg.1 (of_decide_eq_true hc79)
      rwa [Nat.le_div_iff_mul_le hm0, Nat.mul_comm]
     refine gC h (zr (zm rfl (za rfl (zn ?_)))); clear h; intro a w h
     exact ⟨hi - ((lo + hi + 1) / 2), ⟨(lo + hi + 1) / 2, hi, ⟨oo, oo, by omega, oo⟩, by exact (h.factsSub (by simp)).sub sA⟩, oo⟩
    ·
     skip
     have hmid : R / m < (lo + hi + 1) / 2 := by
      have h3 := of_decide_eq_false hc79
      rw [Zxg] at h3
      rw [Nat.div_lt_iff_lt_mul hm0, Nat.mul_comm]; omega
     refine gC h (zr (zm rfl (zp (.pO (((lo + hi + 1) / 2) - 1) (.sub rfl rfl)) (za rfl (zn ?_))))); clear h; intro a w h
     exact ⟨(((lo + hi + 1) / 2) - 1) - lo, ⟨lo, ((lo + hi + 1) / 2) - 1, ⟨oo, oo, by omega, oo⟩, by exact (h.factsSub (by simp)).sub sA⟩, oo⟩
   ·
    skip
    obtain rfl : lo = R / m := dF hc66
    refine gC h (ze (zS (zm rfl (zp (.pO (k - 1) (.move rfl)) (zm rfl (zp (.indexAddr rfl rfl (Za4 _ _ _ _ _ oo)) (zt' rfl rfl ((congrArg (fun z => Qq _ z _) (Nat.zero_add _)).trans (Yl (enc := Qe) Z (k - 1) (R / m))) uu sizeOf3 rfl (by simp; omega) rfl ?_)))))))
    refine zn (zr (zm rfl (zm rfl (zm rfl (zp (.convert rfl (Zrx _ (wrap_u64 _ oo oo))) (zf [_] rfl call189 (Zn0 (R / m) oo) ?_)))))); rintro v91 Ψ91 ⟨ad91, c91, rfl, hle91, rfl⟩
    have hl91 := dg5 (R / m) oo
    refine zf [_, _] rfl call200 (Zn1 _ _ _ _ m (R / m) oo oo) ?_; rintro v92 Ψ92 ⟨ad92, c92, rfl, hle92, rfl⟩
    have hl92 := Vw m (R / m)
    refine zf [_, _] rfl call227 (Zsk _ _ _ _ R (m * (R / m)) oo oo (Nat.mul_div_le R m)) ?_; rintro v93 Ψ93 ⟨ad93, c93, rfl, hle93, rfl⟩ a w h
    have e93 : R - m * (R / m) = n / 10000 ^ (k - 1) % m := by rw [Znc n m (k - 1) R hR', Nat.mod_def]
    rw [e93] at h hle93
    refine gL h (za rfl (zn (zr (zm rfl (zp (Pure1.cast (v' := .int .i64 (((k - 1 : Nat) : Int) - 1)) (.sub rfl rfl) (by show Value.int _ _ = Value.int _ _; congr 1; omega)) (za rfl (zn ?_))))))); clear h; intro a w h
    exact ⟨k - 1, ⟨Z.set (k - 1) (R / m), ad93, c93, ⟨oo, by rw [List.length_set]; exact hZl, hZw.set _ _ oo, by rw [Zka oo, hkk, hZv, Znb n m (k - 1) R hm0 hR', hkk], hle93⟩, by exact (h.factsSub (by simp)).sub sA⟩, oo⟩
  ·
   skip
   obtain rfl : k = 0 := dF hc42
   refine gC h (ze (zS (zm rfl ?_))); clear h; intro a w h
   have hZ0 : Qi Z = n / m := by simpa using hZv
   rw [show n / 10000 ^ 0 % m = n % m from by simp] at h hlc
   rw [← hZl] at h
   replace h := h.shareAll hS (List.map Qe Z) rfl
   refine gL h (zf [_] rfl call223 (Zj3 (some ⟨b34, 0, none⟩) Z.length Z hZw (Nat.le_refl _) oo) ?_); clear h; rintro v95 Ψ95 ⟨rfl, rfl⟩ a w h
   rw [hZ0] at h
   refine gL h (zm rfl (za rfl (za rfl (zn (zt ?_))))); clear h; intro a w h
   exact Zy (Ψ := [Row (some ⟨b34, 0, none⟩) (List.map Qe (dg (n / m))), Row ad (List.map Qe (dg (n % m)))]) h (Ql h rfl (.tmp rfl) (.tmp rfl)) ⟨_, _, _, _, rfl, by rw [← hZ0]; exact Zc6 hZw, hlc, rfl⟩ ss
theorem C_rGcd (ad1 ad2 : Option Addr) (c1 c2 : Nat) (n m : Nat) (h1 : (dg n).length ≤ 300000000000) (h2 : (dg m).length ≤ 300000000000) (hc1 : (dg n).length ≤ c1) (hc2 : (dg m).length ≤ c2) :
  Ctr Tryz.prog 225 [.slice ad1 (dg n).length c1, .slice ad2 (dg m).length c2] [Row ad1 (List.map Qe (dg n)), Row ad2 (List.map Qe (dg m))] (Znu (Nat.gcd n m)) := by
 refine fn_intro func225 rfl ntmps225 nb ?_
 intro S w0 a hS h
 refine gC h (zS (za rfl (zn (zs (zb ?_))))); clear h; intro a w h
 refine Zi (fun (y : Nat) a w => ∃ x p cp q cq, (Nat.gcd x y = Nat.gcd n m ∧ (dg x).length ≤ 300000000000 ∧ (dg y).length ≤ 300000000000 ∧ (dg x).length ≤ cp ∧ (dg y).length ≤ cq) ∧ St 19 S w0 [(0, .slice p ((dg x).length) cp), (1, .slice q ((dg y).length) cq)] [] [Row p (List.map Qe (dg x)), Row q (List.map Qe (dg y))] a w) (fun y => y) (m) (⟨n, ad1, c1, ad2, c2, ⟨rfl, h1, h2, hc1, hc2⟩, by exact (h.factsSub (by simp)).sub sA⟩) ?_; clear h
 rintro y a w ⟨x, p, cp, q, cq, ⟨hg, hx1, hy1, hcp, hcq⟩, h⟩
 refine gC h (zs (zS (zm rfl (zp (.builtin [_] rfl (Zq _ _ _)) (zp (.gtr rfl rfl) (zn ?_)))))); clear h; intro a w h
 refine cW ?_
 refine Zb h rfl (fun hc9 => ?_) (fun hc9 => ?_)
 ·
  skip
  have hy : y ≠ 0 := by
   intro e; subst e; rw [Qv] at hc9; exact absurd (of_decide_eq_true hc9) dd
  have hl3 := Yg (Nat.le_of_lt (Nat.mod_lt x (Nat.pos_of_ne_zero hy)))
  refine gC h (zk (zb (zS (zm rfl (zm rfl (zf [_, _] rfl call226 (Zyc _ _ _ _ x y oo oo oo oo) ?_)))))); rintro v13 Ψ13 ⟨ad13, c13, bd13, d13, rfl, hle13, hlf13, rfl⟩
  refine zm rfl (zp (.eX rfl) (zp (.eX rfl) (za rfl (za rfl (zn (zS (zm rfl (za rfl (zn (zr (zm rfl (za rfl (zn ?_))))))))))))); intro a w h
  exact ⟨x % y, ⟨y, q, cq, bd13, d13, ⟨by rw [← hg, Nat.gcd_comm x y, Nat.gcd_rec y x, Nat.gcd_comm], hy1, oo, hcq, hlf13⟩, by exact (h.factsSub (by simp)).sub sA⟩, Nat.mod_lt _ (Nat.pos_of_ne_zero hy)⟩
 ·
  skip
  obtain rfl : y = 0 := by
   have h3 := of_decide_eq_false hc9
   exact Zne.1 (List.eq_nil_of_length_eq_zero oo)
  refine gC h (ze (zS (zm rfl (za rfl (zn (zt ?_)))))); clear h; intro a w h
  refine Zy (Ψ := [Row p (List.map Qe (dg x))]) h (Zd h rfl (.tmp rfl)) ?_ ss
  rw [Nat.gcd_zero_right] at hg; subst hg; exact ⟨p, cp, rfl, hcp, rfl⟩
end
section
theorem Zjv (x0 : Bool) (x1 : Option Addr) (x1n : Nat) (x1c : Nat) (w : World) : (Instr.build 162 [(0, .bool x0), (1, .slice x1 x1n x1c)].toArray).run Tryz.prog w = .ok (.agg #[.bool x0, .slice x1 x1n x1c]) w := by simp [go_sem]
theorem Zrz (x : Int) (h0 : IntKind.u64.wrap x = x) (w : World) : (Go.convert 2 45 (.int .i64 x)).run Tryz.prog w = .ok (.int .u64 x) w := by
 rw [Zpm, h0]
theorem Xh {b off : Nat} (w : World) : (Instr.fieldAt 162 (.pointer (some ⟨b, off, none⟩)) 1).run Tryz.prog w = .ok (.pointer (some ⟨b, off + 1, none⟩)) w := by
 simp [go_sem]
theorem Vk {b off : Nat} (w : World) : (Instr.fieldAt 162 (.pointer (some ⟨b, off, none⟩)) 0).run Tryz.prog w = .ok (.pointer (some ⟨b, off + 0, none⟩)) w := by
 simp [go_sem]
abbrev zV (z : Int) (ad : Option Addr) (c : Nat) : Value := .agg #[.bool (decide (z < 0)), .slice ad (dg z.natAbs).length c]
def Zxz (z : Int) (v : Value) (Ψ : List Zp) : Prop := ∃ ad c, v = zV z ad c ∧ (dg z.natAbs).length ≤ c ∧ Ψ = [Row ad (List.map Qe (dg z.natAbs))]
theorem Zb9 {b : Bool} {n : Nat} {z : Int} {ad : Option Addr} {c : Nat} (hs : sgZ b n = z) (hle : (dg n).length ≤ c) : Zxz z (.agg #[.bool (decide (sgZ b n < 0)), .slice ad (dg n).length c]) [Row ad (List.map Qe (dg n))] := by
 subst hs; refine ⟨ad, c, ?_, ?_, ?_⟩
 · unfold zV; rw [Za7]
 · rw [Za7]; exact hle
 · rw [Za7]
theorem Zts {n : Nat} : decide (((dg n).length : Int) > 0) = !decide (n = 0) := by
 by_cases h : n = 0
 · subst h; rw [Qv]; rfl
 ·
  have : 0 < (dg n).length := List.length_pos_iff.2 (fun e => h (Zne.1 e))
  rw [decide_eq_true (by omega : ((dg n).length : Int) > 0)]; simp [h]
theorem Zjs {n : Nat} : (((dg n).length : Int) == 0) = decide (n = 0) := by
 by_cases h : n = 0
 · subst h; rw [Qv]; rfl
 ·
  have : 0 < (dg n).length := List.length_pos_iff.2 (fun e => h (Zne.1 e))
  rw [decide_eq_false h]; exact beq_eq_false_iff_ne.2 oo
theorem Zt9 {x y : Int} (h : decide (x < 0) = decide (y < 0)) : sgZ (decide (x < 0)) (x.natAbs + y.natAbs) = x + y := by
 have h' := decide_eq_decide.1 h
 unfold sgZ; split <;> rename_i h1 <;> simp at h1 <;> omega
theorem Qc4 {x y : Int} (h : decide (x < 0) ≠ decide (y < 0)) (hle : y.natAbs ≤ x.natAbs) : sgZ (decide (x < 0)) (x.natAbs - y.natAbs) = x + y := by
 have h' : ¬ (x < 0 ↔ y < 0) := fun e => h (decide_eq_decide.2 e)
 unfold sgZ; split <;> rename_i h1 <;> simp at h1 <;> omega
theorem Qc3 {x y : Int} (h : decide (x < 0) ≠ decide (y < 0)) (hle : x.natAbs < y.natAbs) : sgZ (decide (y < 0)) (y.natAbs - x.natAbs) = x + y := by
 have h' : ¬ (x < 0 ↔ y < 0) := fun e => h (decide_eq_decide.2 e)
 unfold sgZ; split <;> rename_i h1 <;> simp at h1 <;> omega
theorem Qc2 (x y : Int) : sgZ (decide (x < 0) != decide (y < 0)) (x.natAbs * y.natAbs) = x * y := by
 unfold sgZ
 have hlt : ∀ z : Int, z < 0 ∨ 0 ≤ z := fun z => by omega
 rcases hlt x with hx | hx <;> rcases hlt y with hy | hy
 · rw [decide_eq_true hx, decide_eq_true hy]; simp; rw [Int.ofNat_natAbs_of_nonpos (Int.le_of_lt hx), Int.ofNat_natAbs_of_nonpos (Int.le_of_lt hy), Int.neg_mul_neg]
 · rw [decide_eq_true hx, decide_eq_false oo]; simp; rw [Int.ofNat_natAbs_of_nonpos (Int.le_of_lt hx), Int.natAbs_of_nonneg hy, Int.neg_mul, Int.neg_neg]
 · rw [decide_eq_false oo, decide_eq_true hy]; simp; rw [Int.ofNat_natAbs_of_nonpos (Int.le_of_lt hy), Int.natAbs_of_nonneg hx, Int.mul_neg, Int.neg_neg]
 · rw [decide_eq_false oo, decide_eq_false oo]; simp; rw [Int.natAbs_of_nonneg hx, Int.natAbs_of_nonneg hy]
theorem Zce (x y : Int) : (dg (x * y).natAbs).length ≤ (dg x.natAbs).length + (dg y.natAbs).length := by rw [Int.natAbs_mul]; exact Vw _ _
theorem Zw5 (x y : Int) : (dg (x + y).natAbs).length ≤ max (dg x.natAbs).length (dg y.natAbs).length + 1 :=
 Nat.le_trans (Yg (Int.natAbs_add_le x y)) (Zdn _ _)
theorem Zat (b : Bool) (ad : Option Addr) (c n : Nat) : Xl Tryz.prog 188 [.bool b, .slice ad (dg n).length c] (.agg #[.bool (decide (sgZ b n < 0)), .slice ad (dg n).length c]) := by
 refine fn_intro func188 rfl ntmps188 nb ?_
 intro S w0 a hS h
 refine gC h (zS (zz zeroValue162 fun b4 => zn (zS (zm rfl ?_)))); clear h; intro a w h
 refine Zg h (fun hc5 h => ?_) (fun hc5 h => ?_)
 ·
  skip
  refine gL h (zm rfl (zq 6 rfl rfl (.move rfl) (zq 6 rfl rfl (.builtin [_] rfl (Zq _ _ _)) (zq 6 rfl rfl (.gtr rfl rfl) (zp (.pickT rfl rfl) (zm rfl (zp (.build [(_, _), (_, _)] rfl (Zjv _ _ _ _)) (zt' rfl rfl Zl uu sizeOf162 rfl nb rfl ?_)))))))); clear h; intro a w h
  refine wpList_nil (wp_ret ?_)
  refine Jk h (Zd h rfl (.cell rfl mr isAgg162 sizeOf162 Zh)) ?_
  rw [hc5, Zoo, Zts]; rfl
 ·
  skip
  refine gL h (zm rfl (zo 6 rfl rfl rfl (zo 6 rfl rfl rfl (zo 6 rfl rfl rfl (zp (.pickF rfl rfl) (zm rfl (zp (.build [(_, _), (_, _)] rfl (Zjv _ _ _ _)) (zt' rfl rfl Zl uu sizeOf162 rfl nb rfl ?_)))))))); clear h; intro a w h
  refine wpList_nil (wp_ret ?_)
  refine Jk h (Zd h rfl (.cell rfl mr isAgg162 sizeOf162 Zh)) ?_
  rw [hc5, Zoo]; rfl
theorem C_zOf (n : Int) (h0 : -9223372036854775808 ≤ n) (h1 : n ≤ 9223372036854775807) : Ctr Tryz.prog 141 [.int .i64 n] [] (Zxz n) := by
 refine fn_intro func141 rfl ntmps141 nb ?_
 intro S w0 a hS h
 refine gC h (zS (zz zeroValue162 fun b2 => zn (zs (zS (zm rfl (zp (.lss rfl rfl) (zn ?_))))))); clear h; intro a w h
 refine cW ?_
 refine Zb h rfl (fun hc4 => ?_) (fun hc4 => ?_)
 ·
  skip
  have hn : n < 0 := of_decide_eq_true hc4
  refine gC h (zS (zm rfl (zp (.add rfl rfl) (zp (Pure1.cast (v' := .int .i64 (-(n + 1))) (.unOp rfl (fun w => Zzh _ oo oo w)) (by rfl)) (zp (.convert rfl (Zrz _ (wrap_u64 _ oo oo))) (zp (Pure1.cast (v' := .int .u64 ((n.natAbs : Nat) : Int)) (.binOp rfl rfl (fun _ => Zdi _ _ _ _ _ (wrap_u64 _ oo oo))) (by show Value.int _ _ = Value.int _ _; congr 1; omega)) (zf [_] rfl call189 (Zn0 n.natAbs oo) ?_))))))); rintro v10 Ψ10 ⟨ad10, c10, rfl, hle10, rfl⟩
  refine zv [_, _] rfl call188 (Zat true ad10 c10 n.natAbs) (zt' rfl rfl Zl uu sizeOf162 rfl nb rfl ?_); intro a w h
  refine wpList_nil (wp_ret ?_)
  refine Zy (Ψ := [Row ad10 (List.map Qe (dg n.natAbs))]) h (Zd h rfl (.cell rfl mr isAgg162 sizeOf162 Zh)) ?_ ss
  exact Zb9 (by unfold sgZ; simp; omega) hle10
 ·
  skip
  have hn : ¬ n < 0 := of_decide_eq_false hc4
  refine gC h (zk (zS (zm rfl (zp (Pure1.cast (v' := .int .u64 ((n.natAbs : Nat) : Int)) (.convert rfl (Zrz _ (wrap_u64 _ oo oo))) (by show Value.int _ _ = Value.int _ _; congr 1; omega)) (zf [_] rfl call189 (Zn0 n.natAbs oo) ?_))))); rintro v14 Ψ14 ⟨ad14, c14, rfl, hle14, rfl⟩
  refine zv [_, _] rfl call188 (Zat false ad14 c14 n.natAbs) (zt' rfl rfl Zl uu sizeOf162 rfl nb rfl ?_); intro a w h
  refine wpList_nil (wp_ret ?_)
  refine Zy (Ψ := [Row ad14 (List.map Qe (dg n.natAbs))]) h (Zd h rfl (.cell rfl mr isAgg162 sizeOf162 Zh)) ?_ ss
  exact Zb9 (by unfold sgZ; simp; omega) hle14
theorem Qfk (z : Int) (ad : Option Addr) (c : Nat) : Xl Tryz.prog 152 [zV z ad c] (.int .i64 z.sign) := by
 refine fn_intro func152 rfl ntmps152 nb ?_
 intro S w0 a hS h
 refine gC h (zS (zx rfl fun b1 => za rfl (zn (zs (zS (zp (.fA rfl Xh) (zd rfl mr isAgg160 sizeOf160 Jy ?_)))))))
 refine zp (.builtin [_] rfl (Zq _ _ _)) (zp (.eql rfl rfl) (zn ?_)); intro a w h
 refine cW ?_
 refine Zb h rfl (fun hc6 => ?_) (fun hc6 => ?_)
 ·
  skip
  have hz : z.natAbs = 0 := by rw [Zjs] at hc6; exact of_decide_eq_true hc6
  refine gC h (zS (za rfl (zn (zt ?_)))); clear h; intro a w h
  refine Jk h (Zd h rfl (.tmp rfl)) ?_
  rw [Int.natAbs_eq_zero.1 hz]; rfl
 ·
  skip
  have hz : z.natAbs ≠ 0 := by rw [Zjs] at hc6; exact of_decide_eq_false hc6
  refine gC h (zk (zs (zS (zp (.fA rfl Vk) (zd rfl mr isAgg4 sizeOf4 Jn ?_))))); clear h; intro a w h
  refine wpList_nil ?_
  refine cW ?_
  refine Zb h rfl (fun hc8 => ?_) (fun hc8 => ?_)
  ·
   skip
   have hs : z < 0 := of_decide_eq_true hc8
   refine gC h (zS (za rfl (zn (zt ?_)))); clear h; intro a w h
   refine Jk h (Zd h rfl (.tmp rfl)) ?_
   rw [Int.sign_eq_neg_one_of_neg hs]
  ·
   skip
   have hs : ¬ z < 0 := of_decide_eq_false hc8
   refine gC h (zk (zS (za rfl (zn (zt ?_))))); clear h; intro a w h
   refine Jk h (Zd h rfl (.tmp rfl)) ?_
   rw [Int.sign_eq_one_of_pos oo]
theorem C_zNeg (z : Int) (ad : Option Addr) (c : Nat) : Xl Tryz.prog 201 [zV z ad c] (zV (-z) ad c) := by
 refine fn_intro func201 rfl ntmps201 nb ?_
 intro S w0 a hS h
 refine gC h (zS (zx rfl fun b1 => zz zeroValue162 fun b2 => zn (zS (zp (.fA rfl Vk) (zd rfl mr isAgg4 sizeOf4 Jn ?_)))))
 refine zp (.unOp rfl (Ji _)) (zp (.fA rfl Xh) (zd rfl mr isAgg160 sizeOf160 Jy ?_))
 refine zv [_, _] rfl call188 (Zat (!decide (z < 0)) ad c z.natAbs) (zt' rfl rfl Zl uu sizeOf162 rfl nb rfl ?_); intro a w h
 refine wpList_nil (wp_ret ?_)
 refine Jk h (Zd h rfl (.cell rfl mr isAgg162 sizeOf162 Zh)) ?_
 unfold zV; rw [show sgZ (!decide (z < 0)) z.natAbs = -z from by unfold sgZ; split <;> rename_i h1 <;> simp at h1 <;> omega, Int.natAbs_neg]
theorem C_zAdd (a1 a2 : Option Addr) (c1 c2 : Nat) (x y : Int) (h1 : (dg x.natAbs).length ≤ 300000000000) (h2 : (dg y.natAbs).length ≤ 300000000000) : Ctr Tryz.prog 197 [zV x a1 c1, zV y a2 c2] [Row a1 (List.map Qe (dg x.natAbs)), Row a2 (List.map Qe (dg y.natAbs))] (Zxz (x + y)) := by
 refine fn_intro func197 rfl ntmps197 nb ?_
 intro S w0 a hS h
 refine gC h (zS (zx rfl fun b2 => zx rfl fun b3 => zz zeroValue162 fun b4 => zn (zs (zS (zp (.fA rfl Vk) (zd rfl mr isAgg4 sizeOf4 Jn ?_))))))
 refine zp (.fA rfl Vk) (zd rfl mr isAgg4 sizeOf4 Jn ?_)
 refine zp (.binOp rfl rfl (fun _ => Zqr _ underlying4 _ _ _ _)) (zn ?_); intro a w h
 refine cW ?_
 refine Zb h rfl (fun hc9 => ?_) (fun hc9 => ?_)
 ·
  skip
  have hs := eq_of_beq hc9
  refine gC h (zs (yD Za [0, 1, 2, 3, 4, 5, 6, 7, 8] (Zf kk) (yp rfl (.fA rfl Vk) (yd rfl rfl mr isAgg4 sizeOf4 Jn ?_)))); clear h
  refine yp rfl (.fA rfl Xh) (yd rfl rfl mr isAgg160 sizeOf160 Jy ?_)
  refine yp rfl (.fA rfl Xh) (yd rfl rfl mr isAgg160 sizeOf160 Jy ?_)
  refine yf [_, _] rfl rfl call194 (Zyd _ _ _ _ x.natAbs y.natAbs oo oo) ?_; rintro v16 Ψ16 ⟨ad16, c16, rfl, hle16, rfl⟩
  have hl16 := Zdn x.natAbs y.natAbs
  refine yv [_, _] rfl rfl call188 (Zat (decide (x < 0)) ad16 c16 (x.natAbs + y.natAbs)) (yt rfl rfl rfl Zl uu sizeOf162 rfl nb rfl ?_)
  refine yn (zt ?_); intro a w h
  refine Zy (Ψ := [Row ad16 (List.map Qe (dg (x.natAbs + y.natAbs)))]) h (Zd h rfl (.cell rfl mr isAgg162 sizeOf162 Zh)) ?_ ss
  exact Zb9 (Zt9 hs) hle16
 ·
  skip
  have hs := ne_of_beq_false hc9
  refine gC h (zk (zs (zS (zp (.fA rfl Xh) (zd rfl mr isAgg160 sizeOf160 Jy ?_)))))
  refine zp (.fA rfl Xh) (zd rfl mr isAgg160 sizeOf160 Jy ?_)
  refine zw [_, _] rfl call191 (Zj5 _ _ _ _ x.natAbs y.natAbs oo oo) (zp (.geq rfl rfl) (zn ?_)); intro a w h
  refine cW ?_
  refine Zb h rfl (fun hc23 => ?_) (fun hc23 => ?_)
  ·
   skip
   have hle : y.natAbs ≤ x.natAbs := by
    have h3 := of_decide_eq_true hc23
    unfold Ze7 at h3; split at h3 <;> omega
   refine gC h (zs (yD Za [0, 1, 2, 3, 4, 5, 6, 7, 8] (Zf kk) (yp rfl (.fA rfl Vk) (yd rfl rfl mr isAgg4 sizeOf4 Jn ?_)))); clear h
   refine yp rfl (.fA rfl Xh) (yd rfl rfl mr isAgg160 sizeOf160 Jy ?_)
   refine yp rfl (.fA rfl Xh) (yd rfl rfl mr isAgg160 sizeOf160 Jy ?_)
   refine yf [_, _] rfl rfl call227 (Zsk _ _ _ _ x.natAbs y.natAbs oo oo hle) ?_; rintro v30 Ψ30 ⟨ad30, c30, rfl, hle30, rfl⟩
   refine yv [_, _] rfl rfl call188 (Zat (decide (x < 0)) ad30 c30 (x.natAbs - y.natAbs)) (yt rfl rfl rfl Zl uu sizeOf162 rfl nb rfl ?_)
   refine yn (zt ?_); intro a w h
   refine Zy (Ψ := [Row ad30 (List.map Qe (dg (x.natAbs - y.natAbs)))]) h (Zd h rfl (.cell rfl mr isAgg162 sizeOf162 Zh)) ?_ ss
   exact Zb9 (Qc4 hs hle) hle30
  ·
   skip
   have hle : x.natAbs < y.natAbs := by
    have h3 := of_decide_eq_false hc23
    unfold Ze7 at h3; split at h3
    · assumption
    · split at h3 <;> omega
   refine gC h (zk (zs (yD Za [0, 1, 2, 3, 4, 5, 6, 7, 8] (Zf kk) (yp rfl (.fA rfl Vk) (yd rfl rfl mr isAgg4 sizeOf4 Jn ?_))))); clear h
   refine yp rfl (.fA rfl Xh) (yd rfl rfl mr isAgg160 sizeOf160 Jy ?_)
   refine yp rfl (.fA rfl Xh) (yd rfl rfl mr isAgg160 sizeOf160 Jy ?_)
   refine yf [_, _] rfl rfl call227 (Zsk _ _ _ _ y.natAbs x.natAbs oo oo (Nat.le_of_lt hle)) ?_; rintro v38 Ψ38 ⟨ad38, c38, rfl, hle38, rfl⟩
   refine yv [_, _] rfl rfl call188 (Zat (decide (y < 0)) ad38 c38 (y.natAbs - x.natAbs)) (yt rfl rfl rfl Zl uu sizeOf162 rfl nb rfl ?_)
   refine yn (zt ?_); intro a w h
   refine Zy (Ψ := [Row ad38 (List.map Qe (dg (y.natAbs - x.natAbs)))]) h (Zd h rfl (.cell rfl mr isAgg162 sizeOf162 Zh)) ?_ ss
   exact Zb9 (Qc3 hs hle) hle38
theorem Zx5 (a1 a2 : Option Addr) (c1 c2 : Nat) (x y : Int) (h1 : (dg x.natAbs).length ≤ 300000000000) (h2 : (dg y.natAbs).length ≤ 300000000000) : Ctr Tryz.prog 198 [zV x a1 c1, zV y a2 c2] [Row a1 (List.map Qe (dg x.natAbs)), Row a2 (List.map Qe (dg y.natAbs))] (Zxz (x * y)) := by
 refine fn_intro func198 rfl ntmps198 nb ?_
 intro S w0 a hS h
 refine gC h (zS (zx rfl fun b2 => zx rfl fun b3 => zz zeroValue162 fun b4 => zn (zs (yD Za [0, 1, 2, 3, 4, 5, 6, 7, 8, 9, 10, 11] (Zf kk) (yp rfl (.fA rfl Vk) (yd rfl rfl mr isAgg4 sizeOf4 Jn ?_)))))); clear h
 refine yp rfl (.fA rfl Vk) (yd rfl rfl mr isAgg4 sizeOf4 Jn ?_)
 refine yp rfl (.binOp rfl rfl (fun _ => Zqq _ underlying4 _ _ _ _)) (yp rfl (.fA rfl Xh) (yd rfl rfl mr isAgg160 sizeOf160 Jy ?_))
 refine yp rfl (.fA rfl Xh) (yd rfl rfl mr isAgg160 sizeOf160 Jy ?_)
 refine yf [_, _] rfl rfl call200 (Zn1 _ _ _ _ x.natAbs y.natAbs oo oo) ?_; rintro v14 Ψ14 ⟨ad14, c14, rfl, hle14, rfl⟩
 have hl14 := Vw x.natAbs y.natAbs
 refine yv [_, _] rfl rfl call188 (Zat (decide (x < 0) != decide (y < 0)) ad14 c14 (x.natAbs * y.natAbs)) (yt rfl rfl rfl Zl uu sizeOf162 rfl nb rfl ?_)
 refine yn (zt ?_); intro a w h
 refine Zy (Ψ := [Row ad14 (List.map Qe (dg (x.natAbs * y.natAbs)))]) h (Zd h rfl (.cell rfl mr isAgg162 sizeOf162 Zh)) ?_ ss
 exact Zb9 (Qc2 x y) hle14
end
section
theorem Zk6 {b off : Nat} (w : World) : (Instr.fieldAt 164 (.pointer (some ⟨b, off, none⟩)) 1).run Tryz.prog w = .ok (.pointer (some ⟨b, off + 2, none⟩)) w := by
 simp [go_sem]
theorem Zju (x0_0 : Value) (x0_1 : Value) (x1 : Option Addr) (x1n : Nat) (x1c : Nat) (w : World) : (Instr.build 164 [(0, .agg #[x0_0, x0_1]), (1, .slice x1 x1n x1c)].toArray).run Tryz.prog w = .ok (.agg #[x0_0, x0_1, .slice x1 x1n x1c]) w := by simp [go_sem]
theorem Zr9 (x0_0 : Value) (x0_1 : Value) (w : World) : (Instr.build 164 [(0, .agg #[x0_0, x0_1])].toArray).run Tryz.prog w = .ok (.agg #[x0_0, x0_1, .slice none 0 0]) w := by simp [go_sem]
theorem Kq {b off : Nat} (w : World) : (Instr.fieldAt 164 (.pointer (some ⟨b, off, none⟩)) 0).run Tryz.prog w = .ok (.pointer (some ⟨b, off + 0, none⟩)) w := by
 simp [go_sem]
theorem Qa8 (w : World) : (Instr.build 164 [].toArray).run Tryz.prog w = .ok (.agg #[.bool false, .slice none 0 0, .slice none 0 0]) w := by simp [go_sem]
theorem Zcy {c0 c1 c2 : Value} : Qu false 1 #[c0, c1, c2] 0 = some c0 := rfl
theorem Kh {c0 c1 c2 : Value} : Qu false 1 #[c0, c1, c2] 1 = some c1 := rfl
abbrev fV (x : Rat) (a1 : Option Addr) (c1 : Nat) (a2 : Option Addr) (c2 : Nat) : Value := .agg #[.bool (decide (x.num < 0)), .slice a1 (dg x.num.natAbs).length c1, .slice a2 (dg (x.den - 1)).length c2]
def PostF (x : Rat) (v : Value) (Ψ : List Zp) : Prop := ∃ a1 c1 a2 c2, v = fV x a1 c1 a2 c2 ∧ (dg x.num.natAbs).length ≤ c1 ∧ (dg (x.den - 1)).length ≤ c2 ∧ Ψ = [Row a1 (List.map Qe (dg x.num.natAbs)), Row a2 (List.map Qe (dg (x.den - 1)))]
theorem dgQ {x : Rat} {k : Nat} (h : Jr x ≤ k) : (dg x.num.natAbs).length ≤ 3 * k ∧ (dg x.den).length ≤ 3 * k ∧ (dg (x.den - 1)).length ≤ 3 * k := by
 obtain ⟨h1, h2⟩ := Gt h
 unfold Kk at h1
 have a1 := Zjr x.num.natAbs
 have a2 := Zjr x.den
 have a3 := Yg (Nat.sub_le x.den 1)
 omega
theorem Zom (z : Int) : decide (z.sign < 0) = decide (z < 0) := by
 apply decide_eq_decide.2
 rcases Int.lt_trichotomy z 0 with h | h | h
 · rw [Int.sign_eq_neg_one_of_neg h]; omega
 · subst h; simp
 · rw [Int.sign_eq_one_of_pos h]; omega
theorem Zz5 (z : Int) (d : Nat) (hd : d ≠ 0) : sgZ (decide (z < 0)) (z.natAbs / z.natAbs.gcd d) = (mkRat z d).num ∧ z.natAbs / z.natAbs.gcd d = (mkRat z d).num.natAbs ∧ d / z.natAbs.gcd d - 1 = (mkRat z d).den - 1 := by
 obtain ⟨h1, h2⟩ := Zd2 z d hd
 rw [Zom] at h1
 exact ⟨h1.symm, by rw [h1, Za7], by rw [h2]⟩
theorem Qcp : Ctr Tryz.prog 196 [] [] (Znu 1) := by
 refine fn_intro func196 rfl ntmps196 nb ?_
 intro S w0 a hS h
 refine gC h (zS (za rfl (zn (zS (zf [_] rfl call189 (Zn0 1 dd) ?_))))); rintro v1 Ψ1 ⟨ad1, c1, rfl, hle1, rfl⟩
 refine za rfl (zn (zt ?_)); intro a w h
 refine Zy (Ψ := [Row ad1 (List.map Qe (dg 1))]) h (Zd h rfl (.tmp rfl)) ?_ ss
 exact ⟨ad1, c1, rfl, hle1, rfl⟩
theorem Zgi (a1 a2 : Option Addr) (c1 c2 : Nat) (x : Rat) (hx : (dg (x.den - 1)).length ≤ 300000000000) : Ctr Tryz.prog 149 [fV x a1 c1 a2 c2] [Row a2 (List.map Qe (dg (x.den - 1)))] (Znu x.den) := by
 refine fn_intro func149 rfl ntmps149 nb ?_
 intro S w0 a hS h
 refine gC h (zS (zx rfl fun b1 => za rfl (zn (zs (yD Za [0, 1, 2, 3, 4] (Zf kk) (yp rfl (.fA rfl Zk6) (yd rfl rfl mr isAgg160 sizeOf160 Gh ?_))))))); clear h
 refine yf [] rfl rfl call196 (Qcp) ?_; rintro v5 Ψ5 ⟨ad5, c5, rfl, hle5, rfl⟩
 have hl5 := dg5 1 dd
 refine yf [_, _] rfl rfl call194 (Zyd _ _ _ _ (x.den - 1) 1 oo oo) ?_; rintro v6 Ψ6 ⟨ad6, c6, rfl, hle6, rfl⟩
 have hl6 := Zdn (x.den - 1) 1
 refine yp rfl (.assign rfl) (yn (zt ?_)); intro a w h
 refine Zy (Ψ := [Row ad6 (List.map Qe (dg (x.den - 1 + 1)))]) h (Zd h rfl (.tmp rfl)) ?_ ss
 rw [Nat.sub_add_cancel x.den_pos] at *; exact ⟨ad6, c6, rfl, hle6, rfl⟩
theorem Qct (a1 a2 : Option Addr) (c1 c2 : Nat) (x : Rat) (hx : (dg (x.den - 1)).length ≤ 300000000000) : Ctr Tryz.prog 199 [fV x a1 c1 a2 c2] [Row a2 (List.map Qe (dg (x.den - 1)))] (Zxz ((x.den : Nat) : Int)) := by
 refine fn_intro func199 rfl ntmps199 nb ?_
 intro S w0 a hS h
 refine gC h (zS (zx rfl fun b1 => zz zeroValue162 fun b2 => zn (zS (zd rfl mr isAgg164 sizeOf164 Zs ?_))))
 refine zf [_] rfl call149 (Zgi _ _ _ _ x oo) ?_; rintro v4 Ψ4 ⟨ad4, c4, rfl, hle4, rfl⟩
 refine zv [_, _] rfl call188 (Zat false ad4 c4 x.den) (zt' rfl rfl Zl uu sizeOf162 rfl nb rfl ?_); intro a w h
 refine wpList_nil (wp_ret ?_)
 refine Zy (Ψ := [Row ad4 (List.map Qe (dg x.den))]) h (Zd h rfl (.cell rfl mr isAgg162 sizeOf162 Zh)) ?_ ss
 exact Zb9 rfl hle4
theorem Zpv (a1 a2 : Option Addr) (c1 c2 : Nat) (z : Int) (d : Nat) (hd : d ≠ 0) (h1 : (dg z.natAbs).length ≤ 300000000000) (h2 : (dg d).length ≤ 300000000000) (hc1 : (dg z.natAbs).length ≤ c1) (hc2 : (dg d).length ≤ c2) :
  Ctr Tryz.prog 195 [zV z a1 c1, .slice a2 (dg d).length c2] [Row a1 (List.map Qe (dg z.natAbs)), Row a2 (List.map Qe (dg d))] (PostF (mkRat z d)) := by
 have hg0 : z.natAbs.gcd d ≠ 0 := fun h => hd (Nat.gcd_eq_zero_iff.1 h).2
 have hgl := Yg (Nat.gcd_le_right (m := z.natAbs) (Nat.pos_of_ne_zero hd))
 have hql := Yg (Nat.div_le_self d (z.natAbs.gcd d))
 have hq1 : 1 ≤ d / z.natAbs.gcd d := Nat.div_pos (Nat.gcd_le_right _ (Nat.pos_of_ne_zero hd)) (Nat.pos_of_ne_zero hg0)
 have h15 := dg5 1 dd
 obtain ⟨hm1, hm2, hm3⟩ := Zz5 z d hd
 refine fn_intro func195 rfl ntmps195 nb ?_
 intro S w0 a hS h
 refine gC h (zS (zx rfl fun b2 => zz zeroValue164 fun b4 => zn (zS (zp (.fA rfl Xh) (zd rfl mr isAgg160 sizeOf160 Jy ?_)))))
 refine zm rfl (zf [_, _] rfl call225 (C_rGcd _ _ _ _ z.natAbs d oo oo hc1 hc2) ?_); rintro v13 Ψ13 ⟨ad13, c13, rfl, hle13, rfl⟩
 refine za rfl (zn (zS (zp (.fA rfl Xh) (zd rfl mr isAgg160 sizeOf160 Jy ?_))))
 refine zm rfl (zf [_, _] rfl call226 (Zyc _ _ _ _ z.natAbs (z.natAbs.gcd d) oo oo hg0 hc1) ?_); rintro v18 Ψ18 ⟨ad18, c18, bd18, d18, rfl, hle18, hlf18, rfl⟩
 refine zm rfl (zp (.eX rfl) (zp (.eX rfl) (za rfl (za rfl (zn (zS (zm rfl (zm rfl (zf [_, _] rfl call226 (Zyc _ _ _ _ d (z.natAbs.gcd d) oo oo hg0 hc2) ?_))))))))); rintro v24 Ψ24 ⟨ad24, c24, bd24, d24, rfl, hle24, hlf24, rfl⟩
 refine zm rfl (zp (.eX rfl) (zp (.eX rfl) (za rfl (za rfl (zn (zS (zp (.fA rfl Vk) (zd rfl mr isAgg4 sizeOf4 Jn ?_))))))))
 refine zm rfl (zv [_, _] rfl call188 (Zat (decide (z < 0)) ad18 c18 (z.natAbs / z.natAbs.gcd d)) (zm rfl (zf [] rfl call196 (Qcp) ?_))); rintro v32 Ψ32 ⟨ad32, c32, rfl, hle32, rfl⟩
 have hl32 := dg5 1 dd
 refine zf [_, _] rfl call227 (Zsk _ _ _ _ (d / z.natAbs.gcd d) 1 oo oo hq1) ?_; rintro v33 Ψ33 ⟨ad33, c33, rfl, hle33, rfl⟩
 refine zp (.build [(_, _), (_, _)] rfl (Zju _ _ _ _ _)) (zt' rfl rfl Qw uu sizeOf164 rfl nb rfl ?_); intro a w h
 refine wpList_nil (wp_ret ?_)
 refine Zy (Ψ := [Row ad18 (List.map Qe (dg (z.natAbs / z.natAbs.gcd d))), Row ad33 (List.map Qe (dg (d / z.natAbs.gcd d - 1)))]) h (Zd h rfl (.cell rfl mr isAgg164 sizeOf164 Zs)) ?_ ss
 rw [hm1, hm2, hm3] at *; exact ⟨ad18, c18, ad33, c33, rfl, hle18, hle33, rfl⟩
theorem Zff (n : Int) (h0 : -9223372036854775808 ≤ n) (h1 : n ≤ 9223372036854775807) : Ctr Tryz.prog 99 [.int .i64 n] [] (PostF ((n : Int) : Rat)) := by
 refine fn_intro func99 rfl ntmps99 nb ?_
 intro S w0 a hS h
 refine gC h (zS (zz zeroValue164 fun b2 => zn (zS (zm rfl (zf [_] rfl call141 (C_zOf n oo oo) ?_))))); rintro v4 Ψ4 ⟨ad4, c4, rfl, hle4, rfl⟩
 refine zp (.build [(_, _)] rfl (Zr9 _ _)) (zt' rfl rfl Qw uu sizeOf164 rfl nb rfl ?_); intro a w h
 refine wpList_nil (wp_ret ?_)
 replace h := h.derive (R := Row none []) (fun X hX hne => absurd rfl hne)
 have e1 : PostF ((n : Int) : Rat) (.agg #[.bool (decide (n < 0)), .slice ad4 (dg n.natAbs).length c4, .slice none 0 0]) [Row ad4 (List.map Qe (dg n.natAbs)), Row none []] :=
  ⟨ad4, c4, none, 0, by unfold fV; rw [Rat.num_intCast, Rat.den_intCast, Nat.sub_self, Qv]; rfl, by rw [Rat.num_intCast]; exact hle4, by rw [Rat.den_intCast, Nat.sub_self, Qv]; exact Nat.le_refl _, by rw [Rat.num_intCast, Rat.den_intCast, Nat.sub_self, Qv]; rfl⟩
 exact Zy h (Zd h rfl (.cell rfl mr isAgg164 sizeOf164 Zs)) e1 ss
theorem Zdd (x : Rat) (a1 : Option Addr) (c1 : Nat) (a2 : Option Addr) (c2 : Nat) : Xl Tryz.prog 105 [fV x a1 c1 a2 c2] (.int .i64 x.num.sign) := by
 refine fn_intro func105 rfl ntmps105 nb ?_
 intro S w0 a hS h
 refine gC h (zS (zx rfl fun b1 => za rfl (zn (zS (zp (.fA rfl Kq) (zd rfl mr isAgg162 sizeOf162 Js ?_))))))
 refine zv [_] rfl call152 (Qfk x.num _ _) (za rfl (zn (zt ?_))); intro a w h
 exact Zeh h
theorem C_fNeg (x : Rat) (a1 : Option Addr) (c1 : Nat) (a2 : Option Addr) (c2 : Nat) : Xl Tryz.prog 155 [fV x a1 c1 a2 c2] (fV (-x) a1 c1 a2 c2) := by
 refine fn_intro func155 rfl ntmps155 nb ?_
 intro S w0 a hS h
 refine gC h (zS (zx rfl fun b1 => zz zeroValue164 fun b2 => zn (zs (yD Za [0, 1, 3, 4, 2, 5, 6] (Zf kk) (yp rfl (.fA rfl Kq) (yd rfl rfl mr isAgg162 sizeOf162 Js ?_)))))); clear h
 refine yp rfl (.fA rfl Zk6) (yd rfl rfl mr isAgg160 sizeOf160 Gh ?_)
 refine yv [_] rfl rfl call201 (C_zNeg x.num a1 c1) (yp rfl (.build [(_, _), (_, _)] rfl (Zju _ _ _ _ _)) (yt rfl rfl rfl Qw uu sizeOf164 rfl nb rfl ?_))
 refine yn (zt ?_); intro a w h
 refine Jk h (Zd h rfl (.cell rfl mr isAgg164 sizeOf164 Zs)) ?_
 unfold fV; rw [Rat.neg_num, Rat.neg_den]
theorem Qcv (a1 p1 a2 p2 : Option Addr) (c1 q1 c2 q2 : Nat) (x y : Rat) (hx : Jr x ≤ 10000000000) (hy : Jr y ≤ 10000000000) : Ctr Tryz.prog 150 [fV x a1 c1 a2 c2, fV y p1 q1 p2 q2] [Row a1 (List.map Qe (dg x.num.natAbs)), Row a2 (List.map Qe (dg (x.den - 1))), Row p1 (List.map Qe (dg y.num.natAbs)), Row p2 (List.map Qe (dg (y.den - 1)))] (PostF (x + y)) := by
 obtain ⟨hx1, hx2, hx3⟩ := dgQ hx
 obtain ⟨hy1, hy2, hy3⟩ := dgQ hy
 have hdz : (((x.den : Nat) : Int)).natAbs = x.den := rfl
 have hdy : (((y.den : Nat) : Int)).natAbs = y.den := rfl
 have hxp := x.den_pos
 have hyp := y.den_pos
 have hm1 := Zce x.num (y.den : Int)
 have hm2 := Zce y.num (x.den : Int)
 have hm3 := Zce x.num y.num
 have hs := Zw5 (x.num * (y.den : Int)) (y.num * (x.den : Int))
 have hdm := Vw x.den y.den
 rw [hdy] at hm1
 rw [hdz] at hm2
 have hq1 : (dg (((x.den : Nat) : Int)).natAbs).length = (dg x.den).length := rfl
 have hq2 : (dg (((y.den : Nat) : Int)).natAbs).length = (dg y.den).length := rfl
 refine fn_intro func150 rfl ntmps150 nb ?_
 intro S w0 a hS h
 refine gC h (zS (zx rfl fun b2 => zx rfl fun b3 => zz zeroValue164 fun b4 => zn (zs (yD Za [0, 1, 2, 5, 6, 7, 11, 13, 3, 4, 8, 9, 10, 12, 14, 15, 16, 17] (Zf kk) (yp rfl (.fA rfl Kq) (yd rfl rfl mr isAgg162 sizeOf162 Js ?_)))))); clear h
 refine yd rfl rfl mr isAgg164 sizeOf164 Zs ?_
 refine yp rfl (.fA rfl Kq) (yd rfl rfl mr isAgg162 sizeOf162 Js ?_)
 refine yd rfl rfl mr isAgg164 sizeOf164 Zs ?_
 refine yd rfl rfl mr isAgg164 sizeOf164 Zs ?_
 refine yd rfl rfl mr isAgg164 sizeOf164 Zs ?_
 refine yf [_] rfl rfl call199 (Qct _ _ _ _ y oo) ?_; rintro v8 Ψ8 ⟨ad8, c8, rfl, hle8, rfl⟩
 refine yf [_, _] rfl rfl call198 (Zx5 _ _ _ _ x.num (((y.den : Nat) : Int)) oo oo) ?_; rintro v9 Ψ9 ⟨ad9, c9, rfl, hle9, rfl⟩
 have hl9 := Zce x.num (((y.den : Nat) : Int))
 refine yf [_] rfl rfl call199 (Qct _ _ _ _ x oo) ?_; rintro v13 Ψ13 ⟨ad13, c13, rfl, hle13, rfl⟩
 refine yf [_, _] rfl rfl call198 (Zx5 _ _ _ _ y.num (((x.den : Nat) : Int)) oo oo) ?_; rintro v14 Ψ14 ⟨ad14, c14, rfl, hle14, rfl⟩
 have hl14 := Zce y.num (((x.den : Nat) : Int))
 refine yf [_, _] rfl rfl call197 (C_zAdd _ _ _ _ (x.num * (((y.den : Nat) : Int))) (y.num * (((x.den : Nat) : Int))) oo oo) ?_; rintro v15 Ψ15 ⟨ad15, c15, rfl, hle15, rfl⟩
 refine yf [_] rfl rfl call149 (Zgi _ _ _ _ x oo) ?_; rintro v17 Ψ17 ⟨ad17, c17, rfl, hle17, rfl⟩
 refine yf [_] rfl rfl call149 (Zgi _ _ _ _ y oo) ?_; rintro v19 Ψ19 ⟨ad19, c19, rfl, hle19, rfl⟩
 refine yf [_, _] rfl rfl call200 (Zn1 _ _ _ _ x.den y.den oo oo) ?_; rintro v20 Ψ20 ⟨ad20, c20, rfl, hle20, rfl⟩
 have hl20 := Vw x.den y.den
 refine yf [_, _] rfl rfl call195 (Zpv _ _ _ _ (x.num * ((y.den : Nat) : Int) + y.num * ((x.den : Nat) : Int)) (x.den * y.den) (Nat.mul_ne_zero oo oo) oo oo hle15 hle20) ?_; rintro v21 Ψ21 ⟨ad21, c21, bd21, d21, rfl, hle21, hlf21, rfl⟩
 refine yt rfl rfl rfl Qw uu sizeOf164 rfl nb rfl ?_
 refine yn (zt ?_); intro a w h
 refine Zy (Ψ := [Row ad21 (List.map Qe (dg (mkRat (x.num * ((y.den : Nat) : Int) + y.num * ((x.den : Nat) : Int)) (x.den * y.den)).num.natAbs)), Row bd21 (List.map Qe (dg ((mkRat (x.num * ((y.den : Nat) : Int) + y.num * ((x.den : Nat) : Int)) (x.den * y.den)).den - 1)))]) h (Zd h rfl (.cell rfl mr isAgg164 sizeOf164 Zs)) ?_ ss
 rw [Rat.add_def']; exact ⟨ad21, c21, bd21, d21, rfl, hle21, hlf21, rfl⟩
theorem Zyi (a1 p1 a2 p2 : Option Addr) (c1 q1 c2 q2 : Nat) (x y : Rat) (hx : Jr x ≤ 10000000000) (hy : Jr y ≤ 10000000000) : Ctr Tryz.prog 151 [fV x a1 c1 a2 c2, fV y p1 q1 p2 q2] [Row a1 (List.map Qe (dg x.num.natAbs)), Row a2 (List.map Qe (dg (x.den - 1))), Row p1 (List.map Qe (dg y.num.natAbs)), Row p2 (List.map Qe (dg (y.den - 1)))] (PostF (x * y)) := by
 obtain ⟨hx1, hx2, hx3⟩ := dgQ hx
 obtain ⟨hy1, hy2, hy3⟩ := dgQ hy
 have hdz : (((x.den : Nat) : Int)).natAbs = x.den := rfl
 have hdy : (((y.den : Nat) : Int)).natAbs = y.den := rfl
 have hxp := x.den_pos
 have hyp := y.den_pos
 have hm1 := Zce x.num (y.den : Int)
 have hm2 := Zce y.num (x.den : Int)
 have hm3 := Zce x.num y.num
 have hs := Zw5 (x.num * (y.den : Int)) (y.num * (x.den : Int))
 have hdm := Vw x.den y.den
 rw [hdy] at hm1
 rw [hdz] at hm2
 have hq1 : (dg (((x.den : Nat) : Int)).natAbs).length = (dg x.den).length := rfl
 have hq2 : (dg (((y.den : Nat) : Int)).natAbs).length = (dg y.den).length := rfl
 refine fn_intro func151 rfl ntmps151 nb ?_
 intro S w0 a hS h
 refine gC h (zS (zx rfl fun b2 => zx rfl fun b3 => zz zeroValue164 fun b4 => zn (zs (yD Za [0, 1, 2, 3, 5, 7, 4, 6, 8, 9, 10, 11] (Zf kk) (yp rfl (.fA rfl Kq) (yd rfl rfl mr isAgg162 sizeOf162 Js ?_)))))); clear h
 refine yp rfl (.fA rfl Kq) (yd rfl rfl mr isAgg162 sizeOf162 Js ?_)
 refine yd rfl rfl mr isAgg164 sizeOf164 Zs ?_
 refine yd rfl rfl mr isAgg164 sizeOf164 Zs ?_
 refine yf [_, _] rfl rfl call198 (Zx5 _ _ _ _ x.num y.num oo oo) ?_; rintro v9 Ψ9 ⟨ad9, c9, rfl, hle9, rfl⟩
 have hl9 := Zce x.num y.num
 refine yf [_] rfl rfl call149 (Zgi _ _ _ _ x oo) ?_; rintro v11 Ψ11 ⟨ad11, c11, rfl, hle11, rfl⟩
 refine yf [_] rfl rfl call149 (Zgi _ _ _ _ y oo) ?_; rintro v13 Ψ13 ⟨ad13, c13, rfl, hle13, rfl⟩
 refine yf [_, _] rfl rfl call200 (Zn1 _ _ _ _ x.den y.den oo oo) ?_; rintro v14 Ψ14 ⟨ad14, c14, rfl, hle14, rfl⟩
 have hl14 := Vw x.den y.den
 refine yf [_, _] rfl rfl call195 (Zpv _ _ _ _ (x.num * y.num) (x.den * y.den) (Nat.mul_ne_zero oo oo) oo oo hle9 hle14) ?_; rintro v15 Ψ15 ⟨ad15, c15, bd15, d15, rfl, hle15, hlf15, rfl⟩
 refine yt rfl rfl rfl Qw uu sizeOf164 rfl nb rfl ?_
 refine yn (zt ?_); intro a w h
 refine Zy (Ψ := [Row ad15 (List.map Qe (dg (mkRat (x.num * y.num) (x.den * y.den)).num.natAbs)), Row bd15 (List.map Qe (dg ((mkRat (x.num * y.num) (x.den * y.den)).den - 1)))]) h (Zd h rfl (.cell rfl mr isAgg164 sizeOf164 Zs)) ?_ ss
 rw [Rat.mul_def']; exact ⟨ad15, c15, bd15, d15, rfl, hle15, hlf15, rfl⟩
theorem C_fInv (ad b1 : Option Addr) (c d1 : Nat) (y : Rat) (hy : y ≠ 0) (h1 : (dg y.den).length ≤ 300000000000) (h2 : (dg y.num.natAbs).length ≤ 300000000000) (hc1 : (dg y.den).length ≤ c) (hc2 : (dg y.num.natAbs).length ≤ d1) :
  Ctr Tryz.prog 195 [.agg #[.bool (decide (sgZ (decide (y.num < 0)) y.den < 0)), .slice ad (dg y.den).length c], .slice b1 (dg y.num.natAbs).length d1] [Row ad (List.map Qe (dg y.den)), Row b1 (List.map Qe (dg y.num.natAbs))] (PostF y⁻¹) := by
 have h0 : y.num.natAbs ≠ 0 := fun h => hy (Rat.num_eq_zero.1 (Int.natAbs_eq_zero.1 h))
 have e := Za7 (decide (y.num < 0)) y.den
 have h := Zpv ad b1 c d1 (sgZ (decide (y.num < 0)) y.den) y.num.natAbs h0 (by rw [e]; exact h1) h2 (by rw [e]; exact hc1) hc2
 rw [← Zom, Zeu y hy, Zom] at h
 unfold zV at h
 rw [e] at h
 exact h
theorem C_fDiv (a1 p1 a2 p2 : Option Addr) (c1 q1 c2 q2 : Nat) (x y : Rat) (hx : Jr x ≤ 10000000000) (hy : Jr y ≤ 10000000000) (hc : (dg y.num.natAbs).length ≤ q1) : Ctr Tryz.prog 147 [fV x a1 c1 a2 c2, fV y p1 q1 p2 q2] [Row a1 (List.map Qe (dg x.num.natAbs)), Row a2 (List.map Qe (dg (x.den - 1))), Row p1 (List.map Qe (dg y.num.natAbs)), Row p2 (List.map Qe (dg (y.den - 1)))] (PostF (x / y)) := by
 obtain ⟨hy1, hy2, hy3⟩ := dgQ hy
 have hi := Zrg y
 refine fn_intro func147 rfl ntmps147 nb ?_
 intro S w0 a hS h
 refine gC h (zS (zx rfl fun b2 => zx rfl fun b3 => zz zeroValue164 fun b4 => zn (zs (zS (zd rfl mr isAgg164 sizeOf164 Zs ?_)))))
 refine zv [_] rfl call105 (Zdd y _ _ _ _) (zp (.eql rfl rfl) (zn ?_)); intro a w h
 refine cW ?_
 refine Zb h rfl (fun hc7 => ?_) (fun hc7 => ?_)
 ·
  skip
  have hz : y = 0 := Rat.num_eq_zero.1 (Int.sign_eq_zero_iff_zero.1 (eq_of_beq hc7))
  refine gC h (zS (zp (.build [] rfl (Qa8)) (zt' rfl rfl Qw uu sizeOf164 rfl nb rfl ?_))); clear h; intro a w h
  refine wpList_nil (wp_ret ?_)
  replace h := h.derive (R := Row none []) (fun X hX hne => absurd rfl hne)
  have e1 : PostF (x / y) (.agg #[.bool false, .slice none 0 0, .slice none 0 0]) [Row none [], Row none []] := by
   subst hz; rw [Rat.div_def, Rat.inv_zero, Rat.mul_zero]
   exact ⟨none, 0, none, 0, by unfold fV; rw [show (0 : Rat).num = 0 from rfl, show (0 : Rat).den - 1 = 0 from rfl, show (0 : Int).natAbs = 0 from rfl, Qv]; rfl, by rw [show (0 : Rat).num = 0 from rfl, show (0 : Int).natAbs = 0 from rfl, Qv]; exact Nat.le_refl _, by rw [show (0 : Rat).den - 1 = 0 from rfl, Qv]; exact Nat.le_refl _, by rw [show (0 : Rat).num = 0 from rfl, show (0 : Rat).den - 1 = 0 from rfl, show (0 : Int).natAbs = 0 from rfl, Qv]; rfl⟩
  exact Zy h (Zd h rfl (.cell rfl mr isAgg164 sizeOf164 Zs)) e1 ss
 ·
  skip
  have hz : y ≠ 0 := fun e => by subst e; exact absurd hc7 dd
  refine gC h (zk (zs (yD Za [0, 1, 2, 3, 4, 7, 8, 9, 5, 6, 10, 11, 12] (Zf kk) (yd rfl rfl mr isAgg164 sizeOf164 Zs ?_)))); clear h
  refine yp rfl (.fA rfl Kq) (yp rfl (.fA rfl Vk) (yd rfl rfl mr isAgg4 sizeOf4 Zcy ?_))
  refine yd rfl rfl mr isAgg164 sizeOf164 Zs ?_
  refine yp rfl (.fA rfl Kq) (yp rfl (.fA rfl Xh) (yd rfl rfl mr isAgg160 sizeOf160 Kh ?_))
  refine yf [_] rfl rfl call149 (Zgi _ _ _ _ y oo) ?_; rintro v14 Ψ14 ⟨ad14, c14, rfl, hle14, rfl⟩
  refine yv [_, _] rfl rfl call188 (Zat (decide (y.num < 0)) ad14 c14 y.den) (yf [_, _] rfl rfl call195 (C_fInv _ _ _ _ y hz oo oo oo hc) ?_); rintro v19 Ψ19 ⟨ad19, c19, bd19, d19, rfl, hle19, hlf19, rfl⟩
  refine yf [_, _] rfl rfl call151 (Zyi _ _ _ _ _ _ _ _ x (y⁻¹) oo oo) ?_; rintro v20 Ψ20 ⟨ad20, c20, bd20, d20, rfl, hle20, hlf20, rfl⟩
  have hl20 := Za3 x (y⁻¹)
  refine yt rfl rfl rfl Qw uu sizeOf164 rfl nb rfl ?_
  refine yn (zt ?_); intro a w h
  refine Zy (Ψ := [Row ad20 (List.map Qe (dg (x * y⁻¹).num.natAbs)), Row bd20 (List.map Qe (dg ((x * y⁻¹).den - 1)))]) h (Zd h rfl (.cell rfl mr isAgg164 sizeOf164 Zs)) ?_ ss
  rw [Rat.div_def]; exact ⟨ad20, c20, bd20, d20, rfl, hle20, hlf20, rfl⟩
end
section
theorem Zt7 (w : World) : (zeroValue 164).run Tryz.prog w = .ok (fV 0 none 0 none 0) w := by
 have e : fV 0 none 0 none 0 = .agg #[.bool false, .slice none 0 0, .slice none 0 0] := by
  unfold fV; rw [show (0 : Rat).num = 0 from rfl, show (0 : Rat).den - 1 = 0 from rfl, show (0 : Int).natAbs = 0 from rfl, Qv]; rfl
 rw [e]; exact zeroValue164 w
structure FT where
 x : Rat
 a1 : Option Addr
 c1 : Nat
 a2 : Option Addr
 c2 : Nat
 h1 : (dg x.num.natAbs).length ≤ c1
 h2 : (dg (x.den - 1)).length ≤ c2
abbrev Jm (e : FT) : Value := .agg #[.bool (decide (e.x.num < 0)), .slice e.a1 (dg e.x.num.natAbs).length e.c1, .slice e.a2 (dg (e.x.den - 1)).length e.c2]
def FT0 : FT := ⟨0, none, 0, none, 0, by rw [show (0 : Rat).num.natAbs = 0 from rfl, Qv]; exact Nat.le_refl _, by rw [show (0 : Rat).den - 1 = 0 from rfl, Qv]; exact Nat.le_refl _⟩
def AllF (l : List FT) : Zp where
 p X w := ∀ e ∈ l, (Row e.a1 (List.map Qe (dg e.x.num.natAbs))).p X w ∧ (Row e.a2 (List.map Qe (dg (e.x.den - 1)))).p X w
 st X X' w w' h hk hs hX e he := ⟨(Row e.a1 _).st X X' w w' (h e he).1 hk hs hX, (Row e.a2 _).st X X' w w' (h e he).2 hk hs hX⟩
theorem AllF.get1 {l : List FT} {e : FT} {X : Nat → Prop} {w : World} (h : (AllF l).p X w) (he : e ∈ l) : (Row e.a1 (List.map Qe (dg e.x.num.natAbs))).p X w := (h e he).1
theorem AllF.get2 {l : List FT} {e : FT} {X : Nat → Prop} {w : World} (h : (AllF l).p X w) (he : e ∈ l) : (Row e.a2 (List.map Qe (dg (e.x.den - 1)))).p X w := (h e he).2
theorem AllF.nil (X : Nat → Prop) (w : World) : (AllF []).p X w := fun e he => by cases he
theorem AllF.snoc {l : List FT} {e : FT} {X : Nat → Prop} {w : World} (h : (AllF l).p X w) (h1 : (Row e.a1 (List.map Qe (dg e.x.num.natAbs))).p X w) (h2 : (Row e.a2 (List.map Qe (dg (e.x.den - 1)))).p X w) : (AllF (l ++ [e])).p X w := by
 intro f hf
 rcases List.mem_append.1 hf with hf | hf
 · exact h f hf
 · rw [List.mem_singleton] at hf; subst hf; exact ⟨h1, h2⟩
end
section
def qv (N D : Int) : Rat := ((N : Int) : Rat) / ((max D 1 : Int) : Rat)
abbrev encQ2 (q : Int × Int) : Value := .agg #[.int .i64 q.1, .int .u32 q.2]
def OkQ (q : Int × Int) : Prop := -9223372036854775808 ≤ q.1 ∧ q.1 ≤ 9223372036854775807 ∧ 0 ≤ q.2 ∧ q.2 ≤ 4294967295
def qvp (q : Int × Int) : Rat := qv q.1 q.2
end
section
theorem cv_3_5 (x : Int) (w : World) : (Go.convert 3 5 (.int .i64 x)).run Tryz.prog w = .ok (.int .u8 (IntKind.u8.wrap x)) w := by
 simp [go_sem]
theorem Zpl (x : Int) (h0 : IntKind.u8.wrap x = x) (w : World) : (Go.convert 3 5 (.int .i64 x)).run Tryz.prog w = .ok (.int .u8 x) w := by
 rw [cv_3_5, h0]
theorem Qb6 : ∀ (n i : Nat), (dg n).getD i 0 = n / 10000 ^ i % 10000 := by
 intro n
 induction n using Nat.strongRecOn with
 | _ n ih =>
  intro i
  by_cases h : n = 0
  · subst h; rw [Qv]; simp
  ·
   rw [Zib h]
   cases i with
   | zero => simp
   | succ i => rw [List.getD_cons_succ, ih (n / 10000) oo, Nat.div_div_eq_div_mul, Nat.pow_succ, Nat.mul_comm]
theorem Zg2 (n : Nat) : n < 10000 ^ (dg n).length := by have := Zb3 (Dd.dg n); rwa [Xm] at this
def rS (n i : Nat) : ByteArray := if i = (dg n).length then dB n else Zyz n (4 * i)
theorem Zzl (n i k : Nat) (hk : k < 4) : (dg n).getD i 0 / 10 ^ k % 10 = n / 10 ^ (4 * i + k) % 10 := by
 have h1 : (dg n).getD i 0 = n / 10 ^ (4 * i) % 10000 := by rw [Qb6, show 10000 ^ i = 10 ^ (4 * i) from by rw [Nat.pow_mul]]
 have e : n / 10 ^ (4 * i + k) = n / 10 ^ (4 * i) / 10 ^ k := by rw [Nat.div_div_eq_div_mul, ← Nat.pow_add]
 rw [h1, e]
 generalize n / 10 ^ (4 * i) = m
 match k, hk with
 | 0, _ => simp only [Nat.pow_zero, Nat.div_one]; omega
 | 1, _ => simp only [Nat.pow_one]; omega
 | 2, _ => rw [show (10 : Nat) ^ 2 = 100 from rfl]; omega
 | 3, _ => rw [show (10 : Nat) ^ 3 = 1000 from rfl]; omega
theorem Qb2 {n i k : Nat} (hi : i < (dg n).length) (hk : k ≤ 4) (hp : i + 1 = (dg n).length → k = 0 ∨ 0 < (dg n).getD i 0 / 10 ^ (k - 1))
  (he : 4 ≤ k ∨ ((dg n).length ≤ i + 1 ∧ (dg n).getD i 0 / 10 ^ k = 0)) : Zyz n (4 * i + k) = rS n (i + 1) := by
 by_cases hl : i + 1 = (dg n).length
 ·
  rw [rS, if_pos hl]
  have hb := Zg2 n
  rw [← hl, show (10000 : Nat) = 10 ^ 4 from rfl, ← Nat.pow_mul] at hb
  have hd : (dg n).getD i 0 = n / 10 ^ (4 * i) := by
   rw [Qb6, show (10000 : Nat) = 10 ^ 4 from rfl, ← Nat.pow_mul]
   refine Nat.mod_eq_of_lt ((Nat.div_lt_iff_lt_mul (Nat.pow_pos dd)).2 ?_)
   rw [← Nat.pow_add, show 4 + 4 * i = 4 * (i + 1) by omega]; exact hb
  have hne : (dg n).getD i 0 ≠ 0 := by
   have hne' : dg n ≠ [] := fun e => by rw [e] at hi; cases hi
   have h1 := Zk9 n hne'
   rw [List.getLast_eq_getElem] at h1
   rw [List.getD_eq_getElem?_getD, List.getElem?_eq_getElem hi]
   simpa [show (dg n).length - 1 = i by omega] using h1
  have hdl : (dg n).getD i 0 < 10000 := (Dd.dg n).getD i
  have hz : (dg n).getD i 0 / 10 ^ k = 0 := by
   rcases he with he | he
   · rw [show k = 4 by omega]; exact Nat.div_eq_of_lt hdl
   · exact he.2
  have hk0 : k ≠ 0 := by intro e; subst e; rw [Nat.pow_zero, Nat.div_one] at hz; exact hne hz
  obtain ⟨k', rfl⟩ : ∃ k', k = k' + 1 := ⟨k - 1, oo⟩
  have hp' := (hp hl).resolve_left hk0
  rw [Nat.add_sub_cancel, hd, Nat.div_div_eq_div_mul, ← Nat.pow_add] at hp'
  rw [hd, Nat.div_div_eq_div_mul, ← Nat.pow_add] at hz
  have hlo : 10 ^ (4 * i + k') ≤ n := by
   rcases Nat.lt_or_ge n (10 ^ (4 * i + k')) with h | h
   · rw [Nat.div_eq_of_lt h] at hp'; omega
   · exact h
  have hhi : n < 10 ^ (4 * i + k' + 1) := by
   rcases Nat.lt_or_ge n (10 ^ (4 * i + (k' + 1))) with h | h
   · exact h
   · have := Nat.div_pos h (Nat.pow_pos dd); omega
  unfold Zyz dB
  rw [Ze3, Lib.nDigits_unique _ _ hlo hhi]
  rfl
 ·
  rw [rS, if_neg hl, show k = 4 by rcases he with he | he <;> omega]
  rfl
theorem Qew : dB 0 = ⟨#[48]⟩ := by unfold dB; rw [Lib.decDigits_one dd]; rfl
theorem Zle (n : Nat) : (dB n).size ≤ 4 * (dg n).length + 1 := by
 rw [Zif]
 refine Zbo (Nat.lt_of_lt_of_le (Zg2 n) ?_)
 rw [show (10000 : Nat) = 10 ^ 4 from rfl, ← Nat.pow_mul, Nat.pow_succ]
 have := Nat.pow_pos (n := 4 * (dg n).length) (show 0 < 10 by decide)
 omega
theorem Zpk (x : Nat) (hx : x < 128) (w : World) : (Go.convert 5 9 (.int .u8 (x : Int))).run Tryz.prog w = .ok (.string ⟨#[UInt8.ofNat x]⟩) w := by
 have h : ∀ x, x < 128 → Utf8.encode ((x : Nat) : Int) = ⟨#[UInt8.ofNat x]⟩ := by decide +kernel
 rw [run_convert_int_string w _ _ _ _ (by rw [underlying5]; rfl) underlying9, h x hx]
theorem Zll (ad : Option Addr) (c n : Nat) (hn : (dg n).length ≤ 300000000000) : Gn Tryz.prog 154 [.slice ad (dg n).length c] [Row ad (List.map Qe (dg n))] (.string (dB n)) := by
 refine fn_intro func154 rfl ntmps154 nb ?_
 intro S w0 a hS h
 refine gC h (zS (za rfl (zn (zs (zS (zm rfl (zp (.builtin [_] rfl (Zq _ _ _)) (zp (.eql rfl rfl) (zn ?_))))))))); clear h; intro a w h
 refine cW ?_
 refine Zb h rfl (fun hc9 => ?_) (fun hc9 => ?_)
 ·
  skip
  have hz : (dg n).length = 0 := Zcj hc9
  refine gC h (zS (za rfl (zn (zt ?_)))); clear h; intro a w h
  refine Jk h (Zd h rfl (.tmp rfl)) ?_
  rw [show n = 0 from by have := Zg2 n; rw [hz] at this; simpa using this, Qew]
 ·
  skip
  have hz : (dg n).length ≠ 0 := Zbn hc9
  refine gC h (zk (zS (za rfl (zn (zs (zS (za rfl (zn (zb ?_))))))))); clear h; intro a w h
  refine Zi (fun (i : Nat) a w => i ≤ (dg n).length ∧ St 45 S w0 [(0, .slice ad ((dg n).length) c), (2, .string (⟨#[]⟩)), (3, .string (rS n i)), (4, nI i)] [] [Row ad (List.map Qe (dg n))] a w) (fun i => (dg n).length - i) 0 (⟨Nat.zero_le _, by rw [show rS n 0 = ⟨#[]⟩ from if_neg oo]; exact (h).sub sA⟩) ?_; clear h
  rintro i a w ⟨hi_i, h⟩
  refine gC h (zs (zS (zm rfl (zm rfl (zp (.builtin [_] rfl (Zq _ _ _)) (zp (.lss rfl rfl) (zn ?_))))))); clear h; intro a w h
  refine cW ?_
  refine Zb h rfl (fun hc13 => ?_) (fun hc13 => ?_)
  ·
   skip
   have hlt_i : i < (dg n).length := dT hc13
   obtain ⟨B_ad, O_ad, rfl⟩ := h.row_addr (ad := ad) (M := List.map Qe (dg n)) mm nF
   rw [show rS n i = Zyz n (4 * i) from if_neg oo] at h
   refine gC h (zk (zs (zb (zS (zm rfl (zm rfl (zp (.indexAddr rfl rfl (Za4 _ _ _ _ _ oo)) (zD rfl mm (by rw [List.length_map]; omega) isAgg3 sizeOf3 (Zv (enc := Qe) (l := (dg n)) 0 oo) (.inr rfl) ?_))))))))
   refine za rfl (zn (zS (za rfl (zn (zb ?_))))); intro a w h
   rw [show ((dg n).getD i 0) = ((dg n).getD i 0) / 10 ^ 0 by rw [Nat.pow_zero, Nat.div_one]] at h
   refine Zi (fun (k : Nat) a w => (k ≤ 4 ∧ (i + 1 = (dg n).length → k = 0 ∨ 0 < ((dg n).getD i 0) / 10 ^ (k - 1))) ∧ St 45 S w0 [(0, .slice (some ⟨B_ad, O_ad, none⟩) ((dg n).length) c), (2, .string (⟨#[]⟩)), (3, .string (Zyz n (4 * i + k))), (4, nI i), (5, nI (((dg n).getD i 0) / 10 ^ k)), (6, nI k)] [] [Row (some ⟨B_ad, O_ad, none⟩) (List.map Qe (dg n))] a w) (fun k => 4 - k) (0) (⟨⟨oo, fun _ => .inl rfl⟩, by exact h.sub sA⟩) ?_; clear h
   rintro k a w ⟨⟨hk, hp⟩, h⟩
   have hsz := Zmo n (4 * i + k)
   have hdl : ((dg n).getD i 0) < 10000 := (Dd.dg n).getD i
   have hdk : ((dg n).getD i 0) / 10 ^ k ≤ ((dg n).getD i 0) := Nat.div_le_self _ _
   have hd0 : (0 : Int) ≤ ((((dg n).getD i 0) / 10 ^ k : Nat) : Int) := Int.natCast_nonneg _
   refine gC h (zs (zS (zm rfl (zp (.lss rfl rfl) (zm rfl ?_))))); clear h; intro a w h
   refine Zg h (fun hc22 h => ?_) (fun hc22 h => ?_)
   ·
    skip
    have hk4 : k < 4 := dT hc22
    refine gL h (zq 22 rfl rfl (.move rfl) (zq 22 rfl rfl (.pN (i + 1) (.add rfl rfl)) (zq 22 rfl rfl (.move rfl) (zq 22 rfl rfl (.builtin [_] rfl (Zq _ _ _)) (zq 22 rfl rfl (.lss rfl rfl) (zq 22 rfl rfl (.move rfl) ?_)))))); clear h; intro a w h
    refine Zg h (fun hc28 h => ?_) (fun hc28 h => ?_)
    focus
     have hmore : i + 1 < (dg n).length := dT hc28
     refine gL h (zo 28 rfl rfl rfl (zo 28 rfl rfl rfl (zq 22 rfl rfl (.pickT rfl rfl) (zp (.pickT rfl rfl) (zn ?_))))); clear h; intro a w h
     refine cW ?_
     refine Zj h rfl ?_
    rotate_left
    focus
     have hlast : (dg n).length ≤ i + 1 := dF hc28
     refine gL h (zq 28 rfl rfl (.move rfl) (zq 28 rfl rfl (.gtr rfl rfl) (zq 22 rfl rfl (.pickF rfl rfl) (zp (.pickT rfl rfl) (zn ?_))))); clear h; intro a w h
     refine cW ?_
     refine Zb h rfl (fun hc32 => ?_) (fun hc32 => ?_)
     rotate_left
     ·
      skip
      have hex : 4 ≤ k ∨ ((dg n).length ≤ i + 1 ∧ ((dg n).getD i 0) / 10 ^ k = 0) := .inr ⟨hlast, by have := of_decide_eq_false hc32; omega⟩
      refine gC h (ze (zr (zm rfl (zp (.pN (i + 1) (.add rfl rfl)) (za rfl (zn ?_)))))); clear h; intro a w h
      rw [Qb2 hlt_i hk hp hex] at h
      exact ⟨i + 1, ⟨oo, (h.factsSub (by simp)).sub sA⟩, oo⟩
     have hpos : 0 < ((dg n).getD i 0) / 10 ^ k := dT hc32
    all_goals
     refine gC h (zk (zs (zb (zS (zm rfl (zp (Pure1.cast (v' := .int .i64 ((n / 10 ^ (4 * i + k) % 10 : Nat) : Int)) (.binOp rfl rfl (fun _ => Zai _ _ _ _ _ dd)) (by rw [show (10 : Int) = ((10 : Nat) : Int) from rfl, Kd, Zzl n i k hk4])) (zp (.pN (48 + n / 10 ^ (4 * i + k) % 10) (Pure1.cast (v' := (.int .i64 ((48 + (n / 10 ^ (4 * i + k) % 10) : Nat) : Int))) (.add rfl rfl) (by show Value.int _ _ = Value.int _ _; congr 1))) (zp (.convert rfl (Zpl _ (wrap_u8 _ oo oo))) (zp (.convert rfl (Zpk _ oo)) (zm rfl (zp (.binOp rfl rfl (fun _ => Qx _ _ _ _ _ (by rw [hsz, Zkg]; omega))) (za rfl (zn (zr (zm rfl (zp (Pure1.cast (v' := .int .i64 ((((dg n).getD i 0) / 10 ^ (k + 1) : Nat) : Int)) (.binOp rfl rfl (fun _ => Vl _ _ _ _ _ dd)) (by rw [show (10 : Int) = ((10 : Nat) : Int) from rfl, Yc, wrap_i64 _ oo oo, Nat.div_div_eq_div_mul, ← Nat.pow_succ])) (za rfl (zn (zr (zm rfl (zp (.pN (k + 1) (.add rfl rfl)) (za rfl (zn ?_))))))))))))))))))))))); clear h; intro a w h
     rw [Zv7] at h
     exact ⟨k + 1, ⟨⟨oo, fun _ => .inr (by first | assumption | omega)⟩, by exact h.sub sA⟩, oo⟩
   ·
    skip
    have hex : 4 ≤ k ∨ ((dg n).length ≤ i + 1 ∧ ((dg n).getD i 0) / 10 ^ k = 0) := .inl (dF hc22)
    refine gL h (zo 22 rfl rfl rfl (zo 22 rfl rfl rfl (zo 22 rfl rfl rfl (zo 22 rfl rfl rfl (zo 22 rfl rfl rfl (zo 22 rfl rfl rfl (zu 28 rfl rfl (zu 28 rfl rfl (zo 22 rfl rfl rfl (zp (.pickF rfl rfl) (zn ?_))))))))))); clear h; intro a w h
    refine cW ?_
    refine Ze h rfl ?_
    refine gC h (ze (zr (zm rfl (zp (.pN (i + 1) (.add rfl rfl)) (za rfl (zn ?_)))))); clear h; intro a w h
    rw [Qb2 hlt_i hk hp hex] at h
    exact ⟨i + 1, ⟨oo, (h.factsSub (by simp)).sub sA⟩, oo⟩
  ·
   skip
   have heq_i : (dg n).length = i := dF hc13
   subst heq_i
   refine gC h (ze (zS (zm rfl (za rfl (zn (zt ?_)))))); clear h; intro a w h
   refine Jk h (Zd h rfl (.tmp rfl)) ?_
   exact congrArg _ (if_pos rfl)
theorem Zsj (ad : Option Addr) (c : Nat) (z : Int) (hn : (dg z.natAbs).length ≤ 300000000000) : Gn Tryz.prog 153 [zV z ad c] [Row ad (List.map Qe (dg z.natAbs))] (.string (Zt2 z)) := by
 refine fn_intro func153 rfl ntmps153 nb ?_
 intro S w0 a hS h
 refine gC h (zS (zx rfl fun b1 => za rfl (zn (zs (zS (zp (.fA rfl Vk) (zd rfl mr isAgg4 sizeOf4 Jn ?_))))))); clear h; intro a w h
 refine wpList_nil ?_
 refine cW ?_
 refine Zb h rfl (fun hc4 => ?_) (fun hc4 => ?_)
 ·
  skip
  have hz : z < 0 := of_decide_eq_true hc4
  refine gC h (zS (zp (.fA rfl Xh) (zd rfl mr isAgg160 sizeOf160 Jy ?_)))
  refine zw [_] rfl call154 (Zll _ _ z.natAbs oo) (zp (.binOp rfl rfl (fun _ => Qx _ _ _ _ _ (by have := Zle z.natAbs; rw [Zkg]; omega))) (za rfl (zn (zt ?_)))); intro a w h
  refine Jk h (Zd h rfl (.tmp rfl)) ?_
  exact congrArg _ (if_pos hz).symm
 ·
  skip
  have hz : ¬ z < 0 := of_decide_eq_false hc4
  refine gC h (zk (zS (zp (.fA rfl Xh) (zd rfl mr isAgg160 sizeOf160 Jy ?_))))
  refine zw [_] rfl call154 (Zll _ _ z.natAbs oo) (za rfl (zn (zt ?_))); intro a w h
  refine Jk h (Zd h rfl (.tmp rfl)) ?_
  exact congrArg _ (if_neg hz).symm
theorem Qeu {n : Nat} (h : (dg n).length = 0) : n = 0 := by have := Zg2 n; rw [h] at this; simpa using this
theorem Zsu (z : Int) : (Zt2 z).size ≤ 4 * (dg z.natAbs).length + 2 := by
 unfold Zt2; have h1 := Zle z.natAbs; have h2 := Zkg 45
 split
 · rw [ByteArray.size_append]; omega
 · omega
theorem Qbd (a1 a2 : Option Addr) (c1 c2 : Nat) (x : Rat) (hx : Jr x ≤ 100000000000) : Gn Tryz.prog 106 [fV x a1 c1 a2 c2] [Row a1 (List.map Qe (dg x.num.natAbs)), Row a2 (List.map Qe (dg (x.den - 1)))] (.string (Ks x)) := by
 obtain ⟨hq1, hq2, hq3⟩ := dgQ hx
 have hs1 := Zsu x.num
 have hs2 := Zle x.den
 have hs3 := Zkg 47
 refine fn_intro func106 rfl ntmps106 nb ?_
 intro S w0 a hS h
 refine gC h (zS (zx rfl fun b1 => za rfl (zn (zs (zS (zp (.fA rfl Zk6) (zd rfl mr isAgg160 sizeOf160 Gh ?_)))))))
 refine zp (.builtin [_] rfl (Zq _ _ _)) (zp (.eql rfl rfl) (zn ?_)); intro a w h
 refine cW ?_
 refine Zb h rfl (fun hc6 => ?_) (fun hc6 => ?_)
 ·
  skip
  have hd : x.den = 1 := by have := Qeu (Zcj hc6); have := x.den_pos; omega
  refine gC h (zS (zp (.fA rfl Kq) (zd rfl mr isAgg162 sizeOf162 Js ?_)))
  refine zw [_] rfl call153 (Zsj _ _ x.num oo) (za rfl (zn (zt ?_))); intro a w h
  refine Jk h (Zd h rfl (.tmp rfl)) ?_
  exact congrArg _ (if_pos hd).symm
 ·
  skip
  have hd : ¬ x.den = 1 := fun e => Zbn hc6 (by rw [e]; show (dg 0).length = 0; rw [Qv]; rfl)
  refine gC h (zk (zs (yD Za [0, 1, 4, 2, 3, 5, 6, 7, 8] (Zf kk) (yp rfl (.fA rfl Kq) (yd rfl rfl mr isAgg162 sizeOf162 Js ?_))))); clear h
  refine yd rfl rfl mr isAgg164 sizeOf164 Zs ?_
  refine yw [_] rfl rfl call153 (Zsj _ _ x.num oo) (yp rfl (.binOp rfl rfl (fun _ => Qx _ _ _ _ _ oo)) (yf [_] rfl rfl call149 (Zgi _ _ _ _ x oo) ?_)); rintro v15 Ψ15 ⟨ad15, c15, rfl, hle15, rfl⟩
  refine yw [_] rfl rfl call154 (Zll _ _ x.den oo) (yp rfl (.binOp rfl rfl (fun _ => Qx _ _ _ _ _ (by rw [ByteArray.size_append]; omega))) (yp rfl (.assign rfl) (yn (zt ?_)))); intro a w h
  refine Jk h (Zd h rfl (.tmp rfl)) ?_
  exact congrArg _ (if_neg hd).symm
end
section
def upQ (q : Rat) : Nat → Rat
 | 0 => q
 | p + 1 => upQ q p * (((p + 1 : Nat) : Int) : Rat)
def downQ (q : Rat) : Nat → Rat
 | 0 => q
 | n + 1 => downQ q n / (((n + 1 : Nat) : Int) : Rat)
def ratioQ (n : Nat) (l : List Nat) : Rat := downQ (l.foldl upQ 1) n
def momentQ (i j k : Nat) : Rat := ((2 : Int) : Rat) * ratioQ (i + j + k + 2) [i, j, k]
theorem Zg1 : Jr 1 ≤ 2 := Jp 1 oo oo
end
section
theorem Zkv (a : Option Addr) (n c : Nat) (w : World) (ty : TypeId) (cs : Array Bool) : (Go.builtin .len #[159] ty cs #[.slice a n c]).run Tryz.prog w = .ok (.value (.int .i64 n)) w := by
 simp [go_sem]
theorem ix_159 (b off n c j : Nat) (h : j < n) (w : World) : (Instr.indexAt 159 (.slice (some ⟨b, off, none⟩) n c) (.int .i64 (j : Int))).run Tryz.prog w = .ok (.pointer (some ⟨b, off + j, none⟩)) w := by
 simpa using Yy runUnderlying159 sizeOf3 b off n c j h w
abbrev enci (x : Int) : Value := .int .i64 x
def orI : List Int → Int
 | [] => 0
 | x :: l => if x ≠ 0 then x else orI l
theorem Zvx : ∀ (l : List Int) (i : Nat), (∀ j, j < i → l.getD j 0 = 0) → i < l.length → l.getD i 0 ≠ 0 → orI l = l.getD i 0
 | [], i, _, h, _ => by simp at h
 | x :: l, 0, _, _, h => by rw [orI]; exact if_pos (by simpa using h)
 | x :: l, i + 1, hz, hl, h => by
  have h0 : x = 0 := by simpa using hz 0 oo
  rw [orI, if_neg (by simp [h0]), Zvx l i (fun j hj => by simpa using hz (j + 1) oo) (by simpa using hl) (by simpa using h)]
  simp
theorem Zq1 : ∀ (l : List Int), (∀ j, j < l.length → l.getD j 0 = 0) → orI l = 0
 | [], _ => rfl
 | x :: l, hz => by
  have h0 : x = 0 := by simpa using hz 0 ss
  rw [orI, if_neg (by simp [h0]), Zq1 l (fun j hj => by simpa using hz (j + 1) (by simpa using hj))]
def idxN : List Rat → Nat → Int
 | [], _ => -1
 | x :: l, i => if x.num.sign < 0 then (i : Int) else idxN l (i + 1)
def cfN (E : List Rat) (i k : Nat) : Int := orI [(E.getD k 0 - E.getD i 0).num.sign, Zpp (i : Int) (k : Int)]
theorem C_Or (ad : Option Addr) (c : Nat) (l : List Int) (hn : l.length ≤ 1000) : Gn Tryz.prog 81 [.slice ad l.length c] [Row ad (List.map enci l)] (.int .i64 (orI l)) := by
 refine fn_intro func81 rfl ntmps81 nb ?_
 intro S w0 a hS h
 refine gC h (zS (za rfl (zn (zS (za rfl (zn (zs (zS (zm rfl (zp (.builtin [_] rfl (Zkv _ _ _)) (zm rfl (zn (zb ?_))))))))))))); clear h; intro a w h
 refine Zi (fun (i : Nat) a w => i ≤ l.length ∧ (∀ j, j < i → l.getD j 0 = 0) ∧ St 18 S w0 [(3, .int .i64 0), (6, .slice ad l.length c), (7, nI l.length), (8, nI i)] [] [Row ad (List.map enci l)] a w) (fun i => l.length - i) 0 (⟨Nat.zero_le _, fun j hj => absurd hj oo, by exact (h).sub sA⟩) ?_; clear h
 rintro i a w ⟨hi_i, hinv_i, h⟩
 refine gC h (zS (zp (.lss rfl rfl) (zn (zs ?_)))); clear h; intro a w h
 refine Zb h rfl (fun hc9 => ?_) (fun hc9 => ?_)
 ·
  skip
  have hlt_i : i < l.length := dT hc9
  obtain ⟨B_ad, O_ad, rfl⟩ := h.row_addr (ad := ad) (M := List.map enci l) mm nF
  refine gC h (zk (zs (zb (zS (zp (.indexAddr rfl rfl (ix_159 _ _ _ _ _ oo)) (zD rfl mm (by rw [List.length_map]; omega) isAgg3 sizeOf3 (Zv (enc := enci) (l := l) 0 oo) (.inr rfl) ?_))))))
  refine za rfl (zn (zS (zm rfl (zm rfl (zp (.neq rfl rfl) ?_))))); intro a w h
  refine Zg h (fun hc14 h => ?_) (fun hc14 h => ?_)
  ·
   skip
   refine wpList_nil ?_
   refine cW ?_
   refine Zj h rfl ?_
   refine gC h (zS (zm rfl (za rfl (zn (zt ?_))))); clear h; intro a w h
   refine Jk h (Zd h rfl (.tmp rfl)) ?_
   rw [Zvx l i hinv_i hlt_i (by simpa using hc14)]
  ·
   skip
   refine wpList_nil ?_
   refine cW ?_
   refine Ze h rfl ?_
   refine gC h (zk (zr (zp (.pN (i + 1) (.add rfl rfl)) (zm rfl (zn ?_))))); clear h; intro a w h
   exact ⟨i + 1, ⟨oo, fun j hj => by
    rcases Nat.lt_or_ge j i with h1 | h1
    · exact hinv_i j h1
    · rw [show j = i by omega]; simpa using hc14, (h.factsSub (by simp)).sub sA⟩, oo⟩
 ·
  skip
  have heq_i : l.length = i := dF hc9
  subst heq_i
  refine gC h (ze (zS (zm rfl (za rfl (zn (zt ?_)))))); clear h; intro a w h
  refine Jk h (Zd h rfl (.tmp rfl)) ?_
  rw [Zq1 l hinv_i]
end
section
structure Tm where
 i : Nat
 j : Nat
 c : Rat
theorem Tm.ext' {s t : Tm} (h1 : s.i = t.i) (h2 : s.j = t.j) (h3 : s.c = t.c) : s = t := by cases s; cases t; simp_all
instance : DecidableEq Tm := fun s t => decidable_of_iff (s.i = t.i ∧ s.j = t.j ∧ s.c = t.c) ⟨fun h => Tm.ext' h.1 h.2.1 h.2.2, fun h => by rw [h]; exact ⟨rfl, rfl, rfl⟩⟩
def lin (φ : Nat → Nat → Rat) : List Tm → Rat
 | [] => 0
 | t :: l => t.c * φ t.i t.j + lin φ l
theorem Zfx (φ : Nat → Nat → Rat) : lin φ [] = 0 := rfl
theorem Zz7 (φ : Nat → Nat → Rat) (t : Tm) (l : List Tm) : lin φ (t :: l) = t.c * φ t.i t.j + lin φ l := rfl
theorem Xp (φ : Nat → Nat → Rat) : ∀ l m : List Tm, lin φ (l ++ m) = lin φ l + lin φ m
 | [], m => by simp only [List.nil_append, lin]; grind
 | t :: l, m => by simp only [List.cons_append, lin, Xp φ l m]; grind
theorem Zkt (φ : Nat → Nat → Rat) {l m : List Tm} (h : l.Perm m) : lin φ l = lin φ m := by
 induction h with
 | nil => rfl
 | cons x _ ih => simp only [lin, ih]
 | swap x y l => simp only [lin]; grind
 | trans _ _ h1 h2 => rw [h1, h2]
theorem Zhv {φ ψ : Nat → Nat → Rat} : ∀ {l : List Tm}, (∀ t ∈ l, φ t.i t.j = ψ t.i t.j) → lin φ l = lin ψ l
 | [], _ => rfl
 | t :: l, h => by rw [lin, lin, h t List.mem_cons_self, Zhv (fun s hs => h s (List.mem_cons_of_mem _ hs))]
theorem Zks (a : Rat) (φ : Nat → Nat → Rat) : ∀ l : List Tm, lin (fun i j => a * φ i j) l = a * lin φ l
 | [] => by simp only [lin]; grind
 | t :: l => by simp only [lin, Zks a φ l]; grind
theorem Zku (φ : Nat → Nat → Rat) (g : Tm → Tm) (ψ : Nat → Nat → Rat) : ∀ l : List Tm, (∀ t ∈ l, (g t).c * φ (g t).i (g t).j = t.c * ψ t.i t.j) → lin φ (l.map g) = lin ψ l
 | [], _ => rfl
 | t :: l, h => by rw [List.map_cons, lin, lin, h t List.mem_cons_self, Zku φ g ψ l (fun s hs => h s (List.mem_cons_of_mem _ hs))]
theorem Zd3 (φ : Nat → Nat → Rat) (g : Tm → List Tm) (ψ : Nat → Nat → Rat) : ∀ l : List Tm, (∀ t ∈ l, lin φ (g t) = t.c * ψ t.i t.j) → lin φ (l.flatMap g) = lin ψ l
 | [], _ => rfl
 | t :: l, h => by rw [List.flatMap_cons, Xp, lin, h t List.mem_cons_self, Zd3 φ g ψ l (fun s hs => h s (List.mem_cons_of_mem _ hs))]
def same (s t : Tm) : Prop := s.i = t.i ∧ s.j = t.j
instance (s t : Tm) : Decidable (same s t) := inferInstanceAs (Decidable (_ ∧ _))
def Zb0 (t : Tm) : List Tm → List Tm
 | [] => [⟨t.i, t.j, 0 + t.c⟩]
 | s :: p => if same s t then ⟨s.i, s.j, s.c + t.c⟩ :: p else s :: Zb0 t p
theorem Zrf (φ : Nat → Nat → Rat) (t : Tm) : ∀ p : List Tm, lin φ (Zb0 t p) = lin φ p + t.c * φ t.i t.j
 | [] => by simp only [Zb0, lin]; grind
 | s :: p => by
  rw [Zb0]
  split
  · rename_i h; obtain ⟨h1, h2⟩ := h; simp only [lin, h1, h2]; grind
  · simp only [lin, Zrf φ t p]; grind
theorem Zky {t u : Tm} : ∀ {p : List Tm}, u ∈ Zb0 t p → same u t ∨ u ∈ p
 | [], h => by simp only [Zb0, List.mem_singleton] at h; subst h; exact .inl ⟨rfl, rfl⟩
 | s :: p, h => by
  rw [Zb0] at h
  split at h
  ·
   rename_i h2
   rcases List.mem_cons.1 h with rfl | h
   · exact .inl h2
   · exact .inr (List.mem_cons_of_mem _ h)
  ·
   rcases List.mem_cons.1 h with rfl | h
   · exact .inr List.mem_cons_self
   · exact (Zky h).imp id (List.mem_cons_of_mem _)
def dif (p : List Tm) : Prop := p.Pairwise (fun s t => ¬ same s t)
theorem Zrk (t : Tm) : ∀ {p : List Tm}, dif p → dif (Zb0 t p)
 | [], _ => by rw [Zb0]; exact List.pairwise_singleton _ _
 | s :: p, h => by
  obtain ⟨h1, h2⟩ := List.pairwise_cons.1 h
  rw [Zb0]
  split
  · rename_i hs; exact List.pairwise_cons.2 ⟨fun u hu hc => h1 u hu hc, h2⟩
  ·
   rename_i hs
   refine List.pairwise_cons.2 ⟨fun u hu => ?_, Zrk t h2⟩
   rcases Zky hu with h3 | h3
   · exact fun h4 => hs ⟨h4.1.trans h3.1, h4.2.trans h3.2⟩
   · exact h1 u h3
theorem Zrj (t : Tm) : ∀ p : List Tm, (Zb0 t p).length ≤ p.length + 1
 | [] => Nat.le_refl _
 | s :: p => by
  have h := Zrj t p
  rw [Zb0]; split <;> simp only [List.length_cons] <;> omega
def collect (l : List Tm) : List Tm := l.foldl (fun p t => Zb0 t p) []
theorem Zih (φ : Nat → Nat → Rat) : ∀ (l p : List Tm), lin φ (l.foldl (fun p t => Zb0 t p) p) = lin φ p + lin φ l
 | [], p => by simp only [List.foldl_nil, lin]; grind
 | t :: l, p => by rw [List.foldl_cons, Zih φ l, Zrf, lin]; grind
theorem Zhw (φ : Nat → Nat → Rat) (l : List Tm) : lin φ (collect l) = lin φ l := by
 rw [collect, Zih, lin]; grind
theorem Zda : ∀ (l : List Tm) {p : List Tm}, dif p → dif (l.foldl (fun p t => Zb0 t p) p)
 | [], p, h => h
 | t :: l, p, h => by rw [List.foldl_cons]; exact Zda l (Zrk t h)
theorem Zd5 (l : List Tm) : dif (collect l) := Zda l List.Pairwise.nil
theorem Zc8 {u : Tm} : ∀ (l : List Tm) {p : List Tm}, u ∈ l.foldl (fun p t => Zb0 t p) p → u ∈ p ∨ ∃ t ∈ l, same u t
 | [], p, h => .inl h
 | t :: l, p, h => by
  rw [List.foldl_cons] at h
  rcases Zc8 l h with h1 | ⟨s, hs, h1⟩
  ·
   rcases Zky h1 with h2 | h2
   · exact .inr ⟨t, List.mem_cons_self, h2⟩
   · exact .inl h2
  · exact .inr ⟨s, List.mem_cons_of_mem _ hs, h1⟩
theorem Zcf {l : List Tm} {u : Tm} (h : u ∈ collect l) : ∃ t ∈ l, same u t := by
 rcases Zc8 l h with h | h
 · cases h
 · exact h
theorem Zc9 : ∀ (l p : List Tm), (l.foldl (fun p t => Zb0 t p) p).length ≤ p.length + l.length
 | [], p => Nat.le_refl _
 | t :: l, p => by rw [List.foldl_cons]; have := Zc9 l (Zb0 t p); have := Zrj t p; simp only [List.length_cons]; omega
theorem Zd4 (l : List Tm) : (collect l).length ≤ l.length := by have := Zc9 l []; simpa [collect] using this
def ltT (s t : Tm) : Bool := decide (s.i + s.j < t.i + t.j ∨ (s.i + s.j = t.i + t.j ∧ s.j < t.j))
theorem Zam (s t : Tm) : ltT s t = true ↔ (s.i + s.j < t.i + t.j ∨ (s.i + s.j = t.i + t.j ∧ s.j < t.j)) := decide_eq_true_iff
theorem Zfw (s : Tm) : ltT s s = false := by rw [Bool.eq_false_iff, Ne, Zam]; omega
theorem Zeo {s t u : Tm} (h1 : ltT s t = true) (h2 : ltT t u = true) : ltT s u = true := by rw [Zam] at *; omega
theorem Zfv {s t u : Tm} (h1 : ltT s t = false) (h2 : ltT t u = false) : ltT s u = false := by rw [Bool.eq_false_iff, Ne, Zam] at *; omega
theorem Zc0 {s t : Tm} (h1 : ltT s t = false) (h2 : ltT t s = false) : same s t := by
 rw [Bool.eq_false_iff, Ne, Zam] at *; unfold same; omega
def Nrm (p : List Tm) : Prop := (∀ t ∈ p, t.c ≠ 0) ∧ p.Pairwise (fun s t => ltT s t = true)
def norm (l : List Tm) : List Tm := ((collect l).filter (fun t => decide (t.c ≠ 0))).mergeSort (fun s t => !ltT t s)
theorem Zbp (φ : Nat → Nat → Rat) : ∀ l : List Tm, lin φ (l.filter (fun t => decide (t.c ≠ 0))) = lin φ l
 | [] => rfl
 | t :: l => by
  rw [List.filter_cons]
  split
  · rw [lin, lin, Zbp φ l]
  ·
   rename_i h
   have h0 : t.c = 0 := by simpa using h
   rw [lin, Zbp φ l, h0]; grind
theorem Vj (φ : Nat → Nat → Rat) (l : List Tm) : lin φ (norm l) = lin φ l := by
 rw [norm, Zkt φ (List.mergeSort_perm _ _), Zbp, Zhw]
theorem Zel {l : List Tm} {u : Tm} (h : u ∈ norm l) : u ∈ collect l ∧ u.c ≠ 0 := by
 have := (List.mergeSort_perm _ _).mem_iff.1 h
 rw [List.mem_filter] at this
 exact ⟨this.1, by simpa using this.2⟩
theorem Yd (l : List Tm) : Nrm (norm l) := by
 refine ⟨fun t ht => (Zel ht).2, ?_⟩
 have hd : dif (norm l) := by
  have h1 : dif ((collect l).filter (fun t => decide (t.c ≠ 0))) := List.Pairwise.filter _ (Zd5 l)
  refine (List.Perm.pairwise_iff (fun {x y} h h2 => h ⟨h2.1.symm, h2.2.symm⟩) (List.mergeSort_perm _ _)).2 h1
 have hs := List.pairwise_mergeSort (le := fun s t => !ltT t s) (fun a b c h1 h2 => by
   simp only [Bool.not_eq_true'] at *
   exact Zfv h2 h1) (fun a b => by
   rcases h : ltT b a with _ | _
   · simp
   ·
    have : ltT a b = false := by rw [Bool.eq_false_iff]; intro h2; have := Zeo h h2; rw [Zfw] at this; cases this
    simp [this]) ((collect l).filter (fun t => decide (t.c ≠ 0)))
 refine List.Pairwise.imp₂ (fun s t h1 h2 => ?_) hs hd
 rcases h : ltT s t with _ | _
 · exact absurd (Zc0 h (by simpa using h1)) h2
 · rfl
def at0 (a b : Nat) : Nat → Nat → Rat := fun i j => if i = a ∧ j = b then 1 else 0
theorem Ya {a b : Nat} : ∀ {l : List Tm}, (∀ t ∈ l, ¬ (t.i = a ∧ t.j = b)) → lin (at0 a b) l = 0
 | [], _ => rfl
 | t :: l, h => by
  rw [lin, Ya (fun s hs => h s (List.mem_cons_of_mem _ hs)), at0, if_neg (h t List.mem_cons_self)]; grind
theorem Zkp {t : Tm} {p : List Tm} (h : Nrm (t :: p)) : Nrm p := ⟨fun s hs => h.1 s (List.mem_cons_of_mem _ hs), (List.pairwise_cons.1 h.2).2⟩
theorem Za1 {t : Tm} {p : List Tm} (h : Nrm (t :: p)) : lin (at0 t.i t.j) (t :: p) = t.c := by
 rw [lin, Ya (fun s hs => ?_), at0, if_pos ⟨rfl, rfl⟩]
 · grind
 ·
  have := (List.pairwise_cons.1 h.2).1 s hs
  rw [Zam] at this; omega
theorem Zq5 {s t : Tm} {q : List Tm} (h : ltT s t = true) (hq : Nrm (t :: q)) : lin (at0 s.i s.j) (t :: q) = 0 := by
 refine Ya (fun u hu => ?_)
 have hu' : ltT s u = true := by
  rcases List.mem_cons.1 hu with rfl | hu
  · exact h
  · exact Zeo h ((List.pairwise_cons.1 hq.2).1 u hu)
 rw [Zam] at hu'; omega
theorem Zfu : ∀ {p q : List Tm}, Nrm p → Nrm q → (∀ φ, lin φ p = lin φ q) → p = q
 | [], [], _, _, _ => rfl
 | [], t :: q, _, hq, h => by
  have h1 := h (at0 t.i t.j)
  rw [Za1 hq, Zfx] at h1
  exact absurd h1.symm (hq.1 t List.mem_cons_self)
 | s :: p, [], hp, _, h => by
  have h1 := h (at0 s.i s.j)
  rw [Za1 hp, Zfx] at h1
  exact absurd h1 (hp.1 s List.mem_cons_self)
 | s :: p, t :: q, hp, hq, h => by
  have hst : same s t := by
   refine Zc0 ?_ ?_
   ·
    rw [Bool.eq_false_iff]; intro hc
    have h1 := h (at0 s.i s.j)
    rw [Za1 hp, Zq5 hc hq] at h1
    exact hp.1 s List.mem_cons_self h1
   ·
    rw [Bool.eq_false_iff]; intro hc
    have h1 := h (at0 t.i t.j)
    rw [Za1 hq, Zq5 hc hp] at h1
    exact hq.1 t List.mem_cons_self h1.symm
  have hc : s.c = t.c := by
   have h1 := h (at0 s.i s.j)
   rw [Za1 hp, hst.1, hst.2, Za1 hq] at h1
   exact h1
  have e := Tm.ext' hst.1 hst.2 hc
  subst e
  rw [Zfu (Zkp hp) (Zkp hq) (fun φ => by have := h φ; rw [lin, lin] at this; grind)]
theorem Vn {l m : List Tm} (h : ∀ φ, lin φ l = lin φ m) : norm l = norm m :=
 Zfu (Yd l) (Yd m) (fun φ => by rw [Vj, Vj, h])
theorem Zd1 {p : List Tm} (h : Nrm p) : norm p = p := Zfu (Yd p) h (fun φ => Vj φ p)
end
section
def evP (l : List Tm) (x y : Rat) : Rat := lin (fun i j => x ^ i * y ^ j) l
def Vh (a b : List Tm) : List Tm := a.flatMap (fun s => b.map (fun t => ⟨s.i + t.i, s.j + t.j, s.c * t.c⟩))
theorem Zre (φ : Nat → Nat → Rat) (a b : List Tm) : lin φ (Vh a b) = lin (fun i j => lin (fun p q => φ (i + p) (j + q)) b) a := by
 unfold Vh
 refine Zd3 φ _ _ a (fun s _ => ?_)
 rw [Zku φ _ (fun p q => s.c * φ (s.i + p) (s.j + q)) b (fun t _ => by simp only; grind), Zks]
def Zea (p : List Tm) : Nat → List Tm
 | 0 => [⟨0, 0, 1⟩]
 | n + 1 => Vh (Zea p n) p
def Qj (c : Rat) (l : List Tm) : List Tm := l.map (fun t => ⟨t.i, t.j, c * t.c⟩)
theorem Vu (φ : Nat → Nat → Rat) (c : Rat) (l : List Tm) : lin φ (Qj c l) = c * lin φ l := by
 unfold Qj
 rw [← Zks]
 exact Zku φ _ _ l (fun t _ => by simp only; grind)
def sbL (X Y : List Tm) (l : List Tm) : List Tm := l.flatMap (fun t => Qj t.c (Vh (Zea X t.i) (Zea Y t.j)))
theorem Zwc (φ : Nat → Nat → Rat) (X Y l : List Tm) : lin φ (sbL X Y l) = lin (fun i j => lin φ (Vh (Zea X i) (Zea Y j))) l := by
 unfold sbL
 exact Zd3 φ _ _ l (fun t _ => by rw [Vu])
def dxL (l : List Tm) : List Tm := l.map (fun t => ⟨t.i - 1, t.j, t.c * ((t.i : Int) : Rat)⟩)
def dyL (l : List Tm) : List Tm := l.map (fun t => ⟨t.i, t.j - 1, t.c * ((t.j : Int) : Rat)⟩)
theorem Zwd (φ : Nat → Nat → Rat) (l : List Tm) : lin φ (dyL l) = lin (fun i j => ((j : Int) : Rat) * φ i (j - 1)) l :=
 Zku φ _ _ l (fun t _ => by simp only; grind)
theorem Zr4 (a b : Nat) : (((a + b : Nat) : Int) : Rat) = ((a : Int) : Rat) + ((b : Int) : Rat) := by
 rw [Int.natCast_add, Rat.intCast_add]
theorem Qa4 : (((1 : Nat) : Int) : Rat) = 1 := rfl
def Eqv (l m : List Tm) : Prop := ∀ φ, lin φ l = lin φ m
theorem Eqv.rfl' {l : List Tm} : Eqv l l := fun _ => rfl
theorem Eqv.symm {l m : List Tm} (h : Eqv l m) : Eqv m l := fun φ => (h φ).symm
theorem Eqv.trans {l m k : List Tm} (h : Eqv l m) (h2 : Eqv m k) : Eqv l k := fun φ => (h φ).trans (h2 φ)
theorem Eqv.nrm (l : List Tm) : Eqv (norm l) l := fun φ => Vj φ l
theorem Eqv.mul {a b a' b' : List Tm} (h : Eqv a a') (h2 : Eqv b b') : Eqv (Vh a b) (Vh a' b') := fun φ => by
 rw [Zre, Zre, h]
 exact Zhv (fun s _ => h2 _)
theorem Eqv.append {a b a' b' : List Tm} (h : Eqv a a') (h2 : Eqv b b') : Eqv (a ++ b) (a' ++ b') := fun φ => by rw [Xp, Xp, h, h2]
theorem Eqv.scale {a a' : List Tm} (c : Rat) (h : Eqv a a') : Eqv (Qj c a) (Qj c a') := fun φ => by rw [Vu, Vu, h]
theorem Eqv.dy {a a' : List Tm} (h : Eqv a a') : Eqv (dyL a) (dyL a') := fun φ => by rw [Zwd, Zwd, h]
theorem Eqv.pow {a a' : List Tm} (h : Eqv a a') : ∀ n, Eqv (Zea a n) (Zea a' n)
 | 0 => Eqv.rfl'
 | n + 1 => (Eqv.pow h n).mul h
theorem Eqv.sub {X Y l X' Y' l' : List Tm} (hX : Eqv X X') (hY : Eqv Y Y') (h : Eqv l l') : Eqv (sbL X Y l) (sbL X' Y' l') := fun φ => by
 rw [Zwc, Zwc, h]
 exact Zhv (fun s _ => ((hX.pow _).mul (hY.pow _)) φ)
theorem Eqv.val {l m : List Tm} (h : Eqv l m) (x y : Rat) : evP l x y = evP m x y := h _
theorem Eqv.eq {l m : List Tm} (h : Eqv l m) : norm l = norm m := Vn h
def pv (a : Nat → Rat) (x : Rat) : Nat → Rat
 | 0 => 0
 | n + 1 => pv a x n + a n * x ^ n
def topE : List Tm → Nat
 | [] => 0
 | t :: l => max (max (t.i + 1) (t.j + 1)) (topE l)
theorem Qan {l : List Tm} (h : ∀ a b, lin (at0 a b) l = 0) : ∀ φ, lin φ l = 0 := by
 intro φ
 rw [← Vj]
 have hn := Yd l
 rcases hl : norm l with _ | ⟨t, p⟩
 · rfl
 ·
  rw [hl] at hn
  have h1 := Za1 hn
  rw [← hl, Vj, h] at h1
  exact absurd h1.symm (hn.1 t List.mem_cons_self)
end
section
def ln (a b c : Rat) : List Tm := [⟨1, 0, a⟩, ⟨0, 1, b⟩, ⟨0, 0, c⟩]
def shL (p : List Tm) (ax bx cx ay by' cy : Rat) : List Tm := sbL (ln ax bx cx) (ln ay by' cy) p
def lam (i j : Nat) : Rat := ((1 : Int) : Rat) / (((i + 1 : Nat) : Int) : Rat)
def bt : Nat → Nat → Rat
 | 0, j => lam j 0
 | i + 1, j => bt i j - bt i (j + 1)
def mu (i j : Nat) : Rat := bt (i + 1) j / (((i + 1 : Nat) : Int) : Rat)
def W1 : List Tm := [⟨0, 0, 1⟩, ⟨1, 0, -1⟩]
def X1 : List Tm := [⟨1, 0, 1⟩]
abbrev Pt := Rat × Rat
def twQ (a b c : Pt) : Rat := (b.1 - a.1) * (c.2 - a.2) - (c.1 - a.1) * (b.2 - a.2)
def segQ (p : List Tm) (a b : Pt) : Rat := lin lam (shL p (b.1 - a.1) 0 a.1 (b.2 - a.2) 0 a.2)
def Zyy (p : List Tm) (a b c : Pt) : Rat := twQ a b c * lin mu (shL p (b.1 - a.1) (c.1 - a.1) a.1 (b.2 - a.2) (c.2 - a.2) a.2)
def flowQ (g h : List Tm) (a b : Pt) : Rat := (b.2 - a.2) * segQ g a b - (b.1 - a.1) * segQ h a b
end
section
theorem Zy7 {p q : List Tm} (h : Eqv p q) (a b c : Pt) : Zyy p a b c = Zyy q a b c := by
 unfold Zyy shL; rw [(Eqv.sub Eqv.rfl' Eqv.rfl' h) mu]
def prL (p : List Tm) : List Tm := p.map (fun t => ⟨t.i + 1, t.j, t.c / (((t.i + 1 : Nat) : Int) : Rat)⟩)
def fanQ (p : List Tm) (a : Pt) : List Pt → Rat
 | b :: c :: l => Zyy p a b c + fanQ p a (c :: l)
 | _ => 0
def pathQ (f : Pt → Pt → Rat) : List Pt → Rat
 | a :: b :: l => f a b + pathQ f (b :: l)
 | _ => 0
def cycQ (f : Pt → Pt → Rat) : List Pt → Rat
 | [] => 0
 | a :: l => pathQ f (a :: l ++ [a])
def polyQ (p : List Tm) : List Pt → Rat
 | [] => 0
 | a :: l => fanQ p a l
end
end Go.Proofs.YtgkicbaomcmfoaaGreatDoor
