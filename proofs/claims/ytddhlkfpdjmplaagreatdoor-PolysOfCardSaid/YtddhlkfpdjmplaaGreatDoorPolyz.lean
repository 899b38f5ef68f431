/- Written by a program of ours (gen.py) out of short specifications. By an AI agent. -/
import Derived.Test.YtddhlkfpdjmplaaGreatDoorSameg
set_option linter.unusedVariables false
set_option linter.unusedSimpArgs false
set_option maxRecDepth 4000
namespace Go.Proofs.YtddhlkfpdjmplaaGreatDoor
open Go Go.Proofs Go.Fx
attribute [local irreducible] Oper.wp Code.wp wpList Fx.Head wpOp
def tmZ (t : Tz) : Tm := ⟨t.i.toNat, t.j.toNat, t.c⟩
def toZ (t : Tm) : Tz := ⟨(t.i : Int), (t.j : Int), t.c⟩
theorem Tz.ext' {s t : Tz} (h1 : s.i = t.i) (h2 : s.j = t.j) (h3 : s.c = t.c) : s = t := by cases s; cases t; simp_all
instance : DecidableEq Tz := fun s t => decidable_of_iff (s.i = t.i ∧ s.j = t.j ∧ s.c = t.c) ⟨fun ⟨a, b, c⟩ => Tz.ext' a b c, fun h => h ▸ ⟨rfl, rfl, rfl⟩⟩
theorem tmZ_toZ (t : Tm) : tmZ (toZ t) = t := Tm.ext' (Int.toNat_natCast _) (Int.toNat_natCast _) rfl
theorem mayZ_0 {t : Tz} : mayZ t = 0 ↔ 0 ≤ t.i ∧ 0 ≤ t.j ∧ t.i + t.j ≤ 12 := by
  unfold mayZ
  split
  · constructor
    · intro h; cases h
    · intro h; omega
  · split
    · constructor
      · intro h; cases h
      · intro h; omega
    · constructor
      · intro _; omega
      · intro _; rfl
theorem toZ_tmZ {t : Tz} (h : mayZ t = 0) : toZ (tmZ t) = t := by
  obtain ⟨h1, h2, _⟩ := mayZ_0.1 h
  exact Tz.ext' (Int.toNat_of_nonneg h1) (Int.toNat_of_nonneg h2) rfl
theorem encT_toZ (t : Tm) : encTz (toZ t) = encT t := rfl
theorem cells_toZ (l : List Tm) : cellsOf encTz (l.map toZ) = cellsOf encT l := by
  unfold cellsOf; rw [List.flatMap_map]; rfl
theorem firstZ_all : ∀ {Z : List Tz}, firstZ Z = 0 ↔ ∀ t ∈ Z, mayZ t = 0
  | [] => ⟨fun _ => (fun _ h => nomatch h), fun _ => rfl⟩
  | t :: Z => by
    have ih := firstZ_all (Z := Z)
    rw [firstZ]
    by_cases h : mayZ t = 0
    · rw [if_pos h, ih]
      constructor
      · intro h2 s hs
        rcases List.mem_cons.1 hs with rfl | hs
        · exact h
        · exact h2 s hs
      · intro h2 s hs; exact h2 s (List.mem_cons_of_mem _ hs)
    · rw [if_neg h]
      exact ⟨fun h2 => absurd h2 h, fun h2 => h2 t List.mem_cons_self⟩
theorem map_toZ {Z : List Tz} (h : firstZ Z = 0) : (Z.map tmZ).map toZ = Z := by
  rw [List.map_map]
  have : ∀ t ∈ Z, (toZ ∘ tmZ) t = id t := fun t ht => toZ_tmZ (firstZ_all.1 h t ht)
  rw [List.map_congr_left this, List.map_id]
theorem cells_Z {Z : List Tz} (h : firstZ Z = 0) : cellsOf encTz Z = cellsOf encT (Z.map tmZ) := by
  conv => lhs; rw [← map_toZ h]
  exact cells_toZ _
def npZ (Z : List Tz) : List Tm := if firstZ Z = 0 then norm (Z.map tmZ) else []
theorem npZ_ok {Z : List Tz} (h : firstZ Z = 0) : npZ Z = norm (Z.map tmZ) := if_pos h
theorem npZ_bad {Z : List Tz} (h : firstZ Z ≠ 0) : npZ Z = [] := if_neg h
theorem npZ_nrm (Z : List Tz) : Nrm (npZ Z) := by
  unfold npZ; split
  · exact norm_nrm _
  · exact ⟨(fun _ h => nomatch h), List.Pairwise.nil⟩
theorem npZ_norm (Z : List Tz) : norm (npZ Z) = npZ Z := norm_id (npZ_nrm Z)
theorem Z_DL {Z : List Tz} (h : firstZ Z = 0) : DL 12 (Z.map tmZ) := fun t ht => by
  obtain ⟨s, hs, rfl⟩ := List.mem_map.1 ht
  have := mayZ_0.1 (firstZ_all.1 h s hs)
  simp only [tmZ]; omega
theorem Z_KL {Z : List Tz} {K : Nat} (hK : ∀ t ∈ Z, lenQ t.c ≤ K) : KL K (Z.map tmZ) := fun t ht => by
  obtain ⟨s, hs, rfl⟩ := List.mem_map.1 ht
  exact hK s hs
theorem Z_Pq {Z : List Tz} {K m : Nat} (h : firstZ Z = 0) (hK : ∀ t ∈ Z, lenQ t.c ≤ K) (hm : Z.length ≤ m) (hm2 : m ≤ 100) : Pq 12 (m * (K + 1) + 1) (Z.map tmZ) := Pq.raw (Z_DL h) (Z_KL hK) (by rw [List.length_map]; exact hm) hm2
theorem npZ_Pq {Z : List Tz} {K m : Nat} (hK : ∀ t ∈ Z, lenQ t.c ≤ K) (hm : Z.length ≤ m) (hm2 : m ≤ 100) : Pq 12 (m * (K + 1) + 1) (npZ Z) := by
  unfold npZ; split
  · rename_i h; exact (Z_Pq h hK hm hm2).nrm (by decide)
  · exact (Pq.nil 12).mono (Nat.le_refl _) (by omega)
theorem ctrW_nil {P : Program} {f : FuncId} {args : List Value} {Φ : List SPred} {v : Value} (h : CtrW P f args Φ v) : Ctr P f args Φ (fun u Ψ => u = v ∧ Ψ = [Row none (cellsOf encT [])]) := fun X w hX hΦ =>
  (h X w hX hΦ).mono fun e w' ⟨u, Ψ, h1, ⟨h2, _⟩, h3, _⟩ => ⟨u, _, h1, ⟨h2, rfl⟩, h3, fun R hR => by rw [List.mem_singleton.1 hR]; exact fun hne => absurd rfl hne⟩
theorem ctr_Z {P : Program} {f : FuncId} {Z : List Tz} {ad : Option Addr} {c : Nat} {Φ : List SPred} {R : List Value} {post : Value → List SPred → Prop} (hz : firstZ Z = 0)
    (h : Ctr P f (.slice ad (Z.map tmZ).length c :: R) (Row ad (cellsOf encT (Z.map tmZ)) :: Φ) post) : Ctr P f (.slice ad Z.length c :: R) (Row ad (cellsOf encTz Z) :: Φ) post := by
  rw [cells_Z hz]; rw [List.length_map] at h; exact h
theorem C_broughtE (Z : List Tz) (ad : Option Addr) (c : Nat) (hn : Z.length ≤ 100000) (hz : firstZ Z ≠ 0) : CtrW Tryz.prog 82 [.slice ad Z.length c] [Row ad (cellsOf encTz Z)] (.slice none 0 0) := by
  refine fn_intro Tryz.func82 rfl Tryz.ntmps82 nb ?_
  intro S w0 a hS h
  refine gC h (zs (zr (za rfl (zn (zs (zr (zm rfl (zw [_] rfl Tryz.call19 (C_pOfErr Z _ _ hn hz) (zm rfl (zp (.extract rfl (fun _ => rfl)) (zp (.extract rfl (fun _ => rfl)) (za rfl (za rfl (zn (zs (zr (zm rfl (za rfl (zn (zt ?_)))))))))))))))))))); clear h; intro a w h
  refine retV h (results1 h rfl (.tmp rfl)) ?_
  rfl
theorem C_DegreeE (Z : List Tz) (ad : Option Addr) (c : Nat) (hn : Z.length ≤ 100000) (hz : firstZ Z ≠ 0) : CtrW Tryz.prog 23 [.slice ad Z.length c] [Row ad (cellsOf encTz Z)] (.int .i64 (-1)) := by
  refine fn_intro Tryz.func23 rfl Tryz.ntmps23 nb ?_
  intro S w0 a hS h
  refine gC h (zs (zr (za rfl (zn (zs (zr (zm rfl (zw [_] rfl Tryz.call82 (C_broughtE Z _ _ hn hz) (za rfl (zn (zs (zs (zr (zm rfl (zp (.builtin [_] rfl (len_slice_47 _ _ _)) (zp (.eql rfl rfl) (zn ?_))))))))))))))))); clear h; intro a w h
  change Code.wp _ _ _ _ _
  refine cond_split h rfl (fun hc9 => ?_) (fun hc9 => (by exfalso; exact absurd hc9 (by decide)))
  refine gC h (zs (zr (za rfl (zn (zt ?_))))); clear h; intro a w h
  refine retV h (results1 h rfl (.tmp rfl)) ?_
  rfl
theorem C_TextE (Z : List Tz) (ad : Option Addr) (c : Nat) (hn : Z.length ≤ 100000) (hz : firstZ Z ≠ 0) : CtrW Tryz.prog 21 [.slice ad Z.length c] [Row ad (cellsOf encTz Z)] (.string ⟨#[48]⟩) := by
  refine fn_intro Tryz.func21 rfl Tryz.ntmps21 nb ?_
  intro S w0 a hS h
  refine gC h (zs (zr (za rfl (zn (zs (zr (za rfl (zn (zs (zs (zr (zm rfl (zw [_] rfl Tryz.call82 (C_broughtE Z _ _ hn hz) (zp (.builtin [_] rfl (len_slice_47 _ _ _)) (zm rfl (zn (zb ?_))))))))))))))))); clear h; intro a w h
  refine wp_loop_inv (fun (k : Nat) a w => St 75 S w0 [(2, .string (⟨#[]⟩)), (3, .string (⟨#[]⟩)), (10, .slice none 0 0), (11, .int .i64 ((0 : Nat) : Int)), (12, .int .i64 ((0 : Nat) : Int))] [] [Row ad (cellsOf encTz Z)] a w) (fun k => 0) (0) (by exact h.sub sA) ?_; clear h
  rintro k a w h
  refine gC h (zs (zr (zp (.lss rfl rfl) (zn (zs ?_))))); clear h; intro a w h
  refine cond_split h rfl (fun hc13 => (by exfalso; exact absurd hc13 (by decide))) (fun hc13 => ?_)
  refine gC h (ze (zs (zs (zr (zm rfl (zp (.binOp rfl rfl (fun _ => run_seql _ _ _ _ _)) (zn ?_))))))); clear h; intro a w h
  change Code.wp _ _ _ _ _
  refine cond_split h rfl (fun hc73 => ?_) (fun hc73 => (by exfalso; exact absurd hc73 (by decide)))
  refine gC h (zs (zr (za rfl (zn (zt ?_))))); clear h; intro a w h
  refine retV h (results1 h rfl (.tmp rfl)) ?_
  rfl
theorem C_CoefE (Z : List Tz) (ad : Option Addr) (c : Nat) (hn : Z.length ≤ 100000) (hz : firstZ Z ≠ 0) (i j : Int) : CtrW Tryz.prog 28 [.slice ad Z.length c, .int .i64 i, .int .i64 j] [Row ad (cellsOf encTz Z)] (encQ 0) := by
  refine fn_intro Tryz.func28 rfl Tryz.ntmps28 nb ?_
  intro S w0 a hS h
  refine gC h (zs (zr (zz zeroQ fun b6 => zn (zs (zs (zr (zm rfl (zw [_] rfl Tryz.call82 (C_broughtE Z _ _ hn hz) (zp (.builtin [_] rfl (len_slice_47 _ _ _)) (zm rfl (zn (zb ?_)))))))))))); clear h; intro a w h
  refine wp_loop_inv (fun (k : Nat) a w => St 30 S w0 [(1, .int .i64 i), (2, .int .i64 j), (6, .pointer (some ⟨b6, 0, none⟩)), (10, .slice none 0 0), (11, .int .i64 ((0 : Nat) : Int)), (12, .int .i64 ((0 : Nat) : Int))] [(b6, .cells (Value.cells (encQ (0))) 44 (0, 0))] [Row ad (cellsOf encTz Z)] a w) (fun k => 0) (0) (by exact h.sub sA) ?_; clear h
  rintro k a w h
  refine gC h (zs (zr (zp (.lss rfl rfl) (zn (zs ?_))))); clear h; intro a w h
  refine cond_split h rfl (fun hc13 => (by exfalso; exact absurd hc13 (by decide))) (fun hc13 => ?_)
  refine gC h (ze (zs (zr (zp (.build [] rfl (bd_44_z)) (zt' rfl rfl (st_5_0_5 _ _ _ _ _ _ _ _ _ _) uu Tryz.sizeOf44 rfl nb rfl ?_))))); clear h; intro a w h
  refine wpList_nil (wp_ret ?_)
  refine retV h (results1 h rfl (.cell rfl mr Tryz.isAgg44 Tryz.sizeOf44 (rd_5_0_5 _ _ _ _ _))) ?_
  rfl
theorem C_SameE (Z : List Tz) (ad : Option Addr) (c : Nat) (hn : Z.length ≤ 100000) (hz : firstZ Z ≠ 0) (ad2 : Option Addr) (c2 : Nat) : CtrW Tryz.prog 25 [.slice ad Z.length c, .slice ad2 0 c2] [Row ad (cellsOf encTz Z), Row ad2 (cellsOf encT [])] (.bool true) := by
  refine fn_intro Tryz.func25 rfl Tryz.ntmps25 nb ?_
  intro S w0 a hS h
  replace h := h.derive (R := Row none (cellsOf encT [])) (fun X _ hne => absurd rfl hne)
  refine gC h (zs (zr (za rfl (zn (zs (zr (zm rfl (zw [_] rfl Tryz.call82 (C_broughtE Z _ _ hn hz) (zm rfl (zf [_] rfl Tryz.call82 (C_broughtF [] _ _ 12 1 (Pq.nil 12) (by decide) (by decide)) ?_)))))))))); clear h; rintro v8 Ψ8 ⟨ad8, c8, rfl, rfl⟩ a w h
  refine gL h (zw [_, _] rfl Tryz.call89 (C_EqualT [] (norm []) _ _ _ _ (by decide) (by rw [norm_nil]; decide)) (za rfl (zn (zt ?_)))); clear h; intro a w h
  refine retV h (results1 h rfl (.tmp rfl)) ?_
  refine congrArg Value.bool ?_
  rw [norm_nil]; rfl
theorem C_OfZ (Z : List Tz) (ad : Option Addr) (c K : Nat) (hn : Z.length ≤ 100) (hK : ∀ t ∈ Z, lenQ t.c ≤ K) (hKK : K ≤ 1000) : Ctr Tryz.prog 19 [.slice ad Z.length c] [Row ad (cellsOf encTz Z)] (fun v Ψ => ∃ ad' c', v = .tuple #[.slice ad' (npZ Z).length c', .int .i64 (firstZ Z)] ∧ Ψ = [Row ad' (cellsOf encT (npZ Z))]) := by
  by_cases hz : firstZ Z = 0
  · rw [npZ_ok hz, hz]
    exact ctr_Z hz (C_pOfF (Z.map tmZ) ad c K (Z_DL hz) (Z_KL hK) (by rw [List.length_map]; have := Nat.mul_le_mul hn (show K + 1 ≤ 1001 by omega); omega) (by rw [List.length_map]; omega))
  · rw [npZ_bad hz]
    intro X w hX hF
    exact (ctrW_nil (C_pOfErr Z ad c (by omega) hz) X w hX hF).mono fun e w' ⟨v, Ψ, h1, ⟨h2, h3⟩, h4⟩ => ⟨v, Ψ, h1, ⟨none, 0, h2, h3⟩, h4⟩
theorem C_DegreeZ (Z : List Tz) (ad : Option Addr) (c K : Nat) (hn : Z.length ≤ 100) (hK : ∀ t ∈ Z, lenQ t.c ≤ K) (hKK : K ≤ 1000) : CtrW Tryz.prog 23 [.slice ad Z.length c] [Row ad (cellsOf encTz Z)] (.int .i64 (degN (npZ Z))) := by
  by_cases hz : firstZ Z = 0
  · rw [npZ_ok hz]; exact ctr_Z hz (C_Degree (Z.map tmZ) ad c 12 _ (Z_Pq hz hK (Nat.le_refl _) hn) (by decide) (by have := Nat.mul_le_mul hn (show K + 1 ≤ 1001 by omega); omega))
  · rw [npZ_bad hz]; exact C_DegreeE Z ad c (by omega) hz
theorem C_TextZ (Z : List Tz) (ad : Option Addr) (c K : Nat) (hn : Z.length ≤ 100) (hK : ∀ t ∈ Z, lenQ t.c ≤ K) (hKK : K ≤ 1000) : CtrW Tryz.prog 21 [.slice ad Z.length c] [Row ad (cellsOf encTz Z), TabF] (.string (txtP txtQ (npZ Z))) := by
  by_cases hz : firstZ Z = 0
  · rw [npZ_ok hz]; exact ctr_Z hz (C_TextG (Z.map tmZ) ad c 12 _ (Z_Pq hz hK (Nat.le_refl _) hn) (by decide) (by have := Nat.mul_le_mul hn (show K + 1 ≤ 1001 by omega); omega))
  · rw [npZ_bad hz]
    intro X w hX hF
    exact C_TextE Z ad c (by omega) hz X w hX (fun R hR => hF R (by rw [List.mem_singleton.1 hR]; exact List.mem_cons_self))
theorem C_CoefZ (Z : List Tz) (ad : Option Addr) (c K : Nat) (hn : Z.length ≤ 100) (hK : ∀ t ∈ Z, lenQ t.c ≤ K) (hKK : K ≤ 1000) (i j : Int) : CtrW Tryz.prog 28 [.slice ad Z.length c, .int .i64 i, .int .i64 j] [Row ad (cellsOf encTz Z)] (encQ (cfT (npZ Z) i j)) := by
  by_cases hz : firstZ Z = 0
  · rw [npZ_ok hz]; exact ctr_Z hz (C_Coef (Z.map tmZ) ad c 12 _ (Z_Pq hz hK (Nat.le_refl _) hn) (by decide) (by have := Nat.mul_le_mul hn (show K + 1 ≤ 1001 by omega); omega) i j)
  · rw [npZ_bad hz]; exact C_CoefE Z ad c (by omega) hz i j
theorem C_SameZ (Z : List Tz) (ad : Option Addr) (c K : Nat) (hn : Z.length ≤ 100) (hK : ∀ t ∈ Z, lenQ t.c ≤ K) (hKK : K ≤ 1000) (ad2 : Option Addr) (c2 : Nat) : CtrW Tryz.prog 25 [.slice ad Z.length c, .slice ad2 (npZ Z).length c2] [Row ad (cellsOf encTz Z), Row ad2 (cellsOf encT (npZ Z))] (.bool true) := by
  by_cases hz : firstZ Z = 0
  · have h := C_pSame (Z.map tmZ) (npZ Z) ad ad2 c c2 12 12 _ _ (Z_Pq hz hK (Nat.le_refl _) hn) (npZ_Pq hK (Nat.le_refl _) hn) (by decide) (by decide) (by have := Nat.mul_le_mul hn (show K + 1 ≤ 1001 by omega); omega) (by have := Nat.mul_le_mul hn (show K + 1 ≤ 1001 by omega); omega)
    rw [npZ_norm, npZ_ok hz, decide_eq_true rfl] at h
    rw [npZ_ok hz]; exact ctr_Z hz h
  · rw [npZ_bad hz]; exact C_SameE Z ad c (by omega) hz ad2 c2
def okK (Z : List Tz) (k : Nat) : Bool := decide (mayZ (Z.getD k Tz0) = 0) && !decide ((Z.getD k Tz0).c = 0) && (decide (k = 0) || decide (ordT (tmZ (Z.getD (k - 1) Tz0)) (tmZ (Z.getD k Tz0)) < 0))
def okB (Z : List Tz) : Bool := decide (∀ k, k < Z.length → okK Z k = true)
theorem okB_no {Z : List Tz} {k : Nat} (hk : k < Z.length) (h : okK Z k = false) : okB Z = false := decide_eq_false (fun hh => by rw [hh k hk] at h; cases h)
theorem adj_pw {p : List Tm} (h : ∀ k, 0 < k → k < p.length → ltT (p.getD (k - 1) T0) (p.getD k T0) = true) : p.Pairwise (fun s t => ltT s t = true) := by
  rw [List.pairwise_iff_getElem]
  have key : ∀ n i (hi : i + n + 1 < p.length), ltT (p[i]'(by omega)) (p[i + n + 1]) = true := by
    intro n
    induction n with
    | zero => intro i hi; have := h (i + 1) (by omega) hi; simpa [List.getD, hi, show i < p.length by omega] using this
    | succ n ih =>
      intro i hi
      have h1 := ih i (by omega)
      have h2 := h (i + n + 1 + 1) (by omega) hi
      have h3 : ltT (p[i + n + 1]'(by omega)) (p[i + n + 1 + 1]'hi) = true := by simpa [List.getD, show i + n + 1 + 1 < p.length from hi, show i + n + 1 < p.length by omega] using h2
      exact ltT_trans h1 h3
  intro i j hi hj hij
  obtain ⟨n, rfl⟩ : ∃ n, j = i + n + 1 := ⟨j - i - 1, by omega⟩
  exact key n i hj
theorem getD_tm {Z : List Tz} {k : Nat} (hk : k < Z.length) : (Z.map tmZ).getD k T0 = tmZ (Z.getD k Tz0) := by simp [List.getD, hk]
theorem okB_iff (Z : List Tz) : okB Z = true ↔ firstZ Z = 0 ∧ norm (Z.map tmZ) = Z.map tmZ := by
  unfold okB; rw [decide_eq_true_eq]
  constructor
  · intro h
    have hk : ∀ k, k < Z.length → mayZ (Z.getD k Tz0) = 0 ∧ (Z.getD k Tz0).c ≠ 0 ∧ (k = 0 ∨ ordT (tmZ (Z.getD (k - 1) Tz0)) (tmZ (Z.getD k Tz0)) < 0) := fun k hk => by
      have := h k hk
      unfold okK at this
      simpa [and_assoc] using this
    have hz : firstZ Z = 0 := firstZ_all.2 (fun t ht => by
      obtain ⟨k, hlt, e⟩ := List.mem_iff_getElem.1 ht
      have := (hk k hlt).1
      simpa [List.getD, hlt, e] using this)
    refine ⟨hz, norm_id ⟨fun t ht => ?_, adj_pw (fun k h0 hlt => ?_)⟩⟩
    · obtain ⟨s, hs, rfl⟩ := List.mem_map.1 ht
      obtain ⟨k, hlt, e⟩ := List.mem_iff_getElem.1 hs
      have := (hk k hlt).2.1
      simpa [List.getD, hlt, e, tmZ] using this
    · rw [List.length_map] at hlt
      rw [getD_tm hlt, getD_tm (show k - 1 < Z.length by omega), ← ordT_lt]
      rcases (hk k hlt).2.2 with h1 | h1
      · omega
      · exact h1
  · rintro ⟨hz, hn⟩ k hk
    have hN : Nrm (Z.map tmZ) := hn ▸ norm_nrm _
    have hmem : Z.getD k Tz0 ∈ Z := getD_mem Z hk
    have h1 := firstZ_all.1 hz _ hmem
    have h2 : (Z.getD k Tz0).c ≠ 0 := hN.1 (tmZ (Z.getD k Tz0)) (List.mem_map_of_mem hmem)
    unfold okK
    rw [decide_eq_true h1, decide_eq_false h2]
    by_cases h0 : k = 0
    · rw [decide_eq_true h0]; rfl
    · have h3 := nrm_adj hN (i := k) (by omega) (by rw [List.length_map]; exact hk)
      rw [getD_tm hk, getD_tm (show k - 1 < Z.length by omega)] at h3
      rw [decide_eq_true h3]; simp
theorem C_porderZ (s t : Tz) (hs : mayZ s = 0) (ht : mayZ t = 0) : CtrV Tryz.prog 90 [encTz s, encTz t] (.int .i64 (ordT (tmZ s) (tmZ t))) := by
  have h1 := mayZ_0.1 hs; have h2 := mayZ_0.1 ht
  have h := C_porder (tmZ s) (tmZ t) (by simp only [tmZ]; omega) (by simp only [tmZ]; omega)
  rw [← encT_toZ, ← encT_toZ, toZ_tmZ hs, toZ_tmZ ht] at h; exact h
theorem sg0 {x : Rat} : (x.num.sign == 0) = decide (x = 0) := by
  by_cases h : x = 0
  · subst h; rfl
  · rw [decide_eq_false h]; exact beq_eq_false_iff_ne.2 (fun e => h (Rat.num_eq_zero.1 (Int.sign_eq_zero_iff_zero.1 e)))
theorem C_OkZ (Z : List Tz) (ad : Option Addr) (c : Nat) (hn : Z.length ≤ 100000) : CtrW Tryz.prog 26 [.slice ad Z.length c] [Row ad (cellsOf encTz Z)] (.bool (okB Z)) := by
  refine fn_intro Tryz.func26 rfl Tryz.ntmps26 nb ?_
  intro S w0 a hS h
  refine gC h (zs (zr (za rfl (zn (zs (zs (zr (zm rfl (zp (.builtin [_] rfl (len_slice_47 _ _ _)) (zm rfl (zn (zb ?_)))))))))))); clear h; intro a w h
  refine wp_loop_inv (fun (i : Nat) a w => i ≤ Z.length ∧ (∀ k, k < i → okK Z k = true) ∧ St 36 S w0 [(0, .slice ad Z.length c), (5, .slice ad Z.length c), (6, .int .i64 ((Z.length : Nat) : Int)), (7, .int .i64 ((i : Nat) : Int))] [] [Row ad (cellsOf encTz Z)] a w) (fun i => Z.length - i) 0 (⟨Nat.zero_le _, fun k hk => absurd hk (Nat.not_lt_zero _), by exact (h).sub (subL ⟨rfl, rfl, rfl, rfl, trivial⟩)⟩) ?_; clear h
  rintro i a w ⟨hi_i, hinv_i, h⟩
  refine gC h (zs (zr (zp (.lss rfl rfl) (zn (zs ?_))))); clear h; intro a w h
  refine cond_split h rfl (fun hc8 => ?_) (fun hc8 => ?_)
  · skip
    have hlt_i : i < Z.length := by have := of_decide_eq_true hc8; omega
    obtain ⟨B_ad, O_ad, rfl⟩ := h.row_addr (ad := ad) (M := cellsOf encTz Z) mm (by intro e; have := congrArg List.length e; rw [cellsOf_length (k := 7) (fun _ => rfl)] at this; simp only [List.length_nil, Nat.mul_eq_zero] at this; omega)
    have hpv : ∀ k, k < i → mayZ (Z.getD k Tz0) = 0 := fun k hk => by have h9 := hinv_i k hk; unfold okK at h9; simp only [Bool.and_eq_true, decide_eq_true_eq] at h9; exact h9.1.1
    refine gC h (zk (zs (zb (zs (zr (zm rfl (zp (.indexAddr rfl rfl (ix_47 _ _ _ _ _ (by omega))) (zD rfl mm (cells_lt (k := 7) (by decide) (fun _ => rfl) Z i (by omega)) Tryz.isAgg117 Tryz.sizeOf117 (read_cells (k := 7) (fun _ => rfl) ((fun _ => rfl)) Z Tz0 i (by omega)) (.inl rfl) ?_)))))))); clear h; intro a w h
    refine gL h (zz zeroT fun b4 => za rfl (zt' rfl rfl (st_7_0_7 _ _ _ _ _ _ _ _ _ _ _ _ _ _) uu Tryz.sizeOf117 rfl nb rfl ?_)); clear h; intro a w h
    refine gL h (zn (zs (yD mixed_YtddhlkfpdjmplaaGreatDoor [0, 1, 2, 3, 4, 5, 6, 7, 8, 9, 10, 11, 12, 13, 14, 15, 16, 17, 18, 19, 20, 21, 22] (floatsOK_none (by kernel_rfl)) (yd rfl rfl mr Tryz.isAgg117 Tryz.sizeOf117 (rd_7_0_7 _ _ _ _ _ _ _) ?_)))); clear h
    refine yv [_] rfl rfl Tryz.call80 (C_mayZ (Z.getD i Tz0)) (yp rfl (.neq rfl rfl) ?_)
    refine head_bool (fun hc14  => ?_) (fun hc14  => ?_)
    · skip
      have hm0 : ¬ mayZ (Z.getD i Tz0) = 0 := by simpa using hc14
      refine yp rfl (.move rfl) (yo 15 rfl rfl rfl rfl (yo 15 rfl rfl rfl rfl (yo 15 rfl rfl rfl rfl (yo 15 rfl rfl rfl rfl (yp rfl (.pickT rfl rfl) (yp rfl (.move rfl) (yo 21 rfl rfl rfl rfl (yo 21 rfl rfl rfl rfl (yo 21 rfl rfl rfl rfl (yu 24 rfl rfl rfl (yu 24 rfl rfl rfl (yu 24 rfl rfl rfl (yu 24 rfl rfl rfl (yu 24 rfl rfl rfl (yu 24 rfl rfl rfl (yu 24 rfl rfl rfl (yu 24 rfl rfl rfl (yo 21 rfl rfl rfl rfl (yp rfl (.pickT rfl rfl) (yn ?_)))))))))))))))))))); intro a w h
      change Code.wp _ _ _ _ _
      refine cond_true h rfl ?_
      refine gC h (zs (zr (za rfl (zn (zt ?_))))); clear h; intro a w h
      refine retV h (results1 h rfl (.tmp rfl)) ?_
      rw [okB_no hlt_i (by unfold okK; rw [decide_eq_false hm0]; rfl)]
    · skip
      have hm0 : mayZ (Z.getD i Tz0) = 0 := by simpa using hc14
      refine yp rfl (.move rfl) (yq rfl rfl rfl (.fieldAddr rfl (fa_117_2 _ _)) (yg rfl rfl rfl rfl mr Tryz.isAgg44 Tryz.sizeOf44 (rd_7_2_5 _ _ _ _ _ _ _) ?_))
      refine head_callVG rfl rfl rfl (by kernel_rfl) (vs := [_]) rfl Tryz.call83 (C_QSign _) (by decide) ?_
      refine yq rfl rfl rfl (.eql rfl rfl) ?_
      refine head_bool (fun hc19  => ?_) (fun hc19  => ?_)
      · skip
        have hc0 : (Z.getD i Tz0).c = 0 := by rw [sg0] at hc19; exact of_decide_eq_true hc19
        refine yp rfl (.pickF rfl rfl) (yp rfl (.move rfl) (yo 21 rfl rfl rfl rfl (yo 21 rfl rfl rfl rfl (yo 21 rfl rfl rfl rfl (yu 24 rfl rfl rfl (yu 24 rfl rfl rfl (yu 24 rfl rfl rfl (yu 24 rfl rfl rfl (yu 24 rfl rfl rfl (yu 24 rfl rfl rfl (yu 24 rfl rfl rfl (yu 24 rfl rfl rfl (yo 21 rfl rfl rfl rfl (yp rfl (.pickT rfl rfl) (yn ?_))))))))))))))); intro a w h
        change Code.wp _ _ _ _ _
        refine cond_true h rfl ?_
        refine gC h (zs (zr (za rfl (zn (zt ?_))))); clear h; intro a w h
        refine retV h (results1 h rfl (.tmp rfl)) ?_
        rw [okB_no hlt_i (by unfold okK; rw [decide_eq_true hc0]; simp)]
      · skip
        have hc0 : ¬ (Z.getD i Tz0).c = 0 := by rw [sg0] at hc19; exact of_decide_eq_false hc19
        refine yp rfl (.pickF rfl rfl) (yp rfl (.move rfl) (yq rfl rfl rfl (.move rfl) (yq rfl rfl rfl (.gtr rfl rfl) ?_)))
        refine head_bool (fun hc23  => ?_) (fun hc23  => ?_)
        · skip
          have h0i : 0 < i := by have := of_decide_eq_true hc23; omega
          refine yq rfl rfl rfl (.move rfl) (yq rfl rfl rfl (.move rfl) (yq rfl rfl rfl (.move rfl) (yq rfl rfl rfl (Pure1.cast (v' := (.int .i64 ((i - 1 : Nat) : Int))) (.sub rfl rfl) (by show Value.int _ _ = Value.int _ _; congr 1; omega)) (yq rfl rfl rfl (.indexAddr rfl rfl (ix_47 _ _ _ _ _ (by omega))) ?_))))
          refine head_loadRowG rfl rfl rfl (by kernel_rfl) rfl mm (cells_lt (k := 7) (by decide) (fun _ => rfl) Z (i - 1) (by omega)) Tryz.isAgg117 Tryz.sizeOf117 (read_cells (k := 7) (fun _ => rfl) ((fun _ => rfl)) Z Tz0 (i - 1) (by omega)) (.inl rfl) (by decide) ?_
          refine yg rfl rfl rfl rfl mr Tryz.isAgg117 Tryz.sizeOf117 (rd_7_0_7 _ _ _ _ _ _ _) ?_
          refine head_callVG rfl rfl rfl (by kernel_rfl) (vs := [_, _]) rfl Tryz.call90 (C_porderZ (Z.getD (i - 1) Tz0) (Z.getD i Tz0) (hpv (i - 1) (by omega)) hm0) (by decide) ?_
          refine yq rfl rfl rfl (.geq rfl rfl) ?_
          refine head_bool (fun hc32  => ?_) (fun hc32  => ?_)
          · skip
            have ho : ¬ ordT (tmZ (Z.getD (i - 1) Tz0)) (tmZ (Z.getD i Tz0)) < 0 := by have := of_decide_eq_true hc32; omega
            refine yq rfl rfl rfl (.pickT rfl rfl) (yp rfl (.pickF rfl rfl) (yn ?_)); intro a w h
            change Code.wp _ _ _ _ _
            refine cond_true h rfl ?_
            refine gC h (zs (zr (za rfl (zn (zt ?_))))); clear h; intro a w h
            refine retV h (results1 h rfl (.tmp rfl)) ?_
            rw [okB_no hlt_i (by unfold okK; rw [decide_eq_false ho, decide_eq_false (show ¬ i = 0 by omega)]; simp)]
          · skip
            have ho : ordT (tmZ (Z.getD (i - 1) Tz0)) (tmZ (Z.getD i Tz0)) < 0 := by have := of_decide_eq_false hc32; omega
            refine yq rfl rfl rfl (.pickT rfl rfl) (yp rfl (.pickF rfl rfl) (yn ?_)); intro a w h
            change Code.wp _ _ _ _ _
            refine cond_false h rfl ?_
            refine gC h (zk (zr (zp (Pure1.cast (v' := (.int .i64 ((i + 1 : Nat) : Int))) (.add rfl rfl) (by show Value.int _ _ = Value.int _ _; congr 1)) (zm rfl (zn ?_))))); clear h; intro a w h
            exact ⟨i + 1, ⟨by omega, fun k hk => by rcases Nat.lt_or_ge k i with h | h; exact hinv_i k h; rw [show k = i by omega]; unfold okK; rw [decide_eq_true hm0, decide_eq_false hc0]; rw [decide_eq_true ho]; simp, ((h.drop sl).factsSub (by simp)).sub sA⟩, by omega⟩
        · skip
          have h0i : ¬ 0 < i := by have := of_decide_eq_false hc23; omega
          refine yq rfl rfl rfl (.move rfl) (yo 24 rfl rfl rfl rfl (yo 24 rfl rfl rfl rfl (yo 24 rfl rfl rfl rfl (yo 24 rfl rfl rfl rfl (yo 24 rfl rfl rfl rfl (yo 24 rfl rfl rfl rfl (yo 24 rfl rfl rfl rfl (yo 24 rfl rfl rfl rfl (yq rfl rfl rfl (.pickF rfl rfl) (yp rfl (.pickF rfl rfl) (yn ?_))))))))))); intro a w h
          change Code.wp _ _ _ _ _
          refine cond_false h rfl ?_
          refine gC h (zk (zr (zp (Pure1.cast (v' := (.int .i64 ((i + 1 : Nat) : Int))) (.add rfl rfl) (by show Value.int _ _ = Value.int _ _; congr 1)) (zm rfl (zn ?_))))); clear h; intro a w h
          exact ⟨i + 1, ⟨by omega, fun k hk => by rcases Nat.lt_or_ge k i with h | h; exact hinv_i k h; rw [show k = i by omega]; unfold okK; rw [decide_eq_true hm0, decide_eq_false hc0]; rw [decide_eq_true (show i = 0 by omega)]; rfl, ((h.drop sl).factsSub (by simp)).sub sA⟩, by omega⟩
  · skip
    have heq_i : Z.length = i := by have := of_decide_eq_false hc8; omega
    subst heq_i
    refine gC h (ze (zs (zr (za rfl (zn (zt ?_)))))); clear h; intro a w h
    refine retV h (results1 h rfl (.tmp rfl)) ?_
    rw [show okB Z = true from decide_eq_true hinv_i]
theorem eqZ_of {p q : List Tz} (hl : p.length = q.length) (h : ∀ k, k < p.length → p.getD k Tz0 = q.getD k Tz0) : p = q := by
  refine List.ext_getElem hl (fun i h1 h2 => ?_)
  have := h i h1
  simpa [List.getD, h1, h2] using this
theorem run_neZ (X Y : Operand) (x y : Tz) (w : World) : (do eqGuard .neq 117 X Y (encTz x) (encTz y); Go.binOp .neq 117 (encTz x) (encTz y) : Sem Value).run Tryz.prog w = .ok (.bool (!decide (x = y))) w := by
  obtain ⟨x1, x2, x3⟩ := x
  obtain ⟨y1, y2, y3⟩ := y
  simp [go_sem]
  rw [nestQ]
  by_cases e1 : x1 = y1 <;> by_cases e2 : x2 = y2 <;> by_cases e3 : x3 = y3 <;> simp [e1, e2, e3]
theorem C_alikeZ (Z Y : List Tz) (ad adb : Option Addr) (ca cb : Nat) (hp : Z.length ≤ 1000000) (hq : Y.length ≤ 1000000) : CtrW Tryz.prog 27 [.slice ad Z.length ca, .slice adb Y.length cb] [Row ad (cellsOf encTz Z), Row adb (cellsOf encTz Y)] (.bool (decide (Z = Y))) := by
  refine fn_intro Tryz.func27 rfl Tryz.ntmps27 nb ?_
  intro S w0 a hS h
  refine gC h (zs (zr (za rfl (zn (zs (zs (zr (zm rfl (zp (.builtin [_] rfl (len_slice_47 _ _ _)) (zm rfl (zp (.builtin [_] rfl (len_slice_47 _ _ _)) (zp (.neq rfl rfl) (zn ?_))))))))))))); clear h; intro a w h
  change Code.wp _ _ _ _ _
  refine cond_split h rfl (fun hc10 => ?_) (fun hc10 => ?_)
  · skip
    have hne : Z.length ≠ Y.length := natNe hc10
    refine gC h (zs (zr (za rfl (zn (zt ?_))))); clear h; intro a w h
    refine retV h (results1 h rfl (.tmp rfl)) ?_
    rw [decide_eq_false (fun e => hne (by rw [e]))]
  · skip
    have hle : Z.length = Y.length := natEq hc10
    refine gC h (zk (zs (zs (zr (za rfl (zn (zb ?_))))))); clear h; intro a w h
    refine wp_loop_inv (fun (i : Nat) a w => i ≤ Z.length ∧ (∀ k, k < i → Z.getD k Tz0 = Y.getD k Tz0) ∧ St 26 S w0 [(0, .slice ad Z.length ca), (1, .slice adb Y.length cb), (5, .int .i64 ((i : Nat) : Int))] [] [Row ad (cellsOf encTz Z), Row adb (cellsOf encTz Y)] a w) (fun i => Z.length - i) 0 (⟨Nat.zero_le _, fun k hk => absurd hk (Nat.not_lt_zero _), by exact (h).sub (subL ⟨rfl, rfl, rfl, trivial⟩)⟩) ?_; clear h
    rintro i a w ⟨hi_i, hinv_i, h⟩
    refine gC h (zs (zs (zr (zm rfl (zm rfl (zp (.builtin [_] rfl (len_slice_47 _ _ _)) (zp (.lss rfl rfl) (zn ?_)))))))); clear h; intro a w h
    change Code.wp _ _ _ _ _
    refine cond_split h rfl (fun hc14 => ?_) (fun hc14 => ?_)
    · skip
      have hlt_i : i < Z.length := by have := of_decide_eq_true hc14; omega
      have hqi : Y.length ≠ 0 := by omega
      obtain ⟨B_ad, O_ad, rfl⟩ := h.row_addr (ad := ad) (M := cellsOf encTz Z) mm (by intro e; have := congrArg List.length e; rw [cellsOf_length (k := 7) (fun _ => rfl)] at this; simp only [List.length_nil, Nat.mul_eq_zero] at this; omega)
      obtain ⟨B_adb, O_adb, rfl⟩ := h.row_addr (ad := adb) (M := cellsOf encTz Y) mm (by intro e; have := congrArg List.length e; rw [cellsOf_length (k := 7) (fun _ => rfl)] at this; simp only [List.length_nil, Nat.mul_eq_zero] at this; omega)
      refine gC h (zk (zs (zb (zs (yD mixed_YtddhlkfpdjmplaaGreatDoor [0, 1, 2, 3, 4, 5, 6, 7, 8] (floatsOK_none (by kernel_rfl)) (yp rfl (.move rfl) (yp rfl (.move rfl) (yp rfl (.indexAddr rfl rfl (ix_47 _ _ _ _ _ (by omega))) ?_)))))))); clear h
      refine head_loadRow rfl (by kernel_rfl) rfl mm (cells_lt (k := 7) (by decide) (fun _ => rfl) Z i (by omega)) Tryz.isAgg117 Tryz.sizeOf117 (read_cells (k := 7) (fun _ => rfl) ((fun _ => rfl)) Z Tz0 i (by omega)) (.inl rfl) (by decide) ?_
      refine yp rfl (.move rfl) (yp rfl (.move rfl) (yp rfl (.indexAddr rfl rfl (ix_47 _ _ _ _ _ (by omega))) ?_))
      refine head_loadRow rfl (by kernel_rfl) rfl mm (cells_lt (k := 7) (by decide) (fun _ => rfl) Y i (by omega)) Tryz.isAgg117 Tryz.sizeOf117 (read_cells (k := 7) (fun _ => rfl) ((fun _ => rfl)) Y Tz0 i (by omega)) (.inl rfl) (by decide) ?_
      refine yp rfl (.binOp rfl rfl (fun _ => run_neZ _ _ (Z.getD i Tz0) (Y.getD i Tz0) _)) (yn ?_); intro a w h
      change Code.wp _ _ _ _ _
      refine cond_split h rfl (fun hc25 => ?_) (fun hc25 => ?_)
      · skip
        have hbad : ¬ Z.getD i Tz0 = Y.getD i Tz0 := of_decide_eq_false (by simpa using hc25)
        refine gC h (zs (zr (za rfl (zn (zt ?_))))); clear h; intro a w h
        refine retV h (results1 h rfl (.tmp rfl)) ?_
        rw [decide_eq_false (fun e => hbad (by rw [e]))]
      · skip
        have hgood : Z.getD i Tz0 = Y.getD i Tz0 := of_decide_eq_true (by simpa using hc25)
        refine gC h (zk (zr (zm rfl (zp (Pure1.cast (v' := (.int .i64 ((i + 1 : Nat) : Int))) (.add rfl rfl) (by show Value.int _ _ = Value.int _ _; congr 1)) (za rfl (zn ?_)))))); clear h; intro a w h
        exact ⟨i + 1, ⟨by omega, fun k hk => by rcases Nat.lt_or_ge k i with h | h; exact hinv_i k h; rw [show k = i by omega]; exact hgood, (h.factsSub (by simp)).sub sA⟩, by omega⟩
    · skip
      have heq_i : Z.length = i := by have := of_decide_eq_false hc14; omega
      subst heq_i
      refine gC h (ze (zs (zr (za rfl (zn (zt ?_)))))); clear h; intro a w h
      refine retV h (results1 h rfl (.tmp rfl)) ?_
      rw [decide_eq_true (eqZ_of hle hinv_i)]
end Go.Proofs.YtddhlkfpdjmplaaGreatDoor
