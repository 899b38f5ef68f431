/- Walks of functions. By an AI agent. -/
import Derived.Test.YtgkicbaomcmfoaaGreatDoorTextg
set_option linter.unusedVariables false
set_option linter.unusedSimpArgs false
set_option maxRecDepth 4000
namespace Go.Proofs.YtgkicbaomcmfoaaGreatDoor
open Go Go.Proofs Go.Fx Tryz
attribute [local irreducible] Oper.wp Code.wp wpList Fx.Head wpOp
section
theorem Qez (x : Int) (w : World) : (Go.convert 54 3 (.int .u32 x)).run Tryz.prog w = .ok (.int .i64 (IntKind.i64.wrap x)) w := by
 simp [go_sem]
theorem Qa0 (x : Int) (h0 : IntKind.i64.wrap x = x) (w : World) : (Go.convert 54 3 (.int .u32 x)).run Tryz.prog w = .ok (.int .i64 x) w := by
 rw [Qez, h0]
theorem Zwo : ∀ l : List ByteArray, Zix l ⟨#[]⟩ = ⟨(Qcc l).toArray⟩ := fun l => by
 have key : ∀ xs : List (List UInt8), Lib.join xs [] = xs.flatten := fun xs => by
  unfold Lib.join
  induction xs with
  | nil => rfl
  | cons x xs ih =>
   rcases xs with _ | ⟨y, ys⟩
   · simp [List.intercalate]
   · rw [List.flatten_cons, ← ih]; simp [List.intercalate]
 unfold Zix
 rw [show (ByteArray.mk #[]).data.toList = [] from rfl, key]
 unfold Qcc
 rw [List.flatMap_def]
theorem Zpq {m : Nat} (h : m / 1000000000 = 0) : Zd6 m = dB (m % 1000000000) := by
 unfold Zd6; rw [if_pos h, Nat.mod_eq_of_lt oo]
theorem Ztu {m : Nat} (h : m / 1000000000 ≠ 0) : zerB (9 - (dB (m % 1000000000)).size) ++ dB (m % 1000000000) = Zd6 m := by
 unfold Zd6
 rw [if_neg h]
 apply ByteArray.ext
 rw [ByteArray.data_append]
 apply Array.ext'
 have h1 := Qd5 (r := m % 1000000000) (k := 8) (Nat.mod_lt _ dd)
 have h2 : Zep (m % 10 ^ 9) 9 = Zep m 9 := Zra 9 m
 rw [show (10 : Nat) ^ 9 = 1000000000 from rfl] at h2
 rw [h2] at h1
 rw [Zif]
 show ((List.replicate _ (48 : UInt8)).toArray ++ (Lib.decDigits _).toArray).toList = (Zep m 9).toArray.toList
 simp only [List.toList_toArray, Array.toList_append]
 exact h1
theorem Ze2 (n i : Nat) : n / 10 ^ (9 * i) / 1000000000 = n / 10 ^ (9 * (i + 1)) := by
 rw [Nat.div_div_eq_div_mul, show 9 * (i + 1) = 9 * i + 9 by omega, Nat.pow_add]
theorem Zp4 {n : Nat} (h : (wds n).length = 0) : n = 0 := by
 have := Zhc n
 rw [h] at this; simpa using this
theorem Qbv {m n : Nat} (h : m ≤ n) : (wds m).length ≤ (wds n).length := by
 rcases Nat.lt_or_ge (wds n).length (wds m).length with h1 | h1
 · exact absurd (Zbi h1) oo
 · exact h1
theorem Qdt {b : Nat} {M R : List Value} {X : Nat → Prop} {w : World} (h : (Row (some ⟨b, 0, none⟩) (M ++ R)).p X w) : (Row (some ⟨b, 0, none⟩) M).p X w := by
 have h1 := Zgs h M.length
 rwa [List.take_left] at h1
theorem Qgb (ad : Option Addr) (c m : Nat) (l : List ByteArray) (hm : m = l.length) (hc : m ≤ c) (hn : m ≤ 1000000) (hM : ∀ x ∈ l, x.size ≤ 9) :
  Gn Tryz.prog 45 [.slice ad m c, .string ⟨#[]⟩] [Row ad (List.map encs l)] (.string ⟨(Qcc l).toArray⟩) := by
 subst hm
 rw [← Zwo]
 exact Qc1 ad c l ⟨#[]⟩ hc hn 9 hM (by show l.length * (9 + 0) ≤ _; omega)
theorem Zvn (n i : Nat) : ∀ x ∈ (prt n i).reverse, x.size ≤ 9 := fun x hx => Zqw n i x (List.mem_reverse.1 hx)
theorem Zlo (n : Nat) (hs : (wds n).length ≤ 300000) : Gn Tryz.prog 56 [Xk n] [TabF] (.string (dB n)) := by
 rcases Nat.lt_or_ge n 18446744073709551616 with hsm | hbig
 · exact Qbq n hsm
 replace hbig : ¬ n < 18446744073709551616 := oo
 refine fn_intro func56 rfl ntmps56 nb ?_
 intro S w0 a hS h
 refine gC h (zS (zx rfl fun b1 => za rfl (zn (zs (zS (zp (.fA rfl Yn) (zd rfl mr isAgg9 sizeOf9 Jy ?_)))))))
 refine zp (.binOp rfl rfl (fun _ => Jv _ _ _ _ _)) (zn ?_); intro a w h
 refine cW ?_
 refine Zb h rfl (fun hc10 => (by exfalso; exact hbig (Qh.1 (by simpa using hc10)))) (fun hc10 => ?_)
 refine gC h (zk (zS (za rfl (zn (zs (zS (zd rfl mr isAgg47 sizeOf47 Zh ?_)))))))
 refine zf [_] rfl call92 (Gu n oo) ?_; rintro v15 Ψ15 ⟨ad15, c15, rfl, hc15, rfl⟩ a w h
 have hw0 : wds n = wds (n / 10 ^ (9 * 0)) := by rw [Nat.mul_zero, Nat.pow_zero, Nat.div_one]
 rw [hw0] at h hc15
 refine gL h (za rfl (zn (zb ?_))); clear h; intro a w h
 refine Zi (fun (i : Nat) a w => ∃ (adl : Option Addr) (cl : Nat) (ad1 : Option Addr) (c1 : Nat) (o1 : List (Nat × Obj)), ((wds (n / 10 ^ (9 * i))).length ≤ cl ∧ (i = 0 ∨ n / 10 ^ (9 * (i - 1)) ≠ 0) ∧ GrowO 1 9 (.slice ad1 (prt n i).length c1) (prt n i).length (List.map encs (prt n i)) o1) ∧ St 46 S w0 [(2, .string (⟨#[]⟩)), (3, (.slice ad1 (prt n i).length c1)), (4, .slice adl ((wds (n / 10 ^ (9 * i))).length) cl), (15, .slice ad15 ((wds (n / 10 ^ (9 * 0))).length) c15)] (o1 ++ ((b1, bV (Xk (n)) 47) :: [])) [Row adl (Jo (wds (n / 10 ^ (9 * i)))), TabF] a w) (fun i => n / 10 ^ (9 * i)) (0) (⟨ad15, c15, none, 0, [], ⟨hc15, .inl rfl, GrowO.nil _ _⟩, by exact (h.factsSub (by simp)).sub (Zfn ⟨rfl, rfl, rfl, rfl, trivial⟩)⟩) ?_; clear h
 rintro i a w ⟨adl, cl, ad1, c1, o1, ⟨hlc, hp, hG1⟩, h⟩
 refine gC h (zs (zS (zm rfl (zp (.builtin [_] rfl (Zk _ _ _)) (zp (.gtr rfl rfl) (zn ?_)))))); clear h; intro a w h
 refine cW ?_
 refine Zb h rfl (fun hc18 => ?_) (fun hc18 => ?_)
 ·
  skip
  have hm0 : (n / 10 ^ (9 * i)) ≠ 0 := fun e => by rw [e, Yw] at hc18; exact absurd hc18 dd
  have hif := Zvo hm0
  have hwl : (wds (n / 10 ^ (9 * i))).length ≤ (wds n).length := Qbv (Nat.div_le_self _ _)
  have hpl := Zkl n i
  refine gC h (zk (zb (zS (zm rfl ?_)))); clear h; intro a w h
  refine Zc (Jw h (vs := [_, _]) rfl call93 (Zya adl cl (wds (n / 10 ^ (9 * i))) 1000000000 (Wd.wds _) oo dd dd) ss dd ?_); clear h; rintro v21 σ21 a w ⟨b21, Q21, rfl, hQw, hQl, hQv, rfl⟩ h
  rw [Qp] at h hQv
  rw [Ze2] at hQv
  replace h := h.shareAll hS (Jo Q21) rfl
  have hr9 := Nat.mod_lt (n / 10 ^ (9 * i)) (show 0 < 1000000000 by decide)
  have hr8 : (dB (n / 10 ^ (9 * i) % 1000000000)).size ≤ 9 := by rw [Zif]; exact Zbo (k := 8) hr9
  refine gL h (zm rfl (zp (.eX rfl) (zp (.eX rfl) (za rfl (za rfl (zn (zS (zm rfl (zf [_] rfl call94 (Qfv _ _ Q21 hQw (Nat.le_refl _) oo) ?_))))))))); clear h; rintro v25 Ψ25 ⟨rfl, rfl⟩ a w h
  rw [hQv] at h
  have hcl1 : (wds (n / 10 ^ (9 * (i + 1)))).length ≤ Q21.length := by rw [hQl]; exact Qbv (by rw [← Ze2]; exact Nat.div_le_self _ _)
  refine gL h (za rfl (zn (zS (zm rfl (zp (.convert rfl (Qa0 _ (wrap_i64 _ oo oo))) (zw [_] rfl call80 (Qgc (n / 10 ^ (9 * i) % 1000000000) oo) (za rfl (zn (zs (zS (zm rfl (zp (.builtin [_] rfl (Zk _ _ _)) (zp (.gtr rfl rfl) (zn ?_)))))))))))))); clear h; intro a w h
  refine cW ?_
  refine Zb h rfl (fun hc31 => ?_) (fun hc31 => ?_)
  focus
   have hq1 : (n / 10 ^ (9 * (i + 1))) ≠ 0 := fun e => by rw [e, Yw] at hc31; exact absurd hc31 dd
   refine gC h (zr (zm rfl (zp (.builtin [_] rfl (Zt _)) (zp (.pO (9 - ((dB (n / 10 ^ (9 * i) % 1000000000)).size)) (.sub rfl rfl)) (zv [_, _] rfl call95 (Qbl (9 - (dB (n / 10 ^ (9 * i) % 1000000000)).size) oo) (zm rfl (zp (.binOp rfl rfl (fun _ => Qx _ _ _ _ _ (by rw [Zt8]; omega))) ?_))))))); clear h; intro a w h
   rw [Ztu (by rw [Ze2]; exact hq1)] at h
   refine gL h (za rfl (zn (zr (zm rfl (zm rfl (zB [(_, _)] rfl (Zdb _) fun b40 => ?_)))))); clear h; intro a w h
  rotate_left
  focus
   have hq1 : (n / 10 ^ (9 * i)) / 1000000000 = 0 := by rw [Ze2]; exact Zp4 (dF hc31)
   rw [← Zpq hq1] at h
   refine gC h (zk (zr (zm rfl (zm rfl (zB [(_, _)] rfl (Zdb _) fun b40 => ?_))))); clear h; intro a w h
  all_goals
   refine Zc (Yj (σr := [(b1, bV (Xk (n)) 47)]) h rfl rfl (List.Perm.trans (List.Perm.refl _) (List.Perm.cons _ (List.Perm.refl _))) hG1 runUnderlying87 runUnderlying87 typeInfo9 sizeOf9 zeroValue9 rfl dd dd rfl rfl dd (by show 16 * (2 * ((prt n i).length + 1) + 192) ≤ 281474976710656; omega) dd ?_); clear h
   intro v41 o41 a w hG41 h
   obtain ⟨ad41, c41, rfl⟩ := hG41.is
   have hLn41 : (prt n i).length + 1 = ((prt n i) ++ [Zd6 (n / 10 ^ (9 * i))]).length := lA
   rw [hLn41] at h hG41
   replace hG41 : GrowO 1 9 (.slice ad41 ((prt n i) ++ [Zd6 (n / 10 ^ (9 * i))]).length c41) ((prt n i) ++ [Zd6 (n / 10 ^ (9 * i))]).length (List.map encs ((prt n i) ++ [Zd6 (n / 10 ^ (9 * i))])) o41 := by rw [List.map_append]; exact hG41
   refine gL h (za rfl (zn ?_)); clear h; intro a w h
   exact ⟨i + 1, ⟨_, _, ad41, c41, o41, ⟨hcl1, .inr hm0, hG41⟩, by exact (h.factsSub (by simp)).sub (Zfn ⟨rfl, rfl, rfl, rfl, trivial⟩)⟩, by rw [← Ze2]; exact Nat.div_lt_self (Nat.pos_of_ne_zero hm0) dd⟩
 ·
  skip
  have hz0 : (n / 10 ^ (9 * i)) = 0 := Zp4 (dF hc18)
  have hi0 : i ≠ 0 := fun e => by subst e; rw [Nat.mul_zero, Nat.pow_zero, Nat.div_one] at hz0; omega
  obtain ⟨j, hij⟩ : ∃ j, i = j + 1 := ⟨i - 1, oo⟩
  have hj := hp.resolve_left hi0
  have hjf := Zvo hj
  have hpl := Zkl n i
  have hcat : Qcc (prt n i).reverse = Lib.decDigits n := by
   rw [hij, Nat.add_sub_cancel] at hj
   rw [hij] at hz0 ⊢
   exact Qe5 hj hz0
  refine gC h (ze (zS (zm rfl ?_))); clear h; intro a w h
  obtain ⟨bp, Rp, rfl, rfl, hRp, hcp⟩ := hG1.open (by rw [Zkl]; omega)
  rw [List.cons_append, List.nil_append] at h
  refine Zc (Xc h hS (vs := [_]) rfl call96 (Zyp bp c1 (prt n i) Rp oo [(b1, _)] [Row adl (Jo (wds (n / 10 ^ (9 * i)))), TabF]) (List.Perm.refl _) ss ss ?_); clear h; rintro v43 σ43 Ψ43 a w ⟨rfl, rfl, rfl⟩ h
  replace h := h.shareAll hS (List.map encs (prt n i).reverse ++ Rp) rfl
  replace h := h.derive (R := Row (some ⟨bp, 0, none⟩) (List.map encs (prt n i).reverse)) (fun X hX => Qdt (hX _ List.mem_cons_self))
  refine gL h (zn (zS (zm rfl (zw [_, _] rfl call45 (Qgb (some ⟨bp, 0, none⟩) c1 (prt n i).length (prt n i).reverse (by rw [List.length_reverse]) hG1.cap oo (Zvn n i)) (za rfl (zn (zt ?_))))))); clear h; intro a w h
  refine Jk h (Zd h rfl (.tmp rfl)) ?_
  rw [hcat]; rfl
theorem Zi2 (z : Int) : (Zt2 z).size ≤ 10 * Kk z + 2 := by
 unfold Zt2 Kk; have h1 := Zg3 z.natAbs; have h2 := Zkg 45
 split
 · rw [ByteArray.size_append]; omega
 · omega
theorem Zfj (x : Rat) {K : Nat} (h : Jr x ≤ K) : (Ks x).size ≤ 20 * K + 10 := by
 obtain ⟨h1, h2⟩ := Gt h
 have h3 := Zi2 x.num
 have h4 := Zg3 x.den
 have h5 := Zkg 47
 unfold Ks
 split
 · omega
 · rw [ByteArray.size_append, ByteArray.size_append]; omega
theorem Zsm (z : Int) (hz : Kk z ≤ 300000) : Gn Tryz.prog 55 [encZ z] [TabF] (.string (Zt2 z)) := by
 have hz2 : (wds z.natAbs).length ≤ 300000 := hz
 refine fn_intro func55 rfl ntmps55 nb ?_
 intro S w0 a hS h
 refine gC h (zS (zx rfl fun b1 => za rfl (zn (zs (zS (zp (.fA rfl Zbc) (zd rfl mr isAgg4 sizeOf4 Gh ?_))))))); clear h; intro a w h
 refine wpList_nil ?_
 refine cW ?_
 refine Zb h rfl (fun hc4 => ?_) (fun hc4 => ?_)
 ·
  skip
  have hn : z < 0 := of_decide_eq_true hc4
  refine gC h (zS (zp (.fA rfl Ko) (zp (.fA rfl Kw) (zd rfl mr isAgg47 sizeOf47 Js ?_))))
  refine zw [_] rfl call56 (Zlo z.natAbs hz2) (zp (.binOp rfl rfl (fun _ => Qx _ _ _ _ _ (by have := Zg3 z.natAbs; have h1 := Zkg 45; omega))) (za rfl (zn (zt ?_)))); intro a w h
  refine Jk h (Zd h rfl (.tmp rfl)) ?_
  unfold Zt2; rw [if_pos hn]
 ·
  skip
  have hn : ¬ z < 0 := of_decide_eq_false hc4
  refine gC h (zk (zS (zp (.fA rfl Ko) (zp (.fA rfl Kw) (zd rfl mr isAgg47 sizeOf47 Js ?_)))))
  refine zw [_] rfl call56 (Zlo z.natAbs hz2) (za rfl (zn (zt ?_))); intro a w h
  refine Jk h (Zd h rfl (.tmp rfl)) ?_
  unfold Zt2; rw [if_neg hn]
theorem Qbm (x : Rat) (hx : Jr x ≤ 300000) : Gn Tryz.prog 21 [Vv x] [TabF] (.string (Ks x)) := by
 obtain ⟨hq1, hq2⟩ := Gt hx
 have hs1 := Zi2 x.num
 have hs2 := Zg3 x.den
 refine fn_intro func21 rfl ntmps21 nb ?_
 intro S w0 a hS h
 refine gC h (zS (zx rfl fun b1 => za rfl (zn (zs (zS (zd rfl mr isAgg53 sizeOf53 Zx ?_))))))
 refine zv [_] rfl call54 (Zf6 x) (zn ?_); intro a w h
 refine cW ?_
 refine Zb h rfl (fun hc4 => ?_) (fun hc4 => ?_)
 ·
  skip
  have hw : x.den = 1 := of_decide_eq_true hc4
  refine gC h (zS (zp (.fA rfl Ym) (zd rfl mr isAgg51 sizeOf51 Xg ?_)))
  refine zw [_] rfl call55 (Zsm x.num hq1) (za rfl (zn (zt ?_))); intro a w h
  refine Jk h (Zd h rfl (.tmp rfl)) ?_
  unfold Ks; rw [if_pos hw]
 ·
  skip
  have hw : ¬ x.den = 1 := of_decide_eq_false hc4
  refine gC h (zk (zs (yD Za [0, 1, 4, 2, 3, 5, 6, 7, 8] (Zf kk) (yp rfl (.fA rfl Ym) (yd rfl rfl mr isAgg51 sizeOf51 Xg ?_))))); clear h
  refine yd rfl rfl mr isAgg53 sizeOf53 Zx ?_
  refine yw [_] rfl rfl call55 (Zsm x.num hq1) (yp rfl (.binOp rfl rfl (fun _ => Qx _ _ _ _ _ (by have h1 := Zkg 47; omega))) (yv [_] rfl rfl call57 (Ziz x oo) (yw [_] rfl rfl call56 (Zlo x.den hq2) (yp rfl (.binOp rfl rfl (fun _ => Qx _ _ _ _ _ (by have h1 := Zkg 47; rw [ByteArray.size_append]; omega))) (yp rfl (.assign rfl) (yn (zt ?_))))))); intro a w h
  refine Jk h (Zd h rfl (.tmp rfl)) ?_
  unfold Ks; rw [if_neg hw]
end
section
theorem Zc7 (n : Nat) : Lib.decDigits n ≠ [] := fun e => by
 have h := congrArg List.length e
 rw [Lib.decDigits_length] at h
 by_cases h1 : n < 10
 · rw [Lib.nDigits_small h1] at h; cases h
 · rw [Lib.nDigits_big h1] at h; cases h
theorem Zw3 {a b : Nat} (ha : a < 10) (hb : b < 10) (h : UInt8.ofNat (48 + a) = UInt8.ofNat (48 + b)) : a = b := by
 have h1 := congrArg UInt8.toNat h
 simp only [UInt8.toNat_ofNat'] at h1
 omega
theorem Ze4 : ∀ n m : Nat, Lib.decDigits n = Lib.decDigits m → n = m := by
 intro n
 induction n using Nat.strongRecOn with
 | _ n ih =>
  intro m h
  by_cases hn : n < 10
  ·
   by_cases hm : m < 10
   ·
    rw [Lib.decDigits_one hn, Lib.decDigits_one hm] at h
    exact Zw3 hn hm (List.cons.inj h).1
   ·
    exfalso
    have e : Lib.decDigits m = Lib.decDigits (m / 10) ++ [UInt8.ofNat (48 + m % 10)] := by rw [Lib.decDigits, dif_neg hm]
    rw [Lib.decDigits_one hn, e] at h
    have h2 := congrArg List.length h
    have h3 := List.length_pos_iff.2 (Zc7 (m / 10))
    simp only [List.length_append, List.length_cons, List.length_nil] at h2; omega
  ·
   by_cases hm : m < 10
   ·
    exfalso
    have e : Lib.decDigits n = Lib.decDigits (n / 10) ++ [UInt8.ofNat (48 + n % 10)] := by rw [Lib.decDigits, dif_neg hn]
    rw [Lib.decDigits_one hm, e] at h
    have h2 := congrArg List.length h
    have h3 := List.length_pos_iff.2 (Zc7 (n / 10))
    simp only [List.length_append, List.length_cons, List.length_nil] at h2; omega
   ·
    have e : Lib.decDigits n = Lib.decDigits (n / 10) ++ [UInt8.ofNat (48 + n % 10)] := by rw [Lib.decDigits, dif_neg hn]
    have e2 : Lib.decDigits m = Lib.decDigits (m / 10) ++ [UInt8.ofNat (48 + m % 10)] := by rw [Lib.decDigits, dif_neg hm]
    rw [e, e2] at h
    obtain ⟨h1, h2⟩ := List.append_inj' h rfl
    have h3 := ih (n / 10) oo (m / 10) h1
    have h4 := Zw3 (Nat.mod_lt n dd) (Nat.mod_lt m dd) (List.cons.inj h2).1
    omega
def isD (b : UInt8) : Prop := 48 ≤ b.toNat ∧ b.toNat ≤ 57
theorem Zie : ∀ n : Nat, ∀ b ∈ Lib.decDigits n, isD b := by
 intro n
 induction n using Nat.strongRecOn with
 | _ n ih =>
  have key : ∀ a, a < 10 → isD (UInt8.ofNat (48 + a)) := fun a ha => by
   unfold isD; rw [UInt8.toNat_ofNat']; omega
  by_cases hn : n < 10
  · rw [Lib.decDigits_one hn]; intro b hb; rw [List.mem_singleton] at hb; subst hb; exact key n hn
  ·
   have e : Lib.decDigits n = Lib.decDigits (n / 10) ++ [UInt8.ofNat (48 + n % 10)] := by rw [Lib.decDigits, dif_neg hn]
   rw [e]
   intro b hb
   rcases List.mem_append.1 hb with hb | hb
   · exact ih (n / 10) oo b hb
   · rw [List.mem_singleton] at hb; subst hb; exact key _ (Nat.mod_lt _ dd)
theorem Zqh {C : UInt8 → Prop} : ∀ {u u' v v' : List UInt8}, (∀ b ∈ u, C b) → (∀ b ∈ u', C b) → (∀ b w, v = b :: w → ¬ C b) → (∀ b w, v' = b :: w → ¬ C b) → u ++ v = u' ++ v' → u = u' ∧ v = v'
 | [], [], v, v', _, _, _, _, h => ⟨rfl, h⟩
 | [], b :: u', v, v', _, h2, h3, _, h => by exact absurd (h2 b List.mem_cons_self) (h3 b (u' ++ v') h)
 | b :: u, [], v, v', h1, _, _, h4, h => by exact absurd (h1 b List.mem_cons_self) (h4 b (u ++ v) h.symm)
 | b :: u, b' :: u', v, v', h1, h2, h3, h4, h => by
  obtain ⟨e, h⟩ := List.cons.inj h
  obtain ⟨e1, e2⟩ := Zqh (fun x hx => h1 x (List.mem_cons_of_mem _ hx)) (fun x hx => h2 x (List.mem_cons_of_mem _ hx)) h3 h4 h
  exact ⟨by rw [e, e1], e2⟩
def qB (x : Rat) : List UInt8 := Lib.decDigits x.num.natAbs ++ (if x.den = 1 then [] else 47 :: Lib.decDigits x.den)
theorem Zup {x : Rat} (h : 0 ≤ x.num) : (Ks x).data.toList = qB x := by
 have hz : Zt2 x.num = dB x.num.natAbs := by unfold Zt2; rw [if_neg oo]
 unfold Ks qB
 rw [hz]
 unfold dB
 by_cases hd : x.den = 1
 · rw [if_pos hd, if_pos hd]; simp
 · rw [if_neg hd, if_neg hd, ByteArray.data_append, ByteArray.data_append]; simp
theorem qB_inj {x y : Rat} (hx : 0 ≤ x.num) (hy : 0 ≤ y.num) (h : qB x = qB y) : x = y := by
 unfold qB at h
 have hb : ∀ (d : Nat) (b : UInt8) (w : List UInt8), (if d = 1 then [] else 47 :: Lib.decDigits d) = b :: w → ¬ isD b := fun d b w he => by
  split at he
  · cases he
  · rw [← (List.cons.inj he).1]; unfold isD; decide
 obtain ⟨h1, h2⟩ := Zqh (Zie _) (Zie _) (hb _) (hb _) h
 have hn := Ze4 _ _ h1
 have hd : x.den = y.den := by
  split at h2
  ·
   split at h2
   · omega
   · cases h2
  ·
   split at h2
   · cases h2
   · exact Ze4 _ _ (List.cons.inj h2).2
 exact Rat.ext oo hd
theorem qB_ne (x : Rat) : qB x ≠ [] := fun e => Zc7 _ (List.append_eq_nil_iff.1 e).1
def isN (b : UInt8) : Prop := 47 ≤ b.toNat ∧ b.toNat ≤ 57
def ltB (i j : Nat) : List UInt8 := (Zix (Za2 ⟨#[120]⟩ i ++ Za2 ⟨#[121]⟩ j) ⟨#[42]⟩).data.toList
def Zt3 (t : Tm) : List UInt8 := if ab t.c = ((1 : Int) : Rat) ∧ t.i + t.j ≠ 0 then ltB t.i t.j else qB (ab t.c) ++ (if t.i + t.j = 0 then [] else 42 :: ltB t.i t.j)
theorem join_one (x s : List UInt8) : Lib.join [x] s = x := by simp [Lib.join, List.intercalate]
theorem Qaf (x y s : List UInt8) (l : List (List UInt8)) : Lib.join (x :: y :: l) s = x ++ (s ++ Lib.join (y :: l) s) := by simp [Lib.join, List.intercalate]
theorem Zg0 {s : ByteArray} {n : Nat} : Za2 s n = [] ↔ n = 0 := by
 unfold Za2; split
 · simp_all
 · split <;> simp_all
theorem tmTx_B (t : Tm) : (tmTx Ks t).data.toList = Zt3 t := by
 have hq : (Ks (ab t.c)).data.toList = qB (ab t.c) := Zup (by rw [(Zcl t.c).1]; omega)
 unfold tmTx Zt3 hdB
 by_cases h1 : ab t.c = ((1 : Int) : Rat) ∧ t.i + t.j ≠ 0
 · rw [if_pos h1, if_neg (by rw [decide_eq_true h1.1, decide_eq_false h1.2]; decide)]; rfl
 ·
  rw [if_neg h1, if_pos (by
   simp only [Bool.or_eq_true, Bool.not_eq_true', decide_eq_false_iff_not, decide_eq_true_eq]
   by_cases h2 : ab t.c = ((1 : Int) : Rat)
   · exact .inr (Decidable.of_not_not (fun h3 => h1 ⟨h2, h3⟩))
   · exact .inl h2)]
  rw [List.singleton_append, List.cons_append]
  unfold Zix ltB Zix
  rw [← hq]
  by_cases h0 : t.i + t.j = 0
  ·
   have e1 : Za2 ⟨#[120]⟩ t.i = [] := Zg0.2 oo
   have e2 : Za2 ⟨#[121]⟩ t.j = [] := Zg0.2 oo
   rw [if_pos h0, e1, e2]
   simp [join_one]
  ·
   rw [if_neg h0]
   rcases hl : Za2 ⟨#[120]⟩ t.i ++ Za2 ⟨#[121]⟩ t.j with _ | ⟨y, l⟩
   ·
    exfalso
    obtain ⟨e1, e2⟩ := List.append_eq_nil_iff.1 hl
    exact h0 (by rw [Zg0.1 e1, Zg0.1 e2])
   · rw [List.map_cons, List.map_cons, Qaf]; simp
def sgB (t : Tm) : List UInt8 := if t.c.num.sign < 0 then [32, 45, 32] else [32, 43, 32]
def tlB : List Tm → List UInt8
 | [] => []
 | t :: p => sgB t ++ (Zt3 t ++ tlB p)
def fuB : List Tm → List UInt8
 | [] => []
 | t :: p => (if t.c.num.sign < 0 then [45] else []) ++ (Zt3 t ++ tlB p)
theorem Zp9 (t : Tm) : ∀ p : List Tm, tlB (p ++ [t]) = tlB p ++ (sgB t ++ Zt3 t)
 | [] => by simp [tlB]
 | s :: p => by rw [List.cons_append, tlB, Zp9 t p, tlB]; simp
theorem Zrm (t : Tm) (s : Tm) (p : List Tm) : fuB (s :: p ++ [t]) = fuB (s :: p) ++ (sgB t ++ Zt3 t) := by
 rw [List.cons_append, fuB, Zp9, fuB]; simp
theorem txP_B (p : List Tm) : ∀ k, k ≤ p.length → (txP Ks p k).data.toList = fuB (p.take k)
 | 0, _ => rfl
 | k + 1, hk => by
  have ih := txP_B p k oo
  have ht := tmTx_B (p.getD k T0)
  rw [txP, ByteArray.data_append, Array.toList_append, ht, take_snoc p (show k < p.length by omega)]
  rcases hp : p.take k with _ | ⟨s, r⟩
  ·
   have hk0 : k = 0 := by
    have := congrArg List.length hp
    rw [List.length_take, List.length_nil] at this; omega
   subst hk0
   show _ = fuB [p.getD 0 T0]
   rw [fuB, tlB, List.append_nil]
   congr 1
   rw [show decide (0 = 0) = true from rfl]
   by_cases hs : (p.getD 0 T0).c.num.sign < 0
   · rw [decide_eq_true hs, if_pos hs]; rfl
   · rw [decide_eq_false hs, if_neg hs]; rfl
  ·
   have hk0 : k ≠ 0 := fun e => by subst e; simp at hp
   rw [hp] at ih
   rw [Zrm, ← ih, decide_eq_false hk0, ← List.append_assoc]
   congr 1
   unfold sgB
   by_cases hs : (p.getD k T0).c.num.sign < 0
   · rw [decide_eq_true hs, if_pos hs, Zzm, ByteArray.data_append, Array.toList_append]
   · rw [decide_eq_false hs, if_neg hs, Zzm, ByteArray.data_append, Array.toList_append]
theorem txtP_B (p : List Tm) : (Zn8 Ks p).data.toList = if fuB p = [] then [48] else fuB p := by
 have h := txP_B p p.length (Nat.le_refl _)
 rw [List.take_length] at h
 unfold Zn8
 by_cases h0 : fuB p = []
 · rw [if_pos h0, if_pos (by apply ByteArray.ext; apply Array.ext'; rw [h, h0])]
 · rw [if_neg h0, if_neg (fun e => h0 (by rw [← h, e])), h]
def OkD (t : Tm) : Prop := t.i < 4 ∧ t.j < 4 ∧ t.c ≠ 0
theorem Zqk (c : Rat) : c.num.sign < 0 ↔ c < 0 := by
 have h1 := @Rat.num_nonneg c
 have h2 : c.num.sign < 0 ↔ c.num < 0 := by
  rcases Int.lt_trichotomy c.num 0 with h | h | h
  · rw [Int.sign_eq_neg_one_of_neg h]; omega
  · rw [h]; decide
  · rw [Int.sign_eq_one_of_pos h]; omega
 rw [h2]
 constructor
 ·
  intro h; have : ¬ 0 ≤ c := fun h3 => by rw [← h1] at h3; omega
  grind
 ·
  intro h; have : ¬ 0 ≤ c.num := fun h3 => by rw [h1] at h3; grind
  omega
end
section
def OkE (E : List Tm) : Prop := Nrm E ∧ E.length ≤ 20 ∧ ∀ t ∈ E, t.i + t.j ≤ 12 ∧ t.c.num.natAbs < 100 ∧ t.c.den < 100
instance (E : List Tm) : Decidable (OkE E) := by unfold OkE Nrm; infer_instance
theorem Qaa {x : Rat} (h1 : x.num.natAbs < 100) (h2 : x.den < 100) : Jr x ≤ 4 := by
 have a := Yp (n := x.num.natAbs) oo
 have b := Yp (n := x.den) oo
 unfold Jr Kk; omega
theorem OkE.pq {E : List Tm} (h : OkE E) : Pq 12 101 E := (Pq.raw (fun t ht => (h.2.2 t ht).1) (k := 4) (fun t ht => Qaa (h.2.2 t ht).2.1 (h.2.2 t ht).2.2) h.2.1 dd).mono (Nat.le_refl _) dd
theorem C_TE (E : List Tm) (s : ByteArray) (ad : Option Addr) (c : Nat) (h : OkE E) (hs : Zn8 Zdy E = s) : Gn Tryz.prog 16 [.slice ad E.length c] [Row ad (cellsOf Qb E)] (.string s) := by
 have hn := Zd1 h.1
 have h1 := Zso E ad c 12 101 100 [] Zdy h.pq dd dd (fun t ht => by
  rw [hn] at ht
  obtain ⟨_, h2, h3⟩ := h.2.2 t ht
  exact Qf3 (ab t.c) (by rw [(Zcl t.c).1]; simpa using h2) (by rw [(Zcl t.c).2]; exact h3)) (fun t _ => by have := Zsw (ab t.c); omega) dd dd
 rw [hn, hs] at h1
 exact h1
def hf : Rat := ((-1 : Int) : Rat) / ((2 : Int) : Rat)
attribute [local irreducible] hf
def xL : List Tm := [(⟨1, 0, ((1 : Int) : Rat)⟩ : Tm)]
def yL : List Tm := [(⟨0, 1, ((1 : Int) : Rat)⟩ : Tm)]
def rA : List Tm := [(⟨0, 0, hf⟩ : Tm), (⟨1, 0, ((1 : Int) : Rat)⟩ : Tm), (⟨1, 2, ((-3 : Int) : Rat)⟩ : Tm)]
def rB : List Tm := [(⟨2, 0, ((1 : Int) : Rat)⟩ : Tm), (⟨1, 1, ((2 : Int) : Rat)⟩ : Tm), (⟨2, 0, ((-1 : Int) : Rat)⟩ : Tm)]
def r7 : List Tm := [(⟨7, 0, ((1 : Int) : Rat)⟩ : Tm)]
def r6 : List Tm := [(⟨0, 6, ((1 : Int) : Rat)⟩ : Tm)]
def rH : List Tm := [(⟨1, 1, ((1 : Int) : Rat)⟩ : Tm)]
def rG : List Tm := [(⟨2, 1, ((1 : Int) : Rat)⟩ : Tm)]
def rL : List Tm := [(⟨3, 0, ((1 : Int) : Rat)⟩ : Tm), (⟨0, 2, ((1 : Int) : Rat)⟩ : Tm)]
def rK : List Tm := [(⟨0, 0, ((5 : Int) : Rat)⟩ : Tm), (⟨1, 0, ((1 : Int) : Rat)⟩ : Tm)]
def rM : List Tm := [(⟨2, 0, ((1 : Int) : Rat)⟩ : Tm), (⟨0, 1, ((1 : Int) : Rat)⟩ : Tm)]
def eA : List Tm := [(⟨0, 0, hf⟩ : Tm), (⟨1, 0, ((1 : Int) : Rat)⟩ : Tm), (⟨1, 2, ((-3 : Int) : Rat)⟩ : Tm)]
def eB : List Tm := [(⟨1, 1, ((2 : Int) : Rat)⟩ : Tm)]
def e7 : List Tm := [(⟨7, 0, ((1 : Int) : Rat)⟩ : Tm)]
def e6 : List Tm := [(⟨0, 6, ((1 : Int) : Rat)⟩ : Tm)]
theorem e6_ok : OkE e6 := by unfold e6; decide +kernel
def eH0 : List Tm := [(⟨1, 1, ((1 : Int) : Rat)⟩ : Tm)]
def eG : List Tm := [(⟨2, 1, ((1 : Int) : Rat)⟩ : Tm)]
def eL0 : List Tm := [(⟨0, 2, ((1 : Int) : Rat)⟩ : Tm), (⟨3, 0, ((1 : Int) : Rat)⟩ : Tm)]
def eK : List Tm := [(⟨0, 0, ((5 : Int) : Rat)⟩ : Tm), (⟨1, 0, ((1 : Int) : Rat)⟩ : Tm)]
def eM : List Tm := [(⟨0, 1, ((1 : Int) : Rat)⟩ : Tm), (⟨2, 0, ((1 : Int) : Rat)⟩ : Tm)]
def eS : List Tm := [(⟨1, 0, ((1 : Int) : Rat)⟩ : Tm), (⟨0, 1, ((1 : Int) : Rat)⟩ : Tm)]
def eD : List Tm := [(⟨1, 0, ((1 : Int) : Rat)⟩ : Tm), (⟨0, 1, ((-1 : Int) : Rat)⟩ : Tm)]
def eC : List Tm := [(⟨2, 0, ((1 : Int) : Rat)⟩ : Tm), (⟨0, 2, ((-1 : Int) : Rat)⟩ : Tm)]
def e1 : List Tm := [(⟨0, 0, ((1 : Int) : Rat)⟩ : Tm)]
def eP : List Tm := [(⟨0, 0, ((1 : Int) : Rat)⟩ : Tm), (⟨1, 0, ((1 : Int) : Rat)⟩ : Tm)]
def eQ : List Tm := [(⟨0, 0, ((1 : Int) : Rat)⟩ : Tm), (⟨1, 0, ((3 : Int) : Rat)⟩ : Tm), (⟨2, 0, ((3 : Int) : Rat)⟩ : Tm), (⟨3, 0, ((1 : Int) : Rat)⟩ : Tm)]
def eH : List Tm := [(⟨0, 1, ((2 : Int) : Rat)⟩ : Tm), (⟨1, 1, ((1 : Int) : Rat)⟩ : Tm)]
def eL : List Tm := [(⟨0, 0, ((2 : Int) : Rat)⟩ : Tm), (⟨1, 0, ((6 : Int) : Rat)⟩ : Tm)]
theorem i1 : ((1 : Int) : Rat) = 1 := rfl
theorem i0 : ((0 : Int) : Rat) = 0 := rfl
theorem i2 : ((2 : Int) : Rat) = 2 := rfl
theorem i3 : ((3 : Int) : Rat) = 3 := rfl
theorem i5 : ((5 : Int) : Rat) = 5 := rfl
theorem n6 : norm r6 = e6 := Zd1 e6_ok.1
end
section
end
section
end
section
abbrev encA6 (a b c d e f : Rat) : Value := .agg #[.int .u64 (Gw a.num.natAbs), .string (Va a.num.natAbs), .bool (decide (a.num < 0)), .int .u64 (Gw (a.den - 1)), .string (Va (a.den - 1)), .int .u64 (Gw b.num.natAbs), .string (Va b.num.natAbs), .bool (decide (b.num < 0)), .int .u64 (Gw (b.den - 1)), .string (Va (b.den - 1)), .int .u64 (Gw c.num.natAbs), .string (Va c.num.natAbs), .bool (decide (c.num < 0)), .int .u64 (Gw (c.den - 1)), .string (Va (c.den - 1)), .int .u64 (Gw d.num.natAbs), .string (Va d.num.natAbs), .bool (decide (d.num < 0)), .int .u64 (Gw (d.den - 1)), .string (Va (d.den - 1)), .int .u64 (Gw e.num.natAbs), .string (Va e.num.natAbs), .bool (decide (e.num < 0)), .int .u64 (Gw (e.den - 1)), .string (Va (e.den - 1)), .int .u64 (Gw f.num.natAbs), .string (Va f.num.natAbs), .bool (decide (f.num < 0)), .int .u64 (Gw (f.den - 1)), .string (Va (f.den - 1))]
abbrev encS6 (s0 s1 s2 s3 s4 s5 : Int × Int) : Value := .agg #[.int .i64 s0.1, .int .u32 s0.2, .int .i64 s1.1, .int .u32 s1.2, .int .i64 s2.1, .int .u32 s2.2, .int .i64 s3.1, .int .u32 s3.2, .int .i64 s4.1, .int .u32 s4.2, .int .i64 s5.1, .int .u32 s5.2]
def c6 (ss : List (Int × Int)) : Nat → List Rat
 | 0 => List.replicate 6 0
 | i + 1 => (c6 ss i).set i (qv (ss.getD i (0, 0)).1 (ss.getD i (0, 0)).2)
end
section
theorem ok_c {t : Tm} (h : t.c ≠ 0) (hc : (t.c.num.sign == 0) = true) : False := by
 rw [beq_iff_eq, Int.sign_eq_zero_iff_zero] at hc
 exact h (Rat.num_eq_zero.1 hc)
theorem Qd8 {p : List Tm} (h : Nrm p) {i : Nat} (h0 : 0 < i) (hi : i < p.length) : Zt4 (p.getD (i - 1) T0) (p.getD i T0) < 0 := by
 rw [Zkn]
 have := List.pairwise_iff_getElem.1 h.2 (i - 1) i oo hi oo
 simpa [List.getD, hi, show i - 1 < p.length by omega] using this
theorem C_OkN (p : List Tm) (ad : Option Addr) (c : Nat) (hN : Nrm p) (hd : DL 12 p) (hn : p.length ≤ 100000) : Gn Tryz.prog 17 [.slice ad p.length c] [Row ad (cellsOf Qb p)] (.bool true) := by
 refine fn_intro func17 rfl ntmps17 nb ?_
 intro S w0 a hS h
 refine gC h (zS (za rfl (zn (zs (zS (zm rfl (zp (.builtin [_] rfl (Qd _ _ _)) (zm rfl (zn (zb ?_)))))))))); clear h; intro a w h
 refine Zi (fun (i : Nat) a w => i ≤ p.length ∧ St 36 S w0 [(0, .slice ad p.length c), (5, .slice ad p.length c), (6, nI p.length), (7, nI i)] [] [Row ad (cellsOf Qb p)] a w) (fun i => p.length - i) 0 (⟨Nat.zero_le _, by exact (h).sub sA⟩) ?_; clear h
 rintro i a w ⟨hi_i, h⟩
 refine gC h (zS (zp (.lss rfl rfl) (zn (zs ?_)))); clear h; intro a w h
 refine Zb h rfl (fun hc8 => ?_) (fun hc8 => ?_)
 ·
  skip
  have hlt_i : i < p.length := dT hc8
  obtain ⟨B_ad, O_ad, rfl⟩ := h.row_addr (ad := ad) (M := cellsOf Qb p) mm (nE 7)
  have hmem := getD_mem p (d := T0) hlt_i
  have hdg := hd _ hmem
  refine gC h (zk (zs (zb (zS (zm rfl (zp (.indexAddr rfl rfl (Zc2 _ _ _ _ _ oo)) (zD rfl mm (cells_lt (k := 7) dd (fun _ => rfl) p i oo) isAgg82 sizeOf82 (Qn (k := 7) (fun _ => rfl) ((fun _ => rfl)) p T0 i oo) (.inl rfl) ?_)))))))
  refine zz Zdq fun b4 => za rfl (zt' rfl rfl Kg uu sizeOf82 rfl nb rfl ?_)
  refine zn (zs (yD Za [0, 1, 2, 3, 4, 5, 6, 7, 8, 9, 10, 11, 12, 13, 14, 15, 16, 17, 18, 19, 20, 21, 22] (Zf kk) (yd rfl rfl mr isAgg82 sizeOf82 Zb8 ?_)))
  refine yv [_] rfl rfl call47 (C_may (p.getD i T0) oo) (yp rfl (.neq rfl rfl) ?_)
  refine Xs (fun hc14  => (absurd hc14 dd)) (fun hc14  => ?_)
  refine ym rfl rfl (yq rfl rfl rfl (.fA rfl Vo) (yg rfl rfl rfl rfl mr isAgg53 sizeOf53 Ki ?_))
  refine Zcb rfl rfl rfl kk (vs := [_]) rfl call43 (Zf7 _) dd ?_
  refine yq rfl rfl rfl (.eql rfl rfl) ?_
  refine Xs (fun hc19  => (by exfalso; exact ok_c (hN.1 _ hmem) hc19)) (fun hc19  => ?_)
  refine yp rfl (.pickF rfl rfl) (ym rfl rfl (yq rfl rfl rfl (.move rfl) (yq rfl rfl rfl (.gtr rfl rfl) ?_)))
  refine Xs (fun hc23  => ?_) (fun hc23  => ?_)
  focus
   have h0i : 0 < i := dT hc23
   have hdg2 := hd _ (getD_mem p (d := T0) (show i - 1 < p.length by omega))
   refine yq rfl rfl rfl (.move rfl) (yq rfl rfl rfl (.move rfl) (yq rfl rfl rfl (.move rfl) (yq rfl rfl rfl (.pO (i - 1) (.sub rfl rfl)) (yq rfl rfl rfl (.indexAddr rfl rfl (Zc2 _ _ _ _ _ oo)) ?_))))
   refine Zev rfl rfl rfl kk rfl mm (cells_lt (k := 7) dd (fun _ => rfl) p (i - 1) oo) isAgg82 sizeOf82 (Qn (k := 7) (fun _ => rfl) ((fun _ => rfl)) p T0 (i - 1) oo) (.inl rfl) dd ?_
   refine yg rfl rfl rfl rfl mr isAgg82 sizeOf82 Zb8 ?_
   refine Zcb rfl rfl rfl kk (vs := [_, _]) rfl call48 (Zsl (p.getD (i - 1) T0) (p.getD i T0) oo oo) dd ?_
   refine yq rfl rfl rfl (.geq rfl rfl) ?_
   refine Xs (fun hc32  => (by exfalso; have h8 := of_decide_eq_true hc32; have h9 := Qd8 hN h0i hlt_i; omega)) (fun hc32  => ?_)
   refine yq rfl rfl rfl (.pickT rfl rfl) (yp rfl (.pickF rfl rfl) (yn ?_)); intro a w h
  rotate_left
  focus
   refine yq rfl rfl rfl (.move rfl) (yo 24 rfl rfl rfl rfl (yo 24 rfl rfl rfl rfl (yo 24 rfl rfl rfl rfl (yo 24 rfl rfl rfl rfl (yo 24 rfl rfl rfl rfl (yo 24 rfl rfl rfl rfl (yo 24 rfl rfl rfl rfl (yo 24 rfl rfl rfl rfl (yq rfl rfl rfl (.pickF rfl rfl) (yp rfl (.pickF rfl rfl) (yn ?_))))))))))); intro a w h
  all_goals
   refine cW ?_
   refine Ze h rfl ?_
   refine gC h (zk (zr (zp (.pN (i + 1) (.add rfl rfl)) (zm rfl (zn ?_))))); clear h; intro a w h
   exact ⟨i + 1, ⟨oo, ((h.drop sl).factsSub (by simp)).sub sA⟩, oo⟩
 ·
  skip
  have heq_i : p.length = i := dF hc8
  subst heq_i
  refine gC h (ze (zS (za rfl (zn (zt ?_))))); clear h; intro a w h
  exact Zeh h
theorem Qc9 {d K : Nat} {p : List Tm} (hq : Pq d K p) : ∀ t ∈ norm p, (Ks (ab t.c)).size ≤ 20 * K + 10 := fun t ht => by
 have h := hq.nsz t ht
 refine Zfj _ ?_
 unfold Jr Kk at *
 rw [(Zcl t.c).1, (Zcl t.c).2]; exact h
theorem tx_ctr {d K : Nat} {p : List Tm} (hq : Pq d K p) (hK : K ≤ 300000) : ∀ t ∈ norm p, Gn Tryz.prog 21 [Vv (ab t.c)] [TabF] (.string (Ks (ab t.c))) := fun t ht => Qbm (ab t.c) (by
 have h := hq.nsz t ht
 unfold Jr Kk at *
 rw [(Zcl t.c).1, (Zcl t.c).2]; exact Nat.le_trans h hK)
theorem Qf0 (p : List Tm) (ad : Option Addr) (c d K : Nat) (hq : Pq d K p) (hd : d ≤ 12) (hK : K ≤ 300000) : Gn Tryz.prog 16 [.slice ad p.length c] [Row ad (cellsOf Qb p), TabF] (.string (Zn8 Ks (norm p))) :=
 Zso p ad c d K (20 * K + 10) [TabF] Ks hq hd oo (tx_ctr hq hK) (Qc9 hq) oo oo
end
section
def zpt (x y : Int) : Pt := (((x : Int) : Rat), ((y : Int) : Rat))
def pX : List Tm := [⟨1, 0, ((1 : Int) : Rat)⟩]
def pY : List Tm := [⟨0, 1, ((1 : Int) : Rat)⟩]
def p1 : List Tm := [⟨0, 0, ((1 : Int) : Rat)⟩]
theorem Zv3 (p : List Tm) (u v z : Pt) : Zyy (norm p) u v z = Zyy p u v z := Zy7 (Eqv.nrm p) u v z
def Sm (n d : Int) : Prop := (-9223372036854775808 ≤ n ∧ n ≤ 9223372036854775807) ∧ (-9223372036854775808 ≤ d ∧ d ≤ 9223372036854775807) ∧ d ≠ 0 ∧ ((n : Rat) / (d : Rat)).num.natAbs < 100 ∧ ((n : Rat) / (d : Rat)).den < 100
instance (n d : Int) : Decidable (Sm n d) := by unfold Sm; infer_instance
theorem w1 : Zyy (norm p1) (zpt 0 0) (zpt 1 0) (zpt 0 1) = ((1 : Int) : Rat) / ((2 : Int) : Rat) := by rw [Zv3]; decide +kernel
theorem w2 : Zyy (norm (Vh pX pY)) (zpt 0 0) (zpt 1 0) (zpt 0 1) = ((1 : Int) : Rat) / ((24 : Int) : Rat) := by rw [Zv3]; decide +kernel
end
section
end
section
def tmZ (t : Tz) : Tm := ⟨t.i.toNat, t.j.toNat, t.c⟩
def toZ (t : Tm) : Tz := ⟨(t.i : Int), (t.j : Int), t.c⟩
theorem Tz.ext' {s t : Tz} (h1 : s.i = t.i) (h2 : s.j = t.j) (h3 : s.c = t.c) : s = t := by cases s; cases t; simp_all
instance : DecidableEq Tz := fun s t => decidable_of_iff (s.i = t.i ∧ s.j = t.j ∧ s.c = t.c) ⟨fun ⟨a, b, c⟩ => Tz.ext' a b c, fun h => h ▸ ⟨rfl, rfl, rfl⟩⟩
def npZ (Z : List Tz) : List Tm := if Zwy Z = 0 then norm (Z.map tmZ) else []
def okK (Z : List Tz) (k : Nat) : Bool := decide (mayZ (Z.getD k Tz0) = 0) && !decide ((Z.getD k Tz0).c = 0) && (decide (k = 0) || decide (Zt4 (tmZ (Z.getD (k - 1) Tz0)) (tmZ (Z.getD k Tz0)) < 0))
def okB (Z : List Tz) : Bool := decide (∀ k, k < Z.length → okK Z k = true)
end
section
def Zgt : List Rat → Nat → List Tm
 | [], _ => []
 | x :: l, k => ⟨k / 13, k % 13, x⟩ :: Zgt l (k + 1)
def pol (X : List Rat) : List Tm := Zgt X 0
theorem Zqy : ∀ (X : List Rat) (k : Nat), (Zgt X k).length = X.length
 | [], _ => rfl
 | x :: l, k => by rw [Zgt, List.length_cons, List.length_cons, Zqy l (k + 1)]
theorem Yt (X : List Rat) : (pol X).length = X.length := Zqy X 0
theorem Zqz : ∀ (X : List Rat) (k m : Nat), m < X.length → (Zgt X k).getD m T0 = ⟨(k + m) / 13, (k + m) % 13, X.getD m 0⟩
 | [], _, _, h => absurd h (Nat.not_lt_zero _)
 | x :: l, k, 0, _ => rfl
 | x :: l, k, m + 1, h => by
  rw [Zgt, List.getD_cons_succ, Zqz l (k + 1) m (by simpa using h), List.getD_cons_succ, show k + 1 + m = k + (m + 1) by omega]
theorem Za9 {X : List Rat} {m : Nat} (h : m < X.length) : (pol X).getD m T0 = ⟨m / 13, m % 13, X.getD m 0⟩ := by
 unfold pol; rw [Zqz X 0 m h, Nat.zero_add]
theorem Zgd (φ : Nat → Nat → Rat) (y : Rat) : ∀ (X : List Rat) (k m : Nat), m < X.length → lin φ (Zgt (X.set m y) k) = lin φ (Zgt X k) + (y - X.getD m 0) * φ ((k + m) / 13) ((k + m) % 13)
 | [], _, _, h => absurd h (Nat.not_lt_zero _)
 | x :: l, k, 0, _ => by simp only [List.set_cons_zero, Zgt, lin, List.getD_cons_zero, Nat.add_zero]; grind
 | x :: l, k, m + 1, h => by
  have ih := Zgd φ y l (k + 1) m (by simpa using h)
  rw [show k + 1 + m = k + (m + 1) by omega] at ih
  simp only [List.set_cons_succ, Zgt, lin, List.getD_cons_succ]; rw [ih]; grind
theorem Zao (φ : Nat → Nat → Rat) (y : Rat) {X : List Rat} {m : Nat} (h : m < X.length) : lin φ (pol (X.set m y)) = lin φ (pol X) + (y - X.getD m 0) * φ (m / 13) (m % 13) := by
 have := Zgd φ y X 0 m h
 rw [Nat.zero_add] at this; exact this
theorem Zeq (φ : Nat → Nat → Rat) : ∀ n k : Nat, lin φ (Zgt (List.replicate n 0) k) = 0
 | 0, _ => rfl
 | n + 1, k => by rw [List.replicate_succ, Zgt, lin, Zeq φ n (k + 1)]; grind
theorem Xz (φ : Nat → Nat → Rat) (n : Nat) : lin φ (pol (List.replicate n 0)) = 0 := Zeq φ n 0
theorem Zhu {i j : Nat} (hj : j < 13) : ∀ (X : List Rat) (k : Nat), lin (at0 i j) (Zgt X k) = if k ≤ 13 * i + j then X.getD (13 * i + j - k) 0 else 0
 | [], k => by simp [Zgt, lin]
 | x :: l, k => by
  have ha : at0 i j (k / 13) (k % 13) = if k = 13 * i + j then 1 else 0 := by
   unfold at0
   by_cases h : k = 13 * i + j
   · rw [if_pos oo, if_pos h]
   · rw [if_neg oo, if_neg h]
  rw [Zgt, lin, Zhu hj l (k + 1)]
  dsimp only
  rw [ha]
  by_cases h : k = 13 * i + j
  · rw [if_pos h, if_neg oo, if_pos oo, show 13 * i + j - k = 0 by omega, List.getD_cons_zero]; grind
  ·
   rw [if_neg h]
   by_cases h2 : k ≤ 13 * i + j
   · rw [if_pos oo, if_pos h2, show 13 * i + j - k = (13 * i + j - (k + 1)) + 1 by omega, List.getD_cons_succ]; grind
   · rw [if_neg oo, if_neg h2]; grind
theorem Zmf {X : List Rat} {i j : Nat} (hj : j < 13) : lin (at0 i j) (pol X) = X.getD (13 * i + j) 0 := by
 unfold pol; rw [Zhu hj X 0, if_pos (Nat.zero_le _), Nat.sub_zero]
theorem Zvu {X : List Rat} {p : List Tm} (h : Eqv (pol X) p) (k : Nat) : X.getD k 0 = lin (at0 (k / 13) (k % 13)) p := by
 rw [← h, Zmf (Nat.mod_lt _ dd)]; congr 1; omega
theorem Zkm {X : List Rat} {t : Tm} (h : t ∈ pol X) : ∃ k, k < X.length ∧ t = ⟨k / 13, k % 13, X.getD k 0⟩ := by
 obtain ⟨k, hk, e⟩ := List.mem_iff_getElem.1 h
 rw [Yt] at hk
 refine ⟨k, hk, ?_⟩
 rw [← Za9 hk, ← e]
 simp [List.getD, show k < (pol X).length by rw [Yt]; exact hk]
theorem Hb.sub {K : Nat} {l m : List Tm} (h : Hb K l) (h1 : ∀ t ∈ m, t ∈ l) (h2 : sab m ≤ sab l) : Hb K m := by
 obtain ⟨D, N, a, b, c, d, e⟩ := h
 refine ⟨D, N, a, b, c, fun t ht => d t (h1 t ht), ?_⟩
 have := Jl h2 (Jg D)
 grind
theorem Qck {D a b : Nat} : ∀ {p : List Tm}, (∀ t ∈ p, ID D t.c) → ID D (lin (at0 a b) p)
 | [], _ => ID.zero D
 | t :: p, h => by
  rw [lin]
  refine ID.add ?_ (Qck (fun s hs => h s (List.mem_cons_of_mem _ hs)))
  unfold at0
  split
  · rw [Rat.mul_one]; exact h t List.mem_cons_self
  · rw [Rat.mul_zero]; exact ID.zero D
theorem Zjn {φ : Nat → Nat → Rat} (h : ∀ i j, φ i j = 1 ∨ φ i j = -1) : ∀ p : List Tm, lin φ p ≤ sab p
 | [] => by simp only [lin, sab]; grind
 | t :: p => by
  have ih := Zjn h p
  have h1 : t.c * φ t.i t.j ≤ ab t.c := by
   rcases h t.i t.j with e | e <;> rw [e] <;> unfold ab <;> split <;> grind
  simp only [lin, sab]; grind
theorem Zqn (φ : Nat → Nat → Rat) : ∀ (l : List Rat) (k : Nat), (∀ m, m < l.length → φ ((k + m) / 13) ((k + m) % 13) = if l.getD m 0 < 0 then -1 else 1) → sab (Zgt l k) = lin φ (Zgt l k)
 | [], _, _ => rfl
 | x :: l, k, h => by
  have ih := Zqn φ l (k + 1) (fun m hm => by
   have := h (m + 1) (by simpa using hm)
   rwa [show k + (m + 1) = k + 1 + m by omega, List.getD_cons_succ] at this)
  have h0 := h 0 ss
  rw [Nat.add_zero, List.getD_cons_zero] at h0
  simp only [Zgt, sab, lin, ih, h0]
  unfold ab
  split <;> grind
theorem Zs3 {X : List Rat} {p : List Tm} (h : Eqv (pol X) p) : sab (pol X) ≤ sab p := by
 have e := Zqn (fun i j => if X.getD (13 * i + j) 0 < 0 then -1 else 1) X 0 (fun m hm => by
  rw [Nat.zero_add]
  have : 13 * (m / 13) + m % 13 = m := oo
  simp only [this])
 have e2 : sab (pol X) = lin (fun i j => if X.getD (13 * i + j) 0 < 0 then -1 else 1) p := by rw [← h]; exact e
 rw [e2]
 exact Zjn (fun i j => by split <;> simp) p
theorem Hb.of_eqv {K : Nat} {X : List Rat} {p : List Tm} (h : Hb K p) (he : Eqv (pol X) p) : Hb K (pol X) := by
 obtain ⟨D, N, a, b, c, d, e⟩ := h
 refine ⟨D, N, a, b, c, fun t ht => ?_, ?_⟩
 ·
  obtain ⟨k, hk, rfl⟩ := Zkm ht
  show ID D (X.getD k 0)
  rw [Zvu he k]; exact Qck d
 ·
  have := Jl (Zs3 he) (Jg D)
  grind
structure Tb (d K : Nat) (X : List Rat) : Prop where
 len : X.length = 169
 deg : ∀ k, k < 169 → X.getD k 0 ≠ 0 → k / 13 + k % 13 ≤ d
 hgt : Hb K (pol X)
theorem Tb.siz {d K : Nat} {X : List Rat} (h : Tb d K X) {k : Nat} (hk : k < 169) : Jr (X.getD k 0) ≤ K := by
 have h1 := h.hgt.siz _ (getD_mem (pol X) (d := T0) (show k < (pol X).length by rw [Yt, h.len]; exact hk))
 rwa [Za9 (by rw [h.len]; exact hk)] at h1
theorem Tb.of_eqv {d K : Nat} {X : List Rat} {p : List Tm} (hl : X.length = 169) (he : Eqv (pol X) p) (hd : DL d p) (hh : Hb K p) : Tb d K X := by
 refine ⟨hl, fun k hk hne => ?_, hh.of_eqv he⟩
 rw [Zvu he k] at hne
 obtain ⟨u, hu, e1, e2⟩ := Zr1 hne
 have := Yh hd u hu
 omega
theorem Tb.mono {d K d' K' : Nat} {X : List Rat} (h : Tb d K X) (hd : d ≤ d') (hk : K ≤ K') : Tb d' K' X := ⟨h.len, fun k hk hne => Nat.le_trans (h.deg k hk hne) hd, h.hgt.mono hk⟩
theorem Tb.zero (d : Nat) : Tb d 1 (List.replicate 169 0) := Tb.of_eqv (p := []) ss (fun φ => by rw [Xz, Zfx]) (fun _ h => nomatch h) Hb.nil
def qM (A B : List Rat) (k m : Nat) : List Tm := Vh ((pol A).take k) (pol B) ++ ((pol B).take m).map (mulS ((pol A).getD k T0))
theorem Zqm (l : List Tm) : ∀ n, sab (l.take n) ≤ sab l := by
 induction l with
 | nil => intro n; rw [List.take_nil]; grind
 | cons t l ih =>
  intro n
  cases n with
  | zero => rw [List.take_zero]; have := Zaa (t :: l); simp only [sab] at *; grind
  | succ n => rw [List.take_succ_cons, sab, sab]; have := ih n; grind
theorem qM_Hb {Ka Kb : Nat} {A B : List Rat} (ha : Hb Ka (pol A)) (hb : Hb Kb (pol B)) {k m : Nat} (hk : k < A.length) : Hb (Ka + Kb) (qM A B k m) := by
 refine (ha.mul hb).sub (fun t ht => ?_) ?_
 ·
  unfold qM Vh at *
  have hmem := getD_mem (pol A) (d := T0) (show k < (pol A).length by rw [Yt]; exact hk)
  rcases List.mem_append.1 ht with h | h
  ·
   obtain ⟨s, hs, h⟩ := List.mem_flatMap.1 h
   exact List.mem_flatMap.2 ⟨s, List.mem_of_mem_take hs, h⟩
  ·
   obtain ⟨s, hs, rfl⟩ := List.mem_map.1 h
   exact List.mem_flatMap.2 ⟨_, hmem, List.mem_map.2 ⟨s, List.mem_of_mem_take hs, rfl⟩⟩
 ·
  unfold qM
  have e1 := Zdz ((pol A).getD k T0) ((pol B).take m)
  have e2 := Zqm (pol B) m
  have e3 := Zqm (pol A) (k + 1)
  have e4 : sab ((pol A).take (k + 1)) = sab ((pol A).take k) + ab ((pol A).getD k T0).c := by
   rw [take_snoc (pol A) (show k < (pol A).length by rw [Yt]; exact hk), Zbm]; simp only [sab]; grind
  have e5 := Jl e2 (Zbx ((pol A).getD k T0).c)
  have e6 := Jl e3 (Zaa (pol B))
  have e7 : sab (((pol B).take m).map (mulS ((pol A).getD k T0))) = ab ((pol A).getD k T0).c * sab ((pol B).take m) := e1
  rw [Zbm, Zkh, Zkh, e7]
  rw [e4] at e6
  grind
theorem Qdx {A B X : List Rat} {k m i j : Nat} (hA : A.length = 169) (hB : B.length = 169) (hX : X.length = 169) (hk : k < 169) (hm : m < 169) (hi : i = k / 13 + m / 13) (hj : j = k % 13 + m % 13) (hij : i + j ≤ 12) (h : Eqv (pol X) (qM A B k m)) :
  Eqv (pol (X.set (13 * i + j) (X.getD (13 * i + j) 0 + A.getD k 0 * B.getD m 0))) (qM A B k (m + 1)) := fun φ => by
 rw [Zao φ _ oo, h φ]
 have e : qM A B k (m + 1) = qM A B k m ++ [mulS ((pol A).getD k T0) ((pol B).getD m T0)] := by
  unfold qM; rw [take_snoc (pol B) (show m < (pol B).length by rw [Yt, hB]; exact hm), List.map_append, List.append_assoc]; rfl
 rw [e, Xp, Za9 (by rw [hA]; exact hk), Za9 (by rw [hB]; exact hm)]
 rw [show (13 * i + j) / 13 = i by omega, show (13 * i + j) % 13 = j by omega]
 simp only [lin, mulS, ← hi, ← hj]; grind
theorem Qdy {A B X : List Rat} {k m : Nat} (hA : A.length = 169) (hB : B.length = 169) (hk : k < 169) (hm : m < 169) (hz : A.getD k 0 = 0 ∨ B.getD m 0 = 0) (h : Eqv (pol X) (qM A B k m)) : Eqv (pol X) (qM A B k (m + 1)) := fun φ => by
 rw [h φ]
 have e : qM A B k (m + 1) = qM A B k m ++ [mulS ((pol A).getD k T0) ((pol B).getD m T0)] := by
  unfold qM; rw [take_snoc (pol B) (show m < (pol B).length by rw [Yt, hB]; exact hm), List.map_append, List.append_assoc]; rfl
 rw [e, Xp, Za9 (by rw [hA]; exact hk), Za9 (by rw [hB]; exact hm)]
 simp only [lin, mulS]
 rcases hz with hz | hz <;> rw [hz] <;> grind
theorem qM_row {A B X : List Rat} {k : Nat} (hA : A.length = 169) (hB : B.length = 169) (hk : k < 169) (h : Eqv (pol X) (qM A B k 169)) : Eqv (pol X) (qM A B (k + 1) 0) := fun φ => by
 rw [h φ]
 unfold qM
 rw [List.take_zero, List.map_nil, List.append_nil, ← Zmn (pol A) (pol B) k (by rw [Yt, hA]; exact hk), List.take_of_length_le (l := pol B) (by rw [Yt, hB]; exact Nat.le_refl _)]
theorem qM_end {A B X : List Rat} (hA : A.length = 169) (h : Eqv (pol X) (qM A B 169 0)) : Eqv (pol X) (Vh (pol A) (pol B)) := fun φ => by
 rw [h φ]; unfold qM
 rw [List.take_zero, List.map_nil, List.append_nil, List.take_of_length_le (l := pol A) (by rw [Yt, hA]; exact Nat.le_refl _)]
def Zsd (A B : List Rat) : Nat → List Rat
 | 0 => List.replicate 169 0
 | k + 1 => (Zsd A B k).set k (A.getD k 0 + B.getD k 0)
def scX (c : Rat) (A : List Rat) : Nat → List Rat
 | 0 => List.replicate 169 0
 | k + 1 => (scX c A k).set k (c * A.getD k 0)
theorem Zlj (A B : List Rat) : ∀ k, (Zsd A B k).length = 169
 | 0 => by simp [Zsd]
 | k + 1 => by rw [Zsd, List.length_set, Zlj A B k]
theorem Zoq (c : Rat) (A : List Rat) : ∀ k, (scX c A k).length = 169
 | 0 => by simp [scX]
 | k + 1 => by rw [scX, List.length_set, Zoq c A k]
theorem Zgf {l : List Rat} {i j : Nat} {x : Rat} (h : i ≠ j) : (l.set i x).getD j 0 = l.getD j 0 := by
 simp only [List.getD_eq_getElem?_getD, List.getElem?_set, if_neg h]
theorem Zxy (A B : List Rat) : ∀ k j, k ≤ j → (Zsd A B k).getD j 0 = 0
 | 0, j, _ => by
  rw [Zsd, List.getD_eq_getElem?_getD, List.getElem?_replicate]; split <;> rfl
 | k + 1, j, h => by rw [Zsd, Zgf oo, Zxy A B k j oo]
theorem Qb0 (c : Rat) (A : List Rat) : ∀ k j, k ≤ j → (scX c A k).getD j 0 = 0
 | 0, j, _ => by
  rw [scX, List.getD_eq_getElem?_getD, List.getElem?_replicate]; split <;> rfl
 | k + 1, j, h => by rw [scX, Zgf oo, Qb0 c A k j oo]
theorem Zsb {A B : List Rat} (hA : A.length = 169) (hB : B.length = 169) : ∀ k, k ≤ 169 → Eqv (pol (Zsd A B k)) ((pol A).take k ++ (pol B).take k)
 | 0, _ => fun φ => by rw [Zsd, Xz]; rfl
 | k + 1, h => fun φ => by
  have ih := Zsb hA hB k oo φ
  rw [Zsd, Zao φ _ (by rw [Zlj]; omega), ih, Zxy A B k k (Nat.le_refl _), take_snoc (pol A) (show k < (pol A).length by rw [Yt]; omega), take_snoc (pol B) (show k < (pol B).length by rw [Yt]; omega),
   Za9 oo, Za9 oo]
  simp only [Xp, lin]; grind
theorem Zu6 {c : Rat} {A : List Rat} (hA : A.length = 169) : ∀ k, k ≤ 169 → Eqv (pol (scX c A k)) (Qj c ((pol A).take k))
 | 0, _ => fun φ => by rw [scX, Xz]; rfl
 | k + 1, h => fun φ => by
  have ih := Zu6 (c := c) hA k oo φ
  rw [scX, Zao φ _ (by rw [Zoq]; omega), ih, Qb0 c A k k (Nat.le_refl _), take_snoc (pol A) (show k < (pol A).length by rw [Yt]; omega), Za9 oo]
  simp only [Vu, Xp, lin]; grind
theorem Zsc {A B : List Rat} (hA : A.length = 169) (hB : B.length = 169) : Eqv (pol (Zsd A B 169)) (pol A ++ pol B) := fun φ => by
 have := Zsb hA hB 169 (Nat.le_refl _) φ
 rwa [List.take_of_length_le (by rw [Yt]; omega), List.take_of_length_le (by rw [Yt]; omega)] at this
theorem Zu7 {c : Rat} {A : List Rat} (hA : A.length = 169) : Eqv (pol (scX c A 169)) (Qj c (pol A)) := fun φ => by
 have := Zu6 (c := c) hA 169 (Nat.le_refl _) φ
 rwa [List.take_of_length_le (by rw [Yt]; omega)] at this
def lineX (a b c : Rat) : List Rat := (((List.replicate 169 (0 : Rat)).set 13 a).set 1 b).set 0 c
def oneX : List Rat := (List.replicate 169 (0 : Rat)).set 0 ((1 : Int) : Rat)
theorem Zq2 : Eqv (pol oneX) [⟨0, 0, 1⟩] := fun φ => by
 have z : (List.replicate 169 (0 : Rat)).getD 0 0 = 0 := rfl
 unfold oneX
 rw [Zao φ _ ss, Xz, z]
 simp only [lin, show ((1 : Int) : Rat) = 1 from rfl, show 0 / 13 = 0 from rfl, show 0 % 13 = 0 from rfl]; grind
def noY (l : List Tm) : List Tm := l.map (fun t => ⟨t.i, 0, t.c⟩)
def sgF (X : List Rat) : Nat → Rat
 | 0 => 0
 | i + 1 => sgF X i + X.getD (13 * i) 0 / (((i + 1 : Nat) : Int) : Rat)
end
section
theorem Zbs (b off n c j : Nat) (h : j < n) (w : World) : (Instr.indexAt 67 (.slice (some ⟨b, off, none⟩) n c) (.int .i64 (j : Int))).run Tryz.prog w = .ok (.pointer (some ⟨b, off + j * 3, none⟩)) w := by
 simpa using Yy runUnderlying67 sizeOf164 b off n c j h w
abbrev xs (l : List FT) : List Rat := l.map FT.x
theorem Zha (l : List FT) : (xs l).length = l.length := List.length_map _
theorem Vr (l : List FT) (k : Nat) : (l.getD k FT0).x = (xs l).getD k 0 := by
 simp only [xs, List.getD_eq_getElem?_getD, List.getElem?_map]
 cases l[k]? <;> rfl
theorem Zlq (l : List FT) (k : Nat) (e : FT) : xs (l.set k e) = (xs l).set k e.x := List.map_set
theorem Zdx : xs (List.replicate 169 FT0) = List.replicate 169 0 := by
 simp only [xs, List.map_replicate]; rfl
theorem AllF.set {l : List FT} {e : FT} {k : Nat} {X : Nat → Prop} {w : World} (h : (AllF l).p X w) (h1 : (Row e.a1 (List.map Qe (dg e.x.num.natAbs))).p X w) (h2 : (Row e.a2 (List.map Qe (dg (e.x.den - 1)))).p X w) : (AllF (l.set k e)).p X w := by
 intro f hf
 rcases List.mem_or_eq_of_mem_set hf with hf | rfl
 · exact h f hf
 · exact ⟨h1, h2⟩
theorem AllF.zeros (n : Nat) (X : Nat → Prop) (w : World) : (AllF (List.replicate n FT0)).p X w := by
 intro f hf
 rw [(List.mem_replicate.1 hf).2]
 have e1 : List.map Qe (dg FT0.x.num.natAbs) = [] := by rw [show FT0.x.num.natAbs = 0 from rfl, Qv]; rfl
 have e2 : List.map Qe (dg (FT0.x.den - 1)) = [] := by rw [show FT0.x.den - 1 = 0 from rfl, Qv]; rfl
 rw [e1, e2]
 exact ⟨fun hne => absurd rfl hne, fun hne => absurd rfl hne⟩
theorem Qd3 {K : Nat} {X : List Rat} (h : Hb K (pol X)) {k : Nat} (hk : k < X.length) : Jr (X.getD k 0) ≤ K := by
 have h1 := h.siz _ (getD_mem (pol X) (d := T0) (show k < (pol X).length by rw [Yt]; exact hk))
 rwa [Za9 hk] at h1
theorem Tb.nrmDL {d K : Nat} {X : List Rat} (h : Tb d K X) : DL d (norm (pol X)) := fun u hu => by
 obtain ⟨hc, hne⟩ := Zel hu
 obtain ⟨t, ht, e1, e2⟩ := Zcf hc
 obtain ⟨k, hk, rfl⟩ := Zkm ht
 have h1 := Zgy (Yd (pol X)) hu
 rw [Vj, e1, e2] at h1
 rw [h.len] at hk
 have h2 := Zmf (X := X) (i := k / 13) (j := k % 13) (Nat.mod_lt _ dd)
 rw [show 13 * (k / 13) + k % 13 = k by omega] at h2
 have h3 := h.deg k hk (by rw [← h2]; simp only at h1; rw [h1]; exact hne)
 simp only at e1 e2
 omega
theorem Tb.pq {d K : Nat} {X : List Rat} (h : Tb d K X) (hd : d ≤ 12) : Pq d K (norm (pol X)) :=
 ⟨h.nrmDL, Nat.le_trans (Zkq (Yd (pol X)) h.nrmDL) (Nat.le_trans (Zdg (show d + 1 ≤ 13 by omega)) dd), h.hgt.nrm⟩
theorem Tb.of_pq {d K : Nat} {X : List Rat} {p : List Tm} (hl : X.length = 169) (he : Eqv (pol X) p) (h : Pq d K (norm p)) : Tb d K X :=
 Tb.of_eqv hl (he.trans (Eqv.nrm p).symm) h.deg h.hgt
theorem Tb.lenl {d K : Nat} {l : List FT} (h : Tb d K (xs l)) : l.length = 169 := by rw [← Zha]; exact h.len
theorem Tb.sizl {d K : Nat} {l : List FT} (h : Tb d K (xs l)) {k : Nat} (hk : k < 169) : Jr (l.getD k FT0).x ≤ K := by rw [Vr]; exact h.siz hk
theorem Tb.degl {d K : Nat} {l : List FT} (h : Tb d K (xs l)) {k : Nat} (hk : k < 169) (hne : (l.getD k FT0).x ≠ 0) : k / 13 + k % 13 ≤ d := h.deg k hk (by rw [← Vr]; exact hne)
theorem Tb.mulP {da db Ka Kb : Nat} {A B X : List Rat} (ha : Tb da Ka A) (hb : Tb db Kb B) (hd : da + db ≤ 12) (hl : X.length = 169) (he : Eqv (pol X) (Vh (pol A) (pol B))) : Tb (da + db) (Ka + Kb) X := by
 refine Tb.of_pq hl he ?_
 rw [Vn (show Eqv (Vh (pol A) (pol B)) (Vh (norm (pol A)) (norm (pol B))) from (Eqv.nrm _).symm.mul (Eqv.nrm _).symm)]
 exact Pq.mul (ha.pq oo) (hb.pq oo) hd
theorem Tb.addP {da db Ka Kb : Nat} {A B X : List Rat} (ha : Tb da Ka A) (hb : Tb db Kb B) (h1 : da ≤ 12) (h2 : db ≤ 12) (hl : X.length = 169) (he : Eqv (pol X) (pol A ++ pol B)) : Tb (max da db) (Ka + Kb + 2) X := by
 refine Tb.of_pq hl he ?_
 rw [Vn (show Eqv (pol A ++ pol B) (norm (pol A) ++ norm (pol B)) from (Eqv.nrm _).symm.append (Eqv.nrm _).symm)]
 exact Pq.add (ha.pq h1) (hb.pq h2) h1 h2
theorem Tb.scaleP {d K Kc : Nat} {c : Rat} {A X : List Rat} (ha : Tb d K A) (hc : Jr c ≤ Kc) (h1 : d ≤ 12) (hl : X.length = 169) (he : Eqv (pol X) (Qj c (pol A))) : Tb d (Kc + K + 1) X := by
 refine Tb.of_pq hl he ?_
 rw [Vn (show Eqv (Qj c (pol A)) (Qj c (norm (pol A))) from (Eqv.nrm _).symm.scale c)]
 exact Pq.scale (ha.pq h1) hc h1
theorem Zzx : oneX.length = 169 := by unfold oneX; simp only [List.length_set, List.length_replicate]
theorem Tb.oneP : Tb 0 4 oneX := Tb.of_eqv Zzx Zq2 Pq.one.deg Pq.one.hgt
def PostT (d K : Nat) (p : List Tm) (v : Value) (Ψ : List Zp) : Prop := ∃ b l, v = .slice (some ⟨b, 0, none⟩) 169 169 ∧ Tb d K (xs l) ∧ Eqv (pol (xs l)) p ∧ Ψ = [Row (some ⟨b, 0, none⟩) (cellsOf Jm l), AllF l]
def Qci (d K : Nat) (p : List Tm) (v : Value) (Ψ : List Zp) : Prop := ∃ b l, v = .tuple #[.slice (some ⟨b, 0, none⟩) 169 169, .int .i64 0] ∧ Tb d K (xs l) ∧ Eqv (pol (xs l)) p ∧ Ψ = [Row (some ⟨b, 0, none⟩) (cellsOf Jm l), AllF l]
theorem Qdk (x : Rat) : (x.num.sign == 0) = decide (x = 0) := by
 by_cases h : x = 0
 · subst h; rfl
 · rw [decide_eq_false h]; exact beq_eq_false_iff_ne.2 (fun e => h (Rat.num_eq_zero.1 (Int.sign_eq_zero_iff_zero.1 e)))
theorem AllF.g1 {l : List FT} {X : Nat → Prop} {w : World} (h : (AllF l).p X w) (k : Nat) : (Row (l.getD k FT0).a1 (List.map Qe (dg (l.getD k FT0).x.num.natAbs))).p X w := by
 by_cases hk : k < l.length
 · exact AllF.get1 h (getD_mem _ hk)
 · rw [List.getD_eq_getElem?_getD, List.getElem?_eq_none oo]; exact (AllF.zeros 1 X w FT0 ss).1
theorem AllF.g2 {l : List FT} {X : Nat → Prop} {w : World} (h : (AllF l).p X w) (k : Nat) : (Row (l.getD k FT0).a2 (List.map Qe (dg ((l.getD k FT0).x.den - 1)))).p X w := by
 by_cases hk : k < l.length
 · exact AllF.get2 h (getD_mem _ hk)
 · rw [List.getD_eq_getElem?_getD, List.getElem?_eq_none oo]; exact (AllF.zeros 1 X w FT0 ss).2
def badP (A B : List Rat) : Prop := ∃ k m, k < 169 ∧ m < 169 ∧ A.getD k 0 ≠ 0 ∧ B.getD m 0 ≠ 0 ∧ 12 < k / 13 + m / 13 + (k % 13 + m % 13)
def NB (A B : List Rat) (k m : Nat) : Prop := ∀ k2 m2, m2 < 169 → (k2 < k ∨ k2 = k ∧ m2 < m) → A.getD k2 0 ≠ 0 → B.getD m2 0 ≠ 0 → k2 / 13 + m2 / 13 + (k2 % 13 + m2 % 13) ≤ 12
theorem NB.zero {A B : List Rat} : NB A B 0 0 := fun k2 m2 _ h => by omega
theorem NB.row {A B : List Rat} {k : Nat} (h : NB A B k 169) : NB A B (k + 1) 0 := fun k2 m2 h1 h2 => h k2 m2 h1 oo
theorem NB.skip {A B : List Rat} {k m : Nat} (h : NB A B k m) (hz : A.getD k 0 = 0 ∨ B.getD m 0 = 0) : NB A B k (m + 1) := fun k2 m2 h1 h2 h3 h4 => by
 by_cases e : k2 = k ∧ m2 = m
 ·
  obtain ⟨rfl, rfl⟩ := e
  rcases hz with hz | hz
  · exact absurd hz h3
  · exact absurd hz h4
 · exact h k2 m2 h1 oo h3 h4
theorem NB.step {A B : List Rat} {k m : Nat} (h : NB A B k m) (hd : k / 13 + m / 13 + (k % 13 + m % 13) ≤ 12) : NB A B k (m + 1) := fun k2 m2 h1 h2 h3 h4 => by
 by_cases e : k2 = k ∧ m2 = m
 · obtain ⟨rfl, rfl⟩ := e; exact hd
 · exact h k2 m2 h1 oo h3 h4
def PostE (v : Value) (Ψ : List Zp) : Prop := ∃ b l, v = .tuple #[.slice (some ⟨b, 0, none⟩) 169 169, .int .i64 9] ∧ l.length = 169 ∧ Eqv (pol (xs l)) [] ∧ Ψ = [Row (some ⟨b, 0, none⟩) (cellsOf Jm l), AllF l]
def PostW (A B : List Rat) (v : Value) (Ψ : List Zp) : Prop := ∃ b l e, v = .tuple #[.slice (some ⟨b, 0, none⟩) 169 169, .int .i64 e] ∧ (e = 0 ∧ NB A B 169 0 ∧ l.length = 169 ∧ Eqv (pol (xs l)) (Vh (pol A) (pol B)) ∨ e = 9 ∧ badP A B ∧ l.length = 169 ∧ Eqv (pol (xs l)) []) ∧ Ψ = [Row (some ⟨b, 0, none⟩) (cellsOf Jm l), AllF l]
theorem Qa1 {P : Program} {f : FuncId} {args : List Value} {Φ : List Zp} {p q : Value → List Zp → Prop} (h : Ctr P f args Φ p) (hpq : ∀ v Ψ, p v Ψ → q v Ψ) : Ctr P f args Φ q := fun X w hX hΦ =>
 (h X w hX hΦ).mono fun e w' ⟨u, Ψ, h1, h2, h3⟩ => ⟨u, Ψ, h1, hpq u Ψ h2, h3⟩
theorem Tb.nbad {da db Ka Kb : Nat} {A B : List Rat} (ha : Tb da Ka A) (hb : Tb db Kb B) (hd : da + db ≤ 12) (h : badP A B) : False := by
 obtain ⟨k, m, h1, h2, h3, h4, h5⟩ := h
 have a := ha.deg k h1 h3
 have b := hb.deg m h2 h4
 omega
theorem zeroFT (w : World) : (zeroValue 164).run Tryz.prog w = .ok (Jm FT0) w := Zt7 w
theorem Zbf : Zj2 Tryz.prog 62 [] [] (fun v σn => ∃ b, v = .slice (some ⟨b, 0, none⟩) 169 169 ∧ σn = [(b, .cells (cellsOf Jm (List.replicate 169 FT0)).toArray 164 (0, 0))]) := by
 refine fn_introO func62 rfl ntmps62 nb ?_
 intro S w0 a hS h
 refine gC h (zS (za rfl (zn (zS ?_)))); clear h; intro a w h
 refine Zc (Jz h rfl rfl runUnderlying67 typeInfo164 sizeOf164 zeroFT rfl dd (by exact Nat.le_refl _) (by show 56 * (169) ≤ 281474976710656; omega) dd dd ?_); clear h; intro b1 a w h; replace h := h.same rfl (by rw [← Zf4 (enc := Jm)]) rfl
 refine gL h (za rfl (zn (zt ?_))); clear h; intro a w h
 exact Zqt h (Zd h rfl (.tmp rfl)) ⟨b1, rfl, rfl⟩ (List.Sublist.refl _)
theorem C_tOne : Ctr Tryz.prog 222 [] [] (PostT 0 4 [⟨0, 0, 1⟩]) := by
 refine fn_intro func222 rfl ntmps222 nb ?_
 intro S w0 a hS h
 refine gC h (zS (za rfl (zn (zS ?_)))); clear h; intro a w h
 refine Zc (Jw h (vs := []) rfl call62 (Zbf) ss dd ?_); clear h; rintro v2 σ2 a w ⟨b2, rfl, rfl⟩ h
 replace h := h.derive (R := AllF (List.replicate 169 FT0)) (fun X hX => AllF.zeros 169 X _)
 refine gL h (za rfl (zn (zS (zm rfl (zf [_] rfl call99 (Zff 1 oo oo) ?_))))); rintro v4 Ψ4 ⟨ad4, c4, bd4, d4, rfl, hle4, hlf4, rfl⟩
 have hl4 := Jp 1 oo oo
 refine zp (.indexAddr rfl rfl (Zbs _ _ _ _ 0 oo)) (zt' (b := b2) (cs := (cellsOf Jm (List.replicate 169 FT0)).toArray) (cs' := (cellsOf Jm ((List.replicate 169 FT0).set 0 (FT.mk (((1 : Int) : Rat)) ad4 c4 bd4 d4 hle4 hlf4))).toArray) (v := Jm (FT.mk (((1 : Int) : Rat)) ad4 c4 bd4 d4 hle4 hlf4)) rfl rfl (Ku (k := 3) (fun _ => rfl) (List.replicate 169 FT0) 0 ss (FT.mk (((1 : Int) : Rat)) ad4 c4 bd4 d4 hle4 hlf4)) uu sizeOf164 rfl (Za5 (k := 3) (fun _ => rfl) (List.replicate 169 FT0) 0 ss) rfl ?_)
 refine zn (zS (zm rfl (za rfl (zn (zt ?_))))); intro a w h
 replace h := h.derive (R := AllF ((List.replicate 169 FT0).set 0 (FT.mk (((1 : Int) : Rat)) ad4 c4 bd4 d4 hle4 hlf4))) (fun X hX => AllF.set (hX _ mm) (hX _ mm) (hX _ mm))
 replace h := h.shareAll hS (cellsOf Jm ((List.replicate 169 FT0).set 0 (FT.mk (((1 : Int) : Rat)) ad4 c4 bd4 d4 hle4 hlf4))) rfl
 have hx : xs ((List.replicate 169 FT0).set 0 (FT.mk (((1 : Int) : Rat)) ad4 c4 bd4 d4 hle4 hlf4)) = oneX := by rw [Zlq, Zdx]; rfl
 exact Zy (Ψ := [Row (some ⟨b2, 0, none⟩) (cellsOf Jm ((List.replicate 169 FT0).set 0 (FT.mk (((1 : Int) : Rat)) ad4 c4 bd4 d4 hle4 hlf4))), AllF ((List.replicate 169 FT0).set 0 (FT.mk (((1 : Int) : Rat)) ad4 c4 bd4 d4 hle4 hlf4))]) h (Zd h rfl (.tmp rfl)) ⟨b2, _, rfl, by rw [hx]; exact Tb.oneP, by rw [hx]; exact Zq2, rfl⟩ ss
theorem Zsh (b1 : Nat) (la : List FT) (da Ka : Nat) (ha : Tb da Ka (xs la)) (hda : da ≤ 12) (hka : Ka ≤ 1000000000) (p1 p3 : Option Addr) (p2 p4 Kc : Nat) (x : Rat) (hx : Jr x ≤ Kc) (hkc : Kc ≤ 1000000000) : Ctr Tryz.prog 104 [.slice (some ⟨b1, 0, none⟩) 169 169, fV x p1 p2 p3 p4] [Row (some ⟨b1, 0, none⟩) (cellsOf Jm la), AllF la, Row p1 (List.map Qe (dg x.num.natAbs)), Row p3 (List.map Qe (dg (x.den - 1)))] (PostT da (Kc + Ka + 1) (Qj x (pol (xs la)))) := by
 refine fn_intro func104 rfl ntmps104 nb ?_
 intro S w0 a hS h
 refine gC h (zS (zx rfl fun b3 => za rfl (zn (zS ?_)))); clear h; intro a w h
 refine Zc (Jw h (vs := []) rfl call62 (Zbf) ss dd ?_); clear h; rintro v7 σ7 a w ⟨b7, rfl, rfl⟩ h
 replace h := h.derive (R := AllF (List.replicate 169 FT0)) (fun X hX => AllF.zeros 169 X _)
 refine gL h (za rfl (zn (zs (zS (za rfl (zn (zb ?_))))))); clear h; intro a w h
 refine Zi (fun (k : Nat) a w => k ≤ 169 ∧ ∃ l, ((l.length = 169 ∧ xs l = scX x (xs la) k)) ∧ St 22 S w0 [(0, .slice (some ⟨b1, 0, none⟩) 169 169), (3, pB b3), (4, .slice none 0 0), (5, .slice (some ⟨b7, 0, none⟩) 169 169), (6, nI k)] [(b7, .cells (cellsOf Jm (l)).toArray 164 (0, 0)), (b3, bV (.agg #[.bool (decide (x.num < 0)), .slice p1 (dg x.num.natAbs).length p2, .slice p3 (dg (x.den - 1)).length p4]) 164)] [AllF l, Row (some ⟨b1, 0, none⟩) (cellsOf Jm la), AllF la, Row p1 (List.map Qe (dg x.num.natAbs)), Row p3 (List.map Qe (dg (x.den - 1)))] a w) (fun k => 169 - k) 0 (⟨Nat.zero_le _, List.replicate 169 FT0, ⟨List.length_replicate, Zdx⟩, by exact (h.factsSub (by simp)).sub (Zfn ⟨rfl, rfl, rfl, rfl, rfl, trivial⟩)⟩) ?_; clear h
 rintro k a w ⟨hi_k, l, ⟨hln, hxl⟩, h⟩
 refine gC h (zs (zS (zm rfl (zp (.lss rfl rfl) (zn ?_))))); clear h; intro a w h
 refine cW ?_
 refine Zb h rfl (fun hc9 => ?_) (fun hc9 => ?_)
 ·
  skip
  have hlt_k : k < 169 := dT hc9
  have hn1 := ha.lenl
  have hm1 : la.getD k FT0 ∈ la := getD_mem _ oo
  have hz1 := ha.sizl (k := k) oo
  replace h := h.derive (R := Row (la.getD k FT0).a2 (List.map Qe (dg ((la.getD k FT0).x.den - 1)))) (fun X hX => AllF.get2 (hX _ mm) hm1)
  replace h := h.derive (R := Row (la.getD k FT0).a1 (List.map Qe (dg (la.getD k FT0).x.num.natAbs))) (fun X hX => AllF.get1 (hX _ mm) hm1)
  refine gC h (zk (zs (zb (yD Za [0, 1, 2, 3, 4, 5, 6, 7, 8, 9] (Zf kk) (ym rfl rfl (ym rfl rfl (yd rfl rfl mr isAgg164 sizeOf164 Zs ?_))))))); clear h
  refine ym rfl rfl (ym rfl rfl (yp rfl (.indexAddr rfl rfl (Zbs _ _ _ _ _ oo)) ?_))
  refine Qa rfl kk rfl mm (cells_lt (k := 3) dd (fun _ => rfl) la k oo) isAgg164 sizeOf164 (Qn (k := 3) (fun _ => rfl) ((fun _ => rfl)) la FT0 k oo) (.inl rfl) dd ?_
  refine yf [_, _] rfl rfl call151 (Zyi _ _ _ _ _ _ _ _ x ((la.getD k FT0).x) oo oo) ?_; rintro v19 Ψ19 ⟨ad19, c19, bd19, d19, rfl, hle19, hlf19, rfl⟩
  have hl19 := Za3 x ((la.getD k FT0).x)
  refine yp rfl (.indexAddr rfl rfl (Zbs _ _ _ _ _ oo)) ?_
  refine Zab (b := b7) (cs := (cellsOf Jm l).toArray) (cs' := (cellsOf Jm (l.set k (FT.mk (x * ((la.getD k FT0).x)) ad19 c19 bd19 d19 hle19 hlf19))).toArray) (v := Jm (FT.mk (x * ((la.getD k FT0).x)) ad19 c19 bd19 d19 hle19 hlf19)) rfl kk rfl rfl (Ku (k := 3) (fun _ => rfl) l k oo (FT.mk (x * ((la.getD k FT0).x)) ad19 c19 bd19 d19 hle19 hlf19)) uu sizeOf164 rfl (Za5 (k := 3) (fun _ => rfl) l k oo) rfl ?_
  refine yn (zr (zm rfl (zp (.pN (k + 1) (.add rfl rfl)) (za rfl (zn ?_))))); intro a w h
  replace h := h.derive (R := AllF (l.set k (FT.mk (x * ((la.getD k FT0).x)) ad19 c19 bd19 d19 hle19 hlf19))) (fun X hX => AllF.set (hX _ mm) (hX _ mm) (hX _ mm))
  have hx2 : xs (l.set k (FT.mk (x * ((la.getD k FT0).x)) ad19 c19 bd19 d19 hle19 hlf19)) = scX x (xs la) (k + 1) := by rw [Zlq, hxl, scX, ← Vr]
  exact ⟨k + 1, ⟨oo, l.set k (FT.mk (x * ((la.getD k FT0).x)) ad19 c19 bd19 d19 hle19 hlf19), ⟨by rw [List.length_set]; exact hln, hx2⟩, by exact (h.factsSub (by simp)).sub sA⟩, oo⟩
 ·
  skip
  have heq_k : 169 = k := dF hc9
  subst heq_k
  replace h := h.shareAll hS (cellsOf Jm l) rfl
  refine gC h (ze (zS (zm rfl (za rfl (zn (zt ?_)))))); clear h; intro a w h
  refine Zy (Ψ := [Row (some ⟨b7, 0, none⟩) (cellsOf Jm l), AllF l]) h (Zd h rfl (.tmp rfl)) ?_ ss
  exact ⟨b7, l, rfl, ha.scaleP hx hda (by rw [hxl]; exact Zoq _ _ _) (by rw [hxl]; exact Zu7 ha.len), by rw [hxl]; exact Zu7 ha.len, rfl⟩
theorem C_tAdd (b1 : Nat) (la : List FT) (da Ka : Nat) (ha : Tb da Ka (xs la)) (hda : da ≤ 12) (hka : Ka ≤ 1000000000) (b2 : Nat) (lb : List FT) (db Kb : Nat) (hb : Tb db Kb (xs lb)) (hdb : db ≤ 12) (hkb : Kb ≤ 1000000000) : Ctr Tryz.prog 103 [.slice (some ⟨b1, 0, none⟩) 169 169, .slice (some ⟨b2, 0, none⟩) 169 169] [Row (some ⟨b1, 0, none⟩) (cellsOf Jm la), AllF la, Row (some ⟨b2, 0, none⟩) (cellsOf Jm lb), AllF lb] (PostT (max da db) (Ka + Kb + 2) (pol (xs la) ++ pol (xs lb))) := by
 refine fn_intro func103 rfl ntmps103 nb ?_
 intro S w0 a hS h
 refine gC h (zS (za rfl (zn (zS ?_)))); clear h; intro a w h
 refine Zc (Jw h (vs := []) rfl call62 (Zbf) ss dd ?_); clear h; rintro v7 σ7 a w ⟨b7, rfl, rfl⟩ h
 replace h := h.derive (R := AllF (List.replicate 169 FT0)) (fun X hX => AllF.zeros 169 X _)
 refine gL h (za rfl (zn (zs (zS (za rfl (zn (zb ?_))))))); clear h; intro a w h
 refine Zi (fun (k : Nat) a w => k ≤ 169 ∧ ∃ l, ((l.length = 169 ∧ xs l = Zsd (xs la) (xs lb) k)) ∧ St 25 S w0 [(0, .slice (some ⟨b1, 0, none⟩) 169 169), (1, .slice (some ⟨b2, 0, none⟩) 169 169), (4, .slice none 0 0), (5, .slice (some ⟨b7, 0, none⟩) 169 169), (6, nI k)] [(b7, .cells (cellsOf Jm (l)).toArray 164 (0, 0))] [AllF l, Row (some ⟨b1, 0, none⟩) (cellsOf Jm la), AllF la, Row (some ⟨b2, 0, none⟩) (cellsOf Jm lb), AllF lb] a w) (fun k => 169 - k) 0 (⟨Nat.zero_le _, List.replicate 169 FT0, ⟨List.length_replicate, Zdx⟩, by exact (h.factsSub (by simp)).sub (Zfn ⟨rfl, rfl, rfl, rfl, rfl, trivial⟩)⟩) ?_; clear h
 rintro k a w ⟨hi_k, l, ⟨hln, hxl⟩, h⟩
 refine gC h (zs (zS (zm rfl (zp (.lss rfl rfl) (zn ?_))))); clear h; intro a w h
 refine cW ?_
 refine Zb h rfl (fun hc9 => ?_) (fun hc9 => ?_)
 ·
  skip
  have hlt_k : k < 169 := dT hc9
  have hn1 := ha.lenl
  have hm1 : la.getD k FT0 ∈ la := getD_mem _ oo
  have hz1 := ha.sizl (k := k) oo
  replace h := h.derive (R := Row (la.getD k FT0).a2 (List.map Qe (dg ((la.getD k FT0).x.den - 1)))) (fun X hX => AllF.get2 (hX _ mm) hm1)
  replace h := h.derive (R := Row (la.getD k FT0).a1 (List.map Qe (dg (la.getD k FT0).x.num.natAbs))) (fun X hX => AllF.get1 (hX _ mm) hm1)
  have hn2 := hb.lenl
  have hm2 : lb.getD k FT0 ∈ lb := getD_mem _ oo
  have hz2 := hb.sizl (k := k) oo
  replace h := h.derive (R := Row (lb.getD k FT0).a2 (List.map Qe (dg ((lb.getD k FT0).x.den - 1)))) (fun X hX => AllF.get2 (hX _ mm) hm2)
  replace h := h.derive (R := Row (lb.getD k FT0).a1 (List.map Qe (dg (lb.getD k FT0).x.num.natAbs))) (fun X hX => AllF.get1 (hX _ mm) hm2)
  refine gC h (zk (zs (zb (yD Za [0, 1, 2, 3, 4, 5, 6, 7, 8, 9, 10, 11, 12] (Zf kk) (ym rfl rfl (ym rfl rfl (ym rfl rfl (ym rfl rfl (yp rfl (.indexAddr rfl rfl (Zbs _ _ _ _ _ oo)) ?_))))))))); clear h
  refine Qa rfl kk rfl mm (cells_lt (k := 3) dd (fun _ => rfl) la k oo) isAgg164 sizeOf164 (Qn (k := 3) (fun _ => rfl) ((fun _ => rfl)) la FT0 k oo) (.inl rfl) dd ?_
  refine ym rfl rfl (ym rfl rfl (yp rfl (.indexAddr rfl rfl (Zbs _ _ _ _ _ oo)) ?_))
  refine Qa rfl kk rfl mm (cells_lt (k := 3) dd (fun _ => rfl) lb k oo) isAgg164 sizeOf164 (Qn (k := 3) (fun _ => rfl) ((fun _ => rfl)) lb FT0 k oo) (.inl rfl) dd ?_
  refine yf [_, _] rfl rfl call150 (Qcv _ _ _ _ _ _ _ _ ((la.getD k FT0).x) ((lb.getD k FT0).x) oo oo) ?_; rintro v22 Ψ22 ⟨ad22, c22, bd22, d22, rfl, hle22, hlf22, rfl⟩
  have hl22 := Zet ((la.getD k FT0).x) ((lb.getD k FT0).x)
  refine yp rfl (.indexAddr rfl rfl (Zbs _ _ _ _ _ oo)) ?_
  refine Zab (b := b7) (cs := (cellsOf Jm l).toArray) (cs' := (cellsOf Jm (l.set k (FT.mk (((la.getD k FT0).x) + ((lb.getD k FT0).x)) ad22 c22 bd22 d22 hle22 hlf22))).toArray) (v := Jm (FT.mk (((la.getD k FT0).x) + ((lb.getD k FT0).x)) ad22 c22 bd22 d22 hle22 hlf22)) rfl kk rfl rfl (Ku (k := 3) (fun _ => rfl) l k oo (FT.mk (((la.getD k FT0).x) + ((lb.getD k FT0).x)) ad22 c22 bd22 d22 hle22 hlf22)) uu sizeOf164 rfl (Za5 (k := 3) (fun _ => rfl) l k oo) rfl ?_
  refine yn (zr (zm rfl (zp (.pN (k + 1) (.add rfl rfl)) (za rfl (zn ?_))))); intro a w h
  replace h := h.derive (R := AllF (l.set k (FT.mk (((la.getD k FT0).x) + ((lb.getD k FT0).x)) ad22 c22 bd22 d22 hle22 hlf22))) (fun X hX => AllF.set (hX _ mm) (hX _ mm) (hX _ mm))
  have hx2 : xs (l.set k (FT.mk (((la.getD k FT0).x) + ((lb.getD k FT0).x)) ad22 c22 bd22 d22 hle22 hlf22)) = Zsd (xs la) (xs lb) (k + 1) := by rw [Zlq, hxl, Zsd, ← Vr, ← Vr]
  exact ⟨k + 1, ⟨oo, l.set k (FT.mk (((la.getD k FT0).x) + ((lb.getD k FT0).x)) ad22 c22 bd22 d22 hle22 hlf22), ⟨by rw [List.length_set]; exact hln, hx2⟩, by exact (h.factsSub (by simp)).sub sA⟩, oo⟩
 ·
  skip
  have heq_k : 169 = k := dF hc9
  subst heq_k
  replace h := h.shareAll hS (cellsOf Jm l) rfl
  refine gC h (ze (zS (zm rfl (za rfl (zn (zt ?_)))))); clear h; intro a w h
  refine Zy (Ψ := [Row (some ⟨b7, 0, none⟩) (cellsOf Jm l), AllF l]) h (Zd h rfl (.tmp rfl)) ?_ ss
  exact ⟨b7, l, rfl, ha.addP hb hda hdb (by rw [hxl]; exact Zlj _ _ _) (by rw [hxl]; exact Zsc ha.len hb.len), by rw [hxl]; exact Zsc ha.len hb.len, rfl⟩
theorem Qfo (b1 : Nat) (la : List FT) (da Ka : Nat) (ha : Tb da Ka (xs la)) (hda : da ≤ 12) (hka : Ka ≤ 1000000000) (b2 : Nat) (lb : List FT) (db Kb : Nat) (hb : Tb db Kb (xs lb)) (hdb : db ≤ 12) (hkb : Kb ≤ 1000000000) : Ctr Tryz.prog 144 [.slice (some ⟨b1, 0, none⟩) 169 169, .slice (some ⟨b2, 0, none⟩) 169 169] [Row (some ⟨b1, 0, none⟩) (cellsOf Jm la), AllF la, Row (some ⟨b2, 0, none⟩) (cellsOf Jm lb), AllF lb] (PostW (xs la) (xs lb)) := by
 refine fn_intro func144 rfl ntmps144 nb ?_
 intro S w0 a hS h
 refine gC h (zS (za rfl (za rfl (zn (zS ?_))))); clear h; intro a w h
 refine Zc (Jw h (vs := []) rfl call62 (Zbf) ss dd ?_); clear h; rintro v11 σ11 a w ⟨b11, rfl, rfl⟩ h
 replace h := h.derive (R := AllF (List.replicate 169 FT0)) (fun X hX => AllF.zeros 169 X _)
 refine gL h (za rfl (zn (zs (zS (za rfl (zn (zb ?_))))))); clear h; intro a w h
 refine Zi (fun (k : Nat) a w => k ≤ 169 ∧ ∃ l, ((l.length = 169 ∧ Eqv (pol (xs l)) (qM (xs la) (xs lb) k 0) ∧ NB (xs la) (xs lb) k 0)) ∧ St 73 S w0 [(0, .slice (some ⟨b1, 0, none⟩) 169 169), (1, .slice (some ⟨b2, 0, none⟩) 169 169), (6, .slice (some ⟨b11, 0, none⟩) 169 169), (7, nI k)] [(b11, .cells (cellsOf Jm (l)).toArray 164 (0, 0))] [AllF l, Row (some ⟨b1, 0, none⟩) (cellsOf Jm la), AllF la, Row (some ⟨b2, 0, none⟩) (cellsOf Jm lb), AllF lb] a w) (fun k => 169 - k) 0 (⟨Nat.zero_le _, List.replicate 169 FT0, ⟨List.length_replicate, by rw [Zdx]; exact fun φ => Xz φ 169, NB.zero⟩, by exact (h.factsSub (by simp)).sub (Zfn ⟨rfl, rfl, rfl, rfl, trivial⟩)⟩) ?_; clear h
 rintro k a w ⟨hi_k, l, ⟨hln, hel, hnb⟩, h⟩
 refine gC h (zs (zS (zm rfl (zp (.lss rfl rfl) (zn ?_))))); clear h; intro a w h
 refine cW ?_
 refine Zb h rfl (fun hc13 => ?_) (fun hc13 => ?_)
 ·
  skip
  have hlt_k : k < 169 := dT hc13
  have hn1 := ha.lenl
  have hm1 : la.getD k FT0 ∈ la := getD_mem _ oo
  have hz1 := ha.sizl (k := k) oo
  replace h := h.derive (R := Row (la.getD k FT0).a2 (List.map Qe (dg ((la.getD k FT0).x.den - 1)))) (fun X hX => AllF.get2 (hX _ mm) hm1)
  replace h := h.derive (R := Row (la.getD k FT0).a1 (List.map Qe (dg (la.getD k FT0).x.num.natAbs))) (fun X hX => AllF.get1 (hX _ mm) hm1)
  refine gC h (zk (zs (zb (zS (za rfl (zn (zb ?_))))))); clear h; intro a w h
  refine Zi (fun (m : Nat) a w => m ≤ 169 ∧ ∃ l2, ((l2.length = 169 ∧ Eqv (pol (xs l2)) (qM (xs la) (xs lb) k m) ∧ NB (xs la) (xs lb) k m)) ∧ St 73 S w0 [(0, .slice (some ⟨b1, 0, none⟩) 169 169), (1, .slice (some ⟨b2, 0, none⟩) 169 169), (6, .slice (some ⟨b11, 0, none⟩) 169 169), (7, nI k), (8, nI m)] [(b11, .cells (cellsOf Jm (l2)).toArray 164 (0, 0))] [AllF l2, Row (la.getD k FT0).a1 (List.map Qe (dg ((la.getD k FT0).x).num.natAbs)), Row (la.getD k FT0).a2 (List.map Qe (dg (((la.getD k FT0).x).den - 1))), Row (some ⟨b1, 0, none⟩) (cellsOf Jm la), AllF la, Row (some ⟨b2, 0, none⟩) (cellsOf Jm lb), AllF lb] a w) (fun m => 169 - m) 0 (⟨Nat.zero_le _, l, ⟨hln, hel, hnb⟩, by exact (h.factsSub (by simp)).sub (Zfn ⟨rfl, rfl, rfl, rfl, rfl, trivial⟩)⟩) ?_; clear h
  rintro m a w ⟨hi_m, l2, ⟨hln2, hel2, hnb2⟩, h⟩
  refine gC h (zs (zS (zm rfl (zp (.lss rfl rfl) (zn ?_))))); clear h; intro a w h
  refine cW ?_
  refine Zb h rfl (fun hc17 => ?_) (fun hc17 => ?_)
  ·
   skip
   have hlt_m : m < 169 := dT hc17
   skip
   refine gC h (zk (zs (zb (zs (zS (zm rfl (zm rfl (zp (.indexAddr rfl rfl (Zbs _ _ _ _ _ oo)) (zD rfl mm (cells_lt (k := 3) dd (fun _ => rfl) la k oo) isAgg164 sizeOf164 (Qn (k := 3) (fun _ => rfl) ((fun _ => rfl)) la FT0 k oo) (.inl rfl) ?_)))))))))
   refine zv [_] rfl call105 (Zdd ((la.getD k FT0).x) _ _ _ _) (zp (.eql rfl rfl) ?_); intro a w h
   refine Zg h (fun hc25 h => ?_) (fun hc25 h => ?_)
   focus
    have hsk : (xs la).getD k 0 = 0 ∨ (xs lb).getD m 0 = 0 := .inl (by rw [Qdk] at hc25; rw [← Vr]; exact of_decide_eq_true hc25)
    refine gL h (zm rfl (zo 26 rfl rfl rfl (zo 26 rfl rfl rfl (zo 26 rfl rfl rfl (zo 26 rfl rfl rfl (zo 26 rfl rfl rfl (zo 26 rfl rfl rfl (zp (.pickT rfl rfl) (zn ?_))))))))); clear h; intro a w h
   rotate_left
   focus
    have hne1 : ((la.getD k FT0).x) ≠ 0 := by rw [Qdk] at hc25; exact of_decide_eq_false hc25
    have hn2 := hb.lenl
    have hm2 : lb.getD m FT0 ∈ lb := getD_mem _ oo
    have hz2 := hb.sizl (k := m) oo
    replace h := h.derive (R := Row (lb.getD m FT0).a2 (List.map Qe (dg ((lb.getD m FT0).x.den - 1)))) (fun X hX => AllF.get2 (hX _ mm) hm2)
    replace h := h.derive (R := Row (lb.getD m FT0).a1 (List.map Qe (dg (lb.getD m FT0).x.num.natAbs))) (fun X hX => AllF.get1 (hX _ mm) hm2)
    refine gL h (zm rfl (zq 26 rfl rfl (.move rfl) (zq 26 rfl rfl (.move rfl) (zq 26 rfl rfl (.indexAddr rfl rfl (Zbs _ _ _ _ _ oo)) ?_)))); clear h; intro a w h
    refine Zo 26 h rfl rfl (Zdk h rfl mm (cells_lt (k := 3) dd (fun _ => rfl) lb m oo) isAgg164 sizeOf164 (Qn (k := 3) (fun _ => rfl) ((fun _ => rfl)) lb FT0 m oo) (.inl rfl) dd ?_); clear h; intro a h
    refine Zo 26 h rfl rfl (Za0 h (vs := [_]) rfl call105 (Zdd ((lb.getD m FT0).x) _ _ _ _) dd ?_); clear h; intro a w h
    refine gL h (zq 26 rfl rfl (.eql rfl rfl) ?_); clear h; intro a w h
    refine Zg h (fun hc32 h => ?_) (fun hc32 h => ?_)
    rotate_left
    ·
     skip
     have hne2 : ((lb.getD m FT0).x) ≠ 0 := by rw [Qdk] at hc32; exact of_decide_eq_false hc32
     have hg1 := ha.degl hlt_k hne1
     have hg2 := hb.degl hlt_m hne2
     have hq1 := Nat.mod_lt k (show 0 < 13 by decide)
     have hq2 := Nat.mod_lt m (show 0 < 13 by decide)
     refine gL h (zp (.pickF rfl rfl) (zn ?_)); clear h; intro a w h
     refine cW ?_
     refine Ze h rfl ?_
     refine gC h (zk (zS (zm rfl (zp (Pure1.cast (v' := .int .i64 (((k) / 13 : Nat) : Int)) (.binOp rfl rfl (fun _ => Vl _ _ _ _ _ dd)) (by rw [show (13 : Int) = ((13 : Nat) : Int) from rfl, Yc, wrap_i64 _ oo oo])) (zm rfl (zp (Pure1.cast (v' := .int .i64 (((m) / 13 : Nat) : Int)) (.binOp rfl rfl (fun _ => Vl _ _ _ _ _ dd)) (by rw [show (13 : Int) = ((13 : Nat) : Int) from rfl, Yc, wrap_i64 _ oo oo])) (zp (.pN (k / 13 + m / 13) (Pure1.cast (v' := (.int .i64 ((((k) / 13) + ((m) / 13) : Nat) : Int))) (.add rfl rfl) (by show Value.int _ _ = Value.int _ _; congr 1))) (zm rfl (zp (Pure1.cast (v' := .int .i64 (((k) % 13 : Nat) : Int)) (.binOp rfl rfl (fun _ => Zai _ _ _ _ _ dd)) (by rw [show (13 : Int) = ((13 : Nat) : Int) from rfl, Kd])) (zm rfl (zp (Pure1.cast (v' := .int .i64 (((m) % 13 : Nat) : Int)) (.binOp rfl rfl (fun _ => Zai _ _ _ _ _ dd)) (by rw [show (13 : Int) = ((13 : Nat) : Int) from rfl, Kd])) (zp (.pN (k % 13 + m % 13) (Pure1.cast (v' := (.int .i64 ((((k) % 13) + ((m) % 13) : Nat) : Int))) (.add rfl rfl) (by show Value.int _ _ = Value.int _ _; congr 1))) (za rfl (za rfl (zn (zs (zS (zm rfl (zm rfl (zp (.pN (k / 13 + m / 13 + (k % 13 + m % 13)) (Pure1.cast (v' := (.int .i64 (((k / 13 + m / 13) + (k % 13 + m % 13) : Nat) : Int))) (.add rfl rfl) (by show Value.int _ _ = Value.int _ _; congr 1))) (zp (.gtr rfl rfl) ?_))))))))))))))))))))); clear h; intro a w h
     refine Zg h (fun hc47 h => ?_) (fun hc47 h => ?_)
     ·
      skip
      have h47 : 12 < k / 13 + m / 13 + (k % 13 + m % 13) := dT hc47
      have hbad : badP (xs la) (xs lb) := ⟨k, m, hlt_k, hlt_m, by rw [← Vr]; exact hne1, by rw [← Vr]; exact hne2, h47⟩
      refine wpList_nil ?_
      refine cW ?_
      refine Zj h rfl ?_
      refine wp_seq (wp_region_lit ?_)
      refine Zc (Jw h (vs := []) rfl call62 (Zbf) ss dd ?_); clear h; rintro v48 σ48 a w ⟨b48, rfl, rfl⟩ h
      replace h := h.derive (R := AllF (List.replicate 169 FT0)) (fun X hX => AllF.zeros 169 X _)
      refine gL h (za rfl (za rfl (zn (zt ?_)))); clear h; intro a w h
      replace h := h.shareAll hS (cellsOf Jm (List.replicate 169 FT0)) rfl
      exact Zy (Ψ := [Row (some ⟨b48, 0, none⟩) (cellsOf Jm (List.replicate 169 FT0)), AllF (List.replicate 169 FT0)]) h (Ql h rfl (.tmp rfl) (.tmp rfl)) ⟨b48, _, 9, rfl, .inr ⟨rfl, hbad, List.length_replicate, by rw [Zdx]; exact fun φ => Xz φ 169⟩, rfl⟩ ss
     ·
      skip
      have h47 : k / 13 + m / 13 + (k % 13 + m % 13) ≤ 12 := dF hc47
      have hm3 : l2.getD (13 * (k / 13 + m / 13) + (k % 13 + m % 13)) FT0 ∈ l2 := getD_mem _ oo
      have hz3 : Jr (l2.getD (13 * (k / 13 + m / 13) + (k % 13 + m % 13)) FT0).x ≤ Ka + Kb := by
       rw [Vr]; exact Qd3 (Hb.of_eqv (qM_Hb ha.hgt hb.hgt (k := k) (m := m) (by rw [ha.len]; exact hlt_k)) hel2) (by rw [Zha]; omega)
      replace h := h.derive (R := Row (l2.getD (13 * (k / 13 + m / 13) + (k % 13 + m % 13)) FT0).a2 (List.map Qe (dg ((l2.getD (13 * (k / 13 + m / 13) + (k % 13 + m % 13)) FT0).x.den - 1)))) (fun X hX => AllF.get2 (hX _ mm) hm3)
      replace h := h.derive (R := Row (l2.getD (13 * (k / 13 + m / 13) + (k % 13 + m % 13)) FT0).a1 (List.map Qe (dg (l2.getD (13 * (k / 13 + m / 13) + (k % 13 + m % 13)) FT0).x.num.natAbs))) (fun X hX => AllF.get1 (hX _ mm) hm3)
      refine wpList_nil ?_
      refine cW ?_
      refine Ze h rfl ?_
      refine gC h (zk (yD Za [0, 1, 2, 3, 4, 5, 6, 7, 8, 9, 10, 11, 12, 13, 14, 15, 16, 17, 18, 19, 20, 21, 22, 23] (Zf kk) (ym rfl rfl (ym rfl rfl (yp rfl (.pN (13 * (k / 13 + m / 13)) (.mul rfl rfl)) (ym rfl rfl (yp rfl (.pN ((13 * (k / 13 + m / 13)) + (k % 13 + m % 13)) (.add rfl rfl)) (ym rfl rfl (ym rfl rfl (yp rfl (.pN (13 * (k / 13 + m / 13)) (.mul rfl rfl)) (ym rfl rfl (yp rfl (.pN ((13 * (k / 13 + m / 13)) + (k % 13 + m % 13)) (.add rfl rfl)) (yp rfl (.indexAddr rfl rfl (Zbs _ _ _ _ _ oo)) (yd rfl rfl mm isAgg164 sizeOf164 (Zou (k := 3) (fun _ => rfl) ((fun _ => rfl)) l2 FT0 ((13 * (k / 13 + m / 13)) + (k % 13 + m % 13)) oo) ?_)))))))))))))); clear h
      refine ym rfl rfl (ym rfl rfl (yp rfl (.indexAddr rfl rfl (Zbs _ _ _ _ _ oo)) ?_))
      refine Qa rfl kk rfl mm (cells_lt (k := 3) dd (fun _ => rfl) la k oo) isAgg164 sizeOf164 (Qn (k := 3) (fun _ => rfl) ((fun _ => rfl)) la FT0 k oo) (.inl rfl) dd ?_
      refine ym rfl rfl (ym rfl rfl (yp rfl (.indexAddr rfl rfl (Zbs _ _ _ _ _ oo)) ?_))
      refine Qa rfl kk rfl mm (cells_lt (k := 3) dd (fun _ => rfl) lb m oo) isAgg164 sizeOf164 (Qn (k := 3) (fun _ => rfl) ((fun _ => rfl)) lb FT0 m oo) (.inl rfl) dd ?_
      refine yf [_, _] rfl rfl call151 (Zyi _ _ _ _ _ _ _ _ ((la.getD k FT0).x) ((lb.getD m FT0).x) oo oo) ?_; rintro v69 Ψ69 ⟨ad69, c69, bd69, d69, rfl, hle69, hlf69, rfl⟩
      have hl69 := Za3 ((la.getD k FT0).x) ((lb.getD m FT0).x)
      refine yf [_, _] rfl rfl call150 (Qcv _ _ _ _ _ _ _ _ ((l2.getD ((13 * (k / 13 + m / 13)) + (k % 13 + m % 13)) FT0).x) (((la.getD k FT0).x) * ((lb.getD m FT0).x)) oo oo) ?_; rintro v70 Ψ70 ⟨ad70, c70, bd70, d70, rfl, hle70, hlf70, rfl⟩
      have hl70 := Zet ((l2.getD ((13 * (k / 13 + m / 13)) + (k % 13 + m % 13)) FT0).x) (((la.getD k FT0).x) * ((lb.getD m FT0).x))
      refine yp rfl (.indexAddr rfl rfl (Zbs _ _ _ _ _ oo)) ?_
      refine Zab (b := b11) (cs := (cellsOf Jm l2).toArray) (cs' := (cellsOf Jm (l2.set ((13 * (k / 13 + m / 13)) + (k % 13 + m % 13)) (FT.mk (((l2.getD ((13 * (k / 13 + m / 13)) + (k % 13 + m % 13)) FT0).x) + (((la.getD k FT0).x) * ((lb.getD m FT0).x))) ad70 c70 bd70 d70 hle70 hlf70))).toArray) (v := Jm (FT.mk (((l2.getD ((13 * (k / 13 + m / 13)) + (k % 13 + m % 13)) FT0).x) + (((la.getD k FT0).x) * ((lb.getD m FT0).x))) ad70 c70 bd70 d70 hle70 hlf70)) rfl kk rfl rfl (Ku (k := 3) (fun _ => rfl) l2 ((13 * (k / 13 + m / 13)) + (k % 13 + m % 13)) oo (FT.mk (((l2.getD ((13 * (k / 13 + m / 13)) + (k % 13 + m % 13)) FT0).x) + (((la.getD k FT0).x) * ((lb.getD m FT0).x))) ad70 c70 bd70 d70 hle70 hlf70)) uu sizeOf164 rfl (Za5 (k := 3) (fun _ => rfl) l2 ((13 * (k / 13 + m / 13)) + (k % 13 + m % 13)) oo) rfl ?_
      refine yn (zr (zm rfl (zp (.pN (m + 1) (.add rfl rfl)) (za rfl (zn ?_))))); intro a w h
      replace h := h.derive (R := AllF (l2.set ((13 * (k / 13 + m / 13)) + (k % 13 + m % 13)) (FT.mk (((l2.getD ((13 * (k / 13 + m / 13)) + (k % 13 + m % 13)) FT0).x) + (((la.getD k FT0).x) * ((lb.getD m FT0).x))) ad70 c70 bd70 d70 hle70 hlf70))) (fun X hX => AllF.set (hX _ mm) (hX _ mm) (hX _ mm))
      have hx2 : Eqv (pol (xs (l2.set ((13 * (k / 13 + m / 13)) + (k % 13 + m % 13)) (FT.mk (((l2.getD ((13 * (k / 13 + m / 13)) + (k % 13 + m % 13)) FT0).x) + (((la.getD k FT0).x) * ((lb.getD m FT0).x))) ad70 c70 bd70 d70 hle70 hlf70)))) (qM (xs la) (xs lb) k (m + 1)) := by
       have h9 := Qdx (k := k) (m := m) ha.len hb.len (by rw [Zha]; exact hln2) hlt_k hlt_m rfl rfl oo hel2
       rw [Zlq]; rw [← Vr, ← Vr, ← Vr] at h9; exact h9
      exact ⟨m + 1, ⟨oo, l2.set ((13 * (k / 13 + m / 13)) + (k % 13 + m % 13)) (FT.mk (((l2.getD ((13 * (k / 13 + m / 13)) + (k % 13 + m % 13)) FT0).x) + (((la.getD k FT0).x) * ((lb.getD m FT0).x))) ad70 c70 bd70 d70 hle70 hlf70), ⟨by rw [List.length_set]; exact hln2, hx2, hnb2.step oo⟩, by exact (h.factsSub (by simp)).sub sA⟩, oo⟩
    have hsk : (xs la).getD k 0 = 0 ∨ (xs lb).getD m 0 = 0 := .inr (by rw [Qdk] at hc32; rw [← Vr]; exact of_decide_eq_true hc32)
    refine gL h (zp (.pickF rfl rfl) (zn ?_)); clear h; intro a w h
   all_goals
    refine cW ?_
    refine Zj h rfl ?_
    refine gC h (ze (zr (zm rfl (zp (.pN (m + 1) (.add rfl rfl)) (za rfl (zn ?_)))))); clear h; intro a w h
    skip
    exact ⟨m + 1, ⟨oo, l2, ⟨hln2, Qdy ha.len hb.len hlt_k hlt_m hsk hel2, hnb2.skip hsk⟩, by exact (h.factsSub (by simp)).sub sA⟩, oo⟩
  ·
   skip
   have heq_m : 169 = m := dF hc17
   subst heq_m
   refine gC h (ze (zr (zm rfl (zp (.pN (k + 1) (.add rfl rfl)) (za rfl (zn ?_)))))); clear h; intro a w h
   exact ⟨k + 1, ⟨oo, l2, ⟨hln2, qM_row ha.len hb.len hlt_k hel2, hnb2.row⟩, by exact (h.factsSub (by simp)).sub sA⟩, oo⟩
 ·
  skip
  have heq_k : 169 = k := dF hc13
  subst heq_k
  replace h := h.shareAll hS (cellsOf Jm l) rfl
  refine gC h (ze (zS (zm rfl (za rfl (za rfl (zn (zt ?_))))))); clear h; intro a w h
  refine Zy (Ψ := [Row (some ⟨b11, 0, none⟩) (cellsOf Jm l), AllF l]) h (Ql h rfl (.tmp rfl) (.tmp rfl)) ?_ ss
  exact ⟨b11, l, 0, rfl, .inl ⟨rfl, hnb, hln, qM_end ha.len hel⟩, rfl⟩
theorem Qcm (b1 : Nat) (la : List FT) (da Ka : Nat) (ha : Tb da Ka (xs la)) (hda : da ≤ 12) (hka : Ka ≤ 1000000000) (b2 : Nat) (lb : List FT) (db Kb : Nat) (hb : Tb db Kb (xs lb)) (hdb : db ≤ 12) (hkb : Kb ≤ 1000000000) (hd : da + db ≤ 12) : Ctr Tryz.prog 144 [.slice (some ⟨b1, 0, none⟩) 169 169, .slice (some ⟨b2, 0, none⟩) 169 169] [Row (some ⟨b1, 0, none⟩) (cellsOf Jm la), AllF la, Row (some ⟨b2, 0, none⟩) (cellsOf Jm lb), AllF lb] (Qci (da + db) (Ka + Kb) (Vh (pol (xs la)) (pol (xs lb)))) :=
 Qa1 (Qfo b1 la da Ka ha hda hka b2 lb db Kb hb hdb hkb) (fun v Ψ ⟨b, l, e, h1, h2, h3⟩ => by
  rcases h2 with ⟨rfl, _, h4, h5⟩ | ⟨_, h4, _⟩
  · exact ⟨b, l, h1, ha.mulP hb hd (by rw [Zha]; exact h4) h5, h5, h3⟩
  · exact (ha.nbad hb hd h4).elim)
theorem C_tPow (b1 : Nat) (la : List FT) (da Ka : Nat) (ha : Tb da Ka (xs la)) (hda : da ≤ 12) (n : Nat) (hn : n ≤ 12) (hd : n * da ≤ 12) (hk2 : Ka ≤ 10000000) : Ctr Tryz.prog 192 [.slice (some ⟨b1, 0, none⟩) 169 169, .int .i64 ((n : Nat) : Int)] [Row (some ⟨b1, 0, none⟩) (cellsOf Jm la), AllF la] (Qci (n * da) (n * Ka + 4) (Zea (pol (xs la)) n)) := by
 refine fn_intro func192 rfl ntmps192 nb ?_
 intro S w0 a hS h
 refine gC h (zS (za rfl (za rfl (zn (zs (zS (zm rfl (zp (.lss rfl rfl) ?_)))))))); clear h; intro a w h
 refine Zg h (fun hc11 h => (by exfalso; have := of_decide_eq_true hc11; omega)) (fun hc11 h => ?_)
 refine gL h (zm rfl (zq 12 rfl rfl (.move rfl) (zq 12 rfl rfl (.gtr rfl rfl) ?_))); clear h; intro a w h
 refine Zg h (fun hc14 h => (by exfalso; have := of_decide_eq_true hc14; omega)) (fun hc14 h => ?_)
 refine gL h (zp (.pickF rfl rfl) (zn ?_)); clear h; intro a w h
 refine cW ?_
 refine Ze h rfl ?_
 refine gC h (zk (zS (zf [] rfl call222 (C_tOne) ?_))); rintro v17 Ψ17 ⟨b17, l17, rfl, ht17, he17, rfl⟩
 refine za rfl (zn (zs (zS (za rfl (zn (zb ?_)))))); intro a w h
 refine Zi (fun (i : Nat) a w => i ≤ n ∧ ∃ b l, ((Tb (i * da) (i * Ka + 4) (xs l) ∧ Eqv (pol (xs l)) (Zea (pol (xs la)) i))) ∧ St 35 S w0 [(0, .slice (some ⟨b1, 0, none⟩) 169 169), (1, nI n), (6, .slice (some ⟨b, 0, none⟩) 169 169), (7, nI i)] [] [Row (some ⟨b, 0, none⟩) (cellsOf Jm l), AllF l, Row (some ⟨b1, 0, none⟩) (cellsOf Jm la), AllF la] a w) (fun i => n - i) 0 (⟨Nat.zero_le _, b17, l17, ⟨by rw [Nat.zero_mul, Nat.zero_mul]; exact ht17, he17⟩, by exact (h.factsSub (by simp)).sub (Zfn ⟨rfl, rfl, rfl, rfl, trivial⟩)⟩) ?_; clear h
 rintro i a w ⟨hi_i, b, l, ⟨ht, he⟩, h⟩
 refine gC h (zs (zS (zm rfl (zm rfl (zp (.lss rfl rfl) (zn ?_)))))); clear h; intro a w h
 refine cW ?_
 refine Zb h rfl (fun hc20 => ?_) (fun hc20 => ?_)
 ·
  skip
  have hlt_i : i < n := dT hc20
  have hid : i * da + da ≤ 12 := Nat.le_trans (by rw [← Nat.succ_mul]; exact Nat.mul_le_mul_right da hlt_i) hd
  have hid2 : i * da ≤ 12 := oo
  have hik : i * Ka + 4 ≤ 1000000000 := by have := Nat.mul_le_mul (show i ≤ 12 by omega) hk2; omega
  refine gC h (zk (zs (zb (zS (zm rfl (zm rfl (zf [_, _] rfl call144 (Qcm b l (i * da) (i * Ka + 4) ht hid2 hik b1 la da Ka ha hda oo hid) ?_))))))); rintro v26 Ψ26 ⟨b26, l26, rfl, ht26, he26, rfl⟩
  refine zm rfl (zp (.eX rfl) (zp (.eX rfl) (za rfl (za rfl (zn (zs (zS (zm rfl (zp (.neq rfl rfl) (zn ?_)))))))))); intro a w h
  refine cW ?_
  refine Zb h rfl (fun hc30 => (absurd hc30 dd)) (fun hc30 => ?_)
  refine gC h (zk (zr (zm rfl (za rfl (zn (zr (zm rfl (zp (.pN (i + 1) (.add rfl rfl)) (za rfl (zn ?_)))))))))); clear h; intro a w h
  exact ⟨i + 1, ⟨oo, b26, l26, ⟨by rw [Nat.add_mul, Nat.one_mul, Nat.add_mul, Nat.one_mul]; exact ht26.mono (Nat.le_refl _) oo, he26.trans (he.mul Eqv.rfl')⟩, by exact (h.factsSub (by simp)).sub sA⟩, oo⟩
 ·
  skip
  have heq_i : n = i := dF hc20
  subst heq_i
  refine gC h (ze (zS (zm rfl (za rfl (za rfl (zn (zt ?_))))))); clear h; intro a w h
  refine Zy (Ψ := [Row (some ⟨b, 0, none⟩) (cellsOf Jm l), AllF l]) h (Ql h rfl (.tmp rfl) (.tmp rfl)) ?_ ss
  exact ⟨b, l, rfl, ht, he, rfl⟩
structure TF where
 i : Int
 j : Int
 f : FT
def TF0 : TF := ⟨0, 0, FT0⟩
abbrev encTF (t : TF) : Value := .agg #[.int .i64 t.i, .int .i64 t.j, .bool (decide (t.f.x.num < 0)), .slice t.f.a1 (dg t.f.x.num.natAbs).length t.f.c1, .slice t.f.a2 (dg (t.f.x.den - 1)).length t.f.c2]
def tmF (t : TF) : Tm := ⟨t.i.toNat, t.j.toNat, t.f.x⟩
def OkIJ (t : TF) : Prop := (-9223372036854775808 ≤ t.i ∧ t.i ≤ 9223372036854775807) ∧ (-9223372036854775808 ≤ t.j ∧ t.j ≤ 9223372036854775807)
def erF (t : TF) : Int := if t.i < 0 ∨ t.j < 0 then 1 else if t.i > 12 ∨ t.j > 12 ∨ t.i + t.j > 12 then 9 else 0
def erL : List TF → Int
 | [] => 0
 | t :: l => if erF t = 0 then erL l else erF t
def PostTO (l : List TF) (v : Value) (Ψ : List Zp) : Prop := ∃ b lo, v = .tuple #[.slice (some ⟨b, 0, none⟩) 169 169, .int .i64 (erL l)] ∧ lo.length = 169 ∧ Eqv (pol (xs lo)) (if erL l = 0 then l.map tmF else []) ∧ Ψ = [Row (some ⟨b, 0, none⟩) (cellsOf Jm lo), AllF lo]
end
section
def t3 (t : TF) : Int × Int × Rat := (t.i, t.j, t.f.x)
def tzB (d : Nat) (t : Ti) : Int × Int × Rat := (((brI d t : Nat) : Int), ((brJ d t : Nat) : Int), qv t.n t.d)
def tzI (t : Ti) : Int × Int × Rat := (t.i, t.j, qv t.n t.d)
def er3 (t : Int × Int × Rat) : Int := if t.1 < 0 ∨ t.2.1 < 0 then 1 else if t.1 > 12 ∨ t.2.1 > 12 ∨ t.1 + t.2.1 > 12 then 9 else 0
def erT : List (Int × Int × Rat) → Int
 | [] => 0
 | t :: l => if er3 t = 0 then erT l else er3 t
def tm3 (t : Int × Int × Rat) : Tm := ⟨t.1.toNat, t.2.1.toNat, t.2.2⟩
def PostRef (T : List (Int × Int × Rat)) (v : Value) (Ψ : List Zp) : Prop := ∃ b lo, v = .tuple #[.slice (some ⟨b, 0, none⟩) 169 169, .int .i64 (erT T)] ∧ lo.length = 169 ∧ Eqv (pol (xs lo)) (if erT T = 0 then T.map tm3 else []) ∧ Ψ = [Row (some ⟨b, 0, none⟩) (cellsOf Jm lo), AllF lo]
end
end Go.Proofs.YtgkicbaomcmfoaaGreatDoor
