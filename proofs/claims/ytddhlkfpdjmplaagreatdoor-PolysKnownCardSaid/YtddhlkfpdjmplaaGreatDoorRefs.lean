/- Walks of functions. By an AI agent. -/
import Derived.Test.YtddhlkfpdjmplaaGreatDoorTextg
set_option linter.unusedVariables false
set_option linter.unusedSimpArgs false
set_option maxRecDepth 4000
namespace Go.Proofs.YtddhlkfpdjmplaaGreatDoor
open Go Go.Proofs Go.Fx Tryz
attribute [local irreducible] Oper.wp Code.wp wpList Fx.Head wpOp
section
theorem Qg5 (x : Int) (w : World) : (Go.convert 23 3 (.int .u32 x)).run Tryz.prog w = .ok (.int .i64 (IntKind.i64.wrap x)) w := by
 simp [go_sem]
theorem Qcv (x : Int) (h0 : IntKind.i64.wrap x = x) (w : World) : (Go.convert 23 3 (.int .u32 x)).run Tryz.prog w = .ok (.int .i64 x) w := by
 rw [Qg5, h0]
theorem Zx1 : ∀ l : List ByteArray, Zj5 l ⟨#[]⟩ = ⟨(Qec l).toArray⟩ := fun l => by
 have key : ∀ xs : List (List UInt8), Lib.join xs [] = xs.flatten := fun xs => by
  unfold Lib.join
  induction xs with
  | nil => rfl
  | cons x xs ih =>
   rcases xs with _ | ⟨y, ys⟩
   · simp [List.intercalate]
   · rw [List.flatten_cons, ← ih]; simp [List.intercalate]
 unfold Zj5
 rw [show (ByteArray.mk #[]).data.toList = [] from rfl, key]
 unfold Qec
 rw [List.flatMap_def]
theorem Zqi {m : Nat} (h : m / 1000000000 = 0) : Zfh m = dB (m % 1000000000) := by
 unfold Zfh; rw [if_pos h, Nat.mod_eq_of_lt oo]
theorem Zu4 {m : Nat} (h : m / 1000000000 ≠ 0) : zerB (9 - (dB (m % 1000000000)).size) ++ dB (m % 1000000000) = Zfh m := by
 unfold Zfh
 rw [if_neg h]
 apply ByteArray.ext
 rw [ByteArray.data_append]
 apply Array.ext'
 have h1 := Qf5 (r := m % 1000000000) (k := 8) (Nat.mod_lt _ dd)
 have h2 : Zfx (m % 10 ^ 9) 9 = Zfx m 9 := Zru 9 m
 rw [show (10 : Nat) ^ 9 = 1000000000 from rfl] at h2
 rw [h2] at h1
 rw [Zjk]
 show ((List.replicate _ (48 : UInt8)).toArray ++ (Lib.decDigits _).toArray).toList = (Zfx m 9).toArray.toList
 simp only [List.toList_toArray, Array.toList_append]
 exact h1
theorem Zf8 (n i : Nat) : n / 10 ^ (9 * i) / 1000000000 = n / 10 ^ (9 * (i + 1)) := by
 rw [Nat.div_div_eq_div_mul, show 9 * (i + 1) = 9 * i + 9 by omega, Nat.pow_add]
theorem Zqv {n : Nat} (h : (wds n).length = 0) : n = 0 := by
 have := Zid n
 rw [h] at this; simpa using this
theorem Qdj {m n : Nat} (h : m ≤ n) : (wds m).length ≤ (wds n).length := by
 rcases Nat.lt_or_ge (wds n).length (wds m).length with h1 | h1
 · exact absurd (Zch h1) oo
 · exact h1
theorem Qfv {b : Nat} {M R : List Value} {X : Nat → Prop} {w : World} (h : (Row (some ⟨b, 0, none⟩) (M ++ R)).p X w) : (Row (some ⟨b, 0, none⟩) M).p X w := by
 have h1 := Zhx h M.length
 rwa [List.take_left] at h1
theorem Qif (ad : Option Addr) (c m : Nat) (l : List ByteArray) (hm : m = l.length) (hc : m ≤ c) (hn : m ≤ 1000000) (hM : ∀ x ∈ l, x.size ≤ 9) :
  Vj Tryz.prog 84 [.slice ad m c, .string ⟨#[]⟩] [Row ad (List.map encs l)] (.string ⟨(Qec l).toArray⟩) := by
 subst hm
 rw [← Zx1]
 exact Qez ad c l ⟨#[]⟩ hc hn 9 hM (by show l.length * (9 + 0) ≤ _; omega)
theorem Zwv (n i : Nat) : ∀ x ∈ (prt n i).reverse, x.size ≤ 9 := fun x hx => Zrg n i x (List.mem_reverse.1 hx)
theorem Zmk (n : Nat) (hs : (wds n).length ≤ 300000) : Vj Tryz.prog 119 [Vm n] [TabF] (.string (dB n)) := by
 rcases Nat.lt_or_ge n 18446744073709551616 with hsm | hbig
 · exact Qde n hsm
 replace hbig : ¬ n < 18446744073709551616 := oo
 refine fn_intro func119 rfl ntmps119 nb ?_
 intro S w0 a hS h
 refine gC h (zS (zx rfl fun b1 => za rfl (zn (zs (zS (zp (.fA rfl Kj) (zd rfl mr isAgg9 sizeOf9 Xm ?_)))))))
 refine zp (.binOp rfl rfl (fun _ => Xf _ _ _ _ _)) (zn ?_); intro a w h
 refine cW ?_
 refine Zb h rfl (fun hc10 => (by exfalso; exact hbig (Qt.1 (by simpa using hc10)))) (fun hc10 => ?_)
 refine gC h (zk (zS (za rfl (zn (zs (zS (zd rfl mr isAgg38 sizeOf38 Zn ?_)))))))
 refine zf [_] rfl call166 (Zbo n oo) ?_; rintro v15 Ψ15 ⟨ad15, c15, rfl, hc15, rfl⟩ a w h
 have hw0 : wds n = wds (n / 10 ^ (9 * 0)) := by rw [Nat.mul_zero, Nat.pow_zero, Nat.div_one]
 rw [hw0] at h hc15
 refine gL h (za rfl (zn (zb ?_))); clear h; intro a w h
 refine Zf (fun (i : Nat) a w => ∃ (adl : Option Addr) (cl : Nat) (ad1 : Option Addr) (c1 : Nat) (o1 : List (Nat × Obj)), ((wds (n / 10 ^ (9 * i))).length ≤ cl ∧ (i = 0 ∨ n / 10 ^ (9 * (i - 1)) ≠ 0) ∧ GrowO 1 9 (.slice ad1 (prt n i).length c1) (prt n i).length (List.map encs (prt n i)) o1) ∧ St 46 S w0 [(2, .string (⟨#[]⟩)), (3, (.slice ad1 (prt n i).length c1)), (4, .slice adl ((wds (n / 10 ^ (9 * i))).length) cl), (15, .slice ad15 ((wds (n / 10 ^ (9 * 0))).length) c15)] (o1 ++ ((b1, bV (Vm (n)) 38) :: [])) [Row adl (Jv (wds (n / 10 ^ (9 * i)))), TabF] a w) (fun i => n / 10 ^ (9 * i)) (0) (⟨ad15, c15, none, 0, [], ⟨hc15, .inl rfl, GrowO.nil _ _⟩, by exact (h.factsSub (by simp)).sub (Zen ⟨rfl, rfl, rfl, rfl, trivial⟩)⟩) ?_; clear h
 rintro i a w ⟨adl, cl, ad1, c1, o1, ⟨hlc, hp, hG1⟩, h⟩
 refine gC h (zs (zS (zm rfl (zp (.builtin [_] rfl (Zl _ _ _)) (zp (.gtr rfl rfl) (zn ?_)))))); clear h; intro a w h
 refine cW ?_
 refine Zb h rfl (fun hc18 => ?_) (fun hc18 => ?_)
 ·
  skip
  have hm0 : (n / 10 ^ (9 * i)) ≠ 0 := fun e => by rw [e, Gn] at hc18; exact absurd hc18 dd
  have hif := Zww hm0
  have hwl : (wds (n / 10 ^ (9 * i))).length ≤ (wds n).length := Qdj (Nat.div_le_self _ _)
  have hpl := Zk7 n i
  refine gC h (zk (zb (zS (zm rfl ?_)))); clear h; intro a w h
  refine Zi (Jb h (vs := [_, _]) rfl call167 (Zz0 adl cl (wds (n / 10 ^ (9 * i))) 1000000000 (Wd.wds _) oo dd dd) ss dd ?_); clear h; rintro v21 σ21 a w ⟨b21, Q21, rfl, hQw, hQl, hQv, rfl⟩ h
  rw [Qu] at h hQv
  rw [Zf8] at hQv
  replace h := h.shareAll hS (Jv Q21) rfl
  have hr9 := Nat.mod_lt (n / 10 ^ (9 * i)) (show 0 < 1000000000 by decide)
  have hr8 : (dB (n / 10 ^ (9 * i) % 1000000000)).size ≤ 9 := by rw [Zjk]; exact Zcp (k := 8) hr9
  refine gL h (zm rfl (zp (.eX rfl) (zp (.eX rfl) (za rfl (za rfl (zn (zS (zm rfl (zf [_] rfl call168 (Qhz _ _ Q21 hQw (Nat.le_refl _) oo) ?_))))))))); clear h; rintro v25 Ψ25 ⟨rfl, rfl⟩ a w h
  rw [hQv] at h
  have hcl1 : (wds (n / 10 ^ (9 * (i + 1)))).length ≤ Q21.length := by rw [hQl]; exact Qdj (by rw [← Zf8]; exact Nat.div_le_self _ _)
  refine gL h (za rfl (zn (zS (zm rfl (zp (.convert rfl (Qcv _ (wrap_i64 _ oo oo))) (zw [_] rfl call149 (Qig (n / 10 ^ (9 * i) % 1000000000) oo) (za rfl (zn (zs (zS (zm rfl (zp (.builtin [_] rfl (Zl _ _ _)) (zp (.gtr rfl rfl) (zn ?_)))))))))))))); clear h; intro a w h
  refine cW ?_
  refine Zb h rfl (fun hc31 => ?_) (fun hc31 => ?_)
  focus
   have hq1 : (n / 10 ^ (9 * (i + 1))) ≠ 0 := fun e => by rw [e, Gn] at hc31; exact absurd hc31 dd
   refine gC h (zr (zm rfl (zp (.builtin [_] rfl (Zd4 _)) (zp (.pO (9 - ((dB (n / 10 ^ (9 * i) % 1000000000)).size)) (.sub rfl rfl)) (zv [_, _] rfl call169 (Qdb (9 - (dB (n / 10 ^ (9 * i) % 1000000000)).size) oo) (zm rfl (zp (.binOp rfl rfl (fun _ => Je _ _ _ _ _ (by rw [Zve]; omega))) ?_))))))); clear h; intro a w h
   rw [Zu4 (by rw [Zf8]; exact hq1)] at h
   refine gL h (za rfl (zn (zr (zm rfl (zm rfl (zB [(_, _)] rfl (Zcz _) fun b40 => ?_)))))); clear h; intro a w h
  rotate_left
  focus
   have hq1 : (n / 10 ^ (9 * i)) / 1000000000 = 0 := by rw [Zf8]; exact Zqv (dF hc31)
   rw [← Zqi hq1] at h
   refine gC h (zk (zr (zm rfl (zm rfl (zB [(_, _)] rfl (Zcz _) fun b40 => ?_))))); clear h; intro a w h
  all_goals
   refine Zi (Gd (σr := [(b1, bV (Vm (n)) 38)]) h rfl rfl (List.Perm.trans (List.Perm.refl _) (List.Perm.cons _ (List.Perm.refl _))) hG1 runUnderlying132 runUnderlying132 typeInfo9 sizeOf9 zeroValue9 rfl dd dd rfl rfl dd (by show 16 * (2 * ((prt n i).length + 1) + 192) ≤ 281474976710656; omega) dd ?_); clear h
   intro v41 o41 a w hG41 h
   obtain ⟨ad41, c41, rfl⟩ := hG41.is
   have hLn41 : (prt n i).length + 1 = ((prt n i) ++ [Zfh (n / 10 ^ (9 * i))]).length := lA
   rw [hLn41] at h hG41
   replace hG41 : GrowO 1 9 (.slice ad41 ((prt n i) ++ [Zfh (n / 10 ^ (9 * i))]).length c41) ((prt n i) ++ [Zfh (n / 10 ^ (9 * i))]).length (List.map encs ((prt n i) ++ [Zfh (n / 10 ^ (9 * i))])) o41 := by rw [List.map_append]; exact hG41
   refine gL h (za rfl (zn ?_)); clear h; intro a w h
   exact ⟨i + 1, ⟨_, _, ad41, c41, o41, ⟨hcl1, .inr hm0, hG41⟩, by exact (h.factsSub (by simp)).sub (Zen ⟨rfl, rfl, rfl, rfl, trivial⟩)⟩, by rw [← Zf8]; exact Nat.div_lt_self (Nat.pos_of_ne_zero hm0) dd⟩
 ·
  skip
  have hz0 : (n / 10 ^ (9 * i)) = 0 := Zqv (dF hc18)
  have hi0 : i ≠ 0 := fun e => by subst e; rw [Nat.mul_zero, Nat.pow_zero, Nat.div_one] at hz0; omega
  obtain ⟨j, hij⟩ : ∃ j, i = j + 1 := ⟨i - 1, oo⟩
  have hj := hp.resolve_left hi0
  have hjf := Zww hj
  have hpl := Zk7 n i
  have hcat : Qec (prt n i).reverse = Lib.decDigits n := by
   rw [hij, Nat.add_sub_cancel] at hj
   rw [hij] at hz0 ⊢
   exact Qg9 hj hz0
  refine gC h (ze (zS (zm rfl ?_))); clear h; intro a w h
  obtain ⟨bp, Rp, rfl, rfl, hRp, hcp⟩ := hG1.open (by rw [Zk7]; omega)
  rw [List.cons_append, List.nil_append] at h
  refine Zi (Zb0 h hS (vs := [_]) rfl call170 (Qad bp c1 (prt n i) Rp oo [(b1, _)] [Row adl (Jv (wds (n / 10 ^ (9 * i)))), TabF]) (List.Perm.refl _) ss ss ?_); clear h; rintro v43 σ43 Ψ43 a w ⟨rfl, rfl, rfl⟩ h
  replace h := h.shareAll hS (List.map encs (prt n i).reverse ++ Rp) rfl
  replace h := h.derive (R := Row (some ⟨bp, 0, none⟩) (List.map encs (prt n i).reverse)) (fun X hX => Qfv (hX _ List.mem_cons_self))
  refine gL h (zn (zS (zm rfl (zw [_, _] rfl call84 (Qif (some ⟨bp, 0, none⟩) c1 (prt n i).length (prt n i).reverse (by rw [List.length_reverse]) hG1.cap oo (Zwv n i)) (za rfl (zn (zt ?_))))))); clear h; intro a w h
  refine Jm h (Zc h rfl (.tmp rfl)) ?_
  rw [hcat]; rfl
theorem Zkb (z : Int) : (Zvc z).size ≤ 10 * Zat z + 2 := by
 unfold Zvc Zat; have h1 := Zh6 z.natAbs; have h2 := Zk3 45
 split
 · rw [ByteArray.size_append]; omega
 · omega
theorem Zgl (x : Rat) {K : Nat} (h : Qc x ≤ K) : (Gj x).size ≤ 20 * K + 10 := by
 obtain ⟨h1, h2⟩ := Zca h
 have h3 := Zkb x.num
 have h4 := Zh6 x.den
 have h5 := Zk3 47
 unfold Gj
 split
 · omega
 · rw [ByteArray.size_append, ByteArray.size_append]; omega
theorem Zti (z : Int) (hz : Zat z ≤ 300000) : Vj Tryz.prog 118 [encZ z] [TabF] (.string (Zvc z)) := by
 have hz2 : (wds z.natAbs).length ≤ 300000 := hz
 refine fn_intro func118 rfl ntmps118 nb ?_
 intro S w0 a hS h
 refine gC h (zS (zx rfl fun b1 => za rfl (zn (zs (zS (zp (.fA rfl Zbl) (zd rfl mr isAgg4 sizeOf4 Zbv ?_))))))); clear h; intro a w h
 refine wpList_nil ?_
 refine cW ?_
 refine Zb h rfl (fun hc4 => ?_) (fun hc4 => ?_)
 ·
  skip
  have hn : z < 0 := of_decide_eq_true hc4
  refine gC h (zS (zp (.fA rfl Ga) (zp (.fA rfl Gv) (zd rfl mr isAgg38 sizeOf38 Jw ?_))))
  refine zw [_] rfl call119 (Zmk z.natAbs hz2) (zp (.binOp rfl rfl (fun _ => Je _ _ _ _ _ (by have := Zh6 z.natAbs; have h1 := Zk3 45; omega))) (za rfl (zn (zt ?_)))); intro a w h
  refine Jm h (Zc h rfl (.tmp rfl)) ?_
  unfold Zvc; rw [if_pos hn]
 ·
  skip
  have hn : ¬ z < 0 := of_decide_eq_false hc4
  refine gC h (zk (zS (zp (.fA rfl Ga) (zp (.fA rfl Gv) (zd rfl mr isAgg38 sizeOf38 Jw ?_)))))
  refine zw [_] rfl call119 (Zmk z.natAbs hz2) (za rfl (zn (zt ?_))); intro a w h
  refine Jm h (Zc h rfl (.tmp rfl)) ?_
  unfold Zvc; rw [if_neg hn]
theorem Ztn (x : Rat) (hx : Qc x ≤ 300000) : Vj Tryz.prog 55 [Jo x] [TabF] (.string (Gj x)) := by
 obtain ⟨hq1, hq2⟩ := Zca hx
 have hs1 := Zkb x.num
 have hs2 := Zh6 x.den
 refine fn_intro func55 rfl ntmps55 nb ?_
 intro S w0 a hS h
 refine gC h (zS (zx rfl fun b1 => za rfl (zn (zs (zS (zd rfl mr isAgg44 sizeOf44 Zh ?_))))))
 refine zv [_] rfl call117 (Zg9 x) (zn ?_); intro a w h
 refine cW ?_
 refine Zb h rfl (fun hc4 => ?_) (fun hc4 => ?_)
 ·
  skip
  have hw : x.den = 1 := of_decide_eq_true hc4
  refine gC h (zS (zp (.fA rfl Vq) (zd rfl mr isAgg42 sizeOf42 Yi ?_)))
  refine zw [_] rfl call118 (Zti x.num hq1) (za rfl (zn (zt ?_))); intro a w h
  refine Jm h (Zc h rfl (.tmp rfl)) ?_
  unfold Gj; rw [if_pos hw]
 ·
  skip
  have hw : ¬ x.den = 1 := of_decide_eq_false hc4
  refine gC h (zk (zs (yD Za [0, 1, 4, 2, 3, 5, 6, 7, 8] (Zd kk) (yp rfl (.fA rfl Vq) (yd rfl rfl mr isAgg42 sizeOf42 Yi ?_))))); clear h
  refine yd rfl rfl mr isAgg44 sizeOf44 Zh ?_
  refine yw [_] rfl rfl call118 (Zti x.num hq1) (yp rfl (.binOp rfl rfl (fun _ => Je _ _ _ _ _ (by have h1 := Zk3 47; omega))) (yv [_] rfl rfl call120 (Zmh x oo) (yw [_] rfl rfl call119 (Zmk x.den hq2) (yp rfl (.binOp rfl rfl (fun _ => Je _ _ _ _ _ (by have h1 := Zk3 47; rw [ByteArray.size_append]; omega))) (yp rfl (.assign rfl) (yn (zt ?_))))))); intro a w h
  refine Jm h (Zc h rfl (.tmp rfl)) ?_
  unfold Gj; rw [if_neg hw]
end
section
theorem Zea (n : Nat) : Lib.decDigits n ≠ [] := fun e => by
 have h := congrArg List.length e
 rw [Lib.decDigits_length] at h
 by_cases h1 : n < 10
 · rw [Lib.nDigits_small h1] at h; cases h
 · rw [Lib.nDigits_big h1] at h; cases h
theorem Zyr {a b : Nat} (ha : a < 10) (hb : b < 10) (h : UInt8.ofNat (48 + a) = UInt8.ofNat (48 + b)) : a = b := by
 have h1 := congrArg UInt8.toNat h
 simp only [UInt8.toNat_ofNat'] at h1
 omega
theorem Zga : ∀ n m : Nat, Lib.decDigits n = Lib.decDigits m → n = m := by
 intro n
 induction n using Nat.strongRecOn with
 | _ n ih =>
  intro m h
  by_cases hn : n < 10
  ·
   by_cases hm : m < 10
   ·
    rw [Lib.decDigits_one hn, Lib.decDigits_one hm] at h
    exact Zyr hn hm (List.cons.inj h).1
   ·
    exfalso
    have e : Lib.decDigits m = Lib.decDigits (m / 10) ++ [UInt8.ofNat (48 + m % 10)] := by rw [Lib.decDigits, dif_neg hm]
    rw [Lib.decDigits_one hn, e] at h
    have h2 := congrArg List.length h
    have h3 := List.length_pos_iff.2 (Zea (m / 10))
    simp only [List.length_append, List.length_cons, List.length_nil] at h2; omega
  ·
   by_cases hm : m < 10
   ·
    exfalso
    have e : Lib.decDigits n = Lib.decDigits (n / 10) ++ [UInt8.ofNat (48 + n % 10)] := by rw [Lib.decDigits, dif_neg hn]
    rw [Lib.decDigits_one hm, e] at h
    have h2 := congrArg List.length h
    have h3 := List.length_pos_iff.2 (Zea (n / 10))
    simp only [List.length_append, List.length_cons, List.length_nil] at h2; omega
   ·
    have e : Lib.decDigits n = Lib.decDigits (n / 10) ++ [UInt8.ofNat (48 + n % 10)] := by rw [Lib.decDigits, dif_neg hn]
    have e2 : Lib.decDigits m = Lib.decDigits (m / 10) ++ [UInt8.ofNat (48 + m % 10)] := by rw [Lib.decDigits, dif_neg hm]
    rw [e, e2] at h
    obtain ⟨h1, h2⟩ := List.append_inj' h rfl
    have h3 := ih (n / 10) oo (m / 10) h1
    have h4 := Zyr (Nat.mod_lt n dd) (Nat.mod_lt m dd) (List.cons.inj h2).1
    omega
def isD (b : UInt8) : Prop := 48 ≤ b.toNat ∧ b.toNat ≤ 57
theorem Zdi : ∀ n : Nat, ∀ b ∈ Lib.decDigits n, isD b := by
 intro n
 induction n using Nat.strongRecOn with
 | _ n ih =>
  have key : ∀ a, a < 10 → isD (UInt8.ofNat (48 + a)) := fun a ha => by
   unfold isD; rw [UInt8.toNat_ofNat']; omega
  by_cases hn : n < 10
  · rw [Lib.decDigits_one hn]; intro b hb; rw [List.mem_singleton] at hb; subst hb; exact key n hn
  ·
   have e : Lib.decDigits n = Lib.decDigits (n / 10) ++ [UInt8.ofNat (48 + n % 10)] := by rw [Lib.decDigits, dif_neg hn]
   rw [e]
   intro b hb
   rcases List.mem_append.1 hb with hb | hb
   · exact ih (n / 10) oo b hb
   · rw [List.mem_singleton] at hb; subst hb; exact key _ (Nat.mod_lt _ dd)
theorem Zbt {C : UInt8 → Prop} : ∀ {u u' v v' : List UInt8}, (∀ b ∈ u, C b) → (∀ b ∈ u', C b) → (∀ b w, v = b :: w → ¬ C b) → (∀ b w, v' = b :: w → ¬ C b) → u ++ v = u' ++ v' → u = u' ∧ v = v'
 | [], [], v, v', _, _, _, _, h => ⟨rfl, h⟩
 | [], b :: u', v, v', _, h2, h3, _, h => by exact absurd (h2 b List.mem_cons_self) (h3 b (u' ++ v') h)
 | b :: u, [], v, v', h1, _, _, h4, h => by exact absurd (h1 b List.mem_cons_self) (h4 b (u ++ v) h.symm)
 | b :: u, b' :: u', v, v', h1, h2, h3, h4, h => by
  obtain ⟨e, h⟩ := List.cons.inj h
  obtain ⟨e1, e2⟩ := Zbt (fun x hx => h1 x (List.mem_cons_of_mem _ hx)) (fun x hx => h2 x (List.mem_cons_of_mem _ hx)) h3 h4 h
  exact ⟨by rw [e, e1], e2⟩
def qB (x : Rat) : List UInt8 := Lib.decDigits x.num.natAbs ++ (if x.den = 1 then [] else 47 :: Lib.decDigits x.den)
theorem Zvt {x : Rat} (h : 0 ≤ x.num) : (Gj x).data.toList = qB x := by
 have hz : Zvc x.num = dB x.num.natAbs := by unfold Zvc; rw [if_neg oo]
 unfold Gj qB
 rw [hz]
 unfold dB
 by_cases hd : x.den = 1
 · rw [if_pos hd, if_pos hd]; simp
 · rw [if_neg hd, if_neg hd, ByteArray.data_append, ByteArray.data_append]; simp
theorem Zws {x y : Rat} (hx : 0 ≤ x.num) (hy : 0 ≤ y.num) (h : qB x = qB y) : x = y := by
 unfold qB at h
 have hb : ∀ (d : Nat) (b : UInt8) (w : List UInt8), (if d = 1 then [] else 47 :: Lib.decDigits d) = b :: w → ¬ isD b := fun d b w he => by
  split at he
  · cases he
  · rw [← (List.cons.inj he).1]; unfold isD; decide
 obtain ⟨h1, h2⟩ := Zbt (Zdi _) (Zdi _) (hb _) (hb _) h
 have hn := Zga _ _ h1
 have hd : x.den = y.den := by
  split at h2
  ·
   split at h2
   · omega
   · cases h2
  ·
   split at h2
   · cases h2
   · exact Zga _ _ (List.cons.inj h2).2
 exact Rat.ext oo hd
theorem Zpj (x : Rat) : qB x ≠ [] := fun e => Zea _ (List.append_eq_nil_iff.1 e).1
def isN (b : UInt8) : Prop := 47 ≤ b.toNat ∧ b.toNat ≤ 57
theorem qB_N (x : Rat) : ∀ b ∈ qB x, isN b := fun b hb => by
 have key : ∀ b, isD b → isN b := fun b h => ⟨by have := h.1; omega, h.2⟩
 unfold qB at hb
 rcases List.mem_append.1 hb with hb | hb
 · exact key b (Zdi _ b hb)
 ·
  split at hb
  · cases hb
  ·
   rcases List.mem_cons.1 hb with rfl | hb
   · unfold isN; decide
   · exact key b (Zdi _ b hb)
def ltB (i j : Nat) : List UInt8 := (Zj5 (Zb2 ⟨#[120]⟩ i ++ Zb2 ⟨#[121]⟩ j) ⟨#[42]⟩).data.toList
theorem Ziv : ∀ i, i < 4 → ∀ j, j < 4 → (∀ b ∈ ltB i j, b ≠ 32) ∧ (ltB i j = [] ↔ i + j = 0) ∧ (∀ b, (ltB i j).head? = some b → b = 120 ∨ b = 121) := by decide +kernel
theorem Qb0 : ∀ a, a < 16 → ∀ b, b < 16 → ltB (a / 4) (a % 4) = ltB (b / 4) (b % 4) → a = b := by decide +kernel
theorem Zxk (i : Nat) (hi : i < 4) (j : Nat) (hj : j < 4) (k : Nat) (hk : k < 4) (m : Nat) (hm : m < 4) (h : ltB i j = ltB k m) : i = k ∧ j = m := by
 have h1 := Qb0 (4 * i + j) oo (4 * k + m) oo
 rw [show (4 * i + j) / 4 = i by omega, show (4 * i + j) % 4 = j by omega, show (4 * k + m) / 4 = k by omega, show (4 * k + m) % 4 = m by omega] at h1
 have := h1 h
 omega
def Zhn (t : Tm) : List UInt8 := if ab t.c = ((1 : Int) : Rat) ∧ t.i + t.j ≠ 0 then ltB t.i t.j else qB (ab t.c) ++ (if t.i + t.j = 0 then [] else 42 :: ltB t.i t.j)
theorem join_one (x s : List UInt8) : Lib.join [x] s = x := by simp [Lib.join, List.intercalate]
theorem Qb7 (x y s : List UInt8) (l : List (List UInt8)) : Lib.join (x :: y :: l) s = x ++ (s ++ Lib.join (y :: l) s) := by simp [Lib.join, List.intercalate]
theorem Zh0 {s : ByteArray} {n : Nat} : Zb2 s n = [] ↔ n = 0 := by
 unfold Zb2; split
 · simp_all
 · split <;> simp_all
theorem tmTx_B (t : Tm) : (tmTx Gj t).data.toList = Zhn t := by
 have hq : (Gj (ab t.c)).data.toList = qB (ab t.c) := Zvt (by rw [(Zbn t.c).1]; omega)
 unfold tmTx Zhn hdB
 by_cases h1 : ab t.c = ((1 : Int) : Rat) ∧ t.i + t.j ≠ 0
 · rw [if_pos h1, if_neg (by rw [decide_eq_true h1.1, decide_eq_false h1.2]; decide)]; rfl
 ·
  rw [if_neg h1, if_pos (by
   simp only [Bool.or_eq_true, Bool.not_eq_true', decide_eq_false_iff_not, decide_eq_true_eq]
   by_cases h2 : ab t.c = ((1 : Int) : Rat)
   · exact .inr (Decidable.of_not_not (fun h3 => h1 ⟨h2, h3⟩))
   · exact .inl h2)]
  rw [List.singleton_append, List.cons_append]
  unfold Zj5 ltB Zj5
  rw [← hq]
  by_cases h0 : t.i + t.j = 0
  ·
   have e1 : Zb2 ⟨#[120]⟩ t.i = [] := Zh0.2 oo
   have e2 : Zb2 ⟨#[121]⟩ t.j = [] := Zh0.2 oo
   rw [if_pos h0, e1, e2]
   simp [join_one]
  ·
   rw [if_neg h0]
   rcases hl : Zb2 ⟨#[120]⟩ t.i ++ Zb2 ⟨#[121]⟩ t.j with _ | ⟨y, l⟩
   ·
    exfalso
    obtain ⟨e1, e2⟩ := List.append_eq_nil_iff.1 hl
    exact h0 (by rw [Zh0.1 e1, Zh0.1 e2])
   · rw [List.map_cons, List.map_cons, Qb7]; simp
def sgB (t : Tm) : List UInt8 := if t.c.num.sign < 0 then [32, 45, 32] else [32, 43, 32]
def tlB : List Tm → List UInt8
 | [] => []
 | t :: p => sgB t ++ (Zhn t ++ tlB p)
def fuB : List Tm → List UInt8
 | [] => []
 | t :: p => (if t.c.num.sign < 0 then [45] else []) ++ (Zhn t ++ tlB p)
theorem Zq0 (t : Tm) : ∀ p : List Tm, tlB (p ++ [t]) = tlB p ++ (sgB t ++ Zhn t)
 | [] => by simp [tlB]
 | s :: p => by rw [List.cons_append, tlB, Zq0 t p, tlB]; simp
theorem Zsf (t : Tm) (s : Tm) (p : List Tm) : fuB (s :: p ++ [t]) = fuB (s :: p) ++ (sgB t ++ Zhn t) := by
 rw [List.cons_append, fuB, Zq0, fuB]; simp
theorem txP_B (p : List Tm) : ∀ k, k ≤ p.length → (txP Gj p k).data.toList = fuB (p.take k)
 | 0, _ => rfl
 | k + 1, hk => by
  have ih := txP_B p k oo
  have ht := tmTx_B (p.getD k T0)
  rw [txP, ByteArray.data_append, Array.toList_append, ht, take_snoc p (show k < p.length by omega)]
  rcases hp : p.take k with _ | ⟨s, r⟩
  ·
   have hk0 : k = 0 := by
    have := congrArg List.length hp
    rw [List.length_take, List.length_nil] at this; omega
   subst hk0
   show _ = fuB [p.getD 0 T0]
   rw [fuB, tlB, List.append_nil]
   congr 1
   rw [show decide (0 = 0) = true from rfl]
   by_cases hs : (p.getD 0 T0).c.num.sign < 0
   · rw [decide_eq_true hs, if_pos hs]; rfl
   · rw [decide_eq_false hs, if_neg hs]; rfl
  ·
   have hk0 : k ≠ 0 := fun e => by subst e; simp at hp
   rw [hp] at ih
   rw [Zsf, ← ih, decide_eq_false hk0, ← List.append_assoc]
   congr 1
   unfold sgB
   by_cases hs : (p.getD k T0).c.num.sign < 0
   · rw [decide_eq_true hs, if_pos hs, Qbl, ByteArray.data_append, Array.toList_append]
   · rw [decide_eq_false hs, if_neg hs, Qbl, ByteArray.data_append, Array.toList_append]
theorem Qdk (p : List Tm) : (Zkc Gj p).data.toList = if fuB p = [] then [48] else fuB p := by
 have h := txP_B p p.length (Nat.le_refl _)
 rw [List.take_length] at h
 unfold Zkc
 by_cases h0 : fuB p = []
 · rw [if_pos h0, if_pos (by apply ByteArray.ext; apply Array.ext'; rw [h, h0])]
 · rw [if_neg h0, if_neg (fun e => h0 (by rw [← h, e])), h]
def OkD (t : Tm) : Prop := t.i < 4 ∧ t.j < 4 ∧ t.c ≠ 0
theorem Zo2 {t : Tm} (h : OkD t) : Zhn t ≠ [] ∧ ∀ b w, Zhn t = b :: w → isN b ∨ b = 120 ∨ b = 121 := by
 obtain ⟨l1, l2, l3⟩ := Ziv t.i h.1 t.j h.2.1
 unfold Zhn
 split
 ·
  rename_i h1
  refine ⟨fun e => h1.2 (l2.1 e), fun b w e => .inr (l3 b (by rw [e]; rfl))⟩
 ·
  refine ⟨fun e => Zpj _ (List.append_eq_nil_iff.1 e).1, fun b w e => .inl ?_⟩
  rcases hq : qB (ab t.c) with _ | ⟨x, r⟩
  · exact absurd hq (Zpj _)
  ·
   rw [hq] at e
   rw [← (List.cons.inj e).1]
   exact qB_N (ab t.c) x (by rw [hq]; exact List.mem_cons_self)
theorem Zvw {t : Tm} (h : OkD t) : ∀ b ∈ Zhn t, b ≠ 32 := fun b hb => by
 obtain ⟨l1, l2, l3⟩ := Ziv t.i h.1 t.j h.2.1
 have hN : ∀ b, isN b → b ≠ 32 := fun b h e => by subst e; unfold isN at h; exact absurd h dd
 unfold Zhn at hb
 split at hb
 · exact l1 b hb
 ·
  rcases List.mem_append.1 hb with hb | hb
  · exact hN b (qB_N _ b hb)
  ·
   split at hb
   · cases hb
   ·
    rcases List.mem_cons.1 hb with rfl | hb
    · decide
    · exact l1 b hb
theorem Qdm {s t : Tm} (hs : OkD s) (ht : OkD t) (h : Zhn s = Zhn t) : s.i = t.i ∧ s.j = t.j ∧ ab s.c = ab t.c := by
 obtain ⟨a1, a2, a3⟩ := Ziv s.i hs.1 s.j hs.2.1
 obtain ⟨b1, b2, b3⟩ := Ziv t.i ht.1 t.j ht.2.1
 have n1 : 0 ≤ (ab s.c).num := by rw [(Zbn s.c).1]; omega
 have n2 : 0 ≤ (ab t.c).num := by rw [(Zbn t.c).1]; omega
 have hN : ∀ b : UInt8, (b = 120 ∨ b = 121) → ¬ isN b := fun b h hn => by
  rcases h with rfl | rfl <;> (unfold isN at hn; exact absurd hn dd)
 have hL : ∀ (i j : Nat) (b : UInt8) (w : List UInt8), (∀ b, (ltB i j).head? = some b → b = 120 ∨ b = 121) → ltB i j = b :: w → ¬ isN b := fun i j b w h3 e => hN b (h3 b (by rw [e]; rfl))
 have hS : ∀ (i j : Nat) (b : UInt8) (w : List UInt8), (if i + j = 0 then [] else 42 :: ltB i j) = b :: w → ¬ isN b := fun i j b w e hn => by
  split at e
  · cases e
  · rw [← (List.cons.inj e).1] at hn; unfold isN at hn; exact absurd hn dd
 unfold Zhn at h
 by_cases h1 : ab s.c = ((1 : Int) : Rat) ∧ s.i + s.j ≠ 0
 ·
  by_cases h2 : ab t.c = ((1 : Int) : Rat) ∧ t.i + t.j ≠ 0
  ·
   rw [if_pos h1, if_pos h2] at h
   obtain ⟨e1, e2⟩ := Zxk s.i hs.1 s.j hs.2.1 t.i ht.1 t.j ht.2.1 h
   exact ⟨e1, e2, by rw [h1.1, h2.1]⟩
  ·
   rw [if_pos h1, if_neg h2] at h
   have := Zbt (C := isN) (u := []) (v := ltB s.i s.j) (fun _ h => nomatch h) (qB_N (ab t.c)) (fun b w e => hL s.i s.j b w a3 e) (fun b w e => hS t.i t.j b w e) h
   exact absurd this.1.symm (Zpj _)
 ·
  by_cases h2 : ab t.c = ((1 : Int) : Rat) ∧ t.i + t.j ≠ 0
  ·
   rw [if_neg h1, if_pos h2] at h
   have := Zbt (C := isN) (u' := []) (v' := ltB t.i t.j) (qB_N (ab s.c)) (fun _ h => nomatch h) (fun b w e => hS s.i s.j b w e) (fun b w e => hL t.i t.j b w b3 e) h
   exact absurd this.1 (Zpj _)
  ·
   rw [if_neg h1, if_neg h2] at h
   obtain ⟨h3, h4⟩ := Zbt (C := isN) (qB_N (ab s.c)) (qB_N (ab t.c)) (fun b w e => hS s.i s.j b w e) (fun b w e => hS t.i t.j b w e) h
   have hc := Zws n1 n2 h3
   by_cases z1 : s.i + s.j = 0
   ·
    by_cases z2 : t.i + t.j = 0
    · exact ⟨oo, oo, hc⟩
    · rw [if_pos z1, if_neg z2] at h4; cases h4
   ·
    by_cases z2 : t.i + t.j = 0
    · rw [if_neg z1, if_pos z2] at h4; cases h4
    ·
     rw [if_neg z1, if_neg z2] at h4
     obtain ⟨e1, e2⟩ := Zxk s.i hs.1 s.j hs.2.1 t.i ht.1 t.j ht.2.1 (List.cons.inj h4).2
     exact ⟨e1, e2, hc⟩
theorem Zhu (c : Rat) : c.num.sign < 0 ↔ c < 0 := by
 have h1 := @Rat.num_nonneg c
 have h2 : c.num.sign < 0 ↔ c.num < 0 := by
  rcases Int.lt_trichotomy c.num 0 with h | h | h
  · rw [Int.sign_eq_neg_one_of_neg h]; omega
  · rw [h]; decide
  · rw [Int.sign_eq_one_of_pos h]; omega
 rw [h2]
 constructor
 ·
  intro h; have : ¬ 0 ≤ c := fun h3 => by rw [← h1] at h3; omega
  grind
 ·
  intro h; have : ¬ 0 ≤ c.num := fun h3 => by rw [h1] at h3; grind
  omega
theorem Zzi {x y : Rat} (h : ab x = ab y) (hs : x.num.sign < 0 ↔ y.num.sign < 0) : x = y := by
 rw [Zhu, Zhu] at hs
 unfold ab at h
 by_cases h1 : x < 0
 · rw [if_pos h1, if_pos (hs.1 h1)] at h; grind
 · rw [if_neg h1, if_neg (fun h2 => h1 (hs.2 h2))] at h; exact h
theorem Zih {p : List Tm} : ∀ b w, tlB p = b :: w → ¬ (b ≠ 32) := fun b w e => by
 rcases p with _ | ⟨t, p⟩
 · cases e
 ·
  rw [tlB] at e; unfold sgB at e
  split at e <;> (intro hb; exact hb (List.cons.inj e).1.symm)
theorem Qdo : ∀ {p q : List Tm}, (∀ t ∈ p, OkD t) → (∀ t ∈ q, OkD t) → tlB p = tlB q → p = q
 | [], [], _, _, _ => rfl
 | [], t :: q, _, _, h => by rw [tlB, tlB] at h; unfold sgB at h; split at h <;> cases h
 | s :: p, [], _, _, h => by rw [tlB, tlB] at h; unfold sgB at h; split at h <;> cases h
 | s :: p, t :: q, hp, hq, h => by
  rw [tlB, tlB] at h
  have hsl : (sgB s).length = (sgB t).length := by unfold sgB; split <;> split <;> rfl
  obtain ⟨h1, h2⟩ := List.append_inj h hsl
  obtain ⟨h3, h4⟩ := Zbt (C := fun b => b ≠ 32) (Zvw (hp s List.mem_cons_self)) (Zvw (hq t List.mem_cons_self)) Zih Zih h2
  obtain ⟨e1, e2, e3⟩ := Qdm (hp s List.mem_cons_self) (hq t List.mem_cons_self) h3
  have e4 := Zzi e3 (by
   unfold sgB at h1
   split at h1 <;> split at h1 <;> first | (constructor <;> intro <;> assumption) | (constructor <;> intro hh <;> contradiction) | (simp at h1))
  rw [Tm.ext' e1 e2 e4, Qdo (fun u hu => hp u (List.mem_cons_of_mem _ hu)) (fun u hu => hq u (List.mem_cons_of_mem _ hu)) h4]
theorem Zuw {t : Tm} {p : List Tm} (h : OkD t) : fuB (t :: p) ≠ [] := fun e => by
 rw [fuB] at e
 exact (Zo2 h).1 (List.append_eq_nil_iff.1 (List.append_eq_nil_iff.1 e).2).1
theorem fu_48 {t : Tm} {p : List Tm} (h : OkD t) : fuB (t :: p) ≠ [48] := fun e => by
 rw [fuB] at e
 split at e
 · cases e
 ·
  rw [List.nil_append] at e
  obtain ⟨e1, e2⟩ := Zbt (C := fun b => b ≠ 32) (u' := [48]) (v' := []) (Zvw h) (fun b hb => by rw [List.mem_singleton.1 hb]; decide) Zih (fun _ _ h => nomatch h) (by rw [e]; rfl)
  unfold Zhn at e1
  obtain ⟨l1, l2, l3⟩ := Ziv t.i h.1 t.j h.2.1
  split at e1
  · rcases l3 48 (by rw [e1]; rfl) with h | h <;> exact absurd h dd
  ·
   split at e1
   ·
    rw [List.append_nil] at e1
    have e0 : qB 0 = [48] := by decide +kernel
    have := Zws (by rw [(Zbn t.c).1]; omega) dd (e1.trans e0.symm)
    have h3 := h.2.2
    unfold ab at this
    split at this <;> grind
   ·
    have := congrArg List.length e1
    have h4 := List.length_pos_iff.2 (Zpj (ab t.c))
    simp only [List.length_append, List.length_cons, List.length_nil] at this; omega
theorem fu_inj : ∀ {p q : List Tm}, (∀ t ∈ p, OkD t) → (∀ t ∈ q, OkD t) → fuB p = fuB q → p = q
 | [], [], _, _, _ => rfl
 | [], t :: q, _, hq, h => absurd h.symm (Zuw (hq t List.mem_cons_self))
 | s :: p, [], hp, _, h => absurd h (Zuw (hp s List.mem_cons_self))
 | s :: p, t :: q, hp, hq, h => by
  have ks := hp s List.mem_cons_self
  have kt := hq t List.mem_cons_self
  have hneg : ∀ {u : Tm} {w v : List UInt8}, OkD u → 45 :: w = Zhn u ++ v → False := fun {u w v} hu e => by
   rcases hm : Zhn u with _ | ⟨b, r⟩
   · exact (Zo2 hu).1 hm
   ·
    rw [hm] at e
    have hb := (List.cons.inj e).1
    rcases (Zo2 hu).2 b r hm with h | h | h
    · rw [← hb] at h; unfold isN at h; exact absurd h dd
    · rw [← hb] at h; exact absurd h dd
    · rw [← hb] at h; exact absurd h dd
  rw [fuB, fuB] at h
  have key : Zhn s ++ tlB p = Zhn t ++ tlB q ∧ (s.c.num.sign < 0 ↔ t.c.num.sign < 0) := by
   by_cases h1 : s.c.num.sign < 0
   ·
    by_cases h2 : t.c.num.sign < 0
    · rw [if_pos h1, if_pos h2] at h; exact ⟨(List.cons.inj h).2, by constructor <;> intro <;> assumption⟩
    · rw [if_pos h1, if_neg h2] at h; exact (hneg kt h).elim
   ·
    by_cases h2 : t.c.num.sign < 0
    · rw [if_neg h1, if_pos h2] at h; exact (hneg ks h.symm).elim
    · rw [if_neg h1, if_neg h2] at h; exact ⟨h, by constructor <;> intro <;> contradiction⟩
  obtain ⟨h3, h4⟩ := Zbt (C := fun b => b ≠ 32) (Zvw ks) (Zvw kt) Zih Zih key.1
  obtain ⟨e1, e2, e3⟩ := Qdm ks kt h3
  rw [Tm.ext' e1 e2 (Zzi e3 key.2), Qdo (fun u hu => hp u (List.mem_cons_of_mem _ hu)) (fun u hu => hq u (List.mem_cons_of_mem _ hu)) h4]
theorem Qe9 {p q : List Tm} (hp : ∀ t ∈ p, OkD t) (hq : ∀ t ∈ q, OkD t) : Zkc Gj p = Zkc Gj q ↔ p = q := by
 refine ⟨fun h => ?_, fun h => by rw [h]⟩
 have h1 := congrArg (fun b : ByteArray => b.data.toList) h
 simp only [Qdk] at h1
 rcases p with _ | ⟨s, p⟩
 ·
  rcases q with _ | ⟨t, q⟩
  · rfl
  ·
   rw [if_pos (show fuB [] = [] from rfl), if_neg (Zuw (hq t List.mem_cons_self))] at h1
   exact absurd h1.symm (fu_48 (hq t List.mem_cons_self))
 ·
  rcases q with _ | ⟨t, q⟩
  ·
   rw [if_neg (Zuw (hp s List.mem_cons_self)), if_pos (show fuB [] = [] from rfl)] at h1
   exact absurd h1 (fu_48 (hp s List.mem_cons_self))
  ·
   rw [if_neg (Zuw (hp s List.mem_cons_self)), if_neg (Zuw (hq t List.mem_cons_self))] at h1
   exact fu_inj hp hq h1
end
section
theorem Qh0 (p q : List Tm) (ada adb : Option Addr) (ca cb : Nat) (hp : p.length ≤ 1000000) (hq : q.length ≤ 1000000) : Vj Tryz.prog 27 [.slice ada p.length ca, .slice adb q.length cb] [Row ada (cellsOf Zp p), Row adb (cellsOf Zp q)] (.bool (decide (p = q))) := by
 refine fn_intro func27 rfl ntmps27 nb ?_
 intro S w0 a hS h
 refine gC h (zS (za rfl (zn (zs (zS (zm rfl (zp (.builtin [_] rfl (Zk _ _ _)) (zm rfl (zp (.builtin [_] rfl (Zk _ _ _)) (zp (.neq rfl rfl) (zn ?_))))))))))); clear h; intro a w h
 refine cW ?_
 refine Zb h rfl (fun hc10 => ?_) (fun hc10 => ?_)
 ·
  skip
  have hne : p.length ≠ q.length := Zxe hc10
  refine gC h (zS (za rfl (zn (zt ?_)))); clear h; intro a w h
  refine Jm h (Zc h rfl (.tmp rfl)) ?_
  rw [decide_eq_false (fun e => hne (by rw [e]))]
 ·
  skip
  have hle : p.length = q.length := Zud hc10
  refine gC h (zk (zs (zS (za rfl (zn (zb ?_)))))); clear h; intro a w h
  refine Zf (fun (i : Nat) a w => i ≤ p.length ∧ (∀ k, k < i → p.getD k T0 = q.getD k T0) ∧ St 26 S w0 [(0, .slice ada p.length ca), (1, .slice adb q.length cb), (5, nI i)] [] [Row ada (cellsOf Zp p), Row adb (cellsOf Zp q)] a w) (fun i => p.length - i) 0 (⟨Nat.zero_le _, fun k hk => absurd hk (Nat.not_lt_zero _), by exact (h).sub sA⟩) ?_; clear h
  rintro i a w ⟨hi_i, hinv_i, h⟩
  refine gC h (zs (zS (zm rfl (zm rfl (zp (.builtin [_] rfl (Zk _ _ _)) (zp (.lss rfl rfl) (zn ?_))))))); clear h; intro a w h
  refine cW ?_
  refine Zb h rfl (fun hc14 => ?_) (fun hc14 => ?_)
  ·
   skip
   have hlt_i : i < p.length := dT hc14
   have hqi : q.length ≠ 0 := oo
   obtain ⟨B_ada, O_ada, rfl⟩ := h.row_addr (ad := ada) (M := cellsOf Zp p) mm (nE 7)
   obtain ⟨B_adb, O_adb, rfl⟩ := h.row_addr (ad := adb) (M := cellsOf Zp q) mm (nE 7)
   refine gC h (zk (zs (zb (zs (yD Za [0, 1, 2, 3, 4, 5, 6, 7, 8] (Zd kk) (ym rfl rfl (ym rfl rfl (yp rfl (.indexAddr rfl rfl (Zao _ _ _ _ _ oo)) ?_)))))))); clear h
   refine Zm rfl kk rfl mm (cells_lt (k := 7) dd (fun _ => rfl) p i oo) isAgg117 sizeOf117 (Zr (k := 7) (fun _ => rfl) ((fun _ => rfl)) p T0 i oo) (.inl rfl) dd ?_
   refine ym rfl rfl (ym rfl rfl (yp rfl (.indexAddr rfl rfl (Zao _ _ _ _ _ oo)) ?_))
   refine Zm rfl kk rfl mm (cells_lt (k := 7) dd (fun _ => rfl) q i oo) isAgg117 sizeOf117 (Zr (k := 7) (fun _ => rfl) ((fun _ => rfl)) q T0 i oo) (.inl rfl) dd ?_
   refine yp rfl (.binOp rfl rfl (fun _ => Zwd _ _ (p.getD i T0) (q.getD i T0) _)) (yn ?_); intro a w h
   refine cW ?_
   refine Zb h rfl (fun hc25 => ?_) (fun hc25 => ?_)
   ·
    skip
    have hbad : ¬ p.getD i T0 = q.getD i T0 := of_decide_eq_false (by simpa using hc25)
    refine gC h (zS (za rfl (zn (zt ?_)))); clear h; intro a w h
    refine Jm h (Zc h rfl (.tmp rfl)) ?_
    rw [decide_eq_false (fun e => hbad (by rw [e]))]
   ·
    skip
    have hgood : p.getD i T0 = q.getD i T0 := of_decide_eq_true (by simpa using hc25)
    refine gC h (zk (zr (zm rfl (zp (.pN (i + 1) (.add rfl rfl)) (za rfl (zn ?_)))))); clear h; intro a w h
    exact ⟨i + 1, ⟨oo, fun k hk => by rcases Nat.lt_or_ge k i with h | h; exact hinv_i k h; rw [show k = i by omega]; exact hgood, (h.factsSub (by simp)).sub sA⟩, oo⟩
  ·
   skip
   have heq_i : p.length = i := dF hc14
   subst heq_i
   refine gC h (ze (zS (za rfl (zn (zt ?_))))); clear h; intro a w h
   refine Jm h (Zc h rfl (.tmp rfl)) ?_
   rw [decide_eq_true (Qd3 hle hinv_i)]
theorem ok_c {t : Tm} (h : t.c ≠ 0) (hc : (t.c.num.sign == 0) = true) : False := by
 rw [beq_iff_eq, Int.sign_eq_zero_iff_zero] at hc
 exact h (Rat.num_eq_zero.1 hc)
theorem Zxc {p : List Tm} (h : Nrm p) {i : Nat} (h0 : 0 < i) (hi : i < p.length) : Zor (p.getD (i - 1) T0) (p.getD i T0) < 0 := by
 rw [Zir]
 have := List.pairwise_iff_getElem.1 h.2 (i - 1) i oo hi oo
 simpa [List.getD, hi, show i - 1 < p.length by omega] using this
theorem C_OkN (p : List Tm) (ad : Option Addr) (c : Nat) (hN : Nrm p) (hd : DL 12 p) (hn : p.length ≤ 100000) : Vj Tryz.prog 26 [.slice ad p.length c] [Row ad (cellsOf Zp p)] (.bool true) := by
 refine fn_intro func26 rfl ntmps26 nb ?_
 intro S w0 a hS h
 refine gC h (zS (za rfl (zn (zs (zS (zm rfl (zp (.builtin [_] rfl (Zk _ _ _)) (zm rfl (zn (zb ?_)))))))))); clear h; intro a w h
 refine Zf (fun (i : Nat) a w => i ≤ p.length ∧ St 36 S w0 [(0, .slice ad p.length c), (5, .slice ad p.length c), (6, nI p.length), (7, nI i)] [] [Row ad (cellsOf Zp p)] a w) (fun i => p.length - i) 0 (⟨Nat.zero_le _, by exact (h).sub sA⟩) ?_; clear h
 rintro i a w ⟨hi_i, h⟩
 refine gC h (zS (zp (.lss rfl rfl) (zn (zs ?_)))); clear h; intro a w h
 refine Zb h rfl (fun hc8 => ?_) (fun hc8 => ?_)
 ·
  skip
  have hlt_i : i < p.length := dT hc8
  obtain ⟨B_ad, O_ad, rfl⟩ := h.row_addr (ad := ad) (M := cellsOf Zp p) mm (nE 7)
  have hmem := getD_mem p (d := T0) hlt_i
  have hdg := hd _ hmem
  refine gC h (zk (zs (zb (zS (zm rfl (zp (.indexAddr rfl rfl (Zao _ _ _ _ _ oo)) (zD rfl mm (cells_lt (k := 7) dd (fun _ => rfl) p i oo) isAgg117 sizeOf117 (Zr (k := 7) (fun _ => rfl) ((fun _ => rfl)) p T0 i oo) (.inl rfl) ?_)))))))
  refine zz Gz fun b4 => za rfl (zt' rfl rfl Xp uu sizeOf117 rfl nb rfl ?_)
  refine zn (zs (yD Za [0, 1, 2, 3, 4, 5, 6, 7, 8, 9, 10, 11, 12, 13, 14, 15, 16, 17, 18, 19, 20, 21, 22] (Zd kk) (yd rfl rfl mr isAgg117 sizeOf117 Vu ?_)))
  refine yv [_] rfl rfl call80 (C_may (p.getD i T0) oo) (yp rfl (.neq rfl rfl) ?_)
  refine Zt (fun hc14  => (absurd hc14 dd)) (fun hc14  => ?_)
  refine ym rfl rfl (yq rfl rfl rfl (.fA rfl Xz) (yg rfl rfl rfl rfl mr isAgg44 sizeOf44 Vh ?_))
  refine Jp rfl rfl rfl kk (vs := [_]) rfl call83 (Zha _) dd ?_
  refine yq rfl rfl rfl (.eql rfl rfl) ?_
  refine Zt (fun hc19  => (by exfalso; exact ok_c (hN.1 _ hmem) hc19)) (fun hc19  => ?_)
  refine yp rfl (.pickF rfl rfl) (ym rfl rfl (yq rfl rfl rfl (.move rfl) (yq rfl rfl rfl (.gtr rfl rfl) ?_)))
  refine Zt (fun hc23  => ?_) (fun hc23  => ?_)
  focus
   have h0i : 0 < i := dT hc23
   have hdg2 := hd _ (getD_mem p (d := T0) (show i - 1 < p.length by omega))
   refine yq rfl rfl rfl (.move rfl) (yq rfl rfl rfl (.move rfl) (yq rfl rfl rfl (.move rfl) (yq rfl rfl rfl (.pO (i - 1) (.sub rfl rfl)) (yq rfl rfl rfl (.indexAddr rfl rfl (Zao _ _ _ _ _ oo)) ?_))))
   refine Kr rfl rfl rfl kk rfl mm (cells_lt (k := 7) dd (fun _ => rfl) p (i - 1) oo) isAgg117 sizeOf117 (Zr (k := 7) (fun _ => rfl) ((fun _ => rfl)) p T0 (i - 1) oo) (.inl rfl) dd ?_
   refine yg rfl rfl rfl rfl mr isAgg117 sizeOf117 Vu ?_
   refine Jp rfl rfl rfl kk (vs := [_, _]) rfl call90 (Zmf (p.getD (i - 1) T0) (p.getD i T0) oo oo) dd ?_
   refine yq rfl rfl rfl (.geq rfl rfl) ?_
   refine Zt (fun hc32  => (by exfalso; have h8 := of_decide_eq_true hc32; have h9 := Zxc hN h0i hlt_i; omega)) (fun hc32  => ?_)
   refine yq rfl rfl rfl (.pickT rfl rfl) (yp rfl (.pickF rfl rfl) (yn ?_)); intro a w h
  rotate_left
  focus
   refine yq rfl rfl rfl (.move rfl) (yo 24 rfl rfl rfl rfl (yo 24 rfl rfl rfl rfl (yo 24 rfl rfl rfl rfl (yo 24 rfl rfl rfl rfl (yo 24 rfl rfl rfl rfl (yo 24 rfl rfl rfl rfl (yo 24 rfl rfl rfl rfl (yo 24 rfl rfl rfl rfl (yq rfl rfl rfl (.pickF rfl rfl) (yp rfl (.pickF rfl rfl) (yn ?_))))))))))); intro a w h
  all_goals
   refine cW ?_
   refine Zj h rfl ?_
   refine gC h (zk (zr (zp (.pN (i + 1) (.add rfl rfl)) (zm rfl (zn ?_))))); clear h; intro a w h
   exact ⟨i + 1, ⟨oo, ((h.drop sl).factsSub (by simp)).sub sA⟩, oo⟩
 ·
  skip
  have heq_i : p.length = i := dF hc8
  subst heq_i
  refine gC h (ze (zS (za rfl (zn (zt ?_))))); clear h; intro a w h
  exact Zbw h
theorem Qfa {d K : Nat} {p : List Tm} (hq : Pq d K p) : ∀ t ∈ norm p, (Gj (ab t.c)).size ≤ 20 * K + 10 := fun t ht => by
 have h := hq.nsz t ht
 refine Zgl _ ?_
 unfold Qc Zat at *
 rw [(Zbn t.c).1, (Zbn t.c).2]; exact h
theorem tx_ctr {d K : Nat} {p : List Tm} (hq : Pq d K p) (hK : K ≤ 300000) : ∀ t ∈ norm p, Vj Tryz.prog 55 [Jo (ab t.c)] [TabF] (.string (Gj (ab t.c))) := fun t ht => Ztn (ab t.c) (by
 have h := hq.nsz t ht
 unfold Qc Zat at *
 rw [(Zbn t.c).1, (Zbn t.c).2]; exact Nat.le_trans h hK)
theorem Zmi (p : List Tm) (ad : Option Addr) (c d K : Nat) (hq : Pq d K p) (hd : d ≤ 12) (hK : K ≤ 300000) : Vj Tryz.prog 21 [.slice ad p.length c] [Row ad (cellsOf Zp p), TabF] (.string (Zkc Gj (norm p))) :=
 Ztp p ad c d K (20 * K + 10) [TabF] Gj hq hd oo (tx_ctr hq hK) (Qfa hq) oo oo
theorem Qdz {K : Nat} {p : List Tm} (hN : Nrm p) (h : Pq 3 K p) : ∀ t ∈ p, OkD t := fun t ht => ⟨by have := h.deg t ht; omega, by have := h.deg t ht; omega, hN.1 t ht⟩
theorem Qfb {K : Nat} {p q : List Tm} (hp : Nrm p) (hq : Nrm q) (h1 : Pq 3 K p) (h2 : Pq 3 K q) (hc : (decide (Zkc Gj (norm p) = Zkc Gj (norm q)) != decide (norm p = norm q)) = true) : False := by
 rw [Xr hp, Xr hq] at hc
 have h := Qe9 (Qdz hp h1) (Qdz hq h2)
 simp only [h] at hc
 simp at hc
theorem tx_sub {p q : List Tm} (hp : Nrm p) (hq : Nrm q) (hc : ((((norm (p ++ Zs ((-1 : Int) : Rat) q)).length : Int) == 0) != decide (norm p = norm q)) = true) : False := by
 have key : norm (p ++ Zs ((-1 : Int) : Rat) q) = [] ↔ norm p = norm q := by
  constructor
  ·
   intro h
   refine Yt (fun x y => ?_)
   have h1 := Kk (p ++ Zs ((-1 : Int) : Rat) q) x y
   rw [h, Xa, Gw, neg1, Zyf] at h1
   grind
  ·
   intro h
   have h0 : norm (p ++ Zs ((-1 : Int) : Rat) q) = norm [] := Yt (fun x y => by
    rw [Xa, Gw, neg1, Zyf, ← Kk p, h, Kk q]; grind)
   rw [h0]; exact Qw
 by_cases h : norm p = norm q
 · rw [decide_eq_true h, key.2 h] at hc; exact absurd hc dd
 ·
  rw [decide_eq_false h] at hc
  have h1 : (norm (p ++ Zs ((-1 : Int) : Rat) q)).length ≠ 0 := fun e => h (key.1 (List.eq_nil_of_length_eq_zero e))
  have h2 : (((norm (p ++ Zs ((-1 : Int) : Rat) q)).length : Int) == 0) = false := by rw [beq_eq_false_iff_ne]; omega
  rw [h2] at hc; exact absurd hc dd
theorem Qau {p q : List Tm} (hp : Nrm p) (hq : Nrm q) (hc : (decide (norm p = norm q) != decide (p = q)) = true) : False := by
 rw [Xr hp, Xr hq] at hc; simp at hc
theorem Qd0 {l G : List Tm} (h : norm l = G) : Nrm G := h ▸ Qr l
theorem Zok (l m : List Ti) (ad ad2 : Option Addr) (c c2 : Nat) (hokl : ∀ t ∈ l, OkT t) (hokm : ∀ t ∈ m, OkT t) (hln : l.length ≤ 9223372036854775807) (hmn : m.length ≤ 9223372036854775807) (n : Nat) (hn : n < 256) : Vj Tryz.prog 42 [.slice ad l.length c, .slice ad2 m.length c2, .int .u8 ((n : Nat) : Int)] [Row ad (cellsOf Jq l), Row ad2 (cellsOf Jq m), TabF] (.bool true) := by
 obtain ⟨r, hr⟩ : ∃ r, n % 5 = r := ⟨_, rfl⟩
 have hr4 : r ≤ 4 := oo
 refine fn_intro func42 rfl ntmps42 nb ?_
 intro S w0 a hS h
 refine gC h (zS (za rfl (zn (zs (zS (zm rfl (zp (.builtin [_] rfl (Qz _ _ _)) (zp (.gtr rfl rfl) ?_)))))))); clear h; intro a w h
 refine Zg h (fun hc16 h => ?_) (fun hc16 h => ?_)
 focus
  refine gL h (zm rfl (zo 17 rfl rfl rfl (zo 17 rfl rfl rfl (zo 17 rfl rfl rfl (zp (.pickT rfl rfl) (zn ?_)))))); clear h; intro a w h
 rotate_left
 focus
  refine gL h (zm rfl (zq 17 rfl rfl (.move rfl) (zq 17 rfl rfl (.builtin [_] rfl (Qz _ _ _)) (zq 17 rfl rfl (.gtr rfl rfl) ?_)))); clear h; intro a w h
  refine Zg h (fun hc20 h => ?_) (fun hc20 h => ?_)
  rotate_left
  ·
   skip
   have hll : l.length ≤ 8 := dF hc16
   have hml : m.length ≤ 8 := dF hc20
   have hgx := Zd2 (d := 3) hokl hll dd dd
   have hgy := Zd2 (d := 3) hokm hml dd dd
   refine gL h (zp (.pickF rfl rfl) (zn ?_)); clear h; intro a w h
   refine cW ?_
   refine Zj h rfl ?_
   refine gC h (zk (zS (zm rfl (zf [_, _] rfl call96 (Zhm l _ _ 3 8 (by assumption) oo oo) ?_)))); rintro v24 Ψ24 ⟨ad24, c24, rfl, rfl⟩
   refine zm rfl (zf [_, _] rfl call96 (Zhm m _ _ 3 8 (by assumption) oo oo) ?_); rintro v26 Ψ26 ⟨ad26, c26, rfl, rfl⟩ a w h
   obtain ⟨G, hnG⟩ : ∃ G, norm (Yl 3 l) = G := ⟨_, rfl⟩
   rw [hnG] at h hgx
   obtain ⟨H, hnH⟩ : ∃ G, norm (Yl 3 m) = G := ⟨_, rfl⟩
   rw [hnH] at h hgy
   have hNG := Qd0 hnG
   have hNH := Qd0 hnH
   refine gL h (za rfl (za rfl (zn (zS (zm rfl (zm rfl (zw [_, _] rfl call25 (Vs G H _ _ _ _ 3 3 41 41 hgx hgy dd dd dd dd) (za rfl (zn (zs (zS (zm rfl (zw [_] rfl call21 (Zmi G _ _ 3 41 hgx dd dd) (zm rfl (zw [_] rfl call21 (Zmi H _ _ 3 41 hgy dd dd) (zp (.binOp rfl rfl (fun _ => Xf _ _ _ _ _)) (zm rfl (zp (.binOp rfl rfl (fun _ => Zax _ underlying4 _ _ _ _)) ?_)))))))))))))))))); clear h; intro a w h
   refine Zg h (fun hc36 h => (by exfalso; exact Qfb hNG hNH hgx hgy hc36)) (fun hc36 h => ?_)
   refine gL h (zm rfl (zq 37 rfl rfl (.move rfl) (zq 37 rfl rfl (.move rfl) ?_))); clear h; intro a w h
   refine Ze 37 h rfl rfl (Xj h (vs := [_, _]) rfl call74 (Zjw G H _ _ _ _ 3 3 41 41 hgx hgy dd dd dd dd) ss dd ?_); clear h; rintro v40 Ψ40 a w ⟨ad40, c40, rfl, rfl⟩ h
   refine gL h (zq 37 rfl rfl (.builtin [_] rfl (Zk _ _ _)) (zq 37 rfl rfl (.eql rfl rfl) (zq 37 rfl rfl (.move rfl) (zq 37 rfl rfl (.binOp rfl rfl (fun _ => Zax _ underlying4 _ _ _ _)) ?_)))); clear h; intro a w h
   refine Zg h (fun hc44 h => (by exfalso; exact tx_sub hNG hNH hc44)) (fun hc44 h => ?_)
   refine gL h (zp (.pickF rfl rfl) (zm rfl (zq 46 rfl rfl (.move rfl) ?_))); clear h; intro a w h
   refine Ze 46 h rfl rfl (Qb h (vs := [_]) rfl call26 (C_OkN G _ _ hNG (hgx.deg.mono dd) (by have := hgx.len; omega)) ss dd ?_); clear h; intro a w h
   refine gL h (zq 46 rfl rfl (.unOp rfl (Xe _)) ?_); clear h; intro a w h
   refine Zg h (fun hc49 h => (by exfalso; cases hc49)) (fun hc49 h => ?_)
   refine gL h (zp (.pickF rfl rfl) (zm rfl (zq 51 rfl rfl (.move rfl) (zq 51 rfl rfl (.move rfl) (zq 51 rfl rfl (.move rfl) ?_))))); clear h; intro a w h
   refine Ze 51 h rfl rfl (Qb h (vs := [_, _]) rfl call27 (Qh0 G H _ _ _ _ (by have := hgx.len; omega) (by have := hgy.len; omega)) ss dd ?_); clear h; intro a w h
   refine gL h (zq 51 rfl rfl (.binOp rfl rfl (fun _ => Zax _ underlying4 _ _ _ _)) ?_); clear h; intro a w h
   refine Zg h (fun hc56 h => (by exfalso; exact Qau hNG hNH hc56)) (fun hc56 h => ?_)
   refine gL h (zp (.pickF rfl rfl) (zn ?_)); clear h; intro a w h
   refine cW ?_
   refine Zj h rfl ?_
   refine gC h (zk (zS (zm rfl (zm rfl (zp (Pure1.cast (v' := .int .u8 ((r : Nat) : Int)) (.binOp rfl rfl (fun _ => Vg _ _ _ _ _ dd)) (by rw [show (5 : Int) = ((5 : Nat) : Int) from rfl, Yg, hr])) (zp (.convert rfl (Zqc _ (wrap_i64 _ oo oo))) (zf [_, _] rfl call75 (Qaf G _ _ 3 41 hgx r oo dd oo oo dd) ?_))))))); rintro v63 Ψ63 ⟨ad63, c63, rfl, rfl⟩
   refine zm rfl (zp (.eX rfl) (zp (.eX rfl) (za rfl (za rfl (zn (zS (zv [_] rfl call45 (Vw _ oo oo) ?_)))))))
   have hl66 := Zw (1) oo oo
   refine zf [_] rfl call44 (Ze1 ((1 : Int) : Rat) 2 (Zw 1 dd dd) dd) ?_; rintro v67 Ψ67 ⟨ad67, c67, rfl, rfl⟩
   refine za rfl (zn (zs (zS (za rfl (zn (zb ?_)))))); intro a w h
   refine Zf (fun (k : Nat) a w => k ≤ r ∧ ∃ (ad1 : Option Addr) (c1 : Nat), St 91 S w0 [(2, .int .u8 (((n : Nat) : Int))), (6, .bool false), (7, .slice ad24 ((G).length) c24), (10, .slice ad63 ((norm (Yb G r)).length) c63), (11, .int .i64 0), (12, .slice ad1 ((norm (Yb G k)).length) c1), (13, nI k)] [] [Row ad1 (cellsOf Zp (norm (Yb G k))), Row ad63 (cellsOf Zp (norm (Yb G r))), Row ad24 (cellsOf Zp G), TabF] a w) (fun k => r - k) 0 (⟨Nat.zero_le _, _, _, by rw [show norm (Yb G 0) = norm [(⟨0, 0, ((1 : Int) : Rat)⟩ : Tm)] from rfl]; exact (h.factsSub (by simp)).sub (Zen ⟨rfl, rfl, rfl, rfl, rfl, rfl, rfl, trivial⟩)⟩) ?_; clear h
   rintro k a w ⟨hi_k, ad1, c1, h⟩
   refine gC h (zs (zS (zm rfl (zm rfl (zp (Pure1.cast (v' := .int .u8 ((r : Nat) : Int)) (.binOp rfl rfl (fun _ => Vg _ _ _ _ _ dd)) (by rw [show (5 : Int) = ((5 : Nat) : Int) from rfl, Yg, hr])) (zp (.convert rfl (Zqc _ (wrap_i64 _ oo oo))) (zp (.lss rfl rfl) (zn ?_)))))))); clear h; intro a w h
   refine cW ?_
   refine Zb h rfl (fun hc72 => ?_) (fun hc72 => ?_)
   ·
    skip
    have hlt_k : k < r := dT hc72
    refine gC h (zk (zs (zb (zr (zm rfl (zm rfl (zf [_, _] rfl call48 (Km (norm (Yb G k)) G _ _ _ _ (k * 3) 3 (k * 41 + 4) 41 (hgx.pow k oo) hgx oo oo dd) ?_))))))); rintro v78 Ψ78 ⟨ad78, c78, rfl, rfl⟩
    refine zm rfl (zp (.eX rfl) (zp (.eX rfl) (za rfl (zn (zr (zm rfl (zp (.pN (k + 1) (.add rfl rfl)) (za rfl (zn ?_))))))))); intro a w h
    have hstep : norm (Jg (norm (Yb G k)) G) = norm (Yb G (k + 1)) := Ji ((Eqv.nrm _).mul Eqv.rfl')
    rw [hstep] at h
    exact ⟨k + 1, ⟨oo, ad78, c78, by exact (h.factsSub (by simp)).sub sA⟩, oo⟩
   ·
    skip
    have heq_k : r = k := dF hc72
    subst heq_k
    have hpw : Pq 12 2000 (norm (Yb G r)) := (hgx.pow r oo).mono oo oo
    refine gC h (ze (zS (zm rfl (zp (.eql rfl rfl) ?_)))); clear h; intro a w h
    refine Zg h (fun hc82 h => ?_) (fun hc82 h => (absurd hc82 dd))
    refine gL h (zm rfl (zq 83 rfl rfl (.move rfl) (zq 83 rfl rfl (.move rfl) ?_))); clear h; intro a w h
    refine Ze 83 h rfl rfl (Qb h (vs := [_, _]) rfl call25 (Vs (norm (Yb G r)) (norm (Yb G r)) _ _ _ _ 12 12 2000 2000 hpw hpw dd dd dd dd) ss dd ?_); clear h; intro a w h
    refine Zg h (fun hc86 h => ?_) (fun hc86 h => (by exfalso; exact clE (rfl) hc86))
    refine gL h (zp (.pickT rfl rfl) (zm rfl ?_)); clear h; intro a w h
    refine Ze 88 h rfl rfl (Yr h (vs := []) rfl call18 (Yk) dd ?_); clear h; intro a w h
    refine gL h (zp (.pickT rfl rfl) (za rfl (zn (zt ?_)))); clear h; intro a w h
    exact Zbw h
  refine gL h (zp (.pickF rfl rfl) (zn ?_)); clear h; intro a w h
 all_goals
  refine cW ?_
  refine Zq h rfl ?_
  refine gC h (zS (zv [] rfl call18 (Yk) (za rfl (zn (zt ?_))))); clear h; intro a w h
  exact Zbw h
end
section
def zpt (x y : Int) : Pt := (((x : Int) : Rat), ((y : Int) : Rat))
def pX : List Tm := [⟨1, 0, ((1 : Int) : Rat)⟩]
def pY : List Tm := [⟨0, 1, ((1 : Int) : Rat)⟩]
def p1 : List Tm := [⟨0, 0, ((1 : Int) : Rat)⟩]
theorem Zxa (p : List Tm) (u v z : Pt) : Qam (norm p) u v z = Qam p u v z := Qav (Eqv.nrm p) u v z
def Sm (n d : Int) : Prop := (-9223372036854775808 ≤ n ∧ n ≤ 9223372036854775807) ∧ (-9223372036854775808 ≤ d ∧ d ≤ 9223372036854775807) ∧ d ≠ 0 ∧ ((n : Rat) / (d : Rat)).num.natAbs < 100 ∧ ((n : Rat) / (d : Rat)).den < 100
instance (n d : Int) : Decidable (Sm n d) := by unfold Sm; infer_instance
theorem w1 : Qam (norm p1) (zpt 0 0) (zpt 1 0) (zpt 0 1) = ((1 : Int) : Rat) / ((2 : Int) : Rat) := by rw [Zxa]; decide +kernel
theorem w2 : Qam (norm (Jg pX pY)) (zpt 0 0) (zpt 1 0) (zpt 0 1) = ((1 : Int) : Rat) / ((24 : Int) : Rat) := by rw [Zxa]; decide +kernel
end
section
theorem Qea (x : Int) (w : World) : (Go.convert 3 5 (.int .i64 x)).run Tryz.prog w = .ok (.int .u8 (IntKind.u8.wrap x)) w := by
 simp [go_sem]
theorem Zqd (x : Int) (h0 : IntKind.u8.wrap x = x) (w : World) : (Go.convert 3 5 (.int .i64 x)).run Tryz.prog w = .ok (.int .u8 x) w := by
 rw [Qea, h0]
theorem Qd8 : ∀ (n i : Nat), (dg n).getD i 0 = n / 10000 ^ i % 10000 := by
 intro n
 induction n using Nat.strongRecOn with
 | _ n ih =>
  intro i
  by_cases h : n = 0
  · subst h; rw [Js]; simp
  ·
   rw [Zji h]
   cases i with
   | zero => simp
   | succ i => rw [List.getD_cons_succ, ih (n / 10000) oo, Nat.div_div_eq_div_mul, Nat.pow_succ, Nat.mul_comm]
theorem Zh3 (n : Nat) : n < 10000 ^ (dg n).length := by have := Zc6 (Dd.dg n); rwa [Ym] at this
def rS (n i : Nat) : ByteArray := if i = (dg n).length then dB n else Qao n (4 * i)
theorem Qbk (n i k : Nat) (hk : k < 4) : (dg n).getD i 0 / 10 ^ k % 10 = n / 10 ^ (4 * i + k) % 10 := by
 have h1 : (dg n).getD i 0 = n / 10 ^ (4 * i) % 10000 := by rw [Qd8, show 10000 ^ i = 10 ^ (4 * i) from by rw [Nat.pow_mul]]
 have e : n / 10 ^ (4 * i + k) = n / 10 ^ (4 * i) / 10 ^ k := by rw [Nat.div_div_eq_div_mul, ← Nat.pow_add]
 rw [h1, e]
 generalize n / 10 ^ (4 * i) = m
 match k, hk with
 | 0, _ => simp only [Nat.pow_zero, Nat.div_one]; omega
 | 1, _ => simp only [Nat.pow_one]; omega
 | 2, _ => rw [show (10 : Nat) ^ 2 = 100 from rfl]; omega
 | 3, _ => rw [show (10 : Nat) ^ 3 = 1000 from rfl]; omega
theorem Qdw {n i k : Nat} (hi : i < (dg n).length) (hk : k ≤ 4) (hp : i + 1 = (dg n).length → k = 0 ∨ 0 < (dg n).getD i 0 / 10 ^ (k - 1))
  (he : 4 ≤ k ∨ ((dg n).length ≤ i + 1 ∧ (dg n).getD i 0 / 10 ^ k = 0)) : Qao n (4 * i + k) = rS n (i + 1) := by
 by_cases hl : i + 1 = (dg n).length
 ·
  rw [rS, if_pos hl]
  have hb := Zh3 n
  rw [← hl, show (10000 : Nat) = 10 ^ 4 from rfl, ← Nat.pow_mul] at hb
  have hd : (dg n).getD i 0 = n / 10 ^ (4 * i) := by
   rw [Qd8, show (10000 : Nat) = 10 ^ 4 from rfl, ← Nat.pow_mul]
   refine Nat.mod_eq_of_lt ((Nat.div_lt_iff_lt_mul (Nat.pow_pos dd)).2 ?_)
   rw [← Nat.pow_add, show 4 + 4 * i = 4 * (i + 1) by omega]; exact hb
  have hne : (dg n).getD i 0 ≠ 0 := by
   have hne' : dg n ≠ [] := fun e => by rw [e] at hi; cases hi
   have h1 := Zl1 n hne'
   rw [List.getLast_eq_getElem] at h1
   rw [List.getD_eq_getElem?_getD, List.getElem?_eq_getElem hi]
   simpa [show (dg n).length - 1 = i by omega] using h1
  have hdl : (dg n).getD i 0 < 10000 := (Dd.dg n).getD i
  have hz : (dg n).getD i 0 / 10 ^ k = 0 := by
   rcases he with he | he
   · rw [show k = 4 by omega]; exact Nat.div_eq_of_lt hdl
   · exact he.2
  have hk0 : k ≠ 0 := by intro e; subst e; rw [Nat.pow_zero, Nat.div_one] at hz; exact hne hz
  obtain ⟨k', rfl⟩ : ∃ k', k = k' + 1 := ⟨k - 1, oo⟩
  have hp' := (hp hl).resolve_left hk0
  rw [Nat.add_sub_cancel, hd, Nat.div_div_eq_div_mul, ← Nat.pow_add] at hp'
  rw [hd, Nat.div_div_eq_div_mul, ← Nat.pow_add] at hz
  have hlo : 10 ^ (4 * i + k') ≤ n := by
   rcases Nat.lt_or_ge n (10 ^ (4 * i + k')) with h | h
   · rw [Nat.div_eq_of_lt h] at hp'; omega
   · exact h
  have hhi : n < 10 ^ (4 * i + k' + 1) := by
   rcases Nat.lt_or_ge n (10 ^ (4 * i + (k' + 1))) with h | h
   · exact h
   · have := Nat.div_pos h (Nat.pow_pos dd); omega
  unfold Qao dB
  rw [Zf9, Lib.nDigits_unique _ _ hlo hhi]
  rfl
 ·
  rw [rS, if_neg hl, show k = 4 by rcases he with he | he <;> omega]
  rfl
theorem Qg1 : dB 0 = ⟨#[48]⟩ := by unfold dB; rw [Lib.decDigits_one dd]; rfl
theorem Zl4 (n : Nat) : (dB n).size ≤ 4 * (dg n).length + 1 := by
 rw [Zjk]
 refine Zcp (Nat.lt_of_lt_of_le (Zh3 n) ?_)
 rw [show (10000 : Nat) = 10 ^ 4 from rfl, ← Nat.pow_mul, Nat.pow_succ]
 have := Nat.pow_pos (n := 4 * (dg n).length) (show 0 < 10 by decide)
 omega
theorem Zqb (x : Nat) (hx : x < 128) (w : World) : (Go.convert 5 9 (.int .u8 (x : Int))).run Tryz.prog w = .ok (.string ⟨#[UInt8.ofNat x]⟩) w := by
 have h : ∀ x, x < 128 → Utf8.encode ((x : Nat) : Int) = ⟨#[UInt8.ofNat x]⟩ := by decide +kernel
 rw [run_convert_int_string w _ _ _ _ (by rw [underlying5]; rfl) underlying9, h x hx]
theorem Zme (ad : Option Addr) (c n : Nat) (hn : (dg n).length ≤ 300000000000) : Vj Tryz.prog 122 [.slice ad (dg n).length c] [Row ad (List.map Zv (dg n))] (.string (dB n)) := by
 refine fn_intro func122 rfl ntmps122 nb ?_
 intro S w0 a hS h
 refine gC h (zS (za rfl (zn (zs (zS (zm rfl (zp (.builtin [_] rfl (Zz _ _ _)) (zp (.eql rfl rfl) (zn ?_))))))))); clear h; intro a w h
 refine cW ?_
 refine Zb h rfl (fun hc9 => ?_) (fun hc9 => ?_)
 ·
  skip
  have hz : (dg n).length = 0 := Zbf hc9
  refine gC h (zS (za rfl (zn (zt ?_)))); clear h; intro a w h
  refine Jm h (Zc h rfl (.tmp rfl)) ?_
  rw [show n = 0 from by have := Zh3 n; rw [hz] at this; simpa using this, Qg1]
 ·
  skip
  have hz : (dg n).length ≠ 0 := Zaw hc9
  refine gC h (zk (zS (za rfl (zn (zs (zS (za rfl (zn (zb ?_))))))))); clear h; intro a w h
  refine Zf (fun (i : Nat) a w => i ≤ (dg n).length ∧ St 45 S w0 [(0, .slice ad ((dg n).length) c), (2, .string (⟨#[]⟩)), (3, .string (rS n i)), (4, nI i)] [] [Row ad (List.map Zv (dg n))] a w) (fun i => (dg n).length - i) 0 (⟨Nat.zero_le _, by rw [show rS n 0 = ⟨#[]⟩ from if_neg oo]; exact (h).sub sA⟩) ?_; clear h
  rintro i a w ⟨hi_i, h⟩
  refine gC h (zs (zS (zm rfl (zm rfl (zp (.builtin [_] rfl (Zz _ _ _)) (zp (.lss rfl rfl) (zn ?_))))))); clear h; intro a w h
  refine cW ?_
  refine Zb h rfl (fun hc13 => ?_) (fun hc13 => ?_)
  ·
   skip
   have hlt_i : i < (dg n).length := dT hc13
   obtain ⟨B_ad, O_ad, rfl⟩ := h.row_addr (ad := ad) (M := List.map Zv (dg n)) mm nF
   rw [show rS n i = Qao n (4 * i) from if_neg oo] at h
   refine gC h (zk (zs (zb (zS (zm rfl (zm rfl (zp (.indexAddr rfl rfl (Zf2 _ _ _ _ _ oo)) (zD rfl mm (by rw [List.length_map]; omega) isAgg3 sizeOf3 (Qa (enc := Zv) (l := (dg n)) 0 oo) (.inr rfl) ?_))))))))
   refine za rfl (zn (zS (za rfl (zn (zb ?_))))); intro a w h
   rw [show ((dg n).getD i 0) = ((dg n).getD i 0) / 10 ^ 0 by rw [Nat.pow_zero, Nat.div_one]] at h
   refine Zf (fun (k : Nat) a w => (k ≤ 4 ∧ (i + 1 = (dg n).length → k = 0 ∨ 0 < ((dg n).getD i 0) / 10 ^ (k - 1))) ∧ St 45 S w0 [(0, .slice (some ⟨B_ad, O_ad, none⟩) ((dg n).length) c), (2, .string (⟨#[]⟩)), (3, .string (Qao n (4 * i + k))), (4, nI i), (5, nI (((dg n).getD i 0) / 10 ^ k)), (6, nI k)] [] [Row (some ⟨B_ad, O_ad, none⟩) (List.map Zv (dg n))] a w) (fun k => 4 - k) (0) (⟨⟨oo, fun _ => .inl rfl⟩, by exact h.sub sA⟩) ?_; clear h
   rintro k a w ⟨⟨hk, hp⟩, h⟩
   have hsz := Zne n (4 * i + k)
   have hdl : ((dg n).getD i 0) < 10000 := (Dd.dg n).getD i
   have hdk : ((dg n).getD i 0) / 10 ^ k ≤ ((dg n).getD i 0) := Nat.div_le_self _ _
   have hd0 : (0 : Int) ≤ ((((dg n).getD i 0) / 10 ^ k : Nat) : Int) := Int.natCast_nonneg _
   refine gC h (zs (zS (zm rfl (zp (.lss rfl rfl) (zm rfl ?_))))); clear h; intro a w h
   refine Zg h (fun hc22 h => ?_) (fun hc22 h => ?_)
   ·
    skip
    have hk4 : k < 4 := dT hc22
    refine gL h (zq 22 rfl rfl (.move rfl) (zq 22 rfl rfl (.pN (i + 1) (.add rfl rfl)) (zq 22 rfl rfl (.move rfl) (zq 22 rfl rfl (.builtin [_] rfl (Zz _ _ _)) (zq 22 rfl rfl (.lss rfl rfl) (zq 22 rfl rfl (.move rfl) ?_)))))); clear h; intro a w h
    refine Zg h (fun hc28 h => ?_) (fun hc28 h => ?_)
    focus
     have hmore : i + 1 < (dg n).length := dT hc28
     refine gL h (zo 28 rfl rfl rfl (zo 28 rfl rfl rfl (zq 22 rfl rfl (.pickT rfl rfl) (zp (.pickT rfl rfl) (zn ?_))))); clear h; intro a w h
     refine cW ?_
     refine Zq h rfl ?_
    rotate_left
    focus
     have hlast : (dg n).length ≤ i + 1 := dF hc28
     refine gL h (zq 28 rfl rfl (.move rfl) (zq 28 rfl rfl (.gtr rfl rfl) (zq 22 rfl rfl (.pickF rfl rfl) (zp (.pickT rfl rfl) (zn ?_))))); clear h; intro a w h
     refine cW ?_
     refine Zb h rfl (fun hc32 => ?_) (fun hc32 => ?_)
     rotate_left
     ·
      skip
      have hex : 4 ≤ k ∨ ((dg n).length ≤ i + 1 ∧ ((dg n).getD i 0) / 10 ^ k = 0) := .inr ⟨hlast, by have := of_decide_eq_false hc32; omega⟩
      refine gC h (ze (zr (zm rfl (zp (.pN (i + 1) (.add rfl rfl)) (za rfl (zn ?_)))))); clear h; intro a w h
      rw [Qdw hlt_i hk hp hex] at h
      exact ⟨i + 1, ⟨oo, (h.factsSub (by simp)).sub sA⟩, oo⟩
     have hpos : 0 < ((dg n).getD i 0) / 10 ^ k := dT hc32
    all_goals
     refine gC h (zk (zs (zb (zS (zm rfl (zp (Pure1.cast (v' := .int .i64 ((n / 10 ^ (4 * i + k) % 10 : Nat) : Int)) (.binOp rfl rfl (fun _ => Vg _ _ _ _ _ dd)) (by rw [show (10 : Int) = ((10 : Nat) : Int) from rfl, Yg, Qbk n i k hk4])) (zp (.pN (48 + n / 10 ^ (4 * i + k) % 10) (Pure1.cast (v' := (.int .i64 ((48 + (n / 10 ^ (4 * i + k) % 10) : Nat) : Int))) (.add rfl rfl) (by show Value.int _ _ = Value.int _ _; congr 1))) (zp (.convert rfl (Zqd _ (wrap_u8 _ oo oo))) (zp (.convert rfl (Zqb _ oo)) (zm rfl (zp (.binOp rfl rfl (fun _ => Je _ _ _ _ _ (by rw [hsz, Zk3]; omega))) (za rfl (zn (zr (zm rfl (zp (Pure1.cast (v' := .int .i64 ((((dg n).getD i 0) / 10 ^ (k + 1) : Nat) : Int)) (.binOp rfl rfl (fun _ => Vp _ _ _ _ _ dd)) (by rw [show (10 : Int) = ((10 : Nat) : Int) from rfl, Yh, wrap_i64 _ oo oo, Nat.div_div_eq_div_mul, ← Nat.pow_succ])) (za rfl (zn (zr (zm rfl (zp (.pN (k + 1) (.add rfl rfl)) (za rfl (zn ?_))))))))))))))))))))))); clear h; intro a w h
     rw [Zxl] at h
     exact ⟨k + 1, ⟨⟨oo, fun _ => .inr (by first | assumption | omega)⟩, by exact h.sub sA⟩, oo⟩
   ·
    skip
    have hex : 4 ≤ k ∨ ((dg n).length ≤ i + 1 ∧ ((dg n).getD i 0) / 10 ^ k = 0) := .inl (dF hc22)
    refine gL h (zo 22 rfl rfl rfl (zo 22 rfl rfl rfl (zo 22 rfl rfl rfl (zo 22 rfl rfl rfl (zo 22 rfl rfl rfl (zo 22 rfl rfl rfl (zu 28 rfl rfl (zu 28 rfl rfl (zo 22 rfl rfl rfl (zp (.pickF rfl rfl) (zn ?_))))))))))); clear h; intro a w h
    refine cW ?_
    refine Zj h rfl ?_
    refine gC h (ze (zr (zm rfl (zp (.pN (i + 1) (.add rfl rfl)) (za rfl (zn ?_)))))); clear h; intro a w h
    rw [Qdw hlt_i hk hp hex] at h
    exact ⟨i + 1, ⟨oo, (h.factsSub (by simp)).sub sA⟩, oo⟩
  ·
   skip
   have heq_i : (dg n).length = i := dF hc13
   subst heq_i
   refine gC h (ze (zS (zm rfl (za rfl (zn (zt ?_)))))); clear h; intro a w h
   refine Jm h (Zc h rfl (.tmp rfl)) ?_
   exact congrArg _ (if_pos rfl)
theorem Ztc (ad : Option Addr) (c : Nat) (z : Int) (hn : (dg z.natAbs).length ≤ 300000000000) : Vj Tryz.prog 121 [zV z ad c] [Row ad (List.map Zv (dg z.natAbs))] (.string (Zvc z)) := by
 refine fn_intro func121 rfl ntmps121 nb ?_
 intro S w0 a hS h
 refine gC h (zS (zx rfl fun b1 => za rfl (zn (zs (zS (zp (.fA rfl Zau) (zd rfl mr isAgg4 sizeOf4 Ye ?_))))))); clear h; intro a w h
 refine wpList_nil ?_
 refine cW ?_
 refine Zb h rfl (fun hc4 => ?_) (fun hc4 => ?_)
 ·
  skip
  have hz : z < 0 := of_decide_eq_true hc4
  refine gC h (zS (zp (.fA rfl Ki) (zd rfl mr isAgg52 sizeOf52 Xm ?_)))
  refine zw [_] rfl call122 (Zme _ _ z.natAbs oo) (zp (.binOp rfl rfl (fun _ => Je _ _ _ _ _ (by have := Zl4 z.natAbs; rw [Zk3]; omega))) (za rfl (zn (zt ?_)))); intro a w h
  refine Jm h (Zc h rfl (.tmp rfl)) ?_
  exact congrArg _ (if_pos hz).symm
 ·
  skip
  have hz : ¬ z < 0 := of_decide_eq_false hc4
  refine gC h (zk (zS (zp (.fA rfl Ki) (zd rfl mr isAgg52 sizeOf52 Xm ?_))))
  refine zw [_] rfl call122 (Zme _ _ z.natAbs oo) (za rfl (zn (zt ?_))); intro a w h
  refine Jm h (Zc h rfl (.tmp rfl)) ?_
  exact congrArg _ (if_neg hz).symm
theorem Qgx {n : Nat} (h : (dg n).length = 0) : n = 0 := by have := Zh3 n; rw [h] at this; simpa using this
theorem Ztu (z : Int) : (Zvc z).size ≤ 4 * (dg z.natAbs).length + 2 := by
 unfold Zvc; have h1 := Zl4 z.natAbs; have h2 := Zk3 45
 split
 · rw [ByteArray.size_append]; omega
 · omega
theorem Zte (a1 a2 : Option Addr) (c1 c2 : Nat) (x : Rat) (hx : Qc x ≤ 100000000000) : Vj Tryz.prog 56 [fV x a1 c1 a2 c2] [Row a1 (List.map Zv (dg x.num.natAbs)), Row a2 (List.map Zv (dg (x.den - 1)))] (.string (Gj x)) := by
 obtain ⟨hq1, hq2, hq3⟩ := dgQ hx
 have hs1 := Ztu x.num
 have hs2 := Zl4 x.den
 have hs3 := Zk3 47
 refine fn_intro func56 rfl ntmps56 nb ?_
 intro S w0 a hS h
 refine gC h (zS (zx rfl fun b1 => za rfl (zn (zs (zS (zp (.fA rfl Zp5) (zd rfl mr isAgg52 sizeOf52 Zbv ?_)))))))
 refine zp (.builtin [_] rfl (Zz _ _ _)) (zp (.eql rfl rfl) (zn ?_)); intro a w h
 refine cW ?_
 refine Zb h rfl (fun hc6 => ?_) (fun hc6 => ?_)
 ·
  skip
  have hd : x.den = 1 := by have := Qgx (Zbf hc6); have := x.den_pos; omega
  refine gC h (zS (zp (.fA rfl Zcb) (zd rfl mr isAgg54 sizeOf54 Jw ?_)))
  refine zw [_] rfl call121 (Ztc _ _ x.num oo) (za rfl (zn (zt ?_))); intro a w h
  refine Jm h (Zc h rfl (.tmp rfl)) ?_
  exact congrArg _ (if_pos hd).symm
 ·
  skip
  have hd : ¬ x.den = 1 := fun e => Zaw hc6 (by rw [e]; show (dg 0).length = 0; rw [Js]; rfl)
  refine gC h (zk (zs (yD Za [0, 1, 4, 2, 3, 5, 6, 7, 8] (Zd kk) (yp rfl (.fA rfl Zcb) (yd rfl rfl mr isAgg54 sizeOf54 Jw ?_))))); clear h
  refine yd rfl rfl mr isAgg56 sizeOf56 Zo ?_
  refine yw [_] rfl rfl call121 (Ztc _ _ x.num oo) (yp rfl (.binOp rfl rfl (fun _ => Je _ _ _ _ _ oo)) (yf [_] rfl rfl call123 (Zjz _ _ _ _ x oo) ?_)); rintro v15 Ψ15 ⟨ad15, c15, rfl, hle15, rfl⟩
  refine yw [_] rfl rfl call122 (Zme _ _ x.den oo) (yp rfl (.binOp rfl rfl (fun _ => Je _ _ _ _ _ (by rw [ByteArray.size_append]; omega))) (yp rfl (.assign rfl) (yn (zt ?_)))); intro a w h
  refine Jm h (Zc h rfl (.tmp rfl)) ?_
  exact congrArg _ (if_neg hd).symm
end
section
theorem Qac (a1 a2 : Option Addr) (c1 c2 : Nat) (x y : Rat) (hx : Qc x ≤ 300000) (e : y = x) : Vj Tryz.prog 10 [Jo x, fV y a1 c1 a2 c2] [TabF, Row a1 (List.map Zv (dg y.num.natAbs)), Row a2 (List.map Zv (dg (y.den - 1)))] (.bool true) := by
 subst e
 refine fn_intro func10 rfl ntmps10 nb ?_
 intro S w0 a hS h
 refine gC h (zS (zx rfl fun b2 => zx rfl fun b3 => za rfl (zn (zs (yD Za [0, 2, 1, 3, 4, 5] (Zd kk) (yd rfl rfl mr isAgg44 sizeOf44 Zh ?_)))))); clear h
 refine yd rfl rfl mr isAgg56 sizeOf56 Zo ?_
 refine yw [_] rfl rfl call55 (Ztn y hx) (yw [_] rfl rfl call56 (Zte _ _ _ _ y oo) (yp rfl (.binOp rfl rfl (fun _ => Xf _ _ _ _ _)) (yp rfl (.assign rfl) (yn (zt ?_))))); intro a w h
 refine Jm h (Zc h rfl (.tmp rfl)) ?_
 exact congrArg Value.bool ss
end
section
def tmZ (t : Tz) : Tm := ⟨t.i.toNat, t.j.toNat, t.c⟩
def toZ (t : Tm) : Tz := ⟨(t.i : Int), (t.j : Int), t.c⟩
theorem Tz.ext' {s t : Tz} (h1 : s.i = t.i) (h2 : s.j = t.j) (h3 : s.c = t.c) : s = t := by cases s; cases t; simp_all
instance : DecidableEq Tz := fun s t => decidable_of_iff (s.i = t.i ∧ s.j = t.j ∧ s.c = t.c) ⟨fun ⟨a, b, c⟩ => Tz.ext' a b c, fun h => h ▸ ⟨rfl, rfl, rfl⟩⟩
theorem Qfd (t : Tm) : tmZ (toZ t) = t := Tm.ext' (Int.toNat_natCast _) (Int.toNat_natCast _) rfl
theorem Zrr {t : Tz} : Zj2 t = 0 ↔ 0 ≤ t.i ∧ 0 ≤ t.j ∧ t.i + t.j ≤ 12 := by
 unfold Zj2
 split
 ·
  constructor
  · intro h; cases h
  · intro h; omega
 ·
  split
  ·
   constructor
   · intro h; cases h
   · intro h; omega
  ·
   constructor
   · intro _; omega
   · intro _; rfl
theorem Zo1 {t : Tz} (h : Zj2 t = 0) : toZ (tmZ t) = t := by
 obtain ⟨h1, h2, _⟩ := Zrr.1 h
 exact Tz.ext' (Int.toNat_of_nonneg h1) (Int.toNat_of_nonneg h2) rfl
theorem Zsl (t : Tm) : Qy (toZ t) = Zp t := rfl
theorem Zn1 (l : List Tm) : cellsOf Qy (l.map toZ) = cellsOf Zp l := by
 unfold cellsOf; rw [List.flatMap_map]; rfl
theorem Zct : ∀ {Z : List Tz}, Zx Z = 0 ↔ ∀ t ∈ Z, Zj2 t = 0
 | [] => ⟨fun _ => (fun _ h => nomatch h), fun _ => rfl⟩
 | t :: Z => by
  have ih := Zct (Z := Z)
  rw [Zx]
  by_cases h : Zj2 t = 0
  ·
   rw [if_pos h, ih]
   constructor
   ·
    intro h2 s hs
    rcases List.mem_cons.1 hs with rfl | hs
    · exact h
    · exact h2 s hs
   · intro h2 s hs; exact h2 s (List.mem_cons_of_mem _ hs)
  ·
   rw [if_neg h]
   exact ⟨fun h2 => absurd h2 h, fun h2 => h2 t List.mem_cons_self⟩
theorem Zxj {Z : List Tz} (h : Zx Z = 0) : (Z.map tmZ).map toZ = Z := by
 rw [List.map_map]
 have : ∀ t ∈ Z, (toZ ∘ tmZ) t = id t := fun t ht => Zo1 (Zct.1 h t ht)
 rw [List.map_congr_left this, List.map_id]
theorem Zqj {Z : List Tz} (h : Zx Z = 0) : cellsOf Qy Z = cellsOf Zp (Z.map tmZ) := by
 conv => lhs; rw [← Zxj h]
 exact Zn1 _
def npZ (Z : List Tz) : List Tm := if Zx Z = 0 then norm (Z.map tmZ) else []
theorem Zft {Z : List Tz} (h : Zx Z = 0) : npZ Z = norm (Z.map tmZ) := if_pos h
theorem Zgt {Z : List Tz} (h : Zx Z ≠ 0) : npZ Z = [] := if_neg h
theorem Zxd (Z : List Tz) : Nrm (npZ Z) := by
 unfold npZ; split
 · exact Qr _
 · exact ⟨(fun _ h => nomatch h), List.Pairwise.nil⟩
theorem Zlc (Z : List Tz) : norm (npZ Z) = npZ Z := Xr (Zxd Z)
theorem Z_DL {Z : List Tz} (h : Zx Z = 0) : DL 12 (Z.map tmZ) := fun t ht => by
 obtain ⟨s, hs, rfl⟩ := List.mem_map.1 ht
 have := Zrr.1 (Zct.1 h s hs)
 simp only [tmZ]; omega
theorem Z_KL {Z : List Tz} {K : Nat} (hK : ∀ t ∈ Z, Qc t.c ≤ K) : KL K (Z.map tmZ) := fun t ht => by
 obtain ⟨s, hs, rfl⟩ := List.mem_map.1 ht
 exact hK s hs
theorem Zmb {Z : List Tz} {K m : Nat} (h : Zx Z = 0) (hK : ∀ t ∈ Z, Qc t.c ≤ K) (hm : Z.length ≤ m) (hm2 : m ≤ 100) : Pq 12 (m * (K + 1) + 1) (Z.map tmZ) := Pq.raw (Z_DL h) (Z_KL hK) (by rw [List.length_map]; exact hm) hm2
theorem Qd1 {Z : List Tz} {K m : Nat} (hK : ∀ t ∈ Z, Qc t.c ≤ K) (hm : Z.length ≤ m) (hm2 : m ≤ 100) : Pq 12 (m * (K + 1) + 1) (npZ Z) := by
 unfold npZ; split
 · rename_i h; exact (Zmb h hK hm hm2).nrm dd
 · exact (Pq.nil 12).mono (Nat.le_refl _) oo
theorem Qcx {P : Program} {f : FuncId} {args : List Value} {Φ : List Zy} {v : Value} (h : Vj P f args Φ v) : Ctr P f args Φ (fun u Ψ => u = v ∧ Ψ = [Row none (cellsOf Zp [])]) := fun X w hX hΦ =>
 (h X w hX hΦ).mono fun e w' ⟨u, Ψ, h1, ⟨h2, _⟩, h3, _⟩ => ⟨u, _, h1, ⟨h2, rfl⟩, h3, fun R hR => by rw [List.mem_singleton.1 hR]; exact fun hne => absurd rfl hne⟩
theorem Zhp {P : Program} {f : FuncId} {Z : List Tz} {ad : Option Addr} {c : Nat} {Φ : List Zy} {R : List Value} {post : Value → List Zy → Prop} (hz : Zx Z = 0)
  (h : Ctr P f (.slice ad (Z.map tmZ).length c :: R) (Row ad (cellsOf Zp (Z.map tmZ)) :: Φ) post) : Ctr P f (.slice ad Z.length c :: R) (Row ad (cellsOf Qy Z) :: Φ) post := by
 rw [Zqj hz]; rw [List.length_map] at h; exact h
theorem Yo (Z : List Tz) (ad : Option Addr) (c : Nat) (hn : Z.length ≤ 100000) (hz : Zx Z ≠ 0) : Vj Tryz.prog 82 [.slice ad Z.length c] [Row ad (cellsOf Qy Z)] (.slice none 0 0) := by
 refine fn_intro func82 rfl ntmps82 nb ?_
 intro S w0 a hS h
 refine gC h (zS (za rfl (zn (zS (zm rfl (zw [_] rfl call19 (Zib Z _ _ hn hz) (zm rfl (zp (.eX rfl) (zp (.eX rfl) (za rfl (za rfl (zn (zS (zm rfl (za rfl (zn (zt ?_))))))))))))))))); clear h; intro a w h
 exact Zbw h
theorem Zoo (Z : List Tz) (ad : Option Addr) (c : Nat) (hn : Z.length ≤ 100000) (hz : Zx Z ≠ 0) : Vj Tryz.prog 23 [.slice ad Z.length c] [Row ad (cellsOf Qy Z)] (.int .i64 (-1)) := by
 refine fn_intro func23 rfl ntmps23 nb ?_
 intro S w0 a hS h
 refine gC h (zS (za rfl (zn (zS (zm rfl (zw [_] rfl call82 (Yo Z _ _ hn hz) (za rfl (zn (zs (zS (zm rfl (zp (.builtin [_] rfl (Zk _ _ _)) (zp (.eql rfl rfl) (zn ?_)))))))))))))); clear h; intro a w h
 refine cW ?_
 refine Zb h rfl (fun hc9 => ?_) (fun hc9 => (absurd hc9 dd))
 refine gC h (zS (za rfl (zn (zt ?_)))); clear h; intro a w h
 exact Zbw h
theorem Qh2 (Z : List Tz) (ad : Option Addr) (c : Nat) (hn : Z.length ≤ 100000) (hz : Zx Z ≠ 0) : Vj Tryz.prog 21 [.slice ad Z.length c] [Row ad (cellsOf Qy Z)] (.string ⟨#[48]⟩) := by
 refine fn_intro func21 rfl ntmps21 nb ?_
 intro S w0 a hS h
 refine gC h (zS (za rfl (zn (zS (za rfl (zn (zs (zS (zm rfl (zw [_] rfl call82 (Yo Z _ _ hn hz) (zp (.builtin [_] rfl (Zk _ _ _)) (zm rfl (zn (zb ?_)))))))))))))); clear h; intro a w h
 refine Zf (fun (k : Nat) a w => St 75 S w0 [(2, .string (⟨#[]⟩)), (3, .string (⟨#[]⟩)), (10, .slice none 0 0), (11, nI 0), (12, nI 0)] [] [Row ad (cellsOf Qy Z)] a w) (fun k => 0) (0) (by exact h.sub sA) ?_; clear h
 rintro k a w h
 refine gC h (zS (zp (.lss rfl rfl) (zn (zs ?_)))); clear h; intro a w h
 refine Zb h rfl (fun hc13 => (absurd hc13 dd)) (fun hc13 => ?_)
 refine gC h (ze (zs (zS (zm rfl (zp (.binOp rfl rfl (fun _ => Xf _ _ _ _ _)) (zn ?_)))))); clear h; intro a w h
 refine cW ?_
 refine Zb h rfl (fun hc73 => ?_) (fun hc73 => (absurd hc73 dd))
 refine gC h (zS (za rfl (zn (zt ?_)))); clear h; intro a w h
 exact Zbw h
theorem Qil (Z : List Tz) (ad : Option Addr) (c : Nat) (hn : Z.length ≤ 100000) (hz : Zx Z ≠ 0) (i j : Int) : Vj Tryz.prog 28 [.slice ad Z.length c, .int .i64 i, .int .i64 j] [Row ad (cellsOf Qy Z)] (Jo 0) := by
 refine fn_intro func28 rfl ntmps28 nb ?_
 intro S w0 a hS h
 refine gC h (zS (zz Vd fun b6 => zn (zs (zS (zm rfl (zw [_] rfl call82 (Yo Z _ _ hn hz) (zp (.builtin [_] rfl (Zk _ _ _)) (zm rfl (zn (zb ?_)))))))))); clear h; intro a w h
 refine Zf (fun (k : Nat) a w => St 30 S w0 [(1, .int .i64 i), (2, .int .i64 j), (6, pB b6), (10, .slice none 0 0), (11, nI 0), (12, nI 0)] [(b6, bV (Jo (0)) 44)] [Row ad (cellsOf Qy Z)] a w) (fun k => 0) (0) (by exact h.sub sA) ?_; clear h
 rintro k a w h
 refine gC h (zS (zp (.lss rfl rfl) (zn (zs ?_)))); clear h; intro a w h
 refine Zb h rfl (fun hc13 => (absurd hc13 dd)) (fun hc13 => ?_)
 refine gC h (ze (zS (zp (.build [] rfl (Zql)) (zt' rfl rfl Qi uu sizeOf44 rfl nb rfl ?_)))); clear h; intro a w h
 refine wpList_nil (wp_ret ?_)
 refine Jm h (Zc h rfl (.cell rfl mr isAgg44 sizeOf44 Zh)) ?_
 rfl
theorem Qh7 (Z : List Tz) (ad : Option Addr) (c : Nat) (hn : Z.length ≤ 100000) (hz : Zx Z ≠ 0) (ad2 : Option Addr) (c2 : Nat) : Vj Tryz.prog 25 [.slice ad Z.length c, .slice ad2 0 c2] [Row ad (cellsOf Qy Z), Row ad2 (cellsOf Zp [])] (.bool true) := by
 refine fn_intro func25 rfl ntmps25 nb ?_
 intro S w0 a hS h
 replace h := h.derive (R := Row none (cellsOf Zp [])) (fun X _ hne => absurd rfl hne)
 refine gC h (zS (za rfl (zn (zS (zm rfl (zw [_] rfl call82 (Yo Z _ _ hn hz) (zm rfl (zf [_] rfl call82 (Xk [] _ _ 12 1 (Pq.nil 12) dd dd) ?_)))))))); rintro v8 Ψ8 ⟨ad8, c8, rfl, rfl⟩
 refine zw [_, _] rfl call89 (Ztq [] (norm []) _ _ _ _ dd (by rw [Qw]; decide)) (za rfl (zn (zt ?_))); intro a w h
 refine Jm h (Zc h rfl (.tmp rfl)) ?_
 refine congrArg Value.bool ?_
 rw [Qw]; rfl
theorem C_OfZ (Z : List Tz) (ad : Option Addr) (c K : Nat) (hn : Z.length ≤ 100) (hK : ∀ t ∈ Z, Qc t.c ≤ K) (hKK : K ≤ 1000) : Ctr Tryz.prog 19 [.slice ad Z.length c] [Row ad (cellsOf Qy Z)] (fun v Ψ => ∃ ad' c', v = .tuple #[.slice ad' (npZ Z).length c', .int .i64 (Zx Z)] ∧ Ψ = [Row ad' (cellsOf Zp (npZ Z))]) := by
 by_cases hz : Zx Z = 0
 ·
  rw [Zft hz, hz]
  exact Zhp hz (Ztf (Z.map tmZ) ad c K (Z_DL hz) (Z_KL hK) (by rw [List.length_map]; have := Nat.mul_le_mul hn (show K + 1 ≤ 1001 by omega); omega) (by rw [List.length_map]; omega))
 ·
  rw [Zgt hz]
  intro X w hX hF
  exact (Qcx (Zib Z ad c oo hz) X w hX hF).mono fun e w' ⟨v, Ψ, h1, ⟨h2, h3⟩, h4⟩ => ⟨v, Ψ, h1, ⟨none, 0, h2, h3⟩, h4⟩
theorem Zon (Z : List Tz) (ad : Option Addr) (c K : Nat) (hn : Z.length ≤ 100) (hK : ∀ t ∈ Z, Qc t.c ≤ K) (hKK : K ≤ 1000) : Vj Tryz.prog 23 [.slice ad Z.length c] [Row ad (cellsOf Qy Z)] (.int .i64 (Gl (npZ Z))) := by
 by_cases hz : Zx Z = 0
 · rw [Zft hz]; exact Zhp hz (Ya (Z.map tmZ) ad c 12 _ (Zmb hz hK (Nat.le_refl _) hn) dd (by have := Nat.mul_le_mul hn (show K + 1 ≤ 1001 by omega); omega))
 · rw [Zgt hz]; exact Zoo Z ad c oo hz
theorem Qh1 (Z : List Tz) (ad : Option Addr) (c K : Nat) (hn : Z.length ≤ 100) (hK : ∀ t ∈ Z, Qc t.c ≤ K) (hKK : K ≤ 1000) : Vj Tryz.prog 21 [.slice ad Z.length c] [Row ad (cellsOf Qy Z), TabF] (.string (Zkc Gj (npZ Z))) := by
 by_cases hz : Zx Z = 0
 · rw [Zft hz]; exact Zhp hz (Zmi (Z.map tmZ) ad c 12 _ (Zmb hz hK (Nat.le_refl _) hn) dd (by have := Nat.mul_le_mul hn (show K + 1 ≤ 1001 by omega); omega))
 ·
  rw [Zgt hz]
  intro X w hX hF
  exact Qh2 Z ad c oo hz X w hX (fun R hR => hF R (by rw [List.mem_singleton.1 hR]; exact List.mem_cons_self))
theorem Qik (Z : List Tz) (ad : Option Addr) (c K : Nat) (hn : Z.length ≤ 100) (hK : ∀ t ∈ Z, Qc t.c ≤ K) (hKK : K ≤ 1000) (i j : Int) : Vj Tryz.prog 28 [.slice ad Z.length c, .int .i64 i, .int .i64 j] [Row ad (cellsOf Qy Z)] (Jo (cfT (npZ Z) i j)) := by
 by_cases hz : Zx Z = 0
 · rw [Zft hz]; exact Zhp hz (Qe0 (Z.map tmZ) ad c 12 _ (Zmb hz hK (Nat.le_refl _) hn) dd (by have := Nat.mul_le_mul hn (show K + 1 ≤ 1001 by omega); omega) i j)
 · rw [Zgt hz]; exact Qil Z ad c oo hz i j
theorem Qh6 (Z : List Tz) (ad : Option Addr) (c K : Nat) (hn : Z.length ≤ 100) (hK : ∀ t ∈ Z, Qc t.c ≤ K) (hKK : K ≤ 1000) (ad2 : Option Addr) (c2 : Nat) : Vj Tryz.prog 25 [.slice ad Z.length c, .slice ad2 (npZ Z).length c2] [Row ad (cellsOf Qy Z), Row ad2 (cellsOf Zp (npZ Z))] (.bool true) := by
 by_cases hz : Zx Z = 0
 ·
  have h := Vs (Z.map tmZ) (npZ Z) ad ad2 c c2 12 12 _ _ (Zmb hz hK (Nat.le_refl _) hn) (Qd1 hK (Nat.le_refl _) hn) dd dd (by have := Nat.mul_le_mul hn (show K + 1 ≤ 1001 by omega); omega) (by have := Nat.mul_le_mul hn (show K + 1 ≤ 1001 by omega); omega)
  rw [Zlc, Zft hz, decide_eq_true rfl] at h
  rw [Zft hz]; exact Zhp hz h
 · rw [Zgt hz]; exact Qh7 Z ad c oo hz ad2 c2
def okK (Z : List Tz) (k : Nat) : Bool := decide (Zj2 (Z.getD k Tz0) = 0) && !decide ((Z.getD k Tz0).c = 0) && (decide (k = 0) || decide (Zor (tmZ (Z.getD (k - 1) Tz0)) (tmZ (Z.getD k Tz0)) < 0))
def okB (Z : List Tz) : Bool := decide (∀ k, k < Z.length → okK Z k = true)
theorem Zw9 {Z : List Tz} {k : Nat} (hk : k < Z.length) (h : okK Z k = false) : okB Z = false := decide_eq_false (fun hh => by rw [hh k hk] at h; cases h)
theorem adj_pw {p : List Tm} (h : ∀ k, 0 < k → k < p.length → ltT (p.getD (k - 1) T0) (p.getD k T0) = true) : p.Pairwise (fun s t => ltT s t = true) := by
 rw [List.pairwise_iff_getElem]
 have key : ∀ n i (hi : i + n + 1 < p.length), ltT (p[i]'oo) (p[i + n + 1]) = true := by
  intro n
  induction n with
  | zero => intro i hi; have := h (i + 1) oo hi; simpa [List.getD, hi, show i < p.length by omega] using this
  | succ n ih =>
   intro i hi
   have h1 := ih i oo
   have h2 := h (i + n + 1 + 1) oo hi
   have h3 : ltT (p[i + n + 1]'oo) (p[i + n + 1 + 1]'hi) = true := by simpa [List.getD, show i + n + 1 + 1 < p.length from hi, show i + n + 1 < p.length by omega] using h2
   exact Zfw h1 h3
 intro i j hi hj hij
 obtain ⟨n, rfl⟩ : ∃ n, j = i + n + 1 := ⟨j - i - 1, oo⟩
 exact key n i hj
theorem Zlo {Z : List Tz} {k : Nat} (hk : k < Z.length) : (Z.map tmZ).getD k T0 = tmZ (Z.getD k Tz0) := by simp [List.getD, hk]
theorem Zpo (Z : List Tz) : okB Z = true ↔ Zx Z = 0 ∧ norm (Z.map tmZ) = Z.map tmZ := by
 unfold okB; rw [decide_eq_true_eq]
 constructor
 ·
  intro h
  have hk : ∀ k, k < Z.length → Zj2 (Z.getD k Tz0) = 0 ∧ (Z.getD k Tz0).c ≠ 0 ∧ (k = 0 ∨ Zor (tmZ (Z.getD (k - 1) Tz0)) (tmZ (Z.getD k Tz0)) < 0) := fun k hk => by
   have := h k hk
   unfold okK at this
   simpa [and_assoc] using this
  have hz : Zx Z = 0 := Zct.2 (fun t ht => by
   obtain ⟨k, hlt, e⟩ := List.mem_iff_getElem.1 ht
   have := (hk k hlt).1
   simpa [List.getD, hlt, e] using this)
  refine ⟨hz, Xr ⟨fun t ht => ?_, adj_pw (fun k h0 hlt => ?_)⟩⟩
  ·
   obtain ⟨s, hs, rfl⟩ := List.mem_map.1 ht
   obtain ⟨k, hlt, e⟩ := List.mem_iff_getElem.1 hs
   have := (hk k hlt).2.1
   simpa [List.getD, hlt, e, tmZ] using this
  ·
   rw [List.length_map] at hlt
   rw [Zlo hlt, Zlo (show k - 1 < Z.length by omega), ← Zir]
   rcases (hk k hlt).2.2 with h1 | h1
   · omega
   · exact h1
 ·
  rintro ⟨hz, hn⟩ k hk
  have hN : Nrm (Z.map tmZ) := hn ▸ Qr _
  have hmem : Z.getD k Tz0 ∈ Z := getD_mem Z hk
  have h1 := Zct.1 hz _ hmem
  have h2 : (Z.getD k Tz0).c ≠ 0 := hN.1 (tmZ (Z.getD k Tz0)) (List.mem_map_of_mem hmem)
  unfold okK
  rw [decide_eq_true h1, decide_eq_false h2]
  by_cases h0 : k = 0
  · rw [decide_eq_true h0]; rfl
  ·
   have h3 := Zxc hN (i := k) oo (by rw [List.length_map]; exact hk)
   rw [Zlo hk, Zlo (show k - 1 < Z.length by omega)] at h3
   rw [decide_eq_true h3]; simp
theorem Zz5 (s t : Tz) (hs : Zj2 s = 0) (ht : Zj2 t = 0) : Ys Tryz.prog 90 [Qy s, Qy t] (.int .i64 (Zor (tmZ s) (tmZ t))) := by
 have h1 := Zrr.1 hs; have h2 := Zrr.1 ht
 have h := Zmf (tmZ s) (tmZ t) (by simp only [tmZ]; omega) (by simp only [tmZ]; omega)
 rw [← Zsl, ← Zsl, Zo1 hs, Zo1 ht] at h; exact h
theorem sg0 {x : Rat} : (x.num.sign == 0) = decide (x = 0) := by
 by_cases h : x = 0
 · subst h; rfl
 · rw [decide_eq_false h]; exact beq_eq_false_iff_ne.2 (fun e => h (Rat.num_eq_zero.1 (Int.sign_eq_zero_iff_zero.1 e)))
theorem C_OkZ (Z : List Tz) (ad : Option Addr) (c : Nat) (hn : Z.length ≤ 100000) : Vj Tryz.prog 26 [.slice ad Z.length c] [Row ad (cellsOf Qy Z)] (.bool (okB Z)) := by
 refine fn_intro func26 rfl ntmps26 nb ?_
 intro S w0 a hS h
 refine gC h (zS (za rfl (zn (zs (zS (zm rfl (zp (.builtin [_] rfl (Zk _ _ _)) (zm rfl (zn (zb ?_)))))))))); clear h; intro a w h
 refine Zf (fun (i : Nat) a w => i ≤ Z.length ∧ (∀ k, k < i → okK Z k = true) ∧ St 36 S w0 [(0, .slice ad Z.length c), (5, .slice ad Z.length c), (6, nI Z.length), (7, nI i)] [] [Row ad (cellsOf Qy Z)] a w) (fun i => Z.length - i) 0 (⟨Nat.zero_le _, fun k hk => absurd hk (Nat.not_lt_zero _), by exact (h).sub sA⟩) ?_; clear h
 rintro i a w ⟨hi_i, hinv_i, h⟩
 refine gC h (zS (zp (.lss rfl rfl) (zn (zs ?_)))); clear h; intro a w h
 refine Zb h rfl (fun hc8 => ?_) (fun hc8 => ?_)
 ·
  skip
  have hlt_i : i < Z.length := dT hc8
  obtain ⟨B_ad, O_ad, rfl⟩ := h.row_addr (ad := ad) (M := cellsOf Qy Z) mm (nE 7)
  have hpv : ∀ k, k < i → Zj2 (Z.getD k Tz0) = 0 := fun k hk => by have h9 := hinv_i k hk; unfold okK at h9; simp only [Bool.and_eq_true, decide_eq_true_eq] at h9; exact h9.1.1
  refine gC h (zk (zs (zb (zS (zm rfl (zp (.indexAddr rfl rfl (Zao _ _ _ _ _ oo)) (zD rfl mm (cells_lt (k := 7) dd (fun _ => rfl) Z i oo) isAgg117 sizeOf117 (Zr (k := 7) (fun _ => rfl) ((fun _ => rfl)) Z Tz0 i oo) (.inl rfl) ?_)))))))
  refine zz Gz fun b4 => za rfl (zt' rfl rfl Xp uu sizeOf117 rfl nb rfl ?_)
  refine zn (zs (yD Za [0, 1, 2, 3, 4, 5, 6, 7, 8, 9, 10, 11, 12, 13, 14, 15, 16, 17, 18, 19, 20, 21, 22] (Zd kk) (yd rfl rfl mr isAgg117 sizeOf117 Vu ?_)))
  refine yv [_] rfl rfl call80 (Qes (Z.getD i Tz0)) (yp rfl (.neq rfl rfl) ?_)
  refine Zt (fun hc14  => ?_) (fun hc14  => ?_)
  ·
   skip
   have hm0 : ¬ Zj2 (Z.getD i Tz0) = 0 := by simpa using hc14
   refine ym rfl rfl (yo 15 rfl rfl rfl rfl (yo 15 rfl rfl rfl rfl (yo 15 rfl rfl rfl rfl (yo 15 rfl rfl rfl rfl (yp rfl (.pickT rfl rfl) (ym rfl rfl (yo 21 rfl rfl rfl rfl (yo 21 rfl rfl rfl rfl (yo 21 rfl rfl rfl rfl (yu 24 rfl rfl rfl (yu 24 rfl rfl rfl (yu 24 rfl rfl rfl (yu 24 rfl rfl rfl (yu 24 rfl rfl rfl (yu 24 rfl rfl rfl (yu 24 rfl rfl rfl (yu 24 rfl rfl rfl (yo 21 rfl rfl rfl rfl (yp rfl (.pickT rfl rfl) (yn ?_)))))))))))))))))))); intro a w h
   refine cW ?_
   refine Zq h rfl ?_
   refine gC h (zS (za rfl (zn (zt ?_)))); clear h; intro a w h
   refine Jm h (Zc h rfl (.tmp rfl)) ?_
   rw [Zw9 hlt_i (by unfold okK; rw [decide_eq_false hm0]; rfl)]
  ·
   skip
   have hm0 : Zj2 (Z.getD i Tz0) = 0 := by simpa using hc14
   refine ym rfl rfl (yq rfl rfl rfl (.fA rfl Xz) (yg rfl rfl rfl rfl mr isAgg44 sizeOf44 Vh ?_))
   refine Jp rfl rfl rfl kk (vs := [_]) rfl call83 (Zha _) dd ?_
   refine yq rfl rfl rfl (.eql rfl rfl) ?_
   refine Zt (fun hc19  => ?_) (fun hc19  => ?_)
   ·
    skip
    have hc0 : (Z.getD i Tz0).c = 0 := by rw [sg0] at hc19; exact of_decide_eq_true hc19
    refine yp rfl (.pickF rfl rfl) (ym rfl rfl (yo 21 rfl rfl rfl rfl (yo 21 rfl rfl rfl rfl (yo 21 rfl rfl rfl rfl (yu 24 rfl rfl rfl (yu 24 rfl rfl rfl (yu 24 rfl rfl rfl (yu 24 rfl rfl rfl (yu 24 rfl rfl rfl (yu 24 rfl rfl rfl (yu 24 rfl rfl rfl (yu 24 rfl rfl rfl (yo 21 rfl rfl rfl rfl (yp rfl (.pickT rfl rfl) (yn ?_))))))))))))))); intro a w h
    refine cW ?_
    refine Zq h rfl ?_
    refine gC h (zS (za rfl (zn (zt ?_)))); clear h; intro a w h
    refine Jm h (Zc h rfl (.tmp rfl)) ?_
    rw [Zw9 hlt_i (by unfold okK; rw [decide_eq_true hc0]; simp)]
   ·
    skip
    have hc0 : ¬ (Z.getD i Tz0).c = 0 := by rw [sg0] at hc19; exact of_decide_eq_false hc19
    refine yp rfl (.pickF rfl rfl) (ym rfl rfl (yq rfl rfl rfl (.move rfl) (yq rfl rfl rfl (.gtr rfl rfl) ?_)))
    refine Zt (fun hc23  => ?_) (fun hc23  => ?_)
    ·
     skip
     have h0i : 0 < i := dT hc23
     refine yq rfl rfl rfl (.move rfl) (yq rfl rfl rfl (.move rfl) (yq rfl rfl rfl (.move rfl) (yq rfl rfl rfl (.pO (i - 1) (.sub rfl rfl)) (yq rfl rfl rfl (.indexAddr rfl rfl (Zao _ _ _ _ _ oo)) ?_))))
     refine Kr rfl rfl rfl kk rfl mm (cells_lt (k := 7) dd (fun _ => rfl) Z (i - 1) oo) isAgg117 sizeOf117 (Zr (k := 7) (fun _ => rfl) ((fun _ => rfl)) Z Tz0 (i - 1) oo) (.inl rfl) dd ?_
     refine yg rfl rfl rfl rfl mr isAgg117 sizeOf117 Vu ?_
     refine Jp rfl rfl rfl kk (vs := [_, _]) rfl call90 (Zz5 (Z.getD (i - 1) Tz0) (Z.getD i Tz0) (hpv (i - 1) oo) hm0) dd ?_
     refine yq rfl rfl rfl (.geq rfl rfl) ?_
     refine Zt (fun hc32  => ?_) (fun hc32  => ?_)
     ·
      skip
      have ho : ¬ Zor (tmZ (Z.getD (i - 1) Tz0)) (tmZ (Z.getD i Tz0)) < 0 := dT hc32
      refine yq rfl rfl rfl (.pickT rfl rfl) (yp rfl (.pickF rfl rfl) (yn ?_)); intro a w h
      refine cW ?_
      refine Zq h rfl ?_
      refine gC h (zS (za rfl (zn (zt ?_)))); clear h; intro a w h
      refine Jm h (Zc h rfl (.tmp rfl)) ?_
      rw [Zw9 hlt_i (by unfold okK; rw [decide_eq_false ho, decide_eq_false (show ¬ i = 0 by omega)]; simp)]
     ·
      skip
      have ho : Zor (tmZ (Z.getD (i - 1) Tz0)) (tmZ (Z.getD i Tz0)) < 0 := dF hc32
      refine yq rfl rfl rfl (.pickT rfl rfl) (yp rfl (.pickF rfl rfl) (yn ?_)); intro a w h
      refine cW ?_
      refine Zj h rfl ?_
      refine gC h (zk (zr (zp (.pN (i + 1) (.add rfl rfl)) (zm rfl (zn ?_))))); clear h; intro a w h
      exact ⟨i + 1, ⟨oo, fun k hk => by rcases Nat.lt_or_ge k i with h | h; exact hinv_i k h; rw [show k = i by omega]; unfold okK; rw [decide_eq_true hm0, decide_eq_false hc0]; rw [decide_eq_true ho]; simp, ((h.drop sl).factsSub (by simp)).sub sA⟩, oo⟩
    ·
     skip
     have h0i : ¬ 0 < i := dF hc23
     refine yq rfl rfl rfl (.move rfl) (yo 24 rfl rfl rfl rfl (yo 24 rfl rfl rfl rfl (yo 24 rfl rfl rfl rfl (yo 24 rfl rfl rfl rfl (yo 24 rfl rfl rfl rfl (yo 24 rfl rfl rfl rfl (yo 24 rfl rfl rfl rfl (yo 24 rfl rfl rfl rfl (yq rfl rfl rfl (.pickF rfl rfl) (yp rfl (.pickF rfl rfl) (yn ?_))))))))))); intro a w h
     refine cW ?_
     refine Zj h rfl ?_
     refine gC h (zk (zr (zp (.pN (i + 1) (.add rfl rfl)) (zm rfl (zn ?_))))); clear h; intro a w h
     exact ⟨i + 1, ⟨oo, fun k hk => by rcases Nat.lt_or_ge k i with h | h; exact hinv_i k h; rw [show k = i by omega]; unfold okK; rw [decide_eq_true hm0, decide_eq_false hc0]; rw [decide_eq_true (show i = 0 by omega)]; rfl, ((h.drop sl).factsSub (by simp)).sub sA⟩, oo⟩
 ·
  skip
  have heq_i : Z.length = i := dF hc8
  subst heq_i
  refine gC h (ze (zS (za rfl (zn (zt ?_))))); clear h; intro a w h
  refine Jm h (Zc h rfl (.tmp rfl)) ?_
  rw [show okB Z = true from decide_eq_true hinv_i]
theorem eqZ_of {p q : List Tz} (hl : p.length = q.length) (h : ∀ k, k < p.length → p.getD k Tz0 = q.getD k Tz0) : p = q := by
 refine List.ext_getElem hl (fun i h1 h2 => ?_)
 have := h i h1
 simpa [List.getD, h1, h2] using this
theorem Qfo (X Y : Operand) (x y : Tz) (w : World) : (do eqGuard .neq 117 X Y (Qy x) (Qy y); Go.binOp .neq 117 (Qy x) (Qy y) : Sem Value).run Tryz.prog w = .ok (.bool (!decide (x = y))) w := by
 obtain ⟨x1, x2, x3⟩ := x
 obtain ⟨y1, y2, y3⟩ := y
 simp [go_sem]
 rw [nestQ]
 by_cases e1 : x1 = y1 <;> by_cases e2 : x2 = y2 <;> by_cases e3 : x3 = y3 <;> simp [e1, e2, e3]
theorem Zth (Z Y : List Tz) (ad adb : Option Addr) (ca cb : Nat) (hp : Z.length ≤ 1000000) (hq : Y.length ≤ 1000000) : Vj Tryz.prog 27 [.slice ad Z.length ca, .slice adb Y.length cb] [Row ad (cellsOf Qy Z), Row adb (cellsOf Qy Y)] (.bool (decide (Z = Y))) := by
 refine fn_intro func27 rfl ntmps27 nb ?_
 intro S w0 a hS h
 refine gC h (zS (za rfl (zn (zs (zS (zm rfl (zp (.builtin [_] rfl (Zk _ _ _)) (zm rfl (zp (.builtin [_] rfl (Zk _ _ _)) (zp (.neq rfl rfl) (zn ?_))))))))))); clear h; intro a w h
 refine cW ?_
 refine Zb h rfl (fun hc10 => ?_) (fun hc10 => ?_)
 ·
  skip
  have hne : Z.length ≠ Y.length := Zxe hc10
  refine gC h (zS (za rfl (zn (zt ?_)))); clear h; intro a w h
  refine Jm h (Zc h rfl (.tmp rfl)) ?_
  rw [decide_eq_false (fun e => hne (by rw [e]))]
 ·
  skip
  have hle : Z.length = Y.length := Zud hc10
  refine gC h (zk (zs (zS (za rfl (zn (zb ?_)))))); clear h; intro a w h
  refine Zf (fun (i : Nat) a w => i ≤ Z.length ∧ (∀ k, k < i → Z.getD k Tz0 = Y.getD k Tz0) ∧ St 26 S w0 [(0, .slice ad Z.length ca), (1, .slice adb Y.length cb), (5, nI i)] [] [Row ad (cellsOf Qy Z), Row adb (cellsOf Qy Y)] a w) (fun i => Z.length - i) 0 (⟨Nat.zero_le _, fun k hk => absurd hk (Nat.not_lt_zero _), by exact (h).sub sA⟩) ?_; clear h
  rintro i a w ⟨hi_i, hinv_i, h⟩
  refine gC h (zs (zS (zm rfl (zm rfl (zp (.builtin [_] rfl (Zk _ _ _)) (zp (.lss rfl rfl) (zn ?_))))))); clear h; intro a w h
  refine cW ?_
  refine Zb h rfl (fun hc14 => ?_) (fun hc14 => ?_)
  ·
   skip
   have hlt_i : i < Z.length := dT hc14
   have hqi : Y.length ≠ 0 := oo
   obtain ⟨B_ad, O_ad, rfl⟩ := h.row_addr (ad := ad) (M := cellsOf Qy Z) mm (nE 7)
   obtain ⟨B_adb, O_adb, rfl⟩ := h.row_addr (ad := adb) (M := cellsOf Qy Y) mm (nE 7)
   refine gC h (zk (zs (zb (zs (yD Za [0, 1, 2, 3, 4, 5, 6, 7, 8] (Zd kk) (ym rfl rfl (ym rfl rfl (yp rfl (.indexAddr rfl rfl (Zao _ _ _ _ _ oo)) ?_)))))))); clear h
   refine Zm rfl kk rfl mm (cells_lt (k := 7) dd (fun _ => rfl) Z i oo) isAgg117 sizeOf117 (Zr (k := 7) (fun _ => rfl) ((fun _ => rfl)) Z Tz0 i oo) (.inl rfl) dd ?_
   refine ym rfl rfl (ym rfl rfl (yp rfl (.indexAddr rfl rfl (Zao _ _ _ _ _ oo)) ?_))
   refine Zm rfl kk rfl mm (cells_lt (k := 7) dd (fun _ => rfl) Y i oo) isAgg117 sizeOf117 (Zr (k := 7) (fun _ => rfl) ((fun _ => rfl)) Y Tz0 i oo) (.inl rfl) dd ?_
   refine yp rfl (.binOp rfl rfl (fun _ => Qfo _ _ (Z.getD i Tz0) (Y.getD i Tz0) _)) (yn ?_); intro a w h
   refine cW ?_
   refine Zb h rfl (fun hc25 => ?_) (fun hc25 => ?_)
   ·
    skip
    have hbad : ¬ Z.getD i Tz0 = Y.getD i Tz0 := of_decide_eq_false (by simpa using hc25)
    refine gC h (zS (za rfl (zn (zt ?_)))); clear h; intro a w h
    refine Jm h (Zc h rfl (.tmp rfl)) ?_
    rw [decide_eq_false (fun e => hbad (by rw [e]))]
   ·
    skip
    have hgood : Z.getD i Tz0 = Y.getD i Tz0 := of_decide_eq_true (by simpa using hc25)
    refine gC h (zk (zr (zm rfl (zp (.pN (i + 1) (.add rfl rfl)) (za rfl (zn ?_)))))); clear h; intro a w h
    exact ⟨i + 1, ⟨oo, fun k hk => by rcases Nat.lt_or_ge k i with h | h; exact hinv_i k h; rw [show k = i by omega]; exact hgood, (h.factsSub (by simp)).sub sA⟩, oo⟩
  ·
   skip
   have heq_i : Z.length = i := dF hc14
   subst heq_i
   refine gC h (ze (zS (za rfl (zn (zt ?_))))); clear h; intro a w h
   refine Jm h (Zc h rfl (.tmp rfl)) ?_
   rw [decide_eq_true (eqZ_of hle hinv_i)]
end
section
def Zml : List Rat → Nat → List Tm
 | [], _ => []
 | x :: l, k => ⟨k / 13, k % 13, x⟩ :: Zml l (k + 1)
def pol (X : List Rat) : List Tm := Zml X 0
theorem Zri : ∀ (X : List Rat) (k : Nat), (Zml X k).length = X.length
 | [], _ => rfl
 | x :: l, k => by rw [Zml, List.length_cons, List.length_cons, Zri l (k + 1)]
theorem Xi (X : List Rat) : (pol X).length = X.length := Zri X 0
theorem Zrj : ∀ (X : List Rat) (k m : Nat), m < X.length → (Zml X k).getD m T0 = ⟨(k + m) / 13, (k + m) % 13, X.getD m 0⟩
 | [], _, _, h => absurd h (Nat.not_lt_zero _)
 | x :: l, k, 0, _ => rfl
 | x :: l, k, m + 1, h => by
  rw [Zml, List.getD_cons_succ, Zrj l (k + 1) m (by simpa using h), List.getD_cons_succ, show k + 1 + m = k + (m + 1) by omega]
theorem Ku {X : List Rat} {m : Nat} (h : m < X.length) : (pol X).getD m T0 = ⟨m / 13, m % 13, X.getD m 0⟩ := by
 unfold pol; rw [Zrj X 0 m h, Nat.zero_add]
theorem Zhg (φ : Nat → Nat → Rat) (y : Rat) : ∀ (X : List Rat) (k m : Nat), m < X.length → lin φ (Zml (X.set m y) k) = lin φ (Zml X k) + (y - X.getD m 0) * φ ((k + m) / 13) ((k + m) % 13)
 | [], _, _, h => absurd h (Nat.not_lt_zero _)
 | x :: l, k, 0, _ => by simp only [List.set_cons_zero, Zml, lin, List.getD_cons_zero, Nat.add_zero]; grind
 | x :: l, k, m + 1, h => by
  have ih := Zhg φ y l (k + 1) m (by simpa using h)
  rw [show k + 1 + m = k + (m + 1) by omega] at ih
  simp only [List.set_cons_succ, Zml, lin, List.getD_cons_succ]; rw [ih]; grind
theorem Yu (φ : Nat → Nat → Rat) (y : Rat) {X : List Rat} {m : Nat} (h : m < X.length) : lin φ (pol (X.set m y)) = lin φ (pol X) + (y - X.getD m 0) * φ (m / 13) (m % 13) := by
 have := Zhg φ y X 0 m h
 rw [Nat.zero_add] at this; exact this
theorem Zfz (φ : Nat → Nat → Rat) : ∀ n k : Nat, lin φ (Zml (List.replicate n 0) k) = 0
 | 0, _ => rfl
 | n + 1, k => by rw [List.replicate_succ, Zml, lin, Zfz φ n (k + 1)]; grind
theorem Jh (φ : Nat → Nat → Rat) (n : Nat) : lin φ (pol (List.replicate n 0)) = 0 := Zfz φ n 0
theorem Zix {i j : Nat} (hj : j < 13) : ∀ (X : List Rat) (k : Nat), lin (at0 i j) (Zml X k) = if k ≤ 13 * i + j then X.getD (13 * i + j - k) 0 else 0
 | [], k => by simp [Zml, lin]
 | x :: l, k => by
  have ha : at0 i j (k / 13) (k % 13) = if k = 13 * i + j then 1 else 0 := by
   unfold at0
   by_cases h : k = 13 * i + j
   · rw [if_pos oo, if_pos h]
   · rw [if_neg oo, if_neg h]
  rw [Zml, lin, Zix hj l (k + 1)]
  dsimp only
  rw [ha]
  by_cases h : k = 13 * i + j
  · rw [if_pos h, if_neg oo, if_pos oo, show 13 * i + j - k = 0 by omega, List.getD_cons_zero]; grind
  ·
   rw [if_neg h]
   by_cases h2 : k ≤ 13 * i + j
   · rw [if_pos oo, if_pos h2, show 13 * i + j - k = (13 * i + j - (k + 1)) + 1 by omega, List.getD_cons_succ]; grind
   · rw [if_neg oo, if_neg h2]; grind
theorem Ziq {X : List Rat} {i j : Nat} (hj : j < 13) : lin (at0 i j) (pol X) = X.getD (13 * i + j) 0 := by
 unfold pol; rw [Zix hj X 0, if_pos (Nat.zero_le _), Nat.sub_zero]
theorem Zwz {X : List Rat} {p : List Tm} (h : Eqv (pol X) p) (k : Nat) : X.getD k 0 = lin (at0 (k / 13) (k % 13)) p := by
 rw [← h, Ziq (Nat.mod_lt _ dd)]; congr 1; omega
theorem Zip {X : List Rat} {t : Tm} (h : t ∈ pol X) : ∃ k, k < X.length ∧ t = ⟨k / 13, k % 13, X.getD k 0⟩ := by
 obtain ⟨k, hk, e⟩ := List.mem_iff_getElem.1 h
 rw [Xi] at hk
 refine ⟨k, hk, ?_⟩
 rw [← Ku hk, ← e]
 simp [List.getD, show k < (pol X).length by rw [Xi]; exact hk]
theorem Hb.sub {K : Nat} {l m : List Tm} (h : Hb K l) (h1 : ∀ t ∈ m, t ∈ l) (h2 : sab m ≤ sab l) : Hb K m := by
 obtain ⟨D, N, a, b, c, d, e⟩ := h
 refine ⟨D, N, a, b, c, fun t ht => d t (h1 t ht), ?_⟩
 have := Jx h2 (Xd D)
 grind
theorem Qel {D a b : Nat} : ∀ {p : List Tm}, (∀ t ∈ p, ID D t.c) → ID D (lin (at0 a b) p)
 | [], _ => ID.zero D
 | t :: p, h => by
  rw [lin]
  refine ID.add ?_ (Qel (fun s hs => h s (List.mem_cons_of_mem _ hs)))
  unfold at0
  split
  · rw [Rat.mul_one]; exact h t List.mem_cons_self
  · rw [Rat.mul_zero]; exact ID.zero D
theorem Zko {φ : Nat → Nat → Rat} (h : ∀ i j, φ i j = 1 ∨ φ i j = -1) : ∀ p : List Tm, lin φ p ≤ sab p
 | [] => by simp only [lin, sab]; grind
 | t :: p => by
  have ih := Zko h p
  have h1 : t.c * φ t.i t.j ≤ ab t.c := by
   rcases h t.i t.j with e | e <;> rw [e] <;> unfold ab <;> split <;> grind
  simp only [lin, sab]; grind
theorem Zq4 (φ : Nat → Nat → Rat) : ∀ (l : List Rat) (k : Nat), (∀ m, m < l.length → φ ((k + m) / 13) ((k + m) % 13) = if l.getD m 0 < 0 then -1 else 1) → sab (Zml l k) = lin φ (Zml l k)
 | [], _, _ => rfl
 | x :: l, k, h => by
  have ih := Zq4 φ l (k + 1) (fun m hm => by
   have := h (m + 1) (by simpa using hm)
   rwa [show k + (m + 1) = k + 1 + m by omega, List.getD_cons_succ] at this)
  have h0 := h 0 ss
  rw [Nat.add_zero, List.getD_cons_zero] at h0
  simp only [Zml, sab, lin, ih, h0]
  unfold ab
  split <;> grind
theorem Zt4 {X : List Rat} {p : List Tm} (h : Eqv (pol X) p) : sab (pol X) ≤ sab p := by
 have e := Zq4 (fun i j => if X.getD (13 * i + j) 0 < 0 then -1 else 1) X 0 (fun m hm => by
  rw [Nat.zero_add]
  have : 13 * (m / 13) + m % 13 = m := oo
  simp only [this])
 have e2 : sab (pol X) = lin (fun i j => if X.getD (13 * i + j) 0 < 0 then -1 else 1) p := by rw [← h]; exact e
 rw [e2]
 exact Zko (fun i j => by split <;> simp) p
theorem Hb.of_eqv {K : Nat} {X : List Rat} {p : List Tm} (h : Hb K p) (he : Eqv (pol X) p) : Hb K (pol X) := by
 obtain ⟨D, N, a, b, c, d, e⟩ := h
 refine ⟨D, N, a, b, c, fun t ht => ?_, ?_⟩
 ·
  obtain ⟨k, hk, rfl⟩ := Zip ht
  show ID D (X.getD k 0)
  rw [Zwz he k]; exact Qel d
 ·
  have := Jx (Zt4 he) (Xd D)
  grind
structure Tb (d K : Nat) (X : List Rat) : Prop where
 len : X.length = 169
 deg : ∀ k, k < 169 → X.getD k 0 ≠ 0 → k / 13 + k % 13 ≤ d
 hgt : Hb K (pol X)
theorem Tb.siz {d K : Nat} {X : List Rat} (h : Tb d K X) {k : Nat} (hk : k < 169) : Qc (X.getD k 0) ≤ K := by
 have h1 := h.hgt.siz _ (getD_mem (pol X) (d := T0) (show k < (pol X).length by rw [Xi, h.len]; exact hk))
 rwa [Ku (by rw [h.len]; exact hk)] at h1
theorem Tb.of_eqv {d K : Nat} {X : List Rat} {p : List Tm} (hl : X.length = 169) (he : Eqv (pol X) p) (hd : DL d p) (hh : Hb K p) : Tb d K X := by
 refine ⟨hl, fun k hk hne => ?_, hh.of_eqv he⟩
 rw [Zwz he k] at hne
 obtain ⟨u, hu, e1, e2⟩ := Zh7 hne
 have := Qm hd u hu
 omega
theorem Tb.mono {d K d' K' : Nat} {X : List Rat} (h : Tb d K X) (hd : d ≤ d') (hk : K ≤ K') : Tb d' K' X := ⟨h.len, fun k hk hne => Nat.le_trans (h.deg k hk hne) hd, h.hgt.mono hk⟩
theorem Tb.zero (d : Nat) : Tb d 1 (List.replicate 169 0) := Tb.of_eqv (p := []) ss (fun φ => by rw [Jh, Zle]) (fun _ h => nomatch h) Hb.nil
def qM (A B : List Rat) (k m : Nat) : List Tm := Jg ((pol A).take k) (pol B) ++ ((pol B).take m).map (mulS ((pol A).getD k T0))
theorem Zq3 (l : List Tm) : ∀ n, sab (l.take n) ≤ sab l := by
 induction l with
 | nil => intro n; rw [List.take_nil]; grind
 | cons t l ih =>
  intro n
  cases n with
  | zero => rw [List.take_zero]; have := Za5 (t :: l); simp only [sab] at *; grind
  | succ n => rw [List.take_succ_cons, sab, sab]; have := ih n; grind
theorem qM_Hb {Ka Kb : Nat} {A B : List Rat} (ha : Hb Ka (pol A)) (hb : Hb Kb (pol B)) {k m : Nat} (hk : k < A.length) : Hb (Ka + Kb) (qM A B k m) := by
 refine (ha.mul hb).sub (fun t ht => ?_) ?_
 ·
  unfold qM Jg at *
  have hmem := getD_mem (pol A) (d := T0) (show k < (pol A).length by rw [Xi]; exact hk)
  rcases List.mem_append.1 ht with h | h
  ·
   obtain ⟨s, hs, h⟩ := List.mem_flatMap.1 h
   exact List.mem_flatMap.2 ⟨s, List.mem_of_mem_take hs, h⟩
  ·
   obtain ⟨s, hs, rfl⟩ := List.mem_map.1 h
   exact List.mem_flatMap.2 ⟨_, hmem, List.mem_map.2 ⟨s, List.mem_of_mem_take hs, rfl⟩⟩
 ·
  unfold qM
  have e1 := Ze8 ((pol A).getD k T0) ((pol B).take m)
  have e2 := Zq3 (pol B) m
  have e3 := Zq3 (pol A) (k + 1)
  have e4 : sab ((pol A).take (k + 1)) = sab ((pol A).take k) + ab ((pol A).getD k T0).c := by
   rw [take_snoc (pol A) (show k < (pol A).length by rw [Xi]; exact hk), Zcl]; simp only [sab]; grind
  have e5 := Jx e2 (Zc1 ((pol A).getD k T0).c)
  have e6 := Jx e3 (Za5 (pol B))
  have e7 : sab (((pol B).take m).map (mulS ((pol A).getD k T0))) = ab ((pol A).getD k T0).c * sab ((pol B).take m) := e1
  rw [Zcl, Zk4, Zk4, e7]
  rw [e4] at e6
  grind
theorem Qfx {A B X : List Rat} {k m i j : Nat} (hA : A.length = 169) (hB : B.length = 169) (hX : X.length = 169) (hk : k < 169) (hm : m < 169) (hi : i = k / 13 + m / 13) (hj : j = k % 13 + m % 13) (hij : i + j ≤ 12) (h : Eqv (pol X) (qM A B k m)) :
  Eqv (pol (X.set (13 * i + j) (X.getD (13 * i + j) 0 + A.getD k 0 * B.getD m 0))) (qM A B k (m + 1)) := fun φ => by
 rw [Yu φ _ oo, h φ]
 have e : qM A B k (m + 1) = qM A B k m ++ [mulS ((pol A).getD k T0) ((pol B).getD m T0)] := by
  unfold qM; rw [take_snoc (pol B) (show m < (pol B).length by rw [Xi, hB]; exact hm), List.map_append, List.append_assoc]; rfl
 rw [e, Jf, Ku (by rw [hA]; exact hk), Ku (by rw [hB]; exact hm)]
 rw [show (13 * i + j) / 13 = i by omega, show (13 * i + j) % 13 = j by omega]
 simp only [lin, mulS, ← hi, ← hj]; grind
theorem Qfy {A B X : List Rat} {k m : Nat} (hA : A.length = 169) (hB : B.length = 169) (hk : k < 169) (hm : m < 169) (hz : A.getD k 0 = 0 ∨ B.getD m 0 = 0) (h : Eqv (pol X) (qM A B k m)) : Eqv (pol X) (qM A B k (m + 1)) := fun φ => by
 rw [h φ]
 have e : qM A B k (m + 1) = qM A B k m ++ [mulS ((pol A).getD k T0) ((pol B).getD m T0)] := by
  unfold qM; rw [take_snoc (pol B) (show m < (pol B).length by rw [Xi, hB]; exact hm), List.map_append, List.append_assoc]; rfl
 rw [e, Jf, Ku (by rw [hA]; exact hk), Ku (by rw [hB]; exact hm)]
 simp only [lin, mulS]
 rcases hz with hz | hz <;> rw [hz] <;> grind
theorem qM_row {A B X : List Rat} {k : Nat} (hA : A.length = 169) (hB : B.length = 169) (hk : k < 169) (h : Eqv (pol X) (qM A B k 169)) : Eqv (pol X) (qM A B (k + 1) 0) := fun φ => by
 rw [h φ]
 unfold qM
 rw [List.take_zero, List.map_nil, List.append_nil, ← Znd (pol A) (pol B) k (by rw [Xi, hA]; exact hk), List.take_of_length_le (l := pol B) (by rw [Xi, hB]; exact Nat.le_refl _)]
theorem qM_end {A B X : List Rat} (hA : A.length = 169) (h : Eqv (pol X) (qM A B 169 0)) : Eqv (pol X) (Jg (pol A) (pol B)) := fun φ => by
 rw [h φ]; unfold qM
 rw [List.take_zero, List.map_nil, List.append_nil, List.take_of_length_le (l := pol A) (by rw [Xi, hA]; exact Nat.le_refl _)]
def Zs7 (A B : List Rat) : Nat → List Rat
 | 0 => List.replicate 169 0
 | k + 1 => (Zs7 A B k).set k (A.getD k 0 + B.getD k 0)
def scX (c : Rat) (A : List Rat) : Nat → List Rat
 | 0 => List.replicate 169 0
 | k + 1 => (scX c A k).set k (c * A.getD k 0)
theorem Zma (A B : List Rat) : ∀ k, (Zs7 A B k).length = 169
 | 0 => by simp [Zs7]
 | k + 1 => by rw [Zs7, List.length_set, Zma A B k]
theorem Zpc (c : Rat) (A : List Rat) : ∀ k, (scX c A k).length = 169
 | 0 => by simp [scX]
 | k + 1 => by rw [scX, List.length_set, Zpc c A k]
theorem Kh {l : List Rat} {i j : Nat} {x : Rat} (h : i ≠ j) : (l.set i x).getD j 0 = l.getD j 0 := by
 simp only [List.getD_eq_getElem?_getD, List.getElem?_set, if_neg h]
theorem Zzh (A B : List Rat) : ∀ k j, k ≤ j → (Zs7 A B k).getD j 0 = 0
 | 0, j, _ => by
  rw [Zs7, List.getD_eq_getElem?_getD, List.getElem?_replicate]; split <;> rfl
 | k + 1, j, h => by rw [Zs7, Kh oo, Zzh A B k j oo]
theorem Qdt (c : Rat) (A : List Rat) : ∀ k j, k ≤ j → (scX c A k).getD j 0 = 0
 | 0, j, _ => by
  rw [scX, List.getD_eq_getElem?_getD, List.getElem?_replicate]; split <;> rfl
 | k + 1, j, h => by rw [scX, Kh oo, Qdt c A k j oo]
theorem Zs5 {A B : List Rat} (hA : A.length = 169) (hB : B.length = 169) : ∀ k, k ≤ 169 → Eqv (pol (Zs7 A B k)) ((pol A).take k ++ (pol B).take k)
 | 0, _ => fun φ => by rw [Zs7, Jh]; rfl
 | k + 1, h => fun φ => by
  have ih := Zs5 hA hB k oo φ
  rw [Zs7, Yu φ _ (by rw [Zma]; omega), ih, Zzh A B k k (Nat.le_refl _), take_snoc (pol A) (show k < (pol A).length by rw [Xi]; omega), take_snoc (pol B) (show k < (pol B).length by rw [Xi]; omega),
   Ku oo, Ku oo]
  simp only [Jf, lin]; grind
theorem Zv8 {c : Rat} {A : List Rat} (hA : A.length = 169) : ∀ k, k ≤ 169 → Eqv (pol (scX c A k)) (Zs c ((pol A).take k))
 | 0, _ => fun φ => by rw [scX, Jh]; rfl
 | k + 1, h => fun φ => by
  have ih := Zv8 (c := c) hA k oo φ
  rw [scX, Yu φ _ (by rw [Zpc]; omega), ih, Qdt c A k k (Nat.le_refl _), take_snoc (pol A) (show k < (pol A).length by rw [Xi]; omega), Ku oo]
  simp only [Vl, Jf, lin]; grind
theorem Zs6 {A B : List Rat} (hA : A.length = 169) (hB : B.length = 169) : Eqv (pol (Zs7 A B 169)) (pol A ++ pol B) := fun φ => by
 have := Zs5 hA hB 169 (Nat.le_refl _) φ
 rwa [List.take_of_length_le (by rw [Xi]; omega), List.take_of_length_le (by rw [Xi]; omega)] at this
theorem Zv9 {c : Rat} {A : List Rat} (hA : A.length = 169) : Eqv (pol (scX c A 169)) (Zs c (pol A)) := fun φ => by
 have := Zv8 (c := c) hA 169 (Nat.le_refl _) φ
 rwa [List.take_of_length_le (by rw [Xi]; omega)] at this
def Zuh (a b c : Rat) : List Rat := (((List.replicate 169 (0 : Rat)).set 13 a).set 1 b).set 0 c
theorem Zni (a b c : Rat) : Eqv (pol (Zuh a b c)) (ln a b c) := fun φ => by
 have z : ∀ j, (List.replicate 169 (0 : Rat)).getD j 0 = 0 := fun j => by rw [List.getD_eq_getElem?_getD, List.getElem?_replicate]; split <;> rfl
 unfold Zuh
 rw [Yu φ _ ss, Yu φ _ ss, Yu φ _ ss, Jh]
 rw [Kh dd, Kh dd, Kh dd, z, z, z]
 simp only [ln, lin]
 show _ = a * φ 1 0 + (b * φ 0 1 + (c * φ 0 0 + 0))
 simp only [show 13 / 13 = 1 from rfl, show 13 % 13 = 0 from rfl, show 1 / 13 = 0 from rfl, show 1 % 13 = 1 from rfl, show 0 / 13 = 0 from rfl, show 0 % 13 = 0 from rfl]; grind
def oneX : List Rat := (List.replicate 169 (0 : Rat)).set 0 ((1 : Int) : Rat)
theorem Zrl : Eqv (pol oneX) [⟨0, 0, 1⟩] := fun φ => by
 have z : (List.replicate 169 (0 : Rat)).getD 0 0 = 0 := rfl
 unfold oneX
 rw [Yu φ _ ss, Jh, z]
 simp only [lin, show ((1 : Int) : Rat) = 1 from rfl, show 0 / 13 = 0 from rfl, show 0 % 13 = 0 from rfl]; grind
def noY (l : List Tm) : List Tm := l.map (fun t => ⟨t.i, 0, t.c⟩)
def sgF (X : List Rat) : Nat → Rat
 | 0 => 0
 | i + 1 => sgF X i + X.getD (13 * i) 0 / (((i + 1 : Nat) : Int) : Rat)
end
section
theorem Gt (b off n c j : Nat) (h : j < n) (w : World) : (Instr.indexAt 31 (.slice (some ⟨b, off, none⟩) n c) (.int .i64 (j : Int))).run Tryz.prog w = .ok (.pointer (some ⟨b, off + j * 3, none⟩)) w := by
 simpa using Xx runUnderlying31 sizeOf56 b off n c j h w
theorem Zlg (a : Option Addr) (n c : Nat) (w : World) (ty : TypeId) (cs : Array Bool) : (Go.builtin .len #[102] ty cs #[.slice a n c]).run Tryz.prog w = .ok (.value (.int .i64 n)) w := by
 simp [go_sem]
theorem Zf3 (b off n c j : Nat) (h : j < n) (w : World) : (Instr.indexAt 102 (.slice (some ⟨b, off, none⟩) n c) (.int .i64 (j : Int))).run Tryz.prog w = .ok (.pointer (some ⟨b, off + j * 5, none⟩)) w := by
 simpa using Xx runUnderlying102 sizeOf105 b off n c j h w
theorem Zh2 {b off : Nat} (w : World) : (Instr.fieldAt 105 (.pointer (some ⟨b, off, none⟩)) 0).run Tryz.prog w = .ok (.pointer (some ⟨b, off + 0, none⟩)) w := by
 simp [go_sem]
theorem Zh1 {b off : Nat} (w : World) : (Instr.fieldAt 105 (.pointer (some ⟨b, off, none⟩)) 1).run Tryz.prog w = .ok (.pointer (some ⟨b, off + 1, none⟩)) w := by
 simp [go_sem]
theorem Qce {b off : Nat} (w : World) : (Instr.fieldAt 105 (.pointer (some ⟨b, off, none⟩)) 2).run Tryz.prog w = .ok (.pointer (some ⟨b, off + 2, none⟩)) w := by
 simp [go_sem]
abbrev xs (l : List FT) : List Rat := l.map FT.x
theorem Zdm (l : List FT) : (xs l).length = l.length := List.length_map _
theorem Yz (l : List FT) (k : Nat) : (l.getD k FT0).x = (xs l).getD k 0 := by
 simp only [xs, List.getD_eq_getElem?_getD, List.getElem?_map]
 cases l[k]? <;> rfl
theorem Ze2 (l : List FT) (k : Nat) (e : FT) : xs (l.set k e) = (xs l).set k e.x := List.map_set
theorem Vx : xs (List.replicate 169 FT0) = List.replicate 169 0 := by
 simp only [xs, List.map_replicate]; rfl
theorem AllF.set {l : List FT} {e : FT} {k : Nat} {X : Nat → Prop} {w : World} (h : (AllF l).p X w) (h1 : (Row e.a1 (List.map Zv (dg e.x.num.natAbs))).p X w) (h2 : (Row e.a2 (List.map Zv (dg (e.x.den - 1)))).p X w) : (AllF (l.set k e)).p X w := by
 intro f hf
 rcases List.mem_or_eq_of_mem_set hf with hf | rfl
 · exact h f hf
 · exact ⟨h1, h2⟩
theorem AllF.zeros (n : Nat) (X : Nat → Prop) (w : World) : (AllF (List.replicate n FT0)).p X w := by
 intro f hf
 rw [(List.mem_replicate.1 hf).2]
 have e1 : List.map Zv (dg FT0.x.num.natAbs) = [] := by rw [show FT0.x.num.natAbs = 0 from rfl, Js]; rfl
 have e2 : List.map Zv (dg (FT0.x.den - 1)) = [] := by rw [show FT0.x.den - 1 = 0 from rfl, Js]; rfl
 rw [e1, e2]
 exact ⟨fun hne => absurd rfl hne, fun hne => absurd rfl hne⟩
theorem Zwy {K : Nat} {X : List Rat} (h : Hb K (pol X)) {k : Nat} (hk : k < X.length) : Qc (X.getD k 0) ≤ K := by
 have h1 := h.siz _ (getD_mem (pol X) (d := T0) (show k < (pol X).length by rw [Xi]; exact hk))
 rwa [Ku hk] at h1
theorem Tb.nrmDL {d K : Nat} {X : List Rat} (h : Tb d K X) : DL d (norm (pol X)) := fun u hu => by
 obtain ⟨hc, hne⟩ := Zay hu
 obtain ⟨t, ht, e1, e2⟩ := Zah hc
 obtain ⟨k, hk, rfl⟩ := Zip ht
 have h1 := Zdd (Qr (pol X)) hu
 rw [Kq, e1, e2] at h1
 rw [h.len] at hk
 have h2 := Ziq (X := X) (i := k / 13) (j := k % 13) (Nat.mod_lt _ dd)
 rw [show 13 * (k / 13) + k % 13 = k by omega] at h2
 have h3 := h.deg k hk (by rw [← h2]; simp only at h1; rw [h1]; exact hne)
 simp only at e1 e2
 omega
theorem Tb.pq {d K : Nat} {X : List Rat} (h : Tb d K X) (hd : d ≤ 12) : Pq d K (norm (pol X)) :=
 ⟨h.nrmDL, Nat.le_trans (Zk9 (Qr (pol X)) h.nrmDL) (Nat.le_trans (Zem (show d + 1 ≤ 13 by omega)) dd), h.hgt.nrm⟩
theorem Tb.of_pq {d K : Nat} {X : List Rat} {p : List Tm} (hl : X.length = 169) (he : Eqv (pol X) p) (h : Pq d K (norm p)) : Tb d K X :=
 Tb.of_eqv hl (he.trans (Eqv.nrm p).symm) h.deg h.hgt
theorem Tb.lenl {d K : Nat} {l : List FT} (h : Tb d K (xs l)) : l.length = 169 := by rw [← Zdm]; exact h.len
theorem Tb.sizl {d K : Nat} {l : List FT} (h : Tb d K (xs l)) {k : Nat} (hk : k < 169) : Qc (l.getD k FT0).x ≤ K := by rw [Yz]; exact h.siz hk
theorem Tb.degl {d K : Nat} {l : List FT} (h : Tb d K (xs l)) {k : Nat} (hk : k < 169) (hne : (l.getD k FT0).x ≠ 0) : k / 13 + k % 13 ≤ d := h.deg k hk (by rw [← Yz]; exact hne)
theorem Tb.mulP {da db Ka Kb : Nat} {A B X : List Rat} (ha : Tb da Ka A) (hb : Tb db Kb B) (hd : da + db ≤ 12) (hl : X.length = 169) (he : Eqv (pol X) (Jg (pol A) (pol B))) : Tb (da + db) (Ka + Kb) X := by
 refine Tb.of_pq hl he ?_
 rw [Ji (show Eqv (Jg (pol A) (pol B)) (Jg (norm (pol A)) (norm (pol B))) from (Eqv.nrm _).symm.mul (Eqv.nrm _).symm)]
 exact Pq.mul (ha.pq oo) (hb.pq oo) hd
theorem Tb.addP {da db Ka Kb : Nat} {A B X : List Rat} (ha : Tb da Ka A) (hb : Tb db Kb B) (h1 : da ≤ 12) (h2 : db ≤ 12) (hl : X.length = 169) (he : Eqv (pol X) (pol A ++ pol B)) : Tb (max da db) (Ka + Kb + 2) X := by
 refine Tb.of_pq hl he ?_
 rw [Ji (show Eqv (pol A ++ pol B) (norm (pol A) ++ norm (pol B)) from (Eqv.nrm _).symm.append (Eqv.nrm _).symm)]
 exact Pq.add (ha.pq h1) (hb.pq h2) h1 h2
theorem Tb.scaleP {d K Kc : Nat} {c : Rat} {A X : List Rat} (ha : Tb d K A) (hc : Qc c ≤ Kc) (h1 : d ≤ 12) (hl : X.length = 169) (he : Eqv (pol X) (Zs c (pol A))) : Tb d (Kc + K + 1) X := by
 refine Tb.of_pq hl he ?_
 rw [Ji (show Eqv (Zs c (pol A)) (Zs c (norm (pol A))) from (Eqv.nrm _).symm.scale c)]
 exact Pq.scale (ha.pq h1) hc h1
theorem Zxr (a b c : Rat) : (Zuh a b c).length = 169 := by unfold Zuh; simp only [List.length_set, List.length_replicate]
theorem Qbr : oneX.length = 169 := by unfold oneX; simp only [List.length_set, List.length_replicate]
theorem Tb.lineP {K : Nat} {a b c : Rat} (ha : Qc a ≤ K) (hb : Qc b ≤ K) (hc : Qc c ≤ K) : Tb 1 (3 * K + 4) (Zuh a b c) :=
 Tb.of_eqv (Zxr a b c) (Zni a b c) (Pq.line ha hb hc).deg (Pq.line ha hb hc).hgt
theorem Tb.oneP : Tb 0 4 oneX := Tb.of_eqv Qbr Zrl Pq.one.deg Pq.one.hgt
def PostT (d K : Nat) (p : List Tm) (v : Value) (Ψ : List Zy) : Prop := ∃ b l, v = .slice (some ⟨b, 0, none⟩) 169 169 ∧ Tb d K (xs l) ∧ Eqv (pol (xs l)) p ∧ Ψ = [Row (some ⟨b, 0, none⟩) (cellsOf Jr l), AllF l]
def Qeh (d K : Nat) (p : List Tm) (v : Value) (Ψ : List Zy) : Prop := ∃ b l, v = .tuple #[.slice (some ⟨b, 0, none⟩) 169 169, .int .i64 0] ∧ Tb d K (xs l) ∧ Eqv (pol (xs l)) p ∧ Ψ = [Row (some ⟨b, 0, none⟩) (cellsOf Jr l), AllF l]
theorem Qa6 {X Y : List Tm} {A : List Rat} {k : Nat} (hk : k < A.length) (hz : A.getD k 0 = 0) : Eqv (sbL X Y ((pol A).take (k + 1))) (sbL X Y ((pol A).take k)) := fun φ => by
 rw [take_snoc (pol A) (show k < (pol A).length by rw [Xi]; exact hk), Zhv, Jf, Ku hk, hz]
 unfold sbT; rw [Vl]; grind
theorem Qa5 {X Y : List Tm} {A : List Rat} {k : Nat} (hk : k < A.length) : Eqv (sbL X Y ((pol A).take (k + 1))) (sbL X Y ((pol A).take k) ++ Zs (A.getD k 0) (Jg (Yb X (k / 13)) (Yb Y (k % 13)))) := fun φ => by
 rw [take_snoc (pol A) (show k < (pol A).length by rw [Xi]; exact hk), Zhv, Ku hk]; rfl
theorem Qfl {X Y : List Tm} {A : List Rat} (hA : A.length = 169) : sbL X Y ((pol A).take 169) = sbL X Y (pol A) := by
 rw [List.take_of_length_le (by rw [Xi, hA]; exact Nat.le_refl _)]
theorem Qan (x : Rat) : (x.num.sign == 0) = decide (x = 0) := by
 by_cases h : x = 0
 · subst h; rfl
 · rw [decide_eq_false h]; exact beq_eq_false_iff_ne.2 (fun e => h (Rat.num_eq_zero.1 (Int.sign_eq_zero_iff_zero.1 e)))
theorem AllF.g1 {l : List FT} {X : Nat → Prop} {w : World} (h : (AllF l).p X w) (k : Nat) : (Row (l.getD k FT0).a1 (List.map Zv (dg (l.getD k FT0).x.num.natAbs))).p X w := by
 by_cases hk : k < l.length
 · exact AllF.get1 h (getD_mem _ hk)
 · rw [List.getD_eq_getElem?_getD, List.getElem?_eq_none oo]; exact (AllF.zeros 1 X w FT0 ss).1
theorem AllF.g2 {l : List FT} {X : Nat → Prop} {w : World} (h : (AllF l).p X w) (k : Nat) : (Row (l.getD k FT0).a2 (List.map Zv (dg ((l.getD k FT0).x.den - 1)))).p X w := by
 by_cases hk : k < l.length
 · exact AllF.get2 h (getD_mem _ hk)
 · rw [List.getD_eq_getElem?_getD, List.getElem?_eq_none oo]; exact (AllF.zeros 1 X w FT0 ss).2
def Qeg (A B : List Rat) : Prop := ∃ k m, k < 169 ∧ m < 169 ∧ A.getD k 0 ≠ 0 ∧ B.getD m 0 ≠ 0 ∧ 12 < k / 13 + m / 13 + (k % 13 + m % 13)
def NB (A B : List Rat) (k m : Nat) : Prop := ∀ k2 m2, m2 < 169 → (k2 < k ∨ k2 = k ∧ m2 < m) → A.getD k2 0 ≠ 0 → B.getD m2 0 ≠ 0 → k2 / 13 + m2 / 13 + (k2 % 13 + m2 % 13) ≤ 12
theorem NB.zero {A B : List Rat} : NB A B 0 0 := fun k2 m2 _ h => by omega
theorem NB.row {A B : List Rat} {k : Nat} (h : NB A B k 169) : NB A B (k + 1) 0 := fun k2 m2 h1 h2 => h k2 m2 h1 oo
theorem NB.skip {A B : List Rat} {k m : Nat} (h : NB A B k m) (hz : A.getD k 0 = 0 ∨ B.getD m 0 = 0) : NB A B k (m + 1) := fun k2 m2 h1 h2 h3 h4 => by
 by_cases e : k2 = k ∧ m2 = m
 ·
  obtain ⟨rfl, rfl⟩ := e
  rcases hz with hz | hz
  · exact absurd hz h3
  · exact absurd hz h4
 · exact h k2 m2 h1 oo h3 h4
theorem NB.step {A B : List Rat} {k m : Nat} (h : NB A B k m) (hd : k / 13 + m / 13 + (k % 13 + m % 13) ≤ 12) : NB A B k (m + 1) := fun k2 m2 h1 h2 h3 h4 => by
 by_cases e : k2 = k ∧ m2 = m
 · obtain ⟨rfl, rfl⟩ := e; exact hd
 · exact h k2 m2 h1 oo h3 h4
theorem NB.fin {A B : List Rat} (h : NB A B 169 0) (hb : Qeg A B) : False := by
 obtain ⟨k, m, h1, h2, h3, h4, h5⟩ := hb
 have := h k m h2 (.inl h1) h3 h4
 omega
def PostE (v : Value) (Ψ : List Zy) : Prop := ∃ b l, v = .tuple #[.slice (some ⟨b, 0, none⟩) 169 169, .int .i64 9] ∧ l.length = 169 ∧ Eqv (pol (xs l)) [] ∧ Ψ = [Row (some ⟨b, 0, none⟩) (cellsOf Jr l), AllF l]
def PostW (A B : List Rat) (v : Value) (Ψ : List Zy) : Prop := ∃ b l e, v = .tuple #[.slice (some ⟨b, 0, none⟩) 169 169, .int .i64 e] ∧ (e = 0 ∧ NB A B 169 0 ∧ l.length = 169 ∧ Eqv (pol (xs l)) (Jg (pol A) (pol B)) ∨ e = 9 ∧ Qeg A B ∧ l.length = 169 ∧ Eqv (pol (xs l)) []) ∧ Ψ = [Row (some ⟨b, 0, none⟩) (cellsOf Jr l), AllF l]
theorem Za0 {P : Program} {f : FuncId} {args : List Value} {Φ : List Zy} {p q : Value → List Zy → Prop} (h : Ctr P f args Φ p) (hpq : ∀ v Ψ, p v Ψ → q v Ψ) : Ctr P f args Φ q := fun X w hX hΦ =>
 (h X w hX hΦ).mono fun e w' ⟨u, Ψ, h1, h2, h3⟩ => ⟨u, Ψ, h1, hpq u Ψ h2, h3⟩
theorem Tb.nbad {da db Ka Kb : Nat} {A B : List Rat} (ha : Tb da Ka A) (hb : Tb db Kb B) (hd : da + db ≤ 12) (h : Qeg A B) : False := by
 obtain ⟨k, m, h1, h2, h3, h4, h5⟩ := h
 have a := ha.deg k h1 h3
 have b := hb.deg m h2 h4
 omega
theorem zeroFT (w : World) : (zeroValue 56).run Tryz.prog w = .ok (Jr FT0) w := Zos w
theorem Gb : Zj3 Tryz.prog 105 [] [] (fun v σn => ∃ b, v = .slice (some ⟨b, 0, none⟩) 169 169 ∧ σn = [(b, .cells (cellsOf Jr (List.replicate 169 FT0)).toArray 56 (0, 0))]) := by
 refine fn_introO func105 rfl ntmps105 nb ?_
 intro S w0 a hS h
 refine gC h (zS (za rfl (zn (zS ?_)))); clear h; intro a w h
 refine Zi (Xn h rfl rfl runUnderlying31 typeInfo56 sizeOf56 zeroFT rfl dd (by exact Nat.le_refl _) (by show 56 * (169) ≤ 281474976710656; omega) dd dd ?_); clear h; intro b1 a w h; replace h := h.same rfl (by rw [← Zg6 (enc := Jr)]) rfl
 refine gL h (za rfl (zn (zt ?_))); clear h; intro a w h
 exact Zoq h (Zc h rfl (.tmp rfl)) ⟨b1, rfl, rfl⟩ (List.Sublist.refl _)
theorem Qeo : Ctr Tryz.prog 163 [] [] (PostT 0 4 [⟨0, 0, 1⟩]) := by
 refine fn_intro func163 rfl ntmps163 nb ?_
 intro S w0 a hS h
 refine gC h (zS (za rfl (zn (zS ?_)))); clear h; intro a w h
 refine Zi (Jb h (vs := []) rfl call105 (Gb) ss dd ?_); clear h; rintro v2 σ2 a w ⟨b2, rfl, rfl⟩ h
 replace h := h.derive (R := AllF (List.replicate 169 FT0)) (fun X hX => AllF.zeros 169 X _)
 refine gL h (za rfl (zn (zS (zm rfl (zf [_] rfl call67 (Zkx 1 oo oo) ?_))))); rintro v4 Ψ4 ⟨ad4, c4, bd4, d4, rfl, hle4, hlf4, rfl⟩
 have hl4 := Zw 1 oo oo
 refine zp (.indexAddr rfl rfl (Gt _ _ _ _ 0 oo)) (zt' (b := b2) (cs := (cellsOf Jr (List.replicate 169 FT0)).toArray) (cs' := (cellsOf Jr ((List.replicate 169 FT0).set 0 (FT.mk (((1 : Int) : Rat)) ad4 c4 bd4 d4 hle4 hlf4))).toArray) (v := Jr (FT.mk (((1 : Int) : Rat)) ad4 c4 bd4 d4 hle4 hlf4)) rfl rfl (Yd (k := 3) (fun _ => rfl) (List.replicate 169 FT0) 0 ss (FT.mk (((1 : Int) : Rat)) ad4 c4 bd4 d4 hle4 hlf4)) uu sizeOf56 rfl (Vv (k := 3) (fun _ => rfl) (List.replicate 169 FT0) 0 ss) rfl ?_)
 refine zn (zS (zm rfl (za rfl (zn (zt ?_))))); intro a w h
 replace h := h.derive (R := AllF ((List.replicate 169 FT0).set 0 (FT.mk (((1 : Int) : Rat)) ad4 c4 bd4 d4 hle4 hlf4))) (fun X hX => AllF.set (hX _ mm) (hX _ mm) (hX _ mm))
 replace h := h.shareAll hS (cellsOf Jr ((List.replicate 169 FT0).set 0 (FT.mk (((1 : Int) : Rat)) ad4 c4 bd4 d4 hle4 hlf4))) rfl
 have hx : xs ((List.replicate 169 FT0).set 0 (FT.mk (((1 : Int) : Rat)) ad4 c4 bd4 d4 hle4 hlf4)) = oneX := by rw [Ze2, Vx]; rfl
 exact Qg (Ψ := [Row (some ⟨b2, 0, none⟩) (cellsOf Jr ((List.replicate 169 FT0).set 0 (FT.mk (((1 : Int) : Rat)) ad4 c4 bd4 d4 hle4 hlf4))), AllF ((List.replicate 169 FT0).set 0 (FT.mk (((1 : Int) : Rat)) ad4 c4 bd4 d4 hle4 hlf4))]) h (Zc h rfl (.tmp rfl)) ⟨b2, _, rfl, by rw [hx]; exact Tb.oneP, by rw [hx]; exact Zrl, rfl⟩ ss
theorem Zzw (p1 p3 q1 q3 r1 r3 : Option Addr) (p2 p4 q2 q4 r2 r4 : Nat) (x y z : Rat) (K : Nat) (hx : Qc x ≤ K) (hy : Qc y ≤ K) (hz : Qc z ≤ K) (hp2 : (dg x.num.natAbs).length ≤ p2) (hp4 : (dg (x.den - 1)).length ≤ p4) (hq2 : (dg y.num.natAbs).length ≤ q2) (hq4 : (dg (y.den - 1)).length ≤ q4) (hr2 : (dg z.num.natAbs).length ≤ r2) (hr4 : (dg (z.den - 1)).length ≤ r4) : Ctr Tryz.prog 125 [fV x p1 p2 p3 p4, fV y q1 q2 q3 q4, fV z r1 r2 r3 r4] [Row p1 (List.map Zv (dg x.num.natAbs)), Row p3 (List.map Zv (dg (x.den - 1))), Row q1 (List.map Zv (dg y.num.natAbs)), Row q3 (List.map Zv (dg (y.den - 1))), Row r1 (List.map Zv (dg z.num.natAbs)), Row r3 (List.map Zv (dg (z.den - 1)))] (PostT 1 (3 * K + 4) (ln x y z)) := by
 refine fn_intro func125 rfl ntmps125 nb ?_
 intro S w0 a hS h
 refine gC h (zS (zx rfl fun b3 => zx rfl fun b4 => zx rfl fun b5 => za rfl (zn (zS ?_)))); clear h; intro a w h
 refine Zi (Jb h (vs := []) rfl call105 (Gb) ss dd ?_); clear h; rintro v8 σ8 a w ⟨b8, rfl, rfl⟩ h
 replace h := h.derive (R := AllF (List.replicate 169 FT0)) (fun X hX => AllF.zeros 169 X _)
 refine gL h (za rfl (zn (zS (zm rfl (zd rfl mr isAgg56 sizeOf56 Zo ?_)))))
 refine zp (.indexAddr rfl rfl (Gt _ _ _ _ 13 oo)) (zt' (b := b8) (cs := (cellsOf Jr (List.replicate 169 FT0)).toArray) (cs' := (cellsOf Jr ((List.replicate 169 FT0).set 13 (FT.mk x p1 p2 p3 p4 hp2 hp4))).toArray) (v := Jr (FT.mk x p1 p2 p3 p4 hp2 hp4)) rfl rfl (Yd (k := 3) (fun _ => rfl) (List.replicate 169 FT0) 13 (by simp only [List.length_replicate]; omega) (FT.mk x p1 p2 p3 p4 hp2 hp4)) uu sizeOf56 rfl (Vv (k := 3) (fun _ => rfl) (List.replicate 169 FT0) 13 (by simp only [List.length_replicate]; omega)) rfl ?_)
 refine zn (zS (zm rfl (zd rfl mr isAgg56 sizeOf56 Zo ?_)))
 refine zp (.indexAddr rfl rfl (Gt _ _ _ _ 1 oo)) (zt' (b := b8) (cs := (cellsOf Jr ((List.replicate 169 FT0).set 13 (FT.mk x p1 p2 p3 p4 hp2 hp4))).toArray) (cs' := (cellsOf Jr (((List.replicate 169 FT0).set 13 (FT.mk x p1 p2 p3 p4 hp2 hp4)).set 1 (FT.mk y q1 q2 q3 q4 hq2 hq4))).toArray) (v := Jr (FT.mk y q1 q2 q3 q4 hq2 hq4)) rfl rfl (Yd (k := 3) (fun _ => rfl) ((List.replicate 169 FT0).set 13 (FT.mk x p1 p2 p3 p4 hp2 hp4)) 1 (by simp only [List.length_set, List.length_replicate]; omega) (FT.mk y q1 q2 q3 q4 hq2 hq4)) uu sizeOf56 rfl (Vv (k := 3) (fun _ => rfl) ((List.replicate 169 FT0).set 13 (FT.mk x p1 p2 p3 p4 hp2 hp4)) 1 (by simp only [List.length_set, List.length_replicate]; omega)) rfl ?_)
 refine zn (zS (zm rfl (zd rfl mr isAgg56 sizeOf56 Zo ?_)))
 refine zp (.indexAddr rfl rfl (Gt _ _ _ _ 0 oo)) (zt' (b := b8) (cs := (cellsOf Jr (((List.replicate 169 FT0).set 13 (FT.mk x p1 p2 p3 p4 hp2 hp4)).set 1 (FT.mk y q1 q2 q3 q4 hq2 hq4))).toArray) (cs' := (cellsOf Jr ((((List.replicate 169 FT0).set 13 (FT.mk x p1 p2 p3 p4 hp2 hp4)).set 1 (FT.mk y q1 q2 q3 q4 hq2 hq4)).set 0 (FT.mk z r1 r2 r3 r4 hr2 hr4))).toArray) (v := Jr (FT.mk z r1 r2 r3 r4 hr2 hr4)) rfl rfl (Yd (k := 3) (fun _ => rfl) (((List.replicate 169 FT0).set 13 (FT.mk x p1 p2 p3 p4 hp2 hp4)).set 1 (FT.mk y q1 q2 q3 q4 hq2 hq4)) 0 (by simp only [List.length_set, List.length_replicate]; omega) (FT.mk z r1 r2 r3 r4 hr2 hr4)) uu sizeOf56 rfl (Vv (k := 3) (fun _ => rfl) (((List.replicate 169 FT0).set 13 (FT.mk x p1 p2 p3 p4 hp2 hp4)).set 1 (FT.mk y q1 q2 q3 q4 hq2 hq4)) 0 (by simp only [List.length_set, List.length_replicate]; omega)) rfl ?_)
 refine zn (zS (zm rfl (za rfl (zn (zt ?_))))); intro a w h
 replace h := h.derive (R := AllF ((List.replicate 169 FT0).set 13 (FT.mk x p1 p2 p3 p4 hp2 hp4))) (fun X hX => AllF.set (hX _ mm) (hX _ mm) (hX _ mm))
 replace h := h.derive (R := AllF (((List.replicate 169 FT0).set 13 (FT.mk x p1 p2 p3 p4 hp2 hp4)).set 1 (FT.mk y q1 q2 q3 q4 hq2 hq4))) (fun X hX => AllF.set (hX _ mm) (hX _ mm) (hX _ mm))
 replace h := h.derive (R := AllF ((((List.replicate 169 FT0).set 13 (FT.mk x p1 p2 p3 p4 hp2 hp4)).set 1 (FT.mk y q1 q2 q3 q4 hq2 hq4)).set 0 (FT.mk z r1 r2 r3 r4 hr2 hr4))) (fun X hX => AllF.set (hX _ mm) (hX _ mm) (hX _ mm))
 replace h := h.shareAll hS (cellsOf Jr ((((List.replicate 169 FT0).set 13 (FT.mk x p1 p2 p3 p4 hp2 hp4)).set 1 (FT.mk y q1 q2 q3 q4 hq2 hq4)).set 0 (FT.mk z r1 r2 r3 r4 hr2 hr4))) rfl
 have hx3 : xs ((((List.replicate 169 FT0).set 13 (FT.mk x p1 p2 p3 p4 hp2 hp4)).set 1 (FT.mk y q1 q2 q3 q4 hq2 hq4)).set 0 (FT.mk z r1 r2 r3 r4 hr2 hr4)) = Zuh x y z := by rw [Ze2, Ze2, Ze2, Vx]; rfl
 exact Qg (Ψ := [Row (some ⟨b8, 0, none⟩) (cellsOf Jr ((((List.replicate 169 FT0).set 13 (FT.mk x p1 p2 p3 p4 hp2 hp4)).set 1 (FT.mk y q1 q2 q3 q4 hq2 hq4)).set 0 (FT.mk z r1 r2 r3 r4 hr2 hr4))), AllF ((((List.replicate 169 FT0).set 13 (FT.mk x p1 p2 p3 p4 hp2 hp4)).set 1 (FT.mk y q1 q2 q3 q4 hq2 hq4)).set 0 (FT.mk z r1 r2 r3 r4 hr2 hr4))]) h (Zc h rfl (.tmp rfl)) ⟨b8, _, rfl, by rw [hx3]; exact Tb.lineP hx hy hz, by rw [hx3]; exact Zni x y z, rfl⟩ ss
theorem Zmd (b1 : Nat) (la : List FT) (da Ka : Nat) (ha : Tb da Ka (xs la)) (hda : da ≤ 12) (hka : Ka ≤ 1000000000) (p1 p3 : Option Addr) (p2 p4 Kc : Nat) (x : Rat) (hx : Qc x ≤ Kc) (hkc : Kc ≤ 1000000000) : Ctr Tryz.prog 110 [.slice (some ⟨b1, 0, none⟩) 169 169, fV x p1 p2 p3 p4] [Row (some ⟨b1, 0, none⟩) (cellsOf Jr la), AllF la, Row p1 (List.map Zv (dg x.num.natAbs)), Row p3 (List.map Zv (dg (x.den - 1)))] (PostT da (Kc + Ka + 1) (Zs x (pol (xs la)))) := by
 refine fn_intro func110 rfl ntmps110 nb ?_
 intro S w0 a hS h
 refine gC h (zS (zx rfl fun b3 => za rfl (zn (zS ?_)))); clear h; intro a w h
 refine Zi (Jb h (vs := []) rfl call105 (Gb) ss dd ?_); clear h; rintro v7 σ7 a w ⟨b7, rfl, rfl⟩ h
 replace h := h.derive (R := AllF (List.replicate 169 FT0)) (fun X hX => AllF.zeros 169 X _)
 refine gL h (za rfl (zn (zs (zS (za rfl (zn (zb ?_))))))); clear h; intro a w h
 refine Zf (fun (k : Nat) a w => k ≤ 169 ∧ ∃ l, ((l.length = 169 ∧ xs l = scX x (xs la) k)) ∧ St 22 S w0 [(0, .slice (some ⟨b1, 0, none⟩) 169 169), (3, pB b3), (4, .slice none 0 0), (5, .slice (some ⟨b7, 0, none⟩) 169 169), (6, nI k)] [(b7, .cells (cellsOf Jr (l)).toArray 56 (0, 0)), (b3, bV (.agg #[.bool (decide (x.num < 0)), .slice p1 (dg x.num.natAbs).length p2, .slice p3 (dg (x.den - 1)).length p4]) 56)] [AllF l, Row (some ⟨b1, 0, none⟩) (cellsOf Jr la), AllF la, Row p1 (List.map Zv (dg x.num.natAbs)), Row p3 (List.map Zv (dg (x.den - 1)))] a w) (fun k => 169 - k) 0 (⟨Nat.zero_le _, List.replicate 169 FT0, ⟨List.length_replicate, Vx⟩, by exact (h.factsSub (by simp)).sub (Zen ⟨rfl, rfl, rfl, rfl, rfl, trivial⟩)⟩) ?_; clear h
 rintro k a w ⟨hi_k, l, ⟨hln, hxl⟩, h⟩
 refine gC h (zs (zS (zm rfl (zp (.lss rfl rfl) (zn ?_))))); clear h; intro a w h
 refine cW ?_
 refine Zb h rfl (fun hc9 => ?_) (fun hc9 => ?_)
 ·
  skip
  have hlt_k : k < 169 := dT hc9
  have hn1 := ha.lenl
  have hm1 : la.getD k FT0 ∈ la := getD_mem _ oo
  have hz1 := ha.sizl (k := k) oo
  replace h := h.derive (R := Row (la.getD k FT0).a2 (List.map Zv (dg ((la.getD k FT0).x.den - 1)))) (fun X hX => AllF.get2 (hX _ mm) hm1)
  replace h := h.derive (R := Row (la.getD k FT0).a1 (List.map Zv (dg (la.getD k FT0).x.num.natAbs))) (fun X hX => AllF.get1 (hX _ mm) hm1)
  refine gC h (zk (zs (zb (yD Za [0, 1, 2, 3, 4, 5, 6, 7, 8, 9] (Zd kk) (ym rfl rfl (ym rfl rfl (yd rfl rfl mr isAgg56 sizeOf56 Zo ?_))))))); clear h
  refine ym rfl rfl (ym rfl rfl (yp rfl (.indexAddr rfl rfl (Gt _ _ _ _ _ oo)) ?_))
  refine Zm rfl kk rfl mm (cells_lt (k := 3) dd (fun _ => rfl) la k oo) isAgg56 sizeOf56 (Zr (k := 3) (fun _ => rfl) ((fun _ => rfl)) la FT0 k oo) (.inl rfl) dd ?_
  refine yf [_, _] rfl rfl call70 (Zjy _ _ _ _ _ _ _ _ x ((la.getD k FT0).x) oo oo) ?_; rintro v19 Ψ19 ⟨ad19, c19, bd19, d19, rfl, hle19, hlf19, rfl⟩
  have hl19 := Qf x ((la.getD k FT0).x)
  refine yp rfl (.indexAddr rfl rfl (Gt _ _ _ _ _ oo)) ?_
  refine Gf (b := b7) (cs := (cellsOf Jr l).toArray) (cs' := (cellsOf Jr (l.set k (FT.mk (x * ((la.getD k FT0).x)) ad19 c19 bd19 d19 hle19 hlf19))).toArray) (v := Jr (FT.mk (x * ((la.getD k FT0).x)) ad19 c19 bd19 d19 hle19 hlf19)) rfl kk rfl rfl (Yd (k := 3) (fun _ => rfl) l k oo (FT.mk (x * ((la.getD k FT0).x)) ad19 c19 bd19 d19 hle19 hlf19)) uu sizeOf56 rfl (Vv (k := 3) (fun _ => rfl) l k oo) rfl ?_
  refine yn (zr (zm rfl (zp (.pN (k + 1) (.add rfl rfl)) (za rfl (zn ?_))))); intro a w h
  replace h := h.derive (R := AllF (l.set k (FT.mk (x * ((la.getD k FT0).x)) ad19 c19 bd19 d19 hle19 hlf19))) (fun X hX => AllF.set (hX _ mm) (hX _ mm) (hX _ mm))
  have hx2 : xs (l.set k (FT.mk (x * ((la.getD k FT0).x)) ad19 c19 bd19 d19 hle19 hlf19)) = scX x (xs la) (k + 1) := by rw [Ze2, hxl, scX, ← Yz]
  exact ⟨k + 1, ⟨oo, l.set k (FT.mk (x * ((la.getD k FT0).x)) ad19 c19 bd19 d19 hle19 hlf19), ⟨by rw [List.length_set]; exact hln, hx2⟩, by exact (h.factsSub (by simp)).sub sA⟩, oo⟩
 ·
  skip
  have heq_k : 169 = k := dF hc9
  subst heq_k
  replace h := h.shareAll hS (cellsOf Jr l) rfl
  refine gC h (ze (zS (zm rfl (za rfl (zn (zt ?_)))))); clear h; intro a w h
  refine Qg (Ψ := [Row (some ⟨b7, 0, none⟩) (cellsOf Jr l), AllF l]) h (Zc h rfl (.tmp rfl)) ?_ ss
  exact ⟨b7, l, rfl, ha.scaleP hx hda (by rw [hxl]; exact Zpc _ _ _) (by rw [hxl]; exact Zv9 ha.len), by rw [hxl]; exact Zv9 ha.len, rfl⟩
theorem Zta (b1 : Nat) (la : List FT) (da Ka : Nat) (ha : Tb da Ka (xs la)) (hda : da ≤ 12) (hka : Ka ≤ 1000000000) (b2 : Nat) (lb : List FT) (db Kb : Nat) (hb : Tb db Kb (xs lb)) (hdb : db ≤ 12) (hkb : Kb ≤ 1000000000) : Ctr Tryz.prog 102 [.slice (some ⟨b1, 0, none⟩) 169 169, .slice (some ⟨b2, 0, none⟩) 169 169] [Row (some ⟨b1, 0, none⟩) (cellsOf Jr la), AllF la, Row (some ⟨b2, 0, none⟩) (cellsOf Jr lb), AllF lb] (PostT (max da db) (Ka + Kb + 2) (pol (xs la) ++ pol (xs lb))) := by
 refine fn_intro func102 rfl ntmps102 nb ?_
 intro S w0 a hS h
 refine gC h (zS (za rfl (zn (zS ?_)))); clear h; intro a w h
 refine Zi (Jb h (vs := []) rfl call105 (Gb) ss dd ?_); clear h; rintro v7 σ7 a w ⟨b7, rfl, rfl⟩ h
 replace h := h.derive (R := AllF (List.replicate 169 FT0)) (fun X hX => AllF.zeros 169 X _)
 refine gL h (za rfl (zn (zs (zS (za rfl (zn (zb ?_))))))); clear h; intro a w h
 refine Zf (fun (k : Nat) a w => k ≤ 169 ∧ ∃ l, ((l.length = 169 ∧ xs l = Zs7 (xs la) (xs lb) k)) ∧ St 25 S w0 [(0, .slice (some ⟨b1, 0, none⟩) 169 169), (1, .slice (some ⟨b2, 0, none⟩) 169 169), (4, .slice none 0 0), (5, .slice (some ⟨b7, 0, none⟩) 169 169), (6, nI k)] [(b7, .cells (cellsOf Jr (l)).toArray 56 (0, 0))] [AllF l, Row (some ⟨b1, 0, none⟩) (cellsOf Jr la), AllF la, Row (some ⟨b2, 0, none⟩) (cellsOf Jr lb), AllF lb] a w) (fun k => 169 - k) 0 (⟨Nat.zero_le _, List.replicate 169 FT0, ⟨List.length_replicate, Vx⟩, by exact (h.factsSub (by simp)).sub (Zen ⟨rfl, rfl, rfl, rfl, rfl, trivial⟩)⟩) ?_; clear h
 rintro k a w ⟨hi_k, l, ⟨hln, hxl⟩, h⟩
 refine gC h (zs (zS (zm rfl (zp (.lss rfl rfl) (zn ?_))))); clear h; intro a w h
 refine cW ?_
 refine Zb h rfl (fun hc9 => ?_) (fun hc9 => ?_)
 ·
  skip
  have hlt_k : k < 169 := dT hc9
  have hn1 := ha.lenl
  have hm1 : la.getD k FT0 ∈ la := getD_mem _ oo
  have hz1 := ha.sizl (k := k) oo
  replace h := h.derive (R := Row (la.getD k FT0).a2 (List.map Zv (dg ((la.getD k FT0).x.den - 1)))) (fun X hX => AllF.get2 (hX _ mm) hm1)
  replace h := h.derive (R := Row (la.getD k FT0).a1 (List.map Zv (dg (la.getD k FT0).x.num.natAbs))) (fun X hX => AllF.get1 (hX _ mm) hm1)
  have hn2 := hb.lenl
  have hm2 : lb.getD k FT0 ∈ lb := getD_mem _ oo
  have hz2 := hb.sizl (k := k) oo
  replace h := h.derive (R := Row (lb.getD k FT0).a2 (List.map Zv (dg ((lb.getD k FT0).x.den - 1)))) (fun X hX => AllF.get2 (hX _ mm) hm2)
  replace h := h.derive (R := Row (lb.getD k FT0).a1 (List.map Zv (dg (lb.getD k FT0).x.num.natAbs))) (fun X hX => AllF.get1 (hX _ mm) hm2)
  refine gC h (zk (zs (zb (yD Za [0, 1, 2, 3, 4, 5, 6, 7, 8, 9, 10, 11, 12] (Zd kk) (ym rfl rfl (ym rfl rfl (ym rfl rfl (ym rfl rfl (yp rfl (.indexAddr rfl rfl (Gt _ _ _ _ _ oo)) ?_))))))))); clear h
  refine Zm rfl kk rfl mm (cells_lt (k := 3) dd (fun _ => rfl) la k oo) isAgg56 sizeOf56 (Zr (k := 3) (fun _ => rfl) ((fun _ => rfl)) la FT0 k oo) (.inl rfl) dd ?_
  refine ym rfl rfl (ym rfl rfl (yp rfl (.indexAddr rfl rfl (Gt _ _ _ _ _ oo)) ?_))
  refine Zm rfl kk rfl mm (cells_lt (k := 3) dd (fun _ => rfl) lb k oo) isAgg56 sizeOf56 (Zr (k := 3) (fun _ => rfl) ((fun _ => rfl)) lb FT0 k oo) (.inl rfl) dd ?_
  refine yf [_, _] rfl rfl call65 (Ztg _ _ _ _ _ _ _ _ ((la.getD k FT0).x) ((lb.getD k FT0).x) oo oo) ?_; rintro v22 Ψ22 ⟨ad22, c22, bd22, d22, rfl, hle22, hlf22, rfl⟩
  have hl22 := Yw ((la.getD k FT0).x) ((lb.getD k FT0).x)
  refine yp rfl (.indexAddr rfl rfl (Gt _ _ _ _ _ oo)) ?_
  refine Gf (b := b7) (cs := (cellsOf Jr l).toArray) (cs' := (cellsOf Jr (l.set k (FT.mk (((la.getD k FT0).x) + ((lb.getD k FT0).x)) ad22 c22 bd22 d22 hle22 hlf22))).toArray) (v := Jr (FT.mk (((la.getD k FT0).x) + ((lb.getD k FT0).x)) ad22 c22 bd22 d22 hle22 hlf22)) rfl kk rfl rfl (Yd (k := 3) (fun _ => rfl) l k oo (FT.mk (((la.getD k FT0).x) + ((lb.getD k FT0).x)) ad22 c22 bd22 d22 hle22 hlf22)) uu sizeOf56 rfl (Vv (k := 3) (fun _ => rfl) l k oo) rfl ?_
  refine yn (zr (zm rfl (zp (.pN (k + 1) (.add rfl rfl)) (za rfl (zn ?_))))); intro a w h
  replace h := h.derive (R := AllF (l.set k (FT.mk (((la.getD k FT0).x) + ((lb.getD k FT0).x)) ad22 c22 bd22 d22 hle22 hlf22))) (fun X hX => AllF.set (hX _ mm) (hX _ mm) (hX _ mm))
  have hx2 : xs (l.set k (FT.mk (((la.getD k FT0).x) + ((lb.getD k FT0).x)) ad22 c22 bd22 d22 hle22 hlf22)) = Zs7 (xs la) (xs lb) (k + 1) := by rw [Ze2, hxl, Zs7, ← Yz, ← Yz]
  exact ⟨k + 1, ⟨oo, l.set k (FT.mk (((la.getD k FT0).x) + ((lb.getD k FT0).x)) ad22 c22 bd22 d22 hle22 hlf22), ⟨by rw [List.length_set]; exact hln, hx2⟩, by exact (h.factsSub (by simp)).sub sA⟩, oo⟩
 ·
  skip
  have heq_k : 169 = k := dF hc9
  subst heq_k
  replace h := h.shareAll hS (cellsOf Jr l) rfl
  refine gC h (ze (zS (zm rfl (za rfl (zn (zt ?_)))))); clear h; intro a w h
  refine Qg (Ψ := [Row (some ⟨b7, 0, none⟩) (cellsOf Jr l), AllF l]) h (Zc h rfl (.tmp rfl)) ?_ ss
  exact ⟨b7, l, rfl, ha.addP hb hda hdb (by rw [hxl]; exact Zma _ _ _) (by rw [hxl]; exact Zs6 ha.len hb.len), by rw [hxl]; exact Zs6 ha.len hb.len, rfl⟩
theorem Zzu (b1 : Nat) (la : List FT) (da Ka : Nat) (ha : Tb da Ka (xs la)) (hda : da ≤ 12) (hka : Ka ≤ 1000000000) (b2 : Nat) (lb : List FT) (db Kb : Nat) (hb : Tb db Kb (xs lb)) (hdb : db ≤ 12) (hkb : Kb ≤ 1000000000) : Ctr Tryz.prog 101 [.slice (some ⟨b1, 0, none⟩) 169 169, .slice (some ⟨b2, 0, none⟩) 169 169] [Row (some ⟨b1, 0, none⟩) (cellsOf Jr la), AllF la, Row (some ⟨b2, 0, none⟩) (cellsOf Jr lb), AllF lb] (PostW (xs la) (xs lb)) := by
 refine fn_intro func101 rfl ntmps101 nb ?_
 intro S w0 a hS h
 refine gC h (zS (za rfl (za rfl (zn (zS ?_))))); clear h; intro a w h
 refine Zi (Jb h (vs := []) rfl call105 (Gb) ss dd ?_); clear h; rintro v11 σ11 a w ⟨b11, rfl, rfl⟩ h
 replace h := h.derive (R := AllF (List.replicate 169 FT0)) (fun X hX => AllF.zeros 169 X _)
 refine gL h (za rfl (zn (zs (zS (za rfl (zn (zb ?_))))))); clear h; intro a w h
 refine Zf (fun (k : Nat) a w => k ≤ 169 ∧ ∃ l, ((l.length = 169 ∧ Eqv (pol (xs l)) (qM (xs la) (xs lb) k 0) ∧ NB (xs la) (xs lb) k 0)) ∧ St 73 S w0 [(0, .slice (some ⟨b1, 0, none⟩) 169 169), (1, .slice (some ⟨b2, 0, none⟩) 169 169), (6, .slice (some ⟨b11, 0, none⟩) 169 169), (7, nI k)] [(b11, .cells (cellsOf Jr (l)).toArray 56 (0, 0))] [AllF l, Row (some ⟨b1, 0, none⟩) (cellsOf Jr la), AllF la, Row (some ⟨b2, 0, none⟩) (cellsOf Jr lb), AllF lb] a w) (fun k => 169 - k) 0 (⟨Nat.zero_le _, List.replicate 169 FT0, ⟨List.length_replicate, by rw [Vx]; exact fun φ => Jh φ 169, NB.zero⟩, by exact (h.factsSub (by simp)).sub (Zen ⟨rfl, rfl, rfl, rfl, trivial⟩)⟩) ?_; clear h
 rintro k a w ⟨hi_k, l, ⟨hln, hel, hnb⟩, h⟩
 refine gC h (zs (zS (zm rfl (zp (.lss rfl rfl) (zn ?_))))); clear h; intro a w h
 refine cW ?_
 refine Zb h rfl (fun hc13 => ?_) (fun hc13 => ?_)
 ·
  skip
  have hlt_k : k < 169 := dT hc13
  have hn1 := ha.lenl
  have hm1 : la.getD k FT0 ∈ la := getD_mem _ oo
  have hz1 := ha.sizl (k := k) oo
  replace h := h.derive (R := Row (la.getD k FT0).a2 (List.map Zv (dg ((la.getD k FT0).x.den - 1)))) (fun X hX => AllF.get2 (hX _ mm) hm1)
  replace h := h.derive (R := Row (la.getD k FT0).a1 (List.map Zv (dg (la.getD k FT0).x.num.natAbs))) (fun X hX => AllF.get1 (hX _ mm) hm1)
  refine gC h (zk (zs (zb (zS (za rfl (zn (zb ?_))))))); clear h; intro a w h
  refine Zf (fun (m : Nat) a w => m ≤ 169 ∧ ∃ l2, ((l2.length = 169 ∧ Eqv (pol (xs l2)) (qM (xs la) (xs lb) k m) ∧ NB (xs la) (xs lb) k m)) ∧ St 73 S w0 [(0, .slice (some ⟨b1, 0, none⟩) 169 169), (1, .slice (some ⟨b2, 0, none⟩) 169 169), (6, .slice (some ⟨b11, 0, none⟩) 169 169), (7, nI k), (8, nI m)] [(b11, .cells (cellsOf Jr (l2)).toArray 56 (0, 0))] [AllF l2, Row (la.getD k FT0).a1 (List.map Zv (dg ((la.getD k FT0).x).num.natAbs)), Row (la.getD k FT0).a2 (List.map Zv (dg (((la.getD k FT0).x).den - 1))), Row (some ⟨b1, 0, none⟩) (cellsOf Jr la), AllF la, Row (some ⟨b2, 0, none⟩) (cellsOf Jr lb), AllF lb] a w) (fun m => 169 - m) 0 (⟨Nat.zero_le _, l, ⟨hln, hel, hnb⟩, by exact (h.factsSub (by simp)).sub (Zen ⟨rfl, rfl, rfl, rfl, rfl, trivial⟩)⟩) ?_; clear h
  rintro m a w ⟨hi_m, l2, ⟨hln2, hel2, hnb2⟩, h⟩
  refine gC h (zs (zS (zm rfl (zp (.lss rfl rfl) (zn ?_))))); clear h; intro a w h
  refine cW ?_
  refine Zb h rfl (fun hc17 => ?_) (fun hc17 => ?_)
  ·
   skip
   have hlt_m : m < 169 := dT hc17
   skip
   refine gC h (zk (zs (zb (zs (zS (zm rfl (zm rfl (zp (.indexAddr rfl rfl (Gt _ _ _ _ _ oo)) (zD rfl mm (cells_lt (k := 3) dd (fun _ => rfl) la k oo) isAgg56 sizeOf56 (Zr (k := 3) (fun _ => rfl) ((fun _ => rfl)) la FT0 k oo) (.inl rfl) ?_)))))))))
   refine zv [_] rfl call86 (Zcf ((la.getD k FT0).x) _ _ _ _) (zp (.eql rfl rfl) ?_); intro a w h
   refine Zg h (fun hc25 h => ?_) (fun hc25 h => ?_)
   focus
    have hsk : (xs la).getD k 0 = 0 ∨ (xs lb).getD m 0 = 0 := .inl (by rw [Qan] at hc25; rw [← Yz]; exact of_decide_eq_true hc25)
    refine gL h (zm rfl (zo 26 rfl rfl rfl (zo 26 rfl rfl rfl (zo 26 rfl rfl rfl (zo 26 rfl rfl rfl (zo 26 rfl rfl rfl (zo 26 rfl rfl rfl (zp (.pickT rfl rfl) (zn ?_))))))))); clear h; intro a w h
   rotate_left
   focus
    have hne1 : ((la.getD k FT0).x) ≠ 0 := by rw [Qan] at hc25; exact of_decide_eq_false hc25
    have hn2 := hb.lenl
    have hm2 : lb.getD m FT0 ∈ lb := getD_mem _ oo
    have hz2 := hb.sizl (k := m) oo
    replace h := h.derive (R := Row (lb.getD m FT0).a2 (List.map Zv (dg ((lb.getD m FT0).x.den - 1)))) (fun X hX => AllF.get2 (hX _ mm) hm2)
    replace h := h.derive (R := Row (lb.getD m FT0).a1 (List.map Zv (dg (lb.getD m FT0).x.num.natAbs))) (fun X hX => AllF.get1 (hX _ mm) hm2)
    refine gL h (zm rfl (zq 26 rfl rfl (.move rfl) (zq 26 rfl rfl (.move rfl) (zq 26 rfl rfl (.indexAddr rfl rfl (Gt _ _ _ _ _ oo)) ?_)))); clear h; intro a w h
    refine Ze 26 h rfl rfl (Zaf h rfl mm (cells_lt (k := 3) dd (fun _ => rfl) lb m oo) isAgg56 sizeOf56 (Zr (k := 3) (fun _ => rfl) ((fun _ => rfl)) lb FT0 m oo) (.inl rfl) dd ?_); clear h; intro a h
    refine Ze 26 h rfl rfl (Yr h (vs := [_]) rfl call86 (Zcf ((lb.getD m FT0).x) _ _ _ _) dd ?_); clear h; intro a w h
    refine gL h (zq 26 rfl rfl (.eql rfl rfl) ?_); clear h; intro a w h
    refine Zg h (fun hc32 h => ?_) (fun hc32 h => ?_)
    rotate_left
    ·
     skip
     have hne2 : ((lb.getD m FT0).x) ≠ 0 := by rw [Qan] at hc32; exact of_decide_eq_false hc32
     have hg1 := ha.degl hlt_k hne1
     have hg2 := hb.degl hlt_m hne2
     have hq1 := Nat.mod_lt k (show 0 < 13 by decide)
     have hq2 := Nat.mod_lt m (show 0 < 13 by decide)
     refine gL h (zp (.pickF rfl rfl) (zn ?_)); clear h; intro a w h
     refine cW ?_
     refine Zj h rfl ?_
     refine gC h (zk (zS (zm rfl (zp (Pure1.cast (v' := .int .i64 (((k) / 13 : Nat) : Int)) (.binOp rfl rfl (fun _ => Vp _ _ _ _ _ dd)) (by rw [show (13 : Int) = ((13 : Nat) : Int) from rfl, Yh, wrap_i64 _ oo oo])) (zm rfl (zp (Pure1.cast (v' := .int .i64 (((m) / 13 : Nat) : Int)) (.binOp rfl rfl (fun _ => Vp _ _ _ _ _ dd)) (by rw [show (13 : Int) = ((13 : Nat) : Int) from rfl, Yh, wrap_i64 _ oo oo])) (zp (.pN (k / 13 + m / 13) (Pure1.cast (v' := (.int .i64 ((((k) / 13) + ((m) / 13) : Nat) : Int))) (.add rfl rfl) (by show Value.int _ _ = Value.int _ _; congr 1))) (zm rfl (zp (Pure1.cast (v' := .int .i64 (((k) % 13 : Nat) : Int)) (.binOp rfl rfl (fun _ => Vg _ _ _ _ _ dd)) (by rw [show (13 : Int) = ((13 : Nat) : Int) from rfl, Yg])) (zm rfl (zp (Pure1.cast (v' := .int .i64 (((m) % 13 : Nat) : Int)) (.binOp rfl rfl (fun _ => Vg _ _ _ _ _ dd)) (by rw [show (13 : Int) = ((13 : Nat) : Int) from rfl, Yg])) (zp (.pN (k % 13 + m % 13) (Pure1.cast (v' := (.int .i64 ((((k) % 13) + ((m) % 13) : Nat) : Int))) (.add rfl rfl) (by show Value.int _ _ = Value.int _ _; congr 1))) (za rfl (za rfl (zn (zs (zS (zm rfl (zm rfl (zp (.pN (k / 13 + m / 13 + (k % 13 + m % 13)) (Pure1.cast (v' := (.int .i64 (((k / 13 + m / 13) + (k % 13 + m % 13) : Nat) : Int))) (.add rfl rfl) (by show Value.int _ _ = Value.int _ _; congr 1))) (zp (.gtr rfl rfl) ?_))))))))))))))))))))); clear h; intro a w h
     refine Zg h (fun hc47 h => ?_) (fun hc47 h => ?_)
     ·
      skip
      have h47 : 12 < k / 13 + m / 13 + (k % 13 + m % 13) := dT hc47
      have hbad : Qeg (xs la) (xs lb) := ⟨k, m, hlt_k, hlt_m, by rw [← Yz]; exact hne1, by rw [← Yz]; exact hne2, h47⟩
      refine wpList_nil ?_
      refine cW ?_
      refine Zq h rfl ?_
      refine wp_seq (wp_region_lit ?_)
      refine Zi (Jb h (vs := []) rfl call105 (Gb) ss dd ?_); clear h; rintro v48 σ48 a w ⟨b48, rfl, rfl⟩ h
      replace h := h.derive (R := AllF (List.replicate 169 FT0)) (fun X hX => AllF.zeros 169 X _)
      refine gL h (za rfl (za rfl (zn (zt ?_)))); clear h; intro a w h
      replace h := h.shareAll hS (cellsOf Jr (List.replicate 169 FT0)) rfl
      exact Qg (Ψ := [Row (some ⟨b48, 0, none⟩) (cellsOf Jr (List.replicate 169 FT0)), AllF (List.replicate 169 FT0)]) h (Qv h rfl (.tmp rfl) (.tmp rfl)) ⟨b48, _, 9, rfl, .inr ⟨rfl, hbad, List.length_replicate, by rw [Vx]; exact fun φ => Jh φ 169⟩, rfl⟩ ss
     ·
      skip
      have h47 : k / 13 + m / 13 + (k % 13 + m % 13) ≤ 12 := dF hc47
      have hm3 : l2.getD (13 * (k / 13 + m / 13) + (k % 13 + m % 13)) FT0 ∈ l2 := getD_mem _ oo
      have hz3 : Qc (l2.getD (13 * (k / 13 + m / 13) + (k % 13 + m % 13)) FT0).x ≤ Ka + Kb := by
       rw [Yz]; exact Zwy (Hb.of_eqv (qM_Hb ha.hgt hb.hgt (k := k) (m := m) (by rw [ha.len]; exact hlt_k)) hel2) (by rw [Zdm]; omega)
      replace h := h.derive (R := Row (l2.getD (13 * (k / 13 + m / 13) + (k % 13 + m % 13)) FT0).a2 (List.map Zv (dg ((l2.getD (13 * (k / 13 + m / 13) + (k % 13 + m % 13)) FT0).x.den - 1)))) (fun X hX => AllF.get2 (hX _ mm) hm3)
      replace h := h.derive (R := Row (l2.getD (13 * (k / 13 + m / 13) + (k % 13 + m % 13)) FT0).a1 (List.map Zv (dg (l2.getD (13 * (k / 13 + m / 13) + (k % 13 + m % 13)) FT0).x.num.natAbs))) (fun X hX => AllF.get1 (hX _ mm) hm3)
      refine wpList_nil ?_
      refine cW ?_
      refine Zj h rfl ?_
      refine gC h (zk (yD Za [0, 1, 2, 3, 4, 5, 6, 7, 8, 9, 10, 11, 12, 13, 14, 15, 16, 17, 18, 19, 20, 21, 22, 23] (Zd kk) (ym rfl rfl (ym rfl rfl (yp rfl (.pN (13 * (k / 13 + m / 13)) (.mul rfl rfl)) (ym rfl rfl (yp rfl (.pN ((13 * (k / 13 + m / 13)) + (k % 13 + m % 13)) (.add rfl rfl)) (ym rfl rfl (ym rfl rfl (yp rfl (.pN (13 * (k / 13 + m / 13)) (.mul rfl rfl)) (ym rfl rfl (yp rfl (.pN ((13 * (k / 13 + m / 13)) + (k % 13 + m % 13)) (.add rfl rfl)) (yp rfl (.indexAddr rfl rfl (Gt _ _ _ _ _ oo)) (yd rfl rfl mm isAgg56 sizeOf56 (Zac (k := 3) (fun _ => rfl) ((fun _ => rfl)) l2 FT0 ((13 * (k / 13 + m / 13)) + (k % 13 + m % 13)) oo) ?_)))))))))))))); clear h
      refine ym rfl rfl (ym rfl rfl (yp rfl (.indexAddr rfl rfl (Gt _ _ _ _ _ oo)) ?_))
      refine Zm rfl kk rfl mm (cells_lt (k := 3) dd (fun _ => rfl) la k oo) isAgg56 sizeOf56 (Zr (k := 3) (fun _ => rfl) ((fun _ => rfl)) la FT0 k oo) (.inl rfl) dd ?_
      refine ym rfl rfl (ym rfl rfl (yp rfl (.indexAddr rfl rfl (Gt _ _ _ _ _ oo)) ?_))
      refine Zm rfl kk rfl mm (cells_lt (k := 3) dd (fun _ => rfl) lb m oo) isAgg56 sizeOf56 (Zr (k := 3) (fun _ => rfl) ((fun _ => rfl)) lb FT0 m oo) (.inl rfl) dd ?_
      refine yf [_, _] rfl rfl call70 (Zjy _ _ _ _ _ _ _ _ ((la.getD k FT0).x) ((lb.getD m FT0).x) oo oo) ?_; rintro v69 Ψ69 ⟨ad69, c69, bd69, d69, rfl, hle69, hlf69, rfl⟩
      have hl69 := Qf ((la.getD k FT0).x) ((lb.getD m FT0).x)
      refine yf [_, _] rfl rfl call65 (Ztg _ _ _ _ _ _ _ _ ((l2.getD ((13 * (k / 13 + m / 13)) + (k % 13 + m % 13)) FT0).x) (((la.getD k FT0).x) * ((lb.getD m FT0).x)) oo oo) ?_; rintro v70 Ψ70 ⟨ad70, c70, bd70, d70, rfl, hle70, hlf70, rfl⟩
      have hl70 := Yw ((l2.getD ((13 * (k / 13 + m / 13)) + (k % 13 + m % 13)) FT0).x) (((la.getD k FT0).x) * ((lb.getD m FT0).x))
      refine yp rfl (.indexAddr rfl rfl (Gt _ _ _ _ _ oo)) ?_
      refine Gf (b := b11) (cs := (cellsOf Jr l2).toArray) (cs' := (cellsOf Jr (l2.set ((13 * (k / 13 + m / 13)) + (k % 13 + m % 13)) (FT.mk (((l2.getD ((13 * (k / 13 + m / 13)) + (k % 13 + m % 13)) FT0).x) + (((la.getD k FT0).x) * ((lb.getD m FT0).x))) ad70 c70 bd70 d70 hle70 hlf70))).toArray) (v := Jr (FT.mk (((l2.getD ((13 * (k / 13 + m / 13)) + (k % 13 + m % 13)) FT0).x) + (((la.getD k FT0).x) * ((lb.getD m FT0).x))) ad70 c70 bd70 d70 hle70 hlf70)) rfl kk rfl rfl (Yd (k := 3) (fun _ => rfl) l2 ((13 * (k / 13 + m / 13)) + (k % 13 + m % 13)) oo (FT.mk (((l2.getD ((13 * (k / 13 + m / 13)) + (k % 13 + m % 13)) FT0).x) + (((la.getD k FT0).x) * ((lb.getD m FT0).x))) ad70 c70 bd70 d70 hle70 hlf70)) uu sizeOf56 rfl (Vv (k := 3) (fun _ => rfl) l2 ((13 * (k / 13 + m / 13)) + (k % 13 + m % 13)) oo) rfl ?_
      refine yn (zr (zm rfl (zp (.pN (m + 1) (.add rfl rfl)) (za rfl (zn ?_))))); intro a w h
      replace h := h.derive (R := AllF (l2.set ((13 * (k / 13 + m / 13)) + (k % 13 + m % 13)) (FT.mk (((l2.getD ((13 * (k / 13 + m / 13)) + (k % 13 + m % 13)) FT0).x) + (((la.getD k FT0).x) * ((lb.getD m FT0).x))) ad70 c70 bd70 d70 hle70 hlf70))) (fun X hX => AllF.set (hX _ mm) (hX _ mm) (hX _ mm))
      have hx2 : Eqv (pol (xs (l2.set ((13 * (k / 13 + m / 13)) + (k % 13 + m % 13)) (FT.mk (((l2.getD ((13 * (k / 13 + m / 13)) + (k % 13 + m % 13)) FT0).x) + (((la.getD k FT0).x) * ((lb.getD m FT0).x))) ad70 c70 bd70 d70 hle70 hlf70)))) (qM (xs la) (xs lb) k (m + 1)) := by
       have h9 := Qfx (k := k) (m := m) ha.len hb.len (by rw [Zdm]; exact hln2) hlt_k hlt_m rfl rfl oo hel2
       rw [Ze2]; rw [← Yz, ← Yz, ← Yz] at h9; exact h9
      exact ⟨m + 1, ⟨oo, l2.set ((13 * (k / 13 + m / 13)) + (k % 13 + m % 13)) (FT.mk (((l2.getD ((13 * (k / 13 + m / 13)) + (k % 13 + m % 13)) FT0).x) + (((la.getD k FT0).x) * ((lb.getD m FT0).x))) ad70 c70 bd70 d70 hle70 hlf70), ⟨by rw [List.length_set]; exact hln2, hx2, hnb2.step oo⟩, by exact (h.factsSub (by simp)).sub sA⟩, oo⟩
    have hsk : (xs la).getD k 0 = 0 ∨ (xs lb).getD m 0 = 0 := .inr (by rw [Qan] at hc32; rw [← Yz]; exact of_decide_eq_true hc32)
    refine gL h (zp (.pickF rfl rfl) (zn ?_)); clear h; intro a w h
   all_goals
    refine cW ?_
    refine Zq h rfl ?_
    refine gC h (ze (zr (zm rfl (zp (.pN (m + 1) (.add rfl rfl)) (za rfl (zn ?_)))))); clear h; intro a w h
    skip
    exact ⟨m + 1, ⟨oo, l2, ⟨hln2, Qfy ha.len hb.len hlt_k hlt_m hsk hel2, hnb2.skip hsk⟩, by exact (h.factsSub (by simp)).sub sA⟩, oo⟩
  ·
   skip
   have heq_m : 169 = m := dF hc17
   subst heq_m
   refine gC h (ze (zr (zm rfl (zp (.pN (k + 1) (.add rfl rfl)) (za rfl (zn ?_)))))); clear h; intro a w h
   exact ⟨k + 1, ⟨oo, l2, ⟨hln2, qM_row ha.len hb.len hlt_k hel2, hnb2.row⟩, by exact (h.factsSub (by simp)).sub sA⟩, oo⟩
 ·
  skip
  have heq_k : 169 = k := dF hc13
  subst heq_k
  replace h := h.shareAll hS (cellsOf Jr l) rfl
  refine gC h (ze (zS (zm rfl (za rfl (za rfl (zn (zt ?_))))))); clear h; intro a w h
  refine Qg (Ψ := [Row (some ⟨b11, 0, none⟩) (cellsOf Jr l), AllF l]) h (Qv h rfl (.tmp rfl) (.tmp rfl)) ?_ ss
  exact ⟨b11, l, 0, rfl, .inl ⟨rfl, hnb, hln, qM_end ha.len hel⟩, rfl⟩
theorem Zs9 (b1 : Nat) (la : List FT) (da Ka : Nat) (ha : Tb da Ka (xs la)) (hda : da ≤ 12) (hka : Ka ≤ 1000000000) (b2 : Nat) (lb : List FT) (db Kb : Nat) (hb : Tb db Kb (xs lb)) (hdb : db ≤ 12) (hkb : Kb ≤ 1000000000) (hd : da + db ≤ 12) : Ctr Tryz.prog 101 [.slice (some ⟨b1, 0, none⟩) 169 169, .slice (some ⟨b2, 0, none⟩) 169 169] [Row (some ⟨b1, 0, none⟩) (cellsOf Jr la), AllF la, Row (some ⟨b2, 0, none⟩) (cellsOf Jr lb), AllF lb] (Qeh (da + db) (Ka + Kb) (Jg (pol (xs la)) (pol (xs lb)))) :=
 Za0 (Zzu b1 la da Ka ha hda hka b2 lb db Kb hb hdb hkb) (fun v Ψ ⟨b, l, e, h1, h2, h3⟩ => by
  rcases h2 with ⟨rfl, _, h4, h5⟩ | ⟨_, h4, _⟩
  · exact ⟨b, l, h1, ha.mulP hb hd (by rw [Zdm]; exact h4) h5, h5, h3⟩
  · exact (ha.nbad hb hd h4).elim)
theorem Zzt (b1 : Nat) (la : List FT) (da Ka : Nat) (ha : Tb da Ka (xs la)) (hda : da ≤ 12) (n : Nat) (hn : n ≤ 12) (hd : n * da ≤ 12) (hk2 : Ka ≤ 10000000) : Ctr Tryz.prog 106 [.slice (some ⟨b1, 0, none⟩) 169 169, .int .i64 ((n : Nat) : Int)] [Row (some ⟨b1, 0, none⟩) (cellsOf Jr la), AllF la] (Qeh (n * da) (n * Ka + 4) (Yb (pol (xs la)) n)) := by
 refine fn_intro func106 rfl ntmps106 nb ?_
 intro S w0 a hS h
 refine gC h (zS (za rfl (za rfl (zn (zs (zS (zm rfl (zp (.lss rfl rfl) ?_)))))))); clear h; intro a w h
 refine Zg h (fun hc11 h => (by exfalso; have := of_decide_eq_true hc11; omega)) (fun hc11 h => ?_)
 refine gL h (zm rfl (zq 12 rfl rfl (.move rfl) (zq 12 rfl rfl (.gtr rfl rfl) ?_))); clear h; intro a w h
 refine Zg h (fun hc14 h => (by exfalso; have := of_decide_eq_true hc14; omega)) (fun hc14 h => ?_)
 refine gL h (zp (.pickF rfl rfl) (zn ?_)); clear h; intro a w h
 refine cW ?_
 refine Zj h rfl ?_
 refine gC h (zk (zS (zf [] rfl call163 (Qeo) ?_))); rintro v17 Ψ17 ⟨b17, l17, rfl, ht17, he17, rfl⟩
 refine za rfl (zn (zs (zS (za rfl (zn (zb ?_)))))); intro a w h
 refine Zf (fun (i : Nat) a w => i ≤ n ∧ ∃ b l, ((Tb (i * da) (i * Ka + 4) (xs l) ∧ Eqv (pol (xs l)) (Yb (pol (xs la)) i))) ∧ St 35 S w0 [(0, .slice (some ⟨b1, 0, none⟩) 169 169), (1, nI n), (6, .slice (some ⟨b, 0, none⟩) 169 169), (7, nI i)] [] [Row (some ⟨b, 0, none⟩) (cellsOf Jr l), AllF l, Row (some ⟨b1, 0, none⟩) (cellsOf Jr la), AllF la] a w) (fun i => n - i) 0 (⟨Nat.zero_le _, b17, l17, ⟨by rw [Nat.zero_mul, Nat.zero_mul]; exact ht17, he17⟩, by exact (h.factsSub (by simp)).sub (Zen ⟨rfl, rfl, rfl, rfl, trivial⟩)⟩) ?_; clear h
 rintro i a w ⟨hi_i, b, l, ⟨ht, he⟩, h⟩
 refine gC h (zs (zS (zm rfl (zm rfl (zp (.lss rfl rfl) (zn ?_)))))); clear h; intro a w h
 refine cW ?_
 refine Zb h rfl (fun hc20 => ?_) (fun hc20 => ?_)
 ·
  skip
  have hlt_i : i < n := dT hc20
  have hid : i * da + da ≤ 12 := Nat.le_trans (by rw [← Nat.succ_mul]; exact Nat.mul_le_mul_right da hlt_i) hd
  have hid2 : i * da ≤ 12 := oo
  have hik : i * Ka + 4 ≤ 1000000000 := by have := Nat.mul_le_mul (show i ≤ 12 by omega) hk2; omega
  refine gC h (zk (zs (zb (zS (zm rfl (zm rfl (zf [_, _] rfl call101 (Zs9 b l (i * da) (i * Ka + 4) ht hid2 hik b1 la da Ka ha hda oo hid) ?_))))))); rintro v26 Ψ26 ⟨b26, l26, rfl, ht26, he26, rfl⟩
  refine zm rfl (zp (.eX rfl) (zp (.eX rfl) (za rfl (za rfl (zn (zs (zS (zm rfl (zp (.neq rfl rfl) (zn ?_)))))))))); intro a w h
  refine cW ?_
  refine Zb h rfl (fun hc30 => (absurd hc30 dd)) (fun hc30 => ?_)
  refine gC h (zk (zr (zm rfl (za rfl (zn (zr (zm rfl (zp (.pN (i + 1) (.add rfl rfl)) (za rfl (zn ?_)))))))))); clear h; intro a w h
  exact ⟨i + 1, ⟨oo, b26, l26, ⟨by rw [Nat.add_mul, Nat.one_mul, Nat.add_mul, Nat.one_mul]; exact ht26.mono (Nat.le_refl _) oo, he26.trans (he.mul Eqv.rfl')⟩, by exact (h.factsSub (by simp)).sub sA⟩, oo⟩
 ·
  skip
  have heq_i : n = i := dF hc20
  subst heq_i
  refine gC h (ze (zS (zm rfl (za rfl (za rfl (zn (zt ?_))))))); clear h; intro a w h
  refine Qg (Ψ := [Row (some ⟨b, 0, none⟩) (cellsOf Jr l), AllF l]) h (Qv h rfl (.tmp rfl) (.tmp rfl)) ?_ ss
  exact ⟨b, l, rfl, ht, he, rfl⟩
theorem Qc4 (b1 : Nat) (la : List FT) (da Ka : Nat) (ha : Tb da Ka (xs la)) (hda : da ≤ 12) (hka : Ka ≤ 1000000000) (p1 p3 : Option Addr) (p2 p4 : Nat) (q1 q3 : Option Addr) (q2 q4 : Nat) (r1 r3 : Option Addr) (r2 r4 : Nat) (s1 s3 : Option Addr) (s2 s4 : Nat) (t1 t3 : Option Addr) (t2 t4 : Nat) (u1 u3 : Option Addr) (u2 u4 : Nat) (ax bx cx ay dy cy : Rat) (Kx : Nat) (hkax : Qc ax ≤ Kx) (hkbx : Qc bx ≤ Kx) (hkcx : Qc cx ≤ Kx) (hkay : Qc ay ≤ Kx) (hkdy : Qc dy ≤ Kx) (hkcy : Qc cy ≤ Kx) (hp2 : (dg ax.num.natAbs).length ≤ p2) (hp4 : (dg (ax.den - 1)).length ≤ p4) (hq2 : (dg bx.num.natAbs).length ≤ q2) (hq4 : (dg (bx.den - 1)).length ≤ q4) (hr2 : (dg cx.num.natAbs).length ≤ r2) (hr4 : (dg (cx.den - 1)).length ≤ r4) (hs2 : (dg ay.num.natAbs).length ≤ s2) (hs4 : (dg (ay.den - 1)).length ≤ s4) (ht2 : (dg dy.num.natAbs).length ≤ t2) (ht4 : (dg (dy.den - 1)).length ≤ t4) (hu2 : (dg cy.num.natAbs).length ≤ u2) (hu4 : (dg (cy.den - 1)).length ≤ u4) (hkk : Ka ≤ 100000) (hkx : Kx ≤ 10000) : Ctr Tryz.prog 63 [.slice (some ⟨b1, 0, none⟩) 169 169, fV ax p1 p2 p3 p4, fV bx q1 q2 q3 q4, fV cx r1 r2 r3 r4, fV ay s1 s2 s3 s4, fV dy t1 t2 t3 t4, fV cy u1 u2 u3 u4] [Row (some ⟨b1, 0, none⟩) (cellsOf Jr la), AllF la, Row p1 (List.map Zv (dg ax.num.natAbs)), Row p3 (List.map Zv (dg (ax.den - 1))), Row q1 (List.map Zv (dg bx.num.natAbs)), Row q3 (List.map Zv (dg (bx.den - 1))), Row r1 (List.map Zv (dg cx.num.natAbs)), Row r3 (List.map Zv (dg (cx.den - 1))), Row s1 (List.map Zv (dg ay.num.natAbs)), Row s3 (List.map Zv (dg (ay.den - 1))), Row t1 (List.map Zv (dg dy.num.natAbs)), Row t3 (List.map Zv (dg (dy.den - 1))), Row u1 (List.map Zv (dg cy.num.natAbs)), Row u3 (List.map Zv (dg (cy.den - 1)))] (PostT da (169 * KT da Ka Kx + 1) (sbL (ln ax bx cx) (ln ay dy cy) (pol (xs la)))) := by
 refine fn_intro func63 rfl ntmps63 nb ?_
 intro S w0 a hS h
 refine gC h (zS (zx rfl fun b8 => zx rfl fun b9 => zx rfl fun b10 => zx rfl fun b11 => zx rfl fun b12 => zx rfl fun b13 => za rfl (zn (zS ?_)))); clear h; intro a w h
 refine Zi (Jb h (vs := []) rfl call105 (Gb) ss dd ?_); clear h; rintro v23 σ23 a w ⟨b23, rfl, rfl⟩ h
 replace h := h.derive (R := AllF (List.replicate 169 FT0)) (fun X hX => AllF.zeros 169 X _)
 replace h := h.shareAll hS (cellsOf Jr (List.replicate 169 FT0)) rfl
 refine gL h (za rfl (zn (zs (zS (za rfl (zn (zb ?_))))))); clear h; intro a w h
 refine Zf (fun (k : Nat) a w => k ≤ 169 ∧ ∃ b l, ((Tb da (k * KT da Ka Kx + 1) (xs l) ∧ Eqv (pol (xs l)) (sbL (ln ax bx cx) (ln ay dy cy) ((pol (xs la)).take k)))) ∧ St 69 S w0 [(0, .slice (some ⟨b1, 0, none⟩) 169 169), (8, pB b8), (9, pB b9), (10, pB b10), (11, pB b11), (12, pB b12), (13, pB b13), (14, .slice none 0 0), (15, .slice (some ⟨b, 0, none⟩) 169 169), (16, nI k)] [(b13, bV (.agg #[.bool (decide (cy.num < 0)), .slice u1 (dg cy.num.natAbs).length u2, .slice u3 (dg (cy.den - 1)).length u4]) 56), (b12, bV (.agg #[.bool (decide (dy.num < 0)), .slice t1 (dg dy.num.natAbs).length t2, .slice t3 (dg (dy.den - 1)).length t4]) 56), (b11, bV (.agg #[.bool (decide (ay.num < 0)), .slice s1 (dg ay.num.natAbs).length s2, .slice s3 (dg (ay.den - 1)).length s4]) 56), (b10, bV (.agg #[.bool (decide (cx.num < 0)), .slice r1 (dg cx.num.natAbs).length r2, .slice r3 (dg (cx.den - 1)).length r4]) 56), (b9, bV (.agg #[.bool (decide (bx.num < 0)), .slice q1 (dg bx.num.natAbs).length q2, .slice q3 (dg (bx.den - 1)).length q4]) 56), (b8, bV (.agg #[.bool (decide (ax.num < 0)), .slice p1 (dg ax.num.natAbs).length p2, .slice p3 (dg (ax.den - 1)).length p4]) 56)] [Row (some ⟨b, 0, none⟩) (cellsOf Jr l), AllF l, Row (some ⟨b1, 0, none⟩) (cellsOf Jr la), AllF la, Row p1 (List.map Zv (dg ax.num.natAbs)), Row p3 (List.map Zv (dg (ax.den - 1))), Row q1 (List.map Zv (dg bx.num.natAbs)), Row q3 (List.map Zv (dg (bx.den - 1))), Row r1 (List.map Zv (dg cx.num.natAbs)), Row r3 (List.map Zv (dg (cx.den - 1))), Row s1 (List.map Zv (dg ay.num.natAbs)), Row s3 (List.map Zv (dg (ay.den - 1))), Row t1 (List.map Zv (dg dy.num.natAbs)), Row t3 (List.map Zv (dg (dy.den - 1))), Row u1 (List.map Zv (dg cy.num.natAbs)), Row u3 (List.map Zv (dg (cy.den - 1)))] a w) (fun k => 169 - k) 0 (⟨Nat.zero_le _, b23, List.replicate 169 FT0, ⟨by rw [Vx, Nat.zero_mul]; exact Tb.zero da, by rw [Vx]; exact fun φ => Jh φ 169⟩, by exact (h.factsSub (by simp)).sub (Zen ⟨rfl, rfl, rfl, rfl, rfl, rfl, rfl, rfl, rfl, rfl, trivial⟩)⟩) ?_; clear h
 rintro k a w ⟨hi_k, b, l, ⟨ht, he⟩, h⟩
 refine gC h (zs (zS (zm rfl (zp (.lss rfl rfl) (zn ?_))))); clear h; intro a w h
 refine cW ?_
 refine Zb h rfl (fun hc25 => ?_) (fun hc25 => ?_)
 ·
  skip
  have hlt_k : k < 169 := dT hc25
  have hn1 := ha.lenl
  have hm1 : la.getD k FT0 ∈ la := getD_mem _ oo
  have hz1 := ha.sizl (k := k) oo
  replace h := h.derive (R := Row (la.getD k FT0).a2 (List.map Zv (dg ((la.getD k FT0).x.den - 1)))) (fun X hX => AllF.get2 (hX _ mm) hm1)
  replace h := h.derive (R := Row (la.getD k FT0).a1 (List.map Zv (dg (la.getD k FT0).x.num.natAbs))) (fun X hX => AllF.get1 (hX _ mm) hm1)
  refine gC h (zk (zs (zb (zs (zS (zm rfl (zm rfl (zp (.indexAddr rfl rfl (Gt _ _ _ _ _ oo)) (zD rfl mm (cells_lt (k := 3) dd (fun _ => rfl) la k oo) isAgg56 sizeOf56 (Zr (k := 3) (fun _ => rfl) ((fun _ => rfl)) la FT0 k oo) (.inl rfl) ?_)))))))))
  refine zv [_] rfl call86 (Zcf ((la.getD k FT0).x) _ _ _ _) (zp (.eql rfl rfl) ?_); intro a w h
  refine Zg h (fun hc33 h => ?_) (fun hc33 h => ?_)
  ·
   skip
   have hsk : ((xs la).getD k 0) = 0 := by rw [Qan] at hc33; rw [← Yz]; exact of_decide_eq_true hc33
   refine wpList_nil ?_
   refine cW ?_
   refine Zq h rfl ?_
   refine gC h (ze (zr (zm rfl (zp (.pN (k + 1) (.add rfl rfl)) (za rfl (zn ?_)))))); clear h; intro a w h
   exact ⟨k + 1, ⟨oo, b, l, ⟨ht.mono (Nat.le_refl _) (by rw [Nat.add_mul]; omega), he.trans (Qa6 (by rw [ha.len]; exact hlt_k) hsk).symm⟩, by exact (h.factsSub (by simp)).sub sA⟩, oo⟩
  ·
   skip
   have hne1 : (la.getD k FT0).x ≠ 0 := by rw [Qan] at hc33; exact of_decide_eq_false hc33
   have hg1 := ha.degl hlt_k hne1
   have hq1 := Nat.mod_lt k (show 0 < 13 by decide)
   have hb1 : (k / 13) * (3 * Kx + 4) ≤ 12 * 30004 := Nat.mul_le_mul oo oo
   have hb2 : (k % 13) * (3 * Kx + 4) ≤ 12 * 30004 := Nat.mul_le_mul oo oo
   have hb3 : k * KT da Ka Kx ≤ 169 * (100000 + 12 * 30004 + 20) := Nat.mul_le_mul oo (by have := Nat.mul_le_mul hda (show 3 * Kx + 4 ≤ 30004 by omega); unfold KT; omega)
   have hb4 : (k / 13) * (3 * Kx + 4) + (k % 13) * (3 * Kx + 4) ≤ da * (3 * Kx + 4) := by rw [← Nat.add_mul]; exact Nat.mul_le_mul_right _ hg1
   refine wpList_nil ?_
   refine cW ?_
   refine Zj h rfl ?_
   refine gC h (zk (zS (zd rfl mr isAgg56 sizeOf56 Zo ?_)))
   refine zd rfl mr isAgg56 sizeOf56 Zo ?_
   refine zd rfl mr isAgg56 sizeOf56 Zo ?_
   refine zf [_, _, _] rfl call125 (Zzw _ _ _ _ _ _ _ _ _ _ _ _ ax bx cx Kx hkax hkbx hkcx hp2 hp4 hq2 hq4 hr2 hr4) ?_; rintro v38 Ψ38 ⟨b38, l38, rfl, ht38, he38, rfl⟩
   refine zm rfl (zp (Pure1.cast (v' := .int .i64 (((k) / 13 : Nat) : Int)) (.binOp rfl rfl (fun _ => Vp _ _ _ _ _ dd)) (by rw [show (13 : Int) = ((13 : Nat) : Int) from rfl, Yh, wrap_i64 _ oo oo])) (zf [_, _] rfl call106 (Zzt b38 l38 1 (3 * Kx + 4) ht38 dd (k / 13) oo oo oo) ?_)); rintro v41 Ψ41 ⟨b41, l41, rfl, ht41, he41, rfl⟩ a w h
   rw [Nat.mul_one] at ht41
   refine gL h (zm rfl (zp (.eX rfl) (zp (.eX rfl) (za rfl (za rfl (zn (zS (zd rfl mr isAgg56 sizeOf56 Zo ?_))))))))
   refine zd rfl mr isAgg56 sizeOf56 Zo ?_
   refine zd rfl mr isAgg56 sizeOf56 Zo ?_
   refine zf [_, _, _] rfl call125 (Zzw _ _ _ _ _ _ _ _ _ _ _ _ ay dy cy Kx hkay hkdy hkcy hs2 hs4 ht2 ht4 hu2 hu4) ?_; rintro v48 Ψ48 ⟨b48, l48, rfl, ht48, he48, rfl⟩
   refine zm rfl (zp (Pure1.cast (v' := .int .i64 (((k) % 13 : Nat) : Int)) (.binOp rfl rfl (fun _ => Vg _ _ _ _ _ dd)) (by rw [show (13 : Int) = ((13 : Nat) : Int) from rfl, Yg])) (zf [_, _] rfl call106 (Zzt b48 l48 1 (3 * Kx + 4) ht48 dd (k % 13) oo oo oo) ?_)); rintro v51 Ψ51 ⟨b51, l51, rfl, ht51, he51, rfl⟩ a w h
   rw [Nat.mul_one] at ht51
   refine gL h (zm rfl (zp (.eX rfl) (zp (.eX rfl) (za rfl (za rfl (zn (zS (zm rfl (zm rfl (zf [_, _] rfl call101 (Zs9 b41 l41 _ _ ht41 oo oo b51 l51 _ _ ht51 oo oo oo) ?_)))))))))); rintro v57 Ψ57 ⟨b57, l57, rfl, ht57, he57, rfl⟩
   refine zm rfl (zp (.eX rfl) (zp (.eX rfl) (za rfl (za rfl (zn (zr (zm rfl (zm rfl (zm rfl (zm rfl (zp (.indexAddr rfl rfl (Gt _ _ _ _ _ oo)) (zD rfl mm (cells_lt (k := 3) dd (fun _ => rfl) la k oo) isAgg56 sizeOf56 (Zr (k := 3) (fun _ => rfl) ((fun _ => rfl)) la FT0 k oo) (.inl rfl) ?_))))))))))))
   refine zf [_, _] rfl call110 (Zmd b57 l57 _ _ ht57 oo oo _ _ _ _ Ka (la.getD k FT0).x hz1 oo) ?_; rintro v66 Ψ66 ⟨b66, l66, rfl, ht66, he66, rfl⟩
   refine zf [_, _] rfl call102 (Zta b l da (k * KT da Ka Kx + 1) ht hda oo b66 l66 _ _ ht66 oo oo) ?_; rintro v67 Ψ67 ⟨b67, l67, rfl, ht67, he67, rfl⟩
   refine za rfl (zn (zr (zm rfl (zp (.pN (k + 1) (.add rfl rfl)) (za rfl (zn ?_)))))); intro a w h
   exact ⟨k + 1, ⟨oo, b67, l67, ⟨ht67.mono (Nat.max_le.2 ⟨Nat.le_refl _, hg1⟩) (by rw [Nat.add_mul, Nat.one_mul]; have : KT da Ka Kx = Ka + da * (3 * Kx + 4) + 20 := rfl; omega), he67.trans ((he.append (he66.trans ((he57.trans ((he41.trans (he38.pow _)).mul (he51.trans (he48.pow _)))).scale _))).trans (by rw [Yz]; exact (Qa5 (by rw [ha.len]; exact hlt_k)).symm))⟩, by exact (h.factsSub (by simp)).sub (Zen ⟨rfl, rfl, rfl, rfl, rfl, rfl, rfl, rfl, rfl, rfl, trivial⟩)⟩, oo⟩
 ·
  skip
  have heq_k : 169 = k := dF hc25
  subst heq_k
  refine gC h (ze (zS (zm rfl (za rfl (zn (zt ?_)))))); clear h; intro a w h
  refine Qg (Ψ := [Row (some ⟨b, 0, none⟩) (cellsOf Jr l), AllF l]) h (Zc h rfl (.tmp rfl)) ?_ ss
  exact ⟨b, l, rfl, ht, by rw [← Qfl ha.len]; exact he, rfl⟩
structure TF where
 i : Int
 j : Int
 f : FT
def TF0 : TF := ⟨0, 0, FT0⟩
abbrev Zav (t : TF) : Value := .agg #[.int .i64 t.i, .int .i64 t.j, .bool (decide (t.f.x.num < 0)), .slice t.f.a1 (dg t.f.x.num.natAbs).length t.f.c1, .slice t.f.a2 (dg (t.f.x.den - 1)).length t.f.c2]
def tmF (t : TF) : Tm := ⟨t.i.toNat, t.j.toNat, t.f.x⟩
def OkIJ (t : TF) : Prop := (-9223372036854775808 ≤ t.i ∧ t.i ≤ 9223372036854775807) ∧ (-9223372036854775808 ≤ t.j ∧ t.j ≤ 9223372036854775807)
def erF (t : TF) : Int := if t.i < 0 ∨ t.j < 0 then 1 else if t.i > 12 ∨ t.j > 12 ∨ t.i + t.j > 12 then 9 else 0
def erL : List TF → Int
 | [] => 0
 | t :: l => if erF t = 0 then erL l else erF t
theorem Zlv (l : List TF) (k : Nat) (h : k < l.length) : erL (l.drop k) = if erF (l.getD k TF0) = 0 then erL (l.drop (k + 1)) else erF (l.getD k TF0) := by
 rw [List.drop_eq_getElem_cons h, erL]; simp [List.getD, h]
theorem takeTF (l : List TF) {k : Nat} (h : k < l.length) : l.take (k + 1) = l.take k ++ [l.getD k TF0] := by
 rw [List.take_add_one, List.getElem?_eq_getElem h]; simp [List.getD, h]
def PostTO (l : List TF) (v : Value) (Ψ : List Zy) : Prop := ∃ b lo, v = .tuple #[.slice (some ⟨b, 0, none⟩) 169 169, .int .i64 (erL l)] ∧ lo.length = 169 ∧ Eqv (pol (xs lo)) (if erL l = 0 then l.map tmF else []) ∧ Ψ = [Row (some ⟨b, 0, none⟩) (cellsOf Jr lo), AllF lo]
theorem tf_Hb {K : Nat} {l : List TF} (h : ∀ t ∈ l, Qc t.f.x ≤ K) (n : Nat) (hn : n ≤ l.length) : Hb (l.length * (K + 1) + 1) ((l.take n).map tmF) := by
 refine (Hb.of_KL (k := K) (fun t ht => ?_)).mono (by rw [List.length_map, List.length_take]; have := Nat.mul_le_mul_right (K + 1) (Nat.min_le_right n l.length); omega)
 obtain ⟨s, hs, rfl⟩ := List.mem_map.1 ht
 exact h s (List.mem_of_mem_take hs)
theorem tf_add {l : List TF} {X : List Rat} {k m : Nat} (hk : k < l.length) (hX : X.length = 169) (h1 : 0 ≤ (l.getD k TF0).i) (h2 : 0 ≤ (l.getD k TF0).j) (h3 : (l.getD k TF0).i + (l.getD k TF0).j ≤ 12) (hm : m = 13 * (l.getD k TF0).i.toNat + (l.getD k TF0).j.toNat)
  (h : Eqv (pol X) ((l.take k).map tmF)) : Eqv (pol (X.set m (X.getD m 0 + (l.getD k TF0).f.x))) ((l.take (k + 1)).map tmF) := fun φ => by
 rw [Yu φ _ oo, h φ, takeTF l hk, List.map_append, Jf]
 rw [show m / 13 = (l.getD k TF0).i.toNat by omega, show m % 13 = (l.getD k TF0).j.toNat by omega]
 simp only [List.map_cons, List.map_nil, lin, tmF]; grind
theorem C_tOf (l : List TF) (ad : Option Addr) (c K : Nat) (hn : l.length ≤ 1000) (hK : ∀ t ∈ l, Qc t.f.x ≤ K) (hkk : K ≤ 100000) (hij : ∀ t ∈ l, OkIJ t) : Ctr Tryz.prog 54 [.slice ad l.length c] [Row ad (cellsOf Zav l), AllF (l.map TF.f)] (PostTO l) := by
 refine fn_intro func54 rfl ntmps54 nb ?_
 intro S w0 a hS h
 refine gC h (zS (za rfl (za rfl (zn (zS ?_))))); clear h; intro a w h
 refine Zi (Jb h (vs := []) rfl call105 (Gb) ss dd ?_); clear h; rintro v7 σ7 a w ⟨b7, rfl, rfl⟩ h
 replace h := h.derive (R := AllF (List.replicate 169 FT0)) (fun X hX => AllF.zeros 169 X _)
 refine gL h (za rfl (zn (zs (zS (za rfl (zn (zb ?_))))))); clear h; intro a w h
 refine Zf (fun (i : Nat) a w => i ≤ l.length ∧ ∃ l2, ((l2.length = 169 ∧ erL l = erL (l.drop i) ∧ Eqv (pol (xs l2)) ((l.take i).map tmF))) ∧ St 84 S w0 [(0, .slice ad l.length c), (4, .slice (some ⟨b7, 0, none⟩) 169 169), (5, nI i)] [(b7, .cells (cellsOf Jr (l2)).toArray 56 (0, 0))] [AllF l2, Row ad (cellsOf Zav l), AllF (l.map TF.f)] a w) (fun i => l.length - i) 0 (⟨Nat.zero_le _, List.replicate 169 FT0, ⟨List.length_replicate, rfl, by rw [Vx]; exact fun φ => Jh φ 169⟩, by exact (h.factsSub (by simp)).sub (Zen ⟨rfl, rfl, rfl, trivial⟩)⟩) ?_; clear h
 rintro i a w ⟨hi_i, l2, ⟨hln, hie, hel⟩, h⟩
 refine gC h (zs (zS (zm rfl (zm rfl (zp (.builtin [_] rfl (Zlg _ _ _)) (zp (.lss rfl rfl) (zn ?_))))))); clear h; intro a w h
 refine cW ?_
 refine Zb h rfl (fun hc11 => ?_) (fun hc11 => ?_)
 ·
  skip
  have hlt_i : i < l.length := dT hc11
  obtain ⟨B_ad, O_ad, rfl⟩ := h.row_addr (ad := ad) (M := cellsOf Zav l) mm (nE 5)
  have hme : l.getD i TF0 ∈ l := getD_mem _ hlt_i
  have hmf : (l.getD i TF0).f ∈ l.map TF.f := List.mem_map_of_mem hme
  have hz1 := hK _ hme
  obtain ⟨⟨hi1, hi2⟩, hj1, hj2⟩ := hij _ hme
  replace h := h.derive (R := Row ((l.getD i TF0).f).a2 (List.map Zv (dg (((l.getD i TF0).f).x.den - 1)))) (fun X hX => AllF.get2 (hX _ mm) hmf)
  replace h := h.derive (R := Row ((l.getD i TF0).f).a1 (List.map Zv (dg ((l.getD i TF0).f).x.num.natAbs))) (fun X hX => AllF.get1 (hX _ mm) hmf)
  replace h := h.derive (R := Row (l2.getD ((13 * (l.getD i TF0).i.toNat + (l.getD i TF0).j.toNat)) FT0).a2 (List.map Zv (dg ((l2.getD ((13 * (l.getD i TF0).i.toNat + (l.getD i TF0).j.toNat)) FT0).x.den - 1)))) (fun X hX => AllF.g2 (hX _ mm) ((13 * (l.getD i TF0).i.toNat + (l.getD i TF0).j.toNat)))
  replace h := h.derive (R := Row (l2.getD ((13 * (l.getD i TF0).i.toNat + (l.getD i TF0).j.toNat)) FT0).a1 (List.map Zv (dg (l2.getD ((13 * (l.getD i TF0).i.toNat + (l.getD i TF0).j.toNat)) FT0).x.num.natAbs))) (fun X hX => AllF.g1 (hX _ mm) ((13 * (l.getD i TF0).i.toNat + (l.getD i TF0).j.toNat)))
  refine gC h (zk (zs (zb (zs (zS (zm rfl (zm rfl (zp (.indexAddr rfl rfl (Zf3 _ _ _ _ _ oo)) (zp (Pure1.cast (v' := .pointer (some ⟨B_ad, O_ad + (i * 5 + 0), none⟩)) (.fA rfl Zh2) (by rw [Nat.add_assoc])) (zD rfl mm (Za3 (k := 5) (enc := Zav) (fun _ => rfl) l i 0 oo dd) isAgg3 sizeOf3 (Xw (k := 5) (enc := Zav) (fun _ => rfl) l TF0 i oo false 1 0 _ dd dd rfl) (.inr rfl) ?_))))))))))
  refine zp (.lss rfl rfl) ?_; intro a w h
  refine Zg h (fun hc19 h => ?_) (fun hc19 h => ?_)
  focus
   have hx19 : (l.getD i TF0).i < 0 := of_decide_eq_true hc19
   have hE : erF (l.getD i TF0) = 1 := if_pos oo
   refine gL h (zm rfl (zo 20 rfl rfl rfl (zo 20 rfl rfl rfl (zo 20 rfl rfl rfl (zo 20 rfl rfl rfl (zo 20 rfl rfl rfl (zo 20 rfl rfl rfl (zp (.pickT rfl rfl) (zn ?_))))))))); clear h; intro a w h
  rotate_left
  focus
   have hx19 : ¬ (l.getD i TF0).i < 0 := of_decide_eq_false hc19
   refine gL h (zm rfl (zq 20 rfl rfl (.move rfl) (zq 20 rfl rfl (.move rfl) (zq 20 rfl rfl (.indexAddr rfl rfl (Zf3 _ _ _ _ _ oo)) (zq 20 rfl rfl (Pure1.cast (v' := .pointer (some ⟨B_ad, O_ad + (i * 5 + 1), none⟩)) (.fA rfl Zh1) (by rw [Nat.add_assoc])) ?_))))); clear h; intro a w h
   refine Ze 20 h rfl rfl (Zaf h rfl mm (Za3 (k := 5) (enc := Zav) (fun _ => rfl) l i 1 oo dd) isAgg3 sizeOf3 (Xw (k := 5) (enc := Zav) (fun _ => rfl) l TF0 i oo false 1 1 _ dd dd rfl) (.inr rfl) dd ?_); clear h; intro a h
   refine gL h (zq 20 rfl rfl (.lss rfl rfl) ?_); clear h; intro a w h
   refine Zg h (fun hc26 h => ?_) (fun hc26 h => ?_)
   rotate_left
   ·
    skip
    have hx26 : ¬ (l.getD i TF0).j < 0 := of_decide_eq_false hc26
    refine gL h (zp (.pickF rfl rfl) (zn ?_)); clear h; intro a w h
    refine cW ?_
    refine Zj h rfl ?_
    refine gC h (zk (zs (zs (yD Za [0, 1, 2, 3, 4, 5, 6, 7, 8, 9, 10, 11, 12, 13, 14, 15, 16, 17, 18, 19, 20, 21, 22, 23, 24, 25, 26, 27] (Zd kk) (ym rfl rfl (ym rfl rfl (yp rfl (.indexAddr rfl rfl (Zf3 _ _ _ _ _ oo)) (yp rfl (Pure1.cast (v' := .pointer (some ⟨B_ad, O_ad + (i * 5 + 0), none⟩)) (.fA rfl Zh2) (by rw [Nat.add_assoc])) ?_)))))))); clear h
    refine Zm rfl kk rfl mm (Za3 (k := 5) (enc := Zav) (fun _ => rfl) l i 0 oo dd) isAgg3 sizeOf3 (Xw (k := 5) (enc := Zav) (fun _ => rfl) l TF0 i oo false 1 0 _ dd dd rfl) (.inr rfl) dd ?_
    refine yp rfl (.gtr rfl rfl) ?_
    refine Zt (fun hc34  => ?_) (fun hc34  => ?_)
    focus
     have hx34 : (l.getD i TF0).i > 12 := of_decide_eq_true hc34
     have hE : erF (l.getD i TF0) = 9 := by unfold erF; rw [if_neg oo, if_pos oo]
     refine ym rfl rfl (yo 35 rfl rfl rfl rfl (yo 35 rfl rfl rfl rfl (yo 35 rfl rfl rfl rfl (yo 35 rfl rfl rfl rfl (yo 35 rfl rfl rfl rfl (yo 35 rfl rfl rfl rfl (yp rfl (.pickT rfl rfl) (ym rfl rfl (yo 43 rfl rfl rfl rfl (yo 43 rfl rfl rfl rfl (yo 43 rfl rfl rfl rfl (yo 43 rfl rfl rfl rfl (yo 43 rfl rfl rfl rfl (yo 43 rfl rfl rfl rfl (yo 43 rfl rfl rfl rfl (yo 43 rfl rfl rfl rfl (yo 43 rfl rfl rfl rfl (yo 43 rfl rfl rfl rfl (yo 43 rfl rfl rfl rfl (yo 43 rfl rfl rfl rfl (yp rfl (.pickT rfl rfl) (yn ?_)))))))))))))))))))))); intro a w h
    rotate_left
    focus
     have hx34 : ¬ (l.getD i TF0).i > 12 := of_decide_eq_false hc34
     refine ym rfl rfl (yq rfl rfl rfl (.move rfl) (yq rfl rfl rfl (.move rfl) (yq rfl rfl rfl (.indexAddr rfl rfl (Zf3 _ _ _ _ _ oo)) (yq rfl rfl rfl (Pure1.cast (v' := .pointer (some ⟨B_ad, O_ad + (i * 5 + 1), none⟩)) (.fA rfl Zh1) (by rw [Nat.add_assoc])) ?_))))
     refine Kr rfl rfl rfl kk rfl mm (Za3 (k := 5) (enc := Zav) (fun _ => rfl) l i 1 oo dd) isAgg3 sizeOf3 (Xw (k := 5) (enc := Zav) (fun _ => rfl) l TF0 i oo false 1 1 _ dd dd rfl) (.inr rfl) dd ?_
     refine yq rfl rfl rfl (.gtr rfl rfl) ?_
     refine Zt (fun hc41  => ?_) (fun hc41  => ?_)
     focus
      have hx41 : (l.getD i TF0).j > 12 := of_decide_eq_true hc41
      have hE : erF (l.getD i TF0) = 9 := by unfold erF; rw [if_neg oo, if_pos oo]
      refine yp rfl (.pickF rfl rfl) (ym rfl rfl (yo 43 rfl rfl rfl rfl (yo 43 rfl rfl rfl rfl (yo 43 rfl rfl rfl rfl (yo 43 rfl rfl rfl rfl (yo 43 rfl rfl rfl rfl (yo 43 rfl rfl rfl rfl (yo 43 rfl rfl rfl rfl (yo 43 rfl rfl rfl rfl (yo 43 rfl rfl rfl rfl (yo 43 rfl rfl rfl rfl (yo 43 rfl rfl rfl rfl (yo 43 rfl rfl rfl rfl (yp rfl (.pickT rfl rfl) (yn ?_))))))))))))))); intro a w h
     rotate_left
     focus
      have hx41 : ¬ (l.getD i TF0).j > 12 := of_decide_eq_false hc41
      refine yp rfl (.pickF rfl rfl) (ym rfl rfl (yq rfl rfl rfl (.move rfl) (yq rfl rfl rfl (.move rfl) (yq rfl rfl rfl (.indexAddr rfl rfl (Zf3 _ _ _ _ _ oo)) (yq rfl rfl rfl (Pure1.cast (v' := .pointer (some ⟨B_ad, O_ad + (i * 5 + 0), none⟩)) (.fA rfl Zh2) (by rw [Nat.add_assoc])) ?_)))))
      refine Kr rfl rfl rfl kk rfl mm (Za3 (k := 5) (enc := Zav) (fun _ => rfl) l i 0 oo dd) isAgg3 sizeOf3 (Xw (k := 5) (enc := Zav) (fun _ => rfl) l TF0 i oo false 1 0 _ dd dd rfl) (.inr rfl) dd ?_
      refine yq rfl rfl rfl (.move rfl) (yq rfl rfl rfl (.move rfl) (yq rfl rfl rfl (.indexAddr rfl rfl (Zf3 _ _ _ _ _ oo)) (yq rfl rfl rfl (Pure1.cast (v' := .pointer (some ⟨B_ad, O_ad + (i * 5 + 1), none⟩)) (.fA rfl Zh1) (by rw [Nat.add_assoc])) ?_)))
      refine Kr rfl rfl rfl kk rfl mm (Za3 (k := 5) (enc := Zav) (fun _ => rfl) l i 1 oo dd) isAgg3 sizeOf3 (Xw (k := 5) (enc := Zav) (fun _ => rfl) l TF0 i oo false 1 1 _ dd dd rfl) (.inr rfl) dd ?_
      refine yq rfl rfl rfl (.add rfl rfl) (yq rfl rfl rfl (.gtr rfl rfl) ?_)
      refine Zt (fun hc55  => ?_) (fun hc55  => ?_)
      rotate_left
      ·
       skip
       have hx55 : ¬ (l.getD i TF0).i + (l.getD i TF0).j > 12 := of_decide_eq_false hc55
       have hE : erF (l.getD i TF0) = 0 := by unfold erF; rw [if_neg oo, if_neg oo]
       have hn2 : l2.length = 169 := hln
       have hm2 : l2.getD (13 * (l.getD i TF0).i.toNat + (l.getD i TF0).j.toNat) FT0 ∈ l2 := getD_mem _ oo
       have hz2 : Qc (l2.getD (13 * (l.getD i TF0).i.toNat + (l.getD i TF0).j.toNat) FT0).x ≤ l.length * (K + 1) + 1 := by rw [Yz]; exact Zwy (Hb.of_eqv (tf_Hb hK i oo) hel) (by rw [Zdm]; omega)
       have hlk : l.length * (K + 1) ≤ 1000 * 100001 := Nat.mul_le_mul hn oo
       refine yp rfl (.pickF rfl rfl) (yn ?_); intro a w h
       refine cW ?_
       refine Zj h rfl ?_
       refine gC h (zk (zs (yD Za [0, 1, 2, 3, 4, 5, 6, 7, 8, 9, 10, 11, 12] (Zd kk) (ym rfl rfl (ym rfl rfl (yp rfl (.indexAddr rfl rfl (Zf3 _ _ _ _ _ oo)) (yp rfl (Pure1.cast (v' := .pointer (some ⟨B_ad, O_ad + (i * 5 + 0), none⟩)) (.fA rfl Zh2) (by rw [Nat.add_assoc])) ?_))))))); clear h
       refine Zm rfl kk rfl mm (Za3 (k := 5) (enc := Zav) (fun _ => rfl) l i 0 oo dd) isAgg3 sizeOf3 (Xw (k := 5) (enc := Zav) (fun _ => rfl) l TF0 i oo false 1 0 _ dd dd rfl) (.inr rfl) dd ?_
       refine yp rfl (.pO (13 * (l.getD i TF0).i.toNat) (.mul rfl rfl)) (ym rfl rfl (ym rfl rfl (yp rfl (.indexAddr rfl rfl (Zf3 _ _ _ _ _ oo)) (yp rfl (Pure1.cast (v' := .pointer (some ⟨B_ad, O_ad + (i * 5 + 1), none⟩)) (.fA rfl Zh1) (by rw [Nat.add_assoc])) ?_))))
       refine Zm rfl kk rfl mm (Za3 (k := 5) (enc := Zav) (fun _ => rfl) l i 1 oo dd) isAgg3 sizeOf3 (Xw (k := 5) (enc := Zav) (fun _ => rfl) l TF0 i oo false 1 1 _ dd dd rfl) (.inr rfl) dd ?_
       refine yp rfl (.pO (13 * (l.getD i TF0).i.toNat + (l.getD i TF0).j.toNat) (.add rfl rfl)) (yp rfl (.assign rfl) (yn (yD Za [0, 1, 2, 3, 4, 5, 6, 7, 8, 9, 10, 11, 12, 13] (Zd kk) (ym rfl rfl (ym rfl rfl (ym rfl rfl (ym rfl rfl (yp rfl (.indexAddr rfl rfl (Gt _ _ _ _ _ oo)) (yd rfl rfl mm isAgg56 sizeOf56 (Zac (k := 3) (fun _ => rfl) ((fun _ => rfl)) l2 FT0 (13 * (l.getD i TF0).i.toNat + (l.getD i TF0).j.toNat) oo) ?_)))))))))
       refine ym rfl rfl (ym rfl rfl (yp rfl (.indexAddr rfl rfl (Zf3 _ _ _ _ _ oo)) (yp rfl (Pure1.cast (v' := .pointer (some ⟨B_ad, O_ad + (i * 5 + 2), none⟩)) (.fA rfl Qce) (by rw [Nat.add_assoc])) ?_)))
       refine Zm rfl kk rfl mm (Za3 (k := 5) (enc := Zav) (fun _ => rfl) l i 2 oo dd) isAgg56 sizeOf56 (Xw (k := 5) (enc := Zav) (fun _ => rfl) l TF0 i oo true 3 2 _ dd dd rfl) (.inl rfl) dd ?_
       refine yf [_, _] rfl rfl call65 (Ztg _ _ _ _ _ _ _ _ ((l2.getD (13 * (l.getD i TF0).i.toNat + (l.getD i TF0).j.toNat) FT0).x) ((l.getD i TF0).f.x) oo oo) ?_; rintro v81 Ψ81 ⟨ad81, c81, bd81, d81, rfl, hle81, hlf81, rfl⟩
       have hl81 := Yw ((l2.getD (13 * (l.getD i TF0).i.toNat + (l.getD i TF0).j.toNat) FT0).x) ((l.getD i TF0).f.x)
       refine yp rfl (.indexAddr rfl rfl (Gt _ _ _ _ _ oo)) ?_
       refine Gf (b := b7) (cs := (cellsOf Jr l2).toArray) (cs' := (cellsOf Jr (l2.set (13 * (l.getD i TF0).i.toNat + (l.getD i TF0).j.toNat) (FT.mk (((l2.getD (13 * (l.getD i TF0).i.toNat + (l.getD i TF0).j.toNat) FT0).x) + ((l.getD i TF0).f.x)) ad81 c81 bd81 d81 hle81 hlf81))).toArray) (v := Jr (FT.mk (((l2.getD (13 * (l.getD i TF0).i.toNat + (l.getD i TF0).j.toNat) FT0).x) + ((l.getD i TF0).f.x)) ad81 c81 bd81 d81 hle81 hlf81)) rfl kk rfl rfl (Yd (k := 3) (fun _ => rfl) l2 (13 * (l.getD i TF0).i.toNat + (l.getD i TF0).j.toNat) oo (FT.mk (((l2.getD (13 * (l.getD i TF0).i.toNat + (l.getD i TF0).j.toNat) FT0).x) + ((l.getD i TF0).f.x)) ad81 c81 bd81 d81 hle81 hlf81)) uu sizeOf56 rfl (Vv (k := 3) (fun _ => rfl) l2 (13 * (l.getD i TF0).i.toNat + (l.getD i TF0).j.toNat) oo) rfl ?_
       refine yn (zr (zm rfl (zp (.pN (i + 1) (.add rfl rfl)) (za rfl (zn ?_))))); intro a w h
       replace h := h.derive (R := AllF (l2.set (13 * (l.getD i TF0).i.toNat + (l.getD i TF0).j.toNat) (FT.mk (((l2.getD (13 * (l.getD i TF0).i.toNat + (l.getD i TF0).j.toNat) FT0).x) + ((l.getD i TF0).f.x)) ad81 c81 bd81 d81 hle81 hlf81))) (fun X hX => AllF.set (hX _ mm) (hX _ mm) (hX _ mm))
       have hx2 : Eqv (pol (xs (l2.set (13 * (l.getD i TF0).i.toNat + (l.getD i TF0).j.toNat) (FT.mk (((l2.getD (13 * (l.getD i TF0).i.toNat + (l.getD i TF0).j.toNat) FT0).x) + ((l.getD i TF0).f.x)) ad81 c81 bd81 d81 hle81 hlf81)))) ((l.take (i + 1)).map tmF) := by
        have h9 := tf_add hlt_i (by rw [Zdm]; exact hln) oo oo oo rfl hel
        rw [← Yz] at h9; rw [Ze2]; exact h9
       exact ⟨i + 1, ⟨oo, l2.set (13 * (l.getD i TF0).i.toNat + (l.getD i TF0).j.toNat) (FT.mk (((l2.getD (13 * (l.getD i TF0).i.toNat + (l.getD i TF0).j.toNat) FT0).x) + ((l.getD i TF0).f.x)) ad81 c81 bd81 d81 hle81 hlf81), ⟨by rw [List.length_set]; exact hln, by rw [hie, Zlv l i hlt_i, if_pos hE], hx2⟩, by exact (h.factsSub (by simp)).sub sA⟩, oo⟩
      have hx55 : (l.getD i TF0).i + (l.getD i TF0).j > 12 := of_decide_eq_true hc55
      have hE : erF (l.getD i TF0) = 9 := by unfold erF; rw [if_neg oo, if_pos oo]
      refine yp rfl (.pickF rfl rfl) (yn ?_); intro a w h
    all_goals
     refine cW ?_
     refine Zq h rfl ?_
     refine wp_seq (wp_region_lit ?_)
     refine Zi (Jb h (vs := []) rfl call105 (Gb) ss dd ?_); clear h; rintro v57 σ57 a w ⟨b57, rfl, rfl⟩ h
     replace h := h.derive (R := AllF (List.replicate 169 FT0)) (fun X hX => AllF.zeros 169 X _)
     refine gL h (za rfl (za rfl (zn (zt ?_)))); clear h; intro a w h
     replace h := h.shareAll hS (cellsOf Jr (List.replicate 169 FT0)) rfl
     have her : erL l = 9 := by rw [hie, Zlv l i hlt_i, if_neg (by rw [hE]; decide), hE]
     exact Qg (Ψ := [Row (some ⟨b57, 0, none⟩) (cellsOf Jr (List.replicate 169 FT0)), AllF (List.replicate 169 FT0)]) h (Qv h rfl (.tmp rfl) (.tmp rfl)) ⟨b57, _, by rw [her], List.length_replicate, by rw [Vx, if_neg (by rw [her]; decide)]; exact fun φ => Jh φ 169, rfl⟩ ss
   have hx26 : (l.getD i TF0).j < 0 := of_decide_eq_true hc26
   have hE : erF (l.getD i TF0) = 1 := if_pos oo
   refine gL h (zp (.pickF rfl rfl) (zn ?_)); clear h; intro a w h
  all_goals
   refine cW ?_
   refine Zq h rfl ?_
   refine wp_seq (wp_region_lit ?_)
   refine Zi (Jb h (vs := []) rfl call105 (Gb) ss dd ?_); clear h; rintro v28 σ28 a w ⟨b28, rfl, rfl⟩ h
   replace h := h.derive (R := AllF (List.replicate 169 FT0)) (fun X hX => AllF.zeros 169 X _)
   refine gL h (za rfl (za rfl (zn (zt ?_)))); clear h; intro a w h
   replace h := h.shareAll hS (cellsOf Jr (List.replicate 169 FT0)) rfl
   have her : erL l = 1 := by rw [hie, Zlv l i hlt_i, if_neg (by rw [hE]; decide), hE]
   exact Qg (Ψ := [Row (some ⟨b28, 0, none⟩) (cellsOf Jr (List.replicate 169 FT0)), AllF (List.replicate 169 FT0)]) h (Qv h rfl (.tmp rfl) (.tmp rfl)) ⟨b28, _, by rw [her], List.length_replicate, by rw [Vx, if_neg (by rw [her]; decide)]; exact fun φ => Jh φ 169, rfl⟩ ss
 ·
  skip
  have heq_i : l.length = i := dF hc11
  subst heq_i
  replace h := h.shareAll hS (cellsOf Jr l2) rfl
  refine gC h (ze (zS (zm rfl (za rfl (za rfl (zn (zt ?_))))))); clear h; intro a w h
  rw [List.drop_length, show erL [] = 0 from rfl] at hie
  rw [List.take_length] at hel
  exact Qg (Ψ := [Row (some ⟨b7, 0, none⟩) (cellsOf Jr l2), AllF l2]) h (Qv h rfl (.tmp rfl) (.tmp rfl)) ⟨b7, _, by rw [hie], hln, by rw [if_pos hie]; exact hel, rfl⟩ ss
end
section
theorem Zhl (x0 : Int) (x1 : Int) (x2_0 : Value) (x2_1 : Value) (x2_2 : Value) (w : World) : (Instr.build 105 [(0, .int .i64 x0), (1, .int .i64 x1), (2, .agg #[x2_0, x2_1, x2_2])].toArray).run Tryz.prog w = .ok (.agg #[.int .i64 x0, .int .i64 x1, x2_0, x2_1, x2_2]) w := by simp [go_sem]
theorem Zkt (x0_0 : Value) (x0_1 : Value) (x0_2 : Value) (x0_3 : Value) (x0_4 : Value) (w : World) : (Instr.buildSlice 102 1 [(0, .agg #[x0_0, x0_1, x0_2, x0_3, x0_4])].toArray).run Tryz.prog w = .ok (.slice (some ⟨w.heap.size, 0, none⟩) 1 1) (w.alloc (.cells #[x0_0, x0_1, x0_2, x0_3, x0_4] 105 (0, 0))) := by
 simp [go_sem]
def t3 (t : TF) : Int × Int × Rat := (t.i, t.j, t.f.x)
def tzB (d : Nat) (t : Ti) : Int × Int × Rat := (((brI d t : Nat) : Int), ((brJ d t : Nat) : Int), qv t.n t.d)
def tzI (t : Ti) : Int × Int × Rat := (t.i, t.j, qv t.n t.d)
def er3 (t : Int × Int × Rat) : Int := if t.1 < 0 ∨ t.2.1 < 0 then 1 else if t.1 > 12 ∨ t.2.1 > 12 ∨ t.1 + t.2.1 > 12 then 9 else 0
def erT : List (Int × Int × Rat) → Int
 | [] => 0
 | t :: l => if er3 t = 0 then erT l else er3 t
def tm3 (t : Int × Int × Rat) : Tm := ⟨t.1.toNat, t.2.1.toNat, t.2.2⟩
theorem Znu : ∀ l : List TF, erL l = erT (l.map t3)
 | [] => rfl
 | t :: l => by rw [List.map_cons, erL, erT, Znu l]; rfl
theorem Qdn (l : List TF) : l.map tmF = (l.map t3).map tm3 := by rw [List.map_map]; rfl
def Zzm (T : List (Int × Int × Rat)) (v : Value) (Ψ : List Zy) : Prop := ∃ b lo, v = .tuple #[.slice (some ⟨b, 0, none⟩) 169 169, .int .i64 (erT T)] ∧ lo.length = 169 ∧ Eqv (pol (xs lo)) (if erT T = 0 then T.map tm3 else []) ∧ Ψ = [Row (some ⟨b, 0, none⟩) (cellsOf Jr lo), AllF lo]
theorem Zwo {W : List TF} {l : List Ti} {g : Ti → Int × Int × Rat} (h : W.map t3 = l.map g) {t : TF} (ht : t ∈ W) : ∃ s ∈ l, g s = t3 t := by
 have h1 : t3 t ∈ l.map g := by rw [← h]; exact List.mem_map_of_mem ht
 obtain ⟨s, hs, e⟩ := List.mem_map.1 h1
 exact ⟨s, hs, e⟩
theorem ref_K {W : List TF} {l : List Ti} {g : Ti → Int × Int × Rat} (h : W.map t3 = l.map g) (hok : ∀ t ∈ l, OkT t) (hg : ∀ s, (g s).2.2 = qv s.n s.d := by exact fun _ => rfl) : ∀ t ∈ W, Qc t.f.x ≤ 4 := fun t ht => by
 obtain ⟨s, hs, e⟩ := Zwo h ht
 have e2 : t.f.x = qv s.n s.d := by rw [← hg s, e]; rfl
 rw [e2]; exact Jn (hok s hs).2.2
theorem Qdu {W : List TF} {l : List Ti} {g : Ti → Int × Int × Rat} (h : W.map t3 = l.map g) (hg : ∀ s ∈ l, (-9223372036854775808 ≤ (g s).1 ∧ (g s).1 ≤ 9223372036854775807) ∧ (-9223372036854775808 ≤ (g s).2.1 ∧ (g s).2.1 ≤ 9223372036854775807)) : ∀ t ∈ W, OkIJ t := fun t ht => by
 obtain ⟨s, hs, e⟩ := Zwo h ht
 have := hg s hs
 rw [e] at this; exact this
theorem okB_ij {d : Nat} (hd : d ≤ 12) (t : Ti) : (-9223372036854775808 ≤ (tzB d t).1 ∧ (tzB d t).1 ≤ 9223372036854775807) ∧ (-9223372036854775808 ≤ (tzB d t).2.1 ∧ (tzB d t).2.1 ≤ 9223372036854775807) := by
 have h1 := Zs3 d t; have h2 := Zs2 d t
 simp only [tzB]; omega
theorem okI_ij {t : Ti} (h : OkT t) : (-9223372036854775808 ≤ (tzI t).1 ∧ (tzI t).1 ≤ 9223372036854775807) ∧ (-9223372036854775808 ≤ (tzI t).2.1 ∧ (tzI t).2.1 ≤ 9223372036854775807) := ⟨h.1, h.2.1⟩
theorem erT_B {d : Nat} (hd : d ≤ 12) : ∀ l : List Ti, erT (l.map (tzB d)) = 0
 | [] => rfl
 | t :: l => by
  have h1 := Zs3 d t; have h2 := Zs2 d t
  rw [List.map_cons, erT, if_pos (by unfold er3 tzB; dsimp only; rw [if_neg oo, if_neg oo])]; exact erT_B hd l
theorem tm3_B (d : Nat) (l : List Ti) : (l.map (tzB d)).map tm3 = Yl d l := by
 rw [List.map_map]; unfold Yl
 refine List.map_congr_left (fun t _ => ?_)
 simp only [Function.comp, tm3, tzB, tmB, Int.toNat_natCast]
theorem Qbj {d : Nat} (hd : d ≤ 12) {l : List Ti} {lo : List FT} (h : Eqv (pol (xs lo)) (if erT (l.map (tzB d)) = 0 then (l.map (tzB d)).map tm3 else [])) : Eqv (pol (xs lo)) (Yl d l) := by
 rwa [if_pos (erT_B hd l), tm3_B] at h
theorem Qdv {d m : Nat} {l : List Ti} (h : ∀ t ∈ l, OkT t) (hm : l.length ≤ m) (hm2 : m ≤ 100) : Pq d (m * 5 + 1) (Yl d l) := Pq.raw (Zld d l) (Zpt h) (by unfold Yl; rw [List.length_map]; exact hm) hm2
theorem ref_Tb {d m : Nat} (hd : d ≤ 12) {l : List Ti} {lo : List FT} (hok : ∀ t ∈ l, OkT t) (hm : l.length ≤ m) (hm2 : m ≤ 100) (hn : lo.length = 169) (he : Eqv (pol (xs lo)) (Yl d l)) : Tb d (m * 5 + 1) (xs lo) :=
 Tb.of_eqv (by rw [Zdm]; exact hn) he (Zld d l) (Qdv hok hm hm2).hgt
theorem C_RefB (l : List Ti) (ad : Option Addr) (c : Nat) (d : Nat) (hd : d ≤ 12) (hok : ∀ t ∈ l, OkT t) (hn : l.length ≤ 1000) : Ctr Tryz.prog 9 [.slice ad l.length c] [Row ad (cellsOf (Zbs d) l)] (Zzm (l.map (tzB d))) := by
 refine fn_intro func9 rfl ntmps9 nb ?_
 intro S w0 a hS h
 refine gC h (zS (za rfl (za rfl (zn (zS (za rfl (zn (zs (zS (za rfl (zn (zb ?_)))))))))))); clear h; intro a w h
 replace h := h.derive (R := AllF (([] : List TF).map TF.f)) (fun X hX => AllF.nil X _)
 refine Zf (fun (k : Nat) a w => k ≤ l.length ∧ ∃ (W : List TF) (ad1 : Option Addr) (c1 : Nat) (o1 : List (Nat × Obj)), (W.map t3 = (l.take k).map (tzB d) ∧ GrowO 5 105 (.slice ad1 W.length c1) W.length (cellsOf Zav W) o1) ∧ St 36 S w0 [(0, .slice ad l.length c), (2, .slice none 0 0), (3, .int .i64 0), (4, (.slice ad1 W.length c1)), (5, nI k)] (o1 ++ []) [AllF (W.map TF.f), Row ad (cellsOf (Zbs d) l)] a w) (fun k => l.length - k) 0 (⟨Nat.zero_le _, [], none, 0, [], ⟨rfl, GrowO.nil _ _⟩, by exact (h.factsSub (by simp)).sub (Zen ⟨rfl, rfl, rfl, rfl, rfl, trivial⟩)⟩) ?_; clear h
 rintro k a w ⟨hi_k, W, ad1, c1, o1, ⟨hW, hG1⟩, h⟩
 refine gC h (zs (zS (zm rfl (zm rfl (zp (.builtin [_] rfl (Qz _ _ _)) (zp (.lss rfl rfl) (zn ?_))))))); clear h; intro a w h
 refine cW ?_
 refine Zb h rfl (fun hc9 => ?_) (fun hc9 => ?_)
 ·
  skip
  have hlt_k : k < l.length := dT hc9
  obtain ⟨B_ad, O_ad, rfl⟩ := h.row_addr (ad := ad) (M := cellsOf (Zbs d) l) mm (nE 4)
  obtain ⟨_, _, hqa, hqb, hqc, hqd⟩ := hok _ (getD_mem l (d := Ti0) hlt_k)
  have hlk : W.length = k := by have h5 := congrArg List.length hW; rwa [List.length_map, List.length_map, List.length_take, Nat.min_eq_left oo] at h5
  refine gC h (zk (zs (zb (yD Za [0, 1, 2, 3, 4, 5, 6, 7, 8, 9, 10, 11, 12, 13, 14, 15, 16, 17, 18, 19, 20] (Zd kk) (ym rfl rfl (ym rfl rfl (ym rfl rfl (yp rfl (.indexAddr rfl rfl (Zfe _ _ _ _ _ oo)) (yp rfl (Pure1.cast (v' := .pointer (some ⟨B_ad, O_ad + (k * 4 + 0), none⟩)) (.fA rfl Zjc) (by rw [Nat.add_assoc])) ?_))))))))); clear h
  refine Zm rfl kk rfl mm (Za3 (k := 4) (enc := (Zbs d)) (fun _ => rfl) l k 0 oo dd) isAgg3 sizeOf3 (Xw (k := 4) (enc := (Zbs d)) (fun _ => rfl) l Ti0 k oo false 1 0 _ dd dd rfl) (.inr rfl) dd ?_
  refine ym rfl rfl (ym rfl rfl (yp rfl (.indexAddr rfl rfl (Zfe _ _ _ _ _ oo)) (yp rfl (Pure1.cast (v' := .pointer (some ⟨B_ad, O_ad + (k * 4 + 1), none⟩)) (.fA rfl Zjb) (by rw [Nat.add_assoc])) ?_)))
  refine Zm rfl kk rfl mm (Za3 (k := 4) (enc := (Zbs d)) (fun _ => rfl) l k 1 oo dd) isAgg3 sizeOf3 (Xw (k := 4) (enc := (Zbs d)) (fun _ => rfl) l Ti0 k oo false 1 1 _ dd dd rfl) (.inr rfl) dd ?_
  refine ym rfl rfl (ym rfl rfl (yp rfl (.indexAddr rfl rfl (Zfe _ _ _ _ _ oo)) (yp rfl (Pure1.cast (v' := .pointer (some ⟨B_ad, O_ad + (k * 4 + 2), none⟩)) (.fA rfl Zja) (by rw [Nat.add_assoc])) ?_)))
  refine Zm rfl kk rfl mm (Za3 (k := 4) (enc := (Zbs d)) (fun _ => rfl) l k 2 oo dd) isAgg25 sizeOf25 (Xw (k := 4) (enc := (Zbs d)) (fun _ => rfl) l Ti0 k oo true 2 2 _ dd dd rfl) (.inl rfl) dd ?_
  refine yf [_] rfl rfl call53 (Zeh ((l.getD k Ti0).n) ((l.getD k Ti0).d) oo oo oo oo) ?_; rintro v28 Ψ28 ⟨ad28, c28, bd28, d28, rfl, hle28, hlf28, rfl⟩
  have hl28 := Ju ((l.getD k Ti0).n) ((l.getD k Ti0).d) oo oo oo oo
  refine yp rfl (.build [(_, _), (_, _), (_, _)] rfl (Zhl _ _ _ _ _)) (yB rfl [(_, _)] rfl (Zkt _ _ _ _ _) fun b30 => ?_)
  refine Gg (σr := []) rfl kk rfl rfl (List.Perm.trans (List.Perm.refl _) (List.Perm.cons _ (List.Perm.refl _))) hG1 runUnderlying102 runUnderlying102 typeInfo105 sizeOf105 zeroValue105 rfl dd dd rfl rfl dd (by show 72 * (2 * ((W).length + 1) + 192) ≤ 281474976710656; omega) dd ?_
  intro v31 o31 hG31
  obtain ⟨ad31, c31, rfl⟩ := hG31.is
  have hLn31 : (W).length + 1 = (W ++ [TF.mk ((brI d (l.getD k Ti0) : Nat) : Int) ((brJ d (l.getD k Ti0) : Nat) : Int) (FT.mk (qv ((l.getD k Ti0).n) ((l.getD k Ti0).d)) ad28 c28 bd28 d28 hle28 hlf28)]).length := lA
  rw [hLn31]; rw [hLn31] at hG31
  replace hG31 : GrowO 5 105 (.slice ad31 (W ++ [TF.mk ((brI d (l.getD k Ti0) : Nat) : Int) ((brJ d (l.getD k Ti0) : Nat) : Int) (FT.mk (qv ((l.getD k Ti0).n) ((l.getD k Ti0).d)) ad28 c28 bd28 d28 hle28 hlf28)]).length c31) (W ++ [TF.mk ((brI d (l.getD k Ti0) : Nat) : Int) ((brJ d (l.getD k Ti0) : Nat) : Int) (FT.mk (qv ((l.getD k Ti0).n) ((l.getD k Ti0).d)) ad28 c28 bd28 d28 hle28 hlf28)]).length (cellsOf Zav (W ++ [TF.mk ((brI d (l.getD k Ti0) : Nat) : Int) ((brJ d (l.getD k Ti0) : Nat) : Int) (FT.mk (qv ((l.getD k Ti0).n) ((l.getD k Ti0).d)) ad28 c28 bd28 d28 hle28 hlf28)])) o31 := by rw [Qd, Xc]; exact hG31
  refine yp rfl (.assign rfl) (yn (zr (zm rfl (zp (.pN (k + 1) (.add rfl rfl)) (za rfl (zn ?_)))))); intro a w h
  replace h := h.derive (R := AllF ((W ++ [TF.mk ((brI d (l.getD k Ti0) : Nat) : Int) ((brJ d (l.getD k Ti0) : Nat) : Int) (FT.mk (qv ((l.getD k Ti0).n) ((l.getD k Ti0).d)) ad28 c28 bd28 d28 hle28 hlf28)]).map TF.f)) (fun X hX => by rw [List.map_append]; exact AllF.snoc (hX _ mm) (hX _ mm) (hX _ mm))
  have hW2 : (W ++ [TF.mk ((brI d (l.getD k Ti0) : Nat) : Int) ((brJ d (l.getD k Ti0) : Nat) : Int) (FT.mk (qv ((l.getD k Ti0).n) ((l.getD k Ti0).d)) ad28 c28 bd28 d28 hle28 hlf28)]).map t3 = (l.take (k + 1)).map (tzB d) := by rw [List.map_append, hW, Zba l hlt_k, List.map_append]; rfl
  exact ⟨k + 1, ⟨oo, W ++ [TF.mk ((brI d (l.getD k Ti0) : Nat) : Int) ((brJ d (l.getD k Ti0) : Nat) : Int) (FT.mk (qv ((l.getD k Ti0).n) ((l.getD k Ti0).d)) ad28 c28 bd28 d28 hle28 hlf28)], ad31, c31, o31, ⟨hW2, hG31⟩, by exact (h.factsSub (by simp)).sub sA⟩, oo⟩
 ·
  skip
  have heq_k : l.length = k := dF hc9
  subst heq_k
  rw [List.take_length] at hW
  have hWA := hW
  have hlk : W.length = l.length := by have h5 := congrArg List.length hW; rwa [List.length_map, List.length_map] at h5
  replace h := St.shareO' h hS hG1
  refine gC h (ze (zS (zm rfl (zf [_] rfl call54 (C_tOf W ad1 c1 4 oo (ref_K hWA hok) dd (Qdu hWA (fun t _ => okB_ij hd t))) ?_)))); rintro v33 Ψ33 ⟨b33, l33, rfl, hn33, he33, rfl⟩
  refine zp (.eX rfl) (zp (.eX rfl) (za rfl (za rfl (zn (zt ?_))))); intro a w h
  exact Qg (Ψ := [Row (some ⟨b33, 0, none⟩) (cellsOf Jr l33), AllF l33]) h (Qv h rfl (.tmp rfl) (.tmp rfl)) ⟨b33, l33, by rw [Znu, hWA]; rfl, hn33, by rw [Znu, Qdn, hWA] at he33; exact he33, rfl⟩ ss
theorem Ztm (l : List Ti) (ad : Option Addr) (c : Nat) (hok : ∀ t ∈ l, OkT t) (hn : l.length ≤ 1000) : Ctr Tryz.prog 9 [.slice ad l.length c] [Row ad (cellsOf Jq l)] (Zzm (l.map tzI)) := by
 refine fn_intro func9 rfl ntmps9 nb ?_
 intro S w0 a hS h
 refine gC h (zS (za rfl (za rfl (zn (zS (za rfl (zn (zs (zS (za rfl (zn (zb ?_)))))))))))); clear h; intro a w h
 replace h := h.derive (R := AllF (([] : List TF).map TF.f)) (fun X hX => AllF.nil X _)
 refine Zf (fun (k : Nat) a w => k ≤ l.length ∧ ∃ (W : List TF) (ad1 : Option Addr) (c1 : Nat) (o1 : List (Nat × Obj)), (W.map t3 = (l.take k).map tzI ∧ GrowO 5 105 (.slice ad1 W.length c1) W.length (cellsOf Zav W) o1) ∧ St 36 S w0 [(0, .slice ad l.length c), (2, .slice none 0 0), (3, .int .i64 0), (4, (.slice ad1 W.length c1)), (5, nI k)] (o1 ++ []) [AllF (W.map TF.f), Row ad (cellsOf Jq l)] a w) (fun k => l.length - k) 0 (⟨Nat.zero_le _, [], none, 0, [], ⟨rfl, GrowO.nil _ _⟩, by exact (h.factsSub (by simp)).sub (Zen ⟨rfl, rfl, rfl, rfl, rfl, trivial⟩)⟩) ?_; clear h
 rintro k a w ⟨hi_k, W, ad1, c1, o1, ⟨hW, hG1⟩, h⟩
 refine gC h (zs (zS (zm rfl (zm rfl (zp (.builtin [_] rfl (Qz _ _ _)) (zp (.lss rfl rfl) (zn ?_))))))); clear h; intro a w h
 refine cW ?_
 refine Zb h rfl (fun hc9 => ?_) (fun hc9 => ?_)
 ·
  skip
  have hlt_k : k < l.length := dT hc9
  obtain ⟨B_ad, O_ad, rfl⟩ := h.row_addr (ad := ad) (M := cellsOf Jq l) mm (nE 4)
  obtain ⟨_, _, hqa, hqb, hqc, hqd⟩ := hok _ (getD_mem l (d := Ti0) hlt_k)
  have hlk : W.length = k := by have h5 := congrArg List.length hW; rwa [List.length_map, List.length_map, List.length_take, Nat.min_eq_left oo] at h5
  refine gC h (zk (zs (zb (yD Za [0, 1, 2, 3, 4, 5, 6, 7, 8, 9, 10, 11, 12, 13, 14, 15, 16, 17, 18, 19, 20] (Zd kk) (ym rfl rfl (ym rfl rfl (ym rfl rfl (yp rfl (.indexAddr rfl rfl (Zfe _ _ _ _ _ oo)) (yp rfl (Pure1.cast (v' := .pointer (some ⟨B_ad, O_ad + (k * 4 + 0), none⟩)) (.fA rfl Zjc) (by rw [Nat.add_assoc])) ?_))))))))); clear h
  refine Zm rfl kk rfl mm (Za3 (k := 4) (enc := Jq) (fun _ => rfl) l k 0 oo dd) isAgg3 sizeOf3 (Xw (k := 4) (enc := Jq) (fun _ => rfl) l Ti0 k oo false 1 0 _ dd dd rfl) (.inr rfl) dd ?_
  refine ym rfl rfl (ym rfl rfl (yp rfl (.indexAddr rfl rfl (Zfe _ _ _ _ _ oo)) (yp rfl (Pure1.cast (v' := .pointer (some ⟨B_ad, O_ad + (k * 4 + 1), none⟩)) (.fA rfl Zjb) (by rw [Nat.add_assoc])) ?_)))
  refine Zm rfl kk rfl mm (Za3 (k := 4) (enc := Jq) (fun _ => rfl) l k 1 oo dd) isAgg3 sizeOf3 (Xw (k := 4) (enc := Jq) (fun _ => rfl) l Ti0 k oo false 1 1 _ dd dd rfl) (.inr rfl) dd ?_
  refine ym rfl rfl (ym rfl rfl (yp rfl (.indexAddr rfl rfl (Zfe _ _ _ _ _ oo)) (yp rfl (Pure1.cast (v' := .pointer (some ⟨B_ad, O_ad + (k * 4 + 2), none⟩)) (.fA rfl Zja) (by rw [Nat.add_assoc])) ?_)))
  refine Zm rfl kk rfl mm (Za3 (k := 4) (enc := Jq) (fun _ => rfl) l k 2 oo dd) isAgg25 sizeOf25 (Xw (k := 4) (enc := Jq) (fun _ => rfl) l Ti0 k oo true 2 2 _ dd dd rfl) (.inl rfl) dd ?_
  refine yf [_] rfl rfl call53 (Zeh ((l.getD k Ti0).n) ((l.getD k Ti0).d) oo oo oo oo) ?_; rintro v28 Ψ28 ⟨ad28, c28, bd28, d28, rfl, hle28, hlf28, rfl⟩
  have hl28 := Ju ((l.getD k Ti0).n) ((l.getD k Ti0).d) oo oo oo oo
  refine yp rfl (.build [(_, _), (_, _), (_, _)] rfl (Zhl _ _ _ _ _)) (yB rfl [(_, _)] rfl (Zkt _ _ _ _ _) fun b30 => ?_)
  refine Gg (σr := []) rfl kk rfl rfl (List.Perm.trans (List.Perm.refl _) (List.Perm.cons _ (List.Perm.refl _))) hG1 runUnderlying102 runUnderlying102 typeInfo105 sizeOf105 zeroValue105 rfl dd dd rfl rfl dd (by show 72 * (2 * ((W).length + 1) + 192) ≤ 281474976710656; omega) dd ?_
  intro v31 o31 hG31
  obtain ⟨ad31, c31, rfl⟩ := hG31.is
  have hLn31 : (W).length + 1 = (W ++ [TF.mk ((l.getD k Ti0).i) ((l.getD k Ti0).j) (FT.mk (qv ((l.getD k Ti0).n) ((l.getD k Ti0).d)) ad28 c28 bd28 d28 hle28 hlf28)]).length := lA
  rw [hLn31]; rw [hLn31] at hG31
  replace hG31 : GrowO 5 105 (.slice ad31 (W ++ [TF.mk ((l.getD k Ti0).i) ((l.getD k Ti0).j) (FT.mk (qv ((l.getD k Ti0).n) ((l.getD k Ti0).d)) ad28 c28 bd28 d28 hle28 hlf28)]).length c31) (W ++ [TF.mk ((l.getD k Ti0).i) ((l.getD k Ti0).j) (FT.mk (qv ((l.getD k Ti0).n) ((l.getD k Ti0).d)) ad28 c28 bd28 d28 hle28 hlf28)]).length (cellsOf Zav (W ++ [TF.mk ((l.getD k Ti0).i) ((l.getD k Ti0).j) (FT.mk (qv ((l.getD k Ti0).n) ((l.getD k Ti0).d)) ad28 c28 bd28 d28 hle28 hlf28)])) o31 := by rw [Qd, Xc]; exact hG31
  refine yp rfl (.assign rfl) (yn (zr (zm rfl (zp (.pN (k + 1) (.add rfl rfl)) (za rfl (zn ?_)))))); intro a w h
  replace h := h.derive (R := AllF ((W ++ [TF.mk ((l.getD k Ti0).i) ((l.getD k Ti0).j) (FT.mk (qv ((l.getD k Ti0).n) ((l.getD k Ti0).d)) ad28 c28 bd28 d28 hle28 hlf28)]).map TF.f)) (fun X hX => by rw [List.map_append]; exact AllF.snoc (hX _ mm) (hX _ mm) (hX _ mm))
  have hW2 : (W ++ [TF.mk ((l.getD k Ti0).i) ((l.getD k Ti0).j) (FT.mk (qv ((l.getD k Ti0).n) ((l.getD k Ti0).d)) ad28 c28 bd28 d28 hle28 hlf28)]).map t3 = (l.take (k + 1)).map tzI := by rw [List.map_append, hW, Zba l hlt_k, List.map_append]; rfl
  exact ⟨k + 1, ⟨oo, W ++ [TF.mk ((l.getD k Ti0).i) ((l.getD k Ti0).j) (FT.mk (qv ((l.getD k Ti0).n) ((l.getD k Ti0).d)) ad28 c28 bd28 d28 hle28 hlf28)], ad31, c31, o31, ⟨hW2, hG31⟩, by exact (h.factsSub (by simp)).sub sA⟩, oo⟩
 ·
  skip
  have heq_k : l.length = k := dF hc9
  subst heq_k
  rw [List.take_length] at hW
  have hWA := hW
  have hlk : W.length = l.length := by have h5 := congrArg List.length hW; rwa [List.length_map, List.length_map] at h5
  replace h := St.shareO' h hS hG1
  refine gC h (ze (zS (zm rfl (zf [_] rfl call54 (C_tOf W ad1 c1 4 oo (ref_K hWA hok) dd (Qdu hWA (fun t ht => okI_ij (hok t ht)))) ?_)))); rintro v33 Ψ33 ⟨b33, l33, rfl, hn33, he33, rfl⟩
  refine zp (.eX rfl) (zp (.eX rfl) (za rfl (za rfl (zn (zt ?_))))); intro a w h
  exact Qg (Ψ := [Row (some ⟨b33, 0, none⟩) (cellsOf Jr l33), AllF l33]) h (Qv h rfl (.tmp rfl) (.tmp rfl)) ⟨b33, l33, by rw [Znu, hWA]; rfl, hn33, by rw [Znu, Qdn, hWA] at he33; exact he33, rfl⟩ ss
end
end Go.Proofs.YtddhlkfpdjmplaaGreatDoor
