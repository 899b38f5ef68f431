/- Walks of functions. By an AI agent. -/
import Derived.Test.YtddhlkfpdjmplaaGreatDoorTextg
set_option linter.unusedVariables false
set_option linter.unusedSimpArgs false
set_option maxRecDepth 4000
namespace Go.Proofs.YtddhlkfpdjmplaaGreatDoor
open Go Go.Proofs Go.Fx Tryz
attribute [local irreducible] Oper.wp Code.wp wpList Fx.Head wpOp
section
theorem Qer (x : Int) (w : World) : (Go.convert 23 3 (.int .u32 x)).run Tryz.prog w = .ok (.int .i64 (IntKind.i64.wrap x)) w := by
 simp [go_sem]
theorem Qbd (x : Int) (h0 : IntKind.i64.wrap x = x) (w : World) : (Go.convert 23 3 (.int .u32 x)).run Tryz.prog w = .ok (.int .i64 x) w := by
 rw [Qer, h0]
theorem Zw4 : ∀ l : List ByteArray, Zpu l ⟨#[]⟩ = ⟨(Qce l).toArray⟩ := fun l => by
 have key : ∀ xs : List (List UInt8), Lib.join xs [] = xs.flatten := fun xs => by
  unfold Lib.join
  induction xs with
  | nil => rfl
  | cons x xs ih =>
   rcases xs with _ | ⟨y, ys⟩
   · simp [List.intercalate]
   · rw [List.flatten_cons, ← ih]; simp [List.intercalate]
 unfold Zpu
 rw [show (ByteArray.mk #[]).data.toList = [] from rfl, key]
 unfold Qce
 rw [List.flatMap_def]
theorem Zqc {m : Nat} (h : m / 1000000000 = 0) : Zda m = dB (m % 1000000000) := by
 unfold Zda; rw [if_pos h, Nat.mod_eq_of_lt oo]
theorem Zut {m : Nat} (h : m / 1000000000 ≠ 0) : zerB (9 - (dB (m % 1000000000)).size) ++ dB (m % 1000000000) = Zda m := by
 unfold Zda
 rw [if_neg h]
 apply ByteArray.ext
 rw [ByteArray.data_append]
 apply Array.ext'
 have h1 := Qdz (r := m % 1000000000) (k := 8) (Nat.mod_lt _ dd)
 have h2 : Zft (m % 10 ^ 9) 9 = Zft m 9 := Zrt 9 m
 rw [show (10 : Nat) ^ 9 = 1000000000 from rfl] at h2
 rw [h2] at h1
 rw [Zjd]
 show ((List.replicate _ (48 : UInt8)).toArray ++ (Lib.decDigits _).toArray).toList = (Zft m 9).toArray.toList
 simp only [List.toList_toArray, Array.toList_append]
 exact h1
theorem Zeo (n i : Nat) : n / 10 ^ (9 * i) / 1000000000 = n / 10 ^ (9 * (i + 1)) := by
 rw [Nat.div_div_eq_div_mul, show 9 * (i + 1) = 9 * i + 9 by omega, Nat.pow_add]
theorem Zqo {n : Nat} (h : (wds n).length = 0) : n = 0 := by
 have := Zie n
 rw [h] at this; simpa using this
theorem Qbx {m n : Nat} (h : m ≤ n) : (wds m).length ≤ (wds n).length := by
 rcases Nat.lt_or_ge (wds n).length (wds m).length with h1 | h1
 · exact absurd (Zcd h1) oo
 · exact h1
theorem Qdq {b : Nat} {M R : List Value} {X : Nat → Prop} {w : World} (h : (Row (some ⟨b, 0, none⟩) (M ++ R)).p X w) : (Row (some ⟨b, 0, none⟩) M).p X w := by
 have h1 := Zed h M.length
 rwa [List.take_left] at h1
theorem Qfm (ad : Option Addr) (c m : Nat) (l : List ByteArray) (hm : m = l.length) (hc : m ≤ c) (hn : m ≤ 1000000) (hM : ∀ x ∈ l, x.size ≤ 9) :
  Zae Tryz.prog 84 [.slice ad m c, .string ⟨#[]⟩] [Row ad (List.map encs l)] (.string ⟨(Qce l).toArray⟩) := by
 subst hm
 rw [← Zw4]
 exact C_Join ad c l ⟨#[]⟩ hc hn 9 hM (by show l.length * (9 + 0) ≤ _; omega)
theorem Zv6 (n i : Nat) : ∀ x ∈ (prt n i).reverse, x.size ≤ 9 := fun x hx => Zrc n i x (List.mem_reverse.1 hx)
theorem Zmf (n : Nat) (hs : (wds n).length ≤ 300000) : Zae Tryz.prog 119 [Vg n] [TabF] (.string (dB n)) := by
 rcases Nat.lt_or_ge n 18446744073709551616 with hsm | hbig
 · exact Qbt n hsm
 replace hbig : ¬ n < 18446744073709551616 := oo
 refine fn_intro func119 rfl ntmps119 nb ?_
 intro S w0 a hS h
 refine gC h (zS (zx rfl fun b1 => za rfl (zn (zs (zS (zp (.fA rfl Vy) (zd rfl mr isAgg9 sizeOf9 Xn ?_)))))))
 refine zp (.binOp rfl rfl (fun _ => Vl _ _ _ _ _)) (zn ?_); intro a w h
 refine cW ?_
 refine Zc h rfl (fun hc10 => (by exfalso; exact hbig (Qt.1 (by simpa using hc10)))) (fun hc10 => ?_)
 refine gC h (zk (zS (za rfl (zn (zs (zS (zd rfl mr isAgg38 sizeOf38 Zn ?_)))))))
 refine zf [_] rfl call166 (Gv n oo) ?_; rintro v15 Ψ15 ⟨ad15, c15, rfl, hc15, rfl⟩ a w h
 have hw0 : wds n = wds (n / 10 ^ (9 * 0)) := by rw [Nat.mul_zero, Nat.pow_zero, Nat.div_one]
 rw [hw0] at h hc15
 refine gL h (za rfl (zn (zb ?_))); clear h; intro a w h
 refine Zg (fun (i : Nat) a w => ∃ (adl : Option Addr) (cl : Nat) (ad1 : Option Addr) (c1 : Nat) (o1 : List (Nat × Obj)), ((wds (n / 10 ^ (9 * i))).length ≤ cl ∧ (i = 0 ∨ n / 10 ^ (9 * (i - 1)) ≠ 0) ∧ GrowO 1 9 (.slice ad1 (prt n i).length c1) (prt n i).length (List.map encs (prt n i)) o1) ∧ St 46 S w0 [(2, .string (⟨#[]⟩)), (3, (.slice ad1 (prt n i).length c1)), (4, .slice adl ((wds (n / 10 ^ (9 * i))).length) cl), (15, .slice ad15 ((wds (n / 10 ^ (9 * 0))).length) c15)] (o1 ++ ((b1, bV (Vg (n)) 38) :: [])) [Row adl (Jw (wds (n / 10 ^ (9 * i)))), TabF] a w) (fun i => n / 10 ^ (9 * i)) (0) (⟨ad15, c15, none, 0, [], ⟨hc15, .inl rfl, GrowO.nil _ _⟩, by exact (h.factsSub (by simp)).sub (Zff ⟨rfl, rfl, rfl, rfl, trivial⟩)⟩) ?_; clear h
 rintro i a w ⟨adl, cl, ad1, c1, o1, ⟨hlc, hp, hG1⟩, h⟩
 refine gC h (zs (zS (zm rfl (zp (.builtin [_] rfl (Zj _ _ _)) (zp (.gtr rfl rfl) (zn ?_)))))); clear h; intro a w h
 refine cW ?_
 refine Zc h rfl (fun hc18 => ?_) (fun hc18 => ?_)
 ·
  skip
  have hm0 : (n / 10 ^ (9 * i)) ≠ 0 := fun e => by rw [e, Kw] at hc18; exact absurd hc18 dd
  have hif := Zv7 hm0
  have hwl : (wds (n / 10 ^ (9 * i))).length ≤ (wds n).length := Qbx (Nat.div_le_self _ _)
  have hpl := Zk4 n i
  refine gC h (zk (zb (zS (zm rfl ?_)))); clear h; intro a w h
  refine Zh (Js h (vs := [_, _]) rfl call167 (Zym adl cl (wds (n / 10 ^ (9 * i))) 1000000000 (Wd.wds _) oo dd dd) ss dd ?_); clear h; rintro v21 σ21 a w ⟨b21, Q21, rfl, hQw, hQl, hQv, rfl⟩ h
  rw [Qv] at h hQv
  rw [Zeo] at hQv
  replace h := h.shareAll hS (Jw Q21) rfl
  have hr9 := Nat.mod_lt (n / 10 ^ (9 * i)) (show 0 < 1000000000 by decide)
  have hr8 : (dB (n / 10 ^ (9 * i) % 1000000000)).size ≤ 9 := by rw [Zjd]; exact Zci (k := 8) hr9
  refine gL h (zm rfl (zp (.eX rfl) (zp (.eX rfl) (za rfl (za rfl (zn (zS (zm rfl (zf [_] rfl call168 (Qfe _ _ Q21 hQw (Nat.le_refl _) oo) ?_))))))))); clear h; rintro v25 Ψ25 ⟨rfl, rfl⟩ a w h
  rw [hQv] at h
  have hcl1 : (wds (n / 10 ^ (9 * (i + 1)))).length ≤ Q21.length := by rw [hQl]; exact Qbx (by rw [← Zeo]; exact Nat.div_le_self _ _)
  refine gL h (za rfl (zn (zS (zm rfl (zp (.convert rfl (Qbd _ (wrap_i64 _ oo oo))) (zw [_] rfl call149 (Qfn (n / 10 ^ (9 * i) % 1000000000) oo) (za rfl (zn (zs (zS (zm rfl (zp (.builtin [_] rfl (Zj _ _ _)) (zp (.gtr rfl rfl) (zn ?_)))))))))))))); clear h; intro a w h
  refine cW ?_
  refine Zc h rfl (fun hc31 => ?_) (fun hc31 => ?_)
  ·
   skip
   have hq1 : (n / 10 ^ (9 * (i + 1))) ≠ 0 := fun e => by rw [e, Kw] at hc31; exact absurd hc31 dd
   refine gC h (zr (zm rfl (zp (.builtin [_] rfl (Zds _)) (zp (.pO (9 - ((dB (n / 10 ^ (9 * i) % 1000000000)).size)) (.sub rfl rfl)) (zv [_, _] rfl call169 (Qbr (9 - (dB (n / 10 ^ (9 * i) % 1000000000)).size) oo) (zm rfl (zp (.binOp rfl rfl (fun _ => Kn _ _ _ _ _ (by rw [Zu1]; omega))) ?_))))))); clear h; intro a w h
   rw [Zut (by rw [Zeo]; exact hq1)] at h
   refine gL h (za rfl (zn (zr (zm rfl (zm rfl (zB [(_, _)] rfl (Zko _) fun b40 => ?_)))))); clear h; intro a w h
   refine Zh (Xr (σr := [(b1, bV (Vg (n)) 38)]) h rfl rfl (List.Perm.trans (List.Perm.refl _) (List.Perm.cons _ (List.Perm.refl _))) hG1 runUnderlying132 runUnderlying132 typeInfo9 sizeOf9 zeroValue9 rfl dd dd rfl rfl dd (by show 16 * (2 * ((prt n i).length + 1) + 192) ≤ 281474976710656; omega) dd ?_); clear h
   intro v41 o41 a w hG41 h
   obtain ⟨ad41, c41, rfl⟩ := hG41.is
   have hLn41 : (prt n i).length + 1 = ((prt n i) ++ [Zda (n / 10 ^ (9 * i))]).length := lA
   rw [hLn41] at h hG41
   replace hG41 : GrowO 1 9 (.slice ad41 ((prt n i) ++ [Zda (n / 10 ^ (9 * i))]).length c41) ((prt n i) ++ [Zda (n / 10 ^ (9 * i))]).length (List.map encs ((prt n i) ++ [Zda (n / 10 ^ (9 * i))])) o41 := by rw [List.map_append]; exact hG41
   refine gL h (za rfl (zn ?_)); clear h; intro a w h
   exact ⟨i + 1, ⟨_, _, ad41, c41, o41, ⟨hcl1, .inr hm0, hG41⟩, by exact (h.factsSub (by simp)).sub (Zff ⟨rfl, rfl, rfl, rfl, trivial⟩)⟩, by rw [← Zeo]; exact Nat.div_lt_self (Nat.pos_of_ne_zero hm0) dd⟩
  ·
   skip
   have hq1 : (n / 10 ^ (9 * i)) / 1000000000 = 0 := by rw [Zeo]; exact Zqo (dF hc31)
   rw [← Zqc hq1] at h
   refine gC h (zk (zr (zm rfl (zm rfl (zB [(_, _)] rfl (Zko _) fun b40 => ?_))))); clear h; intro a w h
   refine Zh (Xr (σr := [(b1, bV (Vg (n)) 38)]) h rfl rfl (List.Perm.trans (List.Perm.refl _) (List.Perm.cons _ (List.Perm.refl _))) hG1 runUnderlying132 runUnderlying132 typeInfo9 sizeOf9 zeroValue9 rfl dd dd rfl rfl dd (by show 16 * (2 * ((prt n i).length + 1) + 192) ≤ 281474976710656; omega) dd ?_); clear h
   intro v41 o41 a w hG41 h
   obtain ⟨ad41, c41, rfl⟩ := hG41.is
   have hLn41 : (prt n i).length + 1 = ((prt n i) ++ [Zda (n / 10 ^ (9 * i))]).length := lA
   rw [hLn41] at h hG41
   replace hG41 : GrowO 1 9 (.slice ad41 ((prt n i) ++ [Zda (n / 10 ^ (9 * i))]).length c41) ((prt n i) ++ [Zda (n / 10 ^ (9 * i))]).length (List.map encs ((prt n i) ++ [Zda (n / 10 ^ (9 * i))])) o41 := by rw [List.map_append]; exact hG41
   refine gL h (za rfl (zn ?_)); clear h; intro a w h
   exact ⟨i + 1, ⟨_, _, ad41, c41, o41, ⟨hcl1, .inr hm0, hG41⟩, by exact (h.factsSub (by simp)).sub (Zff ⟨rfl, rfl, rfl, rfl, trivial⟩)⟩, by rw [← Zeo]; exact Nat.div_lt_self (Nat.pos_of_ne_zero hm0) dd⟩
 ·
  skip
  have hz0 : (n / 10 ^ (9 * i)) = 0 := Zqo (dF hc18)
  have hi0 : i ≠ 0 := fun e => by subst e; rw [Nat.mul_zero, Nat.pow_zero, Nat.div_one] at hz0; omega
  obtain ⟨j, hij⟩ : ∃ j, i = j + 1 := ⟨i - 1, oo⟩
  have hj := hp.resolve_left hi0
  have hjf := Zv7 hj
  have hpl := Zk4 n i
  have hcat : Qce (prt n i).reverse = Lib.decDigits n := by
   rw [hij, Nat.add_sub_cancel] at hj
   rw [hij] at hz0 ⊢
   exact Qev hj hz0
  refine gC h (ze (zS (zm rfl ?_))); clear h; intro a w h
  obtain ⟨bp, Rp, rfl, rfl, hRp, hcp⟩ := hG1.open (by rw [Zk4]; omega)
  rw [List.cons_append, List.nil_append] at h
  refine Zh (Zat h hS (vs := [_]) rfl call170 (Zy0 bp c1 (prt n i) Rp oo [(b1, _)] [Row adl (Jw (wds (n / 10 ^ (9 * i)))), TabF]) (List.Perm.refl _) ss ss ?_); clear h; rintro v43 σ43 Ψ43 a w ⟨rfl, rfl, rfl⟩ h
  replace h := h.shareAll hS (List.map encs (prt n i).reverse ++ Rp) rfl
  replace h := h.derive (R := Row (some ⟨bp, 0, none⟩) (List.map encs (prt n i).reverse)) (fun X hX => Qdq (hX _ List.mem_cons_self))
  refine gL h (zn (zS (zm rfl (zw [_, _] rfl call84 (Qfm (some ⟨bp, 0, none⟩) c1 (prt n i).length (prt n i).reverse (by rw [List.length_reverse]) hG1.cap oo (Zv6 n i)) (za rfl (zn (zt ?_))))))); clear h; intro a w h
  refine Jp h (Zd h rfl (.tmp rfl)) ?_
  rw [hcat]; rfl
theorem Ztj (z : Int) : (Zza z).size ≤ 10 * Zbd z + 2 := by
 unfold Zza Zbd; have h1 := Zlw z.natAbs; have h2 := Zkx 45
 split
 · rw [ByteArray.size_append]; omega
 · omega
theorem Zte (z : Int) (hz : Zbd z ≤ 300000) : Zae Tryz.prog 118 [encZ z] [TabF] (.string (Zza z)) := by
 have hz2 : (wds z.natAbs).length ≤ 300000 := hz
 refine fn_intro func118 rfl ntmps118 nb ?_
 intro S w0 a hS h
 refine gC h (zS (zx rfl fun b1 => za rfl (zn (zs (zS (zp (.fA rfl Zbg) (zd rfl mr isAgg4 sizeOf4 Zbs ?_))))))); clear h; intro a w h
 refine wpList_nil ?_
 refine cW ?_
 refine Zc h rfl (fun hc4 => ?_) (fun hc4 => ?_)
 ·
  skip
  have hn : z < 0 := of_decide_eq_true hc4
  refine gC h (zS (zp (.fA rfl Ku) (zp (.fA rfl Gj) (zd rfl mr isAgg38 sizeOf38 Xc ?_))))
  refine zw [_] rfl call119 (Zmf z.natAbs hz2) (zp (.binOp rfl rfl (fun _ => Kn _ _ _ _ _ (by have := Zlw z.natAbs; have h1 := Zkx 45; omega))) (za rfl (zn (zt ?_)))); intro a w h
  refine Jp h (Zd h rfl (.tmp rfl)) ?_
  unfold Zza; rw [if_pos hn]
 ·
  skip
  have hn : ¬ z < 0 := of_decide_eq_false hc4
  refine gC h (zk (zS (zp (.fA rfl Ku) (zp (.fA rfl Gj) (zd rfl mr isAgg38 sizeOf38 Xc ?_)))))
  refine zw [_] rfl call119 (Zmf z.natAbs hz2) (za rfl (zn (zt ?_))); intro a w h
  refine Jp h (Zd h rfl (.tmp rfl)) ?_
  unfold Zza; rw [if_neg hn]
theorem Qbs (x : Rat) (hx : Qa x ≤ 300000) : Zae Tryz.prog 55 [Jf x] [TabF] (.string (txtQ x)) := by
 obtain ⟨hq1, hq2⟩ := Zdt hx
 have hs1 := Ztj x.num
 have hs2 := Zlw x.den
 refine fn_intro func55 rfl ntmps55 nb ?_
 intro S w0 a hS h
 refine gC h (zS (zx rfl fun b1 => za rfl (zn (zs (zS (zd rfl mr isAgg44 sizeOf44 Zf ?_))))))
 refine zv [_] rfl call117 (Zg1 x) (zn ?_); intro a w h
 refine cW ?_
 refine Zc h rfl (fun hc4 => ?_) (fun hc4 => ?_)
 ·
  skip
  have hw : x.den = 1 := of_decide_eq_true hc4
  refine gC h (zS (zp (.fA rfl Xz) (zd rfl mr isAgg42 sizeOf42 Xb ?_)))
  refine zw [_] rfl call118 (Zte x.num hq1) (za rfl (zn (zt ?_))); intro a w h
  refine Jp h (Zd h rfl (.tmp rfl)) ?_
  unfold txtQ; rw [if_pos hw]
 ·
  skip
  have hw : ¬ x.den = 1 := of_decide_eq_false hc4
  refine gC h (zk (zs (yD Za [0, 1, 4, 2, 3, 5, 6, 7, 8] (Zb kk) (yp rfl (.fA rfl Xz) (yd rfl rfl mr isAgg42 sizeOf42 Xb ?_))))); clear h
  refine yd rfl rfl mr isAgg44 sizeOf44 Zf ?_
  refine yw [_] rfl rfl call118 (Zte x.num hq1) (yp rfl (.binOp rfl rfl (fun _ => Kn _ _ _ _ _ (by have h1 := Zkx 47; omega))) (yv [_] rfl rfl call120 (Zge x oo) (yw [_] rfl rfl call119 (Zmf x.den hq2) (yp rfl (.binOp rfl rfl (fun _ => Kn _ _ _ _ _ (by have h1 := Zkx 47; rw [ByteArray.size_append]; omega))) (yp rfl (.assign rfl) (yn (zt ?_))))))); intro a w h
  refine Jp h (Zd h rfl (.tmp rfl)) ?_
  unfold txtQ; rw [if_neg hw]
end
section
def isD (b : UInt8) : Prop := 48 ≤ b.toNat ∧ b.toNat ≤ 57
def qB (x : Rat) : List UInt8 := Lib.decDigits x.num.natAbs ++ (if x.den = 1 then [] else 47 :: Lib.decDigits x.den)
def isN (b : UInt8) : Prop := 47 ≤ b.toNat ∧ b.toNat ≤ 57
def ltB (i j : Nat) : List UInt8 := (Zpu (letL ⟨#[120]⟩ i ++ letL ⟨#[121]⟩ j) ⟨#[42]⟩).data.toList
def tmB' (t : Tm) : List UInt8 := if ab t.c = ((1 : Int) : Rat) ∧ t.i + t.j ≠ 0 then ltB t.i t.j else qB (ab t.c) ++ (if t.i + t.j = 0 then [] else 42 :: ltB t.i t.j)
def sgB (t : Tm) : List UInt8 := if t.c.num.sign < 0 then [32, 45, 32] else [32, 43, 32]
def tlB : List Tm → List UInt8
 | [] => []
 | t :: p => sgB t ++ (tmB' t ++ tlB p)
def fuB : List Tm → List UInt8
 | [] => []
 | t :: p => (if t.c.num.sign < 0 then [45] else []) ++ (tmB' t ++ tlB p)
def OkD (t : Tm) : Prop := t.i < 4 ∧ t.j < 4 ∧ t.c ≠ 0
end
section
end
section
theorem Zhr (x0_0 : Value) (x0_1 : Value) (x0_2 : Value) (x0_3 : Value) (x0_4 : Value) (x0_5 : Value) (x0_6 : Value) (x0_7 : Value) (x0_8 : Value) (x0_9 : Value) (x1_0 : Value) (x1_1 : Value) (x1_2 : Value) (x1_3 : Value) (x1_4 : Value) (x1_5 : Value) (x1_6 : Value) (x1_7 : Value) (x1_8 : Value) (x1_9 : Value) (x2_0 : Value) (x2_1 : Value) (x2_2 : Value) (x2_3 : Value) (x2_4 : Value) (x2_5 : Value) (x2_6 : Value) (x2_7 : Value) (x2_8 : Value) (x2_9 : Value) (x3_0 : Value) (x3_1 : Value) (x3_2 : Value) (x3_3 : Value) (x3_4 : Value) (x3_5 : Value) (x3_6 : Value) (x3_7 : Value) (x3_8 : Value) (x3_9 : Value) (w : World) : (Instr.buildSlice 146 4 [(0, .agg #[x0_0, x0_1, x0_2, x0_3, x0_4, x0_5, x0_6, x0_7, x0_8, x0_9]), (1, .agg #[x1_0, x1_1, x1_2, x1_3, x1_4, x1_5, x1_6, x1_7, x1_8, x1_9]), (2, .agg #[x2_0, x2_1, x2_2, x2_3, x2_4, x2_5, x2_6, x2_7, x2_8, x2_9]), (3, .agg #[x3_0, x3_1, x3_2, x3_3, x3_4, x3_5, x3_6, x3_7, x3_8, x3_9])].toArray).run Tryz.prog w = .ok (.slice (some ⟨w.heap.size, 0, none⟩) 4 4) (w.alloc (.cells #[x0_0, x0_1, x0_2, x0_3, x0_4, x0_5, x0_6, x0_7, x0_8, x0_9, x1_0, x1_1, x1_2, x1_3, x1_4, x1_5, x1_6, x1_7, x1_8, x1_9, x2_0, x2_1, x2_2, x2_3, x2_4, x2_5, x2_6, x2_7, x2_8, x2_9, x3_0, x3_1, x3_2, x3_3, x3_4, x3_5, x3_6, x3_7, x3_8, x3_9] 49 (0, 0))) := by
 simp [go_sem]
def zpt (x y : Int) : Pt := (((x : Int) : Rat), ((y : Int) : Rat))
theorem Za4 (x y : Int) (h : -1000 ≤ x ∧ x ≤ 1000 ∧ -1000 ≤ y ∧ y ≤ 1000) : PtK 2 (zpt x y) := ⟨Qe x oo oo, Qe y oo oo⟩
theorem Qa6 (n : Nat) : 0 < (Zmi n).size := by unfold Zmi; split <;> simp [ByteArray.size]
theorem Zvi (z : Int) : 0 < (Zkv z).size := by
 unfold Zkv
 have := Qa6 z.natAbs
 split
 · rw [ByteArray.size_append]; omega
 · exact this
theorem Zvj (x : Rat) : 0 < (Zoy x).size := by
 unfold Zoy
 have := Zvi x.num
 split
 · exact this
 · rw [ByteArray.size_append, ByteArray.size_append]; omega
theorem Zzl (x : Rat) : Zoy x ≠ ⟨#[]⟩ := fun e => by have := Zvj x; rw [e] at this; exact absurd this dd
def pX : List Tm := [⟨1, 0, ((1 : Int) : Rat)⟩]
def pY : List Tm := [⟨0, 1, ((1 : Int) : Rat)⟩]
def p1 : List Tm := [⟨0, 0, ((1 : Int) : Rat)⟩]
theorem Zpi (i j : Nat) (h : i + j ≤ 1) : Pq 1 4 [(⟨i, j, ((1 : Int) : Rat)⟩ : Tm)] :=
 ⟨fun t ht => by rw [List.mem_singleton] at ht; subst ht; exact h, by simp, (Hb.of_KL (k := 2) (fun t ht => by rw [List.mem_singleton] at ht; subst ht; exact Zab)).mono ss⟩
theorem pX_Pq : Pq 1 4 pX := Zpi 1 0 dd
theorem pY_Pq : Pq 1 4 pY := Zpi 0 1 dd
theorem p1_Pq : Pq 1 4 (norm p1) := (Zpi 0 0 dd).nrm dd
theorem pXY_Pq : Pq 2 8 (norm (Xv pX pY)) := pX_Pq.mul pY_Pq dd
theorem Qb4 : Pq 2 8 (norm (Xv pX pX)) := pX_Pq.mul pX_Pq dd
theorem Ze4 (p : List Tm) (u v z : Pt) : Yo (norm p) u v z = Yo p u v z := Zhy (Eqv.nrm p) u v z
theorem Zwm (p : List Tm) (u v : Pt) : Yh (norm p) u v = Yh p u v := Zfk (Eqv.nrm p) u v
def Sm (n d : Int) : Prop := (-9223372036854775808 ≤ n ∧ n ≤ 9223372036854775807) ∧ (-9223372036854775808 ≤ d ∧ d ≤ 9223372036854775807) ∧ d ≠ 0 ∧ ((n : Rat) / (d : Rat)).num.natAbs < 100 ∧ ((n : Rat) / (d : Rat)).den < 100
instance (n d : Int) : Decidable (Sm n d) := by unfold Sm; infer_instance
theorem w1 : Yo (norm p1) (zpt 0 0) (zpt 1 0) (zpt 0 1) = ((1 : Int) : Rat) / ((2 : Int) : Rat) := by rw [Ze4]; decide +kernel
theorem w2 : Yo (norm (Xv pX pY)) (zpt 0 0) (zpt 1 0) (zpt 0 1) = ((1 : Int) : Rat) / ((24 : Int) : Rat) := by rw [Ze4]; decide +kernel
theorem w3 : Yo (norm (Xv pX pX)) (zpt 0 0) (zpt 1 0) (zpt 0 1) = ((1 : Int) : Rat) / ((12 : Int) : Rat) := by rw [Ze4]; decide +kernel
theorem w4 : Yo pX (zpt 0 0) (zpt 0 1) (zpt 1 0) = (((-1) : Int) : Rat) / ((6 : Int) : Rat) := by decide +kernel
theorem w5 : Ks pX [zpt 0 0, zpt 2 0, zpt 2 1, zpt 0 1] = ((2 : Int) : Rat) / ((1 : Int) : Rat) := by decide +kernel
theorem w6 : Yh (norm (Xv pX pX)) (zpt 0 0) (zpt 2 1) = ((4 : Int) : Rat) / ((3 : Int) : Rat) := by rw [Zwm]; decide +kernel
theorem w7 : Jq pX [] (zpt 1 0) (zpt 1 1) = ((1 : Int) : Rat) / ((1 : Int) : Rat) := by decide +kernel
theorem w5_K : ∀ x ∈ [zpt 0 0, zpt 2 0, zpt 2 1, zpt 0 1], PtK 2 x := fun x hx => by
 simp only [List.mem_cons, List.not_mem_nil, or_false] at hx
 rcases hx with rfl | rfl | rfl | rfl <;> exact Za4 _ _ dd
theorem C_pX : Ctr Tryz.prog 46 [] [] (fun v Ψ => ∃ ad' c', v = .slice ad' pX.length c' ∧ Ψ = [Row ad' (cellsOf Qn pX)]) := by
 refine fn_intro func46 rfl ntmps46 nb ?_
 intro S w0 a hS h
 refine gC h (zS (za rfl (zn (zS (zv [_] rfl call45 (Gl _ oo oo) ?_)))))
 have hl1 := Qe (1) oo oo
 refine zp (.build [(_, _), (_, _)] rfl (Zgz _ _ _ _ _ _)) (zB [(_, _)] rfl (Zf9 _ _ _ _ _ _ _) fun b3 => ?_); intro a w h
 replace h := h.shareAll hS (cellsOf Qn pX) rfl
 refine gL h (za rfl (zn (zt ?_))); clear h; intro a w h
 exact Qk h (Zd h rfl (.tmp rfl)) ⟨_, _, rfl, rfl⟩ ss
theorem C_pY : Ctr Tryz.prog 47 [] [] (fun v Ψ => ∃ ad' c', v = .slice ad' pY.length c' ∧ Ψ = [Row ad' (cellsOf Qn pY)]) := by
 refine fn_intro func47 rfl ntmps47 nb ?_
 intro S w0 a hS h
 refine gC h (zS (za rfl (zn (zS (zv [_] rfl call45 (Gl _ oo oo) ?_)))))
 have hl1 := Qe (1) oo oo
 refine zp (.build [(_, _), (_, _)] rfl (Zgy _ _ _ _ _ _)) (zB [(_, _)] rfl (Zf9 _ _ _ _ _ _ _) fun b3 => ?_); intro a w h
 replace h := h.shareAll hS (cellsOf Qn pY) rfl
 refine gL h (za rfl (zn (zt ?_))); clear h; intro a w h
 exact Qk h (Zd h rfl (.tmp rfl)) ⟨_, _, rfl, rfl⟩ ss
theorem Zjx (x y : Int) (h1 : -9223372036854775808 ≤ x) (h2 : x ≤ 9223372036854775807) (h3 : -9223372036854775808 ≤ y) (h4 : y ≤ 9223372036854775807) : Yi Tryz.prog 43 [.int .i64 x, .int .i64 y] (encPt (zpt x y)) := by
 refine fn_intro func43 rfl ntmps43 nb ?_
 intro S w0 a hS h
 refine gC h (zS (zz Jl fun b4 => zn (zS (zm rfl (zv [_] rfl call45 (Gl _ oo oo) ?_)))))
 have hl6 := Qe (x) oo oo
 refine zm rfl (zv [_] rfl call45 (Gl _ oo oo) ?_)
 have hl8 := Qe (y) oo oo
 refine zp (.build [(_, _), (_, _)] rfl (Zd6 _ _ _ _ _ _ _ _ _ _)) (zt' rfl rfl Qr uu sizeOf49 rfl nb rfl ?_); intro a w h
 refine wpList_nil (wp_ret ?_)
 refine Jp h (Zd h rfl (.cell rfl mr isAgg49 sizeOf49 Ze)) ?_
 rfl
theorem Zuz (x : Rat) (n d : Int) (hs : Sm n d) (hx : x = (n : Rat) / (d : Rat)) : Yi Tryz.prog 49 [Jf x, .int .i64 n, .int .i64 d] (.bool true) := by
 obtain ⟨⟨h1, h2⟩, ⟨h3, h4⟩, h5, h6, h7⟩ := hs
 rw [← hx] at h6 h7
 refine fn_intro func49 rfl ntmps49 nb ?_
 intro S w0 a hS h
 refine gC h (zS (zx rfl fun b3 => za rfl (zn (zS (zm rfl (zm rfl (zv [_, _] rfl call60 (Qfj n d h1 h2 h3 h4 h5) (zm rfl (zp (.eX rfl) (zp (.eX rfl) (zz Xi fun b7 => zt' rfl rfl Zq uu sizeOf44 rfl nb rfl ?_)))))))))))
 refine za rfl (zn (zS (zd rfl mr isAgg44 sizeOf44 Zf ?_)))
 refine zd rfl mr isAgg44 sizeOf44 Zf ?_
 refine zp (.binOp rfl rfl (fun _ => Za9 _ _ x (((n : Int) : Rat) / ((d : Int) : Rat)) _)) ?_; intro a w h
 refine Zl h (fun hc17 h => ?_) (fun hc17 h => (by exfalso; rw [hx] at hc17; simp at hc17))
 refine gL h (zm rfl ?_); clear h; intro a w h
 refine Zv 18 h rfl rfl (Yz h rfl mr isAgg44 sizeOf44 Zf dd ?_); clear h; intro a h
 refine Zv 18 h rfl rfl (Yk h (vs := [_]) rfl call55 (Qfi x h6 h7) dd ?_); clear h; intro a w h
 refine gL h (zq 18 rfl rfl (.binOp rfl rfl (fun _ => Zzz _ _ _ _ _)) ?_); clear h; intro a w h
 refine Zl h (fun hc21 h => ?_) (fun hc21 h => (absurd hc21 (by simp [Zzl])))
 refine gL h (zp (.pickT rfl rfl) (za rfl (zn (zt ?_)))); clear h; intro a w h
 exact Zao h
theorem C_one : Ctr Tryz.prog 44 [Jf ((1 : Int) : Rat)] [] (fun v Ψ => ∃ ad' c', v = .slice ad' (norm p1).length c' ∧ Ψ = [Row ad' (cellsOf Qn (norm p1))]) := Ztf ((1 : Int) : Rat) 2 Zab dd
theorem ix3i (a b c : Int) (m : Nat) (h : m < 3) (w : World) : (Instr.index 157 (.agg #[.int .i64 a, .int .i64 b, .int .i64 c]) (.int .i64 (m : Int))).run Tryz.prog w = .ok (.int .i64 ([a, b, c].getD m 0)) w := by
 match m, h with
 | 0, _ => unfold Instr.index; simp [go_sem]
 | 1, _ => unfold Instr.index; simp [go_sem]
 | 2, _ => unfold Instr.index; simp [go_sem]
theorem Zb5 (i j k : Int) (hout : ¬ ∀ m, m < 3 → 0 ≤ [i, j, k].getD m 0 ∧ [i, j, k].getD m 0 ≤ 48) : Yi Tryz.prog 50 [.int .i64 i, .int .i64 j, .int .i64 k] (Jf 0) := by
 refine fn_intro func50 rfl ntmps50 nb ?_
 intro S w0 a hS h
 refine gC h (zS (zz Xi fun b6 => zn (zs (zS (zm rfl (zm rfl (zm rfl (zp (.build [(_, _), (_, _), (_, _)] rfl (Zhi _ _ _)) (zm rfl (zn (zb ?_))))))))))); clear h; intro a w h
 refine Zg (fun (m : Nat) a w => m ≤ 3 ∧ (∀ q, q < m → 0 ≤ [i, j, k].getD q 0 ∧ [i, j, k].getD q 0 ≤ 48) ∧ St 37 S w0 [(0, .int .i64 i), (1, .int .i64 j), (2, .int .i64 k), (6, pB b6), (12, .agg #[.int .i64 i, .int .i64 j, .int .i64 k]), (13, nI m)] [(b6, bV (Jf (0)) 44)] [] a w) (fun m => 3 - m) 0 (⟨Nat.zero_le _, fun q hq => absurd hq (Nat.not_lt_zero _), by exact (h).sub sA⟩) ?_; clear h
 rintro m a w ⟨hi_m, hinv_m, h⟩
 refine gC h (zS (zp (.lss rfl rfl) (zn (zs ?_)))); clear h; intro a w h
 refine Zc h rfl (fun hc14 => ?_) (fun hc14 => ?_)
 ·
  skip
  have hlt_m : m < 3 := dT hc14
  refine gC h (zk (zs (zb (zS (zp (.index rfl rfl (fun w => ix3i i j k m oo w)) (za rfl (zn (zS (zm rfl (zp (.lss rfl rfl) ?_)))))))))); clear h; intro a w h
  refine Zl h (fun hc17 h => ?_) (fun hc17 h => ?_)
  ·
   skip
   refine gL h (zm rfl (zo 18 rfl rfl rfl (zo 18 rfl rfl rfl (zp (.pickT rfl rfl) (zn ?_))))); clear h; intro a w h
   refine cW ?_
   refine Zp h rfl ?_
   refine gC h (zS (zp (.build [] rfl (Zl0)) (zt' rfl rfl Zq uu sizeOf44 rfl nb rfl ?_))); clear h; intro a w h
   refine wpList_nil (wp_ret ?_)
   refine Jp h (Zd h rfl (.cell rfl mr isAgg44 sizeOf44 Zf)) ?_
   rfl
  ·
   skip
   refine gL h (zm rfl (zq 18 rfl rfl (.move rfl) (zq 18 rfl rfl (.gtr rfl rfl) ?_))); clear h; intro a w h
   refine Zl h (fun hc20 h => ?_) (fun hc20 h => ?_)
   ·
    skip
    refine gL h (zp (.pickF rfl rfl) (zn ?_)); clear h; intro a w h
    refine cW ?_
    refine Zp h rfl ?_
    refine gC h (zS (zp (.build [] rfl (Zl0)) (zt' rfl rfl Zq uu sizeOf44 rfl nb rfl ?_))); clear h; intro a w h
    refine wpList_nil (wp_ret ?_)
    refine Jp h (Zd h rfl (.cell rfl mr isAgg44 sizeOf44 Zf)) ?_
    rfl
   ·
    skip
    refine gL h (zp (.pickF rfl rfl) (zn ?_)); clear h; intro a w h
    refine cW ?_
    refine Zk h rfl ?_
    refine gC h (zk (zr (zp (.pN (m + 1) (.add rfl rfl)) (zm rfl (zn ?_))))); clear h; intro a w h
    exact ⟨m + 1, ⟨oo, fun q hq => by
     rcases Nat.lt_or_ge q m with h1 | h1
     · exact hinv_m q h1
     · rw [show q = m by omega]; have h2 := of_decide_eq_false hc17; have h3 := of_decide_eq_false hc20; omega, h.sub sA⟩, oo⟩
 ·
  skip
  have heq_m : 3 = m := dF hc14
  subst heq_m
  exact absurd hinv_m hout
theorem Ja : Yi Tryz.prog 7 [] (.bool true) := by
 refine fn_intro func7 rfl ntmps7 nb ?_
 intro S w0 a hS h
 replace h := h.derive (R := Row none (cellsOf Qn [])) (fun X _ hne => absurd rfl hne)
 refine gC h (zS (za rfl (zn (zS (zv [_, _] rfl call43 (Zjx 0 0 dd dd dd dd) (zv [_, _] rfl call43 (Zjx 1 0 dd dd dd dd) (zv [_, _] rfl call43 (Zjx 0 1 dd dd dd dd) (zz Jl fun b1 => zz Jl fun b2 => zz Jl fun b3 => zt' rfl rfl Qr uu sizeOf49 rfl nb rfl ?_))))))))
 refine zt' rfl rfl Qr uu sizeOf49 rfl nb rfl ?_; intro a w h
 refine gL h (zt' rfl rfl Qr uu sizeOf49 rfl nb rfl ?_)
 refine zn (zS (zv [_] rfl call45 (Gl _ oo oo) ?_))
 have hl14 := Qe (1) oo oo
 refine zf [_] rfl call44 (C_one) ?_; rintro v15 Ψ15 ⟨ad15, c15, rfl, rfl⟩
 refine zf [] rfl call46 (C_pX) ?_; rintro v16 Ψ16 ⟨ad16, c16, rfl, rfl⟩
 refine zf [] rfl call47 (C_pY) ?_; rintro v17 Ψ17 ⟨ad17, c17, rfl, rfl⟩
 refine za rfl (za rfl (za rfl (zn (zS (zm rfl (zm rfl (zf [_, _] rfl call48 (Zmc pX pY _ _ _ _ 1 1 4 4 pX_Pq pY_Pq dd dd dd) ?_))))))); rintro v21 Ψ21 ⟨ad21, c21, rfl, rfl⟩
 refine zm rfl (zp (.eX rfl) (zp (.eX rfl) (za rfl (za rfl (zn (zS (zm rfl (zm rfl (zf [_, _] rfl call48 (Zmc pX pX _ _ _ _ 1 1 4 4 pX_Pq pX_Pq dd dd dd) ?_))))))))); rintro v27 Ψ27 ⟨ad27, c27, rfl, rfl⟩
 refine zm rfl (zp (.eX rfl) (zp (.eX rfl) (za rfl (za rfl (zn (zs (zS (zv [_, _, _] rfl call50 (Zaf 0 0 0 dd dd dd) (zv [_, _, _] rfl call49 (Zuz _ 1 1 kD kD) ?_))))))))); intro a w h
 refine Zl h (fun hc31 h => ?_) (fun hc31 h => (by exfalso; cases hc31))
 refine gL h (zp (.unOp rfl (Yp _)) (zm rfl ?_)); clear h; intro a w h
 refine Zv 33 h rfl rfl (Yk h (vs := [_, _, _]) rfl call50 (Zaf 1 0 0 dd dd dd) dd ?_); clear h; intro a w h
 refine Zv 33 h rfl rfl (Yk h (vs := [_, _, _]) rfl call49 (Zuz _ 1 3 kD kD) dd ?_); clear h; intro a w h
 refine Zl h (fun hc35 h => ?_) (fun hc35 h => (by exfalso; cases hc35))
 refine gL h (zq 33 rfl rfl (.unOp rfl (Yp _)) (zp (.pickF rfl rfl) (zm rfl ?_))); clear h; intro a w h
 refine Zv 38 h rfl rfl (Yk h (vs := [_, _, _]) rfl call50 (Zaf 1 1 0 dd dd dd) dd ?_); clear h; intro a w h
 refine Zv 38 h rfl rfl (Yk h (vs := [_, _, _]) rfl call49 (Zuz _ 1 12 kD kD) dd ?_); clear h; intro a w h
 refine Zl h (fun hc40 h => ?_) (fun hc40 h => (by exfalso; cases hc40))
 refine gL h (zq 38 rfl rfl (.unOp rfl (Yp _)) (zp (.pickF rfl rfl) (zm rfl ?_))); clear h; intro a w h
 refine Zv 43 h rfl rfl (Yk h (vs := [_, _, _]) rfl call50 (Zaf 2 0 0 dd dd dd) dd ?_); clear h; intro a w h
 refine Zv 43 h rfl rfl (Yk h (vs := [_, _, _]) rfl call49 (Zuz _ 1 6 kD kD) dd ?_); clear h; intro a w h
 refine Zl h (fun hc45 h => ?_) (fun hc45 h => (by exfalso; cases hc45))
 refine gL h (zq 43 rfl rfl (.unOp rfl (Yp _)) (zp (.pickF rfl rfl) (zm rfl ?_))); clear h; intro a w h
 refine Zv 48 h rfl rfl (Yk h (vs := [_, _, _]) rfl call50 (Zb5 (-1) 0 0 (fun h => absurd (h 0 dd).1 dd)) dd ?_); clear h; intro a w h
 refine Zv 48 h rfl rfl (Yk h (vs := [_, _, _]) rfl call49 (Zuz _ 0 1 kD kD) dd ?_); clear h; intro a w h
 refine Zl h (fun hc50 h => ?_) (fun hc50 h => (by exfalso; cases hc50))
 refine gL h (zq 48 rfl rfl (.unOp rfl (Yp _)) (zp (.pickF rfl rfl) (zn ?_))); clear h; intro a w h
 refine cW ?_
 refine Zk h rfl ?_
 refine gC h (zk (zs (zS (zm rfl (zd rfl mr isAgg49 sizeOf49 Ze ?_)))))
 refine zd rfl mr isAgg49 sizeOf49 Ze ?_
 refine zd rfl mr isAgg49 sizeOf49 Ze ?_
 refine zw [_, _, _, _] rfl call51 (Zd7 (norm p1) _ _ 1 4 2 p1_Pq dd (zpt 0 0) (zpt 1 0) (zpt 0 1) (Za4 0 0 dd) (Za4 1 0 dd) (Za4 0 1 dd) dd dd) (zv [_, _, _] rfl call49 (Zuz _ 1 2 kD w1) ?_); intro a w h
 refine Zl h (fun hc58 h => ?_) (fun hc58 h => (by exfalso; cases hc58))
 refine gL h (zp (.unOp rfl (Yp _)) (zm rfl (zq 60 rfl rfl (.move rfl) ?_))); clear h; intro a w h
 refine Zv 60 h rfl rfl (Yz h rfl mr isAgg49 sizeOf49 Ze dd ?_); clear h; intro a h
 refine Zv 60 h rfl rfl (Yz h rfl mr isAgg49 sizeOf49 Ze dd ?_); clear h; intro a h
 refine Zv 60 h rfl rfl (Yz h rfl mr isAgg49 sizeOf49 Ze dd ?_); clear h; intro a h
 refine Zv 60 h rfl rfl (Zc3 h (vs := [_, _, _, _]) rfl call51 (Zd7 (norm (Xv pX pY)) _ _ 2 8 2 pXY_Pq dd (zpt 0 0) (zpt 1 0) (zpt 0 1) (Za4 0 0 dd) (Za4 1 0 dd) (Za4 0 1 dd) dd dd) ss dd ?_); clear h; intro a w h
 refine Zv 60 h rfl rfl (Yk h (vs := [_, _, _]) rfl call49 (Zuz _ 1 24 kD w2) dd ?_); clear h; intro a w h
 refine Zl h (fun hc66 h => ?_) (fun hc66 h => (by exfalso; cases hc66))
 refine gL h (zq 60 rfl rfl (.unOp rfl (Yp _)) (zp (.pickF rfl rfl) (zm rfl (zq 69 rfl rfl (.move rfl) ?_)))); clear h; intro a w h
 refine Zv 69 h rfl rfl (Yz h rfl mr isAgg49 sizeOf49 Ze dd ?_); clear h; intro a h
 refine Zv 69 h rfl rfl (Yz h rfl mr isAgg49 sizeOf49 Ze dd ?_); clear h; intro a h
 refine Zv 69 h rfl rfl (Yz h rfl mr isAgg49 sizeOf49 Ze dd ?_); clear h; intro a h
 refine Zv 69 h rfl rfl (Zc3 h (vs := [_, _, _, _]) rfl call51 (Zd7 (norm (Xv pX pX)) _ _ 2 8 2 Qb4 dd (zpt 0 0) (zpt 1 0) (zpt 0 1) (Za4 0 0 dd) (Za4 1 0 dd) (Za4 0 1 dd) dd dd) ss dd ?_); clear h; intro a w h
 refine Zv 69 h rfl rfl (Yk h (vs := [_, _, _]) rfl call49 (Zuz _ 1 12 kD w3) dd ?_); clear h; intro a w h
 refine Zl h (fun hc75 h => ?_) (fun hc75 h => (by exfalso; cases hc75))
 refine gL h (zq 69 rfl rfl (.unOp rfl (Yp _)) (zp (.pickF rfl rfl) (zm rfl (zq 78 rfl rfl (.move rfl) ?_)))); clear h; intro a w h
 refine Zv 78 h rfl rfl (Yz h rfl mr isAgg49 sizeOf49 Ze dd ?_); clear h; intro a h
 refine Zv 78 h rfl rfl (Yz h rfl mr isAgg49 sizeOf49 Ze dd ?_); clear h; intro a h
 refine Zv 78 h rfl rfl (Yz h rfl mr isAgg49 sizeOf49 Ze dd ?_); clear h; intro a h
 refine Zv 78 h rfl rfl (Zc3 h (vs := [_, _, _, _]) rfl call51 (Zd7 pX _ _ 1 4 2 pX_Pq dd (zpt 0 0) (zpt 0 1) (zpt 1 0) (Za4 0 0 dd) (Za4 0 1 dd) (Za4 1 0 dd) dd dd) ss dd ?_); clear h; intro a w h
 refine Zv 78 h rfl rfl (Yk h (vs := [_, _, _]) rfl call49 (Zuz _ (-1) 6 kD w4) dd ?_); clear h; intro a w h
 refine Zl h (fun hc84 h => ?_) (fun hc84 h => (by exfalso; cases hc84))
 refine gL h (zq 78 rfl rfl (.unOp rfl (Yp _)) (zp (.pickF rfl rfl) (zn ?_))); clear h; intro a w h
 refine cW ?_
 refine Zk h rfl ?_
 refine gC h (zk (zs (yD Za [0, 1, 4, 2, 3, 5, 6, 7, 8, 9, 10, 11, 12, 13, 14, 15, 16, 17, 18, 19, 20, 21, 22] (Zb kk) (ym rfl rfl (yd rfl rfl mr isAgg49 sizeOf49 Ze ?_))))); clear h
 refine yd rfl rfl mr isAgg49 sizeOf49 Ze ?_
 refine yv [_, _] rfl rfl call43 (Zjx 2 0 dd dd dd dd) (yv [_, _] rfl rfl call43 (Zjx 2 1 dd dd dd dd) ?_)
 refine Gi hS rfl kk [(_, _), (_, _), (_, _), (_, _)] rfl (Zhr _ _ _ _ _ _ _ _ _ _ _ _ _ _ _ _ _ _ _ _ _ _ _ _ _ _ _ _ _ _ _ _ _ _ _ _ _ _ _ _) (cellsOf encPt [zpt 0 0, zpt 2 0, zpt 2 1, zpt 0 1]) rfl dd ?_; intro b92
 refine yw [_, _] rfl rfl call52 (Zbm pX _ _ _ _ 1 4 2 [zpt 0 0, zpt 2 0, zpt 2 1, zpt 0 1] pX_Pq dd w5_K dd dd dd kD) (yv [_, _, _] rfl rfl call49 (Zuz _ 2 1 kD w5) ?_)
 refine Zs (fun hc94  => ?_) (fun hc94  => (by exfalso; cases hc94))
 refine ym rfl rfl (yq rfl rfl rfl (.move rfl) (yg rfl rfl rfl rfl mr isAgg49 sizeOf49 Ze ?_))
 refine Qd rfl rfl rfl kk (vs := [_, _]) rfl call43 (Zjx 2 1 dd dd dd dd) dd ?_
 refine Qf rfl rfl rfl kk (vs := [_, _, _]) rfl call11 (Zjy (norm (Xv pX pX)) _ _ 2 8 2 Qb4 dd (zpt 0 0) (zpt 2 1) (Za4 0 0 dd) (Za4 2 1 dd) dd dd dd) ss dd ?_
 refine Qd rfl rfl rfl kk (vs := [_, _, _]) rfl call49 (Zuz _ 4 3 kD w6) dd ?_
 refine Zs (fun hc100  => ?_) (fun hc100  => (by exfalso; cases hc100))
 refine yp rfl (.pickT rfl rfl) (ym rfl rfl (yq rfl rfl rfl (.move rfl) (yg rfl rfl rfl rfl mr isAgg49 sizeOf49 Ze ?_)))
 refine Qd rfl rfl rfl kk (vs := [_, _]) rfl call43 (Zjx 1 1 dd dd dd dd) dd ?_
 refine Qf rfl rfl rfl kk (vs := [_, _, _, _]) rfl call16 (Zd8 pX [] _ _ _ _ 1 1 4 1 2 pX_Pq (Pq.nil 1) dd dd (zpt 1 0) (zpt 1 1) (Za4 1 0 dd) (Za4 1 1 dd) dd dd dd dd) ss dd ?_
 refine Qd rfl rfl rfl kk (vs := [_, _, _]) rfl call49 (Zuz _ 1 1 kD w7) dd ?_
 refine Zs (fun hc107  => ?_) (fun hc107  => (by exfalso; cases hc107))
 refine yp rfl (.pickT rfl rfl) (yp rfl (.assign rfl) (yn (zt ?_))); intro a w h
 exact Zao h
end
section
theorem Zy {c0 c1 c2 c3 : Value} : Qo true 4 #[c0, c1, c2, c3] 0 = some (.agg #[c0, c1, c2, c3]) := rfl
theorem Zca (x0_0 : Value) (x0_1 : Value) (x0_2 : Value) (x0_3 : Value) (x0_4 : Value) (x1_0 : Value) (x1_1 : Value) (x1_2 : Value) (x1_3 : Value) (x1_4 : Value) (x2_0 : Value) (x2_1 : Value) (x2_2 : Value) (x2_3 : Value) (x2_4 : Value) (w : World) : (Instr.buildSlice 207 3 [(0, .agg #[x0_0, x0_1, x0_2, x0_3, x0_4]), (1, .agg #[x1_0, x1_1, x1_2, x1_3, x1_4]), (2, .agg #[x2_0, x2_1, x2_2, x2_3, x2_4])].toArray).run Tryz.prog w = .ok (.slice (some ⟨w.heap.size, 0, none⟩) 3 3) (w.alloc (.cells #[x0_0, x0_1, x0_2, x0_3, x0_4, x1_0, x1_1, x1_2, x1_3, x1_4, x2_0, x2_1, x2_2, x2_3, x2_4] 44 (0, 0))) := by
 simp [go_sem]
theorem Zqh (b : Nat) (s : Rat) (ad : Option Addr) (c K : Nat) (l : List Rat) (σ : List (Nat × Obj)) (Φ : List Qh) (hn : l.length ≤ 100) (hK : K ≤ 9000000) (hs : Qa s ≤ 1000000) (hx : ∀ x ∈ l, Qa x ≤ K) (hR : Row ad (cellsOf Jf l) ∈ Φ) :
  Zmj Tryz.prog 154 [.func (.func 155) #[.pointer (some ⟨b, 0, none⟩)] #[], .slice ad l.length c] ((b, .cells (Jf s).cells 209 (0, 0)) :: σ) Φ (fun v σ' Φ' => v = .tuple #[] ∧ σ' = (b, .cells (Jf (l.foldl (· + ·) s)).cells 209 (0, 0)) :: σ ∧ Φ' = Φ) := by
 refine fn_introM func154 rfl ntmps154 nb ?_
 intro S w0 a w hS h
 refine gC h (zS (zm rfl (zp (.builtin [_] rfl (Zfx _ _ _)) (zm rfl (zn (zb ?_)))))); clear h; intro a w h
 refine Zg (fun (i : Nat) a w => i ≤ l.length ∧ (Qa ((l.take i).foldl (· + ·) s) ≤ 1000000 + i * (K + 1)) ∧ St 16 S w0 [(0, .func (.func 155) #[.pointer (some ⟨b, 0, none⟩)] #[]), (6, .slice ad l.length c), (7, nI l.length), (8, nI i)] ((b, bV (Jf ((l.take i).foldl (· + ·) s)) 209) :: σ) (Φ) a w) (fun i => l.length - i) 0 (⟨Nat.zero_le _, by simpa using hs, by exact (h).sub sA⟩) ?_; clear h
 rintro i a w ⟨hi_i, hinv_i, h⟩
 refine gC h (zS (zp (.lss rfl rfl) (zn (zs ?_)))); clear h; intro a w h
 refine Zc h rfl (fun hc9 => ?_) (fun hc9 => ?_)
 ·
  skip
  have hlt_i : i < l.length := dT hc9
  obtain ⟨B_ad, O_ad, rfl⟩ := h.row_addr (ad := ad) (M := cellsOf Jf l) mm (nE 5)
  have hl := hx (l.getD i 0) (getD_mem _ hlt_i)
  have hsum := Zbf (f := (· + ·)) l s i 0 hlt_i
  have hla := Qs ((l.take i).foldl (· + ·) s) (l.getD i 0)
  have hik := Nat.mul_le_mul (show i ≤ 100 by omega) (show K + 1 ≤ 9000001 by omega)
  refine gC h (zk (zs (zb (zS (zp (.indexAddr rfl rfl (Qb7 _ _ _ _ _ oo)) (zD rfl mm (cells_lt (k := 5) dd (fun _ => rfl) l i oo) isAgg44 sizeOf44 (Qb (k := 5) (fun _ => rfl) ((fun _ => rfl)) l 0 i oo) (.inl rfl) ?_))))))
  refine zz Xi fun b5 => zt' rfl rfl Zq uu sizeOf44 rfl nb rfl ?_
  refine zn (zr (zm rfl (zd rfl mr isAgg44 sizeOf44 Zf ?_))); intro a w h
  refine Zh (Zm4 h hS (fs := [.pointer (some ⟨b, 0, none⟩)]) (cs := []) rfl (vs := [_]) rfl call155 (Qcn b ((l.take i).foldl (· + ·) s) (l.getD i 0) ((b5, _) :: σ) Φ oo oo) (List.Perm.swap _ _ _) ss ss ?_); clear h; rintro v14 σ14 Ψ14 a w ⟨rfl, rfl, rfl⟩ h
  refine gL h (zn (zr (zp (.pN (i + 1) (.add rfl rfl)) (zm rfl (zn ?_))))); clear h; intro a w h
  rw [← hsum] at h
  exact ⟨i + 1, ⟨oo, by rw [hsum, Nat.add_mul]; omega, (h.drop sl).sub sA⟩, oo⟩
 ·
  skip
  have heq_i : l.length = i := dF hc9
  subst heq_i
  refine wp_exit ?_
  refine Qa0 h (Zee rfl) ⟨rfl, by rw [List.take_length], rfl⟩ (List.Sublist.refl _) (fun _ h => h)
theorem Zy2 (ad : Option Addr) (c K : Nat) (l : List Rat) (hn : l.length ≤ 100) (hK : K ≤ 9000000) (hx : ∀ x ∈ l, Qa x ≤ K) :
  Zae Tryz.prog 92 [.slice ad l.length c] [Row ad (cellsOf Jf l)] (Jf (l.foldl (· + ·) 0)) := by
 refine fn_intro func92 rfl ntmps92 nb ?_
 intro S w0 a hS h
 refine gC h (zS (zz Xi fun b2 => zn (zS (zz zeroValue209 fun b3 => zn (zS (zp (.makeFunc [_] [] rfl rfl) (zm rfl ?_))))))); clear h; intro a w h
 refine Zh (Zat h hS (vs := [_, _]) rfl call154 (Zqh b3 0 ad c K l [(b2, _)] [Row ad (cellsOf Jf l)] hn hK (Nat.le_trans Vf dd) hx List.mem_cons_self) (List.Perm.refl _) ss ss ?_); clear h; rintro v6 σ6 Ψ6 a w ⟨rfl, rfl, rfl⟩ h
 refine gL h (zn (zS (zp (.fA rfl Zh7) (zd rfl mr isAgg44 sizeOf44 Zf ?_))))
 refine zt' rfl rfl Zq uu sizeOf44 rfl nb rfl ?_; intro a w h
 refine wpList_nil (wp_ret ?_)
 refine Jp h (Zd h rfl (.cell rfl mr isAgg44 sizeOf44 Zf)) ?_
 rfl
theorem Zxb (g h : List Tm) (u v z : Pt) : Yo (norm (norm (dxL g) ++ norm (dyL h))) u v z = [Jq g h u v, Jq g h v z, Jq g h z u].foldl (· + ·) 0 := by
 rw [Zqd, Ze4, Qau]; simp only [List.foldl_cons, List.foldl_nil]; grind
theorem Zox {x y z : Rat} {K : Nat} (h1 : Qa x ≤ K) (h2 : Qa y ≤ K) (h3 : Qa z ≤ K) : ∀ w ∈ [x, y, z], Qa w ≤ K := fun w hw => by
 simp only [List.mem_cons, List.not_mem_nil, or_false] at hw
 rcases hw with rfl | rfl | rfl <;> assumption
theorem Zhw (l m : List Ti) (ad ad2 : Option Addr) (c c2 : Nat) (hokl : ∀ t ∈ l, OkT t) (hokm : ∀ t ∈ m, OkT t) (hln : l.length ≤ 9223372036854775807) (hmn : m.length ≤ 9223372036854775807) (qa : (Int × Int) × (Int × Int)) (qb : (Int × Int) × (Int × Int)) (qc : (Int × Int) × (Int × Int)) (hqa : OkP qa) (hqb : OkP qb) (hqc : OkP qc) : Zae Tryz.prog 32 [.slice ad l.length c, .slice ad2 m.length c2, Zak qa, Zak qb, Zak qc] [Row ad (cellsOf Gm l), Row ad2 (cellsOf Gm m)] (.bool true) := by
 have hKa := Zeq hqa
 have hKb := Zeq hqb
 have hKc := Zeq hqc
 refine fn_intro func32 rfl ntmps32 nb ?_
 intro S w0 a hS h
 refine gC h (zS (zx rfl fun b7 => zx rfl fun b8 => zx rfl fun b9 => za rfl (zn (zs (zS (zm rfl (zp (.builtin [_] rfl (Jy _ _ _)) (zp (.gtr rfl rfl) ?_)))))))); clear h; intro a w h
 refine Zl h (fun hc19 h => ?_) (fun hc19 h => ?_)
 ·
  skip
  refine gL h (zm rfl (zo 20 rfl rfl rfl (zo 20 rfl rfl rfl (zo 20 rfl rfl rfl (zp (.pickT rfl rfl) (zn ?_)))))); clear h; intro a w h
  refine cW ?_
  refine Zp h rfl ?_
  refine gC h (zS (zv [] rfl call7 (Ja) (za rfl (zn (zt ?_))))); clear h; intro a w h
  exact Zao h
 ·
  skip
  refine gL h (zm rfl (zq 20 rfl rfl (.move rfl) (zq 20 rfl rfl (.builtin [_] rfl (Jy _ _ _)) (zq 20 rfl rfl (.gtr rfl rfl) ?_)))); clear h; intro a w h
  refine Zl h (fun hc23 h => ?_) (fun hc23 h => ?_)
  ·
   skip
   refine gL h (zp (.pickF rfl rfl) (zn ?_)); clear h; intro a w h
   refine cW ?_
   refine Zp h rfl ?_
   refine gC h (zS (zv [] rfl call7 (Ja) (za rfl (zn (zt ?_))))); clear h; intro a w h
   exact Zao h
  ·
   skip
   have hll : l.length ≤ 8 := dF hc19
   have hml : m.length ≤ 8 := dF hc23
   have hgx := Zc4 (d := 5) hokl hll dd dd
   have hgy := Zc4 (d := 5) hokm hml dd dd
   refine gL h (zp (.pickF rfl rfl) (zn ?_)); clear h; intro a w h
   refine cW ?_
   refine Zk h rfl ?_
   refine gC h (zk (zS (zm rfl (zf [_, _] rfl call96 (Zju l _ _ 5 8 (by assumption) oo oo) ?_)))); rintro v27 Ψ27 ⟨ad27, c27, rfl, rfl⟩
   refine zm rfl (zf [_, _] rfl call96 (Zju m _ _ 5 8 (by assumption) oo oo) ?_); rintro v29 Ψ29 ⟨ad29, c29, rfl, rfl⟩ a w h
   obtain ⟨G, hnG⟩ : ∃ G, norm (Xk 5 l) = G := ⟨_, rfl⟩
   rw [hnG] at h hgx
   obtain ⟨H, hnH⟩ : ∃ G, norm (Xk 5 m) = G := ⟨_, rfl⟩
   rw [hnH] at h hgy
   refine gL h (za rfl (za rfl (zn (zs (yD Za [0, 2, 4, 1, 3, 5, 6, 7, 8, 9, 10, 11] (Jd ⟨.inl rfl, .inl rfl, .inl rfl, .inl rfl, .inl rfl, .inl rfl, .inr ⟨13, 49, _, _, _, rfl, rfl, by decide, _, Jl⟩, .inr ⟨14, 49, _, _, _, rfl, rfl, by decide, _, Jl⟩, .inr ⟨15, 49, _, _, _, rfl, rfl, by decide, _, Jl⟩, .inl rfl, .inl rfl, .inl rfl, trivial⟩) (yd rfl rfl mr isAgg27 sizeOf27 Zy ?_)))))); clear h
   refine yd rfl rfl mr isAgg27 sizeOf27 Zy ?_
   refine yd rfl rfl mr isAgg27 sizeOf27 Zy ?_
   refine yv [_] rfl rfl call13 (Zbn qa (by assumption)) (yv [_] rfl rfl call13 (Zbn qb (by assumption)) (yv [_] rfl rfl call13 (Zbn qc (by assumption)) (yz rfl Jl fun b13 => yz rfl Jl fun b14 => yz rfl Jl fun b15 => yt rfl rfl rfl Qr uu sizeOf49 rfl nb rfl ?_)))
   refine yt rfl rfl rfl Qr uu sizeOf49 rfl nb rfl ?_
   refine yt rfl rfl rfl Qr uu sizeOf49 rfl nb rfl ?_
   refine yn (zs (yD Za [0, 2, 5, 6, 7, 1, 3, 4, 8, 9, 10] (Jd ⟨.inl rfl, .inl rfl, .inl rfl, .inl rfl, .inl rfl, .inl rfl, .inl rfl, .inl rfl, .inl rfl, .inr ⟨16, 44, _, _, _, rfl, rfl, by decide, _, Xi⟩, .inl rfl, trivial⟩) (ym rfl rfl (ym rfl rfl (yd rfl rfl mr isAgg49 sizeOf49 Ze ?_)))))
   refine yd rfl rfl mr isAgg49 sizeOf49 Ze ?_
   refine yd rfl rfl mr isAgg49 sizeOf49 Ze ?_
   refine yf [_] rfl rfl call76 (Qfp G _ _ 5 41 hgx dd dd) ?_; rintro v37 Ψ37 ⟨ad37, c37, rfl, rfl⟩
   refine yf [_] rfl rfl call97 (C_DyF H _ _ 5 41 hgy dd dd) ?_; rintro v39 Ψ39 ⟨ad39, c39, rfl, rfl⟩
   refine yf [_, _] rfl rfl call73 (Zmd (norm (dxL G)) (norm (dyL H)) _ _ _ _ 5 5 42 42 (hgx.dx dd) (hgy.dy dd) dd dd dd dd) ?_; rintro v40 Ψ40 ⟨ad40, c40, rfl, rfl⟩
   refine yw [_, _, _, _] rfl rfl call51 (Zd7 (norm (norm (dxL G) ++ norm (dyL H))) _ _ 5 86 4 ((hgx.dx dd).add (hgy.dy dd) dd dd) dd (ptv qa) (ptv qb) (ptv qc) hKa hKb hKc dd dd) (yz rfl Xi fun b16 => yt rfl rfl rfl Zq uu sizeOf44 rfl nb rfl ?_)
   refine yn (zs (yD Za [0, 1, 2, 3, 4, 6, 7, 8, 9, 11, 12, 13, 14, 5, 10, 15, 16, 17, 18, 19, 20, 21, 22] (Zb kk) (yd rfl rfl mr isAgg44 sizeOf44 Zf ?_)))
   refine ym rfl rfl (ym rfl rfl (yd rfl rfl mr isAgg49 sizeOf49 Ze ?_))
   refine yd rfl rfl mr isAgg49 sizeOf49 Ze ?_
   refine ym rfl rfl (ym rfl rfl (yd rfl rfl mr isAgg49 sizeOf49 Ze ?_))
   refine yd rfl rfl mr isAgg49 sizeOf49 Ze ?_
   refine ym rfl rfl (ym rfl rfl (yd rfl rfl mr isAgg49 sizeOf49 Ze ?_))
   refine yd rfl rfl mr isAgg49 sizeOf49 Ze ?_
   refine yw [_, _, _, _] rfl rfl call16 (Zd8 G H _ _ _ _ 5 5 41 41 4 hgx hgy dd dd (ptv qa) (ptv qb) hKa hKb dd dd dd dd) (yw [_, _, _, _] rfl rfl call16 (Zd8 G H _ _ _ _ 5 5 41 41 4 hgx hgy dd dd (ptv qb) (ptv qc) hKb hKc dd dd dd dd) (yw [_, _, _, _] rfl rfl call16 (Zd8 G H _ _ _ _ 5 5 41 41 4 hgx hgy dd dd (ptv qc) (ptv qa) hKc hKa dd dd dd dd) ?_))
   refine Gi hS rfl kk [(_, _), (_, _), (_, _)] rfl (Zca _ _ _ _ _ _ _ _ _ _ _ _ _ _ _) (cellsOf Jf [Jq G H (ptv qa) (ptv qb), Jq G H (ptv qb) (ptv qc), Jq G H (ptv qc) (ptv qa)]) rfl dd ?_; intro b61
   refine yw [_] rfl rfl call92 (Zy2 _ _ 1000000 [Jq G H (ptv qa) (ptv qb), Jq G H (ptv qb) (ptv qc), Jq G H (ptv qc) (ptv qa)] ss dd (Zox (Km hgx hgy dd dd hKa hKb dd kD) (Km hgx hgy dd dd hKb hKc dd kD) (Km hgx hgy dd dd hKc hKa dd kD))) (yp rfl (.binOp rfl rfl (fun _ => Za9 _ _ (Yo (norm (norm (dxL G) ++ norm (dyL H))) (ptv qa) (ptv qb) (ptv qc)) ([Jq G H (ptv qa) (ptv qb), Jq G H (ptv qb) (ptv qc), Jq G H (ptv qc) (ptv qa)].foldl (· + ·) 0) _)) ?_)
   refine Zs (fun hc63  => ?_) (fun hc63  => (absurd (Zxb G H (ptv qa) (ptv qb) (ptv qc)) (of_decide_eq_false hc63)))
   refine ym rfl rfl ?_
   refine Qd rfl rfl rfl kk (vs := []) rfl call7 (Ja) dd ?_
   refine yp rfl (.pickT rfl rfl) (yp rfl (.assign rfl) (yn (zt ?_))); intro a w h
   exact Zao h
end
section
theorem Zs0 {p : Prop} [Decidable p] (h : p) (hc : (!decide p) = true) : False := by rw [decide_eq_true h] at hc; cases hc
theorem Qbg {p : Prop} [Decidable p] (h : p) (hc : decide p = false) : False := absurd h (of_decide_eq_false hc)
theorem parts1 (p : List Tm) (u v w z : Pt) : Yo p u v w = [Yo p u v z, Yo p v w z, Yo p w u z].foldl (· + ·) 0 := by
 rw [Zvg p u v w z]; simp only [List.foldl_cons, List.foldl_nil]; grind
theorem parts2 (p q : List Tm) (u v w : Pt) : Yo (norm (p ++ q)) u v w = Yo p u v w + Yo q u v w := by rw [Ze4, Zqs]
theorem parts3 (u v w : Pt) : Yo (norm p1) u v w = twQ u v w / ((2 : Int) : Rat) := by rw [Ze4]; exact Qc4 u v w
theorem parts4 (u v w : Pt) : twQ v u w / ((2 : Int) : Rat) = -(twQ u v w / ((2 : Int) : Rat)) := by unfold twQ; grind
theorem parts5 (p : List Tm) (u v w : Pt) : Yo (norm (shL p (v.1 - u.1) (w.1 - u.1) u.1 (v.2 - u.2) (w.2 - u.2) u.2)) (zpt 0 0) (zpt 1 0) (zpt 0 1) * (((2 : Int) : Rat) * (twQ u v w / ((2 : Int) : Rat))) = Yo p u v w := by
 rw [Ze4, ← Zzj p u v w]
 have e : ((2 : Int) : Rat) * (twQ u v w / ((2 : Int) : Rat)) = twQ u v w := by
  have : ((2 : Int) : Rat) = 2 := rfl
  rw [this]; grind
 rw [e]; rfl
theorem cut_K {u v : Pt} {s : Rat} (hu : PtK 4 u) (hv : PtK 4 v) (hs : Qa s ≤ 4) : PtK 18 (u.1 + s * (v.1 - u.1), u.2 + s * (v.2 - u.2)) := by
 have h1 := Qx hv.1 hu.1
 have h2 := Qx hv.2 hu.2
 have h3 := Zu s (v.1 - u.1)
 have h4 := Zu s (v.2 - u.2)
 have h5 := Qs u.1 (s * (v.1 - u.1))
 have h6 := Qs u.2 (s * (v.2 - u.2))
 have := hu.1
 have := hu.2
 constructor <;> (simp only; omega)
theorem Zw0 {K : Nat} {a b c : Pt} (ha : PtK K a) (hb : PtK K b) (hc : PtK K c) : Qa (twQ a b c / ((2 : Int) : Rat)) ≤ 8 * K + 7 := by
 have := Zgn ha hb hc
 have := Ko (twQ a b c) ((2 : Int) : Rat)
 have := Qe 2 dd dd
 omega
theorem Zwx {d K Kx : Nat} {p : List Tm} (hq : Pq d K p) (hd : d ≤ 12) {x y : Rat} (hx : Qa x ≤ Kx) (hy : Qa y ≤ Kx) : Qa (evP p x y) ≤ 2 + 91 * (K + (4 + 12 * Kx) + 1) := by
 rw [← at_ev x y ((Jr hq.deg).mono hd)]
 have h1 := Zcl (φ := PWf x y) (Kf := 4 + 12 * Kx) (norm p).length (Nat.le_refl _) hq.nsz (fun t ht => Zr8 hx hy t.i t.j (by have := (Jr hq.deg) t ht; omega))
 rw [List.take_length] at h1
 have h2 := Nat.mul_le_mul_right (K + (4 + 12 * Kx) + 1) (hq.n91 hd)
 omega
theorem Zhu (l m : List Ti) (ad ad2 : Option Addr) (c c2 : Nat) (hokl : ∀ t ∈ l, OkT t) (hokm : ∀ t ∈ m, OkT t) (hln : l.length ≤ 9223372036854775807) (hmn : m.length ≤ 9223372036854775807) (qa : (Int × Int) × (Int × Int)) (qb : (Int × Int) × (Int × Int)) (qc : (Int × Int) × (Int × Int)) (qd : (Int × Int) × (Int × Int)) (hqa : OkP qa) (hqb : OkP qb) (hqc : OkP qc) (hqd : OkP qd) : Zae Tryz.prog 33 [.slice ad l.length c, .slice ad2 m.length c2, Zak qa, Zak qb, Zak qc, Zak qd] [Row ad (cellsOf Gm l), Row ad2 (cellsOf Gm m)] (.bool true) := by
 have hKa := Zeq hqa
 have hKb := Zeq hqb
 have hKc := Zeq hqc
 have hKd := Zeq hqd
 obtain ⟨ha1, ha2⟩ := hKa
 obtain ⟨hb1, hb2⟩ := hKb
 obtain ⟨hc1, hc2⟩ := hKc
 have hKa : PtK 4 (ptv qa) := ⟨ha1, ha2⟩
 have hKb : PtK 4 (ptv qb) := ⟨hb1, hb2⟩
 have hKc : PtK 4 (ptv qc) := ⟨hc1, hc2⟩
 refine fn_intro func33 rfl ntmps33 nb ?_
 intro S w0 a hS h
 refine gC h (zS (zx rfl fun b8 => zx rfl fun b9 => zx rfl fun b10 => zx rfl fun b11 => za rfl (zn (zs (zS (zm rfl (zp (.builtin [_] rfl (Jy _ _ _)) (zp (.gtr rfl rfl) ?_)))))))); clear h; intro a w h
 refine Zl h (fun hc28 h => ?_) (fun hc28 h => ?_)
 ·
  skip
  refine gL h (zm rfl (zo 29 rfl rfl rfl (zo 29 rfl rfl rfl (zo 29 rfl rfl rfl (zp (.pickT rfl rfl) (zn ?_)))))); clear h; intro a w h
  refine cW ?_
  refine Zp h rfl ?_
  refine gC h (zS (zv [] rfl call7 (Ja) (za rfl (zn (zt ?_))))); clear h; intro a w h
  exact Zao h
 ·
  skip
  refine gL h (zm rfl (zq 29 rfl rfl (.move rfl) (zq 29 rfl rfl (.builtin [_] rfl (Jy _ _ _)) (zq 29 rfl rfl (.gtr rfl rfl) ?_)))); clear h; intro a w h
  refine Zl h (fun hc32 h => ?_) (fun hc32 h => ?_)
  ·
   skip
   refine gL h (zp (.pickF rfl rfl) (zn ?_)); clear h; intro a w h
   refine cW ?_
   refine Zp h rfl ?_
   refine gC h (zS (zv [] rfl call7 (Ja) (za rfl (zn (zt ?_))))); clear h; intro a w h
   exact Zao h
  ·
   skip
   have hll : l.length ≤ 6 := dF hc28
   have hml : m.length ≤ 6 := dF hc32
   have hgx := Zc4 (d := 4) hokl hll dd dd
   have hgy := Zc4 (d := 4) hokm hml dd dd
   refine gL h (zp (.pickF rfl rfl) (zn ?_)); clear h; intro a w h
   refine cW ?_
   refine Zk h rfl ?_
   refine gC h (zk (zS (zm rfl (zf [_, _] rfl call96 (Zju l _ _ 4 8 (by assumption) oo oo) ?_)))); rintro v36 Ψ36 ⟨ad36, c36, rfl, rfl⟩
   refine zm rfl (zf [_, _] rfl call96 (Zju m _ _ 4 8 (by assumption) oo oo) ?_); rintro v38 Ψ38 ⟨ad38, c38, rfl, rfl⟩ a w h
   obtain ⟨G, hnG⟩ : ∃ G, norm (Xk 4 l) = G := ⟨_, rfl⟩
   rw [hnG] at h hgx
   obtain ⟨H, hnH⟩ : ∃ G, norm (Xk 4 m) = G := ⟨_, rfl⟩
   rw [hnH] at h hgy
   have hlA : Qa (Yo G (ptv qa) (ptv qb) (ptv qc)) ≤ 1000000 := (Nat.le_trans (Zau hgx dd hKa hKb hKc) kD)
   have hlB : Qa (Yo H (ptv qa) (ptv qb) (ptv qc)) ≤ 1000000 := (Nat.le_trans (Zau hgy dd hKa hKb hKc) kD)
   have hlC := Zw0 hKa hKb hKc
   refine gL h (za rfl (za rfl (zn (zs (yD Za [0, 2, 4, 6, 1, 3, 5, 7, 8, 9, 10, 11, 12, 13, 14, 15] (Jd ⟨.inl rfl, .inl rfl, .inl rfl, .inl rfl, .inl rfl, .inl rfl, .inl rfl, .inl rfl, .inr ⟨15, 49, _, _, _, rfl, rfl, by decide, _, Jl⟩, .inr ⟨16, 49, _, _, _, rfl, rfl, by decide, _, Jl⟩, .inr ⟨17, 49, _, _, _, rfl, rfl, by decide, _, Jl⟩, .inr ⟨18, 49, _, _, _, rfl, rfl, by decide, _, Jl⟩, .inl rfl, .inl rfl, .inl rfl, .inl rfl, trivial⟩) (yd rfl rfl mr isAgg27 sizeOf27 Zy ?_)))))); clear h
   refine yd rfl rfl mr isAgg27 sizeOf27 Zy ?_
   refine yd rfl rfl mr isAgg27 sizeOf27 Zy ?_
   refine yd rfl rfl mr isAgg27 sizeOf27 Zy ?_
   refine yv [_] rfl rfl call13 (Zbn qa (by assumption)) (yv [_] rfl rfl call13 (Zbn qb (by assumption)) (yv [_] rfl rfl call13 (Zbn qc (by assumption)) (yv [_] rfl rfl call13 (Zbn qd (by assumption)) (yz rfl Jl fun b15 => yz rfl Jl fun b16 => yz rfl Jl fun b17 => yz rfl Jl fun b18 => yt rfl rfl rfl Qr uu sizeOf49 rfl nb rfl ?_))))
   refine yt rfl rfl rfl Qr uu sizeOf49 rfl nb rfl ?_
   refine yt rfl rfl rfl Qr uu sizeOf49 rfl nb rfl ?_
   refine yt rfl rfl rfl Qr uu sizeOf49 rfl nb rfl ?_
   refine yn (zS (zm rfl (zd rfl mr isAgg49 sizeOf49 Ze ?_)))
   refine zd rfl mr isAgg49 sizeOf49 Ze ?_
   refine zd rfl mr isAgg49 sizeOf49 Ze ?_
   refine zw [_, _, _, _] rfl call51 (Zd7 G _ _ 4 31 4 hgx dd (ptv qa) (ptv qb) (ptv qc) hKa hKb hKc dd dd) (zz Xi fun b19 => zt' rfl rfl Zq uu sizeOf44 rfl nb rfl ?_)
   refine zn (zs (zs (yD Za [0, 1, 2, 3, 4, 6, 7, 8, 9, 11, 12, 13, 14, 5, 10, 15, 16, 17, 18, 19, 20, 21, 23, 24, 25, 27, 28, 29, 30, 31, 22, 26, 32, 33, 34, 35, 36, 37, 38, 39, 40, 42, 41, 43, 44, 45, 46, 47, 48, 49, 51, 50, 52, 53, 54] (Zb kk) (yd rfl rfl mr isAgg44 sizeOf44 Zf ?_))))
   refine ym rfl rfl (yd rfl rfl mr isAgg49 sizeOf49 Ze ?_)
   refine yd rfl rfl mr isAgg49 sizeOf49 Ze ?_
   refine yd rfl rfl mr isAgg49 sizeOf49 Ze ?_
   refine ym rfl rfl (yd rfl rfl mr isAgg49 sizeOf49 Ze ?_)
   refine yd rfl rfl mr isAgg49 sizeOf49 Ze ?_
   refine yd rfl rfl mr isAgg49 sizeOf49 Ze ?_
   refine ym rfl rfl (yd rfl rfl mr isAgg49 sizeOf49 Ze ?_)
   refine yd rfl rfl mr isAgg49 sizeOf49 Ze ?_
   refine yd rfl rfl mr isAgg49 sizeOf49 Ze ?_
   refine yw [_, _, _, _] rfl rfl call51 (Zd7 G _ _ 4 31 4 hgx dd (ptv qa) (ptv qb) (ptv qd) hKa hKb hKd dd dd) (yw [_, _, _, _] rfl rfl call51 (Zd7 G _ _ 4 31 4 hgx dd (ptv qb) (ptv qc) (ptv qd) hKb hKc hKd dd dd) (yw [_, _, _, _] rfl rfl call51 (Zd7 G _ _ 4 31 4 hgx dd (ptv qc) (ptv qa) (ptv qd) hKc hKa hKd dd dd) ?_))
   refine Gi hS rfl kk [(_, _), (_, _), (_, _)] rfl (Zca _ _ _ _ _ _ _ _ _ _ _ _ _ _ _) (cellsOf Jf [Yo G (ptv qa) (ptv qb) (ptv qd), Yo G (ptv qb) (ptv qc) (ptv qd), Yo G (ptv qc) (ptv qa) (ptv qd)]) rfl dd ?_; intro b68
   refine yw [_] rfl rfl call92 (Zy2 _ _ 1000000 [Yo G (ptv qa) (ptv qb) (ptv qd), Yo G (ptv qb) (ptv qc) (ptv qd), Yo G (ptv qc) (ptv qa) (ptv qd)] ss dd (Zox (Nat.le_trans (Zau hgx dd hKa hKb hKd) kD) (Nat.le_trans (Zau hgx dd hKb hKc hKd) kD) (Nat.le_trans (Zau hgx dd hKc hKa hKd) kD))) (yp rfl (.binOp rfl rfl (fun _ => Ga _ _ (Yo G (ptv qa) (ptv qb) (ptv qc)) ([Yo G (ptv qa) (ptv qb) (ptv qd), Yo G (ptv qb) (ptv qc) (ptv qd), Yo G (ptv qc) (ptv qa) (ptv qd)].foldl (· + ·) 0) _)) ?_)
   refine Zs (fun hc70  => (by exfalso; exact Zs0 (parts1 G (ptv qa) (ptv qb) (ptv qc) (ptv qd)) hc70)) (fun hc70  => ?_)
   refine ym rfl rfl (yq rfl rfl rfl (.move rfl) (yq rfl rfl rfl (.move rfl) (yg rfl rfl rfl rfl mr isAgg49 sizeOf49 Ze ?_)))
   refine yg rfl rfl rfl rfl mr isAgg49 sizeOf49 Ze ?_
   refine yg rfl rfl rfl rfl mr isAgg49 sizeOf49 Ze ?_
   refine yg rfl rfl rfl rfl mr isAgg44 sizeOf44 Zf ?_
   refine yq rfl rfl rfl (.move rfl) (yg rfl rfl rfl rfl mr isAgg49 sizeOf49 Ze ?_)
   refine yg rfl rfl rfl rfl mr isAgg49 sizeOf49 Ze ?_
   refine yg rfl rfl rfl rfl mr isAgg49 sizeOf49 Ze ?_
   refine Xx rfl rfl rfl kk (vs := [_, _]) rfl call73 (Zmd G H _ _ _ _ 4 4 31 31 hgx hgy dd dd dd dd) ss dd ?_; rintro v74 Ψ74 ⟨ad74, c74, rfl, rfl⟩
   refine Qf rfl rfl rfl kk (vs := [_, _, _, _]) rfl call51 (Zd7 (norm (G ++ H)) _ _ 4 64 4 (hgx.add hgy dd dd) dd (ptv qa) (ptv qb) (ptv qc) hKa hKb hKc dd dd) ss dd ?_
   refine Qf rfl rfl rfl kk (vs := [_, _, _, _]) rfl call51 (Zd7 H _ _ 4 31 4 hgy dd (ptv qa) (ptv qb) (ptv qc) hKa hKb hKc dd dd) ss dd ?_
   refine Qd rfl rfl rfl kk (vs := [_, _]) rfl call98 (Zbl _ _ oo oo) dd ?_
   have hl85 := Qs (Yo G (ptv qa) (ptv qb) (ptv qc)) (Yo H (ptv qa) (ptv qb) (ptv qc))
   refine yq rfl rfl rfl (.binOp rfl rfl (fun _ => Ga _ _ (Yo (norm (G ++ H)) (ptv qa) (ptv qb) (ptv qc)) ((Yo G (ptv qa) (ptv qb) (ptv qc)) + (Yo H (ptv qa) (ptv qb) (ptv qc))) _)) ?_
   refine Zs (fun hc86  => (by exfalso; exact Zs0 (parts2 G H (ptv qa) (ptv qb) (ptv qc)) hc86)) (fun hc86  => ?_)
   refine yp rfl (.pickF rfl rfl) (ym rfl rfl (yq rfl rfl rfl (.move rfl) (yg rfl rfl rfl rfl mr isAgg49 sizeOf49 Ze ?_)))
   refine yg rfl rfl rfl rfl mr isAgg49 sizeOf49 Ze ?_
   refine yg rfl rfl rfl rfl mr isAgg49 sizeOf49 Ze ?_
   refine yg rfl rfl rfl rfl mr isAgg44 sizeOf44 Zf ?_
   refine Qf rfl rfl rfl kk (vs := [_, _, _, _]) rfl call51 (Zd7 G _ _ 4 31 4 hgx dd (ptv qb) (ptv qc) (ptv qa) hKb hKc hKa dd dd) ss dd ?_
   refine yq rfl rfl rfl (.binOp rfl rfl (fun _ => Ga _ _ (Yo G (ptv qb) (ptv qc) (ptv qa)) (Yo G (ptv qa) (ptv qb) (ptv qc)) _)) ?_
   refine Zs (fun hc95  => (by exfalso; exact Zs0 (Qc5 G (ptv qa) (ptv qb) (ptv qc)) hc95)) (fun hc95  => ?_)
   refine yp rfl (.pickF rfl rfl) (ym rfl rfl (yq rfl rfl rfl (.move rfl) (yg rfl rfl rfl rfl mr isAgg49 sizeOf49 Ze ?_)))
   refine yg rfl rfl rfl rfl mr isAgg49 sizeOf49 Ze ?_
   refine yg rfl rfl rfl rfl mr isAgg49 sizeOf49 Ze ?_
   refine yg rfl rfl rfl rfl mr isAgg44 sizeOf44 Zf ?_
   refine Qf rfl rfl rfl kk (vs := [_, _, _, _]) rfl call51 (Zd7 G _ _ 4 31 4 hgx dd (ptv qa) (ptv qc) (ptv qb) hKa hKc hKb dd dd) ss dd ?_
   refine Qd rfl rfl rfl kk (vs := [_]) rfl call99 (Zol _) dd ?_
   have hl104 := Zby (Yo G (ptv qa) (ptv qb) (ptv qc))
   refine yq rfl rfl rfl (.binOp rfl rfl (fun _ => Ga _ _ (Yo G (ptv qa) (ptv qc) (ptv qb)) (-(Yo G (ptv qa) (ptv qb) (ptv qc))) _)) ?_
   refine Zs (fun hc105  => (by exfalso; exact Zs0 (Zzk G (ptv qa) (ptv qb) (ptv qc)) hc105)) (fun hc105  => ?_)
   refine yp rfl (.pickF rfl rfl) (yn ?_); intro a w h
   refine cW ?_
   refine Zk h rfl ?_
   refine gC h (zk (zS (zd rfl mr isAgg49 sizeOf49 Ze ?_)))
   refine zd rfl mr isAgg49 sizeOf49 Ze ?_
   refine zd rfl mr isAgg49 sizeOf49 Ze ?_
   refine zv [_, _, _] rfl call94 (Zy8 (ptv qa) (ptv qb) (ptv qc) 4 hKa hKb hKc dd) (zz Xi fun b20 => zt' rfl rfl Zq uu sizeOf44 rfl nb rfl ?_)
   refine zn (zs (zs (yD Za [2, 3, 4, 6, 0, 1, 5, 7, 8, 9, 10, 11, 13, 12, 14, 15, 16] (Zb kk) (yd rfl rfl mr isAgg49 sizeOf49 Ze ?_))))
   refine yd rfl rfl mr isAgg49 sizeOf49 Ze ?_
   refine yd rfl rfl mr isAgg49 sizeOf49 Ze ?_
   refine yd rfl rfl mr isAgg44 sizeOf44 Zf ?_
   refine yv [_] rfl rfl call45 (Gl _ oo oo) ?_
   have hl111 := Qe (1) oo oo
   refine yf [_] rfl rfl call44 (C_one) ?_; rintro v112 Ψ112 ⟨ad112, c112, rfl, rfl⟩
   refine yw [_, _, _, _] rfl rfl call51 (Zd7 (norm p1) _ _ 1 4 4 p1_Pq dd (ptv qa) (ptv qb) (ptv qc) hKa hKb hKc dd dd) (yp rfl (.binOp rfl rfl (fun _ => Ga _ _ (Yo (norm p1) (ptv qa) (ptv qb) (ptv qc)) (twQ (ptv qa) (ptv qb) (ptv qc) / ((2 : Int) : Rat)) _)) ?_)
   refine Zs (fun hc118  => (by exfalso; exact Zs0 (parts3 (ptv qa) (ptv qb) (ptv qc)) hc118)) (fun hc118  => ?_)
   refine ym rfl rfl (yg rfl rfl rfl rfl mr isAgg49 sizeOf49 Ze ?_)
   refine yg rfl rfl rfl rfl mr isAgg49 sizeOf49 Ze ?_
   refine yg rfl rfl rfl rfl mr isAgg49 sizeOf49 Ze ?_
   refine yg rfl rfl rfl rfl mr isAgg44 sizeOf44 Zf ?_
   refine Qd rfl rfl rfl kk (vs := [_, _, _]) rfl call94 (Zy8 (ptv qb) (ptv qa) (ptv qc) 4 hKb hKa hKc dd) dd ?_
   refine Qd rfl rfl rfl kk (vs := [_]) rfl call99 (Zol _) dd ?_
   have hl125 := Zby (twQ (ptv qa) (ptv qb) (ptv qc) / ((2 : Int) : Rat))
   refine yq rfl rfl rfl (.binOp rfl rfl (fun _ => Ga _ _ (twQ (ptv qb) (ptv qa) (ptv qc) / ((2 : Int) : Rat)) (-(twQ (ptv qa) (ptv qb) (ptv qc) / ((2 : Int) : Rat))) _)) ?_
   refine Zs (fun hc126  => (by exfalso; exact Zs0 (parts4 (ptv qa) (ptv qb) (ptv qc)) hc126)) (fun hc126  => ?_)
   refine yp rfl (.pickF rfl rfl) (yn ?_); intro a w h
   refine cW ?_
   refine Zk h rfl ?_
   refine gC h (zk (zs (yD Za [0, 1, 2, 3, 5, 6, 7, 8, 4, 9, 10, 11, 12, 13] (Jd ⟨.inl rfl, .inl rfl, .inl rfl, .inl rfl, .inl rfl, .inl rfl, .inl rfl, .inl rfl, .inl rfl, .inl rfl, .inr ⟨21, 44, _, _, _, rfl, rfl, by decide, _, Xi⟩, .inr ⟨22, 44, _, _, _, rfl, rfl, by decide, _, Xi⟩, .inl rfl, .inl rfl, trivial⟩) (yp rfl (.indexAddr rfl rfl (Xa _ _)) (yd rfl rfl mr isAgg44 sizeOf44 Jn ?_))))); clear h
   refine yp rfl (.indexAddr rfl rfl (Xa _ _)) (yd rfl rfl mr isAgg44 sizeOf44 Jn ?_)
   refine yp rfl (.indexAddr rfl rfl (Jz _ _)) (yd rfl rfl mr isAgg44 sizeOf44 Jm ?_)
   refine yp rfl (.indexAddr rfl rfl (Jz _ _)) (yd rfl rfl mr isAgg44 sizeOf44 Jm ?_)
   refine yv [_, _] rfl rfl call68 (Zb4 _ _ oo oo) ?_
   have hl132 := Qz ((ptv qb).1) ((ptv qa).1)
   refine yv [_, _] rfl rfl call68 (Zb4 _ _ oo oo) ?_
   have hl137 := Qz ((ptv qb).2) ((ptv qa).2)
   refine yz rfl Xi fun b21 => yz rfl Xi fun b22 => yt rfl rfl rfl Zq uu sizeOf44 rfl nb rfl ?_
   refine yt rfl rfl rfl Zq uu sizeOf44 rfl nb rfl ?_
   refine yn (zs (yD Za [0, 1, 2, 3, 5, 6, 7, 8, 4, 9, 10, 11, 12, 13] (Jd ⟨.inl rfl, .inl rfl, .inl rfl, .inl rfl, .inl rfl, .inl rfl, .inl rfl, .inl rfl, .inl rfl, .inl rfl, .inr ⟨23, 44, _, _, _, rfl, rfl, by decide, _, Xi⟩, .inr ⟨24, 44, _, _, _, rfl, rfl, by decide, _, Xi⟩, .inl rfl, .inl rfl, trivial⟩) (yp rfl (.indexAddr rfl rfl (Xa _ _)) (yd rfl rfl mr isAgg44 sizeOf44 Jn ?_))))
   refine yp rfl (.indexAddr rfl rfl (Xa _ _)) (yd rfl rfl mr isAgg44 sizeOf44 Jn ?_)
   refine yp rfl (.indexAddr rfl rfl (Jz _ _)) (yd rfl rfl mr isAgg44 sizeOf44 Jm ?_)
   refine yp rfl (.indexAddr rfl rfl (Jz _ _)) (yd rfl rfl mr isAgg44 sizeOf44 Jm ?_)
   refine yv [_, _] rfl rfl call68 (Zb4 _ _ oo oo) ?_
   have hl142 := Qz ((ptv qc).1) ((ptv qa).1)
   refine yv [_, _] rfl rfl call68 (Zb4 _ _ oo oo) ?_
   have hl147 := Qz ((ptv qc).2) ((ptv qa).2)
   refine yz rfl Xi fun b23 => yz rfl Xi fun b24 => yt rfl rfl rfl Zq uu sizeOf44 rfl nb rfl ?_
   refine yt rfl rfl rfl Zq uu sizeOf44 rfl nb rfl ?_
   refine yn (zS (zm rfl (zd rfl mr isAgg44 sizeOf44 Zf ?_)))
   refine zd rfl mr isAgg44 sizeOf44 Zf ?_
   refine zp (.indexAddr rfl rfl (Xa _ _)) (zd rfl mr isAgg44 sizeOf44 Jn ?_)
   refine zd rfl mr isAgg44 sizeOf44 Zf ?_
   refine zd rfl mr isAgg44 sizeOf44 Zf ?_
   refine zp (.indexAddr rfl rfl (Jz _ _)) (zd rfl mr isAgg44 sizeOf44 Jm ?_)
   refine zf [_, _, _, _, _, _, _] rfl call58 (Zqj G _ _ 4 31 hgx ((ptv qb).1 - (ptv qa).1) ((ptv qc).1 - (ptv qa).1) (ptv qa).1 ((ptv qb).2 - (ptv qa).2) ((ptv qc).2 - (ptv qa).2) (ptv qa).2 9 dd oo oo oo oo oo oo dd dd) ?_; rintro v157 Ψ157 ⟨ad157, c157, rfl, rfl⟩
   refine zv [_, _] rfl call43 (Zjx 0 0 dd dd dd dd) (zv [_, _] rfl call43 (Zjx 1 0 dd dd dd dd) (zv [_, _] rfl call43 (Zjx 0 1 dd dd dd dd) (zw [_, _, _, _] rfl call51 (Zd7 (norm (shL G ((ptv qb).1 - (ptv qa).1) ((ptv qc).1 - (ptv qa).1) (ptv qa).1 ((ptv qb).2 - (ptv qa).2) ((ptv qc).2 - (ptv qa).2) (ptv qa).2)) _ _ 4 (KS 4 31 9) 2 (Pq.triS hgx dd hKa hKb hKc) dd (zpt 0 0) (zpt 1 0) (zpt 0 1) (Za4 0 0 dd) (Za4 1 0 dd) (Za4 0 1 dd) dd kD) ?_)))
   have hlU : Qa (Yo (norm (shL G ((ptv qb).1 - (ptv qa).1) ((ptv qc).1 - (ptv qa).1) (ptv qa).1 ((ptv qb).2 - (ptv qa).2) ((ptv qc).2 - (ptv qa).2) (ptv qa).2)) (zpt 0 0) (zpt 1 0) (zpt 0 1)) ≤ 1000000 := Nat.le_trans (Zau (Pq.triS hgx dd hKa hKb hKc) dd (Za4 0 0 dd) (Za4 1 0 dd) (Za4 0 1 dd)) kD
   refine zz Xi fun b25 => zt' rfl rfl Zq uu sizeOf44 rfl nb rfl ?_
   refine zn (zs (yD Za [0, 2, 5, 1, 3, 4, 6, 7, 8, 9, 10] (Zb kk) (yd rfl rfl mr isAgg44 sizeOf44 Zf ?_)))
   refine yd rfl rfl mr isAgg44 sizeOf44 Zf ?_
   refine yd rfl rfl mr isAgg44 sizeOf44 Zf ?_
   refine yv [_] rfl rfl call45 (Gl _ oo oo) ?_
   have hl163 := Qe (2) oo oo
   refine yv [_, _] rfl rfl call69 (Vr _ _ oo oo) ?_
   have hl165 := Zu (((2 : Int) : Rat)) (twQ (ptv qa) (ptv qb) (ptv qc) / ((2 : Int) : Rat))
   refine yv [_, _] rfl rfl call69 (Vr _ _ oo oo) ?_
   have hl166 := Zu (Yo (norm (shL G ((ptv qb).1 - (ptv qa).1) ((ptv qc).1 - (ptv qa).1) (ptv qa).1 ((ptv qb).2 - (ptv qa).2) ((ptv qc).2 - (ptv qa).2) (ptv qa).2)) (zpt 0 0) (zpt 1 0) (zpt 0 1)) ((((2 : Int) : Rat)) * (twQ (ptv qa) (ptv qb) (ptv qc) / ((2 : Int) : Rat)))
   refine yp rfl (.binOp rfl rfl (fun _ => Za9 _ _ ((Yo (norm (shL G ((ptv qb).1 - (ptv qa).1) ((ptv qc).1 - (ptv qa).1) (ptv qa).1 ((ptv qb).2 - (ptv qa).2) ((ptv qc).2 - (ptv qa).2) (ptv qa).2)) (zpt 0 0) (zpt 1 0) (zpt 0 1)) * ((((2 : Int) : Rat)) * (twQ (ptv qa) (ptv qb) (ptv qc) / ((2 : Int) : Rat)))) (Yo G (ptv qa) (ptv qb) (ptv qc)) _)) ?_
   refine Zs (fun hc168  => ?_) (fun hc168  => (by exfalso; exact Qbg (parts5 G (ptv qa) (ptv qb) (ptv qc)) hc168))
   refine ym rfl rfl ?_
   refine Qd rfl rfl rfl kk (vs := []) rfl call7 (Ja) dd ?_
   refine yp rfl (.pickT rfl rfl) (yp rfl (.assign rfl) (yn (zt ?_))); intro a w h
   exact Zao h
end
section
theorem Zzh (p : List Tm) (u v : Pt) : Yh (norm (norm (Qw (v.1 - u.1) (norm (dxL p))) ++ norm (Qw (v.2 - u.2) (norm (dyL p))))) u v = evP p v.1 v.2 - evP p u.1 u.2 := by
 rw [Zil, Zil, Zqd, Zwm, Qdg]
theorem Zzi (p : List Tm) (u v : Pt) (s : Rat) : s * Yh p u (u.1 + s * (v.1 - u.1), u.2 + s * (v.2 - u.2)) + (((1 : Int) : Rat) - s) * Yh p (u.1 + s * (v.1 - u.1), u.2 + s * (v.2 - u.2)) v = Yh p u v :=
 Qdh p u v s _ rfl rfl
theorem Zu9 (p q : List Tm) (u v : Pt) (s : Rat) : Jq p q u v = Jq p q u (u.1 + s * (v.1 - u.1), u.2 + s * (v.2 - u.2)) + Jq p q (u.1 + s * (v.1 - u.1), u.2 + s * (v.2 - u.2)) v :=
 Zh6 p q u _ v (by unfold twQ; grind)
theorem Zjv (l m : List Ti) (ad ad2 : Option Addr) (c c2 : Nat) (hokl : ∀ t ∈ l, OkT t) (hokm : ∀ t ∈ m, OkT t) (hln : l.length ≤ 9223372036854775807) (hmn : m.length ≤ 9223372036854775807) (qa : (Int × Int) × (Int × Int)) (qb : (Int × Int) × (Int × Int)) (hqa : OkP qa) (hqb : OkP qb) (qt : Int × Int) (hqt : OkQ qt) : Zae Tryz.prog 34 [.slice ad l.length c, .slice ad2 m.length c2, Zak qa, Zak qb, encQ2 qt] [Row ad (cellsOf Gm l), Row ad2 (cellsOf Gm m)] (.bool true) := by
 have hKa := Zeq hqa
 have hKb := Zeq hqb
 obtain ⟨ha1, ha2⟩ := hKa
 obtain ⟨hb1, hb2⟩ := hKb
 have hKa : PtK 4 (ptv qa) := ⟨ha1, ha2⟩
 have hKb : PtK 4 (ptv qb) := ⟨hb1, hb2⟩
 have hKa8 : PtK 18 (ptv qa) := hKa.mono dd
 have hKb8 : PtK 18 (ptv qb) := hKb.mono dd
 have hls : Qa (qv qt.1 qt.2) ≤ 4 := Zek hqt
 have hKz := cut_K (s := qv qt.1 qt.2) hKa hKb hls
 obtain ⟨ht1, ht2, ht3, ht4⟩ := hqt
 refine fn_intro func34 rfl ntmps34 nb ?_
 intro S w0 a hS h
 refine gC h (zS (zx rfl fun b7 => zx rfl fun b8 => zx rfl fun b9 => za rfl (zn (zs (zS (zm rfl (zp (.builtin [_] rfl (Jy _ _ _)) (zp (.gtr rfl rfl) ?_)))))))); clear h; intro a w h
 refine Zl h (fun hc25 h => ?_) (fun hc25 h => ?_)
 ·
  skip
  refine gL h (zm rfl (zo 26 rfl rfl rfl (zo 26 rfl rfl rfl (zo 26 rfl rfl rfl (zp (.pickT rfl rfl) (zn ?_)))))); clear h; intro a w h
  refine cW ?_
  refine Zp h rfl ?_
  refine gC h (zS (zv [] rfl call7 (Ja) (za rfl (zn (zt ?_))))); clear h; intro a w h
  exact Zao h
 ·
  skip
  refine gL h (zm rfl (zq 26 rfl rfl (.move rfl) (zq 26 rfl rfl (.builtin [_] rfl (Jy _ _ _)) (zq 26 rfl rfl (.gtr rfl rfl) ?_)))); clear h; intro a w h
  refine Zl h (fun hc29 h => ?_) (fun hc29 h => ?_)
  ·
   skip
   refine gL h (zp (.pickF rfl rfl) (zn ?_)); clear h; intro a w h
   refine cW ?_
   refine Zp h rfl ?_
   refine gC h (zS (zv [] rfl call7 (Ja) (za rfl (zn (zt ?_))))); clear h; intro a w h
   exact Zao h
  ·
   skip
   have hll : l.length ≤ 8 := dF hc25
   have hml : m.length ≤ 8 := dF hc29
   have hgx := Zc4 (d := 6) hokl hll dd dd
   have hgy := Zc4 (d := 6) hokm hml dd dd
   refine gL h (zp (.pickF rfl rfl) (zn ?_)); clear h; intro a w h
   refine cW ?_
   refine Zk h rfl ?_
   refine gC h (zk (zS (zm rfl (zf [_, _] rfl call96 (Zju l _ _ 6 8 (by assumption) oo oo) ?_)))); rintro v33 Ψ33 ⟨ad33, c33, rfl, rfl⟩
   refine zm rfl (zf [_, _] rfl call96 (Zju m _ _ 6 8 (by assumption) oo oo) ?_); rintro v35 Ψ35 ⟨ad35, c35, rfl, rfl⟩ a w h
   obtain ⟨G, hnG⟩ : ∃ G, norm (Xk 6 l) = G := ⟨_, rfl⟩
   rw [hnG] at h hgx
   obtain ⟨H, hnH⟩ : ∃ G, norm (Xk 6 m) = G := ⟨_, rfl⟩
   rw [hnH] at h hgy
   have hs0 : Qa (Yh G (ptv qa) (((ptv qa).1 + qv qt.1 qt.2 * ((ptv qb).1 - (ptv qa).1), (ptv qa).2 + qv qt.1 qt.2 * ((ptv qb).2 - (ptv qa).2)))) ≤ 2000000 := Nat.le_trans (Zbx hgx dd hKa8 hKz dd) kD
   have hs1 : Qa (Yh G (((ptv qa).1 + qv qt.1 qt.2 * ((ptv qb).1 - (ptv qa).1), (ptv qa).2 + qv qt.1 qt.2 * ((ptv qb).2 - (ptv qa).2))) (ptv qb)) ≤ 2000000 := Nat.le_trans (Zbx hgx dd hKz hKb8 dd) kD
   have hf0 : Qa (Jq G H (ptv qa) (((ptv qa).1 + qv qt.1 qt.2 * ((ptv qb).1 - (ptv qa).1), (ptv qa).2 + qv qt.1 qt.2 * ((ptv qb).2 - (ptv qa).2)))) ≤ 2000000 := Km hgx hgy dd dd hKa8 hKz dd kD
   have hf1 : Qa (Jq G H (((ptv qa).1 + qv qt.1 qt.2 * ((ptv qb).1 - (ptv qa).1), (ptv qa).2 + qv qt.1 qt.2 * ((ptv qb).2 - (ptv qa).2))) (ptv qb)) ≤ 2000000 := Km hgx hgy dd dd hKz hKb8 dd kD
   have hf2 : Qa (Jq G H (ptv qa) (ptv qb)) ≤ 2000000 := Km hgx hgy dd dd hKa8 hKb8 dd kD
   have he1 : Qa (evP G (ptv qb).1 (ptv qb).2) ≤ 1000000 := Nat.le_trans (Zwx hgx dd hb1 hb2) dd
   have he2 : Qa (evP G (ptv qa).1 (ptv qa).2) ≤ 1000000 := Nat.le_trans (Zwx hgx dd ha1 ha2) dd
   refine gL h (za rfl (za rfl (zn (zs (yD Za [0, 2, 4, 1, 3, 5, 6, 7, 8, 9, 10, 11] (Jd ⟨.inl rfl, .inl rfl, .inl rfl, .inl rfl, .inl rfl, .inl rfl, .inr ⟨13, 49, _, _, _, rfl, rfl, by decide, _, Jl⟩, .inr ⟨14, 49, _, _, _, rfl, rfl, by decide, _, Jl⟩, .inr ⟨15, 44, _, _, _, rfl, rfl, by decide, _, Xi⟩, .inl rfl, .inl rfl, .inl rfl, trivial⟩) (yd rfl rfl mr isAgg27 sizeOf27 Zy ?_)))))); clear h
   refine yd rfl rfl mr isAgg27 sizeOf27 Zy ?_
   refine yd rfl rfl mr isAgg25 sizeOf25 Zn ?_
   refine yv [_] rfl rfl call13 (Zbn qa (by assumption)) (yv [_] rfl rfl call13 (Zbn qb (by assumption)) (yv [_] rfl rfl call62 (Zyu qt.1 qt.2 oo oo oo oo) ?_))
   have hl41 := Zc7 qt.1 qt.2 oo oo oo oo
   refine yz rfl Jl fun b13 => yz rfl Jl fun b14 => yz rfl Xi fun b15 => yt rfl rfl rfl Qr uu sizeOf49 rfl nb rfl ?_
   refine yt rfl rfl rfl Qr uu sizeOf49 rfl nb rfl ?_
   refine yt rfl rfl rfl Zq uu sizeOf44 rfl nb rfl ?_
   refine yn (zs (yD Za [0, 1, 2, 3, 5, 6, 7, 8, 4, 9, 10, 11, 12, 13] (Jd ⟨.inl rfl, .inl rfl, .inl rfl, .inl rfl, .inl rfl, .inl rfl, .inl rfl, .inl rfl, .inl rfl, .inl rfl, .inr ⟨16, 44, _, _, _, rfl, rfl, by decide, _, Xi⟩, .inr ⟨17, 44, _, _, _, rfl, rfl, by decide, _, Xi⟩, .inl rfl, .inl rfl, trivial⟩) (yp rfl (.indexAddr rfl rfl (Xa _ _)) (yd rfl rfl mr isAgg44 sizeOf44 Jn ?_))))
   refine yp rfl (.indexAddr rfl rfl (Xa _ _)) (yd rfl rfl mr isAgg44 sizeOf44 Jn ?_)
   refine yp rfl (.indexAddr rfl rfl (Jz _ _)) (yd rfl rfl mr isAgg44 sizeOf44 Jm ?_)
   refine yp rfl (.indexAddr rfl rfl (Jz _ _)) (yd rfl rfl mr isAgg44 sizeOf44 Jm ?_)
   refine yv [_, _] rfl rfl call68 (Zb4 _ _ oo oo) ?_
   have hl46 := Qz ((ptv qb).1) ((ptv qa).1)
   refine yv [_, _] rfl rfl call68 (Zb4 _ _ oo oo) ?_
   have hl51 := Qz ((ptv qb).2) ((ptv qa).2)
   refine yz rfl Xi fun b16 => yz rfl Xi fun b17 => yt rfl rfl rfl Zq uu sizeOf44 rfl nb rfl ?_
   refine yt rfl rfl rfl Zq uu sizeOf44 rfl nb rfl ?_
   refine yn (zs (yD Za [0, 2, 4, 6, 1, 3, 5, 7, 8, 9] (Zb kk) (ym rfl rfl (yd rfl rfl mr isAgg44 sizeOf44 Zf ?_))))
   refine ym rfl rfl (yd rfl rfl mr isAgg44 sizeOf44 Zf ?_)
   refine yf [_] rfl rfl call76 (Qfp G _ _ 6 41 hgx dd dd) ?_; rintro v53 Ψ53 ⟨ad53, c53, rfl, rfl⟩
   refine yf [_, _] rfl rfl call100 (Zme (norm (dxL G)) _ _ 6 42 (hgx.dx dd) dd dd ((ptv qb).1 - (ptv qa).1) 9 oo dd) ?_; rintro v55 Ψ55 ⟨ad55, c55, rfl, rfl⟩
   refine yf [_] rfl rfl call97 (C_DyF G _ _ 6 41 hgx dd dd) ?_; rintro v57 Ψ57 ⟨ad57, c57, rfl, rfl⟩
   refine yf [_, _] rfl rfl call100 (Zme (norm (dyL G)) _ _ 6 42 (hgx.dy dd) dd dd ((ptv qb).2 - (ptv qa).2) 9 oo dd) ?_; rintro v59 Ψ59 ⟨ad59, c59, rfl, rfl⟩
   refine yf [_, _] rfl rfl call73 (Zmd (norm (Qw ((ptv qb).1 - (ptv qa).1) (norm (dxL G)))) (norm (Qw ((ptv qb).2 - (ptv qa).2) (norm (dyL G)))) _ _ _ _ 6 6 52 52 ((hgx.dx dd).scale (c := (ptv qb).1 - (ptv qa).1) (Kc := 9) oo dd) ((hgx.dy dd).scale (c := (ptv qb).2 - (ptv qa).2) (Kc := 9) oo dd) dd dd dd dd) ?_; rintro v60 Ψ60 ⟨ad60, c60, rfl, rfl⟩
   refine yp rfl (.assign rfl) (yn (zS (zm rfl (zd rfl mr isAgg49 sizeOf49 Ze ?_))))
   refine zd rfl mr isAgg49 sizeOf49 Ze ?_
   refine zw [_, _, _] rfl call11 (Zjy G _ _ 6 41 4 hgx dd (ptv qa) (ptv qb) hKa hKb dd dd dd) (zz Xi fun b19 => zt' rfl rfl Zq uu sizeOf44 rfl nb rfl ?_)
   refine zn (zs (yD Za [0, 1, 2, 3, 6, 7, 8, 9, 4, 5, 10, 11, 12, 13, 14] (Jd ⟨.inl rfl, .inl rfl, .inl rfl, .inl rfl, .inl rfl, .inl rfl, .inl rfl, .inl rfl, .inl rfl, .inl rfl, .inl rfl, .inl rfl, .inl rfl, .inr ⟨20, 49, _, _, _, rfl, rfl, by decide, _, Jl⟩, .inl rfl, trivial⟩) (yp rfl (.indexAddr rfl rfl (Xa _ _)) (yd rfl rfl mr isAgg44 sizeOf44 Jn ?_))))
   refine yd rfl rfl mr isAgg44 sizeOf44 Zf ?_
   refine yd rfl rfl mr isAgg44 sizeOf44 Zf ?_
   refine yp rfl (.indexAddr rfl rfl (Jz _ _)) (yd rfl rfl mr isAgg44 sizeOf44 Jm ?_)
   refine yd rfl rfl mr isAgg44 sizeOf44 Zf ?_
   refine yd rfl rfl mr isAgg44 sizeOf44 Zf ?_
   refine yv [_, _] rfl rfl call69 (Vr _ _ oo oo) ?_
   have hl69 := Zu (qv qt.1 qt.2) (((ptv qb).1) - ((ptv qa).1))
   refine yv [_, _] rfl rfl call98 (Zbl _ _ oo oo) ?_
   have hl70 := Qs ((ptv qa).1) ((qv qt.1 qt.2) * (((ptv qb).1) - ((ptv qa).1)))
   refine yv [_, _] rfl rfl call69 (Vr _ _ oo oo) ?_
   have hl75 := Zu (qv qt.1 qt.2) (((ptv qb).2) - ((ptv qa).2))
   refine yv [_, _] rfl rfl call98 (Zbl _ _ oo oo) ?_
   have hl76 := Qs ((ptv qa).2) ((qv qt.1 qt.2) * (((ptv qb).2) - ((ptv qa).2)))
   refine yp rfl (.build [(_, _), (_, _)] rfl (Zd6 _ _ _ _ _ _ _ _ _ _)) (yz rfl Jl fun b20 => yt rfl rfl rfl Qr uu sizeOf49 rfl nb rfl ?_)
   refine yn (zs (yD Za [0, 1, 2, 3, 7, 9, 10, 11, 4, 5, 6, 8, 12, 13, 14, 15, 16] (Jd ⟨.inl rfl, .inl rfl, .inl rfl, .inl rfl, .inl rfl, .inl rfl, .inl rfl, .inl rfl, .inl rfl, .inl rfl, .inl rfl, .inl rfl, .inl rfl, .inl rfl, .inl rfl, .inr ⟨21, 44, _, _, _, rfl, rfl, by decide, _, Xi⟩, .inl rfl, trivial⟩) (yd rfl rfl mr isAgg44 sizeOf44 Zf ?_)))
   refine ym rfl rfl (yd rfl rfl mr isAgg49 sizeOf49 Ze ?_)
   refine yd rfl rfl mr isAgg49 sizeOf49 Ze ?_
   refine yd rfl rfl mr isAgg44 sizeOf44 Zf ?_
   refine ym rfl rfl (yd rfl rfl mr isAgg49 sizeOf49 Ze ?_)
   refine yd rfl rfl mr isAgg49 sizeOf49 Ze ?_
   refine yw [_, _, _] rfl rfl call11 (Zjy G _ _ 6 41 18 hgx dd (ptv qa) (((ptv qa).1 + qv qt.1 qt.2 * ((ptv qb).1 - (ptv qa).1), (ptv qa).2 + qv qt.1 qt.2 * ((ptv qb).2 - (ptv qa).2))) hKa8 hKz dd dd dd) (yv [_, _] rfl rfl call69 (Vr _ _ oo oo) ?_)
   have hl83 := Zu (qv qt.1 qt.2) (Yh G (ptv qa) (((ptv qa).1 + qv qt.1 qt.2 * ((ptv qb).1 - (ptv qa).1), (ptv qa).2 + qv qt.1 qt.2 * ((ptv qb).2 - (ptv qa).2))))
   refine yv [_] rfl rfl call45 (Gl _ oo oo) ?_
   have hl84 := Qe (1) oo oo
   refine yv [_, _] rfl rfl call68 (Zb4 _ _ oo oo) ?_
   have hl86 := Qz (((1 : Int) : Rat)) (qv qt.1 qt.2)
   refine yw [_, _, _] rfl rfl call11 (Zjy G _ _ 6 41 18 hgx dd (((ptv qa).1 + qv qt.1 qt.2 * ((ptv qb).1 - (ptv qa).1), (ptv qa).2 + qv qt.1 qt.2 * ((ptv qb).2 - (ptv qa).2))) (ptv qb) hKz hKb8 dd dd dd) (yv [_, _] rfl rfl call69 (Vr _ _ oo oo) ?_)
   have hl91 := Zu ((((1 : Int) : Rat)) - (qv qt.1 qt.2)) (Yh G (((ptv qa).1 + qv qt.1 qt.2 * ((ptv qb).1 - (ptv qa).1), (ptv qa).2 + qv qt.1 qt.2 * ((ptv qb).2 - (ptv qa).2))) (ptv qb))
   refine yv [_, _] rfl rfl call98 (Zbl _ _ oo oo) ?_
   have hl92 := Qs ((qv qt.1 qt.2) * (Yh G (ptv qa) (((ptv qa).1 + qv qt.1 qt.2 * ((ptv qb).1 - (ptv qa).1), (ptv qa).2 + qv qt.1 qt.2 * ((ptv qb).2 - (ptv qa).2))))) (((((1 : Int) : Rat)) - (qv qt.1 qt.2)) * (Yh G (((ptv qa).1 + qv qt.1 qt.2 * ((ptv qb).1 - (ptv qa).1), (ptv qa).2 + qv qt.1 qt.2 * ((ptv qb).2 - (ptv qa).2))) (ptv qb)))
   refine yz rfl Xi fun b21 => yt rfl rfl rfl Zq uu sizeOf44 rfl nb rfl ?_
   refine yn (zs (zs (yD Za [0, 1, 2, 4, 5, 6, 7, 8, 10, 11, 12, 13, 14, 3, 9, 15, 16, 17, 18, 19, 20, 21, 22, 23, 24, 25, 26, 28, 27, 29, 30, 31, 32, 33, 34, 36, 37, 38, 39, 40, 35, 41, 42, 43] (Zb kk) (ym rfl rfl (yd rfl rfl mr isAgg49 sizeOf49 Ze ?_)))))
   refine yd rfl rfl mr isAgg49 sizeOf49 Ze ?_
   refine ym rfl rfl (yp rfl (.indexAddr rfl rfl (Xa _ _)) (yd rfl rfl mr isAgg44 sizeOf44 Jn ?_))
   refine yp rfl (.indexAddr rfl rfl (Jz _ _)) (yd rfl rfl mr isAgg44 sizeOf44 Jm ?_)
   refine ym rfl rfl (yp rfl (.indexAddr rfl rfl (Xa _ _)) (yd rfl rfl mr isAgg44 sizeOf44 Jn ?_))
   refine yp rfl (.indexAddr rfl rfl (Jz _ _)) (yd rfl rfl mr isAgg44 sizeOf44 Jm ?_)
   refine yw [_, _, _] rfl rfl call11 (Zjy (norm (norm (Qw ((ptv qb).1 - (ptv qa).1) (norm (dxL G))) ++ norm (Qw ((ptv qb).2 - (ptv qa).2) (norm (dyL G))))) _ _ 6 106 4 (((hgx.dx dd).scale (c := (ptv qb).1 - (ptv qa).1) (Kc := 9) oo dd).add ((hgx.dy dd).scale (c := (ptv qb).2 - (ptv qa).2) (Kc := 9) oo dd) dd dd) dd (ptv qa) (ptv qb) hKa hKb dd dd dd) (yw [_, _, _] rfl rfl call78 (C_At G _ _ 6 41 4 hgx dd (ptv qb).1 (ptv qb).2 oo oo dd dd) (yw [_, _, _] rfl rfl call78 (C_At G _ _ 6 41 4 hgx dd (ptv qa).1 (ptv qa).2 oo oo dd dd) (yv [_, _] rfl rfl call68 (Zb4 _ _ oo oo) ?_)))
   have hl109 := Qz (evP G (ptv qb).1 (ptv qb).2) (evP G (ptv qa).1 (ptv qa).2)
   refine yp rfl (.binOp rfl rfl (fun _ => Ga _ _ (Yh (norm (norm (Qw ((ptv qb).1 - (ptv qa).1) (norm (dxL G))) ++ norm (Qw ((ptv qb).2 - (ptv qa).2) (norm (dyL G))))) (ptv qa) (ptv qb)) ((evP G (ptv qb).1 (ptv qb).2) - (evP G (ptv qa).1 (ptv qa).2)) _)) ?_
   refine Zs (fun hc110  => (by exfalso; exact Zs0 (Zzh G (ptv qa) (ptv qb)) hc110)) (fun hc110  => ?_)
   refine ym rfl rfl (yg rfl rfl rfl rfl mr isAgg44 sizeOf44 Zf ?_)
   refine yg rfl rfl rfl rfl mr isAgg44 sizeOf44 Zf ?_
   refine yq rfl rfl rfl (.binOp rfl rfl (fun _ => Ga _ _ (((qv qt.1 qt.2) * (Yh G (ptv qa) (((ptv qa).1 + qv qt.1 qt.2 * ((ptv qb).1 - (ptv qa).1), (ptv qa).2 + qv qt.1 qt.2 * ((ptv qb).2 - (ptv qa).2))))) + (((((1 : Int) : Rat)) - (qv qt.1 qt.2)) * (Yh G (((ptv qa).1 + qv qt.1 qt.2 * ((ptv qb).1 - (ptv qa).1), (ptv qa).2 + qv qt.1 qt.2 * ((ptv qb).2 - (ptv qa).2))) (ptv qb)))) (Yh G (ptv qa) (ptv qb)) _)) ?_
   refine Zs (fun hc114  => (by exfalso; exact Zs0 (Zzi G (ptv qa) (ptv qb) (qv qt.1 qt.2)) hc114)) (fun hc114  => ?_)
   refine yp rfl (.pickF rfl rfl) (ym rfl rfl (yq rfl rfl rfl (.move rfl) (yg rfl rfl rfl rfl mr isAgg49 sizeOf49 Ze ?_)))
   refine yg rfl rfl rfl rfl mr isAgg49 sizeOf49 Ze ?_
   refine yg rfl rfl rfl rfl mr isAgg44 sizeOf44 Zf ?_
   refine Qf rfl rfl rfl kk (vs := [_, _, _]) rfl call11 (Zjy G _ _ 6 41 4 hgx dd (ptv qb) (ptv qa) hKb hKa dd dd dd) ss dd ?_
   refine yq rfl rfl rfl (.binOp rfl rfl (fun _ => Ga _ _ (Yh G (ptv qb) (ptv qa)) (Yh G (ptv qa) (ptv qb)) _)) ?_
   refine Zs (fun hc122  => (by exfalso; exact Zs0 (Zdo G (ptv qb) (ptv qa)) hc122)) (fun hc122  => ?_)
   refine yp rfl (.pickF rfl rfl) (ym rfl rfl (yq rfl rfl rfl (.move rfl) (yg rfl rfl rfl rfl mr isAgg49 sizeOf49 Ze ?_)))
   refine yg rfl rfl rfl rfl mr isAgg49 sizeOf49 Ze ?_
   refine yq rfl rfl rfl (.move rfl) (yq rfl rfl rfl (.indexAddr rfl rfl (Xa _ _)) (yg rfl rfl rfl rfl mr isAgg44 sizeOf44 Jn ?_))
   refine yq rfl rfl rfl (.indexAddr rfl rfl (Jz _ _)) (yg rfl rfl rfl rfl mr isAgg44 sizeOf44 Jm ?_)
   refine Qf rfl rfl rfl kk (vs := [_, _, _]) rfl call11 (Zjy G _ _ 6 41 4 hgx dd (ptv qa) (ptv qa) hKa hKa dd dd dd) ss dd ?_
   refine Qf rfl rfl rfl kk (vs := [_, _, _]) rfl call78 (C_At G _ _ 6 41 4 hgx dd (ptv qa).1 (ptv qa).2 oo oo dd dd) ss dd ?_
   refine yq rfl rfl rfl (.binOp rfl rfl (fun _ => Ga _ _ (Yh G (ptv qa) (ptv qa)) (evP G (ptv qa).1 (ptv qa).2) _)) ?_
   refine Zs (fun hc135  => (by exfalso; exact Zs0 (seg_pt G (ptv qa)) hc135)) (fun hc135  => ?_)
   refine yp rfl (.pickF rfl rfl) (yn ?_); intro a w h
   refine cW ?_
   refine Zk h rfl ?_
   refine gC h (zk (zS (zm rfl (zm rfl (zd rfl mr isAgg49 sizeOf49 Ze ?_)))))
   refine zd rfl mr isAgg49 sizeOf49 Ze ?_
   refine zw [_, _, _, _] rfl call16 (Zd8 G H _ _ _ _ 6 6 41 41 4 hgx hgy dd dd (ptv qa) (ptv qb) hKa hKb dd dd dd dd) (zz Xi fun b22 => zt' rfl rfl Zq uu sizeOf44 rfl nb rfl ?_)
   refine zn (zs (yD Za [0, 1, 2, 3, 5, 4, 6, 7, 8, 9, 10, 11, 12, 13, 15, 16, 17, 18, 14, 19, 20, 21, 22, 23, 24, 25, 26] (Zb kk) (ym rfl rfl (ym rfl rfl (yd rfl rfl mr isAgg49 sizeOf49 Ze ?_)))))
   refine yd rfl rfl mr isAgg49 sizeOf49 Ze ?_
   refine yd rfl rfl mr isAgg44 sizeOf44 Zf ?_
   refine yw [_, _, _, _] rfl rfl call16 (Zd8 G H _ _ _ _ 6 6 41 41 4 hgx hgy dd dd (ptv qb) (ptv qa) hKb hKa dd dd dd dd) (yv [_] rfl rfl call99 (Zol _) ?_)
   have hl148 := Zby (Jq G H (ptv qa) (ptv qb))
   refine yp rfl (.binOp rfl rfl (fun _ => Za9 _ _ (Jq G H (ptv qb) (ptv qa)) (-(Jq G H (ptv qa) (ptv qb))) _)) ?_
   refine Zs (fun hc149  => ?_) (fun hc149  => (by exfalso; exact Qbg (Ym G H (ptv qa) (ptv qb)) hc149))
   refine ym rfl rfl (yg rfl rfl rfl rfl mr isAgg44 sizeOf44 Zf ?_)
   refine yq rfl rfl rfl (.move rfl) (yq rfl rfl rfl (.move rfl) (yg rfl rfl rfl rfl mr isAgg49 sizeOf49 Ze ?_))
   refine yg rfl rfl rfl rfl mr isAgg49 sizeOf49 Ze ?_
   refine yq rfl rfl rfl (.move rfl) (yq rfl rfl rfl (.move rfl) (yg rfl rfl rfl rfl mr isAgg49 sizeOf49 Ze ?_))
   refine yg rfl rfl rfl rfl mr isAgg49 sizeOf49 Ze ?_
   refine Qf rfl rfl rfl kk (vs := [_, _, _, _]) rfl call16 (Zd8 G H _ _ _ _ 6 6 41 41 18 hgx hgy dd dd (ptv qa) (((ptv qa).1 + qv qt.1 qt.2 * ((ptv qb).1 - (ptv qa).1), (ptv qa).2 + qv qt.1 qt.2 * ((ptv qb).2 - (ptv qa).2))) hKa8 hKz dd dd dd dd) ss dd ?_
   refine Qf rfl rfl rfl kk (vs := [_, _, _, _]) rfl call16 (Zd8 G H _ _ _ _ 6 6 41 41 18 hgx hgy dd dd (((ptv qa).1 + qv qt.1 qt.2 * ((ptv qb).1 - (ptv qa).1), (ptv qa).2 + qv qt.1 qt.2 * ((ptv qb).2 - (ptv qa).2))) (ptv qb) hKz hKb8 dd dd dd dd) ss dd ?_
   refine Qd rfl rfl rfl kk (vs := [_, _]) rfl call98 (Zbl _ _ oo oo) dd ?_
   have hl162 := Qs (Jq G H (ptv qa) (((ptv qa).1 + qv qt.1 qt.2 * ((ptv qb).1 - (ptv qa).1), (ptv qa).2 + qv qt.1 qt.2 * ((ptv qb).2 - (ptv qa).2)))) (Jq G H (((ptv qa).1 + qv qt.1 qt.2 * ((ptv qb).1 - (ptv qa).1), (ptv qa).2 + qv qt.1 qt.2 * ((ptv qb).2 - (ptv qa).2))) (ptv qb))
   refine yq rfl rfl rfl (.binOp rfl rfl (fun _ => Za9 _ _ (Jq G H (ptv qa) (ptv qb)) ((Jq G H (ptv qa) (((ptv qa).1 + qv qt.1 qt.2 * ((ptv qb).1 - (ptv qa).1), (ptv qa).2 + qv qt.1 qt.2 * ((ptv qb).2 - (ptv qa).2)))) + (Jq G H (((ptv qa).1 + qv qt.1 qt.2 * ((ptv qb).1 - (ptv qa).1), (ptv qa).2 + qv qt.1 qt.2 * ((ptv qb).2 - (ptv qa).2))) (ptv qb))) _)) ?_
   refine Zs (fun hc163  => ?_) (fun hc163  => (by exfalso; exact Qbg (Zu9 G H (ptv qa) (ptv qb) (qv qt.1 qt.2)) hc163))
   refine yp rfl (.pickT rfl rfl) (ym rfl rfl ?_)
   refine Qd rfl rfl rfl kk (vs := []) rfl call7 (Ja) dd ?_
   refine yp rfl (.pickT rfl rfl) (yp rfl (.assign rfl) (yn (zt ?_))); intro a w h
   exact Zao h
end
section
def Ql (f : Nat → Pt) : Nat → List Pt
 | 0 => []
 | k + 1 => Ql f k ++ [f k]
theorem Zr (f : Nat → Pt) : ∀ n, (Ql f n).length = n
 | 0 => rfl
 | k + 1 => by rw [Ql, List.length_append, Zr f k]; rfl
theorem Zec (f : Nat → Pt) : ∀ (n i : Nat), i < n → (Ql f n).getD i (0, 0) = f i
 | 0, i, h => absurd h (Nat.not_lt_zero _)
 | k + 1, i, h => by
  rw [Ql, List.getD_eq_getElem?_getD]
  rcases Nat.lt_or_ge i k with h1 | h1
  · rw [List.getElem?_append_left (by rw [Zr]; exact h1), ← List.getD_eq_getElem?_getD, Zec f k i h1]
  ·
   have e : i = k := oo
   subst e
   rw [List.getElem?_append_right (by rw [Zr]; exact Nat.le_refl _), Zr, Nat.sub_self]; rfl
theorem Zhz {f : Nat → Pt} : ∀ {n : Nat} {x : Pt}, x ∈ Ql f n → ∃ i, i < n ∧ x = f i
 | 0, _, h => nomatch h
 | k + 1, x, h => by
  rw [Ql] at h
  rcases List.mem_append.1 h with h | h
  ·
   obtain ⟨i, hi, e⟩ := Zhz h
   exact ⟨i, oo, e⟩
  · exact ⟨k, oo, List.mem_singleton.1 h⟩
theorem Zsg {l m : List Pt} (hl : l.length = m.length) (h : ∀ i, i < l.length → l.getD i (0, 0) = m.getD i (0, 0)) : l = m := by
 apply List.ext_getElem hl
 intro i h1 h2
 have := h i h1
 simpa [List.getD, h1, h2] using this
theorem Zvk (f : Nat → Pt) (n a : Nat) (ha : a < n) : Ql (fun i => f ((a + i) % n)) n = (Ql f n).drop a ++ (Ql f n).take a := by
 refine Zsg (by rw [Zr, List.length_append, List.length_drop, List.length_take, Zr]; omega) (fun i hi => ?_)
 rw [Zr] at hi
 rw [Zec _ n i hi, List.getD_eq_getElem?_getD]
 rcases Nat.lt_or_ge i (n - a) with h | h
 · rw [List.getElem?_append_left (by rw [List.length_drop, Zr]; exact h), List.getElem?_drop, ← List.getD_eq_getElem?_getD, Zec _ n _ oo, Nat.mod_eq_of_lt oo]
 ·
  rw [List.getElem?_append_right (by rw [List.length_drop, Zr]; exact h), List.length_drop, Zr, List.getElem?_take, if_pos oo, ← List.getD_eq_getElem?_getD, Zec _ n _ oo]
  congr 1
  rw [show a + i = n + (i - (n - a)) by omega, Nat.add_mod_left, Nat.mod_eq_of_lt oo]
theorem Zvl (f : Nat → Pt) (n : Nat) : Ql (fun i => f (n - 1 - i)) n = (Ql f n).reverse := by
 refine Zsg (by rw [Zr, List.length_reverse, Zr]) (fun i hi => ?_)
 rw [Zr] at hi
 rw [Zec _ n i hi, List.getD_eq_getElem?_getD, List.getElem?_reverse (by rw [Zr]; exact hi), Zr, ← List.getD_eq_getElem?_getD, Zec _ n _ oo]
theorem Ztu (p : List Tm) (f : Nat → Pt) (n a : Nat) (ha : a < n) : Ks p (Ql (fun i => f ((a + i) % n)) n) = Ks p (Ql f n) := by
 rw [Zvk f n a ha, Zeh, Qel, List.take_append_drop, ← Zeh]
theorem Ztx (p : List Tm) (f : Nat → Pt) (n : Nat) : Ks p (Ql (fun i => f (n - 1 - i)) n) = -Ks p (Ql f n) := by
 rw [Zvl, Zeh, Qem _ (fun a b => Ym _ _ a b), ← Zeh]
theorem Zto {l : List Pt} (h : 2 ≤ l.length) : ∃ m, l = l.getD 0 (0, 0) :: m ++ [l.getD (l.length - 1) (0, 0)] := by
 rcases l with _ | ⟨x, l⟩
 · exact absurd h dd
 ·
  have hne : l ≠ [] := fun e => by rw [e, List.length_cons, List.length_nil] at h; omega
  refine ⟨l.dropLast, ?_⟩
  have h1 := List.dropLast_concat_getLast hne
  have h2 : (x :: l).getD ((x :: l).length - 1) (0, 0) = l.getLast hne := by
   have hl : 0 < l.length := List.length_pos_iff.2 hne
   rw [show (x :: l).length - 1 = (l.length - 1) + 1 by simp only [List.length_cons]; omega, List.getD_cons_succ, List.getLast_eq_getElem]
   simp [List.getD, show l.length - 1 < l.length by omega]
  rw [List.getD_cons_zero, h2, List.cons_append, h1]
theorem Ztv (p : List Tm) (l : List Pt) (h : 2 ≤ l.length) (s : Rat) : Ks p (l ++ [((l.getD (l.length - 1) (0, 0)).1 + s * ((l.getD 0 (0, 0)).1 - (l.getD (l.length - 1) (0, 0)).1), (l.getD (l.length - 1) (0, 0)).2 + s * ((l.getD 0 (0, 0)).2 - (l.getD (l.length - 1) (0, 0)).2))]) = Ks p l := by
 obtain ⟨m, e⟩ := Zto h
 generalize l.getD (l.length - 1) (0, 0) = x at *
 generalize l.getD 0 (0, 0) = a at *
 rw [e, Zeh, Zeh, List.append_assoc]
 exact Qbb _ a _ m x (Zh6 _ _ x _ a (by unfold twQ; grind))
theorem Zv9 (p : List Tm) {l : List Pt} (h : l.length ≤ 2) : Ks p l = 0 := by
 match l, h with
 | [], _ => rfl
 | [_], _ => rfl
 | [_, _], _ => rfl
def flG (p : List Tm) (l : List Pt) : Nat → Rat
 | 0 => Jq p [] (l.getD 0 (0, 0)) (l.getD 1 (0, 0))
 | k + 1 => flG p l k + Jq p [] (l.getD (k + 1) (0, 0)) (l.getD ((k + 2) % l.length) (0, 0))
def pathN (f : Pt → Pt → Rat) (l : List Pt) : Nat → Rat
 | 0 => 0
 | k + 1 => pathN f l k + f (l.getD k (0, 0)) (l.getD (k + 1) (0, 0))
theorem Zj8 (f : Pt → Pt → Rat) (a : Pt) (l : List Pt) : ∀ k, pathN f (a :: l) (k + 1) = f a (l.getD 0 (0, 0)) + pathN f l k
 | 0 => by simp only [pathN, List.getD_cons_zero, List.getD_cons_succ]; grind
 | k + 1 => by rw [pathN, Zj8 f a l k, pathN]; simp only [List.getD_cons_succ]; grind
theorem Zrh (f : Pt → Pt → Rat) : ∀ l : List Pt, pathN f l (l.length - 1) = Kl f l
 | [] => rfl
 | [a] => rfl
 | a :: b :: l => by
  have ih := Zrh f (b :: l)
  rw [show (a :: b :: l).length - 1 = ((b :: l).length - 1) + 1 by simp, Zj8, ih, Kl]; rfl
theorem Zsh (p : List Tm) (a : Pt) (l : List Pt) (h : 1 ≤ l.length) : ∀ k, k ≤ l.length → flG p (a :: l) k = pathN (Jq p []) (a :: l ++ [a]) (k + 1)
 | 0, _ => by
  have e : (a :: l ++ [a]).getD 1 (0, 0) = (a :: l).getD 1 (0, 0) := by
   rw [List.getD_eq_getElem?_getD, List.getElem?_append_left (by simp only [List.length_cons]; omega), ← List.getD_eq_getElem?_getD]
  rw [flG, pathN, pathN, e]; simp only [List.cons_append, List.getD_cons_zero]; grind
 | k + 1, hk => by
  have ih := Zsh p a l h k oo
  rw [flG, ih, pathN.eq_def _ _ (k + 1 + 1)]
  simp only
  have e1 : (a :: l ++ [a]).getD (k + 1) (0, 0) = (a :: l).getD (k + 1) (0, 0) := by
   rw [List.getD_eq_getElem?_getD, List.getElem?_append_left (by simp only [List.length_cons]; omega), ← List.getD_eq_getElem?_getD]
  have e2 : (a :: l ++ [a]).getD (k + 1 + 1) (0, 0) = (a :: l).getD ((k + 2) % (a :: l).length) (0, 0) := by
   rw [List.length_cons]
   rcases Nat.lt_or_ge (k + 2) (l.length + 1) with h1 | h1
   · rw [Nat.mod_eq_of_lt h1, List.getD_eq_getElem?_getD, List.getElem?_append_left (by simp only [List.length_cons]; omega), ← List.getD_eq_getElem?_getD]
   ·
    rw [show k + 2 = l.length + 1 by omega, Nat.mod_self, List.getD_eq_getElem?_getD, List.getElem?_append_right (by simp only [List.length_cons]; omega)]
    simp only [List.length_cons, Nat.sub_self, List.getElem?_cons_zero, Option.getD_some, List.getD_cons_zero]
  rw [e1, e2]
theorem Ztw (p : List Tm) (l : List Pt) (h : 2 ≤ l.length) : Ks (norm (dxL p)) l = flG p l (l.length - 1) := by
 rw [Zwa (Eqv.nrm _), Qdw]
 rcases l with _ | ⟨a, l⟩
 · exact absurd h dd
 ·
  rw [Zsh p a l (by rw [List.length_cons] at h; omega) _ ss]
  have := Zrh (Jq p []) (a :: l ++ [a])
  rw [show (a :: l ++ [a]).length - 1 = (a :: l).length - 1 + 1 by simp] at this
  rw [this]; rfl
end
section
theorem Zhb (a : Option Addr) (n c : Nat) (w : World) (ty : TypeId) (cs : Array Bool) : (Go.builtin .len #[84] ty cs #[.slice a n c]).run Tryz.prog w = .ok (.value (.int .i64 n)) w := by
 simp [go_sem]
theorem Qap (b off n c j : Nat) (h : j < n) (w : World) : (Instr.indexAt 84 (.slice (some ⟨b, off, none⟩) n c) (.int .i64 (j : Int))).run Tryz.prog w = .ok (.pointer (some ⟨b, off + j * 4, none⟩)) w := by
 simpa using Xe runUnderlying84 sizeOf27 b off n c j h w
theorem Zco (x0_0 : Value) (x0_1 : Value) (x0_2 : Value) (x0_3 : Value) (x0_4 : Value) (x0_5 : Value) (x0_6 : Value) (x0_7 : Value) (x0_8 : Value) (x0_9 : Value) (w : World) : (Instr.buildSlice 146 1 [(0, .agg #[x0_0, x0_1, x0_2, x0_3, x0_4, x0_5, x0_6, x0_7, x0_8, x0_9])].toArray).run Tryz.prog w = .ok (.slice (some ⟨w.heap.size, 0, none⟩) 1 1) (w.alloc (.cells #[x0_0, x0_1, x0_2, x0_3, x0_4, x0_5, x0_6, x0_7, x0_8, x0_9] 49 (0, 0))) := by
 simp [go_sem]
abbrev PQ0 : (Int × Int) × (Int × Int) := ((0, 0), (0, 0))
theorem Qax (cs : List ((Int × Int) × (Int × Int))) {j : Nat} (h : j < cs.length) : (cs.take j).map ptv ++ [ptv (cs.getD j PQ0)] = (cs.take (j + 1)).map ptv := by
 rw [List.take_add_one, List.getElem?_eq_getElem h, List.map_append]; simp [List.getD, h]
def fA (cs : List ((Int × Int) × (Int × Int))) (i : Nat) : Pt := ptv (cs.getD i PQ0)
theorem fA_K {cs : List ((Int × Int) × (Int × Int))} (h : ∀ q ∈ cs, OkP q) {i : Nat} (hi : i < cs.length) : PtK 4 (fA cs i) := Zeq (h _ (getD_mem cs (d := PQ0) hi))
theorem Qb8 : ∀ l : List Pt, (cellsOf encPt l).all flat = true
 | [] => rfl
 | t :: l => by
  have h := Qb8 l
  rw [show t :: l = [t] ++ l from rfl, Zw, Je, List.all_append, h]; rfl
theorem Zup (p : Pt) : (encPt p).cells.size = 10 := rfl
theorem Zr7 {d K Kp n : Nat} {p : List Tm} (hq : Pq d K p) (hd : d ≤ 12) {l : List Pt} (hl : ∀ x ∈ l, PtK Kp x) (hk : 2 ≤ Kp) (hn : SG d K Kp + SG 1 1 Kp + 4 * Kp + 3 ≤ n) (h2 : 2 ≤ l.length) : ∀ k, k + 1 ≤ l.length → Qa (flG p l k) ≤ n + k * (n + 1)
 | 0, _ => by
  have := Km hq (Pq.nil 1) hd dd (hl _ (getD_mem l (d := (0, 0)) (show 0 < l.length by omega))) (hl _ (getD_mem l (d := (0, 0)) (show 1 < l.length by omega))) hk hn
  rw [flG]; omega
 | k + 1, hk2 => by
  have ih := Zr7 hq hd hl hk hn h2 k oo
  have h3 := Km hq (Pq.nil 1) hd dd (hl _ (getD_mem l (d := (0, 0)) (show k + 1 < l.length by omega))) (hl _ (getD_mem l (d := (0, 0)) (show (k + 2) % l.length < l.length from Nat.mod_lt _ oo))) hk hn
  have h4 := Qs (flG p l k) (Jq p [] (l.getD (k + 1) (0, 0)) (l.getD ((k + 2) % l.length) (0, 0)))
  rw [flG, Nat.add_mul]; omega
theorem Kq (l : List Ti) (cs : List ((Int × Int) × (Int × Int))) (ad ad9 : Option Addr) (c c9 : Nat) (hokl : ∀ t ∈ l, OkT t) (hokc : ∀ q ∈ cs, OkP q) (hln : l.length ≤ 9223372036854775807) (hcn : cs.length ≤ 9223372036854775807) (fi : Int) (hf1 : -9223372036854775808 ≤ fi) (hf2 : fi ≤ 9223372036854775807) (qt : Int × Int) (hqt : OkQ qt) : Zae Tryz.prog 35 [.slice ad l.length c, .slice ad9 cs.length c9, .int .i64 fi, encQ2 qt] [Row ad (cellsOf Gm l), Row ad9 (cellsOf Zak cs)] (.bool true) := by
 have hls : Qa (qv qt.1 qt.2) ≤ 4 := Zek hqt
 obtain ⟨ht1, ht2, ht3, ht4⟩ := hqt
 refine fn_intro func35 rfl ntmps35 nb ?_
 intro S w0 a hS h
 replace h := h.derive (R := Row none (cellsOf Qn [])) (fun X _ hne => absurd rfl hne)
 refine gC h (zS (zx rfl fun b7 => za rfl (zn (zs (zS (zm rfl (zp (.builtin [_] rfl (Jy _ _ _)) (zp (.gtr rfl rfl) ?_)))))))); clear h; intro a w h
 refine Zl h (fun hc26 h => ?_) (fun hc26 h => ?_)
 ·
  skip
  refine gL h (zm rfl (zo 27 rfl rfl rfl (zo 27 rfl rfl rfl (zo 27 rfl rfl rfl (zp (.pickT rfl rfl) (zn ?_)))))); clear h; intro a w h
  refine cW ?_
  refine Zp h rfl ?_
  refine gC h (zS (zv [] rfl call7 (Ja) (za rfl (zn (zt ?_))))); clear h; intro a w h
  exact Zao h
 ·
  skip
  refine gL h (zm rfl (zq 27 rfl rfl (.move rfl) (zq 27 rfl rfl (.builtin [_] rfl (Zhb _ _ _)) (zq 27 rfl rfl (.gtr rfl rfl) ?_)))); clear h; intro a w h
  refine Zl h (fun hc30 h => ?_) (fun hc30 h => ?_)
  ·
   skip
   refine gL h (zp (.pickF rfl rfl) (zn ?_)); clear h; intro a w h
   refine cW ?_
   refine Zp h rfl ?_
   refine gC h (zS (zv [] rfl call7 (Ja) (za rfl (zn (zt ?_))))); clear h; intro a w h
   exact Zao h
  ·
   skip
   have hll : l.length ≤ 6 := dF hc26
   have hcl : cs.length ≤ 7 := dF hc30
   have hgx := Zc4 (d := 3) hokl hll dd dd
   refine gL h (zp (.pickF rfl rfl) (zn ?_)); clear h; intro a w h
   refine cW ?_
   refine Zk h rfl ?_
   refine gC h (zk (zS (zm rfl (zf [_, _] rfl call96 (Zju l _ _ 3 8 (by assumption) oo oo) ?_)))); clear h; rintro v34 Ψ34 ⟨ad34, c34, rfl, rfl⟩ a w h
   obtain ⟨G, hnG⟩ : ∃ G, norm (Xk 3 l) = G := ⟨_, rfl⟩
   rw [hnG] at h hgx
   refine gL h (za rfl (zn (zS (zm rfl (zp (.builtin [_] rfl (Zhb _ _ _)) (za rfl (zn (zs (zS (zm rfl (zp (.lss rfl rfl) (zn ?_)))))))))))); clear h; intro a w h
   refine cW ?_
   refine Zc h rfl (fun hc38 => ?_) (fun hc38 => ?_)
   ·
    skip
    have hc3 : cs.length < 3 := dT hc38
    have hKw : ∀ x ∈ List.map ptv cs, PtK 4 x := fun x hx => by obtain ⟨q, hq, rfl⟩ := List.mem_map.1 hx; exact Zeq (hokc q hq)
    refine gC h (zS (za rfl (zn (zs (zS (za rfl (zn (zb ?_)))))))); clear h; intro a w h
    refine Zg (fun (k : Nat) a w => k ≤ cs.length ∧ ∃ (ad1 : Option Addr) (c1 : Nat) (o1 : List (Nat × Obj)), (GrowO 10 49 (.slice ad1 ((cs.take k).map ptv).length c1) ((cs.take k).map ptv).length (cellsOf encPt ((cs.take k).map ptv)) o1) ∧ St 211 S w0 [(1, .slice ad9 cs.length c9), (2, .int .i64 fi), (7, pB b7), (8, .bool false), (9, .slice ad34 ((G).length) c34), (10, nI cs.length), (11, (.slice ad1 ((cs.take k).map ptv).length c1)), (12, nI k)] (o1 ++ ((b7, bV (.agg #[.int .i64 qt.1, .int .u32 qt.2]) 25) :: [])) [Row ad34 (cellsOf Qn (G)), Row none (cellsOf Qn []), Row ad (cellsOf Gm l), Row ad9 (cellsOf Zak cs)] a w) (fun k => cs.length - k) 0 (⟨Nat.zero_le _, none, 0, [], GrowO.nil _ _, by exact (h).sub sA⟩) ?_; clear h
    rintro k a w ⟨hi_k, ad1, c1, o1, hG1, h⟩
    refine gC h (zs (zS (zm rfl (zm rfl (zp (.lss rfl rfl) (zn ?_)))))); clear h; intro a w h
    refine cW ?_
    refine Zc h rfl (fun hc41 => ?_) (fun hc41 => ?_)
    ·
     skip
     have hlt_k : k < cs.length := dT hc41
     obtain ⟨B_ad9, O_ad9, rfl⟩ := h.row_addr (ad := ad9) (M := cellsOf Zak cs) mm (nE 4)
     have hlk : ((cs.take k).map ptv).length = k := by rw [List.length_map, List.length_take]; omega
     refine gC h (zk (zs (zb (zr (zm rfl (zm rfl (zm rfl (zp (.indexAddr rfl rfl (Qap _ _ _ _ _ oo)) (zD rfl mm (cells_lt (k := 4) dd (fun _ => rfl) cs k oo) isAgg27 sizeOf27 (Qb (k := 4) (fun _ => rfl) ((fun _ => rfl)) cs (((0, 0), (0, 0))) k oo) (.inl rfl) ?_)))))))))
     refine zv [_] rfl call13 (Zbn (cs.getD k PQ0) (hokc _ (getD_mem cs (d := PQ0) (by first | omega | exact Nat.mod_lt _ oo)))) (zB [(_, _)] rfl (Zco _ _ _ _ _ _ _ _ _ _) fun b50 => ?_); intro a w h
     refine Zh (Xr (σr := [(b7, bV (.agg #[.int .i64 qt.1, .int .u32 qt.2]) 25)]) h rfl rfl (List.Perm.trans (List.Perm.refl _) (List.Perm.cons _ (List.Perm.refl _))) hG1 runUnderlying146 runUnderlying146 typeInfo49 sizeOf49 Jl rfl dd dd rfl rfl dd (by show 112 * (2 * (((cs.take k).map ptv).length + 1) + 192) ≤ 281474976710656; omega) dd ?_); clear h
     intro v51 o51 a w hG51 h
     obtain ⟨ad51, c51, rfl⟩ := hG51.is
     have hLn51 : ((cs.take k).map ptv).length + 1 = (((cs.take k).map ptv) ++ [ptv (cs.getD k PQ0)]).length := lA
     rw [hLn51] at h hG51
     replace hG51 : GrowO 10 49 (.slice ad51 (((cs.take k).map ptv) ++ [ptv (cs.getD k PQ0)]).length c51) (((cs.take k).map ptv) ++ [ptv (cs.getD k PQ0)]).length (cellsOf encPt (((cs.take k).map ptv) ++ [ptv (cs.getD k PQ0)])) o51 := by rw [Zw, Je]; exact hG51
     refine gL h (za rfl (zn (zr (zm rfl (zp (.pN (k + 1) (.add rfl rfl)) (za rfl (zn ?_))))))); clear h; intro a w h
     rw [Qax cs hlt_k] at h hG51
     exact ⟨k + 1, ⟨oo, ad51, c51, o51, hG51, by exact (h.factsSub (by simp)).sub sA⟩, oo⟩
    ·
     skip
     have heq_k : cs.length = k := dF hc41
     subst heq_k
     rw [List.take_length] at h hG1
     replace h := St.shareO' h hS hG1
     refine gC h (ze (zS (zm rfl (zm rfl (zw [_, _] rfl call52 (Zbm G _ _ _ _ 3 31 4 (List.map ptv cs) hgx dd hKw (by rw [List.length_map]; omega) dd dd kD) (zp (.build [] rfl (Zl0)) (zp (.binOp rfl rfl (fun _ => Za9 _ _ (Ks G (List.map ptv cs)) 0 _)) ?_))))))); clear h; intro a w h
     refine Zl h (fun hc56 h => ?_) (fun hc56 h => (by exfalso; exact Qbg (Zv9 G (l := List.map ptv cs) (by rw [List.length_map]; omega)) hc56))
     refine gL h (zm rfl ?_); clear h; intro a w h
     refine Zv 57 h rfl rfl (Yk h (vs := []) rfl call7 (Ja) dd ?_); clear h; intro a w h
     refine gL h (zp (.pickT rfl rfl) (za rfl (zn (zt ?_)))); clear h; intro a w h
     exact Zao h
   ·
    skip
    have hc3 : 3 ≤ cs.length := dF hc38
    obtain ⟨f, hf⟩ : ∃ f, uN fi % cs.length = f := ⟨_, rfl⟩
    have hfn : f < cs.length := by rw [← hf]; exact Nat.mod_lt _ oo
    refine gC h (zk (zS (zm rfl (zp (Pure1.cast (v' := .int .u64 ((uN fi : Nat) : Int)) (.convert rfl (Zbz _)) (by rw [Zot])) (zm rfl (zp (Pure1.cast (v' := .int .u64 ((cs.length : Nat) : Int)) (.convert rfl (Zbz _)) (by rw [wrap_u64 _ oo oo])) (zp (Pure1.cast (v' := .int .u64 ((f : Nat) : Int)) (.binOp rfl rfl (fun _ => Ye _ _ _ _ _ oo)) (by rw [Xl, hf])) (zp (Pure1.cast (v' := .int .i64 ((f : Nat) : Int)) (.convert rfl (Zly _)) (by rw [wrap_i64 _ oo oo])) (za rfl (zn (zS (za rfl (za rfl (za rfl (za rfl (zn (zs (zS (za rfl (zn (zb ?_))))))))))))))))))))); clear h; intro a w h
    refine Zg (fun (k : Nat) a w => k ≤ cs.length ∧ ∃ (ad1 : Option Addr) (c1 : Nat) (o1 : List (Nat × Obj)) (ad2 : Option Addr) (c2 : Nat) (o2 : List (Nat × Obj)) (ad3 : Option Addr) (c3 : Nat) (o3 : List (Nat × Obj)), (GrowO 10 49 (.slice ad1 (Ql (fA cs) k).length c1) (Ql (fA cs) k).length (cellsOf encPt (Ql (fA cs) k)) o1 ∧ GrowO 10 49 (.slice ad2 (Ql (fun i => fA cs ((f + i) % cs.length)) k).length c2) (Ql (fun i => fA cs ((f + i) % cs.length)) k).length (cellsOf encPt (Ql (fun i => fA cs ((f + i) % cs.length)) k)) o2 ∧ GrowO 10 49 (.slice ad3 (Ql (fun i => fA cs (cs.length - 1 - i)) k).length c3) (Ql (fun i => fA cs (cs.length - 1 - i)) k).length (cellsOf encPt (Ql (fun i => fA cs (cs.length - 1 - i)) k)) o3) ∧ St 211 S w0 [(1, .slice ad9 cs.length c9), (2, nI f), (7, pB b7), (8, .bool false), (9, .slice ad34 ((G).length) c34), (10, nI cs.length), (13, (.slice ad1 (Ql (fA cs) k).length c1)), (14, (.slice ad2 (Ql (fun i => fA cs ((f + i) % cs.length)) k).length c2)), (15, (.slice ad3 (Ql (fun i => fA cs (cs.length - 1 - i)) k).length c3)), (16, .slice none 0 0), (17, nI k)] (o1 ++ (o2 ++ (o3 ++ ((b7, bV (.agg #[.int .i64 qt.1, .int .u32 qt.2]) 25) :: [])))) [Row ad34 (cellsOf Qn (G)), Row none (cellsOf Qn []), Row ad (cellsOf Gm l), Row ad9 (cellsOf Zak cs)] a w) (fun k => cs.length - k) 0 (⟨Nat.zero_le _, none, 0, [], none, 0, [], none, 0, [], ⟨GrowO.nil _ _, GrowO.nil _ _, GrowO.nil _ _⟩, by exact (h).sub sA⟩) ?_; clear h
    rintro k a w ⟨hi_k, ad1, c1, o1, ad2, c2, o2, ad3, c3, o3, ⟨hG1, hG2, hG3⟩, h⟩
    refine gC h (zs (zS (zm rfl (zm rfl (zp (.lss rfl rfl) (zn ?_)))))); clear h; intro a w h
    refine cW ?_
    refine Zc h rfl (fun hc68 => ?_) (fun hc68 => ?_)
    ·
     skip
     have hlt_k : k < cs.length := dT hc68
     obtain ⟨B_ad9, O_ad9, rfl⟩ := h.row_addr (ad := ad9) (M := cellsOf Zak cs) mm (nE 4)
     have hl1 := Zr (fA cs) k
     have hl2 := Zr (fun i => fA cs ((f + i) % cs.length)) k
     have hl3 := Zr (fun i => fA cs (cs.length - 1 - i)) k
     have hml := Nat.mod_lt (f + k) (show 0 < cs.length by omega)
     refine gC h (zk (zs (zb (zS (zm rfl (zm rfl (zm rfl (zp (.indexAddr rfl rfl (Qap _ _ _ _ _ oo)) (zD rfl mm (cells_lt (k := 4) dd (fun _ => rfl) cs k oo) isAgg27 sizeOf27 (Qb (k := 4) (fun _ => rfl) ((fun _ => rfl)) cs (((0, 0), (0, 0))) k oo) (.inl rfl) ?_)))))))))
     refine zv [_] rfl call13 (Zbn (cs.getD k PQ0) (hokc _ (getD_mem cs (d := PQ0) (by first | omega | exact Nat.mod_lt _ oo)))) (zB [(_, _)] rfl (Zco _ _ _ _ _ _ _ _ _ _) fun b77 => ?_); intro a w h
     refine Zh (Xr (σr := (o2 ++ (o3 ++ ((b7, bV (.agg #[.int .i64 qt.1, .int .u32 qt.2]) 25) :: [])))) h rfl rfl (List.Perm.trans (List.Perm.refl _) (List.Perm.cons _ (List.Perm.refl _))) hG1 runUnderlying146 runUnderlying146 typeInfo49 sizeOf49 Jl rfl dd dd rfl rfl dd (by show 112 * (2 * ((Ql (fA cs) k).length + 1) + 192) ≤ 281474976710656; omega) dd ?_); clear h
     intro v78 o78 a w hG78 h
     obtain ⟨ad78, c78, rfl⟩ := hG78.is
     have hLn78 : (Ql (fA cs) k).length + 1 = ((Ql (fA cs) k) ++ [ptv (cs.getD k PQ0)]).length := lA
     rw [hLn78] at h hG78
     replace hG78 : GrowO 10 49 (.slice ad78 ((Ql (fA cs) k) ++ [ptv (cs.getD k PQ0)]).length c78) ((Ql (fA cs) k) ++ [ptv (cs.getD k PQ0)]).length (cellsOf encPt ((Ql (fA cs) k) ++ [ptv (cs.getD k PQ0)])) o78 := by rw [Zw, Je]; exact hG78
     refine gL h (za rfl (zn (zS (zm rfl (zm rfl (zm rfl (zm rfl (zp (.pN (f + k) (.add rfl rfl)) (zm rfl (zp (Pure1.cast (v' := .int .i64 (((f + k) % cs.length : Nat) : Int)) (.binOp rfl rfl (fun _ => Ye _ _ _ _ _ oo)) (by rw [Xl])) (zp (.indexAddr rfl rfl (Qap _ _ _ _ _ (by exact Nat.mod_lt _ oo))) (zD rfl mm (cells_lt (k := 4) dd (fun _ => rfl) cs ((f + k) % cs.length) (by exact Nat.mod_lt _ oo)) isAgg27 sizeOf27 (Qb (k := 4) (fun _ => rfl) ((fun _ => rfl)) cs (((0, 0), (0, 0))) ((f + k) % cs.length) (by exact Nat.mod_lt _ oo)) (.inl rfl) ?_))))))))))))
     refine zv [_] rfl call13 (Zbn (cs.getD ((f + k) % cs.length) PQ0) (hokc _ (getD_mem cs (d := PQ0) (by first | omega | exact Nat.mod_lt _ oo)))) (zB [(_, _)] rfl (Zco _ _ _ _ _ _ _ _ _ _) fun b89 => ?_); intro a w h
     refine Zh (Xr (σr := (o78 ++ (o3 ++ ((b7, bV (.agg #[.int .i64 qt.1, .int .u32 qt.2]) 25) :: [])))) h rfl rfl (List.Perm.trans (List.Perm.refl _) (List.Perm.cons _ (Zty (List.Perm.refl _)))) hG2 runUnderlying146 runUnderlying146 typeInfo49 sizeOf49 Jl rfl dd dd rfl rfl dd (by show 112 * (2 * ((Ql (fun i => fA cs ((f + i) % cs.length)) k).length + 1) + 192) ≤ 281474976710656; omega) dd ?_); clear h
     intro v90 o90 a w hG90 h
     obtain ⟨ad90, c90, rfl⟩ := hG90.is
     have hLn90 : (Ql (fun i => fA cs ((f + i) % cs.length)) k).length + 1 = ((Ql (fun i => fA cs ((f + i) % cs.length)) k) ++ [ptv (cs.getD ((f + k) % cs.length) PQ0)]).length := lA
     rw [hLn90] at h hG90
     replace hG90 : GrowO 10 49 (.slice ad90 ((Ql (fun i => fA cs ((f + i) % cs.length)) k) ++ [ptv (cs.getD ((f + k) % cs.length) PQ0)]).length c90) ((Ql (fun i => fA cs ((f + i) % cs.length)) k) ++ [ptv (cs.getD ((f + k) % cs.length) PQ0)]).length (cellsOf encPt ((Ql (fun i => fA cs ((f + i) % cs.length)) k) ++ [ptv (cs.getD ((f + k) % cs.length) PQ0)])) o90 := by rw [Zw, Je]; exact hG90
     refine gL h (za rfl (zn (zr (zm rfl (zm rfl (zm rfl (zp (.pO (cs.length - 1) (.sub rfl rfl)) (zm rfl (zp (.pO ((cs.length - 1) - k) (.sub rfl rfl)) (zp (.indexAddr rfl rfl (Qap _ _ _ _ _ oo)) (zD rfl mm (cells_lt (k := 4) dd (fun _ => rfl) cs ((cs.length - 1) - k) oo) isAgg27 sizeOf27 (Qb (k := 4) (fun _ => rfl) ((fun _ => rfl)) cs (((0, 0), (0, 0))) ((cs.length - 1) - k) oo) (.inl rfl) ?_)))))))))))
     refine zv [_] rfl call13 (Zbn (cs.getD (cs.length - 1 - k) PQ0) (hokc _ (getD_mem cs (d := PQ0) (by first | omega | exact Nat.mod_lt _ oo)))) (zB [(_, _)] rfl (Zco _ _ _ _ _ _ _ _ _ _) fun b100 => ?_); intro a w h
     refine Zh (Xr (σr := (o90 ++ (o78 ++ ((b7, bV (.agg #[.int .i64 qt.1, .int .u32 qt.2]) 25) :: [])))) h rfl rfl (List.Perm.trans (List.Perm.refl _) (List.Perm.cons _ (Zty (Zty (List.Perm.refl _))))) hG3 runUnderlying146 runUnderlying146 typeInfo49 sizeOf49 Jl rfl dd dd rfl rfl dd (by show 112 * (2 * ((Ql (fun i => fA cs (cs.length - 1 - i)) k).length + 1) + 192) ≤ 281474976710656; omega) dd ?_); clear h
     intro v101 o101 a w hG101 h
     obtain ⟨ad101, c101, rfl⟩ := hG101.is
     have hLn101 : (Ql (fun i => fA cs (cs.length - 1 - i)) k).length + 1 = ((Ql (fun i => fA cs (cs.length - 1 - i)) k) ++ [ptv (cs.getD (cs.length - 1 - k) PQ0)]).length := lA
     rw [hLn101] at h hG101
     replace hG101 : GrowO 10 49 (.slice ad101 ((Ql (fun i => fA cs (cs.length - 1 - i)) k) ++ [ptv (cs.getD (cs.length - 1 - k) PQ0)]).length c101) ((Ql (fun i => fA cs (cs.length - 1 - i)) k) ++ [ptv (cs.getD (cs.length - 1 - k) PQ0)]).length (cellsOf encPt ((Ql (fun i => fA cs (cs.length - 1 - i)) k) ++ [ptv (cs.getD (cs.length - 1 - k) PQ0)])) o101 := by rw [Zw, Je]; exact hG101
     refine gL h (za rfl (zn (zr (zm rfl (zp (.pN (k + 1) (.add rfl rfl)) (za rfl (zn ?_))))))); clear h; intro a w h
     exact ⟨k + 1, ⟨oo, ad78, c78, o78, ad90, c90, o90, ad101, c101, o101, ⟨hG78, hG90, hG101⟩, by exact ((h.perm (List.Perm.trans (Zty (Zty (List.Perm.refl _))) (List.Perm.append_left _ (List.Perm.trans (Zty (List.Perm.refl _)) (List.Perm.append_left _ (List.Perm.refl _))))).symm).factsSub (by simp)).sub sA⟩, oo⟩
    ·
     skip
     have heq_k : cs.length = k := dF hc68
     subst heq_k
     replace h := St.shareO' (St.shareO' (St.shareO' h hS hG1) hS hG2) hS hG3
     obtain ⟨B_ad1, O_ad1, rfl⟩ := h.row_addr (ad := ad1) (M := cellsOf encPt (Ql (fA cs) cs.length)) mm (by intro e; have := congrArg List.length e; rw [cellsOf_length (k := 10) (fun _ => rfl), Zr] at this; simp only [List.length_nil, Nat.mul_eq_zero] at this; omega)
     have hKA : ∀ x ∈ Ql (fA cs) cs.length, PtK 4 x := fun x hx => by obtain ⟨i, hi, rfl⟩ := Zhz hx; exact fA_K hokc hi
     have hKB : ∀ x ∈ Ql (fun i => fA cs ((f + i) % cs.length)) cs.length, PtK 4 x := fun x hx => by obtain ⟨i, hi, rfl⟩ := Zhz hx; exact fA_K hokc (Nat.mod_lt _ oo)
     have hKC : ∀ x ∈ Ql (fun i => fA cs (cs.length - 1 - i)) cs.length, PtK 4 x := fun x hx => by obtain ⟨i, hi, rfl⟩ := Zhz hx; exact fA_K hokc oo
     have hKx : PtK 4 ((Ql (fA cs) cs.length).getD (cs.length - 1) (0, 0)) := (hKA _ (getD_mem _ (d := (0, 0)) (by rw [Zr]; omega)))
     have hKu : PtK 4 ((Ql (fA cs) cs.length).getD 0 (0, 0)) := (hKA _ (getD_mem _ (d := (0, 0)) (by rw [Zr]; omega)))
     have hKz := cut_K (s := qv qt.1 qt.2) hKx hKu hls
     have hKM : ∀ x ∈ Ql (fA cs) cs.length ++ [(((Ql (fA cs) cs.length).getD (cs.length - 1) (0, 0)).1 + qv qt.1 qt.2 * (((Ql (fA cs) cs.length).getD 0 (0, 0)).1 - ((Ql (fA cs) cs.length).getD (cs.length - 1) (0, 0)).1), ((Ql (fA cs) cs.length).getD (cs.length - 1) (0, 0)).2 + qv qt.1 qt.2 * (((Ql (fA cs) cs.length).getD 0 (0, 0)).2 - ((Ql (fA cs) cs.length).getD (cs.length - 1) (0, 0)).2))], PtK 18 x := fun x hx => by
      rcases List.mem_append.1 hx with h | h
      · exact (hKA x h).mono dd
      · rw [List.mem_singleton.1 h]; exact hKz
     obtain ⟨hx1, hx2⟩ := hKx
     obtain ⟨hu1, hu2⟩ := hKu
     refine gC h (ze (zs (yD Za [0, 1, 2, 3, 4, 6, 5, 7, 8, 9, 10, 11, 12, 13] (Jd ⟨.inl rfl, .inl rfl, .inl rfl, .inl rfl, .inl rfl, .inl rfl, .inl rfl, .inl rfl, .inr ⟨18, 49, _, _, _, rfl, rfl, by decide, _, Jl⟩, .inr ⟨19, 49, _, _, _, rfl, rfl, by decide, _, Jl⟩, .inr ⟨20, 44, _, _, _, rfl, rfl, by decide, _, Xi⟩, .inl rfl, .inl rfl, .inl rfl, trivial⟩) (ym rfl rfl (yp rfl (.indexAddr rfl rfl (Zdx _ _ _ _ 0 (by rw [Zr]; omega))) ?_))))); clear h
     refine Zm rfl kk rfl mm (cells_lt (k := 10) dd (fun _ => rfl) (Ql (fA cs) cs.length) 0 (by rw [Zr]; omega)) isAgg49 sizeOf49 (Qb (k := 10) (fun _ => rfl) ((fun _ => rfl)) (Ql (fA cs) cs.length) (0, 0) 0 (by rw [Zr]; omega)) (.inl rfl) dd ?_
     refine ym rfl rfl (yp rfl (.indexAddr rfl rfl (Zdx _ _ _ _ 1 (by rw [Zr]; omega))) (yd rfl rfl mr isAgg25 sizeOf25 Zn ?_))
     refine Zhn [] rfl kk rfl mm (cells_lt (k := 10) dd (fun _ => rfl) (Ql (fA cs) cs.length) 1 (by rw [Zr]; omega)) isAgg49 sizeOf49 (Qb (k := 10) (fun _ => rfl) ((fun _ => rfl)) (Ql (fA cs) cs.length) (0, 0) 1 (by rw [Zr]; omega)) (.inl rfl) (fun _ ht => nomatch ht) dd ?_
     refine yv [_] rfl rfl call62 (Zyu qt.1 qt.2 oo oo oo oo) ?_
     have hl109 := Zc7 qt.1 qt.2 oo oo oo oo
     refine yz rfl Jl fun b18 => yz rfl Jl fun b19 => yz rfl Xi fun b20 => yt rfl rfl rfl Qr uu sizeOf49 rfl nb rfl ?_
     refine yt rfl rfl rfl Qr uu sizeOf49 rfl nb rfl ?_
     refine yt rfl rfl rfl Zq uu sizeOf44 rfl nb rfl ?_
     refine yn (zS (zm rfl (zm rfl ?_))); intro a w h
     refine Zh (Zkb (o := []) h rfl (GrowO.nil 10 49) rfl mm runUnderlying146 runUnderlying146 typeInfo49 sizeOf49 Jl rfl dd dd (cellsOf_length Zup _) (Qb8 _) (by rw [Zr]; show 112 * _ ≤ 281474976710656; omega) dd ?_); clear h; intro v112 o112 a w hG112 h; obtain ⟨ad112, c112, rfl⟩ := hG112.is; rw [Nat.zero_add, List.nil_append] at hG112; rw [Nat.zero_add] at h
     refine gL h (za rfl (zn (zs (yD Za [0, 1, 2, 3, 4, 5, 6, 7, 8, 9, 10, 11, 12, 13, 14, 15, 19, 20, 21, 22, 23, 24, 25, 26, 27, 28, 29, 30, 31, 32, 33, 16, 17, 18, 34, 35, 36, 37, 38, 39, 40] (Zb kk) (ym rfl rfl (ym rfl rfl (ym rfl rfl (yp rfl (.pO (cs.length - 1) (.sub rfl rfl)) (yp rfl (.indexAddr rfl rfl (Zdx _ _ _ _ _ (by rw [Zr]; omega))) (yp rfl (Pure1.cast (v' := .pointer (some ⟨B_ad1, O_ad1 + ((cs.length - 1) * 10 + 0), none⟩)) (.indexAddr rfl rfl (Xa _ _)) (by rw [Nat.add_assoc])) ?_)))))))))); clear h
     refine Zm rfl kk rfl mm (Zbr (k := 10) (enc := encPt) (fun _ => rfl) (Ql (fA cs) cs.length) (cs.length - 1) 0 (by rw [Zr]; omega) dd) isAgg44 sizeOf44 (Yf (k := 10) (enc := encPt) (fun _ => rfl) (Ql (fA cs) cs.length) (0, 0) (cs.length - 1) (by rw [Zr]; omega) true 5 0 _ dd dd rfl) (.inl rfl) dd ?_
     refine yd rfl rfl mr isAgg44 sizeOf44 Zf ?_
     refine yp rfl (.indexAddr rfl rfl (Xa _ _)) (yd rfl rfl mr isAgg44 sizeOf44 Jn ?_)
     refine ym rfl rfl (ym rfl rfl (yp rfl (.pO (cs.length - 1) (.sub rfl rfl)) (yp rfl (.indexAddr rfl rfl (Zdx _ _ _ _ _ (by rw [Zr]; omega))) (yp rfl (Pure1.cast (v' := .pointer (some ⟨B_ad1, O_ad1 + ((cs.length - 1) * 10 + 0), none⟩)) (.indexAddr rfl rfl (Xa _ _)) (by rw [Nat.add_assoc])) ?_))))
     refine Zm rfl kk rfl mm (Zbr (k := 10) (enc := encPt) (fun _ => rfl) (Ql (fA cs) cs.length) (cs.length - 1) 0 (by rw [Zr]; omega) dd) isAgg44 sizeOf44 (Yf (k := 10) (enc := encPt) (fun _ => rfl) (Ql (fA cs) cs.length) (0, 0) (cs.length - 1) (by rw [Zr]; omega) true 5 0 _ dd dd rfl) (.inl rfl) dd ?_
     refine ym rfl rfl (ym rfl rfl (yp rfl (.pO (cs.length - 1) (.sub rfl rfl)) (yp rfl (.indexAddr rfl rfl (Zdx _ _ _ _ _ (by rw [Zr]; omega))) (yp rfl (Pure1.cast (v' := .pointer (some ⟨B_ad1, O_ad1 + ((cs.length - 1) * 10 + 5), none⟩)) (.indexAddr rfl rfl (Jz _ _)) (by rw [Nat.add_assoc])) ?_))))
     refine Zm rfl kk rfl mm (Zbr (k := 10) (enc := encPt) (fun _ => rfl) (Ql (fA cs) cs.length) (cs.length - 1) 5 (by rw [Zr]; omega) dd) isAgg44 sizeOf44 (Yf (k := 10) (enc := encPt) (fun _ => rfl) (Ql (fA cs) cs.length) (0, 0) (cs.length - 1) (by rw [Zr]; omega) true 5 5 _ dd dd rfl) (.inl rfl) dd ?_
     refine yd rfl rfl mr isAgg44 sizeOf44 Zf ?_
     refine yp rfl (.indexAddr rfl rfl (Jz _ _)) (yd rfl rfl mr isAgg44 sizeOf44 Jm ?_)
     refine ym rfl rfl (ym rfl rfl (yp rfl (.pO (cs.length - 1) (.sub rfl rfl)) (yp rfl (.indexAddr rfl rfl (Zdx _ _ _ _ _ (by rw [Zr]; omega))) (yp rfl (Pure1.cast (v' := .pointer (some ⟨B_ad1, O_ad1 + ((cs.length - 1) * 10 + 5), none⟩)) (.indexAddr rfl rfl (Jz _ _)) (by rw [Nat.add_assoc])) ?_))))
     refine Zm rfl kk rfl mm (Zbr (k := 10) (enc := encPt) (fun _ => rfl) (Ql (fA cs) cs.length) (cs.length - 1) 5 (by rw [Zr]; omega) dd) isAgg44 sizeOf44 (Yf (k := 10) (enc := encPt) (fun _ => rfl) (Ql (fA cs) cs.length) (0, 0) (cs.length - 1) (by rw [Zr]; omega) true 5 5 _ dd dd rfl) (.inl rfl) dd ?_
     refine yv [_, _] rfl rfl call68 (Zb4 _ _ oo oo) ?_
     have hl129 := Qz (((Ql (fA cs) cs.length).getD 0 (0, 0)).1) (((Ql (fA cs) cs.length).getD (cs.length - 1) (0, 0)).1)
     refine yv [_, _] rfl rfl call69 (Vr _ _ oo oo) ?_
     have hl130 := Zu (qv qt.1 qt.2) ((((Ql (fA cs) cs.length).getD 0 (0, 0)).1) - (((Ql (fA cs) cs.length).getD (cs.length - 1) (0, 0)).1))
     refine yv [_, _] rfl rfl call98 (Zbl _ _ oo oo) ?_
     have hl131 := Qs (((Ql (fA cs) cs.length).getD (cs.length - 1) (0, 0)).1) ((qv qt.1 qt.2) * ((((Ql (fA cs) cs.length).getD 0 (0, 0)).1) - (((Ql (fA cs) cs.length).getD (cs.length - 1) (0, 0)).1)))
     refine yv [_, _] rfl rfl call68 (Zb4 _ _ oo oo) ?_
     have hl147 := Qz (((Ql (fA cs) cs.length).getD 0 (0, 0)).2) (((Ql (fA cs) cs.length).getD (cs.length - 1) (0, 0)).2)
     refine yv [_, _] rfl rfl call69 (Vr _ _ oo oo) ?_
     have hl148 := Zu (qv qt.1 qt.2) ((((Ql (fA cs) cs.length).getD 0 (0, 0)).2) - (((Ql (fA cs) cs.length).getD (cs.length - 1) (0, 0)).2))
     refine yv [_, _] rfl rfl call98 (Zbl _ _ oo oo) ?_
     have hl149 := Qs (((Ql (fA cs) cs.length).getD (cs.length - 1) (0, 0)).2) ((qv qt.1 qt.2) * ((((Ql (fA cs) cs.length).getD 0 (0, 0)).2) - (((Ql (fA cs) cs.length).getD (cs.length - 1) (0, 0)).2)))
     refine yp rfl (.build [(_, _), (_, _)] rfl (Zd6 _ _ _ _ _ _ _ _ _ _)) (yB rfl [(_, _)] rfl (Zco _ _ _ _ _ _ _ _ _ _) fun b151 => ?_)
     refine Zai (σr := [(b20, bV (Jf (qv qt.1 qt.2)) 44), (b19, bV (encV (((Ql (fA cs) cs.length).getD 1 (0, 0)).1) (((Ql (fA cs) cs.length).getD 1 (0, 0)).2)) 49), (b18, bV (encV (((Ql (fA cs) cs.length).getD 0 (0, 0)).1) (((Ql (fA cs) cs.length).getD 0 (0, 0)).2)) 49), (b7, bV (.agg #[.int .i64 qt.1, .int .u32 qt.2]) 25)]) rfl kk rfl rfl (List.Perm.trans (List.Perm.refl _) (List.Perm.cons _ (List.Perm.refl _))) hG112 runUnderlying146 runUnderlying146 typeInfo49 sizeOf49 Jl rfl dd dd rfl rfl dd (by show 112 * (2 * ((Ql (fA cs) cs.length).length + 1) + 192) ≤ 281474976710656; rw [Zr]; omega) dd ?_
     intro v152 o152 hG152
     obtain ⟨ad152, c152, rfl⟩ := hG152.is
     have hLn152 : (Ql (fA cs) cs.length).length + 1 = ((Ql (fA cs) cs.length) ++ [((((Ql (fA cs) cs.length).getD (cs.length - 1) (0, 0)).1) + ((qv qt.1 qt.2) * ((((Ql (fA cs) cs.length).getD 0 (0, 0)).1) - (((Ql (fA cs) cs.length).getD (cs.length - 1) (0, 0)).1))), (((Ql (fA cs) cs.length).getD (cs.length - 1) (0, 0)).2) + ((qv qt.1 qt.2) * ((((Ql (fA cs) cs.length).getD 0 (0, 0)).2) - (((Ql (fA cs) cs.length).getD (cs.length - 1) (0, 0)).2))))]).length := lA
     rw [hLn152]; rw [hLn152] at hG152
     replace hG152 : GrowO 10 49 (.slice ad152 ((Ql (fA cs) cs.length) ++ [((((Ql (fA cs) cs.length).getD (cs.length - 1) (0, 0)).1) + ((qv qt.1 qt.2) * ((((Ql (fA cs) cs.length).getD 0 (0, 0)).1) - (((Ql (fA cs) cs.length).getD (cs.length - 1) (0, 0)).1))), (((Ql (fA cs) cs.length).getD (cs.length - 1) (0, 0)).2) + ((qv qt.1 qt.2) * ((((Ql (fA cs) cs.length).getD 0 (0, 0)).2) - (((Ql (fA cs) cs.length).getD (cs.length - 1) (0, 0)).2))))]).length c152) ((Ql (fA cs) cs.length) ++ [((((Ql (fA cs) cs.length).getD (cs.length - 1) (0, 0)).1) + ((qv qt.1 qt.2) * ((((Ql (fA cs) cs.length).getD 0 (0, 0)).1) - (((Ql (fA cs) cs.length).getD (cs.length - 1) (0, 0)).1))), (((Ql (fA cs) cs.length).getD (cs.length - 1) (0, 0)).2) + ((qv qt.1 qt.2) * ((((Ql (fA cs) cs.length).getD 0 (0, 0)).2) - (((Ql (fA cs) cs.length).getD (cs.length - 1) (0, 0)).2))))]).length (cellsOf encPt ((Ql (fA cs) cs.length) ++ [((((Ql (fA cs) cs.length).getD (cs.length - 1) (0, 0)).1) + ((qv qt.1 qt.2) * ((((Ql (fA cs) cs.length).getD 0 (0, 0)).1) - (((Ql (fA cs) cs.length).getD (cs.length - 1) (0, 0)).1))), (((Ql (fA cs) cs.length).getD (cs.length - 1) (0, 0)).2) + ((qv qt.1 qt.2) * ((((Ql (fA cs) cs.length).getD 0 (0, 0)).2) - (((Ql (fA cs) cs.length).getD (cs.length - 1) (0, 0)).2))))])) o152 := by rw [Zw, Je]; exact hG152
     refine yp rfl (.assign rfl) (yn (zS (zm rfl ?_))); intro a w h
     replace h := St.shareO' h hS hG152
     refine gL h (zm rfl (zw [_, _] rfl call52 (Zbm G _ _ _ _ 3 31 4 (Ql (fA cs) cs.length) hgx dd hKA (by rw [Zr]; omega) dd dd kD) (zz Xi fun b21 => zt' rfl rfl Zq uu sizeOf44 rfl nb rfl ?_)))
     refine zn (zS (zm rfl (zd rfl mr isAgg49 sizeOf49 Ze ?_)))
     refine zd rfl mr isAgg49 sizeOf49 Ze ?_
     refine zw [_, _, _, _] rfl call16 (Zd8 G [] _ _ _ _ 3 1 31 1 4 hgx (Pq.nil 1) dd dd ((Ql (fA cs) cs.length).getD 0 (0, 0)) ((Ql (fA cs) cs.length).getD 1 (0, 0)) (hKA _ (getD_mem _ (d := (0, 0)) (by rw [Zr]; omega))) (hKA _ (getD_mem _ (d := (0, 0)) (by rw [Zr]; omega))) dd dd dd dd) (zz Xi fun b22 => zt' rfl rfl Zq uu sizeOf44 rfl nb rfl ?_)
     refine zn (zs (zS (za rfl (zn (zb ?_))))); intro a w h
     refine Zg (fun (k : Nat) a w => k ≤ (cs.length - 1) ∧ St 211 S w0 [(1, .slice ad9 cs.length c9), (2, nI f), (7, pB b7), (8, .bool false), (9, .slice ad34 ((G).length) c34), (10, nI cs.length), (13, .slice (some ⟨B_ad1, O_ad1, none⟩) ((Ql (fA cs) cs.length).length) c1), (14, .slice ad2 ((Ql (fun i => fA cs ((f + i) % cs.length)) cs.length).length) c2), (15, .slice ad3 ((Ql (fun i => fA cs (cs.length - 1 - i)) cs.length).length) c3), (16, .slice ad152 ((Ql (fA cs) cs.length ++ [(((Ql (fA cs) cs.length).getD (cs.length - 1) (0, 0)).1 + qv qt.1 qt.2 * (((Ql (fA cs) cs.length).getD 0 (0, 0)).1 - ((Ql (fA cs) cs.length).getD (cs.length - 1) (0, 0)).1), ((Ql (fA cs) cs.length).getD (cs.length - 1) (0, 0)).2 + qv qt.1 qt.2 * (((Ql (fA cs) cs.length).getD 0 (0, 0)).2 - ((Ql (fA cs) cs.length).getD (cs.length - 1) (0, 0)).2))]).length) c152), (17, nI cs.length), (21, pB b21), (22, pB b22), (23, nI (k + 1))] [(b22, bV (Jf (flG G (Ql (fA cs) cs.length) k)) 44), (b21, bV (Jf (Ks G (Ql (fA cs) cs.length))) 44), (b20, bV (Jf (qv qt.1 qt.2)) 44), (b19, bV (encV (((Ql (fA cs) cs.length).getD 1 (0, 0)).1) (((Ql (fA cs) cs.length).getD 1 (0, 0)).2)) 49), (b18, bV (encV (((Ql (fA cs) cs.length).getD 0 (0, 0)).1) (((Ql (fA cs) cs.length).getD 0 (0, 0)).2)) 49), (b7, bV (.agg #[.int .i64 qt.1, .int .u32 qt.2]) 25)] [Row ad152 (cellsOf encPt (Ql (fA cs) cs.length ++ [(((Ql (fA cs) cs.length).getD (cs.length - 1) (0, 0)).1 + qv qt.1 qt.2 * (((Ql (fA cs) cs.length).getD 0 (0, 0)).1 - ((Ql (fA cs) cs.length).getD (cs.length - 1) (0, 0)).1), ((Ql (fA cs) cs.length).getD (cs.length - 1) (0, 0)).2 + qv qt.1 qt.2 * (((Ql (fA cs) cs.length).getD 0 (0, 0)).2 - ((Ql (fA cs) cs.length).getD (cs.length - 1) (0, 0)).2))])), Row ad3 (cellsOf encPt (Ql (fun i => fA cs (cs.length - 1 - i)) cs.length)), Row ad2 (cellsOf encPt (Ql (fun i => fA cs ((f + i) % cs.length)) cs.length)), Row (some ⟨B_ad1, O_ad1, none⟩) (cellsOf encPt (Ql (fA cs) cs.length)), Row ad34 (cellsOf Qn (G)), Row none (cellsOf Qn []), Row ad (cellsOf Gm l), Row ad9 (cellsOf Zak cs)] a w) (fun k => (cs.length - 1) - k) 0 (⟨Nat.zero_le _, by exact (h).sub sA⟩) ?_; clear h
     rintro k a w ⟨hi_k, h⟩
     refine gC h (zs (zS (zm rfl (zm rfl (zp (.lss rfl rfl) (zn ?_)))))); clear h; intro a w h
     refine cW ?_
     refine Zc h rfl (fun hc162 => ?_) (fun hc162 => ?_)
     ·
      skip
      have hlt_k : k < (cs.length - 1) := dT hc162
      have hfg := Zr7 hgx dd hKA dd (show SG 3 31 4 + SG 1 1 4 + 4 * 4 + 3 ≤ 1000000 by decide +kernel) (by rw [Zr]; omega) k (by rw [Zr]; omega)
      have hfk := Nat.mul_le_mul_right (1000000 + 1) (show k ≤ 7 by omega)
      have hfl := Km hgx (Pq.nil 1) dd dd (hKA _ (getD_mem _ (d := (0, 0)) (by rw [Zr]; exact (show k + 1 < cs.length by omega)))) (hKA _ (getD_mem _ (d := (0, 0)) (show (k + 2) % (Ql (fA cs) cs.length).length < (Ql (fA cs) cs.length).length from Nat.mod_lt _ (by rw [Zr]; omega)))) dd (show SG 3 31 4 + SG 1 1 4 + 4 * 4 + 3 ≤ 1000000 by decide +kernel)
      refine gC h (zk (zs (zb (yD Za [0, 1, 2, 3, 4, 5, 6, 7, 8, 9, 10, 11, 12, 13, 14, 15] (Zb kk) (yd rfl rfl mr isAgg44 sizeOf44 Zf ?_))))); clear h
      refine ym rfl rfl (ym rfl rfl (ym rfl rfl (yp rfl (.indexAddr rfl rfl (Zdx _ _ _ _ _ (by rw [Zr]; omega))) ?_)))
      refine Zm rfl kk rfl mm (cells_lt (k := 10) dd (fun _ => rfl) (Ql (fA cs) cs.length) (k + 1) (by rw [Zr]; omega)) isAgg49 sizeOf49 (Qb (k := 10) (fun _ => rfl) ((fun _ => rfl)) (Ql (fA cs) cs.length) (0, 0) (k + 1) (by rw [Zr]; omega)) (.inl rfl) dd ?_
      refine ym rfl rfl (ym rfl rfl (yp rfl (.pN (k + 2) (Pure1.cast (v' := (.int .i64 (((k + 1) + 1 : Nat) : Int))) (.add rfl rfl) (by show Value.int _ _ = Value.int _ _; congr 1))) (ym rfl rfl (yp rfl (Pure1.cast (v' := .int .i64 (((k + 2) % (Ql (fA cs) cs.length).length : Nat) : Int)) (.binOp rfl rfl (fun _ => Ye _ _ _ _ _ oo)) (by rw [Xl, Zr])) (yp rfl (.indexAddr rfl rfl (Zdx _ _ _ _ _ (by exact Nat.mod_lt _ (by rw [Zr]; omega)))) ?_)))))
      refine Zm rfl kk rfl mm (cells_lt (k := 10) dd (fun _ => rfl) (Ql (fA cs) cs.length) ((k + 2) % (Ql (fA cs) cs.length).length) (by exact Nat.mod_lt _ (by rw [Zr]; omega))) isAgg49 sizeOf49 (Qb (k := 10) (fun _ => rfl) ((fun _ => rfl)) (Ql (fA cs) cs.length) (0, 0) ((k + 2) % (Ql (fA cs) cs.length).length) (by exact Nat.mod_lt _ (by rw [Zr]; omega))) (.inl rfl) dd ?_
      refine yw [_, _, _, _] rfl rfl call16 (Zd8 G [] _ _ _ _ 3 1 31 1 4 hgx (Pq.nil 1) dd dd ((Ql (fA cs) cs.length).getD (k + 1) (0, 0)) ((Ql (fA cs) cs.length).getD ((k + 2) % (Ql (fA cs) cs.length).length) (0, 0)) (hKA _ (getD_mem _ (d := (0, 0)) (by rw [Zr]; omega))) (hKA _ (getD_mem _ (d := (0, 0)) (Nat.mod_lt _ (by rw [Zr]; omega)))) dd dd dd dd) (yv [_, _] rfl rfl call98 (Zbl _ _ oo oo) ?_)
      have hl179 := Qs (flG G (Ql (fA cs) cs.length) k) (Jq G [] ((Ql (fA cs) cs.length).getD (k + 1) (0, 0)) ((Ql (fA cs) cs.length).getD ((k + 2) % (Ql (fA cs) cs.length).length) (0, 0)))
      refine yt rfl rfl rfl Zq uu sizeOf44 rfl nb rfl ?_
      refine yn (zr (zm rfl (zp (.pN ((k + 1) + 1) (.add rfl rfl)) (za rfl (zn ?_))))); intro a w h
      exact ⟨k + 1, ⟨oo, h.sub sA⟩, oo⟩
     ·
      skip
      have heq_k : (cs.length - 1) = k := dF hc162
      rw [← heq_k] at h
      refine gC h (ze (zs (yD Za [0, 1, 3, 2, 4, 5, 6, 7, 9, 8, 10, 11, 12, 13, 14, 15, 17, 16, 18, 19, 20, 21, 23, 25, 22, 24, 26, 27, 28, 29, 30, 31] (Zb kk) (ym rfl rfl (ym rfl rfl (yd rfl rfl mr isAgg44 sizeOf44 Zf ?_)))))); clear h
      refine yw [_, _] rfl rfl call52 (Zbm G _ _ _ _ 3 31 4 (Ql (fun i => fA cs ((f + i) % cs.length)) cs.length) hgx dd hKB (by rw [Zr]; omega) dd dd kD) (yp rfl (.binOp rfl rfl (fun _ => Za9 _ _ (Ks G (Ql (fun i => fA cs ((f + i) % cs.length)) cs.length)) (Ks G (Ql (fA cs) cs.length)) _)) ?_)
      refine Zs (fun hc184  => ?_) (fun hc184  => (by exfalso; exact Qbg (Ztu G (fA cs) cs.length f hfn) hc184))
      refine ym rfl rfl (yq rfl rfl rfl (.move rfl) (yq rfl rfl rfl (.move rfl) (yg rfl rfl rfl rfl mr isAgg44 sizeOf44 Zf ?_)))
      refine Qf rfl rfl rfl kk (vs := [_, _]) rfl call52 (Zbm G _ _ _ _ 3 31 4 (Ql (fun i => fA cs (cs.length - 1 - i)) cs.length) hgx dd hKC (by rw [Zr]; omega) dd dd kD) ss dd ?_
      refine Qd rfl rfl rfl kk (vs := [_]) rfl call99 (Zol _) dd ?_
      have hl190 := Zby (Ks G (Ql (fA cs) cs.length))
      refine yq rfl rfl rfl (.binOp rfl rfl (fun _ => Za9 _ _ (Ks G (Ql (fun i => fA cs (cs.length - 1 - i)) cs.length)) (-(Ks G (Ql (fA cs) cs.length))) _)) ?_
      refine Zs (fun hc191  => ?_) (fun hc191  => (by exfalso; exact Qbg (Ztx G (fA cs) cs.length) hc191))
      refine yp rfl (.pickT rfl rfl) (ym rfl rfl (yq rfl rfl rfl (.move rfl) (yq rfl rfl rfl (.move rfl) (yg rfl rfl rfl rfl mr isAgg44 sizeOf44 Zf ?_))))
      refine Qf rfl rfl rfl kk (vs := [_, _]) rfl call52 (Zbm G _ _ _ _ 3 31 18 (Ql (fA cs) cs.length ++ [(((Ql (fA cs) cs.length).getD (cs.length - 1) (0, 0)).1 + qv qt.1 qt.2 * (((Ql (fA cs) cs.length).getD 0 (0, 0)).1 - ((Ql (fA cs) cs.length).getD (cs.length - 1) (0, 0)).1), ((Ql (fA cs) cs.length).getD (cs.length - 1) (0, 0)).2 + qv qt.1 qt.2 * (((Ql (fA cs) cs.length).getD 0 (0, 0)).2 - ((Ql (fA cs) cs.length).getD (cs.length - 1) (0, 0)).2))]) hgx dd hKM (by rw [List.length_append, Zr, List.length_singleton]; omega) dd dd kD) ss dd ?_
      refine yq rfl rfl rfl (.binOp rfl rfl (fun _ => Za9 _ _ (Ks G (Ql (fA cs) cs.length ++ [(((Ql (fA cs) cs.length).getD (cs.length - 1) (0, 0)).1 + qv qt.1 qt.2 * (((Ql (fA cs) cs.length).getD 0 (0, 0)).1 - ((Ql (fA cs) cs.length).getD (cs.length - 1) (0, 0)).1), ((Ql (fA cs) cs.length).getD (cs.length - 1) (0, 0)).2 + qv qt.1 qt.2 * (((Ql (fA cs) cs.length).getD 0 (0, 0)).2 - ((Ql (fA cs) cs.length).getD (cs.length - 1) (0, 0)).2))])) (Ks G (Ql (fA cs) cs.length)) _)) ?_
      refine Zs (fun hc198  => ?_) (fun hc198  => (by exfalso; exact Qbg (by have h9 := Ztv G (Ql (fA cs) cs.length) (by rw [Zr]; omega) (qv qt.1 qt.2); rw [Zr] at h9; exact h9) hc198))
      refine yp rfl (.pickT rfl rfl) (ym rfl rfl (yq rfl rfl rfl (.move rfl) (yq rfl rfl rfl (.move rfl) (yg rfl rfl rfl rfl mr isAgg44 sizeOf44 Zf ?_))))
      refine Xx rfl rfl rfl kk (vs := [_]) rfl call76 (Qfp G _ _ 3 31 hgx dd dd) ss dd ?_; rintro v202 Ψ202 ⟨ad202, c202, rfl, rfl⟩
      refine Qf rfl rfl rfl kk (vs := [_, _]) rfl call52 (Zbm (norm (dxL G)) _ _ _ _ 3 32 4 (Ql (fA cs) cs.length) (hgx.dx dd) dd hKA (by rw [Zr]; omega) dd dd kD) ss dd ?_
      refine yq rfl rfl rfl (.binOp rfl rfl (fun _ => Za9 _ _ (Ks (norm (dxL G)) (Ql (fA cs) cs.length)) (flG G (Ql (fA cs) cs.length) (cs.length - 1)) _)) ?_
      refine Zs (fun hc206  => ?_) (fun hc206  => (by exfalso; exact Qbg (by have h9 := Ztw G (Ql (fA cs) cs.length) (by rw [Zr]; omega); rw [Zr] at h9; exact h9) hc206))
      refine yp rfl (.pickT rfl rfl) (ym rfl rfl ?_)
      refine Qd rfl rfl rfl kk (vs := []) rfl call7 (Ja) dd ?_
      refine yp rfl (.pickT rfl rfl) (yp rfl (.assign rfl) (yn (zt ?_))); intro a w h
      exact Zao h
end
section
theorem cv_3_5 (x : Int) (w : World) : (Go.convert 3 5 (.int .i64 x)).run Tryz.prog w = .ok (.int .u8 (IntKind.u8.wrap x)) w := by
 simp [go_sem]
theorem Zxu (x : Int) (h0 : IntKind.u8.wrap x = x) (w : World) : (Go.convert 3 5 (.int .i64 x)).run Tryz.prog w = .ok (.int .u8 x) w := by
 rw [cv_3_5, h0]
theorem Qcc : ∀ (n i : Nat), (dg n).getD i 0 = n / 10000 ^ i % 10000 := by
 intro n
 induction n using Nat.strongRecOn with
 | _ n ih =>
  intro i
  by_cases h : n = 0
  · subst h; rw [Jk]; simp
  ·
   rw [Zjb h]
   cases i with
   | zero => simp
   | succ i => rw [List.getD_cons_succ, ih (n / 10000) oo, Nat.div_div_eq_div_mul, Nat.pow_succ, Nat.mul_comm]
theorem Zia (n : Nat) : n < 10000 ^ (dg n).length := by have := Zcu (Dd.dg n); rwa [Yd] at this
def rS (n i : Nat) : ByteArray := if i = (dg n).length then dB n else Zzb n (4 * i)
theorem Zra (n i k : Nat) (hk : k < 4) : (dg n).getD i 0 / 10 ^ k % 10 = n / 10 ^ (4 * i + k) % 10 := by
 have h1 : (dg n).getD i 0 = n / 10 ^ (4 * i) % 10000 := by rw [Qcc, show 10000 ^ i = 10 ^ (4 * i) from by rw [Nat.pow_mul]]
 have e : n / 10 ^ (4 * i + k) = n / 10 ^ (4 * i) / 10 ^ k := by rw [Nat.div_div_eq_div_mul, ← Nat.pow_add]
 rw [h1, e]
 generalize n / 10 ^ (4 * i) = m
 match k, hk with
 | 0, _ => simp only [Nat.pow_zero, Nat.div_one]; omega
 | 1, _ => simp only [Nat.pow_one]; omega
 | 2, _ => rw [show (10 : Nat) ^ 2 = 100 from rfl]; omega
 | 3, _ => rw [show (10 : Nat) ^ 3 = 1000 from rfl]; omega
theorem Qb1 {n i k : Nat} (hi : i < (dg n).length) (hk : k ≤ 4) (hp : i + 1 = (dg n).length → k = 0 ∨ 0 < (dg n).getD i 0 / 10 ^ (k - 1))
  (he : 4 ≤ k ∨ ((dg n).length ≤ i + 1 ∧ (dg n).getD i 0 / 10 ^ k = 0)) : Zzb n (4 * i + k) = rS n (i + 1) := by
 by_cases hl : i + 1 = (dg n).length
 ·
  rw [rS, if_pos hl]
  have hb := Zia n
  rw [← hl, show (10000 : Nat) = 10 ^ 4 from rfl, ← Nat.pow_mul] at hb
  have hd : (dg n).getD i 0 = n / 10 ^ (4 * i) := by
   rw [Qcc, show (10000 : Nat) = 10 ^ 4 from rfl, ← Nat.pow_mul]
   refine Nat.mod_eq_of_lt ((Nat.div_lt_iff_lt_mul (Nat.pow_pos dd)).2 ?_)
   rw [← Nat.pow_add, show 4 + 4 * i = 4 * (i + 1) by omega]; exact hb
  have hne : (dg n).getD i 0 ≠ 0 := by
   have hne' : dg n ≠ [] := fun e => by rw [e] at hi; cases hi
   have h1 := Zlu n hne'
   rw [List.getLast_eq_getElem] at h1
   rw [List.getD_eq_getElem?_getD, List.getElem?_eq_getElem hi]
   simpa [show (dg n).length - 1 = i by omega] using h1
  have hdl : (dg n).getD i 0 < 10000 := (Dd.dg n).getD i
  have hz : (dg n).getD i 0 / 10 ^ k = 0 := by
   rcases he with he | he
   · rw [show k = 4 by omega]; exact Nat.div_eq_of_lt hdl
   · exact he.2
  have hk0 : k ≠ 0 := by intro e; subst e; rw [Nat.pow_zero, Nat.div_one] at hz; exact hne hz
  obtain ⟨k', rfl⟩ : ∃ k', k = k' + 1 := ⟨k - 1, oo⟩
  have hp' := (hp hl).resolve_left hk0
  rw [Nat.add_sub_cancel, hd, Nat.div_div_eq_div_mul, ← Nat.pow_add] at hp'
  rw [hd, Nat.div_div_eq_div_mul, ← Nat.pow_add] at hz
  have hlo : 10 ^ (4 * i + k') ≤ n := by
   rcases Nat.lt_or_ge n (10 ^ (4 * i + k')) with h | h
   · rw [Nat.div_eq_of_lt h] at hp'; omega
   · exact h
  have hhi : n < 10 ^ (4 * i + k' + 1) := by
   rcases Nat.lt_or_ge n (10 ^ (4 * i + (k' + 1))) with h | h
   · exact h
   · have := Nat.div_pos h (Nat.pow_pos dd); omega
  unfold Zzb dB
  rw [Zf6, Lib.nDigits_unique _ _ hlo hhi]
  rfl
 ·
  rw [rS, if_neg hl, show k = 4 by rcases he with he | he <;> omega]
  rfl
theorem Qek : dB 0 = ⟨#[48]⟩ := by unfold dB; rw [Lib.decDigits_one dd]; rfl
theorem Zlx (n : Nat) : (dB n).size ≤ 4 * (dg n).length + 1 := by
 rw [Zjd]
 refine Zci (Nat.lt_of_lt_of_le (Zia n) ?_)
 rw [show (10000 : Nat) = 10 ^ 4 from rfl, ← Nat.pow_mul, Nat.pow_succ]
 have := Nat.pow_pos (n := 4 * (dg n).length) (show 0 < 10 by decide)
 omega
theorem Zxt (x : Nat) (hx : x < 128) (w : World) : (Go.convert 5 9 (.int .u8 (x : Int))).run Tryz.prog w = .ok (.string ⟨#[UInt8.ofNat x]⟩) w := by
 have h : ∀ x, x < 128 → Utf8.encode ((x : Nat) : Int) = ⟨#[UInt8.ofNat x]⟩ := by decide +kernel
 rw [run_convert_int_string w _ _ _ _ (by rw [underlying5]; rfl) underlying9, h x hx]
theorem Zma (ad : Option Addr) (c n : Nat) (hn : (dg n).length ≤ 300000000000) : Zae Tryz.prog 122 [.slice ad (dg n).length c] [Row ad (List.map Zo (dg n))] (.string (dB n)) := by
 refine fn_intro func122 rfl ntmps122 nb ?_
 intro S w0 a hS h
 refine gC h (zS (za rfl (zn (zs (zS (zm rfl (zp (.builtin [_] rfl (Qc _ _ _)) (zp (.eql rfl rfl) (zn ?_))))))))); clear h; intro a w h
 refine cW ?_
 refine Zc h rfl (fun hc9 => ?_) (fun hc9 => ?_)
 ·
  skip
  have hz : (dg n).length = 0 := Zro hc9
  refine gC h (zS (za rfl (zn (zt ?_)))); clear h; intro a w h
  refine Jp h (Zd h rfl (.tmp rfl)) ?_
  rw [show n = 0 from by have := Zia n; rw [hz] at this; simpa using this, Qek]
 ·
  skip
  have hz : (dg n).length ≠ 0 := Zrn hc9
  refine gC h (zk (zS (za rfl (zn (zs (zS (za rfl (zn (zb ?_))))))))); clear h; intro a w h
  refine Zg (fun (i : Nat) a w => i ≤ (dg n).length ∧ St 45 S w0 [(0, .slice ad ((dg n).length) c), (2, .string (⟨#[]⟩)), (3, .string (rS n i)), (4, nI i)] [] [Row ad (List.map Zo (dg n))] a w) (fun i => (dg n).length - i) 0 (⟨Nat.zero_le _, by rw [show rS n 0 = ⟨#[]⟩ from if_neg oo]; exact (h).sub sA⟩) ?_; clear h
  rintro i a w ⟨hi_i, h⟩
  refine gC h (zs (zS (zm rfl (zm rfl (zp (.builtin [_] rfl (Qc _ _ _)) (zp (.lss rfl rfl) (zn ?_))))))); clear h; intro a w h
  refine cW ?_
  refine Zc h rfl (fun hc13 => ?_) (fun hc13 => ?_)
  ·
   skip
   have hlt_i : i < (dg n).length := dT hc13
   obtain ⟨B_ad, O_ad, rfl⟩ := h.row_addr (ad := ad) (M := List.map Zo (dg n)) mm nF
   rw [show rS n i = Zzb n (4 * i) from if_neg oo] at h
   refine gC h (zk (zs (zb (zS (zm rfl (zm rfl (zp (.indexAddr rfl rfl (Zdw _ _ _ _ _ oo)) (zD rfl mm (by rw [List.length_map]; omega) isAgg3 sizeOf3 (Zx (enc := Zo) (l := (dg n)) 0 oo) (.inr rfl) ?_))))))))
   refine za rfl (zn (zS (za rfl (zn (zb ?_))))); intro a w h
   rw [show ((dg n).getD i 0) = ((dg n).getD i 0) / 10 ^ 0 by rw [Nat.pow_zero, Nat.div_one]] at h
   refine Zg (fun (k : Nat) a w => (k ≤ 4 ∧ (i + 1 = (dg n).length → k = 0 ∨ 0 < ((dg n).getD i 0) / 10 ^ (k - 1))) ∧ St 45 S w0 [(0, .slice (some ⟨B_ad, O_ad, none⟩) ((dg n).length) c), (2, .string (⟨#[]⟩)), (3, .string (Zzb n (4 * i + k))), (4, nI i), (5, nI (((dg n).getD i 0) / 10 ^ k)), (6, nI k)] [] [Row (some ⟨B_ad, O_ad, none⟩) (List.map Zo (dg n))] a w) (fun k => 4 - k) (0) (⟨⟨oo, fun _ => .inl rfl⟩, by exact h.sub sA⟩) ?_; clear h
   rintro k a w ⟨⟨hk, hp⟩, h⟩
   have hsz := Zm6 n (4 * i + k)
   have hdl : ((dg n).getD i 0) < 10000 := (Dd.dg n).getD i
   have hdk : ((dg n).getD i 0) / 10 ^ k ≤ ((dg n).getD i 0) := Nat.div_le_self _ _
   have hd0 : (0 : Int) ≤ ((((dg n).getD i 0) / 10 ^ k : Nat) : Int) := Int.natCast_nonneg _
   refine gC h (zs (zS (zm rfl (zp (.lss rfl rfl) (zm rfl ?_))))); clear h; intro a w h
   refine Zl h (fun hc22 h => ?_) (fun hc22 h => ?_)
   ·
    skip
    have hk4 : k < 4 := dT hc22
    refine gL h (zq 22 rfl rfl (.move rfl) (zq 22 rfl rfl (.pN (i + 1) (.add rfl rfl)) (zq 22 rfl rfl (.move rfl) (zq 22 rfl rfl (.builtin [_] rfl (Qc _ _ _)) (zq 22 rfl rfl (.lss rfl rfl) (zq 22 rfl rfl (.move rfl) ?_)))))); clear h; intro a w h
    refine Zl h (fun hc28 h => ?_) (fun hc28 h => ?_)
    ·
     skip
     have hmore : i + 1 < (dg n).length := dT hc28
     refine gL h (zo 28 rfl rfl rfl (zo 28 rfl rfl rfl (zq 22 rfl rfl (.pickT rfl rfl) (zp (.pickT rfl rfl) (zn ?_))))); clear h; intro a w h
     refine cW ?_
     refine Zp h rfl ?_
     refine gC h (zk (zs (zb (zS (zm rfl (zp (Pure1.cast (v' := .int .i64 ((n / 10 ^ (4 * i + k) % 10 : Nat) : Int)) (.binOp rfl rfl (fun _ => Ye _ _ _ _ _ dd)) (by rw [show (10 : Int) = ((10 : Nat) : Int) from rfl, Xl, Zra n i k hk4])) (zp (.pN (48 + n / 10 ^ (4 * i + k) % 10) (Pure1.cast (v' := (.int .i64 ((48 + (n / 10 ^ (4 * i + k) % 10) : Nat) : Int))) (.add rfl rfl) (by show Value.int _ _ = Value.int _ _; congr 1))) (zp (.convert rfl (Zxu _ (wrap_u8 _ oo oo))) (zp (.convert rfl (Zxt _ oo)) (zm rfl (zp (.binOp rfl rfl (fun _ => Kn _ _ _ _ _ (by rw [hsz, Zkx]; omega))) (za rfl (zn (zr (zm rfl (zp (Pure1.cast (v' := .int .i64 ((((dg n).getD i 0) / 10 ^ (k + 1) : Nat) : Int)) (.binOp rfl rfl (fun _ => Ys _ _ _ _ _ dd)) (by rw [show (10 : Int) = ((10 : Nat) : Int) from rfl, Xp, wrap_i64 _ oo oo, Nat.div_div_eq_div_mul, ← Nat.pow_succ])) (za rfl (zn (zr (zm rfl (zp (.pN (k + 1) (.add rfl rfl)) (za rfl (zn ?_))))))))))))))))))))))); clear h; intro a w h
     rw [Zm7] at h
     exact ⟨k + 1, ⟨⟨oo, fun _ => .inr (by first | assumption | omega)⟩, by exact h.sub sA⟩, oo⟩
    ·
     skip
     have hlast : (dg n).length ≤ i + 1 := dF hc28
     refine gL h (zq 28 rfl rfl (.move rfl) (zq 28 rfl rfl (.gtr rfl rfl) (zq 22 rfl rfl (.pickF rfl rfl) (zp (.pickT rfl rfl) (zn ?_))))); clear h; intro a w h
     refine cW ?_
     refine Zc h rfl (fun hc32 => ?_) (fun hc32 => ?_)
     ·
      skip
      have hpos : 0 < ((dg n).getD i 0) / 10 ^ k := dT hc32
      refine gC h (zk (zs (zb (zS (zm rfl (zp (Pure1.cast (v' := .int .i64 ((n / 10 ^ (4 * i + k) % 10 : Nat) : Int)) (.binOp rfl rfl (fun _ => Ye _ _ _ _ _ dd)) (by rw [show (10 : Int) = ((10 : Nat) : Int) from rfl, Xl, Zra n i k hk4])) (zp (.pN (48 + n / 10 ^ (4 * i + k) % 10) (Pure1.cast (v' := (.int .i64 ((48 + (n / 10 ^ (4 * i + k) % 10) : Nat) : Int))) (.add rfl rfl) (by show Value.int _ _ = Value.int _ _; congr 1))) (zp (.convert rfl (Zxu _ (wrap_u8 _ oo oo))) (zp (.convert rfl (Zxt _ oo)) (zm rfl (zp (.binOp rfl rfl (fun _ => Kn _ _ _ _ _ (by rw [hsz, Zkx]; omega))) (za rfl (zn (zr (zm rfl (zp (Pure1.cast (v' := .int .i64 ((((dg n).getD i 0) / 10 ^ (k + 1) : Nat) : Int)) (.binOp rfl rfl (fun _ => Ys _ _ _ _ _ dd)) (by rw [show (10 : Int) = ((10 : Nat) : Int) from rfl, Xp, wrap_i64 _ oo oo, Nat.div_div_eq_div_mul, ← Nat.pow_succ])) (za rfl (zn (zr (zm rfl (zp (.pN (k + 1) (.add rfl rfl)) (za rfl (zn ?_))))))))))))))))))))))); clear h; intro a w h
      rw [Zm7] at h
      exact ⟨k + 1, ⟨⟨oo, fun _ => .inr (by first | assumption | omega)⟩, by exact h.sub sA⟩, oo⟩
     ·
      skip
      have hex : 4 ≤ k ∨ ((dg n).length ≤ i + 1 ∧ ((dg n).getD i 0) / 10 ^ k = 0) := .inr ⟨hlast, by have := of_decide_eq_false hc32; omega⟩
      refine gC h (ze (zr (zm rfl (zp (.pN (i + 1) (.add rfl rfl)) (za rfl (zn ?_)))))); clear h; intro a w h
      rw [Qb1 hlt_i hk hp hex] at h
      exact ⟨i + 1, ⟨oo, (h.factsSub (by simp)).sub sA⟩, oo⟩
   ·
    skip
    have hex : 4 ≤ k ∨ ((dg n).length ≤ i + 1 ∧ ((dg n).getD i 0) / 10 ^ k = 0) := .inl (dF hc22)
    refine gL h (zo 22 rfl rfl rfl (zo 22 rfl rfl rfl (zo 22 rfl rfl rfl (zo 22 rfl rfl rfl (zo 22 rfl rfl rfl (zo 22 rfl rfl rfl (zu 28 rfl rfl (zu 28 rfl rfl (zo 22 rfl rfl rfl (zp (.pickF rfl rfl) (zn ?_))))))))))); clear h; intro a w h
    refine cW ?_
    refine Zk h rfl ?_
    refine gC h (ze (zr (zm rfl (zp (.pN (i + 1) (.add rfl rfl)) (za rfl (zn ?_)))))); clear h; intro a w h
    rw [Qb1 hlt_i hk hp hex] at h
    exact ⟨i + 1, ⟨oo, (h.factsSub (by simp)).sub sA⟩, oo⟩
  ·
   skip
   have heq_i : (dg n).length = i := dF hc13
   subst heq_i
   refine gC h (ze (zS (zm rfl (za rfl (zn (zt ?_)))))); clear h; intro a w h
   refine Jp h (Zd h rfl (.tmp rfl)) ?_
   exact congrArg _ (if_pos rfl)
theorem Zs9 (ad : Option Addr) (c : Nat) (z : Int) (hn : (dg z.natAbs).length ≤ 300000000000) : Zae Tryz.prog 121 [zV z ad c] [Row ad (List.map Zo (dg z.natAbs))] (.string (Zza z)) := by
 refine fn_intro func121 rfl ntmps121 nb ?_
 intro S w0 a hS h
 refine gC h (zS (zx rfl fun b1 => za rfl (zn (zs (zS (zp (.fA rfl Zap) (zd rfl mr isAgg4 sizeOf4 Xy ?_))))))); clear h; intro a w h
 refine wpList_nil ?_
 refine cW ?_
 refine Zc h rfl (fun hc4 => ?_) (fun hc4 => ?_)
 ·
  skip
  have hz : z < 0 := of_decide_eq_true hc4
  refine gC h (zS (zp (.fA rfl Vx) (zd rfl mr isAgg52 sizeOf52 Xn ?_)))
  refine zw [_] rfl call122 (Zma _ _ z.natAbs oo) (zp (.binOp rfl rfl (fun _ => Kn _ _ _ _ _ (by have := Zlx z.natAbs; rw [Zkx]; omega))) (za rfl (zn (zt ?_)))); intro a w h
  refine Jp h (Zd h rfl (.tmp rfl)) ?_
  exact congrArg _ (if_pos hz).symm
 ·
  skip
  have hz : ¬ z < 0 := of_decide_eq_false hc4
  refine gC h (zk (zS (zp (.fA rfl Vx) (zd rfl mr isAgg52 sizeOf52 Xn ?_))))
  refine zw [_] rfl call122 (Zma _ _ z.natAbs oo) (za rfl (zn (zt ?_))); intro a w h
  refine Jp h (Zd h rfl (.tmp rfl)) ?_
  exact congrArg _ (if_neg hz).symm
theorem Qei {n : Nat} (h : (dg n).length = 0) : n = 0 := by have := Zia n; rw [h] at this; simpa using this
theorem Ztk (z : Int) : (Zza z).size ≤ 4 * (dg z.natAbs).length + 2 := by
 unfold Zza; have h1 := Zlx z.natAbs; have h2 := Zkx 45
 split
 · rw [ByteArray.size_append]; omega
 · omega
theorem Qbl (a1 a2 : Option Addr) (c1 c2 : Nat) (x : Rat) (hx : Qa x ≤ 100000000000) : Zae Tryz.prog 56 [fV x a1 c1 a2 c2] [Row a1 (List.map Zo (dg x.num.natAbs)), Row a2 (List.map Zo (dg (x.den - 1)))] (.string (txtQ x)) := by
 obtain ⟨hq1, hq2, hq3⟩ := dgQ hx
 have hs1 := Ztk x.num
 have hs2 := Zlx x.den
 have hs3 := Zkx 47
 refine fn_intro func56 rfl ntmps56 nb ?_
 intro S w0 a hS h
 refine gC h (zS (zx rfl fun b1 => za rfl (zn (zs (zS (zp (.fA rfl Zp1) (zd rfl mr isAgg52 sizeOf52 Zbs ?_)))))))
 refine zp (.builtin [_] rfl (Qc _ _ _)) (zp (.eql rfl rfl) (zn ?_)); intro a w h
 refine cW ?_
 refine Zc h rfl (fun hc6 => ?_) (fun hc6 => ?_)
 ·
  skip
  have hd : x.den = 1 := by have := Qei (Zro hc6); have := x.den_pos; omega
  refine gC h (zS (zp (.fA rfl Zb9) (zd rfl mr isAgg54 sizeOf54 Xc ?_)))
  refine zw [_] rfl call121 (Zs9 _ _ x.num oo) (za rfl (zn (zt ?_))); intro a w h
  refine Jp h (Zd h rfl (.tmp rfl)) ?_
  exact congrArg _ (if_pos hd).symm
 ·
  skip
  have hd : ¬ x.den = 1 := fun e => Zrn hc6 (by rw [e]; show (dg 0).length = 0; rw [Jk]; rfl)
  refine gC h (zk (zs (yD Za [0, 1, 4, 2, 3, 5, 6, 7, 8] (Zb kk) (yp rfl (.fA rfl Zb9) (yd rfl rfl mr isAgg54 sizeOf54 Xc ?_))))); clear h
  refine yd rfl rfl mr isAgg56 sizeOf56 Zi ?_
  refine yw [_] rfl rfl call121 (Zs9 _ _ x.num oo) (yp rfl (.binOp rfl rfl (fun _ => Kn _ _ _ _ _ oo)) (yf [_] rfl rfl call123 (Zjr _ _ _ _ x oo) ?_)); rintro v15 Ψ15 ⟨ad15, c15, rfl, hle15, rfl⟩
  refine yw [_] rfl rfl call122 (Zma _ _ x.den oo) (yp rfl (.binOp rfl rfl (fun _ => Kn _ _ _ _ _ (by rw [ByteArray.size_append]; omega))) (yp rfl (.assign rfl) (yn (zt ?_)))); intro a w h
  refine Jp h (Zd h rfl (.tmp rfl)) ?_
  exact congrArg _ (if_neg hd).symm
end
section
theorem Zg2 (a1 a2 : Option Addr) (c1 c2 : Nat) (x y : Rat) (hx : Qa x ≤ 300000) (e : y = x) : Zae Tryz.prog 10 [Jf x, fV y a1 c1 a2 c2] [TabF, Row a1 (List.map Zo (dg y.num.natAbs)), Row a2 (List.map Zo (dg (y.den - 1)))] (.bool true) := by
 subst e
 refine fn_intro func10 rfl ntmps10 nb ?_
 intro S w0 a hS h
 refine gC h (zS (zx rfl fun b2 => zx rfl fun b3 => za rfl (zn (zs (yD Za [0, 2, 1, 3, 4, 5] (Zb kk) (yd rfl rfl mr isAgg44 sizeOf44 Zf ?_)))))); clear h
 refine yd rfl rfl mr isAgg56 sizeOf56 Zi ?_
 refine yw [_] rfl rfl call55 (Qbs y hx) (yw [_] rfl rfl call56 (Qbl _ _ _ _ y oo) (yp rfl (.binOp rfl rfl (fun _ => Vl _ _ _ _ _)) (yp rfl (.assign rfl) (yn (zt ?_))))); intro a w h
 refine Jp h (Zd h rfl (.tmp rfl)) ?_
 exact congrArg Value.bool ss
end
section
theorem Zmk (w : World) : (zeroValue 56).run Tryz.prog w = .ok (fV 0 none 0 none 0) w := by
 have e : fV 0 none 0 none 0 = .agg #[.bool false, .slice none 0 0, .slice none 0 0] := by
  unfold fV; rw [show (0 : Rat).num = 0 from rfl, show (0 : Rat).den - 1 = 0 from rfl, show (0 : Int).natAbs = 0 from rfl, Jk]; rfl
 rw [e]; exact zeroValue56 w
theorem Zfz (n : Nat) (h : n ≤ 1000) : Qa (upQ 1 n) ≤ 2002 := by
 have h1 := Zgm 1 n oo; have h2 := Zab; omega
theorem Zxh : ((1 : Int) : Rat) = upQ 1 1 := by show (1 : Rat) = 1 * _; rw [Rat.one_mul]; rfl
theorem Zor (q : Rat) : ∀ p, upQ q p = q * upQ 1 p
 | 0 => by show q = q * 1; rw [Rat.mul_one]
 | p + 1 => by rw [upQ, upQ, Zor q p, Rat.mul_assoc]
theorem Znt (q : Rat) : ∀ n, Zho q n = q / upQ 1 n
 | 0 => by show q = q / 1; rw [Rat.div_def, show (1 : Rat)⁻¹ = 1 from by have := Rat.mul_inv_cancel 1 dd; rwa [Rat.one_mul] at this, Rat.mul_one]
 | n + 1 => by
  rw [Zho, Znt q n, upQ]
  rw [Rat.div_def, Rat.div_def, Rat.div_def, Rat.inv_mul_rev, Rat.mul_assoc, Rat.mul_comm (upQ 1 n)⁻¹]
theorem Zt1 (i j k : Nat) : (((2 : Int) : Rat) * (upQ 1 i * upQ 1 j * upQ 1 k)) / upQ 1 (i + j + k + 2) = Jt i j k := by
 unfold Jt Zdf
 rw [Znt, List.foldl_cons, List.foldl_cons, List.foldl_cons, List.foldl_nil, Zor (upQ (upQ 1 i) j) k, Zor (upQ 1 i) j, Rat.div_def, Rat.div_def, Rat.mul_assoc]
theorem Qbn (n : Nat) (hn : n ≤ 1000) : Ctr Tryz.prog 153 [.int .i64 ((n : Nat) : Int)] [] (PostF (upQ 1 n)) := by
 refine fn_intro func153 rfl ntmps153 nb ?_
 intro S w0 a hS h
 refine gC h (zS (zz Zmk fun b2 => zn (zS (zf [_] rfl call67 (Zcq 1 oo oo) ?_)))); rintro v5 Ψ5 ⟨ad5, c5, bd5, d5, rfl, hle5, hlf5, rfl⟩
 have hl5 := Qe 1 oo oo
 refine zz Zmk fun b3 => zt' rfl rfl Zz uu sizeOf56 rfl nb rfl ?_
 refine zn (zs (zS (za rfl (zn (zb ?_))))); intro a w h
 rw [Zxh] at h hle5 hlf5
 refine Zg (fun (j : Nat) a w => ∃ p1 p2 p3 p4, (j + 1 ≤ max n 1 ∧ (dg (upQ 1 (j + 1)).num.natAbs).length ≤ p2 ∧ (dg ((upQ 1 (j + 1)).den - 1)).length ≤ p4) ∧ St 16 S w0 [(0, nI n), (2, pB b2), (3, pB b3), (4, nI (j + 2))] [(b3, bV (.agg #[.bool (decide ((upQ 1 (j + 1)).num < 0)), .slice p1 (dg (upQ 1 (j + 1)).num.natAbs).length p2, .slice p3 (dg ((upQ 1 (j + 1)).den - 1)).length p4]) 56), (b2, bV (.agg #[.bool (decide ((0 : Rat).num < 0)), .slice none (dg (0 : Rat).num.natAbs).length 0, .slice none (dg ((0 : Rat).den - 1)).length 0]) 56)] [Row p1 (List.map Zo (dg (upQ 1 (j + 1)).num.natAbs)), Row p3 (List.map Zo (dg ((upQ 1 (j + 1)).den - 1)))] a w) (fun j => n - j) (0) (⟨ad5, c5, bd5, d5, ⟨oo, hle5, hlf5⟩, by exact (h.factsSub (by simp)).sub sA⟩) ?_; clear h
 rintro j a w ⟨p1, p2, p3, p4, ⟨hj, hp2, hp4⟩, h⟩
 have hup := Zfz (j + 1) oo
 refine gC h (zs (zS (zm rfl (zm rfl (zp (.leq rfl rfl) (zn ?_)))))); clear h; intro a w h
 refine cW ?_
 refine Zc h rfl (fun hc8 => ?_) (fun hc8 => ?_)
 ·
  skip
  have hr : j + 2 ≤ n := dT hc8
  refine gC h (zk (zs (zb (yD Za [0, 1, 2, 3, 4] (Zb kk) (yd rfl rfl mr isAgg56 sizeOf56 Zi ?_))))); clear h
  refine ym rfl rfl (yf [_] rfl rfl call67 (Zcq (((j + 2 : Nat) : Int)) oo oo) ?_); rintro v13 Ψ13 ⟨ad13, c13, bd13, d13, rfl, hle13, hlf13, rfl⟩
  have hl13 := Qe (((j + 2 : Nat) : Int)) oo oo
  refine yf [_, _] rfl rfl call70 (Zb3 _ _ _ _ _ _ _ _ (upQ 1 (j + 1)) (((((j + 2 : Nat) : Int) : Int) : Rat)) oo oo) ?_; rintro v14 Ψ14 ⟨ad14, c14, bd14, d14, rfl, hle14, hlf14, rfl⟩
  have hl14 := Zu (upQ 1 (j + 1)) (((((j + 2 : Nat) : Int) : Int) : Rat))
  refine yt rfl rfl rfl Zz uu sizeOf56 rfl nb rfl ?_
  refine yn (zr (zm rfl (zp (.pN ((j + 2) + 1) (.add rfl rfl)) (za rfl (zn ?_))))); intro a w h
  rw [show upQ 1 (j + 1) * ((((j + 2 : Nat) : Int)) : Rat) = upQ 1 (j + 1 + 1) from rfl] at h hle14 hlf14
  exact ⟨j + 1, ⟨ad14, c14, bd14, d14, ⟨oo, hle14, hlf14⟩, by exact (h.factsSub (by simp)).sub sA⟩, oo⟩
 ·
  skip
  have hr : n < j + 2 := dF hc8
  refine gC h (ze (zS (zd rfl mr isAgg56 sizeOf56 Zi ?_)))
  refine zt' rfl rfl Zz uu sizeOf56 rfl nb rfl ?_; intro a w h
  refine wpList_nil (wp_ret ?_)
  refine Qk (Ψ := [Row p1 (List.map Zo (dg (upQ 1 (j + 1)).num.natAbs)), Row p3 (List.map Zo (dg ((upQ 1 (j + 1)).den - 1)))]) h (Zd h rfl (.cell rfl mr isAgg56 sizeOf56 Zi)) ?_ ss
  rw [show upQ 1 n = upQ 1 (j + 1) from by
   rcases Nat.eq_zero_or_pos n with h0 | h0
   · rw [h0, show j = 0 by omega]; exact Zxh
   · rw [show n = j + 1 by omega]]; exact ⟨p1, p2, p3, p4, rfl, hp2, hp4, rfl⟩
theorem Zyp (i j k : Nat) (hi : i ≤ 48) (hj : j ≤ 48) (hk : k ≤ 48) : Ctr Tryz.prog 91 [.int .i64 ((i : Nat) : Int), .int .i64 ((j : Nat) : Int), .int .i64 ((k : Nat) : Int)] [] (PostF (Jt i j k)) := by
 refine fn_intro func91 rfl ntmps91 nb ?_
 intro S w0 a hS h
 refine gC h (zS (zz Zmk fun b6 => zn (zs (zS (zm rfl (zp (.lss rfl rfl) ?_)))))); clear h; intro a w h
 refine Zl h (fun hc9 h => (by exfalso; have := of_decide_eq_true hc9; omega)) (fun hc9 h => ?_)
 refine gL h (zm rfl (zq 10 rfl rfl (.move rfl) (zq 10 rfl rfl (.lss rfl rfl) ?_))); clear h; intro a w h
 refine Zl h (fun hc12 h => (by exfalso; have := of_decide_eq_true hc12; omega)) (fun hc12 h => ?_)
 refine gL h (zp (.pickF rfl rfl) (zm rfl (zq 14 rfl rfl (.move rfl) (zq 14 rfl rfl (.lss rfl rfl) ?_)))); clear h; intro a w h
 refine Zl h (fun hc16 h => (by exfalso; have := of_decide_eq_true hc16; omega)) (fun hc16 h => ?_)
 refine gL h (zp (.pickF rfl rfl) (zm rfl (zq 18 rfl rfl (.move rfl) (zq 18 rfl rfl (.gtr rfl rfl) ?_)))); clear h; intro a w h
 refine Zl h (fun hc20 h => (by exfalso; have := of_decide_eq_true hc20; omega)) (fun hc20 h => ?_)
 refine gL h (zp (.pickF rfl rfl) (zm rfl (zq 22 rfl rfl (.move rfl) (zq 22 rfl rfl (.gtr rfl rfl) ?_)))); clear h; intro a w h
 refine Zl h (fun hc24 h => (by exfalso; have := of_decide_eq_true hc24; omega)) (fun hc24 h => ?_)
 refine gL h (zp (.pickF rfl rfl) (zm rfl (zq 26 rfl rfl (.move rfl) (zq 26 rfl rfl (.gtr rfl rfl) ?_)))); clear h; intro a w h
 refine Zl h (fun hc28 h => (by exfalso; have := of_decide_eq_true hc28; omega)) (fun hc28 h => ?_)
 refine gL h (zp (.pickF rfl rfl) (zn ?_)); clear h; intro a w h
 refine cW ?_
 refine Zk h rfl ?_
 refine gC h (zk (zS (zm rfl (zf [_] rfl call153 (Qbn i oo) ?_)))); rintro v32 Ψ32 ⟨ad32, c32, bd32, d32, rfl, hle32, hlf32, rfl⟩
 have hl32 := Zfz i oo
 refine zm rfl (zf [_] rfl call153 (Qbn j oo) ?_); rintro v34 Ψ34 ⟨ad34, c34, bd34, d34, rfl, hle34, hlf34, rfl⟩
 have hl34 := Zfz j oo
 refine zf [_, _] rfl call70 (Zb3 _ _ _ _ _ _ _ _ (upQ 1 i) (upQ 1 j) oo oo) ?_; rintro v35 Ψ35 ⟨ad35, c35, bd35, d35, rfl, hle35, hlf35, rfl⟩
 have hl35 := Zu (upQ 1 i) (upQ 1 j)
 refine zm rfl (zf [_] rfl call153 (Qbn k oo) ?_); rintro v37 Ψ37 ⟨ad37, c37, bd37, d37, rfl, hle37, hlf37, rfl⟩
 have hl37 := Zfz k oo
 refine zf [_, _] rfl call70 (Zb3 _ _ _ _ _ _ _ _ ((upQ 1 i) * (upQ 1 j)) (upQ 1 k) oo oo) ?_; rintro v38 Ψ38 ⟨ad38, c38, bd38, d38, rfl, hle38, hlf38, rfl⟩
 have hl38 := Zu ((upQ 1 i) * (upQ 1 j)) (upQ 1 k)
 refine zz Zmk fun b7 => zt' rfl rfl Zz uu sizeOf56 rfl nb rfl ?_
 refine zn (zs (yD Za [1, 3, 4, 5, 6, 7, 8, 0, 2, 9, 10, 11] (Zb kk) (yd rfl rfl mr isAgg56 sizeOf56 Zi ?_)))
 refine ym rfl rfl (ym rfl rfl (yp rfl (.pN (i + j) (.add rfl rfl)) (ym rfl rfl (yp rfl (.pN ((i + j) + k) (.add rfl rfl)) (yp rfl (.pN (((i + j) + k) + 2) (.add rfl rfl)) (yf [_] rfl rfl call67 (Zcq 2 oo oo) ?_)))))); rintro v39 Ψ39 ⟨ad39, c39, bd39, d39, rfl, hle39, hlf39, rfl⟩
 have hl39 := Qe 2 oo oo
 refine yf [_, _] rfl rfl call70 (Zb3 _ _ _ _ _ _ _ _ (((2 : Int) : Rat)) (((upQ 1 i) * (upQ 1 j)) * (upQ 1 k)) oo oo) ?_; rintro v41 Ψ41 ⟨ad41, c41, bd41, d41, rfl, hle41, hlf41, rfl⟩
 have hl41 := Zu (((2 : Int) : Rat)) (((upQ 1 i) * (upQ 1 j)) * (upQ 1 k))
 refine yf [_] rfl rfl call153 (Qbn (((i + j) + k) + 2) oo) ?_; rintro v48 Ψ48 ⟨ad48, c48, bd48, d48, rfl, hle48, hlf48, rfl⟩
 have hl48 := Zfz (((i + j) + k) + 2) oo
 refine yf [_, _] rfl rfl call66 (Zjq _ _ _ _ _ _ _ _ ((((2 : Int) : Rat)) * (((upQ 1 i) * (upQ 1 j)) * (upQ 1 k))) (upQ 1 (((i + j) + k) + 2)) oo oo (by first | assumption | omega)) ?_; rintro v49 Ψ49 ⟨ad49, c49, bd49, d49, rfl, hle49, hlf49, rfl⟩
 have hl49 := Ko ((((2 : Int) : Rat)) * (((upQ 1 i) * (upQ 1 j)) * (upQ 1 k))) (upQ 1 (((i + j) + k) + 2))
 refine yt rfl rfl rfl Zz uu sizeOf56 rfl nb rfl ?_
 refine yn (zt ?_); intro a w h
 refine Qk (Ψ := [Row ad49 (List.map Zo (dg (((((2 : Int) : Rat)) * (((upQ 1 i) * (upQ 1 j)) * (upQ 1 k))) / (upQ 1 (((i + j) + k) + 2))).num.natAbs)), Row bd49 (List.map Zo (dg ((((((2 : Int) : Rat)) * (((upQ 1 i) * (upQ 1 j)) * (upQ 1 k))) / (upQ 1 (((i + j) + k) + 2))).den - 1)))]) h (Zd h rfl (.cell rfl mr isAgg56 sizeOf56 Zi)) ?_ ss
 rw [← Zt1]; exact ⟨ad49, c49, bd49, d49, rfl, hle49, hlf49, rfl⟩
abbrev encI3 (p : Nat × Nat × Nat) : Value := .agg #[.int .i64 (p.1 : Int), .int .i64 (p.2.1 : Int), .int .i64 (p.2.2 : Int)]
def pjL (n s : Nat) : Nat → List (Nat × Nat × Nat)
 | 0 => []
 | t + 1 => pjL n s t ++ [(n - s, s - t, t)]
def poL (n : Nat) : Nat → List (Nat × Nat × Nat)
 | 0 => []
 | s + 1 => poL n s ++ pjL n s (s + 1)
def ptsL (n : Nat) : List (Nat × Nat × Nat) := poL n (n + 1)
def PostPts (n : Nat) (v : Value) (Ψ : List Qh) : Prop := ∃ ad c, v = .slice ad (ptsL n).length c ∧ Ψ = [Row ad (cellsOf encI3 (ptsL n))]
end
section
theorem Zg9 (i j k : Nat) : Jt i j k = 2 * (fq i * fq j * fq k / fq (i + j + k + 2)) := by
 have e2 : ((2 : Int) : Rat) = 2 := rfl
 unfold Jt Zdf
 simp only [List.foldl_cons, List.foldl_nil]
 rw [Zp4, Zvc, Zvc, Zvc, e2]
 congr 2; grind
theorem Qd6 (i j k : Nat) : Jt i j k = Jt j k i := by
 rw [Zg9, Zg9, show j + k + i + 2 = i + j + k + 2 by omega]; congr 2; grind
theorem Qag (i j k : Nat) : Jt i j k = Jt j i k := by
 rw [Zg9, Zg9, show j + i + k + 2 = i + j + k + 2 by omega]; congr 2; grind
theorem Qd5 (i j k : Nat) : [Jt (i + 1) j k, Jt i (j + 1) k, Jt i j (k + 1)].foldl (· + ·) 0 = Jt i j k := by
 simp only [List.foldl_cons, List.foldl_nil]
 rw [Zg9, Zg9, Zg9, Zg9, show i + 1 + j + k + 2 = (i + j + k + 2) + 1 by omega, show i + (j + 1) + k + 2 = (i + j + k + 2) + 1 by omega, show i + j + (k + 1) + 2 = (i + j + k + 2) + 1 by omega]
 have n0 := Zxc (i + j + k + 2)
 have n1 := Gu (i + j + k + 2)
 have e1 : fq (i + j + k + 2 + 1) = fq (i + j + k + 2) * (((i + j + k + 2 + 1 : Nat) : Int) : Rat) := rfl
 have e2 : fq (i + 1) = fq i * (((i + 1 : Nat) : Int) : Rat) := rfl
 have e3 : fq (j + 1) = fq j * (((j + 1 : Nat) : Int) : Rat) := rfl
 have e4 : fq (k + 1) = fq k * (((k + 1 : Nat) : Int) : Rat) := rfl
 have e5 : (((i + j + k + 2 + 1 : Nat) : Int) : Rat) = (((i + 1 : Nat) : Int) : Rat) + (((j + 1 : Nat) : Int) : Rat) + (((k + 1 : Nat) : Int) : Rat) := by
  rw [← Xs, ← Xs]; congr 2; omega
 rw [e1, e2, e3, e4, e5]
 rw [e5] at n1
 clear e1 e2 e3 e4 e5
 generalize (((i + 1 : Nat) : Int) : Rat) = a at *
 generalize (((j + 1 : Nat) : Int) : Rat) = b at *
 generalize (((k + 1 : Nat) : Int) : Rat) = c at *
 generalize fq (i + j + k + 2) = d at *
 generalize fq i = x at *
 generalize fq j = y at *
 generalize fq k = z at *
 grind
theorem Zxk {X : Nat → Prop} {w : World} : (Row none (List.map Zo (dg (0 : Rat).num.natAbs))).p X w ∧ (Row none (List.map Zo (dg ((0 : Rat).den - 1)))).p X w := by
 have e1 : dg (0 : Rat).num.natAbs = [] := by rw [show (0 : Rat).num.natAbs = 0 from rfl, Jk]
 have e2 : dg ((0 : Rat).den - 1) = [] := by rw [show (0 : Rat).den - 1 = 0 from rfl, Jk]
 rw [e1, e2]; exact ⟨fun hne => absurd rfl hne, fun hne => absurd rfl hne⟩
theorem f0_val : (fV 0 none 0 none 0 : Value) = .agg #[.bool false, .slice none 0 0, .slice none 0 0] := by
 unfold fV; rw [show (0 : Rat).num = 0 from rfl, show (0 : Rat).den - 1 = 0 from rfl, show (0 : Int).natAbs = 0 from rfl, Jk]; rfl
theorem Zmb (i j k : Int) (hout : ¬ (0 ≤ i ∧ i ≤ 48 ∧ 0 ≤ j ∧ j ≤ 48 ∧ 0 ≤ k ∧ k ≤ 48)) : Yi Tryz.prog 91 [.int .i64 i, .int .i64 j, .int .i64 k] (fV 0 none 0 none 0) := by
 refine fn_intro func91 rfl ntmps91 nb ?_
 intro S w0 a hS h
 refine gC h (zS (zz Zmk fun b6 => zn (zs (zS (zm rfl (zp (.lss rfl rfl) ?_)))))); clear h; intro a w h
 refine Zl h (fun hc9 h => ?_) (fun hc9 h => ?_)
 ·
  skip
  have h9 : i < 0 := of_decide_eq_true hc9
  refine gL h (zm rfl (zo 10 rfl rfl rfl (zo 10 rfl rfl rfl (zp (.pickT rfl rfl) (zm rfl (zo 14 rfl rfl rfl (zo 14 rfl rfl rfl (zp (.pickT rfl rfl) (zm rfl (zo 18 rfl rfl rfl (zo 18 rfl rfl rfl (zp (.pickT rfl rfl) (zm rfl (zo 22 rfl rfl rfl (zo 22 rfl rfl rfl (zp (.pickT rfl rfl) (zm rfl (zo 26 rfl rfl rfl (zo 26 rfl rfl rfl (zp (.pickT rfl rfl) (zn ?_))))))))))))))))))))); clear h; intro a w h
  refine cW ?_
  refine Zp h rfl ?_
  refine gC h (zS (zp (.build [] rfl (Zfd)) (zt' rfl rfl Zz uu sizeOf56 rfl nb rfl ?_))); clear h; intro a w h
  refine wpList_nil (wp_ret ?_)
  refine Jp h (Zd h rfl (.cell rfl mr isAgg56 sizeOf56 Zi)) ?_
  exact f0_val.symm
 ·
  skip
  have h9 : ¬ i < 0 := of_decide_eq_false hc9
  refine gL h (zm rfl (zq 10 rfl rfl (.move rfl) (zq 10 rfl rfl (.lss rfl rfl) ?_))); clear h; intro a w h
  refine Zl h (fun hc12 h => ?_) (fun hc12 h => ?_)
  ·
   skip
   have h12 : j < 0 := of_decide_eq_true hc12
   refine gL h (zp (.pickF rfl rfl) (zm rfl (zo 14 rfl rfl rfl (zo 14 rfl rfl rfl (zp (.pickT rfl rfl) (zm rfl (zo 18 rfl rfl rfl (zo 18 rfl rfl rfl (zp (.pickT rfl rfl) (zm rfl (zo 22 rfl rfl rfl (zo 22 rfl rfl rfl (zp (.pickT rfl rfl) (zm rfl (zo 26 rfl rfl rfl (zo 26 rfl rfl rfl (zp (.pickT rfl rfl) (zn ?_)))))))))))))))))); clear h; intro a w h
   refine cW ?_
   refine Zp h rfl ?_
   refine gC h (zS (zp (.build [] rfl (Zfd)) (zt' rfl rfl Zz uu sizeOf56 rfl nb rfl ?_))); clear h; intro a w h
   refine wpList_nil (wp_ret ?_)
   refine Jp h (Zd h rfl (.cell rfl mr isAgg56 sizeOf56 Zi)) ?_
   exact f0_val.symm
  ·
   skip
   have h12 : ¬ j < 0 := of_decide_eq_false hc12
   refine gL h (zp (.pickF rfl rfl) (zm rfl (zq 14 rfl rfl (.move rfl) (zq 14 rfl rfl (.lss rfl rfl) ?_)))); clear h; intro a w h
   refine Zl h (fun hc16 h => ?_) (fun hc16 h => ?_)
   ·
    skip
    have h16 : k < 0 := of_decide_eq_true hc16
    refine gL h (zp (.pickF rfl rfl) (zm rfl (zo 18 rfl rfl rfl (zo 18 rfl rfl rfl (zp (.pickT rfl rfl) (zm rfl (zo 22 rfl rfl rfl (zo 22 rfl rfl rfl (zp (.pickT rfl rfl) (zm rfl (zo 26 rfl rfl rfl (zo 26 rfl rfl rfl (zp (.pickT rfl rfl) (zn ?_)))))))))))))); clear h; intro a w h
    refine cW ?_
    refine Zp h rfl ?_
    refine gC h (zS (zp (.build [] rfl (Zfd)) (zt' rfl rfl Zz uu sizeOf56 rfl nb rfl ?_))); clear h; intro a w h
    refine wpList_nil (wp_ret ?_)
    refine Jp h (Zd h rfl (.cell rfl mr isAgg56 sizeOf56 Zi)) ?_
    exact f0_val.symm
   ·
    skip
    have h16 : ¬ k < 0 := of_decide_eq_false hc16
    refine gL h (zp (.pickF rfl rfl) (zm rfl (zq 18 rfl rfl (.move rfl) (zq 18 rfl rfl (.gtr rfl rfl) ?_)))); clear h; intro a w h
    refine Zl h (fun hc20 h => ?_) (fun hc20 h => ?_)
    ·
     skip
     have h20 : i > 48 := of_decide_eq_true hc20
     refine gL h (zp (.pickF rfl rfl) (zm rfl (zo 22 rfl rfl rfl (zo 22 rfl rfl rfl (zp (.pickT rfl rfl) (zm rfl (zo 26 rfl rfl rfl (zo 26 rfl rfl rfl (zp (.pickT rfl rfl) (zn ?_)))))))))); clear h; intro a w h
     refine cW ?_
     refine Zp h rfl ?_
     refine gC h (zS (zp (.build [] rfl (Zfd)) (zt' rfl rfl Zz uu sizeOf56 rfl nb rfl ?_))); clear h; intro a w h
     refine wpList_nil (wp_ret ?_)
     refine Jp h (Zd h rfl (.cell rfl mr isAgg56 sizeOf56 Zi)) ?_
     exact f0_val.symm
    ·
     skip
     have h20 : ¬ i > 48 := of_decide_eq_false hc20
     refine gL h (zp (.pickF rfl rfl) (zm rfl (zq 22 rfl rfl (.move rfl) (zq 22 rfl rfl (.gtr rfl rfl) ?_)))); clear h; intro a w h
     refine Zl h (fun hc24 h => ?_) (fun hc24 h => ?_)
     ·
      skip
      have h24 : j > 48 := of_decide_eq_true hc24
      refine gL h (zp (.pickF rfl rfl) (zm rfl (zo 26 rfl rfl rfl (zo 26 rfl rfl rfl (zp (.pickT rfl rfl) (zn ?_)))))); clear h; intro a w h
      refine cW ?_
      refine Zp h rfl ?_
      refine gC h (zS (zp (.build [] rfl (Zfd)) (zt' rfl rfl Zz uu sizeOf56 rfl nb rfl ?_))); clear h; intro a w h
      refine wpList_nil (wp_ret ?_)
      refine Jp h (Zd h rfl (.cell rfl mr isAgg56 sizeOf56 Zi)) ?_
      exact f0_val.symm
     ·
      skip
      have h24 : ¬ j > 48 := of_decide_eq_false hc24
      refine gL h (zp (.pickF rfl rfl) (zm rfl (zq 26 rfl rfl (.move rfl) (zq 26 rfl rfl (.gtr rfl rfl) ?_)))); clear h; intro a w h
      refine Zl h (fun hc28 h => ?_) (fun hc28 h => (by exfalso; have := of_decide_eq_false hc28; omega))
      refine gL h (zp (.pickF rfl rfl) (zn ?_)); clear h; intro a w h
      refine cW ?_
      refine Zp h rfl ?_
      refine gC h (zS (zp (.build [] rfl (Zfd)) (zt' rfl rfl Zz uu sizeOf56 rfl nb rfl ?_))); clear h; intro a w h
      refine wpList_nil (wp_ret ?_)
      refine Jp h (Zd h rfl (.cell rfl mr isAgg56 sizeOf56 Zi)) ?_
      exact f0_val.symm
theorem Qbv (i j k : Int) (hout : ¬ (0 ≤ i ∧ i ≤ 48 ∧ 0 ≤ j ∧ j ≤ 48 ∧ 0 ≤ k ∧ k ≤ 48)) : Zae Tryz.prog 30 [.int .i64 i, .int .i64 j, .int .i64 k] [TabF] (.bool true) := by
 have h1 : ¬ ∀ m, m < 3 → 0 ≤ [i, j, k].getD m 0 ∧ [i, j, k].getD m 0 ≤ 48 := fun h => hout (by have a := h 0 dd; have b := h 1 dd; have c := h 2 dd; simp at a b c; omega)
 have h2 : ¬ ∀ m, m < 3 → 0 ≤ [j, k, i].getD m 0 ∧ [j, k, i].getD m 0 ≤ 48 := fun h => hout (by have a := h 0 dd; have b := h 1 dd; have c := h 2 dd; simp at a b c; omega)
 have h3 : ¬ ∀ m, m < 3 → 0 ≤ [j, i, k].getD m 0 ∧ [j, i, k].getD m 0 ≤ 48 := fun h => hout (by have a := h 0 dd; have b := h 1 dd; have c := h 2 dd; simp at a b c; omega)
 refine fn_intro func30 rfl ntmps30 nb ?_
 intro S w0 a hS h
 replace h := h.derive (R := Row none (List.map Zo (dg ((0 : Rat).den - 1)))) (fun X _ => Zxk.2)
 replace h := h.derive (R := Row none (List.map Zo (dg (0 : Rat).num.natAbs))) (fun X _ => Zxk.1)
 refine gC h (zS (za rfl (zn (zS (zm rfl (zm rfl (zm rfl (zv [_, _, _] rfl call50 (Zb5 i j k h1) (zz Xi fun b7 => zt' rfl rfl Zq uu sizeOf44 rfl nb rfl ?_)))))))))
 refine zn (zs (zs (yD Za [0, 1, 2, 3, 4, 5, 6, 7, 8, 9, 10, 11, 12, 13, 14, 15, 16, 17, 18, 19, 20, 21, 22] (Zb kk) (yd rfl rfl mr isAgg44 sizeOf44 Zf ?_))))
 refine ym rfl rfl (ym rfl rfl (ym rfl rfl (yv [_, _, _] rfl rfl call91 (Zmb i j k hout) (yw [_, _] rfl rfl call10 (Zg2 none none 0 0 0 0 (Nat.le_trans Vf dd) rfl) (yp rfl (.unOp rfl (Yp _)) ?_)))))
 refine Zs (fun hc18  => (by exfalso; cases hc18)) (fun hc18  => ?_)
 refine ym rfl rfl (yg rfl rfl rfl rfl mr isAgg44 sizeOf44 Zf ?_)
 refine yq rfl rfl rfl (.move rfl) (yq rfl rfl rfl (.move rfl) (yq rfl rfl rfl (.move rfl) ?_))
 refine Qd rfl rfl rfl kk (vs := [_, _, _]) rfl call50 (Zb5 j k i h2) dd ?_
 refine yq rfl rfl rfl (.binOp rfl rfl (fun _ => Ga _ _ 0 0 _)) ?_
 refine Zs (fun hc25  => (by exfalso; exact Zs0 rfl hc25)) (fun hc25  => ?_)
 refine yp rfl (.pickF rfl rfl) (ym rfl rfl (yg rfl rfl rfl rfl mr isAgg44 sizeOf44 Zf ?_))
 refine yq rfl rfl rfl (.move rfl) (yq rfl rfl rfl (.move rfl) (yq rfl rfl rfl (.move rfl) ?_))
 refine Qd rfl rfl rfl kk (vs := [_, _, _]) rfl call50 (Zb5 j i k h3) dd ?_
 refine yq rfl rfl rfl (.binOp rfl rfl (fun _ => Ga _ _ 0 0 _)) ?_
 refine Zs (fun hc33  => (by exfalso; exact Zs0 rfl hc33)) (fun hc33  => ?_)
 refine yp rfl (.pickF rfl rfl) (yn ?_); intro a w h
 refine cW ?_
 refine Zk h rfl ?_
 refine gC h (zk (zs (zS (zm rfl (zp (.lss rfl rfl) ?_))))); clear h; intro a w h
 refine Zl h (fun hc36 h => ?_) (fun hc36 h => ?_)
 ·
  skip
  have h36 : i < 0 := of_decide_eq_true hc36
  refine gL h (zm rfl (zo 37 rfl rfl rfl (zo 37 rfl rfl rfl (zp (.pickT rfl rfl) (zm rfl (zo 41 rfl rfl rfl (zo 41 rfl rfl rfl (zp (.pickT rfl rfl) (zm rfl (zo 45 rfl rfl rfl (zo 45 rfl rfl rfl (zp (.pickT rfl rfl) (zm rfl (zo 49 rfl rfl rfl (zo 49 rfl rfl rfl (zp (.pickT rfl rfl) (zm rfl (zo 53 rfl rfl rfl (zo 53 rfl rfl rfl (zp (.pickT rfl rfl) (zn ?_))))))))))))))))))))); clear h; intro a w h
  refine cW ?_
  refine Zp h rfl ?_
  refine gC h (zS (zv [] rfl call7 (Ja) (za rfl (zn (zt ?_))))); clear h; intro a w h
  exact Zao h
 ·
  skip
  have h36 : ¬ i < 0 := of_decide_eq_false hc36
  refine gL h (zm rfl (zq 37 rfl rfl (.move rfl) (zq 37 rfl rfl (.lss rfl rfl) ?_))); clear h; intro a w h
  refine Zl h (fun hc39 h => ?_) (fun hc39 h => ?_)
  ·
   skip
   have h39 : j < 0 := of_decide_eq_true hc39
   refine gL h (zp (.pickF rfl rfl) (zm rfl (zo 41 rfl rfl rfl (zo 41 rfl rfl rfl (zp (.pickT rfl rfl) (zm rfl (zo 45 rfl rfl rfl (zo 45 rfl rfl rfl (zp (.pickT rfl rfl) (zm rfl (zo 49 rfl rfl rfl (zo 49 rfl rfl rfl (zp (.pickT rfl rfl) (zm rfl (zo 53 rfl rfl rfl (zo 53 rfl rfl rfl (zp (.pickT rfl rfl) (zn ?_)))))))))))))))))); clear h; intro a w h
   refine cW ?_
   refine Zp h rfl ?_
   refine gC h (zS (zv [] rfl call7 (Ja) (za rfl (zn (zt ?_))))); clear h; intro a w h
   exact Zao h
  ·
   skip
   have h39 : ¬ j < 0 := of_decide_eq_false hc39
   refine gL h (zp (.pickF rfl rfl) (zm rfl (zq 41 rfl rfl (.move rfl) (zq 41 rfl rfl (.lss rfl rfl) ?_)))); clear h; intro a w h
   refine Zl h (fun hc43 h => ?_) (fun hc43 h => ?_)
   ·
    skip
    have h43 : k < 0 := of_decide_eq_true hc43
    refine gL h (zp (.pickF rfl rfl) (zm rfl (zo 45 rfl rfl rfl (zo 45 rfl rfl rfl (zp (.pickT rfl rfl) (zm rfl (zo 49 rfl rfl rfl (zo 49 rfl rfl rfl (zp (.pickT rfl rfl) (zm rfl (zo 53 rfl rfl rfl (zo 53 rfl rfl rfl (zp (.pickT rfl rfl) (zn ?_)))))))))))))); clear h; intro a w h
    refine cW ?_
    refine Zp h rfl ?_
    refine gC h (zS (zv [] rfl call7 (Ja) (za rfl (zn (zt ?_))))); clear h; intro a w h
    exact Zao h
   ·
    skip
    have h43 : ¬ k < 0 := of_decide_eq_false hc43
    refine gL h (zp (.pickF rfl rfl) (zm rfl (zq 45 rfl rfl (.move rfl) (zq 45 rfl rfl (.gtr rfl rfl) ?_)))); clear h; intro a w h
    refine Zl h (fun hc47 h => ?_) (fun hc47 h => ?_)
    ·
     skip
     have h47 : i > 47 := of_decide_eq_true hc47
     refine gL h (zp (.pickF rfl rfl) (zm rfl (zo 49 rfl rfl rfl (zo 49 rfl rfl rfl (zp (.pickT rfl rfl) (zm rfl (zo 53 rfl rfl rfl (zo 53 rfl rfl rfl (zp (.pickT rfl rfl) (zn ?_)))))))))); clear h; intro a w h
     refine cW ?_
     refine Zp h rfl ?_
     refine gC h (zS (zv [] rfl call7 (Ja) (za rfl (zn (zt ?_))))); clear h; intro a w h
     exact Zao h
    ·
     skip
     have h47 : ¬ i > 47 := of_decide_eq_false hc47
     refine gL h (zp (.pickF rfl rfl) (zm rfl (zq 49 rfl rfl (.move rfl) (zq 49 rfl rfl (.gtr rfl rfl) ?_)))); clear h; intro a w h
     refine Zl h (fun hc51 h => ?_) (fun hc51 h => ?_)
     ·
      skip
      have h51 : j > 47 := of_decide_eq_true hc51
      refine gL h (zp (.pickF rfl rfl) (zm rfl (zo 53 rfl rfl rfl (zo 53 rfl rfl rfl (zp (.pickT rfl rfl) (zn ?_)))))); clear h; intro a w h
      refine cW ?_
      refine Zp h rfl ?_
      refine gC h (zS (zv [] rfl call7 (Ja) (za rfl (zn (zt ?_))))); clear h; intro a w h
      exact Zao h
     ·
      skip
      have h51 : ¬ j > 47 := of_decide_eq_false hc51
      refine gL h (zp (.pickF rfl rfl) (zm rfl (zq 53 rfl rfl (.move rfl) (zq 53 rfl rfl (.gtr rfl rfl) ?_)))); clear h; intro a w h
      refine Zl h (fun hc55 h => ?_) (fun hc55 h => (by exfalso; have := of_decide_eq_false hc55; omega))
      refine gL h (zp (.pickF rfl rfl) (zn ?_)); clear h; intro a w h
      refine cW ?_
      refine Zp h rfl ?_
      refine gC h (zS (zv [] rfl call7 (Ja) (za rfl (zn (zt ?_))))); clear h; intro a w h
      exact Zao h
theorem Qfo (i j k : Nat) (hi : i ≤ 48) (hj : j ≤ 48) (hk : k ≤ 48) : Zae Tryz.prog 30 [.int .i64 ((i : Nat) : Int), .int .i64 ((j : Nat) : Int), .int .i64 ((k : Nat) : Int)] [TabF] (.bool true) := by
 refine fn_intro func30 rfl ntmps30 nb ?_
 intro S w0 a hS h
 refine gC h (zS (za rfl (zn (zS (zm rfl (zm rfl (zm rfl (zv [_, _, _] rfl call50 (Zaf _ _ _ oo oo oo) ?_))))))))
 have hl11 := Kt (i) (j) (k) oo oo oo
 refine zz Xi fun b7 => zt' rfl rfl Zq uu sizeOf44 rfl nb rfl ?_
 refine zn (zs (zs (yD Za [0, 1, 2, 3, 4, 5, 6, 7, 8, 9, 10, 11, 12, 13, 14, 15, 16, 17, 18, 19, 20, 21, 22] (Zb kk) (yd rfl rfl mr isAgg44 sizeOf44 Zf ?_))))
 refine ym rfl rfl (ym rfl rfl (ym rfl rfl (yf [_, _, _] rfl rfl call91 (Zyp i j k oo oo oo) ?_))); rintro v16 Ψ16 ⟨ad16, c16, bd16, d16, rfl, hle16, hlf16, rfl⟩
 have hl16 := Kt i j k oo oo oo
 refine yw [_, _] rfl rfl call10 (Zg2 _ _ _ _ (Jt i j k) (Jt i j k) oo rfl) (yp rfl (.unOp rfl (Yp _)) ?_)
 refine Zs (fun hc18  => (by exfalso; cases hc18)) (fun hc18  => ?_)
 refine ym rfl rfl (yg rfl rfl rfl rfl mr isAgg44 sizeOf44 Zf ?_)
 refine yq rfl rfl rfl (.move rfl) (yq rfl rfl rfl (.move rfl) (yq rfl rfl rfl (.move rfl) ?_))
 refine Qd rfl rfl rfl kk (vs := [_, _, _]) rfl call50 (Zaf _ _ _ oo oo oo) dd ?_
 have hl24 := Kt (j) (k) (i) oo oo oo
 refine yq rfl rfl rfl (.binOp rfl rfl (fun _ => Ga _ _ (Jt i j k) (Jt j k i) _)) ?_
 refine Zs (fun hc25  => (by exfalso; exact Zs0 (Qd6 i j k) hc25)) (fun hc25  => ?_)
 refine yp rfl (.pickF rfl rfl) (ym rfl rfl (yg rfl rfl rfl rfl mr isAgg44 sizeOf44 Zf ?_))
 refine yq rfl rfl rfl (.move rfl) (yq rfl rfl rfl (.move rfl) (yq rfl rfl rfl (.move rfl) ?_))
 refine Qd rfl rfl rfl kk (vs := [_, _, _]) rfl call50 (Zaf _ _ _ oo oo oo) dd ?_
 have hl32 := Kt (j) (i) (k) oo oo oo
 refine yq rfl rfl rfl (.binOp rfl rfl (fun _ => Ga _ _ (Jt i j k) (Jt j i k) _)) ?_
 refine Zs (fun hc33  => (by exfalso; exact Zs0 (Qag i j k) hc33)) (fun hc33  => ?_)
 refine yp rfl (.pickF rfl rfl) (yn ?_); intro a w h
 refine cW ?_
 refine Zk h rfl ?_
 refine gC h (zk (zs (zS (zm rfl (zp (.lss rfl rfl) ?_))))); clear h; intro a w h
 refine Zl h (fun hc36 h => (by exfalso; have := of_decide_eq_true hc36; omega)) (fun hc36 h => ?_)
 refine gL h (zm rfl (zq 37 rfl rfl (.move rfl) (zq 37 rfl rfl (.lss rfl rfl) ?_))); clear h; intro a w h
 refine Zl h (fun hc39 h => (by exfalso; have := of_decide_eq_true hc39; omega)) (fun hc39 h => ?_)
 refine gL h (zp (.pickF rfl rfl) (zm rfl (zq 41 rfl rfl (.move rfl) (zq 41 rfl rfl (.lss rfl rfl) ?_)))); clear h; intro a w h
 refine Zl h (fun hc43 h => (by exfalso; have := of_decide_eq_true hc43; omega)) (fun hc43 h => ?_)
 refine gL h (zp (.pickF rfl rfl) (zm rfl (zq 45 rfl rfl (.move rfl) (zq 45 rfl rfl (.gtr rfl rfl) ?_)))); clear h; intro a w h
 refine Zl h (fun hc47 h => ?_) (fun hc47 h => ?_)
 ·
  skip
  refine gL h (zp (.pickF rfl rfl) (zm rfl (zo 49 rfl rfl rfl (zo 49 rfl rfl rfl (zp (.pickT rfl rfl) (zm rfl (zo 53 rfl rfl rfl (zo 53 rfl rfl rfl (zp (.pickT rfl rfl) (zn ?_)))))))))); clear h; intro a w h
  refine cW ?_
  refine Zp h rfl ?_
  refine gC h (zS (zv [] rfl call7 (Ja) (za rfl (zn (zt ?_))))); clear h; intro a w h
  exact Zao h
 ·
  skip
  have h47 : i ≤ 47 := dF hc47
  refine gL h (zp (.pickF rfl rfl) (zm rfl (zq 49 rfl rfl (.move rfl) (zq 49 rfl rfl (.gtr rfl rfl) ?_)))); clear h; intro a w h
  refine Zl h (fun hc51 h => ?_) (fun hc51 h => ?_)
  ·
   skip
   refine gL h (zp (.pickF rfl rfl) (zm rfl (zo 53 rfl rfl rfl (zo 53 rfl rfl rfl (zp (.pickT rfl rfl) (zn ?_)))))); clear h; intro a w h
   refine cW ?_
   refine Zp h rfl ?_
   refine gC h (zS (zv [] rfl call7 (Ja) (za rfl (zn (zt ?_))))); clear h; intro a w h
   exact Zao h
  ·
   skip
   have h51 : j ≤ 47 := dF hc51
   refine gL h (zp (.pickF rfl rfl) (zm rfl (zq 53 rfl rfl (.move rfl) (zq 53 rfl rfl (.gtr rfl rfl) ?_)))); clear h; intro a w h
   refine Zl h (fun hc55 h => ?_) (fun hc55 h => ?_)
   ·
    skip
    refine gL h (zp (.pickF rfl rfl) (zn ?_)); clear h; intro a w h
    refine cW ?_
    refine Zp h rfl ?_
    refine gC h (zS (zv [] rfl call7 (Ja) (za rfl (zn (zt ?_))))); clear h; intro a w h
    exact Zao h
   ·
    skip
    have h55 : k ≤ 47 := dF hc55
    refine gL h (zp (.pickF rfl rfl) (zn ?_)); clear h; intro a w h
    refine cW ?_
    refine Zk h rfl ?_
    refine gC h (zk (zs (yD Za [0, 1, 2, 3, 5, 6, 7, 8, 10, 11, 12, 13, 17, 4, 9, 14, 15, 16, 18, 19, 20, 21, 22] (Zb kk) (ym rfl rfl (yp rfl (.pN (i + 1) (.add rfl rfl)) (ym rfl rfl (ym rfl rfl (ym rfl rfl (ym rfl rfl (yp rfl (.pN (j + 1) (.add rfl rfl)) (ym rfl rfl (ym rfl rfl (ym rfl rfl (ym rfl rfl (yp rfl (.pN (k + 1) (.add rfl rfl)) (yd rfl rfl mr isAgg44 sizeOf44 Zf ?_)))))))))))))))); clear h
    refine yv [_, _, _] rfl rfl call50 (Zaf _ _ _ oo oo oo) ?_
    have hl62 := Kt (i + 1) (j) (k) oo oo oo
    refine yv [_, _, _] rfl rfl call50 (Zaf _ _ _ oo oo oo) ?_
    have hl67 := Kt (i) (j + 1) (k) oo oo oo
    refine yv [_, _, _] rfl rfl call50 (Zaf _ _ _ oo oo oo) ?_
    have hl72 := Kt (i) (j) (k + 1) oo oo oo
    refine Gi hS rfl kk [(_, _), (_, _), (_, _)] rfl (Zca _ _ _ _ _ _ _ _ _ _ _ _ _ _ _) (cellsOf Jf [Jt (i + 1) j k, Jt i (j + 1) k, Jt i j (k + 1)]) rfl dd ?_; intro b73
    refine yw [_] rfl rfl call92 (C_QSum _ _ [Jt (i + 1) j k, Jt i (j + 1) k, Jt i j (k + 1)] ss (Zox oo oo oo)) (yp rfl (.binOp rfl rfl (fun _ => Za9 _ _ ([Jt (i + 1) j k, Jt i (j + 1) k, Jt i j (k + 1)].foldl (· + ·) 0) (Jt i j k) _)) ?_)
    refine Zs (fun hc76  => ?_) (fun hc76  => (by exfalso; exact Qbg (Qd5 i j k) hc76))
    refine ym rfl rfl ?_
    refine Qd rfl rfl rfl kk (vs := []) rfl call7 (Ja) dd ?_
    refine yp rfl (.pickT rfl rfl) (yp rfl (.assign rfl) (yn (zt ?_))); intro a w h
    exact Zao h
theorem Yn (i j k : Int) : Zae Tryz.prog 30 [.int .i64 i, .int .i64 j, .int .i64 k] [TabF] (.bool true) := by
 by_cases h : 0 ≤ i ∧ i ≤ 48 ∧ 0 ≤ j ∧ j ≤ 48 ∧ 0 ≤ k ∧ k ≤ 48
 ·
  obtain ⟨a, rfl⟩ : ∃ a : Nat, i = (a : Int) := ⟨i.toNat, oo⟩
  obtain ⟨b, rfl⟩ : ∃ b : Nat, j = (b : Int) := ⟨j.toNat, oo⟩
  obtain ⟨c, rfl⟩ : ∃ c : Nat, k = (c : Int) := ⟨k.toNat, oo⟩
  exact Qfo a b c oo oo oo
 · exact Qbv i j k h
end
end Go.Proofs.YtddhlkfpdjmplaaGreatDoor
