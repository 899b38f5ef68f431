/- Walks of functions. By an AI agent. -/
import Derived.Test.YtddhlkfpdjmplaaGreatDoorNegi
import Derived.Test.YtddhlkfpdjmplaaGreatDoorNumT
import Derived.Test.YtddhlkfpdjmplaaGreatDoorFxD
import Derived.Test.YtddhlkfpdjmplaaGreatDoorFxM
set_option linter.unusedVariables false
set_option linter.unusedSimpArgs false
set_option maxRecDepth 4000
namespace Go.Proofs.YtddhlkfpdjmplaaGreatDoor
open Go Go.Proofs Go.Fx Tryz
attribute [local irreducible] Oper.wp Code.wp wpList Fx.Head wpOp
section
theorem Qc (a : Option Addr) (n c : Nat) (w : World) (ty : TypeId) (cs : Array Bool) : (Go.builtin .len #[52] ty cs #[.slice a n c]).run Tryz.prog w = .ok (.value (.int .i64 n)) w := by
 simp [go_sem]
theorem Zdw (b off n c j : Nat) (h : j < n) (w : World) : (Instr.indexAt 52 (.slice (some ⟨b, off, none⟩) n c) (.int .i64 (j : Int))).run Tryz.prog w = .ok (.pointer (some ⟨b, off + j, none⟩)) w := by
 simpa using Xe runUnderlying52 sizeOf3 b off n c j h w
theorem slh_52 (a : Option Addr) (n c j : Nat) (h : j ≤ c) (w : World) : (Instr.sliceAt 52 (.slice a n c) none (some (.int .i64 (j : Int))) none).run Tryz.prog w = .ok (.slice a j c) w := by
 exact Zdn runUnderlying52 sizeOf3 a n c j h w
theorem Zbk (x0 : Int) (w : World) : (Instr.buildSlice 52 1 [(0, .int .i64 x0)].toArray).run Tryz.prog w = .ok (.slice (some ⟨w.heap.size, 0, none⟩) 1 1) (w.alloc (.cells #[.int .i64 x0] 3 (0, 0))) := by
 simp [go_sem]
theorem Zoe (ad : Option Addr) (c : Nat) (l : List Nat) (hw : Dd l) (hc : l.length ≤ c) (hs : l.length ≤ 2199023255552) :
  Ctr Tryz.prog 180 [.slice ad l.length c] [Row ad (List.map Zo l)] (fun v Ψ => v = .slice ad (dg (Qp l)).length c ∧ Ψ = [Row ad (List.map Zo (dg (Qp l)))]) := by
 refine fn_intro func180 rfl ntmps180 nb ?_
 intro S w0 a hS h
 refine gC h (zS (za rfl (zn (zs (zb ?_))))); clear h; intro a w h
 refine Zg (fun (m : Nat) a w => m ≤ l.length ∧ (∀ j, m ≤ j → j < l.length → l.getD j 0 = 0) ∧ St 21 S w0 [(0, .slice ad m c)] [] [Row ad (List.map Zo l)] a w) (fun m => m) (l.length) (⟨Nat.le_refl _, fun j h1 h2 => absurd h2 oo, h.sub sA⟩) ?_; clear h
 rintro m a w ⟨hm, hz, h⟩
 refine gC h (zs (zS (zm rfl (zp (.builtin [_] rfl (Qc _ _ _)) (zp (.gtr rfl rfl) ?_))))); clear h; intro a w h
 refine Zl h (fun hc5 h => ?_) (fun hc5 h => ?_)
 ·
  skip
  have hm0 : 0 < m := dT hc5
  obtain ⟨B_ad, O_ad, rfl⟩ := h.row_addr (ad := ad) (M := List.map Zo l) (by first | assumption | (repeat (first | exact List.Mem.head _ | apply List.Mem.tail))) nF
  refine gL h (zm rfl (zq 6 rfl rfl (.move rfl) (zq 6 rfl rfl (.move rfl) (zq 6 rfl rfl (.builtin [_] rfl (Qc _ _ _)) (zq 6 rfl rfl (.pO (m - 1) (.sub rfl rfl)) (zq 6 rfl rfl (.indexAddr rfl rfl (Zdw _ _ _ _ _ oo)) ?_)))))); clear h; intro a w h
  refine Zv 6 h rfl rfl (Zch h rfl mm (by rw [List.length_map]; omega) isAgg3 sizeOf3 (Zx (enc := Zo) (l := l) 0 oo) (.inr rfl) dd ?_); clear h; intro a h
  refine gL h (zq 6 rfl rfl (.eql rfl rfl) ?_); clear h; intro a w h
  refine Zl h (fun hc13 h => ?_) (fun hc13 h => ?_)
  ·
   skip
   have hv0 : l.getD (m - 1) 0 = 0 := Zro hc13
   refine gL h (zp (.pickT rfl rfl) (zn ?_)); clear h; intro a w h
   refine cW ?_
   refine Zp h rfl ?_
   refine gC h (zk (zb (zr (zm rfl (zm rfl (zp (.builtin [_] rfl (Qc _ _ _)) (zp (.pO (m - 1) (.sub rfl rfl)) (zp (.slice rfl none (some _) none rfl rfl rfl (slh_52 _ _ _ _ oo)) (za rfl (zn ?_)))))))))); clear h; intro a w h
   refine ⟨m - 1, ⟨oo, fun j h1 h2 => ?_, h.sub sA⟩, oo⟩
   by_cases hj : j = m - 1
   · subst hj; exact hv0
   · exact hz j oo h2
  ·
   skip
   have hv0 : l.getD (m - 1) 0 ≠ 0 := Zrn hc13
   refine gL h (zp (.pickT rfl rfl) (zn ?_)); clear h; intro a w h
   refine cW ?_
   refine Zk h rfl ?_
   refine gC h (ze (zS (zm rfl (za rfl (zn (zt ?_)))))); clear h; intro a w h
   have hcut := Zsr hw hm hz (.inr hv0)
   have hR : ∀ ad, Row ad (List.map Zo (dg (Qp l))) = Row ad ((List.map Zo l).take m) := by intro ad; rw [hcut, List.map_take]
   replace h := h.derive (R := Row _ (List.map Zo (dg (Qp l)))) (fun X hX => by rw [hR]; exact Zed (hX _ List.mem_cons_self) m)
   have hl : m = (dg (Qp l)).length := by rw [hcut]; simp; omega
   refine Qk (Ψ := [Row _ (List.map Zo (dg (Qp l)))]) h (Zd h rfl (.tmp rfl)) ⟨by rw [← hl], rfl⟩ ss
 ·
  skip
  have hm0 : m = 0 := dF hc5
  refine gL h (zm rfl (zo 6 rfl rfl rfl (zo 6 rfl rfl rfl (zo 6 rfl rfl rfl (zo 6 rfl rfl rfl (zo 6 rfl rfl rfl (zo 6 rfl rfl rfl (zo 6 rfl rfl rfl (zp (.pickF rfl rfl) (zn ?_)))))))))); clear h; intro a w h
  refine cW ?_
  refine Zk h rfl ?_
  refine gC h (ze (zS (zm rfl (za rfl (zn (zt ?_)))))); clear h; intro a w h
  have hcut := Zsr hw hm hz (.inl hm0)
  have hR : ∀ ad, Row ad (List.map Zo (dg (Qp l))) = Row ad ((List.map Zo l).take m) := by intro ad; rw [hcut, List.map_take]
  replace h := h.derive (R := Row _ (List.map Zo (dg (Qp l)))) (fun X hX => by rw [hR]; exact Zed (hX _ List.mem_cons_self) m)
  have hl : m = (dg (Qp l)).length := by rw [hcut]; simp; omega
  refine Qk (Ψ := [Row _ (List.map Zo (dg (Qp l)))]) h (Zd h rfl (.tmp rfl)) ⟨by rw [← hl], rfl⟩ ss
theorem Zl9 (ad : Option Addr) (c : Nat) (l : List Nat) (i : Nat) :
  Zae Tryz.prog 179 [.slice ad l.length c, .int .i64 ((i : Nat) : Int)] [Row ad (List.map Zo l)] (.int .i64 ((l.getD i 0 : Nat) : Int)) := by
 refine fn_intro func179 rfl ntmps179 nb ?_
 intro S w0 a hS h
 refine gC h (zS (za rfl (zn (zs (zS (zm rfl (zm rfl (zp (.builtin [_] rfl (Qc _ _ _)) (zp (.lss rfl rfl) (zn ?_)))))))))); clear h; intro a w h
 refine cW ?_
 refine Zc h rfl (fun hc8 => ?_) (fun hc8 => ?_)
 ·
  skip
  have hi : i < l.length := dT hc8
  obtain ⟨B_ad, O_ad, rfl⟩ := h.row_addr (ad := ad) (M := List.map Zo l) (by first | assumption | (repeat (first | exact List.Mem.head _ | apply List.Mem.tail))) nF
  refine gC h (zS (zm rfl (zm rfl (zp (.indexAddr rfl rfl (Zdw _ _ _ _ _ oo)) (zD rfl mm (by rw [List.length_map]; omega) isAgg3 sizeOf3 (Zx (enc := Zo) (l := l) 0 oo) (.inr rfl) ?_)))))
  refine za rfl (zn (zt ?_)); intro a w h
  exact Zao h
 ·
  skip
  have hi : l.length ≤ i := dF hc8
  refine gC h (zk (zS (za rfl (zn (zt ?_))))); clear h; intro a w h
  refine Jp h (Zd h rfl (.tmp rfl)) ?_
  rw [Vb hi]; rfl
def Zob (n : Nat) (v : Value) (Ψ : List Qh) : Prop := ∃ ad c, v = .slice ad (dg n).length c ∧ (dg n).length ≤ c ∧ Ψ = [Row ad (List.map Zo (dg n))]
theorem dlt (n i : Nat) : (dg n).getD i 0 < 10000 := (Dd.dg n).getD i
theorem trimmed {n : Nat} {ad : Option Addr} {c : Nat} {v : Value} {Ψ : List Qh} {Z : List Nat} (hv : v = .slice ad (dg (Qp Z)).length c ∧ Ψ = [Row ad (List.map Zo (dg (Qp Z)))]) (hZ : Qp Z = n) (hw : Dd Z) (hc : Z.length ≤ c) : Zob n v Ψ := by
 subst hZ; exact ⟨ad, c, hv.1, Nat.le_trans (Zhg hw) hc, hv.2⟩
theorem Zyo (n : Nat) (hn : n < 18446744073709551616) :
  Ctr Tryz.prog 181 [.int .u64 (n : Int)] [] (Zob n) := by
 have h5 : (dg n).length ≤ 5 := Zbj (Nat.lt_trans hn dd)
 refine fn_intro func181 rfl ntmps181 nb ?_
 intro S w0 a hS h
 refine gC h (zS (za rfl (zn (zS (za rfl (zn (zs (zb ?_)))))))); clear h; intro a w h
 refine Zg (fun (m : Nat) a w => ∃ l ad c o, m ≤ n ∧ dg n = l ++ dg m ∧ GrowO 1 3 (.slice ad l.length c) l.length (List.map Zo l) o ∧ St 15 S w0 [(0, .int .u64 (m : Int)), (3, .slice ad l.length c)] (o ++ []) [] a w) (fun m => m) (n) (⟨[], none, 0, [], Nat.le_refl _, rfl, GrowO.nil _ _, by exact h.sub sA⟩) ?_; clear h
 rintro m a w ⟨l, ad, c, o, hm, hd, hG, h⟩
 have hll : l.length ≤ 5 := by have := congrArg List.length hd; simp at this; omega
 refine gC h (zs (zS (zm rfl (zp (.gtr rfl rfl) (zn ?_))))); clear h; intro a w h
 refine cW ?_
 refine Zc h rfl (fun hc5 => ?_) (fun hc5 => ?_)
 ·
  skip
  have hm0 : 0 < m := dT hc5
  refine gC h (zk (zb (zS (zm rfl (zm rfl (zp (Pure1.cast (v' := .int .u64 ((m % 10000 : Nat) : Int)) (.binOp rfl rfl (fun _ => Ye _ _ _ _ _ dd)) (by rw [show (10000 : Int) = ((10000 : Nat) : Int) from rfl, Xl])) (zp (.convert rfl (Zsv _ (wrap_i64 _ oo oo))) (zB [(_, _)] rfl (Zbk _) fun b10 => ?_)))))))); clear h; intro a w h
  refine Zh (Xr (σr := []) h rfl rfl (List.Perm.trans (List.Perm.refl _) (List.Perm.cons _ (List.Perm.refl _))) hG runUnderlying52 runUnderlying52 typeInfo3 sizeOf3 zeroValue3 rfl dd dd rfl rfl dd (by show 8 * (2 * ((l).length + 1) + 192) ≤ 281474976710656; omega) dd ?_); clear h
  intro v11 o11 a w hG11 h
  obtain ⟨ad11, c11, rfl⟩ := hG11.is
  have hLn11 : (l).length + 1 = (l ++ [m % 10000]).length := lA
  rw [hLn11] at h hG11
  replace hG11 : GrowO 1 3 (.slice ad11 (l ++ [m % 10000]).length c11) (l ++ [m % 10000]).length (List.map Zo (l ++ [m % 10000])) o11 := by rw [List.map_append]; exact hG11
  refine gL h (za rfl (zn (zr (zm rfl (zp (Pure1.cast (v' := .int .u64 ((m / 10000 : Nat) : Int)) (.binOp rfl rfl (fun _ => Ys _ _ _ _ _ dd)) (by rw [show (10000 : Int) = ((10000 : Nat) : Int) from rfl, Xp, Zdl (Nat.lt_of_le_of_lt (Nat.div_le_self _ _) (Nat.lt_of_le_of_lt hm hn))])) (za rfl (zn ?_))))))); clear h; intro a w h
  exact ⟨m / 10000, ⟨l ++ [m % 10000], ad11, c11, o11, oo, by rw [hd, Zjb (Nat.ne_of_gt hm0)]; simp, hG11, by exact h.sub sA⟩, oo⟩
 ·
  skip
  have hm0 : m = 0 := dF hc5
  refine gC h (ze (zS (zm rfl (za rfl (zn (zt ?_)))))); clear h; intro a w h
  obtain rfl : l = dg n := by rw [hd, hm0, Jk, List.append_nil]
  exact Qk (Ψ := [Row ad (List.map Zo (dg n))]) (h.shareO' hS hG) (Zd h rfl (.tmp rfl)) ⟨ad, c, rfl, hG.le, rfl⟩ ss
theorem drop_zero {l : List Nat} {i : Nat} (h : l.length ≤ i) : Qp (l.drop i) = 0 := Zmr h
theorem Qcr (ad1 ad2 : Option Addr) (c1 c2 : Nat) (n m : Nat) (h1 : (dg n).length ≤ 1000000000000) (h2 : (dg m).length ≤ 1000000000000) :
  Ctr Tryz.prog 172 [.slice ad1 (dg n).length c1, .slice ad2 (dg m).length c2] [Row ad1 (List.map Zo (dg n)), Row ad2 (List.map Zo (dg m))] (Zob (n + m)) := by
 refine fn_intro func172 rfl ntmps172 nb ?_
 intro S w0 a hS h
 refine gC h (zS (za rfl (zn (zS (za rfl (zn (zS (za rfl (zn (zs (zS (za rfl (zn (zb ?_)))))))))))))); clear h; intro a w h
 refine Zg (fun (i : Nat) a w => ∃ k Z ad c o, i ≤ max (dg n).length (dg m).length + 1 ∧ k ≤ 1 ∧ (i = max (dg n).length (dg m).length + 1 → k = 0) ∧ Z.length = i ∧ Dd Z ∧ Qp Z + 10000 ^ i * (k + Qp ((dg n).drop i) + Qp ((dg m).drop i)) = n + m ∧ GrowO 1 3 (.slice ad Z.length c) Z.length (List.map Zo Z) o ∧ St 43 S w0 [(0, .slice ad1 ((dg n).length) c1), (1, .slice ad2 ((dg m).length) c2), (5, .slice ad Z.length c), (6, nI k), (7, nI i)] (o ++ []) [Row ad1 (List.map Zo (dg n)), Row ad2 (List.map Zo (dg m))] a w) (fun i => max (dg n).length (dg m).length + 1 - i) (0) (⟨0, [], none, 0, [], Nat.zero_le _, oo, fun _ => rfl, rfl, (fun x hx => by cases hx), by simp [Qp, Yd], GrowO.nil _ _, by exact h.sub sA⟩) ?_; clear h
 rintro i a w ⟨k, Z, ad, c, o, hi, hk, hik, hl, hw, hv, hG, h⟩
 have e1 := dlt n i
 have e2 := dlt m i
 refine gC h (zs (zS (zm rfl (zm rfl (zp (.builtin [_] rfl (Qc _ _ _)) (zp (.lss rfl rfl) ?_)))))); clear h; intro a w h
 refine Zl h (fun hc12 h => ?_) (fun hc12 h => ?_)
 ·
  skip
  have hrun : i ≤ max (dg n).length (dg m).length := dT hc12
  refine gL h (zm rfl (zo 13 rfl rfl rfl (zo 13 rfl rfl rfl (zo 13 rfl rfl rfl (zo 13 rfl rfl rfl (zp (.pickT rfl rfl) (zm rfl (zo 19 rfl rfl rfl (zo 19 rfl rfl rfl (zp (.pickT rfl rfl) (zn ?_))))))))))); clear h; intro a w h
  refine cW ?_
  refine Zp h rfl ?_
  refine gC h (zk (zs (zb (zS (zm rfl (zm rfl (zw [_, _] rfl call179 (Zl9 _ _ (dg n) (i)) (zm rfl (zm rfl (zw [_, _] rfl call179 (Zl9 _ _ (dg m) (i)) (zp (.pN (((dg n).getD i 0) + ((dg m).getD i 0)) (.add rfl rfl)) (zm rfl (zp (.pN ((((dg n).getD i 0) + ((dg m).getD i 0)) + k) (.add rfl rfl)) (za rfl (zn (zS (zm rfl (zm rfl (zp (Pure1.cast (v' := .int .i64 ((((dg n).getD i 0 + (dg m).getD i 0 + k) % 10000 : Nat) : Int)) (.binOp rfl rfl (fun _ => Ye _ _ _ _ _ dd)) (by rw [show (10000 : Int) = ((10000 : Nat) : Int) from rfl, Xl])) (zB [(_, _)] rfl (Zbk _) fun b37 => ?_)))))))))))))))))))); clear h; intro a w h
  refine Zh (Xr (σr := []) h rfl rfl (List.Perm.trans (List.Perm.refl _) (List.Perm.cons _ (List.Perm.refl _))) hG runUnderlying52 runUnderlying52 typeInfo3 sizeOf3 zeroValue3 rfl dd dd rfl rfl dd (by show 8 * (2 * ((Z).length + 1) + 192) ≤ 281474976710656; omega) dd ?_); clear h
  intro v38 o38 a w hG38 h
  obtain ⟨ad38, c38, rfl⟩ := hG38.is
  have hLn38 : (Z).length + 1 = (Z ++ [((dg n).getD i 0 + (dg m).getD i 0 + k) % 10000]).length := lA
  rw [hLn38] at h hG38
  replace hG38 : GrowO 1 3 (.slice ad38 (Z ++ [((dg n).getD i 0 + (dg m).getD i 0 + k) % 10000]).length c38) (Z ++ [((dg n).getD i 0 + (dg m).getD i 0 + k) % 10000]).length (List.map Zo (Z ++ [((dg n).getD i 0 + (dg m).getD i 0 + k) % 10000])) o38 := by rw [List.map_append]; exact hG38
  refine gL h (za rfl (zn (zr (zm rfl (zp (Pure1.cast (v' := .int .i64 ((((dg n).getD i 0 + (dg m).getD i 0 + k) / 10000 : Nat) : Int)) (.binOp rfl rfl (fun _ => Ys _ _ _ _ _ dd)) (by rw [show (10000 : Int) = ((10000 : Nat) : Int) from rfl, Xp, wrap_i64 _ oo oo])) (za rfl (zn (zr (zm rfl (zp (.pN (i + 1) (.add rfl rfl)) (za rfl (zn ?_)))))))))))); clear h; intro a w h
  exact ⟨i + 1, ⟨((dg n).getD i 0 + (dg m).getD i 0 + k) / 10000, Z ++ [((dg n).getD i 0 + (dg m).getD i 0 + k) % 10000], ad38, c38, o38, oo, by omega, fun hx => by rw [Vb (l := dg n) oo, Vb (l := dg m) oo]; omega, by rw [List.length_append, hl]; rfl, hw.snoc (Nat.mod_lt _ dd), Zip hl hv, hG38, by exact h.sub sA⟩, oo⟩
 ·
  skip
  have hna : (dg n).length ≤ i := dF hc12
  refine gL h (zm rfl (zq 13 rfl rfl (.move rfl) (zq 13 rfl rfl (.move rfl) (zq 13 rfl rfl (.builtin [_] rfl (Qc _ _ _)) (zq 13 rfl rfl (.lss rfl rfl) ?_))))); clear h; intro a w h
  refine Zl h (fun hc17 h => ?_) (fun hc17 h => ?_)
  ·
   skip
   have hrun : i ≤ max (dg n).length (dg m).length := dT hc17
   refine gL h (zp (.pickF rfl rfl) (zm rfl (zo 19 rfl rfl rfl (zo 19 rfl rfl rfl (zp (.pickT rfl rfl) (zn ?_)))))); clear h; intro a w h
   refine cW ?_
   refine Zp h rfl ?_
   refine gC h (zk (zs (zb (zS (zm rfl (zm rfl (zw [_, _] rfl call179 (Zl9 _ _ (dg n) (i)) (zm rfl (zm rfl (zw [_, _] rfl call179 (Zl9 _ _ (dg m) (i)) (zp (.pN (((dg n).getD i 0) + ((dg m).getD i 0)) (.add rfl rfl)) (zm rfl (zp (.pN ((((dg n).getD i 0) + ((dg m).getD i 0)) + k) (.add rfl rfl)) (za rfl (zn (zS (zm rfl (zm rfl (zp (Pure1.cast (v' := .int .i64 ((((dg n).getD i 0 + (dg m).getD i 0 + k) % 10000 : Nat) : Int)) (.binOp rfl rfl (fun _ => Ye _ _ _ _ _ dd)) (by rw [show (10000 : Int) = ((10000 : Nat) : Int) from rfl, Xl])) (zB [(_, _)] rfl (Zbk _) fun b37 => ?_)))))))))))))))))))); clear h; intro a w h
   refine Zh (Xr (σr := []) h rfl rfl (List.Perm.trans (List.Perm.refl _) (List.Perm.cons _ (List.Perm.refl _))) hG runUnderlying52 runUnderlying52 typeInfo3 sizeOf3 zeroValue3 rfl dd dd rfl rfl dd (by show 8 * (2 * ((Z).length + 1) + 192) ≤ 281474976710656; omega) dd ?_); clear h
   intro v38 o38 a w hG38 h
   obtain ⟨ad38, c38, rfl⟩ := hG38.is
   have hLn38 : (Z).length + 1 = (Z ++ [((dg n).getD i 0 + (dg m).getD i 0 + k) % 10000]).length := lA
   rw [hLn38] at h hG38
   replace hG38 : GrowO 1 3 (.slice ad38 (Z ++ [((dg n).getD i 0 + (dg m).getD i 0 + k) % 10000]).length c38) (Z ++ [((dg n).getD i 0 + (dg m).getD i 0 + k) % 10000]).length (List.map Zo (Z ++ [((dg n).getD i 0 + (dg m).getD i 0 + k) % 10000])) o38 := by rw [List.map_append]; exact hG38
   refine gL h (za rfl (zn (zr (zm rfl (zp (Pure1.cast (v' := .int .i64 ((((dg n).getD i 0 + (dg m).getD i 0 + k) / 10000 : Nat) : Int)) (.binOp rfl rfl (fun _ => Ys _ _ _ _ _ dd)) (by rw [show (10000 : Int) = ((10000 : Nat) : Int) from rfl, Xp, wrap_i64 _ oo oo])) (za rfl (zn (zr (zm rfl (zp (.pN (i + 1) (.add rfl rfl)) (za rfl (zn ?_)))))))))))); clear h; intro a w h
   exact ⟨i + 1, ⟨((dg n).getD i 0 + (dg m).getD i 0 + k) / 10000, Z ++ [((dg n).getD i 0 + (dg m).getD i 0 + k) % 10000], ad38, c38, o38, oo, by omega, fun hx => by rw [Vb (l := dg n) oo, Vb (l := dg m) oo]; omega, by rw [List.length_append, hl]; rfl, hw.snoc (Nat.mod_lt _ dd), Zip hl hv, hG38, by exact h.sub sA⟩, oo⟩
  ·
   skip
   have hnb : (dg m).length ≤ i := dF hc17
   refine gL h (zp (.pickF rfl rfl) (zm rfl (zq 19 rfl rfl (.move rfl) (zq 19 rfl rfl (.gtr rfl rfl) ?_)))); clear h; intro a w h
   refine Zl h (fun hc21 h => ?_) (fun hc21 h => ?_)
   ·
    skip
    have hrun : i ≤ max (dg n).length (dg m).length := dT hc21
    refine gL h (zp (.pickF rfl rfl) (zn ?_)); clear h; intro a w h
    refine cW ?_
    refine Zp h rfl ?_
    refine gC h (zk (zs (zb (zS (zm rfl (zm rfl (zw [_, _] rfl call179 (Zl9 _ _ (dg n) (i)) (zm rfl (zm rfl (zw [_, _] rfl call179 (Zl9 _ _ (dg m) (i)) (zp (.pN (((dg n).getD i 0) + ((dg m).getD i 0)) (.add rfl rfl)) (zm rfl (zp (.pN ((((dg n).getD i 0) + ((dg m).getD i 0)) + k) (.add rfl rfl)) (za rfl (zn (zS (zm rfl (zm rfl (zp (Pure1.cast (v' := .int .i64 ((((dg n).getD i 0 + (dg m).getD i 0 + k) % 10000 : Nat) : Int)) (.binOp rfl rfl (fun _ => Ye _ _ _ _ _ dd)) (by rw [show (10000 : Int) = ((10000 : Nat) : Int) from rfl, Xl])) (zB [(_, _)] rfl (Zbk _) fun b37 => ?_)))))))))))))))))))); clear h; intro a w h
    refine Zh (Xr (σr := []) h rfl rfl (List.Perm.trans (List.Perm.refl _) (List.Perm.cons _ (List.Perm.refl _))) hG runUnderlying52 runUnderlying52 typeInfo3 sizeOf3 zeroValue3 rfl dd dd rfl rfl dd (by show 8 * (2 * ((Z).length + 1) + 192) ≤ 281474976710656; omega) dd ?_); clear h
    intro v38 o38 a w hG38 h
    obtain ⟨ad38, c38, rfl⟩ := hG38.is
    have hLn38 : (Z).length + 1 = (Z ++ [((dg n).getD i 0 + (dg m).getD i 0 + k) % 10000]).length := lA
    rw [hLn38] at h hG38
    replace hG38 : GrowO 1 3 (.slice ad38 (Z ++ [((dg n).getD i 0 + (dg m).getD i 0 + k) % 10000]).length c38) (Z ++ [((dg n).getD i 0 + (dg m).getD i 0 + k) % 10000]).length (List.map Zo (Z ++ [((dg n).getD i 0 + (dg m).getD i 0 + k) % 10000])) o38 := by rw [List.map_append]; exact hG38
    refine gL h (za rfl (zn (zr (zm rfl (zp (Pure1.cast (v' := .int .i64 ((((dg n).getD i 0 + (dg m).getD i 0 + k) / 10000 : Nat) : Int)) (.binOp rfl rfl (fun _ => Ys _ _ _ _ _ dd)) (by rw [show (10000 : Int) = ((10000 : Nat) : Int) from rfl, Xp, wrap_i64 _ oo oo])) (za rfl (zn (zr (zm rfl (zp (.pN (i + 1) (.add rfl rfl)) (za rfl (zn ?_)))))))))))); clear h; intro a w h
    exact ⟨i + 1, ⟨((dg n).getD i 0 + (dg m).getD i 0 + k) / 10000, Z ++ [((dg n).getD i 0 + (dg m).getD i 0 + k) % 10000], ad38, c38, o38, oo, by omega, fun hx => by rw [Vb (l := dg n) oo, Vb (l := dg m) oo]; omega, by rw [List.length_append, hl]; rfl, hw.snoc (Nat.mod_lt _ dd), Zip hl hv, hG38, by exact h.sub sA⟩, oo⟩
   ·
    skip
    have hk0 : k = 0 := dF hc21
    refine gL h (zp (.pickF rfl rfl) (zn ?_)); clear h; intro a w h
    refine cW ?_
    refine Zk h rfl ?_
    refine gC h (ze (zS (zm rfl ?_))); clear h; intro a w h
    replace h := h.shareO' hS hG
    have hZ : Qp Z = n + m := by rw [hk0, drop_zero hna, drop_zero hnb] at hv; simpa using hv
    refine gL h (zf [_] rfl call180 (Zoe ad c Z hw hG.le oo) ?_); rintro v42 Ψ42 ht
    refine za rfl (zn (zt ?_)); intro a w h
    exact Qk h (Zd h rfl (.tmp rfl)) (trimmed ht hZ hw hG.le) (fun R hR => List.mem_append_left _ hR)
theorem Ztb (ad1 ad2 : Option Addr) (c1 c2 : Nat) (n m : Nat) (h1 : (dg n).length ≤ 1000000000000) (h2 : (dg m).length ≤ 1000000000000) (hle : m ≤ n) :
  Ctr Tryz.prog 177 [.slice ad1 (dg n).length c1, .slice ad2 (dg m).length c2] [Row ad1 (List.map Zo (dg n)), Row ad2 (List.map Zo (dg m))] (Zob (n - m)) := by
 refine fn_intro func177 rfl ntmps177 nb ?_
 intro S w0 a hS h
 refine gC h (zS (za rfl (zn (zS (za rfl (zn (zS (za rfl (zn (zs (zS (za rfl (zn (zb ?_)))))))))))))); clear h; intro a w h
 refine Zg (fun (i : Nat) a w => ∃ k Z ad c o, i ≤ (dg n).length ∧ k ≤ 1 ∧ Z.length = i ∧ Dd Z ∧ Qp Z + m + 10000 ^ i * Qp ((dg n).drop i) = n + 10000 ^ i * (k + Qp ((dg m).drop i)) ∧ GrowO 1 3 (.slice ad Z.length c) Z.length (List.map Zo Z) o ∧ St 35 S w0 [(0, .slice ad1 ((dg n).length) c1), (1, .slice ad2 ((dg m).length) c2), (5, .slice ad Z.length c), (6, nI k), (7, nI i)] (o ++ []) [Row ad1 (List.map Zo (dg n)), Row ad2 (List.map Zo (dg m))] a w) (fun i => (dg n).length - i) (0) (⟨0, [], none, 0, [], Nat.zero_le _, oo, rfl, (fun x hx => by cases hx), by simp [Qp, Yd, Nat.add_comm], GrowO.nil _ _, by exact h.sub sA⟩) ?_; clear h
 rintro i a w ⟨k, Z, ad, c, o, hi, hk, hl, hw, hv, hG, h⟩
 have e1 := dlt n i
 have e2 := dlt m i
 refine gC h (zs (zS (zm rfl (zm rfl (zp (.builtin [_] rfl (Qc _ _ _)) (zp (.lss rfl rfl) (zn ?_))))))); clear h; intro a w h
 refine cW ?_
 refine Zc h rfl (fun hc12 => ?_) (fun hc12 => ?_)
 ·
  skip
  have hrun : i < (dg n).length := dT hc12
  obtain ⟨B_ad, O_ad, rfl⟩ := h.row_addr (ad := ad1) (M := List.map Zo (dg n)) mm nF
  refine gC h (zk (zs (zb (zs (yD Za [0, 1, 2, 3, 4, 5, 8, 6, 7, 9, 10] (Zb kk) (ym rfl rfl (ym rfl rfl (yp rfl (.indexAddr rfl rfl (Zdw _ _ _ _ _ oo)) ?_)))))))); clear h
  refine Zm rfl kk rfl mm (by rw [List.length_map]; omega) isAgg3 sizeOf3 (Zx (enc := Zo) (l := (dg n)) 0 oo) (.inr rfl) dd ?_
  refine ym rfl rfl (ym rfl rfl (ym rfl rfl (yw [_, _] rfl rfl call179 (Zl9 _ _ (dg m) (i)) (yp rfl (.sub rfl rfl) (yp rfl (.sub rfl rfl) (yp rfl (.assign rfl) (yn (zS (za rfl (zn (zs (zS (zm rfl (zp (.lss rfl rfl) (zn ?_))))))))))))))); intro a w h
  refine cW ?_
  refine Zc h rfl (fun hc26 => ?_) (fun hc26 => ?_)
  ·
   skip
   have hneg := of_decide_eq_true hc26
   obtain ⟨d, hd⟩ : ∃ d : Nat, d + (dg m).getD i 0 + k = (dg n).getD i 0 + 10000 * 1 := ⟨(dg n).getD i 0 + 10000 - (dg m).getD i 0 - k, oo⟩
   have hd1 : d < 10000 := oo
   refine gC h (zS (zm rfl (zp (.pO d (.add rfl rfl)) (za rfl (zn (zr (za rfl (zn (zr (zm rfl (zp (Pure1.cast (v' := .int .i64 ((d : Nat) : Int)) (.move rfl) (by first | rfl | (show Value.int _ _ = Value.int _ _; congr 1; omega))) (zB [(_, _)] rfl (Zbk _) fun b31 => ?_)))))))))))); clear h; intro a w h
   refine Zh (Xr (σr := []) h rfl rfl (List.Perm.trans (List.Perm.refl _) (List.Perm.cons _ (List.Perm.refl _))) hG runUnderlying52 runUnderlying52 typeInfo3 sizeOf3 zeroValue3 rfl dd dd rfl rfl dd (by show 8 * (2 * ((Z).length + 1) + 192) ≤ 281474976710656; omega) dd ?_); clear h
   intro v32 o32 a w hG32 h
   obtain ⟨ad32, c32, rfl⟩ := hG32.is
   have hLn32 : (Z).length + 1 = (Z ++ [d]).length := lA
   rw [hLn32] at h hG32
   replace hG32 : GrowO 1 3 (.slice ad32 (Z ++ [d]).length c32) (Z ++ [d]).length (List.map Zo (Z ++ [d])) o32 := by rw [List.map_append]; exact hG32
   refine gL h (za rfl (zn (zr (zm rfl (zp (.pN (i + 1) (.add rfl rfl)) (za rfl (zn ?_))))))); clear h; intro a w h
   exact ⟨i + 1, ⟨1, Z ++ [d], ad32, c32, o32, oo, by omega, by rw [List.length_append, hl]; rfl, hw.snoc hd1, Zmv hl hd hv, hG32, by exact h.sub sA⟩, oo⟩
  ·
   skip
   have hneg := of_decide_eq_false hc26
   obtain ⟨d, hd⟩ : ∃ d : Nat, d + (dg m).getD i 0 + k = (dg n).getD i 0 + 10000 * 0 := ⟨(dg n).getD i 0 - (dg m).getD i 0 - k, oo⟩
   have hd1 : d < 10000 := oo
   refine gC h (zk (zr (zm rfl (zp (Pure1.cast (v' := .int .i64 ((d : Nat) : Int)) (.move rfl) (by first | rfl | (show Value.int _ _ = Value.int _ _; congr 1; omega))) (zB [(_, _)] rfl (Zbk _) fun b31 => ?_))))); clear h; intro a w h
   refine Zh (Xr (σr := []) h rfl rfl (List.Perm.trans (List.Perm.refl _) (List.Perm.cons _ (List.Perm.refl _))) hG runUnderlying52 runUnderlying52 typeInfo3 sizeOf3 zeroValue3 rfl dd dd rfl rfl dd (by show 8 * (2 * ((Z).length + 1) + 192) ≤ 281474976710656; omega) dd ?_); clear h
   intro v32 o32 a w hG32 h
   obtain ⟨ad32, c32, rfl⟩ := hG32.is
   have hLn32 : (Z).length + 1 = (Z ++ [d]).length := lA
   rw [hLn32] at h hG32
   replace hG32 : GrowO 1 3 (.slice ad32 (Z ++ [d]).length c32) (Z ++ [d]).length (List.map Zo (Z ++ [d])) o32 := by rw [List.map_append]; exact hG32
   refine gL h (za rfl (zn (zr (zm rfl (zp (.pN (i + 1) (.add rfl rfl)) (za rfl (zn ?_))))))); clear h; intro a w h
   exact ⟨i + 1, ⟨0, Z ++ [d], ad32, c32, o32, oo, by omega, by rw [List.length_append, hl]; rfl, hw.snoc hd1, Zmv hl hd hv, hG32, by exact h.sub sA⟩, oo⟩
 ·
  skip
  have hna : i = (dg n).length := dF hc12
  refine gC h (ze (zS (zm rfl ?_))); clear h; intro a w h
  replace h := h.shareO' hS hG
  have hZ : Qp Z = n - m := by rw [hna, drop_zero (Nat.le_refl _), drop_zero (Vz hle)] at hv; exact Qa2 hw (hl.trans hna) hle (by simpa using hv)
  refine gL h (zf [_] rfl call180 (Zoe ad c Z hw hG.le oo) ?_); rintro v34 Ψ34 ht
  refine za rfl (zn (zt ?_)); intro a w h
  exact Qk h (Zd h rfl (.tmp rfl)) (trimmed ht hZ hw hG.le) (fun R hR => List.mem_append_left _ hR)
theorem Zrr (n : Nat) : List.map Zo (List.replicate n 0) = Zef n (Value.cells (.int .i64 0)).toList := by
 rw [List.map_replicate]; unfold Zef
 induction n with
 | zero => rfl
 | succ n ih => rw [List.replicate_succ, List.replicate_succ, List.flatten_cons, ← ih]; rfl
theorem Zoh (ad1 ad2 : Option Addr) (c1 c2 : Nat) (n m : Nat) (h1 : (dg n).length ≤ 1000000000000) (h2 : (dg m).length ≤ 1000000000000) :
  Ctr Tryz.prog 131 [.slice ad1 (dg n).length c1, .slice ad2 (dg m).length c2] [Row ad1 (List.map Zo (dg n)), Row ad2 (List.map Zo (dg m))] (Zob (n * m)) := by
 refine fn_intro func131 rfl ntmps131 nb ?_
 intro S w0 a hS h
 refine gC h (zS (za rfl (zn (zS (zm rfl (zp (.builtin [_] rfl (Qc _ _ _)) (zm rfl (zp (.builtin [_] rfl (Qc _ _ _)) (zp (.pN (((dg n).length) + ((dg m).length)) (.add rfl rfl)) ?_))))))))); clear h; intro a w h
 refine Zh (Xo h rfl rfl runUnderlying52 typeInfo3 sizeOf3 zeroValue3 rfl dd oo (by show 8 * (((dg n).length) + ((dg m).length)) ≤ 281474976710656; omega) oo dd ?_); clear h; intro b15 a w h; replace h := h.same rfl (by rw [← Zrr]) rfl
 refine gL h (za rfl (zn (zs (zS (za rfl (zn (zb ?_))))))); clear h; intro a w h
 refine Zg (fun (i : Nat) a w => i ≤ (dg n).length ∧ ∃ Z, (Z.length = (dg n).length + (dg m).length ∧ Dd Z ∧ Qp Z = Qp ((dg n).take i) * m) ∧ St 60 S w0 [(0, .slice ad1 ((dg n).length) c1), (1, .slice ad2 ((dg m).length) c2), (5, .slice (some ⟨b15, 0, none⟩) (((dg n).length) + ((dg m).length)) (((dg n).length) + ((dg m).length))), (6, nI i)] [(b15, .cells (List.map Zo (Z)).toArray 3 (0, 0))] [Row ad1 (List.map Zo (dg n)), Row ad2 (List.map Zo (dg m))] a w) (fun i => (dg n).length - i) 0 (⟨Nat.zero_le _, List.replicate _ 0, ⟨by rw [List.length_replicate], Dd.zeros _, by rw [Zgg _ (fun x hx => List.eq_of_mem_replicate hx)]; simp [Qp]⟩, by exact (h).sub sA⟩) ?_; clear h
 rintro i a w ⟨hi_i, Z, ⟨hl, hw, hv⟩, h⟩
 refine gC h (zs (zS (zm rfl (zm rfl (zp (.builtin [_] rfl (Qc _ _ _)) (zp (.lss rfl rfl) (zn ?_))))))); clear h; intro a w h
 refine cW ?_
 refine Zc h rfl (fun hc19 => ?_) (fun hc19 => ?_)
 ·
  skip
  have hlt_i : i < (dg n).length := dT hc19
  obtain ⟨B_ad1, O_ad1, rfl⟩ := h.row_addr (ad := ad1) (M := List.map Zo (dg n)) mm nF
  refine gC h (zk (zs (zb (zS (za rfl (zn (zS (za rfl (zn (zb ?_)))))))))); clear h; intro a w h
  refine Zg (fun (k : Nat) a w => ∃ c Z, (k ≤ (dg m).length + 1 ∧ c < 10000 ∧ (k = (dg m).length + 1 → c = 0) ∧ (k ≤ (dg m).length → Z.getD (i + (dg m).length) 0 = 0) ∧ Z.length = (dg n).length + (dg m).length ∧ Dd Z ∧ Qp Z + 10000 ^ (i + k) * c + 10000 ^ (i + k) * ((dg n).getD i 0 * Qp ((dg m).drop k)) = Qp ((dg n).take i) * m + 10000 ^ i * ((dg n).getD i 0 * m)) ∧ St 60 S w0 [(0, .slice (some ⟨B_ad1, O_ad1, none⟩) ((dg n).length) c1), (1, .slice ad2 ((dg m).length) c2), (5, .slice (some ⟨b15, 0, none⟩) (((dg n).length) + ((dg m).length)) (((dg n).length) + ((dg m).length))), (6, nI i), (7, nI c), (8, nI k)] [(b15, .cells (List.map Zo (Z)).toArray 3 (0, 0))] [Row (some ⟨B_ad1, O_ad1, none⟩) (List.map Zo (dg n)), Row ad2 (List.map Zo (dg m))] a w) (fun k => (dg m).length + 1 - k) (0) (⟨0, Z, ⟨Nat.zero_le _, by decide, fun _ => rfl, fun _ => Zi9 (Dd.dg n) (Dd.dg m) (by rw [Yd]; exact hv) (Nat.le_refl _), hl, hw, by rw [hv]; simp [Yd]⟩, by exact h.sub sA⟩) ?_; clear h
  rintro k a w ⟨c, Z, ⟨hk, hc, hkc, hz, hl, hw, hv⟩, h⟩
  have e1 := dlt n i
  have e2 := dlt m k
  have hab : (dg n).getD i 0 * (dg m).getD k 0 ≤ 9999 * 9999 := Nat.mul_le_mul oo oo
  have e3 := hw.getD (i + k)
  refine gC h (zs (zS (zm rfl (zm rfl (zp (.builtin [_] rfl (Qc _ _ _)) (zp (.lss rfl rfl) ?_)))))); clear h; intro a w h
  refine Zl h (fun hc25 h => ?_) (fun hc25 h => ?_)
  ·
   skip
   have hrun : k ≤ (dg m).length := dT hc25
   refine gL h (zm rfl (zo 26 rfl rfl rfl (zo 26 rfl rfl rfl (zp (.pickT rfl rfl) (zn ?_))))); clear h; intro a w h
   refine cW ?_
   refine Zp h rfl ?_
   refine gC h (zk (zs (zb (zs (yD Za [0, 1, 2, 3, 4, 5, 6, 7, 8, 9, 10, 11, 15, 12, 13, 14, 16, 17] (Zb kk) (ym rfl rfl (ym rfl rfl (ym rfl rfl (yp rfl (.pN (i + k) (.add rfl rfl)) (yp rfl (.indexAddr rfl rfl (Zdw _ _ _ _ _ oo)) (yd rfl rfl mm isAgg3 sizeOf3 ((congrArg _ (Nat.zero_add _)).trans (Zx (enc := Zo) (l := Z) 0 oo)) ?_))))))))))); clear h
   refine ym rfl rfl (ym rfl rfl (yp rfl (.indexAddr rfl rfl (Zdw _ _ _ _ _ oo)) ?_))
   refine Zm rfl kk rfl mm (by rw [List.length_map]; omega) isAgg3 sizeOf3 (Zx (enc := Zo) (l := (dg n)) 0 oo) (.inr rfl) dd ?_
   refine ym rfl rfl (ym rfl rfl (ym rfl rfl (yw [_, _] rfl rfl call179 (Zl9 _ _ (dg m) (k)) (yp rfl (.pN (((dg n).getD i 0) * ((dg m).getD k 0)) (.mul rfl rfl)) (yp rfl (.pN ((Z.getD (i + k) 0) + (((dg n).getD i 0) * ((dg m).getD k 0))) (.add rfl rfl)) (yp rfl (.pO (c + ((dg n).getD i 0 * (dg m).getD k 0 + Z.getD (i + k) 0)) (Pure1.cast (v' := (.int .i64 ((((Z.getD (i + k) 0) + (((dg n).getD i 0) * ((dg m).getD k 0))) + c : Nat) : Int))) (.add rfl rfl) (by show Value.int _ _ = Value.int _ _; congr 1))) (yp rfl (.assign rfl) (yn (zS (zm rfl (zm rfl (zm rfl (zp (.pN (i + k) (.add rfl rfl)) (zm rfl (zp (Pure1.cast (v' := .int .i64 (((c + ((dg n).getD i 0 * (dg m).getD k 0 + Z.getD (i + k) 0)) % 10000 : Nat) : Int)) (.binOp rfl rfl (fun _ => Ye _ _ _ _ _ dd)) (by rw [show (10000 : Int) = ((10000 : Nat) : Int) from rfl, Xl])) (zp (.indexAddr rfl rfl (Zdw _ _ _ _ _ oo)) (zt' rfl rfl ((congrArg (fun z => Qu _ z _) (Nat.zero_add _)).trans (Yx (enc := Zo) Z (i + k) ((c + ((dg n).getD i 0 * (dg m).getD k 0 + Z.getD (i + k) 0)) % 10000))) uu sizeOf3 rfl (by simp; omega) rfl ?_)))))))))))))))))
   refine zn (zr (zm rfl (zp (Pure1.cast (v' := .int .i64 (((c + ((dg n).getD i 0 * (dg m).getD k 0 + Z.getD (i + k) 0)) / 10000 : Nat) : Int)) (.binOp rfl rfl (fun _ => Ys _ _ _ _ _ dd)) (by rw [show (10000 : Int) = ((10000 : Nat) : Int) from rfl, Xp, wrap_i64 _ oo oo])) (za rfl (zn (zr (zm rfl (zp (.pN (k + 1) (.add rfl rfl)) (za rfl (zn ?_)))))))))); intro a w h
   exact ⟨k + 1, ⟨(c + ((dg n).getD i 0 * (dg m).getD k 0 + Z.getD (i + k) 0)) / 10000, Z.set (i + k) ((c + ((dg n).getD i 0 * (dg m).getD k 0 + Z.getD (i + k) 0)) % 10000), ⟨oo, oo, (by intro hx; have hkl : k = (dg m).length := oo; rw [Vb (l := dg m) oo, hkl, hz oo]; omega), (by intro hx; rw [Zdy oo]; exact hz oo), by rw [List.length_set]; exact hl, hw.set _ _ (Nat.mod_lt _ dd), Znu oo hv⟩, by exact h.sub sA⟩, oo⟩
  ·
   skip
   have hnb : (dg m).length ≤ k := dF hc25
   refine gL h (zm rfl (zq 26 rfl rfl (.move rfl) (zq 26 rfl rfl (.gtr rfl rfl) ?_))); clear h; intro a w h
   refine Zl h (fun hc28 h => ?_) (fun hc28 h => ?_)
   ·
    skip
    have hrun : k ≤ (dg m).length := dT hc28
    refine gL h (zp (.pickF rfl rfl) (zn ?_)); clear h; intro a w h
    refine cW ?_
    refine Zp h rfl ?_
    refine gC h (zk (zs (zb (zs (yD Za [0, 1, 2, 3, 4, 5, 6, 7, 8, 9, 10, 11, 15, 12, 13, 14, 16, 17] (Zb kk) (ym rfl rfl (ym rfl rfl (ym rfl rfl (yp rfl (.pN (i + k) (.add rfl rfl)) (yp rfl (.indexAddr rfl rfl (Zdw _ _ _ _ _ oo)) (yd rfl rfl mm isAgg3 sizeOf3 ((congrArg _ (Nat.zero_add _)).trans (Zx (enc := Zo) (l := Z) 0 oo)) ?_))))))))))); clear h
    refine ym rfl rfl (ym rfl rfl (yp rfl (.indexAddr rfl rfl (Zdw _ _ _ _ _ oo)) ?_))
    refine Zm rfl kk rfl mm (by rw [List.length_map]; omega) isAgg3 sizeOf3 (Zx (enc := Zo) (l := (dg n)) 0 oo) (.inr rfl) dd ?_
    refine ym rfl rfl (ym rfl rfl (ym rfl rfl (yw [_, _] rfl rfl call179 (Zl9 _ _ (dg m) (k)) (yp rfl (.pN (((dg n).getD i 0) * ((dg m).getD k 0)) (.mul rfl rfl)) (yp rfl (.pN ((Z.getD (i + k) 0) + (((dg n).getD i 0) * ((dg m).getD k 0))) (.add rfl rfl)) (yp rfl (.pO (c + ((dg n).getD i 0 * (dg m).getD k 0 + Z.getD (i + k) 0)) (Pure1.cast (v' := (.int .i64 ((((Z.getD (i + k) 0) + (((dg n).getD i 0) * ((dg m).getD k 0))) + c : Nat) : Int))) (.add rfl rfl) (by show Value.int _ _ = Value.int _ _; congr 1))) (yp rfl (.assign rfl) (yn (zS (zm rfl (zm rfl (zm rfl (zp (.pN (i + k) (.add rfl rfl)) (zm rfl (zp (Pure1.cast (v' := .int .i64 (((c + ((dg n).getD i 0 * (dg m).getD k 0 + Z.getD (i + k) 0)) % 10000 : Nat) : Int)) (.binOp rfl rfl (fun _ => Ye _ _ _ _ _ dd)) (by rw [show (10000 : Int) = ((10000 : Nat) : Int) from rfl, Xl])) (zp (.indexAddr rfl rfl (Zdw _ _ _ _ _ oo)) (zt' rfl rfl ((congrArg (fun z => Qu _ z _) (Nat.zero_add _)).trans (Yx (enc := Zo) Z (i + k) ((c + ((dg n).getD i 0 * (dg m).getD k 0 + Z.getD (i + k) 0)) % 10000))) uu sizeOf3 rfl (by simp; omega) rfl ?_)))))))))))))))))
    refine zn (zr (zm rfl (zp (Pure1.cast (v' := .int .i64 (((c + ((dg n).getD i 0 * (dg m).getD k 0 + Z.getD (i + k) 0)) / 10000 : Nat) : Int)) (.binOp rfl rfl (fun _ => Ys _ _ _ _ _ dd)) (by rw [show (10000 : Int) = ((10000 : Nat) : Int) from rfl, Xp, wrap_i64 _ oo oo])) (za rfl (zn (zr (zm rfl (zp (.pN (k + 1) (.add rfl rfl)) (za rfl (zn ?_)))))))))); intro a w h
    exact ⟨k + 1, ⟨(c + ((dg n).getD i 0 * (dg m).getD k 0 + Z.getD (i + k) 0)) / 10000, Z.set (i + k) ((c + ((dg n).getD i 0 * (dg m).getD k 0 + Z.getD (i + k) 0)) % 10000), ⟨oo, oo, (by intro hx; have hkl : k = (dg m).length := oo; rw [Vb (l := dg m) oo, hkl, hz oo]; omega), (by intro hx; rw [Zdy oo]; exact hz oo), by rw [List.length_set]; exact hl, hw.set _ _ (Nat.mod_lt _ dd), Znu oo hv⟩, by exact h.sub sA⟩, oo⟩
   ·
    skip
    have hk0 : c = 0 := dF hc28
    refine gL h (zp (.pickF rfl rfl) (zn ?_)); clear h; intro a w h
    refine cW ?_
    refine Zk h rfl ?_
    refine gC h (ze (zr (zm rfl (zp (.pN (i + 1) (.add rfl rfl)) (za rfl (zn ?_)))))); clear h; intro a w h
    exact ⟨i + 1, ⟨oo, Z, ⟨hl, hw, by rw [hk0, drop_zero hnb] at hv; rw [Zig _ _ hlt_i, Nat.add_mul, Nat.mul_assoc, ← hv]; simp⟩, by exact (h.factsSub (by simp)).sub sA⟩, oo⟩
 ·
  skip
  have heq_i : (dg n).length = i := dF hc19
  subst heq_i
  refine gC h (ze (zS (zm rfl ?_))); clear h; intro a w h
  rw [← hl] at h
  replace h := h.shareAll hS (List.map Zo Z) rfl
  have hZ : Qp Z = n * m := by rw [List.take_length, Yd] at hv; exact hv
  refine gL h (zf [_] rfl call180 (Zoe (some ⟨b15, 0, none⟩) Z.length Z hw (Nat.le_refl _) oo) ?_); rintro v59 Ψ59 ht
  refine za rfl (zn (zt ?_)); intro a w h
  exact Qk h (Zd h rfl (.tmp rfl)) (trimmed ht hZ hw (Nat.le_refl _)) (fun R hR => List.mem_append_left _ hR)
theorem Zys (ad1 ad2 : Option Addr) (c1 c2 : Nat) (n m : Nat) (h1 : (dg n).length ≤ 1000000000000) (h2 : (dg m).length ≤ 1000000000000) :
  Zae Tryz.prog 178 [.slice ad1 (dg n).length c1, .slice ad2 (dg m).length c2] [Row ad1 (List.map Zo (dg n)), Row ad2 (List.map Zo (dg m))] (.int .i64 (Zjh n m)) := by
 refine fn_intro func178 rfl ntmps178 nb ?_
 intro S w0 a hS h
 refine gC h (zS (za rfl (zn (zs (zS (zm rfl (zp (.builtin [_] rfl (Qc _ _ _)) (zm rfl (zp (.builtin [_] rfl (Qc _ _ _)) (zp (.lss rfl rfl) (zn ?_))))))))))); clear h; intro a w h
 refine cW ?_
 refine Zc h rfl (fun hc10 => ?_) (fun hc10 => ?_)
 ·
  skip
  have hl1 : (dg n).length < (dg m).length := dT hc10
  refine gC h (zS (za rfl (zn (zt ?_)))); clear h; intro a w h
  refine Jp h (Zd h rfl (.tmp rfl)) ?_
  unfold Zjh; rw [if_pos (Zjc hl1)]
 ·
  skip
  have hl1 : (dg m).length ≤ (dg n).length := dF hc10
  refine gC h (zk (zs (zS (zm rfl (zp (.builtin [_] rfl (Qc _ _ _)) (zm rfl (zp (.builtin [_] rfl (Qc _ _ _)) (zp (.gtr rfl rfl) (zn ?_))))))))); clear h; intro a w h
  refine cW ?_
  refine Zc h rfl (fun hc15 => ?_) (fun hc15 => ?_)
  ·
   skip
   have hl2 : (dg m).length < (dg n).length := dT hc15
   refine gC h (zS (za rfl (zn (zt ?_)))); clear h; intro a w h
   refine Jp h (Zd h rfl (.tmp rfl)) ?_
   have h3 := Zjc hl2; unfold Zjh; rw [if_neg oo, if_pos h3]
  ·
   skip
   have hl : (dg n).length = (dg m).length := dF hc15
   refine gC h (zk (zs (zS (zm rfl (zp (.builtin [_] rfl (Qc _ _ _)) (zp (.sub rfl rfl) (za rfl (zn (zb ?_))))))))); clear h; intro a w h
   refine Zg (fun (k : Nat) a w => (k ≤ (dg n).length ∧ (dg n).drop k = (dg m).drop k) ∧ St 41 S w0 [(0, .slice ad1 ((dg n).length) c1), (1, .slice ad2 ((dg m).length) c2), (5, .int .i64 (((k : Nat) : Int) - 1)), (18, .int .i64 (((((dg n).length : Nat) : Int)) - 1))] [] [Row ad1 (List.map Zo (dg n)), Row ad2 (List.map Zo (dg m))] a w) (fun k => k) ((dg n).length) (⟨⟨Nat.le_refl _, by rw [List.drop_eq_nil_of_le (Nat.le_refl _), List.drop_eq_nil_of_le (Nat.le_of_eq hl.symm)]⟩, by exact h.sub sA⟩) ?_; clear h
   rintro k a w ⟨⟨hN, hd⟩, h⟩
   refine gC h (zs (zS (zm rfl (zp (.geq rfl rfl) (zn ?_))))); clear h; intro a w h
   refine cW ?_
   refine Zc h rfl (fun hc20 => ?_) (fun hc20 => ?_)
   ·
    skip
    have hk : 1 ≤ k := dT hc20
    obtain ⟨B_ad1, O_ad1, rfl⟩ := h.row_addr (ad := ad1) (M := List.map Zo (dg n)) mm nF
    obtain ⟨B_ad2, O_ad2, rfl⟩ := h.row_addr (ad := ad2) (M := List.map Zo (dg m)) mm nF
    refine gC h (zk (zs (zb (zs (zs (yD Za [0, 1, 2, 3, 4, 5, 6, 7, 8] (Zb kk) (ym rfl rfl (yp rfl (.pO (k - 1) (.move rfl)) (yp rfl (.indexAddr rfl rfl (Zdw _ _ _ _ _ oo)) ?_))))))))); clear h
    refine Zm rfl kk rfl mm (by rw [List.length_map]; omega) isAgg3 sizeOf3 (Zx (enc := Zo) (l := (dg n)) 0 oo) (.inr rfl) dd ?_
    refine ym rfl rfl (yp rfl (.pO (k - 1) (.move rfl)) (yp rfl (.indexAddr rfl rfl (Zdw _ _ _ _ _ oo)) ?_))
    refine Zm rfl kk rfl mm (by rw [List.length_map]; omega) isAgg3 sizeOf3 (Zx (enc := Zo) (l := (dg m)) 0 oo) (.inr rfl) dd ?_
    refine yp rfl (.lss rfl rfl) (yn ?_); intro a w h
    refine cW ?_
    refine Zc h rfl (fun hc31 => ?_) (fun hc31 => ?_)
    ·
     skip
     have hlt : (dg n).getD (k - 1) 0 < (dg m).getD (k - 1) 0 := dT hc31
     refine gC h (zS (za rfl (zn (zt ?_)))); clear h; intro a w h
     refine Jp h (Zd h rfl (.tmp rfl)) ?_
     have h3 := Zqq (Dd.dg n) (Dd.dg m) hlt (by rw [Nat.sub_add_cancel hk]; exact hd)
     rw [Yd, Yd] at h3
     unfold Zjh; rw [if_pos h3]
    ·
     skip
     have hge : (dg m).getD (k - 1) 0 ≤ (dg n).getD (k - 1) 0 := dF hc31
     refine gC h (zk (zs (yD Za [0, 1, 2, 3, 4, 5, 6, 7, 8] (Zb kk) (ym rfl rfl (yp rfl (.pO (k - 1) (.move rfl)) (yp rfl (.indexAddr rfl rfl (Zdw _ _ _ _ _ oo)) ?_)))))); clear h
     refine Zm rfl kk rfl mm (by rw [List.length_map]; omega) isAgg3 sizeOf3 (Zx (enc := Zo) (l := (dg n)) 0 oo) (.inr rfl) dd ?_
     refine ym rfl rfl (yp rfl (.pO (k - 1) (.move rfl)) (yp rfl (.indexAddr rfl rfl (Zdw _ _ _ _ _ oo)) ?_))
     refine Zm rfl kk rfl mm (by rw [List.length_map]; omega) isAgg3 sizeOf3 (Zx (enc := Zo) (l := (dg m)) 0 oo) (.inr rfl) dd ?_
     refine yp rfl (.gtr rfl rfl) (yn ?_); intro a w h
     refine cW ?_
     refine Zc h rfl (fun hc40 => ?_) (fun hc40 => ?_)
     ·
      skip
      have hlt : (dg m).getD (k - 1) 0 < (dg n).getD (k - 1) 0 := dT hc40
      refine gC h (zS (za rfl (zn (zt ?_)))); clear h; intro a w h
      refine Jp h (Zd h rfl (.tmp rfl)) ?_
      have h3 := Zqq (Dd.dg m) (Dd.dg n) hlt (by rw [Nat.sub_add_cancel hk]; exact hd.symm)
      rw [Yd, Yd] at h3
      unfold Zjh; rw [if_neg oo, if_pos h3]
     ·
      skip
      have he : (dg n).getD (k - 1) 0 = (dg m).getD (k - 1) 0 := dF hc40
      refine gC h (zk (zr (zm rfl (zp (Pure1.cast (v' := .int .i64 (((k - 1 : Nat) : Int) - 1)) (.sub rfl rfl) (by show Value.int _ _ = Value.int _ _; congr 1; omega)) (za rfl (zn ?_)))))); clear h; intro a w h
      exact ⟨k - 1, ⟨⟨oo, drop_step hl oo he (by rw [Nat.sub_add_cancel hk]; exact hd)⟩, by exact (h.factsSub (by simp)).sub sA⟩, oo⟩
   ·
    skip
    have hk : k = 0 := dF hc20
    refine gC h (ze (zS (za rfl (zn (zt ?_))))); clear h; intro a w h
    refine Jp h (Zd h rfl (.tmp rfl)) ?_
    subst hk
    have e : n = m := by rw [← Yd n, ← Yd m]; simp at hd; rw [hd]
    unfold Zjh; rw [if_neg oo, if_neg oo]
theorem Zks (n f j : Nat) (hlen : (dg n).length ≤ f + 4) (hj : f ≤ j) : Qp ((dg n).drop j) < 10000000000000000 := by
 have h1 := Zcu ((Dd.dg n).drop j)
 rw [List.length_drop] at h1
 have h2 : 10000 ^ ((dg n).length - j) ≤ 10000 ^ 4 := Nat.pow_le_pow_right dd oo
 exact Nat.lt_of_lt_of_le h1 h2
theorem Zyq (ad1 : Option Addr) (c1 : Nat) (n f : Nat) (h1 : (dg n).length ≤ 1000000000000) (hlen : (dg n).length ≤ f + 4) (hf : f ≤ 1000000000000) :
  Zae Tryz.prog 206 [.slice ad1 (dg n).length c1, .int .i64 ((f : Nat) : Int)] [Row ad1 (List.map Zo (dg n))] (.int .i64 ((Qp ((dg n).drop f) : Nat) : Int)) := by
 refine fn_intro func206 rfl ntmps206 nb ?_
 intro S w0 a hS h
 refine gC h (zS (za rfl (zn (zS (za rfl (zn (zs (zS (zm rfl (zp (.builtin [_] rfl (Qc _ _ _)) (zp (.sub rfl rfl) (za rfl (zn (zb ?_)))))))))))))); clear h; intro a w h
 have hz : Qp ((dg n).drop (dg n).length) = 0 := drop_zero (Nat.le_refl _)
 replace h := h.sub (L' := [(0, .slice ad1 (dg n).length c1), (1, nI f), (5, nI (Qp ((dg n).drop (dg n).length))), (6, .int .i64 (((dg n).length : Nat) - 1 : Int))]) (Zff ⟨rfl, rfl, by rw [hz]; rfl, rfl, trivial⟩)
 refine Zg (fun (k : Nat) a w => (k ≤ (dg n).length ∧ (f ≤ k ∨ k = (dg n).length)) ∧ St 23 S w0 [(0, .slice ad1 ((dg n).length) c1), (1, nI f), (5, nI (Qp ((dg n).drop k))), (6, .int .i64 (((k : Nat) : Int) - 1))] [] [Row ad1 (List.map Zo (dg n))] a w) (fun k => k) ((dg n).length) (⟨⟨Nat.le_refl _, .inr rfl⟩, by exact h.sub sA⟩) ?_; clear h
 rintro k a w ⟨⟨hN, hd⟩, h⟩
 refine gC h (zs (zS (zm rfl (zm rfl (zp (.geq rfl rfl) (zn ?_)))))); clear h; intro a w h
 refine cW ?_
 refine Zc h rfl (fun hc12 => ?_) (fun hc12 => ?_)
 ·
  skip
  have hk : f + 1 ≤ k := dT hc12
  obtain ⟨B_ad1, O_ad1, rfl⟩ := h.row_addr (ad := ad1) (M := List.map Zo (dg n)) mm nF
  have e1 := dlt n (k - 1)
  have e2 := Zks n f (k - 1) hlen oo
  have e3 : Qp ((dg n).drop (k - 1)) = (dg n).getD (k - 1) 0 + 10000 * Qp ((dg n).drop k) := by rw [Ky, Nat.sub_add_cancel oo]
  refine gC h (zk (zs (zb (zr (zm rfl (zp (.pN (10000 * (Qp ((dg n).drop k))) (.mul rfl rfl)) (zm rfl (zp (.pO (k - 1) (.move rfl)) (zp (.indexAddr rfl rfl (Zdw _ _ _ _ _ oo)) (zD rfl mm (by rw [List.length_map]; omega) isAgg3 sizeOf3 (Zx (enc := Zo) (l := (dg n)) 0 oo) (.inr rfl) ?_))))))))))
  refine zp (.pO (Qp ((dg n).drop (k - 1))) (Pure1.cast (v' := (.int .i64 (((10000 * (Qp ((dg n).drop k))) + ((dg n).getD (k - 1) 0) : Nat) : Int))) (.add rfl rfl) (by show Value.int _ _ = Value.int _ _; congr 1))) (za rfl (zn (zr (zm rfl (zp (Pure1.cast (v' := .int .i64 (((k - 1 : Nat) : Int) - 1)) (.sub rfl rfl) (by show Value.int _ _ = Value.int _ _; congr 1; omega)) (za rfl (zn ?_))))))); intro a w h
  exact ⟨k - 1, ⟨⟨oo, .inl oo⟩, by exact (h.factsSub (by simp)).sub sA⟩, oo⟩
 ·
  skip
  have hk : k ≤ f := dF hc12
  refine gC h (ze (zS (zm rfl (za rfl (zn (zt ?_)))))); clear h; intro a w h
  refine Jp h (Zd h rfl (.tmp rfl)) ?_
  have e : Qp ((dg n).drop f) = Qp ((dg n).drop k) := by
   rcases hd with hd | hd
   · rw [show k = f by omega]
   · rw [drop_zero oo, drop_zero oo]
  rw [e]
end
section
theorem Qbh (w : World) : (Instr.buildSlice 52 0 [].toArray).run Tryz.prog w = .ok (.slice (some ⟨w.heap.size, 0, none⟩) 0 0) (w.alloc (.cells #[] 3 (0, 0))) := by
 simp [go_sem]
theorem slo_52 (b off n c lo : Nat) (h1 : lo ≤ n) (w : World) : (Instr.sliceAt 52 (.slice (some ⟨b, off, none⟩) n c) (some (.int .i64 (lo : Int))) none none).run Tryz.prog w = .ok (.slice (some ⟨b, if c = lo then off else off + lo * 1, none⟩) (n - lo) (c - lo)) w := Zii runUnderlying52 sizeOf3 b off n c lo h1 w
theorem Qep (x : Int) (w : World) : (Go.convert 3 36 (.int .i64 x)).run Tryz.prog w = .ok (.int .u64 (IntKind.u64.wrap x)) w := by
 simp [go_sem]
theorem Zsu (x : Int) (h0 : IntKind.u64.wrap x = x) (w : World) : (Go.convert 3 36 (.int .i64 x)).run Tryz.prog w = .ok (.int .u64 x) w := by
 rw [Qep, h0]
theorem dg5 (n : Nat) (h : n < 18446744073709551616) : (dg n).length ≤ 5 := Zbj (Nat.lt_trans h dd)
theorem Zlp : ∀ l : List Nat, (List.map Zo l).all flat = true
 | [] => rfl
 | x :: l => by rw [List.map_cons, List.all_cons, Zlp l]; rfl
theorem Zx2 {x y : Nat} : Zjh x y ≤ 0 ↔ x ≤ y := by
 unfold Zjh
 split
 · omega
 · split <;> omega
def Qcj (p q : Nat) (v : Value) (Ψ : List Qh) : Prop := ∃ ad c ad' c', v = .tuple #[.slice ad (dg p).length c, .slice ad' (dg q).length c'] ∧ (dg p).length ≤ c ∧ (dg q).length ≤ c' ∧ Ψ = [Row ad (List.map Zo (dg p)), Row ad' (List.map Zo (dg q))]
theorem Zyr (ad1 ad2 : Option Addr) (c1 c2 : Nat) (n m : Nat) (h1 : (dg n).length ≤ 300000000000) (h2 : (dg m).length ≤ 300000000000) (hm : m ≠ 0) (hc1 : (dg n).length ≤ c1) :
  Ctr Tryz.prog 176 [.slice ad1 (dg n).length c1, .slice ad2 (dg m).length c2] [Row ad1 (List.map Zo (dg n)), Row ad2 (List.map Zo (dg m))] (Qcj (n / m) (n % m)) := by
 have hlb : 0 < (dg m).length := List.length_pos_iff.2 (fun e => hm (Zsp.1 e))
 have hm0 : 0 < m := Nat.pos_of_ne_zero hm
 refine fn_intro func176 rfl ntmps176 nb ?_
 intro S w0 a hS h
 refine gC h (zS (za rfl (za rfl (zn (zs (zS (zm rfl (zm rfl (zw [_, _] rfl call178 (Zys _ _ _ _ n m oo oo) (zp (.lss rfl rfl) (zn ?_))))))))))); clear h; intro a w h
 refine cW ?_
 refine Zc h rfl (fun hc18 => ?_) (fun hc18 => ?_)
 ·
  skip
  have hlt : n < m := by
   have h3 := of_decide_eq_true hc18
   unfold Zjh at h3; split at h3
   · assumption
   · split at h3 <;> omega
  refine gC h (zS (zm rfl (za rfl (za rfl (zn (zt ?_)))))); clear h; intro a w h
  have e1 : n / m = 0 := Nat.div_eq_of_lt hlt
  have e2 : n % m = n := Nat.mod_eq_of_lt hlt
  have e3 : Qcj (n / m) (n % m) (.tuple #[.slice none 0 0, .slice ad1 (dg n).length c1]) [Row none [], Row ad1 (List.map Zo (dg n))] := by rw [e1, e2]; exact ⟨none, 0, ad1, c1, by rw [Jk]; rfl, by rw [Jk]; exact Nat.le_refl _, hc1, by rw [Jk]; rfl⟩
  replace h := h.derive (R := Row none []) (fun X hX hne => absurd rfl hne)
  exact Qk h (Jv h rfl (.tmp rfl) (.tmp rfl)) e3 ss
 ·
  skip
  have hle : m ≤ n := by
   have h3 := of_decide_eq_false hc18
   unfold Zjh at h3; split at h3
   · omega
   · omega
  have hll := Vz hle
  obtain ⟨B_ad1, O_ad1, rfl⟩ := h.row_addr (ad := ad1) (M := List.map Zo (dg n)) mm nF
  refine gC h (zk (zS (zm rfl (zp (.builtin [_] rfl (Qc _ _ _)) (zp (.sub rfl rfl) (zp (.pO (((dg m).length - 3)) (.builtin [_, _] rfl (fun w ty cs => Qcg _ _ w ty cs))) (za rfl (zn (zS (zm rfl (zm rfl (zw [_, _] rfl call206 (Zyq _ _ m ((dg m).length - 3) oo oo oo) (za rfl (zn (zS (zm rfl (zp (.builtin [_] rfl (Qc _ _ _)) (zm rfl (zp (.builtin [_] rfl (Qc _ _ _)) (zp (Pure1.cast (v' := .int .i64 (((((dg n).length - (dg m).length) + 1 : Nat) : Int) - 1)) (.sub rfl rfl) (by show Value.int _ _ = Value.int _ _; congr 1; omega)) (za rfl (zn (zS (zm rfl (zp (.pO (((dg n).length - (dg m).length) + 1) (.add rfl rfl)) ?_))))))))))))))))))))))))); clear h; intro a w h
  refine Zh (Xo h rfl rfl runUnderlying52 typeInfo3 sizeOf3 zeroValue3 rfl dd (by exact Nat.le_refl _) (by show 8 * (((dg n).length - (dg m).length) + 1) ≤ 281474976710656; omega) oo dd ?_); clear h; intro b34 a w h; replace h := h.same rfl (by rw [← Zrr]) rfl
  refine gL h (za rfl (zn (zS (zB [] rfl (Qbh) fun b35 => zm rfl (zm rfl (zp (.pO (((dg n).length - (dg m).length) + 1) (.add rfl rfl)) (zp (.slice rfl (some _) none none rfl rfl rfl (slo_52 _ _ _ _ _ oo)) ?_))))))); clear h; intro a w h
  replace h := h.derive (R := Row (some ⟨B_ad1, if c1 = ((dg n).length - (dg m).length) + 1 then O_ad1 else O_ad1 + (((dg n).length - (dg m).length) + 1) * 1, none⟩) ((List.map Zo (dg n)).drop (((dg n).length - (dg m).length) + 1))) (fun X hX => row_drop (hX _ mm) (by rw [List.length_map]; exact hc1))
  rw [← List.map_drop, Zlv n (((dg n).length - (dg m).length) + 1)] at h
  have hlr : (dg (n / 10000 ^ (((dg n).length - (dg m).length) + 1))).length = (dg n).length - (((dg n).length - (dg m).length) + 1) := by rw [← Zlv, List.length_drop]
  rw [← hlr] at h
  refine Zh (Zg8 (b := b35) (xs := []) (ys := List.map Zo (dg (n / 10000 ^ (((dg n).length - (dg m).length) + 1)))) (ad2 := some ⟨B_ad1, if c1 = ((dg n).length - (dg m).length) + 1 then O_ad1 else O_ad1 + (((dg n).length - (dg m).length) + 1) * 1, none⟩) (k := 1) h rfl rfl mm rfl runUnderlying52 runUnderlying52 typeInfo3 sizeOf3 zeroValue3 rfl dd dd (by rw [List.length_map, Nat.mul_one]) (Zlp _) (by show 8 * (2 * _ + 192) ≤ 281474976710656; omega) dd ?_); clear h; intro v40 o40 a w hG40 h
  obtain ⟨ad40, c40, rfl⟩ := hG40.is
  have hle40 := hG40.le
  replace h := h.shareO' hS hG40
  replace h := h.same (Φ' := Row ad40 (List.map Zo (dg (n / 10000 ^ (((dg n).length - (dg m).length) + 1)))) :: _) rfl rfl rfl
  have hr0 : n / 10000 ^ (((dg n).length - (dg m).length) + 1) < m := Zjc oo
  have hr1 : n / 10000 ^ (((dg n).length - (dg m).length) + 1) % m = n / 10000 ^ (((dg n).length - (dg m).length) + 1) := Nat.mod_eq_of_lt hr0
  rw [Nat.zero_add (dg (n / 10000 ^ (((dg n).length - (dg m).length) + 1))).length, ← hr1] at h
  rw [Nat.zero_add (dg (n / 10000 ^ (((dg n).length - (dg m).length) + 1))).length, ← hr1] at hle40
  refine gL h (za rfl (zn (zs (zb ?_)))); clear h; intro a w h
  refine Zg (fun (k : Nat) a w => ∃ Z ad c, (k ≤ ((dg n).length - (dg m).length) + 1 ∧ Z.length = ((dg n).length - (dg m).length) + 1 ∧ Dd Z ∧ Qp (Z.drop k) = n / 10000 ^ k / m ∧ (dg (n / 10000 ^ k % m)).length ≤ c) ∧ St 97 S w0 [(0, .slice (some ⟨B_ad1, O_ad1, none⟩) ((dg n).length) c1), (1, .slice ad2 ((dg m).length) c2), (6, nI ((dg m).length - 3)), (7, nI (Qp ((dg m).drop ((dg m).length - 3)))), (8, .int .i64 (((k : Nat) : Int) - 1)), (9, .slice (some ⟨b34, 0, none⟩) (((dg n).length - (dg m).length) + 1) (((dg n).length - (dg m).length) + 1)), (10, .slice ad ((dg (n / 10000 ^ k % m)).length) c)] [(b34, .cells (List.map Zo (Z)).toArray 3 (0, 0))] [Row (some ⟨B_ad1, O_ad1, none⟩) (List.map Zo (dg n)), Row ad2 (List.map Zo (dg m)), Row ad (List.map Zo (dg (n / 10000 ^ k % m)))] a w) (fun k => k) ((((dg n).length - (dg m).length) + 1)) (⟨List.replicate _ 0, ad40, c40, ⟨Nat.le_refl _, List.length_replicate, Dd.zeros _, by rw [List.drop_eq_nil_of_le (by rw [List.length_replicate]; exact Nat.le_refl _), Nat.div_eq_of_lt hr0]; rfl, hle40⟩, by exact (h.factsSub (by simp)).sub (Zff ⟨rfl, rfl, rfl, rfl, rfl, rfl, rfl, trivial⟩)⟩) ?_; clear h
  rintro k a w ⟨Z, ad, c, ⟨hK, hZl, hZw, hZv, hlc⟩, h⟩
  have hrl := Vz (Nat.le_of_lt (Nat.mod_lt (n / 10000 ^ k) hm0))
  refine gC h (zs (zS (zm rfl (zp (.geq rfl rfl) (zn ?_))))); clear h; intro a w h
  refine cW ?_
  refine Zc h rfl (fun hc42 => ?_) (fun hc42 => ?_)
  ·
   skip
   have hk : 1 ≤ k := dT hc42
   refine gC h (zk (zs (zb (zS (zm rfl (zp (.pO (k - 1) (.move rfl)) (zp (.indexAddr rfl rfl (Zdw _ _ _ _ _ oo)) (zD rfl mm (by rw [List.length_map]; omega) isAgg3 sizeOf3 (Zx (enc := Zo) (l := (dg n)) 0 oo) (.inr rfl) ?_))))))))
   refine zB [(_, _)] rfl (Zbk _) fun b49 => zm rfl ?_; intro a w h
   refine Zh (Zg8 (b := b49) (xs := [Zo ((dg n).getD (k - 1) 0)]) (ys := List.map Zo (dg (n / 10000 ^ k % m))) (ad2 := ad) (k := 1) h rfl rfl mm rfl runUnderlying52 runUnderlying52 typeInfo3 sizeOf3 zeroValue3 rfl dd dd (by rw [List.length_map, Nat.mul_one]) (Zlp _) (by show 8 * (2 * _ + 192) ≤ 281474976710656; omega) dd ?_); clear h; intro v51 o51 a w hG51 h
   obtain ⟨ad51, c51, rfl⟩ := hG51.is
   have hle51 := hG51.le
   replace h := h.shareO' hS hG51
   replace h := h.same (Φ' := Row ad51 (List.map Zo ((dg n).getD (k - 1) 0 :: dg (n / 10000 ^ k % m))) :: _) rfl rfl rfl
   rw [show 1 + (dg (n / 10000 ^ k % m)).length = ((dg n).getD (k - 1) 0 :: dg (n / 10000 ^ k % m)).length from Nat.add_comm _ _] at h hle51
   have hwd : Dd ((dg n).getD (k - 1) 0 :: dg (n / 10000 ^ k % m)) := by
    intro x hx
    rcases List.mem_cons.1 hx with rfl | hx
    · exact dlt _ _
    · exact Dd.dg _ x hx
   refine gL h (zf [_] rfl call180 (Zoe ad51 c51 ((dg n).getD (k - 1) 0 :: dg (n / 10000 ^ k % m)) hwd hle51 (by simp only [List.length_cons]; omega)) ?_); clear h; rintro v52 Ψ52 ⟨rfl, rfl⟩ a w h
   obtain ⟨R, hR⟩ : ∃ R, R = (dg n).getD (k - 1) 0 + 10000 * (n / 10000 ^ k % m) := ⟨_, rfl⟩
   rw [show Qp ((dg n).getD (k - 1) 0 :: dg (n / 10000 ^ k % m)) = R from by rw [hR, Qp, Yd]] at h
   have hkk : k - 1 + 1 = k := oo
   have hR' : R = (dg n).getD (k - 1) 0 + 10000 * (n / 10000 ^ (k - 1 + 1) % m) := by rw [hkk]; exact hR
   have hRm : R < 10000 * m := Qdr hR (dlt n _) (Nat.mod_lt _ hm0)
   have hRl := Zz3 hRm
   refine gL h (za rfl (zn (zS (zm rfl (zm rfl (zw [_, _] rfl call206 (Zyq _ _ R ((dg m).length - 3) oo oo oo) ?_))))))
   have htop : 0 < Qp ((dg m).drop ((dg m).length - 3)) := Qc6 hm oo
   have hFR := Zks R ((dg m).length - 3) ((dg m).length - 3) oo (Nat.le_refl _)
   have hFT := Zks m ((dg m).length - 3) ((dg m).length - 3) oo (Nat.le_refl _)
   have hq1 : Qp ((dg R).drop ((dg m).length - 3)) / (Qp ((dg m).drop ((dg m).length - 3)) + 1) ≤ Qp ((dg R).drop ((dg m).length - 3)) := Nat.div_le_self _ _
   have hq2 : Qp ((dg R).drop ((dg m).length - 3)) / Qp ((dg m).drop ((dg m).length - 3)) ≤ Qp ((dg R).drop ((dg m).length - 3)) := Nat.div_le_self _ _
   have hql : Qp ((dg R).drop ((dg m).length - 3)) / (Qp ((dg m).drop ((dg m).length - 3)) + 1) ≤ R / m := Qeg hm0
   have hqh : R / m ≤ Qp ((dg R).drop ((dg m).length - 3)) / Qp ((dg m).drop ((dg m).length - 3)) := Qa4 htop
   have hq9 : R / m < 10000 := (Nat.div_lt_iff_lt_mul hm0).2 hRm
   have hn1 : (0 : Int) ≤ ((R / m : Nat) : Int) := Int.natCast_nonneg _
   have hn2 : (0 : Int) ≤ ((Qp ((dg R).drop ((dg m).length - 3)) / (Qp ((dg m).drop ((dg m).length - 3)) + 1) : Nat) : Int) := Int.natCast_nonneg _
   have hn3 : (0 : Int) ≤ ((Qp ((dg R).drop ((dg m).length - 3)) / Qp ((dg m).drop ((dg m).length - 3)) : Nat) : Int) := Int.natCast_nonneg _
   refine za rfl (zn (zs (yD Za [0, 1, 2, 3, 4, 5, 6, 7, 8, 9] (Zb kk) (ym rfl rfl (ym rfl rfl (yp rfl (.pN ((Qp ((dg m).drop ((dg m).length - 3))) + 1) (.add rfl rfl)) (yp rfl (Pure1.cast (v' := .int .i64 ((Qp ((dg R).drop ((dg m).length - 3)) / (Qp ((dg m).drop ((dg m).length - 3)) + 1) : Nat) : Int)) (.binOp rfl rfl (fun _ => Ys _ _ _ _ _ oo)) (by rw [Xp, wrap_i64 _ oo oo])) (ym rfl rfl (ym rfl rfl (yp rfl (Pure1.cast (v' := .int .i64 ((Qp ((dg R).drop ((dg m).length - 3)) / Qp ((dg m).drop ((dg m).length - 3)) : Nat) : Int)) (.binOp rfl rfl (fun _ => Ys _ _ _ _ _ oo)) (by rw [Xp, wrap_i64 _ oo oo])) (yp rfl (.pO (min (Qp ((dg R).drop ((dg m).length - 3)) / Qp ((dg m).drop ((dg m).length - 3))) 9999) (.builtin [_, _] rfl (fun w ty cs => Qcf _ _ w ty cs))) (yp rfl (.assign rfl) (yp rfl (.assign rfl) (yn (zs (zb ?_)))))))))))))))); intro a w h
   refine Zg (fun (g : Nat) a w => ∃ lo hi, (lo + g = hi ∧ lo ≤ R / m ∧ R / m ≤ hi ∧ hi ≤ 9999) ∧ St 97 S w0 [(0, .slice (some ⟨B_ad1, O_ad1, none⟩) ((dg n).length) c1), (1, .slice ad2 ((dg m).length) c2), (6, nI ((dg m).length - 3)), (7, nI (Qp ((dg m).drop ((dg m).length - 3)))), (8, .int .i64 (((k : Nat) : Int) - 1)), (9, .slice (some ⟨b34, 0, none⟩) (((dg n).length - (dg m).length) + 1) (((dg n).length - (dg m).length) + 1)), (10, .slice ad51 ((dg R).length) c51), (12, nI lo), (13, nI hi)] [(b34, .cells (List.map Zo (Z)).toArray 3 (0, 0))] [Row ad51 (List.map Zo (dg R)), Row ad51 (List.map Zo ((dg n).getD (k - 1) 0 :: dg (n / 10000 ^ k % m))), Row (some ⟨B_ad1, O_ad1, none⟩) (List.map Zo (dg n)), Row ad2 (List.map Zo (dg m)), Row ad (List.map Zo (dg (n / 10000 ^ k % m)))] a w) (fun g => g) ((min (Qp ((dg R).drop ((dg m).length - 3)) / Qp ((dg m).drop ((dg m).length - 3))) 9999 - Qp ((dg R).drop ((dg m).length - 3)) / (Qp ((dg m).drop ((dg m).length - 3)) + 1))) (⟨Qp ((dg R).drop ((dg m).length - 3)) / (Qp ((dg m).drop ((dg m).length - 3)) + 1), min (Qp ((dg R).drop ((dg m).length - 3)) / Qp ((dg m).drop ((dg m).length - 3))) 9999, ⟨oo, hql, oo, oo⟩, by exact h.sub sA⟩) ?_; clear h
   rintro g a w ⟨lo, hi, ⟨hg, hlo, hhi, h9⟩, h⟩
   refine gC h (zs (zS (zm rfl (zm rfl (zp (.lss rfl rfl) (zn ?_)))))); clear h; intro a w h
   refine cW ?_
   refine Zc h rfl (fun hc66 => ?_) (fun hc66 => ?_)
   ·
    skip
    have hrun : lo < hi := dT hc66
    refine gC h (zk (zb (zS (zm rfl (zm rfl (zp (.pN (lo + hi) (.add rfl rfl)) (zp (.pN ((lo + hi) + 1) (.add rfl rfl)) (zp (Pure1.cast (v' := .int .i64 (((lo + hi + 1) / 2 : Nat) : Int)) (.binOp rfl rfl (fun _ => Ys _ _ _ _ _ dd)) (by rw [show (2 : Int) = ((2 : Nat) : Int) from rfl, Xp, wrap_i64 _ oo oo])) (za rfl (zn (zS (zm rfl (zm rfl (zp (.convert rfl (Zsu _ (wrap_u64 _ oo oo))) (zf [_] rfl call181 (Zyo ((lo + hi + 1) / 2) oo) ?_))))))))))))))); rintro v75 Ψ75 ⟨ad75, c75, rfl, hle75, rfl⟩
    have hl75 := dg5 ((lo + hi + 1) / 2) oo
    refine zf [_, _] rfl call131 (Zoh _ _ _ _ m ((lo + hi + 1) / 2) oo oo) ?_; rintro v76 Ψ76 ⟨ad76, c76, rfl, hle76, rfl⟩
    have hl76 := Kv m ((lo + hi + 1) / 2)
    refine zm rfl (zw [_, _] rfl call178 (Zys _ _ _ _ (m * ((lo + hi + 1) / 2)) R oo oo) (zp (.leq rfl rfl) (zn ?_))); intro a w h
    refine cW ?_
    refine Zc h rfl (fun hc79 => ?_) (fun hc79 => ?_)
    ·
     skip
     have hmid : (lo + hi + 1) / 2 ≤ R / m := by
      have h3 := Zx2.1 (of_decide_eq_true hc79)
      rwa [Nat.le_div_iff_mul_le hm0, Nat.mul_comm]
     refine gC h (zr (zm rfl (za rfl (zn ?_)))); clear h; intro a w h
     exact ⟨hi - ((lo + hi + 1) / 2), ⟨(lo + hi + 1) / 2, hi, ⟨oo, oo, by omega, oo⟩, by exact (h.factsSub (by simp)).sub sA⟩, oo⟩
    ·
     skip
     have hmid : R / m < (lo + hi + 1) / 2 := by
      have h3 := of_decide_eq_false hc79
      rw [Zx2] at h3
      rw [Nat.div_lt_iff_lt_mul hm0, Nat.mul_comm]; omega
     refine gC h (zr (zm rfl (zp (.pO (((lo + hi + 1) / 2) - 1) (.sub rfl rfl)) (za rfl (zn ?_))))); clear h; intro a w h
     exact ⟨(((lo + hi + 1) / 2) - 1) - lo, ⟨lo, ((lo + hi + 1) / 2) - 1, ⟨oo, oo, by omega, oo⟩, by exact (h.factsSub (by simp)).sub sA⟩, oo⟩
   ·
    skip
    obtain rfl : lo = R / m := dF hc66
    refine gC h (ze (zS (zm rfl (zp (.pO (k - 1) (.move rfl)) (zm rfl (zp (.indexAddr rfl rfl (Zdw _ _ _ _ _ oo)) (zt' rfl rfl ((congrArg (fun z => Qu _ z _) (Nat.zero_add _)).trans (Yx (enc := Zo) Z (k - 1) (R / m))) uu sizeOf3 rfl (by simp; omega) rfl ?_)))))))
    refine zn (zr (zm rfl (zm rfl (zm rfl (zp (.convert rfl (Zsu _ (wrap_u64 _ oo oo))) (zf [_] rfl call181 (Zyo (R / m) oo) ?_)))))); rintro v91 Ψ91 ⟨ad91, c91, rfl, hle91, rfl⟩
    have hl91 := dg5 (R / m) oo
    refine zf [_, _] rfl call131 (Zoh _ _ _ _ m (R / m) oo oo) ?_; rintro v92 Ψ92 ⟨ad92, c92, rfl, hle92, rfl⟩
    have hl92 := Kv m (R / m)
    refine zf [_, _] rfl call177 (Ztb _ _ _ _ R (m * (R / m)) oo oo (Nat.mul_div_le R m)) ?_; rintro v93 Ψ93 ⟨ad93, c93, rfl, hle93, rfl⟩ a w h
    have e93 : R - m * (R / m) = n / 10000 ^ (k - 1) % m := by rw [Znw n m (k - 1) R hR', Nat.mod_def]
    rw [e93] at h hle93
    refine gL h (za rfl (zn (zr (zm rfl (zp (Pure1.cast (v' := .int .i64 (((k - 1 : Nat) : Int) - 1)) (.sub rfl rfl) (by show Value.int _ _ = Value.int _ _; congr 1; omega)) (za rfl (zn ?_))))))); clear h; intro a w h
    exact ⟨k - 1, ⟨Z.set (k - 1) (R / m), ad93, c93, ⟨oo, by rw [List.length_set]; exact hZl, hZw.set _ _ oo, by rw [Zkt oo, hkk, hZv, Znv n m (k - 1) R hm0 hR', hkk], hle93⟩, by exact (h.factsSub (by simp)).sub sA⟩, oo⟩
  ·
   skip
   obtain rfl : k = 0 := dF hc42
   refine gC h (ze (zS (zm rfl ?_))); clear h; intro a w h
   have hZ0 : Qp Z = n / m := by simpa using hZv
   rw [show n / 10000 ^ 0 % m = n % m from by simp] at h hlc
   rw [← hZl] at h
   replace h := h.shareAll hS (List.map Zo Z) rfl
   refine gL h (zf [_] rfl call180 (Zoe (some ⟨b34, 0, none⟩) Z.length Z hZw (Nat.le_refl _) oo) ?_); clear h; rintro v95 Ψ95 ⟨rfl, rfl⟩ a w h
   rw [hZ0] at h
   refine gL h (zm rfl (za rfl (za rfl (zn (zt ?_))))); clear h; intro a w h
   exact Qk (Ψ := [Row (some ⟨b34, 0, none⟩) (List.map Zo (dg (n / m))), Row ad (List.map Zo (dg (n % m)))]) h (Jv h rfl (.tmp rfl) (.tmp rfl)) ⟨_, _, _, _, rfl, by rw [← hZ0]; exact Zhg hZw, hlc, rfl⟩ ss
theorem C_rGcd (ad1 ad2 : Option Addr) (c1 c2 : Nat) (n m : Nat) (h1 : (dg n).length ≤ 300000000000) (h2 : (dg m).length ≤ 300000000000) (hc1 : (dg n).length ≤ c1) (hc2 : (dg m).length ≤ c2) :
  Ctr Tryz.prog 175 [.slice ad1 (dg n).length c1, .slice ad2 (dg m).length c2] [Row ad1 (List.map Zo (dg n)), Row ad2 (List.map Zo (dg m))] (Zob (Nat.gcd n m)) := by
 refine fn_intro func175 rfl ntmps175 nb ?_
 intro S w0 a hS h
 refine gC h (zS (za rfl (zn (zs (zb ?_))))); clear h; intro a w h
 refine Zg (fun (y : Nat) a w => ∃ x p cp q cq, (Nat.gcd x y = Nat.gcd n m ∧ (dg x).length ≤ 300000000000 ∧ (dg y).length ≤ 300000000000 ∧ (dg x).length ≤ cp ∧ (dg y).length ≤ cq) ∧ St 19 S w0 [(0, .slice p ((dg x).length) cp), (1, .slice q ((dg y).length) cq)] [] [Row p (List.map Zo (dg x)), Row q (List.map Zo (dg y))] a w) (fun y => y) (m) (⟨n, ad1, c1, ad2, c2, ⟨rfl, h1, h2, hc1, hc2⟩, by exact (h.factsSub (by simp)).sub sA⟩) ?_; clear h
 rintro y a w ⟨x, p, cp, q, cq, ⟨hg, hx1, hy1, hcp, hcq⟩, h⟩
 refine gC h (zs (zS (zm rfl (zp (.builtin [_] rfl (Qc _ _ _)) (zp (.gtr rfl rfl) (zn ?_)))))); clear h; intro a w h
 refine cW ?_
 refine Zc h rfl (fun hc9 => ?_) (fun hc9 => ?_)
 ·
  skip
  have hy : y ≠ 0 := by
   intro e; subst e; rw [Jk] at hc9; exact absurd (of_decide_eq_true hc9) dd
  have hl3 := Vz (Nat.le_of_lt (Nat.mod_lt x (Nat.pos_of_ne_zero hy)))
  refine gC h (zk (zb (zS (zm rfl (zm rfl (zf [_, _] rfl call176 (Zyr _ _ _ _ x y oo oo oo oo) ?_)))))); rintro v13 Ψ13 ⟨ad13, c13, bd13, d13, rfl, hle13, hlf13, rfl⟩
  refine zm rfl (zp (.eX rfl) (zp (.eX rfl) (za rfl (za rfl (zn (zS (zm rfl (za rfl (zn (zr (zm rfl (za rfl (zn ?_))))))))))))); intro a w h
  exact ⟨x % y, ⟨y, q, cq, bd13, d13, ⟨by rw [← hg, Nat.gcd_comm x y, Nat.gcd_rec y x, Nat.gcd_comm], hy1, oo, hcq, hlf13⟩, by exact (h.factsSub (by simp)).sub sA⟩, Nat.mod_lt _ (Nat.pos_of_ne_zero hy)⟩
 ·
  skip
  obtain rfl : y = 0 := by
   have h3 := of_decide_eq_false hc9
   exact Zsp.1 (List.eq_nil_of_length_eq_zero oo)
  refine gC h (ze (zS (zm rfl (za rfl (zn (zt ?_)))))); clear h; intro a w h
  refine Qk (Ψ := [Row p (List.map Zo (dg x))]) h (Zd h rfl (.tmp rfl)) ?_ ss
  rw [Nat.gcd_zero_right] at hg; subst hg; exact ⟨p, cp, rfl, hcp, rfl⟩
end
section
theorem Zn6 (x0 : Bool) (x1 : Option Addr) (x1n : Nat) (x1c : Nat) (w : World) : (Instr.build 54 [(0, .bool x0), (1, .slice x1 x1n x1c)].toArray).run Tryz.prog w = .ok (.agg #[.bool x0, .slice x1 x1n x1c]) w := by simp [go_sem]
theorem Zsw (x : Int) (h0 : IntKind.u64.wrap x = x) (w : World) : (Go.convert 2 36 (.int .i64 x)).run Tryz.prog w = .ok (.int .u64 x) w := by
 rw [Zp9, h0]
theorem Vx {b off : Nat} (w : World) : (Instr.fieldAt 54 (.pointer (some ⟨b, off, none⟩)) 1).run Tryz.prog w = .ok (.pointer (some ⟨b, off + 1, none⟩)) w := by
 simp [go_sem]
theorem Zap {b off : Nat} (w : World) : (Instr.fieldAt 54 (.pointer (some ⟨b, off, none⟩)) 0).run Tryz.prog w = .ok (.pointer (some ⟨b, off + 0, none⟩)) w := by
 simp [go_sem]
abbrev zV (z : Int) (ad : Option Addr) (c : Nat) : Value := .agg #[.bool (decide (z < 0)), .slice ad (dg z.natAbs).length c]
def Zyf (z : Int) (v : Value) (Ψ : List Qh) : Prop := ∃ ad c, v = zV z ad c ∧ (dg z.natAbs).length ≤ c ∧ Ψ = [Row ad (List.map Zo (dg z.natAbs))]
theorem Zc2 {b : Bool} {n : Nat} {z : Int} {ad : Option Addr} {c : Nat} (hs : sgZ b n = z) (hle : (dg n).length ≤ c) : Zyf z (.agg #[.bool (decide (sgZ b n < 0)), .slice ad (dg n).length c]) [Row ad (List.map Zo (dg n))] := by
 subst hs; refine ⟨ad, c, ?_, ?_, ?_⟩
 · unfold zV; rw [Zb7]
 · rw [Zb7]; exact hle
 · rw [Zb7]
theorem Zur {n : Nat} : decide (((dg n).length : Int) > 0) = !decide (n = 0) := by
 by_cases h : n = 0
 · subst h; rw [Jk]; rfl
 ·
  have : 0 < (dg n).length := List.length_pos_iff.2 (fun e => h (Zsp.1 e))
  rw [decide_eq_true (by omega : ((dg n).length : Int) > 0)]; simp [h]
theorem Zkm {n : Nat} : (((dg n).length : Int) == 0) = decide (n = 0) := by
 by_cases h : n = 0
 · subst h; rw [Jk]; rfl
 ·
  have : 0 < (dg n).length := List.length_pos_iff.2 (fun e => h (Zsp.1 e))
  rw [decide_eq_false h]; exact beq_eq_false_iff_ne.2 oo
theorem Zu2 {x y : Int} (h : decide (x < 0) = decide (y < 0)) : sgZ (decide (x < 0)) (x.natAbs + y.natAbs) = x + y := by
 have h' := decide_eq_decide.1 h
 unfold sgZ; split <;> rename_i h1 <;> simp at h1 <;> omega
theorem Qcz {x y : Int} (h : decide (x < 0) ≠ decide (y < 0)) (hle : y.natAbs ≤ x.natAbs) : sgZ (decide (x < 0)) (x.natAbs - y.natAbs) = x + y := by
 have h' : ¬ (x < 0 ↔ y < 0) := fun e => h (decide_eq_decide.2 e)
 unfold sgZ; split <;> rename_i h1 <;> simp at h1 <;> omega
theorem Qcy {x y : Int} (h : decide (x < 0) ≠ decide (y < 0)) (hle : x.natAbs < y.natAbs) : sgZ (decide (y < 0)) (y.natAbs - x.natAbs) = x + y := by
 have h' : ¬ (x < 0 ↔ y < 0) := fun e => h (decide_eq_decide.2 e)
 unfold sgZ; split <;> rename_i h1 <;> simp at h1 <;> omega
theorem Qcx (x y : Int) : sgZ (decide (x < 0) != decide (y < 0)) (x.natAbs * y.natAbs) = x * y := by
 unfold sgZ
 have hlt : ∀ z : Int, z < 0 ∨ 0 ≤ z := fun z => by omega
 rcases hlt x with hx | hx <;> rcases hlt y with hy | hy
 · rw [decide_eq_true hx, decide_eq_true hy]; simp; rw [Int.ofNat_natAbs_of_nonpos (Int.le_of_lt hx), Int.ofNat_natAbs_of_nonpos (Int.le_of_lt hy), Int.neg_mul_neg]
 · rw [decide_eq_true hx, decide_eq_false oo]; simp; rw [Int.ofNat_natAbs_of_nonpos (Int.le_of_lt hx), Int.natAbs_of_nonneg hy, Int.neg_mul, Int.neg_neg]
 · rw [decide_eq_false oo, decide_eq_true hy]; simp; rw [Int.ofNat_natAbs_of_nonpos (Int.le_of_lt hy), Int.natAbs_of_nonneg hx, Int.mul_neg, Int.neg_neg]
 · rw [decide_eq_false oo, decide_eq_false oo]; simp; rw [Int.natAbs_of_nonneg hx, Int.natAbs_of_nonneg hy]
theorem Zc9 (x y : Int) : (dg (x * y).natAbs).length ≤ (dg x.natAbs).length + (dg y.natAbs).length := by rw [Int.natAbs_mul]; exact Kv _ _
theorem Zxs (x y : Int) : (dg (x + y).natAbs).length ≤ max (dg x.natAbs).length (dg y.natAbs).length + 1 :=
 Nat.le_trans (Vz (Int.natAbs_add_le x y)) (Zgt _ _)
theorem Zcb (b : Bool) (ad : Option Addr) (c n : Nat) : Yi Tryz.prog 132 [.bool b, .slice ad (dg n).length c] (.agg #[.bool (decide (sgZ b n < 0)), .slice ad (dg n).length c]) := by
 refine fn_intro func132 rfl ntmps132 nb ?_
 intro S w0 a hS h
 refine gC h (zS (zz zeroValue54 fun b4 => zn (zS (zm rfl ?_)))); clear h; intro a w h
 refine Zl h (fun hc5 h => ?_) (fun hc5 h => ?_)
 ·
  skip
  refine gL h (zm rfl (zq 6 rfl rfl (.move rfl) (zq 6 rfl rfl (.builtin [_] rfl (Qc _ _ _)) (zq 6 rfl rfl (.gtr rfl rfl) (zp (.pickT rfl rfl) (zm rfl (zp (.build [(_, _), (_, _)] rfl (Zn6 _ _ _ _)) (zt' rfl rfl Qg uu sizeOf54 rfl nb rfl ?_)))))))); clear h; intro a w h
  refine wpList_nil (wp_ret ?_)
  refine Jp h (Zd h rfl (.cell rfl mr isAgg54 sizeOf54 Zn)) ?_
  rw [hc5, Zky, Zur]; rfl
 ·
  skip
  refine gL h (zm rfl (zo 6 rfl rfl rfl (zo 6 rfl rfl rfl (zo 6 rfl rfl rfl (zp (.pickF rfl rfl) (zm rfl (zp (.build [(_, _), (_, _)] rfl (Zn6 _ _ _ _)) (zt' rfl rfl Qg uu sizeOf54 rfl nb rfl ?_)))))))); clear h; intro a w h
  refine wpList_nil (wp_ret ?_)
  refine Jp h (Zd h rfl (.cell rfl mr isAgg54 sizeOf54 Zn)) ?_
  rw [hc5, Zky]; rfl
theorem C_zOf (n : Int) (h0 : -9223372036854775808 ≤ n) (h1 : n ≤ 9223372036854775807) : Ctr Tryz.prog 133 [.int .i64 n] [] (Zyf n) := by
 refine fn_intro func133 rfl ntmps133 nb ?_
 intro S w0 a hS h
 refine gC h (zS (zz zeroValue54 fun b2 => zn (zs (zS (zm rfl (zp (.lss rfl rfl) (zn ?_))))))); clear h; intro a w h
 refine cW ?_
 refine Zc h rfl (fun hc4 => ?_) (fun hc4 => ?_)
 ·
  skip
  have hn : n < 0 := of_decide_eq_true hc4
  refine gC h (zS (zm rfl (zp (.add rfl rfl) (zp (Pure1.cast (v' := .int .i64 (-(n + 1))) (.unOp rfl (fun w => Zz0 _ oo oo w)) (by rfl)) (zp (.convert rfl (Zsw _ (wrap_u64 _ oo oo))) (zp (Pure1.cast (v' := .int .u64 ((n.natAbs : Nat) : Int)) (.binOp rfl rfl (fun _ => Zh2 _ _ _ _ _ (wrap_u64 _ oo oo))) (by show Value.int _ _ = Value.int _ _; congr 1; omega)) (zf [_] rfl call181 (Zyo n.natAbs oo) ?_))))))); rintro v10 Ψ10 ⟨ad10, c10, rfl, hle10, rfl⟩
  refine zv [_, _] rfl call132 (Zcb true ad10 c10 n.natAbs) (zt' rfl rfl Qg uu sizeOf54 rfl nb rfl ?_); intro a w h
  refine wpList_nil (wp_ret ?_)
  refine Qk (Ψ := [Row ad10 (List.map Zo (dg n.natAbs))]) h (Zd h rfl (.cell rfl mr isAgg54 sizeOf54 Zn)) ?_ ss
  exact Zc2 (by unfold sgZ; simp; omega) hle10
 ·
  skip
  have hn : ¬ n < 0 := of_decide_eq_false hc4
  refine gC h (zk (zS (zm rfl (zp (Pure1.cast (v' := .int .u64 ((n.natAbs : Nat) : Int)) (.convert rfl (Zsw _ (wrap_u64 _ oo oo))) (by show Value.int _ _ = Value.int _ _; congr 1; omega)) (zf [_] rfl call181 (Zyo n.natAbs oo) ?_))))); rintro v14 Ψ14 ⟨ad14, c14, rfl, hle14, rfl⟩
  refine zv [_, _] rfl call132 (Zcb false ad14 c14 n.natAbs) (zt' rfl rfl Qg uu sizeOf54 rfl nb rfl ?_); intro a w h
  refine wpList_nil (wp_ret ?_)
  refine Qk (Ψ := [Row ad14 (List.map Zo (dg n.natAbs))]) h (Zd h rfl (.cell rfl mr isAgg54 sizeOf54 Zn)) ?_ ss
  exact Zc2 (by unfold sgZ; simp; omega) hle14
theorem Qe7 (z : Int) (ad : Option Addr) (c : Nat) : Yi Tryz.prog 150 [zV z ad c] (.int .i64 z.sign) := by
 refine fn_intro func150 rfl ntmps150 nb ?_
 intro S w0 a hS h
 refine gC h (zS (zx rfl fun b1 => za rfl (zn (zs (zS (zp (.fA rfl Vx) (zd rfl mr isAgg52 sizeOf52 Xn ?_)))))))
 refine zp (.builtin [_] rfl (Qc _ _ _)) (zp (.eql rfl rfl) (zn ?_)); intro a w h
 refine cW ?_
 refine Zc h rfl (fun hc6 => ?_) (fun hc6 => ?_)
 ·
  skip
  have hz : z.natAbs = 0 := by rw [Zkm] at hc6; exact of_decide_eq_true hc6
  refine gC h (zS (za rfl (zn (zt ?_)))); clear h; intro a w h
  refine Jp h (Zd h rfl (.tmp rfl)) ?_
  rw [Int.natAbs_eq_zero.1 hz]; rfl
 ·
  skip
  have hz : z.natAbs ≠ 0 := by rw [Zkm] at hc6; exact of_decide_eq_false hc6
  refine gC h (zk (zs (zS (zp (.fA rfl Zap) (zd rfl mr isAgg4 sizeOf4 Xy ?_))))); clear h; intro a w h
  refine wpList_nil ?_
  refine cW ?_
  refine Zc h rfl (fun hc8 => ?_) (fun hc8 => ?_)
  ·
   skip
   have hs : z < 0 := of_decide_eq_true hc8
   refine gC h (zS (za rfl (zn (zt ?_)))); clear h; intro a w h
   refine Jp h (Zd h rfl (.tmp rfl)) ?_
   rw [Int.sign_eq_neg_one_of_neg hs]
  ·
   skip
   have hs : ¬ z < 0 := of_decide_eq_false hc8
   refine gC h (zk (zS (za rfl (zn (zt ?_))))); clear h; intro a w h
   refine Jp h (Zd h rfl (.tmp rfl)) ?_
   rw [Int.sign_eq_one_of_pos oo]
theorem C_zNeg (z : Int) (ad : Option Addr) (c : Nat) : Yi Tryz.prog 174 [zV z ad c] (zV (-z) ad c) := by
 refine fn_intro func174 rfl ntmps174 nb ?_
 intro S w0 a hS h
 refine gC h (zS (zx rfl fun b1 => zz zeroValue54 fun b2 => zn (zS (zp (.fA rfl Zap) (zd rfl mr isAgg4 sizeOf4 Xy ?_)))))
 refine zp (.unOp rfl (Yp _)) (zp (.fA rfl Vx) (zd rfl mr isAgg52 sizeOf52 Xn ?_))
 refine zv [_, _] rfl call132 (Zcb (!decide (z < 0)) ad c z.natAbs) (zt' rfl rfl Qg uu sizeOf54 rfl nb rfl ?_); intro a w h
 refine wpList_nil (wp_ret ?_)
 refine Jp h (Zd h rfl (.cell rfl mr isAgg54 sizeOf54 Zn)) ?_
 unfold zV; rw [show sgZ (!decide (z < 0)) z.natAbs = -z from by unfold sgZ; split <;> rename_i h1 <;> simp at h1 <;> omega, Int.natAbs_neg]
theorem C_zAdd (a1 a2 : Option Addr) (c1 c2 : Nat) (x y : Int) (h1 : (dg x.natAbs).length ≤ 300000000000) (h2 : (dg y.natAbs).length ≤ 300000000000) : Ctr Tryz.prog 128 [zV x a1 c1, zV y a2 c2] [Row a1 (List.map Zo (dg x.natAbs)), Row a2 (List.map Zo (dg y.natAbs))] (Zyf (x + y)) := by
 refine fn_intro func128 rfl ntmps128 nb ?_
 intro S w0 a hS h
 refine gC h (zS (zx rfl fun b2 => zx rfl fun b3 => zz zeroValue54 fun b4 => zn (zs (zS (zp (.fA rfl Zap) (zd rfl mr isAgg4 sizeOf4 Xy ?_))))))
 refine zp (.fA rfl Zap) (zd rfl mr isAgg4 sizeOf4 Xy ?_)
 refine zp (.binOp rfl rfl (fun _ => Zq2 _ underlying4 _ _ _ _)) (zn ?_); intro a w h
 refine cW ?_
 refine Zc h rfl (fun hc9 => ?_) (fun hc9 => ?_)
 ·
  skip
  have hs := eq_of_beq hc9
  refine gC h (zs (yD Za [0, 1, 2, 3, 4, 5, 6, 7, 8] (Zb kk) (yp rfl (.fA rfl Zap) (yd rfl rfl mr isAgg4 sizeOf4 Xy ?_)))); clear h
  refine yp rfl (.fA rfl Vx) (yd rfl rfl mr isAgg52 sizeOf52 Xn ?_)
  refine yp rfl (.fA rfl Vx) (yd rfl rfl mr isAgg52 sizeOf52 Xn ?_)
  refine yf [_, _] rfl rfl call172 (Qcr _ _ _ _ x.natAbs y.natAbs oo oo) ?_; rintro v16 Ψ16 ⟨ad16, c16, rfl, hle16, rfl⟩
  have hl16 := Zgt x.natAbs y.natAbs
  refine yv [_, _] rfl rfl call132 (Zcb (decide (x < 0)) ad16 c16 (x.natAbs + y.natAbs)) (yt rfl rfl rfl Qg uu sizeOf54 rfl nb rfl ?_)
  refine yn (zt ?_); intro a w h
  refine Qk (Ψ := [Row ad16 (List.map Zo (dg (x.natAbs + y.natAbs)))]) h (Zd h rfl (.cell rfl mr isAgg54 sizeOf54 Zn)) ?_ ss
  exact Zc2 (Zu2 hs) hle16
 ·
  skip
  have hs := ne_of_beq_false hc9
  refine gC h (zk (zs (zS (zp (.fA rfl Vx) (zd rfl mr isAgg52 sizeOf52 Xn ?_)))))
  refine zp (.fA rfl Vx) (zd rfl mr isAgg52 sizeOf52 Xn ?_)
  refine zw [_, _] rfl call178 (Zys _ _ _ _ x.natAbs y.natAbs oo oo) (zp (.geq rfl rfl) (zn ?_)); intro a w h
  refine cW ?_
  refine Zc h rfl (fun hc23 => ?_) (fun hc23 => ?_)
  ·
   skip
   have hle : y.natAbs ≤ x.natAbs := by
    have h3 := of_decide_eq_true hc23
    unfold Zjh at h3; split at h3 <;> omega
   refine gC h (zs (yD Za [0, 1, 2, 3, 4, 5, 6, 7, 8] (Zb kk) (yp rfl (.fA rfl Zap) (yd rfl rfl mr isAgg4 sizeOf4 Xy ?_)))); clear h
   refine yp rfl (.fA rfl Vx) (yd rfl rfl mr isAgg52 sizeOf52 Xn ?_)
   refine yp rfl (.fA rfl Vx) (yd rfl rfl mr isAgg52 sizeOf52 Xn ?_)
   refine yf [_, _] rfl rfl call177 (Ztb _ _ _ _ x.natAbs y.natAbs oo oo hle) ?_; rintro v30 Ψ30 ⟨ad30, c30, rfl, hle30, rfl⟩
   refine yv [_, _] rfl rfl call132 (Zcb (decide (x < 0)) ad30 c30 (x.natAbs - y.natAbs)) (yt rfl rfl rfl Qg uu sizeOf54 rfl nb rfl ?_)
   refine yn (zt ?_); intro a w h
   refine Qk (Ψ := [Row ad30 (List.map Zo (dg (x.natAbs - y.natAbs)))]) h (Zd h rfl (.cell rfl mr isAgg54 sizeOf54 Zn)) ?_ ss
   exact Zc2 (Qcz hs hle) hle30
  ·
   skip
   have hle : x.natAbs < y.natAbs := by
    have h3 := of_decide_eq_false hc23
    unfold Zjh at h3; split at h3
    · assumption
    · split at h3 <;> omega
   refine gC h (zk (zs (yD Za [0, 1, 2, 3, 4, 5, 6, 7, 8] (Zb kk) (yp rfl (.fA rfl Zap) (yd rfl rfl mr isAgg4 sizeOf4 Xy ?_))))); clear h
   refine yp rfl (.fA rfl Vx) (yd rfl rfl mr isAgg52 sizeOf52 Xn ?_)
   refine yp rfl (.fA rfl Vx) (yd rfl rfl mr isAgg52 sizeOf52 Xn ?_)
   refine yf [_, _] rfl rfl call177 (Ztb _ _ _ _ y.natAbs x.natAbs oo oo (Nat.le_of_lt hle)) ?_; rintro v38 Ψ38 ⟨ad38, c38, rfl, hle38, rfl⟩
   refine yv [_, _] rfl rfl call132 (Zcb (decide (y < 0)) ad38 c38 (y.natAbs - x.natAbs)) (yt rfl rfl rfl Qg uu sizeOf54 rfl nb rfl ?_)
   refine yn (zt ?_); intro a w h
   refine Qk (Ψ := [Row ad38 (List.map Zo (dg (y.natAbs - x.natAbs)))]) h (Zd h rfl (.cell rfl mr isAgg54 sizeOf54 Zn)) ?_ ss
   exact Zc2 (Qcy hs hle) hle38
theorem Zyi (a1 a2 : Option Addr) (c1 c2 : Nat) (x y : Int) (h1 : (dg x.natAbs).length ≤ 300000000000) (h2 : (dg y.natAbs).length ≤ 300000000000) : Ctr Tryz.prog 129 [zV x a1 c1, zV y a2 c2] [Row a1 (List.map Zo (dg x.natAbs)), Row a2 (List.map Zo (dg y.natAbs))] (Zyf (x * y)) := by
 refine fn_intro func129 rfl ntmps129 nb ?_
 intro S w0 a hS h
 refine gC h (zS (zx rfl fun b2 => zx rfl fun b3 => zz zeroValue54 fun b4 => zn (zs (yD Za [0, 1, 2, 3, 4, 5, 6, 7, 8, 9, 10, 11] (Zb kk) (yp rfl (.fA rfl Zap) (yd rfl rfl mr isAgg4 sizeOf4 Xy ?_)))))); clear h
 refine yp rfl (.fA rfl Zap) (yd rfl rfl mr isAgg4 sizeOf4 Xy ?_)
 refine yp rfl (.binOp rfl rfl (fun _ => Zq1 _ underlying4 _ _ _ _)) (yp rfl (.fA rfl Vx) (yd rfl rfl mr isAgg52 sizeOf52 Xn ?_))
 refine yp rfl (.fA rfl Vx) (yd rfl rfl mr isAgg52 sizeOf52 Xn ?_)
 refine yf [_, _] rfl rfl call131 (Zoh _ _ _ _ x.natAbs y.natAbs oo oo) ?_; rintro v14 Ψ14 ⟨ad14, c14, rfl, hle14, rfl⟩
 have hl14 := Kv x.natAbs y.natAbs
 refine yv [_, _] rfl rfl call132 (Zcb (decide (x < 0) != decide (y < 0)) ad14 c14 (x.natAbs * y.natAbs)) (yt rfl rfl rfl Qg uu sizeOf54 rfl nb rfl ?_)
 refine yn (zt ?_); intro a w h
 refine Qk (Ψ := [Row ad14 (List.map Zo (dg (x.natAbs * y.natAbs)))]) h (Zd h rfl (.cell rfl mr isAgg54 sizeOf54 Zn)) ?_ ss
 exact Zc2 (Qcx x y) hle14
end
section
theorem Zp1 {b off : Nat} (w : World) : (Instr.fieldAt 56 (.pointer (some ⟨b, off, none⟩)) 1).run Tryz.prog w = .ok (.pointer (some ⟨b, off + 2, none⟩)) w := by
 simp [go_sem]
theorem Zn5 (x0_0 : Value) (x0_1 : Value) (x1 : Option Addr) (x1n : Nat) (x1c : Nat) (w : World) : (Instr.build 56 [(0, .agg #[x0_0, x0_1]), (1, .slice x1 x1n x1c)].toArray).run Tryz.prog w = .ok (.agg #[x0_0, x0_1, .slice x1 x1n x1c]) w := by simp [go_sem]
theorem Qew (x0_0 : Value) (x0_1 : Value) (w : World) : (Instr.build 56 [(0, .agg #[x0_0, x0_1])].toArray).run Tryz.prog w = .ok (.agg #[x0_0, x0_1, .slice none 0 0]) w := by simp [go_sem]
theorem Zb9 {b off : Nat} (w : World) : (Instr.fieldAt 56 (.pointer (some ⟨b, off, none⟩)) 0).run Tryz.prog w = .ok (.pointer (some ⟨b, off + 0, none⟩)) w := by
 simp [go_sem]
theorem Zfd (w : World) : (Instr.build 56 [].toArray).run Tryz.prog w = .ok (.agg #[.bool false, .slice none 0 0, .slice none 0 0]) w := by simp [go_sem]
theorem rs_3_0 {c0 c1 c2 : Value} : Qo false 1 #[c0, c1, c2] 0 = some c0 := rfl
theorem rs_3_1 {c0 c1 c2 : Value} : Qo false 1 #[c0, c1, c2] 1 = some c1 := rfl
abbrev fV (x : Rat) (a1 : Option Addr) (c1 : Nat) (a2 : Option Addr) (c2 : Nat) : Value := .agg #[.bool (decide (x.num < 0)), .slice a1 (dg x.num.natAbs).length c1, .slice a2 (dg (x.den - 1)).length c2]
def PostF (x : Rat) (v : Value) (Ψ : List Qh) : Prop := ∃ a1 c1 a2 c2, v = fV x a1 c1 a2 c2 ∧ (dg x.num.natAbs).length ≤ c1 ∧ (dg (x.den - 1)).length ≤ c2 ∧ Ψ = [Row a1 (List.map Zo (dg x.num.natAbs)), Row a2 (List.map Zo (dg (x.den - 1)))]
theorem dgQ {x : Rat} {k : Nat} (h : Qa x ≤ k) : (dg x.num.natAbs).length ≤ 3 * k ∧ (dg x.den).length ≤ 3 * k ∧ (dg (x.den - 1)).length ≤ 3 * k := by
 obtain ⟨h1, h2⟩ := Zdt h
 unfold Zbd at h1
 have a1 := Zkl x.num.natAbs
 have a2 := Zkl x.den
 have a3 := Vz (Nat.sub_le x.den 1)
 omega
theorem Zo1 (z : Int) : decide (z.sign < 0) = decide (z < 0) := by
 apply decide_eq_decide.2
 rcases Int.lt_trichotomy z 0 with h | h | h
 · rw [Int.sign_eq_neg_one_of_neg h]; omega
 · subst h; simp
 · rw [Int.sign_eq_one_of_pos h]; omega
theorem Qah (z : Int) (d : Nat) (hd : d ≠ 0) : sgZ (decide (z < 0)) (z.natAbs / z.natAbs.gcd d) = (mkRat z d).num ∧ z.natAbs / z.natAbs.gcd d = (mkRat z d).num.natAbs ∧ d / z.natAbs.gcd d - 1 = (mkRat z d).den - 1 := by
 obtain ⟨h1, h2⟩ := Ze5 z d hd
 rw [Zo1] at h1
 exact ⟨h1.symm, by rw [h1, Zb7], by rw [h2]⟩
theorem Qcq : Ctr Tryz.prog 173 [] [] (Zob 1) := by
 refine fn_intro func173 rfl ntmps173 nb ?_
 intro S w0 a hS h
 refine gC h (zS (za rfl (zn (zS (zf [_] rfl call181 (Zyo 1 dd) ?_))))); rintro v1 Ψ1 ⟨ad1, c1, rfl, hle1, rfl⟩
 refine za rfl (zn (zt ?_)); intro a w h
 refine Qk (Ψ := [Row ad1 (List.map Zo (dg 1))]) h (Zd h rfl (.tmp rfl)) ?_ ss
 exact ⟨ad1, c1, rfl, hle1, rfl⟩
theorem Zjr (a1 a2 : Option Addr) (c1 c2 : Nat) (x : Rat) (hx : (dg (x.den - 1)).length ≤ 300000000000) : Ctr Tryz.prog 123 [fV x a1 c1 a2 c2] [Row a2 (List.map Zo (dg (x.den - 1)))] (Zob x.den) := by
 refine fn_intro func123 rfl ntmps123 nb ?_
 intro S w0 a hS h
 refine gC h (zS (zx rfl fun b1 => za rfl (zn (zs (yD Za [0, 1, 2, 3, 4] (Zb kk) (yp rfl (.fA rfl Zp1) (yd rfl rfl mr isAgg52 sizeOf52 Zbs ?_))))))); clear h
 refine yf [] rfl rfl call173 (Qcq) ?_; rintro v5 Ψ5 ⟨ad5, c5, rfl, hle5, rfl⟩
 have hl5 := dg5 1 dd
 refine yf [_, _] rfl rfl call172 (Qcr _ _ _ _ (x.den - 1) 1 oo oo) ?_; rintro v6 Ψ6 ⟨ad6, c6, rfl, hle6, rfl⟩
 have hl6 := Zgt (x.den - 1) 1
 refine yp rfl (.assign rfl) (yn (zt ?_)); intro a w h
 refine Qk (Ψ := [Row ad6 (List.map Zo (dg (x.den - 1 + 1)))]) h (Zd h rfl (.tmp rfl)) ?_ ss
 rw [Nat.sub_add_cancel x.den_pos] at *; exact ⟨ad6, c6, rfl, hle6, rfl⟩
theorem Qcu (a1 a2 : Option Addr) (c1 c2 : Nat) (x : Rat) (hx : (dg (x.den - 1)).length ≤ 300000000000) : Ctr Tryz.prog 130 [fV x a1 c1 a2 c2] [Row a2 (List.map Zo (dg (x.den - 1)))] (Zyf ((x.den : Nat) : Int)) := by
 refine fn_intro func130 rfl ntmps130 nb ?_
 intro S w0 a hS h
 refine gC h (zS (zx rfl fun b1 => zz zeroValue54 fun b2 => zn (zS (zd rfl mr isAgg56 sizeOf56 Zi ?_))))
 refine zf [_] rfl call123 (Zjr _ _ _ _ x oo) ?_; rintro v4 Ψ4 ⟨ad4, c4, rfl, hle4, rfl⟩
 refine zv [_, _] rfl call132 (Zcb false ad4 c4 x.den) (zt' rfl rfl Qg uu sizeOf54 rfl nb rfl ?_); intro a w h
 refine wpList_nil (wp_ret ?_)
 refine Qk (Ψ := [Row ad4 (List.map Zo (dg x.den))]) h (Zd h rfl (.cell rfl mr isAgg54 sizeOf54 Zn)) ?_ ss
 exact Zc2 rfl hle4
theorem Zqg (a1 a2 : Option Addr) (c1 c2 : Nat) (z : Int) (d : Nat) (hd : d ≠ 0) (h1 : (dg z.natAbs).length ≤ 300000000000) (h2 : (dg d).length ≤ 300000000000) (hc1 : (dg z.natAbs).length ≤ c1) (hc2 : (dg d).length ≤ c2) :
  Ctr Tryz.prog 127 [zV z a1 c1, .slice a2 (dg d).length c2] [Row a1 (List.map Zo (dg z.natAbs)), Row a2 (List.map Zo (dg d))] (PostF (mkRat z d)) := by
 have hg0 : z.natAbs.gcd d ≠ 0 := fun h => hd (Nat.gcd_eq_zero_iff.1 h).2
 have hgl := Vz (Nat.gcd_le_right (m := z.natAbs) (Nat.pos_of_ne_zero hd))
 have hql := Vz (Nat.div_le_self d (z.natAbs.gcd d))
 have hq1 : 1 ≤ d / z.natAbs.gcd d := Nat.div_pos (Nat.gcd_le_right _ (Nat.pos_of_ne_zero hd)) (Nat.pos_of_ne_zero hg0)
 have h15 := dg5 1 dd
 obtain ⟨hm1, hm2, hm3⟩ := Qah z d hd
 refine fn_intro func127 rfl ntmps127 nb ?_
 intro S w0 a hS h
 refine gC h (zS (zx rfl fun b2 => zz zeroValue56 fun b4 => zn (zS (zp (.fA rfl Vx) (zd rfl mr isAgg52 sizeOf52 Xn ?_)))))
 refine zm rfl (zf [_, _] rfl call175 (C_rGcd _ _ _ _ z.natAbs d oo oo hc1 hc2) ?_); rintro v13 Ψ13 ⟨ad13, c13, rfl, hle13, rfl⟩
 refine za rfl (zn (zS (zp (.fA rfl Vx) (zd rfl mr isAgg52 sizeOf52 Xn ?_))))
 refine zm rfl (zf [_, _] rfl call176 (Zyr _ _ _ _ z.natAbs (z.natAbs.gcd d) oo oo hg0 hc1) ?_); rintro v18 Ψ18 ⟨ad18, c18, bd18, d18, rfl, hle18, hlf18, rfl⟩
 refine zm rfl (zp (.eX rfl) (zp (.eX rfl) (za rfl (za rfl (zn (zS (zm rfl (zm rfl (zf [_, _] rfl call176 (Zyr _ _ _ _ d (z.natAbs.gcd d) oo oo hg0 hc2) ?_))))))))); rintro v24 Ψ24 ⟨ad24, c24, bd24, d24, rfl, hle24, hlf24, rfl⟩
 refine zm rfl (zp (.eX rfl) (zp (.eX rfl) (za rfl (za rfl (zn (zS (zp (.fA rfl Zap) (zd rfl mr isAgg4 sizeOf4 Xy ?_))))))))
 refine zm rfl (zv [_, _] rfl call132 (Zcb (decide (z < 0)) ad18 c18 (z.natAbs / z.natAbs.gcd d)) (zm rfl (zf [] rfl call173 (Qcq) ?_))); rintro v32 Ψ32 ⟨ad32, c32, rfl, hle32, rfl⟩
 have hl32 := dg5 1 dd
 refine zf [_, _] rfl call177 (Ztb _ _ _ _ (d / z.natAbs.gcd d) 1 oo oo hq1) ?_; rintro v33 Ψ33 ⟨ad33, c33, rfl, hle33, rfl⟩
 refine zp (.build [(_, _), (_, _)] rfl (Zn5 _ _ _ _ _)) (zt' rfl rfl Zz uu sizeOf56 rfl nb rfl ?_); intro a w h
 refine wpList_nil (wp_ret ?_)
 refine Qk (Ψ := [Row ad18 (List.map Zo (dg (z.natAbs / z.natAbs.gcd d))), Row ad33 (List.map Zo (dg (d / z.natAbs.gcd d - 1)))]) h (Zd h rfl (.cell rfl mr isAgg56 sizeOf56 Zi)) ?_ ss
 rw [hm1, hm2, hm3] at *; exact ⟨ad18, c18, ad33, c33, rfl, hle18, hle33, rfl⟩
theorem Zcq (n : Int) (h0 : -9223372036854775808 ≤ n) (h1 : n ≤ 9223372036854775807) : Ctr Tryz.prog 67 [.int .i64 n] [] (PostF ((n : Int) : Rat)) := by
 refine fn_intro func67 rfl ntmps67 nb ?_
 intro S w0 a hS h
 refine gC h (zS (zz zeroValue56 fun b2 => zn (zS (zm rfl (zf [_] rfl call133 (C_zOf n oo oo) ?_))))); rintro v4 Ψ4 ⟨ad4, c4, rfl, hle4, rfl⟩
 refine zp (.build [(_, _)] rfl (Qew _ _)) (zt' rfl rfl Zz uu sizeOf56 rfl nb rfl ?_); intro a w h
 refine wpList_nil (wp_ret ?_)
 replace h := h.derive (R := Row none []) (fun X hX hne => absurd rfl hne)
 have e1 : PostF ((n : Int) : Rat) (.agg #[.bool (decide (n < 0)), .slice ad4 (dg n.natAbs).length c4, .slice none 0 0]) [Row ad4 (List.map Zo (dg n.natAbs)), Row none []] :=
  ⟨ad4, c4, none, 0, by unfold fV; rw [Rat.num_intCast, Rat.den_intCast, Nat.sub_self, Jk]; rfl, by rw [Rat.num_intCast]; exact hle4, by rw [Rat.den_intCast, Nat.sub_self, Jk]; exact Nat.le_refl _, by rw [Rat.num_intCast, Rat.den_intCast, Nat.sub_self, Jk]; rfl⟩
 exact Qk h (Zd h rfl (.cell rfl mr isAgg56 sizeOf56 Zi)) e1 ss
theorem Zjp (x : Rat) (a1 : Option Addr) (c1 : Nat) (a2 : Option Addr) (c2 : Nat) : Yi Tryz.prog 86 [fV x a1 c1 a2 c2] (.int .i64 x.num.sign) := by
 refine fn_intro func86 rfl ntmps86 nb ?_
 intro S w0 a hS h
 refine gC h (zS (zx rfl fun b1 => za rfl (zn (zS (zp (.fA rfl Zb9) (zd rfl mr isAgg54 sizeOf54 Xc ?_))))))
 refine zv [_] rfl call150 (Qe7 x.num _ _) (za rfl (zn (zt ?_))); intro a w h
 exact Zao h
theorem Qcv (x : Rat) (a1 : Option Addr) (c1 : Nat) (a2 : Option Addr) (c2 : Nat) : Yi Tryz.prog 126 [fV x a1 c1 a2 c2] (fV (-x) a1 c1 a2 c2) := by
 refine fn_intro func126 rfl ntmps126 nb ?_
 intro S w0 a hS h
 refine gC h (zS (zx rfl fun b1 => zz zeroValue56 fun b2 => zn (zs (yD Za [0, 1, 3, 4, 2, 5, 6] (Zb kk) (yp rfl (.fA rfl Zb9) (yd rfl rfl mr isAgg54 sizeOf54 Xc ?_)))))); clear h
 refine yp rfl (.fA rfl Zp1) (yd rfl rfl mr isAgg52 sizeOf52 Zbs ?_)
 refine yv [_] rfl rfl call174 (C_zNeg x.num a1 c1) (yp rfl (.build [(_, _), (_, _)] rfl (Zn5 _ _ _ _ _)) (yt rfl rfl rfl Zz uu sizeOf56 rfl nb rfl ?_))
 refine yn (zt ?_); intro a w h
 refine Jp h (Zd h rfl (.cell rfl mr isAgg56 sizeOf56 Zi)) ?_
 unfold fV; rw [Rat.neg_num, Rat.neg_den]
theorem Zhj (a1 p1 a2 p2 : Option Addr) (c1 q1 c2 q2 : Nat) (x y : Rat) (hx : Qa x ≤ 10000000000) (hy : Qa y ≤ 10000000000) : Ctr Tryz.prog 65 [fV x a1 c1 a2 c2, fV y p1 q1 p2 q2] [Row a1 (List.map Zo (dg x.num.natAbs)), Row a2 (List.map Zo (dg (x.den - 1))), Row p1 (List.map Zo (dg y.num.natAbs)), Row p2 (List.map Zo (dg (y.den - 1)))] (PostF (x + y)) := by
 obtain ⟨hx1, hx2, hx3⟩ := dgQ hx
 obtain ⟨hy1, hy2, hy3⟩ := dgQ hy
 have hdz : (((x.den : Nat) : Int)).natAbs = x.den := rfl
 have hdy : (((y.den : Nat) : Int)).natAbs = y.den := rfl
 have hxp := x.den_pos
 have hyp := y.den_pos
 have hm1 := Zc9 x.num (y.den : Int)
 have hm2 := Zc9 y.num (x.den : Int)
 have hm3 := Zc9 x.num y.num
 have hs := Zxs (x.num * (y.den : Int)) (y.num * (x.den : Int))
 have hdm := Kv x.den y.den
 rw [hdy] at hm1
 rw [hdz] at hm2
 have hq1 : (dg (((x.den : Nat) : Int)).natAbs).length = (dg x.den).length := rfl
 have hq2 : (dg (((y.den : Nat) : Int)).natAbs).length = (dg y.den).length := rfl
 refine fn_intro func65 rfl ntmps65 nb ?_
 intro S w0 a hS h
 refine gC h (zS (zx rfl fun b2 => zx rfl fun b3 => zz zeroValue56 fun b4 => zn (zs (yD Za [0, 1, 2, 5, 6, 7, 11, 13, 3, 4, 8, 9, 10, 12, 14, 15, 16, 17] (Zb kk) (yp rfl (.fA rfl Zb9) (yd rfl rfl mr isAgg54 sizeOf54 Xc ?_)))))); clear h
 refine yd rfl rfl mr isAgg56 sizeOf56 Zi ?_
 refine yp rfl (.fA rfl Zb9) (yd rfl rfl mr isAgg54 sizeOf54 Xc ?_)
 refine yd rfl rfl mr isAgg56 sizeOf56 Zi ?_
 refine yd rfl rfl mr isAgg56 sizeOf56 Zi ?_
 refine yd rfl rfl mr isAgg56 sizeOf56 Zi ?_
 refine yf [_] rfl rfl call130 (Qcu _ _ _ _ y oo) ?_; rintro v8 Ψ8 ⟨ad8, c8, rfl, hle8, rfl⟩
 refine yf [_, _] rfl rfl call129 (Zyi _ _ _ _ x.num (((y.den : Nat) : Int)) oo oo) ?_; rintro v9 Ψ9 ⟨ad9, c9, rfl, hle9, rfl⟩
 have hl9 := Zc9 x.num (((y.den : Nat) : Int))
 refine yf [_] rfl rfl call130 (Qcu _ _ _ _ x oo) ?_; rintro v13 Ψ13 ⟨ad13, c13, rfl, hle13, rfl⟩
 refine yf [_, _] rfl rfl call129 (Zyi _ _ _ _ y.num (((x.den : Nat) : Int)) oo oo) ?_; rintro v14 Ψ14 ⟨ad14, c14, rfl, hle14, rfl⟩
 have hl14 := Zc9 y.num (((x.den : Nat) : Int))
 refine yf [_, _] rfl rfl call128 (C_zAdd _ _ _ _ (x.num * (((y.den : Nat) : Int))) (y.num * (((x.den : Nat) : Int))) oo oo) ?_; rintro v15 Ψ15 ⟨ad15, c15, rfl, hle15, rfl⟩
 refine yf [_] rfl rfl call123 (Zjr _ _ _ _ x oo) ?_; rintro v17 Ψ17 ⟨ad17, c17, rfl, hle17, rfl⟩
 refine yf [_] rfl rfl call123 (Zjr _ _ _ _ y oo) ?_; rintro v19 Ψ19 ⟨ad19, c19, rfl, hle19, rfl⟩
 refine yf [_, _] rfl rfl call131 (Zoh _ _ _ _ x.den y.den oo oo) ?_; rintro v20 Ψ20 ⟨ad20, c20, rfl, hle20, rfl⟩
 have hl20 := Kv x.den y.den
 refine yf [_, _] rfl rfl call127 (Zqg _ _ _ _ (x.num * ((y.den : Nat) : Int) + y.num * ((x.den : Nat) : Int)) (x.den * y.den) (Nat.mul_ne_zero oo oo) oo oo hle15 hle20) ?_; rintro v21 Ψ21 ⟨ad21, c21, bd21, d21, rfl, hle21, hlf21, rfl⟩
 refine yt rfl rfl rfl Zz uu sizeOf56 rfl nb rfl ?_
 refine yn (zt ?_); intro a w h
 refine Qk (Ψ := [Row ad21 (List.map Zo (dg (mkRat (x.num * ((y.den : Nat) : Int) + y.num * ((x.den : Nat) : Int)) (x.den * y.den)).num.natAbs)), Row bd21 (List.map Zo (dg ((mkRat (x.num * ((y.den : Nat) : Int) + y.num * ((x.den : Nat) : Int)) (x.den * y.den)).den - 1)))]) h (Zd h rfl (.cell rfl mr isAgg56 sizeOf56 Zi)) ?_ ss
 rw [Rat.add_def']; exact ⟨ad21, c21, bd21, d21, rfl, hle21, hlf21, rfl⟩
theorem Zb2 (a1 p1 a2 p2 : Option Addr) (c1 q1 c2 q2 : Nat) (x y : Rat) (hx : Qa x ≤ 10000000000) (hy : Qa y ≤ 10000000000) : Ctr Tryz.prog 64 [fV x a1 c1 a2 c2, fV y p1 q1 p2 q2] [Row a1 (List.map Zo (dg x.num.natAbs)), Row a2 (List.map Zo (dg (x.den - 1))), Row p1 (List.map Zo (dg y.num.natAbs)), Row p2 (List.map Zo (dg (y.den - 1)))] (PostF (x - y)) := by
 refine fn_intro func64 rfl ntmps64 nb ?_
 intro S w0 a hS h
 replace h := h.derive (R := Row p1 (List.map Zo (dg (-y).num.natAbs))) (fun X hX => by rw [Rat.neg_num, Int.natAbs_neg]; exact hX _ ss)
 replace h := h.derive (R := Row p2 (List.map Zo (dg ((-y).den - 1)))) (fun X hX => by rw [Rat.neg_den]; exact hX _ ss)
 refine gC h (zS (zx rfl fun b2 => zx rfl fun b3 => zz zeroValue56 fun b4 => zn (zs (yD Za [0, 1, 2, 3, 4] (Zb kk) (yd rfl rfl mr isAgg56 sizeOf56 Zi ?_))))); clear h
 refine yd rfl rfl mr isAgg56 sizeOf56 Zi ?_
 refine yv [_] rfl rfl call126 (Qcv y p1 q1 p2 q2) ?_
 have hl7 := Zby y
 refine yf [_, _] rfl rfl call65 (Zhj _ _ _ _ _ _ _ _ x (-y) oo oo) ?_; rintro v8 Ψ8 ⟨ad8, c8, bd8, d8, rfl, hle8, hlf8, rfl⟩
 have hl8 := Qs x (-y)
 refine yt rfl rfl rfl Zz uu sizeOf56 rfl nb rfl ?_
 refine yn (zt ?_); intro a w h
 refine Qk (Ψ := [Row ad8 (List.map Zo (dg (x + -y).num.natAbs)), Row bd8 (List.map Zo (dg ((x + -y).den - 1)))]) h (Zd h rfl (.cell rfl mr isAgg56 sizeOf56 Zi)) ?_ ss
 rw [Rat.sub_eq_add_neg]; exact ⟨ad8, c8, bd8, d8, rfl, hle8, hlf8, rfl⟩
theorem Zb3 (a1 p1 a2 p2 : Option Addr) (c1 q1 c2 q2 : Nat) (x y : Rat) (hx : Qa x ≤ 10000000000) (hy : Qa y ≤ 10000000000) : Ctr Tryz.prog 70 [fV x a1 c1 a2 c2, fV y p1 q1 p2 q2] [Row a1 (List.map Zo (dg x.num.natAbs)), Row a2 (List.map Zo (dg (x.den - 1))), Row p1 (List.map Zo (dg y.num.natAbs)), Row p2 (List.map Zo (dg (y.den - 1)))] (PostF (x * y)) := by
 obtain ⟨hx1, hx2, hx3⟩ := dgQ hx
 obtain ⟨hy1, hy2, hy3⟩ := dgQ hy
 have hdz : (((x.den : Nat) : Int)).natAbs = x.den := rfl
 have hdy : (((y.den : Nat) : Int)).natAbs = y.den := rfl
 have hxp := x.den_pos
 have hyp := y.den_pos
 have hm1 := Zc9 x.num (y.den : Int)
 have hm2 := Zc9 y.num (x.den : Int)
 have hm3 := Zc9 x.num y.num
 have hs := Zxs (x.num * (y.den : Int)) (y.num * (x.den : Int))
 have hdm := Kv x.den y.den
 rw [hdy] at hm1
 rw [hdz] at hm2
 have hq1 : (dg (((x.den : Nat) : Int)).natAbs).length = (dg x.den).length := rfl
 have hq2 : (dg (((y.den : Nat) : Int)).natAbs).length = (dg y.den).length := rfl
 refine fn_intro func70 rfl ntmps70 nb ?_
 intro S w0 a hS h
 refine gC h (zS (zx rfl fun b2 => zx rfl fun b3 => zz zeroValue56 fun b4 => zn (zs (yD Za [0, 1, 2, 3, 5, 7, 4, 6, 8, 9, 10, 11] (Zb kk) (yp rfl (.fA rfl Zb9) (yd rfl rfl mr isAgg54 sizeOf54 Xc ?_)))))); clear h
 refine yp rfl (.fA rfl Zb9) (yd rfl rfl mr isAgg54 sizeOf54 Xc ?_)
 refine yd rfl rfl mr isAgg56 sizeOf56 Zi ?_
 refine yd rfl rfl mr isAgg56 sizeOf56 Zi ?_
 refine yf [_, _] rfl rfl call129 (Zyi _ _ _ _ x.num y.num oo oo) ?_; rintro v9 Ψ9 ⟨ad9, c9, rfl, hle9, rfl⟩
 have hl9 := Zc9 x.num y.num
 refine yf [_] rfl rfl call123 (Zjr _ _ _ _ x oo) ?_; rintro v11 Ψ11 ⟨ad11, c11, rfl, hle11, rfl⟩
 refine yf [_] rfl rfl call123 (Zjr _ _ _ _ y oo) ?_; rintro v13 Ψ13 ⟨ad13, c13, rfl, hle13, rfl⟩
 refine yf [_, _] rfl rfl call131 (Zoh _ _ _ _ x.den y.den oo oo) ?_; rintro v14 Ψ14 ⟨ad14, c14, rfl, hle14, rfl⟩
 have hl14 := Kv x.den y.den
 refine yf [_, _] rfl rfl call127 (Zqg _ _ _ _ (x.num * y.num) (x.den * y.den) (Nat.mul_ne_zero oo oo) oo oo hle9 hle14) ?_; rintro v15 Ψ15 ⟨ad15, c15, bd15, d15, rfl, hle15, hlf15, rfl⟩
 refine yt rfl rfl rfl Zz uu sizeOf56 rfl nb rfl ?_
 refine yn (zt ?_); intro a w h
 refine Qk (Ψ := [Row ad15 (List.map Zo (dg (mkRat (x.num * y.num) (x.den * y.den)).num.natAbs)), Row bd15 (List.map Zo (dg ((mkRat (x.num * y.num) (x.den * y.den)).den - 1)))]) h (Zd h rfl (.cell rfl mr isAgg56 sizeOf56 Zi)) ?_ ss
 rw [Rat.mul_def']; exact ⟨ad15, c15, bd15, d15, rfl, hle15, hlf15, rfl⟩
theorem C_fInv (ad b1 : Option Addr) (c d1 : Nat) (y : Rat) (hy : y ≠ 0) (h1 : (dg y.den).length ≤ 300000000000) (h2 : (dg y.num.natAbs).length ≤ 300000000000) (hc1 : (dg y.den).length ≤ c) (hc2 : (dg y.num.natAbs).length ≤ d1) :
  Ctr Tryz.prog 127 [.agg #[.bool (decide (sgZ (decide (y.num < 0)) y.den < 0)), .slice ad (dg y.den).length c], .slice b1 (dg y.num.natAbs).length d1] [Row ad (List.map Zo (dg y.den)), Row b1 (List.map Zo (dg y.num.natAbs))] (PostF y⁻¹) := by
 have h0 : y.num.natAbs ≠ 0 := fun h => hy (Rat.num_eq_zero.1 (Int.natAbs_eq_zero.1 h))
 have e := Zb7 (decide (y.num < 0)) y.den
 have h := Zqg ad b1 c d1 (sgZ (decide (y.num < 0)) y.den) y.num.natAbs h0 (by rw [e]; exact h1) h2 (by rw [e]; exact hc1) hc2
 rw [← Zo1, Zf2 y hy, Zo1] at h
 unfold zV at h
 rw [e] at h
 exact h
theorem Zjq (a1 p1 a2 p2 : Option Addr) (c1 q1 c2 q2 : Nat) (x y : Rat) (hx : Qa x ≤ 10000000000) (hy : Qa y ≤ 10000000000) (hc : (dg y.num.natAbs).length ≤ q1) : Ctr Tryz.prog 66 [fV x a1 c1 a2 c2, fV y p1 q1 p2 q2] [Row a1 (List.map Zo (dg x.num.natAbs)), Row a2 (List.map Zo (dg (x.den - 1))), Row p1 (List.map Zo (dg y.num.natAbs)), Row p2 (List.map Zo (dg (y.den - 1)))] (PostF (x / y)) := by
 obtain ⟨hy1, hy2, hy3⟩ := dgQ hy
 have hi := Zr6 y
 refine fn_intro func66 rfl ntmps66 nb ?_
 intro S w0 a hS h
 refine gC h (zS (zx rfl fun b2 => zx rfl fun b3 => zz zeroValue56 fun b4 => zn (zs (zS (zd rfl mr isAgg56 sizeOf56 Zi ?_)))))
 refine zv [_] rfl call86 (Zjp y _ _ _ _) (zp (.eql rfl rfl) (zn ?_)); intro a w h
 refine cW ?_
 refine Zc h rfl (fun hc7 => ?_) (fun hc7 => ?_)
 ·
  skip
  have hz : y = 0 := Rat.num_eq_zero.1 (Int.sign_eq_zero_iff_zero.1 (eq_of_beq hc7))
  refine gC h (zS (zp (.build [] rfl (Zfd)) (zt' rfl rfl Zz uu sizeOf56 rfl nb rfl ?_))); clear h; intro a w h
  refine wpList_nil (wp_ret ?_)
  replace h := h.derive (R := Row none []) (fun X hX hne => absurd rfl hne)
  have e1 : PostF (x / y) (.agg #[.bool false, .slice none 0 0, .slice none 0 0]) [Row none [], Row none []] := by
   subst hz; rw [Rat.div_def, Rat.inv_zero, Rat.mul_zero]
   exact ⟨none, 0, none, 0, by unfold fV; rw [show (0 : Rat).num = 0 from rfl, show (0 : Rat).den - 1 = 0 from rfl, show (0 : Int).natAbs = 0 from rfl, Jk]; rfl, by rw [show (0 : Rat).num = 0 from rfl, show (0 : Int).natAbs = 0 from rfl, Jk]; exact Nat.le_refl _, by rw [show (0 : Rat).den - 1 = 0 from rfl, Jk]; exact Nat.le_refl _, by rw [show (0 : Rat).num = 0 from rfl, show (0 : Rat).den - 1 = 0 from rfl, show (0 : Int).natAbs = 0 from rfl, Jk]; rfl⟩
  exact Qk h (Zd h rfl (.cell rfl mr isAgg56 sizeOf56 Zi)) e1 ss
 ·
  skip
  have hz : y ≠ 0 := fun e => by subst e; exact absurd hc7 dd
  refine gC h (zk (zs (yD Za [0, 1, 2, 3, 4, 7, 8, 9, 5, 6, 10, 11, 12] (Zb kk) (yd rfl rfl mr isAgg56 sizeOf56 Zi ?_)))); clear h
  refine yp rfl (.fA rfl Zb9) (yp rfl (.fA rfl Zap) (yd rfl rfl mr isAgg4 sizeOf4 rs_3_0 ?_))
  refine yd rfl rfl mr isAgg56 sizeOf56 Zi ?_
  refine yp rfl (.fA rfl Zb9) (yp rfl (.fA rfl Vx) (yd rfl rfl mr isAgg52 sizeOf52 rs_3_1 ?_))
  refine yf [_] rfl rfl call123 (Zjr _ _ _ _ y oo) ?_; rintro v14 Ψ14 ⟨ad14, c14, rfl, hle14, rfl⟩
  refine yv [_, _] rfl rfl call132 (Zcb (decide (y.num < 0)) ad14 c14 y.den) (yf [_, _] rfl rfl call127 (C_fInv _ _ _ _ y hz oo oo oo hc) ?_); rintro v19 Ψ19 ⟨ad19, c19, bd19, d19, rfl, hle19, hlf19, rfl⟩
  refine yf [_, _] rfl rfl call70 (Zb3 _ _ _ _ _ _ _ _ x (y⁻¹) oo oo) ?_; rintro v20 Ψ20 ⟨ad20, c20, bd20, d20, rfl, hle20, hlf20, rfl⟩
  have hl20 := Zu x (y⁻¹)
  refine yt rfl rfl rfl Zz uu sizeOf56 rfl nb rfl ?_
  refine yn (zt ?_); intro a w h
  refine Qk (Ψ := [Row ad20 (List.map Zo (dg (x * y⁻¹).num.natAbs)), Row bd20 (List.map Zo (dg ((x * y⁻¹).den - 1)))]) h (Zd h rfl (.cell rfl mr isAgg56 sizeOf56 Zi)) ?_ ss
  rw [Rat.div_def]; exact ⟨ad20, c20, bd20, d20, rfl, hle20, hlf20, rfl⟩
theorem C_fOf (n m : Int) (h0 : -9223372036854775808 ≤ n) (h1 : n ≤ 9223372036854775807) (h2 : -9223372036854775808 ≤ m) (h3 : m ≤ 9223372036854775807) : Ctr Tryz.prog 116 [.int .i64 n, .int .i64 m] [] (PostF (((n : Int) : Rat) / ((m : Int) : Rat))) := by
 refine fn_intro func116 rfl ntmps116 nb ?_
 intro S w0 a hS h
 refine gC h (zS (zz zeroValue56 fun b4 => zn (zS (zm rfl (zf [_] rfl call67 (Zcq n oo oo) ?_))))); rintro v6 Ψ6 ⟨ad6, c6, bd6, d6, rfl, hle6, hlf6, rfl⟩
 have hl6 := Qe n oo oo
 refine zm rfl (zf [_] rfl call67 (Zcq m oo oo) ?_); rintro v8 Ψ8 ⟨ad8, c8, bd8, d8, rfl, hle8, hlf8, rfl⟩
 have hl8 := Qe m oo oo
 refine zf [_, _] rfl call66 (Zjq _ _ _ _ _ _ _ _ (((n : Int) : Rat)) (((m : Int) : Rat)) oo oo (by first | assumption | omega)) ?_; rintro v9 Ψ9 ⟨ad9, c9, bd9, d9, rfl, hle9, hlf9, rfl⟩
 have hl9 := Ko (((n : Int) : Rat)) (((m : Int) : Rat))
 refine zt' rfl rfl Zz uu sizeOf56 rfl nb rfl ?_; intro a w h
 refine wpList_nil (wp_ret ?_)
 refine Qk (Ψ := [Row ad9 (List.map Zo (dg (((n : Int) : Rat) / ((m : Int) : Rat)).num.natAbs)), Row bd9 (List.map Zo (dg ((((n : Int) : Rat) / ((m : Int) : Rat)).den - 1)))]) h (Zd h rfl (.cell rfl mr isAgg56 sizeOf56 Zi)) ?_ ss
 exact ⟨ad9, c9, bd9, d9, rfl, hle9, hlf9, rfl⟩
end
section
theorem Zdj (w : World) : (zeroValue 56).run Tryz.prog w = .ok (fV 0 none 0 none 0) w := by
 have e : fV 0 none 0 none 0 = .agg #[.bool false, .slice none 0 0, .slice none 0 0] := by
  unfold fV; rw [show (0 : Rat).num = 0 from rfl, show (0 : Rat).den - 1 = 0 from rfl, show (0 : Int).natAbs = 0 from rfl, Jk]; rfl
 rw [e]; exact zeroValue56 w
structure FT where
 x : Rat
 a1 : Option Addr
 c1 : Nat
 a2 : Option Addr
 c2 : Nat
 h1 : (dg x.num.natAbs).length ≤ c1
 h2 : (dg (x.den - 1)).length ≤ c2
abbrev Yq (e : FT) : Value := .agg #[.bool (decide (e.x.num < 0)), .slice e.a1 (dg e.x.num.natAbs).length e.c1, .slice e.a2 (dg (e.x.den - 1)).length e.c2]
def FT0 : FT := ⟨0, none, 0, none, 0, by rw [show (0 : Rat).num.natAbs = 0 from rfl, Jk]; exact Nat.le_refl _, by rw [show (0 : Rat).den - 1 = 0 from rfl, Jk]; exact Nat.le_refl _⟩
def AllF (l : List FT) : Qh where
 p X w := ∀ e ∈ l, (Row e.a1 (List.map Zo (dg e.x.num.natAbs))).p X w ∧ (Row e.a2 (List.map Zo (dg (e.x.den - 1)))).p X w
 st X X' w w' h hk hs hX e he := ⟨(Row e.a1 _).st X X' w w' (h e he).1 hk hs hX, (Row e.a2 _).st X X' w w' (h e he).2 hk hs hX⟩
theorem AllF.get1 {l : List FT} {e : FT} {X : Nat → Prop} {w : World} (h : (AllF l).p X w) (he : e ∈ l) : (Row e.a1 (List.map Zo (dg e.x.num.natAbs))).p X w := (h e he).1
theorem AllF.get2 {l : List FT} {e : FT} {X : Nat → Prop} {w : World} (h : (AllF l).p X w) (he : e ∈ l) : (Row e.a2 (List.map Zo (dg (e.x.den - 1)))).p X w := (h e he).2
theorem AllF.nil (X : Nat → Prop) (w : World) : (AllF []).p X w := fun e he => by cases he
theorem AllF.snoc {l : List FT} {e : FT} {X : Nat → Prop} {w : World} (h : (AllF l).p X w) (h1 : (Row e.a1 (List.map Zo (dg e.x.num.natAbs))).p X w) (h2 : (Row e.a2 (List.map Zo (dg (e.x.den - 1)))).p X w) : (AllF (l ++ [e])).p X w := by
 intro f hf
 rcases List.mem_append.1 hf with hf | hf
 · exact h f hf
 · rw [List.mem_singleton] at hf; subst hf; exact ⟨h1, h2⟩
end
section
theorem Zxj {b off : Nat} (w : World) : (Instr.fieldAt 25 (.pointer (some ⟨b, off, none⟩)) 0).run Tryz.prog w = .ok (.pointer (some ⟨b, off + 0, none⟩)) w := by
 simp [go_sem]
theorem Zxi {b off : Nat} (w : World) : (Instr.fieldAt 25 (.pointer (some ⟨b, off, none⟩)) 1).run Tryz.prog w = .ok (.pointer (some ⟨b, off + 1, none⟩)) w := by
 simp [go_sem]
theorem Qes (x : Int) (w : World) : (Go.convert 23 2 (.int .u32 x)).run Tryz.prog w = .ok (.int .i64 (IntKind.i64.wrap x)) w := by
 simp [go_sem]
theorem Zsy (x : Int) (h0 : IntKind.i64.wrap x = x) (w : World) : (Go.convert 23 2 (.int .u32 x)).run Tryz.prog w = .ok (.int .i64 x) w := by
 rw [Qes, h0]
def qv (N D : Int) : Rat := ((N : Int) : Rat) / ((max D 1 : Int) : Rat)
theorem Zc7 (N D : Int) (h0 : -9223372036854775808 ≤ N) (h1 : N ≤ 9223372036854775807) (h2 : 0 ≤ D) (h3 : D ≤ 4294967295) : Qa (qv N D) ≤ 4 := Zi1 N (max D 1) h0 h1 oo oo
theorem Zx7 (x y : Int) (w : World) (ty : TypeId) (cs : Array Bool) : (Go.builtin .max #[23, 23] ty cs #[.int .u32 x, .int .u32 y]).run Tryz.prog w = .ok (.value (.int .u32 (max x y))) w := by
 simp [go_sem] <;> (try rw [Int.max_def]) <;> (try split) <;> (try split) <;> (try omega)
abbrev encQ2 (q : Int × Int) : Value := .agg #[.int .i64 q.1, .int .u32 q.2]
def OkQ (q : Int × Int) : Prop := -9223372036854775808 ≤ q.1 ∧ q.1 ≤ 9223372036854775807 ∧ 0 ≤ q.2 ∧ q.2 ≤ 4294967295
def qvp (q : Int × Int) : Rat := qv q.1 q.2
theorem Zek {q : Int × Int} (h : OkQ q) : Qa (qvp q) ≤ 4 := Zc7 _ _ h.1 h.2.1 h.2.2.1 h.2.2.2
theorem Zyu (N D : Int) (h0 : -9223372036854775808 ≤ N) (h1 : N ≤ 9223372036854775807) (h2 : 0 ≤ D) (h3 : D ≤ 4294967295) : Yi Tryz.prog 62 [.agg #[.int .i64 N, .int .u32 D]] (Jf (qv N D)) := by
 refine fn_intro func62 rfl ntmps62 nb ?_
 intro S w0 a hS h
 refine gC h (zS (zx rfl fun b1 => zz Xi fun b2 => zn (zS (zp (.fA rfl Zxj) (zd rfl mr isAgg2 sizeOf2 Xy ?_)))))
 refine zp (.fA rfl Zxi) (zd rfl mr isAgg23 sizeOf23 Xn ?_)
 refine zp (.builtin [_, _] rfl (fun w ty cs => Zx7 _ _ w ty cs)) (zp (.convert rfl (Zsy _ (wrap_i64 _ oo oo))) (zv [_, _] rfl call60 (Qfj _ _ oo oo oo oo oo) ?_))
 have hl12 := Zi1 (N) (max D 1) oo oo oo oo
 refine zm rfl (zp (.eX rfl) (zp (.eX rfl) (zz Xi fun b3 => zt' rfl rfl Zq uu sizeOf44 rfl nb rfl ?_)))
 refine za rfl (zn (zS (zd rfl mr isAgg44 sizeOf44 Zf ?_)))
 refine zt' rfl rfl Zq uu sizeOf44 rfl nb rfl ?_; intro a w h
 refine wpList_nil (wp_ret ?_)
 refine Jp h (Zd h rfl (.cell rfl mr isAgg44 sizeOf44 Zf)) ?_
 rfl
theorem Zyt (N D : Int) (h0 : -9223372036854775808 ≤ N) (h1 : N ≤ 9223372036854775807) (h2 : 0 ≤ D) (h3 : D ≤ 4294967295) : Ctr Tryz.prog 53 [.agg #[.int .i64 N, .int .u32 D]] [] (PostF (qv N D)) := by
 refine fn_intro func53 rfl ntmps53 nb ?_
 intro S w0 a hS h
 refine gC h (zS (zx rfl fun b1 => zz Zdj fun b2 => zn (zS (zp (.fA rfl Zxj) (zd rfl mr isAgg2 sizeOf2 Xy ?_)))))
 refine zp (.fA rfl Zxi) (zd rfl mr isAgg23 sizeOf23 Xn ?_)
 refine zp (.builtin [_, _] rfl (fun w ty cs => Zx7 _ _ w ty cs)) (zp (.convert rfl (Zsy _ (wrap_i64 _ oo oo))) (zf [_, _] rfl call116 (C_fOf N (max D 1) oo oo oo oo) ?_)); rintro v9 Ψ9 ⟨ad9, c9, bd9, d9, rfl, hle9, hlf9, rfl⟩
 have hl9 := Zi1 N (max D 1) oo oo oo oo
 refine zt' rfl rfl Zz uu sizeOf56 rfl nb rfl ?_; intro a w h
 refine wpList_nil (wp_ret ?_)
 refine Qk (Ψ := [Row ad9 (List.map Zo (dg (((N : Int) : Rat) / ((max D 1 : Int) : Rat)).num.natAbs)), Row bd9 (List.map Zo (dg ((((N : Int) : Rat) / ((max D 1 : Int) : Rat)).den - 1)))]) h (Zd h rfl (.cell rfl mr isAgg56 sizeOf56 Zi)) ?_ ss
 unfold qv; exact ⟨ad9, c9, bd9, d9, rfl, hle9, hlf9, rfl⟩
end
section
theorem Zhc (a : Option Addr) (n c : Nat) (w : World) (ty : TypeId) (cs : Array Bool) : (Go.builtin .len #[51] ty cs #[.slice a n c]).run Tryz.prog w = .ok (.value (.int .i64 n)) w := by
 simp [go_sem]
theorem ix_51 (b off n c j : Nat) (h : j < n) (w : World) : (Instr.indexAt 51 (.slice (some ⟨b, off, none⟩) n c) (.int .i64 (j : Int))).run Tryz.prog w = .ok (.pointer (some ⟨b, off + j, none⟩)) w := by
 simpa using Xe runUnderlying51 sizeOf3 b off n c j h w
theorem Zhi (x0 : Int) (x1 : Int) (x2 : Int) (w : World) : (Instr.build 157 [(0, .int .i64 x0), (1, .int .i64 x1), (2, .int .i64 x2)].toArray).run Tryz.prog w = .ok (.agg #[.int .i64 x0, .int .i64 x1, .int .i64 x2]) w := by simp [go_sem]
theorem Zlz (x0 : Int) (x1 : Int) (x2 : Int) (w : World) : (Instr.buildSlice 51 3 [(0, .int .i64 x0), (1, .int .i64 x1), (2, .int .i64 x2)].toArray).run Tryz.prog w = .ok (.slice (some ⟨w.heap.size, 0, none⟩) 3 3) (w.alloc (.cells #[.int .i64 x0, .int .i64 x1, .int .i64 x2] 3 (0, 0))) := by
 simp [go_sem]
def upQ (q : Rat) : Nat → Rat
 | 0 => q
 | p + 1 => upQ q p * (((p + 1 : Nat) : Int) : Rat)
def Zho (q : Rat) : Nat → Rat
 | 0 => q
 | n + 1 => Zho q n / (((n + 1 : Nat) : Int) : Rat)
def Zdf (n : Nat) (l : List Nat) : Rat := Zho (l.foldl upQ 1) n
def Jt (i j k : Nat) : Rat := ((2 : Int) : Rat) * Zdf (i + j + k + 2) [i, j, k]
theorem Zgm (q : Rat) : ∀ p, p ≤ 1000000 → Qa (upQ q p) ≤ Qa q + 2 * p
 | 0, _ => Nat.le_refl _
 | p + 1, h => by
  have h1 := Zgm q p oo
  have h2 := Qe ((p + 1 : Nat) : Int) oo oo
  have h3 := Zu (upQ q p) (((p + 1 : Nat) : Int) : Rat)
  show Qa (upQ q p * _) ≤ _
  omega
theorem Zdu (q : Rat) : ∀ p, p ≤ 1000000 → Qa (Zho q p) ≤ Qa q + 2 * p
 | 0, _ => Nat.le_refl _
 | p + 1, h => by
  have h1 := Zdu q p oo
  have h2 := Qe ((p + 1 : Nat) : Int) oo oo
  have h3 := Ko (Zho q p) (((p + 1 : Nat) : Int) : Rat)
  show Qa (Zho q p / _) ≤ _
  omega
theorem Zab : Qa 1 ≤ 2 := Qe 1 oo oo
theorem Zfy : ∀ (l : List Nat) (q : Rat), (∀ x ∈ l, x ≤ 48) → Qa (l.foldl upQ q) ≤ Qa q + 96 * l.length
 | [], q, _ => by simp
 | x :: l, q, h => by
  have h1 := Zfy l (upQ q x) (fun y hy => h y (List.mem_cons_of_mem _ hy))
  have h0 := h x List.mem_cons_self
  have h2 := Zgm q x oo
  simp only [List.foldl_cons, List.length_cons]
  omega
theorem int_ne {n : Nat} : ((((n + 1 : Nat) : Int) : Rat)) ≠ 0 := fun e => by have := Rat.intCast_eq_zero_iff.1 e; omega
theorem Ztd (n : Nat) (l : List Nat) (ad : Option Addr) (c : Nat) (hn : n ≤ 200) (hl : l.length ≤ 10) (hx : ∀ x ∈ l, x ≤ 48) :
  Zae Tryz.prog 113 [.int .i64 ((n : Nat) : Int), .slice ad l.length c] [Row ad (List.map Zo l)] (Jf (Zdf n l)) := by
 refine fn_intro func113 rfl ntmps113 nb ?_
 intro S w0 a hS h
 refine gC h (zS (zz Xi fun b4 => zn (zS (zv [_] rfl call45 (Gl _ oo oo) ?_))))
 have hl10 := Qe (1) oo oo
 refine zz Xi fun b5 => zt' rfl rfl Zq uu sizeOf44 rfl nb rfl ?_
 refine zn (zs (zS (zm rfl (zp (.builtin [_] rfl (Zhc _ _ _)) (zm rfl (zn (zb ?_))))))); intro a w h
 refine Zg (fun (k : Nat) a w => k ≤ l.length ∧ St 42 S w0 [(0, nI n), (4, pB b4), (5, pB b5), (11, .slice ad l.length c), (12, nI l.length), (13, nI k)] [(b5, bV (Jf ((l.take k).foldl upQ 1)) 44), (b4, bV (Jf (0)) 44)] [Row ad (List.map Zo l)] a w) (fun k => l.length - k) 0 (⟨Nat.zero_le _, by exact (h).sub sA⟩) ?_; clear h
 rintro k a w ⟨hi_k, h⟩
 refine gC h (zS (zp (.lss rfl rfl) (zn (zs ?_)))); clear h; intro a w h
 refine Zc h rfl (fun hc14 => ?_) (fun hc14 => ?_)
 ·
  skip
  have hlt_k : k < l.length := dT hc14
  obtain ⟨B_ad, O_ad, rfl⟩ := h.row_addr (ad := ad) (M := List.map Zo l) mm nF
  have hxk := hx (l.getD k 0) (getD_mem _ hlt_k)
  have hlk := Zfy (l.take k) 1 (fun x hx' => hx x (List.mem_of_mem_take hx'))
  rw [List.length_take] at hlk
  have hl1 := Zab
  refine gC h (zk (zs (zb (zS (zp (.indexAddr rfl rfl (ix_51 _ _ _ _ _ oo)) (zD rfl mm (by rw [List.length_map]; omega) isAgg3 sizeOf3 (Zx (enc := Zo) (l := l) 0 oo) (.inr rfl) ?_))))))
  refine za rfl (zn (zS (zm rfl (zm rfl (zn (zb ?_)))))); intro a w h
  refine Zg (fun (i : Nat) a w => i ≤ l.getD k 0 ∧ St 42 S w0 [(0, nI n), (4, pB b4), (5, pB b5), (11, .slice (some ⟨B_ad, O_ad, none⟩) l.length c), (12, nI l.length), (13, nI k), (17, nI (l.getD k 0)), (18, nI i)] [(b5, bV (Jf (upQ ((l.take k).foldl upQ 1) i)) 44), (b4, bV (Jf (0)) 44)] [Row (some ⟨B_ad, O_ad, none⟩) (List.map Zo l)] a w) (fun i => l.getD k 0 - i) 0 (⟨Nat.zero_le _, by exact (h).sub sA⟩) ?_; clear h
  rintro i a w ⟨hi_i, h⟩
  refine gC h (zS (zp (.lss rfl rfl) (zn (zs ?_)))); clear h; intro a w h
  refine Zc h rfl (fun hc19 => ?_) (fun hc19 => ?_)
  ·
   skip
   have hlt_i : i < l.getD k 0 := dT hc19
   have hli := Zgm ((l.take k).foldl upQ 1) i oo
   refine gC h (zk (zs (zb (zS (zm rfl (za rfl (zn (yD Za [0, 1, 2, 3, 4, 5] (Zb kk) (yd rfl rfl mr isAgg44 sizeOf44 Zf ?_))))))))); clear h
   refine ym rfl rfl (yp rfl (.pN (i + 1) (.add rfl rfl)) (yv [_] rfl rfl call45 (Gl _ oo oo) ?_))
   have hl24 := Qe (((i + 1 : Nat) : Int)) oo oo
   refine yv [_, _] rfl rfl call69 (Vr _ _ oo oo) ?_
   have hl25 := Zu (upQ ((l.take k).foldl upQ 1) i) (((((i + 1 : Nat) : Int) : Int) : Rat))
   refine yt rfl rfl rfl Zq uu sizeOf44 rfl nb rfl ?_
   refine yn (zr (zp (.pN (i + 1) (.add rfl rfl)) (zm rfl (zn ?_)))); intro a w h
   exact ⟨i + 1, ⟨oo, h.sub sA⟩, oo⟩
  ·
   skip
   have heq_i : l.getD k 0 = i := dF hc19
   subst heq_i
   refine gC h (ze (zr (zp (.pN (k + 1) (.add rfl rfl)) (zm rfl (zn ?_))))); clear h; intro a w h
   rw [← Zbf (f := upQ) l 1 k 0 hlt_k] at h
   exact ⟨k + 1, ⟨oo, (h.factsSub (by simp)).sub sA⟩, oo⟩
 ·
  skip
  have heq_k : l.length = k := dF hc14
  subst heq_k
  refine gC h (ze (zs (zS (zm rfl (zm rfl (zn (zb ?_))))))); clear h; intro a w h
  rw [List.take_length] at h
  refine Zg (fun (m : Nat) a w => m ≤ n ∧ St 42 S w0 [(0, nI n), (4, pB b4), (5, pB b5), (11, .slice ad l.length c), (12, nI l.length), (13, nI l.length), (28, nI n), (29, nI m)] [(b5, bV (Jf (Zho (l.foldl upQ 1) m)) 44), (b4, bV (Jf (0)) 44)] [Row ad (List.map Zo l)] a w) (fun m => n - m) 0 (⟨Nat.zero_le _, by exact (h).sub sA⟩) ?_; clear h
  rintro m a w ⟨hi_m, h⟩
  refine gC h (zS (zp (.lss rfl rfl) (zn (zs ?_)))); clear h; intro a w h
  refine Zc h rfl (fun hc30 => ?_) (fun hc30 => ?_)
  ·
   skip
   have hlt_m : m < n := dT hc30
   have hlm := Zdu (l.foldl upQ 1) m oo
   have hlk := Zfy l 1 hx
   have hl1 := Zab
   refine gC h (zk (zs (zb (zS (zm rfl (za rfl (zn (yD Za [0, 1, 2, 3, 4, 5, 6, 7, 8] (Zb kk) (yd rfl rfl mr isAgg44 sizeOf44 Zf ?_))))))))); clear h
   refine ym rfl rfl (yp rfl (.pN (m + 1) (.add rfl rfl)) (yv [_] rfl rfl call45 (Gl _ oo oo) ?_))
   have hl36 := Qe (((m + 1 : Nat) : Int)) oo oo
   refine yv [_, _] rfl rfl call124 (Zy3 _ _ int_ne oo oo) (ym rfl rfl (yp rfl (.eX rfl) (yp rfl (.eX rfl) (yt rfl rfl rfl Zq uu sizeOf44 rfl nb rfl ?_))))
   refine yn (zr (zp (.pN (m + 1) (.add rfl rfl)) (zm rfl (zn ?_)))); intro a w h
   exact ⟨m + 1, ⟨oo, h.sub sA⟩, oo⟩
  ·
   skip
   have heq_m : n = m := dF hc30
   subst heq_m
   refine gC h (ze (zS (zd rfl mr isAgg44 sizeOf44 Zf ?_)))
   refine zt' rfl rfl Zq uu sizeOf44 rfl nb rfl ?_; intro a w h
   refine wpList_nil (wp_ret ?_)
   refine Jp h (Zd h rfl (.cell rfl mr isAgg44 sizeOf44 Zf)) ?_
   rfl
theorem ix3 (a b c m : Nat) (h : m < 3) (w : World) : (Instr.index 157 (.agg #[.int .i64 (a : Int), .int .i64 (b : Int), .int .i64 (c : Int)]) (.int .i64 (m : Int))).run Tryz.prog w = .ok (.int .i64 (([a, b, c].getD m 0 : Nat) : Int)) w := by
 match m, h with
 | 0, _ => unfold Instr.index; simp [go_sem]
 | 1, _ => unfold Instr.index; simp [go_sem]
 | 2, _ => unfold Instr.index; simp [go_sem]
theorem Kt (i j k : Nat) (hi : i ≤ 48) (hj : j ≤ 48) (hk : k ≤ 48) : Qa (Jt i j k) ≤ 1000 := by
 unfold Jt Zdf
 have h1 := Zu ((2 : Int) : Rat) (Zho ([i, j, k].foldl upQ 1) (i + j + k + 2))
 have h2 := Qe 2 oo oo
 have h3 := Zdu ([i, j, k].foldl upQ 1) (i + j + k + 2) oo
 have h4 := Zfy [i, j, k] 1 (by simp; omega)
 have h5 := Zab
 simp only [List.length_cons, List.length_nil] at h4
 omega
theorem Zaf (i j k : Nat) (hi : i ≤ 48) (hj : j ≤ 48) (hk : k ≤ 48) :
  Yi Tryz.prog 50 [.int .i64 ((i : Nat) : Int), .int .i64 ((j : Nat) : Int), .int .i64 ((k : Nat) : Int)] (Jf (Jt i j k)) := by
 refine fn_intro func50 rfl ntmps50 nb ?_
 intro S w0 a hS h
 refine gC h (zS (zz Xi fun b6 => zn (zs (zS (zm rfl (zm rfl (zm rfl (zp (.build [(_, _), (_, _), (_, _)] rfl (Zhi _ _ _)) (zm rfl (zn (zb ?_))))))))))); clear h; intro a w h
 refine Zg (fun (m : Nat) a w => m ≤ 3 ∧ St 37 S w0 [(0, nI i), (1, nI j), (2, nI k), (6, pB b6), (12, .agg #[.int .i64 (i : Int), .int .i64 (j : Int), .int .i64 (k : Int)]), (13, nI m)] [(b6, bV (Jf (0)) 44)] [] a w) (fun m => 3 - m) 0 (⟨Nat.zero_le _, by exact (h).sub sA⟩) ?_; clear h
 rintro m a w ⟨hi_m, h⟩
 refine gC h (zS (zp (.lss rfl rfl) (zn (zs ?_)))); clear h; intro a w h
 refine Zc h rfl (fun hc14 => ?_) (fun hc14 => ?_)
 ·
  skip
  have hlt_m : m < 3 := dT hc14
  have hb : [i, j, k].getD m 0 ≤ 48 := by match m, hlt_m with | 0, _ => exact hi | 1, _ => exact hj | 2, _ => exact hk
  refine gC h (zk (zs (zb (zS (zp (.index rfl rfl (fun w => ix3 i j k m oo w)) (za rfl (zn (zS (zm rfl (zp (.lss rfl rfl) ?_)))))))))); clear h; intro a w h
  refine Zl h (fun hc17 h => (by exfalso; have := of_decide_eq_true hc17; omega)) (fun hc17 h => ?_)
  refine gL h (zm rfl (zq 18 rfl rfl (.move rfl) (zq 18 rfl rfl (.gtr rfl rfl) ?_))); clear h; intro a w h
  refine Zl h (fun hc20 h => (by exfalso; have := of_decide_eq_true hc20; omega)) (fun hc20 h => ?_)
  refine gL h (zp (.pickF rfl rfl) (zn ?_)); clear h; intro a w h
  refine cW ?_
  refine Zk h rfl ?_
  refine gC h (zk (zr (zp (.pN (m + 1) (.add rfl rfl)) (zm rfl (zn ?_))))); clear h; intro a w h
  exact ⟨m + 1, ⟨oo, h.sub sA⟩, oo⟩
 ·
  skip
  have heq_m : 3 = m := dF hc14
  subst heq_m
  refine gC h (ze (zS (zv [_] rfl call45 (Gl _ oo oo) ?_)))
  have hl24 := Qe (2) oo oo
  refine zm rfl (zm rfl (zp (.pN (i + j) (.add rfl rfl)) (zm rfl (zp (.pN ((i + j) + k) (.add rfl rfl)) (zp (.pN (((i + j) + k) + 2) (.add rfl rfl)) (zm rfl (zm rfl (zm rfl (zB [(_, _), (_, _), (_, _)] rfl (Zlz _ _ _) fun b34 => ?_))))))))); intro a w h
  replace h := h.shareAll hS (List.map Zo ([i, j, k])) rfl
  have hlr : Qa (Zdf (i + j + k + 2) [i, j, k]) ≤ 900 := by have := Zdu ([i, j, k].foldl upQ 1) (i + j + k + 2) oo; have h4 := Zfy [i, j, k] 1 (by simp; omega); have := Zab; simp only [List.length_cons, List.length_nil] at h4; unfold Zdf; omega
  refine gL h (zw [_, _] rfl call113 (Ztd (i + j + k + 2) [i, j, k] _ _ oo ss (by simp; omega)) (zv [_, _] rfl call69 (Vr _ _ oo oo) ?_))
  have hl36 := Zu (((2 : Int) : Rat)) (Zdf (i + j + k + 2) [i, j, k])
  refine zt' rfl rfl Zq uu sizeOf44 rfl nb rfl ?_; intro a w h
  refine wpList_nil (wp_ret ?_)
  refine Jp h (Zd h rfl (.cell rfl mr isAgg44 sizeOf44 Zf)) ?_
  rfl
end
section
abbrev enci (x : Int) : Value := .int .i64 x
def orI : List Int → Int
 | [] => 0
 | x :: l => if x ≠ 0 then x else orI l
theorem Zwg : ∀ (l : List Int) (i : Nat), (∀ j, j < i → l.getD j 0 = 0) → i < l.length → l.getD i 0 ≠ 0 → orI l = l.getD i 0
 | [], i, _, h, _ => by simp at h
 | x :: l, 0, _, _, h => by rw [orI]; exact if_pos (by simpa using h)
 | x :: l, i + 1, hz, hl, h => by
  have h0 : x = 0 := by simpa using hz 0 oo
  rw [orI, if_neg (by simp [h0]), Zwg l i (fun j hj => by simpa using hz (j + 1) oo) (by simpa using hl) (by simpa using h)]
  simp
theorem Zri : ∀ (l : List Int), (∀ j, j < l.length → l.getD j 0 = 0) → orI l = 0
 | [], _ => rfl
 | x :: l, hz => by
  have h0 : x = 0 := by simpa using hz 0 ss
  rw [orI, if_neg (by simp [h0]), Zri l (fun j hj => by simpa using hz (j + 1) (by simpa using hj))]
def idxN : List Rat → Nat → Int
 | [], _ => -1
 | x :: l, i => if x.num.sign < 0 then (i : Int) else idxN l (i + 1)
def cfN (E : List Rat) (i k : Nat) : Int := orI [(E.getD k 0 - E.getD i 0).num.sign, Zqb (i : Int) (k : Int)]
theorem C_Or (ad : Option Addr) (c : Nat) (l : List Int) (hn : l.length ≤ 1000) : Zae Tryz.prog 151 [.slice ad l.length c] [Row ad (List.map enci l)] (.int .i64 (orI l)) := by
 refine fn_intro func151 rfl ntmps151 nb ?_
 intro S w0 a hS h
 refine gC h (zS (za rfl (zn (zS (za rfl (zn (zs (zS (zm rfl (zp (.builtin [_] rfl (Zhc _ _ _)) (zm rfl (zn (zb ?_))))))))))))); clear h; intro a w h
 refine Zg (fun (i : Nat) a w => i ≤ l.length ∧ (∀ j, j < i → l.getD j 0 = 0) ∧ St 18 S w0 [(3, .int .i64 0), (6, .slice ad l.length c), (7, nI l.length), (8, nI i)] [] [Row ad (List.map enci l)] a w) (fun i => l.length - i) 0 (⟨Nat.zero_le _, fun j hj => absurd hj oo, by exact (h).sub sA⟩) ?_; clear h
 rintro i a w ⟨hi_i, hinv_i, h⟩
 refine gC h (zS (zp (.lss rfl rfl) (zn (zs ?_)))); clear h; intro a w h
 refine Zc h rfl (fun hc9 => ?_) (fun hc9 => ?_)
 ·
  skip
  have hlt_i : i < l.length := dT hc9
  obtain ⟨B_ad, O_ad, rfl⟩ := h.row_addr (ad := ad) (M := List.map enci l) mm nF
  refine gC h (zk (zs (zb (zS (zp (.indexAddr rfl rfl (ix_51 _ _ _ _ _ oo)) (zD rfl mm (by rw [List.length_map]; omega) isAgg3 sizeOf3 (Zx (enc := enci) (l := l) 0 oo) (.inr rfl) ?_))))))
  refine za rfl (zn (zS (zm rfl (zm rfl (zp (.neq rfl rfl) ?_))))); intro a w h
  refine Zl h (fun hc14 h => ?_) (fun hc14 h => ?_)
  ·
   skip
   refine wpList_nil ?_
   refine cW ?_
   refine Zp h rfl ?_
   refine gC h (zS (zm rfl (za rfl (zn (zt ?_))))); clear h; intro a w h
   refine Jp h (Zd h rfl (.tmp rfl)) ?_
   rw [Zwg l i hinv_i hlt_i (by simpa using hc14)]
  ·
   skip
   refine wpList_nil ?_
   refine cW ?_
   refine Zk h rfl ?_
   refine gC h (zk (zr (zp (.pN (i + 1) (.add rfl rfl)) (zm rfl (zn ?_))))); clear h; intro a w h
   exact ⟨i + 1, ⟨oo, fun j hj => by
    rcases Nat.lt_or_ge j i with h1 | h1
    · exact hinv_i j h1
    · rw [show j = i by omega]; simpa using hc14, (h.factsSub (by simp)).sub sA⟩, oo⟩
 ·
  skip
  have heq_i : l.length = i := dF hc9
  subst heq_i
  refine gC h (ze (zS (zm rfl (za rfl (zn (zt ?_)))))); clear h; intro a w h
  refine Jp h (Zd h rfl (.tmp rfl)) ?_
  rw [Zri l hinv_i]
end
section
structure Tm where
 i : Nat
 j : Nat
 c : Rat
theorem Tm.ext' {s t : Tm} (h1 : s.i = t.i) (h2 : s.j = t.j) (h3 : s.c = t.c) : s = t := by cases s; cases t; simp_all
instance : DecidableEq Tm := fun s t => decidable_of_iff (s.i = t.i ∧ s.j = t.j ∧ s.c = t.c) ⟨fun h => Tm.ext' h.1 h.2.1 h.2.2, fun h => by rw [h]; exact ⟨rfl, rfl, rfl⟩⟩
def lin (φ : Nat → Nat → Rat) : List Tm → Rat
 | [] => 0
 | t :: l => t.c * φ t.i t.j + lin φ l
theorem Zlc (φ : Nat → Nat → Rat) : lin φ [] = 0 := rfl
theorem Jb (φ : Nat → Nat → Rat) : ∀ l m : List Tm, lin φ (l ++ m) = lin φ l + lin φ m
 | [], m => by simp only [List.nil_append, lin]; grind
 | t :: l, m => by simp only [List.cons_append, lin, Jb φ l m]; grind
theorem Qai (φ : Nat → Nat → Rat) {l m : List Tm} (h : l.Perm m) : lin φ l = lin φ m := by
 induction h with
 | nil => rfl
 | cons x _ ih => simp only [lin, ih]
 | swap x y l => simp only [lin]; grind
 | trans _ _ h1 h2 => rw [h1, h2]
theorem Jo {φ ψ : Nat → Nat → Rat} : ∀ {l : List Tm}, (∀ t ∈ l, φ t.i t.j = ψ t.i t.j) → lin φ l = lin ψ l
 | [], _ => rfl
 | t :: l, h => by rw [lin, lin, h t List.mem_cons_self, Jo (fun s hs => h s (List.mem_cons_of_mem _ hs))]
theorem Zc6 (φ ψ : Nat → Nat → Rat) : ∀ l : List Tm, lin (fun i j => φ i j + ψ i j) l = lin φ l + lin ψ l
 | [] => by simp only [lin]; grind
 | t :: l => by simp only [lin, Zc6 φ ψ l]; grind
theorem Zlb (φ ψ : Nat → Nat → Rat) : ∀ l : List Tm, lin (fun i j => φ i j - ψ i j) l = lin φ l - lin ψ l
 | [] => by simp only [lin]; grind
 | t :: l => by simp only [lin, Zlb φ ψ l]; grind
theorem Zbw (a : Rat) (φ : Nat → Nat → Rat) : ∀ l : List Tm, lin (fun i j => a * φ i j) l = a * lin φ l
 | [] => by simp only [lin]; grind
 | t :: l => by simp only [lin, Zbw a φ l]; grind
theorem Zei (a : Rat) (φ : Nat → Nat → Rat) : ∀ l : List Tm, lin (fun i j => φ i j * a) l = lin φ l * a
 | [] => by simp only [lin]; grind
 | t :: l => by simp only [lin, Zei a φ l]; grind
theorem Zrx : ∀ l : List Tm, lin (fun _ _ => 0) l = 0
 | [] => rfl
 | t :: l => by simp only [lin, Zrx l]; grind
theorem Zry (f : Nat → Nat → Nat → Nat → Rat) : ∀ l m : List Tm, lin (fun i j => lin (fun p q => f i j p q) m) l = lin (fun p q => lin (fun i j => f i j p q) l) m
 | [], m => by simp only [lin]; rw [Zrx]
 | t :: l, m => by
  simp only [lin, Zry f l m, Zc6, Zbw]
theorem Ze6 (φ : Nat → Nat → Rat) (g : Tm → Tm) (ψ : Nat → Nat → Rat) : ∀ l : List Tm, (∀ t ∈ l, (g t).c * φ (g t).i (g t).j = t.c * ψ t.i t.j) → lin φ (l.map g) = lin ψ l
 | [], _ => rfl
 | t :: l, h => by rw [List.map_cons, lin, lin, h t List.mem_cons_self, Ze6 φ g ψ l (fun s hs => h s (List.mem_cons_of_mem _ hs))]
theorem Ze7 (φ : Nat → Nat → Rat) (g : Tm → List Tm) (ψ : Nat → Nat → Rat) : ∀ l : List Tm, (∀ t ∈ l, lin φ (g t) = t.c * ψ t.i t.j) → lin φ (l.flatMap g) = lin ψ l
 | [], _ => rfl
 | t :: l, h => by rw [List.flatMap_cons, Jb, lin, h t List.mem_cons_self, Ze7 φ g ψ l (fun s hs => h s (List.mem_cons_of_mem _ hs))]
def same (s t : Tm) : Prop := s.i = t.i ∧ s.j = t.j
instance (s t : Tm) : Decidable (same s t) := inferInstanceAs (Decidable (_ ∧ _))
def Zdi (t : Tm) : List Tm → List Tm
 | [] => [⟨t.i, t.j, 0 + t.c⟩]
 | s :: p => if same s t then ⟨s.i, s.j, s.c + t.c⟩ :: p else s :: Zdi t p
theorem Zr1 (φ : Nat → Nat → Rat) (t : Tm) : ∀ p : List Tm, lin φ (Zdi t p) = lin φ p + t.c * φ t.i t.j
 | [] => by simp only [Zdi, lin]; grind
 | s :: p => by
  rw [Zdi]
  split
  · rename_i h; obtain ⟨h1, h2⟩ := h; simp only [lin, h1, h2]; grind
  · simp only [lin, Zr1 φ t p]; grind
theorem Zlm {t u : Tm} : ∀ {p : List Tm}, u ∈ Zdi t p → same u t ∨ u ∈ p
 | [], h => by simp only [Zdi, List.mem_singleton] at h; subst h; exact .inl ⟨rfl, rfl⟩
 | s :: p, h => by
  rw [Zdi] at h
  split at h
  ·
   rename_i h2
   rcases List.mem_cons.1 h with rfl | h
   · exact .inl h2
   · exact .inr (List.mem_cons_of_mem _ h)
  ·
   rcases List.mem_cons.1 h with rfl | h
   · exact .inr List.mem_cons_self
   · exact (Zlm h).imp id (List.mem_cons_of_mem _)
def dif (p : List Tm) : Prop := p.Pairwise (fun s t => ¬ same s t)
theorem Zse (t : Tm) : ∀ {p : List Tm}, dif p → dif (Zdi t p)
 | [], _ => by rw [Zdi]; exact List.pairwise_singleton _ _
 | s :: p, h => by
  obtain ⟨h1, h2⟩ := List.pairwise_cons.1 h
  rw [Zdi]
  split
  · rename_i hs; exact List.pairwise_cons.2 ⟨fun u hu hc => h1 u hu hc, h2⟩
  ·
   rename_i hs
   refine List.pairwise_cons.2 ⟨fun u hu => ?_, Zse t h2⟩
   rcases Zlm hu with h3 | h3
   · exact fun h4 => hs ⟨h4.1.trans h3.1, h4.2.trans h3.2⟩
   · exact h1 u h3
theorem Zsd (t : Tm) : ∀ p : List Tm, (Zdi t p).length ≤ p.length + 1
 | [] => Nat.le_refl _
 | s :: p => by
  have h := Zsd t p
  rw [Zdi]; split <;> simp only [List.length_cons] <;> omega
def collect (l : List Tm) : List Tm := l.foldl (fun p t => Zdi t p) []
theorem Zjf (φ : Nat → Nat → Rat) : ∀ (l p : List Tm), lin φ (l.foldl (fun p t => Zdi t p) p) = lin φ p + lin φ l
 | [], p => by simp only [List.foldl_nil, lin]; grind
 | t :: l, p => by rw [List.foldl_cons, Zjf φ l, Zr1, lin]; grind
theorem Zpo (φ : Nat → Nat → Rat) (l : List Tm) : lin φ (collect l) = lin φ l := by
 rw [collect, Zjf, lin]; grind
theorem Zd3 : ∀ (l : List Tm) {p : List Tm}, dif p → dif (l.foldl (fun p t => Zdi t p) p)
 | [], p, h => h
 | t :: l, p, h => by rw [List.foldl_cons]; exact Zd3 l (Zse t h)
theorem Zjg (l : List Tm) : dif (collect l) := Zd3 l List.Pairwise.nil
theorem Zd1 {u : Tm} : ∀ (l : List Tm) {p : List Tm}, u ∈ l.foldl (fun p t => Zdi t p) p → u ∈ p ∨ ∃ t ∈ l, same u t
 | [], p, h => .inl h
 | t :: l, p, h => by
  rw [List.foldl_cons] at h
  rcases Zd1 l h with h1 | ⟨s, hs, h1⟩
  ·
   rcases Zlm h1 with h2 | h2
   · exact .inr ⟨t, List.mem_cons_self, h2⟩
   · exact .inl h2
  · exact .inr ⟨s, List.mem_cons_of_mem _ hs, h1⟩
theorem Zfa {l : List Tm} {u : Tm} (h : u ∈ collect l) : ∃ t ∈ l, same u t := by
 rcases Zd1 l h with h | h
 · cases h
 · exact h
theorem Zd2 : ∀ (l p : List Tm), (l.foldl (fun p t => Zdi t p) p).length ≤ p.length + l.length
 | [], p => Nat.le_refl _
 | t :: l, p => by rw [List.foldl_cons]; have := Zd2 l (Zdi t p); have := Zsd t p; simp only [List.length_cons]; omega
theorem Zfb (l : List Tm) : (collect l).length ≤ l.length := by have := Zd2 l []; simpa [collect] using this
def ltT (s t : Tm) : Bool := decide (s.i + s.j < t.i + t.j ∨ (s.i + s.j = t.i + t.j ∧ s.j < t.j))
theorem Zb8 (s t : Tm) : ltT s t = true ↔ (s.i + s.j < t.i + t.j ∨ (s.i + s.j = t.i + t.j ∧ s.j < t.j)) := decide_eq_true_iff
theorem Zkf (s : Tm) : ltT s s = false := by rw [Bool.eq_false_iff, Ne, Zb8]; omega
theorem Ziu {s t u : Tm} (h1 : ltT s t = true) (h2 : ltT t u = true) : ltT s u = true := by rw [Zb8] at *; omega
theorem Zke {s t u : Tm} (h1 : ltT s t = false) (h2 : ltT t u = false) : ltT s u = false := by rw [Bool.eq_false_iff, Ne, Zb8] at *; omega
theorem Ziv {s t : Tm} (h1 : ltT s t = false) (h2 : ltT t s = false) : same s t := by
 rw [Bool.eq_false_iff, Ne, Zb8] at *; unfold same; omega
def Nrm (p : List Tm) : Prop := (∀ t ∈ p, t.c ≠ 0) ∧ p.Pairwise (fun s t => ltT s t = true)
def norm (l : List Tm) : List Tm := ((collect l).filter (fun t => decide (t.c ≠ 0))).mergeSort (fun s t => !ltT t s)
theorem Zgl (φ : Nat → Nat → Rat) : ∀ l : List Tm, lin φ (l.filter (fun t => decide (t.c ≠ 0))) = lin φ l
 | [] => rfl
 | t :: l => by
  rw [List.filter_cons]
  split
  · rw [lin, lin, Zgl φ l]
  ·
   rename_i h
   have h0 : t.c = 0 := by simpa using h
   rw [lin, Zgl φ l, h0]; grind
theorem Gf (φ : Nat → Nat → Rat) (l : List Tm) : lin φ (norm l) = lin φ l := by
 rw [norm, Qai φ (List.mergeSort_perm _ _), Zgl, Zpo]
theorem Zh4 {l : List Tm} {u : Tm} (h : u ∈ norm l) : u ∈ collect l ∧ u.c ≠ 0 := by
 have := (List.mergeSort_perm _ _).mem_iff.1 h
 rw [List.mem_filter] at this
 exact ⟨this.1, by simpa using this.2⟩
theorem Gz (l : List Tm) : Nrm (norm l) := by
 refine ⟨fun t ht => (Zh4 ht).2, ?_⟩
 have hd : dif (norm l) := by
  have h1 : dif ((collect l).filter (fun t => decide (t.c ≠ 0))) := List.Pairwise.filter _ (Zjg l)
  refine (List.Perm.pairwise_iff (fun {x y} h h2 => h ⟨h2.1.symm, h2.2.symm⟩) (List.mergeSort_perm _ _)).2 h1
 have hs := List.pairwise_mergeSort (le := fun s t => !ltT t s) (fun a b c h1 h2 => by
   simp only [Bool.not_eq_true'] at *
   exact Zke h2 h1) (fun a b => by
   rcases h : ltT b a with _ | _
   · simp
   ·
    have : ltT a b = false := by rw [Bool.eq_false_iff]; intro h2; have := Ziu h h2; rw [Zkf] at this; cases this
    simp [this]) ((collect l).filter (fun t => decide (t.c ≠ 0)))
 refine List.Pairwise.imp₂ (fun s t h1 h2 => ?_) hs hd
 rcases h : ltT s t with _ | _
 · exact absurd (Ziv h (by simpa using h1)) h2
 · rfl
def at0 (a b : Nat) : Nat → Nat → Rat := fun i j => if i = a ∧ j = b then 1 else 0
theorem Yl {a b : Nat} : ∀ {l : List Tm}, (∀ t ∈ l, ¬ (t.i = a ∧ t.j = b)) → lin (at0 a b) l = 0
 | [], _ => rfl
 | t :: l, h => by
  rw [lin, Yl (fun s hs => h s (List.mem_cons_of_mem _ hs)), at0, if_neg (h t List.mem_cons_self)]; grind
theorem Zk7 {t : Tm} {p : List Tm} (h : Nrm (t :: p)) : Nrm p := ⟨fun s hs => h.1 s (List.mem_cons_of_mem _ hs), (List.pairwise_cons.1 h.2).2⟩
theorem Zbv {t : Tm} {p : List Tm} (h : Nrm (t :: p)) : lin (at0 t.i t.j) (t :: p) = t.c := by
 rw [lin, Yl (fun s hs => ?_), at0, if_pos ⟨rfl, rfl⟩]
 · grind
 ·
  have := (List.pairwise_cons.1 h.2).1 s hs
  rw [Zb8] at this; omega
theorem Zrl {s t : Tm} {q : List Tm} (h : ltT s t = true) (hq : Nrm (t :: q)) : lin (at0 s.i s.j) (t :: q) = 0 := by
 refine Yl (fun u hu => ?_)
 have hu' : ltT s u = true := by
  rcases List.mem_cons.1 hu with rfl | hu
  · exact h
  · exact Ziu h ((List.pairwise_cons.1 hq.2).1 u hu)
 rw [Zb8] at hu'; omega
theorem Zk8 : ∀ {p q : List Tm}, Nrm p → Nrm q → (∀ φ, lin φ p = lin φ q) → p = q
 | [], [], _, _, _ => rfl
 | [], t :: q, _, hq, h => by
  have h1 := h (at0 t.i t.j)
  rw [Zbv hq, Zlc] at h1
  exact absurd h1.symm (hq.1 t List.mem_cons_self)
 | s :: p, [], hp, _, h => by
  have h1 := h (at0 s.i s.j)
  rw [Zbv hp, Zlc] at h1
  exact absurd h1 (hp.1 s List.mem_cons_self)
 | s :: p, t :: q, hp, hq, h => by
  have hst : same s t := by
   refine Ziv ?_ ?_
   ·
    rw [Bool.eq_false_iff]; intro hc
    have h1 := h (at0 s.i s.j)
    rw [Zbv hp, Zrl hc hq] at h1
    exact hp.1 s List.mem_cons_self h1
   ·
    rw [Bool.eq_false_iff]; intro hc
    have h1 := h (at0 t.i t.j)
    rw [Zbv hq, Zrl hc hp] at h1
    exact hq.1 t List.mem_cons_self h1.symm
  have hc : s.c = t.c := by
   have h1 := h (at0 s.i s.j)
   rw [Zbv hp, hst.1, hst.2, Zbv hq] at h1
   exact h1
  have e := Tm.ext' hst.1 hst.2 hc
  subst e
  rw [Zk8 (Zk7 hp) (Zk7 hq) (fun φ => by have := h φ; rw [lin, lin] at this; grind)]
theorem Va {l m : List Tm} (h : ∀ φ, lin φ l = lin φ m) : norm l = norm m :=
 Zk8 (Gz l) (Gz m) (fun φ => by rw [Gf, Gf, h])
theorem Zis {p : List Tm} (h : Nrm p) : norm p = p := Zk8 (Gz p) h (fun φ => Gf φ p)
theorem Zfq (l : List Tm) : norm (norm l) = norm l := Zis (Gz l)
end
section
theorem Zk2 (x : Rat) (m : Nat) : ∀ n : Nat, x ^ (m + n) = x ^ m * x ^ n
 | 0 => by rw [Nat.add_zero, Rat.pow_zero]; grind
 | n + 1 => by rw [← Nat.add_assoc, Rat.pow_succ, Rat.pow_succ, Zk2 x m n]; grind
theorem Zk3 (x y : Rat) : ∀ n : Nat, (x * y) ^ n = x ^ n * y ^ n
 | 0 => by rw [Rat.pow_zero, Rat.pow_zero, Rat.pow_zero]; grind
 | n + 1 => by rw [Rat.pow_succ, Rat.pow_succ, Rat.pow_succ, Zk3 x y n]; grind
theorem Zfn : ∀ n : Nat, (1 : Rat) ^ n = 1
 | 0 => Rat.pow_zero _
 | n + 1 => by rw [Rat.pow_succ, Zfn n]; grind
def evP (l : List Tm) (x y : Rat) : Rat := lin (fun i j => x ^ i * y ^ j) l
def Xv (a b : List Tm) : List Tm := a.flatMap (fun s => b.map (fun t => ⟨s.i + t.i, s.j + t.j, s.c * t.c⟩))
theorem Gg (φ : Nat → Nat → Rat) (a b : List Tm) : lin φ (Xv a b) = lin (fun i j => lin (fun p q => φ (i + p) (j + q)) b) a := by
 unfold Xv
 refine Ze7 φ _ _ a (fun s _ => ?_)
 rw [Ze6 φ _ (fun p q => s.c * φ (s.i + p) (s.j + q)) b (fun t _ => by simp only; grind), Zbw]
theorem Zaq (a b : List Tm) (x y : Rat) : evP (Xv a b) x y = evP a x y * evP b x y := by
 unfold evP
 rw [Gg, ← Zei]
 refine Jo (fun s _ => ?_)
 rw [← Zbw]
 refine Jo (fun t _ => ?_)
 rw [Zk2, Zk2]; grind
def Yt (p : List Tm) : Nat → List Tm
 | 0 => [⟨0, 0, 1⟩]
 | n + 1 => Xv (Yt p n) p
theorem Vk (p : List Tm) (x y : Rat) : ∀ n, evP (Yt p n) x y = evP p x y ^ n
 | 0 => by rw [Yt, evP, lin, lin, Rat.pow_zero, Rat.pow_zero, Rat.pow_zero]; grind
 | n + 1 => by rw [Yt, Zaq, Vk p x y n, Rat.pow_succ]
theorem Zf4 (l m : List Tm) (x y : Rat) : evP (l ++ m) x y = evP l x y + evP m x y := Jb _ _ _
def Qw (c : Rat) (l : List Tm) : List Tm := l.map (fun t => ⟨t.i, t.j, c * t.c⟩)
theorem Xh (φ : Nat → Nat → Rat) (c : Rat) (l : List Tm) : lin φ (Qw c l) = c * lin φ l := by
 unfold Qw
 rw [← Zbw]
 exact Ze6 φ _ _ l (fun t _ => by simp only; grind)
theorem Zcm (c : Rat) (l : List Tm) (x y : Rat) : evP (Qw c l) x y = c * evP l x y := Xh _ _ _
def sbL (X Y : List Tm) (l : List Tm) : List Tm := l.flatMap (fun t => Qw t.c (Xv (Yt X t.i) (Yt Y t.j)))
theorem Ge (φ : Nat → Nat → Rat) (X Y l : List Tm) : lin φ (sbL X Y l) = lin (fun i j => lin φ (Xv (Yt X i) (Yt Y j))) l := by
 unfold sbL
 exact Ze7 φ _ _ l (fun t _ => by rw [Xh])
theorem Zsj (X Y l : List Tm) (x y : Rat) : evP (sbL X Y l) x y = evP l (evP X x y) (evP Y x y) := by
 unfold evP
 rw [Ge]
 refine Jo (fun t _ => ?_)
 have := Zaq (Yt X t.i) (Yt Y t.j) x y
 rw [Vk, Vk] at this
 exact this
def dxL (l : List Tm) : List Tm := l.map (fun t => ⟨t.i - 1, t.j, t.c * ((t.i : Int) : Rat)⟩)
def dyL (l : List Tm) : List Tm := l.map (fun t => ⟨t.i, t.j - 1, t.c * ((t.j : Int) : Rat)⟩)
theorem Zc5 (φ : Nat → Nat → Rat) (l : List Tm) : lin φ (dxL l) = lin (fun i j => ((i : Int) : Rat) * φ (i - 1) j) l :=
 Ze6 φ _ _ l (fun t _ => by simp only; grind)
theorem Ze8 (φ : Nat → Nat → Rat) (l : List Tm) : lin φ (dyL l) = lin (fun i j => ((j : Int) : Rat) * φ i (j - 1)) l :=
 Ze6 φ _ _ l (fun t _ => by simp only; grind)
theorem Xs (a b : Nat) : (((a + b : Nat) : Int) : Rat) = ((a : Int) : Rat) + ((b : Int) : Rat) := by
 rw [Int.natCast_add, Rat.intCast_add]
theorem Yb : (((0 : Nat) : Int) : Rat) = 0 := rfl
theorem Zad : (((1 : Nat) : Int) : Rat) = 1 := rfl
theorem Zpn (φ : Nat → Nat → Rat) (a b : List Tm) : lin φ (dxL (Xv a b)) = lin φ (Xv (dxL a) b) + lin φ (Xv a (dxL b)) := by
 rw [Zc5, Gg, Gg, Gg, Zc5, ← Zc6]
 refine Jo (fun s _ => ?_)
 rw [Zc5, ← Zbw, ← Zc6]
 refine Jo (fun t _ => ?_)
 rw [Xs]
 rcases hs : s.i with _ | m <;> rcases ht : t.i with _ | n
 · simp only [Yb]; grind
 · rw [Yb]; simp only [Nat.zero_add, Nat.add_sub_cancel]; grind
 · rw [Yb]; simp only [Nat.add_zero, Nat.add_sub_cancel]; grind
 · rw [show m + 1 + (n + 1) - 1 = m + n + 1 by omega, show m + 1 - 1 + (n + 1) = m + n + 1 by omega, show m + 1 + (n + 1 - 1) = m + n + 1 by omega]; grind
theorem Zpm (φ : Nat → Nat → Rat) (a b : List Tm) : lin φ (dyL (Xv a b)) = lin φ (Xv (dyL a) b) + lin φ (Xv a (dyL b)) := by
 rw [Ze8, Gg, Gg, Gg, Ze8, ← Zc6]
 refine Jo (fun s _ => ?_)
 rw [Ze8, ← Zbw, ← Zc6]
 refine Jo (fun t _ => ?_)
 rw [Xs]
 rcases hs : s.j with _ | m <;> rcases ht : t.j with _ | n
 · simp only [Yb]; grind
 · rw [Yb]; simp only [Nat.zero_add, Nat.add_sub_cancel]; grind
 · rw [Yb]; simp only [Nat.add_zero, Nat.add_sub_cancel]; grind
 · rw [show m + 1 + (n + 1) - 1 = m + n + 1 by omega, show m + 1 - 1 + (n + 1) = m + n + 1 by omega, show m + 1 + (n + 1 - 1) = m + n + 1 by omega]; grind
theorem Znb (φ : Nat → Nat → Rat) (a b : List Tm) : lin φ (Xv a b) = lin φ (Xv b a) := by
 rw [Gg, Gg, Zry]
 exact Jo (fun s _ => Jo (fun t _ => by rw [Nat.add_comm t.i, Nat.add_comm t.j]))
def Eqv (l m : List Tm) : Prop := ∀ φ, lin φ l = lin φ m
theorem Eqv.rfl' {l : List Tm} : Eqv l l := fun _ => rfl
theorem Eqv.symm {l m : List Tm} (h : Eqv l m) : Eqv m l := fun φ => (h φ).symm
theorem Eqv.trans {l m k : List Tm} (h : Eqv l m) (h2 : Eqv m k) : Eqv l k := fun φ => (h φ).trans (h2 φ)
theorem Eqv.nrm (l : List Tm) : Eqv (norm l) l := fun φ => Gf φ l
theorem Eqv.mul {a b a' b' : List Tm} (h : Eqv a a') (h2 : Eqv b b') : Eqv (Xv a b) (Xv a' b') := fun φ => by
 rw [Gg, Gg, h]
 exact Jo (fun s _ => h2 _)
theorem Eqv.append {a b a' b' : List Tm} (h : Eqv a a') (h2 : Eqv b b') : Eqv (a ++ b) (a' ++ b') := fun φ => by rw [Jb, Jb, h, h2]
theorem Eqv.scale {a a' : List Tm} (c : Rat) (h : Eqv a a') : Eqv (Qw c a) (Qw c a') := fun φ => by rw [Xh, Xh, h]
theorem Eqv.dx {a a' : List Tm} (h : Eqv a a') : Eqv (dxL a) (dxL a') := fun φ => by rw [Zc5, Zc5, h]
theorem Eqv.dy {a a' : List Tm} (h : Eqv a a') : Eqv (dyL a) (dyL a') := fun φ => by rw [Ze8, Ze8, h]
theorem Eqv.pow {a a' : List Tm} (h : Eqv a a') : ∀ n, Eqv (Yt a n) (Yt a' n)
 | 0 => Eqv.rfl'
 | n + 1 => (Eqv.pow h n).mul h
theorem Eqv.sub {X Y l X' Y' l' : List Tm} (hX : Eqv X X') (hY : Eqv Y Y') (h : Eqv l l') : Eqv (sbL X Y l) (sbL X' Y' l') := fun φ => by
 rw [Ge, Ge, h]
 exact Jo (fun s _ => ((hX.pow _).mul (hY.pow _)) φ)
theorem Eqv.val {l m : List Tm} (h : Eqv l m) (x y : Rat) : evP l x y = evP m x y := h _
def pv (a : Nat → Rat) (x : Rat) : Nat → Rat
 | 0 => 0
 | n + 1 => pv a x n + a n * x ^ n
theorem Zrb (a : Nat → Rat) (x c d : Rat) : ∀ n, pv a (c * x) n - d * pv a x n = pv (fun k => a k * (c ^ k - d)) x n
 | 0 => by simp only [pv]; grind
 | n + 1 => by
  have h := Zrb a x c d n
  have e : (c * x) ^ n = c ^ n * x ^ n := Zk3 c x n
  simp only [pv, e]; grind
theorem Ztl : ∀ k n : Nat, k < n → (2 : Rat) ^ k - 2 ^ n ≠ 0 := by
 have hp : ∀ k : Nat, (0 : Rat) < 2 ^ k := fun k => by
  induction k with
  | zero => rw [Rat.pow_zero]; decide
  | succ k ih => rw [Rat.pow_succ]; grind
 have key : ∀ k d : Nat, (2 : Rat) ^ k < 2 ^ (k + d + 1) := fun k d => by
  induction d with
  | zero => rw [Rat.pow_succ]; have := hp k; have e : (2 : Rat) ^ (k + 0) = 2 ^ k := rfl; grind
  | succ d ih =>
   have h2 := hp (k + d + 1)
   rw [show k + (d + 1) + 1 = (k + d + 1) + 1 by omega, Rat.pow_succ]; grind
 intro k n h
 have := key k (n - k - 1)
 rw [show k + (n - k - 1) + 1 = n by omega] at this
 grind
theorem Zo8 : ∀ (n : Nat) (a : Nat → Rat), (∀ x, pv a x n = 0) → ∀ k, k < n → a k = 0
 | 0, _, _, k, hk => absurd hk (Nat.not_lt_zero _)
 | n + 1, a, h, k, hk => by
  have hb : ∀ x, pv (fun k => a k * (2 ^ k - 2 ^ n)) x n = 0 := fun x => by
   rw [← Zrb a x 2 (2 ^ n) n]
   have h1 := h (2 * x)
   have h2 := h x
   rw [pv] at h1 h2
   have e : (2 * x) ^ n = 2 ^ n * x ^ n := Zk3 2 x n
   rw [e] at h1
   grind
  have low : ∀ k, k < n → a k = 0 := fun k hk => by
   have h1 := Zo8 n _ hb k hk
   rcases Rat.mul_eq_zero.1 h1 with h2 | h2
   · exact h2
   · exact absurd h2 (Ztl k n hk)
  rcases Nat.lt_or_ge k n with h1 | h1
  · exact low k h1
  ·
   have e : k = n := oo
   subst e
   have z : ∀ m, m ≤ k → pv a 1 m = 0 := fun m => by
    induction m with
    | zero => intro _; rfl
    | succ m ih => intro hm; rw [pv, ih oo, low m oo]; grind
   have h1 := h 1
   rw [pv, z k (Nat.le_refl _)] at h1
   have e1 : (1 : Rat) ^ k = 1 := Zfn k
   rw [e1] at h1
   grind
theorem Zv5 (a b : Nat → Rat) (x : Rat) : ∀ n, pv (fun k => a k + b k) x n = pv a x n + pv b x n
 | 0 => by simp only [pv]; grind
 | n + 1 => by simp only [pv, Zv5 a b x n]; grind
theorem Ziq {a : Nat → Rat} (x : Rat) : ∀ {n}, (∀ k, k < n → a k = 0) → pv a x n = 0
 | 0, _ => rfl
 | n + 1, h => by rw [pv, h n (Nat.lt_succ_self _), Ziq x (fun k hk => h k (Nat.lt_succ_of_lt hk))]; grind
theorem Zv4 {a : Nat → Rat} (x : Rat) (m : Nat) : ∀ {n}, m < n → (∀ k, k ≠ m → a k = 0) → pv a x n = a m * x ^ m
 | 0, h, _ => absurd h (Nat.not_lt_zero _)
 | n + 1, h, h2 => by
  rw [pv]
  rcases Nat.lt_or_ge m n with h3 | h3
  · rw [Zv4 x m h3 h2, h2 n oo]; grind
  ·
   have e : m = n := oo
   subst e
   rw [Ziq x (fun k hk => h2 k oo)]; grind
def Zvh : List Tm → Nat
 | [] => 0
 | t :: l => max (max (t.i + 1) (t.j + 1)) (Zvh l)
theorem Zou {t : Tm} : ∀ {l : List Tm}, t ∈ l → t.i < Zvh l ∧ t.j < Zvh l
 | s :: l, h => by
  rw [Zvh]
  rcases List.mem_cons.1 h with rfl | h
  · omega
  · have := Zou h; omega
theorem ev_pv (x y : Rat) (n : Nat) : ∀ l : List Tm, (∀ t ∈ l, t.i < n ∧ t.j < n) → evP l x y = pv (fun i => pv (fun j => lin (at0 i j) l) y n) x n
 | [], _ => by
  exact (Ziq x (fun k _ => Ziq y (fun m _ => rfl))).symm
 | t :: l, h => by
  have ih := ev_pv x y n l (fun s hs => h s (List.mem_cons_of_mem _ hs))
  have ht := h t List.mem_cons_self
  have e : (fun i => pv (fun j => lin (at0 i j) (t :: l)) y n) = (fun i => pv (fun j => t.c * at0 i j t.i t.j) y n + pv (fun j => lin (at0 i j) l) y n) := by
   funext i; rw [← Zv5]; rfl
  rw [e, Zv5, ← ih]
  have e2 : pv (fun i => pv (fun j => t.c * at0 i j t.i t.j) y n) x n = t.c * (x ^ t.i * y ^ t.j) := by
   rw [Zv4 x t.i ht.1 (fun k hk => Ziq y (fun m _ => by rw [at0, if_neg (fun hc => hk hc.1.symm)]; grind)),
    Zv4 y t.j ht.2 (fun m hm => by rw [at0, if_neg (fun hc => hm hc.2.symm)]; grind), at0, if_pos ⟨rfl, rfl⟩]
   grind
  rw [e2]; rfl
theorem Zxz {l : List Tm} (h : ∀ x y, evP l x y = 0) (a b : Nat) : lin (at0 a b) l = 0 := by
 by_cases hab : a < Zvh l ∧ b < Zvh l
 ·
  have h1 : ∀ y i, i < Zvh l → pv (fun j => lin (at0 i j) l) y (Zvh l) = 0 := fun y =>
   Zo8 (Zvh l) _ (fun x => by rw [← ev_pv x y (Zvh l) l (fun t ht => Zou ht), h x y])
  exact Zo8 (Zvh l) _ (fun y => h1 y a hab.1) b hab.2
 · exact Yl (fun t ht hc => hab (by have := Zou ht; rw [hc.1, hc.2] at this; exact this))
theorem Zsn {l : List Tm} (h : ∀ a b, lin (at0 a b) l = 0) : ∀ φ, lin φ l = 0 := by
 intro φ
 rw [← Gf]
 have hn := Gz l
 rcases hl : norm l with _ | ⟨t, p⟩
 · rfl
 ·
  rw [hl] at hn
  have h1 := Zbv hn
  rw [← hl, Gf, h] at h1
  exact absurd h1.symm (hn.1 t List.mem_cons_self)
theorem Eqv.of_ev {l m : List Tm} (h : ∀ x y, evP l x y = evP m x y) : Eqv l m := by
 have h1 : ∀ x y, evP (l ++ Qw (-1) m) x y = 0 := fun x y => by rw [Zf4, Zcm, h]; grind
 intro φ
 have := Zsn (Zxz h1) φ
 rw [Jb, Xh] at this
 grind
end
section
theorem Zkk (a b : List Tm) (x y : Rat) : evP (dxL (Xv a b)) x y = evP (dxL a) x y * evP b x y + evP a x y * evP (dxL b) x y := by
 have := Zpn (fun i j => x ^ i * y ^ j) a b
 have h1 := Zaq (dxL a) b x y
 have h2 := Zaq a (dxL b) x y
 unfold evP at *
 rw [this, h1, h2]
theorem Zkj (a b : List Tm) (x y : Rat) : evP (dyL (Xv a b)) x y = evP (dyL a) x y * evP b x y + evP a x y * evP (dyL b) x y := by
 have := Zpm (fun i j => x ^ i * y ^ j) a b
 have h1 := Zaq (dyL a) b x y
 have h2 := Zaq a (dyL b) x y
 unfold evP at *
 rw [this, h1, h2]
theorem Zgs (p : List Tm) (x y : Rat) : ∀ n, evP (dxL (Yt p n)) x y = ((n : Int) : Rat) * evP p x y ^ (n - 1) * evP (dxL p) x y
 | 0 => by
  have : dxL (Yt p 0) = [⟨0, 0, 1 * (((0 : Nat) : Int) : Rat)⟩] := rfl
  rw [this, evP, lin, lin, Yb]; grind
 | n + 1 => by
  rw [Yt, Zkk, Zgs p x y n, Vk]
  rcases n with _ | n
  · rw [Yb, Zad, Rat.pow_zero]; grind
  · rw [Nat.add_sub_cancel, Nat.add_sub_cancel, Xs (n + 1) 1, Zad, Rat.pow_succ]; grind
theorem Zgr (p : List Tm) (x y : Rat) : ∀ n, evP (dyL (Yt p n)) x y = ((n : Int) : Rat) * evP p x y ^ (n - 1) * evP (dyL p) x y
 | 0 => by
  have : dyL (Yt p 0) = [⟨0, 0, 1 * (((0 : Nat) : Int) : Rat)⟩] := rfl
  rw [this, evP, lin, lin, Yb]; grind
 | n + 1 => by
  rw [Yt, Zkj, Zgr p x y n, Vk]
  rcases n with _ | n
  · rw [Yb, Zad, Rat.pow_zero]; grind
  · rw [Nat.add_sub_cancel, Nat.add_sub_cancel, Xs (n + 1) 1, Zad, Rat.pow_succ]; grind
theorem Zns (l : List Tm) (x y : Rat) : evP (dxL l) x y = lin (fun i j => ((i : Int) : Rat) * (x ^ (i - 1) * y ^ j)) l := Zc5 _ _
theorem Znr (l : List Tm) (x y : Rat) : evP (dyL l) x y = lin (fun i j => ((j : Int) : Rat) * (x ^ i * y ^ (j - 1))) l := Ze8 _ _
theorem Zxp (X Y p : List Tm) (x y : Rat) : evP (dxL (sbL X Y p)) x y = evP (dxL p) (evP X x y) (evP Y x y) * evP (dxL X) x y + evP (dyL p) (evP X x y) (evP Y x y) * evP (dxL Y) x y := by
 have h0 : evP (dxL (sbL X Y p)) x y = lin (fun i j => evP (dxL (Xv (Yt X i) (Yt Y j))) x y) p := by
  rw [Zns, Ge]
  exact Jo (fun t _ => (Zns _ x y).symm)
 rw [h0, Zns p, Znr p, ← Zei, ← Zei, ← Zc6]
 refine Jo (fun t _ => ?_)
 rw [Zkk, Zgs, Zgs, Vk, Vk]; grind
theorem Zxn (X Y p : List Tm) (x y : Rat) : evP (dyL (sbL X Y p)) x y = evP (dxL p) (evP X x y) (evP Y x y) * evP (dyL X) x y + evP (dyL p) (evP X x y) (evP Y x y) * evP (dyL Y) x y := by
 have h0 : evP (dyL (sbL X Y p)) x y = lin (fun i j => evP (dyL (Xv (Yt X i) (Yt Y j))) x y) p := by
  rw [Znr, Ge]
  exact Jo (fun t _ => (Znr _ x y).symm)
 rw [h0, Zns p, Znr p, ← Zei, ← Zei, ← Zc6]
 refine Jo (fun t _ => ?_)
 rw [Zkj, Zgr, Zgr, Vk, Vk]; grind
def ln (a b c : Rat) : List Tm := [⟨1, 0, a⟩, ⟨0, 1, b⟩, ⟨0, 0, c⟩]
theorem Zum (a b c x y : Rat) : evP (ln a b c) x y = a * x + b * y + c := by
 simp only [evP, ln, lin]; rw [Rat.pow_zero, Rat.pow_zero, Rat.pow_succ, Rat.pow_succ, Rat.pow_zero, Rat.pow_zero]; grind
theorem Zsl (a b c x y : Rat) : evP (dxL (ln a b c)) x y = a := by
 rw [Zns]
 simp only [ln, lin, Yb, Zad]; simp only [Nat.sub_self, Nat.zero_sub]; rw [Rat.pow_zero, Rat.pow_zero]; grind
theorem Zsk (a b c x y : Rat) : evP (dyL (ln a b c)) x y = b := by
 rw [Znr]
 simp only [ln, lin, Yb, Zad]; simp only [Nat.sub_self, Nat.zero_sub]; rw [Rat.pow_zero, Rat.pow_zero]; grind
def shL (p : List Tm) (ax bx cx ay by' cy : Rat) : List Tm := sbL (ln ax bx cx) (ln ay by' cy) p
theorem Zbh (p : List Tm) (ax bx cx ay b cy x y : Rat) : evP (shL p ax bx cx ay b cy) x y = evP p (ax * x + bx * y + cx) (ay * x + b * y + cy) := by
 rw [shL, Zsj, Zum, Zum]
theorem Zxo (p : List Tm) (ax bx cx ay b cy x y : Rat) : evP (dxL (shL p ax bx cx ay b cy)) x y = evP (dxL p) (ax * x + bx * y + cx) (ay * x + b * y + cy) * ax + evP (dyL p) (ax * x + bx * y + cx) (ay * x + b * y + cy) * ay := by
 rw [shL, Zxp, Zum, Zum, Zsl, Zsl]
theorem Zxm (p : List Tm) (ax bx cx ay b cy x y : Rat) : evP (dyL (shL p ax bx cx ay b cy)) x y = evP (dxL p) (ax * x + bx * y + cx) (ay * x + b * y + cy) * bx + evP (dyL p) (ax * x + bx * y + cx) (ay * x + b * y + cy) * b := by
 rw [shL, Zxn, Zum, Zum, Zsk, Zsk]
def lam (i j : Nat) : Rat := ((1 : Int) : Rat) / (((i + 1 : Nat) : Int) : Rat)
theorem Gu (n : Nat) : (((n + 1 : Nat) : Int) : Rat) ≠ 0 := fun e => by have := Rat.intCast_eq_zero_iff.1 e; omega
theorem Zdv (i j : Nat) : (((i + 1 : Nat) : Int) : Rat) * lam i j = 1 := by
 have h := Gu i
 have e1 : ((1 : Int) : Rat) = 1 := rfl
 unfold lam; rw [e1]; grind
def bt : Nat → Nat → Rat
 | 0, j => lam j 0
 | i + 1, j => bt i j - bt i (j + 1)
theorem Zgx : ∀ i j : Nat, (((i + j + 2 : Nat) : Int) : Rat) * bt (i + 1) j = (((i + 1 : Nat) : Int) : Rat) * bt i j ∧ (((i + j + 2 : Nat) : Int) : Rat) * bt i (j + 1) = (((j + 1 : Nat) : Int) : Rat) * bt i j
 | 0, j => by
  have h1 := Zdv j 0
  have h2 := Zdv (j + 1) 0
  have n1 := Gu j
  have n2 := Gu (j + 1)
  have e : (((0 + j + 2 : Nat) : Int) : Rat) = (((j + 1 : Nat) : Int) : Rat) + 1 := by rw [show 0 + j + 2 = (j + 1) + 1 by omega, Xs, Zad]
  have e2 : (((j + 1 + 1 : Nat) : Int) : Rat) = (((j + 1 : Nat) : Int) : Rat) + 1 := by rw [Xs, Zad]
  rw [e2] at h2 n2
  simp only [bt]
  rw [e, Zad]
  constructor
  ·
   have : (((j + 1 : Nat) : Int) : Rat) * ((((j + 1 : Nat) : Int) : Rat) + 1) * (lam j 0 - lam (j + 1) 0) = 1 := by grind
   grind
  · grind
 | i + 1, j => by
  obtain ⟨a1, a2⟩ := Zgx i j
  obtain ⟨b1, b2⟩ := Zgx i (j + 1)
  have h1 : bt (i + 1 + 1) j = bt (i + 1) j - bt (i + 1) (j + 1) := rfl
  have h2 : bt (i + 1) j = bt i j - bt i (j + 1) := rfl
  have h3 : bt (i + 1) (j + 1) = bt i (j + 1) - bt i (j + 1 + 1) := rfl
  have c1 : (((i + 1 + j + 2 : Nat) : Int) : Rat) = ((i : Int) : Rat) + ((j : Int) : Rat) + 3 := by
   rw [show i + 1 + j + 2 = i + j + 3 by omega, Xs, Xs]; rfl
  have c2 : (((i + j + 2 : Nat) : Int) : Rat) = ((i : Int) : Rat) + ((j : Int) : Rat) + 2 := by rw [Xs, Xs]; rfl
  have c3 : (((i + (j + 1) + 2 : Nat) : Int) : Rat) = ((i : Int) : Rat) + ((j : Int) : Rat) + 3 := by
   rw [show i + (j + 1) + 2 = i + j + 3 by omega, Xs, Xs]; rfl
  have c4 : (((i + 1 : Nat) : Int) : Rat) = ((i : Int) : Rat) + 1 := by rw [Xs]; rfl
  have c5 : (((j + 1 : Nat) : Int) : Rat) = ((j : Int) : Rat) + 1 := by rw [Xs]; rfl
  have c6 : (((i + 1 + 1 : Nat) : Int) : Rat) = ((i : Int) : Rat) + 2 := by rw [show i + 1 + 1 = i + 2 by omega, Xs]; rfl
  have c7 : (((j + 1 + 1 : Nat) : Int) : Rat) = ((j : Int) : Rat) + 2 := by rw [show j + 1 + 1 = j + 2 by omega, Xs]; rfl
  rw [c2] at a1 a2
  rw [c3] at b1 b2
  rw [c4] at a1 b1
  rw [c5] at a2
  rw [c7] at b2
  rw [c1, c5, c6, h1]
  constructor <;> grind
def mu (i j : Nat) : Rat := bt (i + 1) j / (((i + 1 : Nat) : Int) : Rat)
theorem Qaf (i j : Nat) : (((i + 1 : Nat) : Int) : Rat) * mu i j = bt (i + 1) j := by
 have h := Gu i
 unfold mu; grind
theorem mu_bt2 (i j : Nat) : (((j + 1 : Nat) : Int) : Rat) * mu i j = bt i (j + 1) := by
 obtain ⟨a1, a2⟩ := Zgx i j
 have h1 := Qaf i j
 have n0 := Gu i
 have n1 := Gu (i + j + 1)
 have e : (((i + j + 2 : Nat) : Int) : Rat) ≠ 0 := n1
 grind
def W1 : List Tm := [⟨0, 0, 1⟩, ⟨1, 0, -1⟩]
def X1 : List Tm := [⟨1, 0, 1⟩]
theorem ev_W1 (x y : Rat) : evP W1 x y = 1 - x := by
 simp only [evP, W1, lin]; rw [Rat.pow_zero, Rat.pow_zero, Rat.pow_succ, Rat.pow_zero]; grind
theorem Zun (x y : Rat) : evP X1 x y = x := by
 simp only [evP, X1, lin]; rw [Rat.pow_zero, Rat.pow_succ, Rat.pow_zero]; grind
theorem Zxl (x y : Rat) : evP [] x y = 0 := rfl
theorem Zd0 (i : Nat) (c x y : Rat) : evP [⟨i, 0, c⟩] x y = c * x ^ i := by
 simp only [evP, lin]; rw [Rat.pow_zero]; grind
theorem Zh5 : ∀ i j : Nat, lin lam (Xv (Yt W1 i) (Yt X1 j)) = bt i j
 | 0, j => by
  have h : Eqv (Xv (Yt W1 0) (Yt X1 j)) [⟨j, 0, 1⟩] := Eqv.of_ev (fun x y => by
   rw [Zaq, Vk, Vk, Zun, Zd0, Rat.pow_zero])
  rw [h lam]; simp only [lin, bt]
  have : lam j 0 = lam j 0 := rfl
  grind
 | i + 1, j => by
  have h : Eqv (Xv (Yt W1 (i + 1)) (Yt X1 j)) (Xv (Yt W1 i) (Yt X1 j) ++ Qw (-1) (Xv (Yt W1 i) (Yt X1 (j + 1)))) := Eqv.of_ev (fun x y => by
   rw [Zf4, Zcm, Zaq, Zaq, Zaq, Vk, Vk, Vk, Vk, Zun, ev_W1, Rat.pow_succ, Rat.pow_succ]; grind)
  rw [h lam, Jb, Xh, Zh5 i j, Zh5 i (j + 1), bt]; grind
theorem Zr0 (i j : Nat) : lin lam (Xv (Yt [] i) (Yt X1 j)) = if i = 0 then lam j 0 else 0 := by
 split
 ·
  rename_i h; subst h
  have h : Eqv (Xv (Yt [] 0) (Yt X1 j)) [⟨j, 0, 1⟩] := Eqv.of_ev (fun x y => by
   rw [Zaq, Vk, Vk, Zun, Zd0, Rat.pow_zero])
  rw [h lam]; simp only [lin]
  have : lam j 0 = lam j 0 := rfl
  grind
 ·
  rename_i h
  obtain ⟨k, rfl⟩ : ∃ k, i = k + 1 := ⟨i - 1, oo⟩
  have h : Eqv (Xv (Yt [] (k + 1)) (Yt X1 j)) [] := Eqv.of_ev (fun x y => by
   rw [Zaq, Vk, Zxl, Rat.pow_succ]; show 0 ^ k * 0 * _ = (0 : Rat); grind)
  rw [h lam]; rfl
theorem Qd7 (i j : Nat) : lin lam (Xv (Yt X1 i) (Yt [] j)) = if j = 0 then lam i 0 else 0 := by
 rw [Znb, Zr0]
theorem Qc2 (G : List Tm) : lin mu (dxL G) = lin lam (sbL W1 X1 G) - lin lam (sbL [] X1 G) := by
 rw [Zc5, Ge, Ge, ← Zlb]
 refine Jo (fun t _ => ?_)
 rw [Zh5, Zr0]
 split
 · rename_i h; rw [h, Yb, bt]; grind
 ·
  rename_i h
  obtain ⟨k, hk⟩ : ∃ k, t.i = k + 1 := ⟨t.i - 1, oo⟩
  rw [hk, Nat.add_sub_cancel, Qaf]; grind
theorem Qc1 (G : List Tm) : lin mu (dyL G) = lin lam (sbL W1 X1 G) - lin lam (sbL X1 [] G) := by
 rw [Ze8, Ge, Ge, ← Zlb]
 refine Jo (fun t _ => ?_)
 rw [Zh5, Qd7]
 split
 ·
  rename_i h
  rw [h, Yb]
  have : ∀ i, bt i 0 = lam i 0 := fun i => by
   have h1 := Zdv i 0
   have n1 := Gu i
   have h2 : ∀ i, (((i + 1 : Nat) : Int) : Rat) * bt i 0 = 1 := fun i => by
    induction i with
    | zero => exact Zdv 0 0
    | succ i ih =>
     have h3 := (Zgx i 0).1
     rw [ih] at h3
     exact h3
   have h3 := h2 i
   grind
  rw [this]; grind
 ·
  rename_i h
  obtain ⟨k, hk⟩ : ∃ k, t.j = k + 1 := ⟨t.j - 1, oo⟩
  rw [hk, Nat.add_sub_cancel, mu_bt2]; grind
abbrev Pt := Rat × Rat
def twQ (a b c : Pt) : Rat := (b.1 - a.1) * (c.2 - a.2) - (c.1 - a.1) * (b.2 - a.2)
def Yh (p : List Tm) (a b : Pt) : Rat := lin lam (shL p (b.1 - a.1) 0 a.1 (b.2 - a.2) 0 a.2)
def Yo (p : List Tm) (a b c : Pt) : Rat := twQ a b c * lin mu (shL p (b.1 - a.1) (c.1 - a.1) a.1 (b.2 - a.2) (c.2 - a.2) a.2)
def Jq (g h : List Tm) (a b : Pt) : Rat := (b.2 - a.2) * Yh g a b - (b.1 - a.1) * Yh h a b
theorem Zo4 (p r : List Tm) (a b : Pt) (h : ∀ x y, evP r x y = evP p ((b.1 - a.1) * x + a.1) ((b.2 - a.2) * x + a.2)) : lin lam r = Yh p a b :=
 (Eqv.of_ev (fun x y => by rw [h, Zbh]; congr 1 <;> grind) : Eqv r _) lam
theorem Vv (g : List Tm) (a b c : Pt) :
  lin mu (dxL (shL g (b.1 - a.1) (c.1 - a.1) a.1 (b.2 - a.2) (c.2 - a.2) a.2)) = Yh g b c - Yh g a c ∧
  lin mu (dyL (shL g (b.1 - a.1) (c.1 - a.1) a.1 (b.2 - a.2) (c.2 - a.2) a.2)) = Yh g b c - Yh g a b := by
 rw [Qc2, Qc1]
 rw [Zo4 g (sbL W1 X1 _) b c (fun x y => by rw [Zsj, Zbh, ev_W1, Zun]; congr 1 <;> grind),
  Zo4 g (sbL [] X1 _) a c (fun x y => by rw [Zsj, Zbh, Zxl, Zun]; congr 1 <;> grind),
  Zo4 g (sbL X1 [] _) a b (fun x y => by rw [Zsj, Zbh, Zxl, Zun]; congr 1 <;> grind)]
 exact ⟨rfl, rfl⟩
theorem Zfi (g : List Tm) (φ : Nat → Nat → Rat) (ax bx cx ay b cy : Rat) :
  lin φ (dxL (shL g ax bx cx ay b cy)) = ax * lin φ (shL (dxL g) ax bx cx ay b cy) + ay * lin φ (shL (dyL g) ax bx cx ay b cy) ∧
  lin φ (dyL (shL g ax bx cx ay b cy)) = bx * lin φ (shL (dxL g) ax bx cx ay b cy) + b * lin φ (shL (dyL g) ax bx cx ay b cy) := by
 have h1 : Eqv (dxL (shL g ax bx cx ay b cy)) (Qw ax (shL (dxL g) ax bx cx ay b cy) ++ Qw ay (shL (dyL g) ax bx cx ay b cy)) := Eqv.of_ev (fun x y => by
  rw [Zxo, Zf4, Zcm, Zcm, Zbh, Zbh]; grind)
 have h2 : Eqv (dyL (shL g ax bx cx ay b cy)) (Qw bx (shL (dxL g) ax bx cx ay b cy) ++ Qw b (shL (dyL g) ax bx cx ay b cy)) := Eqv.of_ev (fun x y => by
  rw [Zxm, Zf4, Zcm, Zcm, Zbh, Zbh]; grind)
 rw [h1 φ, h2 φ, Jb, Jb, Xh, Xh, Xh, Xh]
 exact ⟨rfl, rfl⟩
theorem Zdo (p : List Tm) (a b : Pt) : Yh p a b = Yh p b a := by
 have h1 := (Vv p a b b).1
 have h2 := (Vv p a b b).2
 have h3 := (Vv p b a a).1
 have h4 := (Vv p a b a).1
 have h5 := (Vv p a b a).2
 have h6 := (Vv p b a b).1
 have h7 := (Vv p b a b).2
 have c1 := (Zfi p mu (b.1 - a.1) (a.1 - a.1) a.1 (b.2 - a.2) (a.2 - a.2) a.2)
 obtain ⟨c1, c2⟩ := c1
 grind
end
section
theorem Zhy {p q : List Tm} (h : Eqv p q) (a b c : Pt) : Yo p a b c = Yo q a b c := by
 unfold Yo shL; rw [(Eqv.sub Eqv.rfl' Eqv.rfl' h) mu]
theorem Zfk {p q : List Tm} (h : Eqv p q) (a b : Pt) : Yh p a b = Yh q a b := by
 unfold Yh shL; rw [(Eqv.sub Eqv.rfl' Eqv.rfl' h) lam]
theorem Qeb (g : List Tm) (a b c : Pt) : Yo (dxL g) a b c = (b.2 - a.2) * Yh g a b + (c.2 - b.2) * Yh g b c + (a.2 - c.2) * Yh g c a := by
 have h1 := (Vv g a b c).1
 have h2 := (Vv g a b c).2
 obtain ⟨c1, c2⟩ := Zfi g mu (b.1 - a.1) (c.1 - a.1) a.1 (b.2 - a.2) (c.2 - a.2) a.2
 have h3 := Zdo g c a
 unfold Yo twQ
 grind
theorem Qea (g : List Tm) (a b c : Pt) : Yo (dyL g) a b c = -((b.1 - a.1) * Yh g a b + (c.1 - b.1) * Yh g b c + (a.1 - c.1) * Yh g c a) := by
 have h1 := (Vv g a b c).1
 have h2 := (Vv g a b c).2
 obtain ⟨c1, c2⟩ := Zfi g mu (b.1 - a.1) (c.1 - a.1) a.1 (b.2 - a.2) (c.2 - a.2) a.2
 have h3 := Zdo g c a
 unfold Yo twQ
 grind
theorem Ziw (φ : Nat → Nat → Rat) (X Y l m : List Tm) : lin φ (sbL X Y (l ++ m)) = lin φ (sbL X Y l) + lin φ (sbL X Y m) := by
 rw [Ge, Ge, Ge, Jb]
theorem Zqs (p q : List Tm) (a b c : Pt) : Yo (p ++ q) a b c = Yo p a b c + Yo q a b c := by
 unfold Yo shL; rw [Ziw]; grind
theorem Zzt (p q : List Tm) (a b : Pt) : Yh (p ++ q) a b = Yh p a b + Yh q a b := by
 unfold Yh shL; rw [Ziw]
theorem Zj5 (p : List Tm) (k : Rat) (a b : Pt) : Yh (Qw k p) a b = k * Yh p a b := by
 unfold Yh shL; rw [Ge, Xh, ← Ge]
theorem Zzs (a b : Pt) : Yh [] a b = 0 := rfl
theorem Qau (g h : List Tm) (a b c : Pt) : Yo (dxL g ++ dyL h) a b c = Jq g h a b + Jq g h b c + Jq g h c a := by
 rw [Zqs, Qeb, Qea]; unfold Jq; grind
theorem Ym (g h : List Tm) (a b : Pt) : Jq g h b a = -Jq g h a b := by
 unfold Jq; rw [Zdo g b a, Zdo h b a]; grind
theorem Zh6 (g h : List Tm) (a z b : Pt) (hz : twQ a z b = 0) : Jq g h a b = Jq g h a z + Jq g h z b := by
 have h1 := Qau g h a z b
 rw [Yo, hz, Ym g h a b] at h1
 grind
def prL (p : List Tm) : List Tm := p.map (fun t => ⟨t.i + 1, t.j, t.c / (((t.i + 1 : Nat) : Int) : Rat)⟩)
theorem dx_prL (p : List Tm) : Eqv (dxL (prL p)) p := fun φ => by
 rw [Zc5, prL]
 refine Ze6 _ _ _ p (fun t _ => ?_)
 have := Gu t.i
 simp only [Nat.add_sub_cancel]; grind
theorem Zas (p : List Tm) (a b c : Pt) : Yo p a b c = Jq (prL p) [] a b + Jq (prL p) [] b c + Jq (prL p) [] c a := by
 rw [← Zhy (dx_prL p), ← Qau]; simp only [dyL, List.map_nil, List.append_nil]
theorem Qc5 (p : List Tm) (a b c : Pt) : Yo p b c a = Yo p a b c := by rw [Zas, Zas p a]; grind
theorem Zzk (p : List Tm) (a b c : Pt) : Yo p a c b = -Yo p a b c := by
 rw [Zas, Zas p a b c, Ym _ _ a c, Ym _ _ c b, Ym _ _ b a]; grind
theorem Zvg (p : List Tm) (a b c z : Pt) : Yo p a b c = Yo p a b z + Yo p b c z + Yo p c a z := by
 rw [Zas, Zas p a b z, Zas p b c z, Zas p c a z, Ym _ _ z b, Ym _ _ z c, Ym _ _ z a]; grind
theorem mu00 : mu 0 0 = 1 / 2 := by
 have h1 := Qaf 0 0
 have h2 := (Zgx 0 0).1
 have h3 := Zdv 0 0
 have e : (((0 + 0 + 2 : Nat) : Int) : Rat) = 2 := rfl
 have e1 : (((0 + 1 : Nat) : Int) : Rat) = 1 := rfl
 have h4 : bt 0 0 = lam 0 0 := rfl
 rw [e, e1] at h2
 rw [e1] at h1 h3
 grind
theorem Qc4 (a b c : Pt) : Yo [⟨0, 0, 1⟩] a b c = twQ a b c / 2 := by
 have h : Eqv (shL [⟨0, 0, 1⟩] (b.1 - a.1) (c.1 - a.1) a.1 (b.2 - a.2) (c.2 - a.2) a.2) [⟨0, 0, 1⟩] := Eqv.of_ev (fun x y => by
  rw [Zbh, Zd0, Zd0, Rat.pow_zero, Rat.pow_zero])
 unfold Yo
 rw [h mu]
 have := mu00
 simp only [lin]; grind
theorem Qed (l : List Tm) : lin lam (dxL l) = evP l 1 1 - evP l 0 1 := by
 rw [Zc5, evP, evP, ← Zlb]
 refine Jo (fun t _ => ?_)
 rw [Zfn, Zfn]
 rcases h : t.i with _ | k
 · rw [Yb, Rat.pow_zero]; grind
 · rw [Nat.add_sub_cancel, Zdv, Rat.pow_succ]; grind
theorem Qdg (p : List Tm) (a b : Pt) : Yh (Qw (b.1 - a.1) (dxL p) ++ Qw (b.2 - a.2) (dyL p)) a b = evP p b.1 b.2 - evP p a.1 a.2 := by
 rw [Zzt, Zj5, Zj5]
 have h1 := (Zfi p lam (b.1 - a.1) 0 a.1 (b.2 - a.2) 0 a.2).1
 rw [Qed, Zbh, Zbh] at h1
 unfold Yh
 rw [← h1]
 congr 1 <;> congr 1 <;> grind
theorem seg_pt (p : List Tm) (a : Pt) : Yh p a a = evP p a.1 a.2 := by
 have h : Eqv (shL p (a.1 - a.1) 0 a.1 (a.2 - a.2) 0 a.2) [⟨0, 0, evP p a.1 a.2⟩] := Eqv.of_ev (fun x y => by
  rw [Zbh, Zd0, Rat.pow_zero, show (a.1 - a.1) * x + 0 * y + a.1 = a.1 by grind, show (a.2 - a.2) * x + 0 * y + a.2 = a.2 by grind]; grind)
 unfold Yh
 rw [h lam]
 have := Zdv 0 0
 have e1 : (((0 + 1 : Nat) : Int) : Rat) = 1 := rfl
 rw [e1] at this
 simp only [lin]; grind
theorem Qdh (p : List Tm) (a b : Pt) (s : Rat) (z : Pt) (h1 : z.1 = a.1 + s * (b.1 - a.1)) (h2 : z.2 = a.2 + s * (b.2 - a.2)) :
  s * Yh p a z + (1 - s) * Yh p z b = Yh p a b := by
 have hz : twQ a z b = 0 := by unfold twQ; rw [h1, h2]; grind
 have f1 := Zh6 p [] a z b hz
 have f2 := Zh6 [] p a z b hz
 unfold Jq at f1 f2
 simp only [Zzs] at f1 f2
 by_cases e1 : b.2 - a.2 = 0
 ·
  by_cases e2 : b.1 - a.1 = 0
  ·
   have ea : z = a := Prod.ext (by rw [h1, e2]; grind) (by rw [h2, e1]; grind)
   have eb : b = a := Prod.ext (by grind) (by grind)
   rw [ea, eb]; grind
  ·
   have : (b.1 - a.1) * (s * Yh p a z + (1 - s) * Yh p z b - Yh p a b) = 0 := by grind
   rcases Rat.mul_eq_zero.1 this with h | h
   · exact absurd h e2
   · grind
 ·
  have : (b.2 - a.2) * (s * Yh p a z + (1 - s) * Yh p z b - Yh p a b) = 0 := by grind
  rcases Rat.mul_eq_zero.1 this with h | h
  · exact absurd h e1
  · grind
theorem Zzj (p : List Tm) (a b c : Pt) : Yo (shL p (b.1 - a.1) (c.1 - a.1) a.1 (b.2 - a.2) (c.2 - a.2) a.2) (0, 0) (1, 0) (0, 1) * twQ a b c = Yo p a b c := by
 have h : Eqv (shL (shL p (b.1 - a.1) (c.1 - a.1) a.1 (b.2 - a.2) (c.2 - a.2) a.2) (1 - 0) (0 - 0) 0 (0 - 0) (1 - 0) 0) (shL p (b.1 - a.1) (c.1 - a.1) a.1 (b.2 - a.2) (c.2 - a.2) a.2) := Eqv.of_ev (fun x y => by
  rw [Zbh]; congr 1 <;> grind)
 unfold Yo
 rw [h mu]
 have : twQ (0, 0) (1, 0) (0, 1) = 1 := by unfold twQ; grind
 rw [this]; grind
def Zom (p : List Tm) (a : Pt) : List Pt → Rat
 | b :: c :: l => Yo p a b c + Zom p a (c :: l)
 | _ => 0
def Kl (f : Pt → Pt → Rat) : List Pt → Rat
 | a :: b :: l => f a b + Kl f (b :: l)
 | _ => 0
theorem Za0 (f : Pt → Pt → Rat) (y : Pt) : ∀ (l : List Pt) (x : Pt), Kl f (l ++ [x, y]) = Kl f (l ++ [x]) + f x y
 | [], x => by simp only [List.nil_append, Kl]; grind
 | [a], x => by simp only [List.cons_append, List.nil_append, Kl]; grind
 | a :: b :: l, x => by
  have := Za0 f y (b :: l) x
  simp only [List.cons_append, Kl] at this ⊢
  rw [this]; grind
def Zp8 (f : Pt → Pt → Rat) : List Pt → Rat
 | [] => 0
 | a :: l => Kl f (a :: l ++ [a])
theorem Zss (f : Pt → Pt → Rat) (a : Pt) (l : List Pt) : Zp8 f (l ++ [a]) = Zp8 f (a :: l) := by
 rcases l with _ | ⟨b, l⟩
 · rfl
 ·
  show Kl f (b :: (l ++ [a]) ++ [b]) = Kl f (a :: (b :: l) ++ [a])
  have h1 := Za0 f b (b :: l) a
  rw [show b :: (l ++ [a]) ++ [b] = b :: l ++ [a, b] by simp, h1]
  simp only [List.cons_append, Kl]; grind
theorem Qel (f : Pt → Pt → Rat) (m : List Pt) : ∀ l : List Pt, Zp8 f (m ++ l) = Zp8 f (l ++ m) := by
 induction m with
 | nil => intro l; simp
 | cons a m ih =>
  intro l
  have h := Zss f a (m ++ l)
  rw [List.cons_append, ← h, List.append_assoc, ih (l ++ [a])]; simp
theorem Zrg (f : Pt → Pt → Rat) (hf : ∀ a b, f b a = -f a b) : ∀ l : List Pt, Kl f l.reverse = -Kl f l
 | [] => by simp only [List.reverse_nil, Kl]; grind
 | [a] => by simp only [List.reverse_cons, List.reverse_nil, List.nil_append, Kl]; grind
 | a :: b :: l => by
  have h := Zrg f hf (b :: l)
  rw [List.reverse_cons, List.reverse_cons, List.append_assoc]
  rw [List.reverse_cons] at h
  show Kl f (l.reverse ++ [b, a]) = _
  rw [Za0, h, hf a b, Kl]; grind
theorem Qem (f : Pt → Pt → Rat) (hf : ∀ a b, f b a = -f a b) (l : List Pt) : Zp8 f l.reverse = -Zp8 f l := by
 rcases l with _ | ⟨a, l⟩
 · simp only [List.reverse_nil, Zp8]; grind
 ·
  rw [List.reverse_cons, Zss]
  show Kl f (a :: l.reverse ++ [a]) = -Kl f (a :: l ++ [a])
  rw [← Zrg f hf]; simp
theorem Zsi (p : List Tm) (a : Pt) : ∀ (l : List Pt) (b : Pt), Zom p a (b :: l) = Kl (Jq (prL p) []) (b :: l ++ [a]) - Jq (prL p) [] b a
 | [], b => by simp only [Zom, List.cons_append, List.nil_append, Kl]; grind
 | c :: l, b => by
  rw [Zom, Zsi p a l c, Zas]
  simp only [List.cons_append, Kl]
  have := Ym (prL p) [] b a
  grind
def Ks (p : List Tm) : List Pt → Rat
 | [] => 0
 | a :: l => Zom p a l
theorem Znp (g h : List Tm) (a : Pt) : Jq g h a a = 0 := by have := Ym g h a a; grind
theorem Zeh (p : List Tm) : ∀ l : List Pt, Ks p l = Zp8 (Jq (prL p) []) l
 | [] => rfl
 | [a] => by simp only [Ks, Zom, Zp8, List.cons_append, List.nil_append, Kl]; rw [Znp]; grind
 | a :: b :: l => by
  rw [Ks, Zsi, Zp8]
  simp only [List.cons_append, Kl]
  have := Ym (prL p) [] b a
  grind
theorem Qbb (f : Pt → Pt → Rat) (a z : Pt) (l : List Pt) (x : Pt) (h : f x a = f x z + f z a) : Zp8 f (a :: l ++ [x, z]) = Zp8 f (a :: l ++ [x]) := by
 show Kl f (a :: (l ++ [x, z]) ++ [a]) = Kl f (a :: (l ++ [x]) ++ [a])
 have h1 := Za0 f a (a :: l ++ [x]) z
 have h2 := Za0 f z (a :: l) x
 have h3 := Za0 f a (a :: l) x
 simp only [List.append_assoc, List.cons_append, List.nil_append] at h1 h2 h3 ⊢
 rw [h1, h2, h3]; grind
theorem Qca (g : List Tm) (a : Pt) : ∀ (l : List Pt) (b : Pt), Zom (dxL g) a (b :: l) = Kl (Jq g []) (b :: l ++ [a]) - Jq g [] b a
 | [], b => by simp only [Zom, List.cons_append, List.nil_append, Kl]; grind
 | c :: l, b => by
  have e : Yo (dxL g) a b c = Jq g [] a b + Jq g [] b c + Jq g [] c a := by
   rw [← Qau]; simp only [dyL, List.map_nil, List.append_nil]
  rw [Zom, Qca g a l c, e]
  simp only [List.cons_append, Kl]
  have := Ym g [] b a
  grind
theorem Qdw (g : List Tm) : ∀ l : List Pt, Ks (dxL g) l = Zp8 (Jq g []) l
 | [] => rfl
 | [a] => by simp only [Ks, Zom, Zp8, List.cons_append, List.nil_append, Kl]; rw [Znp]; grind
 | a :: b :: l => by
  rw [Ks, Qca, Zp8]
  simp only [List.cons_append, Kl]
  have := Ym g [] b a
  grind
end
section
def KL (K : Nat) (l : List Tm) : Prop := ∀ t ∈ l, Qa t.c ≤ K
def DL (d : Nat) (l : List Tm) : Prop := ∀ t ∈ l, t.i + t.j ≤ d
theorem KL.mono {K K' : Nat} {l : List Tm} (h : KL K l) (hk : K ≤ K') : KL K' l := fun t ht => Nat.le_trans (h t ht) hk
theorem DL.mono {d d' : Nat} {l : List Tm} (h : DL d l) (hk : d ≤ d') : DL d' l := fun t ht => Nat.le_trans (h t ht) hk
def cntP (i j : Nat) : List Tm → Nat
 | [] => 0
 | t :: l => (if t.i = i ∧ t.j = j then 1 else 0) + cntP i j l
theorem Zx0 (i j : Nat) : ∀ l : List Tm, cntP i j l ≤ l.length
 | [] => Nat.le_refl _
 | t :: l => by have := Zx0 i j l; rw [cntP, List.length_cons]; split <;> omega
theorem Zng {K : Nat} {f : Nat → Nat → Nat} {t : Tm} (ht : Qa t.c ≤ K) : ∀ {p : List Tm}, (∀ u ∈ p, Qa u.c ≤ f u.i u.j) → ∀ u ∈ Zdi t p, Qa u.c ≤ f u.i u.j + (if t.i = u.i ∧ t.j = u.j then K + 1 else 0)
 | [], _, u, hu => by
  rw [Zdi, List.mem_singleton] at hu
  subst hu
  have e : 0 + t.c = t.c := by grind
  simp only [and_self, if_true, e]; omega
 | s :: p, h, u, hu => by
  have h0 := h s List.mem_cons_self
  rw [Zdi] at hu
  split at hu
  ·
   rename_i hs
   rcases List.mem_cons.1 hu with rfl | hu
   ·
    have := Qs s.c t.c
    rw [if_pos ⟨hs.1.symm, hs.2.symm⟩]
    simp only; omega
   · have := h u (List.mem_cons_of_mem _ hu); omega
  ·
   rcases List.mem_cons.1 hu with rfl | hu
   · omega
   · exact Zng ht (fun v hv => h v (List.mem_cons_of_mem _ hv)) u hu
theorem Zdg {K : Nat} : ∀ (l : List Tm) {p : List Tm} {f : Nat → Nat → Nat}, KL K l → (∀ u ∈ p, Qa u.c ≤ f u.i u.j) →
  ∀ u ∈ l.foldl (fun p t => Zdi t p) p, Qa u.c ≤ f u.i u.j + cntP u.i u.j l * (K + 1)
 | [], p, f, _, h, u, hu => by have := h u hu; omega
 | t :: l, p, f, hl, h, u, hu => by
  rw [List.foldl_cons] at hu
  have ih := Zdg l (f := fun i j => f i j + (if t.i = i ∧ t.j = j then K + 1 else 0)) (fun s hs => hl s (List.mem_cons_of_mem _ hs)) (Zng (hl t List.mem_cons_self) h) u hu
  rw [cntP, Nat.add_mul]
  split at ih
  · rename_i hc; rw [if_pos hc]; omega
  · rename_i hc; rw [if_neg hc]; omega
theorem Zn0 {K : Nat} {l : List Tm} (h : KL K l) : ∀ u ∈ collect l, Qa u.c ≤ cntP u.i u.j l * (K + 1) := fun u hu => by
 have := Zdg l (f := fun _ _ => 0) (p := []) h (fun _ hv => nomatch hv) u hu
 omega
theorem Qe6 {Ka Kb : Nat} {a b : List Tm} (ha : KL Ka a) (hb : KL Kb b) : KL (Ka + Kb) (Xv a b) := fun u hu => by
 unfold Xv at hu
 obtain ⟨s, hs, hu⟩ := List.mem_flatMap.1 hu
 obtain ⟨t, ht, rfl⟩ := List.mem_map.1 hu
 have := Zu s.c t.c
 have := ha s hs
 have := hb t ht
 simp only; omega
theorem Zrq (a b : List Tm) : (Xv a b).length = a.length * b.length := by
 unfold Xv
 induction a with
 | nil => simp
 | cons s a ih => rw [List.flatMap_cons, List.length_append, ih, List.length_map, List.length_cons, Nat.add_mul]; omega
theorem Jr {d : Nat} {l : List Tm} (h : DL d l) : DL d (norm l) := fun u hu => by
 obtain ⟨t, ht, h1, h2⟩ := Zfa (Zh4 hu).1
 rw [h1, h2]; exact h t ht
theorem Zod {d : Nat} {a b : List Tm} (ha : DL d a) (hb : DL d b) : DL d (a ++ b) := fun t ht => (List.mem_append.1 ht).elim (ha t) (hb t)
theorem Zl7 {da db : Nat} {a b : List Tm} (ha : DL da a) (hb : DL db b) : DL (da + db) (Xv a b) := fun u hu => by
 unfold Xv at hu
 obtain ⟨s, hs, hu⟩ := List.mem_flatMap.1 hu
 obtain ⟨t, ht, rfl⟩ := List.mem_map.1 hu
 have := ha s hs
 have := hb t ht
 simp only; omega
theorem Zoc {d : Nat} {a : List Tm} (c : Rat) (h : DL d a) : DL d (Qw c a) := fun u hu => by
 unfold Qw at hu
 obtain ⟨t, ht, rfl⟩ := List.mem_map.1 hu
 exact h t ht
theorem DL_dxL {d : Nat} {a : List Tm} (h : DL d a) : DL d (dxL a) := fun u hu => by
 unfold dxL at hu
 obtain ⟨t, ht, rfl⟩ := List.mem_map.1 hu
 have := h t ht
 simp only; omega
theorem DL_dyL {d : Nat} {a : List Tm} (h : DL d a) : DL d (dyL a) := fun u hu => by
 unfold dyL at hu
 obtain ⟨t, ht, rfl⟩ := List.mem_map.1 hu
 have := h t ht
 simp only; omega
def tri : Nat → Nat
 | 0 => 0
 | n + 1 => tri n + n + 1
theorem Kz {m n : Nat} (h : m ≤ n) : tri m ≤ tri n := by
 induction h with
 | refl => exact Nat.le_refl _
 | step _ ih => rw [tri]; omega
def keyT (t : Tm) : Nat := tri (t.i + t.j) + t.j
theorem key_lt {s t : Tm} (h : ltT s t = true) : keyT s < keyT t := by
 rw [Zb8] at h
 unfold keyT
 rcases h with h | ⟨h1, h2⟩
 ·
  have := Kz (show s.i + s.j + 1 ≤ t.i + t.j from h)
  rw [tri] at this; omega
 · rw [h1]; omega
theorem Znc : ∀ (l : List Nat) (m n : Nat), l.Pairwise (· < ·) → (∀ x ∈ l, m ≤ x ∧ x < n) → l.length ≤ n - m
 | [], _, _, _, _ => Nat.zero_le _
 | x :: l, m, n, h, hb => by
  obtain ⟨h1, h2⟩ := List.pairwise_cons.1 h
  have h3 := hb x List.mem_cons_self
  have := Znc l (x + 1) n h2 (fun y hy => ⟨h1 y hy, (hb y (List.mem_cons_of_mem _ hy)).2⟩)
  rw [List.length_cons]; omega
theorem Zpe {d : Nat} {p : List Tm} (h : Nrm p) (hd : DL d p) : p.length ≤ tri (d + 1) := by
 have := Znc (p.map keyT) 0 (tri (d + 1)) (List.pairwise_map.2 (h.2.imp (fun {s t} hs => key_lt hs))) (fun x hx => by
  obtain ⟨t, ht, rfl⟩ := List.mem_map.1 hx
  have h1 := hd t ht
  have := Kz h1
  refine ⟨Nat.zero_le _, ?_⟩
  unfold keyT; rw [tri]; omega)
 rw [List.length_map] at this; exact this
def ab (x : Rat) : Rat := if x < 0 then -x else x
theorem Zcp (x : Rat) : 0 ≤ ab x := by unfold ab; split <;> grind
theorem ab_add (x y : Rat) : ab (x + y) ≤ ab x + ab y := by unfold ab; split <;> split <;> split <;> grind
theorem Zam {x : Rat} (h : 0 ≤ x) : ab x = x := by unfold ab; rw [if_neg (by grind)]
theorem Zkq (x : Rat) : ab (-x) = ab x := by unfold ab; split <;> split <;> grind
theorem Zs7 (x y : Rat) : ab (x * y) = ab x * ab y := by
 have key : ∀ x y : Rat, 0 ≤ x → 0 ≤ y → ab (x * y) = ab x * ab y := fun x y hx hy => by
  rw [Zam hx, Zam hy, Zam (Rat.mul_nonneg hx hy)]
 by_cases hx : 0 ≤ x <;> by_cases hy : 0 ≤ y
 · exact key x y hx hy
 · rw [show x * y = -(x * -y) by grind, Zkq, key x (-y) hx (by grind), Zkq]
 · rw [show x * y = -(-x * y) by grind, Zkq, key (-x) y (by grind) hy, Zkq]
 · rw [show x * y = -x * -y by grind, key (-x) (-y) (by grind) (by grind), Zkq, Zkq]
theorem Kg (a b : Nat) : (((a * b : Nat) : Int) : Rat) = ((a : Int) : Rat) * ((b : Int) : Rat) := by rw [Int.natCast_mul, Rat.intCast_mul]
theorem Xg (a : Nat) : (0 : Rat) ≤ ((a : Int) : Rat) := by
 have h := (Rat.intCast_le_intCast (a := 0) (b := (a : Int))).2 oo
 exact h
theorem Zx5 {a b : Nat} (h : a ≤ b) : ((a : Int) : Rat) ≤ ((b : Int) : Rat) := Rat.intCast_le_intCast.2 oo
theorem Zt8 {a b : Nat} (h : ((a : Int) : Rat) ≤ ((b : Int) : Rat)) : a ≤ b := by have := Rat.intCast_le_intCast.1 h; omega
theorem Xd {a b c : Rat} (h : a ≤ b) (hc : 0 ≤ c) : a * c ≤ b * c := by
 have := Rat.mul_nonneg (show 0 ≤ b - a by grind) hc
 grind
theorem Zit {a b c d : Rat} (h : a ≤ b) (h2 : c ≤ d) (ha : 0 ≤ c) (hb : 0 ≤ b) : a * c ≤ b * d := by
 have h3 := Xd h ha
 have h4 := Xd h2 hb
 grind
def sab : List Tm → Rat
 | [] => 0
 | t :: l => ab t.c + sab l
theorem Zaz : ∀ l : List Tm, 0 ≤ sab l
 | [] => by rw [sab]; grind
 | t :: l => by have := Zaz l; have := Zcp t.c; rw [sab]; grind
theorem Zcg : ∀ l m : List Tm, sab (l ++ m) = sab l + sab m
 | [], m => by simp only [List.nil_append, sab]; grind
 | t :: l, m => by rw [List.cons_append, sab, sab, Zcg l m]; grind
theorem Zzw {l m : List Tm} (h : l.Perm m) : sab l = sab m := by
 induction h with
 | nil => rfl
 | cons x _ ih => rw [sab, sab, ih]
 | swap x y l => simp only [sab]; grind
 | trans _ _ h1 h2 => rw [h1, h2]
theorem Qdj {l : List Tm} {t : Tm} (h : t ∈ l) : ab t.c ≤ sab l := by
 induction l with
 | nil => cases h
 | cons s l ih =>
  rw [sab]
  rcases List.mem_cons.1 h with rfl | h
  · have := Zaz l; grind
  · have := ih h; have := Zcp s.c; grind
theorem Zj6 (f : Tm → Bool) : ∀ l : List Tm, sab (l.filter f) ≤ sab l
 | [] => by rw [List.filter_nil]; grind
 | t :: l => by
  have := Zj6 f l
  have := Zcp t.c
  rw [List.filter_cons]
  split
  · rw [sab, sab]; grind
  · rw [sab]; grind
theorem Zq0 (t : Tm) : ∀ p : List Tm, sab (Zdi t p) ≤ sab p + ab t.c
 | [] => by
  have e : 0 + t.c = t.c := by grind
  simp only [Zdi, sab, e]; grind
 | s :: p => by
  rw [Zdi]
  split
  · have := ab_add s.c t.c; simp only [sab]; grind
  · have := Zq0 t p; simp only [sab]; grind
theorem Zdp : ∀ (l p : List Tm), sab (l.foldl (fun p t => Zdi t p) p) ≤ sab p + sab l
 | [], p => by simp only [List.foldl_nil, sab]; grind
 | t :: l, p => by
  have h1 := Zdp l (Zdi t p)
  have h2 := Zq0 t p
  rw [List.foldl_cons]; simp only [sab]; grind
theorem Zzx (l : List Tm) : sab (norm l) ≤ sab l := by
 rw [norm, Zzw (List.mergeSort_perm _ _)]
 have h1 := Zj6 (fun t => decide (t.c ≠ 0)) (collect l)
 have h2 := Zdp l []
 have h3 : collect l = l.foldl (fun p t => Zdi t p) [] := rfl
 rw [← h3] at h2
 simp only [sab] at h2
 grind
theorem Zmt (c : Rat) : ∀ l : List Tm, sab (Qw c l) = ab c * sab l
 | [] => by simp only [Qw, List.map_nil, sab]; grind
 | t :: l => by
  have := Zmt c l
  have := Zs7 c t.c
  simp only [Qw, List.map_cons, sab] at *
  grind
theorem Ze1 (s : Tm) : ∀ b : List Tm, sab (b.map (fun t => (⟨s.i + t.i, s.j + t.j, s.c * t.c⟩ : Tm))) = ab s.c * sab b
 | [] => by simp only [List.map_nil, sab]; grind
 | t :: b => by
  have := Ze1 s b
  have := Zs7 s.c t.c
  simp only [List.map_cons, sab] at *
  grind
theorem Zkz (b : List Tm) : ∀ a : List Tm, sab (Xv a b) = sab a * sab b
 | [] => by show sab [] = _; simp only [sab]; grind
 | s :: a => by
  have ih := Zkz b a
  have h := Ze1 s b
  unfold Xv at *
  rw [List.flatMap_cons, Zcg, ih, h, sab]; grind
def ID (D : Nat) (x : Rat) : Prop := ∃ z : Int, x * ((D : Int) : Rat) = (z : Rat)
theorem ID.mul {D E : Nat} {x y : Rat} (h : ID D x) (h2 : ID E y) : ID (D * E) (x * y) := by
 obtain ⟨z, hz⟩ := h
 obtain ⟨w, hw⟩ := h2
 exact ⟨z * w, by rw [Kg, Rat.intCast_mul, ← hz, ← hw]; grind⟩
theorem ID.add {D : Nat} {x y : Rat} (h : ID D x) (h2 : ID D y) : ID D (x + y) := by
 obtain ⟨z, hz⟩ := h
 obtain ⟨w, hw⟩ := h2
 exact ⟨z + w, by rw [Rat.intCast_add, ← hz, ← hw]; grind⟩
theorem ID.int (n : Int) : ID 1 (n : Rat) := ⟨n, by rw [Zad]; grind⟩
theorem ID.zero (D : Nat) : ID D 0 := ⟨0, by show 0 * _ = (0 : Rat); grind⟩
theorem ID.right {D : Nat} {x : Rat} (h : ID D x) (E : Nat) : ID (D * E) x := by
 have := h.mul (ID.int (E : Int))
 obtain ⟨z, hz⟩ := h
 exact ⟨z * E, by rw [Kg, Rat.intCast_mul, ← hz]; grind⟩
theorem ID.left {D : Nat} {x : Rat} (h : ID D x) (E : Nat) : ID (E * D) x := by rw [Nat.mul_comm]; exact h.right E
theorem Zph (x : Rat) : x * ((x.den : Int) : Rat) = (x.num : Rat) := by
 rw [Rat.mul_def', Rat.num_intCast, Rat.den_intCast, Nat.mul_one]
 have := Rat.mkRat_mul_right (n := x.num) (d := 1) (a := x.den) x.den_nz
 rw [Nat.one_mul] at this
 rw [this, Rat.mkRat_one]
theorem ID.self (x : Rat) : ID x.den x := ⟨x.num, Zph x⟩
theorem ab_int (z : Int) : ab (z : Rat) = ((z.natAbs : Int) : Rat) := by
 unfold ab
 split
 ·
  rename_i h
  have h2 : z < 0 := Rat.intCast_lt_intCast.1 (show (z : Rat) < ((0 : Int) : Rat) from h)
  rw [show ((z.natAbs : Nat) : Int) = -z by omega, Rat.intCast_neg]
 ·
  rename_i h
  have h2 : ¬ z < 0 := fun h3 => h (Rat.intCast_lt_intCast.2 h3 : (z : Rat) < ((0 : Int) : Rat))
  rw [show ((z.natAbs : Nat) : Int) = z by omega]
theorem Zye (x : Rat) : ab x * ((x.den : Int) : Rat) = ((x.num.natAbs : Int) : Rat) := by
 rw [← ab_int, ← Zph, Zs7, Zam (Xg x.den)]
theorem ID.den {D : Nat} {x : Rat} (h : ID D x) : x.den ∣ D := by
 obtain ⟨z, hz⟩ := h
 have h1 : ((x.num * (D : Int) : Int) : Rat) = ((z * (x.den : Int) : Int) : Rat) := by
  rw [Rat.intCast_mul, Rat.intCast_mul, ← hz, ← Zph]; grind
 have h2 := Rat.intCast_inj.1 h1
 have h3 : x.num.natAbs * D = z.natAbs * x.den := by
  have := congrArg Int.natAbs h2
  rwa [Int.natAbs_mul, Int.natAbs_mul, Int.natAbs_natCast, Int.natAbs_natCast] at this
 exact (Nat.Coprime.dvd_of_dvd_mul_left x.reduced.symm (h3 ▸ Nat.dvd_mul_left x.den z.natAbs))
def Hb (K : Nat) (l : List Tm) : Prop := ∃ D N : Nat, 0 < D ∧ D < 4294967296 ^ K ∧ N < 4294967296 ^ K ∧ (∀ t ∈ l, ID D t.c) ∧ sab l * ((D : Int) : Rat) ≤ ((N : Int) : Rat)
theorem Zeg {K K' : Nat} (h : K ≤ K') : 4294967296 ^ K ≤ 4294967296 ^ K' := Nat.pow_le_pow_right dd h
theorem Hb.mono {K K' : Nat} {l : List Tm} (h : Hb K l) (hk : K ≤ K') : Hb K' l := by
 obtain ⟨D, N, h0, h1, h2, h3, h4⟩ := h
 exact ⟨D, N, h0, Nat.lt_of_lt_of_le h1 (Zeg hk), Nat.lt_of_lt_of_le h2 (Zeg hk), h3, h4⟩
theorem Hb.siz {K : Nat} {l : List Tm} (h : Hb K l) : KL K l := fun t ht => by
 obtain ⟨D, N, h0, h1, h2, h3, h4⟩ := h
 have hd := (h3 t ht).den
 have hle := Nat.le_of_dvd h0 hd
 have hn : ((t.c.num.natAbs : Int) : Rat) ≤ ((N : Int) : Rat) := by
  rw [← Zye]
  have a1 := Zit (Qdj ht) (Zx5 hle) (Xg _) (Zaz l)
  grind
 have hn' := Zt8 hn
 unfold Qa Zbd
 have := Zea (n := t.c.num.natAbs) (k := K) oo
 have := Zea (n := t.c.den) (k := K) oo
 omega
theorem Hb.nrm {K : Nat} {l : List Tm} (h : Hb K l) : Hb K (norm l) := by
 obtain ⟨D, N, h0, h1, h2, h3, h4⟩ := h
 refine ⟨D, N, h0, h1, h2, fun u hu => ?_, ?_⟩
 ·
  have key : ∀ (l p : List Tm), (∀ t ∈ l, ID D t.c) → (∀ t ∈ p, ID D t.c) → ∀ u ∈ l.foldl (fun p t => Zdi t p) p, ID D u.c := by
   intro l
   induction l with
   | nil => intro p _ hp u hu; exact hp u hu
   | cons t l ih =>
    intro p hl hp u hu
    rw [List.foldl_cons] at hu
    refine ih (Zdi t p) (fun s hs => hl s (List.mem_cons_of_mem _ hs)) (fun v hv => ?_) u hu
    have ht := hl t List.mem_cons_self
    clear ih hu hl
    induction p with
    | nil => rw [Zdi, List.mem_singleton] at hv; subst hv; exact (ID.zero D).add ht
    | cons s p ih =>
     rw [Zdi] at hv
     split at hv
     ·
      rcases List.mem_cons.1 hv with rfl | hv
      · exact (hp s List.mem_cons_self).add ht
      · exact hp v (List.mem_cons_of_mem _ hv)
     ·
      rcases List.mem_cons.1 hv with rfl | hv
      · exact hp _ List.mem_cons_self
      · exact ih (fun w hw => hp w (List.mem_cons_of_mem _ hw)) hv
  exact key l [] h3 (fun _ h => nomatch h) u (Zh4 hu).1
 ·
  have := Xd (Zzx l) (Xg D)
  grind
theorem Zfs {n k : Nat} (h : (wds n).length ≤ k) : n < 4294967296 ^ k := Nat.lt_of_lt_of_le (Zcc n) (Zeg h)
theorem Zwz {x : Rat} {k : Nat} (h : Qa x ≤ k) : x.num.natAbs < 4294967296 ^ k ∧ x.den < 4294967296 ^ k := by
 obtain ⟨h1, h2⟩ := Zdt h
 exact ⟨Zfs h1, Zfs h2⟩
theorem Zv8 {a b c d K k : Nat} (h1 : a < 4294967296 ^ K) (h2 : b < 4294967296 ^ k) (h3 : c < 4294967296 ^ K) (h4 : d < 4294967296 ^ k) : a * b + c * d < 4294967296 ^ (K + k + 1) := by
 have e1 := Nat.mul_lt_mul'' h1 h2
 have e2 := Nat.mul_lt_mul'' h3 h4
 rw [Nat.pow_succ, Nat.pow_add]
 generalize 4294967296 ^ K * 4294967296 ^ k = P at *
 omega
theorem Hb.nil : Hb 1 [] := ⟨1, 0, oo, by omega, oo, (fun _ h => nomatch h), by show (0 : Rat) * _ ≤ (0 : Rat); grind⟩
theorem Hb.append {Ka Kb : Nat} {a b : List Tm} (ha : Hb Ka a) (hb : Hb Kb b) : Hb (Ka + Kb + 1) (a ++ b) := by
 obtain ⟨D, N, h0, h1, h2, h3, h4⟩ := ha
 obtain ⟨E, M, k0, k1, k2, k3, k4⟩ := hb
 refine ⟨D * E, N * E + D * M, Nat.mul_pos h0 k0, Nat.lt_of_lt_of_le (by rw [Nat.pow_add]; exact Nat.mul_lt_mul'' h1 k1) (Zeg (Nat.le_succ (Ka + Kb))), Zv8 h2 k1 h1 k2, fun t ht => ?_, ?_⟩
 ·
  rcases List.mem_append.1 ht with h | h
  · exact (h3 t h).right E
  · exact (k3 t h).left D
 ·
  rw [Zcg, Kg, Xs, Kg, Kg]
  have e1 := Xd h4 (Xg E)
  have e2 := Xd k4 (Xg D)
  grind
theorem Hb.cons {K k : Nat} {l : List Tm} {t : Tm} (h : Hb K l) (ht : Qa t.c ≤ k) : Hb (K + k + 1) (t :: l) := by
 obtain ⟨D, N, h0, h1, h2, h3, h4⟩ := h
 obtain ⟨p1, p2⟩ := Zwz ht
 have hp := t.c.den_pos
 refine ⟨D * t.c.den, D * t.c.num.natAbs + N * t.c.den, Nat.mul_pos h0 hp, Nat.lt_of_lt_of_le (by rw [Nat.pow_add]; exact Nat.mul_lt_mul'' h1 p2) (Zeg (Nat.le_succ (K + k))), Zv8 h1 p1 h2 p2, fun s hs => ?_, ?_⟩
 ·
  rcases List.mem_cons.1 hs with rfl | hs
  · exact (ID.self _).left D
  · exact (h3 s hs).right _
 ·
  rw [sab, Kg, Xs, Kg, Kg]
  have e0 := Zye t.c
  have e1 := Xd h4 (Xg t.c.den)
  rw [← e0]
  grind
theorem Hb.of_KL {k : Nat} {l : List Tm} (h : KL k l) : Hb (l.length * (k + 1) + 1) l := by
 induction l with
 | nil => exact Hb.nil.mono oo
 | cons t l ih =>
  have h2 := (ih (fun s hs => h s (List.mem_cons_of_mem _ hs))).cons (h t List.mem_cons_self)
  have e : (t :: l).length * (k + 1) + 1 = l.length * (k + 1) + 1 + k + 1 := by rw [List.length_cons, Nat.add_mul]; omega
  rw [e]; exact h2
theorem Hb.scale {K k : Nat} {l : List Tm} {c : Rat} (h : Hb K l) (hc : Qa c ≤ k) : Hb (k + K) (Qw c l) := by
 obtain ⟨D, N, h0, h1, h2, h3, h4⟩ := h
 obtain ⟨p1, p2⟩ := Zwz hc
 refine ⟨c.den * D, c.num.natAbs * N, Nat.mul_pos c.den_pos h0, by rw [Nat.pow_add]; exact Nat.mul_lt_mul'' p2 h1, by rw [Nat.pow_add]; exact Nat.mul_lt_mul'' p1 h2, fun u hu => ?_, ?_⟩
 ·
  unfold Qw at hu
  obtain ⟨t, ht, rfl⟩ := List.mem_map.1 hu
  exact (ID.self c).mul (h3 t ht)
 ·
  rw [Zmt, Kg, Kg, ← Zye]
  have e1 := Xd h4 (Rat.mul_nonneg (Zcp c) (Xg c.den))
  grind
theorem Hb.mul {Ka Kb : Nat} {a b : List Tm} (ha : Hb Ka a) (hb : Hb Kb b) : Hb (Ka + Kb) (Xv a b) := by
 obtain ⟨D, N, h0, h1, h2, h3, h4⟩ := ha
 obtain ⟨E, M, k0, k1, k2, k3, k4⟩ := hb
 refine ⟨D * E, N * M, Nat.mul_pos h0 k0, by rw [Nat.pow_add]; exact Nat.mul_lt_mul'' h1 k1, by rw [Nat.pow_add]; exact Nat.mul_lt_mul'' h2 k2, fun u hu => ?_, ?_⟩
 ·
  unfold Xv at hu
  obtain ⟨s, hs, hu⟩ := List.mem_flatMap.1 hu
  obtain ⟨t, ht, rfl⟩ := List.mem_map.1 hu
  exact (h3 s hs).mul (k3 t ht)
 ·
  rw [Zkz, Kg, Kg]
  have e1 := Zit h4 k4 (Rat.mul_nonneg (Zaz b) (Xg E)) (Xg N)
  grind
theorem Zqz (f : Tm → Tm) (m : Nat) : ∀ l : List Tm, (∀ t ∈ l, ab (f t).c ≤ ab t.c * ((m : Int) : Rat)) → sab (l.map f) ≤ sab l * ((m : Int) : Rat)
 | [], _ => by simp only [List.map_nil, sab]; grind
 | t :: l, h => by
  have h1 := h t List.mem_cons_self
  have h2 := Zqz f m l (fun s hs => h s (List.mem_cons_of_mem _ hs))
  simp only [List.map_cons, sab]; grind
theorem Hb.mapi {K : Nat} {l : List Tm} (h : Hb K l) (f : Tm → Tm) (n : Tm → Nat) (hf : ∀ t ∈ l, (f t).c = t.c * ((n t : Int) : Rat)) (hn : ∀ t ∈ l, n t ≤ 1000) : Hb (K + 1) (l.map f) := by
 obtain ⟨D, N, h0, h1, h2, h3, h4⟩ := h
 refine ⟨D, N * 1000, h0, Nat.lt_of_lt_of_le h1 (Zeg (Nat.le_succ K)), by rw [Nat.pow_succ]; exact Nat.mul_lt_mul'' h2 dd, fun u hu => ?_, ?_⟩
 ·
  obtain ⟨t, ht, rfl⟩ := List.mem_map.1 hu
  rw [hf t ht]
  obtain ⟨z, hz⟩ := h3 t ht
  exact ⟨z * (n t : Int), by rw [Rat.intCast_mul, ← hz]; grind⟩
 ·
  have e1 := Zqz f 1000 l (fun t ht => by
   rw [hf t ht, Zs7, Zam (Xg _)]
   have := Xd (Zx5 (hn t ht)) (Zcp t.c)
   grind)
  have e2 := Xd e1 (Xg D)
  have e3 := Xd h4 (Xg 1000)
  rw [Kg]
  grind
structure Pq (d K : Nat) (l : List Tm) : Prop where
 deg : DL d l
 len : l.length ≤ 100
 hgt : Hb K l
theorem Pq.siz {d K : Nat} {l : List Tm} (h : Pq d K l) : KL K l := h.hgt.siz
theorem Pq.nsz {d K : Nat} {l : List Tm} (h : Pq d K l) : KL K (norm l) := h.hgt.nrm.siz
theorem Pq.nlen {d K : Nat} {l : List Tm} (h : Pq d K l) : (norm l).length ≤ tri (d + 1) := Zpe (Gz l) (Jr h.deg)
theorem Pq.of_norm {d K : Nat} {l : List Tm} (hd : DL d l) (hk : Hb K l) (hd12 : d ≤ 12) : Pq d K (norm l) :=
 ⟨Jr hd, Nat.le_trans (Zpe (Gz l) (Jr hd)) (Nat.le_trans (Kz (show d + 1 ≤ 13 by omega)) dd), hk.nrm⟩
theorem Pq.nrm {d K : Nat} {l : List Tm} (h : Pq d K l) (hd12 : d ≤ 12) : Pq d K (norm l) := Pq.of_norm h.deg h.hgt hd12
theorem Pq.mono {d K d' K' : Nat} {l : List Tm} (h : Pq d K l) (hd : d ≤ d') (hk : K ≤ K') : Pq d' K' l := ⟨h.deg.mono hd, h.len, h.hgt.mono hk⟩
theorem Pq.raw {d k m : Nat} {l : List Tm} (hd : DL d l) (hk : KL k l) (hm : l.length ≤ m) (hm2 : m ≤ 100) : Pq d (m * (k + 1) + 1) l :=
 ⟨hd, Nat.le_trans hm hm2, (Hb.of_KL hk).mono (by have := Nat.mul_le_mul_right (k + 1) hm; omega)⟩
theorem Pq.add {da db Ka Kb : Nat} {a b : List Tm} (ha : Pq da Ka a) (hb : Pq db Kb b) (h1 : da ≤ 12) (h2 : db ≤ 12) : Pq (max da db) (Ka + Kb + 2) (norm (a ++ b)) :=
 Pq.of_norm (Zod (ha.deg.mono (Nat.le_max_left _ _)) (hb.deg.mono (Nat.le_max_right _ _))) ((ha.hgt.append hb.hgt).mono oo) oo
theorem Pq.mul {da db Ka Kb : Nat} {a b : List Tm} (ha : Pq da Ka a) (hb : Pq db Kb b) (h1 : da + db ≤ 12) : Pq (da + db) (Ka + Kb) (norm (Xv a b)) :=
 Pq.of_norm (Zl7 ha.deg hb.deg) (ha.hgt.mul hb.hgt) h1
theorem Pq.scale {d K Kc : Nat} {a : List Tm} {c : Rat} (ha : Pq d K a) (hc : Qa c ≤ Kc) (h1 : d ≤ 12) : Pq d (Kc + K + 1) (norm (Qw c a)) :=
 Pq.of_norm (Zoc c ha.deg) ((ha.hgt.scale hc).mono oo) h1
theorem Pq.dx {d K : Nat} {p : List Tm} (h : Pq d K p) (hd : d ≤ 12) : Pq d (K + 1) (norm (dxL p)) :=
 Pq.of_norm (DL_dxL h.deg) (h.hgt.mapi _ (fun t => t.i) (fun t _ => rfl) (fun t ht => by have := h.deg t ht; omega)) hd
theorem Pq.dy {d K : Nat} {p : List Tm} (h : Pq d K p) (hd : d ≤ 12) : Pq d (K + 1) (norm (dyL p)) :=
 Pq.of_norm (DL_dyL h.deg) (h.hgt.mapi _ (fun t => t.j) (fun t _ => rfl) (fun t ht => by have := h.deg t ht; omega)) hd
theorem Qaa : norm [⟨0, 0, 1⟩] = [⟨0, 0, 1⟩] := Zis ⟨fun t ht => by rw [List.mem_singleton] at ht; subst ht; simp only; grind, List.pairwise_singleton _ _⟩
theorem Zk9 : norm [] = [] := Zis ⟨(fun _ h => nomatch h), List.Pairwise.nil⟩
theorem Pq.nil (d : Nat) : Pq d 1 [] := ⟨(fun _ h => nomatch h), Nat.zero_le _, Hb.nil⟩
theorem Pq.one : Pq 0 4 [⟨0, 0, 1⟩] :=
 ⟨fun t ht => by rw [List.mem_singleton] at ht; subst ht; exact Nat.le_refl _, by simp, (Hb.of_KL (k := 2) (fun t ht => by rw [List.mem_singleton] at ht; subst ht; exact Zab)).mono ss⟩
theorem Pq.pow {d K : Nat} {a : List Tm} (ha : Pq d K a) : ∀ n, n * d ≤ 12 → Pq (n * d) (n * K + 4) (norm (Yt a n))
 | 0, _ => by rw [Yt, Qaa, Nat.zero_mul, Nat.zero_mul]; exact Pq.one
 | n + 1, h => by
  rw [Nat.add_mul, Nat.one_mul] at h
  have ih := Pq.pow ha n oo
  have := Pq.mul ih ha oo
  rw [Va ((Eqv.nrm (Yt a n)).mul Eqv.rfl')] at this
  rw [Nat.add_mul, Nat.one_mul, Nat.add_mul, Nat.one_mul]
  exact this.mono (Nat.le_refl _) oo
theorem Pq.line {K : Nat} {a b c : Rat} (ha : Qa a ≤ K) (hb : Qa b ≤ K) (hc : Qa c ≤ K) : Pq 1 (3 * K + 4) (ln a b c) := by
 have h : KL K (ln a b c) := fun t ht => by
  simp only [ln, List.mem_cons, List.not_mem_nil, or_false] at ht
  rcases ht with rfl | rfl | rfl <;> assumption
 refine ⟨fun t ht => ?_, by simp [ln], (Hb.of_KL h).mono (by simp [ln]; omega)⟩
 simp only [ln, List.mem_cons, List.not_mem_nil, or_false] at ht
 rcases ht with rfl | rfl | rfl <;> simp
end
section
def KT (d K Kx : Nat) : Nat := K + d * (3 * Kx + 4) + 20
def KS (d K Kx : Nat) : Nat := tri (d + 1) * KT d K Kx + 1
theorem Pq.line_pow {K n : Nat} {a b c : Rat} (ha : Qa a ≤ K) (hb : Qa b ≤ K) (hc : Qa c ≤ K) (hn : n ≤ 12) : Pq n (n * (3 * K + 4) + 4) (norm (Yt (ln a b c) n)) := by
 have h := Pq.pow (Pq.line ha hb hc) n oo
 rwa [Nat.mul_one] at h
def sbT (X Y : List Tm) (t : Tm) : List Tm := Qw t.c (Xv (Yt X t.i) (Yt Y t.j))
theorem Zh1 (X Y : List Tm) (l : List Tm) (t : Tm) : sbL X Y (l ++ [t]) = sbL X Y l ++ sbT X Y t := by
 unfold sbL sbT; rw [List.flatMap_append]; simp
theorem Pq.sbT {d K Kx : Nat} {ax bx cx ay b cy : Rat} {t : Tm} (h1 : Qa ax ≤ Kx) (h2 : Qa bx ≤ Kx) (h3 : Qa cx ≤ Kx) (h4 : Qa ay ≤ Kx) (h5 : Qa b ≤ Kx) (h6 : Qa cy ≤ Kx)
  (hd : d ≤ 12) (ht : t.i + t.j ≤ d) (hK : Qa t.c ≤ K) : Pq d (KT d K Kx - 2) (norm (sbT (ln ax bx cx) (ln ay b cy) t)) := by
 have p1 := Pq.line_pow (n := t.i) h1 h2 h3 (show t.i ≤ 12 by omega)
 have p2 := Pq.line_pow (n := t.j) h4 h5 h6 (show t.j ≤ 12 by omega)
 have p3 := Pq.mul p1 p2 (show t.i + t.j ≤ 12 by omega)
 have p4 := Pq.scale p3 hK (show t.i + t.j ≤ 12 by omega)
 have e : norm (Go.Proofs.YtddhlkfpdjmplaaGreatDoor.sbT (ln ax bx cx) (ln ay b cy) t) = norm (Qw t.c (norm (Xv (norm (Yt (ln ax bx cx) t.i)) (norm (Yt (ln ay b cy) t.j))))) := by
  refine (Va ?_).symm
  exact ((Eqv.nrm _).trans ((Eqv.nrm _).mul (Eqv.nrm _))).scale t.c
 rw [e]
 refine p4.mono ht ?_
 have := Nat.mul_le_mul_right (3 * Kx + 4) ht
 rw [Nat.add_mul] at this
 unfold KT; omega
theorem Pq.sbl {d K Kx : Nat} {ax bx cx ay b cy : Rat} (h1 : Qa ax ≤ Kx) (h2 : Qa bx ≤ Kx) (h3 : Qa cx ≤ Kx) (h4 : Qa ay ≤ Kx) (h5 : Qa b ≤ Kx) (h6 : Qa cy ≤ Kx)
  (hd : d ≤ 12) {p : List Tm} (hD : DL d p) (hK : KL K p) : ∀ k, k ≤ p.length → Pq d (k * KT d K Kx + 1) (norm (sbL (ln ax bx cx) (ln ay b cy) (p.take k)))
 | 0, _ => by rw [List.take_zero, show sbL (ln ax bx cx) (ln ay b cy) [] = [] from rfl, Zk9, Nat.zero_mul]; exact Pq.nil d
 | k + 1, hk => by
  have ih := Pq.sbl h1 h2 h3 h4 h5 h6 hd hD hK k oo
  have hmem := getD_mem p (d := (⟨0, 0, 0⟩ : Tm)) (show k < p.length by omega)
  have pt := Pq.sbT (t := p.getD k ⟨0, 0, 0⟩) h1 h2 h3 h4 h5 h6 hd (hD _ hmem) (hK _ hmem)
  have pa := Pq.add ih pt hd hd
  have e : p.take (k + 1) = p.take k ++ [p.getD k ⟨0, 0, 0⟩] := by
   rw [List.take_add_one, List.getElem?_eq_getElem oo]; simp [List.getD, show k < p.length by omega]
  rw [e, Zh1, ← Va ((Eqv.nrm _).append (Eqv.nrm _))]
  refine pa.mono oo ?_
  have : 20 ≤ KT d K Kx := by unfold KT; omega
  rw [Nat.add_mul]; omega
theorem Pq.shift {d K Kx : Nat} {ax bx cx ay b cy : Rat} {p : List Tm} (hp : Pq d K p) (h1 : Qa ax ≤ Kx) (h2 : Qa bx ≤ Kx) (h3 : Qa cx ≤ Kx) (h4 : Qa ay ≤ Kx) (h5 : Qa b ≤ Kx) (h6 : Qa cy ≤ Kx)
  (hd : d ≤ 12) : Pq d (KS d K Kx) (norm (shL p ax bx cx ay b cy)) := by
 have h := Pq.sbl h1 h2 h3 h4 h5 h6 hd (Jr hp.deg) hp.nsz (norm p).length (Nat.le_refl _)
 rw [List.take_length] at h
 unfold shL
 rw [← Va (Eqv.sub Eqv.rfl' Eqv.rfl' (Eqv.nrm p))]
 exact h.mono (Nat.le_refl _) (by have := Nat.mul_le_mul_right (KT d K Kx) hp.nlen; unfold KS; omega)
def Zi0 (φ : Nat → Nat → Rat) (l : List Tm) : Rat := l.foldl (fun s t => s + t.c * φ t.i t.j) 0
theorem Zr2 (φ : Nat → Nat → Rat) : ∀ (l : List Tm) (s : Rat), l.foldl (fun s t => s + t.c * φ t.i t.j) s = s + lin φ l
 | [], s => by simp only [List.foldl_nil, lin]; grind
 | t :: l, s => by rw [List.foldl_cons, Zr2 φ l, lin]; grind
theorem Zpp (φ : Nat → Nat → Rat) (l : List Tm) : Zi0 φ l = lin φ l := by rw [Zi0, Zr2]; grind
theorem Ziz (φ : Nat → Nat → Rat) (l : List Tm) (t : Tm) : Zi0 φ (l ++ [t]) = Zi0 φ l + t.c * φ t.i t.j := by
 unfold Zi0; rw [List.foldl_append]; rfl
theorem Zcl {φ : Nat → Nat → Rat} {K Kf : Nat} : ∀ {l : List Tm} (n : Nat), n ≤ l.length → KL K l → (∀ t ∈ l, Qa (φ t.i t.j) ≤ Kf) → Qa (Zi0 φ (l.take n)) ≤ 2 + n * (K + Kf + 1)
 | l, 0, _, _, _ => by rw [List.take_zero]; have := Vf; unfold Zi0; simp only [List.foldl_nil]; omega
 | l, n + 1, hn, hK, hf => by
  have ih := Zcl n oo hK hf
  have hmem := getD_mem l (d := (⟨0, 0, 0⟩ : Tm)) (show n < l.length by omega)
  have e : l.take (n + 1) = l.take n ++ [l.getD n ⟨0, 0, 0⟩] := by
   rw [List.take_add_one, List.getElem?_eq_getElem oo]; simp [List.getD, show n < l.length by omega]
  rw [e, Ziz]
  have := Qs (Zi0 φ (l.take n)) ((l.getD n ⟨0, 0, 0⟩).c * φ (l.getD n ⟨0, 0, 0⟩).i (l.getD n ⟨0, 0, 0⟩).j)
  have := Zu (l.getD n ⟨0, 0, 0⟩).c (φ (l.getD n ⟨0, 0, 0⟩).i (l.getD n ⟨0, 0, 0⟩).j)
  have := hK _ hmem
  have := hf _ hmem
  rw [Nat.add_mul]; omega
def fq : Nat → Rat
 | 0 => 1
 | n + 1 => fq n * (((n + 1 : Nat) : Int) : Rat)
theorem Zxc : ∀ n, fq n ≠ 0
 | 0 => by rw [fq]; decide
 | n + 1 => by
  rw [fq]; intro h
  rcases Rat.mul_eq_zero.1 h with h | h
  · exact Zxc n h
  · exact Gu n h
theorem Zvc (q : Rat) : ∀ p, upQ q p = q * fq p
 | 0 => by rw [upQ, fq]; grind
 | p + 1 => by rw [upQ, Zvc q p, fq]; grind
theorem Zp4 (q : Rat) : ∀ n, Zho q n = q / fq n
 | 0 => by rw [Zho, fq]; grind
 | n + 1 => by
  have := Zxc n
  have := Gu n
  have := Zxc (n + 1)
  rw [Zho, Zp4 q n]
  rw [fq] at *
  grind
theorem bt_fq : ∀ i j : Nat, bt i j * fq (i + j + 1) = fq i * fq j := by
 have h0 : ∀ j : Nat, bt 0 j * fq (0 + j + 1) = fq 0 * fq j := fun j => by
  have h1 := Zdv j 0
  have e : bt 0 j = lam j 0 := rfl
  rw [e, Nat.zero_add, fq, fq]; grind
 intro i
 induction i with
 | zero => exact h0
 | succ i ih =>
  intro j
  have h1 := (Zgx i j).1
  have h2 := ih j
  have e : fq (i + 1 + j + 1) = fq (i + j + 1) * (((i + j + 2 : Nat) : Int) : Rat) := by
   rw [show i + 1 + j + 1 = (i + j + 1) + 1 by omega, fq]
  have e2 : fq (i + 1) = fq i * (((i + 1 : Nat) : Int) : Rat) := rfl
  rw [e, e2]; grind
theorem Zq9 (i j : Nat) : Zdf (i + j + 2) [i, j] = mu i j := by
 unfold Zdf
 rw [Zp4]
 simp only [List.foldl_cons, List.foldl_nil, Zvc]
 have h1 := Qaf i j
 have h2 := bt_fq (i + 1) j
 have n1 := Gu i
 have n2 := Zxc (i + j + 2)
 have e : fq (i + 1 + j + 1) = fq (i + j + 2) := by congr 1; omega
 have e2 : fq (i + 1) = fq i * (((i + 1 : Nat) : Int) : Rat) := rfl
 rw [e, e2] at h2
 have h3 : (((i + 1 : Nat) : Int) : Rat) * (mu i j * fq (i + j + 2) - fq i * fq j) = 0 := by grind
 rcases Rat.mul_eq_zero.1 h3 with h | h
 · exact absurd h n1
 · grind
theorem Zpq (i j : Nat) (hi : i ≤ 12) (hj : j ≤ 12) : Qa (Zdf (i + j + 2) [i, j]) ≤ 300 := by
 unfold Zdf
 have h1 := Zdu ([i, j].foldl upQ 1) (i + j + 2) oo
 simp only [List.foldl_cons, List.foldl_nil] at *
 have h2 := Zgm 1 i oo
 have h3 := Zgm (upQ 1 i) j oo
 have h4 := Zab
 omega
theorem Zli (i j : Nat) (h : i + j ≤ 12) : Qa (mu i j) ≤ 300 := by rw [← Zq9]; exact Zpq i j oo oo
theorem Zr5 (i j : Nat) (h : i ≤ 12) : Qa (lam i j) ≤ 4 := Zi1 1 ((i + 1 : Nat) : Int) oo oo oo oo
end
section
def SG (d K Kp : Nat) : Nat := 2 + tri (d + 1) * (KS d K (2 * Kp + 1) + 5)
def TR (d K Kp : Nat) : Nat := (8 * Kp + 5) + (2 + tri (d + 1) * (KS d K (2 * Kp + 1) + 301))
theorem Qx {K : Nat} {x y : Rat} (hx : Qa x ≤ K) (hy : Qa y ≤ K) : Qa (x - y) ≤ 2 * K + 1 := by have := Qz x y; omega
def PtK (K : Nat) (a : Pt) : Prop := Qa a.1 ≤ K ∧ Qa a.2 ≤ K
theorem PtK.mono {K K' : Nat} {a : Pt} (h : PtK K a) (hk : K ≤ K') : PtK K' a := ⟨Nat.le_trans h.1 hk, Nat.le_trans h.2 hk⟩
theorem Pq.seg {d K Kp : Nat} {p : List Tm} (hq : Pq d K p) (hd : d ≤ 12) {a b : Pt} (ha : PtK Kp a) (hb : PtK Kp b) (hk : 2 ≤ Kp) : Pq d (KS d K (2 * Kp + 1)) (norm (shL p (b.1 - a.1) 0 a.1 (b.2 - a.2) 0 a.2)) := by
 have h0 := Vf
 have h1 := ha.1
 have h2 := ha.2
 exact Pq.shift hq (Qx hb.1 ha.1) oo oo (Qx hb.2 ha.2) oo oo hd
theorem Zqw (p : List Tm) (a b : Pt) : Zi0 lam (norm (shL p (b.1 - a.1) 0 a.1 (b.2 - a.2) 0 a.2)) = Yh p a b := by rw [Zpp, Gf]; rfl
theorem Zbx {d K Kp : Nat} {p : List Tm} (hq : Pq d K p) (hd : d ≤ 12) {a b : Pt} (ha : PtK Kp a) (hb : PtK Kp b) (hk : 2 ≤ Kp) : Qa (Yh p a b) ≤ SG d K Kp := by
 have h := Pq.seg hq hd ha hb hk
 have hn := h.nrm hd
 rw [Zfq] at hn
 have h1 : _ ≤ 2 + _ * (KS d K (2 * Kp + 1) + 5) := Zcl (φ := lam) (Kf := 4) (norm (shL p (b.1 - a.1) 0 a.1 (b.2 - a.2) 0 a.2)).length (Nat.le_refl _) h.siz (fun t ht => Zr5 _ _ (by have := h.deg t ht; omega))
 rw [List.take_length, Zqw] at h1
 have hl := h.nlen
 rw [Zfq] at hl
 have := Nat.mul_le_mul_right (KS d K (2 * Kp + 1) + 5) hl
 unfold SG; omega
theorem Zgn {K : Nat} {a b c : Pt} (ha : PtK K a) (hb : PtK K b) (hc : PtK K c) : Qa (twQ a b c) ≤ 8 * K + 5 := by
 have h1 := Qx hb.1 ha.1
 have h2 := Qx hc.2 ha.2
 have h3 := Qx hc.1 ha.1
 have h4 := Qx hb.2 ha.2
 have h5 := Zu (b.1 - a.1) (c.2 - a.2)
 have h6 := Zu (c.1 - a.1) (b.2 - a.2)
 have h7 := Qz ((b.1 - a.1) * (c.2 - a.2)) ((c.1 - a.1) * (b.2 - a.2))
 unfold twQ; omega
theorem Pq.triS {d K Kp : Nat} {p : List Tm} (hq : Pq d K p) (hd : d ≤ 12) {a b c : Pt} (ha : PtK Kp a) (hb : PtK Kp b) (hc : PtK Kp c) : Pq d (KS d K (2 * Kp + 1)) (norm (shL p (b.1 - a.1) (c.1 - a.1) a.1 (b.2 - a.2) (c.2 - a.2) a.2)) := by
 have h1 := ha.1
 have h2 := ha.2
 exact Pq.shift hq (Qx hb.1 ha.1) (Qx hc.1 ha.1) oo (Qx hb.2 ha.2) (Qx hc.2 ha.2) oo hd
theorem Zqr (p : List Tm) (a b c : Pt) : twQ a b c * Zi0 mu (norm (shL p (b.1 - a.1) (c.1 - a.1) a.1 (b.2 - a.2) (c.2 - a.2) a.2)) = Yo p a b c := by rw [Zpp, Gf]; rfl
theorem Znd {d K Kp : Nat} {p : List Tm} (hq : Pq d K p) (hd : d ≤ 12) {a b c : Pt} (ha : PtK Kp a) (hb : PtK Kp b) (hc : PtK Kp c) :
  Qa (Zi0 mu (norm (shL p (b.1 - a.1) (c.1 - a.1) a.1 (b.2 - a.2) (c.2 - a.2) a.2))) ≤ 2 + tri (d + 1) * (KS d K (2 * Kp + 1) + 301) := by
 have h := Pq.triS hq hd ha hb hc
 have hn := h.nrm hd
 rw [Zfq] at hn
 have h1 : _ ≤ 2 + _ * (KS d K (2 * Kp + 1) + 301) := Zcl (φ := mu) (Kf := 300) (norm (shL p (b.1 - a.1) (c.1 - a.1) a.1 (b.2 - a.2) (c.2 - a.2) a.2)).length (Nat.le_refl _) h.siz (fun t ht => Zli _ _ (by have := h.deg t ht; omega))
 rw [List.take_length] at h1
 have hl := h.nlen
 rw [Zfq] at hl
 have := Nat.mul_le_mul_right (KS d K (2 * Kp + 1) + 301) hl
 omega
theorem Zau {d K Kp : Nat} {p : List Tm} (hq : Pq d K p) (hd : d ≤ 12) {a b c : Pt} (ha : PtK Kp a) (hb : PtK Kp b) (hc : PtK Kp c) : Qa (Yo p a b c) ≤ TR d K Kp := by
 rw [← Zqr]
 have h1 := Znd hq hd ha hb hc
 have h2 := Zgn ha hb hc
 have h3 := Zu (twQ a b c) (Zi0 mu (norm (shL p (b.1 - a.1) (c.1 - a.1) a.1 (b.2 - a.2) (c.2 - a.2) a.2)))
 unfold TR; omega
theorem Km {d1 K1 d2 K2 Kp n : Nat} {g h : List Tm} (hg : Pq d1 K1 g) (hh : Pq d2 K2 h) (hd1 : d1 ≤ 12) (hd2 : d2 ≤ 12) {a b : Pt} (ha : PtK Kp a) (hb : PtK Kp b) (hk : 2 ≤ Kp)
  (hn : SG d1 K1 Kp + SG d2 K2 Kp + 4 * Kp + 3 ≤ n) : Qa (Jq g h a b) ≤ n := by
 have h1 := Zbx hg hd1 ha hb hk
 have h2 := Zbx hh hd2 ha hb hk
 have h3 := Qx hb.1 ha.1
 have h4 := Qx hb.2 ha.2
 have h5 := Zu (b.2 - a.2) (Yh g a b)
 have h6 := Zu (b.1 - a.1) (Yh h a b)
 have h7 := Qz ((b.2 - a.2) * Yh g a b) ((b.1 - a.1) * Yh h a b)
 unfold Jq; omega
def Zzc (p : List Tm) (a : Pt) (l : List Pt) : Nat → Rat
 | 0 => 0
 | k + 1 => Zzc p a l k + Yo p a (l.getD k (0, 0)) (l.getD (k + 1) (0, 0))
theorem Znq (p : List Tm) (a b : Pt) (l : List Pt) : ∀ k, Zzc p a (b :: l) (k + 1) = Yo p a b (l.getD 0 (0, 0)) + Zzc p a l k
 | 0 => by simp only [Zzc, List.getD_cons_zero, List.getD_cons_succ]; grind
 | k + 1 => by rw [Zzc, Znq p a b l k, Zzc]; simp only [List.getD_cons_succ]; grind
theorem Zxg (p : List Tm) (a : Pt) : ∀ l : List Pt, Zzc p a l (l.length - 1) = Zom p a l
 | [] => rfl
 | [b] => rfl
 | b :: c :: l => by
  have ih := Zxg p a (c :: l)
  rw [show (b :: c :: l).length - 1 = (c :: l).length - 1 + 1 by simp, Znq, ih, Zom]; rfl
theorem Zz4 (p : List Tm) (a : Pt) (l : List Pt) : Zzc p a l (l.length - 1) = Ks p (a :: l) := Zxg p a l
theorem Zwa {p q : List Tm} (h : Eqv p q) (l : List Pt) : Ks p l = Ks q l := by
 have key : ∀ (a : Pt) (l : List Pt), Zom p a l = Zom q a l := fun a l => by
  induction l with
  | nil => rfl
  | cons b l ih =>
   rcases l with _ | ⟨c, l⟩
   · rfl
   · rw [Zom, Zom, ih, Zhy h]
 rcases l with _ | ⟨a, l⟩
 · rfl
 · exact key a l
theorem Zxd {p q r s : List Tm} (h : Eqv p q) (h2 : Eqv r s) (a b : Pt) : Jq p r a b = Jq q s a b := by unfold Jq; rw [Zfk h, Zfk h2]
end
section
theorem Yc {b off : Nat} (w : World) : (Instr.fieldAt 117 (.pointer (some ⟨b, off, none⟩)) 0).run Tryz.prog w = .ok (.pointer (some ⟨b, off + 0, none⟩)) w := by
 simp [go_sem]
theorem Gn {c0 c1 c2 c3 c4 c5 c6 : Value} : Qo false 1 #[c0, c1, c2, c3, c4, c5, c6] 0 = some c0 := rfl
theorem Xu {b off : Nat} (w : World) : (Instr.fieldAt 117 (.pointer (some ⟨b, off, none⟩)) 1).run Tryz.prog w = .ok (.pointer (some ⟨b, off + 1, none⟩)) w := by
 simp [go_sem]
theorem Gb {c0 c1 c2 c3 c4 c5 c6 : Value} : Qo false 1 #[c0, c1, c2, c3, c4, c5, c6] 1 = some c1 := rfl
theorem Zjm (x0 : Int) (x1 : Int) (w : World) : (Instr.buildSlice 51 2 [(0, .int .i64 x0), (1, .int .i64 x1)].toArray).run Tryz.prog w = .ok (.slice (some ⟨w.heap.size, 0, none⟩) 2 2) (w.alloc (.cells #[.int .i64 x0, .int .i64 x1] 3 (0, 0))) := by
 simp [go_sem]
theorem Vc {b off : Nat} (w : World) : (Instr.fieldAt 117 (.pointer (some ⟨b, off, none⟩)) 2).run Tryz.prog w = .ok (.pointer (some ⟨b, off + 2, none⟩)) w := by
 simp [go_sem]
theorem Gc {c0 c1 c2 c3 c4 c5 c6 : Value} : Qo true 5 #[c0, c1, c2, c3, c4, c5, c6] 2 = some (.agg #[c2, c3, c4, c5, c6]) := rfl
theorem Jc (a : Option Addr) (n c : Nat) (w : World) (ty : TypeId) (cs : Array Bool) : (Go.builtin .len #[47] ty cs #[.slice a n c]).run Tryz.prog w = .ok (.value (.int .i64 n)) w := by
 simp [go_sem]
theorem Zf0 (b off n c j : Nat) (h : j < n) (w : World) : (Instr.indexAt 47 (.slice (some ⟨b, off, none⟩) n c) (.int .i64 (j : Int))).run Tryz.prog w = .ok (.pointer (some ⟨b, off + j * 7, none⟩)) w := by
 simpa using Xe runUnderlying47 sizeOf117 b off n c j h w
abbrev T0 : Tm := ⟨0, 0, 0⟩
abbrev Qn (t : Tm) : Value := .agg #[.int .i64 ((t.i : Nat) : Int), .int .i64 ((t.j : Nat) : Int), .int .u64 (Zet t.c.num.natAbs), .string (Zan t.c.num.natAbs), .bool (decide (t.c.num < 0)), .int .u64 (Zet (t.c.den - 1)), .string (Zan (t.c.den - 1))]
theorem Zcr (w : World) : (zeroValue 117).run Tryz.prog w = .ok (Qn T0) w := zeroValue117 w
def Zwe (s t : Tm) : Int := orI [Zqb ((s.i + s.j : Nat) : Int) ((t.i + t.j : Nat) : Int), Zqb ((s.j : Nat) : Int) ((t.j : Nat) : Int)]
theorem Zx1 (i k : Int) : Zqb i k < 0 ↔ i < k := by unfold Zqb; split <;> (try split) <;> omega
theorem Qeu (i k : Int) : Zqb i k = 0 ↔ i = k := by unfold Zqb; split <;> (try split) <;> omega
theorem Zpb (s t : Tm) : Zwe s t < 0 ↔ ltT s t = true := by
 rw [Zb8]
 unfold Zwe
 have h1 := Zx1 ((s.i + s.j : Nat) : Int) ((t.i + t.j : Nat) : Int)
 have h2 := Qeu ((s.i + s.j : Nat) : Int) ((t.i + t.j : Nat) : Int)
 have h3 := Zx1 ((s.j : Nat) : Int) ((t.j : Nat) : Int)
 simp only [orI]
 split
 · omega
 ·
  split
  · omega
  · rename_i h4 h5; have h6 := Decidable.of_not_not h5; omega
theorem Qbm (s t : Tm) (hs : s.i + s.j ≤ 1000000) (ht : t.i + t.j ≤ 1000000) : Yi Tryz.prog 90 [Qn s, Qn t] (.int .i64 (Zwe s t)) := by
 refine fn_intro func90 rfl ntmps90 nb ?_
 intro S w0 a hS h
 refine gC h (zS (zx rfl fun b2 => zx rfl fun b3 => za rfl (zn (zs (yD Za [0, 1, 2, 3, 4, 5, 6, 7, 8, 9, 11, 12, 13, 14, 10, 15, 16, 17, 18] (Zb kk) (yp rfl (.fA rfl Yc) (yd rfl rfl mr isAgg3 sizeOf3 Gn ?_))))))); clear h
 refine yp rfl (.fA rfl Xu) (yd rfl rfl mr isAgg3 sizeOf3 Gb ?_)
 refine yp rfl (.pN (((s).i) + ((s).j)) (.add rfl rfl)) (yp rfl (.fA rfl Yc) (yd rfl rfl mr isAgg3 sizeOf3 Gn ?_))
 refine yp rfl (.fA rfl Xu) (yd rfl rfl mr isAgg3 sizeOf3 Gb ?_)
 refine yp rfl (.pN (((t).i) + ((t).j)) (.add rfl rfl)) (yp rfl (.fA rfl Xu) (yd rfl rfl mr isAgg3 sizeOf3 Gb ?_))
 refine yp rfl (.fA rfl Xu) (yd rfl rfl mr isAgg3 sizeOf3 Gb ?_)
 refine yv [_, _] rfl rfl call152 (Qcw (((((s).i) + ((s).j) : Nat) : Int)) (((((t).i) + ((t).j) : Nat) : Int))) (yv [_, _] rfl rfl call152 (Qcw ((((s).j : Nat) : Int)) ((((t).j : Nat) : Int))) ?_)
 refine Gi hS rfl kk [(_, _), (_, _)] rfl (Zjm _ _) (List.map enci [Zqb ((s.i + s.j : Nat) : Int) ((t.i + t.j : Nat) : Int), Zqb ((s.j : Nat) : Int) ((t.j : Nat) : Int)]) rfl dd ?_; intro b21
 refine yw [_] rfl rfl call151 (C_Or _ _ ([Zqb (((((s).i) + ((s).j) : Nat) : Int)) (((((t).i) + ((t).j) : Nat) : Int)), Zqb ((((s).j : Nat) : Int)) ((((t).j : Nat) : Int))]) nb) (yp rfl (.assign rfl) (yn (zt ?_))); intro a w h
 exact Zao h
theorem C_may (t : Tm) (ht : t.i + t.j ≤ 12) : Yi Tryz.prog 80 [Qn t] (.int .i64 0) := by
 refine fn_intro func80 rfl ntmps80 nb ?_
 intro S w0 a hS h
 refine gC h (zS (zx rfl fun b1 => za rfl (zn (zs (zb (zS (zp (.fA rfl Yc) (zd rfl mr isAgg3 sizeOf3 Gn ?_))))))))
 refine zp (.lss rfl rfl) (zm rfl ?_); intro a w h
 refine Zl h (fun hc7 h => (by exfalso; have := of_decide_eq_true hc7; omega)) (fun hc7 h => ?_)
 refine gL h (zq 7 rfl rfl (.fA rfl Xu) ?_); clear h; intro a w h
 refine Zv 7 h rfl rfl (Yz h rfl mr isAgg3 sizeOf3 Gb dd ?_); clear h; intro a h
 refine gL h (zq 7 rfl rfl (.lss rfl rfl) (zp (.pickF rfl rfl) (za rfl (zn ?_)))); clear h; intro a w h
 refine cW ?_
 refine Zc h rfl (fun hc3 => (by exfalso; have := of_decide_eq_true hc3; omega)) (fun hc3 => ?_)
 refine gC h (zS (zp (.fA rfl Yc) (zd rfl mr isAgg3 sizeOf3 Gn ?_)))
 refine zp (.gtr rfl rfl) (zm rfl ?_); intro a w h
 refine Zl h (fun hc16 h => (by exfalso; have := of_decide_eq_true hc16; omega)) (fun hc16 h => ?_)
 refine gL h (zq 16 rfl rfl (.fA rfl Xu) ?_); clear h; intro a w h
 refine Zv 16 h rfl rfl (Yz h rfl mr isAgg3 sizeOf3 Gb dd ?_); clear h; intro a h
 refine gL h (zq 16 rfl rfl (.fA rfl Yc) ?_); clear h; intro a w h
 refine Zv 16 h rfl rfl (Yz h rfl mr isAgg3 sizeOf3 Gn dd ?_); clear h; intro a h
 refine gL h (zq 16 rfl rfl (.sub rfl rfl) (zq 16 rfl rfl (.gtr rfl rfl) (zp (.pickF rfl rfl) (za rfl (zn ?_))))); clear h; intro a w h
 refine cW ?_
 refine Zc h rfl (fun hc12 => (by exfalso; have := of_decide_eq_true hc12; omega)) (fun hc12 => ?_)
 refine gC h (zk (zS (za rfl (zn (zt ?_))))); clear h; intro a w h
 exact Zao h
theorem Qct (t : Tm) : Yi Tryz.prog 143 [Qn t] (.bool (decide (t.c = 0))) := by
 refine fn_intro func143 rfl ntmps143 nb ?_
 intro S w0 a hS h
 refine gC h (zS (zx rfl fun b1 => za rfl (zn (zS (zp (.fA rfl Vc) (zd rfl mr isAgg44 sizeOf44 Gc ?_))))))
 refine zv [_] rfl call83 (Zqk _) (zp (.eql rfl rfl) (za rfl (zn (zt ?_)))); intro a w h
 refine Jp h (Zd h rfl (.tmp rfl)) ?_
 show Value.bool _ = Value.bool _; congr 1; rw [Bool.eq_iff_iff, beq_iff_eq, decide_eq_true_iff, Int.sign_eq_zero_iff_zero]; exact Rat.num_eq_zero
def Zpw : List Tm → Nat → Int
 | [], _ => -1
 | x :: l, i => if x.c = 0 then (i : Int) else Zpw l (i + 1)
theorem Znh (l : List Tm) (i : Nat) (h : i < l.length) : Zpw (l.drop i) i = if (l.getD i T0).c = 0 then (i : Int) else Zpw (l.drop (i + 1)) (i + 1) := by
 rw [List.drop_eq_getElem_cons h, Zpw]; simp [List.getD, h]
theorem Znj : ∀ (l : List Tm) (i : Nat), Zpw l i = -1 → l.filter (fun t => decide (t.c ≠ 0)) = l
 | [], _, _ => rfl
 | x :: l, i, h => by
  rw [Zpw] at h
  split at h
  · omega
  · rename_i hx; rw [List.filter_cons, if_pos (by simpa using hx), Znj l (i + 1) h]
theorem Zni : ∀ (l : List Tm) (i k : Nat), Zpw l i = (k : Int) → i ≤ k ∧ k - i < l.length ∧ (l.getD (k - i) T0).c = 0 ∧ (l.take (k - i)).filter (fun t => decide (t.c ≠ 0)) = l.take (k - i)
 | [], i, k, h => by rw [Zpw] at h; omega
 | x :: l, i, k, h => by
  rw [Zpw] at h
  split at h
  ·
   rename_i hx
   have : k = i := oo
   subst this
   simp [hx]
  ·
   rename_i hx
   obtain ⟨h1, h2, h3, h4⟩ := Zni l (i + 1) k h
   have e : k - i = (k - (i + 1)) + 1 := oo
   rw [e]
   refine ⟨oo, by simp; omega, by simpa using h3, ?_⟩
   rw [List.take_succ_cons, List.filter_cons, if_pos (by simpa using hx), h4]
theorem Qbu (b c : Nat) (p : List Tm) (R : List Value) (σ : List (Nat × Obj)) (Φ : List Qh) (hn : p.length ≤ 1000000) :
  Zmj Tryz.prog 190 [.slice (some ⟨b, 0, none⟩) p.length c, .func (.func 143) #[] #[]] ((b, .cells (cellsOf Qn p ++ R).toArray 117 (0, 0)) :: σ) Φ (fun v σ' Φ' => v = .int .i64 (Zpw p 0) ∧ σ' = ((b, .cells (cellsOf Qn p ++ R).toArray 117 (0, 0)) :: σ) ∧ Φ' = Φ) := by
 refine fn_introM func190 rfl ntmps190 nb ?_
 intro S w0 a w hS h
 refine gC h (zS (za rfl (zn (zs (zS (zm rfl (zp (.builtin [_] rfl (Jc _ _ _)) (zm rfl (zn (zb ?_)))))))))); clear h; intro a w h
 refine Zg (fun (i : Nat) a w => i ≤ p.length ∧ (Zpw p 0 = Zpw (p.drop i) i) ∧ St 19 S w0 [(0, .slice (some ⟨b, 0, none⟩) p.length c), (1, .func (.func 143) #[] #[]), (7, nI p.length), (8, nI i)] ((b, .cells (cellsOf Qn (p) ++ R).toArray 117 (0, 0)) :: σ) (Φ) a w) (fun i => p.length - i) 0 (⟨Nat.zero_le _, rfl, by exact (h).sub sA⟩) ?_; clear h
 rintro i a w ⟨hi_i, hinv_i, h⟩
 refine gC h (zS (zp (.lss rfl rfl) (zn (zs ?_)))); clear h; intro a w h
 refine Zc h rfl (fun hc9 => ?_) (fun hc9 => ?_)
 ·
  skip
  have hlt_i : i < p.length := dT hc9
  refine gC h (zk (zs (zb (zS (zm rfl (za rfl (zn (zS (zm rfl (zm rfl (zm rfl (zp (.indexAddr rfl rfl (Zf0 _ _ _ _ _ oo)) (zd rfl mm isAgg117 sizeOf117 (Zio (k := 7) (fun _ => rfl) ((fun _ => rfl)) p R T0 i oo) ?_))))))))))))); clear h; intro a w h
  refine Zh (Ve h (fs := []) (cs := []) rfl (vs := [_]) rfl call143 (Qct (p.getD i T0)) dd ?_); clear h; intro a w h
  refine Zl h (fun hc16 h => ?_) (fun hc16 h => ?_)
  ·
   skip
   refine wpList_nil ?_
   refine cW ?_
   refine Zp h rfl ?_
   refine gC h (zS (zm rfl (za rfl (zn (zt ?_))))); clear h; intro a w h
   refine Qa0 h (Zd h rfl (.tmp rfl)) ⟨by rw [hinv_i, Znh p i hlt_i, if_pos (of_decide_eq_true hc16)], rfl, rfl⟩ (List.Sublist.refl _) (fun _ h => h)
  ·
   skip
   refine wpList_nil ?_
   refine cW ?_
   refine Zk h rfl ?_
   refine gC h (zk (zr (zp (.pN (i + 1) (.add rfl rfl)) (zm rfl (zn ?_))))); clear h; intro a w h
   exact ⟨i + 1, ⟨oo, by rw [hinv_i, Znh p i hlt_i, if_neg (of_decide_eq_false hc16)], h.sub sA⟩, oo⟩
 ·
  skip
  have heq_i : p.length = i := dF hc9
  subst heq_i
  refine gC h (ze (zS (za rfl (zn (zt ?_))))); clear h; intro a w h
  refine Qa0 h (Zd h rfl (.tmp rfl)) ⟨by rw [hinv_i, List.drop_length]; rfl, rfl, rfl⟩ (List.Sublist.refl _) (fun _ h => h)
end
section
theorem Ke {c0 c1 c2 c3 c4 c5 c6 v0 v1 v2 v3 v4 v5 v6 : Value} : Qu #[c0, c1, c2, c3, c4, c5, c6] 0 [v0, v1, v2, v3, v4, v5, v6] = #[v0, v1, v2, v3, v4, v5, v6] := by kernel_rfl
theorem Zc0 {c0 c1 c2 c3 c4 c5 c6 : Value} : Qo true 7 #[c0, c1, c2, c3, c4, c5, c6] 0 = some (.agg #[c0, c1, c2, c3, c4, c5, c6]) := rfl
theorem slo_47 (b off n c lo : Nat) (h1 : lo ≤ n) (w : World) : (Instr.sliceAt 47 (.slice (some ⟨b, off, none⟩) n c) (some (.int .i64 (lo : Int))) none none).run Tryz.prog w = .ok (.slice (some ⟨b, if c = lo then off else off + lo * 7, none⟩) (n - lo) (c - lo)) w := Zii runUnderlying47 sizeOf117 b off n c lo h1 w
theorem slh_47 (a : Option Addr) (n c j : Nat) (h : j ≤ c) (w : World) : (Instr.sliceAt 47 (.slice a n c) none (some (.int .i64 (j : Int))) none).run Tryz.prog w = .ok (.slice a j c) w := by
 exact Zdn runUnderlying47 sizeOf117 a n c j h w
theorem Zsf : ∀ (l : List Tm) (i : Nat), Zpw l i ≠ -1 → ∃ k : Nat, Zpw l i = (k : Int)
 | [], _, h => absurd rfl h
 | x :: l, i, h => by
  rw [Zpw] at h ⊢
  split
  · exact ⟨i, rfl⟩
  · rename_i hx; rw [if_neg hx] at h; exact Zsf l (i + 1) h
theorem take_snoc (l : List Tm) {j : Nat} (h : j < l.length) : l.take (j + 1) = l.take j ++ [l.getD j T0] := by
 rw [List.take_add_one, List.getElem?_eq_getElem h]; simp [List.getD, h]
theorem getD_drop (l m : List Tm) {j : Nat} (h : l.drop j = m.drop j) : l.getD j T0 = m.getD j T0 := by
 have := congrArg (fun x => x[0]?) h
 simp only [List.getElem?_drop, Nat.add_zero] at this
 simp only [List.getD]; rw [this]
theorem Qa7 {p q : List Tm} {i j : Nat} (hq : q.length = p.length ∧ i < j ∧ q.take i = (p.take j).filter (fun t => decide (t.c ≠ 0)) ∧ q.drop j = p.drop j) (hj : j < p.length) (hc : (q.getD j T0).c = 0) :
  q.length = p.length ∧ i < j + 1 ∧ q.take i = (p.take (j + 1)).filter (fun t => decide (t.c ≠ 0)) ∧ q.drop (j + 1) = p.drop (j + 1) := by
 obtain ⟨h1, h2, h3, h4⟩ := hq
 have hg := getD_drop _ _ h4
 refine ⟨h1, oo, ?_, ?_⟩
 · rw [take_snoc p hj, List.filter_append, ← h3, ← hg, List.filter_cons, if_neg (by simpa using hc)]; simp
 ·
  have := congrArg (List.drop 1) h4
  rw [List.drop_drop, List.drop_drop] at this; exact this
theorem Qa8 {p q : List Tm} {i j : Nat} (hq : q.length = p.length ∧ i < j ∧ q.take i = (p.take j).filter (fun t => decide (t.c ≠ 0)) ∧ q.drop j = p.drop j) (hj : j < p.length) (hc : (q.getD j T0).c ≠ 0) :
  (q.set i (q.getD j T0)).length = p.length ∧ i + 1 < j + 1 ∧ (q.set i (q.getD j T0)).take (i + 1) = (p.take (j + 1)).filter (fun t => decide (t.c ≠ 0)) ∧ (q.set i (q.getD j T0)).drop (j + 1) = p.drop (j + 1) := by
 obtain ⟨h1, h2, h3, h4⟩ := hq
 have hg := getD_drop _ _ h4
 refine ⟨by rw [List.length_set, h1], oo, ?_, ?_⟩
 ·
  rw [take_snoc (q.set i (q.getD j T0)) (by rw [List.length_set]; omega), take_snoc p hj, List.filter_append, ← h3, ← hg, List.filter_cons, if_pos (by simpa using hc)]
  rw [List.take_set_of_le (Nat.le_refl _)]
  congr 2
  simp only [List.getD, List.getElem?_set, if_pos rfl, if_pos (show i < q.length by omega)]; simp
 ·
  rw [List.drop_set_of_lt oo]
  have := congrArg (List.drop 1) h4
  rw [List.drop_drop, List.drop_drop] at this; exact this
theorem Xt (t : Tm) : (Qn t).cells.size = 7 := rfl
theorem Zx3 {q : List Tm} {n i : Nat} (R : List Value) (hq : q.length = n) (hi : i ≤ n) :
  Qu (cellsOf Qn q ++ R).toArray (0 + i * 7) (Zef (n - i) (Qn T0).cells.toList) = (cellsOf Qn (q.take i) ++ (Zef (n - i) (Qn T0).cells.toList ++ R)).toArray := by
 have e : cellsOf Qn q = cellsOf Qn (q.take i) ++ cellsOf Qn (q.drop i) := by rw [← Zw, List.take_append_drop]
 have hl : (cellsOf Qn (q.take i)).length = i * 7 := by rw [cellsOf_length Xt]; simp [hq, Nat.min_eq_left hi]
 have := Gr (Zef (n - i) (Qn T0).cells.toList) (cellsOf Qn (q.take i)) (cellsOf Qn (q.drop i)) R (by
  rw [Gs, cellsOf_length Xt, List.length_drop, hq]; rfl)
 rw [e, Nat.zero_add, ← hl, this, List.append_assoc]
theorem Qbf {q : List Tm} {n i : Nat} (R : List Value) (hq : q.length = n) (hi : i ≤ n) : 0 + i * 7 + (n - i) * (Qn T0).cells.size ≤ (cellsOf Qn q ++ R).toArray.size := by
 show 0 + i * 7 + (n - i) * 7 ≤ (cellsOf Qn q ++ R).length
 rw [List.length_append, cellsOf_length Xt, hq]; omega
theorem Qej {p q : List Tm} {i j : Nat} (hq : q.length = p.length ∧ i < j ∧ q.take i = (p.take j).filter (fun t => decide (t.c ≠ 0)) ∧ q.drop j = p.drop j) (hj : j = p.length) :
  q.take i = p.filter (fun t => decide (t.c ≠ 0)) ∧ i = (p.filter (fun t => decide (t.c ≠ 0))).length := by
 obtain ⟨h1, h2, h3, h4⟩ := hq
 have e : q.take i = p.filter (fun t => decide (t.c ≠ 0)) := by rw [h3, hj, List.take_length]
 refine ⟨e, ?_⟩
 rw [← e, List.length_take]; omega
theorem Zy6 (b c : Nat) (p : List Tm) (R : List Value) (σ : List (Nat × Obj)) (Φ : List Qh) (hn : p.length ≤ 1000000) (hpc : p.length ≤ c) :
  Zmj Tryz.prog 142 [.slice (some ⟨b, 0, none⟩) p.length c, .func (.func 143) #[] #[]] ((b, .cells (cellsOf Qn p ++ R).toArray 117 (0, 0)) :: σ) Φ
   (fun v σ' Φ' => v = .slice (some ⟨b, 0, none⟩) (p.filter (fun t => decide (t.c ≠ 0))).length c ∧ Φ' = Φ ∧ ∃ R' : List Value, (cellsOf Qn (p.filter (fun t => decide (t.c ≠ 0))) ++ R').length = (cellsOf Qn p ++ R).length ∧ σ' = (b, .cells (cellsOf Qn (p.filter (fun t => decide (t.c ≠ 0))) ++ R').toArray 117 (0, 0)) :: σ) := by
 refine fn_introM func142 rfl ntmps142 nb ?_
 intro S w0 a w hS h
 refine gC h (zS (za rfl (zn (zS (zm rfl (zm rfl ?_)))))); clear h; intro a w h
 refine Zh (Zat h hS (vs := [_, _]) rfl call190 (Qbu b c p R σ Φ hn) (List.Perm.refl _) ss ss ?_); clear h; rintro v10 σ10 Ψ10 a w ⟨rfl, rfl, hΦ10⟩ h
 rw [hΦ10] at h
 refine gL h (za rfl (zn (zs (zS (zm rfl (zp (.eql rfl rfl) (zn ?_))))))); clear h; intro a w h
 refine cW ?_
 refine Zc h rfl (fun hc12 => ?_) (fun hc12 => ?_)
 ·
  skip
  have hn0 := Znj p 0 (eq_of_beq hc12)
  refine gC h (zS (zm rfl (za rfl (zn (zt ?_))))); clear h; intro a w h
  refine Qa0 h (Zd h rfl (.tmp rfl)) ⟨by rw [hn0], rfl, R, by rw [hn0], by rw [hn0]⟩ (List.Sublist.refl _) (fun _ h => h)
 ·
  skip
  obtain ⟨k, hk⟩ := Zsf p 0 (fun e => by rw [e] at hc12; exact absurd hc12 dd)
  rw [hk] at h
  obtain ⟨hk1, hk2, hk3, hk4⟩ := Zni p 0 k hk
  simp only [Nat.sub_zero] at hk2 hk3 hk4
  refine gC h (zk (zs (zS (zm rfl (zp (.pN (k + 1) (.add rfl rfl)) (za rfl (zn (zb ?_)))))))); clear h; intro a w h
  refine Zg (fun (m : Nat) a w => m ≤ (p.length - (k + 1)) ∧ ∃ (q : List Tm) (i : Nat), (q.length = p.length ∧ i < k + 1 + m ∧ q.take i = (p.take (k + 1 + m)).filter (fun t => decide (t.c ≠ 0)) ∧ q.drop (k + 1 + m) = p.drop (k + 1 + m)) ∧ St 42 S w0 [(0, .slice (some ⟨b, 0, none⟩) p.length c), (1, .func (.func 143) #[] #[]), (5, nI i), (6, nI (k + 1 + m)), (15, nI (k + 1))] ((b, .cells (cellsOf Qn (q) ++ R).toArray 117 (0, 0)) :: σ) (Φ) a w) (fun m => (p.length - (k + 1)) - m) 0 (⟨Nat.zero_le _, p, k, ⟨rfl, oo, by rw [Nat.add_zero, take_snoc p oo, List.filter_append, hk4, List.filter_cons, if_neg (by simpa using hk3)]; simp, rfl⟩, by exact (h).sub sA⟩) ?_; clear h
  rintro m a w ⟨hi_m, q, i, hq, h⟩
  refine gC h (zs (zS (zm rfl (zm rfl (zp (.builtin [_] rfl (Jc _ _ _)) (zp (.lss rfl rfl) (zn ?_))))))); clear h; intro a w h
  refine cW ?_
  refine Zc h rfl (fun hc19 => ?_) (fun hc19 => ?_)
  ·
   skip
   have hlt_m : m < (p.length - (k + 1)) := dT hc19
   have hq1 := hq.1
   have hq2 := hq.2.1
   refine gC h (zk (zs (zb (zS (zm rfl (zm rfl (zp (.indexAddr rfl rfl (Zf0 _ _ _ _ _ oo)) (zd rfl mm isAgg117 sizeOf117 (Zio (k := 7) (fun _ => rfl) ((fun _ => rfl)) q R T0 (k + 1 + m) oo) ?_))))))))
   refine zz Zcr fun b7 => zt' rfl rfl Ke uu sizeOf117 rfl nb rfl ?_
   refine zn (zS (zm rfl (zd rfl mr isAgg117 sizeOf117 Zc0 ?_))); intro a w h
   refine Zh (Ve h (fs := []) (cs := []) rfl (vs := [_]) rfl call143 (Qct (q.getD (k + 1 + m) T0)) dd ?_); clear h; intro a w h
   refine gL h (zp (.unOp rfl (Yp _)) (zn ?_)); clear h; intro a w h
   refine cW ?_
   refine Zc h rfl (fun hc29 => ?_) (fun hc29 => ?_)
   ·
    skip
    refine gC h (zS (zm rfl (zm rfl (zd rfl mr isAgg117 sizeOf117 Zc0 ?_))))
    refine zp (.indexAddr rfl rfl (Zf0 _ _ _ _ _ oo)) (zt' (b := b) (cs := (cellsOf Qn q ++ R).toArray) (cs' := (cellsOf Qn (q.set i (q.getD (k + 1 + m) T0)) ++ R).toArray) (v := Qn (q.getD (k + 1 + m) T0)) rfl rfl (Zts (k := 7) (fun _ => rfl) q R i oo (q.getD (k + 1 + m) T0)) uu sizeOf117 rfl (Zn2 (k := 7) (fun _ => rfl) q R i oo) rfl ?_)
    refine zn (zr (zm rfl (zp (.pN (i + 1) (.add rfl rfl)) (za rfl (zn (zr (zm rfl (zp (.pN ((k + 1 + m) + 1) (.add rfl rfl)) (za rfl (zn ?_)))))))))); intro a w h
    exact ⟨m + 1, ⟨oo, q.set i (q.getD (k + 1 + m) T0), i + 1, Qa8 (j := k + 1 + m) hq oo (by simpa using hc29), by exact (h.drop sl).sub sA⟩, oo⟩
   ·
    skip
    refine gC h (zk (zr (zm rfl (zp (.pN ((k + 1 + m) + 1) (.add rfl rfl)) (za rfl (zn ?_)))))); clear h; intro a w h
    exact ⟨m + 1, ⟨oo, q, i, Qa7 (j := k + 1 + m) hq oo (by simpa using hc29), by exact (h.drop sl).sub sA⟩, oo⟩
  ·
   skip
   have heq_m : (p.length - (k + 1)) = m := dF hc19
   have hq1 := hq.1
   have hq2 := hq.2.1
   obtain ⟨hq3, hq4⟩ := Qej hq oo
   refine gC h (ze (zS (zm rfl (zm rfl (zp (Pure1.cast (v' := .slice (some ⟨b, 0 + i * 7, none⟩) (p.length - i) (c - i)) (.slice rfl (some _) none none rfl rfl rfl (slo_47 _ _ _ _ _ oo)) (by rw [if_neg oo])) ?_))))); clear h; intro a w h
   refine Zh (Zz7 h rfl oo runUnderlying47 Zcr dd (Qbf R hq1 oo) rfl (Zx3 R hq1 oo) uu ?_); clear h; intro a w h
   refine gL h (zn (zS (zm rfl (zm rfl (zp (.slice rfl none (some _) none rfl rfl rfl (slh_47 _ _ _ _ oo)) (za rfl (zn (zt ?_)))))))); clear h; intro a w h
   rw [hq3] at h
   refine Qa0 h (Zd h rfl (.tmp rfl)) ⟨by rw [← hq4], rfl, _, ?_, rfl⟩ (by repeat (first | exact List.Sublist.refl _ | apply List.Sublist.cons)) (fun _ h => h)
   simp only [List.length_append, cellsOf_length Xt, Gs, Array.length_toList, Xt]
   rw [← hq4]; omega
end
end Go.Proofs.YtddhlkfpdjmplaaGreatDoor
