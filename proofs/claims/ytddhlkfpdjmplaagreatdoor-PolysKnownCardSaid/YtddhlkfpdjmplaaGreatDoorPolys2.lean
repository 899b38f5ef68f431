/- Walks of functions. By an AI agent. -/
import Derived.Test.YtddhlkfpdjmplaaGreatDoorNegi
import Derived.Test.YtddhlkfpdjmplaaGreatDoorNumT
import Derived.Test.YtddhlkfpdjmplaaGreatDoorFxD
import Derived.Test.YtddhlkfpdjmplaaGreatDoorFxM
set_option linter.unusedVariables false
set_option linter.unusedSimpArgs false
set_option maxRecDepth 4000
namespace Go.Proofs.YtddhlkfpdjmplaaGreatDoor
open Go Go.Proofs Go.Fx Tryz
attribute [local irreducible] Oper.wp Code.wp wpList Fx.Head wpOp
section
theorem Zz (a : Option Addr) (n c : Nat) (w : World) (ty : TypeId) (cs : Array Bool) : (Go.builtin .len #[52] ty cs #[.slice a n c]).run Tryz.prog w = .ok (.value (.int .i64 n)) w := by
 simp [go_sem]
theorem Zf2 (b off n c j : Nat) (h : j < n) (w : World) : (Instr.indexAt 52 (.slice (some ⟨b, off, none⟩) n c) (.int .i64 (j : Int))).run Tryz.prog w = .ok (.pointer (some ⟨b, off + j, none⟩)) w := by
 simpa using Xx runUnderlying52 sizeOf3 b off n c j h w
theorem slh_52 (a : Option Addr) (n c j : Nat) (h : j ≤ c) (w : World) : (Instr.sliceAt 52 (.slice a n c) none (some (.int .i64 (j : Int))) none).run Tryz.prog w = .ok (.slice a j c) w := by
 exact Zbu runUnderlying52 sizeOf3 a n c j h w
theorem Zee (x0 : Int) (w : World) : (Instr.buildSlice 52 1 [(0, .int .i64 x0)].toArray).run Tryz.prog w = .ok (.slice (some ⟨w.heap.size, 0, none⟩) 1 1) (w.alloc (.cells #[.int .i64 x0] 3 (0, 0))) := by
 simp [go_sem]
theorem Zoc (ad : Option Addr) (c : Nat) (l : List Nat) (hw : Dd l) (hc : l.length ≤ c) (hs : l.length ≤ 2199023255552) :
  Ctr Tryz.prog 180 [.slice ad l.length c] [Row ad (List.map Zv l)] (fun v Ψ => v = .slice ad (dg (Qs l)).length c ∧ Ψ = [Row ad (List.map Zv (dg (Qs l)))]) := by
 refine fn_intro func180 rfl ntmps180 nb ?_
 intro S w0 a hS h
 refine gC h (zS (za rfl (zn (zs (zb ?_))))); clear h; intro a w h
 refine Zf (fun (m : Nat) a w => m ≤ l.length ∧ (∀ j, m ≤ j → j < l.length → l.getD j 0 = 0) ∧ St 21 S w0 [(0, .slice ad m c)] [] [Row ad (List.map Zv l)] a w) (fun m => m) (l.length) (⟨Nat.le_refl _, fun j h1 h2 => absurd h2 oo, h.sub sA⟩) ?_; clear h
 rintro m a w ⟨hm, hz, h⟩
 refine gC h (zs (zS (zm rfl (zp (.builtin [_] rfl (Zz _ _ _)) (zp (.gtr rfl rfl) ?_))))); clear h; intro a w h
 refine Zg h (fun hc5 h => ?_) (fun hc5 h => ?_)
 focus
  have hm0 : 0 < m := dT hc5
  obtain ⟨B_ad, O_ad, rfl⟩ := h.row_addr (ad := ad) (M := List.map Zv l) (by first | assumption | (repeat (first | exact List.Mem.head _ | apply List.Mem.tail))) nF
  refine gL h (zm rfl (zq 6 rfl rfl (.move rfl) (zq 6 rfl rfl (.move rfl) (zq 6 rfl rfl (.builtin [_] rfl (Zz _ _ _)) (zq 6 rfl rfl (.pO (m - 1) (.sub rfl rfl)) (zq 6 rfl rfl (.indexAddr rfl rfl (Zf2 _ _ _ _ _ oo)) ?_)))))); clear h; intro a w h
  refine Ze 6 h rfl rfl (Zaf h rfl mm (by rw [List.length_map]; omega) isAgg3 sizeOf3 (Qa (enc := Zv) (l := l) 0 oo) (.inr rfl) dd ?_); clear h; intro a h
  refine gL h (zq 6 rfl rfl (.eql rfl rfl) ?_); clear h; intro a w h
  refine Zg h (fun hc13 h => ?_) (fun hc13 h => ?_)
  ·
   skip
   have hv0 : l.getD (m - 1) 0 = 0 := Zbf hc13
   refine gL h (zp (.pickT rfl rfl) (zn ?_)); clear h; intro a w h
   refine cW ?_
   refine Zq h rfl ?_
   refine gC h (zk (zb (zr (zm rfl (zm rfl (zp (.builtin [_] rfl (Zz _ _ _)) (zp (.pO (m - 1) (.sub rfl rfl)) (zp (.slice rfl none (some _) none rfl rfl rfl (slh_52 _ _ _ _ oo)) (za rfl (zn ?_)))))))))); clear h; intro a w h
   refine ⟨m - 1, ⟨oo, fun j h1 h2 => ?_, h.sub sA⟩, oo⟩
   by_cases hj : j = m - 1
   ·
    skip
    subst hj; exact hv0
   ·
    skip
    exact hz j oo h2
  have hv0 : l.getD (m - 1) 0 ≠ 0 := Zaw hc13
  refine gL h (zp (.pickT rfl rfl) (zn ?_)); clear h; intro a w h
  refine cW ?_
  refine Zj h rfl ?_
  refine gC h (ze (zS (zm rfl (za rfl (zn (zt ?_)))))); clear h; intro a w h
  have hcut := Zsq hw hm hz (.inr hv0)
 rotate_left
 focus
  have hm0 : m = 0 := dF hc5
  refine gL h (zm rfl (zo 6 rfl rfl rfl (zo 6 rfl rfl rfl (zo 6 rfl rfl rfl (zo 6 rfl rfl rfl (zo 6 rfl rfl rfl (zo 6 rfl rfl rfl (zo 6 rfl rfl rfl (zp (.pickF rfl rfl) (zn ?_)))))))))); clear h; intro a w h
  refine cW ?_
  refine Zj h rfl ?_
  refine gC h (ze (zS (zm rfl (za rfl (zn (zt ?_)))))); clear h; intro a w h
  have hcut := Zsq hw hm hz (.inl hm0)
 all_goals
  have hR : ∀ ad, Row ad (List.map Zv (dg (Qs l))) = Row ad ((List.map Zv l).take m) := by intro ad; rw [hcut, List.map_take]
  replace h := h.derive (R := Row _ (List.map Zv (dg (Qs l)))) (fun X hX => by rw [hR]; exact Zhx (hX _ List.mem_cons_self) m)
  have hl : m = (dg (Qs l)).length := by rw [hcut]; simp; omega
  refine Qg (Ψ := [Row _ (List.map Zv (dg (Qs l)))]) h (Zc h rfl (.tmp rfl)) ⟨by rw [← hl], rfl⟩ ss
theorem Qc6 (ad : Option Addr) (c : Nat) (l : List Nat) (i : Nat) :
  Vj Tryz.prog 179 [.slice ad l.length c, .int .i64 ((i : Nat) : Int)] [Row ad (List.map Zv l)] (.int .i64 ((l.getD i 0 : Nat) : Int)) := by
 refine fn_intro func179 rfl ntmps179 nb ?_
 intro S w0 a hS h
 refine gC h (zS (za rfl (zn (zs (zS (zm rfl (zm rfl (zp (.builtin [_] rfl (Zz _ _ _)) (zp (.lss rfl rfl) (zn ?_)))))))))); clear h; intro a w h
 refine cW ?_
 refine Zb h rfl (fun hc8 => ?_) (fun hc8 => ?_)
 ·
  skip
  have hi : i < l.length := dT hc8
  obtain ⟨B_ad, O_ad, rfl⟩ := h.row_addr (ad := ad) (M := List.map Zv l) (by first | assumption | (repeat (first | exact List.Mem.head _ | apply List.Mem.tail))) nF
  refine gC h (zS (zm rfl (zm rfl (zp (.indexAddr rfl rfl (Zf2 _ _ _ _ _ oo)) (zD rfl mm (by rw [List.length_map]; omega) isAgg3 sizeOf3 (Qa (enc := Zv) (l := l) 0 oo) (.inr rfl) ?_)))))
  refine za rfl (zn (zt ?_)); intro a w h
  exact Zbw h
 ·
  skip
  have hi : l.length ≤ i := dF hc8
  refine gC h (zk (zS (za rfl (zn (zt ?_))))); clear h; intro a w h
  refine Jm h (Zc h rfl (.tmp rfl)) ?_
  rw [Gu hi]; rfl
def Zn9 (n : Nat) (v : Value) (Ψ : List Zy) : Prop := ∃ ad c, v = .slice ad (dg n).length c ∧ (dg n).length ≤ c ∧ Ψ = [Row ad (List.map Zv (dg n))]
theorem dlt (n i : Nat) : (dg n).getD i 0 < 10000 := (Dd.dg n).getD i
theorem trimmed {n : Nat} {ad : Option Addr} {c : Nat} {v : Value} {Ψ : List Zy} {Z : List Nat} (hv : v = .slice ad (dg (Qs Z)).length c ∧ Ψ = [Row ad (List.map Zv (dg (Qs Z)))]) (hZ : Qs Z = n) (hw : Dd Z) (hc : Z.length ≤ c) : Zn9 n v Ψ := by
 subst hZ; exact ⟨ad, c, hv.1, Nat.le_trans (Zhi hw) hc, hv.2⟩
theorem Zz1 (n : Nat) (hn : n < 18446744073709551616) :
  Ctr Tryz.prog 181 [.int .u64 (n : Int)] [] (Zn9 n) := by
 have h5 : (dg n).length ≤ 5 := Zbm (Nat.lt_trans hn dd)
 refine fn_intro func181 rfl ntmps181 nb ?_
 intro S w0 a hS h
 refine gC h (zS (za rfl (zn (zS (za rfl (zn (zs (zb ?_)))))))); clear h; intro a w h
 refine Zf (fun (m : Nat) a w => ∃ l ad c o, m ≤ n ∧ dg n = l ++ dg m ∧ GrowO 1 3 (.slice ad l.length c) l.length (List.map Zv l) o ∧ St 15 S w0 [(0, .int .u64 (m : Int)), (3, .slice ad l.length c)] (o ++ []) [] a w) (fun m => m) (n) (⟨[], none, 0, [], Nat.le_refl _, rfl, GrowO.nil _ _, by exact h.sub sA⟩) ?_; clear h
 rintro m a w ⟨l, ad, c, o, hm, hd, hG, h⟩
 have hll : l.length ≤ 5 := by have := congrArg List.length hd; simp at this; omega
 refine gC h (zs (zS (zm rfl (zp (.gtr rfl rfl) (zn ?_))))); clear h; intro a w h
 refine cW ?_
 refine Zb h rfl (fun hc5 => ?_) (fun hc5 => ?_)
 ·
  skip
  have hm0 : 0 < m := dT hc5
  refine gC h (zk (zb (zS (zm rfl (zm rfl (zp (Pure1.cast (v' := .int .u64 ((m % 10000 : Nat) : Int)) (.binOp rfl rfl (fun _ => Vg _ _ _ _ _ dd)) (by rw [show (10000 : Int) = ((10000 : Nat) : Int) from rfl, Yg])) (zp (.convert rfl (Zst _ (wrap_i64 _ oo oo))) (zB [(_, _)] rfl (Zee _) fun b10 => ?_)))))))); clear h; intro a w h
  refine Zi (Gd (σr := []) h rfl rfl (List.Perm.trans (List.Perm.refl _) (List.Perm.cons _ (List.Perm.refl _))) hG runUnderlying52 runUnderlying52 typeInfo3 sizeOf3 zeroValue3 rfl dd dd rfl rfl dd (by show 8 * (2 * ((l).length + 1) + 192) ≤ 281474976710656; omega) dd ?_); clear h
  intro v11 o11 a w hG11 h
  obtain ⟨ad11, c11, rfl⟩ := hG11.is
  have hLn11 : (l).length + 1 = (l ++ [m % 10000]).length := lA
  rw [hLn11] at h hG11
  replace hG11 : GrowO 1 3 (.slice ad11 (l ++ [m % 10000]).length c11) (l ++ [m % 10000]).length (List.map Zv (l ++ [m % 10000])) o11 := by rw [List.map_append]; exact hG11
  refine gL h (za rfl (zn (zr (zm rfl (zp (Pure1.cast (v' := .int .u64 ((m / 10000 : Nat) : Int)) (.binOp rfl rfl (fun _ => Vp _ _ _ _ _ dd)) (by rw [show (10000 : Int) = ((10000 : Nat) : Int) from rfl, Yh, Zdw (Nat.lt_of_le_of_lt (Nat.div_le_self _ _) (Nat.lt_of_le_of_lt hm hn))])) (za rfl (zn ?_))))))); clear h; intro a w h
  exact ⟨m / 10000, ⟨l ++ [m % 10000], ad11, c11, o11, oo, by rw [hd, Zji (Nat.ne_of_gt hm0)]; simp, hG11, by exact h.sub sA⟩, oo⟩
 ·
  skip
  have hm0 : m = 0 := dF hc5
  refine gC h (ze (zS (zm rfl (za rfl (zn (zt ?_)))))); clear h; intro a w h
  obtain rfl : l = dg n := by rw [hd, hm0, Js, List.append_nil]
  exact Qg (Ψ := [Row ad (List.map Zv (dg n))]) (h.shareO' hS hG) (Zc h rfl (.tmp rfl)) ⟨ad, c, rfl, hG.le, rfl⟩ ss
theorem drop_zero {l : List Nat} {i : Nat} (h : l.length ≤ i) : Qs (l.drop i) = 0 := Zms h
theorem Qeq (ad1 ad2 : Option Addr) (c1 c2 : Nat) (n m : Nat) (h1 : (dg n).length ≤ 1000000000000) (h2 : (dg m).length ≤ 1000000000000) :
  Ctr Tryz.prog 172 [.slice ad1 (dg n).length c1, .slice ad2 (dg m).length c2] [Row ad1 (List.map Zv (dg n)), Row ad2 (List.map Zv (dg m))] (Zn9 (n + m)) := by
 refine fn_intro func172 rfl ntmps172 nb ?_
 intro S w0 a hS h
 refine gC h (zS (za rfl (zn (zS (za rfl (zn (zS (za rfl (zn (zs (zS (za rfl (zn (zb ?_)))))))))))))); clear h; intro a w h
 refine Zf (fun (i : Nat) a w => ∃ k Z ad c o, i ≤ max (dg n).length (dg m).length + 1 ∧ k ≤ 1 ∧ (i = max (dg n).length (dg m).length + 1 → k = 0) ∧ Z.length = i ∧ Dd Z ∧ Qs Z + 10000 ^ i * (k + Qs ((dg n).drop i) + Qs ((dg m).drop i)) = n + m ∧ GrowO 1 3 (.slice ad Z.length c) Z.length (List.map Zv Z) o ∧ St 43 S w0 [(0, .slice ad1 ((dg n).length) c1), (1, .slice ad2 ((dg m).length) c2), (5, .slice ad Z.length c), (6, nI k), (7, nI i)] (o ++ []) [Row ad1 (List.map Zv (dg n)), Row ad2 (List.map Zv (dg m))] a w) (fun i => max (dg n).length (dg m).length + 1 - i) (0) (⟨0, [], none, 0, [], Nat.zero_le _, oo, fun _ => rfl, rfl, (fun x hx => by cases hx), by simp [Qs, Ym], GrowO.nil _ _, by exact h.sub sA⟩) ?_; clear h
 rintro i a w ⟨k, Z, ad, c, o, hi, hk, hik, hl, hw, hv, hG, h⟩
 have e1 := dlt n i
 have e2 := dlt m i
 refine gC h (zs (zS (zm rfl (zm rfl (zp (.builtin [_] rfl (Zz _ _ _)) (zp (.lss rfl rfl) ?_)))))); clear h; intro a w h
 refine Zg h (fun hc12 h => ?_) (fun hc12 h => ?_)
 focus
  have hrun : i ≤ max (dg n).length (dg m).length := dT hc12
  refine gL h (zm rfl (zo 13 rfl rfl rfl (zo 13 rfl rfl rfl (zo 13 rfl rfl rfl (zo 13 rfl rfl rfl (zp (.pickT rfl rfl) (zm rfl (zo 19 rfl rfl rfl (zo 19 rfl rfl rfl (zp (.pickT rfl rfl) (zn ?_))))))))))); clear h; intro a w h
 rotate_left
 focus
  have hna : (dg n).length ≤ i := dF hc12
  refine gL h (zm rfl (zq 13 rfl rfl (.move rfl) (zq 13 rfl rfl (.move rfl) (zq 13 rfl rfl (.builtin [_] rfl (Zz _ _ _)) (zq 13 rfl rfl (.lss rfl rfl) ?_))))); clear h; intro a w h
  refine Zg h (fun hc17 h => ?_) (fun hc17 h => ?_)
  focus
   have hrun : i ≤ max (dg n).length (dg m).length := dT hc17
   refine gL h (zp (.pickF rfl rfl) (zm rfl (zo 19 rfl rfl rfl (zo 19 rfl rfl rfl (zp (.pickT rfl rfl) (zn ?_)))))); clear h; intro a w h
  rotate_left
  focus
   have hnb : (dg m).length ≤ i := dF hc17
   refine gL h (zp (.pickF rfl rfl) (zm rfl (zq 19 rfl rfl (.move rfl) (zq 19 rfl rfl (.gtr rfl rfl) ?_)))); clear h; intro a w h
   refine Zg h (fun hc21 h => ?_) (fun hc21 h => ?_)
   rotate_left
   ·
    skip
    have hk0 : k = 0 := dF hc21
    refine gL h (zp (.pickF rfl rfl) (zn ?_)); clear h; intro a w h
    refine cW ?_
    refine Zj h rfl ?_
    refine gC h (ze (zS (zm rfl ?_))); clear h; intro a w h
    replace h := h.shareO' hS hG
    have hZ : Qs Z = n + m := by rw [hk0, drop_zero hna, drop_zero hnb] at hv; simpa using hv
    refine gL h (zf [_] rfl call180 (Zoc ad c Z hw hG.le oo) ?_); rintro v42 Ψ42 ht
    refine za rfl (zn (zt ?_)); intro a w h
    exact Qg h (Zc h rfl (.tmp rfl)) (trimmed ht hZ hw hG.le) (fun R hR => List.mem_append_left _ hR)
   have hrun : i ≤ max (dg n).length (dg m).length := dT hc21
   refine gL h (zp (.pickF rfl rfl) (zn ?_)); clear h; intro a w h
 all_goals
  refine cW ?_
  refine Zq h rfl ?_
  refine gC h (zk (zs (zb (zS (zm rfl (zm rfl (zw [_, _] rfl call179 (Qc6 _ _ (dg n) (i)) (zm rfl (zm rfl (zw [_, _] rfl call179 (Qc6 _ _ (dg m) (i)) (zp (.pN (((dg n).getD i 0) + ((dg m).getD i 0)) (.add rfl rfl)) (zm rfl (zp (.pN ((((dg n).getD i 0) + ((dg m).getD i 0)) + k) (.add rfl rfl)) (za rfl (zn (zS (zm rfl (zm rfl (zp (Pure1.cast (v' := .int .i64 ((((dg n).getD i 0 + (dg m).getD i 0 + k) % 10000 : Nat) : Int)) (.binOp rfl rfl (fun _ => Vg _ _ _ _ _ dd)) (by rw [show (10000 : Int) = ((10000 : Nat) : Int) from rfl, Yg])) (zB [(_, _)] rfl (Zee _) fun b37 => ?_)))))))))))))))))))); clear h; intro a w h
  refine Zi (Gd (σr := []) h rfl rfl (List.Perm.trans (List.Perm.refl _) (List.Perm.cons _ (List.Perm.refl _))) hG runUnderlying52 runUnderlying52 typeInfo3 sizeOf3 zeroValue3 rfl dd dd rfl rfl dd (by show 8 * (2 * ((Z).length + 1) + 192) ≤ 281474976710656; omega) dd ?_); clear h
  intro v38 o38 a w hG38 h
  obtain ⟨ad38, c38, rfl⟩ := hG38.is
  have hLn38 : (Z).length + 1 = (Z ++ [((dg n).getD i 0 + (dg m).getD i 0 + k) % 10000]).length := lA
  rw [hLn38] at h hG38
  replace hG38 : GrowO 1 3 (.slice ad38 (Z ++ [((dg n).getD i 0 + (dg m).getD i 0 + k) % 10000]).length c38) (Z ++ [((dg n).getD i 0 + (dg m).getD i 0 + k) % 10000]).length (List.map Zv (Z ++ [((dg n).getD i 0 + (dg m).getD i 0 + k) % 10000])) o38 := by rw [List.map_append]; exact hG38
  refine gL h (za rfl (zn (zr (zm rfl (zp (Pure1.cast (v' := .int .i64 ((((dg n).getD i 0 + (dg m).getD i 0 + k) / 10000 : Nat) : Int)) (.binOp rfl rfl (fun _ => Vp _ _ _ _ _ dd)) (by rw [show (10000 : Int) = ((10000 : Nat) : Int) from rfl, Yh, wrap_i64 _ oo oo])) (za rfl (zn (zr (zm rfl (zp (.pN (i + 1) (.add rfl rfl)) (za rfl (zn ?_)))))))))))); clear h; intro a w h
  exact ⟨i + 1, ⟨((dg n).getD i 0 + (dg m).getD i 0 + k) / 10000, Z ++ [((dg n).getD i 0 + (dg m).getD i 0 + k) % 10000], ad38, c38, o38, oo, by omega, fun hx => by rw [Gu (l := dg n) oo, Gu (l := dg m) oo]; omega, by rw [List.length_append, hl]; rfl, hw.snoc (Nat.mod_lt _ dd), Zwq hl hv, hG38, by exact h.sub sA⟩, oo⟩
theorem Ztd (ad1 ad2 : Option Addr) (c1 c2 : Nat) (n m : Nat) (h1 : (dg n).length ≤ 1000000000000) (h2 : (dg m).length ≤ 1000000000000) (hle : m ≤ n) :
  Ctr Tryz.prog 177 [.slice ad1 (dg n).length c1, .slice ad2 (dg m).length c2] [Row ad1 (List.map Zv (dg n)), Row ad2 (List.map Zv (dg m))] (Zn9 (n - m)) := by
 refine fn_intro func177 rfl ntmps177 nb ?_
 intro S w0 a hS h
 refine gC h (zS (za rfl (zn (zS (za rfl (zn (zS (za rfl (zn (zs (zS (za rfl (zn (zb ?_)))))))))))))); clear h; intro a w h
 refine Zf (fun (i : Nat) a w => ∃ k Z ad c o, i ≤ (dg n).length ∧ k ≤ 1 ∧ Z.length = i ∧ Dd Z ∧ Qs Z + m + 10000 ^ i * Qs ((dg n).drop i) = n + 10000 ^ i * (k + Qs ((dg m).drop i)) ∧ GrowO 1 3 (.slice ad Z.length c) Z.length (List.map Zv Z) o ∧ St 35 S w0 [(0, .slice ad1 ((dg n).length) c1), (1, .slice ad2 ((dg m).length) c2), (5, .slice ad Z.length c), (6, nI k), (7, nI i)] (o ++ []) [Row ad1 (List.map Zv (dg n)), Row ad2 (List.map Zv (dg m))] a w) (fun i => (dg n).length - i) (0) (⟨0, [], none, 0, [], Nat.zero_le _, oo, rfl, (fun x hx => by cases hx), by simp [Qs, Ym, Nat.add_comm], GrowO.nil _ _, by exact h.sub sA⟩) ?_; clear h
 rintro i a w ⟨k, Z, ad, c, o, hi, hk, hl, hw, hv, hG, h⟩
 have e1 := dlt n i
 have e2 := dlt m i
 refine gC h (zs (zS (zm rfl (zm rfl (zp (.builtin [_] rfl (Zz _ _ _)) (zp (.lss rfl rfl) (zn ?_))))))); clear h; intro a w h
 refine cW ?_
 refine Zb h rfl (fun hc12 => ?_) (fun hc12 => ?_)
 ·
  skip
  have hrun : i < (dg n).length := dT hc12
  obtain ⟨B_ad, O_ad, rfl⟩ := h.row_addr (ad := ad1) (M := List.map Zv (dg n)) mm nF
  refine gC h (zk (zs (zb (zs (yD Za [0, 1, 2, 3, 4, 5, 8, 6, 7, 9, 10] (Zd kk) (ym rfl rfl (ym rfl rfl (yp rfl (.indexAddr rfl rfl (Zf2 _ _ _ _ _ oo)) ?_)))))))); clear h
  refine Zm rfl kk rfl mm (by rw [List.length_map]; omega) isAgg3 sizeOf3 (Qa (enc := Zv) (l := (dg n)) 0 oo) (.inr rfl) dd ?_
  refine ym rfl rfl (ym rfl rfl (ym rfl rfl (yw [_, _] rfl rfl call179 (Qc6 _ _ (dg m) (i)) (yp rfl (.sub rfl rfl) (yp rfl (.sub rfl rfl) (yp rfl (.assign rfl) (yn (zS (za rfl (zn (zs (zS (zm rfl (zp (.lss rfl rfl) (zn ?_))))))))))))))); intro a w h
  refine cW ?_
  refine Zb h rfl (fun hc26 => ?_) (fun hc26 => ?_)
  ·
   skip
   have hneg := of_decide_eq_true hc26
   obtain ⟨d, hd⟩ : ∃ d : Nat, d + (dg m).getD i 0 + k = (dg n).getD i 0 + 10000 * 1 := ⟨(dg n).getD i 0 + 10000 - (dg m).getD i 0 - k, oo⟩
   have hd1 : d < 10000 := oo
   refine gC h (zS (zm rfl (zp (.pO d (.add rfl rfl)) (za rfl (zn (zr (za rfl (zn (zr (zm rfl (zp (Pure1.cast (v' := .int .i64 ((d : Nat) : Int)) (.move rfl) (by first | rfl | (show Value.int _ _ = Value.int _ _; congr 1; omega))) (zB [(_, _)] rfl (Zee _) fun b31 => ?_)))))))))))); clear h; intro a w h
   refine Zi (Gd (σr := []) h rfl rfl (List.Perm.trans (List.Perm.refl _) (List.Perm.cons _ (List.Perm.refl _))) hG runUnderlying52 runUnderlying52 typeInfo3 sizeOf3 zeroValue3 rfl dd dd rfl rfl dd (by show 8 * (2 * ((Z).length + 1) + 192) ≤ 281474976710656; omega) dd ?_); clear h
   intro v32 o32 a w hG32 h
   obtain ⟨ad32, c32, rfl⟩ := hG32.is
   have hLn32 : (Z).length + 1 = (Z ++ [d]).length := lA
   rw [hLn32] at h hG32
   replace hG32 : GrowO 1 3 (.slice ad32 (Z ++ [d]).length c32) (Z ++ [d]).length (List.map Zv (Z ++ [d])) o32 := by rw [List.map_append]; exact hG32
   refine gL h (za rfl (zn (zr (zm rfl (zp (.pN (i + 1) (.add rfl rfl)) (za rfl (zn ?_))))))); clear h; intro a w h
   exact ⟨i + 1, ⟨1, Z ++ [d], ad32, c32, o32, oo, by omega, by rw [List.length_append, hl]; rfl, hw.snoc hd1, Zmx hl hd hv, hG32, by exact h.sub sA⟩, oo⟩
  ·
   skip
   have hneg := of_decide_eq_false hc26
   obtain ⟨d, hd⟩ : ∃ d : Nat, d + (dg m).getD i 0 + k = (dg n).getD i 0 + 10000 * 0 := ⟨(dg n).getD i 0 - (dg m).getD i 0 - k, oo⟩
   have hd1 : d < 10000 := oo
   refine gC h (zk (zr (zm rfl (zp (Pure1.cast (v' := .int .i64 ((d : Nat) : Int)) (.move rfl) (by first | rfl | (show Value.int _ _ = Value.int _ _; congr 1; omega))) (zB [(_, _)] rfl (Zee _) fun b31 => ?_))))); clear h; intro a w h
   refine Zi (Gd (σr := []) h rfl rfl (List.Perm.trans (List.Perm.refl _) (List.Perm.cons _ (List.Perm.refl _))) hG runUnderlying52 runUnderlying52 typeInfo3 sizeOf3 zeroValue3 rfl dd dd rfl rfl dd (by show 8 * (2 * ((Z).length + 1) + 192) ≤ 281474976710656; omega) dd ?_); clear h
   intro v32 o32 a w hG32 h
   obtain ⟨ad32, c32, rfl⟩ := hG32.is
   have hLn32 : (Z).length + 1 = (Z ++ [d]).length := lA
   rw [hLn32] at h hG32
   replace hG32 : GrowO 1 3 (.slice ad32 (Z ++ [d]).length c32) (Z ++ [d]).length (List.map Zv (Z ++ [d])) o32 := by rw [List.map_append]; exact hG32
   refine gL h (za rfl (zn (zr (zm rfl (zp (.pN (i + 1) (.add rfl rfl)) (za rfl (zn ?_))))))); clear h; intro a w h
   exact ⟨i + 1, ⟨0, Z ++ [d], ad32, c32, o32, oo, by omega, by rw [List.length_append, hl]; rfl, hw.snoc hd1, Zmx hl hd hv, hG32, by exact h.sub sA⟩, oo⟩
 ·
  skip
  have hna : i = (dg n).length := dF hc12
  refine gC h (ze (zS (zm rfl ?_))); clear h; intro a w h
  replace h := h.shareO' hS hG
  have hZ : Qs Z = n - m := by rw [hna, drop_zero (Nat.le_refl _), drop_zero (Kl hle)] at hv; exact Qcm hw (hl.trans hna) hle (by simpa using hv)
  refine gL h (zf [_] rfl call180 (Zoc ad c Z hw hG.le oo) ?_); rintro v34 Ψ34 ht
  refine za rfl (zn (zt ?_)); intro a w h
  exact Qg h (Zc h rfl (.tmp rfl)) (trimmed ht hZ hw hG.le) (fun R hR => List.mem_append_left _ hR)
theorem Zrs (n : Nat) : List.map Zv (List.replicate n 0) = Zdt n (Value.cells (.int .i64 0)).toList := by
 rw [List.map_replicate]; unfold Zdt
 induction n with
 | zero => rfl
 | succ n ih => rw [List.replicate_succ, List.replicate_succ, List.flatten_cons, ← ih]; rfl
theorem Zof (ad1 ad2 : Option Addr) (c1 c2 : Nat) (n m : Nat) (h1 : (dg n).length ≤ 1000000000000) (h2 : (dg m).length ≤ 1000000000000) :
  Ctr Tryz.prog 131 [.slice ad1 (dg n).length c1, .slice ad2 (dg m).length c2] [Row ad1 (List.map Zv (dg n)), Row ad2 (List.map Zv (dg m))] (Zn9 (n * m)) := by
 refine fn_intro func131 rfl ntmps131 nb ?_
 intro S w0 a hS h
 refine gC h (zS (za rfl (zn (zS (zm rfl (zp (.builtin [_] rfl (Zz _ _ _)) (zm rfl (zp (.builtin [_] rfl (Zz _ _ _)) (zp (.pN (((dg n).length) + ((dg m).length)) (.add rfl rfl)) ?_))))))))); clear h; intro a w h
 refine Zi (Xn h rfl rfl runUnderlying52 typeInfo3 sizeOf3 zeroValue3 rfl dd oo (by show 8 * (((dg n).length) + ((dg m).length)) ≤ 281474976710656; omega) oo dd ?_); clear h; intro b15 a w h; replace h := h.same rfl (by rw [← Zrs]) rfl
 refine gL h (za rfl (zn (zs (zS (za rfl (zn (zb ?_))))))); clear h; intro a w h
 refine Zf (fun (i : Nat) a w => i ≤ (dg n).length ∧ ∃ Z, (Z.length = (dg n).length + (dg m).length ∧ Dd Z ∧ Qs Z = Qs ((dg n).take i) * m) ∧ St 60 S w0 [(0, .slice ad1 ((dg n).length) c1), (1, .slice ad2 ((dg m).length) c2), (5, .slice (some ⟨b15, 0, none⟩) (((dg n).length) + ((dg m).length)) (((dg n).length) + ((dg m).length))), (6, nI i)] [(b15, .cells (List.map Zv (Z)).toArray 3 (0, 0))] [Row ad1 (List.map Zv (dg n)), Row ad2 (List.map Zv (dg m))] a w) (fun i => (dg n).length - i) 0 (⟨Nat.zero_le _, List.replicate _ 0, ⟨by rw [List.length_replicate], Dd.zeros _, by rw [Zgj _ (fun x hx => List.eq_of_mem_replicate hx)]; simp [Qs]⟩, by exact (h).sub sA⟩) ?_; clear h
 rintro i a w ⟨hi_i, Z, ⟨hl, hw, hv⟩, h⟩
 refine gC h (zs (zS (zm rfl (zm rfl (zp (.builtin [_] rfl (Zz _ _ _)) (zp (.lss rfl rfl) (zn ?_))))))); clear h; intro a w h
 refine cW ?_
 refine Zb h rfl (fun hc19 => ?_) (fun hc19 => ?_)
 ·
  skip
  have hlt_i : i < (dg n).length := dT hc19
  obtain ⟨B_ad1, O_ad1, rfl⟩ := h.row_addr (ad := ad1) (M := List.map Zv (dg n)) mm nF
  refine gC h (zk (zs (zb (zS (za rfl (zn (zS (za rfl (zn (zb ?_)))))))))); clear h; intro a w h
  refine Zf (fun (k : Nat) a w => ∃ c Z, (k ≤ (dg m).length + 1 ∧ c < 10000 ∧ (k = (dg m).length + 1 → c = 0) ∧ (k ≤ (dg m).length → Z.getD (i + (dg m).length) 0 = 0) ∧ Z.length = (dg n).length + (dg m).length ∧ Dd Z ∧ Qs Z + 10000 ^ (i + k) * c + 10000 ^ (i + k) * ((dg n).getD i 0 * Qs ((dg m).drop k)) = Qs ((dg n).take i) * m + 10000 ^ i * ((dg n).getD i 0 * m)) ∧ St 60 S w0 [(0, .slice (some ⟨B_ad1, O_ad1, none⟩) ((dg n).length) c1), (1, .slice ad2 ((dg m).length) c2), (5, .slice (some ⟨b15, 0, none⟩) (((dg n).length) + ((dg m).length)) (((dg n).length) + ((dg m).length))), (6, nI i), (7, nI c), (8, nI k)] [(b15, .cells (List.map Zv (Z)).toArray 3 (0, 0))] [Row (some ⟨B_ad1, O_ad1, none⟩) (List.map Zv (dg n)), Row ad2 (List.map Zv (dg m))] a w) (fun k => (dg m).length + 1 - k) (0) (⟨0, Z, ⟨Nat.zero_le _, by decide, fun _ => rfl, fun _ => Zjh (Dd.dg n) (Dd.dg m) (by rw [Ym]; exact hv) (Nat.le_refl _), hl, hw, by rw [hv]; simp [Ym]⟩, by exact h.sub sA⟩) ?_; clear h
  rintro k a w ⟨c, Z, ⟨hk, hc, hkc, hz, hl, hw, hv⟩, h⟩
  have e1 := dlt n i
  have e2 := dlt m k
  have hab : (dg n).getD i 0 * (dg m).getD k 0 ≤ 9999 * 9999 := Nat.mul_le_mul oo oo
  have e3 := hw.getD (i + k)
  refine gC h (zs (zS (zm rfl (zm rfl (zp (.builtin [_] rfl (Zz _ _ _)) (zp (.lss rfl rfl) ?_)))))); clear h; intro a w h
  refine Zg h (fun hc25 h => ?_) (fun hc25 h => ?_)
  focus
   have hrun : k ≤ (dg m).length := dT hc25
   refine gL h (zm rfl (zo 26 rfl rfl rfl (zo 26 rfl rfl rfl (zp (.pickT rfl rfl) (zn ?_))))); clear h; intro a w h
  rotate_left
  focus
   have hnb : (dg m).length ≤ k := dF hc25
   refine gL h (zm rfl (zq 26 rfl rfl (.move rfl) (zq 26 rfl rfl (.gtr rfl rfl) ?_))); clear h; intro a w h
   refine Zg h (fun hc28 h => ?_) (fun hc28 h => ?_)
   rotate_left
   ·
    skip
    have hk0 : c = 0 := dF hc28
    refine gL h (zp (.pickF rfl rfl) (zn ?_)); clear h; intro a w h
    refine cW ?_
    refine Zj h rfl ?_
    refine gC h (ze (zr (zm rfl (zp (.pN (i + 1) (.add rfl rfl)) (za rfl (zn ?_)))))); clear h; intro a w h
    exact ⟨i + 1, ⟨oo, Z, ⟨hl, hw, by rw [hk0, drop_zero hnb] at hv; rw [Zif _ _ hlt_i, Nat.add_mul, Nat.mul_assoc, ← hv]; simp⟩, by exact (h.factsSub (by simp)).sub sA⟩, oo⟩
   have hrun : k ≤ (dg m).length := dT hc28
   refine gL h (zp (.pickF rfl rfl) (zn ?_)); clear h; intro a w h
  all_goals
   refine cW ?_
   refine Zq h rfl ?_
   refine gC h (zk (zs (zb (zs (yD Za [0, 1, 2, 3, 4, 5, 6, 7, 8, 9, 10, 11, 15, 12, 13, 14, 16, 17] (Zd kk) (ym rfl rfl (ym rfl rfl (ym rfl rfl (yp rfl (.pN (i + k) (.add rfl rfl)) (yp rfl (.indexAddr rfl rfl (Zf2 _ _ _ _ _ oo)) (yd rfl rfl mm isAgg3 sizeOf3 ((congrArg _ (Nat.zero_add _)).trans (Qa (enc := Zv) (l := Z) 0 oo)) ?_))))))))))); clear h
   refine ym rfl rfl (ym rfl rfl (yp rfl (.indexAddr rfl rfl (Zf2 _ _ _ _ _ oo)) ?_))
   refine Zm rfl kk rfl mm (by rw [List.length_map]; omega) isAgg3 sizeOf3 (Qa (enc := Zv) (l := (dg n)) 0 oo) (.inr rfl) dd ?_
   refine ym rfl rfl (ym rfl rfl (ym rfl rfl (yw [_, _] rfl rfl call179 (Qc6 _ _ (dg m) (k)) (yp rfl (.pN (((dg n).getD i 0) * ((dg m).getD k 0)) (.mul rfl rfl)) (yp rfl (.pN ((Z.getD (i + k) 0) + (((dg n).getD i 0) * ((dg m).getD k 0))) (.add rfl rfl)) (yp rfl (.pO (c + ((dg n).getD i 0 * (dg m).getD k 0 + Z.getD (i + k) 0)) (Pure1.cast (v' := (.int .i64 ((((Z.getD (i + k) 0) + (((dg n).getD i 0) * ((dg m).getD k 0))) + c : Nat) : Int))) (.add rfl rfl) (by show Value.int _ _ = Value.int _ _; congr 1))) (yp rfl (.assign rfl) (yn (zS (zm rfl (zm rfl (zm rfl (zp (.pN (i + k) (.add rfl rfl)) (zm rfl (zp (Pure1.cast (v' := .int .i64 (((c + ((dg n).getD i 0 * (dg m).getD k 0 + Z.getD (i + k) 0)) % 10000 : Nat) : Int)) (.binOp rfl rfl (fun _ => Vg _ _ _ _ _ dd)) (by rw [show (10000 : Int) = ((10000 : Nat) : Int) from rfl, Yg])) (zp (.indexAddr rfl rfl (Zf2 _ _ _ _ _ oo)) (zt' rfl rfl ((congrArg (fun z => Jd _ z _) (Nat.zero_add _)).trans (Vo (enc := Zv) Z (i + k) ((c + ((dg n).getD i 0 * (dg m).getD k 0 + Z.getD (i + k) 0)) % 10000))) uu sizeOf3 rfl (by simp; omega) rfl ?_)))))))))))))))))
   refine zn (zr (zm rfl (zp (Pure1.cast (v' := .int .i64 (((c + ((dg n).getD i 0 * (dg m).getD k 0 + Z.getD (i + k) 0)) / 10000 : Nat) : Int)) (.binOp rfl rfl (fun _ => Vp _ _ _ _ _ dd)) (by rw [show (10000 : Int) = ((10000 : Nat) : Int) from rfl, Yh, wrap_i64 _ oo oo])) (za rfl (zn (zr (zm rfl (zp (.pN (k + 1) (.add rfl rfl)) (za rfl (zn ?_)))))))))); intro a w h
   exact ⟨k + 1, ⟨(c + ((dg n).getD i 0 * (dg m).getD k 0 + Z.getD (i + k) 0)) / 10000, Z.set (i + k) ((c + ((dg n).getD i 0 * (dg m).getD k 0 + Z.getD (i + k) 0)) % 10000), ⟨oo, oo, (by intro hx; have hkl : k = (dg m).length := oo; rw [Gu (l := dg m) oo, hkl, hz oo]; omega), (by intro hx; rw [Zf5 oo]; exact hz oo), by rw [List.length_set]; exact hl, hw.set _ _ (Nat.mod_lt _ dd), Zyq oo hv⟩, by exact h.sub sA⟩, oo⟩
 ·
  skip
  have heq_i : (dg n).length = i := dF hc19
  subst heq_i
  refine gC h (ze (zS (zm rfl ?_))); clear h; intro a w h
  rw [← hl] at h
  replace h := h.shareAll hS (List.map Zv Z) rfl
  have hZ : Qs Z = n * m := by rw [List.take_length, Ym] at hv; exact hv
  refine gL h (zf [_] rfl call180 (Zoc (some ⟨b15, 0, none⟩) Z.length Z hw (Nat.le_refl _) oo) ?_); rintro v59 Ψ59 ht
  refine za rfl (zn (zt ?_)); intro a w h
  exact Qg h (Zc h rfl (.tmp rfl)) (trimmed ht hZ hw (Nat.le_refl _)) (fun R hR => List.mem_append_left _ hR)
theorem Zz4 (ad1 ad2 : Option Addr) (c1 c2 : Nat) (n m : Nat) (h1 : (dg n).length ≤ 1000000000000) (h2 : (dg m).length ≤ 1000000000000) :
  Vj Tryz.prog 178 [.slice ad1 (dg n).length c1, .slice ad2 (dg m).length c2] [Row ad1 (List.map Zv (dg n)), Row ad2 (List.map Zv (dg m))] (.int .i64 (Zjo n m)) := by
 refine fn_intro func178 rfl ntmps178 nb ?_
 intro S w0 a hS h
 refine gC h (zS (za rfl (zn (zs (zS (zm rfl (zp (.builtin [_] rfl (Zz _ _ _)) (zm rfl (zp (.builtin [_] rfl (Zz _ _ _)) (zp (.lss rfl rfl) (zn ?_))))))))))); clear h; intro a w h
 refine cW ?_
 refine Zb h rfl (fun hc10 => ?_) (fun hc10 => ?_)
 ·
  skip
  have hl1 : (dg n).length < (dg m).length := dT hc10
  refine gC h (zS (za rfl (zn (zt ?_)))); clear h; intro a w h
  refine Jm h (Zc h rfl (.tmp rfl)) ?_
  unfold Zjo; rw [if_pos (Zjj hl1)]
 ·
  skip
  have hl1 : (dg m).length ≤ (dg n).length := dF hc10
  refine gC h (zk (zs (zS (zm rfl (zp (.builtin [_] rfl (Zz _ _ _)) (zm rfl (zp (.builtin [_] rfl (Zz _ _ _)) (zp (.gtr rfl rfl) (zn ?_))))))))); clear h; intro a w h
  refine cW ?_
  refine Zb h rfl (fun hc15 => ?_) (fun hc15 => ?_)
  ·
   skip
   have hl2 : (dg m).length < (dg n).length := dT hc15
   refine gC h (zS (za rfl (zn (zt ?_)))); clear h; intro a w h
   refine Jm h (Zc h rfl (.tmp rfl)) ?_
   have h3 := Zjj hl2; unfold Zjo; rw [if_neg oo, if_pos h3]
  ·
   skip
   have hl : (dg n).length = (dg m).length := dF hc15
   refine gC h (zk (zs (zS (zm rfl (zp (.builtin [_] rfl (Zz _ _ _)) (zp (.sub rfl rfl) (za rfl (zn (zb ?_))))))))); clear h; intro a w h
   refine Zf (fun (k : Nat) a w => (k ≤ (dg n).length ∧ (dg n).drop k = (dg m).drop k) ∧ St 41 S w0 [(0, .slice ad1 ((dg n).length) c1), (1, .slice ad2 ((dg m).length) c2), (5, .int .i64 (((k : Nat) : Int) - 1)), (18, .int .i64 (((((dg n).length : Nat) : Int)) - 1))] [] [Row ad1 (List.map Zv (dg n)), Row ad2 (List.map Zv (dg m))] a w) (fun k => k) ((dg n).length) (⟨⟨Nat.le_refl _, by rw [List.drop_eq_nil_of_le (Nat.le_refl _), List.drop_eq_nil_of_le (Nat.le_of_eq hl.symm)]⟩, by exact h.sub sA⟩) ?_; clear h
   rintro k a w ⟨⟨hN, hd⟩, h⟩
   refine gC h (zs (zS (zm rfl (zp (.geq rfl rfl) (zn ?_))))); clear h; intro a w h
   refine cW ?_
   refine Zb h rfl (fun hc20 => ?_) (fun hc20 => ?_)
   ·
    skip
    have hk : 1 ≤ k := dT hc20
    obtain ⟨B_ad1, O_ad1, rfl⟩ := h.row_addr (ad := ad1) (M := List.map Zv (dg n)) mm nF
    obtain ⟨B_ad2, O_ad2, rfl⟩ := h.row_addr (ad := ad2) (M := List.map Zv (dg m)) mm nF
    refine gC h (zk (zs (zb (zs (zs (yD Za [0, 1, 2, 3, 4, 5, 6, 7, 8] (Zd kk) (ym rfl rfl (yp rfl (.pO (k - 1) (.move rfl)) (yp rfl (.indexAddr rfl rfl (Zf2 _ _ _ _ _ oo)) ?_))))))))); clear h
    refine Zm rfl kk rfl mm (by rw [List.length_map]; omega) isAgg3 sizeOf3 (Qa (enc := Zv) (l := (dg n)) 0 oo) (.inr rfl) dd ?_
    refine ym rfl rfl (yp rfl (.pO (k - 1) (.move rfl)) (yp rfl (.indexAddr rfl rfl (Zf2 _ _ _ _ _ oo)) ?_))
    refine Zm rfl kk rfl mm (by rw [List.length_map]; omega) isAgg3 sizeOf3 (Qa (enc := Zv) (l := (dg m)) 0 oo) (.inr rfl) dd ?_
    refine yp rfl (.lss rfl rfl) (yn ?_); intro a w h
    refine cW ?_
    refine Zb h rfl (fun hc31 => ?_) (fun hc31 => ?_)
    ·
     skip
     have hlt : (dg n).getD (k - 1) 0 < (dg m).getD (k - 1) 0 := dT hc31
     refine gC h (zS (za rfl (zn (zt ?_)))); clear h; intro a w h
     refine Jm h (Zc h rfl (.tmp rfl)) ?_
     have h3 := Zqx (Dd.dg n) (Dd.dg m) hlt (by rw [Nat.sub_add_cancel hk]; exact hd)
     rw [Ym, Ym] at h3
     unfold Zjo; rw [if_pos h3]
    ·
     skip
     have hge : (dg m).getD (k - 1) 0 ≤ (dg n).getD (k - 1) 0 := dF hc31
     refine gC h (zk (zs (yD Za [0, 1, 2, 3, 4, 5, 6, 7, 8] (Zd kk) (ym rfl rfl (yp rfl (.pO (k - 1) (.move rfl)) (yp rfl (.indexAddr rfl rfl (Zf2 _ _ _ _ _ oo)) ?_)))))); clear h
     refine Zm rfl kk rfl mm (by rw [List.length_map]; omega) isAgg3 sizeOf3 (Qa (enc := Zv) (l := (dg n)) 0 oo) (.inr rfl) dd ?_
     refine ym rfl rfl (yp rfl (.pO (k - 1) (.move rfl)) (yp rfl (.indexAddr rfl rfl (Zf2 _ _ _ _ _ oo)) ?_))
     refine Zm rfl kk rfl mm (by rw [List.length_map]; omega) isAgg3 sizeOf3 (Qa (enc := Zv) (l := (dg m)) 0 oo) (.inr rfl) dd ?_
     refine yp rfl (.gtr rfl rfl) (yn ?_); intro a w h
     refine cW ?_
     refine Zb h rfl (fun hc40 => ?_) (fun hc40 => ?_)
     ·
      skip
      have hlt : (dg m).getD (k - 1) 0 < (dg n).getD (k - 1) 0 := dT hc40
      refine gC h (zS (za rfl (zn (zt ?_)))); clear h; intro a w h
      refine Jm h (Zc h rfl (.tmp rfl)) ?_
      have h3 := Zqx (Dd.dg m) (Dd.dg n) hlt (by rw [Nat.sub_add_cancel hk]; exact hd.symm)
      rw [Ym, Ym] at h3
      unfold Zjo; rw [if_neg oo, if_pos h3]
     ·
      skip
      have he : (dg n).getD (k - 1) 0 = (dg m).getD (k - 1) 0 := dF hc40
      refine gC h (zk (zr (zm rfl (zp (Pure1.cast (v' := .int .i64 (((k - 1 : Nat) : Int) - 1)) (.sub rfl rfl) (by show Value.int _ _ = Value.int _ _; congr 1; omega)) (za rfl (zn ?_)))))); clear h; intro a w h
      exact ⟨k - 1, ⟨⟨oo, drop_step hl oo he (by rw [Nat.sub_add_cancel hk]; exact hd)⟩, by exact (h.factsSub (by simp)).sub sA⟩, oo⟩
   ·
    skip
    have hk : k = 0 := dF hc20
    refine gC h (ze (zS (za rfl (zn (zt ?_))))); clear h; intro a w h
    refine Jm h (Zc h rfl (.tmp rfl)) ?_
    subst hk
    have e : n = m := by rw [← Ym n, ← Ym m]; simp at hd; rw [hd]
    unfold Zjo; rw [if_neg oo, if_neg oo]
theorem Zkz (n f j : Nat) (hlen : (dg n).length ≤ f + 4) (hj : f ≤ j) : Qs ((dg n).drop j) < 10000000000000000 := by
 have h1 := Zc6 ((Dd.dg n).drop j)
 rw [List.length_drop] at h1
 have h2 : 10000 ^ ((dg n).length - j) ≤ 10000 ^ 4 := Nat.pow_le_pow_right dd oo
 exact Nat.lt_of_lt_of_le h1 h2
theorem Zz2 (ad1 : Option Addr) (c1 : Nat) (n f : Nat) (h1 : (dg n).length ≤ 1000000000000) (hlen : (dg n).length ≤ f + 4) (hf : f ≤ 1000000000000) :
  Vj Tryz.prog 206 [.slice ad1 (dg n).length c1, .int .i64 ((f : Nat) : Int)] [Row ad1 (List.map Zv (dg n))] (.int .i64 ((Qs ((dg n).drop f) : Nat) : Int)) := by
 refine fn_intro func206 rfl ntmps206 nb ?_
 intro S w0 a hS h
 refine gC h (zS (za rfl (zn (zS (za rfl (zn (zs (zS (zm rfl (zp (.builtin [_] rfl (Zz _ _ _)) (zp (.sub rfl rfl) (za rfl (zn (zb ?_)))))))))))))); clear h; intro a w h
 have hz : Qs ((dg n).drop (dg n).length) = 0 := drop_zero (Nat.le_refl _)
 replace h := h.sub (L' := [(0, .slice ad1 (dg n).length c1), (1, nI f), (5, nI (Qs ((dg n).drop (dg n).length))), (6, .int .i64 (((dg n).length : Nat) - 1 : Int))]) (Zen ⟨rfl, rfl, by rw [hz]; rfl, rfl, trivial⟩)
 refine Zf (fun (k : Nat) a w => (k ≤ (dg n).length ∧ (f ≤ k ∨ k = (dg n).length)) ∧ St 23 S w0 [(0, .slice ad1 ((dg n).length) c1), (1, nI f), (5, nI (Qs ((dg n).drop k))), (6, .int .i64 (((k : Nat) : Int) - 1))] [] [Row ad1 (List.map Zv (dg n))] a w) (fun k => k) ((dg n).length) (⟨⟨Nat.le_refl _, .inr rfl⟩, by exact h.sub sA⟩) ?_; clear h
 rintro k a w ⟨⟨hN, hd⟩, h⟩
 refine gC h (zs (zS (zm rfl (zm rfl (zp (.geq rfl rfl) (zn ?_)))))); clear h; intro a w h
 refine cW ?_
 refine Zb h rfl (fun hc12 => ?_) (fun hc12 => ?_)
 ·
  skip
  have hk : f + 1 ≤ k := dT hc12
  obtain ⟨B_ad1, O_ad1, rfl⟩ := h.row_addr (ad := ad1) (M := List.map Zv (dg n)) mm nF
  have e1 := dlt n (k - 1)
  have e2 := Zkz n f (k - 1) hlen oo
  have e3 : Qs ((dg n).drop (k - 1)) = (dg n).getD (k - 1) 0 + 10000 * Qs ((dg n).drop k) := by rw [Gq, Nat.sub_add_cancel oo]
  refine gC h (zk (zs (zb (zr (zm rfl (zp (.pN (10000 * (Qs ((dg n).drop k))) (.mul rfl rfl)) (zm rfl (zp (.pO (k - 1) (.move rfl)) (zp (.indexAddr rfl rfl (Zf2 _ _ _ _ _ oo)) (zD rfl mm (by rw [List.length_map]; omega) isAgg3 sizeOf3 (Qa (enc := Zv) (l := (dg n)) 0 oo) (.inr rfl) ?_))))))))))
  refine zp (.pO (Qs ((dg n).drop (k - 1))) (Pure1.cast (v' := (.int .i64 (((10000 * (Qs ((dg n).drop k))) + ((dg n).getD (k - 1) 0) : Nat) : Int))) (.add rfl rfl) (by show Value.int _ _ = Value.int _ _; congr 1))) (za rfl (zn (zr (zm rfl (zp (Pure1.cast (v' := .int .i64 (((k - 1 : Nat) : Int) - 1)) (.sub rfl rfl) (by show Value.int _ _ = Value.int _ _; congr 1; omega)) (za rfl (zn ?_))))))); intro a w h
  exact ⟨k - 1, ⟨⟨oo, .inl oo⟩, by exact (h.factsSub (by simp)).sub sA⟩, oo⟩
 ·
  skip
  have hk : k ≤ f := dF hc12
  refine gC h (ze (zS (zm rfl (za rfl (zn (zt ?_)))))); clear h; intro a w h
  refine Jm h (Zc h rfl (.tmp rfl)) ?_
  have e : Qs ((dg n).drop f) = Qs ((dg n).drop k) := by
   rcases hd with hd | hd
   · rw [show k = f by omega]
   · rw [drop_zero oo, drop_zero oo]
  rw [e]
end
section
theorem Qc0 (w : World) : (Instr.buildSlice 52 0 [].toArray).run Tryz.prog w = .ok (.slice (some ⟨w.heap.size, 0, none⟩) 0 0) (w.alloc (.cells #[] 3 (0, 0))) := by
 simp [go_sem]
theorem slo_52 (b off n c lo : Nat) (h1 : lo ≤ n) (w : World) : (Instr.sliceAt 52 (.slice (some ⟨b, off, none⟩) n c) (some (.int .i64 (lo : Int))) none none).run Tryz.prog w = .ok (.slice (some ⟨b, if c = lo then off else off + lo * 1, none⟩) (n - lo) (c - lo)) w := Ze7 runUnderlying52 sizeOf3 b off n c lo h1 w
theorem Qg3 (x : Int) (w : World) : (Go.convert 3 36 (.int .i64 x)).run Tryz.prog w = .ok (.int .u64 (IntKind.u64.wrap x)) w := by
 simp [go_sem]
theorem Zss (x : Int) (h0 : IntKind.u64.wrap x = x) (w : World) : (Go.convert 3 36 (.int .i64 x)).run Tryz.prog w = .ok (.int .u64 x) w := by
 rw [Qg3, h0]
theorem dg5 (n : Nat) (h : n < 18446744073709551616) : (dg n).length ≤ 5 := Zbm (Nat.lt_trans h dd)
theorem Zls : ∀ l : List Nat, (List.map Zv l).all flat = true
 | [] => rfl
 | x :: l => by rw [List.map_cons, List.all_cons, Zls l]; rfl
theorem Zy2 {x y : Nat} : Zjo x y ≤ 0 ↔ x ≤ y := by
 unfold Zjo
 split
 · omega
 · split <;> omega
def Qej (p q : Nat) (v : Value) (Ψ : List Zy) : Prop := ∃ ad c ad' c', v = .tuple #[.slice ad (dg p).length c, .slice ad' (dg q).length c'] ∧ (dg p).length ≤ c ∧ (dg q).length ≤ c' ∧ Ψ = [Row ad (List.map Zv (dg p)), Row ad' (List.map Zv (dg q))]
theorem Zz3 (ad1 ad2 : Option Addr) (c1 c2 : Nat) (n m : Nat) (h1 : (dg n).length ≤ 300000000000) (h2 : (dg m).length ≤ 300000000000) (hm : m ≠ 0) (hc1 : (dg n).length ≤ c1) :
  Ctr Tryz.prog 176 [.slice ad1 (dg n).length c1, .slice ad2 (dg m).length c2] [Row ad1 (List.map Zv (dg n)), Row ad2 (List.map Zv (dg m))] (Qej (n / m) (n % m)) := by
 have hlb : 0 < (dg m).length := List.length_pos_iff.2 (fun e => hm (Zsm.1 e))
 have hm0 : 0 < m := Nat.pos_of_ne_zero hm
 refine fn_intro func176 rfl ntmps176 nb ?_
 intro S w0 a hS h
 refine gC h (zS (za rfl (za rfl (zn (zs (zS (zm rfl (zm rfl (zw [_, _] rfl call178 (Zz4 _ _ _ _ n m oo oo) (zp (.lss rfl rfl) (zn ?_))))))))))); clear h; intro a w h
 refine cW ?_
 refine Zb h rfl (fun hc18 => ?_) (fun hc18 => ?_)
 ·
  skip
  have hlt : n < m := by
   have h3 := of_decide_eq_true hc18
   unfold Zjo at h3; split at h3
   · assumption
   · split at h3 <;> omega
  refine gC h (zS (zm rfl (za rfl (za rfl (zn (zt ?_)))))); clear h; intro a w h
  have e1 : n / m = 0 := Nat.div_eq_of_lt hlt
  have e2 : n % m = n := Nat.mod_eq_of_lt hlt
  have e3 : Qej (n / m) (n % m) (.tuple #[.slice none 0 0, .slice ad1 (dg n).length c1]) [Row none [], Row ad1 (List.map Zv (dg n))] := by rw [e1, e2]; exact ⟨none, 0, ad1, c1, by rw [Js]; rfl, by rw [Js]; exact Nat.le_refl _, hc1, by rw [Js]; rfl⟩
  replace h := h.derive (R := Row none []) (fun X hX hne => absurd rfl hne)
  exact Qg h (Qv h rfl (.tmp rfl) (.tmp rfl)) e3 ss
 ·
  skip
  have hle : m ≤ n := by
   have h3 := of_decide_eq_false hc18
   unfold Zjo at h3; split at h3
   · omega
   · omega
  have hll := Kl hle
  obtain ⟨B_ad1, O_ad1, rfl⟩ := h.row_addr (ad := ad1) (M := List.map Zv (dg n)) mm nF
  refine gC h (zk (zS (zm rfl (zp (.builtin [_] rfl (Zz _ _ _)) (zp (.sub rfl rfl) (zp (.pO (((dg m).length - 3)) (.builtin [_, _] rfl (fun w ty cs => Qee _ _ w ty cs))) (za rfl (zn (zS (zm rfl (zm rfl (zw [_, _] rfl call206 (Zz2 _ _ m ((dg m).length - 3) oo oo oo) (za rfl (zn (zS (zm rfl (zp (.builtin [_] rfl (Zz _ _ _)) (zm rfl (zp (.builtin [_] rfl (Zz _ _ _)) (zp (Pure1.cast (v' := .int .i64 (((((dg n).length - (dg m).length) + 1 : Nat) : Int) - 1)) (.sub rfl rfl) (by show Value.int _ _ = Value.int _ _; congr 1; omega)) (za rfl (zn (zS (zm rfl (zp (.pO (((dg n).length - (dg m).length) + 1) (.add rfl rfl)) ?_))))))))))))))))))))))))); clear h; intro a w h
  refine Zi (Xn h rfl rfl runUnderlying52 typeInfo3 sizeOf3 zeroValue3 rfl dd (by exact Nat.le_refl _) (by show 8 * (((dg n).length - (dg m).length) + 1) ≤ 281474976710656; omega) oo dd ?_); clear h; intro b34 a w h; replace h := h.same rfl (by rw [← Zrs]) rfl
  refine gL h (za rfl (zn (zS (zB [] rfl (Qc0) fun b35 => zm rfl (zm rfl (zp (.pO (((dg n).length - (dg m).length) + 1) (.add rfl rfl)) (zp (.slice rfl (some _) none none rfl rfl rfl (slo_52 _ _ _ _ _ oo)) ?_))))))); clear h; intro a w h
  replace h := h.derive (R := Row (some ⟨B_ad1, if c1 = ((dg n).length - (dg m).length) + 1 then O_ad1 else O_ad1 + (((dg n).length - (dg m).length) + 1) * 1, none⟩) ((List.map Zv (dg n)).drop (((dg n).length - (dg m).length) + 1))) (fun X hX => row_drop (hX _ mm) (by rw [List.length_map]; exact hc1))
  rw [← List.map_drop, Zl2 n (((dg n).length - (dg m).length) + 1)] at h
  have hlr : (dg (n / 10000 ^ (((dg n).length - (dg m).length) + 1))).length = (dg n).length - (((dg n).length - (dg m).length) + 1) := by rw [← Zl2, List.length_drop]
  rw [← hlr] at h
  refine Zi (Zhf (b := b35) (xs := []) (ys := List.map Zv (dg (n / 10000 ^ (((dg n).length - (dg m).length) + 1)))) (ad2 := some ⟨B_ad1, if c1 = ((dg n).length - (dg m).length) + 1 then O_ad1 else O_ad1 + (((dg n).length - (dg m).length) + 1) * 1, none⟩) (k := 1) h rfl rfl mm rfl runUnderlying52 runUnderlying52 typeInfo3 sizeOf3 zeroValue3 rfl dd dd (by rw [List.length_map, Nat.mul_one]) (Zls _) (by show 8 * (2 * _ + 192) ≤ 281474976710656; omega) dd ?_); clear h; intro v40 o40 a w hG40 h
  obtain ⟨ad40, c40, rfl⟩ := hG40.is
  have hle40 := hG40.le
  replace h := h.shareO' hS hG40
  replace h := h.same (Φ' := Row ad40 (List.map Zv (dg (n / 10000 ^ (((dg n).length - (dg m).length) + 1)))) :: _) rfl rfl rfl
  have hr0 : n / 10000 ^ (((dg n).length - (dg m).length) + 1) < m := Zjj oo
  have hr1 : n / 10000 ^ (((dg n).length - (dg m).length) + 1) % m = n / 10000 ^ (((dg n).length - (dg m).length) + 1) := Nat.mod_eq_of_lt hr0
  rw [Nat.zero_add (dg (n / 10000 ^ (((dg n).length - (dg m).length) + 1))).length, ← hr1] at h
  rw [Nat.zero_add (dg (n / 10000 ^ (((dg n).length - (dg m).length) + 1))).length, ← hr1] at hle40
  refine gL h (za rfl (zn (zs (zb ?_)))); clear h; intro a w h
  refine Zf (fun (k : Nat) a w => ∃ Z ad c, (k ≤ ((dg n).length - (dg m).length) + 1 ∧ Z.length = ((dg n).length - (dg m).length) + 1 ∧ Dd Z ∧ Qs (Z.drop k) = n / 10000 ^ k / m ∧ (dg (n / 10000 ^ k % m)).length ≤ c) ∧ St 97 S w0 [(0, .slice (some ⟨B_ad1, O_ad1, none⟩) ((dg n).length) c1), (1, .slice ad2 ((dg m).length) c2), (6, nI ((dg m).length - 3)), (7, nI (Qs ((dg m).drop ((dg m).length - 3)))), (8, .int .i64 (((k : Nat) : Int) - 1)), (9, .slice (some ⟨b34, 0, none⟩) (((dg n).length - (dg m).length) + 1) (((dg n).length - (dg m).length) + 1)), (10, .slice ad ((dg (n / 10000 ^ k % m)).length) c)] [(b34, .cells (List.map Zv (Z)).toArray 3 (0, 0))] [Row (some ⟨B_ad1, O_ad1, none⟩) (List.map Zv (dg n)), Row ad2 (List.map Zv (dg m)), Row ad (List.map Zv (dg (n / 10000 ^ k % m)))] a w) (fun k => k) ((((dg n).length - (dg m).length) + 1)) (⟨List.replicate _ 0, ad40, c40, ⟨Nat.le_refl _, List.length_replicate, Dd.zeros _, by rw [List.drop_eq_nil_of_le (by rw [List.length_replicate]; exact Nat.le_refl _), Nat.div_eq_of_lt hr0]; rfl, hle40⟩, by exact (h.factsSub (by simp)).sub (Zen ⟨rfl, rfl, rfl, rfl, rfl, rfl, rfl, trivial⟩)⟩) ?_; clear h
  rintro k a w ⟨Z, ad, c, ⟨hK, hZl, hZw, hZv, hlc⟩, h⟩
  have hrl := Kl (Nat.le_of_lt (Nat.mod_lt (n / 10000 ^ k) hm0))
  refine gC h (zs (zS (zm rfl (zp (.geq rfl rfl) (zn ?_))))); clear h; intro a w h
  refine cW ?_
  refine Zb h rfl (fun hc42 => ?_) (fun hc42 => ?_)
  ·
   skip
   have hk : 1 ≤ k := dT hc42
   refine gC h (zk (zs (zb (zS (zm rfl (zp (.pO (k - 1) (.move rfl)) (zp (.indexAddr rfl rfl (Zf2 _ _ _ _ _ oo)) (zD rfl mm (by rw [List.length_map]; omega) isAgg3 sizeOf3 (Qa (enc := Zv) (l := (dg n)) 0 oo) (.inr rfl) ?_))))))))
   refine zB [(_, _)] rfl (Zee _) fun b49 => zm rfl ?_; intro a w h
   refine Zi (Zhf (b := b49) (xs := [Zv ((dg n).getD (k - 1) 0)]) (ys := List.map Zv (dg (n / 10000 ^ k % m))) (ad2 := ad) (k := 1) h rfl rfl mm rfl runUnderlying52 runUnderlying52 typeInfo3 sizeOf3 zeroValue3 rfl dd dd (by rw [List.length_map, Nat.mul_one]) (Zls _) (by show 8 * (2 * _ + 192) ≤ 281474976710656; omega) dd ?_); clear h; intro v51 o51 a w hG51 h
   obtain ⟨ad51, c51, rfl⟩ := hG51.is
   have hle51 := hG51.le
   replace h := h.shareO' hS hG51
   replace h := h.same (Φ' := Row ad51 (List.map Zv ((dg n).getD (k - 1) 0 :: dg (n / 10000 ^ k % m))) :: _) rfl rfl rfl
   rw [show 1 + (dg (n / 10000 ^ k % m)).length = ((dg n).getD (k - 1) 0 :: dg (n / 10000 ^ k % m)).length from Nat.add_comm _ _] at h hle51
   have hwd : Dd ((dg n).getD (k - 1) 0 :: dg (n / 10000 ^ k % m)) := by
    intro x hx
    rcases List.mem_cons.1 hx with rfl | hx
    · exact dlt _ _
    · exact Dd.dg _ x hx
   refine gL h (zf [_] rfl call180 (Zoc ad51 c51 ((dg n).getD (k - 1) 0 :: dg (n / 10000 ^ k % m)) hwd hle51 (by simp only [List.length_cons]; omega)) ?_); clear h; rintro v52 Ψ52 ⟨rfl, rfl⟩ a w h
   obtain ⟨R, hR⟩ : ∃ R, R = (dg n).getD (k - 1) 0 + 10000 * (n / 10000 ^ k % m) := ⟨_, rfl⟩
   rw [show Qs ((dg n).getD (k - 1) 0 :: dg (n / 10000 ^ k % m)) = R from by rw [hR, Qs, Ym]] at h
   have hkk : k - 1 + 1 = k := oo
   have hR' : R = (dg n).getD (k - 1) 0 + 10000 * (n / 10000 ^ (k - 1 + 1) % m) := by rw [hkk]; exact hR
   have hRm : R < 10000 * m := Qfw hR (dlt n _) (Nat.mod_lt _ hm0)
   have hRl := Qbg hRm
   refine gL h (za rfl (zn (zS (zm rfl (zm rfl (zw [_, _] rfl call206 (Zz2 _ _ R ((dg m).length - 3) oo oo oo) ?_))))))
   have htop : 0 < Qs ((dg m).drop ((dg m).length - 3)) := Qfc hm oo
   have hFR := Zkz R ((dg m).length - 3) ((dg m).length - 3) oo (Nat.le_refl _)
   have hFT := Zkz m ((dg m).length - 3) ((dg m).length - 3) oo (Nat.le_refl _)
   have hq1 : Qs ((dg R).drop ((dg m).length - 3)) / (Qs ((dg m).drop ((dg m).length - 3)) + 1) ≤ Qs ((dg R).drop ((dg m).length - 3)) := Nat.div_le_self _ _
   have hq2 : Qs ((dg R).drop ((dg m).length - 3)) / Qs ((dg m).drop ((dg m).length - 3)) ≤ Qs ((dg R).drop ((dg m).length - 3)) := Nat.div_le_self _ _
   have hql : Qs ((dg R).drop ((dg m).length - 3)) / (Qs ((dg m).drop ((dg m).length - 3)) + 1) ≤ R / m := Qgv hm0
   have hqh : R / m ≤ Qs ((dg R).drop ((dg m).length - 3)) / Qs ((dg m).drop ((dg m).length - 3)) := Qco htop
   have hq9 : R / m < 10000 := (Nat.div_lt_iff_lt_mul hm0).2 hRm
   have hn1 : (0 : Int) ≤ ((R / m : Nat) : Int) := Int.natCast_nonneg _
   have hn2 : (0 : Int) ≤ ((Qs ((dg R).drop ((dg m).length - 3)) / (Qs ((dg m).drop ((dg m).length - 3)) + 1) : Nat) : Int) := Int.natCast_nonneg _
   have hn3 : (0 : Int) ≤ ((Qs ((dg R).drop ((dg m).length - 3)) / Qs ((dg m).drop ((dg m).length - 3)) : Nat) : Int) := Int.natCast_nonneg _
   refine za rfl (zn (zs (yD Za [0, 1, 2, 3, 4, 5, 6, 7, 8, 9] (Zd kk) (ym rfl rfl (ym rfl rfl (yp rfl (.pN ((Qs ((dg m).drop ((dg m).length - 3))) + 1) (.add rfl rfl)) (yp rfl (Pure1.cast (v' := .int .i64 ((Qs ((dg R).drop ((dg m).length - 3)) / (Qs ((dg m).drop ((dg m).length - 3)) + 1) : Nat) : Int)) (.binOp rfl rfl (fun _ => Vp _ _ _ _ _ oo)) (by rw [Yh, wrap_i64 _ oo oo])) (ym rfl rfl (ym rfl rfl (yp rfl (Pure1.cast (v' := .int .i64 ((Qs ((dg R).drop ((dg m).length - 3)) / Qs ((dg m).drop ((dg m).length - 3)) : Nat) : Int)) (.binOp rfl rfl (fun _ => Vp _ _ _ _ _ oo)) (by rw [Yh, wrap_i64 _ oo oo])) (yp rfl (.pO (min (Qs ((dg R).drop ((dg m).length - 3)) / Qs ((dg m).drop ((dg m).length - 3))) 9999) (.builtin [_, _] rfl (fun w ty cs => Qed _ _ w ty cs))) (yp rfl (.assign rfl) (yp rfl (.assign rfl) (yn (zs (zb ?_)))))))))))))))); intro a w h
   refine Zf (fun (g : Nat) a w => ∃ lo hi, (lo + g = hi ∧ lo ≤ R / m ∧ R / m ≤ hi ∧ hi ≤ 9999) ∧ St 97 S w0 [(0, .slice (some ⟨B_ad1, O_ad1, none⟩) ((dg n).length) c1), (1, .slice ad2 ((dg m).length) c2), (6, nI ((dg m).length - 3)), (7, nI (Qs ((dg m).drop ((dg m).length - 3)))), (8, .int .i64 (((k : Nat) : Int) - 1)), (9, .slice (some ⟨b34, 0, none⟩) (((dg n).length - (dg m).length) + 1) (((dg n).length - (dg m).length) + 1)), (10, .slice ad51 ((dg R).length) c51), (12, nI lo), (13, nI hi)] [(b34, .cells (List.map Zv (Z)).toArray 3 (0, 0))] [Row ad51 (List.map Zv (dg R)), Row ad51 (List.map Zv ((dg n).getD (k - 1) 0 :: dg (n / 10000 ^ k % m))), Row (some ⟨B_ad1, O_ad1, none⟩) (List.map Zv (dg n)), Row ad2 (List.map Zv (dg m)), Row ad (List.map Zv (dg (n / 10000 ^ k % m)))] a w) (fun g => g) ((min (Qs ((dg R).drop ((dg m).length - 3)) / Qs ((dg m).drop ((dg m).length - 3))) 9999 - Qs ((dg R).drop ((dg m).length - 3)) / (Qs ((dg m).drop ((dg m).length - 3)) + 1))) (⟨Qs ((dg R).drop ((dg m).length - 3)) / (Qs ((dg m).drop ((dg m).length - 3)) + 1), min (Qs ((dg R).drop ((dg m).length - 3)) / Qs ((dg m).drop ((dg m).length - 3))) 9999, ⟨oo, hql, oo, oo⟩, by exact h.sub sA⟩) ?_; clear h
   rintro g a w ⟨lo, hi, ⟨hg, hlo, hhi, h9⟩, h⟩
   refine gC h (zs (zS (zm rfl (zm rfl (zp (.lss rfl rfl) (zn ?_)))))); clear h; intro a w h
   refine cW ?_
   refine Zb h rfl (fun hc66 => ?_) (fun hc66 => ?_)
   ·
    skip
    have hrun : lo < hi := dT hc66
    refine gC h (zk (zb (zS (zm rfl (zm rfl (zp (.pN (lo + hi) (.add rfl rfl)) (zp (.pN ((lo + hi) + 1) (.add rfl rfl)) (zp (Pure1.cast (v' := .int .i64 (((lo + hi + 1) / 2 : Nat) : Int)) (.binOp rfl rfl (fun _ => Vp _ _ _ _ _ dd)) (by rw [show (2 : Int) = ((2 : Nat) : Int) from rfl, Yh, wrap_i64 _ oo oo])) (za rfl (zn (zS (zm rfl (zm rfl (zp (.convert rfl (Zss _ (wrap_u64 _ oo oo))) (zf [_] rfl call181 (Zz1 ((lo + hi + 1) / 2) oo) ?_))))))))))))))); rintro v75 Ψ75 ⟨ad75, c75, rfl, hle75, rfl⟩
    have hl75 := dg5 ((lo + hi + 1) / 2) oo
    refine zf [_, _] rfl call131 (Zof _ _ _ _ m ((lo + hi + 1) / 2) oo oo) ?_; rintro v76 Ψ76 ⟨ad76, c76, rfl, hle76, rfl⟩
    have hl76 := Gh m ((lo + hi + 1) / 2)
    refine zm rfl (zw [_, _] rfl call178 (Zz4 _ _ _ _ (m * ((lo + hi + 1) / 2)) R oo oo) (zp (.leq rfl rfl) (zn ?_))); intro a w h
    refine cW ?_
    refine Zb h rfl (fun hc79 => ?_) (fun hc79 => ?_)
    ·
     skip
     have hmid : (lo + hi + 1) / 2 ≤ R / m := by
      have h3 := Zy2.1 (of_decide_eq_true hc79)
      rwa [Nat.le_div_iff_mul_le hm0, Nat.mul_comm]
     refine gC h (zr (zm rfl (za rfl (zn ?_)))); clear h; intro a w h
     exact ⟨hi - ((lo + hi + 1) / 2), ⟨(lo + hi + 1) / 2, hi, ⟨oo, oo, by omega, oo⟩, by exact (h.factsSub (by simp)).sub sA⟩, oo⟩
    ·
     skip
     have hmid : R / m < (lo + hi + 1) / 2 := by
      have h3 := of_decide_eq_false hc79
      rw [Zy2] at h3
      rw [Nat.div_lt_iff_lt_mul hm0, Nat.mul_comm]; omega
     refine gC h (zr (zm rfl (zp (.pO (((lo + hi + 1) / 2) - 1) (.sub rfl rfl)) (za rfl (zn ?_))))); clear h; intro a w h
     exact ⟨(((lo + hi + 1) / 2) - 1) - lo, ⟨lo, ((lo + hi + 1) / 2) - 1, ⟨oo, oo, by omega, oo⟩, by exact (h.factsSub (by simp)).sub sA⟩, oo⟩
   ·
    skip
    obtain rfl : lo = R / m := dF hc66
    refine gC h (ze (zS (zm rfl (zp (.pO (k - 1) (.move rfl)) (zm rfl (zp (.indexAddr rfl rfl (Zf2 _ _ _ _ _ oo)) (zt' rfl rfl ((congrArg (fun z => Jd _ z _) (Nat.zero_add _)).trans (Vo (enc := Zv) Z (k - 1) (R / m))) uu sizeOf3 rfl (by simp; omega) rfl ?_)))))))
    refine zn (zr (zm rfl (zm rfl (zm rfl (zp (.convert rfl (Zss _ (wrap_u64 _ oo oo))) (zf [_] rfl call181 (Zz1 (R / m) oo) ?_)))))); rintro v91 Ψ91 ⟨ad91, c91, rfl, hle91, rfl⟩
    have hl91 := dg5 (R / m) oo
    refine zf [_, _] rfl call131 (Zof _ _ _ _ m (R / m) oo oo) ?_; rintro v92 Ψ92 ⟨ad92, c92, rfl, hle92, rfl⟩
    have hl92 := Gh m (R / m)
    refine zf [_, _] rfl call177 (Ztd _ _ _ _ R (m * (R / m)) oo oo (Nat.mul_div_le R m)) ?_; rintro v93 Ψ93 ⟨ad93, c93, rfl, hle93, rfl⟩ a w h
    have e93 : R - m * (R / m) = n / 10000 ^ (k - 1) % m := by rw [Znw n m (k - 1) R hR', Nat.mod_def]
    rw [e93] at h hle93
    refine gL h (za rfl (zn (zr (zm rfl (zp (Pure1.cast (v' := .int .i64 (((k - 1 : Nat) : Int) - 1)) (.sub rfl rfl) (by show Value.int _ _ = Value.int _ _; congr 1; omega)) (za rfl (zn ?_))))))); clear h; intro a w h
    exact ⟨k - 1, ⟨Z.set (k - 1) (R / m), ad93, c93, ⟨oo, by rw [List.length_set]; exact hZl, hZw.set _ _ oo, by rw [Zk0 oo, hkk, hZv, Znv n m (k - 1) R hm0 hR', hkk], hle93⟩, by exact (h.factsSub (by simp)).sub sA⟩, oo⟩
  ·
   skip
   obtain rfl : k = 0 := dF hc42
   refine gC h (ze (zS (zm rfl ?_))); clear h; intro a w h
   have hZ0 : Qs Z = n / m := by simpa using hZv
   rw [show n / 10000 ^ 0 % m = n % m from by simp] at h hlc
   rw [← hZl] at h
   replace h := h.shareAll hS (List.map Zv Z) rfl
   refine gL h (zf [_] rfl call180 (Zoc (some ⟨b34, 0, none⟩) Z.length Z hZw (Nat.le_refl _) oo) ?_); clear h; rintro v95 Ψ95 ⟨rfl, rfl⟩ a w h
   rw [hZ0] at h
   refine gL h (zm rfl (za rfl (za rfl (zn (zt ?_))))); clear h; intro a w h
   exact Qg (Ψ := [Row (some ⟨b34, 0, none⟩) (List.map Zv (dg (n / m))), Row ad (List.map Zv (dg (n % m)))]) h (Qv h rfl (.tmp rfl) (.tmp rfl)) ⟨_, _, _, _, rfl, by rw [← hZ0]; exact Zhi hZw, hlc, rfl⟩ ss
theorem C_rGcd (ad1 ad2 : Option Addr) (c1 c2 : Nat) (n m : Nat) (h1 : (dg n).length ≤ 300000000000) (h2 : (dg m).length ≤ 300000000000) (hc1 : (dg n).length ≤ c1) (hc2 : (dg m).length ≤ c2) :
  Ctr Tryz.prog 175 [.slice ad1 (dg n).length c1, .slice ad2 (dg m).length c2] [Row ad1 (List.map Zv (dg n)), Row ad2 (List.map Zv (dg m))] (Zn9 (Nat.gcd n m)) := by
 refine fn_intro func175 rfl ntmps175 nb ?_
 intro S w0 a hS h
 refine gC h (zS (za rfl (zn (zs (zb ?_))))); clear h; intro a w h
 refine Zf (fun (y : Nat) a w => ∃ x p cp q cq, (Nat.gcd x y = Nat.gcd n m ∧ (dg x).length ≤ 300000000000 ∧ (dg y).length ≤ 300000000000 ∧ (dg x).length ≤ cp ∧ (dg y).length ≤ cq) ∧ St 19 S w0 [(0, .slice p ((dg x).length) cp), (1, .slice q ((dg y).length) cq)] [] [Row p (List.map Zv (dg x)), Row q (List.map Zv (dg y))] a w) (fun y => y) (m) (⟨n, ad1, c1, ad2, c2, ⟨rfl, h1, h2, hc1, hc2⟩, by exact (h.factsSub (by simp)).sub sA⟩) ?_; clear h
 rintro y a w ⟨x, p, cp, q, cq, ⟨hg, hx1, hy1, hcp, hcq⟩, h⟩
 refine gC h (zs (zS (zm rfl (zp (.builtin [_] rfl (Zz _ _ _)) (zp (.gtr rfl rfl) (zn ?_)))))); clear h; intro a w h
 refine cW ?_
 refine Zb h rfl (fun hc9 => ?_) (fun hc9 => ?_)
 ·
  skip
  have hy : y ≠ 0 := by
   intro e; subst e; rw [Js] at hc9; exact absurd (of_decide_eq_true hc9) dd
  have hl3 := Kl (Nat.le_of_lt (Nat.mod_lt x (Nat.pos_of_ne_zero hy)))
  refine gC h (zk (zb (zS (zm rfl (zm rfl (zf [_, _] rfl call176 (Zz3 _ _ _ _ x y oo oo oo oo) ?_)))))); rintro v13 Ψ13 ⟨ad13, c13, bd13, d13, rfl, hle13, hlf13, rfl⟩
  refine zm rfl (zp (.eX rfl) (zp (.eX rfl) (za rfl (za rfl (zn (zS (zm rfl (za rfl (zn (zr (zm rfl (za rfl (zn ?_))))))))))))); intro a w h
  exact ⟨x % y, ⟨y, q, cq, bd13, d13, ⟨by rw [← hg, Nat.gcd_comm x y, Nat.gcd_rec y x, Nat.gcd_comm], hy1, oo, hcq, hlf13⟩, by exact (h.factsSub (by simp)).sub sA⟩, Nat.mod_lt _ (Nat.pos_of_ne_zero hy)⟩
 ·
  skip
  obtain rfl : y = 0 := by
   have h3 := of_decide_eq_false hc9
   exact Zsm.1 (List.eq_nil_of_length_eq_zero oo)
  refine gC h (ze (zS (zm rfl (za rfl (zn (zt ?_)))))); clear h; intro a w h
  refine Qg (Ψ := [Row p (List.map Zv (dg x))]) h (Zc h rfl (.tmp rfl)) ?_ ss
  rw [Nat.gcd_zero_right] at hg; subst hg; exact ⟨p, cp, rfl, hcp, rfl⟩
end
section
theorem Zn6 (x0 : Bool) (x1 : Option Addr) (x1n : Nat) (x1c : Nat) (w : World) : (Instr.build 54 [(0, .bool x0), (1, .slice x1 x1n x1c)].toArray).run Tryz.prog w = .ok (.agg #[.bool x0, .slice x1 x1n x1c]) w := by simp [go_sem]
theorem Zsu (x : Int) (h0 : IntKind.u64.wrap x = x) (w : World) : (Go.convert 2 36 (.int .i64 x)).run Tryz.prog w = .ok (.int .u64 x) w := by
 rw [Zqe, h0]
theorem Ki {b off : Nat} (w : World) : (Instr.fieldAt 54 (.pointer (some ⟨b, off, none⟩)) 1).run Tryz.prog w = .ok (.pointer (some ⟨b, off + 1, none⟩)) w := by
 simp [go_sem]
theorem Zau {b off : Nat} (w : World) : (Instr.fieldAt 54 (.pointer (some ⟨b, off, none⟩)) 0).run Tryz.prog w = .ok (.pointer (some ⟨b, off + 0, none⟩)) w := by
 simp [go_sem]
abbrev zV (z : Int) (ad : Option Addr) (c : Nat) : Value := .agg #[.bool (decide (z < 0)), .slice ad (dg z.natAbs).length c]
def Zzl (z : Int) (v : Value) (Ψ : List Zy) : Prop := ∃ ad c, v = zV z ad c ∧ (dg z.natAbs).length ≤ c ∧ Ψ = [Row ad (List.map Zv (dg z.natAbs))]
theorem Zdc {b : Bool} {n : Nat} {z : Int} {ad : Option Addr} {c : Nat} (hs : sgZ b n = z) (hle : (dg n).length ≤ c) : Zzl z (.agg #[.bool (decide (sgZ b n < 0)), .slice ad (dg n).length c]) [Row ad (List.map Zv (dg n))] := by
 subst hs; refine ⟨ad, c, ?_, ?_, ?_⟩
 · unfold zV; rw [Zc7]
 · rw [Zc7]; exact hle
 · rw [Zc7]
theorem Zu2 {n : Nat} : decide (((dg n).length : Int) > 0) = !decide (n = 0) := by
 by_cases h : n = 0
 · subst h; rw [Js]; rfl
 ·
  have : 0 < (dg n).length := List.length_pos_iff.2 (fun e => h (Zsm.1 e))
  rw [decide_eq_true (by omega : ((dg n).length : Int) > 0)]; simp [h]
theorem Zks {n : Nat} : (((dg n).length : Int) == 0) = decide (n = 0) := by
 by_cases h : n = 0
 · subst h; rw [Js]; rfl
 ·
  have : 0 < (dg n).length := List.length_pos_iff.2 (fun e => h (Zsm.1 e))
  rw [decide_eq_false h]; exact beq_eq_false_iff_ne.2 oo
theorem Zvf {x y : Int} (h : decide (x < 0) = decide (y < 0)) : sgZ (decide (x < 0)) (x.natAbs + y.natAbs) = x + y := by
 have h' := decide_eq_decide.1 h
 unfold sgZ; split <;> rename_i h1 <;> simp at h1 <;> omega
theorem Qe4 {x y : Int} (h : decide (x < 0) ≠ decide (y < 0)) (hle : y.natAbs ≤ x.natAbs) : sgZ (decide (x < 0)) (x.natAbs - y.natAbs) = x + y := by
 have h' : ¬ (x < 0 ↔ y < 0) := fun e => h (decide_eq_decide.2 e)
 unfold sgZ; split <;> rename_i h1 <;> simp at h1 <;> omega
theorem Qe3 {x y : Int} (h : decide (x < 0) ≠ decide (y < 0)) (hle : x.natAbs < y.natAbs) : sgZ (decide (y < 0)) (y.natAbs - x.natAbs) = x + y := by
 have h' : ¬ (x < 0 ↔ y < 0) := fun e => h (decide_eq_decide.2 e)
 unfold sgZ; split <;> rename_i h1 <;> simp at h1 <;> omega
theorem Qe1 (x y : Int) : sgZ (decide (x < 0) != decide (y < 0)) (x.natAbs * y.natAbs) = x * y := by
 unfold sgZ
 have hlt : ∀ z : Int, z < 0 ∨ 0 ≤ z := fun z => by omega
 rcases hlt x with hx | hx <;> rcases hlt y with hy | hy
 · rw [decide_eq_true hx, decide_eq_true hy]; simp; rw [Int.ofNat_natAbs_of_nonpos (Int.le_of_lt hx), Int.ofNat_natAbs_of_nonpos (Int.le_of_lt hy), Int.neg_mul_neg]
 · rw [decide_eq_true hx, decide_eq_false oo]; simp; rw [Int.ofNat_natAbs_of_nonpos (Int.le_of_lt hx), Int.natAbs_of_nonneg hy, Int.neg_mul, Int.neg_neg]
 · rw [decide_eq_false oo, decide_eq_true hy]; simp; rw [Int.ofNat_natAbs_of_nonpos (Int.le_of_lt hy), Int.natAbs_of_nonneg hx, Int.mul_neg, Int.neg_neg]
 · rw [decide_eq_false oo, decide_eq_false oo]; simp; rw [Int.natAbs_of_nonneg hx, Int.natAbs_of_nonneg hy]
theorem Zdh (x y : Int) : (dg (x * y).natAbs).length ≤ (dg x.natAbs).length + (dg y.natAbs).length := by rw [Int.natAbs_mul]; exact Gh _ _
theorem Zys (x y : Int) : (dg (x + y).natAbs).length ≤ max (dg x.natAbs).length (dg y.natAbs).length + 1 :=
 Nat.le_trans (Kl (Int.natAbs_add_le x y)) (Zg3 _ _)
theorem Zce (b : Bool) (ad : Option Addr) (c n : Nat) : Ys Tryz.prog 132 [.bool b, .slice ad (dg n).length c] (.agg #[.bool (decide (sgZ b n < 0)), .slice ad (dg n).length c]) := by
 refine fn_intro func132 rfl ntmps132 nb ?_
 intro S w0 a hS h
 refine gC h (zS (zz zeroValue54 fun b4 => zn (zS (zm rfl ?_)))); clear h; intro a w h
 refine Zg h (fun hc5 h => ?_) (fun hc5 h => ?_)
 ·
  skip
  refine gL h (zm rfl (zq 6 rfl rfl (.move rfl) (zq 6 rfl rfl (.builtin [_] rfl (Zz _ _ _)) (zq 6 rfl rfl (.gtr rfl rfl) (zp (.pickT rfl rfl) (zm rfl (zp (.build [(_, _), (_, _)] rfl (Zn6 _ _ _ _)) (zt' rfl rfl Qe uu sizeOf54 rfl nb rfl ?_)))))))); clear h; intro a w h
  refine wpList_nil (wp_ret ?_)
  refine Jm h (Zc h rfl (.cell rfl mr isAgg54 sizeOf54 Zn)) ?_
  rw [hc5, Zpa, Zu2]; rfl
 ·
  skip
  refine gL h (zm rfl (zo 6 rfl rfl rfl (zo 6 rfl rfl rfl (zo 6 rfl rfl rfl (zp (.pickF rfl rfl) (zm rfl (zp (.build [(_, _), (_, _)] rfl (Zn6 _ _ _ _)) (zt' rfl rfl Qe uu sizeOf54 rfl nb rfl ?_)))))))); clear h; intro a w h
  refine wpList_nil (wp_ret ?_)
  refine Jm h (Zc h rfl (.cell rfl mr isAgg54 sizeOf54 Zn)) ?_
  rw [hc5, Zpa]; rfl
theorem C_zOf (n : Int) (h0 : -9223372036854775808 ≤ n) (h1 : n ≤ 9223372036854775807) : Ctr Tryz.prog 133 [.int .i64 n] [] (Zzl n) := by
 refine fn_intro func133 rfl ntmps133 nb ?_
 intro S w0 a hS h
 refine gC h (zS (zz zeroValue54 fun b2 => zn (zs (zS (zm rfl (zp (.lss rfl rfl) (zn ?_))))))); clear h; intro a w h
 refine cW ?_
 refine Zb h rfl (fun hc4 => ?_) (fun hc4 => ?_)
 ·
  skip
  have hn : n < 0 := of_decide_eq_true hc4
  refine gC h (zS (zm rfl (zp (.add rfl rfl) (zp (Pure1.cast (v' := .int .i64 (-(n + 1))) (.unOp rfl (fun w => Qbb _ oo oo w)) (by rfl)) (zp (.convert rfl (Zsu _ (wrap_u64 _ oo oo))) (zp (Pure1.cast (v' := .int .u64 ((n.natAbs : Nat) : Int)) (.binOp rfl rfl (fun _ => Zhw _ _ _ _ _ (wrap_u64 _ oo oo))) (by show Value.int _ _ = Value.int _ _; congr 1; omega)) (zf [_] rfl call181 (Zz1 n.natAbs oo) ?_))))))); rintro v10 Ψ10 ⟨ad10, c10, rfl, hle10, rfl⟩
  refine zv [_, _] rfl call132 (Zce true ad10 c10 n.natAbs) (zt' rfl rfl Qe uu sizeOf54 rfl nb rfl ?_); intro a w h
  refine wpList_nil (wp_ret ?_)
  refine Qg (Ψ := [Row ad10 (List.map Zv (dg n.natAbs))]) h (Zc h rfl (.cell rfl mr isAgg54 sizeOf54 Zn)) ?_ ss
  exact Zdc (by unfold sgZ; simp; omega) hle10
 ·
  skip
  have hn : ¬ n < 0 := of_decide_eq_false hc4
  refine gC h (zk (zS (zm rfl (zp (Pure1.cast (v' := .int .u64 ((n.natAbs : Nat) : Int)) (.convert rfl (Zsu _ (wrap_u64 _ oo oo))) (by show Value.int _ _ = Value.int _ _; congr 1; omega)) (zf [_] rfl call181 (Zz1 n.natAbs oo) ?_))))); rintro v14 Ψ14 ⟨ad14, c14, rfl, hle14, rfl⟩
  refine zv [_, _] rfl call132 (Zce false ad14 c14 n.natAbs) (zt' rfl rfl Qe uu sizeOf54 rfl nb rfl ?_); intro a w h
  refine wpList_nil (wp_ret ?_)
  refine Qg (Ψ := [Row ad14 (List.map Zv (dg n.natAbs))]) h (Zc h rfl (.cell rfl mr isAgg54 sizeOf54 Zn)) ?_ ss
  exact Zdc (by unfold sgZ; simp; omega) hle14
theorem Qhp (z : Int) (ad : Option Addr) (c : Nat) : Ys Tryz.prog 150 [zV z ad c] (.int .i64 z.sign) := by
 refine fn_intro func150 rfl ntmps150 nb ?_
 intro S w0 a hS h
 refine gC h (zS (zx rfl fun b1 => za rfl (zn (zs (zS (zp (.fA rfl Ki) (zd rfl mr isAgg52 sizeOf52 Xm ?_)))))))
 refine zp (.builtin [_] rfl (Zz _ _ _)) (zp (.eql rfl rfl) (zn ?_)); intro a w h
 refine cW ?_
 refine Zb h rfl (fun hc6 => ?_) (fun hc6 => ?_)
 ·
  skip
  have hz : z.natAbs = 0 := by rw [Zks] at hc6; exact of_decide_eq_true hc6
  refine gC h (zS (za rfl (zn (zt ?_)))); clear h; intro a w h
  refine Jm h (Zc h rfl (.tmp rfl)) ?_
  rw [Int.natAbs_eq_zero.1 hz]; rfl
 ·
  skip
  have hz : z.natAbs ≠ 0 := by rw [Zks] at hc6; exact of_decide_eq_false hc6
  refine gC h (zk (zs (zS (zp (.fA rfl Zau) (zd rfl mr isAgg4 sizeOf4 Ye ?_))))); clear h; intro a w h
  refine wpList_nil ?_
  refine cW ?_
  refine Zb h rfl (fun hc8 => ?_) (fun hc8 => ?_)
  ·
   skip
   have hs : z < 0 := of_decide_eq_true hc8
   refine gC h (zS (za rfl (zn (zt ?_)))); clear h; intro a w h
   refine Jm h (Zc h rfl (.tmp rfl)) ?_
   rw [Int.sign_eq_neg_one_of_neg hs]
  ·
   skip
   have hs : ¬ z < 0 := of_decide_eq_false hc8
   refine gC h (zk (zS (za rfl (zn (zt ?_))))); clear h; intro a w h
   refine Jm h (Zc h rfl (.tmp rfl)) ?_
   rw [Int.sign_eq_one_of_pos oo]
theorem C_zNeg (z : Int) (ad : Option Addr) (c : Nat) : Ys Tryz.prog 174 [zV z ad c] (zV (-z) ad c) := by
 refine fn_intro func174 rfl ntmps174 nb ?_
 intro S w0 a hS h
 refine gC h (zS (zx rfl fun b1 => zz zeroValue54 fun b2 => zn (zS (zp (.fA rfl Zau) (zd rfl mr isAgg4 sizeOf4 Ye ?_)))))
 refine zp (.unOp rfl (Xe _)) (zp (.fA rfl Ki) (zd rfl mr isAgg52 sizeOf52 Xm ?_))
 refine zv [_, _] rfl call132 (Zce (!decide (z < 0)) ad c z.natAbs) (zt' rfl rfl Qe uu sizeOf54 rfl nb rfl ?_); intro a w h
 refine wpList_nil (wp_ret ?_)
 refine Jm h (Zc h rfl (.cell rfl mr isAgg54 sizeOf54 Zn)) ?_
 unfold zV; rw [show sgZ (!decide (z < 0)) z.natAbs = -z from by unfold sgZ; split <;> rename_i h1 <;> simp at h1 <;> omega, Int.natAbs_neg]
theorem C_zAdd (a1 a2 : Option Addr) (c1 c2 : Nat) (x y : Int) (h1 : (dg x.natAbs).length ≤ 300000000000) (h2 : (dg y.natAbs).length ≤ 300000000000) : Ctr Tryz.prog 128 [zV x a1 c1, zV y a2 c2] [Row a1 (List.map Zv (dg x.natAbs)), Row a2 (List.map Zv (dg y.natAbs))] (Zzl (x + y)) := by
 refine fn_intro func128 rfl ntmps128 nb ?_
 intro S w0 a hS h
 refine gC h (zS (zx rfl fun b2 => zx rfl fun b3 => zz zeroValue54 fun b4 => zn (zs (zS (zp (.fA rfl Zau) (zd rfl mr isAgg4 sizeOf4 Ye ?_))))))
 refine zp (.fA rfl Zau) (zd rfl mr isAgg4 sizeOf4 Ye ?_)
 refine zp (.binOp rfl rfl (fun _ => Zq7 _ underlying4 _ _ _ _)) (zn ?_); intro a w h
 refine cW ?_
 refine Zb h rfl (fun hc9 => ?_) (fun hc9 => ?_)
 ·
  skip
  have hs := eq_of_beq hc9
  refine gC h (zs (yD Za [0, 1, 2, 3, 4, 5, 6, 7, 8] (Zd kk) (yp rfl (.fA rfl Zau) (yd rfl rfl mr isAgg4 sizeOf4 Ye ?_)))); clear h
  refine yp rfl (.fA rfl Ki) (yd rfl rfl mr isAgg52 sizeOf52 Xm ?_)
  refine yp rfl (.fA rfl Ki) (yd rfl rfl mr isAgg52 sizeOf52 Xm ?_)
  refine yf [_, _] rfl rfl call172 (Qeq _ _ _ _ x.natAbs y.natAbs oo oo) ?_; rintro v16 Ψ16 ⟨ad16, c16, rfl, hle16, rfl⟩
  have hl16 := Zg3 x.natAbs y.natAbs
  refine yv [_, _] rfl rfl call132 (Zce (decide (x < 0)) ad16 c16 (x.natAbs + y.natAbs)) (yt rfl rfl rfl Qe uu sizeOf54 rfl nb rfl ?_)
  refine yn (zt ?_); intro a w h
  refine Qg (Ψ := [Row ad16 (List.map Zv (dg (x.natAbs + y.natAbs)))]) h (Zc h rfl (.cell rfl mr isAgg54 sizeOf54 Zn)) ?_ ss
  exact Zdc (Zvf hs) hle16
 ·
  skip
  have hs := ne_of_beq_false hc9
  refine gC h (zk (zs (zS (zp (.fA rfl Ki) (zd rfl mr isAgg52 sizeOf52 Xm ?_)))))
  refine zp (.fA rfl Ki) (zd rfl mr isAgg52 sizeOf52 Xm ?_)
  refine zw [_, _] rfl call178 (Zz4 _ _ _ _ x.natAbs y.natAbs oo oo) (zp (.geq rfl rfl) (zn ?_)); intro a w h
  refine cW ?_
  refine Zb h rfl (fun hc23 => ?_) (fun hc23 => ?_)
  ·
   skip
   have hle : y.natAbs ≤ x.natAbs := by
    have h3 := of_decide_eq_true hc23
    unfold Zjo at h3; split at h3 <;> omega
   refine gC h (zs (yD Za [0, 1, 2, 3, 4, 5, 6, 7, 8] (Zd kk) (yp rfl (.fA rfl Zau) (yd rfl rfl mr isAgg4 sizeOf4 Ye ?_)))); clear h
   refine yp rfl (.fA rfl Ki) (yd rfl rfl mr isAgg52 sizeOf52 Xm ?_)
   refine yp rfl (.fA rfl Ki) (yd rfl rfl mr isAgg52 sizeOf52 Xm ?_)
   refine yf [_, _] rfl rfl call177 (Ztd _ _ _ _ x.natAbs y.natAbs oo oo hle) ?_; rintro v30 Ψ30 ⟨ad30, c30, rfl, hle30, rfl⟩
   refine yv [_, _] rfl rfl call132 (Zce (decide (x < 0)) ad30 c30 (x.natAbs - y.natAbs)) (yt rfl rfl rfl Qe uu sizeOf54 rfl nb rfl ?_)
   refine yn (zt ?_); intro a w h
   refine Qg (Ψ := [Row ad30 (List.map Zv (dg (x.natAbs - y.natAbs)))]) h (Zc h rfl (.cell rfl mr isAgg54 sizeOf54 Zn)) ?_ ss
   exact Zdc (Qe4 hs hle) hle30
  ·
   skip
   have hle : x.natAbs < y.natAbs := by
    have h3 := of_decide_eq_false hc23
    unfold Zjo at h3; split at h3
    · assumption
    · split at h3 <;> omega
   refine gC h (zk (zs (yD Za [0, 1, 2, 3, 4, 5, 6, 7, 8] (Zd kk) (yp rfl (.fA rfl Zau) (yd rfl rfl mr isAgg4 sizeOf4 Ye ?_))))); clear h
   refine yp rfl (.fA rfl Ki) (yd rfl rfl mr isAgg52 sizeOf52 Xm ?_)
   refine yp rfl (.fA rfl Ki) (yd rfl rfl mr isAgg52 sizeOf52 Xm ?_)
   refine yf [_, _] rfl rfl call177 (Ztd _ _ _ _ y.natAbs x.natAbs oo oo (Nat.le_of_lt hle)) ?_; rintro v38 Ψ38 ⟨ad38, c38, rfl, hle38, rfl⟩
   refine yv [_, _] rfl rfl call132 (Zce (decide (y < 0)) ad38 c38 (y.natAbs - x.natAbs)) (yt rfl rfl rfl Qe uu sizeOf54 rfl nb rfl ?_)
   refine yn (zt ?_); intro a w h
   refine Qg (Ψ := [Row ad38 (List.map Zv (dg (y.natAbs - x.natAbs)))]) h (Zc h rfl (.cell rfl mr isAgg54 sizeOf54 Zn)) ?_ ss
   exact Zdc (Qe3 hs hle) hle38
theorem Zzp (a1 a2 : Option Addr) (c1 c2 : Nat) (x y : Int) (h1 : (dg x.natAbs).length ≤ 300000000000) (h2 : (dg y.natAbs).length ≤ 300000000000) : Ctr Tryz.prog 129 [zV x a1 c1, zV y a2 c2] [Row a1 (List.map Zv (dg x.natAbs)), Row a2 (List.map Zv (dg y.natAbs))] (Zzl (x * y)) := by
 refine fn_intro func129 rfl ntmps129 nb ?_
 intro S w0 a hS h
 refine gC h (zS (zx rfl fun b2 => zx rfl fun b3 => zz zeroValue54 fun b4 => zn (zs (yD Za [0, 1, 2, 3, 4, 5, 6, 7, 8, 9, 10, 11] (Zd kk) (yp rfl (.fA rfl Zau) (yd rfl rfl mr isAgg4 sizeOf4 Ye ?_)))))); clear h
 refine yp rfl (.fA rfl Zau) (yd rfl rfl mr isAgg4 sizeOf4 Ye ?_)
 refine yp rfl (.binOp rfl rfl (fun _ => Zax _ underlying4 _ _ _ _)) (yp rfl (.fA rfl Ki) (yd rfl rfl mr isAgg52 sizeOf52 Xm ?_))
 refine yp rfl (.fA rfl Ki) (yd rfl rfl mr isAgg52 sizeOf52 Xm ?_)
 refine yf [_, _] rfl rfl call131 (Zof _ _ _ _ x.natAbs y.natAbs oo oo) ?_; rintro v14 Ψ14 ⟨ad14, c14, rfl, hle14, rfl⟩
 have hl14 := Gh x.natAbs y.natAbs
 refine yv [_, _] rfl rfl call132 (Zce (decide (x < 0) != decide (y < 0)) ad14 c14 (x.natAbs * y.natAbs)) (yt rfl rfl rfl Qe uu sizeOf54 rfl nb rfl ?_)
 refine yn (zt ?_); intro a w h
 refine Qg (Ψ := [Row ad14 (List.map Zv (dg (x.natAbs * y.natAbs)))]) h (Zc h rfl (.cell rfl mr isAgg54 sizeOf54 Zn)) ?_ ss
 exact Zdc (Qe1 x y) hle14
end
section
theorem Zp5 {b off : Nat} (w : World) : (Instr.fieldAt 56 (.pointer (some ⟨b, off, none⟩)) 1).run Tryz.prog w = .ok (.pointer (some ⟨b, off + 2, none⟩)) w := by
 simp [go_sem]
theorem Zn5 (x0_0 : Value) (x0_1 : Value) (x1 : Option Addr) (x1n : Nat) (x1c : Nat) (w : World) : (Instr.build 56 [(0, .agg #[x0_0, x0_1]), (1, .slice x1 x1n x1c)].toArray).run Tryz.prog w = .ok (.agg #[x0_0, x0_1, .slice x1 x1n x1c]) w := by simp [go_sem]
theorem Qhc (x0_0 : Value) (x0_1 : Value) (w : World) : (Instr.build 56 [(0, .agg #[x0_0, x0_1])].toArray).run Tryz.prog w = .ok (.agg #[x0_0, x0_1, .slice none 0 0]) w := by simp [go_sem]
theorem Zcb {b off : Nat} (w : World) : (Instr.fieldAt 56 (.pointer (some ⟨b, off, none⟩)) 0).run Tryz.prog w = .ok (.pointer (some ⟨b, off + 0, none⟩)) w := by
 simp [go_sem]
theorem Qhb (w : World) : (Instr.build 56 [].toArray).run Tryz.prog w = .ok (.agg #[.bool false, .slice none 0 0, .slice none 0 0]) w := by simp [go_sem]
theorem rs_3_0 {c0 c1 c2 : Value} : Qk false 1 #[c0, c1, c2] 0 = some c0 := rfl
theorem rs_3_1 {c0 c1 c2 : Value} : Qk false 1 #[c0, c1, c2] 1 = some c1 := rfl
abbrev fV (x : Rat) (a1 : Option Addr) (c1 : Nat) (a2 : Option Addr) (c2 : Nat) : Value := .agg #[.bool (decide (x.num < 0)), .slice a1 (dg x.num.natAbs).length c1, .slice a2 (dg (x.den - 1)).length c2]
def PostF (x : Rat) (v : Value) (Ψ : List Zy) : Prop := ∃ a1 c1 a2 c2, v = fV x a1 c1 a2 c2 ∧ (dg x.num.natAbs).length ≤ c1 ∧ (dg (x.den - 1)).length ≤ c2 ∧ Ψ = [Row a1 (List.map Zv (dg x.num.natAbs)), Row a2 (List.map Zv (dg (x.den - 1)))]
theorem dgQ {x : Rat} {k : Nat} (h : Qc x ≤ k) : (dg x.num.natAbs).length ≤ 3 * k ∧ (dg x.den).length ≤ 3 * k ∧ (dg (x.den - 1)).length ≤ 3 * k := by
 obtain ⟨h1, h2⟩ := Zca h
 unfold Zat at h1
 have a1 := Zkr x.num.natAbs
 have a2 := Zkr x.den
 have a3 := Kl (Nat.sub_le x.den 1)
 omega
theorem Zo8 (z : Int) : decide (z.sign < 0) = decide (z < 0) := by
 apply decide_eq_decide.2
 rcases Int.lt_trichotomy z 0 with h | h | h
 · rw [Int.sign_eq_neg_one_of_neg h]; omega
 · subst h; simp
 · rw [Int.sign_eq_one_of_pos h]; omega
theorem Qby (z : Int) (d : Nat) (hd : d ≠ 0) : sgZ (decide (z < 0)) (z.natAbs / z.natAbs.gcd d) = (mkRat z d).num ∧ z.natAbs / z.natAbs.gcd d = (mkRat z d).num.natAbs ∧ d / z.natAbs.gcd d - 1 = (mkRat z d).den - 1 := by
 obtain ⟨h1, h2⟩ := Zfb z d hd
 rw [Zo8] at h1
 exact ⟨h1.symm, by rw [h1, Zc7], by rw [h2]⟩
theorem Qep : Ctr Tryz.prog 173 [] [] (Zn9 1) := by
 refine fn_intro func173 rfl ntmps173 nb ?_
 intro S w0 a hS h
 refine gC h (zS (za rfl (zn (zS (zf [_] rfl call181 (Zz1 1 dd) ?_))))); rintro v1 Ψ1 ⟨ad1, c1, rfl, hle1, rfl⟩
 refine za rfl (zn (zt ?_)); intro a w h
 refine Qg (Ψ := [Row ad1 (List.map Zv (dg 1))]) h (Zc h rfl (.tmp rfl)) ?_ ss
 exact ⟨ad1, c1, rfl, hle1, rfl⟩
theorem Zjz (a1 a2 : Option Addr) (c1 c2 : Nat) (x : Rat) (hx : (dg (x.den - 1)).length ≤ 300000000000) : Ctr Tryz.prog 123 [fV x a1 c1 a2 c2] [Row a2 (List.map Zv (dg (x.den - 1)))] (Zn9 x.den) := by
 refine fn_intro func123 rfl ntmps123 nb ?_
 intro S w0 a hS h
 refine gC h (zS (zx rfl fun b1 => za rfl (zn (zs (yD Za [0, 1, 2, 3, 4] (Zd kk) (yp rfl (.fA rfl Zp5) (yd rfl rfl mr isAgg52 sizeOf52 Zbv ?_))))))); clear h
 refine yf [] rfl rfl call173 (Qep) ?_; rintro v5 Ψ5 ⟨ad5, c5, rfl, hle5, rfl⟩
 have hl5 := dg5 1 dd
 refine yf [_, _] rfl rfl call172 (Qeq _ _ _ _ (x.den - 1) 1 oo oo) ?_; rintro v6 Ψ6 ⟨ad6, c6, rfl, hle6, rfl⟩
 have hl6 := Zg3 (x.den - 1) 1
 refine yp rfl (.assign rfl) (yn (zt ?_)); intro a w h
 refine Qg (Ψ := [Row ad6 (List.map Zv (dg (x.den - 1 + 1)))]) h (Zc h rfl (.tmp rfl)) ?_ ss
 rw [Nat.sub_add_cancel x.den_pos] at *; exact ⟨ad6, c6, rfl, hle6, rfl⟩
theorem Qeu (a1 a2 : Option Addr) (c1 c2 : Nat) (x : Rat) (hx : (dg (x.den - 1)).length ≤ 300000000000) : Ctr Tryz.prog 130 [fV x a1 c1 a2 c2] [Row a2 (List.map Zv (dg (x.den - 1)))] (Zzl ((x.den : Nat) : Int)) := by
 refine fn_intro func130 rfl ntmps130 nb ?_
 intro S w0 a hS h
 refine gC h (zS (zx rfl fun b1 => zz zeroValue54 fun b2 => zn (zS (zd rfl mr isAgg56 sizeOf56 Zo ?_))))
 refine zf [_] rfl call123 (Zjz _ _ _ _ x oo) ?_; rintro v4 Ψ4 ⟨ad4, c4, rfl, hle4, rfl⟩
 refine zv [_, _] rfl call132 (Zce false ad4 c4 x.den) (zt' rfl rfl Qe uu sizeOf54 rfl nb rfl ?_); intro a w h
 refine wpList_nil (wp_ret ?_)
 refine Qg (Ψ := [Row ad4 (List.map Zv (dg x.den))]) h (Zc h rfl (.cell rfl mr isAgg54 sizeOf54 Zn)) ?_ ss
 exact Zdc rfl hle4
theorem Zqo (a1 a2 : Option Addr) (c1 c2 : Nat) (z : Int) (d : Nat) (hd : d ≠ 0) (h1 : (dg z.natAbs).length ≤ 300000000000) (h2 : (dg d).length ≤ 300000000000) (hc1 : (dg z.natAbs).length ≤ c1) (hc2 : (dg d).length ≤ c2) :
  Ctr Tryz.prog 127 [zV z a1 c1, .slice a2 (dg d).length c2] [Row a1 (List.map Zv (dg z.natAbs)), Row a2 (List.map Zv (dg d))] (PostF (mkRat z d)) := by
 have hg0 : z.natAbs.gcd d ≠ 0 := fun h => hd (Nat.gcd_eq_zero_iff.1 h).2
 have hgl := Kl (Nat.gcd_le_right (m := z.natAbs) (Nat.pos_of_ne_zero hd))
 have hql := Kl (Nat.div_le_self d (z.natAbs.gcd d))
 have hq1 : 1 ≤ d / z.natAbs.gcd d := Nat.div_pos (Nat.gcd_le_right _ (Nat.pos_of_ne_zero hd)) (Nat.pos_of_ne_zero hg0)
 have h15 := dg5 1 dd
 obtain ⟨hm1, hm2, hm3⟩ := Qby z d hd
 refine fn_intro func127 rfl ntmps127 nb ?_
 intro S w0 a hS h
 refine gC h (zS (zx rfl fun b2 => zz zeroValue56 fun b4 => zn (zS (zp (.fA rfl Ki) (zd rfl mr isAgg52 sizeOf52 Xm ?_)))))
 refine zm rfl (zf [_, _] rfl call175 (C_rGcd _ _ _ _ z.natAbs d oo oo hc1 hc2) ?_); rintro v13 Ψ13 ⟨ad13, c13, rfl, hle13, rfl⟩
 refine za rfl (zn (zS (zp (.fA rfl Ki) (zd rfl mr isAgg52 sizeOf52 Xm ?_))))
 refine zm rfl (zf [_, _] rfl call176 (Zz3 _ _ _ _ z.natAbs (z.natAbs.gcd d) oo oo hg0 hc1) ?_); rintro v18 Ψ18 ⟨ad18, c18, bd18, d18, rfl, hle18, hlf18, rfl⟩
 refine zm rfl (zp (.eX rfl) (zp (.eX rfl) (za rfl (za rfl (zn (zS (zm rfl (zm rfl (zf [_, _] rfl call176 (Zz3 _ _ _ _ d (z.natAbs.gcd d) oo oo hg0 hc2) ?_))))))))); rintro v24 Ψ24 ⟨ad24, c24, bd24, d24, rfl, hle24, hlf24, rfl⟩
 refine zm rfl (zp (.eX rfl) (zp (.eX rfl) (za rfl (za rfl (zn (zS (zp (.fA rfl Zau) (zd rfl mr isAgg4 sizeOf4 Ye ?_))))))))
 refine zm rfl (zv [_, _] rfl call132 (Zce (decide (z < 0)) ad18 c18 (z.natAbs / z.natAbs.gcd d)) (zm rfl (zf [] rfl call173 (Qep) ?_))); rintro v32 Ψ32 ⟨ad32, c32, rfl, hle32, rfl⟩
 have hl32 := dg5 1 dd
 refine zf [_, _] rfl call177 (Ztd _ _ _ _ (d / z.natAbs.gcd d) 1 oo oo hq1) ?_; rintro v33 Ψ33 ⟨ad33, c33, rfl, hle33, rfl⟩
 refine zp (.build [(_, _), (_, _)] rfl (Zn5 _ _ _ _ _)) (zt' rfl rfl Ja uu sizeOf56 rfl nb rfl ?_); intro a w h
 refine wpList_nil (wp_ret ?_)
 refine Qg (Ψ := [Row ad18 (List.map Zv (dg (z.natAbs / z.natAbs.gcd d))), Row ad33 (List.map Zv (dg (d / z.natAbs.gcd d - 1)))]) h (Zc h rfl (.cell rfl mr isAgg56 sizeOf56 Zo)) ?_ ss
 rw [hm1, hm2, hm3] at *; exact ⟨ad18, c18, ad33, c33, rfl, hle18, hle33, rfl⟩
theorem Zkx (n : Int) (h0 : -9223372036854775808 ≤ n) (h1 : n ≤ 9223372036854775807) : Ctr Tryz.prog 67 [.int .i64 n] [] (PostF ((n : Int) : Rat)) := by
 refine fn_intro func67 rfl ntmps67 nb ?_
 intro S w0 a hS h
 refine gC h (zS (zz zeroValue56 fun b2 => zn (zS (zm rfl (zf [_] rfl call133 (C_zOf n oo oo) ?_))))); rintro v4 Ψ4 ⟨ad4, c4, rfl, hle4, rfl⟩
 refine zp (.build [(_, _)] rfl (Qhc _ _)) (zt' rfl rfl Ja uu sizeOf56 rfl nb rfl ?_); intro a w h
 refine wpList_nil (wp_ret ?_)
 replace h := h.derive (R := Row none []) (fun X hX hne => absurd rfl hne)
 have e1 : PostF ((n : Int) : Rat) (.agg #[.bool (decide (n < 0)), .slice ad4 (dg n.natAbs).length c4, .slice none 0 0]) [Row ad4 (List.map Zv (dg n.natAbs)), Row none []] :=
  ⟨ad4, c4, none, 0, by unfold fV; rw [Rat.num_intCast, Rat.den_intCast, Nat.sub_self, Js]; rfl, by rw [Rat.num_intCast]; exact hle4, by rw [Rat.den_intCast, Nat.sub_self, Js]; exact Nat.le_refl _, by rw [Rat.num_intCast, Rat.den_intCast, Nat.sub_self, Js]; rfl⟩
 exact Qg h (Zc h rfl (.cell rfl mr isAgg56 sizeOf56 Zo)) e1 ss
theorem Zcf (x : Rat) (a1 : Option Addr) (c1 : Nat) (a2 : Option Addr) (c2 : Nat) : Ys Tryz.prog 86 [fV x a1 c1 a2 c2] (.int .i64 x.num.sign) := by
 refine fn_intro func86 rfl ntmps86 nb ?_
 intro S w0 a hS h
 refine gC h (zS (zx rfl fun b1 => za rfl (zn (zS (zp (.fA rfl Zcb) (zd rfl mr isAgg54 sizeOf54 Jw ?_))))))
 refine zv [_] rfl call150 (Qhp x.num _ _) (za rfl (zn (zt ?_))); intro a w h
 exact Zbw h
theorem C_fNeg (x : Rat) (a1 : Option Addr) (c1 : Nat) (a2 : Option Addr) (c2 : Nat) : Ys Tryz.prog 126 [fV x a1 c1 a2 c2] (fV (-x) a1 c1 a2 c2) := by
 refine fn_intro func126 rfl ntmps126 nb ?_
 intro S w0 a hS h
 refine gC h (zS (zx rfl fun b1 => zz zeroValue56 fun b2 => zn (zs (yD Za [0, 1, 3, 4, 2, 5, 6] (Zd kk) (yp rfl (.fA rfl Zcb) (yd rfl rfl mr isAgg54 sizeOf54 Jw ?_)))))); clear h
 refine yp rfl (.fA rfl Zp5) (yd rfl rfl mr isAgg52 sizeOf52 Zbv ?_)
 refine yv [_] rfl rfl call174 (C_zNeg x.num a1 c1) (yp rfl (.build [(_, _), (_, _)] rfl (Zn5 _ _ _ _ _)) (yt rfl rfl rfl Ja uu sizeOf56 rfl nb rfl ?_))
 refine yn (zt ?_); intro a w h
 refine Jm h (Zc h rfl (.cell rfl mr isAgg56 sizeOf56 Zo)) ?_
 unfold fV; rw [Rat.neg_num, Rat.neg_den]
theorem Ztg (a1 p1 a2 p2 : Option Addr) (c1 q1 c2 q2 : Nat) (x y : Rat) (hx : Qc x ≤ 10000000000) (hy : Qc y ≤ 10000000000) : Ctr Tryz.prog 65 [fV x a1 c1 a2 c2, fV y p1 q1 p2 q2] [Row a1 (List.map Zv (dg x.num.natAbs)), Row a2 (List.map Zv (dg (x.den - 1))), Row p1 (List.map Zv (dg y.num.natAbs)), Row p2 (List.map Zv (dg (y.den - 1)))] (PostF (x + y)) := by
 obtain ⟨hx1, hx2, hx3⟩ := dgQ hx
 obtain ⟨hy1, hy2, hy3⟩ := dgQ hy
 have hdz : (((x.den : Nat) : Int)).natAbs = x.den := rfl
 have hdy : (((y.den : Nat) : Int)).natAbs = y.den := rfl
 have hxp := x.den_pos
 have hyp := y.den_pos
 have hm1 := Zdh x.num (y.den : Int)
 have hm2 := Zdh y.num (x.den : Int)
 have hm3 := Zdh x.num y.num
 have hs := Zys (x.num * (y.den : Int)) (y.num * (x.den : Int))
 have hdm := Gh x.den y.den
 rw [hdy] at hm1
 rw [hdz] at hm2
 have hq1 : (dg (((x.den : Nat) : Int)).natAbs).length = (dg x.den).length := rfl
 have hq2 : (dg (((y.den : Nat) : Int)).natAbs).length = (dg y.den).length := rfl
 refine fn_intro func65 rfl ntmps65 nb ?_
 intro S w0 a hS h
 refine gC h (zS (zx rfl fun b2 => zx rfl fun b3 => zz zeroValue56 fun b4 => zn (zs (yD Za [0, 1, 2, 5, 6, 7, 11, 13, 3, 4, 8, 9, 10, 12, 14, 15, 16, 17] (Zd kk) (yp rfl (.fA rfl Zcb) (yd rfl rfl mr isAgg54 sizeOf54 Jw ?_)))))); clear h
 refine yd rfl rfl mr isAgg56 sizeOf56 Zo ?_
 refine yp rfl (.fA rfl Zcb) (yd rfl rfl mr isAgg54 sizeOf54 Jw ?_)
 refine yd rfl rfl mr isAgg56 sizeOf56 Zo ?_
 refine yd rfl rfl mr isAgg56 sizeOf56 Zo ?_
 refine yd rfl rfl mr isAgg56 sizeOf56 Zo ?_
 refine yf [_] rfl rfl call130 (Qeu _ _ _ _ y oo) ?_; rintro v8 Ψ8 ⟨ad8, c8, rfl, hle8, rfl⟩
 refine yf [_, _] rfl rfl call129 (Zzp _ _ _ _ x.num (((y.den : Nat) : Int)) oo oo) ?_; rintro v9 Ψ9 ⟨ad9, c9, rfl, hle9, rfl⟩
 have hl9 := Zdh x.num (((y.den : Nat) : Int))
 refine yf [_] rfl rfl call130 (Qeu _ _ _ _ x oo) ?_; rintro v13 Ψ13 ⟨ad13, c13, rfl, hle13, rfl⟩
 refine yf [_, _] rfl rfl call129 (Zzp _ _ _ _ y.num (((x.den : Nat) : Int)) oo oo) ?_; rintro v14 Ψ14 ⟨ad14, c14, rfl, hle14, rfl⟩
 have hl14 := Zdh y.num (((x.den : Nat) : Int))
 refine yf [_, _] rfl rfl call128 (C_zAdd _ _ _ _ (x.num * (((y.den : Nat) : Int))) (y.num * (((x.den : Nat) : Int))) oo oo) ?_; rintro v15 Ψ15 ⟨ad15, c15, rfl, hle15, rfl⟩
 refine yf [_] rfl rfl call123 (Zjz _ _ _ _ x oo) ?_; rintro v17 Ψ17 ⟨ad17, c17, rfl, hle17, rfl⟩
 refine yf [_] rfl rfl call123 (Zjz _ _ _ _ y oo) ?_; rintro v19 Ψ19 ⟨ad19, c19, rfl, hle19, rfl⟩
 refine yf [_, _] rfl rfl call131 (Zof _ _ _ _ x.den y.den oo oo) ?_; rintro v20 Ψ20 ⟨ad20, c20, rfl, hle20, rfl⟩
 have hl20 := Gh x.den y.den
 refine yf [_, _] rfl rfl call127 (Zqo _ _ _ _ (x.num * ((y.den : Nat) : Int) + y.num * ((x.den : Nat) : Int)) (x.den * y.den) (Nat.mul_ne_zero oo oo) oo oo hle15 hle20) ?_; rintro v21 Ψ21 ⟨ad21, c21, bd21, d21, rfl, hle21, hlf21, rfl⟩
 refine yt rfl rfl rfl Ja uu sizeOf56 rfl nb rfl ?_
 refine yn (zt ?_); intro a w h
 refine Qg (Ψ := [Row ad21 (List.map Zv (dg (mkRat (x.num * ((y.den : Nat) : Int) + y.num * ((x.den : Nat) : Int)) (x.den * y.den)).num.natAbs)), Row bd21 (List.map Zv (dg ((mkRat (x.num * ((y.den : Nat) : Int) + y.num * ((x.den : Nat) : Int)) (x.den * y.den)).den - 1)))]) h (Zc h rfl (.cell rfl mr isAgg56 sizeOf56 Zo)) ?_ ss
 rw [Rat.add_def']; exact ⟨ad21, c21, bd21, d21, rfl, hle21, hlf21, rfl⟩
theorem Zjy (a1 p1 a2 p2 : Option Addr) (c1 q1 c2 q2 : Nat) (x y : Rat) (hx : Qc x ≤ 10000000000) (hy : Qc y ≤ 10000000000) : Ctr Tryz.prog 70 [fV x a1 c1 a2 c2, fV y p1 q1 p2 q2] [Row a1 (List.map Zv (dg x.num.natAbs)), Row a2 (List.map Zv (dg (x.den - 1))), Row p1 (List.map Zv (dg y.num.natAbs)), Row p2 (List.map Zv (dg (y.den - 1)))] (PostF (x * y)) := by
 obtain ⟨hx1, hx2, hx3⟩ := dgQ hx
 obtain ⟨hy1, hy2, hy3⟩ := dgQ hy
 have hdz : (((x.den : Nat) : Int)).natAbs = x.den := rfl
 have hdy : (((y.den : Nat) : Int)).natAbs = y.den := rfl
 have hxp := x.den_pos
 have hyp := y.den_pos
 have hm1 := Zdh x.num (y.den : Int)
 have hm2 := Zdh y.num (x.den : Int)
 have hm3 := Zdh x.num y.num
 have hs := Zys (x.num * (y.den : Int)) (y.num * (x.den : Int))
 have hdm := Gh x.den y.den
 rw [hdy] at hm1
 rw [hdz] at hm2
 have hq1 : (dg (((x.den : Nat) : Int)).natAbs).length = (dg x.den).length := rfl
 have hq2 : (dg (((y.den : Nat) : Int)).natAbs).length = (dg y.den).length := rfl
 refine fn_intro func70 rfl ntmps70 nb ?_
 intro S w0 a hS h
 refine gC h (zS (zx rfl fun b2 => zx rfl fun b3 => zz zeroValue56 fun b4 => zn (zs (yD Za [0, 1, 2, 3, 5, 7, 4, 6, 8, 9, 10, 11] (Zd kk) (yp rfl (.fA rfl Zcb) (yd rfl rfl mr isAgg54 sizeOf54 Jw ?_)))))); clear h
 refine yp rfl (.fA rfl Zcb) (yd rfl rfl mr isAgg54 sizeOf54 Jw ?_)
 refine yd rfl rfl mr isAgg56 sizeOf56 Zo ?_
 refine yd rfl rfl mr isAgg56 sizeOf56 Zo ?_
 refine yf [_, _] rfl rfl call129 (Zzp _ _ _ _ x.num y.num oo oo) ?_; rintro v9 Ψ9 ⟨ad9, c9, rfl, hle9, rfl⟩
 have hl9 := Zdh x.num y.num
 refine yf [_] rfl rfl call123 (Zjz _ _ _ _ x oo) ?_; rintro v11 Ψ11 ⟨ad11, c11, rfl, hle11, rfl⟩
 refine yf [_] rfl rfl call123 (Zjz _ _ _ _ y oo) ?_; rintro v13 Ψ13 ⟨ad13, c13, rfl, hle13, rfl⟩
 refine yf [_, _] rfl rfl call131 (Zof _ _ _ _ x.den y.den oo oo) ?_; rintro v14 Ψ14 ⟨ad14, c14, rfl, hle14, rfl⟩
 have hl14 := Gh x.den y.den
 refine yf [_, _] rfl rfl call127 (Zqo _ _ _ _ (x.num * y.num) (x.den * y.den) (Nat.mul_ne_zero oo oo) oo oo hle9 hle14) ?_; rintro v15 Ψ15 ⟨ad15, c15, bd15, d15, rfl, hle15, hlf15, rfl⟩
 refine yt rfl rfl rfl Ja uu sizeOf56 rfl nb rfl ?_
 refine yn (zt ?_); intro a w h
 refine Qg (Ψ := [Row ad15 (List.map Zv (dg (mkRat (x.num * y.num) (x.den * y.den)).num.natAbs)), Row bd15 (List.map Zv (dg ((mkRat (x.num * y.num) (x.den * y.den)).den - 1)))]) h (Zc h rfl (.cell rfl mr isAgg56 sizeOf56 Zo)) ?_ ss
 rw [Rat.mul_def']; exact ⟨ad15, c15, bd15, d15, rfl, hle15, hlf15, rfl⟩
theorem C_fInv (ad b1 : Option Addr) (c d1 : Nat) (y : Rat) (hy : y ≠ 0) (h1 : (dg y.den).length ≤ 300000000000) (h2 : (dg y.num.natAbs).length ≤ 300000000000) (hc1 : (dg y.den).length ≤ c) (hc2 : (dg y.num.natAbs).length ≤ d1) :
  Ctr Tryz.prog 127 [.agg #[.bool (decide (sgZ (decide (y.num < 0)) y.den < 0)), .slice ad (dg y.den).length c], .slice b1 (dg y.num.natAbs).length d1] [Row ad (List.map Zv (dg y.den)), Row b1 (List.map Zv (dg y.num.natAbs))] (PostF y⁻¹) := by
 have h0 : y.num.natAbs ≠ 0 := fun h => hy (Rat.num_eq_zero.1 (Int.natAbs_eq_zero.1 h))
 have e := Zc7 (decide (y.num < 0)) y.den
 have h := Zqo ad b1 c d1 (sgZ (decide (y.num < 0)) y.den) y.num.natAbs h0 (by rw [e]; exact h1) h2 (by rw [e]; exact hc1) hc2
 rw [← Zo8, Zf4 y hy, Zo8] at h
 unfold zV at h
 rw [e] at h
 exact h
theorem C_fDiv (a1 p1 a2 p2 : Option Addr) (c1 q1 c2 q2 : Nat) (x y : Rat) (hx : Qc x ≤ 10000000000) (hy : Qc y ≤ 10000000000) (hc : (dg y.num.natAbs).length ≤ q1) : Ctr Tryz.prog 66 [fV x a1 c1 a2 c2, fV y p1 q1 p2 q2] [Row a1 (List.map Zv (dg x.num.natAbs)), Row a2 (List.map Zv (dg (x.den - 1))), Row p1 (List.map Zv (dg y.num.natAbs)), Row p2 (List.map Zv (dg (y.den - 1)))] (PostF (x / y)) := by
 obtain ⟨hy1, hy2, hy3⟩ := dgQ hy
 have hi := Zr2 y
 refine fn_intro func66 rfl ntmps66 nb ?_
 intro S w0 a hS h
 refine gC h (zS (zx rfl fun b2 => zx rfl fun b3 => zz zeroValue56 fun b4 => zn (zs (zS (zd rfl mr isAgg56 sizeOf56 Zo ?_)))))
 refine zv [_] rfl call86 (Zcf y _ _ _ _) (zp (.eql rfl rfl) (zn ?_)); intro a w h
 refine cW ?_
 refine Zb h rfl (fun hc7 => ?_) (fun hc7 => ?_)
 ·
  skip
  have hz : y = 0 := Rat.num_eq_zero.1 (Int.sign_eq_zero_iff_zero.1 (eq_of_beq hc7))
  refine gC h (zS (zp (.build [] rfl (Qhb)) (zt' rfl rfl Ja uu sizeOf56 rfl nb rfl ?_))); clear h; intro a w h
  refine wpList_nil (wp_ret ?_)
  replace h := h.derive (R := Row none []) (fun X hX hne => absurd rfl hne)
  have e1 : PostF (x / y) (.agg #[.bool false, .slice none 0 0, .slice none 0 0]) [Row none [], Row none []] := by
   subst hz; rw [Rat.div_def, Rat.inv_zero, Rat.mul_zero]
   exact ⟨none, 0, none, 0, by unfold fV; rw [show (0 : Rat).num = 0 from rfl, show (0 : Rat).den - 1 = 0 from rfl, show (0 : Int).natAbs = 0 from rfl, Js]; rfl, by rw [show (0 : Rat).num = 0 from rfl, show (0 : Int).natAbs = 0 from rfl, Js]; exact Nat.le_refl _, by rw [show (0 : Rat).den - 1 = 0 from rfl, Js]; exact Nat.le_refl _, by rw [show (0 : Rat).num = 0 from rfl, show (0 : Rat).den - 1 = 0 from rfl, show (0 : Int).natAbs = 0 from rfl, Js]; rfl⟩
  exact Qg h (Zc h rfl (.cell rfl mr isAgg56 sizeOf56 Zo)) e1 ss
 ·
  skip
  have hz : y ≠ 0 := fun e => by subst e; exact absurd hc7 dd
  refine gC h (zk (zs (yD Za [0, 1, 2, 3, 4, 7, 8, 9, 5, 6, 10, 11, 12] (Zd kk) (yd rfl rfl mr isAgg56 sizeOf56 Zo ?_)))); clear h
  refine yp rfl (.fA rfl Zcb) (yp rfl (.fA rfl Zau) (yd rfl rfl mr isAgg4 sizeOf4 rs_3_0 ?_))
  refine yd rfl rfl mr isAgg56 sizeOf56 Zo ?_
  refine yp rfl (.fA rfl Zcb) (yp rfl (.fA rfl Ki) (yd rfl rfl mr isAgg52 sizeOf52 rs_3_1 ?_))
  refine yf [_] rfl rfl call123 (Zjz _ _ _ _ y oo) ?_; rintro v14 Ψ14 ⟨ad14, c14, rfl, hle14, rfl⟩
  refine yv [_, _] rfl rfl call132 (Zce (decide (y.num < 0)) ad14 c14 y.den) (yf [_, _] rfl rfl call127 (C_fInv _ _ _ _ y hz oo oo oo hc) ?_); rintro v19 Ψ19 ⟨ad19, c19, bd19, d19, rfl, hle19, hlf19, rfl⟩
  refine yf [_, _] rfl rfl call70 (Zjy _ _ _ _ _ _ _ _ x (y⁻¹) oo oo) ?_; rintro v20 Ψ20 ⟨ad20, c20, bd20, d20, rfl, hle20, hlf20, rfl⟩
  have hl20 := Qf x (y⁻¹)
  refine yt rfl rfl rfl Ja uu sizeOf56 rfl nb rfl ?_
  refine yn (zt ?_); intro a w h
  refine Qg (Ψ := [Row ad20 (List.map Zv (dg (x * y⁻¹).num.natAbs)), Row bd20 (List.map Zv (dg ((x * y⁻¹).den - 1)))]) h (Zc h rfl (.cell rfl mr isAgg56 sizeOf56 Zo)) ?_ ss
  rw [Rat.div_def]; exact ⟨ad20, c20, bd20, d20, rfl, hle20, hlf20, rfl⟩
theorem C_fOf (n m : Int) (h0 : -9223372036854775808 ≤ n) (h1 : n ≤ 9223372036854775807) (h2 : -9223372036854775808 ≤ m) (h3 : m ≤ 9223372036854775807) : Ctr Tryz.prog 116 [.int .i64 n, .int .i64 m] [] (PostF (((n : Int) : Rat) / ((m : Int) : Rat))) := by
 refine fn_intro func116 rfl ntmps116 nb ?_
 intro S w0 a hS h
 refine gC h (zS (zz zeroValue56 fun b4 => zn (zS (zm rfl (zf [_] rfl call67 (Zkx n oo oo) ?_))))); rintro v6 Ψ6 ⟨ad6, c6, bd6, d6, rfl, hle6, hlf6, rfl⟩
 have hl6 := Zw n oo oo
 refine zm rfl (zf [_] rfl call67 (Zkx m oo oo) ?_); rintro v8 Ψ8 ⟨ad8, c8, bd8, d8, rfl, hle8, hlf8, rfl⟩
 have hl8 := Zw m oo oo
 refine zf [_, _] rfl call66 (C_fDiv _ _ _ _ _ _ _ _ (((n : Int) : Rat)) (((m : Int) : Rat)) oo oo (by first | assumption | omega)) ?_; rintro v9 Ψ9 ⟨ad9, c9, bd9, d9, rfl, hle9, hlf9, rfl⟩
 have hl9 := Zr3 (((n : Int) : Rat)) (((m : Int) : Rat))
 refine zt' rfl rfl Ja uu sizeOf56 rfl nb rfl ?_; intro a w h
 refine wpList_nil (wp_ret ?_)
 refine Qg (Ψ := [Row ad9 (List.map Zv (dg (((n : Int) : Rat) / ((m : Int) : Rat)).num.natAbs)), Row bd9 (List.map Zv (dg ((((n : Int) : Rat) / ((m : Int) : Rat)).den - 1)))]) h (Zc h rfl (.cell rfl mr isAgg56 sizeOf56 Zo)) ?_ ss
 exact ⟨ad9, c9, bd9, d9, rfl, hle9, hlf9, rfl⟩
end
section
theorem Zos (w : World) : (zeroValue 56).run Tryz.prog w = .ok (fV 0 none 0 none 0) w := by
 have e : fV 0 none 0 none 0 = .agg #[.bool false, .slice none 0 0, .slice none 0 0] := by
  unfold fV; rw [show (0 : Rat).num = 0 from rfl, show (0 : Rat).den - 1 = 0 from rfl, show (0 : Int).natAbs = 0 from rfl, Js]; rfl
 rw [e]; exact zeroValue56 w
structure FT where
 x : Rat
 a1 : Option Addr
 c1 : Nat
 a2 : Option Addr
 c2 : Nat
 h1 : (dg x.num.natAbs).length ≤ c1
 h2 : (dg (x.den - 1)).length ≤ c2
abbrev Jr (e : FT) : Value := .agg #[.bool (decide (e.x.num < 0)), .slice e.a1 (dg e.x.num.natAbs).length e.c1, .slice e.a2 (dg (e.x.den - 1)).length e.c2]
def FT0 : FT := ⟨0, none, 0, none, 0, by rw [show (0 : Rat).num.natAbs = 0 from rfl, Js]; exact Nat.le_refl _, by rw [show (0 : Rat).den - 1 = 0 from rfl, Js]; exact Nat.le_refl _⟩
def AllF (l : List FT) : Zy where
 p X w := ∀ e ∈ l, (Row e.a1 (List.map Zv (dg e.x.num.natAbs))).p X w ∧ (Row e.a2 (List.map Zv (dg (e.x.den - 1)))).p X w
 st X X' w w' h hk hs hX e he := ⟨(Row e.a1 _).st X X' w w' (h e he).1 hk hs hX, (Row e.a2 _).st X X' w w' (h e he).2 hk hs hX⟩
theorem AllF.get1 {l : List FT} {e : FT} {X : Nat → Prop} {w : World} (h : (AllF l).p X w) (he : e ∈ l) : (Row e.a1 (List.map Zv (dg e.x.num.natAbs))).p X w := (h e he).1
theorem AllF.get2 {l : List FT} {e : FT} {X : Nat → Prop} {w : World} (h : (AllF l).p X w) (he : e ∈ l) : (Row e.a2 (List.map Zv (dg (e.x.den - 1)))).p X w := (h e he).2
theorem AllF.nil (X : Nat → Prop) (w : World) : (AllF []).p X w := fun e he => by cases he
theorem AllF.snoc {l : List FT} {e : FT} {X : Nat → Prop} {w : World} (h : (AllF l).p X w) (h1 : (Row e.a1 (List.map Zv (dg e.x.num.natAbs))).p X w) (h2 : (Row e.a2 (List.map Zv (dg (e.x.den - 1)))).p X w) : (AllF (l ++ [e])).p X w := by
 intro f hf
 rcases List.mem_append.1 hf with hf | hf
 · exact h f hf
 · rw [List.mem_singleton] at hf; subst hf; exact ⟨h1, h2⟩
end
section
theorem Zye {b off : Nat} (w : World) : (Instr.fieldAt 25 (.pointer (some ⟨b, off, none⟩)) 0).run Tryz.prog w = .ok (.pointer (some ⟨b, off + 0, none⟩)) w := by
 simp [go_sem]
theorem Zyd {b off : Nat} (w : World) : (Instr.fieldAt 25 (.pointer (some ⟨b, off, none⟩)) 1).run Tryz.prog w = .ok (.pointer (some ⟨b, off + 1, none⟩)) w := by
 simp [go_sem]
theorem Qg6 (x : Int) (w : World) : (Go.convert 23 2 (.int .u32 x)).run Tryz.prog w = .ok (.int .i64 (IntKind.i64.wrap x)) w := by
 simp [go_sem]
theorem Zsw (x : Int) (h0 : IntKind.i64.wrap x = x) (w : World) : (Go.convert 23 2 (.int .u32 x)).run Tryz.prog w = .ok (.int .i64 x) w := by
 rw [Qg6, h0]
def qv (N D : Int) : Rat := ((N : Int) : Rat) / ((max D 1 : Int) : Rat)
theorem Ju (N D : Int) (h0 : -9223372036854775808 ≤ N) (h1 : N ≤ 9223372036854775807) (h2 : 0 ≤ D) (h3 : D ≤ 4294967295) : Qc (qv N D) ≤ 4 := Zlj N (max D 1) h0 h1 oo oo
theorem Zy9 (x y : Int) (w : World) (ty : TypeId) (cs : Array Bool) : (Go.builtin .max #[23, 23] ty cs #[.int .u32 x, .int .u32 y]).run Tryz.prog w = .ok (.value (.int .u32 (max x y))) w := by
 simp [go_sem] <;> (try rw [Int.max_def]) <;> (try split) <;> (try split) <;> (try omega)
abbrev Zjg (q : Int × Int) : Value := .agg #[.int .i64 q.1, .int .u32 q.2]
def OkQ (q : Int × Int) : Prop := -9223372036854775808 ≤ q.1 ∧ q.1 ≤ 9223372036854775807 ∧ 0 ≤ q.2 ∧ q.2 ≤ 4294967295
def qvp (q : Int × Int) : Rat := qv q.1 q.2
theorem Jn {q : Int × Int} (h : OkQ q) : Qc (qvp q) ≤ 4 := Ju _ _ h.1 h.2.1 h.2.2.1 h.2.2.2
theorem Zdr (N D : Int) (h0 : -9223372036854775808 ≤ N) (h1 : N ≤ 9223372036854775807) (h2 : 0 ≤ D) (h3 : D ≤ 4294967295) : Ys Tryz.prog 62 [.agg #[.int .i64 N, .int .u32 D]] (Jo (qv N D)) := by
 refine fn_intro func62 rfl ntmps62 nb ?_
 intro S w0 a hS h
 refine gC h (zS (zx rfl fun b1 => zz Vd fun b2 => zn (zS (zp (.fA rfl Zye) (zd rfl mr isAgg2 sizeOf2 Ye ?_)))))
 refine zp (.fA rfl Zyd) (zd rfl mr isAgg23 sizeOf23 Xm ?_)
 refine zp (.builtin [_, _] rfl (fun w ty cs => Zy9 _ _ w ty cs)) (zp (.convert rfl (Zsw _ (wrap_i64 _ oo oo))) (zv [_, _] rfl call60 (C_QOf _ _ oo oo oo oo oo) ?_))
 have hl12 := Zlj (N) (max D 1) oo oo oo oo
 refine zm rfl (zp (.eX rfl) (zp (.eX rfl) (zz Vd fun b3 => zt' rfl rfl Qi uu sizeOf44 rfl nb rfl ?_)))
 refine za rfl (zn (zS (zd rfl mr isAgg44 sizeOf44 Zh ?_)))
 refine zt' rfl rfl Qi uu sizeOf44 rfl nb rfl ?_; intro a w h
 refine wpList_nil (wp_ret ?_)
 refine Jm h (Zc h rfl (.cell rfl mr isAgg44 sizeOf44 Zh)) ?_
 rfl
theorem Zeh (N D : Int) (h0 : -9223372036854775808 ≤ N) (h1 : N ≤ 9223372036854775807) (h2 : 0 ≤ D) (h3 : D ≤ 4294967295) : Ctr Tryz.prog 53 [.agg #[.int .i64 N, .int .u32 D]] [] (PostF (qv N D)) := by
 refine fn_intro func53 rfl ntmps53 nb ?_
 intro S w0 a hS h
 refine gC h (zS (zx rfl fun b1 => zz Zos fun b2 => zn (zS (zp (.fA rfl Zye) (zd rfl mr isAgg2 sizeOf2 Ye ?_)))))
 refine zp (.fA rfl Zyd) (zd rfl mr isAgg23 sizeOf23 Xm ?_)
 refine zp (.builtin [_, _] rfl (fun w ty cs => Zy9 _ _ w ty cs)) (zp (.convert rfl (Zsw _ (wrap_i64 _ oo oo))) (zf [_, _] rfl call116 (C_fOf N (max D 1) oo oo oo oo) ?_)); rintro v9 Ψ9 ⟨ad9, c9, bd9, d9, rfl, hle9, hlf9, rfl⟩
 have hl9 := Zlj N (max D 1) oo oo oo oo
 refine zt' rfl rfl Ja uu sizeOf56 rfl nb rfl ?_; intro a w h
 refine wpList_nil (wp_ret ?_)
 refine Qg (Ψ := [Row ad9 (List.map Zv (dg (((N : Int) : Rat) / ((max D 1 : Int) : Rat)).num.natAbs)), Row bd9 (List.map Zv (dg ((((N : Int) : Rat) / ((max D 1 : Int) : Rat)).den - 1)))]) h (Zc h rfl (.cell rfl mr isAgg56 sizeOf56 Zo)) ?_ ss
 unfold qv; exact ⟨ad9, c9, bd9, d9, rfl, hle9, hlf9, rfl⟩
end
section
theorem Znk (a : Option Addr) (n c : Nat) (w : World) (ty : TypeId) (cs : Array Bool) : (Go.builtin .len #[51] ty cs #[.slice a n c]).run Tryz.prog w = .ok (.value (.int .i64 n)) w := by
 simp [go_sem]
theorem ix_51 (b off n c j : Nat) (h : j < n) (w : World) : (Instr.indexAt 51 (.slice (some ⟨b, off, none⟩) n c) (.int .i64 (j : Int))).run Tryz.prog w = .ok (.pointer (some ⟨b, off + j, none⟩)) w := by
 simpa using Xx runUnderlying51 sizeOf3 b off n c j h w
def upQ (q : Rat) : Nat → Rat
 | 0 => q
 | p + 1 => upQ q p * (((p + 1 : Nat) : Int) : Rat)
def downQ (q : Rat) : Nat → Rat
 | 0 => q
 | n + 1 => downQ q n / (((n + 1 : Nat) : Int) : Rat)
def ratioQ (n : Nat) (l : List Nat) : Rat := downQ (l.foldl upQ 1) n
def momentQ (i j k : Nat) : Rat := ((2 : Int) : Rat) * ratioQ (i + j + k + 2) [i, j, k]
theorem Zli : Qc 1 ≤ 2 := Zw 1 oo oo
theorem Zr0 (x : Rat) : ∀ i : Nat, Qc (x ^ i) ≤ 2 + i * Qc x
 | 0 => by rw [Rat.pow_zero]; have := Zli; omega
 | i + 1 => by
  rw [Rat.pow_succ]
  have h1 := Zr0 x i
  have h2 := Qf (x ^ i) x
  rw [Nat.add_mul]; omega
theorem Zcs (x : Rat) (i : Nat) (k m : Nat) (hx : Qc x ≤ k) (hi : i ≤ m) : Qc (x ^ i) ≤ 2 + m * k :=
 Nat.le_trans (Zr0 x i) (Nat.add_le_add_left (Nat.mul_le_mul hi hx) 2)
end
section
abbrev enci (x : Int) : Value := .int .i64 x
def orI : List Int → Int
 | [] => 0
 | x :: l => if x ≠ 0 then x else orI l
theorem Zw2 : ∀ (l : List Int) (i : Nat), (∀ j, j < i → l.getD j 0 = 0) → i < l.length → l.getD i 0 ≠ 0 → orI l = l.getD i 0
 | [], i, _, h, _ => by simp at h
 | x :: l, 0, _, _, h => by rw [orI]; exact if_pos (by simpa using h)
 | x :: l, i + 1, hz, hl, h => by
  have h0 : x = 0 := by simpa using hz 0 oo
  rw [orI, if_neg (by simp [h0]), Zw2 l i (fun j hj => by simpa using hz (j + 1) oo) (by simpa using hl) (by simpa using h)]
  simp
theorem Zrk : ∀ (l : List Int), (∀ j, j < l.length → l.getD j 0 = 0) → orI l = 0
 | [], _ => rfl
 | x :: l, hz => by
  have h0 : x = 0 := by simpa using hz 0 ss
  rw [orI, if_neg (by simp [h0]), Zrk l (fun j hj => by simpa using hz (j + 1) (by simpa using hj))]
def idxN : List Rat → Nat → Int
 | [], _ => -1
 | x :: l, i => if x.num.sign < 0 then (i : Int) else idxN l (i + 1)
def cfN (E : List Rat) (i k : Nat) : Int := orI [(E.getD k 0 - E.getD i 0).num.sign, Zqh (i : Int) (k : Int)]
theorem C_Or (ad : Option Addr) (c : Nat) (l : List Int) (hn : l.length ≤ 1000) : Vj Tryz.prog 151 [.slice ad l.length c] [Row ad (List.map enci l)] (.int .i64 (orI l)) := by
 refine fn_intro func151 rfl ntmps151 nb ?_
 intro S w0 a hS h
 refine gC h (zS (za rfl (zn (zS (za rfl (zn (zs (zS (zm rfl (zp (.builtin [_] rfl (Znk _ _ _)) (zm rfl (zn (zb ?_))))))))))))); clear h; intro a w h
 refine Zf (fun (i : Nat) a w => i ≤ l.length ∧ (∀ j, j < i → l.getD j 0 = 0) ∧ St 18 S w0 [(3, .int .i64 0), (6, .slice ad l.length c), (7, nI l.length), (8, nI i)] [] [Row ad (List.map enci l)] a w) (fun i => l.length - i) 0 (⟨Nat.zero_le _, fun j hj => absurd hj oo, by exact (h).sub sA⟩) ?_; clear h
 rintro i a w ⟨hi_i, hinv_i, h⟩
 refine gC h (zS (zp (.lss rfl rfl) (zn (zs ?_)))); clear h; intro a w h
 refine Zb h rfl (fun hc9 => ?_) (fun hc9 => ?_)
 ·
  skip
  have hlt_i : i < l.length := dT hc9
  obtain ⟨B_ad, O_ad, rfl⟩ := h.row_addr (ad := ad) (M := List.map enci l) mm nF
  refine gC h (zk (zs (zb (zS (zp (.indexAddr rfl rfl (ix_51 _ _ _ _ _ oo)) (zD rfl mm (by rw [List.length_map]; omega) isAgg3 sizeOf3 (Qa (enc := enci) (l := l) 0 oo) (.inr rfl) ?_))))))
  refine za rfl (zn (zS (zm rfl (zm rfl (zp (.neq rfl rfl) ?_))))); intro a w h
  refine Zg h (fun hc14 h => ?_) (fun hc14 h => ?_)
  ·
   skip
   refine wpList_nil ?_
   refine cW ?_
   refine Zq h rfl ?_
   refine gC h (zS (zm rfl (za rfl (zn (zt ?_))))); clear h; intro a w h
   refine Jm h (Zc h rfl (.tmp rfl)) ?_
   rw [Zw2 l i hinv_i hlt_i (by simpa using hc14)]
  ·
   skip
   refine wpList_nil ?_
   refine cW ?_
   refine Zj h rfl ?_
   refine gC h (zk (zr (zp (.pN (i + 1) (.add rfl rfl)) (zm rfl (zn ?_))))); clear h; intro a w h
   exact ⟨i + 1, ⟨oo, fun j hj => by
    rcases Nat.lt_or_ge j i with h1 | h1
    · exact hinv_i j h1
    · rw [show j = i by omega]; simpa using hc14, (h.factsSub (by simp)).sub sA⟩, oo⟩
 ·
  skip
  have heq_i : l.length = i := dF hc9
  subst heq_i
  refine gC h (ze (zS (zm rfl (za rfl (zn (zt ?_)))))); clear h; intro a w h
  refine Jm h (Zc h rfl (.tmp rfl)) ?_
  rw [Zrk l hinv_i]
end
section
structure Tm where
 i : Nat
 j : Nat
 c : Rat
theorem Tm.ext' {s t : Tm} (h1 : s.i = t.i) (h2 : s.j = t.j) (h3 : s.c = t.c) : s = t := by cases s; cases t; simp_all
instance : DecidableEq Tm := fun s t => decidable_of_iff (s.i = t.i ∧ s.j = t.j ∧ s.c = t.c) ⟨fun h => Tm.ext' h.1 h.2.1 h.2.2, fun h => by rw [h]; exact ⟨rfl, rfl, rfl⟩⟩
def lin (φ : Nat → Nat → Rat) : List Tm → Rat
 | [] => 0
 | t :: l => t.c * φ t.i t.j + lin φ l
theorem Zle (φ : Nat → Nat → Rat) : lin φ [] = 0 := rfl
theorem Jf (φ : Nat → Nat → Rat) : ∀ l m : List Tm, lin φ (l ++ m) = lin φ l + lin φ m
 | [], m => by simp only [List.nil_append, lin]; grind
 | t :: l, m => by simp only [List.cons_append, lin, Jf φ l m]; grind
theorem Qb1 (φ : Nat → Nat → Rat) {l m : List Tm} (h : l.Perm m) : lin φ l = lin φ m := by
 induction h with
 | nil => rfl
 | cons x _ ih => simp only [lin, ih]
 | swap x y l => simp only [lin]; grind
 | trans _ _ h1 h2 => rw [h1, h2]
theorem Xu {φ ψ : Nat → Nat → Rat} : ∀ {l : List Tm}, (∀ t ∈ l, φ t.i t.j = ψ t.i t.j) → lin φ l = lin ψ l
 | [], _ => rfl
 | t :: l, h => by rw [lin, lin, h t List.mem_cons_self, Xu (fun s hs => h s (List.mem_cons_of_mem _ hs))]
theorem Zfd (φ ψ : Nat → Nat → Rat) : ∀ l : List Tm, lin (fun i j => φ i j + ψ i j) l = lin φ l + lin ψ l
 | [] => by simp only [lin]; grind
 | t :: l => by simp only [lin, Zfd φ ψ l]; grind
theorem Zes (a : Rat) (φ : Nat → Nat → Rat) : ∀ l : List Tm, lin (fun i j => a * φ i j) l = a * lin φ l
 | [] => by simp only [lin]; grind
 | t :: l => by simp only [lin, Zes a φ l]; grind
theorem Zet (a : Rat) (φ : Nat → Nat → Rat) : ∀ l : List Tm, lin (fun i j => φ i j * a) l = lin φ l * a
 | [] => by simp only [lin]; grind
 | t :: l => by simp only [lin, Zet a φ l]; grind
theorem Ziy (φ : Nat → Nat → Rat) (g : Tm → Tm) (ψ : Nat → Nat → Rat) : ∀ l : List Tm, (∀ t ∈ l, (g t).c * φ (g t).i (g t).j = t.c * ψ t.i t.j) → lin φ (l.map g) = lin ψ l
 | [], _ => rfl
 | t :: l, h => by rw [List.map_cons, lin, lin, h t List.mem_cons_self, Ziy φ g ψ l (fun s hs => h s (List.mem_cons_of_mem _ hs))]
theorem Zfc (φ : Nat → Nat → Rat) (g : Tm → List Tm) (ψ : Nat → Nat → Rat) : ∀ l : List Tm, (∀ t ∈ l, lin φ (g t) = t.c * ψ t.i t.j) → lin φ (l.flatMap g) = lin ψ l
 | [], _ => rfl
 | t :: l, h => by rw [List.flatMap_cons, Jf, lin, h t List.mem_cons_self, Zfc φ g ψ l (fun s hs => h s (List.mem_cons_of_mem _ hs))]
def same (s t : Tm) : Prop := s.i = t.i ∧ s.j = t.j
instance (s t : Tm) : Decidable (same s t) := inferInstanceAs (Decidable (_ ∧ _))
def Zdq (t : Tm) : List Tm → List Tm
 | [] => [⟨t.i, t.j, 0 + t.c⟩]
 | s :: p => if same s t then ⟨s.i, s.j, s.c + t.c⟩ :: p else s :: Zdq t p
theorem Zry (φ : Nat → Nat → Rat) (t : Tm) : ∀ p : List Tm, lin φ (Zdq t p) = lin φ p + t.c * φ t.i t.j
 | [] => by simp only [Zdq, lin]; grind
 | s :: p => by
  rw [Zdq]
  split
  · rename_i h; obtain ⟨h1, h2⟩ := h; simp only [lin, h1, h2]; grind
  · simp only [lin, Zry φ t p]; grind
theorem Zln {t u : Tm} : ∀ {p : List Tm}, u ∈ Zdq t p → same u t ∨ u ∈ p
 | [], h => by simp only [Zdq, List.mem_singleton] at h; subst h; exact .inl ⟨rfl, rfl⟩
 | s :: p, h => by
  rw [Zdq] at h
  split at h
  ·
   rename_i h2
   rcases List.mem_cons.1 h with rfl | h
   · exact .inl h2
   · exact .inr (List.mem_cons_of_mem _ h)
  ·
   rcases List.mem_cons.1 h with rfl | h
   · exact .inr List.mem_cons_self
   · exact (Zln h).imp id (List.mem_cons_of_mem _)
def dif (p : List Tm) : Prop := p.Pairwise (fun s t => ¬ same s t)
theorem Zsd (t : Tm) : ∀ {p : List Tm}, dif p → dif (Zdq t p)
 | [], _ => by rw [Zdq]; exact List.pairwise_singleton _ _
 | s :: p, h => by
  obtain ⟨h1, h2⟩ := List.pairwise_cons.1 h
  rw [Zdq]
  split
  · rename_i hs; exact List.pairwise_cons.2 ⟨fun u hu hc => h1 u hu hc, h2⟩
  ·
   rename_i hs
   refine List.pairwise_cons.2 ⟨fun u hu => ?_, Zsd t h2⟩
   rcases Zln hu with h3 | h3
   · exact fun h4 => hs ⟨h4.1.trans h3.1, h4.2.trans h3.2⟩
   · exact h1 u h3
theorem Zsc (t : Tm) : ∀ p : List Tm, (Zdq t p).length ≤ p.length + 1
 | [] => Nat.le_refl _
 | s :: p => by
  have h := Zsc t p
  rw [Zdq]; split <;> simp only [List.length_cons] <;> omega
def collect (l : List Tm) : List Tm := l.foldl (fun p t => Zdq t p) []
theorem Zjm (φ : Nat → Nat → Rat) : ∀ (l p : List Tm), lin φ (l.foldl (fun p t => Zdq t p) p) = lin φ p + lin φ l
 | [], p => by simp only [List.foldl_nil, lin]; grind
 | t :: l, p => by rw [List.foldl_cons, Zjm φ l, Zry, lin]; grind
theorem Zpx (φ : Nat → Nat → Rat) (l : List Tm) : lin φ (collect l) = lin φ l := by
 rw [collect, Zjm, lin]; grind
theorem Zed : ∀ (l : List Tm) {p : List Tm}, dif p → dif (l.foldl (fun p t => Zdq t p) p)
 | [], p, h => h
 | t :: l, p, h => by rw [List.foldl_cons]; exact Zed l (Zsd t h)
theorem Zjn (l : List Tm) : dif (collect l) := Zed l List.Pairwise.nil
theorem Zeb {u : Tm} : ∀ (l : List Tm) {p : List Tm}, u ∈ l.foldl (fun p t => Zdq t p) p → u ∈ p ∨ ∃ t ∈ l, same u t
 | [], p, h => .inl h
 | t :: l, p, h => by
  rw [List.foldl_cons] at h
  rcases Zeb l h with h1 | ⟨s, hs, h1⟩
  ·
   rcases Zln h1 with h2 | h2
   · exact .inr ⟨t, List.mem_cons_self, h2⟩
   · exact .inl h2
  · exact .inr ⟨s, List.mem_cons_of_mem _ hs, h1⟩
theorem Zah {l : List Tm} {u : Tm} (h : u ∈ collect l) : ∃ t ∈ l, same u t := by
 rcases Zeb l h with h | h
 · cases h
 · exact h
theorem Zec : ∀ (l p : List Tm), (l.foldl (fun p t => Zdq t p) p).length ≤ p.length + l.length
 | [], p => Nat.le_refl _
 | t :: l, p => by rw [List.foldl_cons]; have := Zec l (Zdq t p); have := Zsc t p; simp only [List.length_cons]; omega
theorem Zfg (l : List Tm) : (collect l).length ≤ l.length := by have := Zec l []; simpa [collect] using this
def ltT (s t : Tm) : Bool := decide (s.i + s.j < t.i + t.j ∨ (s.i + s.j = t.i + t.j ∧ s.j < t.j))
theorem Kz (s t : Tm) : ltT s t = true ↔ (s.i + s.j < t.i + t.j ∨ (s.i + s.j = t.i + t.j ∧ s.j < t.j)) := decide_eq_true_iff
theorem Zkn (s : Tm) : ltT s s = false := by rw [Bool.eq_false_iff, Ne, Kz]; omega
theorem Zfw {s t u : Tm} (h1 : ltT s t = true) (h2 : ltT t u = true) : ltT s u = true := by rw [Kz] at *; omega
theorem Zkm {s t u : Tm} (h1 : ltT s t = false) (h2 : ltT t u = false) : ltT s u = false := by rw [Bool.eq_false_iff, Ne, Kz] at *; omega
theorem Ziu {s t : Tm} (h1 : ltT s t = false) (h2 : ltT t s = false) : same s t := by
 rw [Bool.eq_false_iff, Ne, Kz] at *; unfold same; omega
def Nrm (p : List Tm) : Prop := (∀ t ∈ p, t.c ≠ 0) ∧ p.Pairwise (fun s t => ltT s t = true)
def norm (l : List Tm) : List Tm := ((collect l).filter (fun t => decide (t.c ≠ 0))).mergeSort (fun s t => !ltT t s)
theorem Zgu (φ : Nat → Nat → Rat) : ∀ l : List Tm, lin φ (l.filter (fun t => decide (t.c ≠ 0))) = lin φ l
 | [] => rfl
 | t :: l => by
  rw [List.filter_cons]
  split
  · rw [lin, lin, Zgu φ l]
  ·
   rename_i h
   have h0 : t.c = 0 := by simpa using h
   rw [lin, Zgu φ l, h0]; grind
theorem Kq (φ : Nat → Nat → Rat) (l : List Tm) : lin φ (norm l) = lin φ l := by
 rw [norm, Qb1 φ (List.mergeSort_perm _ _), Zgu, Zpx]
theorem Zay {l : List Tm} {u : Tm} (h : u ∈ norm l) : u ∈ collect l ∧ u.c ≠ 0 := by
 have := (List.mergeSort_perm _ _).mem_iff.1 h
 rw [List.mem_filter] at this
 exact ⟨this.1, by simpa using this.2⟩
theorem Qr (l : List Tm) : Nrm (norm l) := by
 refine ⟨fun t ht => (Zay ht).2, ?_⟩
 have hd : dif (norm l) := by
  have h1 : dif ((collect l).filter (fun t => decide (t.c ≠ 0))) := List.Pairwise.filter _ (Zjn l)
  refine (List.Perm.pairwise_iff (fun {x y} h h2 => h ⟨h2.1.symm, h2.2.symm⟩) (List.mergeSort_perm _ _)).2 h1
 have hs := List.pairwise_mergeSort (le := fun s t => !ltT t s) (fun a b c h1 h2 => by
   simp only [Bool.not_eq_true'] at *
   exact Zkm h2 h1) (fun a b => by
   rcases h : ltT b a with _ | _
   · simp
   ·
    have : ltT a b = false := by rw [Bool.eq_false_iff]; intro h2; have := Zfw h h2; rw [Zkn] at this; cases this
    simp [this]) ((collect l).filter (fun t => decide (t.c ≠ 0)))
 refine List.Pairwise.imp₂ (fun s t h1 h2 => ?_) hs hd
 rcases h : ltT s t with _ | _
 · exact absurd (Ziu h (by simpa using h1)) h2
 · rfl
def at0 (a b : Nat) : Nat → Nat → Rat := fun i j => if i = a ∧ j = b then 1 else 0
theorem Yc {a b : Nat} : ∀ {l : List Tm}, (∀ t ∈ l, ¬ (t.i = a ∧ t.j = b)) → lin (at0 a b) l = 0
 | [], _ => rfl
 | t :: l, h => by
  rw [lin, Yc (fun s hs => h s (List.mem_cons_of_mem _ hs)), at0, if_neg (h t List.mem_cons_self)]; grind
theorem Zhz {t : Tm} {p : List Tm} (h : Nrm (t :: p)) : Nrm p := ⟨fun s hs => h.1 s (List.mem_cons_of_mem _ hs), (List.pairwise_cons.1 h.2).2⟩
theorem Zb1 {t : Tm} {p : List Tm} (h : Nrm (t :: p)) : lin (at0 t.i t.j) (t :: p) = t.c := by
 rw [lin, Yc (fun s hs => ?_), at0, if_pos ⟨rfl, rfl⟩]
 · grind
 ·
  have := (List.pairwise_cons.1 h.2).1 s hs
  rw [Kz] at this; omega
theorem Zrm {s t : Tm} {q : List Tm} (h : ltT s t = true) (hq : Nrm (t :: q)) : lin (at0 s.i s.j) (t :: q) = 0 := by
 refine Yc (fun u hu => ?_)
 have hu' : ltT s u = true := by
  rcases List.mem_cons.1 hu with rfl | hu
  · exact h
  · exact Zfw h ((List.pairwise_cons.1 hq.2).1 u hu)
 rw [Kz] at hu'; omega
theorem Zlb : ∀ {p q : List Tm}, Nrm p → Nrm q → (∀ φ, lin φ p = lin φ q) → p = q
 | [], [], _, _, _ => rfl
 | [], t :: q, _, hq, h => by
  have h1 := h (at0 t.i t.j)
  rw [Zb1 hq, Zle] at h1
  exact absurd h1.symm (hq.1 t List.mem_cons_self)
 | s :: p, [], hp, _, h => by
  have h1 := h (at0 s.i s.j)
  rw [Zb1 hp, Zle] at h1
  exact absurd h1 (hp.1 s List.mem_cons_self)
 | s :: p, t :: q, hp, hq, h => by
  have hst : same s t := by
   refine Ziu ?_ ?_
   ·
    rw [Bool.eq_false_iff]; intro hc
    have h1 := h (at0 s.i s.j)
    rw [Zb1 hp, Zrm hc hq] at h1
    exact hp.1 s List.mem_cons_self h1
   ·
    rw [Bool.eq_false_iff]; intro hc
    have h1 := h (at0 t.i t.j)
    rw [Zb1 hq, Zrm hc hp] at h1
    exact hq.1 t List.mem_cons_self h1.symm
  have hc : s.c = t.c := by
   have h1 := h (at0 s.i s.j)
   rw [Zb1 hp, hst.1, hst.2, Zb1 hq] at h1
   exact h1
  have e := Tm.ext' hst.1 hst.2 hc
  subst e
  rw [Zlb (Zhz hp) (Zhz hq) (fun φ => by have := h φ; rw [lin, lin] at this; grind)]
theorem Ji {l m : List Tm} (h : ∀ φ, lin φ l = lin φ m) : norm l = norm m :=
 Zlb (Qr l) (Qr m) (fun φ => by rw [Kq, Kq, h])
theorem Xr {p : List Tm} (h : Nrm p) : norm p = p := Zlb (Qr p) h (fun φ => Kq φ p)
theorem Zco (l : List Tm) : norm (norm l) = norm l := Xr (Qr l)
end
section
theorem Zk5 (x : Rat) (m : Nat) : ∀ n : Nat, x ^ (m + n) = x ^ m * x ^ n
 | 0 => by rw [Nat.add_zero, Rat.pow_zero]; grind
 | n + 1 => by rw [← Nat.add_assoc, Rat.pow_succ, Rat.pow_succ, Zk5 x m n]; grind
theorem Zk6 (x y : Rat) : ∀ n : Nat, (x * y) ^ n = x ^ n * y ^ n
 | 0 => by rw [Rat.pow_zero, Rat.pow_zero, Rat.pow_zero]; grind
 | n + 1 => by rw [Rat.pow_succ, Rat.pow_succ, Rat.pow_succ, Zk6 x y n]; grind
theorem Zre : ∀ n : Nat, (1 : Rat) ^ n = 1
 | 0 => Rat.pow_zero _
 | n + 1 => by rw [Rat.pow_succ, Zre n]; grind
def evP (l : List Tm) (x y : Rat) : Rat := lin (fun i j => x ^ i * y ^ j) l
def Jg (a b : List Tm) : List Tm := a.flatMap (fun s => b.map (fun t => ⟨s.i + t.i, s.j + t.j, s.c * t.c⟩))
theorem Gr (φ : Nat → Nat → Rat) (a b : List Tm) : lin φ (Jg a b) = lin (fun i j => lin (fun p q => φ (i + p) (j + q)) b) a := by
 unfold Jg
 refine Zfc φ _ _ a (fun s _ => ?_)
 rw [Ziy φ _ (fun p q => s.c * φ (s.i + p) (s.j + q)) b (fun t _ => by simp only; grind), Zes]
theorem Zag (a b : List Tm) (x y : Rat) : evP (Jg a b) x y = evP a x y * evP b x y := by
 unfold evP
 rw [Gr, ← Zet]
 refine Xu (fun s _ => ?_)
 rw [← Zes]
 refine Xu (fun t _ => ?_)
 rw [Zk5, Zk5]; grind
def Yb (p : List Tm) : Nat → List Tm
 | 0 => [⟨0, 0, 1⟩]
 | n + 1 => Jg (Yb p n) p
theorem Zcc (p : List Tm) (x y : Rat) : ∀ n, evP (Yb p n) x y = evP p x y ^ n
 | 0 => by rw [Yb, evP, lin, lin, Rat.pow_zero, Rat.pow_zero, Rat.pow_zero]; grind
 | n + 1 => by rw [Yb, Zag, Zcc p x y n, Rat.pow_succ]
theorem Xa (l m : List Tm) (x y : Rat) : evP (l ++ m) x y = evP l x y + evP m x y := Jf _ _ _
def Zs (c : Rat) (l : List Tm) : List Tm := l.map (fun t => ⟨t.i, t.j, c * t.c⟩)
theorem Vl (φ : Nat → Nat → Rat) (c : Rat) (l : List Tm) : lin φ (Zs c l) = c * lin φ l := by
 unfold Zs
 rw [← Zes]
 exact Ziy φ _ _ l (fun t _ => by simp only; grind)
theorem Gw (c : Rat) (l : List Tm) (x y : Rat) : evP (Zs c l) x y = c * evP l x y := Vl _ _ _
def sbL (X Y : List Tm) (l : List Tm) : List Tm := l.flatMap (fun t => Zs t.c (Jg (Yb X t.i) (Yb Y t.j)))
theorem Ziw (φ : Nat → Nat → Rat) (X Y l : List Tm) : lin φ (sbL X Y l) = lin (fun i j => lin φ (Jg (Yb X i) (Yb Y j))) l := by
 unfold sbL
 exact Zfc φ _ _ l (fun t _ => by rw [Vl])
theorem ev_sbL (X Y l : List Tm) (x y : Rat) : evP (sbL X Y l) x y = evP l (evP X x y) (evP Y x y) := by
 unfold evP
 rw [Ziw]
 refine Xu (fun t _ => ?_)
 have := Zag (Yb X t.i) (Yb Y t.j) x y
 rw [Zcc, Zcc] at this
 exact this
def dxL (l : List Tm) : List Tm := l.map (fun t => ⟨t.i - 1, t.j, t.c * ((t.i : Int) : Rat)⟩)
def dyL (l : List Tm) : List Tm := l.map (fun t => ⟨t.i, t.j - 1, t.c * ((t.j : Int) : Rat)⟩)
theorem Zb9 (φ : Nat → Nat → Rat) (l : List Tm) : lin φ (dxL l) = lin (fun i j => ((i : Int) : Rat) * φ (i - 1) j) l :=
 Ziy φ _ _ l (fun t _ => by simp only; grind)
theorem Zdf (φ : Nat → Nat → Rat) (l : List Tm) : lin φ (dyL l) = lin (fun i j => ((j : Int) : Rat) * φ i (j - 1)) l :=
 Ziy φ _ _ l (fun t _ => by simp only; grind)
theorem Zey (a b : Nat) : (((a + b : Nat) : Int) : Rat) = ((a : Int) : Rat) + ((b : Int) : Rat) := by
 rw [Int.natCast_add, Rat.intCast_add]
theorem Xo : (((0 : Nat) : Int) : Rat) = 0 := rfl
theorem Za1 : (((1 : Nat) : Int) : Rat) = 1 := rfl
theorem Zpw (φ : Nat → Nat → Rat) (a b : List Tm) : lin φ (dxL (Jg a b)) = lin φ (Jg (dxL a) b) + lin φ (Jg a (dxL b)) := by
 rw [Zb9, Gr, Gr, Gr, Zb9, ← Zfd]
 refine Xu (fun s _ => ?_)
 rw [Zb9, ← Zes, ← Zfd]
 refine Xu (fun t _ => ?_)
 rw [Zey]
 rcases hs : s.i with _ | m <;> rcases ht : t.i with _ | n
 · simp only [Xo]; grind
 · rw [Xo]; simp only [Nat.zero_add, Nat.add_sub_cancel]; grind
 · rw [Xo]; simp only [Nat.add_zero, Nat.add_sub_cancel]; grind
 · rw [show m + 1 + (n + 1) - 1 = m + n + 1 by omega, show m + 1 - 1 + (n + 1) = m + n + 1 by omega, show m + 1 + (n + 1 - 1) = m + n + 1 by omega]; grind
theorem Zpv (φ : Nat → Nat → Rat) (a b : List Tm) : lin φ (dyL (Jg a b)) = lin φ (Jg (dyL a) b) + lin φ (Jg a (dyL b)) := by
 rw [Zdf, Gr, Gr, Gr, Zdf, ← Zfd]
 refine Xu (fun s _ => ?_)
 rw [Zdf, ← Zes, ← Zfd]
 refine Xu (fun t _ => ?_)
 rw [Zey]
 rcases hs : s.j with _ | m <;> rcases ht : t.j with _ | n
 · simp only [Xo]; grind
 · rw [Xo]; simp only [Nat.zero_add, Nat.add_sub_cancel]; grind
 · rw [Xo]; simp only [Nat.add_zero, Nat.add_sub_cancel]; grind
 · rw [show m + 1 + (n + 1) - 1 = m + n + 1 by omega, show m + 1 - 1 + (n + 1) = m + n + 1 by omega, show m + 1 + (n + 1 - 1) = m + n + 1 by omega]; grind
def Eqv (l m : List Tm) : Prop := ∀ φ, lin φ l = lin φ m
theorem Eqv.rfl' {l : List Tm} : Eqv l l := fun _ => rfl
theorem Eqv.symm {l m : List Tm} (h : Eqv l m) : Eqv m l := fun φ => (h φ).symm
theorem Eqv.trans {l m k : List Tm} (h : Eqv l m) (h2 : Eqv m k) : Eqv l k := fun φ => (h φ).trans (h2 φ)
theorem Eqv.nrm (l : List Tm) : Eqv (norm l) l := fun φ => Kq φ l
theorem Eqv.mul {a b a' b' : List Tm} (h : Eqv a a') (h2 : Eqv b b') : Eqv (Jg a b) (Jg a' b') := fun φ => by
 rw [Gr, Gr, h]
 exact Xu (fun s _ => h2 _)
theorem Eqv.append {a b a' b' : List Tm} (h : Eqv a a') (h2 : Eqv b b') : Eqv (a ++ b) (a' ++ b') := fun φ => by rw [Jf, Jf, h, h2]
theorem Eqv.scale {a a' : List Tm} (c : Rat) (h : Eqv a a') : Eqv (Zs c a) (Zs c a') := fun φ => by rw [Vl, Vl, h]
theorem Eqv.dx {a a' : List Tm} (h : Eqv a a') : Eqv (dxL a) (dxL a') := fun φ => by rw [Zb9, Zb9, h]
theorem Eqv.dy {a a' : List Tm} (h : Eqv a a') : Eqv (dyL a) (dyL a') := fun φ => by rw [Zdf, Zdf, h]
theorem Eqv.pow {a a' : List Tm} (h : Eqv a a') : ∀ n, Eqv (Yb a n) (Yb a' n)
 | 0 => Eqv.rfl'
 | n + 1 => (Eqv.pow h n).mul h
theorem Eqv.sub {X Y l X' Y' l' : List Tm} (hX : Eqv X X') (hY : Eqv Y Y') (h : Eqv l l') : Eqv (sbL X Y l) (sbL X' Y' l') := fun φ => by
 rw [Ziw, Ziw, h]
 exact Xu (fun s _ => ((hX.pow _).mul (hY.pow _)) φ)
theorem Eqv.val {l m : List Tm} (h : Eqv l m) (x y : Rat) : evP l x y = evP m x y := h _
def pv (a : Nat → Rat) (x : Rat) : Nat → Rat
 | 0 => 0
 | n + 1 => pv a x n + a n * x ^ n
theorem Zrf (a : Nat → Rat) (x c d : Rat) : ∀ n, pv a (c * x) n - d * pv a x n = pv (fun k => a k * (c ^ k - d)) x n
 | 0 => by simp only [pv]; grind
 | n + 1 => by
  have h := Zrf a x c d n
  have e : (c * x) ^ n = c ^ n * x ^ n := Zk6 c x n
  simp only [pv, e]; grind
theorem Ztv : ∀ k n : Nat, k < n → (2 : Rat) ^ k - 2 ^ n ≠ 0 := by
 have hp : ∀ k : Nat, (0 : Rat) < 2 ^ k := fun k => by
  induction k with
  | zero => rw [Rat.pow_zero]; decide
  | succ k ih => rw [Rat.pow_succ]; grind
 have key : ∀ k d : Nat, (2 : Rat) ^ k < 2 ^ (k + d + 1) := fun k d => by
  induction d with
  | zero => rw [Rat.pow_succ]; have := hp k; have e : (2 : Rat) ^ (k + 0) = 2 ^ k := rfl; grind
  | succ d ih =>
   have h2 := hp (k + d + 1)
   rw [show k + (d + 1) + 1 = (k + d + 1) + 1 by omega, Rat.pow_succ]; grind
 intro k n h
 have := key k (n - k - 1)
 rw [show k + (n - k - 1) + 1 = n by omega] at this
 grind
theorem Zpk : ∀ (n : Nat) (a : Nat → Rat), (∀ x, pv a x n = 0) → ∀ k, k < n → a k = 0
 | 0, _, _, k, hk => absurd hk (Nat.not_lt_zero _)
 | n + 1, a, h, k, hk => by
  have hb : ∀ x, pv (fun k => a k * (2 ^ k - 2 ^ n)) x n = 0 := fun x => by
   rw [← Zrf a x 2 (2 ^ n) n]
   have h1 := h (2 * x)
   have h2 := h x
   rw [pv] at h1 h2
   have e : (2 * x) ^ n = 2 ^ n * x ^ n := Zk6 2 x n
   rw [e] at h1
   grind
  have low : ∀ k, k < n → a k = 0 := fun k hk => by
   have h1 := Zpk n _ hb k hk
   rcases Rat.mul_eq_zero.1 h1 with h2 | h2
   · exact h2
   · exact absurd h2 (Ztv k n hk)
  rcases Nat.lt_or_ge k n with h1 | h1
  · exact low k h1
  ·
   have e : k = n := oo
   subst e
   have z : ∀ m, m ≤ k → pv a 1 m = 0 := fun m => by
    induction m with
    | zero => intro _; rfl
    | succ m ih => intro hm; rw [pv, ih oo, low m oo]; grind
   have h1 := h 1
   rw [pv, z k (Nat.le_refl _)] at h1
   have e1 : (1 : Rat) ^ k = 1 := Zre k
   rw [e1] at h1
   grind
theorem Zwu (a b : Nat → Rat) (x : Rat) : ∀ n, pv (fun k => a k + b k) x n = pv a x n + pv b x n
 | 0 => by simp only [pv]; grind
 | n + 1 => by simp only [pv, Zwu a b x n]; grind
theorem Zio {a : Nat → Rat} (x : Rat) : ∀ {n}, (∀ k, k < n → a k = 0) → pv a x n = 0
 | 0, _ => rfl
 | n + 1, h => by rw [pv, h n (Nat.lt_succ_self _), Zio x (fun k hk => h k (Nat.lt_succ_of_lt hk))]; grind
theorem Zwt {a : Nat → Rat} (x : Rat) (m : Nat) : ∀ {n}, m < n → (∀ k, k ≠ m → a k = 0) → pv a x n = a m * x ^ m
 | 0, h, _ => absurd h (Nat.not_lt_zero _)
 | n + 1, h, h2 => by
  rw [pv]
  rcases Nat.lt_or_ge m n with h3 | h3
  · rw [Zwt x m h3 h2, h2 n oo]; grind
  ·
   have e : m = n := oo
   subst e
   rw [Zio x (fun k hk => h2 k oo)]; grind
def Zvv : List Tm → Nat
 | [] => 0
 | t :: l => max (max (t.i + 1) (t.j + 1)) (Zvv l)
theorem Zoy {t : Tm} : ∀ {l : List Tm}, t ∈ l → t.i < Zvv l ∧ t.j < Zvv l
 | s :: l, h => by
  rw [Zvv]
  rcases List.mem_cons.1 h with rfl | h
  · omega
  · have := Zoy h; omega
theorem ev_pv (x y : Rat) (n : Nat) : ∀ l : List Tm, (∀ t ∈ l, t.i < n ∧ t.j < n) → evP l x y = pv (fun i => pv (fun j => lin (at0 i j) l) y n) x n
 | [], _ => by
  exact (Zio x (fun k _ => Zio y (fun m _ => rfl))).symm
 | t :: l, h => by
  have ih := ev_pv x y n l (fun s hs => h s (List.mem_cons_of_mem _ hs))
  have ht := h t List.mem_cons_self
  have e : (fun i => pv (fun j => lin (at0 i j) (t :: l)) y n) = (fun i => pv (fun j => t.c * at0 i j t.i t.j) y n + pv (fun j => lin (at0 i j) l) y n) := by
   funext i; rw [← Zwu]; rfl
  rw [e, Zwu, ← ih]
  have e2 : pv (fun i => pv (fun j => t.c * at0 i j t.i t.j) y n) x n = t.c * (x ^ t.i * y ^ t.j) := by
   rw [Zwt x t.i ht.1 (fun k hk => Zio y (fun m _ => by rw [at0, if_neg (fun hc => hk hc.1.symm)]; grind)),
    Zwt y t.j ht.2 (fun m hm => by rw [at0, if_neg (fun hc => hm hc.2.symm)]; grind), at0, if_pos ⟨rfl, rfl⟩]
   grind
  rw [e2]; rfl
theorem Zyz {l : List Tm} (h : ∀ x y, evP l x y = 0) (a b : Nat) : lin (at0 a b) l = 0 := by
 by_cases hab : a < Zvv l ∧ b < Zvv l
 ·
  have h1 : ∀ y i, i < Zvv l → pv (fun j => lin (at0 i j) l) y (Zvv l) = 0 := fun y =>
   Zpk (Zvv l) _ (fun x => by rw [← ev_pv x y (Zvv l) l (fun t ht => Zoy ht), h x y])
  exact Zpk (Zvv l) _ (fun y => h1 y a hab.1) b hab.2
 · exact Yc (fun t ht hc => hab (by have := Zoy ht; rw [hc.1, hc.2] at this; exact this))
theorem Zsk {l : List Tm} (h : ∀ a b, lin (at0 a b) l = 0) : ∀ φ, lin φ l = 0 := by
 intro φ
 rw [← Kq]
 have hn := Qr l
 rcases hl : norm l with _ | ⟨t, p⟩
 · rfl
 ·
  rw [hl] at hn
  have h1 := Zb1 hn
  rw [← hl, Kq, h] at h1
  exact absurd h1.symm (hn.1 t List.mem_cons_self)
theorem Eqv.of_ev {l m : List Tm} (h : ∀ x y, evP l x y = evP m x y) : Eqv l m := by
 have h1 : ∀ x y, evP (l ++ Zs (-1) m) x y = 0 := fun x y => by rw [Xa, Gw, h]; grind
 intro φ
 have := Zsk (Zyz h1) φ
 rw [Jf, Vl] at this
 grind
end
section
theorem Zg2 (a b : List Tm) (x y : Rat) : evP (dxL (Jg a b)) x y = evP (dxL a) x y * evP b x y + evP a x y * evP (dxL b) x y := by
 have := Zpw (fun i j => x ^ i * y ^ j) a b
 have h1 := Zag (dxL a) b x y
 have h2 := Zag a (dxL b) x y
 unfold evP at *
 rw [this, h1, h2]
theorem Zg0 (a b : List Tm) (x y : Rat) : evP (dyL (Jg a b)) x y = evP (dyL a) x y * evP b x y + evP a x y * evP (dyL b) x y := by
 have := Zpv (fun i j => x ^ i * y ^ j) a b
 have h1 := Zag (dyL a) b x y
 have h2 := Zag a (dyL b) x y
 unfold evP at *
 rw [this, h1, h2]
theorem Zg1 (p : List Tm) (x y : Rat) : ∀ n, evP (dxL (Yb p n)) x y = ((n : Int) : Rat) * evP p x y ^ (n - 1) * evP (dxL p) x y
 | 0 => by
  have : dxL (Yb p 0) = [⟨0, 0, 1 * (((0 : Nat) : Int) : Rat)⟩] := rfl
  rw [this, evP, lin, lin, Xo]; grind
 | n + 1 => by
  rw [Yb, Zg2, Zg1 p x y n, Zcc]
  rcases n with _ | n
  · rw [Xo, Za1, Rat.pow_zero]; grind
  · rw [Nat.add_sub_cancel, Nat.add_sub_cancel, Zey (n + 1) 1, Za1, Rat.pow_succ]; grind
theorem Zgz (p : List Tm) (x y : Rat) : ∀ n, evP (dyL (Yb p n)) x y = ((n : Int) : Rat) * evP p x y ^ (n - 1) * evP (dyL p) x y
 | 0 => by
  have : dyL (Yb p 0) = [⟨0, 0, 1 * (((0 : Nat) : Int) : Rat)⟩] := rfl
  rw [this, evP, lin, lin, Xo]; grind
 | n + 1 => by
  rw [Yb, Zg0, Zgz p x y n, Zcc]
  rcases n with _ | n
  · rw [Xo, Za1, Rat.pow_zero]; grind
  · rw [Nat.add_sub_cancel, Nat.add_sub_cancel, Zey (n + 1) 1, Za1, Rat.pow_succ]; grind
theorem Zjf (l : List Tm) (x y : Rat) : evP (dxL l) x y = lin (fun i j => ((i : Int) : Rat) * (x ^ (i - 1) * y ^ j)) l := Zb9 _ _
theorem Zje (l : List Tm) (x y : Rat) : evP (dyL l) x y = lin (fun i j => ((j : Int) : Rat) * (x ^ i * y ^ (j - 1))) l := Zdf _ _
theorem Zyj (X Y p : List Tm) (x y : Rat) : evP (dxL (sbL X Y p)) x y = evP (dxL p) (evP X x y) (evP Y x y) * evP (dxL X) x y + evP (dyL p) (evP X x y) (evP Y x y) * evP (dxL Y) x y := by
 have h0 : evP (dxL (sbL X Y p)) x y = lin (fun i j => evP (dxL (Jg (Yb X i) (Yb Y j))) x y) p := by
  rw [Zjf, Ziw]
  exact Xu (fun t _ => (Zjf _ x y).symm)
 rw [h0, Zjf p, Zje p, ← Zet, ← Zet, ← Zfd]
 refine Xu (fun t _ => ?_)
 rw [Zg2, Zg1, Zg1, Zcc, Zcc]; grind
theorem Zyh (X Y p : List Tm) (x y : Rat) : evP (dyL (sbL X Y p)) x y = evP (dxL p) (evP X x y) (evP Y x y) * evP (dyL X) x y + evP (dyL p) (evP X x y) (evP Y x y) * evP (dyL Y) x y := by
 have h0 : evP (dyL (sbL X Y p)) x y = lin (fun i j => evP (dyL (Jg (Yb X i) (Yb Y j))) x y) p := by
  rw [Zje, Ziw]
  exact Xu (fun t _ => (Zje _ x y).symm)
 rw [h0, Zjf p, Zje p, ← Zet, ← Zet, ← Zfd]
 refine Xu (fun t _ => ?_)
 rw [Zg0, Zgz, Zgz, Zcc, Zcc]; grind
def ln (a b c : Rat) : List Tm := [⟨1, 0, a⟩, ⟨0, 1, b⟩, ⟨0, 0, c⟩]
theorem Zuz (a b c x y : Rat) : evP (ln a b c) x y = a * x + b * y + c := by
 simp only [evP, ln, lin]; rw [Rat.pow_zero, Rat.pow_zero, Rat.pow_succ, Rat.pow_succ, Rat.pow_zero, Rat.pow_zero]; grind
theorem Zsi (a b c x y : Rat) : evP (dxL (ln a b c)) x y = a := by
 rw [Zjf]
 simp only [ln, lin, Xo, Za1]; simp only [Nat.sub_self, Nat.zero_sub]; rw [Rat.pow_zero, Rat.pow_zero]; grind
theorem Zsh (a b c x y : Rat) : evP (dyL (ln a b c)) x y = b := by
 rw [Zje]
 simp only [ln, lin, Xo, Za1]; simp only [Nat.sub_self, Nat.zero_sub]; rw [Rat.pow_zero, Rat.pow_zero]; grind
def shL (p : List Tm) (ax bx cx ay by' cy : Rat) : List Tm := sbL (ln ax bx cx) (ln ay by' cy) p
theorem Zjd (p : List Tm) (ax bx cx ay b cy x y : Rat) : evP (shL p ax bx cx ay b cy) x y = evP p (ax * x + bx * y + cx) (ay * x + b * y + cy) := by
 rw [shL, ev_sbL, Zuz, Zuz]
theorem Zyi (p : List Tm) (ax bx cx ay b cy x y : Rat) : evP (dxL (shL p ax bx cx ay b cy)) x y = evP (dxL p) (ax * x + bx * y + cx) (ay * x + b * y + cy) * ax + evP (dyL p) (ax * x + bx * y + cx) (ay * x + b * y + cy) * ay := by
 rw [shL, Zyj, Zuz, Zuz, Zsi, Zsi]
theorem Zyg (p : List Tm) (ax bx cx ay b cy x y : Rat) : evP (dyL (shL p ax bx cx ay b cy)) x y = evP (dxL p) (ax * x + bx * y + cx) (ay * x + b * y + cy) * bx + evP (dyL p) (ax * x + bx * y + cx) (ay * x + b * y + cy) * b := by
 rw [shL, Zyh, Zuz, Zuz, Zsh, Zsh]
def lam (i j : Nat) : Rat := ((1 : Int) : Rat) / (((i + 1 : Nat) : Int) : Rat)
def bt : Nat → Nat → Rat
 | 0, j => lam j 0
 | i + 1, j => bt i j - bt i (j + 1)
def mu (i j : Nat) : Rat := bt (i + 1) j / (((i + 1 : Nat) : Int) : Rat)
def W1 : List Tm := [⟨0, 0, 1⟩, ⟨1, 0, -1⟩]
def X1 : List Tm := [⟨1, 0, 1⟩]
theorem Zyf (x y : Rat) : evP [] x y = 0 := rfl
abbrev Pt := Rat × Rat
def twQ (a b c : Pt) : Rat := (b.1 - a.1) * (c.2 - a.2) - (c.1 - a.1) * (b.2 - a.2)
def segQ (p : List Tm) (a b : Pt) : Rat := lin lam (shL p (b.1 - a.1) 0 a.1 (b.2 - a.2) 0 a.2)
def Qam (p : List Tm) (a b c : Pt) : Rat := twQ a b c * lin mu (shL p (b.1 - a.1) (c.1 - a.1) a.1 (b.2 - a.2) (c.2 - a.2) a.2)
def flowQ (g h : List Tm) (a b : Pt) : Rat := (b.2 - a.2) * segQ g a b - (b.1 - a.1) * segQ h a b
end
section
theorem Qav {p q : List Tm} (h : Eqv p q) (a b c : Pt) : Qam p a b c = Qam q a b c := by
 unfold Qam shL; rw [(Eqv.sub Eqv.rfl' Eqv.rfl' h) mu]
def prL (p : List Tm) : List Tm := p.map (fun t => ⟨t.i + 1, t.j, t.c / (((t.i + 1 : Nat) : Int) : Rat)⟩)
def fanQ (p : List Tm) (a : Pt) : List Pt → Rat
 | b :: c :: l => Qam p a b c + fanQ p a (c :: l)
 | _ => 0
def pathQ (f : Pt → Pt → Rat) : List Pt → Rat
 | a :: b :: l => f a b + pathQ f (b :: l)
 | _ => 0
def cycQ (f : Pt → Pt → Rat) : List Pt → Rat
 | [] => 0
 | a :: l => pathQ f (a :: l ++ [a])
def polyQ (p : List Tm) : List Pt → Rat
 | [] => 0
 | a :: l => fanQ p a l
end
section
def KL (K : Nat) (l : List Tm) : Prop := ∀ t ∈ l, Qc t.c ≤ K
def DL (d : Nat) (l : List Tm) : Prop := ∀ t ∈ l, t.i + t.j ≤ d
theorem KL.mono {K K' : Nat} {l : List Tm} (h : KL K l) (hk : K ≤ K') : KL K' l := fun t ht => Nat.le_trans (h t ht) hk
theorem DL.mono {d d' : Nat} {l : List Tm} (h : DL d l) (hk : d ≤ d') : DL d' l := fun t ht => Nat.le_trans (h t ht) hk
def cntP (i j : Nat) : List Tm → Nat
 | [] => 0
 | t :: l => (if t.i = i ∧ t.j = j then 1 else 0) + cntP i j l
theorem Zy0 (i j : Nat) : ∀ l : List Tm, cntP i j l ≤ l.length
 | [] => Nat.le_refl _
 | t :: l => by have := Zy0 i j l; rw [cntP, List.length_cons]; split <;> omega
theorem Znm {K : Nat} {f : Nat → Nat → Nat} {t : Tm} (ht : Qc t.c ≤ K) : ∀ {p : List Tm}, (∀ u ∈ p, Qc u.c ≤ f u.i u.j) → ∀ u ∈ Zdq t p, Qc u.c ≤ f u.i u.j + (if t.i = u.i ∧ t.j = u.j then K + 1 else 0)
 | [], _, u, hu => by
  rw [Zdq, List.mem_singleton] at hu
  subst hu
  have e : 0 + t.c = t.c := by grind
  simp only [and_self, if_true, e]; omega
 | s :: p, h, u, hu => by
  have h0 := h s List.mem_cons_self
  rw [Zdq] at hu
  split at hu
  ·
   rename_i hs
   rcases List.mem_cons.1 hu with rfl | hu
   ·
    have := Yw s.c t.c
    rw [if_pos ⟨hs.1.symm, hs.2.symm⟩]
    simp only; omega
   · have := h u (List.mem_cons_of_mem _ hu); omega
  ·
   rcases List.mem_cons.1 hu with rfl | hu
   · omega
   · exact Znm ht (fun v hv => h v (List.mem_cons_of_mem _ hv)) u hu
theorem Zdn {K : Nat} : ∀ (l : List Tm) {p : List Tm} {f : Nat → Nat → Nat}, KL K l → (∀ u ∈ p, Qc u.c ≤ f u.i u.j) →
  ∀ u ∈ l.foldl (fun p t => Zdq t p) p, Qc u.c ≤ f u.i u.j + cntP u.i u.j l * (K + 1)
 | [], p, f, _, h, u, hu => by have := h u hu; omega
 | t :: l, p, f, hl, h, u, hu => by
  rw [List.foldl_cons] at hu
  have ih := Zdn l (f := fun i j => f i j + (if t.i = i ∧ t.j = j then K + 1 else 0)) (fun s hs => hl s (List.mem_cons_of_mem _ hs)) (Znm (hl t List.mem_cons_self) h) u hu
  rw [cntP, Nat.add_mul]
  split at ih
  · rename_i hc; rw [if_pos hc]; omega
  · rename_i hc; rw [if_neg hc]; omega
theorem Znz {K : Nat} {l : List Tm} (h : KL K l) : ∀ u ∈ collect l, Qc u.c ≤ cntP u.i u.j l * (K + 1) := fun u hu => by
 have := Zdn l (f := fun _ _ => 0) (p := []) h (fun _ hv => nomatch hv) u hu
 omega
theorem Qho {Ka Kb : Nat} {a b : List Tm} (ha : KL Ka a) (hb : KL Kb b) : KL (Ka + Kb) (Jg a b) := fun u hu => by
 unfold Jg at hu
 obtain ⟨s, hs, hu⟩ := List.mem_flatMap.1 hu
 obtain ⟨t, ht, rfl⟩ := List.mem_map.1 hu
 have := Qf s.c t.c
 have := ha s hs
 have := hb t ht
 simp only; omega
theorem Zrq (a b : List Tm) : (Jg a b).length = a.length * b.length := by
 unfold Jg
 induction a with
 | nil => simp
 | cons s a ih => rw [List.flatMap_cons, List.length_append, ih, List.length_map, List.length_cons, Nat.add_mul]; omega
theorem Qm {d : Nat} {l : List Tm} (h : DL d l) : DL d (norm l) := fun u hu => by
 obtain ⟨t, ht, h1, h2⟩ := Zah (Zay hu).1
 rw [h1, h2]; exact h t ht
theorem Zjv {d : Nat} {a b : List Tm} (ha : DL d a) (hb : DL d b) : DL d (a ++ b) := fun t ht => (List.mem_append.1 ht).elim (ha t) (hb t)
theorem Zmc {da db : Nat} {a b : List Tm} (ha : DL da a) (hb : DL db b) : DL (da + db) (Jg a b) := fun u hu => by
 unfold Jg at hu
 obtain ⟨s, hs, hu⟩ := List.mem_flatMap.1 hu
 obtain ⟨t, ht, rfl⟩ := List.mem_map.1 hu
 have := ha s hs
 have := hb t ht
 simp only; omega
theorem Zju {d : Nat} {a : List Tm} (c : Rat) (h : DL d a) : DL d (Zs c a) := fun u hu => by
 unfold Zs at hu
 obtain ⟨t, ht, rfl⟩ := List.mem_map.1 hu
 exact h t ht
theorem DL_dxL {d : Nat} {a : List Tm} (h : DL d a) : DL d (dxL a) := fun u hu => by
 unfold dxL at hu
 obtain ⟨t, ht, rfl⟩ := List.mem_map.1 hu
 have := h t ht
 simp only; omega
theorem DL_dyL {d : Nat} {a : List Tm} (h : DL d a) : DL d (dyL a) := fun u hu => by
 unfold dyL at hu
 obtain ⟨t, ht, rfl⟩ := List.mem_map.1 hu
 have := h t ht
 simp only; omega
def tri : Nat → Nat
 | 0 => 0
 | n + 1 => tri n + n + 1
theorem Zem {m n : Nat} (h : m ≤ n) : tri m ≤ tri n := by
 induction h with
 | refl => exact Nat.le_refl _
 | step _ ih => rw [tri]; omega
def keyT (t : Tm) : Nat := tri (t.i + t.j) + t.j
theorem key_lt {s t : Tm} (h : ltT s t = true) : keyT s < keyT t := by
 rw [Kz] at h
 unfold keyT
 rcases h with h | ⟨h1, h2⟩
 ·
  have := Zem (show s.i + s.j + 1 ≤ t.i + t.j from h)
  rw [tri] at this; omega
 · rw [h1]; omega
theorem Znl : ∀ (l : List Nat) (m n : Nat), l.Pairwise (· < ·) → (∀ x ∈ l, m ≤ x ∧ x < n) → l.length ≤ n - m
 | [], _, _, _, _ => Nat.zero_le _
 | x :: l, m, n, h, hb => by
  obtain ⟨h1, h2⟩ := List.pairwise_cons.1 h
  have h3 := hb x List.mem_cons_self
  have := Znl l (x + 1) n h2 (fun y hy => ⟨h1 y hy, (hb y (List.mem_cons_of_mem _ hy)).2⟩)
  rw [List.length_cons]; omega
theorem Zk9 {d : Nat} {p : List Tm} (h : Nrm p) (hd : DL d p) : p.length ≤ tri (d + 1) := by
 have := Znl (p.map keyT) 0 (tri (d + 1)) (List.pairwise_map.2 (h.2.imp (fun {s t} hs => key_lt hs))) (fun x hx => by
  obtain ⟨t, ht, rfl⟩ := List.mem_map.1 hx
  have h1 := hd t ht
  have := Zem h1
  refine ⟨Nat.zero_le _, ?_⟩
  unfold keyT; rw [tri]; omega)
 rw [List.length_map] at this; exact this
def ab (x : Rat) : Rat := if x < 0 then -x else x
theorem Zc1 (x : Rat) : 0 ≤ ab x := by unfold ab; split <;> grind
theorem ab_add (x y : Rat) : ab (x + y) ≤ ab x + ab y := by unfold ab; split <;> split <;> split <;> grind
theorem Zap {x : Rat} (h : 0 ≤ x) : ab x = x := by unfold ab; rw [if_neg (by grind)]
theorem Zkw (x : Rat) : ab (-x) = ab x := by unfold ab; split <;> split <;> grind
theorem Zs8 (x y : Rat) : ab (x * y) = ab x * ab y := by
 have key : ∀ x y : Rat, 0 ≤ x → 0 ≤ y → ab (x * y) = ab x * ab y := fun x y hx hy => by
  rw [Zap hx, Zap hy, Zap (Rat.mul_nonneg hx hy)]
 by_cases hx : 0 ≤ x <;> by_cases hy : 0 ≤ y
 · exact key x y hx hy
 · rw [show x * y = -(x * -y) by grind, Zkw, key x (-y) hx (by grind), Zkw]
 · rw [show x * y = -(-x * y) by grind, Zkw, key (-x) y (by grind) hy, Zkw]
 · rw [show x * y = -x * -y by grind, key (-x) (-y) (by grind) (by grind), Zkw, Zkw]
theorem Ks (a b : Nat) : (((a * b : Nat) : Int) : Rat) = ((a : Int) : Rat) * ((b : Int) : Rat) := by rw [Int.natCast_mul, Rat.intCast_mul]
theorem Xd (a : Nat) : (0 : Rat) ≤ ((a : Int) : Rat) := by
 have h := (Rat.intCast_le_intCast (a := 0) (b := (a : Int))).2 oo
 exact h
theorem Zy6 {a b : Nat} (h : a ≤ b) : ((a : Int) : Rat) ≤ ((b : Int) : Rat) := Rat.intCast_le_intCast.2 oo
theorem Zuk {a b : Nat} (h : ((a : Int) : Rat) ≤ ((b : Int) : Rat)) : a ≤ b := by have := Rat.intCast_le_intCast.1 h; omega
theorem Jx {a b c : Rat} (h : a ≤ b) (hc : 0 ≤ c) : a * c ≤ b * c := by
 have := Rat.mul_nonneg (show 0 ≤ b - a by grind) hc
 grind
theorem Zit {a b c d : Rat} (h : a ≤ b) (h2 : c ≤ d) (ha : 0 ≤ c) (hb : 0 ≤ b) : a * c ≤ b * d := by
 have h3 := Jx h ha
 have h4 := Jx h2 hb
 grind
def sab : List Tm → Rat
 | [] => 0
 | t :: l => ab t.c + sab l
theorem Za5 : ∀ l : List Tm, 0 ≤ sab l
 | [] => by rw [sab]; grind
 | t :: l => by have := Za5 l; have := Zc1 t.c; rw [sab]; grind
theorem Zcl : ∀ l m : List Tm, sab (l ++ m) = sab l + sab m
 | [], m => by simp only [List.nil_append, sab]; grind
 | t :: l, m => by rw [List.cons_append, sab, sab, Zcl l m]; grind
theorem Qa7 {l m : List Tm} (h : l.Perm m) : sab l = sab m := by
 induction h with
 | nil => rfl
 | cons x _ ih => rw [sab, sab, ih]
 | swap x y l => simp only [sab]; grind
 | trans _ _ h1 h2 => rw [h1, h2]
theorem Qfm {l : List Tm} {t : Tm} (h : t ∈ l) : ab t.c ≤ sab l := by
 induction l with
 | nil => cases h
 | cons s l ih =>
  rw [sab]
  rcases List.mem_cons.1 h with rfl | h
  · have := Za5 l; grind
  · have := ih h; have := Zc1 s.c; grind
theorem Zke (f : Tm → Bool) : ∀ l : List Tm, sab (l.filter f) ≤ sab l
 | [] => by rw [List.filter_nil]; grind
 | t :: l => by
  have := Zke f l
  have := Zc1 t.c
  rw [List.filter_cons]
  split
  · rw [sab, sab]; grind
  · rw [sab]; grind
theorem Zq6 (t : Tm) : ∀ p : List Tm, sab (Zdq t p) ≤ sab p + ab t.c
 | [] => by
  have e : 0 + t.c = t.c := by grind
  simp only [Zdq, sab, e]; grind
 | s :: p => by
  rw [Zdq]
  split
  · have := ab_add s.c t.c; simp only [sab]; grind
  · have := Zq6 t p; simp only [sab]; grind
theorem Zdy : ∀ (l p : List Tm), sab (l.foldl (fun p t => Zdq t p) p) ≤ sab p + sab l
 | [], p => by simp only [List.foldl_nil, sab]; grind
 | t :: l, p => by
  have h1 := Zdy l (Zdq t p)
  have h2 := Zq6 t p
  rw [List.foldl_cons]; simp only [sab]; grind
theorem Qa8 (l : List Tm) : sab (norm l) ≤ sab l := by
 rw [norm, Qa7 (List.mergeSort_perm _ _)]
 have h1 := Zke (fun t => decide (t.c ≠ 0)) (collect l)
 have h2 := Zdy l []
 have h3 : collect l = l.foldl (fun p t => Zdq t p) [] := rfl
 rw [← h3] at h2
 simp only [sab] at h2
 grind
theorem Zmv (c : Rat) : ∀ l : List Tm, sab (Zs c l) = ab c * sab l
 | [] => by simp only [Zs, List.map_nil, sab]; grind
 | t :: l => by
  have := Zmv c l
  have := Zs8 c t.c
  simp only [Zs, List.map_cons, sab] at *
  grind
theorem Ze8 (s : Tm) : ∀ b : List Tm, sab (b.map (fun t => (⟨s.i + t.i, s.j + t.j, s.c * t.c⟩ : Tm))) = ab s.c * sab b
 | [] => by simp only [List.map_nil, sab]; grind
 | t :: b => by
  have := Ze8 s b
  have := Zs8 s.c t.c
  simp only [List.map_cons, sab] at *
  grind
theorem Zk4 (b : List Tm) : ∀ a : List Tm, sab (Jg a b) = sab a * sab b
 | [] => by show sab [] = _; simp only [sab]; grind
 | s :: a => by
  have ih := Zk4 b a
  have h := Ze8 s b
  unfold Jg at *
  rw [List.flatMap_cons, Zcl, ih, h, sab]; grind
def ID (D : Nat) (x : Rat) : Prop := ∃ z : Int, x * ((D : Int) : Rat) = (z : Rat)
theorem ID.mul {D E : Nat} {x y : Rat} (h : ID D x) (h2 : ID E y) : ID (D * E) (x * y) := by
 obtain ⟨z, hz⟩ := h
 obtain ⟨w, hw⟩ := h2
 exact ⟨z * w, by rw [Ks, Rat.intCast_mul, ← hz, ← hw]; grind⟩
theorem ID.add {D : Nat} {x y : Rat} (h : ID D x) (h2 : ID D y) : ID D (x + y) := by
 obtain ⟨z, hz⟩ := h
 obtain ⟨w, hw⟩ := h2
 exact ⟨z + w, by rw [Rat.intCast_add, ← hz, ← hw]; grind⟩
theorem ID.int (n : Int) : ID 1 (n : Rat) := ⟨n, by rw [Za1]; grind⟩
theorem ID.zero (D : Nat) : ID D 0 := ⟨0, by show 0 * _ = (0 : Rat); grind⟩
theorem ID.right {D : Nat} {x : Rat} (h : ID D x) (E : Nat) : ID (D * E) x := by
 have := h.mul (ID.int (E : Int))
 obtain ⟨z, hz⟩ := h
 exact ⟨z * E, by rw [Ks, Rat.intCast_mul, ← hz]; grind⟩
theorem ID.left {D : Nat} {x : Rat} (h : ID D x) (E : Nat) : ID (E * D) x := by rw [Nat.mul_comm]; exact h.right E
theorem Zpr (x : Rat) : x * ((x.den : Int) : Rat) = (x.num : Rat) := by
 rw [Rat.mul_def', Rat.num_intCast, Rat.den_intCast, Nat.mul_one]
 have := Rat.mkRat_mul_right (n := x.num) (d := 1) (a := x.den) x.den_nz
 rw [Nat.one_mul] at this
 rw [this, Rat.mkRat_one]
theorem ID.self (x : Rat) : ID x.den x := ⟨x.num, Zpr x⟩
theorem ab_int (z : Int) : ab (z : Rat) = ((z.natAbs : Int) : Rat) := by
 unfold ab
 split
 ·
  rename_i h
  have h2 : z < 0 := Rat.intCast_lt_intCast.1 (show (z : Rat) < ((0 : Int) : Rat) from h)
  rw [show ((z.natAbs : Nat) : Int) = -z by omega, Rat.intCast_neg]
 ·
  rename_i h
  have h2 : ¬ z < 0 := fun h3 => h (Rat.intCast_lt_intCast.2 h3 : (z : Rat) < ((0 : Int) : Rat))
  rw [show ((z.natAbs : Nat) : Int) = z by omega]
theorem Zzj (x : Rat) : ab x * ((x.den : Int) : Rat) = ((x.num.natAbs : Int) : Rat) := by
 rw [← ab_int, ← Zpr, Zs8, Zap (Xd x.den)]
theorem ID.den {D : Nat} {x : Rat} (h : ID D x) : x.den ∣ D := by
 obtain ⟨z, hz⟩ := h
 have h1 : ((x.num * (D : Int) : Int) : Rat) = ((z * (x.den : Int) : Int) : Rat) := by
  rw [Rat.intCast_mul, Rat.intCast_mul, ← hz, ← Zpr]; grind
 have h2 := Rat.intCast_inj.1 h1
 have h3 : x.num.natAbs * D = z.natAbs * x.den := by
  have := congrArg Int.natAbs h2
  rwa [Int.natAbs_mul, Int.natAbs_mul, Int.natAbs_natCast, Int.natAbs_natCast] at this
 exact (Nat.Coprime.dvd_of_dvd_mul_left x.reduced.symm (h3 ▸ Nat.dvd_mul_left x.den z.natAbs))
def Hb (K : Nat) (l : List Tm) : Prop := ∃ D N : Nat, 0 < D ∧ D < 4294967296 ^ K ∧ N < 4294967296 ^ K ∧ (∀ t ∈ l, ID D t.c) ∧ sab l * ((D : Int) : Rat) ≤ ((N : Int) : Rat)
theorem Zeq {K K' : Nat} (h : K ≤ K') : 4294967296 ^ K ≤ 4294967296 ^ K' := Nat.pow_le_pow_right dd h
theorem Hb.mono {K K' : Nat} {l : List Tm} (h : Hb K l) (hk : K ≤ K') : Hb K' l := by
 obtain ⟨D, N, h0, h1, h2, h3, h4⟩ := h
 exact ⟨D, N, h0, Nat.lt_of_lt_of_le h1 (Zeq hk), Nat.lt_of_lt_of_le h2 (Zeq hk), h3, h4⟩
theorem Hb.siz {K : Nat} {l : List Tm} (h : Hb K l) : KL K l := fun t ht => by
 obtain ⟨D, N, h0, h1, h2, h3, h4⟩ := h
 have hd := (h3 t ht).den
 have hle := Nat.le_of_dvd h0 hd
 have hn : ((t.c.num.natAbs : Int) : Rat) ≤ ((N : Int) : Rat) := by
  rw [← Zzj]
  have a1 := Zit (Qfm ht) (Zy6 hle) (Xd _) (Za5 l)
  grind
 have hn' := Zuk hn
 unfold Qc Zat
 have := Zek (n := t.c.num.natAbs) (k := K) oo
 have := Zek (n := t.c.den) (k := K) oo
 omega
theorem Hb.nrm {K : Nat} {l : List Tm} (h : Hb K l) : Hb K (norm l) := by
 obtain ⟨D, N, h0, h1, h2, h3, h4⟩ := h
 refine ⟨D, N, h0, h1, h2, fun u hu => ?_, ?_⟩
 ·
  have key : ∀ (l p : List Tm), (∀ t ∈ l, ID D t.c) → (∀ t ∈ p, ID D t.c) → ∀ u ∈ l.foldl (fun p t => Zdq t p) p, ID D u.c := by
   intro l
   induction l with
   | nil => intro p _ hp u hu; exact hp u hu
   | cons t l ih =>
    intro p hl hp u hu
    rw [List.foldl_cons] at hu
    refine ih (Zdq t p) (fun s hs => hl s (List.mem_cons_of_mem _ hs)) (fun v hv => ?_) u hu
    have ht := hl t List.mem_cons_self
    clear ih hu hl
    induction p with
    | nil => rw [Zdq, List.mem_singleton] at hv; subst hv; exact (ID.zero D).add ht
    | cons s p ih =>
     rw [Zdq] at hv
     split at hv
     ·
      rcases List.mem_cons.1 hv with rfl | hv
      · exact (hp s List.mem_cons_self).add ht
      · exact hp v (List.mem_cons_of_mem _ hv)
     ·
      rcases List.mem_cons.1 hv with rfl | hv
      · exact hp _ List.mem_cons_self
      · exact ih (fun w hw => hp w (List.mem_cons_of_mem _ hw)) hv
  exact key l [] h3 (fun _ h => nomatch h) u (Zay hu).1
 ·
  have := Jx (Qa8 l) (Xd D)
  grind
theorem Zfv {n k : Nat} (h : (wds n).length ≤ k) : n < 4294967296 ^ k := Nat.lt_of_lt_of_le (Zcg n) (Zeq h)
theorem Zxw {x : Rat} {k : Nat} (h : Qc x ≤ k) : x.num.natAbs < 4294967296 ^ k ∧ x.den < 4294967296 ^ k := by
 obtain ⟨h1, h2⟩ := Zca h
 exact ⟨Zfv h1, Zfv h2⟩
theorem Zwx {a b c d K k : Nat} (h1 : a < 4294967296 ^ K) (h2 : b < 4294967296 ^ k) (h3 : c < 4294967296 ^ K) (h4 : d < 4294967296 ^ k) : a * b + c * d < 4294967296 ^ (K + k + 1) := by
 have e1 := Nat.mul_lt_mul'' h1 h2
 have e2 := Nat.mul_lt_mul'' h3 h4
 rw [Nat.pow_succ, Nat.pow_add]
 generalize 4294967296 ^ K * 4294967296 ^ k = P at *
 omega
theorem Hb.nil : Hb 1 [] := ⟨1, 0, oo, by omega, oo, (fun _ h => nomatch h), by show (0 : Rat) * _ ≤ (0 : Rat); grind⟩
theorem Hb.append {Ka Kb : Nat} {a b : List Tm} (ha : Hb Ka a) (hb : Hb Kb b) : Hb (Ka + Kb + 1) (a ++ b) := by
 obtain ⟨D, N, h0, h1, h2, h3, h4⟩ := ha
 obtain ⟨E, M, k0, k1, k2, k3, k4⟩ := hb
 refine ⟨D * E, N * E + D * M, Nat.mul_pos h0 k0, Nat.lt_of_lt_of_le (by rw [Nat.pow_add]; exact Nat.mul_lt_mul'' h1 k1) (Zeq (Nat.le_succ (Ka + Kb))), Zwx h2 k1 h1 k2, fun t ht => ?_, ?_⟩
 ·
  rcases List.mem_append.1 ht with h | h
  · exact (h3 t h).right E
  · exact (k3 t h).left D
 ·
  rw [Zcl, Ks, Zey, Ks, Ks]
  have e1 := Jx h4 (Xd E)
  have e2 := Jx k4 (Xd D)
  grind
theorem Hb.cons {K k : Nat} {l : List Tm} {t : Tm} (h : Hb K l) (ht : Qc t.c ≤ k) : Hb (K + k + 1) (t :: l) := by
 obtain ⟨D, N, h0, h1, h2, h3, h4⟩ := h
 obtain ⟨p1, p2⟩ := Zxw ht
 have hp := t.c.den_pos
 refine ⟨D * t.c.den, D * t.c.num.natAbs + N * t.c.den, Nat.mul_pos h0 hp, Nat.lt_of_lt_of_le (by rw [Nat.pow_add]; exact Nat.mul_lt_mul'' h1 p2) (Zeq (Nat.le_succ (K + k))), Zwx h1 p1 h2 p2, fun s hs => ?_, ?_⟩
 ·
  rcases List.mem_cons.1 hs with rfl | hs
  · exact (ID.self _).left D
  · exact (h3 s hs).right _
 ·
  rw [sab, Ks, Zey, Ks, Ks]
  have e0 := Zzj t.c
  have e1 := Jx h4 (Xd t.c.den)
  rw [← e0]
  grind
theorem Hb.of_KL {k : Nat} {l : List Tm} (h : KL k l) : Hb (l.length * (k + 1) + 1) l := by
 induction l with
 | nil => exact Hb.nil.mono oo
 | cons t l ih =>
  have h2 := (ih (fun s hs => h s (List.mem_cons_of_mem _ hs))).cons (h t List.mem_cons_self)
  have e : (t :: l).length * (k + 1) + 1 = l.length * (k + 1) + 1 + k + 1 := by rw [List.length_cons, Nat.add_mul]; omega
  rw [e]; exact h2
theorem Hb.scale {K k : Nat} {l : List Tm} {c : Rat} (h : Hb K l) (hc : Qc c ≤ k) : Hb (k + K) (Zs c l) := by
 obtain ⟨D, N, h0, h1, h2, h3, h4⟩ := h
 obtain ⟨p1, p2⟩ := Zxw hc
 refine ⟨c.den * D, c.num.natAbs * N, Nat.mul_pos c.den_pos h0, by rw [Nat.pow_add]; exact Nat.mul_lt_mul'' p2 h1, by rw [Nat.pow_add]; exact Nat.mul_lt_mul'' p1 h2, fun u hu => ?_, ?_⟩
 ·
  unfold Zs at hu
  obtain ⟨t, ht, rfl⟩ := List.mem_map.1 hu
  exact (ID.self c).mul (h3 t ht)
 ·
  rw [Zmv, Ks, Ks, ← Zzj]
  have e1 := Jx h4 (Rat.mul_nonneg (Zc1 c) (Xd c.den))
  grind
theorem Hb.mul {Ka Kb : Nat} {a b : List Tm} (ha : Hb Ka a) (hb : Hb Kb b) : Hb (Ka + Kb) (Jg a b) := by
 obtain ⟨D, N, h0, h1, h2, h3, h4⟩ := ha
 obtain ⟨E, M, k0, k1, k2, k3, k4⟩ := hb
 refine ⟨D * E, N * M, Nat.mul_pos h0 k0, by rw [Nat.pow_add]; exact Nat.mul_lt_mul'' h1 k1, by rw [Nat.pow_add]; exact Nat.mul_lt_mul'' h2 k2, fun u hu => ?_, ?_⟩
 ·
  unfold Jg at hu
  obtain ⟨s, hs, hu⟩ := List.mem_flatMap.1 hu
  obtain ⟨t, ht, rfl⟩ := List.mem_map.1 hu
  exact (h3 s hs).mul (k3 t ht)
 ·
  rw [Zk4, Ks, Ks]
  have e1 := Zit h4 k4 (Rat.mul_nonneg (Za5 b) (Xd E)) (Xd N)
  grind
theorem Zq5 (f : Tm → Tm) (m : Nat) : ∀ l : List Tm, (∀ t ∈ l, ab (f t).c ≤ ab t.c * ((m : Int) : Rat)) → sab (l.map f) ≤ sab l * ((m : Int) : Rat)
 | [], _ => by simp only [List.map_nil, sab]; grind
 | t :: l, h => by
  have h1 := h t List.mem_cons_self
  have h2 := Zq5 f m l (fun s hs => h s (List.mem_cons_of_mem _ hs))
  simp only [List.map_cons, sab]; grind
theorem Hb.mapi {K : Nat} {l : List Tm} (h : Hb K l) (f : Tm → Tm) (n : Tm → Nat) (hf : ∀ t ∈ l, (f t).c = t.c * ((n t : Int) : Rat)) (hn : ∀ t ∈ l, n t ≤ 1000) : Hb (K + 1) (l.map f) := by
 obtain ⟨D, N, h0, h1, h2, h3, h4⟩ := h
 refine ⟨D, N * 1000, h0, Nat.lt_of_lt_of_le h1 (Zeq (Nat.le_succ K)), by rw [Nat.pow_succ]; exact Nat.mul_lt_mul'' h2 dd, fun u hu => ?_, ?_⟩
 ·
  obtain ⟨t, ht, rfl⟩ := List.mem_map.1 hu
  rw [hf t ht]
  obtain ⟨z, hz⟩ := h3 t ht
  exact ⟨z * (n t : Int), by rw [Rat.intCast_mul, ← hz]; grind⟩
 ·
  have e1 := Zq5 f 1000 l (fun t ht => by
   rw [hf t ht, Zs8, Zap (Xd _)]
   have := Jx (Zy6 (hn t ht)) (Zc1 t.c)
   grind)
  have e2 := Jx e1 (Xd D)
  have e3 := Jx h4 (Xd 1000)
  rw [Ks]
  grind
structure Pq (d K : Nat) (l : List Tm) : Prop where
 deg : DL d l
 len : l.length ≤ 100
 hgt : Hb K l
theorem Pq.siz {d K : Nat} {l : List Tm} (h : Pq d K l) : KL K l := h.hgt.siz
theorem Pq.nsz {d K : Nat} {l : List Tm} (h : Pq d K l) : KL K (norm l) := h.hgt.nrm.siz
theorem Pq.nlen {d K : Nat} {l : List Tm} (h : Pq d K l) : (norm l).length ≤ tri (d + 1) := Zk9 (Qr l) (Qm h.deg)
theorem Pq.of_norm {d K : Nat} {l : List Tm} (hd : DL d l) (hk : Hb K l) (hd12 : d ≤ 12) : Pq d K (norm l) :=
 ⟨Qm hd, Nat.le_trans (Zk9 (Qr l) (Qm hd)) (Nat.le_trans (Zem (show d + 1 ≤ 13 by omega)) dd), hk.nrm⟩
theorem Pq.nrm {d K : Nat} {l : List Tm} (h : Pq d K l) (hd12 : d ≤ 12) : Pq d K (norm l) := Pq.of_norm h.deg h.hgt hd12
theorem Pq.mono {d K d' K' : Nat} {l : List Tm} (h : Pq d K l) (hd : d ≤ d') (hk : K ≤ K') : Pq d' K' l := ⟨h.deg.mono hd, h.len, h.hgt.mono hk⟩
theorem Pq.raw {d k m : Nat} {l : List Tm} (hd : DL d l) (hk : KL k l) (hm : l.length ≤ m) (hm2 : m ≤ 100) : Pq d (m * (k + 1) + 1) l :=
 ⟨hd, Nat.le_trans hm hm2, (Hb.of_KL hk).mono (by have := Nat.mul_le_mul_right (k + 1) hm; omega)⟩
theorem Pq.add {da db Ka Kb : Nat} {a b : List Tm} (ha : Pq da Ka a) (hb : Pq db Kb b) (h1 : da ≤ 12) (h2 : db ≤ 12) : Pq (max da db) (Ka + Kb + 2) (norm (a ++ b)) :=
 Pq.of_norm (Zjv (ha.deg.mono (Nat.le_max_left _ _)) (hb.deg.mono (Nat.le_max_right _ _))) ((ha.hgt.append hb.hgt).mono oo) oo
theorem Pq.mul {da db Ka Kb : Nat} {a b : List Tm} (ha : Pq da Ka a) (hb : Pq db Kb b) (h1 : da + db ≤ 12) : Pq (da + db) (Ka + Kb) (norm (Jg a b)) :=
 Pq.of_norm (Zmc ha.deg hb.deg) (ha.hgt.mul hb.hgt) h1
theorem Pq.scale {d K Kc : Nat} {a : List Tm} {c : Rat} (ha : Pq d K a) (hc : Qc c ≤ Kc) (h1 : d ≤ 12) : Pq d (Kc + K + 1) (norm (Zs c a)) :=
 Pq.of_norm (Zju c ha.deg) ((ha.hgt.scale hc).mono oo) h1
theorem Pq.dx {d K : Nat} {p : List Tm} (h : Pq d K p) (hd : d ≤ 12) : Pq d (K + 1) (norm (dxL p)) :=
 Pq.of_norm (DL_dxL h.deg) (h.hgt.mapi _ (fun t => t.i) (fun t _ => rfl) (fun t ht => by have := h.deg t ht; omega)) hd
theorem Pq.dy {d K : Nat} {p : List Tm} (h : Pq d K p) (hd : d ≤ 12) : Pq d (K + 1) (norm (dyL p)) :=
 Pq.of_norm (DL_dyL h.deg) (h.hgt.mapi _ (fun t => t.j) (fun t _ => rfl) (fun t ht => by have := h.deg t ht; omega)) hd
theorem Qbt : norm [⟨0, 0, 1⟩] = [⟨0, 0, 1⟩] := Xr ⟨fun t ht => by rw [List.mem_singleton] at ht; subst ht; simp only; grind, List.pairwise_singleton _ _⟩
theorem Qw : norm [] = [] := Xr ⟨(fun _ h => nomatch h), List.Pairwise.nil⟩
theorem Pq.nil (d : Nat) : Pq d 1 [] := ⟨(fun _ h => nomatch h), Nat.zero_le _, Hb.nil⟩
theorem Pq.one : Pq 0 4 [⟨0, 0, 1⟩] :=
 ⟨fun t ht => by rw [List.mem_singleton] at ht; subst ht; exact Nat.le_refl _, by simp, (Hb.of_KL (k := 2) (fun t ht => by rw [List.mem_singleton] at ht; subst ht; exact Zli)).mono ss⟩
theorem Pq.pow {d K : Nat} {a : List Tm} (ha : Pq d K a) : ∀ n, n * d ≤ 12 → Pq (n * d) (n * K + 4) (norm (Yb a n))
 | 0, _ => by rw [Yb, Qbt, Nat.zero_mul, Nat.zero_mul]; exact Pq.one
 | n + 1, h => by
  rw [Nat.add_mul, Nat.one_mul] at h
  have ih := Pq.pow ha n oo
  have := Pq.mul ih ha oo
  rw [Ji ((Eqv.nrm (Yb a n)).mul Eqv.rfl')] at this
  rw [Nat.add_mul, Nat.one_mul, Nat.add_mul, Nat.one_mul]
  exact this.mono (Nat.le_refl _) oo
theorem Pq.line {K : Nat} {a b c : Rat} (ha : Qc a ≤ K) (hb : Qc b ≤ K) (hc : Qc c ≤ K) : Pq 1 (3 * K + 4) (ln a b c) := by
 have h : KL K (ln a b c) := fun t ht => by
  simp only [ln, List.mem_cons, List.not_mem_nil, or_false] at ht
  rcases ht with rfl | rfl | rfl <;> assumption
 refine ⟨fun t ht => ?_, by simp [ln], (Hb.of_KL h).mono (by simp [ln]; omega)⟩
 simp only [ln, List.mem_cons, List.not_mem_nil, or_false] at ht
 rcases ht with rfl | rfl | rfl <;> simp
end
section
def KT (d K Kx : Nat) : Nat := K + d * (3 * Kx + 4) + 20
def KS (d K Kx : Nat) : Nat := tri (d + 1) * KT d K Kx + 1
theorem Pq.line_pow {K n : Nat} {a b c : Rat} (ha : Qc a ≤ K) (hb : Qc b ≤ K) (hc : Qc c ≤ K) (hn : n ≤ 12) : Pq n (n * (3 * K + 4) + 4) (norm (Yb (ln a b c) n)) := by
 have h := Pq.pow (Pq.line ha hb hc) n oo
 rwa [Nat.mul_one] at h
def sbT (X Y : List Tm) (t : Tm) : List Tm := Zs t.c (Jg (Yb X t.i) (Yb Y t.j))
theorem Zhv (X Y : List Tm) (l : List Tm) (t : Tm) : sbL X Y (l ++ [t]) = sbL X Y l ++ sbT X Y t := by
 unfold sbL sbT; rw [List.flatMap_append]; simp
theorem Pq.sbT {d K Kx : Nat} {ax bx cx ay b cy : Rat} {t : Tm} (h1 : Qc ax ≤ Kx) (h2 : Qc bx ≤ Kx) (h3 : Qc cx ≤ Kx) (h4 : Qc ay ≤ Kx) (h5 : Qc b ≤ Kx) (h6 : Qc cy ≤ Kx)
  (hd : d ≤ 12) (ht : t.i + t.j ≤ d) (hK : Qc t.c ≤ K) : Pq d (KT d K Kx - 2) (norm (sbT (ln ax bx cx) (ln ay b cy) t)) := by
 have p1 := Pq.line_pow (n := t.i) h1 h2 h3 (show t.i ≤ 12 by omega)
 have p2 := Pq.line_pow (n := t.j) h4 h5 h6 (show t.j ≤ 12 by omega)
 have p3 := Pq.mul p1 p2 (show t.i + t.j ≤ 12 by omega)
 have p4 := Pq.scale p3 hK (show t.i + t.j ≤ 12 by omega)
 have e : norm (Go.Proofs.YtddhlkfpdjmplaaGreatDoor.sbT (ln ax bx cx) (ln ay b cy) t) = norm (Zs t.c (norm (Jg (norm (Yb (ln ax bx cx) t.i)) (norm (Yb (ln ay b cy) t.j))))) := by
  refine (Ji ?_).symm
  exact ((Eqv.nrm _).trans ((Eqv.nrm _).mul (Eqv.nrm _))).scale t.c
 rw [e]
 refine p4.mono ht ?_
 have := Nat.mul_le_mul_right (3 * Kx + 4) ht
 rw [Nat.add_mul] at this
 unfold KT; omega
theorem Pq.sbl {d K Kx : Nat} {ax bx cx ay b cy : Rat} (h1 : Qc ax ≤ Kx) (h2 : Qc bx ≤ Kx) (h3 : Qc cx ≤ Kx) (h4 : Qc ay ≤ Kx) (h5 : Qc b ≤ Kx) (h6 : Qc cy ≤ Kx)
  (hd : d ≤ 12) {p : List Tm} (hD : DL d p) (hK : KL K p) : ∀ k, k ≤ p.length → Pq d (k * KT d K Kx + 1) (norm (sbL (ln ax bx cx) (ln ay b cy) (p.take k)))
 | 0, _ => by rw [List.take_zero, show sbL (ln ax bx cx) (ln ay b cy) [] = [] from rfl, Qw, Nat.zero_mul]; exact Pq.nil d
 | k + 1, hk => by
  have ih := Pq.sbl h1 h2 h3 h4 h5 h6 hd hD hK k oo
  have hmem := getD_mem p (d := (⟨0, 0, 0⟩ : Tm)) (show k < p.length by omega)
  have pt := Pq.sbT (t := p.getD k ⟨0, 0, 0⟩) h1 h2 h3 h4 h5 h6 hd (hD _ hmem) (hK _ hmem)
  have pa := Pq.add ih pt hd hd
  have e : p.take (k + 1) = p.take k ++ [p.getD k ⟨0, 0, 0⟩] := by
   rw [List.take_add_one, List.getElem?_eq_getElem oo]; simp [List.getD, show k < p.length by omega]
  rw [e, Zhv, ← Ji ((Eqv.nrm _).append (Eqv.nrm _))]
  refine pa.mono oo ?_
  have : 20 ≤ KT d K Kx := by unfold KT; omega
  rw [Nat.add_mul]; omega
theorem Pq.shift {d K Kx : Nat} {ax bx cx ay b cy : Rat} {p : List Tm} (hp : Pq d K p) (h1 : Qc ax ≤ Kx) (h2 : Qc bx ≤ Kx) (h3 : Qc cx ≤ Kx) (h4 : Qc ay ≤ Kx) (h5 : Qc b ≤ Kx) (h6 : Qc cy ≤ Kx)
  (hd : d ≤ 12) : Pq d (KS d K Kx) (norm (shL p ax bx cx ay b cy)) := by
 have h := Pq.sbl h1 h2 h3 h4 h5 h6 hd (Qm hp.deg) hp.nsz (norm p).length (Nat.le_refl _)
 rw [List.take_length] at h
 unfold shL
 rw [← Ji (Eqv.sub Eqv.rfl' Eqv.rfl' (Eqv.nrm p))]
 exact h.mono (Nat.le_refl _) (by have := Nat.mul_le_mul_right (KT d K Kx) hp.nlen; unfold KS; omega)
def Zui (φ : Nat → Nat → Rat) (l : List Tm) : Rat := l.foldl (fun s t => s + t.c * φ t.i t.j) 0
theorem Zrz (φ : Nat → Nat → Rat) : ∀ (l : List Tm) (s : Rat), l.foldl (fun s t => s + t.c * φ t.i t.j) s = s + lin φ l
 | [], s => by simp only [List.foldl_nil, lin]; grind
 | t :: l, s => by rw [List.foldl_cons, Zrz φ l, lin]; grind
theorem Qge (φ : Nat → Nat → Rat) (l : List Tm) : Zui φ l = lin φ l := by rw [Zui, Zrz]; grind
theorem Znj (φ : Nat → Nat → Rat) (l : List Tm) (t : Tm) : Zui φ (l ++ [t]) = Zui φ l + t.c * φ t.i t.j := by
 unfold Zui; rw [List.foldl_append]; rfl
theorem Ziz {φ : Nat → Nat → Rat} {K Kf : Nat} : ∀ {l : List Tm} (n : Nat), n ≤ l.length → KL K l → (∀ t ∈ l, Qc (φ t.i t.j) ≤ Kf) → Qc (Zui φ (l.take n)) ≤ 2 + n * (K + Kf + 1)
 | l, 0, _, _, _ => by rw [List.take_zero]; have := Zd6; unfold Zui; simp only [List.foldl_nil]; omega
 | l, n + 1, hn, hK, hf => by
  have ih := Ziz n oo hK hf
  have hmem := getD_mem l (d := (⟨0, 0, 0⟩ : Tm)) (show n < l.length by omega)
  have e : l.take (n + 1) = l.take n ++ [l.getD n ⟨0, 0, 0⟩] := by
   rw [List.take_add_one, List.getElem?_eq_getElem oo]; simp [List.getD, show n < l.length by omega]
  rw [e, Znj]
  have := Yw (Zui φ (l.take n)) ((l.getD n ⟨0, 0, 0⟩).c * φ (l.getD n ⟨0, 0, 0⟩).i (l.getD n ⟨0, 0, 0⟩).j)
  have := Qf (l.getD n ⟨0, 0, 0⟩).c (φ (l.getD n ⟨0, 0, 0⟩).i (l.getD n ⟨0, 0, 0⟩).j)
  have := hK _ hmem
  have := hf _ hmem
  rw [Nat.add_mul]; omega
def fq : Nat → Rat
 | 0 => 1
 | n + 1 => fq n * (((n + 1 : Nat) : Int) : Rat)
end
section
def SG (d K Kp : Nat) : Nat := 2 + tri (d + 1) * (KS d K (2 * Kp + 1) + 5)
def TR (d K Kp : Nat) : Nat := (8 * Kp + 5) + (2 + tri (d + 1) * (KS d K (2 * Kp + 1) + 301))
def PtK (K : Nat) (a : Pt) : Prop := Qc a.1 ≤ K ∧ Qc a.2 ≤ K
theorem PtK.mono {K K' : Nat} {a : Pt} (h : PtK K a) (hk : K ≤ K') : PtK K' a := ⟨Nat.le_trans h.1 hk, Nat.le_trans h.2 hk⟩
def fanF (p : List Tm) (a : Pt) (l : List Pt) : Nat → Rat
 | 0 => 0
 | k + 1 => fanF p a l k + Qam p a (l.getD k (0, 0)) (l.getD (k + 1) (0, 0))
end
section
theorem Jz {b off : Nat} (w : World) : (Instr.fieldAt 117 (.pointer (some ⟨b, off, none⟩)) 0).run Tryz.prog w = .ok (.pointer (some ⟨b, off + 0, none⟩)) w := by
 simp [go_sem]
theorem Ke {c0 c1 c2 c3 c4 c5 c6 : Value} : Qk false 1 #[c0, c1, c2, c3, c4, c5, c6] 0 = some c0 := rfl
theorem Jy {b off : Nat} (w : World) : (Instr.fieldAt 117 (.pointer (some ⟨b, off, none⟩)) 1).run Tryz.prog w = .ok (.pointer (some ⟨b, off + 1, none⟩)) w := by
 simp [go_sem]
theorem Vk {c0 c1 c2 c3 c4 c5 c6 : Value} : Qk false 1 #[c0, c1, c2, c3, c4, c5, c6] 1 = some c1 := rfl
theorem Zqk (x0 : Int) (x1 : Int) (w : World) : (Instr.buildSlice 51 2 [(0, .int .i64 x0), (1, .int .i64 x1)].toArray).run Tryz.prog w = .ok (.slice (some ⟨w.heap.size, 0, none⟩) 2 2) (w.alloc (.cells #[.int .i64 x0, .int .i64 x1] 3 (0, 0))) := by
 simp [go_sem]
theorem Xz {b off : Nat} (w : World) : (Instr.fieldAt 117 (.pointer (some ⟨b, off, none⟩)) 2).run Tryz.prog w = .ok (.pointer (some ⟨b, off + 2, none⟩)) w := by
 simp [go_sem]
theorem Vh {c0 c1 c2 c3 c4 c5 c6 : Value} : Qk true 5 #[c0, c1, c2, c3, c4, c5, c6] 2 = some (.agg #[c2, c3, c4, c5, c6]) := rfl
theorem Zk (a : Option Addr) (n c : Nat) (w : World) (ty : TypeId) (cs : Array Bool) : (Go.builtin .len #[47] ty cs #[.slice a n c]).run Tryz.prog w = .ok (.value (.int .i64 n)) w := by
 simp [go_sem]
theorem Zao (b off n c j : Nat) (h : j < n) (w : World) : (Instr.indexAt 47 (.slice (some ⟨b, off, none⟩) n c) (.int .i64 (j : Int))).run Tryz.prog w = .ok (.pointer (some ⟨b, off + j * 7, none⟩)) w := by
 simpa using Xx runUnderlying47 sizeOf117 b off n c j h w
abbrev T0 : Tm := ⟨0, 0, 0⟩
abbrev Zp (t : Tm) : Value := .agg #[.int .i64 ((t.i : Nat) : Int), .int .i64 ((t.j : Nat) : Int), .int .u64 (Za6 t.c.num.natAbs), .string (Kt t.c.num.natAbs), .bool (decide (t.c.num < 0)), .int .u64 (Za6 (t.c.den - 1)), .string (Kt (t.c.den - 1))]
theorem Gz (w : World) : (zeroValue 117).run Tryz.prog w = .ok (Zp T0) w := zeroValue117 w
def Zor (s t : Tm) : Int := orI [Zqh ((s.i + s.j : Nat) : Int) ((t.i + t.j : Nat) : Int), Zqh ((s.j : Nat) : Int) ((t.j : Nat) : Int)]
theorem Zy1 (i k : Int) : Zqh i k < 0 ↔ i < k := by unfold Zqh; split <;> (try split) <;> omega
theorem Qg8 (i k : Int) : Zqh i k = 0 ↔ i = k := by unfold Zqh; split <;> (try split) <;> omega
theorem Zir (s t : Tm) : Zor s t < 0 ↔ ltT s t = true := by
 rw [Kz]
 unfold Zor
 have h1 := Zy1 ((s.i + s.j : Nat) : Int) ((t.i + t.j : Nat) : Int)
 have h2 := Qg8 ((s.i + s.j : Nat) : Int) ((t.i + t.j : Nat) : Int)
 have h3 := Zy1 ((s.j : Nat) : Int) ((t.j : Nat) : Int)
 simp only [orI]
 split
 · omega
 ·
  split
  · omega
  · rename_i h4 h5; have h6 := Decidable.of_not_not h5; omega
theorem Zmf (s t : Tm) (hs : s.i + s.j ≤ 1000000) (ht : t.i + t.j ≤ 1000000) : Ys Tryz.prog 90 [Zp s, Zp t] (.int .i64 (Zor s t)) := by
 refine fn_intro func90 rfl ntmps90 nb ?_
 intro S w0 a hS h
 refine gC h (zS (zx rfl fun b2 => zx rfl fun b3 => za rfl (zn (zs (yD Za [0, 1, 2, 3, 4, 5, 6, 7, 8, 9, 11, 12, 13, 14, 10, 15, 16, 17, 18] (Zd kk) (yp rfl (.fA rfl Jz) (yd rfl rfl mr isAgg3 sizeOf3 Ke ?_))))))); clear h
 refine yp rfl (.fA rfl Jy) (yd rfl rfl mr isAgg3 sizeOf3 Vk ?_)
 refine yp rfl (.pN (((s).i) + ((s).j)) (.add rfl rfl)) (yp rfl (.fA rfl Jz) (yd rfl rfl mr isAgg3 sizeOf3 Ke ?_))
 refine yp rfl (.fA rfl Jy) (yd rfl rfl mr isAgg3 sizeOf3 Vk ?_)
 refine yp rfl (.pN (((t).i) + ((t).j)) (.add rfl rfl)) (yp rfl (.fA rfl Jy) (yd rfl rfl mr isAgg3 sizeOf3 Vk ?_))
 refine yp rfl (.fA rfl Jy) (yd rfl rfl mr isAgg3 sizeOf3 Vk ?_)
 refine yv [_, _] rfl rfl call152 (Qev (((((s).i) + ((s).j) : Nat) : Int)) (((((t).i) + ((t).j) : Nat) : Int))) (yv [_, _] rfl rfl call152 (Qev ((((s).j : Nat) : Int)) ((((t).j : Nat) : Int))) ?_)
 refine Xy hS rfl kk [(_, _), (_, _)] rfl (Zqk _ _) (List.map enci [Zqh ((s.i + s.j : Nat) : Int) ((t.i + t.j : Nat) : Int), Zqh ((s.j : Nat) : Int) ((t.j : Nat) : Int)]) rfl dd ?_; intro b21
 refine yw [_] rfl rfl call151 (C_Or _ _ ([Zqh (((((s).i) + ((s).j) : Nat) : Int)) (((((t).i) + ((t).j) : Nat) : Int)), Zqh ((((s).j : Nat) : Int)) ((((t).j : Nat) : Int))]) nb) (yp rfl (.assign rfl) (yn (zt ?_))); intro a w h
 exact Zbw h
theorem C_may (t : Tm) (ht : t.i + t.j ≤ 12) : Ys Tryz.prog 80 [Zp t] (.int .i64 0) := by
 refine fn_intro func80 rfl ntmps80 nb ?_
 intro S w0 a hS h
 refine gC h (zS (zx rfl fun b1 => za rfl (zn (zs (zb (zS (zp (.fA rfl Jz) (zd rfl mr isAgg3 sizeOf3 Ke ?_))))))))
 refine zp (.lss rfl rfl) (zm rfl ?_); intro a w h
 refine Zg h (fun hc7 h => (by exfalso; have := of_decide_eq_true hc7; omega)) (fun hc7 h => ?_)
 refine gL h (zq 7 rfl rfl (.fA rfl Jy) ?_); clear h; intro a w h
 refine Ze 7 h rfl rfl (Vi h rfl mr isAgg3 sizeOf3 Vk dd ?_); clear h; intro a h
 refine gL h (zq 7 rfl rfl (.lss rfl rfl) (zp (.pickF rfl rfl) (za rfl (zn ?_)))); clear h; intro a w h
 refine cW ?_
 refine Zb h rfl (fun hc3 => (by exfalso; have := of_decide_eq_true hc3; omega)) (fun hc3 => ?_)
 refine gC h (zS (zp (.fA rfl Jz) (zd rfl mr isAgg3 sizeOf3 Ke ?_)))
 refine zp (.gtr rfl rfl) (zm rfl ?_); intro a w h
 refine Zg h (fun hc16 h => (by exfalso; have := of_decide_eq_true hc16; omega)) (fun hc16 h => ?_)
 refine gL h (zq 16 rfl rfl (.fA rfl Jy) ?_); clear h; intro a w h
 refine Ze 16 h rfl rfl (Vi h rfl mr isAgg3 sizeOf3 Vk dd ?_); clear h; intro a h
 refine gL h (zq 16 rfl rfl (.fA rfl Jz) ?_); clear h; intro a w h
 refine Ze 16 h rfl rfl (Vi h rfl mr isAgg3 sizeOf3 Ke dd ?_); clear h; intro a h
 refine gL h (zq 16 rfl rfl (.sub rfl rfl) (zq 16 rfl rfl (.gtr rfl rfl) (zp (.pickF rfl rfl) (za rfl (zn ?_))))); clear h; intro a w h
 refine cW ?_
 refine Zb h rfl (fun hc12 => (by exfalso; have := of_decide_eq_true hc12; omega)) (fun hc12 => ?_)
 refine gC h (zk (zS (za rfl (zn (zt ?_))))); clear h; intro a w h
 exact Zbw h
theorem Qet (t : Tm) : Ys Tryz.prog 143 [Zp t] (.bool (decide (t.c = 0))) := by
 refine fn_intro func143 rfl ntmps143 nb ?_
 intro S w0 a hS h
 refine gC h (zS (zx rfl fun b1 => za rfl (zn (zS (zp (.fA rfl Xz) (zd rfl mr isAgg44 sizeOf44 Vh ?_))))))
 refine zv [_] rfl call83 (Zha _) (zp (.eql rfl rfl) (za rfl (zn (zt ?_)))); intro a w h
 refine Jm h (Zc h rfl (.tmp rfl)) ?_
 show Value.bool _ = Value.bool _; congr 1; rw [Bool.eq_iff_iff, beq_iff_eq, decide_eq_true_iff, Int.sign_eq_zero_iff_zero]; exact Rat.num_eq_zero
def Zp3 : List Tm → Nat → Int
 | [], _ => -1
 | x :: l, i => if x.c = 0 then (i : Int) else Zp3 l (i + 1)
theorem Znn (l : List Tm) (i : Nat) (h : i < l.length) : Zp3 (l.drop i) i = if (l.getD i T0).c = 0 then (i : Int) else Zp3 (l.drop (i + 1)) (i + 1) := by
 rw [List.drop_eq_getElem_cons h, Zp3]; simp [List.getD, h]
theorem Znp : ∀ (l : List Tm) (i : Nat), Zp3 l i = -1 → l.filter (fun t => decide (t.c ≠ 0)) = l
 | [], _, _ => rfl
 | x :: l, i, h => by
  rw [Zp3] at h
  split at h
  · omega
  · rename_i hx; rw [List.filter_cons, if_pos (by simpa using hx), Znp l (i + 1) h]
theorem Zno : ∀ (l : List Tm) (i k : Nat), Zp3 l i = (k : Int) → i ≤ k ∧ k - i < l.length ∧ (l.getD (k - i) T0).c = 0 ∧ (l.take (k - i)).filter (fun t => decide (t.c ≠ 0)) = l.take (k - i)
 | [], i, k, h => by rw [Zp3] at h; omega
 | x :: l, i, k, h => by
  rw [Zp3] at h
  split at h
  ·
   rename_i hx
   have : k = i := oo
   subst this
   simp [hx]
  ·
   rename_i hx
   obtain ⟨h1, h2, h3, h4⟩ := Zno l (i + 1) k h
   have e : k - i = (k - (i + 1)) + 1 := oo
   rw [e]
   refine ⟨oo, by simp; omega, by simpa using h3, ?_⟩
   rw [List.take_succ_cons, List.filter_cons, if_pos (by simpa using hx), h4]
theorem Qdf (b c : Nat) (p : List Tm) (R : List Value) (σ : List (Nat × Obj)) (Φ : List Zy) (hn : p.length ≤ 1000000) :
  Zob Tryz.prog 190 [.slice (some ⟨b, 0, none⟩) p.length c, .func (.func 143) #[] #[]] ((b, .cells (cellsOf Zp p ++ R).toArray 117 (0, 0)) :: σ) Φ (fun v σ' Φ' => v = .int .i64 (Zp3 p 0) ∧ σ' = ((b, .cells (cellsOf Zp p ++ R).toArray 117 (0, 0)) :: σ) ∧ Φ' = Φ) := by
 refine fn_introM func190 rfl ntmps190 nb ?_
 intro S w0 a w hS h
 refine gC h (zS (za rfl (zn (zs (zS (zm rfl (zp (.builtin [_] rfl (Zk _ _ _)) (zm rfl (zn (zb ?_)))))))))); clear h; intro a w h
 refine Zf (fun (i : Nat) a w => i ≤ p.length ∧ (Zp3 p 0 = Zp3 (p.drop i) i) ∧ St 19 S w0 [(0, .slice (some ⟨b, 0, none⟩) p.length c), (1, .func (.func 143) #[] #[]), (7, nI p.length), (8, nI i)] ((b, .cells (cellsOf Zp (p) ++ R).toArray 117 (0, 0)) :: σ) (Φ) a w) (fun i => p.length - i) 0 (⟨Nat.zero_le _, rfl, by exact (h).sub sA⟩) ?_; clear h
 rintro i a w ⟨hi_i, hinv_i, h⟩
 refine gC h (zS (zp (.lss rfl rfl) (zn (zs ?_)))); clear h; intro a w h
 refine Zb h rfl (fun hc9 => ?_) (fun hc9 => ?_)
 ·
  skip
  have hlt_i : i < p.length := dT hc9
  refine gC h (zk (zs (zb (zS (zm rfl (za rfl (zn (zS (zm rfl (zm rfl (zm rfl (zp (.indexAddr rfl rfl (Zao _ _ _ _ _ oo)) (zd rfl mm isAgg117 sizeOf117 (Zin (k := 7) (fun _ => rfl) ((fun _ => rfl)) p R T0 i oo) ?_))))))))))))); clear h; intro a w h
  refine Zi (Yq h (fs := []) (cs := []) rfl (vs := [_]) rfl call143 (Qet (p.getD i T0)) dd ?_); clear h; intro a w h
  refine Zg h (fun hc16 h => ?_) (fun hc16 h => ?_)
  ·
   skip
   refine wpList_nil ?_
   refine cW ?_
   refine Zq h rfl ?_
   refine gC h (zS (zm rfl (za rfl (zn (zt ?_))))); clear h; intro a w h
   refine Qd4 h (Zc h rfl (.tmp rfl)) ⟨by rw [hinv_i, Znn p i hlt_i, if_pos (of_decide_eq_true hc16)], rfl, rfl⟩ (List.Sublist.refl _) (fun _ h => h)
  ·
   skip
   refine wpList_nil ?_
   refine cW ?_
   refine Zj h rfl ?_
   refine gC h (zk (zr (zp (.pN (i + 1) (.add rfl rfl)) (zm rfl (zn ?_))))); clear h; intro a w h
   exact ⟨i + 1, ⟨oo, by rw [hinv_i, Znn p i hlt_i, if_neg (of_decide_eq_false hc16)], h.sub sA⟩, oo⟩
 ·
  skip
  have heq_i : p.length = i := dF hc9
  subst heq_i
  refine gC h (ze (zS (za rfl (zn (zt ?_))))); clear h; intro a w h
  refine Qd4 h (Zc h rfl (.tmp rfl)) ⟨by rw [hinv_i, List.drop_length]; rfl, rfl, rfl⟩ (List.Sublist.refl _) (fun _ h => h)
end
section
theorem Xp {c0 c1 c2 c3 c4 c5 c6 v0 v1 v2 v3 v4 v5 v6 : Value} : Jd #[c0, c1, c2, c3, c4, c5, c6] 0 [v0, v1, v2, v3, v4, v5, v6] = #[v0, v1, v2, v3, v4, v5, v6] := by kernel_rfl
theorem Vu {c0 c1 c2 c3 c4 c5 c6 : Value} : Qk true 7 #[c0, c1, c2, c3, c4, c5, c6] 0 = some (.agg #[c0, c1, c2, c3, c4, c5, c6]) := rfl
theorem slo_47 (b off n c lo : Nat) (h1 : lo ≤ n) (w : World) : (Instr.sliceAt 47 (.slice (some ⟨b, off, none⟩) n c) (some (.int .i64 (lo : Int))) none none).run Tryz.prog w = .ok (.slice (some ⟨b, if c = lo then off else off + lo * 7, none⟩) (n - lo) (c - lo)) w := Ze7 runUnderlying47 sizeOf117 b off n c lo h1 w
theorem slh_47 (a : Option Addr) (n c j : Nat) (h : j ≤ c) (w : World) : (Instr.sliceAt 47 (.slice a n c) none (some (.int .i64 (j : Int))) none).run Tryz.prog w = .ok (.slice a j c) w := by
 exact Zbu runUnderlying47 sizeOf117 a n c j h w
theorem Zse : ∀ (l : List Tm) (i : Nat), Zp3 l i ≠ -1 → ∃ k : Nat, Zp3 l i = (k : Int)
 | [], _, h => absurd rfl h
 | x :: l, i, h => by
  rw [Zp3] at h ⊢
  split
  · exact ⟨i, rfl⟩
  · rename_i hx; rw [if_neg hx] at h; exact Zse l (i + 1) h
theorem take_snoc (l : List Tm) {j : Nat} (h : j < l.length) : l.take (j + 1) = l.take j ++ [l.getD j T0] := by
 rw [List.take_add_one, List.getElem?_eq_getElem h]; simp [List.getD, h]
theorem getD_drop (l m : List Tm) {j : Nat} (h : l.drop j = m.drop j) : l.getD j T0 = m.getD j T0 := by
 have := congrArg (fun x => x[0]?) h
 simp only [List.getElem?_drop, Nat.add_zero] at this
 simp only [List.getD]; rw [this]
theorem Qcr {p q : List Tm} {i j : Nat} (hq : q.length = p.length ∧ i < j ∧ q.take i = (p.take j).filter (fun t => decide (t.c ≠ 0)) ∧ q.drop j = p.drop j) (hj : j < p.length) (hc : (q.getD j T0).c = 0) :
  q.length = p.length ∧ i < j + 1 ∧ q.take i = (p.take (j + 1)).filter (fun t => decide (t.c ≠ 0)) ∧ q.drop (j + 1) = p.drop (j + 1) := by
 obtain ⟨h1, h2, h3, h4⟩ := hq
 have hg := getD_drop _ _ h4
 refine ⟨h1, oo, ?_, ?_⟩
 · rw [take_snoc p hj, List.filter_append, ← h3, ← hg, List.filter_cons, if_neg (by simpa using hc)]; simp
 ·
  have := congrArg (List.drop 1) h4
  rw [List.drop_drop, List.drop_drop] at this; exact this
theorem Qcs {p q : List Tm} {i j : Nat} (hq : q.length = p.length ∧ i < j ∧ q.take i = (p.take j).filter (fun t => decide (t.c ≠ 0)) ∧ q.drop j = p.drop j) (hj : j < p.length) (hc : (q.getD j T0).c ≠ 0) :
  (q.set i (q.getD j T0)).length = p.length ∧ i + 1 < j + 1 ∧ (q.set i (q.getD j T0)).take (i + 1) = (p.take (j + 1)).filter (fun t => decide (t.c ≠ 0)) ∧ (q.set i (q.getD j T0)).drop (j + 1) = p.drop (j + 1) := by
 obtain ⟨h1, h2, h3, h4⟩ := hq
 have hg := getD_drop _ _ h4
 refine ⟨by rw [List.length_set, h1], oo, ?_, ?_⟩
 ·
  rw [take_snoc (q.set i (q.getD j T0)) (by rw [List.length_set]; omega), take_snoc p hj, List.filter_append, ← h3, ← hg, List.filter_cons, if_pos (by simpa using hc)]
  rw [List.take_set_of_le (Nat.le_refl _)]
  congr 2
  simp only [List.getD, List.getElem?_set, if_pos rfl, if_pos (show i < q.length by omega)]; simp
 ·
  rw [List.drop_set_of_lt oo]
  have := congrArg (List.drop 1) h4
  rw [List.drop_drop, List.drop_drop] at this; exact this
theorem Xv (t : Tm) : (Zp t).cells.size = 7 := rfl
theorem Zy3 {q : List Tm} {n i : Nat} (R : List Value) (hq : q.length = n) (hi : i ≤ n) :
  Jd (cellsOf Zp q ++ R).toArray (0 + i * 7) (Zdt (n - i) (Zp T0).cells.toList) = (cellsOf Zp (q.take i) ++ (Zdt (n - i) (Zp T0).cells.toList ++ R)).toArray := by
 have e : cellsOf Zp q = cellsOf Zp (q.take i) ++ cellsOf Zp (q.drop i) := by rw [← Qd, List.take_append_drop]
 have hl : (cellsOf Zp (q.take i)).length = i * 7 := by rw [cellsOf_length Xv]; simp [hq, Nat.min_eq_left hi]
 have := Zab (Zdt (n - i) (Zp T0).cells.toList) (cellsOf Zp (q.take i)) (cellsOf Zp (q.drop i)) R (by
  rw [Ky, cellsOf_length Xv, List.length_drop, hq]; rfl)
 rw [e, Nat.zero_add, ← hl, this, List.append_assoc]
theorem Qcy {q : List Tm} {n i : Nat} (R : List Value) (hq : q.length = n) (hi : i ≤ n) : 0 + i * 7 + (n - i) * (Zp T0).cells.size ≤ (cellsOf Zp q ++ R).toArray.size := by
 show 0 + i * 7 + (n - i) * 7 ≤ (cellsOf Zp q ++ R).length
 rw [List.length_append, cellsOf_length Xv, hq]; omega
theorem Qgy {p q : List Tm} {i j : Nat} (hq : q.length = p.length ∧ i < j ∧ q.take i = (p.take j).filter (fun t => decide (t.c ≠ 0)) ∧ q.drop j = p.drop j) (hj : j = p.length) :
  q.take i = p.filter (fun t => decide (t.c ≠ 0)) ∧ i = (p.filter (fun t => decide (t.c ≠ 0))).length := by
 obtain ⟨h1, h2, h3, h4⟩ := hq
 have e : q.take i = p.filter (fun t => decide (t.c ≠ 0)) := by rw [h3, hj, List.take_length]
 refine ⟨e, ?_⟩
 rw [← e, List.length_take]; omega
theorem Qai (b c : Nat) (p : List Tm) (R : List Value) (σ : List (Nat × Obj)) (Φ : List Zy) (hn : p.length ≤ 1000000) (hpc : p.length ≤ c) :
  Zob Tryz.prog 142 [.slice (some ⟨b, 0, none⟩) p.length c, .func (.func 143) #[] #[]] ((b, .cells (cellsOf Zp p ++ R).toArray 117 (0, 0)) :: σ) Φ
   (fun v σ' Φ' => v = .slice (some ⟨b, 0, none⟩) (p.filter (fun t => decide (t.c ≠ 0))).length c ∧ Φ' = Φ ∧ ∃ R' : List Value, (cellsOf Zp (p.filter (fun t => decide (t.c ≠ 0))) ++ R').length = (cellsOf Zp p ++ R).length ∧ σ' = (b, .cells (cellsOf Zp (p.filter (fun t => decide (t.c ≠ 0))) ++ R').toArray 117 (0, 0)) :: σ) := by
 refine fn_introM func142 rfl ntmps142 nb ?_
 intro S w0 a w hS h
 refine gC h (zS (za rfl (zn (zS (zm rfl (zm rfl ?_)))))); clear h; intro a w h
 refine Zi (Zb0 h hS (vs := [_, _]) rfl call190 (Qdf b c p R σ Φ hn) (List.Perm.refl _) ss ss ?_); clear h; rintro v10 σ10 Ψ10 a w ⟨rfl, rfl, hΦ10⟩ h
 rw [hΦ10] at h
 refine gL h (za rfl (zn (zs (zS (zm rfl (zp (.eql rfl rfl) (zn ?_))))))); clear h; intro a w h
 refine cW ?_
 refine Zb h rfl (fun hc12 => ?_) (fun hc12 => ?_)
 ·
  skip
  have hn0 := Znp p 0 (eq_of_beq hc12)
  refine gC h (zS (zm rfl (za rfl (zn (zt ?_))))); clear h; intro a w h
  refine Qd4 h (Zc h rfl (.tmp rfl)) ⟨by rw [hn0], rfl, R, by rw [hn0], by rw [hn0]⟩ (List.Sublist.refl _) (fun _ h => h)
 ·
  skip
  obtain ⟨k, hk⟩ := Zse p 0 (fun e => by rw [e] at hc12; exact absurd hc12 dd)
  rw [hk] at h
  obtain ⟨hk1, hk2, hk3, hk4⟩ := Zno p 0 k hk
  simp only [Nat.sub_zero] at hk2 hk3 hk4
  refine gC h (zk (zs (zS (zm rfl (zp (.pN (k + 1) (.add rfl rfl)) (za rfl (zn (zb ?_)))))))); clear h; intro a w h
  refine Zf (fun (m : Nat) a w => m ≤ (p.length - (k + 1)) ∧ ∃ (q : List Tm) (i : Nat), (q.length = p.length ∧ i < k + 1 + m ∧ q.take i = (p.take (k + 1 + m)).filter (fun t => decide (t.c ≠ 0)) ∧ q.drop (k + 1 + m) = p.drop (k + 1 + m)) ∧ St 42 S w0 [(0, .slice (some ⟨b, 0, none⟩) p.length c), (1, .func (.func 143) #[] #[]), (5, nI i), (6, nI (k + 1 + m)), (15, nI (k + 1))] ((b, .cells (cellsOf Zp (q) ++ R).toArray 117 (0, 0)) :: σ) (Φ) a w) (fun m => (p.length - (k + 1)) - m) 0 (⟨Nat.zero_le _, p, k, ⟨rfl, oo, by rw [Nat.add_zero, take_snoc p oo, List.filter_append, hk4, List.filter_cons, if_neg (by simpa using hk3)]; simp, rfl⟩, by exact (h).sub sA⟩) ?_; clear h
  rintro m a w ⟨hi_m, q, i, hq, h⟩
  refine gC h (zs (zS (zm rfl (zm rfl (zp (.builtin [_] rfl (Zk _ _ _)) (zp (.lss rfl rfl) (zn ?_))))))); clear h; intro a w h
  refine cW ?_
  refine Zb h rfl (fun hc19 => ?_) (fun hc19 => ?_)
  ·
   skip
   have hlt_m : m < (p.length - (k + 1)) := dT hc19
   have hq1 := hq.1
   have hq2 := hq.2.1
   refine gC h (zk (zs (zb (zS (zm rfl (zm rfl (zp (.indexAddr rfl rfl (Zao _ _ _ _ _ oo)) (zd rfl mm isAgg117 sizeOf117 (Zin (k := 7) (fun _ => rfl) ((fun _ => rfl)) q R T0 (k + 1 + m) oo) ?_))))))))
   refine zz Gz fun b7 => zt' rfl rfl Xp uu sizeOf117 rfl nb rfl ?_
   refine zn (zS (zm rfl (zd rfl mr isAgg117 sizeOf117 Vu ?_))); intro a w h
   refine Zi (Yq h (fs := []) (cs := []) rfl (vs := [_]) rfl call143 (Qet (q.getD (k + 1 + m) T0)) dd ?_); clear h; intro a w h
   refine gL h (zp (.unOp rfl (Xe _)) (zn ?_)); clear h; intro a w h
   refine cW ?_
   refine Zb h rfl (fun hc29 => ?_) (fun hc29 => ?_)
   ·
    skip
    refine gC h (zS (zm rfl (zm rfl (zd rfl mr isAgg117 sizeOf117 Vu ?_))))
    refine zp (.indexAddr rfl rfl (Zao _ _ _ _ _ oo)) (zt' (b := b) (cs := (cellsOf Zp q ++ R).toArray) (cs' := (cellsOf Zp (q.set i (q.getD (k + 1 + m) T0)) ++ R).toArray) (v := Zp (q.getD (k + 1 + m) T0)) rfl rfl (Zt3 (k := 7) (fun _ => rfl) q R i oo (q.getD (k + 1 + m) T0)) uu sizeOf117 rfl (Zn2 (k := 7) (fun _ => rfl) q R i oo) rfl ?_)
    refine zn (zr (zm rfl (zp (.pN (i + 1) (.add rfl rfl)) (za rfl (zn (zr (zm rfl (zp (.pN ((k + 1 + m) + 1) (.add rfl rfl)) (za rfl (zn ?_)))))))))); intro a w h
    exact ⟨m + 1, ⟨oo, q.set i (q.getD (k + 1 + m) T0), i + 1, Qcs (j := k + 1 + m) hq oo (by simpa using hc29), by exact (h.drop sl).sub sA⟩, oo⟩
   ·
    skip
    refine gC h (zk (zr (zm rfl (zp (.pN ((k + 1 + m) + 1) (.add rfl rfl)) (za rfl (zn ?_)))))); clear h; intro a w h
    exact ⟨m + 1, ⟨oo, q, i, Qcr (j := k + 1 + m) hq oo (by simpa using hc29), by exact (h.drop sl).sub sA⟩, oo⟩
  ·
   skip
   have heq_m : (p.length - (k + 1)) = m := dF hc19
   have hq1 := hq.1
   have hq2 := hq.2.1
   obtain ⟨hq3, hq4⟩ := Qgy hq oo
   refine gC h (ze (zS (zm rfl (zm rfl (zp (Pure1.cast (v' := .slice (some ⟨b, 0 + i * 7, none⟩) (p.length - i) (c - i)) (.slice rfl (some _) none none rfl rfl rfl (slo_47 _ _ _ _ _ oo)) (by rw [if_neg oo])) ?_))))); clear h; intro a w h
   refine Zi (Qbp h rfl oo runUnderlying47 Gz dd (Qcy R hq1 oo) rfl (Zy3 R hq1 oo) uu ?_); clear h; intro a w h
   refine gL h (zn (zS (zm rfl (zm rfl (zp (.slice rfl none (some _) none rfl rfl rfl (slh_47 _ _ _ _ oo)) (za rfl (zn (zt ?_)))))))); clear h; intro a w h
   rw [hq3] at h
   refine Qd4 h (Zc h rfl (.tmp rfl)) ⟨by rw [← hq4], rfl, _, ?_, rfl⟩ (by repeat (first | exact List.Sublist.refl _ | apply List.Sublist.cons)) (fun _ h => h)
   simp only [List.length_append, cellsOf_length Xv, Ky, Array.length_toList, Xv]
   rw [← hq4]; omega
end
end Go.Proofs.YtddhlkfpdjmplaaGreatDoor
