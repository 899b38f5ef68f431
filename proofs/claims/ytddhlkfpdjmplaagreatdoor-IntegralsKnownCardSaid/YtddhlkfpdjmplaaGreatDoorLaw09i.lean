/- Walks of functions. By an AI agent. -/
import Derived.Test.YtddhlkfpdjmplaaGreatDoorReft
set_option linter.unusedVariables false
set_option linter.unusedSimpArgs false
set_option maxRecDepth 4000
namespace Go.Proofs.YtddhlkfpdjmplaaGreatDoor
open Go Go.Proofs Go.Fx Tryz
attribute [local irreducible] Oper.wp Code.wp wpList Fx.Head wpOp
section
def tzz (t : Ti) : Tz := ⟨t.i, t.j, qv t.n t.d⟩
end
section
theorem Vq (b off : Nat) (w : World) : (Instr.indexAt 59 (.pointer (some ⟨b, off, none⟩)) (.int .i64 0)).run Tryz.prog w = .ok (.pointer (some ⟨b, off + 0, none⟩)) w := by
 simp [go_sem, Instr.indexAt]
theorem Vo {c0 c1 c2 c3 c4 c5 : Value} : Qo true 3 #[c0, c1, c2, c3, c4, c5] 0 = some (.agg #[c0, c1, c2]) := rfl
theorem Vp (b off : Nat) (w : World) : (Instr.indexAt 59 (.pointer (some ⟨b, off, none⟩)) (.int .i64 1)).run Tryz.prog w = .ok (.pointer (some ⟨b, off + 3, none⟩)) w := by
 simp [go_sem, Instr.indexAt]
theorem Vn {c0 c1 c2 c3 c4 c5 : Value} : Qo true 3 #[c0, c1, c2, c3, c4, c5] 3 = some (.agg #[c3, c4, c5]) := rfl
theorem Gd {c0 c1 c2 c3 c4 c5 : Value} : Qo true 6 #[c0, c1, c2, c3, c4, c5] 0 = some (.agg #[c0, c1, c2, c3, c4, c5]) := rfl
theorem f0r {X : Nat → Prop} {w : World} : (Row none (List.map Zo (dg (0 : Rat).num.natAbs))).p X w ∧ (Row none (List.map Zo (dg ((0 : Rat).den - 1)))).p X w := by
 have e1 : dg (0 : Rat).num.natAbs = [] := by rw [show (0 : Rat).num.natAbs = 0 from rfl, Jk]
 have e2 : dg ((0 : Rat).den - 1) = [] := by rw [show (0 : Rat).den - 1 = 0 from rfl, Jk]
 rw [e1, e2]; exact ⟨fun hne => absurd rfl hne, fun hne => absurd rfl hne⟩
abbrev fPt (x : Rat) (a1 : Option Addr) (c1 : Nat) (a2 : Option Addr) (c2 : Nat) (y : Rat) (b1 : Option Addr) (d1 : Nat) (b2 : Option Addr) (d2 : Nat) : Value :=
 .agg #[.bool (decide (x.num < 0)), .slice a1 (dg x.num.natAbs).length c1, .slice a2 (dg (x.den - 1)).length c2, .bool (decide (y.num < 0)), .slice b1 (dg y.num.natAbs).length d1, .slice b2 (dg (y.den - 1)).length d2]
theorem Zl8 (x y z : Rat) : ∀ n, DL n (Yt (ln x y z) n)
 | 0 => fun s hs => by rw [Yt, List.mem_singleton] at hs; subst hs; simp
 | n + 1 => Zl7 (Zl8 x y z n) (fun s hs => by
   simp only [ln, List.mem_cons, List.not_mem_nil, or_false] at hs
   rcases hs with rfl | rfl | rfl <;> simp)
theorem DL_sh {d : Nat} {p : List Tm} (h : DL d p) (a b c e f g : Rat) : DL d (shL p a b c e f g) := fun u hu => by
 unfold shL sbL at hu
 obtain ⟨t, ht, hu⟩ := List.mem_flatMap.1 hu
 have hd := h t ht
 have h1 := Zoc t.c (Zl7 (Zl8 a b c t.i) (Zl8 e f g t.j)) u hu
 omega
theorem DL_noY {d : Nat} {p : List Tm} (h : DL d p) : DL d (noY p) := fun u hu => by
 unfold noY at hu
 obtain ⟨t, ht, rfl⟩ := List.mem_map.1 hu
 have := h t ht
 simp only; omega
theorem Qdf {d K : Nat} {A X : List Rat} (ha : Tb d K A) (hd : d ≤ 12) {a b : Pt} (he : Eqv (pol X) (sbL (ln (b.1 - a.1) 0 a.1) (ln (b.2 - a.2) 0 a.2) (pol A))) : sgF X 13 = Yh (pol A) a b := by
 have e1 : Eqv (pol X) (shL (norm (pol A)) (b.1 - a.1) 0 a.1 (b.2 - a.2) 0 a.2) := he.trans (Eqv.sub Eqv.rfl' Eqv.rfl' (Eqv.nrm (pol A)).symm)
 rw [Qde (e1.trans (Qdc _ _ _ _ _)) ((DL_noY (DL_sh ha.nrmDL _ _ _ _ _ _)).mono hd)]
 exact he lam
theorem Zr4 {X : List Rat} {K : Nat} (hX : X.length = 169) (h : ∀ k, k < 169 → Qa (X.getD k 0) ≤ K) : ∀ n, n ≤ 13 → Qa (sgF X n) ≤ 2 + n * (K + 6)
 | 0, _ => by rw [sgF]; exact Nat.le_trans Vf oo
 | n + 1, hn => by
  have ih := Zr4 hX h n oo
  have h1 := h (13 * n) oo
  have h2 := Qe ((n + 1 : Nat) : Int) oo oo
  have h3 := Ko (X.getD (13 * n) 0) (((n + 1 : Nat) : Int) : Rat)
  have h4 := Qs (sgF X n) (X.getD (13 * n) 0 / (((n + 1 : Nat) : Int) : Rat))
  rw [sgF, Nat.add_mul]; omega
theorem Zyn (b1 : Nat) (la : List FT) (da Ka : Nat) (ha : Tb da Ka (xs la)) (hda : da ≤ 12) (hka : Ka ≤ 10000) (p1 p3 : Option Addr) (p2 p4 : Nat) (q1 q3 : Option Addr) (q2 q4 : Nat) (r1 r3 : Option Addr) (r2 r4 : Nat) (s1 s3 : Option Addr) (s2 s4 : Nat) (ax ay cx cy : Rat) (Kp : Nat) (hkax : Qa ax ≤ Kp) (hkay : Qa ay ≤ Kp) (hkcx : Qa cx ≤ Kp) (hkcy : Qa cy ≤ Kp) (hp2 : (dg ax.num.natAbs).length ≤ p2) (hp4 : (dg (ax.den - 1)).length ≤ p4) (hq2 : (dg ay.num.natAbs).length ≤ q2) (hq4 : (dg (ay.den - 1)).length ≤ q4) (hr2 : (dg cx.num.natAbs).length ≤ r2) (hr4 : (dg (cx.den - 1)).length ≤ r4) (hs2 : (dg cy.num.natAbs).length ≤ s2) (hs4 : (dg (cy.den - 1)).length ≤ s4) (hkp : Kp ≤ 1000) (hkp2 : 2 ≤ Kp) : Ctr Tryz.prog 14 [.slice (some ⟨b1, 0, none⟩) 169 169, fPt ax p1 p2 p3 p4 ay q1 q2 q3 q4, fPt cx r1 r2 r3 r4 cy s1 s2 s3 s4] [Row (some ⟨b1, 0, none⟩) (cellsOf Yq la), AllF la, Row p1 (List.map Zo (dg ax.num.natAbs)), Row p3 (List.map Zo (dg (ax.den - 1))), Row q1 (List.map Zo (dg ay.num.natAbs)), Row q3 (List.map Zo (dg (ay.den - 1))), Row r1 (List.map Zo (dg cx.num.natAbs)), Row r3 (List.map Zo (dg (cx.den - 1))), Row s1 (List.map Zo (dg cy.num.natAbs)), Row s3 (List.map Zo (dg (cy.den - 1)))] (PostF (Yh (pol (xs la)) (ax, ay) (cx, cy))) := by
 refine fn_intro func14 rfl ntmps14 nb ?_
 intro S w0 a hS h
 replace h := h.derive (R := Row none (List.map Zo (dg ((0 : Rat).den - 1)))) (fun X _ => f0r.2)
 replace h := h.derive (R := Row none (List.map Zo (dg (0 : Rat).num.natAbs))) (fun X _ => f0r.1)
 refine gC h (zS (zx rfl fun b4 => zx rfl fun b5 => zz Zdj fun b6 => zn (zS (zz Zdj fun b7 => zn (zs (yD Za [0, 1, 2, 3, 4, 6, 7, 8, 9, 10, 11, 12, 14, 15, 16, 5, 13, 17, 18] (Zb kk) (ym rfl rfl (yp rfl (.indexAddr rfl rfl (Vq _ _)) (yd rfl rfl mr isAgg56 sizeOf56 Vo ?_))))))))); clear h
 refine yp rfl (.indexAddr rfl rfl (Vq _ _)) (yd rfl rfl mr isAgg56 sizeOf56 Vo ?_)
 refine yd rfl rfl mr isAgg56 sizeOf56 Zi ?_
 refine yp rfl (.indexAddr rfl rfl (Vq _ _)) (yd rfl rfl mr isAgg56 sizeOf56 Vo ?_)
 refine yp rfl (.indexAddr rfl rfl (Vp _ _)) (yd rfl rfl mr isAgg56 sizeOf56 Vn ?_)
 refine yp rfl (.indexAddr rfl rfl (Vp _ _)) (yd rfl rfl mr isAgg56 sizeOf56 Vn ?_)
 refine yd rfl rfl mr isAgg56 sizeOf56 Zi ?_
 refine yp rfl (.indexAddr rfl rfl (Vp _ _)) (yd rfl rfl mr isAgg56 sizeOf56 Vn ?_)
 refine yf [_, _] rfl rfl call64 (Zb2 _ _ _ _ _ _ _ _ cx ax oo oo) ?_; rintro v16 Ψ16 ⟨ad16, c16, bd16, d16, rfl, hle16, hlf16, rfl⟩
 have hl16 := Qz cx ax
 refine yf [_, _] rfl rfl call64 (Zb2 _ _ _ _ _ _ _ _ cy ay oo oo) ?_; rintro v24 Ψ24 ⟨ad24, c24, bd24, d24, rfl, hle24, hlf24, rfl⟩
 have hl24 := Qz cy ay
 refine yf [_, _, _, _, _, _, _] rfl rfl call63 (Zs8 b1 la da Ka ha hda oo _ _ _ _ _ _ _ _ _ _ _ _ _ _ _ _ _ _ _ _ _ _ _ _ (cx - ax) 0 ax (cy - ay) 0 ay (2 * Kp + 1) oo (by have := Vf; omega) oo oo (by have := Vf; omega) oo hle16 hlf16 FT0.h1 FT0.h2 hp2 hp4 hle24 hlf24 FT0.h1 FT0.h2 hq2 hq4 oo oo) ?_; rintro v28 Ψ28 ⟨b28, l28, rfl, ht28, he28, rfl⟩
 have hkt : 169 * KT da Ka (2 * Kp + 1) + 1 ≤ 100000000 := by
  have h1 := Nat.mul_le_mul hda (show 3 * (2 * Kp + 1) + 4 ≤ 6007 by omega)
  unfold KT; omega
 have hsz := fun k hk => Nat.le_trans (ht28.siz (k := k) hk) hkt
 have hl28 := ht28.lenl
 refine yp rfl (.assign rfl) (yn (zS (zz Zdj fun b9 => zn (zs (zS (za rfl (zn (zb ?_)))))))); intro a w h
 refine Zg (fun (i : Nat) a w => i ≤ 13 ∧ ∃ t1 t2 t3 t4, (((dg (sgF (xs l28) i).num.natAbs).length ≤ t2 ∧ (dg ((sgF (xs l28) i).den - 1)).length ≤ t4)) ∧ St 45 S w0 [(6, pB b6), (8, .slice (some ⟨b28, 0, none⟩) 169 169), (9, pB b9), (10, nI i)] [(b9, bV (.agg #[.bool (decide ((sgF (xs l28) i).num < 0)), .slice t1 (dg (sgF (xs l28) i).num.natAbs).length t2, .slice t3 (dg ((sgF (xs l28) i).den - 1)).length t4]) 56), (b7, bV (.agg #[.bool (decide ((0 : Rat).num < 0)), .slice none (dg (0 : Rat).num.natAbs).length 0, .slice none (dg ((0 : Rat).den - 1)).length 0]) 56), (b6, bV (.agg #[.bool (decide ((0 : Rat).num < 0)), .slice none (dg (0 : Rat).num.natAbs).length 0, .slice none (dg ((0 : Rat).den - 1)).length 0]) 56), (b5, bV (.agg #[.bool (decide (cx.num < 0)), .slice r1 (dg cx.num.natAbs).length r2, .slice r3 (dg (cx.den - 1)).length r4, .bool (decide (cy.num < 0)), .slice s1 (dg cy.num.natAbs).length s2, .slice s3 (dg (cy.den - 1)).length s4]) 59), (b4, bV (.agg #[.bool (decide (ax.num < 0)), .slice p1 (dg ax.num.natAbs).length p2, .slice p3 (dg (ax.den - 1)).length p4, .bool (decide (ay.num < 0)), .slice q1 (dg ay.num.natAbs).length q2, .slice q3 (dg (ay.den - 1)).length q4]) 59)] [Row t1 (List.map Zo (dg (sgF (xs l28) i).num.natAbs)), Row t3 (List.map Zo (dg ((sgF (xs l28) i).den - 1))), Row (some ⟨b28, 0, none⟩) (cellsOf Yq l28), AllF l28] a w) (fun i => 13 - i) 0 (⟨Nat.zero_le _, none, 0, none, 0, ⟨FT0.h1, FT0.h2⟩, by rw [show sgF (xs l28) 0 = 0 from rfl]; exact (h.factsSub (by simp)).sub (Zff ⟨rfl, rfl, rfl, rfl, trivial⟩)⟩) ?_; clear h
 rintro i a w ⟨hi_i, t1, t2, t3, t4, ⟨ht2, ht4⟩, h⟩
 refine gC h (zs (zS (zm rfl (zp (.lss rfl rfl) (zn ?_))))); clear h; intro a w h
 refine cW ?_
 refine Zc h rfl (fun hc30 => ?_) (fun hc30 => ?_)
 ·
  skip
  have hlt_i : i < 13 := dT hc30
  have hsg := Zr4 ht28.len hsz i oo
  have hez := hsz (13 * i) oo
  rw [← Kj] at hez
  have hm28 : l28.getD (13 * i) FT0 ∈ l28 := getD_mem _ oo
  replace h := h.derive (R := Row (l28.getD (13 * i) FT0).a2 (List.map Zo (dg ((l28.getD (13 * i) FT0).x.den - 1)))) (fun X hX => AllF.get2 (hX _ mm) hm28)
  replace h := h.derive (R := Row (l28.getD (13 * i) FT0).a1 (List.map Zo (dg (l28.getD (13 * i) FT0).x.num.natAbs))) (fun X hX => AllF.get1 (hX _ mm) hm28)
  refine gC h (zk (zs (zb (yD Za [0, 1, 2, 3, 4, 5, 6, 7, 8, 9, 10, 11] (Zb kk) (yd rfl rfl mr isAgg56 sizeOf56 Zi ?_))))); clear h
  refine ym rfl rfl (ym rfl rfl (yp rfl (.pN (13 * i) (.mul rfl rfl)) (yp rfl (.indexAddr rfl rfl (Zbp _ _ _ _ _ oo)) ?_)))
  refine Zm rfl kk rfl mm (cells_lt (k := 3) dd (fun _ => rfl) l28 (13 * i) oo) isAgg56 sizeOf56 (Qb (k := 3) (fun _ => rfl) ((fun _ => rfl)) l28 FT0 (13 * i) oo) (.inl rfl) dd ?_
  refine ym rfl rfl (yp rfl (.pN (i + 1) (.add rfl rfl)) (yf [_] rfl rfl call67 (Zcq (((i + 1 : Nat) : Int)) oo oo) ?_)); rintro v41 Ψ41 ⟨ad41, c41, bd41, d41, rfl, hle41, hlf41, rfl⟩
  have hl41 := Qe (((i + 1 : Nat) : Int)) oo oo
  refine yf [_, _] rfl rfl call66 (Zjq _ _ _ _ _ _ _ _ ((l28.getD (13 * i) FT0).x) (((((i + 1 : Nat) : Int) : Int) : Rat)) oo oo (by first | assumption | omega)) ?_; rintro v42 Ψ42 ⟨ad42, c42, bd42, d42, rfl, hle42, hlf42, rfl⟩
  have hl42 := Ko ((l28.getD (13 * i) FT0).x) (((((i + 1 : Nat) : Int) : Int) : Rat))
  refine yf [_, _] rfl rfl call65 (Zhj _ _ _ _ _ _ _ _ (sgF (xs l28) i) (((l28.getD (13 * i) FT0).x) / (((((i + 1 : Nat) : Int) : Int) : Rat))) oo oo) ?_; rintro v43 Ψ43 ⟨ad43, c43, bd43, d43, rfl, hle43, hlf43, rfl⟩
  have hl43 := Qs (sgF (xs l28) i) (((l28.getD (13 * i) FT0).x) / (((((i + 1 : Nat) : Int) : Int) : Rat)))
  refine yt rfl rfl rfl Zz uu sizeOf56 rfl nb rfl ?_
  refine yn (zr (zm rfl (zp (.pN (i + 1) (.add rfl rfl)) (za rfl (zn ?_))))); intro a w h
  rw [show sgF (xs l28) i + (l28.getD (13 * i) FT0).x / (((i + 1 : Nat) : Int) : Rat) = sgF (xs l28) (i + 1) from by rw [Kj]; rfl] at h hle43 hlf43
  exact ⟨i + 1, ⟨oo, ad43, c43, bd43, d43, ⟨hle43, hlf43⟩, by exact (h.factsSub (by simp)).sub sA⟩, oo⟩
 ·
  skip
  have heq_i : 13 = i := dF hc30
  subst heq_i
  refine gC h (ze (zS (zd rfl mr isAgg56 sizeOf56 Zi ?_)))
  refine zt' rfl rfl Zz uu sizeOf56 rfl nb rfl ?_; intro a w h
  refine wpList_nil (wp_ret ?_)
  refine Qk (Ψ := [Row t1 (List.map Zo (dg (sgF (xs l28) 13).num.natAbs)), Row t3 (List.map Zo (dg ((sgF (xs l28) 13).den - 1)))]) h (Zd h rfl (.cell rfl mr isAgg56 sizeOf56 Zi)) ?_ ss
  rw [← Qdf ha hda (a := (ax, ay)) (b := (cx, cy)) he28]; exact ⟨t1, t2, t3, t4, rfl, ht2, ht4, rfl⟩
theorem Zne {d K Kp : Nat} {A : List Rat} (ha : Tb d K A) (hd : d ≤ 12) (hK : K ≤ 10000) {ax ay cx cy : Rat} (h1 : Qa ax ≤ Kp) (h2 : Qa ay ≤ Kp) (h3 : Qa cx ≤ Kp) (h4 : Qa cy ≤ Kp) (hkp : Kp ≤ 1000) (hkp2 : 2 ≤ Kp) : Qa (Yh (pol A) (ax, ay) (cx, cy)) ≤ 2000000000 := by
 rw [← Zfk (Eqv.nrm (pol A))]
 refine Nat.le_trans (Zbx (ha.pq hd) hd (a := (ax, ay)) (b := (cx, cy)) ⟨h1, h2⟩ ⟨h3, h4⟩ hkp2) ?_
 unfold SG KS KT
 have t1 : tri (d + 1) ≤ 91 := Nat.le_trans (Kz (show d + 1 ≤ 13 by omega)) dd
 have t2 : K + d * (3 * (2 * Kp + 1) + 4) + 20 ≤ 100000 := by
  have := Nat.mul_le_mul hd (show 3 * (2 * Kp + 1) + 4 ≤ 6007 by omega); omega
 have t3 := Nat.mul_le_mul t1 t2
 have t4 := Nat.mul_le_mul t1 (show tri (d + 1) * (K + d * (3 * (2 * Kp + 1) + 4) + 20) + 1 + 5 ≤ 91 * 100000 + 6 by omega)
 omega
theorem Qfb (b1 : Nat) (la : List FT) (da Ka : Nat) (ha : Tb da Ka (xs la)) (hda : da ≤ 12) (hka : Ka ≤ 10000) (b2 : Nat) (lb : List FT) (db Kb : Nat) (hb : Tb db Kb (xs lb)) (hdb : db ≤ 12) (hkb : Kb ≤ 10000) (p1 p3 : Option Addr) (p2 p4 : Nat) (q1 q3 : Option Addr) (q2 q4 : Nat) (r1 r3 : Option Addr) (r2 r4 : Nat) (s1 s3 : Option Addr) (s2 s4 : Nat) (ax ay cx cy : Rat) (Kp : Nat) (hkax : Qa ax ≤ Kp) (hkay : Qa ay ≤ Kp) (hkcx : Qa cx ≤ Kp) (hkcy : Qa cy ≤ Kp) (hp2 : (dg ax.num.natAbs).length ≤ p2) (hp4 : (dg (ax.den - 1)).length ≤ p4) (hq2 : (dg ay.num.natAbs).length ≤ q2) (hq4 : (dg (ay.den - 1)).length ≤ q4) (hr2 : (dg cx.num.natAbs).length ≤ r2) (hr4 : (dg (cx.den - 1)).length ≤ r4) (hs2 : (dg cy.num.natAbs).length ≤ s2) (hs4 : (dg (cy.den - 1)).length ≤ s4) (hkp : Kp ≤ 1000) (hkp2 : 2 ≤ Kp) : Ctr Tryz.prog 17 [.slice (some ⟨b1, 0, none⟩) 169 169, .slice (some ⟨b2, 0, none⟩) 169 169, fPt ax p1 p2 p3 p4 ay q1 q2 q3 q4, fPt cx r1 r2 r3 r4 cy s1 s2 s3 s4] [Row (some ⟨b1, 0, none⟩) (cellsOf Yq la), AllF la, Row (some ⟨b2, 0, none⟩) (cellsOf Yq lb), AllF lb, Row p1 (List.map Zo (dg ax.num.natAbs)), Row p3 (List.map Zo (dg (ax.den - 1))), Row q1 (List.map Zo (dg ay.num.natAbs)), Row q3 (List.map Zo (dg (ay.den - 1))), Row r1 (List.map Zo (dg cx.num.natAbs)), Row r3 (List.map Zo (dg (cx.den - 1))), Row s1 (List.map Zo (dg cy.num.natAbs)), Row s3 (List.map Zo (dg (cy.den - 1)))] (PostF (Jq (pol (xs la)) (pol (xs lb)) (ax, ay) (cx, cy))) := by
 have hs17 : Qa (Yh (pol (xs la)) (ax, ay) (cx, cy)) ≤ 2000000000 := Zne ha hda oo hkax hkay hkcx hkcy hkp hkp2
 have hs27 : Qa (Yh (pol (xs lb)) (ax, ay) (cx, cy)) ≤ 2000000000 := Zne hb hdb oo hkax hkay hkcx hkcy hkp hkp2
 refine fn_intro func17 rfl ntmps17 nb ?_
 intro S w0 a hS h
 refine gC h (zS (zx rfl fun b6 => zx rfl fun b7 => zz Zdj fun b8 => zn (zs (yD Za [0, 1, 2, 3, 5, 6, 7, 10, 11, 12, 13, 15, 16, 17, 4, 8, 9, 14, 18, 19, 20, 21] (Zb kk) (yp rfl (.indexAddr rfl rfl (Vp _ _)) (yd rfl rfl mr isAgg56 sizeOf56 Vn ?_)))))); clear h
 refine yp rfl (.indexAddr rfl rfl (Vp _ _)) (yd rfl rfl mr isAgg56 sizeOf56 Vn ?_)
 refine ym rfl rfl (yd rfl rfl mr isAgg59 sizeOf59 Gd ?_)
 refine yd rfl rfl mr isAgg59 sizeOf59 Gd ?_
 refine yp rfl (.indexAddr rfl rfl (Vq _ _)) (yd rfl rfl mr isAgg56 sizeOf56 Vo ?_)
 refine yp rfl (.indexAddr rfl rfl (Vq _ _)) (yd rfl rfl mr isAgg56 sizeOf56 Vo ?_)
 refine ym rfl rfl (yd rfl rfl mr isAgg59 sizeOf59 Gd ?_)
 refine yd rfl rfl mr isAgg59 sizeOf59 Gd ?_
 refine yf [_, _] rfl rfl call64 (Zb2 _ _ _ _ _ _ _ _ cy ay oo oo) ?_; rintro v13 Ψ13 ⟨ad13, c13, bd13, d13, rfl, hle13, hlf13, rfl⟩
 have hl13 := Qz cy ay
 refine yf [_, _, _] rfl rfl call14 (Zyn b1 la da Ka ha hda hka _ _ _ _ _ _ _ _ _ _ _ _ _ _ _ _ ax ay cx cy Kp hkax hkay hkcx hkcy hp2 hp4 hq2 hq4 hr2 hr4 hs2 hs4 hkp hkp2) ?_; rintro v17 Ψ17 ⟨ad17, c17, bd17, d17, rfl, hle17, hlf17, rfl⟩
 refine yf [_, _] rfl rfl call70 (Zb3 _ _ _ _ _ _ _ _ (cy - ay) (Yh (pol (xs la)) (ax, ay) (cx, cy)) oo oo) ?_; rintro v18 Ψ18 ⟨ad18, c18, bd18, d18, rfl, hle18, hlf18, rfl⟩
 have hl18 := Zu (cy - ay) (Yh (pol (xs la)) (ax, ay) (cx, cy))
 refine yf [_, _] rfl rfl call64 (Zb2 _ _ _ _ _ _ _ _ cx ax oo oo) ?_; rintro v23 Ψ23 ⟨ad23, c23, bd23, d23, rfl, hle23, hlf23, rfl⟩
 have hl23 := Qz cx ax
 refine yf [_, _, _] rfl rfl call14 (Zyn b2 lb db Kb hb hdb hkb _ _ _ _ _ _ _ _ _ _ _ _ _ _ _ _ ax ay cx cy Kp hkax hkay hkcx hkcy hp2 hp4 hq2 hq4 hr2 hr4 hs2 hs4 hkp hkp2) ?_; rintro v27 Ψ27 ⟨ad27, c27, bd27, d27, rfl, hle27, hlf27, rfl⟩
 refine yf [_, _] rfl rfl call70 (Zb3 _ _ _ _ _ _ _ _ (cx - ax) (Yh (pol (xs lb)) (ax, ay) (cx, cy)) oo oo) ?_; rintro v28 Ψ28 ⟨ad28, c28, bd28, d28, rfl, hle28, hlf28, rfl⟩
 have hl28 := Zu (cx - ax) (Yh (pol (xs lb)) (ax, ay) (cx, cy))
 refine yf [_, _] rfl rfl call64 (Zb2 _ _ _ _ _ _ _ _ ((cy - ay) * (Yh (pol (xs la)) (ax, ay) (cx, cy))) ((cx - ax) * (Yh (pol (xs lb)) (ax, ay) (cx, cy))) oo oo) ?_; rintro v29 Ψ29 ⟨ad29, c29, bd29, d29, rfl, hle29, hlf29, rfl⟩
 have hl29 := Qz ((cy - ay) * (Yh (pol (xs la)) (ax, ay) (cx, cy))) ((cx - ax) * (Yh (pol (xs lb)) (ax, ay) (cx, cy)))
 refine yt rfl rfl rfl Zz uu sizeOf56 rfl nb rfl ?_
 refine yn (zt ?_); intro a w h
 refine Qk (Ψ := [Row ad29 (List.map Zo (dg (((cy - ay) * (Yh (pol (xs la)) (ax, ay) (cx, cy))) - ((cx - ax) * (Yh (pol (xs lb)) (ax, ay) (cx, cy)))).num.natAbs)), Row bd29 (List.map Zo (dg ((((cy - ay) * (Yh (pol (xs la)) (ax, ay) (cx, cy))) - ((cx - ax) * (Yh (pol (xs lb)) (ax, ay) (cx, cy)))).den - 1)))]) h (Zd h rfl (.cell rfl mr isAgg56 sizeOf56 Zi)) ?_ ss
 exact ⟨ad29, c29, bd29, d29, rfl, hle29, hlf29, rfl⟩
end
section
def chQ (n : Nat) : Nat → Rat
 | 0 => ((1 : Int) : Rat)
 | i + 1 => chQ n i * ((((n : Nat) : Int) - ((i : Nat) : Int) : Int) : Rat) / (((i + 1 : Nat) : Int) : Rat)
def utQ (i j k : Nat) : Rat := chQ (j + 1) k / (((i + k + 1 : Nat) : Int) : Rat)
def usQ (i j : Nat) : Nat → Rat
 | 0 => 0
 | k + 1 => usQ i j k + (if k % 2 = 1 then -(utQ i j k) else utQ i j k)
def Zhk (i j : Nat) : Rat := usQ i j (j + 2) / (((j + 1 : Nat) : Int) : Rat)
def Zqu (x : Rat) : Bool := decide (x.num.natAbs < 18446744073709551616) && decide (x.den < 18446744073709551616)
theorem Zlh {x : Rat} (h : Zqu x = true) : Qa x ≤ 4 := by
 unfold Zqu at h
 rw [Bool.and_eq_true, decide_eq_true_eq, decide_eq_true_eq] at h
 have a := Vs h.1; have b := Vs h.2; unfold Qa Zbd; omega
theorem ch_sm : ∀ n, n < 15 → ∀ k, k < 15 → Zqu (chQ n k) = true := by decide +kernel
theorem us_sm : ∀ i, i < 13 → ∀ j, j < 13 → ∀ k, k < 15 → Zqu (usQ i j k) = true := by decide +kernel
theorem Zos : ∀ i, i < 13 → ∀ j, j < 13 → i + j ≤ 12 → Zhk i j = mu i j := by decide +kernel
theorem Qbo (n k : Nat) (hn : n ≤ 14) (hk : k ≤ 14) : Ctr Tryz.prog 197 [.int .i64 ((n : Nat) : Int), .int .i64 ((k : Nat) : Int)] [] (PostF (chQ n k)) := by
 refine fn_intro func197 rfl ntmps197 nb ?_
 intro S w0 a hS h
 refine gC h (zS (zz Zdj fun b4 => zn (zS (zf [_] rfl call67 (Zcq 1 oo oo) ?_)))); rintro v7 Ψ7 ⟨ad7, c7, bd7, d7, rfl, hle7, hlf7, rfl⟩
 have hl7 := Qe 1 oo oo
 refine zz Zdj fun b5 => zt' rfl rfl Zz uu sizeOf56 rfl nb rfl ?_
 refine zn (zs (zS (za rfl (zn (zb ?_))))); intro a w h
 refine Zg (fun (i : Nat) a w => i ≤ k ∧ ∃ p1 p2 p3 p4, ((dg (chQ n i).num.natAbs).length ≤ p2 ∧ (dg ((chQ n i).den - 1)).length ≤ p4) ∧ St 24 S w0 [(0, nI n), (1, nI k), (4, pB b4), (5, pB b5), (6, nI i)] [(b5, bV (.agg #[.bool (decide ((chQ n i).num < 0)), .slice p1 (dg (chQ n i).num.natAbs).length p2, .slice p3 (dg ((chQ n i).den - 1)).length p4]) 56), (b4, bV (.agg #[.bool (decide ((0 : Rat).num < 0)), .slice none (dg (0 : Rat).num.natAbs).length 0, .slice none (dg ((0 : Rat).den - 1)).length 0]) 56)] [Row p1 (List.map Zo (dg (chQ n i).num.natAbs)), Row p3 (List.map Zo (dg ((chQ n i).den - 1)))] a w) (fun i => k - i) 0 (⟨Nat.zero_le _, ad7, c7, bd7, d7, ⟨hle7, hlf7⟩, by rw [show chQ n 0 = ((1 : Int) : Rat) from rfl]; exact (h.factsSub (by simp)).sub (Zff ⟨rfl, rfl, rfl, rfl, rfl, trivial⟩)⟩) ?_; clear h
 rintro i a w ⟨hi_i, p1, p2, p3, p4, ⟨hp2, hp4⟩, h⟩
 refine gC h (zs (zS (zm rfl (zm rfl (zp (.lss rfl rfl) (zn ?_)))))); clear h; intro a w h
 refine cW ?_
 refine Zc h rfl (fun hc10 => ?_) (fun hc10 => ?_)
 ·
  skip
  have hlt_i : i < k := dT hc10
  have hch := Zlh (ch_sm n oo i oo)
  refine gC h (zk (zs (zb (yD Za [0, 1, 2, 3, 6, 7, 4, 5, 8, 9, 10] (Zb kk) (yd rfl rfl mr isAgg56 sizeOf56 Zi ?_))))); clear h
  refine ym rfl rfl (ym rfl rfl (yp rfl (.sub rfl rfl) (ym rfl rfl (yp rfl (.pN (i + 1) (.add rfl rfl)) (yf [_] rfl rfl call67 (Zcq ((((n : Nat) : Int)) - (((i : Nat) : Int))) oo oo) ?_))))); rintro v17 Ψ17 ⟨ad17, c17, bd17, d17, rfl, hle17, hlf17, rfl⟩
  have hl17 := Qe ((((n : Nat) : Int)) - (((i : Nat) : Int))) oo oo
  refine yf [_, _] rfl rfl call70 (Zb3 _ _ _ _ _ _ _ _ (chQ n i) ((((((n : Nat) : Int)) - (((i : Nat) : Int)) : Int) : Rat)) oo oo) ?_; rintro v18 Ψ18 ⟨ad18, c18, bd18, d18, rfl, hle18, hlf18, rfl⟩
  have hl18 := Zu (chQ n i) ((((((n : Nat) : Int)) - (((i : Nat) : Int)) : Int) : Rat))
  refine yf [_] rfl rfl call67 (Zcq (((i + 1 : Nat) : Int)) oo oo) ?_; rintro v21 Ψ21 ⟨ad21, c21, bd21, d21, rfl, hle21, hlf21, rfl⟩
  have hl21 := Qe (((i + 1 : Nat) : Int)) oo oo
  refine yf [_, _] rfl rfl call66 (Zjq _ _ _ _ _ _ _ _ ((chQ n i) * ((((((n : Nat) : Int)) - (((i : Nat) : Int)) : Int) : Rat))) (((((i + 1 : Nat) : Int) : Int) : Rat)) oo oo (by first | assumption | omega)) ?_; rintro v22 Ψ22 ⟨ad22, c22, bd22, d22, rfl, hle22, hlf22, rfl⟩
  have hl22 := Ko ((chQ n i) * ((((((n : Nat) : Int)) - (((i : Nat) : Int)) : Int) : Rat))) (((((i + 1 : Nat) : Int) : Int) : Rat))
  refine yt rfl rfl rfl Zz uu sizeOf56 rfl nb rfl ?_
  refine yn (zr (zm rfl (zp (.pN (i + 1) (.add rfl rfl)) (za rfl (zn ?_))))); intro a w h
  rw [show chQ n i * (((((n : Nat) : Int) - ((i : Nat) : Int)) : Int) : Rat) / (((i + 1 : Nat) : Int) : Rat) = chQ n (i + 1) from rfl] at h hle22 hlf22
  exact ⟨i + 1, ⟨oo, ad22, c22, bd22, d22, ⟨hle22, hlf22⟩, by exact (h.factsSub (by simp)).sub sA⟩, oo⟩
 ·
  skip
  have heq_i : k = i := dF hc10
  subst heq_i
  refine gC h (ze (zS (zd rfl mr isAgg56 sizeOf56 Zi ?_)))
  refine zt' rfl rfl Zz uu sizeOf56 rfl nb rfl ?_; intro a w h
  refine wpList_nil (wp_ret ?_)
  refine Qk (Ψ := [Row p1 (List.map Zo (dg (chQ n k).num.natAbs)), Row p3 (List.map Zo (dg ((chQ n k).den - 1)))]) h (Zd h rfl (.cell rfl mr isAgg56 sizeOf56 Zi)) ?_ ss
  exact ⟨p1, p2, p3, p4, rfl, hp2, hp4, rfl⟩
theorem Qfa (i j : Nat) (hi : i ≤ 12) (hj : j ≤ 12) : Ctr Tryz.prog 156 [.int .i64 ((i : Nat) : Int), .int .i64 ((j : Nat) : Int)] [] (PostF (Zhk i j)) := by
 refine fn_intro func156 rfl ntmps156 nb ?_
 intro S w0 a hS h
 replace h := h.derive (R := Row none (List.map Zo (dg ((0 : Rat).den - 1)))) (fun X _ => f0r.2)
 replace h := h.derive (R := Row none (List.map Zo (dg (0 : Rat).num.natAbs))) (fun X _ => f0r.1)
 refine gC h (zS (zz Zdj fun b4 => zn (zS (zz Zdj fun b5 => zn (zs (zS (za rfl (zn (zb ?_))))))))); clear h; intro a w h
 refine Zg (fun (k : Nat) a w => k ≤ (j + 2) ∧ ∃ p1 p2 p3 p4, ((dg (usQ i j k).num.natAbs).length ≤ p2 ∧ (dg ((usQ i j k).den - 1)).length ≤ p4) ∧ St 37 S w0 [(0, nI i), (1, nI j), (4, pB b4), (5, pB b5), (6, nI k)] [(b5, bV (.agg #[.bool (decide ((usQ i j k).num < 0)), .slice p1 (dg (usQ i j k).num.natAbs).length p2, .slice p3 (dg ((usQ i j k).den - 1)).length p4]) 56), (b4, bV (.agg #[.bool (decide ((0 : Rat).num < 0)), .slice none (dg (0 : Rat).num.natAbs).length 0, .slice none (dg ((0 : Rat).den - 1)).length 0]) 56)] [Row p1 (List.map Zo (dg (usQ i j k).num.natAbs)), Row p3 (List.map Zo (dg ((usQ i j k).den - 1)))] a w) (fun k => (j + 2) - k) 0 (⟨Nat.zero_le _, none, 0, none, 0, ⟨FT0.h1, FT0.h2⟩, by rw [show usQ i j 0 = 0 from rfl]; exact (h.factsSub (by simp)).sub (Zff ⟨rfl, rfl, rfl, rfl, rfl, trivial⟩)⟩) ?_; clear h
 rintro k a w ⟨hi_k, p1, p2, p3, p4, ⟨hp2, hp4⟩, h⟩
 refine gC h (zs (zS (zm rfl (zm rfl (zp (.pN (j + 1) (.add rfl rfl)) (zp (.leq rfl rfl) (zn ?_))))))); clear h; intro a w h
 refine cW ?_
 refine Zc h rfl (fun hc11 => ?_) (fun hc11 => ?_)
 ·
  skip
  have hlt_k : k < (j + 2) := dT hc11
  have hus := Zlh (us_sm i oo j oo k oo)
  refine gC h (zk (zs (zb (zS (zm rfl (zp (.pN (j + 1) (.add rfl rfl)) (zm rfl (zf [_, _] rfl call197 (Qbo (j + 1) k oo oo) ?_)))))))); rintro v17 Ψ17 ⟨ad17, c17, bd17, d17, rfl, hle17, hlf17, rfl⟩
  have hl17 := Zlh (ch_sm (j + 1) oo k oo)
  refine zm rfl (zm rfl (zp (.pN (i + k) (.add rfl rfl)) (zp (.pN ((i + k) + 1) (.add rfl rfl)) (zf [_] rfl call67 (Zcq ((((i + k) + 1 : Nat) : Int)) oo oo) ?_)))); rintro v22 Ψ22 ⟨ad22, c22, bd22, d22, rfl, hle22, hlf22, rfl⟩
  have hl22 := Qe ((((i + k) + 1 : Nat) : Int)) oo oo
  refine zf [_, _] rfl call66 (Zjq _ _ _ _ _ _ _ _ (chQ (j + 1) k) ((((((i + k) + 1 : Nat) : Int) : Int) : Rat)) oo oo (by first | assumption | omega)) ?_; rintro v23 Ψ23 ⟨ad23, c23, bd23, d23, rfl, hle23, hlf23, rfl⟩ a w h
  have hl23 := Ko (chQ (j + 1) k) ((((((i + k) + 1 : Nat) : Int) : Int) : Rat))
  rw [show chQ (j + 1) k / (((i + k + 1 : Nat) : Int) : Rat) = utQ i j k from rfl] at h hle23 hlf23 hl23
  refine gL h (zz Zdj fun b7 => zt' rfl rfl Zz uu sizeOf56 rfl nb rfl ?_)
  refine zn (zs (zS (zm rfl (zp (Pure1.cast (v' := .int .i64 (((k) % 2 : Nat) : Int)) (.binOp rfl rfl (fun _ => Ye _ _ _ _ _ dd)) (by rw [show (2 : Int) = ((2 : Nat) : Int) from rfl, Xl])) (zp (.eql rfl rfl) (zn ?_)))))); intro a w h
  refine cW ?_
  refine Zc h rfl (fun hc26 => ?_) (fun hc26 => ?_)
  ·
   skip
   have hod : k % 2 = 1 := by have := eq_of_beq hc26; omega
   refine gC h (zr (zd rfl mr isAgg56 sizeOf56 Zi ?_))
   refine zv [_] rfl call126 (Qcv (utQ i j k) ad23 c23 bd23 d23) ?_; intro a w h
   have hl28 := Zby (utQ i j k)
   replace h := h.derive (R := Row bd23 (List.map Zo (dg ((-(utQ i j k)).den - 1)))) (fun X hX => by rw [Rat.neg_den]; exact hX _ mm)
   replace h := h.derive (R := Row ad23 (List.map Zo (dg (-(utQ i j k)).num.natAbs))) (fun X hX => by rw [Rat.neg_num, Int.natAbs_neg]; exact hX _ mm)
   refine gL h (zt' rfl rfl Zz uu sizeOf56 rfl nb rfl ?_)
   refine zn (zr (zd rfl mr isAgg56 sizeOf56 Zi ?_))
   refine zd rfl mr isAgg56 sizeOf56 Zi ?_
   refine zf [_, _] rfl call65 (Zhj _ _ _ _ _ _ _ _ (usQ i j k) (-(utQ i j k)) oo oo) ?_; rintro v31 Ψ31 ⟨ad31, c31, bd31, d31, rfl, hle31, hlf31, rfl⟩
   have hl31 := Qs (usQ i j k) (-(utQ i j k))
   refine zt' rfl rfl Zz uu sizeOf56 rfl nb rfl ?_; intro a w h
   refine gL h (zn (zr (zm rfl (zp (.pN (k + 1) (.add rfl rfl)) (za rfl (zn ?_)))))); clear h; intro a w h
   rw [show (usQ i j k) + (-(utQ i j k)) = usQ i j (k + 1) from by rw [usQ, if_pos hod]] at h hle31 hlf31
   exact ⟨k + 1, ⟨oo, ad31, c31, bd31, d31, ⟨hle31, hlf31⟩, by exact ((h.drop sl).factsSub (by simp)).sub sA⟩, oo⟩
  ·
   skip
   have hod : ¬ k % 2 = 1 := fun e9 => by rw [e9] at hc26; exact absurd hc26 dd
   refine gC h (zk (zr (zd rfl mr isAgg56 sizeOf56 Zi ?_)))
   refine zd rfl mr isAgg56 sizeOf56 Zi ?_
   refine zf [_, _] rfl call65 (Zhj _ _ _ _ _ _ _ _ (usQ i j k) (utQ i j k) oo oo) ?_; rintro v31 Ψ31 ⟨ad31, c31, bd31, d31, rfl, hle31, hlf31, rfl⟩
   have hl31 := Qs (usQ i j k) (utQ i j k)
   refine zt' rfl rfl Zz uu sizeOf56 rfl nb rfl ?_; intro a w h
   refine gL h (zn (zr (zm rfl (zp (.pN (k + 1) (.add rfl rfl)) (za rfl (zn ?_)))))); clear h; intro a w h
   rw [show (usQ i j k) + (utQ i j k) = usQ i j (k + 1) from by rw [usQ, if_neg hod]] at h hle31 hlf31
   exact ⟨k + 1, ⟨oo, ad31, c31, bd31, d31, ⟨hle31, hlf31⟩, by exact ((h.drop sl).factsSub (by simp)).sub sA⟩, oo⟩
 ·
  skip
  have heq_k : (j + 2) = k := dF hc11
  subst heq_k
  have hus := Zlh (us_sm i oo j oo (j + 2) oo)
  refine gC h (ze (zs (yD Za [0, 1, 2, 3, 4, 5] (Zb kk) (yd rfl rfl mr isAgg56 sizeOf56 Zi ?_)))); clear h
  refine ym rfl rfl (yp rfl (.pN (j + 1) (.add rfl rfl)) (yf [_] rfl rfl call67 (Zcq (((j + 1 : Nat) : Int)) oo oo) ?_)); rintro v35 Ψ35 ⟨ad35, c35, bd35, d35, rfl, hle35, hlf35, rfl⟩
  have hl35 := Qe (((j + 1 : Nat) : Int)) oo oo
  refine yf [_, _] rfl rfl call66 (Zjq _ _ _ _ _ _ _ _ (usQ i j (j + 2)) (((((j + 1 : Nat) : Int) : Int) : Rat)) oo oo (by first | assumption | omega)) ?_; rintro v36 Ψ36 ⟨ad36, c36, bd36, d36, rfl, hle36, hlf36, rfl⟩
  have hl36 := Ko (usQ i j (j + 2)) (((((j + 1 : Nat) : Int) : Int) : Rat))
  refine yt rfl rfl rfl Zz uu sizeOf56 rfl nb rfl ?_
  refine yn (zt ?_); intro a w h
  refine Qk (Ψ := [Row ad36 (List.map Zo (dg ((usQ i j (j + 2)) / (((((j + 1 : Nat) : Int) : Int) : Rat))).num.natAbs)), Row bd36 (List.map Zo (dg (((usQ i j (j + 2)) / (((((j + 1 : Nat) : Int) : Int) : Rat))).den - 1)))]) h (Zd h rfl (.cell rfl mr isAgg56 sizeOf56 Zi)) ?_ ss
  exact ⟨ad36, c36, bd36, d36, rfl, hle36, hlf36, rfl⟩
theorem Zta (p1 p3 : Option Addr) (p2 p4 : Nat) (q1 q3 : Option Addr) (q2 q4 : Nat) (r1 r3 : Option Addr) (r2 r4 : Nat) (s1 s3 : Option Addr) (s2 s4 : Nat) (t1 t3 : Option Addr) (t2 t4 : Nat) (u1 u3 : Option Addr) (u2 u4 : Nat) (ax ay bx dy cx cy : Rat) (Kp : Nat) (hkax : Qa ax ≤ Kp) (hkay : Qa ay ≤ Kp) (hkbx : Qa bx ≤ Kp) (hkdy : Qa dy ≤ Kp) (hkcx : Qa cx ≤ Kp) (hkcy : Qa cy ≤ Kp) (hkp : Kp ≤ 1000) : Ctr Tryz.prog 157 [fPt ax p1 p2 p3 p4 ay q1 q2 q3 q4, fPt bx r1 r2 r3 r4 dy s1 s2 s3 s4, fPt cx t1 t2 t3 t4 cy u1 u2 u3 u4] [Row p1 (List.map Zo (dg ax.num.natAbs)), Row p3 (List.map Zo (dg (ax.den - 1))), Row q1 (List.map Zo (dg ay.num.natAbs)), Row q3 (List.map Zo (dg (ay.den - 1))), Row r1 (List.map Zo (dg bx.num.natAbs)), Row r3 (List.map Zo (dg (bx.den - 1))), Row s1 (List.map Zo (dg dy.num.natAbs)), Row s3 (List.map Zo (dg (dy.den - 1))), Row t1 (List.map Zo (dg cx.num.natAbs)), Row t3 (List.map Zo (dg (cx.den - 1))), Row u1 (List.map Zo (dg cy.num.natAbs)), Row u3 (List.map Zo (dg (cy.den - 1)))] (PostF ((bx - ax) * (cy - ay) - (cx - ax) * (dy - ay))) := by
 refine fn_intro func157 rfl ntmps157 nb ?_
 intro S w0 a hS h
 refine gC h (zS (zx rfl fun b3 => zx rfl fun b4 => zx rfl fun b5 => zz Zdj fun b6 => zn (zs (yD Za [0, 1, 2, 3, 5, 6, 7, 8, 4, 9, 10, 11, 12] (Jd ⟨.inl rfl, .inl rfl, .inl rfl, .inl rfl, .inl rfl, .inl rfl, .inl rfl, .inl rfl, .inl rfl, .inl rfl, .inl rfl, .inr ⟨7, 56, _, _, _, rfl, rfl, by decide, _, Zdj⟩, .inl rfl, trivial⟩) (yp rfl (.indexAddr rfl rfl (Vq _ _)) (yd rfl rfl mr isAgg56 sizeOf56 Vo ?_)))))); clear h
 refine yp rfl (.indexAddr rfl rfl (Vq _ _)) (yd rfl rfl mr isAgg56 sizeOf56 Vo ?_)
 refine yp rfl (.indexAddr rfl rfl (Vp _ _)) (yd rfl rfl mr isAgg56 sizeOf56 Vn ?_)
 refine yp rfl (.indexAddr rfl rfl (Vp _ _)) (yd rfl rfl mr isAgg56 sizeOf56 Vn ?_)
 refine yf [_, _] rfl rfl call64 (Zb2 _ _ _ _ _ _ _ _ bx ax oo oo) ?_; rintro v12 Ψ12 ⟨ad12, c12, bd12, d12, rfl, hle12, hlf12, rfl⟩
 have hl12 := Qz bx ax
 refine yf [_, _] rfl rfl call64 (Zb2 _ _ _ _ _ _ _ _ cy ay oo oo) ?_; rintro v17 Ψ17 ⟨ad17, c17, bd17, d17, rfl, hle17, hlf17, rfl⟩
 have hl17 := Qz cy ay
 refine yf [_, _] rfl rfl call70 (Zb3 _ _ _ _ _ _ _ _ (bx - ax) (cy - ay) oo oo) ?_; rintro v18 Ψ18 ⟨ad18, c18, bd18, d18, rfl, hle18, hlf18, rfl⟩
 have hl18 := Zu (bx - ax) (cy - ay)
 refine yz rfl Zdj fun b7 => yt rfl rfl rfl Zz uu sizeOf56 rfl nb rfl ?_
 refine yn (zs (yD Za [0, 1, 2, 3, 4, 6, 7, 8, 9, 5, 10, 11, 12, 13] (Zb kk) (yd rfl rfl mr isAgg56 sizeOf56 Zi ?_)))
 refine yp rfl (.indexAddr rfl rfl (Vq _ _)) (yd rfl rfl mr isAgg56 sizeOf56 Vo ?_)
 refine yp rfl (.indexAddr rfl rfl (Vq _ _)) (yd rfl rfl mr isAgg56 sizeOf56 Vo ?_)
 refine yp rfl (.indexAddr rfl rfl (Vp _ _)) (yd rfl rfl mr isAgg56 sizeOf56 Vn ?_)
 refine yp rfl (.indexAddr rfl rfl (Vp _ _)) (yd rfl rfl mr isAgg56 sizeOf56 Vn ?_)
 refine yf [_, _] rfl rfl call64 (Zb2 _ _ _ _ _ _ _ _ cx ax oo oo) ?_; rintro v24 Ψ24 ⟨ad24, c24, bd24, d24, rfl, hle24, hlf24, rfl⟩
 have hl24 := Qz cx ax
 refine yf [_, _] rfl rfl call64 (Zb2 _ _ _ _ _ _ _ _ dy ay oo oo) ?_; rintro v29 Ψ29 ⟨ad29, c29, bd29, d29, rfl, hle29, hlf29, rfl⟩
 have hl29 := Qz dy ay
 refine yf [_, _] rfl rfl call70 (Zb3 _ _ _ _ _ _ _ _ (cx - ax) (dy - ay) oo oo) ?_; rintro v30 Ψ30 ⟨ad30, c30, bd30, d30, rfl, hle30, hlf30, rfl⟩
 have hl30 := Zu (cx - ax) (dy - ay)
 refine yf [_, _] rfl rfl call64 (Zb2 _ _ _ _ _ _ _ _ ((bx - ax) * (cy - ay)) ((cx - ax) * (dy - ay)) oo oo) ?_; rintro v31 Ψ31 ⟨ad31, c31, bd31, d31, rfl, hle31, hlf31, rfl⟩
 have hl31 := Qz ((bx - ax) * (cy - ay)) ((cx - ax) * (dy - ay))
 refine yt rfl rfl rfl Zz uu sizeOf56 rfl nb rfl ?_
 refine yn (zt ?_); intro a w h
 refine Qk (Ψ := [Row ad31 (List.map Zo (dg (((bx - ax) * (cy - ay)) - ((cx - ax) * (dy - ay))).num.natAbs)), Row bd31 (List.map Zo (dg ((((bx - ax) * (cy - ay)) - ((cx - ax) * (dy - ay))).den - 1)))]) h (Zd h rfl (.cell rfl mr isAgg56 sizeOf56 Zi)) ?_ ss
 exact ⟨ad31, c31, bd31, d31, rfl, hle31, hlf31, rfl⟩
theorem Zr3 {Kp : Nat} {ax ay bx dy cx cy : Rat} (hkax : Qa ax ≤ Kp) (hkay : Qa ay ≤ Kp) (hkbx : Qa bx ≤ Kp) (hkdy : Qa dy ≤ Kp) (hkcx : Qa cx ≤ Kp) (hkcy : Qa cy ≤ Kp) : Qa ((bx - ax) * (cy - ay) - (cx - ax) * (dy - ay)) ≤ 8 * Kp + 5 := Zgn (a := (ax, ay)) (b := (bx, dy)) (c := (cx, cy)) ⟨hkax, hkay⟩ ⟨hkbx, hkdy⟩ ⟨hkcx, hkcy⟩
theorem Qfc (p1 p3 : Option Addr) (p2 p4 : Nat) (q1 q3 : Option Addr) (q2 q4 : Nat) (r1 r3 : Option Addr) (r2 r4 : Nat) (s1 s3 : Option Addr) (s2 s4 : Nat) (t1 t3 : Option Addr) (t2 t4 : Nat) (u1 u3 : Option Addr) (u2 u4 : Nat) (ax ay bx dy cx cy : Rat) (Kp : Nat) (hkax : Qa ax ≤ Kp) (hkay : Qa ay ≤ Kp) (hkbx : Qa bx ≤ Kp) (hkdy : Qa dy ≤ Kp) (hkcx : Qa cx ≤ Kp) (hkcy : Qa cy ≤ Kp) (hkp : Kp ≤ 1000) : Ctr Tryz.prog 95 [fPt ax p1 p2 p3 p4 ay q1 q2 q3 q4, fPt bx r1 r2 r3 r4 dy s1 s2 s3 s4, fPt cx t1 t2 t3 t4 cy u1 u2 u3 u4] [Row p1 (List.map Zo (dg ax.num.natAbs)), Row p3 (List.map Zo (dg (ax.den - 1))), Row q1 (List.map Zo (dg ay.num.natAbs)), Row q3 (List.map Zo (dg (ay.den - 1))), Row r1 (List.map Zo (dg bx.num.natAbs)), Row r3 (List.map Zo (dg (bx.den - 1))), Row s1 (List.map Zo (dg dy.num.natAbs)), Row s3 (List.map Zo (dg (dy.den - 1))), Row t1 (List.map Zo (dg cx.num.natAbs)), Row t3 (List.map Zo (dg (cx.den - 1))), Row u1 (List.map Zo (dg cy.num.natAbs)), Row u3 (List.map Zo (dg (cy.den - 1)))] (PostF (((bx - ax) * (cy - ay) - (cx - ax) * (dy - ay)) / ((2 : Int) : Rat))) := by
 refine fn_intro func95 rfl ntmps95 nb ?_
 intro S w0 a hS h
 refine gC h (zS (zx rfl fun b3 => zx rfl fun b4 => zx rfl fun b5 => zz Zdj fun b6 => zn (zS (zd rfl mr isAgg59 sizeOf59 Gd ?_))))
 refine zd rfl mr isAgg59 sizeOf59 Gd ?_
 refine zd rfl mr isAgg59 sizeOf59 Gd ?_
 refine zf [_, _, _] rfl call157 (Zta _ _ _ _ _ _ _ _ _ _ _ _ _ _ _ _ _ _ _ _ _ _ _ _ ax ay bx dy cx cy Kp hkax hkay hkbx hkdy hkcx hkcy hkp) ?_; rintro v10 Ψ10 ⟨ad10, c10, bd10, d10, rfl, hle10, hlf10, rfl⟩
 have hl10 := Zr3 hkax hkay hkbx hkdy hkcx hkcy
 refine zf [_] rfl call67 (Zcq 2 oo oo) ?_; rintro v11 Ψ11 ⟨ad11, c11, bd11, d11, rfl, hle11, hlf11, rfl⟩
 have hl11 := Qe 2 oo oo
 refine zf [_, _] rfl call66 (Zjq _ _ _ _ _ _ _ _ ((bx - ax) * (cy - ay) - (cx - ax) * (dy - ay)) (((2 : Int) : Rat)) oo oo (by first | assumption | omega)) ?_; rintro v12 Ψ12 ⟨ad12, c12, bd12, d12, rfl, hle12, hlf12, rfl⟩
 have hl12 := Ko ((bx - ax) * (cy - ay) - (cx - ax) * (dy - ay)) (((2 : Int) : Rat))
 refine zt' rfl rfl Zz uu sizeOf56 rfl nb rfl ?_; intro a w h
 refine wpList_nil (wp_ret ?_)
 refine Qk (Ψ := [Row ad12 (List.map Zo (dg (((bx - ax) * (cy - ay) - (cx - ax) * (dy - ay)) / (((2 : Int) : Rat))).num.natAbs)), Row bd12 (List.map Zo (dg ((((bx - ax) * (cy - ay) - (cx - ax) * (dy - ay)) / (((2 : Int) : Rat))).den - 1)))]) h (Zd h rfl (.cell rfl mr isAgg56 sizeOf56 Zi)) ?_ ss
 exact ⟨ad12, c12, bd12, d12, rfl, hle12, hlf12, rfl⟩
def trF (X : List Rat) : Nat → Rat
 | 0 => 0
 | k + 1 => if X.getD k 0 = 0 then trF X k else trF X k + X.getD k 0 * Zhk (k / 13) (k % 13)
theorem Zlg {X : List Rat} {K d : Nat} (hX : X.length = 169) (hd : d ≤ 12) (hg : ∀ k, k < 169 → X.getD k 0 ≠ 0 → k / 13 + k % 13 ≤ d) (h : ∀ k, k < 169 → Qa (X.getD k 0) ≤ K) : ∀ n, n ≤ 169 → Qa (trF X n) ≤ 2 + n * (K + 302)
 | 0, _ => by rw [trF]; exact Nat.le_trans Vf oo
 | n + 1, hn => by
  have ih := Zlg hX hd hg h n oo
  have h1 := h n oo
  rw [trF]
  split
  · rw [Nat.add_mul]; omega
  ·
   rename_i hz
   have h0 := hg n oo hz
   have h2 : Qa (Zhk (n / 13) (n % 13)) ≤ 300 := by rw [Zos _ oo _ oo oo]; exact Zli _ _ oo
   have h3 := Zu (X.getD n 0) (Zhk (n / 13) (n % 13))
   have h4 := Qs (trF X n) (X.getD n 0 * Zhk (n / 13) (n % 13))
   rw [Nat.add_mul]; omega
theorem Zix {X : List Rat} (hg : ∀ k, k < X.length → X.getD k 0 ≠ 0 → k / 13 + k % 13 ≤ 12) : ∀ n, n ≤ X.length → trF X n = lin mu ((pol X).take n)
 | 0, _ => rfl
 | n + 1, hn => by
  rw [take_snoc (pol X) (show n < (pol X).length by rw [Yg]; omega), Jb, Gt oo, trF, Zix hg n oo]
  split
  · rename_i hz; rw [hz]; simp only [lin]; grind
  ·
   rename_i hz
   have h0 := hg n oo hz
   rw [Zos _ oo _ oo oo]; simp only [lin]; grind
theorem Qc3 {d K d2 K2 : Nat} {A X : List Rat} (ha : Tb d K A) (hx : Tb d2 K2 X) (hd : d2 ≤ 12) {a b c : Pt} (he : Eqv (pol X) (sbL (ln (b.1 - a.1) (c.1 - a.1) a.1) (ln (b.2 - a.2) (c.2 - a.2) a.2) (pol A))) : trF X 169 * twQ a b c = Yo (pol A) a b c := by
 have e1 : trF X 169 = lin mu (pol X) := by
  rw [Zix (fun k hk hne => by have := hx.deg k (by rw [hx.len] at hk; exact hk) hne; omega) 169 (by rw [hx.len]; exact Nat.le_refl _), List.take_of_length_le (by rw [Yg, hx.len]; exact Nat.le_refl _)]
 rw [e1, he mu]
 show _ = twQ a b c * lin mu (sbL _ _ (pol A))
 grind
theorem C_rTri (b1 : Nat) (la : List FT) (da Ka : Nat) (ha : Tb da Ka (xs la)) (hda : da ≤ 12) (hka : Ka ≤ 10000) (p1 p3 : Option Addr) (p2 p4 : Nat) (q1 q3 : Option Addr) (q2 q4 : Nat) (r1 r3 : Option Addr) (r2 r4 : Nat) (s1 s3 : Option Addr) (s2 s4 : Nat) (t1 t3 : Option Addr) (t2 t4 : Nat) (u1 u3 : Option Addr) (u2 u4 : Nat) (ax ay bx dy cx cy : Rat) (Kp : Nat) (hkax : Qa ax ≤ Kp) (hkay : Qa ay ≤ Kp) (hkbx : Qa bx ≤ Kp) (hkdy : Qa dy ≤ Kp) (hkcx : Qa cx ≤ Kp) (hkcy : Qa cy ≤ Kp) (hkp : Kp ≤ 1000) (hp2 : (dg ax.num.natAbs).length ≤ p2) (hp4 : (dg (ax.den - 1)).length ≤ p4) (hq2 : (dg ay.num.natAbs).length ≤ q2) (hq4 : (dg (ay.den - 1)).length ≤ q4) : Ctr Tryz.prog 93 [.slice (some ⟨b1, 0, none⟩) 169 169, fPt ax p1 p2 p3 p4 ay q1 q2 q3 q4, fPt bx r1 r2 r3 r4 dy s1 s2 s3 s4, fPt cx t1 t2 t3 t4 cy u1 u2 u3 u4] [Row (some ⟨b1, 0, none⟩) (cellsOf Yq la), AllF la, Row p1 (List.map Zo (dg ax.num.natAbs)), Row p3 (List.map Zo (dg (ax.den - 1))), Row q1 (List.map Zo (dg ay.num.natAbs)), Row q3 (List.map Zo (dg (ay.den - 1))), Row r1 (List.map Zo (dg bx.num.natAbs)), Row r3 (List.map Zo (dg (bx.den - 1))), Row s1 (List.map Zo (dg dy.num.natAbs)), Row s3 (List.map Zo (dg (dy.den - 1))), Row t1 (List.map Zo (dg cx.num.natAbs)), Row t3 (List.map Zo (dg (cx.den - 1))), Row u1 (List.map Zo (dg cy.num.natAbs)), Row u3 (List.map Zo (dg (cy.den - 1)))] (PostF (Yo (pol (xs la)) (ax, ay) (bx, dy) (cx, cy))) := by
 refine fn_intro func93 rfl ntmps93 nb ?_
 intro S w0 a hS h
 refine gC h (zS (zx rfl fun b5 => zx rfl fun b6 => zx rfl fun b7 => zz Zdj fun b8 => zn (zs (yD Za [0, 1, 2, 3, 4, 6, 7, 8, 9, 11, 12, 13, 14, 15, 16, 18, 19, 20, 21, 23, 24, 5, 10, 17, 22, 25, 26] (Zb kk) (ym rfl rfl (yp rfl (.indexAddr rfl rfl (Vq _ _)) (yd rfl rfl mr isAgg56 sizeOf56 Vo ?_))))))); clear h
 refine yp rfl (.indexAddr rfl rfl (Vq _ _)) (yd rfl rfl mr isAgg56 sizeOf56 Vo ?_)
 refine yp rfl (.indexAddr rfl rfl (Vq _ _)) (yd rfl rfl mr isAgg56 sizeOf56 Vo ?_)
 refine yp rfl (.indexAddr rfl rfl (Vq _ _)) (yd rfl rfl mr isAgg56 sizeOf56 Vo ?_)
 refine yp rfl (.indexAddr rfl rfl (Vq _ _)) (yd rfl rfl mr isAgg56 sizeOf56 Vo ?_)
 refine yp rfl (.indexAddr rfl rfl (Vp _ _)) (yd rfl rfl mr isAgg56 sizeOf56 Vn ?_)
 refine yp rfl (.indexAddr rfl rfl (Vp _ _)) (yd rfl rfl mr isAgg56 sizeOf56 Vn ?_)
 refine yp rfl (.indexAddr rfl rfl (Vp _ _)) (yd rfl rfl mr isAgg56 sizeOf56 Vn ?_)
 refine yp rfl (.indexAddr rfl rfl (Vp _ _)) (yd rfl rfl mr isAgg56 sizeOf56 Vn ?_)
 refine yp rfl (.indexAddr rfl rfl (Vp _ _)) (yd rfl rfl mr isAgg56 sizeOf56 Vn ?_)
 refine yf [_, _] rfl rfl call64 (Zb2 _ _ _ _ _ _ _ _ bx ax oo oo) ?_; rintro v17 Ψ17 ⟨ad17, c17, bd17, d17, rfl, hle17, hlf17, rfl⟩
 have hl17 := Qz bx ax
 refine yf [_, _] rfl rfl call64 (Zb2 _ _ _ _ _ _ _ _ cx ax oo oo) ?_; rintro v22 Ψ22 ⟨ad22, c22, bd22, d22, rfl, hle22, hlf22, rfl⟩
 have hl22 := Qz cx ax
 refine yf [_, _] rfl rfl call64 (Zb2 _ _ _ _ _ _ _ _ dy ay oo oo) ?_; rintro v29 Ψ29 ⟨ad29, c29, bd29, d29, rfl, hle29, hlf29, rfl⟩
 have hl29 := Qz dy ay
 refine yf [_, _] rfl rfl call64 (Zb2 _ _ _ _ _ _ _ _ cy ay oo oo) ?_; rintro v34 Ψ34 ⟨ad34, c34, bd34, d34, rfl, hle34, hlf34, rfl⟩
 have hl34 := Qz cy ay
 refine yf [_, _, _, _, _, _, _] rfl rfl call63 (Zs8 b1 la da Ka ha hda oo _ _ _ _ _ _ _ _ _ _ _ _ _ _ _ _ _ _ _ _ _ _ _ _ (bx - ax) (cx - ax) ax (dy - ay) (cy - ay) ay (2 * Kp + 1) oo oo oo oo oo oo hle17 hlf17 hle22 hlf22 hp2 hp4 hle29 hlf29 hle34 hlf34 hq2 hq4 oo oo) ?_; rintro v37 Ψ37 ⟨b37, l37, rfl, ht37, he37, rfl⟩
 have hkt : 169 * KT da Ka (2 * Kp + 1) + 1 ≤ 14000000 := by
  have h1 := Nat.mul_le_mul hda (show 3 * (2 * Kp + 1) + 4 ≤ 6007 by omega)
  unfold KT; omega
 have hsz := fun k hk => Nat.le_trans (ht37.siz (k := k) hk) hkt
 have hl37 := ht37.lenl
 refine yp rfl (.assign rfl) (yn (zS (zz Zdj fun b10 => zn (zs (zS (za rfl (zn (zb ?_)))))))); intro a w h
 replace h := h.derive (R := Row none (List.map Zo (dg ((0 : Rat).den - 1)))) (fun X _ => f0r.2)
 replace h := h.derive (R := Row none (List.map Zo (dg (0 : Rat).num.natAbs))) (fun X _ => f0r.1)
 refine Zg (fun (k : Nat) a w => k ≤ 169 ∧ ∃ v1 v2 v3 v4, ((dg (trF (xs l37) k).num.natAbs).length ≤ v2 ∧ (dg ((trF (xs l37) k).den - 1)).length ≤ v4) ∧ St 66 S w0 [(5, pB b5), (6, pB b6), (7, pB b7), (8, pB b8), (9, .slice (some ⟨b37, 0, none⟩) 169 169), (10, pB b10), (11, nI k)] [(b10, bV (.agg #[.bool (decide ((trF (xs l37) k).num < 0)), .slice v1 (dg (trF (xs l37) k).num.natAbs).length v2, .slice v3 (dg ((trF (xs l37) k).den - 1)).length v4]) 56), (b8, bV (.agg #[.bool (decide ((0 : Rat).num < 0)), .slice none (dg (0 : Rat).num.natAbs).length 0, .slice none (dg ((0 : Rat).den - 1)).length 0]) 56), (b7, bV (.agg #[.bool (decide (cx.num < 0)), .slice t1 (dg cx.num.natAbs).length t2, .slice t3 (dg (cx.den - 1)).length t4, .bool (decide (cy.num < 0)), .slice u1 (dg cy.num.natAbs).length u2, .slice u3 (dg (cy.den - 1)).length u4]) 59), (b6, bV (.agg #[.bool (decide (bx.num < 0)), .slice r1 (dg bx.num.natAbs).length r2, .slice r3 (dg (bx.den - 1)).length r4, .bool (decide (dy.num < 0)), .slice s1 (dg dy.num.natAbs).length s2, .slice s3 (dg (dy.den - 1)).length s4]) 59), (b5, bV (.agg #[.bool (decide (ax.num < 0)), .slice p1 (dg ax.num.natAbs).length p2, .slice p3 (dg (ax.den - 1)).length p4, .bool (decide (ay.num < 0)), .slice q1 (dg ay.num.natAbs).length q2, .slice q3 (dg (ay.den - 1)).length q4]) 59)] [Row v1 (List.map Zo (dg (trF (xs l37) k).num.natAbs)), Row v3 (List.map Zo (dg ((trF (xs l37) k).den - 1))), Row (some ⟨b37, 0, none⟩) (cellsOf Yq l37), AllF l37, Row p1 (List.map Zo (dg ax.num.natAbs)), Row p3 (List.map Zo (dg (ax.den - 1))), Row q1 (List.map Zo (dg ay.num.natAbs)), Row q3 (List.map Zo (dg (ay.den - 1))), Row r1 (List.map Zo (dg bx.num.natAbs)), Row r3 (List.map Zo (dg (bx.den - 1))), Row s1 (List.map Zo (dg dy.num.natAbs)), Row s3 (List.map Zo (dg (dy.den - 1))), Row t1 (List.map Zo (dg cx.num.natAbs)), Row t3 (List.map Zo (dg (cx.den - 1))), Row u1 (List.map Zo (dg cy.num.natAbs)), Row u3 (List.map Zo (dg (cy.den - 1)))] a w) (fun k => 169 - k) 0 (⟨Nat.zero_le _, none, 0, none, 0, ⟨FT0.h1, FT0.h2⟩, by rw [show trF (xs l37) 0 = 0 from rfl]; exact (h.factsSub (by simp)).sub (Zff ⟨rfl, rfl, rfl, rfl, rfl, rfl, rfl, trivial⟩)⟩) ?_; clear h
 rintro k a w ⟨hi_k, v1, v2, v3, v4, ⟨hv2, hv4⟩, h⟩
 refine gC h (zs (zS (zm rfl (zp (.lss rfl rfl) (zn ?_))))); clear h; intro a w h
 refine cW ?_
 refine Zc h rfl (fun hc39 => ?_) (fun hc39 => ?_)
 ·
  skip
  have hlt_k : k < 169 := dT hc39
  have htr := Zlg ht37.len hda ht37.deg hsz k oo
  have hez := hsz k hlt_k
  rw [← Kj] at hez
  have hm37 : l37.getD k FT0 ∈ l37 := getD_mem _ oo
  replace h := h.derive (R := Row (l37.getD k FT0).a2 (List.map Zo (dg ((l37.getD k FT0).x.den - 1)))) (fun X hX => AllF.get2 (hX _ mm) hm37)
  replace h := h.derive (R := Row (l37.getD k FT0).a1 (List.map Zo (dg (l37.getD k FT0).x.num.natAbs))) (fun X hX => AllF.get1 (hX _ mm) hm37)
  refine gC h (zk (zs (zb (zS (zm rfl (zm rfl (zp (.indexAddr rfl rfl (Zbp _ _ _ _ _ oo)) (zD rfl mm (cells_lt (k := 3) dd (fun _ => rfl) l37 k oo) isAgg56 sizeOf56 (Qb (k := 3) (fun _ => rfl) ((fun _ => rfl)) l37 FT0 k oo) (.inl rfl) ?_))))))))
  refine zv [_] rfl call86 (Zjp ((l37.getD k FT0).x) _ _ _ _) (zp (.neq rfl rfl) (zn ?_)); intro a w h
  refine cW ?_
  refine Zc h rfl (fun hc47 => ?_) (fun hc47 => ?_)
  ·
   skip
   have hnz : ¬ (xs l37).getD k 0 = 0 := fun e => by rw [← Kj] at e; rw [e] at hc47; exact absurd hc47 dd
   have hdg := ht37.deg k hlt_k hnz
   refine gC h (yD Za [0, 1, 2, 3, 4, 5, 6, 7, 8, 9, 10, 11, 12] (Zb kk) (yd rfl rfl mr isAgg56 sizeOf56 Zi ?_)); clear h
   refine ym rfl rfl (ym rfl rfl (yp rfl (.indexAddr rfl rfl (Zbp _ _ _ _ _ oo)) ?_))
   refine Zm rfl kk rfl mm (cells_lt (k := 3) dd (fun _ => rfl) l37 k oo) isAgg56 sizeOf56 (Qb (k := 3) (fun _ => rfl) ((fun _ => rfl)) l37 FT0 k oo) (.inl rfl) dd ?_
   refine ym rfl rfl (yp rfl (Pure1.cast (v' := .int .i64 (((k) / 13 : Nat) : Int)) (.binOp rfl rfl (fun _ => Ys _ _ _ _ _ dd)) (by rw [show (13 : Int) = ((13 : Nat) : Int) from rfl, Xp, wrap_i64 _ oo oo])) (ym rfl rfl (yp rfl (Pure1.cast (v' := .int .i64 (((k) % 13 : Nat) : Int)) (.binOp rfl rfl (fun _ => Ye _ _ _ _ _ dd)) (by rw [show (13 : Int) = ((13 : Nat) : Int) from rfl, Xl])) (yf [_, _] rfl rfl call156 (Qfa (k / 13) (k % 13) oo oo) ?_)))); rintro v57 Ψ57 ⟨ad57, c57, bd57, d57, rfl, hle57, hlf57, rfl⟩
   have hl57 : Qa (Zhk (k / 13) (k % 13)) ≤ 300 := by rw [Zos _ oo _ oo oo]; exact Zli _ _ oo
   refine yf [_, _] rfl rfl call70 (Zb3 _ _ _ _ _ _ _ _ ((l37.getD k FT0).x) (Zhk (k / 13) (k % 13)) oo oo) ?_; rintro v58 Ψ58 ⟨ad58, c58, bd58, d58, rfl, hle58, hlf58, rfl⟩
   have hl58 := Zu ((l37.getD k FT0).x) (Zhk (k / 13) (k % 13))
   refine yf [_, _] rfl rfl call65 (Zhj _ _ _ _ _ _ _ _ (trF (xs l37) k) (((l37.getD k FT0).x) * (Zhk (k / 13) (k % 13))) oo oo) ?_; rintro v59 Ψ59 ⟨ad59, c59, bd59, d59, rfl, hle59, hlf59, rfl⟩
   have hl59 := Qs (trF (xs l37) k) (((l37.getD k FT0).x) * (Zhk (k / 13) (k % 13)))
   refine yt rfl rfl rfl Zz uu sizeOf56 rfl nb rfl ?_
   refine yn (zr (zm rfl (zp (.pN (k + 1) (.add rfl rfl)) (za rfl (zn ?_))))); intro a w h
   rw [show (trF (xs l37) k) + (((l37.getD k FT0).x) * (Zhk (k / 13) (k % 13))) = trF (xs l37) (k + 1) from by rw [trF, if_neg hnz, ← Kj]] at h hle59 hlf59
   exact ⟨k + 1, ⟨oo, ad59, c59, bd59, d59, ⟨hle59, hlf59⟩, by exact (h.factsSub (by simp)).sub sA⟩, oo⟩
  ·
   skip
   have hnz : (xs l37).getD k 0 = 0 := by rw [← Kj]; exact of_decide_eq_true (by rw [← Qdd]; simpa using hc47)
   refine gC h (zk (zr (zm rfl (zp (.pN (k + 1) (.add rfl rfl)) (za rfl (zn ?_)))))); clear h; intro a w h
   rw [show trF (xs l37) k = trF (xs l37) (k + 1) from (if_pos hnz).symm] at h hv2 hv4
   exact ⟨k + 1, ⟨oo, v1, v2, v3, v4, ⟨hv2, hv4⟩, by exact (h.factsSub (by simp)).sub sA⟩, oo⟩
 ·
  skip
  have heq_k : 169 = k := dF hc39
  subst heq_k
  have htr := Zlg ht37.len hda ht37.deg hsz 169 oo
  refine gC h (ze (zs (yD Za [0, 1, 2, 3, 4, 5, 6] (Zb kk) (yd rfl rfl mr isAgg56 sizeOf56 Zi ?_)))); clear h
  refine yd rfl rfl mr isAgg59 sizeOf59 Gd ?_
  refine yd rfl rfl mr isAgg59 sizeOf59 Gd ?_
  refine yd rfl rfl mr isAgg59 sizeOf59 Gd ?_
  refine yf [_, _, _] rfl rfl call157 (Zta _ _ _ _ _ _ _ _ _ _ _ _ _ _ _ _ _ _ _ _ _ _ _ _ ax ay bx dy cx cy Kp hkax hkay hkbx hkdy hkcx hkcy hkp) ?_; rintro v64 Ψ64 ⟨ad64, c64, bd64, d64, rfl, hle64, hlf64, rfl⟩
  have hl64 := Zr3 hkax hkay hkbx hkdy hkcx hkcy
  refine yf [_, _] rfl rfl call70 (Zb3 _ _ _ _ _ _ _ _ (trF (xs l37) 169) ((bx - ax) * (cy - ay) - (cx - ax) * (dy - ay)) oo oo) ?_; rintro v65 Ψ65 ⟨ad65, c65, bd65, d65, rfl, hle65, hlf65, rfl⟩
  have hl65 := Zu (trF (xs l37) 169) ((bx - ax) * (cy - ay) - (cx - ax) * (dy - ay))
  refine yt rfl rfl rfl Zz uu sizeOf56 rfl nb rfl ?_
  refine yn (zt ?_); intro a w h
  refine Qk (Ψ := [Row ad65 (List.map Zo (dg (trF (xs l37) 169 * ((bx - ax) * (cy - ay) - (cx - ax) * (dy - ay))).num.natAbs)), Row bd65 (List.map Zo (dg ((trF (xs l37) 169 * ((bx - ax) * (cy - ay) - (cx - ax) * (dy - ay))).den - 1)))]) h (Zd h rfl (.cell rfl mr isAgg56 sizeOf56 Zi)) ?_ ss
  rw [← Qc3 ha ht37 hda (a := (ax, ay)) (b := (bx, dy)) (c := (cx, cy)) he37]; exact ⟨ad65, c65, bd65, d65, rfl, hle65, hlf65, rfl⟩
end
section
theorem Zx9 (x0_0 : Value) (x0_1 : Value) (x0_2 : Value) (x1_0 : Value) (x1_1 : Value) (x1_2 : Value) (w : World) : (Instr.build 59 [(0, .agg #[x0_0, x0_1, x0_2]), (1, .agg #[x1_0, x1_1, x1_2])].toArray).run Tryz.prog w = .ok (.agg #[x0_0, x0_1, x0_2, x1_0, x1_1, x1_2]) w := by simp [go_sem]
theorem Zzo {c0 c1 c2 c3 c4 c5 v0 v1 v2 v3 v4 v5 : Value} : Qu #[c0, c1, c2, c3, c4, c5] 0 [v0, v1, v2, v3, v4, v5] = #[v0, v1, v2, v3, v4, v5] := rfl
theorem Zex (q : (Int × Int) × (Int × Int)) (hq : OkP q) : Ctr Tryz.prog 15 [Zak q] [] (fun v Ψ => ∃ a1 c1 a2 c2 b1 d1 b2 d2, v = fPt (ptv q).1 a1 c1 a2 c2 (ptv q).2 b1 d1 b2 d2 ∧ (dg (ptv q).1.num.natAbs).length ≤ c1 ∧ (dg ((ptv q).1.den - 1)).length ≤ c2 ∧ (dg (ptv q).2.num.natAbs).length ≤ d1 ∧ (dg ((ptv q).2.den - 1)).length ≤ d2 ∧ Ψ = [Row a1 (List.map Zo (dg ((ptv q).1).num.natAbs)), Row a2 (List.map Zo (dg (((ptv q).1).den - 1))), Row b1 (List.map Zo (dg ((ptv q).2).num.natAbs)), Row b2 (List.map Zo (dg (((ptv q).2).den - 1)))]) := by
 obtain ⟨⟨ha1, ha2, ha3, ha4⟩, hb1, hb2, hb3, hb4⟩ := hq
 refine fn_intro func15 rfl ntmps15 nb ?_
 intro S w0 a hS h
 refine gC h (zS (zx rfl fun b1 => zz zeroValue59 fun b2 => zn (zs (yD Za [0, 1, 3, 4, 2, 5, 6, 7] (Zb kk) (yp rfl (.indexAddr rfl rfl (Zsb _ _)) (yd rfl rfl mr isAgg25 sizeOf25 Zq7 ?_)))))); clear h
 refine yp rfl (.indexAddr rfl rfl (Zsa _ _)) (yd rfl rfl mr isAgg25 sizeOf25 Zq6 ?_)
 refine yf [_] rfl rfl call53 (Zyt ((q).1.1) ((q).1.2) oo oo oo oo) ?_; rintro v5 Ψ5 ⟨ad5, c5, bd5, d5, rfl, hle5, hlf5, rfl⟩
 have hl5 := Zc7 ((q).1.1) ((q).1.2) oo oo oo oo
 refine yf [_] rfl rfl call53 (Zyt ((q).2.1) ((q).2.2) oo oo oo oo) ?_; rintro v8 Ψ8 ⟨ad8, c8, bd8, d8, rfl, hle8, hlf8, rfl⟩
 have hl8 := Zc7 ((q).2.1) ((q).2.2) oo oo oo oo
 refine yp rfl (.build [(_, _), (_, _)] rfl (Zx9 _ _ _ _ _ _)) (yt rfl rfl rfl Zzo uu sizeOf59 rfl nb rfl ?_)
 refine yn (zt ?_); intro a w h
 refine Qk (Ψ := [Row ad5 (List.map Zo (dg (qv q.1.1 q.1.2).num.natAbs)), Row bd5 (List.map Zo (dg ((qv q.1.1 q.1.2).den - 1))), Row ad8 (List.map Zo (dg (qv q.2.1 q.2.2).num.natAbs)), Row bd8 (List.map Zo (dg ((qv q.2.1 q.2.2).den - 1)))]) h (Zd h rfl (.cell rfl mr isAgg59 sizeOf59 Gd)) ?_ ss
 exact ⟨ad5, c5, bd5, d5, ad8, c8, bd8, d8, rfl, hle5, hlf5, hle8, hlf8, rfl⟩
theorem Zjz (l m : List Ti) (ad ad2 : Option Addr) (c c2 : Nat) (hokl : ∀ t ∈ l, OkT t) (hokm : ∀ t ∈ m, OkT t) (hln : l.length ≤ 9223372036854775807) (hmn : m.length ≤ 9223372036854775807) (qa : (Int × Int) × (Int × Int)) (qb : (Int × Int) × (Int × Int)) (hqa : OkP qa) (hqb : OkP qb) : Zae Tryz.prog 3 [.slice ad l.length c, .slice ad2 m.length c2, Zak qa, Zak qb] [TabF, Row ad (cellsOf Gm l), Row ad2 (cellsOf Gm m)] (.bool true) := by
 have hKa := Zeq hqa
 have hKb := Zeq hqb
 refine fn_intro func3 rfl ntmps3 nb ?_
 intro S w0 a hS h
 refine gC h (zS (zx rfl fun b6 => zx rfl fun b7 => za rfl (zn (zs (zS (zm rfl (zp (.builtin [_] rfl (Jy _ _ _)) (zp (.gtr rfl rfl) ?_)))))))); clear h; intro a w h
 refine Zl h (fun hc17 h => ?_) (fun hc17 h => ?_)
 ·
  skip
  refine gL h (zm rfl (zo 18 rfl rfl rfl (zo 18 rfl rfl rfl (zo 18 rfl rfl rfl (zp (.pickT rfl rfl) (zn ?_)))))); clear h; intro a w h
  refine cW ?_
  refine Zp h rfl ?_
  refine gC h (zS (zv [] rfl call7 (Ja) (za rfl (zn (zt ?_))))); clear h; intro a w h
  exact Zao h
 ·
  skip
  refine gL h (zm rfl (zq 18 rfl rfl (.move rfl) (zq 18 rfl rfl (.builtin [_] rfl (Jy _ _ _)) (zq 18 rfl rfl (.gtr rfl rfl) ?_)))); clear h; intro a w h
  refine Zl h (fun hc21 h => ?_) (fun hc21 h => ?_)
  ·
   skip
   refine gL h (zp (.pickF rfl rfl) (zn ?_)); clear h; intro a w h
   refine cW ?_
   refine Zp h rfl ?_
   refine gC h (zS (zv [] rfl call7 (Ja) (za rfl (zn (zt ?_))))); clear h; intro a w h
   exact Zao h
  ·
   skip
   have hll : l.length ≤ 6 := dF hc17
   have hml : m.length ≤ 6 := dF hc21
   have hgx := Zc4 (d := 6) hokl hll dd dd
   have hgy := Zc4 (d := 6) hokm hml dd dd
   refine gL h (zp (.pickF rfl rfl) (zn ?_)); clear h; intro a w h
   refine cW ?_
   refine Zk h rfl ?_
   refine gC h (zk (zS (zm rfl ?_)))
   have hpl := Zq8 (d := 5) (m := 6) hokl oo dd
   have hpm := Zq8 (d := 5) (m := 6) hokm oo dd
   have hs1 : Qa (Yh (Xk 5 l) (ptv qa) (ptv qb)) ≤ 300000 := Nat.le_trans (Zbx hpl dd hKa hKb dd) kD
   have hs2 : Qa (Jq (Xk 5 l) (Xk 5 m) (ptv qa) (ptv qb)) ≤ 300000 := Km hpl hpm dd dd hKa hKb dd kD
   refine zf [_, _] rfl call8 (Zgf l _ _ 5 dd oo) ?_; rintro v25 Ψ25 ⟨ad25, c25, rfl, rfl⟩
   refine zm rfl (zf [_, _] rfl call8 (Zgf m _ _ 5 dd oo) ?_); rintro v27 Ψ27 ⟨ad27, c27, rfl, rfl⟩
   refine za rfl (za rfl (zn (zS (zm rfl (zf [_] rfl call9 (Zy1 l _ _ 5 dd hokl oo) ?_))))); rintro v30 Ψ30 ⟨b30, l30, rfl, hn30, he30, rfl⟩ a w h
   replace he30 := Zk1 dd he30
   have ht30 := Zv1 (m := 6) dd hokl oo dd hn30 he30
   refine gL h (zm rfl (zp (.eX rfl) (zp (.eX rfl) (za rfl (za rfl (zn (zS (zm rfl (zf [_] rfl call9 (Zy1 m _ _ 5 dd hokm oo) ?_))))))))); clear h; rintro v35 Ψ35 ⟨b35, l35, rfl, hn35, he35, rfl⟩ a w h
   replace he35 := Zk1 dd he35
   have ht35 := Zv1 (m := 6) dd hokm oo dd hn35 he35
   refine gL h (zm rfl (zp (.eX rfl) (zp (.eX rfl) (za rfl (za rfl (zn (zs (yD Za [0, 2, 4, 7, 8, 10, 1, 3, 5, 6, 9, 11, 12, 13, 14, 15, 17, 19, 21, 24, 25, 26, 28, 16, 18, 20, 22, 23, 27, 29, 30, 31, 32, 33, 34, 35, 36] (Zb kk) (ym rfl rfl (yd rfl rfl mr isAgg27 sizeOf27 Zy ?_)))))))))); clear h
   refine yd rfl rfl mr isAgg27 sizeOf27 Zy ?_
   refine ym rfl rfl (yd rfl rfl mr isAgg27 sizeOf27 Zy ?_)
   refine yd rfl rfl mr isAgg27 sizeOf27 Zy ?_
   refine yf [_] rfl rfl call12 (Zok l _ _ 5 hokl oo) ?_; rintro v39 Ψ39 ⟨ad39, c39, rfl, rfl⟩
   refine yv [_] rfl rfl call13 (Zbn qa (by assumption)) (yv [_] rfl rfl call13 (Zbn qb (by assumption)) (yw [_, _, _] rfl rfl call11 (Zjy (Xk 5 l) _ _ 5 31 4 hpl dd (ptv qa) (ptv qb) hKa hKb dd dd dd) (yf [_] rfl rfl call15 (Zex qa (by assumption)) ?_))); rintro v47 Ψ47 ⟨a47, c47, e47, f47, g47, i47, j47, k47, rfl, hp47, hq47, hr47, hs47, rfl⟩
   refine yf [_] rfl rfl call15 (Zex qb (by assumption)) ?_; rintro v49 Ψ49 ⟨a49, c49, e49, f49, g49, i49, j49, k49, rfl, hp49, hq49, hr49, hs49, rfl⟩
   refine yf [_, _, _] rfl rfl call14 (Zyn b30 l30 5 31 ht30 dd dd _ _ _ _ _ _ _ _ _ _ _ _ _ _ _ _ (ptv qa).1 (ptv qa).2 (ptv qb).1 (ptv qb).2 4 hKa.1 hKa.2 hKb.1 hKb.2 hp47 hq47 hr47 hs47 hp49 hq49 hr49 hs49 dd dd) ?_; rintro v50 Ψ50 ⟨ad50, c50, bd50, d50, rfl, hle50, hlf50, rfl⟩
   refine yw [_, _] rfl rfl call10 (Zg2 _ _ _ _ (Yh (Xk 5 l) (ptv qa) (ptv qb)) (Yh (pol (xs l30)) (ptv qa) (ptv qb)) hs1 (Zfk he30 _ _)) (ym rfl rfl ?_)
   refine Zs (fun hc52  => ?_) (fun hc52  => (by exfalso; cases hc52))
   refine yq rfl rfl rfl (.move rfl) (yq rfl rfl rfl (.move rfl) (yg rfl rfl rfl rfl mr isAgg27 sizeOf27 Zy ?_))
   refine yg rfl rfl rfl rfl mr isAgg27 sizeOf27 Zy ?_
   refine yq rfl rfl rfl (.move rfl) (yq rfl rfl rfl (.move rfl) (yg rfl rfl rfl rfl mr isAgg27 sizeOf27 Zy ?_))
   refine yg rfl rfl rfl rfl mr isAgg27 sizeOf27 Zy ?_
   refine Xx rfl rfl rfl kk (vs := [_]) rfl call12 (Zok l _ _ 5 hokl oo) ss dd ?_; rintro v54 Ψ54 ⟨ad54, c54, rfl, rfl⟩
   refine Xx rfl rfl rfl kk (vs := [_]) rfl call12 (Zok m _ _ 5 hokm oo) ss dd ?_; rintro v56 Ψ56 ⟨ad56, c56, rfl, rfl⟩
   refine Qd rfl rfl rfl kk (vs := [_]) rfl call13 (Zbn qa (by assumption)) dd ?_
   refine Qd rfl rfl rfl kk (vs := [_]) rfl call13 (Zbn qb (by assumption)) dd ?_
   refine Qf rfl rfl rfl kk (vs := [_, _, _, _]) rfl call16 (Zd8 (Xk 5 l) (Xk 5 m) _ _ _ _ 5 5 31 31 4 hpl hpm dd dd (ptv qa) (ptv qb) hKa hKb dd dd dd dd) ss dd ?_
   refine Xx rfl rfl rfl kk (vs := [_]) rfl call15 (Zex qa (by assumption)) ss dd ?_; rintro v65 Ψ65 ⟨a65, c65, e65, f65, g65, i65, j65, k65, rfl, hp65, hq65, hr65, hs65, rfl⟩
   refine Xx rfl rfl rfl kk (vs := [_]) rfl call15 (Zex qb (by assumption)) ss dd ?_; rintro v67 Ψ67 ⟨a67, c67, e67, f67, g67, i67, j67, k67, rfl, hp67, hq67, hr67, hs67, rfl⟩
   refine Xx rfl rfl rfl kk (vs := [_, _, _, _]) rfl call17 (Qfb b30 l30 5 31 ht30 dd dd b35 l35 5 31 ht35 dd dd _ _ _ _ _ _ _ _ _ _ _ _ _ _ _ _ (ptv qa).1 (ptv qa).2 (ptv qb).1 (ptv qb).2 4 hKa.1 hKa.2 hKb.1 hKb.2 hp65 hq65 hr65 hs65 hp67 hq67 hr67 hs67 dd dd) ss dd ?_; rintro v68 Ψ68 ⟨ad68, c68, bd68, d68, rfl, hle68, hlf68, rfl⟩
   refine Qf rfl rfl rfl kk (vs := [_, _]) rfl call10 (Zg2 _ _ _ _ (Jq (Xk 5 l) (Xk 5 m) (ptv qa) (ptv qb)) (Jq (pol (xs l30)) (pol (xs l35)) (ptv qa) (ptv qb)) hs2 (Zxd he30 he35 _ _)) ss dd ?_
   refine yp rfl (.pickT rfl rfl) (ym rfl rfl ?_)
   refine Zs (fun hc71  => ?_) (fun hc71  => (by exfalso; cases hc71))
   refine Qd rfl rfl rfl kk (vs := []) rfl call7 (Ja) dd ?_
   refine yp rfl (.pickT rfl rfl) (yp rfl (.assign rfl) (yn (zt ?_))); intro a w h
   exact Zao h
end
section
theorem Zt7 {K : Nat} {a b c : Pt} (ha : PtK K a) (hb : PtK K b) (hc : PtK K c) : Qa (twQ a b c / ((2 : Int) : Rat)) ≤ 8 * K + 7 := by
 have := Zgn ha hb hc
 have := Ko (twQ a b c) ((2 : Int) : Rat)
 have := Qe 2 dd dd
 omega
theorem Zey (l : List Ti) (ad : Option Addr) (c : Nat) (hokl : ∀ t ∈ l, OkT t) (hln : l.length ≤ 9223372036854775807) (qa : (Int × Int) × (Int × Int)) (qb : (Int × Int) × (Int × Int)) (qc : (Int × Int) × (Int × Int)) (hqa : OkP qa) (hqb : OkP qb) (hqc : OkP qc) : Zae Tryz.prog 31 [.slice ad l.length c, Zak qa, Zak qb, Zak qc] [TabF, Row ad (cellsOf Gm l)] (.bool true) := by
 have hKa := Zeq hqa
 have hKb := Zeq hqb
 have hKc := Zeq hqc
 refine fn_intro func31 rfl ntmps31 nb ?_
 intro S w0 a hS h
 refine gC h (zS (zx rfl fun b5 => zx rfl fun b6 => zx rfl fun b7 => za rfl (zn (zs (zS (zm rfl (zp (.builtin [_] rfl (Jy _ _ _)) (zp (.gtr rfl rfl) ?_)))))))); clear h; intro a w h
 refine Zl h (fun hc14 h => ?_) (fun hc14 h => ?_)
 ·
  skip
  refine wpList_nil ?_
  refine cW ?_
  refine Zp h rfl ?_
  refine gC h (zS (zv [] rfl call7 (Ja) (za rfl (zn (zt ?_))))); clear h; intro a w h
  exact Zao h
 ·
  skip
  have hll : l.length ≤ 6 := dF hc14
  refine wpList_nil ?_
  refine cW ?_
  refine Zk h rfl ?_
  refine gC h (zk (zS (zm rfl ?_)))
  have hpl := Zq8 (d := 4) (m := 6) hokl oo dd
  have hs1 : Qa (Yo (Xk 4 l) (ptv qa) (ptv qb) (ptv qc)) ≤ 300000 := Nat.le_trans (Zau hpl dd hKa hKb hKc) kD
  have hs2 : Qa (twQ (ptv qa) (ptv qb) (ptv qc) / ((2 : Int) : Rat)) ≤ 300000 := Nat.le_trans (Zt7 hKa hKb hKc) dd
  refine zf [_, _] rfl call8 (Zgf l _ _ 4 dd oo) ?_; rintro v17 Ψ17 ⟨ad17, c17, rfl, rfl⟩
  refine za rfl (zn (zS (zm rfl (zf [_] rfl call9 (Zy1 l _ _ 4 dd hokl oo) ?_)))); rintro v20 Ψ20 ⟨b20, l20, rfl, hn20, he20, rfl⟩ a w h
  replace he20 := Zk1 dd he20
  have ht20 := Zv1 (m := 6) dd hokl oo dd hn20 he20
  refine gL h (zm rfl (zp (.eX rfl) (zp (.eX rfl) (za rfl (za rfl (zn (zs (yD Za [0, 2, 4, 6, 9, 10, 12, 14, 1, 3, 5, 7, 8, 11, 13, 15, 16, 17, 18, 19, 21, 23, 26, 28, 30, 20, 22, 24, 25, 27, 29, 31, 32, 33, 34, 35, 36, 37, 38] (Zb kk) (ym rfl rfl (yd rfl rfl mr isAgg27 sizeOf27 Zy ?_)))))))))); clear h
  refine yd rfl rfl mr isAgg27 sizeOf27 Zy ?_
  refine yd rfl rfl mr isAgg27 sizeOf27 Zy ?_
  refine ym rfl rfl (yd rfl rfl mr isAgg27 sizeOf27 Zy ?_)
  refine yd rfl rfl mr isAgg27 sizeOf27 Zy ?_
  refine yd rfl rfl mr isAgg27 sizeOf27 Zy ?_
  refine yf [_] rfl rfl call12 (Zok l _ _ 4 hokl oo) ?_; rintro v24 Ψ24 ⟨ad24, c24, rfl, rfl⟩
  refine yv [_] rfl rfl call13 (Zbn qa (by assumption)) (yv [_] rfl rfl call13 (Zbn qb (by assumption)) (yv [_] rfl rfl call13 (Zbn qc (by assumption)) (yw [_, _, _, _] rfl rfl call51 (Zd7 (Xk 4 l) _ _ 4 31 4 hpl dd (ptv qa) (ptv qb) (ptv qc) hKa hKb hKc dd dd) (yf [_] rfl rfl call15 (Zex qa (by assumption)) ?_)))); rintro v34 Ψ34 ⟨a34, c34, e34, f34, g34, i34, j34, k34, rfl, hp34, hq34, hr34, hs34, rfl⟩
  refine yf [_] rfl rfl call15 (Zex qb (by assumption)) ?_; rintro v36 Ψ36 ⟨a36, c36, e36, f36, g36, i36, j36, k36, rfl, hp36, hq36, hr36, hs36, rfl⟩
  refine yf [_] rfl rfl call15 (Zex qc (by assumption)) ?_; rintro v38 Ψ38 ⟨a38, c38, e38, f38, g38, i38, j38, k38, rfl, hp38, hq38, hr38, hs38, rfl⟩
  refine yf [_, _, _, _] rfl rfl call93 (C_rTri b20 l20 4 31 ht20 dd dd _ _ _ _ _ _ _ _ _ _ _ _ _ _ _ _ _ _ _ _ _ _ _ _ (ptv qa).1 (ptv qa).2 (ptv qb).1 (ptv qb).2 (ptv qc).1 (ptv qc).2 4 hKa.1 hKa.2 hKb.1 hKb.2 hKc.1 hKc.2 dd hp34 hq34 hr34 hs34) ?_; rintro v39 Ψ39 ⟨ad39, c39, bd39, d39, rfl, hle39, hlf39, rfl⟩
  refine yw [_, _] rfl rfl call10 (Zg2 _ _ _ _ (Yo (Xk 4 l) (ptv qa) (ptv qb) (ptv qc)) (Yo (pol (xs l20)) (ptv qa) (ptv qb) (ptv qc)) hs1 (Zhy he20 _ _ _)) (ym rfl rfl ?_)
  refine Zs (fun hc41  => ?_) (fun hc41  => (by exfalso; cases hc41))
  refine yg rfl rfl rfl rfl mr isAgg27 sizeOf27 Zy ?_
  refine yg rfl rfl rfl rfl mr isAgg27 sizeOf27 Zy ?_
  refine yg rfl rfl rfl rfl mr isAgg27 sizeOf27 Zy ?_
  refine yg rfl rfl rfl rfl mr isAgg27 sizeOf27 Zy ?_
  refine yg rfl rfl rfl rfl mr isAgg27 sizeOf27 Zy ?_
  refine yg rfl rfl rfl rfl mr isAgg27 sizeOf27 Zy ?_
  refine Qd rfl rfl rfl kk (vs := [_]) rfl call13 (Zbn qa (by assumption)) dd ?_
  refine Qd rfl rfl rfl kk (vs := [_]) rfl call13 (Zbn qb (by assumption)) dd ?_
  refine Qd rfl rfl rfl kk (vs := [_]) rfl call13 (Zbn qc (by assumption)) dd ?_
  refine Qd rfl rfl rfl kk (vs := [_, _, _]) rfl call94 (Zy8 (ptv qa) (ptv qb) (ptv qc) 4 hKa hKb hKc dd) dd ?_
  refine Xx rfl rfl rfl kk (vs := [_]) rfl call15 (Zex qa (by assumption)) ss dd ?_; rintro v50 Ψ50 ⟨a50, c50, e50, f50, g50, i50, j50, k50, rfl, hp50, hq50, hr50, hs50, rfl⟩
  refine Xx rfl rfl rfl kk (vs := [_]) rfl call15 (Zex qb (by assumption)) ss dd ?_; rintro v52 Ψ52 ⟨a52, c52, e52, f52, g52, i52, j52, k52, rfl, hp52, hq52, hr52, hs52, rfl⟩
  refine Xx rfl rfl rfl kk (vs := [_]) rfl call15 (Zex qc (by assumption)) ss dd ?_; rintro v54 Ψ54 ⟨a54, c54, e54, f54, g54, i54, j54, k54, rfl, hp54, hq54, hr54, hs54, rfl⟩
  refine Xx rfl rfl rfl kk (vs := [_, _, _]) rfl call95 (Qfc _ _ _ _ _ _ _ _ _ _ _ _ _ _ _ _ _ _ _ _ _ _ _ _ (ptv qa).1 (ptv qa).2 (ptv qb).1 (ptv qb).2 (ptv qc).1 (ptv qc).2 4 hKa.1 hKa.2 hKb.1 hKb.2 hKc.1 hKc.2 dd) ss dd ?_; rintro v55 Ψ55 ⟨ad55, c55, bd55, d55, rfl, hle55, hlf55, rfl⟩
  refine Qf rfl rfl rfl kk (vs := [_, _]) rfl call10 (Zg2 _ _ _ _ (twQ (ptv qa) (ptv qb) (ptv qc) / ((2 : Int) : Rat)) ((((ptv qb).1 - (ptv qa).1) * ((ptv qc).2 - (ptv qa).2) - ((ptv qc).1 - (ptv qa).1) * ((ptv qb).2 - (ptv qa).2)) / ((2 : Int) : Rat)) hs2 rfl) ss dd ?_
  refine yp rfl (.pickT rfl rfl) (ym rfl rfl ?_)
  refine Zs (fun hc58  => ?_) (fun hc58  => (by exfalso; cases hc58))
  refine Qd rfl rfl rfl kk (vs := []) rfl call7 (Ja) dd ?_
  refine yp rfl (.pickT rfl rfl) (yp rfl (.assign rfl) (yn (zt ?_))); intro a w h
  exact Zao h
end
section
theorem Zgc (x0 : Int) (x1 : Int) (w : World) : (Instr.build 25 [(0, .int .i64 x0), (1, .int .u32 x1)].toArray).run Tryz.prog w = .ok (.agg #[.int .i64 x0, .int .u32 x1]) w := by simp [go_sem]
theorem Zgb (x0_0 : Value) (x0_1 : Value) (x1_0 : Value) (x1_1 : Value) (w : World) : (Instr.build 27 [(0, .agg #[x0_0, x0_1]), (1, .agg #[x1_0, x1_1])].toArray).run Tryz.prog w = .ok (.agg #[x0_0, x0_1, x1_0, x1_1]) w := by simp [go_sem]
theorem Zh0 {c0 c1 c2 c3 v0 v1 v2 v3 : Value} : Qu #[c0, c1, c2, c3] 0 [v0, v1, v2, v3] = #[v0, v1, v2, v3] := rfl
theorem Zd4 (x0_0 : Value) (x0_1 : Value) (x0_2 : Value) (x0_3 : Value) (x1_0 : Value) (x1_1 : Value) (x1_2 : Value) (x1_3 : Value) (x2_0 : Value) (x2_1 : Value) (x2_2 : Value) (x2_3 : Value) (x3_0 : Value) (x3_1 : Value) (x3_2 : Value) (x3_3 : Value) (w : World) : (Instr.buildSlice 84 4 [(0, .agg #[x0_0, x0_1, x0_2, x0_3]), (1, .agg #[x1_0, x1_1, x1_2, x1_3]), (2, .agg #[x2_0, x2_1, x2_2, x2_3]), (3, .agg #[x3_0, x3_1, x3_2, x3_3])].toArray).run Tryz.prog w = .ok (.slice (some ⟨w.heap.size, 0, none⟩) 4 4) (w.alloc (.cells #[x0_0, x0_1, x0_2, x0_3, x1_0, x1_1, x1_2, x1_3, x2_0, x2_1, x2_2, x2_3, x3_0, x3_1, x3_2, x3_3] 27 (0, 0))) := by
 simp [go_sem]
theorem Zjl (x0_0 : Value) (x0_1 : Value) (x0_2 : Value) (x0_3 : Value) (x1_0 : Value) (x1_1 : Value) (x1_2 : Value) (x1_3 : Value) (w : World) : (Instr.buildSlice 84 2 [(0, .agg #[x0_0, x0_1, x0_2, x0_3]), (1, .agg #[x1_0, x1_1, x1_2, x1_3])].toArray).run Tryz.prog w = .ok (.slice (some ⟨w.heap.size, 0, none⟩) 2 2) (w.alloc (.cells #[x0_0, x0_1, x0_2, x0_3, x1_0, x1_1, x1_2, x1_3] 27 (0, 0))) := by
 simp [go_sem]
instance (q : Int × Int) : Decidable (OkQ q) := by unfold OkQ; infer_instance
instance (q : (Int × Int) × (Int × Int)) : Decidable (OkP q) := by unfold OkP; infer_instance
def LKx (i j n : Int) : List Ti := [⟨i, j, n, 1⟩]
theorem Zhm {i j n : Int} (h1 : -1 ≤ i ∧ i ≤ 6) (h2 : -1 ≤ j ∧ j ≤ 6) (h3 : -2 ≤ n ∧ n ≤ 1) : ∀ t ∈ LKx i j n, OkT t := by
 intro t ht
 obtain rfl := List.mem_singleton.1 ht
 refine ⟨⟨?_, ?_⟩, ⟨?_, ?_⟩, ?_, ?_, ?_, ?_⟩ <;> (dsimp only; omega)
theorem pka : OkP ((0, 1), (0, 1)) := by decide
theorem pkb : OkP ((3, 1), (1, 1)) := by decide
theorem pkc : OkP ((1, 2), (2, 1)) := by decide
theorem pkd : OkP ((-1, 1), (5, 3)) := by decide
def PK4 : List ((Int × Int) × (Int × Int)) := [((0, 1), (0, 1)), ((3, 1), (1, 1)), ((1, 2), (2, 1)), ((-1, 1), (5, 3))]
def PK2 : List ((Int × Int) × (Int × Int)) := [((0, 1), (0, 1)), ((3, 1), (1, 1))]
theorem Qb2 : ∀ q ∈ PK4, OkP q := by decide
theorem Qb3 : ∀ q ∈ PK2, OkP q := by decide
theorem Zeu {P : Program} {n : Nat} {S : Nat → Prop} {w0 : World} {L : List (Nat × Value)} {σ : List (Nat × Obj)} {Φ : List Qh} {ops : Array Oper} {i d j t : Nat} {want : Bool} {T : TypeId} {len : Nat} {parts : Array (Nat × Operand)} {ty : TypeId} {pos : String} {aft : Array Edge} {cap : Nat} {cs : Array Value} {E : TypeId} {C : List (Nat × Value) → List (Nat × Obj) → List Qh → Prop}
  (hS : ∀ k, S k → k < w0.heap.size) (ho : ops[i]? = some ⟨some d, .buildSlice T len parts, ty, pos, aft, some (j, want)⟩) (hj : (ops[j]?).bind (·.dst) = some t) (ht : Fx.look L t = some (.bool want))
  (vs : List (Nat × Value)) (hp : parts.toList.map (fun p => (p.1, Fx.ev L p.2)) = vs.map (fun p => (p.1, some p.2)))
  (hr : ∀ w, (Instr.buildSlice T len vs.toArray).run P w = .ok (.slice (some ⟨w.heap.size, 0, none⟩) len cap) (w.alloc (.cells cs E (0, 0)))) (M : List Value) (hM : cs = M.toArray) (hd : d < n)
  (k : ∀ b, C ((d, .slice (some ⟨b, 0, none⟩) len cap) :: L) σ (Row (some ⟨b, 0, none⟩) M :: Φ)) : Zay P ops n S w0 i ⟨some d, .buildSlice T len parts, ty, pos, aft, some (j, want)⟩ C L σ Φ :=
 fun a w σx hst => Zd9 hst ho hj ht (Jj (v := .slice (some ⟨w.heap.size, 0, none⟩) len cap) (w' := w.alloc (.cells cs E (0, 0)))
  (by simp only [execOp, Zcj hst hp, Sem.run_bind, hr]; rfl)
  ⟨⟨fun _ => (Go.RowKit.Below.refl _ _).alloc (Nat.le_refl _) _, fun _ _ _ _ he => by cases he⟩, _, σ, _, rfl, ((hst.alloc _).shareAll hS M hM).put hd _, k _⟩)
theorem Zdr {P : Program} {n : Nat} {S : Nat → Prop} {w0 : World} {L : List (Nat × Value)} {σ : List (Nat × Obj)} {Φ : List Qh} {ops : Array Oper} {i d j t : Nat} {want : Bool} {x : Operand} {f : FuncId} {fs cs : List Value} {args : Array Operand} {tys : Array TypeId} {ty : TypeId} {pos : String} {aft : Array Edge}
  {vs : List Value} {v : Value} {C : List (Nat × Value) → List (Nat × Obj) → List Qh → Prop}
  (ho : ops[i]? = some ⟨some d, .call ⟨.value x, args, tys⟩, ty, pos, aft, some (j, want)⟩) (hj : (ops[j]?).bind (·.dst) = some t) (ht : Fx.look L t = some (.bool want)) (hx : Fx.ev L x = some (.func (.func f) fs.toArray cs.toArray)) (ha : args.toList.map (Fx.ev L) = vs.map some)
  (hc : ∀ args w, (callFunc f args).run P w = .ok (.enter f args) w) (hf : Yi P f (fs ++ vs ++ cs) v) (hd : d < n) (k : C ((d, v) :: L) σ Φ) :
  Zay P ops n S w0 i ⟨some d, .call ⟨.value x, args, tys⟩, ty, pos, aft, some (j, want)⟩ C L σ Φ :=
 fun a w σx hst => Zd9 hst ho hj ht (by
  obtain ⟨X, h1, h2, h3, h4⟩ := hst.facts
  simp only [Oper.wp, Zfm hst hx ha hc, Oper.upon]
  refine (hf X w h3 (fun _ hR => nomatch hR)).mono ?_
  rintro e w' ⟨u, Ψ, rfl, ⟨rfl, rfl⟩, hb, h5⟩
  exact ⟨⟨fun _ => hb, fun _ _ _ _ he => by cases he⟩, u, σ, [] ++ Φ, rfl, ((hst.called hb h1 h2 h3 h4 h5).put hd _), k⟩)
theorem Zhe {P : Program} {n : Nat} {S : Nat → Prop} {w0 : World} {L : List (Nat × Value)} {σ : List (Nat × Obj)} {Φ : List Qh} {ops : Array Oper} {H : List Nat} {Kf : Act → World → Prop} {i d j t : Nat} {want : Bool} {x : Operand} {f : FuncId} {fs cs : List Value} {args : Array Operand} {tys : Array TypeId} {ty : TypeId} {pos : String} {aft : Array Edge}
  {vs : List Value} {v : Value}
  (ho : ops[i]? = some ⟨some d, .call ⟨.value x, args, tys⟩, ty, pos, aft, some (j, want)⟩) (hj : (ops[j]?).bind (·.dst) = some t) (ht : Fx.look L t = some (.bool want)) (hq : Kh ops i H = true) (hx : Fx.ev L x = some (.func (.func f) fs.toArray cs.toArray)) (ha : args.toList.map (Fx.ev L) = vs.map some)
  (hc : ∀ args w, (callFunc f args).run P w = .ok (.enter f args) w) (hf : Yi P f (fs ++ vs ++ cs) v) (_ : (0 : Nat) = 0) (hd : d < n)
  (k : Head P ops n S w0 Kf H ((d, v) :: L) σ Φ) : Head P ops n S w0 Kf (i :: H) L σ Φ :=
 by rw [Fx.Head_cons]; exact .inr (.inl ⟨_, ho, hq, Zdr ho hj ht hx ha hc hf hd k⟩)
theorem Zhs (n : Int) : Yi Tryz.prog 29 [.int .i64 n] (.agg #[.int .i64 n, .int .u32 1]) := by
 refine fn_intro func29 rfl ntmps29 nb ?_
 intro S w0 a hS h
 refine gC h (zS (zz zeroValue25 fun b2 => zn (zS (zm rfl (zp (.build [(_, _), (_, _)] rfl (Zgc _ _)) (zt' rfl rfl Qg uu sizeOf25 rfl nb rfl ?_)))))); clear h; intro a w h
 refine wpList_nil (wp_ret ?_)
 refine Jp h (Zd h rfl (.cell rfl mr isAgg25 sizeOf25 Zn)) ?_
 rfl
set_option maxHeartbeats 4000000 in
theorem Zhv : Zae Tryz.prog 5 [] [TabF] (.bool true) := by
 refine fn_intro func5 rfl ntmps5 nb ?_
 intro S w0 a hS h
 replace h := h.derive (R := Row none (cellsOf Gm [])) (fun X _ hne => absurd rfl hne)
 refine gC h (zS (za rfl (zn (zS (za rfl (zn (zS (zm rfl ?_)))))))); clear h; intro a w h
 refine Zh (Ve h (fs := []) (cs := []) rfl (vs := [_]) rfl call29 (Zhs 0) dd ?_); clear h; intro a w h
 refine gL h (zm rfl ?_); clear h; intro a w h
 refine Zh (Ve h (fs := []) (cs := []) rfl (vs := [_]) rfl call29 (Zhs 0) dd ?_); clear h; intro a w h
 refine gL h (zp (.build [(_, _), (_, _)] rfl (Zgb _ _ _ _)) (zm rfl ?_)); clear h; intro a w h
 refine Zh (Ve h (fs := []) (cs := []) rfl (vs := [_]) rfl call29 (Zhs 3) dd ?_); clear h; intro a w h
 refine gL h (zm rfl ?_); clear h; intro a w h
 refine Zh (Ve h (fs := []) (cs := []) rfl (vs := [_]) rfl call29 (Zhs 1) dd ?_); clear h; intro a w h
 refine gL h (zp (.build [(_, _), (_, _)] rfl (Zgb _ _ _ _)) (zp (.build [(_, _), (_, _)] rfl (Zgc _ _)) (zm rfl ?_))); clear h; intro a w h
 refine Zh (Ve h (fs := []) (cs := []) rfl (vs := [_]) rfl call29 (Zhs 2) dd ?_); clear h; intro a w h
 refine gL h (zp (.build [(_, _), (_, _)] rfl (Zgb _ _ _ _)) (zm rfl ?_)); clear h; intro a w h
 refine Zh (Ve h (fs := []) (cs := []) rfl (vs := [_]) rfl call29 (Zhs (-1)) dd ?_); clear h; intro a w h
 refine gL h (zp (.build [(_, _), (_, _)] rfl (Zgc _ _)) (zp (.build [(_, _), (_, _)] rfl (Zgb _ _ _ _)) (zz zeroValue27 fun b2 => zz zeroValue27 fun b3 => zz zeroValue27 fun b4 => zz zeroValue27 fun b5 => zt' rfl rfl Zh0 uu sizeOf27 rfl nb rfl ?_)))
 refine zt' rfl rfl Zh0 uu sizeOf27 rfl nb rfl ?_; intro a w h
 refine gL h (zt' rfl rfl Zh0 uu sizeOf27 rfl nb rfl ?_)
 refine zt' rfl rfl Zh0 uu sizeOf27 rfl nb rfl ?_; intro a w h
 refine gL h (zn (zs (zS (za rfl (zn (zb ?_)))))); clear h; intro a w h
 refine Zg (fun (n : Nat) a w => n ≤ 7 ∧ St 157 S w0 [(1, .func (.func 29) #[] #[]), (2, pB b2), (3, pB b3), (4, pB b4), (5, pB b5), (6, .int .i64 (((n : Nat) : Int) - 1))] [(b5, bV (.agg ((Value.cells (.agg #[.int .i64 (-1), .int .u32 1])) ++ (Value.cells (.agg #[.int .i64 5, .int .u32 3])))) 27), (b4, bV (.agg ((Value.cells (.agg #[.int .i64 1, .int .u32 2])) ++ (Value.cells (.agg #[.int .i64 2, .int .u32 1])))) 27), (b3, bV (.agg ((Value.cells (.agg #[.int .i64 3, .int .u32 1])) ++ (Value.cells (.agg #[.int .i64 1, .int .u32 1])))) 27), (b2, bV (.agg ((Value.cells (.agg #[.int .i64 0, .int .u32 1])) ++ (Value.cells (.agg #[.int .i64 0, .int .u32 1])))) 27)] [Row none (cellsOf Gm []), TabF] a w) (fun n => 7 - n) 0 (⟨Nat.zero_le _, by exact (h).sub sA⟩) ?_; clear h
 rintro n a w ⟨hi_n, h⟩
 refine gC h (zs (zS (zm rfl (zp (.lss rfl rfl) (zn ?_))))); clear h; intro a w h
 refine cW ?_
 refine Zc h rfl (fun hc29 => ?_) (fun hc29 => ?_)
 ·
  skip
  have hlt_n : n < 7 := dT hc29
  refine gC h (zk (zs (zb (zS (za rfl (zn (zb ?_))))))); clear h; intro a w h
  refine Zg (fun (m : Nat) a w => m ≤ 7 ∧ St 157 S w0 [(1, .func (.func 29) #[] #[]), (2, pB b2), (3, pB b3), (4, pB b4), (5, pB b5), (6, .int .i64 (((n : Nat) : Int) - 1)), (7, .int .i64 (((m : Nat) : Int) - 1))] [(b5, bV (.agg ((Value.cells (.agg #[.int .i64 (-1), .int .u32 1])) ++ (Value.cells (.agg #[.int .i64 5, .int .u32 3])))) 27), (b4, bV (.agg ((Value.cells (.agg #[.int .i64 1, .int .u32 2])) ++ (Value.cells (.agg #[.int .i64 2, .int .u32 1])))) 27), (b3, bV (.agg ((Value.cells (.agg #[.int .i64 3, .int .u32 1])) ++ (Value.cells (.agg #[.int .i64 1, .int .u32 1])))) 27), (b2, bV (.agg ((Value.cells (.agg #[.int .i64 0, .int .u32 1])) ++ (Value.cells (.agg #[.int .i64 0, .int .u32 1])))) 27)] [Row none (cellsOf Gm []), TabF] a w) (fun m => 7 - m) 0 (⟨Nat.zero_le _, by exact (h).sub sA⟩) ?_; clear h
  rintro m a w ⟨hi_m, h⟩
  refine gC h (zs (zS (zm rfl (zp (.lss rfl rfl) (zn ?_))))); clear h; intro a w h
  refine cW ?_
  refine Zc h rfl (fun hc33 => ?_) (fun hc33 => ?_)
  ·
   skip
   have hlt_m : m < 7 := dT hc33
   refine gC h (zk (zs (zb (zs (zS (zm rfl (zm rfl (zm rfl (zm rfl (zp (.add rfl rfl) (zp (.binOp rfl rfl (fun _ => Ye _ _ _ _ _ dd)) (zw [_, _, _] rfl call30 (Yn _ _ _) (zp (.unOp rfl (Yp _)) ?_))))))))))))); clear h; intro a w h
   refine Zl h (fun hc43 h => (absurd hc43 dd)) (fun hc43 h => ?_)
   refine gL h (zm rfl (zq 44 rfl rfl (.move rfl) (zq 44 rfl rfl (.mul rfl rfl) (zq 44 rfl rfl (.move rfl) (zq 44 rfl rfl (.mul rfl rfl) ?_))))); clear h; intro a w h
   refine Zv 44 h rfl rfl (Zc3 h (vs := [_, _, _]) rfl call30 (Yn _ _ _) ss dd ?_); clear h; intro a w h
   refine gL h (zq 44 rfl rfl (.unOp rfl (Yp _)) ?_); clear h; intro a w h
   refine Zl h (fun hc50 h => (absurd hc50 dd)) (fun hc50 h => ?_)
   refine gL h (zp (.pickF rfl rfl) (zn ?_)); clear h; intro a w h
   refine cW ?_
   refine Zk h rfl ?_
   refine gC h (zk (zs (zS (zm rfl (zp (.lss rfl rfl) ?_))))); clear h; intro a w h
   refine Zl h (fun hc53 h => ?_) (fun hc53 h => ?_)
   ·
    skip
    refine gL h (zm rfl (zo 54 rfl rfl rfl (zo 54 rfl rfl rfl (zp (.pickT rfl rfl) (zm rfl (zo 58 rfl rfl rfl (zo 58 rfl rfl rfl (zo 58 rfl rfl rfl (zo 58 rfl rfl rfl (zp (.pickT rfl rfl) (zn ?_))))))))))); clear h; intro a w h
    refine cW ?_
    refine Zp h rfl ?_
    refine gC h (ze (zr (zm rfl (zp (Pure1.cast (v' := .int .i64 (((m + 1 : Nat) : Int) - 1)) (.add rfl rfl) (by show Value.int _ _ = Value.int _ _; congr 1; omega)) (za rfl (zn ?_)))))); clear h; intro a w h
    exact ⟨m + 1, ⟨oo, h.sub sA⟩, oo⟩
   ·
    skip
    refine gL h (zm rfl (zq 54 rfl rfl (.move rfl) (zq 54 rfl rfl (.lss rfl rfl) ?_))); clear h; intro a w h
    refine Zl h (fun hc56 h => ?_) (fun hc56 h => ?_)
    ·
     skip
     refine gL h (zp (.pickF rfl rfl) (zm rfl (zo 58 rfl rfl rfl (zo 58 rfl rfl rfl (zo 58 rfl rfl rfl (zo 58 rfl rfl rfl (zp (.pickT rfl rfl) (zn ?_)))))))); clear h; intro a w h
     refine cW ?_
     refine Zp h rfl ?_
     refine gC h (ze (zr (zm rfl (zp (Pure1.cast (v' := .int .i64 (((m + 1 : Nat) : Int) - 1)) (.add rfl rfl) (by show Value.int _ _ = Value.int _ _; congr 1; omega)) (za rfl (zn ?_)))))); clear h; intro a w h
     exact ⟨m + 1, ⟨oo, h.sub sA⟩, oo⟩
    ·
     skip
     refine gL h (zp (.pickF rfl rfl) (zm rfl (zq 58 rfl rfl (.move rfl) (zq 58 rfl rfl (.move rfl) (zq 58 rfl rfl (.add rfl rfl) (zq 58 rfl rfl (.gtr rfl rfl) ?_)))))); clear h; intro a w h
     refine Zl h (fun hc62 h => ?_) (fun hc62 h => ?_)
     ·
      skip
      refine gL h (zp (.pickF rfl rfl) (zn ?_)); clear h; intro a w h
      refine cW ?_
      refine Zp h rfl ?_
      refine gC h (ze (zr (zm rfl (zp (Pure1.cast (v' := .int .i64 (((m + 1 : Nat) : Int) - 1)) (.add rfl rfl) (by show Value.int _ _ = Value.int _ _; congr 1; omega)) (za rfl (zn ?_)))))); clear h; intro a w h
      exact ⟨m + 1, ⟨oo, h.sub sA⟩, oo⟩
     ·
      skip
      refine gL h (zp (.pickF rfl rfl) (zn ?_)); clear h; intro a w h
      refine cW ?_
      refine Zk h rfl ?_
      refine gC h (zk (zS (zm rfl (zm rfl (zm rfl ?_))))); clear h; intro a w h
      refine Zh (Ve h (fs := []) (cs := []) rfl (vs := [_]) rfl call29 (Zhs 1) dd ?_); clear h; intro a w h
      refine gL h (zp (.build [(_, _), (_, _), (_, _)] rfl (Zfc _ _ _ _)) (zB [(_, _)] rfl (Zjo _ _ _ _) fun b69 => ?_)); clear h; intro a w h
      replace h := h.shareAll hS (cellsOf Gm (LKx (((n : Nat) : Int) - 1) (((m : Nat) : Int) - 1) 1)) rfl
      refine gL h (za rfl (zn (zS (zm rfl (zm rfl (zm rfl ?_)))))); clear h; intro a w h
      refine Zh (Ve h (fs := []) (cs := []) rfl (vs := [_]) rfl call29 (Zhs (-2)) dd ?_); clear h; intro a w h
      refine gL h (zp (.build [(_, _), (_, _), (_, _)] rfl (Zfc _ _ _ _)) (zB [(_, _)] rfl (Zjo _ _ _ _) fun b75 => ?_)); clear h; intro a w h
      replace h := h.shareAll hS (cellsOf Gm (LKx (((m : Nat) : Int) - 1) (((n : Nat) : Int) - 1) (-2))) rfl
      refine gL h (za rfl (zn (zs (yD Za [0, 1, 2, 3, 4, 5, 6, 7, 8, 9, 10, 11, 12, 13, 14, 15, 16, 17, 18, 19, 20, 21, 22, 23, 24, 25, 26, 27, 28, 29, 30, 31, 32, 33, 34, 35, 36, 37, 38, 39, 40, 41, 42, 43, 44, 45, 46, 47, 48, 49, 50, 51, 52, 53, 54, 55, 57, 58, 56, 59, 60, 61, 62] (Zb kk) (ym rfl rfl (yd rfl rfl mr isAgg27 sizeOf27 Zy ?_)))))); clear h
      refine yd rfl rfl mr isAgg27 sizeOf27 Zy ?_
      refine yd rfl rfl mr isAgg27 sizeOf27 Zy ?_
      refine yw [_, _, _, _] rfl rfl call31 (Zey (LKx (((n : Nat) : Int) - 1) (((m : Nat) : Int) - 1) 1) _ _ (Zhm oo oo dd) (show (1 : Nat) ≤ 9223372036854775807 by decide) ((0, 1), (0, 1)) ((3, 1), (1, 1)) ((1, 2), (2, 1)) pka pkb pkc) (yp rfl (.unOp rfl (Yp _)) ?_)
      refine Zs (fun hc81  => (absurd hc81 dd)) (fun hc81  => ?_)
      refine ym rfl rfl (yq rfl rfl rfl (.move rfl) (yg rfl rfl rfl rfl mr isAgg27 sizeOf27 Zy ?_))
      refine yg rfl rfl rfl rfl mr isAgg27 sizeOf27 Zy ?_
      refine yg rfl rfl rfl rfl mr isAgg27 sizeOf27 Zy ?_
      refine Qf rfl rfl rfl kk (vs := [_, _, _, _]) rfl call31 (Zey (LKx (((n : Nat) : Int) - 1) (((m : Nat) : Int) - 1) 1) _ _ (Zhm oo oo dd) (show (1 : Nat) ≤ 9223372036854775807 by decide) ((0, 1), (0, 1)) ((0, 1), (0, 1)) ((-1, 1), (5, 3)) pka pka pkd) ss dd ?_
      refine yq rfl rfl rfl (.unOp rfl (Yp _)) ?_
      refine Zs (fun hc88  => (absurd hc88 dd)) (fun hc88  => ?_)
      refine yp rfl (.pickF rfl rfl) (ym rfl rfl (yq rfl rfl rfl (.move rfl) (yq rfl rfl rfl (.move rfl) (yg rfl rfl rfl rfl mr isAgg27 sizeOf27 Zy ?_))))
      refine yg rfl rfl rfl rfl mr isAgg27 sizeOf27 Zy ?_
      refine Qf rfl rfl rfl kk (vs := [_, _, _, _]) rfl call3 (Zjz (LKx (((n : Nat) : Int) - 1) (((m : Nat) : Int) - 1) 1) (LKx (((m : Nat) : Int) - 1) (((n : Nat) : Int) - 1) (-2)) _ _ _ _ (Zhm oo oo dd) (Zhm oo oo dd) (show (1 : Nat) ≤ 9223372036854775807 by decide) (show (1 : Nat) ≤ 9223372036854775807 by decide) ((1, 2), (2, 1)) ((-1, 1), (5, 3)) pkc pkd) ss dd ?_
      refine yq rfl rfl rfl (.unOp rfl (Yp _)) ?_
      refine Zs (fun hc96  => (absurd hc96 dd)) (fun hc96  => ?_)
      refine yp rfl (.pickF rfl rfl) (ym rfl rfl (yq rfl rfl rfl (.move rfl) (yq rfl rfl rfl (.move rfl) (yg rfl rfl rfl rfl mr isAgg27 sizeOf27 Zy ?_))))
      refine yg rfl rfl rfl rfl mr isAgg27 sizeOf27 Zy ?_
      refine yg rfl rfl rfl rfl mr isAgg27 sizeOf27 Zy ?_
      refine Qf rfl rfl rfl kk (vs := [_, _, _, _, _]) rfl call32 (Zhw (LKx (((n : Nat) : Int) - 1) (((m : Nat) : Int) - 1) 1) (LKx (((m : Nat) : Int) - 1) (((n : Nat) : Int) - 1) (-2)) _ _ _ _ (Zhm oo oo dd) (Zhm oo oo dd) (show (1 : Nat) ≤ 9223372036854775807 by decide) (show (1 : Nat) ≤ 9223372036854775807 by decide) ((0, 1), (0, 1)) ((3, 1), (1, 1)) ((-1, 1), (5, 3)) pka pkb pkd) ss dd ?_
      refine yq rfl rfl rfl (.unOp rfl (Yp _)) ?_
      refine Zs (fun hc105  => (absurd hc105 dd)) (fun hc105  => ?_)
      refine yp rfl (.pickF rfl rfl) (ym rfl rfl (yq rfl rfl rfl (.move rfl) (yq rfl rfl rfl (.move rfl) (yg rfl rfl rfl rfl mr isAgg27 sizeOf27 Zy ?_))))
      refine yg rfl rfl rfl rfl mr isAgg27 sizeOf27 Zy ?_
      refine yg rfl rfl rfl rfl mr isAgg27 sizeOf27 Zy ?_
      refine yg rfl rfl rfl rfl mr isAgg27 sizeOf27 Zy ?_
      refine Qf rfl rfl rfl kk (vs := [_, _, _, _, _, _]) rfl call33 (Zhu (LKx (((n : Nat) : Int) - 1) (((m : Nat) : Int) - 1) 1) (LKx (((m : Nat) : Int) - 1) (((n : Nat) : Int) - 1) (-2)) _ _ _ _ (Zhm oo oo dd) (Zhm oo oo dd) (show (1 : Nat) ≤ 9223372036854775807 by decide) (show (1 : Nat) ≤ 9223372036854775807 by decide) ((0, 1), (0, 1)) ((3, 1), (1, 1)) ((1, 2), (2, 1)) ((-1, 1), (5, 3)) pka pkb pkc pkd) ss dd ?_
      refine yq rfl rfl rfl (.unOp rfl (Yp _)) ?_
      refine Zs (fun hc115  => (absurd hc115 dd)) (fun hc115  => ?_)
      refine yp rfl (.pickF rfl rfl) (ym rfl rfl (yq rfl rfl rfl (.move rfl) (yq rfl rfl rfl (.move rfl) (yg rfl rfl rfl rfl mr isAgg27 sizeOf27 Zy ?_))))
      refine yg rfl rfl rfl rfl mr isAgg27 sizeOf27 Zy ?_
      refine yq rfl rfl rfl (.build [(_, _), (_, _)] rfl (Zgc _ _)) ?_
      refine Qf rfl rfl rfl kk (vs := [_, _, _, _, _]) rfl call34 (Zjv (LKx (((n : Nat) : Int) - 1) (((m : Nat) : Int) - 1) 1) (LKx (((m : Nat) : Int) - 1) (((n : Nat) : Int) - 1) (-2)) _ _ _ _ (Zhm oo oo dd) (Zhm oo oo dd) (show (1 : Nat) ≤ 9223372036854775807 by decide) (show (1 : Nat) ≤ 9223372036854775807 by decide) ((3, 1), (1, 1)) ((-1, 1), (5, 3)) pkb pkd (1, 3) dd) ss dd ?_
      refine yq rfl rfl rfl (.unOp rfl (Yp _)) ?_
      refine Zs (fun hc124  => (absurd hc124 dd)) (fun hc124  => ?_)
      refine yp rfl (.pickF rfl rfl) (ym rfl rfl (yq rfl rfl rfl (.move rfl) (yg rfl rfl rfl rfl mr isAgg27 sizeOf27 Zy ?_)))
      refine yg rfl rfl rfl rfl mr isAgg27 sizeOf27 Zy ?_
      refine yg rfl rfl rfl rfl mr isAgg27 sizeOf27 Zy ?_
      refine yg rfl rfl rfl rfl mr isAgg27 sizeOf27 Zy ?_
      refine yq rfl rfl rfl (.move rfl) (yq rfl rfl rfl (.move rfl) ?_)
      refine Znk 59 [60, 61, 62] rfl rfl kk dd ?_ ?_
      ·
       refine Zeu hS rfl rfl rfl [(_, _), (_, _), (_, _), (_, _)] rfl (Zd4 _ _ _ _ _ _ _ _ _ _ _ _ _ _ _ _) (cellsOf Zak PK4) rfl dd ?_; intro b132
       refine Zhe rfl rfl rfl kk (fs := []) (cs := []) rfl (vs := [_]) rfl call29 (Zhs 2) ss dd ?_
       refine Qf rfl rfl rfl kk (vs := [_, _, _, _]) rfl call35 (Kq (LKx (((n : Nat) : Int) - 1) (((m : Nat) : Int) - 1) 1) PK4 _ _ _ _ (Zhm oo oo dd) Qb2 (show (1 : Nat) ≤ 9223372036854775807 by decide) dd (((n : Nat) : Int) - 1) oo oo (2, 1) dd) ss dd ?_
       refine yq rfl rfl rfl (.unOp rfl (Yp _)) ?_
       refine Zs (fun hc137  => (absurd hc137 dd)) (fun hc137  => ?_)
       refine yp rfl (.pickF rfl rfl) (yn ?_); intro a w h
       refine cW ?_
       refine Zk h rfl ?_
       refine gC h (zk (zr (zm rfl (zp (Pure1.cast (v' := .int .i64 (((m + 1 : Nat) : Int) - 1)) (.add rfl rfl) (by show Value.int _ _ = Value.int _ _; congr 1; omega)) (za rfl (zn ?_)))))); clear h; intro a w h
       exact ⟨m + 1, ⟨oo, (h.factsSub (by simp)).sub sA⟩, oo⟩
      ·
       refine Zdr (fs := []) (cs := []) rfl rfl rfl rfl (vs := [_]) rfl call29 (Zhs 2) dd ?_
       refine Zev hS rfl rfl rfl kk [(_, _), (_, _), (_, _), (_, _)] rfl (Zd4 _ _ _ _ _ _ _ _ _ _ _ _ _ _ _ _) (cellsOf Zak PK4) rfl dd ?_; intro b132
       refine Qf rfl rfl rfl kk (vs := [_, _, _, _]) rfl call35 (Kq (LKx (((n : Nat) : Int) - 1) (((m : Nat) : Int) - 1) 1) PK4 _ _ _ _ (Zhm oo oo dd) Qb2 (show (1 : Nat) ≤ 9223372036854775807 by decide) dd (((n : Nat) : Int) - 1) oo oo (2, 1) dd) ss dd ?_
       refine yq rfl rfl rfl (.unOp rfl (Yp _)) ?_
       refine Zs (fun hc137  => (absurd hc137 dd)) (fun hc137  => ?_)
       refine yp rfl (.pickF rfl rfl) (yn ?_); intro a w h
       refine cW ?_
       refine Zk h rfl ?_
       refine gC h (zk (zr (zm rfl (zp (Pure1.cast (v' := .int .i64 (((m + 1 : Nat) : Int) - 1)) (.add rfl rfl) (by show Value.int _ _ = Value.int _ _; congr 1; omega)) (za rfl (zn ?_)))))); clear h; intro a w h
       exact ⟨m + 1, ⟨oo, (h.factsSub (by simp)).sub sA⟩, oo⟩
  ·
   skip
   have heq_m : 7 = m := dF hc33
   subst heq_m
   refine gC h (ze (zr (zm rfl (zp (Pure1.cast (v' := .int .i64 (((n + 1 : Nat) : Int) - 1)) (.add rfl rfl) (by show Value.int _ _ = Value.int _ _; congr 1; omega)) (za rfl (zn ?_)))))); clear h; intro a w h
   exact ⟨n + 1, ⟨oo, h.sub sA⟩, oo⟩
 ·
  skip
  have heq_n : 7 = n := dF hc29
  subst heq_n
  refine gC h (ze (zs (yD Za [0, 1, 2, 3, 4, 5, 6, 7, 8, 9, 11, 10, 12, 13, 14, 15, 16, 17, 18] (Zb kk) (yw [_, _, _] rfl rfl call30 (Yn _ _ _) ?_)))); clear h
  refine Zs (fun hc139  => ?_) (fun hc139  => (absurd hc139 dd))
  refine ym rfl rfl ?_
  refine Qf rfl rfl rfl kk (vs := [_, _, _]) rfl call30 (Yn _ _ _) ss dd ?_
  refine Zs (fun hc141  => ?_) (fun hc141  => (absurd hc141 dd))
  refine yp rfl (.pickT rfl rfl) (ym rfl rfl ?_)
  refine Qf rfl rfl rfl kk (vs := [_, _, _]) rfl call30 (Yn _ _ _) ss dd ?_
  refine Zs (fun hc144  => ?_) (fun hc144  => (absurd hc144 dd))
  refine yp rfl (.pickT rfl rfl) (ym rfl rfl (yg rfl rfl rfl rfl mr isAgg27 sizeOf27 Zy ?_))
  refine yg rfl rfl rfl rfl mr isAgg27 sizeOf27 Zy ?_
  refine yq rfl rfl rfl (.move rfl) ?_
  refine Znk 12 [13, 14, 15, 16, 17, 18] rfl rfl kk dd ?_ ?_
  ·
   refine Zeu hS rfl rfl rfl [(_, _), (_, _)] rfl (Zjl _ _ _ _ _ _ _ _) (cellsOf Zak PK2) rfl dd ?_; intro b149
   refine Zhe rfl rfl rfl kk (fs := []) (cs := []) rfl (vs := [_]) rfl call29 (Zhs 1) ss dd ?_
   refine Qf rfl rfl rfl kk (vs := [_, _, _, _]) rfl call35 (Kq [] PK2 none _ 0 _ (fun _ h => nomatch h) Qb3 dd dd 0 dd dd (1, 1) dd) ss dd ?_
   refine Zs (fun hc152  => ?_) (fun hc152  => (absurd hc152 dd))
   refine yp rfl (.pickT rfl rfl) (ym rfl rfl ?_)
   refine Qd rfl rfl rfl kk (vs := []) rfl call7 (Ja) dd ?_
   refine yp rfl (.pickT rfl rfl) (yp rfl (.assign rfl) (yn (zt ?_))); intro a w h
   exact Zao h
  ·
   refine Zdr (fs := []) (cs := []) rfl rfl rfl rfl (vs := [_]) rfl call29 (Zhs 1) dd ?_
   refine Zev hS rfl rfl rfl kk [(_, _), (_, _)] rfl (Zjl _ _ _ _ _ _ _ _) (cellsOf Zak PK2) rfl dd ?_; intro b149
   refine Qf rfl rfl rfl kk (vs := [_, _, _, _]) rfl call35 (Kq [] PK2 none _ 0 _ (fun _ h => nomatch h) Qb3 dd dd 0 dd dd (1, 1) dd) ss dd ?_
   refine Zs (fun hc152  => ?_) (fun hc152  => (absurd hc152 dd))
   refine yp rfl (.pickT rfl rfl) (ym rfl rfl ?_)
   refine Qd rfl rfl rfl kk (vs := []) rfl call7 (Ja) dd ?_
   refine yp rfl (.pickT rfl rfl) (yp rfl (.assign rfl) (yn (zt ?_))); intro a w h
   exact Zao h
end
end Go.Proofs.YtddhlkfpdjmplaaGreatDoor
