/- Walks of functions. By an AI agent. -/
import Derived.Test.YtgkicbaomcmfoaaGreatDoorRefe5
set_option linter.unusedVariables false
set_option linter.unusedSimpArgs false
set_option maxRecDepth 4000
namespace Go.Proofs.YtgkicbaomcmfoaaGreatDoor
open Go Go.Proofs Go.Fx Tryz
attribute [local irreducible] Oper.wp Code.wp wpList Fx.Head wpOp
section
theorem Zpj {l : List FT} {p : List Tm} (hl : l.length = 169) (he : Eqv (pol (xs l)) p) (hp : Nrm p) : dgX (xs l) 169 = Yz p := by
 rw [Qat (by rw [Zha]; exact hl), he.eq, Zd1 hp]
theorem Qcb {n m : Nat} : Ze7 n m > 0 ↔ m < n := by unfold Ze7; split <;> (try split) <;> omega
theorem Qb9 {n m : Nat} : Ze7 n m < 0 ↔ n < m := by unfold Ze7; split <;> (try split) <;> omega
theorem Qd0 {l : List FT} {p : List Tm} {n : Nat} (hl : l.length = 169) (he : Eqv (pol (xs l)) p) (hg : Gd p) (hn : n ≤ 12) (hs : n * Qf p ≤ 16384) (h : ¬ (n : Int) * Yz p > 12) : ∃ d K, d ≤ 12 ∧ n * d ≤ 12 ∧ K ≤ 6400 ∧ Tb d K (xs l) := by
 rcases powOk.ds hg hn hs h with h0 | ⟨d, h1, h2, h3⟩
 · subst h0; exact ⟨12, 6400, by decide, oo, by decide, Zhj hl he hg⟩
 · exact ⟨d, 513, h1, h2, by decide, Qdc hl he h3⟩
theorem mul_bd {n : Nat} {d : Int} (hn : n ≤ 12) (h1 : -1 ≤ d) (h2 : d ≤ 12) : -12 ≤ (n : Int) * d ∧ (n : Int) * d ≤ 144 := by
 have h3 : (n : Int) * d ≤ (n : Int) * 12 := Int.mul_le_mul_of_nonneg_left h2 oo
 have h4 : (n : Int) * (-1) ≤ (n : Int) * d := Int.mul_le_mul_of_nonneg_left h1 oo
 omega
theorem Zld (p : List Tm) : -1 ≤ Yz p := by unfold Yz; split <;> omega
set_option maxHeartbeats 1000000 in
theorem Zn4 (s : ByteArray) (ins : Ins) (k o : Nat) (hk : k ≤ s.size) (hs : s.size ≤ 4096) (hI : InsR s ins o) : Ctr Tryz.prog 142 [.string s, .int .i64 ((k : Nat) : Int), .int .i64 ((o : Nat) : Int)] [] (Zcm s (Ye s ins k)) := by
 refine fn_intro func142 rfl ntmps142 nb ?_
 intro S w0 a hS h
 refine gC h (zS (za rfl (za rfl (zz Gv fun b8 => zn (zS (zm rfl (zm rfl (zm rfl (zf [_, _, _] rfl call190 (Qfx s ins k o hk hs hI) ?_))))))))); rintro v24 Ψ24 ⟨b24, l24, k24, rfl, hr24, rfl⟩
 refine zm rfl (zp (.eX rfl) (zp (.eX rfl) (zp (.eX rfl) (zz Gv fun b11 => za rfl (za rfl (zt' rfl rfl Zl uu sizeOf68 rfl nb rfl ?_))))))
 refine zn (zS (zm rfl (zm rfl (zv [_, _] rfl call64 (Gl s k24 hr24.le hs) (za rfl (zn (zs (zS (zp (.fA rfl Zcd) (zd rfl mr isAgg26 sizeOf26 Jn ?_))))))))))
 refine zp (.neq rfl rfl) ?_; intro a w h
 refine Zg h (fun hc33 h => ?_) (fun hc33 h => ?_)
 ·
  skip
  obtain ⟨fe, hf24⟩ := Zjd (r := Vq s ins k) (fun e9 => by rw [e9] at hc33; exact absurd hc33 dd)
  refine gL h (zm rfl (zo 34 rfl rfl rfl (zo 34 rfl rfl rfl (zo 34 rfl rfl rfl (zo 34 rfl rfl rfl (zp (.pickT rfl rfl) (zn ?_))))))); clear h; intro a w h
  refine cW ?_
  refine Zj h rfl ?_
  refine gC h (zs (yD Za [0, 1, 2, 3, 4, 5] (Zf kk) (ym rfl rfl (ym rfl rfl (yd rfl rfl mr isAgg68 sizeOf68 Zh ?_))))); clear h
  refine yp rfl (.assign rfl) (yp rfl (.assign rfl) (yt rfl rfl rfl Zl uu sizeOf68 rfl nb rfl ?_))
  refine yn (zt ?_); intro a w h
  exact Zy h (Qz h rfl (.tmp rfl) (.tmp rfl) (.cell rfl mr isAgg68 sizeOf68 Zh)) (Ψ := [Row (some ⟨b24, 0, none⟩) (cellsOf Jm l24), AllF l24]) (Zak hf24 (Zm8 hf24) hr24.len (hr24.cod _ hf24) hr24.le) ss
 ·
  skip
  obtain ⟨p24, j24, hf24⟩ := Zs5 (r := Vq s ins k) (by simpa using hc33) hr24.cod
  obtain ⟨he24, hg24, hk24, hj24, hb24⟩ := hr24.ok _ _ hf24
  have hbl24 := Ja hj24
  refine gL h (zm rfl (zq 34 rfl rfl (.move rfl) (zq 34 rfl rfl (.move rfl) ?_))); clear h; intro a w h
  refine Zo 34 h rfl rfl (Za0 h (vs := [_, _, _]) rfl call100 (Zfe s (Zm s k24) 94 (by have := Ja hr24.le; omega) hs) dd ?_); clear h; intro a w h
  refine Zg h (fun hc37 h => ?_) (fun hc37 h => ?_)
  ·
   skip
   have ht94 : Zn s 94 j24 = true := by rw [Qt hj24, ← hb24]; exact hc37
   have hlt94 := Zz hj24 ht94
   rw [← hb24] at hlt94
   have hnk : Zm s k24 + 1 ≤ s.size := hlt94
   refine gL h (zq 34 rfl rfl (.unOp rfl (Ji _)) (zp (.pickF rfl rfl) (zn ?_))); clear h; intro a w h
   refine cW ?_
   refine Ze h rfl ?_
   refine gC h (zk (zS (zm rfl (zm rfl (zp (.pN ((Zm s k24) + 1) (.add rfl rfl)) (zf [_, _] rfl call145 (Zyf s (Zm s k24 + 1) hnk hs) ?_)))))); rintro v47 Ψ47 ⟨ad47, c47, rfl, hle47, rfl⟩
   have hnd := nm_dg hnk hs
   refine zm rfl (zp (.eX rfl) (zp (.eX rfl) (zp (.eX rfl) (zp (.eX rfl) (zz Gv fun b16 => za rfl (za rfl (za rfl (zt' rfl rfl Zl uu sizeOf68 rfl nb rfl ?_))))))))
   refine zn (zs (zS (zp (.fA rfl Zcd) (zd rfl mr isAgg26 sizeOf26 Jn ?_))))
   refine zp (.neq rfl rfl) ?_; intro a w h
   refine Zg h (fun hc54 h => ?_) (fun hc54 h => ?_)
   ·
    skip
    have hne : nmE s (Zm s k24 + 1) ≠ 0 := fun e9 => by rw [e9] at hc54; exact absurd hc54 dd
    obtain ⟨fn, hn47⟩ : ∃ f, Vy s (Zm s k24 + 1) = .error f := by
     rcases hn : Vy s (Zm s k24 + 1) with f | ⟨n, a, b⟩
     · exact ⟨f, rfl⟩
     · exact absurd (Zo0 hn).2.2.2.1 hne
    refine wpList_nil ?_
    refine cW ?_
    refine Zj h rfl ?_
    refine gC h (zs (yD Za [0, 1, 2, 3, 4, 5] (Zf kk) (ym rfl rfl (ym rfl rfl (yd rfl rfl mr isAgg68 sizeOf68 Zh ?_))))); clear h
    refine yp rfl (.assign rfl) (yp rfl (.assign rfl) (yt rfl rfl rfl Zl uu sizeOf68 rfl nb rfl ?_))
    refine yn (zt ?_); intro a w h
    exact Zy h (Qz h rfl (.tmp rfl) (.tmp rfl) (.cell rfl mr isAgg68 sizeOf68 Zh)) (Ψ := [Row (some ⟨b24, 0, none⟩) (cellsOf Jm l24), AllF l24]) (Zmd hn47 (Zjq hf24 ht94 (by rw [← hb24]; exact hn47)) hr24.len hr24.le) ss
   ·
    skip
    have hne : nmE s (Zm s k24 + 1) = 0 := by simpa using hc54
    obtain ⟨n, na, mb, hn47⟩ : ∃ n a b, Vy s (Zm s k24 + 1) = .ok (n, a, b) := by
     rcases hn : Vy s (Zm s k24 + 1) with f | ⟨n, a, b⟩
     · have h1 := (Zjl hn).2.2.2.1; rw [(Zgw hn).1] at h1; rw [h1] at hne; exact absurd (show (4 : Int) = 0 from hne) dd
     · exact ⟨n, a, b, rfl⟩
    obtain ⟨z1, z2, z3, z4, z5⟩ := Zo0 hn47
    have hN47 := Gr hnk hn47
    have hnj : Vy s (Zm s j24 + 1) = .ok (n, na, mb) := by rw [← hb24]; exact hn47
    refine wpList_nil ?_
    refine cW ?_
    refine Ze h rfl ?_
    refine gC h (zk (zs (zS (zm rfl (zf [_] rfl call189 (Zn0 12 oo) ?_))))); rintro v59 Ψ59 ⟨ad59, c59, rfl, hle59, rfl⟩
    have hl59 := dg5 12 oo
    refine zw [_, _] rfl call191 (Zj5 _ _ _ _ (nmN s (Zm s k24 + 1)) 12 oo oo) (zp (.gtr rfl rfl) ?_); intro a w h
    refine Zg h (fun hc61 h => ?_) (fun hc61 h => ?_)
    ·
     skip
     have h12 : 12 < n := by rw [z1] at hc61; exact Qcb.1 (of_decide_eq_true hc61)
     refine wpList_nil ?_
     refine cW ?_
     refine Zj h rfl ?_
     refine gC h (zS (zm rfl (zm rfl (zm rfl (zp (.build [(_, _), (_, _)] rfl (Xw _ _)) (za rfl (za rfl (zt' rfl rfl Zl uu sizeOf68 rfl nb rfl ?_)))))))); clear h; intro a w h
     refine wpList_nil (wp_ret ?_)
     exact Zy h (Qz h rfl (.tmp rfl) (.tmp rfl) (.cell rfl mr isAgg68 sizeOf68 Zh)) (Ψ := [Row (some ⟨b24, 0, none⟩) (cellsOf Jm l24), AllF l24]) (Xo (Zc5 hf24 ht94 hnj (.inl h12) |>.trans (by rw [hb24])) hr24.len (by unfold Cod; decide) hr24.le) ss
    ·
     skip
     have hn12 : n ≤ 12 := by
      rw [z1] at hc61
      have h9 := of_decide_eq_false hc61
      exact Nat.le_of_not_lt (fun e9 => h9 (Qcb.2 e9))
     refine wpList_nil ?_
     refine cW ?_
     refine Ze h rfl ?_
     refine gC h (zk (zS (za rfl (zn (zs (zb ?_)))))); clear h; intro a w h
     refine Zi (fun (i : Nat) a w => i ≤ n ∧ St 108 S w0 [(6, .slice none 0 0), (7, .int .i64 0), (8, pB b8), (9, .slice (some ⟨b24, 0, none⟩) 169 169), (10, nI k24), (12, nI (Zm s k24)), (13, .slice ad47 ((dg (nmN s (Zm s k24 + 1))).length) c47), (15, nI (nmB s (Zm s k24 + 1))), (17, nI i)] [(b16, bV (Zdr ((nmE s (Zm s k24 + 1), ((nmI s (Zm s k24 + 1) : Nat) : Int)))) 68), (b11, bV (Zdr ((rcE (Vq s ins k), ((rcI (Vq s ins k) : Nat) : Int)))) 68), (b8, bV (Zdr ((0, 0))) 68)] [Row ad47 (List.map Qe (dg (nmN s (Zm s k24 + 1)))), Row (some ⟨b24, 0, none⟩) (cellsOf Jm l24), AllF l24] a w) (fun i => n - i) (0) (⟨Nat.zero_le _, by exact (h.factsSub (by simp)).sub (Zfn ⟨rfl, rfl, rfl, rfl, rfl, rfl, rfl, rfl, rfl, trivial⟩)⟩) ?_; clear h
     rintro i a w ⟨hi, h⟩
     refine gC h (zs (zS (zm rfl (zp (Pure1.cast (v' := .int .u64 ((i : Nat) : Int)) (.convert rfl (Zxa _)) (by rw [wrap_u64 _ oo oo])) (zf [_] rfl call189 (Zn0 i oo) ?_))))); rintro v68 Ψ68 ⟨ad68, c68, rfl, hle68, rfl⟩
     have hl68 := dg5 i oo
     refine zm rfl (zw [_, _] rfl call191 (Zj5 _ _ _ _ i (nmN s (Zm s k24 + 1)) oo oo) (zp (.lss rfl rfl) ?_)); intro a w h
     refine Zg h (fun hc71 h => ?_) (fun hc71 h => ?_)
     ·
      skip
      have hlt_i : i < n := by rw [z1] at hc71; exact Qb9.1 (of_decide_eq_true hc71)
      refine wpList_nil ?_
      refine cW ?_
      refine Zj h rfl ?_
      refine gC h (zk (zb (zr (zm rfl (zp (.pN (i + 1) (.add rfl rfl)) (za rfl (zn ?_))))))); clear h; intro a w h
      exact ⟨i + 1, ⟨hlt_i, by exact (h.factsSub (by simp)).sub sA⟩, oo⟩
     ·
      skip
      have hin : i = n := by
       rw [z1] at hc71
       have h9 := of_decide_eq_false hc71
       have : ¬ i < n := fun e9 => h9 (Qb9.2 e9)
       omega
      have hdl := Zld p24
      have hdh := Zbd hg24.pq.deg
      obtain ⟨hm1, hm2⟩ := mul_bd (n := i) oo hdl hdh
      have hsz := hg24.size
      have hsm := Nat.mul_le_mul (show i ≤ 12 by omega) hsz
      refine wpList_nil ?_
      refine cW ?_
      refine Ze h rfl ?_
      refine gC h (ze (zs (zS (zm rfl (zm rfl (zw [_] rfl call143 (Zit b24 l24 hr24.len) ?_)))))); clear h; intro a w h
      rw [Zpj hr24.len he24 hg24.nrm] at h
      refine gL h (zp (.mul rfl rfl) (zp (.gtr rfl rfl) ?_)); clear h; intro a w h
      refine Zg h (fun hc78 h => ?_) (fun hc78 h => ?_)
      ·
       skip
       have hdg : (n : Int) * Yz p24 > 12 := by rw [← hin]; exact of_decide_eq_true hc78
       refine wpList_nil ?_
       refine cW ?_
       refine Zj h rfl ?_
       refine gC h (zS (zm rfl (zm rfl (zm rfl (zp (.build [(_, _), (_, _)] rfl (Xw _ _)) (za rfl (za rfl (zt' rfl rfl Zl uu sizeOf68 rfl nb rfl ?_)))))))); clear h; intro a w h
       refine wpList_nil (wp_ret ?_)
       exact Zy h (Qz h rfl (.tmp rfl) (.tmp rfl) (.cell rfl mr isAgg68 sizeOf68 Zh)) (Ψ := [Row (some ⟨b24, 0, none⟩) (cellsOf Jm l24), AllF l24]) (Xo (Zc5 hf24 ht94 hnj (.inr hdg) |>.trans (by rw [hb24])) hr24.len (by unfold Cod; decide) hr24.le) ss
      ·
       skip
       have hdg : ¬ (n : Int) * Yz p24 > 12 := by rw [← hin]; exact of_decide_eq_false hc78
       refine wpList_nil ?_
       refine cW ?_
       refine Ze h rfl ?_
       refine gC h (zk (zs (zS (zm rfl (zm rfl (zw [_] rfl call102 (Zf5 b24 l24 (Zhj hr24.len he24 hg24)) ?_)))))); clear h; intro a w h
       rw [Zdh he24 hg24.nrm] at h
       refine gL h (zp (.pN (i * (Qf p24)) (.mul rfl rfl)) (zp (.gtr rfl rfl) ?_)); clear h; intro a w h
       refine Zg h (fun hc87 h => ?_) (fun hc87 h => ?_)
       ·
        skip
        have hsl : n * Qf p24 > 16384 := by rw [← hin]; have := of_decide_eq_true hc87; omega
        refine wpList_nil ?_
        refine cW ?_
        refine Zj h rfl ?_
        refine gC h (zS (zm rfl (zm rfl (zm rfl (zp (.build [(_, _), (_, _)] rfl (Xw _ _)) (za rfl (za rfl (zt' rfl rfl Zl uu sizeOf68 rfl nb rfl ?_)))))))); clear h; intro a w h
        refine wpList_nil (wp_ret ?_)
        exact Zy h (Qz h rfl (.tmp rfl) (.tmp rfl) (.cell rfl mr isAgg68 sizeOf68 Zh)) (Ψ := [Row (some ⟨b24, 0, none⟩) (cellsOf Jm l24), AllF l24]) (Xo (Zm7 hf24 ht94 hnj oo hsl |>.trans (by rw [hb24])) hr24.len (by unfold Cod; decide) hr24.le) ss
       ·
        skip
        have hsl : ¬ n * Qf p24 > 16384 := by rw [← hin]; have := of_decide_eq_false hc87; omega
        subst hin
        refine wpList_nil ?_
        refine cW ?_
        refine Ze h rfl ?_
        refine gC h (zk (zS (zm rfl (zm rfl ?_)))); clear h; intro a w h
        obtain ⟨dgr, KK, hd12, hnd12, hK, hTb⟩ := Qd0 hr24.len he24 hg24 hn12 oo oo
        refine gL h (zf [_, _] rfl call192 (C_tPow b24 l24 dgr KK hTb hd12 i oo hnd12 oo) ?_); rintro v95 Ψ95 ⟨b95, l95, rfl, ht95, he95, rfl⟩
        refine zm rfl (zp (.eX rfl) (zp (.eX rfl) (za rfl (za rfl (zn (zs (zS (zm rfl (zp (.neq rfl rfl) ?_))))))))); intro a w h
        refine Zg h (fun hc99 h => (absurd hc99 dd)) (fun hc99 h => ?_)
        refine wpList_nil ?_
        refine cW ?_
        refine Ze h rfl ?_
        refine gC h (zk (zS (zm rfl (zm rfl (zp (.build [] rfl (Zd8)) (za rfl (za rfl (zt' rfl rfl Zl uu sizeOf68 rfl nb rfl ?_)))))))); clear h; intro a w h
        refine wpList_nil (wp_ret ?_)
        rw [z3] at h
        exact Zy h (Qz h rfl (.tmp rfl) (.tmp rfl) (.cell rfl mr isAgg68 sizeOf68 Zh)) (Ψ := [Row (some ⟨b95, 0, none⟩) (cellsOf Jm l95), AllF l95]) (Zal (Zm5 hf24 ht94 hnj oo hsl) ht95.lenl (he95.trans ((Eqv.pow he24 i).trans (Eqv.nrm _).symm)) (hg24.pow oo oo hdg) hN47.le hN47.le rfl) ss
  ·
   skip
   have ht94 : Zn s 94 j24 = false := by rw [Qt hj24, ← hb24]; exact hc37
   refine gL h (zq 34 rfl rfl (.unOp rfl (Ji _)) (zp (.pickF rfl rfl) (zn ?_))); clear h; intro a w h
   refine cW ?_
   refine Zj h rfl ?_
   refine gC h (zs (yD Za [0, 1, 2, 3, 4, 5] (Zf kk) (ym rfl rfl (ym rfl rfl (yd rfl rfl mr isAgg68 sizeOf68 Zh ?_))))); clear h
   refine yp rfl (.assign rfl) (yp rfl (.assign rfl) (yt rfl rfl rfl Zl uu sizeOf68 rfl nb rfl ?_))
   refine yn (zt ?_); intro a w h
   exact Zy h (Qz h rfl (.tmp rfl) (.tmp rfl) (.cell rfl mr isAgg68 sizeOf68 Zh)) (Ψ := [Row (some ⟨b24, 0, none⟩) (cellsOf Jm l24), AllF l24]) (Zjf hf24 (Zm6 hf24 ht94) hr24.len he24 hg24 hr24.le hbl24 (by rw [hb24, Kr])) ss
end
section
theorem Qa7 {n m : Nat} (h : n < 10 ^ m) : Je n ≤ 4 * m := by
 refine Zd7 (Nat.lt_of_lt_of_le h ?_)
 rw [Nat.pow_mul]
 exact Nat.pow_le_pow_left dd _
theorem Qd9 {s : ByteArray} {k n a b : Nat} (hk : k ≤ s.size) (hs : s.size ≤ 4096) (h : Vy s k = .ok (n, a, b)) : Je n ≤ 16384 ∧ Jr ((n : Int) : Rat) ≤ 426 := by
 have hN := Gr hk h
 have h1 := hN.lt10
 have h2 := hN.le
 have := Qa7 h1
 exact ⟨oo, Zes (hN.big hs) dd⟩
structure TmI (s : ByteArray) (ins : Ins) (k : Nat) (l : List FT) (e : Nat) : Prop where
 len : l.length = 169
 le : e ≤ s.size
 bad : ∀ f, Ye s ins k = .error f → True
 good : ∀ q, Ye s ins k = .ok q → ∃ p j fu, Ke s ins k = Vx s ins fu p j ∧ s.size - Zm s j < fu ∧ Eqv (pol (xs l)) p ∧ Gd p ∧ j ≤ s.size ∧ Zm s e = Zm s j
theorem TmI.first {s : ByteArray} {ins : Ins} {k e : Nat} {l : List FT} (hr : RelR s (Ye s ins k) l e) : TmI s ins k l e :=
 ⟨hr.len, hr.le, fun _ _ => trivial, fun ⟨p, j⟩ h => by
  obtain ⟨h1, h2, h3, h4, h5⟩ := hr.ok p j h
  have := Xd s j
  exact ⟨p, j, s.size - j + 1, Zqa h, oo, h1, h2, h4, h5⟩⟩
theorem TmI.next {s : ByteArray} {ins : Ins} {k e b fu : Nat} {l : List FT} {p : List Tm} {q : List Tm × Nat} (hq : Ye s ins k = .ok q) (hl : l.length = 169) (he : e ≤ s.size) (ht : Ke s ins k = Vx s ins fu p b) (hf : s.size - Zm s b < fu) (hE : Eqv (pol (xs l)) p) (hg : Gd p) (hb : b ≤ s.size) (h5 : Zm s e = Zm s b) : TmI s ins k l e :=
 ⟨hl, he, fun _ _ => trivial, fun _ _ => ⟨p, b, fu, ht, hf, hE, hg, hb, h5⟩⟩
theorem Zey {a fu : Nat} (h : a < fu) : ∃ f, fu = f + 1 := ⟨fu - 1, oo⟩
set_option maxHeartbeats 2000000 in
theorem Qfm (s : ByteArray) (ins : Ins) (k o : Nat) (hk : k ≤ s.size) (hs : s.size ≤ 4096) (hI : InsR s ins o) (hG : InsG s ins) : Ctr Tryz.prog 101 [.string s, .int .i64 ((k : Nat) : Int), .int .i64 ((o : Nat) : Int)] [] (Zcm s (Ke s ins k)) := by
 refine fn_intro func101 rfl ntmps101 nb ?_
 intro S w0 a hS h
 refine gC h (zS (za rfl (za rfl (zz Gv fun b8 => zn (zS (zm rfl (zm rfl (zm rfl (zf [_, _, _] rfl call142 (Zn4 s ins k o hk hs hI) ?_))))))))); rintro v28 Ψ28 ⟨b28, l28, k28, rfl, hr28, rfl⟩
 refine zm rfl (zp (.eX rfl) (zp (.eX rfl) (zp (.eX rfl) (zz Gv fun b11 => za rfl (za rfl (zt' rfl rfl Zl uu sizeOf68 rfl nb rfl ?_)))))); intro a w h
 refine wpList_nil (wp_seq (wp_block ?_))
 refine Zi (fun (i : Nat) a w => ∃ (bT : Nat) (lT : List FT) (eT : Nat), (i = Zm s eT ∧ TmI s ins k lT eT) ∧ St 151 S w0 [(0, .string s), (2, nI o), (8, pB b8), (9, .slice (some ⟨bT, 0, none⟩) 169 169), (10, nI eT), (11, pB b11), (31, Zdr ((rcE (Ye s ins k), ((rcI (Ye s ins k) : Nat) : Int))))] [(b11, bV (Zdr ((rcE (Ye s ins k), ((rcI (Ye s ins k) : Nat) : Int)))) 68), (b8, bV (Zdr ((0, 0))) 68)] [Row (some ⟨bT, 0, none⟩) (cellsOf Jm lT), AllF lT] a w) (fun i => s.size + 1 - i) (Zm s k28) (⟨b28, l28, k28, ⟨rfl, TmI.first hr28⟩, by exact (h.factsSub (by simp)).sub sA⟩) ?_; clear h
 rintro i a w ⟨bT, lT, eT, ⟨hi, hT⟩, h⟩
 have hlT := hT.len
 have heT := hT.le
 have hblT := Ja heT
 refine gC h (zs (zS (zp (.fA rfl Zcd) (zd rfl mr isAgg26 sizeOf26 Jn ?_))))
 refine zp (.eql rfl rfl) ?_; intro a w h
 refine Zg h (fun hc34 h => ?_) (fun hc34 h => ?_)
 ·
  skip
  obtain ⟨p28, j28, hf28⟩ := Zs5 (r := Ye s ins k) (by simpa using hc34) hr28.cod
  obtain ⟨pT, jT, fu, hti, hfu, hET, hgT, hjT, hbT⟩ := hT.good _ hf28
  have hszT := hgT.size
  have hdl := Zld pT
  have hdh := Zbd hgT.pq.deg
  refine wpList_nil ?_
  refine cW ?_
  refine Zj h rfl ?_
  refine gC h (zk (zb (zS (zm rfl (zm rfl (zv [_, _] rfl call64 (Gl s eT heT hs) (za rfl (zn (zb (zS (zm rfl (zm rfl (zv [_, _, _] rfl call100 (Zfe s (Zm s eT) 42 (by have := Ja heT; omega) hs) ?_))))))))))))); clear h; intro a w h
  refine Zg h (fun hc44 h => ?_) (fun hc44 h => ?_)
  ·
   skip
   have ht42 : Zn s 42 jT = true := by rw [Qt hjT, ← hbT]; exact hc44
   have hlt42 := Zz hjT ht42
   rw [← hbT] at hlt42
   have hnk : Zm s eT + 1 ≤ s.size := hlt42
   obtain ⟨fv, hfv⟩ := Zey hfu
   subst hfv
   refine gL h (za rfl (zn ?_)); clear h; intro a w h
   refine cW ?_
   refine Zj h rfl ?_
   refine gC h (zS (zm rfl (zm rfl (zp (.pN ((Zm s eT) + 1) (.add rfl rfl)) (zm rfl (zf [_, _, _] rfl call142 (Zn4 s ins (Zm s eT + 1) o hnk hs hI) ?_)))))); rintro v50 Ψ50 ⟨b50, l50, k50, rfl, hr50, rfl⟩
   refine zm rfl (zp (.eX rfl) (zp (.eX rfl) (zp (.eX rfl) (zz Gv fun b15 => za rfl (za rfl (zt' rfl rfl Zl uu sizeOf68 rfl nb rfl ?_))))))
   refine zn (zs (zS (zp (.fA rfl Zcd) (zd rfl mr isAgg26 sizeOf26 Jn ?_))))
   refine zp (.neq rfl rfl) ?_; intro a w h
   refine Zg h (fun hc56 h => ?_) (fun hc56 h => ?_)
   ·
    skip
    obtain ⟨fe, hf50⟩ := Zjd (r := Ye s ins (Zm s eT + 1)) (fun e9 => by rw [e9] at hc56; exact absurd hc56 dd)
    refine wpList_nil ?_
    refine cW ?_
    refine Zj h rfl ?_
    refine gC h (zs (yD Za [0, 1, 2, 3, 4, 5] (Zf kk) (ym rfl rfl (ym rfl rfl (yd rfl rfl mr isAgg68 sizeOf68 Zh ?_))))); clear h
    refine yp rfl (.assign rfl) (yp rfl (.assign rfl) (yt rfl rfl rfl Zl uu sizeOf68 rfl nb rfl ?_))
    refine yn (zt ?_); intro a w h
    exact Zy h (Qz h rfl (.tmp rfl) (.tmp rfl) (.cell rfl mr isAgg68 sizeOf68 Zh)) (Ψ := [Row (some ⟨bT, 0, none⟩) (cellsOf Jm lT), AllF lT]) (Zak hf50 (hti.trans (Zi9 ht42 (by rw [← hbT]; exact hf50))) hlT (hr50.cod _ hf50) heT) ss
   ·
    skip
    obtain ⟨p50, j50, hf50⟩ := Zs5 (r := Ye s ins (Zm s eT + 1)) (by simpa using hc56) hr50.cod
    obtain ⟨he50, hg50, hk50, hj50, hb50⟩ := hr50.ok _ _ hf50
    have hfj : Ye s ins (Zm s jT + 1) = .ok (p50, j50) := by rw [← hbT]; exact hf50
    obtain ⟨_, hpr, _⟩ := Zbu hs hG hnk hf50
    have hge50 := Xd s j50
    have hsz50 := hg50.size
    have hdl5 := Zld p50
    have hdh5 := Zbd hg50.pq.deg
    refine wpList_nil ?_
    refine cW ?_
    refine Ze h rfl ?_
    refine gC h (zk (zS (zm rfl (zw [_] rfl call143 (Zit bT lT hlT) ?_)))); clear h; intro a w h
    rw [Zpj hlT hET hgT.nrm] at h
    refine gL h (zm rfl (zw [_] rfl call143 (Zit b50 l50 hr50.len) ?_)); clear h; intro a w h
    rw [Zpj hr50.len he50 hg50.nrm] at h
    refine gL h (za rfl (za rfl (zn (zs (zS (zm rfl (zp (.geq rfl rfl) ?_))))))); clear h; intro a w h
    refine Zg h (fun hc65 h => ?_) (fun hc65 h => ?_)
    focus
     have hm1 : Yz pT ≥ 0 := of_decide_eq_true hc65
     refine gL h (zm rfl (zq 66 rfl rfl (.move rfl) (zq 66 rfl rfl (.geq rfl rfl) ?_))); clear h; intro a w h
     refine Zg h (fun hc68 h => ?_) (fun hc68 h => ?_)
     focus
      have hm2 : Yz p50 ≥ 0 := of_decide_eq_true hc68
      refine gL h (zp (.pickT rfl rfl) (zm rfl (zq 70 rfl rfl (.move rfl) (zq 70 rfl rfl (.move rfl) (zq 70 rfl rfl (.add rfl rfl) (zq 70 rfl rfl (.gtr rfl rfl) ?_)))))); clear h; intro a w h
      refine Zg h (fun hc74 h => ?_) (fun hc74 h => ?_)
      ·
       skip
       have hmok : ¬ mulOk pT p50 := by have := of_decide_eq_true hc74; unfold mulOk; omega
       refine gL h (zp (.pickT rfl rfl) (zn ?_)); clear h; intro a w h
       refine cW ?_
       refine Zj h rfl ?_
       refine gC h (zS (zm rfl (zm rfl (zm rfl (zp (.build [(_, _), (_, _)] rfl (Xw _ _)) (za rfl (za rfl (zt' rfl rfl Zl uu sizeOf68 rfl nb rfl ?_)))))))); clear h; intro a w h
       refine wpList_nil (wp_ret ?_)
       exact Zy h (Qz h rfl (.tmp rfl) (.tmp rfl) (.cell rfl mr isAgg68 sizeOf68 Zh)) (Ψ := [Row (some ⟨bT, 0, none⟩) (cellsOf Jm lT), AllF lT]) (Xo (hti.trans (Zja ht42 hfj hmok) |>.trans (by rw [hbT])) hlT (by unfold Cod; decide) heT) ss
      have hmok : mulOk pT p50 := by have := of_decide_eq_false hc74; unfold mulOk; omega
      refine gL h (zp (.pickT rfl rfl) (zn ?_)); clear h; intro a w h
     rotate_left
     focus
      have hm2 : ¬ Yz p50 ≥ 0 := of_decide_eq_false hc68
      have hmok : mulOk pT p50 := by unfold mulOk; omega
      refine gL h (zp (.pickT rfl rfl) (zm rfl (zo 70 rfl rfl rfl (zo 70 rfl rfl rfl (zo 70 rfl rfl rfl (zo 70 rfl rfl rfl (zp (.pickF rfl rfl) (zn ?_)))))))); clear h; intro a w h
    rotate_left 2
    focus
     have hm1 : ¬ Yz pT ≥ 0 := of_decide_eq_false hc65
     have hmok : mulOk pT p50 := by unfold mulOk; omega
     refine gL h (zm rfl (zo 66 rfl rfl rfl (zo 66 rfl rfl rfl (zp (.pickF rfl rfl) (zm rfl (zo 70 rfl rfl rfl (zo 70 rfl rfl rfl (zo 70 rfl rfl rfl (zo 70 rfl rfl rfl (zp (.pickF rfl rfl) (zn ?_))))))))))); clear h; intro a w h
    all_goals
     refine cW ?_
     refine Ze h rfl ?_
     refine gC h (zk (zs (zS (zm rfl (zw [_] rfl call102 (Zf5 bT lT (Zhj hlT hET hgT)) ?_))))); clear h; intro a w h
     rw [Zdh hET hgT.nrm] at h
     refine gL h (zm rfl (zw [_] rfl call102 (Zf5 b50 l50 (Zhj hr50.len he50 hg50)) ?_)); clear h; intro a w h
     rw [Zdh he50 hg50.nrm] at h
     refine gL h (zp (.pN ((Qf pT) + (Qf p50)) (.add rfl rfl)) (zp (.gtr rfl rfl) ?_)); clear h; intro a w h
     refine Zg h (fun hc85 h => ?_) (fun hc85 h => ?_)
     ·
      skip
      have hsl : Qf pT + Qf p50 > 16384 := dT hc85
      refine wpList_nil ?_
      refine cW ?_
      refine Zj h rfl ?_
      refine gC h (zS (zm rfl (zm rfl (zm rfl (zp (.build [(_, _), (_, _)] rfl (Xw _ _)) (za rfl (za rfl (zt' rfl rfl Zl uu sizeOf68 rfl nb rfl ?_)))))))); clear h; intro a w h
      refine wpList_nil (wp_ret ?_)
      exact Zy h (Qz h rfl (.tmp rfl) (.tmp rfl) (.cell rfl mr isAgg68 sizeOf68 Zh)) (Ψ := [Row (some ⟨bT, 0, none⟩) (cellsOf Jm lT), AllF lT]) (Xo (hti.trans (Zi8 ht42 hfj hmok oo) |>.trans (by rw [hbT])) hlT (by unfold Cod; decide) heT) ss
     ·
      skip
      have hsl : ¬ Qf pT + Qf p50 > 16384 := dF hc85
      refine wpList_nil ?_
      refine cW ?_
      refine Ze h rfl ?_
      refine gC h (zk (zS (zm rfl (zm rfl ?_)))); clear h; intro a w h
      obtain ⟨da, db, hdd, hqa, hqb⟩ := mulOk.ds hgT hg50 oo oo hmok
      refine gL h (zf [_, _] rfl call144 (Qcm bT lT da 513 (Qdc hlT hET hqa) oo dd b50 l50 db 513 (Qdc hr50.len he50 hqb) oo dd hdd) ?_); rintro v93 Ψ93 ⟨b93, l93, rfl, ht93, he93, rfl⟩
      refine zm rfl (zp (.eX rfl) (zp (.eX rfl) (za rfl (za rfl (zn (zs (zS (zm rfl (zp (.neq rfl rfl) ?_))))))))); intro a w h
      refine Zg h (fun hc97 h => (absurd hc97 dd)) (fun hc97 h => ?_)
      refine wpList_nil ?_
      refine cW ?_
      refine Ze h rfl ?_
      refine gC h (zk (zS (zm rfl (za rfl (zn (zr (zm rfl (za rfl (zn ?_))))))))); clear h; intro a w h
      exact ⟨Zm s (k50), ⟨b93, l93, k50, ⟨rfl, TmI.next hf28 ht93.lenl hk50 (hti.trans (Zlz ht42 hfj hmok oo)) (by have := Xd s j50; omega) (he93.trans ((Eqv.mul hET he50).trans (Eqv.nrm _).symm)) (hgT.mul hg50 oo hmok) hj50 hb50⟩, by exact ((h.drop sl).factsSub (by simp)).sub sA⟩, oo⟩
  ·
   skip
   have ht42 : Zn s 42 jT = false := by rw [Qt hjT, ← hbT]; exact hc44
   refine gL h (za rfl (zn ?_)); clear h; intro a w h
   refine cW ?_
   refine Ze h rfl ?_
   refine gC h (zS (zm rfl (zm rfl (zv [_, _, _] rfl call100 (Zfe s (Zm s eT) 47 (by have := Ja heT; omega) hs) ?_)))); clear h; intro a w h
   refine Zg h (fun hc108 h => ?_) (fun hc108 h => ?_)
   ·
    skip
    have ht47 : Zn s 47 jT = true := by rw [Qt hjT, ← hbT]; exact hc108
    have hlt47 := Zz hjT ht47
    rw [← hbT] at hlt47
    have hnk : Zm s eT + 1 ≤ s.size := hlt47
    obtain ⟨fv, hfv⟩ := Zey hfu
    subst hfv
    refine gL h (za rfl (zn ?_)); clear h; intro a w h
    refine cW ?_
    refine Zj h rfl ?_
    refine gC h (zS (zm rfl (zm rfl (zp (.pN ((Zm s eT) + 1) (.add rfl rfl)) (zf [_, _] rfl call145 (Zyf s (Zm s eT + 1) hnk hs) ?_))))); rintro v113 Ψ113 ⟨ad113, c113, rfl, hle113, rfl⟩
    have hnd := nm_dg hnk hs
    have hle113x := hle113
    refine zm rfl (zp (.eX rfl) (zp (.eX rfl) (zp (.eX rfl) (zp (.eX rfl) (zz Gv fun b23 => za rfl (za rfl (za rfl (zt' rfl rfl Zl uu sizeOf68 rfl nb rfl ?_))))))))
    refine zn (zs (zS (zp (.fA rfl Zcd) (zd rfl mr isAgg26 sizeOf26 Jn ?_))))
    refine zp (.neq rfl rfl) ?_; intro a w h
    refine Zg h (fun hc120 h => ?_) (fun hc120 h => ?_)
    ·
     skip
     have hne : nmE s (Zm s eT + 1) ≠ 0 := fun e9 => by rw [e9] at hc120; exact absurd hc120 dd
     obtain ⟨fn, hn113⟩ : ∃ f, Vy s (Zm s eT + 1) = .error f := by
      rcases hn : Vy s (Zm s eT + 1) with f | ⟨n, a, b⟩
      · exact ⟨f, rfl⟩
      · exact absurd (Zo0 hn).2.2.2.1 hne
     refine wpList_nil ?_
     refine cW ?_
     refine Zj h rfl ?_
     refine gC h (zs (yD Za [0, 1, 2, 3, 4, 5] (Zf kk) (ym rfl rfl (ym rfl rfl (yd rfl rfl mr isAgg68 sizeOf68 Zh ?_))))); clear h
     refine yp rfl (.assign rfl) (yp rfl (.assign rfl) (yt rfl rfl rfl Zl uu sizeOf68 rfl nb rfl ?_))
     refine yn (zt ?_); intro a w h
     exact Zy h (Qz h rfl (.tmp rfl) (.tmp rfl) (.cell rfl mr isAgg68 sizeOf68 Zh)) (Ψ := [Row (some ⟨bT, 0, none⟩) (cellsOf Jm lT), AllF lT]) (Zmd hn113 (hti.trans (Zi7 ht42 ht47 (by rw [← hbT]; exact hn113))) hlT heT) ss
    ·
     skip
     have hne : nmE s (Zm s eT + 1) = 0 := by simpa using hc120
     obtain ⟨n, na, mb, hn113⟩ : ∃ n a b, Vy s (Zm s eT + 1) = .ok (n, a, b) := by
      rcases hn : Vy s (Zm s eT + 1) with f | ⟨n, a, b⟩
      · have h1 := (Zjl hn).2.2.2.1; rw [(Zgw hn).1] at h1; rw [h1] at hne; exact absurd (show (4 : Int) = 0 from hne) dd
      · exact ⟨n, a, b, rfl⟩
     obtain ⟨z1, z2, z3, z4, z5⟩ := Zo0 hn113
     have hN113 := Gr hnk hn113
     have hnb := Qd9 hnk hs hn113
     have hnj : Vy s (Zm s jT + 1) = .ok (n, na, mb) := by rw [← hbT]; exact hn113
     have hat := hN113.at_
     have halt := hN113.lt
     have hbk := Xd s (Zm s eT + 1)
     have hge3 := Xd s mb
     have hble := hN113.le
     have hnb1 : Je (nmN s (Zm s eT + 1)) ≤ 16384 := by rw [z1]; exact hnb.1
     have hge4 := Xd s (nmB s (Zm s eT + 1))
     refine wpList_nil ?_
     refine cW ?_
     refine Ze h rfl ?_
     refine gC h (zk (zs (zS (zm rfl (zp (.builtin [_] rfl (Zq _ _ _)) (zp (.eql rfl rfl) ?_)))))); clear h; intro a w h
     refine Zg h (fun hc126 h => ?_) (fun hc126 h => ?_)
     ·
      skip
      have h0 : n = 0 := by
       have h9 := eq_of_beq hc126
       rw [z1] at h9
       exact Zne.1 (List.eq_nil_of_length_eq_zero oo)
      refine wpList_nil ?_
      refine cW ?_
      refine Zj h rfl ?_
      refine gC h (zS (zm rfl (zm rfl (zm rfl (zp (.build [(_, _), (_, _)] rfl (Xw _ _)) (za rfl (za rfl (zt' rfl rfl Zl uu sizeOf68 rfl nb rfl ?_)))))))); clear h; intro a w h
      refine wpList_nil (wp_ret ?_)
      rw [z2] at h
      exact Zy h (Qz h rfl (.tmp rfl) (.tmp rfl) (.cell rfl mr isAgg68 sizeOf68 Zh)) (Ψ := [Row (some ⟨bT, 0, none⟩) (cellsOf Jm lT), AllF lT]) (Xo (hti.trans (Zhi ht42 ht47 hnj h0)) hlT (by unfold Cod; decide) heT) ss
     ·
      skip
      have h0 : n ≠ 0 := fun e9 => by rw [z1, e9, Qv] at hc126; exact absurd hc126 dd
      refine wpList_nil ?_
      refine cW ?_
      refine Ze h rfl ?_
      refine gC h (zk (zs (zS (zm rfl (zw [_] rfl call102 (Zf5 bT lT (Zhj hlT hET hgT)) ?_))))); clear h; intro a w h
      rw [Zdh hET hgT.nrm] at h
      refine gL h (zm rfl (zw [_] rfl call146 (Zpu (nmN s (Zm s eT + 1)) ad113 c113 (by rw [z1]; omega)) (zp (.pN ((Qf pT) + (Je (nmN s (Zm s eT + 1)))) (.add rfl rfl)) (zp (.gtr rfl rfl) ?_)))); clear h; intro a w h
      refine Zg h (fun hc136 h => ?_) (fun hc136 h => ?_)
      ·
       skip
       have hsl : Qf pT + Je n > 16384 := by have := of_decide_eq_true hc136; rw [z1] at this; omega
       refine wpList_nil ?_
       refine cW ?_
       refine Zj h rfl ?_
       refine gC h (zS (zm rfl (zm rfl (zm rfl (zp (.build [(_, _), (_, _)] rfl (Xw _ _)) (za rfl (za rfl (zt' rfl rfl Zl uu sizeOf68 rfl nb rfl ?_)))))))); clear h; intro a w h
       refine wpList_nil (wp_ret ?_)
       exact Zy h (Qz h rfl (.tmp rfl) (.tmp rfl) (.cell rfl mr isAgg68 sizeOf68 Zh)) (Ψ := [Row (some ⟨bT, 0, none⟩) (cellsOf Jm lT), AllF lT]) (Xo (hti.trans (Zi6 ht42 ht47 hnj h0 oo) |>.trans (by rw [hbT])) hlT (by unfold Cod; decide) heT) ss
      ·
       skip
       have hsl : ¬ Qf pT + Je n > 16384 := by have := of_decide_eq_false hc136; rw [z1] at this; omega
       refine wpList_nil ?_
       refine cW ?_
       refine Ze h rfl ?_
       refine gC h (zk (zS (zm rfl (zf [_] rfl call99 (Zff 1 oo oo) ?_)))); rintro v142 Ψ142 ⟨ad142, c142, bd142, d142, rfl, hle142, hlf142, rfl⟩
       have hl142 := Jp 1 oo oo
       refine zm rfl (zv [_] rfl call148 (Zyh (nmN s (Zm s eT + 1)) ad113 c113) ?_); intro a w h
       obtain ⟨hle144, hlf144⟩ := Zm4 (nmN s (Zm s eT + 1)) hle113
       have hln144 : Jr ((nmN s (Zm s eT + 1) : Int) : Rat) ≤ 426 := by rw [z1]; exact hnb.2
       replace h := h.derive (R := Row none (List.map Qe (dg (((nmN s (Zm s eT + 1) : Int) : Rat).den - 1)))) (fun X hX => by rw [Rat.den_intCast, Nat.sub_self, Qv]; exact fun hne => absurd rfl hne)
       replace h := h.derive (R := Row ad113 (List.map Qe (dg ((nmN s (Zm s eT + 1) : Int) : Rat).num.natAbs))) (fun X hX => by rw [Rat.num_intCast, Int.natAbs_natCast]; exact hX _ mm)
       refine gL h (zf [_, _] rfl call147 (C_fDiv _ _ _ _ _ _ _ _ ((1 : Int) : Rat) (((nmN s (Zm s eT + 1) : Int) : Rat)) oo oo hle144) ?_); rintro v145 Ψ145 ⟨ad145, c145, bd145, d145, rfl, hle145, hlf145, rfl⟩
       have hlq := Zrh ((1 : Int) : Rat) (((nmN s (Zm s eT + 1) : Int) : Rat))
       refine zf [_, _] rfl call104 (Zsh bT lT 12 6400 (Zhj hlT hET hgT) dd dd _ _ _ _ 1000 (((1 : Int) : Rat) / ((nmN s (Zm s eT + 1) : Int) : Rat)) oo dd) ?_; rintro v146 Ψ146 ⟨b146, l146, rfl, ht146, he146, rfl⟩
       refine za rfl (zn (zr (zm rfl (za rfl (zn ?_))))); intro a w h
       exact ⟨Zm s (nmB s (Zm s eT + 1)), ⟨b146, l146, nmB s (Zm s eT + 1), ⟨rfl, TmI.next hf28 ht146.lenl (by rw [z3]; exact hN113.le) (hti.trans (Zly ht42 ht47 hnj h0 oo)) (by have := Xd s mb; omega) (he146.trans ((Eqv.scale _ hET).trans (by rw [z1]; exact (Eqv.nrm _).symm))) (hgT.quo oo (hN113.big hs)) hN113.le (by rw [z3])⟩, by exact ((h.drop sl).factsSub (by simp)).sub sA⟩, oo⟩
   ·
    skip
    have ht47 : Zn s 47 jT = false := by rw [Qt hjT, ← hbT]; exact hc108
    refine gL h (za rfl (zn ?_)); clear h; intro a w h
    refine cW ?_
    refine Ze h rfl ?_
    refine gC h (zs (yD Za [0, 1, 2, 3, 4, 5] (Zf kk) (ym rfl rfl (ym rfl rfl (yd rfl rfl mr isAgg68 sizeOf68 Zh ?_))))); clear h
    refine yp rfl (.assign rfl) (yp rfl (.assign rfl) (yt rfl rfl rfl Zl uu sizeOf68 rfl nb rfl ?_))
    refine yn (zt ?_); intro a w h
    obtain ⟨fv, hfv⟩ := Zey hfu
    subst hfv
    exact Zy h (Qz h rfl (.tmp rfl) (.tmp rfl) (.cell rfl mr isAgg68 sizeOf68 Zh)) (Ψ := [Row (some ⟨bT, 0, none⟩) (cellsOf Jm lT), AllF lT]) (Zjf hf28 (hti.trans (Zi5 ht42 ht47)) hlT hET hgT heT (Ja hjT) (by rw [hbT, Kr])) ss
 ·
  skip
  obtain ⟨fe, hf28⟩ := Zjd (r := Ye s ins k) (fun e9 => by simp [e9] at hc34)
  refine wpList_nil ?_
  refine cW ?_
  refine Ze h rfl ?_
  refine gC h (ze (zs (yD Za [0, 1, 2, 3, 4, 5] (Zf kk) (ym rfl rfl (ym rfl rfl (yd rfl rfl mr isAgg68 sizeOf68 Zh ?_)))))); clear h
  refine yp rfl (.assign rfl) (yp rfl (.assign rfl) (yt rfl rfl rfl Zl uu sizeOf68 rfl nb rfl ?_))
  refine yn (zt ?_); intro a w h
  exact Zy h (Qz h rfl (.tmp rfl) (.tmp rfl) (.cell rfl mr isAgg68 sizeOf68 Zh)) (Ψ := [Row (some ⟨bT, 0, none⟩) (cellsOf Jm lT), AllF lT]) (Zak hf28 (Zlx hf28) hlT (hr28.cod _ hf28) heT) ss
end
section
theorem Zxt (s : ByteArray) (ins : Ins) (k : Nat) : Vq s ins (Zm s k) = Vq s ins k := by
 unfold Vq; simp only [Zbl, Kr, Zgx]
theorem Zuv (s : ByteArray) (ins : Ins) (k : Nat) : Ke s ins (Zm s k) = Ke s ins k := by
 unfold Ke Ye; rw [Zxt]
structure SmI (s : ByteArray) (ins : Ins) (R : Except Fa (List Tm × Nat)) (f : Bool) (l : List FT) (x : Rat) (i sg : Nat) : Prop where
 len : l.length = 169
 le : i ≤ s.size
 one : x = ((1 : Int) : Rat) ∨ x = ((-1 : Int) : Rat)
 er : ∀ e, Ke s ins i = .error e → R = .error e
 go : ∃ q, Eqv (pol (xs l)) q ∧ Gd q ∧ ∀ p b, Ke s ins i = .ok (p, b) → (f = false → Qf q + Qf p > 16384 → R = .error (3, sg)) ∧ ((f = true ∨ ¬ Qf q + Qf p > 16384) → ∃ fu r, R = Ziv s ins fu r b ∧ s.size - Zm s b < fu ∧ Gd r ∧ Eqv r (q ++ Qj x p))
theorem Zl5 (p : List Tm) : Eqv (Qj ((1 : Int) : Rat) p) p := fun φ => by rw [Vu, show ((1 : Int) : Rat) = 1 from rfl, Rat.one_mul]
theorem Zv4 : Eqv (pol (xs (List.replicate 169 FT0))) [] := fun φ => by rw [Zdx, Xz, Zfx]
theorem SmI.first {s : ByteArray} {ins : Ins} {k i : Nat} {x : Rat} (hs : s.size ≤ 4096) (hG : InsG s ins) (hk : k ≤ s.size) (h : (Zn s 45 k = true ∧ i = Zm s k + 1 ∧ x = ((-1 : Int) : Rat)) ∨ (Zn s 45 k = false ∧ i = k ∧ x = ((1 : Int) : Rat))) : SmI s ins (Zoj s ins k) true (List.replicate 169 FT0) x i (Zm s k) := by
 have hle : i ≤ s.size := by
  rcases h with ⟨h1, h2, _⟩ | ⟨_, h2, _⟩
  · have := Zz hk h1; omega
  · omega
 have ht : Ke s ins i = Ke s ins (if Zn s 45 k = true then Zm s k + 1 else Zm s k) := by
  rcases h with ⟨h1, h2, _⟩ | ⟨h1, h2, _⟩
  · rw [h1, h2]; rfl
  · rw [h1, h2]; exact (Zuv s ins k).symm
 refine ⟨List.length_replicate, hle, by rcases h with h | h; exact .inr h.2.2; exact .inl h.2.2, fun e he => Zqf (by rw [← ht]; exact he), [], Zv4, Gd.nil, fun p b hp => ⟨fun h => absurd h dd, fun _ => ?_⟩⟩
 have hg := (Vt hs hG hle hp).1
 have hb := Xd s b
 have ho := Zux (s := s) (ins := ins) (k := k) (by rw [← ht]; exact hp)
 rcases h with ⟨h1, _, h3⟩ | ⟨h1, _, h3⟩
 ·
  rw [h1] at ho
  exact ⟨_, _, ho, oo, hg.neg, by rw [h3]; exact Eqv.nrm _⟩
 ·
  rw [h1] at ho
  exact ⟨_, _, ho, oo, hg, by rw [h3]; exact (Zl5 p).symm⟩
theorem SmI.next {s : ByteArray} {ins : Ins} {R : Except Fa (List Tm × Nat)} {l : List FT} {r : List Tm} {x : Rat} {b fu : Nat} (hs : s.size ≤ 4096) (hG : InsG s ins) (hl : l.length = 169) (he : Eqv (pol (xs l)) r) (hg : Gd r) (hb : b ≤ s.size) (hR : R = Ziv s ins fu r b) (hfu : s.size - Zm s b < fu)
  (h : (Zn s 43 b = true ∧ x = ((1 : Int) : Rat)) ∨ (Zn s 43 b = false ∧ Zn s 45 b = true ∧ x = ((-1 : Int) : Rat))) : SmI s ins R false l x (Zm s b + 1) (Zm s b) := by
 obtain ⟨fv, hfv⟩ := Zey hfu
 subst hfv
 have ht : Zn s 43 b = true ∨ Zn s 45 b = true := by rcases h with h | h; exact .inl h.1; exact .inr h.2.1
 have hlt : Zm s b < s.size := ht.elim (Zz hb) (Zz hb)
 refine ⟨hl, hlt, by rcases h with h | h; exact .inl h.2; exact .inr h.2.2, fun e hh => hR.trans (Zkd ht hh), r, he, hg, fun p c hp => ⟨fun _ hz => hR.trans (Zkc ht hp hz), fun hz => ?_⟩⟩
 have hz : ¬ Qf r + Qf p > 16384 := hz.elim (fun h => absurd h dd) id
 obtain ⟨hgp, hlt2, hle2⟩ := Vt hs hG hlt hp
 have hc := Xd s c
 rcases h with ⟨h1, h3⟩ | ⟨h0, h1, h3⟩
 · exact ⟨_, _, hR.trans (Zqe h1 hp hz), oo, hg.add hgp oo, by rw [h3]; exact (Eqv.nrm _).trans (Eqv.append Eqv.rfl' (Zl5 p).symm)⟩
 · exact ⟨_, _, hR.trans (Zqd h0 h1 hp hz), oo, hg.sub hgp oo, by rw [h3]; exact Eqv.nrm _⟩
set_option maxHeartbeats 2000000 in
theorem Qcn (s : ByteArray) (ins : Ins) (k o : Nat) (hk : k ≤ s.size) (hs : s.size ≤ 4096) (hI : InsR s ins o) (hG : InsG s ins) : Ctr Tryz.prog 63 [.string s, .int .i64 ((k : Nat) : Int), .int .i64 ((o : Nat) : Int)] [] (Zcm s (Zoj s ins k)) := by
 have hbl := Ja hk
 refine fn_intro func63 rfl ntmps63 nb ?_
 intro S w0 a hS h
 refine gC h (zS (za rfl (za rfl (zz Gv fun b8 => zn (zS ?_))))); clear h; intro a w h
 refine Zc (Jw h (vs := []) rfl call62 (Zbf) ss dd ?_); clear h; rintro v16 σ16 a w ⟨b16, rfl, rfl⟩ h
 replace h := h.derive (R := AllF (List.replicate 169 FT0)) (fun X hX => AllF.zeros 169 X _)
 replace h := h.shareAll hS (cellsOf Jm (List.replicate 169 FT0)) rfl
 refine gL h (za rfl (zn (zS (zm rfl (zm rfl (zv [_, _] rfl call64 (Gl s k hk hs) (za rfl (zn (zS (zf [_] rfl call99 (Zff 1 oo oo) ?_)))))))))); rintro v20 Ψ20 ⟨ad20, c20, bd20, d20, rfl, hle20, hlf20, rfl⟩
 have hl20 := Jp 1 oo oo
 refine zz Zt7 fun b11 => zt' rfl rfl Qw uu sizeOf164 rfl nb rfl ?_
 refine zn (zs (zS (zm rfl (zm rfl (zv [_, _, _] rfl call100 (Zfe s (Zm s k) 45 oo hs) ?_))))); intro a w h
 refine Zg h (fun hc23 h => ?_) (fun hc23 h => ?_)
 focus
  have ht45 : Zn s 45 k = true := by rw [Qt hk]; exact hc23
  have hlt45 := Zz hk ht45
  refine wpList_nil ?_
  refine cW ?_
  refine Zj h rfl ?_
  refine gC h (zS (zf [_] rfl call99 (Zff (-1) oo oo) ?_)); rintro v24 Ψ24 ⟨ad24, c24, bd24, d24, rfl, hle24, hlf24, rfl⟩
  have hl24 := Jp (-1) oo oo
  refine zt' rfl rfl Qw uu sizeOf164 rfl nb rfl ?_; intro a w h
  refine gL h (zn (zr (zm rfl (zp (.pN ((Zm s k) + 1) (.add rfl rfl)) (za rfl (zn (zS (za rfl (zn (zb ?_)))))))))); clear h; intro a w h
  refine Zi (fun (i : Nat) a w => ∃ (f : Bool) (bO : Nat) (lO : List FT) (sg : Nat) (x : Rat) (p1 : Option Addr) (p2 : Nat) (p3 : Option Addr) (p4 : Nat), SmI s ins (Zoj s ins k) f lO x i sg ∧ St 83 S w0 [(0, .string s), (1, nI i), (2, nI o), (8, pB b8), (9, .slice (some ⟨bO, 0, none⟩) 169 169), (10, nI sg), (11, pB b11), (12, .bool f)] [(b11, bV (.agg #[.bool (decide (x.num < 0)), .slice p1 (dg x.num.natAbs).length p2, .slice p3 (dg (x.den - 1)).length p4]) 164), (b8, bV (Zdr ((0, 0))) 68)] [Row p1 (List.map Qe (dg x.num.natAbs)), Row p3 (List.map Qe (dg (x.den - 1))), Row (some ⟨bO, 0, none⟩) (cellsOf Jm lO), AllF lO] a w) (fun i => s.size + 1 - i) ((Zm s k) + 1) (⟨true, b16, List.replicate 169 FT0, Zm s k, (((-1) : Int) : Rat), ad24, c24, bd24, d24, SmI.first hs hG hk (.inl ⟨ht45, rfl, rfl⟩), by exact (h.factsSub (by simp)).sub sA⟩) ?_; clear h
 rotate_left
 focus
  have ht45 : Zn s 45 k = false := by rw [Qt hk]; exact hc23
  refine wpList_nil ?_
  refine cW ?_
  refine Ze h rfl ?_
  refine gC h (zk (zS (za rfl (zn (zb ?_))))); clear h; intro a w h
  refine Zi (fun (i : Nat) a w => ∃ (f : Bool) (bO : Nat) (lO : List FT) (sg : Nat) (x : Rat) (p1 : Option Addr) (p2 : Nat) (p3 : Option Addr) (p4 : Nat), SmI s ins (Zoj s ins k) f lO x i sg ∧ St 83 S w0 [(0, .string s), (1, nI i), (2, nI o), (8, pB b8), (9, .slice (some ⟨bO, 0, none⟩) 169 169), (10, nI sg), (11, pB b11), (12, .bool f)] [(b11, bV (.agg #[.bool (decide (x.num < 0)), .slice p1 (dg x.num.natAbs).length p2, .slice p3 (dg (x.den - 1)).length p4]) 164), (b8, bV (Zdr ((0, 0))) 68)] [Row p1 (List.map Qe (dg x.num.natAbs)), Row p3 (List.map Qe (dg (x.den - 1))), Row (some ⟨bO, 0, none⟩) (cellsOf Jm lO), AllF lO] a w) (fun i => s.size + 1 - i) (k) (⟨true, b16, List.replicate 169 FT0, Zm s k, ((1 : Int) : Rat), ad20, c20, bd20, d20, SmI.first hs hG hk (.inr ⟨ht45, rfl, rfl⟩), by exact (h.factsSub (by simp)).sub sA⟩) ?_; clear h
 all_goals
  rintro i a w ⟨f, bO, lO, sg, x, p1, p2, p3, p4, hS, h⟩
  have hile := hS.le
  obtain ⟨qO, hEO, hgO, hgoO⟩ := hS.go
  have hszO := hgO.size
  have hlx : Jr x ≤ 10 := by
   rcases hS.one with e1 | e1
   · rw [e1]; have := Jp 1 dd dd; omega
   · rw [e1]; have := Jp (-1) dd dd; omega
  refine gC h (zs (zb (zS (zm rfl (zm rfl (zm rfl (zf [_, _, _] rfl call101 (Qfm s ins i o hile hs hI hG) ?_))))))); rintro v31 Ψ31 ⟨b31, l31, k31, rfl, hr31, rfl⟩
  refine zm rfl (zp (.eX rfl) (zp (.eX rfl) (zp (.eX rfl) (zz Gv fun b15 => za rfl (za rfl (zt' rfl rfl Zl uu sizeOf68 rfl nb rfl ?_))))))
  refine zn (zs (zS (zp (.fA rfl Zcd) (zd rfl mr isAgg26 sizeOf26 Jn ?_))))
  refine zp (.neq rfl rfl) ?_; intro a w h
  refine Zg h (fun hc37 h => ?_) (fun hc37 h => ?_)
  ·
   skip
   obtain ⟨fe, hf31⟩ := Zjd (r := Ke s ins i) (fun e9 => by rw [e9] at hc37; exact absurd hc37 dd)
   refine wpList_nil ?_
   refine cW ?_
   refine Zj h rfl ?_
   refine gC h (zs (yD Za [0, 1, 2, 3, 4, 5] (Zf kk) (ym rfl rfl (ym rfl rfl (yd rfl rfl mr isAgg68 sizeOf68 Zh ?_))))); clear h
   refine yp rfl (.assign rfl) (yp rfl (.assign rfl) (yt rfl rfl rfl Zl uu sizeOf68 rfl nb rfl ?_))
   refine yn (zt ?_); intro a w h
   exact Zy h (Qz h rfl (.tmp rfl) (.tmp rfl) (.cell rfl mr isAgg68 sizeOf68 Zh)) (Ψ := [Row (some ⟨bO, 0, none⟩) (cellsOf Jm lO), AllF lO]) (Zak hf31 (hS.er _ hf31) hS.len (hr31.cod _ hf31) hile) ss
  ·
   skip
   obtain ⟨p31, j31, hf31⟩ := Zs5 (r := Ke s ins i) (by simpa using hc37) hr31.cod
   obtain ⟨he31, hg31, hk31, hj31, hb31⟩ := hr31.ok _ _ hf31
   have hsz31 := hg31.size
   obtain ⟨_, hpr31, _⟩ := Vt hs hG hile hf31
   have hbl31 := Ja hk31
   refine wpList_nil ?_
   refine cW ?_
   refine Ze h rfl ?_
   refine gC h (zk (zs (zS (zm rfl (zp (.unOp rfl (Ji _)) ?_))))); clear h; intro a w h
   refine Zg h (fun hc42 h => ?_) (fun hc42 h => ?_)
   focus
    have hff : f = false := by cases f; rfl; exact absurd hc42 dd
    refine gL h (zm rfl (zq 43 rfl rfl (.move rfl) ?_)); clear h; intro a w h
    refine Zo 43 h rfl rfl (Qo h (vs := [_]) rfl call102 (Zf5 bO lO (Zhj hS.len hEO hgO)) ss dd ?_); clear h; intro a w h
    rw [Zdh hEO hgO.nrm] at h
    refine gL h (zq 43 rfl rfl (.move rfl) ?_); clear h; intro a w h
    refine Zo 43 h rfl rfl (Qo h (vs := [_]) rfl call102 (Zf5 b31 l31 (Zhj hr31.len he31 hg31)) ss dd ?_); clear h; intro a w h
    rw [Zdh he31 hg31.nrm] at h
    refine gL h (zq 43 rfl rfl (.pN ((Qf qO) + (Qf p31)) (.add rfl rfl)) (zq 43 rfl rfl (.gtr rfl rfl) ?_)); clear h; intro a w h
    refine Zg h (fun hc49 h => ?_) (fun hc49 h => ?_)
    ·
     skip
     have hsl : Qf qO + Qf p31 > 16384 := dT hc49
     refine gL h (zp (.pickT rfl rfl) (zn ?_)); clear h; intro a w h
     refine cW ?_
     refine Zj h rfl ?_
     refine gC h (zS (zm rfl (zm rfl (zm rfl (zp (.build [(_, _), (_, _)] rfl (Xw _ _)) (za rfl (za rfl (zt' rfl rfl Zl uu sizeOf68 rfl nb rfl ?_)))))))); clear h; intro a w h
     refine wpList_nil (wp_ret ?_)
     exact Zy h (Qz h rfl (.tmp rfl) (.tmp rfl) (.cell rfl mr isAgg68 sizeOf68 Zh)) (Ψ := [Row (some ⟨bO, 0, none⟩) (cellsOf Jm lO), AllF lO]) (Xo ((hgoO p31 j31 hf31).1 hff hsl) hS.len (by unfold Cod; decide) hile) ss
    have hsl : ¬ Qf qO + Qf p31 > 16384 := dF hc49
    have hgo := (hgoO p31 j31 hf31).2 (.inr hsl)
    refine gL h (zp (.pickT rfl rfl) (zn ?_)); clear h; intro a w h
   rotate_left
   focus
    have hff : f = true := by cases f; exact absurd hc42 dd; rfl
    have hgo := (hgoO p31 j31 hf31).2 (.inl hff)
    refine gL h (zm rfl (zo 43 rfl rfl rfl (zo 43 rfl rfl rfl (zo 43 rfl rfl rfl (zo 43 rfl rfl rfl (zo 43 rfl rfl rfl (zo 43 rfl rfl rfl (zp (.pickF rfl rfl) (zn ?_))))))))); clear h; intro a w h
   all_goals
    refine cW ?_
    refine Ze h rfl ?_
    refine gC h (zk (zS (zm rfl (zm rfl (zd rfl mr isAgg164 sizeOf164 Zs ?_)))))
    refine zf [_, _] rfl call104 (Zsh b31 l31 12 6400 (Zhj hr31.len he31 hg31) dd dd _ _ _ _ 10 x hlx dd) ?_; rintro v58 Ψ58 ⟨b58, l58, rfl, ht58, he58, rfl⟩ a w h
    skip
    refine gL h (zf [_, _] rfl call103 (C_tAdd bO lO 12 6400 (Zhj hS.len hEO hgO) dd dd b58 l58 12 (10 + 6400 + 1) ht58 dd dd) ?_); clear h; rintro v59 Ψ59 ⟨b59, l59, rfl, ht59, he59, rfl⟩ a w h
    obtain ⟨fu, r, hRs, hfu, hgr, hEr⟩ := hgo
    have hE59 : Eqv (pol (xs l59)) r := he59.trans ((Eqv.append hEO (he58.trans (Eqv.scale _ he31))).trans hEr.symm)
    refine gL h (za rfl (zn (zS (zm rfl (zm rfl (zv [_, _] rfl call64 (Gl s k31 hk31 hs) (za rfl (zn (zs (zS (zm rfl (zm rfl (zv [_, _, _] rfl call100 (Zfe s (Zm s k31) 43 (by have := Ja hk31; omega) hs) ?_))))))))))))); clear h; intro a w h
    refine Zg h (fun hc65 h => ?_) (fun hc65 h => ?_)
    ·
     skip
     have ht43 : Zn s 43 j31 = true := by rw [Qt hj31, ← hb31]; exact hc65
     have ht45 : Zn s 45 j31 = false := by
      rw [Qt hj31]; rw [Qt hj31] at ht43
      unfold isE at ht43 ⊢
      rw [Bool.and_eq_true, decide_eq_true_eq, decide_eq_true_eq] at ht43
      rw [ht43.2]; simp
     have hlt43 := Zz hj31 ht43
     refine gL h (zp (.unOp rfl (Ji _)) (zm rfl (zo 67 rfl rfl rfl (zo 67 rfl rfl rfl (zo 67 rfl rfl rfl (zo 67 rfl rfl rfl (zp (.pickF rfl rfl) (zn ?_)))))))); clear h; intro a w h
     refine cW ?_
     refine Ze h rfl ?_
     refine gC h (zk (zS (zf [_] rfl call99 (Zff 1 oo oo) ?_))); rintro v76 Ψ76 ⟨ad76, c76, bd76, d76, rfl, hle76, hlf76, rfl⟩
     have hl76 := Jp 1 oo oo
     refine zt' rfl rfl Qw uu sizeOf164 rfl nb rfl ?_; intro a w h
     refine gL h (zn (zs (zS (zm rfl (zm rfl (zv [_, _, _] rfl call100 (Zfe s (Zm s k31) 45 (by have := Ja hk31; omega) hs) ?_)))))); clear h; intro a w h
     refine Zg h (fun hc79 h => (by exfalso; rw [hb31, ← Qt hj31, ht45] at hc79; exact absurd hc79 dd)) (fun hc79 h => ?_)
     refine wpList_nil ?_
     refine cW ?_
     refine Ze h rfl ?_
     refine gC h (zk (zr (zm rfl (zp (.pN ((Zm s k31) + 1) (.add rfl rfl)) (za rfl (zn (zr (za rfl (zn ?_))))))))); clear h; intro a w h
     exact ⟨Zm s k31 + 1, ⟨false, b59, l59, Zm s k31, ((1 : Int) : Rat), ad76, c76, bd76, d76, (by rw [hb31]; exact SmI.next hs hG ht59.lenl hE59 hgr hj31 hRs hfu (.inl ⟨ht43, rfl⟩)), by exact ((h.drop sl).factsSub (by simp)).sub sA⟩, by have := Xd s j31; omega⟩
    ·
     skip
     have ht43 : Zn s 43 j31 = false := by rw [Qt hj31, ← hb31]; exact hc65
     refine gL h (zp (.unOp rfl (Ji _)) (zm rfl (zq 67 rfl rfl (.move rfl) (zq 67 rfl rfl (.move rfl) ?_)))); clear h; intro a w h
     refine Zo 67 h rfl rfl (Za0 h (vs := [_, _, _]) rfl call100 (Zfe s (Zm s k31) 45 (by have := Ja hk31; omega) hs) dd ?_); clear h; intro a w h
     refine Zg h (fun hc70 h => ?_) (fun hc70 h => ?_)
     ·
      skip
      have ht45 : Zn s 45 j31 = true := by rw [Qt hj31, ← hb31]; exact hc70
      have hlt45x := Zz hj31 ht45
      refine gL h (zq 67 rfl rfl (.unOp rfl (Ji _)) (zp (.pickT rfl rfl) (zn ?_))); clear h; intro a w h
      refine cW ?_
      refine Ze h rfl ?_
      refine gC h (zk (zS (zf [_] rfl call99 (Zff 1 oo oo) ?_))); rintro v76 Ψ76 ⟨ad76, c76, bd76, d76, rfl, hle76, hlf76, rfl⟩
      have hl76 := Jp 1 oo oo
      refine zt' rfl rfl Qw uu sizeOf164 rfl nb rfl ?_; intro a w h
      refine gL h (zn (zs (zS (zm rfl (zm rfl (zv [_, _, _] rfl call100 (Zfe s (Zm s k31) 45 (by have := Ja hk31; omega) hs) ?_)))))); clear h; intro a w h
      refine Zg h (fun hc79 h => ?_) (fun hc79 h => (by exfalso; rw [hb31, ← Qt hj31, ht45] at hc79; exact absurd hc79 dd))
      refine wpList_nil ?_
      refine cW ?_
      refine Zj h rfl ?_
      refine gC h (zr (zf [_] rfl call99 (Zff (-1) oo oo) ?_)); rintro v80 Ψ80 ⟨ad80, c80, bd80, d80, rfl, hle80, hlf80, rfl⟩
      have hl80 := Jp (-1) oo oo
      refine zt' rfl rfl Qw uu sizeOf164 rfl nb rfl ?_; intro a w h
      refine gL h (zn (zr (zm rfl (zp (.pN ((Zm s k31) + 1) (.add rfl rfl)) (za rfl (zn (zr (za rfl (zn ?_))))))))); clear h; intro a w h
      exact ⟨Zm s k31 + 1, ⟨false, b59, l59, Zm s k31, (((-1) : Int) : Rat), ad80, c80, bd80, d80, (by rw [hb31]; exact SmI.next hs hG ht59.lenl hE59 hgr hj31 hRs hfu (.inr ⟨ht43, ht45, rfl⟩)), by exact ((h.drop sl).factsSub (by simp)).sub sA⟩, by have := Xd s j31; omega⟩
     ·
      skip
      have ht45 : Zn s 45 j31 = false := by rw [Qt hj31, ← hb31]; exact hc70
      refine gL h (zq 67 rfl rfl (.unOp rfl (Ji _)) (zp (.pickT rfl rfl) (zn ?_))); clear h; intro a w h
      refine cW ?_
      refine Zj h rfl ?_
      refine gC h (zS (zm rfl (zm rfl (zp (.build [] rfl (Zd8)) (za rfl (za rfl (zt' rfl rfl Zl uu sizeOf68 rfl nb rfl ?_))))))); clear h; intro a w h
      refine wpList_nil (wp_ret ?_)
      have hst := hRs.trans (by obtain ⟨fv, hfv⟩ := Zey hfu; subst hfv; exact Zl0 ht43 ht45)
      exact Zy h (Qz h rfl (.tmp rfl) (.tmp rfl) (.cell rfl mr isAgg68 sizeOf68 Zh)) (Ψ := [Row (some ⟨b59, 0, none⟩) (cellsOf Jm l59), AllF l59]) (Zal hst ht59.lenl hE59 hgr hk31 (Ja hj31) (by rw [hb31, Kr])) ss
end
section
theorem Qah {s : ByteArray} (hs : s.size ≤ 4096) (n : Nat) : InsG s (some (sumE s n)) := fun f hf k p k' hk h => by
 cases hf
 obtain ⟨a, b, c⟩ := Zcu hs n hk h
 exact ⟨a, oo, c⟩
theorem Zx8 (s : ByteArray) (hs : s.size ≤ 4096) : ∀ n o, n + o = 32 → SumR s (sumE s n) o
 | 0, o, h => fun k hk => Qcn s none k o hk hs (.inl ⟨oo, rfl⟩) (InsG.none s)
 | n + 1, o, h => fun k hk => Qcn s (some (sumE s n)) k o hk hs (.inr ⟨oo, sumE s n, rfl, Zx8 s hs n (o + 1) oo⟩) (Qah hs n)
theorem Qfp (s : ByteArray) (hs : s.size ≤ 4096) : Ctr Tryz.prog 63 [.string s, .int .i64 0, .int .i64 0] [] (Zcm s (sumE s 32 0)) := Zx8 s hs 32 0 rfl 0 (Nat.zero_le _)
def Zsg (s : ByteArray) (v : Value) (Ψ : List Zp) : Prop := ∃ b l, v = .tuple #[.slice (some ⟨b, 0, none⟩) 169 169, .agg #[.int .i64 (rE s), .int .i64 ((rI s : Nat) : Int)]] ∧ l.length = 169 ∧ Eqv (pol (xs l)) (rP s) ∧ Ψ = [Row (some ⟨b, 0, none⟩) (cellsOf Jm l), AllF l]
theorem Zfs {s : ByteArray} {e : Int} {i b : Nat} (h : Jd s = .error (e, i)) : Zsg s (.tuple #[.slice (some ⟨b, 0, none⟩) 169 169, .agg #[.int .i64 e, .int .i64 ((i : Nat) : Int)]]) [Row (some ⟨b, 0, none⟩) (cellsOf Jm (List.replicate 169 FT0)), AllF (List.replicate 169 FT0)] := by
 obtain ⟨h1, h2, h3⟩ := Zot h
 exact ⟨b, _, by rw [h2, h3], List.length_replicate, by rw [h1]; exact Zv4, rfl⟩
theorem Zov {s : ByteArray} {r : Except Fa (List Tm × Nat)} {f : Fa} {b : Nat} (hr : r = .error f) (h : Jd s = .error f) : Zsg s (.tuple #[.slice (some ⟨b, 0, none⟩) 169 169, .agg #[.int .i64 (rcE r), .int .i64 ((rcI r : Nat) : Int)]]) [Row (some ⟨b, 0, none⟩) (cellsOf Jm (List.replicate 169 FT0)), AllF (List.replicate 169 FT0)] := by
 subst hr; exact Zfs h
theorem Zvs {s : ByteArray} {p : List Tm} {b : Nat} {l : List FT} (h : Jd s = .ok p) (hl : l.length = 169) (he : Eqv (pol (xs l)) p) : Zsg s (.tuple #[.slice (some ⟨b, 0, none⟩) 169 169, .agg #[.int .i64 0, .int .i64 0]]) [Row (some ⟨b, 0, none⟩) (cellsOf Jm l), AllF l] := by
 obtain ⟨h1, h2, h3⟩ := Zvi h
 exact ⟨b, l, by rw [h2, h3]; rfl, hl, by rw [h1]; exact he, rfl⟩
theorem Qen (s : ByteArray) {m n : Nat} (h : n ≤ m) : (s.extract 0 m).extract 0 n = s.extract 0 n := by
 apply ByteArray.ext
 rw [ByteArray.data_extract, ByteArray.data_extract, ByteArray.data_extract]
 apply Array.ext'
 rw [Array.toList_extract, Array.toList_extract, Array.toList_extract, List.extract_eq_take_drop, List.extract_eq_take_drop, List.extract_eq_take_drop]
 simp only [List.drop_zero, Nat.sub_zero, List.take_take]
 rw [Nat.min_eq_left h]
theorem Zm9 (s : ByteArray) {m : Nat} (h : m ≤ s.size) : (s.extract 0 m).size = m := by rw [ByteArray.size_extract]; omega
theorem Zur {s : ByteArray} {m : Nat} (h0 : 0 < m) (h : chA s (m - 1) = 32) : Gx s (m - 1) = Gx s m := by
 obtain ⟨n, rfl⟩ : ∃ n, m = n + 1 := ⟨m - 1, oo⟩
 rw [Nat.add_sub_cancel] at h ⊢
 rw [Gx, if_pos h]
set_option maxHeartbeats 1000000 in
theorem Qbp (s : ByteArray) (hsz : s.size ≤ 9223372036854775807) : Ctr Tryz.prog 28 [.string s] [] (Zsg s) := by
 refine fn_intro func28 rfl ntmps28 nb ?_
 intro S w0 a hS h
 refine gC h (zS (za rfl (zz Gv fun b3 => zn (zs (zS (zm rfl (zp (.builtin [_] rfl (Zt _)) (zp (.gtr rfl rfl) ?_)))))))); clear h; intro a w h
 refine Zg h (fun hc9 h => ?_) (fun hc9 h => ?_)
 ·
  skip
  have hP : Jd s = .error (3, 0) := by unfold Jd; rw [if_pos (dT hc9)]
  refine wpList_nil ?_
  refine cW ?_
  refine Zj h rfl ?_
  refine wp_seq (wp_region_lit ?_)
  refine Zc (Jw h (vs := []) rfl call62 (Zbf) ss dd ?_); clear h; rintro v10 σ10 a w ⟨b10, rfl, rfl⟩ h
  replace h := h.derive (R := AllF (List.replicate 169 FT0)) (fun X hX => AllF.zeros 169 X _)
  refine gL h (zp (.build [(_, _), (_, _)] rfl (Xw _ _)) (za rfl (zt' rfl rfl Zl uu sizeOf68 rfl nb rfl ?_))); clear h; intro a w h
  refine wpList_nil (wp_ret ?_)
  replace h := h.derive (R := AllF (List.replicate 169 FT0)) (fun X hX => AllF.zeros 169 X _)
  replace h := h.shareAll hS (cellsOf Jm (List.replicate 169 FT0)) rfl
  exact Zy h (Ql h rfl (.tmp rfl) (.cell rfl mr isAgg68 sizeOf68 Zh)) (Ψ := [Row (some ⟨b10, 0, none⟩) (cellsOf Jm (List.replicate 169 FT0)), AllF (List.replicate 169 FT0)]) (Zfs hP) (fun R hR => List.mem_append_left _ hR)
 ·
  skip
  have hs : s.size ≤ 4096 := dF hc9
  have hP : Jd s = Zgk (s.extract 0 (Gx s s.size)) := by unfold Jd; rw [if_neg oo]
  rw [show Value.string s = Value.string (s.extract 0 s.size) by rw [extract_all]] at h
  refine wpList_nil ?_
  refine cW ?_
  refine Ze h rfl ?_
  refine wp_skip (wp_seq (wp_block ?_))
  refine Zi (fun (m : Nat) a w => (m ≤ s.size ∧ Gx s m = Gx s s.size) ∧ St 51 S w0 [(0, .string (s.extract 0 m)), (2, .slice none 0 0), (3, pB b3)] [(b3, bV (Zdr ((0, 0))) 68)] [] a w) (fun m => m) (s.size) (⟨⟨Nat.le_refl _, rfl⟩, by exact h.sub sA⟩) ?_; clear h
  rintro m a w ⟨⟨hm, htr⟩, h⟩
  have hex := Zm9 s hm
  refine gC h (zs (zS (zm rfl (zp (.builtin [_] rfl (Zt _)) (zp (.gtr rfl rfl) ?_))))); clear h; intro a w h
  refine Zg h (fun hc14 h => ?_) (fun hc14 h => ?_)
  focus
   have h0m : 0 < m := by have := of_decide_eq_true hc14; rw [Zm9 s hm] at this; omega
   refine gL h (zm rfl (zq 15 rfl rfl (.move rfl) (zq 15 rfl rfl (.move rfl) (zq 15 rfl rfl (.builtin [_] rfl (Zt _)) (zq 15 rfl rfl (.pO (((s.extract 0 m).size) - 1) (.sub rfl rfl)) (zq 15 rfl rfl (Pure1.cast (v' := .int .u8 ((chA s (m - 1) : Nat) : Int)) (.index rfl rfl (fun _ => Zu runUnderlying9 _ _ oo)) (by exact congrArg (fun n : Nat => Value.int .u8 (n : Int)) (by have e9 := Qa3 (s := s) (m := m) (i := (s.extract 0 m).size - 1) oo hm; rw [hex] at e9 ⊢; exact e9))) (zq 15 rfl rfl (.eql rfl rfl) ?_))))))); clear h; intro a w h
   refine Zg h (fun hc21 h => ?_) (fun hc21 h => ?_)
   ·
    skip
    have h32 : chA s (m - 1) = 32 := by have := eq_of_beq hc21; omega
    refine gL h (zp (.pickT rfl rfl) (zn ?_)); clear h; intro a w h
    refine cW ?_
    refine Zj h rfl ?_
    refine gC h (zk (zb (zr (zm rfl (zm rfl (zp (.builtin [_] rfl (Zt _)) (zp (.pO (((s.extract 0 m).size) - 1) (.sub rfl rfl)) (zp (Pure1.cast (v' := .string (s.extract 0 (m - 1))) (.slice rfl none (some _) none rfl rfl rfl (slh_9 _ _ oo)) (by exact congrArg Value.string (by rw [Zm9 s hm]; exact Qen s oo))) (za rfl (zn ?_)))))))))); clear h; intro a w h
    exact ⟨m - 1, ⟨⟨oo, by rw [Zur h0m h32]; exact htr⟩, by exact h.sub sA⟩, oo⟩
   have hend : Gx s m = m := Zus h0m (fun e9 => by rw [e9] at hc21; exact absurd hc21 dd)
   refine gL h (zp (.pickT rfl rfl) (zn ?_)); clear h; intro a w h
  rotate_left
  focus
   have hend : Gx s m = m := by
    have : m = 0 := by have := of_decide_eq_false hc14; rw [Zm9 s hm] at this; omega
    rw [this]; rfl
   refine gL h (zm rfl (zo 15 rfl rfl rfl (zo 15 rfl rfl rfl (zo 15 rfl rfl rfl (zo 15 rfl rfl rfl (zo 15 rfl rfl rfl (zo 15 rfl rfl rfl (zp (.pickF rfl rfl) (zn ?_))))))))); clear h; intro a w h
  all_goals
   refine cW ?_
   refine Ze h rfl ?_
   refine wp_exit (wp_seq (wp_region_lit ?_))
   obtain ⟨t, ht⟩ : ∃ t, t = s.extract 0 m := ⟨_, rfl⟩
   rw [← ht] at h
   have htz : t.size ≤ 4096 := by rw [ht, Zm9 s hm]; omega
   have hPt : Jd s = Zgk t := by rw [hP, ← htr, hend, ht]
   refine gL h (zm rfl (zf [_, _, _] rfl call63 (Qfp t htz) ?_)); rintro v30 Ψ30 ⟨b30, l30, k30, rfl, hr30, rfl⟩
   refine zm rfl (zp (.eX rfl) (zp (.eX rfl) (zp (.eX rfl) (zz Gv fun b6 => za rfl (za rfl (zt' rfl rfl Zl uu sizeOf68 rfl nb rfl ?_))))))
   refine zn (zS (zm rfl (zm rfl (zv [_, _] rfl call64 (Gl t k30 hr30.le htz) (za rfl (zn (zs (zS (zp (.fA rfl Zcd) (zd rfl mr isAgg26 sizeOf26 Jn ?_))))))))))
   refine zp (.neq rfl rfl) ?_; intro a w h
   refine Zg h (fun hc39 h => ?_) (fun hc39 h => ?_)
   ·
    skip
    obtain ⟨fe, hf30⟩ := Zjd (r := sumE t 32 0) (fun e9 => by rw [e9] at hc39; exact absurd hc39 dd)
    have hQ : Jd s = .error fe := by rw [hPt]; unfold Zgk; rw [hf30]
    refine wpList_nil ?_
    refine cW ?_
    refine Zj h rfl ?_
    refine gC h (zs (yD Za [1, 0, 2, 3] (Zf kk) (yd rfl rfl mr isAgg68 sizeOf68 Zh ?_))); clear h
    refine Zbt rfl kk (vs := []) rfl call62 (Zbf) ss dd ?_; rintro v40 σ40 ⟨b40, rfl, rfl⟩
    replace h := h.derive (R := AllF (List.replicate 169 FT0)) (fun X hX => AllF.zeros 169 X _)
    refine yp rfl (.assign rfl) (yt rfl rfl rfl Zl uu sizeOf68 rfl nb rfl ?_)
    refine yn (zt ?_); intro a w h
    replace h := h.derive (R := AllF (List.replicate 169 FT0)) (fun X hX => AllF.zeros 169 X _)
    replace h := h.shareAll hS (cellsOf Jm (List.replicate 169 FT0)) rfl
    exact Zy h (Ql h rfl (.tmp rfl) (.cell rfl mr isAgg68 sizeOf68 Zh)) (Ψ := [Row (some ⟨b40, 0, none⟩) (cellsOf Jm (List.replicate 169 FT0)), AllF (List.replicate 169 FT0)]) (Zov hf30 hQ) (fun R hR => List.mem_append_left _ hR)
   ·
    skip
    obtain ⟨p30, j30, hf30⟩ := Zs5 (r := sumE t 32 0) (by simpa using hc39) hr30.cod
    obtain ⟨he30, hg30, hk30, hj30, hb30⟩ := hr30.ok _ _ hf30
    have hbl30 := Ja hj30
    refine wpList_nil ?_
    refine cW ?_
    refine Ze h rfl ?_
    refine gC h (zk (zs (zS (zm rfl (zm rfl (zp (.builtin [_] rfl (Zt _)) (zp (.lss rfl rfl) ?_))))))); clear h; intro a w h
    refine Zg h (fun hc45 h => ?_) (fun hc45 h => ?_)
    ·
     skip
     have hQ : Jd s = .error (4, Zm t k30) := by
      have h9 := of_decide_eq_true hc45
      rw [hPt]; unfold Zgk; rw [hf30]; simp only; rw [if_pos (by rw [← hb30]; omega), hb30]
     refine wpList_nil ?_
     refine cW ?_
     refine Zj h rfl ?_
     refine wp_seq (wp_region_lit ?_)
     refine Zc (Jw h (vs := []) rfl call62 (Zbf) ss dd ?_); clear h; rintro v46 σ46 a w ⟨b46, rfl, rfl⟩ h
     replace h := h.derive (R := AllF (List.replicate 169 FT0)) (fun X hX => AllF.zeros 169 X _)
     refine gL h (zm rfl (zp (.build [(_, _), (_, _)] rfl (Xw _ _)) (za rfl (zt' rfl rfl Zl uu sizeOf68 rfl nb rfl ?_)))); clear h; intro a w h
     refine wpList_nil (wp_ret ?_)
     replace h := h.derive (R := AllF (List.replicate 169 FT0)) (fun X hX => AllF.zeros 169 X _)
     replace h := h.shareAll hS (cellsOf Jm (List.replicate 169 FT0)) rfl
     exact Zy h (Ql h rfl (.tmp rfl) (.cell rfl mr isAgg68 sizeOf68 Zh)) (Ψ := [Row (some ⟨b46, 0, none⟩) (cellsOf Jm (List.replicate 169 FT0)), AllF (List.replicate 169 FT0)]) (Zfs hQ) (fun R hR => List.mem_append_left _ hR)
    ·
     skip
     have hQ : Jd s = .ok p30 := by
      have h9 := of_decide_eq_false hc45
      rw [hPt]; unfold Zgk; rw [hf30]; simp only; rw [if_neg (by rw [← hb30]; omega)]
     refine wpList_nil ?_
     refine cW ?_
     refine Ze h rfl ?_
     refine gC h (zk (zS (zm rfl (zp (.build [] rfl (Zd8)) (za rfl (zt' rfl rfl Zl uu sizeOf68 rfl nb rfl ?_)))))); clear h; intro a w h
     refine wpList_nil (wp_ret ?_)
     exact Zy h (Ql h rfl (.tmp rfl) (.cell rfl mr isAgg68 sizeOf68 Zh)) (Ψ := [Row (some ⟨b30, 0, none⟩) (cellsOf Jm l30), AllF l30]) (Zvs hQ hr30.len he30) ss
end
section
theorem Qem {b off : Nat} (w : World) : (Instr.fieldAt 68 (.pointer (some ⟨b, off, none⟩)) 1).run Tryz.prog w = .ok (.pointer (some ⟨b, off + 1, none⟩)) w := by
 simp [go_sem]
theorem Qbk (p : List Tm) (ad : Option Addr) (c K : Nat) (b1 : Nat) (la : List FT) (K2 : Nat) (hq : Pq 12 K p) (hN : Nrm p) (hK : K ≤ 300000) (ha : Tb 12 K2 (xs la)) (hK2 : K2 ≤ 1000000) (he : Eqv (pol (xs la)) p) : Gn Tryz.prog 30 [.slice ad p.length c, .slice (some ⟨b1, 0, none⟩) 169 169] [TabF, Row ad (cellsOf Qb p), Row (some ⟨b1, 0, none⟩) (cellsOf Jm la), AllF la] (.bool true) := by
 refine fn_intro func30 rfl ntmps30 nb ?_
 intro S w0 a hS h
 refine gC h (zS (za rfl (zn (zS (zm rfl (zw [_] rfl call17 (C_OkN p _ _ hN (hq.deg.mono dd) (by have := hq.len; omega)) (zm rfl ?_))))))); clear h; intro a w h
 refine Zg h (fun hc7 h => ?_) (fun hc7 h => (by exfalso; cases hc7))
 refine gL h (zq 7 rfl rfl (.move rfl) ?_); clear h; intro a w h
 refine Zo 7 h rfl rfl (Qo h (vs := [_]) rfl call16 (Qf0 p _ _ 12 K hq dd hK) ss dd ?_); clear h; intro a w h
 refine gL h (zq 7 rfl rfl (.move rfl) ?_); clear h; intro a w h
 refine Zo 7 h rfl rfl (Qo h (vs := [_]) rfl call65 (Qfn b1 la K2 ha hK2) ss dd ?_); clear h; intro a w h
 refine gL h (zq 7 rfl rfl (.binOp rfl rfl (fun _ => Jv _ _ _ _ _)) (zp (.pickT rfl rfl) (za rfl (zn (zt ?_))))); clear h; intro a w h
 refine Jk h (Zd h rfl (.tmp rfl)) ?_
 refine congrArg Value.bool ?_
 exact decide_eq_true (by rw [Vn he])
theorem Qbg (s : ByteArray) (hsz : s.size ≤ 9223372036854775807) : Ctr Tryz.prog 29 [.string s] [] (fun v Ψ => ∃ ad c, v = .tuple #[.slice ad (rP s).length c, .int .i64 (rE s)] ∧ Ψ = [Row ad (cellsOf Qb (rP s))]) := by
 refine fn_intro func29 rfl ntmps29 nb ?_
 intro S w0 a hS h
 refine gC h (zS (za rfl (za rfl (zn (zS (zm rfl (zf [_] rfl call11 (Zg7 s hsz) ?_))))))); rintro v8 Ψ8 ⟨ad8, c8, rfl, rfl⟩
 refine zm rfl (zp (.eX rfl) (zp (.eX rfl) (zz Zpz fun b5 => za rfl (zt' rfl rfl Zl uu sizeOf28 rfl nb rfl ?_))))
 refine zn (zs (yD Za [0, 1, 2, 3, 4] (Zf kk) (ym rfl rfl (yp rfl (.fA rfl Zw0) (yd rfl rfl mr isAgg26 sizeOf26 Jn ?_)))))
 refine yp rfl (.assign rfl) (yp rfl (.assign rfl) (yn (zt ?_))); intro a w h
 refine Zy (Ψ := [Row ad8 (cellsOf Qb (rP s))]) h (Ql h rfl (.tmp rfl) (.tmp rfl)) ?_ ss
 exact ⟨ad8, c8, rfl, rfl⟩
set_option maxHeartbeats 2000000 in
theorem Zn7 (s : ByteArray) (hsz : s.size ≤ 9223372036854775807) : Gn Tryz.prog 8 [.string s] [TabF] (.bool true) := by
 refine fn_intro func8 rfl ntmps8 nb ?_
 intro S w0 a hS h
 refine gC h (zS (za rfl (zn (zs (zS (zm rfl (zp (.builtin [_] rfl (Zt _)) (zp (.gtr rfl rfl) ?_)))))))); clear h; intro a w h
 refine Zg h (fun hc11 h => ?_) (fun hc11 h => ?_)
 focus
  skip
  refine gL h (zm rfl (zo 12 rfl rfl rfl (zo 12 rfl rfl rfl (zp (.pickT rfl rfl) (zn ?_))))); clear h; intro a w h
 rotate_left
 focus
  have hs150 : s.size ≤ 150 := dF hc11
  refine gL h (zm rfl (zq 12 rfl rfl (.move rfl) ?_)); clear h; intro a w h
  refine Zo 12 h rfl rfl (Za0 h (vs := [_]) rfl call9 (Qft s oo) dd ?_); clear h; intro a w h
  refine Zg h (fun hc14 h => ?_) (fun hc14 h => ?_)
  rotate_left
  ·
   skip
   refine gL h (zp (.pickF rfl rfl) (zn ?_)); clear h; intro a w h
   refine cW ?_
   refine Ze h rfl ?_
   refine gC h (zk (zS (zm rfl (zf [_] rfl call11 (Zg7 s hsz) ?_)))); rintro v19 Ψ19 ⟨ad19, c19, rfl, rfl⟩
   refine zm rfl (zp (.eX rfl) (zp (.eX rfl) (zz Zpz fun b4 => za rfl (zt' rfl rfl Zl uu sizeOf28 rfl nb rfl ?_))))
   refine zn (zS (zm rfl (zf [_] rfl call28 (Qbp s hsz) ?_))); rintro v24 Ψ24 ⟨b24, l24, rfl, hl24, he24, rfl⟩
   refine zm rfl (zp (.eX rfl) (zp (.eX rfl) (zz Gv fun b6 => za rfl (zt' rfl rfl Zl uu sizeOf68 rfl nb rfl ?_))))
   refine zn (zS (zm rfl (zf [_] rfl call29 (Qbg s hsz) ?_))); rintro v29 Ψ29 ⟨ad29, c29, rfl, rfl⟩
   refine zm rfl (zp (.eX rfl) (zp (.eX rfl) (za rfl (za rfl (zn (zS (zm rfl (zm rfl (zw [_, _] rfl call30 (Qbk (rP s) ad19 c19 6400 b24 l24 6400 (Zma s).pq (Zma s).nrm dd (Zhj hl24 he24 (Zma s)) dd he24) ?_))))))))); intro a w h
   refine Zg h (fun hc34 h => ?_) (fun hc34 h => (absurd hc34 dd))
   refine gL h (zm rfl ?_); clear h; intro a w h
   refine Zo 35 h rfl rfl (Vb h rfl mr isAgg28 sizeOf28 Zh dd ?_); clear h; intro a h
   refine gL h (zq 35 rfl rfl (.fA rfl Zcd) ?_); clear h; intro a w h
   refine Zo 35 h rfl rfl (Vb h rfl mr isAgg26 sizeOf26 Jn dd ?_); clear h; intro a h
   refine gL h (zq 35 rfl rfl (.fA rfl Qem) ?_); clear h; intro a w h
   refine Zo 35 h rfl rfl (Vb h rfl mr isAgg3 sizeOf3 Jy dd ?_); clear h; intro a h
   refine gL h (zq 35 rfl rfl (.build [(_, _), (_, _)] rfl (Zfb _ _)) (zq 35 rfl rfl (.binOp rfl rfl (fun _ => Zkk _ _ ((rE s, ((rI s : Nat) : Int))) ((rE s, ((rI s : Nat) : Int))) _)) ?_)); clear h; intro a w h
   refine Zg h (fun hc42 h => ?_) (fun hc42 h => (absurd hc42 ss))
   refine gL h (zp (.pickT rfl rfl) (zm rfl (zq 44 rfl rfl (.move rfl) (zq 44 rfl rfl (.fA rfl Zw0) ?_)))); clear h; intro a w h
   refine Zo 44 h rfl rfl (Vb h rfl mr isAgg26 sizeOf26 Jn dd ?_); clear h; intro a h
   refine gL h (zq 44 rfl rfl (.eql rfl rfl) ?_); clear h; intro a w h
   refine Zg h (fun hc48 h => ?_) (fun hc48 h => (absurd hc48 ss))
   refine gL h (zp (.pickT rfl rfl) (zm rfl (zq 50 rfl rfl (.move rfl) (zq 50 rfl rfl (.move rfl) ?_)))); clear h; intro a w h
   refine Zo 50 h rfl rfl (Qo h (vs := [_, _]) rfl call12 (Qfr (rP s) (rP s) ad19 ad29 c19 c29 12 12 6400 6400 (Zma s).pq (Zma s).pq dd dd dd dd) ss dd ?_); clear h; intro a w h
   refine Zg h (fun hc53 h => ?_) (fun hc53 h => (absurd hc53 ss))
   refine gL h (zp (.pickT rfl rfl) (zm rfl (zq 55 rfl rfl (.move rfl) (zq 55 rfl rfl (.builtin [_] rfl (Qd _ _ _)) (zq 55 rfl rfl (.move rfl) (zq 55 rfl rfl (.builtin [_] rfl (Qd _ _ _)) (zq 55 rfl rfl (.eql rfl rfl) ?_))))))); clear h; intro a w h
   refine Zg h (fun hc60 h => ?_) (fun hc60 h => (absurd hc60 ss))
   refine gL h (zp (.pickT rfl rfl) (zm rfl ?_)); clear h; intro a w h
   refine Zo 62 h rfl rfl (Qo h (vs := []) rfl call10 (Znw) ss dd ?_); clear h; intro a w h
   refine gL h (zp (.pickT rfl rfl) (za rfl (zn (zt ?_)))); clear h; intro a w h
   exact Zeh h
  refine gL h (zp (.pickF rfl rfl) (zn ?_)); clear h; intro a w h
 all_goals
  refine cW ?_
  refine Zj h rfl ?_
  refine gC h (zS (zw [] rfl call10 (Znw) (za rfl (zn (zt ?_))))); clear h; intro a w h
  exact Zeh h
end
end Go.Proofs.YtgkicbaomcmfoaaGreatDoor
