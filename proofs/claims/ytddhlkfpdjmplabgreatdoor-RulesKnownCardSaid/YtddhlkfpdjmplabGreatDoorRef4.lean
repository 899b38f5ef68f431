/- Walks of functions. By an AI agent. -/
import Derived.Test.YtddhlkfpdjmplabGreatDoorLaw10j
import Derived.Test.YtddhlkfpdjmplabGreatDoorNumT
import Derived.Test.YtddhlkfpdjmplabGreatDoorFxD
set_option linter.unusedVariables false
set_option linter.unusedSimpArgs false
set_option maxRecDepth 4000
namespace Go.Proofs.YtddhlkfpdjmplabGreatDoor
open Go Go.Proofs Go.Fx Tryz
attribute [local irreducible] Oper.wp Code.wp wpList Fx.Head wpOp
section
theorem Zhj (x1 : Option Addr) (x1n : Nat) (x1c : Nat) (w : World) : (Instr.build 53 [(1, .slice x1 x1n x1c)].toArray).run Tryz.prog w = .ok (.agg #[.slice none 0 0, .slice x1 x1n x1c]) w := by simp [go_sem]
theorem Qci (b off n c lo : Nat) (h1 : lo ≤ n) (w : World) : (Instr.sliceAt 44 (.slice (some ⟨b, off, none⟩) n c) (some (.int .i64 (lo : Int))) none none).run Tryz.prog w = .ok (.slice (some ⟨b, if c = lo then off else off + lo * 5, none⟩) (n - lo) (c - lo)) w := Zbp runUnderlying44 sizeOf64 b off n c lo h1 w
theorem Zjf (p : Rat × Rat × Rat) : (Gb p).cells.size = 15 := rfl
theorem Zhh (p : Rat × Rat × Rat) : (Gb p).cells.toList = [] ++ (Zv p.1).cells.toList ++ ((Zv p.2.1).cells.toList ++ (Zv p.2.2).cells.toList) := rfl
theorem rdP (q : List (Rat × Rat × Rat)) (R : List Value) (k : Nat) (h : k < q.length) : Qv true 5 (cellsOf Gb q ++ R).toArray (0 + k * 15 + 0) = some (Zv (q.getD k (0, 0, 0)).1) := by
 have hg : q.getD k (0, 0, 0) = q[k] := by simp [List.getD, h]
 rw [hg, Zcx q k h, Zhh, Nat.zero_add, ← Vh Zjf q k h, List.append_assoc]
 exact Znk _ [] _ (Zv q[k].1).cells.toList _ 5 rfl
theorem stP (q : List (Rat × Rat × Rat)) (R : List Value) (k : Nat) (h : k < q.length) (x : Rat) :
  Qr (cellsOf Gb q ++ R).toArray (0 + k * 15 + 0) (Zv x).cells.toList = (cellsOf Gb (q.set k (x, (q.getD k (0, 0, 0)).2.1, (q.getD k (0, 0, 0)).2.2)) ++ R).toArray := by
 have hg : q.getD k (0, 0, 0) = q[k] := by simp [List.getD, h]
 rw [hg, Zcx q k h, Zeo q k h, Zhh, Zhh, Nat.zero_add, ← Vh Zjf q k h, List.append_assoc, List.append_assoc _ _ R]
 exact Zry _ [] _ (Zv q[k].1).cells.toList (Zv x).cells.toList _ rfl
theorem Kh : (.agg #[.int .u64 0, .string ⟨#[]⟩, .bool false, .int .u64 0, .string ⟨#[]⟩] : Value) = Zv 0 := rfl
theorem Qd8 (xs R : List Value) (j : Nat) (hj : j < xs.length) : (xs ++ R).toArray[0 + j]? = xs[j]? := by
 rw [Nat.zero_add]; simp [List.getElem?_append_left hj]
theorem stP_le (q : List (Rat × Rat × Rat)) (R : List Value) (k : Nat) (h : k < q.length) : 0 + k * 15 + 0 + 5 ≤ (cellsOf Gb q ++ R).toArray.size := by
 have := Zjp (enc := Gb) Zjf q R k h; omega
theorem Zv9 {P : List (Rat × Rat × Rat)} {W : List Rat} {k : Nat} {b : Rat} (hc : Kq P W = 0) (hk : k < P.length) (hb : b ≠ 0) : Kq (P.set k ((P.getD k (0, 0, 0)).1 + b, (P.getD k (0, 0, 0)).2.1, (P.getD k (0, 0, 0)).2.2)) W = 1 := by
 obtain ⟨hle, hs⟩ := Zml hc
 have h0 := hs _ (getD_mem P (d := (0, 0, 0)) hk)
 unfold Kq
 rw [List.length_set, if_pos hle, if_neg]
 intro h
 have h1 := h ((P.getD k (0, 0, 0)).1 + b, (P.getD k (0, 0, 0)).2.1, (P.getD k (0, 0, 0)).2.2) (List.mem_set hk _)
 apply hb
 have e0 : 0 + (P.getD k (0, 0, 0)).1 + (P.getD k (0, 0, 0)).2.1 + (P.getD k (0, 0, 0)).2.2 = ((1 : Int) : Rat) := h0
 have e1 : 0 + ((P.getD k (0, 0, 0)).1 + b) + (P.getD k (0, 0, 0)).2.1 + (P.getD k (0, 0, 0)).2.2 = ((1 : Int) : Rat) := h1
 rw [← e0] at e1
 grind
theorem raw_K {P : List (Rat × Rat × Rat)} {k : Nat} {b : Rat} (hP : ∀ p ∈ P, Qa p.1 ≤ 4 ∧ Qa p.2.1 ≤ 1000 ∧ Qa p.2.2 ≤ 1000) (hk : k < P.length) (hb : Qa b ≤ 4) :
  ∀ p ∈ P.set k ((P.getD k (0, 0, 0)).1 + b, (P.getD k (0, 0, 0)).2.1, (P.getD k (0, 0, 0)).2.2), Qa p.1 ≤ 1000 ∧ Qa p.2.1 ≤ 1000 ∧ Qa p.2.2 ≤ 1000 := fun p hp => by
 rcases List.mem_or_eq_of_mem_set hp with h | h
 · have := hP p h; exact ⟨oo, this.2⟩
 ·
  subst h
  have h1 := hP _ (getD_mem P (d := (0, 0, 0)) hk)
  have h2 := Qt (P.getD k (0, 0, 0)).1 b
  exact ⟨by show Qa ((P.getD k (0, 0, 0)).1 + b) ≤ 1000; omega, h1.2⟩
theorem madP4 {T : List (Int × Int)} (hok : ∀ q ∈ T, OkQ q) {n : Nat} (hn : 3 * n ≤ T.length) : ∀ p ∈ Zz (Gx T) n, Qa p.1 ≤ 4 ∧ Qa p.2.1 ≤ 1000 ∧ Qa p.2.2 ≤ 1000 := fun p hp => by
 have h1 := Vz hok hn p hp
 obtain ⟨j, hj, rfl⟩ := Zgf hp
 exact ⟨Zlz hok (j := 3 * j + 0) oo, h1.2⟩
set_option maxHeartbeats 4000000 in
theorem Zbi (ww : List ((Int × Int) × (Int × Int) × (Int × Int))) (av : Int) (bq : Int × Int) (mo : Bool) (l : List Ti) (ad0 ad : Option Addr) (c0 c : Nat) (hokw : ∀ q ∈ flW ww, OkQ q) (hbq : OkQ bq) (hokl : ∀ t ∈ l, OkT t) (hwn : ww.length ≤ 9223372036854775807) (hln : l.length ≤ 9223372036854775807) (qx : (Int × Int) × (Int × Int)) (qy : (Int × Int) × (Int × Int)) (qz : (Int × Int) × (Int × Int)) (hqx : OkP qx) (hqy : OkP qy) (hqz : OkP qz) : Ge Tryz.prog 11 [.slice ad0 ww.length c0, .int .i64 av, .agg #[.int .i64 bq.1, .int .u32 bq.2], .bool mo, .slice ad l.length c, Zba qx, Zba qy, Zba qz] [Row ad0 (cellsOf Zat ww), Row ad (cellsOf Yv l)] (.bool true) := by
 have hKa := Zit hqx
 have hKb := Zit hqy
 have hKc := Zit hqz
 obtain ⟨hb1, hb2, hb3, hb4⟩ := hbq
 refine fn_intro func11 rfl ntmps11 nb ?_
 intro S w0 a hS h
 rw [Zem ww] at h
 have hfl := Zhc ww
 refine gC h (zS (zx rfl fun b10 => zx rfl fun b13 => zx rfl fun b14 => zx rfl fun b15 => za rfl (zn (zs (zS (zm rfl (zp (.builtin [_] rfl (Ji _ _ _)) (zp (.gtr rfl rfl) ?_)))))))); clear h; intro a w h
 refine Zi h (fun hc29 h => ?_) (fun hc29 h => ?_)
 ·
  skip
  refine gL h (zm rfl (zo 30 rfl rfl rfl (zo 30 rfl rfl rfl (zo 30 rfl rfl rfl (zp (.pickT rfl rfl) (zn ?_)))))); clear h; intro a w h
  refine cW ?_
  refine Qf h rfl ?_
  refine gC h (zS (zv [] rfl call14 (Xl) (za rfl (zn (zt ?_))))); clear h; intro a w h
  exact Zag h
 ·
  skip
  refine gL h (zm rfl (zq 30 rfl rfl (.move rfl) (zq 30 rfl rfl (.builtin [_] rfl (Vy _ _ _)) (zq 30 rfl rfl (.gtr rfl rfl) ?_)))); clear h; intro a w h
  refine Zi h (fun hc33 h => ?_) (fun hc33 h => ?_)
  ·
   skip
   refine gL h (zp (.pickF rfl rfl) (zn ?_)); clear h; intro a w h
   refine cW ?_
   refine Qf h rfl ?_
   refine gC h (zS (zv [] rfl call14 (Xl) (za rfl (zn (zt ?_))))); clear h; intro a w h
   exact Zag h
  ·
   skip
   have hwl : ww.length ≤ 5 := dF hc29
   have hll : l.length ≤ 6 := dF hc33
   have hgx := Zg6 (d := 3) hokl hll dd dd
   obtain ⟨P, hP⟩ : ∃ P, P = Zz (Gx (flW ww)) ww.length := ⟨_, rfl⟩
   obtain ⟨W, hW⟩ : ∃ W, W = Zz (Zai (flW ww)) ww.length := ⟨_, rfl⟩
   have hlP : P.length = ww.length := by rw [hP, Zs]
   have hlW : W.length = ww.length := by rw [hW, Zs]
   have hch : Kq P W = 0 := by rw [hP, hW]; exact Kz _ _
   have hs4 : ∀ p ∈ P, Qa p.1 ≤ 4 ∧ Qa p.2.1 ≤ 1000 ∧ Qa p.2.2 ≤ 1000 := by rw [hP]; exact madP4 hokw oo
   refine gL h (zp (.pickF rfl rfl) (zn ?_)); clear h; intro a w h
   refine cW ?_
   refine Zn h rfl ?_
   refine gC h (zk (zS (zm rfl (zf [_, _] rfl call22 (Zk6 l _ _ 3 8 (by assumption) oo oo) ?_)))); clear h; rintro v37 Ψ37 ⟨ad37, c37, rfl, rfl⟩ a w h
   obtain ⟨G, hnG⟩ : ∃ G, norm (Vr 3 l) = G := ⟨_, rfl⟩
   rw [hnG] at h hgx
   refine gL h (za rfl (zn (zs (yD Za [0, 2, 4, 1, 3, 5, 6, 7, 8, 9, 10, 11] (Jy ⟨.inl rfl, .inl rfl, .inl rfl, .inl rfl, .inl rfl, .inl rfl, .inr ⟨18, 84, _, _, _, rfl, rfl, by decide, _, Vu⟩, .inr ⟨19, 84, _, _, _, rfl, rfl, by decide, _, Vu⟩, .inr ⟨20, 84, _, _, _, rfl, rfl, by decide, _, Vu⟩, .inl rfl, .inl rfl, .inl rfl, trivial⟩) (yd rfl rfl mr isAgg30 sizeOf30 Qk ?_))))); clear h
   refine yd rfl rfl mr isAgg30 sizeOf30 Qk ?_
   refine yd rfl rfl mr isAgg30 sizeOf30 Qk ?_
   refine yv [_] rfl rfl call25 (Zfe qx (by assumption)) (yv [_] rfl rfl call25 (Zfe qy (by assumption)) (yv [_] rfl rfl call25 (Zfe qz (by assumption)) (yz rfl Vu fun b18 => yz rfl Vu fun b19 => yz rfl Vu fun b20 => yt rfl rfl rfl Ya uu sizeOf84 rfl nb rfl ?_)))
   refine yt rfl rfl rfl Ya uu sizeOf84 rfl nb rfl ?_
   refine yt rfl rfl rfl Ya uu sizeOf84 rfl nb rfl ?_
   refine yn (zS (zm rfl ?_)); intro a w h
   refine Zl (Kl h hS (vs := [_]) rfl call13 (Zm0 _ _ ww _ [Row ad37 (cellsOf Jb G), Row ad (cellsOf Yv l)] hokw oo) (List.Perm.refl _) ss ss ?_); clear h; rintro v45 σ45 Ψ45 a w ⟨ad45, c45, o45, bd45, d45, p45, rfl, hG45, hH45, rfl, rfl⟩ h
   rw [← hP] at h hG45
   rw [← hW] at h hH45
   replace h := St.shareO' (h.perm (List.perm_append_comm_assoc _ _ _)) hS hH45
   refine gL h (zz zeroValue46 fun b21 => zt' rfl rfl Zq uu sizeOf46 rfl nb (by show ((flat (.slice ad45 P.length c45) && (flat (.slice bd45 W.length d45) && true))) = true; simp only [GrowO.flat (hG45)]; rfl) ?_)
   refine zn (zs (zS (zm rfl (zp (.builtin [_] rfl (Ji _ _ _)) (zp (.gtr rfl rfl) ?_))))); intro a w h
   refine Zi h (fun hc48 h => ?_) (fun hc48 h => ?_)
   ·
    skip
    have hpos : 0 < ww.length := dT hc48
    obtain ⟨k, hk, hkl⟩ : ∃ k, k = uN av % ww.length ∧ k < P.length := ⟨_, rfl, by rw [hlP]; exact Nat.mod_lt _ hpos⟩
    obtain ⟨bP, RP, rfl, rfl, hRP, hcP⟩ := hG45.open oo
    rw [List.cons_append, List.nil_append] at h
    have hp4 := hs4 _ (getD_mem P (d := (0, 0, 0)) hkl)
    refine wpList_nil ?_
    refine cW ?_
    refine Qf h rfl ?_
    refine gC h (zS (zm rfl (zp (Pure1.cast (v' := .int .u64 ((uN av : Nat) : Int)) (.convert rfl (Zce _)) (by rw [Zpw])) (zm rfl (zp (.builtin [_] rfl (Ji _ _ _)) (zp (Pure1.cast (v' := .int .u64 ((ww.length : Nat) : Int)) (.convert rfl (Zce _)) (by rw [wrap_u64 _ oo oo])) (zp (Pure1.cast (v' := .int .u64 ((k : Nat) : Int)) (.binOp rfl rfl (fun _ => Vm _ _ _ _ _ oo)) (by rw [Yi, ← hk])) (zp (Pure1.cast (v' := .int .i64 ((k : Nat) : Int)) (.convert rfl (Zmj _)) (by rw [wrap_i64 _ oo oo])) (za rfl (zn (zs (yD Za [0, 1, 2, 3, 4, 5, 6, 7, 8, 9, 12, 10, 11, 13, 14] (Zc kk) (yp rfl (.fA rfl Xc) (yd rfl rfl mr isAgg43 sizeOf43 Ql ?_)))))))))))))); clear h
    refine ym rfl rfl (yp rfl (.fA rfl Xc) (yd rfl rfl mr isAgg43 sizeOf43 Ql ?_))
    refine ym rfl rfl (yp rfl (.indexAddr rfl rfl (Zh1 _ _ _ _ _ oo)) (yp rfl (.indexAddr rfl rfl (Zdf _ _)) (yd rfl rfl mr isAgg64 sizeOf64 (rdP _ _ _ hkl) ?_)))
    refine yd rfl rfl mr isAgg24 sizeOf24 Zg ?_
    refine yp rfl (.indexAddr rfl rfl (Zh1 _ _ _ _ _ oo)) (yv [_] rfl rfl call41 (Zes bq.1 bq.2 oo oo oo oo) ?_)
    have hl66 := Yd bq.1 bq.2 oo oo oo oo
    refine yv [_, _] rfl rfl call37 (Gc _ _ oo oo) ?_
    have hl67 := Qt ((P.getD k (0, 0, 0)).1) (qv bq.1 bq.2)
    refine yp rfl (.indexAddr rfl rfl (Zdf _ _)) (yt rfl rfl rfl (stP _ _ _ hkl _) uu sizeOf64 rfl (stP_le _ _ _ hkl) rfl ?_)
    refine yn (zS ?_); intro a w h
    replace h := h.perm (List.Perm.swap _ _ _)
    replace h := St.share (off := 0) (M := cellsOf Gb (P.set k ((P.getD k (0, 0, 0)).1 + qv bq.1 bq.2, (P.getD k (0, 0, 0)).2.1, (P.getD k (0, 0, 0)).2.2))) h hS (fun j hj => Qd8 _ _ j hj)
    obtain ⟨P2, hP2⟩ : ∃ P2, P2 = P.set k ((P.getD k (0, 0, 0)).1 + qv bq.1 bq.2, (P.getD k (0, 0, 0)).2.1, (P.getD k (0, 0, 0)).2.2) := ⟨_, rfl⟩
    have hl2 : P.length = P2.length := by rw [hP2, List.length_set]
    have hsP2 : ∀ p ∈ P2, Qa p.1 ≤ 1000 ∧ Qa p.2.1 ≤ 1000 ∧ Qa p.2.2 ≤ 1000 := by rw [hP2]; exact raw_K hs4 hkl (Yd _ _ hb1 hb2 hb3 hb4)
    have hck2 : qv bq.1 bq.2 ≠ 0 → Kq P2 W = 1 := fun hb => by rw [hP2]; exact Zv9 hch hkl hb
    rw [← hP2, hl2] at h
    refine gL h (zd rfl mr isAgg24 sizeOf24 Zg ?_)
    refine zv [_] rfl call41 (Zes bq.1 bq.2 oo oo oo oo) ?_
    have hl71 := Yd bq.1 bq.2 oo oo oo oo
    refine zv [_] rfl call40 (Zj6 _) (zp (.neq rfl rfl) ?_); intro a w h
    refine Zi h (fun hc73 h => ?_) (fun hc73 h => ?_)
    ·
     skip
     have hnz : qv bq.1 bq.2 ≠ 0 := fun e => by rw [e] at hc73; exact absurd hc73 dd
     refine gL h (zm rfl ?_); clear h; intro a w h
     refine Zf 74 h rfl rfl (Qc h rfl mr isAgg46 sizeOf46 Zg dd ?_); clear h; intro a h
     refine Zf 74 h rfl rfl (Jn h (vs := [_]) rfl call23 (Zf0 _ _ c45 d45 P2 W oo oo hsP2) ss dd ?_); clear h; intro a w h
     refine gL h (zq 74 rfl rfl (.neq rfl rfl) ?_); clear h; intro a w h
     refine Zi h (fun hc77 h => (by exfalso; rw [hck2 hnz] at hc77; exact absurd hc77 dd)) (fun hc77 h => ?_)
     refine gL h (zq 74 rfl rfl (.move rfl) ?_); clear h; intro a w h
     refine Zf 78 h rfl rfl (Qc h rfl mr isAgg46 sizeOf46 Zg dd ?_); clear h; intro a h
     refine Zf 78 h rfl rfl (Jn h (vs := [_]) rfl call12 (Zrp _ _ c45 d45 P2 W oo oo hsP2 (by rw [hck2 hnz]; decide)) ss dd ?_); clear h; intro a w h
     refine gL h (zq 78 rfl rfl (.neq rfl rfl) ?_); clear h; intro a w h
     refine Zi h (fun hc81 h => (absurd hc81 dd)) (fun hc81 h => ?_)
     refine gL h (zq 74 rfl rfl (.pickF rfl rfl) (zq 74 rfl rfl (.move rfl) ?_)); clear h; intro a w h
     refine Zf 83 h rfl rfl (Qc h rfl mr isAgg46 sizeOf46 Zg dd ?_); clear h; intro a h
     refine gL h (zq 83 rfl rfl (.move rfl) ?_); clear h; intro a w h
     refine Zf 83 h rfl rfl (Qc h rfl mr isAgg84 sizeOf84 Zk dd ?_); clear h; intro a h
     refine Zf 83 h rfl rfl (Qc h rfl mr isAgg84 sizeOf84 Zk dd ?_); clear h; intro a h
     refine Zf 83 h rfl rfl (Qc h rfl mr isAgg84 sizeOf84 Zk dd ?_); clear h; intro a h
     refine Zf 83 h rfl rfl (Jn h (vs := [_, _, _, _, _]) rfl call24 (Zrq _ _ c45 d45 P2 W oo oo hsP2 (by rw [hck2 hnz]; decide) ad37 G.length c37 (ptv qx) (ptv qy) (ptv qz)) ss dd ?_); clear h; intro a w h
     refine gL h (zq 83 rfl rfl (Pure1.cast (v' := Zv 0) (.build [] rfl (Zad)) (by exact Kh)) (zq 83 rfl rfl (.binOp rfl rfl (fun _ => Kr _ _ 0 0 _)) ?_)); clear h; intro a w h
     refine Zi h (fun hc91 h => (absurd hc91 dd)) (fun hc91 h => ?_)
     refine gL h (zq 74 rfl rfl (.pickF rfl rfl) (zp (.pickT rfl rfl) (zn ?_))); clear h; intro a w h
     refine cW ?_
     refine Zn h rfl ?_
     refine wp_skip (wp_seq (wp_region_lit ?_))
     replace h := h.drop (List.sublist_cons_self _ _)
     replace h := h.factsSub (Φ' := [Row ad0 (cellsOf Za9 (flW ww)), Row ad37 (cellsOf Jb G), Row ad (cellsOf Yv l)]) (by intro R hR; simp only [List.mem_cons, List.not_mem_nil, or_false] at hR; rcases hR with rfl | rfl | rfl <;> repeat (first | exact List.Mem.head _ | apply List.Mem.tail))
     refine gL h (zm rfl ?_); clear h; intro a w h
     refine Zl (Kl h hS (vs := [_]) rfl call13 (Zm0 _ _ ww _ [Row ad37 (cellsOf Jb G), Row ad (cellsOf Yv l)] hokw oo) (List.Perm.refl _) ss ss ?_); clear h; rintro v95 σ95 Ψ95 a w ⟨ad95, c95, o95, bd95, d95, p95, rfl, hG95, hH95, rfl, rfl⟩ h
     rw [← hP] at h hG95
     rw [← hW] at h hH95
     replace h := St.shareO' h hS hG95
     refine gL h (zz zeroValue46 fun b23 => zt' rfl rfl Zq uu sizeOf46 rfl nb (by show ((flat (.slice ad95 P.length c95) && (flat (.slice bd95 W.length d95) && true))) = true; simp only [GrowO.flat (hH95)]; rfl) ?_)
     refine zn (zs (zS (zm rfl (zm rfl ?_)))); intro a w h
     refine Zi h (fun hc97 h => ?_) (fun hc97 h => ?_)
     ·
      skip
      refine gL h (zo 97 rfl rfl rfl (zo 97 rfl rfl rfl (zo 97 rfl rfl rfl (zp (.pickT rfl rfl) (zn ?_))))); clear h; intro a w h
      refine cW ?_
      refine Qf h rfl ?_
      refine gC h (yD Za [0, 1, 2, 3, 4, 5, 6] (Zc kk) (yp rfl (.fA rfl Qx) (yd rfl rfl mr isAgg44 sizeOf44 Qi ?_))); clear h
      refine yv [_] rfl rfl call31 (Vg _ oo oo) ?_
      have hl104 := Qo (1) oo oo
      refine yB rfl [(_, _)] rfl (Xb _ _ _ _ _) fun b105 => ?_
      refine Qm (σr := [(b23, bV (.agg #[.slice ad95 P.length c95, (.slice bd95 W.length d95)]) 46), (b20, bV (Zak ((ptv qz).1) ((ptv qz).2)) 84), (b19, bV (Zak ((ptv qy).1) ((ptv qy).2)) 84), (b18, bV (Zak ((ptv qx).1) ((ptv qx).2)) 84), (b15, bV (Zba (qz)) 30), (b14, bV (Zba (qy)) 30), (b13, bV (Zba (qx)) 30), (b10, bV (.agg #[.int .i64 bq.1, .int .u32 bq.2]) 24)]) rfl kk rfl rfl (List.Perm.trans (List.Perm.refl _) (List.Perm.cons _ (Zbv (List.Perm.refl _)))) hH95 runUnderlying44 runUnderlying44 typeInfo64 sizeOf64 Ja rfl dd dd rfl rfl dd (by show 56 * (2 * ((W).length + 1) + 192) ≤ 281474976710656; omega) dd ?_
      intro v106 o106 hG106
      obtain ⟨ad106, c106, rfl⟩ := hG106.is
      have hLn106 : (W).length + 1 = (W ++ [((1 : Int) : Rat)]).length := lA
      rw [hLn106]; rw [hLn106] at hG106
      replace hG106 : GrowO 5 64 (.slice ad106 (W ++ [((1 : Int) : Rat)]).length c106) (W ++ [((1 : Int) : Rat)]).length (cellsOf Zv (W ++ [((1 : Int) : Rat)])) o106 := by rw [Zo, Qb]; exact hG106
      refine yp rfl (.fA rfl Qx) (yt rfl rfl rfl Zan uu sizeOf44 rfl nb (by show ((flat ((.slice ad106 (W ++ [((1 : Int) : Rat)]).length c106)) && true)) = true; simp only [GrowO.flat (hG106)]; rfl) ?_)
      refine yn (zS ?_); intro a w h
      obtain ⟨nw, hnw, hne⟩ : ∃ nw, (W ++ [((1 : Int) : Rat)]).length = nw ∧ P.length ≠ nw := ⟨_, rfl, by rw [List.length_append]; simp only [List.length_singleton]; omega⟩
      obtain ⟨adw, hadw⟩ : ∃ x, ad106 = x := ⟨_, rfl⟩
      obtain ⟨cw, hcw⟩ : ∃ x, c106 = x := ⟨_, rfl⟩
      rw [hnw, hadw, hcw] at h
      replace h := h.drop (List.sublist_append_right _ _)
      refine gL h (zp (.fA rfl Qx) (zd rfl mr isAgg44 sizeOf44 Qi ?_))
      refine zp (.build [(_, _)] rfl (Zhj _ _ _)) (zz zeroValue53 fun b24 => zt' rfl rfl Zq uu sizeOf53 rfl nb rfl ?_)
      refine zn (zs (zS (za rfl (zn (zb ?_))))); intro a w h
      refine Zd (fun (i : Nat) a w => i ≤ ww.length ∧ ∃ (ad1 : Option Addr) (c1 : Nat) (o1 : List (Nat × Obj)), (GrowO 5 64 (.slice ad1 (Zz (fun j => qa (flW ww) (3 * j + 0)) i).length c1) (Zz (fun j => qa (flW ww) (3 * j + 0)) i).length (cellsOf Zv (Zz (fun j => qa (flW ww) (3 * j + 0)) i)) o1) ∧ St 168 S w0 [(0, .slice ad0 ww.length c0), (16, .bool false), (17, .slice ad37 ((G).length) c37), (18, pB b18), (19, pB b19), (20, pB b20), (23, pB b23), (24, pB b24), (25, nI i)] (o1 ++ ((b24, bV (.agg #[(.slice ad1 (Zz (fun j => qa (flW ww) (3 * j + 0)) i).length c1), .slice adw nw cw]) 53) :: ((b23, bV (.agg #[.slice ad95 P.length c95, .slice adw nw cw]) 46) :: ((b20, bV (Zak ((ptv qz).1) ((ptv qz).2)) 84) :: ((b19, bV (Zak ((ptv qy).1) ((ptv qy).2)) 84) :: ((b18, bV (Zak ((ptv qx).1) ((ptv qx).2)) 84) :: [])))))) [Row ad95 (cellsOf Gb P), Row ad0 (cellsOf Za9 (flW ww)), Row ad37 (cellsOf Jb G), Row ad (cellsOf Yv l)] a w) (fun i => ww.length - i) 0 (⟨Nat.zero_le _, none, 0, [], GrowO.nil _ _, by exact ((h.drop sl)).sub sA⟩) ?_; clear h
      rintro i a w ⟨hi_i, ad1, c1, o1, hG1, h⟩
      refine gC h (zs (zS (zm rfl (zm rfl (zp (.builtin [_] rfl (Ji _ _ _)) (zp (.lss rfl rfl) (zn ?_))))))); clear h; intro a w h
      refine cW ?_
      refine Zb h rfl (fun hc118 => ?_) (fun hc118 => ?_)
      ·
       skip
       have hlt_i : i < ww.length := dT hc118
       obtain ⟨B_ad0, O_ad0, rfl⟩ := h.row_addr (ad := ad0) (M := cellsOf Za9 (flW ww)) mm (nE 2)
       obtain ⟨hq0a, hq0b, hq0c, hq0d⟩ := hokw _ (getD_mem (flW ww) (i := 3 * i + 0) (d := (0, 0)) oo)
       have hg1 := Zs (fun j => qa (flW ww) (3 * j + 0)) i
       refine gC h (zk (zs (zb (yD Za [0, 1, 2, 3, 4, 5, 6, 7, 8, 9, 10, 11] (Zc kk) (yp rfl (.fA rfl Xi) (yd rfl rfl mr isAgg44 sizeOf44 Ql ?_)))))); clear h
       refine ym rfl rfl (ym rfl rfl (yp rfl (.indexAddr rfl rfl (Zft _ _ _ _ _ oo)) (yp rfl (Pure1.cast (v' := .pointer (some ⟨B_ad0, O_ad0 + (3 * i + 0) * 2, none⟩)) (.fA rfl Zdi) (by rw [show O_ad0 + i * 6 + 0 = O_ad0 + (3 * i + 0) * 2 by omega])) ?_)))
       refine Zj rfl kk rfl mm (cells_lt (k := 2) dd (fun _ => rfl) (flW ww) (3 * i + 0) oo) isAgg24 sizeOf24 (Zm (k := 2) (fun _ => rfl) ((fun _ => rfl)) (flW ww) (0, 0) (3 * i + 0) oo) (.inl rfl) dd ?_
       refine yv [_] rfl rfl call41 (Zes (((flW ww).getD (3 * i + 0) (0, 0)).1) (((flW ww).getD (3 * i + 0) (0, 0)).2) oo oo oo oo) ?_
       have hl128 := Yd (((flW ww).getD (3 * i + 0) (0, 0)).1) (((flW ww).getD (3 * i + 0) (0, 0)).2) oo oo oo oo
       refine yB rfl [(_, _)] rfl (Xb _ _ _ _ _) fun b129 => ?_
       refine Qm (σr := [(b24, bV (.agg #[(.slice ad1 (Zz (fun j => qa (flW ww) (3 * j + 0)) i).length c1), .slice adw nw cw]) 53), (b23, bV (.agg #[.slice ad95 P.length c95, .slice adw nw cw]) 46), (b20, bV (Zak ((ptv qz).1) ((ptv qz).2)) 84), (b19, bV (Zak ((ptv qy).1) ((ptv qy).2)) 84), (b18, bV (Zak ((ptv qx).1) ((ptv qx).2)) 84)]) rfl kk rfl rfl (List.Perm.trans (List.Perm.refl _) (List.Perm.cons _ (List.Perm.refl _))) hG1 runUnderlying44 runUnderlying44 typeInfo64 sizeOf64 Ja rfl dd dd rfl rfl dd (by show 56 * (2 * ((Zz (fun j => qa (flW ww) (3 * j + 0)) i).length + 1) + 192) ≤ 281474976710656; omega) dd ?_
       intro v130 o130 hG130
       obtain ⟨ad130, c130, rfl⟩ := hG130.is
       have hLn130 : (Zz (fun j => qa (flW ww) (3 * j + 0)) i).length + 1 = ((Zz (fun j => qa (flW ww) (3 * j + 0)) i) ++ [qv (((flW ww).getD (3 * i + 0) (0, 0)).1) (((flW ww).getD (3 * i + 0) (0, 0)).2)]).length := lA
       rw [hLn130]; rw [hLn130] at hG130
       replace hG130 : GrowO 5 64 (.slice ad130 ((Zz (fun j => qa (flW ww) (3 * j + 0)) i) ++ [qv (((flW ww).getD (3 * i + 0) (0, 0)).1) (((flW ww).getD (3 * i + 0) (0, 0)).2)]).length c130) ((Zz (fun j => qa (flW ww) (3 * j + 0)) i) ++ [qv (((flW ww).getD (3 * i + 0) (0, 0)).1) (((flW ww).getD (3 * i + 0) (0, 0)).2)]).length (cellsOf Zv ((Zz (fun j => qa (flW ww) (3 * j + 0)) i) ++ [qv (((flW ww).getD (3 * i + 0) (0, 0)).1) (((flW ww).getD (3 * i + 0) (0, 0)).2)])) o130 := by rw [Zo, Qb]; exact hG130
       refine yp rfl (.fA rfl Xi) (yt rfl rfl rfl Zao uu sizeOf44 rfl nb (by show ((flat ((.slice ad130 ((Zz (fun j => qa (flW ww) (3 * j + 0)) i) ++ [qv (((flW ww).getD (3 * i + 0) (0, 0)).1) (((flW ww).getD (3 * i + 0) (0, 0)).2)]).length c130)) && true)) = true; simp only [GrowO.flat (hG130)]; rfl) ?_)
       refine yn (zr (zm rfl (zp (.pN (i + 1) (.add rfl rfl)) (za rfl (zn ?_))))); intro a w h
       exact ⟨i + 1, ⟨oo, ad130, c130, o130, hG130, by exact (h.factsSub (by simp)).sub sA⟩, oo⟩
      ·
       skip
       have heq_i : ww.length = i := dF hc118
       subst heq_i
       refine gC h (ze (zS (zd rfl mr isAgg46 sizeOf46 Zg ?_)))
       refine zm rfl (zd rfl mr isAgg84 sizeOf84 Zk ?_)
       refine zd rfl mr isAgg84 sizeOf84 Zk ?_
       refine zd rfl mr isAgg84 sizeOf84 Zk ?_
       refine zv [_, _, _, _, _] rfl call24 (Zbk ad95 adw P.length nw c95 cw hne ad37 G.length c37 (ptv qx) (ptv qy) (ptv qz)) (zp (Pure1.cast (v' := Zv 0) (.build [] rfl (Zad)) (by exact Kh)) (zp (.binOp rfl rfl (fun _ => Ks _ _ 0 0 _)) ?_)); intro a w h
       refine Zi h (fun hc139 h => ?_) (fun hc139 h => (absurd hc139 dd))
       refine gL h (zm rfl ?_); clear h; intro a w h
       refine Zf 140 h rfl rfl (Qc h rfl mr isAgg53 sizeOf53 Zg dd ?_); clear h; intro a h
       refine gL h (zq 140 rfl rfl (.move rfl) ?_); clear h; intro a w h
       refine Zf 140 h rfl rfl (Qc h rfl mr isAgg84 sizeOf84 Zk dd ?_); clear h; intro a h
       refine Zf 140 h rfl rfl (Qc h rfl mr isAgg84 sizeOf84 Zk dd ?_); clear h; intro a h
       refine Zf 140 h rfl rfl (Qu h (vs := [_, _, _, _]) rfl call28 (Vk ad1 adw (Zz (fun j => qa (flW ww) (3 * j + 0)) ww.length).length nw c1 cw (by rw [Zs]; omega) ad37 G.length c37 (ptv qx) (ptv qy)) dd ?_); clear h; intro a w h
       refine gL h (zq 140 rfl rfl (Pure1.cast (v' := Zv 0) (.build [] rfl (Zad)) (by exact Kh)) (zq 140 rfl rfl (.binOp rfl rfl (fun _ => Ks _ _ 0 0 _)) ?_)); clear h; intro a w h
       refine Zi h (fun hc147 h => ?_) (fun hc147 h => (absurd hc147 dd))
       refine gL h (zp (.pickT rfl rfl) (za rfl (zn (zS (zd rfl mr isAgg46 sizeOf46 Zg ?_)))))
       refine zv [_] rfl call23 (Gn ad95 adw P.length nw c95 cw hne) (zp (.eql rfl rfl) ?_); intro a w h
       refine Zi h (fun hc151 h => ?_) (fun hc151 h => (absurd hc151 dd))
       refine gL h (zm rfl ?_); clear h; intro a w h
       refine Zf 152 h rfl rfl (Qc h rfl mr isAgg46 sizeOf46 Zg dd ?_); clear h; intro a h
       refine Zf 152 h rfl rfl (Qu h (vs := [_]) rfl call12 (Zbj ad95 adw P.length nw c95 cw hne) dd ?_); clear h; intro a w h
       refine gL h (zq 152 rfl rfl (.eql rfl rfl) ?_); clear h; intro a w h
       refine Zi h (fun hc155 h => ?_) (fun hc155 h => (absurd hc155 dd))
       refine gL h (zp (.pickT rfl rfl) (zm rfl ?_)); clear h; intro a w h
       refine Zf 157 h rfl rfl (Qc h rfl mr isAgg53 sizeOf53 Zg dd ?_); clear h; intro a h
       refine Zf 157 h rfl rfl (Qu h (vs := [_]) rfl call27 (Vj ad1 adw (Zz (fun j => qa (flW ww) (3 * j + 0)) ww.length).length nw c1 cw (by rw [Zs]; omega)) dd ?_); clear h; intro a w h
       refine gL h (zq 157 rfl rfl (.eql rfl rfl) ?_); clear h; intro a w h
       refine Zi h (fun hc160 h => ?_) (fun hc160 h => (absurd hc160 dd))
       refine gL h (zp (.pickT rfl rfl) (zm rfl (zq 162 rfl rfl (.move rfl) (zp (.pickT rfl rfl) (zm rfl ?_))))); clear h; intro a w h
       refine Zf 165 h rfl rfl (Qu h (vs := []) rfl call14 (Xl) dd ?_); clear h; intro a w h
       refine gL h (zp (.pickT rfl rfl) (za rfl (zn (zt ?_)))); clear h; intro a w h
       exact Zag h
     ·
      skip
      refine gL h (zq 97 rfl rfl (.move rfl) (zq 97 rfl rfl (.builtin [_] rfl (Ji _ _ _)) (zq 97 rfl rfl (.eql rfl rfl) ?_))); clear h; intro a w h
      refine Zi h (fun hc100 h => (by exfalso; have := of_decide_eq_true hc100; omega)) (fun hc100 h => ?_)
      refine gL h (zp (.pickF rfl rfl) (zn ?_)); clear h; intro a w h
      refine cW ?_
      refine Zn h rfl ?_
      refine wp_region_lit ?_
      obtain ⟨bW, RW, rfl, rfl, hRW, hcW⟩ := hH95.open oo
      rw [List.cons_append, List.nil_append] at h
      refine gL h (zp (.fA rfl Qx) (zd rfl mr isAgg44 sizeOf44 Qi ?_))
      refine zp (.slice rfl (some _) none none rfl rfl rfl (Qci _ _ _ _ _ (by show 1 ≤ W.length; omega))) (zp (.fA rfl Qx) (zt' rfl rfl Zan uu sizeOf44 rfl nb rfl ?_)); intro a w h
      refine wpList_nil (wp_seq (wp_region_lit ?_))
      obtain ⟨nw, hnw, hne⟩ : ∃ nw, W.length - 1 = nw ∧ P.length ≠ nw := ⟨_, rfl, oo⟩
      obtain ⟨adw, hadw⟩ : ∃ x, some (⟨bW, if d95 = 1 then 0 else 0 + 1 * 5, none⟩ : Addr) = x := ⟨_, rfl⟩
      obtain ⟨cw, hcw⟩ : ∃ x, d95 - 1 = x := ⟨_, rfl⟩
      rw [hnw, hadw, hcw] at h
      replace h := h.drop (List.Sublist.cons_cons _ (List.sublist_cons_self _ _))
      refine gL h (zp (.fA rfl Qx) (zd rfl mr isAgg44 sizeOf44 Qi ?_))
      refine zp (.build [(_, _)] rfl (Zhj _ _ _)) (zz zeroValue53 fun b24 => zt' rfl rfl Zq uu sizeOf53 rfl nb rfl ?_)
      refine zn (zs (zS (za rfl (zn (zb ?_))))); intro a w h
      refine Zd (fun (i : Nat) a w => i ≤ ww.length ∧ ∃ (ad1 : Option Addr) (c1 : Nat) (o1 : List (Nat × Obj)), (GrowO 5 64 (.slice ad1 (Zz (fun j => qa (flW ww) (3 * j + 0)) i).length c1) (Zz (fun j => qa (flW ww) (3 * j + 0)) i).length (cellsOf Zv (Zz (fun j => qa (flW ww) (3 * j + 0)) i)) o1) ∧ St 168 S w0 [(0, .slice ad0 ww.length c0), (16, .bool false), (17, .slice ad37 ((G).length) c37), (18, pB b18), (19, pB b19), (20, pB b20), (23, pB b23), (24, pB b24), (25, nI i)] (o1 ++ ((b24, bV (.agg #[(.slice ad1 (Zz (fun j => qa (flW ww) (3 * j + 0)) i).length c1), .slice adw nw cw]) 53) :: ((b23, bV (.agg #[.slice ad95 P.length c95, .slice adw nw cw]) 46) :: ((b20, bV (Zak ((ptv qz).1) ((ptv qz).2)) 84) :: ((b19, bV (Zak ((ptv qy).1) ((ptv qy).2)) 84) :: ((b18, bV (Zak ((ptv qx).1) ((ptv qx).2)) 84) :: [])))))) [Row ad95 (cellsOf Gb P), Row ad0 (cellsOf Za9 (flW ww)), Row ad37 (cellsOf Jb G), Row ad (cellsOf Yv l)] a w) (fun i => ww.length - i) 0 (⟨Nat.zero_le _, none, 0, [], GrowO.nil _ _, by exact ((h.drop sl)).sub sA⟩) ?_; clear h
      rintro i a w ⟨hi_i, ad1, c1, o1, hG1, h⟩
      refine gC h (zs (zS (zm rfl (zm rfl (zp (.builtin [_] rfl (Ji _ _ _)) (zp (.lss rfl rfl) (zn ?_))))))); clear h; intro a w h
      refine cW ?_
      refine Zb h rfl (fun hc118 => ?_) (fun hc118 => ?_)
      ·
       skip
       have hlt_i : i < ww.length := dT hc118
       obtain ⟨B_ad0, O_ad0, rfl⟩ := h.row_addr (ad := ad0) (M := cellsOf Za9 (flW ww)) mm (nE 2)
       obtain ⟨hq0a, hq0b, hq0c, hq0d⟩ := hokw _ (getD_mem (flW ww) (i := 3 * i + 0) (d := (0, 0)) oo)
       have hg1 := Zs (fun j => qa (flW ww) (3 * j + 0)) i
       refine gC h (zk (zs (zb (yD Za [0, 1, 2, 3, 4, 5, 6, 7, 8, 9, 10, 11] (Zc kk) (yp rfl (.fA rfl Xi) (yd rfl rfl mr isAgg44 sizeOf44 Ql ?_)))))); clear h
       refine ym rfl rfl (ym rfl rfl (yp rfl (.indexAddr rfl rfl (Zft _ _ _ _ _ oo)) (yp rfl (Pure1.cast (v' := .pointer (some ⟨B_ad0, O_ad0 + (3 * i + 0) * 2, none⟩)) (.fA rfl Zdi) (by rw [show O_ad0 + i * 6 + 0 = O_ad0 + (3 * i + 0) * 2 by omega])) ?_)))
       refine Zj rfl kk rfl mm (cells_lt (k := 2) dd (fun _ => rfl) (flW ww) (3 * i + 0) oo) isAgg24 sizeOf24 (Zm (k := 2) (fun _ => rfl) ((fun _ => rfl)) (flW ww) (0, 0) (3 * i + 0) oo) (.inl rfl) dd ?_
       refine yv [_] rfl rfl call41 (Zes (((flW ww).getD (3 * i + 0) (0, 0)).1) (((flW ww).getD (3 * i + 0) (0, 0)).2) oo oo oo oo) ?_
       have hl128 := Yd (((flW ww).getD (3 * i + 0) (0, 0)).1) (((flW ww).getD (3 * i + 0) (0, 0)).2) oo oo oo oo
       refine yB rfl [(_, _)] rfl (Xb _ _ _ _ _) fun b129 => ?_
       refine Qm (σr := [(b24, bV (.agg #[(.slice ad1 (Zz (fun j => qa (flW ww) (3 * j + 0)) i).length c1), .slice adw nw cw]) 53), (b23, bV (.agg #[.slice ad95 P.length c95, .slice adw nw cw]) 46), (b20, bV (Zak ((ptv qz).1) ((ptv qz).2)) 84), (b19, bV (Zak ((ptv qy).1) ((ptv qy).2)) 84), (b18, bV (Zak ((ptv qx).1) ((ptv qx).2)) 84)]) rfl kk rfl rfl (List.Perm.trans (List.Perm.refl _) (List.Perm.cons _ (List.Perm.refl _))) hG1 runUnderlying44 runUnderlying44 typeInfo64 sizeOf64 Ja rfl dd dd rfl rfl dd (by show 56 * (2 * ((Zz (fun j => qa (flW ww) (3 * j + 0)) i).length + 1) + 192) ≤ 281474976710656; omega) dd ?_
       intro v130 o130 hG130
       obtain ⟨ad130, c130, rfl⟩ := hG130.is
       have hLn130 : (Zz (fun j => qa (flW ww) (3 * j + 0)) i).length + 1 = ((Zz (fun j => qa (flW ww) (3 * j + 0)) i) ++ [qv (((flW ww).getD (3 * i + 0) (0, 0)).1) (((flW ww).getD (3 * i + 0) (0, 0)).2)]).length := lA
       rw [hLn130]; rw [hLn130] at hG130
       replace hG130 : GrowO 5 64 (.slice ad130 ((Zz (fun j => qa (flW ww) (3 * j + 0)) i) ++ [qv (((flW ww).getD (3 * i + 0) (0, 0)).1) (((flW ww).getD (3 * i + 0) (0, 0)).2)]).length c130) ((Zz (fun j => qa (flW ww) (3 * j + 0)) i) ++ [qv (((flW ww).getD (3 * i + 0) (0, 0)).1) (((flW ww).getD (3 * i + 0) (0, 0)).2)]).length (cellsOf Zv ((Zz (fun j => qa (flW ww) (3 * j + 0)) i) ++ [qv (((flW ww).getD (3 * i + 0) (0, 0)).1) (((flW ww).getD (3 * i + 0) (0, 0)).2)])) o130 := by rw [Zo, Qb]; exact hG130
       refine yp rfl (.fA rfl Xi) (yt rfl rfl rfl Zao uu sizeOf44 rfl nb (by show ((flat ((.slice ad130 ((Zz (fun j => qa (flW ww) (3 * j + 0)) i) ++ [qv (((flW ww).getD (3 * i + 0) (0, 0)).1) (((flW ww).getD (3 * i + 0) (0, 0)).2)]).length c130)) && true)) = true; simp only [GrowO.flat (hG130)]; rfl) ?_)
       refine yn (zr (zm rfl (zp (.pN (i + 1) (.add rfl rfl)) (za rfl (zn ?_))))); intro a w h
       exact ⟨i + 1, ⟨oo, ad130, c130, o130, hG130, by exact (h.factsSub (by simp)).sub sA⟩, oo⟩
      ·
       skip
       have heq_i : ww.length = i := dF hc118
       subst heq_i
       refine gC h (ze (zS (zd rfl mr isAgg46 sizeOf46 Zg ?_)))
       refine zm rfl (zd rfl mr isAgg84 sizeOf84 Zk ?_)
       refine zd rfl mr isAgg84 sizeOf84 Zk ?_
       refine zd rfl mr isAgg84 sizeOf84 Zk ?_
       refine zv [_, _, _, _, _] rfl call24 (Zbk ad95 adw P.length nw c95 cw hne ad37 G.length c37 (ptv qx) (ptv qy) (ptv qz)) (zp (Pure1.cast (v' := Zv 0) (.build [] rfl (Zad)) (by exact Kh)) (zp (.binOp rfl rfl (fun _ => Ks _ _ 0 0 _)) ?_)); intro a w h
       refine Zi h (fun hc139 h => ?_) (fun hc139 h => (absurd hc139 dd))
       refine gL h (zm rfl ?_); clear h; intro a w h
       refine Zf 140 h rfl rfl (Qc h rfl mr isAgg53 sizeOf53 Zg dd ?_); clear h; intro a h
       refine gL h (zq 140 rfl rfl (.move rfl) ?_); clear h; intro a w h
       refine Zf 140 h rfl rfl (Qc h rfl mr isAgg84 sizeOf84 Zk dd ?_); clear h; intro a h
       refine Zf 140 h rfl rfl (Qc h rfl mr isAgg84 sizeOf84 Zk dd ?_); clear h; intro a h
       refine Zf 140 h rfl rfl (Qu h (vs := [_, _, _, _]) rfl call28 (Vk ad1 adw (Zz (fun j => qa (flW ww) (3 * j + 0)) ww.length).length nw c1 cw (by rw [Zs]; omega) ad37 G.length c37 (ptv qx) (ptv qy)) dd ?_); clear h; intro a w h
       refine gL h (zq 140 rfl rfl (Pure1.cast (v' := Zv 0) (.build [] rfl (Zad)) (by exact Kh)) (zq 140 rfl rfl (.binOp rfl rfl (fun _ => Ks _ _ 0 0 _)) ?_)); clear h; intro a w h
       refine Zi h (fun hc147 h => ?_) (fun hc147 h => (absurd hc147 dd))
       refine gL h (zp (.pickT rfl rfl) (za rfl (zn (zS (zd rfl mr isAgg46 sizeOf46 Zg ?_)))))
       refine zv [_] rfl call23 (Gn ad95 adw P.length nw c95 cw hne) (zp (.eql rfl rfl) ?_); intro a w h
       refine Zi h (fun hc151 h => ?_) (fun hc151 h => (absurd hc151 dd))
       refine gL h (zm rfl ?_); clear h; intro a w h
       refine Zf 152 h rfl rfl (Qc h rfl mr isAgg46 sizeOf46 Zg dd ?_); clear h; intro a h
       refine Zf 152 h rfl rfl (Qu h (vs := [_]) rfl call12 (Zbj ad95 adw P.length nw c95 cw hne) dd ?_); clear h; intro a w h
       refine gL h (zq 152 rfl rfl (.eql rfl rfl) ?_); clear h; intro a w h
       refine Zi h (fun hc155 h => ?_) (fun hc155 h => (absurd hc155 dd))
       refine gL h (zp (.pickT rfl rfl) (zm rfl ?_)); clear h; intro a w h
       refine Zf 157 h rfl rfl (Qc h rfl mr isAgg53 sizeOf53 Zg dd ?_); clear h; intro a h
       refine Zf 157 h rfl rfl (Qu h (vs := [_]) rfl call27 (Vj ad1 adw (Zz (fun j => qa (flW ww) (3 * j + 0)) ww.length).length nw c1 cw (by rw [Zs]; omega)) dd ?_); clear h; intro a w h
       refine gL h (zq 157 rfl rfl (.eql rfl rfl) ?_); clear h; intro a w h
       refine Zi h (fun hc160 h => ?_) (fun hc160 h => (absurd hc160 dd))
       refine gL h (zp (.pickT rfl rfl) (zm rfl (zq 162 rfl rfl (.move rfl) (zp (.pickT rfl rfl) (zm rfl ?_))))); clear h; intro a w h
       refine Zf 165 h rfl rfl (Qu h (vs := []) rfl call14 (Xl) dd ?_); clear h; intro a w h
       refine gL h (zp (.pickT rfl rfl) (za rfl (zn (zt ?_)))); clear h; intro a w h
       exact Zag h
    ·
     skip
     refine gL h (zm rfl (zo 74 rfl rfl rfl (zo 74 rfl rfl rfl (zo 74 rfl rfl rfl (zo 74 rfl rfl rfl (zu 78 rfl rfl (zu 78 rfl rfl (zu 78 rfl rfl (zo 74 rfl rfl rfl (zo 74 rfl rfl rfl (zu 83 rfl rfl (zu 83 rfl rfl (zu 83 rfl rfl (zu 83 rfl rfl (zu 83 rfl rfl (zu 83 rfl rfl (zu 83 rfl rfl (zu 83 rfl rfl (zo 74 rfl rfl rfl (zp (.pickF rfl rfl) (zn ?_))))))))))))))))))))); clear h; intro a w h
     refine cW ?_
     refine Zn h rfl ?_
     refine wp_skip (wp_seq (wp_region_lit ?_))
     replace h := h.drop (List.sublist_cons_self _ _)
     replace h := h.factsSub (Φ' := [Row ad0 (cellsOf Za9 (flW ww)), Row ad37 (cellsOf Jb G), Row ad (cellsOf Yv l)]) (by intro R hR; simp only [List.mem_cons, List.not_mem_nil, or_false] at hR; rcases hR with rfl | rfl | rfl <;> repeat (first | exact List.Mem.head _ | apply List.Mem.tail))
     refine gL h (zm rfl ?_); clear h; intro a w h
     refine Zl (Kl h hS (vs := [_]) rfl call13 (Zm0 _ _ ww _ [Row ad37 (cellsOf Jb G), Row ad (cellsOf Yv l)] hokw oo) (List.Perm.refl _) ss ss ?_); clear h; rintro v95 σ95 Ψ95 a w ⟨ad95, c95, o95, bd95, d95, p95, rfl, hG95, hH95, rfl, rfl⟩ h
     rw [← hP] at h hG95
     rw [← hW] at h hH95
     replace h := St.shareO' h hS hG95
     refine gL h (zz zeroValue46 fun b23 => zt' rfl rfl Zq uu sizeOf46 rfl nb (by show ((flat (.slice ad95 P.length c95) && (flat (.slice bd95 W.length d95) && true))) = true; simp only [GrowO.flat (hH95)]; rfl) ?_)
     refine zn (zs (zS (zm rfl (zm rfl ?_)))); intro a w h
     refine Zi h (fun hc97 h => ?_) (fun hc97 h => ?_)
     ·
      skip
      refine gL h (zo 97 rfl rfl rfl (zo 97 rfl rfl rfl (zo 97 rfl rfl rfl (zp (.pickT rfl rfl) (zn ?_))))); clear h; intro a w h
      refine cW ?_
      refine Qf h rfl ?_
      refine gC h (yD Za [0, 1, 2, 3, 4, 5, 6] (Zc kk) (yp rfl (.fA rfl Qx) (yd rfl rfl mr isAgg44 sizeOf44 Qi ?_))); clear h
      refine yv [_] rfl rfl call31 (Vg _ oo oo) ?_
      have hl104 := Qo (1) oo oo
      refine yB rfl [(_, _)] rfl (Xb _ _ _ _ _) fun b105 => ?_
      refine Qm (σr := [(b23, bV (.agg #[.slice ad95 P.length c95, (.slice bd95 W.length d95)]) 46), (b20, bV (Zak ((ptv qz).1) ((ptv qz).2)) 84), (b19, bV (Zak ((ptv qy).1) ((ptv qy).2)) 84), (b18, bV (Zak ((ptv qx).1) ((ptv qx).2)) 84), (b15, bV (Zba (qz)) 30), (b14, bV (Zba (qy)) 30), (b13, bV (Zba (qx)) 30), (b10, bV (.agg #[.int .i64 bq.1, .int .u32 bq.2]) 24)]) rfl kk rfl rfl (List.Perm.trans (List.Perm.refl _) (List.Perm.cons _ (Zbv (List.Perm.refl _)))) hH95 runUnderlying44 runUnderlying44 typeInfo64 sizeOf64 Ja rfl dd dd rfl rfl dd (by show 56 * (2 * ((W).length + 1) + 192) ≤ 281474976710656; omega) dd ?_
      intro v106 o106 hG106
      obtain ⟨ad106, c106, rfl⟩ := hG106.is
      have hLn106 : (W).length + 1 = (W ++ [((1 : Int) : Rat)]).length := lA
      rw [hLn106]; rw [hLn106] at hG106
      replace hG106 : GrowO 5 64 (.slice ad106 (W ++ [((1 : Int) : Rat)]).length c106) (W ++ [((1 : Int) : Rat)]).length (cellsOf Zv (W ++ [((1 : Int) : Rat)])) o106 := by rw [Zo, Qb]; exact hG106
      refine yp rfl (.fA rfl Qx) (yt rfl rfl rfl Zan uu sizeOf44 rfl nb (by show ((flat ((.slice ad106 (W ++ [((1 : Int) : Rat)]).length c106)) && true)) = true; simp only [GrowO.flat (hG106)]; rfl) ?_)
      refine yn (zS ?_); intro a w h
      obtain ⟨nw, hnw, hne⟩ : ∃ nw, (W ++ [((1 : Int) : Rat)]).length = nw ∧ P.length ≠ nw := ⟨_, rfl, by rw [List.length_append]; simp only [List.length_singleton]; omega⟩
      obtain ⟨adw, hadw⟩ : ∃ x, ad106 = x := ⟨_, rfl⟩
      obtain ⟨cw, hcw⟩ : ∃ x, c106 = x := ⟨_, rfl⟩
      rw [hnw, hadw, hcw] at h
      replace h := h.drop (List.sublist_append_right _ _)
      refine gL h (zp (.fA rfl Qx) (zd rfl mr isAgg44 sizeOf44 Qi ?_))
      refine zp (.build [(_, _)] rfl (Zhj _ _ _)) (zz zeroValue53 fun b24 => zt' rfl rfl Zq uu sizeOf53 rfl nb rfl ?_)
      refine zn (zs (zS (za rfl (zn (zb ?_))))); intro a w h
      refine Zd (fun (i : Nat) a w => i ≤ ww.length ∧ ∃ (ad1 : Option Addr) (c1 : Nat) (o1 : List (Nat × Obj)), (GrowO 5 64 (.slice ad1 (Zz (fun j => qa (flW ww) (3 * j + 0)) i).length c1) (Zz (fun j => qa (flW ww) (3 * j + 0)) i).length (cellsOf Zv (Zz (fun j => qa (flW ww) (3 * j + 0)) i)) o1) ∧ St 168 S w0 [(0, .slice ad0 ww.length c0), (16, .bool false), (17, .slice ad37 ((G).length) c37), (18, pB b18), (19, pB b19), (20, pB b20), (23, pB b23), (24, pB b24), (25, nI i)] (o1 ++ ((b24, bV (.agg #[(.slice ad1 (Zz (fun j => qa (flW ww) (3 * j + 0)) i).length c1), .slice adw nw cw]) 53) :: ((b23, bV (.agg #[.slice ad95 P.length c95, .slice adw nw cw]) 46) :: ((b20, bV (Zak ((ptv qz).1) ((ptv qz).2)) 84) :: ((b19, bV (Zak ((ptv qy).1) ((ptv qy).2)) 84) :: ((b18, bV (Zak ((ptv qx).1) ((ptv qx).2)) 84) :: [])))))) [Row ad95 (cellsOf Gb P), Row ad0 (cellsOf Za9 (flW ww)), Row ad37 (cellsOf Jb G), Row ad (cellsOf Yv l)] a w) (fun i => ww.length - i) 0 (⟨Nat.zero_le _, none, 0, [], GrowO.nil _ _, by exact ((h.drop sl)).sub sA⟩) ?_; clear h
      rintro i a w ⟨hi_i, ad1, c1, o1, hG1, h⟩
      refine gC h (zs (zS (zm rfl (zm rfl (zp (.builtin [_] rfl (Ji _ _ _)) (zp (.lss rfl rfl) (zn ?_))))))); clear h; intro a w h
      refine cW ?_
      refine Zb h rfl (fun hc118 => ?_) (fun hc118 => ?_)
      ·
       skip
       have hlt_i : i < ww.length := dT hc118
       obtain ⟨B_ad0, O_ad0, rfl⟩ := h.row_addr (ad := ad0) (M := cellsOf Za9 (flW ww)) mm (nE 2)
       obtain ⟨hq0a, hq0b, hq0c, hq0d⟩ := hokw _ (getD_mem (flW ww) (i := 3 * i + 0) (d := (0, 0)) oo)
       have hg1 := Zs (fun j => qa (flW ww) (3 * j + 0)) i
       refine gC h (zk (zs (zb (yD Za [0, 1, 2, 3, 4, 5, 6, 7, 8, 9, 10, 11] (Zc kk) (yp rfl (.fA rfl Xi) (yd rfl rfl mr isAgg44 sizeOf44 Ql ?_)))))); clear h
       refine ym rfl rfl (ym rfl rfl (yp rfl (.indexAddr rfl rfl (Zft _ _ _ _ _ oo)) (yp rfl (Pure1.cast (v' := .pointer (some ⟨B_ad0, O_ad0 + (3 * i + 0) * 2, none⟩)) (.fA rfl Zdi) (by rw [show O_ad0 + i * 6 + 0 = O_ad0 + (3 * i + 0) * 2 by omega])) ?_)))
       refine Zj rfl kk rfl mm (cells_lt (k := 2) dd (fun _ => rfl) (flW ww) (3 * i + 0) oo) isAgg24 sizeOf24 (Zm (k := 2) (fun _ => rfl) ((fun _ => rfl)) (flW ww) (0, 0) (3 * i + 0) oo) (.inl rfl) dd ?_
       refine yv [_] rfl rfl call41 (Zes (((flW ww).getD (3 * i + 0) (0, 0)).1) (((flW ww).getD (3 * i + 0) (0, 0)).2) oo oo oo oo) ?_
       have hl128 := Yd (((flW ww).getD (3 * i + 0) (0, 0)).1) (((flW ww).getD (3 * i + 0) (0, 0)).2) oo oo oo oo
       refine yB rfl [(_, _)] rfl (Xb _ _ _ _ _) fun b129 => ?_
       refine Qm (σr := [(b24, bV (.agg #[(.slice ad1 (Zz (fun j => qa (flW ww) (3 * j + 0)) i).length c1), .slice adw nw cw]) 53), (b23, bV (.agg #[.slice ad95 P.length c95, .slice adw nw cw]) 46), (b20, bV (Zak ((ptv qz).1) ((ptv qz).2)) 84), (b19, bV (Zak ((ptv qy).1) ((ptv qy).2)) 84), (b18, bV (Zak ((ptv qx).1) ((ptv qx).2)) 84)]) rfl kk rfl rfl (List.Perm.trans (List.Perm.refl _) (List.Perm.cons _ (List.Perm.refl _))) hG1 runUnderlying44 runUnderlying44 typeInfo64 sizeOf64 Ja rfl dd dd rfl rfl dd (by show 56 * (2 * ((Zz (fun j => qa (flW ww) (3 * j + 0)) i).length + 1) + 192) ≤ 281474976710656; omega) dd ?_
       intro v130 o130 hG130
       obtain ⟨ad130, c130, rfl⟩ := hG130.is
       have hLn130 : (Zz (fun j => qa (flW ww) (3 * j + 0)) i).length + 1 = ((Zz (fun j => qa (flW ww) (3 * j + 0)) i) ++ [qv (((flW ww).getD (3 * i + 0) (0, 0)).1) (((flW ww).getD (3 * i + 0) (0, 0)).2)]).length := lA
       rw [hLn130]; rw [hLn130] at hG130
       replace hG130 : GrowO 5 64 (.slice ad130 ((Zz (fun j => qa (flW ww) (3 * j + 0)) i) ++ [qv (((flW ww).getD (3 * i + 0) (0, 0)).1) (((flW ww).getD (3 * i + 0) (0, 0)).2)]).length c130) ((Zz (fun j => qa (flW ww) (3 * j + 0)) i) ++ [qv (((flW ww).getD (3 * i + 0) (0, 0)).1) (((flW ww).getD (3 * i + 0) (0, 0)).2)]).length (cellsOf Zv ((Zz (fun j => qa (flW ww) (3 * j + 0)) i) ++ [qv (((flW ww).getD (3 * i + 0) (0, 0)).1) (((flW ww).getD (3 * i + 0) (0, 0)).2)])) o130 := by rw [Zo, Qb]; exact hG130
       refine yp rfl (.fA rfl Xi) (yt rfl rfl rfl Zao uu sizeOf44 rfl nb (by show ((flat ((.slice ad130 ((Zz (fun j => qa (flW ww) (3 * j + 0)) i) ++ [qv (((flW ww).getD (3 * i + 0) (0, 0)).1) (((flW ww).getD (3 * i + 0) (0, 0)).2)]).length c130)) && true)) = true; simp only [GrowO.flat (hG130)]; rfl) ?_)
       refine yn (zr (zm rfl (zp (.pN (i + 1) (.add rfl rfl)) (za rfl (zn ?_))))); intro a w h
       exact ⟨i + 1, ⟨oo, ad130, c130, o130, hG130, by exact (h.factsSub (by simp)).sub sA⟩, oo⟩
      ·
       skip
       have heq_i : ww.length = i := dF hc118
       subst heq_i
       refine gC h (ze (zS (zd rfl mr isAgg46 sizeOf46 Zg ?_)))
       refine zm rfl (zd rfl mr isAgg84 sizeOf84 Zk ?_)
       refine zd rfl mr isAgg84 sizeOf84 Zk ?_
       refine zd rfl mr isAgg84 sizeOf84 Zk ?_
       refine zv [_, _, _, _, _] rfl call24 (Zbk ad95 adw P.length nw c95 cw hne ad37 G.length c37 (ptv qx) (ptv qy) (ptv qz)) (zp (Pure1.cast (v' := Zv 0) (.build [] rfl (Zad)) (by exact Kh)) (zp (.binOp rfl rfl (fun _ => Ks _ _ 0 0 _)) ?_)); intro a w h
       refine Zi h (fun hc139 h => ?_) (fun hc139 h => (absurd hc139 dd))
       refine gL h (zm rfl ?_); clear h; intro a w h
       refine Zf 140 h rfl rfl (Qc h rfl mr isAgg53 sizeOf53 Zg dd ?_); clear h; intro a h
       refine gL h (zq 140 rfl rfl (.move rfl) ?_); clear h; intro a w h
       refine Zf 140 h rfl rfl (Qc h rfl mr isAgg84 sizeOf84 Zk dd ?_); clear h; intro a h
       refine Zf 140 h rfl rfl (Qc h rfl mr isAgg84 sizeOf84 Zk dd ?_); clear h; intro a h
       refine Zf 140 h rfl rfl (Qu h (vs := [_, _, _, _]) rfl call28 (Vk ad1 adw (Zz (fun j => qa (flW ww) (3 * j + 0)) ww.length).length nw c1 cw (by rw [Zs]; omega) ad37 G.length c37 (ptv qx) (ptv qy)) dd ?_); clear h; intro a w h
       refine gL h (zq 140 rfl rfl (Pure1.cast (v' := Zv 0) (.build [] rfl (Zad)) (by exact Kh)) (zq 140 rfl rfl (.binOp rfl rfl (fun _ => Ks _ _ 0 0 _)) ?_)); clear h; intro a w h
       refine Zi h (fun hc147 h => ?_) (fun hc147 h => (absurd hc147 dd))
       refine gL h (zp (.pickT rfl rfl) (za rfl (zn (zS (zd rfl mr isAgg46 sizeOf46 Zg ?_)))))
       refine zv [_] rfl call23 (Gn ad95 adw P.length nw c95 cw hne) (zp (.eql rfl rfl) ?_); intro a w h
       refine Zi h (fun hc151 h => ?_) (fun hc151 h => (absurd hc151 dd))
       refine gL h (zm rfl ?_); clear h; intro a w h
       refine Zf 152 h rfl rfl (Qc h rfl mr isAgg46 sizeOf46 Zg dd ?_); clear h; intro a h
       refine Zf 152 h rfl rfl (Qu h (vs := [_]) rfl call12 (Zbj ad95 adw P.length nw c95 cw hne) dd ?_); clear h; intro a w h
       refine gL h (zq 152 rfl rfl (.eql rfl rfl) ?_); clear h; intro a w h
       refine Zi h (fun hc155 h => ?_) (fun hc155 h => (absurd hc155 dd))
       refine gL h (zp (.pickT rfl rfl) (zm rfl ?_)); clear h; intro a w h
       refine Zf 157 h rfl rfl (Qc h rfl mr isAgg53 sizeOf53 Zg dd ?_); clear h; intro a h
       refine Zf 157 h rfl rfl (Qu h (vs := [_]) rfl call27 (Vj ad1 adw (Zz (fun j => qa (flW ww) (3 * j + 0)) ww.length).length nw c1 cw (by rw [Zs]; omega)) dd ?_); clear h; intro a w h
       refine gL h (zq 157 rfl rfl (.eql rfl rfl) ?_); clear h; intro a w h
       refine Zi h (fun hc160 h => ?_) (fun hc160 h => (absurd hc160 dd))
       refine gL h (zp (.pickT rfl rfl) (zm rfl (zq 162 rfl rfl (.move rfl) (zp (.pickT rfl rfl) (zm rfl ?_))))); clear h; intro a w h
       refine Zf 165 h rfl rfl (Qu h (vs := []) rfl call14 (Xl) dd ?_); clear h; intro a w h
       refine gL h (zp (.pickT rfl rfl) (za rfl (zn (zt ?_)))); clear h; intro a w h
       exact Zag h
     ·
      skip
      refine gL h (zq 97 rfl rfl (.move rfl) (zq 97 rfl rfl (.builtin [_] rfl (Ji _ _ _)) (zq 97 rfl rfl (.eql rfl rfl) ?_))); clear h; intro a w h
      refine Zi h (fun hc100 h => (by exfalso; have := of_decide_eq_true hc100; omega)) (fun hc100 h => ?_)
      refine gL h (zp (.pickF rfl rfl) (zn ?_)); clear h; intro a w h
      refine cW ?_
      refine Zn h rfl ?_
      refine wp_region_lit ?_
      obtain ⟨bW, RW, rfl, rfl, hRW, hcW⟩ := hH95.open oo
      rw [List.cons_append, List.nil_append] at h
      refine gL h (zp (.fA rfl Qx) (zd rfl mr isAgg44 sizeOf44 Qi ?_))
      refine zp (.slice rfl (some _) none none rfl rfl rfl (Qci _ _ _ _ _ (by show 1 ≤ W.length; omega))) (zp (.fA rfl Qx) (zt' rfl rfl Zan uu sizeOf44 rfl nb rfl ?_)); intro a w h
      refine wpList_nil (wp_seq (wp_region_lit ?_))
      obtain ⟨nw, hnw, hne⟩ : ∃ nw, W.length - 1 = nw ∧ P.length ≠ nw := ⟨_, rfl, oo⟩
      obtain ⟨adw, hadw⟩ : ∃ x, some (⟨bW, if d95 = 1 then 0 else 0 + 1 * 5, none⟩ : Addr) = x := ⟨_, rfl⟩
      obtain ⟨cw, hcw⟩ : ∃ x, d95 - 1 = x := ⟨_, rfl⟩
      rw [hnw, hadw, hcw] at h
      replace h := h.drop (List.Sublist.cons_cons _ (List.sublist_cons_self _ _))
      refine gL h (zp (.fA rfl Qx) (zd rfl mr isAgg44 sizeOf44 Qi ?_))
      refine zp (.build [(_, _)] rfl (Zhj _ _ _)) (zz zeroValue53 fun b24 => zt' rfl rfl Zq uu sizeOf53 rfl nb rfl ?_)
      refine zn (zs (zS (za rfl (zn (zb ?_))))); intro a w h
      refine Zd (fun (i : Nat) a w => i ≤ ww.length ∧ ∃ (ad1 : Option Addr) (c1 : Nat) (o1 : List (Nat × Obj)), (GrowO 5 64 (.slice ad1 (Zz (fun j => qa (flW ww) (3 * j + 0)) i).length c1) (Zz (fun j => qa (flW ww) (3 * j + 0)) i).length (cellsOf Zv (Zz (fun j => qa (flW ww) (3 * j + 0)) i)) o1) ∧ St 168 S w0 [(0, .slice ad0 ww.length c0), (16, .bool false), (17, .slice ad37 ((G).length) c37), (18, pB b18), (19, pB b19), (20, pB b20), (23, pB b23), (24, pB b24), (25, nI i)] (o1 ++ ((b24, bV (.agg #[(.slice ad1 (Zz (fun j => qa (flW ww) (3 * j + 0)) i).length c1), .slice adw nw cw]) 53) :: ((b23, bV (.agg #[.slice ad95 P.length c95, .slice adw nw cw]) 46) :: ((b20, bV (Zak ((ptv qz).1) ((ptv qz).2)) 84) :: ((b19, bV (Zak ((ptv qy).1) ((ptv qy).2)) 84) :: ((b18, bV (Zak ((ptv qx).1) ((ptv qx).2)) 84) :: [])))))) [Row ad95 (cellsOf Gb P), Row ad0 (cellsOf Za9 (flW ww)), Row ad37 (cellsOf Jb G), Row ad (cellsOf Yv l)] a w) (fun i => ww.length - i) 0 (⟨Nat.zero_le _, none, 0, [], GrowO.nil _ _, by exact ((h.drop sl)).sub sA⟩) ?_; clear h
      rintro i a w ⟨hi_i, ad1, c1, o1, hG1, h⟩
      refine gC h (zs (zS (zm rfl (zm rfl (zp (.builtin [_] rfl (Ji _ _ _)) (zp (.lss rfl rfl) (zn ?_))))))); clear h; intro a w h
      refine cW ?_
      refine Zb h rfl (fun hc118 => ?_) (fun hc118 => ?_)
      ·
       skip
       have hlt_i : i < ww.length := dT hc118
       obtain ⟨B_ad0, O_ad0, rfl⟩ := h.row_addr (ad := ad0) (M := cellsOf Za9 (flW ww)) mm (nE 2)
       obtain ⟨hq0a, hq0b, hq0c, hq0d⟩ := hokw _ (getD_mem (flW ww) (i := 3 * i + 0) (d := (0, 0)) oo)
       have hg1 := Zs (fun j => qa (flW ww) (3 * j + 0)) i
       refine gC h (zk (zs (zb (yD Za [0, 1, 2, 3, 4, 5, 6, 7, 8, 9, 10, 11] (Zc kk) (yp rfl (.fA rfl Xi) (yd rfl rfl mr isAgg44 sizeOf44 Ql ?_)))))); clear h
       refine ym rfl rfl (ym rfl rfl (yp rfl (.indexAddr rfl rfl (Zft _ _ _ _ _ oo)) (yp rfl (Pure1.cast (v' := .pointer (some ⟨B_ad0, O_ad0 + (3 * i + 0) * 2, none⟩)) (.fA rfl Zdi) (by rw [show O_ad0 + i * 6 + 0 = O_ad0 + (3 * i + 0) * 2 by omega])) ?_)))
       refine Zj rfl kk rfl mm (cells_lt (k := 2) dd (fun _ => rfl) (flW ww) (3 * i + 0) oo) isAgg24 sizeOf24 (Zm (k := 2) (fun _ => rfl) ((fun _ => rfl)) (flW ww) (0, 0) (3 * i + 0) oo) (.inl rfl) dd ?_
       refine yv [_] rfl rfl call41 (Zes (((flW ww).getD (3 * i + 0) (0, 0)).1) (((flW ww).getD (3 * i + 0) (0, 0)).2) oo oo oo oo) ?_
       have hl128 := Yd (((flW ww).getD (3 * i + 0) (0, 0)).1) (((flW ww).getD (3 * i + 0) (0, 0)).2) oo oo oo oo
       refine yB rfl [(_, _)] rfl (Xb _ _ _ _ _) fun b129 => ?_
       refine Qm (σr := [(b24, bV (.agg #[(.slice ad1 (Zz (fun j => qa (flW ww) (3 * j + 0)) i).length c1), .slice adw nw cw]) 53), (b23, bV (.agg #[.slice ad95 P.length c95, .slice adw nw cw]) 46), (b20, bV (Zak ((ptv qz).1) ((ptv qz).2)) 84), (b19, bV (Zak ((ptv qy).1) ((ptv qy).2)) 84), (b18, bV (Zak ((ptv qx).1) ((ptv qx).2)) 84)]) rfl kk rfl rfl (List.Perm.trans (List.Perm.refl _) (List.Perm.cons _ (List.Perm.refl _))) hG1 runUnderlying44 runUnderlying44 typeInfo64 sizeOf64 Ja rfl dd dd rfl rfl dd (by show 56 * (2 * ((Zz (fun j => qa (flW ww) (3 * j + 0)) i).length + 1) + 192) ≤ 281474976710656; omega) dd ?_
       intro v130 o130 hG130
       obtain ⟨ad130, c130, rfl⟩ := hG130.is
       have hLn130 : (Zz (fun j => qa (flW ww) (3 * j + 0)) i).length + 1 = ((Zz (fun j => qa (flW ww) (3 * j + 0)) i) ++ [qv (((flW ww).getD (3 * i + 0) (0, 0)).1) (((flW ww).getD (3 * i + 0) (0, 0)).2)]).length := lA
       rw [hLn130]; rw [hLn130] at hG130
       replace hG130 : GrowO 5 64 (.slice ad130 ((Zz (fun j => qa (flW ww) (3 * j + 0)) i) ++ [qv (((flW ww).getD (3 * i + 0) (0, 0)).1) (((flW ww).getD (3 * i + 0) (0, 0)).2)]).length c130) ((Zz (fun j => qa (flW ww) (3 * j + 0)) i) ++ [qv (((flW ww).getD (3 * i + 0) (0, 0)).1) (((flW ww).getD (3 * i + 0) (0, 0)).2)]).length (cellsOf Zv ((Zz (fun j => qa (flW ww) (3 * j + 0)) i) ++ [qv (((flW ww).getD (3 * i + 0) (0, 0)).1) (((flW ww).getD (3 * i + 0) (0, 0)).2)])) o130 := by rw [Zo, Qb]; exact hG130
       refine yp rfl (.fA rfl Xi) (yt rfl rfl rfl Zao uu sizeOf44 rfl nb (by show ((flat ((.slice ad130 ((Zz (fun j => qa (flW ww) (3 * j + 0)) i) ++ [qv (((flW ww).getD (3 * i + 0) (0, 0)).1) (((flW ww).getD (3 * i + 0) (0, 0)).2)]).length c130)) && true)) = true; simp only [GrowO.flat (hG130)]; rfl) ?_)
       refine yn (zr (zm rfl (zp (.pN (i + 1) (.add rfl rfl)) (za rfl (zn ?_))))); intro a w h
       exact ⟨i + 1, ⟨oo, ad130, c130, o130, hG130, by exact (h.factsSub (by simp)).sub sA⟩, oo⟩
      ·
       skip
       have heq_i : ww.length = i := dF hc118
       subst heq_i
       refine gC h (ze (zS (zd rfl mr isAgg46 sizeOf46 Zg ?_)))
       refine zm rfl (zd rfl mr isAgg84 sizeOf84 Zk ?_)
       refine zd rfl mr isAgg84 sizeOf84 Zk ?_
       refine zd rfl mr isAgg84 sizeOf84 Zk ?_
       refine zv [_, _, _, _, _] rfl call24 (Zbk ad95 adw P.length nw c95 cw hne ad37 G.length c37 (ptv qx) (ptv qy) (ptv qz)) (zp (Pure1.cast (v' := Zv 0) (.build [] rfl (Zad)) (by exact Kh)) (zp (.binOp rfl rfl (fun _ => Ks _ _ 0 0 _)) ?_)); intro a w h
       refine Zi h (fun hc139 h => ?_) (fun hc139 h => (absurd hc139 dd))
       refine gL h (zm rfl ?_); clear h; intro a w h
       refine Zf 140 h rfl rfl (Qc h rfl mr isAgg53 sizeOf53 Zg dd ?_); clear h; intro a h
       refine gL h (zq 140 rfl rfl (.move rfl) ?_); clear h; intro a w h
       refine Zf 140 h rfl rfl (Qc h rfl mr isAgg84 sizeOf84 Zk dd ?_); clear h; intro a h
       refine Zf 140 h rfl rfl (Qc h rfl mr isAgg84 sizeOf84 Zk dd ?_); clear h; intro a h
       refine Zf 140 h rfl rfl (Qu h (vs := [_, _, _, _]) rfl call28 (Vk ad1 adw (Zz (fun j => qa (flW ww) (3 * j + 0)) ww.length).length nw c1 cw (by rw [Zs]; omega) ad37 G.length c37 (ptv qx) (ptv qy)) dd ?_); clear h; intro a w h
       refine gL h (zq 140 rfl rfl (Pure1.cast (v' := Zv 0) (.build [] rfl (Zad)) (by exact Kh)) (zq 140 rfl rfl (.binOp rfl rfl (fun _ => Ks _ _ 0 0 _)) ?_)); clear h; intro a w h
       refine Zi h (fun hc147 h => ?_) (fun hc147 h => (absurd hc147 dd))
       refine gL h (zp (.pickT rfl rfl) (za rfl (zn (zS (zd rfl mr isAgg46 sizeOf46 Zg ?_)))))
       refine zv [_] rfl call23 (Gn ad95 adw P.length nw c95 cw hne) (zp (.eql rfl rfl) ?_); intro a w h
       refine Zi h (fun hc151 h => ?_) (fun hc151 h => (absurd hc151 dd))
       refine gL h (zm rfl ?_); clear h; intro a w h
       refine Zf 152 h rfl rfl (Qc h rfl mr isAgg46 sizeOf46 Zg dd ?_); clear h; intro a h
       refine Zf 152 h rfl rfl (Qu h (vs := [_]) rfl call12 (Zbj ad95 adw P.length nw c95 cw hne) dd ?_); clear h; intro a w h
       refine gL h (zq 152 rfl rfl (.eql rfl rfl) ?_); clear h; intro a w h
       refine Zi h (fun hc155 h => ?_) (fun hc155 h => (absurd hc155 dd))
       refine gL h (zp (.pickT rfl rfl) (zm rfl ?_)); clear h; intro a w h
       refine Zf 157 h rfl rfl (Qc h rfl mr isAgg53 sizeOf53 Zg dd ?_); clear h; intro a h
       refine Zf 157 h rfl rfl (Qu h (vs := [_]) rfl call27 (Vj ad1 adw (Zz (fun j => qa (flW ww) (3 * j + 0)) ww.length).length nw c1 cw (by rw [Zs]; omega)) dd ?_); clear h; intro a w h
       refine gL h (zq 157 rfl rfl (.eql rfl rfl) ?_); clear h; intro a w h
       refine Zi h (fun hc160 h => ?_) (fun hc160 h => (absurd hc160 dd))
       refine gL h (zp (.pickT rfl rfl) (zm rfl (zq 162 rfl rfl (.move rfl) (zp (.pickT rfl rfl) (zm rfl ?_))))); clear h; intro a w h
       refine Zf 165 h rfl rfl (Qu h (vs := []) rfl call14 (Xl) dd ?_); clear h; intro a w h
       refine gL h (zp (.pickT rfl rfl) (za rfl (zn (zt ?_)))); clear h; intro a w h
       exact Zag h
   ·
    skip
    have hz0 : ww.length = 0 := dF hc48
    replace h := h.drop (List.Sublist.cons _ (List.sublist_append_right _ _))
    refine wpList_nil ?_
    refine cW ?_
    refine Zn h rfl ?_
    refine wp_skip (wp_seq (wp_region_lit ?_))
    replace h := h.factsSub (Φ' := [Row ad0 (cellsOf Za9 (flW ww)), Row ad37 (cellsOf Jb G), Row ad (cellsOf Yv l)]) (by intro R hR; simp only [List.mem_cons, List.not_mem_nil, or_false] at hR; rcases hR with rfl | rfl | rfl <;> repeat (first | exact List.Mem.head _ | apply List.Mem.tail))
    refine gL h (zm rfl ?_); clear h; intro a w h
    refine Zl (Kl h hS (vs := [_]) rfl call13 (Zm0 _ _ ww _ [Row ad37 (cellsOf Jb G), Row ad (cellsOf Yv l)] hokw oo) (List.Perm.refl _) ss ss ?_); clear h; rintro v95 σ95 Ψ95 a w ⟨ad95, c95, o95, bd95, d95, p95, rfl, hG95, hH95, rfl, rfl⟩ h
    rw [← hP] at h hG95
    rw [← hW] at h hH95
    replace h := St.shareO' h hS hG95
    refine gL h (zz zeroValue46 fun b23 => zt' rfl rfl Zq uu sizeOf46 rfl nb (by show ((flat (.slice ad95 P.length c95) && (flat (.slice bd95 W.length d95) && true))) = true; simp only [GrowO.flat (hH95)]; rfl) ?_)
    refine zn (zs (zS (zm rfl (zm rfl ?_)))); intro a w h
    refine Zi h (fun hc97 h => ?_) (fun hc97 h => ?_)
    ·
     skip
     refine gL h (zo 97 rfl rfl rfl (zo 97 rfl rfl rfl (zo 97 rfl rfl rfl (zp (.pickT rfl rfl) (zn ?_))))); clear h; intro a w h
     refine cW ?_
     refine Qf h rfl ?_
     refine gC h (yD Za [0, 1, 2, 3, 4, 5, 6] (Zc kk) (yp rfl (.fA rfl Qx) (yd rfl rfl mr isAgg44 sizeOf44 Qi ?_))); clear h
     refine yv [_] rfl rfl call31 (Vg _ oo oo) ?_
     have hl104 := Qo (1) oo oo
     refine yB rfl [(_, _)] rfl (Xb _ _ _ _ _) fun b105 => ?_
     refine Qm (σr := [(b23, bV (.agg #[.slice ad95 P.length c95, (.slice bd95 W.length d95)]) 46), (b20, bV (Zak ((ptv qz).1) ((ptv qz).2)) 84), (b19, bV (Zak ((ptv qy).1) ((ptv qy).2)) 84), (b18, bV (Zak ((ptv qx).1) ((ptv qx).2)) 84), (b15, bV (Zba (qz)) 30), (b14, bV (Zba (qy)) 30), (b13, bV (Zba (qx)) 30), (b10, bV (.agg #[.int .i64 bq.1, .int .u32 bq.2]) 24)]) rfl kk rfl rfl (List.Perm.trans (List.Perm.refl _) (List.Perm.cons _ (Zbv (List.Perm.refl _)))) hH95 runUnderlying44 runUnderlying44 typeInfo64 sizeOf64 Ja rfl dd dd rfl rfl dd (by show 56 * (2 * ((W).length + 1) + 192) ≤ 281474976710656; omega) dd ?_
     intro v106 o106 hG106
     obtain ⟨ad106, c106, rfl⟩ := hG106.is
     have hLn106 : (W).length + 1 = (W ++ [((1 : Int) : Rat)]).length := lA
     rw [hLn106]; rw [hLn106] at hG106
     replace hG106 : GrowO 5 64 (.slice ad106 (W ++ [((1 : Int) : Rat)]).length c106) (W ++ [((1 : Int) : Rat)]).length (cellsOf Zv (W ++ [((1 : Int) : Rat)])) o106 := by rw [Zo, Qb]; exact hG106
     refine yp rfl (.fA rfl Qx) (yt rfl rfl rfl Zan uu sizeOf44 rfl nb (by show ((flat ((.slice ad106 (W ++ [((1 : Int) : Rat)]).length c106)) && true)) = true; simp only [GrowO.flat (hG106)]; rfl) ?_)
     refine yn (zS ?_); intro a w h
     obtain ⟨nw, hnw, hne⟩ : ∃ nw, (W ++ [((1 : Int) : Rat)]).length = nw ∧ P.length ≠ nw := ⟨_, rfl, by rw [List.length_append]; simp only [List.length_singleton]; omega⟩
     obtain ⟨adw, hadw⟩ : ∃ x, ad106 = x := ⟨_, rfl⟩
     obtain ⟨cw, hcw⟩ : ∃ x, c106 = x := ⟨_, rfl⟩
     rw [hnw, hadw, hcw] at h
     replace h := h.drop (List.sublist_append_right _ _)
     refine gL h (zp (.fA rfl Qx) (zd rfl mr isAgg44 sizeOf44 Qi ?_))
     refine zp (.build [(_, _)] rfl (Zhj _ _ _)) (zz zeroValue53 fun b24 => zt' rfl rfl Zq uu sizeOf53 rfl nb rfl ?_)
     refine zn (zs (zS (za rfl (zn (zb ?_))))); intro a w h
     refine Zd (fun (i : Nat) a w => i ≤ ww.length ∧ ∃ (ad1 : Option Addr) (c1 : Nat) (o1 : List (Nat × Obj)), (GrowO 5 64 (.slice ad1 (Zz (fun j => qa (flW ww) (3 * j + 0)) i).length c1) (Zz (fun j => qa (flW ww) (3 * j + 0)) i).length (cellsOf Zv (Zz (fun j => qa (flW ww) (3 * j + 0)) i)) o1) ∧ St 168 S w0 [(0, .slice ad0 ww.length c0), (16, .bool false), (17, .slice ad37 ((G).length) c37), (18, pB b18), (19, pB b19), (20, pB b20), (23, pB b23), (24, pB b24), (25, nI i)] (o1 ++ ((b24, bV (.agg #[(.slice ad1 (Zz (fun j => qa (flW ww) (3 * j + 0)) i).length c1), .slice adw nw cw]) 53) :: ((b23, bV (.agg #[.slice ad95 P.length c95, .slice adw nw cw]) 46) :: ((b20, bV (Zak ((ptv qz).1) ((ptv qz).2)) 84) :: ((b19, bV (Zak ((ptv qy).1) ((ptv qy).2)) 84) :: ((b18, bV (Zak ((ptv qx).1) ((ptv qx).2)) 84) :: [])))))) [Row ad95 (cellsOf Gb P), Row ad0 (cellsOf Za9 (flW ww)), Row ad37 (cellsOf Jb G), Row ad (cellsOf Yv l)] a w) (fun i => ww.length - i) 0 (⟨Nat.zero_le _, none, 0, [], GrowO.nil _ _, by exact ((h.drop sl)).sub sA⟩) ?_; clear h
     rintro i a w ⟨hi_i, ad1, c1, o1, hG1, h⟩
     refine gC h (zs (zS (zm rfl (zm rfl (zp (.builtin [_] rfl (Ji _ _ _)) (zp (.lss rfl rfl) (zn ?_))))))); clear h; intro a w h
     refine cW ?_
     refine Zb h rfl (fun hc118 => ?_) (fun hc118 => ?_)
     ·
      skip
      have hlt_i : i < ww.length := dT hc118
      obtain ⟨B_ad0, O_ad0, rfl⟩ := h.row_addr (ad := ad0) (M := cellsOf Za9 (flW ww)) mm (nE 2)
      obtain ⟨hq0a, hq0b, hq0c, hq0d⟩ := hokw _ (getD_mem (flW ww) (i := 3 * i + 0) (d := (0, 0)) oo)
      have hg1 := Zs (fun j => qa (flW ww) (3 * j + 0)) i
      refine gC h (zk (zs (zb (yD Za [0, 1, 2, 3, 4, 5, 6, 7, 8, 9, 10, 11] (Zc kk) (yp rfl (.fA rfl Xi) (yd rfl rfl mr isAgg44 sizeOf44 Ql ?_)))))); clear h
      refine ym rfl rfl (ym rfl rfl (yp rfl (.indexAddr rfl rfl (Zft _ _ _ _ _ oo)) (yp rfl (Pure1.cast (v' := .pointer (some ⟨B_ad0, O_ad0 + (3 * i + 0) * 2, none⟩)) (.fA rfl Zdi) (by rw [show O_ad0 + i * 6 + 0 = O_ad0 + (3 * i + 0) * 2 by omega])) ?_)))
      refine Zj rfl kk rfl mm (cells_lt (k := 2) dd (fun _ => rfl) (flW ww) (3 * i + 0) oo) isAgg24 sizeOf24 (Zm (k := 2) (fun _ => rfl) ((fun _ => rfl)) (flW ww) (0, 0) (3 * i + 0) oo) (.inl rfl) dd ?_
      refine yv [_] rfl rfl call41 (Zes (((flW ww).getD (3 * i + 0) (0, 0)).1) (((flW ww).getD (3 * i + 0) (0, 0)).2) oo oo oo oo) ?_
      have hl128 := Yd (((flW ww).getD (3 * i + 0) (0, 0)).1) (((flW ww).getD (3 * i + 0) (0, 0)).2) oo oo oo oo
      refine yB rfl [(_, _)] rfl (Xb _ _ _ _ _) fun b129 => ?_
      refine Qm (σr := [(b24, bV (.agg #[(.slice ad1 (Zz (fun j => qa (flW ww) (3 * j + 0)) i).length c1), .slice adw nw cw]) 53), (b23, bV (.agg #[.slice ad95 P.length c95, .slice adw nw cw]) 46), (b20, bV (Zak ((ptv qz).1) ((ptv qz).2)) 84), (b19, bV (Zak ((ptv qy).1) ((ptv qy).2)) 84), (b18, bV (Zak ((ptv qx).1) ((ptv qx).2)) 84)]) rfl kk rfl rfl (List.Perm.trans (List.Perm.refl _) (List.Perm.cons _ (List.Perm.refl _))) hG1 runUnderlying44 runUnderlying44 typeInfo64 sizeOf64 Ja rfl dd dd rfl rfl dd (by show 56 * (2 * ((Zz (fun j => qa (flW ww) (3 * j + 0)) i).length + 1) + 192) ≤ 281474976710656; omega) dd ?_
      intro v130 o130 hG130
      obtain ⟨ad130, c130, rfl⟩ := hG130.is
      have hLn130 : (Zz (fun j => qa (flW ww) (3 * j + 0)) i).length + 1 = ((Zz (fun j => qa (flW ww) (3 * j + 0)) i) ++ [qv (((flW ww).getD (3 * i + 0) (0, 0)).1) (((flW ww).getD (3 * i + 0) (0, 0)).2)]).length := lA
      rw [hLn130]; rw [hLn130] at hG130
      replace hG130 : GrowO 5 64 (.slice ad130 ((Zz (fun j => qa (flW ww) (3 * j + 0)) i) ++ [qv (((flW ww).getD (3 * i + 0) (0, 0)).1) (((flW ww).getD (3 * i + 0) (0, 0)).2)]).length c130) ((Zz (fun j => qa (flW ww) (3 * j + 0)) i) ++ [qv (((flW ww).getD (3 * i + 0) (0, 0)).1) (((flW ww).getD (3 * i + 0) (0, 0)).2)]).length (cellsOf Zv ((Zz (fun j => qa (flW ww) (3 * j + 0)) i) ++ [qv (((flW ww).getD (3 * i + 0) (0, 0)).1) (((flW ww).getD (3 * i + 0) (0, 0)).2)])) o130 := by rw [Zo, Qb]; exact hG130
      refine yp rfl (.fA rfl Xi) (yt rfl rfl rfl Zao uu sizeOf44 rfl nb (by show ((flat ((.slice ad130 ((Zz (fun j => qa (flW ww) (3 * j + 0)) i) ++ [qv (((flW ww).getD (3 * i + 0) (0, 0)).1) (((flW ww).getD (3 * i + 0) (0, 0)).2)]).length c130)) && true)) = true; simp only [GrowO.flat (hG130)]; rfl) ?_)
      refine yn (zr (zm rfl (zp (.pN (i + 1) (.add rfl rfl)) (za rfl (zn ?_))))); intro a w h
      exact ⟨i + 1, ⟨oo, ad130, c130, o130, hG130, by exact (h.factsSub (by simp)).sub sA⟩, oo⟩
     ·
      skip
      have heq_i : ww.length = i := dF hc118
      subst heq_i
      refine gC h (ze (zS (zd rfl mr isAgg46 sizeOf46 Zg ?_)))
      refine zm rfl (zd rfl mr isAgg84 sizeOf84 Zk ?_)
      refine zd rfl mr isAgg84 sizeOf84 Zk ?_
      refine zd rfl mr isAgg84 sizeOf84 Zk ?_
      refine zv [_, _, _, _, _] rfl call24 (Zbk ad95 adw P.length nw c95 cw hne ad37 G.length c37 (ptv qx) (ptv qy) (ptv qz)) (zp (Pure1.cast (v' := Zv 0) (.build [] rfl (Zad)) (by exact Kh)) (zp (.binOp rfl rfl (fun _ => Ks _ _ 0 0 _)) ?_)); intro a w h
      refine Zi h (fun hc139 h => ?_) (fun hc139 h => (absurd hc139 dd))
      refine gL h (zm rfl ?_); clear h; intro a w h
      refine Zf 140 h rfl rfl (Qc h rfl mr isAgg53 sizeOf53 Zg dd ?_); clear h; intro a h
      refine gL h (zq 140 rfl rfl (.move rfl) ?_); clear h; intro a w h
      refine Zf 140 h rfl rfl (Qc h rfl mr isAgg84 sizeOf84 Zk dd ?_); clear h; intro a h
      refine Zf 140 h rfl rfl (Qc h rfl mr isAgg84 sizeOf84 Zk dd ?_); clear h; intro a h
      refine Zf 140 h rfl rfl (Qu h (vs := [_, _, _, _]) rfl call28 (Vk ad1 adw (Zz (fun j => qa (flW ww) (3 * j + 0)) ww.length).length nw c1 cw (by rw [Zs]; omega) ad37 G.length c37 (ptv qx) (ptv qy)) dd ?_); clear h; intro a w h
      refine gL h (zq 140 rfl rfl (Pure1.cast (v' := Zv 0) (.build [] rfl (Zad)) (by exact Kh)) (zq 140 rfl rfl (.binOp rfl rfl (fun _ => Ks _ _ 0 0 _)) ?_)); clear h; intro a w h
      refine Zi h (fun hc147 h => ?_) (fun hc147 h => (absurd hc147 dd))
      refine gL h (zp (.pickT rfl rfl) (za rfl (zn (zS (zd rfl mr isAgg46 sizeOf46 Zg ?_)))))
      refine zv [_] rfl call23 (Gn ad95 adw P.length nw c95 cw hne) (zp (.eql rfl rfl) ?_); intro a w h
      refine Zi h (fun hc151 h => ?_) (fun hc151 h => (absurd hc151 dd))
      refine gL h (zm rfl ?_); clear h; intro a w h
      refine Zf 152 h rfl rfl (Qc h rfl mr isAgg46 sizeOf46 Zg dd ?_); clear h; intro a h
      refine Zf 152 h rfl rfl (Qu h (vs := [_]) rfl call12 (Zbj ad95 adw P.length nw c95 cw hne) dd ?_); clear h; intro a w h
      refine gL h (zq 152 rfl rfl (.eql rfl rfl) ?_); clear h; intro a w h
      refine Zi h (fun hc155 h => ?_) (fun hc155 h => (absurd hc155 dd))
      refine gL h (zp (.pickT rfl rfl) (zm rfl ?_)); clear h; intro a w h
      refine Zf 157 h rfl rfl (Qc h rfl mr isAgg53 sizeOf53 Zg dd ?_); clear h; intro a h
      refine Zf 157 h rfl rfl (Qu h (vs := [_]) rfl call27 (Vj ad1 adw (Zz (fun j => qa (flW ww) (3 * j + 0)) ww.length).length nw c1 cw (by rw [Zs]; omega)) dd ?_); clear h; intro a w h
      refine gL h (zq 157 rfl rfl (.eql rfl rfl) ?_); clear h; intro a w h
      refine Zi h (fun hc160 h => ?_) (fun hc160 h => (absurd hc160 dd))
      refine gL h (zp (.pickT rfl rfl) (zm rfl (zq 162 rfl rfl (.move rfl) (zp (.pickT rfl rfl) (zm rfl ?_))))); clear h; intro a w h
      refine Zf 165 h rfl rfl (Qu h (vs := []) rfl call14 (Xl) dd ?_); clear h; intro a w h
      refine gL h (zp (.pickT rfl rfl) (za rfl (zn (zt ?_)))); clear h; intro a w h
      exact Zag h
    ·
     skip
     refine gL h (zq 97 rfl rfl (.move rfl) (zq 97 rfl rfl (.builtin [_] rfl (Ji _ _ _)) (zq 97 rfl rfl (.eql rfl rfl) ?_))); clear h; intro a w h
     refine Zi h (fun hc100 h => ?_) (fun hc100 h => (by exfalso; have := of_decide_eq_false hc100; omega))
     refine gL h (zp (.pickF rfl rfl) (zn ?_)); clear h; intro a w h
     refine cW ?_
     refine Qf h rfl ?_
     refine gC h (yD Za [0, 1, 2, 3, 4, 5, 6] (Zc kk) (yp rfl (.fA rfl Qx) (yd rfl rfl mr isAgg44 sizeOf44 Qi ?_))); clear h
     refine yv [_] rfl rfl call31 (Vg _ oo oo) ?_
     have hl104 := Qo (1) oo oo
     refine yB rfl [(_, _)] rfl (Xb _ _ _ _ _) fun b105 => ?_
     refine Qm (σr := [(b23, bV (.agg #[.slice ad95 P.length c95, (.slice bd95 W.length d95)]) 46), (b20, bV (Zak ((ptv qz).1) ((ptv qz).2)) 84), (b19, bV (Zak ((ptv qy).1) ((ptv qy).2)) 84), (b18, bV (Zak ((ptv qx).1) ((ptv qx).2)) 84), (b15, bV (Zba (qz)) 30), (b14, bV (Zba (qy)) 30), (b13, bV (Zba (qx)) 30), (b10, bV (.agg #[.int .i64 bq.1, .int .u32 bq.2]) 24)]) rfl kk rfl rfl (List.Perm.trans (List.Perm.refl _) (List.Perm.cons _ (Zbv (List.Perm.refl _)))) hH95 runUnderlying44 runUnderlying44 typeInfo64 sizeOf64 Ja rfl dd dd rfl rfl dd (by show 56 * (2 * ((W).length + 1) + 192) ≤ 281474976710656; omega) dd ?_
     intro v106 o106 hG106
     obtain ⟨ad106, c106, rfl⟩ := hG106.is
     have hLn106 : (W).length + 1 = (W ++ [((1 : Int) : Rat)]).length := lA
     rw [hLn106]; rw [hLn106] at hG106
     replace hG106 : GrowO 5 64 (.slice ad106 (W ++ [((1 : Int) : Rat)]).length c106) (W ++ [((1 : Int) : Rat)]).length (cellsOf Zv (W ++ [((1 : Int) : Rat)])) o106 := by rw [Zo, Qb]; exact hG106
     refine yp rfl (.fA rfl Qx) (yt rfl rfl rfl Zan uu sizeOf44 rfl nb (by show ((flat ((.slice ad106 (W ++ [((1 : Int) : Rat)]).length c106)) && true)) = true; simp only [GrowO.flat (hG106)]; rfl) ?_)
     refine yn (zS ?_); intro a w h
     obtain ⟨nw, hnw, hne⟩ : ∃ nw, (W ++ [((1 : Int) : Rat)]).length = nw ∧ P.length ≠ nw := ⟨_, rfl, by rw [List.length_append]; simp only [List.length_singleton]; omega⟩
     obtain ⟨adw, hadw⟩ : ∃ x, ad106 = x := ⟨_, rfl⟩
     obtain ⟨cw, hcw⟩ : ∃ x, c106 = x := ⟨_, rfl⟩
     rw [hnw, hadw, hcw] at h
     replace h := h.drop (List.sublist_append_right _ _)
     refine gL h (zp (.fA rfl Qx) (zd rfl mr isAgg44 sizeOf44 Qi ?_))
     refine zp (.build [(_, _)] rfl (Zhj _ _ _)) (zz zeroValue53 fun b24 => zt' rfl rfl Zq uu sizeOf53 rfl nb rfl ?_)
     refine zn (zs (zS (za rfl (zn (zb ?_))))); intro a w h
     refine Zd (fun (i : Nat) a w => i ≤ ww.length ∧ ∃ (ad1 : Option Addr) (c1 : Nat) (o1 : List (Nat × Obj)), (GrowO 5 64 (.slice ad1 (Zz (fun j => qa (flW ww) (3 * j + 0)) i).length c1) (Zz (fun j => qa (flW ww) (3 * j + 0)) i).length (cellsOf Zv (Zz (fun j => qa (flW ww) (3 * j + 0)) i)) o1) ∧ St 168 S w0 [(0, .slice ad0 ww.length c0), (16, .bool false), (17, .slice ad37 ((G).length) c37), (18, pB b18), (19, pB b19), (20, pB b20), (23, pB b23), (24, pB b24), (25, nI i)] (o1 ++ ((b24, bV (.agg #[(.slice ad1 (Zz (fun j => qa (flW ww) (3 * j + 0)) i).length c1), .slice adw nw cw]) 53) :: ((b23, bV (.agg #[.slice ad95 P.length c95, .slice adw nw cw]) 46) :: ((b20, bV (Zak ((ptv qz).1) ((ptv qz).2)) 84) :: ((b19, bV (Zak ((ptv qy).1) ((ptv qy).2)) 84) :: ((b18, bV (Zak ((ptv qx).1) ((ptv qx).2)) 84) :: [])))))) [Row ad95 (cellsOf Gb P), Row ad0 (cellsOf Za9 (flW ww)), Row ad37 (cellsOf Jb G), Row ad (cellsOf Yv l)] a w) (fun i => ww.length - i) 0 (⟨Nat.zero_le _, none, 0, [], GrowO.nil _ _, by exact ((h.drop sl)).sub sA⟩) ?_; clear h
     rintro i a w ⟨hi_i, ad1, c1, o1, hG1, h⟩
     refine gC h (zs (zS (zm rfl (zm rfl (zp (.builtin [_] rfl (Ji _ _ _)) (zp (.lss rfl rfl) (zn ?_))))))); clear h; intro a w h
     refine cW ?_
     refine Zb h rfl (fun hc118 => ?_) (fun hc118 => ?_)
     ·
      skip
      have hlt_i : i < ww.length := dT hc118
      obtain ⟨B_ad0, O_ad0, rfl⟩ := h.row_addr (ad := ad0) (M := cellsOf Za9 (flW ww)) mm (nE 2)
      obtain ⟨hq0a, hq0b, hq0c, hq0d⟩ := hokw _ (getD_mem (flW ww) (i := 3 * i + 0) (d := (0, 0)) oo)
      have hg1 := Zs (fun j => qa (flW ww) (3 * j + 0)) i
      refine gC h (zk (zs (zb (yD Za [0, 1, 2, 3, 4, 5, 6, 7, 8, 9, 10, 11] (Zc kk) (yp rfl (.fA rfl Xi) (yd rfl rfl mr isAgg44 sizeOf44 Ql ?_)))))); clear h
      refine ym rfl rfl (ym rfl rfl (yp rfl (.indexAddr rfl rfl (Zft _ _ _ _ _ oo)) (yp rfl (Pure1.cast (v' := .pointer (some ⟨B_ad0, O_ad0 + (3 * i + 0) * 2, none⟩)) (.fA rfl Zdi) (by rw [show O_ad0 + i * 6 + 0 = O_ad0 + (3 * i + 0) * 2 by omega])) ?_)))
      refine Zj rfl kk rfl mm (cells_lt (k := 2) dd (fun _ => rfl) (flW ww) (3 * i + 0) oo) isAgg24 sizeOf24 (Zm (k := 2) (fun _ => rfl) ((fun _ => rfl)) (flW ww) (0, 0) (3 * i + 0) oo) (.inl rfl) dd ?_
      refine yv [_] rfl rfl call41 (Zes (((flW ww).getD (3 * i + 0) (0, 0)).1) (((flW ww).getD (3 * i + 0) (0, 0)).2) oo oo oo oo) ?_
      have hl128 := Yd (((flW ww).getD (3 * i + 0) (0, 0)).1) (((flW ww).getD (3 * i + 0) (0, 0)).2) oo oo oo oo
      refine yB rfl [(_, _)] rfl (Xb _ _ _ _ _) fun b129 => ?_
      refine Qm (σr := [(b24, bV (.agg #[(.slice ad1 (Zz (fun j => qa (flW ww) (3 * j + 0)) i).length c1), .slice adw nw cw]) 53), (b23, bV (.agg #[.slice ad95 P.length c95, .slice adw nw cw]) 46), (b20, bV (Zak ((ptv qz).1) ((ptv qz).2)) 84), (b19, bV (Zak ((ptv qy).1) ((ptv qy).2)) 84), (b18, bV (Zak ((ptv qx).1) ((ptv qx).2)) 84)]) rfl kk rfl rfl (List.Perm.trans (List.Perm.refl _) (List.Perm.cons _ (List.Perm.refl _))) hG1 runUnderlying44 runUnderlying44 typeInfo64 sizeOf64 Ja rfl dd dd rfl rfl dd (by show 56 * (2 * ((Zz (fun j => qa (flW ww) (3 * j + 0)) i).length + 1) + 192) ≤ 281474976710656; omega) dd ?_
      intro v130 o130 hG130
      obtain ⟨ad130, c130, rfl⟩ := hG130.is
      have hLn130 : (Zz (fun j => qa (flW ww) (3 * j + 0)) i).length + 1 = ((Zz (fun j => qa (flW ww) (3 * j + 0)) i) ++ [qv (((flW ww).getD (3 * i + 0) (0, 0)).1) (((flW ww).getD (3 * i + 0) (0, 0)).2)]).length := lA
      rw [hLn130]; rw [hLn130] at hG130
      replace hG130 : GrowO 5 64 (.slice ad130 ((Zz (fun j => qa (flW ww) (3 * j + 0)) i) ++ [qv (((flW ww).getD (3 * i + 0) (0, 0)).1) (((flW ww).getD (3 * i + 0) (0, 0)).2)]).length c130) ((Zz (fun j => qa (flW ww) (3 * j + 0)) i) ++ [qv (((flW ww).getD (3 * i + 0) (0, 0)).1) (((flW ww).getD (3 * i + 0) (0, 0)).2)]).length (cellsOf Zv ((Zz (fun j => qa (flW ww) (3 * j + 0)) i) ++ [qv (((flW ww).getD (3 * i + 0) (0, 0)).1) (((flW ww).getD (3 * i + 0) (0, 0)).2)])) o130 := by rw [Zo, Qb]; exact hG130
      refine yp rfl (.fA rfl Xi) (yt rfl rfl rfl Zao uu sizeOf44 rfl nb (by show ((flat ((.slice ad130 ((Zz (fun j => qa (flW ww) (3 * j + 0)) i) ++ [qv (((flW ww).getD (3 * i + 0) (0, 0)).1) (((flW ww).getD (3 * i + 0) (0, 0)).2)]).length c130)) && true)) = true; simp only [GrowO.flat (hG130)]; rfl) ?_)
      refine yn (zr (zm rfl (zp (.pN (i + 1) (.add rfl rfl)) (za rfl (zn ?_))))); intro a w h
      exact ⟨i + 1, ⟨oo, ad130, c130, o130, hG130, by exact (h.factsSub (by simp)).sub sA⟩, oo⟩
     ·
      skip
      have heq_i : ww.length = i := dF hc118
      subst heq_i
      refine gC h (ze (zS (zd rfl mr isAgg46 sizeOf46 Zg ?_)))
      refine zm rfl (zd rfl mr isAgg84 sizeOf84 Zk ?_)
      refine zd rfl mr isAgg84 sizeOf84 Zk ?_
      refine zd rfl mr isAgg84 sizeOf84 Zk ?_
      refine zv [_, _, _, _, _] rfl call24 (Zbk ad95 adw P.length nw c95 cw hne ad37 G.length c37 (ptv qx) (ptv qy) (ptv qz)) (zp (Pure1.cast (v' := Zv 0) (.build [] rfl (Zad)) (by exact Kh)) (zp (.binOp rfl rfl (fun _ => Ks _ _ 0 0 _)) ?_)); intro a w h
      refine Zi h (fun hc139 h => ?_) (fun hc139 h => (absurd hc139 dd))
      refine gL h (zm rfl ?_); clear h; intro a w h
      refine Zf 140 h rfl rfl (Qc h rfl mr isAgg53 sizeOf53 Zg dd ?_); clear h; intro a h
      refine gL h (zq 140 rfl rfl (.move rfl) ?_); clear h; intro a w h
      refine Zf 140 h rfl rfl (Qc h rfl mr isAgg84 sizeOf84 Zk dd ?_); clear h; intro a h
      refine Zf 140 h rfl rfl (Qc h rfl mr isAgg84 sizeOf84 Zk dd ?_); clear h; intro a h
      refine Zf 140 h rfl rfl (Qu h (vs := [_, _, _, _]) rfl call28 (Vk ad1 adw (Zz (fun j => qa (flW ww) (3 * j + 0)) ww.length).length nw c1 cw (by rw [Zs]; omega) ad37 G.length c37 (ptv qx) (ptv qy)) dd ?_); clear h; intro a w h
      refine gL h (zq 140 rfl rfl (Pure1.cast (v' := Zv 0) (.build [] rfl (Zad)) (by exact Kh)) (zq 140 rfl rfl (.binOp rfl rfl (fun _ => Ks _ _ 0 0 _)) ?_)); clear h; intro a w h
      refine Zi h (fun hc147 h => ?_) (fun hc147 h => (absurd hc147 dd))
      refine gL h (zp (.pickT rfl rfl) (za rfl (zn (zS (zd rfl mr isAgg46 sizeOf46 Zg ?_)))))
      refine zv [_] rfl call23 (Gn ad95 adw P.length nw c95 cw hne) (zp (.eql rfl rfl) ?_); intro a w h
      refine Zi h (fun hc151 h => ?_) (fun hc151 h => (absurd hc151 dd))
      refine gL h (zm rfl ?_); clear h; intro a w h
      refine Zf 152 h rfl rfl (Qc h rfl mr isAgg46 sizeOf46 Zg dd ?_); clear h; intro a h
      refine Zf 152 h rfl rfl (Qu h (vs := [_]) rfl call12 (Zbj ad95 adw P.length nw c95 cw hne) dd ?_); clear h; intro a w h
      refine gL h (zq 152 rfl rfl (.eql rfl rfl) ?_); clear h; intro a w h
      refine Zi h (fun hc155 h => ?_) (fun hc155 h => (absurd hc155 dd))
      refine gL h (zp (.pickT rfl rfl) (zm rfl ?_)); clear h; intro a w h
      refine Zf 157 h rfl rfl (Qc h rfl mr isAgg53 sizeOf53 Zg dd ?_); clear h; intro a h
      refine Zf 157 h rfl rfl (Qu h (vs := [_]) rfl call27 (Vj ad1 adw (Zz (fun j => qa (flW ww) (3 * j + 0)) ww.length).length nw c1 cw (by rw [Zs]; omega)) dd ?_); clear h; intro a w h
      refine gL h (zq 157 rfl rfl (.eql rfl rfl) ?_); clear h; intro a w h
      refine Zi h (fun hc160 h => ?_) (fun hc160 h => (absurd hc160 dd))
      refine gL h (zp (.pickT rfl rfl) (zm rfl (zq 162 rfl rfl (.move rfl) (zp (.pickT rfl rfl) (zm rfl ?_))))); clear h; intro a w h
      refine Zf 165 h rfl rfl (Qu h (vs := []) rfl call14 (Xl) dd ?_); clear h; intro a w h
      refine gL h (zp (.pickT rfl rfl) (za rfl (zn (zt ?_)))); clear h; intro a w h
      exact Zag h
end
section
def Zu4 (n : Nat) : Nat → List UInt8
 | 0 => []
 | k + 1 => UInt8.ofNat (48 + n / 10 ^ k % 10) :: Zu4 n k
def Zz1 (n k : Nat) : ByteArray := ⟨(Zu4 n k).toArray⟩
theorem Zsj (n : Nat) : ∀ k, (Zu4 n k).length = k
 | 0 => rfl
 | k + 1 => congrArg (· + 1) (Zsj n k)
theorem Zw2 (n k : Nat) : (Zz1 n k).size = k := by show (Zu4 n k).toArray.size = k; rw [List.size_toArray, Zsj]
theorem Znz (n : Nat) : ∀ k, Zu4 n (k + 1) = Zu4 (n / 10) k ++ [UInt8.ofNat (48 + n % 10)]
 | 0 => by simp [Zu4]
 | k + 1 => by
  rw [Zu4, Znz n k, Zu4, List.cons_append]
  congr 2
  rw [Nat.div_div_eq_div_mul, Nat.pow_succ, Nat.mul_comm]
theorem Zmg (n : Nat) : Lib.decDigits n = Zu4 n (Lib.nDigits n) := by
 induction n using Nat.strongRecOn with
 | _ n ih =>
  by_cases h : n < 10
  ·
   rw [Lib.decDigits_one h, Lib.nDigits_small h]
   simp [Zu4, Nat.mod_eq_of_lt h]
  · rw [Lib.decDigits, dif_neg h, Lib.nDigits_big h, Znz, ih (n / 10) oo]
theorem Zny (n k : Nat) : (ByteArray.mk #[UInt8.ofNat (48 + n / 10 ^ k % 10)]) ++ Zz1 n k = Zz1 n (k + 1) := by
 apply ByteArray.ext
 rw [ByteArray.data_append]
 apply Array.ext'
 simp [Zz1, Zu4]
def chunk (m : Nat) : ByteArray := if m / 1000000000 = 0 then dB m else Zz1 m 9
def prt (n : Nat) : Nat → List ByteArray
 | 0 => []
 | i + 1 => prt n i ++ [chunk (n / 10 ^ (9 * i))]
def catB (l : List ByteArray) : List UInt8 := l.flatMap (·.data.toList)
end
section
theorem Qj (a : Option Addr) (n c : Nat) (w : World) (ty : TypeId) (cs : Array Bool) : (Go.builtin .len #[68] ty cs #[.slice a n c]).run Tryz.prog w = .ok (.value (.int .i64 n)) w := by
 simp [go_sem]
theorem Zee (b off n c j : Nat) (h : j < n) (w : World) : (Instr.indexAt 68 (.slice (some ⟨b, off, none⟩) n c) (.int .i64 (j : Int))).run Tryz.prog w = .ok (.pointer (some ⟨b, off + j, none⟩)) w := by
 simpa using Je runUnderlying68 sizeOf3 b off n c j h w
theorem slh_68 (a : Option Addr) (n c j : Nat) (h : j ≤ c) (w : World) : (Instr.sliceAt 68 (.slice a n c) none (some (.int .i64 (j : Int))) none).run Tryz.prog w = .ok (.slice a j c) w := by
 exact Zd4 runUnderlying68 sizeOf3 a n c j h w
theorem Zb4 (x0 : Int) (w : World) : (Instr.buildSlice 68 1 [(0, .int .i64 x0)].toArray).run Tryz.prog w = .ok (.slice (some ⟨w.heap.size, 0, none⟩) 1 1) (w.alloc (.cells #[.int .i64 x0] 3 (0, 0))) := by
 simp [go_sem]
theorem Zpc (ad : Option Addr) (c : Nat) (l : List Nat) (hw : Dd l) (hc : l.length ≤ c) (hs : l.length ≤ 2199023255552) :
  Ctr Tryz.prog 147 [.slice ad l.length c] [Row ad (List.map Qh l)] (fun v Ψ => v = .slice ad (dg (Qy l)).length c ∧ Ψ = [Row ad (List.map Qh (dg (Qy l)))]) := by
 refine fn_intro func147 rfl ntmps147 nb ?_
 intro S w0 a hS h
 refine gC h (zS (za rfl (zn (zs (zb ?_))))); clear h; intro a w h
 refine Zd (fun (m : Nat) a w => m ≤ l.length ∧ (∀ j, m ≤ j → j < l.length → l.getD j 0 = 0) ∧ St 21 S w0 [(0, .slice ad m c)] [] [Row ad (List.map Qh l)] a w) (fun m => m) (l.length) (⟨Nat.le_refl _, fun j h1 h2 => absurd h2 oo, h.sub sA⟩) ?_; clear h
 rintro m a w ⟨hm, hz, h⟩
 refine gC h (zs (zS (zm rfl (zp (.builtin [_] rfl (Qj _ _ _)) (zp (.gtr rfl rfl) ?_))))); clear h; intro a w h
 refine Zi h (fun hc5 h => ?_) (fun hc5 h => ?_)
 ·
  skip
  have hm0 : 0 < m := dT hc5
  obtain ⟨B_ad, O_ad, rfl⟩ := h.row_addr (ad := ad) (M := List.map Qh l) (by first | assumption | (repeat (first | exact List.Mem.head _ | apply List.Mem.tail))) nF
  refine gL h (zm rfl (zq 6 rfl rfl (.move rfl) (zq 6 rfl rfl (.move rfl) (zq 6 rfl rfl (.builtin [_] rfl (Qj _ _ _)) (zq 6 rfl rfl (.pO (m - 1) (.sub rfl rfl)) (zq 6 rfl rfl (.indexAddr rfl rfl (Zee _ _ _ _ _ oo)) ?_)))))); clear h; intro a w h
  refine Zf 6 h rfl rfl (Zbe h rfl mm (by rw [List.length_map]; omega) isAgg3 sizeOf3 (Zy (enc := Qh) (l := l) 0 oo) (.inr rfl) dd ?_); clear h; intro a h
  refine gL h (zq 6 rfl rfl (.eql rfl rfl) ?_); clear h; intro a w h
  refine Zi h (fun hc13 h => ?_) (fun hc13 h => ?_)
  ·
   skip
   have hv0 : l.getD (m - 1) 0 = 0 := Znv hc13
   refine gL h (zp (.pickT rfl rfl) (zn ?_)); clear h; intro a w h
   refine cW ?_
   refine Qf h rfl ?_
   refine gC h (zk (zb (zr (zm rfl (zm rfl (zp (.builtin [_] rfl (Qj _ _ _)) (zp (.pO (m - 1) (.sub rfl rfl)) (zp (.slice rfl none (some _) none rfl rfl rfl (slh_68 _ _ _ _ oo)) (za rfl (zn ?_)))))))))); clear h; intro a w h
   refine ⟨m - 1, ⟨oo, fun j h1 h2 => ?_, h.sub sA⟩, oo⟩
   by_cases hj : j = m - 1
   · subst hj; exact hv0
   · exact hz j oo h2
  ·
   skip
   have hv0 : l.getD (m - 1) 0 ≠ 0 := Znu hc13
   refine gL h (zp (.pickT rfl rfl) (zn ?_)); clear h; intro a w h
   refine cW ?_
   refine Zn h rfl ?_
   refine gC h (ze (zS (zm rfl (za rfl (zn (zt ?_)))))); clear h; intro a w h
   have hcut := Zs5 hw hm hz (.inr hv0)
   have hR : ∀ ad, Row ad (List.map Qh (dg (Qy l))) = Row ad ((List.map Qh l).take m) := by intro ad; rw [hcut, List.map_take]
   replace h := h.derive (R := Row _ (List.map Qh (dg (Qy l)))) (fun X hX => by rw [hR]; exact Zf8 (hX _ List.mem_cons_self) m)
   have hl : m = (dg (Qy l)).length := by rw [hcut]; simp; omega
   refine Jm (Ψ := [Row _ (List.map Qh (dg (Qy l)))]) h (Ze h rfl (.tmp rfl)) ⟨by rw [← hl], rfl⟩ ss
 ·
  skip
  have hm0 : m = 0 := dF hc5
  refine gL h (zm rfl (zo 6 rfl rfl rfl (zo 6 rfl rfl rfl (zo 6 rfl rfl rfl (zo 6 rfl rfl rfl (zo 6 rfl rfl rfl (zo 6 rfl rfl rfl (zo 6 rfl rfl rfl (zp (.pickF rfl rfl) (zn ?_)))))))))); clear h; intro a w h
  refine cW ?_
  refine Zn h rfl ?_
  refine gC h (ze (zS (zm rfl (za rfl (zn (zt ?_)))))); clear h; intro a w h
  have hcut := Zs5 hw hm hz (.inl hm0)
  have hR : ∀ ad, Row ad (List.map Qh (dg (Qy l))) = Row ad ((List.map Qh l).take m) := by intro ad; rw [hcut, List.map_take]
  replace h := h.derive (R := Row _ (List.map Qh (dg (Qy l)))) (fun X hX => by rw [hR]; exact Zf8 (hX _ List.mem_cons_self) m)
  have hl : m = (dg (Qy l)).length := by rw [hcut]; simp; omega
  refine Jm (Ψ := [Row _ (List.map Qh (dg (Qy l)))]) h (Ze h rfl (.tmp rfl)) ⟨by rw [← hl], rfl⟩ ss
theorem Zmx (ad : Option Addr) (c : Nat) (l : List Nat) (i : Nat) :
  Ge Tryz.prog 146 [.slice ad l.length c, .int .i64 ((i : Nat) : Int)] [Row ad (List.map Qh l)] (.int .i64 ((l.getD i 0 : Nat) : Int)) := by
 refine fn_intro func146 rfl ntmps146 nb ?_
 intro S w0 a hS h
 refine gC h (zS (za rfl (zn (zs (zS (zm rfl (zm rfl (zp (.builtin [_] rfl (Qj _ _ _)) (zp (.lss rfl rfl) (zn ?_)))))))))); clear h; intro a w h
 refine cW ?_
 refine Zb h rfl (fun hc8 => ?_) (fun hc8 => ?_)
 ·
  skip
  have hi : i < l.length := dT hc8
  obtain ⟨B_ad, O_ad, rfl⟩ := h.row_addr (ad := ad) (M := List.map Qh l) (by first | assumption | (repeat (first | exact List.Mem.head _ | apply List.Mem.tail))) nF
  refine gC h (zS (zm rfl (zm rfl (zp (.indexAddr rfl rfl (Zee _ _ _ _ _ oo)) (zD rfl mm (by rw [List.length_map]; omega) isAgg3 sizeOf3 (Zy (enc := Qh) (l := l) 0 oo) (.inr rfl) ?_)))))
  refine za rfl (zn (zt ?_)); intro a w h
  exact Zag h
 ·
  skip
  have hi : l.length ≤ i := dF hc8
  refine gC h (zk (zS (za rfl (zn (zt ?_))))); clear h; intro a w h
  refine Jr h (Ze h rfl (.tmp rfl)) ?_
  rw [Vc hi]; rfl
def Zo8 (n : Nat) (v : Value) (Ψ : List Qn) : Prop := ∃ ad c, v = .slice ad (dg n).length c ∧ (dg n).length ≤ c ∧ Ψ = [Row ad (List.map Qh (dg n))]
theorem dlt (n i : Nat) : (dg n).getD i 0 < 10000 := (Dd.dg n).getD i
theorem trimmed {n : Nat} {ad : Option Addr} {c : Nat} {v : Value} {Ψ : List Qn} {Z : List Nat} (hv : v = .slice ad (dg (Qy Z)).length c ∧ Ψ = [Row ad (List.map Qh (dg (Qy Z)))]) (hZ : Qy Z = n) (hw : Dd Z) (hc : Z.length ≤ c) : Zo8 n v Ψ := by
 subst hZ; exact ⟨ad, c, hv.1, Nat.le_trans (Zhw hw) hc, hv.2⟩
theorem Zzc (n : Nat) (hn : n < 18446744073709551616) :
  Ctr Tryz.prog 114 [.int .u64 (n : Int)] [] (Zo8 n) := by
 have h5 : (dg n).length ≤ 5 := Zb1 (Nat.lt_trans hn dd)
 refine fn_intro func114 rfl ntmps114 nb ?_
 intro S w0 a hS h
 refine gC h (zS (za rfl (zn (zS (za rfl (zn (zs (zb ?_)))))))); clear h; intro a w h
 refine Zd (fun (m : Nat) a w => ∃ l ad c o, m ≤ n ∧ dg n = l ++ dg m ∧ GrowO 1 3 (.slice ad l.length c) l.length (List.map Qh l) o ∧ St 15 S w0 [(0, .int .u64 (m : Int)), (3, .slice ad l.length c)] (o ++ []) [] a w) (fun m => m) (n) (⟨[], none, 0, [], Nat.le_refl _, rfl, GrowO.nil _ _, by exact h.sub sA⟩) ?_; clear h
 rintro m a w ⟨l, ad, c, o, hm, hd, hG, h⟩
 have hll : l.length ≤ 5 := by have := congrArg List.length hd; simp at this; omega
 refine gC h (zs (zS (zm rfl (zp (.gtr rfl rfl) (zn ?_))))); clear h; intro a w h
 refine cW ?_
 refine Zb h rfl (fun hc5 => ?_) (fun hc5 => ?_)
 ·
  skip
  have hm0 : 0 < m := dT hc5
  refine gC h (zk (zb (zS (zm rfl (zm rfl (zp (Pure1.cast (v' := .int .u64 ((m % 10000 : Nat) : Int)) (.binOp rfl rfl (fun _ => Vm _ _ _ _ _ dd)) (by rw [show (10000 : Int) = ((10000 : Nat) : Int) from rfl, Yi])) (zp (.convert rfl (Zs7 _ (wrap_i64 _ oo oo))) (zB [(_, _)] rfl (Zb4 _) fun b10 => ?_)))))))); clear h; intro a w h
  refine Zl (Xn (σr := []) h rfl rfl (List.Perm.trans (List.Perm.refl _) (List.Perm.cons _ (List.Perm.refl _))) hG runUnderlying68 runUnderlying68 typeInfo3 sizeOf3 zeroValue3 rfl dd dd rfl rfl dd (by show 8 * (2 * ((l).length + 1) + 192) ≤ 281474976710656; omega) dd ?_); clear h
  intro v11 o11 a w hG11 h
  obtain ⟨ad11, c11, rfl⟩ := hG11.is
  have hLn11 : (l).length + 1 = (l ++ [m % 10000]).length := lA
  rw [hLn11] at h hG11
  replace hG11 : GrowO 1 3 (.slice ad11 (l ++ [m % 10000]).length c11) (l ++ [m % 10000]).length (List.map Qh (l ++ [m % 10000])) o11 := by rw [List.map_append]; exact hG11
  refine gL h (za rfl (zn (zr (zm rfl (zp (Pure1.cast (v' := .int .u64 ((m / 10000 : Nat) : Int)) (.binOp rfl rfl (fun _ => Vx _ _ _ _ _ dd)) (by rw [show (10000 : Int) = ((10000 : Nat) : Int) from rfl, Yn, Zd2 (Nat.lt_of_le_of_lt (Nat.div_le_self _ _) (Nat.lt_of_le_of_lt hm hn))])) (za rfl (zn ?_))))))); clear h; intro a w h
  exact ⟨m / 10000, ⟨l ++ [m % 10000], ad11, c11, o11, oo, by rw [hd, Zjh (Nat.ne_of_gt hm0)]; simp, hG11, by exact h.sub sA⟩, oo⟩
 ·
  skip
  have hm0 : m = 0 := dF hc5
  refine gC h (ze (zS (zm rfl (za rfl (zn (zt ?_)))))); clear h; intro a w h
  obtain rfl : l = dg n := by rw [hd, hm0, Xk, List.append_nil]
  exact Jm (Ψ := [Row ad (List.map Qh (dg n))]) (h.shareO' hS hG) (Ze h rfl (.tmp rfl)) ⟨ad, c, rfl, hG.le, rfl⟩ ss
theorem drop_zero {l : List Nat} {i : Nat} (h : l.length ≤ i) : Qy (l.drop i) = 0 := Znb h
theorem Qdd (ad1 ad2 : Option Addr) (c1 c2 : Nat) (n m : Nat) (h1 : (dg n).length ≤ 1000000000000) (h2 : (dg m).length ≤ 1000000000000) :
  Ctr Tryz.prog 140 [.slice ad1 (dg n).length c1, .slice ad2 (dg m).length c2] [Row ad1 (List.map Qh (dg n)), Row ad2 (List.map Qh (dg m))] (Zo8 (n + m)) := by
 refine fn_intro func140 rfl ntmps140 nb ?_
 intro S w0 a hS h
 refine gC h (zS (za rfl (zn (zS (za rfl (zn (zS (za rfl (zn (zs (zS (za rfl (zn (zb ?_)))))))))))))); clear h; intro a w h
 refine Zd (fun (i : Nat) a w => ∃ k Z ad c o, i ≤ max (dg n).length (dg m).length + 1 ∧ k ≤ 1 ∧ (i = max (dg n).length (dg m).length + 1 → k = 0) ∧ Z.length = i ∧ Dd Z ∧ Qy Z + 10000 ^ i * (k + Qy ((dg n).drop i) + Qy ((dg m).drop i)) = n + m ∧ GrowO 1 3 (.slice ad Z.length c) Z.length (List.map Qh Z) o ∧ St 43 S w0 [(0, .slice ad1 ((dg n).length) c1), (1, .slice ad2 ((dg m).length) c2), (5, .slice ad Z.length c), (6, nI k), (7, nI i)] (o ++ []) [Row ad1 (List.map Qh (dg n)), Row ad2 (List.map Qh (dg m))] a w) (fun i => max (dg n).length (dg m).length + 1 - i) (0) (⟨0, [], none, 0, [], Nat.zero_le _, oo, fun _ => rfl, rfl, (fun x hx => by cases hx), by simp [Qy, Yl], GrowO.nil _ _, by exact h.sub sA⟩) ?_; clear h
 rintro i a w ⟨k, Z, ad, c, o, hi, hk, hik, hl, hw, hv, hG, h⟩
 have e1 := dlt n i
 have e2 := dlt m i
 refine gC h (zs (zS (zm rfl (zm rfl (zp (.builtin [_] rfl (Qj _ _ _)) (zp (.lss rfl rfl) ?_)))))); clear h; intro a w h
 refine Zi h (fun hc12 h => ?_) (fun hc12 h => ?_)
 ·
  skip
  have hrun : i ≤ max (dg n).length (dg m).length := dT hc12
  refine gL h (zm rfl (zo 13 rfl rfl rfl (zo 13 rfl rfl rfl (zo 13 rfl rfl rfl (zo 13 rfl rfl rfl (zp (.pickT rfl rfl) (zm rfl (zo 19 rfl rfl rfl (zo 19 rfl rfl rfl (zp (.pickT rfl rfl) (zn ?_))))))))))); clear h; intro a w h
  refine cW ?_
  refine Qf h rfl ?_
  refine gC h (zk (zs (zb (zS (zm rfl (zm rfl (zw [_, _] rfl call146 (Zmx _ _ (dg n) (i)) (zm rfl (zm rfl (zw [_, _] rfl call146 (Zmx _ _ (dg m) (i)) (zp (.pN (((dg n).getD i 0) + ((dg m).getD i 0)) (.add rfl rfl)) (zm rfl (zp (.pN ((((dg n).getD i 0) + ((dg m).getD i 0)) + k) (.add rfl rfl)) (za rfl (zn (zS (zm rfl (zm rfl (zp (Pure1.cast (v' := .int .i64 ((((dg n).getD i 0 + (dg m).getD i 0 + k) % 10000 : Nat) : Int)) (.binOp rfl rfl (fun _ => Vm _ _ _ _ _ dd)) (by rw [show (10000 : Int) = ((10000 : Nat) : Int) from rfl, Yi])) (zB [(_, _)] rfl (Zb4 _) fun b37 => ?_)))))))))))))))))))); clear h; intro a w h
  refine Zl (Xn (σr := []) h rfl rfl (List.Perm.trans (List.Perm.refl _) (List.Perm.cons _ (List.Perm.refl _))) hG runUnderlying68 runUnderlying68 typeInfo3 sizeOf3 zeroValue3 rfl dd dd rfl rfl dd (by show 8 * (2 * ((Z).length + 1) + 192) ≤ 281474976710656; omega) dd ?_); clear h
  intro v38 o38 a w hG38 h
  obtain ⟨ad38, c38, rfl⟩ := hG38.is
  have hLn38 : (Z).length + 1 = (Z ++ [((dg n).getD i 0 + (dg m).getD i 0 + k) % 10000]).length := lA
  rw [hLn38] at h hG38
  replace hG38 : GrowO 1 3 (.slice ad38 (Z ++ [((dg n).getD i 0 + (dg m).getD i 0 + k) % 10000]).length c38) (Z ++ [((dg n).getD i 0 + (dg m).getD i 0 + k) % 10000]).length (List.map Qh (Z ++ [((dg n).getD i 0 + (dg m).getD i 0 + k) % 10000])) o38 := by rw [List.map_append]; exact hG38
  refine gL h (za rfl (zn (zr (zm rfl (zp (Pure1.cast (v' := .int .i64 ((((dg n).getD i 0 + (dg m).getD i 0 + k) / 10000 : Nat) : Int)) (.binOp rfl rfl (fun _ => Vx _ _ _ _ _ dd)) (by rw [show (10000 : Int) = ((10000 : Nat) : Int) from rfl, Yn, wrap_i64 _ oo oo])) (za rfl (zn (zr (zm rfl (zp (.pN (i + 1) (.add rfl rfl)) (za rfl (zn ?_)))))))))))); clear h; intro a w h
  exact ⟨i + 1, ⟨((dg n).getD i 0 + (dg m).getD i 0 + k) / 10000, Z ++ [((dg n).getD i 0 + (dg m).getD i 0 + k) % 10000], ad38, c38, o38, oo, by omega, fun hx => by rw [Vc (l := dg n) oo, Vc (l := dg m) oo]; omega, by rw [List.length_append, hl]; rfl, hw.snoc (Nat.mod_lt _ dd), Zir hl hv, hG38, by exact h.sub sA⟩, oo⟩
 ·
  skip
  have hna : (dg n).length ≤ i := dF hc12
  refine gL h (zm rfl (zq 13 rfl rfl (.move rfl) (zq 13 rfl rfl (.move rfl) (zq 13 rfl rfl (.builtin [_] rfl (Qj _ _ _)) (zq 13 rfl rfl (.lss rfl rfl) ?_))))); clear h; intro a w h
  refine Zi h (fun hc17 h => ?_) (fun hc17 h => ?_)
  ·
   skip
   have hrun : i ≤ max (dg n).length (dg m).length := dT hc17
   refine gL h (zp (.pickF rfl rfl) (zm rfl (zo 19 rfl rfl rfl (zo 19 rfl rfl rfl (zp (.pickT rfl rfl) (zn ?_)))))); clear h; intro a w h
   refine cW ?_
   refine Qf h rfl ?_
   refine gC h (zk (zs (zb (zS (zm rfl (zm rfl (zw [_, _] rfl call146 (Zmx _ _ (dg n) (i)) (zm rfl (zm rfl (zw [_, _] rfl call146 (Zmx _ _ (dg m) (i)) (zp (.pN (((dg n).getD i 0) + ((dg m).getD i 0)) (.add rfl rfl)) (zm rfl (zp (.pN ((((dg n).getD i 0) + ((dg m).getD i 0)) + k) (.add rfl rfl)) (za rfl (zn (zS (zm rfl (zm rfl (zp (Pure1.cast (v' := .int .i64 ((((dg n).getD i 0 + (dg m).getD i 0 + k) % 10000 : Nat) : Int)) (.binOp rfl rfl (fun _ => Vm _ _ _ _ _ dd)) (by rw [show (10000 : Int) = ((10000 : Nat) : Int) from rfl, Yi])) (zB [(_, _)] rfl (Zb4 _) fun b37 => ?_)))))))))))))))))))); clear h; intro a w h
   refine Zl (Xn (σr := []) h rfl rfl (List.Perm.trans (List.Perm.refl _) (List.Perm.cons _ (List.Perm.refl _))) hG runUnderlying68 runUnderlying68 typeInfo3 sizeOf3 zeroValue3 rfl dd dd rfl rfl dd (by show 8 * (2 * ((Z).length + 1) + 192) ≤ 281474976710656; omega) dd ?_); clear h
   intro v38 o38 a w hG38 h
   obtain ⟨ad38, c38, rfl⟩ := hG38.is
   have hLn38 : (Z).length + 1 = (Z ++ [((dg n).getD i 0 + (dg m).getD i 0 + k) % 10000]).length := lA
   rw [hLn38] at h hG38
   replace hG38 : GrowO 1 3 (.slice ad38 (Z ++ [((dg n).getD i 0 + (dg m).getD i 0 + k) % 10000]).length c38) (Z ++ [((dg n).getD i 0 + (dg m).getD i 0 + k) % 10000]).length (List.map Qh (Z ++ [((dg n).getD i 0 + (dg m).getD i 0 + k) % 10000])) o38 := by rw [List.map_append]; exact hG38
   refine gL h (za rfl (zn (zr (zm rfl (zp (Pure1.cast (v' := .int .i64 ((((dg n).getD i 0 + (dg m).getD i 0 + k) / 10000 : Nat) : Int)) (.binOp rfl rfl (fun _ => Vx _ _ _ _ _ dd)) (by rw [show (10000 : Int) = ((10000 : Nat) : Int) from rfl, Yn, wrap_i64 _ oo oo])) (za rfl (zn (zr (zm rfl (zp (.pN (i + 1) (.add rfl rfl)) (za rfl (zn ?_)))))))))))); clear h; intro a w h
   exact ⟨i + 1, ⟨((dg n).getD i 0 + (dg m).getD i 0 + k) / 10000, Z ++ [((dg n).getD i 0 + (dg m).getD i 0 + k) % 10000], ad38, c38, o38, oo, by omega, fun hx => by rw [Vc (l := dg n) oo, Vc (l := dg m) oo]; omega, by rw [List.length_append, hl]; rfl, hw.snoc (Nat.mod_lt _ dd), Zir hl hv, hG38, by exact h.sub sA⟩, oo⟩
  ·
   skip
   have hnb : (dg m).length ≤ i := dF hc17
   refine gL h (zp (.pickF rfl rfl) (zm rfl (zq 19 rfl rfl (.move rfl) (zq 19 rfl rfl (.gtr rfl rfl) ?_)))); clear h; intro a w h
   refine Zi h (fun hc21 h => ?_) (fun hc21 h => ?_)
   ·
    skip
    have hrun : i ≤ max (dg n).length (dg m).length := dT hc21
    refine gL h (zp (.pickF rfl rfl) (zn ?_)); clear h; intro a w h
    refine cW ?_
    refine Qf h rfl ?_
    refine gC h (zk (zs (zb (zS (zm rfl (zm rfl (zw [_, _] rfl call146 (Zmx _ _ (dg n) (i)) (zm rfl (zm rfl (zw [_, _] rfl call146 (Zmx _ _ (dg m) (i)) (zp (.pN (((dg n).getD i 0) + ((dg m).getD i 0)) (.add rfl rfl)) (zm rfl (zp (.pN ((((dg n).getD i 0) + ((dg m).getD i 0)) + k) (.add rfl rfl)) (za rfl (zn (zS (zm rfl (zm rfl (zp (Pure1.cast (v' := .int .i64 ((((dg n).getD i 0 + (dg m).getD i 0 + k) % 10000 : Nat) : Int)) (.binOp rfl rfl (fun _ => Vm _ _ _ _ _ dd)) (by rw [show (10000 : Int) = ((10000 : Nat) : Int) from rfl, Yi])) (zB [(_, _)] rfl (Zb4 _) fun b37 => ?_)))))))))))))))))))); clear h; intro a w h
    refine Zl (Xn (σr := []) h rfl rfl (List.Perm.trans (List.Perm.refl _) (List.Perm.cons _ (List.Perm.refl _))) hG runUnderlying68 runUnderlying68 typeInfo3 sizeOf3 zeroValue3 rfl dd dd rfl rfl dd (by show 8 * (2 * ((Z).length + 1) + 192) ≤ 281474976710656; omega) dd ?_); clear h
    intro v38 o38 a w hG38 h
    obtain ⟨ad38, c38, rfl⟩ := hG38.is
    have hLn38 : (Z).length + 1 = (Z ++ [((dg n).getD i 0 + (dg m).getD i 0 + k) % 10000]).length := lA
    rw [hLn38] at h hG38
    replace hG38 : GrowO 1 3 (.slice ad38 (Z ++ [((dg n).getD i 0 + (dg m).getD i 0 + k) % 10000]).length c38) (Z ++ [((dg n).getD i 0 + (dg m).getD i 0 + k) % 10000]).length (List.map Qh (Z ++ [((dg n).getD i 0 + (dg m).getD i 0 + k) % 10000])) o38 := by rw [List.map_append]; exact hG38
    refine gL h (za rfl (zn (zr (zm rfl (zp (Pure1.cast (v' := .int .i64 ((((dg n).getD i 0 + (dg m).getD i 0 + k) / 10000 : Nat) : Int)) (.binOp rfl rfl (fun _ => Vx _ _ _ _ _ dd)) (by rw [show (10000 : Int) = ((10000 : Nat) : Int) from rfl, Yn, wrap_i64 _ oo oo])) (za rfl (zn (zr (zm rfl (zp (.pN (i + 1) (.add rfl rfl)) (za rfl (zn ?_)))))))))))); clear h; intro a w h
    exact ⟨i + 1, ⟨((dg n).getD i 0 + (dg m).getD i 0 + k) / 10000, Z ++ [((dg n).getD i 0 + (dg m).getD i 0 + k) % 10000], ad38, c38, o38, oo, by omega, fun hx => by rw [Vc (l := dg n) oo, Vc (l := dg m) oo]; omega, by rw [List.length_append, hl]; rfl, hw.snoc (Nat.mod_lt _ dd), Zir hl hv, hG38, by exact h.sub sA⟩, oo⟩
   ·
    skip
    have hk0 : k = 0 := dF hc21
    refine gL h (zp (.pickF rfl rfl) (zn ?_)); clear h; intro a w h
    refine cW ?_
    refine Zn h rfl ?_
    refine gC h (ze (zS (zm rfl ?_))); clear h; intro a w h
    replace h := h.shareO' hS hG
    have hZ : Qy Z = n + m := by rw [hk0, drop_zero hna, drop_zero hnb] at hv; simpa using hv
    refine gL h (zf [_] rfl call147 (Zpc ad c Z hw hG.le oo) ?_); rintro v42 Ψ42 ht
    refine za rfl (zn (zt ?_)); intro a w h
    exact Jm h (Ze h rfl (.tmp rfl)) (trimmed ht hZ hw hG.le) (fun R hR => List.mem_append_left _ hR)
theorem Ztk (ad1 ad2 : Option Addr) (c1 c2 : Nat) (n m : Nat) (h1 : (dg n).length ≤ 1000000000000) (h2 : (dg m).length ≤ 1000000000000) (hle : m ≤ n) :
  Ctr Tryz.prog 145 [.slice ad1 (dg n).length c1, .slice ad2 (dg m).length c2] [Row ad1 (List.map Qh (dg n)), Row ad2 (List.map Qh (dg m))] (Zo8 (n - m)) := by
 refine fn_intro func145 rfl ntmps145 nb ?_
 intro S w0 a hS h
 refine gC h (zS (za rfl (zn (zS (za rfl (zn (zS (za rfl (zn (zs (zS (za rfl (zn (zb ?_)))))))))))))); clear h; intro a w h
 refine Zd (fun (i : Nat) a w => ∃ k Z ad c o, i ≤ (dg n).length ∧ k ≤ 1 ∧ Z.length = i ∧ Dd Z ∧ Qy Z + m + 10000 ^ i * Qy ((dg n).drop i) = n + 10000 ^ i * (k + Qy ((dg m).drop i)) ∧ GrowO 1 3 (.slice ad Z.length c) Z.length (List.map Qh Z) o ∧ St 35 S w0 [(0, .slice ad1 ((dg n).length) c1), (1, .slice ad2 ((dg m).length) c2), (5, .slice ad Z.length c), (6, nI k), (7, nI i)] (o ++ []) [Row ad1 (List.map Qh (dg n)), Row ad2 (List.map Qh (dg m))] a w) (fun i => (dg n).length - i) (0) (⟨0, [], none, 0, [], Nat.zero_le _, oo, rfl, (fun x hx => by cases hx), by simp [Qy, Yl, Nat.add_comm], GrowO.nil _ _, by exact h.sub sA⟩) ?_; clear h
 rintro i a w ⟨k, Z, ad, c, o, hi, hk, hl, hw, hv, hG, h⟩
 have e1 := dlt n i
 have e2 := dlt m i
 refine gC h (zs (zS (zm rfl (zm rfl (zp (.builtin [_] rfl (Qj _ _ _)) (zp (.lss rfl rfl) (zn ?_))))))); clear h; intro a w h
 refine cW ?_
 refine Zb h rfl (fun hc12 => ?_) (fun hc12 => ?_)
 ·
  skip
  have hrun : i < (dg n).length := dT hc12
  obtain ⟨B_ad, O_ad, rfl⟩ := h.row_addr (ad := ad1) (M := List.map Qh (dg n)) mm nF
  refine gC h (zk (zs (zb (zs (yD Za [0, 1, 2, 3, 4, 5, 8, 6, 7, 9, 10] (Zc kk) (ym rfl rfl (ym rfl rfl (yp rfl (.indexAddr rfl rfl (Zee _ _ _ _ _ oo)) ?_)))))))); clear h
  refine Zj rfl kk rfl mm (by rw [List.length_map]; omega) isAgg3 sizeOf3 (Zy (enc := Qh) (l := (dg n)) 0 oo) (.inr rfl) dd ?_
  refine ym rfl rfl (ym rfl rfl (ym rfl rfl (yw [_, _] rfl rfl call146 (Zmx _ _ (dg m) (i)) (yp rfl (.sub rfl rfl) (yp rfl (.sub rfl rfl) (yp rfl (.assign rfl) (yn (zS (za rfl (zn (zs (zS (zm rfl (zp (.lss rfl rfl) (zn ?_))))))))))))))); intro a w h
  refine cW ?_
  refine Zb h rfl (fun hc26 => ?_) (fun hc26 => ?_)
  ·
   skip
   have hneg := of_decide_eq_true hc26
   obtain ⟨d, hd⟩ : ∃ d : Nat, d + (dg m).getD i 0 + k = (dg n).getD i 0 + 10000 * 1 := ⟨(dg n).getD i 0 + 10000 - (dg m).getD i 0 - k, oo⟩
   have hd1 : d < 10000 := oo
   refine gC h (zS (zm rfl (zp (.pO d (.add rfl rfl)) (za rfl (zn (zr (za rfl (zn (zr (zm rfl (zp (Pure1.cast (v' := .int .i64 ((d : Nat) : Int)) (.move rfl) (by first | rfl | (show Value.int _ _ = Value.int _ _; congr 1; omega))) (zB [(_, _)] rfl (Zb4 _) fun b31 => ?_)))))))))))); clear h; intro a w h
   refine Zl (Xn (σr := []) h rfl rfl (List.Perm.trans (List.Perm.refl _) (List.Perm.cons _ (List.Perm.refl _))) hG runUnderlying68 runUnderlying68 typeInfo3 sizeOf3 zeroValue3 rfl dd dd rfl rfl dd (by show 8 * (2 * ((Z).length + 1) + 192) ≤ 281474976710656; omega) dd ?_); clear h
   intro v32 o32 a w hG32 h
   obtain ⟨ad32, c32, rfl⟩ := hG32.is
   have hLn32 : (Z).length + 1 = (Z ++ [d]).length := lA
   rw [hLn32] at h hG32
   replace hG32 : GrowO 1 3 (.slice ad32 (Z ++ [d]).length c32) (Z ++ [d]).length (List.map Qh (Z ++ [d])) o32 := by rw [List.map_append]; exact hG32
   refine gL h (za rfl (zn (zr (zm rfl (zp (.pN (i + 1) (.add rfl rfl)) (za rfl (zn ?_))))))); clear h; intro a w h
   exact ⟨i + 1, ⟨1, Z ++ [d], ad32, c32, o32, oo, by omega, by rw [List.length_append, hl]; rfl, hw.snoc hd1, Zni hl hd hv, hG32, by exact h.sub sA⟩, oo⟩
  ·
   skip
   have hneg := of_decide_eq_false hc26
   obtain ⟨d, hd⟩ : ∃ d : Nat, d + (dg m).getD i 0 + k = (dg n).getD i 0 + 10000 * 0 := ⟨(dg n).getD i 0 - (dg m).getD i 0 - k, oo⟩
   have hd1 : d < 10000 := oo
   refine gC h (zk (zr (zm rfl (zp (Pure1.cast (v' := .int .i64 ((d : Nat) : Int)) (.move rfl) (by first | rfl | (show Value.int _ _ = Value.int _ _; congr 1; omega))) (zB [(_, _)] rfl (Zb4 _) fun b31 => ?_))))); clear h; intro a w h
   refine Zl (Xn (σr := []) h rfl rfl (List.Perm.trans (List.Perm.refl _) (List.Perm.cons _ (List.Perm.refl _))) hG runUnderlying68 runUnderlying68 typeInfo3 sizeOf3 zeroValue3 rfl dd dd rfl rfl dd (by show 8 * (2 * ((Z).length + 1) + 192) ≤ 281474976710656; omega) dd ?_); clear h
   intro v32 o32 a w hG32 h
   obtain ⟨ad32, c32, rfl⟩ := hG32.is
   have hLn32 : (Z).length + 1 = (Z ++ [d]).length := lA
   rw [hLn32] at h hG32
   replace hG32 : GrowO 1 3 (.slice ad32 (Z ++ [d]).length c32) (Z ++ [d]).length (List.map Qh (Z ++ [d])) o32 := by rw [List.map_append]; exact hG32
   refine gL h (za rfl (zn (zr (zm rfl (zp (.pN (i + 1) (.add rfl rfl)) (za rfl (zn ?_))))))); clear h; intro a w h
   exact ⟨i + 1, ⟨0, Z ++ [d], ad32, c32, o32, oo, by omega, by rw [List.length_append, hl]; rfl, hw.snoc hd1, Zni hl hd hv, hG32, by exact h.sub sA⟩, oo⟩
 ·
  skip
  have hna : i = (dg n).length := dF hc12
  refine gC h (ze (zS (zm rfl ?_))); clear h; intro a w h
  replace h := h.shareO' hS hG
  have hZ : Qy Z = n - m := by rw [hna, drop_zero (Nat.le_refl _), drop_zero (Ke hle)] at hv; exact Qbm hw (hl.trans hna) hle (by simpa using hv)
  refine gL h (zf [_] rfl call147 (Zpc ad c Z hw hG.le oo) ?_); rintro v34 Ψ34 ht
  refine za rfl (zn (zt ?_)); intro a w h
  exact Jm h (Ze h rfl (.tmp rfl)) (trimmed ht hZ hw hG.le) (fun R hR => List.mem_append_left _ hR)
theorem Zsh (n : Nat) : List.map Qh (List.replicate n 0) = Ze2 n (Value.cells (.int .i64 0)).toList := by
 rw [List.map_replicate]; unfold Ze2
 induction n with
 | zero => rfl
 | succ n ih => rw [List.replicate_succ, List.replicate_succ, List.flatten_cons, ← ih]; rfl
theorem Zpf (ad1 ad2 : Option Addr) (c1 c2 : Nat) (n m : Nat) (h1 : (dg n).length ≤ 1000000000000) (h2 : (dg m).length ≤ 1000000000000) :
  Ctr Tryz.prog 101 [.slice ad1 (dg n).length c1, .slice ad2 (dg m).length c2] [Row ad1 (List.map Qh (dg n)), Row ad2 (List.map Qh (dg m))] (Zo8 (n * m)) := by
 refine fn_intro func101 rfl ntmps101 nb ?_
 intro S w0 a hS h
 refine gC h (zS (za rfl (zn (zS (zm rfl (zp (.builtin [_] rfl (Qj _ _ _)) (zm rfl (zp (.builtin [_] rfl (Qj _ _ _)) (zp (.pN (((dg n).length) + ((dg m).length)) (.add rfl rfl)) ?_))))))))); clear h; intro a w h
 refine Zl (Xq h rfl rfl runUnderlying68 typeInfo3 sizeOf3 zeroValue3 rfl dd oo (by show 8 * (((dg n).length) + ((dg m).length)) ≤ 281474976710656; omega) oo dd ?_); clear h; intro b15 a w h; replace h := h.same rfl (by rw [← Zsh]) rfl
 refine gL h (za rfl (zn (zs (zS (za rfl (zn (zb ?_))))))); clear h; intro a w h
 refine Zd (fun (i : Nat) a w => i ≤ (dg n).length ∧ ∃ Z, (Z.length = (dg n).length + (dg m).length ∧ Dd Z ∧ Qy Z = Qy ((dg n).take i) * m) ∧ St 60 S w0 [(0, .slice ad1 ((dg n).length) c1), (1, .slice ad2 ((dg m).length) c2), (5, .slice (some ⟨b15, 0, none⟩) (((dg n).length) + ((dg m).length)) (((dg n).length) + ((dg m).length))), (6, nI i)] [(b15, .cells (List.map Qh (Z)).toArray 3 (0, 0))] [Row ad1 (List.map Qh (dg n)), Row ad2 (List.map Qh (dg m))] a w) (fun i => (dg n).length - i) 0 (⟨Nat.zero_le _, List.replicate _ 0, ⟨by rw [List.length_replicate], Dd.zeros _, by rw [Zgx _ (fun x hx => List.eq_of_mem_replicate hx)]; simp [Qy]⟩, by exact (h).sub sA⟩) ?_; clear h
 rintro i a w ⟨hi_i, Z, ⟨hl, hw, hv⟩, h⟩
 refine gC h (zs (zS (zm rfl (zm rfl (zp (.builtin [_] rfl (Qj _ _ _)) (zp (.lss rfl rfl) (zn ?_))))))); clear h; intro a w h
 refine cW ?_
 refine Zb h rfl (fun hc19 => ?_) (fun hc19 => ?_)
 ·
  skip
  have hlt_i : i < (dg n).length := dT hc19
  obtain ⟨B_ad1, O_ad1, rfl⟩ := h.row_addr (ad := ad1) (M := List.map Qh (dg n)) mm nF
  refine gC h (zk (zs (zb (zS (za rfl (zn (zS (za rfl (zn (zb ?_)))))))))); clear h; intro a w h
  refine Zd (fun (k : Nat) a w => ∃ c Z, (k ≤ (dg m).length + 1 ∧ c < 10000 ∧ (k = (dg m).length + 1 → c = 0) ∧ (k ≤ (dg m).length → Z.getD (i + (dg m).length) 0 = 0) ∧ Z.length = (dg n).length + (dg m).length ∧ Dd Z ∧ Qy Z + 10000 ^ (i + k) * c + 10000 ^ (i + k) * ((dg n).getD i 0 * Qy ((dg m).drop k)) = Qy ((dg n).take i) * m + 10000 ^ i * ((dg n).getD i 0 * m)) ∧ St 60 S w0 [(0, .slice (some ⟨B_ad1, O_ad1, none⟩) ((dg n).length) c1), (1, .slice ad2 ((dg m).length) c2), (5, .slice (some ⟨b15, 0, none⟩) (((dg n).length) + ((dg m).length)) (((dg n).length) + ((dg m).length))), (6, nI i), (7, nI c), (8, nI k)] [(b15, .cells (List.map Qh (Z)).toArray 3 (0, 0))] [Row (some ⟨B_ad1, O_ad1, none⟩) (List.map Qh (dg n)), Row ad2 (List.map Qh (dg m))] a w) (fun k => (dg m).length + 1 - k) (0) (⟨0, Z, ⟨Nat.zero_le _, by decide, fun _ => rfl, fun _ => Zjg (Dd.dg n) (Dd.dg m) (by rw [Yl]; exact hv) (Nat.le_refl _), hl, hw, by rw [hv]; simp [Yl]⟩, by exact h.sub sA⟩) ?_; clear h
  rintro k a w ⟨c, Z, ⟨hk, hc, hkc, hz, hl, hw, hv⟩, h⟩
  have e1 := dlt n i
  have e2 := dlt m k
  have hab : (dg n).getD i 0 * (dg m).getD k 0 ≤ 9999 * 9999 := Nat.mul_le_mul oo oo
  have e3 := hw.getD (i + k)
  refine gC h (zs (zS (zm rfl (zm rfl (zp (.builtin [_] rfl (Qj _ _ _)) (zp (.lss rfl rfl) ?_)))))); clear h; intro a w h
  refine Zi h (fun hc25 h => ?_) (fun hc25 h => ?_)
  ·
   skip
   have hrun : k ≤ (dg m).length := dT hc25
   refine gL h (zm rfl (zo 26 rfl rfl rfl (zo 26 rfl rfl rfl (zp (.pickT rfl rfl) (zn ?_))))); clear h; intro a w h
   refine cW ?_
   refine Qf h rfl ?_
   refine gC h (zk (zs (zb (zs (yD Za [0, 1, 2, 3, 4, 5, 6, 7, 8, 9, 10, 11, 15, 12, 13, 14, 16, 17] (Zc kk) (ym rfl rfl (ym rfl rfl (ym rfl rfl (yp rfl (.pN (i + k) (.add rfl rfl)) (yp rfl (.indexAddr rfl rfl (Zee _ _ _ _ _ oo)) (yd rfl rfl mm isAgg3 sizeOf3 ((congrArg _ (Nat.zero_add _)).trans (Zy (enc := Qh) (l := Z) 0 oo)) ?_))))))))))); clear h
   refine ym rfl rfl (ym rfl rfl (yp rfl (.indexAddr rfl rfl (Zee _ _ _ _ _ oo)) ?_))
   refine Zj rfl kk rfl mm (by rw [List.length_map]; omega) isAgg3 sizeOf3 (Zy (enc := Qh) (l := (dg n)) 0 oo) (.inr rfl) dd ?_
   refine ym rfl rfl (ym rfl rfl (ym rfl rfl (yw [_, _] rfl rfl call146 (Zmx _ _ (dg m) (k)) (yp rfl (.pN (((dg n).getD i 0) * ((dg m).getD k 0)) (.mul rfl rfl)) (yp rfl (.pN ((Z.getD (i + k) 0) + (((dg n).getD i 0) * ((dg m).getD k 0))) (.add rfl rfl)) (yp rfl (.pO (c + ((dg n).getD i 0 * (dg m).getD k 0 + Z.getD (i + k) 0)) (Pure1.cast (v' := (.int .i64 ((((Z.getD (i + k) 0) + (((dg n).getD i 0) * ((dg m).getD k 0))) + c : Nat) : Int))) (.add rfl rfl) (by show Value.int _ _ = Value.int _ _; congr 1))) (yp rfl (.assign rfl) (yn (zS (zm rfl (zm rfl (zm rfl (zp (.pN (i + k) (.add rfl rfl)) (zm rfl (zp (Pure1.cast (v' := .int .i64 (((c + ((dg n).getD i 0 * (dg m).getD k 0 + Z.getD (i + k) 0)) % 10000 : Nat) : Int)) (.binOp rfl rfl (fun _ => Vm _ _ _ _ _ dd)) (by rw [show (10000 : Int) = ((10000 : Nat) : Int) from rfl, Yi])) (zp (.indexAddr rfl rfl (Zee _ _ _ _ _ oo)) (zt' rfl rfl ((congrArg (fun z => Qr _ z _) (Nat.zero_add _)).trans (Yz (enc := Qh) Z (i + k) ((c + ((dg n).getD i 0 * (dg m).getD k 0 + Z.getD (i + k) 0)) % 10000))) uu sizeOf3 rfl (by simp; omega) rfl ?_)))))))))))))))))
   refine zn (zr (zm rfl (zp (Pure1.cast (v' := .int .i64 (((c + ((dg n).getD i 0 * (dg m).getD k 0 + Z.getD (i + k) 0)) / 10000 : Nat) : Int)) (.binOp rfl rfl (fun _ => Vx _ _ _ _ _ dd)) (by rw [show (10000 : Int) = ((10000 : Nat) : Int) from rfl, Yn, wrap_i64 _ oo oo])) (za rfl (zn (zr (zm rfl (zp (.pN (k + 1) (.add rfl rfl)) (za rfl (zn ?_)))))))))); intro a w h
   exact ⟨k + 1, ⟨(c + ((dg n).getD i 0 * (dg m).getD k 0 + Z.getD (i + k) 0)) / 10000, Z.set (i + k) ((c + ((dg n).getD i 0 * (dg m).getD k 0 + Z.getD (i + k) 0)) % 10000), ⟨oo, oo, (by intro hx; have hkl : k = (dg m).length := oo; rw [Vc (l := dg m) oo, hkl, hz oo]; omega), (by intro hx; rw [Zeg oo]; exact hz oo), by rw [List.length_set]; exact hl, hw.set _ _ (Nat.mod_lt _ dd), Zom oo hv⟩, by exact h.sub sA⟩, oo⟩
  ·
   skip
   have hnb : (dg m).length ≤ k := dF hc25
   refine gL h (zm rfl (zq 26 rfl rfl (.move rfl) (zq 26 rfl rfl (.gtr rfl rfl) ?_))); clear h; intro a w h
   refine Zi h (fun hc28 h => ?_) (fun hc28 h => ?_)
   ·
    skip
    have hrun : k ≤ (dg m).length := dT hc28
    refine gL h (zp (.pickF rfl rfl) (zn ?_)); clear h; intro a w h
    refine cW ?_
    refine Qf h rfl ?_
    refine gC h (zk (zs (zb (zs (yD Za [0, 1, 2, 3, 4, 5, 6, 7, 8, 9, 10, 11, 15, 12, 13, 14, 16, 17] (Zc kk) (ym rfl rfl (ym rfl rfl (ym rfl rfl (yp rfl (.pN (i + k) (.add rfl rfl)) (yp rfl (.indexAddr rfl rfl (Zee _ _ _ _ _ oo)) (yd rfl rfl mm isAgg3 sizeOf3 ((congrArg _ (Nat.zero_add _)).trans (Zy (enc := Qh) (l := Z) 0 oo)) ?_))))))))))); clear h
    refine ym rfl rfl (ym rfl rfl (yp rfl (.indexAddr rfl rfl (Zee _ _ _ _ _ oo)) ?_))
    refine Zj rfl kk rfl mm (by rw [List.length_map]; omega) isAgg3 sizeOf3 (Zy (enc := Qh) (l := (dg n)) 0 oo) (.inr rfl) dd ?_
    refine ym rfl rfl (ym rfl rfl (ym rfl rfl (yw [_, _] rfl rfl call146 (Zmx _ _ (dg m) (k)) (yp rfl (.pN (((dg n).getD i 0) * ((dg m).getD k 0)) (.mul rfl rfl)) (yp rfl (.pN ((Z.getD (i + k) 0) + (((dg n).getD i 0) * ((dg m).getD k 0))) (.add rfl rfl)) (yp rfl (.pO (c + ((dg n).getD i 0 * (dg m).getD k 0 + Z.getD (i + k) 0)) (Pure1.cast (v' := (.int .i64 ((((Z.getD (i + k) 0) + (((dg n).getD i 0) * ((dg m).getD k 0))) + c : Nat) : Int))) (.add rfl rfl) (by show Value.int _ _ = Value.int _ _; congr 1))) (yp rfl (.assign rfl) (yn (zS (zm rfl (zm rfl (zm rfl (zp (.pN (i + k) (.add rfl rfl)) (zm rfl (zp (Pure1.cast (v' := .int .i64 (((c + ((dg n).getD i 0 * (dg m).getD k 0 + Z.getD (i + k) 0)) % 10000 : Nat) : Int)) (.binOp rfl rfl (fun _ => Vm _ _ _ _ _ dd)) (by rw [show (10000 : Int) = ((10000 : Nat) : Int) from rfl, Yi])) (zp (.indexAddr rfl rfl (Zee _ _ _ _ _ oo)) (zt' rfl rfl ((congrArg (fun z => Qr _ z _) (Nat.zero_add _)).trans (Yz (enc := Qh) Z (i + k) ((c + ((dg n).getD i 0 * (dg m).getD k 0 + Z.getD (i + k) 0)) % 10000))) uu sizeOf3 rfl (by simp; omega) rfl ?_)))))))))))))))))
    refine zn (zr (zm rfl (zp (Pure1.cast (v' := .int .i64 (((c + ((dg n).getD i 0 * (dg m).getD k 0 + Z.getD (i + k) 0)) / 10000 : Nat) : Int)) (.binOp rfl rfl (fun _ => Vx _ _ _ _ _ dd)) (by rw [show (10000 : Int) = ((10000 : Nat) : Int) from rfl, Yn, wrap_i64 _ oo oo])) (za rfl (zn (zr (zm rfl (zp (.pN (k + 1) (.add rfl rfl)) (za rfl (zn ?_)))))))))); intro a w h
    exact ⟨k + 1, ⟨(c + ((dg n).getD i 0 * (dg m).getD k 0 + Z.getD (i + k) 0)) / 10000, Z.set (i + k) ((c + ((dg n).getD i 0 * (dg m).getD k 0 + Z.getD (i + k) 0)) % 10000), ⟨oo, oo, (by intro hx; have hkl : k = (dg m).length := oo; rw [Vc (l := dg m) oo, hkl, hz oo]; omega), (by intro hx; rw [Zeg oo]; exact hz oo), by rw [List.length_set]; exact hl, hw.set _ _ (Nat.mod_lt _ dd), Zom oo hv⟩, by exact h.sub sA⟩, oo⟩
   ·
    skip
    have hk0 : c = 0 := dF hc28
    refine gL h (zp (.pickF rfl rfl) (zn ?_)); clear h; intro a w h
    refine cW ?_
    refine Zn h rfl ?_
    refine gC h (ze (zr (zm rfl (zp (.pN (i + 1) (.add rfl rfl)) (za rfl (zn ?_)))))); clear h; intro a w h
    exact ⟨i + 1, ⟨oo, Z, ⟨hl, hw, by rw [hk0, drop_zero hnb] at hv; rw [Zif _ _ hlt_i, Nat.add_mul, Nat.mul_assoc, ← hv]; simp⟩, by exact (h.factsSub (by simp)).sub sA⟩, oo⟩
 ·
  skip
  have heq_i : (dg n).length = i := dF hc19
  subst heq_i
  refine gC h (ze (zS (zm rfl ?_))); clear h; intro a w h
  rw [← hl] at h
  replace h := h.shareAll hS (List.map Qh Z) rfl
  have hZ : Qy Z = n * m := by rw [List.take_length, Yl] at hv; exact hv
  refine gL h (zf [_] rfl call147 (Zpc (some ⟨b15, 0, none⟩) Z.length Z hw (Nat.le_refl _) oo) ?_); rintro v59 Ψ59 ht
  refine za rfl (zn (zt ?_)); intro a w h
  exact Jm h (Ze h rfl (.tmp rfl)) (trimmed ht hZ hw (Nat.le_refl _)) (fun R hR => List.mem_append_left _ hR)
theorem Zzf (ad1 ad2 : Option Addr) (c1 c2 : Nat) (n m : Nat) (h1 : (dg n).length ≤ 1000000000000) (h2 : (dg m).length ≤ 1000000000000) :
  Ge Tryz.prog 151 [.slice ad1 (dg n).length c1, .slice ad2 (dg m).length c2] [Row ad1 (List.map Qh (dg n)), Row ad2 (List.map Qh (dg m))] (.int .i64 (Zjo n m)) := by
 refine fn_intro func151 rfl ntmps151 nb ?_
 intro S w0 a hS h
 refine gC h (zS (za rfl (zn (zs (zS (zm rfl (zp (.builtin [_] rfl (Qj _ _ _)) (zm rfl (zp (.builtin [_] rfl (Qj _ _ _)) (zp (.lss rfl rfl) (zn ?_))))))))))); clear h; intro a w h
 refine cW ?_
 refine Zb h rfl (fun hc10 => ?_) (fun hc10 => ?_)
 ·
  skip
  have hl1 : (dg n).length < (dg m).length := dT hc10
  refine gC h (zS (za rfl (zn (zt ?_)))); clear h; intro a w h
  refine Jr h (Ze h rfl (.tmp rfl)) ?_
  unfold Zjo; rw [if_pos (Zji hl1)]
 ·
  skip
  have hl1 : (dg m).length ≤ (dg n).length := dF hc10
  refine gC h (zk (zs (zS (zm rfl (zp (.builtin [_] rfl (Qj _ _ _)) (zm rfl (zp (.builtin [_] rfl (Qj _ _ _)) (zp (.gtr rfl rfl) (zn ?_))))))))); clear h; intro a w h
  refine cW ?_
  refine Zb h rfl (fun hc15 => ?_) (fun hc15 => ?_)
  ·
   skip
   have hl2 : (dg m).length < (dg n).length := dT hc15
   refine gC h (zS (za rfl (zn (zt ?_)))); clear h; intro a w h
   refine Jr h (Ze h rfl (.tmp rfl)) ?_
   have h3 := Zji hl2; unfold Zjo; rw [if_neg oo, if_pos h3]
  ·
   skip
   have hl : (dg n).length = (dg m).length := dF hc15
   refine gC h (zk (zs (zS (zm rfl (zp (.builtin [_] rfl (Qj _ _ _)) (zp (.sub rfl rfl) (za rfl (zn (zb ?_))))))))); clear h; intro a w h
   refine Zd (fun (k : Nat) a w => (k ≤ (dg n).length ∧ (dg n).drop k = (dg m).drop k) ∧ St 41 S w0 [(0, .slice ad1 ((dg n).length) c1), (1, .slice ad2 ((dg m).length) c2), (5, .int .i64 (((k : Nat) : Int) - 1)), (18, .int .i64 (((((dg n).length : Nat) : Int)) - 1))] [] [Row ad1 (List.map Qh (dg n)), Row ad2 (List.map Qh (dg m))] a w) (fun k => k) ((dg n).length) (⟨⟨Nat.le_refl _, by rw [List.drop_eq_nil_of_le (Nat.le_refl _), List.drop_eq_nil_of_le (Nat.le_of_eq hl.symm)]⟩, by exact h.sub sA⟩) ?_; clear h
   rintro k a w ⟨⟨hN, hd⟩, h⟩
   refine gC h (zs (zS (zm rfl (zp (.geq rfl rfl) (zn ?_))))); clear h; intro a w h
   refine cW ?_
   refine Zb h rfl (fun hc20 => ?_) (fun hc20 => ?_)
   ·
    skip
    have hk : 1 ≤ k := dT hc20
    obtain ⟨B_ad1, O_ad1, rfl⟩ := h.row_addr (ad := ad1) (M := List.map Qh (dg n)) mm nF
    obtain ⟨B_ad2, O_ad2, rfl⟩ := h.row_addr (ad := ad2) (M := List.map Qh (dg m)) mm nF
    refine gC h (zk (zs (zb (zs (zs (yD Za [0, 1, 2, 3, 4, 5, 6, 7, 8] (Zc kk) (ym rfl rfl (yp rfl (.pO (k - 1) (.move rfl)) (yp rfl (.indexAddr rfl rfl (Zee _ _ _ _ _ oo)) ?_))))))))); clear h
    refine Zj rfl kk rfl mm (by rw [List.length_map]; omega) isAgg3 sizeOf3 (Zy (enc := Qh) (l := (dg n)) 0 oo) (.inr rfl) dd ?_
    refine ym rfl rfl (yp rfl (.pO (k - 1) (.move rfl)) (yp rfl (.indexAddr rfl rfl (Zee _ _ _ _ _ oo)) ?_))
    refine Zj rfl kk rfl mm (by rw [List.length_map]; omega) isAgg3 sizeOf3 (Zy (enc := Qh) (l := (dg m)) 0 oo) (.inr rfl) dd ?_
    refine yp rfl (.lss rfl rfl) (yn ?_); intro a w h
    refine cW ?_
    refine Zb h rfl (fun hc31 => ?_) (fun hc31 => ?_)
    ·
     skip
     have hlt : (dg n).getD (k - 1) 0 < (dg m).getD (k - 1) 0 := dT hc31
     refine gC h (zS (za rfl (zn (zt ?_)))); clear h; intro a w h
     refine Jr h (Ze h rfl (.tmp rfl)) ?_
     have h3 := Zrv (Dd.dg n) (Dd.dg m) hlt (by rw [Nat.sub_add_cancel hk]; exact hd)
     rw [Yl, Yl] at h3
     unfold Zjo; rw [if_pos h3]
    ·
     skip
     have hge : (dg m).getD (k - 1) 0 ≤ (dg n).getD (k - 1) 0 := dF hc31
     refine gC h (zk (zs (yD Za [0, 1, 2, 3, 4, 5, 6, 7, 8] (Zc kk) (ym rfl rfl (yp rfl (.pO (k - 1) (.move rfl)) (yp rfl (.indexAddr rfl rfl (Zee _ _ _ _ _ oo)) ?_)))))); clear h
     refine Zj rfl kk rfl mm (by rw [List.length_map]; omega) isAgg3 sizeOf3 (Zy (enc := Qh) (l := (dg n)) 0 oo) (.inr rfl) dd ?_
     refine ym rfl rfl (yp rfl (.pO (k - 1) (.move rfl)) (yp rfl (.indexAddr rfl rfl (Zee _ _ _ _ _ oo)) ?_))
     refine Zj rfl kk rfl mm (by rw [List.length_map]; omega) isAgg3 sizeOf3 (Zy (enc := Qh) (l := (dg m)) 0 oo) (.inr rfl) dd ?_
     refine yp rfl (.gtr rfl rfl) (yn ?_); intro a w h
     refine cW ?_
     refine Zb h rfl (fun hc40 => ?_) (fun hc40 => ?_)
     ·
      skip
      have hlt : (dg m).getD (k - 1) 0 < (dg n).getD (k - 1) 0 := dT hc40
      refine gC h (zS (za rfl (zn (zt ?_)))); clear h; intro a w h
      refine Jr h (Ze h rfl (.tmp rfl)) ?_
      have h3 := Zrv (Dd.dg m) (Dd.dg n) hlt (by rw [Nat.sub_add_cancel hk]; exact hd.symm)
      rw [Yl, Yl] at h3
      unfold Zjo; rw [if_neg oo, if_pos h3]
     ·
      skip
      have he : (dg n).getD (k - 1) 0 = (dg m).getD (k - 1) 0 := dF hc40
      refine gC h (zk (zr (zm rfl (zp (Pure1.cast (v' := .int .i64 (((k - 1 : Nat) : Int) - 1)) (.sub rfl rfl) (by show Value.int _ _ = Value.int _ _; congr 1; omega)) (za rfl (zn ?_)))))); clear h; intro a w h
      exact ⟨k - 1, ⟨⟨oo, drop_step hl oo he (by rw [Nat.sub_add_cancel hk]; exact hd)⟩, by exact (h.factsSub (by simp)).sub sA⟩, oo⟩
   ·
    skip
    have hk : k = 0 := dF hc20
    refine gC h (ze (zS (za rfl (zn (zt ?_))))); clear h; intro a w h
    refine Jr h (Ze h rfl (.tmp rfl)) ?_
    subst hk
    have e : n = m := by rw [← Yl n, ← Yl m]; simp at hd; rw [hd]
    unfold Zjo; rw [if_neg oo, if_neg oo]
theorem Zk8 (n f j : Nat) (hlen : (dg n).length ≤ f + 4) (hj : f ≤ j) : Qy ((dg n).drop j) < 10000000000000000 := by
 have h1 := Zc3 ((Dd.dg n).drop j)
 rw [List.length_drop] at h1
 have h2 : 10000 ^ ((dg n).length - j) ≤ 10000 ^ 4 := Nat.pow_le_pow_right dd oo
 exact Nat.lt_of_lt_of_le h1 h2
theorem Zzd (ad1 : Option Addr) (c1 : Nat) (n f : Nat) (h1 : (dg n).length ≤ 1000000000000) (hlen : (dg n).length ≤ f + 4) (hf : f ≤ 1000000000000) :
  Ge Tryz.prog 172 [.slice ad1 (dg n).length c1, .int .i64 ((f : Nat) : Int)] [Row ad1 (List.map Qh (dg n))] (.int .i64 ((Qy ((dg n).drop f) : Nat) : Int)) := by
 refine fn_intro func172 rfl ntmps172 nb ?_
 intro S w0 a hS h
 refine gC h (zS (za rfl (zn (zS (za rfl (zn (zs (zS (zm rfl (zp (.builtin [_] rfl (Qj _ _ _)) (zp (.sub rfl rfl) (za rfl (zn (zb ?_)))))))))))))); clear h; intro a w h
 have hz : Qy ((dg n).drop (dg n).length) = 0 := drop_zero (Nat.le_refl _)
 replace h := h.sub (L' := [(0, .slice ad1 (dg n).length c1), (1, nI f), (5, nI (Qy ((dg n).drop (dg n).length))), (6, .int .i64 (((dg n).length : Nat) - 1 : Int))]) (Zdz ⟨rfl, rfl, by rw [hz]; rfl, rfl, trivial⟩)
 refine Zd (fun (k : Nat) a w => (k ≤ (dg n).length ∧ (f ≤ k ∨ k = (dg n).length)) ∧ St 23 S w0 [(0, .slice ad1 ((dg n).length) c1), (1, nI f), (5, nI (Qy ((dg n).drop k))), (6, .int .i64 (((k : Nat) : Int) - 1))] [] [Row ad1 (List.map Qh (dg n))] a w) (fun k => k) ((dg n).length) (⟨⟨Nat.le_refl _, .inr rfl⟩, by exact h.sub sA⟩) ?_; clear h
 rintro k a w ⟨⟨hN, hd⟩, h⟩
 refine gC h (zs (zS (zm rfl (zm rfl (zp (.geq rfl rfl) (zn ?_)))))); clear h; intro a w h
 refine cW ?_
 refine Zb h rfl (fun hc12 => ?_) (fun hc12 => ?_)
 ·
  skip
  have hk : f + 1 ≤ k := dT hc12
  obtain ⟨B_ad1, O_ad1, rfl⟩ := h.row_addr (ad := ad1) (M := List.map Qh (dg n)) mm nF
  have e1 := dlt n (k - 1)
  have e2 := Zk8 n f (k - 1) hlen oo
  have e3 : Qy ((dg n).drop (k - 1)) = (dg n).getD (k - 1) 0 + 10000 * Qy ((dg n).drop k) := by rw [Gr, Nat.sub_add_cancel oo]
  refine gC h (zk (zs (zb (zr (zm rfl (zp (.pN (10000 * (Qy ((dg n).drop k))) (.mul rfl rfl)) (zm rfl (zp (.pO (k - 1) (.move rfl)) (zp (.indexAddr rfl rfl (Zee _ _ _ _ _ oo)) (zD rfl mm (by rw [List.length_map]; omega) isAgg3 sizeOf3 (Zy (enc := Qh) (l := (dg n)) 0 oo) (.inr rfl) ?_))))))))))
  refine zp (.pO (Qy ((dg n).drop (k - 1))) (Pure1.cast (v' := (.int .i64 (((10000 * (Qy ((dg n).drop k))) + ((dg n).getD (k - 1) 0) : Nat) : Int))) (.add rfl rfl) (by show Value.int _ _ = Value.int _ _; congr 1))) (za rfl (zn (zr (zm rfl (zp (Pure1.cast (v' := .int .i64 (((k - 1 : Nat) : Int) - 1)) (.sub rfl rfl) (by show Value.int _ _ = Value.int _ _; congr 1; omega)) (za rfl (zn ?_))))))); intro a w h
  exact ⟨k - 1, ⟨⟨oo, .inl oo⟩, by exact (h.factsSub (by simp)).sub sA⟩, oo⟩
 ·
  skip
  have hk : k ≤ f := dF hc12
  refine gC h (ze (zS (zm rfl (za rfl (zn (zt ?_)))))); clear h; intro a w h
  refine Jr h (Ze h rfl (.tmp rfl)) ?_
  have e : Qy ((dg n).drop f) = Qy ((dg n).drop k) := by
   rcases hd with hd | hd
   · rw [show k = f by omega]
   · rw [drop_zero oo, drop_zero oo]
  rw [e]
end
section
theorem Qbw (w : World) : (Instr.buildSlice 68 0 [].toArray).run Tryz.prog w = .ok (.slice (some ⟨w.heap.size, 0, none⟩) 0 0) (w.alloc (.cells #[] 3 (0, 0))) := by
 simp [go_sem]
theorem slo_68 (b off n c lo : Nat) (h1 : lo ≤ n) (w : World) : (Instr.sliceAt 68 (.slice (some ⟨b, off, none⟩) n c) (some (.int .i64 (lo : Int))) none none).run Tryz.prog w = .ok (.slice (some ⟨b, if c = lo then off else off + lo * 1, none⟩) (n - lo) (c - lo)) w := Zbp runUnderlying68 sizeOf3 b off n c lo h1 w
theorem Qex (x : Int) (w : World) : (Go.convert 3 56 (.int .i64 x)).run Tryz.prog w = .ok (.int .u64 (IntKind.u64.wrap x)) w := by
 simp [go_sem]
theorem Zs8 (x : Int) (h0 : IntKind.u64.wrap x = x) (w : World) : (Go.convert 3 56 (.int .i64 x)).run Tryz.prog w = .ok (.int .u64 x) w := by
 rw [Qex, h0]
theorem dg5 (n : Nat) (h : n < 18446744073709551616) : (dg n).length ≤ 5 := Zb1 (Nat.lt_trans h dd)
theorem Zl7 : ∀ l : List Nat, (List.map Qh l).all flat = true
 | [] => rfl
 | x :: l => by rw [List.map_cons, List.all_cons, Zl7 l]; rfl
theorem Zyk {x y : Nat} : Zjo x y ≤ 0 ↔ x ≤ y := by
 unfold Zjo
 split
 · omega
 · split <;> omega
def Qc8 (p q : Nat) (v : Value) (Ψ : List Qn) : Prop := ∃ ad c ad' c', v = .tuple #[.slice ad (dg p).length c, .slice ad' (dg q).length c'] ∧ (dg p).length ≤ c ∧ (dg q).length ≤ c' ∧ Ψ = [Row ad (List.map Qh (dg p)), Row ad' (List.map Qh (dg q))]
theorem Zze (ad1 ad2 : Option Addr) (c1 c2 : Nat) (n m : Nat) (h1 : (dg n).length ≤ 300000000000) (h2 : (dg m).length ≤ 300000000000) (hm : m ≠ 0) (hc1 : (dg n).length ≤ c1) :
  Ctr Tryz.prog 144 [.slice ad1 (dg n).length c1, .slice ad2 (dg m).length c2] [Row ad1 (List.map Qh (dg n)), Row ad2 (List.map Qh (dg m))] (Qc8 (n / m) (n % m)) := by
 have hlb : 0 < (dg m).length := List.length_pos_iff.2 (fun e => hm (Zs3.1 e))
 have hm0 : 0 < m := Nat.pos_of_ne_zero hm
 refine fn_intro func144 rfl ntmps144 nb ?_
 intro S w0 a hS h
 refine gC h (zS (za rfl (za rfl (zn (zs (zS (zm rfl (zm rfl (zw [_, _] rfl call151 (Zzf _ _ _ _ n m oo oo) (zp (.lss rfl rfl) (zn ?_))))))))))); clear h; intro a w h
 refine cW ?_
 refine Zb h rfl (fun hc18 => ?_) (fun hc18 => ?_)
 ·
  skip
  have hlt : n < m := by
   have h3 := of_decide_eq_true hc18
   unfold Zjo at h3; split at h3
   · assumption
   · split at h3 <;> omega
  refine gC h (zS (zm rfl (za rfl (za rfl (zn (zt ?_)))))); clear h; intro a w h
  have e1 : n / m = 0 := Nat.div_eq_of_lt hlt
  have e2 : n % m = n := Nat.mod_eq_of_lt hlt
  have e3 : Qc8 (n / m) (n % m) (.tuple #[.slice none 0 0, .slice ad1 (dg n).length c1]) [Row none [], Row ad1 (List.map Qh (dg n))] := by rw [e1, e2]; exact ⟨none, 0, ad1, c1, by rw [Xk]; rfl, by rw [Xk]; exact Nat.le_refl _, hc1, by rw [Xk]; rfl⟩
  replace h := h.derive (R := Row none []) (fun X hX hne => absurd rfl hne)
  exact Jm h (Xe h rfl (.tmp rfl) (.tmp rfl)) e3 ss
 ·
  skip
  have hle : m ≤ n := by
   have h3 := of_decide_eq_false hc18
   unfold Zjo at h3; split at h3
   · omega
   · omega
  have hll := Ke hle
  obtain ⟨B_ad1, O_ad1, rfl⟩ := h.row_addr (ad := ad1) (M := List.map Qh (dg n)) mm nF
  refine gC h (zk (zS (zm rfl (zp (.builtin [_] rfl (Qj _ _ _)) (zp (.sub rfl rfl) (zp (.pO (((dg m).length - 3)) (.builtin [_, _] rfl (fun w ty cs => Qc5 _ _ w ty cs))) (za rfl (zn (zS (zm rfl (zm rfl (zw [_, _] rfl call172 (Zzd _ _ m ((dg m).length - 3) oo oo oo) (za rfl (zn (zS (zm rfl (zp (.builtin [_] rfl (Qj _ _ _)) (zm rfl (zp (.builtin [_] rfl (Qj _ _ _)) (zp (Pure1.cast (v' := .int .i64 (((((dg n).length - (dg m).length) + 1 : Nat) : Int) - 1)) (.sub rfl rfl) (by show Value.int _ _ = Value.int _ _; congr 1; omega)) (za rfl (zn (zS (zm rfl (zp (.pO (((dg n).length - (dg m).length) + 1) (.add rfl rfl)) ?_))))))))))))))))))))))))); clear h; intro a w h
  refine Zl (Xq h rfl rfl runUnderlying68 typeInfo3 sizeOf3 zeroValue3 rfl dd (by exact Nat.le_refl _) (by show 8 * (((dg n).length - (dg m).length) + 1) ≤ 281474976710656; omega) oo dd ?_); clear h; intro b34 a w h; replace h := h.same rfl (by rw [← Zsh]) rfl
  refine gL h (za rfl (zn (zS (zB [] rfl (Qbw) fun b35 => zm rfl (zm rfl (zp (.pO (((dg n).length - (dg m).length) + 1) (.add rfl rfl)) (zp (.slice rfl (some _) none none rfl rfl rfl (slo_68 _ _ _ _ _ oo)) ?_))))))); clear h; intro a w h
  replace h := h.derive (R := Row (some ⟨B_ad1, if c1 = ((dg n).length - (dg m).length) + 1 then O_ad1 else O_ad1 + (((dg n).length - (dg m).length) + 1) * 1, none⟩) ((List.map Qh (dg n)).drop (((dg n).length - (dg m).length) + 1))) (fun X hX => row_drop (hX _ mm) (by rw [List.length_map]; exact hc1))
  rw [← List.map_drop, Zmf n (((dg n).length - (dg m).length) + 1)] at h
  have hlr : (dg (n / 10000 ^ (((dg n).length - (dg m).length) + 1))).length = (dg n).length - (((dg n).length - (dg m).length) + 1) := by rw [← Zmf, List.length_drop]
  rw [← hlr] at h
  refine Zl (Zhr (b := b35) (xs := []) (ys := List.map Qh (dg (n / 10000 ^ (((dg n).length - (dg m).length) + 1)))) (ad2 := some ⟨B_ad1, if c1 = ((dg n).length - (dg m).length) + 1 then O_ad1 else O_ad1 + (((dg n).length - (dg m).length) + 1) * 1, none⟩) (k := 1) h rfl rfl mm rfl runUnderlying68 runUnderlying68 typeInfo3 sizeOf3 zeroValue3 rfl dd dd (by rw [List.length_map, Nat.mul_one]) (Zl7 _) (by show 8 * (2 * _ + 192) ≤ 281474976710656; omega) dd ?_); clear h; intro v40 o40 a w hG40 h
  obtain ⟨ad40, c40, rfl⟩ := hG40.is
  have hle40 := hG40.le
  replace h := h.shareO' hS hG40
  replace h := h.same (Φ' := Row ad40 (List.map Qh (dg (n / 10000 ^ (((dg n).length - (dg m).length) + 1)))) :: _) rfl rfl rfl
  have hr0 : n / 10000 ^ (((dg n).length - (dg m).length) + 1) < m := Zji oo
  have hr1 : n / 10000 ^ (((dg n).length - (dg m).length) + 1) % m = n / 10000 ^ (((dg n).length - (dg m).length) + 1) := Nat.mod_eq_of_lt hr0
  rw [Nat.zero_add (dg (n / 10000 ^ (((dg n).length - (dg m).length) + 1))).length, ← hr1] at h
  rw [Nat.zero_add (dg (n / 10000 ^ (((dg n).length - (dg m).length) + 1))).length, ← hr1] at hle40
  refine gL h (za rfl (zn (zs (zb ?_)))); clear h; intro a w h
  refine Zd (fun (k : Nat) a w => ∃ Z ad c, (k ≤ ((dg n).length - (dg m).length) + 1 ∧ Z.length = ((dg n).length - (dg m).length) + 1 ∧ Dd Z ∧ Qy (Z.drop k) = n / 10000 ^ k / m ∧ (dg (n / 10000 ^ k % m)).length ≤ c) ∧ St 97 S w0 [(0, .slice (some ⟨B_ad1, O_ad1, none⟩) ((dg n).length) c1), (1, .slice ad2 ((dg m).length) c2), (6, nI ((dg m).length - 3)), (7, nI (Qy ((dg m).drop ((dg m).length - 3)))), (8, .int .i64 (((k : Nat) : Int) - 1)), (9, .slice (some ⟨b34, 0, none⟩) (((dg n).length - (dg m).length) + 1) (((dg n).length - (dg m).length) + 1)), (10, .slice ad ((dg (n / 10000 ^ k % m)).length) c)] [(b34, .cells (List.map Qh (Z)).toArray 3 (0, 0))] [Row (some ⟨B_ad1, O_ad1, none⟩) (List.map Qh (dg n)), Row ad2 (List.map Qh (dg m)), Row ad (List.map Qh (dg (n / 10000 ^ k % m)))] a w) (fun k => k) ((((dg n).length - (dg m).length) + 1)) (⟨List.replicate _ 0, ad40, c40, ⟨Nat.le_refl _, List.length_replicate, Dd.zeros _, by rw [List.drop_eq_nil_of_le (by rw [List.length_replicate]; exact Nat.le_refl _), Nat.div_eq_of_lt hr0]; rfl, hle40⟩, by exact (h.factsSub (by simp)).sub (Zdz ⟨rfl, rfl, rfl, rfl, rfl, rfl, rfl, trivial⟩)⟩) ?_; clear h
  rintro k a w ⟨Z, ad, c, ⟨hK, hZl, hZw, hZv, hlc⟩, h⟩
  have hrl := Ke (Nat.le_of_lt (Nat.mod_lt (n / 10000 ^ k) hm0))
  refine gC h (zs (zS (zm rfl (zp (.geq rfl rfl) (zn ?_))))); clear h; intro a w h
  refine cW ?_
  refine Zb h rfl (fun hc42 => ?_) (fun hc42 => ?_)
  ·
   skip
   have hk : 1 ≤ k := dT hc42
   refine gC h (zk (zs (zb (zS (zm rfl (zp (.pO (k - 1) (.move rfl)) (zp (.indexAddr rfl rfl (Zee _ _ _ _ _ oo)) (zD rfl mm (by rw [List.length_map]; omega) isAgg3 sizeOf3 (Zy (enc := Qh) (l := (dg n)) 0 oo) (.inr rfl) ?_))))))))
   refine zB [(_, _)] rfl (Zb4 _) fun b49 => zm rfl ?_; intro a w h
   refine Zl (Zhr (b := b49) (xs := [Qh ((dg n).getD (k - 1) 0)]) (ys := List.map Qh (dg (n / 10000 ^ k % m))) (ad2 := ad) (k := 1) h rfl rfl mm rfl runUnderlying68 runUnderlying68 typeInfo3 sizeOf3 zeroValue3 rfl dd dd (by rw [List.length_map, Nat.mul_one]) (Zl7 _) (by show 8 * (2 * _ + 192) ≤ 281474976710656; omega) dd ?_); clear h; intro v51 o51 a w hG51 h
   obtain ⟨ad51, c51, rfl⟩ := hG51.is
   have hle51 := hG51.le
   replace h := h.shareO' hS hG51
   replace h := h.same (Φ' := Row ad51 (List.map Qh ((dg n).getD (k - 1) 0 :: dg (n / 10000 ^ k % m))) :: _) rfl rfl rfl
   rw [show 1 + (dg (n / 10000 ^ k % m)).length = ((dg n).getD (k - 1) 0 :: dg (n / 10000 ^ k % m)).length from Nat.add_comm _ _] at h hle51
   have hwd : Dd ((dg n).getD (k - 1) 0 :: dg (n / 10000 ^ k % m)) := by
    intro x hx
    rcases List.mem_cons.1 hx with rfl | hx
    · exact dlt _ _
    · exact Dd.dg _ x hx
   refine gL h (zf [_] rfl call147 (Zpc ad51 c51 ((dg n).getD (k - 1) 0 :: dg (n / 10000 ^ k % m)) hwd hle51 (by simp only [List.length_cons]; omega)) ?_); clear h; rintro v52 Ψ52 ⟨rfl, rfl⟩ a w h
   obtain ⟨R, hR⟩ : ∃ R, R = (dg n).getD (k - 1) 0 + 10000 * (n / 10000 ^ k % m) := ⟨_, rfl⟩
   rw [show Qy ((dg n).getD (k - 1) 0 :: dg (n / 10000 ^ k % m)) = R from by rw [hR, Qy, Yl]] at h
   have hkk : k - 1 + 1 = k := oo
   have hR' : R = (dg n).getD (k - 1) 0 + 10000 * (n / 10000 ^ (k - 1 + 1) % m) := by rw [hkk]; exact hR
   have hRm : R < 10000 * m := Qd5 hR (dlt n _) (Nat.mod_lt _ hm0)
   have hRl := Qak hRm
   refine gL h (za rfl (zn (zS (zm rfl (zm rfl (zw [_, _] rfl call172 (Zzd _ _ R ((dg m).length - 3) oo oo oo) ?_))))))
   have htop : 0 < Qy ((dg m).drop ((dg m).length - 3)) := Qdr hm oo
   have hFR := Zk8 R ((dg m).length - 3) ((dg m).length - 3) oo (Nat.le_refl _)
   have hFT := Zk8 m ((dg m).length - 3) ((dg m).length - 3) oo (Nat.le_refl _)
   have hq1 : Qy ((dg R).drop ((dg m).length - 3)) / (Qy ((dg m).drop ((dg m).length - 3)) + 1) ≤ Qy ((dg R).drop ((dg m).length - 3)) := Nat.div_le_self _ _
   have hq2 : Qy ((dg R).drop ((dg m).length - 3)) / Qy ((dg m).drop ((dg m).length - 3)) ≤ Qy ((dg R).drop ((dg m).length - 3)) := Nat.div_le_self _ _
   have hql : Qy ((dg R).drop ((dg m).length - 3)) / (Qy ((dg m).drop ((dg m).length - 3)) + 1) ≤ R / m := Qeq hm0
   have hqh : R / m ≤ Qy ((dg R).drop ((dg m).length - 3)) / Qy ((dg m).drop ((dg m).length - 3)) := Qbo htop
   have hq9 : R / m < 10000 := (Nat.div_lt_iff_lt_mul hm0).2 hRm
   have hn1 : (0 : Int) ≤ ((R / m : Nat) : Int) := Int.natCast_nonneg _
   have hn2 : (0 : Int) ≤ ((Qy ((dg R).drop ((dg m).length - 3)) / (Qy ((dg m).drop ((dg m).length - 3)) + 1) : Nat) : Int) := Int.natCast_nonneg _
   have hn3 : (0 : Int) ≤ ((Qy ((dg R).drop ((dg m).length - 3)) / Qy ((dg m).drop ((dg m).length - 3)) : Nat) : Int) := Int.natCast_nonneg _
   refine za rfl (zn (zs (yD Za [0, 1, 2, 3, 4, 5, 6, 7, 8, 9] (Zc kk) (ym rfl rfl (ym rfl rfl (yp rfl (.pN ((Qy ((dg m).drop ((dg m).length - 3))) + 1) (.add rfl rfl)) (yp rfl (Pure1.cast (v' := .int .i64 ((Qy ((dg R).drop ((dg m).length - 3)) / (Qy ((dg m).drop ((dg m).length - 3)) + 1) : Nat) : Int)) (.binOp rfl rfl (fun _ => Vx _ _ _ _ _ oo)) (by rw [Yn, wrap_i64 _ oo oo])) (ym rfl rfl (ym rfl rfl (yp rfl (Pure1.cast (v' := .int .i64 ((Qy ((dg R).drop ((dg m).length - 3)) / Qy ((dg m).drop ((dg m).length - 3)) : Nat) : Int)) (.binOp rfl rfl (fun _ => Vx _ _ _ _ _ oo)) (by rw [Yn, wrap_i64 _ oo oo])) (yp rfl (.pO (min (Qy ((dg R).drop ((dg m).length - 3)) / Qy ((dg m).drop ((dg m).length - 3))) 9999) (.builtin [_, _] rfl (fun w ty cs => Qc4 _ _ w ty cs))) (yp rfl (.assign rfl) (yp rfl (.assign rfl) (yn (zs (zb ?_)))))))))))))))); intro a w h
   refine Zd (fun (g : Nat) a w => ∃ lo hi, (lo + g = hi ∧ lo ≤ R / m ∧ R / m ≤ hi ∧ hi ≤ 9999) ∧ St 97 S w0 [(0, .slice (some ⟨B_ad1, O_ad1, none⟩) ((dg n).length) c1), (1, .slice ad2 ((dg m).length) c2), (6, nI ((dg m).length - 3)), (7, nI (Qy ((dg m).drop ((dg m).length - 3)))), (8, .int .i64 (((k : Nat) : Int) - 1)), (9, .slice (some ⟨b34, 0, none⟩) (((dg n).length - (dg m).length) + 1) (((dg n).length - (dg m).length) + 1)), (10, .slice ad51 ((dg R).length) c51), (12, nI lo), (13, nI hi)] [(b34, .cells (List.map Qh (Z)).toArray 3 (0, 0))] [Row ad51 (List.map Qh (dg R)), Row ad51 (List.map Qh ((dg n).getD (k - 1) 0 :: dg (n / 10000 ^ k % m))), Row (some ⟨B_ad1, O_ad1, none⟩) (List.map Qh (dg n)), Row ad2 (List.map Qh (dg m)), Row ad (List.map Qh (dg (n / 10000 ^ k % m)))] a w) (fun g => g) ((min (Qy ((dg R).drop ((dg m).length - 3)) / Qy ((dg m).drop ((dg m).length - 3))) 9999 - Qy ((dg R).drop ((dg m).length - 3)) / (Qy ((dg m).drop ((dg m).length - 3)) + 1))) (⟨Qy ((dg R).drop ((dg m).length - 3)) / (Qy ((dg m).drop ((dg m).length - 3)) + 1), min (Qy ((dg R).drop ((dg m).length - 3)) / Qy ((dg m).drop ((dg m).length - 3))) 9999, ⟨oo, hql, oo, oo⟩, by exact h.sub sA⟩) ?_; clear h
   rintro g a w ⟨lo, hi, ⟨hg, hlo, hhi, h9⟩, h⟩
   refine gC h (zs (zS (zm rfl (zm rfl (zp (.lss rfl rfl) (zn ?_)))))); clear h; intro a w h
   refine cW ?_
   refine Zb h rfl (fun hc66 => ?_) (fun hc66 => ?_)
   ·
    skip
    have hrun : lo < hi := dT hc66
    refine gC h (zk (zb (zS (zm rfl (zm rfl (zp (.pN (lo + hi) (.add rfl rfl)) (zp (.pN ((lo + hi) + 1) (.add rfl rfl)) (zp (Pure1.cast (v' := .int .i64 (((lo + hi + 1) / 2 : Nat) : Int)) (.binOp rfl rfl (fun _ => Vx _ _ _ _ _ dd)) (by rw [show (2 : Int) = ((2 : Nat) : Int) from rfl, Yn, wrap_i64 _ oo oo])) (za rfl (zn (zS (zm rfl (zm rfl (zp (.convert rfl (Zs8 _ (wrap_u64 _ oo oo))) (zf [_] rfl call114 (Zzc ((lo + hi + 1) / 2) oo) ?_))))))))))))))); rintro v75 Ψ75 ⟨ad75, c75, rfl, hle75, rfl⟩
    have hl75 := dg5 ((lo + hi + 1) / 2) oo
    refine zf [_, _] rfl call101 (Zpf _ _ _ _ m ((lo + hi + 1) / 2) oo oo) ?_; rintro v76 Ψ76 ⟨ad76, c76, rfl, hle76, rfl⟩
    have hl76 := Gl m ((lo + hi + 1) / 2)
    refine zm rfl (zw [_, _] rfl call151 (Zzf _ _ _ _ (m * ((lo + hi + 1) / 2)) R oo oo) (zp (.leq rfl rfl) (zn ?_))); intro a w h
    refine cW ?_
    refine Zb h rfl (fun hc79 => ?_) (fun hc79 => ?_)
    ·
     skip
     have hmid : (lo + hi + 1) / 2 ≤ R / m := by
      have h3 := Zyk.1 (of_decide_eq_true hc79)
      rwa [Nat.le_div_iff_mul_le hm0, Nat.mul_comm]
     refine gC h (zr (zm rfl (za rfl (zn ?_)))); clear h; intro a w h
     exact ⟨hi - ((lo + hi + 1) / 2), ⟨(lo + hi + 1) / 2, hi, ⟨oo, oo, by omega, oo⟩, by exact (h.factsSub (by simp)).sub sA⟩, oo⟩
    ·
     skip
     have hmid : R / m < (lo + hi + 1) / 2 := by
      have h3 := of_decide_eq_false hc79
      rw [Zyk] at h3
      rw [Nat.div_lt_iff_lt_mul hm0, Nat.mul_comm]; omega
     refine gC h (zr (zm rfl (zp (.pO (((lo + hi + 1) / 2) - 1) (.sub rfl rfl)) (za rfl (zn ?_))))); clear h; intro a w h
     exact ⟨(((lo + hi + 1) / 2) - 1) - lo, ⟨lo, ((lo + hi + 1) / 2) - 1, ⟨oo, oo, by omega, oo⟩, by exact (h.factsSub (by simp)).sub sA⟩, oo⟩
   ·
    skip
    obtain rfl : lo = R / m := dF hc66
    refine gC h (ze (zS (zm rfl (zp (.pO (k - 1) (.move rfl)) (zm rfl (zp (.indexAddr rfl rfl (Zee _ _ _ _ _ oo)) (zt' rfl rfl ((congrArg (fun z => Qr _ z _) (Nat.zero_add _)).trans (Yz (enc := Qh) Z (k - 1) (R / m))) uu sizeOf3 rfl (by simp; omega) rfl ?_)))))))
    refine zn (zr (zm rfl (zm rfl (zm rfl (zp (.convert rfl (Zs8 _ (wrap_u64 _ oo oo))) (zf [_] rfl call114 (Zzc (R / m) oo) ?_)))))); rintro v91 Ψ91 ⟨ad91, c91, rfl, hle91, rfl⟩
    have hl91 := dg5 (R / m) oo
    refine zf [_, _] rfl call101 (Zpf _ _ _ _ m (R / m) oo oo) ?_; rintro v92 Ψ92 ⟨ad92, c92, rfl, hle92, rfl⟩
    have hl92 := Gl m (R / m)
    refine zf [_, _] rfl call145 (Ztk _ _ _ _ R (m * (R / m)) oo oo (Nat.mul_div_le R m)) ?_; rintro v93 Ψ93 ⟨ad93, c93, rfl, hle93, rfl⟩ a w h
    have e93 : R - m * (R / m) = n / 10000 ^ (k - 1) % m := by rw [Zoo n m (k - 1) R hR', Nat.mod_def]
    rw [e93] at h hle93
    refine gL h (za rfl (zn (zr (zm rfl (zp (Pure1.cast (v' := .int .i64 (((k - 1 : Nat) : Int) - 1)) (.sub rfl rfl) (by show Value.int _ _ = Value.int _ _; congr 1; omega)) (za rfl (zn ?_))))))); clear h; intro a w h
    exact ⟨k - 1, ⟨Z.set (k - 1) (R / m), ad93, c93, ⟨oo, by rw [List.length_set]; exact hZl, hZw.set _ _ oo, by rw [Zk9 oo, hkk, hZv, Zon n m (k - 1) R hm0 hR', hkk], hle93⟩, by exact (h.factsSub (by simp)).sub sA⟩, oo⟩
  ·
   skip
   obtain rfl : k = 0 := dF hc42
   refine gC h (ze (zS (zm rfl ?_))); clear h; intro a w h
   have hZ0 : Qy Z = n / m := by simpa using hZv
   rw [show n / 10000 ^ 0 % m = n % m from by simp] at h hlc
   rw [← hZl] at h
   replace h := h.shareAll hS (List.map Qh Z) rfl
   refine gL h (zf [_] rfl call147 (Zpc (some ⟨b34, 0, none⟩) Z.length Z hZw (Nat.le_refl _) oo) ?_); clear h; rintro v95 Ψ95 ⟨rfl, rfl⟩ a w h
   rw [hZ0] at h
   refine gL h (zm rfl (za rfl (za rfl (zn (zt ?_))))); clear h; intro a w h
   exact Jm (Ψ := [Row (some ⟨b34, 0, none⟩) (List.map Qh (dg (n / m))), Row ad (List.map Qh (dg (n % m)))]) h (Xe h rfl (.tmp rfl) (.tmp rfl)) ⟨_, _, _, _, rfl, by rw [← hZ0]; exact Zhw hZw, hlc, rfl⟩ ss
theorem C_rGcd (ad1 ad2 : Option Addr) (c1 c2 : Nat) (n m : Nat) (h1 : (dg n).length ≤ 300000000000) (h2 : (dg m).length ≤ 300000000000) (hc1 : (dg n).length ≤ c1) (hc2 : (dg m).length ≤ c2) :
  Ctr Tryz.prog 143 [.slice ad1 (dg n).length c1, .slice ad2 (dg m).length c2] [Row ad1 (List.map Qh (dg n)), Row ad2 (List.map Qh (dg m))] (Zo8 (Nat.gcd n m)) := by
 refine fn_intro func143 rfl ntmps143 nb ?_
 intro S w0 a hS h
 refine gC h (zS (za rfl (zn (zs (zb ?_))))); clear h; intro a w h
 refine Zd (fun (y : Nat) a w => ∃ x p cp q cq, (Nat.gcd x y = Nat.gcd n m ∧ (dg x).length ≤ 300000000000 ∧ (dg y).length ≤ 300000000000 ∧ (dg x).length ≤ cp ∧ (dg y).length ≤ cq) ∧ St 19 S w0 [(0, .slice p ((dg x).length) cp), (1, .slice q ((dg y).length) cq)] [] [Row p (List.map Qh (dg x)), Row q (List.map Qh (dg y))] a w) (fun y => y) (m) (⟨n, ad1, c1, ad2, c2, ⟨rfl, h1, h2, hc1, hc2⟩, by exact (h.factsSub (by simp)).sub sA⟩) ?_; clear h
 rintro y a w ⟨x, p, cp, q, cq, ⟨hg, hx1, hy1, hcp, hcq⟩, h⟩
 refine gC h (zs (zS (zm rfl (zp (.builtin [_] rfl (Qj _ _ _)) (zp (.gtr rfl rfl) (zn ?_)))))); clear h; intro a w h
 refine cW ?_
 refine Zb h rfl (fun hc9 => ?_) (fun hc9 => ?_)
 ·
  skip
  have hy : y ≠ 0 := by
   intro e; subst e; rw [Xk] at hc9; exact absurd (of_decide_eq_true hc9) dd
  have hl3 := Ke (Nat.le_of_lt (Nat.mod_lt x (Nat.pos_of_ne_zero hy)))
  refine gC h (zk (zb (zS (zm rfl (zm rfl (zf [_, _] rfl call144 (Zze _ _ _ _ x y oo oo oo oo) ?_)))))); rintro v13 Ψ13 ⟨ad13, c13, bd13, d13, rfl, hle13, hlf13, rfl⟩
  refine zm rfl (zp (.eX rfl) (zp (.eX rfl) (za rfl (za rfl (zn (zS (zm rfl (za rfl (zn (zr (zm rfl (za rfl (zn ?_))))))))))))); intro a w h
  exact ⟨x % y, ⟨y, q, cq, bd13, d13, ⟨by rw [← hg, Nat.gcd_comm x y, Nat.gcd_rec y x, Nat.gcd_comm], hy1, oo, hcq, hlf13⟩, by exact (h.factsSub (by simp)).sub sA⟩, Nat.mod_lt _ (Nat.pos_of_ne_zero hy)⟩
 ·
  skip
  obtain rfl : y = 0 := by
   have h3 := of_decide_eq_false hc9
   exact Zs3.1 (List.eq_nil_of_length_eq_zero oo)
  refine gC h (ze (zS (zm rfl (za rfl (zn (zt ?_)))))); clear h; intro a w h
  refine Jm (Ψ := [Row p (List.map Qh (dg x))]) h (Ze h rfl (.tmp rfl)) ?_ ss
  rw [Nat.gcd_zero_right] at hg; subst hg; exact ⟨p, cp, rfl, hcp, rfl⟩
end
section
theorem Zoz (x0 : Bool) (x1 : Option Addr) (x1n : Nat) (x1c : Nat) (w : World) : (Instr.build 70 [(0, .bool x0), (1, .slice x1 x1n x1c)].toArray).run Tryz.prog w = .ok (.agg #[.bool x0, .slice x1 x1n x1c]) w := by simp [go_sem]
theorem Zta (x : Int) (h0 : IntKind.u64.wrap x = x) (w : World) : (Go.convert 2 56 (.int .i64 x)).run Tryz.prog w = .ok (.int .u64 x) w := by
 rw [Zrd, h0]
theorem Kd {b off : Nat} (w : World) : (Instr.fieldAt 70 (.pointer (some ⟨b, off, none⟩)) 1).run Tryz.prog w = .ok (.pointer (some ⟨b, off + 1, none⟩)) w := by
 simp [go_sem]
theorem Za0 {b off : Nat} (w : World) : (Instr.fieldAt 70 (.pointer (some ⟨b, off, none⟩)) 0).run Tryz.prog w = .ok (.pointer (some ⟨b, off + 0, none⟩)) w := by
 simp [go_sem]
abbrev zV (z : Int) (ad : Option Addr) (c : Nat) : Value := .agg #[.bool (decide (z < 0)), .slice ad (dg z.natAbs).length c]
def Zy2 (z : Int) (v : Value) (Ψ : List Qn) : Prop := ∃ ad c, v = zV z ad c ∧ (dg z.natAbs).length ≤ c ∧ Ψ = [Row ad (List.map Qh (dg z.natAbs))]
theorem Zda {b : Bool} {n : Nat} {z : Int} {ad : Option Addr} {c : Nat} (hs : sgZ b n = z) (hle : (dg n).length ≤ c) : Zy2 z (.agg #[.bool (decide (sgZ b n < 0)), .slice ad (dg n).length c]) [Row ad (List.map Qh (dg n))] := by
 subst hs; refine ⟨ad, c, ?_, ?_, ?_⟩
 · unfold zV; rw [Zcj]
 · rw [Zcj]; exact hle
 · rw [Zcj]
theorem Zuw {n : Nat} : decide (((dg n).length : Int) > 0) = !decide (n = 0) := by
 by_cases h : n = 0
 · subst h; rw [Xk]; rfl
 ·
  have : 0 < (dg n).length := List.length_pos_iff.2 (fun e => h (Zs3.1 e))
  rw [decide_eq_true (by omega : ((dg n).length : Int) > 0)]; simp [h]
theorem Zky {n : Nat} : (((dg n).length : Int) == 0) = decide (n = 0) := by
 by_cases h : n = 0
 · subst h; rw [Xk]; rfl
 ·
  have : 0 < (dg n).length := List.length_pos_iff.2 (fun e => h (Zs3.1 e))
  rw [decide_eq_false h]; exact beq_eq_false_iff_ne.2 oo
theorem Zu8 {x y : Int} (h : decide (x < 0) = decide (y < 0)) : sgZ (decide (x < 0)) (x.natAbs + y.natAbs) = x + y := by
 have h' := decide_eq_decide.1 h
 unfold sgZ; split <;> rename_i h1 <;> simp at h1 <;> omega
theorem Qdn {x y : Int} (h : decide (x < 0) ≠ decide (y < 0)) (hle : y.natAbs ≤ x.natAbs) : sgZ (decide (x < 0)) (x.natAbs - y.natAbs) = x + y := by
 have h' : ¬ (x < 0 ↔ y < 0) := fun e => h (decide_eq_decide.2 e)
 unfold sgZ; split <;> rename_i h1 <;> simp at h1 <;> omega
theorem Qdm {x y : Int} (h : decide (x < 0) ≠ decide (y < 0)) (hle : x.natAbs < y.natAbs) : sgZ (decide (y < 0)) (y.natAbs - x.natAbs) = x + y := by
 have h' : ¬ (x < 0 ↔ y < 0) := fun e => h (decide_eq_decide.2 e)
 unfold sgZ; split <;> rename_i h1 <;> simp at h1 <;> omega
theorem Qdl (x y : Int) : sgZ (decide (x < 0) != decide (y < 0)) (x.natAbs * y.natAbs) = x * y := by
 unfold sgZ
 have hlt : ∀ z : Int, z < 0 ∨ 0 ≤ z := fun z => by omega
 rcases hlt x with hx | hx <;> rcases hlt y with hy | hy
 · rw [decide_eq_true hx, decide_eq_true hy]; simp; rw [Int.ofNat_natAbs_of_nonpos (Int.le_of_lt hx), Int.ofNat_natAbs_of_nonpos (Int.le_of_lt hy), Int.neg_mul_neg]
 · rw [decide_eq_true hx, decide_eq_false oo]; simp; rw [Int.ofNat_natAbs_of_nonpos (Int.le_of_lt hx), Int.natAbs_of_nonneg hy, Int.neg_mul, Int.neg_neg]
 · rw [decide_eq_false oo, decide_eq_true hy]; simp; rw [Int.ofNat_natAbs_of_nonpos (Int.le_of_lt hy), Int.natAbs_of_nonneg hx, Int.mul_neg, Int.neg_neg]
 · rw [decide_eq_false oo, decide_eq_false oo]; simp; rw [Int.natAbs_of_nonneg hx, Int.natAbs_of_nonneg hy]
theorem Zdj (x y : Int) : (dg (x * y).natAbs).length ≤ (dg x.natAbs).length + (dg y.natAbs).length := by rw [Int.natAbs_mul]; exact Gl _ _
theorem Zx7 (x y : Int) : (dg (x + y).natAbs).length ≤ max (dg x.natAbs).length (dg y.natAbs).length + 1 :=
 Nat.le_trans (Ke (Int.natAbs_add_le x y)) (Zhe _ _)
theorem Zcn (b : Bool) (ad : Option Addr) (c n : Nat) : Yc Tryz.prog 113 [.bool b, .slice ad (dg n).length c] (.agg #[.bool (decide (sgZ b n < 0)), .slice ad (dg n).length c]) := by
 refine fn_intro func113 rfl ntmps113 nb ?_
 intro S w0 a hS h
 refine gC h (zS (zz zeroValue70 fun b4 => zn (zS (zm rfl ?_)))); clear h; intro a w h
 refine Zi h (fun hc5 h => ?_) (fun hc5 h => ?_)
 ·
  skip
  refine gL h (zm rfl (zq 6 rfl rfl (.move rfl) (zq 6 rfl rfl (.builtin [_] rfl (Qj _ _ _)) (zq 6 rfl rfl (.gtr rfl rfl) (zp (.pickT rfl rfl) (zm rfl (zp (.build [(_, _), (_, _)] rfl (Zoz _ _ _ _)) (zt' rfl rfl Zq uu sizeOf70 rfl nb rfl ?_)))))))); clear h; intro a w h
  refine wpList_nil (wp_ret ?_)
  refine Jr h (Ze h rfl (.cell rfl mr isAgg70 sizeOf70 Zg)) ?_
  rw [hc5, Zlg, Zuw]; rfl
 ·
  skip
  refine gL h (zm rfl (zo 6 rfl rfl rfl (zo 6 rfl rfl rfl (zo 6 rfl rfl rfl (zp (.pickF rfl rfl) (zm rfl (zp (.build [(_, _), (_, _)] rfl (Zoz _ _ _ _)) (zt' rfl rfl Zq uu sizeOf70 rfl nb rfl ?_)))))))); clear h; intro a w h
  refine wpList_nil (wp_ret ?_)
  refine Jr h (Ze h rfl (.cell rfl mr isAgg70 sizeOf70 Zg)) ?_
  rw [hc5, Zlg]; rfl
theorem C_zOf (n : Int) (h0 : -9223372036854775808 ≤ n) (h1 : n ≤ 9223372036854775807) : Ctr Tryz.prog 78 [.int .i64 n] [] (Zy2 n) := by
 refine fn_intro func78 rfl ntmps78 nb ?_
 intro S w0 a hS h
 refine gC h (zS (zz zeroValue70 fun b2 => zn (zs (zS (zm rfl (zp (.lss rfl rfl) (zn ?_))))))); clear h; intro a w h
 refine cW ?_
 refine Zb h rfl (fun hc4 => ?_) (fun hc4 => ?_)
 ·
  skip
  have hn : n < 0 := of_decide_eq_true hc4
  refine gC h (zS (zm rfl (zp (.add rfl rfl) (zp (Pure1.cast (v' := .int .i64 (-(n + 1))) (.unOp rfl (fun w => Zli _ oo oo w)) (by rfl)) (zp (.convert rfl (Zta _ (wrap_u64 _ oo oo))) (zp (Pure1.cast (v' := .int .u64 ((n.natAbs : Nat) : Int)) (.binOp rfl rfl (fun _ => Zh7 _ _ _ _ _ (wrap_u64 _ oo oo))) (by show Value.int _ _ = Value.int _ _; congr 1; omega)) (zf [_] rfl call114 (Zzc n.natAbs oo) ?_))))))); rintro v10 Ψ10 ⟨ad10, c10, rfl, hle10, rfl⟩
  refine zv [_, _] rfl call113 (Zcn true ad10 c10 n.natAbs) (zt' rfl rfl Zq uu sizeOf70 rfl nb rfl ?_); intro a w h
  refine wpList_nil (wp_ret ?_)
  refine Jm (Ψ := [Row ad10 (List.map Qh (dg n.natAbs))]) h (Ze h rfl (.cell rfl mr isAgg70 sizeOf70 Zg)) ?_ ss
  exact Zda (by unfold sgZ; simp; omega) hle10
 ·
  skip
  have hn : ¬ n < 0 := of_decide_eq_false hc4
  refine gC h (zk (zS (zm rfl (zp (Pure1.cast (v' := .int .u64 ((n.natAbs : Nat) : Int)) (.convert rfl (Zta _ (wrap_u64 _ oo oo))) (by show Value.int _ _ = Value.int _ _; congr 1; omega)) (zf [_] rfl call114 (Zzc n.natAbs oo) ?_))))); rintro v14 Ψ14 ⟨ad14, c14, rfl, hle14, rfl⟩
  refine zv [_, _] rfl call113 (Zcn false ad14 c14 n.natAbs) (zt' rfl rfl Zq uu sizeOf70 rfl nb rfl ?_); intro a w h
  refine wpList_nil (wp_ret ?_)
  refine Jm (Ψ := [Row ad14 (List.map Qh (dg n.natAbs))]) h (Ze h rfl (.cell rfl mr isAgg70 sizeOf70 Zg)) ?_ ss
  exact Zda (by unfold sgZ; simp; omega) hle14
theorem Qfg (z : Int) (ad : Option Addr) (c : Nat) : Yc Tryz.prog 142 [zV z ad c] (.int .i64 z.sign) := by
 refine fn_intro func142 rfl ntmps142 nb ?_
 intro S w0 a hS h
 refine gC h (zS (zx rfl fun b1 => za rfl (zn (zs (zS (zp (.fA rfl Kd) (zd rfl mr isAgg68 sizeOf68 Qi ?_)))))))
 refine zp (.builtin [_] rfl (Qj _ _ _)) (zp (.eql rfl rfl) (zn ?_)); intro a w h
 refine cW ?_
 refine Zb h rfl (fun hc6 => ?_) (fun hc6 => ?_)
 ·
  skip
  have hz : z.natAbs = 0 := by rw [Zky] at hc6; exact of_decide_eq_true hc6
  refine gC h (zS (za rfl (zn (zt ?_)))); clear h; intro a w h
  refine Jr h (Ze h rfl (.tmp rfl)) ?_
  rw [Int.natAbs_eq_zero.1 hz]; rfl
 ·
  skip
  have hz : z.natAbs ≠ 0 := by rw [Zky] at hc6; exact of_decide_eq_false hc6
  refine gC h (zk (zs (zS (zp (.fA rfl Za0) (zd rfl mr isAgg4 sizeOf4 Ql ?_))))); clear h; intro a w h
  refine wpList_nil ?_
  refine cW ?_
  refine Zb h rfl (fun hc8 => ?_) (fun hc8 => ?_)
  ·
   skip
   have hs : z < 0 := of_decide_eq_true hc8
   refine gC h (zS (za rfl (zn (zt ?_)))); clear h; intro a w h
   refine Jr h (Ze h rfl (.tmp rfl)) ?_
   rw [Int.sign_eq_neg_one_of_neg hs]
  ·
   skip
   have hs : ¬ z < 0 := of_decide_eq_false hc8
   refine gC h (zk (zS (za rfl (zn (zt ?_))))); clear h; intro a w h
   refine Jr h (Ze h rfl (.tmp rfl)) ?_
   rw [Int.sign_eq_one_of_pos oo]
theorem C_zNeg (z : Int) (ad : Option Addr) (c : Nat) : Yc Tryz.prog 112 [zV z ad c] (zV (-z) ad c) := by
 refine fn_intro func112 rfl ntmps112 nb ?_
 intro S w0 a hS h
 refine gC h (zS (zx rfl fun b1 => zz zeroValue70 fun b2 => zn (zS (zp (.fA rfl Za0) (zd rfl mr isAgg4 sizeOf4 Ql ?_)))))
 refine zp (.unOp rfl (Yu _)) (zp (.fA rfl Kd) (zd rfl mr isAgg68 sizeOf68 Qi ?_))
 refine zv [_, _] rfl call113 (Zcn (!decide (z < 0)) ad c z.natAbs) (zt' rfl rfl Zq uu sizeOf70 rfl nb rfl ?_); intro a w h
 refine wpList_nil (wp_ret ?_)
 refine Jr h (Ze h rfl (.cell rfl mr isAgg70 sizeOf70 Zg)) ?_
 unfold zV; rw [show sgZ (!decide (z < 0)) z.natAbs = -z from by unfold sgZ; split <;> rename_i h1 <;> simp at h1 <;> omega, Int.natAbs_neg]
theorem C_zAdd (a1 a2 : Option Addr) (c1 c2 : Nat) (x y : Int) (h1 : (dg x.natAbs).length ≤ 300000000000) (h2 : (dg y.natAbs).length ≤ 300000000000) : Ctr Tryz.prog 110 [zV x a1 c1, zV y a2 c2] [Row a1 (List.map Qh (dg x.natAbs)), Row a2 (List.map Qh (dg y.natAbs))] (Zy2 (x + y)) := by
 refine fn_intro func110 rfl ntmps110 nb ?_
 intro S w0 a hS h
 refine gC h (zS (zx rfl fun b2 => zx rfl fun b3 => zz zeroValue70 fun b4 => zn (zs (zS (zp (.fA rfl Za0) (zd rfl mr isAgg4 sizeOf4 Ql ?_))))))
 refine zp (.fA rfl Za0) (zd rfl mr isAgg4 sizeOf4 Ql ?_)
 refine zp (.binOp rfl rfl (fun _ => Zr3 _ underlying4 _ _ _ _)) (zn ?_); intro a w h
 refine cW ?_
 refine Zb h rfl (fun hc9 => ?_) (fun hc9 => ?_)
 ·
  skip
  have hs := eq_of_beq hc9
  refine gC h (zs (yD Za [0, 1, 2, 3, 4, 5, 6, 7, 8] (Zc kk) (yp rfl (.fA rfl Za0) (yd rfl rfl mr isAgg4 sizeOf4 Ql ?_)))); clear h
  refine yp rfl (.fA rfl Kd) (yd rfl rfl mr isAgg68 sizeOf68 Qi ?_)
  refine yp rfl (.fA rfl Kd) (yd rfl rfl mr isAgg68 sizeOf68 Qi ?_)
  refine yf [_, _] rfl rfl call140 (Qdd _ _ _ _ x.natAbs y.natAbs oo oo) ?_; rintro v16 Ψ16 ⟨ad16, c16, rfl, hle16, rfl⟩
  have hl16 := Zhe x.natAbs y.natAbs
  refine yv [_, _] rfl rfl call113 (Zcn (decide (x < 0)) ad16 c16 (x.natAbs + y.natAbs)) (yt rfl rfl rfl Zq uu sizeOf70 rfl nb rfl ?_)
  refine yn (zt ?_); intro a w h
  refine Jm (Ψ := [Row ad16 (List.map Qh (dg (x.natAbs + y.natAbs)))]) h (Ze h rfl (.cell rfl mr isAgg70 sizeOf70 Zg)) ?_ ss
  exact Zda (Zu8 hs) hle16
 ·
  skip
  have hs := ne_of_beq_false hc9
  refine gC h (zk (zs (zS (zp (.fA rfl Kd) (zd rfl mr isAgg68 sizeOf68 Qi ?_)))))
  refine zp (.fA rfl Kd) (zd rfl mr isAgg68 sizeOf68 Qi ?_)
  refine zw [_, _] rfl call151 (Zzf _ _ _ _ x.natAbs y.natAbs oo oo) (zp (.geq rfl rfl) (zn ?_)); intro a w h
  refine cW ?_
  refine Zb h rfl (fun hc23 => ?_) (fun hc23 => ?_)
  ·
   skip
   have hle : y.natAbs ≤ x.natAbs := by
    have h3 := of_decide_eq_true hc23
    unfold Zjo at h3; split at h3 <;> omega
   refine gC h (zs (yD Za [0, 1, 2, 3, 4, 5, 6, 7, 8] (Zc kk) (yp rfl (.fA rfl Za0) (yd rfl rfl mr isAgg4 sizeOf4 Ql ?_)))); clear h
   refine yp rfl (.fA rfl Kd) (yd rfl rfl mr isAgg68 sizeOf68 Qi ?_)
   refine yp rfl (.fA rfl Kd) (yd rfl rfl mr isAgg68 sizeOf68 Qi ?_)
   refine yf [_, _] rfl rfl call145 (Ztk _ _ _ _ x.natAbs y.natAbs oo oo hle) ?_; rintro v30 Ψ30 ⟨ad30, c30, rfl, hle30, rfl⟩
   refine yv [_, _] rfl rfl call113 (Zcn (decide (x < 0)) ad30 c30 (x.natAbs - y.natAbs)) (yt rfl rfl rfl Zq uu sizeOf70 rfl nb rfl ?_)
   refine yn (zt ?_); intro a w h
   refine Jm (Ψ := [Row ad30 (List.map Qh (dg (x.natAbs - y.natAbs)))]) h (Ze h rfl (.cell rfl mr isAgg70 sizeOf70 Zg)) ?_ ss
   exact Zda (Qdn hs hle) hle30
  ·
   skip
   have hle : x.natAbs < y.natAbs := by
    have h3 := of_decide_eq_false hc23
    unfold Zjo at h3; split at h3
    · assumption
    · split at h3 <;> omega
   refine gC h (zk (zs (yD Za [0, 1, 2, 3, 4, 5, 6, 7, 8] (Zc kk) (yp rfl (.fA rfl Za0) (yd rfl rfl mr isAgg4 sizeOf4 Ql ?_))))); clear h
   refine yp rfl (.fA rfl Kd) (yd rfl rfl mr isAgg68 sizeOf68 Qi ?_)
   refine yp rfl (.fA rfl Kd) (yd rfl rfl mr isAgg68 sizeOf68 Qi ?_)
   refine yf [_, _] rfl rfl call145 (Ztk _ _ _ _ y.natAbs x.natAbs oo oo (Nat.le_of_lt hle)) ?_; rintro v38 Ψ38 ⟨ad38, c38, rfl, hle38, rfl⟩
   refine yv [_, _] rfl rfl call113 (Zcn (decide (y < 0)) ad38 c38 (y.natAbs - x.natAbs)) (yt rfl rfl rfl Zq uu sizeOf70 rfl nb rfl ?_)
   refine yn (zt ?_); intro a w h
   refine Jm (Ψ := [Row ad38 (List.map Qh (dg (y.natAbs - x.natAbs)))]) h (Ze h rfl (.cell rfl mr isAgg70 sizeOf70 Zg)) ?_ ss
   exact Zda (Qdm hs hle) hle38
theorem Zy6 (a1 a2 : Option Addr) (c1 c2 : Nat) (x y : Int) (h1 : (dg x.natAbs).length ≤ 300000000000) (h2 : (dg y.natAbs).length ≤ 300000000000) : Ctr Tryz.prog 100 [zV x a1 c1, zV y a2 c2] [Row a1 (List.map Qh (dg x.natAbs)), Row a2 (List.map Qh (dg y.natAbs))] (Zy2 (x * y)) := by
 refine fn_intro func100 rfl ntmps100 nb ?_
 intro S w0 a hS h
 refine gC h (zS (zx rfl fun b2 => zx rfl fun b3 => zz zeroValue70 fun b4 => zn (zs (yD Za [0, 1, 2, 3, 4, 5, 6, 7, 8, 9, 10, 11] (Zc kk) (yp rfl (.fA rfl Za0) (yd rfl rfl mr isAgg4 sizeOf4 Ql ?_)))))); clear h
 refine yp rfl (.fA rfl Za0) (yd rfl rfl mr isAgg4 sizeOf4 Ql ?_)
 refine yp rfl (.binOp rfl rfl (fun _ => Yj _ underlying4 _ _ _ _)) (yp rfl (.fA rfl Kd) (yd rfl rfl mr isAgg68 sizeOf68 Qi ?_))
 refine yp rfl (.fA rfl Kd) (yd rfl rfl mr isAgg68 sizeOf68 Qi ?_)
 refine yf [_, _] rfl rfl call101 (Zpf _ _ _ _ x.natAbs y.natAbs oo oo) ?_; rintro v14 Ψ14 ⟨ad14, c14, rfl, hle14, rfl⟩
 have hl14 := Gl x.natAbs y.natAbs
 refine yv [_, _] rfl rfl call113 (Zcn (decide (x < 0) != decide (y < 0)) ad14 c14 (x.natAbs * y.natAbs)) (yt rfl rfl rfl Zq uu sizeOf70 rfl nb rfl ?_)
 refine yn (zt ?_); intro a w h
 refine Jm (Ψ := [Row ad14 (List.map Qh (dg (x.natAbs * y.natAbs)))]) h (Ze h rfl (.cell rfl mr isAgg70 sizeOf70 Zg)) ?_ ss
 exact Zda (Qdl x y) hle14
end
section
theorem Zq2 {b off : Nat} (w : World) : (Instr.fieldAt 72 (.pointer (some ⟨b, off, none⟩)) 1).run Tryz.prog w = .ok (.pointer (some ⟨b, off + 2, none⟩)) w := by
 simp [go_sem]
theorem Zoy (x0_0 : Value) (x0_1 : Value) (x1 : Option Addr) (x1n : Nat) (x1c : Nat) (w : World) : (Instr.build 72 [(0, .agg #[x0_0, x0_1]), (1, .slice x1 x1n x1c)].toArray).run Tryz.prog w = .ok (.agg #[x0_0, x0_1, .slice x1 x1n x1c]) w := by simp [go_sem]
theorem Qe3 (x0_0 : Value) (x0_1 : Value) (w : World) : (Instr.build 72 [(0, .agg #[x0_0, x0_1])].toArray).run Tryz.prog w = .ok (.agg #[x0_0, x0_1, .slice none 0 0]) w := by simp [go_sem]
theorem Zcm {b off : Nat} (w : World) : (Instr.fieldAt 72 (.pointer (some ⟨b, off, none⟩)) 0).run Tryz.prog w = .ok (.pointer (some ⟨b, off + 0, none⟩)) w := by
 simp [go_sem]
theorem Qe2 (w : World) : (Instr.build 72 [].toArray).run Tryz.prog w = .ok (.agg #[.bool false, .slice none 0 0, .slice none 0 0]) w := by simp [go_sem]
theorem rs_3_0 {c0 c1 c2 : Value} : Qv false 1 #[c0, c1, c2] 0 = some c0 := rfl
theorem rs_3_1 {c0 c1 c2 : Value} : Qv false 1 #[c0, c1, c2] 1 = some c1 := rfl
abbrev fV (x : Rat) (a1 : Option Addr) (c1 : Nat) (a2 : Option Addr) (c2 : Nat) : Value := .agg #[.bool (decide (x.num < 0)), .slice a1 (dg x.num.natAbs).length c1, .slice a2 (dg (x.den - 1)).length c2]
def PostF (x : Rat) (v : Value) (Ψ : List Qn) : Prop := ∃ a1 c1 a2 c2, v = fV x a1 c1 a2 c2 ∧ (dg x.num.natAbs).length ≤ c1 ∧ (dg (x.den - 1)).length ≤ c2 ∧ Ψ = [Row a1 (List.map Qh (dg x.num.natAbs)), Row a2 (List.map Qh (dg (x.den - 1)))]
theorem dgQ {x : Rat} {k : Nat} (h : Qa x ≤ k) : (dg x.num.natAbs).length ≤ 3 * k ∧ (dg x.den).length ≤ 3 * k ∧ (dg (x.den - 1)).length ≤ 3 * k := by
 obtain ⟨h1, h2⟩ := Zfs h
 unfold Zck at h1
 have a1 := Zkx x.num.natAbs
 have a2 := Zkx x.den
 have a3 := Ke (Nat.sub_le x.den 1)
 omega
theorem Zp3 (z : Int) : decide (z.sign < 0) = decide (z < 0) := by
 apply decide_eq_decide.2
 rcases Int.lt_trichotomy z 0 with h | h | h
 · rw [Int.sign_eq_neg_one_of_neg h]; omega
 · subst h; simp
 · rw [Int.sign_eq_one_of_pos h]; omega
theorem Qav (z : Int) (d : Nat) (hd : d ≠ 0) : sgZ (decide (z < 0)) (z.natAbs / z.natAbs.gcd d) = (mkRat z d).num ∧ z.natAbs / z.natAbs.gcd d = (mkRat z d).num.natAbs ∧ d / z.natAbs.gcd d - 1 = (mkRat z d).den - 1 := by
 obtain ⟨h1, h2⟩ := Zfp z d hd
 rw [Zp3] at h1
 exact ⟨h1.symm, by rw [h1, Zcj], by rw [h2]⟩
theorem Qdc : Ctr Tryz.prog 141 [] [] (Zo8 1) := by
 refine fn_intro func141 rfl ntmps141 nb ?_
 intro S w0 a hS h
 refine gC h (zS (za rfl (zn (zS (zf [_] rfl call114 (Zzc 1 dd) ?_))))); rintro v1 Ψ1 ⟨ad1, c1, rfl, hle1, rfl⟩
 refine za rfl (zn (zt ?_)); intro a w h
 refine Jm (Ψ := [Row ad1 (List.map Qh (dg 1))]) h (Ze h rfl (.tmp rfl)) ?_ ss
 exact ⟨ad1, c1, rfl, hle1, rfl⟩
theorem Zj3 (a1 a2 : Option Addr) (c1 c2 : Nat) (x : Rat) (hx : (dg (x.den - 1)).length ≤ 300000000000) : Ctr Tryz.prog 96 [fV x a1 c1 a2 c2] [Row a2 (List.map Qh (dg (x.den - 1)))] (Zo8 x.den) := by
 refine fn_intro func96 rfl ntmps96 nb ?_
 intro S w0 a hS h
 refine gC h (zS (zx rfl fun b1 => za rfl (zn (zs (yD Za [0, 1, 2, 3, 4] (Zc kk) (yp rfl (.fA rfl Zq2) (yd rfl rfl mr isAgg68 sizeOf68 Zb8 ?_))))))); clear h
 refine yf [] rfl rfl call141 (Qdc) ?_; rintro v5 Ψ5 ⟨ad5, c5, rfl, hle5, rfl⟩
 have hl5 := dg5 1 dd
 refine yf [_, _] rfl rfl call140 (Qdd _ _ _ _ (x.den - 1) 1 oo oo) ?_; rintro v6 Ψ6 ⟨ad6, c6, rfl, hle6, rfl⟩
 have hl6 := Zhe (x.den - 1) 1
 refine yp rfl (.assign rfl) (yn (zt ?_)); intro a w h
 refine Jm (Ψ := [Row ad6 (List.map Qh (dg (x.den - 1 + 1)))]) h (Ze h rfl (.tmp rfl)) ?_ ss
 rw [Nat.sub_add_cancel x.den_pos] at *; exact ⟨ad6, c6, rfl, hle6, rfl⟩
theorem Qdg (a1 a2 : Option Addr) (c1 c2 : Nat) (x : Rat) (hx : (dg (x.den - 1)).length ≤ 300000000000) : Ctr Tryz.prog 111 [fV x a1 c1 a2 c2] [Row a2 (List.map Qh (dg (x.den - 1)))] (Zy2 ((x.den : Nat) : Int)) := by
 refine fn_intro func111 rfl ntmps111 nb ?_
 intro S w0 a hS h
 refine gC h (zS (zx rfl fun b1 => zz zeroValue70 fun b2 => zn (zS (zd rfl mr isAgg72 sizeOf72 Zt ?_))))
 refine zf [_] rfl call96 (Zj3 _ _ _ _ x oo) ?_; rintro v4 Ψ4 ⟨ad4, c4, rfl, hle4, rfl⟩
 refine zv [_, _] rfl call113 (Zcn false ad4 c4 x.den) (zt' rfl rfl Zq uu sizeOf70 rfl nb rfl ?_); intro a w h
 refine wpList_nil (wp_ret ?_)
 refine Jm (Ψ := [Row ad4 (List.map Qh (dg x.den))]) h (Ze h rfl (.cell rfl mr isAgg70 sizeOf70 Zg)) ?_ ss
 exact Zda rfl hle4
theorem Zrl (a1 a2 : Option Addr) (c1 c2 : Nat) (z : Int) (d : Nat) (hd : d ≠ 0) (h1 : (dg z.natAbs).length ≤ 300000000000) (h2 : (dg d).length ≤ 300000000000) (hc1 : (dg z.natAbs).length ≤ c1) (hc2 : (dg d).length ≤ c2) :
  Ctr Tryz.prog 99 [zV z a1 c1, .slice a2 (dg d).length c2] [Row a1 (List.map Qh (dg z.natAbs)), Row a2 (List.map Qh (dg d))] (PostF (mkRat z d)) := by
 have hg0 : z.natAbs.gcd d ≠ 0 := fun h => hd (Nat.gcd_eq_zero_iff.1 h).2
 have hgl := Ke (Nat.gcd_le_right (m := z.natAbs) (Nat.pos_of_ne_zero hd))
 have hql := Ke (Nat.div_le_self d (z.natAbs.gcd d))
 have hq1 : 1 ≤ d / z.natAbs.gcd d := Nat.div_pos (Nat.gcd_le_right _ (Nat.pos_of_ne_zero hd)) (Nat.pos_of_ne_zero hg0)
 have h15 := dg5 1 dd
 obtain ⟨hm1, hm2, hm3⟩ := Qav z d hd
 refine fn_intro func99 rfl ntmps99 nb ?_
 intro S w0 a hS h
 refine gC h (zS (zx rfl fun b2 => zz zeroValue72 fun b4 => zn (zS (zp (.fA rfl Kd) (zd rfl mr isAgg68 sizeOf68 Qi ?_)))))
 refine zm rfl (zf [_, _] rfl call143 (C_rGcd _ _ _ _ z.natAbs d oo oo hc1 hc2) ?_); rintro v13 Ψ13 ⟨ad13, c13, rfl, hle13, rfl⟩
 refine za rfl (zn (zS (zp (.fA rfl Kd) (zd rfl mr isAgg68 sizeOf68 Qi ?_))))
 refine zm rfl (zf [_, _] rfl call144 (Zze _ _ _ _ z.natAbs (z.natAbs.gcd d) oo oo hg0 hc1) ?_); rintro v18 Ψ18 ⟨ad18, c18, bd18, d18, rfl, hle18, hlf18, rfl⟩
 refine zm rfl (zp (.eX rfl) (zp (.eX rfl) (za rfl (za rfl (zn (zS (zm rfl (zm rfl (zf [_, _] rfl call144 (Zze _ _ _ _ d (z.natAbs.gcd d) oo oo hg0 hc2) ?_))))))))); rintro v24 Ψ24 ⟨ad24, c24, bd24, d24, rfl, hle24, hlf24, rfl⟩
 refine zm rfl (zp (.eX rfl) (zp (.eX rfl) (za rfl (za rfl (zn (zS (zp (.fA rfl Za0) (zd rfl mr isAgg4 sizeOf4 Ql ?_))))))))
 refine zm rfl (zv [_, _] rfl call113 (Zcn (decide (z < 0)) ad18 c18 (z.natAbs / z.natAbs.gcd d)) (zm rfl (zf [] rfl call141 (Qdc) ?_))); rintro v32 Ψ32 ⟨ad32, c32, rfl, hle32, rfl⟩
 have hl32 := dg5 1 dd
 refine zf [_, _] rfl call145 (Ztk _ _ _ _ (d / z.natAbs.gcd d) 1 oo oo hq1) ?_; rintro v33 Ψ33 ⟨ad33, c33, rfl, hle33, rfl⟩
 refine zp (.build [(_, _), (_, _)] rfl (Zoy _ _ _ _ _)) (zt' rfl rfl Qs uu sizeOf72 rfl nb rfl ?_); intro a w h
 refine wpList_nil (wp_ret ?_)
 refine Jm (Ψ := [Row ad18 (List.map Qh (dg (z.natAbs / z.natAbs.gcd d))), Row ad33 (List.map Qh (dg (d / z.natAbs.gcd d - 1)))]) h (Ze h rfl (.cell rfl mr isAgg72 sizeOf72 Zt)) ?_ ss
 rw [hm1, hm2, hm3] at *; exact ⟨ad18, c18, ad33, c33, rfl, hle18, hle33, rfl⟩
theorem Zhz (n : Int) (h0 : -9223372036854775808 ≤ n) (h1 : n ≤ 9223372036854775807) : Ctr Tryz.prog 34 [.int .i64 n] [] (PostF ((n : Int) : Rat)) := by
 refine fn_intro func34 rfl ntmps34 nb ?_
 intro S w0 a hS h
 refine gC h (zS (zz zeroValue72 fun b2 => zn (zS (zm rfl (zf [_] rfl call78 (C_zOf n oo oo) ?_))))); rintro v4 Ψ4 ⟨ad4, c4, rfl, hle4, rfl⟩
 refine zp (.build [(_, _)] rfl (Qe3 _ _)) (zt' rfl rfl Qs uu sizeOf72 rfl nb rfl ?_); intro a w h
 refine wpList_nil (wp_ret ?_)
 replace h := h.derive (R := Row none []) (fun X hX hne => absurd rfl hne)
 have e1 : PostF ((n : Int) : Rat) (.agg #[.bool (decide (n < 0)), .slice ad4 (dg n.natAbs).length c4, .slice none 0 0]) [Row ad4 (List.map Qh (dg n.natAbs)), Row none []] :=
  ⟨ad4, c4, none, 0, by unfold fV; rw [Rat.num_intCast, Rat.den_intCast, Nat.sub_self, Xk]; rfl, by rw [Rat.num_intCast]; exact hle4, by rw [Rat.den_intCast, Nat.sub_self, Xk]; exact Nat.le_refl _, by rw [Rat.num_intCast, Rat.den_intCast, Nat.sub_self, Xk]; rfl⟩
 exact Jm h (Ze h rfl (.cell rfl mr isAgg72 sizeOf72 Zt)) e1 ss
theorem Zhk (x : Rat) (a1 : Option Addr) (c1 : Nat) (a2 : Option Addr) (c2 : Nat) : Yc Tryz.prog 98 [fV x a1 c1 a2 c2] (.int .i64 x.num.sign) := by
 refine fn_intro func98 rfl ntmps98 nb ?_
 intro S w0 a hS h
 refine gC h (zS (zx rfl fun b1 => za rfl (zn (zS (zp (.fA rfl Zcm) (zd rfl mr isAgg70 sizeOf70 Xg ?_))))))
 refine zv [_] rfl call142 (Qfg x.num _ _) (za rfl (zn (zt ?_))); intro a w h
 exact Zag h
theorem C_fNeg (x : Rat) (a1 : Option Addr) (c1 : Nat) (a2 : Option Addr) (c2 : Nat) : Yc Tryz.prog 77 [fV x a1 c1 a2 c2] (fV (-x) a1 c1 a2 c2) := by
 refine fn_intro func77 rfl ntmps77 nb ?_
 intro S w0 a hS h
 refine gC h (zS (zx rfl fun b1 => zz zeroValue72 fun b2 => zn (zs (yD Za [0, 1, 3, 4, 2, 5, 6] (Zc kk) (yp rfl (.fA rfl Zcm) (yd rfl rfl mr isAgg70 sizeOf70 Xg ?_)))))); clear h
 refine yp rfl (.fA rfl Zq2) (yd rfl rfl mr isAgg68 sizeOf68 Zb8 ?_)
 refine yv [_] rfl rfl call112 (C_zNeg x.num a1 c1) (yp rfl (.build [(_, _), (_, _)] rfl (Zoy _ _ _ _ _)) (yt rfl rfl rfl Qs uu sizeOf72 rfl nb rfl ?_))
 refine yn (zt ?_); intro a w h
 refine Jr h (Ze h rfl (.cell rfl mr isAgg72 sizeOf72 Zt)) ?_
 unfold fV; rw [Rat.neg_num, Rat.neg_den]
theorem Qdh (a1 p1 a2 p2 : Option Addr) (c1 q1 c2 q2 : Nat) (x y : Rat) (hx : Qa x ≤ 10000000000) (hy : Qa y ≤ 10000000000) : Ctr Tryz.prog 76 [fV x a1 c1 a2 c2, fV y p1 q1 p2 q2] [Row a1 (List.map Qh (dg x.num.natAbs)), Row a2 (List.map Qh (dg (x.den - 1))), Row p1 (List.map Qh (dg y.num.natAbs)), Row p2 (List.map Qh (dg (y.den - 1)))] (PostF (x + y)) := by
 obtain ⟨hx1, hx2, hx3⟩ := dgQ hx
 obtain ⟨hy1, hy2, hy3⟩ := dgQ hy
 have hdz : (((x.den : Nat) : Int)).natAbs = x.den := rfl
 have hdy : (((y.den : Nat) : Int)).natAbs = y.den := rfl
 have hxp := x.den_pos
 have hyp := y.den_pos
 have hm1 := Zdj x.num (y.den : Int)
 have hm2 := Zdj y.num (x.den : Int)
 have hm3 := Zdj x.num y.num
 have hs := Zx7 (x.num * (y.den : Int)) (y.num * (x.den : Int))
 have hdm := Gl x.den y.den
 rw [hdy] at hm1
 rw [hdz] at hm2
 have hq1 : (dg (((x.den : Nat) : Int)).natAbs).length = (dg x.den).length := rfl
 have hq2 : (dg (((y.den : Nat) : Int)).natAbs).length = (dg y.den).length := rfl
 refine fn_intro func76 rfl ntmps76 nb ?_
 intro S w0 a hS h
 refine gC h (zS (zx rfl fun b2 => zx rfl fun b3 => zz zeroValue72 fun b4 => zn (zs (yD Za [0, 1, 2, 5, 6, 7, 11, 13, 3, 4, 8, 9, 10, 12, 14, 15, 16, 17] (Zc kk) (yp rfl (.fA rfl Zcm) (yd rfl rfl mr isAgg70 sizeOf70 Xg ?_)))))); clear h
 refine yd rfl rfl mr isAgg72 sizeOf72 Zt ?_
 refine yp rfl (.fA rfl Zcm) (yd rfl rfl mr isAgg70 sizeOf70 Xg ?_)
 refine yd rfl rfl mr isAgg72 sizeOf72 Zt ?_
 refine yd rfl rfl mr isAgg72 sizeOf72 Zt ?_
 refine yd rfl rfl mr isAgg72 sizeOf72 Zt ?_
 refine yf [_] rfl rfl call111 (Qdg _ _ _ _ y oo) ?_; rintro v8 Ψ8 ⟨ad8, c8, rfl, hle8, rfl⟩
 refine yf [_, _] rfl rfl call100 (Zy6 _ _ _ _ x.num (((y.den : Nat) : Int)) oo oo) ?_; rintro v9 Ψ9 ⟨ad9, c9, rfl, hle9, rfl⟩
 have hl9 := Zdj x.num (((y.den : Nat) : Int))
 refine yf [_] rfl rfl call111 (Qdg _ _ _ _ x oo) ?_; rintro v13 Ψ13 ⟨ad13, c13, rfl, hle13, rfl⟩
 refine yf [_, _] rfl rfl call100 (Zy6 _ _ _ _ y.num (((x.den : Nat) : Int)) oo oo) ?_; rintro v14 Ψ14 ⟨ad14, c14, rfl, hle14, rfl⟩
 have hl14 := Zdj y.num (((x.den : Nat) : Int))
 refine yf [_, _] rfl rfl call110 (C_zAdd _ _ _ _ (x.num * (((y.den : Nat) : Int))) (y.num * (((x.den : Nat) : Int))) oo oo) ?_; rintro v15 Ψ15 ⟨ad15, c15, rfl, hle15, rfl⟩
 refine yf [_] rfl rfl call96 (Zj3 _ _ _ _ x oo) ?_; rintro v17 Ψ17 ⟨ad17, c17, rfl, hle17, rfl⟩
 refine yf [_] rfl rfl call96 (Zj3 _ _ _ _ y oo) ?_; rintro v19 Ψ19 ⟨ad19, c19, rfl, hle19, rfl⟩
 refine yf [_, _] rfl rfl call101 (Zpf _ _ _ _ x.den y.den oo oo) ?_; rintro v20 Ψ20 ⟨ad20, c20, rfl, hle20, rfl⟩
 have hl20 := Gl x.den y.den
 refine yf [_, _] rfl rfl call99 (Zrl _ _ _ _ (x.num * ((y.den : Nat) : Int) + y.num * ((x.den : Nat) : Int)) (x.den * y.den) (Nat.mul_ne_zero oo oo) oo oo hle15 hle20) ?_; rintro v21 Ψ21 ⟨ad21, c21, bd21, d21, rfl, hle21, hlf21, rfl⟩
 refine yt rfl rfl rfl Qs uu sizeOf72 rfl nb rfl ?_
 refine yn (zt ?_); intro a w h
 refine Jm (Ψ := [Row ad21 (List.map Qh (dg (mkRat (x.num * ((y.den : Nat) : Int) + y.num * ((x.den : Nat) : Int)) (x.den * y.den)).num.natAbs)), Row bd21 (List.map Qh (dg ((mkRat (x.num * ((y.den : Nat) : Int) + y.num * ((x.den : Nat) : Int)) (x.den * y.den)).den - 1)))]) h (Ze h rfl (.cell rfl mr isAgg72 sizeOf72 Zt)) ?_ ss
 rw [Rat.add_def']; exact ⟨ad21, c21, bd21, d21, rfl, hle21, hlf21, rfl⟩
theorem Zto (a1 p1 a2 p2 : Option Addr) (c1 q1 c2 q2 : Nat) (x y : Rat) (hx : Qa x ≤ 10000000000) (hy : Qa y ≤ 10000000000) : Ctr Tryz.prog 33 [fV x a1 c1 a2 c2, fV y p1 q1 p2 q2] [Row a1 (List.map Qh (dg x.num.natAbs)), Row a2 (List.map Qh (dg (x.den - 1))), Row p1 (List.map Qh (dg y.num.natAbs)), Row p2 (List.map Qh (dg (y.den - 1)))] (PostF (x - y)) := by
 refine fn_intro func33 rfl ntmps33 nb ?_
 intro S w0 a hS h
 replace h := h.derive (R := Row p1 (List.map Qh (dg (-y).num.natAbs))) (fun X hX => by rw [Rat.neg_num, Int.natAbs_neg]; exact hX _ ss)
 replace h := h.derive (R := Row p2 (List.map Qh (dg ((-y).den - 1)))) (fun X hX => by rw [Rat.neg_den]; exact hX _ ss)
 refine gC h (zS (zx rfl fun b2 => zx rfl fun b3 => zz zeroValue72 fun b4 => zn (zs (yD Za [0, 1, 2, 3, 4] (Zc kk) (yd rfl rfl mr isAgg72 sizeOf72 Zt ?_))))); clear h
 refine yd rfl rfl mr isAgg72 sizeOf72 Zt ?_
 refine yv [_] rfl rfl call77 (C_fNeg y p1 q1 p2 q2) ?_
 have hl7 := Zl0 y
 refine yf [_, _] rfl rfl call76 (Qdh _ _ _ _ _ _ _ _ x (-y) oo oo) ?_; rintro v8 Ψ8 ⟨ad8, c8, bd8, d8, rfl, hle8, hlf8, rfl⟩
 have hl8 := Qt x (-y)
 refine yt rfl rfl rfl Qs uu sizeOf72 rfl nb rfl ?_
 refine yn (zt ?_); intro a w h
 refine Jm (Ψ := [Row ad8 (List.map Qh (dg (x + -y).num.natAbs)), Row bd8 (List.map Qh (dg ((x + -y).den - 1)))]) h (Ze h rfl (.cell rfl mr isAgg72 sizeOf72 Zt)) ?_ ss
 rw [Rat.sub_eq_add_neg]; exact ⟨ad8, c8, bd8, d8, rfl, hle8, hlf8, rfl⟩
theorem Zgu (a1 p1 a2 p2 : Option Addr) (c1 q1 c2 q2 : Nat) (x y : Rat) (hx : Qa x ≤ 10000000000) (hy : Qa y ≤ 10000000000) : Ctr Tryz.prog 58 [fV x a1 c1 a2 c2, fV y p1 q1 p2 q2] [Row a1 (List.map Qh (dg x.num.natAbs)), Row a2 (List.map Qh (dg (x.den - 1))), Row p1 (List.map Qh (dg y.num.natAbs)), Row p2 (List.map Qh (dg (y.den - 1)))] (PostF (x * y)) := by
 obtain ⟨hx1, hx2, hx3⟩ := dgQ hx
 obtain ⟨hy1, hy2, hy3⟩ := dgQ hy
 have hdz : (((x.den : Nat) : Int)).natAbs = x.den := rfl
 have hdy : (((y.den : Nat) : Int)).natAbs = y.den := rfl
 have hxp := x.den_pos
 have hyp := y.den_pos
 have hm1 := Zdj x.num (y.den : Int)
 have hm2 := Zdj y.num (x.den : Int)
 have hm3 := Zdj x.num y.num
 have hs := Zx7 (x.num * (y.den : Int)) (y.num * (x.den : Int))
 have hdm := Gl x.den y.den
 rw [hdy] at hm1
 rw [hdz] at hm2
 have hq1 : (dg (((x.den : Nat) : Int)).natAbs).length = (dg x.den).length := rfl
 have hq2 : (dg (((y.den : Nat) : Int)).natAbs).length = (dg y.den).length := rfl
 refine fn_intro func58 rfl ntmps58 nb ?_
 intro S w0 a hS h
 refine gC h (zS (zx rfl fun b2 => zx rfl fun b3 => zz zeroValue72 fun b4 => zn (zs (yD Za [0, 1, 2, 3, 5, 7, 4, 6, 8, 9, 10, 11] (Zc kk) (yp rfl (.fA rfl Zcm) (yd rfl rfl mr isAgg70 sizeOf70 Xg ?_)))))); clear h
 refine yp rfl (.fA rfl Zcm) (yd rfl rfl mr isAgg70 sizeOf70 Xg ?_)
 refine yd rfl rfl mr isAgg72 sizeOf72 Zt ?_
 refine yd rfl rfl mr isAgg72 sizeOf72 Zt ?_
 refine yf [_, _] rfl rfl call100 (Zy6 _ _ _ _ x.num y.num oo oo) ?_; rintro v9 Ψ9 ⟨ad9, c9, rfl, hle9, rfl⟩
 have hl9 := Zdj x.num y.num
 refine yf [_] rfl rfl call96 (Zj3 _ _ _ _ x oo) ?_; rintro v11 Ψ11 ⟨ad11, c11, rfl, hle11, rfl⟩
 refine yf [_] rfl rfl call96 (Zj3 _ _ _ _ y oo) ?_; rintro v13 Ψ13 ⟨ad13, c13, rfl, hle13, rfl⟩
 refine yf [_, _] rfl rfl call101 (Zpf _ _ _ _ x.den y.den oo oo) ?_; rintro v14 Ψ14 ⟨ad14, c14, rfl, hle14, rfl⟩
 have hl14 := Gl x.den y.den
 refine yf [_, _] rfl rfl call99 (Zrl _ _ _ _ (x.num * y.num) (x.den * y.den) (Nat.mul_ne_zero oo oo) oo oo hle9 hle14) ?_; rintro v15 Ψ15 ⟨ad15, c15, bd15, d15, rfl, hle15, hlf15, rfl⟩
 refine yt rfl rfl rfl Qs uu sizeOf72 rfl nb rfl ?_
 refine yn (zt ?_); intro a w h
 refine Jm (Ψ := [Row ad15 (List.map Qh (dg (mkRat (x.num * y.num) (x.den * y.den)).num.natAbs)), Row bd15 (List.map Qh (dg ((mkRat (x.num * y.num) (x.den * y.den)).den - 1)))]) h (Ze h rfl (.cell rfl mr isAgg72 sizeOf72 Zt)) ?_ ss
 rw [Rat.mul_def']; exact ⟨ad15, c15, bd15, d15, rfl, hle15, hlf15, rfl⟩
theorem C_fInv (ad b1 : Option Addr) (c d1 : Nat) (y : Rat) (hy : y ≠ 0) (h1 : (dg y.den).length ≤ 300000000000) (h2 : (dg y.num.natAbs).length ≤ 300000000000) (hc1 : (dg y.den).length ≤ c) (hc2 : (dg y.num.natAbs).length ≤ d1) :
  Ctr Tryz.prog 99 [.agg #[.bool (decide (sgZ (decide (y.num < 0)) y.den < 0)), .slice ad (dg y.den).length c], .slice b1 (dg y.num.natAbs).length d1] [Row ad (List.map Qh (dg y.den)), Row b1 (List.map Qh (dg y.num.natAbs))] (PostF y⁻¹) := by
 have h0 : y.num.natAbs ≠ 0 := fun h => hy (Rat.num_eq_zero.1 (Int.natAbs_eq_zero.1 h))
 have e := Zcj (decide (y.num < 0)) y.den
 have h := Zrl ad b1 c d1 (sgZ (decide (y.num < 0)) y.den) y.num.natAbs h0 (by rw [e]; exact h1) h2 (by rw [e]; exact hc1) hc2
 rw [← Zp3, Zgn y hy, Zp3] at h
 unfold zV at h
 rw [e] at h
 exact h
theorem Ztp (a1 p1 a2 p2 : Option Addr) (c1 q1 c2 q2 : Nat) (x y : Rat) (hx : Qa x ≤ 10000000000) (hy : Qa y ≤ 10000000000) (hc : (dg y.num.natAbs).length ≤ q1) : Ctr Tryz.prog 97 [fV x a1 c1 a2 c2, fV y p1 q1 p2 q2] [Row a1 (List.map Qh (dg x.num.natAbs)), Row a2 (List.map Qh (dg (x.den - 1))), Row p1 (List.map Qh (dg y.num.natAbs)), Row p2 (List.map Qh (dg (y.den - 1)))] (PostF (x / y)) := by
 obtain ⟨hy1, hy2, hy3⟩ := dgQ hy
 have hi := Zsq y
 refine fn_intro func97 rfl ntmps97 nb ?_
 intro S w0 a hS h
 refine gC h (zS (zx rfl fun b2 => zx rfl fun b3 => zz zeroValue72 fun b4 => zn (zs (zS (zd rfl mr isAgg72 sizeOf72 Zt ?_)))))
 refine zv [_] rfl call98 (Zhk y _ _ _ _) (zp (.eql rfl rfl) (zn ?_)); intro a w h
 refine cW ?_
 refine Zb h rfl (fun hc7 => ?_) (fun hc7 => ?_)
 ·
  skip
  have hz : y = 0 := Rat.num_eq_zero.1 (Int.sign_eq_zero_iff_zero.1 (eq_of_beq hc7))
  refine gC h (zS (zp (.build [] rfl (Qe2)) (zt' rfl rfl Qs uu sizeOf72 rfl nb rfl ?_))); clear h; intro a w h
  refine wpList_nil (wp_ret ?_)
  replace h := h.derive (R := Row none []) (fun X hX hne => absurd rfl hne)
  have e1 : PostF (x / y) (.agg #[.bool false, .slice none 0 0, .slice none 0 0]) [Row none [], Row none []] := by
   subst hz; rw [Rat.div_def, Rat.inv_zero, Rat.mul_zero]
   exact ⟨none, 0, none, 0, by unfold fV; rw [show (0 : Rat).num = 0 from rfl, show (0 : Rat).den - 1 = 0 from rfl, show (0 : Int).natAbs = 0 from rfl, Xk]; rfl, by rw [show (0 : Rat).num = 0 from rfl, show (0 : Int).natAbs = 0 from rfl, Xk]; exact Nat.le_refl _, by rw [show (0 : Rat).den - 1 = 0 from rfl, Xk]; exact Nat.le_refl _, by rw [show (0 : Rat).num = 0 from rfl, show (0 : Rat).den - 1 = 0 from rfl, show (0 : Int).natAbs = 0 from rfl, Xk]; rfl⟩
  exact Jm h (Ze h rfl (.cell rfl mr isAgg72 sizeOf72 Zt)) e1 ss
 ·
  skip
  have hz : y ≠ 0 := fun e => by subst e; exact absurd hc7 dd
  refine gC h (zk (zs (yD Za [0, 1, 2, 3, 4, 7, 8, 9, 5, 6, 10, 11, 12] (Zc kk) (yd rfl rfl mr isAgg72 sizeOf72 Zt ?_)))); clear h
  refine yp rfl (.fA rfl Zcm) (yp rfl (.fA rfl Za0) (yd rfl rfl mr isAgg4 sizeOf4 rs_3_0 ?_))
  refine yd rfl rfl mr isAgg72 sizeOf72 Zt ?_
  refine yp rfl (.fA rfl Zcm) (yp rfl (.fA rfl Kd) (yd rfl rfl mr isAgg68 sizeOf68 rs_3_1 ?_))
  refine yf [_] rfl rfl call96 (Zj3 _ _ _ _ y oo) ?_; rintro v14 Ψ14 ⟨ad14, c14, rfl, hle14, rfl⟩
  refine yv [_, _] rfl rfl call113 (Zcn (decide (y.num < 0)) ad14 c14 y.den) (yf [_, _] rfl rfl call99 (C_fInv _ _ _ _ y hz oo oo oo hc) ?_); rintro v19 Ψ19 ⟨ad19, c19, bd19, d19, rfl, hle19, hlf19, rfl⟩
  refine yf [_, _] rfl rfl call58 (Zgu _ _ _ _ _ _ _ _ x (y⁻¹) oo oo) ?_; rintro v20 Ψ20 ⟨ad20, c20, bd20, d20, rfl, hle20, hlf20, rfl⟩
  have hl20 := Zx x (y⁻¹)
  refine yt rfl rfl rfl Qs uu sizeOf72 rfl nb rfl ?_
  refine yn (zt ?_); intro a w h
  refine Jm (Ψ := [Row ad20 (List.map Qh (dg (x * y⁻¹).num.natAbs)), Row bd20 (List.map Qh (dg ((x * y⁻¹).den - 1)))]) h (Ze h rfl (.cell rfl mr isAgg72 sizeOf72 Zt)) ?_ ss
  rw [Rat.div_def]; exact ⟨ad20, c20, bd20, d20, rfl, hle20, hlf20, rfl⟩
theorem Qb7 (n m : Int) (h0 : -9223372036854775808 ≤ n) (h1 : n ≤ 9223372036854775807) (h2 : -9223372036854775808 ≤ m) (h3 : m ≤ 9223372036854775807) : Ctr Tryz.prog 56 [.int .i64 n, .int .i64 m] [] (PostF (((n : Int) : Rat) / ((m : Int) : Rat))) := by
 refine fn_intro func56 rfl ntmps56 nb ?_
 intro S w0 a hS h
 refine gC h (zS (zz zeroValue72 fun b4 => zn (zS (zm rfl (zf [_] rfl call34 (Zhz n oo oo) ?_))))); rintro v6 Ψ6 ⟨ad6, c6, bd6, d6, rfl, hle6, hlf6, rfl⟩
 have hl6 := Qo n oo oo
 refine zm rfl (zf [_] rfl call34 (Zhz m oo oo) ?_); rintro v8 Ψ8 ⟨ad8, c8, bd8, d8, rfl, hle8, hlf8, rfl⟩
 have hl8 := Qo m oo oo
 refine zf [_, _] rfl call97 (Ztp _ _ _ _ _ _ _ _ (((n : Int) : Rat)) (((m : Int) : Rat)) oo oo (by first | assumption | omega)) ?_; rintro v9 Ψ9 ⟨ad9, c9, bd9, d9, rfl, hle9, hlf9, rfl⟩
 have hl9 := Zcd (((n : Int) : Rat)) (((m : Int) : Rat))
 refine zt' rfl rfl Qs uu sizeOf72 rfl nb rfl ?_; intro a w h
 refine wpList_nil (wp_ret ?_)
 refine Jm (Ψ := [Row ad9 (List.map Qh (dg (((n : Int) : Rat) / ((m : Int) : Rat)).num.natAbs)), Row bd9 (List.map Qh (dg ((((n : Int) : Rat) / ((m : Int) : Rat)).den - 1)))]) h (Ze h rfl (.cell rfl mr isAgg72 sizeOf72 Zt)) ?_ ss
 exact ⟨ad9, c9, bd9, d9, rfl, hle9, hlf9, rfl⟩
theorem C_fCmp (a1 p1 a2 p2 : Option Addr) (c1 q1 c2 q2 : Nat) (x y : Rat) (hx : Qa x ≤ 4000000000) (hy : Qa y ≤ 4000000000) : Ge Tryz.prog 115 [fV x a1 c1 a2 c2, fV y p1 q1 p2 q2] [Row a1 (List.map Qh (dg x.num.natAbs)), Row a2 (List.map Qh (dg (x.den - 1))), Row p1 (List.map Qh (dg y.num.natAbs)), Row p2 (List.map Qh (dg (y.den - 1)))] (.int .i64 (x - y).num.sign) := by
 refine fn_intro func115 rfl ntmps115 nb ?_
 intro S w0 a hS h
 refine gC h (zS (zx rfl fun b2 => zx rfl fun b3 => za rfl (zn (zS (zd rfl mr isAgg72 sizeOf72 Zt ?_)))))
 refine zd rfl mr isAgg72 sizeOf72 Zt ?_
 refine zf [_, _] rfl call33 (Zto _ _ _ _ _ _ _ _ x y oo oo) ?_; rintro v7 Ψ7 ⟨ad7, c7, bd7, d7, rfl, hle7, hlf7, rfl⟩
 have hl7 := Xu x y
 refine zv [_] rfl call98 (Zhk (x - y) _ _ _ _) (za rfl (zn (zt ?_))); intro a w h
 exact Zag h
theorem Qfl (a1 p1 a2 p2 : Option Addr) (c1 q1 c2 q2 : Nat) (x y : Rat) (hx : Qa x ≤ 4000000000) (hy : Qa y ≤ 4000000000) : Ge Tryz.prog 79 [fV x a1 c1 a2 c2, fV y p1 q1 p2 q2] [Row a1 (List.map Qh (dg x.num.natAbs)), Row a2 (List.map Qh (dg (x.den - 1))), Row p1 (List.map Qh (dg y.num.natAbs)), Row p2 (List.map Qh (dg (y.den - 1)))] (.bool (decide (x = y))) := by
 refine fn_intro func79 rfl ntmps79 nb ?_
 intro S w0 a hS h
 refine gC h (zS (zx rfl fun b2 => zx rfl fun b3 => za rfl (zn (zS (zd rfl mr isAgg72 sizeOf72 Zt ?_)))))
 refine zd rfl mr isAgg72 sizeOf72 Zt ?_
 refine zw [_, _] rfl call115 (C_fCmp _ _ _ _ _ _ _ _ x y oo oo) (zp (.eql rfl rfl) (za rfl (zn (zt ?_)))); intro a w h
 refine Jr h (Ze h rfl (.tmp rfl)) ?_
 have e : ((x - y).num.sign == 0) = decide (x = y) := by
  by_cases hxy : x = y
  · subst hxy; rw [Rat.sub_self]; simp
  ·
   rw [decide_eq_false hxy]; refine beq_eq_false_iff_ne.2 (fun hs => hxy ?_)
   have h3 : x - y = 0 := Rat.num_eq_zero.1 (Int.sign_eq_zero_iff_zero.1 hs)
   have h4 := congrArg (· + y) h3
   simpa [Rat.sub_add_cancel, Rat.zero_add] using h4
 rw [e]
end
section
theorem Zs9 (x : Int) (w : World) : (Go.convert 3 5 (.int .i64 x)).run Tryz.prog w = .ok (.int .u8 (IntKind.u8.wrap x)) w := by
 simp [go_sem]
theorem Zya (x : Int) (h0 : IntKind.u8.wrap x = x) (w : World) : (Go.convert 3 5 (.int .i64 x)).run Tryz.prog w = .ok (.int .u8 x) w := by
 rw [Zs9, h0]
theorem Qcw : ∀ (n i : Nat), (dg n).getD i 0 = n / 10000 ^ i % 10000 := by
 intro n
 induction n using Nat.strongRecOn with
 | _ n ih =>
  intro i
  by_cases h : n = 0
  · subst h; rw [Xk]; simp
  ·
   rw [Zjh h]
   cases i with
   | zero => simp
   | succ i => rw [List.getD_cons_succ, ih (n / 10000) oo, Nat.div_div_eq_div_mul, Nat.pow_succ, Nat.mul_comm]
theorem Zh9 (n : Nat) : n < 10000 ^ (dg n).length := by have := Zc3 (Dd.dg n); rwa [Yl] at this
def rS (n i : Nat) : ByteArray := if i = (dg n).length then dB n else Zz1 n (4 * i)
theorem Zr7 (n i k : Nat) (hk : k < 4) : (dg n).getD i 0 / 10 ^ k % 10 = n / 10 ^ (4 * i + k) % 10 := by
 have h1 : (dg n).getD i 0 = n / 10 ^ (4 * i) % 10000 := by rw [Qcw, show 10000 ^ i = 10 ^ (4 * i) from by rw [Nat.pow_mul]]
 have e : n / 10 ^ (4 * i + k) = n / 10 ^ (4 * i) / 10 ^ k := by rw [Nat.div_div_eq_div_mul, ← Nat.pow_add]
 rw [h1, e]
 generalize n / 10 ^ (4 * i) = m
 match k, hk with
 | 0, _ => simp only [Nat.pow_zero, Nat.div_one]; omega
 | 1, _ => simp only [Nat.pow_one]; omega
 | 2, _ => rw [show (10 : Nat) ^ 2 = 100 from rfl]; omega
 | 3, _ => rw [show (10 : Nat) ^ 3 = 1000 from rfl]; omega
theorem Qcl {n i k : Nat} (hi : i < (dg n).length) (hk : k ≤ 4) (hp : i + 1 = (dg n).length → k = 0 ∨ 0 < (dg n).getD i 0 / 10 ^ (k - 1))
  (he : 4 ≤ k ∨ ((dg n).length ≤ i + 1 ∧ (dg n).getD i 0 / 10 ^ k = 0)) : Zz1 n (4 * i + k) = rS n (i + 1) := by
 by_cases hl : i + 1 = (dg n).length
 ·
  rw [rS, if_pos hl]
  have hb := Zh9 n
  rw [← hl, show (10000 : Nat) = 10 ^ 4 from rfl, ← Nat.pow_mul] at hb
  have hd : (dg n).getD i 0 = n / 10 ^ (4 * i) := by
   rw [Qcw, show (10000 : Nat) = 10 ^ 4 from rfl, ← Nat.pow_mul]
   refine Nat.mod_eq_of_lt ((Nat.div_lt_iff_lt_mul (Nat.pow_pos dd)).2 ?_)
   rw [← Nat.pow_add, show 4 + 4 * i = 4 * (i + 1) by omega]; exact hb
  have hne : (dg n).getD i 0 ≠ 0 := by
   have hne' : dg n ≠ [] := fun e => by rw [e] at hi; cases hi
   have h1 := Zme n hne'
   rw [List.getLast_eq_getElem] at h1
   rw [List.getD_eq_getElem?_getD, List.getElem?_eq_getElem hi]
   simpa [show (dg n).length - 1 = i by omega] using h1
  have hdl : (dg n).getD i 0 < 10000 := (Dd.dg n).getD i
  have hz : (dg n).getD i 0 / 10 ^ k = 0 := by
   rcases he with he | he
   · rw [show k = 4 by omega]; exact Nat.div_eq_of_lt hdl
   · exact he.2
  have hk0 : k ≠ 0 := by intro e; subst e; rw [Nat.pow_zero, Nat.div_one] at hz; exact hne hz
  obtain ⟨k', rfl⟩ : ∃ k', k = k' + 1 := ⟨k - 1, oo⟩
  have hp' := (hp hl).resolve_left hk0
  rw [Nat.add_sub_cancel, hd, Nat.div_div_eq_div_mul, ← Nat.pow_add] at hp'
  rw [hd, Nat.div_div_eq_div_mul, ← Nat.pow_add] at hz
  have hlo : 10 ^ (4 * i + k') ≤ n := by
   rcases Nat.lt_or_ge n (10 ^ (4 * i + k')) with h | h
   · rw [Nat.div_eq_of_lt h] at hp'; omega
   · exact h
  have hhi : n < 10 ^ (4 * i + k' + 1) := by
   rcases Nat.lt_or_ge n (10 ^ (4 * i + (k' + 1))) with h | h
   · exact h
   · have := Nat.div_pos h (Nat.pow_pos dd); omega
  unfold Zz1 dB
  rw [Zmg, Lib.nDigits_unique _ _ hlo hhi]
  rfl
 ·
  rw [rS, if_neg hl, show k = 4 by rcases he with he | he <;> omega]
  rfl
theorem Qeu : dB 0 = ⟨#[48]⟩ := by unfold dB; rw [Lib.decDigits_one dd]; rfl
theorem Zmh (n : Nat) : (dB n).size ≤ 4 * (dg n).length + 1 := by
 rw [Zx8]
 refine Zkq (Nat.lt_of_lt_of_le (Zh9 n) ?_)
 rw [show (10000 : Nat) = 10 ^ 4 from rfl, ← Nat.pow_mul, Nat.pow_succ]
 have := Nat.pow_pos (n := 4 * (dg n).length) (show 0 < 10 by decide)
 omega
theorem Zx9 (x : Nat) (hx : x < 128) (w : World) : (Go.convert 5 9 (.int .u8 (x : Int))).run Tryz.prog w = .ok (.string ⟨#[UInt8.ofNat x]⟩) w := by
 have h : ∀ x, x < 128 → Utf8.encode ((x : Nat) : Int) = ⟨#[UInt8.ofNat x]⟩ := by decide +kernel
 rw [run_convert_int_string w _ _ _ _ (by rw [underlying5]; rfl) underlying9, h x hx]
theorem Zmy (ad : Option Addr) (c n : Nat) (hn : (dg n).length ≤ 300000000000) : Ge Tryz.prog 95 [.slice ad (dg n).length c] [Row ad (List.map Qh (dg n))] (.string (dB n)) := by
 refine fn_intro func95 rfl ntmps95 nb ?_
 intro S w0 a hS h
 refine gC h (zS (za rfl (zn (zs (zS (zm rfl (zp (.builtin [_] rfl (Qj _ _ _)) (zp (.eql rfl rfl) (zn ?_))))))))); clear h; intro a w h
 refine cW ?_
 refine Zb h rfl (fun hc9 => ?_) (fun hc9 => ?_)
 ·
  skip
  have hz : (dg n).length = 0 := Znv hc9
  refine gC h (zS (za rfl (zn (zt ?_)))); clear h; intro a w h
  refine Jr h (Ze h rfl (.tmp rfl)) ?_
  rw [show n = 0 from by have := Zh9 n; rw [hz] at this; simpa using this, Qeu]
 ·
  skip
  have hz : (dg n).length ≠ 0 := Znu hc9
  refine gC h (zk (zS (za rfl (zn (zs (zS (za rfl (zn (zb ?_))))))))); clear h; intro a w h
  refine Zd (fun (i : Nat) a w => i ≤ (dg n).length ∧ St 45 S w0 [(0, .slice ad ((dg n).length) c), (2, .string (⟨#[]⟩)), (3, .string (rS n i)), (4, nI i)] [] [Row ad (List.map Qh (dg n))] a w) (fun i => (dg n).length - i) 0 (⟨Nat.zero_le _, by rw [show rS n 0 = ⟨#[]⟩ from if_neg oo]; exact (h).sub sA⟩) ?_; clear h
  rintro i a w ⟨hi_i, h⟩
  refine gC h (zs (zS (zm rfl (zm rfl (zp (.builtin [_] rfl (Qj _ _ _)) (zp (.lss rfl rfl) (zn ?_))))))); clear h; intro a w h
  refine cW ?_
  refine Zb h rfl (fun hc13 => ?_) (fun hc13 => ?_)
  ·
   skip
   have hlt_i : i < (dg n).length := dT hc13
   obtain ⟨B_ad, O_ad, rfl⟩ := h.row_addr (ad := ad) (M := List.map Qh (dg n)) mm nF
   rw [show rS n i = Zz1 n (4 * i) from if_neg oo] at h
   refine gC h (zk (zs (zb (zS (zm rfl (zm rfl (zp (.indexAddr rfl rfl (Zee _ _ _ _ _ oo)) (zD rfl mm (by rw [List.length_map]; omega) isAgg3 sizeOf3 (Zy (enc := Qh) (l := (dg n)) 0 oo) (.inr rfl) ?_))))))))
   refine za rfl (zn (zS (za rfl (zn (zb ?_))))); intro a w h
   rw [show ((dg n).getD i 0) = ((dg n).getD i 0) / 10 ^ 0 by rw [Nat.pow_zero, Nat.div_one]] at h
   refine Zd (fun (k : Nat) a w => (k ≤ 4 ∧ (i + 1 = (dg n).length → k = 0 ∨ 0 < ((dg n).getD i 0) / 10 ^ (k - 1))) ∧ St 45 S w0 [(0, .slice (some ⟨B_ad, O_ad, none⟩) ((dg n).length) c), (2, .string (⟨#[]⟩)), (3, .string (Zz1 n (4 * i + k))), (4, nI i), (5, nI (((dg n).getD i 0) / 10 ^ k)), (6, nI k)] [] [Row (some ⟨B_ad, O_ad, none⟩) (List.map Qh (dg n))] a w) (fun k => 4 - k) (0) (⟨⟨oo, fun _ => .inl rfl⟩, by exact h.sub sA⟩) ?_; clear h
   rintro k a w ⟨⟨hk, hp⟩, h⟩
   have hsz := Zw2 n (4 * i + k)
   have hdl : ((dg n).getD i 0) < 10000 := (Dd.dg n).getD i
   have hdk : ((dg n).getD i 0) / 10 ^ k ≤ ((dg n).getD i 0) := Nat.div_le_self _ _
   have hd0 : (0 : Int) ≤ ((((dg n).getD i 0) / 10 ^ k : Nat) : Int) := Int.natCast_nonneg _
   refine gC h (zs (zS (zm rfl (zp (.lss rfl rfl) (zm rfl ?_))))); clear h; intro a w h
   refine Zi h (fun hc22 h => ?_) (fun hc22 h => ?_)
   ·
    skip
    have hk4 : k < 4 := dT hc22
    refine gL h (zq 22 rfl rfl (.move rfl) (zq 22 rfl rfl (.pN (i + 1) (.add rfl rfl)) (zq 22 rfl rfl (.move rfl) (zq 22 rfl rfl (.builtin [_] rfl (Qj _ _ _)) (zq 22 rfl rfl (.lss rfl rfl) (zq 22 rfl rfl (.move rfl) ?_)))))); clear h; intro a w h
    refine Zi h (fun hc28 h => ?_) (fun hc28 h => ?_)
    ·
     skip
     have hmore : i + 1 < (dg n).length := dT hc28
     refine gL h (zo 28 rfl rfl rfl (zo 28 rfl rfl rfl (zq 22 rfl rfl (.pickT rfl rfl) (zp (.pickT rfl rfl) (zn ?_))))); clear h; intro a w h
     refine cW ?_
     refine Qf h rfl ?_
     refine gC h (zk (zs (zb (zS (zm rfl (zp (Pure1.cast (v' := .int .i64 ((n / 10 ^ (4 * i + k) % 10 : Nat) : Int)) (.binOp rfl rfl (fun _ => Vm _ _ _ _ _ dd)) (by rw [show (10 : Int) = ((10 : Nat) : Int) from rfl, Yi, Zr7 n i k hk4])) (zp (.pN (48 + n / 10 ^ (4 * i + k) % 10) (Pure1.cast (v' := (.int .i64 ((48 + (n / 10 ^ (4 * i + k) % 10) : Nat) : Int))) (.add rfl rfl) (by show Value.int _ _ = Value.int _ _; congr 1))) (zp (.convert rfl (Zya _ (wrap_u8 _ oo oo))) (zp (.convert rfl (Zx9 _ oo)) (zm rfl (zp (.binOp rfl rfl (fun _ => Vo _ _ _ _ _ (by rw [hsz, Zle]; omega))) (za rfl (zn (zr (zm rfl (zp (Pure1.cast (v' := .int .i64 ((((dg n).getD i 0) / 10 ^ (k + 1) : Nat) : Int)) (.binOp rfl rfl (fun _ => Vx _ _ _ _ _ dd)) (by rw [show (10 : Int) = ((10 : Nat) : Int) from rfl, Yn, wrap_i64 _ oo oo, Nat.div_div_eq_div_mul, ← Nat.pow_succ])) (za rfl (zn (zr (zm rfl (zp (.pN (k + 1) (.add rfl rfl)) (za rfl (zn ?_))))))))))))))))))))))); clear h; intro a w h
     rw [Zny] at h
     exact ⟨k + 1, ⟨⟨oo, fun _ => .inr (by first | assumption | omega)⟩, by exact h.sub sA⟩, oo⟩
    ·
     skip
     have hlast : (dg n).length ≤ i + 1 := dF hc28
     refine gL h (zq 28 rfl rfl (.move rfl) (zq 28 rfl rfl (.gtr rfl rfl) (zq 22 rfl rfl (.pickF rfl rfl) (zp (.pickT rfl rfl) (zn ?_))))); clear h; intro a w h
     refine cW ?_
     refine Zb h rfl (fun hc32 => ?_) (fun hc32 => ?_)
     ·
      skip
      have hpos : 0 < ((dg n).getD i 0) / 10 ^ k := dT hc32
      refine gC h (zk (zs (zb (zS (zm rfl (zp (Pure1.cast (v' := .int .i64 ((n / 10 ^ (4 * i + k) % 10 : Nat) : Int)) (.binOp rfl rfl (fun _ => Vm _ _ _ _ _ dd)) (by rw [show (10 : Int) = ((10 : Nat) : Int) from rfl, Yi, Zr7 n i k hk4])) (zp (.pN (48 + n / 10 ^ (4 * i + k) % 10) (Pure1.cast (v' := (.int .i64 ((48 + (n / 10 ^ (4 * i + k) % 10) : Nat) : Int))) (.add rfl rfl) (by show Value.int _ _ = Value.int _ _; congr 1))) (zp (.convert rfl (Zya _ (wrap_u8 _ oo oo))) (zp (.convert rfl (Zx9 _ oo)) (zm rfl (zp (.binOp rfl rfl (fun _ => Vo _ _ _ _ _ (by rw [hsz, Zle]; omega))) (za rfl (zn (zr (zm rfl (zp (Pure1.cast (v' := .int .i64 ((((dg n).getD i 0) / 10 ^ (k + 1) : Nat) : Int)) (.binOp rfl rfl (fun _ => Vx _ _ _ _ _ dd)) (by rw [show (10 : Int) = ((10 : Nat) : Int) from rfl, Yn, wrap_i64 _ oo oo, Nat.div_div_eq_div_mul, ← Nat.pow_succ])) (za rfl (zn (zr (zm rfl (zp (.pN (k + 1) (.add rfl rfl)) (za rfl (zn ?_))))))))))))))))))))))); clear h; intro a w h
      rw [Zny] at h
      exact ⟨k + 1, ⟨⟨oo, fun _ => .inr (by first | assumption | omega)⟩, by exact h.sub sA⟩, oo⟩
     ·
      skip
      have hex : 4 ≤ k ∨ ((dg n).length ≤ i + 1 ∧ ((dg n).getD i 0) / 10 ^ k = 0) := .inr ⟨hlast, by have := of_decide_eq_false hc32; omega⟩
      refine gC h (ze (zr (zm rfl (zp (.pN (i + 1) (.add rfl rfl)) (za rfl (zn ?_)))))); clear h; intro a w h
      rw [Qcl hlt_i hk hp hex] at h
      exact ⟨i + 1, ⟨oo, (h.factsSub (by simp)).sub sA⟩, oo⟩
   ·
    skip
    have hex : 4 ≤ k ∨ ((dg n).length ≤ i + 1 ∧ ((dg n).getD i 0) / 10 ^ k = 0) := .inl (dF hc22)
    refine gL h (zo 22 rfl rfl rfl (zo 22 rfl rfl rfl (zo 22 rfl rfl rfl (zo 22 rfl rfl rfl (zo 22 rfl rfl rfl (zo 22 rfl rfl rfl (zu 28 rfl rfl (zu 28 rfl rfl (zo 22 rfl rfl rfl (zp (.pickF rfl rfl) (zn ?_))))))))))); clear h; intro a w h
    refine cW ?_
    refine Zn h rfl ?_
    refine gC h (ze (zr (zm rfl (zp (.pN (i + 1) (.add rfl rfl)) (za rfl (zn ?_)))))); clear h; intro a w h
    rw [Qcl hlt_i hk hp hex] at h
    exact ⟨i + 1, ⟨oo, (h.factsSub (by simp)).sub sA⟩, oo⟩
  ·
   skip
   have heq_i : (dg n).length = i := dF hc13
   subst heq_i
   refine gC h (ze (zS (zm rfl (za rfl (zn (zt ?_)))))); clear h; intro a w h
   refine Jr h (Ze h rfl (.tmp rfl)) ?_
   exact congrArg _ (if_pos rfl)
theorem Ztj (ad : Option Addr) (c : Nat) (z : Int) (hn : (dg z.natAbs).length ≤ 300000000000) : Ge Tryz.prog 94 [zV z ad c] [Row ad (List.map Qh (dg z.natAbs))] (.string (Zzz z)) := by
 refine fn_intro func94 rfl ntmps94 nb ?_
 intro S w0 a hS h
 refine gC h (zS (zx rfl fun b1 => za rfl (zn (zs (zS (zp (.fA rfl Za0) (zd rfl mr isAgg4 sizeOf4 Ql ?_))))))); clear h; intro a w h
 refine wpList_nil ?_
 refine cW ?_
 refine Zb h rfl (fun hc4 => ?_) (fun hc4 => ?_)
 ·
  skip
  have hz : z < 0 := of_decide_eq_true hc4
  refine gC h (zS (zp (.fA rfl Kd) (zd rfl mr isAgg68 sizeOf68 Qi ?_)))
  refine zw [_] rfl call95 (Zmy _ _ z.natAbs oo) (zp (.binOp rfl rfl (fun _ => Vo _ _ _ _ _ (by have := Zmh z.natAbs; rw [Zle]; omega))) (za rfl (zn (zt ?_)))); intro a w h
  refine Jr h (Ze h rfl (.tmp rfl)) ?_
  exact congrArg _ (if_pos hz).symm
 ·
  skip
  have hz : ¬ z < 0 := of_decide_eq_false hc4
  refine gC h (zk (zS (zp (.fA rfl Kd) (zd rfl mr isAgg68 sizeOf68 Qi ?_))))
  refine zw [_] rfl call95 (Zmy _ _ z.natAbs oo) (za rfl (zn (zt ?_))); intro a w h
  refine Jr h (Ze h rfl (.tmp rfl)) ?_
  exact congrArg _ (if_neg hz).symm
theorem Qes {n : Nat} (h : (dg n).length = 0) : n = 0 := by have := Zh9 n; rw [h] at this; simpa using this
theorem Ztx (z : Int) : (Zzz z).size ≤ 4 * (dg z.natAbs).length + 2 := by
 unfold Zzz; have h1 := Zmh z.natAbs; have h2 := Zle 45
 split
 · rw [ByteArray.size_append]; omega
 · omega
theorem Qb2 (a1 a2 : Option Addr) (c1 c2 : Nat) (x : Rat) (hx : Qa x ≤ 100000000000) : Ge Tryz.prog 54 [fV x a1 c1 a2 c2] [Row a1 (List.map Qh (dg x.num.natAbs)), Row a2 (List.map Qh (dg (x.den - 1)))] (.string (txtQ x)) := by
 obtain ⟨hq1, hq2, hq3⟩ := dgQ hx
 have hs1 := Ztx x.num
 have hs2 := Zmh x.den
 have hs3 := Zle 47
 refine fn_intro func54 rfl ntmps54 nb ?_
 intro S w0 a hS h
 refine gC h (zS (zx rfl fun b1 => za rfl (zn (zs (zS (zp (.fA rfl Zq2) (zd rfl mr isAgg68 sizeOf68 Zb8 ?_)))))))
 refine zp (.builtin [_] rfl (Qj _ _ _)) (zp (.eql rfl rfl) (zn ?_)); intro a w h
 refine cW ?_
 refine Zb h rfl (fun hc6 => ?_) (fun hc6 => ?_)
 ·
  skip
  have hd : x.den = 1 := by have := Qes (Znv hc6); have := x.den_pos; omega
  refine gC h (zS (zp (.fA rfl Zcm) (zd rfl mr isAgg70 sizeOf70 Xg ?_)))
  refine zw [_] rfl call94 (Ztj _ _ x.num oo) (za rfl (zn (zt ?_))); intro a w h
  refine Jr h (Ze h rfl (.tmp rfl)) ?_
  exact congrArg _ (if_pos hd).symm
 ·
  skip
  have hd : ¬ x.den = 1 := fun e => Znu hc6 (by rw [e]; show (dg 0).length = 0; rw [Xk]; rfl)
  refine gC h (zk (zs (yD Za [0, 1, 4, 2, 3, 5, 6, 7, 8] (Zc kk) (yp rfl (.fA rfl Zcm) (yd rfl rfl mr isAgg70 sizeOf70 Xg ?_))))); clear h
  refine yd rfl rfl mr isAgg72 sizeOf72 Zt ?_
  refine yw [_] rfl rfl call94 (Ztj _ _ x.num oo) (yp rfl (.binOp rfl rfl (fun _ => Vo _ _ _ _ _ oo)) (yf [_] rfl rfl call96 (Zj3 _ _ _ _ x oo) ?_)); rintro v15 Ψ15 ⟨ad15, c15, rfl, hle15, rfl⟩
  refine yw [_] rfl rfl call95 (Zmy _ _ x.den oo) (yp rfl (.binOp rfl rfl (fun _ => Vo _ _ _ _ _ (by rw [ByteArray.size_append]; omega))) (yp rfl (.assign rfl) (yn (zt ?_)))); intro a w h
  refine Jr h (Ze h rfl (.tmp rfl)) ?_
  exact congrArg _ (if_neg hd).symm
theorem Qfp (a1 a2 : Option Addr) (c1 c2 : Nat) (x y : Rat) (hn : x.num.natAbs < 18446744073709551616) (hd : x.den < 18446744073709551616) (hy : Qa y ≤ 100000000000) (e : y = x) : Ge Tryz.prog 18 [Zv x, fV y a1 c1 a2 c2] [TabF, Row a1 (List.map Qh (dg y.num.natAbs)), Row a2 (List.map Qh (dg (y.den - 1)))] (.bool true) := by
 subst e
 refine fn_intro func18 rfl ntmps18 nb ?_
 intro S w0 a hS h
 refine gC h (zS (zx rfl fun b2 => zx rfl fun b3 => za rfl (zn (zs (yD Za [0, 2, 1, 3, 4, 5] (Zc kk) (yd rfl rfl mr isAgg64 sizeOf64 Zh ?_)))))); clear h
 refine yd rfl rfl mr isAgg72 sizeOf72 Zt ?_
 refine yw [_] rfl rfl call53 (Qcc y hn hd) (yw [_] rfl rfl call54 (Qb2 _ _ _ _ y oo) (yp rfl (.binOp rfl rfl (fun _ => Kj _ _ _ _ _)) (yp rfl (.assign rfl) (yn (zt ?_))))); intro a w h
 refine Jr h (Ze h rfl (.tmp rfl)) ?_
 exact congrArg Value.bool ss
end
section
theorem Zyo (x0_0 : Value) (x0_1 : Value) (x0_2 : Value) (w : World) : (Instr.buildSlice 75 1 [(0, .agg #[x0_0, x0_1, x0_2])].toArray).run Tryz.prog w = .ok (.slice (some ⟨w.heap.size, 0, none⟩) 1 1) (w.alloc (.cells #[x0_0, x0_1, x0_2] 78 (0, 0))) := by
 simp [go_sem]
theorem Zbl (w : World) : (zeroValue 72).run Tryz.prog w = .ok (fV 0 none 0 none 0) w := by
 have e : fV 0 none 0 none 0 = .agg #[.bool false, .slice none 0 0, .slice none 0 0] := by
  unfold fV; rw [show (0 : Rat).num = 0 from rfl, show (0 : Rat).den - 1 = 0 from rfl, show (0 : Int).natAbs = 0 from rfl, Xk]; rfl
 rw [e]; exact zeroValue72 w
theorem Zgj (n : Nat) (h : n ≤ 1000) : Qa (upQ 1 n) ≤ 2002 := by
 have h1 := Zg8 1 n oo; have h2 := Gd; omega
theorem Zxu : ((1 : Int) : Rat) = upQ 1 1 := by show (1 : Rat) = 1 * _; rw [Rat.one_mul]; rfl
theorem Zpv (q : Rat) : ∀ p, upQ q p = q * upQ 1 p
 | 0 => by show q = q * 1; rw [Rat.mul_one]
 | p + 1 => by rw [upQ, upQ, Zpv q p, Rat.mul_assoc]
theorem Zol (q : Rat) : ∀ n, Zh2 q n = q / upQ 1 n
 | 0 => by show q = q / 1; rw [Rat.div_def, show (1 : Rat)⁻¹ = 1 from by have := Rat.mul_inv_cancel 1 dd; rwa [Rat.one_mul] at this, Rat.mul_one]
 | n + 1 => by
  rw [Zh2, Zol q n, upQ]
  rw [Rat.div_def, Rat.div_def, Rat.div_def, Rat.inv_mul_rev, Rat.mul_assoc, Rat.mul_comm (upQ 1 n)⁻¹]
theorem Zt8 (i j k : Nat) : (((2 : Int) : Rat) * (upQ 1 i * upQ 1 j * upQ 1 k)) / upQ 1 (i + j + k + 2) = Jd i j k := by
 unfold Jd Zdt
 rw [Zol, List.foldl_cons, List.foldl_cons, List.foldl_cons, List.foldl_nil, Zpv (upQ (upQ 1 i) j) k, Zpv (upQ 1 i) j, Rat.div_def, Rat.div_def, Rat.mul_assoc]
theorem Qb6 (n : Nat) (hn : n ≤ 1000) : Ctr Tryz.prog 102 [.int .i64 ((n : Nat) : Int)] [] (PostF (upQ 1 n)) := by
 refine fn_intro func102 rfl ntmps102 nb ?_
 intro S w0 a hS h
 refine gC h (zS (zz Zbl fun b2 => zn (zS (zf [_] rfl call34 (Zhz 1 oo oo) ?_)))); rintro v5 Ψ5 ⟨ad5, c5, bd5, d5, rfl, hle5, hlf5, rfl⟩
 have hl5 := Qo 1 oo oo
 refine zz Zbl fun b3 => zt' rfl rfl Qs uu sizeOf72 rfl nb rfl ?_
 refine zn (zs (zS (za rfl (zn (zb ?_))))); intro a w h
 rw [Zxu] at h hle5 hlf5
 refine Zd (fun (j : Nat) a w => ∃ p1 p2 p3 p4, (j + 1 ≤ max n 1 ∧ (dg (upQ 1 (j + 1)).num.natAbs).length ≤ p2 ∧ (dg ((upQ 1 (j + 1)).den - 1)).length ≤ p4) ∧ St 16 S w0 [(0, nI n), (2, pB b2), (3, pB b3), (4, nI (j + 2))] [(b3, bV (.agg #[.bool (decide ((upQ 1 (j + 1)).num < 0)), .slice p1 (dg (upQ 1 (j + 1)).num.natAbs).length p2, .slice p3 (dg ((upQ 1 (j + 1)).den - 1)).length p4]) 72), (b2, bV (.agg #[.bool (decide ((0 : Rat).num < 0)), .slice none (dg (0 : Rat).num.natAbs).length 0, .slice none (dg ((0 : Rat).den - 1)).length 0]) 72)] [Row p1 (List.map Qh (dg (upQ 1 (j + 1)).num.natAbs)), Row p3 (List.map Qh (dg ((upQ 1 (j + 1)).den - 1)))] a w) (fun j => n - j) (0) (⟨ad5, c5, bd5, d5, ⟨oo, hle5, hlf5⟩, by exact (h.factsSub (by simp)).sub sA⟩) ?_; clear h
 rintro j a w ⟨p1, p2, p3, p4, ⟨hj, hp2, hp4⟩, h⟩
 have hup := Zgj (j + 1) oo
 refine gC h (zs (zS (zm rfl (zm rfl (zp (.leq rfl rfl) (zn ?_)))))); clear h; intro a w h
 refine cW ?_
 refine Zb h rfl (fun hc8 => ?_) (fun hc8 => ?_)
 ·
  skip
  have hr : j + 2 ≤ n := dT hc8
  refine gC h (zk (zs (zb (yD Za [0, 1, 2, 3, 4] (Zc kk) (yd rfl rfl mr isAgg72 sizeOf72 Zt ?_))))); clear h
  refine ym rfl rfl (yf [_] rfl rfl call34 (Zhz (((j + 2 : Nat) : Int)) oo oo) ?_); rintro v13 Ψ13 ⟨ad13, c13, bd13, d13, rfl, hle13, hlf13, rfl⟩
  have hl13 := Qo (((j + 2 : Nat) : Int)) oo oo
  refine yf [_, _] rfl rfl call58 (Zgu _ _ _ _ _ _ _ _ (upQ 1 (j + 1)) (((((j + 2 : Nat) : Int) : Int) : Rat)) oo oo) ?_; rintro v14 Ψ14 ⟨ad14, c14, bd14, d14, rfl, hle14, hlf14, rfl⟩
  have hl14 := Zx (upQ 1 (j + 1)) (((((j + 2 : Nat) : Int) : Int) : Rat))
  refine yt rfl rfl rfl Qs uu sizeOf72 rfl nb rfl ?_
  refine yn (zr (zm rfl (zp (.pN ((j + 2) + 1) (.add rfl rfl)) (za rfl (zn ?_))))); intro a w h
  rw [show upQ 1 (j + 1) * ((((j + 2 : Nat) : Int)) : Rat) = upQ 1 (j + 1 + 1) from rfl] at h hle14 hlf14
  exact ⟨j + 1, ⟨ad14, c14, bd14, d14, ⟨oo, hle14, hlf14⟩, by exact (h.factsSub (by simp)).sub sA⟩, oo⟩
 ·
  skip
  have hr : n < j + 2 := dF hc8
  refine gC h (ze (zS (zd rfl mr isAgg72 sizeOf72 Zt ?_)))
  refine zt' rfl rfl Qs uu sizeOf72 rfl nb rfl ?_; intro a w h
  refine wpList_nil (wp_ret ?_)
  refine Jm (Ψ := [Row p1 (List.map Qh (dg (upQ 1 (j + 1)).num.natAbs)), Row p3 (List.map Qh (dg ((upQ 1 (j + 1)).den - 1)))]) h (Ze h rfl (.cell rfl mr isAgg72 sizeOf72 Zt)) ?_ ss
  rw [show upQ 1 n = upQ 1 (j + 1) from by
   rcases Nat.eq_zero_or_pos n with h0 | h0
   · rw [h0, show j = 0 by omega]; exact Zxu
   · rw [show n = j + 1 by omega]]; exact ⟨p1, p2, p3, p4, rfl, hp2, hp4, rfl⟩
theorem Zpg (i j k : Nat) (hi : i ≤ 48) (hj : j ≤ 48) (hk : k ≤ 48) : Ctr Tryz.prog 59 [.int .i64 ((i : Nat) : Int), .int .i64 ((j : Nat) : Int), .int .i64 ((k : Nat) : Int)] [] (PostF (Jd i j k)) := by
 refine fn_intro func59 rfl ntmps59 nb ?_
 intro S w0 a hS h
 refine gC h (zS (zz Zbl fun b6 => zn (zs (zS (zm rfl (zp (.lss rfl rfl) ?_)))))); clear h; intro a w h
 refine Zi h (fun hc9 h => (by exfalso; have := of_decide_eq_true hc9; omega)) (fun hc9 h => ?_)
 refine gL h (zm rfl (zq 10 rfl rfl (.move rfl) (zq 10 rfl rfl (.lss rfl rfl) ?_))); clear h; intro a w h
 refine Zi h (fun hc12 h => (by exfalso; have := of_decide_eq_true hc12; omega)) (fun hc12 h => ?_)
 refine gL h (zp (.pickF rfl rfl) (zm rfl (zq 14 rfl rfl (.move rfl) (zq 14 rfl rfl (.lss rfl rfl) ?_)))); clear h; intro a w h
 refine Zi h (fun hc16 h => (by exfalso; have := of_decide_eq_true hc16; omega)) (fun hc16 h => ?_)
 refine gL h (zp (.pickF rfl rfl) (zm rfl (zq 18 rfl rfl (.move rfl) (zq 18 rfl rfl (.gtr rfl rfl) ?_)))); clear h; intro a w h
 refine Zi h (fun hc20 h => (by exfalso; have := of_decide_eq_true hc20; omega)) (fun hc20 h => ?_)
 refine gL h (zp (.pickF rfl rfl) (zm rfl (zq 22 rfl rfl (.move rfl) (zq 22 rfl rfl (.gtr rfl rfl) ?_)))); clear h; intro a w h
 refine Zi h (fun hc24 h => (by exfalso; have := of_decide_eq_true hc24; omega)) (fun hc24 h => ?_)
 refine gL h (zp (.pickF rfl rfl) (zm rfl (zq 26 rfl rfl (.move rfl) (zq 26 rfl rfl (.gtr rfl rfl) ?_)))); clear h; intro a w h
 refine Zi h (fun hc28 h => (by exfalso; have := of_decide_eq_true hc28; omega)) (fun hc28 h => ?_)
 refine gL h (zp (.pickF rfl rfl) (zn ?_)); clear h; intro a w h
 refine cW ?_
 refine Zn h rfl ?_
 refine gC h (zk (zS (zm rfl (zf [_] rfl call102 (Qb6 i oo) ?_)))); rintro v32 Ψ32 ⟨ad32, c32, bd32, d32, rfl, hle32, hlf32, rfl⟩
 have hl32 := Zgj i oo
 refine zm rfl (zf [_] rfl call102 (Qb6 j oo) ?_); rintro v34 Ψ34 ⟨ad34, c34, bd34, d34, rfl, hle34, hlf34, rfl⟩
 have hl34 := Zgj j oo
 refine zf [_, _] rfl call58 (Zgu _ _ _ _ _ _ _ _ (upQ 1 i) (upQ 1 j) oo oo) ?_; rintro v35 Ψ35 ⟨ad35, c35, bd35, d35, rfl, hle35, hlf35, rfl⟩
 have hl35 := Zx (upQ 1 i) (upQ 1 j)
 refine zm rfl (zf [_] rfl call102 (Qb6 k oo) ?_); rintro v37 Ψ37 ⟨ad37, c37, bd37, d37, rfl, hle37, hlf37, rfl⟩
 have hl37 := Zgj k oo
 refine zf [_, _] rfl call58 (Zgu _ _ _ _ _ _ _ _ ((upQ 1 i) * (upQ 1 j)) (upQ 1 k) oo oo) ?_; rintro v38 Ψ38 ⟨ad38, c38, bd38, d38, rfl, hle38, hlf38, rfl⟩
 have hl38 := Zx ((upQ 1 i) * (upQ 1 j)) (upQ 1 k)
 refine zz Zbl fun b7 => zt' rfl rfl Qs uu sizeOf72 rfl nb rfl ?_
 refine zn (zs (yD Za [1, 3, 4, 5, 6, 7, 8, 0, 2, 9, 10, 11] (Zc kk) (yd rfl rfl mr isAgg72 sizeOf72 Zt ?_)))
 refine ym rfl rfl (ym rfl rfl (yp rfl (.pN (i + j) (.add rfl rfl)) (ym rfl rfl (yp rfl (.pN ((i + j) + k) (.add rfl rfl)) (yp rfl (.pN (((i + j) + k) + 2) (.add rfl rfl)) (yf [_] rfl rfl call34 (Zhz 2 oo oo) ?_)))))); rintro v39 Ψ39 ⟨ad39, c39, bd39, d39, rfl, hle39, hlf39, rfl⟩
 have hl39 := Qo 2 oo oo
 refine yf [_, _] rfl rfl call58 (Zgu _ _ _ _ _ _ _ _ (((2 : Int) : Rat)) (((upQ 1 i) * (upQ 1 j)) * (upQ 1 k)) oo oo) ?_; rintro v41 Ψ41 ⟨ad41, c41, bd41, d41, rfl, hle41, hlf41, rfl⟩
 have hl41 := Zx (((2 : Int) : Rat)) (((upQ 1 i) * (upQ 1 j)) * (upQ 1 k))
 refine yf [_] rfl rfl call102 (Qb6 (((i + j) + k) + 2) oo) ?_; rintro v48 Ψ48 ⟨ad48, c48, bd48, d48, rfl, hle48, hlf48, rfl⟩
 have hl48 := Zgj (((i + j) + k) + 2) oo
 refine yf [_, _] rfl rfl call97 (Ztp _ _ _ _ _ _ _ _ ((((2 : Int) : Rat)) * (((upQ 1 i) * (upQ 1 j)) * (upQ 1 k))) (upQ 1 (((i + j) + k) + 2)) oo oo (by first | assumption | omega)) ?_; rintro v49 Ψ49 ⟨ad49, c49, bd49, d49, rfl, hle49, hlf49, rfl⟩
 have hl49 := Zcd ((((2 : Int) : Rat)) * (((upQ 1 i) * (upQ 1 j)) * (upQ 1 k))) (upQ 1 (((i + j) + k) + 2))
 refine yt rfl rfl rfl Qs uu sizeOf72 rfl nb rfl ?_
 refine yn (zt ?_); intro a w h
 refine Jm (Ψ := [Row ad49 (List.map Qh (dg (((((2 : Int) : Rat)) * (((upQ 1 i) * (upQ 1 j)) * (upQ 1 k))) / (upQ 1 (((i + j) + k) + 2))).num.natAbs)), Row bd49 (List.map Qh (dg ((((((2 : Int) : Rat)) * (((upQ 1 i) * (upQ 1 j)) * (upQ 1 k))) / (upQ 1 (((i + j) + k) + 2))).den - 1)))]) h (Ze h rfl (.cell rfl mr isAgg72 sizeOf72 Zt)) ?_ ss
 rw [← Zt8]; exact ⟨ad49, c49, bd49, d49, rfl, hle49, hlf49, rfl⟩
theorem Zzb (a1 a2 : Option Addr) (c1 c2 : Nat) (x : Rat) (n : Nat) (hx : Qa x ≤ 1000) (hn : n ≤ 12) : Ctr Tryz.prog 55 [fV x a1 c1 a2 c2, .int .i64 ((n : Nat) : Int)] [Row a1 (List.map Qh (dg x.num.natAbs)), Row a2 (List.map Qh (dg (x.den - 1)))] (PostF (x ^ n)) := by
 refine fn_intro func55 rfl ntmps55 nb ?_
 intro S w0 a hS h
 refine gC h (zS (zx rfl fun b2 => zz Zbl fun b4 => zn (zS (zf [_] rfl call34 (Zhz 1 oo oo) ?_)))); rintro v7 Ψ7 ⟨ad7, c7, bd7, d7, rfl, hle7, hlf7, rfl⟩
 have hl7 := Qo 1 oo oo
 refine zz Zbl fun b5 => zt' rfl rfl Qs uu sizeOf72 rfl nb rfl ?_
 refine zn (zs (zS (za rfl (zn (zb ?_))))); intro a w h
 rw [show ((1 : Int) : Rat) = x ^ 0 from (Rat.pow_zero x).symm] at h hle7 hlf7
 refine Zd (fun (i : Nat) a w => i ≤ n ∧ ∃ p1 p2 p3 p4, ((dg (x ^ i).num.natAbs).length ≤ p2 ∧ (dg ((x ^ i).den - 1)).length ≤ p4) ∧ St 17 S w0 [(1, nI n), (2, pB b2), (4, pB b4), (5, pB b5), (6, nI i)] [(b5, bV (.agg #[.bool (decide ((x ^ i).num < 0)), .slice p1 (dg (x ^ i).num.natAbs).length p2, .slice p3 (dg ((x ^ i).den - 1)).length p4]) 72), (b4, bV (.agg #[.bool (decide ((0 : Rat).num < 0)), .slice none (dg (0 : Rat).num.natAbs).length 0, .slice none (dg ((0 : Rat).den - 1)).length 0]) 72), (b2, bV (.agg #[.bool (decide (x.num < 0)), .slice a1 (dg x.num.natAbs).length c1, .slice a2 (dg (x.den - 1)).length c2]) 72)] [Row p1 (List.map Qh (dg (x ^ i).num.natAbs)), Row p3 (List.map Qh (dg ((x ^ i).den - 1))), Row a1 (List.map Qh (dg x.num.natAbs)), Row a2 (List.map Qh (dg (x.den - 1)))] a w) (fun i => n - i) 0 (⟨Nat.zero_le _, ad7, c7, bd7, d7, ⟨hle7, hlf7⟩, by exact (h.factsSub (by simp)).sub (Zdz ⟨rfl, rfl, rfl, rfl, rfl, trivial⟩)⟩) ?_; clear h
 rintro i a w ⟨hi_i, p1, p2, p3, p4, ⟨hp2, hp4⟩, h⟩
 refine gC h (zs (zS (zm rfl (zm rfl (zp (.lss rfl rfl) (zn ?_)))))); clear h; intro a w h
 refine cW ?_
 refine Zb h rfl (fun hc10 => ?_) (fun hc10 => ?_)
 ·
  skip
  have hlt_i : i < n := dT hc10
  have hpw := Xo x i 1000 12 hx oo
  refine gC h (zk (zs (zb (zr (zd rfl mr isAgg72 sizeOf72 Zt ?_)))))
  refine zd rfl mr isAgg72 sizeOf72 Zt ?_
  refine zf [_, _] rfl call58 (Zgu _ _ _ _ _ _ _ _ (x ^ i) x oo oo) ?_; rintro v15 Ψ15 ⟨ad15, c15, bd15, d15, rfl, hle15, hlf15, rfl⟩
  have hl15 := Zx (x ^ i) x
  refine zt' rfl rfl Qs uu sizeOf72 rfl nb rfl ?_; intro a w h
  refine gL h (zn (zr (zm rfl (zp (.pN (i + 1) (.add rfl rfl)) (za rfl (zn ?_)))))); clear h; intro a w h
  rw [← Rat.pow_succ] at h hle15 hlf15
  exact ⟨i + 1, ⟨oo, ad15, c15, bd15, d15, ⟨hle15, hlf15⟩, by exact (h.factsSub (by simp)).sub sA⟩, oo⟩
 ·
  skip
  have heq_i : n = i := dF hc10
  subst heq_i
  refine gC h (ze (zS (zd rfl mr isAgg72 sizeOf72 Zt ?_)))
  refine zt' rfl rfl Qs uu sizeOf72 rfl nb rfl ?_; intro a w h
  refine wpList_nil (wp_ret ?_)
  refine Jm (Ψ := [Row p1 (List.map Qh (dg (x ^ n).num.natAbs)), Row p3 (List.map Qh (dg ((x ^ n).den - 1)))]) h (Ze h rfl (.cell rfl mr isAgg72 sizeOf72 Zt)) ?_ ss
  exact ⟨p1, p2, p3, p4, rfl, hp2, hp4, rfl⟩
abbrev Zuu (p : Nat × Nat × Nat) : Value := .agg #[.int .i64 (p.1 : Int), .int .i64 (p.2.1 : Int), .int .i64 (p.2.2 : Int)]
def pjL (n s : Nat) : Nat → List (Nat × Nat × Nat)
 | 0 => []
 | t + 1 => pjL n s t ++ [(n - s, s - t, t)]
def poL (n : Nat) : Nat → List (Nat × Nat × Nat)
 | 0 => []
 | s + 1 => poL n s ++ pjL n s (s + 1)
def Qg (n : Nat) : List (Nat × Nat × Nat) := poL n (n + 1)
theorem Zqa (n s : Nat) : ∀ t, (pjL n s t).length = t
 | 0 => rfl
 | t + 1 => by rw [pjL, List.length_append, Zqa n s t]; rfl
theorem Zp9 (n : Nat) : ∀ s, s ≤ 14 → (poL n s).length ≤ 14 * s
 | 0, _ => Nat.le_refl _
 | s + 1, h => by rw [poL, List.length_append, Zqa]; have := Zp9 n s oo; omega
def Qfc (n : Nat) (v : Value) (Ψ : List Qn) : Prop := ∃ ad c, v = .slice ad (Qg n).length c ∧ Ψ = [Row ad (cellsOf Zuu (Qg n))]
theorem Zid (n : Nat) (hn : n ≤ 12) : Ctr Tryz.prog 20 [.int .i64 ((n : Nat) : Int)] [] (Qfc n) := by
 refine fn_intro func20 rfl ntmps20 nb ?_
 intro S w0 a hS h
 refine gC h (zS (za rfl (zn (zS (za rfl (zn (zs (zS (zp (Pure1.cast (v' := .int .i64 (((n : Nat) : Int) - ((0 : Nat) : Int))) (.move rfl) (by show Value.int _ _ = Value.int _ _; congr 1 <;> omega)) (za rfl (zn (zb ?_)))))))))))); clear h; intro a w h
 refine Zd (fun (s : Nat) a w => ∃ ad c o, (s ≤ n + 1 ∧ GrowO 3 78 (.slice ad (poL n s).length c) (poL n s).length (cellsOf Zuu (poL n s)) o) ∧ St 30 S w0 [(0, nI n), (3, (.slice ad (poL n s).length c)), (4, .int .i64 (((n : Nat) : Int) - ((s : Nat) : Int)))] (o ++ []) [] a w) (fun s => n + 1 - s) (0) (⟨none, 0, [], ⟨oo, GrowO.nil _ _⟩, by exact h.sub sA⟩) ?_; clear h
 rintro s a w ⟨ad, c, o, ⟨hs, hG⟩, h⟩
 have hol := Zp9 n s oo
 refine gC h (zs (zS (zm rfl (zp (.geq rfl rfl) (zn ?_))))); clear h; intro a w h
 refine cW ?_
 refine Zb h rfl (fun hc8 => ?_) (fun hc8 => ?_)
 ·
  skip
  have hr : s ≤ n := dT hc8
  refine gC h (zk (zs (zb (zS (zm rfl (zp (.pQ (n - s) (.move rfl)) (zp (Pure1.cast (v' := .int .i64 (((s : Nat) : Int) - ((0 : Nat) : Int))) (.sub rfl rfl) (by show Value.int _ _ = Value.int _ _; congr 1 <;> omega)) (za rfl (zn (zb ?_)))))))))); clear h; intro a w h
  rw [show poL n s = poL n s ++ pjL n s 0 from (List.append_nil _).symm] at h hG
  refine Zd (fun (t : Nat) a w => ∃ ad c o, (t ≤ s + 1 ∧ GrowO 3 78 (.slice ad (poL n s ++ pjL n s t).length c) (poL n s ++ pjL n s t).length (cellsOf Zuu (poL n s ++ pjL n s t)) o) ∧ St 30 S w0 [(0, nI n), (3, (.slice ad (poL n s ++ pjL n s t).length c)), (4, .int .i64 (((n : Nat) : Int) - ((s : Nat) : Int))), (5, .int .i64 (((s : Nat) : Int) - ((t : Nat) : Int))), (13, .int .i64 ((((s : Nat) : Int) - ((0 : Nat) : Int))))] (o ++ []) [] a w) (fun t => s + 1 - t) (0) (⟨ad, c, o, ⟨oo, hG⟩, by exact h.sub sA⟩) ?_; clear h
  rintro t a w ⟨ad, c, o, ⟨ht, hG⟩, h⟩
  have hil : (poL n s ++ pjL n s t).length ≤ 14 * s + t := by rw [List.length_append, Zqa]; omega
  refine gC h (zs (zS (zm rfl (zp (.geq rfl rfl) (zn ?_))))); clear h; intro a w h
  refine cW ?_
  refine Zb h rfl (fun hc15 => ?_) (fun hc15 => ?_)
  ·
   skip
   have hr2 : t ≤ s := dT hc15
   refine gC h (zk (zs (zb (zr (zm rfl (zp (.pQ (n - s) (.move rfl)) (zp (.pQ (s - t) (.move rfl)) (zm rfl (zp (.pQ (n - s) (.move rfl)) (zp (.pQ s (.sub rfl rfl)) (zp (.pQ (s - t) (.move rfl)) (zp (.pQ t (.sub rfl rfl)) (zp (.build [(_, _), (_, _), (_, _)] rfl (Zjy _ _ _)) (zB [(_, _)] rfl (Zyo _ _ _) fun b27 => ?_)))))))))))))); clear h; intro a w h
   refine Zl (Xn (σr := []) h rfl rfl (List.Perm.trans (List.Perm.refl _) (List.Perm.cons _ (List.Perm.refl _))) hG runUnderlying75 runUnderlying75 typeInfo78 sizeOf78 zeroValue78 rfl dd dd rfl rfl dd (by show 24 * (2 * ((poL n s ++ pjL n s t).length + 1) + 192) ≤ 281474976710656; omega) dd ?_); clear h
   intro v28 o28 a w hG28 h
   obtain ⟨ad28, c28, rfl⟩ := hG28.is
   have hLn28 : (poL n s ++ pjL n s t).length + 1 = ((poL n s ++ pjL n s t) ++ [(n - s, s - t, t)]).length := lA
   rw [hLn28] at h hG28
   replace hG28 : GrowO 3 78 (.slice ad28 ((poL n s ++ pjL n s t) ++ [(n - s, s - t, t)]).length c28) ((poL n s ++ pjL n s t) ++ [(n - s, s - t, t)]).length (cellsOf Zuu ((poL n s ++ pjL n s t) ++ [(n - s, s - t, t)])) o28 := by rw [Zo, Qb]; exact hG28
   refine gL h (za rfl (zn (zr (zm rfl (zp (Pure1.cast (v' := .int .i64 (((s : Nat) : Int) - ((t + 1 : Nat) : Int))) (.sub rfl rfl) (by show Value.int _ _ = Value.int _ _; congr 1 <;> omega)) (za rfl (zn ?_))))))); clear h; intro a w h
   rw [show poL n s ++ pjL n s t ++ [(n - s, s - t, t)] = poL n s ++ pjL n s (t + 1) from by rw [pjL, List.append_assoc]] at h hG28
   exact ⟨t + 1, ⟨ad28, c28, o28, ⟨oo, hG28⟩, by exact h.sub sA⟩, oo⟩
  ·
   skip
   have hr2 : s < t := dF hc15
   refine gC h (ze (zr (zm rfl (zp (Pure1.cast (v' := .int .i64 (((n : Nat) : Int) - ((s + 1 : Nat) : Int))) (.sub rfl rfl) (by show Value.int _ _ = Value.int _ _; congr 1 <;> omega)) (za rfl (zn ?_)))))); clear h; intro a w h
   obtain rfl : t = s + 1 := oo
   rw [show poL n s ++ pjL n s (s + 1) = poL n (s + 1) from rfl] at h hG
   exact ⟨s + 1, ⟨ad, c, o, ⟨oo, hG⟩, by exact h.sub sA⟩, oo⟩
 ·
  skip
  obtain rfl : s = n + 1 := dF hc8
  refine gC h (ze (zS (zm rfl (za rfl (zn (zt ?_)))))); clear h; intro a w h
  exact Jm (Ψ := [Row ad (cellsOf Zuu (Qg n))]) (h.shareO' hS hG) (Ze h rfl (.tmp rfl)) ⟨ad, c, rfl, rfl⟩ (by simp [Qg])
end
end Go.Proofs.YtddhlkfpdjmplabGreatDoor
