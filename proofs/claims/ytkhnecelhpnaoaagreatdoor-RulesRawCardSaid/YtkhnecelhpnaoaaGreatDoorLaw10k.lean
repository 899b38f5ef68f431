/- Written by a program of ours (gen.py) out of short specifications. By an AI agent. -/
import Derived.Test.YtkhnecelhpnaoaaGreatDoorLaw10j
set_option linter.unusedVariables false
set_option linter.unusedSimpArgs false
set_option maxRecDepth 4000
namespace Go.Proofs.YtkhnecelhpnaoaaGreatDoor
open Go Go.Proofs Go.Fx
attribute [local irreducible] Oper.wp Code.wp wpList Fx.Head wpOp
theorem bd_71_1 (x1 : Option Addr) (x1n : Nat) (x1c : Nat) (w : World) : (Instr.build 71 [(1, .slice x1 x1n x1c)].toArray).run Tryz.prog w = .ok (.agg #[.slice none 0 0, .slice x1 x1n x1c]) w := by simp [go_sem]
theorem slo_56 (b off n c lo : Nat) (h1 : lo ≤ n) (w : World) : (Instr.sliceAt 56 (.slice (some ⟨b, off, none⟩) n c) (some (.int .i64 (lo : Int))) none none).run Tryz.prog w = .ok (.slice (some ⟨b, if c = lo then off else off + lo * 5, none⟩) (n - lo) (c - lo)) w := sliceAt_low Tryz.runUnderlying56 Tryz.sizeOf52 b off n c lo h1 w
theorem encP_size (p : Rat × Rat × Rat) : (encP p).cells.size = 15 := rfl
theorem cellsP_cut (p : Rat × Rat × Rat) : (encP p).cells.toList = [] ++ (encQ p.1).cells.toList ++ ((encQ p.2.1).cells.toList ++ (encQ p.2.2).cells.toList) := rfl
theorem rdP (q : List (Rat × Rat × Rat)) (R : List Value) (k : Nat) (h : k < q.length) : readAt true 5 (cellsOf encP q ++ R).toArray (0 + k * 15 + 0) = some (encQ (q.getD k (0, 0, 0)).1) := by
  have hg : q.getD k (0, 0, 0) = q[k] := by simp [List.getD, h]
  rw [hg, cells_cut q k h, cellsP_cut, Nat.zero_add, ← cells_take_len encP_size q k h, List.append_assoc]
  exact read_part _ [] _ (encQ q[k].1).cells.toList _ 5 rfl
theorem stP (q : List (Rat × Rat × Rat)) (R : List Value) (k : Nat) (h : k < q.length) (x : Rat) :
    setFrom (cellsOf encP q ++ R).toArray (0 + k * 15 + 0) (encQ x).cells.toList = (cellsOf encP (q.set k (x, (q.getD k (0, 0, 0)).2.1, (q.getD k (0, 0, 0)).2.2)) ++ R).toArray := by
  have hg : q.getD k (0, 0, 0) = q[k] := by simp [List.getD, h]
  rw [hg, cells_cut q k h, cells_cutset q k h, cellsP_cut, cellsP_cut, Nat.zero_add, ← cells_take_len encP_size q k h, List.append_assoc, List.append_assoc _ _ R]
  exact set_part _ [] _ (encQ q[k].1).cells.toList (encQ x).cells.toList _ rfl
theorem zero_enc : (.agg #[.int .u64 0, .string ⟨#[]⟩, .bool false, .int .u64 0, .string ⟨#[]⟩] : Value) = encQ 0 := rfl
theorem pre_get (xs R : List Value) (j : Nat) (hj : j < xs.length) : (xs ++ R).toArray[0 + j]? = xs[j]? := by
  rw [Nat.zero_add]; simp [List.getElem?_append_left hj]
theorem stP_le (q : List (Rat × Rat × Rat)) (R : List Value) (k : Nat) (h : k < q.length) : 0 + k * 15 + 0 + 5 ≤ (cellsOf encP q ++ R).toArray.size := by
  have := cells_leR (enc := encP) encP_size q R k h; omega
/-- A rule with one coordinate changed is not valid. -/
theorem raw_check {P : List (Rat × Rat × Rat)} {W : List Rat} {k : Nat} {b : Rat} (hc : checkI P W = 0) (hk : k < P.length) (hb : b ≠ 0) : checkI (P.set k ((P.getD k (0, 0, 0)).1 + b, (P.getD k (0, 0, 0)).2.1, (P.getD k (0, 0, 0)).2.2)) W = 1 := by
  obtain ⟨hle, hs⟩ := check_of hc
  have h0 := hs _ (getD_mem P (d := (0, 0, 0)) hk)
  unfold checkI
  rw [List.length_set, if_pos hle, if_neg]
  intro h
  have h1 := h ((P.getD k (0, 0, 0)).1 + b, (P.getD k (0, 0, 0)).2.1, (P.getD k (0, 0, 0)).2.2) (List.mem_set hk _)
  apply hb
  have e0 : 0 + (P.getD k (0, 0, 0)).1 + (P.getD k (0, 0, 0)).2.1 + (P.getD k (0, 0, 0)).2.2 = ((1 : Int) : Rat) := h0
  have e1 : 0 + ((P.getD k (0, 0, 0)).1 + b) + (P.getD k (0, 0, 0)).2.1 + (P.getD k (0, 0, 0)).2.2 = ((1 : Int) : Rat) := h1
  rw [← e0] at e1
  grind
theorem raw_K {P : List (Rat × Rat × Rat)} {k : Nat} {b : Rat} (hP : ∀ p ∈ P, lenQ p.1 ≤ 4 ∧ lenQ p.2.1 ≤ 1000 ∧ lenQ p.2.2 ≤ 1000) (hk : k < P.length) (hb : lenQ b ≤ 4) :
    ∀ p ∈ P.set k ((P.getD k (0, 0, 0)).1 + b, (P.getD k (0, 0, 0)).2.1, (P.getD k (0, 0, 0)).2.2), lenQ p.1 ≤ 1000 ∧ lenQ p.2.1 ≤ 1000 ∧ lenQ p.2.2 ≤ 1000 := fun p hp => by
  rcases List.mem_or_eq_of_mem_set hp with h | h
  · have := hP p h; exact ⟨by omega, this.2⟩
  · subst h
    have h1 := hP _ (getD_mem P (d := (0, 0, 0)) hk)
    have h2 := lenQ_add (P.getD k (0, 0, 0)).1 b
    exact ⟨by show lenQ ((P.getD k (0, 0, 0)).1 + b) ≤ 1000; omega, h1.2⟩
theorem madP4 {T : List (Int × Int)} (hok : ∀ q ∈ T, OkQ q) {n : Nat} (hn : 3 * n ≤ T.length) : ∀ p ∈ lstT (madP T) n, lenQ p.1 ≤ 4 ∧ lenQ p.2.1 ≤ 1000 ∧ lenQ p.2.2 ≤ 1000 := fun p hp => by
  have h1 := lenQ_madP hok hn p hp
  obtain ⟨j, hj, rfl⟩ := lstT_mem hp
  exact ⟨lenQ_qa hok (j := 3 * j + 0) (by omega), h1.2⟩

set_option maxHeartbeats 4000000 in
theorem C_RulesRaw (ww : List ((Int × Int) × (Int × Int) × (Int × Int))) (av : Int) (bq : Int × Int) (mo : Bool) (l : List Ti) (ad0 ad : Option Addr) (c0 c : Nat) (hokw : ∀ q ∈ flW ww, OkQ q) (hbq : OkQ bq) (hokl : ∀ t ∈ l, OkT t) (hwn : ww.length ≤ 9223372036854775807) (hln : l.length ≤ 9223372036854775807) (qx : (Int × Int) × (Int × Int)) (qy : (Int × Int) × (Int × Int)) (qz : (Int × Int) × (Int × Int)) (hqx : OkP qx) (hqy : OkP qy) (hqz : OkP qz) : CtrW Tryz.prog 4 [.slice ad0 ww.length c0, .int .i64 av, .agg #[.int .i64 bq.1, .int .u32 bq.2], .bool mo, .slice ad l.length c, encPQ qx, encPQ qy, encPQ qz] [Row ad0 (cellsOf encW ww), Row ad (cellsOf encTi l)] (.bool true) := by
  have hKa := ptv_K hqx
  have hKb := ptv_K hqy
  have hKc := ptv_K hqz
  obtain ⟨hb1, hb2, hb3, hb4⟩ := hbq
  refine fn_intro Tryz.func4 rfl Tryz.ntmps4 nb ?_
  intro S w0 a hS h
  rw [cells_flW ww] at h
  have hfl := flW_len ww
  refine gC h (zs (zr (zx rfl fun b10 => zx rfl fun b13 => zx rfl fun b14 => zx rfl fun b15 => za rfl (zn (zs (zs (zr (zm rfl (zp (.builtin [_] rfl (len_slice_40 _ _ _)) (zp (.gtr rfl rfl) ?_)))))))))); clear h; intro a w h
  refine by_bool h (fun hc29 h => ?_) (fun hc29 h => ?_)
  · skip
    refine gL h (zm rfl (zo 30 rfl rfl rfl (zo 30 rfl rfl rfl (zo 30 rfl rfl rfl (zp (.pickT rfl rfl) (zn ?_)))))); clear h; intro a w h
    change Code.wp _ _ _ _ _
    refine cond_true h rfl ?_
    refine gC h (zs (zr (zv [] rfl Tryz.call18 (C_works) (za rfl (zn (zt ?_)))))); clear h; intro a w h
    refine retV h (results1 h rfl (.tmp rfl)) ?_
    rfl
  · skip
    refine gL h (zm rfl (zq 30 rfl rfl (.move rfl) (zq 30 rfl rfl (.builtin [_] rfl (len_slice_31 _ _ _)) (zq 30 rfl rfl (.gtr rfl rfl) ?_)))); clear h; intro a w h
    refine by_bool h (fun hc33 h => ?_) (fun hc33 h => ?_)
    · skip
      refine gL h (zp (.pickF rfl rfl) (zn ?_)); clear h; intro a w h
      change Code.wp _ _ _ _ _
      refine cond_true h rfl ?_
      refine gC h (zs (zr (zv [] rfl Tryz.call18 (C_works) (za rfl (zn (zt ?_)))))); clear h; intro a w h
      refine retV h (results1 h rfl (.tmp rfl)) ?_
      rfl
    · skip
      have hwl : ww.length ≤ 5 := by have := of_decide_eq_false hc29; omega
      have hll : l.length ≤ 6 := by have := of_decide_eq_false hc33; omega
      have hgx := made_Pq (d := 3) hokl hll (by decide) (by decide)
      obtain ⟨P, hP⟩ : ∃ P, P = lstT (madP (flW ww)) ww.length := ⟨_, rfl⟩
      obtain ⟨W, hW⟩ : ∃ W, W = lstT (madW (flW ww)) ww.length := ⟨_, rfl⟩
      have hlP : P.length = ww.length := by rw [hP, lstT_len]
      have hlW : W.length = ww.length := by rw [hW, lstT_len]
      have hch : checkI P W = 0 := by rw [hP, hW]; exact mad_check _ _
      have hs4 : ∀ p ∈ P, lenQ p.1 ≤ 4 ∧ lenQ p.2.1 ≤ 1000 ∧ lenQ p.2.2 ≤ 1000 := by rw [hP]; exact madP4 hokw (by omega)
      refine gL h (zp (.pickF rfl rfl) (zn ?_)); clear h; intro a w h
      change Code.wp _ _ _ _ _
      refine cond_false h rfl ?_
      refine gC h (zk (zs (zr (zm rfl (zf [_, _] rfl Tryz.call19 (C_Made l _ _ 3 8 (by assumption) (by omega) (by omega)) ?_))))); clear h; rintro v37 Ψ37 ⟨ad37, c37, rfl, rfl⟩ a w h
      obtain ⟨G, hnG⟩ : ∃ G, norm (madeL 3 l) = G := ⟨_, rfl⟩
      rw [hnG] at h hgx
      refine gL h (za rfl (zn (zs (yD mixed_YtkhnecelhpnaoaaGreatDoor [0, 2, 4, 1, 3, 5, 6, 7, 8, 9, 10, 11] (floatsOK_of ⟨.inl rfl, .inl rfl, .inl rfl, .inl rfl, .inl rfl, .inl rfl, .inr ⟨18, 53, _, _, _, rfl, rfl, by decide, _, zeroPt⟩, .inr ⟨19, 53, _, _, _, rfl, rfl, by decide, _, zeroPt⟩, .inr ⟨20, 53, _, _, _, rfl, rfl, by decide, _, zeroPt⟩, .inl rfl, .inl rfl, .inl rfl, trivial⟩) (yd rfl rfl mr Tryz.isAgg27 Tryz.sizeOf27 (rd_4_0_4 _ _ _ _) ?_))))); clear h
      refine yd rfl rfl mr Tryz.isAgg27 Tryz.sizeOf27 (rd_4_0_4 _ _ _ _) ?_
      refine yd rfl rfl mr Tryz.isAgg27 Tryz.sizeOf27 (rd_4_0_4 _ _ _ _) ?_
      refine yv [_] rfl rfl Tryz.call20 (C_POf qx (by assumption)) (yv [_] rfl rfl Tryz.call20 (C_POf qy (by assumption)) (yv [_] rfl rfl Tryz.call20 (C_POf qz (by assumption)) (yz rfl zeroPt fun b18 => yz rfl zeroPt fun b19 => yz rfl zeroPt fun b20 => yt rfl rfl rfl (st_10_0_10 _ _ _ _ _ _ _ _ _ _ _ _ _ _ _ _ _ _ _ _) uu Tryz.sizeOf53 rfl nb rfl ?_)))
      refine yt rfl rfl rfl (st_10_0_10 _ _ _ _ _ _ _ _ _ _ _ _ _ _ _ _ _ _ _ _) uu Tryz.sizeOf53 rfl nb rfl ?_
      refine yt rfl rfl rfl (st_10_0_10 _ _ _ _ _ _ _ _ _ _ _ _ _ _ _ _ _ _ _ _) uu Tryz.sizeOf53 rfl nb rfl ?_
      refine yn (zs (zr (zm rfl ?_))); intro a w h
      refine wpl_plain (op_callM h hS (vs := [_]) rfl Tryz.call21 (C_madeM _ _ ww _ [Row ad37 (cellsOf encT G), Row ad (cellsOf encTi l)] hokw (by omega)) (List.Perm.refl _) (by simp) (by simp) ?_); clear h; rintro v45 σ45 Ψ45 a w ⟨ad45, c45, o45, bd45, d45, p45, rfl, hG45, hH45, rfl, rfl⟩ h
      rw [← hP] at h hG45
      rw [← hW] at h hH45
      replace h := St.shareO' (h.perm (List.perm_append_comm_assoc _ _ _)) hS hH45
      refine gL h (zz Tryz.zeroValue58 fun b21 => zt' rfl rfl (st_2_0_2 _ _ _ _) uu Tryz.sizeOf58 rfl nb (by show ((flat (.slice ad45 P.length c45) && (flat (.slice bd45 W.length d45) && true))) = true; simp only [GrowO.flat (hG45)]; rfl) ?_); clear h; intro a w h
      refine gL h (zn (zs (zs (zr (zm rfl (zp (.builtin [_] rfl (len_slice_40 _ _ _)) (zp (.gtr rfl rfl) ?_))))))); clear h; intro a w h
      refine by_bool h (fun hc48 h => ?_) (fun hc48 h => ?_)
      · skip
        have hpos : 0 < ww.length := by have := of_decide_eq_true hc48; omega
        obtain ⟨k, hk, hkl⟩ : ∃ k, k = uN av % ww.length ∧ k < P.length := ⟨_, rfl, by rw [hlP]; exact Nat.mod_lt _ hpos⟩
        obtain ⟨bP, RP, rfl, rfl, hRP, hcP⟩ := hG45.open (by omega)
        rw [List.cons_append, List.nil_append] at h
        have hp4 := hs4 _ (getD_mem P (d := (0, 0, 0)) hkl)
        refine wpList_nil ?_
        change Code.wp _ _ _ _ _
        refine cond_true h rfl ?_
        refine gC h (zs (zr (zm rfl (zp (Pure1.cast (v' := .int .u64 ((uN av : Nat) : Int)) (.convert rfl (cv_3_60 _)) (by rw [uN_wrap])) (zm rfl (zp (.builtin [_] rfl (len_slice_40 _ _ _)) (zp (Pure1.cast (v' := .int .u64 ((ww.length : Nat) : Int)) (.convert rfl (cv_3_60 _)) (by rw [wrap_u64 _ (by omega) (by omega)])) (zp (Pure1.cast (v' := .int .u64 ((k : Nat) : Int)) (.binOp rfl rfl (fun _ => run_rem _ _ _ _ _ (by omega))) (by rw [tmod_nat, ← hk])) (zp (Pure1.cast (v' := .int .i64 ((k : Nat) : Int)) (.convert rfl (cv_60_3 _)) (by rw [wrap_i64 _ (by omega) (by omega)])) (za rfl (zn (zs (yD mixed_YtkhnecelhpnaoaaGreatDoor [0, 1, 2, 3, 4, 5, 6, 7, 8, 9, 12, 10, 11, 13, 14] (floatsOK_none (by kernel_rfl)) (yp rfl (.fieldAddr rfl (fa_58_0 _ _)) (yd rfl rfl mr Tryz.isAgg55 Tryz.sizeOf55 (rs_2_0 _ _) ?_))))))))))))))); clear h
        refine yp rfl (.move rfl) (yp rfl (.fieldAddr rfl (fa_58_0 _ _)) (yd rfl rfl mr Tryz.isAgg55 Tryz.sizeOf55 (rs_2_0 _ _) ?_))
        refine yp rfl (.move rfl) (yp rfl (.indexAddr rfl rfl (ix_55 _ _ _ _ _ (by omega))) (yp rfl (.indexAddr rfl rfl (ixc_62_0 _ _)) (yd rfl rfl mr Tryz.isAgg52 Tryz.sizeOf52 (rdP _ _ _ hkl) ?_)))
        refine yd rfl rfl mr Tryz.isAgg24 Tryz.sizeOf24 (rd_2_0_2 _ _) ?_
        refine yp rfl (.indexAddr rfl rfl (ix_55 _ _ _ _ _ (by omega))) (yv [_] rfl rfl Tryz.call23 (C_qOf bq.1 bq.2 (by omega) (by omega) (by omega) (by omega)) ?_)
        have hl66 := lenQ_qv bq.1 bq.2 (by omega) (by omega) (by omega) (by omega)
        refine yv [_, _] rfl rfl Tryz.call22 (C_QAdd _ _ (by omega) (by omega)) ?_
        have hl67 := lenQ_add ((P.getD k (0, 0, 0)).1) (qv bq.1 bq.2)
        refine yp rfl (.indexAddr rfl rfl (ixc_62_0 _ _)) (yt rfl rfl rfl (stP _ _ _ hkl _) uu Tryz.sizeOf52 rfl (stP_le _ _ _ hkl) rfl ?_)
        refine yn (zs (zr ?_)); intro a w h
        replace h := h.perm (List.Perm.swap _ _ _)
        replace h := St.share (off := 0) (M := cellsOf encP (P.set k ((P.getD k (0, 0, 0)).1 + qv bq.1 bq.2, (P.getD k (0, 0, 0)).2.1, (P.getD k (0, 0, 0)).2.2))) h hS (fun j hj => pre_get _ _ j hj)
        obtain ⟨P2, hP2⟩ : ∃ P2, P2 = P.set k ((P.getD k (0, 0, 0)).1 + qv bq.1 bq.2, (P.getD k (0, 0, 0)).2.1, (P.getD k (0, 0, 0)).2.2) := ⟨_, rfl⟩
        have hl2 : P.length = P2.length := by rw [hP2, List.length_set]
        have hsP2 : ∀ p ∈ P2, lenQ p.1 ≤ 1000 ∧ lenQ p.2.1 ≤ 1000 ∧ lenQ p.2.2 ≤ 1000 := by rw [hP2]; exact raw_K hs4 hkl (lenQ_qv _ _ hb1 hb2 hb3 hb4)
        have hck2 : qv bq.1 bq.2 ≠ 0 → checkI P2 W = 1 := fun hb => by rw [hP2]; exact raw_check hch hkl hb
        rw [← hP2, hl2] at h
        refine gL h (zd rfl mr Tryz.isAgg24 Tryz.sizeOf24 (rd_2_0_2 _ _) ?_); clear h; intro a w h
        refine gL h (zv [_] rfl Tryz.call23 (C_qOf bq.1 bq.2 (by omega) (by omega) (by omega) (by omega)) ?_); clear h; intro a w h
        have hl71 := lenQ_qv bq.1 bq.2 (by omega) (by omega) (by omega) (by omega)
        refine gL h (zv [_] rfl Tryz.call24 (C_QSign _) (zp (.neq rfl rfl) ?_)); clear h; intro a w h
        refine by_bool h (fun hc73 h => ?_) (fun hc73 h => ?_)
        · skip
          have hnz : qv bq.1 bq.2 ≠ 0 := fun e => by rw [e] at hc73; exact absurd hc73 (by decide)
          refine gL h (zm rfl ?_); clear h; intro a w h
          refine wpl_guard 74 h rfl rfl (op_load h rfl mr Tryz.isAgg58 Tryz.sizeOf58 (rd_2_0_2 _ _) (by decide) ?_); clear h; intro a h
          refine wpl_guard 74 h rfl rfl (op_callW h (vs := [_]) rfl Tryz.call25 (C_Check _ _ c45 d45 P2 W (by omega) (by omega) hsP2) (by simp) (by decide) ?_); clear h; intro a w h
          refine gL h (zq 74 rfl rfl (.neq rfl rfl) ?_); clear h; intro a w h
          refine by_bool h (fun hc77 h => (by exfalso; rw [hck2 hnz] at hc77; exact absurd hc77 (by decide))) (fun hc77 h => ?_)
          refine gL h (zq 74 rfl rfl (.move rfl) ?_); clear h; intro a w h
          refine wpl_guard 78 h rfl rfl (op_load h rfl mr Tryz.isAgg58 Tryz.sizeOf58 (rd_2_0_2 _ _) (by decide) ?_); clear h; intro a h
          refine wpl_guard 78 h rfl rfl (op_callW h (vs := [_]) rfl Tryz.call26 (C_Exact_bad _ _ c45 d45 P2 W (by omega) (by omega) hsP2 (by rw [hck2 hnz]; decide)) (by simp) (by decide) ?_); clear h; intro a w h
          refine gL h (zq 78 rfl rfl (.neq rfl rfl) ?_); clear h; intro a w h
          refine by_bool h (fun hc81 h => (by exfalso; exact absurd hc81 (by decide))) (fun hc81 h => ?_)
          refine gL h (zq 74 rfl rfl (.pickF rfl rfl) (zq 74 rfl rfl (.move rfl) ?_)); clear h; intro a w h
          refine wpl_guard 83 h rfl rfl (op_load h rfl mr Tryz.isAgg58 Tryz.sizeOf58 (rd_2_0_2 _ _) (by decide) ?_); clear h; intro a h
          refine gL h (zq 83 rfl rfl (.move rfl) ?_); clear h; intro a w h
          refine wpl_guard 83 h rfl rfl (op_load h rfl mr Tryz.isAgg53 Tryz.sizeOf53 (rd_10_0_10 _ _ _ _ _ _ _ _ _ _) (by decide) ?_); clear h; intro a h
          refine wpl_guard 83 h rfl rfl (op_load h rfl mr Tryz.isAgg53 Tryz.sizeOf53 (rd_10_0_10 _ _ _ _ _ _ _ _ _ _) (by decide) ?_); clear h; intro a h
          refine wpl_guard 83 h rfl rfl (op_load h rfl mr Tryz.isAgg53 Tryz.sizeOf53 (rd_10_0_10 _ _ _ _ _ _ _ _ _ _) (by decide) ?_); clear h; intro a h
          refine wpl_guard 83 h rfl rfl (op_callW h (vs := [_, _, _, _, _]) rfl Tryz.call27 (C_Apply_bad _ _ c45 d45 P2 W (by omega) (by omega) hsP2 (by rw [hck2 hnz]; decide) ad37 G.length c37 (ptv qx) (ptv qy) (ptv qz)) (by simp) (by decide) ?_); clear h; intro a w h
          refine gL h (zq 83 rfl rfl (Pure1.cast (v' := encQ 0) (.build [] rfl (bd_52_z)) (by exact zero_enc)) (zq 83 rfl rfl (.binOp rfl rfl (fun _ => run_neQ _ _ 0 0 _)) ?_)); clear h; intro a w h
          refine by_bool h (fun hc91 h => (by exfalso; exact absurd hc91 (by decide))) (fun hc91 h => ?_)
          refine gL h (zq 74 rfl rfl (.pickF rfl rfl) (zp (.pickT rfl rfl) (zn ?_))); clear h; intro a w h
          change Code.wp _ _ _ _ _
          refine cond_false h rfl ?_
          refine wp_skip (wp_seq (wp_region_lit ?_))
          replace h := h.drop (List.sublist_cons_self _ _)
          replace h := h.factsSub (Φ' := [Row ad0 (cellsOf encQ2 (flW ww)), Row ad37 (cellsOf encT G), Row ad (cellsOf encTi l)]) (by intro R hR; simp only [List.mem_cons, List.not_mem_nil, or_false] at hR; rcases hR with rfl | rfl | rfl <;> repeat (first | exact List.Mem.head _ | apply List.Mem.tail))
          refine gL h (zm rfl ?_); clear h; intro a w h
          refine wpl_plain (op_callM h hS (vs := [_]) rfl Tryz.call21 (C_madeM _ _ ww _ [Row ad37 (cellsOf encT G), Row ad (cellsOf encTi l)] hokw (by omega)) (List.Perm.refl _) (by simp) (by simp) ?_); clear h; rintro v95 σ95 Ψ95 a w ⟨ad95, c95, o95, bd95, d95, p95, rfl, hG95, hH95, rfl, rfl⟩ h
          rw [← hP] at h hG95
          rw [← hW] at h hH95
          replace h := St.shareO' h hS hG95
          refine gL h (zz Tryz.zeroValue58 fun b23 => zt' rfl rfl (st_2_0_2 _ _ _ _) uu Tryz.sizeOf58 rfl nb (by show ((flat (.slice ad95 P.length c95) && (flat (.slice bd95 W.length d95) && true))) = true; simp only [GrowO.flat (hH95)]; rfl) ?_); clear h; intro a w h
          refine gL h (zn (zs (zs (zr (zm rfl (zm rfl ?_)))))); clear h; intro a w h
          refine by_bool h (fun hc97 h => ?_) (fun hc97 h => ?_)
          · skip
            refine gL h (zo 97 rfl rfl rfl (zo 97 rfl rfl rfl (zo 97 rfl rfl rfl (zp (.pickT rfl rfl) (zn ?_))))); clear h; intro a w h
            change Code.wp _ _ _ _ _
            refine cond_true h rfl ?_
            refine gC h (yD mixed_YtkhnecelhpnaoaaGreatDoor [0, 1, 2, 3, 4, 5, 6] (floatsOK_none (by kernel_rfl)) (yp rfl (.fieldAddr rfl (fa_58_1 _ _)) (yd rfl rfl mr Tryz.isAgg56 Tryz.sizeOf56 (rs_2_1 _ _) ?_))); clear h
            refine yv [_] rfl rfl Tryz.call28 (C_QInt _ (by omega) (by omega)) ?_
            have hl104 := lenQ_int (1) (by omega) (by omega)
            refine yB rfl [(_, _)] rfl (bs_56_1_0 _ _ _ _ _) fun b105 => ?_
            refine head_appendO (σr := [(b23, .cells (Value.cells (.agg #[.slice ad95 P.length c95, (.slice bd95 W.length d95)])) 58 (0, 0)), (b20, .cells (Value.cells (encV ((ptv qz).1) ((ptv qz).2))) 53 (0, 0)), (b19, .cells (Value.cells (encV ((ptv qy).1) ((ptv qy).2))) 53 (0, 0)), (b18, .cells (Value.cells (encV ((ptv qx).1) ((ptv qx).2))) 53 (0, 0)), (b15, .cells (Value.cells (encPQ (qz))) 27 (0, 0)), (b14, .cells (Value.cells (encPQ (qy))) 27 (0, 0)), (b13, .cells (Value.cells (encPQ (qx))) 27 (0, 0)), (b10, .cells (Value.cells (.agg #[.int .i64 bq.1, .int .u32 bq.2])) 24 (0, 0))]) rfl (by kernel_rfl) rfl rfl (List.Perm.trans (List.Perm.refl _) (List.Perm.cons _ (pm_ca (List.Perm.refl _)))) hH95 Tryz.runUnderlying56 Tryz.runUnderlying56 Tryz.typeInfo52 Tryz.sizeOf52 zeroQ rfl (by decide) (by decide) rfl rfl (by decide) (by show 56 * (2 * ((W).length + 1) + 192) ≤ 281474976710656; omega) (by decide) ?_
            intro v106 o106 hG106
            obtain ⟨ad106, c106, rfl⟩ := hG106.is
            have hLn106 : (W).length + 1 = (W ++ [((1 : Int) : Rat)]).length := by simp only [List.length_append, List.length_cons, List.length_nil, Nat.zero_add]
            rw [hLn106]; rw [hLn106] at hG106
            replace hG106 : GrowO 5 52 (.slice ad106 (W ++ [((1 : Int) : Rat)]).length c106) (W ++ [((1 : Int) : Rat)]).length (cellsOf encQ (W ++ [((1 : Int) : Rat)])) o106 := by rw [cellsOf_append, cellsOf_one]; exact hG106
            refine yp rfl (.fieldAddr rfl (fa_58_1 _ _)) (yt rfl rfl rfl (st_2_1_1 _ _ _) uu Tryz.sizeOf56 rfl nb (by show ((flat ((.slice ad106 (W ++ [((1 : Int) : Rat)]).length c106)) && true)) = true; simp only [GrowO.flat (hG106)]; rfl) ?_)
            refine yn (zs (zr ?_)); intro a w h
            obtain ⟨nw, hnw, hne⟩ : ∃ nw, (W ++ [((1 : Int) : Rat)]).length = nw ∧ P.length ≠ nw := ⟨_, rfl, by rw [List.length_append]; simp only [List.length_singleton]; omega⟩
            obtain ⟨adw, hadw⟩ : ∃ x, ad106 = x := ⟨_, rfl⟩
            obtain ⟨cw, hcw⟩ : ∃ x, c106 = x := ⟨_, rfl⟩
            rw [hnw, hadw, hcw] at h
            replace h := h.drop (List.sublist_append_right _ _)
            refine gL h (zp (.fieldAddr rfl (fa_58_1 _ _)) (zd rfl mr Tryz.isAgg56 Tryz.sizeOf56 (rs_2_1 _ _) ?_)); clear h; intro a w h
            refine gL h (zp (.build [(_, _)] rfl (bd_71_1 _ _ _)) (zz Tryz.zeroValue71 fun b24 => zt' rfl rfl (st_2_0_2 _ _ _ _) uu Tryz.sizeOf71 rfl nb rfl ?_)); clear h; intro a w h
            refine gL h (zn (zs (zs (zr (za rfl (zn (zb ?_))))))); clear h; intro a w h
            refine wp_loop_inv (fun (i : Nat) a w => i ≤ ww.length ∧ ∃ (ad1 : Option Addr) (c1 : Nat) (o1 : List (Nat × Obj)), (GrowO 5 52 (.slice ad1 (lstT (fun j => qa (flW ww) (3 * j + 0)) i).length c1) (lstT (fun j => qa (flW ww) (3 * j + 0)) i).length (cellsOf encQ (lstT (fun j => qa (flW ww) (3 * j + 0)) i)) o1) ∧ St 168 S w0 [(0, .slice ad0 ww.length c0), (16, .bool false), (17, .slice ad37 ((G).length) c37), (18, .pointer (some ⟨b18, 0, none⟩)), (19, .pointer (some ⟨b19, 0, none⟩)), (20, .pointer (some ⟨b20, 0, none⟩)), (23, .pointer (some ⟨b23, 0, none⟩)), (24, .pointer (some ⟨b24, 0, none⟩)), (25, .int .i64 ((i : Nat) : Int))] (o1 ++ ((b24, .cells (Value.cells (.agg #[(.slice ad1 (lstT (fun j => qa (flW ww) (3 * j + 0)) i).length c1), .slice adw nw cw])) 71 (0, 0)) :: ((b23, .cells (Value.cells (.agg #[.slice ad95 P.length c95, .slice adw nw cw])) 58 (0, 0)) :: ((b20, .cells (Value.cells (encV ((ptv qz).1) ((ptv qz).2))) 53 (0, 0)) :: ((b19, .cells (Value.cells (encV ((ptv qy).1) ((ptv qy).2))) 53 (0, 0)) :: ((b18, .cells (Value.cells (encV ((ptv qx).1) ((ptv qx).2))) 53 (0, 0)) :: [])))))) [Row ad95 (cellsOf encP P), Row ad0 (cellsOf encQ2 (flW ww)), Row ad37 (cellsOf encT G), Row ad (cellsOf encTi l)] a w) (fun i => ww.length - i) 0 (⟨Nat.zero_le _, none, 0, [], GrowO.nil _ _, by exact ((h.drop sl)).sub (subL ⟨rfl, rfl, rfl, rfl, rfl, rfl, rfl, rfl, rfl, trivial⟩)⟩) ?_; clear h
            rintro i a w ⟨hi_i, ad1, c1, o1, hG1, h⟩
            refine gC h (zs (zs (zr (zm rfl (zm rfl (zp (.builtin [_] rfl (len_slice_40 _ _ _)) (zp (.lss rfl rfl) (zn ?_)))))))); clear h; intro a w h
            change Code.wp _ _ _ _ _
            refine cond_split h rfl (fun hc118 => ?_) (fun hc118 => ?_)
            · skip
              have hlt_i : i < ww.length := by have := of_decide_eq_true hc118; omega
              obtain ⟨B_ad0, O_ad0, rfl⟩ := h.row_addr (ad := ad0) (M := cellsOf encQ2 (flW ww)) mm (by intro e; have := congrArg List.length e; rw [cellsOf_length (k := 2) (fun _ => rfl)] at this; simp only [List.length_nil, Nat.mul_eq_zero] at this; omega)
              obtain ⟨hq0a, hq0b, hq0c, hq0d⟩ := hokw _ (getD_mem (flW ww) (i := 3 * i + 0) (d := (0, 0)) (by omega))
              have hg1 := lstT_len (fun j => qa (flW ww) (3 * j + 0)) i
              refine gC h (zk (zs (zb (yD mixed_YtkhnecelhpnaoaaGreatDoor [0, 1, 2, 3, 4, 5, 6, 7, 8, 9, 10, 11] (floatsOK_none (by kernel_rfl)) (yp rfl (.fieldAddr rfl (fa_71_0 _ _)) (yd rfl rfl mr Tryz.isAgg56 Tryz.sizeOf56 (rs_2_0 _ _) ?_)))))); clear h
              refine yp rfl (.move rfl) (yp rfl (.move rfl) (yp rfl (.indexAddr rfl rfl (ix_40 _ _ _ _ _ (by omega))) (yp rfl (Pure1.cast (v' := .pointer (some ⟨B_ad0, O_ad0 + (3 * i + 0) * 2, none⟩)) (.fieldAddr rfl (fa_73_0 _ _)) (by rw [show O_ad0 + i * 6 + 0 = O_ad0 + (3 * i + 0) * 2 by omega])) ?_)))
              refine head_loadRow rfl (by kernel_rfl) rfl mm (cells_lt (k := 2) (by decide) (fun _ => rfl) (flW ww) (3 * i + 0) (by omega)) Tryz.isAgg24 Tryz.sizeOf24 (read_cells (k := 2) (fun _ => rfl) ((fun _ => rfl)) (flW ww) (0, 0) (3 * i + 0) (by omega)) (.inl rfl) (by decide) ?_
              refine yv [_] rfl rfl Tryz.call23 (C_qOf (((flW ww).getD (3 * i + 0) (0, 0)).1) (((flW ww).getD (3 * i + 0) (0, 0)).2) (by omega) (by omega) (by omega) (by omega)) ?_
              have hl128 := lenQ_qv (((flW ww).getD (3 * i + 0) (0, 0)).1) (((flW ww).getD (3 * i + 0) (0, 0)).2) (by omega) (by omega) (by omega) (by omega)
              refine yB rfl [(_, _)] rfl (bs_56_1_0 _ _ _ _ _) fun b129 => ?_
              refine head_appendO (σr := [(b24, .cells (Value.cells (.agg #[(.slice ad1 (lstT (fun j => qa (flW ww) (3 * j + 0)) i).length c1), .slice adw nw cw])) 71 (0, 0)), (b23, .cells (Value.cells (.agg #[.slice ad95 P.length c95, .slice adw nw cw])) 58 (0, 0)), (b20, .cells (Value.cells (encV ((ptv qz).1) ((ptv qz).2))) 53 (0, 0)), (b19, .cells (Value.cells (encV ((ptv qy).1) ((ptv qy).2))) 53 (0, 0)), (b18, .cells (Value.cells (encV ((ptv qx).1) ((ptv qx).2))) 53 (0, 0))]) rfl (by kernel_rfl) rfl rfl (List.Perm.trans (List.Perm.refl _) (List.Perm.cons _ (List.Perm.refl _))) hG1 Tryz.runUnderlying56 Tryz.runUnderlying56 Tryz.typeInfo52 Tryz.sizeOf52 zeroQ rfl (by decide) (by decide) rfl rfl (by decide) (by show 56 * (2 * ((lstT (fun j => qa (flW ww) (3 * j + 0)) i).length + 1) + 192) ≤ 281474976710656; omega) (by decide) ?_
              intro v130 o130 hG130
              obtain ⟨ad130, c130, rfl⟩ := hG130.is
              have hLn130 : (lstT (fun j => qa (flW ww) (3 * j + 0)) i).length + 1 = ((lstT (fun j => qa (flW ww) (3 * j + 0)) i) ++ [qv (((flW ww).getD (3 * i + 0) (0, 0)).1) (((flW ww).getD (3 * i + 0) (0, 0)).2)]).length := by simp only [List.length_append, List.length_cons, List.length_nil, Nat.zero_add]
              rw [hLn130]; rw [hLn130] at hG130
              replace hG130 : GrowO 5 52 (.slice ad130 ((lstT (fun j => qa (flW ww) (3 * j + 0)) i) ++ [qv (((flW ww).getD (3 * i + 0) (0, 0)).1) (((flW ww).getD (3 * i + 0) (0, 0)).2)]).length c130) ((lstT (fun j => qa (flW ww) (3 * j + 0)) i) ++ [qv (((flW ww).getD (3 * i + 0) (0, 0)).1) (((flW ww).getD (3 * i + 0) (0, 0)).2)]).length (cellsOf encQ ((lstT (fun j => qa (flW ww) (3 * j + 0)) i) ++ [qv (((flW ww).getD (3 * i + 0) (0, 0)).1) (((flW ww).getD (3 * i + 0) (0, 0)).2)])) o130 := by rw [cellsOf_append, cellsOf_one]; exact hG130
              refine yp rfl (.fieldAddr rfl (fa_71_0 _ _)) (yt rfl rfl rfl (st_2_0_1 _ _ _) uu Tryz.sizeOf56 rfl nb (by show ((flat ((.slice ad130 ((lstT (fun j => qa (flW ww) (3 * j + 0)) i) ++ [qv (((flW ww).getD (3 * i + 0) (0, 0)).1) (((flW ww).getD (3 * i + 0) (0, 0)).2)]).length c130)) && true)) = true; simp only [GrowO.flat (hG130)]; rfl) ?_)
              refine yn (zr (zm rfl (zp (Pure1.cast (v' := (.int .i64 ((i + 1 : Nat) : Int))) (.add rfl rfl) (by show Value.int _ _ = Value.int _ _; congr 1)) (za rfl (zn ?_))))); intro a w h
              exact ⟨i + 1, ⟨by omega, ad130, c130, o130, hG130, by exact (h.factsSub (by simp)).sub sA⟩, by omega⟩
            · skip
              have heq_i : ww.length = i := by have := of_decide_eq_false hc118; omega
              subst heq_i
              refine gC h (ze (zs (zr (zd rfl mr Tryz.isAgg58 Tryz.sizeOf58 (rd_2_0_2 _ _) ?_)))); clear h; intro a w h
              refine gL h (zm rfl (zd rfl mr Tryz.isAgg53 Tryz.sizeOf53 (rd_10_0_10 _ _ _ _ _ _ _ _ _ _) ?_)); clear h; intro a w h
              refine gL h (zd rfl mr Tryz.isAgg53 Tryz.sizeOf53 (rd_10_0_10 _ _ _ _ _ _ _ _ _ _) ?_); clear h; intro a w h
              refine gL h (zd rfl mr Tryz.isAgg53 Tryz.sizeOf53 (rd_10_0_10 _ _ _ _ _ _ _ _ _ _) ?_); clear h; intro a w h
              refine gL h (zv [_, _, _, _, _] rfl Tryz.call27 (C_Apply_ne ad95 adw P.length nw c95 cw hne ad37 G.length c37 (ptv qx) (ptv qy) (ptv qz)) (zp (Pure1.cast (v' := encQ 0) (.build [] rfl (bd_52_z)) (by exact zero_enc)) (zp (.binOp rfl rfl (fun _ => run_eqQ _ _ 0 0 _)) ?_))); clear h; intro a w h
              refine by_bool h (fun hc139 h => ?_) (fun hc139 h => (by exfalso; exact absurd hc139 (by decide)))
              refine gL h (zm rfl ?_); clear h; intro a w h
              refine wpl_guard 140 h rfl rfl (op_load h rfl mr Tryz.isAgg71 Tryz.sizeOf71 (rd_2_0_2 _ _) (by decide) ?_); clear h; intro a h
              refine gL h (zq 140 rfl rfl (.move rfl) ?_); clear h; intro a w h
              refine wpl_guard 140 h rfl rfl (op_load h rfl mr Tryz.isAgg53 Tryz.sizeOf53 (rd_10_0_10 _ _ _ _ _ _ _ _ _ _) (by decide) ?_); clear h; intro a h
              refine wpl_guard 140 h rfl rfl (op_load h rfl mr Tryz.isAgg53 Tryz.sizeOf53 (rd_10_0_10 _ _ _ _ _ _ _ _ _ _) (by decide) ?_); clear h; intro a h
              refine wpl_guard 140 h rfl rfl (op_callV h (vs := [_, _, _, _]) rfl Tryz.call29 (C_ApplyLine_ne ad1 adw (lstT (fun j => qa (flW ww) (3 * j + 0)) ww.length).length nw c1 cw (by rw [lstT_len]; omega) ad37 G.length c37 (ptv qx) (ptv qy)) (by decide) ?_); clear h; intro a w h
              refine gL h (zq 140 rfl rfl (Pure1.cast (v' := encQ 0) (.build [] rfl (bd_52_z)) (by exact zero_enc)) (zq 140 rfl rfl (.binOp rfl rfl (fun _ => run_eqQ _ _ 0 0 _)) ?_)); clear h; intro a w h
              refine by_bool h (fun hc147 h => ?_) (fun hc147 h => (by exfalso; exact absurd hc147 (by decide)))
              refine gL h (zp (.pickT rfl rfl) (za rfl (zn (zs (zr (zd rfl mr Tryz.isAgg58 Tryz.sizeOf58 (rd_2_0_2 _ _) ?_)))))); clear h; intro a w h
              refine gL h (zv [_] rfl Tryz.call25 (C_Check_ne ad95 adw P.length nw c95 cw hne) (zp (.eql rfl rfl) ?_)); clear h; intro a w h
              refine by_bool h (fun hc151 h => ?_) (fun hc151 h => (by exfalso; exact absurd hc151 (by decide)))
              refine gL h (zm rfl ?_); clear h; intro a w h
              refine wpl_guard 152 h rfl rfl (op_load h rfl mr Tryz.isAgg58 Tryz.sizeOf58 (rd_2_0_2 _ _) (by decide) ?_); clear h; intro a h
              refine wpl_guard 152 h rfl rfl (op_callV h (vs := [_]) rfl Tryz.call26 (C_Exact_ne ad95 adw P.length nw c95 cw hne) (by decide) ?_); clear h; intro a w h
              refine gL h (zq 152 rfl rfl (.eql rfl rfl) ?_); clear h; intro a w h
              refine by_bool h (fun hc155 h => ?_) (fun hc155 h => (by exfalso; exact absurd hc155 (by decide)))
              refine gL h (zp (.pickT rfl rfl) (zm rfl ?_)); clear h; intro a w h
              refine wpl_guard 157 h rfl rfl (op_load h rfl mr Tryz.isAgg71 Tryz.sizeOf71 (rd_2_0_2 _ _) (by decide) ?_); clear h; intro a h
              refine wpl_guard 157 h rfl rfl (op_callV h (vs := [_]) rfl Tryz.call30 (C_ExactLine_ne ad1 adw (lstT (fun j => qa (flW ww) (3 * j + 0)) ww.length).length nw c1 cw (by rw [lstT_len]; omega)) (by decide) ?_); clear h; intro a w h
              refine gL h (zq 157 rfl rfl (.eql rfl rfl) ?_); clear h; intro a w h
              refine by_bool h (fun hc160 h => ?_) (fun hc160 h => (by exfalso; exact absurd hc160 (by decide)))
              refine gL h (zp (.pickT rfl rfl) (zm rfl (zq 162 rfl rfl (.move rfl) (zp (.pickT rfl rfl) (zm rfl ?_))))); clear h; intro a w h
              refine wpl_guard 165 h rfl rfl (op_callV h (vs := []) rfl Tryz.call18 (C_works) (by decide) ?_); clear h; intro a w h
              refine gL h (zp (.pickT rfl rfl) (za rfl (zn (zt ?_)))); clear h; intro a w h
              refine retV h (results1 h rfl (.tmp rfl)) ?_
              rfl
          · skip
            refine gL h (zq 97 rfl rfl (.move rfl) (zq 97 rfl rfl (.builtin [_] rfl (len_slice_40 _ _ _)) (zq 97 rfl rfl (.eql rfl rfl) ?_))); clear h; intro a w h
            refine by_bool h (fun hc100 h => (by exfalso; have := of_decide_eq_true hc100; omega)) (fun hc100 h => ?_)
            refine gL h (zp (.pickF rfl rfl) (zn ?_)); clear h; intro a w h
            change Code.wp _ _ _ _ _
            refine cond_false h rfl ?_
            refine wp_region_lit ?_
            obtain ⟨bW, RW, rfl, rfl, hRW, hcW⟩ := hH95.open (by omega)
            rw [List.cons_append, List.nil_append] at h
            refine gL h (zp (.fieldAddr rfl (fa_58_1 _ _)) (zd rfl mr Tryz.isAgg56 Tryz.sizeOf56 (rs_2_1 _ _) ?_)); clear h; intro a w h
            refine gL h (zp (.slice rfl (some _) none none rfl rfl rfl (slo_56 _ _ _ _ _ (by show 1 ≤ W.length; omega))) (zp (.fieldAddr rfl (fa_58_1 _ _)) (zt' rfl rfl (st_2_1_1 _ _ _) uu Tryz.sizeOf56 rfl nb rfl ?_))); clear h; intro a w h
            refine wpList_nil (wp_seq (wp_region_lit ?_))
            obtain ⟨nw, hnw, hne⟩ : ∃ nw, W.length - 1 = nw ∧ P.length ≠ nw := ⟨_, rfl, by omega⟩
            obtain ⟨adw, hadw⟩ : ∃ x, some (⟨bW, if d95 = 1 then 0 else 0 + 1 * 5, none⟩ : Addr) = x := ⟨_, rfl⟩
            obtain ⟨cw, hcw⟩ : ∃ x, d95 - 1 = x := ⟨_, rfl⟩
            rw [hnw, hadw, hcw] at h
            replace h := h.drop (List.Sublist.cons_cons _ (List.sublist_cons_self _ _))
            refine gL h (zp (.fieldAddr rfl (fa_58_1 _ _)) (zd rfl mr Tryz.isAgg56 Tryz.sizeOf56 (rs_2_1 _ _) ?_)); clear h; intro a w h
            refine gL h (zp (.build [(_, _)] rfl (bd_71_1 _ _ _)) (zz Tryz.zeroValue71 fun b24 => zt' rfl rfl (st_2_0_2 _ _ _ _) uu Tryz.sizeOf71 rfl nb rfl ?_)); clear h; intro a w h
            refine gL h (zn (zs (zs (zr (za rfl (zn (zb ?_))))))); clear h; intro a w h
            refine wp_loop_inv (fun (i : Nat) a w => i ≤ ww.length ∧ ∃ (ad1 : Option Addr) (c1 : Nat) (o1 : List (Nat × Obj)), (GrowO 5 52 (.slice ad1 (lstT (fun j => qa (flW ww) (3 * j + 0)) i).length c1) (lstT (fun j => qa (flW ww) (3 * j + 0)) i).length (cellsOf encQ (lstT (fun j => qa (flW ww) (3 * j + 0)) i)) o1) ∧ St 168 S w0 [(0, .slice ad0 ww.length c0), (16, .bool false), (17, .slice ad37 ((G).length) c37), (18, .pointer (some ⟨b18, 0, none⟩)), (19, .pointer (some ⟨b19, 0, none⟩)), (20, .pointer (some ⟨b20, 0, none⟩)), (23, .pointer (some ⟨b23, 0, none⟩)), (24, .pointer (some ⟨b24, 0, none⟩)), (25, .int .i64 ((i : Nat) : Int))] (o1 ++ ((b24, .cells (Value.cells (.agg #[(.slice ad1 (lstT (fun j => qa (flW ww) (3 * j + 0)) i).length c1), .slice adw nw cw])) 71 (0, 0)) :: ((b23, .cells (Value.cells (.agg #[.slice ad95 P.length c95, .slice adw nw cw])) 58 (0, 0)) :: ((b20, .cells (Value.cells (encV ((ptv qz).1) ((ptv qz).2))) 53 (0, 0)) :: ((b19, .cells (Value.cells (encV ((ptv qy).1) ((ptv qy).2))) 53 (0, 0)) :: ((b18, .cells (Value.cells (encV ((ptv qx).1) ((ptv qx).2))) 53 (0, 0)) :: [])))))) [Row ad95 (cellsOf encP P), Row ad0 (cellsOf encQ2 (flW ww)), Row ad37 (cellsOf encT G), Row ad (cellsOf encTi l)] a w) (fun i => ww.length - i) 0 (⟨Nat.zero_le _, none, 0, [], GrowO.nil _ _, by exact ((h.drop sl)).sub (subL ⟨rfl, rfl, rfl, rfl, rfl, rfl, rfl, rfl, rfl, trivial⟩)⟩) ?_; clear h
            rintro i a w ⟨hi_i, ad1, c1, o1, hG1, h⟩
            refine gC h (zs (zs (zr (zm rfl (zm rfl (zp (.builtin [_] rfl (len_slice_40 _ _ _)) (zp (.lss rfl rfl) (zn ?_)))))))); clear h; intro a w h
            change Code.wp _ _ _ _ _
            refine cond_split h rfl (fun hc118 => ?_) (fun hc118 => ?_)
            · skip
              have hlt_i : i < ww.length := by have := of_decide_eq_true hc118; omega
              obtain ⟨B_ad0, O_ad0, rfl⟩ := h.row_addr (ad := ad0) (M := cellsOf encQ2 (flW ww)) mm (by intro e; have := congrArg List.length e; rw [cellsOf_length (k := 2) (fun _ => rfl)] at this; simp only [List.length_nil, Nat.mul_eq_zero] at this; omega)
              obtain ⟨hq0a, hq0b, hq0c, hq0d⟩ := hokw _ (getD_mem (flW ww) (i := 3 * i + 0) (d := (0, 0)) (by omega))
              have hg1 := lstT_len (fun j => qa (flW ww) (3 * j + 0)) i
              refine gC h (zk (zs (zb (yD mixed_YtkhnecelhpnaoaaGreatDoor [0, 1, 2, 3, 4, 5, 6, 7, 8, 9, 10, 11] (floatsOK_none (by kernel_rfl)) (yp rfl (.fieldAddr rfl (fa_71_0 _ _)) (yd rfl rfl mr Tryz.isAgg56 Tryz.sizeOf56 (rs_2_0 _ _) ?_)))))); clear h
              refine yp rfl (.move rfl) (yp rfl (.move rfl) (yp rfl (.indexAddr rfl rfl (ix_40 _ _ _ _ _ (by omega))) (yp rfl (Pure1.cast (v' := .pointer (some ⟨B_ad0, O_ad0 + (3 * i + 0) * 2, none⟩)) (.fieldAddr rfl (fa_73_0 _ _)) (by rw [show O_ad0 + i * 6 + 0 = O_ad0 + (3 * i + 0) * 2 by omega])) ?_)))
              refine head_loadRow rfl (by kernel_rfl) rfl mm (cells_lt (k := 2) (by decide) (fun _ => rfl) (flW ww) (3 * i + 0) (by omega)) Tryz.isAgg24 Tryz.sizeOf24 (read_cells (k := 2) (fun _ => rfl) ((fun _ => rfl)) (flW ww) (0, 0) (3 * i + 0) (by omega)) (.inl rfl) (by decide) ?_
              refine yv [_] rfl rfl Tryz.call23 (C_qOf (((flW ww).getD (3 * i + 0) (0, 0)).1) (((flW ww).getD (3 * i + 0) (0, 0)).2) (by omega) (by omega) (by omega) (by omega)) ?_
              have hl128 := lenQ_qv (((flW ww).getD (3 * i + 0) (0, 0)).1) (((flW ww).getD (3 * i + 0) (0, 0)).2) (by omega) (by omega) (by omega) (by omega)
              refine yB rfl [(_, _)] rfl (bs_56_1_0 _ _ _ _ _) fun b129 => ?_
              refine head_appendO (σr := [(b24, .cells (Value.cells (.agg #[(.slice ad1 (lstT (fun j => qa (flW ww) (3 * j + 0)) i).length c1), .slice adw nw cw])) 71 (0, 0)), (b23, .cells (Value.cells (.agg #[.slice ad95 P.length c95, .slice adw nw cw])) 58 (0, 0)), (b20, .cells (Value.cells (encV ((ptv qz).1) ((ptv qz).2))) 53 (0, 0)), (b19, .cells (Value.cells (encV ((ptv qy).1) ((ptv qy).2))) 53 (0, 0)), (b18, .cells (Value.cells (encV ((ptv qx).1) ((ptv qx).2))) 53 (0, 0))]) rfl (by kernel_rfl) rfl rfl (List.Perm.trans (List.Perm.refl _) (List.Perm.cons _ (List.Perm.refl _))) hG1 Tryz.runUnderlying56 Tryz.runUnderlying56 Tryz.typeInfo52 Tryz.sizeOf52 zeroQ rfl (by decide) (by decide) rfl rfl (by decide) (by show 56 * (2 * ((lstT (fun j => qa (flW ww) (3 * j + 0)) i).length + 1) + 192) ≤ 281474976710656; omega) (by decide) ?_
              intro v130 o130 hG130
              obtain ⟨ad130, c130, rfl⟩ := hG130.is
              have hLn130 : (lstT (fun j => qa (flW ww) (3 * j + 0)) i).length + 1 = ((lstT (fun j => qa (flW ww) (3 * j + 0)) i) ++ [qv (((flW ww).getD (3 * i + 0) (0, 0)).1) (((flW ww).getD (3 * i + 0) (0, 0)).2)]).length := by simp only [List.length_append, List.length_cons, List.length_nil, Nat.zero_add]
              rw [hLn130]; rw [hLn130] at hG130
              replace hG130 : GrowO 5 52 (.slice ad130 ((lstT (fun j => qa (flW ww) (3 * j + 0)) i) ++ [qv (((flW ww).getD (3 * i + 0) (0, 0)).1) (((flW ww).getD (3 * i + 0) (0, 0)).2)]).length c130) ((lstT (fun j => qa (flW ww) (3 * j + 0)) i) ++ [qv (((flW ww).getD (3 * i + 0) (0, 0)).1) (((flW ww).getD (3 * i + 0) (0, 0)).2)]).length (cellsOf encQ ((lstT (fun j => qa (flW ww) (3 * j + 0)) i) ++ [qv (((flW ww).getD (3 * i + 0) (0, 0)).1) (((flW ww).getD (3 * i + 0) (0, 0)).2)])) o130 := by rw [cellsOf_append, cellsOf_one]; exact hG130
              refine yp rfl (.fieldAddr rfl (fa_71_0 _ _)) (yt rfl rfl rfl (st_2_0_1 _ _ _) uu Tryz.sizeOf56 rfl nb (by show ((flat ((.slice ad130 ((lstT (fun j => qa (flW ww) (3 * j + 0)) i) ++ [qv (((flW ww).getD (3 * i + 0) (0, 0)).1) (((flW ww).getD (3 * i + 0) (0, 0)).2)]).length c130)) && true)) = true; simp only [GrowO.flat (hG130)]; rfl) ?_)
              refine yn (zr (zm rfl (zp (Pure1.cast (v' := (.int .i64 ((i + 1 : Nat) : Int))) (.add rfl rfl) (by show Value.int _ _ = Value.int _ _; congr 1)) (za rfl (zn ?_))))); intro a w h
              exact ⟨i + 1, ⟨by omega, ad130, c130, o130, hG130, by exact (h.factsSub (by simp)).sub sA⟩, by omega⟩
            · skip
              have heq_i : ww.length = i := by have := of_decide_eq_false hc118; omega
              subst heq_i
              refine gC h (ze (zs (zr (zd rfl mr Tryz.isAgg58 Tryz.sizeOf58 (rd_2_0_2 _ _) ?_)))); clear h; intro a w h
              refine gL h (zm rfl (zd rfl mr Tryz.isAgg53 Tryz.sizeOf53 (rd_10_0_10 _ _ _ _ _ _ _ _ _ _) ?_)); clear h; intro a w h
              refine gL h (zd rfl mr Tryz.isAgg53 Tryz.sizeOf53 (rd_10_0_10 _ _ _ _ _ _ _ _ _ _) ?_); clear h; intro a w h
              refine gL h (zd rfl mr Tryz.isAgg53 Tryz.sizeOf53 (rd_10_0_10 _ _ _ _ _ _ _ _ _ _) ?_); clear h; intro a w h
              refine gL h (zv [_, _, _, _, _] rfl Tryz.call27 (C_Apply_ne ad95 adw P.length nw c95 cw hne ad37 G.length c37 (ptv qx) (ptv qy) (ptv qz)) (zp (Pure1.cast (v' := encQ 0) (.build [] rfl (bd_52_z)) (by exact zero_enc)) (zp (.binOp rfl rfl (fun _ => run_eqQ _ _ 0 0 _)) ?_))); clear h; intro a w h
              refine by_bool h (fun hc139 h => ?_) (fun hc139 h => (by exfalso; exact absurd hc139 (by decide)))
              refine gL h (zm rfl ?_); clear h; intro a w h
              refine wpl_guard 140 h rfl rfl (op_load h rfl mr Tryz.isAgg71 Tryz.sizeOf71 (rd_2_0_2 _ _) (by decide) ?_); clear h; intro a h
              refine gL h (zq 140 rfl rfl (.move rfl) ?_); clear h; intro a w h
              refine wpl_guard 140 h rfl rfl (op_load h rfl mr Tryz.isAgg53 Tryz.sizeOf53 (rd_10_0_10 _ _ _ _ _ _ _ _ _ _) (by decide) ?_); clear h; intro a h
              refine wpl_guard 140 h rfl rfl (op_load h rfl mr Tryz.isAgg53 Tryz.sizeOf53 (rd_10_0_10 _ _ _ _ _ _ _ _ _ _) (by decide) ?_); clear h; intro a h
              refine wpl_guard 140 h rfl rfl (op_callV h (vs := [_, _, _, _]) rfl Tryz.call29 (C_ApplyLine_ne ad1 adw (lstT (fun j => qa (flW ww) (3 * j + 0)) ww.length).length nw c1 cw (by rw [lstT_len]; omega) ad37 G.length c37 (ptv qx) (ptv qy)) (by decide) ?_); clear h; intro a w h
              refine gL h (zq 140 rfl rfl (Pure1.cast (v' := encQ 0) (.build [] rfl (bd_52_z)) (by exact zero_enc)) (zq 140 rfl rfl (.binOp rfl rfl (fun _ => run_eqQ _ _ 0 0 _)) ?_)); clear h; intro a w h
              refine by_bool h (fun hc147 h => ?_) (fun hc147 h => (by exfalso; exact absurd hc147 (by decide)))
              refine gL h (zp (.pickT rfl rfl) (za rfl (zn (zs (zr (zd rfl mr Tryz.isAgg58 Tryz.sizeOf58 (rd_2_0_2 _ _) ?_)))))); clear h; intro a w h
              refine gL h (zv [_] rfl Tryz.call25 (C_Check_ne ad95 adw P.length nw c95 cw hne) (zp (.eql rfl rfl) ?_)); clear h; intro a w h
              refine by_bool h (fun hc151 h => ?_) (fun hc151 h => (by exfalso; exact absurd hc151 (by decide)))
              refine gL h (zm rfl ?_); clear h; intro a w h
              refine wpl_guard 152 h rfl rfl (op_load h rfl mr Tryz.isAgg58 Tryz.sizeOf58 (rd_2_0_2 _ _) (by decide) ?_); clear h; intro a h
              refine wpl_guard 152 h rfl rfl (op_callV h (vs := [_]) rfl Tryz.call26 (C_Exact_ne ad95 adw P.length nw c95 cw hne) (by decide) ?_); clear h; intro a w h
              refine gL h (zq 152 rfl rfl (.eql rfl rfl) ?_); clear h; intro a w h
              refine by_bool h (fun hc155 h => ?_) (fun hc155 h => (by exfalso; exact absurd hc155 (by decide)))
              refine gL h (zp (.pickT rfl rfl) (zm rfl ?_)); clear h; intro a w h
              refine wpl_guard 157 h rfl rfl (op_load h rfl mr Tryz.isAgg71 Tryz.sizeOf71 (rd_2_0_2 _ _) (by decide) ?_); clear h; intro a h
              refine wpl_guard 157 h rfl rfl (op_callV h (vs := [_]) rfl Tryz.call30 (C_ExactLine_ne ad1 adw (lstT (fun j => qa (flW ww) (3 * j + 0)) ww.length).length nw c1 cw (by rw [lstT_len]; omega)) (by decide) ?_); clear h; intro a w h
              refine gL h (zq 157 rfl rfl (.eql rfl rfl) ?_); clear h; intro a w h
              refine by_bool h (fun hc160 h => ?_) (fun hc160 h => (by exfalso; exact absurd hc160 (by decide)))
              refine gL h (zp (.pickT rfl rfl) (zm rfl (zq 162 rfl rfl (.move rfl) (zp (.pickT rfl rfl) (zm rfl ?_))))); clear h; intro a w h
              refine wpl_guard 165 h rfl rfl (op_callV h (vs := []) rfl Tryz.call18 (C_works) (by decide) ?_); clear h; intro a w h
              refine gL h (zp (.pickT rfl rfl) (za rfl (zn (zt ?_)))); clear h; intro a w h
              refine retV h (results1 h rfl (.tmp rfl)) ?_
              rfl
        · skip
          refine gL h (zm rfl (zo 74 rfl rfl rfl (zo 74 rfl rfl rfl (zo 74 rfl rfl rfl (zo 74 rfl rfl rfl (zu 78 rfl rfl (zu 78 rfl rfl (zu 78 rfl rfl (zo 74 rfl rfl rfl (zo 74 rfl rfl rfl (zu 83 rfl rfl (zu 83 rfl rfl (zu 83 rfl rfl (zu 83 rfl rfl (zu 83 rfl rfl (zu 83 rfl rfl (zu 83 rfl rfl (zu 83 rfl rfl (zo 74 rfl rfl rfl (zp (.pickF rfl rfl) (zn ?_))))))))))))))))))))); clear h; intro a w h
          change Code.wp _ _ _ _ _
          refine cond_false h rfl ?_
          refine wp_skip (wp_seq (wp_region_lit ?_))
          replace h := h.drop (List.sublist_cons_self _ _)
          replace h := h.factsSub (Φ' := [Row ad0 (cellsOf encQ2 (flW ww)), Row ad37 (cellsOf encT G), Row ad (cellsOf encTi l)]) (by intro R hR; simp only [List.mem_cons, List.not_mem_nil, or_false] at hR; rcases hR with rfl | rfl | rfl <;> repeat (first | exact List.Mem.head _ | apply List.Mem.tail))
          refine gL h (zm rfl ?_); clear h; intro a w h
          refine wpl_plain (op_callM h hS (vs := [_]) rfl Tryz.call21 (C_madeM _ _ ww _ [Row ad37 (cellsOf encT G), Row ad (cellsOf encTi l)] hokw (by omega)) (List.Perm.refl _) (by simp) (by simp) ?_); clear h; rintro v95 σ95 Ψ95 a w ⟨ad95, c95, o95, bd95, d95, p95, rfl, hG95, hH95, rfl, rfl⟩ h
          rw [← hP] at h hG95
          rw [← hW] at h hH95
          replace h := St.shareO' h hS hG95
          refine gL h (zz Tryz.zeroValue58 fun b23 => zt' rfl rfl (st_2_0_2 _ _ _ _) uu Tryz.sizeOf58 rfl nb (by show ((flat (.slice ad95 P.length c95) && (flat (.slice bd95 W.length d95) && true))) = true; simp only [GrowO.flat (hH95)]; rfl) ?_); clear h; intro a w h
          refine gL h (zn (zs (zs (zr (zm rfl (zm rfl ?_)))))); clear h; intro a w h
          refine by_bool h (fun hc97 h => ?_) (fun hc97 h => ?_)
          · skip
            refine gL h (zo 97 rfl rfl rfl (zo 97 rfl rfl rfl (zo 97 rfl rfl rfl (zp (.pickT rfl rfl) (zn ?_))))); clear h; intro a w h
            change Code.wp _ _ _ _ _
            refine cond_true h rfl ?_
            refine gC h (yD mixed_YtkhnecelhpnaoaaGreatDoor [0, 1, 2, 3, 4, 5, 6] (floatsOK_none (by kernel_rfl)) (yp rfl (.fieldAddr rfl (fa_58_1 _ _)) (yd rfl rfl mr Tryz.isAgg56 Tryz.sizeOf56 (rs_2_1 _ _) ?_))); clear h
            refine yv [_] rfl rfl Tryz.call28 (C_QInt _ (by omega) (by omega)) ?_
            have hl104 := lenQ_int (1) (by omega) (by omega)
            refine yB rfl [(_, _)] rfl (bs_56_1_0 _ _ _ _ _) fun b105 => ?_
            refine head_appendO (σr := [(b23, .cells (Value.cells (.agg #[.slice ad95 P.length c95, (.slice bd95 W.length d95)])) 58 (0, 0)), (b20, .cells (Value.cells (encV ((ptv qz).1) ((ptv qz).2))) 53 (0, 0)), (b19, .cells (Value.cells (encV ((ptv qy).1) ((ptv qy).2))) 53 (0, 0)), (b18, .cells (Value.cells (encV ((ptv qx).1) ((ptv qx).2))) 53 (0, 0)), (b15, .cells (Value.cells (encPQ (qz))) 27 (0, 0)), (b14, .cells (Value.cells (encPQ (qy))) 27 (0, 0)), (b13, .cells (Value.cells (encPQ (qx))) 27 (0, 0)), (b10, .cells (Value.cells (.agg #[.int .i64 bq.1, .int .u32 bq.2])) 24 (0, 0))]) rfl (by kernel_rfl) rfl rfl (List.Perm.trans (List.Perm.refl _) (List.Perm.cons _ (pm_ca (List.Perm.refl _)))) hH95 Tryz.runUnderlying56 Tryz.runUnderlying56 Tryz.typeInfo52 Tryz.sizeOf52 zeroQ rfl (by decide) (by decide) rfl rfl (by decide) (by show 56 * (2 * ((W).length + 1) + 192) ≤ 281474976710656; omega) (by decide) ?_
            intro v106 o106 hG106
            obtain ⟨ad106, c106, rfl⟩ := hG106.is
            have hLn106 : (W).length + 1 = (W ++ [((1 : Int) : Rat)]).length := by simp only [List.length_append, List.length_cons, List.length_nil, Nat.zero_add]
            rw [hLn106]; rw [hLn106] at hG106
            replace hG106 : GrowO 5 52 (.slice ad106 (W ++ [((1 : Int) : Rat)]).length c106) (W ++ [((1 : Int) : Rat)]).length (cellsOf encQ (W ++ [((1 : Int) : Rat)])) o106 := by rw [cellsOf_append, cellsOf_one]; exact hG106
            refine yp rfl (.fieldAddr rfl (fa_58_1 _ _)) (yt rfl rfl rfl (st_2_1_1 _ _ _) uu Tryz.sizeOf56 rfl nb (by show ((flat ((.slice ad106 (W ++ [((1 : Int) : Rat)]).length c106)) && true)) = true; simp only [GrowO.flat (hG106)]; rfl) ?_)
            refine yn (zs (zr ?_)); intro a w h
            obtain ⟨nw, hnw, hne⟩ : ∃ nw, (W ++ [((1 : Int) : Rat)]).length = nw ∧ P.length ≠ nw := ⟨_, rfl, by rw [List.length_append]; simp only [List.length_singleton]; omega⟩
            obtain ⟨adw, hadw⟩ : ∃ x, ad106 = x := ⟨_, rfl⟩
            obtain ⟨cw, hcw⟩ : ∃ x, c106 = x := ⟨_, rfl⟩
            rw [hnw, hadw, hcw] at h
            replace h := h.drop (List.sublist_append_right _ _)
            refine gL h (zp (.fieldAddr rfl (fa_58_1 _ _)) (zd rfl mr Tryz.isAgg56 Tryz.sizeOf56 (rs_2_1 _ _) ?_)); clear h; intro a w h
            refine gL h (zp (.build [(_, _)] rfl (bd_71_1 _ _ _)) (zz Tryz.zeroValue71 fun b24 => zt' rfl rfl (st_2_0_2 _ _ _ _) uu Tryz.sizeOf71 rfl nb rfl ?_)); clear h; intro a w h
            refine gL h (zn (zs (zs (zr (za rfl (zn (zb ?_))))))); clear h; intro a w h
            refine wp_loop_inv (fun (i : Nat) a w => i ≤ ww.length ∧ ∃ (ad1 : Option Addr) (c1 : Nat) (o1 : List (Nat × Obj)), (GrowO 5 52 (.slice ad1 (lstT (fun j => qa (flW ww) (3 * j + 0)) i).length c1) (lstT (fun j => qa (flW ww) (3 * j + 0)) i).length (cellsOf encQ (lstT (fun j => qa (flW ww) (3 * j + 0)) i)) o1) ∧ St 168 S w0 [(0, .slice ad0 ww.length c0), (16, .bool false), (17, .slice ad37 ((G).length) c37), (18, .pointer (some ⟨b18, 0, none⟩)), (19, .pointer (some ⟨b19, 0, none⟩)), (20, .pointer (some ⟨b20, 0, none⟩)), (23, .pointer (some ⟨b23, 0, none⟩)), (24, .pointer (some ⟨b24, 0, none⟩)), (25, .int .i64 ((i : Nat) : Int))] (o1 ++ ((b24, .cells (Value.cells (.agg #[(.slice ad1 (lstT (fun j => qa (flW ww) (3 * j + 0)) i).length c1), .slice adw nw cw])) 71 (0, 0)) :: ((b23, .cells (Value.cells (.agg #[.slice ad95 P.length c95, .slice adw nw cw])) 58 (0, 0)) :: ((b20, .cells (Value.cells (encV ((ptv qz).1) ((ptv qz).2))) 53 (0, 0)) :: ((b19, .cells (Value.cells (encV ((ptv qy).1) ((ptv qy).2))) 53 (0, 0)) :: ((b18, .cells (Value.cells (encV ((ptv qx).1) ((ptv qx).2))) 53 (0, 0)) :: [])))))) [Row ad95 (cellsOf encP P), Row ad0 (cellsOf encQ2 (flW ww)), Row ad37 (cellsOf encT G), Row ad (cellsOf encTi l)] a w) (fun i => ww.length - i) 0 (⟨Nat.zero_le _, none, 0, [], GrowO.nil _ _, by exact ((h.drop sl)).sub (subL ⟨rfl, rfl, rfl, rfl, rfl, rfl, rfl, rfl, rfl, trivial⟩)⟩) ?_; clear h
            rintro i a w ⟨hi_i, ad1, c1, o1, hG1, h⟩
            refine gC h (zs (zs (zr (zm rfl (zm rfl (zp (.builtin [_] rfl (len_slice_40 _ _ _)) (zp (.lss rfl rfl) (zn ?_)))))))); clear h; intro a w h
            change Code.wp _ _ _ _ _
            refine cond_split h rfl (fun hc118 => ?_) (fun hc118 => ?_)
            · skip
              have hlt_i : i < ww.length := by have := of_decide_eq_true hc118; omega
              obtain ⟨B_ad0, O_ad0, rfl⟩ := h.row_addr (ad := ad0) (M := cellsOf encQ2 (flW ww)) mm (by intro e; have := congrArg List.length e; rw [cellsOf_length (k := 2) (fun _ => rfl)] at this; simp only [List.length_nil, Nat.mul_eq_zero] at this; omega)
              obtain ⟨hq0a, hq0b, hq0c, hq0d⟩ := hokw _ (getD_mem (flW ww) (i := 3 * i + 0) (d := (0, 0)) (by omega))
              have hg1 := lstT_len (fun j => qa (flW ww) (3 * j + 0)) i
              refine gC h (zk (zs (zb (yD mixed_YtkhnecelhpnaoaaGreatDoor [0, 1, 2, 3, 4, 5, 6, 7, 8, 9, 10, 11] (floatsOK_none (by kernel_rfl)) (yp rfl (.fieldAddr rfl (fa_71_0 _ _)) (yd rfl rfl mr Tryz.isAgg56 Tryz.sizeOf56 (rs_2_0 _ _) ?_)))))); clear h
              refine yp rfl (.move rfl) (yp rfl (.move rfl) (yp rfl (.indexAddr rfl rfl (ix_40 _ _ _ _ _ (by omega))) (yp rfl (Pure1.cast (v' := .pointer (some ⟨B_ad0, O_ad0 + (3 * i + 0) * 2, none⟩)) (.fieldAddr rfl (fa_73_0 _ _)) (by rw [show O_ad0 + i * 6 + 0 = O_ad0 + (3 * i + 0) * 2 by omega])) ?_)))
              refine head_loadRow rfl (by kernel_rfl) rfl mm (cells_lt (k := 2) (by decide) (fun _ => rfl) (flW ww) (3 * i + 0) (by omega)) Tryz.isAgg24 Tryz.sizeOf24 (read_cells (k := 2) (fun _ => rfl) ((fun _ => rfl)) (flW ww) (0, 0) (3 * i + 0) (by omega)) (.inl rfl) (by decide) ?_
              refine yv [_] rfl rfl Tryz.call23 (C_qOf (((flW ww).getD (3 * i + 0) (0, 0)).1) (((flW ww).getD (3 * i + 0) (0, 0)).2) (by omega) (by omega) (by omega) (by omega)) ?_
              have hl128 := lenQ_qv (((flW ww).getD (3 * i + 0) (0, 0)).1) (((flW ww).getD (3 * i + 0) (0, 0)).2) (by omega) (by omega) (by omega) (by omega)
              refine yB rfl [(_, _)] rfl (bs_56_1_0 _ _ _ _ _) fun b129 => ?_
              refine head_appendO (σr := [(b24, .cells (Value.cells (.agg #[(.slice ad1 (lstT (fun j => qa (flW ww) (3 * j + 0)) i).length c1), .slice adw nw cw])) 71 (0, 0)), (b23, .cells (Value.cells (.agg #[.slice ad95 P.length c95, .slice adw nw cw])) 58 (0, 0)), (b20, .cells (Value.cells (encV ((ptv qz).1) ((ptv qz).2))) 53 (0, 0)), (b19, .cells (Value.cells (encV ((ptv qy).1) ((ptv qy).2))) 53 (0, 0)), (b18, .cells (Value.cells (encV ((ptv qx).1) ((ptv qx).2))) 53 (0, 0))]) rfl (by kernel_rfl) rfl rfl (List.Perm.trans (List.Perm.refl _) (List.Perm.cons _ (List.Perm.refl _))) hG1 Tryz.runUnderlying56 Tryz.runUnderlying56 Tryz.typeInfo52 Tryz.sizeOf52 zeroQ rfl (by decide) (by decide) rfl rfl (by decide) (by show 56 * (2 * ((lstT (fun j => qa (flW ww) (3 * j + 0)) i).length + 1) + 192) ≤ 281474976710656; omega) (by decide) ?_
              intro v130 o130 hG130
              obtain ⟨ad130, c130, rfl⟩ := hG130.is
              have hLn130 : (lstT (fun j => qa (flW ww) (3 * j + 0)) i).length + 1 = ((lstT (fun j => qa (flW ww) (3 * j + 0)) i) ++ [qv (((flW ww).getD (3 * i + 0) (0, 0)).1) (((flW ww).getD (3 * i + 0) (0, 0)).2)]).length := by simp only [List.length_append, List.length_cons, List.length_nil, Nat.zero_add]
              rw [hLn130]; rw [hLn130] at hG130
              replace hG130 : GrowO 5 52 (.slice ad130 ((lstT (fun j => qa (flW ww) (3 * j + 0)) i) ++ [qv (((flW ww).getD (3 * i + 0) (0, 0)).1) (((flW ww).getD (3 * i + 0) (0, 0)).2)]).length c130) ((lstT (fun j => qa (flW ww) (3 * j + 0)) i) ++ [qv (((flW ww).getD (3 * i + 0) (0, 0)).1) (((flW ww).getD (3 * i + 0) (0, 0)).2)]).length (cellsOf encQ ((lstT (fun j => qa (flW ww) (3 * j + 0)) i) ++ [qv (((flW ww).getD (3 * i + 0) (0, 0)).1) (((flW ww).getD (3 * i + 0) (0, 0)).2)])) o130 := by rw [cellsOf_append, cellsOf_one]; exact hG130
              refine yp rfl (.fieldAddr rfl (fa_71_0 _ _)) (yt rfl rfl rfl (st_2_0_1 _ _ _) uu Tryz.sizeOf56 rfl nb (by show ((flat ((.slice ad130 ((lstT (fun j => qa (flW ww) (3 * j + 0)) i) ++ [qv (((flW ww).getD (3 * i + 0) (0, 0)).1) (((flW ww).getD (3 * i + 0) (0, 0)).2)]).length c130)) && true)) = true; simp only [GrowO.flat (hG130)]; rfl) ?_)
              refine yn (zr (zm rfl (zp (Pure1.cast (v' := (.int .i64 ((i + 1 : Nat) : Int))) (.add rfl rfl) (by show Value.int _ _ = Value.int _ _; congr 1)) (za rfl (zn ?_))))); intro a w h
              exact ⟨i + 1, ⟨by omega, ad130, c130, o130, hG130, by exact (h.factsSub (by simp)).sub sA⟩, by omega⟩
            · skip
              have heq_i : ww.length = i := by have := of_decide_eq_false hc118; omega
              subst heq_i
              refine gC h (ze (zs (zr (zd rfl mr Tryz.isAgg58 Tryz.sizeOf58 (rd_2_0_2 _ _) ?_)))); clear h; intro a w h
              refine gL h (zm rfl (zd rfl mr Tryz.isAgg53 Tryz.sizeOf53 (rd_10_0_10 _ _ _ _ _ _ _ _ _ _) ?_)); clear h; intro a w h
              refine gL h (zd rfl mr Tryz.isAgg53 Tryz.sizeOf53 (rd_10_0_10 _ _ _ _ _ _ _ _ _ _) ?_); clear h; intro a w h
              refine gL h (zd rfl mr Tryz.isAgg53 Tryz.sizeOf53 (rd_10_0_10 _ _ _ _ _ _ _ _ _ _) ?_); clear h; intro a w h
              refine gL h (zv [_, _, _, _, _] rfl Tryz.call27 (C_Apply_ne ad95 adw P.length nw c95 cw hne ad37 G.length c37 (ptv qx) (ptv qy) (ptv qz)) (zp (Pure1.cast (v' := encQ 0) (.build [] rfl (bd_52_z)) (by exact zero_enc)) (zp (.binOp rfl rfl (fun _ => run_eqQ _ _ 0 0 _)) ?_))); clear h; intro a w h
              refine by_bool h (fun hc139 h => ?_) (fun hc139 h => (by exfalso; exact absurd hc139 (by decide)))
              refine gL h (zm rfl ?_); clear h; intro a w h
              refine wpl_guard 140 h rfl rfl (op_load h rfl mr Tryz.isAgg71 Tryz.sizeOf71 (rd_2_0_2 _ _) (by decide) ?_); clear h; intro a h
              refine gL h (zq 140 rfl rfl (.move rfl) ?_); clear h; intro a w h
              refine wpl_guard 140 h rfl rfl (op_load h rfl mr Tryz.isAgg53 Tryz.sizeOf53 (rd_10_0_10 _ _ _ _ _ _ _ _ _ _) (by decide) ?_); clear h; intro a h
              refine wpl_guard 140 h rfl rfl (op_load h rfl mr Tryz.isAgg53 Tryz.sizeOf53 (rd_10_0_10 _ _ _ _ _ _ _ _ _ _) (by decide) ?_); clear h; intro a h
              refine wpl_guard 140 h rfl rfl (op_callV h (vs := [_, _, _, _]) rfl Tryz.call29 (C_ApplyLine_ne ad1 adw (lstT (fun j => qa (flW ww) (3 * j + 0)) ww.length).length nw c1 cw (by rw [lstT_len]; omega) ad37 G.length c37 (ptv qx) (ptv qy)) (by decide) ?_); clear h; intro a w h
              refine gL h (zq 140 rfl rfl (Pure1.cast (v' := encQ 0) (.build [] rfl (bd_52_z)) (by exact zero_enc)) (zq 140 rfl rfl (.binOp rfl rfl (fun _ => run_eqQ _ _ 0 0 _)) ?_)); clear h; intro a w h
              refine by_bool h (fun hc147 h => ?_) (fun hc147 h => (by exfalso; exact absurd hc147 (by decide)))
              refine gL h (zp (.pickT rfl rfl) (za rfl (zn (zs (zr (zd rfl mr Tryz.isAgg58 Tryz.sizeOf58 (rd_2_0_2 _ _) ?_)))))); clear h; intro a w h
              refine gL h (zv [_] rfl Tryz.call25 (C_Check_ne ad95 adw P.length nw c95 cw hne) (zp (.eql rfl rfl) ?_)); clear h; intro a w h
              refine by_bool h (fun hc151 h => ?_) (fun hc151 h => (by exfalso; exact absurd hc151 (by decide)))
              refine gL h (zm rfl ?_); clear h; intro a w h
              refine wpl_guard 152 h rfl rfl (op_load h rfl mr Tryz.isAgg58 Tryz.sizeOf58 (rd_2_0_2 _ _) (by decide) ?_); clear h; intro a h
              refine wpl_guard 152 h rfl rfl (op_callV h (vs := [_]) rfl Tryz.call26 (C_Exact_ne ad95 adw P.length nw c95 cw hne) (by decide) ?_); clear h; intro a w h
              refine gL h (zq 152 rfl rfl (.eql rfl rfl) ?_); clear h; intro a w h
              refine by_bool h (fun hc155 h => ?_) (fun hc155 h => (by exfalso; exact absurd hc155 (by decide)))
              refine gL h (zp (.pickT rfl rfl) (zm rfl ?_)); clear h; intro a w h
              refine wpl_guard 157 h rfl rfl (op_load h rfl mr Tryz.isAgg71 Tryz.sizeOf71 (rd_2_0_2 _ _) (by decide) ?_); clear h; intro a h
              refine wpl_guard 157 h rfl rfl (op_callV h (vs := [_]) rfl Tryz.call30 (C_ExactLine_ne ad1 adw (lstT (fun j => qa (flW ww) (3 * j + 0)) ww.length).length nw c1 cw (by rw [lstT_len]; omega)) (by decide) ?_); clear h; intro a w h
              refine gL h (zq 157 rfl rfl (.eql rfl rfl) ?_); clear h; intro a w h
              refine by_bool h (fun hc160 h => ?_) (fun hc160 h => (by exfalso; exact absurd hc160 (by decide)))
              refine gL h (zp (.pickT rfl rfl) (zm rfl (zq 162 rfl rfl (.move rfl) (zp (.pickT rfl rfl) (zm rfl ?_))))); clear h; intro a w h
              refine wpl_guard 165 h rfl rfl (op_callV h (vs := []) rfl Tryz.call18 (C_works) (by decide) ?_); clear h; intro a w h
              refine gL h (zp (.pickT rfl rfl) (za rfl (zn (zt ?_)))); clear h; intro a w h
              refine retV h (results1 h rfl (.tmp rfl)) ?_
              rfl
          · skip
            refine gL h (zq 97 rfl rfl (.move rfl) (zq 97 rfl rfl (.builtin [_] rfl (len_slice_40 _ _ _)) (zq 97 rfl rfl (.eql rfl rfl) ?_))); clear h; intro a w h
            refine by_bool h (fun hc100 h => (by exfalso; have := of_decide_eq_true hc100; omega)) (fun hc100 h => ?_)
            refine gL h (zp (.pickF rfl rfl) (zn ?_)); clear h; intro a w h
            change Code.wp _ _ _ _ _
            refine cond_false h rfl ?_
            refine wp_region_lit ?_
            obtain ⟨bW, RW, rfl, rfl, hRW, hcW⟩ := hH95.open (by omega)
            rw [List.cons_append, List.nil_append] at h
            refine gL h (zp (.fieldAddr rfl (fa_58_1 _ _)) (zd rfl mr Tryz.isAgg56 Tryz.sizeOf56 (rs_2_1 _ _) ?_)); clear h; intro a w h
            refine gL h (zp (.slice rfl (some _) none none rfl rfl rfl (slo_56 _ _ _ _ _ (by show 1 ≤ W.length; omega))) (zp (.fieldAddr rfl (fa_58_1 _ _)) (zt' rfl rfl (st_2_1_1 _ _ _) uu Tryz.sizeOf56 rfl nb rfl ?_))); clear h; intro a w h
            refine wpList_nil (wp_seq (wp_region_lit ?_))
            obtain ⟨nw, hnw, hne⟩ : ∃ nw, W.length - 1 = nw ∧ P.length ≠ nw := ⟨_, rfl, by omega⟩
            obtain ⟨adw, hadw⟩ : ∃ x, some (⟨bW, if d95 = 1 then 0 else 0 + 1 * 5, none⟩ : Addr) = x := ⟨_, rfl⟩
            obtain ⟨cw, hcw⟩ : ∃ x, d95 - 1 = x := ⟨_, rfl⟩
            rw [hnw, hadw, hcw] at h
            replace h := h.drop (List.Sublist.cons_cons _ (List.sublist_cons_self _ _))
            refine gL h (zp (.fieldAddr rfl (fa_58_1 _ _)) (zd rfl mr Tryz.isAgg56 Tryz.sizeOf56 (rs_2_1 _ _) ?_)); clear h; intro a w h
            refine gL h (zp (.build [(_, _)] rfl (bd_71_1 _ _ _)) (zz Tryz.zeroValue71 fun b24 => zt' rfl rfl (st_2_0_2 _ _ _ _) uu Tryz.sizeOf71 rfl nb rfl ?_)); clear h; intro a w h
            refine gL h (zn (zs (zs (zr (za rfl (zn (zb ?_))))))); clear h; intro a w h
            refine wp_loop_inv (fun (i : Nat) a w => i ≤ ww.length ∧ ∃ (ad1 : Option Addr) (c1 : Nat) (o1 : List (Nat × Obj)), (GrowO 5 52 (.slice ad1 (lstT (fun j => qa (flW ww) (3 * j + 0)) i).length c1) (lstT (fun j => qa (flW ww) (3 * j + 0)) i).length (cellsOf encQ (lstT (fun j => qa (flW ww) (3 * j + 0)) i)) o1) ∧ St 168 S w0 [(0, .slice ad0 ww.length c0), (16, .bool false), (17, .slice ad37 ((G).length) c37), (18, .pointer (some ⟨b18, 0, none⟩)), (19, .pointer (some ⟨b19, 0, none⟩)), (20, .pointer (some ⟨b20, 0, none⟩)), (23, .pointer (some ⟨b23, 0, none⟩)), (24, .pointer (some ⟨b24, 0, none⟩)), (25, .int .i64 ((i : Nat) : Int))] (o1 ++ ((b24, .cells (Value.cells (.agg #[(.slice ad1 (lstT (fun j => qa (flW ww) (3 * j + 0)) i).length c1), .slice adw nw cw])) 71 (0, 0)) :: ((b23, .cells (Value.cells (.agg #[.slice ad95 P.length c95, .slice adw nw cw])) 58 (0, 0)) :: ((b20, .cells (Value.cells (encV ((ptv qz).1) ((ptv qz).2))) 53 (0, 0)) :: ((b19, .cells (Value.cells (encV ((ptv qy).1) ((ptv qy).2))) 53 (0, 0)) :: ((b18, .cells (Value.cells (encV ((ptv qx).1) ((ptv qx).2))) 53 (0, 0)) :: [])))))) [Row ad95 (cellsOf encP P), Row ad0 (cellsOf encQ2 (flW ww)), Row ad37 (cellsOf encT G), Row ad (cellsOf encTi l)] a w) (fun i => ww.length - i) 0 (⟨Nat.zero_le _, none, 0, [], GrowO.nil _ _, by exact ((h.drop sl)).sub (subL ⟨rfl, rfl, rfl, rfl, rfl, rfl, rfl, rfl, rfl, trivial⟩)⟩) ?_; clear h
            rintro i a w ⟨hi_i, ad1, c1, o1, hG1, h⟩
            refine gC h (zs (zs (zr (zm rfl (zm rfl (zp (.builtin [_] rfl (len_slice_40 _ _ _)) (zp (.lss rfl rfl) (zn ?_)))))))); clear h; intro a w h
            change Code.wp _ _ _ _ _
            refine cond_split h rfl (fun hc118 => ?_) (fun hc118 => ?_)
            · skip
              have hlt_i : i < ww.length := by have := of_decide_eq_true hc118; omega
              obtain ⟨B_ad0, O_ad0, rfl⟩ := h.row_addr (ad := ad0) (M := cellsOf encQ2 (flW ww)) mm (by intro e; have := congrArg List.length e; rw [cellsOf_length (k := 2) (fun _ => rfl)] at this; simp only [List.length_nil, Nat.mul_eq_zero] at this; omega)
              obtain ⟨hq0a, hq0b, hq0c, hq0d⟩ := hokw _ (getD_mem (flW ww) (i := 3 * i + 0) (d := (0, 0)) (by omega))
              have hg1 := lstT_len (fun j => qa (flW ww) (3 * j + 0)) i
              refine gC h (zk (zs (zb (yD mixed_YtkhnecelhpnaoaaGreatDoor [0, 1, 2, 3, 4, 5, 6, 7, 8, 9, 10, 11] (floatsOK_none (by kernel_rfl)) (yp rfl (.fieldAddr rfl (fa_71_0 _ _)) (yd rfl rfl mr Tryz.isAgg56 Tryz.sizeOf56 (rs_2_0 _ _) ?_)))))); clear h
              refine yp rfl (.move rfl) (yp rfl (.move rfl) (yp rfl (.indexAddr rfl rfl (ix_40 _ _ _ _ _ (by omega))) (yp rfl (Pure1.cast (v' := .pointer (some ⟨B_ad0, O_ad0 + (3 * i + 0) * 2, none⟩)) (.fieldAddr rfl (fa_73_0 _ _)) (by rw [show O_ad0 + i * 6 + 0 = O_ad0 + (3 * i + 0) * 2 by omega])) ?_)))
              refine head_loadRow rfl (by kernel_rfl) rfl mm (cells_lt (k := 2) (by decide) (fun _ => rfl) (flW ww) (3 * i + 0) (by omega)) Tryz.isAgg24 Tryz.sizeOf24 (read_cells (k := 2) (fun _ => rfl) ((fun _ => rfl)) (flW ww) (0, 0) (3 * i + 0) (by omega)) (.inl rfl) (by decide) ?_
              refine yv [_] rfl rfl Tryz.call23 (C_qOf (((flW ww).getD (3 * i + 0) (0, 0)).1) (((flW ww).getD (3 * i + 0) (0, 0)).2) (by omega) (by omega) (by omega) (by omega)) ?_
              have hl128 := lenQ_qv (((flW ww).getD (3 * i + 0) (0, 0)).1) (((flW ww).getD (3 * i + 0) (0, 0)).2) (by omega) (by omega) (by omega) (by omega)
              refine yB rfl [(_, _)] rfl (bs_56_1_0 _ _ _ _ _) fun b129 => ?_
              refine head_appendO (σr := [(b24, .cells (Value.cells (.agg #[(.slice ad1 (lstT (fun j => qa (flW ww) (3 * j + 0)) i).length c1), .slice adw nw cw])) 71 (0, 0)), (b23, .cells (Value.cells (.agg #[.slice ad95 P.length c95, .slice adw nw cw])) 58 (0, 0)), (b20, .cells (Value.cells (encV ((ptv qz).1) ((ptv qz).2))) 53 (0, 0)), (b19, .cells (Value.cells (encV ((ptv qy).1) ((ptv qy).2))) 53 (0, 0)), (b18, .cells (Value.cells (encV ((ptv qx).1) ((ptv qx).2))) 53 (0, 0))]) rfl (by kernel_rfl) rfl rfl (List.Perm.trans (List.Perm.refl _) (List.Perm.cons _ (List.Perm.refl _))) hG1 Tryz.runUnderlying56 Tryz.runUnderlying56 Tryz.typeInfo52 Tryz.sizeOf52 zeroQ rfl (by decide) (by decide) rfl rfl (by decide) (by show 56 * (2 * ((lstT (fun j => qa (flW ww) (3 * j + 0)) i).length + 1) + 192) ≤ 281474976710656; omega) (by decide) ?_
              intro v130 o130 hG130
              obtain ⟨ad130, c130, rfl⟩ := hG130.is
              have hLn130 : (lstT (fun j => qa (flW ww) (3 * j + 0)) i).length + 1 = ((lstT (fun j => qa (flW ww) (3 * j + 0)) i) ++ [qv (((flW ww).getD (3 * i + 0) (0, 0)).1) (((flW ww).getD (3 * i + 0) (0, 0)).2)]).length := by simp only [List.length_append, List.length_cons, List.length_nil, Nat.zero_add]
              rw [hLn130]; rw [hLn130] at hG130
              replace hG130 : GrowO 5 52 (.slice ad130 ((lstT (fun j => qa (flW ww) (3 * j + 0)) i) ++ [qv (((flW ww).getD (3 * i + 0) (0, 0)).1) (((flW ww).getD (3 * i + 0) (0, 0)).2)]).length c130) ((lstT (fun j => qa (flW ww) (3 * j + 0)) i) ++ [qv (((flW ww).getD (3 * i + 0) (0, 0)).1) (((flW ww).getD (3 * i + 0) (0, 0)).2)]).length (cellsOf encQ ((lstT (fun j => qa (flW ww) (3 * j + 0)) i) ++ [qv (((flW ww).getD (3 * i + 0) (0, 0)).1) (((flW ww).getD (3 * i + 0) (0, 0)).2)])) o130 := by rw [cellsOf_append, cellsOf_one]; exact hG130
              refine yp rfl (.fieldAddr rfl (fa_71_0 _ _)) (yt rfl rfl rfl (st_2_0_1 _ _ _) uu Tryz.sizeOf56 rfl nb (by show ((flat ((.slice ad130 ((lstT (fun j => qa (flW ww) (3 * j + 0)) i) ++ [qv (((flW ww).getD (3 * i + 0) (0, 0)).1) (((flW ww).getD (3 * i + 0) (0, 0)).2)]).length c130)) && true)) = true; simp only [GrowO.flat (hG130)]; rfl) ?_)
              refine yn (zr (zm rfl (zp (Pure1.cast (v' := (.int .i64 ((i + 1 : Nat) : Int))) (.add rfl rfl) (by show Value.int _ _ = Value.int _ _; congr 1)) (za rfl (zn ?_))))); intro a w h
              exact ⟨i + 1, ⟨by omega, ad130, c130, o130, hG130, by exact (h.factsSub (by simp)).sub sA⟩, by omega⟩
            · skip
              have heq_i : ww.length = i := by have := of_decide_eq_false hc118; omega
              subst heq_i
              refine gC h (ze (zs (zr (zd rfl mr Tryz.isAgg58 Tryz.sizeOf58 (rd_2_0_2 _ _) ?_)))); clear h; intro a w h
              refine gL h (zm rfl (zd rfl mr Tryz.isAgg53 Tryz.sizeOf53 (rd_10_0_10 _ _ _ _ _ _ _ _ _ _) ?_)); clear h; intro a w h
              refine gL h (zd rfl mr Tryz.isAgg53 Tryz.sizeOf53 (rd_10_0_10 _ _ _ _ _ _ _ _ _ _) ?_); clear h; intro a w h
              refine gL h (zd rfl mr Tryz.isAgg53 Tryz.sizeOf53 (rd_10_0_10 _ _ _ _ _ _ _ _ _ _) ?_); clear h; intro a w h
              refine gL h (zv [_, _, _, _, _] rfl Tryz.call27 (C_Apply_ne ad95 adw P.length nw c95 cw hne ad37 G.length c37 (ptv qx) (ptv qy) (ptv qz)) (zp (Pure1.cast (v' := encQ 0) (.build [] rfl (bd_52_z)) (by exact zero_enc)) (zp (.binOp rfl rfl (fun _ => run_eqQ _ _ 0 0 _)) ?_))); clear h; intro a w h
              refine by_bool h (fun hc139 h => ?_) (fun hc139 h => (by exfalso; exact absurd hc139 (by decide)))
              refine gL h (zm rfl ?_); clear h; intro a w h
              refine wpl_guard 140 h rfl rfl (op_load h rfl mr Tryz.isAgg71 Tryz.sizeOf71 (rd_2_0_2 _ _) (by decide) ?_); clear h; intro a h
              refine gL h (zq 140 rfl rfl (.move rfl) ?_); clear h; intro a w h
              refine wpl_guard 140 h rfl rfl (op_load h rfl mr Tryz.isAgg53 Tryz.sizeOf53 (rd_10_0_10 _ _ _ _ _ _ _ _ _ _) (by decide) ?_); clear h; intro a h
              refine wpl_guard 140 h rfl rfl (op_load h rfl mr Tryz.isAgg53 Tryz.sizeOf53 (rd_10_0_10 _ _ _ _ _ _ _ _ _ _) (by decide) ?_); clear h; intro a h
              refine wpl_guard 140 h rfl rfl (op_callV h (vs := [_, _, _, _]) rfl Tryz.call29 (C_ApplyLine_ne ad1 adw (lstT (fun j => qa (flW ww) (3 * j + 0)) ww.length).length nw c1 cw (by rw [lstT_len]; omega) ad37 G.length c37 (ptv qx) (ptv qy)) (by decide) ?_); clear h; intro a w h
              refine gL h (zq 140 rfl rfl (Pure1.cast (v' := encQ 0) (.build [] rfl (bd_52_z)) (by exact zero_enc)) (zq 140 rfl rfl (.binOp rfl rfl (fun _ => run_eqQ _ _ 0 0 _)) ?_)); clear h; intro a w h
              refine by_bool h (fun hc147 h => ?_) (fun hc147 h => (by exfalso; exact absurd hc147 (by decide)))
              refine gL h (zp (.pickT rfl rfl) (za rfl (zn (zs (zr (zd rfl mr Tryz.isAgg58 Tryz.sizeOf58 (rd_2_0_2 _ _) ?_)))))); clear h; intro a w h
              refine gL h (zv [_] rfl Tryz.call25 (C_Check_ne ad95 adw P.length nw c95 cw hne) (zp (.eql rfl rfl) ?_)); clear h; intro a w h
              refine by_bool h (fun hc151 h => ?_) (fun hc151 h => (by exfalso; exact absurd hc151 (by decide)))
              refine gL h (zm rfl ?_); clear h; intro a w h
              refine wpl_guard 152 h rfl rfl (op_load h rfl mr Tryz.isAgg58 Tryz.sizeOf58 (rd_2_0_2 _ _) (by decide) ?_); clear h; intro a h
              refine wpl_guard 152 h rfl rfl (op_callV h (vs := [_]) rfl Tryz.call26 (C_Exact_ne ad95 adw P.length nw c95 cw hne) (by decide) ?_); clear h; intro a w h
              refine gL h (zq 152 rfl rfl (.eql rfl rfl) ?_); clear h; intro a w h
              refine by_bool h (fun hc155 h => ?_) (fun hc155 h => (by exfalso; exact absurd hc155 (by decide)))
              refine gL h (zp (.pickT rfl rfl) (zm rfl ?_)); clear h; intro a w h
              refine wpl_guard 157 h rfl rfl (op_load h rfl mr Tryz.isAgg71 Tryz.sizeOf71 (rd_2_0_2 _ _) (by decide) ?_); clear h; intro a h
              refine wpl_guard 157 h rfl rfl (op_callV h (vs := [_]) rfl Tryz.call30 (C_ExactLine_ne ad1 adw (lstT (fun j => qa (flW ww) (3 * j + 0)) ww.length).length nw c1 cw (by rw [lstT_len]; omega)) (by decide) ?_); clear h; intro a w h
              refine gL h (zq 157 rfl rfl (.eql rfl rfl) ?_); clear h; intro a w h
              refine by_bool h (fun hc160 h => ?_) (fun hc160 h => (by exfalso; exact absurd hc160 (by decide)))
              refine gL h (zp (.pickT rfl rfl) (zm rfl (zq 162 rfl rfl (.move rfl) (zp (.pickT rfl rfl) (zm rfl ?_))))); clear h; intro a w h
              refine wpl_guard 165 h rfl rfl (op_callV h (vs := []) rfl Tryz.call18 (C_works) (by decide) ?_); clear h; intro a w h
              refine gL h (zp (.pickT rfl rfl) (za rfl (zn (zt ?_)))); clear h; intro a w h
              refine retV h (results1 h rfl (.tmp rfl)) ?_
              rfl
      · skip
        have hz0 : ww.length = 0 := by have := of_decide_eq_false hc48; omega
        replace h := h.drop (List.Sublist.cons _ (List.sublist_append_right _ _))
        refine wpList_nil ?_
        change Code.wp _ _ _ _ _
        refine cond_false h rfl ?_
        refine wp_skip (wp_seq (wp_region_lit ?_))
        replace h := h.factsSub (Φ' := [Row ad0 (cellsOf encQ2 (flW ww)), Row ad37 (cellsOf encT G), Row ad (cellsOf encTi l)]) (by intro R hR; simp only [List.mem_cons, List.not_mem_nil, or_false] at hR; rcases hR with rfl | rfl | rfl <;> repeat (first | exact List.Mem.head _ | apply List.Mem.tail))
        refine gL h (zm rfl ?_); clear h; intro a w h
        refine wpl_plain (op_callM h hS (vs := [_]) rfl Tryz.call21 (C_madeM _ _ ww _ [Row ad37 (cellsOf encT G), Row ad (cellsOf encTi l)] hokw (by omega)) (List.Perm.refl _) (by simp) (by simp) ?_); clear h; rintro v95 σ95 Ψ95 a w ⟨ad95, c95, o95, bd95, d95, p95, rfl, hG95, hH95, rfl, rfl⟩ h
        rw [← hP] at h hG95
        rw [← hW] at h hH95
        replace h := St.shareO' h hS hG95
        refine gL h (zz Tryz.zeroValue58 fun b23 => zt' rfl rfl (st_2_0_2 _ _ _ _) uu Tryz.sizeOf58 rfl nb (by show ((flat (.slice ad95 P.length c95) && (flat (.slice bd95 W.length d95) && true))) = true; simp only [GrowO.flat (hH95)]; rfl) ?_); clear h; intro a w h
        refine gL h (zn (zs (zs (zr (zm rfl (zm rfl ?_)))))); clear h; intro a w h
        refine by_bool h (fun hc97 h => ?_) (fun hc97 h => ?_)
        · skip
          refine gL h (zo 97 rfl rfl rfl (zo 97 rfl rfl rfl (zo 97 rfl rfl rfl (zp (.pickT rfl rfl) (zn ?_))))); clear h; intro a w h
          change Code.wp _ _ _ _ _
          refine cond_true h rfl ?_
          refine gC h (yD mixed_YtkhnecelhpnaoaaGreatDoor [0, 1, 2, 3, 4, 5, 6] (floatsOK_none (by kernel_rfl)) (yp rfl (.fieldAddr rfl (fa_58_1 _ _)) (yd rfl rfl mr Tryz.isAgg56 Tryz.sizeOf56 (rs_2_1 _ _) ?_))); clear h
          refine yv [_] rfl rfl Tryz.call28 (C_QInt _ (by omega) (by omega)) ?_
          have hl104 := lenQ_int (1) (by omega) (by omega)
          refine yB rfl [(_, _)] rfl (bs_56_1_0 _ _ _ _ _) fun b105 => ?_
          refine head_appendO (σr := [(b23, .cells (Value.cells (.agg #[.slice ad95 P.length c95, (.slice bd95 W.length d95)])) 58 (0, 0)), (b20, .cells (Value.cells (encV ((ptv qz).1) ((ptv qz).2))) 53 (0, 0)), (b19, .cells (Value.cells (encV ((ptv qy).1) ((ptv qy).2))) 53 (0, 0)), (b18, .cells (Value.cells (encV ((ptv qx).1) ((ptv qx).2))) 53 (0, 0)), (b15, .cells (Value.cells (encPQ (qz))) 27 (0, 0)), (b14, .cells (Value.cells (encPQ (qy))) 27 (0, 0)), (b13, .cells (Value.cells (encPQ (qx))) 27 (0, 0)), (b10, .cells (Value.cells (.agg #[.int .i64 bq.1, .int .u32 bq.2])) 24 (0, 0))]) rfl (by kernel_rfl) rfl rfl (List.Perm.trans (List.Perm.refl _) (List.Perm.cons _ (pm_ca (List.Perm.refl _)))) hH95 Tryz.runUnderlying56 Tryz.runUnderlying56 Tryz.typeInfo52 Tryz.sizeOf52 zeroQ rfl (by decide) (by decide) rfl rfl (by decide) (by show 56 * (2 * ((W).length + 1) + 192) ≤ 281474976710656; omega) (by decide) ?_
          intro v106 o106 hG106
          obtain ⟨ad106, c106, rfl⟩ := hG106.is
          have hLn106 : (W).length + 1 = (W ++ [((1 : Int) : Rat)]).length := by simp only [List.length_append, List.length_cons, List.length_nil, Nat.zero_add]
          rw [hLn106]; rw [hLn106] at hG106
          replace hG106 : GrowO 5 52 (.slice ad106 (W ++ [((1 : Int) : Rat)]).length c106) (W ++ [((1 : Int) : Rat)]).length (cellsOf encQ (W ++ [((1 : Int) : Rat)])) o106 := by rw [cellsOf_append, cellsOf_one]; exact hG106
          refine yp rfl (.fieldAddr rfl (fa_58_1 _ _)) (yt rfl rfl rfl (st_2_1_1 _ _ _) uu Tryz.sizeOf56 rfl nb (by show ((flat ((.slice ad106 (W ++ [((1 : Int) : Rat)]).length c106)) && true)) = true; simp only [GrowO.flat (hG106)]; rfl) ?_)
          refine yn (zs (zr ?_)); intro a w h
          obtain ⟨nw, hnw, hne⟩ : ∃ nw, (W ++ [((1 : Int) : Rat)]).length = nw ∧ P.length ≠ nw := ⟨_, rfl, by rw [List.length_append]; simp only [List.length_singleton]; omega⟩
          obtain ⟨adw, hadw⟩ : ∃ x, ad106 = x := ⟨_, rfl⟩
          obtain ⟨cw, hcw⟩ : ∃ x, c106 = x := ⟨_, rfl⟩
          rw [hnw, hadw, hcw] at h
          replace h := h.drop (List.sublist_append_right _ _)
          refine gL h (zp (.fieldAddr rfl (fa_58_1 _ _)) (zd rfl mr Tryz.isAgg56 Tryz.sizeOf56 (rs_2_1 _ _) ?_)); clear h; intro a w h
          refine gL h (zp (.build [(_, _)] rfl (bd_71_1 _ _ _)) (zz Tryz.zeroValue71 fun b24 => zt' rfl rfl (st_2_0_2 _ _ _ _) uu Tryz.sizeOf71 rfl nb rfl ?_)); clear h; intro a w h
          refine gL h (zn (zs (zs (zr (za rfl (zn (zb ?_))))))); clear h; intro a w h
          refine wp_loop_inv (fun (i : Nat) a w => i ≤ ww.length ∧ ∃ (ad1 : Option Addr) (c1 : Nat) (o1 : List (Nat × Obj)), (GrowO 5 52 (.slice ad1 (lstT (fun j => qa (flW ww) (3 * j + 0)) i).length c1) (lstT (fun j => qa (flW ww) (3 * j + 0)) i).length (cellsOf encQ (lstT (fun j => qa (flW ww) (3 * j + 0)) i)) o1) ∧ St 168 S w0 [(0, .slice ad0 ww.length c0), (16, .bool false), (17, .slice ad37 ((G).length) c37), (18, .pointer (some ⟨b18, 0, none⟩)), (19, .pointer (some ⟨b19, 0, none⟩)), (20, .pointer (some ⟨b20, 0, none⟩)), (23, .pointer (some ⟨b23, 0, none⟩)), (24, .pointer (some ⟨b24, 0, none⟩)), (25, .int .i64 ((i : Nat) : Int))] (o1 ++ ((b24, .cells (Value.cells (.agg #[(.slice ad1 (lstT (fun j => qa (flW ww) (3 * j + 0)) i).length c1), .slice adw nw cw])) 71 (0, 0)) :: ((b23, .cells (Value.cells (.agg #[.slice ad95 P.length c95, .slice adw nw cw])) 58 (0, 0)) :: ((b20, .cells (Value.cells (encV ((ptv qz).1) ((ptv qz).2))) 53 (0, 0)) :: ((b19, .cells (Value.cells (encV ((ptv qy).1) ((ptv qy).2))) 53 (0, 0)) :: ((b18, .cells (Value.cells (encV ((ptv qx).1) ((ptv qx).2))) 53 (0, 0)) :: [])))))) [Row ad95 (cellsOf encP P), Row ad0 (cellsOf encQ2 (flW ww)), Row ad37 (cellsOf encT G), Row ad (cellsOf encTi l)] a w) (fun i => ww.length - i) 0 (⟨Nat.zero_le _, none, 0, [], GrowO.nil _ _, by exact ((h.drop sl)).sub (subL ⟨rfl, rfl, rfl, rfl, rfl, rfl, rfl, rfl, rfl, trivial⟩)⟩) ?_; clear h
          rintro i a w ⟨hi_i, ad1, c1, o1, hG1, h⟩
          refine gC h (zs (zs (zr (zm rfl (zm rfl (zp (.builtin [_] rfl (len_slice_40 _ _ _)) (zp (.lss rfl rfl) (zn ?_)))))))); clear h; intro a w h
          change Code.wp _ _ _ _ _
          refine cond_split h rfl (fun hc118 => ?_) (fun hc118 => ?_)
          · skip
            have hlt_i : i < ww.length := by have := of_decide_eq_true hc118; omega
            obtain ⟨B_ad0, O_ad0, rfl⟩ := h.row_addr (ad := ad0) (M := cellsOf encQ2 (flW ww)) mm (by intro e; have := congrArg List.length e; rw [cellsOf_length (k := 2) (fun _ => rfl)] at this; simp only [List.length_nil, Nat.mul_eq_zero] at this; omega)
            obtain ⟨hq0a, hq0b, hq0c, hq0d⟩ := hokw _ (getD_mem (flW ww) (i := 3 * i + 0) (d := (0, 0)) (by omega))
            have hg1 := lstT_len (fun j => qa (flW ww) (3 * j + 0)) i
            refine gC h (zk (zs (zb (yD mixed_YtkhnecelhpnaoaaGreatDoor [0, 1, 2, 3, 4, 5, 6, 7, 8, 9, 10, 11] (floatsOK_none (by kernel_rfl)) (yp rfl (.fieldAddr rfl (fa_71_0 _ _)) (yd rfl rfl mr Tryz.isAgg56 Tryz.sizeOf56 (rs_2_0 _ _) ?_)))))); clear h
            refine yp rfl (.move rfl) (yp rfl (.move rfl) (yp rfl (.indexAddr rfl rfl (ix_40 _ _ _ _ _ (by omega))) (yp rfl (Pure1.cast (v' := .pointer (some ⟨B_ad0, O_ad0 + (3 * i + 0) * 2, none⟩)) (.fieldAddr rfl (fa_73_0 _ _)) (by rw [show O_ad0 + i * 6 + 0 = O_ad0 + (3 * i + 0) * 2 by omega])) ?_)))
            refine head_loadRow rfl (by kernel_rfl) rfl mm (cells_lt (k := 2) (by decide) (fun _ => rfl) (flW ww) (3 * i + 0) (by omega)) Tryz.isAgg24 Tryz.sizeOf24 (read_cells (k := 2) (fun _ => rfl) ((fun _ => rfl)) (flW ww) (0, 0) (3 * i + 0) (by omega)) (.inl rfl) (by decide) ?_
            refine yv [_] rfl rfl Tryz.call23 (C_qOf (((flW ww).getD (3 * i + 0) (0, 0)).1) (((flW ww).getD (3 * i + 0) (0, 0)).2) (by omega) (by omega) (by omega) (by omega)) ?_
            have hl128 := lenQ_qv (((flW ww).getD (3 * i + 0) (0, 0)).1) (((flW ww).getD (3 * i + 0) (0, 0)).2) (by omega) (by omega) (by omega) (by omega)
            refine yB rfl [(_, _)] rfl (bs_56_1_0 _ _ _ _ _) fun b129 => ?_
            refine head_appendO (σr := [(b24, .cells (Value.cells (.agg #[(.slice ad1 (lstT (fun j => qa (flW ww) (3 * j + 0)) i).length c1), .slice adw nw cw])) 71 (0, 0)), (b23, .cells (Value.cells (.agg #[.slice ad95 P.length c95, .slice adw nw cw])) 58 (0, 0)), (b20, .cells (Value.cells (encV ((ptv qz).1) ((ptv qz).2))) 53 (0, 0)), (b19, .cells (Value.cells (encV ((ptv qy).1) ((ptv qy).2))) 53 (0, 0)), (b18, .cells (Value.cells (encV ((ptv qx).1) ((ptv qx).2))) 53 (0, 0))]) rfl (by kernel_rfl) rfl rfl (List.Perm.trans (List.Perm.refl _) (List.Perm.cons _ (List.Perm.refl _))) hG1 Tryz.runUnderlying56 Tryz.runUnderlying56 Tryz.typeInfo52 Tryz.sizeOf52 zeroQ rfl (by decide) (by decide) rfl rfl (by decide) (by show 56 * (2 * ((lstT (fun j => qa (flW ww) (3 * j + 0)) i).length + 1) + 192) ≤ 281474976710656; omega) (by decide) ?_
            intro v130 o130 hG130
            obtain ⟨ad130, c130, rfl⟩ := hG130.is
            have hLn130 : (lstT (fun j => qa (flW ww) (3 * j + 0)) i).length + 1 = ((lstT (fun j => qa (flW ww) (3 * j + 0)) i) ++ [qv (((flW ww).getD (3 * i + 0) (0, 0)).1) (((flW ww).getD (3 * i + 0) (0, 0)).2)]).length := by simp only [List.length_append, List.length_cons, List.length_nil, Nat.zero_add]
            rw [hLn130]; rw [hLn130] at hG130
            replace hG130 : GrowO 5 52 (.slice ad130 ((lstT (fun j => qa (flW ww) (3 * j + 0)) i) ++ [qv (((flW ww).getD (3 * i + 0) (0, 0)).1) (((flW ww).getD (3 * i + 0) (0, 0)).2)]).length c130) ((lstT (fun j => qa (flW ww) (3 * j + 0)) i) ++ [qv (((flW ww).getD (3 * i + 0) (0, 0)).1) (((flW ww).getD (3 * i + 0) (0, 0)).2)]).length (cellsOf encQ ((lstT (fun j => qa (flW ww) (3 * j + 0)) i) ++ [qv (((flW ww).getD (3 * i + 0) (0, 0)).1) (((flW ww).getD (3 * i + 0) (0, 0)).2)])) o130 := by rw [cellsOf_append, cellsOf_one]; exact hG130
            refine yp rfl (.fieldAddr rfl (fa_71_0 _ _)) (yt rfl rfl rfl (st_2_0_1 _ _ _) uu Tryz.sizeOf56 rfl nb (by show ((flat ((.slice ad130 ((lstT (fun j => qa (flW ww) (3 * j + 0)) i) ++ [qv (((flW ww).getD (3 * i + 0) (0, 0)).1) (((flW ww).getD (3 * i + 0) (0, 0)).2)]).length c130)) && true)) = true; simp only [GrowO.flat (hG130)]; rfl) ?_)
            refine yn (zr (zm rfl (zp (Pure1.cast (v' := (.int .i64 ((i + 1 : Nat) : Int))) (.add rfl rfl) (by show Value.int _ _ = Value.int _ _; congr 1)) (za rfl (zn ?_))))); intro a w h
            exact ⟨i + 1, ⟨by omega, ad130, c130, o130, hG130, by exact (h.factsSub (by simp)).sub sA⟩, by omega⟩
          · skip
            have heq_i : ww.length = i := by have := of_decide_eq_false hc118; omega
            subst heq_i
            refine gC h (ze (zs (zr (zd rfl mr Tryz.isAgg58 Tryz.sizeOf58 (rd_2_0_2 _ _) ?_)))); clear h; intro a w h
            refine gL h (zm rfl (zd rfl mr Tryz.isAgg53 Tryz.sizeOf53 (rd_10_0_10 _ _ _ _ _ _ _ _ _ _) ?_)); clear h; intro a w h
            refine gL h (zd rfl mr Tryz.isAgg53 Tryz.sizeOf53 (rd_10_0_10 _ _ _ _ _ _ _ _ _ _) ?_); clear h; intro a w h
            refine gL h (zd rfl mr Tryz.isAgg53 Tryz.sizeOf53 (rd_10_0_10 _ _ _ _ _ _ _ _ _ _) ?_); clear h; intro a w h
            refine gL h (zv [_, _, _, _, _] rfl Tryz.call27 (C_Apply_ne ad95 adw P.length nw c95 cw hne ad37 G.length c37 (ptv qx) (ptv qy) (ptv qz)) (zp (Pure1.cast (v' := encQ 0) (.build [] rfl (bd_52_z)) (by exact zero_enc)) (zp (.binOp rfl rfl (fun _ => run_eqQ _ _ 0 0 _)) ?_))); clear h; intro a w h
            refine by_bool h (fun hc139 h => ?_) (fun hc139 h => (by exfalso; exact absurd hc139 (by decide)))
            refine gL h (zm rfl ?_); clear h; intro a w h
            refine wpl_guard 140 h rfl rfl (op_load h rfl mr Tryz.isAgg71 Tryz.sizeOf71 (rd_2_0_2 _ _) (by decide) ?_); clear h; intro a h
            refine gL h (zq 140 rfl rfl (.move rfl) ?_); clear h; intro a w h
            refine wpl_guard 140 h rfl rfl (op_load h rfl mr Tryz.isAgg53 Tryz.sizeOf53 (rd_10_0_10 _ _ _ _ _ _ _ _ _ _) (by decide) ?_); clear h; intro a h
            refine wpl_guard 140 h rfl rfl (op_load h rfl mr Tryz.isAgg53 Tryz.sizeOf53 (rd_10_0_10 _ _ _ _ _ _ _ _ _ _) (by decide) ?_); clear h; intro a h
            refine wpl_guard 140 h rfl rfl (op_callV h (vs := [_, _, _, _]) rfl Tryz.call29 (C_ApplyLine_ne ad1 adw (lstT (fun j => qa (flW ww) (3 * j + 0)) ww.length).length nw c1 cw (by rw [lstT_len]; omega) ad37 G.length c37 (ptv qx) (ptv qy)) (by decide) ?_); clear h; intro a w h
            refine gL h (zq 140 rfl rfl (Pure1.cast (v' := encQ 0) (.build [] rfl (bd_52_z)) (by exact zero_enc)) (zq 140 rfl rfl (.binOp rfl rfl (fun _ => run_eqQ _ _ 0 0 _)) ?_)); clear h; intro a w h
            refine by_bool h (fun hc147 h => ?_) (fun hc147 h => (by exfalso; exact absurd hc147 (by decide)))
            refine gL h (zp (.pickT rfl rfl) (za rfl (zn (zs (zr (zd rfl mr Tryz.isAgg58 Tryz.sizeOf58 (rd_2_0_2 _ _) ?_)))))); clear h; intro a w h
            refine gL h (zv [_] rfl Tryz.call25 (C_Check_ne ad95 adw P.length nw c95 cw hne) (zp (.eql rfl rfl) ?_)); clear h; intro a w h
            refine by_bool h (fun hc151 h => ?_) (fun hc151 h => (by exfalso; exact absurd hc151 (by decide)))
            refine gL h (zm rfl ?_); clear h; intro a w h
            refine wpl_guard 152 h rfl rfl (op_load h rfl mr Tryz.isAgg58 Tryz.sizeOf58 (rd_2_0_2 _ _) (by decide) ?_); clear h; intro a h
            refine wpl_guard 152 h rfl rfl (op_callV h (vs := [_]) rfl Tryz.call26 (C_Exact_ne ad95 adw P.length nw c95 cw hne) (by decide) ?_); clear h; intro a w h
            refine gL h (zq 152 rfl rfl (.eql rfl rfl) ?_); clear h; intro a w h
            refine by_bool h (fun hc155 h => ?_) (fun hc155 h => (by exfalso; exact absurd hc155 (by decide)))
            refine gL h (zp (.pickT rfl rfl) (zm rfl ?_)); clear h; intro a w h
            refine wpl_guard 157 h rfl rfl (op_load h rfl mr Tryz.isAgg71 Tryz.sizeOf71 (rd_2_0_2 _ _) (by decide) ?_); clear h; intro a h
            refine wpl_guard 157 h rfl rfl (op_callV h (vs := [_]) rfl Tryz.call30 (C_ExactLine_ne ad1 adw (lstT (fun j => qa (flW ww) (3 * j + 0)) ww.length).length nw c1 cw (by rw [lstT_len]; omega)) (by decide) ?_); clear h; intro a w h
            refine gL h (zq 157 rfl rfl (.eql rfl rfl) ?_); clear h; intro a w h
            refine by_bool h (fun hc160 h => ?_) (fun hc160 h => (by exfalso; exact absurd hc160 (by decide)))
            refine gL h (zp (.pickT rfl rfl) (zm rfl (zq 162 rfl rfl (.move rfl) (zp (.pickT rfl rfl) (zm rfl ?_))))); clear h; intro a w h
            refine wpl_guard 165 h rfl rfl (op_callV h (vs := []) rfl Tryz.call18 (C_works) (by decide) ?_); clear h; intro a w h
            refine gL h (zp (.pickT rfl rfl) (za rfl (zn (zt ?_)))); clear h; intro a w h
            refine retV h (results1 h rfl (.tmp rfl)) ?_
            rfl
        · skip
          refine gL h (zq 97 rfl rfl (.move rfl) (zq 97 rfl rfl (.builtin [_] rfl (len_slice_40 _ _ _)) (zq 97 rfl rfl (.eql rfl rfl) ?_))); clear h; intro a w h
          refine by_bool h (fun hc100 h => ?_) (fun hc100 h => (by exfalso; have := of_decide_eq_false hc100; omega))
          refine gL h (zp (.pickF rfl rfl) (zn ?_)); clear h; intro a w h
          change Code.wp _ _ _ _ _
          refine cond_true h rfl ?_
          refine gC h (yD mixed_YtkhnecelhpnaoaaGreatDoor [0, 1, 2, 3, 4, 5, 6] (floatsOK_none (by kernel_rfl)) (yp rfl (.fieldAddr rfl (fa_58_1 _ _)) (yd rfl rfl mr Tryz.isAgg56 Tryz.sizeOf56 (rs_2_1 _ _) ?_))); clear h
          refine yv [_] rfl rfl Tryz.call28 (C_QInt _ (by omega) (by omega)) ?_
          have hl104 := lenQ_int (1) (by omega) (by omega)
          refine yB rfl [(_, _)] rfl (bs_56_1_0 _ _ _ _ _) fun b105 => ?_
          refine head_appendO (σr := [(b23, .cells (Value.cells (.agg #[.slice ad95 P.length c95, (.slice bd95 W.length d95)])) 58 (0, 0)), (b20, .cells (Value.cells (encV ((ptv qz).1) ((ptv qz).2))) 53 (0, 0)), (b19, .cells (Value.cells (encV ((ptv qy).1) ((ptv qy).2))) 53 (0, 0)), (b18, .cells (Value.cells (encV ((ptv qx).1) ((ptv qx).2))) 53 (0, 0)), (b15, .cells (Value.cells (encPQ (qz))) 27 (0, 0)), (b14, .cells (Value.cells (encPQ (qy))) 27 (0, 0)), (b13, .cells (Value.cells (encPQ (qx))) 27 (0, 0)), (b10, .cells (Value.cells (.agg #[.int .i64 bq.1, .int .u32 bq.2])) 24 (0, 0))]) rfl (by kernel_rfl) rfl rfl (List.Perm.trans (List.Perm.refl _) (List.Perm.cons _ (pm_ca (List.Perm.refl _)))) hH95 Tryz.runUnderlying56 Tryz.runUnderlying56 Tryz.typeInfo52 Tryz.sizeOf52 zeroQ rfl (by decide) (by decide) rfl rfl (by decide) (by show 56 * (2 * ((W).length + 1) + 192) ≤ 281474976710656; omega) (by decide) ?_
          intro v106 o106 hG106
          obtain ⟨ad106, c106, rfl⟩ := hG106.is
          have hLn106 : (W).length + 1 = (W ++ [((1 : Int) : Rat)]).length := by simp only [List.length_append, List.length_cons, List.length_nil, Nat.zero_add]
          rw [hLn106]; rw [hLn106] at hG106
          replace hG106 : GrowO 5 52 (.slice ad106 (W ++ [((1 : Int) : Rat)]).length c106) (W ++ [((1 : Int) : Rat)]).length (cellsOf encQ (W ++ [((1 : Int) : Rat)])) o106 := by rw [cellsOf_append, cellsOf_one]; exact hG106
          refine yp rfl (.fieldAddr rfl (fa_58_1 _ _)) (yt rfl rfl rfl (st_2_1_1 _ _ _) uu Tryz.sizeOf56 rfl nb (by show ((flat ((.slice ad106 (W ++ [((1 : Int) : Rat)]).length c106)) && true)) = true; simp only [GrowO.flat (hG106)]; rfl) ?_)
          refine yn (zs (zr ?_)); intro a w h
          obtain ⟨nw, hnw, hne⟩ : ∃ nw, (W ++ [((1 : Int) : Rat)]).length = nw ∧ P.length ≠ nw := ⟨_, rfl, by rw [List.length_append]; simp only [List.length_singleton]; omega⟩
          obtain ⟨adw, hadw⟩ : ∃ x, ad106 = x := ⟨_, rfl⟩
          obtain ⟨cw, hcw⟩ : ∃ x, c106 = x := ⟨_, rfl⟩
          rw [hnw, hadw, hcw] at h
          replace h := h.drop (List.sublist_append_right _ _)
          refine gL h (zp (.fieldAddr rfl (fa_58_1 _ _)) (zd rfl mr Tryz.isAgg56 Tryz.sizeOf56 (rs_2_1 _ _) ?_)); clear h; intro a w h
          refine gL h (zp (.build [(_, _)] rfl (bd_71_1 _ _ _)) (zz Tryz.zeroValue71 fun b24 => zt' rfl rfl (st_2_0_2 _ _ _ _) uu Tryz.sizeOf71 rfl nb rfl ?_)); clear h; intro a w h
          refine gL h (zn (zs (zs (zr (za rfl (zn (zb ?_))))))); clear h; intro a w h
          refine wp_loop_inv (fun (i : Nat) a w => i ≤ ww.length ∧ ∃ (ad1 : Option Addr) (c1 : Nat) (o1 : List (Nat × Obj)), (GrowO 5 52 (.slice ad1 (lstT (fun j => qa (flW ww) (3 * j + 0)) i).length c1) (lstT (fun j => qa (flW ww) (3 * j + 0)) i).length (cellsOf encQ (lstT (fun j => qa (flW ww) (3 * j + 0)) i)) o1) ∧ St 168 S w0 [(0, .slice ad0 ww.length c0), (16, .bool false), (17, .slice ad37 ((G).length) c37), (18, .pointer (some ⟨b18, 0, none⟩)), (19, .pointer (some ⟨b19, 0, none⟩)), (20, .pointer (some ⟨b20, 0, none⟩)), (23, .pointer (some ⟨b23, 0, none⟩)), (24, .pointer (some ⟨b24, 0, none⟩)), (25, .int .i64 ((i : Nat) : Int))] (o1 ++ ((b24, .cells (Value.cells (.agg #[(.slice ad1 (lstT (fun j => qa (flW ww) (3 * j + 0)) i).length c1), .slice adw nw cw])) 71 (0, 0)) :: ((b23, .cells (Value.cells (.agg #[.slice ad95 P.length c95, .slice adw nw cw])) 58 (0, 0)) :: ((b20, .cells (Value.cells (encV ((ptv qz).1) ((ptv qz).2))) 53 (0, 0)) :: ((b19, .cells (Value.cells (encV ((ptv qy).1) ((ptv qy).2))) 53 (0, 0)) :: ((b18, .cells (Value.cells (encV ((ptv qx).1) ((ptv qx).2))) 53 (0, 0)) :: [])))))) [Row ad95 (cellsOf encP P), Row ad0 (cellsOf encQ2 (flW ww)), Row ad37 (cellsOf encT G), Row ad (cellsOf encTi l)] a w) (fun i => ww.length - i) 0 (⟨Nat.zero_le _, none, 0, [], GrowO.nil _ _, by exact ((h.drop sl)).sub (subL ⟨rfl, rfl, rfl, rfl, rfl, rfl, rfl, rfl, rfl, trivial⟩)⟩) ?_; clear h
          rintro i a w ⟨hi_i, ad1, c1, o1, hG1, h⟩
          refine gC h (zs (zs (zr (zm rfl (zm rfl (zp (.builtin [_] rfl (len_slice_40 _ _ _)) (zp (.lss rfl rfl) (zn ?_)))))))); clear h; intro a w h
          change Code.wp _ _ _ _ _
          refine cond_split h rfl (fun hc118 => ?_) (fun hc118 => ?_)
          · skip
            have hlt_i : i < ww.length := by have := of_decide_eq_true hc118; omega
            obtain ⟨B_ad0, O_ad0, rfl⟩ := h.row_addr (ad := ad0) (M := cellsOf encQ2 (flW ww)) mm (by intro e; have := congrArg List.length e; rw [cellsOf_length (k := 2) (fun _ => rfl)] at this; simp only [List.length_nil, Nat.mul_eq_zero] at this; omega)
            obtain ⟨hq0a, hq0b, hq0c, hq0d⟩ := hokw _ (getD_mem (flW ww) (i := 3 * i + 0) (d := (0, 0)) (by omega))
            have hg1 := lstT_len (fun j => qa (flW ww) (3 * j + 0)) i
            refine gC h (zk (zs (zb (yD mixed_YtkhnecelhpnaoaaGreatDoor [0, 1, 2, 3, 4, 5, 6, 7, 8, 9, 10, 11] (floatsOK_none (by kernel_rfl)) (yp rfl (.fieldAddr rfl (fa_71_0 _ _)) (yd rfl rfl mr Tryz.isAgg56 Tryz.sizeOf56 (rs_2_0 _ _) ?_)))))); clear h
            refine yp rfl (.move rfl) (yp rfl (.move rfl) (yp rfl (.indexAddr rfl rfl (ix_40 _ _ _ _ _ (by omega))) (yp rfl (Pure1.cast (v' := .pointer (some ⟨B_ad0, O_ad0 + (3 * i + 0) * 2, none⟩)) (.fieldAddr rfl (fa_73_0 _ _)) (by rw [show O_ad0 + i * 6 + 0 = O_ad0 + (3 * i + 0) * 2 by omega])) ?_)))
            refine head_loadRow rfl (by kernel_rfl) rfl mm (cells_lt (k := 2) (by decide) (fun _ => rfl) (flW ww) (3 * i + 0) (by omega)) Tryz.isAgg24 Tryz.sizeOf24 (read_cells (k := 2) (fun _ => rfl) ((fun _ => rfl)) (flW ww) (0, 0) (3 * i + 0) (by omega)) (.inl rfl) (by decide) ?_
            refine yv [_] rfl rfl Tryz.call23 (C_qOf (((flW ww).getD (3 * i + 0) (0, 0)).1) (((flW ww).getD (3 * i + 0) (0, 0)).2) (by omega) (by omega) (by omega) (by omega)) ?_
            have hl128 := lenQ_qv (((flW ww).getD (3 * i + 0) (0, 0)).1) (((flW ww).getD (3 * i + 0) (0, 0)).2) (by omega) (by omega) (by omega) (by omega)
            refine yB rfl [(_, _)] rfl (bs_56_1_0 _ _ _ _ _) fun b129 => ?_
            refine head_appendO (σr := [(b24, .cells (Value.cells (.agg #[(.slice ad1 (lstT (fun j => qa (flW ww) (3 * j + 0)) i).length c1), .slice adw nw cw])) 71 (0, 0)), (b23, .cells (Value.cells (.agg #[.slice ad95 P.length c95, .slice adw nw cw])) 58 (0, 0)), (b20, .cells (Value.cells (encV ((ptv qz).1) ((ptv qz).2))) 53 (0, 0)), (b19, .cells (Value.cells (encV ((ptv qy).1) ((ptv qy).2))) 53 (0, 0)), (b18, .cells (Value.cells (encV ((ptv qx).1) ((ptv qx).2))) 53 (0, 0))]) rfl (by kernel_rfl) rfl rfl (List.Perm.trans (List.Perm.refl _) (List.Perm.cons _ (List.Perm.refl _))) hG1 Tryz.runUnderlying56 Tryz.runUnderlying56 Tryz.typeInfo52 Tryz.sizeOf52 zeroQ rfl (by decide) (by decide) rfl rfl (by decide) (by show 56 * (2 * ((lstT (fun j => qa (flW ww) (3 * j + 0)) i).length + 1) + 192) ≤ 281474976710656; omega) (by decide) ?_
            intro v130 o130 hG130
            obtain ⟨ad130, c130, rfl⟩ := hG130.is
            have hLn130 : (lstT (fun j => qa (flW ww) (3 * j + 0)) i).length + 1 = ((lstT (fun j => qa (flW ww) (3 * j + 0)) i) ++ [qv (((flW ww).getD (3 * i + 0) (0, 0)).1) (((flW ww).getD (3 * i + 0) (0, 0)).2)]).length := by simp only [List.length_append, List.length_cons, List.length_nil, Nat.zero_add]
            rw [hLn130]; rw [hLn130] at hG130
            replace hG130 : GrowO 5 52 (.slice ad130 ((lstT (fun j => qa (flW ww) (3 * j + 0)) i) ++ [qv (((flW ww).getD (3 * i + 0) (0, 0)).1) (((flW ww).getD (3 * i + 0) (0, 0)).2)]).length c130) ((lstT (fun j => qa (flW ww) (3 * j + 0)) i) ++ [qv (((flW ww).getD (3 * i + 0) (0, 0)).1) (((flW ww).getD (3 * i + 0) (0, 0)).2)]).length (cellsOf encQ ((lstT (fun j => qa (flW ww) (3 * j + 0)) i) ++ [qv (((flW ww).getD (3 * i + 0) (0, 0)).1) (((flW ww).getD (3 * i + 0) (0, 0)).2)])) o130 := by rw [cellsOf_append, cellsOf_one]; exact hG130
            refine yp rfl (.fieldAddr rfl (fa_71_0 _ _)) (yt rfl rfl rfl (st_2_0_1 _ _ _) uu Tryz.sizeOf56 rfl nb (by show ((flat ((.slice ad130 ((lstT (fun j => qa (flW ww) (3 * j + 0)) i) ++ [qv (((flW ww).getD (3 * i + 0) (0, 0)).1) (((flW ww).getD (3 * i + 0) (0, 0)).2)]).length c130)) && true)) = true; simp only [GrowO.flat (hG130)]; rfl) ?_)
            refine yn (zr (zm rfl (zp (Pure1.cast (v' := (.int .i64 ((i + 1 : Nat) : Int))) (.add rfl rfl) (by show Value.int _ _ = Value.int _ _; congr 1)) (za rfl (zn ?_))))); intro a w h
            exact ⟨i + 1, ⟨by omega, ad130, c130, o130, hG130, by exact (h.factsSub (by simp)).sub sA⟩, by omega⟩
          · skip
            have heq_i : ww.length = i := by have := of_decide_eq_false hc118; omega
            subst heq_i
            refine gC h (ze (zs (zr (zd rfl mr Tryz.isAgg58 Tryz.sizeOf58 (rd_2_0_2 _ _) ?_)))); clear h; intro a w h
            refine gL h (zm rfl (zd rfl mr Tryz.isAgg53 Tryz.sizeOf53 (rd_10_0_10 _ _ _ _ _ _ _ _ _ _) ?_)); clear h; intro a w h
            refine gL h (zd rfl mr Tryz.isAgg53 Tryz.sizeOf53 (rd_10_0_10 _ _ _ _ _ _ _ _ _ _) ?_); clear h; intro a w h
            refine gL h (zd rfl mr Tryz.isAgg53 Tryz.sizeOf53 (rd_10_0_10 _ _ _ _ _ _ _ _ _ _) ?_); clear h; intro a w h
            refine gL h (zv [_, _, _, _, _] rfl Tryz.call27 (C_Apply_ne ad95 adw P.length nw c95 cw hne ad37 G.length c37 (ptv qx) (ptv qy) (ptv qz)) (zp (Pure1.cast (v' := encQ 0) (.build [] rfl (bd_52_z)) (by exact zero_enc)) (zp (.binOp rfl rfl (fun _ => run_eqQ _ _ 0 0 _)) ?_))); clear h; intro a w h
            refine by_bool h (fun hc139 h => ?_) (fun hc139 h => (by exfalso; exact absurd hc139 (by decide)))
            refine gL h (zm rfl ?_); clear h; intro a w h
            refine wpl_guard 140 h rfl rfl (op_load h rfl mr Tryz.isAgg71 Tryz.sizeOf71 (rd_2_0_2 _ _) (by decide) ?_); clear h; intro a h
            refine gL h (zq 140 rfl rfl (.move rfl) ?_); clear h; intro a w h
            refine wpl_guard 140 h rfl rfl (op_load h rfl mr Tryz.isAgg53 Tryz.sizeOf53 (rd_10_0_10 _ _ _ _ _ _ _ _ _ _) (by decide) ?_); clear h; intro a h
            refine wpl_guard 140 h rfl rfl (op_load h rfl mr Tryz.isAgg53 Tryz.sizeOf53 (rd_10_0_10 _ _ _ _ _ _ _ _ _ _) (by decide) ?_); clear h; intro a h
            refine wpl_guard 140 h rfl rfl (op_callV h (vs := [_, _, _, _]) rfl Tryz.call29 (C_ApplyLine_ne ad1 adw (lstT (fun j => qa (flW ww) (3 * j + 0)) ww.length).length nw c1 cw (by rw [lstT_len]; omega) ad37 G.length c37 (ptv qx) (ptv qy)) (by decide) ?_); clear h; intro a w h
            refine gL h (zq 140 rfl rfl (Pure1.cast (v' := encQ 0) (.build [] rfl (bd_52_z)) (by exact zero_enc)) (zq 140 rfl rfl (.binOp rfl rfl (fun _ => run_eqQ _ _ 0 0 _)) ?_)); clear h; intro a w h
            refine by_bool h (fun hc147 h => ?_) (fun hc147 h => (by exfalso; exact absurd hc147 (by decide)))
            refine gL h (zp (.pickT rfl rfl) (za rfl (zn (zs (zr (zd rfl mr Tryz.isAgg58 Tryz.sizeOf58 (rd_2_0_2 _ _) ?_)))))); clear h; intro a w h
            refine gL h (zv [_] rfl Tryz.call25 (C_Check_ne ad95 adw P.length nw c95 cw hne) (zp (.eql rfl rfl) ?_)); clear h; intro a w h
            refine by_bool h (fun hc151 h => ?_) (fun hc151 h => (by exfalso; exact absurd hc151 (by decide)))
            refine gL h (zm rfl ?_); clear h; intro a w h
            refine wpl_guard 152 h rfl rfl (op_load h rfl mr Tryz.isAgg58 Tryz.sizeOf58 (rd_2_0_2 _ _) (by decide) ?_); clear h; intro a h
            refine wpl_guard 152 h rfl rfl (op_callV h (vs := [_]) rfl Tryz.call26 (C_Exact_ne ad95 adw P.length nw c95 cw hne) (by decide) ?_); clear h; intro a w h
            refine gL h (zq 152 rfl rfl (.eql rfl rfl) ?_); clear h; intro a w h
            refine by_bool h (fun hc155 h => ?_) (fun hc155 h => (by exfalso; exact absurd hc155 (by decide)))
            refine gL h (zp (.pickT rfl rfl) (zm rfl ?_)); clear h; intro a w h
            refine wpl_guard 157 h rfl rfl (op_load h rfl mr Tryz.isAgg71 Tryz.sizeOf71 (rd_2_0_2 _ _) (by decide) ?_); clear h; intro a h
            refine wpl_guard 157 h rfl rfl (op_callV h (vs := [_]) rfl Tryz.call30 (C_ExactLine_ne ad1 adw (lstT (fun j => qa (flW ww) (3 * j + 0)) ww.length).length nw c1 cw (by rw [lstT_len]; omega)) (by decide) ?_); clear h; intro a w h
            refine gL h (zq 157 rfl rfl (.eql rfl rfl) ?_); clear h; intro a w h
            refine by_bool h (fun hc160 h => ?_) (fun hc160 h => (by exfalso; exact absurd hc160 (by decide)))
            refine gL h (zp (.pickT rfl rfl) (zm rfl (zq 162 rfl rfl (.move rfl) (zp (.pickT rfl rfl) (zm rfl ?_))))); clear h; intro a w h
            refine wpl_guard 165 h rfl rfl (op_callV h (vs := []) rfl Tryz.call18 (C_works) (by decide) ?_); clear h; intro a w h
            refine gL h (zp (.pickT rfl rfl) (za rfl (zn (zt ?_)))); clear h; intro a w h
            refine retV h (results1 h rfl (.tmp rfl)) ?_
            rfl
end Go.Proofs.YtkhnecelhpnaoaaGreatDoor
