/- Walks of functions. By an AI agent. -/
import Derived.Test.YthcjdeklpegceaaGreatDoorProg
import Derived.Test.YthcjdeklpegceaaGreatDoorFxZ
import Derived.Test.YthcjdeklpegceaaGreatDoorFxS
import Derived.Test.YthcjdeklpegceaaGreatDoorNumW
import Derived.Test.YthcjdeklpegceaaGreatDoorNumD
import Derived.Test.YthcjdeklpegceaaGreatDoorNumK
set_option linter.unusedVariables false
set_option linter.unusedSimpArgs false
set_option maxRecDepth 4000
namespace Go.Proofs.YthcjdeklpegceaaGreatDoor
open Go Go.Proofs Go.Fx Tryz
attribute [local irreducible] Oper.wp Code.wp wpList Fx.Head wpOp
section
theorem Zo (a : Option Addr) (n c : Nat) (w : World) (ty : TypeId) (cs : Array Bool) : (Go.builtin .len #[186] ty cs #[.slice a n c]).run Tryz.prog w = .ok (.value (.int .i64 n)) w := by
 simp [go_sem]
theorem Ji (b off n c j : Nat) (h : j < n) (w : World) : (Instr.indexAt 186 (.slice (some ⟨b, off, none⟩) n c) (.int .i64 (j : Int))).run Tryz.prog w = .ok (.pointer (some ⟨b, off + j, none⟩)) w := by
 simpa using Xi runUnderlying186 sizeOf22 b off n c j h w
theorem Zt6 (a : Option Addr) (n c j : Nat) (h : j ≤ c) (w : World) : (Instr.sliceAt 186 (.slice a n c) none (some (.int .i64 (j : Int))) none).run Tryz.prog w = .ok (.slice a j c) w := by
 exact Zgt runUnderlying186 sizeOf22 a n c j h w
theorem Gb {b off : Nat} (w : World) : (Instr.fieldAt 35 (.pointer (some ⟨b, off, none⟩)) 1).run Tryz.prog w = .ok (.pointer (some ⟨b, off + 1, none⟩)) w := by
 simp [go_sem]
theorem Kq {c0 c1 : Value} : Qe false 1 #[c0, c1] 1 = some c1 := rfl
theorem Ke {b off : Nat} (w : World) : (Instr.fieldAt 35 (.pointer (some ⟨b, off, none⟩)) 0).run Tryz.prog w = .ok (.pointer (some ⟨b, off + 0, none⟩)) w := by
 simp [go_sem]
theorem Vp {c0 c1 : Value} : Qe false 1 #[c0, c1] 0 = some c0 := rfl
theorem Yo (x : Int) (w : World) : (Go.convert 33 22 (.int .u64 x)).run Tryz.prog w = .ok (.int .u32 (IntKind.u32.wrap x)) w := by
 simp [go_sem]
theorem Znj (x0 : Int) (x1 : Int) (w : World) : (Instr.buildSlice 186 2 [(0, .int .u32 x0), (1, .int .u32 x1)].toArray).run Tryz.prog w = .ok (.slice (some ⟨w.heap.size, 0, none⟩) 2 2) (w.alloc (.cells #[.int .u32 x0, .int .u32 x1] 22 (0, 0))) := by
 simp [go_sem]
theorem Zg0 (x : ByteArray) (w : World) (ty : TypeId) (cs : Array Bool) : (Go.builtin .len #[9] ty cs #[.string x]).run Tryz.prog w = .ok (.value (.int .i64 x.size)) w := by
 simp [go_sem]
theorem Qci (x : Int) (w : World) : (Go.convert 5 22 (.int .u8 x)).run Tryz.prog w = .ok (.int .u32 (IntKind.u32.wrap x)) w := by
 simp [go_sem]
theorem Zq3 (x : Int) (h0 : IntKind.u32.wrap x = x) (w : World) : (Go.convert 5 22 (.int .u8 x)).run Tryz.prog w = .ok (.int .u32 x) w := by
 rw [Qci, h0]
theorem Za : Tryz.prog.follows .mixedOrders = true := by kernel_rfl
theorem Yp (b : Bool) (w : World) : (Op.unary .not (.bool b)).run Tryz.prog w = .ok (.bool (!b)) w := by simp [go_sem]
theorem C_cut (ad : Option Addr) (c : Nat) (l : List Nat) (hw : Wd l) (hc : l.length ≤ c) (hs : l.length ≤ 1099511627776) :
  Ctr Tryz.prog 147 [.slice ad l.length c] [Row ad (Xl l)] (fun v Ψ => v = .slice ad (wds (Qb l)).length c ∧ Ψ = [Row ad (Xl (wds (Qb l)))]) := by
 refine fn_intro func147 rfl ntmps147 nb ?_
 intro S w0 a hS h
 refine gC h (zS (za rfl (zn (zs (zb ?_))))); clear h; intro a w h
 refine Zn (fun (m : Nat) a w => m ≤ l.length ∧ (∀ j, m ≤ j → j < l.length → l.getD j 0 = 0) ∧ St 21 S w0 [(0, .slice ad m c)] [] [Row ad (Xl l)] a w) (fun m => m) (l.length) (⟨Nat.le_refl _, fun j h1 h2 => absurd h2 oo, h.sub sA⟩) ?_; clear h
 rintro m a w ⟨hm, hz, h⟩
 refine gC h (zs (zS (zm rfl (zp (.builtin [_] rfl (Zo _ _ _)) (zp (.gtr rfl rfl) (zm rfl ?_)))))); clear h; intro a w h
 refine Qp h (fun hc6 h => ?_) (fun hc6 h => ?_)
 focus
  have hm0 : 0 < m := by simpa using hc6
  obtain ⟨b, off, had⟩ := h.row_addr List.mem_cons_self (by simp; intro e; subst e; simp at hm; omega)
  subst had
  refine gL h (zq 6 rfl rfl (.move rfl) (zq 6 rfl rfl (.move rfl) (zq 6 rfl rfl (.builtin [_] rfl (Zo _ _ _)) (zq 6 rfl rfl (.pO (m - 1) (.sub rfl rfl)) (zq 6 rfl rfl (.indexAddr rfl rfl (Ji _ _ _ _ _ oo)) ?_))))); clear h; intro a w h
  refine Zt 6 h rfl rfl (Jw h rfl List.mem_cons_self (by simp; omega) isAgg22 sizeOf22 (Zy 0 oo) (.inr rfl) dd ?_); clear h; intro a h
  refine gL h (zq 6 rfl rfl (.eql rfl rfl) (zp (.pickT rfl rfl) (zn ?_))); clear h; intro a w h
  refine cW ?_
  refine Zg h rfl (fun hc14 => ?_) (fun hc14 => ?_)
  ·
   skip
   refine gC h (zk (zb (zr (zm rfl (zm rfl (zp (.builtin [_] rfl (Zo _ _ _)) (zp (.pO (m - 1) (.sub rfl rfl)) (zp (.slice rfl none (some _) none rfl rfl rfl (Zt6 _ _ _ _ oo)) (za rfl (zn ?_)))))))))); clear h; intro a w h
   refine ⟨m - 1, ⟨oo, fun j h1 h2 => ?_, h.sub sA⟩, oo⟩
   by_cases hj : j = m - 1
   ·
    skip
    subst hj; simpa using hc14
   ·
    skip
    exact hz j oo h2
  refine gC h (ze (zS (zm rfl (za rfl (zn (zt ?_)))))); clear h; intro a w h
  have hcut := Zwb hw hm hz (.inr (by simpa using hc14))
 rotate_left
 focus
  refine gL h (zo 6 rfl rfl rfl (zo 6 rfl rfl rfl (zo 6 rfl rfl rfl (zo 6 rfl rfl rfl (zo 6 rfl rfl rfl (zo 6 rfl rfl rfl (zo 6 rfl rfl rfl (zp (.pickF rfl rfl) (zn ?_))))))))); clear h; intro a w h
  refine cW ?_
  refine Zf h rfl ?_
  refine gC h (ze (zS (zm rfl (za rfl (zn (zt ?_)))))); clear h; intro a w h
  have hcut := Zwb hw hm hz (.inl (by simpa using hc6))
 all_goals
  have hR : ∀ ad, Row ad (Xl (wds (Qb l))) = Row ad ((Xl l).take m) := by intro ad; rw [hcut, Xl, List.map_take]
  replace h := h.derive (R := Row _ (Xl (wds (Qb l)))) (fun X hX => by rw [hR]; exact Zp4 (hX _ List.mem_cons_self) m)
  have hl : m = (wds (Qb l)).length := by rw [hcut]; simp; omega
  refine Xr (Ψ := [Row _ (Xl (wds (Qb l)))]) h (Zk h rfl (.tmp rfl)) ⟨by rw [← hl], rfl⟩ ss
theorem Zck (n : Nat) (hs : (wds n).length ≤ 1099511627776) :
  Ctr Tryz.prog 124 [Vw n] [] (fun v Ψ => ∃ ad c, v = .slice ad (wds n).length c ∧ (wds n).length ≤ c ∧ Ψ = [Row ad (Xl (wds n))]) := by
 refine fn_intro func124 rfl ntmps124 nb ?_
 intro S w0 a hS h
 refine gC h (zS (zx rfl fun b1 => za rfl (zn (zs (zS (zp (.fA rfl Gb) (zd rfl mr isAgg9 sizeOf9 Kq ?_)))))))
 refine zp (.binOp rfl rfl (fun _ => Xn _ _ _ _ _)) (zn ?_); intro a w h
 refine cW ?_
 refine Zg h rfl (fun hc8 => ?_) (fun hc8 => ?_)
 ·
  skip
  have hn : n < 18446744073709551616 := Jg.1 (by simpa using hc8)
  refine gC h (zS (zp (.fA rfl Ke) (zd rfl mr isAgg33 sizeOf33 Vp ?_)))
  refine zp (Pure1.cast (v' := .int .u32 ((n % 4294967296 : Nat) : Int)) (.convert rfl (Yo _)) (by rw [Qm hn, Jp]; congr 1)) (zp (.fA rfl Ke) (zd rfl mr isAgg33 sizeOf33 Vp ?_))
  refine zp (.binOp rfl rfl (fun _ => by rw [Qm hn]; exact Vb _ _ _ n 32 dd)) (zp (Pure1.cast (v' := .int .u32 ((n / 4294967296 : Nat) : Int)) (.convert rfl (Yo _)) (by rw [Jp]; congr 1; omega)) (zB [(_, _), (_, _)] rfl (Znj _ _) fun b16 => ?_)); intro a w h
  replace h := h.shareAll hS (Xl [n % 4294967296, n / 4294967296]) rfl
  refine gL h (zf [_] rfl call147 (C_cut _ _ [n % 4294967296, n / 4294967296] (two_Wd n hn) ss ss) ?_); clear h; rintro v17 Ψ17 ⟨rfl, rfl⟩ a w h
  rw [Ztw n hn] at h
  refine gL h (za rfl (zn (zt ?_))); clear h; intro a w h
  refine Xr (Ψ := [Row _ (Xl (wds n))]) h (Zk h rfl (.tmp rfl)) ⟨_, _, rfl, Gj hn, rfl⟩ ss
 ·
  skip
  have hn : ¬ n < 18446744073709551616 := fun hn => by have := Jg.2 hn; simp [this] at hc8
  refine gC h (zk (zS (zp (.fA rfl Gb) (zd rfl mr isAgg9 sizeOf9 Kq ?_))))
  refine zp (.builtin [_] rfl (Zg0 _)) (zp (Pure1.cast (v' := .int .i64 ((wds n).length : Int)) (.binOp rfl rfl (fun _ => Zh6 _ _ _ _ _ dd)) (by rw [Zd9, if_neg hn]; rw [show ((4 : Int)) = ((4 : Nat) : Int) from rfl, Zff, wrap_i64 _ oo oo]; congr 1; omega)) ?_); intro a w h
  refine Zc (Jz h rfl rfl runUnderlying186 typeInfo22 sizeOf22 zeroValue22 rfl dd (Nat.le_refl _) (by show 4 * _ ≤ _; omega) oo dd ?_); clear h; intro b22 a w h
  rw [show (Value.int .u32 0).cells.toList = [Value.int .u32 0] from rfl, Zc5, show List.replicate (wds n).length (Value.int .u32 0) = Xl (Zbu (wds n) 0 0) from by rw [Zka]; simp] at h
  refine gL h (za rfl (zn (zs (zS (zm rfl (zp (.builtin [_] rfl (Zo _ _ _)) (zm rfl (zn (zb ?_))))))))); clear h; intro a w h
  refine Zn (fun (i : Nat) a w => i ≤ (wds n).length ∧ St 51 S w0 [(1, pB b1), (3, .slice (some ⟨b22, 0, none⟩) (wds n).length (wds n).length), (24, .int .i64 ((wds n).length : Int)), (25, .int .i64 (i : Int))] [(b22, .cells (Xl (Zbu (wds n) i 0)).toArray 22 (0, 0)), (b1, .cells (Vw n).cells 35 (0, 0))] [] a w) (fun i => (wds n).length - i) (0) (⟨Nat.zero_le _, h.sub sA⟩) ?_; clear h
  rintro i a w ⟨hi, h⟩
  refine gC h (zS (zp (.lss rfl rfl) (zn (zs ?_)))); clear h; intro a w h
  refine Zg h rfl (fun hc26 => ?_) (fun hc26 => ?_)
  ·
   skip
   have hi' : i < (wds n).length := by simpa using hc26
   refine gC h (zk (zs (zb (zS (zm rfl (za rfl (zn (zS (zm rfl (zn (zb ?_))))))))))); clear h; intro a w h
   refine Zn (fun (k : Nat) a w => k ≤ 4 ∧ St 51 S w0 [(1, pB b1), (3, .slice (some ⟨b22, 0, none⟩) (wds n).length (wds n).length), (24, .int .i64 ((wds n).length : Int)), (25, .int .i64 (i : Int)), (4, .int .i64 (i : Int)), (28, .int .i64 (k : Int))] [(b22, .cells (Xl (Zbu (wds n) i k)).toArray 22 (0, 0)), (b1, .cells (Vw n).cells 35 (0, 0))] [] a w) (fun k => 4 - k) (0) (⟨oo, h.sub sA⟩) ?_; clear h
   rintro k a w ⟨hk, h⟩
   refine gC h (zS (zp (.lss rfl rfl) (zn (zs ?_)))); clear h; intro a w h
   refine Zg h rfl (fun hc29 => ?_) (fun hc29 => ?_)
   ·
    skip
    have hk' : k < 4 := by simp at hc29; omega
    refine gC h (zk (zs (zb (zS (zm rfl (za rfl (zn (yD Za [0, 1, 2, 3, 4, 5, 6, 7, 8, 9, 10, 11, 12, 13, 14, 15, 16, 17] (Zd kk) (ym rfl rfl (ym rfl rfl (yp rfl (.indexAddr rfl rfl (Ji _ _ _ _ _ oo)) (yd rfl rfl (by repeat (first | exact List.Mem.head _ | apply List.Mem.tail)) isAgg22 sizeOf22 ((Zy 0 (by rw [Zb3 _ _ _ hi']; omega)).trans (by rw [Nat.zero_add, Zmq _ _ _ hi'])) ?_)))))))))))); clear h
    refine yp rfl (.fA rfl Gb) (yd rfl rfl mr isAgg9 sizeOf9 Kq ?_)
    refine ym rfl rfl (yp rfl (.mul rfl rfl) (ym rfl rfl (yp rfl (.pN (4 * i + k) (.add rfl rfl)) (yp rfl (Pure1.cast (v' := .int .u8 (((wds n).getD i 0 / 256 ^ k % 256 : Nat) : Int)) (.index rfl rfl (fun _ => Zc4 runUnderlying9 _ _ (by rw [Zd9, if_neg hn]; omega))) (by rw [Znk hn hi' hk'])) (yp rfl (.convert rfl (Zq3 _ (wrap_u32 _ oo oo))) (ym rfl rfl (yp rfl (.pN (8 * k) (.mul rfl rfl)) (yp rfl (Pure1.cast (v' := .int .u32 (((wds n).getD i 0 / 256 ^ k % 256 * 2 ^ (8 * k) : Nat) : Int)) (.binOp rfl rfl (fun _ => Zc2 _ _ _ _ _ (by show 8 * k ≤ 32; omega))) (by rw [wrap_u32 _ oo (by have := Zfg ((wds n).getD i 0 / 256 ^ k) k hk'; omega)])) (yp rfl (Pure1.cast (v' := .int .u32 (((wds n).getD i 0 % 256 ^ (k + 1) : Nat) : Int)) (.binOp rfl rfl (fun _ => Zfi rfl _ _ _ _ _ (Nat.lt_of_lt_of_le (Nat.mod_lt _ (Nat.pow_pos oo)) (Nat.le_trans (Nat.pow_le_pow_right oo (by omega : k ≤ 4)) dd)) (Zfg _ _ hk'))) (by rw [Zux])) (yp rfl (.indexAddr rfl rfl (Ji _ _ _ _ _ oo)) (yt rfl rfl rfl ((Vz (Zbu (wds n) i k) (0 + i) ((wds n).getD i 0 % 256 ^ (k + 1))).trans (by rw [Nat.zero_add, Zmp _ _ _ _ hi'])) (by repeat (first | exact Upd.head | apply Upd.tail)) sizeOf22 rfl (by simp [Zb3 _ _ _ hi']; omega) rfl ?_)))))))))))
    refine yn (zr (zp (.add rfl rfl) (zm rfl (zn ?_)))); intro a w h
    exact ⟨k + 1, ⟨oo, h.sub sA⟩, oo⟩
   ·
    skip
    have hk' : k = 4 := by simp at hc29; omega
    subst hk'
    rw [Zkb _ _ hi' (Wd.wds n)] at h
    refine gC h (ze (zr (zp (.add rfl rfl) (zm rfl (zn ?_))))); clear h; intro a w h
    exact ⟨i + 1, ⟨oo, h.sub sA⟩, oo⟩
  ·
   skip
   have hi' : i = (wds n).length := by simp at hc26; omega
   refine gC h (ze (zS (zm rfl (za rfl (zn (zt ?_)))))); clear h; intro a w h
   subst hi'
   rw [Zmr] at h
   replace h := h.shareAll hS (Xl (wds n)) rfl
   refine Xr (Ψ := [Row _ (Xl (wds n))]) h (Zk h rfl (.tmp rfl)) ⟨_, _, rfl, Nat.le_refl _, rfl⟩ ss
end
section
theorem Ze8 (x0 : Int) (w : World) : (Instr.build 35 [(0, .int .u64 x0)].toArray).run Tryz.prog w = .ok (.agg #[.int .u64 x0, .string ⟨#[]⟩]) w := by simp [go_sem]
theorem Qv {c0 c1 v0 v1 : Value} : Qc #[c0, c1] 0 [v0, v1] = #[v0, v1] := rfl
theorem Zz {c0 c1 : Value} : Qe true 2 #[c0, c1] 0 = some (.agg #[c0, c1]) := rfl
theorem Zlw (w : World) : (Instr.build 35 [].toArray).run Tryz.prog w = .ok (.agg #[.int .u64 0, .string ⟨#[]⟩]) w := by simp [go_sem]
theorem Zq5 (x : Int) (w : World) : (Go.convert 22 33 (.int .u32 x)).run Tryz.prog w = .ok (.int .u64 (IntKind.u64.wrap x)) w := by
 simp [go_sem]
theorem Xc (x : Int) (h0 : IntKind.u64.wrap x = x) (w : World) : (Go.convert 22 33 (.int .u32 x)).run Tryz.prog w = .ok (.int .u64 x) w := by
 rw [Zq5, h0]
theorem Zi3 (x : Int) (w : World) : (Go.convert 22 5 (.int .u32 x)).run Tryz.prog w = .ok (.int .u8 (IntKind.u8.wrap x)) w := by
 simp [go_sem]
theorem Zhc (x0 : Int) (x1 : Int) (x2 : Int) (x3 : Int) (w : World) : (Instr.buildSlice 224 4 [(0, .int .u8 x0), (1, .int .u8 x1), (2, .int .u8 x2), (3, .int .u8 x3)].toArray).run Tryz.prog w = .ok (.slice (some ⟨w.heap.size, 0, none⟩) 4 4) (w.alloc (.cells #[.int .u8 x0, .int .u8 x1, .int .u8 x2, .int .u8 x3] 5 (0, 0))) := by
 simp [go_sem]
theorem Qcu (x1 : ByteArray) (w : World) : (Instr.build 35 [(1, .string x1)].toArray).run Tryz.prog w = .ok (.agg #[.int .u64 0, .string x1]) w := by simp [go_sem]
theorem Zkz (X Y : Operand) (n m : Nat) (w : World) : (do eqGuard .eql 35 X Y (Vw n) (Vw m); Go.binOp .eql 35 (Vw n) (Vw m) : Sem Value).run Tryz.prog w = .ok (.bool (decide (n = m))) w := by
 simp [go_sem]
 have hb : ((Yx n).toList = (Yx m).toList) ↔ Yx n = Yx m := by have := Zco (Yx n) (Yx m); rw [Bool.eq_iff_iff] at this; simpa using this
 by_cases h : n = m
 · subst h; simp
 ·
  have hne := fun h1 h2 => h (Zls h1 h2)
  by_cases h1 : Kv n = Kv m
  · simp only [h, h1, hb, if_true, decide_false]; exact if_neg (hne h1)
  · simp [h, h1]
theorem C_Of (n : Nat) (hn : n < 18446744073709551616) : Xm Tryz.prog 120 [.int .u64 (n : Int)] (Vw n) := by
 refine fn_intro func120 rfl ntmps120 nb ?_
 intro S w0 a hS h
 refine gC h (zS (zz zeroValue35 fun b2 => zn (zS (zm rfl (zp (.build [(_, _)] rfl (Ze8 _)) (zt' rfl rfl Qv uu sizeOf35 rfl nb rfl ?_)))))); clear h; intro a w h
 refine wpList_nil (wp_ret ?_)
 refine Xd h (Zk h rfl (.cell rfl mr isAgg35 sizeOf35 Zz)) ?_
 rw [Vw, Qm hn, Ko hn]
theorem Qaz (n : Nat) : Xm Tryz.prog 157 [Vw n] (.bool (decide (n = 0))) := by
 refine fn_intro func157 rfl ntmps157 nb ?_
 intro S w0 a hS h
 refine gC h (zS (zx rfl fun b1 => za rfl (zn (zS (zd rfl mr isAgg35 sizeOf35 Zz ?_)))))
 refine zp (Pure1.cast (v' := Vw 0) (.build [] rfl (Zlw)) (by rfl)) (zp (.binOp rfl rfl (fun _ => Zkz _ _ n 0 _)) (za rfl (zn (zt ?_)))); intro a w h
 exact Zdj h
theorem Qdc (ad : Option Addr) (c : Nat) (l : List Nat) (hw : Wd l) (hc : l.length ≤ c) (hs : l.length ≤ 1099511627776) :
  Gh Tryz.prog 123 [.slice ad l.length c] [Row ad (Xl l)] (Vw (Qb l)) := by
 refine fn_intro func123 rfl ntmps123 nb ?_
 intro S w0 a hS h
 refine gC h (zS (zz zeroValue35 fun b2 => zn (zS (zm rfl (zf [_] rfl call147 (C_cut ad c l hw hc hs) ?_))))); clear h; rintro v10 Ψ10 ⟨rfl, rfl⟩ a w h
 have hWd := Wd.wds (Qb l)
 have hV := Jl (Qb l)
 have hN : (wds (Qb l)).length ≤ 1099511627776 := Nat.le_trans (Zfe hw) hs
 have hNc : (wds (Qb l)).length ≤ c := Nat.le_trans (Zfe hw) hc
 generalize hWe : wds (Qb l) = W at h hWd hV hN hNc
 refine gL h (za rfl (zn (zs (zS (zm rfl (zp (.builtin [_] rfl (Zo _ _ _)) (zp (.leq rfl rfl) (zn ?_)))))))); clear h; intro a w h
 refine cW ?_
 refine Zg h rfl (fun hc13 => ?_) (fun hc13 => ?_)
 ·
  skip
  have h2 : W.length ≤ 2 := by simp at hc13; omega
  refine gC h (zS (za rfl (zn (zs (zS (zm rfl (zp (.builtin [_] rfl (Zo _ _ _)) (zm rfl (zn (zb ?_)))))))))); clear h; intro a w h
  refine Zn (fun (i : Nat) a w => i ≤ W.length ∧ St 59 S w0 [(2, pB b2), (3, .int .u64 (Qb (W.take i) : Int)), (14, .slice ad W.length c), (15, .int .i64 (W.length : Int)), (16, .int .i64 (i : Int))] [(b2, .cells (Vw 0).cells 35 (0, 0))] [Row ad (Xl W)] a w) (fun i => W.length - i) (0) (⟨Nat.zero_le _, (h.factsSub (by simp)).sub (Ztd ⟨rfl, rfl, rfl, rfl, rfl, trivial⟩)⟩) ?_; clear h
  rintro i a w ⟨hi, h⟩
  refine gC h (zS (zp (.lss rfl rfl) (zn (zs ?_)))); clear h; intro a w h
  refine Zg h rfl (fun hc17 => ?_) (fun hc17 => ?_)
  ·
   skip
   have hi' : i < W.length := by simpa using hc17
   obtain ⟨b, off, had⟩ := h.row_addr List.mem_cons_self (by simp; intro e; subst e; simp at hi')
   subst had
   have hx := hWd.getD i
   refine gC h (zk (zs (zb (zS (zm rfl (zp (.indexAddr rfl rfl (Ji _ _ _ _ _ oo)) (zD rfl mm (by simp; omega) isAgg22 sizeOf22 (Zy 0 oo) (.inr rfl) ?_)))))))
   refine za rfl (za rfl (zn (zr (zm rfl (zm rfl (zp (.convert rfl (Xc _ (wrap_u64 _ oo oo))) (zm rfl (zp (.pN (32 * i) (.mul rfl rfl)) (zp (Pure1.cast (v' := .int .u64 ((W.getD i 0 * 2 ^ (32 * i) : Nat) : Int)) (.binOp rfl rfl (fun _ => Zc2 _ _ _ _ _ (by show 32 * i ≤ 64; omega))) (by rw [wrap_u64 _ oo (by have := Zh4 _ i hx oo; omega)])) (zp (Pure1.cast (v' := .int .u64 ((Qb (W.take (i + 1)) : Nat) : Int)) (.binOp rfl rfl (fun _ => Zfi rfl _ _ _ _ _ (Nat.lt_of_lt_of_le (Zmc (hWd.take i) (by simp; omega)) dd) (Zh4 _ i hx oo))) (by rw [Qbv _ _ hi' hWd])) (za rfl (zn (zr (zp (.add rfl rfl) (zm rfl (zn ?_)))))))))))))))); intro a w h
   exact ⟨i + 1, ⟨oo, h.sub sA⟩, oo⟩
  ·
   skip
   have hi' : i = W.length := by simp at hc17; omega
   refine gC h (ze (zS (zm rfl (zp (.build [(_, _)] rfl (Ze8 _)) (zt' rfl rfl Qv uu sizeOf35 rfl nb rfl ?_))))); clear h; intro a w h
   refine wpList_nil (wp_ret ?_)
   refine Xd h (Zk h rfl (.cell rfl mr isAgg35 sizeOf35 Zz)) ?_
   have hlt := Zmc hWd h2; rw [hV] at hlt; subst hi'; rw [List.take_length, hV, Vw, Qm hlt, Ko hlt]
 ·
  skip
  have h2 : 2 < W.length := by simp at hc13; omega
  refine gC h (zk (zS (zm rfl (zp (.builtin [_] rfl (Zo _ _ _)) (zp (.pN (4 * W.length) (.mul rfl rfl)) ?_))))); clear h; intro a w h
  refine Zc (Jz h rfl rfl runUnderlying224 typeInfo5 sizeOf5 zeroValue5 rfl dd (by exact Nat.zero_le _) (by show 1 * _ ≤ _; omega) oo dd ?_); clear h; intro b34 a w h
  refine gL h (za rfl (zn (zs (zS (zm rfl (zp (.builtin [_] rfl (Zo _ _ _)) (zm rfl (zn (zb ?_))))))))); clear h; intro a w h
  refine Zn (fun (i : Nat) a w => i ≤ W.length ∧ ∃ v σ, Grow 1 5 v (4 * i) (u8s (bytesOf (W.take i))) σ [(b2, .cells (Vw 0).cells 35 (0, 0))] ∧ St 59 S w0 [(2, pB b2), (6, v), (35, .slice ad W.length c), (36, .int .i64 (W.length : Int)), (37, .int .i64 (i : Int))] σ [Row ad (Xl W)] a w) (fun i => W.length - i) (0) (⟨Nat.zero_le _, _, _, ⟨rfl, .inr ⟨b34, 4 * W.length, _, rfl, by simp [bytesOf, Zfa, Value.cells], Nat.zero_le _, rfl⟩⟩, (h.factsSub (by simp)).sub (Ztd ⟨rfl, rfl, rfl, rfl, rfl, trivial⟩)⟩) ?_; clear h
  rintro i a w ⟨hi, v, σ, hG, h⟩
  refine gC h (zS (zp (.lss rfl rfl) (zn (zs ?_)))); clear h; intro a w h
  refine Zg h rfl (fun hc38 => ?_) (fun hc38 => ?_)
  ·
   skip
   have hi' : i < W.length := by simpa using hc38
   obtain ⟨b, off, had⟩ := h.row_addr List.mem_cons_self (by simp; intro e; subst e; simp at hi')
   subst had
   have hx := hWd.getD i
   refine gC h (zk (zs (zb (zS (zp (.indexAddr rfl rfl (Ji _ _ _ _ _ oo)) (zD rfl mm (by simp; omega) isAgg22 sizeOf22 (Zy 0 oo) (.inr rfl) ?_))))))
   refine za rfl (zn (zr (zm rfl (zm rfl (zp (Pure1.cast (v' := .int .u8 ((W.getD i 0 % 256 : Nat) : Int)) (.convert rfl (Zi3 _)) (by rw [Zc0]; congr 1)) (zm rfl (zp (.binOp rfl rfl (fun _ => Vb _ _ _ _ 8 dd)) (zp (Pure1.cast (v' := .int .u8 ((W.getD i 0 / 2 ^ 8 % 256 : Nat) : Int)) (.convert rfl (Zi3 _)) (by rw [Zc0]; congr 1)) (zm rfl (zp (.binOp rfl rfl (fun _ => Vb _ _ _ _ 16 dd)) (zp (Pure1.cast (v' := .int .u8 ((W.getD i 0 / 2 ^ 16 % 256 : Nat) : Int)) (.convert rfl (Zi3 _)) (by rw [Zc0]; congr 1)) (zm rfl (zp (.binOp rfl rfl (fun _ => Vb _ _ _ _ 24 dd)) (zp (Pure1.cast (v' := .int .u8 ((W.getD i 0 / 2 ^ 24 % 256 : Nat) : Int)) (.convert rfl (Zi3 _)) (by rw [Zc0]; congr 1)) (zB [(_, _), (_, _), (_, _), (_, _)] rfl (Zhc _ _ _ _) fun b53 => ?_))))))))))))))); intro a w h
   refine Zc (Zu2 h rfl rfl hG runUnderlying224 runUnderlying224 typeInfo5 sizeOf5 zeroValue5 rfl dd dd rfl rfl dd (by show 1 * _ ≤ _; omega) dd ?_); clear h hG; intro v σ a w hG h
   rw [Zs2 _ _ hi'] at hG
   refine gL h (za rfl (zn (zr (zp (.add rfl rfl) (zm rfl (zn ?_)))))); clear h; intro a w h
   exact ⟨i + 1, ⟨oo, _, _, hG, h.sub sA⟩, oo⟩
  ·
   skip
   have hi' : i = W.length := by simp at hc38; omega
   refine gC h (ze (zS (zm rfl ?_))); clear h; intro a w h
   refine Zc (Zom h rfl hG runUnderlying224 runUnderlying9 runUnderlying5 dd ?_); clear h; intro a h
   replace h := h.drop hG.sub
   refine gL h (zp (.build [(_, _)] rfl (Qcu _)) (zt' rfl rfl Qv uu sizeOf35 rfl nb rfl ?_)); clear h; intro a w h
   refine wpList_nil (wp_ret ?_)
   refine Xd h (Zk h rfl (.cell rfl mr isAgg35 sizeOf35 Zz)) ?_
   have hlt : ¬ Qb l < 18446744073709551616 := Zn5 (by rw [hWe]; exact h2)
   subst hi'; rw [List.take_length, Vw, Zsh hlt, Zeq hlt, hWe]
end
section
theorem bi_min (x y : Int) (w : World) (ty : TypeId) (cs : Array Bool) : (Go.builtin .min #[3, 3] ty cs #[.int .i64 x, .int .i64 y]).run Tryz.prog w = .ok (.value (.int .i64 (min x y))) w := by
 simp [go_sem]; rw [Int.min_def]; split <;> split <;> omega
theorem bi_max (x y : Int) (w : World) (ty : TypeId) (cs : Array Bool) : (Go.builtin .max #[3, 3] ty cs #[.int .i64 x, .int .i64 y]).run Tryz.prog w = .ok (.value (.int .i64 (max x y))) w := by
 simp [go_sem]; rw [Int.max_def]; split <;> split <;> omega
theorem Zzc (x y c : Nat) (hc : c ≤ 1) (w : World) : (callFunc 161 #[.int .u64 (x : Int), .int .u64 (y : Int), .int .u64 (c : Int)]).run Tryz.prog w = .ok (.value (.tuple #[.int .u64 (((x + y + c) % 18446744073709551616 : Nat) : Int), .int .u64 (((x + y + c) / 18446744073709551616 : Nat) : Int)])) w :=
 Zuj func161 kk kk kk kk x y c hc w
theorem C_sign (n : Int) : Xm Tryz.prog 208 [.int .i64 n] (.int .i64 (max (-1) (min 1 n))) := by
 refine fn_intro func208 rfl ntmps208 nb ?_
 intro S w0 a hS h
 refine gC h (zS (za rfl (zn (zS (zm rfl (zp (.builtin [_, _] rfl (fun w ty cs => bi_min _ _ w ty cs)) (zp (.builtin [_, _] rfl (fun w ty cs => bi_max _ _ w ty cs)) (za rfl (zn (zt ?_)))))))))); clear h; intro a w h
 exact Zdj h
theorem C_cmp (n m : Nat) (a1 : Option Addr) (c1 : Nat) (a2 : Option Addr) (c2 : Nat) (hn : (wds n).length ≤ 1099511627776) (hm : (wds m).length ≤ 1099511627776) :
  Gh Tryz.prog 183 [.slice a1 (wds n).length c1, .slice a2 (wds m).length c2] [Row a1 (Xl (wds n)), Row a2 (Xl (wds m))] (.int .i64 (Zwj n m)) := by
 refine fn_intro func183 rfl ntmps183 nb ?_
 intro S w0 a hS h
 refine gC h (zS (za rfl (zn (zs (zS (zm rfl (zp (.builtin [_] rfl (Zo _ _ _)) (zm rfl (zp (.builtin [_] rfl (Zo _ _ _)) (zp (.neq rfl rfl) (zn ?_))))))))))); clear h; intro a w h
 refine cW ?_
 refine Zg h rfl (fun hc10 => ?_) (fun hc10 => ?_)
 ·
  skip
  skip
  refine gC h (zS (zm rfl (zp (.builtin [_] rfl (Zo _ _ _)) (zm rfl (zp (.builtin [_] rfl (Zo _ _ _)) (zp (.sub rfl rfl) (zv [_] rfl call208 (C_sign _) (za rfl (zn (zt ?_)))))))))); clear h; intro a w h
  refine Xd h (Zk h rfl (.tmp rfl)) ?_
  unfold Zwj
  have hne : (wds n).length ≠ (wds m).length := natNe hc10
  rcases Nat.lt_or_gt_of_ne hne with h1 | h1
  · have := Zee h1; rw [if_pos this]; congr 1; rw [Int.min_eq_right oo, Int.max_eq_left oo]
  · have h2 := Zee h1; rw [if_neg oo, if_pos h2]; congr 1; rw [Int.min_eq_left oo]; rfl
 ·
  skip
  have hl : (wds n).length = (wds m).length := Qbz hc10
  refine gC h (zk (zs (zS (zm rfl (zp (.builtin [_] rfl (Zo _ _ _)) (zp (.sub rfl rfl) (za rfl (zn (zb ?_))))))))); clear h; intro a w h
  refine Zn (fun (k : Nat) a w => k ≤ (wds n).length ∧ (wds n).drop k = (wds m).drop k ∧ St 42 S w0 [(0, .slice a1 (wds n).length c1), (1, .slice a2 (wds m).length c2), (5, .int .i64 ((k : Int) - 1))] [] [Row a1 (Xl (wds n)), Row a2 (Xl (wds m))] a w) (fun k => k) ((wds n).length) (⟨Nat.le_refl _, by rw [List.drop_eq_nil_of_le (Nat.le_refl _), hl, List.drop_eq_nil_of_le (Nat.le_refl _)], h.sub sA⟩) ?_; clear h
  rintro k a w ⟨hN, hd, h⟩
  refine gC h (zs (zS (zm rfl (zp (.geq rfl rfl) (zn ?_))))); clear h; intro a w h
  refine cW ?_
  refine Zg h rfl (fun hc21 => ?_) (fun hc21 => ?_)
  ·
   skip
   have hk : 0 < k := by simp at hc21; omega
   have hN' : k ≤ (wds m).length := hl ▸ hN
   obtain ⟨b1, o1, rfl⟩ := h.row_addr (ad := a1) (M := Xl (wds n)) List.mem_cons_self (by simp; intro e; rw [e] at hN; simp at hN; omega)
   obtain ⟨b2, o2, rfl⟩ := h.row_addr (ad := a2) (M := Xl (wds m)) (List.mem_cons_of_mem _ List.mem_cons_self) (by simp; intro e; rw [e] at hN'; simp at hN'; omega)
   refine gC h (zk (zs (zb (zs (yD Za [0, 1, 2, 3, 4, 5, 6, 7, 8] (Zd kk) (ym rfl rfl (yp rfl (.pO (k - 1) (.move rfl)) (yp rfl (.indexAddr rfl rfl (Ji _ _ _ _ _ oo)) ?_)))))))); clear h
   refine Zv rfl kk rfl mm (by simp; omega) isAgg22 sizeOf22 (Zy 0 oo) (.inr rfl) dd ?_
   refine ym rfl rfl (yp rfl (.pO (k - 1) (.move rfl)) (yp rfl (.indexAddr rfl rfl (Ji _ _ _ _ _ oo)) ?_))
   refine Zv rfl kk rfl mm (by simp; omega) isAgg22 sizeOf22 (Zy 0 oo) (.inr rfl) dd ?_
   refine yp rfl (.neq rfl rfl) (yn ?_); intro a w h
   refine cW ?_
   refine Zg h rfl (fun hc32 => ?_) (fun hc32 => ?_)
   ·
    skip
    skip
    refine gC h (zs (zs (yD Za [0, 1, 2, 3, 4, 5, 6, 7, 8] (Zd kk) (ym rfl rfl (yp rfl (.pO (k - 1) (.move rfl)) (yp rfl (.indexAddr rfl rfl (Ji _ _ _ _ _ oo)) ?_)))))); clear h
    refine Zv rfl kk rfl mm (by simp; omega) isAgg22 sizeOf22 (Zy 0 oo) (.inr rfl) dd ?_
    refine ym rfl rfl (yp rfl (.pO (k - 1) (.move rfl)) (yp rfl (.indexAddr rfl rfl (Ji _ _ _ _ _ oo)) ?_))
    refine Zv rfl kk rfl mm (by simp; omega) isAgg22 sizeOf22 (Zy 0 oo) (.inr rfl) dd ?_
    refine yp rfl (.lss rfl rfl) (yn ?_); intro a w h
    refine cW ?_
    refine Zg h rfl (fun hc41 => ?_) (fun hc41 => ?_)
    ·
     skip
     refine gC h (zS (za rfl (zn (zt ?_)))); clear h; intro a w h
     refine Xd h (Zk h rfl (.tmp rfl)) ?_
     have h1 : (wds n).getD (k - 1) 0 < (wds m).getD (k - 1) 0 := by simpa using hc41
     have h2 := Zps (Wd.wds n) (Wd.wds m) h1 (by rw [Nat.sub_add_cancel hk]; exact hd)
     rw [Jl, Jl] at h2
     unfold Zwj; rw [if_pos h2]
    ·
     skip
     refine gC h (zk (zS (za rfl (zn (zt ?_))))); clear h; intro a w h
     refine Xd h (Zk h rfl (.tmp rfl)) ?_
     have h0 : (wds n).getD (k - 1) 0 ≠ (wds m).getD (k - 1) 0 := natNe hc32
     have h0' : ¬ (wds n).getD (k - 1) 0 < (wds m).getD (k - 1) 0 := by simpa using hc41
     have h1 : (wds m).getD (k - 1) 0 < (wds n).getD (k - 1) 0 := oo
     have h2 := Zps (Wd.wds m) (Wd.wds n) h1 (by rw [Nat.sub_add_cancel hk]; exact hd.symm)
     rw [Jl, Jl] at h2
     unfold Zwj; rw [if_neg oo, if_pos h2]
   ·
    skip
    have he : (wds n).getD (k - 1) 0 = (wds m).getD (k - 1) 0 := Qbz hc32
    refine gC h (zk (zr (zm rfl (zp (Pure1.cast (v' := .int .i64 (((k - 1 : Nat) : Int) - 1)) (.sub rfl rfl) (by show Value.int _ _ = Value.int _ _; congr 1; omega)) (za rfl (zn ?_)))))); clear h; intro a w h
    refine ⟨k - 1, ⟨oo, drop_step hl oo he (by rw [Nat.sub_add_cancel hk]; exact hd), h.sub sA⟩, oo⟩
  ·
   skip
   have hk : k = 0 := by simp at hc21; omega
   refine gC h (ze (zS (za rfl (zn (zt ?_))))); clear h; intro a w h
   refine Xd h (Zk h rfl (.tmp rfl)) ?_
   subst hk
   have e : n = m := by rw [← Jl n, ← Jl m]; simp at hd; rw [hd]
   unfold Zwj; rw [if_neg oo, if_neg oo]
theorem C_Cmp (n m : Nat) (hn : (wds n).length ≤ 1099511627776) (hm : (wds m).length ≤ 1099511627776) : Xm Tryz.prog 158 [Vw n, Vw m] (.int .i64 (Zwj n m)) := by
 refine fn_intro func158 rfl ntmps158 nb ?_
 intro S w0 a hS h
 refine gC h (zS (zx rfl fun b2 => zx rfl fun b3 => za rfl (zn (zs (zS (zp (.fA rfl Gb) (zd rfl mr isAgg9 sizeOf9 Kq ?_)))))))
 refine zp (.binOp rfl rfl (fun _ => Xn _ _ _ _ _)) (zm rfl ?_); intro a w h
 refine Qp h (fun hc8 h => ?_) (fun hc8 h => ?_)
 focus
  have ha : n < 18446744073709551616 := Jg.1 (by simpa using hc8)
  refine gL h (zq 8 rfl rfl (.fA rfl Gb) ?_); clear h; intro a w h
  refine Zt 8 h rfl rfl (Qd h rfl mr isAgg9 sizeOf9 Kq dd ?_); clear h; intro a h
  refine gL h (zq 8 rfl rfl (.binOp rfl rfl (fun _ => Xn _ _ _ _ _)) ?_); clear h; intro a w h
  refine Qp h (fun hc11 h => ?_) (fun hc11 h => ?_)
  ·
   skip
   have hb : m < 18446744073709551616 := Jg.1 (by simpa using hc11)
   refine gL h (zp (.pickT rfl rfl) (zn ?_)); clear h; intro a w h
   refine cW ?_
   refine Zi h rfl ?_
   refine gC h (zs (zb (zS (zp (.fA rfl Ke) (zd rfl mr isAgg33 sizeOf33 Vp ?_)))))
   refine zp (.fA rfl Ke) (zd rfl mr isAgg33 sizeOf33 Vp ?_)
   refine zp (.lss rfl rfl) ?_; intro a w h
   refine Qp h (fun hc18 h => ?_) (fun hc18 h => ?_)
   ·
    skip
    refine gL h (za rfl (zn ?_)); clear h; intro a w h
    refine cW ?_
    refine Zi h rfl ?_
    refine gC h (zS (za rfl (zn (zt ?_)))); clear h; intro a w h
    refine Xd h (Zk h rfl (.tmp rfl)) ?_
    rw [Qm ha, Qm hb] at hc18; have : n < m := by simpa using hc18
    unfold Zwj; rw [if_pos this]
   ·
    skip
    refine gL h (za rfl (zn ?_)); clear h; intro a w h
    refine cW ?_
    refine Zf h rfl ?_
    refine gC h (zS (zp (.fA rfl Ke) (zd rfl mr isAgg33 sizeOf33 Vp ?_)))
    refine zp (.fA rfl Ke) (zd rfl mr isAgg33 sizeOf33 Vp ?_)
    refine zp (.gtr rfl rfl) ?_; intro a w h
    refine Qp h (fun hc24 h => ?_) (fun hc24 h => ?_)
    ·
     skip
     refine gL h (za rfl (zn ?_)); clear h; intro a w h
     refine cW ?_
     refine Zi h rfl ?_
     refine gC h (zS (za rfl (zn (zt ?_)))); clear h; intro a w h
     refine Xd h (Zk h rfl (.tmp rfl)) ?_
     rw [Qm ha, Qm hb] at hc18 hc24; have h1 : m < n := by simpa using hc24
     unfold Zwj; rw [if_neg oo, if_pos h1]
    ·
     skip
     refine gL h (za rfl (zn ?_)); clear h; intro a w h
     refine cW ?_
     refine Zf h rfl ?_
     refine gC h (zk (zS (za rfl (zn (zt ?_))))); clear h; intro a w h
     refine Xd h (Zk h rfl (.tmp rfl)) ?_
     rw [Qm ha, Qm hb] at hc18 hc24; have h1 : ¬ m < n := by simpa using hc24
     have h2 : ¬ n < m := by simpa using hc18
     unfold Zwj; rw [if_neg h2, if_neg h1]
  have hb : ¬ m < 18446744073709551616 := fun hn => by have := Jg.2 hn; simp [this] at hc11
  refine gL h (zp (.pickT rfl rfl) (zn ?_)); clear h; intro a w h
 rotate_left
 focus
  have ha : ¬ n < 18446744073709551616 := fun hn => by have := Jg.2 hn; simp [this] at hc8
  refine gL h (zo 8 rfl rfl rfl (zo 8 rfl rfl rfl (zo 8 rfl rfl rfl (zp (.pickF rfl rfl) (zn ?_))))); clear h; intro a w h
 all_goals
  refine cW ?_
  refine Zf h rfl ?_
  refine gC h (zk (zs (yD Za [0, 2, 1, 3, 4, 5] (Zd kk) (yd rfl rfl mr isAgg35 sizeOf35 Zz ?_)))); clear h
  refine yd rfl rfl mr isAgg35 sizeOf35 Zz ?_
  refine yf [_] rfl rfl call124 (Zck n hn) ?_; rintro v26 Ψ26 ⟨a1, c1, rfl, hc1, rfl⟩
  refine yf [_] rfl rfl call124 (Zck m hm) ?_; rintro v28 Ψ28 ⟨a2, c2, rfl, hc2, rfl⟩
  refine yw [_, _] rfl rfl call183 (C_cmp n m a1 c1 a2 c2 hn hm) (yp rfl (.assign rfl) (yn (zt ?_))); intro a w h
  exact Zdj h
theorem Zxn (x y c : Nat) (hx : x < 4294967296) (hy : y < 4294967296) (hc : c ≤ 1) :
  Xm Tryz.prog 162 [.int .u32 (x : Int), .int .u32 (y : Int), .int .u32 (c : Int)] (.tuple #[.int .u32 (((x + y + c) % 4294967296 : Nat) : Int), .int .u32 (((x + y + c) / 4294967296 : Nat) : Int)]) := by
 refine fn_intro func162 rfl ntmps162 nb ?_
 intro S w0 a hS h
 refine gC h (zS (za rfl (za rfl (zn (zS (zm rfl (zp (.convert rfl (Xc _ (wrap_u64 _ oo oo))) (zm rfl (zp (.convert rfl (Xc _ (wrap_u64 _ oo oo))) (zp (.binOp rfl rfl (fun _ => Ki _ _ _ _ _ (wrap_u64 _ oo oo))) (zm rfl (zp (.convert rfl (Xc _ (wrap_u64 _ oo oo))) (zp (Pure1.cast (v' := .int .u64 ((x + y + c : Nat) : Int)) (.binOp rfl rfl (fun _ => Ki _ _ _ _ _ (wrap_u64 _ oo oo))) (by show Value.int _ _ = Value.int _ _; congr 1)) (za rfl (zn (zS (zm rfl (zp (Pure1.cast (v' := .int .u32 (((x + y + c) % 4294967296 : Nat) : Int)) (.convert rfl (Yo _)) (by rw [Jp]; congr 1)) (za rfl (zn (zS (zm rfl (zp (.binOp rfl rfl (fun _ => Vb _ _ _ _ 32 dd)) (zp (Pure1.cast (v' := .int .u32 (((x + y + c) / 4294967296 : Nat) : Int)) (.convert rfl (Yo _)) (by rw [Jp]; congr 1; omega)) (za rfl (zn (zt ?_))))))))))))))))))))))))))); clear h; intro a w h
 refine Xd h (Qq h rfl (.tmp rfl) (.tmp rfl)) ?_
 rfl
theorem Zpl (x y c : Nat) (hx : x < 4294967296) (hy : y < 4294967296) (hc : c ≤ 1) :
  Xm Tryz.prog 160 [.int .u32 (x : Int), .int .u32 (y : Int), .int .u32 (c : Int)] (.tuple #[.int .u32 (((x + 8589934592 - y - c) % 4294967296 : Nat) : Int), .int .u32 ((if x < y + c then 1 else 0 : Nat) : Int)]) := by
 refine fn_intro func160 rfl ntmps160 nb ?_
 intro S w0 a hS h
 refine gC h (zS (za rfl (za rfl (zn (zS (zm rfl (zm rfl (zp (.binOp rfl rfl (fun _ => Zf6 _ _ _ _ _)) (zm rfl (zp (Pure1.cast (v' := .int .u32 (((x + 8589934592 - y - c) % 4294967296 : Nat) : Int)) (.binOp rfl rfl (fun _ => Zf6 _ _ _ _ _)) (by rw [Jp, Jp]; congr 1; omega)) (za rfl (zn (zS (zm rfl (zp (.unOp rfl (fun _ => Zmh _ hx)) (zm rfl (zp (.binOp rfl rfl (fun _ => Zia rfl _ _ _ _ _ (by show _ < 4294967296; omega) hy)) (zm rfl (zm rfl (zp (.binOp rfl rfl (fun _ => Zue rfl _ _ _ _ _ hx hy)) (zp (.unOp rfl (fun _ => Zmh _ (Nat.xor_lt_two_pow (n := 32) hx hy))) (zm rfl (zp (.binOp rfl rfl (fun _ => Zia rfl _ _ _ _ _ (by show _ < 4294967296; omega) (by show _ < 4294967296; omega))) (zp (.binOp rfl rfl (fun _ => Zfi rfl _ _ _ _ _ (Nat.lt_of_le_of_lt Nat.and_le_right hy) (Nat.lt_of_le_of_lt Nat.and_le_right (by show _ < 4294967296; omega)))) (zp (Pure1.cast (v' := .int .u32 ((if x < y + c then 1 else 0 : Nat) : Int)) (.binOp rfl rfl (fun _ => Vb _ _ _ _ 31 dd)) (by rw [Zrt x y c hx hy hc])) (za rfl (zn (zt ?_)))))))))))))))))))))))))))); clear h; intro a w h
 refine Xd h (Qq h rfl (.tmp rfl) (.tmp rfl)) ?_
 rfl
end
section
theorem Zzx (n : Nat) (hbig : ¬ n < 18446744073709551616) (hs : (wds n).length ≤ 1099511627776) :
  Zl0 Tryz.prog 124 [Vw n] [] (fun v σn => ∃ b, v = .slice (some ⟨b, 0, none⟩) (wds n).length (wds n).length ∧ σn = [(b, .cells (Xl (wds n)).toArray 22 (0, 0))]) := by
 refine fn_introO func124 rfl ntmps124 nb ?_
 intro S w0 a hS h
 refine gC h (zS (zx rfl fun b1 => za rfl (zn (zs (zS (zp (.fA rfl Gb) (zd rfl mr isAgg9 sizeOf9 Kq ?_)))))))
 refine zp (.binOp rfl rfl (fun _ => Xn _ _ _ _ _)) (zn ?_); intro a w h
 refine cW ?_
 refine Zg h rfl (fun hc8 => (by exfalso; exact hbig (Jg.1 (by simpa using hc8)))) (fun hc8 => ?_)
 refine gC h (zk (zS (zp (.fA rfl Gb) (zd rfl mr isAgg9 sizeOf9 Kq ?_))))
 have hn : ¬ n < 18446744073709551616 := hbig
 refine zp (.builtin [_] rfl (Zg0 _)) (zp (Pure1.cast (v' := .int .i64 ((wds n).length : Int)) (.binOp rfl rfl (fun _ => Zh6 _ _ _ _ _ dd)) (by rw [Zd9, if_neg hn]; rw [show ((4 : Int)) = ((4 : Nat) : Int) from rfl, Zff, wrap_i64 _ oo oo]; congr 1; omega)) ?_); intro a w h
 refine Zc (Jz h rfl rfl runUnderlying186 typeInfo22 sizeOf22 zeroValue22 rfl dd (Nat.le_refl _) (by show 4 * _ ≤ _; omega) oo dd ?_); clear h; intro b22 a w h
 rw [show (Value.int .u32 0).cells.toList = [Value.int .u32 0] from rfl, Zc5, show List.replicate (wds n).length (Value.int .u32 0) = Xl (Zbu (wds n) 0 0) from by rw [Zka]; simp] at h
 refine gL h (za rfl (zn (zs (zS (zm rfl (zp (.builtin [_] rfl (Zo _ _ _)) (zm rfl (zn (zb ?_))))))))); clear h; intro a w h
 refine Zn (fun (i : Nat) a w => i ≤ (wds n).length ∧ St 51 S w0 [(1, pB b1), (3, .slice (some ⟨b22, 0, none⟩) (wds n).length (wds n).length), (24, .int .i64 ((wds n).length : Int)), (25, .int .i64 (i : Int))] [(b22, .cells (Xl (Zbu (wds n) i 0)).toArray 22 (0, 0)), (b1, .cells (Vw n).cells 35 (0, 0))] [] a w) (fun i => (wds n).length - i) (0) (⟨Nat.zero_le _, h.sub sA⟩) ?_; clear h
 rintro i a w ⟨hi, h⟩
 refine gC h (zS (zp (.lss rfl rfl) (zn (zs ?_)))); clear h; intro a w h
 refine Zg h rfl (fun hc26 => ?_) (fun hc26 => ?_)
 ·
  skip
  have hi' : i < (wds n).length := by simpa using hc26
  refine gC h (zk (zs (zb (zS (zm rfl (za rfl (zn (zS (zm rfl (zn (zb ?_))))))))))); clear h; intro a w h
  refine Zn (fun (k : Nat) a w => k ≤ 4 ∧ St 51 S w0 [(1, pB b1), (3, .slice (some ⟨b22, 0, none⟩) (wds n).length (wds n).length), (24, .int .i64 ((wds n).length : Int)), (25, .int .i64 (i : Int)), (4, .int .i64 (i : Int)), (28, .int .i64 (k : Int))] [(b22, .cells (Xl (Zbu (wds n) i k)).toArray 22 (0, 0)), (b1, .cells (Vw n).cells 35 (0, 0))] [] a w) (fun k => 4 - k) (0) (⟨oo, h.sub sA⟩) ?_; clear h
  rintro k a w ⟨hk, h⟩
  refine gC h (zS (zp (.lss rfl rfl) (zn (zs ?_)))); clear h; intro a w h
  refine Zg h rfl (fun hc29 => ?_) (fun hc29 => ?_)
  ·
   skip
   have hk' : k < 4 := by simp at hc29; omega
   refine gC h (zk (zs (zb (zS (zm rfl (za rfl (zn (yD Za [0, 1, 2, 3, 4, 5, 6, 7, 8, 9, 10, 11, 12, 13, 14, 15, 16, 17] (Zd kk) (ym rfl rfl (ym rfl rfl (yp rfl (.indexAddr rfl rfl (Ji _ _ _ _ _ oo)) (yd rfl rfl (by repeat (first | exact List.Mem.head _ | apply List.Mem.tail)) isAgg22 sizeOf22 ((Zy 0 (by rw [Zb3 _ _ _ hi']; omega)).trans (by rw [Nat.zero_add, Zmq _ _ _ hi'])) ?_)))))))))))); clear h
   refine yp rfl (.fA rfl Gb) (yd rfl rfl mr isAgg9 sizeOf9 Kq ?_)
   refine ym rfl rfl (yp rfl (.mul rfl rfl) (ym rfl rfl (yp rfl (.pN (4 * i + k) (.add rfl rfl)) (yp rfl (Pure1.cast (v' := .int .u8 (((wds n).getD i 0 / 256 ^ k % 256 : Nat) : Int)) (.index rfl rfl (fun _ => Zc4 runUnderlying9 _ _ (by rw [Zd9, if_neg hn]; omega))) (by rw [Znk hn hi' hk'])) (yp rfl (.convert rfl (Zq3 _ (wrap_u32 _ oo oo))) (ym rfl rfl (yp rfl (.pN (8 * k) (.mul rfl rfl)) (yp rfl (Pure1.cast (v' := .int .u32 (((wds n).getD i 0 / 256 ^ k % 256 * 2 ^ (8 * k) : Nat) : Int)) (.binOp rfl rfl (fun _ => Zc2 _ _ _ _ _ (by show 8 * k ≤ 32; omega))) (by rw [wrap_u32 _ oo (by have := Zfg ((wds n).getD i 0 / 256 ^ k) k hk'; omega)])) (yp rfl (Pure1.cast (v' := .int .u32 (((wds n).getD i 0 % 256 ^ (k + 1) : Nat) : Int)) (.binOp rfl rfl (fun _ => Zfi rfl _ _ _ _ _ (Nat.lt_of_lt_of_le (Nat.mod_lt _ (Nat.pow_pos oo)) (Nat.le_trans (Nat.pow_le_pow_right oo (by omega : k ≤ 4)) dd)) (Zfg _ _ hk'))) (by rw [Zux])) (yp rfl (.indexAddr rfl rfl (Ji _ _ _ _ _ oo)) (yt rfl rfl rfl ((Vz (Zbu (wds n) i k) (0 + i) ((wds n).getD i 0 % 256 ^ (k + 1))).trans (by rw [Nat.zero_add, Zmp _ _ _ _ hi'])) (by repeat (first | exact Upd.head | apply Upd.tail)) sizeOf22 rfl (by simp [Zb3 _ _ _ hi']; omega) rfl ?_)))))))))))
   refine yn (zr (zp (.add rfl rfl) (zm rfl (zn ?_)))); intro a w h
   exact ⟨k + 1, ⟨oo, h.sub sA⟩, oo⟩
  ·
   skip
   have hk' : k = 4 := by simp at hc29; omega
   subst hk'
   rw [Zkb _ _ hi' (Wd.wds n)] at h
   refine gC h (ze (zr (zp (.add rfl rfl) (zm rfl (zn ?_))))); clear h; intro a w h
   exact ⟨i + 1, ⟨oo, h.sub sA⟩, oo⟩
 ·
  skip
  have hi' : i = (wds n).length := by simp at hc26; omega
  refine gC h (ze (zS (zm rfl (za rfl (zn (zt ?_)))))); clear h; intro a w h
  subst hi'
  rw [Zmr] at h
  refine Zr6 h (Zk h rfl (.tmp rfl)) ⟨b22, rfl, rfl⟩ sl
theorem Ztv (l : List Nat) : (Xl l).all flat = true := by simp [flat]
theorem Zwe (X : List Nat) : Qc (Xl (List.replicate (X.length + 1) 0)).toArray 0 (Xl X) = (Xl (X ++ [0])).toArray := by
 rw [Zog _ _ ss]
 simp
theorem C_Add (n m : Nat) (hn : (wds n).length ≤ 1000000000000) (hm : (wds m).length ≤ 1000000000000) : Xm Tryz.prog 125 [Vw n, Vw m] (Vw (n + m)) := by
 refine fn_intro func125 rfl ntmps125 nb ?_
 intro S w0 a hS h
 refine gC h (zS (zx rfl fun b2 => zx rfl fun b3 => zz zeroValue35 fun b4 => zn ?_)); clear h; intro a w h
 refine cW ?_
 refine Zbd (fun a w => St 80 S w0 [(2, pB b2), (3, pB b3), (4, pB b4)] [(b4, .cells (Vw 0).cells 35 (0, 0)), (b3, .cells (Vw m).cells 35 (0, 0)), (b2, .cells (Vw n).cells 35 (0, 0))] [] a w) ?_ ?_
 ·
  skip
  refine gC h (zS (zp (.fA rfl Gb) (zd rfl mr isAgg9 sizeOf9 Kq ?_)))
  refine zp (.binOp rfl rfl (fun _ => Xn _ _ _ _ _)) (zm rfl ?_); intro a w h
  refine Qp h (fun hc16 h => ?_) (fun hc16 h => ?_)
  ·
   skip
   have ha : n < 18446744073709551616 := Jg.1 (by simpa using hc16)
   refine gL h (zq 16 rfl rfl (.fA rfl Gb) ?_); clear h; intro a w h
   refine Zt 16 h rfl rfl (Qd h rfl mr isAgg9 sizeOf9 Kq dd ?_); clear h; intro a h
   refine gL h (zq 16 rfl rfl (.binOp rfl rfl (fun _ => Xn _ _ _ _ _)) ?_); clear h; intro a w h
   refine Qp h (fun hc19 h => ?_) (fun hc19 h => ?_)
   ·
    skip
    have hb : m < 18446744073709551616 := Jg.1 (by simpa using hc19)
    refine gL h (zp (.pickT rfl rfl) (zn ?_)); clear h; intro a w h
    refine cW ?_
    refine Zi h rfl ?_
    refine gC h (zS (zp (.fA rfl Ke) (zd rfl mr isAgg33 sizeOf33 Vp ?_)))
    refine zp (.fA rfl Ke) (zd rfl mr isAgg33 sizeOf33 Vp ?_)
    refine zp (.extern [_, _, _] rfl (fun w => by rw [Qm ha, Qm hb]; exact Zzc n m 0 dd w)) (zm rfl (zp (.eX rfl) (zp (.eX rfl) (za rfl (za rfl (zn (zS (zm rfl (zp (.eql rfl rfl) (zn ?_)))))))))); intro a w h
    refine cW ?_
    refine Zg h rfl (fun hc30 => ?_) (fun hc30 => ?_)
    ·
     skip
     have hsum : n + m < 18446744073709551616 := by simp at hc30; omega
     refine gC h (zS (zm rfl (zp (.build [(_, _)] rfl (Ze8 _)) (zt' rfl rfl Qv uu sizeOf35 rfl nb rfl ?_)))); clear h; intro a w h
     refine wpList_nil (wp_ret ?_)
     refine Xd h (Zk h rfl (.cell rfl mr isAgg35 sizeOf35 Zz)) ?_
     have e : (n + m + 0) % 18446744073709551616 = n + m := oo
     rw [e, Vw, Qm hsum, Ko hsum]
    ·
     skip
     refine wp_skip ?_
     exact h.sub sA
   ·
    skip
    have hb : ¬ m < 18446744073709551616 := fun hn => by have := Jg.2 hn; simp [this] at hc19
    refine gL h (zp (.pickT rfl rfl) (zn ?_)); clear h; intro a w h
    refine cW ?_
    refine Zf h rfl ?_
    refine wp_skip ?_
    exact h.sub sA
  ·
   skip
   have ha : ¬ n < 18446744073709551616 := fun hn => by have := Jg.2 hn; simp [this] at hc16
   refine gL h (zo 16 rfl rfl rfl (zo 16 rfl rfl rfl (zo 16 rfl rfl rfl (zp (.pickF rfl rfl) (zn ?_))))); clear h; intro a w h
   refine cW ?_
   refine Zf h rfl ?_
   refine wp_skip ?_
   exact h.sub sA
 ·
  clear h
  intro a w h
  refine gC h (zs (yD Za [0, 2, 1, 3, 4, 5] (Zd kk) (yd rfl rfl mr isAgg35 sizeOf35 Zz ?_))); clear h
  refine yd rfl rfl mr isAgg35 sizeOf35 Zz ?_
  refine yf [_] rfl rfl call124 (Zck n oo) ?_; rintro v34 Ψ34 ⟨a1, c1, rfl, hc1, rfl⟩
  refine yf [_] rfl rfl call124 (Zck m oo) ?_; rintro v36 Ψ36 ⟨a2, c2, rfl, hc2, rfl⟩
  refine yp rfl (.assign rfl) (yp rfl (.assign rfl) (yn ?_)); intro a w h
  refine cW ?_
  refine Zbd (fun a w => ∃ X Y aX cX aY cY, Y.length ≤ X.length ∧ X.length ≤ 1000000000000 ∧ X.length ≤ cX ∧ Y.length ≤ cY ∧ Wd X ∧ Wd Y ∧ Qb X + Qb Y = n + m ∧ St 80 S w0 [(4, pB b4), (7, .slice aX X.length cX), (8, .slice aY Y.length cY)] [(b4, .cells (Vw 0).cells 35 (0, 0))] [Row aX (Xl X), Row aY (Xl Y)] a w) ?_ ?_
  ·
   skip
   refine gC h (zS (zm rfl (zp (.builtin [_] rfl (Zo _ _ _)) (zm rfl (zp (.builtin [_] rfl (Zo _ _ _)) (zp (.lss rfl rfl) (zn ?_))))))); clear h; intro a w h
   refine cW ?_
   refine Zg h rfl (fun hc41 => ?_) (fun hc41 => ?_)
   ·
    skip
    have hlen : (wds n).length < (wds m).length := by simpa using hc41
    refine gC h (zr (zm rfl (zm rfl (za rfl (za rfl (zn ?_)))))); clear h; intro a w h
    exact ⟨wds m, wds n, _, _, _, _, oo, hm, hc2, hc1, Wd.wds _, Wd.wds _, by rw [Jl, Jl]; omega, ((h.drop (List.Sublist.cons_cons _ (List.nil_sublist _))).factsSub (by simp)).sub (Ztd ⟨rfl, rfl, rfl, trivial⟩)⟩
   ·
    skip
    have hlen : (wds m).length ≤ (wds n).length := by simpa using hc41
    refine wp_skip ?_
    exact ⟨wds n, wds m, _, _, _, _, oo, hn, hc1, hc2, Wd.wds _, Wd.wds _, by rw [Jl, Jl], ((h.drop (List.Sublist.cons_cons _ (List.nil_sublist _))).factsSub (by simp)).sub (Ztd ⟨rfl, rfl, rfl, trivial⟩)⟩
  ·
   clear h
   rintro a w ⟨X, Y, aX, cX, aY, cY, hYX, hX12, hXc, hYc, hX, hY, hV, h⟩
   refine gC h (zS (zm rfl (zp (.builtin [_] rfl (Zo _ _ _)) (zp (.pN (X.length + 1) (.add rfl rfl)) ?_)))); clear h; intro a w h
   refine Zc (Jz h rfl rfl runUnderlying186 typeInfo22 sizeOf22 zeroValue22 rfl dd (by exact Nat.le_refl _) (by show 4 * _ ≤ _; omega) oo dd ?_); clear h; intro b47 a w h
   rw [show (Value.int .u32 0).cells.toList = [Value.int .u32 0] from rfl, Zc5, show List.replicate (X.length + 1) (Value.int .u32 0) = Xl (List.replicate (X.length + 1) 0) from by simp] at h
   refine gL h (za rfl (zn (zS (zm rfl (zm rfl ?_))))); clear h; intro a w h
   refine Zc (Zsf h rfl rfl (M := Xl X) ss ss runUnderlying186 sizeOf22 oo dd (Zwe X) (by repeat (first | exact Upd.head | apply Upd.tail)) ss (Ztv X) dd ?_); clear h; intro a w h
   rw [show X.length + 1 = (X ++ [0]).length from by simp] at h
   refine gL h (zn (zS (za rfl (zn (zs (zS (zm rfl (zp (.builtin [_] rfl (Zo _ _ _)) (zm rfl (zn (zb ?_))))))))))); clear h; intro a w h
   refine Zn (fun (i : Nat) a w => ∃ Z c, i ≤ Z.length ∧ Z.length = X.length + 1 ∧ Wd Z ∧ c ≤ 1 ∧ Qb Z + 4294967296 ^ i * (c + Qb (Y.drop i)) = n + m ∧ St 80 S w0 [(4, pB b4), (8, .slice aY Y.length cY), (9, .slice (some ⟨b47, 0, none⟩) Z.length Z.length), (10, .int .u32 (c : Int)), (52, .int .i64 (Z.length : Int)), (53, .int .i64 (i : Int))] [(b47, .cells (Xl Z).toArray 22 (0, 0)), (b4, .cells (Vw 0).cells 35 (0, 0))] [Row aY (Xl Y)] a w) (fun i => X.length + 1 - i) (0) (⟨X ++ [0], 0, Nat.zero_le _, by simp, hX.append (Wd.zeros 1), oo, by rw [Xo]; simp [Qb]; omega, (h.factsSub (by simp)).sub (Ztd ⟨rfl, rfl, rfl, rfl, rfl, rfl, trivial⟩)⟩) ?_; clear h
   rintro i a w ⟨Z, c, hi, hZl, hZ, hc, hT, h⟩
   refine gC h (zS (zp (.lss rfl rfl) (zn (zs ?_)))); clear h; intro a w h
   refine Zg h rfl (fun hc54 => ?_) (fun hc54 => ?_)
   ·
    skip
    have hi' : i < Z.length := by simpa using hc54
    refine gC h (zk (zs (zb (zS (zm rfl (za rfl (zn (zS (za rfl (zn ?_)))))))))); clear h; intro a w h
    refine cW ?_
    refine Zbd (fun a w => St 80 S w0 [(4, pB b4), (8, .slice aY Y.length cY), (9, .slice (some ⟨b47, 0, none⟩) Z.length Z.length), (10, .int .u32 (c : Int)), (11, .int .i64 (i : Int)), (12, .int .u32 (Y.getD i 0 : Int)), (52, .int .i64 (Z.length : Int)), (53, .int .i64 (i : Int))] [(b47, .cells (Xl Z).toArray 22 (0, 0)), (b4, .cells (Vw 0).cells 35 (0, 0))] [Row aY (Xl Y)] a w) ?_ ?_
    ·
     skip
     refine gC h (zS (zm rfl (zm rfl (zp (.builtin [_] rfl (Zo _ _ _)) (zp (.lss rfl rfl) (zn ?_)))))); clear h; intro a w h
     refine cW ?_
     refine Zg h rfl (fun hc59 => ?_) (fun hc59 => ?_)
     ·
      skip
      have hlt : i < Y.length := by simpa using hc59
      obtain ⟨bY, bYo, bYe⟩ := h.row_addr (ad := aY) (M := Xl Y) ss (by simp; intro e; simp [e] at hlt)
      subst bYe
      refine gC h (zr (zm rfl (zm rfl (zp (.indexAddr rfl rfl (Ji _ _ _ _ _ oo)) (zD rfl mm (by simp; omega) isAgg22 sizeOf22 (Zy 0 oo) (.inr rfl) ?_)))))
      refine za rfl (zn ?_); intro a w h
      exact h.sub sA
     ·
      skip
      have hlt : Y.length ≤ i := by simpa using hc59
      refine wp_skip ?_
      rw [Zd0 hlt]
      exact h.sub sA
    ·
     clear h
     intro a w h
     refine gC h (zr (zm rfl (zm rfl (zm rfl (zm rfl (zp (.indexAddr rfl rfl (Ji _ _ _ _ _ oo)) (zd rfl mm isAgg22 sizeOf22 ((Zy 0 (by rw [Nat.zero_add]; omega)).trans (by rw [Nat.zero_add])) ?_)))))))
     refine zm rfl (zm rfl (zv [_, _, _] rfl call162 (Zxn _ _ _ (hZ.getD i) (hY.getD i) hc) (zm rfl (zp (.eX rfl) (zp (.eX rfl) (zp (.indexAddr rfl rfl (Ji _ _ _ _ _ oo)) (zt' rfl rfl ((Vz Z (0 + i) ((Z.getD i 0 + Y.getD i 0 + c) % 4294967296)).trans (by rw [Nat.zero_add])) uu sizeOf22 rfl (by simp; omega) rfl ?_)))))))
     refine za rfl (zn (zr (zp (.add rfl rfl) (zm rfl (zn ?_))))); intro a w h
     refine ⟨i + 1, ⟨Z.set i ((Z.getD i 0 + Y.getD i 0 + c) % 4294967296), _, by simp; omega, by simpa using hZl, hZ.set _ _ (Nat.mod_lt _ dd), ?_, Zlz hi' hT, by rw [List.length_set]; exact h.sub sA⟩, oo⟩
     have hz := hZ.getD i
     have hy := hY.getD i
     omega
   ·
    skip
    have hi' : i = Z.length := by simp at hc54; omega
    refine wp_exit (wp_seq (wp_region_lit ?_))
    replace h := h.shareAll hS (Xl Z) rfl
    refine gL h (zm rfl (zw [_] rfl call123 (Qdc _ _ Z hZ (Nat.le_refl _) oo) (zt' rfl rfl Qv uu sizeOf35 rfl nb rfl ?_))); clear h; intro a w h
    refine wpList_nil (wp_ret ?_)
    refine Xd h (Zk h rfl (.cell rfl mr isAgg35 sizeOf35 Zz)) ?_
    rw [hi'] at hT
    have e : Qb Z = n + m := Qc0 (N := Z.length) (c := c) (by rw [List.drop_eq_nil_of_le oo] at hT; simpa [Qb] using hT) (by rw [← hV, hZl]; exact add_lt hX hY hYX)
    rw [e]
end
section
theorem Zhd (x0 : Int) (x1 : Int) (x2 : Int) (x3 : Int) (w : World) : (Instr.buildSlice 186 4 [(0, .int .u32 x0), (1, .int .u32 x1), (2, .int .u32 x2), (3, .int .u32 x3)].toArray).run Tryz.prog w = .ok (.slice (some ⟨w.heap.size, 0, none⟩) 4 4) (w.alloc (.cells #[.int .u32 x0, .int .u32 x1, .int .u32 x2, .int .u32 x3] 22 (0, 0))) := by
 simp [go_sem]
theorem Qdg (n m : Nat) (hn : (wds n).length ≤ 1000000000000) (hm : (wds m).length ≤ 1000000000000) : Xm Tryz.prog 119 [Vw n, Vw m] (.tuple #[Vw (n - m), .bool (decide (m ≤ n))]) := by
 refine fn_intro func119 rfl ntmps119 nb ?_
 intro S w0 a hS h
 refine gC h (zS (zx rfl fun b2 => zx rfl fun b3 => zz zeroValue35 fun b4 => za rfl (zn (zs (zS (zd rfl mr isAgg35 sizeOf35 Zz ?_))))))
 refine zd rfl mr isAgg35 sizeOf35 Zz ?_
 refine zv [_, _] rfl call158 (C_Cmp n m oo oo) (zp (.lss rfl rfl) (zn ?_)); intro a w h
 refine cW ?_
 refine Zg h rfl (fun hc14 => ?_) (fun hc14 => ?_)
 ·
  skip
  have hlt : n < m := by rw [Zht] at hc14; simpa using hc14
  refine gC h (zS (zp (.build [] rfl (Zlw)) (zt' rfl rfl Qv uu sizeOf35 rfl nb rfl ?_)))
  refine za rfl (zn (zt ?_)); intro a w h
  refine Xd h (Qq h rfl (.cell rfl mr isAgg35 sizeOf35 Zz) (.tmp rfl)) ?_
  rw [show n - m = 0 by omega, show decide (m ≤ n) = false from decide_eq_false oo]; rfl
 ·
  skip
  have hle : m ≤ n := by rw [Zht] at hc14; simpa using hc14
  refine gC h (zk (zs (zS (zp (.fA rfl Gb) (zd rfl mr isAgg9 sizeOf9 Kq ?_)))))
  refine zp (.binOp rfl rfl (fun _ => Xn _ _ _ _ _)) (zn ?_); intro a w h
  refine cW ?_
  refine Zg h rfl (fun hc18 => ?_) (fun hc18 => ?_)
  ·
   skip
   have ha : n < 18446744073709551616 := Jg.1 (by simpa using hc18)
   refine gC h (zS (zp (.fA rfl Ke) (zd rfl mr isAgg33 sizeOf33 Vp ?_)))
   refine zp (.fA rfl Ke) (zd rfl mr isAgg33 sizeOf33 Vp ?_)
   refine zp (Pure1.cast (v' := .int .u64 ((n - m : Nat) : Int)) (.binOp rfl rfl (fun _ => Zf6 _ _ _ _ _)) (by rw [Qm ha, Qm oo, wrap_u64 _ oo oo]; congr 1; omega)) (zp (.build [(_, _)] rfl (Ze8 _)) (zt' rfl rfl Qv uu sizeOf35 rfl nb rfl ?_))
   refine za rfl (zn (zt ?_)); intro a w h
   refine Xd h (Qq h rfl (.cell rfl mr isAgg35 sizeOf35 Zz) (.tmp rfl)) ?_
   rw [decide_eq_true hle, Vw, Qm (by omega : n - m < _), Ko oo]
  ·
   skip
   have ha : ¬ n < 18446744073709551616 := fun hn => by have := Jg.2 hn; simp [this] at hc18
   refine gC h (zk (zs (yD Za [0, 2, 1, 3, 4, 5] (Zd kk) (yd rfl rfl mr isAgg35 sizeOf35 Zz ?_)))); clear h
   refine yd rfl rfl mr isAgg35 sizeOf35 Zz ?_
   refine Zep rfl kk (vs := [_]) rfl call124 (Zzx n ha oo) ss dd ?_; rintro v26 σ26 ⟨b26, rfl, rfl⟩
   refine yf [_] rfl rfl call124 (Zck m oo) ?_; rintro v28 Ψ28 ⟨aY, cY, rfl, hYc, rfl⟩
   refine yp rfl (.assign rfl) (yp rfl (.assign rfl) (yn (zS (za rfl (zn (zs (zS (zm rfl (zp (.builtin [_] rfl (Zo _ _ _)) (zm rfl (zn (zb ?_)))))))))))); intro a w h
   refine Zn (fun (i : Nat) a w => ∃ Z c, i ≤ Z.length ∧ Z.length = (wds n).length ∧ Wd Z ∧ c ≤ 1 ∧ Qb Z + m = n + 4294967296 ^ i * (c + Qb ((wds m).drop i)) ∧ St 58 S w0 [(4, pB b4), (6, .slice (some ⟨b26, 0, none⟩) Z.length Z.length), (7, .slice aY (wds m).length cY), (8, .int .u32 (c : Int)), (30, .int .i64 (Z.length : Int)), (31, .int .i64 (i : Int))] [(b26, .cells (Xl Z).toArray 22 (0, 0)), (b4, .cells (Vw 0).cells 35 (0, 0))] [Row aY (Xl (wds m))] a w) (fun i => (wds n).length - i) (0) (⟨wds n, 0, Nat.zero_le _, rfl, Wd.wds n, oo, by simp [Jl], ((h.drop (List.Sublist.cons_cons _ (List.Sublist.cons_cons _ (List.nil_sublist _)))).factsSub (by simp)).sub (Ztd ⟨rfl, rfl, rfl, rfl, rfl, rfl, trivial⟩)⟩) ?_; clear h
   rintro i a w ⟨Z, c, hi, hZl, hZ, hc, hT, h⟩
   refine gC h (zS (zp (.lss rfl rfl) (zn (zs ?_)))); clear h; intro a w h
   refine Zg h rfl (fun hc32 => ?_) (fun hc32 => ?_)
   ·
    skip
    have hi' : i < Z.length := by simpa using hc32
    refine gC h (zk (zs (zb (zS (zm rfl (za rfl (zn (zS (za rfl (zn ?_)))))))))); clear h; intro a w h
    refine cW ?_
    refine Zbd (fun a w => St 58 S w0 [(4, pB b4), (6, .slice (some ⟨b26, 0, none⟩) Z.length Z.length), (7, .slice aY (wds m).length cY), (8, .int .u32 (c : Int)), (9, .int .i64 (i : Int)), (10, .int .u32 ((wds m).getD i 0 : Int)), (30, .int .i64 (Z.length : Int)), (31, .int .i64 (i : Int))] [(b26, .cells (Xl Z).toArray 22 (0, 0)), (b4, .cells (Vw 0).cells 35 (0, 0))] [Row aY (Xl (wds m))] a w) ?_ ?_
    ·
     skip
     refine gC h (zS (zm rfl (zm rfl (zp (.builtin [_] rfl (Zo _ _ _)) (zp (.lss rfl rfl) (zn ?_)))))); clear h; intro a w h
     refine cW ?_
     refine Zg h rfl (fun hc37 => ?_) (fun hc37 => ?_)
     ·
      skip
      have hlt : i < (wds m).length := by simpa using hc37
      obtain ⟨bY, bYo, bYe⟩ := h.row_addr (ad := aY) (M := Xl (wds m)) ss (by simp; intro e; simp [e] at hlt)
      subst bYe
      refine gC h (zr (zm rfl (zm rfl (zp (.indexAddr rfl rfl (Ji _ _ _ _ _ oo)) (zD rfl mm (by simp; omega) isAgg22 sizeOf22 (Zy 0 oo) (.inr rfl) ?_)))))
      refine za rfl (zn ?_); intro a w h
      exact h.sub sA
     ·
      skip
      have hlt : (wds m).length ≤ i := by simpa using hc37
      refine wp_skip ?_
      rw [Zd0 hlt]
      exact h.sub sA
    ·
     clear h
     intro a w h
     refine gC h (zr (zm rfl (zm rfl (zm rfl (zm rfl (zp (.indexAddr rfl rfl (Ji _ _ _ _ _ oo)) (zd rfl mm isAgg22 sizeOf22 ((Zy 0 (by rw [Nat.zero_add]; omega)).trans (by rw [Nat.zero_add])) ?_)))))))
     refine zm rfl (zm rfl (zv [_, _, _] rfl call160 (Zpl _ _ _ (hZ.getD i) ((Wd.wds m).getD i) hc) (zm rfl (zp (.eX rfl) (zp (.eX rfl) (zp (.indexAddr rfl rfl (Ji _ _ _ _ _ oo)) (zt' rfl rfl ((Vz Z (0 + i) ((Z.getD i 0 + 8589934592 - (wds m).getD i 0 - c) % 4294967296)).trans (by rw [Nat.zero_add])) uu sizeOf22 rfl (by simp; omega) rfl ?_)))))))
     refine za rfl (zn (zr (zp (.add rfl rfl) (zm rfl (zn ?_))))); intro a w h
     refine ⟨i + 1, ⟨Z.set i ((Z.getD i 0 + 8589934592 - (wds m).getD i 0 - c) % 4294967296), (if Z.getD i 0 < (wds m).getD i 0 + c then 1 else 0), by simp; omega, by simpa using hZl, hZ.set _ _ (Nat.mod_lt _ dd), by split <;> omega, Zxy hi' hT (Ztz _ _ _ (hZ.getD i) ((Wd.wds m).getD i) hc), by rw [List.length_set]; exact h.sub sA⟩, oo⟩
   ·
    skip
    have hi' : i = Z.length := by simp at hc32; omega
    refine wp_exit (wp_seq (wp_region_lit ?_))
    replace h := h.shareAll hS (Xl Z) rfl
    refine gL h (zm rfl (zw [_] rfl call123 (Qdc _ _ Z hZ (Nat.le_refl _) oo) (zt' rfl rfl Qv uu sizeOf35 rfl nb rfl ?_)))
    refine za rfl (zn (zt ?_)); intro a w h
    refine Xd h (Qq h rfl (.cell rfl mr isAgg35 sizeOf35 Zz) (.tmp rfl)) ?_
    rw [hi'] at hT
    have e : Qb Z = n - m := by
     refine Qbf (N := Z.length) (c := c) hZ rfl hle ?_
     rw [List.drop_eq_nil_of_le] at hT
     · simpa [Qb] using hT
     ·
      refine Nat.le_of_not_lt fun hgt => ?_
      have := Zee (n := n) (m := m) oo
      omega
    rw [e, decide_eq_true hle]
theorem Qdo (x y : Nat) (hx : x < 18446744073709551616) (hy : y < 18446744073709551616) :
  Xm Tryz.prog 122 [.int .u64 (x : Int), .int .u64 (y : Int)] (.tuple #[.int .u64 ((x * y / 18446744073709551616 : Nat) : Int), .int .u64 ((x * y % 18446744073709551616 : Nat) : Int)]) := by
 obtain ⟨ht, hw, hh⟩ := mul64_hi x y hx hy
 have b1 := Zad (a := x / 4294967296) (b := y / 4294967296) oo oo
 have b2 := Zad (a := x / 4294967296) (b := y % 4294967296) oo oo
 have b3 := Zad (a := x % 4294967296) (b := y / 4294967296) oo oo
 have b4 := Zad (a := x % 4294967296) (b := y % 4294967296) oo oo
 refine fn_intro func122 rfl ntmps122 nb ?_
 intro S w0 a hS h
 refine gC h (zS (za rfl (za rfl (zn (zS (zm rfl (zp (Pure1.cast (v' := .int .u64 (((x % 4294967296) : Nat) : Int)) (.binOp rfl rfl (fun _ => Zia rfl _ _ _ x 4294967295 hx dd)) (by rw [show (4294967295 : Nat) = 2 ^ 32 - 1 from rfl, Nat.and_two_pow_sub_one_eq_mod])) (za rfl (zn (zS (zm rfl (zp (Pure1.cast (v' := .int .u64 (((x / 4294967296) : Nat) : Int)) (.binOp rfl rfl (fun _ => Vb _ _ _ x 32 dd)) (by rfl)) (za rfl (zn (zS (zm rfl (zp (Pure1.cast (v' := .int .u64 (((y % 4294967296) : Nat) : Int)) (.binOp rfl rfl (fun _ => Zia rfl _ _ _ y 4294967295 hy dd)) (by rw [show (4294967295 : Nat) = 2 ^ 32 - 1 from rfl, Nat.and_two_pow_sub_one_eq_mod])) (za rfl (zn (zS (zm rfl (zp (Pure1.cast (v' := .int .u64 (((y / 4294967296) : Nat) : Int)) (.binOp rfl rfl (fun _ => Vb _ _ _ y 32 dd)) (by rfl)) (za rfl (zn (zS (zm rfl (zm rfl (zp (Pure1.cast (v' := .int .u64 (((x % 4294967296) * (y % 4294967296) : Nat) : Int)) (.binOp rfl rfl (fun _ => Zc3 _ _ _ _ _)) (by rw [Gr oo])) (za rfl (zn (zS (zm rfl (zm rfl (zp (Pure1.cast (v' := .int .u64 (((x / 4294967296) * (y % 4294967296) : Nat) : Int)) (.binOp rfl rfl (fun _ => Zc3 _ _ _ _ _)) (by rw [Gr oo])) (zm rfl (zp (Pure1.cast (v' := .int .u64 (((x % 4294967296) * (y % 4294967296) / 4294967296 : Nat) : Int)) (.binOp rfl rfl (fun _ => Vb _ _ _ _ 32 dd)) (by rfl)) (zp (Pure1.cast (v' := .int .u64 ((((x / 4294967296) * (y % 4294967296) + (x % 4294967296) * (y % 4294967296) / 4294967296) : Nat) : Int)) (.binOp rfl rfl (fun _ => Zcg _ _ _ _ _)) (by rw [Gc ht])) (za rfl (zn (zS (zm rfl (zp (Pure1.cast (v' := .int .u64 ((((x / 4294967296) * (y % 4294967296) + (x % 4294967296) * (y % 4294967296) / 4294967296) % 4294967296 : Nat) : Int)) (.binOp rfl rfl (fun _ => Zia rfl _ _ _ _ 4294967295 ht dd)) (by rw [show (4294967295 : Nat) = 2 ^ 32 - 1 from rfl, Nat.and_two_pow_sub_one_eq_mod])) (za rfl (zn (zS (zm rfl (zp (Pure1.cast (v' := .int .u64 ((((x / 4294967296) * (y % 4294967296) + (x % 4294967296) * (y % 4294967296) / 4294967296) / 4294967296 : Nat) : Int)) (.binOp rfl rfl (fun _ => Vb _ _ _ _ 32 dd)) (by rfl)) (za rfl (zn (zS (zm rfl (zm rfl (zm rfl (zp (Pure1.cast (v' := .int .u64 (((x % 4294967296) * (y / 4294967296) : Nat) : Int)) (.binOp rfl rfl (fun _ => Zc3 _ _ _ _ _)) (by rw [Gr oo])) (zp (Pure1.cast (v' := .int .u64 (((((x / 4294967296) * (y % 4294967296) + (x % 4294967296) * (y % 4294967296) / 4294967296) % 4294967296 + (x % 4294967296) * (y / 4294967296)) : Nat) : Int)) (.binOp rfl rfl (fun _ => Zcg _ _ _ _ _)) (by rw [Gc hw])) (za rfl (zn (zS (zm rfl (zm rfl (zp (Pure1.cast (v' := .int .u64 (((x / 4294967296) * (y / 4294967296) : Nat) : Int)) (.binOp rfl rfl (fun _ => Zc3 _ _ _ _ _)) (by rw [Gr oo])) (zm rfl (zp (Pure1.cast (v' := .int .u64 (((x / 4294967296) * (y / 4294967296) + ((x / 4294967296) * (y % 4294967296) + (x % 4294967296) * (y % 4294967296) / 4294967296) / 4294967296 : Nat) : Int)) (.binOp rfl rfl (fun _ => Zcg _ _ _ _ _)) (by rw [Gc oo])) (zm rfl (zp (Pure1.cast (v' := .int .u64 (((((x / 4294967296) * (y % 4294967296) + (x % 4294967296) * (y % 4294967296) / 4294967296) % 4294967296 + (x % 4294967296) * (y / 4294967296)) / 4294967296 : Nat) : Int)) (.binOp rfl rfl (fun _ => Vb _ _ _ _ 32 dd)) (by rfl)) (zp (Pure1.cast (v' := .int .u64 ((x * y / 18446744073709551616 : Nat) : Int)) (.binOp rfl rfl (fun _ => Zcg _ _ _ _ _)) (by rw [Gc (by rw [hh]; exact Nat.div_lt_of_lt_mul (Nat.mul_lt_mul'' hx hy)), hh])) (za rfl (zn (zS (zm rfl (zm rfl (zp (Pure1.cast (v' := .int .u64 ((x * y % 18446744073709551616 : Nat) : Int)) (.binOp rfl rfl (fun _ => Zc3 _ _ _ _ _)) (by rw [← Int.natCast_mul, Zbx]; congr 1)) (za rfl (zn (zt ?_))))))))))))))))))))))))))))))))))))))))))))))))))))))))))))))))))))))))))); clear h; intro a w h
 refine Xd h (Qq h rfl (.tmp rfl) (.tmp rfl)) ?_
 rfl
theorem Qdp (n m : Nat) (hn : (wds n).length ≤ 500000000000) (hm : (wds m).length ≤ 500000000000) : Xm Tryz.prog 67 [Vw n, Vw m] (Vw (n * m)) := by
 refine fn_intro func67 rfl ntmps67 nb ?_
 intro S w0 a hS h
 refine gC h (zS (zx rfl fun b2 => zx rfl fun b3 => zz zeroValue35 fun b4 => zn ?_)); clear h; intro a w h
 refine cW ?_
 refine Zbd (fun a w => St 103 S w0 [(2, pB b2), (3, pB b3), (4, pB b4)] [(b4, .cells (Vw 0).cells 35 (0, 0)), (b3, .cells (Vw m).cells 35 (0, 0)), (b2, .cells (Vw n).cells 35 (0, 0))] [] a w) ?_ ?_
 ·
  skip
  refine gC h (zS (zp (.fA rfl Gb) (zd rfl mr isAgg9 sizeOf9 Kq ?_)))
  refine zp (.binOp rfl rfl (fun _ => Xn _ _ _ _ _)) (zm rfl ?_); intro a w h
  refine Qp h (fun hc18 h => ?_) (fun hc18 h => ?_)
  ·
   skip
   have ha : n < 18446744073709551616 := Jg.1 (by simpa using hc18)
   refine gL h (zq 18 rfl rfl (.fA rfl Gb) ?_); clear h; intro a w h
   refine Zt 18 h rfl rfl (Qd h rfl mr isAgg9 sizeOf9 Kq dd ?_); clear h; intro a h
   refine gL h (zq 18 rfl rfl (.binOp rfl rfl (fun _ => Xn _ _ _ _ _)) ?_); clear h; intro a w h
   refine Qp h (fun hc21 h => ?_) (fun hc21 h => ?_)
   ·
    skip
    have hb : m < 18446744073709551616 := Jg.1 (by simpa using hc21)
    refine gL h (zp (.pickT rfl rfl) (zn ?_)); clear h; intro a w h
    refine cW ?_
    refine Zi h rfl ?_
    refine gC h (zS (zp (.fA rfl Ke) (zd rfl mr isAgg33 sizeOf33 Vp ?_))); clear h; intro a w h
    rw [Qm ha] at h
    refine gL h (zp (.fA rfl Ke) (zd rfl mr isAgg33 sizeOf33 Vp ?_)); clear h; intro a w h
    rw [Qm hb] at h
    refine gL h (zv [_, _] rfl call122 (Qdo n m ha hb) (zm rfl (zp (.eX rfl) (zp (.eX rfl) (za rfl (za rfl (zn (zS (zm rfl (zp (Pure1.cast (v' := .int .u32 ((n * m % 18446744073709551616 % 4294967296 : Nat) : Int)) (.convert rfl (Yo _)) (by rw [Jp]; congr 1)) (zm rfl (zp (.binOp rfl rfl (fun _ => Vb _ _ _ _ 32 dd)) (zp (Pure1.cast (v' := .int .u32 ((n * m % 18446744073709551616 / 4294967296 : Nat) : Int)) (.convert rfl (Yo _)) (by rw [Jp]; congr 1; omega)) (zm rfl (zp (Pure1.cast (v' := .int .u32 ((n * m / 18446744073709551616 % 4294967296 : Nat) : Int)) (.convert rfl (Yo _)) (by rw [Jp]; congr 1)) (zm rfl (zp (.binOp rfl rfl (fun _ => Vb _ _ _ _ 32 dd)) (zp (Pure1.cast (v' := .int .u32 ((n * m / 18446744073709551616 / 4294967296 : Nat) : Int)) (.convert rfl (Yo _)) (by have hh := Nat.div_lt_of_lt_mul (Nat.mul_lt_mul'' ha hb); rw [Jp]; congr 1; omega)) (zB [(_, _), (_, _), (_, _), (_, _)] rfl (Zhd _ _ _ _) fun b41 => ?_))))))))))))))))))); clear h; intro a w h
    replace h := h.shareAll hS (Xl [n * m % 18446744073709551616 % 4294967296, n * m % 18446744073709551616 / 4294967296, n * m / 18446744073709551616 % 4294967296, n * m / 18446744073709551616 / 4294967296]) rfl
    refine gL h (zw [_] rfl call123 (Qdc _ _ [n * m % 18446744073709551616 % 4294967296, n * m % 18446744073709551616 / 4294967296, n * m / 18446744073709551616 % 4294967296, n * m / 18446744073709551616 / 4294967296] (by intro x hx; have hh := Nat.div_lt_of_lt_mul (Nat.mul_lt_mul'' ha hb); simp at hx; omega) ss ss) (zt' rfl rfl Qv uu sizeOf35 rfl nb rfl ?_)); clear h; intro a w h
    refine wpList_nil (wp_ret ?_)
    refine Xd h (Zk h rfl (.cell rfl mr isAgg35 sizeOf35 Zz)) ?_
    have e : Qb [n * m % 18446744073709551616 % 4294967296, n * m % 18446744073709551616 / 4294967296, n * m / 18446744073709551616 % 4294967296, n * m / 18446744073709551616 / 4294967296] = n * m := by simp only [Qb]; omega
    rw [e]
   ·
    skip
    have hb : ¬ m < 18446744073709551616 := fun hn => by have := Jg.2 hn; simp [this] at hc21
    refine gL h (zp (.pickT rfl rfl) (zn ?_)); clear h; intro a w h
    refine cW ?_
    refine Zf h rfl ?_
    refine wp_skip ?_
    exact h.sub sA
  ·
   skip
   have ha : ¬ n < 18446744073709551616 := fun hn => by have := Jg.2 hn; simp [this] at hc18
   refine gL h (zo 18 rfl rfl rfl (zo 18 rfl rfl rfl (zo 18 rfl rfl rfl (zp (.pickF rfl rfl) (zn ?_))))); clear h; intro a w h
   refine cW ?_
   refine Zf h rfl ?_
   refine wp_skip ?_
   exact h.sub sA
 ·
  clear h
  intro a w h
  refine gC h (zs (yD Za [0, 2, 1, 3, 4, 5] (Zd kk) (yd rfl rfl mr isAgg35 sizeOf35 Zz ?_))); clear h
  refine yd rfl rfl mr isAgg35 sizeOf35 Zz ?_
  refine yf [_] rfl rfl call124 (Zck n oo) ?_; rintro v44 Ψ44 ⟨aX, cX, rfl, hcX, rfl⟩
  refine yf [_] rfl rfl call124 (Zck m oo) ?_; rintro v46 Ψ46 ⟨aY, cY, rfl, hcY, rfl⟩
  refine yp rfl (.assign rfl) (yp rfl (.assign rfl) (yn (zS (zm rfl (zp (.builtin [_] rfl (Zo _ _ _)) (zm rfl (zp (.builtin [_] rfl (Zo _ _ _)) (zp (.pN ((wds n).length + (wds m).length) (.add rfl rfl)) ?_)))))))); intro a w h
  refine Zc (Jz h rfl rfl runUnderlying186 typeInfo22 sizeOf22 zeroValue22 rfl dd (by exact Nat.le_refl _) (by show 4 * _ ≤ _; omega) oo dd ?_); clear h; intro b52 a w h
  rw [show (Value.int .u32 0).cells.toList = [Value.int .u32 0] from rfl, Zc5, show List.replicate ((wds n).length + (wds m).length) (Value.int .u32 0) = Xl (List.replicate ((wds n).length + (wds m).length) 0) from by simp] at h
  refine gL h (za rfl (zn (zs (zS (zm rfl (zp (.builtin [_] rfl (Zo _ _ _)) (zm rfl (zn (zb ?_))))))))); clear h; intro a w h
  refine Zn (fun (i : Nat) a w => i ≤ (wds n).length ∧ ∃ Z, Z.length = (wds n).length + (wds m).length ∧ Wd Z ∧ Qb Z = Qb ((wds n).take i) * Qb (wds m) ∧ St 103 S w0 [(4, pB b4), (8, .slice aY (wds m).length cY), (9, .slice (some ⟨b52, 0, none⟩) Z.length Z.length), (53, .slice aX (wds n).length cX), (54, .int .i64 ((wds n).length : Int)), (55, .int .i64 (i : Int))] [(b52, .cells (Xl Z).toArray 22 (0, 0)), (b4, .cells (Vw 0).cells 35 (0, 0))] [Row aX (Xl (wds n)), Row aY (Xl (wds m))] a w) (fun i => (wds n).length - i) (0) (⟨Nat.zero_le _, List.replicate ((wds n).length + (wds m).length) 0, by simp, Wd.zeros _, by rw [Zeg _ (fun x hx => List.eq_of_mem_replicate hx)]; simp [Qb], by rw [List.length_replicate]; exact ((h.drop (List.Sublist.cons_cons _ (List.Sublist.cons_cons _ (List.nil_sublist _)))).factsSub (by simp)).sub (Ztd ⟨rfl, rfl, rfl, rfl, rfl, rfl, trivial⟩)⟩) ?_; clear h
  rintro i a w ⟨hi, Z, hZl, hZ, hV, h⟩
  refine gC h (zS (zp (.lss rfl rfl) (zn (zs ?_)))); clear h; intro a w h
  refine Zg h rfl (fun hc56 => ?_) (fun hc56 => ?_)
  ·
   skip
   have hi' : i < (wds n).length := by simpa using hc56
   have hlt := hi'
   obtain ⟨bX, bXo, bXe⟩ := h.row_addr (ad := aX) (M := Xl (wds n)) ss (by simp; intro e; simp [e] at hlt)
   subst bXe
   refine gC h (zk (zs (zb (zS (zm rfl (zp (.indexAddr rfl rfl (Ji _ _ _ _ _ oo)) (zD rfl mm (by simp; omega) isAgg22 sizeOf22 (Zy 0 oo) (.inr rfl) ?_)))))))
   refine za rfl (za rfl (zn (zS (za rfl (zn (zs (zS (zm rfl (zp (.builtin [_] rfl (Zo _ _ _)) (zm rfl (zn (zb ?_)))))))))))); intro a w h
   refine Zn (fun (k : Nat) a w => k ≤ (wds m).length ∧ ∃ Z c, Z.length = (wds n).length + (wds m).length ∧ Wd Z ∧ c < 4294967296 ∧ Z.getD (i + (wds m).length) 0 = 0 ∧ Qb Z + 4294967296 ^ (i + k) * c + 4294967296 ^ (i + k) * ((wds n).getD i 0 * Qb ((wds m).drop k)) = Qb ((wds n).take i) * Qb (wds m) + 4294967296 ^ i * ((wds n).getD i 0 * Qb (wds m)) ∧ St 103 S w0 [(4, pB b4), (8, .slice aY (wds m).length cY), (9, .slice (some ⟨b52, 0, none⟩) Z.length Z.length), (53, .slice (some ⟨bX, bXo, none⟩) (wds n).length cX), (54, .int .i64 ((wds n).length : Int)), (55, .int .i64 (i : Int)), (10, .int .i64 (i : Int)), (11, .int .u32 ((wds n).getD i 0 : Int)), (12, .int .u64 (c : Int)), (60, .slice aY (wds m).length cY), (61, .int .i64 ((wds m).length : Int)), (62, .int .i64 (k : Int))] [(b52, .cells (Xl Z).toArray 22 (0, 0)), (b4, .cells (Vw 0).cells 35 (0, 0))] [Row (some ⟨bX, bXo, none⟩) (Xl (wds n)), Row aY (Xl (wds m))] a w) (fun k => (wds m).length - k) (0) (⟨Nat.zero_le _, Z, 0, hZl, hZ, by decide, Zjn (Wd.wds n) (Wd.wds m) hV (Nat.le_refl _), by simp [hV], h.sub sA⟩) ?_; clear h
   clear hZ hV hZl
   rintro k a w ⟨hk, Z, c, hZl, hZ, hc, h0, hT, h⟩
   refine gC h (zS (zp (.lss rfl rfl) (zn (zs ?_)))); clear h; intro a w h
   refine Zg h rfl (fun hc63 => ?_) (fun hc63 => ?_)
   ·
    skip
    have hk' : k < (wds m).length := by simpa using hc63
    have hlt := hk'
    obtain ⟨bY, bYo, bYe⟩ := h.row_addr (ad := aY) (M := Xl (wds m)) ss (by simp; intro e; simp [e] at hlt)
    subst bYe
    have hb := Zn3 ((Wd.wds n).getD i) ((Wd.wds m).getD k) hc (hZ.getD (i + k))
    have hxi := (Wd.wds n).getD i
    have hyk := (Wd.wds m).getD k
    have hzk := hZ.getD (i + k)
    refine gC h (zk (zs (zb (zS (zm rfl (zp (.indexAddr rfl rfl (Ji _ _ _ _ _ oo)) (zD rfl mm (by simp; omega) isAgg22 sizeOf22 (Zy 0 oo) (.inr rfl) ?_)))))))
    refine za rfl (za rfl (zn (zS (zm rfl (zm rfl (zp (.convert rfl (Xc _ (wrap_u64 _ oo oo))) (zm rfl (zp (.convert rfl (Xc _ (wrap_u64 _ oo oo))) (zp (Pure1.cast (v' := .int .u64 (((wds n).getD i 0 * (wds m).getD k 0 : Nat) : Int)) (.binOp rfl rfl (fun _ => Zc3 _ _ _ _ _)) (by rw [Gr oo])) (zm rfl (zm rfl (zm rfl (zp (.pN (i + k) (.add rfl rfl)) (zp (.indexAddr rfl rfl (Ji _ _ _ _ _ oo)) (zd rfl mm isAgg22 sizeOf22 ((Zy 0 (by rw [Nat.zero_add]; omega)).trans (by rw [Nat.zero_add])) ?_)))))))))))))))
    refine zp (.convert rfl (Xc _ (wrap_u64 _ oo oo))) (zp (Pure1.cast (v' := .int .u64 (((wds n).getD i 0 * (wds m).getD k 0 + Z.getD (i + k) 0 : Nat) : Int)) (.binOp rfl rfl (fun _ => Zcg _ _ _ _ _)) (by rw [Gc oo])) (zp (Pure1.cast (v' := .int .u64 (((c + ((wds n).getD i 0 * (wds m).getD k 0 + Z.getD (i + k) 0)) : Nat) : Int)) (.binOp rfl rfl (fun _ => Zcg _ _ _ _ _)) (by rw [Gc hb])) (za rfl (zn (zS (zm rfl (zm rfl (zm rfl (zp (.pN (i + k) (.add rfl rfl)) (zm rfl (zp (Pure1.cast (v' := .int .u32 (((c + ((wds n).getD i 0 * (wds m).getD k 0 + Z.getD (i + k) 0)) % 4294967296 : Nat) : Int)) (.convert rfl (Yo _)) (by rw [Jp]; congr 1)) (zp (.indexAddr rfl rfl (Ji _ _ _ _ _ oo)) (zt' rfl rfl ((Vz Z (0 + (i + k)) ((c + ((wds n).getD i 0 * (wds m).getD k 0 + Z.getD (i + k) 0)) % 4294967296)).trans (by rw [Nat.zero_add])) uu sizeOf22 rfl (by simp; omega) rfl ?_)))))))))))))
    refine zn (zr (zm rfl (zp (Pure1.cast (v' := .int .u64 (((c + ((wds n).getD i 0 * (wds m).getD k 0 + Z.getD (i + k) 0)) / 4294967296 : Nat) : Int)) (.binOp rfl rfl (fun _ => Vb _ _ _ _ 32 dd)) (by rfl)) (za rfl (zn (zr (zp (.add rfl rfl) (zm rfl (zn ?_))))))))); intro a w h
    exact ⟨k + 1, ⟨oo, Z.set (i + k) ((c + ((wds n).getD i 0 * (wds m).getD k 0 + Z.getD (i + k) 0)) % 4294967296), _, by simpa using hZl, hZ.set _ _ (Nat.mod_lt _ dd), Nat.div_lt_of_lt_mul hb, by rw [Zix oo]; exact h0, Zym oo hT, by rw [List.length_set]; exact h.sub sA⟩, oo⟩
   ·
    skip
    have hk' : k = (wds m).length := by simp at hc63; omega
    subst hk'
    refine gC h (ze (zr (zm rfl (zm rfl (zm rfl (zp (.builtin [_] rfl (Zo _ _ _)) (zp (.pN (i + (wds m).length) (.add rfl rfl)) (zm rfl (zp (Pure1.cast (v' := .int .u32 (c : Int)) (.convert rfl (Yo _)) (by rw [wrap_u32 _ oo oo])) (zp (.indexAddr rfl rfl (Ji _ _ _ _ _ oo)) (zt' rfl rfl ((Vz Z (0 + (i + (wds m).length)) c).trans (by rw [Nat.zero_add])) uu sizeOf22 rfl (by simp; omega) rfl ?_)))))))))))
    refine zn (zr (zp (.add rfl rfl) (zm rfl (zn ?_)))); intro a w h
    exact ⟨i + 1, ⟨oo, Z.set (i + (wds m).length) c, by simpa using hZl, hZ.set _ _ hc, Zor hi' oo h0 hT, by rw [List.length_set]; exact h.sub sA⟩, oo⟩
  ·
   skip
   have hi' : i = (wds n).length := by simp at hc56; omega
   refine wp_exit (wp_seq (wp_region_lit ?_))
   replace h := h.shareAll hS (Xl Z) rfl
   refine gL h (zm rfl (zw [_] rfl call123 (Qdc _ _ Z hZ (Nat.le_refl _) oo) (zt' rfl rfl Qv uu sizeOf35 rfl nb rfl ?_))); clear h; intro a w h
   refine wpList_nil (wp_ret ?_)
   refine Xd h (Zk h rfl (.cell rfl mr isAgg35 sizeOf35 Zz)) ?_
   rw [hi', List.take_length, Jl, Jl] at hV
   rw [hV]
end
section
theorem Qdy (hi lo y : Nat) (hlo : lo < 4294967296) (hy : y < 4294967296) (h0 : hi < y) :
  Xm Tryz.prog 174 [.int .u32 (hi : Int), .int .u32 (lo : Int), .int .u32 (y : Int)] (.tuple #[.int .u32 (((hi * 4294967296 + lo) / y : Nat) : Int), .int .u32 (((hi * 4294967296 + lo) % y : Nat) : Int)]) := by
 have hq : (hi * 4294967296 + lo) / y < 4294967296 := Zh3 h0 hlo
 have hr : (hi * 4294967296 + lo) % y < y := Nat.mod_lt _ oo
 refine fn_intro func174 rfl ntmps174 nb ?_
 intro S w0 a hS h
 refine gC h (zS (za rfl (za rfl (zn (zs (zS (zm rfl (zp (.neq rfl rfl) (zm rfl ?_))))))))); clear h; intro a w h
 refine Qp h (fun hc11 h => ?_) (fun hc11 h => (by exfalso; have := Qbz (b := 0) hc11; omega))
 refine gL h (zq 11 rfl rfl (.move rfl) (zq 11 rfl rfl (.move rfl) (zq 11 rfl rfl (.leq rfl rfl) ?_))); clear h; intro a w h
 refine Qp h (fun hc14 h => (by exfalso; have := of_decide_eq_true hc14; omega)) (fun hc14 h => ?_)
 refine gL h (zp (.pickT rfl rfl) (zn ?_)); clear h; intro a w h
 refine cW ?_
 refine Zf h rfl ?_
 refine gC h (zk (zS (zm rfl (zp (.convert rfl (Xc _ (wrap_u64 _ oo oo))) (zp (Pure1.cast (v' := .int .u64 ((hi * 4294967296 : Nat) : Int)) (.binOp rfl rfl (fun _ => Zc2 _ _ _ hi 32 dd)) (by rw [wrap_u64 _ oo oo])) (zm rfl (zp (.convert rfl (Xc _ (wrap_u64 _ oo oo))) (zp (Pure1.cast (v' := .int .u64 ((hi * 4294967296 + lo : Nat) : Int)) (.binOp rfl rfl (fun _ => Zfi rfl _ _ _ (hi * 4294967296) lo (by show _ < 18446744073709551616; omega) (by show _ < 18446744073709551616; omega))) (by have e := Nat.shiftLeft_add_eq_or_of_lt (show lo < 2 ^ 32 by omega) hi; rw [Nat.shiftLeft_eq] at e; rw [show hi * 4294967296 = hi * 2 ^ 32 from rfl, ← e])) (za rfl (zn (zs (yD Za [0, 1, 2, 3, 4, 5, 6, 7, 8, 9, 10, 11] (Zd kk) (ym rfl rfl (ym rfl rfl (yp rfl (.convert rfl (Xc _ (wrap_u64 _ oo oo))) (yp rfl (Pure1.cast (v' := .int .u64 (((hi * 4294967296 + lo) / y : Nat) : Int)) (.binOp rfl rfl (fun _ => Zh6 _ _ _ _ _ oo)) (by rw [Zff, Zfc (Nat.lt_of_lt_of_le hq dd)])) (yp rfl (Pure1.cast (v' := .int .u32 (((hi * 4294967296 + lo) / y : Nat) : Int)) (.convert rfl (Yo _)) (by rw [Zfd hq])) (ym rfl rfl (ym rfl rfl (yp rfl (.convert rfl (Xc _ (wrap_u64 _ oo oo))) (yp rfl (Pure1.cast (v' := .int .u64 (((hi * 4294967296 + lo) % y : Nat) : Int)) (.binOp rfl rfl (fun _ => Xp _ _ _ _ _ oo)) (by rw [Zkt])) (yp rfl (Pure1.cast (v' := .int .u32 (((hi * 4294967296 + lo) % y : Nat) : Int)) (.convert rfl (Yo _)) (by rw [Zfd (Nat.lt_trans hr hy)])) (yp rfl (.assign rfl) (yp rfl (.assign rfl) (yn (zt ?_)))))))))))))))))))))))))); clear h; intro a w h
 refine Xd h (Qq h rfl (.tmp rfl) (.tmp rfl)) ?_
 rfl
theorem Qc9 (ad : Option Addr) (cp : Nat) (X : List Nat) (y : Nat) (hX : Wd X) (hl : X.length ≤ 1099511627776) (hy0 : 0 < y) (hy : y < 4294967296) :
  Zl0 Tryz.prog 146 [.slice ad X.length cp, .int .u32 (y : Int)] [Row ad (Xl X)] (fun v σn => ∃ b Q, v = .tuple #[.slice (some ⟨b, 0, none⟩) Q.length Q.length, .int .u32 ((Qb X % y : Nat) : Int)] ∧ Wd Q ∧ Q.length = X.length ∧ Qb Q = Qb X / y ∧ σn = [(b, .cells (Xl Q).toArray 22 (0, 0))]) := by
 refine fn_introO func146 rfl ntmps146 nb ?_
 intro S w0 a hS h
 refine gC h (zS (za rfl (za rfl (zn (zS (zm rfl (zp (.builtin [_] rfl (Zo _ _ _)) ?_))))))); clear h; intro a w h
 refine Zc (Jz h rfl rfl runUnderlying186 typeInfo22 sizeOf22 zeroValue22 rfl dd (by exact Nat.le_refl _) (by show 4 * _ ≤ _; omega) oo dd ?_); clear h; intro b9 a w h
 rw [show (Value.int .u32 0).cells.toList = [Value.int .u32 0] from rfl, Zc5, show List.replicate X.length (Value.int .u32 0) = Xl (List.replicate X.length 0) from by simp] at h
 refine gL h (za rfl (zn (zs (zS (zm rfl (zp (.builtin [_] rfl (Zo _ _ _)) (zp (.sub rfl rfl) (za rfl (zn (zb ?_)))))))))); clear h; intro a w h
 refine Zn (fun (k : Nat) a w => ∃ Q r, k ≤ X.length ∧ Q.length = X.length ∧ Wd Q ∧ r < y ∧ Qb (X.drop k) = Qb (Q.drop k) * y + r ∧ St 32 S w0 [(0, .slice ad X.length cp), (1, .int .u32 (y : Int)), (4, .slice (some ⟨b9, 0, none⟩) X.length X.length), (5, .int .u32 (r : Int)), (6, .int .i64 ((k : Int) - 1))] [(b9, .cells (Xl Q).toArray 22 (0, 0))] [Row ad (Xl X)] a w) (fun k => k) (X.length) (⟨List.replicate X.length 0, 0, Nat.le_refl _, by simp, Wd.zeros _, hy0, by simp [Qb], h.sub sA⟩) ?_; clear h
 rintro k a w ⟨Q, r, hkX, hQ, hQw, hr, hT, h⟩
 refine gC h (zs (zS (zm rfl (zp (.geq rfl rfl) (zn ?_))))); clear h; intro a w h
 refine cW ?_
 refine Zg h rfl (fun hc14 => ?_) (fun hc14 => ?_)
 ·
  skip
  have hk : 0 < k := by simp at hc14; omega
  have hlt : 0 < X.length := oo
  obtain ⟨bX, bXo, bXe⟩ := h.row_addr (ad := ad) (M := Xl X) ss (by simp; intro e; simp [e] at hlt)
  subst bXe
  refine gC h (zk (zs (zb (zr (zm rfl (zp (.pO (k - 1) (.move rfl)) (zm rfl (zm rfl (zp (.pO (k - 1) (.move rfl)) (zp (.indexAddr rfl rfl (Ji _ _ _ _ _ oo)) (zD rfl mm (by simp; omega) isAgg22 sizeOf22 (Zy 0 oo) (.inr rfl) ?_)))))))))))
  refine zm rfl (zv [_, _, _] rfl call174 (Qdy r (X.getD (k - 1) 0) y (hX.getD _) hy hr) (zm rfl (zp (.eX rfl) (zp (.eX rfl) (zp (.indexAddr rfl rfl (Ji _ _ _ _ _ oo)) (zt' rfl rfl ((Vz Q (0 + (k - 1)) ((r * 4294967296 + X.getD (k - 1) 0) / y)).trans (by rw [Nat.zero_add])) uu sizeOf22 rfl (by simp; omega) rfl ?_))))))
  refine za rfl (zn (zr (zm rfl (zp (Pure1.cast (v' := .int .i64 (((k - 1 : Nat) : Int) - 1)) (.sub rfl rfl) (by show Value.int _ _ = Value.int _ _; congr 1; omega)) (za rfl (zn ?_)))))); intro a w h
  exact ⟨k - 1, ⟨Q.set (k - 1) ((r * 4294967296 + X.getD (k - 1) 0) / y), _, oo, by simpa using hQ, hQw.set _ _ (Zh3 hr (hX.getD _)), Nat.mod_lt _ hy0, Zr2 hk hkX hQ hT, h.sub sA⟩, oo⟩
 ·
  skip
  have hk : k = 0 := by simp at hc14; omega
  refine gC h (ze (zS (zm rfl (zm rfl (za rfl (za rfl (zn (zt ?_)))))))); clear h; intro a w h
  subst hk
  simp only [List.drop_zero] at hT
  rw [← hQ] at h
  refine Zr6 h (Qq h rfl (.tmp rfl) (.tmp rfl)) ⟨b9, Q, ?_, hQw, hQ, ?_, rfl⟩ (List.Sublist.refl _)
  · rw [hT, Nat.mul_comm, Nat.mul_add_mod, Nat.mod_eq_of_lt hr]
  · rw [hT, Nat.mul_comm, Nat.mul_add_div hy0, Nat.div_eq_of_lt hr, Nat.add_zero]
theorem Znt (ad : Option Addr) (cp : Nat) (X : List Nat) (s : Nat) (hX : Wd X) (hl : X.length ≤ 1000000000000) (hs : s < 32) :
  Zl0 Tryz.prog 185 [.slice ad X.length cp, .int .i64 (s : Int)] [Row ad (Xl X)] (fun v σn => ∃ b Z, v = .slice (some ⟨b, 0, none⟩) Z.length Z.length ∧ Wd Z ∧ Z.length = X.length + 1 ∧ Qb Z = Qb X * 2 ^ s ∧ σn = [(b, .cells (Xl Z).toArray 22 (0, 0))]) := by
 refine fn_introO func185 rfl ntmps185 nb ?_
 intro S w0 a hS h
 refine gC h (zS (za rfl (zn (zS (zm rfl (zp (.builtin [_] rfl (Zo _ _ _)) (zp (.pN (X.length + 1) (.add rfl rfl)) ?_))))))); clear h; intro a w h
 refine Zc (Jz h rfl rfl runUnderlying186 typeInfo22 sizeOf22 zeroValue22 rfl dd (by exact Nat.le_refl _) (by show 4 * _ ≤ _; omega) oo dd ?_); clear h; intro b12 a w h
 rw [show (Value.int .u32 0).cells.toList = [Value.int .u32 0] from rfl, Zc5, show List.replicate (X.length + 1) (Value.int .u32 0) = Xl (List.replicate (X.length + 1) 0) from by simp] at h
 refine gL h (za rfl (zn (zS (za rfl (zn (zs (zS (zm rfl (zp (.builtin [_] rfl (Zo _ _ _)) (zm rfl (zn (zb ?_)))))))))))); clear h; intro a w h
 refine Zn (fun (i : Nat) a w => ∃ Z c, i ≤ X.length ∧ Z.length = X.length + 1 ∧ Wd Z ∧ c < 2 ^ s ∧ (∀ j, i ≤ j → Z.getD j 0 = 0) ∧ Qb Z + 4294967296 ^ i * c = Qb (X.take i) * 2 ^ s ∧ St 41 S w0 [(0, .slice ad X.length cp), (1, .int .i64 (s : Int)), (5, .slice (some ⟨b12, 0, none⟩) (X.length + 1) (X.length + 1)), (6, .int .u32 (c : Int)), (13, .slice ad X.length cp), (14, .int .i64 (X.length : Int)), (15, .int .i64 (i : Int))] [(b12, .cells (Xl Z).toArray 22 (0, 0))] [Row ad (Xl X)] a w) (fun i => X.length - i) (0) (⟨List.replicate (X.length + 1) 0, 0, Nat.zero_le _, by simp, Wd.zeros _, Nat.pow_pos oo, fun j _ => by simp [List.getD, List.getElem?_replicate]; split <;> rfl, by rw [Zeg _ (fun x hx => List.eq_of_mem_replicate hx)]; simp [Qb], h.sub sA⟩) ?_; clear h
 rintro i a w ⟨Z, c, hi, hZl, hZ, hc, hz, hT, h⟩
 refine gC h (zS (zp (.lss rfl rfl) (zn (zs ?_)))); clear h; intro a w h
 refine Zg h rfl (fun hc16 => ?_) (fun hc16 => ?_)
 ·
  skip
  have hi' : i < X.length := by simpa using hc16
  have hlt := hi'
  obtain ⟨bX, bXo, bXe⟩ := h.row_addr (ad := ad) (M := Xl X) ss (by simp; intro e; simp [e] at hlt)
  subst bXe
  have hx := hX.getD i
  have h2 := Zt8 (X.getD i 0) s c hs hc
  have h3 := Zt9 (X.getD i 0) s hs hx
  have h4 := Zqc s hs
  have h5 : X.getD i 0 * 2 ^ s ≤ 4294967295 * 2147483648 := Nat.mul_le_mul oo h4
  refine gC h (zk (zs (zb (zS (zm rfl (zp (.indexAddr rfl rfl (Ji _ _ _ _ _ oo)) (zD rfl mm (by simp; omega) isAgg22 sizeOf22 (Zy 0 oo) (.inr rfl) ?_)))))))
  refine za rfl (za rfl (zn (zS (zm rfl (zm rfl (zm rfl (zm rfl (zp (Pure1.cast (v' := .int .u32 ((X.getD i 0 * 2 ^ s % 4294967296 : Nat) : Int)) (.binOp rfl rfl (fun _ => Zc2 _ _ _ _ s (by show s ≤ 32; omega))) (by rw [Jp]; congr 1)) (zm rfl (zp (Pure1.cast (v' := .int .u32 ((X.getD i 0 * 2 ^ s % 4294967296 + c : Nat) : Int)) (.binOp rfl rfl (fun _ => Zfi rfl _ _ _ _ c (by show _ < 4294967296; omega) (by show _ < 4294967296; omega))) (by rw [shl_or _ s c hs hc])) (zp (.indexAddr rfl rfl (Ji _ _ _ _ _ oo)) (zt' rfl rfl ((Vz Z (0 + i) (X.getD i 0 * 2 ^ s % 4294967296 + c)).trans (by rw [Nat.zero_add])) uu sizeOf22 rfl (by simp; omega) rfl ?_))))))))))))
  refine zn (zr (zm rfl (zp (.convert rfl (Xc _ (wrap_u64 _ oo oo))) (zm rfl (zp (Pure1.cast (v' := .int .u64 ((X.getD i 0 * 2 ^ s : Nat) : Int)) (.binOp rfl rfl (fun _ => Zc2 _ _ _ _ s (by show s ≤ 64; omega))) (by rw [wrap_u64 _ oo oo])) (zp (.binOp rfl rfl (fun _ => Vb _ _ _ _ 32 dd)) (zp (Pure1.cast (v' := .int .u32 ((X.getD i 0 * 2 ^ s / 4294967296 : Nat) : Int)) (.convert rfl (Yo _)) (by rw [wrap_u32 _ oo oo])) (za rfl (zn (zr (zp (.add rfl rfl) (zm rfl (zn ?_))))))))))))); intro a w h
  exact ⟨i + 1, ⟨Z.set i (X.getD i 0 * 2 ^ s % 4294967296 + c), _, oo, by simpa using hZl, hZ.set _ _ h2, h3, fun j hj => by rw [Zix oo]; exact hz j oo, Zr3 hi' hZl (hz i (Nat.le_refl _)) hT, h.sub sA⟩, oo⟩
 ·
  skip
  have hi' : i = X.length := by simp at hc16; omega
  refine gC h (ze (zS (zm rfl (zm rfl (zp (.builtin [_] rfl (Zo _ _ _)) (zm rfl (zp (.indexAddr rfl rfl (Ji _ _ _ _ _ oo)) (zt' rfl rfl ((Vz Z (0 + X.length) c).trans (by rw [Nat.zero_add])) uu sizeOf22 rfl (by simp; omega) rfl ?_))))))))
  refine zn (zS (zm rfl (za rfl (zn (zt ?_))))); intro a w h
  subst hi'
  have hp := Zqc s hs
  rw [show X.length + 1 = (Z.set X.length c).length from by simp [hZl]] at h
  refine Zr6 h (Zk h rfl (.tmp rfl)) ⟨b12, Z.set X.length c, rfl, hZ.set _ _ oo, by simpa using hZl, Zua hZl (hz _ (Nat.le_refl _)) hT, rfl⟩ (List.Sublist.refl _)
end
section
theorem Zzm (x : Int) (h0 : IntKind.u8.wrap x = x) (w : World) : (Go.convert 22 5 (.int .u32 x)).run Tryz.prog w = .ok (.int .u8 x) w := by
 rw [Zi3, h0]
theorem cv_5_3 (x : Int) (w : World) : (Go.convert 5 3 (.int .u8 x)).run Tryz.prog w = .ok (.int .i64 (IntKind.i64.wrap x)) w := by
 simp [go_sem]
theorem Qch (x : Int) (h0 : IntKind.i64.wrap x = x) (w : World) : (Go.convert 5 3 (.int .u8 x)).run Tryz.prog w = .ok (.int .i64 x) w := by
 rw [cv_5_3, h0]
theorem Zyz : ∀ j, j < 256 → ((⟨#[0, 1, 2, 2, 3, 3, 3, 3, 4, 4, 4, 4, 4, 4, 4, 4, 5, 5, 5, 5, 5, 5, 5, 5, 5, 5, 5, 5, 5, 5, 5, 5, 6, 6, 6, 6, 6, 6, 6, 6, 6, 6, 6, 6, 6, 6, 6, 6, 6, 6, 6, 6, 6, 6, 6, 6, 6, 6, 6, 6, 6, 6, 6, 6, 7, 7, 7, 7, 7, 7, 7, 7, 7, 7, 7, 7, 7, 7, 7, 7, 7, 7, 7, 7, 7, 7, 7, 7, 7, 7, 7, 7, 7, 7, 7, 7, 7, 7, 7, 7, 7, 7, 7, 7, 7, 7, 7, 7, 7, 7, 7, 7, 7, 7, 7, 7, 7, 7, 7, 7, 7, 7, 7, 7, 7, 7, 7, 7, 8, 8, 8, 8, 8, 8, 8, 8, 8, 8, 8, 8, 8, 8, 8, 8, 8, 8, 8, 8, 8, 8, 8, 8, 8, 8, 8, 8, 8, 8, 8, 8, 8, 8, 8, 8, 8, 8, 8, 8, 8, 8, 8, 8, 8, 8, 8, 8, 8, 8, 8, 8, 8, 8, 8, 8, 8, 8, 8, 8, 8, 8, 8, 8, 8, 8, 8, 8, 8, 8, 8, 8, 8, 8, 8, 8, 8, 8, 8, 8, 8, 8, 8, 8, 8, 8, 8, 8, 8, 8, 8, 8, 8, 8, 8, 8, 8, 8, 8, 8, 8, 8, 8, 8, 8, 8, 8, 8, 8, 8, 8, 8, 8, 8, 8, 8, 8, 8, 8, 8, 8, 8, 8, 8, 8, 8, 8, 8]⟩ : ByteArray).data.toList.getD j 0).toNat = Zdk j := by decide +kernel
theorem Qdw (x : Nat) (hx : x < 4294967296) : Xm Tryz.prog 196 [.int .u32 (x : Int)] (.int .i64 (Zdk x : Int)) := by
 refine fn_intro func196 rfl ntmps196 nb ?_
 intro S w0 a hS h
 refine gC h (zS (za rfl (zn ?_))); clear h; intro a w h
 refine cW ?_
 refine Zbd (fun a w => ∃ y m : Nat, y < 65536 ∧ m ≤ 16 ∧ m + Zdk y = Zdk x ∧ St 19 S w0 [(0, .int .u32 (y : Int)), (2, .int .i64 (m : Int))] [] [] a w) ?_ ?_
 ·
  skip
  refine gC h (zS (zm rfl (zp (.geq rfl rfl) (zn ?_)))); clear h; intro a w h
  refine cW ?_
  refine Zg h rfl (fun hc4 => ?_) (fun hc4 => ?_)
  ·
   skip
   have h4 : 65536 ≤ x := dT hc4
   refine gC h (zS (zm rfl (zp (.binOp rfl rfl (fun _ => Vb _ _ _ x 16 dd)) (za rfl (zn (zr (za rfl (zn ?_)))))))); clear h; intro a w h
   exact ⟨x / 2 ^ 16, 16, oo, by omega, by rw [Nat.add_comm]; exact Zki (k := 16) oo, h.sub sA⟩
  ·
   skip
   have h4 : x < 65536 := dF hc4
   refine wp_skip ?_
   exact ⟨x, 0, h4, oo, Nat.zero_add _, h.sub sA⟩
 ·
  clear h
  rintro a w ⟨y, m, hy, hm, hl, h⟩
  refine Zbd (fun a w => ∃ y m : Nat, y < 256 ∧ m ≤ 24 ∧ m + Zdk y = Zdk x ∧ St 19 S w0 [(0, .int .u32 (y : Int)), (2, .int .i64 (m : Int))] [] [] a w) ?_ ?_
  ·
   skip
   refine gC h (zS (zm rfl (zp (.geq rfl rfl) (zn ?_)))); clear h; intro a w h
   refine cW ?_
   refine Zg h rfl (fun hc8 => ?_) (fun hc8 => ?_)
   ·
    skip
    have h7 : 256 ≤ y := dT hc8
    refine gC h (zS (zm rfl (zp (.binOp rfl rfl (fun _ => Vb _ _ _ y 8 dd)) (za rfl (zn (zr (zm rfl (zp (.pN (m + 8) (.add rfl rfl)) (za rfl (zn ?_)))))))))); clear h; intro a w h
    exact ⟨y / 2 ^ 8, m + 8, oo, by omega, by rw [← hl, Nat.add_assoc, Nat.add_comm 8]; congr 1; exact Zki (k := 8) oo, h.sub sA⟩
   ·
    skip
    have h7 : y < 256 := dF hc8
    refine wp_skip ?_
    exact ⟨y, m, h7, oo, hl, h.sub sA⟩
  ·
   clear h
   rintro a w ⟨z, o, hz, ho, hl2, h⟩
   refine gC h (zS (zm rfl (zm rfl ?_)))
   have hle : Zdk z ≤ 8 := Zgf hz
   refine zp (.convert rfl (Zzm _ (wrap_u8 _ oo oo))) (zp (Pure1.cast (v' := .int .u8 (Zdk z : Int)) (.index rfl rfl (fun _ => Zc4 runUnderlying9 _ _ (by show z < 256; exact hz))) (by exact congrArg (fun n : Nat => Value.int .u8 (n : Int)) (Zyz z hz))) (zp (.convert rfl (Qch _ (wrap_i64 _ oo oo))) (zp (Pure1.cast (v' := .int .i64 (Zdk x : Int)) (.add rfl rfl) (by show Value.int _ _ = Value.int _ _; congr 1; omega)) (za rfl (zn (zt ?_)))))); intro a w h
   exact Zdj h
theorem Zhe (x : Nat) (hx : x < 4294967296) : Xm Tryz.prog 184 [.int .u32 (x : Int)] (.int .i64 ((32 - Zdk x : Nat) : Int)) := by
 refine fn_intro func184 rfl ntmps184 nb ?_
 intro S w0 a hS h
 refine gC h (zS (za rfl (zn (zS ?_))))
 have hle : Zdk x ≤ 32 := Zgf (k := 32) hx
 refine zm rfl (zv [_] rfl call196 (Qdw x hx) (zp (.pO (32 - Zdk x) (.sub rfl rfl)) (za rfl (zn (zt ?_))))); intro a w h
 exact Zdj h
theorem C_half (b cp : Nat) (O : List Nat) (hO : Wd O) (hl : O.length ≤ 1099511627776) (σr : List (Nat × Obj)) (Φ : List Qf) :
  Znq Tryz.prog 187 [.slice (some ⟨b, 0, none⟩) O.length cp] ((b, .cells (Xl O).toArray 22 (0, 0)) :: σr) Φ
   (fun _ σ' Φ' => ∃ Z, Wd Z ∧ Z.length = O.length ∧ Qb Z = Qb O / 2 ∧ σ' = (b, .cells (Xl Z).toArray 22 (0, 0)) :: σr ∧ Φ' = Φ) := by
 refine fn_introM func187 rfl ntmps187 nb ?_
 intro S w0 a w hS h
 refine gC h (zS (zm rfl (zp (.builtin [_] rfl (Zo _ _ _)) (zm rfl (zn (zb ?_)))))); clear h; intro a w h
 refine Zn (fun (i : Nat) a w => ∃ Z, i ≤ O.length ∧ Z.length = O.length ∧ Wd Z ∧ Z.drop i = O.drop i ∧ 2 * Qb (Z.take i) + O.getD 0 0 % 2 = Qb (O.take i) + 4294967296 ^ i * (O.getD i 0 % 2) ∧ St 32 S w0 [(0, .slice (some ⟨b, 0, none⟩) O.length cp), (3, .slice (some ⟨b, 0, none⟩) O.length cp), (4, .int .i64 (O.length : Int)), (5, .int .i64 (i : Int))] ((b, .cells (Xl Z).toArray 22 (0, 0)) :: σr) Φ a w) (fun i => O.length - i) (0) (⟨O, Nat.zero_le _, rfl, hO, rfl, by simp [Qb], h.sub sA⟩) ?_; clear h
 rintro i a w ⟨Z, hi, hZl, hZ, hd, hT, h⟩
 refine gC h (zS (zp (.lss rfl rfl) (zn (zs ?_)))); clear h; intro a w h
 refine Zg h rfl (fun hc6 => ?_) (fun hc6 => ?_)
 ·
  skip
  have hi' : i < O.length := by simpa using hc6
  have hzi := Zg2 hd (Nat.le_refl i)
  have hzi1 := Zg2 hd (Nat.le_succ i)
  have hxi := hO.getD i
  have hxj := hO.getD (i + 1)
  refine wp_skip ?_
  refine cW ?_
  refine Zbd (fun a w => St 32 S w0 [(0, .slice (some ⟨b, 0, none⟩) O.length cp), (3, .slice (some ⟨b, 0, none⟩) O.length cp), (4, .int .i64 (O.length : Int)), (5, .int .i64 (i : Int))] ((b, .cells (Xl (Z.set i (O.getD i 0 / 2 + 2147483648 * (O.getD (i + 1) 0 % 2)))).toArray 22 (0, 0)) :: σr) Φ a w) ?_ ?_
  ·
   skip
   refine gC h (zb (zS (zm rfl (za rfl (zn (zS (zm rfl (zm rfl (zp (.indexAddr rfl rfl (Ji _ _ _ _ _ oo)) (zd rfl mm isAgg22 sizeOf22 ((Zy 0 (by rw [Nat.zero_add]; omega)).trans (by rw [Nat.zero_add, hzi])) ?_))))))))))
   refine zp (.binOp rfl rfl (fun _ => Vb _ _ _ _ 1 dd)) (zp (.indexAddr rfl rfl (Ji _ _ _ _ _ oo)) (zt' rfl rfl ((Vz Z (0 + i) (O.getD i 0 / 2 ^ 1)).trans (by rw [Nat.zero_add])) uu sizeOf22 rfl (by simp; omega) rfl ?_))
   refine zn (zS (zm rfl (zp (.pN (i + 1) (.add rfl rfl)) (zm rfl (zp (.builtin [_] rfl (Zo _ _ _)) (zp (.lss rfl rfl) (zn ?_))))))); intro a w h
   refine cW ?_
   refine Zg h rfl (fun hc18 => ?_) (fun hc18 => ?_)
   ·
    skip
    have hlt2 : i + 1 < O.length := dT hc18
    refine gC h (yD Za [0, 1, 2, 3, 4, 5, 6, 7, 8, 9, 10, 11, 12] (Zd kk) (ym rfl rfl (ym rfl rfl (yp rfl (.indexAddr rfl rfl (Ji _ _ _ _ _ oo)) (yd rfl rfl mm isAgg22 sizeOf22 ((Zy 0 (by rw [Nat.zero_add, List.length_set]; omega)).trans (by rw [Nat.zero_add, Zlo oo])) ?_))))); clear h
    refine ym rfl rfl (ym rfl rfl (yp rfl (.pN (i + 1) (.add rfl rfl)) (yp rfl (.indexAddr rfl rfl (Ji _ _ _ _ _ oo)) (yd rfl rfl mm isAgg22 sizeOf22 ((Zy 0 (by rw [Nat.zero_add, List.length_set]; omega)).trans (by rw [Nat.zero_add, Zix oo, hzi1])) ?_))))
    refine yp rfl (Pure1.cast (v' := .int .u32 ((O.getD (i + 1) 0 * 2 ^ 31 % 4294967296 : Nat) : Int)) (.binOp rfl rfl (fun _ => Zc2 _ _ _ _ 31 dd)) (by rw [Jp]; congr 1)) (yp rfl (Pure1.cast (v' := .int .u32 ((O.getD i 0 / 2 + 2147483648 * (O.getD (i + 1) 0 % 2) : Nat) : Int)) (.binOp rfl rfl (fun _ => Zfi rfl _ _ _ _ _ (by show _ < 4294967296; omega) (by show _ < 4294967296; omega))) (by rw [Zvw _ _ hxi])) (yp rfl (.indexAddr rfl rfl (Ji _ _ _ _ _ oo)) (yt rfl rfl rfl ((Vz (Z.set i (O.getD i 0 / 2 ^ 1)) (0 + i) (O.getD i 0 / 2 + 2147483648 * (O.getD (i + 1) 0 % 2))).trans (by rw [Nat.zero_add, List.set_set])) uu sizeOf22 rfl (by simp; omega) rfl ?_)))
    refine yn ?_; intro a w h
    exact h.sub sA
   ·
    skip
    have hlt2 : O.length ≤ i + 1 := dF hc18
    refine wp_skip ?_
    rw [Zd0 hlt2, show O.getD i 0 / 2 + 2147483648 * (0 % 2) = O.getD i 0 / 2 ^ 1 from rfl]
    exact h.sub sA
  ·
   clear h
   intro a w h
   refine gC h (zr (zp (.add rfl rfl) (zm rfl (zn ?_)))); clear h; intro a w h
   exact ⟨i + 1, ⟨Z.set i (O.getD i 0 / 2 + 2147483648 * (O.getD (i + 1) 0 % 2)), oo, by simpa using hZl, hZ.set _ _ oo, Zlu hd, Zvx hi' hZl hd hT, h.sub sA⟩, oo⟩
 ·
  skip
  have hi' : i = O.length := by simp at hc6; omega
  refine wp_exit ?_
  subst hi'
  refine Ztg h (Zax rfl) ⟨Z, hZ, hZl, Zza oo hZl hT, rfl, rfl⟩ (List.Sublist.refl _) (fun _ h => h)
theorem C_less (b cu : Nat) (p W0 hh : List Nat) (ad : Option Addr) (cv : Nat) (V : List Nat) (dg : Nat) (hW0 : Wd W0) (hV : Wd V) (hl : V.length ≤ 1000000000000) (hWl0 : W0.length = V.length + 1) (hdg : dg < 4294967296)
  (hp : p.length ≤ 1000000000000) (σr : List (Nat × Obj)) (Φ : List Qf) (hΦ : Row ad (Xl V) ∈ Φ) :
  Znq Tryz.prog 186 [.slice (some ⟨b, p.length, none⟩) (V.length + 1) cu, .slice ad V.length cv, .int .u64 (dg : Int)] ((b, .cells (Xl (p ++ W0 ++ hh)).toArray 22 (0, 0)) :: σr) Φ
   (fun v σ' Φ' => ∃ (W : List Nat) (l : Nat), l ≤ 1 ∧ v = .bool (decide ((l : Int) > 0)) ∧ Wd W ∧ W.length = V.length + 1 ∧ Qb W + dg * Qb V = Qb W0 + 4294967296 ^ (V.length + 1) * l ∧
    σ' = (b, .cells (Xl (p ++ W ++ hh)).toArray 22 (0, 0)) :: σr ∧ Φ' = Φ) := by
 refine fn_introM func186 rfl ntmps186 nb ?_
 intro S w0 a w hS h
 refine gC h (zS (za rfl (zn (zS (za rfl (za rfl (zn (zs (zS (zm rfl (zp (.builtin [_] rfl (Zo _ _ _)) (zm rfl (zn (zb ?_)))))))))))))); clear h; intro a w h
 refine Zn (fun (i : Nat) a w => ∃ (W : List Nat) (c g : Nat), i ≤ V.length ∧ W.length = V.length + 1 ∧ Wd W ∧ c < 4294967296 ∧ g ≤ 1 ∧ Qb W + dg * Qb (V.take i) = Qb W0 + 4294967296 ^ i * (c + g) ∧ St 60 S w0 [(0, .slice (some ⟨b, p.length, none⟩) (V.length + 1) cu), (1, .slice ad V.length cv), (2, .int .u64 (dg : Int)), (7, .int .u64 (c : Int)), (8, .int .u32 (g : Int)), (12, .slice ad V.length cv), (13, .int .i64 (V.length : Int)), (14, .int .i64 (i : Int))] ((b, .cells (Xl (p ++ W ++ hh)).toArray 22 (0, 0)) :: σr) Φ a w) (fun i => V.length - i) (0) (⟨W0, 0, 0, Nat.zero_le _, hWl0, hW0, by decide, by decide, by simp [Qb], h.sub sA⟩) ?_; clear h
 rintro i a w ⟨W, c, g, hi, hWl, hW, hc, hg, hT, h⟩
 refine gC h (zS (zp (.lss rfl rfl) (zn (zs ?_)))); clear h; intro a w h
 refine Zg h rfl (fun hc15 => ?_) (fun hc15 => ?_)
 ·
  skip
  have hi' : i < V.length := by simpa using hc15
  obtain ⟨bV, oV, rfl⟩ := h.row_addr hΦ (by simp; intro e; simp [e] at hi')
  have hwi := hV.getD i
  obtain ⟨hc1, hc2⟩ := Zsk hc hdg hwi
  have hm := Nat.mod_lt (c + dg * V.getD i 0) (show 0 < 4294967296 by decide)
  refine gC h (zk (zs (zb (zS (zm rfl (zp (.indexAddr rfl rfl (Ji _ _ _ _ _ oo)) (zD rfl hΦ (by simp; omega) isAgg22 sizeOf22 (Zy 0 oo) (.inr rfl) ?_)))))))
  refine za rfl (za rfl (zn (zS (zm rfl (zm rfl (zm rfl (zp (.convert rfl (Xc _ (wrap_u64 _ oo oo))) (zp (Pure1.cast (v' := .int .u64 ((dg * V.getD i 0 : Nat) : Int)) (.binOp rfl rfl (fun _ => Zc3 _ _ _ _ _)) (by rw [Gr oo])) (zp (Pure1.cast (v' := .int .u64 ((c + dg * V.getD i 0 : Nat) : Int)) (.binOp rfl rfl (fun _ => Zcg _ _ _ _ _)) (by rw [Gc hc1])) (za rfl (zn (zS (zm rfl (zm rfl (zm rfl (zm rfl (zp (.indexAddr rfl rfl (Ji _ _ _ _ _ oo)) (zd rfl mm isAgg22 sizeOf22 ((Zy 0 (by simp; omega)).trans (by rw [Zdc _ _ _ _ oo])) ?_))))))))))))))))))
  refine zm rfl (zp (Pure1.cast (v' := .int .u32 (((c + dg * V.getD i 0) % 4294967296 : Nat) : Int)) (.convert rfl (Yo _)) (by rw [Jp]; congr 1)) (zm rfl (zv [_, _, _] rfl call160 (Zpl _ _ _ (hW.getD i) hm hg) (zm rfl (zp (.eX rfl) (zp (.eX rfl) (zp (.indexAddr rfl rfl (Ji _ _ _ _ _ oo)) (zt' rfl rfl ((Vz (p ++ W ++ hh) (p.length + i) ((W.getD i 0 + 8589934592 - (c + dg * V.getD i 0) % 4294967296 - g) % 4294967296)).trans (by rw [set_mid _ _ _ _ _ oo])) uu sizeOf22 rfl (by simp; omega) rfl ?_))))))))
  refine za rfl (zn (zr (zm rfl (zp (Pure1.cast (v' := .int .u64 (((c + dg * V.getD i 0) / 4294967296 : Nat) : Int)) (.binOp rfl rfl (fun _ => Vb _ _ _ _ 32 dd)) (by rfl)) (za rfl (zn (zr (zp (.add rfl rfl) (zm rfl (zn ?_)))))))))); intro a w h
  exact ⟨i + 1, ⟨W.set i ((W.getD i 0 + 8589934592 - (c + dg * V.getD i 0) % 4294967296 - g) % 4294967296), _, _, oo, by simpa using hWl, hW.set _ _ (Nat.mod_lt _ dd), hc2, by split <;> omega, Zvh hi' oo hT (Ztz _ _ _ (hW.getD i) hm hg), h.sub sA⟩, oo⟩
 ·
  skip
  have hi' : i = V.length := by simp at hc15; omega
  refine gC h (ze (zS (zm rfl (zp (.builtin [_] rfl (Zo _ _ _)) (za rfl (zn (zS (zm rfl (zm rfl (zm rfl (zm rfl (zp (.indexAddr rfl rfl (Ji _ _ _ _ _ oo)) (zd rfl mm isAgg22 sizeOf22 ((Zy 0 (by simp; omega)).trans (by rw [Zdc _ _ _ _ oo])) ?_)))))))))))))
  refine zm rfl (zp (Pure1.cast (v' := .int .u32 (c : Int)) (.convert rfl (Yo _)) (by rw [Zfd hc])) (zm rfl (zv [_, _, _] rfl call160 (Zpl _ _ _ (hW.getD V.length) hc hg) (zm rfl (zp (.eX rfl) (zp (.eX rfl) (zp (.indexAddr rfl rfl (Ji _ _ _ _ _ oo)) (zt' rfl rfl ((Vz (p ++ W ++ hh) (p.length + V.length) ((W.getD V.length 0 + 8589934592 - c - g) % 4294967296)).trans (by rw [set_mid _ _ _ _ _ oo])) uu sizeOf22 rfl (by simp; omega) rfl ?_))))))))
  refine za rfl (zn (zS (zm rfl (zp (.gtr rfl rfl) (za rfl (zn (zt ?_))))))); intro a w h
  subst hi'
  refine retM h (Zk h rfl (.tmp rfl)) ⟨W.set V.length ((W.getD V.length 0 + 8589934592 - c - g) % 4294967296), _, ?_, rfl, hW.set _ _ (Nat.mod_lt _ dd), by simpa using hWl, Zys oo hT (Ztz _ _ _ (hW.getD _) hc hg), rfl, rfl⟩ (List.Sublist.refl _) (fun _ h => h)
  split <;> omega
end
section
theorem Qbh (b off n c lo hi : Nat) (h1 : lo ≤ hi) (h2 : hi ≤ c) (h3 : lo < c) (w : World) : (Instr.sliceAt 186 (.slice (some ⟨b, off, none⟩) n c) (some (.int .i64 (lo : Int))) (some (.int .i64 (hi : Int))) none).run Tryz.prog w = .ok (.slice (some ⟨b, off + lo, none⟩) (hi - lo) (c - lo)) w := by
 simpa using Zrz runUnderlying186 sizeOf22 b off n c lo hi h1 h2 h3 w
theorem C_long (ax : Option Addr) (cx : Nat) (X : List Nat) (ay : Option Addr) (cy : Nat) (Y : List Nat) (hX : Wd X) (hY : Wd Y) (hm : X.length ≤ 500000000000) (hY2 : 2 ≤ Y.length) (hYX : Y.length ≤ X.length) (hlast : Y.getD (Y.length - 1) 0 ≠ 0) :
  Ctr Tryz.prog 159 [.slice ax X.length cx, .slice ay Y.length cy] [Row ax (Xl X), Row ay (Xl Y)]
   (fun v Ψ => ∃ a1 c1 a2 c2 Q R, v = .tuple #[.slice a1 Q.length c1, .slice a2 R.length c2] ∧ Wd Q ∧ Wd R ∧ Q.length ≤ c1 ∧ R.length ≤ c2 ∧ Q.length ≤ X.length + 1 ∧ R.length ≤ X.length + 1 ∧ Qb Q = Qb X / Qb Y ∧ Qb R = Qb X % Qb Y ∧ Ψ = [Row a1 (Xl Q), Row a2 (Xl R)]) := by
 obtain ⟨e, he⟩ : ∃ e, Y.length = e + 2 := ⟨Y.length - 2, oo⟩
 rw [show Y.length - 1 = e + 1 by omega] at hlast
 refine fn_intro func159 rfl ntmps159 nb ?_
 intro S w0 a hS h
 refine gC h (zS (za rfl (za rfl (zn (zS ?_))))); clear h; intro a w h
 have hlt : 0 < Y.length := oo
 obtain ⟨bY, bYo, bYe⟩ := h.row_addr (ad := ay) (M := Xl Y) ss (by simp; intro e; simp [e] at hlt)
 subst bYe
 refine gL h (zm rfl (zm rfl (zp (.builtin [_] rfl (Zo _ _ _)) (zp (.pQ (e + 1) (.sub rfl rfl)) (zp (.indexAddr rfl rfl (Ji _ _ _ _ _ oo)) (zD rfl mm (by simp; omega) isAgg22 sizeOf22 (Zy 0 oo) (.inr rfl) ?_))))))
 refine zv [_] rfl call184 (Zhe _ (hY.getD _)) ?_; intro a w h
 obtain ⟨hs, hn1, hn2⟩ := Zvc (last := Y.getD (e + 1) 0) hlast (hY.getD _) rfl
 generalize 32 - Zdk (Y.getD (e + 1) 0) = s at h hs hn1 hn2
 refine gL h (za rfl (zn (zs (yD Za [0, 1, 3, 4, 6, 7, 2, 5, 8, 9, 10] (Zd kk) (ym rfl rfl (ym rfl rfl (ym rfl rfl (ym rfl rfl (ym rfl rfl (yp rfl (.builtin [_] rfl (Zo _ _ _)) ?_)))))))))); clear h
 refine Zep rfl kk (vs := [_, _]) rfl call185 (Znt ax cx X s hX oo hs) ss dd ?_; rintro v26 σ26 ⟨b26, Z0, rfl, hZ0, hZ0l, hZ0v, rfl⟩
 refine Zep rfl kk (vs := [_, _]) rfl call185 (Znt _ cy Y s hY oo hs) ss dd ?_; rintro v29 σ29 ⟨b29, V0, rfl, hV0, hV0l, hV0v, rfl⟩
 refine yp rfl (.slice rfl none (some _) none rfl rfl rfl (Zt6 _ _ _ _ oo)) (yp rfl (.assign rfl) (yp rfl (.assign rfl) (yn (zS ?_)))); intro a w h
 replace h := h.shareAll hS (Xl V0) rfl
 replace h := h.derive (R := Row (some ⟨b29, 0, none⟩) (Xl (V0.take Y.length))) (fun X hX => by rw [Xl, List.map_take]; exact Zp4 (hX _ List.mem_cons_self) _)
 obtain ⟨hVv, hv1⟩ := Zmx hY he hs hn1 hn2 hV0 hV0v
 have hVl : (V0.take Y.length).length = Y.length := by simp; omega
 have hV : Wd (V0.take Y.length) := hV0.take _
 generalize hVd : V0.take Y.length = V at h hVv hv1 hVl hV
 rw [← hVl] at h
 have hVe : V.length = e + 2 := oo
 have hYge : 4294967296 ^ (V.length - 1) ≤ Qb Y := by
  have h1 := Jq Y (e + 1) oo
  rw [show e + 1 + 1 = Y.length by omega, List.take_length] at h1
  rw [show V.length - 1 = e + 1 by omega, h1]
  have := Nat.mul_le_mul_left (4294967296 ^ (e + 1)) (Nat.pos_of_ne_zero hlast)
  omega
 obtain ⟨M, hM⟩ : ∃ M, Z0.length = M + V.length := ⟨Z0.length - V.length, oo⟩
 refine gL h (zm rfl (zp (Pure1.cast (v' := .int .i64 (V.length : Int)) (.builtin [_] rfl (Zo _ _ _)) (by rfl)) (za rfl (zn (zS (zm rfl (zp (.builtin [_] rfl (Zo _ _ _)) (zm rfl (zp (.pQ M (.sub rfl rfl)) ?_))))))))); clear h; intro a w h
 refine Zc (Jz h rfl rfl runUnderlying186 typeInfo22 sizeOf22 zeroValue22 rfl dd (by exact Nat.le_refl _) (by show 4 * _ ≤ _; omega) oo dd ?_); clear h; intro b39 a w h
 rw [show (Value.int .u32 0).cells.toList = [Value.int .u32 0] from rfl, Zc5, show List.replicate M (Value.int .u32 0) = Xl (List.replicate M 0) from by simp] at h
 refine gL h (za rfl (zn (zs (zS (zm rfl (zp (.builtin [_] rfl (Zo _ _ _)) (zp (.sub rfl rfl) (za rfl (zn (zb ?_)))))))))); clear h; intro a w h
 refine Zn (fun (κ : Nat) a w => ∃ (Z Q : List Nat), κ ≤ M ∧ Z.length = Z0.length ∧ Wd Z ∧ Q.length = M ∧ Wd Q ∧ Qb Z + 4294967296 ^ κ * (Qb V * Qb (Q.drop κ)) = Qb Z0 ∧ Qb (Z.drop κ) < Qb V ∧ St 175 S w0 [(4, .slice (some ⟨b39, 0, none⟩) M M), (6, .int .i64 (s : Int)), (7, .slice (some ⟨b26, 0, none⟩) Z0.length Z0.length), (8, .slice (some ⟨b29, 0, none⟩) V.length V0.length), (9, .int .i64 (V.length : Int)), (10, .int .i64 ((κ : Int) - 1))] [(b26, .cells (Xl Z).toArray 22 (0, 0)), (b39, .cells (Xl Q).toArray 22 (0, 0))] [Row (some ⟨b29, 0, none⟩) (Xl V)] a w) (fun κ => κ) (M) (⟨Z0, List.replicate M 0, Nat.le_refl _, rfl, hZ0, by simp, Wd.zeros _, by simp [Qb], by rw [hVv]; exact Zsi hX hZ0v hYge oo oo, ((h.perm (List.Perm.swap _ _ _)).factsSub (by simp)).sub (Ztd ⟨rfl, rfl, rfl, rfl, rfl, rfl, trivial⟩)⟩) ?_; clear h
 rintro κ a w ⟨Z, Q, hκ, hZl, hZ, hQl, hQ, hT, hR, h⟩
 refine gC h (zs (zS (zm rfl (zp (.geq rfl rfl) (zn ?_))))); clear h; intro a w h
 refine cW ?_
 refine Zg h rfl (fun hc44 => ?_) (fun hc44 => ?_)
 ·
  skip
  have hκ0 : 0 < κ := by simp at hc44; omega
  obtain ⟨p, W, hh, rfl, hp, hWl, hpw, hWw, hhw, hh0, hUlt⟩ := Zov (k := κ - 1) (n := V.length) hZ oo (Vy hV) (by rw [Nat.sub_add_cancel hκ0]; exact hR)
  obtain rfl : κ = p.length + 1 := oo
  have hU3 := Zts (l := W) (e := e) oo
  have hV2 := Zma (l := V) (e := e) oo
  have hlu := Vx hWw e
  have hlv := Vx hV e
  have hw2 := hWw.getD (e + 2)
  have hw1 := hWw.getD (e + 1)
  have hw0 := hWw.getD e
  have hvv1 := hV.getD (e + 1)
  have hvv2 := hV.getD e
  refine gC h (zk (zs (zb (zc (zs (yD Za [0, 1, 2, 3, 4, 5, 6, 7, 8, 9, 10, 11, 12, 13, 14, 15, 16, 17] (Zd kk) (ym rfl rfl (yp rfl (.pQ p.length (.move rfl)) (ym rfl rfl (yp rfl (.pQ (p.length + (e + 2)) (.add rfl rfl)) (yp rfl (.indexAddr rfl rfl (Ji _ _ _ _ _ oo)) (yd rfl rfl mm isAgg22 sizeOf22 ((Zy 0 (by simp; omega)).trans (by rw [Nat.zero_add, Zdc _ _ _ _ oo])) ?_)))))))))))); clear h
  refine yp rfl (.convert rfl (Xc _ (wrap_u64 _ oo oo))) (yp rfl (Pure1.cast (v' := .int .u64 ((W.getD (e + 2) 0 * 4294967296 : Nat) : Int)) (.binOp rfl rfl (fun _ => Zc2 _ _ _ _ 32 dd)) (by rw [wrap_u64 _ oo oo])) (ym rfl rfl (yp rfl (.pQ p.length (.move rfl)) (ym rfl rfl (yp rfl (.pQ (p.length + (e + 2)) (.add rfl rfl)) (yp rfl (.pQ (p.length + (e + 1)) (.sub rfl rfl)) (yp rfl (.indexAddr rfl rfl (Ji _ _ _ _ _ oo)) (yd rfl rfl mm isAgg22 sizeOf22 ((Zy 0 (by simp; omega)).trans (by rw [Nat.zero_add, Zdc _ _ _ _ oo])) ?_))))))))
  refine yp rfl (.convert rfl (Xc _ (wrap_u64 _ oo oo))) (yp rfl (Pure1.cast (v' := .int .u64 ((4294967296 * W.getD (e + 2) 0 + W.getD (e + 1) 0 : Nat) : Int)) (.binOp rfl rfl (fun _ => Zfi rfl _ _ _ _ _ (by show _ < 18446744073709551616; omega) (by show _ < 18446744073709551616; omega))) (by rw [or_hi _ _ hw1])) (yp rfl (.assign rfl) ?_))
  have htl : 4294967296 * W.getD (e + 2) 0 + W.getD (e + 1) 0 < 18446744073709551616 := oo
  have htop := top_lt hU3 hV2 hvv2 hlv hUlt
  generalize hTop : 4294967296 * W.getD (e + 2) 0 + W.getD (e + 1) 0 = top at hU3 htl htop ⊢
  refine yn (zs (yD Za [0, 1, 2, 3, 4, 5, 6, 7, 8, 9, 10, 11, 12, 13, 14, 15, 16, 17] (Zd kk) (ym rfl rfl (ym rfl rfl (ym rfl rfl (yp rfl (.pQ (e + 1) (.sub rfl rfl)) (yp rfl (.indexAddr rfl rfl (Ji _ _ _ _ _ oo)) ?_)))))))
  refine Zv rfl kk rfl mm (by simp; omega) isAgg22 sizeOf22 (Zy 0 oo) (.inr rfl) dd ?_
  refine yp rfl (.convert rfl (Xc _ (wrap_u64 _ oo oo))) (yp rfl (Pure1.cast (v' := .int .u64 ((top / V.getD (e + 1) 0 : Nat) : Int)) (.binOp rfl rfl (fun _ => Zh6 _ _ _ _ _ oo)) (by rw [Zff, Zfc (Nat.lt_of_le_of_lt (Nat.div_le_self _ _) htl)])) (ym rfl rfl (ym rfl rfl (ym rfl rfl (yp rfl (.pQ (e + 1) (.sub rfl rfl)) (yp rfl (.indexAddr rfl rfl (Ji _ _ _ _ _ oo)) ?_))))))
  refine Zv rfl kk rfl mm (by simp; omega) isAgg22 sizeOf22 (Zy 0 oo) (.inr rfl) dd ?_
  refine yp rfl (.convert rfl (Xc _ (wrap_u64 _ oo oo))) (yp rfl (Pure1.cast (v' := .int .u64 ((top % V.getD (e + 1) 0 : Nat) : Int)) (.binOp rfl rfl (fun _ => Xp _ _ _ _ _ oo)) (by rw [Zkt])) (yp rfl (.assign rfl) (yp rfl (.assign rfl) (yn (zs (zl ?_)))))); intro a w h
  refine cW ?_
  refine Zbd (fun a w => ∃ dg : Nat, dg < 4294967296 ∧ dg * Qb V ≤ Qb W + Qb V ∧ Qb W < (dg + 1) * Qb V ∧ St 175 S w0 [(4, .slice (some ⟨b39, 0, none⟩) M M), (6, .int .i64 (s : Int)), (7, .slice (some ⟨b26, 0, none⟩) Z0.length Z0.length), (8, .slice (some ⟨b29, 0, none⟩) V.length V0.length), (9, .int .i64 (V.length : Int)), (10, .int .i64 (((p.length + 1 : Nat) : Int) - 1)), (12, .int .u64 (dg : Int))] [(b26, .cells (Xl (p ++ W ++ hh)).toArray 22 (0, 0)), (b39, .cells (Xl Q).toArray 22 (0, 0))] [Row (some ⟨b29, 0, none⟩) (Xl V)] a w) ?_ ?_
  ·
   skip
   refine wp_block ?_
   refine Zn (fun (dg : Nat) a w => ∃ rest : Nat, dg * V.getD (e + 1) 0 + rest = top ∧ Qb W < (dg + 1) * Qb V ∧ rest < 8589934592 ∧ St 175 S w0 [(4, .slice (some ⟨b39, 0, none⟩) M M), (6, .int .i64 (s : Int)), (7, .slice (some ⟨b26, 0, none⟩) Z0.length Z0.length), (8, .slice (some ⟨b29, 0, none⟩) V.length V0.length), (9, .int .i64 (V.length : Int)), (10, .int .i64 (((p.length + 1 : Nat) : Int) - 1)), (12, .int .u64 (dg : Int)), (13, .int .u64 (rest : Int))] [(b26, .cells (Xl (p ++ W ++ hh)).toArray 22 (0, 0)), (b39, .cells (Xl Q).toArray 22 (0, 0))] [Row (some ⟨b29, 0, none⟩) (Xl V)] a w) (fun dg => dg) (top / V.getD (e + 1) 0) (⟨top % V.getD (e + 1) 0, by rw [Nat.mul_comm]; exact Nat.div_add_mod _ _, Zsv hU3 hV2 hw0 hlu oo, Nat.lt_trans (Nat.mod_lt _ oo) oo, h.sub sA⟩) ?_; clear h
   rintro dg a w ⟨rest, hIg, hUd, hrest, h⟩
   have hdgle := Zzi hIg htop hv1
   refine gC h (zs (zS (zm rfl (zp (.leq rfl rfl) (zn ?_))))); clear h; intro a w h
   refine cW ?_
   refine Zg h rfl (fun hc81 => ?_) (fun hc81 => ?_)
   ·
    skip
    have hr : rest < 4294967296 := dT hc81
    refine gC h (zk (zb (zs (zs (yD Za [0, 1, 2, 3, 4, 5, 6, 7, 8, 9, 10, 11, 12, 13, 14, 15, 16, 17, 18, 19, 20, 21, 22, 23] (Zd kk) (ym rfl rfl (yp rfl (.leq rfl rfl) (ym rfl rfl ?_)))))))); clear h
    refine Zfv (fun hc84  => ?_) (fun hc84  => ?_)
    focus
     have hdg : dg < 4294967296 := dT hc84
     have hmul := Zad hdg hvv2
     refine yq rfl rfl rfl (.move rfl) (yq rfl rfl rfl (.move rfl) (yq rfl rfl rfl (.move rfl) (yq rfl rfl rfl (.pQ e (.sub rfl rfl)) (yq rfl rfl rfl (.indexAddr rfl rfl (Ji _ _ _ _ _ oo)) ?_))))
     refine Qk rfl rfl rfl kk rfl mm (by simp; omega) isAgg22 sizeOf22 (Zy 0 oo) (.inr rfl) dd ?_
     refine yq rfl rfl rfl (.convert rfl (Xc _ (wrap_u64 _ oo oo))) (yq rfl rfl rfl (Pure1.cast (v' := .int .u64 ((dg * V.getD e 0 : Nat) : Int)) (.binOp rfl rfl (fun _ => Zc3 _ _ _ _ _)) (by rw [Gr oo])) (yq rfl rfl rfl (.move rfl) (yq rfl rfl rfl (Pure1.cast (v' := .int .u64 ((rest * 4294967296 : Nat) : Int)) (.binOp rfl rfl (fun _ => Zc2 _ _ _ _ 32 dd)) (by rw [wrap_u64 _ oo oo])) (yq rfl rfl rfl (.move rfl) (yq rfl rfl rfl (.pQ p.length (.move rfl)) (yq rfl rfl rfl (.move rfl) (yq rfl rfl rfl (.pQ (p.length + (e + 2)) (.add rfl rfl)) (yq rfl rfl rfl (.pQ (p.length + e) (.sub rfl rfl)) (yq rfl rfl rfl (.indexAddr rfl rfl (Ji _ _ _ _ _ oo)) (yg rfl rfl rfl rfl mm isAgg22 sizeOf22 ((Zy 0 (by simp; omega)).trans (by rw [Nat.zero_add, Zdc _ _ _ _ oo])) ?_))))))))))
     refine yq rfl rfl rfl (.convert rfl (Xc _ (wrap_u64 _ oo oo))) (yq rfl rfl rfl (Pure1.cast (v' := .int .u64 ((4294967296 * rest + W.getD e 0 : Nat) : Int)) (.binOp rfl rfl (fun _ => Zfi rfl _ _ _ _ _ (by show _ < 18446744073709551616; omega) (by show _ < 18446744073709551616; omega))) (by rw [or_hi _ _ hw0])) (yq rfl rfl rfl (.leq rfl rfl) ?_))
     refine Zfv (fun hc104  => ?_) (fun hc104  => ?_)
     ·
      skip
      have hle : dg * V.getD e 0 ≤ 4294967296 * rest + W.getD e 0 := by have := of_decide_eq_true hc104; exact_mod_cast this
      refine yp rfl (.pickT rfl rfl) (yn ?_); intro a w h
      refine cW ?_
      refine Zi h rfl ?_
      refine wp_exit ?_
      exact ⟨dg, hdg, Zm9 hU3 hV2 oo hvv2 hlv hIg oo (.inr hle), hUd, h.sub sA⟩
     have hcase : 4294967296 ≤ dg ∨ 4294967296 * rest + W.getD e 0 < dg * V.getD e 0 := .inr (by have := of_decide_eq_false hc104; exact Nat.lt_of_not_le fun hh => this (by exact_mod_cast hh))
     refine yp rfl (.pickT rfl rfl) (yn ?_); intro a w h
    rotate_left
    focus
     have hcase : 4294967296 ≤ dg ∨ 4294967296 * rest + W.getD e 0 < dg * V.getD e 0 := .inl (dF hc84)
     refine yo 84 rfl rfl rfl rfl (yo 84 rfl rfl rfl rfl (yo 84 rfl rfl rfl rfl (yo 84 rfl rfl rfl rfl (yo 84 rfl rfl rfl rfl (yo 84 rfl rfl rfl rfl (yo 84 rfl rfl rfl rfl (yo 84 rfl rfl rfl rfl (yo 84 rfl rfl rfl rfl (yo 84 rfl rfl rfl rfl (yo 84 rfl rfl rfl rfl (yo 84 rfl rfl rfl rfl (yo 84 rfl rfl rfl rfl (yo 84 rfl rfl rfl rfl (yo 84 rfl rfl rfl rfl (yo 84 rfl rfl rfl rfl (yo 84 rfl rfl rfl rfl (yo 84 rfl rfl rfl rfl (yo 84 rfl rfl rfl rfl (yo 84 rfl rfl rfl rfl (yp rfl (.pickF rfl rfl) (yn ?_))))))))))))))))))))); intro a w h
    all_goals
     refine cW ?_
     refine Zf h rfl ?_
     refine wp_skip (wp_seq (wp_region_lit ?_))
     have hnext := Zvz hU3 hV2 hlu hIg hUlt hcase
     have hdg0 : 0 < dg := Nat.pos_of_ne_zero fun h0 => by subst h0; simp at hnext
     refine gL h (zm rfl (zp (Pure1.cast (v' := .int .u64 ((dg - 1 : Nat) : Int)) (.binOp rfl rfl (fun _ => Zf6 _ _ _ _ _)) (by rw [wrap_u64 _ oo oo]; congr 1; omega)) (za rfl (zn (zr (zm rfl (zm rfl (zm rfl (zp (.pQ (e + 1) (.sub rfl rfl)) (zp (.indexAddr rfl rfl (Ji _ _ _ _ _ oo)) (zD rfl mm (by simp; omega) isAgg22 sizeOf22 (Zy 0 oo) (.inr rfl) ?_)))))))))))
     refine zp (.convert rfl (Xc _ (wrap_u64 _ oo oo))) (zp (Pure1.cast (v' := .int .u64 ((rest + V.getD (e + 1) 0 : Nat) : Int)) (.binOp rfl rfl (fun _ => Zcg _ _ _ _ _)) (by rw [Gc oo])) (za rfl (zn ?_))); intro a w h
     exact ⟨dg - 1, ⟨rest + V.getD (e + 1) 0, Zsu hIg hdg0, by rw [Nat.sub_add_cancel hdg0]; exact hnext, oo, h.sub sA⟩, oo⟩
   ·
    skip
    have hr : 4294967296 ≤ rest := dF hc81
    refine wp_exit ?_
    have hdg := Zo8 hIg htop hr
    exact ⟨dg, hdg, Zm9 hU3 hV2 oo hvv2 hlv hIg oo (.inl hr), hUd, h.sub sA⟩
  ·
   skip
   clear h
   rintro a w ⟨dg, hdg, hend, hUd, h⟩
   refine Zbd (fun a w => ∃ (W3 : List Nat) (dg : Nat), dg < 4294967296 ∧ Wd W3 ∧ W3.length = V.length + 1 ∧ Qb W3 + dg * Qb V = Qb W ∧ Qb W3 < Qb V ∧ St 175 S w0 [(4, .slice (some ⟨b39, 0, none⟩) M M), (6, .int .i64 (s : Int)), (7, .slice (some ⟨b26, 0, none⟩) Z0.length Z0.length), (8, .slice (some ⟨b29, 0, none⟩) V.length V0.length), (9, .int .i64 (V.length : Int)), (10, .int .i64 (((p.length + 1 : Nat) : Int) - 1)), (12, .int .u64 (dg : Int))] [(b26, .cells (Xl (p ++ W3 ++ hh)).toArray 22 (0, 0)), (b39, .cells (Xl Q).toArray 22 (0, 0))] [Row (some ⟨b29, 0, none⟩) (Xl V)] a w) ?_ ?_
   ·
    skip
    refine gC h (zS (zm rfl (zp (.pQ p.length (.move rfl)) (zp (.pQ p.length (.move rfl)) (zm rfl (zp (.pQ (p.length + V.length) (.add rfl rfl)) (zp (.pQ (p.length + V.length + 1) (.add rfl rfl)) (zp (Pure1.cast (v' := .slice (some ⟨b26, p.length, none⟩) (V.length + 1) (Z0.length - p.length)) (.slice rfl (some _) (some _) none rfl rfl rfl (Qbh _ _ _ _ _ _ oo oo oo)) (by rw [Nat.zero_add, show p.length + V.length + 1 - p.length = V.length + 1 by omega])) (zm rfl (zm rfl ?_)))))))))); clear h; intro a w h
    refine Zc (Zc7 h hS (vs := [_, _, _]) rfl call186 (C_less b26 (Z0.length - p.length) p W hh (some ⟨b29, 0, none⟩) V0.length V dg hWw hV oo hWl hdg oo [(b39, .cells (Xl Q).toArray 22 (0, 0))] [Row (some ⟨b29, 0, none⟩) (Xl V)] List.mem_cons_self) (List.Perm.refl _) ss ss ?_); clear h; rintro v125 σ125 Ψ125 a w ⟨W1, l, hl, rfl, hW1, hW1l, hW1v, rfl, rfl⟩ h
    refine wpList_nil ?_
    refine cW ?_
    refine Zg h rfl (fun hc125 => ?_) (fun hc125 => ?_)
    ·
     skip
     have hl1 : 0 < l := dT hc125
     have hW1lt := Vy hW1
     rw [hW1l] at hW1lt
     have hdg0 : 0 < dg := Nat.pos_of_ne_zero fun e0 => by
      subst e0
      obtain rfl : l = 1 := oo
      omega
     refine gC h (zS (zm rfl (zp (Pure1.cast (v' := .int .u64 ((dg - 1 : Nat) : Int)) (.binOp rfl rfl (fun _ => Zf6 _ _ _ _ _)) (by rw [wrap_u64 _ oo oo]; congr 1; omega)) (za rfl (zn (zS (za rfl (zn (zs (zS (zm rfl (zp (.builtin [_] rfl (Zo _ _ _)) (zm rfl (zn (zb ?_))))))))))))))); clear h; intro a w h
     refine Zn (fun (i : Nat) a w => ∃ (W2 : List Nat) (c : Nat), i ≤ V.length ∧ W2.length = V.length + 1 ∧ Wd W2 ∧ c ≤ 1 ∧ Qb W2 + 4294967296 ^ i * (c + Qb (V.drop i)) = Qb W1 + Qb V ∧ St 175 S w0 [(4, .slice (some ⟨b39, 0, none⟩) M M), (6, .int .i64 (s : Int)), (7, .slice (some ⟨b26, 0, none⟩) Z0.length Z0.length), (8, .slice (some ⟨b29, 0, none⟩) V.length V0.length), (9, .int .i64 (V.length : Int)), (10, .int .i64 (((p.length + 1 : Nat) : Int) - 1)), (12, .int .u64 ((dg - 1 : Nat) : Int)), (14, .int .u32 (c : Int)), (128, .slice (some ⟨b29, 0, none⟩) V.length V0.length), (129, .int .i64 (V.length : Int)), (130, .int .i64 (i : Int))] [(b26, .cells (Xl (p ++ W2 ++ hh)).toArray 22 (0, 0)), (b39, .cells (Xl Q).toArray 22 (0, 0))] [Row (some ⟨b29, 0, none⟩) (Xl V)] a w) (fun i => V.length - i) (0) (⟨W1, 0, Nat.zero_le _, hW1l, hW1, by decide, by simp, h.sub sA⟩) ?_; clear h
     rintro i a w ⟨W2, c, hi, hW2l, hW2, hc, hT2, h⟩
     refine gC h (zS (zp (.lss rfl rfl) (zn (zs ?_)))); clear h; intro a w h
     refine Zg h rfl (fun hc131 => ?_) (fun hc131 => ?_)
     ·
      skip
      have hi' : i < V.length := by simpa using hc131
      refine gC h (zk (zs (zb (zS (zm rfl (zp (.indexAddr rfl rfl (Ji _ _ _ _ _ oo)) (zD rfl mm (by simp; omega) isAgg22 sizeOf22 (Zy 0 oo) (.inr rfl) ?_)))))))
      refine za rfl (za rfl (zn (zr (zm rfl (zp (.pQ p.length (.move rfl)) (zm rfl (zp (.pQ (p.length + i) (.add rfl rfl)) (zm rfl (zp (.pQ p.length (.move rfl)) (zm rfl (zp (.pQ (p.length + i) (.add rfl rfl)) (zp (.indexAddr rfl rfl (Ji _ _ _ _ _ oo)) (zd rfl mm isAgg22 sizeOf22 ((Zy 0 (by simp; omega)).trans (by rw [Nat.zero_add, Zdc _ _ _ _ oo])) ?_)))))))))))))
      refine zm rfl (zm rfl (zv [_, _, _] rfl call162 (Zxn _ _ _ (hW2.getD i) (hV.getD i) hc) (zm rfl (zp (.eX rfl) (zp (.eX rfl) (zp (.indexAddr rfl rfl (Ji _ _ _ _ _ oo)) (zt' rfl rfl ((Vz (p ++ W2 ++ hh) (0 + (p.length + i)) ((W2.getD i 0 + V.getD i 0 + c) % 4294967296)).trans (by rw [Nat.zero_add, set_mid _ _ _ _ _ oo])) uu sizeOf22 rfl (by simp; omega) rfl ?_)))))))
      refine za rfl (zn (zr (zp (.add rfl rfl) (zm rfl (zn ?_))))); intro a w h
      refine ⟨i + 1, ⟨W2.set i ((W2.getD i 0 + V.getD i 0 + c) % 4294967296), _, oo, by simpa using hW2l, hW2.set _ _ (Nat.mod_lt _ dd), ?_, Zlz oo hT2, h.sub sA⟩, oo⟩
      have hz := hW2.getD i
      have hy := hV.getD i
      omega
     ·
      skip
      have hi' : i = V.length := by simp at hc131; omega
      subst hi'
      refine gC h (ze (zr (zm rfl (zp (.pQ p.length (.move rfl)) (zm rfl (zp (.pQ (p.length + V.length) (.add rfl rfl)) (zp (.indexAddr rfl rfl (Ji _ _ _ _ _ oo)) (zd rfl mm isAgg22 sizeOf22 ((Zy 0 (by simp; omega)).trans (by rw [Nat.zero_add, Zdc _ _ _ _ oo])) ?_))))))))
      refine zm rfl (zp (Pure1.cast (v' := .int .u32 ((((W2.getD V.length 0 + c) % 4294967296) : Nat) : Int)) (.binOp rfl rfl (fun _ => Zcg _ _ _ _ _)) (by rw [Jp]; congr 1)) (zp (.indexAddr rfl rfl (Ji _ _ _ _ _ oo)) (zt' rfl rfl ((Vz (p ++ W2 ++ hh) (0 + (p.length + V.length)) ((W2.getD V.length 0 + c) % 4294967296)).trans (by rw [Nat.zero_add, set_mid _ _ _ _ _ oo])) uu sizeOf22 rfl (by simp; omega) rfl ?_))); intro a w h
      refine wpList_nil ?_
      have hst := Zlz (Z := W2) (Y := V) (i := V.length) oo hT2
      rw [Zd0 (Nat.le_refl V.length), Nat.add_zero, List.drop_eq_nil_of_le (by omega : V.length ≤ V.length + 1)] at hst
      simp only [Qb, Nat.add_zero] at hst
      have hW3 : Wd (W2.set V.length ((W2.getD V.length 0 + c) % 4294967296)) := hW2.set _ _ (Nat.mod_lt _ dd)
      have hlt3 := Vy hW3
      rw [List.length_set, hW2l] at hlt3
      obtain ⟨_, hk1, hk2⟩ := Zsp hW1v hl hW1lt hend (Nat.le_of_lt (Nat.lt_of_lt_of_le (Vy hV) (Nat.pow_le_pow_right dd (Nat.le_succ _)))) hl1 hst hlt3
      exact ⟨_, dg - 1, oo, hW3, by rw [List.length_set, hW2l], hk1, hk2, h.sub sA⟩
    ·
     skip
     have hl1 : ¬ 0 < l := dF hc125
     have hW1lt := Vy hW1
     rw [hW1l] at hW1lt
     refine wp_skip ?_
     obtain ⟨hk1, hk2⟩ := Zy2 hW1v hW1lt hl hUd hl1
     exact ⟨W1, dg, hdg, hW1, hW1l, hk1, hk2, h.sub sA⟩
   ·
    skip
    clear h
    clear hdg hend hUd
    rintro a w ⟨W3, dg, hdg, hW3, hW3l, hk1, hk2, h⟩
    refine gC h (zr (zm rfl (zp (.pQ p.length (.move rfl)) (zm rfl (zp (Pure1.cast (v' := .int .u32 (dg : Int)) (.convert rfl (Yo _)) (by rw [Zfd hdg])) (zp (.indexAddr rfl rfl (Ji _ _ _ _ _ oo)) (zt' rfl rfl ((Vz Q (0 + p.length) dg).trans (by rw [Nat.zero_add])) uu sizeOf22 rfl (by simp; omega) rfl ?_)))))))
    refine zn (zr (zp (.pQ p.length (.move rfl)) (zp (.sub rfl rfl) (za rfl (zn ?_))))); intro a w h
    exact ⟨p.length, ⟨p ++ W3 ++ hh, Q.set p.length dg, oo, by simp at hZl ⊢; omega, (hpw.append hW3).append hhw, by simpa using hQl, hQ.set _ _ hdg, Zva oo oo hT hk1, Zvb hh0 hk2, h.sub sA⟩, oo⟩
 ·
  skip
  have hκ0 : κ = 0 := by simp at hc44; omega
  subst hκ0
  refine gC h (ze (zs (zS (zm rfl (zm rfl (zn (zb ?_))))))); clear h; intro a w h
  refine Zn (fun (i : Nat) a w => ∃ R : List Nat, i ≤ s ∧ Wd R ∧ R.length = Z0.length ∧ Qb R = Qb Z / 2 ^ i ∧ St 175 S w0 [(4, .slice (some ⟨b39, 0, none⟩) M M), (6, .int .i64 (s : Int)), (7, .slice (some ⟨b26, 0, none⟩) R.length Z0.length), (167, .int .i64 (s : Int)), (168, .int .i64 (i : Int))] [(b26, .cells (Xl R).toArray 22 (0, 0)), (b39, .cells (Xl Q).toArray 22 (0, 0))] [Row (some ⟨b29, 0, none⟩) (Xl V)] a w) (fun i => s - i) (0) (⟨Z, Nat.zero_le _, hZ, hZl, by simp, by rw [hZl]; exact h.sub sA⟩) ?_; clear h
  rintro i a w ⟨R, hi, hR, hRl, hRv, h⟩
  refine gC h (zS (zp (.lss rfl rfl) (zn (zs ?_)))); clear h; intro a w h
  refine Zg h rfl (fun hc169 => ?_) (fun hc169 => ?_)
  ·
   skip
   have hi' : i < s := by simpa using hc169
   refine gC h (zk (zs (zb (zr (zm rfl ?_))))); clear h; intro a w h
   refine Zc (Zc7 h hS (vs := [_]) rfl call187 (C_half b26 Z0.length R hR oo [(b39, .cells (Xl Q).toArray 22 (0, 0))] [Row (some ⟨b29, 0, none⟩) (Xl V)]) (List.Perm.refl _) ss ss ?_); clear h; rintro v171 σ171 Ψ171 a w ⟨R2, hR2, hR2l, hR2v, rfl, rfl⟩ h
   refine gL h (zn (zr (zp (.add rfl rfl) (zm rfl (zn ?_))))); clear h; intro a w h
   exact ⟨i + 1, ⟨R2, oo, hR2, oo, by rw [hR2v, hRv, Nat.div_div_eq_div_mul, ← Nat.pow_succ], by rw [hR2l]; exact h.sub sA⟩, oo⟩
  ·
   skip
   have hi' : i = s := by simp at hc169; omega
   refine gC h (ze (zS (zm rfl (zm rfl (za rfl (za rfl (zn (zt ?_)))))))); clear h; intro a w h
   subst hi'
   simp only [List.drop_zero, Nat.pow_zero, Nat.one_mul] at hT hR
   obtain ⟨hq, hr⟩ := Zsj (hT.trans hZ0v) ‹Qb Z < Qb V› hVv
   replace h := h.shareAll hS (Xl R) rfl
   replace h := h.shareAll hS (Xl Q) rfl
   rw [← hQl] at h
   refine Xr (Ψ := [Row (some ⟨b39, 0, none⟩) (Xl Q), Row (some ⟨b26, 0, none⟩) (Xl R)]) h (Qq h rfl (.tmp rfl) (.tmp rfl)) ⟨_, _, _, _, Q, R, rfl, hQ, ‹Wd R›, oo, by omega, oo, by omega, hq, by rw [hRv, hr], rfl⟩ ss
end
section
theorem Ztq {m : Nat} (h : m ≠ 0) : (wds m).getD ((wds m).length - 1) 0 ≠ 0 := by
 have hne : wds m ≠ [] := fun e => h (by rw [← Jl m, e]; rfl)
 have := Zhg m hne
 rw [List.getLast_eq_getElem] at this
 have hl : (wds m).length - 1 < (wds m).length := by have := List.length_pos_iff.2 hne; omega
 simpa [List.getD, hl] using this
theorem Zn4 {m : Nat} (h : m ≠ 0) : 0 < (wds m).length := List.length_pos_iff.2 fun e => h (by rw [← Jl m, e]; rfl)
theorem Yy {n m : Nat} (h : n ≤ m) : (wds n).length ≤ (wds m).length := Nat.le_of_not_lt fun hl => by have := Zee hl; omega
theorem Qba {m : Nat} (h : (wds m).length = 1) : (wds m).getD 0 0 = m := by
 have e := Jl m
 match hw : wds m, h with
 | [x], _ => rw [hw] at e; simpa [Qb] using e
theorem Qdz (n m : Nat) (hn : (wds n).length ≤ 500000000000) (hm : (wds m).length ≤ 500000000000) (h0 : m ≠ 0) : Xm Tryz.prog 118 [Vw n, Vw m] (.tuple #[Vw (n / m), Vw (n % m), .bool true]) := by
 refine fn_intro func118 rfl ntmps118 nb ?_
 intro S w0 a hS h
 refine gC h (zS (zx rfl fun b2 => zx rfl fun b3 => zz zeroValue35 fun b4 => zz zeroValue35 fun b5 => za rfl (zn (zs (zb (zS (zd rfl mr isAgg35 sizeOf35 Zz ?_)))))))
 refine zv [_] rfl call157 (Qaz m) (za rfl (zn ?_)); intro a w h
 refine cW ?_
 refine Zg h rfl (fun hc12 => (by exfalso; exact h0 (of_decide_eq_true hc12))) (fun hc12 => ?_)
 refine gC h (zS (zd rfl mr isAgg35 sizeOf35 Zz ?_))
 refine zd rfl mr isAgg35 sizeOf35 Zz ?_
 refine zv [_, _] rfl call158 (C_Cmp n m oo oo) (zp (.lss rfl rfl) (za rfl (zn ?_))); intro a w h
 refine cW ?_
 refine Zg h rfl (fun hc17 => ?_) (fun hc17 => ?_)
 ·
  skip
  have hlt : n < m := by rw [Zht] at hc17; exact of_decide_eq_true hc17
  refine gC h (zs (yD Za [0, 1, 2, 3, 4] (Zd kk) (yp rfl (.build [] rfl (Zlw)) ?_))); clear h
  refine Za0 [4] rfl kk rfl mr isAgg35 sizeOf35 Zz (fun a w σx hst => by intro t ht; simp only [List.mem_cons, List.not_mem_nil, or_false] at ht; rcases ht with rfl <;> exact ⟨_, rfl, by have h1 := (List.pairwise_append.1 hst.nd).2.1; simp at h1; dsimp only; omega⟩) dd ?_
  refine yt rfl rfl rfl Qv uu sizeOf35 rfl nb rfl ?_
  refine yt rfl rfl rfl Qv uu sizeOf35 rfl nb rfl ?_
  refine yp rfl (.assign rfl) (yn (zt ?_)); intro a w h
  refine Xd h (Zhi h rfl (.cell rfl mr isAgg35 sizeOf35 Zz) (.cell rfl mr isAgg35 sizeOf35 Zz) (.tmp rfl)) ?_
  rw [Nat.div_eq_of_lt hlt, Nat.mod_eq_of_lt hlt]; rfl
 ·
  skip
  have hle : m ≤ n := by rw [Zht] at hc17; exact Nat.le_of_not_lt (of_decide_eq_false hc17)
  refine gC h (zS (zp (.fA rfl Gb) (zd rfl mr isAgg9 sizeOf9 Kq ?_)))
  refine zp (.binOp rfl rfl (fun _ => Xn _ _ _ _ _)) (za rfl (zn ?_)); intro a w h
  refine cW ?_
  refine Zg h rfl (fun hc24 => ?_) (fun hc24 => ?_)
  ·
   skip
   have ha : n < 18446744073709551616 := Jg.1 (by simpa using hc24)
   have hb : m < 18446744073709551616 := oo
   refine gC h (zs (yD Za [0, 1, 2, 3, 4, 5, 6, 7, 8, 9, 10, 11, 12, 13, 14] (Zd kk) (yp rfl (.fA rfl Ke) (yd rfl rfl mr isAgg33 sizeOf33 Vp ?_)))); clear h
   refine yp rfl (.fA rfl Ke) (yd rfl rfl mr isAgg33 sizeOf33 Vp ?_)
   refine yp rfl (Pure1.cast (v' := .int .u64 ((n / m : Nat) : Int)) (.binOp rfl rfl (fun _ => Zh6 _ _ _ _ _ (by rw [Qm hb]; omega))) (by rw [Qm ha, Qm hb, Zff, Zfc (Nat.lt_of_le_of_lt (Nat.div_le_self _ _) ha)])) (yp rfl (.build [(_, _)] rfl (Ze8 _)) (yp rfl (.fA rfl Ke) ?_))
   refine Za0 [4] rfl kk rfl mr isAgg33 sizeOf33 Vp (fun a w σx hst => by intro t ht; simp only [List.mem_cons, List.not_mem_nil, or_false] at ht; rcases ht with rfl <;> exact ⟨_, rfl, by have h1 := (List.pairwise_append.1 hst.nd).2.1; simp at h1; dsimp only; omega⟩) dd ?_
   refine yp rfl (.fA rfl Ke) ?_
   refine Za0 [4] rfl kk rfl mr isAgg33 sizeOf33 Vp (fun a w σx hst => by intro t ht; simp only [List.mem_cons, List.not_mem_nil, or_false] at ht; rcases ht with rfl <;> exact ⟨_, rfl, by have h1 := (List.pairwise_append.1 hst.nd).2.1; simp at h1; dsimp only; omega⟩) dd ?_
   refine yp rfl (Pure1.cast (v' := .int .u64 ((n % m : Nat) : Int)) (.binOp rfl rfl (fun _ => Xp _ _ _ _ _ (by rw [Qm hb]; omega))) (by rw [Qm ha, Qm hb, Zkt])) (yp rfl (.build [(_, _)] rfl (Ze8 _)) (yt rfl rfl rfl Qv uu sizeOf35 rfl nb rfl ?_))
   refine yt rfl rfl rfl Qv uu sizeOf35 rfl nb rfl ?_
   refine yp rfl (.assign rfl) (yn (zt ?_)); intro a w h
   refine Xd h (Zhi h rfl (.cell rfl mr isAgg35 sizeOf35 Zz) (.cell rfl mr isAgg35 sizeOf35 Zz) (.tmp rfl)) ?_
   rw [Vw, Vw, Qm (Nat.lt_of_le_of_lt (Nat.div_le_self _ _) ha), Ko (Nat.lt_of_le_of_lt (Nat.div_le_self _ _) ha), Qm (Nat.lt_of_le_of_lt (Nat.mod_le _ _) ha), Ko (Nat.lt_of_le_of_lt (Nat.mod_le _ _) ha)]
  ·
   skip
   have ha : ¬ n < 18446744073709551616 := fun hn => by have := Jg.2 hn; simp [this] at hc24
   refine gC h (zk (zS (zd rfl mr isAgg35 sizeOf35 Zz ?_)))
   refine zf [_] rfl call124 (Zck m oo) ?_; rintro v41 Ψ41 ⟨aY, cY, rfl, hcY, rfl⟩
   refine za rfl (zn (zs (zS (zm rfl (zp (.builtin [_] rfl (Zo _ _ _)) (zp (.eql rfl rfl) (zn ?_))))))); intro a w h
   refine cW ?_
   refine Zg h rfl (fun hc44 => ?_) (fun hc44 => ?_)
   ·
    skip
    have h1 : (wds m).length = 1 := natEq' (b := 1) hc44
    have hm1 := Qba h1
    have hm2 := (Wd.wds m).getD 0
    rw [hm1] at hm2
    have hlt : 0 < (wds m).length := oo
    obtain ⟨bY, bYo, bYe⟩ := h.row_addr (ad := aY) (M := Xl (wds m)) ss (by simp; intro e; simp [e] at hlt)
    subst bYe
    refine gC h (zs (yD Za [0, 2, 3, 4, 1, 5, 6, 7, 8, 9, 10] (Zd kk) (yd rfl rfl mr isAgg35 sizeOf35 Zz ?_))); clear h
    refine ym rfl rfl (yp rfl (.indexAddr rfl rfl (Ji _ _ _ _ 0 oo)) ?_)
    refine Zv rfl kk rfl mm (by simp; omega) isAgg22 sizeOf22 ((Zy 0 oo).trans (by rw [hm1])) (.inr rfl) dd ?_
    refine yf [_] rfl rfl call124 (Zck n oo) ?_; rintro v47 Ψ47 ⟨aX, cX, rfl, hcX, rfl⟩
    refine Zep rfl kk (vs := [_, _]) rfl call146 (Qc9 aX cX (wds n) m (Wd.wds n) oo oo hm2) ss dd ?_; rintro v51 σ51 ⟨bq, Q, rfl, hQ, hQl, hQv, rfl⟩
    refine ym rfl rfl (yp rfl (.eX rfl) (yp rfl (.eX rfl) (yp rfl (.assign rfl) (yp rfl (.assign rfl) (yn (zS ?_)))))); intro a w h
    replace h := h.shareAll hS (Xl Q) rfl
    refine gL h (zm rfl (zw [_] rfl call123 (Qdc _ _ Q hQ (Nat.le_refl _) oo) (zm rfl (zp (Pure1.cast (v' := .int .u64 ((n % m : Nat) : Int)) (.convert rfl (Zq5 _)) (by rw [Jl, Zfc (Nat.lt_trans (Nat.mod_lt _ oo) oo)])) (zp (.build [(_, _)] rfl (Ze8 _)) (zt' rfl rfl Qv uu sizeOf35 rfl nb rfl ?_))))))
    refine zt' rfl rfl Qv uu sizeOf35 rfl nb rfl ?_; intro a w h
    refine gL h (za rfl (zn (zt ?_))); clear h; intro a w h
    refine Xd h (Zhi h rfl (.cell rfl mr isAgg35 sizeOf35 Zz) (.cell rfl mr isAgg35 sizeOf35 Zz) (.tmp rfl)) ?_
    have hr : n % m < 18446744073709551616 := Nat.lt_trans (Nat.mod_lt _ oo) oo
    rw [hQv, Jl, Vw, Vw, Qm hr, Ko hr]
   ·
    skip
    have h1 : (wds m).length ≠ 1 := natNe' (b := 1) hc44
    have h2 := Zn4 h0
    have h3 := Yy hle
    refine gC h (zk (zS (zd rfl mr isAgg35 sizeOf35 Zz ?_)))
    refine zf [_] rfl call124 (Zck n oo) ?_; rintro v61 Ψ61 ⟨aX, cX, rfl, hcX, rfl⟩
    refine zm rfl (zf [_, _] rfl call159 (C_long aX cX (wds n) aY cY (wds m) (Wd.wds n) (Wd.wds m) hn oo h3 (Ztq h0)) ?_); rintro v63 Ψ63 ⟨a1, c1, a2, c2, Q, R, rfl, hQ, hR, hQc, hRc, hQl, hRl, hQv, hRv, rfl⟩
    refine zm rfl (zp (.eX rfl) (zp (.eX rfl) (za rfl (za rfl (zn (zS (zm rfl (zw [_] rfl call123 (Qdc _ _ Q hQ hQc oo) (zm rfl (zw [_] rfl call123 (Qdc _ _ R hR hRc oo) (zt' rfl rfl Qv uu sizeOf35 rfl nb rfl ?_)))))))))))
    refine zt' rfl rfl Qv uu sizeOf35 rfl nb rfl ?_; intro a w h
    refine gL h (za rfl (zn (zt ?_))); clear h; intro a w h
    refine Xd h (Zhi h rfl (.cell rfl mr isAgg35 sizeOf35 Zz) (.cell rfl mr isAgg35 sizeOf35 Zz) (.tmp rfl)) ?_
    rw [hQv, hRv, Jl, Jl]
theorem C_Gcd (n m : Nat) (hn : (wds n).length ≤ 500000000000) (hm : (wds m).length ≤ 500000000000) : Xm Tryz.prog 116 [Vw n, Vw m] (Vw (Nat.gcd n m)) := by
 refine fn_intro func116 rfl ntmps116 nb ?_
 intro S w0 a hS h
 refine gC h (zS (zx rfl fun b2 => zx rfl fun b3 => zz zeroValue35 fun b4 => zn (zs (zb ?_)))); clear h; intro a w h
 refine Zn (fun (y : Nat) a w => ∃ x : Nat, (wds x).length ≤ 500000000000 ∧ (wds y).length ≤ 500000000000 ∧ Nat.gcd x y = Nat.gcd n m ∧ St 21 S w0 [(2, pB b2), (3, pB b3), (4, pB b4)] [(b4, .cells (Vw 0).cells 35 (0, 0)), (b3, .cells (Vw y).cells 35 (0, 0)), (b2, .cells (Vw x).cells 35 (0, 0))] [] a w) (fun y => y) (m) (⟨n, hn, hm, rfl, h.sub sA⟩) ?_; clear h
 rintro y a w ⟨x, hx, hy, hg, h⟩
 refine gC h (zs (zS (zd rfl mr isAgg35 sizeOf35 Zz ?_)))
 refine zv [_] rfl call157 (Qaz y) (zp (.unOp rfl (Yp _)) (zn ?_)); intro a w h
 refine cW ?_
 refine Zg h rfl (fun hc10 => ?_) (fun hc10 => ?_)
 ·
  skip
  have hy0 : y ≠ 0 := by simpa using hc10
  refine gC h (zk (zb (zS (zd rfl mr isAgg35 sizeOf35 Zz ?_))))
  refine zd rfl mr isAgg35 sizeOf35 Zz ?_
  refine zv [_, _] rfl call118 (Qdz x y hx hy hy0) (zm rfl (zp (.eX rfl) (zp (.eX rfl) (zp (.eX rfl) (zz zeroValue35 fun b5 => zz zeroValue35 fun b6 => zt' rfl rfl Qv uu sizeOf35 rfl nb rfl ?_)))))
  refine zt' rfl rfl Qv uu sizeOf35 rfl nb rfl ?_; intro a w h
  refine gL h (za rfl (zn (yD Za [0, 1, 2, 3] (Zd kk) (yd rfl rfl mr isAgg35 sizeOf35 Zz ?_)))); clear h
  refine Za0 [2] rfl kk rfl mr isAgg35 sizeOf35 Zz (fun a w σx hst => by intro t ht; simp only [List.mem_cons, List.not_mem_nil, or_false] at ht; rcases ht with rfl <;> exact ⟨_, rfl, by have h1 := (List.pairwise_append.1 hst.nd).2.1; simp at h1; dsimp only; omega⟩) dd ?_
  refine yt rfl rfl rfl Qv uu sizeOf35 rfl nb rfl ?_
  refine yt rfl rfl rfl Qv uu sizeOf35 rfl nb rfl ?_
  refine yn ?_; intro a w h
  exact ⟨x % y, ⟨y, hy, Nat.le_trans (Yy (Nat.le_of_lt (Nat.mod_lt _ (Nat.pos_of_ne_zero hy0)))) hy, by rw [← hg, Nat.gcd_comm y (x % y), ← Nat.gcd_rec, Nat.gcd_comm], (h.drop (.cons _ (.cons _ (List.Sublist.refl _)))).sub sA⟩, Nat.mod_lt _ (Nat.pos_of_ne_zero hy0)⟩
 ·
  skip
  have hy0 : y = 0 := by simpa using hc10
  subst hy0
  refine gC h (ze (zS (zd rfl mr isAgg35 sizeOf35 Zz ?_)))
  refine zt' rfl rfl Qv uu sizeOf35 rfl nb rfl ?_; intro a w h
  refine wpList_nil (wp_ret ?_)
  refine Xd h (Zk h rfl (.cell rfl mr isAgg35 sizeOf35 Zz)) ?_
  rw [← hg, Nat.gcd_zero_right]
end
section
theorem Qcs (w : World) : (Instr.build 37 [].toArray).run Tryz.prog w = .ok (.agg #[.int .u64 0, .string ⟨#[]⟩]) w := by simp [go_sem]
theorem Qct (x0_0 : Value) (x0_1 : Value) (w : World) : (Instr.build 37 [(0, .agg #[x0_0, x0_1])].toArray).run Tryz.prog w = .ok (.agg #[x0_0, x0_1]) w := by simp [go_sem]
theorem Znl (x0_0 : Value) (x0_1 : Value) (x1 : Bool) (w : World) : (Instr.build 39 [(0, .agg #[x0_0, x0_1]), (1, .bool x1)].toArray).run Tryz.prog w = .ok (.agg #[x0_0, x0_1, .bool x1]) w := by simp [go_sem]
theorem Qt {c0 c1 c2 v0 v1 v2 : Value} : Qc #[c0, c1, c2] 0 [v0, v1, v2] = #[v0, v1, v2] := rfl
theorem Qa {c0 c1 c2 : Value} : Qe true 3 #[c0, c1, c2] 0 = some (.agg #[c0, c1, c2]) := rfl
theorem Zci {b off : Nat} (w : World) : (Instr.fieldAt 39 (.pointer (some ⟨b, off, none⟩)) 1).run Tryz.prog w = .ok (.pointer (some ⟨b, off + 2, none⟩)) w := by
 simp [go_sem]
theorem Jo {c0 c1 c2 : Value} : Qe false 1 #[c0, c1, c2] 2 = some c2 := rfl
theorem Gw {b off : Nat} (w : World) : (Instr.fieldAt 39 (.pointer (some ⟨b, off, none⟩)) 0).run Tryz.prog w = .ok (.pointer (some ⟨b, off + 0, none⟩)) w := by
 simp [go_sem]
theorem Zar {b off : Nat} (w : World) : (Instr.fieldAt 37 (.pointer (some ⟨b, off, none⟩)) 0).run Tryz.prog w = .ok (.pointer (some ⟨b, off + 0, none⟩)) w := by
 simp [go_sem]
theorem Kj {c0 c1 c2 : Value} : Qe true 2 #[c0, c1, c2] 0 = some (.agg #[c0, c1]) := rfl
def Zap (z : Int) : Nat := (wds z.natAbs).length
def sgZ (neg : Bool) (n : Nat) : Int := if neg then -(n : Int) else (n : Int)
theorem Zkw (neg : Bool) (n : Nat) : (sgZ neg n).natAbs = n := by unfold sgZ; split <;> omega
theorem Zpy (z : Int) : sgZ (decide (z < 0)) z.natAbs = z := by unfold sgZ; split <;> simp_all <;> omega
theorem Qbi (neg : Bool) (n : Nat) : decide (sgZ neg n < 0) = (neg && !decide (n = 0)) := by
 unfold sgZ; cases neg <;> by_cases h : n = 0 <;> simp [h] <;> omega
theorem Qce (X Y : Operand) (n m : Nat) (w : World) : (do eqGuard .eql 37 X Y (Vw n) (Vw m); Go.binOp .eql 37 (Vw n) (Vw m) : Sem Value).run Tryz.prog w = .ok (.bool (decide (n = m))) w := by
 simp [go_sem]
 have hb : ((Yx n).toList = (Yx m).toList) ↔ Yx n = Yx m := by have := Zco (Yx n) (Yx m); rw [Bool.eq_iff_iff] at this; simpa using this
 by_cases h : n = m
 · subst h; simp
 ·
  have hne := fun h1 h2 => h (Zls h1 h2)
  by_cases h1 : Kv n = Kv m
  · simp only [h, h1, hb, if_true, decide_false]; exact if_neg (hne h1)
  · simp [h, h1]
theorem Zwz (n : Nat) : Xm Tryz.prog 134 [Vw n] (.bool (decide (n = 0))) := by
 refine fn_intro func134 rfl ntmps134 nb ?_
 intro S w0 a hS h
 refine gC h (zS (zx rfl fun b1 => za rfl (zn (zS (zd rfl mr isAgg37 sizeOf37 Zz ?_)))))
 refine zp (Pure1.cast (v' := Vw 0) (.build [] rfl (Qcs)) (by rfl)) (zp (.binOp rfl rfl (fun _ => Qce _ _ n 0 _)) (za rfl (zn (zt ?_)))); intro a w h
 exact Zdj h
theorem Zec (neg : Bool) (n : Nat) : Xm Tryz.prog 121 [.bool neg, Vw n] (encZ (sgZ neg n)) := by
 refine fn_intro func121 rfl ntmps121 nb ?_
 intro S w0 a hS h
 refine gC h (zS (zx rfl fun b3 => zz zeroValue39 fun b4 => zn (zS (zd rfl mr isAgg35 sizeOf35 Zz ?_))))
 refine zp (.build [(_, _)] rfl (Qct _ _)) (zz zeroValue37 fun b5 => zt' rfl rfl Qv uu sizeOf37 rfl nb rfl ?_)
 refine zn (zs (yD Za [0, 1, 2, 3, 4, 5, 6, 7, 8] (Zd kk) (yd rfl rfl mr isAgg37 sizeOf37 Zz ?_)))
 refine ym rfl rfl (ym rfl rfl ?_)
 refine Zfv (fun hc10  => ?_) (fun hc10  => ?_)
 focus
  refine yg rfl rfl rfl rfl mr isAgg37 sizeOf37 Zz ?_
  refine Jt rfl rfl rfl kk (vs := [_]) rfl call134 (Zwz n) dd ?_
  refine yq rfl rfl rfl (.unOp rfl (Yp _)) (yp rfl (.pickT rfl rfl) (yp rfl (.build [(_, _), (_, _)] rfl (Znl _ _ _)) (yt rfl rfl rfl Qt uu sizeOf39 rfl nb rfl ?_)))
 rotate_left
 focus
  refine yo 10 rfl rfl rfl rfl (yo 10 rfl rfl rfl rfl (yo 10 rfl rfl rfl rfl (yp rfl (.pickF rfl rfl) (yp rfl (.build [(_, _), (_, _)] rfl (Znl _ _ _)) (yt rfl rfl rfl Qt uu sizeOf39 rfl nb rfl ?_)))))
 all_goals
  refine yn (zt ?_); intro a w h
  refine Xd h (Zk h rfl (.cell rfl mr isAgg39 sizeOf39 Qa)) ?_
  subst hc10; rw [encZ, Zkw, Qbi]; rfl
theorem C_plus (x y : Int) (hx : Zap x ≤ 400000000000) (hy : Zap y ≤ 400000000000) : Xm Tryz.prog 153 [encZ x, encZ y] (encZ (x + y)) := by
 unfold Zap at hx hy
 refine fn_intro func153 rfl ntmps153 nb ?_
 intro S w0 a hS h
 refine gC h (zS (zx rfl fun b2 => zx rfl fun b3 => zz zeroValue39 fun b4 => zn (zs (zS (zp (.fA rfl Zci) (zd rfl mr isAgg4 sizeOf4 Jo ?_))))))
 refine zp (.fA rfl Zci) (zd rfl mr isAgg4 sizeOf4 Jo ?_)
 refine zp (.binOp rfl rfl (fun _ => Zx5 _ underlying4 _ _ _ _)) (zn ?_); intro a w h
 refine cW ?_
 refine Zg h rfl (fun hc13 => ?_) (fun hc13 => ?_)
 ·
  skip
  refine gC h (zs (yD Za [0, 1, 2, 3, 4, 5, 6, 7, 8, 9, 10] (Zd kk) (yp rfl (.fA rfl Zci) (yd rfl rfl mr isAgg4 sizeOf4 Jo ?_)))); clear h
  refine yp rfl (.fA rfl Gw) (yp rfl (.fA rfl Zar) (yd rfl rfl mr isAgg35 sizeOf35 Kj ?_))
  refine yp rfl (.fA rfl Gw) (yp rfl (.fA rfl Zar) (yd rfl rfl mr isAgg35 sizeOf35 Kj ?_))
  refine yv [_, _] rfl rfl call125 (C_Add _ _ oo oo) (yv [_, _] rfl rfl call121 (Zec _ _) (yt rfl rfl rfl Qt uu sizeOf39 rfl nb rfl ?_))
  refine yn (zt ?_); intro a w h
  refine Xd h (Zk h rfl (.cell rfl mr isAgg39 sizeOf39 Qa)) ?_
  rw [show sgZ (decide (x < 0)) (x.natAbs + y.natAbs) = x + y from by unfold sgZ; by_cases h1 : x < 0 <;> by_cases h2 : y < 0 <;> simp [h1, h2] at hc13 ⊢ <;> omega]
 ·
  skip
  refine gC h (zk (zs (zS (zp (.fA rfl Gw) (zp (.fA rfl Zar) (zd rfl mr isAgg35 sizeOf35 Kj ?_))))))
  refine zp (.fA rfl Gw) (zp (.fA rfl Zar) (zd rfl mr isAgg35 sizeOf35 Kj ?_))
  refine zv [_, _] rfl call119 (Qdg x.natAbs y.natAbs oo oo) (zm rfl (zp (.eX rfl) (zp (.eX rfl) (zz zeroValue35 fun b5 => zt' rfl rfl Qv uu sizeOf35 rfl nb rfl ?_))))
  refine za rfl (zn (zS (zm rfl (zn ?_)))); intro a w h
  refine cW ?_
  refine Zg h rfl (fun hc34 => ?_) (fun hc34 => ?_)
  ·
   skip
   refine gC h (zS (zp (.fA rfl Zci) (zd rfl mr isAgg4 sizeOf4 Jo ?_)))
   refine zd rfl mr isAgg35 sizeOf35 Zz ?_
   refine zv [_, _] rfl call121 (Zec _ _) (zt' rfl rfl Qt uu sizeOf39 rfl nb rfl ?_); intro a w h
   refine wpList_nil (wp_ret ?_)
   refine Xd h (Zk h rfl (.cell rfl mr isAgg39 sizeOf39 Qa)) ?_
   have hle : y.natAbs ≤ x.natAbs := of_decide_eq_true hc34
   rw [show sgZ (decide (x < 0)) (x.natAbs - y.natAbs) = x + y from by unfold sgZ; by_cases h1 : x < 0 <;> by_cases h2 : y < 0 <;> simp [h1, h2] at hc13 ⊢ <;> omega]
  ·
   skip
   refine gC h (zk (zS (zp (.fA rfl Gw) (zp (.fA rfl Zar) (zd rfl mr isAgg35 sizeOf35 Kj ?_)))))
   refine zp (.fA rfl Gw) (zp (.fA rfl Zar) (zd rfl mr isAgg35 sizeOf35 Kj ?_))
   refine zv [_, _] rfl call119 (Qdg y.natAbs x.natAbs oo oo) (zm rfl (zp (.eX rfl) (zp (.eX rfl) (zz zeroValue35 fun b7 => zt' rfl rfl Qv uu sizeOf35 rfl nb rfl ?_))))
   refine za rfl (zn (zS (zp (.fA rfl Zci) (zd rfl mr isAgg4 sizeOf4 Jo ?_))))
   refine zd rfl mr isAgg35 sizeOf35 Zz ?_
   refine zv [_, _] rfl call121 (Zec _ _) (zt' rfl rfl Qt uu sizeOf39 rfl nb rfl ?_); intro a w h
   refine wpList_nil (wp_ret ?_)
   refine Xd h (Zk h rfl (.cell rfl mr isAgg39 sizeOf39 Qa)) ?_
   have hle : ¬ y.natAbs ≤ x.natAbs := of_decide_eq_false hc34
   rw [show sgZ (decide (y < 0)) (y.natAbs - x.natAbs) = x + y from by unfold sgZ; by_cases h1 : x < 0 <;> by_cases h2 : y < 0 <;> simp [h1, h2] at hc13 ⊢ <;> omega]
theorem Qc7 (x y : Int) (hx : Zap x ≤ 400000000000) (hy : Zap y ≤ 400000000000) : Xm Tryz.prog 115 [encZ x, encZ y] (encZ (x * y)) := by
 unfold Zap at hx hy
 refine fn_intro func115 rfl ntmps115 nb ?_
 intro S w0 a hS h
 refine gC h (zS (zx rfl fun b2 => zx rfl fun b3 => zz zeroValue39 fun b4 => zn (zs (yD Za [0, 1, 2, 3, 4, 5, 6, 7, 8, 9, 10, 11, 12, 13] (Zd kk) (yp rfl (.fA rfl Zci) (yd rfl rfl mr isAgg4 sizeOf4 Jo ?_)))))); clear h
 refine yp rfl (.fA rfl Zci) (yd rfl rfl mr isAgg4 sizeOf4 Jo ?_)
 refine yp rfl (.binOp rfl rfl (fun _ => Zac _ underlying4 _ _ _ _)) (yp rfl (.fA rfl Gw) (yp rfl (.fA rfl Zar) (yd rfl rfl mr isAgg35 sizeOf35 Kj ?_)))
 refine yp rfl (.fA rfl Gw) (yp rfl (.fA rfl Zar) (yd rfl rfl mr isAgg35 sizeOf35 Kj ?_))
 refine yv [_, _] rfl rfl call67 (Qdp _ _ oo oo) (yv [_, _] rfl rfl call121 (Zec _ _) (yt rfl rfl rfl Qt uu sizeOf39 rfl nb rfl ?_))
 refine yn (zt ?_); intro a w h
 refine Xd h (Zk h rfl (.cell rfl mr isAgg39 sizeOf39 Qa)) ?_
 rw [show sgZ (decide (x < 0) != decide (y < 0)) (x.natAbs * y.natAbs) = x * y from by
  conv => rhs; rw [← Zpy x, ← Zpy y]
  unfold sgZ
  by_cases h1 : x < 0 <;> by_cases h2 : y < 0 <;> simp only [h1, h2, decide_true, decide_false, bne_self_eq_false, Bool.true_bne, Bool.false_bne, Bool.not_true, Bool.not_false, if_true, Bool.false_eq_true, if_false, Int.natCast_mul, Int.neg_mul, Int.mul_neg, Int.neg_neg]]
theorem Zji (x y : Int) (hx : Zap x ≤ 400000000000) (hy : Zap y ≤ 400000000000) : Xm Tryz.prog 114 [.func (.func 153) #[] #[], encZ x, encZ y] (encZ (x + y)) := by
 refine fn_intro func114 rfl ntmps114 nb ?_
 intro S w0 a hS h
 refine gC h (zS (zx rfl fun b4 => zx rfl fun b5 => zz zeroValue39 fun b6 => zn (zS (zm rfl (zd rfl mr isAgg39 sizeOf39 Qa ?_)))))
 refine zd rfl mr isAgg39 sizeOf39 Qa ?_; intro a w h
 refine Zc (Zfm h (fs := []) (cs := []) rfl (vs := [_, _]) rfl call153 (C_plus x y hx hy) dd ?_); clear h; intro a w h
 refine gL h (zt' rfl rfl Qt uu sizeOf39 rfl nb rfl ?_); clear h; intro a w h
 refine wpList_nil (wp_ret ?_)
 refine Xd h (Zk h rfl (.cell rfl mr isAgg39 sizeOf39 Qa)) ?_
 rfl
theorem Zw8 (x y : Int) (hx : Zap x ≤ 400000000000) (hy : Zap y ≤ 400000000000) : Xm Tryz.prog 105 [encZ x, encZ y] (encZ (x + y)) := by
 refine fn_intro func105 rfl ntmps105 nb ?_
 intro S w0 a hS h
 refine gC h (zS (zx rfl fun b2 => zx rfl fun b3 => zz zeroValue39 fun b4 => zn (zS (zd rfl mr isAgg39 sizeOf39 Qa ?_))))
 refine zd rfl mr isAgg39 sizeOf39 Qa ?_
 refine zv [_, _, _] rfl call114 (Zji x y hx hy) (zt' rfl rfl Qt uu sizeOf39 rfl nb rfl ?_); intro a w h
 refine wpList_nil (wp_ret ?_)
 refine Xd h (Zk h rfl (.cell rfl mr isAgg39 sizeOf39 Qa)) ?_
 rfl
theorem Zns (x y : Int) (hx : Zap x ≤ 400000000000) (hy : Zap y ≤ 400000000000) : Xm Tryz.prog 114 [.func (.func 115) #[] #[], encZ x, encZ y] (encZ (x * y)) := by
 refine fn_intro func114 rfl ntmps114 nb ?_
 intro S w0 a hS h
 refine gC h (zS (zx rfl fun b4 => zx rfl fun b5 => zz zeroValue39 fun b6 => zn (zS (zm rfl (zd rfl mr isAgg39 sizeOf39 Qa ?_)))))
 refine zd rfl mr isAgg39 sizeOf39 Qa ?_; intro a w h
 refine Zc (Zfm h (fs := []) (cs := []) rfl (vs := [_, _]) rfl call115 (Qc7 x y hx hy) dd ?_); clear h; intro a w h
 refine gL h (zt' rfl rfl Qt uu sizeOf39 rfl nb rfl ?_); clear h; intro a w h
 refine wpList_nil (wp_ret ?_)
 refine Xd h (Zk h rfl (.cell rfl mr isAgg39 sizeOf39 Qa)) ?_
 rfl
theorem Zkp (x y : Int) (hx : Zap x ≤ 400000000000) (hy : Zap y ≤ 400000000000) : Xm Tryz.prog 65 [encZ x, encZ y] (encZ (x * y)) := by
 refine fn_intro func65 rfl ntmps65 nb ?_
 intro S w0 a hS h
 refine gC h (zS (zx rfl fun b2 => zx rfl fun b3 => zz zeroValue39 fun b4 => zn (zS (zd rfl mr isAgg39 sizeOf39 Qa ?_))))
 refine zd rfl mr isAgg39 sizeOf39 Qa ?_
 refine zv [_, _, _] rfl call114 (Zns x y hx hy) (zt' rfl rfl Qt uu sizeOf39 rfl nb rfl ?_); intro a w h
 refine wpList_nil (wp_ret ?_)
 refine Xd h (Zk h rfl (.cell rfl mr isAgg39 sizeOf39 Qa)) ?_
 rfl
theorem Qa5 (x : Int) : Xm Tryz.prog 142 [encZ x] (encZ (-x)) := by
 refine fn_intro func142 rfl ntmps142 nb ?_
 intro S w0 a hS h
 refine gC h (zS (zx rfl fun b1 => zz zeroValue39 fun b2 => zn (zS (zp (.fA rfl Zci) (zd rfl mr isAgg4 sizeOf4 Jo ?_)))))
 refine zp (.unOp rfl (Yp _)) (zp (.fA rfl Gw) (zp (.fA rfl Zar) (zd rfl mr isAgg35 sizeOf35 Kj ?_)))
 refine zv [_, _] rfl call121 (Zec _ _) (zt' rfl rfl Qt uu sizeOf39 rfl nb rfl ?_); intro a w h
 refine wpList_nil (wp_ret ?_)
 refine Xd h (Zk h rfl (.cell rfl mr isAgg39 sizeOf39 Qa)) ?_
 rw [show sgZ (!decide (x < 0)) x.natAbs = -x from by unfold sgZ; by_cases h1 : x < 0 <;> simp [h1] <;> omega]
theorem Zrg (x : Int) : Xm Tryz.prog 117 [encZ x] (Vw x.natAbs) := by
 refine fn_intro func117 rfl ntmps117 nb ?_
 intro S w0 a hS h
 refine gC h (zS (zx rfl fun b1 => zz zeroValue35 fun b2 => zn (zS (zp (.fA rfl Gw) (zp (.fA rfl Zar) (zd rfl mr isAgg35 sizeOf35 Kj ?_))))))
 refine zt' rfl rfl Qv uu sizeOf35 rfl nb rfl ?_; intro a w h
 refine wpList_nil (wp_ret ?_)
 refine Xd h (Zk h rfl (.cell rfl mr isAgg35 sizeOf35 Zz)) ?_
 rfl
theorem Zpk (x : Int) : Xm Tryz.prog 75 [encZ x] (.int .i64 x.sign) := by
 refine fn_intro func75 rfl ntmps75 nb ?_
 intro S w0 a hS h
 refine gC h (zS (zx rfl fun b1 => za rfl (zn (zs (zb (zS (zp (.fA rfl Gw) (zd rfl mr isAgg37 sizeOf37 Kj ?_))))))))
 refine zv [_] rfl call134 (Zwz x.natAbs) (za rfl (zn ?_)); intro a w h
 refine cW ?_
 refine Zg h rfl (fun hc3 => ?_) (fun hc3 => ?_)
 ·
  skip
  refine gC h (zS (za rfl (zn (zt ?_)))); clear h; intro a w h
  refine Xd h (Zk h rfl (.tmp rfl)) ?_
  rw [show x = 0 by have := of_decide_eq_true hc3; omega]; rfl
 ·
  skip
  refine gC h (zS (zp (.fA rfl Zci) (zd rfl mr isAgg4 sizeOf4 Jo ?_)))
  refine za rfl (zn ?_); intro a w h
  refine cW ?_
  refine Zg h rfl (fun hc7 => ?_) (fun hc7 => ?_)
  ·
   skip
   refine gC h (zS (za rfl (zn (zt ?_)))); clear h; intro a w h
   refine Xd h (Zk h rfl (.tmp rfl)) ?_
   rw [Int.sign_eq_neg_one_of_neg (of_decide_eq_true hc7)]
  ·
   skip
   refine gC h (zk (zS (za rfl (zn (zt ?_))))); clear h; intro a w h
   refine Xd h (Zk h rfl (.tmp rfl)) ?_
   have h1 := of_decide_eq_false hc3; have h2 := of_decide_eq_false hc7; rw [Int.sign_eq_one_of_pos oo]
end
section
theorem Zwa (x : Int) (w : World) : (Go.convert 2 33 (.int .i64 x)).run Tryz.prog w = .ok (.int .u64 (IntKind.u64.wrap x)) w := by
 simp [go_sem]
theorem Qcr (x0_0 : Value) (x0_1 : Value) (x0_2 : Value) (w : World) : (Instr.build 41 [(0, .agg #[x0_0, x0_1, x0_2])].toArray).run Tryz.prog w = .ok (.agg #[x0_0, x0_1, x0_2, .int .u64 0, .string ⟨#[]⟩]) w := by simp [go_sem]
theorem Zp {c0 c1 c2 c3 c4 v0 v1 v2 v3 v4 : Value} : Qc #[c0, c1, c2, c3, c4] 0 [v0, v1, v2, v3, v4] = #[v0, v1, v2, v3, v4] := rfl
theorem Zh {c0 c1 c2 c3 c4 : Value} : Qe true 5 #[c0, c1, c2, c3, c4] 0 = some (.agg #[c0, c1, c2, c3, c4]) := rfl
theorem Zd3 {b off : Nat} (w : World) : (Instr.fieldAt 41 (.pointer (some ⟨b, off, none⟩)) 1).run Tryz.prog w = .ok (.pointer (some ⟨b, off + 3, none⟩)) w := by
 simp [go_sem]
theorem Zb2 {c0 c1 c2 c3 c4 : Value} : Qe true 2 #[c0, c1, c2, c3, c4] 3 = some (.agg #[c3, c4]) := rfl
theorem Zje (x0_0 : Value) (x0_1 : Value) (x0_2 : Value) (x1_0 : Value) (x1_1 : Value) (w : World) : (Instr.build 41 [(0, .agg #[x0_0, x0_1, x0_2]), (1, .agg #[x1_0, x1_1])].toArray).run Tryz.prog w = .ok (.agg #[x0_0, x0_1, x0_2, x1_0, x1_1]) w := by simp [go_sem]
theorem Yv {b off : Nat} (w : World) : (Instr.fieldAt 41 (.pointer (some ⟨b, off, none⟩)) 0).run Tryz.prog w = .ok (.pointer (some ⟨b, off + 0, none⟩)) w := by
 simp [go_sem]
theorem Xx {c0 c1 c2 c3 c4 : Value} : Qe true 3 #[c0, c1, c2, c3, c4] 0 = some (.agg #[c0, c1, c2]) := rfl
theorem Zij (n : Int) (d : Nat) (hd : d ≠ 0) : (mkRat n d).num = sgZ (decide (n.sign < 0)) (n.natAbs / n.natAbs.gcd d) ∧ (mkRat n d).den = d / n.natAbs.gcd d := by
 rw [← Rat.normalize_eq_mkRat hd, Rat.normalize_eq hd]
 refine ⟨?_, rfl⟩
 show n / ((n.natAbs.gcd d : Nat) : Int) = _
 unfold sgZ
 have hg : ((n.natAbs.gcd d : Nat) : Int) ∣ n := Int.ofNat_dvd_left.2 (Nat.gcd_dvd_left _ _)
 have hg0 : n.natAbs.gcd d ≠ 0 := fun h => hd (Nat.gcd_eq_zero_iff.1 h).2
 have hdv := Nat.gcd_dvd_left n.natAbs d
 generalize n.natAbs.gcd d = g at *
 obtain ⟨k, hk⟩ := hdv
 rw [hk, Nat.mul_div_cancel_left k (Nat.pos_of_ne_zero hg0)]
 by_cases h : n < 0
 ·
  have h2 : n.sign < 0 := by rw [Int.sign_eq_neg_one_of_neg h]; decide
  simp only [h2, decide_true, if_true]
  have : n = (g : Int) * -(k : Int) := by rw [Int.mul_neg, ← Int.natCast_mul, ← hk]; omega
  rw [this, Int.mul_ediv_cancel_left _ oo]
 ·
  have h2 : ¬ n.sign < 0 := by
   rcases Int.lt_or_eq_of_le (Int.not_lt.1 h) with h3 | h3
   · rw [Int.sign_eq_one_of_pos h3]; decide
   · rw [← h3]; decide
  simp only [h2, decide_false, Bool.false_eq_true, if_false]
  have : n = (g : Int) * (k : Int) := by rw [← Int.natCast_mul, ← hk]; omega
  rw [this, Int.mul_ediv_cancel_left _ oo]
def Zu (q : Rat) : Nat := max (Zap q.num) (wds q.den).length
theorem Zdy {q : Rat} {k : Nat} (h : Zu q ≤ k) : Zap q.num ≤ k ∧ (wds q.den).length ≤ k := by unfold Zu at h; omega
theorem wds_ge {n : Nat} (h : n ≠ 0) : 4294967296 ^ ((wds n).length - 1) ≤ n := by
 have hne : wds n ≠ [] := fun e => h (by rw [← Jl n, e]; rfl)
 have h2 := Jl n
 rw [← List.dropLast_concat_getLast hne, Xo] at h2
 have h3 := Zhg _ hne
 simp only [Qb, List.length_dropLast, Nat.mul_zero, Nat.add_zero] at h2
 have h5 : 4294967296 ^ ((wds n).length - 1) * 1 ≤ 4294967296 ^ ((wds n).length - 1) * (wds n).getLast hne := Nat.mul_le_mul_left _ oo
 omega
theorem Zef {n k : Nat} (h : n < 4294967296 ^ k) : (wds n).length ≤ k := by
 by_cases h0 : n = 0
 · subst h0; simp [Zau]
 ·
  have h1 := wds_ge h0
  have h2 := (Nat.pow_lt_pow_iff_right (a := 4294967296) dd).1 (Nat.lt_of_le_of_lt h1 h)
  omega
theorem Zcm (n : Nat) : n < 4294967296 ^ (wds n).length := by
 have := Vy (Wd.wds n); rwa [Jl] at this
theorem Zbf (n m : Nat) : (wds (n * m)).length ≤ (wds n).length + (wds m).length :=
 Zef (by rw [Nat.pow_add]; exact Nat.mul_lt_mul'' (Zcm n) (Zcm m))
theorem Zn6 (n m : Nat) : (wds (n + m)).length ≤ max (wds n).length (wds m).length + 1 := Zef (by
 have h1 := Zcm n
 have h2 := Zcm m
 have h3 : 4294967296 ^ (wds n).length ≤ 4294967296 ^ max (wds n).length (wds m).length := Nat.pow_le_pow_right dd oo
 have h4 : 4294967296 ^ (wds m).length ≤ 4294967296 ^ max (wds n).length (wds m).length := Nat.pow_le_pow_right dd oo
 rw [Nat.pow_succ]; omega)
theorem Zb8 (x y : Int) : Zap (x * y) ≤ Zap x + Zap y := by unfold Zap; rw [Int.natAbs_mul]; exact Zbf _ _
theorem Zld (x y : Int) : Zap (x + y) ≤ max (Zap x) (Zap y) + 1 := by
 unfold Zap; exact Nat.le_trans (Yy (Int.natAbs_add_le x y)) (Zn6 _ _)
theorem Zen (n : Int) (d : Nat) (hd : d ≠ 0) : Zu (mkRat n d) ≤ max (Zap n) (wds d).length := by
 obtain ⟨h1, h2⟩ := Zij n d hd
 unfold Zu Zap
 rw [h1, h2, Zkw]
 have a1 := Yy (Nat.div_le_self n.natAbs (n.natAbs.gcd d))
 have a2 := Yy (Nat.div_le_self d (n.natAbs.gcd d))
 omega
theorem Qo (a b : Rat) : Zu (a + b) ≤ Zu a + Zu b + 1 := by
 rw [Rat.add_def']
 have h := Zen (a.num * b.den + b.num * a.den) (a.den * b.den) (Nat.mul_ne_zero a.den_nz b.den_nz)
 have h1 := Zld (a.num * b.den) (b.num * a.den)
 have h2 := Zb8 a.num b.den
 have h3 := Zb8 b.num a.den
 have h4 := Zbf a.den b.den
 have e1 : Zap (a.den : Int) = (wds a.den).length := rfl
 have e2 : Zap (b.den : Int) = (wds b.den).length := rfl
 unfold Zu at h ⊢
 omega
theorem Zm (a b : Rat) : Zu (a * b) ≤ Zu a + Zu b := by
 rw [Rat.mul_def']
 have h := Zen (a.num * b.num) (a.den * b.den) (Nat.mul_ne_zero a.den_nz b.den_nz)
 have h2 := Zb8 a.num b.num
 have h4 := Zbf a.den b.den
 unfold Zu at h ⊢
 omega
theorem Zq9 {a b : Rat} (h : a.den = b.den) : mkRat (a.num + b.num) a.den = a + b := by
 rw [Rat.add_def', ← h, ← Int.add_mul, Rat.mkRat_mul_right a.den_nz]
theorem Zws {a b : Rat} (ha : a.den = 1) (hb : b.den = 1) : ((a.num + b.num : Int) : Rat) = a + b := by
 rw [← Zq9 (a := a) (b := b) oo, ha, Rat.mkRat_one]
theorem Zu4 {a b : Rat} (ha : a.den = 1) (hb : b.den = 1) : ((a.num * b.num : Int) : Rat) = a * b := by
 rw [Rat.mul_def', ha, hb, Nat.mul_one, Rat.mkRat_one]
theorem Ziv (y : Rat) (hy : y ≠ 0) : mkRat (sgZ (decide (y.num.sign < 0)) y.den) y.num.natAbs = y⁻¹ := by
 rw [Rat.inv_def]
 have h0 : y.num ≠ 0 := fun h => hy (Rat.num_eq_zero.1 h)
 unfold sgZ
 generalize y.num = m at *
 rcases Int.lt_or_gt_of_ne h0 with h | h
 ·
  have h2 : m.sign < 0 := by rw [Int.sign_eq_neg_one_of_neg h]; decide
  simp only [h2, decide_true, if_true]
  obtain ⟨k, rfl⟩ : ∃ k : Nat, m = -(k : Int) := ⟨m.natAbs, oo⟩
  have e : Rat.divInt (y.den : Int) (-(k : Int)) = Rat.divInt (-(y.den : Int)) (k : Int) := by
   have := Rat.neg_divInt_neg (-(y.den : Int)) (k : Int)
   rwa [Int.neg_neg] at this
  rw [e, Rat.divInt_ofNat, Int.natAbs_neg, Int.natAbs_natCast]
 ·
  have h2 : ¬ m.sign < 0 := by rw [Int.sign_eq_one_of_pos h]; decide
  simp only [h2, decide_false, Bool.false_eq_true, if_false]
  obtain ⟨k, rfl⟩ : ∃ k : Nat, m = (k : Int) := ⟨m.natAbs, oo⟩
  rw [Rat.divInt_ofNat, Int.natAbs_natCast]
theorem Zug (x : Int) (w : World) : (Op.unary .neg (.int .u64 x)).run Tryz.prog w = .ok (.int .u64 (IntKind.u64.wrap (0 - x))) w := by simp [Op.unary, Op.intArith]
theorem C_ZOf (n : Int) (h0 : -9223372036854775808 ≤ n) (h1 : n ≤ 9223372036854775807) : Xm Tryz.prog 71 [.int .i64 n] (encZ n) := by
 refine fn_intro func71 rfl ntmps71 nb ?_
 intro S w0 a hS h
 refine gC h (zS (zz zeroValue39 fun b2 => zn (zs (zS (zm rfl (zp (.lss rfl rfl) (zn ?_))))))); clear h; intro a w h
 refine cW ?_
 refine Zg h rfl (fun hc4 => ?_) (fun hc4 => ?_)
 ·
  skip
  have hn : n < 0 := of_decide_eq_true hc4
  refine gC h (zS (zm rfl (zp (.convert rfl (Zwa _)) (zp (.unOp rfl (fun w => by rw [Zug, Zbx, Zbx, show (0 - n % 18446744073709551616) % 18446744073709551616 = ((n.natAbs : Nat) : Int) by omega])) (zv [_] rfl call120 (C_Of n.natAbs oo) (zv [_, _] rfl call121 (Zec true n.natAbs) (zt' rfl rfl Qt uu sizeOf39 rfl nb rfl ?_))))))); clear h; intro a w h
  refine wpList_nil (wp_ret ?_)
  refine Xd h (Zk h rfl (.cell rfl mr isAgg39 sizeOf39 Qa)) ?_
  rw [show sgZ true n.natAbs = n from by unfold sgZ; simp; omega]
 ·
  skip
  have hn : ¬ n < 0 := of_decide_eq_false hc4
  refine gC h (zk (zS (zm rfl (zp (Pure1.cast (v' := .int .u64 ((n.natAbs : Nat) : Int)) (.convert rfl (Zwa _)) (by rw [Zbx]; congr 1; omega)) (zv [_] rfl call120 (C_Of n.natAbs oo) (zv [_, _] rfl call121 (Zec false n.natAbs) (zt' rfl rfl Qt uu sizeOf39 rfl nb rfl ?_))))))); clear h; intro a w h
  refine wpList_nil (wp_ret ?_)
  refine Xd h (Zk h rfl (.cell rfl mr isAgg39 sizeOf39 Qa)) ?_
  rw [show sgZ false n.natAbs = n from by unfold sgZ; simp; omega]
theorem Zph (n : Int) : Xm Tryz.prog 64 [encZ n] (Zr (n : Rat)) := by
 refine fn_intro func64 rfl ntmps64 nb ?_
 intro S w0 a hS h
 refine gC h (zS (zx rfl fun b1 => zz zeroValue41 fun b2 => zn (zS (zd rfl mr isAgg39 sizeOf39 Qa ?_))))
 refine zp (.build [(_, _)] rfl (Qcr _ _ _)) (zt' rfl rfl Zp uu sizeOf41 rfl nb rfl ?_); intro a w h
 refine wpList_nil (wp_ret ?_)
 refine Xd h (Zk h rfl (.cell rfl mr isAgg41 sizeOf41 Zh)) ?_
 rfl
theorem Zjl (x : Rat) : Xm Tryz.prog 63 [Zr x] (.bool (decide (x.den = 1))) := by
 refine fn_intro func63 rfl ntmps63 nb ?_
 intro S w0 a hS h
 refine gC h (zS (zx rfl fun b1 => za rfl (zn (zS (zp (.fA rfl Zd3) (zd rfl mr isAgg35 sizeOf35 Zb2 ?_))))))
 refine zp (Pure1.cast (v' := Vw 0) (.build [] rfl (Zlw)) (by rfl)) (zp (.binOp rfl rfl (fun _ => Zkz _ _ (x.den - 1) 0 _)) (za rfl (zn (zt ?_)))); intro a w h
 refine Xd h (Zk h rfl (.tmp rfl)) ?_
 have := x.den_pos; show Value.bool _ = Value.bool _; congr 1; apply decide_eq_decide.2; omega
theorem Znv (x : Rat) (h0 : (wds x.den).length ≤ 400000000000) : Xm Tryz.prog 68 [Zr x] (Vw x.den) := by
 refine fn_intro func68 rfl ntmps68 nb ?_
 intro S w0 a hS h
 refine gC h (zS (zx rfl fun b1 => zz zeroValue35 fun b2 => zn (zs (yD Za [0, 1, 2, 3, 4] (Zd kk) (yp rfl (.fA rfl Zd3) (yd rfl rfl mr isAgg35 sizeOf35 Zb2 ?_)))))); clear h
 refine yv [_] rfl rfl call120 (C_Of 1 dd) (yv [_, _] rfl rfl call125 (C_Add (x.den - 1) 1 (Nat.le_trans (Yy (Nat.sub_le _ _)) oo) (Nat.le_trans (Gj dd) dd)) (yt rfl rfl rfl Qv uu sizeOf35 rfl nb rfl ?_))
 refine yn (zt ?_); intro a w h
 refine Xd h (Zk h rfl (.cell rfl mr isAgg35 sizeOf35 Zz)) ?_
 rw [Nat.sub_add_cancel x.den_pos]
theorem Zhw (x : Rat) (h0 : (wds x.den).length ≤ 400000000000) : Xm Tryz.prog 106 [Zr x] (encZ (x.den : Int)) := by
 refine fn_intro func106 rfl ntmps106 nb ?_
 intro S w0 a hS h
 refine gC h (zS (zx rfl fun b1 => zz zeroValue39 fun b2 => zn (zS (zd rfl mr isAgg41 sizeOf41 Zh ?_))))
 refine zv [_] rfl call68 (Znv x h0) (zv [_, _] rfl call121 (Zec false x.den) (zt' rfl rfl Qt uu sizeOf39 rfl nb rfl ?_)); intro a w h
 refine wpList_nil (wp_ret ?_)
 refine Xd h (Zk h rfl (.cell rfl mr isAgg39 sizeOf39 Qa)) ?_
 rfl
theorem Zhx (n : Int) (d : Nat) (hd : d ≠ 0) (hn : Zap n ≤ 400000000000) (hdl : (wds d).length ≤ 400000000000) : Xm Tryz.prog 66 [encZ n, Vw d] (Zr (mkRat n d)) := by
 unfold Zap at hn
 have hg0 : n.natAbs.gcd d ≠ 0 := fun h => hd (Nat.gcd_eq_zero_iff.1 h).2
 have hgl : (wds (n.natAbs.gcd d)).length ≤ 400000000000 := Nat.le_trans (Yy (Nat.gcd_le_right _ (Nat.pos_of_ne_zero hd))) hdl
 have hq : 1 ≤ d / n.natAbs.gcd d := Nat.div_pos (Nat.gcd_le_right _ (Nat.pos_of_ne_zero hd)) (Nat.pos_of_ne_zero hg0)
 have hql : (wds (d / n.natAbs.gcd d)).length ≤ 400000000000 := Nat.le_trans (Yy (Nat.div_le_self _ _)) hdl
 obtain ⟨hm1, hm2⟩ := Zij n d hd
 refine fn_intro func66 rfl ntmps66 nb ?_
 intro S w0 a hS h
 refine gC h (zS (zx rfl fun b2 => zx rfl fun b3 => zz zeroValue41 fun b4 => zn (zs (yD Za [0, 2, 1, 3, 4, 5] (Qs ⟨.inl rfl, .inl rfl, .inl rfl, .inl rfl, .inr ⟨5, 35, _, _, _, rfl, rfl, by decide, _, zeroValue35⟩, .inl rfl, trivial⟩) (yd rfl rfl mr isAgg39 sizeOf39 Qa ?_))))); clear h
 refine yd rfl rfl mr isAgg35 sizeOf35 Zz ?_
 refine yv [_] rfl rfl call117 (Zrg n) (yv [_, _] rfl rfl call116 (C_Gcd _ _ oo oo) (yz rfl zeroValue35 fun b5 => yt rfl rfl rfl Qv uu sizeOf35 rfl nb rfl ?_))
 refine yn (zs (yD Za [0, 2, 1, 3, 4, 5, 6, 7, 8, 9, 10, 11, 12] (Qs ⟨.inl rfl, .inl rfl, .inl rfl, .inl rfl, .inl rfl, .inl rfl, .inl rfl, .inl rfl, .inr ⟨6, 35, _, _, _, rfl, rfl, by decide, _, zeroValue35⟩, .inr ⟨7, 35, _, _, _, rfl, rfl, by decide, _, zeroValue35⟩, .inl rfl, .inl rfl, .inl rfl, trivial⟩) (yd rfl rfl mr isAgg39 sizeOf39 Qa ?_)))
 refine yd rfl rfl mr isAgg35 sizeOf35 Zz ?_
 refine yv [_] rfl rfl call117 (Zrg n) (yv [_, _] rfl rfl call118 (Qdz n.natAbs (n.natAbs.gcd d) oo oo hg0) (ym rfl rfl (yp rfl (.eX rfl) (yp rfl (.eX rfl) (yp rfl (.eX rfl) (yz rfl zeroValue35 fun b6 => yz rfl zeroValue35 fun b7 => yt rfl rfl rfl Qv uu sizeOf35 rfl nb rfl ?_))))))
 refine yt rfl rfl rfl Qv uu sizeOf35 rfl nb rfl ?_
 refine yp rfl (.assign rfl) (yn (zS (zd rfl mr isAgg35 sizeOf35 Zz ?_)))
 refine zd rfl mr isAgg35 sizeOf35 Zz ?_
 refine zv [_, _] rfl call118 (Qdz d (n.natAbs.gcd d) oo oo hg0) (zm rfl (zp (.eX rfl) (zp (.eX rfl) (zp (.eX rfl) (zz zeroValue35 fun b9 => zz zeroValue35 fun b10 => zt' rfl rfl Qv uu sizeOf35 rfl nb rfl ?_)))))
 refine zt' rfl rfl Qv uu sizeOf35 rfl nb rfl ?_; intro a w h
 refine gL h (za rfl (zn (zs (yD Za [0, 1, 2, 3, 4, 5, 6] (Zd kk) (yd rfl rfl mr isAgg35 sizeOf35 Zz ?_))))); clear h
 refine yv [_] rfl rfl call120 (C_Of 1 dd) (yv [_, _] rfl rfl call119 (Qdg _ 1 oo (Nat.le_trans (Gj dd) dd)) (ym rfl rfl (yp rfl (.eX rfl) (yp rfl (.eX rfl) (yt rfl rfl rfl Qv uu sizeOf35 rfl nb rfl ?_)))))
 refine yn (zs (yD Za [0, 3, 5, 1, 2, 4, 6, 7] (Zd kk) (yd rfl rfl mr isAgg39 sizeOf39 Qa ?_)))
 refine yd rfl rfl mr isAgg35 sizeOf35 Zz ?_
 refine yd rfl rfl mr isAgg35 sizeOf35 Zz ?_
 refine yv [_] rfl rfl call75 (Zpk n) (yp rfl (.lss rfl rfl) (yv [_, _] rfl rfl call121 (Zec _ _) (yp rfl (.build [(_, _), (_, _)] rfl (Zje _ _ _ _ _)) (yt rfl rfl rfl Zp uu sizeOf41 rfl nb rfl ?_))))
 refine yn (zt ?_); intro a w h
 refine Xd h (Zk h rfl (.cell rfl mr isAgg41 sizeOf41 Zh)) ?_
 rw [Zr, hm1, hm2]
theorem Vu (x y : Rat) (ha : Zu x ≤ 100000000000) (hb : Zu y ≤ 100000000000) : Xm Tryz.prog 49 [Zr x, Zr y] (Zr (x + y)) := by
 obtain ⟨ha1, ha2⟩ := Zdy ha
 obtain ⟨hb1, hb2⟩ := Zdy hb
 have hm1 := Zb8 x.num (y.den : Int)
 have hm2 := Zb8 y.num (x.den : Int)
 have hs := Zld (x.num * (y.den : Int)) (y.num * (x.den : Int))
 have hs2 := Zld x.num y.num
 have hda : Zap (x.den : Int) = (wds x.den).length := rfl
 have hdb : Zap (y.den : Int) = (wds y.den).length := rfl
 have hdm := Zbf x.den y.den
 have hpa := x.den_pos
 have hpb := y.den_pos
 refine fn_intro func49 rfl ntmps49 nb ?_
 intro S w0 a hS h
 refine gC h (zS (zx rfl fun b2 => zx rfl fun b3 => zz zeroValue41 fun b4 => zn (zs (zb (zS (zd rfl mr isAgg41 sizeOf41 Zh ?_))))))
 refine zv [_] rfl call63 (Zjl x) (zm rfl ?_); intro a w h
 refine Qp h (fun hc8 h => ?_) (fun hc8 h => ?_)
 focus
  have hwa : x.den = 1 := of_decide_eq_true hc8
  refine Zt 8 h rfl rfl (Qd h rfl mr isAgg41 sizeOf41 Zh dd ?_); clear h; intro a h
  refine Zt 8 h rfl rfl (Zay h (vs := [_]) rfl call63 (Zjl y) dd ?_); clear h; intro a w h
  refine Qp h (fun hc10 h => ?_) (fun hc10 h => ?_)
  ·
   skip
   have hwb : y.den = 1 := of_decide_eq_true hc10
   refine gL h (zp (.pickT rfl rfl) (za rfl (zn ?_))); clear h; intro a w h
   refine cW ?_
   refine Zi h rfl ?_
   refine gC h (zS (zp (.fA rfl Yv) (zd rfl mr isAgg39 sizeOf39 Xx ?_)))
   refine zp (.fA rfl Yv) (zd rfl mr isAgg39 sizeOf39 Xx ?_)
   refine zv [_, _] rfl call105 (Zw8 _ _ oo oo) (zv [_] rfl call64 (Zph _) (zt' rfl rfl Zp uu sizeOf41 rfl nb rfl ?_)); intro a w h
   refine wpList_nil (wp_ret ?_)
   refine Xd h (Zk h rfl (.cell rfl mr isAgg41 sizeOf41 Zh)) ?_
   rw [show ((x.num + y.num : Int) : Rat) = x + y from Zws hwa hwb]
  have hwb : y.den ≠ 1 := of_decide_eq_false hc10
  refine gL h (zp (.pickT rfl rfl) (za rfl (zn ?_))); clear h; intro a w h
 rotate_left
 focus
  have hwa : x.den ≠ 1 := of_decide_eq_false hc8
  refine gL h (zo 8 rfl rfl rfl (zo 8 rfl rfl rfl (zp (.pickF rfl rfl) (za rfl (zn ?_))))); clear h; intro a w h
 all_goals
  refine cW ?_
  refine Zf h rfl ?_
  refine gC h (zS (zp (.fA rfl Zd3) (zd rfl mr isAgg35 sizeOf35 Zb2 ?_)))
  refine zp (.fA rfl Zd3) (zd rfl mr isAgg35 sizeOf35 Zb2 ?_)
  refine zp (.binOp rfl rfl (fun _ => Zkz _ _ (x.den - 1) (y.den - 1) _)) ?_; intro a w h
  refine Qp h (fun hc23 h => ?_) (fun hc23 h => ?_)
  ·
   skip
   have hde : x.den = y.den := dT hc23
   refine gL h (za rfl (zn ?_)); clear h; intro a w h
   refine cW ?_
   refine Zi h rfl ?_
   refine gC h (zs (yD Za [0, 1, 2, 3, 5, 4, 6, 7, 8] (Zd kk) (yp rfl (.fA rfl Yv) (yd rfl rfl mr isAgg39 sizeOf39 Xx ?_)))); clear h
   refine yp rfl (.fA rfl Yv) (yd rfl rfl mr isAgg39 sizeOf39 Xx ?_)
   refine yd rfl rfl mr isAgg41 sizeOf41 Zh ?_
   refine yv [_, _] rfl rfl call105 (Zw8 _ _ oo oo) (yv [_] rfl rfl call68 (Znv x oo) (yv [_, _] rfl rfl call66 (Zhx _ _ oo oo oo) (yt rfl rfl rfl Zp uu sizeOf41 rfl nb rfl ?_)))
   refine yn (zt ?_); intro a w h
   refine Xd h (Zk h rfl (.cell rfl mr isAgg41 sizeOf41 Zh)) ?_
   rw [show mkRat (x.num + y.num) x.den = x + y from Zq9 hde]
  ·
   skip
   have hde : x.den ≠ y.den := dF hc23
   refine gL h (za rfl (zn ?_)); clear h; intro a w h
   refine cW ?_
   refine Zf h rfl ?_
   refine gC h (zk (zs (yD Za [0, 1, 2, 5, 6, 7, 11, 13, 3, 4, 8, 9, 10, 12, 14, 15, 16, 17] (Zd kk) (yp rfl (.fA rfl Yv) (yd rfl rfl mr isAgg39 sizeOf39 Xx ?_))))); clear h
   refine yd rfl rfl mr isAgg41 sizeOf41 Zh ?_
   refine yp rfl (.fA rfl Yv) (yd rfl rfl mr isAgg39 sizeOf39 Xx ?_)
   refine yd rfl rfl mr isAgg41 sizeOf41 Zh ?_
   refine yd rfl rfl mr isAgg41 sizeOf41 Zh ?_
   refine yd rfl rfl mr isAgg41 sizeOf41 Zh ?_
   refine yv [_] rfl rfl call106 (Zhw y oo) (yv [_, _] rfl rfl call65 (Zkp _ _ oo oo) (yv [_] rfl rfl call106 (Zhw x oo) (yv [_, _] rfl rfl call65 (Zkp _ _ oo oo) (yv [_, _] rfl rfl call105 (Zw8 _ _ oo oo) (yv [_] rfl rfl call68 (Znv x oo) (yv [_] rfl rfl call68 (Znv y oo) (yv [_, _] rfl rfl call67 (Qdp _ _ oo oo) (yv [_, _] rfl rfl call66 (Zhx _ _ (Nat.mul_ne_zero oo oo) oo oo) (yt rfl rfl rfl Zp uu sizeOf41 rfl nb rfl ?_)))))))))
   refine yn (zt ?_); intro a w h
   refine Xd h (Zk h rfl (.cell rfl mr isAgg41 sizeOf41 Zh)) ?_
   rw [Rat.add_def']
theorem Jc (x y : Rat) (ha : Zu x ≤ 100000000000) (hb : Zu y ≤ 100000000000) : Xm Tryz.prog 18 [Zr x, Zr y] (Zr (x * y)) := by
 obtain ⟨ha1, ha2⟩ := Zdy ha
 obtain ⟨hb1, hb2⟩ := Zdy hb
 have hm1 := Zb8 x.num y.num
 have hdm := Zbf x.den y.den
 have hpa := x.den_pos
 have hpb := y.den_pos
 refine fn_intro func18 rfl ntmps18 nb ?_
 intro S w0 a hS h
 refine gC h (zS (zx rfl fun b2 => zx rfl fun b3 => zz zeroValue41 fun b4 => zn (zs (zS (zd rfl mr isAgg41 sizeOf41 Zh ?_)))))
 refine zv [_] rfl call63 (Zjl x) (zm rfl ?_); intro a w h
 refine Qp h (fun hc7 h => ?_) (fun hc7 h => ?_)
 focus
  have hwa : x.den = 1 := of_decide_eq_true hc7
  refine Zt 7 h rfl rfl (Qd h rfl mr isAgg41 sizeOf41 Zh dd ?_); clear h; intro a h
  refine Zt 7 h rfl rfl (Zay h (vs := [_]) rfl call63 (Zjl y) dd ?_); clear h; intro a w h
  refine Qp h (fun hc9 h => ?_) (fun hc9 h => ?_)
  ·
   skip
   have hwb : y.den = 1 := of_decide_eq_true hc9
   refine gL h (zp (.pickT rfl rfl) (zn ?_)); clear h; intro a w h
   refine cW ?_
   refine Zi h rfl ?_
   refine gC h (zS (zp (.fA rfl Yv) (zd rfl mr isAgg39 sizeOf39 Xx ?_)))
   refine zp (.fA rfl Yv) (zd rfl mr isAgg39 sizeOf39 Xx ?_)
   refine zv [_, _] rfl call65 (Zkp _ _ oo oo) (zv [_] rfl call64 (Zph _) (zt' rfl rfl Zp uu sizeOf41 rfl nb rfl ?_)); intro a w h
   refine wpList_nil (wp_ret ?_)
   refine Xd h (Zk h rfl (.cell rfl mr isAgg41 sizeOf41 Zh)) ?_
   rw [show ((x.num * y.num : Int) : Rat) = x * y from Zu4 hwa hwb]
  refine gL h (zp (.pickT rfl rfl) (zn ?_)); clear h; intro a w h
 rotate_left
 focus
  refine gL h (zo 7 rfl rfl rfl (zo 7 rfl rfl rfl (zp (.pickF rfl rfl) (zn ?_)))); clear h; intro a w h
 all_goals
  refine cW ?_
  refine Zf h rfl ?_
  refine gC h (zk (zs (yD Za [0, 1, 2, 3, 5, 7, 4, 6, 8, 9, 10, 11] (Zd kk) (yp rfl (.fA rfl Yv) (yd rfl rfl mr isAgg39 sizeOf39 Xx ?_))))); clear h
  refine yp rfl (.fA rfl Yv) (yd rfl rfl mr isAgg39 sizeOf39 Xx ?_)
  refine yd rfl rfl mr isAgg41 sizeOf41 Zh ?_
  refine yd rfl rfl mr isAgg41 sizeOf41 Zh ?_
  refine yv [_, _] rfl rfl call65 (Zkp _ _ oo oo) (yv [_] rfl rfl call68 (Znv x oo) (yv [_] rfl rfl call68 (Znv y oo) (yv [_, _] rfl rfl call67 (Qdp _ _ oo oo) (yv [_, _] rfl rfl call66 (Zhx _ _ (Nat.mul_ne_zero oo oo) oo oo) (yt rfl rfl rfl Zp uu sizeOf41 rfl nb rfl ?_)))))
  refine yn (zt ?_); intro a w h
  refine Xd h (Zk h rfl (.cell rfl mr isAgg41 sizeOf41 Zh)) ?_
  rw [Rat.mul_def']
theorem Zeb (x : Rat) : Xm Tryz.prog 23 [Zr x] (.int .i64 x.num.sign) := by
 refine fn_intro func23 rfl ntmps23 nb ?_
 intro S w0 a hS h
 refine gC h (zS (zx rfl fun b1 => za rfl (zn (zS (zp (.fA rfl Yv) (zd rfl mr isAgg39 sizeOf39 Xx ?_))))))
 refine zv [_] rfl call75 (Zpk x.num) (za rfl (zn (zt ?_))); intro a w h
 exact Zdj h
theorem Ye (n : Int) (h0 : -9223372036854775808 ≤ n) (h1 : n ≤ 9223372036854775807) : Xm Tryz.prog 21 [.int .i64 n] (Zr (n : Rat)) := by
 refine fn_intro func21 rfl ntmps21 nb ?_
 intro S w0 a hS h
 refine gC h (zS (zz zeroValue41 fun b2 => zn (zS (zm rfl (zv [_] rfl call71 (C_ZOf n h0 h1) (zv [_] rfl call64 (Zph n) (zt' rfl rfl Zp uu sizeOf41 rfl nb rfl ?_))))))); clear h; intro a w h
 refine wpList_nil (wp_ret ?_)
 refine Xd h (Zk h rfl (.cell rfl mr isAgg41 sizeOf41 Zh)) ?_
 rfl
theorem C_inv (y : Rat) (hy : y ≠ 0) (h1 : Zap (sgZ (decide (y.num.sign < 0)) y.den) ≤ 400000000000) (h2 : (wds y.num.natAbs).length ≤ 400000000000) :
  Xm Tryz.prog 66 [encZ (sgZ (decide (y.num.sign < 0)) y.den), Vw y.num.natAbs] (Zr y⁻¹) := by
 rw [← Ziv y hy]
 exact Zhx _ _ (fun h => hy (Rat.num_eq_zero.1 (Int.natAbs_eq_zero.1 h))) h1 h2
theorem Zdi (x y : Rat) (hy : y ≠ 0) (hx : Zu x ≤ 100000000000) (hyl : Zu y ≤ 100000000000) : Xm Tryz.prog 91 [Zr x, Zr y] (.tuple #[Zr (x / y), .int .i64 0]) := by
 obtain ⟨hb1, hb2⟩ := Zdy hyl
 have h0 : y.num ≠ 0 := fun h => hy (Rat.num_eq_zero.1 h)
 have hs : Zap (sgZ (decide (y.num.sign < 0)) y.den) = (wds y.den).length := by unfold Zap; rw [Zkw]
 have hz : (wds y.num.natAbs).length = Zap y.num := rfl
 have hinv := Zen (sgZ (decide (y.num.sign < 0)) y.den) y.num.natAbs oo
 rw [Ziv y hy] at hinv
 refine fn_intro func91 rfl ntmps91 nb ?_
 intro S w0 a hS h
 refine gC h (zS (zx rfl fun b2 => zx rfl fun b3 => zz zeroValue41 fun b4 => za rfl (zn (zs (zS (zd rfl mr isAgg41 sizeOf41 Zh ?_))))))
 refine zv [_] rfl call23 (Zeb y) (zp (.eql rfl rfl) (zn ?_)); intro a w h
 refine cW ?_
 refine Zg h rfl (fun hc9 => (by exfalso; have := eq_of_beq hc9; exact h0 (Int.sign_eq_zero_iff_zero.1 this))) (fun hc9 => ?_)
 refine gC h (zk (zs (yD Za [0, 3, 6, 7, 1, 2, 4, 5, 8, 9, 10, 11] (Qs ⟨.inl rfl, .inl rfl, .inl rfl, .inl rfl, .inl rfl, .inl rfl, .inl rfl, .inl rfl, .inl rfl, .inl rfl, .inr ⟨6, 41, _, _, _, rfl, rfl, by decide, _, zeroValue41⟩, .inl rfl, trivial⟩) (yd rfl rfl mr isAgg41 sizeOf41 Zh ?_)))); clear h
 refine yd rfl rfl mr isAgg41 sizeOf41 Zh ?_
 refine yp rfl (.fA rfl Yv) (yd rfl rfl mr isAgg39 sizeOf39 Xx ?_)
 refine yv [_] rfl rfl call23 (Zeb y) (yp rfl (.lss rfl rfl) (yv [_] rfl rfl call68 (Znv y oo) (yv [_, _] rfl rfl call121 (Zec _ _) (yv [_] rfl rfl call117 (Zrg y.num) (yv [_, _] rfl rfl call66 (C_inv y hy oo oo) (yz rfl zeroValue41 fun b6 => yt rfl rfl rfl Zp uu sizeOf41 rfl nb rfl ?_))))))
 refine yn (zS (zd rfl mr isAgg41 sizeOf41 Zh ?_))
 refine zd rfl mr isAgg41 sizeOf41 Zh ?_
 refine zv [_, _] rfl call18 (Jc x y⁻¹ hx oo) (zt' rfl rfl Zp uu sizeOf41 rfl nb rfl ?_)
 refine za rfl (zn (zt ?_)); intro a w h
 refine Xd h (Qq h rfl (.cell rfl mr isAgg41 sizeOf41 Zh) (.tmp rfl)) ?_
 rw [Rat.div_def]
end
end Go.Proofs.YthcjdeklpegceaaGreatDoor
