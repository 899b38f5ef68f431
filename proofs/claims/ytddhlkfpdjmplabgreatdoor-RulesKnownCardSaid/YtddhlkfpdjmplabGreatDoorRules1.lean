/- Walks of functions. By an AI agent. -/
import Derived.Test.YtddhlkfpdjmplabGreatDoorProg
import Derived.Test.YtddhlkfpdjmplabGreatDoorFxZ
import Derived.Test.YtddhlkfpdjmplabGreatDoorFxS
import Derived.Test.YtddhlkfpdjmplabGreatDoorNumW
import Derived.Test.YtddhlkfpdjmplabGreatDoorNumD
import Derived.Test.YtddhlkfpdjmplabGreatDoorNumK
import Derived.Test.YtddhlkfpdjmplabGreatDoorFxB
import Derived.Test.YtddhlkfpdjmplabGreatDoorFxC
set_option linter.unusedVariables false
set_option linter.unusedSimpArgs false
set_option maxRecDepth 4000
namespace Go.Proofs.YtddhlkfpdjmplabGreatDoor
open Go Go.Proofs Go.Fx Tryz
attribute [local irreducible] Oper.wp Code.wp wpList Fx.Head wpOp
section
theorem Zr (a : Option Addr) (n c : Nat) (w : World) (ty : TypeId) (cs : Array Bool) : (Go.builtin .len #[197] ty cs #[.slice a n c]).run Tryz.prog w = .ok (.value (.int .i64 n)) w := by
 simp [go_sem]
theorem Jj (b off n c j : Nat) (h : j < n) (w : World) : (Instr.indexAt 197 (.slice (some ⟨b, off, none⟩) n c) (.int .i64 (j : Int))).run Tryz.prog w = .ok (.pointer (some ⟨b, off + j, none⟩)) w := by
 simpa using Je runUnderlying197 sizeOf22 b off n c j h w
theorem Zvv (a : Option Addr) (n c j : Nat) (h : j ≤ c) (w : World) : (Instr.sliceAt 197 (.slice a n c) none (some (.int .i64 (j : Int))) none).run Tryz.prog w = .ok (.slice a j c) w := by
 exact Zd4 runUnderlying197 sizeOf22 a n c j h w
theorem Ku {b off : Nat} (w : World) : (Instr.fieldAt 58 (.pointer (some ⟨b, off, none⟩)) 1).run Tryz.prog w = .ok (.pointer (some ⟨b, off + 1, none⟩)) w := by
 simp [go_sem]
theorem Qi {c0 c1 : Value} : Qv false 1 #[c0, c1] 1 = some c1 := rfl
theorem Vn {b off : Nat} (w : World) : (Instr.fieldAt 58 (.pointer (some ⟨b, off, none⟩)) 0).run Tryz.prog w = .ok (.pointer (some ⟨b, off + 0, none⟩)) w := by
 simp [go_sem]
theorem Ql {c0 c1 : Value} : Qv false 1 #[c0, c1] 0 = some c0 := rfl
theorem Yt (x : Int) (w : World) : (Go.convert 56 22 (.int .u64 x)).run Tryz.prog w = .ok (.int .u32 (IntKind.u32.wrap x)) w := by
 simp [go_sem]
theorem Zov (x0 : Int) (x1 : Int) (w : World) : (Instr.buildSlice 197 2 [(0, .int .u32 x0), (1, .int .u32 x1)].toArray).run Tryz.prog w = .ok (.slice (some ⟨w.heap.size, 0, none⟩) 2 2) (w.alloc (.cells #[.int .u32 x0, .int .u32 x1] 22 (0, 0))) := by
 simp [go_sem]
theorem Zhs (x : ByteArray) (w : World) (ty : TypeId) (cs : Array Bool) : (Go.builtin .len #[9] ty cs #[.string x]).run Tryz.prog w = .ok (.value (.int .i64 x.size)) w := by
 simp [go_sem]
theorem Qev (x : Int) (w : World) : (Go.convert 5 22 (.int .u8 x)).run Tryz.prog w = .ok (.int .u32 (IntKind.u32.wrap x)) w := by
 simp [go_sem]
theorem Zs6 (x : Int) (h0 : IntKind.u32.wrap x = x) (w : World) : (Go.convert 5 22 (.int .u8 x)).run Tryz.prog w = .ok (.int .u32 x) w := by
 rw [Qev, h0]
theorem Za : Tryz.prog.follows .mixedOrders = true := by kernel_rfl
theorem Yu (b : Bool) (w : World) : (Op.unary .not (.bool b)).run Tryz.prog w = .ok (.bool (!b)) w := by simp [go_sem]
theorem C_cut (ad : Option Addr) (c : Nat) (l : List Nat) (hw : Wd l) (hc : l.length ≤ c) (hs : l.length ≤ 1099511627776) :
  Ctr Tryz.prog 135 [.slice ad l.length c] [Row ad (Xd l)] (fun v Ψ => v = .slice ad (wds (Qd l)).length c ∧ Ψ = [Row ad (Xd (wds (Qd l)))]) := by
 refine fn_intro func135 rfl ntmps135 nb ?_
 intro S w0 a hS h
 refine gC h (zS (za rfl (zn (zs (zb ?_))))); clear h; intro a w h
 refine Zd (fun (m : Nat) a w => m ≤ l.length ∧ (∀ j, m ≤ j → j < l.length → l.getD j 0 = 0) ∧ St 21 S w0 [(0, .slice ad m c)] [] [Row ad (Xd l)] a w) (fun m => m) (l.length) (⟨Nat.le_refl _, fun j h1 h2 => absurd h2 oo, h.sub sA⟩) ?_; clear h
 rintro m a w ⟨hm, hz, h⟩
 refine gC h (zs (zS (zm rfl (zp (.builtin [_] rfl (Zr _ _ _)) (zp (.gtr rfl rfl) (zm rfl ?_)))))); clear h; intro a w h
 refine Zi h (fun hc6 h => ?_) (fun hc6 h => ?_)
 ·
  skip
  have hm0 : 0 < m := by simpa using hc6
  obtain ⟨b, off, had⟩ := h.row_addr List.mem_cons_self (by simp; intro e; subst e; simp at hm; omega)
  subst had
  refine gL h (zq 6 rfl rfl (.move rfl) (zq 6 rfl rfl (.move rfl) (zq 6 rfl rfl (.builtin [_] rfl (Zr _ _ _)) (zq 6 rfl rfl (.pO (m - 1) (.sub rfl rfl)) (zq 6 rfl rfl (.indexAddr rfl rfl (Jj _ _ _ _ _ oo)) ?_))))); clear h; intro a w h
  refine Zf 6 h rfl rfl (Zbe h rfl List.mem_cons_self (by simp; omega) isAgg22 sizeOf22 (Zy 0 oo) (.inr rfl) dd ?_); clear h; intro a h
  refine gL h (zq 6 rfl rfl (.eql rfl rfl) (zp (.pickT rfl rfl) (zn ?_))); clear h; intro a w h
  refine cW ?_
  refine Zb h rfl (fun hc14 => ?_) (fun hc14 => ?_)
  ·
   skip
   refine gC h (zk (zb (zr (zm rfl (zm rfl (zp (.builtin [_] rfl (Zr _ _ _)) (zp (.pO (m - 1) (.sub rfl rfl)) (zp (.slice rfl none (some _) none rfl rfl rfl (Zvv _ _ _ _ oo)) (za rfl (zn ?_)))))))))); clear h; intro a w h
   refine ⟨m - 1, ⟨oo, fun j h1 h2 => ?_, h.sub sA⟩, oo⟩
   by_cases hj : j = m - 1
   · subst hj; simpa using hc14
   · exact hz j oo h2
  ·
   skip
   refine gC h (ze (zS (zm rfl (za rfl (zn (zt ?_)))))); clear h; intro a w h
   have hcut := Zyc hw hm hz (.inr (by simpa using hc14))
   have hR : ∀ ad, Row ad (Xd (wds (Qd l))) = Row ad ((Xd l).take m) := by intro ad; rw [hcut, Xd, List.map_take]
   replace h := h.derive (R := Row _ (Xd (wds (Qd l)))) (fun X hX => by rw [hR]; exact Zf8 (hX _ List.mem_cons_self) m)
   have hl : m = (wds (Qd l)).length := by rw [hcut]; simp; omega
   refine Jm (Ψ := [Row _ (Xd (wds (Qd l)))]) h (Ze h rfl (.tmp rfl)) ⟨by rw [← hl], rfl⟩ ss
 ·
  skip
  refine gL h (zo 6 rfl rfl rfl (zo 6 rfl rfl rfl (zo 6 rfl rfl rfl (zo 6 rfl rfl rfl (zo 6 rfl rfl rfl (zo 6 rfl rfl rfl (zo 6 rfl rfl rfl (zp (.pickF rfl rfl) (zn ?_))))))))); clear h; intro a w h
  refine cW ?_
  refine Zn h rfl ?_
  refine gC h (ze (zS (zm rfl (za rfl (zn (zt ?_)))))); clear h; intro a w h
  have hcut := Zyc hw hm hz (.inl (by simpa using hc6))
  have hR : ∀ ad, Row ad (Xd (wds (Qd l))) = Row ad ((Xd l).take m) := by intro ad; rw [hcut, Xd, List.map_take]
  replace h := h.derive (R := Row _ (Xd (wds (Qd l)))) (fun X hX => by rw [hR]; exact Zf8 (hX _ List.mem_cons_self) m)
  have hl : m = (wds (Qd l)).length := by rw [hcut]; simp; omega
  refine Jm (Ψ := [Row _ (Xd (wds (Qd l)))]) h (Ze h rfl (.tmp rfl)) ⟨by rw [← hl], rfl⟩ ss
theorem Za2 (n : Nat) (hs : (wds n).length ≤ 1099511627776) :
  Ctr Tryz.prog 130 [Vt n] [] (fun v Ψ => ∃ ad c, v = .slice ad (wds n).length c ∧ (wds n).length ≤ c ∧ Ψ = [Row ad (Xd (wds n))]) := by
 refine fn_intro func130 rfl ntmps130 nb ?_
 intro S w0 a hS h
 refine gC h (zS (zx rfl fun b1 => za rfl (zn (zs (zS (zp (.fA rfl Ku) (zd rfl mr isAgg9 sizeOf9 Qi ?_)))))))
 refine zp (.binOp rfl rfl (fun _ => Kj _ _ _ _ _)) (zn ?_); intro a w h
 refine cW ?_
 refine Zb h rfl (fun hc8 => ?_) (fun hc8 => ?_)
 ·
  skip
  have hn : n < 18446744073709551616 := Jh.1 (by simpa using hc8)
  refine gC h (zS (zp (.fA rfl Vn) (zd rfl mr isAgg56 sizeOf56 Ql ?_)))
  refine zp (Pure1.cast (v' := .int .u32 ((n % 4294967296 : Nat) : Int)) (.convert rfl (Yt _)) (by rw [Qp hn, Js]; congr 1)) (zp (.fA rfl Vn) (zd rfl mr isAgg56 sizeOf56 Ql ?_))
  refine zp (.binOp rfl rfl (fun _ => by rw [Qp hn]; exact Va _ _ _ n 32 dd)) (zp (Pure1.cast (v' := .int .u32 ((n / 4294967296 : Nat) : Int)) (.convert rfl (Yt _)) (by rw [Js]; congr 1; omega)) (zB [(_, _), (_, _)] rfl (Zov _ _) fun b16 => ?_)); intro a w h
  replace h := h.shareAll hS (Xd [n % 4294967296, n / 4294967296]) rfl
  refine gL h (zf [_] rfl call135 (C_cut _ _ [n % 4294967296, n / 4294967296] (two_Wd n hn) ss ss) ?_); clear h; rintro v17 Ψ17 ⟨rfl, rfl⟩ a w h
  rw [Zvm n hn] at h
  refine gL h (za rfl (zn (zt ?_))); clear h; intro a w h
  refine Jm (Ψ := [Row _ (Xd (wds n))]) h (Ze h rfl (.tmp rfl)) ⟨_, _, rfl, Kw hn, rfl⟩ ss
 ·
  skip
  have hn : ¬ n < 18446744073709551616 := fun hn => by have := Jh.2 hn; simp [this] at hc8
  refine gC h (zk (zS (zp (.fA rfl Ku) (zd rfl mr isAgg9 sizeOf9 Qi ?_))))
  refine zp (.builtin [_] rfl (Zhs _)) (zp (Pure1.cast (v' := .int .i64 ((wds n).length : Int)) (.binOp rfl rfl (fun _ => Vx _ _ _ _ _ dd)) (by rw [Zep, if_neg hn]; rw [show ((4 : Int)) = ((4 : Nat) : Int) from rfl, Yn, wrap_i64 _ oo oo]; congr 1; omega)) ?_); intro a w h
  refine Zl (Xq h rfl rfl runUnderlying197 typeInfo22 sizeOf22 zeroValue22 rfl dd (Nat.le_refl _) (by show 4 * _ ≤ _; omega) oo dd ?_); clear h; intro b22 a w h
  rw [show (Value.int .u32 0).cells.toList = [Value.int .u32 0] from rfl, Zc7, show List.replicate (wds n).length (Value.int .u32 0) = Xd (Zb5 (wds n) 0 0) from by rw [Zkn]; simp] at h
  refine gL h (za rfl (zn (zs (zS (zm rfl (zp (.builtin [_] rfl (Zr _ _ _)) (zm rfl (zn (zb ?_))))))))); clear h; intro a w h
  refine Zd (fun (i : Nat) a w => i ≤ (wds n).length ∧ St 51 S w0 [(1, pB b1), (3, .slice (some ⟨b22, 0, none⟩) (wds n).length (wds n).length), (24, .int .i64 ((wds n).length : Int)), (25, .int .i64 (i : Int))] [(b22, .cells (Xd (Zb5 (wds n) i 0)).toArray 22 (0, 0)), (b1, .cells (Vt n).cells 58 (0, 0))] [] a w) (fun i => (wds n).length - i) (0) (⟨Nat.zero_le _, h.sub sA⟩) ?_; clear h
  rintro i a w ⟨hi, h⟩
  refine gC h (zS (zp (.lss rfl rfl) (zn (zs ?_)))); clear h; intro a w h
  refine Zb h rfl (fun hc26 => ?_) (fun hc26 => ?_)
  ·
   skip
   have hi' : i < (wds n).length := by simpa using hc26
   refine gC h (zk (zs (zb (zS (zm rfl (za rfl (zn (zS (zm rfl (zn (zb ?_))))))))))); clear h; intro a w h
   refine Zd (fun (k : Nat) a w => k ≤ 4 ∧ St 51 S w0 [(1, pB b1), (3, .slice (some ⟨b22, 0, none⟩) (wds n).length (wds n).length), (24, .int .i64 ((wds n).length : Int)), (25, .int .i64 (i : Int)), (4, .int .i64 (i : Int)), (28, .int .i64 (k : Int))] [(b22, .cells (Xd (Zb5 (wds n) i k)).toArray 22 (0, 0)), (b1, .cells (Vt n).cells 58 (0, 0))] [] a w) (fun k => 4 - k) (0) (⟨oo, h.sub sA⟩) ?_; clear h
   rintro k a w ⟨hk, h⟩
   refine gC h (zS (zp (.lss rfl rfl) (zn (zs ?_)))); clear h; intro a w h
   refine Zb h rfl (fun hc29 => ?_) (fun hc29 => ?_)
   ·
    skip
    have hk' : k < 4 := by simp at hc29; omega
    refine gC h (zk (zs (zb (zS (zm rfl (za rfl (zn (yD Za [0, 1, 2, 3, 4, 5, 6, 7, 8, 9, 10, 11, 12, 13, 14, 15, 16, 17] (Zc kk) (ym rfl rfl (ym rfl rfl (yp rfl (.indexAddr rfl rfl (Jj _ _ _ _ _ oo)) (yd rfl rfl (by repeat (first | exact List.Mem.head _ | apply List.Mem.tail)) isAgg22 sizeOf22 ((Zy 0 (by rw [Zca _ _ _ hi']; omega)).trans (by rw [Nat.zero_add, Znn _ _ _ hi'])) ?_)))))))))))); clear h
    refine yp rfl (.fA rfl Ku) (yd rfl rfl mr isAgg9 sizeOf9 Qi ?_)
    refine ym rfl rfl (yp rfl (.mul rfl rfl) (ym rfl rfl (yp rfl (.pN (4 * i + k) (.add rfl rfl)) (yp rfl (Pure1.cast (v' := .int .u8 (((wds n).getD i 0 / 256 ^ k % 256 : Nat) : Int)) (.index rfl rfl (fun _ => Zc6 runUnderlying9 _ _ (by rw [Zep, if_neg hn]; omega))) (by rw [Zow hn hi' hk'])) (yp rfl (.convert rfl (Zs6 _ (wrap_u32 _ oo oo))) (ym rfl rfl (yp rfl (.pN (8 * k) (.mul rfl rfl)) (yp rfl (Pure1.cast (v' := .int .u32 (((wds n).getD i 0 / 256 ^ k % 256 * 2 ^ (8 * k) : Nat) : Int)) (.binOp rfl rfl (fun _ => Zc4 _ _ _ _ _ (by show 8 * k ≤ 32; omega))) (by rw [wrap_u32 _ oo (by have := Zf5 ((wds n).getD i 0 / 256 ^ k) k hk'; omega)])) (yp rfl (Pure1.cast (v' := .int .u32 (((wds n).getD i 0 % 256 ^ (k + 1) : Nat) : Int)) (.binOp rfl rfl (fun _ => Zf6 rfl _ _ _ _ _ (Nat.lt_of_lt_of_le (Nat.mod_lt _ (Nat.pow_pos oo)) (Nat.le_trans (Nat.pow_le_pow_right oo (by omega : k ≤ 4)) dd)) (Zf5 _ _ hk'))) (by rw [Zwf])) (yp rfl (.indexAddr rfl rfl (Jj _ _ _ _ _ oo)) (yt rfl rfl rfl ((Yz (Zb5 (wds n) i k) (0 + i) ((wds n).getD i 0 % 256 ^ (k + 1))).trans (by rw [Nat.zero_add, Znm _ _ _ _ hi'])) (by repeat (first | exact Upd.head | apply Upd.tail)) sizeOf22 rfl (by simp [Zca _ _ _ hi']; omega) rfl ?_)))))))))))
    refine yn (zr (zp (.add rfl rfl) (zm rfl (zn ?_)))); intro a w h
    exact ⟨k + 1, ⟨oo, h.sub sA⟩, oo⟩
   ·
    skip
    have hk' : k = 4 := by simp at hc29; omega
    subst hk'
    rw [Zko _ _ hi' (Wd.wds n)] at h
    refine gC h (ze (zr (zp (.add rfl rfl) (zm rfl (zn ?_))))); clear h; intro a w h
    exact ⟨i + 1, ⟨oo, h.sub sA⟩, oo⟩
  ·
   skip
   have hi' : i = (wds n).length := by simp at hc26; omega
   refine gC h (ze (zS (zm rfl (za rfl (zn (zt ?_)))))); clear h; intro a w h
   subst hi'
   rw [Zno] at h
   replace h := h.shareAll hS (Xd (wds n)) rfl
   refine Jm (Ψ := [Row _ (Xd (wds n))]) h (Ze h rfl (.tmp rfl)) ⟨_, _, rfl, Nat.le_refl _, rfl⟩ ss
end
section
theorem Zfx (x0 : Int) (w : World) : (Instr.build 58 [(0, .int .u64 x0)].toArray).run Tryz.prog w = .ok (.agg #[.int .u64 x0, .string ⟨#[]⟩]) w := by simp [go_sem]
theorem Zq {c0 c1 v0 v1 : Value} : Qr #[c0, c1] 0 [v0, v1] = #[v0, v1] := rfl
theorem Zg {c0 c1 : Value} : Qv true 2 #[c0, c1] 0 = some (.agg #[c0, c1]) := rfl
theorem Zmq (w : World) : (Instr.build 58 [].toArray).run Tryz.prog w = .ok (.agg #[.int .u64 0, .string ⟨#[]⟩]) w := by simp [go_sem]
theorem Ztb (x : Int) (w : World) : (Go.convert 22 56 (.int .u32 x)).run Tryz.prog w = .ok (.int .u64 (IntKind.u64.wrap x)) w := by
 simp [go_sem]
theorem Jx (x : Int) (h0 : IntKind.u64.wrap x = x) (w : World) : (Go.convert 22 56 (.int .u32 x)).run Tryz.prog w = .ok (.int .u64 x) w := by
 rw [Ztb, h0]
theorem Zjk (x : Int) (w : World) : (Go.convert 22 5 (.int .u32 x)).run Tryz.prog w = .ok (.int .u8 (IntKind.u8.wrap x)) w := by
 simp [go_sem]
theorem Zh3 (x0 : Int) (x1 : Int) (x2 : Int) (x3 : Int) (w : World) : (Instr.buildSlice 229 4 [(0, .int .u8 x0), (1, .int .u8 x1), (2, .int .u8 x2), (3, .int .u8 x3)].toArray).run Tryz.prog w = .ok (.slice (some ⟨w.heap.size, 0, none⟩) 4 4) (w.alloc (.cells #[.int .u8 x0, .int .u8 x1, .int .u8 x2, .int .u8 x3] 5 (0, 0))) := by
 simp [go_sem]
theorem Qe7 (x1 : ByteArray) (w : World) : (Instr.build 58 [(1, .string x1)].toArray).run Tryz.prog w = .ok (.agg #[.int .u64 0, .string x1]) w := by simp [go_sem]
theorem Zlj (X Y : Operand) (n m : Nat) (w : World) : (do eqGuard .eql 58 X Y (Vt n) (Vt m); Go.binOp .eql 58 (Vt n) (Vt m) : Sem Value).run Tryz.prog w = .ok (.bool (decide (n = m))) w := by
 simp [go_sem]
 have hb : ((Zau n).toList = (Zau m).toList) ↔ Zau n = Zau m := by have := Zcq (Zau n) (Zau m); rw [Bool.eq_iff_iff] at this; simpa using this
 by_cases h : n = m
 · subst h; simp
 ·
  have hne := fun h1 h2 => h (Zma h1 h2)
  by_cases h1 : Ze5 n = Ze5 m
  · simp only [h, h1, hb, if_true, decide_false]; exact if_neg (hne h1)
  · simp [h, h1]
theorem C_Of (n : Nat) (hn : n < 18446744073709551616) : Yc Tryz.prog 109 [.int .u64 (n : Int)] (Vt n) := by
 refine fn_intro func109 rfl ntmps109 nb ?_
 intro S w0 a hS h
 refine gC h (zS (zz zeroValue58 fun b2 => zn (zS (zm rfl (zp (.build [(_, _)] rfl (Zfx _)) (zt' rfl rfl Zq uu sizeOf58 rfl nb rfl ?_)))))); clear h; intro a w h
 refine wpList_nil (wp_ret ?_)
 refine Jr h (Ze h rfl (.cell rfl mr isAgg58 sizeOf58 Zg)) ?_
 rw [Vt, Qp hn, Vi hn]
theorem Qdb (n : Nat) : Yc Tryz.prog 157 [Vt n] (.bool (decide (n = 0))) := by
 refine fn_intro func157 rfl ntmps157 nb ?_
 intro S w0 a hS h
 refine gC h (zS (zx rfl fun b1 => za rfl (zn (zS (zd rfl mr isAgg58 sizeOf58 Zg ?_)))))
 refine zp (Pure1.cast (v' := Vt 0) (.build [] rfl (Zmq)) (by rfl)) (zp (.binOp rfl rfl (fun _ => Zlj _ _ n 0 _)) (za rfl (zn (zt ?_)))); intro a w h
 exact Zag h
theorem Qfk (ad : Option Addr) (c : Nat) (l : List Nat) (hw : Wd l) (hc : l.length ≤ c) (hs : l.length ≤ 1099511627776) :
  Ge Tryz.prog 129 [.slice ad l.length c] [Row ad (Xd l)] (Vt (Qd l)) := by
 refine fn_intro func129 rfl ntmps129 nb ?_
 intro S w0 a hS h
 refine gC h (zS (zz zeroValue58 fun b2 => zn (zS (zm rfl (zf [_] rfl call135 (C_cut ad c l hw hc hs) ?_))))); clear h; rintro v10 Ψ10 ⟨rfl, rfl⟩ a w h
 have hWd := Wd.wds (Qd l)
 have hV := Jk (Qd l)
 have hN : (wds (Qd l)).length ≤ 1099511627776 := Nat.le_trans (Zf3 hw) hs
 have hNc : (wds (Qd l)).length ≤ c := Nat.le_trans (Zf3 hw) hc
 generalize hWe : wds (Qd l) = W at h hWd hV hN hNc
 refine gL h (za rfl (zn (zs (zS (zm rfl (zp (.builtin [_] rfl (Zr _ _ _)) (zp (.leq rfl rfl) (zn ?_)))))))); clear h; intro a w h
 refine cW ?_
 refine Zb h rfl (fun hc13 => ?_) (fun hc13 => ?_)
 ·
  skip
  have h2 : W.length ≤ 2 := by simp at hc13; omega
  refine gC h (zS (za rfl (zn (zs (zS (zm rfl (zp (.builtin [_] rfl (Zr _ _ _)) (zm rfl (zn (zb ?_)))))))))); clear h; intro a w h
  refine Zd (fun (i : Nat) a w => i ≤ W.length ∧ St 59 S w0 [(2, pB b2), (3, .int .u64 (Qd (W.take i) : Int)), (14, .slice ad W.length c), (15, .int .i64 (W.length : Int)), (16, .int .i64 (i : Int))] [(b2, .cells (Vt 0).cells 58 (0, 0))] [Row ad (Xd W)] a w) (fun i => W.length - i) (0) (⟨Nat.zero_le _, (h.factsSub (by simp)).sub (Zdz ⟨rfl, rfl, rfl, rfl, rfl, trivial⟩)⟩) ?_; clear h
  rintro i a w ⟨hi, h⟩
  refine gC h (zS (zp (.lss rfl rfl) (zn (zs ?_)))); clear h; intro a w h
  refine Zb h rfl (fun hc17 => ?_) (fun hc17 => ?_)
  ·
   skip
   have hi' : i < W.length := by simpa using hc17
   obtain ⟨b, off, had⟩ := h.row_addr List.mem_cons_self (by simp; intro e; subst e; simp at hi')
   subst had
   have hx := hWd.getD i
   refine gC h (zk (zs (zb (zS (zm rfl (zp (.indexAddr rfl rfl (Jj _ _ _ _ _ oo)) (zD rfl mm (by simp; omega) isAgg22 sizeOf22 (Zy 0 oo) (.inr rfl) ?_)))))))
   refine za rfl (za rfl (zn (zr (zm rfl (zm rfl (zp (.convert rfl (Jx _ (wrap_u64 _ oo oo))) (zm rfl (zp (.pN (32 * i) (.mul rfl rfl)) (zp (Pure1.cast (v' := .int .u64 ((W.getD i 0 * 2 ^ (32 * i) : Nat) : Int)) (.binOp rfl rfl (fun _ => Zc4 _ _ _ _ _ (by show 32 * i ≤ 64; omega))) (by rw [wrap_u64 _ oo (by have := Zik _ i hx oo; omega)])) (zp (Pure1.cast (v' := .int .u64 ((Qd (W.take (i + 1)) : Nat) : Int)) (.binOp rfl rfl (fun _ => Zf6 rfl _ _ _ _ _ (Nat.lt_of_lt_of_le (Zm9 (hWd.take i) (by simp; omega)) dd) (Zik _ i hx oo))) (by rw [Qec _ _ hi' hWd])) (za rfl (zn (zr (zp (.add rfl rfl) (zm rfl (zn ?_)))))))))))))))); intro a w h
   exact ⟨i + 1, ⟨oo, h.sub sA⟩, oo⟩
  ·
   skip
   have hi' : i = W.length := by simp at hc17; omega
   refine gC h (ze (zS (zm rfl (zp (.build [(_, _)] rfl (Zfx _)) (zt' rfl rfl Zq uu sizeOf58 rfl nb rfl ?_))))); clear h; intro a w h
   refine wpList_nil (wp_ret ?_)
   refine Jr h (Ze h rfl (.cell rfl mr isAgg58 sizeOf58 Zg)) ?_
   have hlt := Zm9 hWd h2; rw [hV] at hlt; subst hi'; rw [List.take_length, hV, Vt, Qp hlt, Vi hlt]
 ·
  skip
  have h2 : 2 < W.length := by simp at hc13; omega
  refine gC h (zk (zS (zm rfl (zp (.builtin [_] rfl (Zr _ _ _)) (zp (.pN (4 * W.length) (.mul rfl rfl)) ?_))))); clear h; intro a w h
  refine Zl (Xq h rfl rfl runUnderlying229 typeInfo5 sizeOf5 zeroValue5 rfl dd (by exact Nat.zero_le _) (by show 1 * _ ≤ _; omega) oo dd ?_); clear h; intro b34 a w h
  refine gL h (za rfl (zn (zs (zS (zm rfl (zp (.builtin [_] rfl (Zr _ _ _)) (zm rfl (zn (zb ?_))))))))); clear h; intro a w h
  refine Zd (fun (i : Nat) a w => i ≤ W.length ∧ ∃ v σ, Grow 1 5 v (4 * i) (u8s (bytesOf (W.take i))) σ [(b2, .cells (Vt 0).cells 58 (0, 0))] ∧ St 59 S w0 [(2, pB b2), (6, v), (35, .slice ad W.length c), (36, .int .i64 (W.length : Int)), (37, .int .i64 (i : Int))] σ [Row ad (Xd W)] a w) (fun i => W.length - i) (0) (⟨Nat.zero_le _, _, _, ⟨rfl, .inr ⟨b34, 4 * W.length, _, rfl, by simp [bytesOf, Ze2, Value.cells], Nat.zero_le _, rfl⟩⟩, (h.factsSub (by simp)).sub (Zdz ⟨rfl, rfl, rfl, rfl, rfl, trivial⟩)⟩) ?_; clear h
  rintro i a w ⟨hi, v, σ, hG, h⟩
  refine gC h (zS (zp (.lss rfl rfl) (zn (zs ?_)))); clear h; intro a w h
  refine Zb h rfl (fun hc38 => ?_) (fun hc38 => ?_)
  ·
   skip
   have hi' : i < W.length := by simpa using hc38
   obtain ⟨b, off, had⟩ := h.row_addr List.mem_cons_self (by simp; intro e; subst e; simp at hi')
   subst had
   have hx := hWd.getD i
   refine gC h (zk (zs (zb (zS (zp (.indexAddr rfl rfl (Jj _ _ _ _ _ oo)) (zD rfl mm (by simp; omega) isAgg22 sizeOf22 (Zy 0 oo) (.inr rfl) ?_))))))
   refine za rfl (zn (zr (zm rfl (zm rfl (zp (Pure1.cast (v' := .int .u8 ((W.getD i 0 % 256 : Nat) : Int)) (.convert rfl (Zjk _)) (by rw [Zc1]; congr 1)) (zm rfl (zp (.binOp rfl rfl (fun _ => Va _ _ _ _ 8 dd)) (zp (Pure1.cast (v' := .int .u8 ((W.getD i 0 / 2 ^ 8 % 256 : Nat) : Int)) (.convert rfl (Zjk _)) (by rw [Zc1]; congr 1)) (zm rfl (zp (.binOp rfl rfl (fun _ => Va _ _ _ _ 16 dd)) (zp (Pure1.cast (v' := .int .u8 ((W.getD i 0 / 2 ^ 16 % 256 : Nat) : Int)) (.convert rfl (Zjk _)) (by rw [Zc1]; congr 1)) (zm rfl (zp (.binOp rfl rfl (fun _ => Va _ _ _ _ 24 dd)) (zp (Pure1.cast (v' := .int .u8 ((W.getD i 0 / 2 ^ 24 % 256 : Nat) : Int)) (.convert rfl (Zjk _)) (by rw [Zc1]; congr 1)) (zB [(_, _), (_, _), (_, _), (_, _)] rfl (Zh3 _ _ _ _) fun b53 => ?_))))))))))))))); intro a w h
   refine Zl (Zwm h rfl rfl hG runUnderlying229 runUnderlying229 typeInfo5 sizeOf5 zeroValue5 rfl dd dd rfl rfl dd (by show 1 * _ ≤ _; omega) dd ?_); clear h hG; intro v σ a w hG h
   rw [Zux _ _ hi'] at hG
   refine gL h (za rfl (zn (zr (zp (.add rfl rfl) (zm rfl (zn ?_)))))); clear h; intro a w h
   exact ⟨i + 1, ⟨oo, _, _, hG, h.sub sA⟩, oo⟩
  ·
   skip
   have hi' : i = W.length := by simp at hc38; omega
   refine gC h (ze (zS (zm rfl ?_))); clear h; intro a w h
   refine Zl (Zqc h rfl hG runUnderlying229 runUnderlying9 runUnderlying5 dd ?_); clear h; intro a h
   replace h := h.drop hG.sub
   refine gL h (zp (.build [(_, _)] rfl (Qe7 _)) (zt' rfl rfl Zq uu sizeOf58 rfl nb rfl ?_)); clear h; intro a w h
   refine wpList_nil (wp_ret ?_)
   refine Jr h (Ze h rfl (.cell rfl mr isAgg58 sizeOf58 Zg)) ?_
   have hlt : ¬ Qd l < 18446744073709551616 := Zpt (by rw [hWe]; exact h2)
   subst hi'; rw [List.take_length, Vt, Zt9 hlt, Zfc hlt, hWe]
end
section
theorem Qc4 (x y : Int) (w : World) (ty : TypeId) (cs : Array Bool) : (Go.builtin .min #[3, 3] ty cs #[.int .i64 x, .int .i64 y]).run Tryz.prog w = .ok (.value (.int .i64 (min x y))) w := by
 simp [go_sem]; rw [Int.min_def]; split <;> split <;> omega
theorem Qc5 (x y : Int) (w : World) (ty : TypeId) (cs : Array Bool) : (Go.builtin .max #[3, 3] ty cs #[.int .i64 x, .int .i64 y]).run Tryz.prog w = .ok (.value (.int .i64 (max x y))) w := by
 simp [go_sem]; rw [Int.max_def]; split <;> split <;> omega
theorem Qbg (x y c : Nat) (hc : c ≤ 1) (w : World) : (callFunc 161 #[.int .u64 (x : Int), .int .u64 (y : Int), .int .u64 (c : Int)]).run Tryz.prog w = .ok (.value (.tuple #[.int .u64 (((x + y + c) % 18446744073709551616 : Nat) : Int), .int .u64 (((x + y + c) / 18446744073709551616 : Nat) : Int)])) w :=
 Zv7 func161 kk kk kk kk x y c hc w
theorem C_sign (n : Int) : Yc Tryz.prog 203 [.int .i64 n] (.int .i64 (max (-1) (min 1 n))) := by
 refine fn_intro func203 rfl ntmps203 nb ?_
 intro S w0 a hS h
 refine gC h (zS (za rfl (zn (zS (zm rfl (zp (.builtin [_, _] rfl (fun w ty cs => Qc4 _ _ w ty cs)) (zp (.builtin [_, _] rfl (fun w ty cs => Qc5 _ _ w ty cs)) (za rfl (zn (zt ?_)))))))))); clear h; intro a w h
 exact Zag h
theorem C_cmp (n m : Nat) (a1 : Option Addr) (c1 : Nat) (a2 : Option Addr) (c2 : Nat) (hn : (wds n).length ≤ 1099511627776) (hm : (wds m).length ≤ 1099511627776) :
  Ge Tryz.prog 184 [.slice a1 (wds n).length c1, .slice a2 (wds m).length c2] [Row a1 (Xd (wds n)), Row a2 (Xd (wds m))] (.int .i64 (Zjo n m)) := by
 refine fn_intro func184 rfl ntmps184 nb ?_
 intro S w0 a hS h
 refine gC h (zS (za rfl (zn (zs (zS (zm rfl (zp (.builtin [_] rfl (Zr _ _ _)) (zm rfl (zp (.builtin [_] rfl (Zr _ _ _)) (zp (.neq rfl rfl) (zn ?_))))))))))); clear h; intro a w h
 refine cW ?_
 refine Zb h rfl (fun hc10 => ?_) (fun hc10 => ?_)
 ·
  skip
  skip
  refine gC h (zS (zm rfl (zp (.builtin [_] rfl (Zr _ _ _)) (zm rfl (zp (.builtin [_] rfl (Zr _ _ _)) (zp (.sub rfl rfl) (zv [_] rfl call203 (C_sign _) (za rfl (zn (zt ?_)))))))))); clear h; intro a w h
  refine Jr h (Ze h rfl (.tmp rfl)) ?_
  unfold Zjo
  have hne : (wds n).length ≠ (wds m).length := Zdd hc10
  rcases Nat.lt_or_gt_of_ne hne with h1 | h1
  · have := Zet h1; rw [if_pos this]; congr 1; rw [Int.min_eq_right oo, Int.max_eq_left oo]
  · have h2 := Zet h1; rw [if_neg oo, if_pos h2]; congr 1; rw [Int.min_eq_left oo]; rfl
 ·
  skip
  have hl : (wds n).length = (wds m).length := Znw hc10
  refine gC h (zk (zs (zS (zm rfl (zp (.builtin [_] rfl (Zr _ _ _)) (zp (.sub rfl rfl) (za rfl (zn (zb ?_))))))))); clear h; intro a w h
  refine Zd (fun (k : Nat) a w => k ≤ (wds n).length ∧ (wds n).drop k = (wds m).drop k ∧ St 42 S w0 [(0, .slice a1 (wds n).length c1), (1, .slice a2 (wds m).length c2), (5, .int .i64 ((k : Int) - 1))] [] [Row a1 (Xd (wds n)), Row a2 (Xd (wds m))] a w) (fun k => k) ((wds n).length) (⟨Nat.le_refl _, by rw [List.drop_eq_nil_of_le (Nat.le_refl _), hl, List.drop_eq_nil_of_le (Nat.le_refl _)], h.sub sA⟩) ?_; clear h
  rintro k a w ⟨hN, hd, h⟩
  refine gC h (zs (zS (zm rfl (zp (.geq rfl rfl) (zn ?_))))); clear h; intro a w h
  refine cW ?_
  refine Zb h rfl (fun hc21 => ?_) (fun hc21 => ?_)
  ·
   skip
   have hk : 0 < k := by simp at hc21; omega
   have hN' : k ≤ (wds m).length := hl ▸ hN
   obtain ⟨b1, o1, rfl⟩ := h.row_addr (ad := a1) (M := Xd (wds n)) List.mem_cons_self (by simp; intro e; rw [e] at hN; simp at hN; omega)
   obtain ⟨b2, o2, rfl⟩ := h.row_addr (ad := a2) (M := Xd (wds m)) (List.mem_cons_of_mem _ List.mem_cons_self) (by simp; intro e; rw [e] at hN'; simp at hN'; omega)
   refine gC h (zk (zs (zb (zs (yD Za [0, 1, 2, 3, 4, 5, 6, 7, 8] (Zc kk) (ym rfl rfl (yp rfl (.pO (k - 1) (.move rfl)) (yp rfl (.indexAddr rfl rfl (Jj _ _ _ _ _ oo)) ?_)))))))); clear h
   refine Zj rfl kk rfl mm (by simp; omega) isAgg22 sizeOf22 (Zy 0 oo) (.inr rfl) dd ?_
   refine ym rfl rfl (yp rfl (.pO (k - 1) (.move rfl)) (yp rfl (.indexAddr rfl rfl (Jj _ _ _ _ _ oo)) ?_))
   refine Zj rfl kk rfl mm (by simp; omega) isAgg22 sizeOf22 (Zy 0 oo) (.inr rfl) dd ?_
   refine yp rfl (.neq rfl rfl) (yn ?_); intro a w h
   refine cW ?_
   refine Zb h rfl (fun hc32 => ?_) (fun hc32 => ?_)
   ·
    skip
    skip
    refine gC h (zs (zs (yD Za [0, 1, 2, 3, 4, 5, 6, 7, 8] (Zc kk) (ym rfl rfl (yp rfl (.pO (k - 1) (.move rfl)) (yp rfl (.indexAddr rfl rfl (Jj _ _ _ _ _ oo)) ?_)))))); clear h
    refine Zj rfl kk rfl mm (by simp; omega) isAgg22 sizeOf22 (Zy 0 oo) (.inr rfl) dd ?_
    refine ym rfl rfl (yp rfl (.pO (k - 1) (.move rfl)) (yp rfl (.indexAddr rfl rfl (Jj _ _ _ _ _ oo)) ?_))
    refine Zj rfl kk rfl mm (by simp; omega) isAgg22 sizeOf22 (Zy 0 oo) (.inr rfl) dd ?_
    refine yp rfl (.lss rfl rfl) (yn ?_); intro a w h
    refine cW ?_
    refine Zb h rfl (fun hc41 => ?_) (fun hc41 => ?_)
    ·
     skip
     refine gC h (zS (za rfl (zn (zt ?_)))); clear h; intro a w h
     refine Jr h (Ze h rfl (.tmp rfl)) ?_
     have h1 : (wds n).getD (k - 1) 0 < (wds m).getD (k - 1) 0 := by simpa using hc41
     have h2 := Zru (Wd.wds n) (Wd.wds m) h1 (by rw [Nat.sub_add_cancel hk]; exact hd)
     rw [Jk, Jk] at h2
     unfold Zjo; rw [if_pos h2]
    ·
     skip
     refine gC h (zk (zS (za rfl (zn (zt ?_))))); clear h; intro a w h
     refine Jr h (Ze h rfl (.tmp rfl)) ?_
     have h0 : (wds n).getD (k - 1) 0 ≠ (wds m).getD (k - 1) 0 := Zdd hc32
     have h0' : ¬ (wds n).getD (k - 1) 0 < (wds m).getD (k - 1) 0 := by simpa using hc41
     have h1 : (wds m).getD (k - 1) 0 < (wds n).getD (k - 1) 0 := oo
     have h2 := Zru (Wd.wds m) (Wd.wds n) h1 (by rw [Nat.sub_add_cancel hk]; exact hd.symm)
     rw [Jk, Jk] at h2
     unfold Zjo; rw [if_neg oo, if_pos h2]
   ·
    skip
    have he : (wds n).getD (k - 1) 0 = (wds m).getD (k - 1) 0 := Znw hc32
    refine gC h (zk (zr (zm rfl (zp (Pure1.cast (v' := .int .i64 (((k - 1 : Nat) : Int) - 1)) (.sub rfl rfl) (by show Value.int _ _ = Value.int _ _; congr 1; omega)) (za rfl (zn ?_)))))); clear h; intro a w h
    refine ⟨k - 1, ⟨oo, drop_step hl oo he (by rw [Nat.sub_add_cancel hk]; exact hd), h.sub sA⟩, oo⟩
  ·
   skip
   have hk : k = 0 := by simp at hc21; omega
   refine gC h (ze (zS (za rfl (zn (zt ?_))))); clear h; intro a w h
   refine Jr h (Ze h rfl (.tmp rfl)) ?_
   subst hk
   have e : n = m := by rw [← Jk n, ← Jk m]; simp at hd; rw [hd]
   unfold Zjo; rw [if_neg oo, if_neg oo]
theorem C_Cmp (n m : Nat) (hn : (wds n).length ≤ 1099511627776) (hm : (wds m).length ≤ 1099511627776) : Yc Tryz.prog 158 [Vt n, Vt m] (.int .i64 (Zjo n m)) := by
 refine fn_intro func158 rfl ntmps158 nb ?_
 intro S w0 a hS h
 refine gC h (zS (zx rfl fun b2 => zx rfl fun b3 => za rfl (zn (zs (zS (zp (.fA rfl Ku) (zd rfl mr isAgg9 sizeOf9 Qi ?_)))))))
 refine zp (.binOp rfl rfl (fun _ => Kj _ _ _ _ _)) (zm rfl ?_); intro a w h
 refine Zi h (fun hc8 h => ?_) (fun hc8 h => ?_)
 ·
  skip
  have ha : n < 18446744073709551616 := Jh.1 (by simpa using hc8)
  refine gL h (zq 8 rfl rfl (.fA rfl Ku) ?_); clear h; intro a w h
  refine Zf 8 h rfl rfl (Qc h rfl mr isAgg9 sizeOf9 Qi dd ?_); clear h; intro a h
  refine gL h (zq 8 rfl rfl (.binOp rfl rfl (fun _ => Kj _ _ _ _ _)) ?_); clear h; intro a w h
  refine Zi h (fun hc11 h => ?_) (fun hc11 h => ?_)
  ·
   skip
   have hb : m < 18446744073709551616 := Jh.1 (by simpa using hc11)
   refine gL h (zp (.pickT rfl rfl) (zn ?_)); clear h; intro a w h
   refine cW ?_
   refine Qf h rfl ?_
   refine gC h (zs (zb (zS (zp (.fA rfl Vn) (zd rfl mr isAgg56 sizeOf56 Ql ?_)))))
   refine zp (.fA rfl Vn) (zd rfl mr isAgg56 sizeOf56 Ql ?_)
   refine zp (.lss rfl rfl) ?_; intro a w h
   refine Zi h (fun hc18 h => ?_) (fun hc18 h => ?_)
   ·
    skip
    refine gL h (za rfl (zn ?_)); clear h; intro a w h
    refine cW ?_
    refine Qf h rfl ?_
    refine gC h (zS (za rfl (zn (zt ?_)))); clear h; intro a w h
    refine Jr h (Ze h rfl (.tmp rfl)) ?_
    rw [Qp ha, Qp hb] at hc18; have : n < m := by simpa using hc18
    unfold Zjo; rw [if_pos this]
   ·
    skip
    refine gL h (za rfl (zn ?_)); clear h; intro a w h
    refine cW ?_
    refine Zn h rfl ?_
    refine gC h (zS (zp (.fA rfl Vn) (zd rfl mr isAgg56 sizeOf56 Ql ?_)))
    refine zp (.fA rfl Vn) (zd rfl mr isAgg56 sizeOf56 Ql ?_)
    refine zp (.gtr rfl rfl) ?_; intro a w h
    refine Zi h (fun hc24 h => ?_) (fun hc24 h => ?_)
    ·
     skip
     refine gL h (za rfl (zn ?_)); clear h; intro a w h
     refine cW ?_
     refine Qf h rfl ?_
     refine gC h (zS (za rfl (zn (zt ?_)))); clear h; intro a w h
     refine Jr h (Ze h rfl (.tmp rfl)) ?_
     rw [Qp ha, Qp hb] at hc18 hc24; have h1 : m < n := by simpa using hc24
     unfold Zjo; rw [if_neg oo, if_pos h1]
    ·
     skip
     refine gL h (za rfl (zn ?_)); clear h; intro a w h
     refine cW ?_
     refine Zn h rfl ?_
     refine gC h (zk (zS (za rfl (zn (zt ?_))))); clear h; intro a w h
     refine Jr h (Ze h rfl (.tmp rfl)) ?_
     rw [Qp ha, Qp hb] at hc18 hc24; have h1 : ¬ m < n := by simpa using hc24
     have h2 : ¬ n < m := by simpa using hc18
     unfold Zjo; rw [if_neg h2, if_neg h1]
  ·
   skip
   have hb : ¬ m < 18446744073709551616 := fun hn => by have := Jh.2 hn; simp [this] at hc11
   refine gL h (zp (.pickT rfl rfl) (zn ?_)); clear h; intro a w h
   refine cW ?_
   refine Zn h rfl ?_
   refine gC h (zk (zs (yD Za [0, 2, 1, 3, 4, 5] (Zc kk) (yd rfl rfl mr isAgg58 sizeOf58 Zg ?_)))); clear h
   refine yd rfl rfl mr isAgg58 sizeOf58 Zg ?_
   refine yf [_] rfl rfl call130 (Za2 n hn) ?_; rintro v26 Ψ26 ⟨a1, c1, rfl, hc1, rfl⟩
   refine yf [_] rfl rfl call130 (Za2 m hm) ?_; rintro v28 Ψ28 ⟨a2, c2, rfl, hc2, rfl⟩
   refine yw [_, _] rfl rfl call184 (C_cmp n m a1 c1 a2 c2 hn hm) (yp rfl (.assign rfl) (yn (zt ?_))); intro a w h
   exact Zag h
 ·
  skip
  have ha : ¬ n < 18446744073709551616 := fun hn => by have := Jh.2 hn; simp [this] at hc8
  refine gL h (zo 8 rfl rfl rfl (zo 8 rfl rfl rfl (zo 8 rfl rfl rfl (zp (.pickF rfl rfl) (zn ?_))))); clear h; intro a w h
  refine cW ?_
  refine Zn h rfl ?_
  refine gC h (zk (zs (yD Za [0, 2, 1, 3, 4, 5] (Zc kk) (yd rfl rfl mr isAgg58 sizeOf58 Zg ?_)))); clear h
  refine yd rfl rfl mr isAgg58 sizeOf58 Zg ?_
  refine yf [_] rfl rfl call130 (Za2 n hn) ?_; rintro v26 Ψ26 ⟨a1, c1, rfl, hc1, rfl⟩
  refine yf [_] rfl rfl call130 (Za2 m hm) ?_; rintro v28 Ψ28 ⟨a2, c2, rfl, hc2, rfl⟩
  refine yw [_, _] rfl rfl call184 (C_cmp n m a1 c1 a2 c2 hn hm) (yp rfl (.assign rfl) (yn (zt ?_))); intro a w h
  exact Zag h
theorem Zzy (x y c : Nat) (hx : x < 4294967296) (hy : y < 4294967296) (hc : c ≤ 1) :
  Yc Tryz.prog 162 [.int .u32 (x : Int), .int .u32 (y : Int), .int .u32 (c : Int)] (.tuple #[.int .u32 (((x + y + c) % 4294967296 : Nat) : Int), .int .u32 (((x + y + c) / 4294967296 : Nat) : Int)]) := by
 refine fn_intro func162 rfl ntmps162 nb ?_
 intro S w0 a hS h
 refine gC h (zS (za rfl (za rfl (zn (zS (zm rfl (zp (.convert rfl (Jx _ (wrap_u64 _ oo oo))) (zm rfl (zp (.convert rfl (Jx _ (wrap_u64 _ oo oo))) (zp (.binOp rfl rfl (fun _ => Zh7 _ _ _ _ _ (wrap_u64 _ oo oo))) (zm rfl (zp (.convert rfl (Jx _ (wrap_u64 _ oo oo))) (zp (Pure1.cast (v' := .int .u64 ((x + y + c : Nat) : Int)) (.binOp rfl rfl (fun _ => Zh7 _ _ _ _ _ (wrap_u64 _ oo oo))) (by show Value.int _ _ = Value.int _ _; congr 1)) (za rfl (zn (zS (zm rfl (zp (Pure1.cast (v' := .int .u32 (((x + y + c) % 4294967296 : Nat) : Int)) (.convert rfl (Yt _)) (by rw [Js]; congr 1)) (za rfl (zn (zS (zm rfl (zp (.binOp rfl rfl (fun _ => Va _ _ _ _ 32 dd)) (zp (Pure1.cast (v' := .int .u32 (((x + y + c) / 4294967296 : Nat) : Int)) (.convert rfl (Yt _)) (by rw [Js]; congr 1; omega)) (za rfl (zn (zt ?_))))))))))))))))))))))))))); clear h; intro a w h
 refine Jr h (Xe h rfl (.tmp rfl) (.tmp rfl)) ?_
 rfl
theorem Zrm (x y c : Nat) (hx : x < 4294967296) (hy : y < 4294967296) (hc : c ≤ 1) :
  Yc Tryz.prog 160 [.int .u32 (x : Int), .int .u32 (y : Int), .int .u32 (c : Int)] (.tuple #[.int .u32 (((x + 8589934592 - y - c) % 4294967296 : Nat) : Int), .int .u32 ((if x < y + c then 1 else 0 : Nat) : Int)]) := by
 refine fn_intro func160 rfl ntmps160 nb ?_
 intro S w0 a hS h
 refine gC h (zS (za rfl (za rfl (zn (zS (zm rfl (zm rfl (zp (.binOp rfl rfl (fun _ => Zfl _ _ _ _ _)) (zm rfl (zp (Pure1.cast (v' := .int .u32 (((x + 8589934592 - y - c) % 4294967296 : Nat) : Int)) (.binOp rfl rfl (fun _ => Zfl _ _ _ _ _)) (by rw [Js, Js]; congr 1; omega)) (za rfl (zn (zS (zm rfl (zp (.unOp rfl (fun _ => Znh _ hx)) (zm rfl (zp (.binOp rfl rfl (fun _ => Zin rfl _ _ _ _ _ (by show _ < 4294967296; omega) hy)) (zm rfl (zm rfl (zp (.binOp rfl rfl (fun _ => Zv3 rfl _ _ _ _ _ hx hy)) (zp (.unOp rfl (fun _ => Znh _ (Nat.xor_lt_two_pow (n := 32) hx hy))) (zm rfl (zp (.binOp rfl rfl (fun _ => Zin rfl _ _ _ _ _ (by show _ < 4294967296; omega) (by show _ < 4294967296; omega))) (zp (.binOp rfl rfl (fun _ => Zf6 rfl _ _ _ _ _ (Nat.lt_of_le_of_lt Nat.and_le_right hy) (Nat.lt_of_le_of_lt Nat.and_le_right (by show _ < 4294967296; omega)))) (zp (Pure1.cast (v' := .int .u32 ((if x < y + c then 1 else 0 : Nat) : Int)) (.binOp rfl rfl (fun _ => Va _ _ _ _ 31 dd)) (by rw [Zt0 x y c hx hy hc])) (za rfl (zn (zt ?_)))))))))))))))))))))))))))); clear h; intro a w h
 refine Jr h (Xe h rfl (.tmp rfl) (.tmp rfl)) ?_
 rfl
end
section
theorem Qb0 (n : Nat) (hbig : ¬ n < 18446744073709551616) (hs : (wds n).length ≤ 1099511627776) :
  Zk4 Tryz.prog 130 [Vt n] [] (fun v σn => ∃ b, v = .slice (some ⟨b, 0, none⟩) (wds n).length (wds n).length ∧ σn = [(b, .cells (Xd (wds n)).toArray 22 (0, 0))]) := by
 refine fn_introO func130 rfl ntmps130 nb ?_
 intro S w0 a hS h
 refine gC h (zS (zx rfl fun b1 => za rfl (zn (zs (zS (zp (.fA rfl Ku) (zd rfl mr isAgg9 sizeOf9 Qi ?_)))))))
 refine zp (.binOp rfl rfl (fun _ => Kj _ _ _ _ _)) (zn ?_); intro a w h
 refine cW ?_
 refine Zb h rfl (fun hc8 => (by exfalso; exact hbig (Jh.1 (by simpa using hc8)))) (fun hc8 => ?_)
 refine gC h (zk (zS (zp (.fA rfl Ku) (zd rfl mr isAgg9 sizeOf9 Qi ?_))))
 have hn : ¬ n < 18446744073709551616 := hbig
 refine zp (.builtin [_] rfl (Zhs _)) (zp (Pure1.cast (v' := .int .i64 ((wds n).length : Int)) (.binOp rfl rfl (fun _ => Vx _ _ _ _ _ dd)) (by rw [Zep, if_neg hn]; rw [show ((4 : Int)) = ((4 : Nat) : Int) from rfl, Yn, wrap_i64 _ oo oo]; congr 1; omega)) ?_); intro a w h
 refine Zl (Xq h rfl rfl runUnderlying197 typeInfo22 sizeOf22 zeroValue22 rfl dd (Nat.le_refl _) (by show 4 * _ ≤ _; omega) oo dd ?_); clear h; intro b22 a w h
 rw [show (Value.int .u32 0).cells.toList = [Value.int .u32 0] from rfl, Zc7, show List.replicate (wds n).length (Value.int .u32 0) = Xd (Zb5 (wds n) 0 0) from by rw [Zkn]; simp] at h
 refine gL h (za rfl (zn (zs (zS (zm rfl (zp (.builtin [_] rfl (Zr _ _ _)) (zm rfl (zn (zb ?_))))))))); clear h; intro a w h
 refine Zd (fun (i : Nat) a w => i ≤ (wds n).length ∧ St 51 S w0 [(1, pB b1), (3, .slice (some ⟨b22, 0, none⟩) (wds n).length (wds n).length), (24, .int .i64 ((wds n).length : Int)), (25, .int .i64 (i : Int))] [(b22, .cells (Xd (Zb5 (wds n) i 0)).toArray 22 (0, 0)), (b1, .cells (Vt n).cells 58 (0, 0))] [] a w) (fun i => (wds n).length - i) (0) (⟨Nat.zero_le _, h.sub sA⟩) ?_; clear h
 rintro i a w ⟨hi, h⟩
 refine gC h (zS (zp (.lss rfl rfl) (zn (zs ?_)))); clear h; intro a w h
 refine Zb h rfl (fun hc26 => ?_) (fun hc26 => ?_)
 ·
  skip
  have hi' : i < (wds n).length := by simpa using hc26
  refine gC h (zk (zs (zb (zS (zm rfl (za rfl (zn (zS (zm rfl (zn (zb ?_))))))))))); clear h; intro a w h
  refine Zd (fun (k : Nat) a w => k ≤ 4 ∧ St 51 S w0 [(1, pB b1), (3, .slice (some ⟨b22, 0, none⟩) (wds n).length (wds n).length), (24, .int .i64 ((wds n).length : Int)), (25, .int .i64 (i : Int)), (4, .int .i64 (i : Int)), (28, .int .i64 (k : Int))] [(b22, .cells (Xd (Zb5 (wds n) i k)).toArray 22 (0, 0)), (b1, .cells (Vt n).cells 58 (0, 0))] [] a w) (fun k => 4 - k) (0) (⟨oo, h.sub sA⟩) ?_; clear h
  rintro k a w ⟨hk, h⟩
  refine gC h (zS (zp (.lss rfl rfl) (zn (zs ?_)))); clear h; intro a w h
  refine Zb h rfl (fun hc29 => ?_) (fun hc29 => ?_)
  ·
   skip
   have hk' : k < 4 := by simp at hc29; omega
   refine gC h (zk (zs (zb (zS (zm rfl (za rfl (zn (yD Za [0, 1, 2, 3, 4, 5, 6, 7, 8, 9, 10, 11, 12, 13, 14, 15, 16, 17] (Zc kk) (ym rfl rfl (ym rfl rfl (yp rfl (.indexAddr rfl rfl (Jj _ _ _ _ _ oo)) (yd rfl rfl (by repeat (first | exact List.Mem.head _ | apply List.Mem.tail)) isAgg22 sizeOf22 ((Zy 0 (by rw [Zca _ _ _ hi']; omega)).trans (by rw [Nat.zero_add, Znn _ _ _ hi'])) ?_)))))))))))); clear h
   refine yp rfl (.fA rfl Ku) (yd rfl rfl mr isAgg9 sizeOf9 Qi ?_)
   refine ym rfl rfl (yp rfl (.mul rfl rfl) (ym rfl rfl (yp rfl (.pN (4 * i + k) (.add rfl rfl)) (yp rfl (Pure1.cast (v' := .int .u8 (((wds n).getD i 0 / 256 ^ k % 256 : Nat) : Int)) (.index rfl rfl (fun _ => Zc6 runUnderlying9 _ _ (by rw [Zep, if_neg hn]; omega))) (by rw [Zow hn hi' hk'])) (yp rfl (.convert rfl (Zs6 _ (wrap_u32 _ oo oo))) (ym rfl rfl (yp rfl (.pN (8 * k) (.mul rfl rfl)) (yp rfl (Pure1.cast (v' := .int .u32 (((wds n).getD i 0 / 256 ^ k % 256 * 2 ^ (8 * k) : Nat) : Int)) (.binOp rfl rfl (fun _ => Zc4 _ _ _ _ _ (by show 8 * k ≤ 32; omega))) (by rw [wrap_u32 _ oo (by have := Zf5 ((wds n).getD i 0 / 256 ^ k) k hk'; omega)])) (yp rfl (Pure1.cast (v' := .int .u32 (((wds n).getD i 0 % 256 ^ (k + 1) : Nat) : Int)) (.binOp rfl rfl (fun _ => Zf6 rfl _ _ _ _ _ (Nat.lt_of_lt_of_le (Nat.mod_lt _ (Nat.pow_pos oo)) (Nat.le_trans (Nat.pow_le_pow_right oo (by omega : k ≤ 4)) dd)) (Zf5 _ _ hk'))) (by rw [Zwf])) (yp rfl (.indexAddr rfl rfl (Jj _ _ _ _ _ oo)) (yt rfl rfl rfl ((Yz (Zb5 (wds n) i k) (0 + i) ((wds n).getD i 0 % 256 ^ (k + 1))).trans (by rw [Nat.zero_add, Znm _ _ _ _ hi'])) (by repeat (first | exact Upd.head | apply Upd.tail)) sizeOf22 rfl (by simp [Zca _ _ _ hi']; omega) rfl ?_)))))))))))
   refine yn (zr (zp (.add rfl rfl) (zm rfl (zn ?_)))); intro a w h
   exact ⟨k + 1, ⟨oo, h.sub sA⟩, oo⟩
  ·
   skip
   have hk' : k = 4 := by simp at hc29; omega
   subst hk'
   rw [Zko _ _ hi' (Wd.wds n)] at h
   refine gC h (ze (zr (zp (.add rfl rfl) (zm rfl (zn ?_))))); clear h; intro a w h
   exact ⟨i + 1, ⟨oo, h.sub sA⟩, oo⟩
 ·
  skip
  have hi' : i = (wds n).length := by simp at hc26; omega
  refine gC h (ze (zS (zm rfl (za rfl (zn (zt ?_)))))); clear h; intro a w h
  subst hi'
  rw [Zno] at h
  refine Zu2 h (Ze h rfl (.tmp rfl)) ⟨b22, rfl, rfl⟩ sl
theorem Zvl (l : List Nat) : (Xd l).all flat = true := by simp [flat]
theorem Zyg (X : List Nat) : Qr (Xd (List.replicate (X.length + 1) 0)).toArray 0 (Xd X) = (Xd (X ++ [0])).toArray := by
 rw [Zp5 _ _ ss]
 simp
theorem C_Add (n m : Nat) (hn : (wds n).length ≤ 1000000000000) (hm : (wds m).length ≤ 1000000000000) : Yc Tryz.prog 126 [Vt n, Vt m] (Vt (n + m)) := by
 refine fn_intro func126 rfl ntmps126 nb ?_
 intro S w0 a hS h
 refine gC h (zS (zx rfl fun b2 => zx rfl fun b3 => zz zeroValue58 fun b4 => zn ?_)); clear h; intro a w h
 refine cW ?_
 refine Zbm (fun a w => St 80 S w0 [(2, pB b2), (3, pB b3), (4, pB b4)] [(b4, .cells (Vt 0).cells 58 (0, 0)), (b3, .cells (Vt m).cells 58 (0, 0)), (b2, .cells (Vt n).cells 58 (0, 0))] [] a w) ?_ ?_
 ·
  skip
  refine gC h (zS (zp (.fA rfl Ku) (zd rfl mr isAgg9 sizeOf9 Qi ?_)))
  refine zp (.binOp rfl rfl (fun _ => Kj _ _ _ _ _)) (zm rfl ?_); intro a w h
  refine Zi h (fun hc16 h => ?_) (fun hc16 h => ?_)
  ·
   skip
   have ha : n < 18446744073709551616 := Jh.1 (by simpa using hc16)
   refine gL h (zq 16 rfl rfl (.fA rfl Ku) ?_); clear h; intro a w h
   refine Zf 16 h rfl rfl (Qc h rfl mr isAgg9 sizeOf9 Qi dd ?_); clear h; intro a h
   refine gL h (zq 16 rfl rfl (.binOp rfl rfl (fun _ => Kj _ _ _ _ _)) ?_); clear h; intro a w h
   refine Zi h (fun hc19 h => ?_) (fun hc19 h => ?_)
   ·
    skip
    have hb : m < 18446744073709551616 := Jh.1 (by simpa using hc19)
    refine gL h (zp (.pickT rfl rfl) (zn ?_)); clear h; intro a w h
    refine cW ?_
    refine Qf h rfl ?_
    refine gC h (zS (zp (.fA rfl Vn) (zd rfl mr isAgg56 sizeOf56 Ql ?_)))
    refine zp (.fA rfl Vn) (zd rfl mr isAgg56 sizeOf56 Ql ?_)
    refine zp (.extern [_, _, _] rfl (fun w => by rw [Qp ha, Qp hb]; exact Qbg n m 0 dd w)) (zm rfl (zp (.eX rfl) (zp (.eX rfl) (za rfl (za rfl (zn (zS (zm rfl (zp (.eql rfl rfl) (zn ?_)))))))))); intro a w h
    refine cW ?_
    refine Zb h rfl (fun hc30 => ?_) (fun hc30 => ?_)
    ·
     skip
     have hsum : n + m < 18446744073709551616 := by simp at hc30; omega
     refine gC h (zS (zm rfl (zp (.build [(_, _)] rfl (Zfx _)) (zt' rfl rfl Zq uu sizeOf58 rfl nb rfl ?_)))); clear h; intro a w h
     refine wpList_nil (wp_ret ?_)
     refine Jr h (Ze h rfl (.cell rfl mr isAgg58 sizeOf58 Zg)) ?_
     have e : (n + m + 0) % 18446744073709551616 = n + m := oo
     rw [e, Vt, Qp hsum, Vi hsum]
    ·
     skip
     refine wp_skip ?_
     exact h.sub sA
   ·
    skip
    have hb : ¬ m < 18446744073709551616 := fun hn => by have := Jh.2 hn; simp [this] at hc19
    refine gL h (zp (.pickT rfl rfl) (zn ?_)); clear h; intro a w h
    refine cW ?_
    refine Zn h rfl ?_
    refine wp_skip ?_
    exact h.sub sA
  ·
   skip
   have ha : ¬ n < 18446744073709551616 := fun hn => by have := Jh.2 hn; simp [this] at hc16
   refine gL h (zo 16 rfl rfl rfl (zo 16 rfl rfl rfl (zo 16 rfl rfl rfl (zp (.pickF rfl rfl) (zn ?_))))); clear h; intro a w h
   refine cW ?_
   refine Zn h rfl ?_
   refine wp_skip ?_
   exact h.sub sA
 ·
  clear h
  intro a w h
  refine gC h (zs (yD Za [0, 2, 1, 3, 4, 5] (Zc kk) (yd rfl rfl mr isAgg58 sizeOf58 Zg ?_))); clear h
  refine yd rfl rfl mr isAgg58 sizeOf58 Zg ?_
  refine yf [_] rfl rfl call130 (Za2 n oo) ?_; rintro v34 Ψ34 ⟨a1, c1, rfl, hc1, rfl⟩
  refine yf [_] rfl rfl call130 (Za2 m oo) ?_; rintro v36 Ψ36 ⟨a2, c2, rfl, hc2, rfl⟩
  refine yp rfl (.assign rfl) (yp rfl (.assign rfl) (yn ?_)); intro a w h
  refine cW ?_
  refine Zbm (fun a w => ∃ X Y aX cX aY cY, Y.length ≤ X.length ∧ X.length ≤ 1000000000000 ∧ X.length ≤ cX ∧ Y.length ≤ cY ∧ Wd X ∧ Wd Y ∧ Qd X + Qd Y = n + m ∧ St 80 S w0 [(4, pB b4), (7, .slice aX X.length cX), (8, .slice aY Y.length cY)] [(b4, .cells (Vt 0).cells 58 (0, 0))] [Row aX (Xd X), Row aY (Xd Y)] a w) ?_ ?_
  ·
   skip
   refine gC h (zS (zm rfl (zp (.builtin [_] rfl (Zr _ _ _)) (zm rfl (zp (.builtin [_] rfl (Zr _ _ _)) (zp (.lss rfl rfl) (zn ?_))))))); clear h; intro a w h
   refine cW ?_
   refine Zb h rfl (fun hc41 => ?_) (fun hc41 => ?_)
   ·
    skip
    have hlen : (wds n).length < (wds m).length := by simpa using hc41
    refine gC h (zr (zm rfl (zm rfl (za rfl (za rfl (zn ?_)))))); clear h; intro a w h
    exact ⟨wds m, wds n, _, _, _, _, oo, hm, hc2, hc1, Wd.wds _, Wd.wds _, by rw [Jk, Jk]; omega, ((h.drop (List.Sublist.cons_cons _ (List.nil_sublist _))).factsSub (by simp)).sub (Zdz ⟨rfl, rfl, rfl, trivial⟩)⟩
   ·
    skip
    have hlen : (wds m).length ≤ (wds n).length := by simpa using hc41
    refine wp_skip ?_
    exact ⟨wds n, wds m, _, _, _, _, oo, hn, hc1, hc2, Wd.wds _, Wd.wds _, by rw [Jk, Jk], ((h.drop (List.Sublist.cons_cons _ (List.nil_sublist _))).factsSub (by simp)).sub (Zdz ⟨rfl, rfl, rfl, trivial⟩)⟩
  ·
   clear h
   rintro a w ⟨X, Y, aX, cX, aY, cY, hYX, hX12, hXc, hYc, hX, hY, hV, h⟩
   refine gC h (zS (zm rfl (zp (.builtin [_] rfl (Zr _ _ _)) (zp (.pN (X.length + 1) (.add rfl rfl)) ?_)))); clear h; intro a w h
   refine Zl (Xq h rfl rfl runUnderlying197 typeInfo22 sizeOf22 zeroValue22 rfl dd (by exact Nat.le_refl _) (by show 4 * _ ≤ _; omega) oo dd ?_); clear h; intro b47 a w h
   rw [show (Value.int .u32 0).cells.toList = [Value.int .u32 0] from rfl, Zc7, show List.replicate (X.length + 1) (Value.int .u32 0) = Xd (List.replicate (X.length + 1) 0) from by simp] at h
   refine gL h (za rfl (zn (zS (zm rfl (zm rfl ?_))))); clear h; intro a w h
   refine Zl (Zt6 h rfl rfl (M := Xd X) ss ss runUnderlying197 sizeOf22 oo dd (Zyg X) (by repeat (first | exact Upd.head | apply Upd.tail)) ss (Zvl X) dd ?_); clear h; intro a w h
   rw [show X.length + 1 = (X ++ [0]).length from by simp] at h
   refine gL h (zn (zS (za rfl (zn (zs (zS (zm rfl (zp (.builtin [_] rfl (Zr _ _ _)) (zm rfl (zn (zb ?_))))))))))); clear h; intro a w h
   refine Zd (fun (i : Nat) a w => ∃ Z c, i ≤ Z.length ∧ Z.length = X.length + 1 ∧ Wd Z ∧ c ≤ 1 ∧ Qd Z + 4294967296 ^ i * (c + Qd (Y.drop i)) = n + m ∧ St 80 S w0 [(4, pB b4), (8, .slice aY Y.length cY), (9, .slice (some ⟨b47, 0, none⟩) Z.length Z.length), (10, .int .u32 (c : Int)), (52, .int .i64 (Z.length : Int)), (53, .int .i64 (i : Int))] [(b47, .cells (Xd Z).toArray 22 (0, 0)), (b4, .cells (Vt 0).cells 58 (0, 0))] [Row aY (Xd Y)] a w) (fun i => X.length + 1 - i) (0) (⟨X ++ [0], 0, Nat.zero_le _, by simp, hX.append (Wd.zeros 1), oo, by rw [Xm]; simp [Qd]; omega, (h.factsSub (by simp)).sub (Zdz ⟨rfl, rfl, rfl, rfl, rfl, rfl, trivial⟩)⟩) ?_; clear h
   rintro i a w ⟨Z, c, hi, hZl, hZ, hc, hT, h⟩
   refine gC h (zS (zp (.lss rfl rfl) (zn (zs ?_)))); clear h; intro a w h
   refine Zb h rfl (fun hc54 => ?_) (fun hc54 => ?_)
   ·
    skip
    have hi' : i < Z.length := by simpa using hc54
    refine gC h (zk (zs (zb (zS (zm rfl (za rfl (zn (zS (za rfl (zn ?_)))))))))); clear h; intro a w h
    refine cW ?_
    refine Zbm (fun a w => St 80 S w0 [(4, pB b4), (8, .slice aY Y.length cY), (9, .slice (some ⟨b47, 0, none⟩) Z.length Z.length), (10, .int .u32 (c : Int)), (11, .int .i64 (i : Int)), (12, .int .u32 (Y.getD i 0 : Int)), (52, .int .i64 (Z.length : Int)), (53, .int .i64 (i : Int))] [(b47, .cells (Xd Z).toArray 22 (0, 0)), (b4, .cells (Vt 0).cells 58 (0, 0))] [Row aY (Xd Y)] a w) ?_ ?_
    ·
     skip
     refine gC h (zS (zm rfl (zm rfl (zp (.builtin [_] rfl (Zr _ _ _)) (zp (.lss rfl rfl) (zn ?_)))))); clear h; intro a w h
     refine cW ?_
     refine Zb h rfl (fun hc59 => ?_) (fun hc59 => ?_)
     ·
      skip
      have hlt : i < Y.length := by simpa using hc59
      obtain ⟨bY, bYo, bYe⟩ := h.row_addr (ad := aY) (M := Xd Y) ss (by simp; intro e; simp [e] at hlt)
      subst bYe
      refine gC h (zr (zm rfl (zm rfl (zp (.indexAddr rfl rfl (Jj _ _ _ _ _ oo)) (zD rfl mm (by simp; omega) isAgg22 sizeOf22 (Zy 0 oo) (.inr rfl) ?_)))))
      refine za rfl (zn ?_); intro a w h
      exact h.sub sA
     ·
      skip
      have hlt : Y.length ≤ i := by simpa using hc59
      refine wp_skip ?_
      rw [Vc hlt]
      exact h.sub sA
    ·
     clear h
     intro a w h
     refine gC h (zr (zm rfl (zm rfl (zm rfl (zm rfl (zp (.indexAddr rfl rfl (Jj _ _ _ _ _ oo)) (zd rfl mm isAgg22 sizeOf22 ((Zy 0 (by rw [Nat.zero_add]; omega)).trans (by rw [Nat.zero_add])) ?_)))))))
     refine zm rfl (zm rfl (zv [_, _, _] rfl call162 (Zzy _ _ _ (hZ.getD i) (hY.getD i) hc) (zm rfl (zp (.eX rfl) (zp (.eX rfl) (zp (.indexAddr rfl rfl (Jj _ _ _ _ _ oo)) (zt' rfl rfl ((Yz Z (0 + i) ((Z.getD i 0 + Y.getD i 0 + c) % 4294967296)).trans (by rw [Nat.zero_add])) uu sizeOf22 rfl (by simp; omega) rfl ?_)))))))
     refine za rfl (zn (zr (zp (.add rfl rfl) (zm rfl (zn ?_))))); intro a w h
     refine ⟨i + 1, ⟨Z.set i ((Z.getD i 0 + Y.getD i 0 + c) % 4294967296), _, by simp; omega, by simpa using hZl, hZ.set _ _ (Nat.mod_lt _ dd), ?_, Zmt hi' hT, by rw [List.length_set]; exact h.sub sA⟩, oo⟩
     have hz := hZ.getD i
     have hy := hY.getD i
     omega
   ·
    skip
    have hi' : i = Z.length := by simp at hc54; omega
    refine wp_exit (wp_seq (wp_region_lit ?_))
    replace h := h.shareAll hS (Xd Z) rfl
    refine gL h (zm rfl (zw [_] rfl call129 (Qfk _ _ Z hZ (Nat.le_refl _) oo) (zt' rfl rfl Zq uu sizeOf58 rfl nb rfl ?_))); clear h; intro a w h
    refine wpList_nil (wp_ret ?_)
    refine Jr h (Ze h rfl (.cell rfl mr isAgg58 sizeOf58 Zg)) ?_
    rw [hi'] at hT
    have e : Qd Z = n + m := Qfb (N := Z.length) (c := c) (by rw [List.drop_eq_nil_of_le oo] at hT; simpa [Qd] using hT) (by rw [← hV, hZl]; exact add_lt hX hY hYX)
    rw [e]
end
section
theorem Zh4 (x0 : Int) (x1 : Int) (x2 : Int) (x3 : Int) (w : World) : (Instr.buildSlice 197 4 [(0, .int .u32 x0), (1, .int .u32 x1), (2, .int .u32 x2), (3, .int .u32 x3)].toArray).run Tryz.prog w = .ok (.slice (some ⟨w.heap.size, 0, none⟩) 4 4) (w.alloc (.cells #[.int .u32 x0, .int .u32 x1, .int .u32 x2, .int .u32 x3] 22 (0, 0))) := by
 simp [go_sem]
theorem Qfm (n m : Nat) (hn : (wds n).length ≤ 1000000000000) (hm : (wds m).length ≤ 1000000000000) : Yc Tryz.prog 125 [Vt n, Vt m] (.tuple #[Vt (n - m), .bool (decide (m ≤ n))]) := by
 refine fn_intro func125 rfl ntmps125 nb ?_
 intro S w0 a hS h
 refine gC h (zS (zx rfl fun b2 => zx rfl fun b3 => zz zeroValue58 fun b4 => za rfl (zn (zs (zS (zd rfl mr isAgg58 sizeOf58 Zg ?_))))))
 refine zd rfl mr isAgg58 sizeOf58 Zg ?_
 refine zv [_, _] rfl call158 (C_Cmp n m oo oo) (zp (.lss rfl rfl) (zn ?_)); intro a w h
 refine cW ?_
 refine Zb h rfl (fun hc14 => ?_) (fun hc14 => ?_)
 ·
  skip
  have hlt : n < m := by rw [Zia] at hc14; simpa using hc14
  refine gC h (zS (zp (.build [] rfl (Zmq)) (zt' rfl rfl Zq uu sizeOf58 rfl nb rfl ?_)))
  refine za rfl (zn (zt ?_)); intro a w h
  refine Jr h (Xe h rfl (.cell rfl mr isAgg58 sizeOf58 Zg) (.tmp rfl)) ?_
  rw [show n - m = 0 by omega, show decide (m ≤ n) = false from decide_eq_false oo]; rfl
 ·
  skip
  have hle : m ≤ n := by rw [Zia] at hc14; simpa using hc14
  refine gC h (zk (zs (zS (zp (.fA rfl Ku) (zd rfl mr isAgg9 sizeOf9 Qi ?_)))))
  refine zp (.binOp rfl rfl (fun _ => Kj _ _ _ _ _)) (zn ?_); intro a w h
  refine cW ?_
  refine Zb h rfl (fun hc18 => ?_) (fun hc18 => ?_)
  ·
   skip
   have ha : n < 18446744073709551616 := Jh.1 (by simpa using hc18)
   refine gC h (zS (zp (.fA rfl Vn) (zd rfl mr isAgg56 sizeOf56 Ql ?_)))
   refine zp (.fA rfl Vn) (zd rfl mr isAgg56 sizeOf56 Ql ?_)
   refine zp (Pure1.cast (v' := .int .u64 ((n - m : Nat) : Int)) (.binOp rfl rfl (fun _ => Zfl _ _ _ _ _)) (by rw [Qp ha, Qp oo, wrap_u64 _ oo oo]; congr 1; omega)) (zp (.build [(_, _)] rfl (Zfx _)) (zt' rfl rfl Zq uu sizeOf58 rfl nb rfl ?_))
   refine za rfl (zn (zt ?_)); intro a w h
   refine Jr h (Xe h rfl (.cell rfl mr isAgg58 sizeOf58 Zg) (.tmp rfl)) ?_
   rw [decide_eq_true hle, Vt, Qp (by omega : n - m < _), Vi oo]
  ·
   skip
   have ha : ¬ n < 18446744073709551616 := fun hn => by have := Jh.2 hn; simp [this] at hc18
   refine gC h (zk (zs (yD Za [0, 2, 1, 3, 4, 5] (Zc kk) (yd rfl rfl mr isAgg58 sizeOf58 Zg ?_)))); clear h
   refine yd rfl rfl mr isAgg58 sizeOf58 Zg ?_
   refine Zfa rfl kk (vs := [_]) rfl call130 (Qb0 n ha oo) ss dd ?_; rintro v26 σ26 ⟨b26, rfl, rfl⟩
   refine yf [_] rfl rfl call130 (Za2 m oo) ?_; rintro v28 Ψ28 ⟨aY, cY, rfl, hYc, rfl⟩
   refine yp rfl (.assign rfl) (yp rfl (.assign rfl) (yn (zS (za rfl (zn (zs (zS (zm rfl (zp (.builtin [_] rfl (Zr _ _ _)) (zm rfl (zn (zb ?_)))))))))))); intro a w h
   refine Zd (fun (i : Nat) a w => ∃ Z c, i ≤ Z.length ∧ Z.length = (wds n).length ∧ Wd Z ∧ c ≤ 1 ∧ Qd Z + m = n + 4294967296 ^ i * (c + Qd ((wds m).drop i)) ∧ St 58 S w0 [(4, pB b4), (6, .slice (some ⟨b26, 0, none⟩) Z.length Z.length), (7, .slice aY (wds m).length cY), (8, .int .u32 (c : Int)), (30, .int .i64 (Z.length : Int)), (31, .int .i64 (i : Int))] [(b26, .cells (Xd Z).toArray 22 (0, 0)), (b4, .cells (Vt 0).cells 58 (0, 0))] [Row aY (Xd (wds m))] a w) (fun i => (wds n).length - i) (0) (⟨wds n, 0, Nat.zero_le _, rfl, Wd.wds n, oo, by simp [Jk], ((h.drop (List.Sublist.cons_cons _ (List.Sublist.cons_cons _ (List.nil_sublist _)))).factsSub (by simp)).sub (Zdz ⟨rfl, rfl, rfl, rfl, rfl, rfl, trivial⟩)⟩) ?_; clear h
   rintro i a w ⟨Z, c, hi, hZl, hZ, hc, hT, h⟩
   refine gC h (zS (zp (.lss rfl rfl) (zn (zs ?_)))); clear h; intro a w h
   refine Zb h rfl (fun hc32 => ?_) (fun hc32 => ?_)
   ·
    skip
    have hi' : i < Z.length := by simpa using hc32
    refine gC h (zk (zs (zb (zS (zm rfl (za rfl (zn (zS (za rfl (zn ?_)))))))))); clear h; intro a w h
    refine cW ?_
    refine Zbm (fun a w => St 58 S w0 [(4, pB b4), (6, .slice (some ⟨b26, 0, none⟩) Z.length Z.length), (7, .slice aY (wds m).length cY), (8, .int .u32 (c : Int)), (9, .int .i64 (i : Int)), (10, .int .u32 ((wds m).getD i 0 : Int)), (30, .int .i64 (Z.length : Int)), (31, .int .i64 (i : Int))] [(b26, .cells (Xd Z).toArray 22 (0, 0)), (b4, .cells (Vt 0).cells 58 (0, 0))] [Row aY (Xd (wds m))] a w) ?_ ?_
    ·
     skip
     refine gC h (zS (zm rfl (zm rfl (zp (.builtin [_] rfl (Zr _ _ _)) (zp (.lss rfl rfl) (zn ?_)))))); clear h; intro a w h
     refine cW ?_
     refine Zb h rfl (fun hc37 => ?_) (fun hc37 => ?_)
     ·
      skip
      have hlt : i < (wds m).length := by simpa using hc37
      obtain ⟨bY, bYo, bYe⟩ := h.row_addr (ad := aY) (M := Xd (wds m)) ss (by simp; intro e; simp [e] at hlt)
      subst bYe
      refine gC h (zr (zm rfl (zm rfl (zp (.indexAddr rfl rfl (Jj _ _ _ _ _ oo)) (zD rfl mm (by simp; omega) isAgg22 sizeOf22 (Zy 0 oo) (.inr rfl) ?_)))))
      refine za rfl (zn ?_); intro a w h
      exact h.sub sA
     ·
      skip
      have hlt : (wds m).length ≤ i := by simpa using hc37
      refine wp_skip ?_
      rw [Vc hlt]
      exact h.sub sA
    ·
     clear h
     intro a w h
     refine gC h (zr (zm rfl (zm rfl (zm rfl (zm rfl (zp (.indexAddr rfl rfl (Jj _ _ _ _ _ oo)) (zd rfl mm isAgg22 sizeOf22 ((Zy 0 (by rw [Nat.zero_add]; omega)).trans (by rw [Nat.zero_add])) ?_)))))))
     refine zm rfl (zm rfl (zv [_, _, _] rfl call160 (Zrm _ _ _ (hZ.getD i) ((Wd.wds m).getD i) hc) (zm rfl (zp (.eX rfl) (zp (.eX rfl) (zp (.indexAddr rfl rfl (Jj _ _ _ _ _ oo)) (zt' rfl rfl ((Yz Z (0 + i) ((Z.getD i 0 + 8589934592 - (wds m).getD i 0 - c) % 4294967296)).trans (by rw [Nat.zero_add])) uu sizeOf22 rfl (by simp; omega) rfl ?_)))))))
     refine za rfl (zn (zr (zp (.add rfl rfl) (zm rfl (zn ?_))))); intro a w h
     refine ⟨i + 1, ⟨Z.set i ((Z.getD i 0 + 8589934592 - (wds m).getD i 0 - c) % 4294967296), (if Z.getD i 0 < (wds m).getD i 0 + c then 1 else 0), by simp; omega, by simpa using hZl, hZ.set _ _ (Nat.mod_lt _ dd), by split <;> omega, Qab hi' hT (Zvr _ _ _ (hZ.getD i) ((Wd.wds m).getD i) hc), by rw [List.length_set]; exact h.sub sA⟩, oo⟩
   ·
    skip
    have hi' : i = Z.length := by simp at hc32; omega
    refine wp_exit (wp_seq (wp_region_lit ?_))
    replace h := h.shareAll hS (Xd Z) rfl
    refine gL h (zm rfl (zw [_] rfl call129 (Qfk _ _ Z hZ (Nat.le_refl _) oo) (zt' rfl rfl Zq uu sizeOf58 rfl nb rfl ?_)))
    refine za rfl (zn (zt ?_)); intro a w h
    refine Jr h (Xe h rfl (.cell rfl mr isAgg58 sizeOf58 Zg) (.tmp rfl)) ?_
    rw [hi'] at hT
    have e : Qd Z = n - m := by
     refine Qdv (N := Z.length) (c := c) hZ rfl hle ?_
     rw [List.drop_eq_nil_of_le] at hT
     · simpa [Qd] using hT
     ·
      refine Nat.le_of_not_lt fun hgt => ?_
      have := Zet (n := n) (m := m) oo
      omega
    rw [e, decide_eq_true hle]
theorem Qft (x y : Nat) (hx : x < 18446744073709551616) (hy : y < 18446744073709551616) :
  Yc Tryz.prog 128 [.int .u64 (x : Int), .int .u64 (y : Int)] (.tuple #[.int .u64 ((x * y / 18446744073709551616 : Nat) : Int), .int .u64 ((x * y % 18446744073709551616 : Nat) : Int)]) := by
 obtain ⟨ht, hw, hh⟩ := mul64_hi x y hx hy
 have b1 := Zaq (a := x / 4294967296) (b := y / 4294967296) oo oo
 have b2 := Zaq (a := x / 4294967296) (b := y % 4294967296) oo oo
 have b3 := Zaq (a := x % 4294967296) (b := y / 4294967296) oo oo
 have b4 := Zaq (a := x % 4294967296) (b := y % 4294967296) oo oo
 refine fn_intro func128 rfl ntmps128 nb ?_
 intro S w0 a hS h
 refine gC h (zS (za rfl (za rfl (zn (zS (zm rfl (zp (Pure1.cast (v' := .int .u64 (((x % 4294967296) : Nat) : Int)) (.binOp rfl rfl (fun _ => Zin rfl _ _ _ x 4294967295 hx dd)) (by rw [show (4294967295 : Nat) = 2 ^ 32 - 1 from rfl, Nat.and_two_pow_sub_one_eq_mod])) (za rfl (zn (zS (zm rfl (zp (Pure1.cast (v' := .int .u64 (((x / 4294967296) : Nat) : Int)) (.binOp rfl rfl (fun _ => Va _ _ _ x 32 dd)) (by rfl)) (za rfl (zn (zS (zm rfl (zp (Pure1.cast (v' := .int .u64 (((y % 4294967296) : Nat) : Int)) (.binOp rfl rfl (fun _ => Zin rfl _ _ _ y 4294967295 hy dd)) (by rw [show (4294967295 : Nat) = 2 ^ 32 - 1 from rfl, Nat.and_two_pow_sub_one_eq_mod])) (za rfl (zn (zS (zm rfl (zp (Pure1.cast (v' := .int .u64 (((y / 4294967296) : Nat) : Int)) (.binOp rfl rfl (fun _ => Va _ _ _ y 32 dd)) (by rfl)) (za rfl (zn (zS (zm rfl (zm rfl (zp (Pure1.cast (v' := .int .u64 (((x % 4294967296) * (y % 4294967296) : Nat) : Int)) (.binOp rfl rfl (fun _ => Zc5 _ _ _ _ _)) (by rw [Zae oo])) (za rfl (zn (zS (zm rfl (zm rfl (zp (Pure1.cast (v' := .int .u64 (((x / 4294967296) * (y % 4294967296) : Nat) : Int)) (.binOp rfl rfl (fun _ => Zc5 _ _ _ _ _)) (by rw [Zae oo])) (zm rfl (zp (Pure1.cast (v' := .int .u64 (((x % 4294967296) * (y % 4294967296) / 4294967296 : Nat) : Int)) (.binOp rfl rfl (fun _ => Va _ _ _ _ 32 dd)) (by rfl)) (zp (Pure1.cast (v' := .int .u64 ((((x / 4294967296) * (y % 4294967296) + (x % 4294967296) * (y % 4294967296) / 4294967296) : Nat) : Int)) (.binOp rfl rfl (fun _ => Zbq _ _ _ _ _)) (by rw [Ki ht])) (za rfl (zn (zS (zm rfl (zp (Pure1.cast (v' := .int .u64 ((((x / 4294967296) * (y % 4294967296) + (x % 4294967296) * (y % 4294967296) / 4294967296) % 4294967296 : Nat) : Int)) (.binOp rfl rfl (fun _ => Zin rfl _ _ _ _ 4294967295 ht dd)) (by rw [show (4294967295 : Nat) = 2 ^ 32 - 1 from rfl, Nat.and_two_pow_sub_one_eq_mod])) (za rfl (zn (zS (zm rfl (zp (Pure1.cast (v' := .int .u64 ((((x / 4294967296) * (y % 4294967296) + (x % 4294967296) * (y % 4294967296) / 4294967296) / 4294967296 : Nat) : Int)) (.binOp rfl rfl (fun _ => Va _ _ _ _ 32 dd)) (by rfl)) (za rfl (zn (zS (zm rfl (zm rfl (zm rfl (zp (Pure1.cast (v' := .int .u64 (((x % 4294967296) * (y / 4294967296) : Nat) : Int)) (.binOp rfl rfl (fun _ => Zc5 _ _ _ _ _)) (by rw [Zae oo])) (zp (Pure1.cast (v' := .int .u64 (((((x / 4294967296) * (y % 4294967296) + (x % 4294967296) * (y % 4294967296) / 4294967296) % 4294967296 + (x % 4294967296) * (y / 4294967296)) : Nat) : Int)) (.binOp rfl rfl (fun _ => Zbq _ _ _ _ _)) (by rw [Ki hw])) (za rfl (zn (zS (zm rfl (zm rfl (zp (Pure1.cast (v' := .int .u64 (((x / 4294967296) * (y / 4294967296) : Nat) : Int)) (.binOp rfl rfl (fun _ => Zc5 _ _ _ _ _)) (by rw [Zae oo])) (zm rfl (zp (Pure1.cast (v' := .int .u64 (((x / 4294967296) * (y / 4294967296) + ((x / 4294967296) * (y % 4294967296) + (x % 4294967296) * (y % 4294967296) / 4294967296) / 4294967296 : Nat) : Int)) (.binOp rfl rfl (fun _ => Zbq _ _ _ _ _)) (by rw [Ki oo])) (zm rfl (zp (Pure1.cast (v' := .int .u64 (((((x / 4294967296) * (y % 4294967296) + (x % 4294967296) * (y % 4294967296) / 4294967296) % 4294967296 + (x % 4294967296) * (y / 4294967296)) / 4294967296 : Nat) : Int)) (.binOp rfl rfl (fun _ => Va _ _ _ _ 32 dd)) (by rfl)) (zp (Pure1.cast (v' := .int .u64 ((x * y / 18446744073709551616 : Nat) : Int)) (.binOp rfl rfl (fun _ => Zbq _ _ _ _ _)) (by rw [Ki (by rw [hh]; exact Nat.div_lt_of_lt_mul (Nat.mul_lt_mul'' hx hy)), hh])) (za rfl (zn (zS (zm rfl (zm rfl (zp (Pure1.cast (v' := .int .u64 ((x * y % 18446744073709551616 : Nat) : Int)) (.binOp rfl rfl (fun _ => Zc5 _ _ _ _ _)) (by rw [← Int.natCast_mul, Zax]; congr 1)) (za rfl (zn (zt ?_))))))))))))))))))))))))))))))))))))))))))))))))))))))))))))))))))))))))))); clear h; intro a w h
 refine Jr h (Xe h rfl (.tmp rfl) (.tmp rfl)) ?_
 rfl
theorem Zzs (n m : Nat) (hn : (wds n).length ≤ 500000000000) (hm : (wds m).length ≤ 500000000000) : Yc Tryz.prog 88 [Vt n, Vt m] (Vt (n * m)) := by
 refine fn_intro func88 rfl ntmps88 nb ?_
 intro S w0 a hS h
 refine gC h (zS (zx rfl fun b2 => zx rfl fun b3 => zz zeroValue58 fun b4 => zn ?_)); clear h; intro a w h
 refine cW ?_
 refine Zbm (fun a w => St 103 S w0 [(2, pB b2), (3, pB b3), (4, pB b4)] [(b4, .cells (Vt 0).cells 58 (0, 0)), (b3, .cells (Vt m).cells 58 (0, 0)), (b2, .cells (Vt n).cells 58 (0, 0))] [] a w) ?_ ?_
 ·
  skip
  refine gC h (zS (zp (.fA rfl Ku) (zd rfl mr isAgg9 sizeOf9 Qi ?_)))
  refine zp (.binOp rfl rfl (fun _ => Kj _ _ _ _ _)) (zm rfl ?_); intro a w h
  refine Zi h (fun hc18 h => ?_) (fun hc18 h => ?_)
  ·
   skip
   have ha : n < 18446744073709551616 := Jh.1 (by simpa using hc18)
   refine gL h (zq 18 rfl rfl (.fA rfl Ku) ?_); clear h; intro a w h
   refine Zf 18 h rfl rfl (Qc h rfl mr isAgg9 sizeOf9 Qi dd ?_); clear h; intro a h
   refine gL h (zq 18 rfl rfl (.binOp rfl rfl (fun _ => Kj _ _ _ _ _)) ?_); clear h; intro a w h
   refine Zi h (fun hc21 h => ?_) (fun hc21 h => ?_)
   ·
    skip
    have hb : m < 18446744073709551616 := Jh.1 (by simpa using hc21)
    refine gL h (zp (.pickT rfl rfl) (zn ?_)); clear h; intro a w h
    refine cW ?_
    refine Qf h rfl ?_
    refine gC h (zS (zp (.fA rfl Vn) (zd rfl mr isAgg56 sizeOf56 Ql ?_))); clear h; intro a w h
    rw [Qp ha] at h
    refine gL h (zp (.fA rfl Vn) (zd rfl mr isAgg56 sizeOf56 Ql ?_)); clear h; intro a w h
    rw [Qp hb] at h
    refine gL h (zv [_, _] rfl call128 (Qft n m ha hb) (zm rfl (zp (.eX rfl) (zp (.eX rfl) (za rfl (za rfl (zn (zS (zm rfl (zp (Pure1.cast (v' := .int .u32 ((n * m % 18446744073709551616 % 4294967296 : Nat) : Int)) (.convert rfl (Yt _)) (by rw [Js]; congr 1)) (zm rfl (zp (.binOp rfl rfl (fun _ => Va _ _ _ _ 32 dd)) (zp (Pure1.cast (v' := .int .u32 ((n * m % 18446744073709551616 / 4294967296 : Nat) : Int)) (.convert rfl (Yt _)) (by rw [Js]; congr 1; omega)) (zm rfl (zp (Pure1.cast (v' := .int .u32 ((n * m / 18446744073709551616 % 4294967296 : Nat) : Int)) (.convert rfl (Yt _)) (by rw [Js]; congr 1)) (zm rfl (zp (.binOp rfl rfl (fun _ => Va _ _ _ _ 32 dd)) (zp (Pure1.cast (v' := .int .u32 ((n * m / 18446744073709551616 / 4294967296 : Nat) : Int)) (.convert rfl (Yt _)) (by have hh := Nat.div_lt_of_lt_mul (Nat.mul_lt_mul'' ha hb); rw [Js]; congr 1; omega)) (zB [(_, _), (_, _), (_, _), (_, _)] rfl (Zh4 _ _ _ _) fun b41 => ?_))))))))))))))))))); clear h; intro a w h
    replace h := h.shareAll hS (Xd [n * m % 18446744073709551616 % 4294967296, n * m % 18446744073709551616 / 4294967296, n * m / 18446744073709551616 % 4294967296, n * m / 18446744073709551616 / 4294967296]) rfl
    refine gL h (zw [_] rfl call129 (Qfk _ _ [n * m % 18446744073709551616 % 4294967296, n * m % 18446744073709551616 / 4294967296, n * m / 18446744073709551616 % 4294967296, n * m / 18446744073709551616 / 4294967296] (by intro x hx; have hh := Nat.div_lt_of_lt_mul (Nat.mul_lt_mul'' ha hb); simp at hx; omega) ss ss) (zt' rfl rfl Zq uu sizeOf58 rfl nb rfl ?_)); clear h; intro a w h
    refine wpList_nil (wp_ret ?_)
    refine Jr h (Ze h rfl (.cell rfl mr isAgg58 sizeOf58 Zg)) ?_
    have e : Qd [n * m % 18446744073709551616 % 4294967296, n * m % 18446744073709551616 / 4294967296, n * m / 18446744073709551616 % 4294967296, n * m / 18446744073709551616 / 4294967296] = n * m := by simp only [Qd]; omega
    rw [e]
   ·
    skip
    have hb : ¬ m < 18446744073709551616 := fun hn => by have := Jh.2 hn; simp [this] at hc21
    refine gL h (zp (.pickT rfl rfl) (zn ?_)); clear h; intro a w h
    refine cW ?_
    refine Zn h rfl ?_
    refine wp_skip ?_
    exact h.sub sA
  ·
   skip
   have ha : ¬ n < 18446744073709551616 := fun hn => by have := Jh.2 hn; simp [this] at hc18
   refine gL h (zo 18 rfl rfl rfl (zo 18 rfl rfl rfl (zo 18 rfl rfl rfl (zp (.pickF rfl rfl) (zn ?_))))); clear h; intro a w h
   refine cW ?_
   refine Zn h rfl ?_
   refine wp_skip ?_
   exact h.sub sA
 ·
  clear h
  intro a w h
  refine gC h (zs (yD Za [0, 2, 1, 3, 4, 5] (Zc kk) (yd rfl rfl mr isAgg58 sizeOf58 Zg ?_))); clear h
  refine yd rfl rfl mr isAgg58 sizeOf58 Zg ?_
  refine yf [_] rfl rfl call130 (Za2 n oo) ?_; rintro v44 Ψ44 ⟨aX, cX, rfl, hcX, rfl⟩
  refine yf [_] rfl rfl call130 (Za2 m oo) ?_; rintro v46 Ψ46 ⟨aY, cY, rfl, hcY, rfl⟩
  refine yp rfl (.assign rfl) (yp rfl (.assign rfl) (yn (zS (zm rfl (zp (.builtin [_] rfl (Zr _ _ _)) (zm rfl (zp (.builtin [_] rfl (Zr _ _ _)) (zp (.pN ((wds n).length + (wds m).length) (.add rfl rfl)) ?_)))))))); intro a w h
  refine Zl (Xq h rfl rfl runUnderlying197 typeInfo22 sizeOf22 zeroValue22 rfl dd (by exact Nat.le_refl _) (by show 4 * _ ≤ _; omega) oo dd ?_); clear h; intro b52 a w h
  rw [show (Value.int .u32 0).cells.toList = [Value.int .u32 0] from rfl, Zc7, show List.replicate ((wds n).length + (wds m).length) (Value.int .u32 0) = Xd (List.replicate ((wds n).length + (wds m).length) 0) from by simp] at h
  refine gL h (za rfl (zn (zs (zS (zm rfl (zp (.builtin [_] rfl (Zr _ _ _)) (zm rfl (zn (zb ?_))))))))); clear h; intro a w h
  refine Zd (fun (i : Nat) a w => i ≤ (wds n).length ∧ ∃ Z, Z.length = (wds n).length + (wds m).length ∧ Wd Z ∧ Qd Z = Qd ((wds n).take i) * Qd (wds m) ∧ St 103 S w0 [(4, pB b4), (8, .slice aY (wds m).length cY), (9, .slice (some ⟨b52, 0, none⟩) Z.length Z.length), (53, .slice aX (wds n).length cX), (54, .int .i64 ((wds n).length : Int)), (55, .int .i64 (i : Int))] [(b52, .cells (Xd Z).toArray 22 (0, 0)), (b4, .cells (Vt 0).cells 58 (0, 0))] [Row aX (Xd (wds n)), Row aY (Xd (wds m))] a w) (fun i => (wds n).length - i) (0) (⟨Nat.zero_le _, List.replicate ((wds n).length + (wds m).length) 0, by simp, Wd.zeros _, by rw [Zev _ (fun x hx => List.eq_of_mem_replicate hx)]; simp [Qd], by rw [List.length_replicate]; exact ((h.drop (List.Sublist.cons_cons _ (List.Sublist.cons_cons _ (List.nil_sublist _)))).factsSub (by simp)).sub (Zdz ⟨rfl, rfl, rfl, rfl, rfl, rfl, trivial⟩)⟩) ?_; clear h
  rintro i a w ⟨hi, Z, hZl, hZ, hV, h⟩
  refine gC h (zS (zp (.lss rfl rfl) (zn (zs ?_)))); clear h; intro a w h
  refine Zb h rfl (fun hc56 => ?_) (fun hc56 => ?_)
  ·
   skip
   have hi' : i < (wds n).length := by simpa using hc56
   have hlt := hi'
   obtain ⟨bX, bXo, bXe⟩ := h.row_addr (ad := aX) (M := Xd (wds n)) ss (by simp; intro e; simp [e] at hlt)
   subst bXe
   refine gC h (zk (zs (zb (zS (zm rfl (zp (.indexAddr rfl rfl (Jj _ _ _ _ _ oo)) (zD rfl mm (by simp; omega) isAgg22 sizeOf22 (Zy 0 oo) (.inr rfl) ?_)))))))
   refine za rfl (za rfl (zn (zS (za rfl (zn (zs (zS (zm rfl (zp (.builtin [_] rfl (Zr _ _ _)) (zm rfl (zn (zb ?_)))))))))))); intro a w h
   refine Zd (fun (k : Nat) a w => k ≤ (wds m).length ∧ ∃ Z c, Z.length = (wds n).length + (wds m).length ∧ Wd Z ∧ c < 4294967296 ∧ Z.getD (i + (wds m).length) 0 = 0 ∧ Qd Z + 4294967296 ^ (i + k) * c + 4294967296 ^ (i + k) * ((wds n).getD i 0 * Qd ((wds m).drop k)) = Qd ((wds n).take i) * Qd (wds m) + 4294967296 ^ i * ((wds n).getD i 0 * Qd (wds m)) ∧ St 103 S w0 [(4, pB b4), (8, .slice aY (wds m).length cY), (9, .slice (some ⟨b52, 0, none⟩) Z.length Z.length), (53, .slice (some ⟨bX, bXo, none⟩) (wds n).length cX), (54, .int .i64 ((wds n).length : Int)), (55, .int .i64 (i : Int)), (10, .int .i64 (i : Int)), (11, .int .u32 ((wds n).getD i 0 : Int)), (12, .int .u64 (c : Int)), (60, .slice aY (wds m).length cY), (61, .int .i64 ((wds m).length : Int)), (62, .int .i64 (k : Int))] [(b52, .cells (Xd Z).toArray 22 (0, 0)), (b4, .cells (Vt 0).cells 58 (0, 0))] [Row (some ⟨bX, bXo, none⟩) (Xd (wds n)), Row aY (Xd (wds m))] a w) (fun k => (wds m).length - k) (0) (⟨Nat.zero_le _, Z, 0, hZl, hZ, by decide, Zkc (Wd.wds n) (Wd.wds m) hV (Nat.le_refl _), by simp [hV], h.sub sA⟩) ?_; clear h
   clear hZ hV hZl
   rintro k a w ⟨hk, Z, c, hZl, hZ, hc, h0, hT, h⟩
   refine gC h (zS (zp (.lss rfl rfl) (zn (zs ?_)))); clear h; intro a w h
   refine Zb h rfl (fun hc63 => ?_) (fun hc63 => ?_)
   ·
    skip
    have hk' : k < (wds m).length := by simpa using hc63
    have hlt := hk'
    obtain ⟨bY, bYo, bYe⟩ := h.row_addr (ad := aY) (M := Xd (wds m)) ss (by simp; intro e; simp [e] at hlt)
    subst bYe
    have hb := Zpr ((Wd.wds n).getD i) ((Wd.wds m).getD k) hc (hZ.getD (i + k))
    have hxi := (Wd.wds n).getD i
    have hyk := (Wd.wds m).getD k
    have hzk := hZ.getD (i + k)
    refine gC h (zk (zs (zb (zS (zm rfl (zp (.indexAddr rfl rfl (Jj _ _ _ _ _ oo)) (zD rfl mm (by simp; omega) isAgg22 sizeOf22 (Zy 0 oo) (.inr rfl) ?_)))))))
    refine za rfl (za rfl (zn (zS (zm rfl (zm rfl (zp (.convert rfl (Jx _ (wrap_u64 _ oo oo))) (zm rfl (zp (.convert rfl (Jx _ (wrap_u64 _ oo oo))) (zp (Pure1.cast (v' := .int .u64 (((wds n).getD i 0 * (wds m).getD k 0 : Nat) : Int)) (.binOp rfl rfl (fun _ => Zc5 _ _ _ _ _)) (by rw [Zae oo])) (zm rfl (zm rfl (zm rfl (zp (.pN (i + k) (.add rfl rfl)) (zp (.indexAddr rfl rfl (Jj _ _ _ _ _ oo)) (zd rfl mm isAgg22 sizeOf22 ((Zy 0 (by rw [Nat.zero_add]; omega)).trans (by rw [Nat.zero_add])) ?_)))))))))))))))
    refine zp (.convert rfl (Jx _ (wrap_u64 _ oo oo))) (zp (Pure1.cast (v' := .int .u64 (((wds n).getD i 0 * (wds m).getD k 0 + Z.getD (i + k) 0 : Nat) : Int)) (.binOp rfl rfl (fun _ => Zbq _ _ _ _ _)) (by rw [Ki oo])) (zp (Pure1.cast (v' := .int .u64 (((c + ((wds n).getD i 0 * (wds m).getD k 0 + Z.getD (i + k) 0)) : Nat) : Int)) (.binOp rfl rfl (fun _ => Zbq _ _ _ _ _)) (by rw [Ki hb])) (za rfl (zn (zS (zm rfl (zm rfl (zm rfl (zp (.pN (i + k) (.add rfl rfl)) (zm rfl (zp (Pure1.cast (v' := .int .u32 (((c + ((wds n).getD i 0 * (wds m).getD k 0 + Z.getD (i + k) 0)) % 4294967296 : Nat) : Int)) (.convert rfl (Yt _)) (by rw [Js]; congr 1)) (zp (.indexAddr rfl rfl (Jj _ _ _ _ _ oo)) (zt' rfl rfl ((Yz Z (0 + (i + k)) ((c + ((wds n).getD i 0 * (wds m).getD k 0 + Z.getD (i + k) 0)) % 4294967296)).trans (by rw [Nat.zero_add])) uu sizeOf22 rfl (by simp; omega) rfl ?_)))))))))))))
    refine zn (zr (zm rfl (zp (Pure1.cast (v' := .int .u64 (((c + ((wds n).getD i 0 * (wds m).getD k 0 + Z.getD (i + k) 0)) / 4294967296 : Nat) : Int)) (.binOp rfl rfl (fun _ => Va _ _ _ _ 32 dd)) (by rfl)) (za rfl (zn (zr (zp (.add rfl rfl) (zm rfl (zn ?_))))))))); intro a w h
    exact ⟨k + 1, ⟨oo, Z.set (i + k) ((c + ((wds n).getD i 0 * (wds m).getD k 0 + Z.getD (i + k) 0)) % 4294967296), _, by simpa using hZl, hZ.set _ _ (Nat.mod_lt _ dd), Nat.div_lt_of_lt_mul hb, by rw [Zeg oo]; exact h0, Qas oo hT, by rw [List.length_set]; exact h.sub sA⟩, oo⟩
   ·
    skip
    have hk' : k = (wds m).length := by simp at hc63; omega
    subst hk'
    refine gC h (ze (zr (zm rfl (zm rfl (zm rfl (zp (.builtin [_] rfl (Zr _ _ _)) (zp (.pN (i + (wds m).length) (.add rfl rfl)) (zm rfl (zp (Pure1.cast (v' := .int .u32 (c : Int)) (.convert rfl (Yt _)) (by rw [wrap_u32 _ oo oo])) (zp (.indexAddr rfl rfl (Jj _ _ _ _ _ oo)) (zt' rfl rfl ((Yz Z (0 + (i + (wds m).length)) c).trans (by rw [Nat.zero_add])) uu sizeOf22 rfl (by simp; omega) rfl ?_)))))))))))
    refine zn (zr (zp (.add rfl rfl) (zm rfl (zn ?_)))); intro a w h
    exact ⟨i + 1, ⟨oo, Z.set (i + (wds m).length) c, by simpa using hZl, hZ.set _ _ hc, Zqf hi' oo h0 hT, by rw [List.length_set]; exact h.sub sA⟩, oo⟩
  ·
   skip
   have hi' : i = (wds n).length := by simp at hc56; omega
   refine wp_exit (wp_seq (wp_region_lit ?_))
   replace h := h.shareAll hS (Xd Z) rfl
   refine gL h (zm rfl (zw [_] rfl call129 (Qfk _ _ Z hZ (Nat.le_refl _) oo) (zt' rfl rfl Zq uu sizeOf58 rfl nb rfl ?_))); clear h; intro a w h
   refine wpList_nil (wp_ret ?_)
   refine Jr h (Ze h rfl (.cell rfl mr isAgg58 sizeOf58 Zg)) ?_
   rw [hi', List.take_length, Jk, Jk] at hV
   rw [hV]
end
section
theorem Qfv (hi lo y : Nat) (hlo : lo < 4294967296) (hy : y < 4294967296) (h0 : hi < y) :
  Yc Tryz.prog 164 [.int .u32 (hi : Int), .int .u32 (lo : Int), .int .u32 (y : Int)] (.tuple #[.int .u32 (((hi * 4294967296 + lo) / y : Nat) : Int), .int .u32 (((hi * 4294967296 + lo) % y : Nat) : Int)]) := by
 have hq : (hi * 4294967296 + lo) / y < 4294967296 := Zij h0 hlo
 have hr : (hi * 4294967296 + lo) % y < y := Nat.mod_lt _ oo
 refine fn_intro func164 rfl ntmps164 nb ?_
 intro S w0 a hS h
 refine gC h (zS (za rfl (za rfl (zn (zs (zS (zm rfl (zp (.neq rfl rfl) (zm rfl ?_))))))))); clear h; intro a w h
 refine Zi h (fun hc11 h => ?_) (fun hc11 h => (by exfalso; have := Znw (b := 0) hc11; omega))
 refine gL h (zq 11 rfl rfl (.move rfl) (zq 11 rfl rfl (.move rfl) (zq 11 rfl rfl (.leq rfl rfl) ?_))); clear h; intro a w h
 refine Zi h (fun hc14 h => (by exfalso; have := of_decide_eq_true hc14; omega)) (fun hc14 h => ?_)
 refine gL h (zp (.pickT rfl rfl) (zn ?_)); clear h; intro a w h
 refine cW ?_
 refine Zn h rfl ?_
 refine gC h (zk (zS (zm rfl (zp (.convert rfl (Jx _ (wrap_u64 _ oo oo))) (zp (Pure1.cast (v' := .int .u64 ((hi * 4294967296 : Nat) : Int)) (.binOp rfl rfl (fun _ => Zc4 _ _ _ hi 32 dd)) (by rw [wrap_u64 _ oo oo])) (zm rfl (zp (.convert rfl (Jx _ (wrap_u64 _ oo oo))) (zp (Pure1.cast (v' := .int .u64 ((hi * 4294967296 + lo : Nat) : Int)) (.binOp rfl rfl (fun _ => Zf6 rfl _ _ _ (hi * 4294967296) lo (by show _ < 18446744073709551616; omega) (by show _ < 18446744073709551616; omega))) (by have e := Nat.shiftLeft_add_eq_or_of_lt (show lo < 2 ^ 32 by omega) hi; rw [Nat.shiftLeft_eq] at e; rw [show hi * 4294967296 = hi * 2 ^ 32 from rfl, ← e])) (za rfl (zn (zs (yD Za [0, 1, 2, 3, 4, 5, 6, 7, 8, 9, 10, 11] (Zc kk) (ym rfl rfl (ym rfl rfl (yp rfl (.convert rfl (Jx _ (wrap_u64 _ oo oo))) (yp rfl (Pure1.cast (v' := .int .u64 (((hi * 4294967296 + lo) / y : Nat) : Int)) (.binOp rfl rfl (fun _ => Vx _ _ _ _ _ oo)) (by rw [Yn, Zd2 (Nat.lt_of_lt_of_le hq dd)])) (yp rfl (Pure1.cast (v' := .int .u32 (((hi * 4294967296 + lo) / y : Nat) : Int)) (.convert rfl (Yt _)) (by rw [Zf2 hq])) (ym rfl rfl (ym rfl rfl (yp rfl (.convert rfl (Jx _ (wrap_u64 _ oo oo))) (yp rfl (Pure1.cast (v' := .int .u64 (((hi * 4294967296 + lo) % y : Nat) : Int)) (.binOp rfl rfl (fun _ => Vm _ _ _ _ _ oo)) (by rw [Yi])) (yp rfl (Pure1.cast (v' := .int .u32 (((hi * 4294967296 + lo) % y : Nat) : Int)) (.convert rfl (Yt _)) (by rw [Zf2 (Nat.lt_trans hr hy)])) (yp rfl (.assign rfl) (yp rfl (.assign rfl) (yn (zt ?_)))))))))))))))))))))))))); clear h; intro a w h
 refine Jr h (Xe h rfl (.tmp rfl) (.tmp rfl)) ?_
 rfl
theorem Qfj (ad : Option Addr) (cp : Nat) (X : List Nat) (y : Nat) (hX : Wd X) (hl : X.length ≤ 1099511627776) (hy0 : 0 < y) (hy : y < 4294967296) :
  Zk4 Tryz.prog 134 [.slice ad X.length cp, .int .u32 (y : Int)] [Row ad (Xd X)] (fun v σn => ∃ b Q, v = .tuple #[.slice (some ⟨b, 0, none⟩) Q.length Q.length, .int .u32 ((Qd X % y : Nat) : Int)] ∧ Wd Q ∧ Q.length = X.length ∧ Qd Q = Qd X / y ∧ σn = [(b, .cells (Xd Q).toArray 22 (0, 0))]) := by
 refine fn_introO func134 rfl ntmps134 nb ?_
 intro S w0 a hS h
 refine gC h (zS (za rfl (za rfl (zn (zS (zm rfl (zp (.builtin [_] rfl (Zr _ _ _)) ?_))))))); clear h; intro a w h
 refine Zl (Xq h rfl rfl runUnderlying197 typeInfo22 sizeOf22 zeroValue22 rfl dd (by exact Nat.le_refl _) (by show 4 * _ ≤ _; omega) oo dd ?_); clear h; intro b9 a w h
 rw [show (Value.int .u32 0).cells.toList = [Value.int .u32 0] from rfl, Zc7, show List.replicate X.length (Value.int .u32 0) = Xd (List.replicate X.length 0) from by simp] at h
 refine gL h (za rfl (zn (zs (zS (zm rfl (zp (.builtin [_] rfl (Zr _ _ _)) (zp (.sub rfl rfl) (za rfl (zn (zb ?_)))))))))); clear h; intro a w h
 refine Zd (fun (k : Nat) a w => ∃ Q r, k ≤ X.length ∧ Q.length = X.length ∧ Wd Q ∧ r < y ∧ Qd (X.drop k) = Qd (Q.drop k) * y + r ∧ St 32 S w0 [(0, .slice ad X.length cp), (1, .int .u32 (y : Int)), (4, .slice (some ⟨b9, 0, none⟩) X.length X.length), (5, .int .u32 (r : Int)), (6, .int .i64 ((k : Int) - 1))] [(b9, .cells (Xd Q).toArray 22 (0, 0))] [Row ad (Xd X)] a w) (fun k => k) (X.length) (⟨List.replicate X.length 0, 0, Nat.le_refl _, by simp, Wd.zeros _, hy0, by simp [Qd], h.sub sA⟩) ?_; clear h
 rintro k a w ⟨Q, r, hkX, hQ, hQw, hr, hT, h⟩
 refine gC h (zs (zS (zm rfl (zp (.geq rfl rfl) (zn ?_))))); clear h; intro a w h
 refine cW ?_
 refine Zb h rfl (fun hc14 => ?_) (fun hc14 => ?_)
 ·
  skip
  have hk : 0 < k := by simp at hc14; omega
  have hlt : 0 < X.length := oo
  obtain ⟨bX, bXo, bXe⟩ := h.row_addr (ad := ad) (M := Xd X) ss (by simp; intro e; simp [e] at hlt)
  subst bXe
  refine gC h (zk (zs (zb (zr (zm rfl (zp (.pO (k - 1) (.move rfl)) (zm rfl (zm rfl (zp (.pO (k - 1) (.move rfl)) (zp (.indexAddr rfl rfl (Jj _ _ _ _ _ oo)) (zD rfl mm (by simp; omega) isAgg22 sizeOf22 (Zy 0 oo) (.inr rfl) ?_)))))))))))
  refine zm rfl (zv [_, _, _] rfl call164 (Qfv r (X.getD (k - 1) 0) y (hX.getD _) hy hr) (zm rfl (zp (.eX rfl) (zp (.eX rfl) (zp (.indexAddr rfl rfl (Jj _ _ _ _ _ oo)) (zt' rfl rfl ((Yz Q (0 + (k - 1)) ((r * 4294967296 + X.getD (k - 1) 0) / y)).trans (by rw [Nat.zero_add])) uu sizeOf22 rfl (by simp; omega) rfl ?_))))))
  refine za rfl (zn (zr (zm rfl (zp (Pure1.cast (v' := .int .i64 (((k - 1 : Nat) : Int) - 1)) (.sub rfl rfl) (by show Value.int _ _ = Value.int _ _; congr 1; omega)) (za rfl (zn ?_)))))); intro a w h
  exact ⟨k - 1, ⟨Q.set (k - 1) ((r * 4294967296 + X.getD (k - 1) 0) / y), _, oo, by simpa using hQ, hQw.set _ _ (Zij hr (hX.getD _)), Nat.mod_lt _ hy0, Zt2 hk hkX hQ hT, h.sub sA⟩, oo⟩
 ·
  skip
  have hk : k = 0 := by simp at hc14; omega
  refine gC h (ze (zS (zm rfl (zm rfl (za rfl (za rfl (zn (zt ?_)))))))); clear h; intro a w h
  subst hk
  simp only [List.drop_zero] at hT
  rw [← hQ] at h
  refine Zu2 h (Xe h rfl (.tmp rfl) (.tmp rfl)) ⟨b9, Q, ?_, hQw, hQ, ?_, rfl⟩ (List.Sublist.refl _)
  · rw [hT, Nat.mul_comm, Nat.mul_add_mod, Nat.mod_eq_of_lt hr]
  · rw [hT, Nat.mul_comm, Nat.mul_add_div hy0, Nat.div_eq_of_lt hr, Nat.add_zero]
theorem Zpe (ad : Option Addr) (cp : Nat) (X : List Nat) (s : Nat) (hX : Wd X) (hl : X.length ≤ 1000000000000) (hs : s < 32) :
  Zk4 Tryz.prog 186 [.slice ad X.length cp, .int .i64 (s : Int)] [Row ad (Xd X)] (fun v σn => ∃ b Z, v = .slice (some ⟨b, 0, none⟩) Z.length Z.length ∧ Wd Z ∧ Z.length = X.length + 1 ∧ Qd Z = Qd X * 2 ^ s ∧ σn = [(b, .cells (Xd Z).toArray 22 (0, 0))]) := by
 refine fn_introO func186 rfl ntmps186 nb ?_
 intro S w0 a hS h
 refine gC h (zS (za rfl (zn (zS (zm rfl (zp (.builtin [_] rfl (Zr _ _ _)) (zp (.pN (X.length + 1) (.add rfl rfl)) ?_))))))); clear h; intro a w h
 refine Zl (Xq h rfl rfl runUnderlying197 typeInfo22 sizeOf22 zeroValue22 rfl dd (by exact Nat.le_refl _) (by show 4 * _ ≤ _; omega) oo dd ?_); clear h; intro b12 a w h
 rw [show (Value.int .u32 0).cells.toList = [Value.int .u32 0] from rfl, Zc7, show List.replicate (X.length + 1) (Value.int .u32 0) = Xd (List.replicate (X.length + 1) 0) from by simp] at h
 refine gL h (za rfl (zn (zS (za rfl (zn (zs (zS (zm rfl (zp (.builtin [_] rfl (Zr _ _ _)) (zm rfl (zn (zb ?_)))))))))))); clear h; intro a w h
 refine Zd (fun (i : Nat) a w => ∃ Z c, i ≤ X.length ∧ Z.length = X.length + 1 ∧ Wd Z ∧ c < 2 ^ s ∧ (∀ j, i ≤ j → Z.getD j 0 = 0) ∧ Qd Z + 4294967296 ^ i * c = Qd (X.take i) * 2 ^ s ∧ St 41 S w0 [(0, .slice ad X.length cp), (1, .int .i64 (s : Int)), (5, .slice (some ⟨b12, 0, none⟩) (X.length + 1) (X.length + 1)), (6, .int .u32 (c : Int)), (13, .slice ad X.length cp), (14, .int .i64 (X.length : Int)), (15, .int .i64 (i : Int))] [(b12, .cells (Xd Z).toArray 22 (0, 0))] [Row ad (Xd X)] a w) (fun i => X.length - i) (0) (⟨List.replicate (X.length + 1) 0, 0, Nat.zero_le _, by simp, Wd.zeros _, Nat.pow_pos oo, fun j _ => by simp [List.getD, List.getElem?_replicate]; split <;> rfl, by rw [Zev _ (fun x hx => List.eq_of_mem_replicate hx)]; simp [Qd], h.sub sA⟩) ?_; clear h
 rintro i a w ⟨Z, c, hi, hZl, hZ, hc, hz, hT, h⟩
 refine gC h (zS (zp (.lss rfl rfl) (zn (zs ?_)))); clear h; intro a w h
 refine Zb h rfl (fun hc16 => ?_) (fun hc16 => ?_)
 ·
  skip
  have hi' : i < X.length := by simpa using hc16
  have hlt := hi'
  obtain ⟨bX, bXo, bXe⟩ := h.row_addr (ad := ad) (M := Xd X) ss (by simp; intro e; simp [e] at hlt)
  subst bXe
  have hx := hX.getD i
  have h2 := Zvx (X.getD i 0) s c hs hc
  have h3 := Zvy (X.getD i 0) s hs hx
  have h4 := Zr9 s hs
  have h5 : X.getD i 0 * 2 ^ s ≤ 4294967295 * 2147483648 := Nat.mul_le_mul oo h4
  refine gC h (zk (zs (zb (zS (zm rfl (zp (.indexAddr rfl rfl (Jj _ _ _ _ _ oo)) (zD rfl mm (by simp; omega) isAgg22 sizeOf22 (Zy 0 oo) (.inr rfl) ?_)))))))
  refine za rfl (za rfl (zn (zS (zm rfl (zm rfl (zm rfl (zm rfl (zp (Pure1.cast (v' := .int .u32 ((X.getD i 0 * 2 ^ s % 4294967296 : Nat) : Int)) (.binOp rfl rfl (fun _ => Zc4 _ _ _ _ s (by show s ≤ 32; omega))) (by rw [Js]; congr 1)) (zm rfl (zp (Pure1.cast (v' := .int .u32 ((X.getD i 0 * 2 ^ s % 4294967296 + c : Nat) : Int)) (.binOp rfl rfl (fun _ => Zf6 rfl _ _ _ _ c (by show _ < 4294967296; omega) (by show _ < 4294967296; omega))) (by rw [shl_or _ s c hs hc])) (zp (.indexAddr rfl rfl (Jj _ _ _ _ _ oo)) (zt' rfl rfl ((Yz Z (0 + i) (X.getD i 0 * 2 ^ s % 4294967296 + c)).trans (by rw [Nat.zero_add])) uu sizeOf22 rfl (by simp; omega) rfl ?_))))))))))))
  refine zn (zr (zm rfl (zp (.convert rfl (Jx _ (wrap_u64 _ oo oo))) (zm rfl (zp (Pure1.cast (v' := .int .u64 ((X.getD i 0 * 2 ^ s : Nat) : Int)) (.binOp rfl rfl (fun _ => Zc4 _ _ _ _ s (by show s ≤ 64; omega))) (by rw [wrap_u64 _ oo oo])) (zp (.binOp rfl rfl (fun _ => Va _ _ _ _ 32 dd)) (zp (Pure1.cast (v' := .int .u32 ((X.getD i 0 * 2 ^ s / 4294967296 : Nat) : Int)) (.convert rfl (Yt _)) (by rw [wrap_u32 _ oo oo])) (za rfl (zn (zr (zp (.add rfl rfl) (zm rfl (zn ?_))))))))))))); intro a w h
  exact ⟨i + 1, ⟨Z.set i (X.getD i 0 * 2 ^ s % 4294967296 + c), _, oo, by simpa using hZl, hZ.set _ _ h2, h3, fun j hj => by rw [Zeg oo]; exact hz j oo, Zt3 hi' hZl (hz i (Nat.le_refl _)) hT, h.sub sA⟩, oo⟩
 ·
  skip
  have hi' : i = X.length := by simp at hc16; omega
  refine gC h (ze (zS (zm rfl (zm rfl (zp (.builtin [_] rfl (Zr _ _ _)) (zm rfl (zp (.indexAddr rfl rfl (Jj _ _ _ _ _ oo)) (zt' rfl rfl ((Yz Z (0 + X.length) c).trans (by rw [Nat.zero_add])) uu sizeOf22 rfl (by simp; omega) rfl ?_))))))))
  refine zn (zS (zm rfl (za rfl (zn (zt ?_))))); intro a w h
  subst hi'
  have hp := Zr9 s hs
  rw [show X.length + 1 = (Z.set X.length c).length from by simp [hZl]] at h
  refine Zu2 h (Ze h rfl (.tmp rfl)) ⟨b12, Z.set X.length c, rfl, hZ.set _ _ oo, by simpa using hZl, Zvz hZl (hz _ (Nat.le_refl _)) hT, rfl⟩ (List.Sublist.refl _)
end
section
theorem Qbu (x : Int) (h0 : IntKind.u8.wrap x = x) (w : World) : (Go.convert 22 5 (.int .u32 x)).run Tryz.prog w = .ok (.int .u8 x) w := by
 rw [Zjk, h0]
theorem cv_5_3 (x : Int) (w : World) : (Go.convert 5 3 (.int .u8 x)).run Tryz.prog w = .ok (.int .i64 (IntKind.i64.wrap x)) w := by
 simp [go_sem]
theorem Zmi (x : Int) (h0 : IntKind.i64.wrap x = x) (w : World) : (Go.convert 5 3 (.int .u8 x)).run Tryz.prog w = .ok (.int .i64 x) w := by
 rw [cv_5_3, h0]
theorem Qa1 : ∀ j, j < 256 → ((⟨#[0, 1, 2, 2, 3, 3, 3, 3, 4, 4, 4, 4, 4, 4, 4, 4, 5, 5, 5, 5, 5, 5, 5, 5, 5, 5, 5, 5, 5, 5, 5, 5, 6, 6, 6, 6, 6, 6, 6, 6, 6, 6, 6, 6, 6, 6, 6, 6, 6, 6, 6, 6, 6, 6, 6, 6, 6, 6, 6, 6, 6, 6, 6, 6, 7, 7, 7, 7, 7, 7, 7, 7, 7, 7, 7, 7, 7, 7, 7, 7, 7, 7, 7, 7, 7, 7, 7, 7, 7, 7, 7, 7, 7, 7, 7, 7, 7, 7, 7, 7, 7, 7, 7, 7, 7, 7, 7, 7, 7, 7, 7, 7, 7, 7, 7, 7, 7, 7, 7, 7, 7, 7, 7, 7, 7, 7, 7, 7, 8, 8, 8, 8, 8, 8, 8, 8, 8, 8, 8, 8, 8, 8, 8, 8, 8, 8, 8, 8, 8, 8, 8, 8, 8, 8, 8, 8, 8, 8, 8, 8, 8, 8, 8, 8, 8, 8, 8, 8, 8, 8, 8, 8, 8, 8, 8, 8, 8, 8, 8, 8, 8, 8, 8, 8, 8, 8, 8, 8, 8, 8, 8, 8, 8, 8, 8, 8, 8, 8, 8, 8, 8, 8, 8, 8, 8, 8, 8, 8, 8, 8, 8, 8, 8, 8, 8, 8, 8, 8, 8, 8, 8, 8, 8, 8, 8, 8, 8, 8, 8, 8, 8, 8, 8, 8, 8, 8, 8, 8, 8, 8, 8, 8, 8, 8, 8, 8, 8, 8, 8, 8, 8, 8, 8, 8, 8, 8]⟩ : ByteArray).data.toList.getD j 0).toNat = Zdx j := by decide +kernel
theorem Qfu (x : Nat) (hx : x < 4294967296) : Yc Tryz.prog 181 [.int .u32 (x : Int)] (.int .i64 (Zdx x : Int)) := by
 refine fn_intro func181 rfl ntmps181 nb ?_
 intro S w0 a hS h
 refine gC h (zS (za rfl (zn ?_))); clear h; intro a w h
 refine cW ?_
 refine Zbm (fun a w => ∃ y m : Nat, y < 65536 ∧ m ≤ 16 ∧ m + Zdx y = Zdx x ∧ St 19 S w0 [(0, .int .u32 (y : Int)), (2, .int .i64 (m : Int))] [] [] a w) ?_ ?_
 ·
  skip
  refine gC h (zS (zm rfl (zp (.geq rfl rfl) (zn ?_)))); clear h; intro a w h
  refine cW ?_
  refine Zb h rfl (fun hc4 => ?_) (fun hc4 => ?_)
  ·
   skip
   have h4 : 65536 ≤ x := dT hc4
   refine gC h (zS (zm rfl (zp (.binOp rfl rfl (fun _ => Va _ _ _ x 16 dd)) (za rfl (zn (zr (za rfl (zn ?_)))))))); clear h; intro a w h
   exact ⟨x / 2 ^ 16, 16, oo, by omega, by rw [Nat.add_comm]; exact Zkv (k := 16) oo, h.sub sA⟩
  ·
   skip
   have h4 : x < 65536 := dF hc4
   refine wp_skip ?_
   exact ⟨x, 0, h4, oo, Nat.zero_add _, h.sub sA⟩
 ·
  clear h
  rintro a w ⟨y, m, hy, hm, hl, h⟩
  refine Zbm (fun a w => ∃ y m : Nat, y < 256 ∧ m ≤ 24 ∧ m + Zdx y = Zdx x ∧ St 19 S w0 [(0, .int .u32 (y : Int)), (2, .int .i64 (m : Int))] [] [] a w) ?_ ?_
  ·
   skip
   refine gC h (zS (zm rfl (zp (.geq rfl rfl) (zn ?_)))); clear h; intro a w h
   refine cW ?_
   refine Zb h rfl (fun hc8 => ?_) (fun hc8 => ?_)
   ·
    skip
    have h7 : 256 ≤ y := dT hc8
    refine gC h (zS (zm rfl (zp (.binOp rfl rfl (fun _ => Va _ _ _ y 8 dd)) (za rfl (zn (zr (zm rfl (zp (.pN (m + 8) (.add rfl rfl)) (za rfl (zn ?_)))))))))); clear h; intro a w h
    exact ⟨y / 2 ^ 8, m + 8, oo, by omega, by rw [← hl, Nat.add_assoc, Nat.add_comm 8]; congr 1; exact Zkv (k := 8) oo, h.sub sA⟩
   ·
    skip
    have h7 : y < 256 := dF hc8
    refine wp_skip ?_
    exact ⟨y, m, h7, oo, hl, h.sub sA⟩
  ·
   clear h
   rintro a w ⟨z, o, hz, ho, hl2, h⟩
   refine gC h (zS (zm rfl (zm rfl ?_)))
   have hle : Zdx z ≤ 8 := Zg9 hz
   refine zp (.convert rfl (Qbu _ (wrap_u8 _ oo oo))) (zp (Pure1.cast (v' := .int .u8 (Zdx z : Int)) (.index rfl rfl (fun _ => Zc6 runUnderlying9 _ _ (by show z < 256; exact hz))) (by exact congrArg (fun n : Nat => Value.int .u8 (n : Int)) (Qa1 z hz))) (zp (.convert rfl (Zmi _ (wrap_i64 _ oo oo))) (zp (Pure1.cast (v' := .int .i64 (Zdx x : Int)) (.add rfl rfl) (by show Value.int _ _ = Value.int _ _; congr 1; omega)) (za rfl (zn (zt ?_)))))); intro a w h
   exact Zag h
theorem Zh5 (x : Nat) (hx : x < 4294967296) : Yc Tryz.prog 185 [.int .u32 (x : Int)] (.int .i64 ((32 - Zdx x : Nat) : Int)) := by
 refine fn_intro func185 rfl ntmps185 nb ?_
 intro S w0 a hS h
 refine gC h (zS (za rfl (zn (zS ?_))))
 have hle : Zdx x ≤ 32 := Zg9 (k := 32) hx
 refine zm rfl (zv [_] rfl call181 (Qfu x hx) (zp (.pO (32 - Zdx x) (.sub rfl rfl)) (za rfl (zn (zt ?_))))); intro a w h
 exact Zag h
theorem C_half (b cp : Nat) (O : List Nat) (hO : Wd O) (hl : O.length ≤ 1099511627776) (σr : List (Nat × Obj)) (Φ : List Qn) :
  Zm4 Tryz.prog 188 [.slice (some ⟨b, 0, none⟩) O.length cp] ((b, .cells (Xd O).toArray 22 (0, 0)) :: σr) Φ
   (fun _ σ' Φ' => ∃ Z, Wd Z ∧ Z.length = O.length ∧ Qd Z = Qd O / 2 ∧ σ' = (b, .cells (Xd Z).toArray 22 (0, 0)) :: σr ∧ Φ' = Φ) := by
 refine fn_introM func188 rfl ntmps188 nb ?_
 intro S w0 a w hS h
 refine gC h (zS (zm rfl (zp (.builtin [_] rfl (Zr _ _ _)) (zm rfl (zn (zb ?_)))))); clear h; intro a w h
 refine Zd (fun (i : Nat) a w => ∃ Z, i ≤ O.length ∧ Z.length = O.length ∧ Wd Z ∧ Z.drop i = O.drop i ∧ 2 * Qd (Z.take i) + O.getD 0 0 % 2 = Qd (O.take i) + 4294967296 ^ i * (O.getD i 0 % 2) ∧ St 32 S w0 [(0, .slice (some ⟨b, 0, none⟩) O.length cp), (3, .slice (some ⟨b, 0, none⟩) O.length cp), (4, .int .i64 (O.length : Int)), (5, .int .i64 (i : Int))] ((b, .cells (Xd Z).toArray 22 (0, 0)) :: σr) Φ a w) (fun i => O.length - i) (0) (⟨O, Nat.zero_le _, rfl, hO, rfl, by simp [Qd], h.sub sA⟩) ?_; clear h
 rintro i a w ⟨Z, hi, hZl, hZ, hd, hT, h⟩
 refine gC h (zS (zp (.lss rfl rfl) (zn (zs ?_)))); clear h; intro a w h
 refine Zb h rfl (fun hc6 => ?_) (fun hc6 => ?_)
 ·
  skip
  have hi' : i < O.length := by simpa using hc6
  have hzi := Zhv hd (Nat.le_refl i)
  have hzi1 := Zhv hd (Nat.le_succ i)
  have hxi := hO.getD i
  have hxj := hO.getD (i + 1)
  refine wp_skip ?_
  refine cW ?_
  refine Zbm (fun a w => St 32 S w0 [(0, .slice (some ⟨b, 0, none⟩) O.length cp), (3, .slice (some ⟨b, 0, none⟩) O.length cp), (4, .int .i64 (O.length : Int)), (5, .int .i64 (i : Int))] ((b, .cells (Xd (Z.set i (O.getD i 0 / 2 + 2147483648 * (O.getD (i + 1) 0 % 2)))).toArray 22 (0, 0)) :: σr) Φ a w) ?_ ?_
  ·
   skip
   refine gC h (zb (zS (zm rfl (za rfl (zn (zS (zm rfl (zm rfl (zp (.indexAddr rfl rfl (Jj _ _ _ _ _ oo)) (zd rfl mm isAgg22 sizeOf22 ((Zy 0 (by rw [Nat.zero_add]; omega)).trans (by rw [Nat.zero_add, hzi])) ?_))))))))))
   refine zp (.binOp rfl rfl (fun _ => Va _ _ _ _ 1 dd)) (zp (.indexAddr rfl rfl (Jj _ _ _ _ _ oo)) (zt' rfl rfl ((Yz Z (0 + i) (O.getD i 0 / 2 ^ 1)).trans (by rw [Nat.zero_add])) uu sizeOf22 rfl (by simp; omega) rfl ?_))
   refine zn (zS (zm rfl (zp (.pN (i + 1) (.add rfl rfl)) (zm rfl (zp (.builtin [_] rfl (Zr _ _ _)) (zp (.lss rfl rfl) (zn ?_))))))); intro a w h
   refine cW ?_
   refine Zb h rfl (fun hc18 => ?_) (fun hc18 => ?_)
   ·
    skip
    have hlt2 : i + 1 < O.length := dT hc18
    refine gC h (yD Za [0, 1, 2, 3, 4, 5, 6, 7, 8, 9, 10, 11, 12] (Zc kk) (ym rfl rfl (ym rfl rfl (yp rfl (.indexAddr rfl rfl (Jj _ _ _ _ _ oo)) (yd rfl rfl mm isAgg22 sizeOf22 ((Zy 0 (by rw [Nat.zero_add, List.length_set]; omega)).trans (by rw [Nat.zero_add, Zl5 oo])) ?_))))); clear h
    refine ym rfl rfl (ym rfl rfl (yp rfl (.pN (i + 1) (.add rfl rfl)) (yp rfl (.indexAddr rfl rfl (Jj _ _ _ _ _ oo)) (yd rfl rfl mm isAgg22 sizeOf22 ((Zy 0 (by rw [Nat.zero_add, List.length_set]; omega)).trans (by rw [Nat.zero_add, Zeg oo, hzi1])) ?_))))
    refine yp rfl (Pure1.cast (v' := .int .u32 ((O.getD (i + 1) 0 * 2 ^ 31 % 4294967296 : Nat) : Int)) (.binOp rfl rfl (fun _ => Zc4 _ _ _ _ 31 dd)) (by rw [Js]; congr 1)) (yp rfl (Pure1.cast (v' := .int .u32 ((O.getD i 0 / 2 + 2147483648 * (O.getD (i + 1) 0 % 2) : Nat) : Int)) (.binOp rfl rfl (fun _ => Zf6 rfl _ _ _ _ _ (by show _ < 4294967296; omega) (by show _ < 4294967296; omega))) (by rw [Zxp _ _ hxi])) (yp rfl (.indexAddr rfl rfl (Jj _ _ _ _ _ oo)) (yt rfl rfl rfl ((Yz (Z.set i (O.getD i 0 / 2 ^ 1)) (0 + i) (O.getD i 0 / 2 + 2147483648 * (O.getD (i + 1) 0 % 2))).trans (by rw [Nat.zero_add, List.set_set])) uu sizeOf22 rfl (by simp; omega) rfl ?_)))
    refine yn ?_; intro a w h
    exact h.sub sA
   ·
    skip
    have hlt2 : O.length ≤ i + 1 := dF hc18
    refine wp_skip ?_
    rw [Vc hlt2, show O.getD i 0 / 2 + 2147483648 * (0 % 2) = O.getD i 0 / 2 ^ 1 from rfl]
    exact h.sub sA
  ·
   clear h
   intro a w h
   refine gC h (zr (zp (.add rfl rfl) (zm rfl (zn ?_)))); clear h; intro a w h
   exact ⟨i + 1, ⟨Z.set i (O.getD i 0 / 2 + 2147483648 * (O.getD (i + 1) 0 % 2)), oo, by simpa using hZl, hZ.set _ _ oo, Zmd hd, Zxq hi' hZl hd hT, h.sub sA⟩, oo⟩
 ·
  skip
  have hi' : i = O.length := by simp at hc6; omega
  refine wp_exit ?_
  subst hi'
  refine Qbj h (Zga rfl) ⟨Z, hZ, hZl, Qba oo hZl hT, rfl, rfl⟩ (List.Sublist.refl _) (fun _ h => h)
theorem C_less (b cu : Nat) (p W0 hh : List Nat) (ad : Option Addr) (cv : Nat) (V : List Nat) (dg : Nat) (hW0 : Wd W0) (hV : Wd V) (hl : V.length ≤ 1000000000000) (hWl0 : W0.length = V.length + 1) (hdg : dg < 4294967296)
  (hp : p.length ≤ 1000000000000) (σr : List (Nat × Obj)) (Φ : List Qn) (hΦ : Row ad (Xd V) ∈ Φ) :
  Zm4 Tryz.prog 187 [.slice (some ⟨b, p.length, none⟩) (V.length + 1) cu, .slice ad V.length cv, .int .u64 (dg : Int)] ((b, .cells (Xd (p ++ W0 ++ hh)).toArray 22 (0, 0)) :: σr) Φ
   (fun v σ' Φ' => ∃ (W : List Nat) (l : Nat), l ≤ 1 ∧ v = .bool (decide ((l : Int) > 0)) ∧ Wd W ∧ W.length = V.length + 1 ∧ Qd W + dg * Qd V = Qd W0 + 4294967296 ^ (V.length + 1) * l ∧
    σ' = (b, .cells (Xd (p ++ W ++ hh)).toArray 22 (0, 0)) :: σr ∧ Φ' = Φ) := by
 refine fn_introM func187 rfl ntmps187 nb ?_
 intro S w0 a w hS h
 refine gC h (zS (za rfl (zn (zS (za rfl (za rfl (zn (zs (zS (zm rfl (zp (.builtin [_] rfl (Zr _ _ _)) (zm rfl (zn (zb ?_)))))))))))))); clear h; intro a w h
 refine Zd (fun (i : Nat) a w => ∃ (W : List Nat) (c g : Nat), i ≤ V.length ∧ W.length = V.length + 1 ∧ Wd W ∧ c < 4294967296 ∧ g ≤ 1 ∧ Qd W + dg * Qd (V.take i) = Qd W0 + 4294967296 ^ i * (c + g) ∧ St 60 S w0 [(0, .slice (some ⟨b, p.length, none⟩) (V.length + 1) cu), (1, .slice ad V.length cv), (2, .int .u64 (dg : Int)), (7, .int .u64 (c : Int)), (8, .int .u32 (g : Int)), (12, .slice ad V.length cv), (13, .int .i64 (V.length : Int)), (14, .int .i64 (i : Int))] ((b, .cells (Xd (p ++ W ++ hh)).toArray 22 (0, 0)) :: σr) Φ a w) (fun i => V.length - i) (0) (⟨W0, 0, 0, Nat.zero_le _, hWl0, hW0, by decide, by decide, by simp [Qd], h.sub sA⟩) ?_; clear h
 rintro i a w ⟨W, c, g, hi, hWl, hW, hc, hg, hT, h⟩
 refine gC h (zS (zp (.lss rfl rfl) (zn (zs ?_)))); clear h; intro a w h
 refine Zb h rfl (fun hc15 => ?_) (fun hc15 => ?_)
 ·
  skip
  have hi' : i < V.length := by simpa using hc15
  obtain ⟨bV, oV, rfl⟩ := h.row_addr hΦ (by simp; intro e; simp [e] at hi')
  have hwi := hV.getD i
  obtain ⟨hc1, hc2⟩ := Zud hc hdg hwi
  have hm := Nat.mod_lt (c + dg * V.getD i 0) (show 0 < 4294967296 by decide)
  refine gC h (zk (zs (zb (zS (zm rfl (zp (.indexAddr rfl rfl (Jj _ _ _ _ _ oo)) (zD rfl hΦ (by simp; omega) isAgg22 sizeOf22 (Zy 0 oo) (.inr rfl) ?_)))))))
  refine za rfl (za rfl (zn (zS (zm rfl (zm rfl (zm rfl (zp (.convert rfl (Jx _ (wrap_u64 _ oo oo))) (zp (Pure1.cast (v' := .int .u64 ((dg * V.getD i 0 : Nat) : Int)) (.binOp rfl rfl (fun _ => Zc5 _ _ _ _ _)) (by rw [Zae oo])) (zp (Pure1.cast (v' := .int .u64 ((c + dg * V.getD i 0 : Nat) : Int)) (.binOp rfl rfl (fun _ => Zbq _ _ _ _ _)) (by rw [Ki hc1])) (za rfl (zn (zS (zm rfl (zm rfl (zm rfl (zm rfl (zp (.indexAddr rfl rfl (Jj _ _ _ _ _ oo)) (zd rfl mm isAgg22 sizeOf22 ((Zy 0 (by simp; omega)).trans (by rw [Zdh _ _ _ _ oo])) ?_))))))))))))))))))
  refine zm rfl (zp (Pure1.cast (v' := .int .u32 (((c + dg * V.getD i 0) % 4294967296 : Nat) : Int)) (.convert rfl (Yt _)) (by rw [Js]; congr 1)) (zm rfl (zv [_, _, _] rfl call160 (Zrm _ _ _ (hW.getD i) hm hg) (zm rfl (zp (.eX rfl) (zp (.eX rfl) (zp (.indexAddr rfl rfl (Jj _ _ _ _ _ oo)) (zt' rfl rfl ((Yz (p ++ W ++ hh) (p.length + i) ((W.getD i 0 + 8589934592 - (c + dg * V.getD i 0) % 4294967296 - g) % 4294967296)).trans (by rw [set_mid _ _ _ _ _ oo])) uu sizeOf22 rfl (by simp; omega) rfl ?_))))))))
  refine za rfl (zn (zr (zm rfl (zp (Pure1.cast (v' := .int .u64 (((c + dg * V.getD i 0) / 4294967296 : Nat) : Int)) (.binOp rfl rfl (fun _ => Va _ _ _ _ 32 dd)) (by rfl)) (za rfl (zn (zr (zp (.add rfl rfl) (zm rfl (zn ?_)))))))))); intro a w h
  exact ⟨i + 1, ⟨W.set i ((W.getD i 0 + 8589934592 - (c + dg * V.getD i 0) % 4294967296 - g) % 4294967296), _, _, oo, by simpa using hWl, hW.set _ _ (Nat.mod_lt _ dd), hc2, by split <;> omega, Zxa hi' oo hT (Zvr _ _ _ (hW.getD i) hm hg), h.sub sA⟩, oo⟩
 ·
  skip
  have hi' : i = V.length := by simp at hc15; omega
  refine gC h (ze (zS (zm rfl (zp (.builtin [_] rfl (Zr _ _ _)) (za rfl (zn (zS (zm rfl (zm rfl (zm rfl (zm rfl (zp (.indexAddr rfl rfl (Jj _ _ _ _ _ oo)) (zd rfl mm isAgg22 sizeOf22 ((Zy 0 (by simp; omega)).trans (by rw [Zdh _ _ _ _ oo])) ?_)))))))))))))
  refine zm rfl (zp (Pure1.cast (v' := .int .u32 (c : Int)) (.convert rfl (Yt _)) (by rw [Zf2 hc])) (zm rfl (zv [_, _, _] rfl call160 (Zrm _ _ _ (hW.getD V.length) hc hg) (zm rfl (zp (.eX rfl) (zp (.eX rfl) (zp (.indexAddr rfl rfl (Jj _ _ _ _ _ oo)) (zt' rfl rfl ((Yz (p ++ W ++ hh) (p.length + V.length) ((W.getD V.length 0 + 8589934592 - c - g) % 4294967296)).trans (by rw [set_mid _ _ _ _ _ oo])) uu sizeOf22 rfl (by simp; omega) rfl ?_))))))))
  refine za rfl (zn (zS (zm rfl (zp (.gtr rfl rfl) (za rfl (zn (zt ?_))))))); intro a w h
  subst hi'
  refine retM h (Ze h rfl (.tmp rfl)) ⟨W.set V.length ((W.getD V.length 0 + 8589934592 - c - g) % 4294967296), _, ?_, rfl, hW.set _ _ (Nat.mod_lt _ dd), by simpa using hWl, Qaz oo hT (Zvr _ _ _ (hW.getD _) hc hg), rfl, rfl⟩ (List.Sublist.refl _) (fun _ h => h)
  split <;> omega
end
section
theorem Qdx (b off n c lo hi : Nat) (h1 : lo ≤ hi) (h2 : hi ≤ c) (h3 : lo < c) (w : World) : (Instr.sliceAt 197 (.slice (some ⟨b, off, none⟩) n c) (some (.int .i64 (lo : Int))) (some (.int .i64 (hi : Int))) none).run Tryz.prog w = .ok (.slice (some ⟨b, off + lo, none⟩) (hi - lo) (c - lo)) w := by
 simpa using Zt1 runUnderlying197 sizeOf22 b off n c lo hi h1 h2 h3 w
theorem C_long (ax : Option Addr) (cx : Nat) (X : List Nat) (ay : Option Addr) (cy : Nat) (Y : List Nat) (hX : Wd X) (hY : Wd Y) (hm : X.length ≤ 500000000000) (hY2 : 2 ≤ Y.length) (hYX : Y.length ≤ X.length) (hlast : Y.getD (Y.length - 1) 0 ≠ 0) :
  Ctr Tryz.prog 159 [.slice ax X.length cx, .slice ay Y.length cy] [Row ax (Xd X), Row ay (Xd Y)]
   (fun v Ψ => ∃ a1 c1 a2 c2 Q R, v = .tuple #[.slice a1 Q.length c1, .slice a2 R.length c2] ∧ Wd Q ∧ Wd R ∧ Q.length ≤ c1 ∧ R.length ≤ c2 ∧ Q.length ≤ X.length + 1 ∧ R.length ≤ X.length + 1 ∧ Qd Q = Qd X / Qd Y ∧ Qd R = Qd X % Qd Y ∧ Ψ = [Row a1 (Xd Q), Row a2 (Xd R)]) := by
 obtain ⟨e, he⟩ : ∃ e, Y.length = e + 2 := ⟨Y.length - 2, oo⟩
 rw [show Y.length - 1 = e + 1 by omega] at hlast
 refine fn_intro func159 rfl ntmps159 nb ?_
 intro S w0 a hS h
 refine gC h (zS (za rfl (za rfl (zn (zS ?_))))); clear h; intro a w h
 have hlt : 0 < Y.length := oo
 obtain ⟨bY, bYo, bYe⟩ := h.row_addr (ad := ay) (M := Xd Y) ss (by simp; intro e; simp [e] at hlt)
 subst bYe
 refine gL h (zm rfl (zm rfl (zp (.builtin [_] rfl (Zr _ _ _)) (zp (.pQ (e + 1) (.sub rfl rfl)) (zp (.indexAddr rfl rfl (Jj _ _ _ _ _ oo)) (zD rfl mm (by simp; omega) isAgg22 sizeOf22 (Zy 0 oo) (.inr rfl) ?_))))))
 refine zv [_] rfl call185 (Zh5 _ (hY.getD _)) ?_; intro a w h
 obtain ⟨hs, hn1, hn2⟩ := Zw6 (last := Y.getD (e + 1) 0) hlast (hY.getD _) rfl
 generalize 32 - Zdx (Y.getD (e + 1) 0) = s at h hs hn1 hn2
 refine gL h (za rfl (zn (zs (yD Za [0, 1, 3, 4, 6, 7, 2, 5, 8, 9, 10] (Zc kk) (ym rfl rfl (ym rfl rfl (ym rfl rfl (ym rfl rfl (ym rfl rfl (yp rfl (.builtin [_] rfl (Zr _ _ _)) ?_)))))))))); clear h
 refine Zfa rfl kk (vs := [_, _]) rfl call186 (Zpe ax cx X s hX oo hs) ss dd ?_; rintro v26 σ26 ⟨b26, Z0, rfl, hZ0, hZ0l, hZ0v, rfl⟩
 refine Zfa rfl kk (vs := [_, _]) rfl call186 (Zpe _ cy Y s hY oo hs) ss dd ?_; rintro v29 σ29 ⟨b29, V0, rfl, hV0, hV0l, hV0v, rfl⟩
 refine yp rfl (.slice rfl none (some _) none rfl rfl rfl (Zvv _ _ _ _ oo)) (yp rfl (.assign rfl) (yp rfl (.assign rfl) (yn (zS ?_)))); intro a w h
 replace h := h.shareAll hS (Xd V0) rfl
 replace h := h.derive (R := Row (some ⟨b29, 0, none⟩) (Xd (V0.take Y.length))) (fun X hX => by rw [Xd, List.map_take]; exact Zf8 (hX _ List.mem_cons_self) _)
 obtain ⟨hVv, hv1⟩ := Zn1 hY he hs hn1 hn2 hV0 hV0v
 have hVl : (V0.take Y.length).length = Y.length := by simp; omega
 have hV : Wd (V0.take Y.length) := hV0.take _
 generalize hVd : V0.take Y.length = V at h hVv hv1 hVl hV
 rw [← hVl] at h
 have hVe : V.length = e + 2 := oo
 have hYge : 4294967296 ^ (V.length - 1) ≤ Qd Y := by
  have h1 := Jt Y (e + 1) oo
  rw [show e + 1 + 1 = Y.length by omega, List.take_length] at h1
  rw [show V.length - 1 = e + 1 by omega, h1]
  have := Nat.mul_le_mul_left (4294967296 ^ (e + 1)) (Nat.pos_of_ne_zero hlast)
  omega
 obtain ⟨M, hM⟩ : ∃ M, Z0.length = M + V.length := ⟨Z0.length - V.length, oo⟩
 refine gL h (zm rfl (zp (Pure1.cast (v' := .int .i64 (V.length : Int)) (.builtin [_] rfl (Zr _ _ _)) (by rfl)) (za rfl (zn (zS (zm rfl (zp (.builtin [_] rfl (Zr _ _ _)) (zm rfl (zp (.pQ M (.sub rfl rfl)) ?_))))))))); clear h; intro a w h
 refine Zl (Xq h rfl rfl runUnderlying197 typeInfo22 sizeOf22 zeroValue22 rfl dd (by exact Nat.le_refl _) (by show 4 * _ ≤ _; omega) oo dd ?_); clear h; intro b39 a w h
 rw [show (Value.int .u32 0).cells.toList = [Value.int .u32 0] from rfl, Zc7, show List.replicate M (Value.int .u32 0) = Xd (List.replicate M 0) from by simp] at h
 refine gL h (za rfl (zn (zs (zS (zm rfl (zp (.builtin [_] rfl (Zr _ _ _)) (zp (.sub rfl rfl) (za rfl (zn (zb ?_)))))))))); clear h; intro a w h
 refine Zd (fun (κ : Nat) a w => ∃ (Z Q : List Nat), κ ≤ M ∧ Z.length = Z0.length ∧ Wd Z ∧ Q.length = M ∧ Wd Q ∧ Qd Z + 4294967296 ^ κ * (Qd V * Qd (Q.drop κ)) = Qd Z0 ∧ Qd (Z.drop κ) < Qd V ∧ St 175 S w0 [(4, .slice (some ⟨b39, 0, none⟩) M M), (6, .int .i64 (s : Int)), (7, .slice (some ⟨b26, 0, none⟩) Z0.length Z0.length), (8, .slice (some ⟨b29, 0, none⟩) V.length V0.length), (9, .int .i64 (V.length : Int)), (10, .int .i64 ((κ : Int) - 1))] [(b26, .cells (Xd Z).toArray 22 (0, 0)), (b39, .cells (Xd Q).toArray 22 (0, 0))] [Row (some ⟨b29, 0, none⟩) (Xd V)] a w) (fun κ => κ) (M) (⟨Z0, List.replicate M 0, Nat.le_refl _, rfl, hZ0, by simp, Wd.zeros _, by simp [Qd], by rw [hVv]; exact Zua hX hZ0v hYge oo oo, ((h.perm (List.Perm.swap _ _ _)).factsSub (by simp)).sub (Zdz ⟨rfl, rfl, rfl, rfl, rfl, rfl, trivial⟩)⟩) ?_; clear h
 rintro κ a w ⟨Z, Q, hκ, hZl, hZ, hQl, hQ, hT, hR, h⟩
 refine gC h (zs (zS (zm rfl (zp (.geq rfl rfl) (zn ?_))))); clear h; intro a w h
 refine cW ?_
 refine Zb h rfl (fun hc44 => ?_) (fun hc44 => ?_)
 ·
  skip
  have hκ0 : 0 < κ := by simp at hc44; omega
  obtain ⟨p, W, hh, rfl, hp, hWl, hpw, hWw, hhw, hh0, hUlt⟩ := Zql (k := κ - 1) (n := V.length) hZ oo (Vl hV) (by rw [Nat.sub_add_cancel hκ0]; exact hR)
  obtain rfl : κ = p.length + 1 := oo
  have hU3 := Zvi (l := W) (e := e) oo
  have hV2 := Zm7 (l := V) (e := e) oo
  have hlu := Vv hWw e
  have hlv := Vv hV e
  have hw2 := hWw.getD (e + 2)
  have hw1 := hWw.getD (e + 1)
  have hw0 := hWw.getD e
  have hvv1 := hV.getD (e + 1)
  have hvv2 := hV.getD e
  refine gC h (zk (zs (zb (zc (zs (yD Za [0, 1, 2, 3, 4, 5, 6, 7, 8, 9, 10, 11, 12, 13, 14, 15, 16, 17] (Zc kk) (ym rfl rfl (yp rfl (.pQ p.length (.move rfl)) (ym rfl rfl (yp rfl (.pQ (p.length + (e + 2)) (.add rfl rfl)) (yp rfl (.indexAddr rfl rfl (Jj _ _ _ _ _ oo)) (yd rfl rfl mm isAgg22 sizeOf22 ((Zy 0 (by simp; omega)).trans (by rw [Nat.zero_add, Zdh _ _ _ _ oo])) ?_)))))))))))); clear h
  refine yp rfl (.convert rfl (Jx _ (wrap_u64 _ oo oo))) (yp rfl (Pure1.cast (v' := .int .u64 ((W.getD (e + 2) 0 * 4294967296 : Nat) : Int)) (.binOp rfl rfl (fun _ => Zc4 _ _ _ _ 32 dd)) (by rw [wrap_u64 _ oo oo])) (ym rfl rfl (yp rfl (.pQ p.length (.move rfl)) (ym rfl rfl (yp rfl (.pQ (p.length + (e + 2)) (.add rfl rfl)) (yp rfl (.pQ (p.length + (e + 1)) (.sub rfl rfl)) (yp rfl (.indexAddr rfl rfl (Jj _ _ _ _ _ oo)) (yd rfl rfl mm isAgg22 sizeOf22 ((Zy 0 (by simp; omega)).trans (by rw [Nat.zero_add, Zdh _ _ _ _ oo])) ?_))))))))
  refine yp rfl (.convert rfl (Jx _ (wrap_u64 _ oo oo))) (yp rfl (Pure1.cast (v' := .int .u64 ((4294967296 * W.getD (e + 2) 0 + W.getD (e + 1) 0 : Nat) : Int)) (.binOp rfl rfl (fun _ => Zf6 rfl _ _ _ _ _ (by show _ < 18446744073709551616; omega) (by show _ < 18446744073709551616; omega))) (by rw [or_hi _ _ hw1])) (yp rfl (.assign rfl) ?_))
  have htl : 4294967296 * W.getD (e + 2) 0 + W.getD (e + 1) 0 < 18446744073709551616 := oo
  have htop := top_lt hU3 hV2 hvv2 hlv hUlt
  generalize hTop : 4294967296 * W.getD (e + 2) 0 + W.getD (e + 1) 0 = top at hU3 htl htop ⊢
  refine yn (zs (yD Za [0, 1, 2, 3, 4, 5, 6, 7, 8, 9, 10, 11, 12, 13, 14, 15, 16, 17] (Zc kk) (ym rfl rfl (ym rfl rfl (ym rfl rfl (yp rfl (.pQ (e + 1) (.sub rfl rfl)) (yp rfl (.indexAddr rfl rfl (Jj _ _ _ _ _ oo)) ?_)))))))
  refine Zj rfl kk rfl mm (by simp; omega) isAgg22 sizeOf22 (Zy 0 oo) (.inr rfl) dd ?_
  refine yp rfl (.convert rfl (Jx _ (wrap_u64 _ oo oo))) (yp rfl (Pure1.cast (v' := .int .u64 ((top / V.getD (e + 1) 0 : Nat) : Int)) (.binOp rfl rfl (fun _ => Vx _ _ _ _ _ oo)) (by rw [Yn, Zd2 (Nat.lt_of_le_of_lt (Nat.div_le_self _ _) htl)])) (ym rfl rfl (ym rfl rfl (ym rfl rfl (yp rfl (.pQ (e + 1) (.sub rfl rfl)) (yp rfl (.indexAddr rfl rfl (Jj _ _ _ _ _ oo)) ?_))))))
  refine Zj rfl kk rfl mm (by simp; omega) isAgg22 sizeOf22 (Zy 0 oo) (.inr rfl) dd ?_
  refine yp rfl (.convert rfl (Jx _ (wrap_u64 _ oo oo))) (yp rfl (Pure1.cast (v' := .int .u64 ((top % V.getD (e + 1) 0 : Nat) : Int)) (.binOp rfl rfl (fun _ => Vm _ _ _ _ _ oo)) (by rw [Yi])) (yp rfl (.assign rfl) (yp rfl (.assign rfl) (yn (zs (zl ?_)))))); intro a w h
  refine cW ?_
  refine Zbm (fun a w => ∃ dg : Nat, dg < 4294967296 ∧ dg * Qd V ≤ Qd W + Qd V ∧ Qd W < (dg + 1) * Qd V ∧ St 175 S w0 [(4, .slice (some ⟨b39, 0, none⟩) M M), (6, .int .i64 (s : Int)), (7, .slice (some ⟨b26, 0, none⟩) Z0.length Z0.length), (8, .slice (some ⟨b29, 0, none⟩) V.length V0.length), (9, .int .i64 (V.length : Int)), (10, .int .i64 (((p.length + 1 : Nat) : Int) - 1)), (12, .int .u64 (dg : Int))] [(b26, .cells (Xd (p ++ W ++ hh)).toArray 22 (0, 0)), (b39, .cells (Xd Q).toArray 22 (0, 0))] [Row (some ⟨b29, 0, none⟩) (Xd V)] a w) ?_ ?_
  ·
   skip
   refine wp_block ?_
   refine Zd (fun (dg : Nat) a w => ∃ rest : Nat, dg * V.getD (e + 1) 0 + rest = top ∧ Qd W < (dg + 1) * Qd V ∧ rest < 8589934592 ∧ St 175 S w0 [(4, .slice (some ⟨b39, 0, none⟩) M M), (6, .int .i64 (s : Int)), (7, .slice (some ⟨b26, 0, none⟩) Z0.length Z0.length), (8, .slice (some ⟨b29, 0, none⟩) V.length V0.length), (9, .int .i64 (V.length : Int)), (10, .int .i64 (((p.length + 1 : Nat) : Int) - 1)), (12, .int .u64 (dg : Int)), (13, .int .u64 (rest : Int))] [(b26, .cells (Xd (p ++ W ++ hh)).toArray 22 (0, 0)), (b39, .cells (Xd Q).toArray 22 (0, 0))] [Row (some ⟨b29, 0, none⟩) (Xd V)] a w) (fun dg => dg) (top / V.getD (e + 1) 0) (⟨top % V.getD (e + 1) 0, by rw [Nat.mul_comm]; exact Nat.div_add_mod _ _, Zup hU3 hV2 hw0 hlu oo, Nat.lt_trans (Nat.mod_lt _ oo) oo, h.sub sA⟩) ?_; clear h
   rintro dg a w ⟨rest, hIg, hUd, hrest, h⟩
   have hdgle := Qbp hIg htop hv1
   refine gC h (zs (zS (zm rfl (zp (.leq rfl rfl) (zn ?_))))); clear h; intro a w h
   refine cW ?_
   refine Zb h rfl (fun hc81 => ?_) (fun hc81 => ?_)
   ·
    skip
    have hr : rest < 4294967296 := dT hc81
    refine gC h (zk (zb (zs (zs (yD Za [0, 1, 2, 3, 4, 5, 6, 7, 8, 9, 10, 11, 12, 13, 14, 15, 16, 17, 18, 19, 20, 21, 22, 23] (Zc kk) (ym rfl rfl (yp rfl (.leq rfl rfl) (ym rfl rfl ?_)))))))); clear h
    refine Qe (fun hc84  => ?_) (fun hc84  => ?_)
    ·
     skip
     have hdg : dg < 4294967296 := dT hc84
     have hmul := Zaq hdg hvv2
     refine yq rfl rfl rfl (.move rfl) (yq rfl rfl rfl (.move rfl) (yq rfl rfl rfl (.move rfl) (yq rfl rfl rfl (.pQ e (.sub rfl rfl)) (yq rfl rfl rfl (.indexAddr rfl rfl (Jj _ _ _ _ _ oo)) ?_))))
     refine Jl rfl rfl rfl kk rfl mm (by simp; omega) isAgg22 sizeOf22 (Zy 0 oo) (.inr rfl) dd ?_
     refine yq rfl rfl rfl (.convert rfl (Jx _ (wrap_u64 _ oo oo))) (yq rfl rfl rfl (Pure1.cast (v' := .int .u64 ((dg * V.getD e 0 : Nat) : Int)) (.binOp rfl rfl (fun _ => Zc5 _ _ _ _ _)) (by rw [Zae oo])) (yq rfl rfl rfl (.move rfl) (yq rfl rfl rfl (Pure1.cast (v' := .int .u64 ((rest * 4294967296 : Nat) : Int)) (.binOp rfl rfl (fun _ => Zc4 _ _ _ _ 32 dd)) (by rw [wrap_u64 _ oo oo])) (yq rfl rfl rfl (.move rfl) (yq rfl rfl rfl (.pQ p.length (.move rfl)) (yq rfl rfl rfl (.move rfl) (yq rfl rfl rfl (.pQ (p.length + (e + 2)) (.add rfl rfl)) (yq rfl rfl rfl (.pQ (p.length + e) (.sub rfl rfl)) (yq rfl rfl rfl (.indexAddr rfl rfl (Jj _ _ _ _ _ oo)) (yg rfl rfl rfl rfl mm isAgg22 sizeOf22 ((Zy 0 (by simp; omega)).trans (by rw [Nat.zero_add, Zdh _ _ _ _ oo])) ?_))))))))))
     refine yq rfl rfl rfl (.convert rfl (Jx _ (wrap_u64 _ oo oo))) (yq rfl rfl rfl (Pure1.cast (v' := .int .u64 ((4294967296 * rest + W.getD e 0 : Nat) : Int)) (.binOp rfl rfl (fun _ => Zf6 rfl _ _ _ _ _ (by show _ < 18446744073709551616; omega) (by show _ < 18446744073709551616; omega))) (by rw [or_hi _ _ hw0])) (yq rfl rfl rfl (.leq rfl rfl) ?_))
     refine Qe (fun hc104  => ?_) (fun hc104  => ?_)
     ·
      skip
      have hle : dg * V.getD e 0 ≤ 4294967296 * rest + W.getD e 0 := by have := of_decide_eq_true hc104; exact_mod_cast this
      refine yp rfl (.pickT rfl rfl) (yn ?_); intro a w h
      refine cW ?_
      refine Qf h rfl ?_
      refine wp_exit ?_
      exact ⟨dg, hdg, Zof hU3 hV2 oo hvv2 hlv hIg oo (.inr hle), hUd, h.sub sA⟩
     ·
      skip
      have hcase : 4294967296 ≤ dg ∨ 4294967296 * rest + W.getD e 0 < dg * V.getD e 0 := .inr (by have := of_decide_eq_false hc104; exact Nat.lt_of_not_le fun hh => this (by exact_mod_cast hh))
      refine yp rfl (.pickT rfl rfl) (yn ?_); intro a w h
      refine cW ?_
      refine Zn h rfl ?_
      refine wp_skip (wp_seq (wp_region_lit ?_))
      have hnext := Zog hU3 hV2 hlu hIg hUlt hcase
      have hdg0 : 0 < dg := Nat.pos_of_ne_zero fun h0 => by subst h0; simp at hnext
      refine gL h (zm rfl (zp (Pure1.cast (v' := .int .u64 ((dg - 1 : Nat) : Int)) (.binOp rfl rfl (fun _ => Zfl _ _ _ _ _)) (by rw [wrap_u64 _ oo oo]; congr 1; omega)) (za rfl (zn (zr (zm rfl (zm rfl (zm rfl (zp (.pQ (e + 1) (.sub rfl rfl)) (zp (.indexAddr rfl rfl (Jj _ _ _ _ _ oo)) (zD rfl mm (by simp; omega) isAgg22 sizeOf22 (Zy 0 oo) (.inr rfl) ?_)))))))))))
      refine zp (.convert rfl (Jx _ (wrap_u64 _ oo oo))) (zp (Pure1.cast (v' := .int .u64 ((rest + V.getD (e + 1) 0 : Nat) : Int)) (.binOp rfl rfl (fun _ => Zbq _ _ _ _ _)) (by rw [Ki oo])) (za rfl (zn ?_))); intro a w h
      exact ⟨dg - 1, ⟨rest + V.getD (e + 1) 0, Zkw hIg hdg0, by rw [Nat.sub_add_cancel hdg0]; exact hnext, oo, h.sub sA⟩, oo⟩
    ·
     skip
     have hcase : 4294967296 ≤ dg ∨ 4294967296 * rest + W.getD e 0 < dg * V.getD e 0 := .inl (dF hc84)
     refine yo 84 rfl rfl rfl rfl (yo 84 rfl rfl rfl rfl (yo 84 rfl rfl rfl rfl (yo 84 rfl rfl rfl rfl (yo 84 rfl rfl rfl rfl (yo 84 rfl rfl rfl rfl (yo 84 rfl rfl rfl rfl (yo 84 rfl rfl rfl rfl (yo 84 rfl rfl rfl rfl (yo 84 rfl rfl rfl rfl (yo 84 rfl rfl rfl rfl (yo 84 rfl rfl rfl rfl (yo 84 rfl rfl rfl rfl (yo 84 rfl rfl rfl rfl (yo 84 rfl rfl rfl rfl (yo 84 rfl rfl rfl rfl (yo 84 rfl rfl rfl rfl (yo 84 rfl rfl rfl rfl (yo 84 rfl rfl rfl rfl (yo 84 rfl rfl rfl rfl (yp rfl (.pickF rfl rfl) (yn ?_))))))))))))))))))))); intro a w h
     refine cW ?_
     refine Zn h rfl ?_
     refine wp_skip (wp_seq (wp_region_lit ?_))
     have hnext := Zog hU3 hV2 hlu hIg hUlt hcase
     have hdg0 : 0 < dg := Nat.pos_of_ne_zero fun h0 => by subst h0; simp at hnext
     refine gL h (zm rfl (zp (Pure1.cast (v' := .int .u64 ((dg - 1 : Nat) : Int)) (.binOp rfl rfl (fun _ => Zfl _ _ _ _ _)) (by rw [wrap_u64 _ oo oo]; congr 1; omega)) (za rfl (zn (zr (zm rfl (zm rfl (zm rfl (zp (.pQ (e + 1) (.sub rfl rfl)) (zp (.indexAddr rfl rfl (Jj _ _ _ _ _ oo)) (zD rfl mm (by simp; omega) isAgg22 sizeOf22 (Zy 0 oo) (.inr rfl) ?_)))))))))))
     refine zp (.convert rfl (Jx _ (wrap_u64 _ oo oo))) (zp (Pure1.cast (v' := .int .u64 ((rest + V.getD (e + 1) 0 : Nat) : Int)) (.binOp rfl rfl (fun _ => Zbq _ _ _ _ _)) (by rw [Ki oo])) (za rfl (zn ?_))); intro a w h
     exact ⟨dg - 1, ⟨rest + V.getD (e + 1) 0, Zkw hIg hdg0, by rw [Nat.sub_add_cancel hdg0]; exact hnext, oo, h.sub sA⟩, oo⟩
   ·
    skip
    have hr : 4294967296 ≤ rest := dF hc81
    refine wp_exit ?_
    have hdg := Zq9 hIg htop hr
    exact ⟨dg, hdg, Zof hU3 hV2 oo hvv2 hlv hIg oo (.inl hr), hUd, h.sub sA⟩
  ·
   clear h
   rintro a w ⟨dg, hdg, hend, hUd, h⟩
   refine Zbm (fun a w => ∃ (W3 : List Nat) (dg : Nat), dg < 4294967296 ∧ Wd W3 ∧ W3.length = V.length + 1 ∧ Qd W3 + dg * Qd V = Qd W ∧ Qd W3 < Qd V ∧ St 175 S w0 [(4, .slice (some ⟨b39, 0, none⟩) M M), (6, .int .i64 (s : Int)), (7, .slice (some ⟨b26, 0, none⟩) Z0.length Z0.length), (8, .slice (some ⟨b29, 0, none⟩) V.length V0.length), (9, .int .i64 (V.length : Int)), (10, .int .i64 (((p.length + 1 : Nat) : Int) - 1)), (12, .int .u64 (dg : Int))] [(b26, .cells (Xd (p ++ W3 ++ hh)).toArray 22 (0, 0)), (b39, .cells (Xd Q).toArray 22 (0, 0))] [Row (some ⟨b29, 0, none⟩) (Xd V)] a w) ?_ ?_
   ·
    skip
    refine gC h (zS (zm rfl (zp (.pQ p.length (.move rfl)) (zp (.pQ p.length (.move rfl)) (zm rfl (zp (.pQ (p.length + V.length) (.add rfl rfl)) (zp (.pQ (p.length + V.length + 1) (.add rfl rfl)) (zp (Pure1.cast (v' := .slice (some ⟨b26, p.length, none⟩) (V.length + 1) (Z0.length - p.length)) (.slice rfl (some _) (some _) none rfl rfl rfl (Qdx _ _ _ _ _ _ oo oo oo)) (by rw [Nat.zero_add, show p.length + V.length + 1 - p.length = V.length + 1 by omega])) (zm rfl (zm rfl ?_)))))))))); clear h; intro a w h
    refine Zl (Kl h hS (vs := [_, _, _]) rfl call187 (C_less b26 (Z0.length - p.length) p W hh (some ⟨b29, 0, none⟩) V0.length V dg hWw hV oo hWl hdg oo [(b39, .cells (Xd Q).toArray 22 (0, 0))] [Row (some ⟨b29, 0, none⟩) (Xd V)] List.mem_cons_self) (List.Perm.refl _) ss ss ?_); clear h; rintro v125 σ125 Ψ125 a w ⟨W1, l, hl, rfl, hW1, hW1l, hW1v, rfl, rfl⟩ h
    refine wpList_nil ?_
    refine cW ?_
    refine Zb h rfl (fun hc125 => ?_) (fun hc125 => ?_)
    ·
     skip
     have hl1 : 0 < l := dT hc125
     have hW1lt := Vl hW1
     rw [hW1l] at hW1lt
     have hdg0 : 0 < dg := Nat.pos_of_ne_zero fun e0 => by
      subst e0
      obtain rfl : l = 1 := oo
      omega
     refine gC h (zS (zm rfl (zp (Pure1.cast (v' := .int .u64 ((dg - 1 : Nat) : Int)) (.binOp rfl rfl (fun _ => Zfl _ _ _ _ _)) (by rw [wrap_u64 _ oo oo]; congr 1; omega)) (za rfl (zn (zS (za rfl (zn (zs (zS (zm rfl (zp (.builtin [_] rfl (Zr _ _ _)) (zm rfl (zn (zb ?_))))))))))))))); clear h; intro a w h
     refine Zd (fun (i : Nat) a w => ∃ (W2 : List Nat) (c : Nat), i ≤ V.length ∧ W2.length = V.length + 1 ∧ Wd W2 ∧ c ≤ 1 ∧ Qd W2 + 4294967296 ^ i * (c + Qd (V.drop i)) = Qd W1 + Qd V ∧ St 175 S w0 [(4, .slice (some ⟨b39, 0, none⟩) M M), (6, .int .i64 (s : Int)), (7, .slice (some ⟨b26, 0, none⟩) Z0.length Z0.length), (8, .slice (some ⟨b29, 0, none⟩) V.length V0.length), (9, .int .i64 (V.length : Int)), (10, .int .i64 (((p.length + 1 : Nat) : Int) - 1)), (12, .int .u64 ((dg - 1 : Nat) : Int)), (14, .int .u32 (c : Int)), (128, .slice (some ⟨b29, 0, none⟩) V.length V0.length), (129, .int .i64 (V.length : Int)), (130, .int .i64 (i : Int))] [(b26, .cells (Xd (p ++ W2 ++ hh)).toArray 22 (0, 0)), (b39, .cells (Xd Q).toArray 22 (0, 0))] [Row (some ⟨b29, 0, none⟩) (Xd V)] a w) (fun i => V.length - i) (0) (⟨W1, 0, Nat.zero_le _, hW1l, hW1, by decide, by simp, h.sub sA⟩) ?_; clear h
     rintro i a w ⟨W2, c, hi, hW2l, hW2, hc, hT2, h⟩
     refine gC h (zS (zp (.lss rfl rfl) (zn (zs ?_)))); clear h; intro a w h
     refine Zb h rfl (fun hc131 => ?_) (fun hc131 => ?_)
     ·
      skip
      have hi' : i < V.length := by simpa using hc131
      refine gC h (zk (zs (zb (zS (zm rfl (zp (.indexAddr rfl rfl (Jj _ _ _ _ _ oo)) (zD rfl mm (by simp; omega) isAgg22 sizeOf22 (Zy 0 oo) (.inr rfl) ?_)))))))
      refine za rfl (za rfl (zn (zr (zm rfl (zp (.pQ p.length (.move rfl)) (zm rfl (zp (.pQ (p.length + i) (.add rfl rfl)) (zm rfl (zp (.pQ p.length (.move rfl)) (zm rfl (zp (.pQ (p.length + i) (.add rfl rfl)) (zp (.indexAddr rfl rfl (Jj _ _ _ _ _ oo)) (zd rfl mm isAgg22 sizeOf22 ((Zy 0 (by simp; omega)).trans (by rw [Nat.zero_add, Zdh _ _ _ _ oo])) ?_)))))))))))))
      refine zm rfl (zm rfl (zv [_, _, _] rfl call162 (Zzy _ _ _ (hW2.getD i) (hV.getD i) hc) (zm rfl (zp (.eX rfl) (zp (.eX rfl) (zp (.indexAddr rfl rfl (Jj _ _ _ _ _ oo)) (zt' rfl rfl ((Yz (p ++ W2 ++ hh) (0 + (p.length + i)) ((W2.getD i 0 + V.getD i 0 + c) % 4294967296)).trans (by rw [Nat.zero_add, set_mid _ _ _ _ _ oo])) uu sizeOf22 rfl (by simp; omega) rfl ?_)))))))
      refine za rfl (zn (zr (zp (.add rfl rfl) (zm rfl (zn ?_))))); intro a w h
      refine ⟨i + 1, ⟨W2.set i ((W2.getD i 0 + V.getD i 0 + c) % 4294967296), _, oo, by simpa using hW2l, hW2.set _ _ (Nat.mod_lt _ dd), ?_, Zmt oo hT2, h.sub sA⟩, oo⟩
      have hz := hW2.getD i
      have hy := hV.getD i
      omega
     ·
      skip
      have hi' : i = V.length := by simp at hc131; omega
      subst hi'
      refine gC h (ze (zr (zm rfl (zp (.pQ p.length (.move rfl)) (zm rfl (zp (.pQ (p.length + V.length) (.add rfl rfl)) (zp (.indexAddr rfl rfl (Jj _ _ _ _ _ oo)) (zd rfl mm isAgg22 sizeOf22 ((Zy 0 (by simp; omega)).trans (by rw [Nat.zero_add, Zdh _ _ _ _ oo])) ?_))))))))
      refine zm rfl (zp (Pure1.cast (v' := .int .u32 ((((W2.getD V.length 0 + c) % 4294967296) : Nat) : Int)) (.binOp rfl rfl (fun _ => Zbq _ _ _ _ _)) (by rw [Js]; congr 1)) (zp (.indexAddr rfl rfl (Jj _ _ _ _ _ oo)) (zt' rfl rfl ((Yz (p ++ W2 ++ hh) (0 + (p.length + V.length)) ((W2.getD V.length 0 + c) % 4294967296)).trans (by rw [Nat.zero_add, set_mid _ _ _ _ _ oo])) uu sizeOf22 rfl (by simp; omega) rfl ?_))); intro a w h
      refine wpList_nil ?_
      have hst := Zmt (Z := W2) (Y := V) (i := V.length) oo hT2
      rw [Vc (Nat.le_refl V.length), Nat.add_zero, List.drop_eq_nil_of_le (by omega : V.length ≤ V.length + 1)] at hst
      simp only [Qd, Nat.add_zero] at hst
      have hW3 : Wd (W2.set V.length ((W2.getD V.length 0 + c) % 4294967296)) := hW2.set _ _ (Nat.mod_lt _ dd)
      have hlt3 := Vl hW3
      rw [List.length_set, hW2l] at hlt3
      obtain ⟨_, hk1, hk2⟩ := Zuf hW1v hl hW1lt hend (Nat.le_of_lt (Nat.lt_of_lt_of_le (Vl hV) (Nat.pow_le_pow_right dd (Nat.le_succ _)))) hl1 hst hlt3
      exact ⟨_, dg - 1, oo, hW3, by rw [List.length_set, hW2l], hk1, hk2, h.sub sA⟩
    ·
     skip
     have hl1 : ¬ 0 < l := dF hc125
     have hW1lt := Vl hW1
     rw [hW1l] at hW1lt
     refine wp_skip ?_
     obtain ⟨hk1, hk2⟩ := Qa4 hW1v hW1lt hl hUd hl1
     exact ⟨W1, dg, hdg, hW1, hW1l, hk1, hk2, h.sub sA⟩
   ·
    clear h
    clear hdg hend hUd
    rintro a w ⟨W3, dg, hdg, hW3, hW3l, hk1, hk2, h⟩
    refine gC h (zr (zm rfl (zp (.pQ p.length (.move rfl)) (zm rfl (zp (Pure1.cast (v' := .int .u32 (dg : Int)) (.convert rfl (Yt _)) (by rw [Zf2 hdg])) (zp (.indexAddr rfl rfl (Jj _ _ _ _ _ oo)) (zt' rfl rfl ((Yz Q (0 + p.length) dg).trans (by rw [Nat.zero_add])) uu sizeOf22 rfl (by simp; omega) rfl ?_)))))))
    refine zn (zr (zp (.pQ p.length (.move rfl)) (zp (.sub rfl rfl) (za rfl (zn ?_))))); intro a w h
    exact ⟨p.length, ⟨p ++ W3 ++ hh, Q.set p.length dg, oo, by simp at hZl ⊢; omega, (hpw.append hW3).append hhw, by simpa using hQl, hQ.set _ _ hdg, Zw4 oo oo hT hk1, Zw5 hh0 hk2, h.sub sA⟩, oo⟩
 ·
  skip
  have hκ0 : κ = 0 := by simp at hc44; omega
  subst hκ0
  refine gC h (ze (zs (zS (zm rfl (zm rfl (zn (zb ?_))))))); clear h; intro a w h
  refine Zd (fun (i : Nat) a w => ∃ R : List Nat, i ≤ s ∧ Wd R ∧ R.length = Z0.length ∧ Qd R = Qd Z / 2 ^ i ∧ St 175 S w0 [(4, .slice (some ⟨b39, 0, none⟩) M M), (6, .int .i64 (s : Int)), (7, .slice (some ⟨b26, 0, none⟩) R.length Z0.length), (167, .int .i64 (s : Int)), (168, .int .i64 (i : Int))] [(b26, .cells (Xd R).toArray 22 (0, 0)), (b39, .cells (Xd Q).toArray 22 (0, 0))] [Row (some ⟨b29, 0, none⟩) (Xd V)] a w) (fun i => s - i) (0) (⟨Z, Nat.zero_le _, hZ, hZl, by simp, by rw [hZl]; exact h.sub sA⟩) ?_; clear h
  rintro i a w ⟨R, hi, hR, hRl, hRv, h⟩
  refine gC h (zS (zp (.lss rfl rfl) (zn (zs ?_)))); clear h; intro a w h
  refine Zb h rfl (fun hc169 => ?_) (fun hc169 => ?_)
  ·
   skip
   have hi' : i < s := by simpa using hc169
   refine gC h (zk (zs (zb (zr (zm rfl ?_))))); clear h; intro a w h
   refine Zl (Kl h hS (vs := [_]) rfl call188 (C_half b26 Z0.length R hR oo [(b39, .cells (Xd Q).toArray 22 (0, 0))] [Row (some ⟨b29, 0, none⟩) (Xd V)]) (List.Perm.refl _) ss ss ?_); clear h; rintro v171 σ171 Ψ171 a w ⟨R2, hR2, hR2l, hR2v, rfl, rfl⟩ h
   refine gL h (zn (zr (zp (.add rfl rfl) (zm rfl (zn ?_))))); clear h; intro a w h
   exact ⟨i + 1, ⟨R2, oo, hR2, oo, by rw [hR2v, hRv, Nat.div_div_eq_div_mul, ← Nat.pow_succ], by rw [hR2l]; exact h.sub sA⟩, oo⟩
  ·
   skip
   have hi' : i = s := by simp at hc169; omega
   refine gC h (ze (zS (zm rfl (zm rfl (za rfl (za rfl (zn (zt ?_)))))))); clear h; intro a w h
   subst hi'
   simp only [List.drop_zero, Nat.pow_zero, Nat.one_mul] at hT hR
   obtain ⟨hq, hr⟩ := Zub (hT.trans hZ0v) ‹Qd Z < Qd V› hVv
   replace h := h.shareAll hS (Xd R) rfl
   replace h := h.shareAll hS (Xd Q) rfl
   rw [← hQl] at h
   refine Jm (Ψ := [Row (some ⟨b39, 0, none⟩) (Xd Q), Row (some ⟨b26, 0, none⟩) (Xd R)]) h (Xe h rfl (.tmp rfl) (.tmp rfl)) ⟨_, _, _, _, Q, R, rfl, hQ, ‹Wd R›, oo, by omega, oo, by omega, hq, by rw [hRv, hr], rfl⟩ ss
end
section
theorem Zvf {m : Nat} (h : m ≠ 0) : (wds m).getD ((wds m).length - 1) 0 ≠ 0 := by
 have hne : wds m ≠ [] := fun e => h (by rw [← Jk m, e]; rfl)
 have := Zh6 m hne
 rw [List.getLast_eq_getElem] at this
 have hl : (wds m).length - 1 < (wds m).length := by have := List.length_pos_iff.2 hne; omega
 simpa [List.getD, hl] using this
theorem Zps {m : Nat} (h : m ≠ 0) : 0 < (wds m).length := List.length_pos_iff.2 fun e => h (by rw [← Jk m, e]; rfl)
theorem Yx {n m : Nat} (h : n ≤ m) : (wds n).length ≤ (wds m).length := Nat.le_of_not_lt fun hl => by have := Zet hl; omega
theorem Qdp {m : Nat} (h : (wds m).length = 1) : (wds m).getD 0 0 = m := by
 have e := Jk m
 match hw : wds m, h with
 | [x], _ => rw [hw] at e; simpa [Qd] using e
theorem Qfw (n m : Nat) (hn : (wds n).length ≤ 500000000000) (hm : (wds m).length ≤ 500000000000) (h0 : m ≠ 0) : Yc Tryz.prog 124 [Vt n, Vt m] (.tuple #[Vt (n / m), Vt (n % m), .bool true]) := by
 refine fn_intro func124 rfl ntmps124 nb ?_
 intro S w0 a hS h
 refine gC h (zS (zx rfl fun b2 => zx rfl fun b3 => zz zeroValue58 fun b4 => zz zeroValue58 fun b5 => za rfl (zn (zs (zb (zS (zd rfl mr isAgg58 sizeOf58 Zg ?_)))))))
 refine zv [_] rfl call157 (Qdb m) (za rfl (zn ?_)); intro a w h
 refine cW ?_
 refine Zb h rfl (fun hc12 => (by exfalso; exact h0 (of_decide_eq_true hc12))) (fun hc12 => ?_)
 refine gC h (zS (zd rfl mr isAgg58 sizeOf58 Zg ?_))
 refine zd rfl mr isAgg58 sizeOf58 Zg ?_
 refine zv [_, _] rfl call158 (C_Cmp n m oo oo) (zp (.lss rfl rfl) (za rfl (zn ?_))); intro a w h
 refine cW ?_
 refine Zb h rfl (fun hc17 => ?_) (fun hc17 => ?_)
 ·
  skip
  have hlt : n < m := by rw [Zia] at hc17; exact of_decide_eq_true hc17
  refine gC h (zs (yD Za [0, 1, 2, 3, 4] (Zc kk) (yp rfl (.build [] rfl (Zmq)) ?_))); clear h
  refine Zab [4] rfl kk rfl mr isAgg58 sizeOf58 Zg (fun a w σx hst => by intro t ht; simp only [List.mem_cons, List.not_mem_nil, or_false] at ht; rcases ht with rfl <;> exact ⟨_, rfl, by have h1 := (List.pairwise_append.1 hst.nd).2.1; simp at h1; dsimp only; omega⟩) dd ?_
  refine yt rfl rfl rfl Zq uu sizeOf58 rfl nb rfl ?_
  refine yt rfl rfl rfl Zq uu sizeOf58 rfl nb rfl ?_
  refine yp rfl (.assign rfl) (yn (zt ?_)); intro a w h
  refine Jr h (Zh8 h rfl (.cell rfl mr isAgg58 sizeOf58 Zg) (.cell rfl mr isAgg58 sizeOf58 Zg) (.tmp rfl)) ?_
  rw [Nat.div_eq_of_lt hlt, Nat.mod_eq_of_lt hlt]; rfl
 ·
  skip
  have hle : m ≤ n := by rw [Zia] at hc17; exact Nat.le_of_not_lt (of_decide_eq_false hc17)
  refine gC h (zS (zp (.fA rfl Ku) (zd rfl mr isAgg9 sizeOf9 Qi ?_)))
  refine zp (.binOp rfl rfl (fun _ => Kj _ _ _ _ _)) (za rfl (zn ?_)); intro a w h
  refine cW ?_
  refine Zb h rfl (fun hc24 => ?_) (fun hc24 => ?_)
  ·
   skip
   have ha : n < 18446744073709551616 := Jh.1 (by simpa using hc24)
   have hb : m < 18446744073709551616 := oo
   refine gC h (zs (yD Za [0, 1, 2, 3, 4, 5, 6, 7, 8, 9, 10, 11, 12, 13, 14] (Zc kk) (yp rfl (.fA rfl Vn) (yd rfl rfl mr isAgg56 sizeOf56 Ql ?_)))); clear h
   refine yp rfl (.fA rfl Vn) (yd rfl rfl mr isAgg56 sizeOf56 Ql ?_)
   refine yp rfl (Pure1.cast (v' := .int .u64 ((n / m : Nat) : Int)) (.binOp rfl rfl (fun _ => Vx _ _ _ _ _ (by rw [Qp hb]; omega))) (by rw [Qp ha, Qp hb, Yn, Zd2 (Nat.lt_of_le_of_lt (Nat.div_le_self _ _) ha)])) (yp rfl (.build [(_, _)] rfl (Zfx _)) (yp rfl (.fA rfl Vn) ?_))
   refine Zab [4] rfl kk rfl mr isAgg56 sizeOf56 Ql (fun a w σx hst => by intro t ht; simp only [List.mem_cons, List.not_mem_nil, or_false] at ht; rcases ht with rfl <;> exact ⟨_, rfl, by have h1 := (List.pairwise_append.1 hst.nd).2.1; simp at h1; dsimp only; omega⟩) dd ?_
   refine yp rfl (.fA rfl Vn) ?_
   refine Zab [4] rfl kk rfl mr isAgg56 sizeOf56 Ql (fun a w σx hst => by intro t ht; simp only [List.mem_cons, List.not_mem_nil, or_false] at ht; rcases ht with rfl <;> exact ⟨_, rfl, by have h1 := (List.pairwise_append.1 hst.nd).2.1; simp at h1; dsimp only; omega⟩) dd ?_
   refine yp rfl (Pure1.cast (v' := .int .u64 ((n % m : Nat) : Int)) (.binOp rfl rfl (fun _ => Vm _ _ _ _ _ (by rw [Qp hb]; omega))) (by rw [Qp ha, Qp hb, Yi])) (yp rfl (.build [(_, _)] rfl (Zfx _)) (yt rfl rfl rfl Zq uu sizeOf58 rfl nb rfl ?_))
   refine yt rfl rfl rfl Zq uu sizeOf58 rfl nb rfl ?_
   refine yp rfl (.assign rfl) (yn (zt ?_)); intro a w h
   refine Jr h (Zh8 h rfl (.cell rfl mr isAgg58 sizeOf58 Zg) (.cell rfl mr isAgg58 sizeOf58 Zg) (.tmp rfl)) ?_
   rw [Vt, Vt, Qp (Nat.lt_of_le_of_lt (Nat.div_le_self _ _) ha), Vi (Nat.lt_of_le_of_lt (Nat.div_le_self _ _) ha), Qp (Nat.lt_of_le_of_lt (Nat.mod_le _ _) ha), Vi (Nat.lt_of_le_of_lt (Nat.mod_le _ _) ha)]
  ·
   skip
   have ha : ¬ n < 18446744073709551616 := fun hn => by have := Jh.2 hn; simp [this] at hc24
   refine gC h (zk (zS (zd rfl mr isAgg58 sizeOf58 Zg ?_)))
   refine zf [_] rfl call130 (Za2 m oo) ?_; rintro v41 Ψ41 ⟨aY, cY, rfl, hcY, rfl⟩
   refine za rfl (zn (zs (zS (zm rfl (zp (.builtin [_] rfl (Zr _ _ _)) (zp (.eql rfl rfl) (zn ?_))))))); intro a w h
   refine cW ?_
   refine Zb h rfl (fun hc44 => ?_) (fun hc44 => ?_)
   ·
    skip
    have h1 : (wds m).length = 1 := Znv (b := 1) hc44
    have hm1 := Qdp h1
    have hm2 := (Wd.wds m).getD 0
    rw [hm1] at hm2
    have hlt : 0 < (wds m).length := oo
    obtain ⟨bY, bYo, bYe⟩ := h.row_addr (ad := aY) (M := Xd (wds m)) ss (by simp; intro e; simp [e] at hlt)
    subst bYe
    refine gC h (zs (yD Za [0, 2, 3, 4, 1, 5, 6, 7, 8, 9, 10] (Zc kk) (yd rfl rfl mr isAgg58 sizeOf58 Zg ?_))); clear h
    refine ym rfl rfl (yp rfl (.indexAddr rfl rfl (Jj _ _ _ _ 0 oo)) ?_)
    refine Zj rfl kk rfl mm (by simp; omega) isAgg22 sizeOf22 ((Zy 0 oo).trans (by rw [hm1])) (.inr rfl) dd ?_
    refine yf [_] rfl rfl call130 (Za2 n oo) ?_; rintro v47 Ψ47 ⟨aX, cX, rfl, hcX, rfl⟩
    refine Zfa rfl kk (vs := [_, _]) rfl call134 (Qfj aX cX (wds n) m (Wd.wds n) oo oo hm2) ss dd ?_; rintro v51 σ51 ⟨bq, Q, rfl, hQ, hQl, hQv, rfl⟩
    refine ym rfl rfl (yp rfl (.eX rfl) (yp rfl (.eX rfl) (yp rfl (.assign rfl) (yp rfl (.assign rfl) (yn (zS ?_)))))); intro a w h
    replace h := h.shareAll hS (Xd Q) rfl
    refine gL h (zm rfl (zw [_] rfl call129 (Qfk _ _ Q hQ (Nat.le_refl _) oo) (zm rfl (zp (Pure1.cast (v' := .int .u64 ((n % m : Nat) : Int)) (.convert rfl (Ztb _)) (by rw [Jk, Zd2 (Nat.lt_trans (Nat.mod_lt _ oo) oo)])) (zp (.build [(_, _)] rfl (Zfx _)) (zt' rfl rfl Zq uu sizeOf58 rfl nb rfl ?_))))))
    refine zt' rfl rfl Zq uu sizeOf58 rfl nb rfl ?_; intro a w h
    refine gL h (za rfl (zn (zt ?_))); clear h; intro a w h
    refine Jr h (Zh8 h rfl (.cell rfl mr isAgg58 sizeOf58 Zg) (.cell rfl mr isAgg58 sizeOf58 Zg) (.tmp rfl)) ?_
    have hr : n % m < 18446744073709551616 := Nat.lt_trans (Nat.mod_lt _ oo) oo
    rw [hQv, Jk, Vt, Vt, Qp hr, Vi hr]
   ·
    skip
    have h1 : (wds m).length ≠ 1 := Znu (b := 1) hc44
    have h2 := Zps h0
    have h3 := Yx hle
    refine gC h (zk (zS (zd rfl mr isAgg58 sizeOf58 Zg ?_)))
    refine zf [_] rfl call130 (Za2 n oo) ?_; rintro v61 Ψ61 ⟨aX, cX, rfl, hcX, rfl⟩
    refine zm rfl (zf [_, _] rfl call159 (C_long aX cX (wds n) aY cY (wds m) (Wd.wds n) (Wd.wds m) hn oo h3 (Zvf h0)) ?_); rintro v63 Ψ63 ⟨a1, c1, a2, c2, Q, R, rfl, hQ, hR, hQc, hRc, hQl, hRl, hQv, hRv, rfl⟩
    refine zm rfl (zp (.eX rfl) (zp (.eX rfl) (za rfl (za rfl (zn (zS (zm rfl (zw [_] rfl call129 (Qfk _ _ Q hQ hQc oo) (zm rfl (zw [_] rfl call129 (Qfk _ _ R hR hRc oo) (zt' rfl rfl Zq uu sizeOf58 rfl nb rfl ?_)))))))))))
    refine zt' rfl rfl Zq uu sizeOf58 rfl nb rfl ?_; intro a w h
    refine gL h (za rfl (zn (zt ?_))); clear h; intro a w h
    refine Jr h (Zh8 h rfl (.cell rfl mr isAgg58 sizeOf58 Zg) (.cell rfl mr isAgg58 sizeOf58 Zg) (.tmp rfl)) ?_
    rw [hQv, hRv, Jk, Jk]
theorem C_Gcd (n m : Nat) (hn : (wds n).length ≤ 500000000000) (hm : (wds m).length ≤ 500000000000) : Yc Tryz.prog 122 [Vt n, Vt m] (Vt (Nat.gcd n m)) := by
 refine fn_intro func122 rfl ntmps122 nb ?_
 intro S w0 a hS h
 refine gC h (zS (zx rfl fun b2 => zx rfl fun b3 => zz zeroValue58 fun b4 => zn (zs (zb ?_)))); clear h; intro a w h
 refine Zd (fun (y : Nat) a w => ∃ x : Nat, (wds x).length ≤ 500000000000 ∧ (wds y).length ≤ 500000000000 ∧ Nat.gcd x y = Nat.gcd n m ∧ St 21 S w0 [(2, pB b2), (3, pB b3), (4, pB b4)] [(b4, .cells (Vt 0).cells 58 (0, 0)), (b3, .cells (Vt y).cells 58 (0, 0)), (b2, .cells (Vt x).cells 58 (0, 0))] [] a w) (fun y => y) (m) (⟨n, hn, hm, rfl, h.sub sA⟩) ?_; clear h
 rintro y a w ⟨x, hx, hy, hg, h⟩
 refine gC h (zs (zS (zd rfl mr isAgg58 sizeOf58 Zg ?_)))
 refine zv [_] rfl call157 (Qdb y) (zp (.unOp rfl (Yu _)) (zn ?_)); intro a w h
 refine cW ?_
 refine Zb h rfl (fun hc10 => ?_) (fun hc10 => ?_)
 ·
  skip
  have hy0 : y ≠ 0 := by simpa using hc10
  refine gC h (zk (zb (zS (zd rfl mr isAgg58 sizeOf58 Zg ?_))))
  refine zd rfl mr isAgg58 sizeOf58 Zg ?_
  refine zv [_, _] rfl call124 (Qfw x y hx hy hy0) (zm rfl (zp (.eX rfl) (zp (.eX rfl) (zp (.eX rfl) (zz zeroValue58 fun b5 => zz zeroValue58 fun b6 => zt' rfl rfl Zq uu sizeOf58 rfl nb rfl ?_)))))
  refine zt' rfl rfl Zq uu sizeOf58 rfl nb rfl ?_; intro a w h
  refine gL h (za rfl (zn (yD Za [0, 1, 2, 3] (Zc kk) (yd rfl rfl mr isAgg58 sizeOf58 Zg ?_)))); clear h
  refine Zab [2] rfl kk rfl mr isAgg58 sizeOf58 Zg (fun a w σx hst => by intro t ht; simp only [List.mem_cons, List.not_mem_nil, or_false] at ht; rcases ht with rfl <;> exact ⟨_, rfl, by have h1 := (List.pairwise_append.1 hst.nd).2.1; simp at h1; dsimp only; omega⟩) dd ?_
  refine yt rfl rfl rfl Zq uu sizeOf58 rfl nb rfl ?_
  refine yt rfl rfl rfl Zq uu sizeOf58 rfl nb rfl ?_
  refine yn ?_; intro a w h
  exact ⟨x % y, ⟨y, hy, Nat.le_trans (Yx (Nat.le_of_lt (Nat.mod_lt _ (Nat.pos_of_ne_zero hy0)))) hy, by rw [← hg, Nat.gcd_comm y (x % y), ← Nat.gcd_rec, Nat.gcd_comm], (h.drop (.cons _ (.cons _ (List.Sublist.refl _)))).sub sA⟩, Nat.mod_lt _ (Nat.pos_of_ne_zero hy0)⟩
 ·
  skip
  have hy0 : y = 0 := by simpa using hc10
  subst hy0
  refine gC h (ze (zS (zd rfl mr isAgg58 sizeOf58 Zg ?_)))
  refine zt' rfl rfl Zq uu sizeOf58 rfl nb rfl ?_; intro a w h
  refine wpList_nil (wp_ret ?_)
  refine Jr h (Ze h rfl (.cell rfl mr isAgg58 sizeOf58 Zg)) ?_
  rw [← hg, Nat.gcd_zero_right]
end
section
theorem Qe5 (w : World) : (Instr.build 60 [].toArray).run Tryz.prog w = .ok (.agg #[.int .u64 0, .string ⟨#[]⟩]) w := by simp [go_sem]
theorem Qe6 (x0_0 : Value) (x0_1 : Value) (w : World) : (Instr.build 60 [(0, .agg #[x0_0, x0_1])].toArray).run Tryz.prog w = .ok (.agg #[x0_0, x0_1]) w := by simp [go_sem]
theorem Zo1 (x0_0 : Value) (x0_1 : Value) (x1 : Bool) (w : World) : (Instr.build 62 [(0, .agg #[x0_0, x0_1]), (1, .bool x1)].toArray).run Tryz.prog w = .ok (.agg #[x0_0, x0_1, .bool x1]) w := by simp [go_sem]
theorem Qs {c0 c1 c2 v0 v1 v2 : Value} : Qr #[c0, c1, c2] 0 [v0, v1, v2] = #[v0, v1, v2] := rfl
theorem Zt {c0 c1 c2 : Value} : Qv true 3 #[c0, c1, c2] 0 = some (.agg #[c0, c1, c2]) := rfl
theorem Zb0 {b off : Nat} (w : World) : (Instr.fieldAt 62 (.pointer (some ⟨b, off, none⟩)) 1).run Tryz.prog w = .ok (.pointer (some ⟨b, off + 2, none⟩)) w := by
 simp [go_sem]
theorem Zb8 {c0 c1 c2 : Value} : Qv false 1 #[c0, c1, c2] 2 = some c2 := rfl
theorem Gg {b off : Nat} (w : World) : (Instr.fieldAt 62 (.pointer (some ⟨b, off, none⟩)) 0).run Tryz.prog w = .ok (.pointer (some ⟨b, off + 0, none⟩)) w := by
 simp [go_sem]
theorem Zac {b off : Nat} (w : World) : (Instr.fieldAt 60 (.pointer (some ⟨b, off, none⟩)) 0).run Tryz.prog w = .ok (.pointer (some ⟨b, off + 0, none⟩)) w := by
 simp [go_sem]
theorem Xg {c0 c1 c2 : Value} : Qv true 2 #[c0, c1, c2] 0 = some (.agg #[c0, c1]) := rfl
def Zck (z : Int) : Nat := (wds z.natAbs).length
def sgZ (neg : Bool) (n : Nat) : Int := if neg then -(n : Int) else (n : Int)
theorem Zcj (neg : Bool) (n : Nat) : (sgZ neg n).natAbs = n := by unfold sgZ; split <;> omega
theorem Zrx (z : Int) : sgZ (decide (z < 0)) z.natAbs = z := by unfold sgZ; split <;> simp_all <;> omega
theorem Zlg (neg : Bool) (n : Nat) : decide (sgZ neg n < 0) = (neg && !decide (n = 0)) := by
 unfold sgZ; cases neg <;> by_cases h : n = 0 <;> simp [h] <;> omega
theorem Qep (X Y : Operand) (n m : Nat) (w : World) : (do eqGuard .eql 60 X Y (Vt n) (Vt m); Go.binOp .eql 60 (Vt n) (Vt m) : Sem Value).run Tryz.prog w = .ok (.bool (decide (n = m))) w := by
 simp [go_sem]
 have hb : ((Zau n).toList = (Zau m).toList) ↔ Zau n = Zau m := by have := Zcq (Zau n) (Zau m); rw [Bool.eq_iff_iff] at this; simpa using this
 by_cases h : n = m
 · subst h; simp
 ·
  have hne := fun h1 h2 => h (Zma h1 h2)
  by_cases h1 : Ze5 n = Ze5 m
  · simp only [h, h1, hb, if_true, decide_false]; exact if_neg (hne h1)
  · simp [h, h1]
theorem Zza (n : Nat) : Yc Tryz.prog 131 [Vt n] (.bool (decide (n = 0))) := by
 refine fn_intro func131 rfl ntmps131 nb ?_
 intro S w0 a hS h
 refine gC h (zS (zx rfl fun b1 => za rfl (zn (zS (zd rfl mr isAgg60 sizeOf60 Zg ?_)))))
 refine zp (Pure1.cast (v' := Vt 0) (.build [] rfl (Qe5)) (by rfl)) (zp (.binOp rfl rfl (fun _ => Qep _ _ n 0 _)) (za rfl (zn (zt ?_)))); intro a w h
 exact Zag h
theorem Zfk (neg : Bool) (n : Nat) : Yc Tryz.prog 108 [.bool neg, Vt n] (encZ (sgZ neg n)) := by
 refine fn_intro func108 rfl ntmps108 nb ?_
 intro S w0 a hS h
 refine gC h (zS (zx rfl fun b3 => zz zeroValue62 fun b4 => zn (zS (zd rfl mr isAgg58 sizeOf58 Zg ?_))))
 refine zp (.build [(_, _)] rfl (Qe6 _ _)) (zz zeroValue60 fun b5 => zt' rfl rfl Zq uu sizeOf60 rfl nb rfl ?_)
 refine zn (zs (yD Za [0, 1, 2, 3, 4, 5, 6, 7, 8] (Zc kk) (yd rfl rfl mr isAgg60 sizeOf60 Zg ?_)))
 refine ym rfl rfl (ym rfl rfl ?_)
 refine Qe (fun hc10  => ?_) (fun hc10  => ?_)
 ·
  skip
  refine yg rfl rfl rfl rfl mr isAgg60 sizeOf60 Zg ?_
  refine Jw rfl rfl rfl kk (vs := [_]) rfl call131 (Zza n) dd ?_
  refine yq rfl rfl rfl (.unOp rfl (Yu _)) (yp rfl (.pickT rfl rfl) (yp rfl (.build [(_, _), (_, _)] rfl (Zo1 _ _ _)) (yt rfl rfl rfl Qs uu sizeOf62 rfl nb rfl ?_)))
  refine yn (zt ?_); intro a w h
  refine Jr h (Ze h rfl (.cell rfl mr isAgg62 sizeOf62 Zt)) ?_
  subst hc10; rw [encZ, Zcj, Zlg]; rfl
 ·
  skip
  refine yo 10 rfl rfl rfl rfl (yo 10 rfl rfl rfl rfl (yo 10 rfl rfl rfl rfl (yp rfl (.pickF rfl rfl) (yp rfl (.build [(_, _), (_, _)] rfl (Zo1 _ _ _)) (yt rfl rfl rfl Qs uu sizeOf62 rfl nb rfl ?_)))))
  refine yn (zt ?_); intro a w h
  refine Jr h (Ze h rfl (.cell rfl mr isAgg62 sizeOf62 Zt)) ?_
  subst hc10; rw [encZ, Zcj, Zlg]; rfl
theorem C_plus (x y : Int) (hx : Zck x ≤ 400000000000) (hy : Zck y ≤ 400000000000) : Yc Tryz.prog 121 [encZ x, encZ y] (encZ (x + y)) := by
 unfold Zck at hx hy
 refine fn_intro func121 rfl ntmps121 nb ?_
 intro S w0 a hS h
 refine gC h (zS (zx rfl fun b2 => zx rfl fun b3 => zz zeroValue62 fun b4 => zn (zs (zS (zp (.fA rfl Zb0) (zd rfl mr isAgg4 sizeOf4 Zb8 ?_))))))
 refine zp (.fA rfl Zb0) (zd rfl mr isAgg4 sizeOf4 Zb8 ?_)
 refine zp (.binOp rfl rfl (fun _ => Zr3 _ underlying4 _ _ _ _)) (zn ?_); intro a w h
 refine cW ?_
 refine Zb h rfl (fun hc13 => ?_) (fun hc13 => ?_)
 ·
  skip
  refine gC h (zs (yD Za [0, 1, 2, 3, 4, 5, 6, 7, 8, 9, 10] (Zc kk) (yp rfl (.fA rfl Zb0) (yd rfl rfl mr isAgg4 sizeOf4 Zb8 ?_)))); clear h
  refine yp rfl (.fA rfl Gg) (yp rfl (.fA rfl Zac) (yd rfl rfl mr isAgg58 sizeOf58 Xg ?_))
  refine yp rfl (.fA rfl Gg) (yp rfl (.fA rfl Zac) (yd rfl rfl mr isAgg58 sizeOf58 Xg ?_))
  refine yv [_, _] rfl rfl call126 (C_Add _ _ oo oo) (yv [_, _] rfl rfl call108 (Zfk _ _) (yt rfl rfl rfl Qs uu sizeOf62 rfl nb rfl ?_))
  refine yn (zt ?_); intro a w h
  refine Jr h (Ze h rfl (.cell rfl mr isAgg62 sizeOf62 Zt)) ?_
  rw [show sgZ (decide (x < 0)) (x.natAbs + y.natAbs) = x + y from by unfold sgZ; by_cases h1 : x < 0 <;> by_cases h2 : y < 0 <;> simp [h1, h2] at hc13 ⊢ <;> omega]
 ·
  skip
  refine gC h (zk (zs (zS (zp (.fA rfl Gg) (zp (.fA rfl Zac) (zd rfl mr isAgg58 sizeOf58 Xg ?_))))))
  refine zp (.fA rfl Gg) (zp (.fA rfl Zac) (zd rfl mr isAgg58 sizeOf58 Xg ?_))
  refine zv [_, _] rfl call125 (Qfm x.natAbs y.natAbs oo oo) (zm rfl (zp (.eX rfl) (zp (.eX rfl) (zz zeroValue58 fun b5 => zt' rfl rfl Zq uu sizeOf58 rfl nb rfl ?_))))
  refine za rfl (zn (zS (zm rfl (zn ?_)))); intro a w h
  refine cW ?_
  refine Zb h rfl (fun hc34 => ?_) (fun hc34 => ?_)
  ·
   skip
   refine gC h (zS (zp (.fA rfl Zb0) (zd rfl mr isAgg4 sizeOf4 Zb8 ?_)))
   refine zd rfl mr isAgg58 sizeOf58 Zg ?_
   refine zv [_, _] rfl call108 (Zfk _ _) (zt' rfl rfl Qs uu sizeOf62 rfl nb rfl ?_); intro a w h
   refine wpList_nil (wp_ret ?_)
   refine Jr h (Ze h rfl (.cell rfl mr isAgg62 sizeOf62 Zt)) ?_
   have hle : y.natAbs ≤ x.natAbs := of_decide_eq_true hc34
   rw [show sgZ (decide (x < 0)) (x.natAbs - y.natAbs) = x + y from by unfold sgZ; by_cases h1 : x < 0 <;> by_cases h2 : y < 0 <;> simp [h1, h2] at hc13 ⊢ <;> omega]
  ·
   skip
   refine gC h (zk (zS (zp (.fA rfl Gg) (zp (.fA rfl Zac) (zd rfl mr isAgg58 sizeOf58 Xg ?_)))))
   refine zp (.fA rfl Gg) (zp (.fA rfl Zac) (zd rfl mr isAgg58 sizeOf58 Xg ?_))
   refine zv [_, _] rfl call125 (Qfm y.natAbs x.natAbs oo oo) (zm rfl (zp (.eX rfl) (zp (.eX rfl) (zz zeroValue58 fun b7 => zt' rfl rfl Zq uu sizeOf58 rfl nb rfl ?_))))
   refine za rfl (zn (zS (zp (.fA rfl Zb0) (zd rfl mr isAgg4 sizeOf4 Zb8 ?_))))
   refine zd rfl mr isAgg58 sizeOf58 Zg ?_
   refine zv [_, _] rfl call108 (Zfk _ _) (zt' rfl rfl Qs uu sizeOf62 rfl nb rfl ?_); intro a w h
   refine wpList_nil (wp_ret ?_)
   refine Jr h (Ze h rfl (.cell rfl mr isAgg62 sizeOf62 Zt)) ?_
   have hle : ¬ y.natAbs ≤ x.natAbs := of_decide_eq_false hc34
   rw [show sgZ (decide (y < 0)) (y.natAbs - x.natAbs) = x + y from by unfold sgZ; by_cases h1 : x < 0 <;> by_cases h2 : y < 0 <;> simp [h1, h2] at hc13 ⊢ <;> omega]
theorem Qfh (x y : Int) (hx : Zck x ≤ 400000000000) (hy : Zck y ≤ 400000000000) : Yc Tryz.prog 127 [encZ x, encZ y] (encZ (x * y)) := by
 unfold Zck at hx hy
 refine fn_intro func127 rfl ntmps127 nb ?_
 intro S w0 a hS h
 refine gC h (zS (zx rfl fun b2 => zx rfl fun b3 => zz zeroValue62 fun b4 => zn (zs (yD Za [0, 1, 2, 3, 4, 5, 6, 7, 8, 9, 10, 11, 12, 13] (Zc kk) (yp rfl (.fA rfl Zb0) (yd rfl rfl mr isAgg4 sizeOf4 Zb8 ?_)))))); clear h
 refine yp rfl (.fA rfl Zb0) (yd rfl rfl mr isAgg4 sizeOf4 Zb8 ?_)
 refine yp rfl (.binOp rfl rfl (fun _ => Yj _ underlying4 _ _ _ _)) (yp rfl (.fA rfl Gg) (yp rfl (.fA rfl Zac) (yd rfl rfl mr isAgg58 sizeOf58 Xg ?_)))
 refine yp rfl (.fA rfl Gg) (yp rfl (.fA rfl Zac) (yd rfl rfl mr isAgg58 sizeOf58 Xg ?_))
 refine yv [_, _] rfl rfl call88 (Zzs _ _ oo oo) (yv [_, _] rfl rfl call108 (Zfk _ _) (yt rfl rfl rfl Qs uu sizeOf62 rfl nb rfl ?_))
 refine yn (zt ?_); intro a w h
 refine Jr h (Ze h rfl (.cell rfl mr isAgg62 sizeOf62 Zt)) ?_
 rw [show sgZ (decide (x < 0) != decide (y < 0)) (x.natAbs * y.natAbs) = x * y from by
  conv => rhs; rw [← Zrx x, ← Zrx y]
  unfold sgZ
  by_cases h1 : x < 0 <;> by_cases h2 : y < 0 <;> simp only [h1, h2, decide_true, decide_false, bne_self_eq_false, Bool.true_bne, Bool.false_bne, Bool.not_true, Bool.not_false, if_true, Bool.false_eq_true, if_false, Int.natCast_mul, Int.neg_mul, Int.mul_neg, Int.neg_neg]]
theorem Zrk (x y : Int) (hx : Zck x ≤ 400000000000) (hy : Zck y ≤ 400000000000) : Yc Tryz.prog 120 [.func (.func 121) #[] #[], encZ x, encZ y] (encZ (x + y)) := by
 refine fn_intro func120 rfl ntmps120 nb ?_
 intro S w0 a hS h
 refine gC h (zS (zx rfl fun b4 => zx rfl fun b5 => zz zeroValue62 fun b6 => zn (zS (zm rfl (zd rfl mr isAgg62 sizeOf62 Zt ?_)))))
 refine zd rfl mr isAgg62 sizeOf62 Zt ?_; intro a w h
 refine Zl (Xr h (fs := []) (cs := []) rfl (vs := [_, _]) rfl call121 (C_plus x y hx hy) dd ?_); clear h; intro a w h
 refine gL h (zt' rfl rfl Qs uu sizeOf62 rfl nb rfl ?_); clear h; intro a w h
 refine wpList_nil (wp_ret ?_)
 refine Jr h (Ze h rfl (.cell rfl mr isAgg62 sizeOf62 Zt)) ?_
 rfl
theorem Zpi (x y : Int) (hx : Zck x ≤ 400000000000) (hy : Zck y ≤ 400000000000) : Yc Tryz.prog 83 [encZ x, encZ y] (encZ (x + y)) := by
 refine fn_intro func83 rfl ntmps83 nb ?_
 intro S w0 a hS h
 refine gC h (zS (zx rfl fun b2 => zx rfl fun b3 => zz zeroValue62 fun b4 => zn (zS (zd rfl mr isAgg62 sizeOf62 Zt ?_))))
 refine zd rfl mr isAgg62 sizeOf62 Zt ?_
 refine zv [_, _, _] rfl call120 (Zrk x y hx hy) (zt' rfl rfl Qs uu sizeOf62 rfl nb rfl ?_); intro a w h
 refine wpList_nil (wp_ret ?_)
 refine Jr h (Ze h rfl (.cell rfl mr isAgg62 sizeOf62 Zt)) ?_
 rfl
theorem Zpd (x y : Int) (hx : Zck x ≤ 400000000000) (hy : Zck y ≤ 400000000000) : Yc Tryz.prog 120 [.func (.func 127) #[] #[], encZ x, encZ y] (encZ (x * y)) := by
 refine fn_intro func120 rfl ntmps120 nb ?_
 intro S w0 a hS h
 refine gC h (zS (zx rfl fun b4 => zx rfl fun b5 => zz zeroValue62 fun b6 => zn (zS (zm rfl (zd rfl mr isAgg62 sizeOf62 Zt ?_)))))
 refine zd rfl mr isAgg62 sizeOf62 Zt ?_; intro a w h
 refine Zl (Xr h (fs := []) (cs := []) rfl (vs := [_, _]) rfl call127 (Qfh x y hx hy) dd ?_); clear h; intro a w h
 refine gL h (zt' rfl rfl Qs uu sizeOf62 rfl nb rfl ?_); clear h; intro a w h
 refine wpList_nil (wp_ret ?_)
 refine Jr h (Ze h rfl (.cell rfl mr isAgg62 sizeOf62 Zt)) ?_
 rfl
theorem Zj5 (x y : Int) (hx : Zck x ≤ 400000000000) (hy : Zck y ≤ 400000000000) : Yc Tryz.prog 86 [encZ x, encZ y] (encZ (x * y)) := by
 refine fn_intro func86 rfl ntmps86 nb ?_
 intro S w0 a hS h
 refine gC h (zS (zx rfl fun b2 => zx rfl fun b3 => zz zeroValue62 fun b4 => zn (zS (zd rfl mr isAgg62 sizeOf62 Zt ?_))))
 refine zd rfl mr isAgg62 sizeOf62 Zt ?_
 refine zv [_, _, _] rfl call120 (Zpd x y hx hy) (zt' rfl rfl Qs uu sizeOf62 rfl nb rfl ?_); intro a w h
 refine wpList_nil (wp_ret ?_)
 refine Jr h (Ze h rfl (.cell rfl mr isAgg62 sizeOf62 Zt)) ?_
 rfl
theorem C_ZNeg (x : Int) : Yc Tryz.prog 132 [encZ x] (encZ (-x)) := by
 refine fn_intro func132 rfl ntmps132 nb ?_
 intro S w0 a hS h
 refine gC h (zS (zx rfl fun b1 => zz zeroValue62 fun b2 => zn (zS (zp (.fA rfl Zb0) (zd rfl mr isAgg4 sizeOf4 Zb8 ?_)))))
 refine zp (.unOp rfl (Yu _)) (zp (.fA rfl Gg) (zp (.fA rfl Zac) (zd rfl mr isAgg58 sizeOf58 Xg ?_)))
 refine zv [_, _] rfl call108 (Zfk _ _) (zt' rfl rfl Qs uu sizeOf62 rfl nb rfl ?_); intro a w h
 refine wpList_nil (wp_ret ?_)
 refine Jr h (Ze h rfl (.cell rfl mr isAgg62 sizeOf62 Zt)) ?_
 rw [show sgZ (!decide (x < 0)) x.natAbs = -x from by unfold sgZ; by_cases h1 : x < 0 <;> simp [h1] <;> omega]
theorem Zzm (x : Int) : Yc Tryz.prog 123 [encZ x] (Vt x.natAbs) := by
 refine fn_intro func123 rfl ntmps123 nb ?_
 intro S w0 a hS h
 refine gC h (zS (zx rfl fun b1 => zz zeroValue58 fun b2 => zn (zS (zp (.fA rfl Gg) (zp (.fA rfl Zac) (zd rfl mr isAgg58 sizeOf58 Xg ?_))))))
 refine zt' rfl rfl Zq uu sizeOf58 rfl nb rfl ?_; intro a w h
 refine wpList_nil (wp_ret ?_)
 refine Jr h (Ze h rfl (.cell rfl mr isAgg58 sizeOf58 Zg)) ?_
 rfl
theorem Zzl (x : Int) : Yc Tryz.prog 90 [encZ x] (.int .i64 x.sign) := by
 refine fn_intro func90 rfl ntmps90 nb ?_
 intro S w0 a hS h
 refine gC h (zS (zx rfl fun b1 => za rfl (zn (zs (zb (zS (zp (.fA rfl Gg) (zd rfl mr isAgg60 sizeOf60 Xg ?_))))))))
 refine zv [_] rfl call131 (Zza x.natAbs) (za rfl (zn ?_)); intro a w h
 refine cW ?_
 refine Zb h rfl (fun hc3 => ?_) (fun hc3 => ?_)
 ·
  skip
  refine gC h (zS (za rfl (zn (zt ?_)))); clear h; intro a w h
  refine Jr h (Ze h rfl (.tmp rfl)) ?_
  rw [show x = 0 by have := of_decide_eq_true hc3; omega]; rfl
 ·
  skip
  refine gC h (zS (zp (.fA rfl Zb0) (zd rfl mr isAgg4 sizeOf4 Zb8 ?_)))
  refine za rfl (zn ?_); intro a w h
  refine cW ?_
  refine Zb h rfl (fun hc7 => ?_) (fun hc7 => ?_)
  ·
   skip
   refine gC h (zS (za rfl (zn (zt ?_)))); clear h; intro a w h
   refine Jr h (Ze h rfl (.tmp rfl)) ?_
   rw [Int.sign_eq_neg_one_of_neg (of_decide_eq_true hc7)]
  ·
   skip
   refine gC h (zk (zS (za rfl (zn (zt ?_))))); clear h; intro a w h
   refine Jr h (Ze h rfl (.tmp rfl)) ?_
   have h1 := of_decide_eq_false hc3; have h2 := of_decide_eq_false hc7; rw [Int.sign_eq_one_of_pos oo]
end
section
theorem Zrd (x : Int) (w : World) : (Go.convert 2 56 (.int .i64 x)).run Tryz.prog w = .ok (.int .u64 (IntKind.u64.wrap x)) w := by
 simp [go_sem]
theorem Qe4 (x0_0 : Value) (x0_1 : Value) (x0_2 : Value) (w : World) : (Instr.build 64 [(0, .agg #[x0_0, x0_1, x0_2])].toArray).run Tryz.prog w = .ok (.agg #[x0_0, x0_1, x0_2, .int .u64 0, .string ⟨#[]⟩]) w := by simp [go_sem]
theorem Zp {c0 c1 c2 c3 c4 v0 v1 v2 v3 v4 : Value} : Qr #[c0, c1, c2, c3, c4] 0 [v0, v1, v2, v3, v4] = #[v0, v1, v2, v3, v4] := rfl
theorem Zh {c0 c1 c2 c3 c4 : Value} : Qv true 5 #[c0, c1, c2, c3, c4] 0 = some (.agg #[c0, c1, c2, c3, c4]) := rfl
theorem Zfu {b off : Nat} (w : World) : (Instr.fieldAt 64 (.pointer (some ⟨b, off, none⟩)) 1).run Tryz.prog w = .ok (.pointer (some ⟨b, off + 3, none⟩)) w := by
 simp [go_sem]
theorem Zc8 {c0 c1 c2 c3 c4 : Value} : Qv true 2 #[c0, c1, c2, c3, c4] 3 = some (.agg #[c3, c4]) := rfl
theorem Zo0 (x0_0 : Value) (x0_1 : Value) (x0_2 : Value) (x1_0 : Value) (x1_1 : Value) (w : World) : (Instr.build 64 [(0, .agg #[x0_0, x0_1, x0_2]), (1, .agg #[x1_0, x1_1])].toArray).run Tryz.prog w = .ok (.agg #[x0_0, x0_1, x0_2, x1_0, x1_1]) w := by simp [go_sem]
theorem Yf {b off : Nat} (w : World) : (Instr.fieldAt 64 (.pointer (some ⟨b, off, none⟩)) 0).run Tryz.prog w = .ok (.pointer (some ⟨b, off + 0, none⟩)) w := by
 simp [go_sem]
theorem Xf {c0 c1 c2 c3 c4 : Value} : Qv true 3 #[c0, c1, c2, c3, c4] 0 = some (.agg #[c0, c1, c2]) := rfl
theorem Zfp (n : Int) (d : Nat) (hd : d ≠ 0) : (mkRat n d).num = sgZ (decide (n.sign < 0)) (n.natAbs / n.natAbs.gcd d) ∧ (mkRat n d).den = d / n.natAbs.gcd d := by
 rw [← Rat.normalize_eq_mkRat hd, Rat.normalize_eq hd]
 refine ⟨?_, rfl⟩
 show n / ((n.natAbs.gcd d : Nat) : Int) = _
 unfold sgZ
 have hg : ((n.natAbs.gcd d : Nat) : Int) ∣ n := Int.ofNat_dvd_left.2 (Nat.gcd_dvd_left _ _)
 have hg0 : n.natAbs.gcd d ≠ 0 := fun h => hd (Nat.gcd_eq_zero_iff.1 h).2
 have hdv := Nat.gcd_dvd_left n.natAbs d
 generalize n.natAbs.gcd d = g at *
 obtain ⟨k, hk⟩ := hdv
 rw [hk, Nat.mul_div_cancel_left k (Nat.pos_of_ne_zero hg0)]
 by_cases h : n < 0
 ·
  have h2 : n.sign < 0 := by rw [Int.sign_eq_neg_one_of_neg h]; decide
  simp only [h2, decide_true, if_true]
  have : n = (g : Int) * -(k : Int) := by rw [Int.mul_neg, ← Int.natCast_mul, ← hk]; omega
  rw [this, Int.mul_ediv_cancel_left _ oo]
 ·
  have h2 : ¬ n.sign < 0 := by
   rcases Int.lt_or_eq_of_le (Int.not_lt.1 h) with h3 | h3
   · rw [Int.sign_eq_one_of_pos h3]; decide
   · rw [← h3]; decide
  simp only [h2, decide_false, Bool.false_eq_true, if_false]
  have : n = (g : Int) * (k : Int) := by rw [← Int.natCast_mul, ← hk]; omega
  rw [this, Int.mul_ediv_cancel_left _ oo]
def Qa (q : Rat) : Nat := max (Zck q.num) (wds q.den).length
theorem Zfs {q : Rat} {k : Nat} (h : Qa q ≤ k) : Zck q.num ≤ k ∧ (wds q.den).length ≤ k := by unfold Qa at h; omega
theorem wds_ge {n : Nat} (h : n ≠ 0) : 4294967296 ^ ((wds n).length - 1) ≤ n := by
 have hne : wds n ≠ [] := fun e => h (by rw [← Jk n, e]; rfl)
 have h2 := Jk n
 rw [← List.dropLast_concat_getLast hne, Xm] at h2
 have h3 := Zh6 _ hne
 simp only [Qd, List.length_dropLast, Nat.mul_zero, Nat.add_zero] at h2
 have h5 : 4294967296 ^ ((wds n).length - 1) * 1 ≤ 4294967296 ^ ((wds n).length - 1) * (wds n).getLast hne := Nat.mul_le_mul_left _ oo
 omega
theorem Zeu {n k : Nat} (h : n < 4294967296 ^ k) : (wds n).length ≤ k := by
 by_cases h0 : n = 0
 · subst h0; simp [Za6]
 ·
  have h1 := wds_ge h0
  have h2 := (Nat.pow_lt_pow_iff_right (a := 4294967296) dd).1 (Nat.lt_of_le_of_lt h1 h)
  omega
theorem Zco (n : Nat) : n < 4294967296 ^ (wds n).length := by
 have := Vl (Wd.wds n); rwa [Jk] at this
theorem Zbn (n m : Nat) : (wds (n * m)).length ≤ (wds n).length + (wds m).length :=
 Zeu (by rw [Nat.pow_add]; exact Nat.mul_lt_mul'' (Zco n) (Zco m))
theorem Zpu (n m : Nat) : (wds (n + m)).length ≤ max (wds n).length (wds m).length + 1 := Zeu (by
 have h1 := Zco n
 have h2 := Zco m
 have h3 : 4294967296 ^ (wds n).length ≤ 4294967296 ^ max (wds n).length (wds m).length := Nat.pow_le_pow_right dd oo
 have h4 : 4294967296 ^ (wds m).length ≤ 4294967296 ^ max (wds n).length (wds m).length := Nat.pow_le_pow_right dd oo
 rw [Nat.pow_succ]; omega)
theorem Ze7 (x y : Int) : Zck (x * y) ≤ Zck x + Zck y := by unfold Zck; rw [Int.natAbs_mul]; exact Zbn _ _
theorem Zlw (x y : Int) : Zck (x + y) ≤ max (Zck x) (Zck y) + 1 := by
 unfold Zck; exact Nat.le_trans (Yx (Int.natAbs_add_le x y)) (Zpu _ _)
theorem Ze8 (n : Int) (d : Nat) (hd : d ≠ 0) : Qa (mkRat n d) ≤ max (Zck n) (wds d).length := by
 obtain ⟨h1, h2⟩ := Zfp n d hd
 unfold Qa Zck
 rw [h1, h2, Zcj]
 have a1 := Yx (Nat.div_le_self n.natAbs (n.natAbs.gcd d))
 have a2 := Yx (Nat.div_le_self d (n.natAbs.gcd d))
 omega
theorem Qt (a b : Rat) : Qa (a + b) ≤ Qa a + Qa b + 1 := by
 rw [Rat.add_def']
 have h := Ze8 (a.num * b.den + b.num * a.den) (a.den * b.den) (Nat.mul_ne_zero a.den_nz b.den_nz)
 have h1 := Zlw (a.num * b.den) (b.num * a.den)
 have h2 := Ze7 a.num b.den
 have h3 := Ze7 b.num a.den
 have h4 := Zbn a.den b.den
 have e1 : Zck (a.den : Int) = (wds a.den).length := rfl
 have e2 : Zck (b.den : Int) = (wds b.den).length := rfl
 unfold Qa at h ⊢
 omega
theorem Zx (a b : Rat) : Qa (a * b) ≤ Qa a + Qa b := by
 rw [Rat.mul_def']
 have h := Ze8 (a.num * b.num) (a.den * b.den) (Nat.mul_ne_zero a.den_nz b.den_nz)
 have h2 := Ze7 a.num b.num
 have h4 := Zbn a.den b.den
 unfold Qa at h ⊢
 omega
theorem Zmu {a b : Rat} (h : a.den = b.den) : mkRat (a.num + b.num) a.den = a + b := by
 rw [Rat.add_def', ← h, ← Int.add_mul, Rat.mkRat_mul_right a.den_nz]
theorem Zy0 {a b : Rat} (ha : a.den = 1) (hb : b.den = 1) : ((a.num + b.num : Int) : Rat) = a + b := by
 rw [← Zmu (a := a) (b := b) oo, ha, Rat.mkRat_one]
theorem Zwr {a b : Rat} (ha : a.den = 1) (hb : b.den = 1) : ((a.num * b.num : Int) : Rat) = a * b := by
 rw [Rat.mul_def', ha, hb, Nat.mul_one, Rat.mkRat_one]
theorem Zgn (y : Rat) (hy : y ≠ 0) : mkRat (sgZ (decide (y.num.sign < 0)) y.den) y.num.natAbs = y⁻¹ := by
 rw [Rat.inv_def]
 have h0 : y.num ≠ 0 := fun h => hy (Rat.num_eq_zero.1 h)
 unfold sgZ
 generalize y.num = m at *
 rcases Int.lt_or_gt_of_ne h0 with h | h
 ·
  have h2 : m.sign < 0 := by rw [Int.sign_eq_neg_one_of_neg h]; decide
  simp only [h2, decide_true, if_true]
  obtain ⟨k, rfl⟩ : ∃ k : Nat, m = -(k : Int) := ⟨m.natAbs, oo⟩
  have e : Rat.divInt (y.den : Int) (-(k : Int)) = Rat.divInt (-(y.den : Int)) (k : Int) := by
   have := Rat.neg_divInt_neg (-(y.den : Int)) (k : Int)
   rwa [Int.neg_neg] at this
  rw [e, Rat.divInt_ofNat, Int.natAbs_neg, Int.natAbs_natCast]
 ·
  have h2 : ¬ m.sign < 0 := by rw [Int.sign_eq_one_of_pos h]; decide
  simp only [h2, decide_false, Bool.false_eq_true, if_false]
  obtain ⟨k, rfl⟩ : ∃ k : Nat, m = (k : Int) := ⟨m.natAbs, oo⟩
  rw [Rat.divInt_ofNat, Int.natAbs_natCast]
theorem Zv5 (x : Int) (w : World) : (Op.unary .neg (.int .u64 x)).run Tryz.prog w = .ok (.int .u64 (IntKind.u64.wrap (0 - x))) w := by simp [Op.unary, Op.intArith]
theorem C_ZOf (n : Int) (h0 : -9223372036854775808 ≤ n) (h1 : n ≤ 9223372036854775807) : Yc Tryz.prog 75 [.int .i64 n] (encZ n) := by
 refine fn_intro func75 rfl ntmps75 nb ?_
 intro S w0 a hS h
 refine gC h (zS (zz zeroValue62 fun b2 => zn (zs (zS (zm rfl (zp (.lss rfl rfl) (zn ?_))))))); clear h; intro a w h
 refine cW ?_
 refine Zb h rfl (fun hc4 => ?_) (fun hc4 => ?_)
 ·
  skip
  have hn : n < 0 := of_decide_eq_true hc4
  refine gC h (zS (zm rfl (zp (.convert rfl (Zrd _)) (zp (.unOp rfl (fun w => by rw [Zv5, Zax, Zax, show (0 - n % 18446744073709551616) % 18446744073709551616 = ((n.natAbs : Nat) : Int) by omega])) (zv [_] rfl call109 (C_Of n.natAbs oo) (zv [_, _] rfl call108 (Zfk true n.natAbs) (zt' rfl rfl Qs uu sizeOf62 rfl nb rfl ?_))))))); clear h; intro a w h
  refine wpList_nil (wp_ret ?_)
  refine Jr h (Ze h rfl (.cell rfl mr isAgg62 sizeOf62 Zt)) ?_
  rw [show sgZ true n.natAbs = n from by unfold sgZ; simp; omega]
 ·
  skip
  have hn : ¬ n < 0 := of_decide_eq_false hc4
  refine gC h (zk (zS (zm rfl (zp (Pure1.cast (v' := .int .u64 ((n.natAbs : Nat) : Int)) (.convert rfl (Zrd _)) (by rw [Zax]; congr 1; omega)) (zv [_] rfl call109 (C_Of n.natAbs oo) (zv [_, _] rfl call108 (Zfk false n.natAbs) (zt' rfl rfl Qs uu sizeOf62 rfl nb rfl ?_))))))); clear h; intro a w h
  refine wpList_nil (wp_ret ?_)
  refine Jr h (Ze h rfl (.cell rfl mr isAgg62 sizeOf62 Zt)) ?_
  rw [show sgZ false n.natAbs = n from by unfold sgZ; simp; omega]
theorem Zrj (n : Int) : Yc Tryz.prog 74 [encZ n] (Zv (n : Rat)) := by
 refine fn_intro func74 rfl ntmps74 nb ?_
 intro S w0 a hS h
 refine gC h (zS (zx rfl fun b1 => zz zeroValue64 fun b2 => zn (zS (zd rfl mr isAgg62 sizeOf62 Zt ?_))))
 refine zp (.build [(_, _)] rfl (Qe4 _ _ _)) (zt' rfl rfl Zp uu sizeOf64 rfl nb rfl ?_); intro a w h
 refine wpList_nil (wp_ret ?_)
 refine Jr h (Ze h rfl (.cell rfl mr isAgg64 sizeOf64 Zh)) ?_
 rfl
theorem Zhl (x : Rat) : Yc Tryz.prog 82 [Zv x] (.bool (decide (x.den = 1))) := by
 refine fn_intro func82 rfl ntmps82 nb ?_
 intro S w0 a hS h
 refine gC h (zS (zx rfl fun b1 => za rfl (zn (zS (zp (.fA rfl Zfu) (zd rfl mr isAgg58 sizeOf58 Zc8 ?_))))))
 refine zp (Pure1.cast (v' := Vt 0) (.build [] rfl (Zmq)) (by rfl)) (zp (.binOp rfl rfl (fun _ => Zlj _ _ (x.den - 1) 0 _)) (za rfl (zn (zt ?_)))); intro a w h
 refine Jr h (Ze h rfl (.tmp rfl)) ?_
 have := x.den_pos; show Value.bool _ = Value.bool _; congr 1; apply decide_eq_decide.2; omega
theorem Zgv (x : Rat) (h0 : (wds x.den).length ≤ 400000000000) : Yc Tryz.prog 85 [Zv x] (Vt x.den) := by
 refine fn_intro func85 rfl ntmps85 nb ?_
 intro S w0 a hS h
 refine gC h (zS (zx rfl fun b1 => zz zeroValue58 fun b2 => zn (zs (yD Za [0, 1, 2, 3, 4] (Zc kk) (yp rfl (.fA rfl Zfu) (yd rfl rfl mr isAgg58 sizeOf58 Zc8 ?_)))))); clear h
 refine yv [_] rfl rfl call109 (C_Of 1 dd) (yv [_, _] rfl rfl call126 (C_Add (x.den - 1) 1 (Nat.le_trans (Yx (Nat.sub_le _ _)) oo) (Nat.le_trans (Kw dd) dd)) (yt rfl rfl rfl Zq uu sizeOf58 rfl nb rfl ?_))
 refine yn (zt ?_); intro a w h
 refine Jr h (Ze h rfl (.cell rfl mr isAgg58 sizeOf58 Zg)) ?_
 rw [Nat.sub_add_cancel x.den_pos]
theorem Zic (x : Rat) (h0 : (wds x.den).length ≤ 400000000000) : Yc Tryz.prog 87 [Zv x] (encZ (x.den : Int)) := by
 refine fn_intro func87 rfl ntmps87 nb ?_
 intro S w0 a hS h
 refine gC h (zS (zx rfl fun b1 => zz zeroValue62 fun b2 => zn (zS (zd rfl mr isAgg64 sizeOf64 Zh ?_))))
 refine zv [_] rfl call85 (Zgv x h0) (zv [_, _] rfl call108 (Zfk false x.den) (zt' rfl rfl Qs uu sizeOf62 rfl nb rfl ?_)); intro a w h
 refine wpList_nil (wp_ret ?_)
 refine Jr h (Ze h rfl (.cell rfl mr isAgg62 sizeOf62 Zt)) ?_
 rfl
theorem Zdm (n : Int) (d : Nat) (hd : d ≠ 0) (hn : Zck n ≤ 400000000000) (hdl : (wds d).length ≤ 400000000000) : Yc Tryz.prog 84 [encZ n, Vt d] (Zv (mkRat n d)) := by
 unfold Zck at hn
 have hg0 : n.natAbs.gcd d ≠ 0 := fun h => hd (Nat.gcd_eq_zero_iff.1 h).2
 have hgl : (wds (n.natAbs.gcd d)).length ≤ 400000000000 := Nat.le_trans (Yx (Nat.gcd_le_right _ (Nat.pos_of_ne_zero hd))) hdl
 have hq : 1 ≤ d / n.natAbs.gcd d := Nat.div_pos (Nat.gcd_le_right _ (Nat.pos_of_ne_zero hd)) (Nat.pos_of_ne_zero hg0)
 have hql : (wds (d / n.natAbs.gcd d)).length ≤ 400000000000 := Nat.le_trans (Yx (Nat.div_le_self _ _)) hdl
 obtain ⟨hm1, hm2⟩ := Zfp n d hd
 refine fn_intro func84 rfl ntmps84 nb ?_
 intro S w0 a hS h
 refine gC h (zS (zx rfl fun b2 => zx rfl fun b3 => zz zeroValue64 fun b4 => zn (zs (yD Za [0, 2, 1, 3, 4, 5] (Jy ⟨.inl rfl, .inl rfl, .inl rfl, .inl rfl, .inr ⟨5, 58, _, _, _, rfl, rfl, by decide, _, zeroValue58⟩, .inl rfl, trivial⟩) (yd rfl rfl mr isAgg62 sizeOf62 Zt ?_))))); clear h
 refine yd rfl rfl mr isAgg58 sizeOf58 Zg ?_
 refine yv [_] rfl rfl call123 (Zzm n) (yv [_, _] rfl rfl call122 (C_Gcd _ _ oo oo) (yz rfl zeroValue58 fun b5 => yt rfl rfl rfl Zq uu sizeOf58 rfl nb rfl ?_))
 refine yn (zs (yD Za [0, 2, 1, 3, 4, 5, 6, 7, 8, 9, 10, 11, 12] (Jy ⟨.inl rfl, .inl rfl, .inl rfl, .inl rfl, .inl rfl, .inl rfl, .inl rfl, .inl rfl, .inr ⟨6, 58, _, _, _, rfl, rfl, by decide, _, zeroValue58⟩, .inr ⟨7, 58, _, _, _, rfl, rfl, by decide, _, zeroValue58⟩, .inl rfl, .inl rfl, .inl rfl, trivial⟩) (yd rfl rfl mr isAgg62 sizeOf62 Zt ?_)))
 refine yd rfl rfl mr isAgg58 sizeOf58 Zg ?_
 refine yv [_] rfl rfl call123 (Zzm n) (yv [_, _] rfl rfl call124 (Qfw n.natAbs (n.natAbs.gcd d) oo oo hg0) (ym rfl rfl (yp rfl (.eX rfl) (yp rfl (.eX rfl) (yp rfl (.eX rfl) (yz rfl zeroValue58 fun b6 => yz rfl zeroValue58 fun b7 => yt rfl rfl rfl Zq uu sizeOf58 rfl nb rfl ?_))))))
 refine yt rfl rfl rfl Zq uu sizeOf58 rfl nb rfl ?_
 refine yp rfl (.assign rfl) (yn (zS (zd rfl mr isAgg58 sizeOf58 Zg ?_)))
 refine zd rfl mr isAgg58 sizeOf58 Zg ?_
 refine zv [_, _] rfl call124 (Qfw d (n.natAbs.gcd d) oo oo hg0) (zm rfl (zp (.eX rfl) (zp (.eX rfl) (zp (.eX rfl) (zz zeroValue58 fun b9 => zz zeroValue58 fun b10 => zt' rfl rfl Zq uu sizeOf58 rfl nb rfl ?_)))))
 refine zt' rfl rfl Zq uu sizeOf58 rfl nb rfl ?_; intro a w h
 refine gL h (za rfl (zn (zs (yD Za [0, 1, 2, 3, 4, 5, 6] (Zc kk) (yd rfl rfl mr isAgg58 sizeOf58 Zg ?_))))); clear h
 refine yv [_] rfl rfl call109 (C_Of 1 dd) (yv [_, _] rfl rfl call125 (Qfm _ 1 oo (Nat.le_trans (Kw dd) dd)) (ym rfl rfl (yp rfl (.eX rfl) (yp rfl (.eX rfl) (yt rfl rfl rfl Zq uu sizeOf58 rfl nb rfl ?_)))))
 refine yn (zs (yD Za [0, 3, 5, 1, 2, 4, 6, 7] (Zc kk) (yd rfl rfl mr isAgg62 sizeOf62 Zt ?_)))
 refine yd rfl rfl mr isAgg58 sizeOf58 Zg ?_
 refine yd rfl rfl mr isAgg58 sizeOf58 Zg ?_
 refine yv [_] rfl rfl call90 (Zzl n) (yp rfl (.lss rfl rfl) (yv [_, _] rfl rfl call108 (Zfk _ _) (yp rfl (.build [(_, _), (_, _)] rfl (Zo0 _ _ _ _ _)) (yt rfl rfl rfl Zp uu sizeOf64 rfl nb rfl ?_))))
 refine yn (zt ?_); intro a w h
 refine Jr h (Ze h rfl (.cell rfl mr isAgg64 sizeOf64 Zh)) ?_
 rw [Zv, hm1, hm2]
theorem Gc (x y : Rat) (ha : Qa x ≤ 100000000000) (hb : Qa y ≤ 100000000000) : Yc Tryz.prog 37 [Zv x, Zv y] (Zv (x + y)) := by
 obtain ⟨ha1, ha2⟩ := Zfs ha
 obtain ⟨hb1, hb2⟩ := Zfs hb
 have hm1 := Ze7 x.num (y.den : Int)
 have hm2 := Ze7 y.num (x.den : Int)
 have hs := Zlw (x.num * (y.den : Int)) (y.num * (x.den : Int))
 have hs2 := Zlw x.num y.num
 have hda : Zck (x.den : Int) = (wds x.den).length := rfl
 have hdb : Zck (y.den : Int) = (wds y.den).length := rfl
 have hdm := Zbn x.den y.den
 have hpa := x.den_pos
 have hpb := y.den_pos
 refine fn_intro func37 rfl ntmps37 nb ?_
 intro S w0 a hS h
 refine gC h (zS (zx rfl fun b2 => zx rfl fun b3 => zz zeroValue64 fun b4 => zn (zs (zb (zS (zd rfl mr isAgg64 sizeOf64 Zh ?_))))))
 refine zv [_] rfl call82 (Zhl x) (zm rfl ?_); intro a w h
 refine Zi h (fun hc8 h => ?_) (fun hc8 h => ?_)
 ·
  skip
  have hwa : x.den = 1 := of_decide_eq_true hc8
  refine Zf 8 h rfl rfl (Qc h rfl mr isAgg64 sizeOf64 Zh dd ?_); clear h; intro a h
  refine Zf 8 h rfl rfl (Qu h (vs := [_]) rfl call82 (Zhl y) dd ?_); clear h; intro a w h
  refine Zi h (fun hc10 h => ?_) (fun hc10 h => ?_)
  ·
   skip
   have hwb : y.den = 1 := of_decide_eq_true hc10
   refine gL h (zp (.pickT rfl rfl) (za rfl (zn ?_))); clear h; intro a w h
   refine cW ?_
   refine Qf h rfl ?_
   refine gC h (zS (zp (.fA rfl Yf) (zd rfl mr isAgg62 sizeOf62 Xf ?_)))
   refine zp (.fA rfl Yf) (zd rfl mr isAgg62 sizeOf62 Xf ?_)
   refine zv [_, _] rfl call83 (Zpi _ _ oo oo) (zv [_] rfl call74 (Zrj _) (zt' rfl rfl Zp uu sizeOf64 rfl nb rfl ?_)); intro a w h
   refine wpList_nil (wp_ret ?_)
   refine Jr h (Ze h rfl (.cell rfl mr isAgg64 sizeOf64 Zh)) ?_
   rw [show ((x.num + y.num : Int) : Rat) = x + y from Zy0 hwa hwb]
  ·
   skip
   have hwb : y.den ≠ 1 := of_decide_eq_false hc10
   refine gL h (zp (.pickT rfl rfl) (za rfl (zn ?_))); clear h; intro a w h
   refine cW ?_
   refine Zn h rfl ?_
   refine gC h (zS (zp (.fA rfl Zfu) (zd rfl mr isAgg58 sizeOf58 Zc8 ?_)))
   refine zp (.fA rfl Zfu) (zd rfl mr isAgg58 sizeOf58 Zc8 ?_)
   refine zp (.binOp rfl rfl (fun _ => Zlj _ _ (x.den - 1) (y.den - 1) _)) ?_; intro a w h
   refine Zi h (fun hc23 h => ?_) (fun hc23 h => ?_)
   ·
    skip
    have hde : x.den = y.den := dT hc23
    refine gL h (za rfl (zn ?_)); clear h; intro a w h
    refine cW ?_
    refine Qf h rfl ?_
    refine gC h (zs (yD Za [0, 1, 2, 3, 5, 4, 6, 7, 8] (Zc kk) (yp rfl (.fA rfl Yf) (yd rfl rfl mr isAgg62 sizeOf62 Xf ?_)))); clear h
    refine yp rfl (.fA rfl Yf) (yd rfl rfl mr isAgg62 sizeOf62 Xf ?_)
    refine yd rfl rfl mr isAgg64 sizeOf64 Zh ?_
    refine yv [_, _] rfl rfl call83 (Zpi _ _ oo oo) (yv [_] rfl rfl call85 (Zgv x oo) (yv [_, _] rfl rfl call84 (Zdm _ _ oo oo oo) (yt rfl rfl rfl Zp uu sizeOf64 rfl nb rfl ?_)))
    refine yn (zt ?_); intro a w h
    refine Jr h (Ze h rfl (.cell rfl mr isAgg64 sizeOf64 Zh)) ?_
    rw [show mkRat (x.num + y.num) x.den = x + y from Zmu hde]
   ·
    skip
    have hde : x.den ≠ y.den := dF hc23
    refine gL h (za rfl (zn ?_)); clear h; intro a w h
    refine cW ?_
    refine Zn h rfl ?_
    refine gC h (zk (zs (yD Za [0, 1, 2, 5, 6, 7, 11, 13, 3, 4, 8, 9, 10, 12, 14, 15, 16, 17] (Zc kk) (yp rfl (.fA rfl Yf) (yd rfl rfl mr isAgg62 sizeOf62 Xf ?_))))); clear h
    refine yd rfl rfl mr isAgg64 sizeOf64 Zh ?_
    refine yp rfl (.fA rfl Yf) (yd rfl rfl mr isAgg62 sizeOf62 Xf ?_)
    refine yd rfl rfl mr isAgg64 sizeOf64 Zh ?_
    refine yd rfl rfl mr isAgg64 sizeOf64 Zh ?_
    refine yd rfl rfl mr isAgg64 sizeOf64 Zh ?_
    refine yv [_] rfl rfl call87 (Zic y oo) (yv [_, _] rfl rfl call86 (Zj5 _ _ oo oo) (yv [_] rfl rfl call87 (Zic x oo) (yv [_, _] rfl rfl call86 (Zj5 _ _ oo oo) (yv [_, _] rfl rfl call83 (Zpi _ _ oo oo) (yv [_] rfl rfl call85 (Zgv x oo) (yv [_] rfl rfl call85 (Zgv y oo) (yv [_, _] rfl rfl call88 (Zzs _ _ oo oo) (yv [_, _] rfl rfl call84 (Zdm _ _ (Nat.mul_ne_zero oo oo) oo oo) (yt rfl rfl rfl Zp uu sizeOf64 rfl nb rfl ?_)))))))))
    refine yn (zt ?_); intro a w h
    refine Jr h (Ze h rfl (.cell rfl mr isAgg64 sizeOf64 Zh)) ?_
    rw [Rat.add_def']
 ·
  skip
  have hwa : x.den ≠ 1 := of_decide_eq_false hc8
  refine gL h (zo 8 rfl rfl rfl (zo 8 rfl rfl rfl (zp (.pickF rfl rfl) (za rfl (zn ?_))))); clear h; intro a w h
  refine cW ?_
  refine Zn h rfl ?_
  refine gC h (zS (zp (.fA rfl Zfu) (zd rfl mr isAgg58 sizeOf58 Zc8 ?_)))
  refine zp (.fA rfl Zfu) (zd rfl mr isAgg58 sizeOf58 Zc8 ?_)
  refine zp (.binOp rfl rfl (fun _ => Zlj _ _ (x.den - 1) (y.den - 1) _)) ?_; intro a w h
  refine Zi h (fun hc23 h => ?_) (fun hc23 h => ?_)
  ·
   skip
   have hde : x.den = y.den := dT hc23
   refine gL h (za rfl (zn ?_)); clear h; intro a w h
   refine cW ?_
   refine Qf h rfl ?_
   refine gC h (zs (yD Za [0, 1, 2, 3, 5, 4, 6, 7, 8] (Zc kk) (yp rfl (.fA rfl Yf) (yd rfl rfl mr isAgg62 sizeOf62 Xf ?_)))); clear h
   refine yp rfl (.fA rfl Yf) (yd rfl rfl mr isAgg62 sizeOf62 Xf ?_)
   refine yd rfl rfl mr isAgg64 sizeOf64 Zh ?_
   refine yv [_, _] rfl rfl call83 (Zpi _ _ oo oo) (yv [_] rfl rfl call85 (Zgv x oo) (yv [_, _] rfl rfl call84 (Zdm _ _ oo oo oo) (yt rfl rfl rfl Zp uu sizeOf64 rfl nb rfl ?_)))
   refine yn (zt ?_); intro a w h
   refine Jr h (Ze h rfl (.cell rfl mr isAgg64 sizeOf64 Zh)) ?_
   rw [show mkRat (x.num + y.num) x.den = x + y from Zmu hde]
  ·
   skip
   have hde : x.den ≠ y.den := dF hc23
   refine gL h (za rfl (zn ?_)); clear h; intro a w h
   refine cW ?_
   refine Zn h rfl ?_
   refine gC h (zk (zs (yD Za [0, 1, 2, 5, 6, 7, 11, 13, 3, 4, 8, 9, 10, 12, 14, 15, 16, 17] (Zc kk) (yp rfl (.fA rfl Yf) (yd rfl rfl mr isAgg62 sizeOf62 Xf ?_))))); clear h
   refine yd rfl rfl mr isAgg64 sizeOf64 Zh ?_
   refine yp rfl (.fA rfl Yf) (yd rfl rfl mr isAgg62 sizeOf62 Xf ?_)
   refine yd rfl rfl mr isAgg64 sizeOf64 Zh ?_
   refine yd rfl rfl mr isAgg64 sizeOf64 Zh ?_
   refine yd rfl rfl mr isAgg64 sizeOf64 Zh ?_
   refine yv [_] rfl rfl call87 (Zic y oo) (yv [_, _] rfl rfl call86 (Zj5 _ _ oo oo) (yv [_] rfl rfl call87 (Zic x oo) (yv [_, _] rfl rfl call86 (Zj5 _ _ oo oo) (yv [_, _] rfl rfl call83 (Zpi _ _ oo oo) (yv [_] rfl rfl call85 (Zgv x oo) (yv [_] rfl rfl call85 (Zgv y oo) (yv [_, _] rfl rfl call88 (Zzs _ _ oo oo) (yv [_, _] rfl rfl call84 (Zdm _ _ (Nat.mul_ne_zero oo oo) oo oo) (yt rfl rfl rfl Zp uu sizeOf64 rfl nb rfl ?_)))))))))
   refine yn (zt ?_); intro a w h
   refine Jr h (Ze h rfl (.cell rfl mr isAgg64 sizeOf64 Zh)) ?_
   rw [Rat.add_def']
theorem Yh (x y : Rat) (ha : Qa x ≤ 100000000000) (hb : Qa y ≤ 100000000000) : Yc Tryz.prog 42 [Zv x, Zv y] (Zv (x * y)) := by
 obtain ⟨ha1, ha2⟩ := Zfs ha
 obtain ⟨hb1, hb2⟩ := Zfs hb
 have hm1 := Ze7 x.num y.num
 have hdm := Zbn x.den y.den
 have hpa := x.den_pos
 have hpb := y.den_pos
 refine fn_intro func42 rfl ntmps42 nb ?_
 intro S w0 a hS h
 refine gC h (zS (zx rfl fun b2 => zx rfl fun b3 => zz zeroValue64 fun b4 => zn (zs (zS (zd rfl mr isAgg64 sizeOf64 Zh ?_)))))
 refine zv [_] rfl call82 (Zhl x) (zm rfl ?_); intro a w h
 refine Zi h (fun hc7 h => ?_) (fun hc7 h => ?_)
 ·
  skip
  have hwa : x.den = 1 := of_decide_eq_true hc7
  refine Zf 7 h rfl rfl (Qc h rfl mr isAgg64 sizeOf64 Zh dd ?_); clear h; intro a h
  refine Zf 7 h rfl rfl (Qu h (vs := [_]) rfl call82 (Zhl y) dd ?_); clear h; intro a w h
  refine Zi h (fun hc9 h => ?_) (fun hc9 h => ?_)
  ·
   skip
   have hwb : y.den = 1 := of_decide_eq_true hc9
   refine gL h (zp (.pickT rfl rfl) (zn ?_)); clear h; intro a w h
   refine cW ?_
   refine Qf h rfl ?_
   refine gC h (zS (zp (.fA rfl Yf) (zd rfl mr isAgg62 sizeOf62 Xf ?_)))
   refine zp (.fA rfl Yf) (zd rfl mr isAgg62 sizeOf62 Xf ?_)
   refine zv [_, _] rfl call86 (Zj5 _ _ oo oo) (zv [_] rfl call74 (Zrj _) (zt' rfl rfl Zp uu sizeOf64 rfl nb rfl ?_)); intro a w h
   refine wpList_nil (wp_ret ?_)
   refine Jr h (Ze h rfl (.cell rfl mr isAgg64 sizeOf64 Zh)) ?_
   rw [show ((x.num * y.num : Int) : Rat) = x * y from Zwr hwa hwb]
  ·
   skip
   refine gL h (zp (.pickT rfl rfl) (zn ?_)); clear h; intro a w h
   refine cW ?_
   refine Zn h rfl ?_
   refine gC h (zk (zs (yD Za [0, 1, 2, 3, 5, 7, 4, 6, 8, 9, 10, 11] (Zc kk) (yp rfl (.fA rfl Yf) (yd rfl rfl mr isAgg62 sizeOf62 Xf ?_))))); clear h
   refine yp rfl (.fA rfl Yf) (yd rfl rfl mr isAgg62 sizeOf62 Xf ?_)
   refine yd rfl rfl mr isAgg64 sizeOf64 Zh ?_
   refine yd rfl rfl mr isAgg64 sizeOf64 Zh ?_
   refine yv [_, _] rfl rfl call86 (Zj5 _ _ oo oo) (yv [_] rfl rfl call85 (Zgv x oo) (yv [_] rfl rfl call85 (Zgv y oo) (yv [_, _] rfl rfl call88 (Zzs _ _ oo oo) (yv [_, _] rfl rfl call84 (Zdm _ _ (Nat.mul_ne_zero oo oo) oo oo) (yt rfl rfl rfl Zp uu sizeOf64 rfl nb rfl ?_)))))
   refine yn (zt ?_); intro a w h
   refine Jr h (Ze h rfl (.cell rfl mr isAgg64 sizeOf64 Zh)) ?_
   rw [Rat.mul_def']
 ·
  skip
  refine gL h (zo 7 rfl rfl rfl (zo 7 rfl rfl rfl (zp (.pickF rfl rfl) (zn ?_)))); clear h; intro a w h
  refine cW ?_
  refine Zn h rfl ?_
  refine gC h (zk (zs (yD Za [0, 1, 2, 3, 5, 7, 4, 6, 8, 9, 10, 11] (Zc kk) (yp rfl (.fA rfl Yf) (yd rfl rfl mr isAgg62 sizeOf62 Xf ?_))))); clear h
  refine yp rfl (.fA rfl Yf) (yd rfl rfl mr isAgg62 sizeOf62 Xf ?_)
  refine yd rfl rfl mr isAgg64 sizeOf64 Zh ?_
  refine yd rfl rfl mr isAgg64 sizeOf64 Zh ?_
  refine yv [_, _] rfl rfl call86 (Zj5 _ _ oo oo) (yv [_] rfl rfl call85 (Zgv x oo) (yv [_] rfl rfl call85 (Zgv y oo) (yv [_, _] rfl rfl call88 (Zzs _ _ oo oo) (yv [_, _] rfl rfl call84 (Zdm _ _ (Nat.mul_ne_zero oo oo) oo oo) (yt rfl rfl rfl Zp uu sizeOf64 rfl nb rfl ?_)))))
  refine yn (zt ?_); intro a w h
  refine Jr h (Ze h rfl (.cell rfl mr isAgg64 sizeOf64 Zh)) ?_
  rw [Rat.mul_def']
theorem Zj6 (x : Rat) : Yc Tryz.prog 40 [Zv x] (.int .i64 x.num.sign) := by
 refine fn_intro func40 rfl ntmps40 nb ?_
 intro S w0 a hS h
 refine gC h (zS (zx rfl fun b1 => za rfl (zn (zS (zp (.fA rfl Yf) (zd rfl mr isAgg62 sizeOf62 Xf ?_))))))
 refine zv [_] rfl call90 (Zzl x.num) (za rfl (zn (zt ?_))); intro a w h
 exact Zag h
theorem Vg (n : Int) (h0 : -9223372036854775808 ≤ n) (h1 : n ≤ 9223372036854775807) : Yc Tryz.prog 31 [.int .i64 n] (Zv (n : Rat)) := by
 refine fn_intro func31 rfl ntmps31 nb ?_
 intro S w0 a hS h
 refine gC h (zS (zz zeroValue64 fun b2 => zn (zS (zm rfl (zv [_] rfl call75 (C_ZOf n h0 h1) (zv [_] rfl call74 (Zrj n) (zt' rfl rfl Zp uu sizeOf64 rfl nb rfl ?_))))))); clear h; intro a w h
 refine wpList_nil (wp_ret ?_)
 refine Jr h (Ze h rfl (.cell rfl mr isAgg64 sizeOf64 Zh)) ?_
 rfl
theorem C_inv (y : Rat) (hy : y ≠ 0) (h1 : Zck (sgZ (decide (y.num.sign < 0)) y.den) ≤ 400000000000) (h2 : (wds y.num.natAbs).length ≤ 400000000000) :
  Yc Tryz.prog 84 [encZ (sgZ (decide (y.num.sign < 0)) y.den), Vt y.num.natAbs] (Zv y⁻¹) := by
 rw [← Zgn y hy]
 exact Zdm _ _ (fun h => hy (Rat.num_eq_zero.1 (Int.natAbs_eq_zero.1 h))) h1 h2
theorem Zzr (x y : Rat) (hy : y ≠ 0) (hx : Qa x ≤ 100000000000) (hyl : Qa y ≤ 100000000000) : Yc Tryz.prog 89 [Zv x, Zv y] (.tuple #[Zv (x / y), .int .i64 0]) := by
 obtain ⟨hb1, hb2⟩ := Zfs hyl
 have h0 : y.num ≠ 0 := fun h => hy (Rat.num_eq_zero.1 h)
 have hs : Zck (sgZ (decide (y.num.sign < 0)) y.den) = (wds y.den).length := by unfold Zck; rw [Zcj]
 have hz : (wds y.num.natAbs).length = Zck y.num := rfl
 have hinv := Ze8 (sgZ (decide (y.num.sign < 0)) y.den) y.num.natAbs oo
 rw [Zgn y hy] at hinv
 refine fn_intro func89 rfl ntmps89 nb ?_
 intro S w0 a hS h
 refine gC h (zS (zx rfl fun b2 => zx rfl fun b3 => zz zeroValue64 fun b4 => za rfl (zn (zs (zS (zd rfl mr isAgg64 sizeOf64 Zh ?_))))))
 refine zv [_] rfl call40 (Zj6 y) (zp (.eql rfl rfl) (zn ?_)); intro a w h
 refine cW ?_
 refine Zb h rfl (fun hc9 => (by exfalso; have := eq_of_beq hc9; exact h0 (Int.sign_eq_zero_iff_zero.1 this))) (fun hc9 => ?_)
 refine gC h (zk (zs (yD Za [0, 3, 6, 7, 1, 2, 4, 5, 8, 9, 10, 11] (Jy ⟨.inl rfl, .inl rfl, .inl rfl, .inl rfl, .inl rfl, .inl rfl, .inl rfl, .inl rfl, .inl rfl, .inl rfl, .inr ⟨6, 64, _, _, _, rfl, rfl, by decide, _, zeroValue64⟩, .inl rfl, trivial⟩) (yd rfl rfl mr isAgg64 sizeOf64 Zh ?_)))); clear h
 refine yd rfl rfl mr isAgg64 sizeOf64 Zh ?_
 refine yp rfl (.fA rfl Yf) (yd rfl rfl mr isAgg62 sizeOf62 Xf ?_)
 refine yv [_] rfl rfl call40 (Zj6 y) (yp rfl (.lss rfl rfl) (yv [_] rfl rfl call85 (Zgv y oo) (yv [_, _] rfl rfl call108 (Zfk _ _) (yv [_] rfl rfl call123 (Zzm y.num) (yv [_, _] rfl rfl call84 (C_inv y hy oo oo) (yz rfl zeroValue64 fun b6 => yt rfl rfl rfl Zp uu sizeOf64 rfl nb rfl ?_))))))
 refine yn (zS (zd rfl mr isAgg64 sizeOf64 Zh ?_))
 refine zd rfl mr isAgg64 sizeOf64 Zh ?_
 refine zv [_, _] rfl call42 (Yh x y⁻¹ hx oo) (zt' rfl rfl Zp uu sizeOf64 rfl nb rfl ?_)
 refine za rfl (zn (zt ?_)); intro a w h
 refine Jr h (Xe h rfl (.cell rfl mr isAgg64 sizeOf64 Zh) (.tmp rfl)) ?_
 rw [Rat.div_def]
end
section
theorem Zl9 {b off : Nat} (w : World) : (Instr.fieldAt 133 (.pointer (some ⟨b, off, none⟩)) 0).run Tryz.prog w = .ok (.pointer (some ⟨b, off + 0, none⟩)) w := by
 simp [go_sem]
theorem Zw (a : Option Addr) (n c : Nat) (w : World) (ty : TypeId) (cs : Array Bool) : (Go.builtin .len #[44] ty cs #[.slice a n c]).run Tryz.prog w = .ok (.value (.int .i64 n)) w := by
 simp [go_sem]
theorem Km (b off n c j : Nat) (h : j < n) (w : World) : (Instr.indexAt 44 (.slice (some ⟨b, off, none⟩) n c) (.int .i64 (j : Int))).run Tryz.prog w = .ok (.pointer (some ⟨b, off + j * 5, none⟩)) w := by
 simpa using Je runUnderlying44 sizeOf64 b off n c j h w
theorem Ja (w : World) : (zeroValue 64).run Tryz.prog w = .ok (Zv 0) w := zeroValue64 w
abbrev Gb (p : Rat × Rat × Rat) : Value := .agg #[.int .u64 (Ze5 p.1.num.natAbs), .string (Zau p.1.num.natAbs), .bool (decide (p.1.num < 0)), .int .u64 (Ze5 (p.1.den - 1)), .string (Zau (p.1.den - 1)),
 .int .u64 (Ze5 p.2.1.num.natAbs), .string (Zau p.2.1.num.natAbs), .bool (decide (p.2.1.num < 0)), .int .u64 (Ze5 (p.2.1.den - 1)), .string (Zau (p.2.1.den - 1)),
 .int .u64 (Ze5 p.2.2.num.natAbs), .string (Zau p.2.2.num.natAbs), .bool (decide (p.2.2.num < 0)), .int .u64 (Ze5 (p.2.2.den - 1)), .string (Zau (p.2.2.den - 1))]
theorem Zpp (w : World) : (zeroValue 77).run Tryz.prog w = .ok (Gb (0, 0, 0)) w := zeroValue77 w
theorem Zmb {x y : Rat} : (Ze5 x.num.natAbs = Ze5 y.num.natAbs ∧ Zau x.num.natAbs = Zau y.num.natAbs ∧ decide (x.num < 0) = decide (y.num < 0) ∧ Ze5 (x.den - 1) = Ze5 (y.den - 1) ∧ Zau (x.den - 1) = Zau (y.den - 1)) ↔ x = y := by
 constructor
 ·
  rintro ⟨h1, h2, h3, h4, h5⟩
  have e1 := Zma h1 h2
  have e2 := Zma h4 h5
  have := x.den_pos
  have := y.den_pos
  refine Rat.ext ?_ oo
  have h3' : (x.num < 0) ↔ (y.num < 0) := decide_eq_decide.1 h3
  omega
 · rintro rfl; exact ⟨rfl, rfl, rfl, rfl, rfl⟩
theorem str_eq (n m : Nat) : ((Zau n).toList = (Zau m).toList) ↔ Zau n = Zau m := by have := Zcq (Zau n) (Zau m); rw [Bool.eq_iff_iff] at this; simpa using this
theorem Ks (X Y : Operand) (x y : Rat) (w : World) : (do eqGuard .eql 64 X Y (Zv x) (Zv y); Go.binOp .eql 64 (Zv x) (Zv y) : Sem Value).run Tryz.prog w = .ok (.bool (decide (x = y))) w := by
 simp [go_sem]
 have hq := @Zmb x y
 rw [decide_eq_decide] at hq
 simp only [← str_eq] at hq
 by_cases e : x = y
 ·
  obtain ⟨h1, h2, h3, h4, h5⟩ := hq.2 e
  rw [if_pos h1, if_pos h2, if_pos h3, if_pos h4, if_pos h5]; simp [e]
 ·
  rw [show decide (x = y) = false from by simp [e]]
  (repeat' split) <;> first | rfl | (exact absurd (hq.1 ⟨‹_›, ‹_›, ‹_›, ‹_›, ‹_›⟩) e)
theorem Kr (X Y : Operand) (x y : Rat) (w : World) : (do eqGuard .neq 64 X Y (Zv x) (Zv y); Go.binOp .neq 64 (Zv x) (Zv y) : Sem Value).run Tryz.prog w = .ok (.bool (!decide (x = y))) w := by
 simp [go_sem]
 have hq := @Zmb x y
 rw [decide_eq_decide] at hq
 simp only [← str_eq] at hq
 by_cases e : x = y
 ·
  obtain ⟨h1, h2, h3, h4, h5⟩ := hq.2 e
  rw [if_pos h1, if_pos h2, if_pos h3, if_pos h4, if_pos h5]; simp [e]
 ·
  rw [show decide (x = y) = false from by simp [e]]
  (repeat' split) <;> first | rfl | (exact absurd (hq.1 ⟨‹_›, ‹_›, ‹_›, ‹_›, ‹_›⟩) e)
theorem Qee {α : Type} (x y : Rat) (A B : α) : (if Ze5 x.num.natAbs = Ze5 y.num.natAbs then if (Zau x.num.natAbs).toList = (Zau y.num.natAbs).toList then if x.num < 0 ↔ y.num < 0 then if Ze5 (x.den - 1) = Ze5 (y.den - 1) then
  if (Zau (x.den - 1)).toList = (Zau (y.den - 1)).toList then A else B else B else B else B else B) = if x = y then A else B := by
 have hq := @Zmb x y
 rw [decide_eq_decide] at hq
 simp only [← str_eq] at hq
 by_cases e : x = y
 ·
  obtain ⟨h1, h2, h3, h4, h5⟩ := hq.2 e
  rw [if_pos h1, if_pos h2, if_pos h3, if_pos h4, if_pos h5, if_pos e]
 ·
  rw [if_neg e]
  (repeat' split) <;> first | rfl | (exact absurd (hq.1 ⟨‹_›, ‹_›, ‹_›, ‹_›, ‹_›⟩) e)
theorem Qbi (x y : Rat) (w : World) : (Op.equalIn 9999 64 (Zv x) (Zv y)).run Tryz.prog w = .ok (decide (x = y)) w := by
 simp [go_sem]
 rw [Qee]; split <;> simp [*]
theorem Zim (X Y : Operand) (x y : Rat × Rat × Rat) (w : World) : (do eqGuard .eql 77 X Y (Gb x) (Gb y); Go.binOp .eql 77 (Gb x) (Gb y) : Sem Value).run Tryz.prog w = .ok (.bool (decide (x = y))) w := by
 obtain ⟨x1, x2, x3⟩ := x
 obtain ⟨y1, y2, y3⟩ := y
 simp [go_sem]
 rw [show (10000:Nat) = 9999+1 from rfl, Op.equalIn]
 simp only [go_sem, Sem.run_bind]
 simp [go_sem, List.range', Qbi]
 rw [Qee, Qee]
 by_cases e1 : x1 = y1 <;> by_cases e2 : x2 = y2 <;> by_cases e3 : x3 = y3 <;> simp [e1, e2, e3]
theorem Zl0 (x : Rat) : Qa (-x) = Qa x := by simp [Qa, Zck, Rat.neg_num, Rat.neg_den]
theorem Xu (x y : Rat) : Qa (x - y) ≤ Qa x + Qa y + 1 := by rw [Rat.sub_eq_add_neg]; have := Qt x (-y); rw [Zl0] at this; exact this
theorem Qo (n : Int) (h0 : -9223372036854775808 ≤ n) (h1 : n ≤ 9223372036854775807) : Qa ((n : Int) : Rat) ≤ 2 := by
 have : (wds n.natAbs).length ≤ 2 := Kw oo
 unfold Qa Zck
 rw [Rat.num_intCast, Rat.den_intCast]
 have h2 : (wds 1).length ≤ 2 := Kw dd
 omega
theorem Xs : Qa 0 ≤ 2 := Qo 0 oo oo
theorem Zsq (y : Rat) : Qa y⁻¹ ≤ Qa y := by
 by_cases hy : y = 0
 · subst hy; rw [Rat.inv_zero]; exact Nat.le_refl _
 ·
  rw [← Zgn y hy]
  have h0 : y.num ≠ 0 := fun h => hy (Rat.num_eq_zero.1 h)
  have := Ze8 (sgZ (decide (y.num.sign < 0)) y.den) y.num.natAbs oo
  unfold Zck at this
  rw [Zcj] at this
  unfold Qa Zck at *
  omega
theorem Zcd (x y : Rat) : Qa (x / y) ≤ Qa x + Qa y := by
 rw [Rat.div_def]; have := Zx x y⁻¹; have := Zsq y; omega
theorem Xy (n d : Int) (h0 : -9223372036854775808 ≤ n) (h1 : n ≤ 9223372036854775807) (h2 : -9223372036854775808 ≤ d) (h3 : d ≤ 9223372036854775807) : Qa ((n : Rat) / (d : Rat)) ≤ 4 := by
 have := Zcd (n : Rat) (d : Rat); have := Qo n h0 h1; have := Qo d h2 h3; omega
abbrev Qh (k : Nat) : Value := .int .i64 (k : Int)
theorem getD_mem {α : Type} (l : List α) {i : Nat} {d : α} (h : i < l.length) : l.getD i d ∈ l := by
 simp only [List.getD, List.getElem?_eq_getElem h, Option.getD_some]; exact List.getElem_mem h
theorem Zeh {α β : Type} {f : β → α → β} (l : List α) (s : β) (i : Nat) (d : α) (h : i < l.length) : (l.take (i + 1)).foldl f s = f ((l.take i).foldl f s) (l.getD i d) := by
 rw [List.take_add_one, List.getElem?_eq_getElem h, List.foldl_append]
 simp [List.getD, List.getElem?_eq_getElem h]
theorem C_QNeg (x : Rat) : Yc Tryz.prog 91 [Zv x] (Zv (-x)) := by
 refine fn_intro func91 rfl ntmps91 nb ?_
 intro S w0 a hS h
 refine gC h (zS (zx rfl fun b1 => zz Ja fun b2 => zn (zs (yD Za [0, 1, 3, 4, 2, 5, 6] (Zc kk) (yp rfl (.fA rfl Yf) (yd rfl rfl mr isAgg62 sizeOf62 Xf ?_)))))); clear h
 refine yp rfl (.fA rfl Zfu) (yd rfl rfl mr isAgg58 sizeOf58 Zc8 ?_)
 refine yv [_] rfl rfl call132 (C_ZNeg x.num) (yp rfl (.build [(_, _), (_, _)] rfl (Zo0 _ _ _ _ _)) (yt rfl rfl rfl Zp uu sizeOf64 rfl nb rfl ?_))
 refine yn (zt ?_); intro a w h
 refine Jr h (Ze h rfl (.cell rfl mr isAgg64 sizeOf64 Zh)) ?_
 unfold Zv; rw [Rat.neg_num, Rat.neg_den]
theorem Zfj (x y : Rat) (ha : Qa x ≤ 10000000000) (hb : Qa y ≤ 10000000000) : Yc Tryz.prog 45 [Zv x, Zv y] (Zv (x - y)) := by
 refine fn_intro func45 rfl ntmps45 nb ?_
 intro S w0 a hS h
 refine gC h (zS (zx rfl fun b2 => zx rfl fun b3 => zz Ja fun b4 => zn (zs (yD Za [0, 1, 2, 3, 4] (Zc kk) (yd rfl rfl mr isAgg64 sizeOf64 Zh ?_))))); clear h
 refine yd rfl rfl mr isAgg64 sizeOf64 Zh ?_
 refine yv [_] rfl rfl call91 (C_QNeg _) ?_
 have hl7 := Zl0 (y)
 refine yv [_, _] rfl rfl call37 (Gc _ _ oo oo) ?_
 have hl8 := Qt (x) (-y)
 refine yt rfl rfl rfl Zp uu sizeOf64 rfl nb rfl ?_
 refine yn (zt ?_); intro a w h
 refine Jr h (Ze h rfl (.cell rfl mr isAgg64 sizeOf64 Zh)) ?_
 rw [← Rat.sub_eq_add_neg]
theorem C_tadd (b : Nat) (s x : Rat) (σ : List (Nat × Obj)) (Φ : List Qn) (hs : Qa s ≤ 10000000000) (hx : Qa x ≤ 10000000000) :
  Zm4 Tryz.prog 73 [.pointer (some ⟨b, 0, none⟩), Zv x] ((b, .cells (Zv s).cells 133 (0, 0)) :: σ) Φ (fun v σ' Φ' => v = .tuple #[] ∧ σ' = (b, .cells (Zv (s + x)).cells 133 (0, 0)) :: σ ∧ Φ' = Φ) := by
 refine fn_introM func73 rfl ntmps73 nb ?_
 intro S w0 a w hS h
 refine gC h (zS (zx rfl fun b3 => zn (yD Za [0, 1, 2, 3, 4, 5, 6, 7, 8, 9] (Zc kk) (ym rfl rfl (ym rfl rfl (yp rfl (.nilCheck rfl) (yp rfl (.fA rfl Zl9) (yd rfl rfl mr isAgg64 sizeOf64 Zh ?_)))))))); clear h
 refine yd rfl rfl mr isAgg64 sizeOf64 Zh ?_
 refine yv [_, _] rfl rfl call37 (Gc _ _ oo oo) ?_
 have hl10 := Qt (s) (x)
 refine yp rfl (.nilCheck rfl) (yp rfl (.fA rfl Zl9) (yt rfl rfl rfl Zp uu sizeOf64 rfl nb rfl ?_))
 refine yn ?_; intro a w h
 refine Qbj h (Zga rfl) ⟨rfl, rfl, rfl⟩ (List.sublist_cons_self _ _) (fun _ h => h)
theorem Zu1 (b : Nat) (s : Rat) (ad : Option Addr) (c : Nat) (l : List Rat) (σ : List (Nat × Obj)) (Φ : List Qn) (hn : l.length ≤ 1000000) (hs : Qa s ≤ 1000000) (hx : ∀ x ∈ l, Qa x ≤ 1000) (hR : Row ad (cellsOf Zv l) ∈ Φ) :
  Zm4 Tryz.prog 72 [.func (.func 73) #[.pointer (some ⟨b, 0, none⟩)] #[], .slice ad l.length c] ((b, .cells (Zv s).cells 133 (0, 0)) :: σ) Φ (fun v σ' Φ' => v = .tuple #[] ∧ σ' = (b, .cells (Zv (l.foldl (· + ·) s)).cells 133 (0, 0)) :: σ ∧ Φ' = Φ) := by
 refine fn_introM func72 rfl ntmps72 nb ?_
 intro S w0 a w hS h
 refine gC h (zS (zm rfl (zp (.builtin [_] rfl (Zw _ _ _)) (zm rfl (zn (zb ?_)))))); clear h; intro a w h
 refine Zd (fun (i : Nat) a w => i ≤ l.length ∧ (Qa ((l.take i).foldl (· + ·) s) ≤ 1000000 + 1001 * i) ∧ St 16 S w0 [(0, .func (.func 73) #[.pointer (some ⟨b, 0, none⟩)] #[]), (6, .slice ad l.length c), (7, nI l.length), (8, nI i)] ((b, bV (Zv ((l.take i).foldl (· + ·) s)) 133) :: σ) (Φ) a w) (fun i => l.length - i) 0 (⟨Nat.zero_le _, by simpa using hs, by exact (h).sub sA⟩) ?_; clear h
 rintro i a w ⟨hi_i, hinv_i, h⟩
 refine gC h (zS (zp (.lss rfl rfl) (zn (zs ?_)))); clear h; intro a w h
 refine Zb h rfl (fun hc9 => ?_) (fun hc9 => ?_)
 ·
  skip
  have hlt_i : i < l.length := dT hc9
  obtain ⟨B_ad, O_ad, rfl⟩ := h.row_addr (ad := ad) (M := cellsOf Zv l) mm (nE 5)
  have hl := hx (l.getD i 0) (getD_mem _ hlt_i)
  have hsum := Zeh (f := (· + ·)) l s i 0 hlt_i
  have hla := Qt ((l.take i).foldl (· + ·) s) (l.getD i 0)
  refine gC h (zk (zs (zb (zS (zp (.indexAddr rfl rfl (Km _ _ _ _ _ oo)) (zD rfl mm (cells_lt (k := 5) dd (fun _ => rfl) l i oo) isAgg64 sizeOf64 (Zm (k := 5) (fun _ => rfl) ((fun _ => rfl)) l 0 i oo) (.inl rfl) ?_))))))
  refine zz Ja fun b5 => zt' rfl rfl Zp uu sizeOf64 rfl nb rfl ?_
  refine zn (zr (zm rfl (zd rfl mr isAgg64 sizeOf64 Zh ?_))); intro a w h
  refine Zl (Zwl h hS (fs := [.pointer (some ⟨b, 0, none⟩)]) (cs := []) rfl (vs := [_]) rfl call73 (C_tadd b ((l.take i).foldl (· + ·) s) (l.getD i 0) ((b5, _) :: σ) Φ oo oo) (List.Perm.swap _ _ _) ss ss ?_); clear h; rintro v14 σ14 Ψ14 a w ⟨rfl, rfl, rfl⟩ h
  refine gL h (zn (zr (zp (.pN (i + 1) (.add rfl rfl)) (zm rfl (zn ?_))))); clear h; intro a w h
  rw [← hsum] at h
  exact ⟨i + 1, ⟨oo, by rw [hsum]; omega, (h.drop sl).sub sA⟩, oo⟩
 ·
  skip
  have heq_i : l.length = i := dF hc9
  subst heq_i
  refine wp_exit ?_
  refine Qbj h (Zga rfl) ⟨rfl, by rw [List.take_length], rfl⟩ (List.Sublist.refl _) (fun _ h => h)
theorem Qdj (ad : Option Addr) (c : Nat) (l : List Rat) (hn : l.length ≤ 1000000) (hx : ∀ x ∈ l, Qa x ≤ 1000) :
  Ge Tryz.prog 30 [.slice ad l.length c] [Row ad (cellsOf Zv l)] (Zv (l.foldl (· + ·) 0)) := by
 refine fn_intro func30 rfl ntmps30 nb ?_
 intro S w0 a hS h
 refine gC h (zS (zz Ja fun b2 => zn (zS (zz zeroValue133 fun b3 => zn (zS (zp (.makeFunc [_] [] rfl rfl) (zm rfl ?_))))))); clear h; intro a w h
 refine Zl (Kl h hS (vs := [_, _]) rfl call72 (Zu1 b3 0 ad c l [(b2, _)] [Row ad (cellsOf Zv l)] hn (Nat.le_trans Xs dd) hx List.mem_cons_self) (List.Perm.refl _) ss ss ?_); clear h; rintro v6 σ6 Ψ6 a w ⟨rfl, rfl, rfl⟩ h
 refine gL h (zn (zS (zp (.fA rfl Zl9) (zd rfl mr isAgg64 sizeOf64 Zh ?_))))
 refine zt' rfl rfl Zp uu sizeOf64 rfl nb rfl ?_; intro a w h
 refine wpList_nil (wp_ret ?_)
 refine Jr h (Ze h rfl (.cell rfl mr isAgg64 sizeOf64 Zh)) ?_
 rfl
theorem Qcd (n d : Int) (h0 : -9223372036854775808 ≤ n) (h1 : n ≤ 9223372036854775807) (h2 : -9223372036854775808 ≤ d) (h3 : d ≤ 9223372036854775807) (hd : d ≠ 0) :
  Yc Tryz.prog 52 [.int .i64 n, .int .i64 d] (.tuple #[Zv ((n : Rat) / (d : Rat)), .int .i64 0]) := by
 refine fn_intro func52 rfl ntmps52 nb ?_
 intro S w0 a hS h
 refine gC h (zS (zz Ja fun b4 => za rfl (zn (zS (zm rfl (zv [_] rfl call31 (Vg _ oo oo) ?_))))))
 have hl7 := Qo (n) oo oo
 refine zm rfl (zv [_] rfl call31 (Vg _ oo oo) ?_)
 have hl9 := Qo (d) oo oo
 refine zv [_, _] rfl call89 (Zzr _ _ (by exact fun e => hd (Rat.intCast_eq_zero_iff.1 e)) oo oo) (zp (.eX rfl) (zp (.eX rfl) (zt' rfl rfl Zp uu sizeOf64 rfl nb rfl ?_)))
 refine za rfl (zn (zt ?_)); intro a w h
 refine Jr h (Xe h rfl (.cell rfl mr isAgg64 sizeOf64 Zh) (.tmp rfl)) ?_
 rfl
end
section
theorem sls_9 (x : ByteArray) (lo hi : Nat) (h1 : lo ≤ hi) (h2 : hi ≤ x.size) (w : World) : (Instr.sliceAt 9 (.string x) (some (.int .i64 (lo : Int))) (some (.int .i64 (hi : Int))) none).run Tryz.prog w = .ok (.string (x.extract lo hi)) w := Zp2 runUnderlying9 x lo hi h1 h2 w
theorem Qew (x : Int) (w : World) : (Go.convert 56 3 (.int .u64 x)).run Tryz.prog w = .ok (.int .i64 (IntKind.i64.wrap x)) w := by
 simp [go_sem]
theorem Zs7 (x : Int) (h0 : IntKind.i64.wrap x = x) (w : World) : (Go.convert 56 3 (.int .u64 x)).run Tryz.prog w = .ok (.int .i64 x) w := by
 rw [Qew, h0]
def Zra (n : Nat) : ByteArray := if n < 10 then ⟨#[UInt8.ofNat (48 + n)]⟩ else ⟨#[UInt8.ofNat (48 + n / 10), UInt8.ofNat (48 + n % 10)]⟩
def Zp0 (z : Int) : ByteArray := if z < 0 then ⟨#[45]⟩ ++ Zra z.natAbs else Zra z.natAbs
def Znd (x : Rat) : ByteArray := if x.den = 1 then Zp0 x.num else Zp0 x.num ++ ⟨#[47]⟩ ++ Zra x.den
def textU (l : List Rat) : Nat → ByteArray
 | 0 => ⟨#[]⟩
 | i + 1 => (if 0 < i then textU l i ++ ⟨#[32]⟩ else textU l i) ++ Znd (l.getD i 0)
theorem Zgq (n : Nat) : (Zra n).size ≤ 2 := by unfold Zra; split <;> simp [ByteArray.size]
theorem Zgz (z : Int) : (Zp0 z).size ≤ 3 := by
 unfold Zp0; have := Zgq z.natAbs
 split
 ·
  rw [ByteArray.size_append]; have : (ByteArray.mk #[45]).size = 1 := rfl
  omega
 · omega
theorem Zki (x : Rat) : (Znd x).size ≤ 6 := by
 unfold Znd; have := Zgq x.den; have := Zgz x.num
 split
 · omega
 ·
  rw [ByteArray.size_append, ByteArray.size_append]; have : (ByteArray.mk #[47]).size = 1 := rfl
  omega
theorem Zkh (l : List Rat) : ∀ i, (textU l i).size ≤ 7 * i
 | 0 => Nat.le_refl _
 | i + 1 => by
  have h1 := Zkh l i
  have h2 := Zki (l.getD i 0)
  have h3 : (ByteArray.mk #[32]).size = 1 := rfl
  unfold textU
  split <;> simp only [ByteArray.size_append] <;> omega
def tab1 : ByteArray := ⟨#[48, 49, 50, 51, 52, 53, 54, 55, 56, 57, 97, 98, 99, 100, 101, 102, 103, 104, 105, 106, 107, 108, 109, 110, 111, 112, 113, 114, 115, 116, 117, 118, 119, 120, 121, 122]⟩
def tab2 : ByteArray := ⟨#[48, 48, 48, 49, 48, 50, 48, 51, 48, 52, 48, 53, 48, 54, 48, 55, 48, 56, 48, 57, 49, 48, 49, 49, 49, 50, 49, 51, 49, 52, 49, 53, 49, 54, 49, 55, 49, 56, 49, 57, 50, 48, 50, 49, 50, 50, 50, 51, 50, 52, 50, 53, 50, 54, 50, 55, 50, 56, 50, 57, 51, 48, 51, 49, 51, 50, 51, 51, 51, 52, 51, 53, 51, 54, 51, 55, 51, 56, 51, 57, 52, 48, 52, 49, 52, 50, 52, 51, 52, 52, 52, 53, 52, 54, 52, 55, 52, 56, 52, 57, 53, 48, 53, 49, 53, 50, 53, 51, 53, 52, 53, 53, 53, 54, 53, 55, 53, 56, 53, 57, 54, 48, 54, 49, 54, 50, 54, 51, 54, 52, 54, 53, 54, 54, 54, 55, 54, 56, 54, 57, 55, 48, 55, 49, 55, 50, 55, 51, 55, 52, 55, 53, 55, 54, 55, 55, 55, 56, 55, 57, 56, 48, 56, 49, 56, 50, 56, 51, 56, 52, 56, 53, 56, 54, 56, 55, 56, 56, 56, 57, 57, 48, 57, 49, 57, 50, 57, 51, 57, 52, 57, 53, 57, 54, 57, 55, 57, 56, 57, 57]⟩
theorem Qdu (i : Nat) (h : i < 10) : tab1.extract i (i + 1) = Zra i := by
 have : ∀ i, i < 10 → tab1.extract i (i + 1) = Zra i := by decide +kernel
 exact this i h
theorem Qdt (i : Nat) (h0 : ¬ i < 10) (h : i < 100) : tab2.extract (i * 2) (i * 2 + 2) = Zra i := by
 have : ∀ i, i < 100 → ¬ i < 10 → tab2.extract (i * 2) (i * 2 + 2) = Zra i := by decide +kernel
 exact this i h h0
theorem Qfi (n : Nat) (hlt : n < 100) : Yc Tryz.prog 189 [.int .i64 ((n : Nat) : Int)] (.string (Zra n)) := by
 refine fn_intro func189 rfl ntmps189 nb ?_
 intro S w0 a hS h
 refine gC h (zS (za rfl (zn (zs (zS (zm rfl (zp (.lss rfl rfl) (zn ?_)))))))); clear h; intro a w h
 refine cW ?_
 refine Zb h rfl (fun hc4 => ?_) (fun hc4 => ?_)
 ·
  skip
  have hn : n < 10 := dT hc4
  refine gC h (zS (zm rfl (zm rfl (zp (.pN (n + 1) (.add rfl rfl)) (zp (.slice rfl (some _) (some _) none rfl rfl rfl (sls_9 _ _ _ (by first | omega | (show n + 1 ≤ 36; omega)) (by first | omega | (show n + 1 ≤ 36; omega)))) (za rfl (zn (zt ?_)))))))); clear h; intro a w h
  refine Jr h (Ze h rfl (.tmp rfl)) ?_
  exact congrArg _ (Qdu n hn)
 ·
  skip
  have hn : ¬ n < 10 := dF hc4
  refine gC h (zk (zS (zm rfl (zp (.pN (n * 2) (.mul rfl rfl)) (zm rfl (zp (.pN (n * 2) (.mul rfl rfl)) (zp (.pN ((n * 2) + 2) (.add rfl rfl)) (zp (.slice rfl (some _) (some _) none rfl rfl rfl (sls_9 _ _ _ (by first | omega | (show n * 2 + 2 ≤ 200; omega)) (by first | omega | (show n * 2 + 2 ≤ 200; omega)))) (za rfl (zn (zt ?_))))))))))); clear h; intro a w h
  refine Jr h (Ze h rfl (.tmp rfl)) ?_
  exact congrArg _ (Qdt n hn hlt)
theorem C_iFU (n : Nat) (hlt : n < 100) : Yc Tryz.prog 163 [.int .u64 (n : Int), .int .i64 10] (.string (Zra n)) := by
 refine fn_intro func163 rfl ntmps163 nb ?_
 intro S w0 a hS h
 refine gC h (zS (za rfl (zn (zs (zS (zm rfl (zp (.eql rfl rfl) (zn ?_)))))))); clear h; intro a w h
 refine cW ?_
 refine Zb h rfl (fun hc10 => ?_) (fun hc10 => (absurd hc10 dd))
 refine gC h (zs (zS (zm rfl (zp (.lss rfl rfl) (zn ?_))))); clear h; intro a w h
 refine cW ?_
 refine Zb h rfl (fun hc12 => ?_) (fun hc12 => (by exfalso; have := of_decide_eq_false hc12; omega))
 refine gC h (zS (zm rfl (zp (.convert rfl (Zs7 _ (wrap_i64 _ oo oo))) (zv [_] rfl call189 (Qfi n hlt) (za rfl (zn (zt ?_))))))); clear h; intro a w h
 exact Zag h
theorem C_FU (n : Nat) (hlt : n < 100) : Yc Tryz.prog 133 [.int .u64 (n : Int), .int .i64 10] (.string (Zra n)) := by
 refine fn_intro func133 rfl ntmps133 nb ?_
 intro S w0 a hS h
 refine gC h (zS (za rfl (zn (zS (zm rfl (zm rfl (zv [_, _] rfl call163 (C_iFU n hlt) (za rfl (zn (zt ?_)))))))))); clear h; intro a w h
 exact Zag h
theorem Zro (n : Nat) (hlt : n < 100) : Yc Tryz.prog 93 [Vt n] (.string (Zra n)) := by
 refine fn_intro func93 rfl ntmps93 nb ?_
 intro S w0 a hS h
 refine gC h (zS (zx rfl fun b1 => za rfl (zn (zs (zS (zp (.fA rfl Ku) (zd rfl mr isAgg9 sizeOf9 Qi ?_)))))))
 refine zp (.binOp rfl rfl (fun _ => Kj _ _ _ _ _)) (zn ?_); intro a w h
 refine cW ?_
 refine Zb h rfl (fun hc10 => ?_) (fun hc10 => (by exfalso; have hb : Zau n = ⟨#[]⟩ := Vi oo; rw [hb] at hc10; exact absurd hc10 dd))
 refine gC h (zS (zp (.fA rfl Vn) (zd rfl mr isAgg56 sizeOf56 Ql ?_))); clear h; intro a w h
 rw [Qp (show n < 18446744073709551616 by omega)] at h
 refine gL h (zv [_, _] rfl call133 (C_FU n hlt) (za rfl (zn (zt ?_)))); clear h; intro a w h
 exact Zag h
theorem Zzk (z : Int) (hz : z.natAbs < 100) : Yc Tryz.prog 92 [encZ z] (.string (Zp0 z)) := by
 refine fn_intro func92 rfl ntmps92 nb ?_
 intro S w0 a hS h
 refine gC h (zS (zx rfl fun b1 => za rfl (zn (zs (zS (zp (.fA rfl Zb0) (zd rfl mr isAgg4 sizeOf4 Zb8 ?_))))))); clear h; intro a w h
 refine wpList_nil ?_
 refine cW ?_
 refine Zb h rfl (fun hc4 => ?_) (fun hc4 => ?_)
 ·
  skip
  have hn : z < 0 := of_decide_eq_true hc4
  refine gC h (zS (zp (.fA rfl Gg) (zp (.fA rfl Zac) (zd rfl mr isAgg58 sizeOf58 Xg ?_))))
  refine zv [_] rfl call93 (Zro z.natAbs hz) (zp (.binOp rfl rfl (fun _ => Vo _ _ _ _ _ (by have := Zgq z.natAbs; have h1 : (ByteArray.mk #[45]).size = 1 := rfl; omega))) (za rfl (zn (zt ?_)))); intro a w h
  refine Jr h (Ze h rfl (.tmp rfl)) ?_
  unfold Zp0; rw [if_pos hn]
 ·
  skip
  have hn : ¬ z < 0 := of_decide_eq_false hc4
  refine gC h (zk (zS (zp (.fA rfl Gg) (zp (.fA rfl Zac) (zd rfl mr isAgg58 sizeOf58 Xg ?_)))))
  refine zv [_] rfl call93 (Zro z.natAbs hz) (za rfl (zn (zt ?_))); intro a w h
  refine Jr h (Ze h rfl (.tmp rfl)) ?_
  unfold Zp0; rw [if_neg hn]
theorem Zzq (x : Rat) (hn : x.num.natAbs < 100) (hd : x.den < 100) : Yc Tryz.prog 53 [Zv x] (.string (Znd x)) := by
 refine fn_intro func53 rfl ntmps53 nb ?_
 intro S w0 a hS h
 refine gC h (zS (zx rfl fun b1 => za rfl (zn (zs (zS (zd rfl mr isAgg64 sizeOf64 Zh ?_))))))
 refine zv [_] rfl call82 (Zhl x) (zn ?_); intro a w h
 refine cW ?_
 refine Zb h rfl (fun hc4 => ?_) (fun hc4 => ?_)
 ·
  skip
  have hw : x.den = 1 := of_decide_eq_true hc4
  refine gC h (zS (zp (.fA rfl Yf) (zd rfl mr isAgg62 sizeOf62 Xf ?_)))
  refine zv [_] rfl call92 (Zzk x.num hn) (za rfl (zn (zt ?_))); intro a w h
  refine Jr h (Ze h rfl (.tmp rfl)) ?_
  unfold Znd; rw [if_pos hw]
 ·
  skip
  have hw : ¬ x.den = 1 := of_decide_eq_false hc4
  refine gC h (zk (zs (yD Za [0, 1, 4, 2, 3, 5, 6, 7, 8] (Zc kk) (yp rfl (.fA rfl Yf) (yd rfl rfl mr isAgg62 sizeOf62 Xf ?_))))); clear h
  refine yd rfl rfl mr isAgg64 sizeOf64 Zh ?_
  refine yv [_] rfl rfl call92 (Zzk x.num hn) (yp rfl (.binOp rfl rfl (fun _ => Vo _ _ _ _ _ (by have := Zgz x.num; have h1 : (ByteArray.mk #[47]).size = 1 := rfl; omega))) (yv [_] rfl rfl call85 (Zgv x (Nat.le_trans (Kw oo) dd)) (yv [_] rfl rfl call93 (Zro x.den hd) (yp rfl (.binOp rfl rfl (fun _ => Vo _ _ _ _ _ (by have := Zgz x.num; have := Zgq x.den; have h1 : (ByteArray.mk #[47]).size = 1 := rfl; rw [ByteArray.size_append]; omega))) (yp rfl (.assign rfl) (yn (zt ?_))))))); intro a w h
  refine Jr h (Ze h rfl (.tmp rfl)) ?_
  unfold Znd; rw [if_neg hw]
theorem Zk5 (ad : Option Addr) (c : Nat) (l : List Rat) (hn : l.length ≤ 1000) (hx : ∀ x ∈ l, x.num.natAbs < 100 ∧ x.den < 100) :
  Ge Tryz.prog 46 [.slice ad l.length c] [Row ad (cellsOf Zv l)] (.string (textU l l.length)) := by
 refine fn_intro func46 rfl ntmps46 nb ?_
 intro S w0 a hS h
 refine gC h (zS (za rfl (zn (zS (za rfl (zn (zs (zS (za rfl (zn (zb ?_))))))))))); clear h; intro a w h
 refine Zd (fun (i : Nat) a w => i ≤ l.length ∧ St 23 S w0 [(0, .slice ad l.length c), (2, .string (⟨#[]⟩)), (3, .string (textU l i)), (4, nI i)] [] [Row ad (cellsOf Zv l)] a w) (fun i => l.length - i) 0 (⟨Nat.zero_le _, by exact (h).sub sA⟩) ?_; clear h
 rintro i a w ⟨hi_i, h⟩
 refine gC h (zs (zS (zm rfl (zm rfl (zp (.builtin [_] rfl (Zw _ _ _)) (zp (.lss rfl rfl) (zn ?_))))))); clear h; intro a w h
 refine cW ?_
 refine Zb h rfl (fun hc8 => ?_) (fun hc8 => ?_)
 ·
  skip
  have hlt_i : i < l.length := dT hc8
  obtain ⟨B_ad, O_ad, rfl⟩ := h.row_addr (ad := ad) (M := cellsOf Zv l) mm (nE 5)
  have hg := hx (l.getD i 0) (getD_mem _ hlt_i)
  have hsz := Zkh l i
  have hsq := Zki (l.getD i 0)
  have h32 : (ByteArray.mk #[32]).size = 1 := rfl
  refine gC h (zk (zs (zb (zs (zS (zm rfl (zp (.gtr rfl rfl) (zn ?_)))))))); clear h; intro a w h
  refine cW ?_
  refine Zb h rfl (fun hc12 => ?_) (fun hc12 => ?_)
  ·
   skip
   have hp : 0 < i := dT hc12
   have hU : textU l (i + 1) = (textU l i ++ ⟨#[32]⟩) ++ Znd (l.getD i 0) := by rw [textU, if_pos hp]
   refine gC h (zr (zm rfl (zp (.binOp rfl rfl (fun _ => Vo _ _ _ _ _ oo)) (za rfl (zn (zr (zm rfl (zm rfl (zm rfl (zp (.indexAddr rfl rfl (Km _ _ _ _ _ oo)) (zD rfl mm (cells_lt (k := 5) dd (fun _ => rfl) l i oo) isAgg64 sizeOf64 (Zm (k := 5) (fun _ => rfl) ((fun _ => rfl)) l 0 i oo) (.inl rfl) ?_)))))))))))
   refine zv [_] rfl call53 (Zzq (l.getD i 0) hg.1 hg.2) (zp (.binOp rfl rfl (fun _ => Vo _ _ _ _ _ (by first | (simp only [ByteArray.size_append]; omega) | omega))) (za rfl (zn (zr (zm rfl (zp (.pN (i + 1) (.add rfl rfl)) (za rfl (zn ?_)))))))); intro a w h
   exact ⟨i + 1, ⟨oo, by rw [hU]; exact (h.factsSub (by simp)).sub sA⟩, oo⟩
  ·
   skip
   have hp : ¬ 0 < i := dF hc12
   have hU : textU l (i + 1) = textU l i ++ Znd (l.getD i 0) := by rw [textU, if_neg hp]
   refine gC h (zk (zr (zm rfl (zm rfl (zm rfl (zp (.indexAddr rfl rfl (Km _ _ _ _ _ oo)) (zD rfl mm (cells_lt (k := 5) dd (fun _ => rfl) l i oo) isAgg64 sizeOf64 (Zm (k := 5) (fun _ => rfl) ((fun _ => rfl)) l 0 i oo) (.inl rfl) ?_)))))))
   refine zv [_] rfl call53 (Zzq (l.getD i 0) hg.1 hg.2) (zp (.binOp rfl rfl (fun _ => Vo _ _ _ _ _ (by first | (simp only [ByteArray.size_append]; omega) | omega))) (za rfl (zn (zr (zm rfl (zp (.pN (i + 1) (.add rfl rfl)) (za rfl (zn ?_)))))))); intro a w h
   exact ⟨i + 1, ⟨oo, by rw [hU]; exact (h.factsSub (by simp)).sub sA⟩, oo⟩
 ·
  skip
  have heq_i : l.length = i := dF hc8
  subst heq_i
  refine gC h (ze (zS (zm rfl (za rfl (zn (zt ?_)))))); clear h; intro a w h
  exact Zag h
end
section
def Zrg (i k : Int) : Int := if i < k then -1 else if i > k then 1 else 0
def validQ (t : Rat) : Bool := decide (t.num.sign ≥ 0) && decide ((t - ((1 : Int) : Rat)).num.sign ≤ 0)
theorem Zzj (x : Int) : Yc Tryz.prog 183 [.int .i64 x] (.bool false) := by
 refine fn_intro func183 rfl ntmps183 nb ?_
 intro S w0 a hS h
 refine gC h (zS (za rfl (zn (zS (zm rfl (zm rfl (zp (.neq rfl rfl) (za rfl (zn (zt ?_)))))))))); clear h; intro a w h
 refine Jr h (Ze h rfl (.tmp rfl)) ?_
 simp
theorem Qdi (x y : Int) : Yc Tryz.prog 156 [.int .i64 x, .int .i64 y] (.int .i64 (Zrg x y)) := by
 refine fn_intro func156 rfl ntmps156 nb ?_
 intro S w0 a hS h
 refine gC h (zS (za rfl (zn (zS (zm rfl (zv [_] rfl call183 (Zzj _) (za rfl (zn (zS (zm rfl (zv [_] rfl call183 (Zzj _) (za rfl (zn (zs (zS (zm rfl ?_)))))))))))))))); clear h; intro a w h
 refine Zi h (fun hc11 h => (by exfalso; cases hc11)) (fun hc11 h => ?_)
 refine wpList_nil ?_
 refine cW ?_
 refine Zn h rfl ?_
 refine gC h (zk (zs (zS (zm rfl ?_)))); clear h; intro a w h
 refine Zi h (fun hc13 h => (by exfalso; cases hc13)) (fun hc13 h => ?_)
 refine wpList_nil ?_
 refine cW ?_
 refine Zn h rfl ?_
 refine gC h (zk (zs (zS (zm rfl (zm rfl (zp (.lss rfl rfl) (zn ?_))))))); clear h; intro a w h
 refine cW ?_
 refine Zb h rfl (fun hc16 => ?_) (fun hc16 => ?_)
 ·
  skip
  refine gC h (zS (za rfl (zn (zt ?_)))); clear h; intro a w h
  refine Jr h (Ze h rfl (.tmp rfl)) ?_
  unfold Zrg; have := of_decide_eq_true hc16; simp [this]
 ·
  skip
  refine gC h (zk (zs (zS (zm rfl (zm rfl (zp (.gtr rfl rfl) (zn ?_))))))); clear h; intro a w h
  refine cW ?_
  refine Zb h rfl (fun hc19 => ?_) (fun hc19 => ?_)
  ·
   skip
   refine gC h (zS (za rfl (zn (zt ?_)))); clear h; intro a w h
   refine Jr h (Ze h rfl (.tmp rfl)) ?_
   unfold Zrg; have h1 := of_decide_eq_false hc16; have h2 := of_decide_eq_true hc19; rw [if_neg h1, if_pos h2]
  ·
   skip
   refine gC h (zk (zS (za rfl (zn (zt ?_))))); clear h; intro a w h
   refine Jr h (Ze h rfl (.tmp rfl)) ?_
   unfold Zrg; have h1 := of_decide_eq_false hc16; have h2 := of_decide_eq_false hc19; rw [if_neg h1, if_neg h2]
end
section
theorem Zli (x : Int) (h0 : -9223372036854775807 ≤ x) (h1 : x ≤ 9223372036854775807) (w : World) : (Op.unary .neg (.int .i64 x)).run Tryz.prog w = .ok (.int .i64 (-x)) w := by
 have : (Op.unary .neg (.int .i64 x)).run Tryz.prog w = .ok (.int .i64 (IntKind.i64.wrap (0 - x))) w := by simp [Op.unary, Op.intArith]
 rw [this, wrap_i64 _ oo oo]; congr 2; omega
end
section
theorem Zxz {b off : Nat} (w : World) : (Instr.fieldAt 24 (.pointer (some ⟨b, off, none⟩)) 0).run Tryz.prog w = .ok (.pointer (some ⟨b, off + 0, none⟩)) w := by
 simp [go_sem]
theorem Zxy {b off : Nat} (w : World) : (Instr.fieldAt 24 (.pointer (some ⟨b, off, none⟩)) 1).run Tryz.prog w = .ok (.pointer (some ⟨b, off + 1, none⟩)) w := by
 simp [go_sem]
theorem Qey (x : Int) (w : World) : (Go.convert 22 2 (.int .u32 x)).run Tryz.prog w = .ok (.int .i64 (IntKind.i64.wrap x)) w := by
 simp [go_sem]
theorem Ztc (x : Int) (h0 : IntKind.i64.wrap x = x) (w : World) : (Go.convert 22 2 (.int .u32 x)).run Tryz.prog w = .ok (.int .i64 x) w := by
 rw [Qey, h0]
def qv (N D : Int) : Rat := ((N : Int) : Rat) / ((max D 1 : Int) : Rat)
theorem Yd (N D : Int) (h0 : -9223372036854775808 ≤ N) (h1 : N ≤ 9223372036854775807) (h2 : 0 ≤ D) (h3 : D ≤ 4294967295) : Qa (qv N D) ≤ 4 := Xy N (max D 1) h0 h1 oo oo
theorem Zyq (x y : Int) (w : World) (ty : TypeId) (cs : Array Bool) : (Go.builtin .max #[22, 22] ty cs #[.int .u32 x, .int .u32 y]).run Tryz.prog w = .ok (.value (.int .u32 (max x y))) w := by
 simp [go_sem] <;> (try rw [Int.max_def]) <;> (try split) <;> (try split) <;> (try omega)
abbrev Za9 (q : Int × Int) : Value := .agg #[.int .i64 q.1, .int .u32 q.2]
def OkQ (q : Int × Int) : Prop := -9223372036854775808 ≤ q.1 ∧ q.1 ≤ 9223372036854775807 ∧ 0 ≤ q.2 ∧ q.2 ≤ 4294967295
def qvp (q : Int × Int) : Rat := qv q.1 q.2
theorem Zly {q : Int × Int} (h : OkQ q) : Qa (qvp q) ≤ 4 := Yd _ _ h.1 h.2.1 h.2.2.1 h.2.2.2
theorem Zes (N D : Int) (h0 : -9223372036854775808 ≤ N) (h1 : N ≤ 9223372036854775807) (h2 : 0 ≤ D) (h3 : D ≤ 4294967295) : Yc Tryz.prog 41 [.agg #[.int .i64 N, .int .u32 D]] (Zv (qv N D)) := by
 refine fn_intro func41 rfl ntmps41 nb ?_
 intro S w0 a hS h
 refine gC h (zS (zx rfl fun b1 => zz Ja fun b2 => zn (zS (zp (.fA rfl Zxz) (zd rfl mr isAgg2 sizeOf2 Ql ?_)))))
 refine zp (.fA rfl Zxy) (zd rfl mr isAgg22 sizeOf22 Qi ?_)
 refine zp (.builtin [_, _] rfl (fun w ty cs => Zyq _ _ w ty cs)) (zp (.convert rfl (Ztc _ (wrap_i64 _ oo oo))) (zv [_, _] rfl call52 (Qcd _ _ oo oo oo oo oo) ?_))
 have hl12 := Xy (N) (max D 1) oo oo oo oo
 refine zm rfl (zp (.eX rfl) (zp (.eX rfl) (zz Ja fun b3 => zt' rfl rfl Zp uu sizeOf64 rfl nb rfl ?_)))
 refine za rfl (zn (zS (zd rfl mr isAgg64 sizeOf64 Zh ?_)))
 refine zt' rfl rfl Zp uu sizeOf64 rfl nb rfl ?_; intro a w h
 refine wpList_nil (wp_ret ?_)
 refine Jr h (Ze h rfl (.cell rfl mr isAgg64 sizeOf64 Zh)) ?_
 rfl
end
section
theorem Zhu (a : Option Addr) (n c : Nat) (w : World) (ty : TypeId) (cs : Array Bool) : (Go.builtin .len #[67] ty cs #[.slice a n c]).run Tryz.prog w = .ok (.value (.int .i64 n)) w := by
 simp [go_sem]
theorem ix_67 (b off n c j : Nat) (h : j < n) (w : World) : (Instr.indexAt 67 (.slice (some ⟨b, off, none⟩) n c) (.int .i64 (j : Int))).run Tryz.prog w = .ok (.pointer (some ⟨b, off + j, none⟩)) w := by
 simpa using Je runUnderlying67 sizeOf3 b off n c j h w
theorem Zjy (x0 : Int) (x1 : Int) (x2 : Int) (w : World) : (Instr.build 78 [(0, .int .i64 x0), (1, .int .i64 x1), (2, .int .i64 x2)].toArray).run Tryz.prog w = .ok (.agg #[.int .i64 x0, .int .i64 x1, .int .i64 x2]) w := by simp [go_sem]
theorem Zmo (x0 : Int) (x1 : Int) (x2 : Int) (w : World) : (Instr.buildSlice 67 3 [(0, .int .i64 x0), (1, .int .i64 x1), (2, .int .i64 x2)].toArray).run Tryz.prog w = .ok (.slice (some ⟨w.heap.size, 0, none⟩) 3 3) (w.alloc (.cells #[.int .i64 x0, .int .i64 x1, .int .i64 x2] 3 (0, 0))) := by
 simp [go_sem]
def upQ (q : Rat) : Nat → Rat
 | 0 => q
 | p + 1 => upQ q p * (((p + 1 : Nat) : Int) : Rat)
def Zh2 (q : Rat) : Nat → Rat
 | 0 => q
 | n + 1 => Zh2 q n / (((n + 1 : Nat) : Int) : Rat)
def Zdt (n : Nat) (l : List Nat) : Rat := Zh2 (l.foldl upQ 1) n
def Jd (i j k : Nat) : Rat := ((2 : Int) : Rat) * Zdt (i + j + k + 2) [i, j, k]
theorem Zg8 (q : Rat) : ∀ p, p ≤ 1000000 → Qa (upQ q p) ≤ Qa q + 2 * p
 | 0, _ => Nat.le_refl _
 | p + 1, h => by
  have h1 := Zg8 q p oo
  have h2 := Qo ((p + 1 : Nat) : Int) oo oo
  have h3 := Zx (upQ q p) (((p + 1 : Nat) : Int) : Rat)
  show Qa (upQ q p * _) ≤ _
  omega
theorem Zed (q : Rat) : ∀ p, p ≤ 1000000 → Qa (Zh2 q p) ≤ Qa q + 2 * p
 | 0, _ => Nat.le_refl _
 | p + 1, h => by
  have h1 := Zed q p oo
  have h2 := Qo ((p + 1 : Nat) : Int) oo oo
  have h3 := Zcd (Zh2 q p) (((p + 1 : Nat) : Int) : Rat)
  show Qa (Zh2 q p / _) ≤ _
  omega
theorem Gd : Qa 1 ≤ 2 := Qo 1 oo oo
theorem Zgi : ∀ (l : List Nat) (q : Rat), (∀ x ∈ l, x ≤ 48) → Qa (l.foldl upQ q) ≤ Qa q + 96 * l.length
 | [], q, _ => by simp
 | x :: l, q, h => by
  have h1 := Zgi l (upQ q x) (fun y hy => h y (List.mem_cons_of_mem _ hy))
  have h0 := h x List.mem_cons_self
  have h2 := Zg8 q x oo
  simp only [List.foldl_cons, List.length_cons]
  omega
theorem Zwn : ((1 : Int) : Rat) = 1 := rfl
theorem int_ne {n : Nat} : ((((n + 1 : Nat) : Int) : Rat)) ≠ 0 := fun e => by have := Rat.intCast_eq_zero_iff.1 e; omega
theorem Ztn (n : Nat) (l : List Nat) (ad : Option Addr) (c : Nat) (hn : n ≤ 200) (hl : l.length ≤ 10) (hx : ∀ x ∈ l, x ≤ 48) :
  Ge Tryz.prog 68 [.int .i64 ((n : Nat) : Int), .slice ad l.length c] [Row ad (List.map Qh l)] (Zv (Zdt n l)) := by
 refine fn_intro func68 rfl ntmps68 nb ?_
 intro S w0 a hS h
 refine gC h (zS (zz Ja fun b4 => zn (zS (zv [_] rfl call31 (Vg _ oo oo) ?_))))
 have hl10 := Qo (1) oo oo
 refine zz Ja fun b5 => zt' rfl rfl Zp uu sizeOf64 rfl nb rfl ?_
 refine zn (zs (zS (zm rfl (zp (.builtin [_] rfl (Zhu _ _ _)) (zm rfl (zn (zb ?_))))))); intro a w h
 refine Zd (fun (k : Nat) a w => k ≤ l.length ∧ St 42 S w0 [(0, nI n), (4, pB b4), (5, pB b5), (11, .slice ad l.length c), (12, nI l.length), (13, nI k)] [(b5, bV (Zv ((l.take k).foldl upQ 1)) 64), (b4, bV (Zv (0)) 64)] [Row ad (List.map Qh l)] a w) (fun k => l.length - k) 0 (⟨Nat.zero_le _, by exact (h).sub sA⟩) ?_; clear h
 rintro k a w ⟨hi_k, h⟩
 refine gC h (zS (zp (.lss rfl rfl) (zn (zs ?_)))); clear h; intro a w h
 refine Zb h rfl (fun hc14 => ?_) (fun hc14 => ?_)
 ·
  skip
  have hlt_k : k < l.length := dT hc14
  obtain ⟨B_ad, O_ad, rfl⟩ := h.row_addr (ad := ad) (M := List.map Qh l) mm nF
  have hxk := hx (l.getD k 0) (getD_mem _ hlt_k)
  have hlk := Zgi (l.take k) 1 (fun x hx' => hx x (List.mem_of_mem_take hx'))
  rw [List.length_take] at hlk
  have hl1 := Gd
  refine gC h (zk (zs (zb (zS (zp (.indexAddr rfl rfl (ix_67 _ _ _ _ _ oo)) (zD rfl mm (by rw [List.length_map]; omega) isAgg3 sizeOf3 (Zy (enc := Qh) (l := l) 0 oo) (.inr rfl) ?_))))))
  refine za rfl (zn (zS (zm rfl (zm rfl (zn (zb ?_)))))); intro a w h
  refine Zd (fun (i : Nat) a w => i ≤ l.getD k 0 ∧ St 42 S w0 [(0, nI n), (4, pB b4), (5, pB b5), (11, .slice (some ⟨B_ad, O_ad, none⟩) l.length c), (12, nI l.length), (13, nI k), (17, nI (l.getD k 0)), (18, nI i)] [(b5, bV (Zv (upQ ((l.take k).foldl upQ 1) i)) 64), (b4, bV (Zv (0)) 64)] [Row (some ⟨B_ad, O_ad, none⟩) (List.map Qh l)] a w) (fun i => l.getD k 0 - i) 0 (⟨Nat.zero_le _, by exact (h).sub sA⟩) ?_; clear h
  rintro i a w ⟨hi_i, h⟩
  refine gC h (zS (zp (.lss rfl rfl) (zn (zs ?_)))); clear h; intro a w h
  refine Zb h rfl (fun hc19 => ?_) (fun hc19 => ?_)
  ·
   skip
   have hlt_i : i < l.getD k 0 := dT hc19
   have hli := Zg8 ((l.take k).foldl upQ 1) i oo
   refine gC h (zk (zs (zb (zS (zm rfl (za rfl (zn (yD Za [0, 1, 2, 3, 4, 5] (Zc kk) (yd rfl rfl mr isAgg64 sizeOf64 Zh ?_))))))))); clear h
   refine ym rfl rfl (yp rfl (.pN (i + 1) (.add rfl rfl)) (yv [_] rfl rfl call31 (Vg _ oo oo) ?_))
   have hl24 := Qo (((i + 1 : Nat) : Int)) oo oo
   refine yv [_, _] rfl rfl call42 (Yh _ _ oo oo) ?_
   have hl25 := Zx (upQ ((l.take k).foldl upQ 1) i) (((((i + 1 : Nat) : Int) : Int) : Rat))
   refine yt rfl rfl rfl Zp uu sizeOf64 rfl nb rfl ?_
   refine yn (zr (zp (.pN (i + 1) (.add rfl rfl)) (zm rfl (zn ?_)))); intro a w h
   exact ⟨i + 1, ⟨oo, h.sub sA⟩, oo⟩
  ·
   skip
   have heq_i : l.getD k 0 = i := dF hc19
   subst heq_i
   refine gC h (ze (zr (zp (.pN (k + 1) (.add rfl rfl)) (zm rfl (zn ?_))))); clear h; intro a w h
   rw [← Zeh (f := upQ) l 1 k 0 hlt_k] at h
   exact ⟨k + 1, ⟨oo, (h.factsSub (by simp)).sub sA⟩, oo⟩
 ·
  skip
  have heq_k : l.length = k := dF hc14
  subst heq_k
  refine gC h (ze (zs (zS (zm rfl (zm rfl (zn (zb ?_))))))); clear h; intro a w h
  rw [List.take_length] at h
  refine Zd (fun (m : Nat) a w => m ≤ n ∧ St 42 S w0 [(0, nI n), (4, pB b4), (5, pB b5), (11, .slice ad l.length c), (12, nI l.length), (13, nI l.length), (28, nI n), (29, nI m)] [(b5, bV (Zv (Zh2 (l.foldl upQ 1) m)) 64), (b4, bV (Zv (0)) 64)] [Row ad (List.map Qh l)] a w) (fun m => n - m) 0 (⟨Nat.zero_le _, by exact (h).sub sA⟩) ?_; clear h
  rintro m a w ⟨hi_m, h⟩
  refine gC h (zS (zp (.lss rfl rfl) (zn (zs ?_)))); clear h; intro a w h
  refine Zb h rfl (fun hc30 => ?_) (fun hc30 => ?_)
  ·
   skip
   have hlt_m : m < n := dT hc30
   have hlm := Zed (l.foldl upQ 1) m oo
   have hlk := Zgi l 1 hx
   have hl1 := Gd
   refine gC h (zk (zs (zb (zS (zm rfl (za rfl (zn (yD Za [0, 1, 2, 3, 4, 5, 6, 7, 8] (Zc kk) (yd rfl rfl mr isAgg64 sizeOf64 Zh ?_))))))))); clear h
   refine ym rfl rfl (yp rfl (.pN (m + 1) (.add rfl rfl)) (yv [_] rfl rfl call31 (Vg _ oo oo) ?_))
   have hl36 := Qo (((m + 1 : Nat) : Int)) oo oo
   refine yv [_, _] rfl rfl call89 (Zzr _ _ int_ne oo oo) (ym rfl rfl (yp rfl (.eX rfl) (yp rfl (.eX rfl) (yt rfl rfl rfl Zp uu sizeOf64 rfl nb rfl ?_))))
   refine yn (zr (zp (.pN (m + 1) (.add rfl rfl)) (zm rfl (zn ?_)))); intro a w h
   exact ⟨m + 1, ⟨oo, h.sub sA⟩, oo⟩
  ·
   skip
   have heq_m : n = m := dF hc30
   subst heq_m
   refine gC h (ze (zS (zd rfl mr isAgg64 sizeOf64 Zh ?_)))
   refine zt' rfl rfl Zp uu sizeOf64 rfl nb rfl ?_; intro a w h
   refine wpList_nil (wp_ret ?_)
   refine Jr h (Ze h rfl (.cell rfl mr isAgg64 sizeOf64 Zh)) ?_
   rfl
theorem ix3 (a b c m : Nat) (h : m < 3) (w : World) : (Instr.index 78 (.agg #[.int .i64 (a : Int), .int .i64 (b : Int), .int .i64 (c : Int)]) (.int .i64 (m : Int))).run Tryz.prog w = .ok (.int .i64 (([a, b, c].getD m 0 : Nat) : Int)) w := by
 match m, h with
 | 0, _ => unfold Instr.index; simp [go_sem]
 | 1, _ => unfold Instr.index; simp [go_sem]
 | 2, _ => unfold Instr.index; simp [go_sem]
theorem Zbw (i j k : Nat) (hi : i ≤ 48) (hj : j ≤ 48) (hk : k ≤ 48) : Qa (Jd i j k) ≤ 1000 := by
 unfold Jd Zdt
 have h1 := Zx ((2 : Int) : Rat) (Zh2 ([i, j, k].foldl upQ 1) (i + j + k + 2))
 have h2 := Qo 2 oo oo
 have h3 := Zed ([i, j, k].foldl upQ 1) (i + j + k + 2) oo
 have h4 := Zgi [i, j, k] 1 (by simp; omega)
 have h5 := Gd
 simp only [List.length_cons, List.length_nil] at h4
 omega
theorem Ztr (i j k : Nat) (hi : i ≤ 48) (hj : j ≤ 48) (hk : k ≤ 48) :
  Yc Tryz.prog 44 [.int .i64 ((i : Nat) : Int), .int .i64 ((j : Nat) : Int), .int .i64 ((k : Nat) : Int)] (Zv (Jd i j k)) := by
 refine fn_intro func44 rfl ntmps44 nb ?_
 intro S w0 a hS h
 refine gC h (zS (zz Ja fun b6 => zn (zs (zS (zm rfl (zm rfl (zm rfl (zp (.build [(_, _), (_, _), (_, _)] rfl (Zjy _ _ _)) (zm rfl (zn (zb ?_))))))))))); clear h; intro a w h
 refine Zd (fun (m : Nat) a w => m ≤ 3 ∧ St 37 S w0 [(0, nI i), (1, nI j), (2, nI k), (6, pB b6), (12, .agg #[.int .i64 (i : Int), .int .i64 (j : Int), .int .i64 (k : Int)]), (13, nI m)] [(b6, bV (Zv (0)) 64)] [] a w) (fun m => 3 - m) 0 (⟨Nat.zero_le _, by exact (h).sub sA⟩) ?_; clear h
 rintro m a w ⟨hi_m, h⟩
 refine gC h (zS (zp (.lss rfl rfl) (zn (zs ?_)))); clear h; intro a w h
 refine Zb h rfl (fun hc14 => ?_) (fun hc14 => ?_)
 ·
  skip
  have hlt_m : m < 3 := dT hc14
  have hb : [i, j, k].getD m 0 ≤ 48 := by match m, hlt_m with | 0, _ => exact hi | 1, _ => exact hj | 2, _ => exact hk
  refine gC h (zk (zs (zb (zS (zp (.index rfl rfl (fun w => ix3 i j k m oo w)) (za rfl (zn (zS (zm rfl (zp (.lss rfl rfl) ?_)))))))))); clear h; intro a w h
  refine Zi h (fun hc17 h => (by exfalso; have := of_decide_eq_true hc17; omega)) (fun hc17 h => ?_)
  refine gL h (zm rfl (zq 18 rfl rfl (.move rfl) (zq 18 rfl rfl (.gtr rfl rfl) ?_))); clear h; intro a w h
  refine Zi h (fun hc20 h => (by exfalso; have := of_decide_eq_true hc20; omega)) (fun hc20 h => ?_)
  refine gL h (zp (.pickF rfl rfl) (zn ?_)); clear h; intro a w h
  refine cW ?_
  refine Zn h rfl ?_
  refine gC h (zk (zr (zp (.pN (m + 1) (.add rfl rfl)) (zm rfl (zn ?_))))); clear h; intro a w h
  exact ⟨m + 1, ⟨oo, h.sub sA⟩, oo⟩
 ·
  skip
  have heq_m : 3 = m := dF hc14
  subst heq_m
  refine gC h (ze (zS (zv [_] rfl call31 (Vg _ oo oo) ?_)))
  have hl24 := Qo (2) oo oo
  refine zm rfl (zm rfl (zp (.pN (i + j) (.add rfl rfl)) (zm rfl (zp (.pN ((i + j) + k) (.add rfl rfl)) (zp (.pN (((i + j) + k) + 2) (.add rfl rfl)) (zm rfl (zm rfl (zm rfl (zB [(_, _), (_, _), (_, _)] rfl (Zmo _ _ _) fun b34 => ?_))))))))); intro a w h
  replace h := h.shareAll hS (List.map Qh ([i, j, k])) rfl
  have hlr : Qa (Zdt (i + j + k + 2) [i, j, k]) ≤ 900 := by have := Zed ([i, j, k].foldl upQ 1) (i + j + k + 2) oo; have h4 := Zgi [i, j, k] 1 (by simp; omega); have := Gd; simp only [List.length_cons, List.length_nil] at h4; unfold Zdt; omega
  refine gL h (zw [_, _] rfl call68 (Ztn (i + j + k + 2) [i, j, k] _ _ oo ss (by simp; omega)) (zv [_, _] rfl call42 (Yh _ _ oo oo) ?_))
  have hl36 := Zx (((2 : Int) : Rat)) (Zdt (i + j + k + 2) [i, j, k])
  refine zt' rfl rfl Zp uu sizeOf64 rfl nb rfl ?_; intro a w h
  refine wpList_nil (wp_ret ?_)
  refine Jr h (Ze h rfl (.cell rfl mr isAgg64 sizeOf64 Zh)) ?_
  rfl
theorem Zsp (x : Rat) : ∀ i : Nat, Qa (x ^ i) ≤ 2 + i * Qa x
 | 0 => by rw [Rat.pow_zero]; have := Gd; omega
 | i + 1 => by
  rw [Rat.pow_succ]
  have h1 := Zsp x i
  have h2 := Zx (x ^ i) x
  rw [Nat.add_mul]; omega
theorem Xo (x : Rat) (i : Nat) (k m : Nat) (hx : Qa x ≤ k) (hi : i ≤ m) : Qa (x ^ i) ≤ 2 + m * k :=
 Nat.le_trans (Zsp x i) (Nat.add_le_add_left (Nat.mul_le_mul hi hx) 2)
theorem Zmz (x : Rat) (n : Nat) (hx : Qa x ≤ 1000) (hn : n ≤ 100) : Yc Tryz.prog 43 [Zv x, .int .i64 ((n : Nat) : Int)] (Zv (x ^ n)) := by
 refine fn_intro func43 rfl ntmps43 nb ?_
 intro S w0 a hS h
 refine gC h (zS (zx rfl fun b2 => zz Ja fun b4 => zn (zS (zv [_] rfl call31 (Vg _ oo oo) ?_))))
 have hl6 := Qo (1) oo oo
 refine zz Ja fun b5 => zt' rfl rfl Zp uu sizeOf64 rfl nb rfl ?_
 refine zn (zs (zS (zm rfl (zm rfl (zn (zb ?_)))))); intro a w h
 refine Zd (fun (i : Nat) a w => i ≤ n ∧ St 15 S w0 [(2, pB b2), (4, pB b4), (5, pB b5), (7, nI n), (8, nI i)] [(b5, bV (Zv (x ^ i)) 64), (b4, bV (Zv (0)) 64), (b2, bV (Zv (x)) 64)] [] a w) (fun i => n - i) 0 (⟨Nat.zero_le _, by rw [Rat.pow_zero]; exact (h).sub sA⟩) ?_; clear h
 rintro i a w ⟨hi_i, h⟩
 refine gC h (zS (zp (.lss rfl rfl) (zn (zs ?_)))); clear h; intro a w h
 refine Zb h rfl (fun hc9 => ?_) (fun hc9 => ?_)
 ·
  skip
  have hlt_i : i < n := dT hc9
  have hp := Xo x i 1000 100 hx oo
  refine gC h (zk (zs (zb (zr (zd rfl mr isAgg64 sizeOf64 Zh ?_)))))
  refine zd rfl mr isAgg64 sizeOf64 Zh ?_
  refine zv [_, _] rfl call42 (Yh _ _ oo oo) ?_
  have hl12 := Zx (x ^ i) (x)
  refine zt' rfl rfl Zp uu sizeOf64 rfl nb rfl ?_; intro a w h
  refine gL h (zn (zr (zp (.pN (i + 1) (.add rfl rfl)) (zm rfl (zn ?_))))); clear h; intro a w h
  rw [← Rat.pow_succ] at h
  exact ⟨i + 1, ⟨oo, h.sub sA⟩, oo⟩
 ·
  skip
  have heq_i : n = i := dF hc9
  subst heq_i
  refine gC h (ze (zS (zd rfl mr isAgg64 sizeOf64 Zh ?_)))
  refine zt' rfl rfl Zp uu sizeOf64 rfl nb rfl ?_; intro a w h
  refine wpList_nil (wp_ret ?_)
  refine Jr h (Ze h rfl (.cell rfl mr isAgg64 sizeOf64 Zh)) ?_
  rfl
theorem Zaw (n d : Int) (h0 : -9223372036854775808 ≤ n) (h1 : n ≤ 9223372036854775807) (h2 : -9223372036854775808 ≤ d) (h3 : d ≤ 9223372036854775807) (hd : d ≠ 0) :
  Yc Tryz.prog 50 [.int .i64 n, .int .i64 d] (Zv ((n : Rat) / (d : Rat))) := by
 refine fn_intro func50 rfl ntmps50 nb ?_
 intro S w0 a hS h
 refine gC h (zS (zz Ja fun b4 => zn (zS (zm rfl (zm rfl (zv [_, _] rfl call52 (Qcd _ _ oo oo oo oo oo) ?_))))))
 have hl10 := Xy (n) (d) oo oo oo oo
 refine zm rfl (zp (.eX rfl) (zp (.eX rfl) (zz Ja fun b5 => zt' rfl rfl Zp uu sizeOf64 rfl nb rfl ?_)))
 refine za rfl (zn (zS (zd rfl mr isAgg64 sizeOf64 Zh ?_)))
 refine zt' rfl rfl Zp uu sizeOf64 rfl nb rfl ?_; intro a w h
 refine wpList_nil (wp_ret ?_)
 refine Jr h (Ze h rfl (.cell rfl mr isAgg64 sizeOf64 Zh)) ?_
 rfl
end
end Go.Proofs.YtddhlkfpdjmplabGreatDoor
