/- Walks of functions. By an AI agent. -/
import Derived.Test.YtgkicbaomcmfoaaGreatDoorProg
import Derived.Test.YtgkicbaomcmfoaaGreatDoorFxZ
import Derived.Test.YtgkicbaomcmfoaaGreatDoorFxS
import Derived.Test.YtgkicbaomcmfoaaGreatDoorNumW
import Derived.Test.YtgkicbaomcmfoaaGreatDoorNumD
import Derived.Test.YtgkicbaomcmfoaaGreatDoorNumK
import Derived.Test.YtgkicbaomcmfoaaGreatDoorFxB
set_option linter.unusedVariables false
set_option linter.unusedSimpArgs false
set_option maxRecDepth 4000
namespace Go.Proofs.YtgkicbaomcmfoaaGreatDoor
open Go Go.Proofs Go.Fx Tryz
attribute [local irreducible] Oper.wp Code.wp wpList Fx.Head wpOp
section
theorem Zk (a : Option Addr) (n c : Nat) (w : World) (ty : TypeId) (cs : Array Bool) : (Go.builtin .len #[151] ty cs #[.slice a n c]).run Tryz.prog w = .ok (.value (.int .i64 n)) w := by
 simp [go_sem]
theorem Qr (b off n c j : Nat) (h : j < n) (w : World) : (Instr.indexAt 151 (.slice (some ⟨b, off, none⟩) n c) (.int .i64 (j : Int))).run Tryz.prog w = .ok (.pointer (some ⟨b, off + j, none⟩)) w := by
 simpa using Yy runUnderlying151 sizeOf54 b off n c j h w
theorem Zu0 (a : Option Addr) (n c j : Nat) (h : j ≤ c) (w : World) : (Instr.sliceAt 151 (.slice a n c) none (some (.int .i64 (j : Int))) none).run Tryz.prog w = .ok (.slice a j c) w := by
 exact Zcv runUnderlying151 sizeOf54 a n c j h w
theorem Yn {b off : Nat} (w : World) : (Instr.fieldAt 47 (.pointer (some ⟨b, off, none⟩)) 1).run Tryz.prog w = .ok (.pointer (some ⟨b, off + 1, none⟩)) w := by
 simp [go_sem]
theorem Jy {c0 c1 : Value} : Qu false 1 #[c0, c1] 1 = some c1 := rfl
theorem Yf {b off : Nat} (w : World) : (Instr.fieldAt 47 (.pointer (some ⟨b, off, none⟩)) 0).run Tryz.prog w = .ok (.pointer (some ⟨b, off + 0, none⟩)) w := by
 simp [go_sem]
theorem Jn {c0 c1 : Value} : Qu false 1 #[c0, c1] 0 = some c0 := rfl
theorem Xi (x : Int) (w : World) : (Go.convert 45 54 (.int .u64 x)).run Tryz.prog w = .ok (.int .u32 (IntKind.u32.wrap x)) w := by
 simp [go_sem]
theorem Znn (x0 : Int) (x1 : Int) (w : World) : (Instr.buildSlice 151 2 [(0, .int .u32 x0), (1, .int .u32 x1)].toArray).run Tryz.prog w = .ok (.slice (some ⟨w.heap.size, 0, none⟩) 2 2) (w.alloc (.cells #[.int .u32 x0, .int .u32 x1] 54 (0, 0))) := by
 simp [go_sem]
theorem Zt (x : ByteArray) (w : World) (ty : TypeId) (cs : Array Bool) : (Go.builtin .len #[9] ty cs #[.string x]).run Tryz.prog w = .ok (.value (.int .i64 x.size)) w := by
 simp [go_sem]
theorem Qex (x : Int) (w : World) : (Go.convert 5 54 (.int .u8 x)).run Tryz.prog w = .ok (.int .u32 (IntKind.u32.wrap x)) w := by
 simp [go_sem]
theorem Zrv (x : Int) (h0 : IntKind.u32.wrap x = x) (w : World) : (Go.convert 5 54 (.int .u8 x)).run Tryz.prog w = .ok (.int .u32 x) w := by
 rw [Qex, h0]
theorem Za : Tryz.prog.follows .mixedOrders = true := by kernel_rfl
theorem Ji (b : Bool) (w : World) : (Op.unary .not (.bool b)).run Tryz.prog w = .ok (.bool (!b)) w := by simp [go_sem]
theorem Qfv (ad : Option Addr) (c : Nat) (l : List Nat) (hw : Wd l) (hc : l.length ≤ c) (hs : l.length ≤ 1099511627776) :
  Ctr Tryz.prog 94 [.slice ad l.length c] [Row ad (Jo l)] (fun v Ψ => v = .slice ad (wds (Zr l)).length c ∧ Ψ = [Row ad (Jo (wds (Zr l)))]) := by
 refine fn_intro func94 rfl ntmps94 nb ?_
 intro S w0 a hS h
 refine gC h (zS (za rfl (zn (zs (zb ?_))))); clear h; intro a w h
 refine Zi (fun (m : Nat) a w => m ≤ l.length ∧ (∀ j, m ≤ j → j < l.length → l.getD j 0 = 0) ∧ St 21 S w0 [(0, .slice ad m c)] [] [Row ad (Jo l)] a w) (fun m => m) (l.length) (⟨Nat.le_refl _, fun j h1 h2 => absurd h2 oo, h.sub sA⟩) ?_; clear h
 rintro m a w ⟨hm, hz, h⟩
 refine gC h (zs (zS (zm rfl (zp (.builtin [_] rfl (Zk _ _ _)) (zp (.gtr rfl rfl) (zm rfl ?_)))))); clear h; intro a w h
 refine Zg h (fun hc6 h => ?_) (fun hc6 h => ?_)
 focus
  have hm0 : 0 < m := by simpa using hc6
  obtain ⟨b, off, had⟩ := h.row_addr List.mem_cons_self (by simp; intro e; subst e; simp at hm; omega)
  subst had
  refine gL h (zq 6 rfl rfl (.move rfl) (zq 6 rfl rfl (.move rfl) (zq 6 rfl rfl (.builtin [_] rfl (Zk _ _ _)) (zq 6 rfl rfl (.pO (m - 1) (.sub rfl rfl)) (zq 6 rfl rfl (.indexAddr rfl rfl (Qr _ _ _ _ _ oo)) ?_))))); clear h; intro a w h
  refine Zo 6 h rfl rfl (Zdk h rfl List.mem_cons_self (by simp; omega) isAgg54 sizeOf54 (Zv 0 oo) (.inr rfl) dd ?_); clear h; intro a h
  refine gL h (zq 6 rfl rfl (.eql rfl rfl) (zp (.pickT rfl rfl) (zn ?_))); clear h; intro a w h
  refine cW ?_
  refine Zb h rfl (fun hc14 => ?_) (fun hc14 => ?_)
  ·
   skip
   refine gC h (zk (zb (zr (zm rfl (zm rfl (zp (.builtin [_] rfl (Zk _ _ _)) (zp (.pO (m - 1) (.sub rfl rfl)) (zp (.slice rfl none (some _) none rfl rfl rfl (Zu0 _ _ _ _ oo)) (za rfl (zn ?_)))))))))); clear h; intro a w h
   refine ⟨m - 1, ⟨oo, fun j h1 h2 => ?_, h.sub sA⟩, oo⟩
   by_cases hj : j = m - 1
   ·
    skip
    subst hj; simpa using hc14
   ·
    skip
    exact hz j oo h2
  refine gC h (ze (zS (zm rfl (za rfl (zn (zt ?_)))))); clear h; intro a w h
  have hcut := Zxc hw hm hz (.inr (by simpa using hc14))
 rotate_left
 focus
  refine gL h (zo 6 rfl rfl rfl (zo 6 rfl rfl rfl (zo 6 rfl rfl rfl (zo 6 rfl rfl rfl (zo 6 rfl rfl rfl (zo 6 rfl rfl rfl (zo 6 rfl rfl rfl (zp (.pickF rfl rfl) (zn ?_))))))))); clear h; intro a w h
  refine cW ?_
  refine Ze h rfl ?_
  refine gC h (ze (zS (zm rfl (za rfl (zn (zt ?_)))))); clear h; intro a w h
  have hcut := Zxc hw hm hz (.inl (by simpa using hc6))
 all_goals
  have hR : ∀ ad, Row ad (Jo (wds (Zr l))) = Row ad ((Jo l).take m) := by intro ad; rw [hcut, Jo, List.map_take]
  replace h := h.derive (R := Row _ (Jo (wds (Zr l)))) (fun X hX => by rw [hR]; exact Zgs (hX _ List.mem_cons_self) m)
  have hl : m = (wds (Zr l)).length := by rw [hcut]; simp; omega
  refine Zy (Ψ := [Row _ (Jo (wds (Zr l)))]) h (Zd h rfl (.tmp rfl)) ⟨by rw [← hl], rfl⟩ ss
theorem Gu (n : Nat) (hs : (wds n).length ≤ 1099511627776) :
  Ctr Tryz.prog 92 [Xk n] [] (fun v Ψ => ∃ ad c, v = .slice ad (wds n).length c ∧ (wds n).length ≤ c ∧ Ψ = [Row ad (Jo (wds n))]) := by
 refine fn_intro func92 rfl ntmps92 nb ?_
 intro S w0 a hS h
 refine gC h (zS (zx rfl fun b1 => za rfl (zn (zs (zS (zp (.fA rfl Yn) (zd rfl mr isAgg9 sizeOf9 Jy ?_)))))))
 refine zp (.binOp rfl rfl (fun _ => Jv _ _ _ _ _)) (zn ?_); intro a w h
 refine cW ?_
 refine Zb h rfl (fun hc8 => ?_) (fun hc8 => ?_)
 ·
  skip
  have hn : n < 18446744073709551616 := Qh.1 (by simpa using hc8)
  refine gC h (zS (zp (.fA rfl Yf) (zd rfl mr isAgg45 sizeOf45 Jn ?_)))
  refine zp (Pure1.cast (v' := .int .u32 ((n % 4294967296 : Nat) : Int)) (.convert rfl (Xi _)) (by rw [Zw hn, Qy]; congr 1)) (zp (.fA rfl Yf) (zd rfl mr isAgg45 sizeOf45 Jn ?_))
  refine zp (.binOp rfl rfl (fun _ => by rw [Zw hn]; exact Xv _ _ _ n 32 dd)) (zp (Pure1.cast (v' := .int .u32 ((n / 4294967296 : Nat) : Int)) (.convert rfl (Xi _)) (by rw [Qy]; congr 1; omega)) (zB [(_, _), (_, _)] rfl (Znn _ _) fun b16 => ?_)); intro a w h
  replace h := h.shareAll hS (Jo [n % 4294967296, n / 4294967296]) rfl
  refine gL h (zf [_] rfl call94 (Qfv _ _ [n % 4294967296, n / 4294967296] (two_Wd n hn) ss ss) ?_); clear h; rintro v17 Ψ17 ⟨rfl, rfl⟩ a w h
  rw [Zuq n hn] at h
  refine gL h (za rfl (zn (zt ?_))); clear h; intro a w h
  refine Zy (Ψ := [Row _ (Jo (wds n))]) h (Zd h rfl (.tmp rfl)) ⟨_, _, rfl, Yp hn, rfl⟩ ss
 ·
  skip
  have hn : ¬ n < 18446744073709551616 := fun hn => by have := Qh.2 hn; simp [this] at hc8
  refine gC h (zk (zS (zp (.fA rfl Yn) (zd rfl mr isAgg9 sizeOf9 Jy ?_))))
  refine zp (.builtin [_] rfl (Zt _)) (zp (Pure1.cast (v' := .int .i64 ((wds n).length : Int)) (.binOp rfl rfl (fun _ => Vl _ _ _ _ _ dd)) (by rw [Zdc, if_neg hn]; rw [show ((4 : Int)) = ((4 : Nat) : Int) from rfl, Yc, wrap_i64 _ oo oo]; congr 1; omega)) ?_); intro a w h
  refine Zc (Jz h rfl rfl runUnderlying151 typeInfo54 sizeOf54 zeroValue54 rfl dd (Nat.le_refl _) (by show 4 * _ ≤ _; omega) oo dd ?_); clear h; intro b22 a w h
  rw [show (Value.int .u32 0).cells.toList = [Value.int .u32 0] from rfl, Zb7, show List.replicate (wds n).length (Value.int .u32 0) = Jo (Zau (wds n) 0 0) from by rw [Zjh]; simp] at h
  refine gL h (za rfl (zn (zs (zS (zm rfl (zp (.builtin [_] rfl (Zk _ _ _)) (zm rfl (zn (zb ?_))))))))); clear h; intro a w h
  refine Zi (fun (i : Nat) a w => i ≤ (wds n).length ∧ St 51 S w0 [(1, pB b1), (3, .slice (some ⟨b22, 0, none⟩) (wds n).length (wds n).length), (24, .int .i64 ((wds n).length : Int)), (25, .int .i64 (i : Int))] [(b22, .cells (Jo (Zau (wds n) i 0)).toArray 54 (0, 0)), (b1, .cells (Xk n).cells 47 (0, 0))] [] a w) (fun i => (wds n).length - i) (0) (⟨Nat.zero_le _, h.sub sA⟩) ?_; clear h
  rintro i a w ⟨hi, h⟩
  refine gC h (zS (zp (.lss rfl rfl) (zn (zs ?_)))); clear h; intro a w h
  refine Zb h rfl (fun hc26 => ?_) (fun hc26 => ?_)
  ·
   skip
   have hi' : i < (wds n).length := by simpa using hc26
   refine gC h (zk (zs (zb (zS (zm rfl (za rfl (zn (zS (zm rfl (zn (zb ?_))))))))))); clear h; intro a w h
   refine Zi (fun (k : Nat) a w => k ≤ 4 ∧ St 51 S w0 [(1, pB b1), (3, .slice (some ⟨b22, 0, none⟩) (wds n).length (wds n).length), (24, .int .i64 ((wds n).length : Int)), (25, .int .i64 (i : Int)), (4, .int .i64 (i : Int)), (28, .int .i64 (k : Int))] [(b22, .cells (Jo (Zau (wds n) i k)).toArray 54 (0, 0)), (b1, .cells (Xk n).cells 47 (0, 0))] [] a w) (fun k => 4 - k) (0) (⟨oo, h.sub sA⟩) ?_; clear h
   rintro k a w ⟨hk, h⟩
   refine gC h (zS (zp (.lss rfl rfl) (zn (zs ?_)))); clear h; intro a w h
   refine Zb h rfl (fun hc29 => ?_) (fun hc29 => ?_)
   ·
    skip
    have hk' : k < 4 := by simp at hc29; omega
    refine gC h (zk (zs (zb (zS (zm rfl (za rfl (zn (yD Za [0, 1, 2, 3, 4, 5, 6, 7, 8, 9, 10, 11, 12, 13, 14, 15, 16, 17] (Zf kk) (ym rfl rfl (ym rfl rfl (yp rfl (.indexAddr rfl rfl (Qr _ _ _ _ _ oo)) (yd rfl rfl (by repeat (first | exact List.Mem.head _ | apply List.Mem.tail)) isAgg54 sizeOf54 ((Zv 0 (by rw [Zaz _ _ _ hi']; omega)).trans (by rw [Nat.zero_add, Zmh _ _ _ hi'])) ?_)))))))))))); clear h
    refine yp rfl (.fA rfl Yn) (yd rfl rfl mr isAgg9 sizeOf9 Jy ?_)
    refine ym rfl rfl (yp rfl (.mul rfl rfl) (ym rfl rfl (yp rfl (.pN (4 * i + k) (.add rfl rfl)) (yp rfl (Pure1.cast (v' := .int .u8 (((wds n).getD i 0 / 256 ^ k % 256 : Nat) : Int)) (.index rfl rfl (fun _ => Zu runUnderlying9 _ _ (by rw [Zdc, if_neg hn]; omega))) (by rw [Znp hn hi' hk'])) (yp rfl (.convert rfl (Zrv _ (wrap_u32 _ oo oo))) (ym rfl rfl (yp rfl (.pN (8 * k) (.mul rfl rfl)) (yp rfl (Pure1.cast (v' := .int .u32 (((wds n).getD i 0 / 256 ^ k % 256 * 2 ^ (8 * k) : Nat) : Int)) (.binOp rfl rfl (fun _ => Zb4 _ _ _ _ _ (by show 8 * k ≤ 32; omega))) (by rw [wrap_u32 _ oo (by have := Zee ((wds n).getD i 0 / 256 ^ k) k hk'; omega)])) (yp rfl (Pure1.cast (v' := .int .u32 (((wds n).getD i 0 % 256 ^ (k + 1) : Nat) : Int)) (.binOp rfl rfl (fun _ => Zeg rfl _ _ _ _ _ (Nat.lt_of_lt_of_le (Nat.mod_lt _ (Nat.pow_pos oo)) (Nat.le_trans (Nat.pow_le_pow_right oo (by omega : k ≤ 4)) dd)) (Zee _ _ hk'))) (by rw [Zvw])) (yp rfl (.indexAddr rfl rfl (Qr _ _ _ _ _ oo)) (yt rfl rfl rfl ((Yl (Zau (wds n) i k) (0 + i) ((wds n).getD i 0 % 256 ^ (k + 1))).trans (by rw [Nat.zero_add, Zmg _ _ _ _ hi'])) (by repeat (first | exact Upd.head | apply Upd.tail)) sizeOf54 rfl (by simp [Zaz _ _ _ hi']; omega) rfl ?_)))))))))))
    refine yn (zr (zp (.add rfl rfl) (zm rfl (zn ?_)))); intro a w h
    exact ⟨k + 1, ⟨oo, h.sub sA⟩, oo⟩
   ·
    skip
    have hk' : k = 4 := by simp at hc29; omega
    subst hk'
    rw [Zji _ _ hi' (Wd.wds n)] at h
    refine gC h (ze (zr (zp (.add rfl rfl) (zm rfl (zn ?_))))); clear h; intro a w h
    exact ⟨i + 1, ⟨oo, h.sub sA⟩, oo⟩
  ·
   skip
   have hi' : i = (wds n).length := by simp at hc26; omega
   refine gC h (ze (zS (zm rfl (za rfl (zn (zt ?_)))))); clear h; intro a w h
   subst hi'
   rw [Zmi] at h
   replace h := h.shareAll hS (Jo (wds n)) rfl
   refine Zy (Ψ := [Row _ (Jo (wds n))]) h (Zd h rfl (.tmp rfl)) ⟨_, _, rfl, Nat.le_refl _, rfl⟩ ss
end
section
theorem Zd9 (x0 : Int) (w : World) : (Instr.build 47 [(0, .int .u64 x0)].toArray).run Tryz.prog w = .ok (.agg #[.int .u64 x0, .string ⟨#[]⟩]) w := by simp [go_sem]
theorem Zl {c0 c1 v0 v1 : Value} : Qq #[c0, c1] 0 [v0, v1] = #[v0, v1] := rfl
theorem Zh {c0 c1 : Value} : Qu true 2 #[c0, c1] 0 = some (.agg #[c0, c1]) := rfl
theorem Zip (w : World) : (Instr.build 47 [].toArray).run Tryz.prog w = .ok (.agg #[.int .u64 0, .string ⟨#[]⟩]) w := by simp [go_sem]
theorem Zrw (x : Int) (w : World) : (Go.convert 54 45 (.int .u32 x)).run Tryz.prog w = .ok (.int .u64 (IntKind.u64.wrap x)) w := by
 simp [go_sem]
theorem Jj (x : Int) (h0 : IntKind.u64.wrap x = x) (w : World) : (Go.convert 54 45 (.int .u32 x)).run Tryz.prog w = .ok (.int .u64 x) w := by
 rw [Zrw, h0]
theorem Zig (x : Int) (w : World) : (Go.convert 54 5 (.int .u32 x)).run Tryz.prog w = .ok (.int .u8 (IntKind.u8.wrap x)) w := by
 simp [go_sem]
theorem Zil (x0 : Int) (x1 : Int) (x2 : Int) (x3 : Int) (w : World) : (Instr.buildSlice 35 4 [(0, .int .u8 x0), (1, .int .u8 x1), (2, .int .u8 x2), (3, .int .u8 x3)].toArray).run Tryz.prog w = .ok (.slice (some ⟨w.heap.size, 0, none⟩) 4 4) (w.alloc (.cells #[.int .u8 x0, .int .u8 x1, .int .u8 x2, .int .u8 x3] 5 (0, 0))) := by
 simp [go_sem]
theorem Qfe (x1 : ByteArray) (w : World) : (Instr.build 47 [(1, .string x1)].toArray).run Tryz.prog w = .ok (.agg #[.int .u64 0, .string x1]) w := by simp [go_sem]
theorem Zkj (X Y : Operand) (n m : Nat) (w : World) : (do eqGuard .eql 47 X Y (Xk n) (Xk m); Go.binOp .eql 47 (Xk n) (Xk m) : Sem Value).run Tryz.prog w = .ok (.bool (decide (n = m))) w := by
 simp [go_sem]
 have hb : ((Va n).toList = (Va m).toList) ↔ Va n = Va m := by have := Zbk (Va n) (Va m); rw [Bool.eq_iff_iff] at this; simpa using this
 by_cases h : n = m
 · subst h; simp
 ·
  have hne := fun h1 h2 => h (Zk7 h1 h2)
  by_cases h1 : Gw n = Gw m
  · simp only [h, h1, hb, if_true, decide_false]; exact if_neg (hne h1)
  · simp [h, h1]
theorem C_Of (n : Nat) (hn : n < 18446744073709551616) : Xl Tryz.prog 98 [.int .u64 (n : Int)] (Xk n) := by
 refine fn_intro func98 rfl ntmps98 nb ?_
 intro S w0 a hS h
 refine gC h (zS (zz zeroValue47 fun b2 => zn (zS (zm rfl (zp (.build [(_, _)] rfl (Zd9 _)) (zt' rfl rfl Zl uu sizeOf47 rfl nb rfl ?_)))))); clear h; intro a w h
 refine wpList_nil (wp_ret ?_)
 refine Jk h (Zd h rfl (.cell rfl mr isAgg47 sizeOf47 Zh)) ?_
 rw [Xk, Zw hn, Yk hn]
theorem Qcl (n : Nat) : Xl Tryz.prog 168 [Xk n] (.bool (decide (n = 0))) := by
 refine fn_intro func168 rfl ntmps168 nb ?_
 intro S w0 a hS h
 refine gC h (zS (zx rfl fun b1 => za rfl (zn (zS (zd rfl mr isAgg47 sizeOf47 Zh ?_)))))
 refine zp (Pure1.cast (v' := Xk 0) (.build [] rfl (Zip)) (by rfl)) (zp (.binOp rfl rfl (fun _ => Zkj _ _ n 0 _)) (za rfl (zn (zt ?_)))); intro a w h
 exact Zeh h
theorem Qcr (ad : Option Addr) (c : Nat) (l : List Nat) (hw : Wd l) (hc : l.length ≤ c) (hs : l.length ≤ 1099511627776) :
  Gn Tryz.prog 128 [.slice ad l.length c] [Row ad (Jo l)] (Xk (Zr l)) := by
 refine fn_intro func128 rfl ntmps128 nb ?_
 intro S w0 a hS h
 refine gC h (zS (zz zeroValue47 fun b2 => zn (zS (zm rfl (zf [_] rfl call94 (Qfv ad c l hw hc hs) ?_))))); clear h; rintro v10 Ψ10 ⟨rfl, rfl⟩ a w h
 have hWd := Wd.wds (Zr l)
 have hV := Qp (Zr l)
 have hN : (wds (Zr l)).length ≤ 1099511627776 := Nat.le_trans (Zed hw) hs
 have hNc : (wds (Zr l)).length ≤ c := Nat.le_trans (Zed hw) hc
 generalize hWe : wds (Zr l) = W at h hWd hV hN hNc
 refine gL h (za rfl (zn (zs (zS (zm rfl (zp (.builtin [_] rfl (Zk _ _ _)) (zp (.leq rfl rfl) (zn ?_)))))))); clear h; intro a w h
 refine cW ?_
 refine Zb h rfl (fun hc13 => ?_) (fun hc13 => ?_)
 ·
  skip
  have h2 : W.length ≤ 2 := by simp at hc13; omega
  refine gC h (zS (za rfl (zn (zs (zS (zm rfl (zp (.builtin [_] rfl (Zk _ _ _)) (zm rfl (zn (zb ?_)))))))))); clear h; intro a w h
  refine Zi (fun (i : Nat) a w => i ≤ W.length ∧ St 59 S w0 [(2, pB b2), (3, .int .u64 (Zr (W.take i) : Int)), (14, .slice ad W.length c), (15, .int .i64 (W.length : Int)), (16, .int .i64 (i : Int))] [(b2, .cells (Xk 0).cells 47 (0, 0))] [Row ad (Jo W)] a w) (fun i => W.length - i) (0) (⟨Nat.zero_le _, (h.factsSub (by simp)).sub (Zfn ⟨rfl, rfl, rfl, rfl, rfl, trivial⟩)⟩) ?_; clear h
  rintro i a w ⟨hi, h⟩
  refine gC h (zS (zp (.lss rfl rfl) (zn (zs ?_)))); clear h; intro a w h
  refine Zb h rfl (fun hc17 => ?_) (fun hc17 => ?_)
  ·
   skip
   have hi' : i < W.length := by simpa using hc17
   obtain ⟨b, off, had⟩ := h.row_addr List.mem_cons_self (by simp; intro e; subst e; simp at hi')
   subst had
   have hx := hWd.getD i
   refine gC h (zk (zs (zb (zS (zm rfl (zp (.indexAddr rfl rfl (Qr _ _ _ _ _ oo)) (zD rfl mm (by simp; omega) isAgg54 sizeOf54 (Zv 0 oo) (.inr rfl) ?_)))))))
   refine za rfl (za rfl (zn (zr (zm rfl (zm rfl (zp (.convert rfl (Jj _ (wrap_u64 _ oo oo))) (zm rfl (zp (.pN (32 * i) (.mul rfl rfl)) (zp (Pure1.cast (v' := .int .u64 ((W.getD i 0 * 2 ^ (32 * i) : Nat) : Int)) (.binOp rfl rfl (fun _ => Zb4 _ _ _ _ _ (by show 32 * i ≤ 64; omega))) (by rw [wrap_u64 _ oo (by have := Zhm _ i hx oo; omega)])) (zp (Pure1.cast (v' := .int .u64 ((Zr (W.take (i + 1)) : Nat) : Int)) (.binOp rfl rfl (fun _ => Zeg rfl _ _ _ _ _ (Nat.lt_of_lt_of_le (Zlu (hWd.take i) (by simp; omega)) dd) (Zhm _ i hx oo))) (by rw [Qd6 _ _ hi' hWd])) (za rfl (zn (zr (zp (.add rfl rfl) (zm rfl (zn ?_)))))))))))))))); intro a w h
   exact ⟨i + 1, ⟨oo, h.sub sA⟩, oo⟩
  ·
   skip
   have hi' : i = W.length := by simp at hc17; omega
   refine gC h (ze (zS (zm rfl (zp (.build [(_, _)] rfl (Zd9 _)) (zt' rfl rfl Zl uu sizeOf47 rfl nb rfl ?_))))); clear h; intro a w h
   refine wpList_nil (wp_ret ?_)
   refine Jk h (Zd h rfl (.cell rfl mr isAgg47 sizeOf47 Zh)) ?_
   have hlt := Zlu hWd h2; rw [hV] at hlt; subst hi'; rw [List.take_length, hV, Xk, Zw hlt, Yk hlt]
 ·
  skip
  have h2 : 2 < W.length := by simp at hc13; omega
  refine gC h (zk (zS (zm rfl (zp (.builtin [_] rfl (Zk _ _ _)) (zp (.pN (4 * W.length) (.mul rfl rfl)) ?_))))); clear h; intro a w h
  refine Zc (Jz h rfl rfl runUnderlying35 typeInfo5 sizeOf5 zeroValue5 rfl dd (by exact Nat.zero_le _) (by show 1 * _ ≤ _; omega) oo dd ?_); clear h; intro b34 a w h
  refine gL h (za rfl (zn (zs (zS (zm rfl (zp (.builtin [_] rfl (Zk _ _ _)) (zm rfl (zn (zb ?_))))))))); clear h; intro a w h
  refine Zi (fun (i : Nat) a w => i ≤ W.length ∧ ∃ v σ, Grow 1 5 v (4 * i) (u8s (bytesOf (W.take i))) σ [(b2, .cells (Xk 0).cells 47 (0, 0))] ∧ St 59 S w0 [(2, pB b2), (6, v), (35, .slice ad W.length c), (36, .int .i64 (W.length : Int)), (37, .int .i64 (i : Int))] σ [Row ad (Jo W)] a w) (fun i => W.length - i) (0) (⟨Nat.zero_le _, _, _, ⟨rfl, .inr ⟨b34, 4 * W.length, _, rfl, by simp [bytesOf, Zco, Value.cells], Nat.zero_le _, rfl⟩⟩, (h.factsSub (by simp)).sub (Zfn ⟨rfl, rfl, rfl, rfl, rfl, trivial⟩)⟩) ?_; clear h
  rintro i a w ⟨hi, v, σ, hG, h⟩
  refine gC h (zS (zp (.lss rfl rfl) (zn (zs ?_)))); clear h; intro a w h
  refine Zb h rfl (fun hc38 => ?_) (fun hc38 => ?_)
  ·
   skip
   have hi' : i < W.length := by simpa using hc38
   obtain ⟨b, off, had⟩ := h.row_addr List.mem_cons_self (by simp; intro e; subst e; simp at hi')
   subst had
   have hx := hWd.getD i
   refine gC h (zk (zs (zb (zS (zp (.indexAddr rfl rfl (Qr _ _ _ _ _ oo)) (zD rfl mm (by simp; omega) isAgg54 sizeOf54 (Zv 0 oo) (.inr rfl) ?_))))))
   refine za rfl (zn (zr (zm rfl (zm rfl (zp (Pure1.cast (v' := .int .u8 ((W.getD i 0 % 256 : Nat) : Int)) (.convert rfl (Zig _)) (by rw [Zb1]; congr 1)) (zm rfl (zp (.binOp rfl rfl (fun _ => Xv _ _ _ _ 8 dd)) (zp (Pure1.cast (v' := .int .u8 ((W.getD i 0 / 2 ^ 8 % 256 : Nat) : Int)) (.convert rfl (Zig _)) (by rw [Zb1]; congr 1)) (zm rfl (zp (.binOp rfl rfl (fun _ => Xv _ _ _ _ 16 dd)) (zp (Pure1.cast (v' := .int .u8 ((W.getD i 0 / 2 ^ 16 % 256 : Nat) : Int)) (.convert rfl (Zig _)) (by rw [Zb1]; congr 1)) (zm rfl (zp (.binOp rfl rfl (fun _ => Xv _ _ _ _ 24 dd)) (zp (Pure1.cast (v' := .int .u8 ((W.getD i 0 / 2 ^ 24 % 256 : Nat) : Int)) (.convert rfl (Zig _)) (by rw [Zb1]; congr 1)) (zB [(_, _), (_, _), (_, _), (_, _)] rfl (Zil _ _ _ _) fun b53 => ?_))))))))))))))); intro a w h
   refine Zc (Zv2 h rfl rfl hG runUnderlying35 runUnderlying35 typeInfo5 sizeOf5 zeroValue5 rfl dd dd rfl rfl dd (by show 1 * _ ≤ _; omega) dd ?_); clear h hG; intro v σ a w hG h
   rw [Ztw _ _ hi'] at hG
   refine gL h (za rfl (zn (zr (zp (.add rfl rfl) (zm rfl (zn ?_)))))); clear h; intro a w h
   exact ⟨i + 1, ⟨oo, _, _, hG, h.sub sA⟩, oo⟩
  ·
   skip
   have hi' : i = W.length := by simp at hc38; omega
   refine gC h (ze (zS (zm rfl ?_))); clear h; intro a w h
   refine Zc (Zow h rfl hG runUnderlying35 runUnderlying9 runUnderlying5 dd ?_); clear h; intro a h
   replace h := h.drop hG.sub
   refine gL h (zp (.build [(_, _)] rfl (Qfe _)) (zt' rfl rfl Zl uu sizeOf47 rfl nb rfl ?_)); clear h; intro a w h
   refine wpList_nil (wp_ret ?_)
   refine Jk h (Zd h rfl (.cell rfl mr isAgg47 sizeOf47 Zh)) ?_
   have hlt : ¬ Zr l < 18446744073709551616 := Zoc (by rw [hWe]; exact h2)
   subst hi'; rw [List.take_length, Xk, Zta hlt, Zdp hlt, hWe]
end
section
theorem Qcd (x y : Int) (w : World) (ty : TypeId) (cs : Array Bool) : (Go.builtin .min #[3, 3] ty cs #[.int .i64 x, .int .i64 y]).run Tryz.prog w = .ok (.value (.int .i64 (min x y))) w := by
 simp [go_sem]; rw [Int.min_def]; split <;> split <;> omega
theorem Qce (x y : Int) (w : World) (ty : TypeId) (cs : Array Bool) : (Go.builtin .max #[3, 3] ty cs #[.int .i64 x, .int .i64 y]).run Tryz.prog w = .ok (.value (.int .i64 (max x y))) w := by
 simp [go_sem]; rw [Int.max_def]; split <;> split <;> omega
theorem Qam (x y c : Nat) (hc : c ≤ 1) (w : World) : (callFunc 139 #[.int .u64 (x : Int), .int .u64 (y : Int), .int .u64 (c : Int)]).run Tryz.prog w = .ok (.value (.tuple #[.int .u64 (((x + y + c) % 18446744073709551616 : Nat) : Int), .int .u64 (((x + y + c) / 18446744073709551616 : Nat) : Int)])) w :=
 Zvg func139 kk kk kk kk x y c hc w
theorem C_sign (n : Int) : Xl Tryz.prog 229 [.int .i64 n] (.int .i64 (max (-1) (min 1 n))) := by
 refine fn_intro func229 rfl ntmps229 nb ?_
 intro S w0 a hS h
 refine gC h (zS (za rfl (zn (zS (zm rfl (zp (.builtin [_, _] rfl (fun w ty cs => Qcd _ _ w ty cs)) (zp (.builtin [_, _] rfl (fun w ty cs => Qce _ _ w ty cs)) (za rfl (zn (zt ?_)))))))))); clear h; intro a w h
 exact Zeh h
theorem C_cmp (n m : Nat) (a1 : Option Addr) (c1 : Nat) (a2 : Option Addr) (c2 : Nat) (hn : (wds n).length ≤ 1099511627776) (hm : (wds m).length ≤ 1099511627776) :
  Gn Tryz.prog 208 [.slice a1 (wds n).length c1, .slice a2 (wds m).length c2] [Row a1 (Jo (wds n)), Row a2 (Jo (wds m))] (.int .i64 (Ze7 n m)) := by
 refine fn_intro func208 rfl ntmps208 nb ?_
 intro S w0 a hS h
 refine gC h (zS (za rfl (zn (zs (zS (zm rfl (zp (.builtin [_] rfl (Zk _ _ _)) (zm rfl (zp (.builtin [_] rfl (Zk _ _ _)) (zp (.neq rfl rfl) (zn ?_))))))))))); clear h; intro a w h
 refine cW ?_
 refine Zb h rfl (fun hc10 => ?_) (fun hc10 => ?_)
 ·
  skip
  skip
  refine gC h (zS (zm rfl (zp (.builtin [_] rfl (Zk _ _ _)) (zm rfl (zp (.builtin [_] rfl (Zk _ _ _)) (zp (.sub rfl rfl) (zv [_] rfl call229 (C_sign _) (za rfl (zn (zt ?_)))))))))); clear h; intro a w h
  refine Jk h (Zd h rfl (.tmp rfl)) ?_
  unfold Ze7
  have hne : (wds n).length ≠ (wds m).length := Qea hc10
  rcases Nat.lt_or_gt_of_ne hne with h1 | h1
  · have := Zbi h1; rw [if_pos this]; congr 1; rw [Int.min_eq_right oo, Int.max_eq_left oo]
  · have h2 := Zbi h1; rw [if_neg oo, if_pos h2]; congr 1; rw [Int.min_eq_left oo]; rfl
 ·
  skip
  have hl : (wds n).length = (wds m).length := Zz1 hc10
  refine gC h (zk (zs (zS (zm rfl (zp (.builtin [_] rfl (Zk _ _ _)) (zp (.sub rfl rfl) (za rfl (zn (zb ?_))))))))); clear h; intro a w h
  refine Zi (fun (k : Nat) a w => k ≤ (wds n).length ∧ (wds n).drop k = (wds m).drop k ∧ St 42 S w0 [(0, .slice a1 (wds n).length c1), (1, .slice a2 (wds m).length c2), (5, .int .i64 ((k : Int) - 1))] [] [Row a1 (Jo (wds n)), Row a2 (Jo (wds m))] a w) (fun k => k) ((wds n).length) (⟨Nat.le_refl _, by rw [List.drop_eq_nil_of_le (Nat.le_refl _), hl, List.drop_eq_nil_of_le (Nat.le_refl _)], h.sub sA⟩) ?_; clear h
  rintro k a w ⟨hN, hd, h⟩
  refine gC h (zs (zS (zm rfl (zp (.geq rfl rfl) (zn ?_))))); clear h; intro a w h
  refine cW ?_
  refine Zb h rfl (fun hc21 => ?_) (fun hc21 => ?_)
  ·
   skip
   have hk : 0 < k := by simp at hc21; omega
   have hN' : k ≤ (wds m).length := hl ▸ hN
   obtain ⟨b1, o1, rfl⟩ := h.row_addr (ad := a1) (M := Jo (wds n)) List.mem_cons_self (by simp; intro e; rw [e] at hN; simp at hN; omega)
   obtain ⟨b2, o2, rfl⟩ := h.row_addr (ad := a2) (M := Jo (wds m)) (List.mem_cons_of_mem _ List.mem_cons_self) (by simp; intro e; rw [e] at hN'; simp at hN'; omega)
   refine gC h (zk (zs (zb (zs (yD Za [0, 1, 2, 3, 4, 5, 6, 7, 8] (Zf kk) (ym rfl rfl (yp rfl (.pO (k - 1) (.move rfl)) (yp rfl (.indexAddr rfl rfl (Qr _ _ _ _ _ oo)) ?_)))))))); clear h
   refine Qa rfl kk rfl mm (by simp; omega) isAgg54 sizeOf54 (Zv 0 oo) (.inr rfl) dd ?_
   refine ym rfl rfl (yp rfl (.pO (k - 1) (.move rfl)) (yp rfl (.indexAddr rfl rfl (Qr _ _ _ _ _ oo)) ?_))
   refine Qa rfl kk rfl mm (by simp; omega) isAgg54 sizeOf54 (Zv 0 oo) (.inr rfl) dd ?_
   refine yp rfl (.neq rfl rfl) (yn ?_); intro a w h
   refine cW ?_
   refine Zb h rfl (fun hc32 => ?_) (fun hc32 => ?_)
   ·
    skip
    skip
    refine gC h (zs (zs (yD Za [0, 1, 2, 3, 4, 5, 6, 7, 8] (Zf kk) (ym rfl rfl (yp rfl (.pO (k - 1) (.move rfl)) (yp rfl (.indexAddr rfl rfl (Qr _ _ _ _ _ oo)) ?_)))))); clear h
    refine Qa rfl kk rfl mm (by simp; omega) isAgg54 sizeOf54 (Zv 0 oo) (.inr rfl) dd ?_
    refine ym rfl rfl (yp rfl (.pO (k - 1) (.move rfl)) (yp rfl (.indexAddr rfl rfl (Qr _ _ _ _ _ oo)) ?_))
    refine Qa rfl kk rfl mm (by simp; omega) isAgg54 sizeOf54 (Zv 0 oo) (.inr rfl) dd ?_
    refine yp rfl (.lss rfl rfl) (yn ?_); intro a w h
    refine cW ?_
    refine Zb h rfl (fun hc41 => ?_) (fun hc41 => ?_)
    ·
     skip
     refine gC h (zS (za rfl (zn (zt ?_)))); clear h; intro a w h
     refine Jk h (Zd h rfl (.tmp rfl)) ?_
     have h1 : (wds n).getD (k - 1) 0 < (wds m).getD (k - 1) 0 := by simpa using hc41
     have h2 := Zp5 (Wd.wds n) (Wd.wds m) h1 (by rw [Nat.sub_add_cancel hk]; exact hd)
     rw [Qp, Qp] at h2
     unfold Ze7; rw [if_pos h2]
    ·
     skip
     refine gC h (zk (zS (za rfl (zn (zt ?_))))); clear h; intro a w h
     refine Jk h (Zd h rfl (.tmp rfl)) ?_
     have h0 : (wds n).getD (k - 1) 0 ≠ (wds m).getD (k - 1) 0 := Qea hc32
     have h0' : ¬ (wds n).getD (k - 1) 0 < (wds m).getD (k - 1) 0 := by simpa using hc41
     have h1 : (wds m).getD (k - 1) 0 < (wds n).getD (k - 1) 0 := oo
     have h2 := Zp5 (Wd.wds m) (Wd.wds n) h1 (by rw [Nat.sub_add_cancel hk]; exact hd.symm)
     rw [Qp, Qp] at h2
     unfold Ze7; rw [if_neg oo, if_pos h2]
   ·
    skip
    have he : (wds n).getD (k - 1) 0 = (wds m).getD (k - 1) 0 := Zz1 hc32
    refine gC h (zk (zr (zm rfl (zp (Pure1.cast (v' := .int .i64 (((k - 1 : Nat) : Int) - 1)) (.sub rfl rfl) (by show Value.int _ _ = Value.int _ _; congr 1; omega)) (za rfl (zn ?_)))))); clear h; intro a w h
    refine ⟨k - 1, ⟨oo, drop_step hl oo he (by rw [Nat.sub_add_cancel hk]; exact hd), h.sub sA⟩, oo⟩
  ·
   skip
   have hk : k = 0 := by simp at hc21; omega
   refine gC h (ze (zS (za rfl (zn (zt ?_))))); clear h; intro a w h
   refine Jk h (Zd h rfl (.tmp rfl)) ?_
   subst hk
   have e : n = m := by rw [← Qp n, ← Qp m]; simp at hd; rw [hd]
   unfold Ze7; rw [if_neg oo, if_neg oo]
theorem C_Cmp (n m : Nat) (hn : (wds n).length ≤ 1099511627776) (hm : (wds m).length ≤ 1099511627776) : Xl Tryz.prog 169 [Xk n, Xk m] (.int .i64 (Ze7 n m)) := by
 refine fn_intro func169 rfl ntmps169 nb ?_
 intro S w0 a hS h
 refine gC h (zS (zx rfl fun b2 => zx rfl fun b3 => za rfl (zn (zs (zS (zp (.fA rfl Yn) (zd rfl mr isAgg9 sizeOf9 Jy ?_)))))))
 refine zp (.binOp rfl rfl (fun _ => Jv _ _ _ _ _)) (zm rfl ?_); intro a w h
 refine Zg h (fun hc8 h => ?_) (fun hc8 h => ?_)
 focus
  have ha : n < 18446744073709551616 := Qh.1 (by simpa using hc8)
  refine gL h (zq 8 rfl rfl (.fA rfl Yn) ?_); clear h; intro a w h
  refine Zo 8 h rfl rfl (Vb h rfl mr isAgg9 sizeOf9 Jy dd ?_); clear h; intro a h
  refine gL h (zq 8 rfl rfl (.binOp rfl rfl (fun _ => Jv _ _ _ _ _)) ?_); clear h; intro a w h
  refine Zg h (fun hc11 h => ?_) (fun hc11 h => ?_)
  ·
   skip
   have hb : m < 18446744073709551616 := Qh.1 (by simpa using hc11)
   refine gL h (zp (.pickT rfl rfl) (zn ?_)); clear h; intro a w h
   refine cW ?_
   refine Zj h rfl ?_
   refine gC h (zs (zb (zS (zp (.fA rfl Yf) (zd rfl mr isAgg45 sizeOf45 Jn ?_)))))
   refine zp (.fA rfl Yf) (zd rfl mr isAgg45 sizeOf45 Jn ?_)
   refine zp (.lss rfl rfl) ?_; intro a w h
   refine Zg h (fun hc18 h => ?_) (fun hc18 h => ?_)
   ·
    skip
    refine gL h (za rfl (zn ?_)); clear h; intro a w h
    refine cW ?_
    refine Zj h rfl ?_
    refine gC h (zS (za rfl (zn (zt ?_)))); clear h; intro a w h
    refine Jk h (Zd h rfl (.tmp rfl)) ?_
    rw [Zw ha, Zw hb] at hc18; have : n < m := by simpa using hc18
    unfold Ze7; rw [if_pos this]
   ·
    skip
    refine gL h (za rfl (zn ?_)); clear h; intro a w h
    refine cW ?_
    refine Ze h rfl ?_
    refine gC h (zS (zp (.fA rfl Yf) (zd rfl mr isAgg45 sizeOf45 Jn ?_)))
    refine zp (.fA rfl Yf) (zd rfl mr isAgg45 sizeOf45 Jn ?_)
    refine zp (.gtr rfl rfl) ?_; intro a w h
    refine Zg h (fun hc24 h => ?_) (fun hc24 h => ?_)
    ·
     skip
     refine gL h (za rfl (zn ?_)); clear h; intro a w h
     refine cW ?_
     refine Zj h rfl ?_
     refine gC h (zS (za rfl (zn (zt ?_)))); clear h; intro a w h
     refine Jk h (Zd h rfl (.tmp rfl)) ?_
     rw [Zw ha, Zw hb] at hc18 hc24; have h1 : m < n := by simpa using hc24
     unfold Ze7; rw [if_neg oo, if_pos h1]
    ·
     skip
     refine gL h (za rfl (zn ?_)); clear h; intro a w h
     refine cW ?_
     refine Ze h rfl ?_
     refine gC h (zk (zS (za rfl (zn (zt ?_))))); clear h; intro a w h
     refine Jk h (Zd h rfl (.tmp rfl)) ?_
     rw [Zw ha, Zw hb] at hc18 hc24; have h1 : ¬ m < n := by simpa using hc24
     have h2 : ¬ n < m := by simpa using hc18
     unfold Ze7; rw [if_neg h2, if_neg h1]
  have hb : ¬ m < 18446744073709551616 := fun hn => by have := Qh.2 hn; simp [this] at hc11
  refine gL h (zp (.pickT rfl rfl) (zn ?_)); clear h; intro a w h
 rotate_left
 focus
  have ha : ¬ n < 18446744073709551616 := fun hn => by have := Qh.2 hn; simp [this] at hc8
  refine gL h (zo 8 rfl rfl rfl (zo 8 rfl rfl rfl (zo 8 rfl rfl rfl (zp (.pickF rfl rfl) (zn ?_))))); clear h; intro a w h
 all_goals
  refine cW ?_
  refine Ze h rfl ?_
  refine gC h (zk (zs (yD Za [0, 2, 1, 3, 4, 5] (Zf kk) (yd rfl rfl mr isAgg47 sizeOf47 Zh ?_)))); clear h
  refine yd rfl rfl mr isAgg47 sizeOf47 Zh ?_
  refine yf [_] rfl rfl call92 (Gu n hn) ?_; rintro v26 Ψ26 ⟨a1, c1, rfl, hc1, rfl⟩
  refine yf [_] rfl rfl call92 (Gu m hm) ?_; rintro v28 Ψ28 ⟨a2, c2, rfl, hc2, rfl⟩
  refine yw [_, _] rfl rfl call208 (C_cmp n m a1 c1 a2 c2 hn hm) (yp rfl (.assign rfl) (yn (zt ?_))); intro a w h
  exact Zeh h
theorem Zyx (x y c : Nat) (hx : x < 4294967296) (hy : y < 4294967296) (hc : c ≤ 1) :
  Xl Tryz.prog 140 [.int .u32 (x : Int), .int .u32 (y : Int), .int .u32 (c : Int)] (.tuple #[.int .u32 (((x + y + c) % 4294967296 : Nat) : Int), .int .u32 (((x + y + c) / 4294967296 : Nat) : Int)]) := by
 refine fn_intro func140 rfl ntmps140 nb ?_
 intro S w0 a hS h
 refine gC h (zS (za rfl (za rfl (zn (zS (zm rfl (zp (.convert rfl (Jj _ (wrap_u64 _ oo oo))) (zm rfl (zp (.convert rfl (Jj _ (wrap_u64 _ oo oo))) (zp (.binOp rfl rfl (fun _ => Zdi _ _ _ _ _ (wrap_u64 _ oo oo))) (zm rfl (zp (.convert rfl (Jj _ (wrap_u64 _ oo oo))) (zp (Pure1.cast (v' := .int .u64 ((x + y + c : Nat) : Int)) (.binOp rfl rfl (fun _ => Zdi _ _ _ _ _ (wrap_u64 _ oo oo))) (by show Value.int _ _ = Value.int _ _; congr 1)) (za rfl (zn (zS (zm rfl (zp (Pure1.cast (v' := .int .u32 (((x + y + c) % 4294967296 : Nat) : Int)) (.convert rfl (Xi _)) (by rw [Qy]; congr 1)) (za rfl (zn (zS (zm rfl (zp (.binOp rfl rfl (fun _ => Xv _ _ _ _ 32 dd)) (zp (Pure1.cast (v' := .int .u32 (((x + y + c) / 4294967296 : Nat) : Int)) (.convert rfl (Xi _)) (by rw [Qy]; congr 1; omega)) (za rfl (zn (zt ?_))))))))))))))))))))))))))); clear h; intro a w h
 refine Jk h (Ql h rfl (.tmp rfl) (.tmp rfl)) ?_
 rfl
theorem Zpw (x y c : Nat) (hx : x < 4294967296) (hy : y < 4294967296) (hc : c ≤ 1) :
  Xl Tryz.prog 171 [.int .u32 (x : Int), .int .u32 (y : Int), .int .u32 (c : Int)] (.tuple #[.int .u32 (((x + 8589934592 - y - c) % 4294967296 : Nat) : Int), .int .u32 ((if x < y + c then 1 else 0 : Nat) : Int)]) := by
 refine fn_intro func171 rfl ntmps171 nb ?_
 intro S w0 a hS h
 refine gC h (zS (za rfl (za rfl (zn (zS (zm rfl (zm rfl (zp (.binOp rfl rfl (fun _ => Zfp _ _ _ _ _)) (zm rfl (zp (Pure1.cast (v' := .int .u32 (((x + 8589934592 - y - c) % 4294967296 : Nat) : Int)) (.binOp rfl rfl (fun _ => Zfp _ _ _ _ _)) (by rw [Qy, Qy]; congr 1; omega)) (za rfl (zn (zS (zm rfl (zp (.unOp rfl (fun _ => Zl6 _ hx)) (zm rfl (zp (.binOp rfl rfl (fun _ => Zho rfl _ _ _ _ _ (by show _ < 4294967296; omega) hy)) (zm rfl (zm rfl (zp (.binOp rfl rfl (fun _ => Zu9 rfl _ _ _ _ _ hx hy)) (zp (.unOp rfl (fun _ => Zl6 _ (Nat.xor_lt_two_pow (n := 32) hx hy))) (zm rfl (zp (.binOp rfl rfl (fun _ => Zho rfl _ _ _ _ _ (by show _ < 4294967296; omega) (by show _ < 4294967296; omega))) (zp (.binOp rfl rfl (fun _ => Zeg rfl _ _ _ _ _ (Nat.lt_of_le_of_lt Nat.and_le_right hy) (Nat.lt_of_le_of_lt Nat.and_le_right (by show _ < 4294967296; omega)))) (zp (Pure1.cast (v' := .int .u32 ((if x < y + c then 1 else 0 : Nat) : Int)) (.binOp rfl rfl (fun _ => Xv _ _ _ _ 31 dd)) (by rw [Zsx x y c hx hy hc])) (za rfl (zn (zt ?_)))))))))))))))))))))))))))); clear h; intro a w h
 refine Jk h (Ql h rfl (.tmp rfl) (.tmp rfl)) ?_
 rfl
end
section
theorem Qbb (n : Nat) (hbig : ¬ n < 18446744073709551616) (hs : (wds n).length ≤ 1099511627776) :
  Zj2 Tryz.prog 92 [Xk n] [] (fun v σn => ∃ b, v = .slice (some ⟨b, 0, none⟩) (wds n).length (wds n).length ∧ σn = [(b, .cells (Jo (wds n)).toArray 54 (0, 0))]) := by
 refine fn_introO func92 rfl ntmps92 nb ?_
 intro S w0 a hS h
 refine gC h (zS (zx rfl fun b1 => za rfl (zn (zs (zS (zp (.fA rfl Yn) (zd rfl mr isAgg9 sizeOf9 Jy ?_)))))))
 refine zp (.binOp rfl rfl (fun _ => Jv _ _ _ _ _)) (zn ?_); intro a w h
 refine cW ?_
 refine Zb h rfl (fun hc8 => (by exfalso; exact hbig (Qh.1 (by simpa using hc8)))) (fun hc8 => ?_)
 refine gC h (zk (zS (zp (.fA rfl Yn) (zd rfl mr isAgg9 sizeOf9 Jy ?_))))
 have hn : ¬ n < 18446744073709551616 := hbig
 refine zp (.builtin [_] rfl (Zt _)) (zp (Pure1.cast (v' := .int .i64 ((wds n).length : Int)) (.binOp rfl rfl (fun _ => Vl _ _ _ _ _ dd)) (by rw [Zdc, if_neg hn]; rw [show ((4 : Int)) = ((4 : Nat) : Int) from rfl, Yc, wrap_i64 _ oo oo]; congr 1; omega)) ?_); intro a w h
 refine Zc (Jz h rfl rfl runUnderlying151 typeInfo54 sizeOf54 zeroValue54 rfl dd (Nat.le_refl _) (by show 4 * _ ≤ _; omega) oo dd ?_); clear h; intro b22 a w h
 rw [show (Value.int .u32 0).cells.toList = [Value.int .u32 0] from rfl, Zb7, show List.replicate (wds n).length (Value.int .u32 0) = Jo (Zau (wds n) 0 0) from by rw [Zjh]; simp] at h
 refine gL h (za rfl (zn (zs (zS (zm rfl (zp (.builtin [_] rfl (Zk _ _ _)) (zm rfl (zn (zb ?_))))))))); clear h; intro a w h
 refine Zi (fun (i : Nat) a w => i ≤ (wds n).length ∧ St 51 S w0 [(1, pB b1), (3, .slice (some ⟨b22, 0, none⟩) (wds n).length (wds n).length), (24, .int .i64 ((wds n).length : Int)), (25, .int .i64 (i : Int))] [(b22, .cells (Jo (Zau (wds n) i 0)).toArray 54 (0, 0)), (b1, .cells (Xk n).cells 47 (0, 0))] [] a w) (fun i => (wds n).length - i) (0) (⟨Nat.zero_le _, h.sub sA⟩) ?_; clear h
 rintro i a w ⟨hi, h⟩
 refine gC h (zS (zp (.lss rfl rfl) (zn (zs ?_)))); clear h; intro a w h
 refine Zb h rfl (fun hc26 => ?_) (fun hc26 => ?_)
 ·
  skip
  have hi' : i < (wds n).length := by simpa using hc26
  refine gC h (zk (zs (zb (zS (zm rfl (za rfl (zn (zS (zm rfl (zn (zb ?_))))))))))); clear h; intro a w h
  refine Zi (fun (k : Nat) a w => k ≤ 4 ∧ St 51 S w0 [(1, pB b1), (3, .slice (some ⟨b22, 0, none⟩) (wds n).length (wds n).length), (24, .int .i64 ((wds n).length : Int)), (25, .int .i64 (i : Int)), (4, .int .i64 (i : Int)), (28, .int .i64 (k : Int))] [(b22, .cells (Jo (Zau (wds n) i k)).toArray 54 (0, 0)), (b1, .cells (Xk n).cells 47 (0, 0))] [] a w) (fun k => 4 - k) (0) (⟨oo, h.sub sA⟩) ?_; clear h
  rintro k a w ⟨hk, h⟩
  refine gC h (zS (zp (.lss rfl rfl) (zn (zs ?_)))); clear h; intro a w h
  refine Zb h rfl (fun hc29 => ?_) (fun hc29 => ?_)
  ·
   skip
   have hk' : k < 4 := by simp at hc29; omega
   refine gC h (zk (zs (zb (zS (zm rfl (za rfl (zn (yD Za [0, 1, 2, 3, 4, 5, 6, 7, 8, 9, 10, 11, 12, 13, 14, 15, 16, 17] (Zf kk) (ym rfl rfl (ym rfl rfl (yp rfl (.indexAddr rfl rfl (Qr _ _ _ _ _ oo)) (yd rfl rfl (by repeat (first | exact List.Mem.head _ | apply List.Mem.tail)) isAgg54 sizeOf54 ((Zv 0 (by rw [Zaz _ _ _ hi']; omega)).trans (by rw [Nat.zero_add, Zmh _ _ _ hi'])) ?_)))))))))))); clear h
   refine yp rfl (.fA rfl Yn) (yd rfl rfl mr isAgg9 sizeOf9 Jy ?_)
   refine ym rfl rfl (yp rfl (.mul rfl rfl) (ym rfl rfl (yp rfl (.pN (4 * i + k) (.add rfl rfl)) (yp rfl (Pure1.cast (v' := .int .u8 (((wds n).getD i 0 / 256 ^ k % 256 : Nat) : Int)) (.index rfl rfl (fun _ => Zu runUnderlying9 _ _ (by rw [Zdc, if_neg hn]; omega))) (by rw [Znp hn hi' hk'])) (yp rfl (.convert rfl (Zrv _ (wrap_u32 _ oo oo))) (ym rfl rfl (yp rfl (.pN (8 * k) (.mul rfl rfl)) (yp rfl (Pure1.cast (v' := .int .u32 (((wds n).getD i 0 / 256 ^ k % 256 * 2 ^ (8 * k) : Nat) : Int)) (.binOp rfl rfl (fun _ => Zb4 _ _ _ _ _ (by show 8 * k ≤ 32; omega))) (by rw [wrap_u32 _ oo (by have := Zee ((wds n).getD i 0 / 256 ^ k) k hk'; omega)])) (yp rfl (Pure1.cast (v' := .int .u32 (((wds n).getD i 0 % 256 ^ (k + 1) : Nat) : Int)) (.binOp rfl rfl (fun _ => Zeg rfl _ _ _ _ _ (Nat.lt_of_lt_of_le (Nat.mod_lt _ (Nat.pow_pos oo)) (Nat.le_trans (Nat.pow_le_pow_right oo (by omega : k ≤ 4)) dd)) (Zee _ _ hk'))) (by rw [Zvw])) (yp rfl (.indexAddr rfl rfl (Qr _ _ _ _ _ oo)) (yt rfl rfl rfl ((Yl (Zau (wds n) i k) (0 + i) ((wds n).getD i 0 % 256 ^ (k + 1))).trans (by rw [Nat.zero_add, Zmg _ _ _ _ hi'])) (by repeat (first | exact Upd.head | apply Upd.tail)) sizeOf54 rfl (by simp [Zaz _ _ _ hi']; omega) rfl ?_)))))))))))
   refine yn (zr (zp (.add rfl rfl) (zm rfl (zn ?_)))); intro a w h
   exact ⟨k + 1, ⟨oo, h.sub sA⟩, oo⟩
  ·
   skip
   have hk' : k = 4 := by simp at hc29; omega
   subst hk'
   rw [Zji _ _ hi' (Wd.wds n)] at h
   refine gC h (ze (zr (zp (.add rfl rfl) (zm rfl (zn ?_))))); clear h; intro a w h
   exact ⟨i + 1, ⟨oo, h.sub sA⟩, oo⟩
 ·
  skip
  have hi' : i = (wds n).length := by simp at hc26; omega
  refine gC h (ze (zS (zm rfl (za rfl (zn (zt ?_)))))); clear h; intro a w h
  subst hi'
  rw [Zmi] at h
  refine Zqt h (Zd h rfl (.tmp rfl)) ⟨b22, rfl, rfl⟩ sl
theorem Zun (l : List Nat) : (Jo l).all flat = true := by simp [flat]
theorem Zxd (X : List Nat) : Qq (Jo (List.replicate (X.length + 1) 0)).toArray 0 (Jo X) = (Jo (X ++ [0])).toArray := by
 rw [Zop _ _ ss]
 simp
theorem C_Add (n m : Nat) (hn : (wds n).length ≤ 1000000000000) (hm : (wds m).length ≤ 1000000000000) : Xl Tryz.prog 97 [Xk n, Xk m] (Xk (n + m)) := by
 refine fn_intro func97 rfl ntmps97 nb ?_
 intro S w0 a hS h
 refine gC h (zS (zx rfl fun b2 => zx rfl fun b3 => zz zeroValue47 fun b4 => zn ?_)); clear h; intro a w h
 refine cW ?_
 refine Xu (fun a w => St 80 S w0 [(2, pB b2), (3, pB b3), (4, pB b4)] [(b4, .cells (Xk 0).cells 47 (0, 0)), (b3, .cells (Xk m).cells 47 (0, 0)), (b2, .cells (Xk n).cells 47 (0, 0))] [] a w) ?_ ?_
 ·
  skip
  refine gC h (zS (zp (.fA rfl Yn) (zd rfl mr isAgg9 sizeOf9 Jy ?_)))
  refine zp (.binOp rfl rfl (fun _ => Jv _ _ _ _ _)) (zm rfl ?_); intro a w h
  refine Zg h (fun hc16 h => ?_) (fun hc16 h => ?_)
  ·
   skip
   have ha : n < 18446744073709551616 := Qh.1 (by simpa using hc16)
   refine gL h (zq 16 rfl rfl (.fA rfl Yn) ?_); clear h; intro a w h
   refine Zo 16 h rfl rfl (Vb h rfl mr isAgg9 sizeOf9 Jy dd ?_); clear h; intro a h
   refine gL h (zq 16 rfl rfl (.binOp rfl rfl (fun _ => Jv _ _ _ _ _)) ?_); clear h; intro a w h
   refine Zg h (fun hc19 h => ?_) (fun hc19 h => ?_)
   ·
    skip
    have hb : m < 18446744073709551616 := Qh.1 (by simpa using hc19)
    refine gL h (zp (.pickT rfl rfl) (zn ?_)); clear h; intro a w h
    refine cW ?_
    refine Zj h rfl ?_
    refine gC h (zS (zp (.fA rfl Yf) (zd rfl mr isAgg45 sizeOf45 Jn ?_)))
    refine zp (.fA rfl Yf) (zd rfl mr isAgg45 sizeOf45 Jn ?_)
    refine zp (.extern [_, _, _] rfl (fun w => by rw [Zw ha, Zw hb]; exact Qam n m 0 dd w)) (zm rfl (zp (.eX rfl) (zp (.eX rfl) (za rfl (za rfl (zn (zS (zm rfl (zp (.eql rfl rfl) (zn ?_)))))))))); intro a w h
    refine cW ?_
    refine Zb h rfl (fun hc30 => ?_) (fun hc30 => ?_)
    ·
     skip
     have hsum : n + m < 18446744073709551616 := by simp at hc30; omega
     refine gC h (zS (zm rfl (zp (.build [(_, _)] rfl (Zd9 _)) (zt' rfl rfl Zl uu sizeOf47 rfl nb rfl ?_)))); clear h; intro a w h
     refine wpList_nil (wp_ret ?_)
     refine Jk h (Zd h rfl (.cell rfl mr isAgg47 sizeOf47 Zh)) ?_
     have e : (n + m + 0) % 18446744073709551616 = n + m := oo
     rw [e, Xk, Zw hsum, Yk hsum]
    ·
     skip
     refine wp_skip ?_
     exact h.sub sA
   ·
    skip
    have hb : ¬ m < 18446744073709551616 := fun hn => by have := Qh.2 hn; simp [this] at hc19
    refine gL h (zp (.pickT rfl rfl) (zn ?_)); clear h; intro a w h
    refine cW ?_
    refine Ze h rfl ?_
    refine wp_skip ?_
    exact h.sub sA
  ·
   skip
   have ha : ¬ n < 18446744073709551616 := fun hn => by have := Qh.2 hn; simp [this] at hc16
   refine gL h (zo 16 rfl rfl rfl (zo 16 rfl rfl rfl (zo 16 rfl rfl rfl (zp (.pickF rfl rfl) (zn ?_))))); clear h; intro a w h
   refine cW ?_
   refine Ze h rfl ?_
   refine wp_skip ?_
   exact h.sub sA
 ·
  clear h
  intro a w h
  refine gC h (zs (yD Za [0, 2, 1, 3, 4, 5] (Zf kk) (yd rfl rfl mr isAgg47 sizeOf47 Zh ?_))); clear h
  refine yd rfl rfl mr isAgg47 sizeOf47 Zh ?_
  refine yf [_] rfl rfl call92 (Gu n oo) ?_; rintro v34 Ψ34 ⟨a1, c1, rfl, hc1, rfl⟩
  refine yf [_] rfl rfl call92 (Gu m oo) ?_; rintro v36 Ψ36 ⟨a2, c2, rfl, hc2, rfl⟩
  refine yp rfl (.assign rfl) (yp rfl (.assign rfl) (yn ?_)); intro a w h
  refine cW ?_
  refine Xu (fun a w => ∃ X Y aX cX aY cY, Y.length ≤ X.length ∧ X.length ≤ 1000000000000 ∧ X.length ≤ cX ∧ Y.length ≤ cY ∧ Wd X ∧ Wd Y ∧ Zr X + Zr Y = n + m ∧ St 80 S w0 [(4, pB b4), (7, .slice aX X.length cX), (8, .slice aY Y.length cY)] [(b4, .cells (Xk 0).cells 47 (0, 0))] [Row aX (Jo X), Row aY (Jo Y)] a w) ?_ ?_
  ·
   skip
   refine gC h (zS (zm rfl (zp (.builtin [_] rfl (Zk _ _ _)) (zm rfl (zp (.builtin [_] rfl (Zk _ _ _)) (zp (.lss rfl rfl) (zn ?_))))))); clear h; intro a w h
   refine cW ?_
   refine Zb h rfl (fun hc41 => ?_) (fun hc41 => ?_)
   ·
    skip
    have hlen : (wds n).length < (wds m).length := by simpa using hc41
    refine gC h (zr (zm rfl (zm rfl (za rfl (za rfl (zn ?_)))))); clear h; intro a w h
    exact ⟨wds m, wds n, _, _, _, _, oo, hm, hc2, hc1, Wd.wds _, Wd.wds _, by rw [Qp, Qp]; omega, ((h.drop (List.Sublist.cons_cons _ (List.nil_sublist _))).factsSub (by simp)).sub (Zfn ⟨rfl, rfl, rfl, trivial⟩)⟩
   ·
    skip
    have hlen : (wds m).length ≤ (wds n).length := by simpa using hc41
    refine wp_skip ?_
    exact ⟨wds n, wds m, _, _, _, _, oo, hn, hc1, hc2, Wd.wds _, Wd.wds _, by rw [Qp, Qp], ((h.drop (List.Sublist.cons_cons _ (List.nil_sublist _))).factsSub (by simp)).sub (Zfn ⟨rfl, rfl, rfl, trivial⟩)⟩
  ·
   clear h
   rintro a w ⟨X, Y, aX, cX, aY, cY, hYX, hX12, hXc, hYc, hX, hY, hV, h⟩
   refine gC h (zS (zm rfl (zp (.builtin [_] rfl (Zk _ _ _)) (zp (.pN (X.length + 1) (.add rfl rfl)) ?_)))); clear h; intro a w h
   refine Zc (Jz h rfl rfl runUnderlying151 typeInfo54 sizeOf54 zeroValue54 rfl dd (by exact Nat.le_refl _) (by show 4 * _ ≤ _; omega) oo dd ?_); clear h; intro b47 a w h
   rw [show (Value.int .u32 0).cells.toList = [Value.int .u32 0] from rfl, Zb7, show List.replicate (X.length + 1) (Value.int .u32 0) = Jo (List.replicate (X.length + 1) 0) from by simp] at h
   refine gL h (za rfl (zn (zS (zm rfl (zm rfl ?_))))); clear h; intro a w h
   refine Zc (Zs8 h rfl rfl (M := Jo X) ss ss runUnderlying151 sizeOf54 oo dd (Zxd X) (by repeat (first | exact Upd.head | apply Upd.tail)) ss (Zun X) dd ?_); clear h; intro a w h
   rw [show X.length + 1 = (X ++ [0]).length from by simp] at h
   refine gL h (zn (zS (za rfl (zn (zs (zS (zm rfl (zp (.builtin [_] rfl (Zk _ _ _)) (zm rfl (zn (zb ?_))))))))))); clear h; intro a w h
   refine Zi (fun (i : Nat) a w => ∃ Z c, i ≤ Z.length ∧ Z.length = X.length + 1 ∧ Wd Z ∧ c ≤ 1 ∧ Zr Z + 4294967296 ^ i * (c + Zr (Y.drop i)) = n + m ∧ St 80 S w0 [(4, pB b4), (8, .slice aY Y.length cY), (9, .slice (some ⟨b47, 0, none⟩) Z.length Z.length), (10, .int .u32 (c : Int)), (52, .int .i64 (Z.length : Int)), (53, .int .i64 (i : Int))] [(b47, .cells (Jo Z).toArray 54 (0, 0)), (b4, .cells (Xk 0).cells 47 (0, 0))] [Row aY (Jo Y)] a w) (fun i => X.length + 1 - i) (0) (⟨X ++ [0], 0, Nat.zero_le _, by simp, hX.append (Wd.zeros 1), oo, by rw [Jf]; simp [Zr]; omega, (h.factsSub (by simp)).sub (Zfn ⟨rfl, rfl, rfl, rfl, rfl, rfl, trivial⟩)⟩) ?_; clear h
   rintro i a w ⟨Z, c, hi, hZl, hZ, hc, hT, h⟩
   refine gC h (zS (zp (.lss rfl rfl) (zn (zs ?_)))); clear h; intro a w h
   refine Zb h rfl (fun hc54 => ?_) (fun hc54 => ?_)
   ·
    skip
    have hi' : i < Z.length := by simpa using hc54
    refine gC h (zk (zs (zb (zS (zm rfl (za rfl (zn (zS (za rfl (zn ?_)))))))))); clear h; intro a w h
    refine cW ?_
    refine Xu (fun a w => St 80 S w0 [(4, pB b4), (8, .slice aY Y.length cY), (9, .slice (some ⟨b47, 0, none⟩) Z.length Z.length), (10, .int .u32 (c : Int)), (11, .int .i64 (i : Int)), (12, .int .u32 (Y.getD i 0 : Int)), (52, .int .i64 (Z.length : Int)), (53, .int .i64 (i : Int))] [(b47, .cells (Jo Z).toArray 54 (0, 0)), (b4, .cells (Xk 0).cells 47 (0, 0))] [Row aY (Jo Y)] a w) ?_ ?_
    ·
     skip
     refine gC h (zS (zm rfl (zm rfl (zp (.builtin [_] rfl (Zk _ _ _)) (zp (.lss rfl rfl) (zn ?_)))))); clear h; intro a w h
     refine cW ?_
     refine Zb h rfl (fun hc59 => ?_) (fun hc59 => ?_)
     ·
      skip
      have hlt : i < Y.length := by simpa using hc59
      obtain ⟨bY, bYo, bYe⟩ := h.row_addr (ad := aY) (M := Jo Y) ss (by simp; intro e; simp [e] at hlt)
      subst bYe
      refine gC h (zr (zm rfl (zm rfl (zp (.indexAddr rfl rfl (Qr _ _ _ _ _ oo)) (zD rfl mm (by simp; omega) isAgg54 sizeOf54 (Zv 0 oo) (.inr rfl) ?_)))))
      refine za rfl (zn ?_); intro a w h
      exact h.sub sA
     ·
      skip
      have hlt : Y.length ≤ i := by simpa using hc59
      refine wp_skip ?_
      rw [Km hlt]
      exact h.sub sA
    ·
     clear h
     intro a w h
     refine gC h (zr (zm rfl (zm rfl (zm rfl (zm rfl (zp (.indexAddr rfl rfl (Qr _ _ _ _ _ oo)) (zd rfl mm isAgg54 sizeOf54 ((Zv 0 (by rw [Nat.zero_add]; omega)).trans (by rw [Nat.zero_add])) ?_)))))))
     refine zm rfl (zm rfl (zv [_, _, _] rfl call140 (Zyx _ _ _ (hZ.getD i) (hY.getD i) hc) (zm rfl (zp (.eX rfl) (zp (.eX rfl) (zp (.indexAddr rfl rfl (Qr _ _ _ _ _ oo)) (zt' rfl rfl ((Yl Z (0 + i) ((Z.getD i 0 + Y.getD i 0 + c) % 4294967296)).trans (by rw [Nat.zero_add])) uu sizeOf54 rfl (by simp; omega) rfl ?_)))))))
     refine za rfl (zn (zr (zp (.add rfl rfl) (zm rfl (zn ?_))))); intro a w h
     refine ⟨i + 1, ⟨Z.set i ((Z.getD i 0 + Y.getD i 0 + c) % 4294967296), _, by simp; omega, by simpa using hZl, hZ.set _ _ (Nat.mod_lt _ dd), ?_, Zli hi' hT, by rw [List.length_set]; exact h.sub sA⟩, oo⟩
     have hz := hZ.getD i
     have hy := hY.getD i
     omega
   ·
    skip
    have hi' : i = Z.length := by simp at hc54; omega
    refine wp_exit (wp_seq (wp_region_lit ?_))
    replace h := h.shareAll hS (Jo Z) rfl
    refine gL h (zm rfl (zw [_] rfl call128 (Qcr _ _ Z hZ (Nat.le_refl _) oo) (zt' rfl rfl Zl uu sizeOf47 rfl nb rfl ?_))); clear h; intro a w h
    refine wpList_nil (wp_ret ?_)
    refine Jk h (Zd h rfl (.cell rfl mr isAgg47 sizeOf47 Zh)) ?_
    rw [hi'] at hT
    have e : Zr Z = n + m := Qfg (N := Z.length) (c := c) (by rw [List.drop_eq_nil_of_le oo] at hT; simpa [Zr] using hT) (by rw [← hV, hZl]; exact add_lt hX hY hYX)
    rw [e]
end
section
theorem Zgm (x0 : Int) (x1 : Int) (x2 : Int) (x3 : Int) (w : World) : (Instr.buildSlice 151 4 [(0, .int .u32 x0), (1, .int .u32 x1), (2, .int .u32 x2), (3, .int .u32 x3)].toArray).run Tryz.prog w = .ok (.slice (some ⟨w.heap.size, 0, none⟩) 4 4) (w.alloc (.cells #[.int .u32 x0, .int .u32 x1, .int .u32 x2, .int .u32 x3] 54 (0, 0))) := by
 simp [go_sem]
theorem Qf1 (n m : Nat) (hn : (wds n).length ≤ 1000000000000) (hm : (wds m).length ≤ 1000000000000) : Xl Tryz.prog 126 [Xk n, Xk m] (.tuple #[Xk (n - m), .bool (decide (m ≤ n))]) := by
 refine fn_intro func126 rfl ntmps126 nb ?_
 intro S w0 a hS h
 refine gC h (zS (zx rfl fun b2 => zx rfl fun b3 => zz zeroValue47 fun b4 => za rfl (zn (zs (zS (zd rfl mr isAgg47 sizeOf47 Zh ?_))))))
 refine zd rfl mr isAgg47 sizeOf47 Zh ?_
 refine zv [_, _] rfl call169 (C_Cmp n m oo oo) (zp (.lss rfl rfl) (zn ?_)); intro a w h
 refine cW ?_
 refine Zb h rfl (fun hc14 => ?_) (fun hc14 => ?_)
 ·
  skip
  have hlt : n < m := by rw [Zg4] at hc14; simpa using hc14
  refine gC h (zS (zp (.build [] rfl (Zip)) (zt' rfl rfl Zl uu sizeOf47 rfl nb rfl ?_)))
  refine za rfl (zn (zt ?_)); intro a w h
  refine Jk h (Ql h rfl (.cell rfl mr isAgg47 sizeOf47 Zh) (.tmp rfl)) ?_
  rw [show n - m = 0 by omega, show decide (m ≤ n) = false from decide_eq_false oo]; rfl
 ·
  skip
  have hle : m ≤ n := by rw [Zg4] at hc14; simpa using hc14
  refine gC h (zk (zs (zS (zp (.fA rfl Yn) (zd rfl mr isAgg9 sizeOf9 Jy ?_)))))
  refine zp (.binOp rfl rfl (fun _ => Jv _ _ _ _ _)) (zn ?_); intro a w h
  refine cW ?_
  refine Zb h rfl (fun hc18 => ?_) (fun hc18 => ?_)
  ·
   skip
   have ha : n < 18446744073709551616 := Qh.1 (by simpa using hc18)
   refine gC h (zS (zp (.fA rfl Yf) (zd rfl mr isAgg45 sizeOf45 Jn ?_)))
   refine zp (.fA rfl Yf) (zd rfl mr isAgg45 sizeOf45 Jn ?_)
   refine zp (Pure1.cast (v' := .int .u64 ((n - m : Nat) : Int)) (.binOp rfl rfl (fun _ => Zfp _ _ _ _ _)) (by rw [Zw ha, Zw oo, wrap_u64 _ oo oo]; congr 1; omega)) (zp (.build [(_, _)] rfl (Zd9 _)) (zt' rfl rfl Zl uu sizeOf47 rfl nb rfl ?_))
   refine za rfl (zn (zt ?_)); intro a w h
   refine Jk h (Ql h rfl (.cell rfl mr isAgg47 sizeOf47 Zh) (.tmp rfl)) ?_
   rw [decide_eq_true hle, Xk, Zw (by omega : n - m < _), Yk oo]
  ·
   skip
   have ha : ¬ n < 18446744073709551616 := fun hn => by have := Qh.2 hn; simp [this] at hc18
   refine gC h (zk (zs (yD Za [0, 2, 1, 3, 4, 5] (Zf kk) (yd rfl rfl mr isAgg47 sizeOf47 Zh ?_)))); clear h
   refine yd rfl rfl mr isAgg47 sizeOf47 Zh ?_
   refine Zbt rfl kk (vs := [_]) rfl call92 (Qbb n ha oo) ss dd ?_; rintro v26 σ26 ⟨b26, rfl, rfl⟩
   refine yf [_] rfl rfl call92 (Gu m oo) ?_; rintro v28 Ψ28 ⟨aY, cY, rfl, hYc, rfl⟩
   refine yp rfl (.assign rfl) (yp rfl (.assign rfl) (yn (zS (za rfl (zn (zs (zS (zm rfl (zp (.builtin [_] rfl (Zk _ _ _)) (zm rfl (zn (zb ?_)))))))))))); intro a w h
   refine Zi (fun (i : Nat) a w => ∃ Z c, i ≤ Z.length ∧ Z.length = (wds n).length ∧ Wd Z ∧ c ≤ 1 ∧ Zr Z + m = n + 4294967296 ^ i * (c + Zr ((wds m).drop i)) ∧ St 58 S w0 [(4, pB b4), (6, .slice (some ⟨b26, 0, none⟩) Z.length Z.length), (7, .slice aY (wds m).length cY), (8, .int .u32 (c : Int)), (30, .int .i64 (Z.length : Int)), (31, .int .i64 (i : Int))] [(b26, .cells (Jo Z).toArray 54 (0, 0)), (b4, .cells (Xk 0).cells 47 (0, 0))] [Row aY (Jo (wds m))] a w) (fun i => (wds n).length - i) (0) (⟨wds n, 0, Nat.zero_le _, rfl, Wd.wds n, oo, by simp [Qp], ((h.drop (List.Sublist.cons_cons _ (List.Sublist.cons_cons _ (List.nil_sublist _)))).factsSub (by simp)).sub (Zfn ⟨rfl, rfl, rfl, rfl, rfl, rfl, trivial⟩)⟩) ?_; clear h
   rintro i a w ⟨Z, c, hi, hZl, hZ, hc, hT, h⟩
   refine gC h (zS (zp (.lss rfl rfl) (zn (zs ?_)))); clear h; intro a w h
   refine Zb h rfl (fun hc32 => ?_) (fun hc32 => ?_)
   ·
    skip
    have hi' : i < Z.length := by simpa using hc32
    refine gC h (zk (zs (zb (zS (zm rfl (za rfl (zn (zS (za rfl (zn ?_)))))))))); clear h; intro a w h
    refine cW ?_
    refine Xu (fun a w => St 58 S w0 [(4, pB b4), (6, .slice (some ⟨b26, 0, none⟩) Z.length Z.length), (7, .slice aY (wds m).length cY), (8, .int .u32 (c : Int)), (9, .int .i64 (i : Int)), (10, .int .u32 ((wds m).getD i 0 : Int)), (30, .int .i64 (Z.length : Int)), (31, .int .i64 (i : Int))] [(b26, .cells (Jo Z).toArray 54 (0, 0)), (b4, .cells (Xk 0).cells 47 (0, 0))] [Row aY (Jo (wds m))] a w) ?_ ?_
    ·
     skip
     refine gC h (zS (zm rfl (zm rfl (zp (.builtin [_] rfl (Zk _ _ _)) (zp (.lss rfl rfl) (zn ?_)))))); clear h; intro a w h
     refine cW ?_
     refine Zb h rfl (fun hc37 => ?_) (fun hc37 => ?_)
     ·
      skip
      have hlt : i < (wds m).length := by simpa using hc37
      obtain ⟨bY, bYo, bYe⟩ := h.row_addr (ad := aY) (M := Jo (wds m)) ss (by simp; intro e; simp [e] at hlt)
      subst bYe
      refine gC h (zr (zm rfl (zm rfl (zp (.indexAddr rfl rfl (Qr _ _ _ _ _ oo)) (zD rfl mm (by simp; omega) isAgg54 sizeOf54 (Zv 0 oo) (.inr rfl) ?_)))))
      refine za rfl (zn ?_); intro a w h
      exact h.sub sA
     ·
      skip
      have hlt : (wds m).length ≤ i := by simpa using hc37
      refine wp_skip ?_
      rw [Km hlt]
      exact h.sub sA
    ·
     clear h
     intro a w h
     refine gC h (zr (zm rfl (zm rfl (zm rfl (zm rfl (zp (.indexAddr rfl rfl (Qr _ _ _ _ _ oo)) (zd rfl mm isAgg54 sizeOf54 ((Zv 0 (by rw [Nat.zero_add]; omega)).trans (by rw [Nat.zero_add])) ?_)))))))
     refine zm rfl (zm rfl (zv [_, _, _] rfl call171 (Zpw _ _ _ (hZ.getD i) ((Wd.wds m).getD i) hc) (zm rfl (zp (.eX rfl) (zp (.eX rfl) (zp (.indexAddr rfl rfl (Qr _ _ _ _ _ oo)) (zt' rfl rfl ((Yl Z (0 + i) ((Z.getD i 0 + 8589934592 - (wds m).getD i 0 - c) % 4294967296)).trans (by rw [Nat.zero_add])) uu sizeOf54 rfl (by simp; omega) rfl ?_)))))))
     refine za rfl (zn (zr (zp (.add rfl rfl) (zm rfl (zn ?_))))); intro a w h
     refine ⟨i + 1, ⟨Z.set i ((Z.getD i 0 + 8589934592 - (wds m).getD i 0 - c) % 4294967296), (if Z.getD i 0 < (wds m).getD i 0 + c then 1 else 0), by simp; omega, by simpa using hZl, hZ.set _ _ (Nat.mod_lt _ dd), by split <;> omega, Zy9 hi' hT (Zuy _ _ _ (hZ.getD i) ((Wd.wds m).getD i) hc), by rw [List.length_set]; exact h.sub sA⟩, oo⟩
   ·
    skip
    have hi' : i = Z.length := by simp at hc32; omega
    refine wp_exit (wp_seq (wp_region_lit ?_))
    replace h := h.shareAll hS (Jo Z) rfl
    refine gL h (zm rfl (zw [_] rfl call128 (Qcr _ _ Z hZ (Nat.le_refl _) oo) (zt' rfl rfl Zl uu sizeOf47 rfl nb rfl ?_)))
    refine za rfl (zn (zt ?_)); intro a w h
    refine Jk h (Ql h rfl (.cell rfl mr isAgg47 sizeOf47 Zh) (.tmp rfl)) ?_
    rw [hi'] at hT
    have e : Zr Z = n - m := by
     refine Qdf (N := Z.length) (c := c) hZ rfl hle ?_
     rw [List.drop_eq_nil_of_le] at hT
     · simpa [Zr] using hT
     ·
      refine Nat.le_of_not_lt fun hgt => ?_
      have := Zbi (n := n) (m := m) oo
      omega
    rw [e, decide_eq_true hle]
theorem Qf9 (x y : Nat) (hx : x < 18446744073709551616) (hy : y < 18446744073709551616) :
  Xl Tryz.prog 127 [.int .u64 (x : Int), .int .u64 (y : Int)] (.tuple #[.int .u64 ((x * y / 18446744073709551616 : Nat) : Int), .int .u64 ((x * y % 18446744073709551616 : Nat) : Int)]) := by
 obtain ⟨ht, hw, hh⟩ := mul64_hi x y hx hy
 have b1 := Ga (a := x / 4294967296) (b := y / 4294967296) oo oo
 have b2 := Ga (a := x / 4294967296) (b := y % 4294967296) oo oo
 have b3 := Ga (a := x % 4294967296) (b := y / 4294967296) oo oo
 have b4 := Ga (a := x % 4294967296) (b := y % 4294967296) oo oo
 refine fn_intro func127 rfl ntmps127 nb ?_
 intro S w0 a hS h
 refine gC h (zS (za rfl (za rfl (zn (zS (zm rfl (zp (Pure1.cast (v' := .int .u64 (((x % 4294967296) : Nat) : Int)) (.binOp rfl rfl (fun _ => Zho rfl _ _ _ x 4294967295 hx dd)) (by rw [show (4294967295 : Nat) = 2 ^ 32 - 1 from rfl, Nat.and_two_pow_sub_one_eq_mod])) (za rfl (zn (zS (zm rfl (zp (Pure1.cast (v' := .int .u64 (((x / 4294967296) : Nat) : Int)) (.binOp rfl rfl (fun _ => Xv _ _ _ x 32 dd)) (by rfl)) (za rfl (zn (zS (zm rfl (zp (Pure1.cast (v' := .int .u64 (((y % 4294967296) : Nat) : Int)) (.binOp rfl rfl (fun _ => Zho rfl _ _ _ y 4294967295 hy dd)) (by rw [show (4294967295 : Nat) = 2 ^ 32 - 1 from rfl, Nat.and_two_pow_sub_one_eq_mod])) (za rfl (zn (zS (zm rfl (zp (Pure1.cast (v' := .int .u64 (((y / 4294967296) : Nat) : Int)) (.binOp rfl rfl (fun _ => Xv _ _ _ y 32 dd)) (by rfl)) (za rfl (zn (zS (zm rfl (zm rfl (zp (Pure1.cast (v' := .int .u64 (((x % 4294967296) * (y % 4294967296) : Nat) : Int)) (.binOp rfl rfl (fun _ => Zb5 _ _ _ _ _)) (by rw [Kt oo])) (za rfl (zn (zS (zm rfl (zm rfl (zp (Pure1.cast (v' := .int .u64 (((x / 4294967296) * (y % 4294967296) : Nat) : Int)) (.binOp rfl rfl (fun _ => Zb5 _ _ _ _ _)) (by rw [Kt oo])) (zm rfl (zp (Pure1.cast (v' := .int .u64 (((x % 4294967296) * (y % 4294967296) / 4294967296 : Nat) : Int)) (.binOp rfl rfl (fun _ => Xv _ _ _ _ 32 dd)) (by rfl)) (zp (Pure1.cast (v' := .int .u64 ((((x / 4294967296) * (y % 4294967296) + (x % 4294967296) * (y % 4294967296) / 4294967296) : Nat) : Int)) (.binOp rfl rfl (fun _ => Za8 _ _ _ _ _)) (by rw [Vs ht])) (za rfl (zn (zS (zm rfl (zp (Pure1.cast (v' := .int .u64 ((((x / 4294967296) * (y % 4294967296) + (x % 4294967296) * (y % 4294967296) / 4294967296) % 4294967296 : Nat) : Int)) (.binOp rfl rfl (fun _ => Zho rfl _ _ _ _ 4294967295 ht dd)) (by rw [show (4294967295 : Nat) = 2 ^ 32 - 1 from rfl, Nat.and_two_pow_sub_one_eq_mod])) (za rfl (zn (zS (zm rfl (zp (Pure1.cast (v' := .int .u64 ((((x / 4294967296) * (y % 4294967296) + (x % 4294967296) * (y % 4294967296) / 4294967296) / 4294967296 : Nat) : Int)) (.binOp rfl rfl (fun _ => Xv _ _ _ _ 32 dd)) (by rfl)) (za rfl (zn (zS (zm rfl (zm rfl (zm rfl (zp (Pure1.cast (v' := .int .u64 (((x % 4294967296) * (y / 4294967296) : Nat) : Int)) (.binOp rfl rfl (fun _ => Zb5 _ _ _ _ _)) (by rw [Kt oo])) (zp (Pure1.cast (v' := .int .u64 (((((x / 4294967296) * (y % 4294967296) + (x % 4294967296) * (y % 4294967296) / 4294967296) % 4294967296 + (x % 4294967296) * (y / 4294967296)) : Nat) : Int)) (.binOp rfl rfl (fun _ => Za8 _ _ _ _ _)) (by rw [Vs hw])) (za rfl (zn (zS (zm rfl (zm rfl (zp (Pure1.cast (v' := .int .u64 (((x / 4294967296) * (y / 4294967296) : Nat) : Int)) (.binOp rfl rfl (fun _ => Zb5 _ _ _ _ _)) (by rw [Kt oo])) (zm rfl (zp (Pure1.cast (v' := .int .u64 (((x / 4294967296) * (y / 4294967296) + ((x / 4294967296) * (y % 4294967296) + (x % 4294967296) * (y % 4294967296) / 4294967296) / 4294967296 : Nat) : Int)) (.binOp rfl rfl (fun _ => Za8 _ _ _ _ _)) (by rw [Vs oo])) (zm rfl (zp (Pure1.cast (v' := .int .u64 (((((x / 4294967296) * (y % 4294967296) + (x % 4294967296) * (y % 4294967296) / 4294967296) % 4294967296 + (x % 4294967296) * (y / 4294967296)) / 4294967296 : Nat) : Int)) (.binOp rfl rfl (fun _ => Xv _ _ _ _ 32 dd)) (by rfl)) (zp (Pure1.cast (v' := .int .u64 ((x * y / 18446744073709551616 : Nat) : Int)) (.binOp rfl rfl (fun _ => Za8 _ _ _ _ _)) (by rw [Vs (by rw [hh]; exact Nat.div_lt_of_lt_mul (Nat.mul_lt_mul'' hx hy)), hh])) (za rfl (zn (zS (zm rfl (zm rfl (zp (Pure1.cast (v' := .int .u64 ((x * y % 18446744073709551616 : Nat) : Int)) (.binOp rfl rfl (fun _ => Zb5 _ _ _ _ _)) (by rw [← Int.natCast_mul, Zav]; congr 1)) (za rfl (zn (zt ?_))))))))))))))))))))))))))))))))))))))))))))))))))))))))))))))))))))))))))); clear h; intro a w h
 refine Jk h (Ql h rfl (.tmp rfl) (.tmp rfl)) ?_
 rfl
theorem Qga (n m : Nat) (hn : (wds n).length ≤ 500000000000) (hm : (wds m).length ≤ 500000000000) : Xl Tryz.prog 85 [Xk n, Xk m] (Xk (n * m)) := by
 refine fn_intro func85 rfl ntmps85 nb ?_
 intro S w0 a hS h
 refine gC h (zS (zx rfl fun b2 => zx rfl fun b3 => zz zeroValue47 fun b4 => zn ?_)); clear h; intro a w h
 refine cW ?_
 refine Xu (fun a w => St 103 S w0 [(2, pB b2), (3, pB b3), (4, pB b4)] [(b4, .cells (Xk 0).cells 47 (0, 0)), (b3, .cells (Xk m).cells 47 (0, 0)), (b2, .cells (Xk n).cells 47 (0, 0))] [] a w) ?_ ?_
 ·
  skip
  refine gC h (zS (zp (.fA rfl Yn) (zd rfl mr isAgg9 sizeOf9 Jy ?_)))
  refine zp (.binOp rfl rfl (fun _ => Jv _ _ _ _ _)) (zm rfl ?_); intro a w h
  refine Zg h (fun hc18 h => ?_) (fun hc18 h => ?_)
  ·
   skip
   have ha : n < 18446744073709551616 := Qh.1 (by simpa using hc18)
   refine gL h (zq 18 rfl rfl (.fA rfl Yn) ?_); clear h; intro a w h
   refine Zo 18 h rfl rfl (Vb h rfl mr isAgg9 sizeOf9 Jy dd ?_); clear h; intro a h
   refine gL h (zq 18 rfl rfl (.binOp rfl rfl (fun _ => Jv _ _ _ _ _)) ?_); clear h; intro a w h
   refine Zg h (fun hc21 h => ?_) (fun hc21 h => ?_)
   ·
    skip
    have hb : m < 18446744073709551616 := Qh.1 (by simpa using hc21)
    refine gL h (zp (.pickT rfl rfl) (zn ?_)); clear h; intro a w h
    refine cW ?_
    refine Zj h rfl ?_
    refine gC h (zS (zp (.fA rfl Yf) (zd rfl mr isAgg45 sizeOf45 Jn ?_))); clear h; intro a w h
    rw [Zw ha] at h
    refine gL h (zp (.fA rfl Yf) (zd rfl mr isAgg45 sizeOf45 Jn ?_)); clear h; intro a w h
    rw [Zw hb] at h
    refine gL h (zv [_, _] rfl call127 (Qf9 n m ha hb) (zm rfl (zp (.eX rfl) (zp (.eX rfl) (za rfl (za rfl (zn (zS (zm rfl (zp (Pure1.cast (v' := .int .u32 ((n * m % 18446744073709551616 % 4294967296 : Nat) : Int)) (.convert rfl (Xi _)) (by rw [Qy]; congr 1)) (zm rfl (zp (.binOp rfl rfl (fun _ => Xv _ _ _ _ 32 dd)) (zp (Pure1.cast (v' := .int .u32 ((n * m % 18446744073709551616 / 4294967296 : Nat) : Int)) (.convert rfl (Xi _)) (by rw [Qy]; congr 1; omega)) (zm rfl (zp (Pure1.cast (v' := .int .u32 ((n * m / 18446744073709551616 % 4294967296 : Nat) : Int)) (.convert rfl (Xi _)) (by rw [Qy]; congr 1)) (zm rfl (zp (.binOp rfl rfl (fun _ => Xv _ _ _ _ 32 dd)) (zp (Pure1.cast (v' := .int .u32 ((n * m / 18446744073709551616 / 4294967296 : Nat) : Int)) (.convert rfl (Xi _)) (by have hh := Nat.div_lt_of_lt_mul (Nat.mul_lt_mul'' ha hb); rw [Qy]; congr 1; omega)) (zB [(_, _), (_, _), (_, _), (_, _)] rfl (Zgm _ _ _ _) fun b41 => ?_))))))))))))))))))); clear h; intro a w h
    replace h := h.shareAll hS (Jo [n * m % 18446744073709551616 % 4294967296, n * m % 18446744073709551616 / 4294967296, n * m / 18446744073709551616 % 4294967296, n * m / 18446744073709551616 / 4294967296]) rfl
    refine gL h (zw [_] rfl call128 (Qcr _ _ [n * m % 18446744073709551616 % 4294967296, n * m % 18446744073709551616 / 4294967296, n * m / 18446744073709551616 % 4294967296, n * m / 18446744073709551616 / 4294967296] (by intro x hx; have hh := Nat.div_lt_of_lt_mul (Nat.mul_lt_mul'' ha hb); simp at hx; omega) ss ss) (zt' rfl rfl Zl uu sizeOf47 rfl nb rfl ?_)); clear h; intro a w h
    refine wpList_nil (wp_ret ?_)
    refine Jk h (Zd h rfl (.cell rfl mr isAgg47 sizeOf47 Zh)) ?_
    have e : Zr [n * m % 18446744073709551616 % 4294967296, n * m % 18446744073709551616 / 4294967296, n * m / 18446744073709551616 % 4294967296, n * m / 18446744073709551616 / 4294967296] = n * m := by simp only [Zr]; omega
    rw [e]
   ·
    skip
    have hb : ¬ m < 18446744073709551616 := fun hn => by have := Qh.2 hn; simp [this] at hc21
    refine gL h (zp (.pickT rfl rfl) (zn ?_)); clear h; intro a w h
    refine cW ?_
    refine Ze h rfl ?_
    refine wp_skip ?_
    exact h.sub sA
  ·
   skip
   have ha : ¬ n < 18446744073709551616 := fun hn => by have := Qh.2 hn; simp [this] at hc18
   refine gL h (zo 18 rfl rfl rfl (zo 18 rfl rfl rfl (zo 18 rfl rfl rfl (zp (.pickF rfl rfl) (zn ?_))))); clear h; intro a w h
   refine cW ?_
   refine Ze h rfl ?_
   refine wp_skip ?_
   exact h.sub sA
 ·
  clear h
  intro a w h
  refine gC h (zs (yD Za [0, 2, 1, 3, 4, 5] (Zf kk) (yd rfl rfl mr isAgg47 sizeOf47 Zh ?_))); clear h
  refine yd rfl rfl mr isAgg47 sizeOf47 Zh ?_
  refine yf [_] rfl rfl call92 (Gu n oo) ?_; rintro v44 Ψ44 ⟨aX, cX, rfl, hcX, rfl⟩
  refine yf [_] rfl rfl call92 (Gu m oo) ?_; rintro v46 Ψ46 ⟨aY, cY, rfl, hcY, rfl⟩
  refine yp rfl (.assign rfl) (yp rfl (.assign rfl) (yn (zS (zm rfl (zp (.builtin [_] rfl (Zk _ _ _)) (zm rfl (zp (.builtin [_] rfl (Zk _ _ _)) (zp (.pN ((wds n).length + (wds m).length) (.add rfl rfl)) ?_)))))))); intro a w h
  refine Zc (Jz h rfl rfl runUnderlying151 typeInfo54 sizeOf54 zeroValue54 rfl dd (by exact Nat.le_refl _) (by show 4 * _ ≤ _; omega) oo dd ?_); clear h; intro b52 a w h
  rw [show (Value.int .u32 0).cells.toList = [Value.int .u32 0] from rfl, Zb7, show List.replicate ((wds n).length + (wds m).length) (Value.int .u32 0) = Jo (List.replicate ((wds n).length + (wds m).length) 0) from by simp] at h
  refine gL h (za rfl (zn (zs (zS (zm rfl (zp (.builtin [_] rfl (Zk _ _ _)) (zm rfl (zn (zb ?_))))))))); clear h; intro a w h
  refine Zi (fun (i : Nat) a w => i ≤ (wds n).length ∧ ∃ Z, Z.length = (wds n).length + (wds m).length ∧ Wd Z ∧ Zr Z = Zr ((wds n).take i) * Zr (wds m) ∧ St 103 S w0 [(4, pB b4), (8, .slice aY (wds m).length cY), (9, .slice (some ⟨b52, 0, none⟩) Z.length Z.length), (53, .slice aX (wds n).length cX), (54, .int .i64 ((wds n).length : Int)), (55, .int .i64 (i : Int))] [(b52, .cells (Jo Z).toArray 54 (0, 0)), (b4, .cells (Xk 0).cells 47 (0, 0))] [Row aX (Jo (wds n)), Row aY (Jo (wds m))] a w) (fun i => (wds n).length - i) (0) (⟨Nat.zero_le _, List.replicate ((wds n).length + (wds m).length) 0, by simp, Wd.zeros _, by rw [Zdf _ (fun x hx => List.eq_of_mem_replicate hx)]; simp [Zr], by rw [List.length_replicate]; exact ((h.drop (List.Sublist.cons_cons _ (List.Sublist.cons_cons _ (List.nil_sublist _)))).factsSub (by simp)).sub (Zfn ⟨rfl, rfl, rfl, rfl, rfl, rfl, trivial⟩)⟩) ?_; clear h
  rintro i a w ⟨hi, Z, hZl, hZ, hV, h⟩
  refine gC h (zS (zp (.lss rfl rfl) (zn (zs ?_)))); clear h; intro a w h
  refine Zb h rfl (fun hc56 => ?_) (fun hc56 => ?_)
  ·
   skip
   have hi' : i < (wds n).length := by simpa using hc56
   have hlt := hi'
   obtain ⟨bX, bXo, bXe⟩ := h.row_addr (ad := aX) (M := Jo (wds n)) ss (by simp; intro e; simp [e] at hlt)
   subst bXe
   refine gC h (zk (zs (zb (zS (zm rfl (zp (.indexAddr rfl rfl (Qr _ _ _ _ _ oo)) (zD rfl mm (by simp; omega) isAgg54 sizeOf54 (Zv 0 oo) (.inr rfl) ?_)))))))
   refine za rfl (za rfl (zn (zS (za rfl (zn (zs (zS (zm rfl (zp (.builtin [_] rfl (Zk _ _ _)) (zm rfl (zn (zb ?_)))))))))))); intro a w h
   refine Zi (fun (k : Nat) a w => k ≤ (wds m).length ∧ ∃ Z c, Z.length = (wds n).length + (wds m).length ∧ Wd Z ∧ c < 4294967296 ∧ Z.getD (i + (wds m).length) 0 = 0 ∧ Zr Z + 4294967296 ^ (i + k) * c + 4294967296 ^ (i + k) * ((wds n).getD i 0 * Zr ((wds m).drop k)) = Zr ((wds n).take i) * Zr (wds m) + 4294967296 ^ i * ((wds n).getD i 0 * Zr (wds m)) ∧ St 103 S w0 [(4, pB b4), (8, .slice aY (wds m).length cY), (9, .slice (some ⟨b52, 0, none⟩) Z.length Z.length), (53, .slice (some ⟨bX, bXo, none⟩) (wds n).length cX), (54, .int .i64 ((wds n).length : Int)), (55, .int .i64 (i : Int)), (10, .int .i64 (i : Int)), (11, .int .u32 ((wds n).getD i 0 : Int)), (12, .int .u64 (c : Int)), (60, .slice aY (wds m).length cY), (61, .int .i64 ((wds m).length : Int)), (62, .int .i64 (k : Int))] [(b52, .cells (Jo Z).toArray 54 (0, 0)), (b4, .cells (Xk 0).cells 47 (0, 0))] [Row (some ⟨bX, bXo, none⟩) (Jo (wds n)), Row aY (Jo (wds m))] a w) (fun k => (wds m).length - k) (0) (⟨Nat.zero_le _, Z, 0, hZl, hZ, by decide, Ziw (Wd.wds n) (Wd.wds m) hV (Nat.le_refl _), by simp [hV], h.sub sA⟩) ?_; clear h
   clear hZ hV hZl
   rintro k a w ⟨hk, Z, c, hZl, hZ, hc, h0, hT, h⟩
   refine gC h (zS (zp (.lss rfl rfl) (zn (zs ?_)))); clear h; intro a w h
   refine Zb h rfl (fun hc63 => ?_) (fun hc63 => ?_)
   ·
    skip
    have hk' : k < (wds m).length := by simpa using hc63
    have hlt := hk'
    obtain ⟨bY, bYo, bYe⟩ := h.row_addr (ad := aY) (M := Jo (wds m)) ss (by simp; intro e; simp [e] at hlt)
    subst bYe
    have hb := Zob ((Wd.wds n).getD i) ((Wd.wds m).getD k) hc (hZ.getD (i + k))
    have hxi := (Wd.wds n).getD i
    have hyk := (Wd.wds m).getD k
    have hzk := hZ.getD (i + k)
    refine gC h (zk (zs (zb (zS (zm rfl (zp (.indexAddr rfl rfl (Qr _ _ _ _ _ oo)) (zD rfl mm (by simp; omega) isAgg54 sizeOf54 (Zv 0 oo) (.inr rfl) ?_)))))))
    refine za rfl (za rfl (zn (zS (zm rfl (zm rfl (zp (.convert rfl (Jj _ (wrap_u64 _ oo oo))) (zm rfl (zp (.convert rfl (Jj _ (wrap_u64 _ oo oo))) (zp (Pure1.cast (v' := .int .u64 (((wds n).getD i 0 * (wds m).getD k 0 : Nat) : Int)) (.binOp rfl rfl (fun _ => Zb5 _ _ _ _ _)) (by rw [Kt oo])) (zm rfl (zm rfl (zm rfl (zp (.pN (i + k) (.add rfl rfl)) (zp (.indexAddr rfl rfl (Qr _ _ _ _ _ oo)) (zd rfl mm isAgg54 sizeOf54 ((Zv 0 (by rw [Nat.zero_add]; omega)).trans (by rw [Nat.zero_add])) ?_)))))))))))))))
    refine zp (.convert rfl (Jj _ (wrap_u64 _ oo oo))) (zp (Pure1.cast (v' := .int .u64 (((wds n).getD i 0 * (wds m).getD k 0 + Z.getD (i + k) 0 : Nat) : Int)) (.binOp rfl rfl (fun _ => Za8 _ _ _ _ _)) (by rw [Vs oo])) (zp (Pure1.cast (v' := .int .u64 (((c + ((wds n).getD i 0 * (wds m).getD k 0 + Z.getD (i + k) 0)) : Nat) : Int)) (.binOp rfl rfl (fun _ => Za8 _ _ _ _ _)) (by rw [Vs hb])) (za rfl (zn (zS (zm rfl (zm rfl (zm rfl (zp (.pN (i + k) (.add rfl rfl)) (zm rfl (zp (Pure1.cast (v' := .int .u32 (((c + ((wds n).getD i 0 * (wds m).getD k 0 + Z.getD (i + k) 0)) % 4294967296 : Nat) : Int)) (.convert rfl (Xi _)) (by rw [Qy]; congr 1)) (zp (.indexAddr rfl rfl (Qr _ _ _ _ _ oo)) (zt' rfl rfl ((Yl Z (0 + (i + k)) ((c + ((wds n).getD i 0 * (wds m).getD k 0 + Z.getD (i + k) 0)) % 4294967296)).trans (by rw [Nat.zero_add])) uu sizeOf54 rfl (by simp; omega) rfl ?_)))))))))))))
    refine zn (zr (zm rfl (zp (Pure1.cast (v' := .int .u64 (((c + ((wds n).getD i 0 * (wds m).getD k 0 + Z.getD (i + k) 0)) / 4294967296 : Nat) : Int)) (.binOp rfl rfl (fun _ => Xv _ _ _ _ 32 dd)) (by rfl)) (za rfl (zn (zr (zp (.add rfl rfl) (zm rfl (zn ?_))))))))); intro a w h
    exact ⟨k + 1, ⟨oo, Z.set (i + k) ((c + ((wds n).getD i 0 * (wds m).getD k 0 + Z.getD (i + k) 0)) % 4294967296), _, by simpa using hZl, hZ.set _ _ (Nat.mod_lt _ dd), Nat.div_lt_of_lt_mul hb, by rw [Zew oo]; exact h0, Zz2 oo hT, by rw [List.length_set]; exact h.sub sA⟩, oo⟩
   ·
    skip
    have hk' : k = (wds m).length := by simp at hc63; omega
    subst hk'
    refine gC h (ze (zr (zm rfl (zm rfl (zm rfl (zp (.builtin [_] rfl (Zk _ _ _)) (zp (.pN (i + (wds m).length) (.add rfl rfl)) (zm rfl (zp (Pure1.cast (v' := .int .u32 (c : Int)) (.convert rfl (Xi _)) (by rw [wrap_u32 _ oo oo])) (zp (.indexAddr rfl rfl (Qr _ _ _ _ _ oo)) (zt' rfl rfl ((Yl Z (0 + (i + (wds m).length)) c).trans (by rw [Nat.zero_add])) uu sizeOf54 rfl (by simp; omega) rfl ?_)))))))))))
    refine zn (zr (zp (.add rfl rfl) (zm rfl (zn ?_)))); intro a w h
    exact ⟨i + 1, ⟨oo, Z.set (i + (wds m).length) c, by simpa using hZl, hZ.set _ _ hc, Zo2 hi' oo h0 hT, by rw [List.length_set]; exact h.sub sA⟩, oo⟩
  ·
   skip
   have hi' : i = (wds n).length := by simp at hc56; omega
   refine wp_exit (wp_seq (wp_region_lit ?_))
   replace h := h.shareAll hS (Jo Z) rfl
   refine gL h (zm rfl (zw [_] rfl call128 (Qcr _ _ Z hZ (Nat.le_refl _) oo) (zt' rfl rfl Zl uu sizeOf47 rfl nb rfl ?_))); clear h; intro a w h
   refine wpList_nil (wp_ret ?_)
   refine Jk h (Zd h rfl (.cell rfl mr isAgg47 sizeOf47 Zh)) ?_
   rw [hi', List.take_length, Qp, Qp] at hV
   rw [hV]
end
section
theorem Qgd (hi lo y : Nat) (hlo : lo < 4294967296) (hy : y < 4294967296) (h0 : hi < y) :
  Xl Tryz.prog 135 [.int .u32 (hi : Int), .int .u32 (lo : Int), .int .u32 (y : Int)] (.tuple #[.int .u32 (((hi * 4294967296 + lo) / y : Nat) : Int), .int .u32 (((hi * 4294967296 + lo) % y : Nat) : Int)]) := by
 have hq : (hi * 4294967296 + lo) / y < 4294967296 := Zhl h0 hlo
 have hr : (hi * 4294967296 + lo) % y < y := Nat.mod_lt _ oo
 refine fn_intro func135 rfl ntmps135 nb ?_
 intro S w0 a hS h
 refine gC h (zS (za rfl (za rfl (zn (zs (zS (zm rfl (zp (.neq rfl rfl) (zm rfl ?_))))))))); clear h; intro a w h
 refine Zg h (fun hc11 h => ?_) (fun hc11 h => (by exfalso; have := Zz1 (b := 0) hc11; omega))
 refine gL h (zq 11 rfl rfl (.move rfl) (zq 11 rfl rfl (.move rfl) (zq 11 rfl rfl (.leq rfl rfl) ?_))); clear h; intro a w h
 refine Zg h (fun hc14 h => (by exfalso; have := of_decide_eq_true hc14; omega)) (fun hc14 h => ?_)
 refine gL h (zp (.pickT rfl rfl) (zn ?_)); clear h; intro a w h
 refine cW ?_
 refine Ze h rfl ?_
 refine gC h (zk (zS (zm rfl (zp (.convert rfl (Jj _ (wrap_u64 _ oo oo))) (zp (Pure1.cast (v' := .int .u64 ((hi * 4294967296 : Nat) : Int)) (.binOp rfl rfl (fun _ => Zb4 _ _ _ hi 32 dd)) (by rw [wrap_u64 _ oo oo])) (zm rfl (zp (.convert rfl (Jj _ (wrap_u64 _ oo oo))) (zp (Pure1.cast (v' := .int .u64 ((hi * 4294967296 + lo : Nat) : Int)) (.binOp rfl rfl (fun _ => Zeg rfl _ _ _ (hi * 4294967296) lo (by show _ < 18446744073709551616; omega) (by show _ < 18446744073709551616; omega))) (by have e := Nat.shiftLeft_add_eq_or_of_lt (show lo < 2 ^ 32 by omega) hi; rw [Nat.shiftLeft_eq] at e; rw [show hi * 4294967296 = hi * 2 ^ 32 from rfl, ← e])) (za rfl (zn (zs (yD Za [0, 1, 2, 3, 4, 5, 6, 7, 8, 9, 10, 11] (Zf kk) (ym rfl rfl (ym rfl rfl (yp rfl (.convert rfl (Jj _ (wrap_u64 _ oo oo))) (yp rfl (Pure1.cast (v' := .int .u64 (((hi * 4294967296 + lo) / y : Nat) : Int)) (.binOp rfl rfl (fun _ => Vl _ _ _ _ _ oo)) (by rw [Yc, Zcq (Nat.lt_of_lt_of_le hq dd)])) (yp rfl (Pure1.cast (v' := .int .u32 (((hi * 4294967296 + lo) / y : Nat) : Int)) (.convert rfl (Xi _)) (by rw [Zec hq])) (ym rfl rfl (ym rfl rfl (yp rfl (.convert rfl (Jj _ (wrap_u64 _ oo oo))) (yp rfl (Pure1.cast (v' := .int .u64 (((hi * 4294967296 + lo) % y : Nat) : Int)) (.binOp rfl rfl (fun _ => Zai _ _ _ _ _ oo)) (by rw [Kd])) (yp rfl (Pure1.cast (v' := .int .u32 (((hi * 4294967296 + lo) % y : Nat) : Int)) (.convert rfl (Xi _)) (by rw [Zec (Nat.lt_trans hr hy)])) (yp rfl (.assign rfl) (yp rfl (.assign rfl) (yn (zt ?_)))))))))))))))))))))))))); clear h; intro a w h
 refine Jk h (Ql h rfl (.tmp rfl) (.tmp rfl)) ?_
 rfl
theorem Zya (ad : Option Addr) (cp : Nat) (X : List Nat) (y : Nat) (hX : Wd X) (hl : X.length ≤ 1099511627776) (hy0 : 0 < y) (hy : y < 4294967296) :
  Zj2 Tryz.prog 93 [.slice ad X.length cp, .int .u32 (y : Int)] [Row ad (Jo X)] (fun v σn => ∃ b Q, v = .tuple #[.slice (some ⟨b, 0, none⟩) Q.length Q.length, .int .u32 ((Zr X % y : Nat) : Int)] ∧ Wd Q ∧ Q.length = X.length ∧ Zr Q = Zr X / y ∧ σn = [(b, .cells (Jo Q).toArray 54 (0, 0))]) := by
 refine fn_introO func93 rfl ntmps93 nb ?_
 intro S w0 a hS h
 refine gC h (zS (za rfl (za rfl (zn (zS (zm rfl (zp (.builtin [_] rfl (Zk _ _ _)) ?_))))))); clear h; intro a w h
 refine Zc (Jz h rfl rfl runUnderlying151 typeInfo54 sizeOf54 zeroValue54 rfl dd (by exact Nat.le_refl _) (by show 4 * _ ≤ _; omega) oo dd ?_); clear h; intro b9 a w h
 rw [show (Value.int .u32 0).cells.toList = [Value.int .u32 0] from rfl, Zb7, show List.replicate X.length (Value.int .u32 0) = Jo (List.replicate X.length 0) from by simp] at h
 refine gL h (za rfl (zn (zs (zS (zm rfl (zp (.builtin [_] rfl (Zk _ _ _)) (zp (.sub rfl rfl) (za rfl (zn (zb ?_)))))))))); clear h; intro a w h
 refine Zi (fun (k : Nat) a w => ∃ Q r, k ≤ X.length ∧ Q.length = X.length ∧ Wd Q ∧ r < y ∧ Zr (X.drop k) = Zr (Q.drop k) * y + r ∧ St 32 S w0 [(0, .slice ad X.length cp), (1, .int .u32 (y : Int)), (4, .slice (some ⟨b9, 0, none⟩) X.length X.length), (5, .int .u32 (r : Int)), (6, .int .i64 ((k : Int) - 1))] [(b9, .cells (Jo Q).toArray 54 (0, 0))] [Row ad (Jo X)] a w) (fun k => k) (X.length) (⟨List.replicate X.length 0, 0, Nat.le_refl _, by simp, Wd.zeros _, hy0, by simp [Zr], h.sub sA⟩) ?_; clear h
 rintro k a w ⟨Q, r, hkX, hQ, hQw, hr, hT, h⟩
 refine gC h (zs (zS (zm rfl (zp (.geq rfl rfl) (zn ?_))))); clear h; intro a w h
 refine cW ?_
 refine Zb h rfl (fun hc14 => ?_) (fun hc14 => ?_)
 ·
  skip
  have hk : 0 < k := by simp at hc14; omega
  have hlt : 0 < X.length := oo
  obtain ⟨bX, bXo, bXe⟩ := h.row_addr (ad := ad) (M := Jo X) ss (by simp; intro e; simp [e] at hlt)
  subst bXe
  refine gC h (zk (zs (zb (zr (zm rfl (zp (.pO (k - 1) (.move rfl)) (zm rfl (zm rfl (zp (.pO (k - 1) (.move rfl)) (zp (.indexAddr rfl rfl (Qr _ _ _ _ _ oo)) (zD rfl mm (by simp; omega) isAgg54 sizeOf54 (Zv 0 oo) (.inr rfl) ?_)))))))))))
  refine zm rfl (zv [_, _, _] rfl call135 (Qgd r (X.getD (k - 1) 0) y (hX.getD _) hy hr) (zm rfl (zp (.eX rfl) (zp (.eX rfl) (zp (.indexAddr rfl rfl (Qr _ _ _ _ _ oo)) (zt' rfl rfl ((Yl Q (0 + (k - 1)) ((r * 4294967296 + X.getD (k - 1) 0) / y)).trans (by rw [Nat.zero_add])) uu sizeOf54 rfl (by simp; omega) rfl ?_))))))
  refine za rfl (zn (zr (zm rfl (zp (Pure1.cast (v' := .int .i64 (((k - 1 : Nat) : Int) - 1)) (.sub rfl rfl) (by show Value.int _ _ = Value.int _ _; congr 1; omega)) (za rfl (zn ?_)))))); intro a w h
  exact ⟨k - 1, ⟨Q.set (k - 1) ((r * 4294967296 + X.getD (k - 1) 0) / y), _, oo, by simpa using hQ, hQw.set _ _ (Zhl hr (hX.getD _)), Nat.mod_lt _ hy0, Zs0 hk hkX hQ hT, h.sub sA⟩, oo⟩
 ·
  skip
  have hk : k = 0 := by simp at hc14; omega
  refine gC h (ze (zS (zm rfl (zm rfl (za rfl (za rfl (zn (zt ?_)))))))); clear h; intro a w h
  subst hk
  simp only [List.drop_zero] at hT
  rw [← hQ] at h
  refine Zqt h (Ql h rfl (.tmp rfl) (.tmp rfl)) ⟨b9, Q, ?_, hQw, hQ, ?_, rfl⟩ (List.Sublist.refl _)
  · rw [hT, Nat.mul_comm, Nat.mul_add_mod, Nat.mod_eq_of_lt hr]
  · rw [hT, Nat.mul_comm, Nat.mul_add_div hy0, Nat.div_eq_of_lt hr, Nat.add_zero]
theorem Zny (ad : Option Addr) (cp : Nat) (X : List Nat) (s : Nat) (hX : Wd X) (hl : X.length ≤ 1000000000000) (hs : s < 32) :
  Zj2 Tryz.prog 210 [.slice ad X.length cp, .int .i64 (s : Int)] [Row ad (Jo X)] (fun v σn => ∃ b Z, v = .slice (some ⟨b, 0, none⟩) Z.length Z.length ∧ Wd Z ∧ Z.length = X.length + 1 ∧ Zr Z = Zr X * 2 ^ s ∧ σn = [(b, .cells (Jo Z).toArray 54 (0, 0))]) := by
 refine fn_introO func210 rfl ntmps210 nb ?_
 intro S w0 a hS h
 refine gC h (zS (za rfl (zn (zS (zm rfl (zp (.builtin [_] rfl (Zk _ _ _)) (zp (.pN (X.length + 1) (.add rfl rfl)) ?_))))))); clear h; intro a w h
 refine Zc (Jz h rfl rfl runUnderlying151 typeInfo54 sizeOf54 zeroValue54 rfl dd (by exact Nat.le_refl _) (by show 4 * _ ≤ _; omega) oo dd ?_); clear h; intro b12 a w h
 rw [show (Value.int .u32 0).cells.toList = [Value.int .u32 0] from rfl, Zb7, show List.replicate (X.length + 1) (Value.int .u32 0) = Jo (List.replicate (X.length + 1) 0) from by simp] at h
 refine gL h (za rfl (zn (zS (za rfl (zn (zs (zS (zm rfl (zp (.builtin [_] rfl (Zk _ _ _)) (zm rfl (zn (zb ?_)))))))))))); clear h; intro a w h
 refine Zi (fun (i : Nat) a w => ∃ Z c, i ≤ X.length ∧ Z.length = X.length + 1 ∧ Wd Z ∧ c < 2 ^ s ∧ (∀ j, i ≤ j → Z.getD j 0 = 0) ∧ Zr Z + 4294967296 ^ i * c = Zr (X.take i) * 2 ^ s ∧ St 41 S w0 [(0, .slice ad X.length cp), (1, .int .i64 (s : Int)), (5, .slice (some ⟨b12, 0, none⟩) (X.length + 1) (X.length + 1)), (6, .int .u32 (c : Int)), (13, .slice ad X.length cp), (14, .int .i64 (X.length : Int)), (15, .int .i64 (i : Int))] [(b12, .cells (Jo Z).toArray 54 (0, 0))] [Row ad (Jo X)] a w) (fun i => X.length - i) (0) (⟨List.replicate (X.length + 1) 0, 0, Nat.zero_le _, by simp, Wd.zeros _, Nat.pow_pos oo, fun j _ => by simp [List.getD, List.getElem?_replicate]; split <;> rfl, by rw [Zdf _ (fun x hx => List.eq_of_mem_replicate hx)]; simp [Zr], h.sub sA⟩) ?_; clear h
 rintro i a w ⟨Z, c, hi, hZl, hZ, hc, hz, hT, h⟩
 refine gC h (zS (zp (.lss rfl rfl) (zn (zs ?_)))); clear h; intro a w h
 refine Zb h rfl (fun hc16 => ?_) (fun hc16 => ?_)
 ·
  skip
  have hi' : i < X.length := by simpa using hc16
  have hlt := hi'
  obtain ⟨bX, bXo, bXe⟩ := h.row_addr (ad := ad) (M := Jo X) ss (by simp; intro e; simp [e] at hlt)
  subst bXe
  have hx := hX.getD i
  have h2 := Zu2 (X.getD i 0) s c hs hc
  have h3 := Zu3 (X.getD i 0) s hs hx
  have h4 := Zqx s hs
  have h5 : X.getD i 0 * 2 ^ s ≤ 4294967295 * 2147483648 := Nat.mul_le_mul oo h4
  refine gC h (zk (zs (zb (zS (zm rfl (zp (.indexAddr rfl rfl (Qr _ _ _ _ _ oo)) (zD rfl mm (by simp; omega) isAgg54 sizeOf54 (Zv 0 oo) (.inr rfl) ?_)))))))
  refine za rfl (za rfl (zn (zS (zm rfl (zm rfl (zm rfl (zm rfl (zp (Pure1.cast (v' := .int .u32 ((X.getD i 0 * 2 ^ s % 4294967296 : Nat) : Int)) (.binOp rfl rfl (fun _ => Zb4 _ _ _ _ s (by show s ≤ 32; omega))) (by rw [Qy]; congr 1)) (zm rfl (zp (Pure1.cast (v' := .int .u32 ((X.getD i 0 * 2 ^ s % 4294967296 + c : Nat) : Int)) (.binOp rfl rfl (fun _ => Zeg rfl _ _ _ _ c (by show _ < 4294967296; omega) (by show _ < 4294967296; omega))) (by rw [shl_or _ s c hs hc])) (zp (.indexAddr rfl rfl (Qr _ _ _ _ _ oo)) (zt' rfl rfl ((Yl Z (0 + i) (X.getD i 0 * 2 ^ s % 4294967296 + c)).trans (by rw [Nat.zero_add])) uu sizeOf54 rfl (by simp; omega) rfl ?_))))))))))))
  refine zn (zr (zm rfl (zp (.convert rfl (Jj _ (wrap_u64 _ oo oo))) (zm rfl (zp (Pure1.cast (v' := .int .u64 ((X.getD i 0 * 2 ^ s : Nat) : Int)) (.binOp rfl rfl (fun _ => Zb4 _ _ _ _ s (by show s ≤ 64; omega))) (by rw [wrap_u64 _ oo oo])) (zp (.binOp rfl rfl (fun _ => Xv _ _ _ _ 32 dd)) (zp (Pure1.cast (v' := .int .u32 ((X.getD i 0 * 2 ^ s / 4294967296 : Nat) : Int)) (.convert rfl (Xi _)) (by rw [wrap_u32 _ oo oo])) (za rfl (zn (zr (zp (.add rfl rfl) (zm rfl (zn ?_))))))))))))); intro a w h
  exact ⟨i + 1, ⟨Z.set i (X.getD i 0 * 2 ^ s % 4294967296 + c), _, oo, by simpa using hZl, hZ.set _ _ h2, h3, fun j hj => by rw [Zew oo]; exact hz j oo, Zs1 hi' hZl (hz i (Nat.le_refl _)) hT, h.sub sA⟩, oo⟩
 ·
  skip
  have hi' : i = X.length := by simp at hc16; omega
  refine gC h (ze (zS (zm rfl (zm rfl (zp (.builtin [_] rfl (Zk _ _ _)) (zm rfl (zp (.indexAddr rfl rfl (Qr _ _ _ _ _ oo)) (zt' rfl rfl ((Yl Z (0 + X.length) c).trans (by rw [Nat.zero_add])) uu sizeOf54 rfl (by simp; omega) rfl ?_))))))))
  refine zn (zS (zm rfl (za rfl (zn (zt ?_))))); intro a w h
  subst hi'
  have hp := Zqx s hs
  rw [show X.length + 1 = (Z.set X.length c).length from by simp [hZl]] at h
  refine Zqt h (Zd h rfl (.tmp rfl)) ⟨b12, Z.set X.length c, rfl, hZ.set _ _ oo, by simpa using hZl, Zu4 hZl (hz _ (Nat.le_refl _)) hT, rfl⟩ (List.Sublist.refl _)
end
section
theorem Qaz (x : Int) (h0 : IntKind.u8.wrap x = x) (w : World) : (Go.convert 54 5 (.int .u32 x)).run Tryz.prog w = .ok (.int .u8 x) w := by
 rw [Zig, h0]
theorem cv_5_3 (x : Int) (w : World) : (Go.convert 5 3 (.int .u8 x)).run Tryz.prog w = .ok (.int .i64 (IntKind.i64.wrap x)) w := by
 simp [go_sem]
theorem Zw8 (x : Int) (h0 : IntKind.i64.wrap x = x) (w : World) : (Go.convert 5 3 (.int .u8 x)).run Tryz.prog w = .ok (.int .i64 x) w := by
 rw [cv_5_3, h0]
theorem Qab : ∀ j, j < 256 → ((⟨#[0, 1, 2, 2, 3, 3, 3, 3, 4, 4, 4, 4, 4, 4, 4, 4, 5, 5, 5, 5, 5, 5, 5, 5, 5, 5, 5, 5, 5, 5, 5, 5, 6, 6, 6, 6, 6, 6, 6, 6, 6, 6, 6, 6, 6, 6, 6, 6, 6, 6, 6, 6, 6, 6, 6, 6, 6, 6, 6, 6, 6, 6, 6, 6, 7, 7, 7, 7, 7, 7, 7, 7, 7, 7, 7, 7, 7, 7, 7, 7, 7, 7, 7, 7, 7, 7, 7, 7, 7, 7, 7, 7, 7, 7, 7, 7, 7, 7, 7, 7, 7, 7, 7, 7, 7, 7, 7, 7, 7, 7, 7, 7, 7, 7, 7, 7, 7, 7, 7, 7, 7, 7, 7, 7, 7, 7, 7, 7, 8, 8, 8, 8, 8, 8, 8, 8, 8, 8, 8, 8, 8, 8, 8, 8, 8, 8, 8, 8, 8, 8, 8, 8, 8, 8, 8, 8, 8, 8, 8, 8, 8, 8, 8, 8, 8, 8, 8, 8, 8, 8, 8, 8, 8, 8, 8, 8, 8, 8, 8, 8, 8, 8, 8, 8, 8, 8, 8, 8, 8, 8, 8, 8, 8, 8, 8, 8, 8, 8, 8, 8, 8, 8, 8, 8, 8, 8, 8, 8, 8, 8, 8, 8, 8, 8, 8, 8, 8, 8, 8, 8, 8, 8, 8, 8, 8, 8, 8, 8, 8, 8, 8, 8, 8, 8, 8, 8, 8, 8, 8, 8, 8, 8, 8, 8, 8, 8, 8, 8, 8, 8, 8, 8, 8, 8, 8, 8]⟩ : ByteArray).data.toList.getD j 0).toNat = Zba j := by decide +kernel
theorem Zys (x : Nat) (hx : x < 4294967296) : Xl Tryz.prog 164 [.int .u32 (x : Int)] (.int .i64 (Zba x : Int)) := by
 refine fn_intro func164 rfl ntmps164 nb ?_
 intro S w0 a hS h
 refine gC h (zS (za rfl (zn ?_))); clear h; intro a w h
 refine cW ?_
 refine Xu (fun a w => ∃ y m : Nat, y < 65536 ∧ m ≤ 16 ∧ m + Zba y = Zba x ∧ St 19 S w0 [(0, .int .u32 (y : Int)), (2, .int .i64 (m : Int))] [] [] a w) ?_ ?_
 ·
  skip
  refine gC h (zS (zm rfl (zp (.geq rfl rfl) (zn ?_)))); clear h; intro a w h
  refine cW ?_
  refine Zb h rfl (fun hc4 => ?_) (fun hc4 => ?_)
  ·
   skip
   have h4 : 65536 ≤ x := dT hc4
   refine gC h (zS (zm rfl (zp (.binOp rfl rfl (fun _ => Xv _ _ _ x 16 dd)) (za rfl (zn (zr (za rfl (zn ?_)))))))); clear h; intro a w h
   exact ⟨x / 2 ^ 16, 16, oo, by omega, by rw [Nat.add_comm]; exact Zfy (k := 16) oo, h.sub sA⟩
  ·
   skip
   have h4 : x < 65536 := dF hc4
   refine wp_skip ?_
   exact ⟨x, 0, h4, oo, Nat.zero_add _, h.sub sA⟩
 ·
  clear h
  rintro a w ⟨y, m, hy, hm, hl, h⟩
  refine Xu (fun a w => ∃ y m : Nat, y < 256 ∧ m ≤ 24 ∧ m + Zba y = Zba x ∧ St 19 S w0 [(0, .int .u32 (y : Int)), (2, .int .i64 (m : Int))] [] [] a w) ?_ ?_
  ·
   skip
   refine gC h (zS (zm rfl (zp (.geq rfl rfl) (zn ?_)))); clear h; intro a w h
   refine cW ?_
   refine Zb h rfl (fun hc8 => ?_) (fun hc8 => ?_)
   ·
    skip
    have h7 : 256 ≤ y := dT hc8
    refine gC h (zS (zm rfl (zp (.binOp rfl rfl (fun _ => Xv _ _ _ y 8 dd)) (za rfl (zn (zr (zm rfl (zp (.pN (m + 8) (.add rfl rfl)) (za rfl (zn ?_)))))))))); clear h; intro a w h
    exact ⟨y / 2 ^ 8, m + 8, oo, by omega, by rw [← hl, Nat.add_assoc, Nat.add_comm 8]; congr 1; exact Zfy (k := 8) oo, h.sub sA⟩
   ·
    skip
    have h7 : y < 256 := dF hc8
    refine wp_skip ?_
    exact ⟨y, m, h7, oo, hl, h.sub sA⟩
  ·
   clear h
   rintro a w ⟨z, o, hz, ho, hl2, h⟩
   refine gC h (zS (zm rfl (zm rfl ?_)))
   have hle : Zba z ≤ 8 := Zbr hz
   refine zp (.convert rfl (Qaz _ (wrap_u8 _ oo oo))) (zp (Pure1.cast (v' := .int .u8 (Zba z : Int)) (.index rfl rfl (fun _ => Zu runUnderlying9 _ _ (by show z < 256; exact hz))) (by exact congrArg (fun n : Nat => Value.int .u8 (n : Int)) (Qab z hz))) (zp (.convert rfl (Zw8 _ (wrap_i64 _ oo oo))) (zp (Pure1.cast (v' := .int .i64 (Zba x : Int)) (.add rfl rfl) (by show Value.int _ _ = Value.int _ _; congr 1; omega)) (za rfl (zn (zt ?_)))))); intro a w h
   exact Zeh h
theorem Zgn (x : Nat) (hx : x < 4294967296) : Xl Tryz.prog 209 [.int .u32 (x : Int)] (.int .i64 ((32 - Zba x : Nat) : Int)) := by
 refine fn_intro func209 rfl ntmps209 nb ?_
 intro S w0 a hS h
 refine gC h (zS (za rfl (zn (zS ?_))))
 have hle : Zba x ≤ 32 := Zbr (k := 32) hx
 refine zm rfl (zv [_] rfl call164 (Zys x hx) (zp (.pO (32 - Zba x) (.sub rfl rfl)) (za rfl (zn (zt ?_))))); intro a w h
 exact Zeh h
theorem C_half (b cp : Nat) (O : List Nat) (hO : Wd O) (hl : O.length ≤ 1099511627776) (σr : List (Nat × Obj)) (Φ : List Zp) :
  Znv Tryz.prog 212 [.slice (some ⟨b, 0, none⟩) O.length cp] ((b, .cells (Jo O).toArray 54 (0, 0)) :: σr) Φ
   (fun _ σ' Φ' => ∃ Z, Wd Z ∧ Z.length = O.length ∧ Zr Z = Zr O / 2 ∧ σ' = (b, .cells (Jo Z).toArray 54 (0, 0)) :: σr ∧ Φ' = Φ) := by
 refine fn_introM func212 rfl ntmps212 nb ?_
 intro S w0 a w hS h
 refine gC h (zS (zm rfl (zp (.builtin [_] rfl (Zk _ _ _)) (zm rfl (zn (zb ?_)))))); clear h; intro a w h
 refine Zi (fun (i : Nat) a w => ∃ Z, i ≤ O.length ∧ Z.length = O.length ∧ Wd Z ∧ Z.drop i = O.drop i ∧ 2 * Zr (Z.take i) + O.getD 0 0 % 2 = Zr (O.take i) + 4294967296 ^ i * (O.getD i 0 % 2) ∧ St 32 S w0 [(0, .slice (some ⟨b, 0, none⟩) O.length cp), (3, .slice (some ⟨b, 0, none⟩) O.length cp), (4, .int .i64 (O.length : Int)), (5, .int .i64 (i : Int))] ((b, .cells (Jo Z).toArray 54 (0, 0)) :: σr) Φ a w) (fun i => O.length - i) (0) (⟨O, Nat.zero_le _, rfl, hO, rfl, by simp [Zr], h.sub sA⟩) ?_; clear h
 rintro i a w ⟨Z, hi, hZl, hZ, hd, hT, h⟩
 refine gC h (zS (zp (.lss rfl rfl) (zn (zs ?_)))); clear h; intro a w h
 refine Zb h rfl (fun hc6 => ?_) (fun hc6 => ?_)
 ·
  skip
  have hi' : i < O.length := by simpa using hc6
  have hzi := Zc3 hd (Nat.le_refl i)
  have hzi1 := Zc3 hd (Nat.le_succ i)
  have hxi := hO.getD i
  have hxj := hO.getD (i + 1)
  refine wp_skip ?_
  refine cW ?_
  refine Xu (fun a w => St 32 S w0 [(0, .slice (some ⟨b, 0, none⟩) O.length cp), (3, .slice (some ⟨b, 0, none⟩) O.length cp), (4, .int .i64 (O.length : Int)), (5, .int .i64 (i : Int))] ((b, .cells (Jo (Z.set i (O.getD i 0 / 2 + 2147483648 * (O.getD (i + 1) 0 % 2)))).toArray 54 (0, 0)) :: σr) Φ a w) ?_ ?_
  ·
   skip
   refine gC h (zb (zS (zm rfl (za rfl (zn (zS (zm rfl (zm rfl (zp (.indexAddr rfl rfl (Qr _ _ _ _ _ oo)) (zd rfl mm isAgg54 sizeOf54 ((Zv 0 (by rw [Nat.zero_add]; omega)).trans (by rw [Nat.zero_add, hzi])) ?_))))))))))
   refine zp (.binOp rfl rfl (fun _ => Xv _ _ _ _ 1 dd)) (zp (.indexAddr rfl rfl (Qr _ _ _ _ _ oo)) (zt' rfl rfl ((Yl Z (0 + i) (O.getD i 0 / 2 ^ 1)).trans (by rw [Nat.zero_add])) uu sizeOf54 rfl (by simp; omega) rfl ?_))
   refine zn (zS (zm rfl (zp (.pN (i + 1) (.add rfl rfl)) (zm rfl (zp (.builtin [_] rfl (Zk _ _ _)) (zp (.lss rfl rfl) (zn ?_))))))); intro a w h
   refine cW ?_
   refine Zb h rfl (fun hc18 => ?_) (fun hc18 => ?_)
   ·
    skip
    have hlt2 : i + 1 < O.length := dT hc18
    refine gC h (yD Za [0, 1, 2, 3, 4, 5, 6, 7, 8, 9, 10, 11, 12] (Zf kk) (ym rfl rfl (ym rfl rfl (yp rfl (.indexAddr rfl rfl (Qr _ _ _ _ _ oo)) (yd rfl rfl mm isAgg54 sizeOf54 ((Zv 0 (by rw [Nat.zero_add, List.length_set]; omega)).trans (by rw [Nat.zero_add, Zk1 oo])) ?_))))); clear h
    refine ym rfl rfl (ym rfl rfl (yp rfl (.pN (i + 1) (.add rfl rfl)) (yp rfl (.indexAddr rfl rfl (Qr _ _ _ _ _ oo)) (yd rfl rfl mm isAgg54 sizeOf54 ((Zv 0 (by rw [Nat.zero_add, List.length_set]; omega)).trans (by rw [Nat.zero_add, Zew oo, hzi1])) ?_))))
    refine yp rfl (Pure1.cast (v' := .int .u32 ((O.getD (i + 1) 0 * 2 ^ 31 % 4294967296 : Nat) : Int)) (.binOp rfl rfl (fun _ => Zb4 _ _ _ _ 31 dd)) (by rw [Qy]; congr 1)) (yp rfl (Pure1.cast (v' := .int .u32 ((O.getD i 0 / 2 + 2147483648 * (O.getD (i + 1) 0 % 2) : Nat) : Int)) (.binOp rfl rfl (fun _ => Zeg rfl _ _ _ _ _ (by show _ < 4294967296; omega) (by show _ < 4294967296; omega))) (by rw [Zwt _ _ hxi])) (yp rfl (.indexAddr rfl rfl (Qr _ _ _ _ _ oo)) (yt rfl rfl rfl ((Yl (Z.set i (O.getD i 0 / 2 ^ 1)) (0 + i) (O.getD i 0 / 2 + 2147483648 * (O.getD (i + 1) 0 % 2))).trans (by rw [Nat.zero_add, List.set_set])) uu sizeOf54 rfl (by simp; omega) rfl ?_)))
    refine yn ?_; intro a w h
    exact h.sub sA
   ·
    skip
    have hlt2 : O.length ≤ i + 1 := dF hc18
    refine wp_skip ?_
    rw [Km hlt2, show O.getD i 0 / 2 + 2147483648 * (0 % 2) = O.getD i 0 / 2 ^ 1 from rfl]
    exact h.sub sA
  ·
   clear h
   intro a w h
   refine gC h (zr (zp (.add rfl rfl) (zm rfl (zn ?_)))); clear h; intro a w h
   exact ⟨i + 1, ⟨Z.set i (O.getD i 0 / 2 + 2147483648 * (O.getD (i + 1) 0 % 2)), oo, by simpa using hZl, hZ.set _ _ oo, Ze0 hd, Zwu hi' hZl hd hT, h.sub sA⟩, oo⟩
 ·
  skip
  have hi' : i = O.length := by simp at hc6; omega
  refine wp_exit ?_
  subst hi'
  refine endM h (Zb6 rfl) ⟨Z, hZ, hZl, Qai oo hZl hT, rfl, rfl⟩ (List.Sublist.refl _) (fun _ h => h)
theorem C_less (b cu : Nat) (p W0 hh : List Nat) (ad : Option Addr) (cv : Nat) (V : List Nat) (dg : Nat) (hW0 : Wd W0) (hV : Wd V) (hl : V.length ≤ 1000000000000) (hWl0 : W0.length = V.length + 1) (hdg : dg < 4294967296)
  (hp : p.length ≤ 1000000000000) (σr : List (Nat × Obj)) (Φ : List Zp) (hΦ : Row ad (Jo V) ∈ Φ) :
  Znv Tryz.prog 211 [.slice (some ⟨b, p.length, none⟩) (V.length + 1) cu, .slice ad V.length cv, .int .u64 (dg : Int)] ((b, .cells (Jo (p ++ W0 ++ hh)).toArray 54 (0, 0)) :: σr) Φ
   (fun v σ' Φ' => ∃ (W : List Nat) (l : Nat), l ≤ 1 ∧ v = .bool (decide ((l : Int) > 0)) ∧ Wd W ∧ W.length = V.length + 1 ∧ Zr W + dg * Zr V = Zr W0 + 4294967296 ^ (V.length + 1) * l ∧
    σ' = (b, .cells (Jo (p ++ W ++ hh)).toArray 54 (0, 0)) :: σr ∧ Φ' = Φ) := by
 refine fn_introM func211 rfl ntmps211 nb ?_
 intro S w0 a w hS h
 refine gC h (zS (za rfl (zn (zS (za rfl (za rfl (zn (zs (zS (zm rfl (zp (.builtin [_] rfl (Zk _ _ _)) (zm rfl (zn (zb ?_)))))))))))))); clear h; intro a w h
 refine Zi (fun (i : Nat) a w => ∃ (W : List Nat) (c g : Nat), i ≤ V.length ∧ W.length = V.length + 1 ∧ Wd W ∧ c < 4294967296 ∧ g ≤ 1 ∧ Zr W + dg * Zr (V.take i) = Zr W0 + 4294967296 ^ i * (c + g) ∧ St 60 S w0 [(0, .slice (some ⟨b, p.length, none⟩) (V.length + 1) cu), (1, .slice ad V.length cv), (2, .int .u64 (dg : Int)), (7, .int .u64 (c : Int)), (8, .int .u32 (g : Int)), (12, .slice ad V.length cv), (13, .int .i64 (V.length : Int)), (14, .int .i64 (i : Int))] ((b, .cells (Jo (p ++ W ++ hh)).toArray 54 (0, 0)) :: σr) Φ a w) (fun i => V.length - i) (0) (⟨W0, 0, 0, Nat.zero_le _, hWl0, hW0, by decide, by decide, by simp [Zr], h.sub sA⟩) ?_; clear h
 rintro i a w ⟨W, c, g, hi, hWl, hW, hc, hg, hT, h⟩
 refine gC h (zS (zp (.lss rfl rfl) (zn (zs ?_)))); clear h; intro a w h
 refine Zb h rfl (fun hc15 => ?_) (fun hc15 => ?_)
 ·
  skip
  have hi' : i < V.length := by simpa using hc15
  obtain ⟨bV, oV, rfl⟩ := h.row_addr hΦ (by simp; intro e; simp [e] at hi')
  have hwi := hV.getD i
  obtain ⟨hc1, hc2⟩ := Ztd hc hdg hwi
  have hm := Nat.mod_lt (c + dg * V.getD i 0) (show 0 < 4294967296 by decide)
  refine gC h (zk (zs (zb (zS (zm rfl (zp (.indexAddr rfl rfl (Qr _ _ _ _ _ oo)) (zD rfl hΦ (by simp; omega) isAgg54 sizeOf54 (Zv 0 oo) (.inr rfl) ?_)))))))
  refine za rfl (za rfl (zn (zS (zm rfl (zm rfl (zm rfl (zp (.convert rfl (Jj _ (wrap_u64 _ oo oo))) (zp (Pure1.cast (v' := .int .u64 ((dg * V.getD i 0 : Nat) : Int)) (.binOp rfl rfl (fun _ => Zb5 _ _ _ _ _)) (by rw [Kt oo])) (zp (Pure1.cast (v' := .int .u64 ((c + dg * V.getD i 0 : Nat) : Int)) (.binOp rfl rfl (fun _ => Za8 _ _ _ _ _)) (by rw [Vs hc1])) (za rfl (zn (zS (zm rfl (zm rfl (zm rfl (zm rfl (zp (.indexAddr rfl rfl (Qr _ _ _ _ _ oo)) (zd rfl mm isAgg54 sizeOf54 ((Zv 0 (by simp; omega)).trans (by rw [Zcc _ _ _ _ oo])) ?_))))))))))))))))))
  refine zm rfl (zp (Pure1.cast (v' := .int .u32 (((c + dg * V.getD i 0) % 4294967296 : Nat) : Int)) (.convert rfl (Xi _)) (by rw [Qy]; congr 1)) (zm rfl (zv [_, _, _] rfl call171 (Zpw _ _ _ (hW.getD i) hm hg) (zm rfl (zp (.eX rfl) (zp (.eX rfl) (zp (.indexAddr rfl rfl (Qr _ _ _ _ _ oo)) (zt' rfl rfl ((Yl (p ++ W ++ hh) (p.length + i) ((W.getD i 0 + 8589934592 - (c + dg * V.getD i 0) % 4294967296 - g) % 4294967296)).trans (by rw [set_mid _ _ _ _ _ oo])) uu sizeOf54 rfl (by simp; omega) rfl ?_))))))))
  refine za rfl (zn (zr (zm rfl (zp (Pure1.cast (v' := .int .u64 (((c + dg * V.getD i 0) / 4294967296 : Nat) : Int)) (.binOp rfl rfl (fun _ => Xv _ _ _ _ 32 dd)) (by rfl)) (za rfl (zn (zr (zp (.add rfl rfl) (zm rfl (zn ?_)))))))))); intro a w h
  exact ⟨i + 1, ⟨W.set i ((W.getD i 0 + 8589934592 - (c + dg * V.getD i 0) % 4294967296 - g) % 4294967296), _, _, oo, by simpa using hWl, hW.set _ _ (Nat.mod_lt _ dd), hc2, by split <;> omega, Zwe hi' oo hT (Zuy _ _ _ (hW.getD i) hm hg), h.sub sA⟩, oo⟩
 ·
  skip
  have hi' : i = V.length := by simp at hc15; omega
  refine gC h (ze (zS (zm rfl (zp (.builtin [_] rfl (Zk _ _ _)) (za rfl (zn (zS (zm rfl (zm rfl (zm rfl (zm rfl (zp (.indexAddr rfl rfl (Qr _ _ _ _ _ oo)) (zd rfl mm isAgg54 sizeOf54 ((Zv 0 (by simp; omega)).trans (by rw [Zcc _ _ _ _ oo])) ?_)))))))))))))
  refine zm rfl (zp (Pure1.cast (v' := .int .u32 (c : Int)) (.convert rfl (Xi _)) (by rw [Zec hc])) (zm rfl (zv [_, _, _] rfl call171 (Zpw _ _ _ (hW.getD V.length) hc hg) (zm rfl (zp (.eX rfl) (zp (.eX rfl) (zp (.indexAddr rfl rfl (Qr _ _ _ _ _ oo)) (zt' rfl rfl ((Yl (p ++ W ++ hh) (p.length + V.length) ((W.getD V.length 0 + 8589934592 - c - g) % 4294967296)).trans (by rw [set_mid _ _ _ _ _ oo])) uu sizeOf54 rfl (by simp; omega) rfl ?_))))))))
  refine za rfl (zn (zS (zm rfl (zp (.gtr rfl rfl) (za rfl (zn (zt ?_))))))); intro a w h
  subst hi'
  refine Qdu h (Zd h rfl (.tmp rfl)) ⟨W.set V.length ((W.getD V.length 0 + 8589934592 - c - g) % 4294967296), _, ?_, rfl, hW.set _ _ (Nat.mod_lt _ dd), by simpa using hWl, Zz8 oo hT (Zuy _ _ _ (hW.getD _) hc hg), rfl, rfl⟩ (List.Sublist.refl _) (fun _ h => h)
  split <;> omega
end
section
theorem Qdi (b off n c lo hi : Nat) (h1 : lo ≤ hi) (h2 : hi ≤ c) (h3 : lo < c) (w : World) : (Instr.sliceAt 151 (.slice (some ⟨b, off, none⟩) n c) (some (.int .i64 (lo : Int))) (some (.int .i64 (hi : Int))) none).run Tryz.prog w = .ok (.slice (some ⟨b, off + lo, none⟩) (hi - lo) (c - lo)) w := by
 simpa using Zsy runUnderlying151 sizeOf54 b off n c lo hi h1 h2 h3 w
theorem C_long (ax : Option Addr) (cx : Nat) (X : List Nat) (ay : Option Addr) (cy : Nat) (Y : List Nat) (hX : Wd X) (hY : Wd Y) (hm : X.length ≤ 500000000000) (hY2 : 2 ≤ Y.length) (hYX : Y.length ≤ X.length) (hlast : Y.getD (Y.length - 1) 0 ≠ 0) :
  Ctr Tryz.prog 170 [.slice ax X.length cx, .slice ay Y.length cy] [Row ax (Jo X), Row ay (Jo Y)]
   (fun v Ψ => ∃ a1 c1 a2 c2 Q R, v = .tuple #[.slice a1 Q.length c1, .slice a2 R.length c2] ∧ Wd Q ∧ Wd R ∧ Q.length ≤ c1 ∧ R.length ≤ c2 ∧ Q.length ≤ X.length + 1 ∧ R.length ≤ X.length + 1 ∧ Zr Q = Zr X / Zr Y ∧ Zr R = Zr X % Zr Y ∧ Ψ = [Row a1 (Jo Q), Row a2 (Jo R)]) := by
 obtain ⟨e, he⟩ : ∃ e, Y.length = e + 2 := ⟨Y.length - 2, oo⟩
 rw [show Y.length - 1 = e + 1 by omega] at hlast
 refine fn_intro func170 rfl ntmps170 nb ?_
 intro S w0 a hS h
 refine gC h (zS (za rfl (za rfl (zn (zS ?_))))); clear h; intro a w h
 have hlt : 0 < Y.length := oo
 obtain ⟨bY, bYo, bYe⟩ := h.row_addr (ad := ay) (M := Jo Y) ss (by simp; intro e; simp [e] at hlt)
 subst bYe
 refine gL h (zm rfl (zm rfl (zp (.builtin [_] rfl (Zk _ _ _)) (zp (.pQ (e + 1) (.sub rfl rfl)) (zp (.indexAddr rfl rfl (Qr _ _ _ _ _ oo)) (zD rfl mm (by simp; omega) isAgg54 sizeOf54 (Zv 0 oo) (.inr rfl) ?_))))))
 refine zv [_] rfl call209 (Zgn _ (hY.getD _)) ?_; intro a w h
 obtain ⟨hs, hn1, hn2⟩ := Zwb (last := Y.getD (e + 1) 0) hlast (hY.getD _) rfl
 generalize 32 - Zba (Y.getD (e + 1) 0) = s at h hs hn1 hn2
 refine gL h (za rfl (zn (zs (yD Za [0, 1, 3, 4, 6, 7, 2, 5, 8, 9, 10] (Zf kk) (ym rfl rfl (ym rfl rfl (ym rfl rfl (ym rfl rfl (ym rfl rfl (yp rfl (.builtin [_] rfl (Zk _ _ _)) ?_)))))))))); clear h
 refine Zbt rfl kk (vs := [_, _]) rfl call210 (Zny ax cx X s hX oo hs) ss dd ?_; rintro v26 σ26 ⟨b26, Z0, rfl, hZ0, hZ0l, hZ0v, rfl⟩
 refine Zbt rfl kk (vs := [_, _]) rfl call210 (Zny _ cy Y s hY oo hs) ss dd ?_; rintro v29 σ29 ⟨b29, V0, rfl, hV0, hV0l, hV0v, rfl⟩
 refine yp rfl (.slice rfl none (some _) none rfl rfl rfl (Zu0 _ _ _ _ oo)) (yp rfl (.assign rfl) (yp rfl (.assign rfl) (yn (zS ?_)))); intro a w h
 replace h := h.shareAll hS (Jo V0) rfl
 replace h := h.derive (R := Row (some ⟨b29, 0, none⟩) (Jo (V0.take Y.length))) (fun X hX => by rw [Jo, List.map_take]; exact Zgs (hX _ List.mem_cons_self) _)
 obtain ⟨hVv, hv1⟩ := Zmq hY he hs hn1 hn2 hV0 hV0v
 have hVl : (V0.take Y.length).length = Y.length := by simp; omega
 have hV : Wd (V0.take Y.length) := hV0.take _
 generalize hVd : V0.take Y.length = V at h hVv hv1 hVl hV
 rw [← hVl] at h
 have hVe : V.length = e + 2 := oo
 have hYge : 4294967296 ^ (V.length - 1) ≤ Zr Y := by
  have h1 := Jb Y (e + 1) oo
  rw [show e + 1 + 1 = Y.length by omega, List.take_length] at h1
  rw [show V.length - 1 = e + 1 by omega, h1]
  have := Nat.mul_le_mul_left (4294967296 ^ (e + 1)) (Nat.pos_of_ne_zero hlast)
  omega
 obtain ⟨M, hM⟩ : ∃ M, Z0.length = M + V.length := ⟨Z0.length - V.length, oo⟩
 refine gL h (zm rfl (zp (Pure1.cast (v' := .int .i64 (V.length : Int)) (.builtin [_] rfl (Zk _ _ _)) (by rfl)) (za rfl (zn (zS (zm rfl (zp (.builtin [_] rfl (Zk _ _ _)) (zm rfl (zp (.pQ M (.sub rfl rfl)) ?_))))))))); clear h; intro a w h
 refine Zc (Jz h rfl rfl runUnderlying151 typeInfo54 sizeOf54 zeroValue54 rfl dd (by exact Nat.le_refl _) (by show 4 * _ ≤ _; omega) oo dd ?_); clear h; intro b39 a w h
 rw [show (Value.int .u32 0).cells.toList = [Value.int .u32 0] from rfl, Zb7, show List.replicate M (Value.int .u32 0) = Jo (List.replicate M 0) from by simp] at h
 refine gL h (za rfl (zn (zs (zS (zm rfl (zp (.builtin [_] rfl (Zk _ _ _)) (zp (.sub rfl rfl) (za rfl (zn (zb ?_)))))))))); clear h; intro a w h
 refine Zi (fun (κ : Nat) a w => ∃ (Z Q : List Nat), κ ≤ M ∧ Z.length = Z0.length ∧ Wd Z ∧ Q.length = M ∧ Wd Q ∧ Zr Z + 4294967296 ^ κ * (Zr V * Zr (Q.drop κ)) = Zr Z0 ∧ Zr (Z.drop κ) < Zr V ∧ St 175 S w0 [(4, .slice (some ⟨b39, 0, none⟩) M M), (6, .int .i64 (s : Int)), (7, .slice (some ⟨b26, 0, none⟩) Z0.length Z0.length), (8, .slice (some ⟨b29, 0, none⟩) V.length V0.length), (9, .int .i64 (V.length : Int)), (10, .int .i64 ((κ : Int) - 1))] [(b26, .cells (Jo Z).toArray 54 (0, 0)), (b39, .cells (Jo Q).toArray 54 (0, 0))] [Row (some ⟨b29, 0, none⟩) (Jo V)] a w) (fun κ => κ) (M) (⟨Z0, List.replicate M 0, Nat.le_refl _, rfl, hZ0, by simp, Wd.zeros _, by simp [Zr], by rw [hVv]; exact Ztb hX hZ0v hYge oo oo, ((h.perm (List.Perm.swap _ _ _)).factsSub (by simp)).sub (Zfn ⟨rfl, rfl, rfl, rfl, rfl, rfl, trivial⟩)⟩) ?_; clear h
 rintro κ a w ⟨Z, Q, hκ, hZl, hZ, hQl, hQ, hT, hR, h⟩
 refine gC h (zs (zS (zm rfl (zp (.geq rfl rfl) (zn ?_))))); clear h; intro a w h
 refine cW ?_
 refine Zb h rfl (fun hc44 => ?_) (fun hc44 => ?_)
 ·
  skip
  have hκ0 : 0 < κ := by simp at hc44; omega
  obtain ⟨p, W, hh, rfl, hp, hWl, hpw, hWw, hhw, hh0, hUlt⟩ := Zo4 (k := κ - 1) (n := V.length) hZ oo (Yb hV) (by rw [Nat.sub_add_cancel hκ0]; exact hR)
  obtain rfl : κ = p.length + 1 := oo
  have hU3 := Zui (l := W) (e := e) oo
  have hV2 := Zls (l := V) (e := e) oo
  have hlu := Yq hWw e
  have hlv := Yq hV e
  have hw2 := hWw.getD (e + 2)
  have hw1 := hWw.getD (e + 1)
  have hw0 := hWw.getD e
  have hvv1 := hV.getD (e + 1)
  have hvv2 := hV.getD e
  refine gC h (zk (zs (zb (zc (zs (yD Za [0, 1, 2, 3, 4, 5, 6, 7, 8, 9, 10, 11, 12, 13, 14, 15, 16, 17] (Zf kk) (ym rfl rfl (yp rfl (.pQ p.length (.move rfl)) (ym rfl rfl (yp rfl (.pQ (p.length + (e + 2)) (.add rfl rfl)) (yp rfl (.indexAddr rfl rfl (Qr _ _ _ _ _ oo)) (yd rfl rfl mm isAgg54 sizeOf54 ((Zv 0 (by simp; omega)).trans (by rw [Nat.zero_add, Zcc _ _ _ _ oo])) ?_)))))))))))); clear h
  refine yp rfl (.convert rfl (Jj _ (wrap_u64 _ oo oo))) (yp rfl (Pure1.cast (v' := .int .u64 ((W.getD (e + 2) 0 * 4294967296 : Nat) : Int)) (.binOp rfl rfl (fun _ => Zb4 _ _ _ _ 32 dd)) (by rw [wrap_u64 _ oo oo])) (ym rfl rfl (yp rfl (.pQ p.length (.move rfl)) (ym rfl rfl (yp rfl (.pQ (p.length + (e + 2)) (.add rfl rfl)) (yp rfl (.pQ (p.length + (e + 1)) (.sub rfl rfl)) (yp rfl (.indexAddr rfl rfl (Qr _ _ _ _ _ oo)) (yd rfl rfl mm isAgg54 sizeOf54 ((Zv 0 (by simp; omega)).trans (by rw [Nat.zero_add, Zcc _ _ _ _ oo])) ?_))))))))
  refine yp rfl (.convert rfl (Jj _ (wrap_u64 _ oo oo))) (yp rfl (Pure1.cast (v' := .int .u64 ((4294967296 * W.getD (e + 2) 0 + W.getD (e + 1) 0 : Nat) : Int)) (.binOp rfl rfl (fun _ => Zeg rfl _ _ _ _ _ (by show _ < 18446744073709551616; omega) (by show _ < 18446744073709551616; omega))) (by rw [or_hi _ _ hw1])) (yp rfl (.assign rfl) ?_))
  have htl : 4294967296 * W.getD (e + 2) 0 + W.getD (e + 1) 0 < 18446744073709551616 := oo
  have htop := top_lt hU3 hV2 hvv2 hlv hUlt
  generalize hTop : 4294967296 * W.getD (e + 2) 0 + W.getD (e + 1) 0 = top at hU3 htl htop ⊢
  refine yn (zs (yD Za [0, 1, 2, 3, 4, 5, 6, 7, 8, 9, 10, 11, 12, 13, 14, 15, 16, 17] (Zf kk) (ym rfl rfl (ym rfl rfl (ym rfl rfl (yp rfl (.pQ (e + 1) (.sub rfl rfl)) (yp rfl (.indexAddr rfl rfl (Qr _ _ _ _ _ oo)) ?_)))))))
  refine Qa rfl kk rfl mm (by simp; omega) isAgg54 sizeOf54 (Zv 0 oo) (.inr rfl) dd ?_
  refine yp rfl (.convert rfl (Jj _ (wrap_u64 _ oo oo))) (yp rfl (Pure1.cast (v' := .int .u64 ((top / V.getD (e + 1) 0 : Nat) : Int)) (.binOp rfl rfl (fun _ => Vl _ _ _ _ _ oo)) (by rw [Yc, Zcq (Nat.lt_of_le_of_lt (Nat.div_le_self _ _) htl)])) (ym rfl rfl (ym rfl rfl (ym rfl rfl (yp rfl (.pQ (e + 1) (.sub rfl rfl)) (yp rfl (.indexAddr rfl rfl (Qr _ _ _ _ _ oo)) ?_))))))
  refine Qa rfl kk rfl mm (by simp; omega) isAgg54 sizeOf54 (Zv 0 oo) (.inr rfl) dd ?_
  refine yp rfl (.convert rfl (Jj _ (wrap_u64 _ oo oo))) (yp rfl (Pure1.cast (v' := .int .u64 ((top % V.getD (e + 1) 0 : Nat) : Int)) (.binOp rfl rfl (fun _ => Zai _ _ _ _ _ oo)) (by rw [Kd])) (yp rfl (.assign rfl) (yp rfl (.assign rfl) (yn (zs (zl ?_)))))); intro a w h
  refine cW ?_
  refine Xu (fun a w => ∃ dg : Nat, dg < 4294967296 ∧ dg * Zr V ≤ Zr W + Zr V ∧ Zr W < (dg + 1) * Zr V ∧ St 175 S w0 [(4, .slice (some ⟨b39, 0, none⟩) M M), (6, .int .i64 (s : Int)), (7, .slice (some ⟨b26, 0, none⟩) Z0.length Z0.length), (8, .slice (some ⟨b29, 0, none⟩) V.length V0.length), (9, .int .i64 (V.length : Int)), (10, .int .i64 (((p.length + 1 : Nat) : Int) - 1)), (12, .int .u64 (dg : Int))] [(b26, .cells (Jo (p ++ W ++ hh)).toArray 54 (0, 0)), (b39, .cells (Jo Q).toArray 54 (0, 0))] [Row (some ⟨b29, 0, none⟩) (Jo V)] a w) ?_ ?_
  ·
   skip
   refine wp_block ?_
   refine Zi (fun (dg : Nat) a w => ∃ rest : Nat, dg * V.getD (e + 1) 0 + rest = top ∧ Zr W < (dg + 1) * Zr V ∧ rest < 8589934592 ∧ St 175 S w0 [(4, .slice (some ⟨b39, 0, none⟩) M M), (6, .int .i64 (s : Int)), (7, .slice (some ⟨b26, 0, none⟩) Z0.length Z0.length), (8, .slice (some ⟨b29, 0, none⟩) V.length V0.length), (9, .int .i64 (V.length : Int)), (10, .int .i64 (((p.length + 1 : Nat) : Int) - 1)), (12, .int .u64 (dg : Int)), (13, .int .u64 (rest : Int))] [(b26, .cells (Jo (p ++ W ++ hh)).toArray 54 (0, 0)), (b39, .cells (Jo Q).toArray 54 (0, 0))] [Row (some ⟨b29, 0, none⟩) (Jo V)] a w) (fun dg => dg) (top / V.getD (e + 1) 0) (⟨top % V.getD (e + 1) 0, by rw [Nat.mul_comm]; exact Nat.div_add_mod _ _, Ztp hU3 hV2 hw0 hlu oo, Nat.lt_trans (Nat.mod_lt _ oo) oo, h.sub sA⟩) ?_; clear h
   rintro dg a w ⟨rest, hIg, hUd, hrest, h⟩
   have hdgle := Qas hIg htop hv1
   refine gC h (zs (zS (zm rfl (zp (.leq rfl rfl) (zn ?_))))); clear h; intro a w h
   refine cW ?_
   refine Zb h rfl (fun hc81 => ?_) (fun hc81 => ?_)
   ·
    skip
    have hr : rest < 4294967296 := dT hc81
    refine gC h (zk (zb (zs (zs (yD Za [0, 1, 2, 3, 4, 5, 6, 7, 8, 9, 10, 11, 12, 13, 14, 15, 16, 17, 18, 19, 20, 21, 22, 23] (Zf kk) (ym rfl rfl (yp rfl (.leq rfl rfl) (ym rfl rfl ?_)))))))); clear h
    refine Xs (fun hc84  => ?_) (fun hc84  => ?_)
    focus
     have hdg : dg < 4294967296 := dT hc84
     have hmul := Ga hdg hvv2
     refine yq rfl rfl rfl (.move rfl) (yq rfl rfl rfl (.move rfl) (yq rfl rfl rfl (.move rfl) (yq rfl rfl rfl (.pQ e (.sub rfl rfl)) (yq rfl rfl rfl (.indexAddr rfl rfl (Qr _ _ _ _ _ oo)) ?_))))
     refine Zev rfl rfl rfl kk rfl mm (by simp; omega) isAgg54 sizeOf54 (Zv 0 oo) (.inr rfl) dd ?_
     refine yq rfl rfl rfl (.convert rfl (Jj _ (wrap_u64 _ oo oo))) (yq rfl rfl rfl (Pure1.cast (v' := .int .u64 ((dg * V.getD e 0 : Nat) : Int)) (.binOp rfl rfl (fun _ => Zb5 _ _ _ _ _)) (by rw [Kt oo])) (yq rfl rfl rfl (.move rfl) (yq rfl rfl rfl (Pure1.cast (v' := .int .u64 ((rest * 4294967296 : Nat) : Int)) (.binOp rfl rfl (fun _ => Zb4 _ _ _ _ 32 dd)) (by rw [wrap_u64 _ oo oo])) (yq rfl rfl rfl (.move rfl) (yq rfl rfl rfl (.pQ p.length (.move rfl)) (yq rfl rfl rfl (.move rfl) (yq rfl rfl rfl (.pQ (p.length + (e + 2)) (.add rfl rfl)) (yq rfl rfl rfl (.pQ (p.length + e) (.sub rfl rfl)) (yq rfl rfl rfl (.indexAddr rfl rfl (Qr _ _ _ _ _ oo)) (yg rfl rfl rfl rfl mm isAgg54 sizeOf54 ((Zv 0 (by simp; omega)).trans (by rw [Nat.zero_add, Zcc _ _ _ _ oo])) ?_))))))))))
     refine yq rfl rfl rfl (.convert rfl (Jj _ (wrap_u64 _ oo oo))) (yq rfl rfl rfl (Pure1.cast (v' := .int .u64 ((4294967296 * rest + W.getD e 0 : Nat) : Int)) (.binOp rfl rfl (fun _ => Zeg rfl _ _ _ _ _ (by show _ < 18446744073709551616; omega) (by show _ < 18446744073709551616; omega))) (by rw [or_hi _ _ hw0])) (yq rfl rfl rfl (.leq rfl rfl) ?_))
     refine Xs (fun hc104  => ?_) (fun hc104  => ?_)
     ·
      skip
      have hle : dg * V.getD e 0 ≤ 4294967296 * rest + W.getD e 0 := by have := of_decide_eq_true hc104; exact_mod_cast this
      refine yp rfl (.pickT rfl rfl) (yn ?_); intro a w h
      refine cW ?_
      refine Zj h rfl ?_
      refine wp_exit ?_
      exact ⟨dg, hdg, Zm1 hU3 hV2 oo hvv2 hlv hIg oo (.inr hle), hUd, h.sub sA⟩
     have hcase : 4294967296 ≤ dg ∨ 4294967296 * rest + W.getD e 0 < dg * V.getD e 0 := .inr (by have := of_decide_eq_false hc104; exact Nat.lt_of_not_le fun hh => this (by exact_mod_cast hh))
     refine yp rfl (.pickT rfl rfl) (yn ?_); intro a w h
    rotate_left
    focus
     have hcase : 4294967296 ≤ dg ∨ 4294967296 * rest + W.getD e 0 < dg * V.getD e 0 := .inl (dF hc84)
     refine yo 84 rfl rfl rfl rfl (yo 84 rfl rfl rfl rfl (yo 84 rfl rfl rfl rfl (yo 84 rfl rfl rfl rfl (yo 84 rfl rfl rfl rfl (yo 84 rfl rfl rfl rfl (yo 84 rfl rfl rfl rfl (yo 84 rfl rfl rfl rfl (yo 84 rfl rfl rfl rfl (yo 84 rfl rfl rfl rfl (yo 84 rfl rfl rfl rfl (yo 84 rfl rfl rfl rfl (yo 84 rfl rfl rfl rfl (yo 84 rfl rfl rfl rfl (yo 84 rfl rfl rfl rfl (yo 84 rfl rfl rfl rfl (yo 84 rfl rfl rfl rfl (yo 84 rfl rfl rfl rfl (yo 84 rfl rfl rfl rfl (yo 84 rfl rfl rfl rfl (yp rfl (.pickF rfl rfl) (yn ?_))))))))))))))))))))); intro a w h
    all_goals
     refine cW ?_
     refine Ze h rfl ?_
     refine wp_skip (wp_seq (wp_region_lit ?_))
     have hnext := Zwv hU3 hV2 hlu hIg hUlt hcase
     have hdg0 : 0 < dg := Nat.pos_of_ne_zero fun h0 => by subst h0; simp at hnext
     refine gL h (zm rfl (zp (Pure1.cast (v' := .int .u64 ((dg - 1 : Nat) : Int)) (.binOp rfl rfl (fun _ => Zfp _ _ _ _ _)) (by rw [wrap_u64 _ oo oo]; congr 1; omega)) (za rfl (zn (zr (zm rfl (zm rfl (zm rfl (zp (.pQ (e + 1) (.sub rfl rfl)) (zp (.indexAddr rfl rfl (Qr _ _ _ _ _ oo)) (zD rfl mm (by simp; omega) isAgg54 sizeOf54 (Zv 0 oo) (.inr rfl) ?_)))))))))))
     refine zp (.convert rfl (Jj _ (wrap_u64 _ oo oo))) (zp (Pure1.cast (v' := .int .u64 ((rest + V.getD (e + 1) 0 : Nat) : Int)) (.binOp rfl rfl (fun _ => Za8 _ _ _ _ _)) (by rw [Vs oo])) (za rfl (zn ?_))); intro a w h
     exact ⟨dg - 1, ⟨rest + V.getD (e + 1) 0, Zto hIg hdg0, by rw [Nat.sub_add_cancel hdg0]; exact hnext, oo, h.sub sA⟩, oo⟩
   ·
    skip
    have hr : 4294967296 ≤ rest := dF hc81
    refine wp_exit ?_
    have hdg := Zph hIg htop hr
    exact ⟨dg, hdg, Zm1 hU3 hV2 oo hvv2 hlv hIg oo (.inl hr), hUd, h.sub sA⟩
  ·
   skip
   clear h
   rintro a w ⟨dg, hdg, hend, hUd, h⟩
   refine Xu (fun a w => ∃ (W3 : List Nat) (dg : Nat), dg < 4294967296 ∧ Wd W3 ∧ W3.length = V.length + 1 ∧ Zr W3 + dg * Zr V = Zr W ∧ Zr W3 < Zr V ∧ St 175 S w0 [(4, .slice (some ⟨b39, 0, none⟩) M M), (6, .int .i64 (s : Int)), (7, .slice (some ⟨b26, 0, none⟩) Z0.length Z0.length), (8, .slice (some ⟨b29, 0, none⟩) V.length V0.length), (9, .int .i64 (V.length : Int)), (10, .int .i64 (((p.length + 1 : Nat) : Int) - 1)), (12, .int .u64 (dg : Int))] [(b26, .cells (Jo (p ++ W3 ++ hh)).toArray 54 (0, 0)), (b39, .cells (Jo Q).toArray 54 (0, 0))] [Row (some ⟨b29, 0, none⟩) (Jo V)] a w) ?_ ?_
   ·
    skip
    refine gC h (zS (zm rfl (zp (.pQ p.length (.move rfl)) (zp (.pQ p.length (.move rfl)) (zm rfl (zp (.pQ (p.length + V.length) (.add rfl rfl)) (zp (.pQ (p.length + V.length + 1) (.add rfl rfl)) (zp (Pure1.cast (v' := .slice (some ⟨b26, p.length, none⟩) (V.length + 1) (Z0.length - p.length)) (.slice rfl (some _) (some _) none rfl rfl rfl (Qdi _ _ _ _ _ _ oo oo oo)) (by rw [Nat.zero_add, show p.length + V.length + 1 - p.length = V.length + 1 by omega])) (zm rfl (zm rfl ?_)))))))))); clear h; intro a w h
    refine Zc (Xc h hS (vs := [_, _, _]) rfl call211 (C_less b26 (Z0.length - p.length) p W hh (some ⟨b29, 0, none⟩) V0.length V dg hWw hV oo hWl hdg oo [(b39, .cells (Jo Q).toArray 54 (0, 0))] [Row (some ⟨b29, 0, none⟩) (Jo V)] List.mem_cons_self) (List.Perm.refl _) ss ss ?_); clear h; rintro v125 σ125 Ψ125 a w ⟨W1, l, hl, rfl, hW1, hW1l, hW1v, rfl, rfl⟩ h
    refine wpList_nil ?_
    refine cW ?_
    refine Zb h rfl (fun hc125 => ?_) (fun hc125 => ?_)
    ·
     skip
     have hl1 : 0 < l := dT hc125
     have hW1lt := Yb hW1
     rw [hW1l] at hW1lt
     have hdg0 : 0 < dg := Nat.pos_of_ne_zero fun e0 => by
      subst e0
      obtain rfl : l = 1 := oo
      omega
     refine gC h (zS (zm rfl (zp (Pure1.cast (v' := .int .u64 ((dg - 1 : Nat) : Int)) (.binOp rfl rfl (fun _ => Zfp _ _ _ _ _)) (by rw [wrap_u64 _ oo oo]; congr 1; omega)) (za rfl (zn (zS (za rfl (zn (zs (zS (zm rfl (zp (.builtin [_] rfl (Zk _ _ _)) (zm rfl (zn (zb ?_))))))))))))))); clear h; intro a w h
     refine Zi (fun (i : Nat) a w => ∃ (W2 : List Nat) (c : Nat), i ≤ V.length ∧ W2.length = V.length + 1 ∧ Wd W2 ∧ c ≤ 1 ∧ Zr W2 + 4294967296 ^ i * (c + Zr (V.drop i)) = Zr W1 + Zr V ∧ St 175 S w0 [(4, .slice (some ⟨b39, 0, none⟩) M M), (6, .int .i64 (s : Int)), (7, .slice (some ⟨b26, 0, none⟩) Z0.length Z0.length), (8, .slice (some ⟨b29, 0, none⟩) V.length V0.length), (9, .int .i64 (V.length : Int)), (10, .int .i64 (((p.length + 1 : Nat) : Int) - 1)), (12, .int .u64 ((dg - 1 : Nat) : Int)), (14, .int .u32 (c : Int)), (128, .slice (some ⟨b29, 0, none⟩) V.length V0.length), (129, .int .i64 (V.length : Int)), (130, .int .i64 (i : Int))] [(b26, .cells (Jo (p ++ W2 ++ hh)).toArray 54 (0, 0)), (b39, .cells (Jo Q).toArray 54 (0, 0))] [Row (some ⟨b29, 0, none⟩) (Jo V)] a w) (fun i => V.length - i) (0) (⟨W1, 0, Nat.zero_le _, hW1l, hW1, by decide, by simp, h.sub sA⟩) ?_; clear h
     rintro i a w ⟨W2, c, hi, hW2l, hW2, hc, hT2, h⟩
     refine gC h (zS (zp (.lss rfl rfl) (zn (zs ?_)))); clear h; intro a w h
     refine Zb h rfl (fun hc131 => ?_) (fun hc131 => ?_)
     ·
      skip
      have hi' : i < V.length := by simpa using hc131
      refine gC h (zk (zs (zb (zS (zm rfl (zp (.indexAddr rfl rfl (Qr _ _ _ _ _ oo)) (zD rfl mm (by simp; omega) isAgg54 sizeOf54 (Zv 0 oo) (.inr rfl) ?_)))))))
      refine za rfl (za rfl (zn (zr (zm rfl (zp (.pQ p.length (.move rfl)) (zm rfl (zp (.pQ (p.length + i) (.add rfl rfl)) (zm rfl (zp (.pQ p.length (.move rfl)) (zm rfl (zp (.pQ (p.length + i) (.add rfl rfl)) (zp (.indexAddr rfl rfl (Qr _ _ _ _ _ oo)) (zd rfl mm isAgg54 sizeOf54 ((Zv 0 (by simp; omega)).trans (by rw [Nat.zero_add, Zcc _ _ _ _ oo])) ?_)))))))))))))
      refine zm rfl (zm rfl (zv [_, _, _] rfl call140 (Zyx _ _ _ (hW2.getD i) (hV.getD i) hc) (zm rfl (zp (.eX rfl) (zp (.eX rfl) (zp (.indexAddr rfl rfl (Qr _ _ _ _ _ oo)) (zt' rfl rfl ((Yl (p ++ W2 ++ hh) (0 + (p.length + i)) ((W2.getD i 0 + V.getD i 0 + c) % 4294967296)).trans (by rw [Nat.zero_add, set_mid _ _ _ _ _ oo])) uu sizeOf54 rfl (by simp; omega) rfl ?_)))))))
      refine za rfl (zn (zr (zp (.add rfl rfl) (zm rfl (zn ?_))))); intro a w h
      refine ⟨i + 1, ⟨W2.set i ((W2.getD i 0 + V.getD i 0 + c) % 4294967296), _, oo, by simpa using hW2l, hW2.set _ _ (Nat.mod_lt _ dd), ?_, Zli oo hT2, h.sub sA⟩, oo⟩
      have hz := hW2.getD i
      have hy := hV.getD i
      omega
     ·
      skip
      have hi' : i = V.length := by simp at hc131; omega
      subst hi'
      refine gC h (ze (zr (zm rfl (zp (.pQ p.length (.move rfl)) (zm rfl (zp (.pQ (p.length + V.length) (.add rfl rfl)) (zp (.indexAddr rfl rfl (Qr _ _ _ _ _ oo)) (zd rfl mm isAgg54 sizeOf54 ((Zv 0 (by simp; omega)).trans (by rw [Nat.zero_add, Zcc _ _ _ _ oo])) ?_))))))))
      refine zm rfl (zp (Pure1.cast (v' := .int .u32 ((((W2.getD V.length 0 + c) % 4294967296) : Nat) : Int)) (.binOp rfl rfl (fun _ => Za8 _ _ _ _ _)) (by rw [Qy]; congr 1)) (zp (.indexAddr rfl rfl (Qr _ _ _ _ _ oo)) (zt' rfl rfl ((Yl (p ++ W2 ++ hh) (0 + (p.length + V.length)) ((W2.getD V.length 0 + c) % 4294967296)).trans (by rw [Nat.zero_add, set_mid _ _ _ _ _ oo])) uu sizeOf54 rfl (by simp; omega) rfl ?_))); intro a w h
      refine wpList_nil ?_
      have hst := Zli (Z := W2) (Y := V) (i := V.length) oo hT2
      rw [Km (Nat.le_refl V.length), Nat.add_zero, List.drop_eq_nil_of_le (by omega : V.length ≤ V.length + 1)] at hst
      simp only [Zr, Nat.add_zero] at hst
      have hW3 : Wd (W2.set V.length ((W2.getD V.length 0 + c) % 4294967296)) := hW2.set _ _ (Nat.mod_lt _ dd)
      have hlt3 := Yb hW3
      rw [List.length_set, hW2l] at hlt3
      obtain ⟨_, hk1, hk2⟩ := Ztg hW1v hl hW1lt hend (Nat.le_of_lt (Nat.lt_of_lt_of_le (Yb hV) (Nat.pow_le_pow_right dd (Nat.le_succ _)))) hl1 hst hlt3
      exact ⟨_, dg - 1, oo, hW3, by rw [List.length_set, hW2l], hk1, hk2, h.sub sA⟩
    ·
     skip
     have hl1 : ¬ 0 < l := dF hc125
     have hW1lt := Yb hW1
     rw [hW1l] at hW1lt
     refine wp_skip ?_
     obtain ⟨hk1, hk2⟩ := Qae hW1v hW1lt hl hUd hl1
     exact ⟨W1, dg, hdg, hW1, hW1l, hk1, hk2, h.sub sA⟩
   ·
    skip
    clear h
    clear hdg hend hUd
    rintro a w ⟨W3, dg, hdg, hW3, hW3l, hk1, hk2, h⟩
    refine gC h (zr (zm rfl (zp (.pQ p.length (.move rfl)) (zm rfl (zp (Pure1.cast (v' := .int .u32 (dg : Int)) (.convert rfl (Xi _)) (by rw [Zec hdg])) (zp (.indexAddr rfl rfl (Qr _ _ _ _ _ oo)) (zt' rfl rfl ((Yl Q (0 + p.length) dg).trans (by rw [Nat.zero_add])) uu sizeOf54 rfl (by simp; omega) rfl ?_)))))))
    refine zn (zr (zp (.pQ p.length (.move rfl)) (zp (.sub rfl rfl) (za rfl (zn ?_))))); intro a w h
    exact ⟨p.length, ⟨p ++ W3 ++ hh, Q.set p.length dg, oo, by simp at hZl ⊢; omega, (hpw.append hW3).append hhw, by simpa using hQl, hQ.set _ _ hdg, Zv9 oo oo hT hk1, Zwa hh0 hk2, h.sub sA⟩, oo⟩
 ·
  skip
  have hκ0 : κ = 0 := by simp at hc44; omega
  subst hκ0
  refine gC h (ze (zs (zS (zm rfl (zm rfl (zn (zb ?_))))))); clear h; intro a w h
  refine Zi (fun (i : Nat) a w => ∃ R : List Nat, i ≤ s ∧ Wd R ∧ R.length = Z0.length ∧ Zr R = Zr Z / 2 ^ i ∧ St 175 S w0 [(4, .slice (some ⟨b39, 0, none⟩) M M), (6, .int .i64 (s : Int)), (7, .slice (some ⟨b26, 0, none⟩) R.length Z0.length), (167, .int .i64 (s : Int)), (168, .int .i64 (i : Int))] [(b26, .cells (Jo R).toArray 54 (0, 0)), (b39, .cells (Jo Q).toArray 54 (0, 0))] [Row (some ⟨b29, 0, none⟩) (Jo V)] a w) (fun i => s - i) (0) (⟨Z, Nat.zero_le _, hZ, hZl, by simp, by rw [hZl]; exact h.sub sA⟩) ?_; clear h
  rintro i a w ⟨R, hi, hR, hRl, hRv, h⟩
  refine gC h (zS (zp (.lss rfl rfl) (zn (zs ?_)))); clear h; intro a w h
  refine Zb h rfl (fun hc169 => ?_) (fun hc169 => ?_)
  ·
   skip
   have hi' : i < s := by simpa using hc169
   refine gC h (zk (zs (zb (zr (zm rfl ?_))))); clear h; intro a w h
   refine Zc (Xc h hS (vs := [_]) rfl call212 (C_half b26 Z0.length R hR oo [(b39, .cells (Jo Q).toArray 54 (0, 0))] [Row (some ⟨b29, 0, none⟩) (Jo V)]) (List.Perm.refl _) ss ss ?_); clear h; rintro v171 σ171 Ψ171 a w ⟨R2, hR2, hR2l, hR2v, rfl, rfl⟩ h
   refine gL h (zn (zr (zp (.add rfl rfl) (zm rfl (zn ?_))))); clear h; intro a w h
   exact ⟨i + 1, ⟨R2, oo, hR2, oo, by rw [hR2v, hRv, Nat.div_div_eq_div_mul, ← Nat.pow_succ], by rw [hR2l]; exact h.sub sA⟩, oo⟩
  ·
   skip
   have hi' : i = s := by simp at hc169; omega
   refine gC h (ze (zS (zm rfl (zm rfl (za rfl (za rfl (zn (zt ?_)))))))); clear h; intro a w h
   subst hi'
   simp only [List.drop_zero, Nat.pow_zero, Nat.one_mul] at hT hR
   obtain ⟨hq, hr⟩ := Ztc (hT.trans hZ0v) ‹Zr Z < Zr V› hVv
   replace h := h.shareAll hS (Jo R) rfl
   replace h := h.shareAll hS (Jo Q) rfl
   rw [← hQl] at h
   refine Zy (Ψ := [Row (some ⟨b39, 0, none⟩) (Jo Q), Row (some ⟨b26, 0, none⟩) (Jo R)]) h (Ql h rfl (.tmp rfl) (.tmp rfl)) ⟨_, _, _, _, Q, R, rfl, hQ, ‹Wd R›, oo, by omega, oo, by omega, hq, by rw [hRv, hr], rfl⟩ ss
end
section
theorem Zug {m : Nat} (h : m ≠ 0) : (wds m).getD ((wds m).length - 1) 0 ≠ 0 := by
 have hne : wds m ≠ [] := fun e => h (by rw [← Qp m, e]; rfl)
 have := Zgo m hne
 rw [List.getLast_eq_getElem] at this
 have hl : (wds m).length - 1 < (wds m).length := by have := List.length_pos_iff.2 hne; omega
 simpa [List.getD, hl] using this
theorem Zb2 {m : Nat} (h : m ≠ 0) : 0 < (wds m).length := List.length_pos_iff.2 fun e => h (by rw [← Qp m, e]; rfl)
theorem Xx {n m : Nat} (h : n ≤ m) : (wds n).length ≤ (wds m).length := Nat.le_of_not_lt fun hl => by have := Zbi hl; omega
theorem Qc8 {m : Nat} (h : (wds m).length = 1) : (wds m).getD 0 0 = m := by
 have e := Qp m
 match hw : wds m, h with
 | [x], _ => rw [hw] at e; simpa [Zr] using e
theorem Qge (n m : Nat) (hn : (wds n).length ≤ 500000000000) (hm : (wds m).length ≤ 500000000000) (h0 : m ≠ 0) : Xl Tryz.prog 125 [Xk n, Xk m] (.tuple #[Xk (n / m), Xk (n % m), .bool true]) := by
 refine fn_intro func125 rfl ntmps125 nb ?_
 intro S w0 a hS h
 refine gC h (zS (zx rfl fun b2 => zx rfl fun b3 => zz zeroValue47 fun b4 => zz zeroValue47 fun b5 => za rfl (zn (zs (zb (zS (zd rfl mr isAgg47 sizeOf47 Zh ?_)))))))
 refine zv [_] rfl call168 (Qcl m) (za rfl (zn ?_)); intro a w h
 refine cW ?_
 refine Zb h rfl (fun hc12 => (by exfalso; exact h0 (of_decide_eq_true hc12))) (fun hc12 => ?_)
 refine gC h (zS (zd rfl mr isAgg47 sizeOf47 Zh ?_))
 refine zd rfl mr isAgg47 sizeOf47 Zh ?_
 refine zv [_, _] rfl call169 (C_Cmp n m oo oo) (zp (.lss rfl rfl) (za rfl (zn ?_))); intro a w h
 refine cW ?_
 refine Zb h rfl (fun hc17 => ?_) (fun hc17 => ?_)
 ·
  skip
  have hlt : n < m := by rw [Zg4] at hc17; exact of_decide_eq_true hc17
  refine gC h (zs (yD Za [0, 1, 2, 3, 4] (Zf kk) (yp rfl (.build [] rfl (Zip)) ?_))); clear h
  refine Kl [4] rfl kk rfl mr isAgg47 sizeOf47 Zh (fun a w σx hst => by intro t ht; simp only [List.mem_cons, List.not_mem_nil, or_false] at ht; rcases ht with rfl <;> exact ⟨_, rfl, by have h1 := (List.pairwise_append.1 hst.nd).2.1; simp at h1; dsimp only; omega⟩) dd ?_
  refine yt rfl rfl rfl Zl uu sizeOf47 rfl nb rfl ?_
  refine yt rfl rfl rfl Zl uu sizeOf47 rfl nb rfl ?_
  refine yp rfl (.assign rfl) (yn (zt ?_)); intro a w h
  refine Jk h (Qz h rfl (.cell rfl mr isAgg47 sizeOf47 Zh) (.cell rfl mr isAgg47 sizeOf47 Zh) (.tmp rfl)) ?_
  rw [Nat.div_eq_of_lt hlt, Nat.mod_eq_of_lt hlt]; rfl
 ·
  skip
  have hle : m ≤ n := by rw [Zg4] at hc17; exact Nat.le_of_not_lt (of_decide_eq_false hc17)
  refine gC h (zS (zp (.fA rfl Yn) (zd rfl mr isAgg9 sizeOf9 Jy ?_)))
  refine zp (.binOp rfl rfl (fun _ => Jv _ _ _ _ _)) (za rfl (zn ?_)); intro a w h
  refine cW ?_
  refine Zb h rfl (fun hc24 => ?_) (fun hc24 => ?_)
  ·
   skip
   have ha : n < 18446744073709551616 := Qh.1 (by simpa using hc24)
   have hb : m < 18446744073709551616 := oo
   refine gC h (zs (yD Za [0, 1, 2, 3, 4, 5, 6, 7, 8, 9, 10, 11, 12, 13, 14] (Zf kk) (yp rfl (.fA rfl Yf) (yd rfl rfl mr isAgg45 sizeOf45 Jn ?_)))); clear h
   refine yp rfl (.fA rfl Yf) (yd rfl rfl mr isAgg45 sizeOf45 Jn ?_)
   refine yp rfl (Pure1.cast (v' := .int .u64 ((n / m : Nat) : Int)) (.binOp rfl rfl (fun _ => Vl _ _ _ _ _ (by rw [Zw hb]; omega))) (by rw [Zw ha, Zw hb, Yc, Zcq (Nat.lt_of_le_of_lt (Nat.div_le_self _ _) ha)])) (yp rfl (.build [(_, _)] rfl (Zd9 _)) (yp rfl (.fA rfl Yf) ?_))
   refine Kl [4] rfl kk rfl mr isAgg45 sizeOf45 Jn (fun a w σx hst => by intro t ht; simp only [List.mem_cons, List.not_mem_nil, or_false] at ht; rcases ht with rfl <;> exact ⟨_, rfl, by have h1 := (List.pairwise_append.1 hst.nd).2.1; simp at h1; dsimp only; omega⟩) dd ?_
   refine yp rfl (.fA rfl Yf) ?_
   refine Kl [4] rfl kk rfl mr isAgg45 sizeOf45 Jn (fun a w σx hst => by intro t ht; simp only [List.mem_cons, List.not_mem_nil, or_false] at ht; rcases ht with rfl <;> exact ⟨_, rfl, by have h1 := (List.pairwise_append.1 hst.nd).2.1; simp at h1; dsimp only; omega⟩) dd ?_
   refine yp rfl (Pure1.cast (v' := .int .u64 ((n % m : Nat) : Int)) (.binOp rfl rfl (fun _ => Zai _ _ _ _ _ (by rw [Zw hb]; omega))) (by rw [Zw ha, Zw hb, Kd])) (yp rfl (.build [(_, _)] rfl (Zd9 _)) (yt rfl rfl rfl Zl uu sizeOf47 rfl nb rfl ?_))
   refine yt rfl rfl rfl Zl uu sizeOf47 rfl nb rfl ?_
   refine yp rfl (.assign rfl) (yn (zt ?_)); intro a w h
   refine Jk h (Qz h rfl (.cell rfl mr isAgg47 sizeOf47 Zh) (.cell rfl mr isAgg47 sizeOf47 Zh) (.tmp rfl)) ?_
   rw [Xk, Xk, Zw (Nat.lt_of_le_of_lt (Nat.div_le_self _ _) ha), Yk (Nat.lt_of_le_of_lt (Nat.div_le_self _ _) ha), Zw (Nat.lt_of_le_of_lt (Nat.mod_le _ _) ha), Yk (Nat.lt_of_le_of_lt (Nat.mod_le _ _) ha)]
  ·
   skip
   have ha : ¬ n < 18446744073709551616 := fun hn => by have := Qh.2 hn; simp [this] at hc24
   refine gC h (zk (zS (zd rfl mr isAgg47 sizeOf47 Zh ?_)))
   refine zf [_] rfl call92 (Gu m oo) ?_; rintro v41 Ψ41 ⟨aY, cY, rfl, hcY, rfl⟩
   refine za rfl (zn (zs (zS (zm rfl (zp (.builtin [_] rfl (Zk _ _ _)) (zp (.eql rfl rfl) (zn ?_))))))); intro a w h
   refine cW ?_
   refine Zb h rfl (fun hc44 => ?_) (fun hc44 => ?_)
   ·
    skip
    have h1 : (wds m).length = 1 := Zcj (b := 1) hc44
    have hm1 := Qc8 h1
    have hm2 := (Wd.wds m).getD 0
    rw [hm1] at hm2
    have hlt : 0 < (wds m).length := oo
    obtain ⟨bY, bYo, bYe⟩ := h.row_addr (ad := aY) (M := Jo (wds m)) ss (by simp; intro e; simp [e] at hlt)
    subst bYe
    refine gC h (zs (yD Za [0, 2, 3, 4, 1, 5, 6, 7, 8, 9, 10] (Zf kk) (yd rfl rfl mr isAgg47 sizeOf47 Zh ?_))); clear h
    refine ym rfl rfl (yp rfl (.indexAddr rfl rfl (Qr _ _ _ _ 0 oo)) ?_)
    refine Qa rfl kk rfl mm (by simp; omega) isAgg54 sizeOf54 ((Zv 0 oo).trans (by rw [hm1])) (.inr rfl) dd ?_
    refine yf [_] rfl rfl call92 (Gu n oo) ?_; rintro v47 Ψ47 ⟨aX, cX, rfl, hcX, rfl⟩
    refine Zbt rfl kk (vs := [_, _]) rfl call93 (Zya aX cX (wds n) m (Wd.wds n) oo oo hm2) ss dd ?_; rintro v51 σ51 ⟨bq, Q, rfl, hQ, hQl, hQv, rfl⟩
    refine ym rfl rfl (yp rfl (.eX rfl) (yp rfl (.eX rfl) (yp rfl (.assign rfl) (yp rfl (.assign rfl) (yn (zS ?_)))))); intro a w h
    replace h := h.shareAll hS (Jo Q) rfl
    refine gL h (zm rfl (zw [_] rfl call128 (Qcr _ _ Q hQ (Nat.le_refl _) oo) (zm rfl (zp (Pure1.cast (v' := .int .u64 ((n % m : Nat) : Int)) (.convert rfl (Zrw _)) (by rw [Qp, Zcq (Nat.lt_trans (Nat.mod_lt _ oo) oo)])) (zp (.build [(_, _)] rfl (Zd9 _)) (zt' rfl rfl Zl uu sizeOf47 rfl nb rfl ?_))))))
    refine zt' rfl rfl Zl uu sizeOf47 rfl nb rfl ?_; intro a w h
    refine gL h (za rfl (zn (zt ?_))); clear h; intro a w h
    refine Jk h (Qz h rfl (.cell rfl mr isAgg47 sizeOf47 Zh) (.cell rfl mr isAgg47 sizeOf47 Zh) (.tmp rfl)) ?_
    have hr : n % m < 18446744073709551616 := Nat.lt_trans (Nat.mod_lt _ oo) oo
    rw [hQv, Qp, Xk, Xk, Zw hr, Yk hr]
   ·
    skip
    have h1 : (wds m).length ≠ 1 := Zbn (b := 1) hc44
    have h2 := Zb2 h0
    have h3 := Xx hle
    refine gC h (zk (zS (zd rfl mr isAgg47 sizeOf47 Zh ?_)))
    refine zf [_] rfl call92 (Gu n oo) ?_; rintro v61 Ψ61 ⟨aX, cX, rfl, hcX, rfl⟩
    refine zm rfl (zf [_, _] rfl call170 (C_long aX cX (wds n) aY cY (wds m) (Wd.wds n) (Wd.wds m) hn oo h3 (Zug h0)) ?_); rintro v63 Ψ63 ⟨a1, c1, a2, c2, Q, R, rfl, hQ, hR, hQc, hRc, hQl, hRl, hQv, hRv, rfl⟩
    refine zm rfl (zp (.eX rfl) (zp (.eX rfl) (za rfl (za rfl (zn (zS (zm rfl (zw [_] rfl call128 (Qcr _ _ Q hQ hQc oo) (zm rfl (zw [_] rfl call128 (Qcr _ _ R hR hRc oo) (zt' rfl rfl Zl uu sizeOf47 rfl nb rfl ?_)))))))))))
    refine zt' rfl rfl Zl uu sizeOf47 rfl nb rfl ?_; intro a w h
    refine gL h (za rfl (zn (zt ?_))); clear h; intro a w h
    refine Jk h (Qz h rfl (.cell rfl mr isAgg47 sizeOf47 Zh) (.cell rfl mr isAgg47 sizeOf47 Zh) (.tmp rfl)) ?_
    rw [hQv, hRv, Qp, Qp]
theorem C_Gcd (n m : Nat) (hn : (wds n).length ≤ 500000000000) (hm : (wds m).length ≤ 500000000000) : Xl Tryz.prog 124 [Xk n, Xk m] (Xk (Nat.gcd n m)) := by
 refine fn_intro func124 rfl ntmps124 nb ?_
 intro S w0 a hS h
 refine gC h (zS (zx rfl fun b2 => zx rfl fun b3 => zz zeroValue47 fun b4 => zn (zs (zb ?_)))); clear h; intro a w h
 refine Zi (fun (y : Nat) a w => ∃ x : Nat, (wds x).length ≤ 500000000000 ∧ (wds y).length ≤ 500000000000 ∧ Nat.gcd x y = Nat.gcd n m ∧ St 21 S w0 [(2, pB b2), (3, pB b3), (4, pB b4)] [(b4, .cells (Xk 0).cells 47 (0, 0)), (b3, .cells (Xk y).cells 47 (0, 0)), (b2, .cells (Xk x).cells 47 (0, 0))] [] a w) (fun y => y) (m) (⟨n, hn, hm, rfl, h.sub sA⟩) ?_; clear h
 rintro y a w ⟨x, hx, hy, hg, h⟩
 refine gC h (zs (zS (zd rfl mr isAgg47 sizeOf47 Zh ?_)))
 refine zv [_] rfl call168 (Qcl y) (zp (.unOp rfl (Ji _)) (zn ?_)); intro a w h
 refine cW ?_
 refine Zb h rfl (fun hc10 => ?_) (fun hc10 => ?_)
 ·
  skip
  have hy0 : y ≠ 0 := by simpa using hc10
  refine gC h (zk (zb (zS (zd rfl mr isAgg47 sizeOf47 Zh ?_))))
  refine zd rfl mr isAgg47 sizeOf47 Zh ?_
  refine zv [_, _] rfl call125 (Qge x y hx hy hy0) (zm rfl (zp (.eX rfl) (zp (.eX rfl) (zp (.eX rfl) (zz zeroValue47 fun b5 => zz zeroValue47 fun b6 => zt' rfl rfl Zl uu sizeOf47 rfl nb rfl ?_)))))
  refine zt' rfl rfl Zl uu sizeOf47 rfl nb rfl ?_; intro a w h
  refine gL h (za rfl (zn (yD Za [0, 1, 2, 3] (Zf kk) (yd rfl rfl mr isAgg47 sizeOf47 Zh ?_)))); clear h
  refine Kl [2] rfl kk rfl mr isAgg47 sizeOf47 Zh (fun a w σx hst => by intro t ht; simp only [List.mem_cons, List.not_mem_nil, or_false] at ht; rcases ht with rfl <;> exact ⟨_, rfl, by have h1 := (List.pairwise_append.1 hst.nd).2.1; simp at h1; dsimp only; omega⟩) dd ?_
  refine yt rfl rfl rfl Zl uu sizeOf47 rfl nb rfl ?_
  refine yt rfl rfl rfl Zl uu sizeOf47 rfl nb rfl ?_
  refine yn ?_; intro a w h
  exact ⟨x % y, ⟨y, hy, Nat.le_trans (Xx (Nat.le_of_lt (Nat.mod_lt _ (Nat.pos_of_ne_zero hy0)))) hy, by rw [← hg, Nat.gcd_comm y (x % y), ← Nat.gcd_rec, Nat.gcd_comm], (h.drop (.cons _ (.cons _ (List.Sublist.refl _)))).sub sA⟩, Nat.mod_lt _ (Nat.pos_of_ne_zero hy0)⟩
 ·
  skip
  have hy0 : y = 0 := by simpa using hc10
  subst hy0
  refine gC h (ze (zS (zd rfl mr isAgg47 sizeOf47 Zh ?_)))
  refine zt' rfl rfl Zl uu sizeOf47 rfl nb rfl ?_; intro a w h
  refine wpList_nil (wp_ret ?_)
  refine Jk h (Zd h rfl (.cell rfl mr isAgg47 sizeOf47 Zh)) ?_
  rw [← hg, Nat.gcd_zero_right]
end
section
theorem Qfc (w : World) : (Instr.build 49 [].toArray).run Tryz.prog w = .ok (.agg #[.int .u64 0, .string ⟨#[]⟩]) w := by simp [go_sem]
theorem Qfd (x0_0 : Value) (x0_1 : Value) (w : World) : (Instr.build 49 [(0, .agg #[x0_0, x0_1])].toArray).run Tryz.prog w = .ok (.agg #[x0_0, x0_1]) w := by simp [go_sem]
theorem Znr (x0_0 : Value) (x0_1 : Value) (x1 : Bool) (w : World) : (Instr.build 51 [(0, .agg #[x0_0, x0_1]), (1, .bool x1)].toArray).run Tryz.prog w = .ok (.agg #[x0_0, x0_1, .bool x1]) w := by simp [go_sem]
theorem Qw {c0 c1 c2 v0 v1 v2 : Value} : Qq #[c0, c1, c2] 0 [v0, v1, v2] = #[v0, v1, v2] := rfl
theorem Zs {c0 c1 c2 : Value} : Qu true 3 #[c0, c1, c2] 0 = some (.agg #[c0, c1, c2]) := rfl
theorem Zbc {b off : Nat} (w : World) : (Instr.fieldAt 51 (.pointer (some ⟨b, off, none⟩)) 1).run Tryz.prog w = .ok (.pointer (some ⟨b, off + 2, none⟩)) w := by
 simp [go_sem]
theorem Gh {c0 c1 c2 : Value} : Qu false 1 #[c0, c1, c2] 2 = some c2 := rfl
theorem Ko {b off : Nat} (w : World) : (Instr.fieldAt 51 (.pointer (some ⟨b, off, none⟩)) 0).run Tryz.prog w = .ok (.pointer (some ⟨b, off + 0, none⟩)) w := by
 simp [go_sem]
theorem Kw {b off : Nat} (w : World) : (Instr.fieldAt 49 (.pointer (some ⟨b, off, none⟩)) 0).run Tryz.prog w = .ok (.pointer (some ⟨b, off + 0, none⟩)) w := by
 simp [go_sem]
theorem Js {c0 c1 c2 : Value} : Qu true 2 #[c0, c1, c2] 0 = some (.agg #[c0, c1]) := rfl
def Kk (z : Int) : Nat := (wds z.natAbs).length
def sgZ (neg : Bool) (n : Nat) : Int := if neg then -(n : Int) else (n : Int)
theorem Za7 (neg : Bool) (n : Nat) : (sgZ neg n).natAbs = n := by unfold sgZ; split <;> omega
theorem Zql (z : Int) : sgZ (decide (z < 0)) z.natAbs = z := by unfold sgZ; split <;> simp_all <;> omega
theorem Zoo (neg : Bool) (n : Nat) : decide (sgZ neg n < 0) = (neg && !decide (n = 0)) := by
 unfold sgZ; cases neg <;> by_cases h : n = 0 <;> simp [h] <;> omega
theorem Qeq (X Y : Operand) (n m : Nat) (w : World) : (do eqGuard .eql 49 X Y (Xk n) (Xk m); Go.binOp .eql 49 (Xk n) (Xk m) : Sem Value).run Tryz.prog w = .ok (.bool (decide (n = m))) w := by
 simp [go_sem]
 have hb : ((Va n).toList = (Va m).toList) ↔ Va n = Va m := by have := Zbk (Va n) (Va m); rw [Bool.eq_iff_iff] at this; simpa using this
 by_cases h : n = m
 · subst h; simp
 ·
  have hne := fun h1 h2 => h (Zk7 h1 h2)
  by_cases h1 : Gw n = Gw m
  · simp only [h, h1, hb, if_true, decide_false]; exact if_neg (hne h1)
  · simp [h, h1]
theorem Zx7 (n : Nat) : Xl Tryz.prog 117 [Xk n] (.bool (decide (n = 0))) := by
 refine fn_intro func117 rfl ntmps117 nb ?_
 intro S w0 a hS h
 refine gC h (zS (zx rfl fun b1 => za rfl (zn (zS (zd rfl mr isAgg49 sizeOf49 Zh ?_)))))
 refine zp (Pure1.cast (v' := Xk 0) (.build [] rfl (Qfc)) (by rfl)) (zp (.binOp rfl rfl (fun _ => Qeq _ _ n 0 _)) (za rfl (zn (zt ?_)))); intro a w h
 exact Zeh h
theorem Zde (neg : Bool) (n : Nat) : Xl Tryz.prog 75 [.bool neg, Xk n] (encZ (sgZ neg n)) := by
 refine fn_intro func75 rfl ntmps75 nb ?_
 intro S w0 a hS h
 refine gC h (zS (zx rfl fun b3 => zz zeroValue51 fun b4 => zn (zS (zd rfl mr isAgg47 sizeOf47 Zh ?_))))
 refine zp (.build [(_, _)] rfl (Qfd _ _)) (zz zeroValue49 fun b5 => zt' rfl rfl Zl uu sizeOf49 rfl nb rfl ?_)
 refine zn (zs (yD Za [0, 1, 2, 3, 4, 5, 6, 7, 8] (Zf kk) (yd rfl rfl mr isAgg49 sizeOf49 Zh ?_)))
 refine ym rfl rfl (ym rfl rfl ?_)
 refine Xs (fun hc10  => ?_) (fun hc10  => ?_)
 focus
  refine yg rfl rfl rfl rfl mr isAgg49 sizeOf49 Zh ?_
  refine Zcb rfl rfl rfl kk (vs := [_]) rfl call117 (Zx7 n) dd ?_
  refine yq rfl rfl rfl (.unOp rfl (Ji _)) (yp rfl (.pickT rfl rfl) (yp rfl (.build [(_, _), (_, _)] rfl (Znr _ _ _)) (yt rfl rfl rfl Qw uu sizeOf51 rfl nb rfl ?_)))
 rotate_left
 focus
  refine yo 10 rfl rfl rfl rfl (yo 10 rfl rfl rfl rfl (yo 10 rfl rfl rfl rfl (yp rfl (.pickF rfl rfl) (yp rfl (.build [(_, _), (_, _)] rfl (Znr _ _ _)) (yt rfl rfl rfl Qw uu sizeOf51 rfl nb rfl ?_)))))
 all_goals
  refine yn (zt ?_); intro a w h
  refine Jk h (Zd h rfl (.cell rfl mr isAgg51 sizeOf51 Zs)) ?_
  subst hc10; rw [encZ, Za7, Zoo]; rfl
theorem C_plus (x y : Int) (hx : Kk x ≤ 400000000000) (hy : Kk y ≤ 400000000000) : Xl Tryz.prog 172 [encZ x, encZ y] (encZ (x + y)) := by
 unfold Kk at hx hy
 refine fn_intro func172 rfl ntmps172 nb ?_
 intro S w0 a hS h
 refine gC h (zS (zx rfl fun b2 => zx rfl fun b3 => zz zeroValue51 fun b4 => zn (zs (zS (zp (.fA rfl Zbc) (zd rfl mr isAgg4 sizeOf4 Gh ?_))))))
 refine zp (.fA rfl Zbc) (zd rfl mr isAgg4 sizeOf4 Gh ?_)
 refine zp (.binOp rfl rfl (fun _ => Zqr _ underlying4 _ _ _ _)) (zn ?_); intro a w h
 refine cW ?_
 refine Zb h rfl (fun hc13 => ?_) (fun hc13 => ?_)
 ·
  skip
  refine gC h (zs (yD Za [0, 1, 2, 3, 4, 5, 6, 7, 8, 9, 10] (Zf kk) (yp rfl (.fA rfl Zbc) (yd rfl rfl mr isAgg4 sizeOf4 Gh ?_)))); clear h
  refine yp rfl (.fA rfl Ko) (yp rfl (.fA rfl Kw) (yd rfl rfl mr isAgg47 sizeOf47 Js ?_))
  refine yp rfl (.fA rfl Ko) (yp rfl (.fA rfl Kw) (yd rfl rfl mr isAgg47 sizeOf47 Js ?_))
  refine yv [_, _] rfl rfl call97 (C_Add _ _ oo oo) (yv [_, _] rfl rfl call75 (Zde _ _) (yt rfl rfl rfl Qw uu sizeOf51 rfl nb rfl ?_))
  refine yn (zt ?_); intro a w h
  refine Jk h (Zd h rfl (.cell rfl mr isAgg51 sizeOf51 Zs)) ?_
  rw [show sgZ (decide (x < 0)) (x.natAbs + y.natAbs) = x + y from by unfold sgZ; by_cases h1 : x < 0 <;> by_cases h2 : y < 0 <;> simp [h1, h2] at hc13 ⊢ <;> omega]
 ·
  skip
  refine gC h (zk (zs (zS (zp (.fA rfl Ko) (zp (.fA rfl Kw) (zd rfl mr isAgg47 sizeOf47 Js ?_))))))
  refine zp (.fA rfl Ko) (zp (.fA rfl Kw) (zd rfl mr isAgg47 sizeOf47 Js ?_))
  refine zv [_, _] rfl call126 (Qf1 x.natAbs y.natAbs oo oo) (zm rfl (zp (.eX rfl) (zp (.eX rfl) (zz zeroValue47 fun b5 => zt' rfl rfl Zl uu sizeOf47 rfl nb rfl ?_))))
  refine za rfl (zn (zS (zm rfl (zn ?_)))); intro a w h
  refine cW ?_
  refine Zb h rfl (fun hc34 => ?_) (fun hc34 => ?_)
  ·
   skip
   refine gC h (zS (zp (.fA rfl Zbc) (zd rfl mr isAgg4 sizeOf4 Gh ?_)))
   refine zd rfl mr isAgg47 sizeOf47 Zh ?_
   refine zv [_, _] rfl call75 (Zde _ _) (zt' rfl rfl Qw uu sizeOf51 rfl nb rfl ?_); intro a w h
   refine wpList_nil (wp_ret ?_)
   refine Jk h (Zd h rfl (.cell rfl mr isAgg51 sizeOf51 Zs)) ?_
   have hle : y.natAbs ≤ x.natAbs := of_decide_eq_true hc34
   rw [show sgZ (decide (x < 0)) (x.natAbs - y.natAbs) = x + y from by unfold sgZ; by_cases h1 : x < 0 <;> by_cases h2 : y < 0 <;> simp [h1, h2] at hc13 ⊢ <;> omega]
  ·
   skip
   refine gC h (zk (zS (zp (.fA rfl Ko) (zp (.fA rfl Kw) (zd rfl mr isAgg47 sizeOf47 Js ?_)))))
   refine zp (.fA rfl Ko) (zp (.fA rfl Kw) (zd rfl mr isAgg47 sizeOf47 Js ?_))
   refine zv [_, _] rfl call126 (Qf1 y.natAbs x.natAbs oo oo) (zm rfl (zp (.eX rfl) (zp (.eX rfl) (zz zeroValue47 fun b7 => zt' rfl rfl Zl uu sizeOf47 rfl nb rfl ?_))))
   refine za rfl (zn (zS (zp (.fA rfl Zbc) (zd rfl mr isAgg4 sizeOf4 Gh ?_))))
   refine zd rfl mr isAgg47 sizeOf47 Zh ?_
   refine zv [_, _] rfl call75 (Zde _ _) (zt' rfl rfl Qw uu sizeOf51 rfl nb rfl ?_); intro a w h
   refine wpList_nil (wp_ret ?_)
   refine Jk h (Zd h rfl (.cell rfl mr isAgg51 sizeOf51 Zs)) ?_
   have hle : ¬ y.natAbs ≤ x.natAbs := of_decide_eq_false hc34
   rw [show sgZ (decide (y < 0)) (y.natAbs - x.natAbs) = x + y from by unfold sgZ; by_cases h1 : x < 0 <;> by_cases h2 : y < 0 <;> simp [h1, h2] at hc13 ⊢ <;> omega]
theorem Qfl (x y : Int) (hx : Kk x ≤ 400000000000) (hy : Kk y ≤ 400000000000) : Xl Tryz.prog 123 [encZ x, encZ y] (encZ (x * y)) := by
 unfold Kk at hx hy
 refine fn_intro func123 rfl ntmps123 nb ?_
 intro S w0 a hS h
 refine gC h (zS (zx rfl fun b2 => zx rfl fun b3 => zz zeroValue51 fun b4 => zn (zs (yD Za [0, 1, 2, 3, 4, 5, 6, 7, 8, 9, 10, 11, 12, 13] (Zf kk) (yp rfl (.fA rfl Zbc) (yd rfl rfl mr isAgg4 sizeOf4 Gh ?_)))))); clear h
 refine yp rfl (.fA rfl Zbc) (yd rfl rfl mr isAgg4 sizeOf4 Gh ?_)
 refine yp rfl (.binOp rfl rfl (fun _ => Zqq _ underlying4 _ _ _ _)) (yp rfl (.fA rfl Ko) (yp rfl (.fA rfl Kw) (yd rfl rfl mr isAgg47 sizeOf47 Js ?_)))
 refine yp rfl (.fA rfl Ko) (yp rfl (.fA rfl Kw) (yd rfl rfl mr isAgg47 sizeOf47 Js ?_))
 refine yv [_, _] rfl rfl call85 (Qga _ _ oo oo) (yv [_, _] rfl rfl call75 (Zde _ _) (yt rfl rfl rfl Qw uu sizeOf51 rfl nb rfl ?_))
 refine yn (zt ?_); intro a w h
 refine Jk h (Zd h rfl (.cell rfl mr isAgg51 sizeOf51 Zs)) ?_
 rw [show sgZ (decide (x < 0) != decide (y < 0)) (x.natAbs * y.natAbs) = x * y from by
  conv => rhs; rw [← Zql x, ← Zql y]
  unfold sgZ
  by_cases h1 : x < 0 <;> by_cases h2 : y < 0 <;> simp only [h1, h2, decide_true, decide_false, bne_self_eq_false, Bool.true_bne, Bool.false_bne, Bool.not_true, Bool.not_false, if_true, Bool.false_eq_true, if_false, Int.natCast_mul, Int.neg_mul, Int.mul_neg, Int.neg_neg]]
theorem Zpt (x y : Int) (hx : Kk x ≤ 400000000000) (hy : Kk y ≤ 400000000000) : Xl Tryz.prog 122 [.func (.func 172) #[] #[], encZ x, encZ y] (encZ (x + y)) := by
 refine fn_intro func122 rfl ntmps122 nb ?_
 intro S w0 a hS h
 refine gC h (zS (zx rfl fun b4 => zx rfl fun b5 => zz zeroValue51 fun b6 => zn (zS (zm rfl (zd rfl mr isAgg51 sizeOf51 Zs ?_)))))
 refine zd rfl mr isAgg51 sizeOf51 Zs ?_; intro a w h
 refine Zc (Zek h (fs := []) (cs := []) rfl (vs := [_, _]) rfl call172 (C_plus x y hx hy) dd ?_); clear h; intro a w h
 refine gL h (zt' rfl rfl Qw uu sizeOf51 rfl nb rfl ?_); clear h; intro a w h
 refine wpList_nil (wp_ret ?_)
 refine Jk h (Zd h rfl (.cell rfl mr isAgg51 sizeOf51 Zs)) ?_
 rfl
theorem Zyn (x y : Int) (hx : Kk x ≤ 400000000000) (hy : Kk y ≤ 400000000000) : Xl Tryz.prog 129 [encZ x, encZ y] (encZ (x + y)) := by
 refine fn_intro func129 rfl ntmps129 nb ?_
 intro S w0 a hS h
 refine gC h (zS (zx rfl fun b2 => zx rfl fun b3 => zz zeroValue51 fun b4 => zn (zS (zd rfl mr isAgg51 sizeOf51 Zs ?_))))
 refine zd rfl mr isAgg51 sizeOf51 Zs ?_
 refine zv [_, _, _] rfl call122 (Zpt x y hx hy) (zt' rfl rfl Qw uu sizeOf51 rfl nb rfl ?_); intro a w h
 refine wpList_nil (wp_ret ?_)
 refine Jk h (Zd h rfl (.cell rfl mr isAgg51 sizeOf51 Zs)) ?_
 rfl
theorem Znx (x y : Int) (hx : Kk x ≤ 400000000000) (hy : Kk y ≤ 400000000000) : Xl Tryz.prog 122 [.func (.func 123) #[] #[], encZ x, encZ y] (encZ (x * y)) := by
 refine fn_intro func122 rfl ntmps122 nb ?_
 intro S w0 a hS h
 refine gC h (zS (zx rfl fun b4 => zx rfl fun b5 => zz zeroValue51 fun b6 => zn (zS (zm rfl (zd rfl mr isAgg51 sizeOf51 Zs ?_)))))
 refine zd rfl mr isAgg51 sizeOf51 Zs ?_; intro a w h
 refine Zc (Zek h (fs := []) (cs := []) rfl (vs := [_, _]) rfl call123 (Qfl x y hx hy) dd ?_); clear h; intro a w h
 refine gL h (zt' rfl rfl Qw uu sizeOf51 rfl nb rfl ?_); clear h; intro a w h
 refine wpList_nil (wp_ret ?_)
 refine Jk h (Zd h rfl (.cell rfl mr isAgg51 sizeOf51 Zs)) ?_
 rfl
theorem Zsn (x y : Int) (hx : Kk x ≤ 400000000000) (hy : Kk y ≤ 400000000000) : Xl Tryz.prog 83 [encZ x, encZ y] (encZ (x * y)) := by
 refine fn_intro func83 rfl ntmps83 nb ?_
 intro S w0 a hS h
 refine gC h (zS (zx rfl fun b2 => zx rfl fun b3 => zz zeroValue51 fun b4 => zn (zS (zd rfl mr isAgg51 sizeOf51 Zs ?_))))
 refine zd rfl mr isAgg51 sizeOf51 Zs ?_
 refine zv [_, _, _] rfl call122 (Znx x y hx hy) (zt' rfl rfl Qw uu sizeOf51 rfl nb rfl ?_); intro a w h
 refine wpList_nil (wp_ret ?_)
 refine Jk h (Zd h rfl (.cell rfl mr isAgg51 sizeOf51 Zs)) ?_
 rfl
theorem Zj6 (x : Int) : Xl Tryz.prog 76 [encZ x] (Xk x.natAbs) := by
 refine fn_intro func76 rfl ntmps76 nb ?_
 intro S w0 a hS h
 refine gC h (zS (zx rfl fun b1 => zz zeroValue47 fun b2 => zn (zS (zp (.fA rfl Ko) (zp (.fA rfl Kw) (zd rfl mr isAgg47 sizeOf47 Js ?_))))))
 refine zt' rfl rfl Zl uu sizeOf47 rfl nb rfl ?_; intro a w h
 refine wpList_nil (wp_ret ?_)
 refine Jk h (Zd h rfl (.cell rfl mr isAgg47 sizeOf47 Zh)) ?_
 rfl
theorem Zym (x : Int) : Xl Tryz.prog 74 [encZ x] (.int .i64 x.sign) := by
 refine fn_intro func74 rfl ntmps74 nb ?_
 intro S w0 a hS h
 refine gC h (zS (zx rfl fun b1 => za rfl (zn (zs (zb (zS (zp (.fA rfl Ko) (zd rfl mr isAgg49 sizeOf49 Js ?_))))))))
 refine zv [_] rfl call117 (Zx7 x.natAbs) (za rfl (zn ?_)); intro a w h
 refine cW ?_
 refine Zb h rfl (fun hc3 => ?_) (fun hc3 => ?_)
 ·
  skip
  refine gC h (zS (za rfl (zn (zt ?_)))); clear h; intro a w h
  refine Jk h (Zd h rfl (.tmp rfl)) ?_
  rw [show x = 0 by have := of_decide_eq_true hc3; omega]; rfl
 ·
  skip
  refine gC h (zS (zp (.fA rfl Zbc) (zd rfl mr isAgg4 sizeOf4 Gh ?_)))
  refine za rfl (zn ?_); intro a w h
  refine cW ?_
  refine Zb h rfl (fun hc7 => ?_) (fun hc7 => ?_)
  ·
   skip
   refine gC h (zS (za rfl (zn (zt ?_)))); clear h; intro a w h
   refine Jk h (Zd h rfl (.tmp rfl)) ?_
   rw [Int.sign_eq_neg_one_of_neg (of_decide_eq_true hc7)]
  ·
   skip
   refine gC h (zk (zS (za rfl (zn (zt ?_))))); clear h; intro a w h
   refine Jk h (Zd h rfl (.tmp rfl)) ?_
   have h1 := of_decide_eq_false hc3; have h2 := of_decide_eq_false hc7; rw [Int.sign_eq_one_of_pos oo]
end
section
theorem Zpm (x : Int) (w : World) : (Go.convert 2 45 (.int .i64 x)).run Tryz.prog w = .ok (.int .u64 (IntKind.u64.wrap x)) w := by
 simp [go_sem]
theorem Qfb (x0_0 : Value) (x0_1 : Value) (x0_2 : Value) (w : World) : (Instr.build 53 [(0, .agg #[x0_0, x0_1, x0_2])].toArray).run Tryz.prog w = .ok (.agg #[x0_0, x0_1, x0_2, .int .u64 0, .string ⟨#[]⟩]) w := by simp [go_sem]
theorem Xa {c0 c1 c2 c3 c4 v0 v1 v2 v3 v4 : Value} : Qq #[c0, c1, c2, c3, c4] 0 [v0, v1, v2, v3, v4] = #[v0, v1, v2, v3, v4] := rfl
theorem Zx {c0 c1 c2 c3 c4 : Value} : Qu true 5 #[c0, c1, c2, c3, c4] 0 = some (.agg #[c0, c1, c2, c3, c4]) := rfl
theorem Zh8 {b off : Nat} (w : World) : (Instr.fieldAt 53 (.pointer (some ⟨b, off, none⟩)) 1).run Tryz.prog w = .ok (.pointer (some ⟨b, off + 3, none⟩)) w := by
 simp [go_sem]
theorem Zei {c0 c1 c2 c3 c4 : Value} : Qu true 2 #[c0, c1, c2, c3, c4] 3 = some (.agg #[c3, c4]) := rfl
theorem Znq (x0_0 : Value) (x0_1 : Value) (x0_2 : Value) (x1_0 : Value) (x1_1 : Value) (w : World) : (Instr.build 53 [(0, .agg #[x0_0, x0_1, x0_2]), (1, .agg #[x1_0, x1_1])].toArray).run Tryz.prog w = .ok (.agg #[x0_0, x0_1, x0_2, x1_0, x1_1]) w := by simp [go_sem]
theorem Ym {b off : Nat} (w : World) : (Instr.fieldAt 53 (.pointer (some ⟨b, off, none⟩)) 0).run Tryz.prog w = .ok (.pointer (some ⟨b, off + 0, none⟩)) w := by
 simp [go_sem]
theorem Xg {c0 c1 c2 c3 c4 : Value} : Qu true 3 #[c0, c1, c2, c3, c4] 0 = some (.agg #[c0, c1, c2]) := rfl
theorem Zd2 (n : Int) (d : Nat) (hd : d ≠ 0) : (mkRat n d).num = sgZ (decide (n.sign < 0)) (n.natAbs / n.natAbs.gcd d) ∧ (mkRat n d).den = d / n.natAbs.gcd d := by
 rw [← Rat.normalize_eq_mkRat hd, Rat.normalize_eq hd]
 refine ⟨?_, rfl⟩
 show n / ((n.natAbs.gcd d : Nat) : Int) = _
 unfold sgZ
 have hg : ((n.natAbs.gcd d : Nat) : Int) ∣ n := Int.ofNat_dvd_left.2 (Nat.gcd_dvd_left _ _)
 have hg0 : n.natAbs.gcd d ≠ 0 := fun h => hd (Nat.gcd_eq_zero_iff.1 h).2
 have hdv := Nat.gcd_dvd_left n.natAbs d
 generalize n.natAbs.gcd d = g at *
 obtain ⟨k, hk⟩ := hdv
 rw [hk, Nat.mul_div_cancel_left k (Nat.pos_of_ne_zero hg0)]
 by_cases h : n < 0
 ·
  have h2 : n.sign < 0 := by rw [Int.sign_eq_neg_one_of_neg h]; decide
  simp only [h2, decide_true, if_true]
  have : n = (g : Int) * -(k : Int) := by rw [Int.mul_neg, ← Int.natCast_mul, ← hk]; omega
  rw [this, Int.mul_ediv_cancel_left _ oo]
 ·
  have h2 : ¬ n.sign < 0 := by
   rcases Int.lt_or_eq_of_le (Int.not_lt.1 h) with h3 | h3
   · rw [Int.sign_eq_one_of_pos h3]; decide
   · rw [← h3]; decide
  simp only [h2, decide_false, Bool.false_eq_true, if_false]
  have : n = (g : Int) * (k : Int) := by rw [← Int.natCast_mul, ← hk]; omega
  rw [this, Int.mul_ediv_cancel_left _ oo]
def Jr (q : Rat) : Nat := max (Kk q.num) (wds q.den).length
theorem Gt {q : Rat} {k : Nat} (h : Jr q ≤ k) : Kk q.num ≤ k ∧ (wds q.den).length ≤ k := by unfold Jr at h; omega
theorem wds_ge {n : Nat} (h : n ≠ 0) : 4294967296 ^ ((wds n).length - 1) ≤ n := by
 have hne : wds n ≠ [] := fun e => h (by rw [← Qp n, e]; rfl)
 have h2 := Qp n
 rw [← List.dropLast_concat_getLast hne, Jf] at h2
 have h3 := Zgo _ hne
 simp only [Zr, List.length_dropLast, Nat.mul_zero, Nat.add_zero] at h2
 have h5 : 4294967296 ^ ((wds n).length - 1) * 1 ≤ 4294967296 ^ ((wds n).length - 1) * (wds n).getLast hne := Nat.mul_le_mul_left _ oo
 omega
theorem Yx {n k : Nat} (h : n < 4294967296 ^ k) : (wds n).length ≤ k := by
 by_cases h0 : n = 0
 · subst h0; simp [Yw]
 ·
  have h1 := wds_ge h0
  have h2 := (Nat.pow_lt_pow_iff_right (a := 4294967296) dd).1 (Nat.lt_of_le_of_lt h1 h)
  omega
theorem Zbh (n : Nat) : n < 4294967296 ^ (wds n).length := by
 have := Yb (Wd.wds n); rwa [Qp] at this
theorem Zaf (n m : Nat) : (wds (n * m)).length ≤ (wds n).length + (wds m).length :=
 Yx (by rw [Nat.pow_add]; exact Nat.mul_lt_mul'' (Zbh n) (Zbh m))
theorem Zod (n m : Nat) : (wds (n + m)).length ≤ max (wds n).length (wds m).length + 1 := Yx (by
 have h1 := Zbh n
 have h2 := Zbh m
 have h3 : 4294967296 ^ (wds n).length ≤ 4294967296 ^ max (wds n).length (wds m).length := Nat.pow_le_pow_right dd oo
 have h4 : 4294967296 ^ (wds m).length ≤ 4294967296 ^ max (wds n).length (wds m).length := Nat.pow_le_pow_right dd oo
 rw [Nat.pow_succ]; omega)
theorem Zdl (x y : Int) : Kk (x * y) ≤ Kk x + Kk y := by unfold Kk; rw [Int.natAbs_mul]; exact Zaf _ _
theorem Zkw (x y : Int) : Kk (x + y) ≤ max (Kk x) (Kk y) + 1 := by
 unfold Kk; exact Nat.le_trans (Xx (Int.natAbs_add_le x y)) (Zod _ _)
theorem Zdm (n : Int) (d : Nat) (hd : d ≠ 0) : Jr (mkRat n d) ≤ max (Kk n) (wds d).length := by
 obtain ⟨h1, h2⟩ := Zd2 n d hd
 unfold Jr Kk
 rw [h1, h2, Za7]
 have a1 := Xx (Nat.div_le_self n.natAbs (n.natAbs.gcd d))
 have a2 := Xx (Nat.div_le_self d (n.natAbs.gcd d))
 omega
theorem Zet (a b : Rat) : Jr (a + b) ≤ Jr a + Jr b + 1 := by
 rw [Rat.add_def']
 have h := Zdm (a.num * b.den + b.num * a.den) (a.den * b.den) (Nat.mul_ne_zero a.den_nz b.den_nz)
 have h1 := Zkw (a.num * b.den) (b.num * a.den)
 have h2 := Zdl a.num b.den
 have h3 := Zdl b.num a.den
 have h4 := Zaf a.den b.den
 have e1 : Kk (a.den : Int) = (wds a.den).length := rfl
 have e2 : Kk (b.den : Int) = (wds b.den).length := rfl
 unfold Jr at h ⊢
 omega
theorem Za3 (a b : Rat) : Jr (a * b) ≤ Jr a + Jr b := by
 rw [Rat.mul_def']
 have h := Zdm (a.num * b.num) (a.den * b.den) (Nat.mul_ne_zero a.den_nz b.den_nz)
 have h2 := Zdl a.num b.num
 have h4 := Zaf a.den b.den
 unfold Jr at h ⊢
 omega
theorem Zsa {a b : Rat} (h : a.den = b.den) : mkRat (a.num + b.num) a.den = a + b := by
 rw [Rat.add_def', ← h, ← Int.add_mul, Rat.mkRat_mul_right a.den_nz]
theorem Zxx {a b : Rat} (ha : a.den = 1) (hb : b.den = 1) : ((a.num + b.num : Int) : Rat) = a + b := by
 rw [← Zsa (a := a) (b := b) oo, ha, Rat.mkRat_one]
theorem Zv5 {a b : Rat} (ha : a.den = 1) (hb : b.den = 1) : ((a.num * b.num : Int) : Rat) = a * b := by
 rw [Rat.mul_def', ha, hb, Nat.mul_one, Rat.mkRat_one]
theorem Zeu (y : Rat) (hy : y ≠ 0) : mkRat (sgZ (decide (y.num.sign < 0)) y.den) y.num.natAbs = y⁻¹ := by
 rw [Rat.inv_def]
 have h0 : y.num ≠ 0 := fun h => hy (Rat.num_eq_zero.1 h)
 unfold sgZ
 generalize y.num = m at *
 rcases Int.lt_or_gt_of_ne h0 with h | h
 ·
  have h2 : m.sign < 0 := by rw [Int.sign_eq_neg_one_of_neg h]; decide
  simp only [h2, decide_true, if_true]
  obtain ⟨k, rfl⟩ : ∃ k : Nat, m = -(k : Int) := ⟨m.natAbs, oo⟩
  have e : Rat.divInt (y.den : Int) (-(k : Int)) = Rat.divInt (-(y.den : Int)) (k : Int) := by
   have := Rat.neg_divInt_neg (-(y.den : Int)) (k : Int)
   rwa [Int.neg_neg] at this
  rw [e, Rat.divInt_ofNat, Int.natAbs_neg, Int.natAbs_natCast]
 ·
  have h2 : ¬ m.sign < 0 := by rw [Int.sign_eq_one_of_pos h]; decide
  simp only [h2, decide_false, Bool.false_eq_true, if_false]
  obtain ⟨k, rfl⟩ : ∃ k : Nat, m = (k : Int) := ⟨m.natAbs, oo⟩
  rw [Rat.divInt_ofNat, Int.natAbs_natCast]
theorem Zvc (x : Int) (w : World) : (Op.unary .neg (.int .u64 x)).run Tryz.prog w = .ok (.int .u64 (IntKind.u64.wrap (0 - x))) w := by simp [Op.unary, Op.intArith]
theorem C_ZOf (n : Int) (h0 : -9223372036854775808 ≤ n) (h1 : n ≤ 9223372036854775807) : Xl Tryz.prog 59 [.int .i64 n] (encZ n) := by
 refine fn_intro func59 rfl ntmps59 nb ?_
 intro S w0 a hS h
 refine gC h (zS (zz zeroValue51 fun b2 => zn (zs (zS (zm rfl (zp (.lss rfl rfl) (zn ?_))))))); clear h; intro a w h
 refine cW ?_
 refine Zb h rfl (fun hc4 => ?_) (fun hc4 => ?_)
 ·
  skip
  have hn : n < 0 := of_decide_eq_true hc4
  refine gC h (zS (zm rfl (zp (.convert rfl (Zpm _)) (zp (.unOp rfl (fun w => by rw [Zvc, Zav, Zav, show (0 - n % 18446744073709551616) % 18446744073709551616 = ((n.natAbs : Nat) : Int) by omega])) (zv [_] rfl call98 (C_Of n.natAbs oo) (zv [_, _] rfl call75 (Zde true n.natAbs) (zt' rfl rfl Qw uu sizeOf51 rfl nb rfl ?_))))))); clear h; intro a w h
  refine wpList_nil (wp_ret ?_)
  refine Jk h (Zd h rfl (.cell rfl mr isAgg51 sizeOf51 Zs)) ?_
  rw [show sgZ true n.natAbs = n from by unfold sgZ; simp; omega]
 ·
  skip
  have hn : ¬ n < 0 := of_decide_eq_false hc4
  refine gC h (zk (zS (zm rfl (zp (Pure1.cast (v' := .int .u64 ((n.natAbs : Nat) : Int)) (.convert rfl (Zpm _)) (by rw [Zav]; congr 1; omega)) (zv [_] rfl call98 (C_Of n.natAbs oo) (zv [_, _] rfl call75 (Zde false n.natAbs) (zt' rfl rfl Qw uu sizeOf51 rfl nb rfl ?_))))))); clear h; intro a w h
  refine wpList_nil (wp_ret ?_)
  refine Jk h (Zd h rfl (.cell rfl mr isAgg51 sizeOf51 Zs)) ?_
  rw [show sgZ false n.natAbs = n from by unfold sgZ; simp; omega]
theorem Zps (n : Int) : Xl Tryz.prog 58 [encZ n] (Vv (n : Rat)) := by
 refine fn_intro func58 rfl ntmps58 nb ?_
 intro S w0 a hS h
 refine gC h (zS (zx rfl fun b1 => zz zeroValue53 fun b2 => zn (zS (zd rfl mr isAgg51 sizeOf51 Zs ?_))))
 refine zp (.build [(_, _)] rfl (Qfb _ _ _)) (zt' rfl rfl Xa uu sizeOf53 rfl nb rfl ?_); intro a w h
 refine wpList_nil (wp_ret ?_)
 refine Jk h (Zd h rfl (.cell rfl mr isAgg53 sizeOf53 Zx)) ?_
 rfl
theorem Zf6 (x : Rat) : Xl Tryz.prog 54 [Vv x] (.bool (decide (x.den = 1))) := by
 refine fn_intro func54 rfl ntmps54 nb ?_
 intro S w0 a hS h
 refine gC h (zS (zx rfl fun b1 => za rfl (zn (zS (zp (.fA rfl Zh8) (zd rfl mr isAgg47 sizeOf47 Zei ?_))))))
 refine zp (Pure1.cast (v' := Xk 0) (.build [] rfl (Zip)) (by rfl)) (zp (.binOp rfl rfl (fun _ => Zkj _ _ (x.den - 1) 0 _)) (za rfl (zn (zt ?_)))); intro a w h
 refine Jk h (Zd h rfl (.tmp rfl)) ?_
 have := x.den_pos; show Value.bool _ = Value.bool _; congr 1; apply decide_eq_decide.2; omega
theorem Ziz (x : Rat) (h0 : (wds x.den).length ≤ 400000000000) : Xl Tryz.prog 57 [Vv x] (Xk x.den) := by
 refine fn_intro func57 rfl ntmps57 nb ?_
 intro S w0 a hS h
 refine gC h (zS (zx rfl fun b1 => zz zeroValue47 fun b2 => zn (zs (yD Za [0, 1, 2, 3, 4] (Zf kk) (yp rfl (.fA rfl Zh8) (yd rfl rfl mr isAgg47 sizeOf47 Zei ?_)))))); clear h
 refine yv [_] rfl rfl call98 (C_Of 1 dd) (yv [_, _] rfl rfl call97 (C_Add (x.den - 1) 1 (Nat.le_trans (Xx (Nat.sub_le _ _)) oo) (Nat.le_trans (Yp dd) dd)) (yt rfl rfl rfl Zl uu sizeOf47 rfl nb rfl ?_))
 refine yn (zt ?_); intro a w h
 refine Jk h (Zd h rfl (.cell rfl mr isAgg47 sizeOf47 Zh)) ?_
 rw [Nat.sub_add_cancel x.den_pos]
theorem Zsi (x : Rat) (h0 : (wds x.den).length ≤ 400000000000) : Xl Tryz.prog 130 [Vv x] (encZ (x.den : Int)) := by
 refine fn_intro func130 rfl ntmps130 nb ?_
 intro S w0 a hS h
 refine gC h (zS (zx rfl fun b1 => zz zeroValue51 fun b2 => zn (zS (zd rfl mr isAgg53 sizeOf53 Zx ?_))))
 refine zv [_] rfl call57 (Ziz x h0) (zv [_, _] rfl call75 (Zde false x.den) (zt' rfl rfl Qw uu sizeOf51 rfl nb rfl ?_)); intro a w h
 refine wpList_nil (wp_ret ?_)
 refine Jk h (Zd h rfl (.cell rfl mr isAgg51 sizeOf51 Zs)) ?_
 rfl
theorem Zfd (n : Int) (d : Nat) (hd : d ≠ 0) (hn : Kk n ≤ 400000000000) (hdl : (wds d).length ≤ 400000000000) : Xl Tryz.prog 84 [encZ n, Xk d] (Vv (mkRat n d)) := by
 unfold Kk at hn
 have hg0 : n.natAbs.gcd d ≠ 0 := fun h => hd (Nat.gcd_eq_zero_iff.1 h).2
 have hgl : (wds (n.natAbs.gcd d)).length ≤ 400000000000 := Nat.le_trans (Xx (Nat.gcd_le_right _ (Nat.pos_of_ne_zero hd))) hdl
 have hq : 1 ≤ d / n.natAbs.gcd d := Nat.div_pos (Nat.gcd_le_right _ (Nat.pos_of_ne_zero hd)) (Nat.pos_of_ne_zero hg0)
 have hql : (wds (d / n.natAbs.gcd d)).length ≤ 400000000000 := Nat.le_trans (Xx (Nat.div_le_self _ _)) hdl
 obtain ⟨hm1, hm2⟩ := Zd2 n d hd
 refine fn_intro func84 rfl ntmps84 nb ?_
 intro S w0 a hS h
 refine gC h (zS (zx rfl fun b2 => zx rfl fun b3 => zz zeroValue53 fun b4 => zn (zs (yD Za [0, 2, 1, 3, 4, 5] (Kv ⟨.inl rfl, .inl rfl, .inl rfl, .inl rfl, .inr ⟨5, 47, _, _, _, rfl, rfl, by decide, _, zeroValue47⟩, .inl rfl, trivial⟩) (yd rfl rfl mr isAgg51 sizeOf51 Zs ?_))))); clear h
 refine yd rfl rfl mr isAgg47 sizeOf47 Zh ?_
 refine yv [_] rfl rfl call76 (Zj6 n) (yv [_, _] rfl rfl call124 (C_Gcd _ _ oo oo) (yz rfl zeroValue47 fun b5 => yt rfl rfl rfl Zl uu sizeOf47 rfl nb rfl ?_))
 refine yn (zs (yD Za [0, 2, 1, 3, 4, 5, 6, 7, 8, 9, 10, 11, 12] (Kv ⟨.inl rfl, .inl rfl, .inl rfl, .inl rfl, .inl rfl, .inl rfl, .inl rfl, .inl rfl, .inr ⟨6, 47, _, _, _, rfl, rfl, by decide, _, zeroValue47⟩, .inr ⟨7, 47, _, _, _, rfl, rfl, by decide, _, zeroValue47⟩, .inl rfl, .inl rfl, .inl rfl, trivial⟩) (yd rfl rfl mr isAgg51 sizeOf51 Zs ?_)))
 refine yd rfl rfl mr isAgg47 sizeOf47 Zh ?_
 refine yv [_] rfl rfl call76 (Zj6 n) (yv [_, _] rfl rfl call125 (Qge n.natAbs (n.natAbs.gcd d) oo oo hg0) (ym rfl rfl (yp rfl (.eX rfl) (yp rfl (.eX rfl) (yp rfl (.eX rfl) (yz rfl zeroValue47 fun b6 => yz rfl zeroValue47 fun b7 => yt rfl rfl rfl Zl uu sizeOf47 rfl nb rfl ?_))))))
 refine yt rfl rfl rfl Zl uu sizeOf47 rfl nb rfl ?_
 refine yp rfl (.assign rfl) (yn (zS (zd rfl mr isAgg47 sizeOf47 Zh ?_)))
 refine zd rfl mr isAgg47 sizeOf47 Zh ?_
 refine zv [_, _] rfl call125 (Qge d (n.natAbs.gcd d) oo oo hg0) (zm rfl (zp (.eX rfl) (zp (.eX rfl) (zp (.eX rfl) (zz zeroValue47 fun b9 => zz zeroValue47 fun b10 => zt' rfl rfl Zl uu sizeOf47 rfl nb rfl ?_)))))
 refine zt' rfl rfl Zl uu sizeOf47 rfl nb rfl ?_; intro a w h
 refine gL h (za rfl (zn (zs (yD Za [0, 1, 2, 3, 4, 5, 6] (Zf kk) (yd rfl rfl mr isAgg47 sizeOf47 Zh ?_))))); clear h
 refine yv [_] rfl rfl call98 (C_Of 1 dd) (yv [_, _] rfl rfl call126 (Qf1 _ 1 oo (Nat.le_trans (Yp dd) dd)) (ym rfl rfl (yp rfl (.eX rfl) (yp rfl (.eX rfl) (yt rfl rfl rfl Zl uu sizeOf47 rfl nb rfl ?_)))))
 refine yn (zs (yD Za [0, 3, 5, 1, 2, 4, 6, 7] (Zf kk) (yd rfl rfl mr isAgg51 sizeOf51 Zs ?_)))
 refine yd rfl rfl mr isAgg47 sizeOf47 Zh ?_
 refine yd rfl rfl mr isAgg47 sizeOf47 Zh ?_
 refine yv [_] rfl rfl call74 (Zym n) (yp rfl (.lss rfl rfl) (yv [_, _] rfl rfl call75 (Zde _ _) (yp rfl (.build [(_, _), (_, _)] rfl (Znq _ _ _ _ _)) (yt rfl rfl rfl Xa uu sizeOf53 rfl nb rfl ?_))))
 refine yn (zt ?_); intro a w h
 refine Jk h (Zd h rfl (.cell rfl mr isAgg53 sizeOf53 Zx)) ?_
 rw [Vv, hm1, hm2]
theorem Qcz (x y : Rat) (ha : Jr x ≤ 100000000000) (hb : Jr y ≤ 100000000000) : Xl Tryz.prog 86 [Vv x, Vv y] (Vv (x + y)) := by
 obtain ⟨ha1, ha2⟩ := Gt ha
 obtain ⟨hb1, hb2⟩ := Gt hb
 have hm1 := Zdl x.num (y.den : Int)
 have hm2 := Zdl y.num (x.den : Int)
 have hs := Zkw (x.num * (y.den : Int)) (y.num * (x.den : Int))
 have hs2 := Zkw x.num y.num
 have hda : Kk (x.den : Int) = (wds x.den).length := rfl
 have hdb : Kk (y.den : Int) = (wds y.den).length := rfl
 have hdm := Zaf x.den y.den
 have hpa := x.den_pos
 have hpb := y.den_pos
 refine fn_intro func86 rfl ntmps86 nb ?_
 intro S w0 a hS h
 refine gC h (zS (zx rfl fun b2 => zx rfl fun b3 => zz zeroValue53 fun b4 => zn (zs (zb (zS (zd rfl mr isAgg53 sizeOf53 Zx ?_))))))
 refine zv [_] rfl call54 (Zf6 x) (zm rfl ?_); intro a w h
 refine Zg h (fun hc8 h => ?_) (fun hc8 h => ?_)
 focus
  have hwa : x.den = 1 := of_decide_eq_true hc8
  refine Zo 8 h rfl rfl (Vb h rfl mr isAgg53 sizeOf53 Zx dd ?_); clear h; intro a h
  refine Zo 8 h rfl rfl (Za0 h (vs := [_]) rfl call54 (Zf6 y) dd ?_); clear h; intro a w h
  refine Zg h (fun hc10 h => ?_) (fun hc10 h => ?_)
  ·
   skip
   have hwb : y.den = 1 := of_decide_eq_true hc10
   refine gL h (zp (.pickT rfl rfl) (za rfl (zn ?_))); clear h; intro a w h
   refine cW ?_
   refine Zj h rfl ?_
   refine gC h (zS (zp (.fA rfl Ym) (zd rfl mr isAgg51 sizeOf51 Xg ?_)))
   refine zp (.fA rfl Ym) (zd rfl mr isAgg51 sizeOf51 Xg ?_)
   refine zv [_, _] rfl call129 (Zyn _ _ oo oo) (zv [_] rfl call58 (Zps _) (zt' rfl rfl Xa uu sizeOf53 rfl nb rfl ?_)); intro a w h
   refine wpList_nil (wp_ret ?_)
   refine Jk h (Zd h rfl (.cell rfl mr isAgg53 sizeOf53 Zx)) ?_
   rw [show ((x.num + y.num : Int) : Rat) = x + y from Zxx hwa hwb]
  have hwb : y.den ≠ 1 := of_decide_eq_false hc10
  refine gL h (zp (.pickT rfl rfl) (za rfl (zn ?_))); clear h; intro a w h
 rotate_left
 focus
  have hwa : x.den ≠ 1 := of_decide_eq_false hc8
  refine gL h (zo 8 rfl rfl rfl (zo 8 rfl rfl rfl (zp (.pickF rfl rfl) (za rfl (zn ?_))))); clear h; intro a w h
 all_goals
  refine cW ?_
  refine Ze h rfl ?_
  refine gC h (zS (zp (.fA rfl Zh8) (zd rfl mr isAgg47 sizeOf47 Zei ?_)))
  refine zp (.fA rfl Zh8) (zd rfl mr isAgg47 sizeOf47 Zei ?_)
  refine zp (.binOp rfl rfl (fun _ => Zkj _ _ (x.den - 1) (y.den - 1) _)) ?_; intro a w h
  refine Zg h (fun hc23 h => ?_) (fun hc23 h => ?_)
  ·
   skip
   have hde : x.den = y.den := dT hc23
   refine gL h (za rfl (zn ?_)); clear h; intro a w h
   refine cW ?_
   refine Zj h rfl ?_
   refine gC h (zs (yD Za [0, 1, 2, 3, 5, 4, 6, 7, 8] (Zf kk) (yp rfl (.fA rfl Ym) (yd rfl rfl mr isAgg51 sizeOf51 Xg ?_)))); clear h
   refine yp rfl (.fA rfl Ym) (yd rfl rfl mr isAgg51 sizeOf51 Xg ?_)
   refine yd rfl rfl mr isAgg53 sizeOf53 Zx ?_
   refine yv [_, _] rfl rfl call129 (Zyn _ _ oo oo) (yv [_] rfl rfl call57 (Ziz x oo) (yv [_, _] rfl rfl call84 (Zfd _ _ oo oo oo) (yt rfl rfl rfl Xa uu sizeOf53 rfl nb rfl ?_)))
   refine yn (zt ?_); intro a w h
   refine Jk h (Zd h rfl (.cell rfl mr isAgg53 sizeOf53 Zx)) ?_
   rw [show mkRat (x.num + y.num) x.den = x + y from Zsa hde]
  ·
   skip
   have hde : x.den ≠ y.den := dF hc23
   refine gL h (za rfl (zn ?_)); clear h; intro a w h
   refine cW ?_
   refine Ze h rfl ?_
   refine gC h (zk (zs (yD Za [0, 1, 2, 5, 6, 7, 11, 13, 3, 4, 8, 9, 10, 12, 14, 15, 16, 17] (Zf kk) (yp rfl (.fA rfl Ym) (yd rfl rfl mr isAgg51 sizeOf51 Xg ?_))))); clear h
   refine yd rfl rfl mr isAgg53 sizeOf53 Zx ?_
   refine yp rfl (.fA rfl Ym) (yd rfl rfl mr isAgg51 sizeOf51 Xg ?_)
   refine yd rfl rfl mr isAgg53 sizeOf53 Zx ?_
   refine yd rfl rfl mr isAgg53 sizeOf53 Zx ?_
   refine yd rfl rfl mr isAgg53 sizeOf53 Zx ?_
   refine yv [_] rfl rfl call130 (Zsi y oo) (yv [_, _] rfl rfl call83 (Zsn _ _ oo oo) (yv [_] rfl rfl call130 (Zsi x oo) (yv [_, _] rfl rfl call83 (Zsn _ _ oo oo) (yv [_, _] rfl rfl call129 (Zyn _ _ oo oo) (yv [_] rfl rfl call57 (Ziz x oo) (yv [_] rfl rfl call57 (Ziz y oo) (yv [_, _] rfl rfl call85 (Qga _ _ oo oo) (yv [_, _] rfl rfl call84 (Zfd _ _ (Nat.mul_ne_zero oo oo) oo oo) (yt rfl rfl rfl Xa uu sizeOf53 rfl nb rfl ?_)))))))))
   refine yn (zt ?_); intro a w h
   refine Jk h (Zd h rfl (.cell rfl mr isAgg53 sizeOf53 Zx)) ?_
   rw [Rat.add_def']
theorem Zyq (x y : Rat) (ha : Jr x ≤ 100000000000) (hb : Jr y ≤ 100000000000) : Xl Tryz.prog 50 [Vv x, Vv y] (Vv (x * y)) := by
 obtain ⟨ha1, ha2⟩ := Gt ha
 obtain ⟨hb1, hb2⟩ := Gt hb
 have hm1 := Zdl x.num y.num
 have hdm := Zaf x.den y.den
 have hpa := x.den_pos
 have hpb := y.den_pos
 refine fn_intro func50 rfl ntmps50 nb ?_
 intro S w0 a hS h
 refine gC h (zS (zx rfl fun b2 => zx rfl fun b3 => zz zeroValue53 fun b4 => zn (zs (zS (zd rfl mr isAgg53 sizeOf53 Zx ?_)))))
 refine zv [_] rfl call54 (Zf6 x) (zm rfl ?_); intro a w h
 refine Zg h (fun hc7 h => ?_) (fun hc7 h => ?_)
 focus
  have hwa : x.den = 1 := of_decide_eq_true hc7
  refine Zo 7 h rfl rfl (Vb h rfl mr isAgg53 sizeOf53 Zx dd ?_); clear h; intro a h
  refine Zo 7 h rfl rfl (Za0 h (vs := [_]) rfl call54 (Zf6 y) dd ?_); clear h; intro a w h
  refine Zg h (fun hc9 h => ?_) (fun hc9 h => ?_)
  ·
   skip
   have hwb : y.den = 1 := of_decide_eq_true hc9
   refine gL h (zp (.pickT rfl rfl) (zn ?_)); clear h; intro a w h
   refine cW ?_
   refine Zj h rfl ?_
   refine gC h (zS (zp (.fA rfl Ym) (zd rfl mr isAgg51 sizeOf51 Xg ?_)))
   refine zp (.fA rfl Ym) (zd rfl mr isAgg51 sizeOf51 Xg ?_)
   refine zv [_, _] rfl call83 (Zsn _ _ oo oo) (zv [_] rfl call58 (Zps _) (zt' rfl rfl Xa uu sizeOf53 rfl nb rfl ?_)); intro a w h
   refine wpList_nil (wp_ret ?_)
   refine Jk h (Zd h rfl (.cell rfl mr isAgg53 sizeOf53 Zx)) ?_
   rw [show ((x.num * y.num : Int) : Rat) = x * y from Zv5 hwa hwb]
  refine gL h (zp (.pickT rfl rfl) (zn ?_)); clear h; intro a w h
 rotate_left
 focus
  refine gL h (zo 7 rfl rfl rfl (zo 7 rfl rfl rfl (zp (.pickF rfl rfl) (zn ?_)))); clear h; intro a w h
 all_goals
  refine cW ?_
  refine Ze h rfl ?_
  refine gC h (zk (zs (yD Za [0, 1, 2, 3, 5, 7, 4, 6, 8, 9, 10, 11] (Zf kk) (yp rfl (.fA rfl Ym) (yd rfl rfl mr isAgg51 sizeOf51 Xg ?_))))); clear h
  refine yp rfl (.fA rfl Ym) (yd rfl rfl mr isAgg51 sizeOf51 Xg ?_)
  refine yd rfl rfl mr isAgg53 sizeOf53 Zx ?_
  refine yd rfl rfl mr isAgg53 sizeOf53 Zx ?_
  refine yv [_, _] rfl rfl call83 (Zsn _ _ oo oo) (yv [_] rfl rfl call57 (Ziz x oo) (yv [_] rfl rfl call57 (Ziz y oo) (yv [_, _] rfl rfl call85 (Qga _ _ oo oo) (yv [_, _] rfl rfl call84 (Zfd _ _ (Nat.mul_ne_zero oo oo) oo oo) (yt rfl rfl rfl Xa uu sizeOf53 rfl nb rfl ?_)))))
  refine yn (zt ?_); intro a w h
  refine Jk h (Zd h rfl (.cell rfl mr isAgg53 sizeOf53 Zx)) ?_
  rw [Rat.mul_def']
theorem Zf7 (x : Rat) : Xl Tryz.prog 43 [Vv x] (.int .i64 x.num.sign) := by
 refine fn_intro func43 rfl ntmps43 nb ?_
 intro S w0 a hS h
 refine gC h (zS (zx rfl fun b1 => za rfl (zn (zS (zp (.fA rfl Ym) (zd rfl mr isAgg51 sizeOf51 Xg ?_))))))
 refine zv [_] rfl call74 (Zym x.num) (za rfl (zn (zt ?_))); intro a w h
 exact Zeh h
theorem Zj7 (n : Int) (h0 : -9223372036854775808 ≤ n) (h1 : n ≤ 9223372036854775807) : Xl Tryz.prog 22 [.int .i64 n] (Vv (n : Rat)) := by
 refine fn_intro func22 rfl ntmps22 nb ?_
 intro S w0 a hS h
 refine gC h (zS (zz zeroValue53 fun b2 => zn (zS (zm rfl (zv [_] rfl call59 (C_ZOf n h0 h1) (zv [_] rfl call58 (Zps n) (zt' rfl rfl Xa uu sizeOf53 rfl nb rfl ?_))))))); clear h; intro a w h
 refine wpList_nil (wp_ret ?_)
 refine Jk h (Zd h rfl (.cell rfl mr isAgg53 sizeOf53 Zx)) ?_
 rfl
theorem C_inv (y : Rat) (hy : y ≠ 0) (h1 : Kk (sgZ (decide (y.num.sign < 0)) y.den) ≤ 400000000000) (h2 : (wds y.num.natAbs).length ≤ 400000000000) :
  Xl Tryz.prog 84 [encZ (sgZ (decide (y.num.sign < 0)) y.den), Xk y.num.natAbs] (Vv y⁻¹) := by
 rw [← Zeu y hy]
 exact Zfd _ _ (fun h => hy (Rat.num_eq_zero.1 (Int.natAbs_eq_zero.1 h))) h1 h2
theorem C_QDiv (x y : Rat) (hy : y ≠ 0) (hx : Jr x ≤ 100000000000) (hyl : Jr y ≤ 100000000000) : Xl Tryz.prog 90 [Vv x, Vv y] (.tuple #[Vv (x / y), .int .i64 0]) := by
 obtain ⟨hb1, hb2⟩ := Gt hyl
 have h0 : y.num ≠ 0 := fun h => hy (Rat.num_eq_zero.1 h)
 have hs : Kk (sgZ (decide (y.num.sign < 0)) y.den) = (wds y.den).length := by unfold Kk; rw [Za7]
 have hz : (wds y.num.natAbs).length = Kk y.num := rfl
 have hinv := Zdm (sgZ (decide (y.num.sign < 0)) y.den) y.num.natAbs oo
 rw [Zeu y hy] at hinv
 refine fn_intro func90 rfl ntmps90 nb ?_
 intro S w0 a hS h
 refine gC h (zS (zx rfl fun b2 => zx rfl fun b3 => zz zeroValue53 fun b4 => za rfl (zn (zs (zS (zd rfl mr isAgg53 sizeOf53 Zx ?_))))))
 refine zv [_] rfl call43 (Zf7 y) (zp (.eql rfl rfl) (zn ?_)); intro a w h
 refine cW ?_
 refine Zb h rfl (fun hc9 => (by exfalso; have := eq_of_beq hc9; exact h0 (Int.sign_eq_zero_iff_zero.1 this))) (fun hc9 => ?_)
 refine gC h (zk (zs (yD Za [0, 3, 6, 7, 1, 2, 4, 5, 8, 9, 10, 11] (Kv ⟨.inl rfl, .inl rfl, .inl rfl, .inl rfl, .inl rfl, .inl rfl, .inl rfl, .inl rfl, .inl rfl, .inl rfl, .inr ⟨6, 53, _, _, _, rfl, rfl, by decide, _, zeroValue53⟩, .inl rfl, trivial⟩) (yd rfl rfl mr isAgg53 sizeOf53 Zx ?_)))); clear h
 refine yd rfl rfl mr isAgg53 sizeOf53 Zx ?_
 refine yp rfl (.fA rfl Ym) (yd rfl rfl mr isAgg51 sizeOf51 Xg ?_)
 refine yv [_] rfl rfl call43 (Zf7 y) (yp rfl (.lss rfl rfl) (yv [_] rfl rfl call57 (Ziz y oo) (yv [_, _] rfl rfl call75 (Zde _ _) (yv [_] rfl rfl call76 (Zj6 y.num) (yv [_, _] rfl rfl call84 (C_inv y hy oo oo) (yz rfl zeroValue53 fun b6 => yt rfl rfl rfl Xa uu sizeOf53 rfl nb rfl ?_))))))
 refine yn (zS (zd rfl mr isAgg53 sizeOf53 Zx ?_))
 refine zd rfl mr isAgg53 sizeOf53 Zx ?_
 refine zv [_, _] rfl call50 (Zyq x y⁻¹ hx oo) (zt' rfl rfl Xa uu sizeOf53 rfl nb rfl ?_)
 refine za rfl (zn (zt ?_)); intro a w h
 refine Jk h (Ql h rfl (.cell rfl mr isAgg53 sizeOf53 Zx) (.tmp rfl)) ?_
 rw [Rat.div_def]
end
section
theorem Zg9 (w : World) : (zeroValue 53).run Tryz.prog w = .ok (Vv 0) w := zeroValue53 w
theorem Zy2 (w : World) : (zeroValue 47).run Tryz.prog w = .ok (Xk 0) w := zeroValue47 w
theorem zeroZ (w : World) : (zeroValue 51).run Tryz.prog w = .ok (encZ 0) w := zeroValue51 w
abbrev encP (p : Rat × Rat × Rat) : Value := .agg #[.int .u64 (Gw p.1.num.natAbs), .string (Va p.1.num.natAbs), .bool (decide (p.1.num < 0)), .int .u64 (Gw (p.1.den - 1)), .string (Va (p.1.den - 1)),
 .int .u64 (Gw p.2.1.num.natAbs), .string (Va p.2.1.num.natAbs), .bool (decide (p.2.1.num < 0)), .int .u64 (Gw (p.2.1.den - 1)), .string (Va (p.2.1.den - 1)),
 .int .u64 (Gw p.2.2.num.natAbs), .string (Va p.2.2.num.natAbs), .bool (decide (p.2.2.num < 0)), .int .u64 (Gw (p.2.2.den - 1)), .string (Va (p.2.2.den - 1))]
theorem Zrq {x y : Rat} : (Gw x.num.natAbs = Gw y.num.natAbs ∧ Va x.num.natAbs = Va y.num.natAbs ∧ decide (x.num < 0) = decide (y.num < 0) ∧ Gw (x.den - 1) = Gw (y.den - 1) ∧ Va (x.den - 1) = Va (y.den - 1)) ↔ x = y := by
 constructor
 ·
  rintro ⟨h1, h2, h3, h4, h5⟩
  have e1 := Zk7 h1 h2
  have e2 := Zk7 h4 h5
  have := x.den_pos
  have := y.den_pos
  refine Rat.ext ?_ oo
  have h3' : (x.num < 0) ↔ (y.num < 0) := decide_eq_decide.1 h3
  omega
 · rintro rfl; exact ⟨rfl, rfl, rfl, rfl, rfl⟩
theorem str_eq (n m : Nat) : ((Va n).toList = (Va m).toList) ↔ Va n = Va m := by have := Zbk (Va n) (Va m); rw [Bool.eq_iff_iff] at this; simpa using this
theorem Qdo (X Y : Operand) (x y : Rat) (w : World) : (do eqGuard .neq 53 X Y (Vv x) (Vv y); Go.binOp .neq 53 (Vv x) (Vv y) : Sem Value).run Tryz.prog w = .ok (.bool (!decide (x = y))) w := by
 simp [go_sem]
 have hq := @Zrq x y
 rw [decide_eq_decide] at hq
 simp only [← str_eq] at hq
 by_cases e : x = y
 ·
  obtain ⟨h1, h2, h3, h4, h5⟩ := hq.2 e
  rw [if_pos h1, if_pos h2, if_pos h3, if_pos h4, if_pos h5]; simp [e]
 ·
  rw [show decide (x = y) = false from by simp [e]]
  (repeat' split) <;> first | rfl | (exact absurd (hq.1 ⟨‹_›, ‹_›, ‹_›, ‹_›, ‹_›⟩) e)
theorem nestQ {α : Type} (x y : Rat) (A B : α) : (if Gw x.num.natAbs = Gw y.num.natAbs then if (Va x.num.natAbs).toList = (Va y.num.natAbs).toList then if x.num < 0 ↔ y.num < 0 then if Gw (x.den - 1) = Gw (y.den - 1) then
  if (Va (x.den - 1)).toList = (Va (y.den - 1)).toList then A else B else B else B else B else B) = if x = y then A else B := by
 have hq := @Zrq x y
 rw [decide_eq_decide] at hq
 simp only [← str_eq] at hq
 by_cases e : x = y
 ·
  obtain ⟨h1, h2, h3, h4, h5⟩ := hq.2 e
  rw [if_pos h1, if_pos h2, if_pos h3, if_pos h4, if_pos h5, if_pos e]
 ·
  rw [if_neg e]
  (repeat' split) <;> first | rfl | (exact absurd (hq.1 ⟨‹_›, ‹_›, ‹_›, ‹_›, ‹_›⟩) e)
theorem Zz9 (x : Rat) : Jr (-x) = Jr x := by simp [Jr, Kk, Rat.neg_num, Rat.neg_den]
theorem Jp (n : Int) (h0 : -9223372036854775808 ≤ n) (h1 : n ≤ 9223372036854775807) : Jr ((n : Int) : Rat) ≤ 2 := by
 have : (wds n.natAbs).length ≤ 2 := Yp oo
 unfold Jr Kk
 rw [Rat.num_intCast, Rat.den_intCast]
 have h2 : (wds 1).length ≤ 2 := Yp dd
 omega
theorem Zwg : Jr 0 ≤ 2 := Jp 0 oo oo
theorem Zrg (y : Rat) : Jr y⁻¹ ≤ Jr y := by
 by_cases hy : y = 0
 · subst hy; rw [Rat.inv_zero]; exact Nat.le_refl _
 ·
  rw [← Zeu y hy]
  have h0 : y.num ≠ 0 := fun h => hy (Rat.num_eq_zero.1 h)
  have := Zdm (sgZ (decide (y.num.sign < 0)) y.den) y.num.natAbs oo
  unfold Kk at this
  rw [Za7] at this
  unfold Jr Kk at *
  omega
theorem Zrh (x y : Rat) : Jr (x / y) ≤ Jr x + Jr y := by
 rw [Rat.div_def]; have := Za3 x y⁻¹; have := Zrg y; omega
abbrev Qe (k : Nat) : Value := .int .i64 (k : Int)
theorem getD_mem {α : Type} (l : List α) {i : Nat} {d : α} (h : i < l.length) : l.getD i d ∈ l := by
 simp only [List.getD, List.getElem?_eq_getElem h, Option.getD_some]; exact List.getElem_mem h
theorem Zh5 {α β : Type} {f : β → α → β} (l : List α) (s : β) (i : Nat) (d : α) (h : i < l.length) : (l.take (i + 1)).foldl f s = f ((l.take i).foldl f s) (l.getD i d) := by
 rw [List.take_add_one, List.getElem?_eq_getElem h, List.foldl_append]
 simp [List.getD, List.getElem?_eq_getElem h]
end
end Go.Proofs.YtgkicbaomcmfoaaGreatDoor
