/- Walks of functions. By an AI agent. -/
import Derived.Test.YtddhlkfpdjmplaaGreatDoorProg
import Derived.Test.YtddhlkfpdjmplaaGreatDoorFxZ
import Derived.Test.YtddhlkfpdjmplaaGreatDoorFxS
import Derived.Test.YtddhlkfpdjmplaaGreatDoorNumW
import Derived.Test.YtddhlkfpdjmplaaGreatDoorNumD
import Derived.Test.YtddhlkfpdjmplaaGreatDoorNumK
import Derived.Test.YtddhlkfpdjmplaaGreatDoorFxB
import Derived.Test.YtddhlkfpdjmplaaGreatDoorFxC
set_option linter.unusedVariables false
set_option linter.unusedSimpArgs false
set_option maxRecDepth 4000
namespace Go.Proofs.YtddhlkfpdjmplaaGreatDoor
open Go Go.Proofs Go.Fx Tryz
attribute [local irreducible] Oper.wp Code.wp wpList Fx.Head wpOp
section
theorem Zl (a : Option Addr) (n c : Nat) (w : World) (ty : TypeId) (cs : Array Bool) : (Go.builtin .len #[217] ty cs #[.slice a n c]).run Tryz.prog w = .ok (.value (.int .i64 n)) w := by
 simp [go_sem]
theorem Jc (b off n c j : Nat) (h : j < n) (w : World) : (Instr.indexAt 217 (.slice (some ⟨b, off, none⟩) n c) (.int .i64 (j : Int))).run Tryz.prog w = .ok (.pointer (some ⟨b, off + j, none⟩)) w := by
 simpa using Xx runUnderlying217 sizeOf23 b off n c j h w
theorem Zv1 (a : Option Addr) (n c j : Nat) (h : j ≤ c) (w : World) : (Instr.sliceAt 217 (.slice a n c) none (some (.int .i64 (j : Int))) none).run Tryz.prog w = .ok (.slice a j c) w := by
 exact Zbu runUnderlying217 sizeOf23 a n c j h w
theorem Kj {b off : Nat} (w : World) : (Instr.fieldAt 38 (.pointer (some ⟨b, off, none⟩)) 1).run Tryz.prog w = .ok (.pointer (some ⟨b, off + 1, none⟩)) w := by
 simp [go_sem]
theorem Xm {c0 c1 : Value} : Qk false 1 #[c0, c1] 1 = some c1 := rfl
theorem Vr {b off : Nat} (w : World) : (Instr.fieldAt 38 (.pointer (some ⟨b, off, none⟩)) 0).run Tryz.prog w = .ok (.pointer (some ⟨b, off + 0, none⟩)) w := by
 simp [go_sem]
theorem Ye {c0 c1 : Value} : Qk false 1 #[c0, c1] 0 = some c0 := rfl
theorem Yx (x : Int) (w : World) : (Go.convert 36 23 (.int .u64 x)).run Tryz.prog w = .ok (.int .u32 (IntKind.u32.wrap x)) w := by
 simp [go_sem]
theorem Zn3 (x0 : Int) (x1 : Int) (w : World) : (Instr.buildSlice 217 2 [(0, .int .u32 x0), (1, .int .u32 x1)].toArray).run Tryz.prog w = .ok (.slice (some ⟨w.heap.size, 0, none⟩) 2 2) (w.alloc (.cells #[.int .u32 x0, .int .u32 x1] 23 (0, 0))) := by
 simp [go_sem]
theorem Zd4 (x : ByteArray) (w : World) (ty : TypeId) (cs : Array Bool) : (Go.builtin .len #[9] ty cs #[.string x]).run Tryz.prog w = .ok (.value (.int .i64 x.size)) w := by
 simp [go_sem]
theorem Qg2 (x : Int) (w : World) : (Go.convert 5 23 (.int .u8 x)).run Tryz.prog w = .ok (.int .u32 (IntKind.u32.wrap x)) w := by
 simp [go_sem]
theorem Zsr (x : Int) (h0 : IntKind.u32.wrap x = x) (w : World) : (Go.convert 5 23 (.int .u8 x)).run Tryz.prog w = .ok (.int .u32 x) w := by
 rw [Qg2, h0]
theorem Za : Tryz.prog.follows .mixedOrders = true := by kernel_rfl
theorem Xe (b : Bool) (w : World) : (Op.unary .not (.bool b)).run Tryz.prog w = .ok (.bool (!b)) w := by simp [go_sem]
theorem Qhz (ad : Option Addr) (c : Nat) (l : List Nat) (hw : Wd l) (hc : l.length ≤ c) (hs : l.length ≤ 1099511627776) :
  Ctr Tryz.prog 168 [.slice ad l.length c] [Row ad (Jv l)] (fun v Ψ => v = .slice ad (wds (Zu l)).length c ∧ Ψ = [Row ad (Jv (wds (Zu l)))]) := by
 refine fn_intro func168 rfl ntmps168 nb ?_
 intro S w0 a hS h
 refine gC h (zS (za rfl (zn (zs (zb ?_))))); clear h; intro a w h
 refine Zf (fun (m : Nat) a w => m ≤ l.length ∧ (∀ j, m ≤ j → j < l.length → l.getD j 0 = 0) ∧ St 21 S w0 [(0, .slice ad m c)] [] [Row ad (Jv l)] a w) (fun m => m) (l.length) (⟨Nat.le_refl _, fun j h1 h2 => absurd h2 oo, h.sub sA⟩) ?_; clear h
 rintro m a w ⟨hm, hz, h⟩
 refine gC h (zs (zS (zm rfl (zp (.builtin [_] rfl (Zl _ _ _)) (zp (.gtr rfl rfl) (zm rfl ?_)))))); clear h; intro a w h
 refine Zg h (fun hc6 h => ?_) (fun hc6 h => ?_)
 focus
  have hm0 : 0 < m := by simpa using hc6
  obtain ⟨b, off, had⟩ := h.row_addr List.mem_cons_self (by simp; intro e; subst e; simp at hm; omega)
  subst had
  refine gL h (zq 6 rfl rfl (.move rfl) (zq 6 rfl rfl (.move rfl) (zq 6 rfl rfl (.builtin [_] rfl (Zl _ _ _)) (zq 6 rfl rfl (.pO (m - 1) (.sub rfl rfl)) (zq 6 rfl rfl (.indexAddr rfl rfl (Jc _ _ _ _ _ oo)) ?_))))); clear h; intro a w h
  refine Ze 6 h rfl rfl (Zaf h rfl List.mem_cons_self (by simp; omega) isAgg23 sizeOf23 (Qa 0 oo) (.inr rfl) dd ?_); clear h; intro a h
  refine gL h (zq 6 rfl rfl (.eql rfl rfl) (zp (.pickT rfl rfl) (zn ?_))); clear h; intro a w h
  refine cW ?_
  refine Zb h rfl (fun hc14 => ?_) (fun hc14 => ?_)
  ·
   skip
   refine gC h (zk (zb (zr (zm rfl (zm rfl (zp (.builtin [_] rfl (Zl _ _ _)) (zp (.pO (m - 1) (.sub rfl rfl)) (zp (.slice rfl none (some _) none rfl rfl rfl (Zv1 _ _ _ _ oo)) (za rfl (zn ?_)))))))))); clear h; intro a w h
   refine ⟨m - 1, ⟨oo, fun j h1 h2 => ?_, h.sub sA⟩, oo⟩
   by_cases hj : j = m - 1
   ·
    skip
    subst hj; simpa using hc14
   ·
    skip
    exact hz j oo h2
  refine gC h (ze (zS (zm rfl (za rfl (zn (zt ?_)))))); clear h; intro a w h
  have hcut := Zyv hw hm hz (.inr (by simpa using hc14))
 rotate_left
 focus
  refine gL h (zo 6 rfl rfl rfl (zo 6 rfl rfl rfl (zo 6 rfl rfl rfl (zo 6 rfl rfl rfl (zo 6 rfl rfl rfl (zo 6 rfl rfl rfl (zo 6 rfl rfl rfl (zp (.pickF rfl rfl) (zn ?_))))))))); clear h; intro a w h
  refine cW ?_
  refine Zj h rfl ?_
  refine gC h (ze (zS (zm rfl (za rfl (zn (zt ?_)))))); clear h; intro a w h
  have hcut := Zyv hw hm hz (.inl (by simpa using hc6))
 all_goals
  have hR : ∀ ad, Row ad (Jv (wds (Zu l))) = Row ad ((Jv l).take m) := by intro ad; rw [hcut, Jv, List.map_take]
  replace h := h.derive (R := Row _ (Jv (wds (Zu l)))) (fun X hX => by rw [hR]; exact Zhx (hX _ List.mem_cons_self) m)
  have hl : m = (wds (Zu l)).length := by rw [hcut]; simp; omega
  refine Qg (Ψ := [Row _ (Jv (wds (Zu l)))]) h (Zc h rfl (.tmp rfl)) ⟨by rw [← hl], rfl⟩ ss
theorem Zbo (n : Nat) (hs : (wds n).length ≤ 1099511627776) :
  Ctr Tryz.prog 166 [Vm n] [] (fun v Ψ => ∃ ad c, v = .slice ad (wds n).length c ∧ (wds n).length ≤ c ∧ Ψ = [Row ad (Jv (wds n))]) := by
 refine fn_intro func166 rfl ntmps166 nb ?_
 intro S w0 a hS h
 refine gC h (zS (zx rfl fun b1 => za rfl (zn (zs (zS (zp (.fA rfl Kj) (zd rfl mr isAgg9 sizeOf9 Xm ?_)))))))
 refine zp (.binOp rfl rfl (fun _ => Xf _ _ _ _ _)) (zn ?_); intro a w h
 refine cW ?_
 refine Zb h rfl (fun hc8 => ?_) (fun hc8 => ?_)
 ·
  skip
  have hn : n < 18446744073709551616 := Qt.1 (by simpa using hc8)
  refine gC h (zS (zp (.fA rfl Vr) (zd rfl mr isAgg36 sizeOf36 Ye ?_)))
  refine zp (Pure1.cast (v' := .int .u32 ((n % 4294967296 : Nat) : Int)) (.convert rfl (Yx _)) (by rw [Qh hn, Jj]; congr 1)) (zp (.fA rfl Vr) (zd rfl mr isAgg36 sizeOf36 Ye ?_))
  refine zp (.binOp rfl rfl (fun _ => by rw [Qh hn]; exact Vf _ _ _ n 32 dd)) (zp (Pure1.cast (v' := .int .u32 ((n / 4294967296 : Nat) : Int)) (.convert rfl (Yx _)) (by rw [Jj]; congr 1; omega)) (zB [(_, _), (_, _)] rfl (Zn3 _ _) fun b16 => ?_)); intro a w h
  replace h := h.shareAll hS (Jv [n % 4294967296, n / 4294967296]) rfl
  refine gL h (zf [_] rfl call168 (Qhz _ _ [n % 4294967296, n / 4294967296] (two_Wd n hn) ss ss) ?_); clear h; rintro v17 Ψ17 ⟨rfl, rfl⟩ a w h
  rw [Zvu n hn] at h
  refine gL h (za rfl (zn (zt ?_))); clear h; intro a w h
  refine Qg (Ψ := [Row _ (Jv (wds n))]) h (Zc h rfl (.tmp rfl)) ⟨_, _, rfl, Gp hn, rfl⟩ ss
 ·
  skip
  have hn : ¬ n < 18446744073709551616 := fun hn => by have := Qt.2 hn; simp [this] at hc8
  refine gC h (zk (zS (zp (.fA rfl Kj) (zd rfl mr isAgg9 sizeOf9 Xm ?_))))
  refine zp (.builtin [_] rfl (Zd4 _)) (zp (Pure1.cast (v' := .int .i64 ((wds n).length : Int)) (.binOp rfl rfl (fun _ => Vp _ _ _ _ _ dd)) (by rw [Zeg, if_neg hn]; rw [show ((4 : Int)) = ((4 : Nat) : Int) from rfl, Yh, wrap_i64 _ oo oo]; congr 1; omega)) ?_); intro a w h
  refine Zi (Xn h rfl rfl runUnderlying217 typeInfo23 sizeOf23 zeroValue23 rfl dd (Nat.le_refl _) (by show 4 * _ ≤ _; omega) oo dd ?_); clear h; intro b22 a w h
  rw [show (Value.int .u32 0).cells.toList = [Value.int .u32 0] from rfl, Zdb, show List.replicate (wds n).length (Value.int .u32 0) = Jv (Zbr (wds n) 0 0) from by rw [Zki]; simp] at h
  refine gL h (za rfl (zn (zs (zS (zm rfl (zp (.builtin [_] rfl (Zl _ _ _)) (zm rfl (zn (zb ?_))))))))); clear h; intro a w h
  refine Zf (fun (i : Nat) a w => i ≤ (wds n).length ∧ St 51 S w0 [(1, pB b1), (3, .slice (some ⟨b22, 0, none⟩) (wds n).length (wds n).length), (24, .int .i64 ((wds n).length : Int)), (25, .int .i64 (i : Int))] [(b22, .cells (Jv (Zbr (wds n) i 0)).toArray 23 (0, 0)), (b1, .cells (Vm n).cells 38 (0, 0))] [] a w) (fun i => (wds n).length - i) (0) (⟨Nat.zero_le _, h.sub sA⟩) ?_; clear h
  rintro i a w ⟨hi, h⟩
  refine gC h (zS (zp (.lss rfl rfl) (zn (zs ?_)))); clear h; intro a w h
  refine Zb h rfl (fun hc26 => ?_) (fun hc26 => ?_)
  ·
   skip
   have hi' : i < (wds n).length := by simpa using hc26
   refine gC h (zk (zs (zb (zS (zm rfl (za rfl (zn (zS (zm rfl (zn (zb ?_))))))))))); clear h; intro a w h
   refine Zf (fun (k : Nat) a w => k ≤ 4 ∧ St 51 S w0 [(1, pB b1), (3, .slice (some ⟨b22, 0, none⟩) (wds n).length (wds n).length), (24, .int .i64 ((wds n).length : Int)), (25, .int .i64 (i : Int)), (4, .int .i64 (i : Int)), (28, .int .i64 (k : Int))] [(b22, .cells (Jv (Zbr (wds n) i k)).toArray 23 (0, 0)), (b1, .cells (Vm n).cells 38 (0, 0))] [] a w) (fun k => 4 - k) (0) (⟨oo, h.sub sA⟩) ?_; clear h
   rintro k a w ⟨hk, h⟩
   refine gC h (zS (zp (.lss rfl rfl) (zn (zs ?_)))); clear h; intro a w h
   refine Zb h rfl (fun hc29 => ?_) (fun hc29 => ?_)
   ·
    skip
    have hk' : k < 4 := by simp at hc29; omega
    refine gC h (zk (zs (zb (zS (zm rfl (za rfl (zn (yD Za [0, 1, 2, 3, 4, 5, 6, 7, 8, 9, 10, 11, 12, 13, 14, 15, 16, 17] (Zd kk) (ym rfl rfl (ym rfl rfl (yp rfl (.indexAddr rfl rfl (Jc _ _ _ _ _ oo)) (yd rfl rfl (by repeat (first | exact List.Mem.head _ | apply List.Mem.tail)) isAgg23 sizeOf23 ((Qa 0 (by rw [Zbz _ _ _ hi']; omega)).trans (by rw [Nat.zero_add, Zm8 _ _ _ hi'])) ?_)))))))))))); clear h
    refine yp rfl (.fA rfl Kj) (yd rfl rfl mr isAgg9 sizeOf9 Xm ?_)
    refine ym rfl rfl (yp rfl (.mul rfl rfl) (ym rfl rfl (yp rfl (.pN (4 * i + k) (.add rfl rfl)) (yp rfl (Pure1.cast (v' := .int .u8 (((wds n).getD i 0 / 256 ^ k % 256 : Nat) : Int)) (.index rfl rfl (fun _ => Zda runUnderlying9 _ _ (by rw [Zeg, if_neg hn]; omega))) (by rw [Zn4 hn hi' hk'])) (yp rfl (.convert rfl (Zsr _ (wrap_u32 _ oo oo))) (ym rfl rfl (yp rfl (.pN (8 * k) (.mul rfl rfl)) (yp rfl (Pure1.cast (v' := .int .u32 (((wds n).getD i 0 / 256 ^ k % 256 * 2 ^ (8 * k) : Nat) : Int)) (.binOp rfl rfl (fun _ => Zc8 _ _ _ _ _ (by show 8 * k ≤ 32; omega))) (by rw [wrap_u32 _ oo (by have := Zfp ((wds n).getD i 0 / 256 ^ k) k hk'; omega)])) (yp rfl (Pure1.cast (v' := .int .u32 (((wds n).getD i 0 % 256 ^ (k + 1) : Nat) : Int)) (.binOp rfl rfl (fun _ => Zfq rfl _ _ _ _ _ (Nat.lt_of_lt_of_le (Nat.mod_lt _ (Nat.pow_pos oo)) (Nat.le_trans (Nat.pow_le_pow_right oo (by omega : k ≤ 4)) dd)) (Zfp _ _ hk'))) (by rw [Zw1])) (yp rfl (.indexAddr rfl rfl (Jc _ _ _ _ _ oo)) (yt rfl rfl rfl ((Vo (Zbr (wds n) i k) (0 + i) ((wds n).getD i 0 % 256 ^ (k + 1))).trans (by rw [Nat.zero_add, Zm7 _ _ _ _ hi'])) (by repeat (first | exact Upd.head | apply Upd.tail)) sizeOf23 rfl (by simp [Zbz _ _ _ hi']; omega) rfl ?_)))))))))))
    refine yn (zr (zp (.add rfl rfl) (zm rfl (zn ?_)))); intro a w h
    exact ⟨k + 1, ⟨oo, h.sub sA⟩, oo⟩
   ·
    skip
    have hk' : k = 4 := by simp at hc29; omega
    subst hk'
    rw [Zkj _ _ hi' (Wd.wds n)] at h
    refine gC h (ze (zr (zp (.add rfl rfl) (zm rfl (zn ?_))))); clear h; intro a w h
    exact ⟨i + 1, ⟨oo, h.sub sA⟩, oo⟩
  ·
   skip
   have hi' : i = (wds n).length := by simp at hc26; omega
   refine gC h (ze (zS (zm rfl (za rfl (zn (zt ?_)))))); clear h; intro a w h
   subst hi'
   rw [Zm9] at h
   replace h := h.shareAll hS (Jv (wds n)) rfl
   refine Qg (Ψ := [Row _ (Jv (wds n))]) h (Zc h rfl (.tmp rfl)) ⟨_, _, rfl, Nat.le_refl _, rfl⟩ ss
end
section
theorem Zfj (x0 : Int) (w : World) : (Instr.build 38 [(0, .int .u64 x0)].toArray).run Tryz.prog w = .ok (.agg #[.int .u64 x0, .string ⟨#[]⟩]) w := by simp [go_sem]
theorem Qe {c0 c1 v0 v1 : Value} : Jd #[c0, c1] 0 [v0, v1] = #[v0, v1] := rfl
theorem Zn {c0 c1 : Value} : Qk true 2 #[c0, c1] 0 = some (.agg #[c0, c1]) := rfl
theorem Zl7 (w : World) : (Instr.build 38 [].toArray).run Tryz.prog w = .ok (.agg #[.int .u64 0, .string ⟨#[]⟩]) w := by simp [go_sem]
theorem Zsv (x : Int) (w : World) : (Go.convert 23 36 (.int .u32 x)).run Tryz.prog w = .ok (.int .u64 (IntKind.u64.wrap x)) w := by
 simp [go_sem]
theorem Jt (x : Int) (h0 : IntKind.u64.wrap x = x) (w : World) : (Go.convert 23 36 (.int .u32 x)).run Tryz.prog w = .ok (.int .u64 x) w := by
 rw [Zsv, h0]
theorem Zjl (x : Int) (w : World) : (Go.convert 23 5 (.int .u32 x)).run Tryz.prog w = .ok (.int .u8 (IntKind.u8.wrap x)) w := by
 simp [go_sem]
theorem Zhr (x0 : Int) (x1 : Int) (x2 : Int) (x3 : Int) (w : World) : (Instr.buildSlice 193 4 [(0, .int .u8 x0), (1, .int .u8 x1), (2, .int .u8 x2), (3, .int .u8 x3)].toArray).run Tryz.prog w = .ok (.slice (some ⟨w.heap.size, 0, none⟩) 4 4) (w.alloc (.cells #[.int .u8 x0, .int .u8 x1, .int .u8 x2, .int .u8 x3] 5 (0, 0))) := by
 simp [go_sem]
theorem Qhg (x1 : ByteArray) (w : World) : (Instr.build 38 [(1, .string x1)].toArray).run Tryz.prog w = .ok (.agg #[.int .u64 0, .string x1]) w := by simp [go_sem]
theorem Zpe (X Y : Operand) (n m : Nat) (w : World) : (do eqGuard .eql 38 X Y (Vm n) (Vm m); Go.binOp .eql 38 (Vm n) (Vm m) : Sem Value).run Tryz.prog w = .ok (.bool (decide (n = m))) w := by
 simp [go_sem]
 have hb : ((Kt n).toList = (Kt m).toList) ↔ Kt n = Kt m := by have := Zck (Kt n) (Kt m); rw [Bool.eq_iff_iff] at this; simpa using this
 by_cases h : n = m
 · subst h; simp
 ·
  have hne := fun h1 h2 => h (Zlw h1 h2)
  by_cases h1 : Za6 n = Za6 m
  · simp only [h, h1, hb, if_true, decide_false]; exact if_neg (hne h1)
  · simp [h, h1]
theorem C_Of (n : Nat) (hn : n < 18446744073709551616) : Ys Tryz.prog 164 [.int .u64 (n : Int)] (Vm n) := by
 refine fn_intro func164 rfl ntmps164 nb ?_
 intro S w0 a hS h
 refine gC h (zS (zz zeroValue38 fun b2 => zn (zS (zm rfl (zp (.build [(_, _)] rfl (Zfj _)) (zt' rfl rfl Qe uu sizeOf38 rfl nb rfl ?_)))))); clear h; intro a w h
 refine wpList_nil (wp_ret ?_)
 refine Jm h (Zc h rfl (.cell rfl mr isAgg38 sizeOf38 Zn)) ?_
 rw [Vm, Qh hn, Vn hn]
theorem Qem (n : Nat) : Ys Tryz.prog 207 [Vm n] (.bool (decide (n = 0))) := by
 refine fn_intro func207 rfl ntmps207 nb ?_
 intro S w0 a hS h
 refine gC h (zS (zx rfl fun b1 => za rfl (zn (zS (zd rfl mr isAgg38 sizeOf38 Zn ?_)))))
 refine zp (Pure1.cast (v' := Vm 0) (.build [] rfl (Zl7)) (by rfl)) (zp (.binOp rfl rfl (fun _ => Zpe _ _ n 0 _)) (za rfl (zn (zt ?_)))); intro a w h
 exact Zbw h
theorem Qhx (ad : Option Addr) (c : Nat) (l : List Nat) (hw : Wd l) (hc : l.length ≤ c) (hs : l.length ≤ 1099511627776) :
  Vj Tryz.prog 188 [.slice ad l.length c] [Row ad (Jv l)] (Vm (Zu l)) := by
 refine fn_intro func188 rfl ntmps188 nb ?_
 intro S w0 a hS h
 refine gC h (zS (zz zeroValue38 fun b2 => zn (zS (zm rfl (zf [_] rfl call168 (Qhz ad c l hw hc hs) ?_))))); clear h; rintro v10 Ψ10 ⟨rfl, rfl⟩ a w h
 have hWd := Wd.wds (Zu l)
 have hV := Qu (Zu l)
 have hN : (wds (Zu l)).length ≤ 1099511627776 := Nat.le_trans (Zfm hw) hs
 have hNc : (wds (Zu l)).length ≤ c := Nat.le_trans (Zfm hw) hc
 generalize hWe : wds (Zu l) = W at h hWd hV hN hNc
 refine gL h (za rfl (zn (zs (zS (zm rfl (zp (.builtin [_] rfl (Zl _ _ _)) (zp (.leq rfl rfl) (zn ?_)))))))); clear h; intro a w h
 refine cW ?_
 refine Zb h rfl (fun hc13 => ?_) (fun hc13 => ?_)
 ·
  skip
  have h2 : W.length ≤ 2 := by simp at hc13; omega
  refine gC h (zS (za rfl (zn (zs (zS (zm rfl (zp (.builtin [_] rfl (Zl _ _ _)) (zm rfl (zn (zb ?_)))))))))); clear h; intro a w h
  refine Zf (fun (i : Nat) a w => i ≤ W.length ∧ St 59 S w0 [(2, pB b2), (3, .int .u64 (Zu (W.take i) : Int)), (14, .slice ad W.length c), (15, .int .i64 (W.length : Int)), (16, .int .i64 (i : Int))] [(b2, .cells (Vm 0).cells 38 (0, 0))] [Row ad (Jv W)] a w) (fun i => W.length - i) (0) (⟨Nat.zero_le _, (h.factsSub (by simp)).sub (Zen ⟨rfl, rfl, rfl, rfl, rfl, trivial⟩)⟩) ?_; clear h
  rintro i a w ⟨hi, h⟩
  refine gC h (zS (zp (.lss rfl rfl) (zn (zs ?_)))); clear h; intro a w h
  refine Zb h rfl (fun hc17 => ?_) (fun hc17 => ?_)
  ·
   skip
   have hi' : i < W.length := by simpa using hc17
   obtain ⟨b, off, had⟩ := h.row_addr List.mem_cons_self (by simp; intro e; subst e; simp at hi')
   subst had
   have hx := hWd.getD i
   refine gC h (zk (zs (zb (zS (zm rfl (zp (.indexAddr rfl rfl (Jc _ _ _ _ _ oo)) (zD rfl mm (by simp; omega) isAgg23 sizeOf23 (Qa 0 oo) (.inr rfl) ?_)))))))
   refine za rfl (za rfl (zn (zr (zm rfl (zm rfl (zp (.convert rfl (Jt _ (wrap_u64 _ oo oo))) (zm rfl (zp (.pN (32 * i) (.mul rfl rfl)) (zp (Pure1.cast (v' := .int .u64 ((W.getD i 0 * 2 ^ (32 * i) : Nat) : Int)) (.binOp rfl rfl (fun _ => Zc8 _ _ _ _ _ (by show 32 * i ≤ 64; omega))) (by rw [wrap_u64 _ oo (by have := Zij _ i hx oo; omega)])) (zp (Pure1.cast (v' := .int .u64 ((Zu (W.take (i + 1)) : Nat) : Int)) (.binOp rfl rfl (fun _ => Zfq rfl _ _ _ _ _ (Nat.lt_of_lt_of_le (Zmq (hWd.take i) (by simp; omega)) dd) (Zij _ i hx oo))) (by rw [Qf6 _ _ hi' hWd])) (za rfl (zn (zr (zp (.add rfl rfl) (zm rfl (zn ?_)))))))))))))))); intro a w h
   exact ⟨i + 1, ⟨oo, h.sub sA⟩, oo⟩
  ·
   skip
   have hi' : i = W.length := by simp at hc17; omega
   refine gC h (ze (zS (zm rfl (zp (.build [(_, _)] rfl (Zfj _)) (zt' rfl rfl Qe uu sizeOf38 rfl nb rfl ?_))))); clear h; intro a w h
   refine wpList_nil (wp_ret ?_)
   refine Jm h (Zc h rfl (.cell rfl mr isAgg38 sizeOf38 Zn)) ?_
   have hlt := Zmq hWd h2; rw [hV] at hlt; subst hi'; rw [List.take_length, hV, Vm, Qh hlt, Vn hlt]
 ·
  skip
  have h2 : 2 < W.length := by simp at hc13; omega
  refine gC h (zk (zS (zm rfl (zp (.builtin [_] rfl (Zl _ _ _)) (zp (.pN (4 * W.length) (.mul rfl rfl)) ?_))))); clear h; intro a w h
  refine Zi (Xn h rfl rfl runUnderlying193 typeInfo5 sizeOf5 zeroValue5 rfl dd (by exact Nat.zero_le _) (by show 1 * _ ≤ _; omega) oo dd ?_); clear h; intro b34 a w h
  refine gL h (za rfl (zn (zs (zS (zm rfl (zp (.builtin [_] rfl (Zl _ _ _)) (zm rfl (zn (zb ?_))))))))); clear h; intro a w h
  refine Zf (fun (i : Nat) a w => i ≤ W.length ∧ ∃ v σ, Grow 1 5 v (4 * i) (u8s (bytesOf (W.take i))) σ [(b2, .cells (Vm 0).cells 38 (0, 0))] ∧ St 59 S w0 [(2, pB b2), (6, v), (35, .slice ad W.length c), (36, .int .i64 (W.length : Int)), (37, .int .i64 (i : Int))] σ [Row ad (Jv W)] a w) (fun i => W.length - i) (0) (⟨Nat.zero_le _, _, _, ⟨rfl, .inr ⟨b34, 4 * W.length, _, rfl, by simp [bytesOf, Zdt, Value.cells], Nat.zero_le _, rfl⟩⟩, (h.factsSub (by simp)).sub (Zen ⟨rfl, rfl, rfl, rfl, rfl, trivial⟩)⟩) ?_; clear h
  rintro i a w ⟨hi, v, σ, hG, h⟩
  refine gC h (zS (zp (.lss rfl rfl) (zn (zs ?_)))); clear h; intro a w h
  refine Zb h rfl (fun hc38 => ?_) (fun hc38 => ?_)
  ·
   skip
   have hi' : i < W.length := by simpa using hc38
   obtain ⟨b, off, had⟩ := h.row_addr List.mem_cons_self (by simp; intro e; subst e; simp at hi')
   subst had
   have hx := hWd.getD i
   refine gC h (zk (zs (zb (zS (zp (.indexAddr rfl rfl (Jc _ _ _ _ _ oo)) (zD rfl mm (by simp; omega) isAgg23 sizeOf23 (Qa 0 oo) (.inr rfl) ?_))))))
   refine za rfl (zn (zr (zm rfl (zm rfl (zp (Pure1.cast (v' := .int .u8 ((W.getD i 0 % 256 : Nat) : Int)) (.convert rfl (Zjl _)) (by rw [Zc4]; congr 1)) (zm rfl (zp (.binOp rfl rfl (fun _ => Vf _ _ _ _ 8 dd)) (zp (Pure1.cast (v' := .int .u8 ((W.getD i 0 / 2 ^ 8 % 256 : Nat) : Int)) (.convert rfl (Zjl _)) (by rw [Zc4]; congr 1)) (zm rfl (zp (.binOp rfl rfl (fun _ => Vf _ _ _ _ 16 dd)) (zp (Pure1.cast (v' := .int .u8 ((W.getD i 0 / 2 ^ 16 % 256 : Nat) : Int)) (.convert rfl (Zjl _)) (by rw [Zc4]; congr 1)) (zm rfl (zp (.binOp rfl rfl (fun _ => Vf _ _ _ _ 24 dd)) (zp (Pure1.cast (v' := .int .u8 ((W.getD i 0 / 2 ^ 24 % 256 : Nat) : Int)) (.convert rfl (Zjl _)) (by rw [Zc4]; congr 1)) (zB [(_, _), (_, _), (_, _), (_, _)] rfl (Zhr _ _ _ _) fun b53 => ?_))))))))))))))); intro a w h
   refine Zi (Zw8 h rfl rfl hG runUnderlying193 runUnderlying193 typeInfo5 sizeOf5 zeroValue5 rfl dd dd rfl rfl dd (by show 1 * _ ≤ _; omega) dd ?_); clear h hG; intro v σ a w hG h
   rw [Zu5 _ _ hi'] at hG
   refine gL h (za rfl (zn (zr (zp (.add rfl rfl) (zm rfl (zn ?_)))))); clear h; intro a w h
   exact ⟨i + 1, ⟨oo, _, _, hG, h.sub sA⟩, oo⟩
  ·
   skip
   have hi' : i = W.length := by simp at hc38; omega
   refine gC h (ze (zS (zm rfl ?_))); clear h; intro a w h
   refine Zi (Zpl h rfl hG runUnderlying193 runUnderlying9 runUnderlying5 dd ?_); clear h; intro a h
   replace h := h.drop hG.sub
   refine gL h (zp (.build [(_, _)] rfl (Qhg _)) (zt' rfl rfl Qe uu sizeOf38 rfl nb rfl ?_)); clear h; intro a w h
   refine wpList_nil (wp_ret ?_)
   refine Jm h (Zc h rfl (.cell rfl mr isAgg38 sizeOf38 Zn)) ?_
   have hlt : ¬ Zu l < 18446744073709551616 := Zow (by rw [hWe]; exact h2)
   subst hi'; rw [List.take_length, Vm, Zue hlt, Zez hlt, hWe]
end
section
theorem Qed (x y : Int) (w : World) (ty : TypeId) (cs : Array Bool) : (Go.builtin .min #[3, 3] ty cs #[.int .i64 x, .int .i64 y]).run Tryz.prog w = .ok (.value (.int .i64 (min x y))) w := by
 simp [go_sem]; rw [Int.min_def]; split <;> split <;> omega
theorem Qee (x y : Int) (w : World) (ty : TypeId) (cs : Array Bool) : (Go.builtin .max #[3, 3] ty cs #[.int .i64 x, .int .i64 y]).run Tryz.prog w = .ok (.value (.int .i64 (max x y))) w := by
 simp [go_sem]; rw [Int.max_def]; split <;> split <;> omega
theorem Qcf (x y c : Nat) (hc : c ≤ 1) (w : World) : (callFunc 204 #[.int .u64 (x : Int), .int .u64 (y : Int), .int .u64 (c : Int)]).run Tryz.prog w = .ok (.value (.tuple #[.int .u64 (((x + y + c) % 18446744073709551616 : Nat) : Int), .int .u64 (((x + y + c) / 18446744073709551616 : Nat) : Int)])) w :=
 Zwf func204 kk kk kk kk x y c hc w
theorem C_sign (n : Int) : Ys Tryz.prog 244 [.int .i64 n] (.int .i64 (max (-1) (min 1 n))) := by
 refine fn_intro func244 rfl ntmps244 nb ?_
 intro S w0 a hS h
 refine gC h (zS (za rfl (zn (zS (zm rfl (zp (.builtin [_, _] rfl (fun w ty cs => Qed _ _ w ty cs)) (zp (.builtin [_, _] rfl (fun w ty cs => Qee _ _ w ty cs)) (za rfl (zn (zt ?_)))))))))); clear h; intro a w h
 exact Zbw h
theorem C_cmp (n m : Nat) (a1 : Option Addr) (c1 : Nat) (a2 : Option Addr) (c2 : Nat) (hn : (wds n).length ≤ 1099511627776) (hm : (wds m).length ≤ 1099511627776) :
  Vj Tryz.prog 230 [.slice a1 (wds n).length c1, .slice a2 (wds m).length c2] [Row a1 (Jv (wds n)), Row a2 (Jv (wds m))] (.int .i64 (Zjo n m)) := by
 refine fn_intro func230 rfl ntmps230 nb ?_
 intro S w0 a hS h
 refine gC h (zS (za rfl (zn (zs (zS (zm rfl (zp (.builtin [_] rfl (Zl _ _ _)) (zm rfl (zp (.builtin [_] rfl (Zl _ _ _)) (zp (.neq rfl rfl) (zn ?_))))))))))); clear h; intro a w h
 refine cW ?_
 refine Zb h rfl (fun hc10 => ?_) (fun hc10 => ?_)
 ·
  skip
  skip
  refine gC h (zS (zm rfl (zp (.builtin [_] rfl (Zl _ _ _)) (zm rfl (zp (.builtin [_] rfl (Zl _ _ _)) (zp (.sub rfl rfl) (zv [_] rfl call244 (C_sign _) (za rfl (zn (zt ?_)))))))))); clear h; intro a w h
  refine Jm h (Zc h rfl (.tmp rfl)) ?_
  unfold Zjo
  have hne : (wds n).length ≠ (wds m).length := Zxe hc10
  rcases Nat.lt_or_gt_of_ne hne with h1 | h1
  · have := Zch h1; rw [if_pos this]; congr 1; rw [Int.min_eq_right oo, Int.max_eq_left oo]
  · have h2 := Zch h1; rw [if_neg oo, if_pos h2]; congr 1; rw [Int.min_eq_left oo]; rfl
 ·
  skip
  have hl : (wds n).length = (wds m).length := Zud hc10
  refine gC h (zk (zs (zS (zm rfl (zp (.builtin [_] rfl (Zl _ _ _)) (zp (.sub rfl rfl) (za rfl (zn (zb ?_))))))))); clear h; intro a w h
  refine Zf (fun (k : Nat) a w => k ≤ (wds n).length ∧ (wds n).drop k = (wds m).drop k ∧ St 42 S w0 [(0, .slice a1 (wds n).length c1), (1, .slice a2 (wds m).length c2), (5, .int .i64 ((k : Int) - 1))] [] [Row a1 (Jv (wds n)), Row a2 (Jv (wds m))] a w) (fun k => k) ((wds n).length) (⟨Nat.le_refl _, by rw [List.drop_eq_nil_of_le (Nat.le_refl _), hl, List.drop_eq_nil_of_le (Nat.le_refl _)], h.sub sA⟩) ?_; clear h
  rintro k a w ⟨hN, hd, h⟩
  refine gC h (zs (zS (zm rfl (zp (.geq rfl rfl) (zn ?_))))); clear h; intro a w h
  refine cW ?_
  refine Zb h rfl (fun hc21 => ?_) (fun hc21 => ?_)
  ·
   skip
   have hk : 0 < k := by simp at hc21; omega
   have hN' : k ≤ (wds m).length := hl ▸ hN
   obtain ⟨b1, o1, rfl⟩ := h.row_addr (ad := a1) (M := Jv (wds n)) List.mem_cons_self (by simp; intro e; rw [e] at hN; simp at hN; omega)
   obtain ⟨b2, o2, rfl⟩ := h.row_addr (ad := a2) (M := Jv (wds m)) (List.mem_cons_of_mem _ List.mem_cons_self) (by simp; intro e; rw [e] at hN'; simp at hN'; omega)
   refine gC h (zk (zs (zb (zs (yD Za [0, 1, 2, 3, 4, 5, 6, 7, 8] (Zd kk) (ym rfl rfl (yp rfl (.pO (k - 1) (.move rfl)) (yp rfl (.indexAddr rfl rfl (Jc _ _ _ _ _ oo)) ?_)))))))); clear h
   refine Zm rfl kk rfl mm (by simp; omega) isAgg23 sizeOf23 (Qa 0 oo) (.inr rfl) dd ?_
   refine ym rfl rfl (yp rfl (.pO (k - 1) (.move rfl)) (yp rfl (.indexAddr rfl rfl (Jc _ _ _ _ _ oo)) ?_))
   refine Zm rfl kk rfl mm (by simp; omega) isAgg23 sizeOf23 (Qa 0 oo) (.inr rfl) dd ?_
   refine yp rfl (.neq rfl rfl) (yn ?_); intro a w h
   refine cW ?_
   refine Zb h rfl (fun hc32 => ?_) (fun hc32 => ?_)
   ·
    skip
    skip
    refine gC h (zs (zs (yD Za [0, 1, 2, 3, 4, 5, 6, 7, 8] (Zd kk) (ym rfl rfl (yp rfl (.pO (k - 1) (.move rfl)) (yp rfl (.indexAddr rfl rfl (Jc _ _ _ _ _ oo)) ?_)))))); clear h
    refine Zm rfl kk rfl mm (by simp; omega) isAgg23 sizeOf23 (Qa 0 oo) (.inr rfl) dd ?_
    refine ym rfl rfl (yp rfl (.pO (k - 1) (.move rfl)) (yp rfl (.indexAddr rfl rfl (Jc _ _ _ _ _ oo)) ?_))
    refine Zm rfl kk rfl mm (by simp; omega) isAgg23 sizeOf23 (Qa 0 oo) (.inr rfl) dd ?_
    refine yp rfl (.lss rfl rfl) (yn ?_); intro a w h
    refine cW ?_
    refine Zb h rfl (fun hc41 => ?_) (fun hc41 => ?_)
    ·
     skip
     refine gC h (zS (za rfl (zn (zt ?_)))); clear h; intro a w h
     refine Jm h (Zc h rfl (.tmp rfl)) ?_
     have h1 : (wds n).getD (k - 1) 0 < (wds m).getD (k - 1) 0 := by simpa using hc41
     have h2 := Zqw (Wd.wds n) (Wd.wds m) h1 (by rw [Nat.sub_add_cancel hk]; exact hd)
     rw [Qu, Qu] at h2
     unfold Zjo; rw [if_pos h2]
    ·
     skip
     refine gC h (zk (zS (za rfl (zn (zt ?_))))); clear h; intro a w h
     refine Jm h (Zc h rfl (.tmp rfl)) ?_
     have h0 : (wds n).getD (k - 1) 0 ≠ (wds m).getD (k - 1) 0 := Zxe hc32
     have h0' : ¬ (wds n).getD (k - 1) 0 < (wds m).getD (k - 1) 0 := by simpa using hc41
     have h1 : (wds m).getD (k - 1) 0 < (wds n).getD (k - 1) 0 := oo
     have h2 := Zqw (Wd.wds m) (Wd.wds n) h1 (by rw [Nat.sub_add_cancel hk]; exact hd.symm)
     rw [Qu, Qu] at h2
     unfold Zjo; rw [if_neg oo, if_pos h2]
   ·
    skip
    have he : (wds n).getD (k - 1) 0 = (wds m).getD (k - 1) 0 := Zud hc32
    refine gC h (zk (zr (zm rfl (zp (Pure1.cast (v' := .int .i64 (((k - 1 : Nat) : Int) - 1)) (.sub rfl rfl) (by show Value.int _ _ = Value.int _ _; congr 1; omega)) (za rfl (zn ?_)))))); clear h; intro a w h
    refine ⟨k - 1, ⟨oo, drop_step hl oo he (by rw [Nat.sub_add_cancel hk]; exact hd), h.sub sA⟩, oo⟩
  ·
   skip
   have hk : k = 0 := by simp at hc21; omega
   refine gC h (ze (zS (za rfl (zn (zt ?_))))); clear h; intro a w h
   refine Jm h (Zc h rfl (.tmp rfl)) ?_
   subst hk
   have e : n = m := by rw [← Qu n, ← Qu m]; simp at hd; rw [hd]
   unfold Zjo; rw [if_neg oo, if_neg oo]
theorem C_Cmp (n m : Nat) (hn : (wds n).length ≤ 1099511627776) (hm : (wds m).length ≤ 1099511627776) : Ys Tryz.prog 208 [Vm n, Vm m] (.int .i64 (Zjo n m)) := by
 refine fn_intro func208 rfl ntmps208 nb ?_
 intro S w0 a hS h
 refine gC h (zS (zx rfl fun b2 => zx rfl fun b3 => za rfl (zn (zs (zS (zp (.fA rfl Kj) (zd rfl mr isAgg9 sizeOf9 Xm ?_)))))))
 refine zp (.binOp rfl rfl (fun _ => Xf _ _ _ _ _)) (zm rfl ?_); intro a w h
 refine Zg h (fun hc8 h => ?_) (fun hc8 h => ?_)
 focus
  have ha : n < 18446744073709551616 := Qt.1 (by simpa using hc8)
  refine gL h (zq 8 rfl rfl (.fA rfl Kj) ?_); clear h; intro a w h
  refine Ze 8 h rfl rfl (Vi h rfl mr isAgg9 sizeOf9 Xm dd ?_); clear h; intro a h
  refine gL h (zq 8 rfl rfl (.binOp rfl rfl (fun _ => Xf _ _ _ _ _)) ?_); clear h; intro a w h
  refine Zg h (fun hc11 h => ?_) (fun hc11 h => ?_)
  ·
   skip
   have hb : m < 18446744073709551616 := Qt.1 (by simpa using hc11)
   refine gL h (zp (.pickT rfl rfl) (zn ?_)); clear h; intro a w h
   refine cW ?_
   refine Zq h rfl ?_
   refine gC h (zs (zb (zS (zp (.fA rfl Vr) (zd rfl mr isAgg36 sizeOf36 Ye ?_)))))
   refine zp (.fA rfl Vr) (zd rfl mr isAgg36 sizeOf36 Ye ?_)
   refine zp (.lss rfl rfl) ?_; intro a w h
   refine Zg h (fun hc18 h => ?_) (fun hc18 h => ?_)
   ·
    skip
    refine gL h (za rfl (zn ?_)); clear h; intro a w h
    refine cW ?_
    refine Zq h rfl ?_
    refine gC h (zS (za rfl (zn (zt ?_)))); clear h; intro a w h
    refine Jm h (Zc h rfl (.tmp rfl)) ?_
    rw [Qh ha, Qh hb] at hc18; have : n < m := by simpa using hc18
    unfold Zjo; rw [if_pos this]
   ·
    skip
    refine gL h (za rfl (zn ?_)); clear h; intro a w h
    refine cW ?_
    refine Zj h rfl ?_
    refine gC h (zS (zp (.fA rfl Vr) (zd rfl mr isAgg36 sizeOf36 Ye ?_)))
    refine zp (.fA rfl Vr) (zd rfl mr isAgg36 sizeOf36 Ye ?_)
    refine zp (.gtr rfl rfl) ?_; intro a w h
    refine Zg h (fun hc24 h => ?_) (fun hc24 h => ?_)
    ·
     skip
     refine gL h (za rfl (zn ?_)); clear h; intro a w h
     refine cW ?_
     refine Zq h rfl ?_
     refine gC h (zS (za rfl (zn (zt ?_)))); clear h; intro a w h
     refine Jm h (Zc h rfl (.tmp rfl)) ?_
     rw [Qh ha, Qh hb] at hc18 hc24; have h1 : m < n := by simpa using hc24
     unfold Zjo; rw [if_neg oo, if_pos h1]
    ·
     skip
     refine gL h (za rfl (zn ?_)); clear h; intro a w h
     refine cW ?_
     refine Zj h rfl ?_
     refine gC h (zk (zS (za rfl (zn (zt ?_))))); clear h; intro a w h
     refine Jm h (Zc h rfl (.tmp rfl)) ?_
     rw [Qh ha, Qh hb] at hc18 hc24; have h1 : ¬ m < n := by simpa using hc24
     have h2 : ¬ n < m := by simpa using hc18
     unfold Zjo; rw [if_neg h2, if_neg h1]
  have hb : ¬ m < 18446744073709551616 := fun hn => by have := Qt.2 hn; simp [this] at hc11
  refine gL h (zp (.pickT rfl rfl) (zn ?_)); clear h; intro a w h
 rotate_left
 focus
  have ha : ¬ n < 18446744073709551616 := fun hn => by have := Qt.2 hn; simp [this] at hc8
  refine gL h (zo 8 rfl rfl rfl (zo 8 rfl rfl rfl (zo 8 rfl rfl rfl (zp (.pickF rfl rfl) (zn ?_))))); clear h; intro a w h
 all_goals
  refine cW ?_
  refine Zj h rfl ?_
  refine gC h (zk (zs (yD Za [0, 2, 1, 3, 4, 5] (Zd kk) (yd rfl rfl mr isAgg38 sizeOf38 Zn ?_)))); clear h
  refine yd rfl rfl mr isAgg38 sizeOf38 Zn ?_
  refine yf [_] rfl rfl call166 (Zbo n hn) ?_; rintro v26 Ψ26 ⟨a1, c1, rfl, hc1, rfl⟩
  refine yf [_] rfl rfl call166 (Zbo m hm) ?_; rintro v28 Ψ28 ⟨a2, c2, rfl, hc2, rfl⟩
  refine yw [_, _] rfl rfl call230 (C_cmp n m a1 c1 a2 c2 hn hm) (yp rfl (.assign rfl) (yn (zt ?_))); intro a w h
  exact Zbw h
theorem Qal (x y c : Nat) (hx : x < 4294967296) (hy : y < 4294967296) (hc : c ≤ 1) :
  Ys Tryz.prog 205 [.int .u32 (x : Int), .int .u32 (y : Int), .int .u32 (c : Int)] (.tuple #[.int .u32 (((x + y + c) % 4294967296 : Nat) : Int), .int .u32 (((x + y + c) / 4294967296 : Nat) : Int)]) := by
 refine fn_intro func205 rfl ntmps205 nb ?_
 intro S w0 a hS h
 refine gC h (zS (za rfl (za rfl (zn (zS (zm rfl (zp (.convert rfl (Jt _ (wrap_u64 _ oo oo))) (zm rfl (zp (.convert rfl (Jt _ (wrap_u64 _ oo oo))) (zp (.binOp rfl rfl (fun _ => Zhw _ _ _ _ _ (wrap_u64 _ oo oo))) (zm rfl (zp (.convert rfl (Jt _ (wrap_u64 _ oo oo))) (zp (Pure1.cast (v' := .int .u64 ((x + y + c : Nat) : Int)) (.binOp rfl rfl (fun _ => Zhw _ _ _ _ _ (wrap_u64 _ oo oo))) (by show Value.int _ _ = Value.int _ _; congr 1)) (za rfl (zn (zS (zm rfl (zp (Pure1.cast (v' := .int .u32 (((x + y + c) % 4294967296 : Nat) : Int)) (.convert rfl (Yx _)) (by rw [Jj]; congr 1)) (za rfl (zn (zS (zm rfl (zp (.binOp rfl rfl (fun _ => Vf _ _ _ _ 32 dd)) (zp (Pure1.cast (v' := .int .u32 (((x + y + c) / 4294967296 : Nat) : Int)) (.convert rfl (Yx _)) (by rw [Jj]; congr 1; omega)) (za rfl (zn (zt ?_))))))))))))))))))))))))))); clear h; intro a w h
 refine Jm h (Qv h rfl (.tmp rfl) (.tmp rfl)) ?_
 rfl
theorem Zqq (x y c : Nat) (hx : x < 4294967296) (hy : y < 4294967296) (hc : c ≤ 1) :
  Ys Tryz.prog 210 [.int .u32 (x : Int), .int .u32 (y : Int), .int .u32 (c : Int)] (.tuple #[.int .u32 (((x + 8589934592 - y - c) % 4294967296 : Nat) : Int), .int .u32 ((if x < y + c then 1 else 0 : Nat) : Int)]) := by
 refine fn_intro func210 rfl ntmps210 nb ?_
 intro S w0 a hS h
 refine gC h (zS (za rfl (za rfl (zn (zS (zm rfl (zm rfl (zp (.binOp rfl rfl (fun _ => Zgo _ _ _ _ _)) (zm rfl (zp (Pure1.cast (v' := .int .u32 (((x + 8589934592 - y - c) % 4294967296 : Nat) : Int)) (.binOp rfl rfl (fun _ => Zgo _ _ _ _ _)) (by rw [Jj, Jj]; congr 1; omega)) (za rfl (zn (zS (zm rfl (zp (.unOp rfl (fun _ => Zmw _ hx)) (zm rfl (zp (.binOp rfl rfl (fun _ => Zil rfl _ _ _ _ _ (by show _ < 4294967296; omega) hy)) (zm rfl (zm rfl (zp (.binOp rfl rfl (fun _ => Zwa rfl _ _ _ _ _ hx hy)) (zp (.unOp rfl (fun _ => Zmw _ (Nat.xor_lt_two_pow (n := 32) hx hy))) (zm rfl (zp (.binOp rfl rfl (fun _ => Zil rfl _ _ _ _ _ (by show _ < 4294967296; omega) (by show _ < 4294967296; omega))) (zp (.binOp rfl rfl (fun _ => Zfq rfl _ _ _ _ _ (Nat.lt_of_le_of_lt Nat.and_le_right hy) (Nat.lt_of_le_of_lt Nat.and_le_right (by show _ < 4294967296; omega)))) (zp (Pure1.cast (v' := .int .u32 ((if x < y + c then 1 else 0 : Nat) : Int)) (.binOp rfl rfl (fun _ => Vf _ _ _ _ 31 dd)) (by rw [Ztz x y c hx hy hc])) (za rfl (zn (zt ?_)))))))))))))))))))))))))))); clear h; intro a w h
 refine Jm h (Qv h rfl (.tmp rfl) (.tmp rfl)) ?_
 rfl
end
section
theorem Qc3 (n : Nat) (hbig : ¬ n < 18446744073709551616) (hs : (wds n).length ≤ 1099511627776) :
  Zj3 Tryz.prog 166 [Vm n] [] (fun v σn => ∃ b, v = .slice (some ⟨b, 0, none⟩) (wds n).length (wds n).length ∧ σn = [(b, .cells (Jv (wds n)).toArray 23 (0, 0))]) := by
 refine fn_introO func166 rfl ntmps166 nb ?_
 intro S w0 a hS h
 refine gC h (zS (zx rfl fun b1 => za rfl (zn (zs (zS (zp (.fA rfl Kj) (zd rfl mr isAgg9 sizeOf9 Xm ?_)))))))
 refine zp (.binOp rfl rfl (fun _ => Xf _ _ _ _ _)) (zn ?_); intro a w h
 refine cW ?_
 refine Zb h rfl (fun hc8 => (by exfalso; exact hbig (Qt.1 (by simpa using hc8)))) (fun hc8 => ?_)
 refine gC h (zk (zS (zp (.fA rfl Kj) (zd rfl mr isAgg9 sizeOf9 Xm ?_))))
 have hn : ¬ n < 18446744073709551616 := hbig
 refine zp (.builtin [_] rfl (Zd4 _)) (zp (Pure1.cast (v' := .int .i64 ((wds n).length : Int)) (.binOp rfl rfl (fun _ => Vp _ _ _ _ _ dd)) (by rw [Zeg, if_neg hn]; rw [show ((4 : Int)) = ((4 : Nat) : Int) from rfl, Yh, wrap_i64 _ oo oo]; congr 1; omega)) ?_); intro a w h
 refine Zi (Xn h rfl rfl runUnderlying217 typeInfo23 sizeOf23 zeroValue23 rfl dd (Nat.le_refl _) (by show 4 * _ ≤ _; omega) oo dd ?_); clear h; intro b22 a w h
 rw [show (Value.int .u32 0).cells.toList = [Value.int .u32 0] from rfl, Zdb, show List.replicate (wds n).length (Value.int .u32 0) = Jv (Zbr (wds n) 0 0) from by rw [Zki]; simp] at h
 refine gL h (za rfl (zn (zs (zS (zm rfl (zp (.builtin [_] rfl (Zl _ _ _)) (zm rfl (zn (zb ?_))))))))); clear h; intro a w h
 refine Zf (fun (i : Nat) a w => i ≤ (wds n).length ∧ St 51 S w0 [(1, pB b1), (3, .slice (some ⟨b22, 0, none⟩) (wds n).length (wds n).length), (24, .int .i64 ((wds n).length : Int)), (25, .int .i64 (i : Int))] [(b22, .cells (Jv (Zbr (wds n) i 0)).toArray 23 (0, 0)), (b1, .cells (Vm n).cells 38 (0, 0))] [] a w) (fun i => (wds n).length - i) (0) (⟨Nat.zero_le _, h.sub sA⟩) ?_; clear h
 rintro i a w ⟨hi, h⟩
 refine gC h (zS (zp (.lss rfl rfl) (zn (zs ?_)))); clear h; intro a w h
 refine Zb h rfl (fun hc26 => ?_) (fun hc26 => ?_)
 ·
  skip
  have hi' : i < (wds n).length := by simpa using hc26
  refine gC h (zk (zs (zb (zS (zm rfl (za rfl (zn (zS (zm rfl (zn (zb ?_))))))))))); clear h; intro a w h
  refine Zf (fun (k : Nat) a w => k ≤ 4 ∧ St 51 S w0 [(1, pB b1), (3, .slice (some ⟨b22, 0, none⟩) (wds n).length (wds n).length), (24, .int .i64 ((wds n).length : Int)), (25, .int .i64 (i : Int)), (4, .int .i64 (i : Int)), (28, .int .i64 (k : Int))] [(b22, .cells (Jv (Zbr (wds n) i k)).toArray 23 (0, 0)), (b1, .cells (Vm n).cells 38 (0, 0))] [] a w) (fun k => 4 - k) (0) (⟨oo, h.sub sA⟩) ?_; clear h
  rintro k a w ⟨hk, h⟩
  refine gC h (zS (zp (.lss rfl rfl) (zn (zs ?_)))); clear h; intro a w h
  refine Zb h rfl (fun hc29 => ?_) (fun hc29 => ?_)
  ·
   skip
   have hk' : k < 4 := by simp at hc29; omega
   refine gC h (zk (zs (zb (zS (zm rfl (za rfl (zn (yD Za [0, 1, 2, 3, 4, 5, 6, 7, 8, 9, 10, 11, 12, 13, 14, 15, 16, 17] (Zd kk) (ym rfl rfl (ym rfl rfl (yp rfl (.indexAddr rfl rfl (Jc _ _ _ _ _ oo)) (yd rfl rfl (by repeat (first | exact List.Mem.head _ | apply List.Mem.tail)) isAgg23 sizeOf23 ((Qa 0 (by rw [Zbz _ _ _ hi']; omega)).trans (by rw [Nat.zero_add, Zm8 _ _ _ hi'])) ?_)))))))))))); clear h
   refine yp rfl (.fA rfl Kj) (yd rfl rfl mr isAgg9 sizeOf9 Xm ?_)
   refine ym rfl rfl (yp rfl (.mul rfl rfl) (ym rfl rfl (yp rfl (.pN (4 * i + k) (.add rfl rfl)) (yp rfl (Pure1.cast (v' := .int .u8 (((wds n).getD i 0 / 256 ^ k % 256 : Nat) : Int)) (.index rfl rfl (fun _ => Zda runUnderlying9 _ _ (by rw [Zeg, if_neg hn]; omega))) (by rw [Zn4 hn hi' hk'])) (yp rfl (.convert rfl (Zsr _ (wrap_u32 _ oo oo))) (ym rfl rfl (yp rfl (.pN (8 * k) (.mul rfl rfl)) (yp rfl (Pure1.cast (v' := .int .u32 (((wds n).getD i 0 / 256 ^ k % 256 * 2 ^ (8 * k) : Nat) : Int)) (.binOp rfl rfl (fun _ => Zc8 _ _ _ _ _ (by show 8 * k ≤ 32; omega))) (by rw [wrap_u32 _ oo (by have := Zfp ((wds n).getD i 0 / 256 ^ k) k hk'; omega)])) (yp rfl (Pure1.cast (v' := .int .u32 (((wds n).getD i 0 % 256 ^ (k + 1) : Nat) : Int)) (.binOp rfl rfl (fun _ => Zfq rfl _ _ _ _ _ (Nat.lt_of_lt_of_le (Nat.mod_lt _ (Nat.pow_pos oo)) (Nat.le_trans (Nat.pow_le_pow_right oo (by omega : k ≤ 4)) dd)) (Zfp _ _ hk'))) (by rw [Zw1])) (yp rfl (.indexAddr rfl rfl (Jc _ _ _ _ _ oo)) (yt rfl rfl rfl ((Vo (Zbr (wds n) i k) (0 + i) ((wds n).getD i 0 % 256 ^ (k + 1))).trans (by rw [Nat.zero_add, Zm7 _ _ _ _ hi'])) (by repeat (first | exact Upd.head | apply Upd.tail)) sizeOf23 rfl (by simp [Zbz _ _ _ hi']; omega) rfl ?_)))))))))))
   refine yn (zr (zp (.add rfl rfl) (zm rfl (zn ?_)))); intro a w h
   exact ⟨k + 1, ⟨oo, h.sub sA⟩, oo⟩
  ·
   skip
   have hk' : k = 4 := by simp at hc29; omega
   subst hk'
   rw [Zkj _ _ hi' (Wd.wds n)] at h
   refine gC h (ze (zr (zp (.add rfl rfl) (zm rfl (zn ?_))))); clear h; intro a w h
   exact ⟨i + 1, ⟨oo, h.sub sA⟩, oo⟩
 ·
  skip
  have hi' : i = (wds n).length := by simp at hc26; omega
  refine gC h (ze (zS (zm rfl (za rfl (zn (zt ?_)))))); clear h; intro a w h
  subst hi'
  rw [Zm9] at h
  refine Zoq h (Zc h rfl (.tmp rfl)) ⟨b22, rfl, rfl⟩ sl
theorem Zvr (l : List Nat) : (Jv l).all flat = true := by simp [flat]
theorem Zyy (X : List Nat) : Jd (Jv (List.replicate (X.length + 1) 0)).toArray 0 (Jv X) = (Jv (X ++ [0])).toArray := by
 rw [Zpb _ _ ss]
 simp
theorem C_Add (n m : Nat) (hn : (wds n).length ≤ 1000000000000) (hm : (wds m).length ≤ 1000000000000) : Ys Tryz.prog 171 [Vm n, Vm m] (Vm (n + m)) := by
 refine fn_intro func171 rfl ntmps171 nb ?_
 intro S w0 a hS h
 refine gC h (zS (zx rfl fun b2 => zx rfl fun b3 => zz zeroValue38 fun b4 => zn ?_)); clear h; intro a w h
 refine cW ?_
 refine Gm (fun a w => St 80 S w0 [(2, pB b2), (3, pB b3), (4, pB b4)] [(b4, .cells (Vm 0).cells 38 (0, 0)), (b3, .cells (Vm m).cells 38 (0, 0)), (b2, .cells (Vm n).cells 38 (0, 0))] [] a w) ?_ ?_
 ·
  skip
  refine gC h (zS (zp (.fA rfl Kj) (zd rfl mr isAgg9 sizeOf9 Xm ?_)))
  refine zp (.binOp rfl rfl (fun _ => Xf _ _ _ _ _)) (zm rfl ?_); intro a w h
  refine Zg h (fun hc16 h => ?_) (fun hc16 h => ?_)
  focus
   have ha : n < 18446744073709551616 := Qt.1 (by simpa using hc16)
   refine gL h (zq 16 rfl rfl (.fA rfl Kj) ?_); clear h; intro a w h
   refine Ze 16 h rfl rfl (Vi h rfl mr isAgg9 sizeOf9 Xm dd ?_); clear h; intro a h
   refine gL h (zq 16 rfl rfl (.binOp rfl rfl (fun _ => Xf _ _ _ _ _)) ?_); clear h; intro a w h
   refine Zg h (fun hc19 h => ?_) (fun hc19 h => ?_)
   ·
    skip
    have hb : m < 18446744073709551616 := Qt.1 (by simpa using hc19)
    refine gL h (zp (.pickT rfl rfl) (zn ?_)); clear h; intro a w h
    refine cW ?_
    refine Zq h rfl ?_
    refine gC h (zS (zp (.fA rfl Vr) (zd rfl mr isAgg36 sizeOf36 Ye ?_)))
    refine zp (.fA rfl Vr) (zd rfl mr isAgg36 sizeOf36 Ye ?_)
    refine zp (.extern [_, _, _] rfl (fun w => by rw [Qh ha, Qh hb]; exact Qcf n m 0 dd w)) (zm rfl (zp (.eX rfl) (zp (.eX rfl) (za rfl (za rfl (zn (zS (zm rfl (zp (.eql rfl rfl) (zn ?_)))))))))); intro a w h
    refine cW ?_
    refine Zb h rfl (fun hc30 => ?_) (fun hc30 => ?_)
    ·
     skip
     have hsum : n + m < 18446744073709551616 := by simp at hc30; omega
     refine gC h (zS (zm rfl (zp (.build [(_, _)] rfl (Zfj _)) (zt' rfl rfl Qe uu sizeOf38 rfl nb rfl ?_)))); clear h; intro a w h
     refine wpList_nil (wp_ret ?_)
     refine Jm h (Zc h rfl (.cell rfl mr isAgg38 sizeOf38 Zn)) ?_
     have e : (n + m + 0) % 18446744073709551616 = n + m := oo
     rw [e, Vm, Qh hsum, Vn hsum]
    ·
     skip
     refine wp_skip ?_
     exact h.sub sA
   have hb : ¬ m < 18446744073709551616 := fun hn => by have := Qt.2 hn; simp [this] at hc19
   refine gL h (zp (.pickT rfl rfl) (zn ?_)); clear h; intro a w h
  rotate_left
  focus
   have ha : ¬ n < 18446744073709551616 := fun hn => by have := Qt.2 hn; simp [this] at hc16
   refine gL h (zo 16 rfl rfl rfl (zo 16 rfl rfl rfl (zo 16 rfl rfl rfl (zp (.pickF rfl rfl) (zn ?_))))); clear h; intro a w h
  all_goals
   refine cW ?_
   refine Zj h rfl ?_
   refine wp_skip ?_
   exact h.sub sA
 ·
  skip
  clear h
  intro a w h
  refine gC h (zs (yD Za [0, 2, 1, 3, 4, 5] (Zd kk) (yd rfl rfl mr isAgg38 sizeOf38 Zn ?_))); clear h
  refine yd rfl rfl mr isAgg38 sizeOf38 Zn ?_
  refine yf [_] rfl rfl call166 (Zbo n oo) ?_; rintro v34 Ψ34 ⟨a1, c1, rfl, hc1, rfl⟩
  refine yf [_] rfl rfl call166 (Zbo m oo) ?_; rintro v36 Ψ36 ⟨a2, c2, rfl, hc2, rfl⟩
  refine yp rfl (.assign rfl) (yp rfl (.assign rfl) (yn ?_)); intro a w h
  refine cW ?_
  refine Gm (fun a w => ∃ X Y aX cX aY cY, Y.length ≤ X.length ∧ X.length ≤ 1000000000000 ∧ X.length ≤ cX ∧ Y.length ≤ cY ∧ Wd X ∧ Wd Y ∧ Zu X + Zu Y = n + m ∧ St 80 S w0 [(4, pB b4), (7, .slice aX X.length cX), (8, .slice aY Y.length cY)] [(b4, .cells (Vm 0).cells 38 (0, 0))] [Row aX (Jv X), Row aY (Jv Y)] a w) ?_ ?_
  ·
   skip
   refine gC h (zS (zm rfl (zp (.builtin [_] rfl (Zl _ _ _)) (zm rfl (zp (.builtin [_] rfl (Zl _ _ _)) (zp (.lss rfl rfl) (zn ?_))))))); clear h; intro a w h
   refine cW ?_
   refine Zb h rfl (fun hc41 => ?_) (fun hc41 => ?_)
   ·
    skip
    have hlen : (wds n).length < (wds m).length := by simpa using hc41
    refine gC h (zr (zm rfl (zm rfl (za rfl (za rfl (zn ?_)))))); clear h; intro a w h
    exact ⟨wds m, wds n, _, _, _, _, oo, hm, hc2, hc1, Wd.wds _, Wd.wds _, by rw [Qu, Qu]; omega, ((h.drop (List.Sublist.cons_cons _ (List.nil_sublist _))).factsSub (by simp)).sub (Zen ⟨rfl, rfl, rfl, trivial⟩)⟩
   ·
    skip
    have hlen : (wds m).length ≤ (wds n).length := by simpa using hc41
    refine wp_skip ?_
    exact ⟨wds n, wds m, _, _, _, _, oo, hn, hc1, hc2, Wd.wds _, Wd.wds _, by rw [Qu, Qu], ((h.drop (List.Sublist.cons_cons _ (List.nil_sublist _))).factsSub (by simp)).sub (Zen ⟨rfl, rfl, rfl, trivial⟩)⟩
  ·
   skip
   clear h
   rintro a w ⟨X, Y, aX, cX, aY, cY, hYX, hX12, hXc, hYc, hX, hY, hV, h⟩
   refine gC h (zS (zm rfl (zp (.builtin [_] rfl (Zl _ _ _)) (zp (.pN (X.length + 1) (.add rfl rfl)) ?_)))); clear h; intro a w h
   refine Zi (Xn h rfl rfl runUnderlying217 typeInfo23 sizeOf23 zeroValue23 rfl dd (by exact Nat.le_refl _) (by show 4 * _ ≤ _; omega) oo dd ?_); clear h; intro b47 a w h
   rw [show (Value.int .u32 0).cells.toList = [Value.int .u32 0] from rfl, Zdb, show List.replicate (X.length + 1) (Value.int .u32 0) = Jv (List.replicate (X.length + 1) 0) from by simp] at h
   refine gL h (za rfl (zn (zS (zm rfl (zm rfl ?_))))); clear h; intro a w h
   refine Zi (Zub h rfl rfl (M := Jv X) ss ss runUnderlying217 sizeOf23 oo dd (Zyy X) (by repeat (first | exact Upd.head | apply Upd.tail)) ss (Zvr X) dd ?_); clear h; intro a w h
   rw [show X.length + 1 = (X ++ [0]).length from by simp] at h
   refine gL h (zn (zS (za rfl (zn (zs (zS (zm rfl (zp (.builtin [_] rfl (Zl _ _ _)) (zm rfl (zn (zb ?_))))))))))); clear h; intro a w h
   refine Zf (fun (i : Nat) a w => ∃ Z c, i ≤ Z.length ∧ Z.length = X.length + 1 ∧ Wd Z ∧ c ≤ 1 ∧ Zu Z + 4294967296 ^ i * (c + Zu (Y.drop i)) = n + m ∧ St 80 S w0 [(4, pB b4), (8, .slice aY Y.length cY), (9, .slice (some ⟨b47, 0, none⟩) Z.length Z.length), (10, .int .u32 (c : Int)), (52, .int .i64 (Z.length : Int)), (53, .int .i64 (i : Int))] [(b47, .cells (Jv Z).toArray 23 (0, 0)), (b4, .cells (Vm 0).cells 38 (0, 0))] [Row aY (Jv Y)] a w) (fun i => X.length + 1 - i) (0) (⟨X ++ [0], 0, Nat.zero_le _, by simp, hX.append (Wd.zeros 1), oo, by rw [Xg]; simp [Zu]; omega, (h.factsSub (by simp)).sub (Zen ⟨rfl, rfl, rfl, rfl, rfl, rfl, trivial⟩)⟩) ?_; clear h
   rintro i a w ⟨Z, c, hi, hZl, hZ, hc, hT, h⟩
   refine gC h (zS (zp (.lss rfl rfl) (zn (zs ?_)))); clear h; intro a w h
   refine Zb h rfl (fun hc54 => ?_) (fun hc54 => ?_)
   ·
    skip
    have hi' : i < Z.length := by simpa using hc54
    refine gC h (zk (zs (zb (zS (zm rfl (za rfl (zn (zS (za rfl (zn ?_)))))))))); clear h; intro a w h
    refine cW ?_
    refine Gm (fun a w => St 80 S w0 [(4, pB b4), (8, .slice aY Y.length cY), (9, .slice (some ⟨b47, 0, none⟩) Z.length Z.length), (10, .int .u32 (c : Int)), (11, .int .i64 (i : Int)), (12, .int .u32 (Y.getD i 0 : Int)), (52, .int .i64 (Z.length : Int)), (53, .int .i64 (i : Int))] [(b47, .cells (Jv Z).toArray 23 (0, 0)), (b4, .cells (Vm 0).cells 38 (0, 0))] [Row aY (Jv Y)] a w) ?_ ?_
    ·
     skip
     refine gC h (zS (zm rfl (zm rfl (zp (.builtin [_] rfl (Zl _ _ _)) (zp (.lss rfl rfl) (zn ?_)))))); clear h; intro a w h
     refine cW ?_
     refine Zb h rfl (fun hc59 => ?_) (fun hc59 => ?_)
     ·
      skip
      have hlt : i < Y.length := by simpa using hc59
      obtain ⟨bY, bYo, bYe⟩ := h.row_addr (ad := aY) (M := Jv Y) ss (by simp; intro e; simp [e] at hlt)
      subst bYe
      refine gC h (zr (zm rfl (zm rfl (zp (.indexAddr rfl rfl (Jc _ _ _ _ _ oo)) (zD rfl mm (by simp; omega) isAgg23 sizeOf23 (Qa 0 oo) (.inr rfl) ?_)))))
      refine za rfl (zn ?_); intro a w h
      exact h.sub sA
     ·
      skip
      have hlt : Y.length ≤ i := by simpa using hc59
      refine wp_skip ?_
      rw [Gu hlt]
      exact h.sub sA
    ·
     skip
     clear h
     intro a w h
     refine gC h (zr (zm rfl (zm rfl (zm rfl (zm rfl (zp (.indexAddr rfl rfl (Jc _ _ _ _ _ oo)) (zd rfl mm isAgg23 sizeOf23 ((Qa 0 (by rw [Nat.zero_add]; omega)).trans (by rw [Nat.zero_add])) ?_)))))))
     refine zm rfl (zm rfl (zv [_, _, _] rfl call205 (Qal _ _ _ (hZ.getD i) (hY.getD i) hc) (zm rfl (zp (.eX rfl) (zp (.eX rfl) (zp (.indexAddr rfl rfl (Jc _ _ _ _ _ oo)) (zt' rfl rfl ((Vo Z (0 + i) ((Z.getD i 0 + Y.getD i 0 + c) % 4294967296)).trans (by rw [Nat.zero_add])) uu sizeOf23 rfl (by simp; omega) rfl ?_)))))))
     refine za rfl (zn (zr (zp (.add rfl rfl) (zm rfl (zn ?_))))); intro a w h
     refine ⟨i + 1, ⟨Z.set i ((Z.getD i 0 + Y.getD i 0 + c) % 4294967296), _, by simp; omega, by simpa using hZl, hZ.set _ _ (Nat.mod_lt _ dd), ?_, Zl9 hi' hT, by rw [List.length_set]; exact h.sub sA⟩, oo⟩
     have hz := hZ.getD i
     have hy := hY.getD i
     omega
   ·
    skip
    have hi' : i = Z.length := by simp at hc54; omega
    refine wp_exit (wp_seq (wp_region_lit ?_))
    replace h := h.shareAll hS (Jv Z) rfl
    refine gL h (zm rfl (zw [_] rfl call188 (Qhx _ _ Z hZ (Nat.le_refl _) oo) (zt' rfl rfl Qe uu sizeOf38 rfl nb rfl ?_))); clear h; intro a w h
    refine wpList_nil (wp_ret ?_)
    refine Jm h (Zc h rfl (.cell rfl mr isAgg38 sizeOf38 Zn)) ?_
    rw [hi'] at hT
    have e : Zu Z = n + m := Qhk (N := Z.length) (c := c) (by rw [List.drop_eq_nil_of_le oo] at hT; simpa [Zu] using hT) (by rw [← hV, hZl]; exact add_lt hX hY hYX)
    rw [e]
end
section
theorem Zhq (x0 : Int) (x1 : Int) (x2 : Int) (x3 : Int) (w : World) : (Instr.buildSlice 217 4 [(0, .int .u32 x0), (1, .int .u32 x1), (2, .int .u32 x2), (3, .int .u32 x3)].toArray).run Tryz.prog w = .ok (.slice (some ⟨w.heap.size, 0, none⟩) 4 4) (w.alloc (.cells #[.int .u32 x0, .int .u32 x1, .int .u32 x2, .int .u32 x3] 23 (0, 0))) := by
 simp [go_sem]
theorem Qh4 (n m : Nat) (hn : (wds n).length ≤ 1000000000000) (hm : (wds m).length ≤ 1000000000000) : Ys Tryz.prog 186 [Vm n, Vm m] (.tuple #[Vm (n - m), .bool (decide (m ≤ n))]) := by
 refine fn_intro func186 rfl ntmps186 nb ?_
 intro S w0 a hS h
 refine gC h (zS (zx rfl fun b2 => zx rfl fun b3 => zz zeroValue38 fun b4 => za rfl (zn (zs (zS (zd rfl mr isAgg38 sizeOf38 Zn ?_))))))
 refine zd rfl mr isAgg38 sizeOf38 Zn ?_
 refine zv [_, _] rfl call208 (C_Cmp n m oo oo) (zp (.lss rfl rfl) (zn ?_)); intro a w h
 refine cW ?_
 refine Zb h rfl (fun hc14 => ?_) (fun hc14 => ?_)
 ·
  skip
  have hlt : n < m := by rw [Zh8] at hc14; simpa using hc14
  refine gC h (zS (zp (.build [] rfl (Zl7)) (zt' rfl rfl Qe uu sizeOf38 rfl nb rfl ?_)))
  refine za rfl (zn (zt ?_)); intro a w h
  refine Jm h (Qv h rfl (.cell rfl mr isAgg38 sizeOf38 Zn) (.tmp rfl)) ?_
  rw [show n - m = 0 by omega, show decide (m ≤ n) = false from decide_eq_false oo]; rfl
 ·
  skip
  have hle : m ≤ n := by rw [Zh8] at hc14; simpa using hc14
  refine gC h (zk (zs (zS (zp (.fA rfl Kj) (zd rfl mr isAgg9 sizeOf9 Xm ?_)))))
  refine zp (.binOp rfl rfl (fun _ => Xf _ _ _ _ _)) (zn ?_); intro a w h
  refine cW ?_
  refine Zb h rfl (fun hc18 => ?_) (fun hc18 => ?_)
  ·
   skip
   have ha : n < 18446744073709551616 := Qt.1 (by simpa using hc18)
   refine gC h (zS (zp (.fA rfl Vr) (zd rfl mr isAgg36 sizeOf36 Ye ?_)))
   refine zp (.fA rfl Vr) (zd rfl mr isAgg36 sizeOf36 Ye ?_)
   refine zp (Pure1.cast (v' := .int .u64 ((n - m : Nat) : Int)) (.binOp rfl rfl (fun _ => Zgo _ _ _ _ _)) (by rw [Qh ha, Qh oo, wrap_u64 _ oo oo]; congr 1; omega)) (zp (.build [(_, _)] rfl (Zfj _)) (zt' rfl rfl Qe uu sizeOf38 rfl nb rfl ?_))
   refine za rfl (zn (zt ?_)); intro a w h
   refine Jm h (Qv h rfl (.cell rfl mr isAgg38 sizeOf38 Zn) (.tmp rfl)) ?_
   rw [decide_eq_true hle, Vm, Qh (by omega : n - m < _), Vn oo]
  ·
   skip
   have ha : ¬ n < 18446744073709551616 := fun hn => by have := Qt.2 hn; simp [this] at hc18
   refine gC h (zk (zs (yD Za [0, 2, 1, 3, 4, 5] (Zd kk) (yd rfl rfl mr isAgg38 sizeOf38 Zn ?_)))); clear h
   refine yd rfl rfl mr isAgg38 sizeOf38 Zn ?_
   refine Zew rfl kk (vs := [_]) rfl call166 (Qc3 n ha oo) ss dd ?_; rintro v26 σ26 ⟨b26, rfl, rfl⟩
   refine yf [_] rfl rfl call166 (Zbo m oo) ?_; rintro v28 Ψ28 ⟨aY, cY, rfl, hYc, rfl⟩
   refine yp rfl (.assign rfl) (yp rfl (.assign rfl) (yn (zS (za rfl (zn (zs (zS (zm rfl (zp (.builtin [_] rfl (Zl _ _ _)) (zm rfl (zn (zb ?_)))))))))))); intro a w h
   refine Zf (fun (i : Nat) a w => ∃ Z c, i ≤ Z.length ∧ Z.length = (wds n).length ∧ Wd Z ∧ c ≤ 1 ∧ Zu Z + m = n + 4294967296 ^ i * (c + Zu ((wds m).drop i)) ∧ St 58 S w0 [(4, pB b4), (6, .slice (some ⟨b26, 0, none⟩) Z.length Z.length), (7, .slice aY (wds m).length cY), (8, .int .u32 (c : Int)), (30, .int .i64 (Z.length : Int)), (31, .int .i64 (i : Int))] [(b26, .cells (Jv Z).toArray 23 (0, 0)), (b4, .cells (Vm 0).cells 38 (0, 0))] [Row aY (Jv (wds m))] a w) (fun i => (wds n).length - i) (0) (⟨wds n, 0, Nat.zero_le _, rfl, Wd.wds n, oo, by simp [Qu], ((h.drop (List.Sublist.cons_cons _ (List.Sublist.cons_cons _ (List.nil_sublist _)))).factsSub (by simp)).sub (Zen ⟨rfl, rfl, rfl, rfl, rfl, rfl, trivial⟩)⟩) ?_; clear h
   rintro i a w ⟨Z, c, hi, hZl, hZ, hc, hT, h⟩
   refine gC h (zS (zp (.lss rfl rfl) (zn (zs ?_)))); clear h; intro a w h
   refine Zb h rfl (fun hc32 => ?_) (fun hc32 => ?_)
   ·
    skip
    have hi' : i < Z.length := by simpa using hc32
    refine gC h (zk (zs (zb (zS (zm rfl (za rfl (zn (zS (za rfl (zn ?_)))))))))); clear h; intro a w h
    refine cW ?_
    refine Gm (fun a w => St 58 S w0 [(4, pB b4), (6, .slice (some ⟨b26, 0, none⟩) Z.length Z.length), (7, .slice aY (wds m).length cY), (8, .int .u32 (c : Int)), (9, .int .i64 (i : Int)), (10, .int .u32 ((wds m).getD i 0 : Int)), (30, .int .i64 (Z.length : Int)), (31, .int .i64 (i : Int))] [(b26, .cells (Jv Z).toArray 23 (0, 0)), (b4, .cells (Vm 0).cells 38 (0, 0))] [Row aY (Jv (wds m))] a w) ?_ ?_
    ·
     skip
     refine gC h (zS (zm rfl (zm rfl (zp (.builtin [_] rfl (Zl _ _ _)) (zp (.lss rfl rfl) (zn ?_)))))); clear h; intro a w h
     refine cW ?_
     refine Zb h rfl (fun hc37 => ?_) (fun hc37 => ?_)
     ·
      skip
      have hlt : i < (wds m).length := by simpa using hc37
      obtain ⟨bY, bYo, bYe⟩ := h.row_addr (ad := aY) (M := Jv (wds m)) ss (by simp; intro e; simp [e] at hlt)
      subst bYe
      refine gC h (zr (zm rfl (zm rfl (zp (.indexAddr rfl rfl (Jc _ _ _ _ _ oo)) (zD rfl mm (by simp; omega) isAgg23 sizeOf23 (Qa 0 oo) (.inr rfl) ?_)))))
      refine za rfl (zn ?_); intro a w h
      exact h.sub sA
     ·
      skip
      have hlt : (wds m).length ≤ i := by simpa using hc37
      refine wp_skip ?_
      rw [Gu hlt]
      exact h.sub sA
    ·
     clear h
     intro a w h
     refine gC h (zr (zm rfl (zm rfl (zm rfl (zm rfl (zp (.indexAddr rfl rfl (Jc _ _ _ _ _ oo)) (zd rfl mm isAgg23 sizeOf23 ((Qa 0 (by rw [Nat.zero_add]; omega)).trans (by rw [Nat.zero_add])) ?_)))))))
     refine zm rfl (zm rfl (zv [_, _, _] rfl call210 (Zqq _ _ _ (hZ.getD i) ((Wd.wds m).getD i) hc) (zm rfl (zp (.eX rfl) (zp (.eX rfl) (zp (.indexAddr rfl rfl (Jc _ _ _ _ _ oo)) (zt' rfl rfl ((Vo Z (0 + i) ((Z.getD i 0 + 8589934592 - (wds m).getD i 0 - c) % 4294967296)).trans (by rw [Nat.zero_add])) uu sizeOf23 rfl (by simp; omega) rfl ?_)))))))
     refine za rfl (zn (zr (zp (.add rfl rfl) (zm rfl (zn ?_))))); intro a w h
     refine ⟨i + 1, ⟨Z.set i ((Z.getD i 0 + 8589934592 - (wds m).getD i 0 - c) % 4294967296), (if Z.getD i 0 < (wds m).getD i 0 + c then 1 else 0), by simp; omega, by simpa using hZl, hZ.set _ _ (Nat.mod_lt _ dd), by split <;> omega, Qaw hi' hT (Zv0 _ _ _ (hZ.getD i) ((Wd.wds m).getD i) hc), by rw [List.length_set]; exact h.sub sA⟩, oo⟩
   ·
    skip
    have hi' : i = Z.length := by simp at hc32; omega
    refine wp_exit (wp_seq (wp_region_lit ?_))
    replace h := h.shareAll hS (Jv Z) rfl
    refine gL h (zm rfl (zw [_] rfl call188 (Qhx _ _ Z hZ (Nat.le_refl _) oo) (zt' rfl rfl Qe uu sizeOf38 rfl nb rfl ?_)))
    refine za rfl (zn (zt ?_)); intro a w h
    refine Jm h (Qv h rfl (.cell rfl mr isAgg38 sizeOf38 Zn) (.tmp rfl)) ?_
    rw [hi'] at hT
    have e : Zu Z = n - m := by
     refine Qfi (N := Z.length) (c := c) hZ rfl hle ?_
     rw [List.drop_eq_nil_of_le] at hT
     · simpa [Zu] using hT
     ·
      refine Nat.le_of_not_lt fun hgt => ?_
      have := Zch (n := n) (m := m) oo
      omega
    rw [e, decide_eq_true hle]
theorem Qic (x y : Nat) (hx : x < 18446744073709551616) (hy : y < 18446744073709551616) :
  Ys Tryz.prog 187 [.int .u64 (x : Int), .int .u64 (y : Int)] (.tuple #[.int .u64 ((x * y / 18446744073709551616 : Nat) : Int), .int .u64 ((x * y % 18446744073709551616 : Nat) : Int)]) := by
 obtain ⟨ht, hw, hh⟩ := mul64_hi x y hx hy
 have b1 := Zaj (a := x / 4294967296) (b := y / 4294967296) oo oo
 have b2 := Zaj (a := x / 4294967296) (b := y % 4294967296) oo oo
 have b3 := Zaj (a := x % 4294967296) (b := y / 4294967296) oo oo
 have b4 := Zaj (a := x % 4294967296) (b := y % 4294967296) oo oo
 refine fn_intro func187 rfl ntmps187 nb ?_
 intro S w0 a hS h
 refine gC h (zS (za rfl (za rfl (zn (zS (zm rfl (zp (Pure1.cast (v' := .int .u64 (((x % 4294967296) : Nat) : Int)) (.binOp rfl rfl (fun _ => Zil rfl _ _ _ x 4294967295 hx dd)) (by rw [show (4294967295 : Nat) = 2 ^ 32 - 1 from rfl, Nat.and_two_pow_sub_one_eq_mod])) (za rfl (zn (zS (zm rfl (zp (Pure1.cast (v' := .int .u64 (((x / 4294967296) : Nat) : Int)) (.binOp rfl rfl (fun _ => Vf _ _ _ x 32 dd)) (by rfl)) (za rfl (zn (zS (zm rfl (zp (Pure1.cast (v' := .int .u64 (((y % 4294967296) : Nat) : Int)) (.binOp rfl rfl (fun _ => Zil rfl _ _ _ y 4294967295 hy dd)) (by rw [show (4294967295 : Nat) = 2 ^ 32 - 1 from rfl, Nat.and_two_pow_sub_one_eq_mod])) (za rfl (zn (zS (zm rfl (zp (Pure1.cast (v' := .int .u64 (((y / 4294967296) : Nat) : Int)) (.binOp rfl rfl (fun _ => Vf _ _ _ y 32 dd)) (by rfl)) (za rfl (zn (zS (zm rfl (zm rfl (zp (Pure1.cast (v' := .int .u64 (((x % 4294967296) * (y % 4294967296) : Nat) : Int)) (.binOp rfl rfl (fun _ => Zc9 _ _ _ _ _)) (by rw [Zaa oo])) (za rfl (zn (zS (zm rfl (zm rfl (zp (Pure1.cast (v' := .int .u64 (((x / 4294967296) * (y % 4294967296) : Nat) : Int)) (.binOp rfl rfl (fun _ => Zc9 _ _ _ _ _)) (by rw [Zaa oo])) (zm rfl (zp (Pure1.cast (v' := .int .u64 (((x % 4294967296) * (y % 4294967296) / 4294967296 : Nat) : Int)) (.binOp rfl rfl (fun _ => Vf _ _ _ _ 32 dd)) (by rfl)) (zp (Pure1.cast (v' := .int .u64 ((((x / 4294967296) * (y % 4294967296) + (x % 4294967296) * (y % 4294967296) / 4294967296) : Nat) : Int)) (.binOp rfl rfl (fun _ => Zb8 _ _ _ _ _)) (by rw [Gc ht])) (za rfl (zn (zS (zm rfl (zp (Pure1.cast (v' := .int .u64 ((((x / 4294967296) * (y % 4294967296) + (x % 4294967296) * (y % 4294967296) / 4294967296) % 4294967296 : Nat) : Int)) (.binOp rfl rfl (fun _ => Zil rfl _ _ _ _ 4294967295 ht dd)) (by rw [show (4294967295 : Nat) = 2 ^ 32 - 1 from rfl, Nat.and_two_pow_sub_one_eq_mod])) (za rfl (zn (zS (zm rfl (zp (Pure1.cast (v' := .int .u64 ((((x / 4294967296) * (y % 4294967296) + (x % 4294967296) * (y % 4294967296) / 4294967296) / 4294967296 : Nat) : Int)) (.binOp rfl rfl (fun _ => Vf _ _ _ _ 32 dd)) (by rfl)) (za rfl (zn (zS (zm rfl (zm rfl (zm rfl (zp (Pure1.cast (v' := .int .u64 (((x % 4294967296) * (y / 4294967296) : Nat) : Int)) (.binOp rfl rfl (fun _ => Zc9 _ _ _ _ _)) (by rw [Zaa oo])) (zp (Pure1.cast (v' := .int .u64 (((((x / 4294967296) * (y % 4294967296) + (x % 4294967296) * (y % 4294967296) / 4294967296) % 4294967296 + (x % 4294967296) * (y / 4294967296)) : Nat) : Int)) (.binOp rfl rfl (fun _ => Zb8 _ _ _ _ _)) (by rw [Gc hw])) (za rfl (zn (zS (zm rfl (zm rfl (zp (Pure1.cast (v' := .int .u64 (((x / 4294967296) * (y / 4294967296) : Nat) : Int)) (.binOp rfl rfl (fun _ => Zc9 _ _ _ _ _)) (by rw [Zaa oo])) (zm rfl (zp (Pure1.cast (v' := .int .u64 (((x / 4294967296) * (y / 4294967296) + ((x / 4294967296) * (y % 4294967296) + (x % 4294967296) * (y % 4294967296) / 4294967296) / 4294967296 : Nat) : Int)) (.binOp rfl rfl (fun _ => Zb8 _ _ _ _ _)) (by rw [Gc oo])) (zm rfl (zp (Pure1.cast (v' := .int .u64 (((((x / 4294967296) * (y % 4294967296) + (x % 4294967296) * (y % 4294967296) / 4294967296) % 4294967296 + (x % 4294967296) * (y / 4294967296)) / 4294967296 : Nat) : Int)) (.binOp rfl rfl (fun _ => Vf _ _ _ _ 32 dd)) (by rfl)) (zp (Pure1.cast (v' := .int .u64 ((x * y / 18446744073709551616 : Nat) : Int)) (.binOp rfl rfl (fun _ => Zb8 _ _ _ _ _)) (by rw [Gc (by rw [hh]; exact Nat.div_lt_of_lt_mul (Nat.mul_lt_mul'' hx hy)), hh])) (za rfl (zn (zS (zm rfl (zm rfl (zp (Pure1.cast (v' := .int .u64 ((x * y % 18446744073709551616 : Nat) : Int)) (.binOp rfl rfl (fun _ => Zc9 _ _ _ _ _)) (by rw [← Int.natCast_mul, Zam]; congr 1)) (za rfl (zn (zt ?_))))))))))))))))))))))))))))))))))))))))))))))))))))))))))))))))))))))))))); clear h; intro a w h
 refine Jm h (Qv h rfl (.tmp rfl) (.tmp rfl)) ?_
 rfl
theorem Qid (n m : Nat) (hn : (wds n).length ≤ 500000000000) (hm : (wds m).length ≤ 500000000000) : Ys Tryz.prog 136 [Vm n, Vm m] (Vm (n * m)) := by
 refine fn_intro func136 rfl ntmps136 nb ?_
 intro S w0 a hS h
 refine gC h (zS (zx rfl fun b2 => zx rfl fun b3 => zz zeroValue38 fun b4 => zn ?_)); clear h; intro a w h
 refine cW ?_
 refine Gm (fun a w => St 103 S w0 [(2, pB b2), (3, pB b3), (4, pB b4)] [(b4, .cells (Vm 0).cells 38 (0, 0)), (b3, .cells (Vm m).cells 38 (0, 0)), (b2, .cells (Vm n).cells 38 (0, 0))] [] a w) ?_ ?_
 ·
  skip
  refine gC h (zS (zp (.fA rfl Kj) (zd rfl mr isAgg9 sizeOf9 Xm ?_)))
  refine zp (.binOp rfl rfl (fun _ => Xf _ _ _ _ _)) (zm rfl ?_); intro a w h
  refine Zg h (fun hc18 h => ?_) (fun hc18 h => ?_)
  focus
   have ha : n < 18446744073709551616 := Qt.1 (by simpa using hc18)
   refine gL h (zq 18 rfl rfl (.fA rfl Kj) ?_); clear h; intro a w h
   refine Ze 18 h rfl rfl (Vi h rfl mr isAgg9 sizeOf9 Xm dd ?_); clear h; intro a h
   refine gL h (zq 18 rfl rfl (.binOp rfl rfl (fun _ => Xf _ _ _ _ _)) ?_); clear h; intro a w h
   refine Zg h (fun hc21 h => ?_) (fun hc21 h => ?_)
   ·
    skip
    have hb : m < 18446744073709551616 := Qt.1 (by simpa using hc21)
    refine gL h (zp (.pickT rfl rfl) (zn ?_)); clear h; intro a w h
    refine cW ?_
    refine Zq h rfl ?_
    refine gC h (zS (zp (.fA rfl Vr) (zd rfl mr isAgg36 sizeOf36 Ye ?_))); clear h; intro a w h
    rw [Qh ha] at h
    refine gL h (zp (.fA rfl Vr) (zd rfl mr isAgg36 sizeOf36 Ye ?_)); clear h; intro a w h
    rw [Qh hb] at h
    refine gL h (zv [_, _] rfl call187 (Qic n m ha hb) (zm rfl (zp (.eX rfl) (zp (.eX rfl) (za rfl (za rfl (zn (zS (zm rfl (zp (Pure1.cast (v' := .int .u32 ((n * m % 18446744073709551616 % 4294967296 : Nat) : Int)) (.convert rfl (Yx _)) (by rw [Jj]; congr 1)) (zm rfl (zp (.binOp rfl rfl (fun _ => Vf _ _ _ _ 32 dd)) (zp (Pure1.cast (v' := .int .u32 ((n * m % 18446744073709551616 / 4294967296 : Nat) : Int)) (.convert rfl (Yx _)) (by rw [Jj]; congr 1; omega)) (zm rfl (zp (Pure1.cast (v' := .int .u32 ((n * m / 18446744073709551616 % 4294967296 : Nat) : Int)) (.convert rfl (Yx _)) (by rw [Jj]; congr 1)) (zm rfl (zp (.binOp rfl rfl (fun _ => Vf _ _ _ _ 32 dd)) (zp (Pure1.cast (v' := .int .u32 ((n * m / 18446744073709551616 / 4294967296 : Nat) : Int)) (.convert rfl (Yx _)) (by have hh := Nat.div_lt_of_lt_mul (Nat.mul_lt_mul'' ha hb); rw [Jj]; congr 1; omega)) (zB [(_, _), (_, _), (_, _), (_, _)] rfl (Zhq _ _ _ _) fun b41 => ?_))))))))))))))))))); clear h; intro a w h
    replace h := h.shareAll hS (Jv [n * m % 18446744073709551616 % 4294967296, n * m % 18446744073709551616 / 4294967296, n * m / 18446744073709551616 % 4294967296, n * m / 18446744073709551616 / 4294967296]) rfl
    refine gL h (zw [_] rfl call188 (Qhx _ _ [n * m % 18446744073709551616 % 4294967296, n * m % 18446744073709551616 / 4294967296, n * m / 18446744073709551616 % 4294967296, n * m / 18446744073709551616 / 4294967296] (by intro x hx; have hh := Nat.div_lt_of_lt_mul (Nat.mul_lt_mul'' ha hb); simp at hx; omega) ss ss) (zt' rfl rfl Qe uu sizeOf38 rfl nb rfl ?_)); clear h; intro a w h
    refine wpList_nil (wp_ret ?_)
    refine Jm h (Zc h rfl (.cell rfl mr isAgg38 sizeOf38 Zn)) ?_
    have e : Zu [n * m % 18446744073709551616 % 4294967296, n * m % 18446744073709551616 / 4294967296, n * m / 18446744073709551616 % 4294967296, n * m / 18446744073709551616 / 4294967296] = n * m := by simp only [Zu]; omega
    rw [e]
   have hb : ¬ m < 18446744073709551616 := fun hn => by have := Qt.2 hn; simp [this] at hc21
   refine gL h (zp (.pickT rfl rfl) (zn ?_)); clear h; intro a w h
  rotate_left
  focus
   have ha : ¬ n < 18446744073709551616 := fun hn => by have := Qt.2 hn; simp [this] at hc18
   refine gL h (zo 18 rfl rfl rfl (zo 18 rfl rfl rfl (zo 18 rfl rfl rfl (zp (.pickF rfl rfl) (zn ?_))))); clear h; intro a w h
  all_goals
   refine cW ?_
   refine Zj h rfl ?_
   refine wp_skip ?_
   exact h.sub sA
 ·
  skip
  clear h
  intro a w h
  refine gC h (zs (yD Za [0, 2, 1, 3, 4, 5] (Zd kk) (yd rfl rfl mr isAgg38 sizeOf38 Zn ?_))); clear h
  refine yd rfl rfl mr isAgg38 sizeOf38 Zn ?_
  refine yf [_] rfl rfl call166 (Zbo n oo) ?_; rintro v44 Ψ44 ⟨aX, cX, rfl, hcX, rfl⟩
  refine yf [_] rfl rfl call166 (Zbo m oo) ?_; rintro v46 Ψ46 ⟨aY, cY, rfl, hcY, rfl⟩
  refine yp rfl (.assign rfl) (yp rfl (.assign rfl) (yn (zS (zm rfl (zp (.builtin [_] rfl (Zl _ _ _)) (zm rfl (zp (.builtin [_] rfl (Zl _ _ _)) (zp (.pN ((wds n).length + (wds m).length) (.add rfl rfl)) ?_)))))))); intro a w h
  refine Zi (Xn h rfl rfl runUnderlying217 typeInfo23 sizeOf23 zeroValue23 rfl dd (by exact Nat.le_refl _) (by show 4 * _ ≤ _; omega) oo dd ?_); clear h; intro b52 a w h
  rw [show (Value.int .u32 0).cells.toList = [Value.int .u32 0] from rfl, Zdb, show List.replicate ((wds n).length + (wds m).length) (Value.int .u32 0) = Jv (List.replicate ((wds n).length + (wds m).length) 0) from by simp] at h
  refine gL h (za rfl (zn (zs (zS (zm rfl (zp (.builtin [_] rfl (Zl _ _ _)) (zm rfl (zn (zb ?_))))))))); clear h; intro a w h
  refine Zf (fun (i : Nat) a w => i ≤ (wds n).length ∧ ∃ Z, Z.length = (wds n).length + (wds m).length ∧ Wd Z ∧ Zu Z = Zu ((wds n).take i) * Zu (wds m) ∧ St 103 S w0 [(4, pB b4), (8, .slice aY (wds m).length cY), (9, .slice (some ⟨b52, 0, none⟩) Z.length Z.length), (53, .slice aX (wds n).length cX), (54, .int .i64 ((wds n).length : Int)), (55, .int .i64 (i : Int))] [(b52, .cells (Jv Z).toArray 23 (0, 0)), (b4, .cells (Vm 0).cells 38 (0, 0))] [Row aX (Jv (wds n)), Row aY (Jv (wds m))] a w) (fun i => (wds n).length - i) (0) (⟨Nat.zero_le _, List.replicate ((wds n).length + (wds m).length) 0, by simp, Wd.zeros _, by rw [Zel _ (fun x hx => List.eq_of_mem_replicate hx)]; simp [Zu], by rw [List.length_replicate]; exact ((h.drop (List.Sublist.cons_cons _ (List.Sublist.cons_cons _ (List.nil_sublist _)))).factsSub (by simp)).sub (Zen ⟨rfl, rfl, rfl, rfl, rfl, rfl, trivial⟩)⟩) ?_; clear h
  rintro i a w ⟨hi, Z, hZl, hZ, hV, h⟩
  refine gC h (zS (zp (.lss rfl rfl) (zn (zs ?_)))); clear h; intro a w h
  refine Zb h rfl (fun hc56 => ?_) (fun hc56 => ?_)
  ·
   skip
   have hi' : i < (wds n).length := by simpa using hc56
   have hlt := hi'
   obtain ⟨bX, bXo, bXe⟩ := h.row_addr (ad := aX) (M := Jv (wds n)) ss (by simp; intro e; simp [e] at hlt)
   subst bXe
   refine gC h (zk (zs (zb (zS (zm rfl (zp (.indexAddr rfl rfl (Jc _ _ _ _ _ oo)) (zD rfl mm (by simp; omega) isAgg23 sizeOf23 (Qa 0 oo) (.inr rfl) ?_)))))))
   refine za rfl (za rfl (zn (zS (za rfl (zn (zs (zS (zm rfl (zp (.builtin [_] rfl (Zl _ _ _)) (zm rfl (zn (zb ?_)))))))))))); intro a w h
   refine Zf (fun (k : Nat) a w => k ≤ (wds m).length ∧ ∃ Z c, Z.length = (wds n).length + (wds m).length ∧ Wd Z ∧ c < 4294967296 ∧ Z.getD (i + (wds m).length) 0 = 0 ∧ Zu Z + 4294967296 ^ (i + k) * c + 4294967296 ^ (i + k) * ((wds n).getD i 0 * Zu ((wds m).drop k)) = Zu ((wds n).take i) * Zu (wds m) + 4294967296 ^ i * ((wds n).getD i 0 * Zu (wds m)) ∧ St 103 S w0 [(4, pB b4), (8, .slice aY (wds m).length cY), (9, .slice (some ⟨b52, 0, none⟩) Z.length Z.length), (53, .slice (some ⟨bX, bXo, none⟩) (wds n).length cX), (54, .int .i64 ((wds n).length : Int)), (55, .int .i64 (i : Int)), (10, .int .i64 (i : Int)), (11, .int .u32 ((wds n).getD i 0 : Int)), (12, .int .u64 (c : Int)), (60, .slice aY (wds m).length cY), (61, .int .i64 ((wds m).length : Int)), (62, .int .i64 (k : Int))] [(b52, .cells (Jv Z).toArray 23 (0, 0)), (b4, .cells (Vm 0).cells 38 (0, 0))] [Row (some ⟨bX, bXo, none⟩) (Jv (wds n)), Row aY (Jv (wds m))] a w) (fun k => (wds m).length - k) (0) (⟨Nat.zero_le _, Z, 0, hZl, hZ, by decide, Zj4 (Wd.wds n) (Wd.wds m) hV (Nat.le_refl _), by simp [hV], h.sub sA⟩) ?_; clear h
   clear hZ hV hZl
   rintro k a w ⟨hk, Z, c, hZl, hZ, hc, h0, hT, h⟩
   refine gC h (zS (zp (.lss rfl rfl) (zn (zs ?_)))); clear h; intro a w h
   refine Zb h rfl (fun hc63 => ?_) (fun hc63 => ?_)
   ·
    skip
    have hk' : k < (wds m).length := by simpa using hc63
    have hlt := hk'
    obtain ⟨bY, bYo, bYe⟩ := h.row_addr (ad := aY) (M := Jv (wds m)) ss (by simp; intro e; simp [e] at hlt)
    subst bYe
    have hb := Zou ((Wd.wds n).getD i) ((Wd.wds m).getD k) hc (hZ.getD (i + k))
    have hxi := (Wd.wds n).getD i
    have hyk := (Wd.wds m).getD k
    have hzk := hZ.getD (i + k)
    refine gC h (zk (zs (zb (zS (zm rfl (zp (.indexAddr rfl rfl (Jc _ _ _ _ _ oo)) (zD rfl mm (by simp; omega) isAgg23 sizeOf23 (Qa 0 oo) (.inr rfl) ?_)))))))
    refine za rfl (za rfl (zn (zS (zm rfl (zm rfl (zp (.convert rfl (Jt _ (wrap_u64 _ oo oo))) (zm rfl (zp (.convert rfl (Jt _ (wrap_u64 _ oo oo))) (zp (Pure1.cast (v' := .int .u64 (((wds n).getD i 0 * (wds m).getD k 0 : Nat) : Int)) (.binOp rfl rfl (fun _ => Zc9 _ _ _ _ _)) (by rw [Zaa oo])) (zm rfl (zm rfl (zm rfl (zp (.pN (i + k) (.add rfl rfl)) (zp (.indexAddr rfl rfl (Jc _ _ _ _ _ oo)) (zd rfl mm isAgg23 sizeOf23 ((Qa 0 (by rw [Nat.zero_add]; omega)).trans (by rw [Nat.zero_add])) ?_)))))))))))))))
    refine zp (.convert rfl (Jt _ (wrap_u64 _ oo oo))) (zp (Pure1.cast (v' := .int .u64 (((wds n).getD i 0 * (wds m).getD k 0 + Z.getD (i + k) 0 : Nat) : Int)) (.binOp rfl rfl (fun _ => Zb8 _ _ _ _ _)) (by rw [Gc oo])) (zp (Pure1.cast (v' := .int .u64 (((c + ((wds n).getD i 0 * (wds m).getD k 0 + Z.getD (i + k) 0)) : Nat) : Int)) (.binOp rfl rfl (fun _ => Zb8 _ _ _ _ _)) (by rw [Gc hb])) (za rfl (zn (zS (zm rfl (zm rfl (zm rfl (zp (.pN (i + k) (.add rfl rfl)) (zm rfl (zp (Pure1.cast (v' := .int .u32 (((c + ((wds n).getD i 0 * (wds m).getD k 0 + Z.getD (i + k) 0)) % 4294967296 : Nat) : Int)) (.convert rfl (Yx _)) (by rw [Jj]; congr 1)) (zp (.indexAddr rfl rfl (Jc _ _ _ _ _ oo)) (zt' rfl rfl ((Vo Z (0 + (i + k)) ((c + ((wds n).getD i 0 * (wds m).getD k 0 + Z.getD (i + k) 0)) % 4294967296)).trans (by rw [Nat.zero_add])) uu sizeOf23 rfl (by simp; omega) rfl ?_)))))))))))))
    refine zn (zr (zm rfl (zp (Pure1.cast (v' := .int .u64 (((c + ((wds n).getD i 0 * (wds m).getD k 0 + Z.getD (i + k) 0)) / 4294967296 : Nat) : Int)) (.binOp rfl rfl (fun _ => Vf _ _ _ _ 32 dd)) (by rfl)) (za rfl (zn (zr (zp (.add rfl rfl) (zm rfl (zn ?_))))))))); intro a w h
    exact ⟨k + 1, ⟨oo, Z.set (i + k) ((c + ((wds n).getD i 0 * (wds m).getD k 0 + Z.getD (i + k) 0)) % 4294967296), _, by simpa using hZl, hZ.set _ _ (Nat.mod_lt _ dd), Nat.div_lt_of_lt_mul hb, by rw [Zf5 oo]; exact h0, Qbv oo hT, by rw [List.length_set]; exact h.sub sA⟩, oo⟩
   ·
    skip
    have hk' : k = (wds m).length := by simp at hc63; omega
    subst hk'
    refine gC h (ze (zr (zm rfl (zm rfl (zm rfl (zp (.builtin [_] rfl (Zl _ _ _)) (zp (.pN (i + (wds m).length) (.add rfl rfl)) (zm rfl (zp (Pure1.cast (v' := .int .u32 (c : Int)) (.convert rfl (Yx _)) (by rw [wrap_u32 _ oo oo])) (zp (.indexAddr rfl rfl (Jc _ _ _ _ _ oo)) (zt' rfl rfl ((Vo Z (0 + (i + (wds m).length)) c).trans (by rw [Nat.zero_add])) uu sizeOf23 rfl (by simp; omega) rfl ?_)))))))))))
    refine zn (zr (zp (.add rfl rfl) (zm rfl (zn ?_)))); intro a w h
    exact ⟨i + 1, ⟨oo, Z.set (i + (wds m).length) c, by simpa using hZl, hZ.set _ _ hc, Zpq hi' oo h0 hT, by rw [List.length_set]; exact h.sub sA⟩, oo⟩
  ·
   skip
   have hi' : i = (wds n).length := by simp at hc56; omega
   refine wp_exit (wp_seq (wp_region_lit ?_))
   replace h := h.shareAll hS (Jv Z) rfl
   refine gL h (zm rfl (zw [_] rfl call188 (Qhx _ _ Z hZ (Nat.le_refl _) oo) (zt' rfl rfl Qe uu sizeOf38 rfl nb rfl ?_))); clear h; intro a w h
   refine wpList_nil (wp_ret ?_)
   refine Jm h (Zc h rfl (.cell rfl mr isAgg38 sizeOf38 Zn)) ?_
   rw [hi', List.take_length, Qu, Qu] at hV
   rw [hV]
end
section
theorem Qih (hi lo y : Nat) (hlo : lo < 4294967296) (hy : y < 4294967296) (h0 : hi < y) :
  Ys Tryz.prog 200 [.int .u32 (hi : Int), .int .u32 (lo : Int), .int .u32 (y : Int)] (.tuple #[.int .u32 (((hi * 4294967296 + lo) / y : Nat) : Int), .int .u32 (((hi * 4294967296 + lo) % y : Nat) : Int)]) := by
 have hq : (hi * 4294967296 + lo) / y < 4294967296 := Zii h0 hlo
 have hr : (hi * 4294967296 + lo) % y < y := Nat.mod_lt _ oo
 refine fn_intro func200 rfl ntmps200 nb ?_
 intro S w0 a hS h
 refine gC h (zS (za rfl (za rfl (zn (zs (zS (zm rfl (zp (.neq rfl rfl) (zm rfl ?_))))))))); clear h; intro a w h
 refine Zg h (fun hc11 h => ?_) (fun hc11 h => (by exfalso; have := Zud (b := 0) hc11; omega))
 refine gL h (zq 11 rfl rfl (.move rfl) (zq 11 rfl rfl (.move rfl) (zq 11 rfl rfl (.leq rfl rfl) ?_))); clear h; intro a w h
 refine Zg h (fun hc14 h => (by exfalso; have := of_decide_eq_true hc14; omega)) (fun hc14 h => ?_)
 refine gL h (zp (.pickT rfl rfl) (zn ?_)); clear h; intro a w h
 refine cW ?_
 refine Zj h rfl ?_
 refine gC h (zk (zS (zm rfl (zp (.convert rfl (Jt _ (wrap_u64 _ oo oo))) (zp (Pure1.cast (v' := .int .u64 ((hi * 4294967296 : Nat) : Int)) (.binOp rfl rfl (fun _ => Zc8 _ _ _ hi 32 dd)) (by rw [wrap_u64 _ oo oo])) (zm rfl (zp (.convert rfl (Jt _ (wrap_u64 _ oo oo))) (zp (Pure1.cast (v' := .int .u64 ((hi * 4294967296 + lo : Nat) : Int)) (.binOp rfl rfl (fun _ => Zfq rfl _ _ _ (hi * 4294967296) lo (by show _ < 18446744073709551616; omega) (by show _ < 18446744073709551616; omega))) (by have e := Nat.shiftLeft_add_eq_or_of_lt (show lo < 2 ^ 32 by omega) hi; rw [Nat.shiftLeft_eq] at e; rw [show hi * 4294967296 = hi * 2 ^ 32 from rfl, ← e])) (za rfl (zn (zs (yD Za [0, 1, 2, 3, 4, 5, 6, 7, 8, 9, 10, 11] (Zd kk) (ym rfl rfl (ym rfl rfl (yp rfl (.convert rfl (Jt _ (wrap_u64 _ oo oo))) (yp rfl (Pure1.cast (v' := .int .u64 (((hi * 4294967296 + lo) / y : Nat) : Int)) (.binOp rfl rfl (fun _ => Vp _ _ _ _ _ oo)) (by rw [Yh, Zdw (Nat.lt_of_lt_of_le hq dd)])) (yp rfl (Pure1.cast (v' := .int .u32 (((hi * 4294967296 + lo) / y : Nat) : Int)) (.convert rfl (Yx _)) (by rw [Zfl hq])) (ym rfl rfl (ym rfl rfl (yp rfl (.convert rfl (Jt _ (wrap_u64 _ oo oo))) (yp rfl (Pure1.cast (v' := .int .u64 (((hi * 4294967296 + lo) % y : Nat) : Int)) (.binOp rfl rfl (fun _ => Vg _ _ _ _ _ oo)) (by rw [Yg])) (yp rfl (Pure1.cast (v' := .int .u32 (((hi * 4294967296 + lo) % y : Nat) : Int)) (.convert rfl (Yx _)) (by rw [Zfl (Nat.lt_trans hr hy)])) (yp rfl (.assign rfl) (yp rfl (.assign rfl) (yn (zt ?_)))))))))))))))))))))))))); clear h; intro a w h
 refine Jm h (Qv h rfl (.tmp rfl) (.tmp rfl)) ?_
 rfl
theorem Zz0 (ad : Option Addr) (cp : Nat) (X : List Nat) (y : Nat) (hX : Wd X) (hl : X.length ≤ 1099511627776) (hy0 : 0 < y) (hy : y < 4294967296) :
  Zj3 Tryz.prog 167 [.slice ad X.length cp, .int .u32 (y : Int)] [Row ad (Jv X)] (fun v σn => ∃ b Q, v = .tuple #[.slice (some ⟨b, 0, none⟩) Q.length Q.length, .int .u32 ((Zu X % y : Nat) : Int)] ∧ Wd Q ∧ Q.length = X.length ∧ Zu Q = Zu X / y ∧ σn = [(b, .cells (Jv Q).toArray 23 (0, 0))]) := by
 refine fn_introO func167 rfl ntmps167 nb ?_
 intro S w0 a hS h
 refine gC h (zS (za rfl (za rfl (zn (zS (zm rfl (zp (.builtin [_] rfl (Zl _ _ _)) ?_))))))); clear h; intro a w h
 refine Zi (Xn h rfl rfl runUnderlying217 typeInfo23 sizeOf23 zeroValue23 rfl dd (by exact Nat.le_refl _) (by show 4 * _ ≤ _; omega) oo dd ?_); clear h; intro b9 a w h
 rw [show (Value.int .u32 0).cells.toList = [Value.int .u32 0] from rfl, Zdb, show List.replicate X.length (Value.int .u32 0) = Jv (List.replicate X.length 0) from by simp] at h
 refine gL h (za rfl (zn (zs (zS (zm rfl (zp (.builtin [_] rfl (Zl _ _ _)) (zp (.sub rfl rfl) (za rfl (zn (zb ?_)))))))))); clear h; intro a w h
 refine Zf (fun (k : Nat) a w => ∃ Q r, k ≤ X.length ∧ Q.length = X.length ∧ Wd Q ∧ r < y ∧ Zu (X.drop k) = Zu (Q.drop k) * y + r ∧ St 32 S w0 [(0, .slice ad X.length cp), (1, .int .u32 (y : Int)), (4, .slice (some ⟨b9, 0, none⟩) X.length X.length), (5, .int .u32 (r : Int)), (6, .int .i64 ((k : Int) - 1))] [(b9, .cells (Jv Q).toArray 23 (0, 0))] [Row ad (Jv X)] a w) (fun k => k) (X.length) (⟨List.replicate X.length 0, 0, Nat.le_refl _, by simp, Wd.zeros _, hy0, by simp [Zu], h.sub sA⟩) ?_; clear h
 rintro k a w ⟨Q, r, hkX, hQ, hQw, hr, hT, h⟩
 refine gC h (zs (zS (zm rfl (zp (.geq rfl rfl) (zn ?_))))); clear h; intro a w h
 refine cW ?_
 refine Zb h rfl (fun hc14 => ?_) (fun hc14 => ?_)
 ·
  skip
  have hk : 0 < k := by simp at hc14; omega
  have hlt : 0 < X.length := oo
  obtain ⟨bX, bXo, bXe⟩ := h.row_addr (ad := ad) (M := Jv X) ss (by simp; intro e; simp [e] at hlt)
  subst bXe
  refine gC h (zk (zs (zb (zr (zm rfl (zp (.pO (k - 1) (.move rfl)) (zm rfl (zm rfl (zp (.pO (k - 1) (.move rfl)) (zp (.indexAddr rfl rfl (Jc _ _ _ _ _ oo)) (zD rfl mm (by simp; omega) isAgg23 sizeOf23 (Qa 0 oo) (.inr rfl) ?_)))))))))))
  refine zm rfl (zv [_, _, _] rfl call200 (Qih r (X.getD (k - 1) 0) y (hX.getD _) hy hr) (zm rfl (zp (.eX rfl) (zp (.eX rfl) (zp (.indexAddr rfl rfl (Jc _ _ _ _ _ oo)) (zt' rfl rfl ((Vo Q (0 + (k - 1)) ((r * 4294967296 + X.getD (k - 1) 0) / y)).trans (by rw [Nat.zero_add])) uu sizeOf23 rfl (by simp; omega) rfl ?_))))))
  refine za rfl (zn (zr (zm rfl (zp (Pure1.cast (v' := .int .i64 (((k - 1 : Nat) : Int) - 1)) (.sub rfl rfl) (by show Value.int _ _ = Value.int _ _; congr 1; omega)) (za rfl (zn ?_)))))); intro a w h
  exact ⟨k - 1, ⟨Q.set (k - 1) ((r * 4294967296 + X.getD (k - 1) 0) / y), _, oo, by simpa using hQ, hQw.set _ _ (Zii hr (hX.getD _)), Nat.mod_lt _ hy0, Zt0 hk hkX hQ hT, h.sub sA⟩, oo⟩
 ·
  skip
  have hk : k = 0 := by simp at hc14; omega
  refine gC h (ze (zS (zm rfl (zm rfl (za rfl (za rfl (zn (zt ?_)))))))); clear h; intro a w h
  subst hk
  simp only [List.drop_zero] at hT
  rw [← hQ] at h
  refine Zoq h (Qv h rfl (.tmp rfl) (.tmp rfl)) ⟨b9, Q, ?_, hQw, hQ, ?_, rfl⟩ (List.Sublist.refl _)
  · rw [hT, Nat.mul_comm, Nat.mul_add_mod, Nat.mod_eq_of_lt hr]
  · rw [hT, Nat.mul_comm, Nat.mul_add_div hy0, Nat.div_eq_of_lt hr, Nat.add_zero]
theorem Zoe (ad : Option Addr) (cp : Nat) (X : List Nat) (s : Nat) (hX : Wd X) (hl : X.length ≤ 1000000000000) (hs : s < 32) :
  Zj3 Tryz.prog 232 [.slice ad X.length cp, .int .i64 (s : Int)] [Row ad (Jv X)] (fun v σn => ∃ b Z, v = .slice (some ⟨b, 0, none⟩) Z.length Z.length ∧ Wd Z ∧ Z.length = X.length + 1 ∧ Zu Z = Zu X * 2 ^ s ∧ σn = [(b, .cells (Jv Z).toArray 23 (0, 0))]) := by
 refine fn_introO func232 rfl ntmps232 nb ?_
 intro S w0 a hS h
 refine gC h (zS (za rfl (zn (zS (zm rfl (zp (.builtin [_] rfl (Zl _ _ _)) (zp (.pN (X.length + 1) (.add rfl rfl)) ?_))))))); clear h; intro a w h
 refine Zi (Xn h rfl rfl runUnderlying217 typeInfo23 sizeOf23 zeroValue23 rfl dd (by exact Nat.le_refl _) (by show 4 * _ ≤ _; omega) oo dd ?_); clear h; intro b12 a w h
 rw [show (Value.int .u32 0).cells.toList = [Value.int .u32 0] from rfl, Zdb, show List.replicate (X.length + 1) (Value.int .u32 0) = Jv (List.replicate (X.length + 1) 0) from by simp] at h
 refine gL h (za rfl (zn (zS (za rfl (zn (zs (zS (zm rfl (zp (.builtin [_] rfl (Zl _ _ _)) (zm rfl (zn (zb ?_)))))))))))); clear h; intro a w h
 refine Zf (fun (i : Nat) a w => ∃ Z c, i ≤ X.length ∧ Z.length = X.length + 1 ∧ Wd Z ∧ c < 2 ^ s ∧ (∀ j, i ≤ j → Z.getD j 0 = 0) ∧ Zu Z + 4294967296 ^ i * c = Zu (X.take i) * 2 ^ s ∧ St 41 S w0 [(0, .slice ad X.length cp), (1, .int .i64 (s : Int)), (5, .slice (some ⟨b12, 0, none⟩) (X.length + 1) (X.length + 1)), (6, .int .u32 (c : Int)), (13, .slice ad X.length cp), (14, .int .i64 (X.length : Int)), (15, .int .i64 (i : Int))] [(b12, .cells (Jv Z).toArray 23 (0, 0))] [Row ad (Jv X)] a w) (fun i => X.length - i) (0) (⟨List.replicate (X.length + 1) 0, 0, Nat.zero_le _, by simp, Wd.zeros _, Nat.pow_pos oo, fun j _ => by simp [List.getD, List.getElem?_replicate]; split <;> rfl, by rw [Zel _ (fun x hx => List.eq_of_mem_replicate hx)]; simp [Zu], h.sub sA⟩) ?_; clear h
 rintro i a w ⟨Z, c, hi, hZl, hZ, hc, hz, hT, h⟩
 refine gC h (zS (zp (.lss rfl rfl) (zn (zs ?_)))); clear h; intro a w h
 refine Zb h rfl (fun hc16 => ?_) (fun hc16 => ?_)
 ·
  skip
  have hi' : i < X.length := by simpa using hc16
  have hlt := hi'
  obtain ⟨bX, bXo, bXe⟩ := h.row_addr (ad := ad) (M := Jv X) ss (by simp; intro e; simp [e] at hlt)
  subst bXe
  have hx := hX.getD i
  have h2 := Zv2 (X.getD i 0) s c hs hc
  have h3 := Zv3 (X.getD i 0) s hs hx
  have h4 := Zrh s hs
  have h5 : X.getD i 0 * 2 ^ s ≤ 4294967295 * 2147483648 := Nat.mul_le_mul oo h4
  refine gC h (zk (zs (zb (zS (zm rfl (zp (.indexAddr rfl rfl (Jc _ _ _ _ _ oo)) (zD rfl mm (by simp; omega) isAgg23 sizeOf23 (Qa 0 oo) (.inr rfl) ?_)))))))
  refine za rfl (za rfl (zn (zS (zm rfl (zm rfl (zm rfl (zm rfl (zp (Pure1.cast (v' := .int .u32 ((X.getD i 0 * 2 ^ s % 4294967296 : Nat) : Int)) (.binOp rfl rfl (fun _ => Zc8 _ _ _ _ s (by show s ≤ 32; omega))) (by rw [Jj]; congr 1)) (zm rfl (zp (Pure1.cast (v' := .int .u32 ((X.getD i 0 * 2 ^ s % 4294967296 + c : Nat) : Int)) (.binOp rfl rfl (fun _ => Zfq rfl _ _ _ _ c (by show _ < 4294967296; omega) (by show _ < 4294967296; omega))) (by rw [shl_or _ s c hs hc])) (zp (.indexAddr rfl rfl (Jc _ _ _ _ _ oo)) (zt' rfl rfl ((Vo Z (0 + i) (X.getD i 0 * 2 ^ s % 4294967296 + c)).trans (by rw [Nat.zero_add])) uu sizeOf23 rfl (by simp; omega) rfl ?_))))))))))))
  refine zn (zr (zm rfl (zp (.convert rfl (Jt _ (wrap_u64 _ oo oo))) (zm rfl (zp (Pure1.cast (v' := .int .u64 ((X.getD i 0 * 2 ^ s : Nat) : Int)) (.binOp rfl rfl (fun _ => Zc8 _ _ _ _ s (by show s ≤ 64; omega))) (by rw [wrap_u64 _ oo oo])) (zp (.binOp rfl rfl (fun _ => Vf _ _ _ _ 32 dd)) (zp (Pure1.cast (v' := .int .u32 ((X.getD i 0 * 2 ^ s / 4294967296 : Nat) : Int)) (.convert rfl (Yx _)) (by rw [wrap_u32 _ oo oo])) (za rfl (zn (zr (zp (.add rfl rfl) (zm rfl (zn ?_))))))))))))); intro a w h
  exact ⟨i + 1, ⟨Z.set i (X.getD i 0 * 2 ^ s % 4294967296 + c), _, oo, by simpa using hZl, hZ.set _ _ h2, h3, fun j hj => by rw [Zf5 oo]; exact hz j oo, Zt1 hi' hZl (hz i (Nat.le_refl _)) hT, h.sub sA⟩, oo⟩
 ·
  skip
  have hi' : i = X.length := by simp at hc16; omega
  refine gC h (ze (zS (zm rfl (zm rfl (zp (.builtin [_] rfl (Zl _ _ _)) (zm rfl (zp (.indexAddr rfl rfl (Jc _ _ _ _ _ oo)) (zt' rfl rfl ((Vo Z (0 + X.length) c).trans (by rw [Nat.zero_add])) uu sizeOf23 rfl (by simp; omega) rfl ?_))))))))
  refine zn (zS (zm rfl (za rfl (zn (zt ?_))))); intro a w h
  subst hi'
  have hp := Zrh s hs
  rw [show X.length + 1 = (Z.set X.length c).length from by simp [hZl]] at h
  refine Zoq h (Zc h rfl (.tmp rfl)) ⟨b12, Z.set X.length c, rfl, hZ.set _ _ oo, by simpa using hZl, Zv4 hZl (hz _ (Nat.le_refl _)) hT, rfl⟩ (List.Sublist.refl _)
end
section
theorem Qcu (x : Int) (h0 : IntKind.u8.wrap x = x) (w : World) : (Go.convert 23 5 (.int .u32 x)).run Tryz.prog w = .ok (.int .u8 x) w := by
 rw [Zjl, h0]
theorem cv_5_3 (x : Int) (w : World) : (Go.convert 5 3 (.int .u8 x)).run Tryz.prog w = .ok (.int .i64 (IntKind.i64.wrap x)) w := by
 simp [go_sem]
theorem Zqc (x : Int) (h0 : IntKind.i64.wrap x = x) (w : World) : (Go.convert 5 3 (.int .u8 x)).run Tryz.prog w = .ok (.int .i64 x) w := by
 rw [cv_5_3, h0]
theorem Qb3 : ∀ j, j < 256 → ((⟨#[0, 1, 2, 2, 3, 3, 3, 3, 4, 4, 4, 4, 4, 4, 4, 4, 5, 5, 5, 5, 5, 5, 5, 5, 5, 5, 5, 5, 5, 5, 5, 5, 6, 6, 6, 6, 6, 6, 6, 6, 6, 6, 6, 6, 6, 6, 6, 6, 6, 6, 6, 6, 6, 6, 6, 6, 6, 6, 6, 6, 6, 6, 6, 6, 7, 7, 7, 7, 7, 7, 7, 7, 7, 7, 7, 7, 7, 7, 7, 7, 7, 7, 7, 7, 7, 7, 7, 7, 7, 7, 7, 7, 7, 7, 7, 7, 7, 7, 7, 7, 7, 7, 7, 7, 7, 7, 7, 7, 7, 7, 7, 7, 7, 7, 7, 7, 7, 7, 7, 7, 7, 7, 7, 7, 7, 7, 7, 7, 8, 8, 8, 8, 8, 8, 8, 8, 8, 8, 8, 8, 8, 8, 8, 8, 8, 8, 8, 8, 8, 8, 8, 8, 8, 8, 8, 8, 8, 8, 8, 8, 8, 8, 8, 8, 8, 8, 8, 8, 8, 8, 8, 8, 8, 8, 8, 8, 8, 8, 8, 8, 8, 8, 8, 8, 8, 8, 8, 8, 8, 8, 8, 8, 8, 8, 8, 8, 8, 8, 8, 8, 8, 8, 8, 8, 8, 8, 8, 8, 8, 8, 8, 8, 8, 8, 8, 8, 8, 8, 8, 8, 8, 8, 8, 8, 8, 8, 8, 8, 8, 8, 8, 8, 8, 8, 8, 8, 8, 8, 8, 8, 8, 8, 8, 8, 8, 8, 8, 8, 8, 8, 8, 8, 8, 8, 8, 8]⟩ : ByteArray).data.toList.getD j 0).toNat = Zdp j := by decide +kernel
theorem Qie (x : Nat) (hx : x < 4294967296) : Ys Tryz.prog 219 [.int .u32 (x : Int)] (.int .i64 (Zdp x : Int)) := by
 refine fn_intro func219 rfl ntmps219 nb ?_
 intro S w0 a hS h
 refine gC h (zS (za rfl (zn ?_))); clear h; intro a w h
 refine cW ?_
 refine Gm (fun a w => ∃ y m : Nat, y < 65536 ∧ m ≤ 16 ∧ m + Zdp y = Zdp x ∧ St 19 S w0 [(0, .int .u32 (y : Int)), (2, .int .i64 (m : Int))] [] [] a w) ?_ ?_
 ·
  skip
  refine gC h (zS (zm rfl (zp (.geq rfl rfl) (zn ?_)))); clear h; intro a w h
  refine cW ?_
  refine Zb h rfl (fun hc4 => ?_) (fun hc4 => ?_)
  ·
   skip
   have h4 : 65536 ≤ x := dT hc4
   refine gC h (zS (zm rfl (zp (.binOp rfl rfl (fun _ => Vf _ _ _ x 16 dd)) (za rfl (zn (zr (za rfl (zn ?_)))))))); clear h; intro a w h
   exact ⟨x / 2 ^ 16, 16, oo, by omega, by rw [Nat.add_comm]; exact Zkp (k := 16) oo, h.sub sA⟩
  ·
   skip
   have h4 : x < 65536 := dF hc4
   refine wp_skip ?_
   exact ⟨x, 0, h4, oo, Nat.zero_add _, h.sub sA⟩
 ·
  clear h
  rintro a w ⟨y, m, hy, hm, hl, h⟩
  refine Gm (fun a w => ∃ y m : Nat, y < 256 ∧ m ≤ 24 ∧ m + Zdp y = Zdp x ∧ St 19 S w0 [(0, .int .u32 (y : Int)), (2, .int .i64 (m : Int))] [] [] a w) ?_ ?_
  ·
   skip
   refine gC h (zS (zm rfl (zp (.geq rfl rfl) (zn ?_)))); clear h; intro a w h
   refine cW ?_
   refine Zb h rfl (fun hc8 => ?_) (fun hc8 => ?_)
   ·
    skip
    have h7 : 256 ≤ y := dT hc8
    refine gC h (zS (zm rfl (zp (.binOp rfl rfl (fun _ => Vf _ _ _ y 8 dd)) (za rfl (zn (zr (zm rfl (zp (.pN (m + 8) (.add rfl rfl)) (za rfl (zn ?_)))))))))); clear h; intro a w h
    exact ⟨y / 2 ^ 8, m + 8, oo, by omega, by rw [← hl, Nat.add_assoc, Nat.add_comm 8]; congr 1; exact Zkp (k := 8) oo, h.sub sA⟩
   ·
    skip
    have h7 : y < 256 := dF hc8
    refine wp_skip ?_
    exact ⟨y, m, h7, oo, hl, h.sub sA⟩
  ·
   clear h
   rintro a w ⟨z, o, hz, ho, hl2, h⟩
   refine gC h (zS (zm rfl (zm rfl ?_)))
   have hle : Zdp z ≤ 8 := Zgv hz
   refine zp (.convert rfl (Qcu _ (wrap_u8 _ oo oo))) (zp (Pure1.cast (v' := .int .u8 (Zdp z : Int)) (.index rfl rfl (fun _ => Zda runUnderlying9 _ _ (by show z < 256; exact hz))) (by exact congrArg (fun n : Nat => Value.int .u8 (n : Int)) (Qb3 z hz))) (zp (.convert rfl (Zqc _ (wrap_i64 _ oo oo))) (zp (Pure1.cast (v' := .int .i64 (Zdp x : Int)) (.add rfl rfl) (by show Value.int _ _ = Value.int _ _; congr 1; omega)) (za rfl (zn (zt ?_)))))); intro a w h
   exact Zbw h
theorem Zhs (x : Nat) (hx : x < 4294967296) : Ys Tryz.prog 231 [.int .u32 (x : Int)] (.int .i64 ((32 - Zdp x : Nat) : Int)) := by
 refine fn_intro func231 rfl ntmps231 nb ?_
 intro S w0 a hS h
 refine gC h (zS (za rfl (zn (zS ?_))))
 have hle : Zdp x ≤ 32 := Zgv (k := 32) hx
 refine zm rfl (zv [_] rfl call219 (Qie x hx) (zp (.pO (32 - Zdp x) (.sub rfl rfl)) (za rfl (zn (zt ?_))))); intro a w h
 exact Zbw h
theorem C_half (b cp : Nat) (O : List Nat) (hO : Wd O) (hl : O.length ≤ 1099511627776) (σr : List (Nat × Obj)) (Φ : List Zy) :
  Zob Tryz.prog 234 [.slice (some ⟨b, 0, none⟩) O.length cp] ((b, .cells (Jv O).toArray 23 (0, 0)) :: σr) Φ
   (fun _ σ' Φ' => ∃ Z, Wd Z ∧ Z.length = O.length ∧ Zu Z = Zu O / 2 ∧ σ' = (b, .cells (Jv Z).toArray 23 (0, 0)) :: σr ∧ Φ' = Φ) := by
 refine fn_introM func234 rfl ntmps234 nb ?_
 intro S w0 a w hS h
 refine gC h (zS (zm rfl (zp (.builtin [_] rfl (Zl _ _ _)) (zm rfl (zn (zb ?_)))))); clear h; intro a w h
 refine Zf (fun (i : Nat) a w => ∃ Z, i ≤ O.length ∧ Z.length = O.length ∧ Wd Z ∧ Z.drop i = O.drop i ∧ 2 * Zu (Z.take i) + O.getD 0 0 % 2 = Zu (O.take i) + 4294967296 ^ i * (O.getD i 0 % 2) ∧ St 32 S w0 [(0, .slice (some ⟨b, 0, none⟩) O.length cp), (3, .slice (some ⟨b, 0, none⟩) O.length cp), (4, .int .i64 (O.length : Int)), (5, .int .i64 (i : Int))] ((b, .cells (Jv Z).toArray 23 (0, 0)) :: σr) Φ a w) (fun i => O.length - i) (0) (⟨O, Nat.zero_le _, rfl, hO, rfl, by simp [Zu], h.sub sA⟩) ?_; clear h
 rintro i a w ⟨Z, hi, hZl, hZ, hd, hT, h⟩
 refine gC h (zS (zp (.lss rfl rfl) (zn (zs ?_)))); clear h; intro a w h
 refine Zb h rfl (fun hc6 => ?_) (fun hc6 => ?_)
 ·
  skip
  have hi' : i < O.length := by simpa using hc6
  have hzi := Zhh hd (Nat.le_refl i)
  have hzi1 := Zhh hd (Nat.le_succ i)
  have hxi := hO.getD i
  have hxj := hO.getD (i + 1)
  refine wp_skip ?_
  refine cW ?_
  refine Gm (fun a w => St 32 S w0 [(0, .slice (some ⟨b, 0, none⟩) O.length cp), (3, .slice (some ⟨b, 0, none⟩) O.length cp), (4, .int .i64 (O.length : Int)), (5, .int .i64 (i : Int))] ((b, .cells (Jv (Z.set i (O.getD i 0 / 2 + 2147483648 * (O.getD (i + 1) 0 % 2)))).toArray 23 (0, 0)) :: σr) Φ a w) ?_ ?_
  ·
   skip
   refine gC h (zb (zS (zm rfl (za rfl (zn (zS (zm rfl (zm rfl (zp (.indexAddr rfl rfl (Jc _ _ _ _ _ oo)) (zd rfl mm isAgg23 sizeOf23 ((Qa 0 (by rw [Nat.zero_add]; omega)).trans (by rw [Nat.zero_add, hzi])) ?_))))))))))
   refine zp (.binOp rfl rfl (fun _ => Vf _ _ _ _ 1 dd)) (zp (.indexAddr rfl rfl (Jc _ _ _ _ _ oo)) (zt' rfl rfl ((Vo Z (0 + i) (O.getD i 0 / 2 ^ 1)).trans (by rw [Nat.zero_add])) uu sizeOf23 rfl (by simp; omega) rfl ?_))
   refine zn (zS (zm rfl (zp (.pN (i + 1) (.add rfl rfl)) (zm rfl (zp (.builtin [_] rfl (Zl _ _ _)) (zp (.lss rfl rfl) (zn ?_))))))); intro a w h
   refine cW ?_
   refine Zb h rfl (fun hc18 => ?_) (fun hc18 => ?_)
   ·
    skip
    have hlt2 : i + 1 < O.length := dT hc18
    refine gC h (yD Za [0, 1, 2, 3, 4, 5, 6, 7, 8, 9, 10, 11, 12] (Zd kk) (ym rfl rfl (ym rfl rfl (yp rfl (.indexAddr rfl rfl (Jc _ _ _ _ _ oo)) (yd rfl rfl mm isAgg23 sizeOf23 ((Qa 0 (by rw [Nat.zero_add, List.length_set]; omega)).trans (by rw [Nat.zero_add, Zlp oo])) ?_))))); clear h
    refine ym rfl rfl (ym rfl rfl (yp rfl (.pN (i + 1) (.add rfl rfl)) (yp rfl (.indexAddr rfl rfl (Jc _ _ _ _ _ oo)) (yd rfl rfl mm isAgg23 sizeOf23 ((Qa 0 (by rw [Nat.zero_add, List.length_set]; omega)).trans (by rw [Nat.zero_add, Zf5 oo, hzi1])) ?_))))
    refine yp rfl (Pure1.cast (v' := .int .u32 ((O.getD (i + 1) 0 * 2 ^ 31 % 4294967296 : Nat) : Int)) (.binOp rfl rfl (fun _ => Zc8 _ _ _ _ 31 dd)) (by rw [Jj]; congr 1)) (yp rfl (Pure1.cast (v' := .int .u32 ((O.getD i 0 / 2 + 2147483648 * (O.getD (i + 1) 0 % 2) : Nat) : Int)) (.binOp rfl rfl (fun _ => Zfq rfl _ _ _ _ _ (by show _ < 4294967296; omega) (by show _ < 4294967296; omega))) (by rw [Zx7 _ _ hxi])) (yp rfl (.indexAddr rfl rfl (Jc _ _ _ _ _ oo)) (yt rfl rfl rfl ((Vo (Z.set i (O.getD i 0 / 2 ^ 1)) (0 + i) (O.getD i 0 / 2 + 2147483648 * (O.getD (i + 1) 0 % 2))).trans (by rw [Nat.zero_add, List.set_set])) uu sizeOf23 rfl (by simp; omega) rfl ?_)))
    refine yn ?_; intro a w h
    exact h.sub sA
   ·
    skip
    have hlt2 : O.length ≤ i + 1 := dF hc18
    refine wp_skip ?_
    rw [Gu hlt2, show O.getD i 0 / 2 + 2147483648 * (0 % 2) = O.getD i 0 / 2 ^ 1 from rfl]
    exact h.sub sA
  ·
   clear h
   intro a w h
   refine gC h (zr (zp (.add rfl rfl) (zm rfl (zn ?_)))); clear h; intro a w h
   exact ⟨i + 1, ⟨Z.set i (O.getD i 0 / 2 + 2147483648 * (O.getD (i + 1) 0 % 2)), oo, by simpa using hZl, hZ.set _ _ oo, Zl0 hd, Zx8 hi' hZl hd hT, h.sub sA⟩, oo⟩
 ·
  skip
  have hi' : i = O.length := by simp at hc6; omega
  refine wp_exit ?_
  subst hi'
  refine Qd4 h (Zfr rfl) ⟨Z, hZ, hZl, Qca oo hZl hT, rfl, rfl⟩ (List.Sublist.refl _) (fun _ h => h)
theorem C_less (b cu : Nat) (p W0 hh : List Nat) (ad : Option Addr) (cv : Nat) (V : List Nat) (dg : Nat) (hW0 : Wd W0) (hV : Wd V) (hl : V.length ≤ 1000000000000) (hWl0 : W0.length = V.length + 1) (hdg : dg < 4294967296)
  (hp : p.length ≤ 1000000000000) (σr : List (Nat × Obj)) (Φ : List Zy) (hΦ : Row ad (Jv V) ∈ Φ) :
  Zob Tryz.prog 233 [.slice (some ⟨b, p.length, none⟩) (V.length + 1) cu, .slice ad V.length cv, .int .u64 (dg : Int)] ((b, .cells (Jv (p ++ W0 ++ hh)).toArray 23 (0, 0)) :: σr) Φ
   (fun v σ' Φ' => ∃ (W : List Nat) (l : Nat), l ≤ 1 ∧ v = .bool (decide ((l : Int) > 0)) ∧ Wd W ∧ W.length = V.length + 1 ∧ Zu W + dg * Zu V = Zu W0 + 4294967296 ^ (V.length + 1) * l ∧
    σ' = (b, .cells (Jv (p ++ W ++ hh)).toArray 23 (0, 0)) :: σr ∧ Φ' = Φ) := by
 refine fn_introM func233 rfl ntmps233 nb ?_
 intro S w0 a w hS h
 refine gC h (zS (za rfl (zn (zS (za rfl (za rfl (zn (zs (zS (zm rfl (zp (.builtin [_] rfl (Zl _ _ _)) (zm rfl (zn (zb ?_)))))))))))))); clear h; intro a w h
 refine Zf (fun (i : Nat) a w => ∃ (W : List Nat) (c g : Nat), i ≤ V.length ∧ W.length = V.length + 1 ∧ Wd W ∧ c < 4294967296 ∧ g ≤ 1 ∧ Zu W + dg * Zu (V.take i) = Zu W0 + 4294967296 ^ i * (c + g) ∧ St 60 S w0 [(0, .slice (some ⟨b, p.length, none⟩) (V.length + 1) cu), (1, .slice ad V.length cv), (2, .int .u64 (dg : Int)), (7, .int .u64 (c : Int)), (8, .int .u32 (g : Int)), (12, .slice ad V.length cv), (13, .int .i64 (V.length : Int)), (14, .int .i64 (i : Int))] ((b, .cells (Jv (p ++ W ++ hh)).toArray 23 (0, 0)) :: σr) Φ a w) (fun i => V.length - i) (0) (⟨W0, 0, 0, Nat.zero_le _, hWl0, hW0, by decide, by decide, by simp [Zu], h.sub sA⟩) ?_; clear h
 rintro i a w ⟨W, c, g, hi, hWl, hW, hc, hg, hT, h⟩
 refine gC h (zS (zp (.lss rfl rfl) (zn (zs ?_)))); clear h; intro a w h
 refine Zb h rfl (fun hc15 => ?_) (fun hc15 => ?_)
 ·
  skip
  have hi' : i < V.length := by simpa using hc15
  obtain ⟨bV, oV, rfl⟩ := h.row_addr hΦ (by simp; intro e; simp [e] at hi')
  have hwi := hV.getD i
  obtain ⟨hc1, hc2⟩ := Zuj hc hdg hwi
  have hm := Nat.mod_lt (c + dg * V.getD i 0) (show 0 < 4294967296 by decide)
  refine gC h (zk (zs (zb (zS (zm rfl (zp (.indexAddr rfl rfl (Jc _ _ _ _ _ oo)) (zD rfl hΦ (by simp; omega) isAgg23 sizeOf23 (Qa 0 oo) (.inr rfl) ?_)))))))
  refine za rfl (za rfl (zn (zS (zm rfl (zm rfl (zm rfl (zp (.convert rfl (Jt _ (wrap_u64 _ oo oo))) (zp (Pure1.cast (v' := .int .u64 ((dg * V.getD i 0 : Nat) : Int)) (.binOp rfl rfl (fun _ => Zc9 _ _ _ _ _)) (by rw [Zaa oo])) (zp (Pure1.cast (v' := .int .u64 ((c + dg * V.getD i 0 : Nat) : Int)) (.binOp rfl rfl (fun _ => Zb8 _ _ _ _ _)) (by rw [Gc hc1])) (za rfl (zn (zS (zm rfl (zm rfl (zm rfl (zm rfl (zp (.indexAddr rfl rfl (Jc _ _ _ _ _ oo)) (zd rfl mm isAgg23 sizeOf23 ((Qa 0 (by simp; omega)).trans (by rw [Zdg _ _ _ _ oo])) ?_))))))))))))))))))
  refine zm rfl (zp (Pure1.cast (v' := .int .u32 (((c + dg * V.getD i 0) % 4294967296 : Nat) : Int)) (.convert rfl (Yx _)) (by rw [Jj]; congr 1)) (zm rfl (zv [_, _, _] rfl call210 (Zqq _ _ _ (hW.getD i) hm hg) (zm rfl (zp (.eX rfl) (zp (.eX rfl) (zp (.indexAddr rfl rfl (Jc _ _ _ _ _ oo)) (zt' rfl rfl ((Vo (p ++ W ++ hh) (p.length + i) ((W.getD i 0 + 8589934592 - (c + dg * V.getD i 0) % 4294967296 - g) % 4294967296)).trans (by rw [set_mid _ _ _ _ _ oo])) uu sizeOf23 rfl (by simp; omega) rfl ?_))))))))
  refine za rfl (zn (zr (zm rfl (zp (Pure1.cast (v' := .int .u64 (((c + dg * V.getD i 0) / 4294967296 : Nat) : Int)) (.binOp rfl rfl (fun _ => Vf _ _ _ _ 32 dd)) (by rfl)) (za rfl (zn (zr (zp (.add rfl rfl) (zm rfl (zn ?_)))))))))); intro a w h
  exact ⟨i + 1, ⟨W.set i ((W.getD i 0 + 8589934592 - (c + dg * V.getD i 0) % 4294967296 - g) % 4294967296), _, _, oo, by simpa using hWl, hW.set _ _ (Nat.mod_lt _ dd), hc2, by split <;> omega, Zxt hi' oo hT (Zv0 _ _ _ (hW.getD i) hm hg), h.sub sA⟩, oo⟩
 ·
  skip
  have hi' : i = V.length := by simp at hc15; omega
  refine gC h (ze (zS (zm rfl (zp (.builtin [_] rfl (Zl _ _ _)) (za rfl (zn (zS (zm rfl (zm rfl (zm rfl (zm rfl (zp (.indexAddr rfl rfl (Jc _ _ _ _ _ oo)) (zd rfl mm isAgg23 sizeOf23 ((Qa 0 (by simp; omega)).trans (by rw [Zdg _ _ _ _ oo])) ?_)))))))))))))
  refine zm rfl (zp (Pure1.cast (v' := .int .u32 (c : Int)) (.convert rfl (Yx _)) (by rw [Zfl hc])) (zm rfl (zv [_, _, _] rfl call210 (Zqq _ _ _ (hW.getD V.length) hc hg) (zm rfl (zp (.eX rfl) (zp (.eX rfl) (zp (.indexAddr rfl rfl (Jc _ _ _ _ _ oo)) (zt' rfl rfl ((Vo (p ++ W ++ hh) (p.length + V.length) ((W.getD V.length 0 + 8589934592 - c - g) % 4294967296)).trans (by rw [set_mid _ _ _ _ _ oo])) uu sizeOf23 rfl (by simp; omega) rfl ?_))))))))
  refine za rfl (zn (zS (zm rfl (zp (.gtr rfl rfl) (za rfl (zn (zt ?_))))))); intro a w h
  subst hi'
  refine retM h (Zc h rfl (.tmp rfl)) ⟨W.set V.length ((W.getD V.length 0 + 8589934592 - c - g) % 4294967296), _, ?_, rfl, hW.set _ _ (Nat.mod_lt _ dd), by simpa using hWl, Qb2 oo hT (Zv0 _ _ _ (hW.getD _) hc hg), rfl, rfl⟩ (List.Sublist.refl _) (fun _ h => h)
  split <;> omega
end
section
theorem Qfk (b off n c lo hi : Nat) (h1 : lo ≤ hi) (h2 : hi ≤ c) (h3 : lo < c) (w : World) : (Instr.sliceAt 217 (.slice (some ⟨b, off, none⟩) n c) (some (.int .i64 (lo : Int))) (some (.int .i64 (hi : Int))) none).run Tryz.prog w = .ok (.slice (some ⟨b, off + lo, none⟩) (hi - lo) (c - lo)) w := by
 simpa using Zkd runUnderlying217 sizeOf23 b off n c lo hi h1 h2 h3 w
theorem C_long (ax : Option Addr) (cx : Nat) (X : List Nat) (ay : Option Addr) (cy : Nat) (Y : List Nat) (hX : Wd X) (hY : Wd Y) (hm : X.length ≤ 500000000000) (hY2 : 2 ≤ Y.length) (hYX : Y.length ≤ X.length) (hlast : Y.getD (Y.length - 1) 0 ≠ 0) :
  Ctr Tryz.prog 209 [.slice ax X.length cx, .slice ay Y.length cy] [Row ax (Jv X), Row ay (Jv Y)]
   (fun v Ψ => ∃ a1 c1 a2 c2 Q R, v = .tuple #[.slice a1 Q.length c1, .slice a2 R.length c2] ∧ Wd Q ∧ Wd R ∧ Q.length ≤ c1 ∧ R.length ≤ c2 ∧ Q.length ≤ X.length + 1 ∧ R.length ≤ X.length + 1 ∧ Zu Q = Zu X / Zu Y ∧ Zu R = Zu X % Zu Y ∧ Ψ = [Row a1 (Jv Q), Row a2 (Jv R)]) := by
 obtain ⟨e, he⟩ : ∃ e, Y.length = e + 2 := ⟨Y.length - 2, oo⟩
 rw [show Y.length - 1 = e + 1 by omega] at hlast
 refine fn_intro func209 rfl ntmps209 nb ?_
 intro S w0 a hS h
 refine gC h (zS (za rfl (za rfl (zn (zS ?_))))); clear h; intro a w h
 have hlt : 0 < Y.length := oo
 obtain ⟨bY, bYo, bYe⟩ := h.row_addr (ad := ay) (M := Jv Y) ss (by simp; intro e; simp [e] at hlt)
 subst bYe
 refine gL h (zm rfl (zm rfl (zp (.builtin [_] rfl (Zl _ _ _)) (zp (.pQ (e + 1) (.sub rfl rfl)) (zp (.indexAddr rfl rfl (Jc _ _ _ _ _ oo)) (zD rfl mm (by simp; omega) isAgg23 sizeOf23 (Qa 0 oo) (.inr rfl) ?_))))))
 refine zv [_] rfl call231 (Zhs _ (hY.getD _)) ?_; intro a w h
 obtain ⟨hs, hn1, hn2⟩ := Zxp (last := Y.getD (e + 1) 0) hlast (hY.getD _) rfl
 generalize 32 - Zdp (Y.getD (e + 1) 0) = s at h hs hn1 hn2
 refine gL h (za rfl (zn (zs (yD Za [0, 1, 3, 4, 6, 7, 2, 5, 8, 9, 10] (Zd kk) (ym rfl rfl (ym rfl rfl (ym rfl rfl (ym rfl rfl (ym rfl rfl (yp rfl (.builtin [_] rfl (Zl _ _ _)) ?_)))))))))); clear h
 refine Zew rfl kk (vs := [_, _]) rfl call232 (Zoe ax cx X s hX oo hs) ss dd ?_; rintro v26 σ26 ⟨b26, Z0, rfl, hZ0, hZ0l, hZ0v, rfl⟩
 refine Zew rfl kk (vs := [_, _]) rfl call232 (Zoe _ cy Y s hY oo hs) ss dd ?_; rintro v29 σ29 ⟨b29, V0, rfl, hV0, hV0l, hV0v, rfl⟩
 refine yp rfl (.slice rfl none (some _) none rfl rfl rfl (Zv1 _ _ _ _ oo)) (yp rfl (.assign rfl) (yp rfl (.assign rfl) (yn (zS ?_)))); intro a w h
 replace h := h.shareAll hS (Jv V0) rfl
 replace h := h.derive (R := Row (some ⟨b29, 0, none⟩) (Jv (V0.take Y.length))) (fun X hX => by rw [Jv, List.map_take]; exact Zhx (hX _ List.mem_cons_self) _)
 obtain ⟨hVv, hv1⟩ := Znh hY he hs hn1 hn2 hV0 hV0v
 have hVl : (V0.take Y.length).length = Y.length := by simp; omega
 have hV : Wd (V0.take Y.length) := hV0.take _
 generalize hVd : V0.take Y.length = V at h hVv hv1 hVl hV
 rw [← hVl] at h
 have hVe : V.length = e + 2 := oo
 have hYge : 4294967296 ^ (V.length - 1) ≤ Zu Y := by
  have h1 := Jk Y (e + 1) oo
  rw [show e + 1 + 1 = Y.length by omega, List.take_length] at h1
  rw [show V.length - 1 = e + 1 by omega, h1]
  have := Nat.mul_le_mul_left (4294967296 ^ (e + 1)) (Nat.pos_of_ne_zero hlast)
  omega
 obtain ⟨M, hM⟩ : ∃ M, Z0.length = M + V.length := ⟨Z0.length - V.length, oo⟩
 refine gL h (zm rfl (zp (Pure1.cast (v' := .int .i64 (V.length : Int)) (.builtin [_] rfl (Zl _ _ _)) (by rfl)) (za rfl (zn (zS (zm rfl (zp (.builtin [_] rfl (Zl _ _ _)) (zm rfl (zp (.pQ M (.sub rfl rfl)) ?_))))))))); clear h; intro a w h
 refine Zi (Xn h rfl rfl runUnderlying217 typeInfo23 sizeOf23 zeroValue23 rfl dd (by exact Nat.le_refl _) (by show 4 * _ ≤ _; omega) oo dd ?_); clear h; intro b39 a w h
 rw [show (Value.int .u32 0).cells.toList = [Value.int .u32 0] from rfl, Zdb, show List.replicate M (Value.int .u32 0) = Jv (List.replicate M 0) from by simp] at h
 refine gL h (za rfl (zn (zs (zS (zm rfl (zp (.builtin [_] rfl (Zl _ _ _)) (zp (.sub rfl rfl) (za rfl (zn (zb ?_)))))))))); clear h; intro a w h
 refine Zf (fun (κ : Nat) a w => ∃ (Z Q : List Nat), κ ≤ M ∧ Z.length = Z0.length ∧ Wd Z ∧ Q.length = M ∧ Wd Q ∧ Zu Z + 4294967296 ^ κ * (Zu V * Zu (Q.drop κ)) = Zu Z0 ∧ Zu (Z.drop κ) < Zu V ∧ St 175 S w0 [(4, .slice (some ⟨b39, 0, none⟩) M M), (6, .int .i64 (s : Int)), (7, .slice (some ⟨b26, 0, none⟩) Z0.length Z0.length), (8, .slice (some ⟨b29, 0, none⟩) V.length V0.length), (9, .int .i64 (V.length : Int)), (10, .int .i64 ((κ : Int) - 1))] [(b26, .cells (Jv Z).toArray 23 (0, 0)), (b39, .cells (Jv Q).toArray 23 (0, 0))] [Row (some ⟨b29, 0, none⟩) (Jv V)] a w) (fun κ => κ) (M) (⟨Z0, List.replicate M 0, Nat.le_refl _, rfl, hZ0, by simp, Wd.zeros _, by simp [Zu], by rw [hVv]; exact Zuf hX hZ0v hYge oo oo, ((h.perm (List.Perm.swap _ _ _)).factsSub (by simp)).sub (Zen ⟨rfl, rfl, rfl, rfl, rfl, rfl, trivial⟩)⟩) ?_; clear h
 rintro κ a w ⟨Z, Q, hκ, hZl, hZ, hQl, hQ, hT, hR, h⟩
 refine gC h (zs (zS (zm rfl (zp (.geq rfl rfl) (zn ?_))))); clear h; intro a w h
 refine cW ?_
 refine Zb h rfl (fun hc44 => ?_) (fun hc44 => ?_)
 ·
  skip
  have hκ0 : 0 < κ := by simp at hc44; omega
  obtain ⟨p, W, hh, rfl, hp, hWl, hpw, hWw, hhw, hh0, hUlt⟩ := Zpu (k := κ - 1) (n := V.length) hZ oo (Ve hV) (by rw [Nat.sub_add_cancel hκ0]; exact hR)
  obtain rfl : κ = p.length + 1 := oo
  have hU3 := Zvn (l := W) (e := e) oo
  have hV2 := Zmo (l := V) (e := e) oo
  have hlu := Vz hWw e
  have hlv := Vz hV e
  have hw2 := hWw.getD (e + 2)
  have hw1 := hWw.getD (e + 1)
  have hw0 := hWw.getD e
  have hvv1 := hV.getD (e + 1)
  have hvv2 := hV.getD e
  refine gC h (zk (zs (zb (zc (zs (yD Za [0, 1, 2, 3, 4, 5, 6, 7, 8, 9, 10, 11, 12, 13, 14, 15, 16, 17] (Zd kk) (ym rfl rfl (yp rfl (.pQ p.length (.move rfl)) (ym rfl rfl (yp rfl (.pQ (p.length + (e + 2)) (.add rfl rfl)) (yp rfl (.indexAddr rfl rfl (Jc _ _ _ _ _ oo)) (yd rfl rfl mm isAgg23 sizeOf23 ((Qa 0 (by simp; omega)).trans (by rw [Nat.zero_add, Zdg _ _ _ _ oo])) ?_)))))))))))); clear h
  refine yp rfl (.convert rfl (Jt _ (wrap_u64 _ oo oo))) (yp rfl (Pure1.cast (v' := .int .u64 ((W.getD (e + 2) 0 * 4294967296 : Nat) : Int)) (.binOp rfl rfl (fun _ => Zc8 _ _ _ _ 32 dd)) (by rw [wrap_u64 _ oo oo])) (ym rfl rfl (yp rfl (.pQ p.length (.move rfl)) (ym rfl rfl (yp rfl (.pQ (p.length + (e + 2)) (.add rfl rfl)) (yp rfl (.pQ (p.length + (e + 1)) (.sub rfl rfl)) (yp rfl (.indexAddr rfl rfl (Jc _ _ _ _ _ oo)) (yd rfl rfl mm isAgg23 sizeOf23 ((Qa 0 (by simp; omega)).trans (by rw [Nat.zero_add, Zdg _ _ _ _ oo])) ?_))))))))
  refine yp rfl (.convert rfl (Jt _ (wrap_u64 _ oo oo))) (yp rfl (Pure1.cast (v' := .int .u64 ((4294967296 * W.getD (e + 2) 0 + W.getD (e + 1) 0 : Nat) : Int)) (.binOp rfl rfl (fun _ => Zfq rfl _ _ _ _ _ (by show _ < 18446744073709551616; omega) (by show _ < 18446744073709551616; omega))) (by rw [or_hi _ _ hw1])) (yp rfl (.assign rfl) ?_))
  have htl : 4294967296 * W.getD (e + 2) 0 + W.getD (e + 1) 0 < 18446744073709551616 := oo
  have htop := top_lt hU3 hV2 hvv2 hlv hUlt
  generalize hTop : 4294967296 * W.getD (e + 2) 0 + W.getD (e + 1) 0 = top at hU3 htl htop ⊢
  refine yn (zs (yD Za [0, 1, 2, 3, 4, 5, 6, 7, 8, 9, 10, 11, 12, 13, 14, 15, 16, 17] (Zd kk) (ym rfl rfl (ym rfl rfl (ym rfl rfl (yp rfl (.pQ (e + 1) (.sub rfl rfl)) (yp rfl (.indexAddr rfl rfl (Jc _ _ _ _ _ oo)) ?_)))))))
  refine Zm rfl kk rfl mm (by simp; omega) isAgg23 sizeOf23 (Qa 0 oo) (.inr rfl) dd ?_
  refine yp rfl (.convert rfl (Jt _ (wrap_u64 _ oo oo))) (yp rfl (Pure1.cast (v' := .int .u64 ((top / V.getD (e + 1) 0 : Nat) : Int)) (.binOp rfl rfl (fun _ => Vp _ _ _ _ _ oo)) (by rw [Yh, Zdw (Nat.lt_of_le_of_lt (Nat.div_le_self _ _) htl)])) (ym rfl rfl (ym rfl rfl (ym rfl rfl (yp rfl (.pQ (e + 1) (.sub rfl rfl)) (yp rfl (.indexAddr rfl rfl (Jc _ _ _ _ _ oo)) ?_))))))
  refine Zm rfl kk rfl mm (by simp; omega) isAgg23 sizeOf23 (Qa 0 oo) (.inr rfl) dd ?_
  refine yp rfl (.convert rfl (Jt _ (wrap_u64 _ oo oo))) (yp rfl (Pure1.cast (v' := .int .u64 ((top % V.getD (e + 1) 0 : Nat) : Int)) (.binOp rfl rfl (fun _ => Vg _ _ _ _ _ oo)) (by rw [Yg])) (yp rfl (.assign rfl) (yp rfl (.assign rfl) (yn (zs (zl ?_)))))); intro a w h
  refine cW ?_
  refine Gm (fun a w => ∃ dg : Nat, dg < 4294967296 ∧ dg * Zu V ≤ Zu W + Zu V ∧ Zu W < (dg + 1) * Zu V ∧ St 175 S w0 [(4, .slice (some ⟨b39, 0, none⟩) M M), (6, .int .i64 (s : Int)), (7, .slice (some ⟨b26, 0, none⟩) Z0.length Z0.length), (8, .slice (some ⟨b29, 0, none⟩) V.length V0.length), (9, .int .i64 (V.length : Int)), (10, .int .i64 (((p.length + 1 : Nat) : Int) - 1)), (12, .int .u64 (dg : Int))] [(b26, .cells (Jv (p ++ W ++ hh)).toArray 23 (0, 0)), (b39, .cells (Jv Q).toArray 23 (0, 0))] [Row (some ⟨b29, 0, none⟩) (Jv V)] a w) ?_ ?_
  ·
   skip
   refine wp_block ?_
   refine Zf (fun (dg : Nat) a w => ∃ rest : Nat, dg * V.getD (e + 1) 0 + rest = top ∧ Zu W < (dg + 1) * Zu V ∧ rest < 8589934592 ∧ St 175 S w0 [(4, .slice (some ⟨b39, 0, none⟩) M M), (6, .int .i64 (s : Int)), (7, .slice (some ⟨b26, 0, none⟩) Z0.length Z0.length), (8, .slice (some ⟨b29, 0, none⟩) V.length V0.length), (9, .int .i64 (V.length : Int)), (10, .int .i64 (((p.length + 1 : Nat) : Int) - 1)), (12, .int .u64 (dg : Int)), (13, .int .u64 (rest : Int))] [(b26, .cells (Jv (p ++ W ++ hh)).toArray 23 (0, 0)), (b39, .cells (Jv Q).toArray 23 (0, 0))] [Row (some ⟨b29, 0, none⟩) (Jv V)] a w) (fun dg => dg) (top / V.getD (e + 1) 0) (⟨top % V.getD (e + 1) 0, by rw [Nat.mul_comm]; exact Nat.div_add_mod _ _, Zuv hU3 hV2 hw0 hlu oo, Nat.lt_trans (Nat.mod_lt _ oo) oo, h.sub sA⟩) ?_; clear h
   rintro dg a w ⟨rest, hIg, hUd, hrest, h⟩
   have hdgle := Qcp hIg htop hv1
   refine gC h (zs (zS (zm rfl (zp (.leq rfl rfl) (zn ?_))))); clear h; intro a w h
   refine cW ?_
   refine Zb h rfl (fun hc81 => ?_) (fun hc81 => ?_)
   ·
    skip
    have hr : rest < 4294967296 := dT hc81
    refine gC h (zk (zb (zs (zs (yD Za [0, 1, 2, 3, 4, 5, 6, 7, 8, 9, 10, 11, 12, 13, 14, 15, 16, 17, 18, 19, 20, 21, 22, 23] (Zd kk) (ym rfl rfl (yp rfl (.leq rfl rfl) (ym rfl rfl ?_)))))))); clear h
    refine Zt (fun hc84  => ?_) (fun hc84  => ?_)
    focus
     have hdg : dg < 4294967296 := dT hc84
     have hmul := Zaj hdg hvv2
     refine yq rfl rfl rfl (.move rfl) (yq rfl rfl rfl (.move rfl) (yq rfl rfl rfl (.move rfl) (yq rfl rfl rfl (.pQ e (.sub rfl rfl)) (yq rfl rfl rfl (.indexAddr rfl rfl (Jc _ _ _ _ _ oo)) ?_))))
     refine Kr rfl rfl rfl kk rfl mm (by simp; omega) isAgg23 sizeOf23 (Qa 0 oo) (.inr rfl) dd ?_
     refine yq rfl rfl rfl (.convert rfl (Jt _ (wrap_u64 _ oo oo))) (yq rfl rfl rfl (Pure1.cast (v' := .int .u64 ((dg * V.getD e 0 : Nat) : Int)) (.binOp rfl rfl (fun _ => Zc9 _ _ _ _ _)) (by rw [Zaa oo])) (yq rfl rfl rfl (.move rfl) (yq rfl rfl rfl (Pure1.cast (v' := .int .u64 ((rest * 4294967296 : Nat) : Int)) (.binOp rfl rfl (fun _ => Zc8 _ _ _ _ 32 dd)) (by rw [wrap_u64 _ oo oo])) (yq rfl rfl rfl (.move rfl) (yq rfl rfl rfl (.pQ p.length (.move rfl)) (yq rfl rfl rfl (.move rfl) (yq rfl rfl rfl (.pQ (p.length + (e + 2)) (.add rfl rfl)) (yq rfl rfl rfl (.pQ (p.length + e) (.sub rfl rfl)) (yq rfl rfl rfl (.indexAddr rfl rfl (Jc _ _ _ _ _ oo)) (yg rfl rfl rfl rfl mm isAgg23 sizeOf23 ((Qa 0 (by simp; omega)).trans (by rw [Nat.zero_add, Zdg _ _ _ _ oo])) ?_))))))))))
     refine yq rfl rfl rfl (.convert rfl (Jt _ (wrap_u64 _ oo oo))) (yq rfl rfl rfl (Pure1.cast (v' := .int .u64 ((4294967296 * rest + W.getD e 0 : Nat) : Int)) (.binOp rfl rfl (fun _ => Zfq rfl _ _ _ _ _ (by show _ < 18446744073709551616; omega) (by show _ < 18446744073709551616; omega))) (by rw [or_hi _ _ hw0])) (yq rfl rfl rfl (.leq rfl rfl) ?_))
     refine Zt (fun hc104  => ?_) (fun hc104  => ?_)
     ·
      skip
      have hle : dg * V.getD e 0 ≤ 4294967296 * rest + W.getD e 0 := by have := of_decide_eq_true hc104; exact_mod_cast this
      refine yp rfl (.pickT rfl rfl) (yn ?_); intro a w h
      refine cW ?_
      refine Zq h rfl ?_
      refine wp_exit ?_
      exact ⟨dg, hdg, Znr hU3 hV2 oo hvv2 hlv hIg oo (.inr hle), hUd, h.sub sA⟩
     have hcase : 4294967296 ≤ dg ∨ 4294967296 * rest + W.getD e 0 < dg * V.getD e 0 := .inr (by have := of_decide_eq_false hc104; exact Nat.lt_of_not_le fun hh => this (by exact_mod_cast hh))
     refine yp rfl (.pickT rfl rfl) (yn ?_); intro a w h
    rotate_left
    focus
     have hcase : 4294967296 ≤ dg ∨ 4294967296 * rest + W.getD e 0 < dg * V.getD e 0 := .inl (dF hc84)
     refine yo 84 rfl rfl rfl rfl (yo 84 rfl rfl rfl rfl (yo 84 rfl rfl rfl rfl (yo 84 rfl rfl rfl rfl (yo 84 rfl rfl rfl rfl (yo 84 rfl rfl rfl rfl (yo 84 rfl rfl rfl rfl (yo 84 rfl rfl rfl rfl (yo 84 rfl rfl rfl rfl (yo 84 rfl rfl rfl rfl (yo 84 rfl rfl rfl rfl (yo 84 rfl rfl rfl rfl (yo 84 rfl rfl rfl rfl (yo 84 rfl rfl rfl rfl (yo 84 rfl rfl rfl rfl (yo 84 rfl rfl rfl rfl (yo 84 rfl rfl rfl rfl (yo 84 rfl rfl rfl rfl (yo 84 rfl rfl rfl rfl (yo 84 rfl rfl rfl rfl (yp rfl (.pickF rfl rfl) (yn ?_))))))))))))))))))))); intro a w h
    all_goals
     refine cW ?_
     refine Zj h rfl ?_
     refine wp_skip (wp_seq (wp_region_lit ?_))
     have hnext := Zx9 hU3 hV2 hlu hIg hUlt hcase
     have hdg0 : 0 < dg := Nat.pos_of_ne_zero fun h0 => by subst h0; simp at hnext
     refine gL h (zm rfl (zp (Pure1.cast (v' := .int .u64 ((dg - 1 : Nat) : Int)) (.binOp rfl rfl (fun _ => Zgo _ _ _ _ _)) (by rw [wrap_u64 _ oo oo]; congr 1; omega)) (za rfl (zn (zr (zm rfl (zm rfl (zm rfl (zp (.pQ (e + 1) (.sub rfl rfl)) (zp (.indexAddr rfl rfl (Jc _ _ _ _ _ oo)) (zD rfl mm (by simp; omega) isAgg23 sizeOf23 (Qa 0 oo) (.inr rfl) ?_)))))))))))
     refine zp (.convert rfl (Jt _ (wrap_u64 _ oo oo))) (zp (Pure1.cast (v' := .int .u64 ((rest + V.getD (e + 1) 0 : Nat) : Int)) (.binOp rfl rfl (fun _ => Zb8 _ _ _ _ _)) (by rw [Gc oo])) (za rfl (zn ?_))); intro a w h
     exact ⟨dg - 1, ⟨rest + V.getD (e + 1) 0, Zuu hIg hdg0, by rw [Nat.sub_add_cancel hdg0]; exact hnext, oo, h.sub sA⟩, oo⟩
   ·
    skip
    have hr : 4294967296 ≤ rest := dF hc81
    refine wp_exit ?_
    have hdg := Zp9 hIg htop hr
    exact ⟨dg, hdg, Znr hU3 hV2 oo hvv2 hlv hIg oo (.inl hr), hUd, h.sub sA⟩
  ·
   skip
   clear h
   rintro a w ⟨dg, hdg, hend, hUd, h⟩
   refine Gm (fun a w => ∃ (W3 : List Nat) (dg : Nat), dg < 4294967296 ∧ Wd W3 ∧ W3.length = V.length + 1 ∧ Zu W3 + dg * Zu V = Zu W ∧ Zu W3 < Zu V ∧ St 175 S w0 [(4, .slice (some ⟨b39, 0, none⟩) M M), (6, .int .i64 (s : Int)), (7, .slice (some ⟨b26, 0, none⟩) Z0.length Z0.length), (8, .slice (some ⟨b29, 0, none⟩) V.length V0.length), (9, .int .i64 (V.length : Int)), (10, .int .i64 (((p.length + 1 : Nat) : Int) - 1)), (12, .int .u64 (dg : Int))] [(b26, .cells (Jv (p ++ W3 ++ hh)).toArray 23 (0, 0)), (b39, .cells (Jv Q).toArray 23 (0, 0))] [Row (some ⟨b29, 0, none⟩) (Jv V)] a w) ?_ ?_
   ·
    skip
    refine gC h (zS (zm rfl (zp (.pQ p.length (.move rfl)) (zp (.pQ p.length (.move rfl)) (zm rfl (zp (.pQ (p.length + V.length) (.add rfl rfl)) (zp (.pQ (p.length + V.length + 1) (.add rfl rfl)) (zp (Pure1.cast (v' := .slice (some ⟨b26, p.length, none⟩) (V.length + 1) (Z0.length - p.length)) (.slice rfl (some _) (some _) none rfl rfl rfl (Qfk _ _ _ _ _ _ oo oo oo)) (by rw [Nat.zero_add, show p.length + V.length + 1 - p.length = V.length + 1 by omega])) (zm rfl (zm rfl ?_)))))))))); clear h; intro a w h
    refine Zi (Zb0 h hS (vs := [_, _, _]) rfl call233 (C_less b26 (Z0.length - p.length) p W hh (some ⟨b29, 0, none⟩) V0.length V dg hWw hV oo hWl hdg oo [(b39, .cells (Jv Q).toArray 23 (0, 0))] [Row (some ⟨b29, 0, none⟩) (Jv V)] List.mem_cons_self) (List.Perm.refl _) ss ss ?_); clear h; rintro v125 σ125 Ψ125 a w ⟨W1, l, hl, rfl, hW1, hW1l, hW1v, rfl, rfl⟩ h
    refine wpList_nil ?_
    refine cW ?_
    refine Zb h rfl (fun hc125 => ?_) (fun hc125 => ?_)
    ·
     skip
     have hl1 : 0 < l := dT hc125
     have hW1lt := Ve hW1
     rw [hW1l] at hW1lt
     have hdg0 : 0 < dg := Nat.pos_of_ne_zero fun e0 => by
      subst e0
      obtain rfl : l = 1 := oo
      omega
     refine gC h (zS (zm rfl (zp (Pure1.cast (v' := .int .u64 ((dg - 1 : Nat) : Int)) (.binOp rfl rfl (fun _ => Zgo _ _ _ _ _)) (by rw [wrap_u64 _ oo oo]; congr 1; omega)) (za rfl (zn (zS (za rfl (zn (zs (zS (zm rfl (zp (.builtin [_] rfl (Zl _ _ _)) (zm rfl (zn (zb ?_))))))))))))))); clear h; intro a w h
     refine Zf (fun (i : Nat) a w => ∃ (W2 : List Nat) (c : Nat), i ≤ V.length ∧ W2.length = V.length + 1 ∧ Wd W2 ∧ c ≤ 1 ∧ Zu W2 + 4294967296 ^ i * (c + Zu (V.drop i)) = Zu W1 + Zu V ∧ St 175 S w0 [(4, .slice (some ⟨b39, 0, none⟩) M M), (6, .int .i64 (s : Int)), (7, .slice (some ⟨b26, 0, none⟩) Z0.length Z0.length), (8, .slice (some ⟨b29, 0, none⟩) V.length V0.length), (9, .int .i64 (V.length : Int)), (10, .int .i64 (((p.length + 1 : Nat) : Int) - 1)), (12, .int .u64 ((dg - 1 : Nat) : Int)), (14, .int .u32 (c : Int)), (128, .slice (some ⟨b29, 0, none⟩) V.length V0.length), (129, .int .i64 (V.length : Int)), (130, .int .i64 (i : Int))] [(b26, .cells (Jv (p ++ W2 ++ hh)).toArray 23 (0, 0)), (b39, .cells (Jv Q).toArray 23 (0, 0))] [Row (some ⟨b29, 0, none⟩) (Jv V)] a w) (fun i => V.length - i) (0) (⟨W1, 0, Nat.zero_le _, hW1l, hW1, by decide, by simp, h.sub sA⟩) ?_; clear h
     rintro i a w ⟨W2, c, hi, hW2l, hW2, hc, hT2, h⟩
     refine gC h (zS (zp (.lss rfl rfl) (zn (zs ?_)))); clear h; intro a w h
     refine Zb h rfl (fun hc131 => ?_) (fun hc131 => ?_)
     ·
      skip
      have hi' : i < V.length := by simpa using hc131
      refine gC h (zk (zs (zb (zS (zm rfl (zp (.indexAddr rfl rfl (Jc _ _ _ _ _ oo)) (zD rfl mm (by simp; omega) isAgg23 sizeOf23 (Qa 0 oo) (.inr rfl) ?_)))))))
      refine za rfl (za rfl (zn (zr (zm rfl (zp (.pQ p.length (.move rfl)) (zm rfl (zp (.pQ (p.length + i) (.add rfl rfl)) (zm rfl (zp (.pQ p.length (.move rfl)) (zm rfl (zp (.pQ (p.length + i) (.add rfl rfl)) (zp (.indexAddr rfl rfl (Jc _ _ _ _ _ oo)) (zd rfl mm isAgg23 sizeOf23 ((Qa 0 (by simp; omega)).trans (by rw [Nat.zero_add, Zdg _ _ _ _ oo])) ?_)))))))))))))
      refine zm rfl (zm rfl (zv [_, _, _] rfl call205 (Qal _ _ _ (hW2.getD i) (hV.getD i) hc) (zm rfl (zp (.eX rfl) (zp (.eX rfl) (zp (.indexAddr rfl rfl (Jc _ _ _ _ _ oo)) (zt' rfl rfl ((Vo (p ++ W2 ++ hh) (0 + (p.length + i)) ((W2.getD i 0 + V.getD i 0 + c) % 4294967296)).trans (by rw [Nat.zero_add, set_mid _ _ _ _ _ oo])) uu sizeOf23 rfl (by simp; omega) rfl ?_)))))))
      refine za rfl (zn (zr (zp (.add rfl rfl) (zm rfl (zn ?_))))); intro a w h
      refine ⟨i + 1, ⟨W2.set i ((W2.getD i 0 + V.getD i 0 + c) % 4294967296), _, oo, by simpa using hW2l, hW2.set _ _ (Nat.mod_lt _ dd), ?_, Zl9 oo hT2, h.sub sA⟩, oo⟩
      have hz := hW2.getD i
      have hy := hV.getD i
      omega
     ·
      skip
      have hi' : i = V.length := by simp at hc131; omega
      subst hi'
      refine gC h (ze (zr (zm rfl (zp (.pQ p.length (.move rfl)) (zm rfl (zp (.pQ (p.length + V.length) (.add rfl rfl)) (zp (.indexAddr rfl rfl (Jc _ _ _ _ _ oo)) (zd rfl mm isAgg23 sizeOf23 ((Qa 0 (by simp; omega)).trans (by rw [Nat.zero_add, Zdg _ _ _ _ oo])) ?_))))))))
      refine zm rfl (zp (Pure1.cast (v' := .int .u32 ((((W2.getD V.length 0 + c) % 4294967296) : Nat) : Int)) (.binOp rfl rfl (fun _ => Zb8 _ _ _ _ _)) (by rw [Jj]; congr 1)) (zp (.indexAddr rfl rfl (Jc _ _ _ _ _ oo)) (zt' rfl rfl ((Vo (p ++ W2 ++ hh) (0 + (p.length + V.length)) ((W2.getD V.length 0 + c) % 4294967296)).trans (by rw [Nat.zero_add, set_mid _ _ _ _ _ oo])) uu sizeOf23 rfl (by simp; omega) rfl ?_))); intro a w h
      refine wpList_nil ?_
      have hst := Zl9 (Z := W2) (Y := V) (i := V.length) oo hT2
      rw [Gu (Nat.le_refl V.length), Nat.add_zero, List.drop_eq_nil_of_le (by omega : V.length ≤ V.length + 1)] at hst
      simp only [Zu, Nat.add_zero] at hst
      have hW3 : Wd (W2.set V.length ((W2.getD V.length 0 + c) % 4294967296)) := hW2.set _ _ (Nat.mod_lt _ dd)
      have hlt3 := Ve hW3
      rw [List.length_set, hW2l] at hlt3
      obtain ⟨_, hk1, hk2⟩ := Zum hW1v hl hW1lt hend (Nat.le_of_lt (Nat.lt_of_lt_of_le (Ve hV) (Nat.pow_le_pow_right dd (Nat.le_succ _)))) hl1 hst hlt3
      exact ⟨_, dg - 1, oo, hW3, by rw [List.length_set, hW2l], hk1, hk2, h.sub sA⟩
    ·
     skip
     have hl1 : ¬ 0 < l := dF hc125
     have hW1lt := Ve hW1
     rw [hW1l] at hW1lt
     refine wp_skip ?_
     obtain ⟨hk1, hk2⟩ := Qb6 hW1v hW1lt hl hUd hl1
     exact ⟨W1, dg, hdg, hW1, hW1l, hk1, hk2, h.sub sA⟩
   ·
    skip
    clear h
    clear hdg hend hUd
    rintro a w ⟨W3, dg, hdg, hW3, hW3l, hk1, hk2, h⟩
    refine gC h (zr (zm rfl (zp (.pQ p.length (.move rfl)) (zm rfl (zp (Pure1.cast (v' := .int .u32 (dg : Int)) (.convert rfl (Yx _)) (by rw [Zfl hdg])) (zp (.indexAddr rfl rfl (Jc _ _ _ _ _ oo)) (zt' rfl rfl ((Vo Q (0 + p.length) dg).trans (by rw [Nat.zero_add])) uu sizeOf23 rfl (by simp; omega) rfl ?_)))))))
    refine zn (zr (zp (.pQ p.length (.move rfl)) (zp (.sub rfl rfl) (za rfl (zn ?_))))); intro a w h
    exact ⟨p.length, ⟨p ++ W3 ++ hh, Q.set p.length dg, oo, by simp at hZl ⊢; omega, (hpw.append hW3).append hhw, by simpa using hQl, hQ.set _ _ hdg, Zxn oo oo hT hk1, Zxo hh0 hk2, h.sub sA⟩, oo⟩
 ·
  skip
  have hκ0 : κ = 0 := by simp at hc44; omega
  subst hκ0
  refine gC h (ze (zs (zS (zm rfl (zm rfl (zn (zb ?_))))))); clear h; intro a w h
  refine Zf (fun (i : Nat) a w => ∃ R : List Nat, i ≤ s ∧ Wd R ∧ R.length = Z0.length ∧ Zu R = Zu Z / 2 ^ i ∧ St 175 S w0 [(4, .slice (some ⟨b39, 0, none⟩) M M), (6, .int .i64 (s : Int)), (7, .slice (some ⟨b26, 0, none⟩) R.length Z0.length), (167, .int .i64 (s : Int)), (168, .int .i64 (i : Int))] [(b26, .cells (Jv R).toArray 23 (0, 0)), (b39, .cells (Jv Q).toArray 23 (0, 0))] [Row (some ⟨b29, 0, none⟩) (Jv V)] a w) (fun i => s - i) (0) (⟨Z, Nat.zero_le _, hZ, hZl, by simp, by rw [hZl]; exact h.sub sA⟩) ?_; clear h
  rintro i a w ⟨R, hi, hR, hRl, hRv, h⟩
  refine gC h (zS (zp (.lss rfl rfl) (zn (zs ?_)))); clear h; intro a w h
  refine Zb h rfl (fun hc169 => ?_) (fun hc169 => ?_)
  ·
   skip
   have hi' : i < s := by simpa using hc169
   refine gC h (zk (zs (zb (zr (zm rfl ?_))))); clear h; intro a w h
   refine Zi (Zb0 h hS (vs := [_]) rfl call234 (C_half b26 Z0.length R hR oo [(b39, .cells (Jv Q).toArray 23 (0, 0))] [Row (some ⟨b29, 0, none⟩) (Jv V)]) (List.Perm.refl _) ss ss ?_); clear h; rintro v171 σ171 Ψ171 a w ⟨R2, hR2, hR2l, hR2v, rfl, rfl⟩ h
   refine gL h (zn (zr (zp (.add rfl rfl) (zm rfl (zn ?_))))); clear h; intro a w h
   exact ⟨i + 1, ⟨R2, oo, hR2, oo, by rw [hR2v, hRv, Nat.div_div_eq_div_mul, ← Nat.pow_succ], by rw [hR2l]; exact h.sub sA⟩, oo⟩
  ·
   skip
   have hi' : i = s := by simp at hc169; omega
   refine gC h (ze (zS (zm rfl (zm rfl (za rfl (za rfl (zn (zt ?_)))))))); clear h; intro a w h
   subst hi'
   simp only [List.drop_zero, Nat.pow_zero, Nat.one_mul] at hT hR
   obtain ⟨hq, hr⟩ := Zug (hT.trans hZ0v) ‹Zu Z < Zu V› hVv
   replace h := h.shareAll hS (Jv R) rfl
   replace h := h.shareAll hS (Jv Q) rfl
   rw [← hQl] at h
   refine Qg (Ψ := [Row (some ⟨b39, 0, none⟩) (Jv Q), Row (some ⟨b26, 0, none⟩) (Jv R)]) h (Qv h rfl (.tmp rfl) (.tmp rfl)) ⟨_, _, _, _, Q, R, rfl, hQ, ‹Wd R›, oo, by omega, oo, by omega, hq, by rw [hRv, hr], rfl⟩ ss
end
section
theorem Zvl {m : Nat} (h : m ≠ 0) : (wds m).getD ((wds m).length - 1) 0 ≠ 0 := by
 have hne : wds m ≠ [] := fun e => h (by rw [← Qu m, e]; rfl)
 have := Zht m hne
 rw [List.getLast_eq_getElem] at this
 have hl : (wds m).length - 1 < (wds m).length := by have := List.length_pos_iff.2 hne; omega
 simpa [List.getD, hl] using this
theorem Zov {m : Nat} (h : m ≠ 0) : 0 < (wds m).length := List.length_pos_iff.2 fun e => h (by rw [← Qu m, e]; rfl)
theorem Va {n m : Nat} (h : n ≤ m) : (wds n).length ≤ (wds m).length := Nat.le_of_not_lt fun hl => by have := Zch hl; omega
theorem Qe7 {m : Nat} (h : (wds m).length = 1) : (wds m).getD 0 0 = m := by
 have e := Qu m
 match hw : wds m, h with
 | [x], _ => rw [hw] at e; simpa [Zu] using e
theorem Qii (n m : Nat) (hn : (wds n).length ≤ 500000000000) (hm : (wds m).length ≤ 500000000000) (h0 : m ≠ 0) : Ys Tryz.prog 185 [Vm n, Vm m] (.tuple #[Vm (n / m), Vm (n % m), .bool true]) := by
 refine fn_intro func185 rfl ntmps185 nb ?_
 intro S w0 a hS h
 refine gC h (zS (zx rfl fun b2 => zx rfl fun b3 => zz zeroValue38 fun b4 => zz zeroValue38 fun b5 => za rfl (zn (zs (zb (zS (zd rfl mr isAgg38 sizeOf38 Zn ?_)))))))
 refine zv [_] rfl call207 (Qem m) (za rfl (zn ?_)); intro a w h
 refine cW ?_
 refine Zb h rfl (fun hc12 => (by exfalso; exact h0 (of_decide_eq_true hc12))) (fun hc12 => ?_)
 refine gC h (zS (zd rfl mr isAgg38 sizeOf38 Zn ?_))
 refine zd rfl mr isAgg38 sizeOf38 Zn ?_
 refine zv [_, _] rfl call208 (C_Cmp n m oo oo) (zp (.lss rfl rfl) (za rfl (zn ?_))); intro a w h
 refine cW ?_
 refine Zb h rfl (fun hc17 => ?_) (fun hc17 => ?_)
 ·
  skip
  have hlt : n < m := by rw [Zh8] at hc17; exact of_decide_eq_true hc17
  refine gC h (zs (yD Za [0, 1, 2, 3, 4] (Zd kk) (yp rfl (.build [] rfl (Zl7)) ?_))); clear h
  refine Zaz [4] rfl kk rfl mr isAgg38 sizeOf38 Zn (fun a w σx hst => by intro t ht; simp only [List.mem_cons, List.not_mem_nil, or_false] at ht; rcases ht with rfl <;> exact ⟨_, rfl, by have h1 := (List.pairwise_append.1 hst.nd).2.1; simp at h1; dsimp only; omega⟩) dd ?_
  refine yt rfl rfl rfl Qe uu sizeOf38 rfl nb rfl ?_
  refine yt rfl rfl rfl Qe uu sizeOf38 rfl nb rfl ?_
  refine yp rfl (.assign rfl) (yn (zt ?_)); intro a w h
  refine Jm h (Zhy h rfl (.cell rfl mr isAgg38 sizeOf38 Zn) (.cell rfl mr isAgg38 sizeOf38 Zn) (.tmp rfl)) ?_
  rw [Nat.div_eq_of_lt hlt, Nat.mod_eq_of_lt hlt]; rfl
 ·
  skip
  have hle : m ≤ n := by rw [Zh8] at hc17; exact Nat.le_of_not_lt (of_decide_eq_false hc17)
  refine gC h (zS (zp (.fA rfl Kj) (zd rfl mr isAgg9 sizeOf9 Xm ?_)))
  refine zp (.binOp rfl rfl (fun _ => Xf _ _ _ _ _)) (za rfl (zn ?_)); intro a w h
  refine cW ?_
  refine Zb h rfl (fun hc24 => ?_) (fun hc24 => ?_)
  ·
   skip
   have ha : n < 18446744073709551616 := Qt.1 (by simpa using hc24)
   have hb : m < 18446744073709551616 := oo
   refine gC h (zs (yD Za [0, 1, 2, 3, 4, 5, 6, 7, 8, 9, 10, 11, 12, 13, 14] (Zd kk) (yp rfl (.fA rfl Vr) (yd rfl rfl mr isAgg36 sizeOf36 Ye ?_)))); clear h
   refine yp rfl (.fA rfl Vr) (yd rfl rfl mr isAgg36 sizeOf36 Ye ?_)
   refine yp rfl (Pure1.cast (v' := .int .u64 ((n / m : Nat) : Int)) (.binOp rfl rfl (fun _ => Vp _ _ _ _ _ (by rw [Qh hb]; omega))) (by rw [Qh ha, Qh hb, Yh, Zdw (Nat.lt_of_le_of_lt (Nat.div_le_self _ _) ha)])) (yp rfl (.build [(_, _)] rfl (Zfj _)) (yp rfl (.fA rfl Vr) ?_))
   refine Zaz [4] rfl kk rfl mr isAgg36 sizeOf36 Ye (fun a w σx hst => by intro t ht; simp only [List.mem_cons, List.not_mem_nil, or_false] at ht; rcases ht with rfl <;> exact ⟨_, rfl, by have h1 := (List.pairwise_append.1 hst.nd).2.1; simp at h1; dsimp only; omega⟩) dd ?_
   refine yp rfl (.fA rfl Vr) ?_
   refine Zaz [4] rfl kk rfl mr isAgg36 sizeOf36 Ye (fun a w σx hst => by intro t ht; simp only [List.mem_cons, List.not_mem_nil, or_false] at ht; rcases ht with rfl <;> exact ⟨_, rfl, by have h1 := (List.pairwise_append.1 hst.nd).2.1; simp at h1; dsimp only; omega⟩) dd ?_
   refine yp rfl (Pure1.cast (v' := .int .u64 ((n % m : Nat) : Int)) (.binOp rfl rfl (fun _ => Vg _ _ _ _ _ (by rw [Qh hb]; omega))) (by rw [Qh ha, Qh hb, Yg])) (yp rfl (.build [(_, _)] rfl (Zfj _)) (yt rfl rfl rfl Qe uu sizeOf38 rfl nb rfl ?_))
   refine yt rfl rfl rfl Qe uu sizeOf38 rfl nb rfl ?_
   refine yp rfl (.assign rfl) (yn (zt ?_)); intro a w h
   refine Jm h (Zhy h rfl (.cell rfl mr isAgg38 sizeOf38 Zn) (.cell rfl mr isAgg38 sizeOf38 Zn) (.tmp rfl)) ?_
   rw [Vm, Vm, Qh (Nat.lt_of_le_of_lt (Nat.div_le_self _ _) ha), Vn (Nat.lt_of_le_of_lt (Nat.div_le_self _ _) ha), Qh (Nat.lt_of_le_of_lt (Nat.mod_le _ _) ha), Vn (Nat.lt_of_le_of_lt (Nat.mod_le _ _) ha)]
  ·
   skip
   have ha : ¬ n < 18446744073709551616 := fun hn => by have := Qt.2 hn; simp [this] at hc24
   refine gC h (zk (zS (zd rfl mr isAgg38 sizeOf38 Zn ?_)))
   refine zf [_] rfl call166 (Zbo m oo) ?_; rintro v41 Ψ41 ⟨aY, cY, rfl, hcY, rfl⟩
   refine za rfl (zn (zs (zS (zm rfl (zp (.builtin [_] rfl (Zl _ _ _)) (zp (.eql rfl rfl) (zn ?_))))))); intro a w h
   refine cW ?_
   refine Zb h rfl (fun hc44 => ?_) (fun hc44 => ?_)
   ·
    skip
    have h1 : (wds m).length = 1 := Zbf (b := 1) hc44
    have hm1 := Qe7 h1
    have hm2 := (Wd.wds m).getD 0
    rw [hm1] at hm2
    have hlt : 0 < (wds m).length := oo
    obtain ⟨bY, bYo, bYe⟩ := h.row_addr (ad := aY) (M := Jv (wds m)) ss (by simp; intro e; simp [e] at hlt)
    subst bYe
    refine gC h (zs (yD Za [0, 2, 3, 4, 1, 5, 6, 7, 8, 9, 10] (Zd kk) (yd rfl rfl mr isAgg38 sizeOf38 Zn ?_))); clear h
    refine ym rfl rfl (yp rfl (.indexAddr rfl rfl (Jc _ _ _ _ 0 oo)) ?_)
    refine Zm rfl kk rfl mm (by simp; omega) isAgg23 sizeOf23 ((Qa 0 oo).trans (by rw [hm1])) (.inr rfl) dd ?_
    refine yf [_] rfl rfl call166 (Zbo n oo) ?_; rintro v47 Ψ47 ⟨aX, cX, rfl, hcX, rfl⟩
    refine Zew rfl kk (vs := [_, _]) rfl call167 (Zz0 aX cX (wds n) m (Wd.wds n) oo oo hm2) ss dd ?_; rintro v51 σ51 ⟨bq, Q, rfl, hQ, hQl, hQv, rfl⟩
    refine ym rfl rfl (yp rfl (.eX rfl) (yp rfl (.eX rfl) (yp rfl (.assign rfl) (yp rfl (.assign rfl) (yn (zS ?_)))))); intro a w h
    replace h := h.shareAll hS (Jv Q) rfl
    refine gL h (zm rfl (zw [_] rfl call188 (Qhx _ _ Q hQ (Nat.le_refl _) oo) (zm rfl (zp (Pure1.cast (v' := .int .u64 ((n % m : Nat) : Int)) (.convert rfl (Zsv _)) (by rw [Qu, Zdw (Nat.lt_trans (Nat.mod_lt _ oo) oo)])) (zp (.build [(_, _)] rfl (Zfj _)) (zt' rfl rfl Qe uu sizeOf38 rfl nb rfl ?_))))))
    refine zt' rfl rfl Qe uu sizeOf38 rfl nb rfl ?_; intro a w h
    refine gL h (za rfl (zn (zt ?_))); clear h; intro a w h
    refine Jm h (Zhy h rfl (.cell rfl mr isAgg38 sizeOf38 Zn) (.cell rfl mr isAgg38 sizeOf38 Zn) (.tmp rfl)) ?_
    have hr : n % m < 18446744073709551616 := Nat.lt_trans (Nat.mod_lt _ oo) oo
    rw [hQv, Qu, Vm, Vm, Qh hr, Vn hr]
   ·
    skip
    have h1 : (wds m).length ≠ 1 := Zaw (b := 1) hc44
    have h2 := Zov h0
    have h3 := Va hle
    refine gC h (zk (zS (zd rfl mr isAgg38 sizeOf38 Zn ?_)))
    refine zf [_] rfl call166 (Zbo n oo) ?_; rintro v61 Ψ61 ⟨aX, cX, rfl, hcX, rfl⟩
    refine zm rfl (zf [_, _] rfl call209 (C_long aX cX (wds n) aY cY (wds m) (Wd.wds n) (Wd.wds m) hn oo h3 (Zvl h0)) ?_); rintro v63 Ψ63 ⟨a1, c1, a2, c2, Q, R, rfl, hQ, hR, hQc, hRc, hQl, hRl, hQv, hRv, rfl⟩
    refine zm rfl (zp (.eX rfl) (zp (.eX rfl) (za rfl (za rfl (zn (zS (zm rfl (zw [_] rfl call188 (Qhx _ _ Q hQ hQc oo) (zm rfl (zw [_] rfl call188 (Qhx _ _ R hR hRc oo) (zt' rfl rfl Qe uu sizeOf38 rfl nb rfl ?_)))))))))))
    refine zt' rfl rfl Qe uu sizeOf38 rfl nb rfl ?_; intro a w h
    refine gL h (za rfl (zn (zt ?_))); clear h; intro a w h
    refine Jm h (Zhy h rfl (.cell rfl mr isAgg38 sizeOf38 Zn) (.cell rfl mr isAgg38 sizeOf38 Zn) (.tmp rfl)) ?_
    rw [hQv, hRv, Qu, Qu]
theorem C_Gcd (n m : Nat) (hn : (wds n).length ≤ 500000000000) (hm : (wds m).length ≤ 500000000000) : Ys Tryz.prog 184 [Vm n, Vm m] (Vm (Nat.gcd n m)) := by
 refine fn_intro func184 rfl ntmps184 nb ?_
 intro S w0 a hS h
 refine gC h (zS (zx rfl fun b2 => zx rfl fun b3 => zz zeroValue38 fun b4 => zn (zs (zb ?_)))); clear h; intro a w h
 refine Zf (fun (y : Nat) a w => ∃ x : Nat, (wds x).length ≤ 500000000000 ∧ (wds y).length ≤ 500000000000 ∧ Nat.gcd x y = Nat.gcd n m ∧ St 21 S w0 [(2, pB b2), (3, pB b3), (4, pB b4)] [(b4, .cells (Vm 0).cells 38 (0, 0)), (b3, .cells (Vm y).cells 38 (0, 0)), (b2, .cells (Vm x).cells 38 (0, 0))] [] a w) (fun y => y) (m) (⟨n, hn, hm, rfl, h.sub sA⟩) ?_; clear h
 rintro y a w ⟨x, hx, hy, hg, h⟩
 refine gC h (zs (zS (zd rfl mr isAgg38 sizeOf38 Zn ?_)))
 refine zv [_] rfl call207 (Qem y) (zp (.unOp rfl (Xe _)) (zn ?_)); intro a w h
 refine cW ?_
 refine Zb h rfl (fun hc10 => ?_) (fun hc10 => ?_)
 ·
  skip
  have hy0 : y ≠ 0 := by simpa using hc10
  refine gC h (zk (zb (zS (zd rfl mr isAgg38 sizeOf38 Zn ?_))))
  refine zd rfl mr isAgg38 sizeOf38 Zn ?_
  refine zv [_, _] rfl call185 (Qii x y hx hy hy0) (zm rfl (zp (.eX rfl) (zp (.eX rfl) (zp (.eX rfl) (zz zeroValue38 fun b5 => zz zeroValue38 fun b6 => zt' rfl rfl Qe uu sizeOf38 rfl nb rfl ?_)))))
  refine zt' rfl rfl Qe uu sizeOf38 rfl nb rfl ?_; intro a w h
  refine gL h (za rfl (zn (yD Za [0, 1, 2, 3] (Zd kk) (yd rfl rfl mr isAgg38 sizeOf38 Zn ?_)))); clear h
  refine Zaz [2] rfl kk rfl mr isAgg38 sizeOf38 Zn (fun a w σx hst => by intro t ht; simp only [List.mem_cons, List.not_mem_nil, or_false] at ht; rcases ht with rfl <;> exact ⟨_, rfl, by have h1 := (List.pairwise_append.1 hst.nd).2.1; simp at h1; dsimp only; omega⟩) dd ?_
  refine yt rfl rfl rfl Qe uu sizeOf38 rfl nb rfl ?_
  refine yt rfl rfl rfl Qe uu sizeOf38 rfl nb rfl ?_
  refine yn ?_; intro a w h
  exact ⟨x % y, ⟨y, hy, Nat.le_trans (Va (Nat.le_of_lt (Nat.mod_lt _ (Nat.pos_of_ne_zero hy0)))) hy, by rw [← hg, Nat.gcd_comm y (x % y), ← Nat.gcd_rec, Nat.gcd_comm], (h.drop (.cons _ (.cons _ (List.Sublist.refl _)))).sub sA⟩, Nat.mod_lt _ (Nat.pos_of_ne_zero hy0)⟩
 ·
  skip
  have hy0 : y = 0 := by simpa using hc10
  subst hy0
  refine gC h (ze (zS (zd rfl mr isAgg38 sizeOf38 Zn ?_)))
  refine zt' rfl rfl Qe uu sizeOf38 rfl nb rfl ?_; intro a w h
  refine wpList_nil (wp_ret ?_)
  refine Jm h (Zc h rfl (.cell rfl mr isAgg38 sizeOf38 Zn)) ?_
  rw [← hg, Nat.gcd_zero_right]
end
section
theorem Qhe (w : World) : (Instr.build 40 [].toArray).run Tryz.prog w = .ok (.agg #[.int .u64 0, .string ⟨#[]⟩]) w := by simp [go_sem]
theorem Qhf (x0_0 : Value) (x0_1 : Value) (w : World) : (Instr.build 40 [(0, .agg #[x0_0, x0_1])].toArray).run Tryz.prog w = .ok (.agg #[x0_0, x0_1]) w := by simp [go_sem]
theorem Zn7 (x0_0 : Value) (x0_1 : Value) (x1 : Bool) (w : World) : (Instr.build 42 [(0, .agg #[x0_0, x0_1]), (1, .bool x1)].toArray).run Tryz.prog w = .ok (.agg #[x0_0, x0_1, .bool x1]) w := by simp [go_sem]
theorem Ja {c0 c1 c2 v0 v1 v2 : Value} : Jd #[c0, c1, c2] 0 [v0, v1, v2] = #[v0, v1, v2] := rfl
theorem Zo {c0 c1 c2 : Value} : Qk true 3 #[c0, c1, c2] 0 = some (.agg #[c0, c1, c2]) := rfl
theorem Zbl {b off : Nat} (w : World) : (Instr.fieldAt 42 (.pointer (some ⟨b, off, none⟩)) 1).run Tryz.prog w = .ok (.pointer (some ⟨b, off + 2, none⟩)) w := by
 simp [go_sem]
theorem Zbv {c0 c1 c2 : Value} : Qk false 1 #[c0, c1, c2] 2 = some c2 := rfl
theorem Ga {b off : Nat} (w : World) : (Instr.fieldAt 42 (.pointer (some ⟨b, off, none⟩)) 0).run Tryz.prog w = .ok (.pointer (some ⟨b, off + 0, none⟩)) w := by
 simp [go_sem]
theorem Gv {b off : Nat} (w : World) : (Instr.fieldAt 40 (.pointer (some ⟨b, off, none⟩)) 0).run Tryz.prog w = .ok (.pointer (some ⟨b, off + 0, none⟩)) w := by
 simp [go_sem]
theorem Jw {c0 c1 c2 : Value} : Qk true 2 #[c0, c1, c2] 0 = some (.agg #[c0, c1]) := rfl
def Zat (z : Int) : Nat := (wds z.natAbs).length
def sgZ (neg : Bool) (n : Nat) : Int := if neg then -(n : Int) else (n : Int)
theorem Zc7 (neg : Bool) (n : Nat) : (sgZ neg n).natAbs = n := by unfold sgZ; split <;> omega
theorem Zq2 (z : Int) : sgZ (decide (z < 0)) z.natAbs = z := by unfold sgZ; split <;> simp_all <;> omega
theorem Zpa (neg : Bool) (n : Nat) : decide (sgZ neg n < 0) = (neg && !decide (n = 0)) := by
 unfold sgZ; cases neg <;> by_cases h : n = 0 <;> simp [h] <;> omega
theorem Qgq (X Y : Operand) (n m : Nat) (w : World) : (do eqGuard .eql 40 X Y (Vm n) (Vm m); Go.binOp .eql 40 (Vm n) (Vm m) : Sem Value).run Tryz.prog w = .ok (.bool (decide (n = m))) w := by
 simp [go_sem]
 have hb : ((Kt n).toList = (Kt m).toList) ↔ Kt n = Kt m := by have := Zck (Kt n) (Kt m); rw [Bool.eq_iff_iff] at this; simpa using this
 by_cases h : n = m
 · subst h; simp
 ·
  have hne := fun h1 h2 => h (Zlw h1 h2)
  by_cases h1 : Za6 n = Za6 m
  · simp only [h, h1, hb, if_true, decide_false]; exact if_neg (hne h1)
  · simp [h, h1]
theorem Zzy (n : Nat) : Ys Tryz.prog 189 [Vm n] (.bool (decide (n = 0))) := by
 refine fn_intro func189 rfl ntmps189 nb ?_
 intro S w0 a hS h
 refine gC h (zS (zx rfl fun b1 => za rfl (zn (zS (zd rfl mr isAgg40 sizeOf40 Zn ?_)))))
 refine zp (Pure1.cast (v' := Vm 0) (.build [] rfl (Qhe)) (by rfl)) (zp (.binOp rfl rfl (fun _ => Qgq _ _ n 0 _)) (za rfl (zn (zt ?_)))); intro a w h
 exact Zbw h
theorem Zej (neg : Bool) (n : Nat) : Ys Tryz.prog 140 [.bool neg, Vm n] (encZ (sgZ neg n)) := by
 refine fn_intro func140 rfl ntmps140 nb ?_
 intro S w0 a hS h
 refine gC h (zS (zx rfl fun b3 => zz zeroValue42 fun b4 => zn (zS (zd rfl mr isAgg38 sizeOf38 Zn ?_))))
 refine zp (.build [(_, _)] rfl (Qhf _ _)) (zz zeroValue40 fun b5 => zt' rfl rfl Qe uu sizeOf40 rfl nb rfl ?_)
 refine zn (zs (yD Za [0, 1, 2, 3, 4, 5, 6, 7, 8] (Zd kk) (yd rfl rfl mr isAgg40 sizeOf40 Zn ?_)))
 refine ym rfl rfl (ym rfl rfl ?_)
 refine Zt (fun hc10  => ?_) (fun hc10  => ?_)
 focus
  refine yg rfl rfl rfl rfl mr isAgg40 sizeOf40 Zn ?_
  refine Jp rfl rfl rfl kk (vs := [_]) rfl call189 (Zzy n) dd ?_
  refine yq rfl rfl rfl (.unOp rfl (Xe _)) (yp rfl (.pickT rfl rfl) (yp rfl (.build [(_, _), (_, _)] rfl (Zn7 _ _ _)) (yt rfl rfl rfl Ja uu sizeOf42 rfl nb rfl ?_)))
 rotate_left
 focus
  refine yo 10 rfl rfl rfl rfl (yo 10 rfl rfl rfl rfl (yo 10 rfl rfl rfl rfl (yp rfl (.pickF rfl rfl) (yp rfl (.build [(_, _), (_, _)] rfl (Zn7 _ _ _)) (yt rfl rfl rfl Ja uu sizeOf42 rfl nb rfl ?_)))))
 all_goals
  refine yn (zt ?_); intro a w h
  refine Jm h (Zc h rfl (.cell rfl mr isAgg42 sizeOf42 Zo)) ?_
  subst hc10; rw [encZ, Zc7, Zpa]; rfl
theorem C_plus (x y : Int) (hx : Zat x ≤ 400000000000) (hy : Zat y ≤ 400000000000) : Ys Tryz.prog 198 [encZ x, encZ y] (encZ (x + y)) := by
 unfold Zat at hx hy
 refine fn_intro func198 rfl ntmps198 nb ?_
 intro S w0 a hS h
 refine gC h (zS (zx rfl fun b2 => zx rfl fun b3 => zz zeroValue42 fun b4 => zn (zs (zS (zp (.fA rfl Zbl) (zd rfl mr isAgg4 sizeOf4 Zbv ?_))))))
 refine zp (.fA rfl Zbl) (zd rfl mr isAgg4 sizeOf4 Zbv ?_)
 refine zp (.binOp rfl rfl (fun _ => Zq7 _ underlying4 _ _ _ _)) (zn ?_); intro a w h
 refine cW ?_
 refine Zb h rfl (fun hc13 => ?_) (fun hc13 => ?_)
 ·
  skip
  refine gC h (zs (yD Za [0, 1, 2, 3, 4, 5, 6, 7, 8, 9, 10] (Zd kk) (yp rfl (.fA rfl Zbl) (yd rfl rfl mr isAgg4 sizeOf4 Zbv ?_)))); clear h
  refine yp rfl (.fA rfl Ga) (yp rfl (.fA rfl Gv) (yd rfl rfl mr isAgg38 sizeOf38 Jw ?_))
  refine yp rfl (.fA rfl Ga) (yp rfl (.fA rfl Gv) (yd rfl rfl mr isAgg38 sizeOf38 Jw ?_))
  refine yv [_, _] rfl rfl call171 (C_Add _ _ oo oo) (yv [_, _] rfl rfl call140 (Zej _ _) (yt rfl rfl rfl Ja uu sizeOf42 rfl nb rfl ?_))
  refine yn (zt ?_); intro a w h
  refine Jm h (Zc h rfl (.cell rfl mr isAgg42 sizeOf42 Zo)) ?_
  rw [show sgZ (decide (x < 0)) (x.natAbs + y.natAbs) = x + y from by unfold sgZ; by_cases h1 : x < 0 <;> by_cases h2 : y < 0 <;> simp [h1, h2] at hc13 ⊢ <;> omega]
 ·
  skip
  refine gC h (zk (zs (zS (zp (.fA rfl Ga) (zp (.fA rfl Gv) (zd rfl mr isAgg38 sizeOf38 Jw ?_))))))
  refine zp (.fA rfl Ga) (zp (.fA rfl Gv) (zd rfl mr isAgg38 sizeOf38 Jw ?_))
  refine zv [_, _] rfl call186 (Qh4 x.natAbs y.natAbs oo oo) (zm rfl (zp (.eX rfl) (zp (.eX rfl) (zz zeroValue38 fun b5 => zt' rfl rfl Qe uu sizeOf38 rfl nb rfl ?_))))
  refine za rfl (zn (zS (zm rfl (zn ?_)))); intro a w h
  refine cW ?_
  refine Zb h rfl (fun hc34 => ?_) (fun hc34 => ?_)
  ·
   skip
   refine gC h (zS (zp (.fA rfl Zbl) (zd rfl mr isAgg4 sizeOf4 Zbv ?_)))
   refine zd rfl mr isAgg38 sizeOf38 Zn ?_
   refine zv [_, _] rfl call140 (Zej _ _) (zt' rfl rfl Ja uu sizeOf42 rfl nb rfl ?_); intro a w h
   refine wpList_nil (wp_ret ?_)
   refine Jm h (Zc h rfl (.cell rfl mr isAgg42 sizeOf42 Zo)) ?_
   have hle : y.natAbs ≤ x.natAbs := of_decide_eq_true hc34
   rw [show sgZ (decide (x < 0)) (x.natAbs - y.natAbs) = x + y from by unfold sgZ; by_cases h1 : x < 0 <;> by_cases h2 : y < 0 <;> simp [h1, h2] at hc13 ⊢ <;> omega]
  ·
   skip
   refine gC h (zk (zS (zp (.fA rfl Ga) (zp (.fA rfl Gv) (zd rfl mr isAgg38 sizeOf38 Jw ?_)))))
   refine zp (.fA rfl Ga) (zp (.fA rfl Gv) (zd rfl mr isAgg38 sizeOf38 Jw ?_))
   refine zv [_, _] rfl call186 (Qh4 y.natAbs x.natAbs oo oo) (zm rfl (zp (.eX rfl) (zp (.eX rfl) (zz zeroValue38 fun b7 => zt' rfl rfl Qe uu sizeOf38 rfl nb rfl ?_))))
   refine za rfl (zn (zS (zp (.fA rfl Zbl) (zd rfl mr isAgg4 sizeOf4 Zbv ?_))))
   refine zd rfl mr isAgg38 sizeOf38 Zn ?_
   refine zv [_, _] rfl call140 (Zej _ _) (zt' rfl rfl Ja uu sizeOf42 rfl nb rfl ?_); intro a w h
   refine wpList_nil (wp_ret ?_)
   refine Jm h (Zc h rfl (.cell rfl mr isAgg42 sizeOf42 Zo)) ?_
   have hle : ¬ y.natAbs ≤ x.natAbs := of_decide_eq_false hc34
   rw [show sgZ (decide (y < 0)) (y.natAbs - x.natAbs) = x + y from by unfold sgZ; by_cases h1 : x < 0 <;> by_cases h2 : y < 0 <;> simp [h1, h2] at hc13 ⊢ <;> omega]
theorem Qhq (x y : Int) (hx : Zat x ≤ 400000000000) (hy : Zat y ≤ 400000000000) : Ys Tryz.prog 183 [encZ x, encZ y] (encZ (x * y)) := by
 unfold Zat at hx hy
 refine fn_intro func183 rfl ntmps183 nb ?_
 intro S w0 a hS h
 refine gC h (zS (zx rfl fun b2 => zx rfl fun b3 => zz zeroValue42 fun b4 => zn (zs (yD Za [0, 1, 2, 3, 4, 5, 6, 7, 8, 9, 10, 11, 12, 13] (Zd kk) (yp rfl (.fA rfl Zbl) (yd rfl rfl mr isAgg4 sizeOf4 Zbv ?_)))))); clear h
 refine yp rfl (.fA rfl Zbl) (yd rfl rfl mr isAgg4 sizeOf4 Zbv ?_)
 refine yp rfl (.binOp rfl rfl (fun _ => Zax _ underlying4 _ _ _ _)) (yp rfl (.fA rfl Ga) (yp rfl (.fA rfl Gv) (yd rfl rfl mr isAgg38 sizeOf38 Jw ?_)))
 refine yp rfl (.fA rfl Ga) (yp rfl (.fA rfl Gv) (yd rfl rfl mr isAgg38 sizeOf38 Jw ?_))
 refine yv [_, _] rfl rfl call136 (Qid _ _ oo oo) (yv [_, _] rfl rfl call140 (Zej _ _) (yt rfl rfl rfl Ja uu sizeOf42 rfl nb rfl ?_))
 refine yn (zt ?_); intro a w h
 refine Jm h (Zc h rfl (.cell rfl mr isAgg42 sizeOf42 Zo)) ?_
 rw [show sgZ (decide (x < 0) != decide (y < 0)) (x.natAbs * y.natAbs) = x * y from by
  conv => rhs; rw [← Zq2 x, ← Zq2 y]
  unfold sgZ
  by_cases h1 : x < 0 <;> by_cases h2 : y < 0 <;> simp only [h1, h2, decide_true, decide_false, bne_self_eq_false, Bool.true_bne, Bool.false_bne, Bool.not_true, Bool.not_false, if_true, Bool.false_eq_true, if_false, Int.natCast_mul, Int.neg_mul, Int.mul_neg, Int.neg_neg]]
theorem Zqn (x y : Int) (hx : Zat x ≤ 400000000000) (hy : Zat y ≤ 400000000000) : Ys Tryz.prog 182 [.func (.func 198) #[] #[], encZ x, encZ y] (encZ (x + y)) := by
 refine fn_intro func182 rfl ntmps182 nb ?_
 intro S w0 a hS h
 refine gC h (zS (zx rfl fun b4 => zx rfl fun b5 => zz zeroValue42 fun b6 => zn (zS (zm rfl (zd rfl mr isAgg42 sizeOf42 Zo ?_)))))
 refine zd rfl mr isAgg42 sizeOf42 Zo ?_; intro a w h
 refine Zi (Yq h (fs := []) (cs := []) rfl (vs := [_, _]) rfl call198 (C_plus x y hx hy) dd ?_); clear h; intro a w h
 refine gL h (zt' rfl rfl Ja uu sizeOf42 rfl nb rfl ?_); clear h; intro a w h
 refine wpList_nil (wp_ret ?_)
 refine Jm h (Zc h rfl (.cell rfl mr isAgg42 sizeOf42 Zo)) ?_
 rfl
theorem Qaa (x y : Int) (hx : Zat x ≤ 400000000000) (hy : Zat y ≤ 400000000000) : Ys Tryz.prog 159 [encZ x, encZ y] (encZ (x + y)) := by
 refine fn_intro func159 rfl ntmps159 nb ?_
 intro S w0 a hS h
 refine gC h (zS (zx rfl fun b2 => zx rfl fun b3 => zz zeroValue42 fun b4 => zn (zS (zd rfl mr isAgg42 sizeOf42 Zo ?_))))
 refine zd rfl mr isAgg42 sizeOf42 Zo ?_
 refine zv [_, _, _] rfl call182 (Zqn x y hx hy) (zt' rfl rfl Ja uu sizeOf42 rfl nb rfl ?_); intro a w h
 refine wpList_nil (wp_ret ?_)
 refine Jm h (Zc h rfl (.cell rfl mr isAgg42 sizeOf42 Zo)) ?_
 rfl
theorem Zod (x y : Int) (hx : Zat x ≤ 400000000000) (hy : Zat y ≤ 400000000000) : Ys Tryz.prog 182 [.func (.func 183) #[] #[], encZ x, encZ y] (encZ (x * y)) := by
 refine fn_intro func182 rfl ntmps182 nb ?_
 intro S w0 a hS h
 refine gC h (zS (zx rfl fun b4 => zx rfl fun b5 => zz zeroValue42 fun b6 => zn (zS (zm rfl (zd rfl mr isAgg42 sizeOf42 Zo ?_)))))
 refine zd rfl mr isAgg42 sizeOf42 Zo ?_; intro a w h
 refine Zi (Yq h (fs := []) (cs := []) rfl (vs := [_, _]) rfl call183 (Qhq x y hx hy) dd ?_); clear h; intro a w h
 refine gL h (zt' rfl rfl Ja uu sizeOf42 rfl nb rfl ?_); clear h; intro a w h
 refine wpList_nil (wp_ret ?_)
 refine Jm h (Zc h rfl (.cell rfl mr isAgg42 sizeOf42 Zo)) ?_
 rfl
theorem Ztj (x y : Int) (hx : Zat x ≤ 400000000000) (hy : Zat y ≤ 400000000000) : Ys Tryz.prog 134 [encZ x, encZ y] (encZ (x * y)) := by
 refine fn_intro func134 rfl ntmps134 nb ?_
 intro S w0 a hS h
 refine gC h (zS (zx rfl fun b2 => zx rfl fun b3 => zz zeroValue42 fun b4 => zn (zS (zd rfl mr isAgg42 sizeOf42 Zo ?_))))
 refine zd rfl mr isAgg42 sizeOf42 Zo ?_
 refine zv [_, _, _] rfl call182 (Zod x y hx hy) (zt' rfl rfl Ja uu sizeOf42 rfl nb rfl ?_); intro a w h
 refine wpList_nil (wp_ret ?_)
 refine Jm h (Zc h rfl (.cell rfl mr isAgg42 sizeOf42 Zo)) ?_
 rfl
theorem C_ZNeg (x : Int) : Ys Tryz.prog 161 [encZ x] (encZ (-x)) := by
 refine fn_intro func161 rfl ntmps161 nb ?_
 intro S w0 a hS h
 refine gC h (zS (zx rfl fun b1 => zz zeroValue42 fun b2 => zn (zS (zp (.fA rfl Zbl) (zd rfl mr isAgg4 sizeOf4 Zbv ?_)))))
 refine zp (.unOp rfl (Xe _)) (zp (.fA rfl Ga) (zp (.fA rfl Gv) (zd rfl mr isAgg38 sizeOf38 Jw ?_)))
 refine zv [_, _] rfl call140 (Zej _ _) (zt' rfl rfl Ja uu sizeOf42 rfl nb rfl ?_); intro a w h
 refine wpList_nil (wp_ret ?_)
 refine Jm h (Zc h rfl (.cell rfl mr isAgg42 sizeOf42 Zo)) ?_
 rw [show sgZ (!decide (x < 0)) x.natAbs = -x from by unfold sgZ; by_cases h1 : x < 0 <;> simp [h1] <;> omega]
theorem Ztk (x : Int) : Ys Tryz.prog 141 [encZ x] (Vm x.natAbs) := by
 refine fn_intro func141 rfl ntmps141 nb ?_
 intro S w0 a hS h
 refine gC h (zS (zx rfl fun b1 => zz zeroValue38 fun b2 => zn (zS (zp (.fA rfl Ga) (zp (.fA rfl Gv) (zd rfl mr isAgg38 sizeOf38 Jw ?_))))))
 refine zt' rfl rfl Qe uu sizeOf38 rfl nb rfl ?_; intro a w h
 refine wpList_nil (wp_ret ?_)
 refine Jm h (Zc h rfl (.cell rfl mr isAgg38 sizeOf38 Zn)) ?_
 rfl
theorem Zz9 (x : Int) : Ys Tryz.prog 145 [encZ x] (.int .i64 x.sign) := by
 refine fn_intro func145 rfl ntmps145 nb ?_
 intro S w0 a hS h
 refine gC h (zS (zx rfl fun b1 => za rfl (zn (zs (zb (zS (zp (.fA rfl Ga) (zd rfl mr isAgg40 sizeOf40 Jw ?_))))))))
 refine zv [_] rfl call189 (Zzy x.natAbs) (za rfl (zn ?_)); intro a w h
 refine cW ?_
 refine Zb h rfl (fun hc3 => ?_) (fun hc3 => ?_)
 ·
  skip
  refine gC h (zS (za rfl (zn (zt ?_)))); clear h; intro a w h
  refine Jm h (Zc h rfl (.tmp rfl)) ?_
  rw [show x = 0 by have := of_decide_eq_true hc3; omega]; rfl
 ·
  skip
  refine gC h (zS (zp (.fA rfl Zbl) (zd rfl mr isAgg4 sizeOf4 Zbv ?_)))
  refine za rfl (zn ?_); intro a w h
  refine cW ?_
  refine Zb h rfl (fun hc7 => ?_) (fun hc7 => ?_)
  ·
   skip
   refine gC h (zS (za rfl (zn (zt ?_)))); clear h; intro a w h
   refine Jm h (Zc h rfl (.tmp rfl)) ?_
   rw [Int.sign_eq_neg_one_of_neg (of_decide_eq_true hc7)]
  ·
   skip
   refine gC h (zk (zS (za rfl (zn (zt ?_))))); clear h; intro a w h
   refine Jm h (Zc h rfl (.tmp rfl)) ?_
   have h1 := of_decide_eq_false hc3; have h2 := of_decide_eq_false hc7; rw [Int.sign_eq_one_of_pos oo]
end
section
theorem Zqe (x : Int) (w : World) : (Go.convert 2 36 (.int .i64 x)).run Tryz.prog w = .ok (.int .u64 (IntKind.u64.wrap x)) w := by
 simp [go_sem]
theorem Qhd (x0_0 : Value) (x0_1 : Value) (x0_2 : Value) (w : World) : (Instr.build 44 [(0, .agg #[x0_0, x0_1, x0_2])].toArray).run Tryz.prog w = .ok (.agg #[x0_0, x0_1, x0_2, .int .u64 0, .string ⟨#[]⟩]) w := by simp [go_sem]
theorem Qi {c0 c1 c2 c3 c4 v0 v1 v2 v3 v4 : Value} : Jd #[c0, c1, c2, c3, c4] 0 [v0, v1, v2, v3, v4] = #[v0, v1, v2, v3, v4] := rfl
theorem Zh {c0 c1 c2 c3 c4 : Value} : Qk true 5 #[c0, c1, c2, c3, c4] 0 = some (.agg #[c0, c1, c2, c3, c4]) := rfl
theorem Zgy {b off : Nat} (w : World) : (Instr.fieldAt 44 (.pointer (some ⟨b, off, none⟩)) 1).run Tryz.prog w = .ok (.pointer (some ⟨b, off + 3, none⟩)) w := by
 simp [go_sem]
theorem Zep {c0 c1 c2 c3 c4 : Value} : Qk true 2 #[c0, c1, c2, c3, c4] 3 = some (.agg #[c3, c4]) := rfl
theorem Zjs (x0_0 : Value) (x0_1 : Value) (x0_2 : Value) (x1_0 : Value) (x1_1 : Value) (w : World) : (Instr.build 44 [(0, .agg #[x0_0, x0_1, x0_2]), (1, .agg #[x1_0, x1_1])].toArray).run Tryz.prog w = .ok (.agg #[x0_0, x0_1, x0_2, x1_0, x1_1]) w := by simp [go_sem]
theorem Vq {b off : Nat} (w : World) : (Instr.fieldAt 44 (.pointer (some ⟨b, off, none⟩)) 0).run Tryz.prog w = .ok (.pointer (some ⟨b, off + 0, none⟩)) w := by
 simp [go_sem]
theorem Yi {c0 c1 c2 c3 c4 : Value} : Qk true 3 #[c0, c1, c2, c3, c4] 0 = some (.agg #[c0, c1, c2]) := rfl
theorem Zfb (n : Int) (d : Nat) (hd : d ≠ 0) : (mkRat n d).num = sgZ (decide (n.sign < 0)) (n.natAbs / n.natAbs.gcd d) ∧ (mkRat n d).den = d / n.natAbs.gcd d := by
 rw [← Rat.normalize_eq_mkRat hd, Rat.normalize_eq hd]
 refine ⟨?_, rfl⟩
 show n / ((n.natAbs.gcd d : Nat) : Int) = _
 unfold sgZ
 have hg : ((n.natAbs.gcd d : Nat) : Int) ∣ n := Int.ofNat_dvd_left.2 (Nat.gcd_dvd_left _ _)
 have hg0 : n.natAbs.gcd d ≠ 0 := fun h => hd (Nat.gcd_eq_zero_iff.1 h).2
 have hdv := Nat.gcd_dvd_left n.natAbs d
 generalize n.natAbs.gcd d = g at *
 obtain ⟨k, hk⟩ := hdv
 rw [hk, Nat.mul_div_cancel_left k (Nat.pos_of_ne_zero hg0)]
 by_cases h : n < 0
 ·
  have h2 : n.sign < 0 := by rw [Int.sign_eq_neg_one_of_neg h]; decide
  simp only [h2, decide_true, if_true]
  have : n = (g : Int) * -(k : Int) := by rw [Int.mul_neg, ← Int.natCast_mul, ← hk]; omega
  rw [this, Int.mul_ediv_cancel_left _ oo]
 ·
  have h2 : ¬ n.sign < 0 := by
   rcases Int.lt_or_eq_of_le (Int.not_lt.1 h) with h3 | h3
   · rw [Int.sign_eq_one_of_pos h3]; decide
   · rw [← h3]; decide
  simp only [h2, decide_false, Bool.false_eq_true, if_false]
  have : n = (g : Int) * (k : Int) := by rw [← Int.natCast_mul, ← hk]; omega
  rw [this, Int.mul_ediv_cancel_left _ oo]
def Qc (q : Rat) : Nat := max (Zat q.num) (wds q.den).length
theorem Zca {q : Rat} {k : Nat} (h : Qc q ≤ k) : Zat q.num ≤ k ∧ (wds q.den).length ≤ k := by unfold Qc at h; omega
theorem wds_ge {n : Nat} (h : n ≠ 0) : 4294967296 ^ ((wds n).length - 1) ≤ n := by
 have hne : wds n ≠ [] := fun e => h (by rw [← Qu n, e]; rfl)
 have h2 := Qu n
 rw [← List.dropLast_concat_getLast hne, Xg] at h2
 have h3 := Zht _ hne
 simp only [Zu, List.length_dropLast, Nat.mul_zero, Nat.add_zero] at h2
 have h5 : 4294967296 ^ ((wds n).length - 1) * 1 ≤ 4294967296 ^ ((wds n).length - 1) * (wds n).getLast hne := Nat.mul_le_mul_left _ oo
 omega
theorem Zek {n k : Nat} (h : n < 4294967296 ^ k) : (wds n).length ≤ k := by
 by_cases h0 : n = 0
 · subst h0; simp [Gn]
 ·
  have h1 := wds_ge h0
  have h2 := (Nat.pow_lt_pow_iff_right (a := 4294967296) dd).1 (Nat.lt_of_le_of_lt h1 h)
  omega
theorem Zcg (n : Nat) : n < 4294967296 ^ (wds n).length := by
 have := Ve (Wd.wds n); rwa [Qu] at this
theorem Za8 (n m : Nat) : (wds (n * m)).length ≤ (wds n).length + (wds m).length :=
 Zek (by rw [Nat.pow_add]; exact Nat.mul_lt_mul'' (Zcg n) (Zcg m))
theorem Zox (n m : Nat) : (wds (n + m)).length ≤ max (wds n).length (wds m).length + 1 := Zek (by
 have h1 := Zcg n
 have h2 := Zcg m
 have h3 : 4294967296 ^ (wds n).length ≤ 4294967296 ^ max (wds n).length (wds m).length := Nat.pow_le_pow_right dd oo
 have h4 : 4294967296 ^ (wds m).length ≤ 4294967296 ^ max (wds n).length (wds m).length := Nat.pow_le_pow_right dd oo
 rw [Nat.pow_succ]; omega)
theorem Zeu (x y : Int) : Zat (x * y) ≤ Zat x + Zat y := by unfold Zat; rw [Int.natAbs_mul]; exact Za8 _ _
theorem Zlh (x y : Int) : Zat (x + y) ≤ max (Zat x) (Zat y) + 1 := by
 unfold Zat; exact Nat.le_trans (Va (Int.natAbs_add_le x y)) (Zox _ _)
theorem Zev (n : Int) (d : Nat) (hd : d ≠ 0) : Qc (mkRat n d) ≤ max (Zat n) (wds d).length := by
 obtain ⟨h1, h2⟩ := Zfb n d hd
 unfold Qc Zat
 rw [h1, h2, Zc7]
 have a1 := Va (Nat.div_le_self n.natAbs (n.natAbs.gcd d))
 have a2 := Va (Nat.div_le_self d (n.natAbs.gcd d))
 omega
theorem Yw (a b : Rat) : Qc (a + b) ≤ Qc a + Qc b + 1 := by
 rw [Rat.add_def']
 have h := Zev (a.num * b.den + b.num * a.den) (a.den * b.den) (Nat.mul_ne_zero a.den_nz b.den_nz)
 have h1 := Zlh (a.num * b.den) (b.num * a.den)
 have h2 := Zeu a.num b.den
 have h3 := Zeu b.num a.den
 have h4 := Za8 a.den b.den
 have e1 : Zat (a.den : Int) = (wds a.den).length := rfl
 have e2 : Zat (b.den : Int) = (wds b.den).length := rfl
 unfold Qc at h ⊢
 omega
theorem Qf (a b : Rat) : Qc (a * b) ≤ Qc a + Qc b := by
 rw [Rat.mul_def']
 have h := Zev (a.num * b.num) (a.den * b.den) (Nat.mul_ne_zero a.den_nz b.den_nz)
 have h2 := Zeu a.num b.num
 have h4 := Za8 a.den b.den
 unfold Qc at h ⊢
 omega
theorem Zs4 {a b : Rat} (h : a.den = b.den) : mkRat (a.num + b.num) a.den = a + b := by
 rw [Rat.add_def', ← h, ← Int.add_mul, Rat.mkRat_mul_right a.den_nz]
theorem Zzg {a b : Rat} (ha : a.den = 1) (hb : b.den = 1) : ((a.num + b.num : Int) : Rat) = a + b := by
 rw [← Zs4 (a := a) (b := b) oo, ha, Rat.mkRat_one]
theorem Zxf {a b : Rat} (ha : a.den = 1) (hb : b.den = 1) : ((a.num * b.num : Int) : Rat) = a * b := by
 rw [Rat.mul_def', ha, hb, Nat.mul_one, Rat.mkRat_one]
theorem Zf4 (y : Rat) (hy : y ≠ 0) : mkRat (sgZ (decide (y.num.sign < 0)) y.den) y.num.natAbs = y⁻¹ := by
 rw [Rat.inv_def]
 have h0 : y.num ≠ 0 := fun h => hy (Rat.num_eq_zero.1 h)
 unfold sgZ
 generalize y.num = m at *
 rcases Int.lt_or_gt_of_ne h0 with h | h
 ·
  have h2 : m.sign < 0 := by rw [Int.sign_eq_neg_one_of_neg h]; decide
  simp only [h2, decide_true, if_true]
  obtain ⟨k, rfl⟩ : ∃ k : Nat, m = -(k : Int) := ⟨m.natAbs, oo⟩
  have e : Rat.divInt (y.den : Int) (-(k : Int)) = Rat.divInt (-(y.den : Int)) (k : Int) := by
   have := Rat.neg_divInt_neg (-(y.den : Int)) (k : Int)
   rwa [Int.neg_neg] at this
  rw [e, Rat.divInt_ofNat, Int.natAbs_neg, Int.natAbs_natCast]
 ·
  have h2 : ¬ m.sign < 0 := by rw [Int.sign_eq_one_of_pos h]; decide
  simp only [h2, decide_false, Bool.false_eq_true, if_false]
  obtain ⟨k, rfl⟩ : ∃ k : Nat, m = (k : Int) := ⟨m.natAbs, oo⟩
  rw [Rat.divInt_ofNat, Int.natAbs_natCast]
theorem Zwc (x : Int) (w : World) : (Op.unary .neg (.int .u64 x)).run Tryz.prog w = .ok (.int .u64 (IntKind.u64.wrap (0 - x))) w := by simp [Op.unary, Op.intArith]
theorem C_ZOf (n : Int) (h0 : -9223372036854775808 ≤ n) (h1 : n ≤ 9223372036854775807) : Ys Tryz.prog 112 [.int .i64 n] (encZ n) := by
 refine fn_intro func112 rfl ntmps112 nb ?_
 intro S w0 a hS h
 refine gC h (zS (zz zeroValue42 fun b2 => zn (zs (zS (zm rfl (zp (.lss rfl rfl) (zn ?_))))))); clear h; intro a w h
 refine cW ?_
 refine Zb h rfl (fun hc4 => ?_) (fun hc4 => ?_)
 ·
  skip
  have hn : n < 0 := of_decide_eq_true hc4
  refine gC h (zS (zm rfl (zp (.convert rfl (Zqe _)) (zp (.unOp rfl (fun w => by rw [Zwc, Zam, Zam, show (0 - n % 18446744073709551616) % 18446744073709551616 = ((n.natAbs : Nat) : Int) by omega])) (zv [_] rfl call164 (C_Of n.natAbs oo) (zv [_, _] rfl call140 (Zej true n.natAbs) (zt' rfl rfl Ja uu sizeOf42 rfl nb rfl ?_))))))); clear h; intro a w h
  refine wpList_nil (wp_ret ?_)
  refine Jm h (Zc h rfl (.cell rfl mr isAgg42 sizeOf42 Zo)) ?_
  rw [show sgZ true n.natAbs = n from by unfold sgZ; simp; omega]
 ·
  skip
  have hn : ¬ n < 0 := of_decide_eq_false hc4
  refine gC h (zk (zS (zm rfl (zp (Pure1.cast (v' := .int .u64 ((n.natAbs : Nat) : Int)) (.convert rfl (Zqe _)) (by rw [Zam]; congr 1; omega)) (zv [_] rfl call164 (C_Of n.natAbs oo) (zv [_, _] rfl call140 (Zej false n.natAbs) (zt' rfl rfl Ja uu sizeOf42 rfl nb rfl ?_))))))); clear h; intro a w h
  refine wpList_nil (wp_ret ?_)
  refine Jm h (Zc h rfl (.cell rfl mr isAgg42 sizeOf42 Zo)) ?_
  rw [show sgZ false n.natAbs = n from by unfold sgZ; simp; omega]
theorem Zqm (n : Int) : Ys Tryz.prog 111 [encZ n] (Jo (n : Rat)) := by
 refine fn_intro func111 rfl ntmps111 nb ?_
 intro S w0 a hS h
 refine gC h (zS (zx rfl fun b1 => zz zeroValue44 fun b2 => zn (zS (zd rfl mr isAgg42 sizeOf42 Zo ?_))))
 refine zp (.build [(_, _)] rfl (Qhd _ _ _)) (zt' rfl rfl Qi uu sizeOf44 rfl nb rfl ?_); intro a w h
 refine wpList_nil (wp_ret ?_)
 refine Jm h (Zc h rfl (.cell rfl mr isAgg44 sizeOf44 Zh)) ?_
 rfl
theorem Zg9 (x : Rat) : Ys Tryz.prog 117 [Jo x] (.bool (decide (x.den = 1))) := by
 refine fn_intro func117 rfl ntmps117 nb ?_
 intro S w0 a hS h
 refine gC h (zS (zx rfl fun b1 => za rfl (zn (zS (zp (.fA rfl Zgy) (zd rfl mr isAgg38 sizeOf38 Zep ?_))))))
 refine zp (Pure1.cast (v' := Vm 0) (.build [] rfl (Zl7)) (by rfl)) (zp (.binOp rfl rfl (fun _ => Zpe _ _ (x.den - 1) 0 _)) (za rfl (zn (zt ?_)))); intro a w h
 refine Jm h (Zc h rfl (.tmp rfl)) ?_
 have := x.den_pos; show Value.bool _ = Value.bool _; congr 1; apply decide_eq_decide.2; omega
theorem Zmh (x : Rat) (h0 : (wds x.den).length ≤ 400000000000) : Ys Tryz.prog 120 [Jo x] (Vm x.den) := by
 refine fn_intro func120 rfl ntmps120 nb ?_
 intro S w0 a hS h
 refine gC h (zS (zx rfl fun b1 => zz zeroValue38 fun b2 => zn (zs (yD Za [0, 1, 2, 3, 4] (Zd kk) (yp rfl (.fA rfl Zgy) (yd rfl rfl mr isAgg38 sizeOf38 Zep ?_)))))); clear h
 refine yv [_] rfl rfl call164 (C_Of 1 dd) (yv [_, _] rfl rfl call171 (C_Add (x.den - 1) 1 (Nat.le_trans (Va (Nat.sub_le _ _)) oo) (Nat.le_trans (Gp dd) dd)) (yt rfl rfl rfl Qe uu sizeOf38 rfl nb rfl ?_))
 refine yn (zt ?_); intro a w h
 refine Jm h (Zc h rfl (.cell rfl mr isAgg38 sizeOf38 Zn)) ?_
 rw [Nat.sub_add_cancel x.den_pos]
theorem Ztb (x : Rat) (h0 : (wds x.den).length ≤ 400000000000) : Ys Tryz.prog 160 [Jo x] (encZ (x.den : Int)) := by
 refine fn_intro func160 rfl ntmps160 nb ?_
 intro S w0 a hS h
 refine gC h (zS (zx rfl fun b1 => zz zeroValue42 fun b2 => zn (zS (zd rfl mr isAgg44 sizeOf44 Zh ?_))))
 refine zv [_] rfl call120 (Zmh x h0) (zv [_, _] rfl call140 (Zej false x.den) (zt' rfl rfl Ja uu sizeOf42 rfl nb rfl ?_)); intro a w h
 refine wpList_nil (wp_ret ?_)
 refine Jm h (Zc h rfl (.cell rfl mr isAgg42 sizeOf42 Zo)) ?_
 rfl
theorem Zic (n : Int) (d : Nat) (hd : d ≠ 0) (hn : Zat n ≤ 400000000000) (hdl : (wds d).length ≤ 400000000000) : Ys Tryz.prog 135 [encZ n, Vm d] (Jo (mkRat n d)) := by
 unfold Zat at hn
 have hg0 : n.natAbs.gcd d ≠ 0 := fun h => hd (Nat.gcd_eq_zero_iff.1 h).2
 have hgl : (wds (n.natAbs.gcd d)).length ≤ 400000000000 := Nat.le_trans (Va (Nat.gcd_le_right _ (Nat.pos_of_ne_zero hd))) hdl
 have hq : 1 ≤ d / n.natAbs.gcd d := Nat.div_pos (Nat.gcd_le_right _ (Nat.pos_of_ne_zero hd)) (Nat.pos_of_ne_zero hg0)
 have hql : (wds (d / n.natAbs.gcd d)).length ≤ 400000000000 := Nat.le_trans (Va (Nat.div_le_self _ _)) hdl
 obtain ⟨hm1, hm2⟩ := Zfb n d hd
 refine fn_intro func135 rfl ntmps135 nb ?_
 intro S w0 a hS h
 refine gC h (zS (zx rfl fun b2 => zx rfl fun b3 => zz zeroValue44 fun b4 => zn (zs (yD Za [0, 2, 1, 3, 4, 5] (Xs ⟨.inl rfl, .inl rfl, .inl rfl, .inl rfl, .inr ⟨5, 38, _, _, _, rfl, rfl, by decide, _, zeroValue38⟩, .inl rfl, trivial⟩) (yd rfl rfl mr isAgg42 sizeOf42 Zo ?_))))); clear h
 refine yd rfl rfl mr isAgg38 sizeOf38 Zn ?_
 refine yv [_] rfl rfl call141 (Ztk n) (yv [_, _] rfl rfl call184 (C_Gcd _ _ oo oo) (yz rfl zeroValue38 fun b5 => yt rfl rfl rfl Qe uu sizeOf38 rfl nb rfl ?_))
 refine yn (zs (yD Za [0, 2, 1, 3, 4, 5, 6, 7, 8, 9, 10, 11, 12] (Xs ⟨.inl rfl, .inl rfl, .inl rfl, .inl rfl, .inl rfl, .inl rfl, .inl rfl, .inl rfl, .inr ⟨6, 38, _, _, _, rfl, rfl, by decide, _, zeroValue38⟩, .inr ⟨7, 38, _, _, _, rfl, rfl, by decide, _, zeroValue38⟩, .inl rfl, .inl rfl, .inl rfl, trivial⟩) (yd rfl rfl mr isAgg42 sizeOf42 Zo ?_)))
 refine yd rfl rfl mr isAgg38 sizeOf38 Zn ?_
 refine yv [_] rfl rfl call141 (Ztk n) (yv [_, _] rfl rfl call185 (Qii n.natAbs (n.natAbs.gcd d) oo oo hg0) (ym rfl rfl (yp rfl (.eX rfl) (yp rfl (.eX rfl) (yp rfl (.eX rfl) (yz rfl zeroValue38 fun b6 => yz rfl zeroValue38 fun b7 => yt rfl rfl rfl Qe uu sizeOf38 rfl nb rfl ?_))))))
 refine yt rfl rfl rfl Qe uu sizeOf38 rfl nb rfl ?_
 refine yp rfl (.assign rfl) (yn (zS (zd rfl mr isAgg38 sizeOf38 Zn ?_)))
 refine zd rfl mr isAgg38 sizeOf38 Zn ?_
 refine zv [_, _] rfl call185 (Qii d (n.natAbs.gcd d) oo oo hg0) (zm rfl (zp (.eX rfl) (zp (.eX rfl) (zp (.eX rfl) (zz zeroValue38 fun b9 => zz zeroValue38 fun b10 => zt' rfl rfl Qe uu sizeOf38 rfl nb rfl ?_)))))
 refine zt' rfl rfl Qe uu sizeOf38 rfl nb rfl ?_; intro a w h
 refine gL h (za rfl (zn (zs (yD Za [0, 1, 2, 3, 4, 5, 6] (Zd kk) (yd rfl rfl mr isAgg38 sizeOf38 Zn ?_))))); clear h
 refine yv [_] rfl rfl call164 (C_Of 1 dd) (yv [_, _] rfl rfl call186 (Qh4 _ 1 oo (Nat.le_trans (Gp dd) dd)) (ym rfl rfl (yp rfl (.eX rfl) (yp rfl (.eX rfl) (yt rfl rfl rfl Qe uu sizeOf38 rfl nb rfl ?_)))))
 refine yn (zs (yD Za [0, 3, 5, 1, 2, 4, 6, 7] (Zd kk) (yd rfl rfl mr isAgg42 sizeOf42 Zo ?_)))
 refine yd rfl rfl mr isAgg38 sizeOf38 Zn ?_
 refine yd rfl rfl mr isAgg38 sizeOf38 Zn ?_
 refine yv [_] rfl rfl call145 (Zz9 n) (yp rfl (.lss rfl rfl) (yv [_, _] rfl rfl call140 (Zej _ _) (yp rfl (.build [(_, _), (_, _)] rfl (Zjs _ _ _ _ _)) (yt rfl rfl rfl Qi uu sizeOf44 rfl nb rfl ?_))))
 refine yn (zt ?_); intro a w h
 refine Jm h (Zc h rfl (.cell rfl mr isAgg44 sizeOf44 Zh)) ?_
 rw [Jo, hm1, hm2]
theorem Zoj (x y : Rat) (ha : Qc x ≤ 100000000000) (hb : Qc y ≤ 100000000000) : Ys Tryz.prog 98 [Jo x, Jo y] (Jo (x + y)) := by
 obtain ⟨ha1, ha2⟩ := Zca ha
 obtain ⟨hb1, hb2⟩ := Zca hb
 have hm1 := Zeu x.num (y.den : Int)
 have hm2 := Zeu y.num (x.den : Int)
 have hs := Zlh (x.num * (y.den : Int)) (y.num * (x.den : Int))
 have hs2 := Zlh x.num y.num
 have hda : Zat (x.den : Int) = (wds x.den).length := rfl
 have hdb : Zat (y.den : Int) = (wds y.den).length := rfl
 have hdm := Za8 x.den y.den
 have hpa := x.den_pos
 have hpb := y.den_pos
 refine fn_intro func98 rfl ntmps98 nb ?_
 intro S w0 a hS h
 refine gC h (zS (zx rfl fun b2 => zx rfl fun b3 => zz zeroValue44 fun b4 => zn (zs (zb (zS (zd rfl mr isAgg44 sizeOf44 Zh ?_))))))
 refine zv [_] rfl call117 (Zg9 x) (zm rfl ?_); intro a w h
 refine Zg h (fun hc8 h => ?_) (fun hc8 h => ?_)
 focus
  have hwa : x.den = 1 := of_decide_eq_true hc8
  refine Ze 8 h rfl rfl (Vi h rfl mr isAgg44 sizeOf44 Zh dd ?_); clear h; intro a h
  refine Ze 8 h rfl rfl (Yr h (vs := [_]) rfl call117 (Zg9 y) dd ?_); clear h; intro a w h
  refine Zg h (fun hc10 h => ?_) (fun hc10 h => ?_)
  ·
   skip
   have hwb : y.den = 1 := of_decide_eq_true hc10
   refine gL h (zp (.pickT rfl rfl) (za rfl (zn ?_))); clear h; intro a w h
   refine cW ?_
   refine Zq h rfl ?_
   refine gC h (zS (zp (.fA rfl Vq) (zd rfl mr isAgg42 sizeOf42 Yi ?_)))
   refine zp (.fA rfl Vq) (zd rfl mr isAgg42 sizeOf42 Yi ?_)
   refine zv [_, _] rfl call159 (Qaa _ _ oo oo) (zv [_] rfl call111 (Zqm _) (zt' rfl rfl Qi uu sizeOf44 rfl nb rfl ?_)); intro a w h
   refine wpList_nil (wp_ret ?_)
   refine Jm h (Zc h rfl (.cell rfl mr isAgg44 sizeOf44 Zh)) ?_
   rw [show ((x.num + y.num : Int) : Rat) = x + y from Zzg hwa hwb]
  have hwb : y.den ≠ 1 := of_decide_eq_false hc10
  refine gL h (zp (.pickT rfl rfl) (za rfl (zn ?_))); clear h; intro a w h
 rotate_left
 focus
  have hwa : x.den ≠ 1 := of_decide_eq_false hc8
  refine gL h (zo 8 rfl rfl rfl (zo 8 rfl rfl rfl (zp (.pickF rfl rfl) (za rfl (zn ?_))))); clear h; intro a w h
 all_goals
  refine cW ?_
  refine Zj h rfl ?_
  refine gC h (zS (zp (.fA rfl Zgy) (zd rfl mr isAgg38 sizeOf38 Zep ?_)))
  refine zp (.fA rfl Zgy) (zd rfl mr isAgg38 sizeOf38 Zep ?_)
  refine zp (.binOp rfl rfl (fun _ => Zpe _ _ (x.den - 1) (y.den - 1) _)) ?_; intro a w h
  refine Zg h (fun hc23 h => ?_) (fun hc23 h => ?_)
  ·
   skip
   have hde : x.den = y.den := dT hc23
   refine gL h (za rfl (zn ?_)); clear h; intro a w h
   refine cW ?_
   refine Zq h rfl ?_
   refine gC h (zs (yD Za [0, 1, 2, 3, 5, 4, 6, 7, 8] (Zd kk) (yp rfl (.fA rfl Vq) (yd rfl rfl mr isAgg42 sizeOf42 Yi ?_)))); clear h
   refine yp rfl (.fA rfl Vq) (yd rfl rfl mr isAgg42 sizeOf42 Yi ?_)
   refine yd rfl rfl mr isAgg44 sizeOf44 Zh ?_
   refine yv [_, _] rfl rfl call159 (Qaa _ _ oo oo) (yv [_] rfl rfl call120 (Zmh x oo) (yv [_, _] rfl rfl call135 (Zic _ _ oo oo oo) (yt rfl rfl rfl Qi uu sizeOf44 rfl nb rfl ?_)))
   refine yn (zt ?_); intro a w h
   refine Jm h (Zc h rfl (.cell rfl mr isAgg44 sizeOf44 Zh)) ?_
   rw [show mkRat (x.num + y.num) x.den = x + y from Zs4 hde]
  ·
   skip
   have hde : x.den ≠ y.den := dF hc23
   refine gL h (za rfl (zn ?_)); clear h; intro a w h
   refine cW ?_
   refine Zj h rfl ?_
   refine gC h (zk (zs (yD Za [0, 1, 2, 5, 6, 7, 11, 13, 3, 4, 8, 9, 10, 12, 14, 15, 16, 17] (Zd kk) (yp rfl (.fA rfl Vq) (yd rfl rfl mr isAgg42 sizeOf42 Yi ?_))))); clear h
   refine yd rfl rfl mr isAgg44 sizeOf44 Zh ?_
   refine yp rfl (.fA rfl Vq) (yd rfl rfl mr isAgg42 sizeOf42 Yi ?_)
   refine yd rfl rfl mr isAgg44 sizeOf44 Zh ?_
   refine yd rfl rfl mr isAgg44 sizeOf44 Zh ?_
   refine yd rfl rfl mr isAgg44 sizeOf44 Zh ?_
   refine yv [_] rfl rfl call160 (Ztb y oo) (yv [_, _] rfl rfl call134 (Ztj _ _ oo oo) (yv [_] rfl rfl call160 (Ztb x oo) (yv [_, _] rfl rfl call134 (Ztj _ _ oo oo) (yv [_, _] rfl rfl call159 (Qaa _ _ oo oo) (yv [_] rfl rfl call120 (Zmh x oo) (yv [_] rfl rfl call120 (Zmh y oo) (yv [_, _] rfl rfl call136 (Qid _ _ oo oo) (yv [_, _] rfl rfl call135 (Zic _ _ (Nat.mul_ne_zero oo oo) oo oo) (yt rfl rfl rfl Qi uu sizeOf44 rfl nb rfl ?_)))))))))
   refine yn (zt ?_); intro a w h
   refine Jm h (Zc h rfl (.cell rfl mr isAgg44 sizeOf44 Zh)) ?_
   rw [Rat.add_def']
theorem Zaq (x y : Rat) (ha : Qc x ≤ 100000000000) (hb : Qc y ≤ 100000000000) : Ys Tryz.prog 69 [Jo x, Jo y] (Jo (x * y)) := by
 obtain ⟨ha1, ha2⟩ := Zca ha
 obtain ⟨hb1, hb2⟩ := Zca hb
 have hm1 := Zeu x.num y.num
 have hdm := Za8 x.den y.den
 have hpa := x.den_pos
 have hpb := y.den_pos
 refine fn_intro func69 rfl ntmps69 nb ?_
 intro S w0 a hS h
 refine gC h (zS (zx rfl fun b2 => zx rfl fun b3 => zz zeroValue44 fun b4 => zn (zs (zS (zd rfl mr isAgg44 sizeOf44 Zh ?_)))))
 refine zv [_] rfl call117 (Zg9 x) (zm rfl ?_); intro a w h
 refine Zg h (fun hc7 h => ?_) (fun hc7 h => ?_)
 focus
  have hwa : x.den = 1 := of_decide_eq_true hc7
  refine Ze 7 h rfl rfl (Vi h rfl mr isAgg44 sizeOf44 Zh dd ?_); clear h; intro a h
  refine Ze 7 h rfl rfl (Yr h (vs := [_]) rfl call117 (Zg9 y) dd ?_); clear h; intro a w h
  refine Zg h (fun hc9 h => ?_) (fun hc9 h => ?_)
  ·
   skip
   have hwb : y.den = 1 := of_decide_eq_true hc9
   refine gL h (zp (.pickT rfl rfl) (zn ?_)); clear h; intro a w h
   refine cW ?_
   refine Zq h rfl ?_
   refine gC h (zS (zp (.fA rfl Vq) (zd rfl mr isAgg42 sizeOf42 Yi ?_)))
   refine zp (.fA rfl Vq) (zd rfl mr isAgg42 sizeOf42 Yi ?_)
   refine zv [_, _] rfl call134 (Ztj _ _ oo oo) (zv [_] rfl call111 (Zqm _) (zt' rfl rfl Qi uu sizeOf44 rfl nb rfl ?_)); intro a w h
   refine wpList_nil (wp_ret ?_)
   refine Jm h (Zc h rfl (.cell rfl mr isAgg44 sizeOf44 Zh)) ?_
   rw [show ((x.num * y.num : Int) : Rat) = x * y from Zxf hwa hwb]
  refine gL h (zp (.pickT rfl rfl) (zn ?_)); clear h; intro a w h
 rotate_left
 focus
  refine gL h (zo 7 rfl rfl rfl (zo 7 rfl rfl rfl (zp (.pickF rfl rfl) (zn ?_)))); clear h; intro a w h
 all_goals
  refine cW ?_
  refine Zj h rfl ?_
  refine gC h (zk (zs (yD Za [0, 1, 2, 3, 5, 7, 4, 6, 8, 9, 10, 11] (Zd kk) (yp rfl (.fA rfl Vq) (yd rfl rfl mr isAgg42 sizeOf42 Yi ?_))))); clear h
  refine yp rfl (.fA rfl Vq) (yd rfl rfl mr isAgg42 sizeOf42 Yi ?_)
  refine yd rfl rfl mr isAgg44 sizeOf44 Zh ?_
  refine yd rfl rfl mr isAgg44 sizeOf44 Zh ?_
  refine yv [_, _] rfl rfl call134 (Ztj _ _ oo oo) (yv [_] rfl rfl call120 (Zmh x oo) (yv [_] rfl rfl call120 (Zmh y oo) (yv [_, _] rfl rfl call136 (Qid _ _ oo oo) (yv [_, _] rfl rfl call135 (Zic _ _ (Nat.mul_ne_zero oo oo) oo oo) (yt rfl rfl rfl Qi uu sizeOf44 rfl nb rfl ?_)))))
  refine yn (zt ?_); intro a w h
  refine Jm h (Zc h rfl (.cell rfl mr isAgg44 sizeOf44 Zh)) ?_
  rw [Rat.mul_def']
theorem Zha (x : Rat) : Ys Tryz.prog 83 [Jo x] (.int .i64 x.num.sign) := by
 refine fn_intro func83 rfl ntmps83 nb ?_
 intro S w0 a hS h
 refine gC h (zS (zx rfl fun b1 => za rfl (zn (zS (zp (.fA rfl Vq) (zd rfl mr isAgg42 sizeOf42 Yi ?_))))))
 refine zv [_] rfl call145 (Zz9 x.num) (za rfl (zn (zt ?_))); intro a w h
 exact Zbw h
theorem Vw (n : Int) (h0 : -9223372036854775808 ≤ n) (h1 : n ≤ 9223372036854775807) : Ys Tryz.prog 45 [.int .i64 n] (Jo (n : Rat)) := by
 refine fn_intro func45 rfl ntmps45 nb ?_
 intro S w0 a hS h
 refine gC h (zS (zz zeroValue44 fun b2 => zn (zS (zm rfl (zv [_] rfl call112 (C_ZOf n h0 h1) (zv [_] rfl call111 (Zqm n) (zt' rfl rfl Qi uu sizeOf44 rfl nb rfl ?_))))))); clear h; intro a w h
 refine wpList_nil (wp_ret ?_)
 refine Jm h (Zc h rfl (.cell rfl mr isAgg44 sizeOf44 Zh)) ?_
 rfl
theorem C_inv (y : Rat) (hy : y ≠ 0) (h1 : Zat (sgZ (decide (y.num.sign < 0)) y.den) ≤ 400000000000) (h2 : (wds y.num.natAbs).length ≤ 400000000000) :
  Ys Tryz.prog 135 [encZ (sgZ (decide (y.num.sign < 0)) y.den), Vm y.num.natAbs] (Jo y⁻¹) := by
 rw [← Zf4 y hy]
 exact Zic _ _ (fun h => hy (Rat.num_eq_zero.1 (Int.natAbs_eq_zero.1 h))) h1 h2
theorem C_QDiv (x y : Rat) (hy : y ≠ 0) (hx : Qc x ≤ 100000000000) (hyl : Qc y ≤ 100000000000) : Ys Tryz.prog 124 [Jo x, Jo y] (.tuple #[Jo (x / y), .int .i64 0]) := by
 obtain ⟨hb1, hb2⟩ := Zca hyl
 have h0 : y.num ≠ 0 := fun h => hy (Rat.num_eq_zero.1 h)
 have hs : Zat (sgZ (decide (y.num.sign < 0)) y.den) = (wds y.den).length := by unfold Zat; rw [Zc7]
 have hz : (wds y.num.natAbs).length = Zat y.num := rfl
 have hinv := Zev (sgZ (decide (y.num.sign < 0)) y.den) y.num.natAbs oo
 rw [Zf4 y hy] at hinv
 refine fn_intro func124 rfl ntmps124 nb ?_
 intro S w0 a hS h
 refine gC h (zS (zx rfl fun b2 => zx rfl fun b3 => zz zeroValue44 fun b4 => za rfl (zn (zs (zS (zd rfl mr isAgg44 sizeOf44 Zh ?_))))))
 refine zv [_] rfl call83 (Zha y) (zp (.eql rfl rfl) (zn ?_)); intro a w h
 refine cW ?_
 refine Zb h rfl (fun hc9 => (by exfalso; have := eq_of_beq hc9; exact h0 (Int.sign_eq_zero_iff_zero.1 this))) (fun hc9 => ?_)
 refine gC h (zk (zs (yD Za [0, 3, 6, 7, 1, 2, 4, 5, 8, 9, 10, 11] (Xs ⟨.inl rfl, .inl rfl, .inl rfl, .inl rfl, .inl rfl, .inl rfl, .inl rfl, .inl rfl, .inl rfl, .inl rfl, .inr ⟨6, 44, _, _, _, rfl, rfl, by decide, _, zeroValue44⟩, .inl rfl, trivial⟩) (yd rfl rfl mr isAgg44 sizeOf44 Zh ?_)))); clear h
 refine yd rfl rfl mr isAgg44 sizeOf44 Zh ?_
 refine yp rfl (.fA rfl Vq) (yd rfl rfl mr isAgg42 sizeOf42 Yi ?_)
 refine yv [_] rfl rfl call83 (Zha y) (yp rfl (.lss rfl rfl) (yv [_] rfl rfl call120 (Zmh y oo) (yv [_, _] rfl rfl call140 (Zej _ _) (yv [_] rfl rfl call141 (Ztk y.num) (yv [_, _] rfl rfl call135 (C_inv y hy oo oo) (yz rfl zeroValue44 fun b6 => yt rfl rfl rfl Qi uu sizeOf44 rfl nb rfl ?_))))))
 refine yn (zS (zd rfl mr isAgg44 sizeOf44 Zh ?_))
 refine zd rfl mr isAgg44 sizeOf44 Zh ?_
 refine zv [_, _] rfl call69 (Zaq x y⁻¹ hx oo) (zt' rfl rfl Qi uu sizeOf44 rfl nb rfl ?_)
 refine za rfl (zn (zt ?_)); intro a w h
 refine Jm h (Qv h rfl (.cell rfl mr isAgg44 sizeOf44 Zh) (.tmp rfl)) ?_
 rw [Rat.div_def]
end
section
theorem Zlu {b off : Nat} (w : World) : (Instr.fieldAt 209 (.pointer (some ⟨b, off, none⟩)) 0).run Tryz.prog w = .ok (.pointer (some ⟨b, off + 0, none⟩)) w := by
 simp [go_sem]
theorem Zlf (a : Option Addr) (n c : Nat) (w : World) (ty : TypeId) (cs : Array Bool) : (Go.builtin .len #[207] ty cs #[.slice a n c]).run Tryz.prog w = .ok (.value (.int .i64 n)) w := by
 simp [go_sem]
theorem ix_207 (b off n c j : Nat) (h : j < n) (w : World) : (Instr.indexAt 207 (.slice (some ⟨b, off, none⟩) n c) (.int .i64 (j : Int))).run Tryz.prog w = .ok (.pointer (some ⟨b, off + j * 5, none⟩)) w := by
 simpa using Xx runUnderlying207 sizeOf44 b off n c j h w
theorem Vd (w : World) : (zeroValue 44).run Tryz.prog w = .ok (Jo 0) w := zeroValue44 w
abbrev encP (p : Rat × Rat × Rat) : Value := .agg #[.int .u64 (Za6 p.1.num.natAbs), .string (Kt p.1.num.natAbs), .bool (decide (p.1.num < 0)), .int .u64 (Za6 (p.1.den - 1)), .string (Kt (p.1.den - 1)),
 .int .u64 (Za6 p.2.1.num.natAbs), .string (Kt p.2.1.num.natAbs), .bool (decide (p.2.1.num < 0)), .int .u64 (Za6 (p.2.1.den - 1)), .string (Kt (p.2.1.den - 1)),
 .int .u64 (Za6 p.2.2.num.natAbs), .string (Kt p.2.2.num.natAbs), .bool (decide (p.2.2.num < 0)), .int .u64 (Za6 (p.2.2.den - 1)), .string (Kt (p.2.2.den - 1))]
theorem Zlx {x y : Rat} : (Za6 x.num.natAbs = Za6 y.num.natAbs ∧ Kt x.num.natAbs = Kt y.num.natAbs ∧ decide (x.num < 0) = decide (y.num < 0) ∧ Za6 (x.den - 1) = Za6 (y.den - 1) ∧ Kt (x.den - 1) = Kt (y.den - 1)) ↔ x = y := by
 constructor
 ·
  rintro ⟨h1, h2, h3, h4, h5⟩
  have e1 := Zlw h1 h2
  have e2 := Zlw h4 h5
  have := x.den_pos
  have := y.den_pos
  refine Rat.ext ?_ oo
  have h3' : (x.num < 0) ↔ (y.num < 0) := decide_eq_decide.1 h3
  omega
 · rintro rfl; exact ⟨rfl, rfl, rfl, rfl, rfl⟩
theorem str_eq (n m : Nat) : ((Kt n).toList = (Kt m).toList) ↔ Kt n = Kt m := by have := Zck (Kt n) (Kt m); rw [Bool.eq_iff_iff] at this; simpa using this
theorem Qfu (X Y : Operand) (x y : Rat) (w : World) : (do eqGuard .eql 44 X Y (Jo x) (Jo y); Go.binOp .eql 44 (Jo x) (Jo y) : Sem Value).run Tryz.prog w = .ok (.bool (decide (x = y))) w := by
 simp [go_sem]
 have hq := @Zlx x y
 rw [decide_eq_decide] at hq
 simp only [← str_eq] at hq
 by_cases e : x = y
 ·
  obtain ⟨h1, h2, h3, h4, h5⟩ := hq.2 e
  rw [if_pos h1, if_pos h2, if_pos h3, if_pos h4, if_pos h5]; simp [e]
 ·
  rw [show decide (x = y) = false from by simp [e]]
  (repeat' split) <;> first | rfl | (exact absurd (hq.1 ⟨‹_›, ‹_›, ‹_›, ‹_›, ‹_›⟩) e)
theorem Zgp (X Y : Operand) (x y : Rat) (w : World) : (do eqGuard .neq 44 X Y (Jo x) (Jo y); Go.binOp .neq 44 (Jo x) (Jo y) : Sem Value).run Tryz.prog w = .ok (.bool (!decide (x = y))) w := by
 simp [go_sem]
 have hq := @Zlx x y
 rw [decide_eq_decide] at hq
 simp only [← str_eq] at hq
 by_cases e : x = y
 ·
  obtain ⟨h1, h2, h3, h4, h5⟩ := hq.2 e
  rw [if_pos h1, if_pos h2, if_pos h3, if_pos h4, if_pos h5]; simp [e]
 ·
  rw [show decide (x = y) = false from by simp [e]]
  (repeat' split) <;> first | rfl | (exact absurd (hq.1 ⟨‹_›, ‹_›, ‹_›, ‹_›, ‹_›⟩) e)
theorem nestQ {α : Type} (x y : Rat) (A B : α) : (if Za6 x.num.natAbs = Za6 y.num.natAbs then if (Kt x.num.natAbs).toList = (Kt y.num.natAbs).toList then if x.num < 0 ↔ y.num < 0 then if Za6 (x.den - 1) = Za6 (y.den - 1) then
  if (Kt (x.den - 1)).toList = (Kt (y.den - 1)).toList then A else B else B else B else B else B) = if x = y then A else B := by
 have hq := @Zlx x y
 rw [decide_eq_decide] at hq
 simp only [← str_eq] at hq
 by_cases e : x = y
 ·
  obtain ⟨h1, h2, h3, h4, h5⟩ := hq.2 e
  rw [if_pos h1, if_pos h2, if_pos h3, if_pos h4, if_pos h5, if_pos e]
 ·
  rw [if_neg e]
  (repeat' split) <;> first | rfl | (exact absurd (hq.1 ⟨‹_›, ‹_›, ‹_›, ‹_›, ‹_›⟩) e)
theorem Zr1 (x : Rat) : Qc (-x) = Qc x := by simp [Qc, Zat, Rat.neg_num, Rat.neg_den]
theorem Zw (n : Int) (h0 : -9223372036854775808 ≤ n) (h1 : n ≤ 9223372036854775807) : Qc ((n : Int) : Rat) ≤ 2 := by
 have : (wds n.natAbs).length ≤ 2 := Gp oo
 unfold Qc Zat
 rw [Rat.num_intCast, Rat.den_intCast]
 have h2 : (wds 1).length ≤ 2 := Gp dd
 omega
theorem Zd6 : Qc 0 ≤ 2 := Zw 0 oo oo
theorem Zr2 (y : Rat) : Qc y⁻¹ ≤ Qc y := by
 by_cases hy : y = 0
 · subst hy; rw [Rat.inv_zero]; exact Nat.le_refl _
 ·
  rw [← Zf4 y hy]
  have h0 : y.num ≠ 0 := fun h => hy (Rat.num_eq_zero.1 h)
  have := Zev (sgZ (decide (y.num.sign < 0)) y.den) y.num.natAbs oo
  unfold Zat at this
  rw [Zc7] at this
  unfold Qc Zat at *
  omega
theorem Zr3 (x y : Rat) : Qc (x / y) ≤ Qc x + Qc y := by
 rw [Rat.div_def]; have := Qf x y⁻¹; have := Zr2 y; omega
theorem Zlj (n d : Int) (h0 : -9223372036854775808 ≤ n) (h1 : n ≤ 9223372036854775807) (h2 : -9223372036854775808 ≤ d) (h3 : d ≤ 9223372036854775807) : Qc ((n : Rat) / (d : Rat)) ≤ 4 := by
 have := Zr3 (n : Rat) (d : Rat); have := Zw n h0 h1; have := Zw d h2 h3; omega
abbrev Zv (k : Nat) : Value := .int .i64 (k : Int)
theorem getD_mem {α : Type} (l : List α) {i : Nat} {d : α} (h : i < l.length) : l.getD i d ∈ l := by
 simp only [List.getD, List.getElem?_eq_getElem h, Option.getD_some]; exact List.getElem_mem h
theorem Zi6 {α β : Type} {f : β → α → β} (l : List α) (s : β) (i : Nat) (d : α) (h : i < l.length) : (l.take (i + 1)).foldl f s = f ((l.take i).foldl f s) (l.getD i d) := by
 rw [List.take_add_one, List.getElem?_eq_getElem h, List.foldl_append]
 simp [List.getD, List.getElem?_eq_getElem h]
theorem C_QNeg (x : Rat) : Ys Tryz.prog 99 [Jo x] (Jo (-x)) := by
 refine fn_intro func99 rfl ntmps99 nb ?_
 intro S w0 a hS h
 refine gC h (zS (zx rfl fun b1 => zz Vd fun b2 => zn (zs (yD Za [0, 1, 3, 4, 2, 5, 6] (Zd kk) (yp rfl (.fA rfl Vq) (yd rfl rfl mr isAgg42 sizeOf42 Yi ?_)))))); clear h
 refine yp rfl (.fA rfl Zgy) (yd rfl rfl mr isAgg38 sizeOf38 Zep ?_)
 refine yv [_] rfl rfl call161 (C_ZNeg x.num) (yp rfl (.build [(_, _), (_, _)] rfl (Zjs _ _ _ _ _)) (yt rfl rfl rfl Qi uu sizeOf44 rfl nb rfl ?_))
 refine yn (zt ?_); intro a w h
 refine Jm h (Zc h rfl (.cell rfl mr isAgg44 sizeOf44 Zh)) ?_
 unfold Jo; rw [Rat.neg_num, Rat.neg_den]
theorem C_tadd (b : Nat) (s x : Rat) (σ : List (Nat × Obj)) (Φ : List Zy) (hs : Qc s ≤ 10000000000) (hx : Qc x ≤ 10000000000) :
  Zob Tryz.prog 155 [.pointer (some ⟨b, 0, none⟩), Jo x] ((b, .cells (Jo s).cells 209 (0, 0)) :: σ) Φ (fun v σ' Φ' => v = .tuple #[] ∧ σ' = (b, .cells (Jo (s + x)).cells 209 (0, 0)) :: σ ∧ Φ' = Φ) := by
 refine fn_introM func155 rfl ntmps155 nb ?_
 intro S w0 a w hS h
 refine gC h (zS (zx rfl fun b3 => zn (yD Za [0, 1, 2, 3, 4, 5, 6, 7, 8, 9] (Zd kk) (ym rfl rfl (ym rfl rfl (yp rfl (.nilCheck rfl) (yp rfl (.fA rfl Zlu) (yd rfl rfl mr isAgg44 sizeOf44 Zh ?_)))))))); clear h
 refine yd rfl rfl mr isAgg44 sizeOf44 Zh ?_
 refine yv [_, _] rfl rfl call98 (Zoj _ _ oo oo) ?_
 have hl10 := Yw (s) (x)
 refine yp rfl (.nilCheck rfl) (yp rfl (.fA rfl Zlu) (yt rfl rfl rfl Qi uu sizeOf44 rfl nb rfl ?_))
 refine yn ?_; intro a w h
 refine Qd4 h (Zfr rfl) ⟨rfl, rfl, rfl⟩ (List.sublist_cons_self _ _) (fun _ h => h)
theorem Zu8 (b : Nat) (s : Rat) (ad : Option Addr) (c : Nat) (l : List Rat) (σ : List (Nat × Obj)) (Φ : List Zy) (hn : l.length ≤ 1000000) (hs : Qc s ≤ 1000000) (hx : ∀ x ∈ l, Qc x ≤ 1000) (hR : Row ad (cellsOf Jo l) ∈ Φ) :
  Zob Tryz.prog 154 [.func (.func 155) #[.pointer (some ⟨b, 0, none⟩)] #[], .slice ad l.length c] ((b, .cells (Jo s).cells 209 (0, 0)) :: σ) Φ (fun v σ' Φ' => v = .tuple #[] ∧ σ' = (b, .cells (Jo (l.foldl (· + ·) s)).cells 209 (0, 0)) :: σ ∧ Φ' = Φ) := by
 refine fn_introM func154 rfl ntmps154 nb ?_
 intro S w0 a w hS h
 refine gC h (zS (zm rfl (zp (.builtin [_] rfl (Zlf _ _ _)) (zm rfl (zn (zb ?_)))))); clear h; intro a w h
 refine Zf (fun (i : Nat) a w => i ≤ l.length ∧ (Qc ((l.take i).foldl (· + ·) s) ≤ 1000000 + 1001 * i) ∧ St 16 S w0 [(0, .func (.func 155) #[.pointer (some ⟨b, 0, none⟩)] #[]), (6, .slice ad l.length c), (7, nI l.length), (8, nI i)] ((b, bV (Jo ((l.take i).foldl (· + ·) s)) 209) :: σ) (Φ) a w) (fun i => l.length - i) 0 (⟨Nat.zero_le _, by simpa using hs, by exact (h).sub sA⟩) ?_; clear h
 rintro i a w ⟨hi_i, hinv_i, h⟩
 refine gC h (zS (zp (.lss rfl rfl) (zn (zs ?_)))); clear h; intro a w h
 refine Zb h rfl (fun hc9 => ?_) (fun hc9 => ?_)
 ·
  skip
  have hlt_i : i < l.length := dT hc9
  obtain ⟨B_ad, O_ad, rfl⟩ := h.row_addr (ad := ad) (M := cellsOf Jo l) mm (nE 5)
  have hl := hx (l.getD i 0) (getD_mem _ hlt_i)
  have hsum := Zi6 (f := (· + ·)) l s i 0 hlt_i
  have hla := Yw ((l.take i).foldl (· + ·) s) (l.getD i 0)
  refine gC h (zk (zs (zb (zS (zp (.indexAddr rfl rfl (ix_207 _ _ _ _ _ oo)) (zD rfl mm (cells_lt (k := 5) dd (fun _ => rfl) l i oo) isAgg44 sizeOf44 (Zr (k := 5) (fun _ => rfl) ((fun _ => rfl)) l 0 i oo) (.inl rfl) ?_))))))
  refine zz Vd fun b5 => zt' rfl rfl Qi uu sizeOf44 rfl nb rfl ?_
  refine zn (zr (zm rfl (zd rfl mr isAgg44 sizeOf44 Zh ?_))); intro a w h
  refine Zi (Zw7 h hS (fs := [.pointer (some ⟨b, 0, none⟩)]) (cs := []) rfl (vs := [_]) rfl call155 (C_tadd b ((l.take i).foldl (· + ·) s) (l.getD i 0) ((b5, _) :: σ) Φ oo oo) (List.Perm.swap _ _ _) ss ss ?_); clear h; rintro v14 σ14 Ψ14 a w ⟨rfl, rfl, rfl⟩ h
  refine gL h (zn (zr (zp (.pN (i + 1) (.add rfl rfl)) (zm rfl (zn ?_))))); clear h; intro a w h
  rw [← hsum] at h
  exact ⟨i + 1, ⟨oo, by rw [hsum]; omega, (h.drop sl).sub sA⟩, oo⟩
 ·
  skip
  have heq_i : l.length = i := dF hc9
  subst heq_i
  refine wp_exit ?_
  refine Qd4 h (Zfr rfl) ⟨rfl, by rw [List.take_length], rfl⟩ (List.Sublist.refl _) (fun _ h => h)
theorem Zto (ad : Option Addr) (c : Nat) (l : List Rat) (hn : l.length ≤ 1000000) (hx : ∀ x ∈ l, Qc x ≤ 1000) :
  Vj Tryz.prog 92 [.slice ad l.length c] [Row ad (cellsOf Jo l)] (Jo (l.foldl (· + ·) 0)) := by
 refine fn_intro func92 rfl ntmps92 nb ?_
 intro S w0 a hS h
 refine gC h (zS (zz Vd fun b2 => zn (zS (zz zeroValue209 fun b3 => zn (zS (zp (.makeFunc [_] [] rfl rfl) (zm rfl ?_))))))); clear h; intro a w h
 refine Zi (Zb0 h hS (vs := [_, _]) rfl call154 (Zu8 b3 0 ad c l [(b2, _)] [Row ad (cellsOf Jo l)] hn (Nat.le_trans Zd6 dd) hx List.mem_cons_self) (List.Perm.refl _) ss ss ?_); clear h; rintro v6 σ6 Ψ6 a w ⟨rfl, rfl, rfl⟩ h
 refine gL h (zn (zS (zp (.fA rfl Zlu) (zd rfl mr isAgg44 sizeOf44 Zh ?_))))
 refine zt' rfl rfl Qi uu sizeOf44 rfl nb rfl ?_; intro a w h
 refine wpList_nil (wp_ret ?_)
 refine Jm h (Zc h rfl (.cell rfl mr isAgg44 sizeOf44 Zh)) ?_
 rfl
theorem C_QOf (n d : Int) (h0 : -9223372036854775808 ≤ n) (h1 : n ≤ 9223372036854775807) (h2 : -9223372036854775808 ≤ d) (h3 : d ≤ 9223372036854775807) (hd : d ≠ 0) :
  Ys Tryz.prog 60 [.int .i64 n, .int .i64 d] (.tuple #[Jo ((n : Rat) / (d : Rat)), .int .i64 0]) := by
 refine fn_intro func60 rfl ntmps60 nb ?_
 intro S w0 a hS h
 refine gC h (zS (zz Vd fun b4 => za rfl (zn (zS (zm rfl (zv [_] rfl call45 (Vw _ oo oo) ?_))))))
 have hl7 := Zw (n) oo oo
 refine zm rfl (zv [_] rfl call45 (Vw _ oo oo) ?_)
 have hl9 := Zw (d) oo oo
 refine zv [_, _] rfl call124 (C_QDiv _ _ (by exact fun e => hd (Rat.intCast_eq_zero_iff.1 e)) oo oo) (zp (.eX rfl) (zp (.eX rfl) (zt' rfl rfl Qi uu sizeOf44 rfl nb rfl ?_)))
 refine za rfl (zn (zt ?_)); intro a w h
 refine Jm h (Qv h rfl (.cell rfl mr isAgg44 sizeOf44 Zh) (.tmp rfl)) ?_
 rfl
end
section
theorem sls_9 (x : ByteArray) (lo hi : Nat) (h1 : lo ≤ hi) (h2 : hi ≤ x.size) (w : World) : (Instr.sliceAt 9 (.string x) (some (.int .i64 (lo : Int))) (some (.int .i64 (hi : Int))) none).run Tryz.prog w = .ok (.string (x.extract lo hi)) w := Zo7 runUnderlying9 x lo hi h1 h2 w
theorem Qg4 (x : Int) (w : World) : (Go.convert 36 3 (.int .u64 x)).run Tryz.prog w = .ok (.int .i64 (IntKind.i64.wrap x)) w := by
 simp [go_sem]
theorem Zst (x : Int) (h0 : IntKind.i64.wrap x = x) (w : World) : (Go.convert 36 3 (.int .u64 x)).run Tryz.prog w = .ok (.int .i64 x) w := by
 rw [Qg4, h0]
def Zj6 (n : Nat) : ByteArray := if n < 10 then ⟨#[UInt8.ofNat (48 + n)]⟩ else ⟨#[UInt8.ofNat (48 + n / 10), UInt8.ofNat (48 + n % 10)]⟩
def Zo4 (z : Int) : ByteArray := if z < 0 then ⟨#[45]⟩ ++ Zj6 z.natAbs else Zj6 z.natAbs
def Zfn (x : Rat) : ByteArray := if x.den = 1 then Zo4 x.num else Zo4 x.num ++ ⟨#[47]⟩ ++ Zj6 x.den
def textU (l : List Rat) : Nat → ByteArray
 | 0 => ⟨#[]⟩
 | i + 1 => (if 0 < i then textU l i ++ ⟨#[32]⟩ else textU l i) ++ Zfn (l.getD i 0)
theorem Zcw (n : Nat) : (Zj6 n).size ≤ 2 := by unfold Zj6; split <;> simp [ByteArray.size]
theorem Zgn (z : Int) : (Zo4 z).size ≤ 3 := by
 unfold Zo4; have := Zcw z.natAbs
 split
 ·
  rw [ByteArray.size_append]; have : (ByteArray.mk #[45]).size = 1 := rfl
  omega
 · omega
theorem Ztx (x : Rat) : (Zfn x).size ≤ 6 := by
 unfold Zfn; have := Zcw x.den; have := Zgn x.num
 split
 · omega
 ·
  rw [ByteArray.size_append, ByteArray.size_append]; have : (ByteArray.mk #[47]).size = 1 := rfl
  omega
def tab1 : ByteArray := ⟨#[48, 49, 50, 51, 52, 53, 54, 55, 56, 57, 97, 98, 99, 100, 101, 102, 103, 104, 105, 106, 107, 108, 109, 110, 111, 112, 113, 114, 115, 116, 117, 118, 119, 120, 121, 122]⟩
def tab2 : ByteArray := ⟨#[48, 48, 48, 49, 48, 50, 48, 51, 48, 52, 48, 53, 48, 54, 48, 55, 48, 56, 48, 57, 49, 48, 49, 49, 49, 50, 49, 51, 49, 52, 49, 53, 49, 54, 49, 55, 49, 56, 49, 57, 50, 48, 50, 49, 50, 50, 50, 51, 50, 52, 50, 53, 50, 54, 50, 55, 50, 56, 50, 57, 51, 48, 51, 49, 51, 50, 51, 51, 51, 52, 51, 53, 51, 54, 51, 55, 51, 56, 51, 57, 52, 48, 52, 49, 52, 50, 52, 51, 52, 52, 52, 53, 52, 54, 52, 55, 52, 56, 52, 57, 53, 48, 53, 49, 53, 50, 53, 51, 53, 52, 53, 53, 53, 54, 53, 55, 53, 56, 53, 57, 54, 48, 54, 49, 54, 50, 54, 51, 54, 52, 54, 53, 54, 54, 54, 55, 54, 56, 54, 57, 55, 48, 55, 49, 55, 50, 55, 51, 55, 52, 55, 53, 55, 54, 55, 55, 55, 56, 55, 57, 56, 48, 56, 49, 56, 50, 56, 51, 56, 52, 56, 53, 56, 54, 56, 55, 56, 56, 56, 57, 57, 48, 57, 49, 57, 50, 57, 51, 57, 52, 57, 53, 57, 54, 57, 55, 57, 56, 57, 57]⟩
theorem Qff (i : Nat) (h : i < 10) : tab1.extract i (i + 1) = Zj6 i := by
 have : ∀ i, i < 10 → tab1.extract i (i + 1) = Zj6 i := by decide +kernel
 exact this i h
theorem Qfe (i : Nat) (h0 : ¬ i < 10) (h : i < 100) : tab2.extract (i * 2) (i * 2 + 2) = Zj6 i := by
 have : ∀ i, i < 100 → ¬ i < 10 → tab2.extract (i * 2) (i * 2 + 2) = Zj6 i := by decide +kernel
 exact this i h h0
theorem Zzz (n : Nat) (hlt : n < 100) : Ys Tryz.prog 224 [.int .i64 ((n : Nat) : Int)] (.string (Zj6 n)) := by
 refine fn_intro func224 rfl ntmps224 nb ?_
 intro S w0 a hS h
 refine gC h (zS (za rfl (zn (zs (zS (zm rfl (zp (.lss rfl rfl) (zn ?_)))))))); clear h; intro a w h
 refine cW ?_
 refine Zb h rfl (fun hc4 => ?_) (fun hc4 => ?_)
 ·
  skip
  have hn : n < 10 := dT hc4
  refine gC h (zS (zm rfl (zm rfl (zp (.pN (n + 1) (.add rfl rfl)) (zp (.slice rfl (some _) (some _) none rfl rfl rfl (sls_9 _ _ _ (by first | omega | (show n + 1 ≤ 36; omega)) (by first | omega | (show n + 1 ≤ 36; omega)))) (za rfl (zn (zt ?_)))))))); clear h; intro a w h
  refine Jm h (Zc h rfl (.tmp rfl)) ?_
  exact congrArg _ (Qff n hn)
 ·
  skip
  have hn : ¬ n < 10 := dF hc4
  refine gC h (zk (zS (zm rfl (zp (.pN (n * 2) (.mul rfl rfl)) (zm rfl (zp (.pN (n * 2) (.mul rfl rfl)) (zp (.pN ((n * 2) + 2) (.add rfl rfl)) (zp (.slice rfl (some _) (some _) none rfl rfl rfl (sls_9 _ _ _ (by first | omega | (show n * 2 + 2 ≤ 200; omega)) (by first | omega | (show n * 2 + 2 ≤ 200; omega)))) (za rfl (zn (zt ?_))))))))))); clear h; intro a w h
  refine Jm h (Zc h rfl (.tmp rfl)) ?_
  exact congrArg _ (Qfe n hn hlt)
theorem C_iFU (n : Nat) (hlt : n < 100) : Ys Tryz.prog 199 [.int .u64 (n : Int), .int .i64 10] (.string (Zj6 n)) := by
 refine fn_intro func199 rfl ntmps199 nb ?_
 intro S w0 a hS h
 refine gC h (zS (za rfl (zn (zs (zS (zm rfl (zp (.eql rfl rfl) (zn ?_)))))))); clear h; intro a w h
 refine cW ?_
 refine Zb h rfl (fun hc10 => ?_) (fun hc10 => (absurd hc10 dd))
 refine gC h (zs (zS (zm rfl (zp (.lss rfl rfl) (zn ?_))))); clear h; intro a w h
 refine cW ?_
 refine Zb h rfl (fun hc12 => ?_) (fun hc12 => (by exfalso; have := of_decide_eq_false hc12; omega))
 refine gC h (zS (zm rfl (zp (.convert rfl (Zst _ (wrap_i64 _ oo oo))) (zv [_] rfl call224 (Zzz n hlt) (za rfl (zn (zt ?_))))))); clear h; intro a w h
 exact Zbw h
theorem C_FU (n : Nat) (hlt : n < 100) : Ys Tryz.prog 165 [.int .u64 (n : Int), .int .i64 10] (.string (Zj6 n)) := by
 refine fn_intro func165 rfl ntmps165 nb ?_
 intro S w0 a hS h
 refine gC h (zS (za rfl (zn (zS (zm rfl (zm rfl (zv [_, _] rfl call199 (C_iFU n hlt) (za rfl (zn (zt ?_)))))))))); clear h; intro a w h
 exact Zbw h
theorem Zqs (n : Nat) (hlt : n < 100) : Ys Tryz.prog 119 [Vm n] (.string (Zj6 n)) := by
 refine fn_intro func119 rfl ntmps119 nb ?_
 intro S w0 a hS h
 refine gC h (zS (zx rfl fun b1 => za rfl (zn (zs (zS (zp (.fA rfl Kj) (zd rfl mr isAgg9 sizeOf9 Xm ?_)))))))
 refine zp (.binOp rfl rfl (fun _ => Xf _ _ _ _ _)) (zn ?_); intro a w h
 refine cW ?_
 refine Zb h rfl (fun hc10 => ?_) (fun hc10 => (by exfalso; have hb : Kt n = ⟨#[]⟩ := Vn oo; rw [hb] at hc10; exact absurd hc10 dd))
 refine gC h (zS (zp (.fA rfl Vr) (zd rfl mr isAgg36 sizeOf36 Ye ?_))); clear h; intro a w h
 rw [Qh (show n < 18446744073709551616 by omega)] at h
 refine gL h (zv [_, _] rfl call165 (C_FU n hlt) (za rfl (zn (zt ?_)))); clear h; intro a w h
 exact Zbw h
theorem Zz8 (z : Int) (hz : z.natAbs < 100) : Ys Tryz.prog 118 [encZ z] (.string (Zo4 z)) := by
 refine fn_intro func118 rfl ntmps118 nb ?_
 intro S w0 a hS h
 refine gC h (zS (zx rfl fun b1 => za rfl (zn (zs (zS (zp (.fA rfl Zbl) (zd rfl mr isAgg4 sizeOf4 Zbv ?_))))))); clear h; intro a w h
 refine wpList_nil ?_
 refine cW ?_
 refine Zb h rfl (fun hc4 => ?_) (fun hc4 => ?_)
 ·
  skip
  have hn : z < 0 := of_decide_eq_true hc4
  refine gC h (zS (zp (.fA rfl Ga) (zp (.fA rfl Gv) (zd rfl mr isAgg38 sizeOf38 Jw ?_))))
  refine zv [_] rfl call119 (Zqs z.natAbs hz) (zp (.binOp rfl rfl (fun _ => Je _ _ _ _ _ (by have := Zcw z.natAbs; have h1 : (ByteArray.mk #[45]).size = 1 := rfl; omega))) (za rfl (zn (zt ?_)))); intro a w h
  refine Jm h (Zc h rfl (.tmp rfl)) ?_
  unfold Zo4; rw [if_pos hn]
 ·
  skip
  have hn : ¬ z < 0 := of_decide_eq_false hc4
  refine gC h (zk (zS (zp (.fA rfl Ga) (zp (.fA rfl Gv) (zd rfl mr isAgg38 sizeOf38 Jw ?_)))))
  refine zv [_] rfl call119 (Zqs z.natAbs hz) (za rfl (zn (zt ?_))); intro a w h
  refine Jm h (Zc h rfl (.tmp rfl)) ?_
  unfold Zo4; rw [if_neg hn]
theorem Qae (x : Rat) (hn : x.num.natAbs < 100) (hd : x.den < 100) : Ys Tryz.prog 55 [Jo x] (.string (Zfn x)) := by
 refine fn_intro func55 rfl ntmps55 nb ?_
 intro S w0 a hS h
 refine gC h (zS (zx rfl fun b1 => za rfl (zn (zs (zS (zd rfl mr isAgg44 sizeOf44 Zh ?_))))))
 refine zv [_] rfl call117 (Zg9 x) (zn ?_); intro a w h
 refine cW ?_
 refine Zb h rfl (fun hc4 => ?_) (fun hc4 => ?_)
 ·
  skip
  have hw : x.den = 1 := of_decide_eq_true hc4
  refine gC h (zS (zp (.fA rfl Vq) (zd rfl mr isAgg42 sizeOf42 Yi ?_)))
  refine zv [_] rfl call118 (Zz8 x.num hn) (za rfl (zn (zt ?_))); intro a w h
  refine Jm h (Zc h rfl (.tmp rfl)) ?_
  unfold Zfn; rw [if_pos hw]
 ·
  skip
  have hw : ¬ x.den = 1 := of_decide_eq_false hc4
  refine gC h (zk (zs (yD Za [0, 1, 4, 2, 3, 5, 6, 7, 8] (Zd kk) (yp rfl (.fA rfl Vq) (yd rfl rfl mr isAgg42 sizeOf42 Yi ?_))))); clear h
  refine yd rfl rfl mr isAgg44 sizeOf44 Zh ?_
  refine yv [_] rfl rfl call118 (Zz8 x.num hn) (yp rfl (.binOp rfl rfl (fun _ => Je _ _ _ _ _ (by have := Zgn x.num; have h1 : (ByteArray.mk #[47]).size = 1 := rfl; omega))) (yv [_] rfl rfl call120 (Zmh x (Nat.le_trans (Gp oo) dd)) (yv [_] rfl rfl call119 (Zqs x.den hd) (yp rfl (.binOp rfl rfl (fun _ => Je _ _ _ _ _ (by have := Zgn x.num; have := Zcw x.den; have h1 : (ByteArray.mk #[47]).size = 1 := rfl; rw [ByteArray.size_append]; omega))) (yp rfl (.assign rfl) (yn (zt ?_))))))); intro a w h
  refine Jm h (Zc h rfl (.tmp rfl)) ?_
  unfold Zfn; rw [if_neg hw]
end
section
def Zqh (i k : Int) : Int := if i < k then -1 else if i > k then 1 else 0
def validQ (t : Rat) : Bool := decide (t.num.sign ≥ 0) && decide ((t - ((1 : Int) : Rat)).num.sign ≤ 0)
theorem Zz6 (x : Int) : Ys Tryz.prog 196 [.int .i64 x] (.bool false) := by
 refine fn_intro func196 rfl ntmps196 nb ?_
 intro S w0 a hS h
 refine gC h (zS (za rfl (zn (zS (zm rfl (zm rfl (zp (.neq rfl rfl) (za rfl (zn (zt ?_)))))))))); clear h; intro a w h
 refine Jm h (Zc h rfl (.tmp rfl)) ?_
 simp
theorem Qev (x y : Int) : Ys Tryz.prog 152 [.int .i64 x, .int .i64 y] (.int .i64 (Zqh x y)) := by
 refine fn_intro func152 rfl ntmps152 nb ?_
 intro S w0 a hS h
 refine gC h (zS (za rfl (zn (zS (zm rfl (zv [_] rfl call196 (Zz6 _) (za rfl (zn (zS (zm rfl (zv [_] rfl call196 (Zz6 _) (za rfl (zn (zs (zS (zm rfl ?_)))))))))))))))); clear h; intro a w h
 refine Zg h (fun hc11 h => (by exfalso; cases hc11)) (fun hc11 h => ?_)
 refine wpList_nil ?_
 refine cW ?_
 refine Zj h rfl ?_
 refine gC h (zk (zs (zS (zm rfl ?_)))); clear h; intro a w h
 refine Zg h (fun hc13 h => (by exfalso; cases hc13)) (fun hc13 h => ?_)
 refine wpList_nil ?_
 refine cW ?_
 refine Zj h rfl ?_
 refine gC h (zk (zs (zS (zm rfl (zm rfl (zp (.lss rfl rfl) (zn ?_))))))); clear h; intro a w h
 refine cW ?_
 refine Zb h rfl (fun hc16 => ?_) (fun hc16 => ?_)
 ·
  skip
  refine gC h (zS (za rfl (zn (zt ?_)))); clear h; intro a w h
  refine Jm h (Zc h rfl (.tmp rfl)) ?_
  unfold Zqh; have := of_decide_eq_true hc16; simp [this]
 ·
  skip
  refine gC h (zk (zs (zS (zm rfl (zm rfl (zp (.gtr rfl rfl) (zn ?_))))))); clear h; intro a w h
  refine cW ?_
  refine Zb h rfl (fun hc19 => ?_) (fun hc19 => ?_)
  ·
   skip
   refine gC h (zS (za rfl (zn (zt ?_)))); clear h; intro a w h
   refine Jm h (Zc h rfl (.tmp rfl)) ?_
   unfold Zqh; have h1 := of_decide_eq_false hc16; have h2 := of_decide_eq_true hc19; rw [if_neg h1, if_pos h2]
  ·
   skip
   refine gC h (zk (zS (za rfl (zn (zt ?_))))); clear h; intro a w h
   refine Jm h (Zc h rfl (.tmp rfl)) ?_
   unfold Zqh; have h1 := of_decide_eq_false hc16; have h2 := of_decide_eq_false hc19; rw [if_neg h1, if_neg h2]
end
section
theorem Qbb (x : Int) (h0 : -9223372036854775807 ≤ x) (h1 : x ≤ 9223372036854775807) (w : World) : (Op.unary .neg (.int .i64 x)).run Tryz.prog w = .ok (.int .i64 (-x)) w := by
 have : (Op.unary .neg (.int .i64 x)).run Tryz.prog w = .ok (.int .i64 (IntKind.i64.wrap (0 - x))) w := by simp [Op.unary, Op.intArith]
 rw [this, wrap_i64 _ oo oo]; congr 2; omega
end
end Go.Proofs.YtddhlkfpdjmplaaGreatDoor
