/- Walks of functions. By an AI agent. -/
import Derived.Test.YtddhlkfpdjmplaaGreatDoorProg
import Derived.Test.YtddhlkfpdjmplaaGreatDoorFxZ
import Derived.Test.YtddhlkfpdjmplaaGreatDoorFxS
import Derived.Test.YtddhlkfpdjmplaaGreatDoorNumW
import Derived.Test.YtddhlkfpdjmplaaGreatDoorNumD
import Derived.Test.YtddhlkfpdjmplaaGreatDoorNumK
import Derived.Test.YtddhlkfpdjmplaaGreatDoorFxB
import Derived.Test.YtddhlkfpdjmplaaGreatDoorFxC
set_option linter.unusedVariables false
set_option linter.unusedSimpArgs false
set_option maxRecDepth 4000
namespace Go.Proofs.YtddhlkfpdjmplaaGreatDoor
open Go Go.Proofs Go.Fx Tryz
attribute [local irreducible] Oper.wp Code.wp wpList Fx.Head wpOp
section
theorem Zj (a : Option Addr) (n c : Nat) (w : World) (ty : TypeId) (cs : Array Bool) : (Go.builtin .len #[217] ty cs #[.slice a n c]).run Tryz.prog w = .ok (.value (.int .i64 n)) w := by
 simp [go_sem]
theorem Qy (b off n c j : Nat) (h : j < n) (w : World) : (Instr.indexAt 217 (.slice (some ⟨b, off, none⟩) n c) (.int .i64 (j : Int))).run Tryz.prog w = .ok (.pointer (some ⟨b, off + j, none⟩)) w := by
 simpa using Xe runUnderlying217 sizeOf23 b off n c j h w
theorem Zvo (a : Option Addr) (n c j : Nat) (h : j ≤ c) (w : World) : (Instr.sliceAt 217 (.slice a n c) none (some (.int .i64 (j : Int))) none).run Tryz.prog w = .ok (.slice a j c) w := by
 exact Zdn runUnderlying217 sizeOf23 a n c j h w
theorem Vy {b off : Nat} (w : World) : (Instr.fieldAt 38 (.pointer (some ⟨b, off, none⟩)) 1).run Tryz.prog w = .ok (.pointer (some ⟨b, off + 1, none⟩)) w := by
 simp [go_sem]
theorem Xn {c0 c1 : Value} : Qo false 1 #[c0, c1] 1 = some c1 := rfl
theorem Vj {b off : Nat} (w : World) : (Instr.fieldAt 38 (.pointer (some ⟨b, off, none⟩)) 0).run Tryz.prog w = .ok (.pointer (some ⟨b, off + 0, none⟩)) w := by
 simp [go_sem]
theorem Xy {c0 c1 : Value} : Qo false 1 #[c0, c1] 0 = some c0 := rfl
theorem Yr (x : Int) (w : World) : (Go.convert 36 23 (.int .u64 x)).run Tryz.prog w = .ok (.int .u32 (IntKind.u32.wrap x)) w := by
 simp [go_sem]
theorem Zn3 (x0 : Int) (x1 : Int) (w : World) : (Instr.buildSlice 217 2 [(0, .int .u32 x0), (1, .int .u32 x1)].toArray).run Tryz.prog w = .ok (.slice (some ⟨w.heap.size, 0, none⟩) 2 2) (w.alloc (.cells #[.int .u32 x0, .int .u32 x1] 23 (0, 0))) := by
 simp [go_sem]
theorem Zds (x : ByteArray) (w : World) (ty : TypeId) (cs : Array Bool) : (Go.builtin .len #[9] ty cs #[.string x]).run Tryz.prog w = .ok (.value (.int .i64 x.size)) w := by
 simp [go_sem]
theorem Qeo (x : Int) (w : World) : (Go.convert 5 23 (.int .u8 x)).run Tryz.prog w = .ok (.int .u32 (IntKind.u32.wrap x)) w := by
 simp [go_sem]
theorem Zst (x : Int) (h0 : IntKind.u32.wrap x = x) (w : World) : (Go.convert 5 23 (.int .u8 x)).run Tryz.prog w = .ok (.int .u32 x) w := by
 rw [Qeo, h0]
theorem Za : Tryz.prog.follows .mixedOrders = true := by kernel_rfl
theorem Yp (b : Bool) (w : World) : (Op.unary .not (.bool b)).run Tryz.prog w = .ok (.bool (!b)) w := by simp [go_sem]
theorem Qfe (ad : Option Addr) (c : Nat) (l : List Nat) (hw : Wd l) (hc : l.length ≤ c) (hs : l.length ≤ 1099511627776) :
  Ctr Tryz.prog 168 [.slice ad l.length c] [Row ad (Jw l)] (fun v Ψ => v = .slice ad (wds (Zt l)).length c ∧ Ψ = [Row ad (Jw (wds (Zt l)))]) := by
 refine fn_intro func168 rfl ntmps168 nb ?_
 intro S w0 a hS h
 refine gC h (zS (za rfl (zn (zs (zb ?_))))); clear h; intro a w h
 refine Zg (fun (m : Nat) a w => m ≤ l.length ∧ (∀ j, m ≤ j → j < l.length → l.getD j 0 = 0) ∧ St 21 S w0 [(0, .slice ad m c)] [] [Row ad (Jw l)] a w) (fun m => m) (l.length) (⟨Nat.le_refl _, fun j h1 h2 => absurd h2 oo, h.sub sA⟩) ?_; clear h
 rintro m a w ⟨hm, hz, h⟩
 refine gC h (zs (zS (zm rfl (zp (.builtin [_] rfl (Zj _ _ _)) (zp (.gtr rfl rfl) (zm rfl ?_)))))); clear h; intro a w h
 refine Zl h (fun hc6 h => ?_) (fun hc6 h => ?_)
 ·
  skip
  have hm0 : 0 < m := by simpa using hc6
  obtain ⟨b, off, had⟩ := h.row_addr List.mem_cons_self (by simp; intro e; subst e; simp at hm; omega)
  subst had
  refine gL h (zq 6 rfl rfl (.move rfl) (zq 6 rfl rfl (.move rfl) (zq 6 rfl rfl (.builtin [_] rfl (Zj _ _ _)) (zq 6 rfl rfl (.pO (m - 1) (.sub rfl rfl)) (zq 6 rfl rfl (.indexAddr rfl rfl (Qy _ _ _ _ _ oo)) ?_))))); clear h; intro a w h
  refine Zv 6 h rfl rfl (Zch h rfl List.mem_cons_self (by simp; omega) isAgg23 sizeOf23 (Zx 0 oo) (.inr rfl) dd ?_); clear h; intro a h
  refine gL h (zq 6 rfl rfl (.eql rfl rfl) (zp (.pickT rfl rfl) (zn ?_))); clear h; intro a w h
  refine cW ?_
  refine Zc h rfl (fun hc14 => ?_) (fun hc14 => ?_)
  ·
   skip
   refine gC h (zk (zb (zr (zm rfl (zm rfl (zp (.builtin [_] rfl (Zj _ _ _)) (zp (.pO (m - 1) (.sub rfl rfl)) (zp (.slice rfl none (some _) none rfl rfl rfl (Zvo _ _ _ _ oo)) (za rfl (zn ?_)))))))))); clear h; intro a w h
   refine ⟨m - 1, ⟨oo, fun j h1 h2 => ?_, h.sub sA⟩, oo⟩
   by_cases hj : j = m - 1
   · subst hj; simpa using hc14
   · exact hz j oo h2
  ·
   skip
   refine gC h (ze (zS (zm rfl (za rfl (zn (zt ?_)))))); clear h; intro a w h
   have hcut := Zxw hw hm hz (.inr (by simpa using hc14))
   have hR : ∀ ad, Row ad (Jw (wds (Zt l))) = Row ad ((Jw l).take m) := by intro ad; rw [hcut, Jw, List.map_take]
   replace h := h.derive (R := Row _ (Jw (wds (Zt l)))) (fun X hX => by rw [hR]; exact Zed (hX _ List.mem_cons_self) m)
   have hl : m = (wds (Zt l)).length := by rw [hcut]; simp; omega
   refine Qk (Ψ := [Row _ (Jw (wds (Zt l)))]) h (Zd h rfl (.tmp rfl)) ⟨by rw [← hl], rfl⟩ ss
 ·
  skip
  refine gL h (zo 6 rfl rfl rfl (zo 6 rfl rfl rfl (zo 6 rfl rfl rfl (zo 6 rfl rfl rfl (zo 6 rfl rfl rfl (zo 6 rfl rfl rfl (zo 6 rfl rfl rfl (zp (.pickF rfl rfl) (zn ?_))))))))); clear h; intro a w h
  refine cW ?_
  refine Zk h rfl ?_
  refine gC h (ze (zS (zm rfl (za rfl (zn (zt ?_)))))); clear h; intro a w h
  have hcut := Zxw hw hm hz (.inl (by simpa using hc6))
  have hR : ∀ ad, Row ad (Jw (wds (Zt l))) = Row ad ((Jw l).take m) := by intro ad; rw [hcut, Jw, List.map_take]
  replace h := h.derive (R := Row _ (Jw (wds (Zt l)))) (fun X hX => by rw [hR]; exact Zed (hX _ List.mem_cons_self) m)
  have hl : m = (wds (Zt l)).length := by rw [hcut]; simp; omega
  refine Qk (Ψ := [Row _ (Jw (wds (Zt l)))]) h (Zd h rfl (.tmp rfl)) ⟨by rw [← hl], rfl⟩ ss
theorem Gv (n : Nat) (hs : (wds n).length ≤ 1099511627776) :
  Ctr Tryz.prog 166 [Vg n] [] (fun v Ψ => ∃ ad c, v = .slice ad (wds n).length c ∧ (wds n).length ≤ c ∧ Ψ = [Row ad (Jw (wds n))]) := by
 refine fn_intro func166 rfl ntmps166 nb ?_
 intro S w0 a hS h
 refine gC h (zS (zx rfl fun b1 => za rfl (zn (zs (zS (zp (.fA rfl Vy) (zd rfl mr isAgg9 sizeOf9 Xn ?_)))))))
 refine zp (.binOp rfl rfl (fun _ => Vl _ _ _ _ _)) (zn ?_); intro a w h
 refine cW ?_
 refine Zc h rfl (fun hc8 => ?_) (fun hc8 => ?_)
 ·
  skip
  have hn : n < 18446744073709551616 := Qt.1 (by simpa using hc8)
  refine gC h (zS (zp (.fA rfl Vj) (zd rfl mr isAgg36 sizeOf36 Xy ?_)))
  refine zp (Pure1.cast (v' := .int .u32 ((n % 4294967296 : Nat) : Int)) (.convert rfl (Yr _)) (by rw [Qi hn, Jg]; congr 1)) (zp (.fA rfl Vj) (zd rfl mr isAgg36 sizeOf36 Xy ?_))
  refine zp (.binOp rfl rfl (fun _ => by rw [Qi hn]; exact Yy _ _ _ n 32 dd)) (zp (Pure1.cast (v' := .int .u32 ((n / 4294967296 : Nat) : Int)) (.convert rfl (Yr _)) (by rw [Jg]; congr 1; omega)) (zB [(_, _), (_, _)] rfl (Zn3 _ _) fun b16 => ?_)); intro a w h
  replace h := h.shareAll hS (Jw [n % 4294967296, n / 4294967296]) rfl
  refine gL h (zf [_] rfl call168 (Qfe _ _ [n % 4294967296, n / 4294967296] (two_Wd n hn) ss ss) ?_); clear h; rintro v17 Ψ17 ⟨rfl, rfl⟩ a w h
  rw [Zvf n hn] at h
  refine gL h (za rfl (zn (zt ?_))); clear h; intro a w h
  refine Qk (Ψ := [Row _ (Jw (wds n))]) h (Zd h rfl (.tmp rfl)) ⟨_, _, rfl, Vs hn, rfl⟩ ss
 ·
  skip
  have hn : ¬ n < 18446744073709551616 := fun hn => by have := Qt.2 hn; simp [this] at hc8
  refine gC h (zk (zS (zp (.fA rfl Vy) (zd rfl mr isAgg9 sizeOf9 Xn ?_))))
  refine zp (.builtin [_] rfl (Zds _)) (zp (Pure1.cast (v' := .int .i64 ((wds n).length : Int)) (.binOp rfl rfl (fun _ => Ys _ _ _ _ _ dd)) (by rw [Zd5, if_neg hn]; rw [show ((4 : Int)) = ((4 : Nat) : Int) from rfl, Xp, wrap_i64 _ oo oo]; congr 1; omega)) ?_); intro a w h
  refine Zh (Xo h rfl rfl runUnderlying217 typeInfo23 sizeOf23 zeroValue23 rfl dd (Nat.le_refl _) (by show 4 * _ ≤ _; omega) oo dd ?_); clear h; intro b22 a w h
  rw [show (Value.int .u32 0).cells.toList = [Value.int .u32 0] from rfl, Zcz, show List.replicate (wds n).length (Value.int .u32 0) = Jw (Zbo (wds n) 0 0) from by rw [Zj9]; simp] at h
  refine gL h (za rfl (zn (zs (zS (zm rfl (zp (.builtin [_] rfl (Zj _ _ _)) (zm rfl (zn (zb ?_))))))))); clear h; intro a w h
  refine Zg (fun (i : Nat) a w => i ≤ (wds n).length ∧ St 51 S w0 [(1, pB b1), (3, .slice (some ⟨b22, 0, none⟩) (wds n).length (wds n).length), (24, .int .i64 ((wds n).length : Int)), (25, .int .i64 (i : Int))] [(b22, .cells (Jw (Zbo (wds n) i 0)).toArray 23 (0, 0)), (b1, .cells (Vg n).cells 38 (0, 0))] [] a w) (fun i => (wds n).length - i) (0) (⟨Nat.zero_le _, h.sub sA⟩) ?_; clear h
  rintro i a w ⟨hi, h⟩
  refine gC h (zS (zp (.lss rfl rfl) (zn (zs ?_)))); clear h; intro a w h
  refine Zc h rfl (fun hc26 => ?_) (fun hc26 => ?_)
  ·
   skip
   have hi' : i < (wds n).length := by simpa using hc26
   refine gC h (zk (zs (zb (zS (zm rfl (za rfl (zn (zS (zm rfl (zn (zb ?_))))))))))); clear h; intro a w h
   refine Zg (fun (k : Nat) a w => k ≤ 4 ∧ St 51 S w0 [(1, pB b1), (3, .slice (some ⟨b22, 0, none⟩) (wds n).length (wds n).length), (24, .int .i64 ((wds n).length : Int)), (25, .int .i64 (i : Int)), (4, .int .i64 (i : Int)), (28, .int .i64 (k : Int))] [(b22, .cells (Jw (Zbo (wds n) i k)).toArray 23 (0, 0)), (b1, .cells (Vg n).cells 38 (0, 0))] [] a w) (fun k => 4 - k) (0) (⟨oo, h.sub sA⟩) ?_; clear h
   rintro k a w ⟨hk, h⟩
   refine gC h (zS (zp (.lss rfl rfl) (zn (zs ?_)))); clear h; intro a w h
   refine Zc h rfl (fun hc29 => ?_) (fun hc29 => ?_)
   ·
    skip
    have hk' : k < 4 := by simp at hc29; omega
    refine gC h (zk (zs (zb (zS (zm rfl (za rfl (zn (yD Za [0, 1, 2, 3, 4, 5, 6, 7, 8, 9, 10, 11, 12, 13, 14, 15, 16, 17] (Zb kk) (ym rfl rfl (ym rfl rfl (yp rfl (.indexAddr rfl rfl (Qy _ _ _ _ _ oo)) (yd rfl rfl (by repeat (first | exact List.Mem.head _ | apply List.Mem.tail)) isAgg23 sizeOf23 ((Zx 0 (by rw [Zbu _ _ _ hi']; omega)).trans (by rw [Nat.zero_add, Zmz _ _ _ hi'])) ?_)))))))))))); clear h
    refine yp rfl (.fA rfl Vy) (yd rfl rfl mr isAgg9 sizeOf9 Xn ?_)
    refine ym rfl rfl (yp rfl (.mul rfl rfl) (ym rfl rfl (yp rfl (.pN (4 * i + k) (.add rfl rfl)) (yp rfl (Pure1.cast (v' := .int .u8 (((wds n).getD i 0 / 256 ^ k % 256 : Nat) : Int)) (.index rfl rfl (fun _ => Zcy runUnderlying9 _ _ (by rw [Zd5, if_neg hn]; omega))) (by rw [Zn4 hn hi' hk'])) (yp rfl (.convert rfl (Zst _ (wrap_u32 _ oo oo))) (ym rfl rfl (yp rfl (.pN (8 * k) (.mul rfl rfl)) (yp rfl (Pure1.cast (v' := .int .u32 (((wds n).getD i 0 / 256 ^ k % 256 * 2 ^ (8 * k) : Nat) : Int)) (.binOp rfl rfl (fun _ => Zcv _ _ _ _ _ (by show 8 * k ≤ 32; omega))) (by rw [wrap_u32 _ oo (by have := Zfj ((wds n).getD i 0 / 256 ^ k) k hk'; omega)])) (yp rfl (Pure1.cast (v' := .int .u32 (((wds n).getD i 0 % 256 ^ (k + 1) : Nat) : Int)) (.binOp rfl rfl (fun _ => Zfl rfl _ _ _ _ _ (Nat.lt_of_lt_of_le (Nat.mod_lt _ (Nat.pow_pos oo)) (Nat.le_trans (Nat.pow_le_pow_right oo (by omega : k ≤ 4)) dd)) (Zfj _ _ hk'))) (by rw [Zwf])) (yp rfl (.indexAddr rfl rfl (Qy _ _ _ _ _ oo)) (yt rfl rfl rfl ((Yx (Zbo (wds n) i k) (0 + i) ((wds n).getD i 0 % 256 ^ (k + 1))).trans (by rw [Nat.zero_add, Zmy _ _ _ _ hi'])) (by repeat (first | exact Upd.head | apply Upd.tail)) sizeOf23 rfl (by simp [Zbu _ _ _ hi']; omega) rfl ?_)))))))))))
    refine yn (zr (zp (.add rfl rfl) (zm rfl (zn ?_)))); intro a w h
    exact ⟨k + 1, ⟨oo, h.sub sA⟩, oo⟩
   ·
    skip
    have hk' : k = 4 := by simp at hc29; omega
    subst hk'
    rw [Zka _ _ hi' (Wd.wds n)] at h
    refine gC h (ze (zr (zp (.add rfl rfl) (zm rfl (zn ?_))))); clear h; intro a w h
    exact ⟨i + 1, ⟨oo, h.sub sA⟩, oo⟩
  ·
   skip
   have hi' : i = (wds n).length := by simp at hc26; omega
   refine gC h (ze (zS (zm rfl (za rfl (zn (zt ?_)))))); clear h; intro a w h
   subst hi'
   rw [Zm0] at h
   replace h := h.shareAll hS (Jw (wds n)) rfl
   refine Qk (Ψ := [Row _ (Jw (wds n))]) h (Zd h rfl (.tmp rfl)) ⟨_, _, rfl, Nat.le_refl _, rfl⟩ ss
end
section
theorem Zfe (x0 : Int) (w : World) : (Instr.build 38 [(0, .int .u64 x0)].toArray).run Tryz.prog w = .ok (.agg #[.int .u64 x0, .string ⟨#[]⟩]) w := by simp [go_sem]
theorem Qg {c0 c1 v0 v1 : Value} : Qu #[c0, c1] 0 [v0, v1] = #[v0, v1] := rfl
theorem Zn {c0 c1 : Value} : Qo true 2 #[c0, c1] 0 = some (.agg #[c0, c1]) := rfl
theorem Zl1 (w : World) : (Instr.build 38 [].toArray).run Tryz.prog w = .ok (.agg #[.int .u64 0, .string ⟨#[]⟩]) w := by simp [go_sem]
theorem Zsx (x : Int) (w : World) : (Go.convert 23 36 (.int .u32 x)).run Tryz.prog w = .ok (.int .u64 (IntKind.u64.wrap x)) w := by
 simp [go_sem]
theorem Ju (x : Int) (h0 : IntKind.u64.wrap x = x) (w : World) : (Go.convert 23 36 (.int .u32 x)).run Tryz.prog w = .ok (.int .u64 x) w := by
 rw [Zsx, h0]
theorem Zje (x : Int) (w : World) : (Go.convert 23 5 (.int .u32 x)).run Tryz.prog w = .ok (.int .u8 (IntKind.u8.wrap x)) w := by
 simp [go_sem]
theorem Zhq (x0 : Int) (x1 : Int) (x2 : Int) (x3 : Int) (w : World) : (Instr.buildSlice 193 4 [(0, .int .u8 x0), (1, .int .u8 x1), (2, .int .u8 x2), (3, .int .u8 x3)].toArray).run Tryz.prog w = .ok (.slice (some ⟨w.heap.size, 0, none⟩) 4 4) (w.alloc (.cells #[.int .u8 x0, .int .u8 x1, .int .u8 x2, .int .u8 x3] 5 (0, 0))) := by
 simp [go_sem]
theorem Qe0 (x1 : ByteArray) (w : World) : (Instr.build 38 [(1, .string x1)].toArray).run Tryz.prog w = .ok (.agg #[.int .u64 0, .string x1]) w := by simp [go_sem]
theorem Zk0 (X Y : Operand) (n m : Nat) (w : World) : (do eqGuard .eql 38 X Y (Vg n) (Vg m); Go.binOp .eql 38 (Vg n) (Vg m) : Sem Value).run Tryz.prog w = .ok (.bool (decide (n = m))) w := by
 simp [go_sem]
 have hb : ((Zan n).toList = (Zan m).toList) ↔ Zan n = Zan m := by have := Zcf (Zan n) (Zan m); rw [Bool.eq_iff_iff] at this; simpa using this
 by_cases h : n = m
 · subst h; simp
 ·
  have hne := fun h1 h2 => h (Zlr h1 h2)
  by_cases h1 : Zet n = Zet m
  · simp only [h, h1, hb, if_true, decide_false]; exact if_neg (hne h1)
  · simp [h, h1]
theorem C_Of (n : Nat) (hn : n < 18446744073709551616) : Yi Tryz.prog 164 [.int .u64 (n : Int)] (Vg n) := by
 refine fn_intro func164 rfl ntmps164 nb ?_
 intro S w0 a hS h
 refine gC h (zS (zz zeroValue38 fun b2 => zn (zS (zm rfl (zp (.build [(_, _)] rfl (Zfe _)) (zt' rfl rfl Qg uu sizeOf38 rfl nb rfl ?_)))))); clear h; intro a w h
 refine wpList_nil (wp_ret ?_)
 refine Jp h (Zd h rfl (.cell rfl mr isAgg38 sizeOf38 Zn)) ?_
 rw [Vg, Qi hn, Vi hn]
theorem Qcm (n : Nat) : Yi Tryz.prog 207 [Vg n] (.bool (decide (n = 0))) := by
 refine fn_intro func207 rfl ntmps207 nb ?_
 intro S w0 a hS h
 refine gC h (zS (zx rfl fun b1 => za rfl (zn (zS (zd rfl mr isAgg38 sizeOf38 Zn ?_)))))
 refine zp (Pure1.cast (v' := Vg 0) (.build [] rfl (Zl1)) (by rfl)) (zp (.binOp rfl rfl (fun _ => Zk0 _ _ n 0 _)) (za rfl (zn (zt ?_)))); intro a w h
 exact Zao h
theorem Qfd (ad : Option Addr) (c : Nat) (l : List Nat) (hw : Wd l) (hc : l.length ≤ c) (hs : l.length ≤ 1099511627776) :
  Zae Tryz.prog 188 [.slice ad l.length c] [Row ad (Jw l)] (Vg (Zt l)) := by
 refine fn_intro func188 rfl ntmps188 nb ?_
 intro S w0 a hS h
 refine gC h (zS (zz zeroValue38 fun b2 => zn (zS (zm rfl (zf [_] rfl call168 (Qfe ad c l hw hc hs) ?_))))); clear h; rintro v10 Ψ10 ⟨rfl, rfl⟩ a w h
 have hWd := Wd.wds (Zt l)
 have hV := Qv (Zt l)
 have hN : (wds (Zt l)).length ≤ 1099511627776 := Nat.le_trans (Zfh hw) hs
 have hNc : (wds (Zt l)).length ≤ c := Nat.le_trans (Zfh hw) hc
 generalize hWe : wds (Zt l) = W at h hWd hV hN hNc
 refine gL h (za rfl (zn (zs (zS (zm rfl (zp (.builtin [_] rfl (Zj _ _ _)) (zp (.leq rfl rfl) (zn ?_)))))))); clear h; intro a w h
 refine cW ?_
 refine Zc h rfl (fun hc13 => ?_) (fun hc13 => ?_)
 ·
  skip
  have h2 : W.length ≤ 2 := by simp at hc13; omega
  refine gC h (zS (za rfl (zn (zs (zS (zm rfl (zp (.builtin [_] rfl (Zj _ _ _)) (zm rfl (zn (zb ?_)))))))))); clear h; intro a w h
  refine Zg (fun (i : Nat) a w => i ≤ W.length ∧ St 59 S w0 [(2, pB b2), (3, .int .u64 (Zt (W.take i) : Int)), (14, .slice ad W.length c), (15, .int .i64 (W.length : Int)), (16, .int .i64 (i : Int))] [(b2, .cells (Vg 0).cells 38 (0, 0))] [Row ad (Jw W)] a w) (fun i => W.length - i) (0) (⟨Nat.zero_le _, (h.factsSub (by simp)).sub (Zff ⟨rfl, rfl, rfl, rfl, rfl, trivial⟩)⟩) ?_; clear h
  rintro i a w ⟨hi, h⟩
  refine gC h (zS (zp (.lss rfl rfl) (zn (zs ?_)))); clear h; intro a w h
  refine Zc h rfl (fun hc17 => ?_) (fun hc17 => ?_)
  ·
   skip
   have hi' : i < W.length := by simpa using hc17
   obtain ⟨b, off, had⟩ := h.row_addr List.mem_cons_self (by simp; intro e; subst e; simp at hi')
   subst had
   have hx := hWd.getD i
   refine gC h (zk (zs (zb (zS (zm rfl (zp (.indexAddr rfl rfl (Qy _ _ _ _ _ oo)) (zD rfl mm (by simp; omega) isAgg23 sizeOf23 (Zx 0 oo) (.inr rfl) ?_)))))))
   refine za rfl (za rfl (zn (zr (zm rfl (zm rfl (zp (.convert rfl (Ju _ (wrap_u64 _ oo oo))) (zm rfl (zp (.pN (32 * i) (.mul rfl rfl)) (zp (Pure1.cast (v' := .int .u64 ((W.getD i 0 * 2 ^ (32 * i) : Nat) : Int)) (.binOp rfl rfl (fun _ => Zcv _ _ _ _ _ (by show 32 * i ≤ 64; omega))) (by rw [wrap_u64 _ oo (by have := Zik _ i hx oo; omega)])) (zp (Pure1.cast (v' := .int .u64 ((Zt (W.take (i + 1)) : Nat) : Int)) (.binOp rfl rfl (fun _ => Zfl rfl _ _ _ _ _ (Nat.lt_of_lt_of_le (Zmp (hWd.take i) (by simp; omega)) dd) (Zik _ i hx oo))) (by rw [Qd0 _ _ hi' hWd])) (za rfl (zn (zr (zp (.add rfl rfl) (zm rfl (zn ?_)))))))))))))))); intro a w h
   exact ⟨i + 1, ⟨oo, h.sub sA⟩, oo⟩
  ·
   skip
   have hi' : i = W.length := by simp at hc17; omega
   refine gC h (ze (zS (zm rfl (zp (.build [(_, _)] rfl (Zfe _)) (zt' rfl rfl Qg uu sizeOf38 rfl nb rfl ?_))))); clear h; intro a w h
   refine wpList_nil (wp_ret ?_)
   refine Jp h (Zd h rfl (.cell rfl mr isAgg38 sizeOf38 Zn)) ?_
   have hlt := Zmp hWd h2; rw [hV] at hlt; subst hi'; rw [List.take_length, hV, Vg, Qi hlt, Vi hlt]
 ·
  skip
  have h2 : 2 < W.length := by simp at hc13; omega
  refine gC h (zk (zS (zm rfl (zp (.builtin [_] rfl (Zj _ _ _)) (zp (.pN (4 * W.length) (.mul rfl rfl)) ?_))))); clear h; intro a w h
  refine Zh (Xo h rfl rfl runUnderlying193 typeInfo5 sizeOf5 zeroValue5 rfl dd (by exact Nat.zero_le _) (by show 1 * _ ≤ _; omega) oo dd ?_); clear h; intro b34 a w h
  refine gL h (za rfl (zn (zs (zS (zm rfl (zp (.builtin [_] rfl (Zj _ _ _)) (zm rfl (zn (zb ?_))))))))); clear h; intro a w h
  refine Zg (fun (i : Nat) a w => i ≤ W.length ∧ ∃ v σ, Grow 1 5 v (4 * i) (u8s (bytesOf (W.take i))) σ [(b2, .cells (Vg 0).cells 38 (0, 0))] ∧ St 59 S w0 [(2, pB b2), (6, v), (35, .slice ad W.length c), (36, .int .i64 (W.length : Int)), (37, .int .i64 (i : Int))] σ [Row ad (Jw W)] a w) (fun i => W.length - i) (0) (⟨Nat.zero_le _, _, _, ⟨rfl, .inr ⟨b34, 4 * W.length, _, rfl, by simp [bytesOf, Zef, Value.cells], Nat.zero_le _, rfl⟩⟩, (h.factsSub (by simp)).sub (Zff ⟨rfl, rfl, rfl, rfl, rfl, trivial⟩)⟩) ?_; clear h
  rintro i a w ⟨hi, v, σ, hG, h⟩
  refine gC h (zS (zp (.lss rfl rfl) (zn (zs ?_)))); clear h; intro a w h
  refine Zc h rfl (fun hc38 => ?_) (fun hc38 => ?_)
  ·
   skip
   have hi' : i < W.length := by simpa using hc38
   obtain ⟨b, off, had⟩ := h.row_addr List.mem_cons_self (by simp; intro e; subst e; simp at hi')
   subst had
   have hx := hWd.getD i
   refine gC h (zk (zs (zb (zS (zp (.indexAddr rfl rfl (Qy _ _ _ _ _ oo)) (zD rfl mm (by simp; omega) isAgg23 sizeOf23 (Zx 0 oo) (.inr rfl) ?_))))))
   refine za rfl (zn (zr (zm rfl (zm rfl (zp (Pure1.cast (v' := .int .u8 ((W.getD i 0 % 256 : Nat) : Int)) (.convert rfl (Zje _)) (by rw [Zcs]; congr 1)) (zm rfl (zp (.binOp rfl rfl (fun _ => Yy _ _ _ _ 8 dd)) (zp (Pure1.cast (v' := .int .u8 ((W.getD i 0 / 2 ^ 8 % 256 : Nat) : Int)) (.convert rfl (Zje _)) (by rw [Zcs]; congr 1)) (zm rfl (zp (.binOp rfl rfl (fun _ => Yy _ _ _ _ 16 dd)) (zp (Pure1.cast (v' := .int .u8 ((W.getD i 0 / 2 ^ 16 % 256 : Nat) : Int)) (.convert rfl (Zje _)) (by rw [Zcs]; congr 1)) (zm rfl (zp (.binOp rfl rfl (fun _ => Yy _ _ _ _ 24 dd)) (zp (Pure1.cast (v' := .int .u8 ((W.getD i 0 / 2 ^ 24 % 256 : Nat) : Int)) (.convert rfl (Zje _)) (by rw [Zcs]; congr 1)) (zB [(_, _), (_, _), (_, _), (_, _)] rfl (Zhq _ _ _ _) fun b53 => ?_))))))))))))))); intro a w h
   refine Zh (Zwl h rfl rfl hG runUnderlying193 runUnderlying193 typeInfo5 sizeOf5 zeroValue5 rfl dd dd rfl rfl dd (by show 1 * _ ≤ _; omega) dd ?_); clear h hG; intro v σ a w hG h
   rw [Zuu _ _ hi'] at hG
   refine gL h (za rfl (zn (zr (zp (.add rfl rfl) (zm rfl (zn ?_)))))); clear h; intro a w h
   exact ⟨i + 1, ⟨oo, _, _, hG, h.sub sA⟩, oo⟩
  ·
   skip
   have hi' : i = W.length := by simp at hc38; omega
   refine gC h (ze (zS (zm rfl ?_))); clear h; intro a w h
   refine Zh (Zpc h rfl hG runUnderlying193 runUnderlying9 runUnderlying5 dd ?_); clear h; intro a h
   replace h := h.drop hG.sub
   refine gL h (zp (.build [(_, _)] rfl (Qe0 _)) (zt' rfl rfl Qg uu sizeOf38 rfl nb rfl ?_)); clear h; intro a w h
   refine wpList_nil (wp_ret ?_)
   refine Jp h (Zd h rfl (.cell rfl mr isAgg38 sizeOf38 Zn)) ?_
   have hlt : ¬ Zt l < 18446744073709551616 := Zop (by rw [hWe]; exact h2)
   subst hi'; rw [List.take_length, Vg, Zt2 hlt, Zep hlt, hWe]
end
section
theorem Qcf (x y : Int) (w : World) (ty : TypeId) (cs : Array Bool) : (Go.builtin .min #[3, 3] ty cs #[.int .i64 x, .int .i64 y]).run Tryz.prog w = .ok (.value (.int .i64 (min x y))) w := by
 simp [go_sem]; rw [Int.min_def]; split <;> split <;> omega
theorem Qcg (x y : Int) (w : World) (ty : TypeId) (cs : Array Bool) : (Go.builtin .max #[3, 3] ty cs #[.int .i64 x, .int .i64 y]).run Tryz.prog w = .ok (.value (.int .i64 (max x y))) w := by
 simp [go_sem]; rw [Int.max_def]; split <;> split <;> omega
theorem Qaz (x y c : Nat) (hc : c ≤ 1) (w : World) : (callFunc 204 #[.int .u64 (x : Int), .int .u64 (y : Int), .int .u64 (c : Int)]).run Tryz.prog w = .ok (.value (.tuple #[.int .u64 (((x + y + c) % 18446744073709551616 : Nat) : Int), .int .u64 (((x + y + c) / 18446744073709551616 : Nat) : Int)])) w :=
 Zvz func204 kk kk kk kk x y c hc w
theorem C_sign (n : Int) : Yi Tryz.prog 244 [.int .i64 n] (.int .i64 (max (-1) (min 1 n))) := by
 refine fn_intro func244 rfl ntmps244 nb ?_
 intro S w0 a hS h
 refine gC h (zS (za rfl (zn (zS (zm rfl (zp (.builtin [_, _] rfl (fun w ty cs => Qcf _ _ w ty cs)) (zp (.builtin [_, _] rfl (fun w ty cs => Qcg _ _ w ty cs)) (za rfl (zn (zt ?_)))))))))); clear h; intro a w h
 exact Zao h
theorem C_cmp (n m : Nat) (a1 : Option Addr) (c1 : Nat) (a2 : Option Addr) (c2 : Nat) (hn : (wds n).length ≤ 1099511627776) (hm : (wds m).length ≤ 1099511627776) :
  Zae Tryz.prog 230 [.slice a1 (wds n).length c1, .slice a2 (wds m).length c2] [Row a1 (Jw (wds n)), Row a2 (Jw (wds m))] (.int .i64 (Zjh n m)) := by
 refine fn_intro func230 rfl ntmps230 nb ?_
 intro S w0 a hS h
 refine gC h (zS (za rfl (zn (zs (zS (zm rfl (zp (.builtin [_] rfl (Zj _ _ _)) (zm rfl (zp (.builtin [_] rfl (Zj _ _ _)) (zp (.neq rfl rfl) (zn ?_))))))))))); clear h; intro a w h
 refine cW ?_
 refine Zc h rfl (fun hc10 => ?_) (fun hc10 => ?_)
 ·
  skip
  skip
  refine gC h (zS (zm rfl (zp (.builtin [_] rfl (Zj _ _ _)) (zm rfl (zp (.builtin [_] rfl (Zj _ _ _)) (zp (.sub rfl rfl) (zv [_] rfl call244 (C_sign _) (za rfl (zn (zt ?_)))))))))); clear h; intro a w h
  refine Jp h (Zd h rfl (.tmp rfl)) ?_
  unfold Zjh
  have hne : (wds n).length ≠ (wds m).length := natNe hc10
  rcases Nat.lt_or_gt_of_ne hne with h1 | h1
  · have := Zcd h1; rw [if_pos this]; congr 1; rw [Int.min_eq_right oo, Int.max_eq_left oo]
  · have h2 := Zcd h1; rw [if_neg oo, if_pos h2]; congr 1; rw [Int.min_eq_left oo]; rfl
 ·
  skip
  have hl : (wds n).length = (wds m).length := Qd2 hc10
  refine gC h (zk (zs (zS (zm rfl (zp (.builtin [_] rfl (Zj _ _ _)) (zp (.sub rfl rfl) (za rfl (zn (zb ?_))))))))); clear h; intro a w h
  refine Zg (fun (k : Nat) a w => k ≤ (wds n).length ∧ (wds n).drop k = (wds m).drop k ∧ St 42 S w0 [(0, .slice a1 (wds n).length c1), (1, .slice a2 (wds m).length c2), (5, .int .i64 ((k : Int) - 1))] [] [Row a1 (Jw (wds n)), Row a2 (Jw (wds m))] a w) (fun k => k) ((wds n).length) (⟨Nat.le_refl _, by rw [List.drop_eq_nil_of_le (Nat.le_refl _), hl, List.drop_eq_nil_of_le (Nat.le_refl _)], h.sub sA⟩) ?_; clear h
  rintro k a w ⟨hN, hd, h⟩
  refine gC h (zs (zS (zm rfl (zp (.geq rfl rfl) (zn ?_))))); clear h; intro a w h
  refine cW ?_
  refine Zc h rfl (fun hc21 => ?_) (fun hc21 => ?_)
  ·
   skip
   have hk : 0 < k := by simp at hc21; omega
   have hN' : k ≤ (wds m).length := hl ▸ hN
   obtain ⟨b1, o1, rfl⟩ := h.row_addr (ad := a1) (M := Jw (wds n)) List.mem_cons_self (by simp; intro e; rw [e] at hN; simp at hN; omega)
   obtain ⟨b2, o2, rfl⟩ := h.row_addr (ad := a2) (M := Jw (wds m)) (List.mem_cons_of_mem _ List.mem_cons_self) (by simp; intro e; rw [e] at hN'; simp at hN'; omega)
   refine gC h (zk (zs (zb (zs (yD Za [0, 1, 2, 3, 4, 5, 6, 7, 8] (Zb kk) (ym rfl rfl (yp rfl (.pO (k - 1) (.move rfl)) (yp rfl (.indexAddr rfl rfl (Qy _ _ _ _ _ oo)) ?_)))))))); clear h
   refine Zm rfl kk rfl mm (by simp; omega) isAgg23 sizeOf23 (Zx 0 oo) (.inr rfl) dd ?_
   refine ym rfl rfl (yp rfl (.pO (k - 1) (.move rfl)) (yp rfl (.indexAddr rfl rfl (Qy _ _ _ _ _ oo)) ?_))
   refine Zm rfl kk rfl mm (by simp; omega) isAgg23 sizeOf23 (Zx 0 oo) (.inr rfl) dd ?_
   refine yp rfl (.neq rfl rfl) (yn ?_); intro a w h
   refine cW ?_
   refine Zc h rfl (fun hc32 => ?_) (fun hc32 => ?_)
   ·
    skip
    skip
    refine gC h (zs (zs (yD Za [0, 1, 2, 3, 4, 5, 6, 7, 8] (Zb kk) (ym rfl rfl (yp rfl (.pO (k - 1) (.move rfl)) (yp rfl (.indexAddr rfl rfl (Qy _ _ _ _ _ oo)) ?_)))))); clear h
    refine Zm rfl kk rfl mm (by simp; omega) isAgg23 sizeOf23 (Zx 0 oo) (.inr rfl) dd ?_
    refine ym rfl rfl (yp rfl (.pO (k - 1) (.move rfl)) (yp rfl (.indexAddr rfl rfl (Qy _ _ _ _ _ oo)) ?_))
    refine Zm rfl kk rfl mm (by simp; omega) isAgg23 sizeOf23 (Zx 0 oo) (.inr rfl) dd ?_
    refine yp rfl (.lss rfl rfl) (yn ?_); intro a w h
    refine cW ?_
    refine Zc h rfl (fun hc41 => ?_) (fun hc41 => ?_)
    ·
     skip
     refine gC h (zS (za rfl (zn (zt ?_)))); clear h; intro a w h
     refine Jp h (Zd h rfl (.tmp rfl)) ?_
     have h1 : (wds n).getD (k - 1) 0 < (wds m).getD (k - 1) 0 := by simpa using hc41
     have h2 := Zqp (Wd.wds n) (Wd.wds m) h1 (by rw [Nat.sub_add_cancel hk]; exact hd)
     rw [Qv, Qv] at h2
     unfold Zjh; rw [if_pos h2]
    ·
     skip
     refine gC h (zk (zS (za rfl (zn (zt ?_))))); clear h; intro a w h
     refine Jp h (Zd h rfl (.tmp rfl)) ?_
     have h0 : (wds n).getD (k - 1) 0 ≠ (wds m).getD (k - 1) 0 := natNe hc32
     have h0' : ¬ (wds n).getD (k - 1) 0 < (wds m).getD (k - 1) 0 := by simpa using hc41
     have h1 : (wds m).getD (k - 1) 0 < (wds n).getD (k - 1) 0 := oo
     have h2 := Zqp (Wd.wds m) (Wd.wds n) h1 (by rw [Nat.sub_add_cancel hk]; exact hd.symm)
     rw [Qv, Qv] at h2
     unfold Zjh; rw [if_neg oo, if_pos h2]
   ·
    skip
    have he : (wds n).getD (k - 1) 0 = (wds m).getD (k - 1) 0 := Qd2 hc32
    refine gC h (zk (zr (zm rfl (zp (Pure1.cast (v' := .int .i64 (((k - 1 : Nat) : Int) - 1)) (.sub rfl rfl) (by show Value.int _ _ = Value.int _ _; congr 1; omega)) (za rfl (zn ?_)))))); clear h; intro a w h
    refine ⟨k - 1, ⟨oo, drop_step hl oo he (by rw [Nat.sub_add_cancel hk]; exact hd), h.sub sA⟩, oo⟩
  ·
   skip
   have hk : k = 0 := by simp at hc21; omega
   refine gC h (ze (zS (za rfl (zn (zt ?_))))); clear h; intro a w h
   refine Jp h (Zd h rfl (.tmp rfl)) ?_
   subst hk
   have e : n = m := by rw [← Qv n, ← Qv m]; simp at hd; rw [hd]
   unfold Zjh; rw [if_neg oo, if_neg oo]
theorem C_Cmp (n m : Nat) (hn : (wds n).length ≤ 1099511627776) (hm : (wds m).length ≤ 1099511627776) : Yi Tryz.prog 208 [Vg n, Vg m] (.int .i64 (Zjh n m)) := by
 refine fn_intro func208 rfl ntmps208 nb ?_
 intro S w0 a hS h
 refine gC h (zS (zx rfl fun b2 => zx rfl fun b3 => za rfl (zn (zs (zS (zp (.fA rfl Vy) (zd rfl mr isAgg9 sizeOf9 Xn ?_)))))))
 refine zp (.binOp rfl rfl (fun _ => Vl _ _ _ _ _)) (zm rfl ?_); intro a w h
 refine Zl h (fun hc8 h => ?_) (fun hc8 h => ?_)
 ·
  skip
  have ha : n < 18446744073709551616 := Qt.1 (by simpa using hc8)
  refine gL h (zq 8 rfl rfl (.fA rfl Vy) ?_); clear h; intro a w h
  refine Zv 8 h rfl rfl (Yz h rfl mr isAgg9 sizeOf9 Xn dd ?_); clear h; intro a h
  refine gL h (zq 8 rfl rfl (.binOp rfl rfl (fun _ => Vl _ _ _ _ _)) ?_); clear h; intro a w h
  refine Zl h (fun hc11 h => ?_) (fun hc11 h => ?_)
  ·
   skip
   have hb : m < 18446744073709551616 := Qt.1 (by simpa using hc11)
   refine gL h (zp (.pickT rfl rfl) (zn ?_)); clear h; intro a w h
   refine cW ?_
   refine Zp h rfl ?_
   refine gC h (zs (zb (zS (zp (.fA rfl Vj) (zd rfl mr isAgg36 sizeOf36 Xy ?_)))))
   refine zp (.fA rfl Vj) (zd rfl mr isAgg36 sizeOf36 Xy ?_)
   refine zp (.lss rfl rfl) ?_; intro a w h
   refine Zl h (fun hc18 h => ?_) (fun hc18 h => ?_)
   ·
    skip
    refine gL h (za rfl (zn ?_)); clear h; intro a w h
    refine cW ?_
    refine Zp h rfl ?_
    refine gC h (zS (za rfl (zn (zt ?_)))); clear h; intro a w h
    refine Jp h (Zd h rfl (.tmp rfl)) ?_
    rw [Qi ha, Qi hb] at hc18; have : n < m := by simpa using hc18
    unfold Zjh; rw [if_pos this]
   ·
    skip
    refine gL h (za rfl (zn ?_)); clear h; intro a w h
    refine cW ?_
    refine Zk h rfl ?_
    refine gC h (zS (zp (.fA rfl Vj) (zd rfl mr isAgg36 sizeOf36 Xy ?_)))
    refine zp (.fA rfl Vj) (zd rfl mr isAgg36 sizeOf36 Xy ?_)
    refine zp (.gtr rfl rfl) ?_; intro a w h
    refine Zl h (fun hc24 h => ?_) (fun hc24 h => ?_)
    ·
     skip
     refine gL h (za rfl (zn ?_)); clear h; intro a w h
     refine cW ?_
     refine Zp h rfl ?_
     refine gC h (zS (za rfl (zn (zt ?_)))); clear h; intro a w h
     refine Jp h (Zd h rfl (.tmp rfl)) ?_
     rw [Qi ha, Qi hb] at hc18 hc24; have h1 : m < n := by simpa using hc24
     unfold Zjh; rw [if_neg oo, if_pos h1]
    ·
     skip
     refine gL h (za rfl (zn ?_)); clear h; intro a w h
     refine cW ?_
     refine Zk h rfl ?_
     refine gC h (zk (zS (za rfl (zn (zt ?_))))); clear h; intro a w h
     refine Jp h (Zd h rfl (.tmp rfl)) ?_
     rw [Qi ha, Qi hb] at hc18 hc24; have h1 : ¬ m < n := by simpa using hc24
     have h2 : ¬ n < m := by simpa using hc18
     unfold Zjh; rw [if_neg h2, if_neg h1]
  ·
   skip
   have hb : ¬ m < 18446744073709551616 := fun hn => by have := Qt.2 hn; simp [this] at hc11
   refine gL h (zp (.pickT rfl rfl) (zn ?_)); clear h; intro a w h
   refine cW ?_
   refine Zk h rfl ?_
   refine gC h (zk (zs (yD Za [0, 2, 1, 3, 4, 5] (Zb kk) (yd rfl rfl mr isAgg38 sizeOf38 Zn ?_)))); clear h
   refine yd rfl rfl mr isAgg38 sizeOf38 Zn ?_
   refine yf [_] rfl rfl call166 (Gv n hn) ?_; rintro v26 Ψ26 ⟨a1, c1, rfl, hc1, rfl⟩
   refine yf [_] rfl rfl call166 (Gv m hm) ?_; rintro v28 Ψ28 ⟨a2, c2, rfl, hc2, rfl⟩
   refine yw [_, _] rfl rfl call230 (C_cmp n m a1 c1 a2 c2 hn hm) (yp rfl (.assign rfl) (yn (zt ?_))); intro a w h
   exact Zao h
 ·
  skip
  have ha : ¬ n < 18446744073709551616 := fun hn => by have := Qt.2 hn; simp [this] at hc8
  refine gL h (zo 8 rfl rfl rfl (zo 8 rfl rfl rfl (zo 8 rfl rfl rfl (zp (.pickF rfl rfl) (zn ?_))))); clear h; intro a w h
  refine cW ?_
  refine Zk h rfl ?_
  refine gC h (zk (zs (yD Za [0, 2, 1, 3, 4, 5] (Zb kk) (yd rfl rfl mr isAgg38 sizeOf38 Zn ?_)))); clear h
  refine yd rfl rfl mr isAgg38 sizeOf38 Zn ?_
  refine yf [_] rfl rfl call166 (Gv n hn) ?_; rintro v26 Ψ26 ⟨a1, c1, rfl, hc1, rfl⟩
  refine yf [_] rfl rfl call166 (Gv m hm) ?_; rintro v28 Ψ28 ⟨a2, c2, rfl, hc2, rfl⟩
  refine yw [_, _] rfl rfl call230 (C_cmp n m a1 c1 a2 c2 hn hm) (yp rfl (.assign rfl) (yn (zt ?_))); intro a w h
  exact Zao h
theorem Zy9 (x y c : Nat) (hx : x < 4294967296) (hy : y < 4294967296) (hc : c ≤ 1) :
  Yi Tryz.prog 205 [.int .u32 (x : Int), .int .u32 (y : Int), .int .u32 (c : Int)] (.tuple #[.int .u32 (((x + y + c) % 4294967296 : Nat) : Int), .int .u32 (((x + y + c) / 4294967296 : Nat) : Int)]) := by
 refine fn_intro func205 rfl ntmps205 nb ?_
 intro S w0 a hS h
 refine gC h (zS (za rfl (za rfl (zn (zS (zm rfl (zp (.convert rfl (Ju _ (wrap_u64 _ oo oo))) (zm rfl (zp (.convert rfl (Ju _ (wrap_u64 _ oo oo))) (zp (.binOp rfl rfl (fun _ => Zh2 _ _ _ _ _ (wrap_u64 _ oo oo))) (zm rfl (zp (.convert rfl (Ju _ (wrap_u64 _ oo oo))) (zp (Pure1.cast (v' := .int .u64 ((x + y + c : Nat) : Int)) (.binOp rfl rfl (fun _ => Zh2 _ _ _ _ _ (wrap_u64 _ oo oo))) (by show Value.int _ _ = Value.int _ _; congr 1)) (za rfl (zn (zS (zm rfl (zp (Pure1.cast (v' := .int .u32 (((x + y + c) % 4294967296 : Nat) : Int)) (.convert rfl (Yr _)) (by rw [Jg]; congr 1)) (za rfl (zn (zS (zm rfl (zp (.binOp rfl rfl (fun _ => Yy _ _ _ _ 32 dd)) (zp (Pure1.cast (v' := .int .u32 (((x + y + c) / 4294967296 : Nat) : Int)) (.convert rfl (Yr _)) (by rw [Jg]; congr 1; omega)) (za rfl (zn (zt ?_))))))))))))))))))))))))))); clear h; intro a w h
 refine Jp h (Jv h rfl (.tmp rfl) (.tmp rfl)) ?_
 rfl
theorem Zqi (x y c : Nat) (hx : x < 4294967296) (hy : y < 4294967296) (hc : c ≤ 1) :
  Yi Tryz.prog 210 [.int .u32 (x : Int), .int .u32 (y : Int), .int .u32 (c : Int)] (.tuple #[.int .u32 (((x + 8589934592 - y - c) % 4294967296 : Nat) : Int), .int .u32 ((if x < y + c then 1 else 0 : Nat) : Int)]) := by
 refine fn_intro func210 rfl ntmps210 nb ?_
 intro S w0 a hS h
 refine gC h (zS (za rfl (za rfl (zn (zS (zm rfl (zm rfl (zp (.binOp rfl rfl (fun _ => Ze2 _ _ _ _ _)) (zm rfl (zp (Pure1.cast (v' := .int .u32 (((x + 8589934592 - y - c) % 4294967296 : Nat) : Int)) (.binOp rfl rfl (fun _ => Ze2 _ _ _ _ _)) (by rw [Jg, Jg]; congr 1; omega)) (za rfl (zn (zS (zm rfl (zp (.unOp rfl (fun _ => Zmu _ hx)) (zm rfl (zp (.binOp rfl rfl (fun _ => Zim rfl _ _ _ _ _ (by show _ < 4294967296; omega) hy)) (zm rfl (zm rfl (zp (.binOp rfl rfl (fun _ => Zvv rfl _ _ _ _ _ hx hy)) (zp (.unOp rfl (fun _ => Zmu _ (Nat.xor_lt_two_pow (n := 32) hx hy))) (zm rfl (zp (.binOp rfl rfl (fun _ => Zim rfl _ _ _ _ _ (by show _ < 4294967296; omega) (by show _ < 4294967296; omega))) (zp (.binOp rfl rfl (fun _ => Zfl rfl _ _ _ _ _ (Nat.lt_of_le_of_lt Nat.and_le_right hy) (Nat.lt_of_le_of_lt Nat.and_le_right (by show _ < 4294967296; omega)))) (zp (Pure1.cast (v' := .int .u32 ((if x < y + c then 1 else 0 : Nat) : Int)) (.binOp rfl rfl (fun _ => Yy _ _ _ _ 31 dd)) (by rw [Ztn x y c hx hy hc])) (za rfl (zn (zt ?_)))))))))))))))))))))))))))); clear h; intro a w h
 refine Jp h (Jv h rfl (.tmp rfl) (.tmp rfl)) ?_
 rfl
end
section
theorem Qbj (n : Nat) (hbig : ¬ n < 18446744073709551616) (hs : (wds n).length ≤ 1099511627776) :
  Zkr Tryz.prog 166 [Vg n] [] (fun v σn => ∃ b, v = .slice (some ⟨b, 0, none⟩) (wds n).length (wds n).length ∧ σn = [(b, .cells (Jw (wds n)).toArray 23 (0, 0))]) := by
 refine fn_introO func166 rfl ntmps166 nb ?_
 intro S w0 a hS h
 refine gC h (zS (zx rfl fun b1 => za rfl (zn (zs (zS (zp (.fA rfl Vy) (zd rfl mr isAgg9 sizeOf9 Xn ?_)))))))
 refine zp (.binOp rfl rfl (fun _ => Vl _ _ _ _ _)) (zn ?_); intro a w h
 refine cW ?_
 refine Zc h rfl (fun hc8 => (by exfalso; exact hbig (Qt.1 (by simpa using hc8)))) (fun hc8 => ?_)
 refine gC h (zk (zS (zp (.fA rfl Vy) (zd rfl mr isAgg9 sizeOf9 Xn ?_))))
 have hn : ¬ n < 18446744073709551616 := hbig
 refine zp (.builtin [_] rfl (Zds _)) (zp (Pure1.cast (v' := .int .i64 ((wds n).length : Int)) (.binOp rfl rfl (fun _ => Ys _ _ _ _ _ dd)) (by rw [Zd5, if_neg hn]; rw [show ((4 : Int)) = ((4 : Nat) : Int) from rfl, Xp, wrap_i64 _ oo oo]; congr 1; omega)) ?_); intro a w h
 refine Zh (Xo h rfl rfl runUnderlying217 typeInfo23 sizeOf23 zeroValue23 rfl dd (Nat.le_refl _) (by show 4 * _ ≤ _; omega) oo dd ?_); clear h; intro b22 a w h
 rw [show (Value.int .u32 0).cells.toList = [Value.int .u32 0] from rfl, Zcz, show List.replicate (wds n).length (Value.int .u32 0) = Jw (Zbo (wds n) 0 0) from by rw [Zj9]; simp] at h
 refine gL h (za rfl (zn (zs (zS (zm rfl (zp (.builtin [_] rfl (Zj _ _ _)) (zm rfl (zn (zb ?_))))))))); clear h; intro a w h
 refine Zg (fun (i : Nat) a w => i ≤ (wds n).length ∧ St 51 S w0 [(1, pB b1), (3, .slice (some ⟨b22, 0, none⟩) (wds n).length (wds n).length), (24, .int .i64 ((wds n).length : Int)), (25, .int .i64 (i : Int))] [(b22, .cells (Jw (Zbo (wds n) i 0)).toArray 23 (0, 0)), (b1, .cells (Vg n).cells 38 (0, 0))] [] a w) (fun i => (wds n).length - i) (0) (⟨Nat.zero_le _, h.sub sA⟩) ?_; clear h
 rintro i a w ⟨hi, h⟩
 refine gC h (zS (zp (.lss rfl rfl) (zn (zs ?_)))); clear h; intro a w h
 refine Zc h rfl (fun hc26 => ?_) (fun hc26 => ?_)
 ·
  skip
  have hi' : i < (wds n).length := by simpa using hc26
  refine gC h (zk (zs (zb (zS (zm rfl (za rfl (zn (zS (zm rfl (zn (zb ?_))))))))))); clear h; intro a w h
  refine Zg (fun (k : Nat) a w => k ≤ 4 ∧ St 51 S w0 [(1, pB b1), (3, .slice (some ⟨b22, 0, none⟩) (wds n).length (wds n).length), (24, .int .i64 ((wds n).length : Int)), (25, .int .i64 (i : Int)), (4, .int .i64 (i : Int)), (28, .int .i64 (k : Int))] [(b22, .cells (Jw (Zbo (wds n) i k)).toArray 23 (0, 0)), (b1, .cells (Vg n).cells 38 (0, 0))] [] a w) (fun k => 4 - k) (0) (⟨oo, h.sub sA⟩) ?_; clear h
  rintro k a w ⟨hk, h⟩
  refine gC h (zS (zp (.lss rfl rfl) (zn (zs ?_)))); clear h; intro a w h
  refine Zc h rfl (fun hc29 => ?_) (fun hc29 => ?_)
  ·
   skip
   have hk' : k < 4 := by simp at hc29; omega
   refine gC h (zk (zs (zb (zS (zm rfl (za rfl (zn (yD Za [0, 1, 2, 3, 4, 5, 6, 7, 8, 9, 10, 11, 12, 13, 14, 15, 16, 17] (Zb kk) (ym rfl rfl (ym rfl rfl (yp rfl (.indexAddr rfl rfl (Qy _ _ _ _ _ oo)) (yd rfl rfl (by repeat (first | exact List.Mem.head _ | apply List.Mem.tail)) isAgg23 sizeOf23 ((Zx 0 (by rw [Zbu _ _ _ hi']; omega)).trans (by rw [Nat.zero_add, Zmz _ _ _ hi'])) ?_)))))))))))); clear h
   refine yp rfl (.fA rfl Vy) (yd rfl rfl mr isAgg9 sizeOf9 Xn ?_)
   refine ym rfl rfl (yp rfl (.mul rfl rfl) (ym rfl rfl (yp rfl (.pN (4 * i + k) (.add rfl rfl)) (yp rfl (Pure1.cast (v' := .int .u8 (((wds n).getD i 0 / 256 ^ k % 256 : Nat) : Int)) (.index rfl rfl (fun _ => Zcy runUnderlying9 _ _ (by rw [Zd5, if_neg hn]; omega))) (by rw [Zn4 hn hi' hk'])) (yp rfl (.convert rfl (Zst _ (wrap_u32 _ oo oo))) (ym rfl rfl (yp rfl (.pN (8 * k) (.mul rfl rfl)) (yp rfl (Pure1.cast (v' := .int .u32 (((wds n).getD i 0 / 256 ^ k % 256 * 2 ^ (8 * k) : Nat) : Int)) (.binOp rfl rfl (fun _ => Zcv _ _ _ _ _ (by show 8 * k ≤ 32; omega))) (by rw [wrap_u32 _ oo (by have := Zfj ((wds n).getD i 0 / 256 ^ k) k hk'; omega)])) (yp rfl (Pure1.cast (v' := .int .u32 (((wds n).getD i 0 % 256 ^ (k + 1) : Nat) : Int)) (.binOp rfl rfl (fun _ => Zfl rfl _ _ _ _ _ (Nat.lt_of_lt_of_le (Nat.mod_lt _ (Nat.pow_pos oo)) (Nat.le_trans (Nat.pow_le_pow_right oo (by omega : k ≤ 4)) dd)) (Zfj _ _ hk'))) (by rw [Zwf])) (yp rfl (.indexAddr rfl rfl (Qy _ _ _ _ _ oo)) (yt rfl rfl rfl ((Yx (Zbo (wds n) i k) (0 + i) ((wds n).getD i 0 % 256 ^ (k + 1))).trans (by rw [Nat.zero_add, Zmy _ _ _ _ hi'])) (by repeat (first | exact Upd.head | apply Upd.tail)) sizeOf23 rfl (by simp [Zbu _ _ _ hi']; omega) rfl ?_)))))))))))
   refine yn (zr (zp (.add rfl rfl) (zm rfl (zn ?_)))); intro a w h
   exact ⟨k + 1, ⟨oo, h.sub sA⟩, oo⟩
  ·
   skip
   have hk' : k = 4 := by simp at hc29; omega
   subst hk'
   rw [Zka _ _ hi' (Wd.wds n)] at h
   refine gC h (ze (zr (zp (.add rfl rfl) (zm rfl (zn ?_))))); clear h; intro a w h
   exact ⟨i + 1, ⟨oo, h.sub sA⟩, oo⟩
 ·
  skip
  have hi' : i = (wds n).length := by simp at hc26; omega
  refine gC h (ze (zS (zm rfl (za rfl (zn (zt ?_)))))); clear h; intro a w h
  subst hi'
  rw [Zm0] at h
  refine Zq3 h (Zd h rfl (.tmp rfl)) ⟨b22, rfl, rfl⟩ sl
theorem Zve (l : List Nat) : (Jw l).all flat = true := by simp [flat]
theorem Zxy (X : List Nat) : Qu (Jw (List.replicate (X.length + 1) 0)).toArray 0 (Jw X) = (Jw (X ++ [0])).toArray := by
 rw [Zo3 _ _ ss]
 simp
theorem C_Add (n m : Nat) (hn : (wds n).length ≤ 1000000000000) (hm : (wds m).length ≤ 1000000000000) : Yi Tryz.prog 171 [Vg n, Vg m] (Vg (n + m)) := by
 refine fn_intro func171 rfl ntmps171 nb ?_
 intro S w0 a hS h
 refine gC h (zS (zx rfl fun b2 => zx rfl fun b3 => zz zeroValue38 fun b4 => zn ?_)); clear h; intro a w h
 refine cW ?_
 refine Za5 (fun a w => St 80 S w0 [(2, pB b2), (3, pB b3), (4, pB b4)] [(b4, .cells (Vg 0).cells 38 (0, 0)), (b3, .cells (Vg m).cells 38 (0, 0)), (b2, .cells (Vg n).cells 38 (0, 0))] [] a w) ?_ ?_
 ·
  skip
  refine gC h (zS (zp (.fA rfl Vy) (zd rfl mr isAgg9 sizeOf9 Xn ?_)))
  refine zp (.binOp rfl rfl (fun _ => Vl _ _ _ _ _)) (zm rfl ?_); intro a w h
  refine Zl h (fun hc16 h => ?_) (fun hc16 h => ?_)
  ·
   skip
   have ha : n < 18446744073709551616 := Qt.1 (by simpa using hc16)
   refine gL h (zq 16 rfl rfl (.fA rfl Vy) ?_); clear h; intro a w h
   refine Zv 16 h rfl rfl (Yz h rfl mr isAgg9 sizeOf9 Xn dd ?_); clear h; intro a h
   refine gL h (zq 16 rfl rfl (.binOp rfl rfl (fun _ => Vl _ _ _ _ _)) ?_); clear h; intro a w h
   refine Zl h (fun hc19 h => ?_) (fun hc19 h => ?_)
   ·
    skip
    have hb : m < 18446744073709551616 := Qt.1 (by simpa using hc19)
    refine gL h (zp (.pickT rfl rfl) (zn ?_)); clear h; intro a w h
    refine cW ?_
    refine Zp h rfl ?_
    refine gC h (zS (zp (.fA rfl Vj) (zd rfl mr isAgg36 sizeOf36 Xy ?_)))
    refine zp (.fA rfl Vj) (zd rfl mr isAgg36 sizeOf36 Xy ?_)
    refine zp (.extern [_, _, _] rfl (fun w => by rw [Qi ha, Qi hb]; exact Qaz n m 0 dd w)) (zm rfl (zp (.eX rfl) (zp (.eX rfl) (za rfl (za rfl (zn (zS (zm rfl (zp (.eql rfl rfl) (zn ?_)))))))))); intro a w h
    refine cW ?_
    refine Zc h rfl (fun hc30 => ?_) (fun hc30 => ?_)
    ·
     skip
     have hsum : n + m < 18446744073709551616 := by simp at hc30; omega
     refine gC h (zS (zm rfl (zp (.build [(_, _)] rfl (Zfe _)) (zt' rfl rfl Qg uu sizeOf38 rfl nb rfl ?_)))); clear h; intro a w h
     refine wpList_nil (wp_ret ?_)
     refine Jp h (Zd h rfl (.cell rfl mr isAgg38 sizeOf38 Zn)) ?_
     have e : (n + m + 0) % 18446744073709551616 = n + m := oo
     rw [e, Vg, Qi hsum, Vi hsum]
    ·
     skip
     refine wp_skip ?_
     exact h.sub sA
   ·
    skip
    have hb : ¬ m < 18446744073709551616 := fun hn => by have := Qt.2 hn; simp [this] at hc19
    refine gL h (zp (.pickT rfl rfl) (zn ?_)); clear h; intro a w h
    refine cW ?_
    refine Zk h rfl ?_
    refine wp_skip ?_
    exact h.sub sA
  ·
   skip
   have ha : ¬ n < 18446744073709551616 := fun hn => by have := Qt.2 hn; simp [this] at hc16
   refine gL h (zo 16 rfl rfl rfl (zo 16 rfl rfl rfl (zo 16 rfl rfl rfl (zp (.pickF rfl rfl) (zn ?_))))); clear h; intro a w h
   refine cW ?_
   refine Zk h rfl ?_
   refine wp_skip ?_
   exact h.sub sA
 ·
  clear h
  intro a w h
  refine gC h (zs (yD Za [0, 2, 1, 3, 4, 5] (Zb kk) (yd rfl rfl mr isAgg38 sizeOf38 Zn ?_))); clear h
  refine yd rfl rfl mr isAgg38 sizeOf38 Zn ?_
  refine yf [_] rfl rfl call166 (Gv n oo) ?_; rintro v34 Ψ34 ⟨a1, c1, rfl, hc1, rfl⟩
  refine yf [_] rfl rfl call166 (Gv m oo) ?_; rintro v36 Ψ36 ⟨a2, c2, rfl, hc2, rfl⟩
  refine yp rfl (.assign rfl) (yp rfl (.assign rfl) (yn ?_)); intro a w h
  refine cW ?_
  refine Za5 (fun a w => ∃ X Y aX cX aY cY, Y.length ≤ X.length ∧ X.length ≤ 1000000000000 ∧ X.length ≤ cX ∧ Y.length ≤ cY ∧ Wd X ∧ Wd Y ∧ Zt X + Zt Y = n + m ∧ St 80 S w0 [(4, pB b4), (7, .slice aX X.length cX), (8, .slice aY Y.length cY)] [(b4, .cells (Vg 0).cells 38 (0, 0))] [Row aX (Jw X), Row aY (Jw Y)] a w) ?_ ?_
  ·
   skip
   refine gC h (zS (zm rfl (zp (.builtin [_] rfl (Zj _ _ _)) (zm rfl (zp (.builtin [_] rfl (Zj _ _ _)) (zp (.lss rfl rfl) (zn ?_))))))); clear h; intro a w h
   refine cW ?_
   refine Zc h rfl (fun hc41 => ?_) (fun hc41 => ?_)
   ·
    skip
    have hlen : (wds n).length < (wds m).length := by simpa using hc41
    refine gC h (zr (zm rfl (zm rfl (za rfl (za rfl (zn ?_)))))); clear h; intro a w h
    exact ⟨wds m, wds n, _, _, _, _, oo, hm, hc2, hc1, Wd.wds _, Wd.wds _, by rw [Qv, Qv]; omega, ((h.drop (List.Sublist.cons_cons _ (List.nil_sublist _))).factsSub (by simp)).sub (Zff ⟨rfl, rfl, rfl, trivial⟩)⟩
   ·
    skip
    have hlen : (wds m).length ≤ (wds n).length := by simpa using hc41
    refine wp_skip ?_
    exact ⟨wds n, wds m, _, _, _, _, oo, hn, hc1, hc2, Wd.wds _, Wd.wds _, by rw [Qv, Qv], ((h.drop (List.Sublist.cons_cons _ (List.nil_sublist _))).factsSub (by simp)).sub (Zff ⟨rfl, rfl, rfl, trivial⟩)⟩
  ·
   clear h
   rintro a w ⟨X, Y, aX, cX, aY, cY, hYX, hX12, hXc, hYc, hX, hY, hV, h⟩
   refine gC h (zS (zm rfl (zp (.builtin [_] rfl (Zj _ _ _)) (zp (.pN (X.length + 1) (.add rfl rfl)) ?_)))); clear h; intro a w h
   refine Zh (Xo h rfl rfl runUnderlying217 typeInfo23 sizeOf23 zeroValue23 rfl dd (by exact Nat.le_refl _) (by show 4 * _ ≤ _; omega) oo dd ?_); clear h; intro b47 a w h
   rw [show (Value.int .u32 0).cells.toList = [Value.int .u32 0] from rfl, Zcz, show List.replicate (X.length + 1) (Value.int .u32 0) = Jw (List.replicate (X.length + 1) 0) from by simp] at h
   refine gL h (za rfl (zn (zS (zm rfl (zm rfl ?_))))); clear h; intro a w h
   refine Zh (Zt0 h rfl rfl (M := Jw X) ss ss runUnderlying217 sizeOf23 oo dd (Zxy X) (by repeat (first | exact Upd.head | apply Upd.tail)) ss (Zve X) dd ?_); clear h; intro a w h
   rw [show X.length + 1 = (X ++ [0]).length from by simp] at h
   refine gL h (zn (zS (za rfl (zn (zs (zS (zm rfl (zp (.builtin [_] rfl (Zj _ _ _)) (zm rfl (zn (zb ?_))))))))))); clear h; intro a w h
   refine Zg (fun (i : Nat) a w => ∃ Z c, i ≤ Z.length ∧ Z.length = X.length + 1 ∧ Wd Z ∧ c ≤ 1 ∧ Zt Z + 4294967296 ^ i * (c + Zt (Y.drop i)) = n + m ∧ St 80 S w0 [(4, pB b4), (8, .slice aY Y.length cY), (9, .slice (some ⟨b47, 0, none⟩) Z.length Z.length), (10, .int .u32 (c : Int)), (52, .int .i64 (Z.length : Int)), (53, .int .i64 (i : Int))] [(b47, .cells (Jw Z).toArray 23 (0, 0)), (b4, .cells (Vg 0).cells 38 (0, 0))] [Row aY (Jw Y)] a w) (fun i => X.length + 1 - i) (0) (⟨X ++ [0], 0, Nat.zero_le _, by simp, hX.append (Wd.zeros 1), oo, by rw [Xj]; simp [Zt]; omega, (h.factsSub (by simp)).sub (Zff ⟨rfl, rfl, rfl, rfl, rfl, rfl, trivial⟩)⟩) ?_; clear h
   rintro i a w ⟨Z, c, hi, hZl, hZ, hc, hT, h⟩
   refine gC h (zS (zp (.lss rfl rfl) (zn (zs ?_)))); clear h; intro a w h
   refine Zc h rfl (fun hc54 => ?_) (fun hc54 => ?_)
   ·
    skip
    have hi' : i < Z.length := by simpa using hc54
    refine gC h (zk (zs (zb (zS (zm rfl (za rfl (zn (zS (za rfl (zn ?_)))))))))); clear h; intro a w h
    refine cW ?_
    refine Za5 (fun a w => St 80 S w0 [(4, pB b4), (8, .slice aY Y.length cY), (9, .slice (some ⟨b47, 0, none⟩) Z.length Z.length), (10, .int .u32 (c : Int)), (11, .int .i64 (i : Int)), (12, .int .u32 (Y.getD i 0 : Int)), (52, .int .i64 (Z.length : Int)), (53, .int .i64 (i : Int))] [(b47, .cells (Jw Z).toArray 23 (0, 0)), (b4, .cells (Vg 0).cells 38 (0, 0))] [Row aY (Jw Y)] a w) ?_ ?_
    ·
     skip
     refine gC h (zS (zm rfl (zm rfl (zp (.builtin [_] rfl (Zj _ _ _)) (zp (.lss rfl rfl) (zn ?_)))))); clear h; intro a w h
     refine cW ?_
     refine Zc h rfl (fun hc59 => ?_) (fun hc59 => ?_)
     ·
      skip
      have hlt : i < Y.length := by simpa using hc59
      obtain ⟨bY, bYo, bYe⟩ := h.row_addr (ad := aY) (M := Jw Y) ss (by simp; intro e; simp [e] at hlt)
      subst bYe
      refine gC h (zr (zm rfl (zm rfl (zp (.indexAddr rfl rfl (Qy _ _ _ _ _ oo)) (zD rfl mm (by simp; omega) isAgg23 sizeOf23 (Zx 0 oo) (.inr rfl) ?_)))))
      refine za rfl (zn ?_); intro a w h
      exact h.sub sA
     ·
      skip
      have hlt : Y.length ≤ i := by simpa using hc59
      refine wp_skip ?_
      rw [Vb hlt]
      exact h.sub sA
    ·
     clear h
     intro a w h
     refine gC h (zr (zm rfl (zm rfl (zm rfl (zm rfl (zp (.indexAddr rfl rfl (Qy _ _ _ _ _ oo)) (zd rfl mm isAgg23 sizeOf23 ((Zx 0 (by rw [Nat.zero_add]; omega)).trans (by rw [Nat.zero_add])) ?_)))))))
     refine zm rfl (zm rfl (zv [_, _, _] rfl call205 (Zy9 _ _ _ (hZ.getD i) (hY.getD i) hc) (zm rfl (zp (.eX rfl) (zp (.eX rfl) (zp (.indexAddr rfl rfl (Qy _ _ _ _ _ oo)) (zt' rfl rfl ((Yx Z (0 + i) ((Z.getD i 0 + Y.getD i 0 + c) % 4294967296)).trans (by rw [Nat.zero_add])) uu sizeOf23 rfl (by simp; omega) rfl ?_)))))))
     refine za rfl (zn (zr (zp (.add rfl rfl) (zm rfl (zn ?_))))); intro a w h
     refine ⟨i + 1, ⟨Z.set i ((Z.getD i 0 + Y.getD i 0 + c) % 4294967296), _, by simp; omega, by simpa using hZl, hZ.set _ _ (Nat.mod_lt _ dd), ?_, Zl4 hi' hT, by rw [List.length_set]; exact h.sub sA⟩, oo⟩
     have hz := hZ.getD i
     have hy := hY.getD i
     omega
   ·
    skip
    have hi' : i = Z.length := by simp at hc54; omega
    refine wp_exit (wp_seq (wp_region_lit ?_))
    replace h := h.shareAll hS (Jw Z) rfl
    refine gL h (zm rfl (zw [_] rfl call188 (Qfd _ _ Z hZ (Nat.le_refl _) oo) (zt' rfl rfl Qg uu sizeOf38 rfl nb rfl ?_))); clear h; intro a w h
    refine wpList_nil (wp_ret ?_)
    refine Jp h (Zd h rfl (.cell rfl mr isAgg38 sizeOf38 Zn)) ?_
    rw [hi'] at hT
    have e : Zt Z = n + m := Qe2 (N := Z.length) (c := c) (by rw [List.drop_eq_nil_of_le oo] at hT; simpa [Zt] using hT) (by rw [← hV, hZl]; exact add_lt hX hY hYX)
    rw [e]
end
section
theorem Zhp (x0 : Int) (x1 : Int) (x2 : Int) (x3 : Int) (w : World) : (Instr.buildSlice 217 4 [(0, .int .u32 x0), (1, .int .u32 x1), (2, .int .u32 x2), (3, .int .u32 x3)].toArray).run Tryz.prog w = .ok (.slice (some ⟨w.heap.size, 0, none⟩) 4 4) (w.alloc (.cells #[.int .u32 x0, .int .u32 x1, .int .u32 x2, .int .u32 x3] 23 (0, 0))) := by
 simp [go_sem]
theorem Qff (n m : Nat) (hn : (wds n).length ≤ 1000000000000) (hm : (wds m).length ≤ 1000000000000) : Yi Tryz.prog 186 [Vg n, Vg m] (.tuple #[Vg (n - m), .bool (decide (m ≤ n))]) := by
 refine fn_intro func186 rfl ntmps186 nb ?_
 intro S w0 a hS h
 refine gC h (zS (zx rfl fun b2 => zx rfl fun b3 => zz zeroValue38 fun b4 => za rfl (zn (zs (zS (zd rfl mr isAgg38 sizeOf38 Zn ?_))))))
 refine zd rfl mr isAgg38 sizeOf38 Zn ?_
 refine zv [_, _] rfl call208 (C_Cmp n m oo oo) (zp (.lss rfl rfl) (zn ?_)); intro a w h
 refine cW ?_
 refine Zc h rfl (fun hc14 => ?_) (fun hc14 => ?_)
 ·
  skip
  have hlt : n < m := by rw [Zib] at hc14; simpa using hc14
  refine gC h (zS (zp (.build [] rfl (Zl1)) (zt' rfl rfl Qg uu sizeOf38 rfl nb rfl ?_)))
  refine za rfl (zn (zt ?_)); intro a w h
  refine Jp h (Jv h rfl (.cell rfl mr isAgg38 sizeOf38 Zn) (.tmp rfl)) ?_
  rw [show n - m = 0 by omega, show decide (m ≤ n) = false from decide_eq_false oo]; rfl
 ·
  skip
  have hle : m ≤ n := by rw [Zib] at hc14; simpa using hc14
  refine gC h (zk (zs (zS (zp (.fA rfl Vy) (zd rfl mr isAgg9 sizeOf9 Xn ?_)))))
  refine zp (.binOp rfl rfl (fun _ => Vl _ _ _ _ _)) (zn ?_); intro a w h
  refine cW ?_
  refine Zc h rfl (fun hc18 => ?_) (fun hc18 => ?_)
  ·
   skip
   have ha : n < 18446744073709551616 := Qt.1 (by simpa using hc18)
   refine gC h (zS (zp (.fA rfl Vj) (zd rfl mr isAgg36 sizeOf36 Xy ?_)))
   refine zp (.fA rfl Vj) (zd rfl mr isAgg36 sizeOf36 Xy ?_)
   refine zp (Pure1.cast (v' := .int .u64 ((n - m : Nat) : Int)) (.binOp rfl rfl (fun _ => Ze2 _ _ _ _ _)) (by rw [Qi ha, Qi oo, wrap_u64 _ oo oo]; congr 1; omega)) (zp (.build [(_, _)] rfl (Zfe _)) (zt' rfl rfl Qg uu sizeOf38 rfl nb rfl ?_))
   refine za rfl (zn (zt ?_)); intro a w h
   refine Jp h (Jv h rfl (.cell rfl mr isAgg38 sizeOf38 Zn) (.tmp rfl)) ?_
   rw [decide_eq_true hle, Vg, Qi (by omega : n - m < _), Vi oo]
  ·
   skip
   have ha : ¬ n < 18446744073709551616 := fun hn => by have := Qt.2 hn; simp [this] at hc18
   refine gC h (zk (zs (yD Za [0, 2, 1, 3, 4, 5] (Zb kk) (yd rfl rfl mr isAgg38 sizeOf38 Zn ?_)))); clear h
   refine yd rfl rfl mr isAgg38 sizeOf38 Zn ?_
   refine Zem rfl kk (vs := [_]) rfl call166 (Qbj n ha oo) ss dd ?_; rintro v26 σ26 ⟨b26, rfl, rfl⟩
   refine yf [_] rfl rfl call166 (Gv m oo) ?_; rintro v28 Ψ28 ⟨aY, cY, rfl, hYc, rfl⟩
   refine yp rfl (.assign rfl) (yp rfl (.assign rfl) (yn (zS (za rfl (zn (zs (zS (zm rfl (zp (.builtin [_] rfl (Zj _ _ _)) (zm rfl (zn (zb ?_)))))))))))); intro a w h
   refine Zg (fun (i : Nat) a w => ∃ Z c, i ≤ Z.length ∧ Z.length = (wds n).length ∧ Wd Z ∧ c ≤ 1 ∧ Zt Z + m = n + 4294967296 ^ i * (c + Zt ((wds m).drop i)) ∧ St 58 S w0 [(4, pB b4), (6, .slice (some ⟨b26, 0, none⟩) Z.length Z.length), (7, .slice aY (wds m).length cY), (8, .int .u32 (c : Int)), (30, .int .i64 (Z.length : Int)), (31, .int .i64 (i : Int))] [(b26, .cells (Jw Z).toArray 23 (0, 0)), (b4, .cells (Vg 0).cells 38 (0, 0))] [Row aY (Jw (wds m))] a w) (fun i => (wds n).length - i) (0) (⟨wds n, 0, Nat.zero_le _, rfl, Wd.wds n, oo, by simp [Qv], ((h.drop (List.Sublist.cons_cons _ (List.Sublist.cons_cons _ (List.nil_sublist _)))).factsSub (by simp)).sub (Zff ⟨rfl, rfl, rfl, rfl, rfl, rfl, trivial⟩)⟩) ?_; clear h
   rintro i a w ⟨Z, c, hi, hZl, hZ, hc, hT, h⟩
   refine gC h (zS (zp (.lss rfl rfl) (zn (zs ?_)))); clear h; intro a w h
   refine Zc h rfl (fun hc32 => ?_) (fun hc32 => ?_)
   ·
    skip
    have hi' : i < Z.length := by simpa using hc32
    refine gC h (zk (zs (zb (zS (zm rfl (za rfl (zn (zS (za rfl (zn ?_)))))))))); clear h; intro a w h
    refine cW ?_
    refine Za5 (fun a w => St 58 S w0 [(4, pB b4), (6, .slice (some ⟨b26, 0, none⟩) Z.length Z.length), (7, .slice aY (wds m).length cY), (8, .int .u32 (c : Int)), (9, .int .i64 (i : Int)), (10, .int .u32 ((wds m).getD i 0 : Int)), (30, .int .i64 (Z.length : Int)), (31, .int .i64 (i : Int))] [(b26, .cells (Jw Z).toArray 23 (0, 0)), (b4, .cells (Vg 0).cells 38 (0, 0))] [Row aY (Jw (wds m))] a w) ?_ ?_
    ·
     skip
     refine gC h (zS (zm rfl (zm rfl (zp (.builtin [_] rfl (Zj _ _ _)) (zp (.lss rfl rfl) (zn ?_)))))); clear h; intro a w h
     refine cW ?_
     refine Zc h rfl (fun hc37 => ?_) (fun hc37 => ?_)
     ·
      skip
      have hlt : i < (wds m).length := by simpa using hc37
      obtain ⟨bY, bYo, bYe⟩ := h.row_addr (ad := aY) (M := Jw (wds m)) ss (by simp; intro e; simp [e] at hlt)
      subst bYe
      refine gC h (zr (zm rfl (zm rfl (zp (.indexAddr rfl rfl (Qy _ _ _ _ _ oo)) (zD rfl mm (by simp; omega) isAgg23 sizeOf23 (Zx 0 oo) (.inr rfl) ?_)))))
      refine za rfl (zn ?_); intro a w h
      exact h.sub sA
     ·
      skip
      have hlt : (wds m).length ≤ i := by simpa using hc37
      refine wp_skip ?_
      rw [Vb hlt]
      exact h.sub sA
    ·
     clear h
     intro a w h
     refine gC h (zr (zm rfl (zm rfl (zm rfl (zm rfl (zp (.indexAddr rfl rfl (Qy _ _ _ _ _ oo)) (zd rfl mm isAgg23 sizeOf23 ((Zx 0 (by rw [Nat.zero_add]; omega)).trans (by rw [Nat.zero_add])) ?_)))))))
     refine zm rfl (zm rfl (zv [_, _, _] rfl call210 (Zqi _ _ _ (hZ.getD i) ((Wd.wds m).getD i) hc) (zm rfl (zp (.eX rfl) (zp (.eX rfl) (zp (.indexAddr rfl rfl (Qy _ _ _ _ _ oo)) (zt' rfl rfl ((Yx Z (0 + i) ((Z.getD i 0 + 8589934592 - (wds m).getD i 0 - c) % 4294967296)).trans (by rw [Nat.zero_add])) uu sizeOf23 rfl (by simp; omega) rfl ?_)))))))
     refine za rfl (zn (zr (zp (.add rfl rfl) (zm rfl (zn ?_))))); intro a w h
     refine ⟨i + 1, ⟨Z.set i ((Z.getD i 0 + 8589934592 - (wds m).getD i 0 - c) % 4294967296), (if Z.getD i 0 < (wds m).getD i 0 + c then 1 else 0), by simp; omega, by simpa using hZl, hZ.set _ _ (Nat.mod_lt _ dd), by split <;> omega, Zzm hi' hT (Zvn _ _ _ (hZ.getD i) ((Wd.wds m).getD i) hc), by rw [List.length_set]; exact h.sub sA⟩, oo⟩
   ·
    skip
    have hi' : i = Z.length := by simp at hc32; omega
    refine wp_exit (wp_seq (wp_region_lit ?_))
    replace h := h.shareAll hS (Jw Z) rfl
    refine gL h (zm rfl (zw [_] rfl call188 (Qfd _ _ Z hZ (Nat.le_refl _) oo) (zt' rfl rfl Qg uu sizeOf38 rfl nb rfl ?_)))
    refine za rfl (zn (zt ?_)); intro a w h
    refine Jp h (Jv h rfl (.cell rfl mr isAgg38 sizeOf38 Zn) (.tmp rfl)) ?_
    rw [hi'] at hT
    have e : Zt Z = n - m := by
     refine Qc9 (N := Z.length) (c := c) hZ rfl hle ?_
     rw [List.drop_eq_nil_of_le] at hT
     · simpa [Zt] using hT
     ·
      refine Nat.le_of_not_lt fun hgt => ?_
      have := Zcd (n := n) (m := m) oo
      omega
    rw [e, decide_eq_true hle]
theorem Qfk (x y : Nat) (hx : x < 18446744073709551616) (hy : y < 18446744073709551616) :
  Yi Tryz.prog 187 [.int .u64 (x : Int), .int .u64 (y : Int)] (.tuple #[.int .u64 ((x * y / 18446744073709551616 : Nat) : Int), .int .u64 ((x * y % 18446744073709551616 : Nat) : Int)]) := by
 obtain ⟨ht, hw, hh⟩ := mul64_hi x y hx hy
 have b1 := Zaa (a := x / 4294967296) (b := y / 4294967296) oo oo
 have b2 := Zaa (a := x / 4294967296) (b := y % 4294967296) oo oo
 have b3 := Zaa (a := x % 4294967296) (b := y / 4294967296) oo oo
 have b4 := Zaa (a := x % 4294967296) (b := y % 4294967296) oo oo
 refine fn_intro func187 rfl ntmps187 nb ?_
 intro S w0 a hS h
 refine gC h (zS (za rfl (za rfl (zn (zS (zm rfl (zp (Pure1.cast (v' := .int .u64 (((x % 4294967296) : Nat) : Int)) (.binOp rfl rfl (fun _ => Zim rfl _ _ _ x 4294967295 hx dd)) (by rw [show (4294967295 : Nat) = 2 ^ 32 - 1 from rfl, Nat.and_two_pow_sub_one_eq_mod])) (za rfl (zn (zS (zm rfl (zp (Pure1.cast (v' := .int .u64 (((x / 4294967296) : Nat) : Int)) (.binOp rfl rfl (fun _ => Yy _ _ _ x 32 dd)) (by rfl)) (za rfl (zn (zS (zm rfl (zp (Pure1.cast (v' := .int .u64 (((y % 4294967296) : Nat) : Int)) (.binOp rfl rfl (fun _ => Zim rfl _ _ _ y 4294967295 hy dd)) (by rw [show (4294967295 : Nat) = 2 ^ 32 - 1 from rfl, Nat.and_two_pow_sub_one_eq_mod])) (za rfl (zn (zS (zm rfl (zp (Pure1.cast (v' := .int .u64 (((y / 4294967296) : Nat) : Int)) (.binOp rfl rfl (fun _ => Yy _ _ _ y 32 dd)) (by rfl)) (za rfl (zn (zS (zm rfl (zm rfl (zp (Pure1.cast (v' := .int .u64 (((x % 4294967296) * (y % 4294967296) : Nat) : Int)) (.binOp rfl rfl (fun _ => Zcw _ _ _ _ _)) (by rw [Gq oo])) (za rfl (zn (zS (zm rfl (zm rfl (zp (Pure1.cast (v' := .int .u64 (((x / 4294967296) * (y % 4294967296) : Nat) : Int)) (.binOp rfl rfl (fun _ => Zcw _ _ _ _ _)) (by rw [Gq oo])) (zm rfl (zp (Pure1.cast (v' := .int .u64 (((x % 4294967296) * (y % 4294967296) / 4294967296 : Nat) : Int)) (.binOp rfl rfl (fun _ => Yy _ _ _ _ 32 dd)) (by rfl)) (zp (Pure1.cast (v' := .int .u64 ((((x / 4294967296) * (y % 4294967296) + (x % 4294967296) * (y % 4294967296) / 4294967296) : Nat) : Int)) (.binOp rfl rfl (fun _ => Zba _ _ _ _ _)) (by rw [Kd ht])) (za rfl (zn (zS (zm rfl (zp (Pure1.cast (v' := .int .u64 ((((x / 4294967296) * (y % 4294967296) + (x % 4294967296) * (y % 4294967296) / 4294967296) % 4294967296 : Nat) : Int)) (.binOp rfl rfl (fun _ => Zim rfl _ _ _ _ 4294967295 ht dd)) (by rw [show (4294967295 : Nat) = 2 ^ 32 - 1 from rfl, Nat.and_two_pow_sub_one_eq_mod])) (za rfl (zn (zS (zm rfl (zp (Pure1.cast (v' := .int .u64 ((((x / 4294967296) * (y % 4294967296) + (x % 4294967296) * (y % 4294967296) / 4294967296) / 4294967296 : Nat) : Int)) (.binOp rfl rfl (fun _ => Yy _ _ _ _ 32 dd)) (by rfl)) (za rfl (zn (zS (zm rfl (zm rfl (zm rfl (zp (Pure1.cast (v' := .int .u64 (((x % 4294967296) * (y / 4294967296) : Nat) : Int)) (.binOp rfl rfl (fun _ => Zcw _ _ _ _ _)) (by rw [Gq oo])) (zp (Pure1.cast (v' := .int .u64 (((((x / 4294967296) * (y % 4294967296) + (x % 4294967296) * (y % 4294967296) / 4294967296) % 4294967296 + (x % 4294967296) * (y / 4294967296)) : Nat) : Int)) (.binOp rfl rfl (fun _ => Zba _ _ _ _ _)) (by rw [Kd hw])) (za rfl (zn (zS (zm rfl (zm rfl (zp (Pure1.cast (v' := .int .u64 (((x / 4294967296) * (y / 4294967296) : Nat) : Int)) (.binOp rfl rfl (fun _ => Zcw _ _ _ _ _)) (by rw [Gq oo])) (zm rfl (zp (Pure1.cast (v' := .int .u64 (((x / 4294967296) * (y / 4294967296) + ((x / 4294967296) * (y % 4294967296) + (x % 4294967296) * (y % 4294967296) / 4294967296) / 4294967296 : Nat) : Int)) (.binOp rfl rfl (fun _ => Zba _ _ _ _ _)) (by rw [Kd oo])) (zm rfl (zp (Pure1.cast (v' := .int .u64 (((((x / 4294967296) * (y % 4294967296) + (x % 4294967296) * (y % 4294967296) / 4294967296) % 4294967296 + (x % 4294967296) * (y / 4294967296)) / 4294967296 : Nat) : Int)) (.binOp rfl rfl (fun _ => Yy _ _ _ _ 32 dd)) (by rfl)) (zp (Pure1.cast (v' := .int .u64 ((x * y / 18446744073709551616 : Nat) : Int)) (.binOp rfl rfl (fun _ => Zba _ _ _ _ _)) (by rw [Kd (by rw [hh]; exact Nat.div_lt_of_lt_mul (Nat.mul_lt_mul'' hx hy)), hh])) (za rfl (zn (zS (zm rfl (zm rfl (zp (Pure1.cast (v' := .int .u64 ((x * y % 18446744073709551616 : Nat) : Int)) (.binOp rfl rfl (fun _ => Zcw _ _ _ _ _)) (by rw [← Int.natCast_mul, Zag]; congr 1)) (za rfl (zn (zt ?_))))))))))))))))))))))))))))))))))))))))))))))))))))))))))))))))))))))))))); clear h; intro a w h
 refine Jp h (Jv h rfl (.tmp rfl) (.tmp rfl)) ?_
 rfl
theorem Zy4 (n m : Nat) (hn : (wds n).length ≤ 500000000000) (hm : (wds m).length ≤ 500000000000) : Yi Tryz.prog 136 [Vg n, Vg m] (Vg (n * m)) := by
 refine fn_intro func136 rfl ntmps136 nb ?_
 intro S w0 a hS h
 refine gC h (zS (zx rfl fun b2 => zx rfl fun b3 => zz zeroValue38 fun b4 => zn ?_)); clear h; intro a w h
 refine cW ?_
 refine Za5 (fun a w => St 103 S w0 [(2, pB b2), (3, pB b3), (4, pB b4)] [(b4, .cells (Vg 0).cells 38 (0, 0)), (b3, .cells (Vg m).cells 38 (0, 0)), (b2, .cells (Vg n).cells 38 (0, 0))] [] a w) ?_ ?_
 ·
  skip
  refine gC h (zS (zp (.fA rfl Vy) (zd rfl mr isAgg9 sizeOf9 Xn ?_)))
  refine zp (.binOp rfl rfl (fun _ => Vl _ _ _ _ _)) (zm rfl ?_); intro a w h
  refine Zl h (fun hc18 h => ?_) (fun hc18 h => ?_)
  ·
   skip
   have ha : n < 18446744073709551616 := Qt.1 (by simpa using hc18)
   refine gL h (zq 18 rfl rfl (.fA rfl Vy) ?_); clear h; intro a w h
   refine Zv 18 h rfl rfl (Yz h rfl mr isAgg9 sizeOf9 Xn dd ?_); clear h; intro a h
   refine gL h (zq 18 rfl rfl (.binOp rfl rfl (fun _ => Vl _ _ _ _ _)) ?_); clear h; intro a w h
   refine Zl h (fun hc21 h => ?_) (fun hc21 h => ?_)
   ·
    skip
    have hb : m < 18446744073709551616 := Qt.1 (by simpa using hc21)
    refine gL h (zp (.pickT rfl rfl) (zn ?_)); clear h; intro a w h
    refine cW ?_
    refine Zp h rfl ?_
    refine gC h (zS (zp (.fA rfl Vj) (zd rfl mr isAgg36 sizeOf36 Xy ?_))); clear h; intro a w h
    rw [Qi ha] at h
    refine gL h (zp (.fA rfl Vj) (zd rfl mr isAgg36 sizeOf36 Xy ?_)); clear h; intro a w h
    rw [Qi hb] at h
    refine gL h (zv [_, _] rfl call187 (Qfk n m ha hb) (zm rfl (zp (.eX rfl) (zp (.eX rfl) (za rfl (za rfl (zn (zS (zm rfl (zp (Pure1.cast (v' := .int .u32 ((n * m % 18446744073709551616 % 4294967296 : Nat) : Int)) (.convert rfl (Yr _)) (by rw [Jg]; congr 1)) (zm rfl (zp (.binOp rfl rfl (fun _ => Yy _ _ _ _ 32 dd)) (zp (Pure1.cast (v' := .int .u32 ((n * m % 18446744073709551616 / 4294967296 : Nat) : Int)) (.convert rfl (Yr _)) (by rw [Jg]; congr 1; omega)) (zm rfl (zp (Pure1.cast (v' := .int .u32 ((n * m / 18446744073709551616 % 4294967296 : Nat) : Int)) (.convert rfl (Yr _)) (by rw [Jg]; congr 1)) (zm rfl (zp (.binOp rfl rfl (fun _ => Yy _ _ _ _ 32 dd)) (zp (Pure1.cast (v' := .int .u32 ((n * m / 18446744073709551616 / 4294967296 : Nat) : Int)) (.convert rfl (Yr _)) (by have hh := Nat.div_lt_of_lt_mul (Nat.mul_lt_mul'' ha hb); rw [Jg]; congr 1; omega)) (zB [(_, _), (_, _), (_, _), (_, _)] rfl (Zhp _ _ _ _) fun b41 => ?_))))))))))))))))))); clear h; intro a w h
    replace h := h.shareAll hS (Jw [n * m % 18446744073709551616 % 4294967296, n * m % 18446744073709551616 / 4294967296, n * m / 18446744073709551616 % 4294967296, n * m / 18446744073709551616 / 4294967296]) rfl
    refine gL h (zw [_] rfl call188 (Qfd _ _ [n * m % 18446744073709551616 % 4294967296, n * m % 18446744073709551616 / 4294967296, n * m / 18446744073709551616 % 4294967296, n * m / 18446744073709551616 / 4294967296] (by intro x hx; have hh := Nat.div_lt_of_lt_mul (Nat.mul_lt_mul'' ha hb); simp at hx; omega) ss ss) (zt' rfl rfl Qg uu sizeOf38 rfl nb rfl ?_)); clear h; intro a w h
    refine wpList_nil (wp_ret ?_)
    refine Jp h (Zd h rfl (.cell rfl mr isAgg38 sizeOf38 Zn)) ?_
    have e : Zt [n * m % 18446744073709551616 % 4294967296, n * m % 18446744073709551616 / 4294967296, n * m / 18446744073709551616 % 4294967296, n * m / 18446744073709551616 / 4294967296] = n * m := by simp only [Zt]; omega
    rw [e]
   ·
    skip
    have hb : ¬ m < 18446744073709551616 := fun hn => by have := Qt.2 hn; simp [this] at hc21
    refine gL h (zp (.pickT rfl rfl) (zn ?_)); clear h; intro a w h
    refine cW ?_
    refine Zk h rfl ?_
    refine wp_skip ?_
    exact h.sub sA
  ·
   skip
   have ha : ¬ n < 18446744073709551616 := fun hn => by have := Qt.2 hn; simp [this] at hc18
   refine gL h (zo 18 rfl rfl rfl (zo 18 rfl rfl rfl (zo 18 rfl rfl rfl (zp (.pickF rfl rfl) (zn ?_))))); clear h; intro a w h
   refine cW ?_
   refine Zk h rfl ?_
   refine wp_skip ?_
   exact h.sub sA
 ·
  clear h
  intro a w h
  refine gC h (zs (yD Za [0, 2, 1, 3, 4, 5] (Zb kk) (yd rfl rfl mr isAgg38 sizeOf38 Zn ?_))); clear h
  refine yd rfl rfl mr isAgg38 sizeOf38 Zn ?_
  refine yf [_] rfl rfl call166 (Gv n oo) ?_; rintro v44 Ψ44 ⟨aX, cX, rfl, hcX, rfl⟩
  refine yf [_] rfl rfl call166 (Gv m oo) ?_; rintro v46 Ψ46 ⟨aY, cY, rfl, hcY, rfl⟩
  refine yp rfl (.assign rfl) (yp rfl (.assign rfl) (yn (zS (zm rfl (zp (.builtin [_] rfl (Zj _ _ _)) (zm rfl (zp (.builtin [_] rfl (Zj _ _ _)) (zp (.pN ((wds n).length + (wds m).length) (.add rfl rfl)) ?_)))))))); intro a w h
  refine Zh (Xo h rfl rfl runUnderlying217 typeInfo23 sizeOf23 zeroValue23 rfl dd (by exact Nat.le_refl _) (by show 4 * _ ≤ _; omega) oo dd ?_); clear h; intro b52 a w h
  rw [show (Value.int .u32 0).cells.toList = [Value.int .u32 0] from rfl, Zcz, show List.replicate ((wds n).length + (wds m).length) (Value.int .u32 0) = Jw (List.replicate ((wds n).length + (wds m).length) 0) from by simp] at h
  refine gL h (za rfl (zn (zs (zS (zm rfl (zp (.builtin [_] rfl (Zj _ _ _)) (zm rfl (zn (zb ?_))))))))); clear h; intro a w h
  refine Zg (fun (i : Nat) a w => i ≤ (wds n).length ∧ ∃ Z, Z.length = (wds n).length + (wds m).length ∧ Wd Z ∧ Zt Z = Zt ((wds n).take i) * Zt (wds m) ∧ St 103 S w0 [(4, pB b4), (8, .slice aY (wds m).length cY), (9, .slice (some ⟨b52, 0, none⟩) Z.length Z.length), (53, .slice aX (wds n).length cX), (54, .int .i64 ((wds n).length : Int)), (55, .int .i64 (i : Int))] [(b52, .cells (Jw Z).toArray 23 (0, 0)), (b4, .cells (Vg 0).cells 38 (0, 0))] [Row aX (Jw (wds n)), Row aY (Jw (wds m))] a w) (fun i => (wds n).length - i) (0) (⟨Nat.zero_le _, List.replicate ((wds n).length + (wds m).length) 0, by simp, Wd.zeros _, by rw [Zeb _ (fun x hx => List.eq_of_mem_replicate hx)]; simp [Zt], by rw [List.length_replicate]; exact ((h.drop (List.Sublist.cons_cons _ (List.Sublist.cons_cons _ (List.nil_sublist _)))).factsSub (by simp)).sub (Zff ⟨rfl, rfl, rfl, rfl, rfl, rfl, trivial⟩)⟩) ?_; clear h
  rintro i a w ⟨hi, Z, hZl, hZ, hV, h⟩
  refine gC h (zS (zp (.lss rfl rfl) (zn (zs ?_)))); clear h; intro a w h
  refine Zc h rfl (fun hc56 => ?_) (fun hc56 => ?_)
  ·
   skip
   have hi' : i < (wds n).length := by simpa using hc56
   have hlt := hi'
   obtain ⟨bX, bXo, bXe⟩ := h.row_addr (ad := aX) (M := Jw (wds n)) ss (by simp; intro e; simp [e] at hlt)
   subst bXe
   refine gC h (zk (zs (zb (zS (zm rfl (zp (.indexAddr rfl rfl (Qy _ _ _ _ _ oo)) (zD rfl mm (by simp; omega) isAgg23 sizeOf23 (Zx 0 oo) (.inr rfl) ?_)))))))
   refine za rfl (za rfl (zn (zS (za rfl (zn (zs (zS (zm rfl (zp (.builtin [_] rfl (Zj _ _ _)) (zm rfl (zn (zb ?_)))))))))))); intro a w h
   refine Zg (fun (k : Nat) a w => k ≤ (wds m).length ∧ ∃ Z c, Z.length = (wds n).length + (wds m).length ∧ Wd Z ∧ c < 4294967296 ∧ Z.getD (i + (wds m).length) 0 = 0 ∧ Zt Z + 4294967296 ^ (i + k) * c + 4294967296 ^ (i + k) * ((wds n).getD i 0 * Zt ((wds m).drop k)) = Zt ((wds n).take i) * Zt (wds m) + 4294967296 ^ i * ((wds n).getD i 0 * Zt (wds m)) ∧ St 103 S w0 [(4, pB b4), (8, .slice aY (wds m).length cY), (9, .slice (some ⟨b52, 0, none⟩) Z.length Z.length), (53, .slice (some ⟨bX, bXo, none⟩) (wds n).length cX), (54, .int .i64 ((wds n).length : Int)), (55, .int .i64 (i : Int)), (10, .int .i64 (i : Int)), (11, .int .u32 ((wds n).getD i 0 : Int)), (12, .int .u64 (c : Int)), (60, .slice aY (wds m).length cY), (61, .int .i64 ((wds m).length : Int)), (62, .int .i64 (k : Int))] [(b52, .cells (Jw Z).toArray 23 (0, 0)), (b4, .cells (Vg 0).cells 38 (0, 0))] [Row (some ⟨bX, bXo, none⟩) (Jw (wds n)), Row aY (Jw (wds m))] a w) (fun k => (wds m).length - k) (0) (⟨Nat.zero_le _, Z, 0, hZl, hZ, by decide, Zjw (Wd.wds n) (Wd.wds m) hV (Nat.le_refl _), by simp [hV], h.sub sA⟩) ?_; clear h
   clear hZ hV hZl
   rintro k a w ⟨hk, Z, c, hZl, hZ, hc, h0, hT, h⟩
   refine gC h (zS (zp (.lss rfl rfl) (zn (zs ?_)))); clear h; intro a w h
   refine Zc h rfl (fun hc63 => ?_) (fun hc63 => ?_)
   ·
    skip
    have hk' : k < (wds m).length := by simpa using hc63
    have hlt := hk'
    obtain ⟨bY, bYo, bYe⟩ := h.row_addr (ad := aY) (M := Jw (wds m)) ss (by simp; intro e; simp [e] at hlt)
    subst bYe
    have hb := Zon ((Wd.wds n).getD i) ((Wd.wds m).getD k) hc (hZ.getD (i + k))
    have hxi := (Wd.wds n).getD i
    have hyk := (Wd.wds m).getD k
    have hzk := hZ.getD (i + k)
    refine gC h (zk (zs (zb (zS (zm rfl (zp (.indexAddr rfl rfl (Qy _ _ _ _ _ oo)) (zD rfl mm (by simp; omega) isAgg23 sizeOf23 (Zx 0 oo) (.inr rfl) ?_)))))))
    refine za rfl (za rfl (zn (zS (zm rfl (zm rfl (zp (.convert rfl (Ju _ (wrap_u64 _ oo oo))) (zm rfl (zp (.convert rfl (Ju _ (wrap_u64 _ oo oo))) (zp (Pure1.cast (v' := .int .u64 (((wds n).getD i 0 * (wds m).getD k 0 : Nat) : Int)) (.binOp rfl rfl (fun _ => Zcw _ _ _ _ _)) (by rw [Gq oo])) (zm rfl (zm rfl (zm rfl (zp (.pN (i + k) (.add rfl rfl)) (zp (.indexAddr rfl rfl (Qy _ _ _ _ _ oo)) (zd rfl mm isAgg23 sizeOf23 ((Zx 0 (by rw [Nat.zero_add]; omega)).trans (by rw [Nat.zero_add])) ?_)))))))))))))))
    refine zp (.convert rfl (Ju _ (wrap_u64 _ oo oo))) (zp (Pure1.cast (v' := .int .u64 (((wds n).getD i 0 * (wds m).getD k 0 + Z.getD (i + k) 0 : Nat) : Int)) (.binOp rfl rfl (fun _ => Zba _ _ _ _ _)) (by rw [Kd oo])) (zp (Pure1.cast (v' := .int .u64 (((c + ((wds n).getD i 0 * (wds m).getD k 0 + Z.getD (i + k) 0)) : Nat) : Int)) (.binOp rfl rfl (fun _ => Zba _ _ _ _ _)) (by rw [Kd hb])) (za rfl (zn (zS (zm rfl (zm rfl (zm rfl (zp (.pN (i + k) (.add rfl rfl)) (zm rfl (zp (Pure1.cast (v' := .int .u32 (((c + ((wds n).getD i 0 * (wds m).getD k 0 + Z.getD (i + k) 0)) % 4294967296 : Nat) : Int)) (.convert rfl (Yr _)) (by rw [Jg]; congr 1)) (zp (.indexAddr rfl rfl (Qy _ _ _ _ _ oo)) (zt' rfl rfl ((Yx Z (0 + (i + k)) ((c + ((wds n).getD i 0 * (wds m).getD k 0 + Z.getD (i + k) 0)) % 4294967296)).trans (by rw [Nat.zero_add])) uu sizeOf23 rfl (by simp; omega) rfl ?_)))))))))))))
    refine zn (zr (zm rfl (zp (Pure1.cast (v' := .int .u64 (((c + ((wds n).getD i 0 * (wds m).getD k 0 + Z.getD (i + k) 0)) / 4294967296 : Nat) : Int)) (.binOp rfl rfl (fun _ => Yy _ _ _ _ 32 dd)) (by rfl)) (za rfl (zn (zr (zp (.add rfl rfl) (zm rfl (zn ?_))))))))); intro a w h
    exact ⟨k + 1, ⟨oo, Z.set (i + k) ((c + ((wds n).getD i 0 * (wds m).getD k 0 + Z.getD (i + k) 0)) % 4294967296), _, by simpa using hZl, hZ.set _ _ (Nat.mod_lt _ dd), Nat.div_lt_of_lt_mul hb, by rw [Zdy oo]; exact h0, Qac oo hT, by rw [List.length_set]; exact h.sub sA⟩, oo⟩
   ·
    skip
    have hk' : k = (wds m).length := by simp at hc63; omega
    subst hk'
    refine gC h (ze (zr (zm rfl (zm rfl (zm rfl (zp (.builtin [_] rfl (Zj _ _ _)) (zp (.pN (i + (wds m).length) (.add rfl rfl)) (zm rfl (zp (Pure1.cast (v' := .int .u32 (c : Int)) (.convert rfl (Yr _)) (by rw [wrap_u32 _ oo oo])) (zp (.indexAddr rfl rfl (Qy _ _ _ _ _ oo)) (zt' rfl rfl ((Yx Z (0 + (i + (wds m).length)) c).trans (by rw [Nat.zero_add])) uu sizeOf23 rfl (by simp; omega) rfl ?_)))))))))))
    refine zn (zr (zp (.add rfl rfl) (zm rfl (zn ?_)))); intro a w h
    exact ⟨i + 1, ⟨oo, Z.set (i + (wds m).length) c, by simpa using hZl, hZ.set _ _ hc, Zpg hi' oo h0 hT, by rw [List.length_set]; exact h.sub sA⟩, oo⟩
  ·
   skip
   have hi' : i = (wds n).length := by simp at hc56; omega
   refine wp_exit (wp_seq (wp_region_lit ?_))
   replace h := h.shareAll hS (Jw Z) rfl
   refine gL h (zm rfl (zw [_] rfl call188 (Qfd _ _ Z hZ (Nat.le_refl _) oo) (zt' rfl rfl Qg uu sizeOf38 rfl nb rfl ?_))); clear h; intro a w h
   refine wpList_nil (wp_ret ?_)
   refine Jp h (Zd h rfl (.cell rfl mr isAgg38 sizeOf38 Zn)) ?_
   rw [hi', List.take_length, Qv, Qv] at hV
   rw [hV]
end
section
theorem Qfq (hi lo y : Nat) (hlo : lo < 4294967296) (hy : y < 4294967296) (h0 : hi < y) :
  Yi Tryz.prog 200 [.int .u32 (hi : Int), .int .u32 (lo : Int), .int .u32 (y : Int)] (.tuple #[.int .u32 (((hi * 4294967296 + lo) / y : Nat) : Int), .int .u32 (((hi * 4294967296 + lo) % y : Nat) : Int)]) := by
 have hq : (hi * 4294967296 + lo) / y < 4294967296 := Zij h0 hlo
 have hr : (hi * 4294967296 + lo) % y < y := Nat.mod_lt _ oo
 refine fn_intro func200 rfl ntmps200 nb ?_
 intro S w0 a hS h
 refine gC h (zS (za rfl (za rfl (zn (zs (zS (zm rfl (zp (.neq rfl rfl) (zm rfl ?_))))))))); clear h; intro a w h
 refine Zl h (fun hc11 h => ?_) (fun hc11 h => (by exfalso; have := Qd2 (b := 0) hc11; omega))
 refine gL h (zq 11 rfl rfl (.move rfl) (zq 11 rfl rfl (.move rfl) (zq 11 rfl rfl (.leq rfl rfl) ?_))); clear h; intro a w h
 refine Zl h (fun hc14 h => (by exfalso; have := of_decide_eq_true hc14; omega)) (fun hc14 h => ?_)
 refine gL h (zp (.pickT rfl rfl) (zn ?_)); clear h; intro a w h
 refine cW ?_
 refine Zk h rfl ?_
 refine gC h (zk (zS (zm rfl (zp (.convert rfl (Ju _ (wrap_u64 _ oo oo))) (zp (Pure1.cast (v' := .int .u64 ((hi * 4294967296 : Nat) : Int)) (.binOp rfl rfl (fun _ => Zcv _ _ _ hi 32 dd)) (by rw [wrap_u64 _ oo oo])) (zm rfl (zp (.convert rfl (Ju _ (wrap_u64 _ oo oo))) (zp (Pure1.cast (v' := .int .u64 ((hi * 4294967296 + lo : Nat) : Int)) (.binOp rfl rfl (fun _ => Zfl rfl _ _ _ (hi * 4294967296) lo (by show _ < 18446744073709551616; omega) (by show _ < 18446744073709551616; omega))) (by have e := Nat.shiftLeft_add_eq_or_of_lt (show lo < 2 ^ 32 by omega) hi; rw [Nat.shiftLeft_eq] at e; rw [show hi * 4294967296 = hi * 2 ^ 32 from rfl, ← e])) (za rfl (zn (zs (yD Za [0, 1, 2, 3, 4, 5, 6, 7, 8, 9, 10, 11] (Zb kk) (ym rfl rfl (ym rfl rfl (yp rfl (.convert rfl (Ju _ (wrap_u64 _ oo oo))) (yp rfl (Pure1.cast (v' := .int .u64 (((hi * 4294967296 + lo) / y : Nat) : Int)) (.binOp rfl rfl (fun _ => Ys _ _ _ _ _ oo)) (by rw [Xp, Zdl (Nat.lt_of_lt_of_le hq dd)])) (yp rfl (Pure1.cast (v' := .int .u32 (((hi * 4294967296 + lo) / y : Nat) : Int)) (.convert rfl (Yr _)) (by rw [Zfg hq])) (ym rfl rfl (ym rfl rfl (yp rfl (.convert rfl (Ju _ (wrap_u64 _ oo oo))) (yp rfl (Pure1.cast (v' := .int .u64 (((hi * 4294967296 + lo) % y : Nat) : Int)) (.binOp rfl rfl (fun _ => Ye _ _ _ _ _ oo)) (by rw [Xl])) (yp rfl (Pure1.cast (v' := .int .u32 (((hi * 4294967296 + lo) % y : Nat) : Int)) (.convert rfl (Yr _)) (by rw [Zfg (Nat.lt_trans hr hy)])) (yp rfl (.assign rfl) (yp rfl (.assign rfl) (yn (zt ?_)))))))))))))))))))))))))); clear h; intro a w h
 refine Jp h (Jv h rfl (.tmp rfl) (.tmp rfl)) ?_
 rfl
theorem Zym (ad : Option Addr) (cp : Nat) (X : List Nat) (y : Nat) (hX : Wd X) (hl : X.length ≤ 1099511627776) (hy0 : 0 < y) (hy : y < 4294967296) :
  Zkr Tryz.prog 167 [.slice ad X.length cp, .int .u32 (y : Int)] [Row ad (Jw X)] (fun v σn => ∃ b Q, v = .tuple #[.slice (some ⟨b, 0, none⟩) Q.length Q.length, .int .u32 ((Zt X % y : Nat) : Int)] ∧ Wd Q ∧ Q.length = X.length ∧ Zt Q = Zt X / y ∧ σn = [(b, .cells (Jw Q).toArray 23 (0, 0))]) := by
 refine fn_introO func167 rfl ntmps167 nb ?_
 intro S w0 a hS h
 refine gC h (zS (za rfl (za rfl (zn (zS (zm rfl (zp (.builtin [_] rfl (Zj _ _ _)) ?_))))))); clear h; intro a w h
 refine Zh (Xo h rfl rfl runUnderlying217 typeInfo23 sizeOf23 zeroValue23 rfl dd (by exact Nat.le_refl _) (by show 4 * _ ≤ _; omega) oo dd ?_); clear h; intro b9 a w h
 rw [show (Value.int .u32 0).cells.toList = [Value.int .u32 0] from rfl, Zcz, show List.replicate X.length (Value.int .u32 0) = Jw (List.replicate X.length 0) from by simp] at h
 refine gL h (za rfl (zn (zs (zS (zm rfl (zp (.builtin [_] rfl (Zj _ _ _)) (zp (.sub rfl rfl) (za rfl (zn (zb ?_)))))))))); clear h; intro a w h
 refine Zg (fun (k : Nat) a w => ∃ Q r, k ≤ X.length ∧ Q.length = X.length ∧ Wd Q ∧ r < y ∧ Zt (X.drop k) = Zt (Q.drop k) * y + r ∧ St 32 S w0 [(0, .slice ad X.length cp), (1, .int .u32 (y : Int)), (4, .slice (some ⟨b9, 0, none⟩) X.length X.length), (5, .int .u32 (r : Int)), (6, .int .i64 ((k : Int) - 1))] [(b9, .cells (Jw Q).toArray 23 (0, 0))] [Row ad (Jw X)] a w) (fun k => k) (X.length) (⟨List.replicate X.length 0, 0, Nat.le_refl _, by simp, Wd.zeros _, hy0, by simp [Zt], h.sub sA⟩) ?_; clear h
 rintro k a w ⟨Q, r, hkX, hQ, hQw, hr, hT, h⟩
 refine gC h (zs (zS (zm rfl (zp (.geq rfl rfl) (zn ?_))))); clear h; intro a w h
 refine cW ?_
 refine Zc h rfl (fun hc14 => ?_) (fun hc14 => ?_)
 ·
  skip
  have hk : 0 < k := by simp at hc14; omega
  have hlt : 0 < X.length := oo
  obtain ⟨bX, bXo, bXe⟩ := h.row_addr (ad := ad) (M := Jw X) ss (by simp; intro e; simp [e] at hlt)
  subst bXe
  refine gC h (zk (zs (zb (zr (zm rfl (zp (.pO (k - 1) (.move rfl)) (zm rfl (zm rfl (zp (.pO (k - 1) (.move rfl)) (zp (.indexAddr rfl rfl (Qy _ _ _ _ _ oo)) (zD rfl mm (by simp; omega) isAgg23 sizeOf23 (Zx 0 oo) (.inr rfl) ?_)))))))))))
  refine zm rfl (zv [_, _, _] rfl call200 (Qfq r (X.getD (k - 1) 0) y (hX.getD _) hy hr) (zm rfl (zp (.eX rfl) (zp (.eX rfl) (zp (.indexAddr rfl rfl (Qy _ _ _ _ _ oo)) (zt' rfl rfl ((Yx Q (0 + (k - 1)) ((r * 4294967296 + X.getD (k - 1) 0) / y)).trans (by rw [Nat.zero_add])) uu sizeOf23 rfl (by simp; omega) rfl ?_))))))
  refine za rfl (zn (zr (zm rfl (zp (Pure1.cast (v' := .int .i64 (((k - 1 : Nat) : Int) - 1)) (.sub rfl rfl) (by show Value.int _ _ = Value.int _ _; congr 1; omega)) (za rfl (zn ?_)))))); intro a w h
  exact ⟨k - 1, ⟨Q.set (k - 1) ((r * 4294967296 + X.getD (k - 1) 0) / y), _, oo, by simpa using hQ, hQw.set _ _ (Zij hr (hX.getD _)), Nat.mod_lt _ hy0, Ztq hk hkX hQ hT, h.sub sA⟩, oo⟩
 ·
  skip
  have hk : k = 0 := by simp at hc14; omega
  refine gC h (ze (zS (zm rfl (zm rfl (za rfl (za rfl (zn (zt ?_)))))))); clear h; intro a w h
  subst hk
  simp only [List.drop_zero] at hT
  rw [← hQ] at h
  refine Zq3 h (Jv h rfl (.tmp rfl) (.tmp rfl)) ⟨b9, Q, ?_, hQw, hQ, ?_, rfl⟩ (List.Sublist.refl _)
  · rw [hT, Nat.mul_comm, Nat.mul_add_mod, Nat.mod_eq_of_lt hr]
  · rw [hT, Nat.mul_comm, Nat.mul_add_div hy0, Nat.div_eq_of_lt hr, Nat.add_zero]
theorem Zog (ad : Option Addr) (cp : Nat) (X : List Nat) (s : Nat) (hX : Wd X) (hl : X.length ≤ 1000000000000) (hs : s < 32) :
  Zkr Tryz.prog 232 [.slice ad X.length cp, .int .i64 (s : Int)] [Row ad (Jw X)] (fun v σn => ∃ b Z, v = .slice (some ⟨b, 0, none⟩) Z.length Z.length ∧ Wd Z ∧ Z.length = X.length + 1 ∧ Zt Z = Zt X * 2 ^ s ∧ σn = [(b, .cells (Jw Z).toArray 23 (0, 0))]) := by
 refine fn_introO func232 rfl ntmps232 nb ?_
 intro S w0 a hS h
 refine gC h (zS (za rfl (zn (zS (zm rfl (zp (.builtin [_] rfl (Zj _ _ _)) (zp (.pN (X.length + 1) (.add rfl rfl)) ?_))))))); clear h; intro a w h
 refine Zh (Xo h rfl rfl runUnderlying217 typeInfo23 sizeOf23 zeroValue23 rfl dd (by exact Nat.le_refl _) (by show 4 * _ ≤ _; omega) oo dd ?_); clear h; intro b12 a w h
 rw [show (Value.int .u32 0).cells.toList = [Value.int .u32 0] from rfl, Zcz, show List.replicate (X.length + 1) (Value.int .u32 0) = Jw (List.replicate (X.length + 1) 0) from by simp] at h
 refine gL h (za rfl (zn (zS (za rfl (zn (zs (zS (zm rfl (zp (.builtin [_] rfl (Zj _ _ _)) (zm rfl (zn (zb ?_)))))))))))); clear h; intro a w h
 refine Zg (fun (i : Nat) a w => ∃ Z c, i ≤ X.length ∧ Z.length = X.length + 1 ∧ Wd Z ∧ c < 2 ^ s ∧ (∀ j, i ≤ j → Z.getD j 0 = 0) ∧ Zt Z + 4294967296 ^ i * c = Zt (X.take i) * 2 ^ s ∧ St 41 S w0 [(0, .slice ad X.length cp), (1, .int .i64 (s : Int)), (5, .slice (some ⟨b12, 0, none⟩) (X.length + 1) (X.length + 1)), (6, .int .u32 (c : Int)), (13, .slice ad X.length cp), (14, .int .i64 (X.length : Int)), (15, .int .i64 (i : Int))] [(b12, .cells (Jw Z).toArray 23 (0, 0))] [Row ad (Jw X)] a w) (fun i => X.length - i) (0) (⟨List.replicate (X.length + 1) 0, 0, Nat.zero_le _, by simp, Wd.zeros _, Nat.pow_pos oo, fun j _ => by simp [List.getD, List.getElem?_replicate]; split <;> rfl, by rw [Zeb _ (fun x hx => List.eq_of_mem_replicate hx)]; simp [Zt], h.sub sA⟩) ?_; clear h
 rintro i a w ⟨Z, c, hi, hZl, hZ, hc, hz, hT, h⟩
 refine gC h (zS (zp (.lss rfl rfl) (zn (zs ?_)))); clear h; intro a w h
 refine Zc h rfl (fun hc16 => ?_) (fun hc16 => ?_)
 ·
  skip
  have hi' : i < X.length := by simpa using hc16
  have hlt := hi'
  obtain ⟨bX, bXo, bXe⟩ := h.row_addr (ad := ad) (M := Jw X) ss (by simp; intro e; simp [e] at hlt)
  subst bXe
  have hx := hX.getD i
  have h2 := Zvp (X.getD i 0) s c hs hc
  have h3 := Zvq (X.getD i 0) s hs hx
  have h4 := Zrd s hs
  have h5 : X.getD i 0 * 2 ^ s ≤ 4294967295 * 2147483648 := Nat.mul_le_mul oo h4
  refine gC h (zk (zs (zb (zS (zm rfl (zp (.indexAddr rfl rfl (Qy _ _ _ _ _ oo)) (zD rfl mm (by simp; omega) isAgg23 sizeOf23 (Zx 0 oo) (.inr rfl) ?_)))))))
  refine za rfl (za rfl (zn (zS (zm rfl (zm rfl (zm rfl (zm rfl (zp (Pure1.cast (v' := .int .u32 ((X.getD i 0 * 2 ^ s % 4294967296 : Nat) : Int)) (.binOp rfl rfl (fun _ => Zcv _ _ _ _ s (by show s ≤ 32; omega))) (by rw [Jg]; congr 1)) (zm rfl (zp (Pure1.cast (v' := .int .u32 ((X.getD i 0 * 2 ^ s % 4294967296 + c : Nat) : Int)) (.binOp rfl rfl (fun _ => Zfl rfl _ _ _ _ c (by show _ < 4294967296; omega) (by show _ < 4294967296; omega))) (by rw [shl_or _ s c hs hc])) (zp (.indexAddr rfl rfl (Qy _ _ _ _ _ oo)) (zt' rfl rfl ((Yx Z (0 + i) (X.getD i 0 * 2 ^ s % 4294967296 + c)).trans (by rw [Nat.zero_add])) uu sizeOf23 rfl (by simp; omega) rfl ?_))))))))))))
  refine zn (zr (zm rfl (zp (.convert rfl (Ju _ (wrap_u64 _ oo oo))) (zm rfl (zp (Pure1.cast (v' := .int .u64 ((X.getD i 0 * 2 ^ s : Nat) : Int)) (.binOp rfl rfl (fun _ => Zcv _ _ _ _ s (by show s ≤ 64; omega))) (by rw [wrap_u64 _ oo oo])) (zp (.binOp rfl rfl (fun _ => Yy _ _ _ _ 32 dd)) (zp (Pure1.cast (v' := .int .u32 ((X.getD i 0 * 2 ^ s / 4294967296 : Nat) : Int)) (.convert rfl (Yr _)) (by rw [wrap_u32 _ oo oo])) (za rfl (zn (zr (zp (.add rfl rfl) (zm rfl (zn ?_))))))))))))); intro a w h
  exact ⟨i + 1, ⟨Z.set i (X.getD i 0 * 2 ^ s % 4294967296 + c), _, oo, by simpa using hZl, hZ.set _ _ h2, h3, fun j hj => by rw [Zdy oo]; exact hz j oo, Ztr hi' hZl (hz i (Nat.le_refl _)) hT, h.sub sA⟩, oo⟩
 ·
  skip
  have hi' : i = X.length := by simp at hc16; omega
  refine gC h (ze (zS (zm rfl (zm rfl (zp (.builtin [_] rfl (Zj _ _ _)) (zm rfl (zp (.indexAddr rfl rfl (Qy _ _ _ _ _ oo)) (zt' rfl rfl ((Yx Z (0 + X.length) c).trans (by rw [Nat.zero_add])) uu sizeOf23 rfl (by simp; omega) rfl ?_))))))))
  refine zn (zS (zm rfl (za rfl (zn (zt ?_))))); intro a w h
  subst hi'
  have hp := Zrd s hs
  rw [show X.length + 1 = (Z.set X.length c).length from by simp [hZl]] at h
  refine Zq3 h (Zd h rfl (.tmp rfl)) ⟨b12, Z.set X.length c, rfl, hZ.set _ _ oo, by simpa using hZl, Zvr hZl (hz _ (Nat.le_refl _)) hT, rfl⟩ (List.Sublist.refl _)
end
section
theorem Qbc (x : Int) (h0 : IntKind.u8.wrap x = x) (w : World) : (Go.convert 23 5 (.int .u32 x)).run Tryz.prog w = .ok (.int .u8 x) w := by
 rw [Zje, h0]
theorem cv_5_3 (x : Int) (w : World) : (Go.convert 5 3 (.int .u8 x)).run Tryz.prog w = .ok (.int .i64 (IntKind.i64.wrap x)) w := by
 simp [go_sem]
theorem Qen (x : Int) (h0 : IntKind.i64.wrap x = x) (w : World) : (Go.convert 5 3 (.int .u8 x)).run Tryz.prog w = .ok (.int .i64 x) w := by
 rw [cv_5_3, h0]
theorem Qal : ∀ j, j < 256 → ((⟨#[0, 1, 2, 2, 3, 3, 3, 3, 4, 4, 4, 4, 4, 4, 4, 4, 5, 5, 5, 5, 5, 5, 5, 5, 5, 5, 5, 5, 5, 5, 5, 5, 6, 6, 6, 6, 6, 6, 6, 6, 6, 6, 6, 6, 6, 6, 6, 6, 6, 6, 6, 6, 6, 6, 6, 6, 6, 6, 6, 6, 6, 6, 6, 6, 7, 7, 7, 7, 7, 7, 7, 7, 7, 7, 7, 7, 7, 7, 7, 7, 7, 7, 7, 7, 7, 7, 7, 7, 7, 7, 7, 7, 7, 7, 7, 7, 7, 7, 7, 7, 7, 7, 7, 7, 7, 7, 7, 7, 7, 7, 7, 7, 7, 7, 7, 7, 7, 7, 7, 7, 7, 7, 7, 7, 7, 7, 7, 7, 8, 8, 8, 8, 8, 8, 8, 8, 8, 8, 8, 8, 8, 8, 8, 8, 8, 8, 8, 8, 8, 8, 8, 8, 8, 8, 8, 8, 8, 8, 8, 8, 8, 8, 8, 8, 8, 8, 8, 8, 8, 8, 8, 8, 8, 8, 8, 8, 8, 8, 8, 8, 8, 8, 8, 8, 8, 8, 8, 8, 8, 8, 8, 8, 8, 8, 8, 8, 8, 8, 8, 8, 8, 8, 8, 8, 8, 8, 8, 8, 8, 8, 8, 8, 8, 8, 8, 8, 8, 8, 8, 8, 8, 8, 8, 8, 8, 8, 8, 8, 8, 8, 8, 8, 8, 8, 8, 8, 8, 8, 8, 8, 8, 8, 8, 8, 8, 8, 8, 8, 8, 8, 8, 8, 8, 8, 8, 8]⟩ : ByteArray).data.toList.getD j 0).toNat = Zdh j := by decide +kernel
theorem Qfl (x : Nat) (hx : x < 4294967296) : Yi Tryz.prog 219 [.int .u32 (x : Int)] (.int .i64 (Zdh x : Int)) := by
 refine fn_intro func219 rfl ntmps219 nb ?_
 intro S w0 a hS h
 refine gC h (zS (za rfl (zn ?_))); clear h; intro a w h
 refine cW ?_
 refine Za5 (fun a w => ∃ y m : Nat, y < 65536 ∧ m ≤ 16 ∧ m + Zdh y = Zdh x ∧ St 19 S w0 [(0, .int .u32 (y : Int)), (2, .int .i64 (m : Int))] [] [] a w) ?_ ?_
 ·
  skip
  refine gC h (zS (zm rfl (zp (.geq rfl rfl) (zn ?_)))); clear h; intro a w h
  refine cW ?_
  refine Zc h rfl (fun hc4 => ?_) (fun hc4 => ?_)
  ·
   skip
   have h4 : 65536 ≤ x := dT hc4
   refine gC h (zS (zm rfl (zp (.binOp rfl rfl (fun _ => Yy _ _ _ x 16 dd)) (za rfl (zn (zr (za rfl (zn ?_)))))))); clear h; intro a w h
   exact ⟨x / 2 ^ 16, 16, oo, by omega, by rw [Nat.add_comm]; exact Zkh (k := 16) oo, h.sub sA⟩
  ·
   skip
   have h4 : x < 65536 := dF hc4
   refine wp_skip ?_
   exact ⟨x, 0, h4, oo, Nat.zero_add _, h.sub sA⟩
 ·
  clear h
  rintro a w ⟨y, m, hy, hm, hl, h⟩
  refine Za5 (fun a w => ∃ y m : Nat, y < 256 ∧ m ≤ 24 ∧ m + Zdh y = Zdh x ∧ St 19 S w0 [(0, .int .u32 (y : Int)), (2, .int .i64 (m : Int))] [] [] a w) ?_ ?_
  ·
   skip
   refine gC h (zS (zm rfl (zp (.geq rfl rfl) (zn ?_)))); clear h; intro a w h
   refine cW ?_
   refine Zc h rfl (fun hc8 => ?_) (fun hc8 => ?_)
   ·
    skip
    have h7 : 256 ≤ y := dT hc8
    refine gC h (zS (zm rfl (zp (.binOp rfl rfl (fun _ => Yy _ _ _ y 8 dd)) (za rfl (zn (zr (zm rfl (zp (.pN (m + 8) (.add rfl rfl)) (za rfl (zn ?_)))))))))); clear h; intro a w h
    exact ⟨y / 2 ^ 8, m + 8, oo, by omega, by rw [← hl, Nat.add_assoc, Nat.add_comm 8]; congr 1; exact Zkh (k := 8) oo, h.sub sA⟩
   ·
    skip
    have h7 : y < 256 := dF hc8
    refine wp_skip ?_
    exact ⟨y, m, h7, oo, hl, h.sub sA⟩
  ·
   clear h
   rintro a w ⟨z, o, hz, ho, hl2, h⟩
   refine gC h (zS (zm rfl (zm rfl ?_)))
   have hle : Zdh z ≤ 8 := Zgo hz
   refine zp (.convert rfl (Qbc _ (wrap_u8 _ oo oo))) (zp (Pure1.cast (v' := .int .u8 (Zdh z : Int)) (.index rfl rfl (fun _ => Zcy runUnderlying9 _ _ (by show z < 256; exact hz))) (by exact congrArg (fun n : Nat => Value.int .u8 (n : Int)) (Qal z hz))) (zp (.convert rfl (Qen _ (wrap_i64 _ oo oo))) (zp (Pure1.cast (v' := .int .i64 (Zdh x : Int)) (.add rfl rfl) (by show Value.int _ _ = Value.int _ _; congr 1; omega)) (za rfl (zn (zt ?_)))))); intro a w h
   exact Zao h
theorem Zht (x : Nat) (hx : x < 4294967296) : Yi Tryz.prog 231 [.int .u32 (x : Int)] (.int .i64 ((32 - Zdh x : Nat) : Int)) := by
 refine fn_intro func231 rfl ntmps231 nb ?_
 intro S w0 a hS h
 refine gC h (zS (za rfl (zn (zS ?_))))
 have hle : Zdh x ≤ 32 := Zgo (k := 32) hx
 refine zm rfl (zv [_] rfl call219 (Qfl x hx) (zp (.pO (32 - Zdh x) (.sub rfl rfl)) (za rfl (zn (zt ?_))))); intro a w h
 exact Zao h
theorem C_half (b cp : Nat) (O : List Nat) (hO : Wd O) (hl : O.length ≤ 1099511627776) (σr : List (Nat × Obj)) (Φ : List Qh) :
  Zmj Tryz.prog 234 [.slice (some ⟨b, 0, none⟩) O.length cp] ((b, .cells (Jw O).toArray 23 (0, 0)) :: σr) Φ
   (fun _ σ' Φ' => ∃ Z, Wd Z ∧ Z.length = O.length ∧ Zt Z = Zt O / 2 ∧ σ' = (b, .cells (Jw Z).toArray 23 (0, 0)) :: σr ∧ Φ' = Φ) := by
 refine fn_introM func234 rfl ntmps234 nb ?_
 intro S w0 a w hS h
 refine gC h (zS (zm rfl (zp (.builtin [_] rfl (Zj _ _ _)) (zm rfl (zn (zb ?_)))))); clear h; intro a w h
 refine Zg (fun (i : Nat) a w => ∃ Z, i ≤ O.length ∧ Z.length = O.length ∧ Wd Z ∧ Z.drop i = O.drop i ∧ 2 * Zt (Z.take i) + O.getD 0 0 % 2 = Zt (O.take i) + 4294967296 ^ i * (O.getD i 0 % 2) ∧ St 32 S w0 [(0, .slice (some ⟨b, 0, none⟩) O.length cp), (3, .slice (some ⟨b, 0, none⟩) O.length cp), (4, .int .i64 (O.length : Int)), (5, .int .i64 (i : Int))] ((b, .cells (Jw Z).toArray 23 (0, 0)) :: σr) Φ a w) (fun i => O.length - i) (0) (⟨O, Nat.zero_le _, rfl, hO, rfl, by simp [Zt], h.sub sA⟩) ?_; clear h
 rintro i a w ⟨Z, hi, hZl, hZ, hd, hT, h⟩
 refine gC h (zS (zp (.lss rfl rfl) (zn (zs ?_)))); clear h; intro a w h
 refine Zc h rfl (fun hc6 => ?_) (fun hc6 => ?_)
 ·
  skip
  have hi' : i < O.length := by simpa using hc6
  have hzi := Zhf hd (Nat.le_refl i)
  have hzi1 := Zhf hd (Nat.le_succ i)
  have hxi := hO.getD i
  have hxj := hO.getD (i + 1)
  refine wp_skip ?_
  refine cW ?_
  refine Za5 (fun a w => St 32 S w0 [(0, .slice (some ⟨b, 0, none⟩) O.length cp), (3, .slice (some ⟨b, 0, none⟩) O.length cp), (4, .int .i64 (O.length : Int)), (5, .int .i64 (i : Int))] ((b, .cells (Jw (Z.set i (O.getD i 0 / 2 + 2147483648 * (O.getD (i + 1) 0 % 2)))).toArray 23 (0, 0)) :: σr) Φ a w) ?_ ?_
  ·
   skip
   refine gC h (zb (zS (zm rfl (za rfl (zn (zS (zm rfl (zm rfl (zp (.indexAddr rfl rfl (Qy _ _ _ _ _ oo)) (zd rfl mm isAgg23 sizeOf23 ((Zx 0 (by rw [Nat.zero_add]; omega)).trans (by rw [Nat.zero_add, hzi])) ?_))))))))))
   refine zp (.binOp rfl rfl (fun _ => Yy _ _ _ _ 1 dd)) (zp (.indexAddr rfl rfl (Qy _ _ _ _ _ oo)) (zt' rfl rfl ((Yx Z (0 + i) (O.getD i 0 / 2 ^ 1)).trans (by rw [Nat.zero_add])) uu sizeOf23 rfl (by simp; omega) rfl ?_))
   refine zn (zS (zm rfl (zp (.pN (i + 1) (.add rfl rfl)) (zm rfl (zp (.builtin [_] rfl (Zj _ _ _)) (zp (.lss rfl rfl) (zn ?_))))))); intro a w h
   refine cW ?_
   refine Zc h rfl (fun hc18 => ?_) (fun hc18 => ?_)
   ·
    skip
    have hlt2 : i + 1 < O.length := dT hc18
    refine gC h (yD Za [0, 1, 2, 3, 4, 5, 6, 7, 8, 9, 10, 11, 12] (Zb kk) (ym rfl rfl (ym rfl rfl (yp rfl (.indexAddr rfl rfl (Qy _ _ _ _ _ oo)) (yd rfl rfl mm isAgg23 sizeOf23 ((Zx 0 (by rw [Nat.zero_add, List.length_set]; omega)).trans (by rw [Nat.zero_add, Zln oo])) ?_))))); clear h
    refine ym rfl rfl (ym rfl rfl (yp rfl (.pN (i + 1) (.add rfl rfl)) (yp rfl (.indexAddr rfl rfl (Qy _ _ _ _ _ oo)) (yd rfl rfl mm isAgg23 sizeOf23 ((Zx 0 (by rw [Nat.zero_add, List.length_set]; omega)).trans (by rw [Nat.zero_add, Zdy oo, hzi1])) ?_))))
    refine yp rfl (Pure1.cast (v' := .int .u32 ((O.getD (i + 1) 0 * 2 ^ 31 % 4294967296 : Nat) : Int)) (.binOp rfl rfl (fun _ => Zcv _ _ _ _ 31 dd)) (by rw [Jg]; congr 1)) (yp rfl (Pure1.cast (v' := .int .u32 ((O.getD i 0 / 2 + 2147483648 * (O.getD (i + 1) 0 % 2) : Nat) : Int)) (.binOp rfl rfl (fun _ => Zfl rfl _ _ _ _ _ (by show _ < 4294967296; omega) (by show _ < 4294967296; omega))) (by rw [Zw8 _ _ hxi])) (yp rfl (.indexAddr rfl rfl (Qy _ _ _ _ _ oo)) (yt rfl rfl rfl ((Yx (Z.set i (O.getD i 0 / 2 ^ 1)) (0 + i) (O.getD i 0 / 2 + 2147483648 * (O.getD (i + 1) 0 % 2))).trans (by rw [Nat.zero_add, List.set_set])) uu sizeOf23 rfl (by simp; omega) rfl ?_)))
    refine yn ?_; intro a w h
    exact h.sub sA
   ·
    skip
    have hlt2 : O.length ≤ i + 1 := dF hc18
    refine wp_skip ?_
    rw [Vb hlt2, show O.getD i 0 / 2 + 2147483648 * (0 % 2) = O.getD i 0 / 2 ^ 1 from rfl]
    exact h.sub sA
  ·
   clear h
   intro a w h
   refine gC h (zr (zp (.add rfl rfl) (zm rfl (zn ?_)))); clear h; intro a w h
   exact ⟨i + 1, ⟨Z.set i (O.getD i 0 / 2 + 2147483648 * (O.getD (i + 1) 0 % 2)), oo, by simpa using hZl, hZ.set _ _ oo, Zlt hd, Zw9 hi' hZl hd hT, h.sub sA⟩, oo⟩
 ·
  skip
  have hi' : i = O.length := by simp at hc6; omega
  refine wp_exit ?_
  subst hi'
  refine Qa0 h (Zee rfl) ⟨Z, hZ, hZl, Qas oo hZl hT, rfl, rfl⟩ (List.Sublist.refl _) (fun _ h => h)
theorem C_less (b cu : Nat) (p W0 hh : List Nat) (ad : Option Addr) (cv : Nat) (V : List Nat) (dg : Nat) (hW0 : Wd W0) (hV : Wd V) (hl : V.length ≤ 1000000000000) (hWl0 : W0.length = V.length + 1) (hdg : dg < 4294967296)
  (hp : p.length ≤ 1000000000000) (σr : List (Nat × Obj)) (Φ : List Qh) (hΦ : Row ad (Jw V) ∈ Φ) :
  Zmj Tryz.prog 233 [.slice (some ⟨b, p.length, none⟩) (V.length + 1) cu, .slice ad V.length cv, .int .u64 (dg : Int)] ((b, .cells (Jw (p ++ W0 ++ hh)).toArray 23 (0, 0)) :: σr) Φ
   (fun v σ' Φ' => ∃ (W : List Nat) (l : Nat), l ≤ 1 ∧ v = .bool (decide ((l : Int) > 0)) ∧ Wd W ∧ W.length = V.length + 1 ∧ Zt W + dg * Zt V = Zt W0 + 4294967296 ^ (V.length + 1) * l ∧
    σ' = (b, .cells (Jw (p ++ W ++ hh)).toArray 23 (0, 0)) :: σr ∧ Φ' = Φ) := by
 refine fn_introM func233 rfl ntmps233 nb ?_
 intro S w0 a w hS h
 refine gC h (zS (za rfl (zn (zS (za rfl (za rfl (zn (zs (zS (zm rfl (zp (.builtin [_] rfl (Zj _ _ _)) (zm rfl (zn (zb ?_)))))))))))))); clear h; intro a w h
 refine Zg (fun (i : Nat) a w => ∃ (W : List Nat) (c g : Nat), i ≤ V.length ∧ W.length = V.length + 1 ∧ Wd W ∧ c < 4294967296 ∧ g ≤ 1 ∧ Zt W + dg * Zt (V.take i) = Zt W0 + 4294967296 ^ i * (c + g) ∧ St 60 S w0 [(0, .slice (some ⟨b, p.length, none⟩) (V.length + 1) cu), (1, .slice ad V.length cv), (2, .int .u64 (dg : Int)), (7, .int .u64 (c : Int)), (8, .int .u32 (g : Int)), (12, .slice ad V.length cv), (13, .int .i64 (V.length : Int)), (14, .int .i64 (i : Int))] ((b, .cells (Jw (p ++ W ++ hh)).toArray 23 (0, 0)) :: σr) Φ a w) (fun i => V.length - i) (0) (⟨W0, 0, 0, Nat.zero_le _, hWl0, hW0, by decide, by decide, by simp [Zt], h.sub sA⟩) ?_; clear h
 rintro i a w ⟨W, c, g, hi, hWl, hW, hc, hg, hT, h⟩
 refine gC h (zS (zp (.lss rfl rfl) (zn (zs ?_)))); clear h; intro a w h
 refine Zc h rfl (fun hc15 => ?_) (fun hc15 => ?_)
 ·
  skip
  have hi' : i < V.length := by simpa using hc15
  obtain ⟨bV, oV, rfl⟩ := h.row_addr hΦ (by simp; intro e; simp [e] at hi')
  have hwi := hV.getD i
  obtain ⟨hc1, hc2⟩ := Zt6 hc hdg hwi
  have hm := Nat.mod_lt (c + dg * V.getD i 0) (show 0 < 4294967296 by decide)
  refine gC h (zk (zs (zb (zS (zm rfl (zp (.indexAddr rfl rfl (Qy _ _ _ _ _ oo)) (zD rfl hΦ (by simp; omega) isAgg23 sizeOf23 (Zx 0 oo) (.inr rfl) ?_)))))))
  refine za rfl (za rfl (zn (zS (zm rfl (zm rfl (zm rfl (zp (.convert rfl (Ju _ (wrap_u64 _ oo oo))) (zp (Pure1.cast (v' := .int .u64 ((dg * V.getD i 0 : Nat) : Int)) (.binOp rfl rfl (fun _ => Zcw _ _ _ _ _)) (by rw [Gq oo])) (zp (Pure1.cast (v' := .int .u64 ((c + dg * V.getD i 0 : Nat) : Int)) (.binOp rfl rfl (fun _ => Zba _ _ _ _ _)) (by rw [Kd hc1])) (za rfl (zn (zS (zm rfl (zm rfl (zm rfl (zm rfl (zp (.indexAddr rfl rfl (Qy _ _ _ _ _ oo)) (zd rfl mm isAgg23 sizeOf23 ((Zx 0 (by simp; omega)).trans (by rw [Zc8 _ _ _ _ oo])) ?_))))))))))))))))))
  refine zm rfl (zp (Pure1.cast (v' := .int .u32 (((c + dg * V.getD i 0) % 4294967296 : Nat) : Int)) (.convert rfl (Yr _)) (by rw [Jg]; congr 1)) (zm rfl (zv [_, _, _] rfl call210 (Zqi _ _ _ (hW.getD i) hm hg) (zm rfl (zp (.eX rfl) (zp (.eX rfl) (zp (.indexAddr rfl rfl (Qy _ _ _ _ _ oo)) (zt' rfl rfl ((Yx (p ++ W ++ hh) (p.length + i) ((W.getD i 0 + 8589934592 - (c + dg * V.getD i 0) % 4294967296 - g) % 4294967296)).trans (by rw [set_mid _ _ _ _ _ oo])) uu sizeOf23 rfl (by simp; omega) rfl ?_))))))))
  refine za rfl (zn (zr (zm rfl (zp (Pure1.cast (v' := .int .u64 (((c + dg * V.getD i 0) / 4294967296 : Nat) : Int)) (.binOp rfl rfl (fun _ => Yy _ _ _ _ 32 dd)) (by rfl)) (za rfl (zn (zr (zp (.add rfl rfl) (zm rfl (zn ?_)))))))))); intro a w h
  exact ⟨i + 1, ⟨W.set i ((W.getD i 0 + 8589934592 - (c + dg * V.getD i 0) % 4294967296 - g) % 4294967296), _, _, oo, by simpa using hWl, hW.set _ _ (Nat.mod_lt _ dd), hc2, by split <;> omega, Zwv hi' oo hT (Zvn _ _ _ (hW.getD i) hm hg), h.sub sA⟩, oo⟩
 ·
  skip
  have hi' : i = V.length := by simp at hc15; omega
  refine gC h (ze (zS (zm rfl (zp (.builtin [_] rfl (Zj _ _ _)) (za rfl (zn (zS (zm rfl (zm rfl (zm rfl (zm rfl (zp (.indexAddr rfl rfl (Qy _ _ _ _ _ oo)) (zd rfl mm isAgg23 sizeOf23 ((Zx 0 (by simp; omega)).trans (by rw [Zc8 _ _ _ _ oo])) ?_)))))))))))))
  refine zm rfl (zp (Pure1.cast (v' := .int .u32 (c : Int)) (.convert rfl (Yr _)) (by rw [Zfg hc])) (zm rfl (zv [_, _, _] rfl call210 (Zqi _ _ _ (hW.getD V.length) hc hg) (zm rfl (zp (.eX rfl) (zp (.eX rfl) (zp (.indexAddr rfl rfl (Qy _ _ _ _ _ oo)) (zt' rfl rfl ((Yx (p ++ W ++ hh) (p.length + V.length) ((W.getD V.length 0 + 8589934592 - c - g) % 4294967296)).trans (by rw [set_mid _ _ _ _ _ oo])) uu sizeOf23 rfl (by simp; omega) rfl ?_))))))))
  refine za rfl (zn (zS (zm rfl (zp (.gtr rfl rfl) (za rfl (zn (zt ?_))))))); intro a w h
  subst hi'
  refine retM h (Zd h rfl (.tmp rfl)) ⟨W.set V.length ((W.getD V.length 0 + 8589934592 - c - g) % 4294967296), _, ?_, rfl, hW.set _ _ (Nat.mod_lt _ dd), by simpa using hWl, Qaj oo hT (Zvn _ _ _ (hW.getD _) hc hg), rfl, rfl⟩ (List.Sublist.refl _) (fun _ h => h)
  split <;> omega
end
section
theorem Qdb (b off n c lo hi : Nat) (h1 : lo ≤ hi) (h2 : hi ≤ c) (h3 : lo < c) (w : World) : (Instr.sliceAt 217 (.slice (some ⟨b, off, none⟩) n c) (some (.int .i64 (lo : Int))) (some (.int .i64 (hi : Int))) none).run Tryz.prog w = .ok (.slice (some ⟨b, off + lo, none⟩) (hi - lo) (c - lo)) w := by
 simpa using Ztp runUnderlying217 sizeOf23 b off n c lo hi h1 h2 h3 w
theorem C_long (ax : Option Addr) (cx : Nat) (X : List Nat) (ay : Option Addr) (cy : Nat) (Y : List Nat) (hX : Wd X) (hY : Wd Y) (hm : X.length ≤ 500000000000) (hY2 : 2 ≤ Y.length) (hYX : Y.length ≤ X.length) (hlast : Y.getD (Y.length - 1) 0 ≠ 0) :
  Ctr Tryz.prog 209 [.slice ax X.length cx, .slice ay Y.length cy] [Row ax (Jw X), Row ay (Jw Y)]
   (fun v Ψ => ∃ a1 c1 a2 c2 Q R, v = .tuple #[.slice a1 Q.length c1, .slice a2 R.length c2] ∧ Wd Q ∧ Wd R ∧ Q.length ≤ c1 ∧ R.length ≤ c2 ∧ Q.length ≤ X.length + 1 ∧ R.length ≤ X.length + 1 ∧ Zt Q = Zt X / Zt Y ∧ Zt R = Zt X % Zt Y ∧ Ψ = [Row a1 (Jw Q), Row a2 (Jw R)]) := by
 obtain ⟨e, he⟩ : ∃ e, Y.length = e + 2 := ⟨Y.length - 2, oo⟩
 rw [show Y.length - 1 = e + 1 by omega] at hlast
 refine fn_intro func209 rfl ntmps209 nb ?_
 intro S w0 a hS h
 refine gC h (zS (za rfl (za rfl (zn (zS ?_))))); clear h; intro a w h
 have hlt : 0 < Y.length := oo
 obtain ⟨bY, bYo, bYe⟩ := h.row_addr (ad := ay) (M := Jw Y) ss (by simp; intro e; simp [e] at hlt)
 subst bYe
 refine gL h (zm rfl (zm rfl (zp (.builtin [_] rfl (Zj _ _ _)) (zp (.pQ (e + 1) (.sub rfl rfl)) (zp (.indexAddr rfl rfl (Qy _ _ _ _ _ oo)) (zD rfl mm (by simp; omega) isAgg23 sizeOf23 (Zx 0 oo) (.inr rfl) ?_))))))
 refine zv [_] rfl call231 (Zht _ (hY.getD _)) ?_; intro a w h
 obtain ⟨hs, hn1, hn2⟩ := Zws (last := Y.getD (e + 1) 0) hlast (hY.getD _) rfl
 generalize 32 - Zdh (Y.getD (e + 1) 0) = s at h hs hn1 hn2
 refine gL h (za rfl (zn (zs (yD Za [0, 1, 3, 4, 6, 7, 2, 5, 8, 9, 10] (Zb kk) (ym rfl rfl (ym rfl rfl (ym rfl rfl (ym rfl rfl (ym rfl rfl (yp rfl (.builtin [_] rfl (Zj _ _ _)) ?_)))))))))); clear h
 refine Zem rfl kk (vs := [_, _]) rfl call232 (Zog ax cx X s hX oo hs) ss dd ?_; rintro v26 σ26 ⟨b26, Z0, rfl, hZ0, hZ0l, hZ0v, rfl⟩
 refine Zem rfl kk (vs := [_, _]) rfl call232 (Zog _ cy Y s hY oo hs) ss dd ?_; rintro v29 σ29 ⟨b29, V0, rfl, hV0, hV0l, hV0v, rfl⟩
 refine yp rfl (.slice rfl none (some _) none rfl rfl rfl (Zvo _ _ _ _ oo)) (yp rfl (.assign rfl) (yp rfl (.assign rfl) (yn (zS ?_)))); intro a w h
 replace h := h.shareAll hS (Jw V0) rfl
 replace h := h.derive (R := Row (some ⟨b29, 0, none⟩) (Jw (V0.take Y.length))) (fun X hX => by rw [Jw, List.map_take]; exact Zed (hX _ List.mem_cons_self) _)
 obtain ⟨hVv, hv1⟩ := Zm9 hY he hs hn1 hn2 hV0 hV0v
 have hVl : (V0.take Y.length).length = Y.length := by simp; omega
 have hV : Wd (V0.take Y.length) := hV0.take _
 generalize hVd : V0.take Y.length = V at h hVv hv1 hVl hV
 rw [← hVl] at h
 have hVe : V.length = e + 2 := oo
 have hYge : 4294967296 ^ (V.length - 1) ≤ Zt Y := by
  have h1 := Jh Y (e + 1) oo
  rw [show e + 1 + 1 = Y.length by omega, List.take_length] at h1
  rw [show V.length - 1 = e + 1 by omega, h1]
  have := Nat.mul_le_mul_left (4294967296 ^ (e + 1)) (Nat.pos_of_ne_zero hlast)
  omega
 obtain ⟨M, hM⟩ : ∃ M, Z0.length = M + V.length := ⟨Z0.length - V.length, oo⟩
 refine gL h (zm rfl (zp (Pure1.cast (v' := .int .i64 (V.length : Int)) (.builtin [_] rfl (Zj _ _ _)) (by rfl)) (za rfl (zn (zS (zm rfl (zp (.builtin [_] rfl (Zj _ _ _)) (zm rfl (zp (.pQ M (.sub rfl rfl)) ?_))))))))); clear h; intro a w h
 refine Zh (Xo h rfl rfl runUnderlying217 typeInfo23 sizeOf23 zeroValue23 rfl dd (by exact Nat.le_refl _) (by show 4 * _ ≤ _; omega) oo dd ?_); clear h; intro b39 a w h
 rw [show (Value.int .u32 0).cells.toList = [Value.int .u32 0] from rfl, Zcz, show List.replicate M (Value.int .u32 0) = Jw (List.replicate M 0) from by simp] at h
 refine gL h (za rfl (zn (zs (zS (zm rfl (zp (.builtin [_] rfl (Zj _ _ _)) (zp (.sub rfl rfl) (za rfl (zn (zb ?_)))))))))); clear h; intro a w h
 refine Zg (fun (κ : Nat) a w => ∃ (Z Q : List Nat), κ ≤ M ∧ Z.length = Z0.length ∧ Wd Z ∧ Q.length = M ∧ Wd Q ∧ Zt Z + 4294967296 ^ κ * (Zt V * Zt (Q.drop κ)) = Zt Z0 ∧ Zt (Z.drop κ) < Zt V ∧ St 175 S w0 [(4, .slice (some ⟨b39, 0, none⟩) M M), (6, .int .i64 (s : Int)), (7, .slice (some ⟨b26, 0, none⟩) Z0.length Z0.length), (8, .slice (some ⟨b29, 0, none⟩) V.length V0.length), (9, .int .i64 (V.length : Int)), (10, .int .i64 ((κ : Int) - 1))] [(b26, .cells (Jw Z).toArray 23 (0, 0)), (b39, .cells (Jw Q).toArray 23 (0, 0))] [Row (some ⟨b29, 0, none⟩) (Jw V)] a w) (fun κ => κ) (M) (⟨Z0, List.replicate M 0, Nat.le_refl _, rfl, hZ0, by simp, Wd.zeros _, by simp [Zt], by rw [hVv]; exact Zt3 hX hZ0v hYge oo oo, ((h.perm (List.Perm.swap _ _ _)).factsSub (by simp)).sub (Zff ⟨rfl, rfl, rfl, rfl, rfl, rfl, trivial⟩)⟩) ?_; clear h
 rintro κ a w ⟨Z, Q, hκ, hZl, hZ, hQl, hQ, hT, hR, h⟩
 refine gC h (zs (zS (zm rfl (zp (.geq rfl rfl) (zn ?_))))); clear h; intro a w h
 refine cW ?_
 refine Zc h rfl (fun hc44 => ?_) (fun hc44 => ?_)
 ·
  skip
  have hκ0 : 0 < κ := by simp at hc44; omega
  obtain ⟨p, W, hh, rfl, hp, hWl, hpw, hWw, hhw, hh0, hUlt⟩ := Zpl (k := κ - 1) (n := V.length) hZ oo (Yw hV) (by rw [Nat.sub_add_cancel hκ0]; exact hR)
  obtain rfl : κ = p.length + 1 := oo
  have hU3 := Zva (l := W) (e := e) oo
  have hV2 := Zmn (l := V) (e := e) oo
  have hlu := Vt hWw e
  have hlv := Vt hV e
  have hw2 := hWw.getD (e + 2)
  have hw1 := hWw.getD (e + 1)
  have hw0 := hWw.getD e
  have hvv1 := hV.getD (e + 1)
  have hvv2 := hV.getD e
  refine gC h (zk (zs (zb (zc (zs (yD Za [0, 1, 2, 3, 4, 5, 6, 7, 8, 9, 10, 11, 12, 13, 14, 15, 16, 17] (Zb kk) (ym rfl rfl (yp rfl (.pQ p.length (.move rfl)) (ym rfl rfl (yp rfl (.pQ (p.length + (e + 2)) (.add rfl rfl)) (yp rfl (.indexAddr rfl rfl (Qy _ _ _ _ _ oo)) (yd rfl rfl mm isAgg23 sizeOf23 ((Zx 0 (by simp; omega)).trans (by rw [Nat.zero_add, Zc8 _ _ _ _ oo])) ?_)))))))))))); clear h
  refine yp rfl (.convert rfl (Ju _ (wrap_u64 _ oo oo))) (yp rfl (Pure1.cast (v' := .int .u64 ((W.getD (e + 2) 0 * 4294967296 : Nat) : Int)) (.binOp rfl rfl (fun _ => Zcv _ _ _ _ 32 dd)) (by rw [wrap_u64 _ oo oo])) (ym rfl rfl (yp rfl (.pQ p.length (.move rfl)) (ym rfl rfl (yp rfl (.pQ (p.length + (e + 2)) (.add rfl rfl)) (yp rfl (.pQ (p.length + (e + 1)) (.sub rfl rfl)) (yp rfl (.indexAddr rfl rfl (Qy _ _ _ _ _ oo)) (yd rfl rfl mm isAgg23 sizeOf23 ((Zx 0 (by simp; omega)).trans (by rw [Nat.zero_add, Zc8 _ _ _ _ oo])) ?_))))))))
  refine yp rfl (.convert rfl (Ju _ (wrap_u64 _ oo oo))) (yp rfl (Pure1.cast (v' := .int .u64 ((4294967296 * W.getD (e + 2) 0 + W.getD (e + 1) 0 : Nat) : Int)) (.binOp rfl rfl (fun _ => Zfl rfl _ _ _ _ _ (by show _ < 18446744073709551616; omega) (by show _ < 18446744073709551616; omega))) (by rw [or_hi _ _ hw1])) (yp rfl (.assign rfl) ?_))
  have htl : 4294967296 * W.getD (e + 2) 0 + W.getD (e + 1) 0 < 18446744073709551616 := oo
  have htop := top_lt hU3 hV2 hvv2 hlv hUlt
  generalize hTop : 4294967296 * W.getD (e + 2) 0 + W.getD (e + 1) 0 = top at hU3 htl htop ⊢
  refine yn (zs (yD Za [0, 1, 2, 3, 4, 5, 6, 7, 8, 9, 10, 11, 12, 13, 14, 15, 16, 17] (Zb kk) (ym rfl rfl (ym rfl rfl (ym rfl rfl (yp rfl (.pQ (e + 1) (.sub rfl rfl)) (yp rfl (.indexAddr rfl rfl (Qy _ _ _ _ _ oo)) ?_)))))))
  refine Zm rfl kk rfl mm (by simp; omega) isAgg23 sizeOf23 (Zx 0 oo) (.inr rfl) dd ?_
  refine yp rfl (.convert rfl (Ju _ (wrap_u64 _ oo oo))) (yp rfl (Pure1.cast (v' := .int .u64 ((top / V.getD (e + 1) 0 : Nat) : Int)) (.binOp rfl rfl (fun _ => Ys _ _ _ _ _ oo)) (by rw [Xp, Zdl (Nat.lt_of_le_of_lt (Nat.div_le_self _ _) htl)])) (ym rfl rfl (ym rfl rfl (ym rfl rfl (yp rfl (.pQ (e + 1) (.sub rfl rfl)) (yp rfl (.indexAddr rfl rfl (Qy _ _ _ _ _ oo)) ?_))))))
  refine Zm rfl kk rfl mm (by simp; omega) isAgg23 sizeOf23 (Zx 0 oo) (.inr rfl) dd ?_
  refine yp rfl (.convert rfl (Ju _ (wrap_u64 _ oo oo))) (yp rfl (Pure1.cast (v' := .int .u64 ((top % V.getD (e + 1) 0 : Nat) : Int)) (.binOp rfl rfl (fun _ => Ye _ _ _ _ _ oo)) (by rw [Xl])) (yp rfl (.assign rfl) (yp rfl (.assign rfl) (yn (zs (zl ?_)))))); intro a w h
  refine cW ?_
  refine Za5 (fun a w => ∃ dg : Nat, dg < 4294967296 ∧ dg * Zt V ≤ Zt W + Zt V ∧ Zt W < (dg + 1) * Zt V ∧ St 175 S w0 [(4, .slice (some ⟨b39, 0, none⟩) M M), (6, .int .i64 (s : Int)), (7, .slice (some ⟨b26, 0, none⟩) Z0.length Z0.length), (8, .slice (some ⟨b29, 0, none⟩) V.length V0.length), (9, .int .i64 (V.length : Int)), (10, .int .i64 (((p.length + 1 : Nat) : Int) - 1)), (12, .int .u64 (dg : Int))] [(b26, .cells (Jw (p ++ W ++ hh)).toArray 23 (0, 0)), (b39, .cells (Jw Q).toArray 23 (0, 0))] [Row (some ⟨b29, 0, none⟩) (Jw V)] a w) ?_ ?_
  ·
   skip
   refine wp_block ?_
   refine Zg (fun (dg : Nat) a w => ∃ rest : Nat, dg * V.getD (e + 1) 0 + rest = top ∧ Zt W < (dg + 1) * Zt V ∧ rest < 8589934592 ∧ St 175 S w0 [(4, .slice (some ⟨b39, 0, none⟩) M M), (6, .int .i64 (s : Int)), (7, .slice (some ⟨b26, 0, none⟩) Z0.length Z0.length), (8, .slice (some ⟨b29, 0, none⟩) V.length V0.length), (9, .int .i64 (V.length : Int)), (10, .int .i64 (((p.length + 1 : Nat) : Int) - 1)), (12, .int .u64 (dg : Int)), (13, .int .u64 (rest : Int))] [(b26, .cells (Jw (p ++ W ++ hh)).toArray 23 (0, 0)), (b39, .cells (Jw Q).toArray 23 (0, 0))] [Row (some ⟨b29, 0, none⟩) (Jw V)] a w) (fun dg => dg) (top / V.getD (e + 1) 0) (⟨top % V.getD (e + 1) 0, by rw [Nat.mul_comm]; exact Nat.div_add_mod _ _, Zuj hU3 hV2 hw0 hlu oo, Nat.lt_trans (Nat.mod_lt _ oo) oo, h.sub sA⟩) ?_; clear h
   rintro dg a w ⟨rest, hIg, hUd, hrest, h⟩
   have hdgle := Qa5 hIg htop hv1
   refine gC h (zs (zS (zm rfl (zp (.leq rfl rfl) (zn ?_))))); clear h; intro a w h
   refine cW ?_
   refine Zc h rfl (fun hc81 => ?_) (fun hc81 => ?_)
   ·
    skip
    have hr : rest < 4294967296 := dT hc81
    refine gC h (zk (zb (zs (zs (yD Za [0, 1, 2, 3, 4, 5, 6, 7, 8, 9, 10, 11, 12, 13, 14, 15, 16, 17, 18, 19, 20, 21, 22, 23] (Zb kk) (ym rfl rfl (yp rfl (.leq rfl rfl) (ym rfl rfl ?_)))))))); clear h
    refine Zs (fun hc84  => ?_) (fun hc84  => ?_)
    ·
     skip
     have hdg : dg < 4294967296 := dT hc84
     have hmul := Zaa hdg hvv2
     refine yq rfl rfl rfl (.move rfl) (yq rfl rfl rfl (.move rfl) (yq rfl rfl rfl (.move rfl) (yq rfl rfl rfl (.pQ e (.sub rfl rfl)) (yq rfl rfl rfl (.indexAddr rfl rfl (Qy _ _ _ _ _ oo)) ?_))))
     refine Zav rfl rfl rfl kk rfl mm (by simp; omega) isAgg23 sizeOf23 (Zx 0 oo) (.inr rfl) dd ?_
     refine yq rfl rfl rfl (.convert rfl (Ju _ (wrap_u64 _ oo oo))) (yq rfl rfl rfl (Pure1.cast (v' := .int .u64 ((dg * V.getD e 0 : Nat) : Int)) (.binOp rfl rfl (fun _ => Zcw _ _ _ _ _)) (by rw [Gq oo])) (yq rfl rfl rfl (.move rfl) (yq rfl rfl rfl (Pure1.cast (v' := .int .u64 ((rest * 4294967296 : Nat) : Int)) (.binOp rfl rfl (fun _ => Zcv _ _ _ _ 32 dd)) (by rw [wrap_u64 _ oo oo])) (yq rfl rfl rfl (.move rfl) (yq rfl rfl rfl (.pQ p.length (.move rfl)) (yq rfl rfl rfl (.move rfl) (yq rfl rfl rfl (.pQ (p.length + (e + 2)) (.add rfl rfl)) (yq rfl rfl rfl (.pQ (p.length + e) (.sub rfl rfl)) (yq rfl rfl rfl (.indexAddr rfl rfl (Qy _ _ _ _ _ oo)) (yg rfl rfl rfl rfl mm isAgg23 sizeOf23 ((Zx 0 (by simp; omega)).trans (by rw [Nat.zero_add, Zc8 _ _ _ _ oo])) ?_))))))))))
     refine yq rfl rfl rfl (.convert rfl (Ju _ (wrap_u64 _ oo oo))) (yq rfl rfl rfl (Pure1.cast (v' := .int .u64 ((4294967296 * rest + W.getD e 0 : Nat) : Int)) (.binOp rfl rfl (fun _ => Zfl rfl _ _ _ _ _ (by show _ < 18446744073709551616; omega) (by show _ < 18446744073709551616; omega))) (by rw [or_hi _ _ hw0])) (yq rfl rfl rfl (.leq rfl rfl) ?_))
     refine Zs (fun hc104  => ?_) (fun hc104  => ?_)
     ·
      skip
      have hle : dg * V.getD e 0 ≤ 4294967296 * rest + W.getD e 0 := by have := of_decide_eq_true hc104; exact_mod_cast this
      refine yp rfl (.pickT rfl rfl) (yn ?_); intro a w h
      refine cW ?_
      refine Zp h rfl ?_
      refine wp_exit ?_
      exact ⟨dg, hdg, Znm hU3 hV2 oo hvv2 hlv hIg oo (.inr hle), hUd, h.sub sA⟩
     ·
      skip
      have hcase : 4294967296 ≤ dg ∨ 4294967296 * rest + W.getD e 0 < dg * V.getD e 0 := .inr (by have := of_decide_eq_false hc104; exact Nat.lt_of_not_le fun hh => this (by exact_mod_cast hh))
      refine yp rfl (.pickT rfl rfl) (yn ?_); intro a w h
      refine cW ?_
      refine Zk h rfl ?_
      refine wp_skip (wp_seq (wp_region_lit ?_))
      have hnext := Znn hU3 hV2 hlu hIg hUlt hcase
      have hdg0 : 0 < dg := Nat.pos_of_ne_zero fun h0 => by subst h0; simp at hnext
      refine gL h (zm rfl (zp (Pure1.cast (v' := .int .u64 ((dg - 1 : Nat) : Int)) (.binOp rfl rfl (fun _ => Ze2 _ _ _ _ _)) (by rw [wrap_u64 _ oo oo]; congr 1; omega)) (za rfl (zn (zr (zm rfl (zm rfl (zm rfl (zp (.pQ (e + 1) (.sub rfl rfl)) (zp (.indexAddr rfl rfl (Qy _ _ _ _ _ oo)) (zD rfl mm (by simp; omega) isAgg23 sizeOf23 (Zx 0 oo) (.inr rfl) ?_)))))))))))
      refine zp (.convert rfl (Ju _ (wrap_u64 _ oo oo))) (zp (Pure1.cast (v' := .int .u64 ((rest + V.getD (e + 1) 0 : Nat) : Int)) (.binOp rfl rfl (fun _ => Zba _ _ _ _ _)) (by rw [Kd oo])) (za rfl (zn ?_))); intro a w h
      exact ⟨dg - 1, ⟨rest + V.getD (e + 1) 0, Zki hIg hdg0, by rw [Nat.sub_add_cancel hdg0]; exact hnext, oo, h.sub sA⟩, oo⟩
    ·
     skip
     have hcase : 4294967296 ≤ dg ∨ 4294967296 * rest + W.getD e 0 < dg * V.getD e 0 := .inl (dF hc84)
     refine yo 84 rfl rfl rfl rfl (yo 84 rfl rfl rfl rfl (yo 84 rfl rfl rfl rfl (yo 84 rfl rfl rfl rfl (yo 84 rfl rfl rfl rfl (yo 84 rfl rfl rfl rfl (yo 84 rfl rfl rfl rfl (yo 84 rfl rfl rfl rfl (yo 84 rfl rfl rfl rfl (yo 84 rfl rfl rfl rfl (yo 84 rfl rfl rfl rfl (yo 84 rfl rfl rfl rfl (yo 84 rfl rfl rfl rfl (yo 84 rfl rfl rfl rfl (yo 84 rfl rfl rfl rfl (yo 84 rfl rfl rfl rfl (yo 84 rfl rfl rfl rfl (yo 84 rfl rfl rfl rfl (yo 84 rfl rfl rfl rfl (yo 84 rfl rfl rfl rfl (yp rfl (.pickF rfl rfl) (yn ?_))))))))))))))))))))); intro a w h
     refine cW ?_
     refine Zk h rfl ?_
     refine wp_skip (wp_seq (wp_region_lit ?_))
     have hnext := Znn hU3 hV2 hlu hIg hUlt hcase
     have hdg0 : 0 < dg := Nat.pos_of_ne_zero fun h0 => by subst h0; simp at hnext
     refine gL h (zm rfl (zp (Pure1.cast (v' := .int .u64 ((dg - 1 : Nat) : Int)) (.binOp rfl rfl (fun _ => Ze2 _ _ _ _ _)) (by rw [wrap_u64 _ oo oo]; congr 1; omega)) (za rfl (zn (zr (zm rfl (zm rfl (zm rfl (zp (.pQ (e + 1) (.sub rfl rfl)) (zp (.indexAddr rfl rfl (Qy _ _ _ _ _ oo)) (zD rfl mm (by simp; omega) isAgg23 sizeOf23 (Zx 0 oo) (.inr rfl) ?_)))))))))))
     refine zp (.convert rfl (Ju _ (wrap_u64 _ oo oo))) (zp (Pure1.cast (v' := .int .u64 ((rest + V.getD (e + 1) 0 : Nat) : Int)) (.binOp rfl rfl (fun _ => Zba _ _ _ _ _)) (by rw [Kd oo])) (za rfl (zn ?_))); intro a w h
     exact ⟨dg - 1, ⟨rest + V.getD (e + 1) 0, Zki hIg hdg0, by rw [Nat.sub_add_cancel hdg0]; exact hnext, oo, h.sub sA⟩, oo⟩
   ·
    skip
    have hr : 4294967296 ≤ rest := dF hc81
    refine wp_exit ?_
    have hdg := Zp5 hIg htop hr
    exact ⟨dg, hdg, Znm hU3 hV2 oo hvv2 hlv hIg oo (.inl hr), hUd, h.sub sA⟩
  ·
   clear h
   rintro a w ⟨dg, hdg, hend, hUd, h⟩
   refine Za5 (fun a w => ∃ (W3 : List Nat) (dg : Nat), dg < 4294967296 ∧ Wd W3 ∧ W3.length = V.length + 1 ∧ Zt W3 + dg * Zt V = Zt W ∧ Zt W3 < Zt V ∧ St 175 S w0 [(4, .slice (some ⟨b39, 0, none⟩) M M), (6, .int .i64 (s : Int)), (7, .slice (some ⟨b26, 0, none⟩) Z0.length Z0.length), (8, .slice (some ⟨b29, 0, none⟩) V.length V0.length), (9, .int .i64 (V.length : Int)), (10, .int .i64 (((p.length + 1 : Nat) : Int) - 1)), (12, .int .u64 (dg : Int))] [(b26, .cells (Jw (p ++ W3 ++ hh)).toArray 23 (0, 0)), (b39, .cells (Jw Q).toArray 23 (0, 0))] [Row (some ⟨b29, 0, none⟩) (Jw V)] a w) ?_ ?_
   ·
    skip
    refine gC h (zS (zm rfl (zp (.pQ p.length (.move rfl)) (zp (.pQ p.length (.move rfl)) (zm rfl (zp (.pQ (p.length + V.length) (.add rfl rfl)) (zp (.pQ (p.length + V.length + 1) (.add rfl rfl)) (zp (Pure1.cast (v' := .slice (some ⟨b26, p.length, none⟩) (V.length + 1) (Z0.length - p.length)) (.slice rfl (some _) (some _) none rfl rfl rfl (Qdb _ _ _ _ _ _ oo oo oo)) (by rw [Nat.zero_add, show p.length + V.length + 1 - p.length = V.length + 1 by omega])) (zm rfl (zm rfl ?_)))))))))); clear h; intro a w h
    refine Zh (Zat h hS (vs := [_, _, _]) rfl call233 (C_less b26 (Z0.length - p.length) p W hh (some ⟨b29, 0, none⟩) V0.length V dg hWw hV oo hWl hdg oo [(b39, .cells (Jw Q).toArray 23 (0, 0))] [Row (some ⟨b29, 0, none⟩) (Jw V)] List.mem_cons_self) (List.Perm.refl _) ss ss ?_); clear h; rintro v125 σ125 Ψ125 a w ⟨W1, l, hl, rfl, hW1, hW1l, hW1v, rfl, rfl⟩ h
    refine wpList_nil ?_
    refine cW ?_
    refine Zc h rfl (fun hc125 => ?_) (fun hc125 => ?_)
    ·
     skip
     have hl1 : 0 < l := dT hc125
     have hW1lt := Yw hW1
     rw [hW1l] at hW1lt
     have hdg0 : 0 < dg := Nat.pos_of_ne_zero fun e0 => by
      subst e0
      obtain rfl : l = 1 := oo
      omega
     refine gC h (zS (zm rfl (zp (Pure1.cast (v' := .int .u64 ((dg - 1 : Nat) : Int)) (.binOp rfl rfl (fun _ => Ze2 _ _ _ _ _)) (by rw [wrap_u64 _ oo oo]; congr 1; omega)) (za rfl (zn (zS (za rfl (zn (zs (zS (zm rfl (zp (.builtin [_] rfl (Zj _ _ _)) (zm rfl (zn (zb ?_))))))))))))))); clear h; intro a w h
     refine Zg (fun (i : Nat) a w => ∃ (W2 : List Nat) (c : Nat), i ≤ V.length ∧ W2.length = V.length + 1 ∧ Wd W2 ∧ c ≤ 1 ∧ Zt W2 + 4294967296 ^ i * (c + Zt (V.drop i)) = Zt W1 + Zt V ∧ St 175 S w0 [(4, .slice (some ⟨b39, 0, none⟩) M M), (6, .int .i64 (s : Int)), (7, .slice (some ⟨b26, 0, none⟩) Z0.length Z0.length), (8, .slice (some ⟨b29, 0, none⟩) V.length V0.length), (9, .int .i64 (V.length : Int)), (10, .int .i64 (((p.length + 1 : Nat) : Int) - 1)), (12, .int .u64 ((dg - 1 : Nat) : Int)), (14, .int .u32 (c : Int)), (128, .slice (some ⟨b29, 0, none⟩) V.length V0.length), (129, .int .i64 (V.length : Int)), (130, .int .i64 (i : Int))] [(b26, .cells (Jw (p ++ W2 ++ hh)).toArray 23 (0, 0)), (b39, .cells (Jw Q).toArray 23 (0, 0))] [Row (some ⟨b29, 0, none⟩) (Jw V)] a w) (fun i => V.length - i) (0) (⟨W1, 0, Nat.zero_le _, hW1l, hW1, by decide, by simp, h.sub sA⟩) ?_; clear h
     rintro i a w ⟨W2, c, hi, hW2l, hW2, hc, hT2, h⟩
     refine gC h (zS (zp (.lss rfl rfl) (zn (zs ?_)))); clear h; intro a w h
     refine Zc h rfl (fun hc131 => ?_) (fun hc131 => ?_)
     ·
      skip
      have hi' : i < V.length := by simpa using hc131
      refine gC h (zk (zs (zb (zS (zm rfl (zp (.indexAddr rfl rfl (Qy _ _ _ _ _ oo)) (zD rfl mm (by simp; omega) isAgg23 sizeOf23 (Zx 0 oo) (.inr rfl) ?_)))))))
      refine za rfl (za rfl (zn (zr (zm rfl (zp (.pQ p.length (.move rfl)) (zm rfl (zp (.pQ (p.length + i) (.add rfl rfl)) (zm rfl (zp (.pQ p.length (.move rfl)) (zm rfl (zp (.pQ (p.length + i) (.add rfl rfl)) (zp (.indexAddr rfl rfl (Qy _ _ _ _ _ oo)) (zd rfl mm isAgg23 sizeOf23 ((Zx 0 (by simp; omega)).trans (by rw [Nat.zero_add, Zc8 _ _ _ _ oo])) ?_)))))))))))))
      refine zm rfl (zm rfl (zv [_, _, _] rfl call205 (Zy9 _ _ _ (hW2.getD i) (hV.getD i) hc) (zm rfl (zp (.eX rfl) (zp (.eX rfl) (zp (.indexAddr rfl rfl (Qy _ _ _ _ _ oo)) (zt' rfl rfl ((Yx (p ++ W2 ++ hh) (0 + (p.length + i)) ((W2.getD i 0 + V.getD i 0 + c) % 4294967296)).trans (by rw [Nat.zero_add, set_mid _ _ _ _ _ oo])) uu sizeOf23 rfl (by simp; omega) rfl ?_)))))))
      refine za rfl (zn (zr (zp (.add rfl rfl) (zm rfl (zn ?_))))); intro a w h
      refine ⟨i + 1, ⟨W2.set i ((W2.getD i 0 + V.getD i 0 + c) % 4294967296), _, oo, by simpa using hW2l, hW2.set _ _ (Nat.mod_lt _ dd), ?_, Zl4 oo hT2, h.sub sA⟩, oo⟩
      have hz := hW2.getD i
      have hy := hV.getD i
      omega
     ·
      skip
      have hi' : i = V.length := by simp at hc131; omega
      subst hi'
      refine gC h (ze (zr (zm rfl (zp (.pQ p.length (.move rfl)) (zm rfl (zp (.pQ (p.length + V.length) (.add rfl rfl)) (zp (.indexAddr rfl rfl (Qy _ _ _ _ _ oo)) (zd rfl mm isAgg23 sizeOf23 ((Zx 0 (by simp; omega)).trans (by rw [Nat.zero_add, Zc8 _ _ _ _ oo])) ?_))))))))
      refine zm rfl (zp (Pure1.cast (v' := .int .u32 ((((W2.getD V.length 0 + c) % 4294967296) : Nat) : Int)) (.binOp rfl rfl (fun _ => Zba _ _ _ _ _)) (by rw [Jg]; congr 1)) (zp (.indexAddr rfl rfl (Qy _ _ _ _ _ oo)) (zt' rfl rfl ((Yx (p ++ W2 ++ hh) (0 + (p.length + V.length)) ((W2.getD V.length 0 + c) % 4294967296)).trans (by rw [Nat.zero_add, set_mid _ _ _ _ _ oo])) uu sizeOf23 rfl (by simp; omega) rfl ?_))); intro a w h
      refine wpList_nil ?_
      have hst := Zl4 (Z := W2) (Y := V) (i := V.length) oo hT2
      rw [Vb (Nat.le_refl V.length), Nat.add_zero, List.drop_eq_nil_of_le (by omega : V.length ≤ V.length + 1)] at hst
      simp only [Zt, Nat.add_zero] at hst
      have hW3 : Wd (W2.set V.length ((W2.getD V.length 0 + c) % 4294967296)) := hW2.set _ _ (Nat.mod_lt _ dd)
      have hlt3 := Yw hW3
      rw [List.length_set, hW2l] at hlt3
      obtain ⟨_, hk1, hk2⟩ := Zua hW1v hl hW1lt hend (Nat.le_of_lt (Nat.lt_of_lt_of_le (Yw hV) (Nat.pow_le_pow_right dd (Nat.le_succ _)))) hl1 hst hlt3
      exact ⟨_, dg - 1, oo, hW3, by rw [List.length_set, hW2l], hk1, hk2, h.sub sA⟩
    ·
     skip
     have hl1 : ¬ 0 < l := dF hc125
     have hW1lt := Yw hW1
     rw [hW1l] at hW1lt
     refine wp_skip ?_
     obtain ⟨hk1, hk2⟩ := Qao hW1v hW1lt hl hUd hl1
     exact ⟨W1, dg, hdg, hW1, hW1l, hk1, hk2, h.sub sA⟩
   ·
    clear h
    clear hdg hend hUd
    rintro a w ⟨W3, dg, hdg, hW3, hW3l, hk1, hk2, h⟩
    refine gC h (zr (zm rfl (zp (.pQ p.length (.move rfl)) (zm rfl (zp (Pure1.cast (v' := .int .u32 (dg : Int)) (.convert rfl (Yr _)) (by rw [Zfg hdg])) (zp (.indexAddr rfl rfl (Qy _ _ _ _ _ oo)) (zt' rfl rfl ((Yx Q (0 + p.length) dg).trans (by rw [Nat.zero_add])) uu sizeOf23 rfl (by simp; omega) rfl ?_)))))))
    refine zn (zr (zp (.pQ p.length (.move rfl)) (zp (.sub rfl rfl) (za rfl (zn ?_))))); intro a w h
    exact ⟨p.length, ⟨p ++ W3 ++ hh, Q.set p.length dg, oo, by simp at hZl ⊢; omega, (hpw.append hW3).append hhw, by simpa using hQl, hQ.set _ _ hdg, Zwq oo oo hT hk1, Zwr hh0 hk2, h.sub sA⟩, oo⟩
 ·
  skip
  have hκ0 : κ = 0 := by simp at hc44; omega
  subst hκ0
  refine gC h (ze (zs (zS (zm rfl (zm rfl (zn (zb ?_))))))); clear h; intro a w h
  refine Zg (fun (i : Nat) a w => ∃ R : List Nat, i ≤ s ∧ Wd R ∧ R.length = Z0.length ∧ Zt R = Zt Z / 2 ^ i ∧ St 175 S w0 [(4, .slice (some ⟨b39, 0, none⟩) M M), (6, .int .i64 (s : Int)), (7, .slice (some ⟨b26, 0, none⟩) R.length Z0.length), (167, .int .i64 (s : Int)), (168, .int .i64 (i : Int))] [(b26, .cells (Jw R).toArray 23 (0, 0)), (b39, .cells (Jw Q).toArray 23 (0, 0))] [Row (some ⟨b29, 0, none⟩) (Jw V)] a w) (fun i => s - i) (0) (⟨Z, Nat.zero_le _, hZ, hZl, by simp, by rw [hZl]; exact h.sub sA⟩) ?_; clear h
  rintro i a w ⟨R, hi, hR, hRl, hRv, h⟩
  refine gC h (zS (zp (.lss rfl rfl) (zn (zs ?_)))); clear h; intro a w h
  refine Zc h rfl (fun hc169 => ?_) (fun hc169 => ?_)
  ·
   skip
   have hi' : i < s := by simpa using hc169
   refine gC h (zk (zs (zb (zr (zm rfl ?_))))); clear h; intro a w h
   refine Zh (Zat h hS (vs := [_]) rfl call234 (C_half b26 Z0.length R hR oo [(b39, .cells (Jw Q).toArray 23 (0, 0))] [Row (some ⟨b29, 0, none⟩) (Jw V)]) (List.Perm.refl _) ss ss ?_); clear h; rintro v171 σ171 Ψ171 a w ⟨R2, hR2, hR2l, hR2v, rfl, rfl⟩ h
   refine gL h (zn (zr (zp (.add rfl rfl) (zm rfl (zn ?_))))); clear h; intro a w h
   exact ⟨i + 1, ⟨R2, oo, hR2, oo, by rw [hR2v, hRv, Nat.div_div_eq_div_mul, ← Nat.pow_succ], by rw [hR2l]; exact h.sub sA⟩, oo⟩
  ·
   skip
   have hi' : i = s := by simp at hc169; omega
   refine gC h (ze (zS (zm rfl (zm rfl (za rfl (za rfl (zn (zt ?_)))))))); clear h; intro a w h
   subst hi'
   simp only [List.drop_zero, Nat.pow_zero, Nat.one_mul] at hT hR
   obtain ⟨hq, hr⟩ := Zt4 (hT.trans hZ0v) ‹Zt Z < Zt V› hVv
   replace h := h.shareAll hS (Jw R) rfl
   replace h := h.shareAll hS (Jw Q) rfl
   rw [← hQl] at h
   refine Qk (Ψ := [Row (some ⟨b39, 0, none⟩) (Jw Q), Row (some ⟨b26, 0, none⟩) (Jw R)]) h (Jv h rfl (.tmp rfl) (.tmp rfl)) ⟨_, _, _, _, Q, R, rfl, hQ, ‹Wd R›, oo, by omega, oo, by omega, hq, by rw [hRv, hr], rfl⟩ ss
end
section
theorem Zu7 {m : Nat} (h : m ≠ 0) : (wds m).getD ((wds m).length - 1) 0 ≠ 0 := by
 have hne : wds m ≠ [] := fun e => h (by rw [← Qv m, e]; rfl)
 have := Zhx m hne
 rw [List.getLast_eq_getElem] at this
 have hl : (wds m).length - 1 < (wds m).length := by have := List.length_pos_iff.2 hne; omega
 simpa [List.getD, hl] using this
theorem Zoo {m : Nat} (h : m ≠ 0) : 0 < (wds m).length := List.length_pos_iff.2 fun e => h (by rw [← Qv m, e]; rfl)
theorem Yu {n m : Nat} (h : n ≤ m) : (wds n).length ≤ (wds m).length := Nat.le_of_not_lt fun hl => by have := Zcd hl; omega
theorem Qc0 {m : Nat} (h : (wds m).length = 1) : (wds m).getD 0 0 = m := by
 have e := Qv m
 match hw : wds m, h with
 | [x], _ => rw [hw] at e; simpa [Zt] using e
theorem Qfr (n m : Nat) (hn : (wds n).length ≤ 500000000000) (hm : (wds m).length ≤ 500000000000) (h0 : m ≠ 0) : Yi Tryz.prog 185 [Vg n, Vg m] (.tuple #[Vg (n / m), Vg (n % m), .bool true]) := by
 refine fn_intro func185 rfl ntmps185 nb ?_
 intro S w0 a hS h
 refine gC h (zS (zx rfl fun b2 => zx rfl fun b3 => zz zeroValue38 fun b4 => zz zeroValue38 fun b5 => za rfl (zn (zs (zb (zS (zd rfl mr isAgg38 sizeOf38 Zn ?_)))))))
 refine zv [_] rfl call207 (Qcm m) (za rfl (zn ?_)); intro a w h
 refine cW ?_
 refine Zc h rfl (fun hc12 => (by exfalso; exact h0 (of_decide_eq_true hc12))) (fun hc12 => ?_)
 refine gC h (zS (zd rfl mr isAgg38 sizeOf38 Zn ?_))
 refine zd rfl mr isAgg38 sizeOf38 Zn ?_
 refine zv [_, _] rfl call208 (C_Cmp n m oo oo) (zp (.lss rfl rfl) (za rfl (zn ?_))); intro a w h
 refine cW ?_
 refine Zc h rfl (fun hc17 => ?_) (fun hc17 => ?_)
 ·
  skip
  have hlt : n < m := by rw [Zib] at hc17; exact of_decide_eq_true hc17
  refine gC h (zs (yD Za [0, 1, 2, 3, 4] (Zb kk) (yp rfl (.build [] rfl (Zl1)) ?_))); clear h
  refine Zaw [4] rfl kk rfl mr isAgg38 sizeOf38 Zn (fun a w σx hst => by intro t ht; simp only [List.mem_cons, List.not_mem_nil, or_false] at ht; rcases ht with rfl <;> exact ⟨_, rfl, by have h1 := (List.pairwise_append.1 hst.nd).2.1; simp at h1; dsimp only; omega⟩) dd ?_
  refine yt rfl rfl rfl Qg uu sizeOf38 rfl nb rfl ?_
  refine yt rfl rfl rfl Qg uu sizeOf38 rfl nb rfl ?_
  refine yp rfl (.assign rfl) (yn (zt ?_)); intro a w h
  refine Jp h (Zh3 h rfl (.cell rfl mr isAgg38 sizeOf38 Zn) (.cell rfl mr isAgg38 sizeOf38 Zn) (.tmp rfl)) ?_
  rw [Nat.div_eq_of_lt hlt, Nat.mod_eq_of_lt hlt]; rfl
 ·
  skip
  have hle : m ≤ n := by rw [Zib] at hc17; exact Nat.le_of_not_lt (of_decide_eq_false hc17)
  refine gC h (zS (zp (.fA rfl Vy) (zd rfl mr isAgg9 sizeOf9 Xn ?_)))
  refine zp (.binOp rfl rfl (fun _ => Vl _ _ _ _ _)) (za rfl (zn ?_)); intro a w h
  refine cW ?_
  refine Zc h rfl (fun hc24 => ?_) (fun hc24 => ?_)
  ·
   skip
   have ha : n < 18446744073709551616 := Qt.1 (by simpa using hc24)
   have hb : m < 18446744073709551616 := oo
   refine gC h (zs (yD Za [0, 1, 2, 3, 4, 5, 6, 7, 8, 9, 10, 11, 12, 13, 14] (Zb kk) (yp rfl (.fA rfl Vj) (yd rfl rfl mr isAgg36 sizeOf36 Xy ?_)))); clear h
   refine yp rfl (.fA rfl Vj) (yd rfl rfl mr isAgg36 sizeOf36 Xy ?_)
   refine yp rfl (Pure1.cast (v' := .int .u64 ((n / m : Nat) : Int)) (.binOp rfl rfl (fun _ => Ys _ _ _ _ _ (by rw [Qi hb]; omega))) (by rw [Qi ha, Qi hb, Xp, Zdl (Nat.lt_of_le_of_lt (Nat.div_le_self _ _) ha)])) (yp rfl (.build [(_, _)] rfl (Zfe _)) (yp rfl (.fA rfl Vj) ?_))
   refine Zaw [4] rfl kk rfl mr isAgg36 sizeOf36 Xy (fun a w σx hst => by intro t ht; simp only [List.mem_cons, List.not_mem_nil, or_false] at ht; rcases ht with rfl <;> exact ⟨_, rfl, by have h1 := (List.pairwise_append.1 hst.nd).2.1; simp at h1; dsimp only; omega⟩) dd ?_
   refine yp rfl (.fA rfl Vj) ?_
   refine Zaw [4] rfl kk rfl mr isAgg36 sizeOf36 Xy (fun a w σx hst => by intro t ht; simp only [List.mem_cons, List.not_mem_nil, or_false] at ht; rcases ht with rfl <;> exact ⟨_, rfl, by have h1 := (List.pairwise_append.1 hst.nd).2.1; simp at h1; dsimp only; omega⟩) dd ?_
   refine yp rfl (Pure1.cast (v' := .int .u64 ((n % m : Nat) : Int)) (.binOp rfl rfl (fun _ => Ye _ _ _ _ _ (by rw [Qi hb]; omega))) (by rw [Qi ha, Qi hb, Xl])) (yp rfl (.build [(_, _)] rfl (Zfe _)) (yt rfl rfl rfl Qg uu sizeOf38 rfl nb rfl ?_))
   refine yt rfl rfl rfl Qg uu sizeOf38 rfl nb rfl ?_
   refine yp rfl (.assign rfl) (yn (zt ?_)); intro a w h
   refine Jp h (Zh3 h rfl (.cell rfl mr isAgg38 sizeOf38 Zn) (.cell rfl mr isAgg38 sizeOf38 Zn) (.tmp rfl)) ?_
   rw [Vg, Vg, Qi (Nat.lt_of_le_of_lt (Nat.div_le_self _ _) ha), Vi (Nat.lt_of_le_of_lt (Nat.div_le_self _ _) ha), Qi (Nat.lt_of_le_of_lt (Nat.mod_le _ _) ha), Vi (Nat.lt_of_le_of_lt (Nat.mod_le _ _) ha)]
  ·
   skip
   have ha : ¬ n < 18446744073709551616 := fun hn => by have := Qt.2 hn; simp [this] at hc24
   refine gC h (zk (zS (zd rfl mr isAgg38 sizeOf38 Zn ?_)))
   refine zf [_] rfl call166 (Gv m oo) ?_; rintro v41 Ψ41 ⟨aY, cY, rfl, hcY, rfl⟩
   refine za rfl (zn (zs (zS (zm rfl (zp (.builtin [_] rfl (Zj _ _ _)) (zp (.eql rfl rfl) (zn ?_))))))); intro a w h
   refine cW ?_
   refine Zc h rfl (fun hc44 => ?_) (fun hc44 => ?_)
   ·
    skip
    have h1 : (wds m).length = 1 := Zro (b := 1) hc44
    have hm1 := Qc0 h1
    have hm2 := (Wd.wds m).getD 0
    rw [hm1] at hm2
    have hlt : 0 < (wds m).length := oo
    obtain ⟨bY, bYo, bYe⟩ := h.row_addr (ad := aY) (M := Jw (wds m)) ss (by simp; intro e; simp [e] at hlt)
    subst bYe
    refine gC h (zs (yD Za [0, 2, 3, 4, 1, 5, 6, 7, 8, 9, 10] (Zb kk) (yd rfl rfl mr isAgg38 sizeOf38 Zn ?_))); clear h
    refine ym rfl rfl (yp rfl (.indexAddr rfl rfl (Qy _ _ _ _ 0 oo)) ?_)
    refine Zm rfl kk rfl mm (by simp; omega) isAgg23 sizeOf23 ((Zx 0 oo).trans (by rw [hm1])) (.inr rfl) dd ?_
    refine yf [_] rfl rfl call166 (Gv n oo) ?_; rintro v47 Ψ47 ⟨aX, cX, rfl, hcX, rfl⟩
    refine Zem rfl kk (vs := [_, _]) rfl call167 (Zym aX cX (wds n) m (Wd.wds n) oo oo hm2) ss dd ?_; rintro v51 σ51 ⟨bq, Q, rfl, hQ, hQl, hQv, rfl⟩
    refine ym rfl rfl (yp rfl (.eX rfl) (yp rfl (.eX rfl) (yp rfl (.assign rfl) (yp rfl (.assign rfl) (yn (zS ?_)))))); intro a w h
    replace h := h.shareAll hS (Jw Q) rfl
    refine gL h (zm rfl (zw [_] rfl call188 (Qfd _ _ Q hQ (Nat.le_refl _) oo) (zm rfl (zp (Pure1.cast (v' := .int .u64 ((n % m : Nat) : Int)) (.convert rfl (Zsx _)) (by rw [Qv, Zdl (Nat.lt_trans (Nat.mod_lt _ oo) oo)])) (zp (.build [(_, _)] rfl (Zfe _)) (zt' rfl rfl Qg uu sizeOf38 rfl nb rfl ?_))))))
    refine zt' rfl rfl Qg uu sizeOf38 rfl nb rfl ?_; intro a w h
    refine gL h (za rfl (zn (zt ?_))); clear h; intro a w h
    refine Jp h (Zh3 h rfl (.cell rfl mr isAgg38 sizeOf38 Zn) (.cell rfl mr isAgg38 sizeOf38 Zn) (.tmp rfl)) ?_
    have hr : n % m < 18446744073709551616 := Nat.lt_trans (Nat.mod_lt _ oo) oo
    rw [hQv, Qv, Vg, Vg, Qi hr, Vi hr]
   ·
    skip
    have h1 : (wds m).length ≠ 1 := Zrn (b := 1) hc44
    have h2 := Zoo h0
    have h3 := Yu hle
    refine gC h (zk (zS (zd rfl mr isAgg38 sizeOf38 Zn ?_)))
    refine zf [_] rfl call166 (Gv n oo) ?_; rintro v61 Ψ61 ⟨aX, cX, rfl, hcX, rfl⟩
    refine zm rfl (zf [_, _] rfl call209 (C_long aX cX (wds n) aY cY (wds m) (Wd.wds n) (Wd.wds m) hn oo h3 (Zu7 h0)) ?_); rintro v63 Ψ63 ⟨a1, c1, a2, c2, Q, R, rfl, hQ, hR, hQc, hRc, hQl, hRl, hQv, hRv, rfl⟩
    refine zm rfl (zp (.eX rfl) (zp (.eX rfl) (za rfl (za rfl (zn (zS (zm rfl (zw [_] rfl call188 (Qfd _ _ Q hQ hQc oo) (zm rfl (zw [_] rfl call188 (Qfd _ _ R hR hRc oo) (zt' rfl rfl Qg uu sizeOf38 rfl nb rfl ?_)))))))))))
    refine zt' rfl rfl Qg uu sizeOf38 rfl nb rfl ?_; intro a w h
    refine gL h (za rfl (zn (zt ?_))); clear h; intro a w h
    refine Jp h (Zh3 h rfl (.cell rfl mr isAgg38 sizeOf38 Zn) (.cell rfl mr isAgg38 sizeOf38 Zn) (.tmp rfl)) ?_
    rw [hQv, hRv, Qv, Qv]
theorem C_Gcd (n m : Nat) (hn : (wds n).length ≤ 500000000000) (hm : (wds m).length ≤ 500000000000) : Yi Tryz.prog 184 [Vg n, Vg m] (Vg (Nat.gcd n m)) := by
 refine fn_intro func184 rfl ntmps184 nb ?_
 intro S w0 a hS h
 refine gC h (zS (zx rfl fun b2 => zx rfl fun b3 => zz zeroValue38 fun b4 => zn (zs (zb ?_)))); clear h; intro a w h
 refine Zg (fun (y : Nat) a w => ∃ x : Nat, (wds x).length ≤ 500000000000 ∧ (wds y).length ≤ 500000000000 ∧ Nat.gcd x y = Nat.gcd n m ∧ St 21 S w0 [(2, pB b2), (3, pB b3), (4, pB b4)] [(b4, .cells (Vg 0).cells 38 (0, 0)), (b3, .cells (Vg y).cells 38 (0, 0)), (b2, .cells (Vg x).cells 38 (0, 0))] [] a w) (fun y => y) (m) (⟨n, hn, hm, rfl, h.sub sA⟩) ?_; clear h
 rintro y a w ⟨x, hx, hy, hg, h⟩
 refine gC h (zs (zS (zd rfl mr isAgg38 sizeOf38 Zn ?_)))
 refine zv [_] rfl call207 (Qcm y) (zp (.unOp rfl (Yp _)) (zn ?_)); intro a w h
 refine cW ?_
 refine Zc h rfl (fun hc10 => ?_) (fun hc10 => ?_)
 ·
  skip
  have hy0 : y ≠ 0 := by simpa using hc10
  refine gC h (zk (zb (zS (zd rfl mr isAgg38 sizeOf38 Zn ?_))))
  refine zd rfl mr isAgg38 sizeOf38 Zn ?_
  refine zv [_, _] rfl call185 (Qfr x y hx hy hy0) (zm rfl (zp (.eX rfl) (zp (.eX rfl) (zp (.eX rfl) (zz zeroValue38 fun b5 => zz zeroValue38 fun b6 => zt' rfl rfl Qg uu sizeOf38 rfl nb rfl ?_)))))
  refine zt' rfl rfl Qg uu sizeOf38 rfl nb rfl ?_; intro a w h
  refine gL h (za rfl (zn (yD Za [0, 1, 2, 3] (Zb kk) (yd rfl rfl mr isAgg38 sizeOf38 Zn ?_)))); clear h
  refine Zaw [2] rfl kk rfl mr isAgg38 sizeOf38 Zn (fun a w σx hst => by intro t ht; simp only [List.mem_cons, List.not_mem_nil, or_false] at ht; rcases ht with rfl <;> exact ⟨_, rfl, by have h1 := (List.pairwise_append.1 hst.nd).2.1; simp at h1; dsimp only; omega⟩) dd ?_
  refine yt rfl rfl rfl Qg uu sizeOf38 rfl nb rfl ?_
  refine yt rfl rfl rfl Qg uu sizeOf38 rfl nb rfl ?_
  refine yn ?_; intro a w h
  exact ⟨x % y, ⟨y, hy, Nat.le_trans (Yu (Nat.le_of_lt (Nat.mod_lt _ (Nat.pos_of_ne_zero hy0)))) hy, by rw [← hg, Nat.gcd_comm y (x % y), ← Nat.gcd_rec, Nat.gcd_comm], (h.drop (.cons _ (.cons _ (List.Sublist.refl _)))).sub sA⟩, Nat.mod_lt _ (Nat.pos_of_ne_zero hy0)⟩
 ·
  skip
  have hy0 : y = 0 := by simpa using hc10
  subst hy0
  refine gC h (ze (zS (zd rfl mr isAgg38 sizeOf38 Zn ?_)))
  refine zt' rfl rfl Qg uu sizeOf38 rfl nb rfl ?_; intro a w h
  refine wpList_nil (wp_ret ?_)
  refine Jp h (Zd h rfl (.cell rfl mr isAgg38 sizeOf38 Zn)) ?_
  rw [← hg, Nat.gcd_zero_right]
end
section
theorem Qey (w : World) : (Instr.build 40 [].toArray).run Tryz.prog w = .ok (.agg #[.int .u64 0, .string ⟨#[]⟩]) w := by simp [go_sem]
theorem Qez (x0_0 : Value) (x0_1 : Value) (w : World) : (Instr.build 40 [(0, .agg #[x0_0, x0_1])].toArray).run Tryz.prog w = .ok (.agg #[x0_0, x0_1]) w := by simp [go_sem]
theorem Zn8 (x0_0 : Value) (x0_1 : Value) (x1 : Bool) (w : World) : (Instr.build 42 [(0, .agg #[x0_0, x0_1]), (1, .bool x1)].toArray).run Tryz.prog w = .ok (.agg #[x0_0, x0_1, .bool x1]) w := by simp [go_sem]
theorem Zz {c0 c1 c2 v0 v1 v2 : Value} : Qu #[c0, c1, c2] 0 [v0, v1, v2] = #[v0, v1, v2] := rfl
theorem Zi {c0 c1 c2 : Value} : Qo true 3 #[c0, c1, c2] 0 = some (.agg #[c0, c1, c2]) := rfl
theorem Zbg {b off : Nat} (w : World) : (Instr.fieldAt 42 (.pointer (some ⟨b, off, none⟩)) 1).run Tryz.prog w = .ok (.pointer (some ⟨b, off + 2, none⟩)) w := by
 simp [go_sem]
theorem Zbs {c0 c1 c2 : Value} : Qo false 1 #[c0, c1, c2] 2 = some c2 := rfl
theorem Ku {b off : Nat} (w : World) : (Instr.fieldAt 42 (.pointer (some ⟨b, off, none⟩)) 0).run Tryz.prog w = .ok (.pointer (some ⟨b, off + 0, none⟩)) w := by
 simp [go_sem]
theorem Gj {b off : Nat} (w : World) : (Instr.fieldAt 40 (.pointer (some ⟨b, off, none⟩)) 0).run Tryz.prog w = .ok (.pointer (some ⟨b, off + 0, none⟩)) w := by
 simp [go_sem]
theorem Xc {c0 c1 c2 : Value} : Qo true 2 #[c0, c1, c2] 0 = some (.agg #[c0, c1]) := rfl
def Zbd (z : Int) : Nat := (wds z.natAbs).length
def sgZ (neg : Bool) (n : Nat) : Int := if neg then -(n : Int) else (n : Int)
theorem Zb7 (neg : Bool) (n : Nat) : (sgZ neg n).natAbs = n := by unfold sgZ; split <;> omega
theorem Zqv (z : Int) : sgZ (decide (z < 0)) z.natAbs = z := by unfold sgZ; split <;> simp_all <;> omega
theorem Zky (neg : Bool) (n : Nat) : decide (sgZ neg n < 0) = (neg && !decide (n = 0)) := by
 unfold sgZ; cases neg <;> by_cases h : n = 0 <;> simp [h] <;> omega
theorem Qef (X Y : Operand) (n m : Nat) (w : World) : (do eqGuard .eql 40 X Y (Vg n) (Vg m); Go.binOp .eql 40 (Vg n) (Vg m) : Sem Value).run Tryz.prog w = .ok (.bool (decide (n = m))) w := by
 simp [go_sem]
 have hb : ((Zan n).toList = (Zan m).toList) ↔ Zan n = Zan m := by have := Zcf (Zan n) (Zan m); rw [Bool.eq_iff_iff] at this; simpa using this
 by_cases h : n = m
 · subst h; simp
 ·
  have hne := fun h1 h2 => h (Zlr h1 h2)
  by_cases h1 : Zet n = Zet m
  · simp only [h, h1, hb, if_true, decide_false]; exact if_neg (hne h1)
  · simp [h, h1]
theorem Zyl (n : Nat) : Yi Tryz.prog 189 [Vg n] (.bool (decide (n = 0))) := by
 refine fn_intro func189 rfl ntmps189 nb ?_
 intro S w0 a hS h
 refine gC h (zS (zx rfl fun b1 => za rfl (zn (zS (zd rfl mr isAgg40 sizeOf40 Zn ?_)))))
 refine zp (Pure1.cast (v' := Vg 0) (.build [] rfl (Qey)) (by rfl)) (zp (.binOp rfl rfl (fun _ => Qef _ _ n 0 _)) (za rfl (zn (zt ?_)))); intro a w h
 exact Zao h
theorem Zez (neg : Bool) (n : Nat) : Yi Tryz.prog 140 [.bool neg, Vg n] (encZ (sgZ neg n)) := by
 refine fn_intro func140 rfl ntmps140 nb ?_
 intro S w0 a hS h
 refine gC h (zS (zx rfl fun b3 => zz zeroValue42 fun b4 => zn (zS (zd rfl mr isAgg38 sizeOf38 Zn ?_))))
 refine zp (.build [(_, _)] rfl (Qez _ _)) (zz zeroValue40 fun b5 => zt' rfl rfl Qg uu sizeOf40 rfl nb rfl ?_)
 refine zn (zs (yD Za [0, 1, 2, 3, 4, 5, 6, 7, 8] (Zb kk) (yd rfl rfl mr isAgg40 sizeOf40 Zn ?_)))
 refine ym rfl rfl (ym rfl rfl ?_)
 refine Zs (fun hc10  => ?_) (fun hc10  => ?_)
 ·
  skip
  refine yg rfl rfl rfl rfl mr isAgg40 sizeOf40 Zn ?_
  refine Qd rfl rfl rfl kk (vs := [_]) rfl call189 (Zyl n) dd ?_
  refine yq rfl rfl rfl (.unOp rfl (Yp _)) (yp rfl (.pickT rfl rfl) (yp rfl (.build [(_, _), (_, _)] rfl (Zn8 _ _ _)) (yt rfl rfl rfl Zz uu sizeOf42 rfl nb rfl ?_)))
  refine yn (zt ?_); intro a w h
  refine Jp h (Zd h rfl (.cell rfl mr isAgg42 sizeOf42 Zi)) ?_
  subst hc10; rw [encZ, Zb7, Zky]; rfl
 ·
  skip
  refine yo 10 rfl rfl rfl rfl (yo 10 rfl rfl rfl rfl (yo 10 rfl rfl rfl rfl (yp rfl (.pickF rfl rfl) (yp rfl (.build [(_, _), (_, _)] rfl (Zn8 _ _ _)) (yt rfl rfl rfl Zz uu sizeOf42 rfl nb rfl ?_)))))
  refine yn (zt ?_); intro a w h
  refine Jp h (Zd h rfl (.cell rfl mr isAgg42 sizeOf42 Zi)) ?_
  subst hc10; rw [encZ, Zb7, Zky]; rfl
theorem C_plus (x y : Int) (hx : Zbd x ≤ 400000000000) (hy : Zbd y ≤ 400000000000) : Yi Tryz.prog 198 [encZ x, encZ y] (encZ (x + y)) := by
 unfold Zbd at hx hy
 refine fn_intro func198 rfl ntmps198 nb ?_
 intro S w0 a hS h
 refine gC h (zS (zx rfl fun b2 => zx rfl fun b3 => zz zeroValue42 fun b4 => zn (zs (zS (zp (.fA rfl Zbg) (zd rfl mr isAgg4 sizeOf4 Zbs ?_))))))
 refine zp (.fA rfl Zbg) (zd rfl mr isAgg4 sizeOf4 Zbs ?_)
 refine zp (.binOp rfl rfl (fun _ => Zq2 _ underlying4 _ _ _ _)) (zn ?_); intro a w h
 refine cW ?_
 refine Zc h rfl (fun hc13 => ?_) (fun hc13 => ?_)
 ·
  skip
  refine gC h (zs (yD Za [0, 1, 2, 3, 4, 5, 6, 7, 8, 9, 10] (Zb kk) (yp rfl (.fA rfl Zbg) (yd rfl rfl mr isAgg4 sizeOf4 Zbs ?_)))); clear h
  refine yp rfl (.fA rfl Ku) (yp rfl (.fA rfl Gj) (yd rfl rfl mr isAgg38 sizeOf38 Xc ?_))
  refine yp rfl (.fA rfl Ku) (yp rfl (.fA rfl Gj) (yd rfl rfl mr isAgg38 sizeOf38 Xc ?_))
  refine yv [_, _] rfl rfl call171 (C_Add _ _ oo oo) (yv [_, _] rfl rfl call140 (Zez _ _) (yt rfl rfl rfl Zz uu sizeOf42 rfl nb rfl ?_))
  refine yn (zt ?_); intro a w h
  refine Jp h (Zd h rfl (.cell rfl mr isAgg42 sizeOf42 Zi)) ?_
  rw [show sgZ (decide (x < 0)) (x.natAbs + y.natAbs) = x + y from by unfold sgZ; by_cases h1 : x < 0 <;> by_cases h2 : y < 0 <;> simp [h1, h2] at hc13 ⊢ <;> omega]
 ·
  skip
  refine gC h (zk (zs (zS (zp (.fA rfl Ku) (zp (.fA rfl Gj) (zd rfl mr isAgg38 sizeOf38 Xc ?_))))))
  refine zp (.fA rfl Ku) (zp (.fA rfl Gj) (zd rfl mr isAgg38 sizeOf38 Xc ?_))
  refine zv [_, _] rfl call186 (Qff x.natAbs y.natAbs oo oo) (zm rfl (zp (.eX rfl) (zp (.eX rfl) (zz zeroValue38 fun b5 => zt' rfl rfl Qg uu sizeOf38 rfl nb rfl ?_))))
  refine za rfl (zn (zS (zm rfl (zn ?_)))); intro a w h
  refine cW ?_
  refine Zc h rfl (fun hc34 => ?_) (fun hc34 => ?_)
  ·
   skip
   refine gC h (zS (zp (.fA rfl Zbg) (zd rfl mr isAgg4 sizeOf4 Zbs ?_)))
   refine zd rfl mr isAgg38 sizeOf38 Zn ?_
   refine zv [_, _] rfl call140 (Zez _ _) (zt' rfl rfl Zz uu sizeOf42 rfl nb rfl ?_); intro a w h
   refine wpList_nil (wp_ret ?_)
   refine Jp h (Zd h rfl (.cell rfl mr isAgg42 sizeOf42 Zi)) ?_
   have hle : y.natAbs ≤ x.natAbs := of_decide_eq_true hc34
   rw [show sgZ (decide (x < 0)) (x.natAbs - y.natAbs) = x + y from by unfold sgZ; by_cases h1 : x < 0 <;> by_cases h2 : y < 0 <;> simp [h1, h2] at hc13 ⊢ <;> omega]
  ·
   skip
   refine gC h (zk (zS (zp (.fA rfl Ku) (zp (.fA rfl Gj) (zd rfl mr isAgg38 sizeOf38 Xc ?_)))))
   refine zp (.fA rfl Ku) (zp (.fA rfl Gj) (zd rfl mr isAgg38 sizeOf38 Xc ?_))
   refine zv [_, _] rfl call186 (Qff y.natAbs x.natAbs oo oo) (zm rfl (zp (.eX rfl) (zp (.eX rfl) (zz zeroValue38 fun b7 => zt' rfl rfl Qg uu sizeOf38 rfl nb rfl ?_))))
   refine za rfl (zn (zS (zp (.fA rfl Zbg) (zd rfl mr isAgg4 sizeOf4 Zbs ?_))))
   refine zd rfl mr isAgg38 sizeOf38 Zn ?_
   refine zv [_, _] rfl call140 (Zez _ _) (zt' rfl rfl Zz uu sizeOf42 rfl nb rfl ?_); intro a w h
   refine wpList_nil (wp_ret ?_)
   refine Jp h (Zd h rfl (.cell rfl mr isAgg42 sizeOf42 Zi)) ?_
   have hle : ¬ y.natAbs ≤ x.natAbs := of_decide_eq_false hc34
   rw [show sgZ (decide (y < 0)) (y.natAbs - x.natAbs) = x + y from by unfold sgZ; by_cases h1 : x < 0 <;> by_cases h2 : y < 0 <;> simp [h1, h2] at hc13 ⊢ <;> omega]
theorem Qe8 (x y : Int) (hx : Zbd x ≤ 400000000000) (hy : Zbd y ≤ 400000000000) : Yi Tryz.prog 183 [encZ x, encZ y] (encZ (x * y)) := by
 unfold Zbd at hx hy
 refine fn_intro func183 rfl ntmps183 nb ?_
 intro S w0 a hS h
 refine gC h (zS (zx rfl fun b2 => zx rfl fun b3 => zz zeroValue42 fun b4 => zn (zs (yD Za [0, 1, 2, 3, 4, 5, 6, 7, 8, 9, 10, 11, 12, 13] (Zb kk) (yp rfl (.fA rfl Zbg) (yd rfl rfl mr isAgg4 sizeOf4 Zbs ?_)))))); clear h
 refine yp rfl (.fA rfl Zbg) (yd rfl rfl mr isAgg4 sizeOf4 Zbs ?_)
 refine yp rfl (.binOp rfl rfl (fun _ => Zq1 _ underlying4 _ _ _ _)) (yp rfl (.fA rfl Ku) (yp rfl (.fA rfl Gj) (yd rfl rfl mr isAgg38 sizeOf38 Xc ?_)))
 refine yp rfl (.fA rfl Ku) (yp rfl (.fA rfl Gj) (yd rfl rfl mr isAgg38 sizeOf38 Xc ?_))
 refine yv [_, _] rfl rfl call136 (Zy4 _ _ oo oo) (yv [_, _] rfl rfl call140 (Zez _ _) (yt rfl rfl rfl Zz uu sizeOf42 rfl nb rfl ?_))
 refine yn (zt ?_); intro a w h
 refine Jp h (Zd h rfl (.cell rfl mr isAgg42 sizeOf42 Zi)) ?_
 rw [show sgZ (decide (x < 0) != decide (y < 0)) (x.natAbs * y.natAbs) = x * y from by
  conv => rhs; rw [← Zqv x, ← Zqv y]
  unfold sgZ
  by_cases h1 : x < 0 <;> by_cases h2 : y < 0 <;> simp only [h1, h2, decide_true, decide_false, bne_self_eq_false, Bool.true_bne, Bool.false_bne, Bool.not_true, Bool.not_false, if_true, Bool.false_eq_true, if_false, Int.natCast_mul, Int.neg_mul, Int.mul_neg, Int.neg_neg]]
theorem Zqf (x y : Int) (hx : Zbd x ≤ 400000000000) (hy : Zbd y ≤ 400000000000) : Yi Tryz.prog 182 [.func (.func 198) #[] #[], encZ x, encZ y] (encZ (x + y)) := by
 refine fn_intro func182 rfl ntmps182 nb ?_
 intro S w0 a hS h
 refine gC h (zS (zx rfl fun b4 => zx rfl fun b5 => zz zeroValue42 fun b6 => zn (zS (zm rfl (zd rfl mr isAgg42 sizeOf42 Zi ?_)))))
 refine zd rfl mr isAgg42 sizeOf42 Zi ?_; intro a w h
 refine Zh (Ve h (fs := []) (cs := []) rfl (vs := [_, _]) rfl call198 (C_plus x y hx hy) dd ?_); clear h; intro a w h
 refine gL h (zt' rfl rfl Zz uu sizeOf42 rfl nb rfl ?_); clear h; intro a w h
 refine wpList_nil (wp_ret ?_)
 refine Jp h (Zd h rfl (.cell rfl mr isAgg42 sizeOf42 Zi)) ?_
 rfl
theorem Zoj (x y : Int) (hx : Zbd x ≤ 400000000000) (hy : Zbd y ≤ 400000000000) : Yi Tryz.prog 159 [encZ x, encZ y] (encZ (x + y)) := by
 refine fn_intro func159 rfl ntmps159 nb ?_
 intro S w0 a hS h
 refine gC h (zS (zx rfl fun b2 => zx rfl fun b3 => zz zeroValue42 fun b4 => zn (zS (zd rfl mr isAgg42 sizeOf42 Zi ?_))))
 refine zd rfl mr isAgg42 sizeOf42 Zi ?_
 refine zv [_, _, _] rfl call182 (Zqf x y hx hy) (zt' rfl rfl Zz uu sizeOf42 rfl nb rfl ?_); intro a w h
 refine wpList_nil (wp_ret ?_)
 refine Jp h (Zd h rfl (.cell rfl mr isAgg42 sizeOf42 Zi)) ?_
 rfl
theorem Zof (x y : Int) (hx : Zbd x ≤ 400000000000) (hy : Zbd y ≤ 400000000000) : Yi Tryz.prog 182 [.func (.func 183) #[] #[], encZ x, encZ y] (encZ (x * y)) := by
 refine fn_intro func182 rfl ntmps182 nb ?_
 intro S w0 a hS h
 refine gC h (zS (zx rfl fun b4 => zx rfl fun b5 => zz zeroValue42 fun b6 => zn (zS (zm rfl (zd rfl mr isAgg42 sizeOf42 Zi ?_)))))
 refine zd rfl mr isAgg42 sizeOf42 Zi ?_; intro a w h
 refine Zh (Ve h (fs := []) (cs := []) rfl (vs := [_, _]) rfl call183 (Qe8 x y hx hy) dd ?_); clear h; intro a w h
 refine gL h (zt' rfl rfl Zz uu sizeOf42 rfl nb rfl ?_); clear h; intro a w h
 refine wpList_nil (wp_ret ?_)
 refine Jp h (Zd h rfl (.cell rfl mr isAgg42 sizeOf42 Zi)) ?_
 rfl
theorem Zjt (x y : Int) (hx : Zbd x ≤ 400000000000) (hy : Zbd y ≤ 400000000000) : Yi Tryz.prog 134 [encZ x, encZ y] (encZ (x * y)) := by
 refine fn_intro func134 rfl ntmps134 nb ?_
 intro S w0 a hS h
 refine gC h (zS (zx rfl fun b2 => zx rfl fun b3 => zz zeroValue42 fun b4 => zn (zS (zd rfl mr isAgg42 sizeOf42 Zi ?_))))
 refine zd rfl mr isAgg42 sizeOf42 Zi ?_
 refine zv [_, _, _] rfl call182 (Zof x y hx hy) (zt' rfl rfl Zz uu sizeOf42 rfl nb rfl ?_); intro a w h
 refine wpList_nil (wp_ret ?_)
 refine Jp h (Zd h rfl (.cell rfl mr isAgg42 sizeOf42 Zi)) ?_
 rfl
theorem C_ZNeg (x : Int) : Yi Tryz.prog 161 [encZ x] (encZ (-x)) := by
 refine fn_intro func161 rfl ntmps161 nb ?_
 intro S w0 a hS h
 refine gC h (zS (zx rfl fun b1 => zz zeroValue42 fun b2 => zn (zS (zp (.fA rfl Zbg) (zd rfl mr isAgg4 sizeOf4 Zbs ?_)))))
 refine zp (.unOp rfl (Yp _)) (zp (.fA rfl Ku) (zp (.fA rfl Gj) (zd rfl mr isAgg38 sizeOf38 Xc ?_)))
 refine zv [_, _] rfl call140 (Zez _ _) (zt' rfl rfl Zz uu sizeOf42 rfl nb rfl ?_); intro a w h
 refine wpList_nil (wp_ret ?_)
 refine Jp h (Zd h rfl (.cell rfl mr isAgg42 sizeOf42 Zi)) ?_
 rw [show sgZ (!decide (x < 0)) x.natAbs = -x from by unfold sgZ; by_cases h1 : x < 0 <;> simp [h1] <;> omega]
theorem Zyz (x : Int) : Yi Tryz.prog 141 [encZ x] (Vg x.natAbs) := by
 refine fn_intro func141 rfl ntmps141 nb ?_
 intro S w0 a hS h
 refine gC h (zS (zx rfl fun b1 => zz zeroValue38 fun b2 => zn (zS (zp (.fA rfl Ku) (zp (.fA rfl Gj) (zd rfl mr isAgg38 sizeOf38 Xc ?_))))))
 refine zt' rfl rfl Qg uu sizeOf38 rfl nb rfl ?_; intro a w h
 refine wpList_nil (wp_ret ?_)
 refine Jp h (Zd h rfl (.cell rfl mr isAgg38 sizeOf38 Zn)) ?_
 rfl
theorem Zyy (x : Int) : Yi Tryz.prog 145 [encZ x] (.int .i64 x.sign) := by
 refine fn_intro func145 rfl ntmps145 nb ?_
 intro S w0 a hS h
 refine gC h (zS (zx rfl fun b1 => za rfl (zn (zs (zb (zS (zp (.fA rfl Ku) (zd rfl mr isAgg40 sizeOf40 Xc ?_))))))))
 refine zv [_] rfl call189 (Zyl x.natAbs) (za rfl (zn ?_)); intro a w h
 refine cW ?_
 refine Zc h rfl (fun hc3 => ?_) (fun hc3 => ?_)
 ·
  skip
  refine gC h (zS (za rfl (zn (zt ?_)))); clear h; intro a w h
  refine Jp h (Zd h rfl (.tmp rfl)) ?_
  rw [show x = 0 by have := of_decide_eq_true hc3; omega]; rfl
 ·
  skip
  refine gC h (zS (zp (.fA rfl Zbg) (zd rfl mr isAgg4 sizeOf4 Zbs ?_)))
  refine za rfl (zn ?_); intro a w h
  refine cW ?_
  refine Zc h rfl (fun hc7 => ?_) (fun hc7 => ?_)
  ·
   skip
   refine gC h (zS (za rfl (zn (zt ?_)))); clear h; intro a w h
   refine Jp h (Zd h rfl (.tmp rfl)) ?_
   rw [Int.sign_eq_neg_one_of_neg (of_decide_eq_true hc7)]
  ·
   skip
   refine gC h (zk (zS (za rfl (zn (zt ?_))))); clear h; intro a w h
   refine Jp h (Zd h rfl (.tmp rfl)) ?_
   have h1 := of_decide_eq_false hc3; have h2 := of_decide_eq_false hc7; rw [Int.sign_eq_one_of_pos oo]
end
section
theorem Zp9 (x : Int) (w : World) : (Go.convert 2 36 (.int .i64 x)).run Tryz.prog w = .ok (.int .u64 (IntKind.u64.wrap x)) w := by
 simp [go_sem]
theorem Qex (x0_0 : Value) (x0_1 : Value) (x0_2 : Value) (w : World) : (Instr.build 44 [(0, .agg #[x0_0, x0_1, x0_2])].toArray).run Tryz.prog w = .ok (.agg #[x0_0, x0_1, x0_2, .int .u64 0, .string ⟨#[]⟩]) w := by simp [go_sem]
theorem Zq {c0 c1 c2 c3 c4 v0 v1 v2 v3 v4 : Value} : Qu #[c0, c1, c2, c3, c4] 0 [v0, v1, v2, v3, v4] = #[v0, v1, v2, v3, v4] := rfl
theorem Zf {c0 c1 c2 c3 c4 : Value} : Qo true 5 #[c0, c1, c2, c3, c4] 0 = some (.agg #[c0, c1, c2, c3, c4]) := rfl
theorem Ze9 {b off : Nat} (w : World) : (Instr.fieldAt 44 (.pointer (some ⟨b, off, none⟩)) 1).run Tryz.prog w = .ok (.pointer (some ⟨b, off + 3, none⟩)) w := by
 simp [go_sem]
theorem Zc1 {c0 c1 c2 c3 c4 : Value} : Qo true 2 #[c0, c1, c2, c3, c4] 3 = some (.agg #[c3, c4]) := rfl
theorem Zn7 (x0_0 : Value) (x0_1 : Value) (x0_2 : Value) (x1_0 : Value) (x1_1 : Value) (w : World) : (Instr.build 44 [(0, .agg #[x0_0, x0_1, x0_2]), (1, .agg #[x1_0, x1_1])].toArray).run Tryz.prog w = .ok (.agg #[x0_0, x0_1, x0_2, x1_0, x1_1]) w := by simp [go_sem]
theorem Xz {b off : Nat} (w : World) : (Instr.fieldAt 44 (.pointer (some ⟨b, off, none⟩)) 0).run Tryz.prog w = .ok (.pointer (some ⟨b, off + 0, none⟩)) w := by
 simp [go_sem]
theorem Xb {c0 c1 c2 c3 c4 : Value} : Qo true 3 #[c0, c1, c2, c3, c4] 0 = some (.agg #[c0, c1, c2]) := rfl
theorem Ze5 (n : Int) (d : Nat) (hd : d ≠ 0) : (mkRat n d).num = sgZ (decide (n.sign < 0)) (n.natAbs / n.natAbs.gcd d) ∧ (mkRat n d).den = d / n.natAbs.gcd d := by
 rw [← Rat.normalize_eq_mkRat hd, Rat.normalize_eq hd]
 refine ⟨?_, rfl⟩
 show n / ((n.natAbs.gcd d : Nat) : Int) = _
 unfold sgZ
 have hg : ((n.natAbs.gcd d : Nat) : Int) ∣ n := Int.ofNat_dvd_left.2 (Nat.gcd_dvd_left _ _)
 have hg0 : n.natAbs.gcd d ≠ 0 := fun h => hd (Nat.gcd_eq_zero_iff.1 h).2
 have hdv := Nat.gcd_dvd_left n.natAbs d
 generalize n.natAbs.gcd d = g at *
 obtain ⟨k, hk⟩ := hdv
 rw [hk, Nat.mul_div_cancel_left k (Nat.pos_of_ne_zero hg0)]
 by_cases h : n < 0
 ·
  have h2 : n.sign < 0 := by rw [Int.sign_eq_neg_one_of_neg h]; decide
  simp only [h2, decide_true, if_true]
  have : n = (g : Int) * -(k : Int) := by rw [Int.mul_neg, ← Int.natCast_mul, ← hk]; omega
  rw [this, Int.mul_ediv_cancel_left _ oo]
 ·
  have h2 : ¬ n.sign < 0 := by
   rcases Int.lt_or_eq_of_le (Int.not_lt.1 h) with h3 | h3
   · rw [Int.sign_eq_one_of_pos h3]; decide
   · rw [← h3]; decide
  simp only [h2, decide_false, Bool.false_eq_true, if_false]
  have : n = (g : Int) * (k : Int) := by rw [← Int.natCast_mul, ← hk]; omega
  rw [this, Int.mul_ediv_cancel_left _ oo]
def Qa (q : Rat) : Nat := max (Zbd q.num) (wds q.den).length
theorem Zdt {q : Rat} {k : Nat} (h : Qa q ≤ k) : Zbd q.num ≤ k ∧ (wds q.den).length ≤ k := by unfold Qa at h; omega
theorem wds_ge {n : Nat} (h : n ≠ 0) : 4294967296 ^ ((wds n).length - 1) ≤ n := by
 have hne : wds n ≠ [] := fun e => h (by rw [← Qv n, e]; rfl)
 have h2 := Qv n
 rw [← List.dropLast_concat_getLast hne, Xj] at h2
 have h3 := Zhx _ hne
 simp only [Zt, List.length_dropLast, Nat.mul_zero, Nat.add_zero] at h2
 have h5 : 4294967296 ^ ((wds n).length - 1) * 1 ≤ 4294967296 ^ ((wds n).length - 1) * (wds n).getLast hne := Nat.mul_le_mul_left _ oo
 omega
theorem Zea {n k : Nat} (h : n < 4294967296 ^ k) : (wds n).length ≤ k := by
 by_cases h0 : n = 0
 · subst h0; simp [Kw]
 ·
  have h1 := wds_ge h0
  have h2 := (Nat.pow_lt_pow_iff_right (a := 4294967296) dd).1 (Nat.lt_of_le_of_lt h1 h)
  omega
theorem Zcc (n : Nat) : n < 4294967296 ^ (wds n).length := by
 have := Yw (Wd.wds n); rwa [Qv] at this
theorem Za7 (n m : Nat) : (wds (n * m)).length ≤ (wds n).length + (wds m).length :=
 Zea (by rw [Nat.pow_add]; exact Nat.mul_lt_mul'' (Zcc n) (Zcc m))
theorem Zoq (n m : Nat) : (wds (n + m)).length ≤ max (wds n).length (wds m).length + 1 := Zea (by
 have h1 := Zcc n
 have h2 := Zcc m
 have h3 : 4294967296 ^ (wds n).length ≤ 4294967296 ^ max (wds n).length (wds m).length := Nat.pow_le_pow_right dd oo
 have h4 : 4294967296 ^ (wds m).length ≤ 4294967296 ^ max (wds n).length (wds m).length := Nat.pow_le_pow_right dd oo
 rw [Nat.pow_succ]; omega)
theorem Zej (x y : Int) : Zbd (x * y) ≤ Zbd x + Zbd y := by unfold Zbd; rw [Int.natAbs_mul]; exact Za7 _ _
theorem Zlf (x y : Int) : Zbd (x + y) ≤ max (Zbd x) (Zbd y) + 1 := by
 unfold Zbd; exact Nat.le_trans (Yu (Int.natAbs_add_le x y)) (Zoq _ _)
theorem Zel (n : Int) (d : Nat) (hd : d ≠ 0) : Qa (mkRat n d) ≤ max (Zbd n) (wds d).length := by
 obtain ⟨h1, h2⟩ := Ze5 n d hd
 unfold Qa Zbd
 rw [h1, h2, Zb7]
 have a1 := Yu (Nat.div_le_self n.natAbs (n.natAbs.gcd d))
 have a2 := Yu (Nat.div_le_self d (n.natAbs.gcd d))
 omega
theorem Qs (a b : Rat) : Qa (a + b) ≤ Qa a + Qa b + 1 := by
 rw [Rat.add_def']
 have h := Zel (a.num * b.den + b.num * a.den) (a.den * b.den) (Nat.mul_ne_zero a.den_nz b.den_nz)
 have h1 := Zlf (a.num * b.den) (b.num * a.den)
 have h2 := Zej a.num b.den
 have h3 := Zej b.num a.den
 have h4 := Za7 a.den b.den
 have e1 : Zbd (a.den : Int) = (wds a.den).length := rfl
 have e2 : Zbd (b.den : Int) = (wds b.den).length := rfl
 unfold Qa at h ⊢
 omega
theorem Zu (a b : Rat) : Qa (a * b) ≤ Qa a + Qa b := by
 rw [Rat.mul_def']
 have h := Zel (a.num * b.num) (a.den * b.den) (Nat.mul_ne_zero a.den_nz b.den_nz)
 have h2 := Zej a.num b.num
 have h4 := Za7 a.den b.den
 unfold Qa at h ⊢
 omega
theorem Zl5 {a b : Rat} (h : a.den = b.den) : mkRat (a.num + b.num) a.den = a + b := by
 rw [Rat.add_def', ← h, ← Int.add_mul, Rat.mkRat_mul_right a.den_nz]
theorem Zyc {a b : Rat} (ha : a.den = 1) (hb : b.den = 1) : ((a.num + b.num : Int) : Rat) = a + b := by
 rw [← Zl5 (a := a) (b := b) oo, ha, Rat.mkRat_one]
theorem Zwn {a b : Rat} (ha : a.den = 1) (hb : b.den = 1) : ((a.num * b.num : Int) : Rat) = a * b := by
 rw [Rat.mul_def', ha, hb, Nat.mul_one, Rat.mkRat_one]
theorem Zf2 (y : Rat) (hy : y ≠ 0) : mkRat (sgZ (decide (y.num.sign < 0)) y.den) y.num.natAbs = y⁻¹ := by
 rw [Rat.inv_def]
 have h0 : y.num ≠ 0 := fun h => hy (Rat.num_eq_zero.1 h)
 unfold sgZ
 generalize y.num = m at *
 rcases Int.lt_or_gt_of_ne h0 with h | h
 ·
  have h2 : m.sign < 0 := by rw [Int.sign_eq_neg_one_of_neg h]; decide
  simp only [h2, decide_true, if_true]
  obtain ⟨k, rfl⟩ : ∃ k : Nat, m = -(k : Int) := ⟨m.natAbs, oo⟩
  have e : Rat.divInt (y.den : Int) (-(k : Int)) = Rat.divInt (-(y.den : Int)) (k : Int) := by
   have := Rat.neg_divInt_neg (-(y.den : Int)) (k : Int)
   rwa [Int.neg_neg] at this
  rw [e, Rat.divInt_ofNat, Int.natAbs_neg, Int.natAbs_natCast]
 ·
  have h2 : ¬ m.sign < 0 := by rw [Int.sign_eq_one_of_pos h]; decide
  simp only [h2, decide_false, Bool.false_eq_true, if_false]
  obtain ⟨k, rfl⟩ : ∃ k : Nat, m = (k : Int) := ⟨m.natAbs, oo⟩
  rw [Rat.divInt_ofNat, Int.natAbs_natCast]
theorem Zvx (x : Int) (w : World) : (Op.unary .neg (.int .u64 x)).run Tryz.prog w = .ok (.int .u64 (IntKind.u64.wrap (0 - x))) w := by simp [Op.unary, Op.intArith]
theorem C_ZOf (n : Int) (h0 : -9223372036854775808 ≤ n) (h1 : n ≤ 9223372036854775807) : Yi Tryz.prog 112 [.int .i64 n] (encZ n) := by
 refine fn_intro func112 rfl ntmps112 nb ?_
 intro S w0 a hS h
 refine gC h (zS (zz zeroValue42 fun b2 => zn (zs (zS (zm rfl (zp (.lss rfl rfl) (zn ?_))))))); clear h; intro a w h
 refine cW ?_
 refine Zc h rfl (fun hc4 => ?_) (fun hc4 => ?_)
 ·
  skip
  have hn : n < 0 := of_decide_eq_true hc4
  refine gC h (zS (zm rfl (zp (.convert rfl (Zp9 _)) (zp (.unOp rfl (fun w => by rw [Zvx, Zag, Zag, show (0 - n % 18446744073709551616) % 18446744073709551616 = ((n.natAbs : Nat) : Int) by omega])) (zv [_] rfl call164 (C_Of n.natAbs oo) (zv [_, _] rfl call140 (Zez true n.natAbs) (zt' rfl rfl Zz uu sizeOf42 rfl nb rfl ?_))))))); clear h; intro a w h
  refine wpList_nil (wp_ret ?_)
  refine Jp h (Zd h rfl (.cell rfl mr isAgg42 sizeOf42 Zi)) ?_
  rw [show sgZ true n.natAbs = n from by unfold sgZ; simp; omega]
 ·
  skip
  have hn : ¬ n < 0 := of_decide_eq_false hc4
  refine gC h (zk (zS (zm rfl (zp (Pure1.cast (v' := .int .u64 ((n.natAbs : Nat) : Int)) (.convert rfl (Zp9 _)) (by rw [Zag]; congr 1; omega)) (zv [_] rfl call164 (C_Of n.natAbs oo) (zv [_, _] rfl call140 (Zez false n.natAbs) (zt' rfl rfl Zz uu sizeOf42 rfl nb rfl ?_))))))); clear h; intro a w h
  refine wpList_nil (wp_ret ?_)
  refine Jp h (Zd h rfl (.cell rfl mr isAgg42 sizeOf42 Zi)) ?_
  rw [show sgZ false n.natAbs = n from by unfold sgZ; simp; omega]
theorem Zqe (n : Int) : Yi Tryz.prog 111 [encZ n] (Jf (n : Rat)) := by
 refine fn_intro func111 rfl ntmps111 nb ?_
 intro S w0 a hS h
 refine gC h (zS (zx rfl fun b1 => zz zeroValue44 fun b2 => zn (zS (zd rfl mr isAgg42 sizeOf42 Zi ?_))))
 refine zp (.build [(_, _)] rfl (Qex _ _ _)) (zt' rfl rfl Zq uu sizeOf44 rfl nb rfl ?_); intro a w h
 refine wpList_nil (wp_ret ?_)
 refine Jp h (Zd h rfl (.cell rfl mr isAgg44 sizeOf44 Zf)) ?_
 rfl
theorem Zg1 (x : Rat) : Yi Tryz.prog 117 [Jf x] (.bool (decide (x.den = 1))) := by
 refine fn_intro func117 rfl ntmps117 nb ?_
 intro S w0 a hS h
 refine gC h (zS (zx rfl fun b1 => za rfl (zn (zS (zp (.fA rfl Ze9) (zd rfl mr isAgg38 sizeOf38 Zc1 ?_))))))
 refine zp (Pure1.cast (v' := Vg 0) (.build [] rfl (Zl1)) (by rfl)) (zp (.binOp rfl rfl (fun _ => Zk0 _ _ (x.den - 1) 0 _)) (za rfl (zn (zt ?_)))); intro a w h
 refine Jp h (Zd h rfl (.tmp rfl)) ?_
 have := x.den_pos; show Value.bool _ = Value.bool _; congr 1; apply decide_eq_decide.2; omega
theorem Zge (x : Rat) (h0 : (wds x.den).length ≤ 400000000000) : Yi Tryz.prog 120 [Jf x] (Vg x.den) := by
 refine fn_intro func120 rfl ntmps120 nb ?_
 intro S w0 a hS h
 refine gC h (zS (zx rfl fun b1 => zz zeroValue38 fun b2 => zn (zs (yD Za [0, 1, 2, 3, 4] (Zb kk) (yp rfl (.fA rfl Ze9) (yd rfl rfl mr isAgg38 sizeOf38 Zc1 ?_)))))); clear h
 refine yv [_] rfl rfl call164 (C_Of 1 dd) (yv [_, _] rfl rfl call171 (C_Add (x.den - 1) 1 (Nat.le_trans (Yu (Nat.sub_le _ _)) oo) (Nat.le_trans (Vs dd) dd)) (yt rfl rfl rfl Qg uu sizeOf38 rfl nb rfl ?_))
 refine yn (zt ?_); intro a w h
 refine Jp h (Zd h rfl (.cell rfl mr isAgg38 sizeOf38 Zn)) ?_
 rw [Nat.sub_add_cancel x.den_pos]
theorem Zic (x : Rat) (h0 : (wds x.den).length ≤ 400000000000) : Yi Tryz.prog 160 [Jf x] (encZ (x.den : Int)) := by
 refine fn_intro func160 rfl ntmps160 nb ?_
 intro S w0 a hS h
 refine gC h (zS (zx rfl fun b1 => zz zeroValue42 fun b2 => zn (zS (zd rfl mr isAgg44 sizeOf44 Zf ?_))))
 refine zv [_] rfl call120 (Zge x h0) (zv [_, _] rfl call140 (Zez false x.den) (zt' rfl rfl Zz uu sizeOf42 rfl nb rfl ?_)); intro a w h
 refine wpList_nil (wp_ret ?_)
 refine Jp h (Zd h rfl (.cell rfl mr isAgg42 sizeOf42 Zi)) ?_
 rfl
theorem Zdc (n : Int) (d : Nat) (hd : d ≠ 0) (hn : Zbd n ≤ 400000000000) (hdl : (wds d).length ≤ 400000000000) : Yi Tryz.prog 135 [encZ n, Vg d] (Jf (mkRat n d)) := by
 unfold Zbd at hn
 have hg0 : n.natAbs.gcd d ≠ 0 := fun h => hd (Nat.gcd_eq_zero_iff.1 h).2
 have hgl : (wds (n.natAbs.gcd d)).length ≤ 400000000000 := Nat.le_trans (Yu (Nat.gcd_le_right _ (Nat.pos_of_ne_zero hd))) hdl
 have hq : 1 ≤ d / n.natAbs.gcd d := Nat.div_pos (Nat.gcd_le_right _ (Nat.pos_of_ne_zero hd)) (Nat.pos_of_ne_zero hg0)
 have hql : (wds (d / n.natAbs.gcd d)).length ≤ 400000000000 := Nat.le_trans (Yu (Nat.div_le_self _ _)) hdl
 obtain ⟨hm1, hm2⟩ := Ze5 n d hd
 refine fn_intro func135 rfl ntmps135 nb ?_
 intro S w0 a hS h
 refine gC h (zS (zx rfl fun b2 => zx rfl fun b3 => zz zeroValue44 fun b4 => zn (zs (yD Za [0, 2, 1, 3, 4, 5] (Jd ⟨.inl rfl, .inl rfl, .inl rfl, .inl rfl, .inr ⟨5, 38, _, _, _, rfl, rfl, by decide, _, zeroValue38⟩, .inl rfl, trivial⟩) (yd rfl rfl mr isAgg42 sizeOf42 Zi ?_))))); clear h
 refine yd rfl rfl mr isAgg38 sizeOf38 Zn ?_
 refine yv [_] rfl rfl call141 (Zyz n) (yv [_, _] rfl rfl call184 (C_Gcd _ _ oo oo) (yz rfl zeroValue38 fun b5 => yt rfl rfl rfl Qg uu sizeOf38 rfl nb rfl ?_))
 refine yn (zs (yD Za [0, 2, 1, 3, 4, 5, 6, 7, 8, 9, 10, 11, 12] (Jd ⟨.inl rfl, .inl rfl, .inl rfl, .inl rfl, .inl rfl, .inl rfl, .inl rfl, .inl rfl, .inr ⟨6, 38, _, _, _, rfl, rfl, by decide, _, zeroValue38⟩, .inr ⟨7, 38, _, _, _, rfl, rfl, by decide, _, zeroValue38⟩, .inl rfl, .inl rfl, .inl rfl, trivial⟩) (yd rfl rfl mr isAgg42 sizeOf42 Zi ?_)))
 refine yd rfl rfl mr isAgg38 sizeOf38 Zn ?_
 refine yv [_] rfl rfl call141 (Zyz n) (yv [_, _] rfl rfl call185 (Qfr n.natAbs (n.natAbs.gcd d) oo oo hg0) (ym rfl rfl (yp rfl (.eX rfl) (yp rfl (.eX rfl) (yp rfl (.eX rfl) (yz rfl zeroValue38 fun b6 => yz rfl zeroValue38 fun b7 => yt rfl rfl rfl Qg uu sizeOf38 rfl nb rfl ?_))))))
 refine yt rfl rfl rfl Qg uu sizeOf38 rfl nb rfl ?_
 refine yp rfl (.assign rfl) (yn (zS (zd rfl mr isAgg38 sizeOf38 Zn ?_)))
 refine zd rfl mr isAgg38 sizeOf38 Zn ?_
 refine zv [_, _] rfl call185 (Qfr d (n.natAbs.gcd d) oo oo hg0) (zm rfl (zp (.eX rfl) (zp (.eX rfl) (zp (.eX rfl) (zz zeroValue38 fun b9 => zz zeroValue38 fun b10 => zt' rfl rfl Qg uu sizeOf38 rfl nb rfl ?_)))))
 refine zt' rfl rfl Qg uu sizeOf38 rfl nb rfl ?_; intro a w h
 refine gL h (za rfl (zn (zs (yD Za [0, 1, 2, 3, 4, 5, 6] (Zb kk) (yd rfl rfl mr isAgg38 sizeOf38 Zn ?_))))); clear h
 refine yv [_] rfl rfl call164 (C_Of 1 dd) (yv [_, _] rfl rfl call186 (Qff _ 1 oo (Nat.le_trans (Vs dd) dd)) (ym rfl rfl (yp rfl (.eX rfl) (yp rfl (.eX rfl) (yt rfl rfl rfl Qg uu sizeOf38 rfl nb rfl ?_)))))
 refine yn (zs (yD Za [0, 3, 5, 1, 2, 4, 6, 7] (Zb kk) (yd rfl rfl mr isAgg42 sizeOf42 Zi ?_)))
 refine yd rfl rfl mr isAgg38 sizeOf38 Zn ?_
 refine yd rfl rfl mr isAgg38 sizeOf38 Zn ?_
 refine yv [_] rfl rfl call145 (Zyy n) (yp rfl (.lss rfl rfl) (yv [_, _] rfl rfl call140 (Zez _ _) (yp rfl (.build [(_, _), (_, _)] rfl (Zn7 _ _ _ _ _)) (yt rfl rfl rfl Zq uu sizeOf44 rfl nb rfl ?_))))
 refine yn (zt ?_); intro a w h
 refine Jp h (Zd h rfl (.cell rfl mr isAgg44 sizeOf44 Zf)) ?_
 rw [Jf, hm1, hm2]
theorem Zbl (x y : Rat) (ha : Qa x ≤ 100000000000) (hb : Qa y ≤ 100000000000) : Yi Tryz.prog 98 [Jf x, Jf y] (Jf (x + y)) := by
 obtain ⟨ha1, ha2⟩ := Zdt ha
 obtain ⟨hb1, hb2⟩ := Zdt hb
 have hm1 := Zej x.num (y.den : Int)
 have hm2 := Zej y.num (x.den : Int)
 have hs := Zlf (x.num * (y.den : Int)) (y.num * (x.den : Int))
 have hs2 := Zlf x.num y.num
 have hda : Zbd (x.den : Int) = (wds x.den).length := rfl
 have hdb : Zbd (y.den : Int) = (wds y.den).length := rfl
 have hdm := Za7 x.den y.den
 have hpa := x.den_pos
 have hpb := y.den_pos
 refine fn_intro func98 rfl ntmps98 nb ?_
 intro S w0 a hS h
 refine gC h (zS (zx rfl fun b2 => zx rfl fun b3 => zz zeroValue44 fun b4 => zn (zs (zb (zS (zd rfl mr isAgg44 sizeOf44 Zf ?_))))))
 refine zv [_] rfl call117 (Zg1 x) (zm rfl ?_); intro a w h
 refine Zl h (fun hc8 h => ?_) (fun hc8 h => ?_)
 ·
  skip
  have hwa : x.den = 1 := of_decide_eq_true hc8
  refine Zv 8 h rfl rfl (Yz h rfl mr isAgg44 sizeOf44 Zf dd ?_); clear h; intro a h
  refine Zv 8 h rfl rfl (Yk h (vs := [_]) rfl call117 (Zg1 y) dd ?_); clear h; intro a w h
  refine Zl h (fun hc10 h => ?_) (fun hc10 h => ?_)
  ·
   skip
   have hwb : y.den = 1 := of_decide_eq_true hc10
   refine gL h (zp (.pickT rfl rfl) (za rfl (zn ?_))); clear h; intro a w h
   refine cW ?_
   refine Zp h rfl ?_
   refine gC h (zS (zp (.fA rfl Xz) (zd rfl mr isAgg42 sizeOf42 Xb ?_)))
   refine zp (.fA rfl Xz) (zd rfl mr isAgg42 sizeOf42 Xb ?_)
   refine zv [_, _] rfl call159 (Zoj _ _ oo oo) (zv [_] rfl call111 (Zqe _) (zt' rfl rfl Zq uu sizeOf44 rfl nb rfl ?_)); intro a w h
   refine wpList_nil (wp_ret ?_)
   refine Jp h (Zd h rfl (.cell rfl mr isAgg44 sizeOf44 Zf)) ?_
   rw [show ((x.num + y.num : Int) : Rat) = x + y from Zyc hwa hwb]
  ·
   skip
   have hwb : y.den ≠ 1 := of_decide_eq_false hc10
   refine gL h (zp (.pickT rfl rfl) (za rfl (zn ?_))); clear h; intro a w h
   refine cW ?_
   refine Zk h rfl ?_
   refine gC h (zS (zp (.fA rfl Ze9) (zd rfl mr isAgg38 sizeOf38 Zc1 ?_)))
   refine zp (.fA rfl Ze9) (zd rfl mr isAgg38 sizeOf38 Zc1 ?_)
   refine zp (.binOp rfl rfl (fun _ => Zk0 _ _ (x.den - 1) (y.den - 1) _)) ?_; intro a w h
   refine Zl h (fun hc23 h => ?_) (fun hc23 h => ?_)
   ·
    skip
    have hde : x.den = y.den := dT hc23
    refine gL h (za rfl (zn ?_)); clear h; intro a w h
    refine cW ?_
    refine Zp h rfl ?_
    refine gC h (zs (yD Za [0, 1, 2, 3, 5, 4, 6, 7, 8] (Zb kk) (yp rfl (.fA rfl Xz) (yd rfl rfl mr isAgg42 sizeOf42 Xb ?_)))); clear h
    refine yp rfl (.fA rfl Xz) (yd rfl rfl mr isAgg42 sizeOf42 Xb ?_)
    refine yd rfl rfl mr isAgg44 sizeOf44 Zf ?_
    refine yv [_, _] rfl rfl call159 (Zoj _ _ oo oo) (yv [_] rfl rfl call120 (Zge x oo) (yv [_, _] rfl rfl call135 (Zdc _ _ oo oo oo) (yt rfl rfl rfl Zq uu sizeOf44 rfl nb rfl ?_)))
    refine yn (zt ?_); intro a w h
    refine Jp h (Zd h rfl (.cell rfl mr isAgg44 sizeOf44 Zf)) ?_
    rw [show mkRat (x.num + y.num) x.den = x + y from Zl5 hde]
   ·
    skip
    have hde : x.den ≠ y.den := dF hc23
    refine gL h (za rfl (zn ?_)); clear h; intro a w h
    refine cW ?_
    refine Zk h rfl ?_
    refine gC h (zk (zs (yD Za [0, 1, 2, 5, 6, 7, 11, 13, 3, 4, 8, 9, 10, 12, 14, 15, 16, 17] (Zb kk) (yp rfl (.fA rfl Xz) (yd rfl rfl mr isAgg42 sizeOf42 Xb ?_))))); clear h
    refine yd rfl rfl mr isAgg44 sizeOf44 Zf ?_
    refine yp rfl (.fA rfl Xz) (yd rfl rfl mr isAgg42 sizeOf42 Xb ?_)
    refine yd rfl rfl mr isAgg44 sizeOf44 Zf ?_
    refine yd rfl rfl mr isAgg44 sizeOf44 Zf ?_
    refine yd rfl rfl mr isAgg44 sizeOf44 Zf ?_
    refine yv [_] rfl rfl call160 (Zic y oo) (yv [_, _] rfl rfl call134 (Zjt _ _ oo oo) (yv [_] rfl rfl call160 (Zic x oo) (yv [_, _] rfl rfl call134 (Zjt _ _ oo oo) (yv [_, _] rfl rfl call159 (Zoj _ _ oo oo) (yv [_] rfl rfl call120 (Zge x oo) (yv [_] rfl rfl call120 (Zge y oo) (yv [_, _] rfl rfl call136 (Zy4 _ _ oo oo) (yv [_, _] rfl rfl call135 (Zdc _ _ (Nat.mul_ne_zero oo oo) oo oo) (yt rfl rfl rfl Zq uu sizeOf44 rfl nb rfl ?_)))))))))
    refine yn (zt ?_); intro a w h
    refine Jp h (Zd h rfl (.cell rfl mr isAgg44 sizeOf44 Zf)) ?_
    rw [Rat.add_def']
 ·
  skip
  have hwa : x.den ≠ 1 := of_decide_eq_false hc8
  refine gL h (zo 8 rfl rfl rfl (zo 8 rfl rfl rfl (zp (.pickF rfl rfl) (za rfl (zn ?_))))); clear h; intro a w h
  refine cW ?_
  refine Zk h rfl ?_
  refine gC h (zS (zp (.fA rfl Ze9) (zd rfl mr isAgg38 sizeOf38 Zc1 ?_)))
  refine zp (.fA rfl Ze9) (zd rfl mr isAgg38 sizeOf38 Zc1 ?_)
  refine zp (.binOp rfl rfl (fun _ => Zk0 _ _ (x.den - 1) (y.den - 1) _)) ?_; intro a w h
  refine Zl h (fun hc23 h => ?_) (fun hc23 h => ?_)
  ·
   skip
   have hde : x.den = y.den := dT hc23
   refine gL h (za rfl (zn ?_)); clear h; intro a w h
   refine cW ?_
   refine Zp h rfl ?_
   refine gC h (zs (yD Za [0, 1, 2, 3, 5, 4, 6, 7, 8] (Zb kk) (yp rfl (.fA rfl Xz) (yd rfl rfl mr isAgg42 sizeOf42 Xb ?_)))); clear h
   refine yp rfl (.fA rfl Xz) (yd rfl rfl mr isAgg42 sizeOf42 Xb ?_)
   refine yd rfl rfl mr isAgg44 sizeOf44 Zf ?_
   refine yv [_, _] rfl rfl call159 (Zoj _ _ oo oo) (yv [_] rfl rfl call120 (Zge x oo) (yv [_, _] rfl rfl call135 (Zdc _ _ oo oo oo) (yt rfl rfl rfl Zq uu sizeOf44 rfl nb rfl ?_)))
   refine yn (zt ?_); intro a w h
   refine Jp h (Zd h rfl (.cell rfl mr isAgg44 sizeOf44 Zf)) ?_
   rw [show mkRat (x.num + y.num) x.den = x + y from Zl5 hde]
  ·
   skip
   have hde : x.den ≠ y.den := dF hc23
   refine gL h (za rfl (zn ?_)); clear h; intro a w h
   refine cW ?_
   refine Zk h rfl ?_
   refine gC h (zk (zs (yD Za [0, 1, 2, 5, 6, 7, 11, 13, 3, 4, 8, 9, 10, 12, 14, 15, 16, 17] (Zb kk) (yp rfl (.fA rfl Xz) (yd rfl rfl mr isAgg42 sizeOf42 Xb ?_))))); clear h
   refine yd rfl rfl mr isAgg44 sizeOf44 Zf ?_
   refine yp rfl (.fA rfl Xz) (yd rfl rfl mr isAgg42 sizeOf42 Xb ?_)
   refine yd rfl rfl mr isAgg44 sizeOf44 Zf ?_
   refine yd rfl rfl mr isAgg44 sizeOf44 Zf ?_
   refine yd rfl rfl mr isAgg44 sizeOf44 Zf ?_
   refine yv [_] rfl rfl call160 (Zic y oo) (yv [_, _] rfl rfl call134 (Zjt _ _ oo oo) (yv [_] rfl rfl call160 (Zic x oo) (yv [_, _] rfl rfl call134 (Zjt _ _ oo oo) (yv [_, _] rfl rfl call159 (Zoj _ _ oo oo) (yv [_] rfl rfl call120 (Zge x oo) (yv [_] rfl rfl call120 (Zge y oo) (yv [_, _] rfl rfl call136 (Zy4 _ _ oo oo) (yv [_, _] rfl rfl call135 (Zdc _ _ (Nat.mul_ne_zero oo oo) oo oo) (yt rfl rfl rfl Zq uu sizeOf44 rfl nb rfl ?_)))))))))
   refine yn (zt ?_); intro a w h
   refine Jp h (Zd h rfl (.cell rfl mr isAgg44 sizeOf44 Zf)) ?_
   rw [Rat.add_def']
theorem Vr (x y : Rat) (ha : Qa x ≤ 100000000000) (hb : Qa y ≤ 100000000000) : Yi Tryz.prog 69 [Jf x, Jf y] (Jf (x * y)) := by
 obtain ⟨ha1, ha2⟩ := Zdt ha
 obtain ⟨hb1, hb2⟩ := Zdt hb
 have hm1 := Zej x.num y.num
 have hdm := Za7 x.den y.den
 have hpa := x.den_pos
 have hpb := y.den_pos
 refine fn_intro func69 rfl ntmps69 nb ?_
 intro S w0 a hS h
 refine gC h (zS (zx rfl fun b2 => zx rfl fun b3 => zz zeroValue44 fun b4 => zn (zs (zS (zd rfl mr isAgg44 sizeOf44 Zf ?_)))))
 refine zv [_] rfl call117 (Zg1 x) (zm rfl ?_); intro a w h
 refine Zl h (fun hc7 h => ?_) (fun hc7 h => ?_)
 ·
  skip
  have hwa : x.den = 1 := of_decide_eq_true hc7
  refine Zv 7 h rfl rfl (Yz h rfl mr isAgg44 sizeOf44 Zf dd ?_); clear h; intro a h
  refine Zv 7 h rfl rfl (Yk h (vs := [_]) rfl call117 (Zg1 y) dd ?_); clear h; intro a w h
  refine Zl h (fun hc9 h => ?_) (fun hc9 h => ?_)
  ·
   skip
   have hwb : y.den = 1 := of_decide_eq_true hc9
   refine gL h (zp (.pickT rfl rfl) (zn ?_)); clear h; intro a w h
   refine cW ?_
   refine Zp h rfl ?_
   refine gC h (zS (zp (.fA rfl Xz) (zd rfl mr isAgg42 sizeOf42 Xb ?_)))
   refine zp (.fA rfl Xz) (zd rfl mr isAgg42 sizeOf42 Xb ?_)
   refine zv [_, _] rfl call134 (Zjt _ _ oo oo) (zv [_] rfl call111 (Zqe _) (zt' rfl rfl Zq uu sizeOf44 rfl nb rfl ?_)); intro a w h
   refine wpList_nil (wp_ret ?_)
   refine Jp h (Zd h rfl (.cell rfl mr isAgg44 sizeOf44 Zf)) ?_
   rw [show ((x.num * y.num : Int) : Rat) = x * y from Zwn hwa hwb]
  ·
   skip
   refine gL h (zp (.pickT rfl rfl) (zn ?_)); clear h; intro a w h
   refine cW ?_
   refine Zk h rfl ?_
   refine gC h (zk (zs (yD Za [0, 1, 2, 3, 5, 7, 4, 6, 8, 9, 10, 11] (Zb kk) (yp rfl (.fA rfl Xz) (yd rfl rfl mr isAgg42 sizeOf42 Xb ?_))))); clear h
   refine yp rfl (.fA rfl Xz) (yd rfl rfl mr isAgg42 sizeOf42 Xb ?_)
   refine yd rfl rfl mr isAgg44 sizeOf44 Zf ?_
   refine yd rfl rfl mr isAgg44 sizeOf44 Zf ?_
   refine yv [_, _] rfl rfl call134 (Zjt _ _ oo oo) (yv [_] rfl rfl call120 (Zge x oo) (yv [_] rfl rfl call120 (Zge y oo) (yv [_, _] rfl rfl call136 (Zy4 _ _ oo oo) (yv [_, _] rfl rfl call135 (Zdc _ _ (Nat.mul_ne_zero oo oo) oo oo) (yt rfl rfl rfl Zq uu sizeOf44 rfl nb rfl ?_)))))
   refine yn (zt ?_); intro a w h
   refine Jp h (Zd h rfl (.cell rfl mr isAgg44 sizeOf44 Zf)) ?_
   rw [Rat.mul_def']
 ·
  skip
  refine gL h (zo 7 rfl rfl rfl (zo 7 rfl rfl rfl (zp (.pickF rfl rfl) (zn ?_)))); clear h; intro a w h
  refine cW ?_
  refine Zk h rfl ?_
  refine gC h (zk (zs (yD Za [0, 1, 2, 3, 5, 7, 4, 6, 8, 9, 10, 11] (Zb kk) (yp rfl (.fA rfl Xz) (yd rfl rfl mr isAgg42 sizeOf42 Xb ?_))))); clear h
  refine yp rfl (.fA rfl Xz) (yd rfl rfl mr isAgg42 sizeOf42 Xb ?_)
  refine yd rfl rfl mr isAgg44 sizeOf44 Zf ?_
  refine yd rfl rfl mr isAgg44 sizeOf44 Zf ?_
  refine yv [_, _] rfl rfl call134 (Zjt _ _ oo oo) (yv [_] rfl rfl call120 (Zge x oo) (yv [_] rfl rfl call120 (Zge y oo) (yv [_, _] rfl rfl call136 (Zy4 _ _ oo oo) (yv [_, _] rfl rfl call135 (Zdc _ _ (Nat.mul_ne_zero oo oo) oo oo) (yt rfl rfl rfl Zq uu sizeOf44 rfl nb rfl ?_)))))
  refine yn (zt ?_); intro a w h
  refine Jp h (Zd h rfl (.cell rfl mr isAgg44 sizeOf44 Zf)) ?_
  rw [Rat.mul_def']
theorem Zqk (x : Rat) : Yi Tryz.prog 83 [Jf x] (.int .i64 x.num.sign) := by
 refine fn_intro func83 rfl ntmps83 nb ?_
 intro S w0 a hS h
 refine gC h (zS (zx rfl fun b1 => za rfl (zn (zS (zp (.fA rfl Xz) (zd rfl mr isAgg42 sizeOf42 Xb ?_))))))
 refine zv [_] rfl call145 (Zyy x.num) (za rfl (zn (zt ?_))); intro a w h
 exact Zao h
theorem Gl (n : Int) (h0 : -9223372036854775808 ≤ n) (h1 : n ≤ 9223372036854775807) : Yi Tryz.prog 45 [.int .i64 n] (Jf (n : Rat)) := by
 refine fn_intro func45 rfl ntmps45 nb ?_
 intro S w0 a hS h
 refine gC h (zS (zz zeroValue44 fun b2 => zn (zS (zm rfl (zv [_] rfl call112 (C_ZOf n h0 h1) (zv [_] rfl call111 (Zqe n) (zt' rfl rfl Zq uu sizeOf44 rfl nb rfl ?_))))))); clear h; intro a w h
 refine wpList_nil (wp_ret ?_)
 refine Jp h (Zd h rfl (.cell rfl mr isAgg44 sizeOf44 Zf)) ?_
 rfl
theorem C_inv (y : Rat) (hy : y ≠ 0) (h1 : Zbd (sgZ (decide (y.num.sign < 0)) y.den) ≤ 400000000000) (h2 : (wds y.num.natAbs).length ≤ 400000000000) :
  Yi Tryz.prog 135 [encZ (sgZ (decide (y.num.sign < 0)) y.den), Vg y.num.natAbs] (Jf y⁻¹) := by
 rw [← Zf2 y hy]
 exact Zdc _ _ (fun h => hy (Rat.num_eq_zero.1 (Int.natAbs_eq_zero.1 h))) h1 h2
theorem Zy3 (x y : Rat) (hy : y ≠ 0) (hx : Qa x ≤ 100000000000) (hyl : Qa y ≤ 100000000000) : Yi Tryz.prog 124 [Jf x, Jf y] (.tuple #[Jf (x / y), .int .i64 0]) := by
 obtain ⟨hb1, hb2⟩ := Zdt hyl
 have h0 : y.num ≠ 0 := fun h => hy (Rat.num_eq_zero.1 h)
 have hs : Zbd (sgZ (decide (y.num.sign < 0)) y.den) = (wds y.den).length := by unfold Zbd; rw [Zb7]
 have hz : (wds y.num.natAbs).length = Zbd y.num := rfl
 have hinv := Zel (sgZ (decide (y.num.sign < 0)) y.den) y.num.natAbs oo
 rw [Zf2 y hy] at hinv
 refine fn_intro func124 rfl ntmps124 nb ?_
 intro S w0 a hS h
 refine gC h (zS (zx rfl fun b2 => zx rfl fun b3 => zz zeroValue44 fun b4 => za rfl (zn (zs (zS (zd rfl mr isAgg44 sizeOf44 Zf ?_))))))
 refine zv [_] rfl call83 (Zqk y) (zp (.eql rfl rfl) (zn ?_)); intro a w h
 refine cW ?_
 refine Zc h rfl (fun hc9 => (by exfalso; have := eq_of_beq hc9; exact h0 (Int.sign_eq_zero_iff_zero.1 this))) (fun hc9 => ?_)
 refine gC h (zk (zs (yD Za [0, 3, 6, 7, 1, 2, 4, 5, 8, 9, 10, 11] (Jd ⟨.inl rfl, .inl rfl, .inl rfl, .inl rfl, .inl rfl, .inl rfl, .inl rfl, .inl rfl, .inl rfl, .inl rfl, .inr ⟨6, 44, _, _, _, rfl, rfl, by decide, _, zeroValue44⟩, .inl rfl, trivial⟩) (yd rfl rfl mr isAgg44 sizeOf44 Zf ?_)))); clear h
 refine yd rfl rfl mr isAgg44 sizeOf44 Zf ?_
 refine yp rfl (.fA rfl Xz) (yd rfl rfl mr isAgg42 sizeOf42 Xb ?_)
 refine yv [_] rfl rfl call83 (Zqk y) (yp rfl (.lss rfl rfl) (yv [_] rfl rfl call120 (Zge y oo) (yv [_, _] rfl rfl call140 (Zez _ _) (yv [_] rfl rfl call141 (Zyz y.num) (yv [_, _] rfl rfl call135 (C_inv y hy oo oo) (yz rfl zeroValue44 fun b6 => yt rfl rfl rfl Zq uu sizeOf44 rfl nb rfl ?_))))))
 refine yn (zS (zd rfl mr isAgg44 sizeOf44 Zf ?_))
 refine zd rfl mr isAgg44 sizeOf44 Zf ?_
 refine zv [_, _] rfl call69 (Vr x y⁻¹ hx oo) (zt' rfl rfl Zq uu sizeOf44 rfl nb rfl ?_)
 refine za rfl (zn (zt ?_)); intro a w h
 refine Jp h (Jv h rfl (.cell rfl mr isAgg44 sizeOf44 Zf) (.tmp rfl)) ?_
 rw [Rat.div_def]
end
section
theorem Zh7 {b off : Nat} (w : World) : (Instr.fieldAt 209 (.pointer (some ⟨b, off, none⟩)) 0).run Tryz.prog w = .ok (.pointer (some ⟨b, off + 0, none⟩)) w := by
 simp [go_sem]
theorem Zfx (a : Option Addr) (n c : Nat) (w : World) (ty : TypeId) (cs : Array Bool) : (Go.builtin .len #[207] ty cs #[.slice a n c]).run Tryz.prog w = .ok (.value (.int .i64 n)) w := by
 simp [go_sem]
theorem Qb7 (b off n c j : Nat) (h : j < n) (w : World) : (Instr.indexAt 207 (.slice (some ⟨b, off, none⟩) n c) (.int .i64 (j : Int))).run Tryz.prog w = .ok (.pointer (some ⟨b, off + j * 5, none⟩)) w := by
 simpa using Xe runUnderlying207 sizeOf44 b off n c j h w
theorem Xi (w : World) : (zeroValue 44).run Tryz.prog w = .ok (Jf 0) w := zeroValue44 w
abbrev encP (p : Rat × Rat × Rat) : Value := .agg #[.int .u64 (Zet p.1.num.natAbs), .string (Zan p.1.num.natAbs), .bool (decide (p.1.num < 0)), .int .u64 (Zet (p.1.den - 1)), .string (Zan (p.1.den - 1)),
 .int .u64 (Zet p.2.1.num.natAbs), .string (Zan p.2.1.num.natAbs), .bool (decide (p.2.1.num < 0)), .int .u64 (Zet (p.2.1.den - 1)), .string (Zan (p.2.1.den - 1)),
 .int .u64 (Zet p.2.2.num.natAbs), .string (Zan p.2.2.num.natAbs), .bool (decide (p.2.2.num < 0)), .int .u64 (Zet (p.2.2.den - 1)), .string (Zan (p.2.2.den - 1))]
theorem Zso {x y : Rat} : (Zet x.num.natAbs = Zet y.num.natAbs ∧ Zan x.num.natAbs = Zan y.num.natAbs ∧ decide (x.num < 0) = decide (y.num < 0) ∧ Zet (x.den - 1) = Zet (y.den - 1) ∧ Zan (x.den - 1) = Zan (y.den - 1)) ↔ x = y := by
 constructor
 ·
  rintro ⟨h1, h2, h3, h4, h5⟩
  have e1 := Zlr h1 h2
  have e2 := Zlr h4 h5
  have := x.den_pos
  have := y.den_pos
  refine Rat.ext ?_ oo
  have h3' : (x.num < 0) ↔ (y.num < 0) := decide_eq_decide.1 h3
  omega
 · rintro rfl; exact ⟨rfl, rfl, rfl, rfl, rfl⟩
theorem str_eq (n m : Nat) : ((Zan n).toList = (Zan m).toList) ↔ Zan n = Zan m := by have := Zcf (Zan n) (Zan m); rw [Bool.eq_iff_iff] at this; simpa using this
theorem Za9 (X Y : Operand) (x y : Rat) (w : World) : (do eqGuard .eql 44 X Y (Jf x) (Jf y); Go.binOp .eql 44 (Jf x) (Jf y) : Sem Value).run Tryz.prog w = .ok (.bool (decide (x = y))) w := by
 simp [go_sem]
 have hq := @Zso x y
 rw [decide_eq_decide] at hq
 simp only [← str_eq] at hq
 by_cases e : x = y
 ·
  obtain ⟨h1, h2, h3, h4, h5⟩ := hq.2 e
  rw [if_pos h1, if_pos h2, if_pos h3, if_pos h4, if_pos h5]; simp [e]
 ·
  rw [show decide (x = y) = false from by simp [e]]
  (repeat' split) <;> first | rfl | (exact absurd (hq.1 ⟨‹_›, ‹_›, ‹_›, ‹_›, ‹_›⟩) e)
theorem Ga (X Y : Operand) (x y : Rat) (w : World) : (do eqGuard .neq 44 X Y (Jf x) (Jf y); Go.binOp .neq 44 (Jf x) (Jf y) : Sem Value).run Tryz.prog w = .ok (.bool (!decide (x = y))) w := by
 simp [go_sem]
 have hq := @Zso x y
 rw [decide_eq_decide] at hq
 simp only [← str_eq] at hq
 by_cases e : x = y
 ·
  obtain ⟨h1, h2, h3, h4, h5⟩ := hq.2 e
  rw [if_pos h1, if_pos h2, if_pos h3, if_pos h4, if_pos h5]; simp [e]
 ·
  rw [show decide (x = y) = false from by simp [e]]
  (repeat' split) <;> first | rfl | (exact absurd (hq.1 ⟨‹_›, ‹_›, ‹_›, ‹_›, ‹_›⟩) e)
theorem Zby (x : Rat) : Qa (-x) = Qa x := by simp [Qa, Zbd, Rat.neg_num, Rat.neg_den]
theorem Qz (x y : Rat) : Qa (x - y) ≤ Qa x + Qa y + 1 := by rw [Rat.sub_eq_add_neg]; have := Qs x (-y); rw [Zby] at this; exact this
theorem Qe (n : Int) (h0 : -9223372036854775808 ≤ n) (h1 : n ≤ 9223372036854775807) : Qa ((n : Int) : Rat) ≤ 2 := by
 have : (wds n.natAbs).length ≤ 2 := Vs oo
 unfold Qa Zbd
 rw [Rat.num_intCast, Rat.den_intCast]
 have h2 : (wds 1).length ≤ 2 := Vs dd
 omega
theorem Vf : Qa 0 ≤ 2 := Qe 0 oo oo
theorem Zr6 (y : Rat) : Qa y⁻¹ ≤ Qa y := by
 by_cases hy : y = 0
 · subst hy; rw [Rat.inv_zero]; exact Nat.le_refl _
 ·
  rw [← Zf2 y hy]
  have h0 : y.num ≠ 0 := fun h => hy (Rat.num_eq_zero.1 h)
  have := Zel (sgZ (decide (y.num.sign < 0)) y.den) y.num.natAbs oo
  unfold Zbd at this
  rw [Zb7] at this
  unfold Qa Zbd at *
  omega
theorem Ko (x y : Rat) : Qa (x / y) ≤ Qa x + Qa y := by
 rw [Rat.div_def]; have := Zu x y⁻¹; have := Zr6 y; omega
theorem Zi1 (n d : Int) (h0 : -9223372036854775808 ≤ n) (h1 : n ≤ 9223372036854775807) (h2 : -9223372036854775808 ≤ d) (h3 : d ≤ 9223372036854775807) : Qa ((n : Rat) / (d : Rat)) ≤ 4 := by
 have := Ko (n : Rat) (d : Rat); have := Qe n h0 h1; have := Qe d h2 h3; omega
abbrev Zo (k : Nat) : Value := .int .i64 (k : Int)
theorem getD_mem {α : Type} (l : List α) {i : Nat} {d : α} (h : i < l.length) : l.getD i d ∈ l := by
 simp only [List.getD, List.getElem?_eq_getElem h, Option.getD_some]; exact List.getElem_mem h
theorem Zbf {α β : Type} {f : β → α → β} (l : List α) (s : β) (i : Nat) (d : α) (h : i < l.length) : (l.take (i + 1)).foldl f s = f ((l.take i).foldl f s) (l.getD i d) := by
 rw [List.take_add_one, List.getElem?_eq_getElem h, List.foldl_append]
 simp [List.getD, List.getElem?_eq_getElem h]
theorem Zol (x : Rat) : Yi Tryz.prog 99 [Jf x] (Jf (-x)) := by
 refine fn_intro func99 rfl ntmps99 nb ?_
 intro S w0 a hS h
 refine gC h (zS (zx rfl fun b1 => zz Xi fun b2 => zn (zs (yD Za [0, 1, 3, 4, 2, 5, 6] (Zb kk) (yp rfl (.fA rfl Xz) (yd rfl rfl mr isAgg42 sizeOf42 Xb ?_)))))); clear h
 refine yp rfl (.fA rfl Ze9) (yd rfl rfl mr isAgg38 sizeOf38 Zc1 ?_)
 refine yv [_] rfl rfl call161 (C_ZNeg x.num) (yp rfl (.build [(_, _), (_, _)] rfl (Zn7 _ _ _ _ _)) (yt rfl rfl rfl Zq uu sizeOf44 rfl nb rfl ?_))
 refine yn (zt ?_); intro a w h
 refine Jp h (Zd h rfl (.cell rfl mr isAgg44 sizeOf44 Zf)) ?_
 unfold Jf; rw [Rat.neg_num, Rat.neg_den]
theorem Zb4 (x y : Rat) (ha : Qa x ≤ 10000000000) (hb : Qa y ≤ 10000000000) : Yi Tryz.prog 68 [Jf x, Jf y] (Jf (x - y)) := by
 refine fn_intro func68 rfl ntmps68 nb ?_
 intro S w0 a hS h
 refine gC h (zS (zx rfl fun b2 => zx rfl fun b3 => zz Xi fun b4 => zn (zs (yD Za [0, 1, 2, 3, 4] (Zb kk) (yd rfl rfl mr isAgg44 sizeOf44 Zf ?_))))); clear h
 refine yd rfl rfl mr isAgg44 sizeOf44 Zf ?_
 refine yv [_] rfl rfl call99 (Zol _) ?_
 have hl7 := Zby (y)
 refine yv [_, _] rfl rfl call98 (Zbl _ _ oo oo) ?_
 have hl8 := Qs (x) (-y)
 refine yt rfl rfl rfl Zq uu sizeOf44 rfl nb rfl ?_
 refine yn (zt ?_); intro a w h
 refine Jp h (Zd h rfl (.cell rfl mr isAgg44 sizeOf44 Zf)) ?_
 rw [← Rat.sub_eq_add_neg]
theorem Qcn (b : Nat) (s x : Rat) (σ : List (Nat × Obj)) (Φ : List Qh) (hs : Qa s ≤ 10000000000) (hx : Qa x ≤ 10000000000) :
  Zmj Tryz.prog 155 [.pointer (some ⟨b, 0, none⟩), Jf x] ((b, .cells (Jf s).cells 209 (0, 0)) :: σ) Φ (fun v σ' Φ' => v = .tuple #[] ∧ σ' = (b, .cells (Jf (s + x)).cells 209 (0, 0)) :: σ ∧ Φ' = Φ) := by
 refine fn_introM func155 rfl ntmps155 nb ?_
 intro S w0 a w hS h
 refine gC h (zS (zx rfl fun b3 => zn (yD Za [0, 1, 2, 3, 4, 5, 6, 7, 8, 9] (Zb kk) (ym rfl rfl (ym rfl rfl (yp rfl (.nilCheck rfl) (yp rfl (.fA rfl Zh7) (yd rfl rfl mr isAgg44 sizeOf44 Zf ?_)))))))); clear h
 refine yd rfl rfl mr isAgg44 sizeOf44 Zf ?_
 refine yv [_, _] rfl rfl call98 (Zbl _ _ oo oo) ?_
 have hl10 := Qs (s) (x)
 refine yp rfl (.nilCheck rfl) (yp rfl (.fA rfl Zh7) (yt rfl rfl rfl Zq uu sizeOf44 rfl nb rfl ?_))
 refine yn ?_; intro a w h
 refine Qa0 h (Zee rfl) ⟨rfl, rfl, rfl⟩ (List.sublist_cons_self _ _) (fun _ h => h)
theorem Zux (b : Nat) (s : Rat) (ad : Option Addr) (c : Nat) (l : List Rat) (σ : List (Nat × Obj)) (Φ : List Qh) (hn : l.length ≤ 1000000) (hs : Qa s ≤ 1000000) (hx : ∀ x ∈ l, Qa x ≤ 1000) (hR : Row ad (cellsOf Jf l) ∈ Φ) :
  Zmj Tryz.prog 154 [.func (.func 155) #[.pointer (some ⟨b, 0, none⟩)] #[], .slice ad l.length c] ((b, .cells (Jf s).cells 209 (0, 0)) :: σ) Φ (fun v σ' Φ' => v = .tuple #[] ∧ σ' = (b, .cells (Jf (l.foldl (· + ·) s)).cells 209 (0, 0)) :: σ ∧ Φ' = Φ) := by
 refine fn_introM func154 rfl ntmps154 nb ?_
 intro S w0 a w hS h
 refine gC h (zS (zm rfl (zp (.builtin [_] rfl (Zfx _ _ _)) (zm rfl (zn (zb ?_)))))); clear h; intro a w h
 refine Zg (fun (i : Nat) a w => i ≤ l.length ∧ (Qa ((l.take i).foldl (· + ·) s) ≤ 1000000 + 1001 * i) ∧ St 16 S w0 [(0, .func (.func 155) #[.pointer (some ⟨b, 0, none⟩)] #[]), (6, .slice ad l.length c), (7, nI l.length), (8, nI i)] ((b, bV (Jf ((l.take i).foldl (· + ·) s)) 209) :: σ) (Φ) a w) (fun i => l.length - i) 0 (⟨Nat.zero_le _, by simpa using hs, by exact (h).sub sA⟩) ?_; clear h
 rintro i a w ⟨hi_i, hinv_i, h⟩
 refine gC h (zS (zp (.lss rfl rfl) (zn (zs ?_)))); clear h; intro a w h
 refine Zc h rfl (fun hc9 => ?_) (fun hc9 => ?_)
 ·
  skip
  have hlt_i : i < l.length := dT hc9
  obtain ⟨B_ad, O_ad, rfl⟩ := h.row_addr (ad := ad) (M := cellsOf Jf l) mm (nE 5)
  have hl := hx (l.getD i 0) (getD_mem _ hlt_i)
  have hsum := Zbf (f := (· + ·)) l s i 0 hlt_i
  have hla := Qs ((l.take i).foldl (· + ·) s) (l.getD i 0)
  refine gC h (zk (zs (zb (zS (zp (.indexAddr rfl rfl (Qb7 _ _ _ _ _ oo)) (zD rfl mm (cells_lt (k := 5) dd (fun _ => rfl) l i oo) isAgg44 sizeOf44 (Qb (k := 5) (fun _ => rfl) ((fun _ => rfl)) l 0 i oo) (.inl rfl) ?_))))))
  refine zz Xi fun b5 => zt' rfl rfl Zq uu sizeOf44 rfl nb rfl ?_
  refine zn (zr (zm rfl (zd rfl mr isAgg44 sizeOf44 Zf ?_))); intro a w h
  refine Zh (Zm4 h hS (fs := [.pointer (some ⟨b, 0, none⟩)]) (cs := []) rfl (vs := [_]) rfl call155 (Qcn b ((l.take i).foldl (· + ·) s) (l.getD i 0) ((b5, _) :: σ) Φ oo oo) (List.Perm.swap _ _ _) ss ss ?_); clear h; rintro v14 σ14 Ψ14 a w ⟨rfl, rfl, rfl⟩ h
  refine gL h (zn (zr (zp (.pN (i + 1) (.add rfl rfl)) (zm rfl (zn ?_))))); clear h; intro a w h
  rw [← hsum] at h
  exact ⟨i + 1, ⟨oo, by rw [hsum]; omega, (h.drop sl).sub sA⟩, oo⟩
 ·
  skip
  have heq_i : l.length = i := dF hc9
  subst heq_i
  refine wp_exit ?_
  refine Qa0 h (Zee rfl) ⟨rfl, by rw [List.take_length], rfl⟩ (List.Sublist.refl _) (fun _ h => h)
theorem C_QSum (ad : Option Addr) (c : Nat) (l : List Rat) (hn : l.length ≤ 1000000) (hx : ∀ x ∈ l, Qa x ≤ 1000) :
  Zae Tryz.prog 92 [.slice ad l.length c] [Row ad (cellsOf Jf l)] (Jf (l.foldl (· + ·) 0)) := by
 refine fn_intro func92 rfl ntmps92 nb ?_
 intro S w0 a hS h
 refine gC h (zS (zz Xi fun b2 => zn (zS (zz zeroValue209 fun b3 => zn (zS (zp (.makeFunc [_] [] rfl rfl) (zm rfl ?_))))))); clear h; intro a w h
 refine Zh (Zat h hS (vs := [_, _]) rfl call154 (Zux b3 0 ad c l [(b2, _)] [Row ad (cellsOf Jf l)] hn (Nat.le_trans Vf dd) hx List.mem_cons_self) (List.Perm.refl _) ss ss ?_); clear h; rintro v6 σ6 Ψ6 a w ⟨rfl, rfl, rfl⟩ h
 refine gL h (zn (zS (zp (.fA rfl Zh7) (zd rfl mr isAgg44 sizeOf44 Zf ?_))))
 refine zt' rfl rfl Zq uu sizeOf44 rfl nb rfl ?_; intro a w h
 refine wpList_nil (wp_ret ?_)
 refine Jp h (Zd h rfl (.cell rfl mr isAgg44 sizeOf44 Zf)) ?_
 rfl
theorem Qfj (n d : Int) (h0 : -9223372036854775808 ≤ n) (h1 : n ≤ 9223372036854775807) (h2 : -9223372036854775808 ≤ d) (h3 : d ≤ 9223372036854775807) (hd : d ≠ 0) :
  Yi Tryz.prog 60 [.int .i64 n, .int .i64 d] (.tuple #[Jf ((n : Rat) / (d : Rat)), .int .i64 0]) := by
 refine fn_intro func60 rfl ntmps60 nb ?_
 intro S w0 a hS h
 refine gC h (zS (zz Xi fun b4 => za rfl (zn (zS (zm rfl (zv [_] rfl call45 (Gl _ oo oo) ?_))))))
 have hl7 := Qe (n) oo oo
 refine zm rfl (zv [_] rfl call45 (Gl _ oo oo) ?_)
 have hl9 := Qe (d) oo oo
 refine zv [_, _] rfl call124 (Zy3 _ _ (by exact fun e => hd (Rat.intCast_eq_zero_iff.1 e)) oo oo) (zp (.eX rfl) (zp (.eX rfl) (zt' rfl rfl Zq uu sizeOf44 rfl nb rfl ?_)))
 refine za rfl (zn (zt ?_)); intro a w h
 refine Jp h (Jv h rfl (.cell rfl mr isAgg44 sizeOf44 Zf) (.tmp rfl)) ?_
 rfl
end
section
theorem sls_9 (x : ByteArray) (lo hi : Nat) (h1 : lo ≤ hi) (h2 : hi ≤ x.size) (w : World) : (Instr.sliceAt 9 (.string x) (some (.int .i64 (lo : Int))) (some (.int .i64 (hi : Int))) none).run Tryz.prog w = .ok (.string (x.extract lo hi)) w := Zo0 runUnderlying9 x lo hi h1 h2 w
theorem Qeq (x : Int) (w : World) : (Go.convert 36 3 (.int .u64 x)).run Tryz.prog w = .ok (.int .i64 (IntKind.i64.wrap x)) w := by
 simp [go_sem]
theorem Zsv (x : Int) (h0 : IntKind.i64.wrap x = x) (w : World) : (Go.convert 36 3 (.int .u64 x)).run Tryz.prog w = .ok (.int .i64 x) w := by
 rw [Qeq, h0]
def Zmi (n : Nat) : ByteArray := if n < 10 then ⟨#[UInt8.ofNat (48 + n)]⟩ else ⟨#[UInt8.ofNat (48 + n / 10), UInt8.ofNat (48 + n % 10)]⟩
def Zkv (z : Int) : ByteArray := if z < 0 then ⟨#[45]⟩ ++ Zmi z.natAbs else Zmi z.natAbs
def Zoy (x : Rat) : ByteArray := if x.den = 1 then Zkv x.num else Zkv x.num ++ ⟨#[47]⟩ ++ Zmi x.den
def textU (l : List Rat) : Nat → ByteArray
 | 0 => ⟨#[]⟩
 | i + 1 => (if 0 < i then textU l i ++ ⟨#[32]⟩ else textU l i) ++ Zoy (l.getD i 0)
theorem Zja (n : Nat) : (Zmi n).size ≤ 2 := by unfold Zmi; split <;> simp [ByteArray.size]
theorem Zj3 (z : Int) : (Zkv z).size ≤ 3 := by
 unfold Zkv; have := Zja z.natAbs
 split
 ·
  rw [ByteArray.size_append]; have : (ByteArray.mk #[45]).size = 1 := rfl
  omega
 · omega
def tab1 : ByteArray := ⟨#[48, 49, 50, 51, 52, 53, 54, 55, 56, 57, 97, 98, 99, 100, 101, 102, 103, 104, 105, 106, 107, 108, 109, 110, 111, 112, 113, 114, 115, 116, 117, 118, 119, 120, 121, 122]⟩
def tab2 : ByteArray := ⟨#[48, 48, 48, 49, 48, 50, 48, 51, 48, 52, 48, 53, 48, 54, 48, 55, 48, 56, 48, 57, 49, 48, 49, 49, 49, 50, 49, 51, 49, 52, 49, 53, 49, 54, 49, 55, 49, 56, 49, 57, 50, 48, 50, 49, 50, 50, 50, 51, 50, 52, 50, 53, 50, 54, 50, 55, 50, 56, 50, 57, 51, 48, 51, 49, 51, 50, 51, 51, 51, 52, 51, 53, 51, 54, 51, 55, 51, 56, 51, 57, 52, 48, 52, 49, 52, 50, 52, 51, 52, 52, 52, 53, 52, 54, 52, 55, 52, 56, 52, 57, 53, 48, 53, 49, 53, 50, 53, 51, 53, 52, 53, 53, 53, 54, 53, 55, 53, 56, 53, 57, 54, 48, 54, 49, 54, 50, 54, 51, 54, 52, 54, 53, 54, 54, 54, 55, 54, 56, 54, 57, 55, 48, 55, 49, 55, 50, 55, 51, 55, 52, 55, 53, 55, 54, 55, 55, 55, 56, 55, 57, 56, 48, 56, 49, 56, 50, 56, 51, 56, 52, 56, 53, 56, 54, 56, 55, 56, 56, 56, 57, 57, 48, 57, 49, 57, 50, 57, 51, 57, 52, 57, 53, 57, 54, 57, 55, 57, 56, 57, 57]⟩
theorem Qc8 (i : Nat) (h : i < 10) : tab1.extract i (i + 1) = Zmi i := by
 have : ∀ i, i < 10 → tab1.extract i (i + 1) = Zmi i := by decide +kernel
 exact this i h
theorem Qc7 (i : Nat) (h0 : ¬ i < 10) (h : i < 100) : tab2.extract (i * 2) (i * 2 + 2) = Zmi i := by
 have : ∀ i, i < 100 → ¬ i < 10 → tab2.extract (i * 2) (i * 2 + 2) = Zmi i := by decide +kernel
 exact this i h h0
theorem Qe9 (n : Nat) (hlt : n < 100) : Yi Tryz.prog 224 [.int .i64 ((n : Nat) : Int)] (.string (Zmi n)) := by
 refine fn_intro func224 rfl ntmps224 nb ?_
 intro S w0 a hS h
 refine gC h (zS (za rfl (zn (zs (zS (zm rfl (zp (.lss rfl rfl) (zn ?_)))))))); clear h; intro a w h
 refine cW ?_
 refine Zc h rfl (fun hc4 => ?_) (fun hc4 => ?_)
 ·
  skip
  have hn : n < 10 := dT hc4
  refine gC h (zS (zm rfl (zm rfl (zp (.pN (n + 1) (.add rfl rfl)) (zp (.slice rfl (some _) (some _) none rfl rfl rfl (sls_9 _ _ _ (by first | omega | (show n + 1 ≤ 36; omega)) (by first | omega | (show n + 1 ≤ 36; omega)))) (za rfl (zn (zt ?_)))))))); clear h; intro a w h
  refine Jp h (Zd h rfl (.tmp rfl)) ?_
  exact congrArg _ (Qc8 n hn)
 ·
  skip
  have hn : ¬ n < 10 := dF hc4
  refine gC h (zk (zS (zm rfl (zp (.pN (n * 2) (.mul rfl rfl)) (zm rfl (zp (.pN (n * 2) (.mul rfl rfl)) (zp (.pN ((n * 2) + 2) (.add rfl rfl)) (zp (.slice rfl (some _) (some _) none rfl rfl rfl (sls_9 _ _ _ (by first | omega | (show n * 2 + 2 ≤ 200; omega)) (by first | omega | (show n * 2 + 2 ≤ 200; omega)))) (za rfl (zn (zt ?_))))))))))); clear h; intro a w h
  refine Jp h (Zd h rfl (.tmp rfl)) ?_
  exact congrArg _ (Qc7 n hn hlt)
theorem C_iFU (n : Nat) (hlt : n < 100) : Yi Tryz.prog 199 [.int .u64 (n : Int), .int .i64 10] (.string (Zmi n)) := by
 refine fn_intro func199 rfl ntmps199 nb ?_
 intro S w0 a hS h
 refine gC h (zS (za rfl (zn (zs (zS (zm rfl (zp (.eql rfl rfl) (zn ?_)))))))); clear h; intro a w h
 refine cW ?_
 refine Zc h rfl (fun hc10 => ?_) (fun hc10 => (absurd hc10 dd))
 refine gC h (zs (zS (zm rfl (zp (.lss rfl rfl) (zn ?_))))); clear h; intro a w h
 refine cW ?_
 refine Zc h rfl (fun hc12 => ?_) (fun hc12 => (by exfalso; have := of_decide_eq_false hc12; omega))
 refine gC h (zS (zm rfl (zp (.convert rfl (Zsv _ (wrap_i64 _ oo oo))) (zv [_] rfl call224 (Qe9 n hlt) (za rfl (zn (zt ?_))))))); clear h; intro a w h
 exact Zao h
theorem C_FU (n : Nat) (hlt : n < 100) : Yi Tryz.prog 165 [.int .u64 (n : Int), .int .i64 10] (.string (Zmi n)) := by
 refine fn_intro func165 rfl ntmps165 nb ?_
 intro S w0 a hS h
 refine gC h (zS (za rfl (zn (zS (zm rfl (zm rfl (zv [_, _] rfl call199 (C_iFU n hlt) (za rfl (zn (zt ?_)))))))))); clear h; intro a w h
 exact Zao h
theorem Zql (n : Nat) (hlt : n < 100) : Yi Tryz.prog 119 [Vg n] (.string (Zmi n)) := by
 refine fn_intro func119 rfl ntmps119 nb ?_
 intro S w0 a hS h
 refine gC h (zS (zx rfl fun b1 => za rfl (zn (zs (zS (zp (.fA rfl Vy) (zd rfl mr isAgg9 sizeOf9 Xn ?_)))))))
 refine zp (.binOp rfl rfl (fun _ => Vl _ _ _ _ _)) (zn ?_); intro a w h
 refine cW ?_
 refine Zc h rfl (fun hc10 => ?_) (fun hc10 => (by exfalso; have hb : Zan n = ⟨#[]⟩ := Vi oo; rw [hb] at hc10; exact absurd hc10 dd))
 refine gC h (zS (zp (.fA rfl Vj) (zd rfl mr isAgg36 sizeOf36 Xy ?_))); clear h; intro a w h
 rw [Qi (show n < 18446744073709551616 by omega)] at h
 refine gL h (zv [_, _] rfl call165 (C_FU n hlt) (za rfl (zn (zt ?_)))); clear h; intro a w h
 exact Zao h
theorem Zyx (z : Int) (hz : z.natAbs < 100) : Yi Tryz.prog 118 [encZ z] (.string (Zkv z)) := by
 refine fn_intro func118 rfl ntmps118 nb ?_
 intro S w0 a hS h
 refine gC h (zS (zx rfl fun b1 => za rfl (zn (zs (zS (zp (.fA rfl Zbg) (zd rfl mr isAgg4 sizeOf4 Zbs ?_))))))); clear h; intro a w h
 refine wpList_nil ?_
 refine cW ?_
 refine Zc h rfl (fun hc4 => ?_) (fun hc4 => ?_)
 ·
  skip
  have hn : z < 0 := of_decide_eq_true hc4
  refine gC h (zS (zp (.fA rfl Ku) (zp (.fA rfl Gj) (zd rfl mr isAgg38 sizeOf38 Xc ?_))))
  refine zv [_] rfl call119 (Zql z.natAbs hz) (zp (.binOp rfl rfl (fun _ => Kn _ _ _ _ _ (by have := Zja z.natAbs; have h1 : (ByteArray.mk #[45]).size = 1 := rfl; omega))) (za rfl (zn (zt ?_)))); intro a w h
  refine Jp h (Zd h rfl (.tmp rfl)) ?_
  unfold Zkv; rw [if_pos hn]
 ·
  skip
  have hn : ¬ z < 0 := of_decide_eq_false hc4
  refine gC h (zk (zS (zp (.fA rfl Ku) (zp (.fA rfl Gj) (zd rfl mr isAgg38 sizeOf38 Xc ?_)))))
  refine zv [_] rfl call119 (Zql z.natAbs hz) (za rfl (zn (zt ?_))); intro a w h
  refine Jp h (Zd h rfl (.tmp rfl)) ?_
  unfold Zkv; rw [if_neg hn]
theorem Qfi (x : Rat) (hn : x.num.natAbs < 100) (hd : x.den < 100) : Yi Tryz.prog 55 [Jf x] (.string (Zoy x)) := by
 refine fn_intro func55 rfl ntmps55 nb ?_
 intro S w0 a hS h
 refine gC h (zS (zx rfl fun b1 => za rfl (zn (zs (zS (zd rfl mr isAgg44 sizeOf44 Zf ?_))))))
 refine zv [_] rfl call117 (Zg1 x) (zn ?_); intro a w h
 refine cW ?_
 refine Zc h rfl (fun hc4 => ?_) (fun hc4 => ?_)
 ·
  skip
  have hw : x.den = 1 := of_decide_eq_true hc4
  refine gC h (zS (zp (.fA rfl Xz) (zd rfl mr isAgg42 sizeOf42 Xb ?_)))
  refine zv [_] rfl call118 (Zyx x.num hn) (za rfl (zn (zt ?_))); intro a w h
  refine Jp h (Zd h rfl (.tmp rfl)) ?_
  unfold Zoy; rw [if_pos hw]
 ·
  skip
  have hw : ¬ x.den = 1 := of_decide_eq_false hc4
  refine gC h (zk (zs (yD Za [0, 1, 4, 2, 3, 5, 6, 7, 8] (Zb kk) (yp rfl (.fA rfl Xz) (yd rfl rfl mr isAgg42 sizeOf42 Xb ?_))))); clear h
  refine yd rfl rfl mr isAgg44 sizeOf44 Zf ?_
  refine yv [_] rfl rfl call118 (Zyx x.num hn) (yp rfl (.binOp rfl rfl (fun _ => Kn _ _ _ _ _ (by have := Zj3 x.num; have h1 : (ByteArray.mk #[47]).size = 1 := rfl; omega))) (yv [_] rfl rfl call120 (Zge x (Nat.le_trans (Vs oo) dd)) (yv [_] rfl rfl call119 (Zql x.den hd) (yp rfl (.binOp rfl rfl (fun _ => Kn _ _ _ _ _ (by have := Zj3 x.num; have := Zja x.den; have h1 : (ByteArray.mk #[47]).size = 1 := rfl; rw [ByteArray.size_append]; omega))) (yp rfl (.assign rfl) (yn (zt ?_))))))); intro a w h
  refine Jp h (Zd h rfl (.tmp rfl)) ?_
  unfold Zoy; rw [if_neg hw]
end
section
def Zqb (i k : Int) : Int := if i < k then -1 else if i > k then 1 else 0
def validQ (t : Rat) : Bool := decide (t.num.sign ≥ 0) && decide ((t - ((1 : Int) : Rat)).num.sign ≤ 0)
theorem Zyv (x : Int) : Yi Tryz.prog 196 [.int .i64 x] (.bool false) := by
 refine fn_intro func196 rfl ntmps196 nb ?_
 intro S w0 a hS h
 refine gC h (zS (za rfl (zn (zS (zm rfl (zm rfl (zp (.neq rfl rfl) (za rfl (zn (zt ?_)))))))))); clear h; intro a w h
 refine Jp h (Zd h rfl (.tmp rfl)) ?_
 simp
theorem Qcw (x y : Int) : Yi Tryz.prog 152 [.int .i64 x, .int .i64 y] (.int .i64 (Zqb x y)) := by
 refine fn_intro func152 rfl ntmps152 nb ?_
 intro S w0 a hS h
 refine gC h (zS (za rfl (zn (zS (zm rfl (zv [_] rfl call196 (Zyv _) (za rfl (zn (zS (zm rfl (zv [_] rfl call196 (Zyv _) (za rfl (zn (zs (zS (zm rfl ?_)))))))))))))))); clear h; intro a w h
 refine Zl h (fun hc11 h => (by exfalso; cases hc11)) (fun hc11 h => ?_)
 refine wpList_nil ?_
 refine cW ?_
 refine Zk h rfl ?_
 refine gC h (zk (zs (zS (zm rfl ?_)))); clear h; intro a w h
 refine Zl h (fun hc13 h => (by exfalso; cases hc13)) (fun hc13 h => ?_)
 refine wpList_nil ?_
 refine cW ?_
 refine Zk h rfl ?_
 refine gC h (zk (zs (zS (zm rfl (zm rfl (zp (.lss rfl rfl) (zn ?_))))))); clear h; intro a w h
 refine cW ?_
 refine Zc h rfl (fun hc16 => ?_) (fun hc16 => ?_)
 ·
  skip
  refine gC h (zS (za rfl (zn (zt ?_)))); clear h; intro a w h
  refine Jp h (Zd h rfl (.tmp rfl)) ?_
  unfold Zqb; have := of_decide_eq_true hc16; simp [this]
 ·
  skip
  refine gC h (zk (zs (zS (zm rfl (zm rfl (zp (.gtr rfl rfl) (zn ?_))))))); clear h; intro a w h
  refine cW ?_
  refine Zc h rfl (fun hc19 => ?_) (fun hc19 => ?_)
  ·
   skip
   refine gC h (zS (za rfl (zn (zt ?_)))); clear h; intro a w h
   refine Jp h (Zd h rfl (.tmp rfl)) ?_
   unfold Zqb; have h1 := of_decide_eq_false hc16; have h2 := of_decide_eq_true hc19; rw [if_neg h1, if_pos h2]
  ·
   skip
   refine gC h (zk (zS (za rfl (zn (zt ?_))))); clear h; intro a w h
   refine Jp h (Zd h rfl (.tmp rfl)) ?_
   unfold Zqb; have h1 := of_decide_eq_false hc16; have h2 := of_decide_eq_false hc19; rw [if_neg h1, if_neg h2]
end
section
theorem Zz0 (x : Int) (h0 : -9223372036854775807 ≤ x) (h1 : x ≤ 9223372036854775807) (w : World) : (Op.unary .neg (.int .i64 x)).run Tryz.prog w = .ok (.int .i64 (-x)) w := by
 have : (Op.unary .neg (.int .i64 x)).run Tryz.prog w = .ok (.int .i64 (IntKind.i64.wrap (0 - x))) w := by simp [Op.unary, Op.intArith]
 rw [this, wrap_i64 _ oo oo]; congr 2; omega
end
end Go.Proofs.YtddhlkfpdjmplaaGreatDoor
