/- Walks of functions. By an AI agent. -/
import Derived.Test.YtgkicbaomcmfoaaGreatDoorExprtr
import Derived.Test.YtgkicbaomcmfoaaGreatDoorFxF
set_option linter.unusedVariables false
set_option linter.unusedSimpArgs false
set_option maxRecDepth 4000
namespace Go.Proofs.YtgkicbaomcmfoaaGreatDoor
open Go Go.Proofs Go.Fx Tryz
attribute [local irreducible] Oper.wp Code.wp wpList Fx.Head wpOp
section
theorem Zgq {c0 v0 : Value} : Qq #[c0] 0 [v0] = #[v0] := rfl
theorem Zqs {c0 : Value} : Qu false 1 #[c0] 0 = some c0 := rfl
theorem C_idle {S : Nat → Prop} {w0 w : World} {σ : List (Nat × Obj)} {Φ : List Zp} (v2 v3 : Value) (hm : Mem S w0 σ Φ w) : CallsD Tryz.prog 33 [v2, v3].toArray .returning w fun e' u' w' => e' = .returned (.tuple #[]) ∧ u' = .returning ∧ Mem S w0 σ Φ w' := by
 refine fn_introS func33 rfl ntmps33 (Nat.le_of_ble_eq_true rfl) hm ?_
 intro c₀ cs a hu h
 refine wpS_seq ?_
 refine wpS_region ?_
 rw [show List.range _ = [0, 1] from rfl]
 refine s_idle h rfl (by simp [recoverD, hu]) dd ?_; clear h; intro a h
 refine Qb1 h rfl (.assign rfl) dd ?_; clear h; intro a h
 show Code.wpS _ _ _ _ _ _
 refine wpS_of_wp ?_
 refine wp_seq ?_
 refine wp_region_lit ?_
 refine Zc (Ju h (.move rfl) dd ?_); clear h; intro a h
 refine Zc (Ju h (Pure1.binOp (v := .bool false) rfl rfl (fun _ => by simp [go_sem])) dd ?_); clear h; intro a h
 refine wpList_nil ?_
 refine cW ?_
 refine Ze h rfl ?_
 refine wp_skip ?_
 refine ⟨h.defers, .returning, by rw [← hu], .tuple #[], Zb6 rfl, rfl, rfl, h.mem⟩
theorem Zs4 (e k : Int) (w : World) : (Instr.typeAssert (faV e k) 20 28 true).run Tryz.prog w = .ok (.tuple #[.agg #[.int .i64 e, .int .i64 k], .bool true]) w := by
 simp [go_sem, Instr.typeAssert]
theorem Qfw {S : Nat → Prop} {w0 w : World} {σ : List (Nat × Obj)} {Φ : List Zp} (e k : Int) (b2 b3 : Nat) (x y1 y2 : Value) (hS : ∀ k, S k → k < w0.heap.size) (hm : Mem S w0 ((b2, .cells #[x] 25 (0, 0)) :: (b3, .cells #[y1, y2] 28 (0, 0)) :: σ) Φ w) :
  CallsD Tryz.prog 33 [.pointer (some ⟨b2, 0, none⟩), .pointer (some ⟨b3, 0, none⟩)].toArray (.panicking (chE (faV e k))) w fun e' u' w' => e' = .returned (.tuple #[]) ∧ u' = .panicking [{ v := faV e k, recovered := true }] ∧ Mem S w0 ((b2, .cells #[.slice none 0 0] 25 (0, 0)) :: (b3, .cells #[.int .i64 e, .int .i64 k] 28 (0, 0)) :: σ) Φ w' := by
 refine fn_introS func33 rfl ntmps33 (Nat.le_of_ble_eq_true rfl) hm ?_
 intro c₀ cs a hu h
 refine wpS_seq ?_
 refine wpS_region ?_
 rw [show List.range _ = [0, 1] from rfl]
 refine Zu8 h rfl (v := faV e k) (cs' := { c₀ with mode := .panicking [{ v := faV e k, recovered := true }] } :: cs) (by simp [recoverD, hu]) dd ?_; clear h; intro a h
 refine Qb1 h rfl (.assign rfl) dd ?_; clear h; intro a h
 show Code.wpS _ _ _ _ _ _
 refine wpS_of_wp ?_
 refine wp_seq ?_
 refine wp_region_lit ?_
 refine Zc (Ju h (.move rfl) dd ?_); clear h; intro a h
 refine Zc (Ju h (Pure1.binOp (v := .bool true) rfl rfl (fun _ => by simp [go_sem])) dd ?_); clear h; intro a h
 refine wpList_nil ?_
 refine cW ?_
 refine Zb h rfl (fun hc7 => ?_) (fun hc7 => (absurd hc7 dd))
 refine wp_seq ?_
 refine wp_region_lit ?_
 refine Zc (Ju h (.move rfl) dd ?_); clear h; intro a h
 refine Zc (op_val (v := .tuple #[.agg #[.int .i64 e, .int .i64 k], .bool true]) h (by have he := h.ev (x := .tmp 9) (v := faV e k) rfl; simp only [execOp, he, Sem.run_bind, Zs4, Result.andThen]; rfl) dd ?_); clear h; intro a h
 refine Zc (Ju h (.move rfl) dd ?_); clear h; intro a h
 refine Zc (Ju h (.eX rfl) dd ?_); clear h; intro a h
 refine Zc (Ju h (.eX rfl) dd ?_); clear h; intro a h
 refine Zc (Zgv h zeroValue28 dd ?_); clear h; intro b3 a w h
 refine Zc (Zca h rfl rfl Zl (by repeat (first | exact Upd.head | apply Upd.tail | apply Upd.append)) sizeOf28 rfl (Nat.le_of_ble_eq_true rfl) rfl ?_); clear h; intro a w h
 refine Zc (Ju h (.assign rfl) dd ?_); clear h; intro a h
 refine wpList_nil ?_
 refine cW ?_
 refine wp_seq ?_
 refine wp_seq ?_
 refine wp_region_lit ?_
 refine Zc (Ju h (.move rfl) dd ?_); clear h; intro a h
 refine Zc (Ju h (.unOp rfl (Ji _)) dd ?_); clear h; intro a h
 refine wpList_nil ?_
 refine cW ?_
 refine Zb h rfl (fun hc14 => (absurd hc14 dd)) (fun hc14 => ?_)
 refine wp_skip ?_
 refine cW ?_
 refine Zp2 Za h [0, 1, 2] _ (fun _ _ hh => hh) kk (Zf kk) ?_; clear h
 refine Kl [0] rfl kk rfl (by repeat (first | exact List.Mem.head _ | apply List.Mem.tail | apply List.mem_append_right)) isAgg28 sizeOf28 Zh (fun a w σx hst => by intro t ht; simp only [List.mem_cons, List.not_mem_nil, or_false] at ht; rcases ht with rfl <;> exact ⟨_, rfl, by have h1 := (List.pairwise_append.1 hst.nd).2.1; simp at h1; dsimp only; omega⟩) dd ?_
 refine Zab rfl kk rfl rfl Zgq (by repeat (first | exact Upd.head | apply Upd.tail | apply Upd.append)) sizeOf25 rfl (Nat.le_of_ble_eq_true rfl) rfl ?_
 refine Zab rfl kk rfl rfl Zl (by repeat (first | exact Upd.head | apply Upd.tail | apply Upd.append)) sizeOf28 rfl (Nat.le_of_ble_eq_true rfl) rfl ?_
 refine Zkz ?_; intro a w h
 exact ⟨h.defers, _, rfl, .tuple #[], Zb6 rfl, rfl, rfl, (h.drop (List.sublist_cons_self _ _)).mem⟩
def rP (s : ByteArray) : List Tm := match Jd s with | .ok p => p | .error _ => []
def rE (s : ByteArray) : Int := match Jd s with | .ok _ => 0 | .error f => f.1
def rI (s : ByteArray) : Nat := match Jd s with | .ok _ => 0 | .error f => f.2
theorem Zvi {s : ByteArray} {p : List Tm} (h : Jd s = .ok p) : rP s = p ∧ rE s = 0 ∧ rI s = 0 := by unfold rP rE rI; rw [h]; exact ⟨rfl, rfl, rfl⟩
theorem Zot {s : ByteArray} {e : Int} {i : Nat} (h : Jd s = .error (e, i)) : rP s = [] ∧ rE s = e ∧ rI s = i := by unfold rP rE rI; rw [h]; exact ⟨rfl, rfl, rfl⟩
def PostR (s : ByteArray) (v : Value) (Ψ : List Zp) : Prop := ∃ ad c, v = .tuple #[.slice ad (rP s).length c, .agg #[.int .i64 (rE s), .int .i64 ((rI s : Nat) : Int)]] ∧ Ψ = [Row ad (cellsOf Qb (rP s))]
theorem Zme {s : ByteArray} {e : Int} {i : Nat} (h : Jd s = .error (e, i)) : PostR s (.tuple #[.slice none 0 0, .agg #[.int .i64 e, .int .i64 ((i : Nat) : Int)]]) [Row none (cellsOf Qb [])] := by
 obtain ⟨h1, h2, h3⟩ := Zot h
 exact ⟨none, 0, by rw [h1, h2, h3]; rfl, by rw [h1]⟩
theorem Zzq {s : ByteArray} {p : List Tm} {ad : Option Addr} {c : Nat} (h : Jd s = .ok p) : PostR s (.tuple #[.slice ad p.length c, .agg #[.int .i64 0, .int .i64 0]]) [Row ad (cellsOf Qb p)] := by
 obtain ⟨h1, h2, h3⟩ := Zvi h
 exact ⟨ad, c, by rw [h1, h2, h3]; rfl, by rw [h1]⟩
abbrev dfr (b2 b3 : Nat) : Deferred := ⟨.fn (.func 33) [.pointer (some ⟨b2, 0, none⟩), .pointer (some ⟨b3, 0, none⟩)].toArray, #[]⟩
theorem Zr3 {n : Nat} {S : Nat → Prop} {w0 w w' : World} {L : List (Nat × Value)} {σ1 σ : List (Nat × Obj)} {Φ1 Φ : List Zp} {a : Act} (s : ByteArray) (e : Int) (i b2 b3 : Nat) (x y1 y2 : Value) (hS : ∀ k, S k → k < w0.heap.size) (h : St n S w0 L σ1 Φ1 a w)
  (h2 : Fx.look L 2 = some (.pointer (some ⟨b2, 0, none⟩))) (h3 : Fx.look L 3 = some (.pointer (some ⟨b3, 0, none⟩))) (hm : Mem S w0 ((b2, .cells #[x] 25 (0, 0)) :: (b3, .cells #[y1, y2] 28 (0, 0)) :: σ) Φ w') (hp : Jd s = .error (e, i)) {fn : Func} (hr : fn.results = #[.cell 2 25, .cell 3 28]) :
  bodyPostD Tryz.prog fn (Zt6 S w0 (PostR s)) (.panic (chE (faV e ((i : Nat) : Int)))) (up [dfr b2 b3] a) w' := by
 refine Zmu h.defers (leaves_cons (f := 33) (args := [.pointer (some ⟨b2, 0, none⟩), .pointer (some ⟨b3, 0, none⟩)].toArray) ss (by simp [go_sem]) ?_)
 refine (Qfw e ((i : Nat) : Int) b2 b3 x y1 y2 hS hm).mono ?_
 rintro e' u' w'' ⟨rfl, rfl, hm'⟩
 have hst := (h.reMem hm').derive (R := Row none (cellsOf Qb [])) (fun X _ hne => absurd rfl hne)
 exact retD hst (Ql hst hr (.cell h2 (List.Mem.head _) isAgg25 sizeOf25 Zqs) (.cell h3 (List.Mem.tail _ (List.Mem.head _)) isAgg28 sizeOf28 Zh)) (Zme hp) ss
theorem Qej {n : Nat} {S : Nat → Prop} {w0 w : World} {L : List (Nat × Value)} {σ : List (Nat × Obj)} {Φ : List Zp} {a : Act} (s : ByteArray) (b2 b3 : Nat) (h : St n S w0 L σ Φ a w) {fn : Func} {v : Value} {Ψ : List Zp}
  (hr : ∀ w', St n S w0 L σ Φ a w' → (results fn a.tmps).run Tryz.prog w' = .ok v w') (hp : PostR s v Ψ) (hs : ∀ R ∈ Ψ, R ∈ Φ) :
  Leaves Tryz.prog fn (up [dfr b2 b3] a).tmps (Zt6 S w0 (PostR s)) (up [dfr b2 b3] a).defers .returning w := by
 refine Zmu h.defers (leaves_cons (f := 33) (args := [.pointer (some ⟨b2, 0, none⟩), .pointer (some ⟨b3, 0, none⟩)].toArray) ss (by simp [go_sem]) ?_)
 refine (C_idle _ _ h.mem).mono ?_
 rintro e' u' w'' ⟨rfl, rfl, hm'⟩
 exact retD (h.reMem hm') (hr _ (h.reMem hm')) hp hs
end
section
theorem Qe9 (x0 : ByteArray) (w : World) : (Instr.build 78 [(0, .string x0)].toArray).run Tryz.prog w = .ok (.agg #[.string x0, .int .i64 0, .int .i64 0]) w := by simp [go_sem]
theorem Zxq (w : World) : (Instr.build 28 [].toArray).run Tryz.prog w = .ok (.agg #[.int .i64 0, .int .i64 0]) w := by simp [go_sem]
theorem Zg7 (s : ByteArray) (hsz : s.size ≤ 9223372036854775807) : Ctr Tryz.prog 11 [.string s] [] (PostR s) := by
 refine fn_introD func11 rfl ntmps11 (Nat.le_of_ble_eq_true rfl) ?_
 intro S w0 a hS h
 refine wp_seq ?_
 refine wp_region_lit ?_
 refine Zc (Zgv h zeroValue25 dd ?_); clear h; intro b2 a w h
 refine Zc (Zgv h zeroValue28 dd ?_); clear h; intro b3 a w h
 refine wpList_nil ?_
 refine cW ?_
 refine wp_seq ?_
 refine wp_seq ?_
 refine wp_region_lit ?_
 refine Zc (Ju h (.move rfl) dd ?_); clear h; intro a h
 refine Zc (Ju h (.builtin [_] rfl (Zt _)) dd ?_); clear h; intro a h
 refine Zc (Ju h (.binOp rfl rfl (fun _ => Zve _ _ _ _ _)) dd ?_); clear h; intro a h
 refine wpList_nil ?_
 refine cW ?_
 refine Zb h rfl (fun hc7 => ?_) (fun hc7 => ?_)
 ·
  skip
  have hP : Jd s = .error (3, 0) := by unfold Jd; rw [if_pos (dT hc7)]
  refine wp_seq ?_
  refine wp_region_lit ?_
  refine Zc (Ju h (.build [(_, _), (_, _)] rfl (Zfb _ _)) dd ?_); clear h; intro a h
  refine Zc (Zca h rfl rfl Zgq (by repeat (first | exact Upd.head | apply Upd.tail | apply Upd.append)) sizeOf25 rfl (Nat.le_of_ble_eq_true rfl) rfl ?_); clear h; intro a w h
  refine Zc (Zca h rfl rfl Zl (by repeat (first | exact Upd.head | apply Upd.tail | apply Upd.append)) sizeOf28 rfl (Nat.le_of_ble_eq_true rfl) rfl ?_); clear h; intro a w h
  refine wpList_nil ?_
  refine cW ?_
  refine wp_ret ?_
  replace h := h.derive (R := Row none (cellsOf Qb [])) (fun X _ hne => absurd rfl hne)
  exact retD0 h (Ql h rfl (.cell rfl (by repeat (first | exact List.Mem.head _ | apply List.Mem.tail | apply List.mem_append_right)) isAgg25 sizeOf25 Zqs) (.cell rfl (by repeat (first | exact List.Mem.head _ | apply List.Mem.tail | apply List.mem_append_right)) isAgg28 sizeOf28 Zh)) (Zme hP) ss
 ·
  skip
  have hs : s.size ≤ 4096 := dF hc7
  have hP : Jd s = Zgk (s.extract 0 (Gx s s.size)) := by unfold Jd; rw [if_neg oo]
  obtain ⟨t, ht⟩ : ∃ t, t = s.extract 0 (Gx s s.size) := ⟨_, rfl⟩
  have hts : t.size ≤ 4096 := by rw [ht, ByteArray.size_extract]; have := Zgp s s.size; omega
  refine wp_skip ?_
  refine cW ?_
  refine wp_seq ?_
  refine wp_region_lit ?_
  refine Zc (Ju h (.makeFunc [] [_, _] rfl rfl) dd ?_); clear h; intro a h
  refine Zc (Zzv h rfl ?_); clear h; intro h
  refine Zf8 ?_
  refine wpList_nil ?_
  refine cW ?_
  refine wp_seq ?_
  refine wp_region_lit (Zf8 ?_)
  refine Zc (Ju h (.move rfl) dd ?_); clear h; intro a h
  refine Zc (Za0 h (vs := [_, _]) rfl call34 (Qfz s oo) dd ?_); clear h; intro a w h
  rw [← ht] at h
  refine Zc (Ju h (.build [(_, _)] rfl (Qe9 _)) dd ?_); clear h; intro a h
  refine Zc (Qb5 h rfl dd ?_); clear h; intro b13 a w h
  refine Zc (Ju h (.assign rfl) dd ?_); clear h; intro a h
  refine wpList_nil ?_
  refine cW ?_
  refine wp_seq ?_
  refine wp_region_lit (Zf8 ?_)
  refine Zc (Ju h (.move rfl) dd ?_); clear h; intro a h
  refine Zc (Jh h hS (vs := [_]) rfl call35 (Qco b13 t hts 32 0 0 _ [] dd (Nat.zero_le _)) ((List.Perm.refl _)) ss ?_ ?_)
  ·
   skip
   rintro _ _ w' ⟨e, i, ob, hx, rfl, rfl⟩ hm
   exact Zr3 s e i b2 b3 _ _ _ hS h rfl rfl (hm.perm (List.reverse_perm _).symm) (by rw [hP]; unfold Zgk; rw [← ht, hx]) rfl
  clear h; rintro v15 σ15 Ψ15 a w ⟨p15, k15, ad15, c15, hr15, rfl, rfl, rfl⟩ h
  obtain ⟨hg15, hk15a, hk15⟩ := Zcu hts 32 (Nat.zero_le _) hr15
  refine Zc (Zca h rfl rfl Zgq (by repeat (first | exact Upd.head | apply Upd.tail | apply Upd.append)) sizeOf25 rfl (Nat.le_of_ble_eq_true rfl) rfl ?_); clear h; intro a w h
  refine wpList_nil ?_
  refine cW ?_
  refine wp_seq ?_
  refine wp_seq ?_
  refine wp_region_lit (Zf8 ?_)
  refine Zc (Ju h (.move rfl) dd ?_); clear h; intro a h
  refine Zc (Xc h hS (vs := [_]) rfl call36 (Zn2 b13 k15 0 t hts hk15 _ [Row ad15 (cellsOf Qb p15)]) ((List.Perm.refl _)) ss ss ?_); clear h; rintro v17 σ17 Ψ17 a w ⟨rfl, rfl, rfl⟩ h
  refine wpList_nil ?_
  refine cW ?_
  refine wp_seq ?_
  refine Zoa Za h [0, 1, 2, 3, 4, 5, 6, 7, 8, 9] kk kk rfl (Zf kk) ?_; clear h
  refine Ve rfl kk (.move rfl) dd ?_
  refine Ve rfl kk (.nilCheck rfl) dd ?_
  refine Ve rfl kk (.fA rfl Xt) dd ?_
  refine Zh2 rfl kk rfl (by repeat (first | exact List.Mem.head _ | apply List.Mem.tail | apply List.mem_append_right)) isAgg3 sizeOf3 Kh dd ?_
  refine Ve rfl kk (.move rfl) dd ?_
  refine Ve rfl kk (.nilCheck rfl) dd ?_
  refine Ve rfl kk (.fA rfl Zbb) dd ?_
  refine Zh2 rfl kk rfl (by repeat (first | exact List.Mem.head _ | apply List.Mem.tail | apply List.mem_append_right)) isAgg9 sizeOf9 Zcy dd ?_
  refine Ve rfl kk (.builtin [_] rfl (Zt _)) dd ?_
  refine Ve rfl kk (.binOp rfl rfl (fun _ => Zvd _ _ _ _ _)) dd ?_
  refine Zkz ?_; intro a w h
  refine cW ?_
  refine Zlf h rfl (fun hc27 => ?_) (fun hc27 => ?_)
  ·
   skip
   have hlt : Zm t k15 < t.size := dT hc27
   refine wp_region_lit (Zf8 ?_)
   refine Zc (Ju h (.move rfl) dd ?_); clear h; intro a h
   refine Zc (Ju h (.nilCheck rfl) dd ?_); clear h; intro a h
   refine Zc (Ju h (.fA rfl Xt) dd ?_); clear h; intro a h
   refine Zc (Vb h rfl (by repeat (first | exact List.Mem.head _ | apply List.Mem.tail | apply List.mem_append_right)) isAgg3 sizeOf3 Kh dd ?_); clear h; intro a h
   refine Zc (Jh h hS (vs := [_, _]) rfl call37 (Zbg 4 _ _ _) (List.Perm.refl _) ss ?_ (fun _ _ _ _ _ hp _ => by exact hp.elim))
   rintro _ _ w' ⟨rfl, rfl⟩ hm
   exact Zr3 s 4 (Zm t k15) b2 b3 _ _ _ hS h rfl rfl (hm.perm (List.reverse_perm _).symm) (by rw [hP]; unfold Zgk; rw [← ht, hr15]; simp only [if_pos hlt]) rfl
  ·
   skip
   have hlt : ¬ Zm t k15 < t.size := dF hc27
   refine wp_skip ?_
   refine cW ?_
   refine wp_seq ?_
   refine wp_region_lit (Zf8 ?_)
   refine Zc (Vb h rfl (by repeat (first | exact List.Mem.head _ | apply List.Mem.tail | apply List.mem_append_right)) isAgg25 sizeOf25 Zqs dd ?_); clear h; intro a h
   refine Zc (Ju h (.build [] rfl (Zxq)) dd ?_); clear h; intro a h
   refine Zc (Zca h rfl rfl Zgq (by repeat (first | exact Upd.head | apply Upd.tail | apply Upd.append)) sizeOf25 rfl (Nat.le_of_ble_eq_true rfl) rfl ?_); clear h; intro a w h
   refine Zc (Zca h rfl rfl Zl (by repeat (first | exact Upd.head | apply Upd.tail | apply Upd.append)) sizeOf28 rfl (Nat.le_of_ble_eq_true rfl) rfl ?_); clear h; intro a w h
   refine wpList_nil ?_
   refine cW ?_
   refine wp_ret ?_
   exact Qej s b2 b3 h (fun w' h => (Ql h rfl (.cell rfl (by repeat (first | exact List.Mem.head _ | apply List.Mem.tail | apply List.mem_append_right)) isAgg25 sizeOf25 Zqs) (.cell rfl (by repeat (first | exact List.Mem.head _ | apply List.Mem.tail | apply List.mem_append_right)) isAgg28 sizeOf28 Zh))) (Zzq (by rw [hP]; unfold Zgk; rw [← ht, hr15]; simp only [if_neg hlt])) ss
end
section
abbrev Zdr (f : Int × Int) : Value := .agg #[.int .i64 f.1, .int .i64 f.2]
theorem Zpz (w : World) : (zeroValue 28).run Tryz.prog w = .ok (Zdr (0, 0)) w := zeroValue28 w
theorem Zkk (X Y : Operand) (x y : Int × Int) (w : World) : (do eqGuard .eql 28 X Y (Zdr x) (Zdr y); Go.binOp .eql 28 (Zdr x) (Zdr y) : Sem Value).run Tryz.prog w = .ok (.bool (decide (x = y))) w := by
 obtain ⟨x1, x2⟩ := x
 obtain ⟨y1, y2⟩ := y
 simp [go_sem]
 by_cases e1 : x1 = y1 <;> by_cases e2 : x2 = y2 <;> simp [e1, e2]
theorem Zzk {s : ByteArray} {p : List Tm} (hs : s.size ≤ 4096) (h : Zgk s = .ok p) : Gd p := by
 unfold Zgk at h
 split at h
 · cases h
 ·
  rename_i q k hq
  split at h
  · cases h
  · cases h; exact (Zcu hs 32 (Nat.zero_le _) hq).1
theorem Gd.nil : Gd [] := ⟨(Pq.nil 12).mono (Nat.le_refl _) dd, ⟨(fun _ h => nomatch h), List.Pairwise.nil⟩⟩
theorem Zma (s : ByteArray) : Gd (rP s) := by
 unfold rP
 split
 ·
  rename_i p h
  unfold Jd at h
  split at h
  · cases h
  ·
   refine Zzk ?_ h
   rw [ByteArray.size_extract]; have := Zgp s s.size; omega
 · exact Gd.nil
def okX (r : Except Fa (List Tm)) (E : List Tm) : Bool := match r with | .ok p => decide (p = E) | .error _ => false
def erX (r : Except Fa (List Tm)) (e : Int) (i : Nat) : Bool := match r with | .ok _ => false | .error f => decide (f.1 = e) && decide (f.2 = i)
theorem Zjk {r : Except Fa (List Tm)} {E : List Tm} (h : okX r E = true) : r = .ok E := by
 unfold okX at h
 split at h
 · rw [of_decide_eq_true h]
 · cases h
theorem Zaq {r : Except Fa (List Tm)} {e : Int} {i : Nat} (h : erX r e i = true) : r = .error (e, i) := by
 unfold erX at h
 split at h
 · cases h
 ·
  rw [Bool.and_eq_true, decide_eq_true_eq, decide_eq_true_eq] at h
  obtain ⟨h1, h2⟩ := h
  subst h1; subst h2; rfl
theorem Zj4 (s want : ByteArray) (E : List Tm) (hsz : s.size ≤ 9223372036854775807) (hE : OkE E) (hp : Jd s = .ok E) (ht : Zn8 Zdy E = want) : Gn Tryz.prog 31 [.string s, .string want] [] (.bool true) := by
 obtain ⟨hq1, hq2, hq3⟩ := Zvi hp
 refine fn_intro func31 rfl ntmps31 nb ?_
 intro S w0 a hS h
 refine gC h (zS (za rfl (zn (zS (zm rfl (zf [_] rfl call11 (Zg7 s hsz) ?_)))))); rintro v9 Ψ9 ⟨ad9, c9, rfl, rfl⟩
 refine zm rfl (zp (.eX rfl) (zp (.eX rfl) (zz Zpz fun b6 => za rfl (zt' rfl rfl Zl uu sizeOf28 rfl nb rfl ?_))))
 refine zn (zS (zd rfl mr isAgg28 sizeOf28 Zh ?_))
 refine zp (.build [] rfl (Zxq)) (zp (.binOp rfl rfl (fun _ => Zkk _ _ ((rE s, ((rI s : Nat) : Int))) (0, 0) _)) ?_); intro a w h
 refine Zg h (fun hc14 h => ?_) (fun hc14 h => (by exfalso; rw [hq2, hq3] at hc14; exact absurd hc14 dd))
 refine gL h (zm rfl (zq 15 rfl rfl (.move rfl) ?_)); clear h; intro a w h
 refine Zo 15 h rfl rfl (Qo h (vs := [_]) rfl call16 (C_TE (rP s) want _ _ (by rw [hq1]; exact hE) (by rw [hq1]; exact ht)) ss dd ?_); clear h; intro a w h
 refine gL h (zq 15 rfl rfl (.move rfl) (zq 15 rfl rfl (.binOp rfl rfl (fun _ => Jv _ _ _ _ _)) ?_)); clear h; intro a w h
 refine Zg h (fun hc19 h => ?_) (fun hc19 h => (absurd hc19 ss))
 refine gL h (zp (.pickT rfl rfl) (zm rfl (zq 21 rfl rfl (.move rfl) ?_))); clear h; intro a w h
 refine Zo 21 h rfl rfl (Qo h (vs := [_]) rfl call17 (C_OkN (rP s) _ _ (Zma s).nrm (Zma s).pq.deg (by have := (Zma s).len; omega)) ss dd ?_); clear h; intro a w h
 refine gL h (zp (.pickT rfl rfl) (za rfl (zn (zt ?_)))); clear h; intro a w h
 exact Zeh h
theorem Yi (s : ByteArray) (e : Int) (i : Nat) (hsz : s.size ≤ 9223372036854775807) (hp : Jd s = .error (e, i)) : Gn Tryz.prog 32 [.string s, .int .i64 e, .int .i64 ((i : Nat) : Int)] [] (.bool true) := by
 obtain ⟨hq1, hq2, hq3⟩ := Zot hp
 refine fn_intro func32 rfl ntmps32 nb ?_
 intro S w0 a hS h
 refine gC h (zS (za rfl (zn (zS (zm rfl (zf [_] rfl call11 (Zg7 s hsz) ?_)))))); rintro v11 Ψ11 ⟨ad11, c11, rfl, rfl⟩
 refine zm rfl (zp (.eX rfl) (zp (.eX rfl) (zz Zpz fun b8 => za rfl (zt' rfl rfl Zl uu sizeOf28 rfl nb rfl ?_))))
 refine zn (zS (zm rfl (zp (.builtin [_] rfl (Qd _ _ _)) (zp (.eql rfl rfl) ?_)))); intro a w h
 refine Zg h (fun hc16 h => ?_) (fun hc16 h => (by exfalso; rw [hq1] at hc16; exact absurd hc16 dd))
 refine gL h (zm rfl ?_); clear h; intro a w h
 refine Zo 17 h rfl rfl (Vb h rfl mr isAgg28 sizeOf28 Zh dd ?_); clear h; intro a h
 refine gL h (zq 17 rfl rfl (.move rfl) (zq 17 rfl rfl (.move rfl) (zq 17 rfl rfl (.build [(_, _), (_, _)] rfl (Zfb _ _)) (zq 17 rfl rfl (.binOp rfl rfl (fun _ => Zkk _ _ ((rE s, ((rI s : Nat) : Int))) ((e, ((i : Nat) : Int))) _)) ?_)))); clear h; intro a w h
 refine Zg h (fun hc22 h => ?_) (fun hc22 h => (by exfalso; rw [hq2, hq3] at hc22; exact absurd hc22 ss))
 refine gL h (zp (.pickT rfl rfl) (za rfl (zn (zt ?_)))); clear h; intro a w h
 exact Zeh h
def sE0 : List Tm := [⟨0, 0, (mkRat (-3) 4)⟩, ⟨1, 0, (mkRat (-3) 4)⟩, ⟨2, 1, (1 : Rat)⟩]
theorem sE0_k : OkE sE0 := by unfold sE0; decide +kernel
theorem sE0_p : Jd ⟨#[120, 94, 50, 42, 121, 32, 45, 32, 51, 47, 52, 42, 40, 120, 32, 43, 32, 49, 41]⟩ = .ok sE0 := Zjk (by unfold sE0; decide +kernel)
theorem sE0_t : Zn8 Zdy sE0 = ⟨#[45, 51, 47, 52, 32, 45, 32, 51, 47, 52, 42, 120, 32, 43, 32, 120, 94, 50, 42, 121]⟩ := by unfold sE0; decide +kernel
def sE1 : List Tm := [⟨2, 0, (-1 : Rat)⟩]
theorem sE1_k : OkE sE1 := by unfold sE1; decide +kernel
theorem sE1_p : Jd ⟨#[45, 120, 94, 50]⟩ = .ok sE1 := Zjk (by unfold sE1; decide +kernel)
theorem sE1_t : Zn8 Zdy sE1 = ⟨#[45, 120, 94, 50]⟩ := by unfold sE1; decide +kernel
def sE2 : List Tm := [⟨0, 0, (1 : Rat)⟩]
theorem sE2_k : OkE sE2 := by unfold sE2; decide +kernel
theorem sE2_p : Jd ⟨#[50, 42, 51, 47, 54]⟩ = .ok sE2 := Zjk (by unfold sE2; decide +kernel)
theorem sE2_t : Zn8 Zdy sE2 = ⟨#[49]⟩ := by unfold sE2; decide +kernel
def sE3 : List Tm := [⟨2, 0, (1 : Rat)⟩, ⟨1, 1, (2 : Rat)⟩, ⟨0, 2, (1 : Rat)⟩]
theorem sE3_k : OkE sE3 := by unfold sE3; decide +kernel
theorem sE3_p : Jd ⟨#[40, 120, 32, 43, 32, 121, 41, 94, 50]⟩ = .ok sE3 := Zjk (by unfold sE3; decide +kernel)
theorem sE3_t : Zn8 Zdy sE3 = ⟨#[120, 94, 50, 32, 43, 32, 50, 42, 120, 42, 121, 32, 43, 32, 121, 94, 50]⟩ := by unfold sE3; decide +kernel
def sE4 : List Tm := [⟨2, 0, (mkRat (1) 6)⟩]
theorem sE4_k : OkE sE4 := by unfold sE4; decide +kernel
theorem sE4_p : Jd ⟨#[120, 42, 120, 47, 50, 47, 51]⟩ = .ok sE4 := Zjk (by unfold sE4; decide +kernel)
theorem sE4_t : Zn8 Zdy sE4 = ⟨#[49, 47, 54, 42, 120, 94, 50]⟩ := by unfold sE4; decide +kernel
def sE5 : List Tm := []
theorem sE5_k : OkE sE5 := by unfold sE5; decide +kernel
theorem sE5_p : Jd ⟨#[48, 42, 120]⟩ = .ok sE5 := Zjk (by unfold sE5; decide +kernel)
theorem sE5_t : Zn8 Zdy sE5 = ⟨#[48]⟩ := by unfold sE5; decide +kernel
theorem fE0_p : Jd ⟨#[]⟩ = .error (4, 0) := Zaq kD
theorem fE1_p : Jd ⟨#[120, 32, 43]⟩ = .error (4, 3) := Zaq kD
theorem fE2_p : Jd ⟨#[120, 32, 121]⟩ = .error (4, 2) := Zaq kD
theorem fE3_p : Jd ⟨#[48, 49]⟩ = .error (4, 1) := Zaq kD
theorem fE4_p : Jd ⟨#[50, 42, 45, 120]⟩ = .error (4, 2) := Zaq kD
theorem fE5_p : Jd ⟨#[40, 120]⟩ = .error (4, 2) := Zaq kD
theorem fE6_p : Jd ⟨#[120, 41]⟩ = .error (4, 1) := Zaq kD
theorem fE7_p : Jd ⟨#[49, 47, 120]⟩ = .error (4, 2) := Zaq kD
theorem fE8_p : Jd ⟨#[49, 47, 48]⟩ = .error (5, 2) := Zaq kD
theorem fE9_p : Jd ⟨#[120, 47, 32, 48]⟩ = .error (5, 3) := Zaq kD
theorem fE10_p : Jd ⟨#[120, 94, 49, 51]⟩ = .error (9, 1) := Zaq kD
theorem fE11_p : Jd ⟨#[120, 94, 55, 42, 121, 94, 54]⟩ = .error (9, 3) := Zaq kD
theorem fE12_p : Jd ⟨#[40, 120, 94, 50, 41, 94, 55]⟩ = .error (9, 5) := Zaq kD
theorem fE13_p : Jd ⟨#[49, 94, 49, 51]⟩ = .error (9, 1) := Zaq kD
theorem fE14_p : Jd ⟨#[40, 40, 40, 57, 94, 49, 50, 41, 94, 49, 50, 41, 94, 49, 50, 41, 94, 49, 50]⟩ = .error (3, 16) := Zaq kD
set_option maxHeartbeats 2000000 in
theorem Znw : Gn Tryz.prog 10 [] [] (.bool true) := by
 refine fn_intro func10 rfl ntmps10 nb ?_
 intro S w0 a hS h
 refine gC h (zS (za rfl (zn (zs (zS (zw [_, _] rfl call31 (Zj4 _ _ sE0 dd sE0_k sE0_p sE0_t) (zp (.unOp rfl (Ji _)) ?_))))))); clear h; intro a w h
 refine Zg h (fun hc2 h => (absurd hc2 dd)) (fun hc2 h => ?_)
 refine gL h (zm rfl ?_); clear h; intro a w h
 refine Zo 3 h rfl rfl (Qo h (vs := [_, _]) rfl call31 (Zj4 _ _ sE1 dd sE1_k sE1_p sE1_t) ss dd ?_); clear h; intro a w h
 refine gL h (zq 3 rfl rfl (.unOp rfl (Ji _)) ?_); clear h; intro a w h
 refine Zg h (fun hc5 h => (absurd hc5 dd)) (fun hc5 h => ?_)
 refine gL h (zp (.pickF rfl rfl) (zm rfl ?_)); clear h; intro a w h
 refine Zo 7 h rfl rfl (Qo h (vs := [_, _]) rfl call31 (Zj4 _ _ sE2 dd sE2_k sE2_p sE2_t) ss dd ?_); clear h; intro a w h
 refine gL h (zq 7 rfl rfl (.unOp rfl (Ji _)) ?_); clear h; intro a w h
 refine Zg h (fun hc9 h => (absurd hc9 dd)) (fun hc9 h => ?_)
 refine gL h (zp (.pickF rfl rfl) (zm rfl ?_)); clear h; intro a w h
 refine Zo 11 h rfl rfl (Qo h (vs := [_, _]) rfl call31 (Zj4 _ _ sE3 dd sE3_k sE3_p sE3_t) ss dd ?_); clear h; intro a w h
 refine gL h (zq 11 rfl rfl (.unOp rfl (Ji _)) ?_); clear h; intro a w h
 refine Zg h (fun hc13 h => (absurd hc13 dd)) (fun hc13 h => ?_)
 refine gL h (zp (.pickF rfl rfl) (zm rfl ?_)); clear h; intro a w h
 refine Zo 15 h rfl rfl (Qo h (vs := [_, _]) rfl call31 (Zj4 _ _ sE4 dd sE4_k sE4_p sE4_t) ss dd ?_); clear h; intro a w h
 refine gL h (zq 15 rfl rfl (.unOp rfl (Ji _)) ?_); clear h; intro a w h
 refine Zg h (fun hc17 h => (absurd hc17 dd)) (fun hc17 h => ?_)
 refine gL h (zp (.pickF rfl rfl) (zm rfl ?_)); clear h; intro a w h
 refine Zo 19 h rfl rfl (Qo h (vs := [_, _]) rfl call31 (Zj4 _ _ sE5 dd sE5_k sE5_p sE5_t) ss dd ?_); clear h; intro a w h
 refine gL h (zq 19 rfl rfl (.unOp rfl (Ji _)) ?_); clear h; intro a w h
 refine Zg h (fun hc21 h => (absurd hc21 dd)) (fun hc21 h => ?_)
 refine gL h (zp (.pickF rfl rfl) (zn ?_)); clear h; intro a w h
 refine cW ?_
 refine Ze h rfl ?_
 refine gC h (zk (zs (zS (zw [_, _, _] rfl call32 (Yi _ _ 0 dd fE0_p) (zp (.unOp rfl (Ji _)) ?_))))); clear h; intro a w h
 refine Zg h (fun hc24 h => (absurd hc24 dd)) (fun hc24 h => ?_)
 refine gL h (zm rfl ?_); clear h; intro a w h
 refine Zo 25 h rfl rfl (Qo h (vs := [_, _, _]) rfl call32 (Yi _ _ 3 dd fE1_p) ss dd ?_); clear h; intro a w h
 refine gL h (zq 25 rfl rfl (.unOp rfl (Ji _)) ?_); clear h; intro a w h
 refine Zg h (fun hc27 h => (absurd hc27 dd)) (fun hc27 h => ?_)
 refine gL h (zp (.pickF rfl rfl) (zm rfl ?_)); clear h; intro a w h
 refine Zo 29 h rfl rfl (Qo h (vs := [_, _, _]) rfl call32 (Yi _ _ 2 dd fE2_p) ss dd ?_); clear h; intro a w h
 refine gL h (zq 29 rfl rfl (.unOp rfl (Ji _)) ?_); clear h; intro a w h
 refine Zg h (fun hc31 h => (absurd hc31 dd)) (fun hc31 h => ?_)
 refine gL h (zp (.pickF rfl rfl) (zm rfl ?_)); clear h; intro a w h
 refine Zo 33 h rfl rfl (Qo h (vs := [_, _, _]) rfl call32 (Yi _ _ 1 dd fE3_p) ss dd ?_); clear h; intro a w h
 refine gL h (zq 33 rfl rfl (.unOp rfl (Ji _)) ?_); clear h; intro a w h
 refine Zg h (fun hc35 h => (absurd hc35 dd)) (fun hc35 h => ?_)
 refine gL h (zp (.pickF rfl rfl) (zm rfl ?_)); clear h; intro a w h
 refine Zo 37 h rfl rfl (Qo h (vs := [_, _, _]) rfl call32 (Yi _ _ 2 dd fE4_p) ss dd ?_); clear h; intro a w h
 refine gL h (zq 37 rfl rfl (.unOp rfl (Ji _)) ?_); clear h; intro a w h
 refine Zg h (fun hc39 h => (absurd hc39 dd)) (fun hc39 h => ?_)
 refine gL h (zp (.pickF rfl rfl) (zm rfl ?_)); clear h; intro a w h
 refine Zo 41 h rfl rfl (Qo h (vs := [_, _, _]) rfl call32 (Yi _ _ 2 dd fE5_p) ss dd ?_); clear h; intro a w h
 refine gL h (zq 41 rfl rfl (.unOp rfl (Ji _)) ?_); clear h; intro a w h
 refine Zg h (fun hc43 h => (absurd hc43 dd)) (fun hc43 h => ?_)
 refine gL h (zp (.pickF rfl rfl) (zm rfl ?_)); clear h; intro a w h
 refine Zo 45 h rfl rfl (Qo h (vs := [_, _, _]) rfl call32 (Yi _ _ 1 dd fE6_p) ss dd ?_); clear h; intro a w h
 refine gL h (zq 45 rfl rfl (.unOp rfl (Ji _)) ?_); clear h; intro a w h
 refine Zg h (fun hc47 h => (absurd hc47 dd)) (fun hc47 h => ?_)
 refine gL h (zp (.pickF rfl rfl) (zm rfl ?_)); clear h; intro a w h
 refine Zo 49 h rfl rfl (Qo h (vs := [_, _, _]) rfl call32 (Yi _ _ 2 dd fE7_p) ss dd ?_); clear h; intro a w h
 refine gL h (zq 49 rfl rfl (.unOp rfl (Ji _)) ?_); clear h; intro a w h
 refine Zg h (fun hc51 h => (absurd hc51 dd)) (fun hc51 h => ?_)
 refine gL h (zp (.pickF rfl rfl) (zn ?_)); clear h; intro a w h
 refine cW ?_
 refine Ze h rfl ?_
 refine gC h (zk (zS (zw [_, _, _] rfl call32 (Yi _ _ 2 dd fE8_p) ?_))); clear h; intro a w h
 refine Zg h (fun hc53 h => ?_) (fun hc53 h => (absurd hc53 dd))
 refine gL h (zm rfl ?_); clear h; intro a w h
 refine Zo 54 h rfl rfl (Qo h (vs := [_, _, _]) rfl call32 (Yi _ _ 3 dd fE9_p) ss dd ?_); clear h; intro a w h
 refine Zg h (fun hc55 h => ?_) (fun hc55 h => (absurd hc55 dd))
 refine gL h (zp (.pickT rfl rfl) (zm rfl ?_)); clear h; intro a w h
 refine Zo 57 h rfl rfl (Qo h (vs := [_, _, _]) rfl call32 (Yi _ _ 1 dd fE10_p) ss dd ?_); clear h; intro a w h
 refine Zg h (fun hc58 h => ?_) (fun hc58 h => (absurd hc58 dd))
 refine gL h (zp (.pickT rfl rfl) (zm rfl ?_)); clear h; intro a w h
 refine Zo 60 h rfl rfl (Qo h (vs := [_, _, _]) rfl call32 (Yi _ _ 3 dd fE11_p) ss dd ?_); clear h; intro a w h
 refine Zg h (fun hc61 h => ?_) (fun hc61 h => (absurd hc61 dd))
 refine gL h (zp (.pickT rfl rfl) (zm rfl ?_)); clear h; intro a w h
 refine Zo 63 h rfl rfl (Qo h (vs := [_, _, _]) rfl call32 (Yi _ _ 5 dd fE12_p) ss dd ?_); clear h; intro a w h
 refine Zg h (fun hc64 h => ?_) (fun hc64 h => (absurd hc64 dd))
 refine gL h (zp (.pickT rfl rfl) (zm rfl ?_)); clear h; intro a w h
 refine Zo 66 h rfl rfl (Qo h (vs := [_, _, _]) rfl call32 (Yi _ _ 1 dd fE13_p) ss dd ?_); clear h; intro a w h
 refine Zg h (fun hc67 h => ?_) (fun hc67 h => (absurd hc67 dd))
 refine gL h (zp (.pickT rfl rfl) (zm rfl ?_)); clear h; intro a w h
 refine Zo 69 h rfl rfl (Qo h (vs := [_, _, _]) rfl call32 (Yi _ _ 16 dd fE14_p) ss dd ?_); clear h; intro a w h
 refine Zg h (fun hc70 h => ?_) (fun hc70 h => (absurd hc70 dd))
 refine gL h (zp (.pickT rfl rfl) (za rfl (zn (zt ?_)))); clear h; intro a w h
 exact Zeh h
end
section
section
variable {s : ByteArray} {ins : Ins} {k e f : Nat} {p : List Tm} {er : Fa}
def StopE (s : ByteArray) (e : Nat) : Prop := Zm s e = e ∧ Zn s 94 e = false ∧ Zn s 42 e = false ∧ Zn s 47 e = false ∧ Zn s 43 e = false ∧ Zn s 45 e = false
end
theorem Zr7 {s : ByteArray} {k : Nat} (h : chA s k ≠ 32) : Zm s k = k := Zdo (fun hh => h hh.2)
theorem Qe4 {s : ByteArray} {k : Nat} (hk : s.size ≤ k) : chA s k = 0 := by
 unfold chA
 have : s.data.toList.length = s.size := rfl
 simp [List.getD, List.getElem?_eq_none (show s.data.toList.length ≤ k by omega)]
theorem Zus {s : ByteArray} {n : Nat} (h0 : 0 < n) (h : chA s (n - 1) ≠ 32) : Gx s n = n := by
 obtain ⟨m, rfl⟩ : ∃ m, n = m + 1 := ⟨n - 1, oo⟩
 rw [Gx, if_neg (by simpa using h)]
theorem extract_all (s : ByteArray) : s.extract 0 s.size = s := by
 apply ByteArray.ext
 rw [ByteArray.data_extract]
 have : s.size = s.data.size := rfl
 rw [this]; simp
def opn (c : UInt8) (n : Nat) : ByteArray := ⟨(List.replicate n c).toArray⟩
def nestS (n : Nat) : ByteArray := opn 40 n ++ ⟨#[120]⟩ ++ opn 41 n
def bS (m : Nat) : ByteArray := ⟨(121 :: List.replicate (m - 1) 32).toArray⟩
end
section
structure Ag (s s' : ByteArray) (a : Nat) : Prop where
 l1 : a < s.size
 l2 : a < s'.size
 eq : ∀ i, i ≤ a → chA s i = chA s' i
 nb : chA s a ≠ 32
def Inc (s : ByteArray) (a : Nat) (e : Int) : Prop := e = 4 ∨ e = 5 ∨ (e = 3 ∧ chA s a = 40)
def Cod (e : Int) : Prop := e = 3 ∨ e = 4 ∨ e = 5 ∨ e = 9
structure PF {α : Type} (s s' : ByteArray) (k : Nat) (r r' : Except Fa (α × Nat)) : Prop where
 mono : ∀ p b, r = .ok (p, b) → k ≤ b
 mle : k ≤ s.size → ∀ p b, r = .ok (p, b) → b ≤ s.size
 ge : ∀ e i, r = .error (e, i) → k ≤ i
 le : k ≤ s.size → ∀ e i, r = .error (e, i) → i ≤ s.size
 okc : ∀ a, Ag s s' a → ∀ p b, r = .ok (p, b) → b ≤ a → r' = .ok (p, b)
 erc : ∀ a, Ag s s' a → ∀ e, r = .error (e, a) → Inc s a e → r' = .error (e, a)
 cod : ∀ e i, r = .error (e, i) → Cod e
theorem PF.at {α : Type} {s s' : ByteArray} {k k2 : Nat} {r r' R' : Except Fa (α × Nat)} (h : PF s s' k2 r r') (h1 : k ≤ k2) (h2 : k ≤ s.size → k2 ≤ s.size) (h3 : ∀ a, Ag s s' a → k2 ≤ a → R' = r') : PF s s' k r R' :=
  ⟨fun p b e => by have := h.mono p b e; omega, fun hk => h.mle (h2 hk), fun e i q => by have := h.ge e i q; omega, fun hk => h.le (h2 hk),
   fun a ha p b e hb => by rw [h3 a ha (by have := h.mono p b e; omega)]; exact h.okc a ha p b e hb,
   fun a ha e q hi => by rw [h3 a ha (h.ge e a q)]; exact h.erc a ha e q hi, h.cod⟩
section
variable {s s' : ByteArray} {a k : Nat}
theorem Ag.blk (h : Ag s s' a) : ∀ n k, a - k ≤ n → k ≤ a → Zm s k = Zm s' k ∧ Zm s k ≤ a
 | n, k, hn, hk => by
  have e1 := h.eq k hk
  have l1 := h.l1
  have l2 := h.l2
  by_cases hb : chA s k = 32
  ·
   have hka : k ≠ a := fun e => h.nb (by rw [← e]; exact hb)
   rcases n with _ | n
   · omega
   ·
    obtain ⟨a1, a2⟩ := Ag.blk h n (k + 1) oo oo
    rw [Ze9 oo hb] at a1 a2
    rw [Ze9 oo (by rw [← e1]; exact hb)] at a1
    exact ⟨a1, a2⟩
  · rw [Zr7 hb, Zr7 (by rw [← e1]; exact hb)]; exact ⟨rfl, hk⟩
theorem Ag.b (h : Ag s s' a) (hk : k ≤ a) : Zm s k = Zm s' k := (h.blk _ k (Nat.le_refl _) hk).1
theorem Ag.ble (h : Ag s s' a) (hk : k ≤ a) : Zm s k ≤ a := (h.blk _ k (Nat.le_refl _) hk).2
theorem Ag.nx (h : Ag s s' a) (hk : k ≤ a) : Yu s k = Yu s' k := by
 have h1 := h.ble hk
 have l1 := h.l1
 have l2 := h.l2
 unfold Yu
 rw [← h.b hk, if_neg oo, if_neg oo, h.eq _ h1]
theorem Ag.dig (h : Ag s s' a) (a0 : Nat) : ∀ n k, a - k ≤ n → a0 ≤ k → Zds s a0 (s.size - k) k ≤ a → Zds s' a0 (s'.size - k) k = Zds s a0 (s.size - k) k
 | n, k, hn, h0, hd => by
  have l1 := h.l1
  have l2 := h.l2
  have hge := Zia s a0 (s.size - k) k
  have e1 := h.eq k oo
  have e2 := h.eq a0 oo
  by_cases hc : k < s.size ∧ Gm (chA s k) = true ∧ (k = a0 ∨ chA s a0 ≠ 48)
  ·
   have hs := Zar hc
   have hge2 := Zia s a0 (s.size - (k + 1)) (k + 1)
   rcases n with _ | n
   · omega
   ·
    have ih := Ag.dig h a0 n (k + 1) oo oo oo
    rw [← hs, ← ih]
    exact (Zar ⟨oo, by rw [← e1]; exact hc.2.1, by rw [← e2]; exact hc.2.2⟩).symm
  · rw [Gj hc, Gj (fun hh => hc ⟨oo, by rw [e1]; exact hh.2.1, by rw [e2]; exact hh.2.2⟩)]
theorem Zuk (h : Ag s s' a) (k : Nat) : ∀ n, k + n ≤ a + 1 → Vg s' k n = Vg s k n
 | 0, _ => rfl
 | n + 1, hn => by rw [Vg, Vg, Zuk h k n oo, h.eq (k + n) oo]
theorem Zuj (s : ByteArray) (k : Nat) : ∀ n, chA s k - 48 ≤ Vg s k (n + 1)
 | 0 => by rw [Vg, Vg]; simp
 | n + 1 => by rw [Vg]; have := Zuj s k n; omega
theorem Zq3 {n c b : Nat} (h : Vy s k = .ok (n, c, b)) : k ≤ c ∧ c < b ∧ c = Zm s k ∧ b = Zds s c (s.size - c) c ∧ n = Vg s c (b - c) ∧ Gm (Yu s k) = true ∧ c < s.size := by
 unfold Vy at h
 simp only at h
 split at h
 · cases h
 ·
  rename_i hd
  simp only [Except.ok.injEq, Prod.mk.injEq] at h
  obtain ⟨h1, h2, h3⟩ := h
  subst h2
  have hge := Xd s k
  have hnz : Zm s k ≠ s.size := fun e => hd (by unfold Yu; rw [if_pos e]; rfl)
  have hlt : Zm s k < s.size := by
   rcases Nat.lt_or_ge (Zm s k) s.size with h' | h'
   · exact h'
   ·
    exfalso; apply hd
    unfold Yu; rw [if_neg hnz, Qe4 h']; rfl
  have hdg : Gm (chA s (Zm s k)) = true := by
   have : Yu s k = chA s (Zm s k) := by unfold Yu; rw [if_neg hnz]
   rw [this] at hd; simpa using hd
  have h0 := Zar (s := s) (a := Zm s k) (k := Zm s k) ⟨hlt, hdg, .inl rfl⟩
  have h4 := Zia s (Zm s k) (s.size - (Zm s k + 1)) (Zm s k + 1)
  exact ⟨hge, oo, rfl, h3.symm, by rw [← h1, h3], by simpa using hd, hlt⟩
theorem Zgw {f : Fa} (h : Vy s k = .error f) : f = (4, Zm s k) ∧ Gm (Yu s k) = false := by
 unfold Vy at h
 simp only at h
 split at h
 ·
  rename_i hd
  cases h; exact ⟨rfl, hd⟩
 · cases h
theorem Ag.num (h : Ag s s' a) {n c b : Nat} (hn : Vy s k = .ok (n, c, b)) (hb : b ≤ a) : Vy s' k = .ok (n, c, b) := by
 obtain ⟨h1, h2, h3, h4, h5, h6, h7⟩ := Zq3 hn
 unfold Vy
 simp only [← h.nx (show k ≤ a by omega), h6, ← h.b (show k ≤ a by omega), Bool.true_eq_false, if_false]
 rw [← h3, h.dig c _ c (Nat.le_refl _) (Nat.le_refl _) oo, ← h4, Zuk h c _ oo, ← h5]
theorem Ag.zero (h : Ag s s' a) {b : Nat} (hn : Vy s k = .ok (0, a, b)) : ∃ b', Vy s' k = .ok (0, a, b') := by
 obtain ⟨h1, h2, h3, h4, h5, h6, h7⟩ := Zq3 hn
 obtain ⟨m, hm⟩ : ∃ m, b - a = m + 1 := ⟨b - a - 1, oo⟩
 rw [hm] at h5
 have hv := Zuj s a m
 have hka : k ≤ a := h1
 have hnx : Yu s k = chA s a := by unfold Yu; rw [← h3, if_neg oo]
 have h48 : chA s a = 48 := by
  rw [hnx] at h6
  unfold Gm at h6
  rw [Bool.and_eq_true, decide_eq_true_eq, decide_eq_true_eq] at h6
  omega
 have h48' : chA s' a = 48 := by rw [← h.eq a (Nat.le_refl _)]; exact h48
 have hd : Zds s' a (s'.size - a) a = a + 1 := by
  have l2 := h.l2
  rw [← Zar ⟨l2, by rw [h48']; rfl, .inl rfl⟩]
  exact Gj (fun hh => by rcases hh.2.2 with e | e; exact absurd e oo; exact e h48')
 unfold Vy
 simp only [← h.nx hka, h6, ← h.b hka, Bool.true_eq_false, if_false]
 rw [← h3, hd]
 exact ⟨_, by rw [show a + 1 - a = 0 + 1 by omega, Vg, Vg, Nat.add_zero, h48']⟩
end
def InsPF (s s' : ByteArray) (ins ins' : Ins) : Prop := match ins, ins' with
 | none, none => True
 | some f, some f' => ∀ k, PF s s' k (f k) (f' k)
 | _, _ => False
section
variable {s s' : ByteArray} {ins ins' : Ins}
theorem PF.loop {α : Type} {T : Nat → Except Fa (α × Nat)} {k b f' : Nat} {r R' : Except Fa (α × Nat)} (ih : ∀ g, s'.size - b < g → PF s s' b r (T g)) (h1 : k < b) (h2 : k ≤ s.size → b ≤ s.size) (hf : s'.size - k < f' + 1) (key : ∀ a, Ag s s' a → b ≤ a → R' = T f') : PF s s' k r R' := by
 have ih0 := ih (s'.size - b + 1) oo
 refine ⟨fun q e h => ?_, fun hk q e h => ?_, fun e i h => ?_, fun hk e i h => ?_, fun a ha q e h he => ?_, fun a ha e h hi => ?_, ih0.cod⟩
 · have := ih0.mono q e h; omega
 · exact ih0.mle (h2 hk) q e h
 · have := ih0.ge e i h; omega
 · exact ih0.le (h2 hk) e i h
 ·
  have h5 := ih0.mono q e h
  have l2 := ha.l2
  rw [key a ha oo]
  exact (ih f' oo).okc a ha q e h he
 ·
  have h5 := ih0.ge e a h
  have l2 := ha.l2
  rw [key a ha oo]
  exact (ih f' oo).erc a ha e h hi
end
theorem Qa3 {s : ByteArray} {m i : Nat} (hi : i < m) (hm : m ≤ s.size) : chA (s.extract 0 m) i = chA s i := by
 unfold chA
 rw [ByteArray.data_extract, Array.toList_extract]
 simp only [List.extract_eq_take_drop, List.drop_zero, Nat.sub_zero, List.getD]
 rw [List.getElem?_take, if_pos hi]
def cutS (s t : ByteArray) (a : Nat) : Nat → ByteArray
 | 0 => s.extract 0 (a + 1)
 | n + 1 => cutS s t a n ++ ⟨#[43]⟩ ++ t
def Zr2 (q : Nat → Bool) (s : ByteArray) : Nat → Nat
 | 0 => 0
 | i + 1 => if q (chA s i) = true then Zr2 q s i + 1 else Zr2 q s i
theorem Zpo (q : Nat → Bool) (s : ByteArray) : ∀ i, Zr2 q s i ≤ i
 | 0 => Nat.le_refl _
 | i + 1 => by rw [Zr2]; have := Zpo q s i; split <;> omega
def Zwp (c : Nat) : Bool := decide (c = 94)
def Qed (s : ByteArray) : Bool := decide (60 < Zr2 Gm s s.size) || decide (10 < Zr2 Zwp s s.size)
theorem Zni {q : Nat → Bool} {s : ByteArray} {i d : Nat} (h : q (chA s i) = true) (hd : d = Zr2 q s i) : d + 1 = Zr2 q s (i + 1) := by rw [Zr2, if_pos h, hd]
theorem Znj {q : Nat → Bool} {s : ByteArray} {i d : Nat} (h : q (chA s i) = false) (hd : d = Zr2 q s i) : d = Zr2 q s (i + 1) := by rw [Zr2, if_neg (by rw [h]; decide), hd]
end
section
theorem Zw0 {b off : Nat} (w : World) : (Instr.fieldAt 28 (.pointer (some ⟨b, off, none⟩)) 0).run Tryz.prog w = .ok (.pointer (some ⟨b, off + 0, none⟩)) w := by
 simp [go_sem]
theorem slh_9 (x : ByteArray) (hi : Nat) (h2 : hi ≤ x.size) (w : World) : (Instr.sliceAt 9 (.string x) none (some (.int .i64 (hi : Int))) none).run Tryz.prog w = .ok (.string (x.extract 0 hi)) w := by
 have hT := runUnderlying9
 have e : ∀ j : Nat, asIntOf (.int .i64 (j : Int)) = (pure (.i64, (j : Int)) : Sem _) := fun _ => rfl
 have a1 : (0 : Int) ≤ 0 ∧ (0 : Int) ≤ (hi : Int) := oo
 have a2 : (0 : Int) ≤ (hi : Int) ∧ (hi : Int) ≤ (x.size : Int) := oo
 unfold Instr.sliceAt
 simp only [Sem.run_bind, hT, Result.andThen]
 unfold Instr.slice
 simp only [Sem.run_bind, hT, Result.andThen, Option.isSome_none, Bool.false_eq_true, if_false, Instr.sliceBounds, Instr.sliceBound, e, Sem.run_pure, a1, a2, and_self, if_true, Int.toNat_natCast, Int.toNat_zero]
 try rfl
theorem Qft (s : ByteArray) (hsz : s.size ≤ 1000) : Xl Tryz.prog 9 [.string s] (.bool (Qed s)) := by
 refine fn_intro func9 rfl ntmps9 nb ?_
 intro S w0 a hS h
 refine gC h (zS (za rfl (zn (zS (za rfl (za rfl (zn (zs (zS (za rfl (zn (zb ?_)))))))))))); clear h; intro a w h
 refine Zi (fun (i : Nat) a w => i ≤ s.size ∧ ∃ d p, (d = Zr2 Gm s i ∧ p = Zr2 Zwp s i) ∧ St 36 S w0 [(0, .string s), (2, .bool false), (3, nI d), (4, nI p), (5, nI i)] [] [] a w) (fun i => s.size - i) 0 (⟨Nat.zero_le _, 0, 0, ⟨rfl, rfl⟩, by exact (h).sub sA⟩) ?_; clear h
 rintro i a w ⟨hi_i, d, p, ⟨hd, hp⟩, h⟩
 have hd1 : d ≤ 1000 := by rw [hd]; have := Zpo Gm s i; omega
 have hp1 : p ≤ 1000 := by rw [hp]; have := Zpo Zwp s i; omega
 refine gC h (zs (zS (zm rfl (zm rfl (zp (.builtin [_] rfl (Zt _)) (zp (.lss rfl rfl) (zn ?_))))))); clear h; intro a w h
 refine cW ?_
 refine Zb h rfl (fun hc9 => ?_) (fun hc9 => ?_)
 ·
  skip
  have hlt_i : i < s.size := dT hc9
  refine gC h (zk (zs (zb (zs (zS (zm rfl (zm rfl (zp (Pure1.cast (v' := .int .u8 ((chA s i : Nat) : Int)) (.index rfl rfl (fun _ => Zu runUnderlying9 _ _ oo)) (by rfl)) (zp (.geq rfl rfl) ?_))))))))); clear h; intro a w h
  refine Zg h (fun hc15 h => ?_) (fun hc15 h => ?_)
  focus
   have h48 : 48 ≤ chA s i := dT hc15
   refine gL h (zm rfl (zq 16 rfl rfl (.move rfl) (zq 16 rfl rfl (.move rfl) (zq 16 rfl rfl (Pure1.cast (v' := .int .u8 ((chA s i : Nat) : Int)) (.index rfl rfl (fun _ => Zu runUnderlying9 _ _ oo)) (by rfl)) (zq 16 rfl rfl (.leq rfl rfl) ?_))))); clear h; intro a w h
   refine Zg h (fun hc20 h => ?_) (fun hc20 h => ?_)
   ·
    skip
    have h57 : chA s i ≤ 57 := dT hc20
    have hD : Gm (chA s i) = true := by unfold Gm; simp only [Bool.and_eq_true, Bool.and_eq_false_iff, decide_eq_true_eq, decide_eq_false_iff_not]; omega
    refine gL h (zp (.pickT rfl rfl) (zn ?_)); clear h; intro a w h
    refine cW ?_
    refine Zj h rfl ?_
    refine gC h (zr (zm rfl (zp (.pN (d + 1) (.add rfl rfl)) (za rfl (zn (zS (zm rfl (zm rfl (zp (Pure1.cast (v' := .int .u8 ((chA s i : Nat) : Int)) (.index rfl rfl (fun _ => Zu runUnderlying9 _ _ oo)) (by rfl)) (zp (.eql rfl rfl) ?_)))))))))); clear h; intro a w h
    refine Zg h (fun hc27 h => ?_) (fun hc27 h => ?_)
    ·
     skip
     have hC : Zwp (chA s i) = true := by have := eq_of_beq hc27; unfold Zwp; rw [decide_eq_true_eq]; omega
     refine wpList_nil ?_
     refine cW ?_
     refine Zj h rfl ?_
     refine gC h (zr (zm rfl (zp (.pN (p + 1) (.add rfl rfl)) (za rfl (zn (zr (zm rfl (zp (.pN (i + 1) (.add rfl rfl)) (za rfl (zn ?_)))))))))); clear h; intro a w h
     exact ⟨i + 1, ⟨oo, d + 1, p + 1, ⟨by first | exact Zni hD hd | exact Znj hD hd, by first | exact Zni hC hp | exact Znj hC hp⟩, by exact h.sub sA⟩, oo⟩
    ·
     skip
     have hC : Zwp (chA s i) = false := by unfold Zwp; rw [decide_eq_false_iff_not]; intro e; rw [e] at hc27; exact absurd hc27 dd
     refine wpList_nil ?_
     refine cW ?_
     refine Ze h rfl ?_
     refine gC h (zk (zr (zm rfl (zp (.pN (i + 1) (.add rfl rfl)) (za rfl (zn ?_)))))); clear h; intro a w h
     exact ⟨i + 1, ⟨oo, d + 1, p, ⟨by first | exact Zni hD hd | exact Znj hD hd, by first | exact Zni hC hp | exact Znj hC hp⟩, by exact h.sub sA⟩, oo⟩
   have h57 : ¬ chA s i ≤ 57 := dF hc20
   have hD : Gm (chA s i) = false := by unfold Gm; simp only [Bool.and_eq_true, Bool.and_eq_false_iff, decide_eq_true_eq, decide_eq_false_iff_not]; omega
   refine gL h (zp (.pickT rfl rfl) (zn ?_)); clear h; intro a w h
  rotate_left
  focus
   have h48 : ¬ 48 ≤ chA s i := dF hc15
   have hD : Gm (chA s i) = false := by unfold Gm; simp only [Bool.and_eq_true, Bool.and_eq_false_iff, decide_eq_true_eq, decide_eq_false_iff_not]; omega
   refine gL h (zm rfl (zo 16 rfl rfl rfl (zo 16 rfl rfl rfl (zo 16 rfl rfl rfl (zo 16 rfl rfl rfl (zp (.pickF rfl rfl) (zn ?_))))))); clear h; intro a w h
  all_goals
   refine cW ?_
   refine Ze h rfl ?_
   refine gC h (zk (zS (zm rfl (zm rfl (zp (Pure1.cast (v' := .int .u8 ((chA s i : Nat) : Int)) (.index rfl rfl (fun _ => Zu runUnderlying9 _ _ oo)) (by rfl)) (zp (.eql rfl rfl) ?_)))))); clear h; intro a w h
   refine Zg h (fun hc27 h => ?_) (fun hc27 h => ?_)
   ·
    skip
    have hC : Zwp (chA s i) = true := by have := eq_of_beq hc27; unfold Zwp; rw [decide_eq_true_eq]; omega
    refine wpList_nil ?_
    refine cW ?_
    refine Zj h rfl ?_
    refine gC h (zr (zm rfl (zp (.pN (p + 1) (.add rfl rfl)) (za rfl (zn (zr (zm rfl (zp (.pN (i + 1) (.add rfl rfl)) (za rfl (zn ?_)))))))))); clear h; intro a w h
    exact ⟨i + 1, ⟨oo, d, p + 1, ⟨by first | exact Zni hD hd | exact Znj hD hd, by first | exact Zni hC hp | exact Znj hC hp⟩, by exact h.sub sA⟩, oo⟩
   ·
    skip
    have hC : Zwp (chA s i) = false := by unfold Zwp; rw [decide_eq_false_iff_not]; intro e; rw [e] at hc27; exact absurd hc27 dd
    refine wpList_nil ?_
    refine cW ?_
    refine Ze h rfl ?_
    refine gC h (zk (zr (zm rfl (zp (.pN (i + 1) (.add rfl rfl)) (za rfl (zn ?_)))))); clear h; intro a w h
    exact ⟨i + 1, ⟨oo, d, p, ⟨by first | exact Zni hD hd | exact Znj hD hd, by first | exact Zni hC hp | exact Znj hC hp⟩, by exact h.sub sA⟩, oo⟩
 ·
  skip
  have heq_i : s.size = i := dF hc9
  subst heq_i
  refine gC h (ze (zS (zm rfl (zp (.gtr rfl rfl) ?_)))); clear h; intro a w h
  refine Zg h (fun hc31 h => ?_) (fun hc31 h => ?_)
  ·
   skip
   refine gL h (zm rfl (zo 32 rfl rfl rfl (zo 32 rfl rfl rfl (zp (.pickT rfl rfl) (za rfl (zn (zt ?_))))))); clear h; intro a w h
   refine Jk h (Zd h rfl (.tmp rfl)) ?_
   refine congrArg Value.bool ?_
   unfold Qed
   rw [← hd, ← hp, decide_eq_true (show 60 < d by have := of_decide_eq_true hc31; omega)]; rfl
  ·
   skip
   refine gL h (zm rfl (zq 32 rfl rfl (.move rfl) (zq 32 rfl rfl (.gtr rfl rfl) (zp (.pickF rfl rfl) (za rfl (zn (zt ?_))))))); clear h; intro a w h
   refine Jk h (Zd h rfl (.tmp rfl)) ?_
   refine congrArg Value.bool ?_
   unfold Qed
   rw [← hd, ← hp, decide_eq_false (show ¬ 60 < d by have := of_decide_eq_false hc31; omega), Bool.false_or]
   exact decide_eq_decide.2 oo
end
section
inductive Tok where
 | ch (c : UInt8)
 | num (n : Nat)
def nd (l : List UInt8) : Prop := ∀ b w, l = b :: w → ¬ isD b
inductive Spl : List UInt8 → List Tok → Prop
 | nil : Spl [] []
 | bl {l ts} (h : Spl l ts) : Spl (32 :: l) ts
 | ch {c l ts} (h1 : c ≠ 32) (h2 : ¬ isD c) (h0 : c ≠ 0 ∧ c.toNat < 128) (h : Spl l ts) : Spl (c :: l) (.ch c :: ts)
 | num {n l ts} (hl : nd l) (h : Spl l ts) : Spl (Lib.decDigits n ++ l) (.num n :: ts)
def rst (s : ByteArray) (k : Nat) : List UInt8 := s.data.toList.drop k
section
variable {s : ByteArray} {k : Nat} {ts : List Tok}
end
end
section
theorem Zhr {c : Rat} {D : Nat} {n : Int} (h0 : 0 < D) (h : c * ((D : Int) : Rat) = (n : Rat)) : c.den ≤ D ∧ c.num.natAbs ≤ n.natAbs := by
 have h1 : c.den ∣ D := ID.den ⟨n, h⟩
 have h2 := Nat.le_of_dvd h0 h1
 have h3 : ((c.num * (D : Int) : Int) : Rat) = ((n * (c.den : Int) : Int) : Rat) := by
  rw [Rat.intCast_mul, Rat.intCast_mul, ← h, ← Zcz]; grind
 have h4 := congrArg Int.natAbs (Rat.intCast_inj.1 h3)
 rw [Int.natAbs_mul, Int.natAbs_mul, Int.natAbs_natCast, Int.natAbs_natCast] at h4
 have h5 := Nat.mul_le_mul_left n.natAbs h2
 exact ⟨h2, Nat.le_of_mul_le_mul_right (by rw [h4]; exact h5) h0⟩
def Sml (A B : Nat) (c : Rat) : Prop := c.den ≤ A ∧ c.num.natAbs ≤ B
def Wt (A B m : Nat) (c : Rat) : Prop := ∃ D : Nat, ∃ n : Int, 0 < D ∧ D ≤ A ^ m ∧ c * ((D : Int) : Rat) = (n : Rat) ∧ n.natAbs * A ≤ m * B * A ^ m
theorem Wt.one {A B : Nat} {c : Rat} (h : Sml A B c) : Wt A B 1 (0 + c) := by
 refine ⟨c.den, c.num, c.den_pos, by rw [Nat.pow_one]; exact h.1, ?_, ?_⟩
 · rw [← Zcz]; grind
 · rw [Nat.pow_one, Nat.one_mul]; exact Nat.mul_le_mul_right A h.2
theorem Wt.add {A B m : Nat} {c d : Rat} (h : Wt A B m c) (h2 : Sml A B d) : Wt A B (m + 1) (c + d) := by
 obtain ⟨D, n, h0, h1, hc, hn⟩ := h
 obtain ⟨d1, d2⟩ := h2
 have hdp := d.den_pos
 have hd := Zcz d
 refine ⟨D * d.den, n * (d.den : Int) + d.num * (D : Int), Nat.mul_pos h0 hdp, by rw [Nat.pow_succ]; exact Nat.mul_le_mul h1 d1, ?_, ?_⟩
 · rw [Xj, Rat.intCast_add, Rat.intCast_mul, Rat.intCast_mul, ← hc, ← hd]; grind
 ·
  have e1 : (n * (d.den : Int) + d.num * (D : Int)).natAbs ≤ n.natAbs * d.den + d.num.natAbs * D := by
   refine Nat.le_trans (Int.natAbs_add_le _ _) ?_
   rw [Int.natAbs_mul, Int.natAbs_mul, Int.natAbs_natCast, Int.natAbs_natCast]; exact Nat.le_refl _
  refine Nat.le_trans (Nat.mul_le_mul_right A e1) ?_
  rw [Nat.add_mul, Nat.pow_succ]
  have e2 : n.natAbs * d.den * A ≤ m * B * A ^ m * A := by
   rw [Nat.mul_right_comm]
   exact Nat.mul_le_mul hn d1
  have e3 : d.num.natAbs * D * A ≤ B * A ^ m * A := Nat.mul_le_mul_right A (Nat.mul_le_mul d2 h1)
  have e4 : (m + 1) * B * (A ^ m * A) = m * B * A ^ m * A + B * A ^ m * A := by
   rw [Nat.add_mul, Nat.add_mul, Nat.one_mul, ← Nat.mul_assoc, ← Nat.mul_assoc]
  rw [e4]
  exact Nat.add_le_add e2 e3
inductive MW (A B : Nat) : List Tm → Nat → Prop
 | nil : MW A B [] 0
 | cons {t : Tm} {p : List Tm} {m k : Nat} (h : Wt A B (m + 1) t.c) (h2 : MW A B p k) : MW A B (t :: p) (m + 1 + k)
theorem MW.ins {A B : Nat} {t : Tm} (ht : Sml A B t.c) : ∀ {p : List Tm} {k : Nat}, MW A B p k → MW A B (Zb0 t p) (k + 1)
 | [], _, .nil => by
  rw [Zb0]
  exact .cons (m := 0) (Wt.one ht) .nil
 | s :: p, _, .cons (m := m) (k := k) h h2 => by
  rw [Zb0]
  split
  ·
   have := MW.cons (A := A) (B := B) (t := ⟨s.i, s.j, s.c + t.c⟩) (m := m + 1) (h.add ht) h2
   rwa [show m + 1 + 1 + k = m + 1 + k + 1 by omega] at this
  ·
   have := MW.cons (A := A) (B := B) (t := s) (m := m) h (MW.ins ht h2)
   rwa [← Nat.add_assoc] at this
theorem Zd7 {n k : Nat} (h : n < 2 ^ k) : Je n ≤ k := by
 unfold Je
 split
 · omega
 ·
  rename_i h0
  exact (Nat.log2_lt h0).2 h
theorem Wt.size {a b m : Nat} {t : Tm} (hab : a ≤ b) (h : Wt (2 ^ a) (2 ^ b) (m + 1) t.c) : szT t ≤ (m + 1) * (a + b + 3) := by
 obtain ⟨D, n, h0, h1, hc, hn⟩ := h
 obtain ⟨s1, s2⟩ := Zhr h0 hc
 have hp : (2 ^ a) ^ (m + 1) = 2 ^ (a * m) * 2 ^ a := by rw [Nat.pow_succ, ← Nat.pow_mul]
 have hA : 0 < 2 ^ a := Nat.pos_of_ne_zero ss
 have b1 : Je t.c.den ≤ a * m + a + 1 := by
  refine Zd7 ?_
  have : t.c.den ≤ 2 ^ (a * m + a) := by rw [Nat.pow_add, ← hp]; omega
  have h2 : 2 ^ (a * m + a) < 2 ^ (a * m + a + 1) := Nat.pow_lt_pow_right dd oo
  omega
 have b2 : Je t.c.num.natAbs ≤ (m + 1) + b + a * m := by
  refine Zd7 ?_
  have h3 : n.natAbs ≤ (m + 1) * 2 ^ b * 2 ^ (a * m) := by
   refine Nat.le_of_mul_le_mul_right (c := 2 ^ a) ?_ hA
   rw [Nat.mul_assoc _ (2 ^ (a * m)), ← hp]; exact hn
  have h4 : (m + 1) * 2 ^ b * 2 ^ (a * m) < 2 ^ (m + 1) * 2 ^ b * 2 ^ (a * m) := by
   have hx : m + 1 < 2 ^ (m + 1) := Nat.lt_two_pow_self
   have hb : 0 < 2 ^ b := Nat.pos_of_ne_zero ss
   have hc : 0 < 2 ^ (a * m) := Nat.pos_of_ne_zero ss
   exact Nat.mul_lt_mul_of_pos_right (Nat.mul_lt_mul_of_pos_right hx hb) hc
  rw [Nat.pow_add, Nat.pow_add]
  omega
 have e : szT t = Je t.c.num.natAbs + Je t.c.den := rfl
 have h5 : a * m ≤ b * m := Nat.mul_le_mul_right m hab
 have h6 : (m + 1) * (a + b + 3) = a * m + b * m + 3 * m + a + b + 3 := by
  rw [Nat.add_mul, Nat.mul_add, Nat.mul_add, Nat.one_mul, Nat.mul_comm m a, Nat.mul_comm m b, Nat.mul_comm m 3]; omega
 omega
theorem MW.size {a b : Nat} (hab : a ≤ b) : ∀ {p : List Tm} {k : Nat}, MW (2 ^ a) (2 ^ b) p k → Qf p ≤ k * (a + b + 3) ∧ p.length ≤ k
 | [], _, .nil => ⟨Nat.zero_le _, Nat.le_refl _⟩
 | t :: p, _, .cons (m := m) (k := k) h h2 => by
  have h1 := h.size hab
  obtain ⟨h3, h5⟩ := MW.size hab h2
  have h4 : Qf (t :: p) = szT t + Qf p := by rw [Gf, Gf, List.map_cons, List.sum_cons]
  refine ⟨?_, by rw [List.length_cons]; omega⟩
  rw [h4, Nat.add_mul]; omega
theorem Sml.qv {N D : Int} (h : OkQ (N, D)) : Sml (2 ^ 32) (2 ^ 63) (qv N D) := by
 obtain ⟨h1, h2, h3, h4⟩ := h
 simp only at h1 h2 h3 h4
 obtain ⟨E, hE⟩ : ∃ E : Nat, (E : Int) = max D 1 := ⟨(max D 1).toNat, oo⟩
 have h0 : 0 < E := oo
 have e : _root_.Go.Proofs.YtgkicbaomcmfoaaGreatDoor.qv N D * ((E : Int) : Rat) = (N : Rat) := by
  unfold _root_.Go.Proofs.YtgkicbaomcmfoaaGreatDoor.qv
  rw [← hE]
  have : ((E : Int) : Rat) ≠ 0 := by
   intro e; have := Rat.intCast_inj.1 (e.trans Rat.intCast_zero.symm); omega
  exact Rat.div_mul_cancel this
 obtain ⟨a1, a2⟩ := Zhr h0 e
 exact ⟨oo, oo⟩
theorem Sml.mul {A B C D : Nat} {x y : Rat} (h : Sml A B x) (h2 : Sml C D y) : Sml (A * C) (B * D) (x * y) := by
 obtain ⟨h1, h3⟩ := h
 obtain ⟨h4, h5⟩ := h2
 have e : x * y * (((x.den * y.den : Nat) : Int) : Rat) = ((x.num * y.num : Int) : Rat) := by
  rw [Xj, Rat.intCast_mul, ← Zcz x, ← Zcz y]; grind
 obtain ⟨a1, a2⟩ := Zhr (Nat.mul_pos x.den_pos y.den_pos) e
 rw [Int.natAbs_mul] at a2
 exact ⟨Nat.le_trans a1 (Nat.mul_le_mul h1 h4), Nat.le_trans a2 (Nat.mul_le_mul h3 h5)⟩
end
section
theorem Gl (s : ByteArray) (k : Nat) (hk : k ≤ s.size) (hs : s.size ≤ 4096) : Xl Tryz.prog 64 [.string s, .int .i64 ((k : Nat) : Int)] (.int .i64 ((Zm s k : Nat) : Int)) := by
 refine fn_intro func64 rfl ntmps64 nb ?_
 intro S w0 a hS h
 refine gC h (zS (za rfl (zn (zs (zb ?_))))); clear h; intro a w h
 refine Zi (fun (j : Nat) a w => (j ≤ s.size ∧ Zm s j = Zm s k) ∧ St 18 S w0 [(0, .string s), (1, nI j), (4, .int .i64 0)] [] [] a w) (fun j => s.size - j) (k) (⟨⟨hk, rfl⟩, by exact h.sub sA⟩) ?_; clear h
 rintro j a w ⟨⟨hj, hb⟩, h⟩
 refine gC h (zs (zS (zm rfl (zm rfl (zp (.builtin [_] rfl (Zt _)) (zp (.lss rfl rfl) ?_)))))); clear h; intro a w h
 refine Zg h (fun hc8 h => ?_) (fun hc8 h => ?_)
 ·
  skip
  have hlt : j < s.size := dT hc8
  refine gL h (zm rfl (zq 9 rfl rfl (.move rfl) (zq 9 rfl rfl (.move rfl) (zq 9 rfl rfl (Pure1.cast (v' := .int .u8 ((chA s j : Nat) : Int)) (.index rfl rfl (fun _ => Zu runUnderlying9 _ _ oo)) (by rfl)) (zq 9 rfl rfl (.eql rfl rfl) ?_))))); clear h; intro a w h
  refine Zg h (fun hc13 h => ?_) (fun hc13 h => ?_)
  ·
   skip
   have h32 : chA s j = 32 := by have := eq_of_beq hc13; omega
   refine gL h (zp (.pickT rfl rfl) (zn ?_)); clear h; intro a w h
   refine cW ?_
   refine Zj h rfl ?_
   refine gC h (zk (zb (zr (zm rfl (zp (.pN (j + 1) (.add rfl rfl)) (za rfl (zn ?_))))))); clear h; intro a w h
   exact ⟨j + 1, ⟨⟨oo, by rw [Ze9 hlt h32]; exact hb⟩, by exact h.sub sA⟩, oo⟩
  ·
   skip
   have h32 : ¬ chA s j = 32 := fun e => by rw [e] at hc13; exact absurd hc13 dd
   refine gL h (zp (.pickT rfl rfl) (zn ?_)); clear h; intro a w h
   refine cW ?_
   refine Ze h rfl ?_
   refine gC h (ze (zS (zm rfl (za rfl (zn (zt ?_)))))); clear h; intro a w h
   refine Jk h (Zd h rfl (.tmp rfl)) ?_
   have e := Zdo (s := s) (k := j) (fun hh => h32 hh.2)
   rw [← hb, e]
 ·
  skip
  have hge : ¬ j < s.size := dF hc8
  refine gL h (zm rfl (zo 9 rfl rfl rfl (zo 9 rfl rfl rfl (zo 9 rfl rfl rfl (zo 9 rfl rfl rfl (zp (.pickF rfl rfl) (zn ?_))))))); clear h; intro a w h
  refine cW ?_
  refine Ze h rfl ?_
  refine gC h (ze (zS (zm rfl (za rfl (zn (zt ?_)))))); clear h; intro a w h
  refine Jk h (Zd h rfl (.tmp rfl)) ?_
  have e := Zdo (s := s) (k := j) (fun hh => hge hh.1)
  rw [← hb, e]
def isE (s : ByteArray) (k c : Nat) : Bool := decide (k < s.size) && decide (chA s k = c)
theorem Qt {s : ByteArray} {c k : Nat} (hk : k ≤ s.size) : Zn s c k = isE s (Zm s k) c := by
 have := Ja hk
 unfold Zn Yu isE
 by_cases h : Zm s k = s.size
 · rw [if_pos h, decide_eq_true h, decide_eq_false (show ¬ Zm s k < s.size by omega)]; simp
 · rw [if_neg h, decide_eq_false h, decide_eq_true (show Zm s k < s.size by omega)]; simp
theorem Zfe (s : ByteArray) (k c : Nat) (hk : k ≤ 10000) (hs : s.size ≤ 4096) : Xl Tryz.prog 100 [.string s, .int .i64 ((k : Nat) : Int), .int .u8 ((c : Nat) : Int)] (.bool (isE s k c)) := by
 refine fn_intro func100 rfl ntmps100 nb ?_
 intro S w0 a hS h
 refine gC h (zS (za rfl (zn (zS (zm rfl (zm rfl (zp (.builtin [_] rfl (Zt _)) (zp (.lss rfl rfl) ?_)))))))); clear h; intro a w h
 refine Zg h (fun hc10 h => ?_) (fun hc10 h => ?_)
 ·
  skip
  have h1 : k < s.size := dT hc10
  refine gL h (zm rfl (zq 11 rfl rfl (.move rfl) (zq 11 rfl rfl (.move rfl) (zq 11 rfl rfl (Pure1.cast (v' := .int .u8 ((chA s k : Nat) : Int)) (.index rfl rfl (fun _ => Zu runUnderlying9 _ _ oo)) (by rfl)) (zq 11 rfl rfl (.move rfl) (zq 11 rfl rfl (.eql rfl rfl) (zp (.pickT rfl rfl) (za rfl (zn (zt ?_)))))))))); clear h; intro a w h
  refine Jk h (Zd h rfl (.tmp rfl)) ?_
  refine congrArg Value.bool ?_
  unfold isE
  rw [decide_eq_true h1, Bool.true_and]
  by_cases h2 : chA s k = c
  · rw [decide_eq_true h2, h2]; simp
  · rw [decide_eq_false h2]; simp; omega
 ·
  skip
  have h1 : ¬ k < s.size := dF hc10
  refine gL h (zm rfl (zo 11 rfl rfl rfl (zo 11 rfl rfl rfl (zo 11 rfl rfl rfl (zo 11 rfl rfl rfl (zo 11 rfl rfl rfl (zp (.pickF rfl rfl) (za rfl (zn (zt ?_)))))))))); clear h; intro a w h
  refine Jk h (Zd h rfl (.tmp rfl)) ?_
  refine congrArg Value.bool ?_
  unfold isE
  rw [decide_eq_false h1, Bool.false_and]
theorem fV_nat (n : Nat) (ad : Option Addr) (c : Nat) : fV ((n : Int) : Rat) ad c none 0 = .agg #[.bool (decide (sgZ false n < 0)), .slice ad (dg n).length c, .slice none 0 0] := by
 unfold fV
 rw [Rat.num_intCast, Rat.den_intCast, Nat.sub_self, Qv, Int.natAbs_natCast]; rfl
theorem Zyh (n : Nat) (ad : Option Addr) (c : Nat) : Xl Tryz.prog 148 [.slice ad (dg n).length c] (fV ((n : Int) : Rat) ad c none 0) := by
 refine fn_intro func148 rfl ntmps148 nb ?_
 intro S w0 a hS h
 refine gC h (zS (zz Zt7 fun b2 => zn (zS (zm rfl (zv [_, _] rfl call188 (Zat false ad c n) (zp (.build [(_, _)] rfl (Zr9 _ _)) (zt' rfl rfl Qw uu sizeOf164 rfl nb rfl ?_))))))); clear h; intro a w h
 refine wpList_nil (wp_ret ?_)
 refine Jk h (Zd h rfl (.cell rfl mr isAgg164 sizeOf164 Zs)) ?_
 rw [fV_nat]
theorem Zvr {n i : Nat} (h : ¬ 2 ^ i ≤ n) (hi : i ≤ Je n) : i = Je n := by
 rcases Nat.lt_or_ge i (Je n) with h1 | h1
 ·
  exfalso
  apply h
  unfold Je at h1
  split at h1
  · omega
  ·
   rename_i h0
   exact Nat.le_trans (Nat.pow_le_pow_right dd oo) (Nat.log2_self_le h0)
 · omega
theorem Zvq {n i : Nat} (h : 2 ^ i ≤ n) : i < Je n := by
 have := Zfa n
 exact (Nat.pow_lt_pow_iff_right (a := 2) dd).1 oo
theorem Qes (i : Nat) : (dg (2 ^ i)).length ≤ i + 1 := Vf (Nat.lt_of_lt_of_le (Nat.pow_lt_pow_right (a := 2) dd (Nat.lt_succ_self i)) (Nat.pow_le_pow_left dd _))
theorem Zw6 (n : Nat) : (dg n).length ≤ Je n := Vf (Nat.lt_of_lt_of_le (Zfa n) (Nat.pow_le_pow_left dd _))
theorem Qca {n m : Nat} : Ze7 n m ≤ 0 ↔ n ≤ m := by unfold Ze7; split <;> (try split) <;> omega
theorem Zpu (n : Nat) (ad : Option Addr) (c : Nat) (hb : Je n ≤ 1000000) : Gn Tryz.prog 146 [.slice ad (dg n).length c] [Row ad (List.map Qe (dg n))] (.int .i64 ((Je n : Nat) : Int)) := by
 have hdn := Zw6 n
 refine fn_intro func146 rfl ntmps146 nb ?_
 intro S w0 a hS h
 refine gC h (zS (za rfl (zn (zS (za rfl (zn (zS (zf [_] rfl call189 (Zn0 1 oo) ?_)))))))); rintro v5 Ψ5 ⟨ad5, c5, rfl, hle5, rfl⟩
 have hl5 := dg5 1 oo
 refine za rfl (zn (zs (zb ?_))); intro a w h
 refine Zi (fun (i : Nat) a w => ∃ (p1 : Option Addr) (p2 : Nat), i ≤ Je n ∧ St 16 S w0 [(0, .slice ad ((dg n).length) c), (2, .int .i64 0), (3, nI i), (4, .slice p1 ((dg (2 ^ i)).length) p2), (5, .slice ad5 ((dg 1).length) c5)] [] [Row p1 (List.map Qe (dg (2 ^ i))), Row ad (List.map Qe (dg n))] a w) (fun i => Je n - i) (0) (⟨ad5, c5, Nat.zero_le _, by rw [show 1 = 2 ^ 0 from rfl] at h; exact (h.factsSub (by simp)).sub (Zfn ⟨rfl, rfl, rfl, rfl, rfl, trivial⟩)⟩) ?_; clear h
 rintro i a w ⟨p1, p2, hi, h⟩
 have hdp := Qes i
 refine gC h (zs (zS (zm rfl (zm rfl (zw [_, _] rfl call191 (Zj5 _ _ _ _ (2 ^ i) n oo oo) (zp (.leq rfl rfl) ?_)))))); clear h; intro a w h
 refine Zg h (fun hc9 h => ?_) (fun hc9 h => ?_)
 ·
  skip
  have hle : 2 ^ i ≤ n := Qca.1 (of_decide_eq_true hc9)
  refine wpList_nil ?_
  refine cW ?_
  refine Zj h rfl ?_
  refine gC h (zk (zb (zS (zm rfl (zm rfl (zf [_, _] rfl call194 (Zyd _ _ _ _ (2 ^ i) (2 ^ i) oo oo) ?_)))))); rintro v12 Ψ12 ⟨ad12, c12, rfl, hle12, rfl⟩
  have hl12 := Zdn (2 ^ i) (2 ^ i)
  refine za rfl (zn (zr (zm rfl (zp (.pN (i + 1) (.add rfl rfl)) (za rfl (zn ?_)))))); intro a w h
  rw [show 2 ^ i + 2 ^ i = 2 ^ (i + 1) by rw [Nat.pow_succ]; omega] at h
  exact ⟨i + 1, ⟨ad12, c12, Zvq hle, by exact (h.factsSub (by simp)).sub sA⟩, by have := Zvq hle; omega⟩
 ·
  skip
  have hnle : ¬ 2 ^ i ≤ n := fun e => by have := Qca.2 e; exact absurd this (of_decide_eq_false hc9)
  refine wpList_nil ?_
  refine cW ?_
  refine Ze h rfl ?_
  refine gC h (ze (zS (zm rfl (za rfl (zn (zt ?_)))))); clear h; intro a w h
  refine Jk h (Zd h rfl (.tmp rfl)) ?_
  rw [Zvr hnle hi]
end
section
theorem Qe7 (x y : Int) (w : World) (ty : TypeId) (cs : Array Bool) : (Go.builtin .max #[3, 3] ty cs #[.int .i64 x, .int .i64 y]).run Tryz.prog w = .ok (.value (.int .i64 (max x y))) w := by
 simp [go_sem] <;> (try rw [Int.max_def]) <;> (try split) <;> (try split) <;> (try omega)
theorem Qds {s : ByteArray} {Z : List Nat} {j0 m V : Nat} {i : Int} (h : Qi Z + 10000 ^ Z.length * Vg s 0 i.toNat = V) (hi : (j0 : Int) + m = i) (hm : m = 4 ∨ j0 = 0) (h4 : m ≤ 4) : Qi (Z ++ [Vg s j0 m]) + 10000 ^ (Z ++ [Vg s j0 m]).length * Vg s 0 (i - 4).toNat = V := by
 have e1 : i.toNat = j0 + m := oo
 rw [e1] at h
 have h2 := Zj9 s 0 j0 m
 rw [Nat.zero_add] at h2
 rw [h2] at h
 rw [Zhf, List.length_append, List.length_singleton, Nat.pow_succ]
 rcases hm with hm | hm
 ·
  subst hm
  have e2 : (i - 4).toNat = j0 := oo
  rw [show (10 : Nat) ^ 4 = 10000 from rfl] at h
  rw [e2, ← h, Nat.mul_add, ← Nat.mul_assoc]
  omega
 ·
  subst hm
  have e3 : Vg s 0 0 = 0 := rfl
  rw [e3, Nat.mul_zero, Nat.zero_add] at h
  have e4 : (i - 4).toNat = 0 := oo
  rw [e4, e3, Nat.mul_zero]
  omega
set_option maxHeartbeats 1000000 in
theorem Qbe (s : ByteArray) (h0 : 0 < s.size) (hs : s.size ≤ 4096) (hd : ∀ i, i < s.size → Gm (chA s i) = true) (hl : chA s 0 = 48 → s.size = 1) : Ctr Tryz.prog 193 [.string s] [] (fun v Ψ => ∃ ad c, v = .tuple #[.slice ad (dg (Vg s 0 s.size)).length c, .int .i64 0] ∧ (dg (Vg s 0 s.size)).length ≤ c ∧ Ψ = [Row ad (List.map Qe (dg (Vg s 0 s.size)))]) := by
 refine fn_intro func193 rfl ntmps193 nb ?_
 intro S w0 a hS h
 refine gC h (zS (za rfl (za rfl (zn (zs (zS (zm rfl (zp (.builtin [_] rfl (Zt _)) (zp (.gtr rfl rfl) (zn ?_)))))))))); clear h; intro a w h
 refine cW ?_
 refine Zb h rfl (fun hc11 => (by exfalso; have := of_decide_eq_true hc11; omega)) (fun hc11 => ?_)
 refine gC h (zk (zs (zS (zm rfl (zp (.builtin [_] rfl (Zt _)) (zp (.eql rfl rfl) ?_)))))); clear h; intro a w h
 refine Zg h (fun hc14 h => (by exfalso; have := eq_of_beq hc14; omega)) (fun hc14 h => ?_)
 refine gL h (zm rfl (zq 15 rfl rfl (.move rfl) (zq 15 rfl rfl (Pure1.cast (v' := .int .u8 ((chA s 0 : Nat) : Int)) (.index rfl rfl (fun _ => Zu runUnderlying9 s 0 oo)) (by rfl)) (zq 15 rfl rfl (.eql rfl rfl) ?_)))); clear h; intro a w h
 refine Zg h (fun hc18 h => ?_) (fun hc18 h => ?_)
 focus
  refine gL h (zq 15 rfl rfl (.move rfl) (zq 19 rfl rfl (.move rfl) (zq 19 rfl rfl (.builtin [_] rfl (Zt _)) (zq 19 rfl rfl (.gtr rfl rfl) ?_)))); clear h; intro a w h
  refine Zg h (fun hc22 h => (by exfalso; have h48 : chA s 0 = 48 := (by have := eq_of_beq hc18; omega); have := hl h48; have := of_decide_eq_true hc22; omega)) (fun hc22 h => ?_)
  refine gL h (zq 15 rfl rfl (.pickT rfl rfl) (zp (.pickF rfl rfl) (zn ?_))); clear h; intro a w h
 rotate_left
 focus
  refine gL h (zq 15 rfl rfl (.move rfl) (zo 19 rfl rfl rfl (zo 19 rfl rfl rfl (zo 19 rfl rfl rfl (zq 15 rfl rfl (.pickF rfl rfl) (zp (.pickF rfl rfl) (zn ?_))))))); clear h; intro a w h
 all_goals
  refine cW ?_
  refine Ze h rfl ?_
  refine gC h (zk (zS (za rfl (zn (zs (zS (za rfl (zn (zb ?_))))))))); clear h; intro a w h
  refine Zi (fun (j : Nat) a w => j ≤ s.size ∧ St 69 S w0 [(0, .string s), (4, .slice none 0 0), (5, nI j)] [] [] a w) (fun j => s.size - j) 0 (⟨Nat.zero_le _, by exact (h).sub sA⟩) ?_; clear h
  rintro j a w ⟨hi_j, h⟩
  refine gC h (zs (zS (zm rfl (zm rfl (zp (.builtin [_] rfl (Zt _)) (zp (.lss rfl rfl) (zn ?_))))))); clear h; intro a w h
  refine cW ?_
  refine Zb h rfl (fun hc28 => ?_) (fun hc28 => ?_)
  ·
   skip
   have hlt_j : j < s.size := dT hc28
   have hdg := hd j hlt_j
   unfold Gm at hdg
   rw [Bool.and_eq_true, decide_eq_true_eq, decide_eq_true_eq] at hdg
   refine gC h (zk (zs (zb (zS (zm rfl (zm rfl (zp (Pure1.cast (v' := .int .u8 ((chA s j : Nat) : Int)) (.index rfl rfl (fun _ => Zu runUnderlying9 _ _ oo)) (by rfl)) (zp (.lss rfl rfl) ?_)))))))); clear h; intro a w h
   refine Zg h (fun hc34 h => (by exfalso; have := of_decide_eq_true hc34; omega)) (fun hc34 h => ?_)
   refine gL h (zm rfl (zq 35 rfl rfl (.move rfl) (zq 35 rfl rfl (.move rfl) (zq 35 rfl rfl (Pure1.cast (v' := .int .u8 ((chA s j : Nat) : Int)) (.index rfl rfl (fun _ => Zu runUnderlying9 _ _ oo)) (by rfl)) (zq 35 rfl rfl (.gtr rfl rfl) ?_))))); clear h; intro a w h
   refine Zg h (fun hc39 h => (by exfalso; have := of_decide_eq_true hc39; omega)) (fun hc39 h => ?_)
   refine gL h (zp (.pickF rfl rfl) (zn ?_)); clear h; intro a w h
   refine cW ?_
   refine Ze h rfl ?_
   refine gC h (zk (zr (zm rfl (zp (.pN (j + 1) (.add rfl rfl)) (za rfl (zn ?_)))))); clear h; intro a w h
   exact ⟨j + 1, ⟨oo, h.sub sA⟩, oo⟩
  ·
   skip
   have heq_j : s.size = j := dF hc28
   subst heq_j
   refine gC h (ze (zs (zS (zm rfl (zp (.builtin [_] rfl (Zt _)) (za rfl (zn (zb ?_)))))))); clear h; intro a w h
   refine Zi (fun (i : Int) a w => ∃ (Z : List Nat) (ad : Option Addr) (c : Nat) (o : List (Nat × Obj)), (4 * (Z.length : Int) ≤ (s.size : Int) - i + 3 ∧ -3 ≤ i ∧ i ≤ (s.size : Int) ∧ Dd Z ∧ Qi Z + 10000 ^ Z.length * Vg s 0 i.toNat = Vg s 0 s.size ∧ GrowO 1 3 (.slice ad (Z).length c) (Z).length (List.map Qe (Z)) o) ∧ St 69 S w0 [(0, .string s), (4, (.slice ad (Z).length c)), (5, nI s.size), (6, .int .i64 i), (42, nI s.size)] (o ++ []) [] a w) (fun i => i.toNat) (((s.size : Nat) : Int)) (⟨[], none, 0, [], ⟨by simp only [List.length_nil]; omega, oo, by omega, (fun _ h => nomatch h), by simp [Qi], GrowO.nil _ _⟩, by exact h.sub sA⟩) ?_; clear h
   rintro i a w ⟨Z, ad, c, o, ⟨hlZ, hi3, his, hw, hv0, hG⟩, h⟩
   refine gC h (zs (zS (zm rfl (zp (.gtr rfl rfl) (zn ?_))))); clear h; intro a w h
   refine cW ?_
   refine Zb h rfl (fun hc44 => ?_) (fun hc44 => ?_)
   ·
    skip
    have hi0 : 0 < i := dT hc44
    obtain ⟨j0, hj0⟩ : ∃ j0 : Nat, j0 = (i - 4).toNat := ⟨_, rfl⟩
    obtain ⟨cnt, hcnt⟩ : ∃ cnt : Nat, (j0 : Int) + cnt = i := ⟨(i - (j0 : Int)).toNat, oo⟩
    have hc4 : cnt ≤ 4 := oo
    have hcs : j0 + cnt ≤ s.size := oo
    have hc40 : cnt = 4 ∨ j0 = 0 := oo
    refine gC h (zk (zs (zb (zS (za rfl (zn (zs (zS (zm rfl (zp (.sub rfl rfl) (zp (Pure1.cast (v' := .int .i64 ((j0 : Nat) : Int)) (.builtin [_, _] rfl (fun w ty cs => Qe7 _ _ w ty cs)) (by exact congrArg (Value.int .i64) oo)) (za rfl (zn (zb ?_)))))))))))))); clear h; intro a w h
    refine Zi (fun (m : Nat) a w => m ≤ cnt ∧ St 69 S w0 [(0, .string s), (4, (.slice ad (Z).length c)), (5, nI s.size), (6, .int .i64 i), (7, nI (Vg s j0 m)), (8, nI (j0 + m)), (42, nI s.size), (49, nI j0)] (o ++ []) [] a w) (fun m => cnt - m) (0) (⟨Nat.zero_le _, by exact h.sub sA⟩) ?_; clear h
    rintro m a w ⟨hmc, h⟩
    refine gC h (zs (zS (zm rfl (zm rfl (zp (.lss rfl rfl) (zn ?_)))))); clear h; intro a w h
    refine cW ?_
    refine Zb h rfl (fun hc52 => ?_) (fun hc52 => ?_)
    ·
     skip
     have hm : m < cnt := dT hc52
     have hdg := hd (j0 + m) oo
     unfold Gm at hdg
     rw [Bool.and_eq_true, decide_eq_true_eq, decide_eq_true_eq] at hdg
     have hv := Zfh s j0 m (fun i h1 h2 => hd i oo)
     have hp : 10 ^ m ≤ 10000 := Nat.le_trans (Nat.pow_le_pow_right (n := 10) dd (show m ≤ 4 by omega)) dd
     refine gC h (zk (zs (zb (zr (zm rfl (zp (.pN (10 * (Vg s j0 m)) (.mul rfl rfl)) (zm rfl (zm rfl (zp (Pure1.cast (v' := .int .u8 ((chA s (j0 + m) : Nat) : Int)) (.index rfl rfl (fun _ => Zu runUnderlying9 _ _ oo)) (by rfl)) (zp (Pure1.cast (v' := .int .u8 ((chA s (j0 + m) - 48 : Nat) : Int)) (.binOp rfl rfl (fun _ => Zki _ _ _ _ _ (wrap_u8 _ oo oo))) (by exact congrArg (Value.int .u8) oo)) (zp (.convert rfl (Zw8 _ (wrap_i64 _ oo oo))) (zp (Pure1.cast (v' := .int .i64 ((Vg s j0 (m + 1) : Nat) : Int)) (.pN ((10 * (Vg s j0 m)) + (chA s (j0 + m) - 48)) (.add rfl rfl)) (by rfl)) (za rfl (zn (zr (zm rfl (zp (.pN ((j0 + m) + 1) (.add rfl rfl)) (za rfl (zn ?_))))))))))))))))))); clear h; intro a w h
     exact ⟨m + 1, ⟨hm, by exact h.sub sA⟩, oo⟩
    ·
     skip
     have hme : m = cnt := dF hc52
     subst hme
     have hv := Zfh s j0 m (fun i h1 h2 => hd i oo)
     have hp : 10 ^ m ≤ 10000 := Nat.le_trans (Nat.pow_le_pow_right (n := 10) dd hc4) dd
     refine gC h (ze (zr (zm rfl (zm rfl (zB [(_, _)] rfl (Zad _) fun b65 => ?_))))); clear h; intro a w h
     refine Zc (Yj (σr := []) h rfl rfl (List.Perm.trans (List.Perm.refl _) (List.Perm.cons _ (List.Perm.refl _))) hG runUnderlying160 runUnderlying160 typeInfo3 sizeOf3 zeroValue3 rfl dd dd rfl rfl dd (by show 8 * (2 * ((Z).length + 1) + 192) ≤ 281474976710656; omega) dd ?_); clear h
     intro v66 o66 a w hG66 h
     obtain ⟨ad66, c66, rfl⟩ := hG66.is
     have hLn66 : (Z).length + 1 = (Z ++ [Vg s j0 m]).length := lA
     rw [hLn66] at h hG66
     replace hG66 : GrowO 1 3 (.slice ad66 (Z ++ [Vg s j0 m]).length c66) (Z ++ [Vg s j0 m]).length (List.map Qe (Z ++ [Vg s j0 m])) o66 := by rw [List.map_append]; exact hG66
     refine gL h (za rfl (zn (zr (zm rfl (zp (.sub rfl rfl) (za rfl (zn ?_))))))); clear h; intro a w h
     exact ⟨i - 4, ⟨Z ++ [Vg s j0 m], ad66, c66, o66, ⟨by rw [List.length_append, List.length_singleton]; omega, oo, by omega, hw.snoc oo, Qds hv0 hcnt hc40 hc4, hG66⟩, by exact h.sub sA⟩, oo⟩
   ·
    skip
    have hi0 : i ≤ 0 := dF hc44
    refine gC h (ze (zS (zm rfl ?_))); clear h; intro a w h
    have hcap := hG.le
    replace h := h.shareO' hS hG
    have hZ : Qi Z = Vg s 0 s.size := by
     have e0 : i.toNat = 0 := oo
     rw [e0] at hv0; simpa [Vg] using hv0
    have hdl := Nat.le_trans (Zc6 hw) hcap
    refine gL h (zf [_] rfl call223 (Zj3 ad c Z hw hG.le oo) ?_); rintro v68 Ψ68 ⟨rfl, rfl⟩
    refine za rfl (za rfl (zn (zt ?_))); intro a w h
    refine Zy (Ψ := [Row ad (List.map Qe (dg (Qi Z)))]) h (Ql h rfl (.tmp rfl) (.tmp rfl)) ?_ ss
    rw [← hZ]; exact ⟨ad, c, rfl, hdl, rfl⟩
end
section
theorem Zmr (a : Option Addr) (n c : Nat) (w : World) (ty : TypeId) (cs : Array Bool) : (Go.builtin .len #[67] ty cs #[.slice a n c]).run Tryz.prog w = .ok (.value (.int .i64 n)) w := by
 simp [go_sem]
theorem Gv (w : World) : (zeroValue 68).run Tryz.prog w = .ok (.agg #[.int .i64 ((0, 0) : Int × Int).1, .int .i64 ((0, 0) : Int × Int).2]) w := zeroValue68 w
theorem Zol {p q : List Tm} (h : p.Perm q) : Qf p = Qf q := by rw [Gf, Gf]; exact (h.map szT).sum_nat
theorem Znz (s : ByteArray) (a e : Nat) (h1 : a < e) (h2 : e ≤ s.size) (hs : s.size ≤ 4096) (hd : ∀ i, a ≤ i → i < e → Gm (chA s i) = true) (hl : chA s a = 48 → e = a + 1) : Ctr Tryz.prog 193 [.string (s.extract a e)] [] (fun v Ψ => ∃ ad c, v = .tuple #[.slice ad (dg (Vg s a (e - a))).length c, .int .i64 0] ∧ (dg (Vg s a (e - a))).length ≤ c ∧ Ψ = [Row ad (List.map Qe (dg (Vg s a (e - a))))]) := by
 have hz : (s.extract a e).size = e - a := by rw [ByteArray.size_extract]; omega
 have h := Qbe (s.extract a e) oo oo (fun i hi => by rw [Zas s a e i h2 oo]; exact hd _ oo oo) (fun h48 => by
  rw [Zas s a e 0 h2 oo] at h48
  have := hl h48; omega)
 rw [hz, Zct s a e h2 _ (Nat.le_refl _)] at h
 exact h
def szq (x : Rat) : Nat := if x = 0 then 0 else Je x.num.natAbs + Je x.den
def szL : List Rat → Nat
 | [] => 0
 | x :: X => szq x + szL X
theorem Zqc (x : Rat) : ∀ X : List Rat, szL (X ++ [x]) = szL X + szq x
 | [] => by rw [List.nil_append, szL, szL, szL]; omega
 | y :: X => by rw [List.cons_append, szL, Zqc x X, szL]; omega
theorem Zy8 (X : List Rat) {k : Nat} (h : k < X.length) : szL (X.take (k + 1)) = szL (X.take k) + szq (X.getD k 0) := by
 rw [List.take_add_one, List.getElem?_eq_getElem h]
 simp only [Option.toList_some]
 rw [Zqc]
 simp [List.getD, List.getElem?_eq_getElem h]
theorem Qbw {B : Nat} : ∀ {X : List Rat}, (∀ k, k < X.length → szq (X.getD k 0) ≤ B) → szL X ≤ X.length * B
 | [], _ => by rw [szL]; omega
 | x :: X, h => by
  have h1 := h 0 ss
  have h2 := Qbw (X := X) (fun k hk => by have := h (k + 1) (by simpa using hk); simpa using this)
  rw [szL, List.length_cons, Nat.add_mul]
  have : szq x ≤ B := by simpa using h1
  omega
theorem szq_le {K : Nat} {x : Rat} (h : Jr x ≤ K) : szq x ≤ 64 * K := by
 have h1 := Gy x.num.natAbs
 have h2 := Gy x.den
 unfold Jr Kk at h
 unfold szq
 split <;> omega
theorem Zq0 : ∀ (X : List Rat) (k : Nat), (Zgt X k).Pairwise (fun s t => ¬ same s t) ∧ ∀ t ∈ Zgt X k, k ≤ 13 * t.i + t.j
 | [], _ => ⟨List.Pairwise.nil, fun _ h => nomatch h⟩
 | x :: X, k => by
  obtain ⟨h1, h2⟩ := Zq0 X (k + 1)
  rw [Zgt]
  refine ⟨List.pairwise_cons.2 ⟨fun t ht hs => ?_, h1⟩, fun t ht => ?_⟩
  ·
   have := h2 t ht
   obtain ⟨e1, e2⟩ := hs
   simp only at e1 e2
   rw [← e1, ← e2] at this
   omega
  ·
   rcases List.mem_cons.1 ht with rfl | ht
   · simp only; omega
   · have := h2 t ht; omega
theorem Zzy {l : List Tm} (h : l.Pairwise (fun s t => ¬ same s t)) : (norm l).Perm (l.filter (fun t => decide (t.c ≠ 0))) := by
 obtain ⟨hp, hs⟩ := Zez (l.filter (fun t => decide (t.c ≠ 0)))
 have hN : Nrm ((l.filter (fun t => decide (t.c ≠ 0))).foldr Zy0 []) := by
  refine ⟨fun t ht => ?_, ?_⟩
  ·
   have := hp.mem_iff.1 ht
   rw [List.mem_filter] at this
   simpa using this.2
  ·
   have h1 : (l.filter (fun t => decide (t.c ≠ 0))).Pairwise (fun s t => ¬ same s t) := List.Pairwise.filter _ h
   have hd := (List.Perm.pairwise_iff (fun {x y} h h2 => h ⟨h2.1.symm, h2.2.symm⟩) hp).2 h1
   refine List.Pairwise.imp₂ (fun s t h1 h2 => ?_) hs hd
   rcases h : ltT s t with _ | _
   · exact absurd (Zc0 h h1) h2
   · rfl
 have e : norm l = (l.filter (fun t => decide (t.c ≠ 0))).foldr Zy0 [] := Zfu (Yd l) hN (fun φ => by
  rw [Vj, Zkt φ hp, Zbp])
 rw [e]; exact hp
theorem Zl3 : ∀ (X : List Rat) (k : Nat), Qf ((Zgt X k).filter (fun t => decide (t.c ≠ 0))) = szL X
 | [], _ => rfl
 | x :: X, k => by
  have ih := Zl3 X (k + 1)
  rw [Zgt, List.filter_cons, szL]
  unfold szq
  by_cases h : x = 0
  · rw [if_pos h, if_neg (by simp [h]), ih]; omega
  · rw [if_neg h, if_pos (by simp [h]), Gf, List.map_cons, List.sum_cons, ← Gf, ih]; rfl
theorem Zdh {X : List Rat} {p : List Tm} (he : Eqv (pol X) p) (hp : Nrm p) : szL X = Qf p := by
 have h := Zol (Zzy (Zq0 X 0).1)
 have e : norm (Zgt X 0) = p := (Eqv.eq he).trans (Zd1 hp)
 rw [e] at h
 rw [h, Zl3]
def nmN (s : ByteArray) (k : Nat) : Nat := match Vy s k with | .ok (n, _, _) => n | .error _ => 0
def nmA (s : ByteArray) (k : Nat) : Nat := match Vy s k with | .ok (_, a, _) => a | .error f => f.2
def nmB (s : ByteArray) (k : Nat) : Nat := match Vy s k with | .ok (_, _, b) => b | .error f => f.2
def nmE (s : ByteArray) (k : Nat) : Int := match Vy s k with | .ok _ => 0 | .error f => f.1
def nmI (s : ByteArray) (k : Nat) : Nat := match Vy s k with | .ok _ => 0 | .error f => f.2
theorem Zo0 {s : ByteArray} {k n a b : Nat} (h : Vy s k = .ok (n, a, b)) : nmN s k = n ∧ nmA s k = a ∧ nmB s k = b ∧ nmE s k = 0 ∧ nmI s k = 0 := by
 unfold nmN nmA nmB nmE nmI; rw [h]; exact ⟨rfl, rfl, rfl, rfl, rfl⟩
theorem Zjl {s : ByteArray} {k : Nat} {f : Fa} (h : Vy s k = .error f) : nmN s k = 0 ∧ nmA s k = f.2 ∧ nmB s k = f.2 ∧ nmE s k = f.1 ∧ nmI s k = f.2 := by
 unfold nmN nmA nmB nmE nmI; rw [h]; exact ⟨rfl, rfl, rfl, rfl, rfl⟩
theorem Qdm {s : ByteArray} {k e : Nat} (hk : k ≤ s.size) (h1 : Zm s k ≤ e) (h2 : e ≤ s.size) (hd : ∀ i, Zm s k ≤ i → i < e → Gm (chA s i) = true) (hs : ¬ (e < s.size ∧ Gm (chA s e) = true)) :
  (e = Zm s k → Vy s k = .error (4, Zm s k)) ∧ (e ≠ Zm s k → ∃ b, b = (if chA s (Zm s k) = 48 then Zm s k + 1 else e) ∧ Vy s k = .ok (Vg s (Zm s k) (b - Zm s k), Zm s k, b) ∧ NumOk s k (Vg s (Zm s k) (b - Zm s k)) (Zm s k) b) := by
 refine ⟨fun he => ?_, fun hne => ?_⟩
 ·
  subst he
  have h0 : Gm (Yu s k) = false := by
   unfold Yu
   split
   · rfl
   · rw [Bool.eq_false_iff]; exact fun h => hs ⟨oo, h⟩
  unfold Vy
  simp only [h0, if_true]
 ·
  have hlt : Zm s k < e := oo
  have hnx : Yu s k = chA s (Zm s k) := by unfold Yu; rw [if_neg oo]
  have hdg : Gm (Yu s k) = true := by rw [hnx]; exact hd _ (Nat.le_refl _) hlt
  obtain ⟨g1, g2⟩ := Zq4 hk hdg
  have key : Zds s (Zm s k) (s.size - Zm s k) (Zm s k) = (if chA s (Zm s k) = 48 then Zm s k + 1 else e) := by
   split
   · rename_i h48; exact g2.lead h48
   ·
    rename_i h48
    have run : ∀ n j, e - j ≤ n → Zm s k ≤ j → j ≤ e → Zds s (Zm s k) (s.size - j) j = e := by
     intro n
     induction n with
     | zero =>
      intro j hn hj hje
      have : j = e := oo
      subst this
      exact Gj (fun hh => hs ⟨hh.1, hh.2.1⟩)
     | succ n ih =>
      intro j hn hj hje
      rcases Nat.lt_or_ge j e with h | h
      ·
       rw [← Zar ⟨oo, hd j hj h, .inr h48⟩]
       exact ih (j + 1) oo oo oo
      ·
       have : j = e := oo
       subst this
       exact Gj (fun hh => hs ⟨hh.1, hh.2.1⟩)
    exact run _ _ (Nat.le_refl _) (Nat.le_refl _) oo
  rw [key] at g1 g2
  exact ⟨_, rfl, g1, g2⟩
theorem Zf5 (b1 : Nat) (la : List FT) (ha : Tb 12 6400 (xs la)) : Gn Tryz.prog 102 [.slice (some ⟨b1, 0, none⟩) 169 169] [Row (some ⟨b1, 0, none⟩) (cellsOf Jm la), AllF la] (.int .i64 ((szL (xs la) : Nat) : Int)) := by
 have hsq : ∀ k, k < 169 → szq ((xs la).getD k 0) ≤ 409600 := fun k hk => Nat.le_trans (szq_le (ha.siz hk)) dd
 have hxl : (xs la).length = 169 := ha.len
 have hpart : ∀ k, k ≤ 169 → szL ((xs la).take k) ≤ 169 * 409600 := fun k hk => by
  refine Nat.le_trans (Qbw (B := 409600) (fun j hj => ?_)) ?_
  ·
   rw [List.length_take] at hj
   have e : ((xs la).take k).getD j 0 = (xs la).getD j 0 := by simp [List.getD, List.getElem?_take, show j < k by omega]
   rw [e]; exact hsq j oo
  · rw [List.length_take]; exact Nat.mul_le_mul_right _ oo
 refine fn_intro func102 rfl ntmps102 nb ?_
 intro S w0 a hS h
 refine gC h (zS (za rfl (zn (zS (za rfl (zn (zs (zS (za rfl (zn (zb ?_))))))))))); clear h; intro a w h
 refine Zi (fun (k : Nat) a w => k ≤ 169 ∧ St 34 S w0 [(0, .slice (some ⟨b1, 0, none⟩) 169 169), (2, .int .i64 0), (3, nI (szL ((xs la).take k))), (4, nI k)] [] [Row (some ⟨b1, 0, none⟩) (cellsOf Jm la), AllF la] a w) (fun k => 169 - k) 0 (⟨Nat.zero_le _, by exact (h).sub sA⟩) ?_; clear h
 rintro k a w ⟨hi_k, h⟩
 refine gC h (zs (zS (zm rfl (zm rfl (zp (.builtin [_] rfl (Zmr _ _ _)) (zp (.lss rfl rfl) (zn ?_))))))); clear h; intro a w h
 refine cW ?_
 refine Zb h rfl (fun hc8 => ?_) (fun hc8 => ?_)
 ·
  skip
  have hlt_k : k < 169 := dT hc8
  have hnk := ha.lenl
  have hmk : la.getD k FT0 ∈ la := getD_mem _ oo
  have hzk := ha.sizl (k := k) oo
  replace h := h.derive (R := Row (la.getD k FT0).a2 (List.map Qe (dg ((la.getD k FT0).x.den - 1)))) (fun X hX => AllF.get2 (hX _ mm) hmk)
  replace h := h.derive (R := Row (la.getD k FT0).a1 (List.map Qe (dg (la.getD k FT0).x.num.natAbs))) (fun X hX => AllF.get1 (hX _ mm) hmk)
  have hst := Zy8 (xs la) (k := k) oo
  have hpk := hpart k oo
  refine gC h (zk (zs (zb (zS (zm rfl (zm rfl (zp (.indexAddr rfl rfl (Zbs _ _ _ _ _ oo)) (zD rfl mm (cells_lt (k := 3) dd (fun _ => rfl) la k oo) isAgg164 sizeOf164 (Qn (k := 3) (fun _ => rfl) ((fun _ => rfl)) la FT0 k oo) (.inl rfl) ?_))))))))
  refine zv [_] rfl call105 (Zdd ((la.getD k FT0).x) _ _ _ _) (zp (.neq rfl rfl) ?_); intro a w h
  refine Zg h (fun hc16 h => ?_) (fun hc16 h => ?_)
  ·
   skip
   have hnz : (la.getD k FT0).x ≠ 0 := fun e => by rw [e] at hc16; exact absurd hc16 dd
   have hb1 : Je (la.getD k FT0).x.num.natAbs ≤ 1000000 := by have := Gy (la.getD k FT0).x.num.natAbs; unfold Jr Kk at hzk; omega
   have hb2 : Je (la.getD k FT0).x.den ≤ 1000000 := by have := Gy (la.getD k FT0).x.den; unfold Jr Kk at hzk; omega
   have hfin : szL ((xs la).take (k + 1)) = szL ((xs la).take k) + Je (la.getD k FT0).x.num.natAbs + Je (la.getD k FT0).x.den := by rw [hst, ← Vr]; unfold szq; rw [if_neg hnz]; omega
   have hdd := Nat.le_trans (Yg (show (la.getD k FT0).x.den - 1 ≤ (la.getD k FT0).x.den by omega)) (Zw6 (la.getD k FT0).x.den)
   refine wpList_nil ?_
   refine cW ?_
   refine Zj h rfl ?_
   refine gC h (yD Za [0, 1, 2, 3, 4, 5, 6, 9, 10, 11, 12, 7, 8, 13, 14, 15, 16] (Zf kk) (ym rfl rfl (ym rfl rfl (ym rfl rfl (yp rfl (.indexAddr rfl rfl (Zbs _ _ _ _ _ oo)) (yp rfl (Pure1.cast (v' := .pointer (some ⟨b1, 0 + (k * 3 + 0), none⟩)) (.fA rfl Kq) (by rw [Nat.add_assoc])) (yp rfl (Pure1.cast (v' := .pointer (some ⟨b1, 0 + (k * 3 + 1), none⟩)) (.fA rfl Xh) (by rw [Nat.add_assoc])) ?_))))))); clear h
   refine Qa rfl kk rfl mm (at_lt (k := 3) (enc := Jm) (fun _ => rfl) la k 1 oo dd) isAgg160 sizeOf160 (Qdw (k := 3) (enc := Jm) (fun _ => rfl) la FT0 k oo false 1 1 _ dd dd rfl) (.inr rfl) dd ?_
   refine ym rfl rfl (ym rfl rfl (yp rfl (.indexAddr rfl rfl (Zbs _ _ _ _ _ oo)) ?_))
   refine Qa rfl kk rfl mm (cells_lt (k := 3) dd (fun _ => rfl) la k oo) isAgg164 sizeOf164 (Qn (k := 3) (fun _ => rfl) ((fun _ => rfl)) la FT0 k oo) (.inl rfl) dd ?_
   refine yw [_] rfl rfl call146 (Zpu ((la.getD k FT0).x.num.natAbs) ((la.getD k FT0).a1) ((la.getD k FT0).c1) oo) (yp rfl (.pN ((szL ((xs la).take k)) + (Je ((la.getD k FT0).x.num.natAbs))) (.add rfl rfl)) (yf [_] rfl rfl call149 (Zgi _ _ _ _ ((la.getD k FT0).x) oo) ?_)); rintro v30 Ψ30 ⟨ad30, c30, rfl, hle30, rfl⟩
   refine yw [_] rfl rfl call146 (Zpu (((la.getD k FT0).x).den) ad30 c30 oo) (yp rfl (.pN (((szL ((xs la).take k)) + (Je ((la.getD k FT0).x.num.natAbs))) + (Je (((la.getD k FT0).x).den))) (.add rfl rfl)) (yp rfl (.assign rfl) (yn (zr (zm rfl (zp (.pN (k + 1) (.add rfl rfl)) (za rfl (zn ?_)))))))); intro a w h
   rw [← hfin] at h
   exact ⟨k + 1, ⟨oo, (h.factsSub (by simp)).sub sA⟩, oo⟩
  ·
   skip
   have hz0 : (la.getD k FT0).x = 0 := by rw [← Rat.num_eq_zero]; exact Int.sign_eq_zero_iff_zero.1 (by simpa using hc16)
   have hfin : szL ((xs la).take (k + 1)) = szL ((xs la).take k) := by rw [hst, ← Vr, hz0]; rfl
   refine wpList_nil ?_
   refine cW ?_
   refine Ze h rfl ?_
   refine gC h (zk (zr (zm rfl (zp (.pN (k + 1) (.add rfl rfl)) (za rfl (zn ?_)))))); clear h; intro a w h
   rw [← hfin] at h
   exact ⟨k + 1, ⟨oo, (h.factsSub (by simp)).sub sA⟩, oo⟩
 ·
  skip
  have heq_k : 169 = k := dF hc8
  subst heq_k
  refine gC h (ze (zS (zm rfl (za rfl (zn (zt ?_)))))); clear h; intro a w h
  refine Jk h (Zd h rfl (.tmp rfl)) ?_
  rw [show (xs la).take 169 = xs la from List.take_of_length_le oo]
end
section
theorem Xw (x0 : Int) (x1 : Int) (w : World) : (Instr.build 68 [(0, .int .i64 x0), (1, .int .i64 x1)].toArray).run Tryz.prog w = .ok (.agg #[.int .i64 x0, .int .i64 x1]) w := by simp [go_sem]
theorem Zd8 (w : World) : (Instr.build 68 [].toArray).run Tryz.prog w = .ok (.agg #[.int .i64 0, .int .i64 0]) w := by simp [go_sem]
def resV (a : Act) : ResultVar → Sem Value
 | .tmp t => pure (a.tmps.getD t undef)
 | .cell x t => do loadVar t (← asAddr (a.tmps.getD x undef))
theorem results4 {P : Program} {n : Nat} {S : Nat → Prop} {w0 : World} {L : List (Nat × Value)} {σ : List (Nat × Obj)} {Φ : List Zp} {a : Act} {w : World} (h : St n S w0 L σ Φ a w) {fn : Func} {r1 r2 r3 r4 : ResultVar} {v1 v2 v3 v4 : Value} (hr : fn.results = #[r1, r2, r3, r4]) (h1 : ResIs P L σ r1 v1) (h2 : ResIs P L σ r2 v2) (h3 : ResIs P L σ r3 v3) (h4 : ResIs P L σ r4 v4) :
  (results fn a.tmps).run P w = .ok (.tuple #[v1, v2, v3, v4]) w := by
 have key : ∀ {r : ResultVar} {v : Value}, ResIs P L σ r v → (resV a r).run P w = .ok v w := fun {r v} hh => by
  have := hh.run h
  cases r <;> exact this
 have e1 := key h1
 have e2 := key h2
 have e3 := key h3
 have e4 := key h4
 rw [show (results fn a.tmps) = (do
   let x ← resV a r1
   let y ← resV a r2
   let z ← resV a r3
   let u ← resV a r4
   pure (.tuple #[x, y, z, u])) from by cases r1 <;> cases r2 <;> cases r3 <;> cases r4 <;> simp [results, hr, resV]]
 simp only [Sem.run_bind, e1, e2, e3, e4, Result.andThen]
 rfl
def Zx0 (s : ByteArray) (k : Nat) (v : Value) (Ψ : List Zp) : Prop := ∃ ad c, v = .tuple #[.slice ad (dg (nmN s k)).length c, .int .i64 ((nmA s k : Nat) : Int), .int .i64 ((nmB s k : Nat) : Int), .agg #[.int .i64 (nmE s k), .int .i64 ((nmI s k : Nat) : Int)]] ∧ (dg (nmN s k)).length ≤ c ∧ Ψ = [Row ad (List.map Qe (dg (nmN s k)))]
theorem Zs6 {s : ByteArray} {k i : Nat} {e : Int} (h : Vy s k = .error (e, i)) : Zx0 s k (.tuple #[.slice none 0 0, .int .i64 ((i : Nat) : Int), .int .i64 ((i : Nat) : Int), .agg #[.int .i64 e, .int .i64 ((i : Nat) : Int)]]) [Row none []] := by
 obtain ⟨z1, z2, z3, z4, z5⟩ := Zjl h
 exact ⟨none, 0, by rw [z1, z2, z3, z4, z5, Qv]; rfl, by rw [z1, Qv]; exact Nat.le_refl _, by rw [z1, Qv]; rfl⟩
theorem Zvt {s : ByteArray} {k n a b : Nat} {ad : Option Addr} {c : Nat} (h : Vy s k = .ok (n, a, b)) (hc : (dg n).length ≤ c) : Zx0 s k (.tuple #[.slice ad (dg n).length c, .int .i64 ((a : Nat) : Int), .int .i64 ((b : Nat) : Int), .agg #[.int .i64 0, .int .i64 0]]) [Row ad (List.map Qe (dg n))] := by
 obtain ⟨z1, z2, z3, z4, z5⟩ := Zo0 h
 exact ⟨ad, c, by rw [z1, z2, z3, z4, z5]; rfl, by rw [z1]; exact hc, by rw [z1]⟩
theorem Zyf (s : ByteArray) (k : Nat) (hk : k ≤ s.size) (hs : s.size ≤ 4096) : Ctr Tryz.prog 145 [.string s, .int .i64 ((k : Nat) : Int)] [] (Zx0 s k) := by
 have hbl := Ja hk
 refine fn_intro func145 rfl ntmps145 nb ?_
 intro S w0 a hS h
 refine gC h (zS (za rfl (za rfl (za rfl (zz Gv fun b7 => zn (zS (zm rfl (zm rfl (zv [_, _] rfl call64 (Gl s k hk hs) (za rfl (zn (zS (zm rfl (za rfl (zn ?_))))))))))))))); clear h; intro a w h
 refine cW ?_
 refine Xu (fun a w => ∃ e : Nat, (Zm s k ≤ e ∧ e ≤ s.size ∧ (∀ i, Zm s k ≤ i → i < e → Gm (chA s i) = true) ∧ ¬ (e < s.size ∧ Gm (chA s e) = true)) ∧ St 59 S w0 [(0, .string s), (7, pB b7), (8, nI (Zm s k)), (9, nI e)] [(b7, .cells (Zdr (0, 0)).cells 68 (0, 0))] [] a w) ?_ ?_
 ·
  skip
  refine wp_block ?_
  refine Zi (fun (e : Nat) a w => (Zm s k ≤ e ∧ e ≤ s.size ∧ ∀ i, Zm s k ≤ i → i < e → Gm (chA s i) = true) ∧ St 59 S w0 [(0, .string s), (4, .slice none 0 0), (5, .int .i64 0), (6, .int .i64 0), (7, pB b7), (8, nI (Zm s k)), (9, nI e), (15, nI (Zm s k))] [(b7, bV (Zdr ((0, 0))) 68)] [] a w) (fun e => s.size - e) (Zm s k) (⟨⟨Nat.le_refl _, hbl, fun i h1 h2 => by omega⟩, by exact h.sub sA⟩) ?_; clear h
  rintro e a w ⟨⟨he0, he1, hed⟩, h⟩
  refine gC h (zs (zS (zm rfl (zm rfl (zp (.builtin [_] rfl (Zt _)) (zp (.lss rfl rfl) ?_)))))); clear h; intro a w h
  refine Zg h (fun hc19 h => ?_) (fun hc19 h => ?_)
  ·
   skip
   have hlt : e < s.size := dT hc19
   refine gL h (zm rfl (zq 20 rfl rfl (.move rfl) (zq 20 rfl rfl (.move rfl) (zq 20 rfl rfl (Pure1.cast (v' := .int .u8 ((chA s e : Nat) : Int)) (.index rfl rfl (fun _ => Zu runUnderlying9 _ _ oo)) (by rfl)) (zq 20 rfl rfl (.geq rfl rfl) ?_))))); clear h; intro a w h
   refine Zg h (fun hc24 h => ?_) (fun hc24 h => ?_)
   ·
    skip
    have g1 : 48 ≤ chA s e := dT hc24
    refine gL h (zp (.pickT rfl rfl) (zm rfl (zq 26 rfl rfl (.move rfl) (zq 26 rfl rfl (.move rfl) (zq 26 rfl rfl (Pure1.cast (v' := .int .u8 ((chA s e : Nat) : Int)) (.index rfl rfl (fun _ => Zu runUnderlying9 _ _ oo)) (by rfl)) (zq 26 rfl rfl (.leq rfl rfl) ?_)))))); clear h; intro a w h
    refine Zg h (fun hc30 h => ?_) (fun hc30 h => ?_)
    ·
     skip
     have g2 : chA s e ≤ 57 := dT hc30
     refine gL h (zp (.pickT rfl rfl) (zn ?_)); clear h; intro a w h
     refine cW ?_
     refine Zj h rfl ?_
     refine gC h (zk (zb (zr (zm rfl (zp (.pN (e + 1) (.add rfl rfl)) (za rfl (zn ?_))))))); clear h; intro a w h
     exact ⟨e + 1, ⟨⟨oo, oo, fun i h1 h2 => by
      by_cases hie : i = e
      · subst hie; unfold Gm; rw [Bool.and_eq_true, decide_eq_true_eq, decide_eq_true_eq]; omega
      · exact hed i h1 oo⟩, by exact h.sub sA⟩, oo⟩
    ·
     skip
     have hst : ¬ (e < s.size ∧ Gm (chA s e) = true) := fun hh => by
      have h1 := of_decide_eq_false hc30
      have h2 := hh.2
      unfold Gm at h2
      rw [Bool.and_eq_true, decide_eq_true_eq, decide_eq_true_eq] at h2; omega
     refine gL h (zp (.pickT rfl rfl) (zn ?_)); clear h; intro a w h
     refine cW ?_
     refine Ze h rfl ?_
     refine wp_exit ?_
     exact ⟨e, ⟨he0, he1, hed, hst⟩, h.sub sA⟩
   ·
    skip
    have hst : ¬ (e < s.size ∧ Gm (chA s e) = true) := fun hh => by
     have h1 := of_decide_eq_false hc24
     have h2 := hh.2
     unfold Gm at h2
     rw [Bool.and_eq_true, decide_eq_true_eq, decide_eq_true_eq] at h2; omega
    refine gL h (zp (.pickT rfl rfl) (zm rfl (zo 26 rfl rfl rfl (zo 26 rfl rfl rfl (zo 26 rfl rfl rfl (zo 26 rfl rfl rfl (zp (.pickF rfl rfl) (zn ?_)))))))); clear h; intro a w h
    refine cW ?_
    refine Ze h rfl ?_
    refine wp_exit ?_
    exact ⟨e, ⟨he0, he1, hed, hst⟩, h.sub sA⟩
  ·
   skip
   have hst : ¬ (e < s.size ∧ Gm (chA s e) = true) := fun hh => by have := of_decide_eq_false hc19; omega
   refine gL h (zm rfl (zo 20 rfl rfl rfl (zo 20 rfl rfl rfl (zo 20 rfl rfl rfl (zo 20 rfl rfl rfl (zp (.pickF rfl rfl) (zm rfl (zo 26 rfl rfl rfl (zo 26 rfl rfl rfl (zo 26 rfl rfl rfl (zo 26 rfl rfl rfl (zp (.pickF rfl rfl) (zn ?_))))))))))))); clear h; intro a w h
   refine cW ?_
   refine Ze h rfl ?_
   refine wp_exit ?_
   exact ⟨e, ⟨he0, he1, hed, hst⟩, h.sub sA⟩
 ·
  skip
  clear h
  rintro a w ⟨e, ⟨he0, he1, hed, hst⟩, h⟩
  have hrun := Qdm hk he0 he1 hed hst
  refine gC h (zs (zS (zm rfl (zm rfl (zp (.eql rfl rfl) ?_))))); clear h; intro a w h
  refine Zg h (fun hc36 h => ?_) (fun hc36 h => ?_)
  ·
   skip
   have hee : e = Zm s k := by have := eq_of_beq hc36; omega
   have hn := hrun.1 hee
   refine wpList_nil ?_
   refine cW ?_
   refine Zj h rfl ?_
   refine gC h (zS (zm rfl (zm rfl (zm rfl (zp (.build [(_, _), (_, _)] rfl (Xw _ _)) (za rfl (za rfl (za rfl (zt' rfl rfl Zl uu sizeOf68 rfl nb rfl ?_))))))))); clear h; intro a w h
   refine wpList_nil (wp_ret ?_)
   replace h := h.derive (R := Row none []) (fun X hX hne => absurd rfl hne)
   exact Zy h (results4 h rfl (.tmp rfl) (.tmp rfl) (.tmp rfl) (.cell rfl mr isAgg68 sizeOf68 Zh)) (Zs6 hn) ss
  ·
   skip
   have hee : e ≠ Zm s k := fun e9 => by rw [e9] at hc36; simp at hc36
   obtain ⟨b, hb, hn, hN⟩ := hrun.2 hee
   refine wpList_nil ?_
   refine cW ?_
   refine Ze h rfl ?_
   refine gC h (zk (zs (zS (zm rfl (zm rfl (zp (Pure1.cast (v' := .int .u8 ((chA s (Zm s k) : Nat) : Int)) (.index rfl rfl (fun _ => Zu runUnderlying9 _ _ oo)) (by rfl)) (zp (.eql rfl rfl) ?_))))))); clear h; intro a w h
   refine Zg h (fun hc44 h => ?_) (fun hc44 h => ?_)
   focus
    have h48 : chA s (Zm s k) = 48 := by have := eq_of_beq hc44; omega
    rw [if_pos h48] at hb
    subst hb
    refine wpList_nil ?_
    refine cW ?_
    refine Zj h rfl ?_
    refine gC h (zr (zm rfl (zp (.pN ((Zm s k) + 1) (.add rfl rfl)) (za rfl (zn (zS (zm rfl (zm rfl (zm rfl (zp (.slice rfl (some _) (some _) none rfl rfl rfl (Zuz _ _ _ oo oo)) (zf [_] rfl call193 (Znz s (Zm s k) ((Zm s k) + 1) hN.lt hN.le hs hN.dig hN.lead) ?_))))))))))); clear h; rintro v52 Ψ52 ⟨ad52, c52, rfl, hle52, rfl⟩ a w h
   rotate_left
   focus
    have h48 : ¬ chA s (Zm s k) = 48 := fun e9 => by rw [e9] at hc44; exact absurd hc44 dd
    rw [if_neg h48] at hb
    replace hb := hb.symm
    subst hb
    refine wpList_nil ?_
    refine cW ?_
    refine Ze h rfl ?_
    refine gC h (zk (zS (zm rfl (zm rfl (zm rfl (zp (.slice rfl (some _) (some _) none rfl rfl rfl (Zuz _ _ _ oo oo)) (zf [_] rfl call193 (Znz s (Zm s k) e hN.lt hN.le hs hN.dig hN.lead) ?_))))))); clear h; rintro v52 Ψ52 ⟨ad52, c52, rfl, hle52, rfl⟩ a w h
   all_goals
    refine gL h (zm rfl (zp (.eX rfl) (zp (.eX rfl) (za rfl (za rfl (zn (zS (zm rfl (zm rfl (zm rfl (zp (.build [] rfl (Zd8)) (za rfl (za rfl (za rfl (zt' rfl rfl Zl uu sizeOf68 rfl nb rfl ?_))))))))))))))); clear h; intro a w h
    refine wpList_nil (wp_ret ?_)
    exact Zy h (results4 h rfl (.tmp rfl) (.tmp rfl) (.tmp rfl) (.cell rfl mr isAgg68 sizeOf68 Zh)) (Zvt hn hle52) ss
end
section
theorem Zcd {b off : Nat} (w : World) : (Instr.fieldAt 68 (.pointer (some ⟨b, off, none⟩)) 0).run Tryz.prog w = .ok (.pointer (some ⟨b, off + 0, none⟩)) w := by
 simp [go_sem]
def rcE (r : Except Fa (List Tm × Nat)) : Int := match r with | .ok _ => 0 | .error f => f.1
def rcI (r : Except Fa (List Tm × Nat)) : Nat := match r with | .ok _ => 0 | .error f => f.2
structure RelR (s : ByteArray) (r : Except Fa (List Tm × Nat)) (l : List FT) (k' : Nat) : Prop where
 len : l.length = 169
 le : k' ≤ s.size
 ok : ∀ p k, r = .ok (p, k) → Eqv (pol (xs l)) p ∧ Gd p ∧ k' ≤ s.size ∧ k ≤ s.size ∧ Zm s k' = Zm s k
 cod : ∀ f, r = .error f → Cod f.1
def Zcm (s : ByteArray) (r : Except Fa (List Tm × Nat)) (v : Value) (Ψ : List Zp) : Prop :=
 ∃ b l k', v = .tuple #[.slice (some ⟨b, 0, none⟩) 169 169, .int .i64 ((k' : Nat) : Int), .agg #[.int .i64 (rcE r), .int .i64 ((rcI r : Nat) : Int)]] ∧ RelR s r l k' ∧ Ψ = [Row (some ⟨b, 0, none⟩) (cellsOf Jm l), AllF l]
theorem Xo {s : ByteArray} {r : Except Fa (List Tm × Nat)} {e : Int} {i b k' : Nat} {l : List FT} (h : r = .error (e, i)) (hl : l.length = 169) (hc : Cod e) (hle : k' ≤ s.size) : Zcm s r (.tuple #[.slice (some ⟨b, 0, none⟩) 169 169, .int .i64 ((k' : Nat) : Int), .agg #[.int .i64 e, .int .i64 ((i : Nat) : Int)]]) [Row (some ⟨b, 0, none⟩) (cellsOf Jm l), AllF l] := by
 subst h
 exact ⟨b, l, k', rfl, ⟨hl, hle, (fun p k h => by cases h), fun f h => by cases h; exact hc⟩, rfl⟩
theorem Zak {s : ByteArray} {r r2 : Except Fa (List Tm × Nat)} {b k' : Nat} {l : List FT} {f : Fa} (h2 : r2 = .error f) (h : r = .error f) (hl : l.length = 169) (hc : Cod f.1) (hle : k' ≤ s.size) : Zcm s r (.tuple #[.slice (some ⟨b, 0, none⟩) 169 169, .int .i64 ((k' : Nat) : Int), .agg #[.int .i64 (rcE r2), .int .i64 ((rcI r2 : Nat) : Int)]]) [Row (some ⟨b, 0, none⟩) (cellsOf Jm l), AllF l] := by
 subst h; subst h2
 exact ⟨b, l, k', rfl, ⟨hl, hle, (fun p k h => by cases h), fun g h => by cases h; exact hc⟩, rfl⟩
theorem Zal {s : ByteArray} {r : Except Fa (List Tm × Nat)} {p : List Tm} {k b k' : Nat} {l : List FT} (h : r = .ok (p, k)) (hl : l.length = 169) (he : Eqv (pol (xs l)) p) (hg : Gd p) (h1 : k' ≤ s.size) (h2 : k ≤ s.size) (h3 : Zm s k' = Zm s k) : Zcm s r (.tuple #[.slice (some ⟨b, 0, none⟩) 169 169, .int .i64 ((k' : Nat) : Int), .agg #[.int .i64 0, .int .i64 0]]) [Row (some ⟨b, 0, none⟩) (cellsOf Jm l), AllF l] := by
 subst h
 exact ⟨b, l, k', rfl, ⟨hl, h1, (fun q m h => by cases h; exact ⟨he, hg, h1, h2, h3⟩), fun f h => by cases h⟩, rfl⟩
theorem Zjf {s : ByteArray} {r r2 : Except Fa (List Tm × Nat)} {p q : List Tm} {k m b k' : Nat} {l : List FT} (hr2 : r2 = .ok (q, m)) (h : r = .ok (p, k)) (hl : l.length = 169) (he : Eqv (pol (xs l)) p) (hg : Gd p) (h1 : k' ≤ s.size) (h2 : k ≤ s.size) (h3 : Zm s k' = Zm s k) : Zcm s r (.tuple #[.slice (some ⟨b, 0, none⟩) 169 169, .int .i64 ((k' : Nat) : Int), .agg #[.int .i64 (rcE r2), .int .i64 ((rcI r2 : Nat) : Int)]]) [Row (some ⟨b, 0, none⟩) (cellsOf Jm l), AllF l] := by
 subst hr2
 exact Zal h hl he hg h1 h2 h3
theorem Zmd {s : ByteArray} {r : Except Fa (List Tm × Nat)} {b k k' : Nat} {l : List FT} {f : Fa} (hn : Vy s k = .error f) (h : r = .error f) (hl : l.length = 169) (hle : k' ≤ s.size) : Zcm s r (.tuple #[.slice (some ⟨b, 0, none⟩) 169 169, .int .i64 ((k' : Nat) : Int), .agg #[.int .i64 (nmE s k), .int .i64 ((nmI s k : Nat) : Int)]]) [Row (some ⟨b, 0, none⟩) (cellsOf Jm l), AllF l] := by
 obtain ⟨z1, z2, z3, z4, z5⟩ := Zjl hn
 rw [z4, z5]
 have := (Zgw hn).1
 subst this
 exact Xo h hl (.inr (.inl rfl)) hle
theorem Zhj {l : List FT} {p : List Tm} (hl : l.length = 169) (he : Eqv (pol (xs l)) p) (hg : Gd p) : Tb 12 6400 (xs l) := Tb.of_eqv (by rw [Zha]; exact hl) he hg.pq.deg hg.pq.hgt
theorem Qdc {l : List FT} {p : List Tm} {d K : Nat} (hl : l.length = 169) (he : Eqv (pol (xs l)) p) (hq : Pq d K p) : Tb d K (xs l) := Tb.of_eqv (by rw [Zha]; exact hl) he hq.deg hq.hgt
theorem dg_ten {n m K : Nat} (h : n < 10 ^ m) (hm : m ≤ 4 * K) : (dg n).length ≤ K := by
 refine Vf (Nat.lt_of_lt_of_le h ?_)
 rw [show (10000 : Nat) = 10 ^ 4 from rfl, ← Nat.pow_mul]
 exact Nat.pow_le_pow_right dd hm
theorem nm_dg {s : ByteArray} {k : Nat} (hk : k ≤ s.size) (hs : s.size ≤ 4096) : (dg (nmN s k)).length ≤ 1024 := by
 rcases hn : Vy s k with f | ⟨n, a, b⟩
 · rw [(Zjl hn).1, Qv]; exact Nat.zero_le _
 ·
  rw [(Zo0 hn).1]
  have hN := Gr hk hn
  have h1 := hN.lt10
  have h2 := hN.le
  exact dg_ten h1 oo
theorem Zs5 {r : Except Fa (List Tm × Nat)} (h : rcE r = 0) (hc : ∀ f, r = .error f → Cod f.1) : ∃ p k, r = .ok (p, k) := by
 rcases r with f | ⟨p, k⟩
 ·
  have := hc f rfl
  unfold rcE Cod at *
  simp only at h
  omega
 · exact ⟨p, k, rfl⟩
theorem Zjd {r : Except Fa (List Tm × Nat)} (h : rcE r ≠ 0) : ∃ f, r = .error f := by
 rcases r with f | ⟨p, k⟩
 · exact ⟨f, rfl⟩
 · exact absurd rfl h
theorem Zoz {m : Nat} (hm : m < 169) (e : FT) : Eqv (pol (xs ((List.replicate 169 FT0).set m e))) [⟨m / 13, m % 13, e.x⟩] := fun φ => by
 rw [Zlq, Zdx, Zao φ _ (by simpa using hm), Xz, Zz7, Zfx]
 have : (List.replicate 169 (0 : Rat)).getD m 0 = 0 := by
  rw [List.getD, List.getElem?_replicate, if_pos hm]; rfl
 rw [this]; grind
theorem Zm4 (n : Nat) {c : Nat} (h : (dg n).length ≤ c) : (dg ((n : Int) : Rat).num.natAbs).length ≤ c ∧ (dg (((n : Int) : Rat).den - 1)).length ≤ 0 := by
 rw [Rat.num_intCast, Rat.den_intCast, Int.natAbs_natCast, Nat.sub_self, Qv]; exact ⟨h, Nat.le_refl _⟩
theorem Zzp {s : ByteArray} {ins : Ins} {k b : Nat} {e : FT} (hk : k ≤ s.size) (hs : s.size ≤ 4096) (h0 : Zn s 120 k = false) (h1 : Zn s 121 k = false) (h2 : Zn s 40 k = false) (he : e.x = ((nmN s k : Int) : Rat)) : Zcm s (Vq s ins k) (.tuple #[.slice (some ⟨b, 0, none⟩) 169 169, .int .i64 ((nmB s k : Nat) : Int), .agg #[.int .i64 (nmE s k), .int .i64 ((nmI s k : Nat) : Int)]]) [Row (some ⟨b, 0, none⟩) (cellsOf Jm ((List.replicate 169 FT0).set 0 e)), AllF ((List.replicate 169 FT0).set 0 e)] := by
 have hl : ((List.replicate 169 FT0).set 0 e).length = 169 := by rw [List.length_set, List.length_replicate]
 rcases hn : Vy s k with ⟨fe, fi⟩ | ⟨n, a, c⟩
 ·
  obtain ⟨z1, z2, z3, z4, z5⟩ := Zjl hn
  rw [z3, z4, z5]
  have := (Zgw hn).1
  have hfi : fi = Zm s k := by cases this; rfl
  exact Xo (Zjx h0 h1 h2 hn) hl (by cases this; exact .inr (.inl rfl)) (by rw [hfi]; exact Ja hk)
 ·
  obtain ⟨z1, z2, z3, z4, z5⟩ := Zo0 hn
  have hN := Gr hk hn
  rw [z3, z4, z5]
  refine Zal (Zns h0 h1 h2 hn) hl ?_ (Gd.num hN hs) hN.le hN.le rfl
  have h9 := Zoz (show 0 < 169 by decide) e
  rw [he, z1] at h9
  exact h9.trans (Eqv.nrm _).symm
theorem nm_blk (s : ByteArray) (k : Nat) : nmN s (Zm s k) = nmN s k ∧ nmB s (Zm s k) = nmB s k ∧ nmE s (Zm s k) = nmE s k ∧ nmI s (Zm s k) = nmI s k := by
 unfold nmN nmB nmE nmI; rw [Zgx]; exact ⟨rfl, rfl, rfl, rfl⟩
def SumR (s : ByteArray) (f : Nat → Except Fa (List Tm × Nat)) (o : Nat) : Prop := ∀ k, k ≤ s.size → Ctr Tryz.prog 63 [.string s, .int .i64 ((k : Nat) : Int), .int .i64 ((o : Nat) : Int)] [] (Zcm s (f k))
def InsR (s : ByteArray) (ins : Ins) (o : Nat) : Prop := (o = 32 ∧ ins = none) ∨ (o < 32 ∧ ∃ f, ins = some f ∧ SumR s f (o + 1))
set_option maxHeartbeats 1000000 in
theorem Qfx (s : ByteArray) (ins : Ins) (k o : Nat) (hk : k ≤ s.size) (hs : s.size ≤ 4096) (hI : InsR s ins o) : Ctr Tryz.prog 190 [.string s, .int .i64 ((k : Nat) : Int), .int .i64 ((o : Nat) : Int)] [] (Zcm s (Vq s ins k)) := by
 have hbl := Ja hk
 have ho32 : o ≤ 32 := by rcases hI with h | h <;> omega
 refine fn_intro func190 rfl ntmps190 nb ?_
 intro S w0 a hS h
 refine gC h (zS (za rfl (za rfl (zz Gv fun b8 => zn (zS (zm rfl (zm rfl (zv [_, _] rfl call64 (Gl s k hk hs) (za rfl (zn (zS ?_))))))))))); clear h; intro a w h
 refine Zc (Jw h (vs := []) rfl call62 (Zbf) ss dd ?_); clear h; rintro v20 σ20 a w ⟨b20, rfl, rfl⟩ h
 replace h := h.derive (R := AllF (List.replicate 169 FT0)) (fun X hX => AllF.zeros 169 X _)
 refine gL h (za rfl (zn (zs (zb (zS (zm rfl (zm rfl (zv [_, _, _] rfl call100 (Zfe s (Zm s k) 120 oo hs) ?_)))))))); clear h; intro a w h
 refine Zg h (fun hc24 h => ?_) (fun hc24 h => ?_)
 ·
  skip
  have ht120 : Zn s 120 k = true := by rw [Qt hk]; exact hc24
  refine gL h (za rfl (zn ?_)); clear h; intro a w h
  refine cW ?_
  refine Zj h rfl ?_
  refine gC h (zS (zm rfl (zf [_] rfl call99 (Zff 1 oo oo) ?_))); rintro v26 Ψ26 ⟨ad26, c26, bd26, d26, rfl, hle26, hlf26, rfl⟩
  have hl26 := Jp 1 oo oo
  refine zp (.indexAddr rfl rfl (Zbs _ _ _ _ 13 oo)) (zt' (b := b20) (cs := (cellsOf Jm (List.replicate 169 FT0)).toArray) (cs' := (cellsOf Jm ((List.replicate 169 FT0).set 13 (FT.mk (((1 : Int) : Rat)) ad26 c26 bd26 d26 hle26 hlf26))).toArray) (v := Jm (FT.mk (((1 : Int) : Rat)) ad26 c26 bd26 d26 hle26 hlf26)) rfl rfl (Ku (k := 3) (fun _ => rfl) (List.replicate 169 FT0) 13 (by simp only [List.length_replicate]; omega) (FT.mk (((1 : Int) : Rat)) ad26 c26 bd26 d26 hle26 hlf26)) uu sizeOf164 rfl (Za5 (k := 3) (fun _ => rfl) (List.replicate 169 FT0) 13 (by simp only [List.length_replicate]; omega)) rfl ?_)
  refine zn (zS (zm rfl (zm rfl (zp (.pN ((Zm s k) + 1) (.add rfl rfl)) (zp (.build [] rfl (Zd8)) (za rfl (za rfl (zt' rfl rfl Zl uu sizeOf68 rfl nb rfl ?_)))))))); intro a w h
  refine wpList_nil (wp_ret ?_)
  replace h := h.derive (R := AllF ((List.replicate 169 FT0).set 13 (FT.mk (((1 : Int) : Rat)) ad26 c26 bd26 d26 hle26 hlf26))) (fun X hX => AllF.set (hX _ mm) (hX _ mm) (hX _ mm))
  replace h := h.shareAll hS (cellsOf Jm ((List.replicate 169 FT0).set 13 (FT.mk (((1 : Int) : Rat)) ad26 c26 bd26 d26 hle26 hlf26))) rfl
  have hL : ((List.replicate 169 FT0).set 13 (FT.mk (((1 : Int) : Rat)) ad26 c26 bd26 d26 hle26 hlf26)).length = 169 := by rw [List.length_set, List.length_replicate]
  exact Zy h (Qz h rfl (.tmp rfl) (.tmp rfl) (.cell rfl mr isAgg68 sizeOf68 Zh)) (Ψ := [Row (some ⟨b20, 0, none⟩) (cellsOf Jm ((List.replicate 169 FT0).set 13 (FT.mk (((1 : Int) : Rat)) ad26 c26 bd26 d26 hle26 hlf26))), AllF ((List.replicate 169 FT0).set 13 (FT.mk (((1 : Int) : Rat)) ad26 c26 bd26 d26 hle26 hlf26))]) (Zal (Zxs ht120) hL (Zoz dd _) Gd.x (by have := Zz hk ht120; omega) (by have := Zz hk ht120; omega) rfl) ss
 ·
  skip
  have ht120 : Zn s 120 k = false := by rw [Qt hk]; exact hc24
  refine gL h (za rfl (zn ?_)); clear h; intro a w h
  refine cW ?_
  refine Ze h rfl ?_
  refine gC h (zS (zm rfl (zm rfl (zv [_, _, _] rfl call100 (Zfe s (Zm s k) 121 oo hs) ?_)))); clear h; intro a w h
  refine Zg h (fun hc35 h => ?_) (fun hc35 h => ?_)
  ·
   skip
   have ht121 : Zn s 121 k = true := by rw [Qt hk]; exact hc35
   refine gL h (za rfl (zn ?_)); clear h; intro a w h
   refine cW ?_
   refine Zj h rfl ?_
   refine gC h (zS (zm rfl (zf [_] rfl call99 (Zff 1 oo oo) ?_))); rintro v37 Ψ37 ⟨ad37, c37, bd37, d37, rfl, hle37, hlf37, rfl⟩
   have hl37 := Jp 1 oo oo
   refine zp (.indexAddr rfl rfl (Zbs _ _ _ _ 1 oo)) (zt' (b := b20) (cs := (cellsOf Jm (List.replicate 169 FT0)).toArray) (cs' := (cellsOf Jm ((List.replicate 169 FT0).set 1 (FT.mk (((1 : Int) : Rat)) ad37 c37 bd37 d37 hle37 hlf37))).toArray) (v := Jm (FT.mk (((1 : Int) : Rat)) ad37 c37 bd37 d37 hle37 hlf37)) rfl rfl (Ku (k := 3) (fun _ => rfl) (List.replicate 169 FT0) 1 (by simp only [List.length_replicate]; omega) (FT.mk (((1 : Int) : Rat)) ad37 c37 bd37 d37 hle37 hlf37)) uu sizeOf164 rfl (Za5 (k := 3) (fun _ => rfl) (List.replicate 169 FT0) 1 (by simp only [List.length_replicate]; omega)) rfl ?_)
   refine zn (zS (zm rfl (zm rfl (zp (.pN ((Zm s k) + 1) (.add rfl rfl)) (zp (.build [] rfl (Zd8)) (za rfl (za rfl (zt' rfl rfl Zl uu sizeOf68 rfl nb rfl ?_)))))))); intro a w h
   refine wpList_nil (wp_ret ?_)
   replace h := h.derive (R := AllF ((List.replicate 169 FT0).set 1 (FT.mk (((1 : Int) : Rat)) ad37 c37 bd37 d37 hle37 hlf37))) (fun X hX => AllF.set (hX _ mm) (hX _ mm) (hX _ mm))
   replace h := h.shareAll hS (cellsOf Jm ((List.replicate 169 FT0).set 1 (FT.mk (((1 : Int) : Rat)) ad37 c37 bd37 d37 hle37 hlf37))) rfl
   have hL : ((List.replicate 169 FT0).set 1 (FT.mk (((1 : Int) : Rat)) ad37 c37 bd37 d37 hle37 hlf37)).length = 169 := by rw [List.length_set, List.length_replicate]
   exact Zy h (Qz h rfl (.tmp rfl) (.tmp rfl) (.cell rfl mr isAgg68 sizeOf68 Zh)) (Ψ := [Row (some ⟨b20, 0, none⟩) (cellsOf Jm ((List.replicate 169 FT0).set 1 (FT.mk (((1 : Int) : Rat)) ad37 c37 bd37 d37 hle37 hlf37))), AllF ((List.replicate 169 FT0).set 1 (FT.mk (((1 : Int) : Rat)) ad37 c37 bd37 d37 hle37 hlf37))]) (Zal (Zxr ht120 ht121) hL (Zoz dd _) Gd.y (by have := Zz hk ht121; omega) (by have := Zz hk ht121; omega) rfl) ss
  ·
   skip
   have ht121 : Zn s 121 k = false := by rw [Qt hk]; exact hc35
   refine gL h (za rfl (zn ?_)); clear h; intro a w h
   refine cW ?_
   refine Ze h rfl ?_
   refine gC h (zS (zm rfl (zm rfl (zv [_, _, _] rfl call100 (Zfe s (Zm s k) 40 oo hs) ?_)))); clear h; intro a w h
   refine Zg h (fun hc46 h => ?_) (fun hc46 h => ?_)
   ·
    skip
    have ht40 : Zn s 40 k = true := by rw [Qt hk]; exact hc46
    refine gL h (zm rfl (zq 47 rfl rfl (.move rfl) (zq 47 rfl rfl (.eql rfl rfl) ?_))); clear h; intro a w h
    refine Zg h (fun hc49 h => ?_) (fun hc49 h => ?_)
    ·
     skip
     have ho : o = 32 := by have := eq_of_beq hc49; omega
     have hin : ins = none := by rcases hI with h | h; exact h.2; omega
     refine gL h (zp (.pickT rfl rfl) (za rfl (zn ?_))); clear h; intro a w h
     refine cW ?_
     refine Zj h rfl ?_
     refine gC h (zS (zm rfl (zm rfl (zm rfl (zp (.build [(_, _), (_, _)] rfl (Xw _ _)) (za rfl (za rfl (zt' rfl rfl Zl uu sizeOf68 rfl nb rfl ?_)))))))); clear h; intro a w h
     refine wpList_nil (wp_ret ?_)
     replace h := h.shareAll hS (cellsOf Jm (List.replicate 169 FT0)) rfl
     exact Zy h (Qz h rfl (.tmp rfl) (.tmp rfl) (.cell rfl mr isAgg68 sizeOf68 Zh)) (Ψ := [Row (some ⟨b20, 0, none⟩) (cellsOf Jm (List.replicate 169 FT0)), AllF (List.replicate 169 FT0)]) (Xo (by rw [Zg5 ht120 ht121 ht40, hin]; rfl) List.length_replicate (by unfold Cod; decide) hbl) ss
    ·
     skip
     have ho : o ≠ 32 := fun e9 => by rw [e9] at hc49; exact absurd hc49 dd
     obtain ⟨f, hin, hsum⟩ : ∃ f, ins = some f ∧ SumR s f (o + 1) := by rcases hI with h | h; exact absurd h.1 ho; exact h.2
     have hlt40 := Zz hk ht40
     have hbr : Vq s ins k = brE s ins (Zm s k) (Zm s k + 1) := Zg5 ht120 ht121 ht40
     refine gL h (zp (.pickT rfl rfl) (za rfl (zn ?_))); clear h; intro a w h
     refine cW ?_
     refine Ze h rfl ?_
     refine gC h (zS (zm rfl (zm rfl (zv [_, _, _] rfl call100 (Zfe s (Zm s k) 40 oo hs) ?_)))); clear h; intro a w h
     refine Zg h (fun hc58 h => ?_) (fun hc58 h => (by exfalso; rw [← Qt hk, ht40] at hc58; exact absurd hc58 dd))
     refine gL h (za rfl (zn ?_)); clear h; intro a w h
     refine cW ?_
     refine Zj h rfl ?_
     refine gC h (zS (zm rfl (zm rfl (zp (.pN ((Zm s k) + 1) (.add rfl rfl)) (zm rfl (zp (.pN (o + 1) (.add rfl rfl)) (zf [_, _, _] rfl call63 (hsum (Zm s k + 1) oo) ?_))))))); rintro v65 Ψ65 ⟨b65, l65, k65, rfl, hr65, rfl⟩
     refine zm rfl (zp (.eX rfl) (zp (.eX rfl) (zp (.eX rfl) (zz Gv fun b12 => za rfl (za rfl (zt' rfl rfl Zl uu sizeOf68 rfl nb rfl ?_))))))
     refine zn (zs (zS (zp (.fA rfl Zcd) (zd rfl mr isAgg26 sizeOf26 Jn ?_))))
     refine zp (.neq rfl rfl) ?_; intro a w h
     refine Zg h (fun hc71 h => ?_) (fun hc71 h => ?_)
     ·
      skip
      obtain ⟨fe, hf65⟩ := Zjd (r := f (Zm s k + 1)) (fun e9 => by rw [e9] at hc71; exact absurd hc71 dd)
      refine wpList_nil ?_
      refine cW ?_
      refine Zj h rfl ?_
      refine gC h (zs (yD Za [0, 1, 2, 3, 4, 5] (Zf kk) (ym rfl rfl (ym rfl rfl (yd rfl rfl mr isAgg68 sizeOf68 Zh ?_))))); clear h
      refine yp rfl (.assign rfl) (yp rfl (.assign rfl) (yt rfl rfl rfl Zl uu sizeOf68 rfl nb rfl ?_))
      refine yn (zt ?_); intro a w h
      replace h := h.perm (List.Perm.swap _ _ _)
      replace h := h.shareAll hS (cellsOf Jm (List.replicate 169 FT0)) rfl
      exact Zy h (Qz h rfl (.tmp rfl) (.tmp rfl) (.cell rfl mr isAgg68 sizeOf68 Zh)) (Ψ := [Row (some ⟨b20, 0, none⟩) (cellsOf Jm (List.replicate 169 FT0)), AllF (List.replicate 169 FT0)]) (Zak hf65 (by rw [hbr, hin]; unfold brE; simp only [hf65]) List.length_replicate (hr65.cod _ hf65) hbl) ss
     ·
      skip
      obtain ⟨p65, j65, hf65⟩ := Zs5 (r := f (Zm s k + 1)) (by simpa using hc71) hr65.cod
      obtain ⟨he65, hg65, hk65, hj65, hb65⟩ := hr65.ok _ _ hf65
      have hbl65 := Ja hk65
      refine wpList_nil ?_
      refine cW ?_
      refine Ze h rfl ?_
      refine gC h (zk (zS (zm rfl (zm rfl (zv [_, _] rfl call64 (Gl s k65 hk65 hs) (za rfl (zn (zs (zS (zm rfl (zm rfl (zv [_, _, _] rfl call100 (Zfe s (Zm s k65) 41 oo hs) ?_)))))))))))); clear h; intro a w h
      refine Zg h (fun hc80 h => ?_) (fun hc80 h => ?_)
      ·
       skip
       have ht41 : Zn s 41 j65 = true := by rw [Qt hj65, ← hb65]; exact hc80
       refine gL h (zp (.unOp rfl (Ji _)) (zn ?_)); clear h; intro a w h
       refine cW ?_
       refine Ze h rfl ?_
       refine gC h (zk (zS (zm rfl (zm rfl (zp (.pN ((Zm s k65) + 1) (.add rfl rfl)) (zp (.build [] rfl (Zd8)) (za rfl (za rfl (zt' rfl rfl Zl uu sizeOf68 rfl nb rfl ?_))))))))); clear h; intro a w h
       refine wpList_nil (wp_ret ?_)
       exact Zy h (Qz h rfl (.tmp rfl) (.tmp rfl) (.cell rfl mr isAgg68 sizeOf68 Zh)) (Ψ := [Row (some ⟨b65, 0, none⟩) (cellsOf Jm l65), AllF l65]) (Zal (p := p65) (k := Zm s j65 + 1) (by rw [hbr, hin]; unfold brE; simp only [hf65, ht41, if_true]) hr65.len he65 hg65 (by rw [hb65]; have := Zz hj65 ht41; omega) (by have := Zz hj65 ht41; omega) (by rw [hb65])) ss
      ·
       skip
       have ht41 : Zn s 41 j65 = false := by rw [Qt hj65, ← hb65]; exact hc80
       refine gL h (zp (.unOp rfl (Ji _)) (zn ?_)); clear h; intro a w h
       refine cW ?_
       refine Zj h rfl ?_
       refine gC h (zS (zm rfl (zm rfl (zm rfl (zp (.build [(_, _), (_, _)] rfl (Xw _ _)) (za rfl (za rfl (zt' rfl rfl Zl uu sizeOf68 rfl nb rfl ?_)))))))); clear h; intro a w h
       refine wpList_nil (wp_ret ?_)
       replace h := h.perm (List.Perm.swap _ _ _)
       replace h := h.shareAll hS (cellsOf Jm (List.replicate 169 FT0)) rfl
       exact Zy h (Qz h rfl (.tmp rfl) (.tmp rfl) (.cell rfl mr isAgg68 sizeOf68 Zh)) (Ψ := [Row (some ⟨b20, 0, none⟩) (cellsOf Jm (List.replicate 169 FT0)), AllF (List.replicate 169 FT0)]) (Xo (by rw [hbr, hin]; unfold brE; simp only [hf65, ht41, Bool.false_eq_true, if_false, hb65]) List.length_replicate (by unfold Cod; decide) hbl) ss
   ·
    skip
    have ht40 : Zn s 40 k = false := by rw [Qt hk]; exact hc46
    refine gL h (zm rfl (zo 47 rfl rfl rfl (zo 47 rfl rfl rfl (zp (.pickF rfl rfl) (za rfl (zn ?_)))))); clear h; intro a w h
    refine cW ?_
    refine Ze h rfl ?_
    refine gC h (zS (zm rfl (zm rfl (zv [_, _, _] rfl call100 (Zfe s (Zm s k) 40 oo hs) ?_)))); clear h; intro a w h
    refine Zg h (fun hc58 h => (by exfalso; rw [← Qt hk, ht40] at hc58; exact absurd hc58 dd)) (fun hc58 h => ?_)
    refine gL h (za rfl (zn ?_)); clear h; intro a w h
    refine cW ?_
    refine Ze h rfl ?_
    refine gC h (zk (zS (zm rfl (zm rfl (zf [_, _] rfl call145 (Zyf s (Zm s k) hbl hs) ?_))))); clear h; rintro v93 Ψ93 ⟨ad93, c93, rfl, hle93, rfl⟩ a w h
    obtain ⟨hle93, hlf93⟩ := Zm4 _ hle93
    refine gL h (zm rfl (zp (.eX rfl) (zp (.eX rfl) (zp (.eX rfl) (zp (.eX rfl) (zz Gv fun b16 => za rfl (za rfl (za rfl (zt' rfl rfl Zl uu sizeOf68 rfl nb rfl ?_)))))))))
    refine zn (zS (zm rfl (zm rfl (zv [_] rfl call148 (Zyh (nmN s (Zm s k)) ad93 c93) ?_)))); intro a w h
    replace h := h.derive (R := Row none (List.map Qe (dg (((nmN s (Zm s k) : Int) : Rat).den - 1)))) (fun X hX => by rw [Rat.den_intCast, Nat.sub_self, Qv]; exact fun hne => absurd rfl hne)
    replace h := h.derive (R := Row ad93 (List.map Qe (dg ((nmN s (Zm s k) : Int) : Rat).num.natAbs))) (fun X hX => by rw [Rat.num_intCast, Int.natAbs_natCast]; exact hX _ mm)
    refine gL h (zp (.indexAddr rfl rfl (Zbs _ _ _ _ 0 oo)) (zt' (b := b20) (cs := (cellsOf Jm (List.replicate 169 FT0)).toArray) (cs' := (cellsOf Jm ((List.replicate 169 FT0).set 0 (FT.mk (((nmN s (Zm s k) : Int) : Rat)) ad93 c93 none 0 hle93 hlf93))).toArray) (v := Jm (FT.mk (((nmN s (Zm s k) : Int) : Rat)) ad93 c93 none 0 hle93 hlf93)) rfl rfl (Ku (k := 3) (fun _ => rfl) (List.replicate 169 FT0) 0 (by simp only [List.length_replicate]; omega) (FT.mk (((nmN s (Zm s k) : Int) : Rat)) ad93 c93 none 0 hle93 hlf93)) uu sizeOf164 rfl (Za5 (k := 3) (fun _ => rfl) (List.replicate 169 FT0) 0 (by simp only [List.length_replicate]; omega)) rfl ?_))
    refine zn (zs (yD Za [0, 1, 2, 3, 4, 5] (Zf kk) (ym rfl rfl (ym rfl rfl (yd rfl rfl mr isAgg68 sizeOf68 Zh ?_)))))
    refine yp rfl (.assign rfl) (yp rfl (.assign rfl) (yt rfl rfl rfl Zl uu sizeOf68 rfl nb rfl ?_))
    refine yn (zt ?_); intro a w h
    replace h := h.perm (List.Perm.swap _ _ _)
    replace h := h.derive (R := AllF ((List.replicate 169 FT0).set 0 (FT.mk (((nmN s (Zm s k) : Int) : Rat)) ad93 c93 none 0 hle93 hlf93))) (fun X hX => AllF.set (hX _ mm) (hX _ mm) (hX _ mm))
    replace h := h.shareAll hS (cellsOf Jm ((List.replicate 169 FT0).set 0 (FT.mk (((nmN s (Zm s k) : Int) : Rat)) ad93 c93 none 0 hle93 hlf93))) rfl
    have hL : ((List.replicate 169 FT0).set 0 (FT.mk (((nmN s (Zm s k) : Int) : Rat)) ad93 c93 none 0 hle93 hlf93)).length = 169 := by rw [List.length_set, List.length_replicate]
    exact Zy h (Qz h rfl (.tmp rfl) (.tmp rfl) (.cell rfl mr isAgg68 sizeOf68 Zh)) (Ψ := [Row (some ⟨b20, 0, none⟩) (cellsOf Jm ((List.replicate 169 FT0).set 0 (FT.mk (((nmN s (Zm s k) : Int) : Rat)) ad93 c93 none 0 hle93 hlf93))), AllF ((List.replicate 169 FT0).set 0 (FT.mk (((nmN s (Zm s k) : Int) : Rat)) ad93 c93 none 0 hle93 hlf93))]) ((by obtain ⟨q1, q2, q3, q4⟩ := nm_blk s k; rw [q2, q3, q4]; exact Zzp hk hs ht120 ht121 ht40 (by show _ = _; rw [← q1]))) ss
end
end Go.Proofs.YtgkicbaomcmfoaaGreatDoor
