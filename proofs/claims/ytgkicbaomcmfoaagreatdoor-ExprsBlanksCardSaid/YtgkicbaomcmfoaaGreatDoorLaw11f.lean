/- Written by a program of ours (gen.py) out of short specifications. By an AI agent. -/
import Derived.Test.YtgkicbaomcmfoaaGreatDoorExprtr
import Derived.Test.YtgkicbaomcmfoaaGreatDoorFxF
set_option linter.unusedVariables false
set_option linter.unusedSimpArgs false
set_option maxRecDepth 4000
namespace Go.Proofs.YtgkicbaomcmfoaaGreatDoor
open Go Go.Proofs Go.Fx
attribute [local irreducible] Oper.wp Code.wp wpList Fx.Head wpOp
section
theorem st_1_0_1 (c0 v0 : Value) : setFrom #[c0] 0 [v0] = #[v0] := rfl
theorem rs_1_0 (c0 : Value) : readAt false 1 #[c0] 0 = some c0 := rfl
theorem C_idle {S : Nat → Prop} {w0 w : World} {σ : List (Nat × Obj)} {Φ : List SPred} (v2 v3 : Value) (hm : Mem S w0 σ Φ w) : CallsD Tryz.prog 33 [v2, v3].toArray .returning w fun e' u' w' => e' = .returned (.tuple #[]) ∧ u' = .returning ∧ Mem S w0 σ Φ w' := by
  refine fn_introS Tryz.func33 rfl Tryz.ntmps33 (Nat.le_of_ble_eq_true rfl) hm ?_
  intro c₀ cs a hu h
  refine wpS_seq ?_
  refine wpS_region ?_
  rw [show List.range _ = [0, 1] from rfl]
  refine s_idle h rfl (by simp [recoverD, hu]) (by decide) ?_; clear h; intro a h
  refine s_pure h rfl (.assign rfl) (by decide) ?_; clear h; intro a h
  show Code.wpS _ _ _ _ _ _
  refine wpS_of_wp ?_
  refine wp_seq ?_
  refine wp_region_lit ?_
  refine wpl_plain (op_pure h (.move rfl) (by decide) ?_); clear h; intro a h
  refine wpl_plain (op_pure h (Pure1.binOp (v := .bool false) rfl rfl (fun _ => by simp [go_sem])) (by decide) ?_); clear h; intro a h
  refine wpList_nil ?_
  change Code.wp _ _ _ _ _
  refine cond_false h rfl ?_
  refine wp_skip ?_
  refine ⟨h.defers, .returning, by rw [← hu], .tuple #[], results0 rfl, rfl, rfl, h.mem⟩
theorem run_assert (e k : Int) (w : World) : (Instr.typeAssert (faV e k) 20 28 true).run Tryz.prog w = .ok (.tuple #[.agg #[.int .i64 e, .int .i64 k], .bool true]) w := by
  simp [go_sem, Instr.typeAssert]
theorem C_catch {S : Nat → Prop} {w0 w : World} {σ : List (Nat × Obj)} {Φ : List SPred} (e k : Int) (b2 b3 : Nat) (x y1 y2 : Value) (hS : ∀ k, S k → k < w0.heap.size) (hm : Mem S w0 ((b2, .cells #[x] 25 (0, 0)) :: (b3, .cells #[y1, y2] 28 (0, 0)) :: σ) Φ w) :
    CallsD Tryz.prog 33 [.pointer (some ⟨b2, 0, none⟩), .pointer (some ⟨b3, 0, none⟩)].toArray (.panicking (chE (faV e k))) w fun e' u' w' => e' = .returned (.tuple #[]) ∧ u' = .panicking [{ v := faV e k, recovered := true }] ∧ Mem S w0 ((b2, .cells #[.slice none 0 0] 25 (0, 0)) :: (b3, .cells #[.int .i64 e, .int .i64 k] 28 (0, 0)) :: σ) Φ w' := by
  refine fn_introS Tryz.func33 rfl Tryz.ntmps33 (Nat.le_of_ble_eq_true rfl) hm ?_
  intro c₀ cs a hu h
  refine wpS_seq ?_
  refine wpS_region ?_
  rw [show List.range _ = [0, 1] from rfl]
  refine s_recover h rfl (v := faV e k) (cs' := { c₀ with mode := .panicking [{ v := faV e k, recovered := true }] } :: cs) (by simp [recoverD, hu]) (by decide) ?_; clear h; intro a h
  refine s_pure h rfl (.assign rfl) (by decide) ?_; clear h; intro a h
  show Code.wpS _ _ _ _ _ _
  refine wpS_of_wp ?_
  refine wp_seq ?_
  refine wp_region_lit ?_
  refine wpl_plain (op_pure h (.move rfl) (by decide) ?_); clear h; intro a h
  refine wpl_plain (op_pure h (Pure1.binOp (v := .bool true) rfl rfl (fun _ => by simp [go_sem])) (by decide) ?_); clear h; intro a h
  refine wpList_nil ?_
  change Code.wp _ _ _ _ _
  refine cond_split h rfl (fun hc7 => ?_) (fun hc7 => (by exfalso; exact absurd hc7 (by decide)))
  refine wp_seq ?_
  refine wp_region_lit ?_
  refine wpl_plain (op_pure h (.move rfl) (by decide) ?_); clear h; intro a h
  refine wpl_plain (op_val (v := .tuple #[.agg #[.int .i64 e, .int .i64 k], .bool true]) h (by have he := h.ev (x := .tmp 9) (v := faV e k) rfl; simp only [execOp, he, Sem.run_bind, run_assert, Result.andThen]; rfl) (by decide) ?_); clear h; intro a h
  refine wpl_plain (op_pure h (.move rfl) (by decide) ?_); clear h; intro a h
  refine wpl_plain (op_pure h (.extract rfl (fun _ => rfl)) (by decide) ?_); clear h; intro a h
  refine wpl_plain (op_pure h (.extract rfl (fun _ => rfl)) (by decide) ?_); clear h; intro a h
  refine wpl_plain (op_alloc h Tryz.zeroValue28 (by decide) ?_); clear h; intro b3 a w h
  refine wpl_plain (op_store h rfl rfl (st_2_0_2 _ _ _ _) (by repeat (first | exact Upd.head | apply Upd.tail | apply Upd.append)) Tryz.sizeOf28 rfl (Nat.le_of_ble_eq_true rfl) rfl ?_); clear h; intro a w h
  refine wpl_plain (op_pure h (.assign rfl) (by decide) ?_); clear h; intro a h
  refine wpList_nil ?_
  change Code.wp _ _ _ _ _
  refine wp_seq ?_
  refine wp_seq ?_
  refine wp_region_lit ?_
  refine wpl_plain (op_pure h (.move rfl) (by decide) ?_); clear h; intro a h
  refine wpl_plain (op_pure h (.unOp rfl (un_not _)) (by decide) ?_); clear h; intro a h
  refine wpList_nil ?_
  change Code.wp _ _ _ _ _
  refine cond_split h rfl (fun hc14 => (by exfalso; exact absurd hc14 (by decide))) (fun hc14 => ?_)
  refine wp_skip ?_
  change Code.wp _ _ _ _ _
  refine wp_draws mixed_YtgkicbaomcmfoaaGreatDoor h [0, 1, 2] _ (fun _ _ hh => hh) (by kernel_rfl) (floatsOK_none (by kernel_rfl)) ?_; clear h
  refine head_loadLate [0] rfl (by kernel_rfl) rfl (by repeat (first | exact List.Mem.head _ | apply List.Mem.tail | apply List.mem_append_right)) Tryz.isAgg28 Tryz.sizeOf28 (rd_2_0_2 _ _) (fun a w σx hst => by intro t ht; simp only [List.mem_cons, List.not_mem_nil, or_false] at ht; rcases ht with rfl <;> exact ⟨_, rfl, by have h1 := (List.pairwise_append.1 hst.nd).2.1; simp at h1; dsimp only; omega⟩) (by decide) ?_
  refine head_store rfl (by kernel_rfl) rfl rfl (st_1_0_1 _ _) (by repeat (first | exact Upd.head | apply Upd.tail | apply Upd.append)) Tryz.sizeOf25 rfl (Nat.le_of_ble_eq_true rfl) rfl ?_
  refine head_store rfl (by kernel_rfl) rfl rfl (st_2_0_2 _ _ _ _) (by repeat (first | exact Upd.head | apply Upd.tail | apply Upd.append)) Tryz.sizeOf28 rfl (Nat.le_of_ble_eq_true rfl) rfl ?_
  refine head_nil ?_; intro a w h
  exact ⟨h.defers, _, rfl, .tuple #[], results0 rfl, rfl, rfl, (h.drop (List.sublist_cons_self _ _)).mem⟩
def rP (s : ByteArray) : List Tm := match parseE s with | .ok p => p | .error _ => []
def rE (s : ByteArray) : Int := match parseE s with | .ok _ => 0 | .error f => f.1
def rI (s : ByteArray) : Nat := match parseE s with | .ok _ => 0 | .error f => f.2
theorem res_ok {s : ByteArray} {p : List Tm} (h : parseE s = .ok p) : rP s = p ∧ rE s = 0 ∧ rI s = 0 := by unfold rP rE rI; rw [h]; exact ⟨rfl, rfl, rfl⟩
theorem res_err {s : ByteArray} {e : Int} {i : Nat} (h : parseE s = .error (e, i)) : rP s = [] ∧ rE s = e ∧ rI s = i := by unfold rP rE rI; rw [h]; exact ⟨rfl, rfl, rfl⟩
def PostR (s : ByteArray) (v : Value) (Ψ : List SPred) : Prop := ∃ ad c, v = .tuple #[.slice ad (rP s).length c, .agg #[.int .i64 (rE s), .int .i64 ((rI s : Nat) : Int)]] ∧ Ψ = [Row ad (cellsOf encT (rP s))]
theorem postR_err {s : ByteArray} {e : Int} {i : Nat} (h : parseE s = .error (e, i)) : PostR s (.tuple #[.slice none 0 0, .agg #[.int .i64 e, .int .i64 ((i : Nat) : Int)]]) [Row none (cellsOf encT [])] := by
  obtain ⟨h1, h2, h3⟩ := res_err h
  exact ⟨none, 0, by rw [h1, h2, h3]; rfl, by rw [h1]⟩
theorem postR_ok {s : ByteArray} {p : List Tm} {ad : Option Addr} {c : Nat} (h : parseE s = .ok p) : PostR s (.tuple #[.slice ad p.length c, .agg #[.int .i64 0, .int .i64 0]]) [Row ad (cellsOf encT p)] := by
  obtain ⟨h1, h2, h3⟩ := res_ok h
  exact ⟨ad, c, by rw [h1, h2, h3]; rfl, by rw [h1]⟩
abbrev dfr (b2 b3 : Nat) : Deferred := ⟨.fn (.func 33) [.pointer (some ⟨b2, 0, none⟩), .pointer (some ⟨b3, 0, none⟩)].toArray, #[]⟩
theorem catch_up {n : Nat} {S : Nat → Prop} {w0 w w' : World} {L : List (Nat × Value)} {σ1 σ : List (Nat × Obj)} {Φ1 Φ : List SPred} {a : Act} (s : ByteArray) (e : Int) (i b2 b3 : Nat) (x y1 y2 : Value) (hS : ∀ k, S k → k < w0.heap.size) (h : St n S w0 L σ1 Φ1 a w)
    (h2 : Fx.look L 2 = some (.pointer (some ⟨b2, 0, none⟩))) (h3 : Fx.look L 3 = some (.pointer (some ⟨b3, 0, none⟩))) (hm : Mem S w0 ((b2, .cells #[x] 25 (0, 0)) :: (b3, .cells #[y1, y2] 28 (0, 0)) :: σ) Φ w') (hp : parseE s = .error (e, i)) {fn : Func} (hr : fn.results = #[.cell 2 25, .cell 3 28]) :
    bodyPostD Tryz.prog fn (Post S w0 (PostR s)) (.panic (chE (faV e ((i : Nat) : Int)))) (up [dfr b2 b3] a) w' := by
  refine leaves_up h.defers (leaves_cons (f := 33) (args := [.pointer (some ⟨b2, 0, none⟩), .pointer (some ⟨b3, 0, none⟩)].toArray) (by simp) (by simp [go_sem]) ?_)
  refine (C_catch e ((i : Nat) : Int) b2 b3 x y1 y2 hS hm).mono ?_
  rintro e' u' w'' ⟨rfl, rfl, hm'⟩
  have hst := (h.reMem hm').derive (R := Row none (cellsOf encT [])) (fun X _ hne => absurd rfl hne)
  exact retD hst (results2 hst hr (.cell h2 (List.Mem.head _) Tryz.isAgg25 Tryz.sizeOf25 (rs_1_0 _)) (.cell h3 (List.Mem.tail _ (List.Mem.head _)) Tryz.isAgg28 Tryz.sizeOf28 (rd_2_0_2 _ _))) (postR_err hp) (by simp)
theorem idle_up {n : Nat} {S : Nat → Prop} {w0 w : World} {L : List (Nat × Value)} {σ : List (Nat × Obj)} {Φ : List SPred} {a : Act} (s : ByteArray) (b2 b3 : Nat) (h : St n S w0 L σ Φ a w) {fn : Func} {v : Value} {Ψ : List SPred}
    (hr : ∀ w', St n S w0 L σ Φ a w' → (results fn a.tmps).run Tryz.prog w' = .ok v w') (hp : PostR s v Ψ) (hs : ∀ R ∈ Ψ, R ∈ Φ) :
    Leaves Tryz.prog fn (up [dfr b2 b3] a).tmps (Post S w0 (PostR s)) (up [dfr b2 b3] a).defers .returning w := by
  refine leaves_up h.defers (leaves_cons (f := 33) (args := [.pointer (some ⟨b2, 0, none⟩), .pointer (some ⟨b3, 0, none⟩)].toArray) (by simp) (by simp [go_sem]) ?_)
  refine (C_idle _ _ h.mem).mono ?_
  rintro e' u' w'' ⟨rfl, rfl, hm'⟩
  exact retD (h.reMem hm') (hr _ (h.reMem hm')) hp hs
end
section
theorem bd_78_0 (x0 : ByteArray) (w : World) : (Instr.build 78 [(0, .string x0)].toArray).run Tryz.prog w = .ok (.agg #[.string x0, .int .i64 0, .int .i64 0]) w := by simp [go_sem]
theorem bd_28_z (w : World) : (Instr.build 28 [].toArray).run Tryz.prog w = .ok (.agg #[.int .i64 0, .int .i64 0]) w := by simp [go_sem]
theorem C_ParseX (s : ByteArray) (hsz : s.size ≤ 9223372036854775807) : Ctr Tryz.prog 11 [.string s] [] (PostR s) := by
  refine fn_introD Tryz.func11 rfl Tryz.ntmps11 (Nat.le_of_ble_eq_true rfl) ?_
  intro S w0 a hS h
  refine wp_seq ?_
  refine wp_region_lit ?_
  refine wpl_plain (op_alloc h Tryz.zeroValue25 (by decide) ?_); clear h; intro b2 a w h
  refine wpl_plain (op_alloc h Tryz.zeroValue28 (by decide) ?_); clear h; intro b3 a w h
  refine wpList_nil ?_
  change Code.wp _ _ _ _ _
  refine wp_seq ?_
  refine wp_seq ?_
  refine wp_region_lit ?_
  refine wpl_plain (op_pure h (.move rfl) (by decide) ?_); clear h; intro a h
  refine wpl_plain (op_pure h (.builtin [_] rfl (len_string_9 _)) (by decide) ?_); clear h; intro a h
  refine wpl_plain (op_pure h (.binOp rfl rfl (fun _ => run_gtr _ _ _ _ _)) (by decide) ?_); clear h; intro a h
  refine wpList_nil ?_
  change Code.wp _ _ _ _ _
  refine cond_split h rfl (fun hc7 => ?_) (fun hc7 => ?_)
  · skip
    have hP : parseE s = .error (3, 0) := by unfold parseE; rw [if_pos (by have := of_decide_eq_true hc7; omega)]
    refine wp_seq ?_
    refine wp_region_lit ?_
    refine wpl_plain (op_pure h (.build [(_, _), (_, _)] rfl (bd_28_0_1 _ _)) (by decide) ?_); clear h; intro a h
    refine wpl_plain (op_store h rfl rfl (st_1_0_1 _ _) (by repeat (first | exact Upd.head | apply Upd.tail | apply Upd.append)) Tryz.sizeOf25 rfl (Nat.le_of_ble_eq_true rfl) rfl ?_); clear h; intro a w h
    refine wpl_plain (op_store h rfl rfl (st_2_0_2 _ _ _ _) (by repeat (first | exact Upd.head | apply Upd.tail | apply Upd.append)) Tryz.sizeOf28 rfl (Nat.le_of_ble_eq_true rfl) rfl ?_); clear h; intro a w h
    refine wpList_nil ?_
    change Code.wp _ _ _ _ _
    refine wp_ret ?_
    replace h := h.derive (R := Row none (cellsOf encT [])) (fun X _ hne => absurd rfl hne)
    exact retD0 h (results2 h rfl (.cell rfl (by repeat (first | exact List.Mem.head _ | apply List.Mem.tail | apply List.mem_append_right)) Tryz.isAgg25 Tryz.sizeOf25 (rs_1_0 _)) (.cell rfl (by repeat (first | exact List.Mem.head _ | apply List.Mem.tail | apply List.mem_append_right)) Tryz.isAgg28 Tryz.sizeOf28 (rd_2_0_2 _ _))) (postR_err hP) (by simp)
  · skip
    have hs : s.size ≤ 4096 := by have := of_decide_eq_false hc7; omega
    have hP : parseE s = readE (s.extract 0 (trimE s s.size)) := by unfold parseE; rw [if_neg (by omega)]
    obtain ⟨t, ht⟩ : ∃ t, t = s.extract 0 (trimE s s.size) := ⟨_, rfl⟩
    have hts : t.size ≤ 4096 := by rw [ht, ByteArray.size_extract]; have := trimE_le s s.size; omega
    refine wp_skip ?_
    change Code.wp _ _ _ _ _
    refine wp_seq ?_
    refine wp_region_lit ?_
    refine wpl_plain (op_pure h (.makeFunc [] [_, _] rfl rfl) (by decide) ?_); clear h; intro a h
    refine wpl_plain (op_defer h rfl ?_); clear h; intro h
    refine wpl_up ?_
    refine wpList_nil ?_
    change Code.wp _ _ _ _ _
    refine wp_seq ?_
    refine wp_region_lit (wpl_up ?_)
    refine wpl_plain (op_pure h (.move rfl) (by decide) ?_); clear h; intro a h
    refine wpl_plain (op_callV h (vs := [_, _]) rfl Tryz.call34 (C_TrimR s (by omega)) (by decide) ?_); clear h; intro a w h
    rw [← ht] at h
    refine wpl_plain (op_pure h (.build [(_, _)] rfl (bd_78_0 _)) (by decide) ?_); clear h; intro a h
    refine wpl_plain (op_box h rfl (by decide) ?_); clear h; intro b13 a w h
    refine wpl_plain (op_pure h (.assign rfl) (by decide) ?_); clear h; intro a h
    refine wpList_nil ?_
    change Code.wp _ _ _ _ _
    refine wp_seq ?_
    refine wp_region_lit (wpl_up ?_)
    refine wpl_plain (op_pure h (.move rfl) (by decide) ?_); clear h; intro a h
    refine wpl_plain (op_callE h hS (vs := [_]) rfl Tryz.call35 (C_sumE b13 t hts 32 0 0 _ [] (by decide) (Nat.zero_le _)) ((List.Perm.refl _)) (by simp) ?_ ?_)
    · skip
      rintro _ _ w' ⟨e, i, ob, hx, rfl, rfl⟩ hm
      exact catch_up s e i b2 b3 _ _ _ hS h rfl rfl (hm.perm (List.reverse_perm _).symm) (by rw [hP]; unfold readE; rw [← ht, hx]) rfl
    clear h; rintro v15 σ15 Ψ15 a w ⟨p15, k15, ad15, c15, hr15, rfl, rfl, rfl⟩ h
    obtain ⟨hg15, hk15a, hk15⟩ := sumE_good hts 32 (Nat.zero_le _) hr15
    refine wpl_plain (op_store h rfl rfl (st_1_0_1 _ _) (by repeat (first | exact Upd.head | apply Upd.tail | apply Upd.append)) Tryz.sizeOf25 rfl (Nat.le_of_ble_eq_true rfl) rfl ?_); clear h; intro a w h
    refine wpList_nil ?_
    change Code.wp _ _ _ _ _
    refine wp_seq ?_
    refine wp_seq ?_
    refine wp_region_lit (wpl_up ?_)
    refine wpl_plain (op_pure h (.move rfl) (by decide) ?_); clear h; intro a h
    refine wpl_plain (op_callM h hS (vs := [_]) rfl Tryz.call36 (C_next b13 k15 0 t hts hk15 _ [Row ad15 (cellsOf encT p15)]) ((List.Perm.refl _)) (by simp) (by simp) ?_); clear h; rintro v17 σ17 Ψ17 a w ⟨rfl, rfl, rfl⟩ h
    refine wpList_nil ?_
    change Code.wp _ _ _ _ _
    refine wp_seq ?_
    refine wp_draws_up mixed_YtgkicbaomcmfoaaGreatDoor h [0, 1, 2, 3, 4, 5, 6, 7, 8, 9] (by kernel_rfl) (by kernel_rfl) rfl (floatsOK_none (by kernel_rfl)) ?_; clear h
    refine head_pure rfl (by kernel_rfl) (.move rfl) (by decide) ?_
    refine head_pure rfl (by kernel_rfl) (.nilCheck rfl) (by decide) ?_
    refine head_pure rfl (by kernel_rfl) (.fieldAddr rfl (fa_78_1 _ _)) (by decide) ?_
    refine head_load rfl (by kernel_rfl) rfl (by repeat (first | exact List.Mem.head _ | apply List.Mem.tail | apply List.mem_append_right)) Tryz.isAgg3 Tryz.sizeOf3 (rs_3_1 _ _ _) (by decide) ?_
    refine head_pure rfl (by kernel_rfl) (.move rfl) (by decide) ?_
    refine head_pure rfl (by kernel_rfl) (.nilCheck rfl) (by decide) ?_
    refine head_pure rfl (by kernel_rfl) (.fieldAddr rfl (fa_78_0 _ _)) (by decide) ?_
    refine head_load rfl (by kernel_rfl) rfl (by repeat (first | exact List.Mem.head _ | apply List.Mem.tail | apply List.mem_append_right)) Tryz.isAgg9 Tryz.sizeOf9 (rs_3_0 _ _ _) (by decide) ?_
    refine head_pure rfl (by kernel_rfl) (.builtin [_] rfl (len_string_9 _)) (by decide) ?_
    refine head_pure rfl (by kernel_rfl) (.binOp rfl rfl (fun _ => run_lss _ _ _ _ _)) (by decide) ?_
    refine head_nil ?_; intro a w h
    change Code.wp _ _ _ _ _
    refine cond_split_up h rfl (fun hc27 => ?_) (fun hc27 => ?_)
    · skip
      have hlt : blkE t k15 < t.size := by have := of_decide_eq_true hc27; omega
      refine wp_region_lit (wpl_up ?_)
      refine wpl_plain (op_pure h (.move rfl) (by decide) ?_); clear h; intro a h
      refine wpl_plain (op_pure h (.nilCheck rfl) (by decide) ?_); clear h; intro a h
      refine wpl_plain (op_pure h (.fieldAddr rfl (fa_78_1 _ _)) (by decide) ?_); clear h; intro a h
      refine wpl_plain (op_load h rfl (by repeat (first | exact List.Mem.head _ | apply List.Mem.tail | apply List.mem_append_right)) Tryz.isAgg3 Tryz.sizeOf3 (rs_3_1 _ _ _) (by decide) ?_); clear h; intro a h
      refine wpl_plain (op_callE h hS (vs := [_, _]) rfl Tryz.call37 (C_fails 4 _ _ _) (List.Perm.refl _) (by simp) ?_ (fun _ _ _ _ _ hp _ => by exact hp.elim))
      rintro _ _ w' ⟨rfl, rfl⟩ hm
      exact catch_up s 4 (blkE t k15) b2 b3 _ _ _ hS h rfl rfl (hm.perm (List.reverse_perm _).symm) (by rw [hP]; unfold readE; rw [← ht, hr15]; simp only [if_pos hlt]) rfl
    · skip
      have hlt : ¬ blkE t k15 < t.size := by have := of_decide_eq_false hc27; omega
      refine wp_skip ?_
      change Code.wp _ _ _ _ _
      refine wp_seq ?_
      refine wp_region_lit (wpl_up ?_)
      refine wpl_plain (op_load h rfl (by repeat (first | exact List.Mem.head _ | apply List.Mem.tail | apply List.mem_append_right)) Tryz.isAgg25 Tryz.sizeOf25 (rs_1_0 _) (by decide) ?_); clear h; intro a h
      refine wpl_plain (op_pure h (.build [] rfl (bd_28_z)) (by decide) ?_); clear h; intro a h
      refine wpl_plain (op_store h rfl rfl (st_1_0_1 _ _) (by repeat (first | exact Upd.head | apply Upd.tail | apply Upd.append)) Tryz.sizeOf25 rfl (Nat.le_of_ble_eq_true rfl) rfl ?_); clear h; intro a w h
      refine wpl_plain (op_store h rfl rfl (st_2_0_2 _ _ _ _) (by repeat (first | exact Upd.head | apply Upd.tail | apply Upd.append)) Tryz.sizeOf28 rfl (Nat.le_of_ble_eq_true rfl) rfl ?_); clear h; intro a w h
      refine wpList_nil ?_
      change Code.wp _ _ _ _ _
      refine wp_ret ?_
      exact idle_up s b2 b3 h (fun w' h => (results2 h rfl (.cell rfl (by repeat (first | exact List.Mem.head _ | apply List.Mem.tail | apply List.mem_append_right)) Tryz.isAgg25 Tryz.sizeOf25 (rs_1_0 _)) (.cell rfl (by repeat (first | exact List.Mem.head _ | apply List.Mem.tail | apply List.mem_append_right)) Tryz.isAgg28 Tryz.sizeOf28 (rd_2_0_2 _ _)))) (postR_ok (by rw [hP]; unfold readE; rw [← ht, hr15]; simp only [if_neg hlt])) (by simp)
end
section
abbrev encFa (f : Int × Int) : Value := .agg #[.int .i64 f.1, .int .i64 f.2]
theorem zeroFa (w : World) : (zeroValue 28).run Tryz.prog w = .ok (encFa (0, 0)) w := Tryz.zeroValue28 w
theorem run_eqFa (X Y : Operand) (x y : Int × Int) (w : World) : (do eqGuard .eql 28 X Y (encFa x) (encFa y); Go.binOp .eql 28 (encFa x) (encFa y) : Sem Value).run Tryz.prog w = .ok (.bool (decide (x = y))) w := by
  obtain ⟨x1, x2⟩ := x
  obtain ⟨y1, y2⟩ := y
  simp [go_sem]
  by_cases e1 : x1 = y1 <;> by_cases e2 : x2 = y2 <;> simp [e1, e2]
theorem readE_gd {s : ByteArray} {p : List Tm} (hs : s.size ≤ 4096) (h : readE s = .ok p) : Gd p := by
  unfold readE at h
  split at h
  · cases h
  · rename_i q k hq
    split at h
    · cases h
    · cases h; exact (sumE_good hs 32 (Nat.zero_le _) hq).1
theorem Gd.nil : Gd [] := ⟨(Pq.nil 12).mono (Nat.le_refl _) (by decide), ⟨(fun _ h => nomatch h), List.Pairwise.nil⟩⟩
theorem rP_gd (s : ByteArray) : Gd (rP s) := by
  unfold rP
  split
  · rename_i p h
    unfold parseE at h
    split at h
    · cases h
    · refine readE_gd ?_ h
      rw [ByteArray.size_extract]; have := trimE_le s s.size; omega
  · exact Gd.nil
def okX (r : Except Fa (List Tm)) (E : List Tm) : Bool := match r with | .ok p => decide (p = E) | .error _ => false
def erX (r : Except Fa (List Tm)) (e : Int) (i : Nat) : Bool := match r with | .ok _ => false | .error f => decide (f.1 = e) && decide (f.2 = i)
theorem okX_ok {r : Except Fa (List Tm)} {E : List Tm} (h : okX r E = true) : r = .ok E := by
  unfold okX at h
  split at h
  · rw [of_decide_eq_true h]
  · cases h
theorem erX_er {r : Except Fa (List Tm)} {e : Int} {i : Nat} (h : erX r e i = true) : r = .error (e, i) := by
  unfold erX at h
  split at h
  · cases h
  · rw [Bool.and_eq_true, decide_eq_true_eq, decide_eq_true_eq] at h
    obtain ⟨h1, h2⟩ := h
    subst h1; subst h2; rfl
theorem C_says (s want : ByteArray) (E : List Tm) (hsz : s.size ≤ 9223372036854775807) (hE : OkE E) (hp : parseE s = .ok E) (ht : txtP textQ E = want) : CtrW Tryz.prog 31 [.string s, .string want] [] (.bool true) := by
  obtain ⟨hq1, hq2, hq3⟩ := res_ok hp
  refine fn_intro Tryz.func31 rfl Tryz.ntmps31 nb ?_
  intro S w0 a hS h
  refine gC h (zs (zr (za rfl (zn (zs (zr (zm rfl (zf [_] rfl Tryz.call11 (C_ParseX s hsz) ?_)))))))); clear h; rintro v9 Ψ9 ⟨ad9, c9, rfl, rfl⟩ a w h
  refine gL h (zm rfl (zp (.extract rfl (fun _ => rfl)) (zp (.extract rfl (fun _ => rfl)) (zz zeroFa fun b6 => za rfl (zt' rfl rfl (st_2_0_2 _ _ _ _) uu Tryz.sizeOf28 rfl nb rfl ?_))))); clear h; intro a w h
  refine gL h (zn (zs (zr (zd rfl mr Tryz.isAgg28 Tryz.sizeOf28 (rd_2_0_2 _ _) ?_)))); clear h; intro a w h
  refine gL h (zp (.build [] rfl (bd_28_z)) (zp (.binOp rfl rfl (fun _ => run_eqFa _ _ ((rE s, ((rI s : Nat) : Int))) (0, 0) _)) ?_)); clear h; intro a w h
  refine by_bool h (fun hc14 h => ?_) (fun hc14 h => (by exfalso; rw [hq2, hq3] at hc14; exact absurd hc14 (by decide)))
  refine gL h (zm rfl (zq 15 rfl rfl (.move rfl) ?_)); clear h; intro a w h
  refine wpl_guard 15 h rfl rfl (op_callW h (vs := [_]) rfl Tryz.call16 (C_TE (rP s) want _ _ (by rw [hq1]; exact hE) (by rw [hq1]; exact ht)) (by simp) (by decide) ?_); clear h; intro a w h
  refine gL h (zq 15 rfl rfl (.move rfl) (zq 15 rfl rfl (.binOp rfl rfl (fun _ => run_seql _ _ _ _ _)) ?_)); clear h; intro a w h
  refine by_bool h (fun hc19 h => ?_) (fun hc19 h => (by exfalso; exact absurd hc19 (by simp)))
  refine gL h (zp (.pickT rfl rfl) (zm rfl (zq 21 rfl rfl (.move rfl) ?_))); clear h; intro a w h
  refine wpl_guard 21 h rfl rfl (op_callW h (vs := [_]) rfl Tryz.call17 (C_OkN (rP s) _ _ (rP_gd s).nrm (rP_gd s).pq.deg (by have := (rP_gd s).len; omega)) (by simp) (by decide) ?_); clear h; intro a w h
  refine gL h (zp (.pickT rfl rfl) (za rfl (zn (zt ?_)))); clear h; intro a w h
  refine retV h (results1 h rfl (.tmp rfl)) ?_
  rfl
theorem C_failsL (s : ByteArray) (e : Int) (i : Nat) (hsz : s.size ≤ 9223372036854775807) (hp : parseE s = .error (e, i)) : CtrW Tryz.prog 32 [.string s, .int .i64 e, .int .i64 ((i : Nat) : Int)] [] (.bool true) := by
  obtain ⟨hq1, hq2, hq3⟩ := res_err hp
  refine fn_intro Tryz.func32 rfl Tryz.ntmps32 nb ?_
  intro S w0 a hS h
  refine gC h (zs (zr (za rfl (zn (zs (zr (zm rfl (zf [_] rfl Tryz.call11 (C_ParseX s hsz) ?_)))))))); clear h; rintro v11 Ψ11 ⟨ad11, c11, rfl, rfl⟩ a w h
  refine gL h (zm rfl (zp (.extract rfl (fun _ => rfl)) (zp (.extract rfl (fun _ => rfl)) (zz zeroFa fun b8 => za rfl (zt' rfl rfl (st_2_0_2 _ _ _ _) uu Tryz.sizeOf28 rfl nb rfl ?_))))); clear h; intro a w h
  refine gL h (zn (zs (zr (zm rfl (zp (.builtin [_] rfl (len_slice_25 _ _ _)) (zp (.eql rfl rfl) ?_)))))); clear h; intro a w h
  refine by_bool h (fun hc16 h => ?_) (fun hc16 h => (by exfalso; rw [hq1] at hc16; exact absurd hc16 (by decide)))
  refine gL h (zm rfl ?_); clear h; intro a w h
  refine wpl_guard 17 h rfl rfl (op_load h rfl mr Tryz.isAgg28 Tryz.sizeOf28 (rd_2_0_2 _ _) (by decide) ?_); clear h; intro a h
  refine gL h (zq 17 rfl rfl (.move rfl) (zq 17 rfl rfl (.move rfl) (zq 17 rfl rfl (.build [(_, _), (_, _)] rfl (bd_28_0_1 _ _)) (zq 17 rfl rfl (.binOp rfl rfl (fun _ => run_eqFa _ _ ((rE s, ((rI s : Nat) : Int))) ((e, ((i : Nat) : Int))) _)) ?_)))); clear h; intro a w h
  refine by_bool h (fun hc22 h => ?_) (fun hc22 h => (by exfalso; rw [hq2, hq3] at hc22; exact absurd hc22 (by simp)))
  refine gL h (zp (.pickT rfl rfl) (za rfl (zn (zt ?_)))); clear h; intro a w h
  refine retV h (results1 h rfl (.tmp rfl)) ?_
  rfl
theorem C_reads (s : ByteArray) (q : List Tm) (ad : Option Addr) (c K : Nat) (hsz : s.size ≤ 9223372036854775807) (hq : Pq 12 K q) (hK : K ≤ 200000000) (p : List Tm) (hp : parseE s = .ok p) (he : p = norm q) : CtrW Tryz.prog 23 [.string s, .slice ad q.length c] [Row ad (cellsOf encT q)] (.bool true) := by
  obtain ⟨hq1, hq2, hq3⟩ := res_ok hp
  refine fn_intro Tryz.func23 rfl Tryz.ntmps23 nb ?_
  intro S w0 a hS h
  refine gC h (zs (zr (za rfl (zn (zs (zr (zm rfl (zf [_] rfl Tryz.call11 (C_ParseX s hsz) ?_)))))))); clear h; rintro v9 Ψ9 ⟨ad9, c9, rfl, rfl⟩ a w h
  refine gL h (zm rfl (zp (.extract rfl (fun _ => rfl)) (zp (.extract rfl (fun _ => rfl)) (zz zeroFa fun b6 => za rfl (zt' rfl rfl (st_2_0_2 _ _ _ _) uu Tryz.sizeOf28 rfl nb rfl ?_))))); clear h; intro a w h
  refine gL h (zn (zs (zr (zd rfl mr Tryz.isAgg28 Tryz.sizeOf28 (rd_2_0_2 _ _) ?_)))); clear h; intro a w h
  refine gL h (zp (.build [] rfl (bd_28_z)) (zp (.binOp rfl rfl (fun _ => run_eqFa _ _ ((rE s, ((rI s : Nat) : Int))) (0, 0) _)) ?_)); clear h; intro a w h
  refine by_bool h (fun hc14 h => ?_) (fun hc14 h => (by exfalso; rw [hq2, hq3] at hc14; exact absurd hc14 (by decide)))
  refine gL h (zm rfl (zq 15 rfl rfl (.move rfl) (zq 15 rfl rfl (.move rfl) ?_))); clear h; intro a w h
  refine wpl_guard 15 h rfl rfl (op_callW h (vs := [_, _]) rfl Tryz.call12 (C_pSame (rP s) q _ _ _ _ 12 12 6400 K (rP_gd s).pq hq (by decide) (by decide) (by decide) hK) (by simp) (by decide) ?_); clear h; intro a w h
  refine by_bool h (fun hc18 h => ?_) (fun hc18 h => (by exfalso; rw [(rP_gd s).nn, hq1, he] at hc18; exact absurd hc18 (by simp)))
  refine gL h (zp (.pickT rfl rfl) (za rfl (zn (zt ?_)))); clear h; intro a w h
  refine retV h (results1 h rfl (.tmp rfl)) ?_
  rfl
def sE0 : List Tm := [⟨0, 0, (mkRat (-3) 4)⟩, ⟨1, 0, (mkRat (-3) 4)⟩, ⟨2, 1, (1 : Rat)⟩]
theorem sE0_k : OkE sE0 := by unfold sE0; decide +kernel
theorem sE0_p : parseE ⟨#[120, 94, 50, 42, 121, 32, 45, 32, 51, 47, 52, 42, 40, 120, 32, 43, 32, 49, 41]⟩ = .ok sE0 := okX_ok (by unfold sE0; decide +kernel)
theorem sE0_t : txtP textQ sE0 = ⟨#[45, 51, 47, 52, 32, 45, 32, 51, 47, 52, 42, 120, 32, 43, 32, 120, 94, 50, 42, 121]⟩ := by unfold sE0; decide +kernel
def sE1 : List Tm := [⟨2, 0, (-1 : Rat)⟩]
theorem sE1_k : OkE sE1 := by unfold sE1; decide +kernel
theorem sE1_p : parseE ⟨#[45, 120, 94, 50]⟩ = .ok sE1 := okX_ok (by unfold sE1; decide +kernel)
theorem sE1_t : txtP textQ sE1 = ⟨#[45, 120, 94, 50]⟩ := by unfold sE1; decide +kernel
def sE2 : List Tm := [⟨0, 0, (1 : Rat)⟩]
theorem sE2_k : OkE sE2 := by unfold sE2; decide +kernel
theorem sE2_p : parseE ⟨#[50, 42, 51, 47, 54]⟩ = .ok sE2 := okX_ok (by unfold sE2; decide +kernel)
theorem sE2_t : txtP textQ sE2 = ⟨#[49]⟩ := by unfold sE2; decide +kernel
def sE3 : List Tm := [⟨2, 0, (1 : Rat)⟩, ⟨1, 1, (2 : Rat)⟩, ⟨0, 2, (1 : Rat)⟩]
theorem sE3_k : OkE sE3 := by unfold sE3; decide +kernel
theorem sE3_p : parseE ⟨#[40, 120, 32, 43, 32, 121, 41, 94, 50]⟩ = .ok sE3 := okX_ok (by unfold sE3; decide +kernel)
theorem sE3_t : txtP textQ sE3 = ⟨#[120, 94, 50, 32, 43, 32, 50, 42, 120, 42, 121, 32, 43, 32, 121, 94, 50]⟩ := by unfold sE3; decide +kernel
def sE4 : List Tm := [⟨2, 0, (mkRat (1) 6)⟩]
theorem sE4_k : OkE sE4 := by unfold sE4; decide +kernel
theorem sE4_p : parseE ⟨#[120, 42, 120, 47, 50, 47, 51]⟩ = .ok sE4 := okX_ok (by unfold sE4; decide +kernel)
theorem sE4_t : txtP textQ sE4 = ⟨#[49, 47, 54, 42, 120, 94, 50]⟩ := by unfold sE4; decide +kernel
def sE5 : List Tm := []
theorem sE5_k : OkE sE5 := by unfold sE5; decide +kernel
theorem sE5_p : parseE ⟨#[48, 42, 120]⟩ = .ok sE5 := okX_ok (by unfold sE5; decide +kernel)
theorem sE5_t : txtP textQ sE5 = ⟨#[48]⟩ := by unfold sE5; decide +kernel
theorem fE0_p : parseE ⟨#[]⟩ = .error (4, 0) := erX_er (by decide +kernel)
theorem fE1_p : parseE ⟨#[120, 32, 43]⟩ = .error (4, 3) := erX_er (by decide +kernel)
theorem fE2_p : parseE ⟨#[120, 32, 121]⟩ = .error (4, 2) := erX_er (by decide +kernel)
theorem fE3_p : parseE ⟨#[48, 49]⟩ = .error (4, 1) := erX_er (by decide +kernel)
theorem fE4_p : parseE ⟨#[50, 42, 45, 120]⟩ = .error (4, 2) := erX_er (by decide +kernel)
theorem fE5_p : parseE ⟨#[40, 120]⟩ = .error (4, 2) := erX_er (by decide +kernel)
theorem fE6_p : parseE ⟨#[120, 41]⟩ = .error (4, 1) := erX_er (by decide +kernel)
theorem fE7_p : parseE ⟨#[49, 47, 120]⟩ = .error (4, 2) := erX_er (by decide +kernel)
theorem fE8_p : parseE ⟨#[49, 47, 48]⟩ = .error (5, 2) := erX_er (by decide +kernel)
theorem fE9_p : parseE ⟨#[120, 47, 32, 48]⟩ = .error (5, 3) := erX_er (by decide +kernel)
theorem fE10_p : parseE ⟨#[120, 94, 49, 51]⟩ = .error (9, 1) := erX_er (by decide +kernel)
theorem fE11_p : parseE ⟨#[120, 94, 55, 42, 121, 94, 54]⟩ = .error (9, 3) := erX_er (by decide +kernel)
theorem fE12_p : parseE ⟨#[40, 120, 94, 50, 41, 94, 55]⟩ = .error (9, 5) := erX_er (by decide +kernel)
theorem fE13_p : parseE ⟨#[49, 94, 49, 51]⟩ = .error (9, 1) := erX_er (by decide +kernel)
theorem fE14_p : parseE ⟨#[40, 40, 40, 57, 94, 49, 50, 41, 94, 49, 50, 41, 94, 49, 50, 41, 94, 49, 50]⟩ = .error (3, 16) := erX_er (by decide +kernel)
set_option maxHeartbeats 2000000 in
theorem C_works11 : CtrW Tryz.prog 10 [] [] (.bool true) := by
  refine fn_intro Tryz.func10 rfl Tryz.ntmps10 nb ?_
  intro S w0 a hS h
  refine gC h (zs (zr (za rfl (zn (zs (zs (zr (zw [_, _] rfl Tryz.call31 (C_says _ _ sE0 (by decide) sE0_k sE0_p sE0_t) (zp (.unOp rfl (un_not _)) ?_))))))))); clear h; intro a w h
  refine by_bool h (fun hc2 h => (by exfalso; exact absurd hc2 (by decide))) (fun hc2 h => ?_)
  refine gL h (zm rfl ?_); clear h; intro a w h
  refine wpl_guard 3 h rfl rfl (op_callW h (vs := [_, _]) rfl Tryz.call31 (C_says _ _ sE1 (by decide) sE1_k sE1_p sE1_t) (by simp) (by decide) ?_); clear h; intro a w h
  refine gL h (zq 3 rfl rfl (.unOp rfl (un_not _)) ?_); clear h; intro a w h
  refine by_bool h (fun hc5 h => (by exfalso; exact absurd hc5 (by decide))) (fun hc5 h => ?_)
  refine gL h (zp (.pickF rfl rfl) (zm rfl ?_)); clear h; intro a w h
  refine wpl_guard 7 h rfl rfl (op_callW h (vs := [_, _]) rfl Tryz.call31 (C_says _ _ sE2 (by decide) sE2_k sE2_p sE2_t) (by simp) (by decide) ?_); clear h; intro a w h
  refine gL h (zq 7 rfl rfl (.unOp rfl (un_not _)) ?_); clear h; intro a w h
  refine by_bool h (fun hc9 h => (by exfalso; exact absurd hc9 (by decide))) (fun hc9 h => ?_)
  refine gL h (zp (.pickF rfl rfl) (zm rfl ?_)); clear h; intro a w h
  refine wpl_guard 11 h rfl rfl (op_callW h (vs := [_, _]) rfl Tryz.call31 (C_says _ _ sE3 (by decide) sE3_k sE3_p sE3_t) (by simp) (by decide) ?_); clear h; intro a w h
  refine gL h (zq 11 rfl rfl (.unOp rfl (un_not _)) ?_); clear h; intro a w h
  refine by_bool h (fun hc13 h => (by exfalso; exact absurd hc13 (by decide))) (fun hc13 h => ?_)
  refine gL h (zp (.pickF rfl rfl) (zm rfl ?_)); clear h; intro a w h
  refine wpl_guard 15 h rfl rfl (op_callW h (vs := [_, _]) rfl Tryz.call31 (C_says _ _ sE4 (by decide) sE4_k sE4_p sE4_t) (by simp) (by decide) ?_); clear h; intro a w h
  refine gL h (zq 15 rfl rfl (.unOp rfl (un_not _)) ?_); clear h; intro a w h
  refine by_bool h (fun hc17 h => (by exfalso; exact absurd hc17 (by decide))) (fun hc17 h => ?_)
  refine gL h (zp (.pickF rfl rfl) (zm rfl ?_)); clear h; intro a w h
  refine wpl_guard 19 h rfl rfl (op_callW h (vs := [_, _]) rfl Tryz.call31 (C_says _ _ sE5 (by decide) sE5_k sE5_p sE5_t) (by simp) (by decide) ?_); clear h; intro a w h
  refine gL h (zq 19 rfl rfl (.unOp rfl (un_not _)) ?_); clear h; intro a w h
  refine by_bool h (fun hc21 h => (by exfalso; exact absurd hc21 (by decide))) (fun hc21 h => ?_)
  refine gL h (zp (.pickF rfl rfl) (zn ?_)); clear h; intro a w h
  change Code.wp _ _ _ _ _
  refine cond_false h rfl ?_
  refine gC h (zk (zs (zs (zr (zw [_, _, _] rfl Tryz.call32 (C_failsL _ _ 0 (by decide) fE0_p) (zp (.unOp rfl (un_not _)) ?_)))))); clear h; intro a w h
  refine by_bool h (fun hc24 h => (by exfalso; exact absurd hc24 (by decide))) (fun hc24 h => ?_)
  refine gL h (zm rfl ?_); clear h; intro a w h
  refine wpl_guard 25 h rfl rfl (op_callW h (vs := [_, _, _]) rfl Tryz.call32 (C_failsL _ _ 3 (by decide) fE1_p) (by simp) (by decide) ?_); clear h; intro a w h
  refine gL h (zq 25 rfl rfl (.unOp rfl (un_not _)) ?_); clear h; intro a w h
  refine by_bool h (fun hc27 h => (by exfalso; exact absurd hc27 (by decide))) (fun hc27 h => ?_)
  refine gL h (zp (.pickF rfl rfl) (zm rfl ?_)); clear h; intro a w h
  refine wpl_guard 29 h rfl rfl (op_callW h (vs := [_, _, _]) rfl Tryz.call32 (C_failsL _ _ 2 (by decide) fE2_p) (by simp) (by decide) ?_); clear h; intro a w h
  refine gL h (zq 29 rfl rfl (.unOp rfl (un_not _)) ?_); clear h; intro a w h
  refine by_bool h (fun hc31 h => (by exfalso; exact absurd hc31 (by decide))) (fun hc31 h => ?_)
  refine gL h (zp (.pickF rfl rfl) (zm rfl ?_)); clear h; intro a w h
  refine wpl_guard 33 h rfl rfl (op_callW h (vs := [_, _, _]) rfl Tryz.call32 (C_failsL _ _ 1 (by decide) fE3_p) (by simp) (by decide) ?_); clear h; intro a w h
  refine gL h (zq 33 rfl rfl (.unOp rfl (un_not _)) ?_); clear h; intro a w h
  refine by_bool h (fun hc35 h => (by exfalso; exact absurd hc35 (by decide))) (fun hc35 h => ?_)
  refine gL h (zp (.pickF rfl rfl) (zm rfl ?_)); clear h; intro a w h
  refine wpl_guard 37 h rfl rfl (op_callW h (vs := [_, _, _]) rfl Tryz.call32 (C_failsL _ _ 2 (by decide) fE4_p) (by simp) (by decide) ?_); clear h; intro a w h
  refine gL h (zq 37 rfl rfl (.unOp rfl (un_not _)) ?_); clear h; intro a w h
  refine by_bool h (fun hc39 h => (by exfalso; exact absurd hc39 (by decide))) (fun hc39 h => ?_)
  refine gL h (zp (.pickF rfl rfl) (zm rfl ?_)); clear h; intro a w h
  refine wpl_guard 41 h rfl rfl (op_callW h (vs := [_, _, _]) rfl Tryz.call32 (C_failsL _ _ 2 (by decide) fE5_p) (by simp) (by decide) ?_); clear h; intro a w h
  refine gL h (zq 41 rfl rfl (.unOp rfl (un_not _)) ?_); clear h; intro a w h
  refine by_bool h (fun hc43 h => (by exfalso; exact absurd hc43 (by decide))) (fun hc43 h => ?_)
  refine gL h (zp (.pickF rfl rfl) (zm rfl ?_)); clear h; intro a w h
  refine wpl_guard 45 h rfl rfl (op_callW h (vs := [_, _, _]) rfl Tryz.call32 (C_failsL _ _ 1 (by decide) fE6_p) (by simp) (by decide) ?_); clear h; intro a w h
  refine gL h (zq 45 rfl rfl (.unOp rfl (un_not _)) ?_); clear h; intro a w h
  refine by_bool h (fun hc47 h => (by exfalso; exact absurd hc47 (by decide))) (fun hc47 h => ?_)
  refine gL h (zp (.pickF rfl rfl) (zm rfl ?_)); clear h; intro a w h
  refine wpl_guard 49 h rfl rfl (op_callW h (vs := [_, _, _]) rfl Tryz.call32 (C_failsL _ _ 2 (by decide) fE7_p) (by simp) (by decide) ?_); clear h; intro a w h
  refine gL h (zq 49 rfl rfl (.unOp rfl (un_not _)) ?_); clear h; intro a w h
  refine by_bool h (fun hc51 h => (by exfalso; exact absurd hc51 (by decide))) (fun hc51 h => ?_)
  refine gL h (zp (.pickF rfl rfl) (zn ?_)); clear h; intro a w h
  change Code.wp _ _ _ _ _
  refine cond_false h rfl ?_
  refine gC h (zk (zs (zr (zw [_, _, _] rfl Tryz.call32 (C_failsL _ _ 2 (by decide) fE8_p) ?_)))); clear h; intro a w h
  refine by_bool h (fun hc53 h => ?_) (fun hc53 h => (by exfalso; exact absurd hc53 (by decide)))
  refine gL h (zm rfl ?_); clear h; intro a w h
  refine wpl_guard 54 h rfl rfl (op_callW h (vs := [_, _, _]) rfl Tryz.call32 (C_failsL _ _ 3 (by decide) fE9_p) (by simp) (by decide) ?_); clear h; intro a w h
  refine by_bool h (fun hc55 h => ?_) (fun hc55 h => (by exfalso; exact absurd hc55 (by decide)))
  refine gL h (zp (.pickT rfl rfl) (zm rfl ?_)); clear h; intro a w h
  refine wpl_guard 57 h rfl rfl (op_callW h (vs := [_, _, _]) rfl Tryz.call32 (C_failsL _ _ 1 (by decide) fE10_p) (by simp) (by decide) ?_); clear h; intro a w h
  refine by_bool h (fun hc58 h => ?_) (fun hc58 h => (by exfalso; exact absurd hc58 (by decide)))
  refine gL h (zp (.pickT rfl rfl) (zm rfl ?_)); clear h; intro a w h
  refine wpl_guard 60 h rfl rfl (op_callW h (vs := [_, _, _]) rfl Tryz.call32 (C_failsL _ _ 3 (by decide) fE11_p) (by simp) (by decide) ?_); clear h; intro a w h
  refine by_bool h (fun hc61 h => ?_) (fun hc61 h => (by exfalso; exact absurd hc61 (by decide)))
  refine gL h (zp (.pickT rfl rfl) (zm rfl ?_)); clear h; intro a w h
  refine wpl_guard 63 h rfl rfl (op_callW h (vs := [_, _, _]) rfl Tryz.call32 (C_failsL _ _ 5 (by decide) fE12_p) (by simp) (by decide) ?_); clear h; intro a w h
  refine by_bool h (fun hc64 h => ?_) (fun hc64 h => (by exfalso; exact absurd hc64 (by decide)))
  refine gL h (zp (.pickT rfl rfl) (zm rfl ?_)); clear h; intro a w h
  refine wpl_guard 66 h rfl rfl (op_callW h (vs := [_, _, _]) rfl Tryz.call32 (C_failsL _ _ 1 (by decide) fE13_p) (by simp) (by decide) ?_); clear h; intro a w h
  refine by_bool h (fun hc67 h => ?_) (fun hc67 h => (by exfalso; exact absurd hc67 (by decide)))
  refine gL h (zp (.pickT rfl rfl) (zm rfl ?_)); clear h; intro a w h
  refine wpl_guard 69 h rfl rfl (op_callW h (vs := [_, _, _]) rfl Tryz.call32 (C_failsL _ _ 16 (by decide) fE14_p) (by simp) (by decide) ?_); clear h; intro a w h
  refine by_bool h (fun hc70 h => ?_) (fun hc70 h => (by exfalso; exact absurd hc70 (by decide)))
  refine gL h (zp (.pickT rfl rfl) (za rfl (zn (zt ?_)))); clear h; intro a w h
  refine retV h (results1 h rfl (.tmp rfl)) ?_
  rfl
end
section
section
variable {s : ByteArray} {ins : Ins} {k e f : Nat} {p : List Tm} {er : Fa}
def StopE (s : ByteArray) (e : Nat) : Prop := blkE s e = e ∧ takesE s 94 e = false ∧ takesE s 42 e = false ∧ takesE s 47 e = false ∧ takesE s 43 e = false ∧ takesE s 45 e = false
end
theorem blkE_not {s : ByteArray} {k : Nat} (h : chA s k ≠ 32) : blkE s k = k := blkE_fix (fun hh => h hh.2)
theorem chA_end {s : ByteArray} {k : Nat} (hk : s.size ≤ k) : chA s k = 0 := by
  unfold chA
  have : s.data.toList.length = s.size := rfl
  simp [List.getD, List.getElem?_eq_none (show s.data.toList.length ≤ k by omega)]
def opn (c : UInt8) (n : Nat) : ByteArray := ⟨(List.replicate n c).toArray⟩
def nestS (n : Nat) : ByteArray := opn 40 n ++ ⟨#[120]⟩ ++ opn 41 n
def bS (m : Nat) : ByteArray := ⟨(121 :: List.replicate (m - 1) 32).toArray⟩
end
section
structure Ag (s s' : ByteArray) (a : Nat) : Prop where
  l1 : a < s.size
  l2 : a < s'.size
  eq : ∀ i, i ≤ a → chA s i = chA s' i
  nb : chA s a ≠ 32
def Inc (s : ByteArray) (a : Nat) (e : Int) : Prop := e = 4 ∨ e = 5 ∨ (e = 3 ∧ chA s a = 40)
def Cod (e : Int) : Prop := e = 3 ∨ e = 4 ∨ e = 5 ∨ e = 9
structure PF {α : Type} (s s' : ByteArray) (k : Nat) (r r' : Except Fa (α × Nat)) : Prop where
  mono : ∀ p b, r = .ok (p, b) → k ≤ b
  mle : k ≤ s.size → ∀ p b, r = .ok (p, b) → b ≤ s.size
  ge : ∀ e i, r = .error (e, i) → k ≤ i
  le : k ≤ s.size → ∀ e i, r = .error (e, i) → i ≤ s.size
  okc : ∀ a, Ag s s' a → ∀ p b, r = .ok (p, b) → b ≤ a → r' = .ok (p, b)
  erc : ∀ a, Ag s s' a → ∀ e, r = .error (e, a) → Inc s a e → r' = .error (e, a)
  cod : ∀ e i, r = .error (e, i) → Cod e
theorem PF.at {α : Type} {s s' : ByteArray} {k k2 : Nat} {r r' R' : Except Fa (α × Nat)} (h : PF s s' k2 r r') (h1 : k ≤ k2) (h2 : k ≤ s.size → k2 ≤ s.size) (h3 : ∀ a, Ag s s' a → k2 ≤ a → R' = r') : PF s s' k r R' :=
  ⟨fun p b e => by have := h.mono p b e; omega, fun hk => h.mle (h2 hk), fun e i q => by have := h.ge e i q; omega, fun hk => h.le (h2 hk),
   fun a ha p b e hb => by rw [h3 a ha (by have := h.mono p b e; omega)]; exact h.okc a ha p b e hb,
   fun a ha e q hi => by rw [h3 a ha (h.ge e a q)]; exact h.erc a ha e q hi, h.cod⟩
section
variable {s s' : ByteArray} {a k : Nat}
theorem Ag.blk (h : Ag s s' a) : ∀ n k, a - k ≤ n → k ≤ a → blkE s k = blkE s' k ∧ blkE s k ≤ a
  | n, k, hn, hk => by
    have e1 := h.eq k hk
    have l1 := h.l1
    have l2 := h.l2
    by_cases hb : chA s k = 32
    · have hka : k ≠ a := fun e => h.nb (by rw [← e]; exact hb)
      rcases n with _ | n
      · omega
      · obtain ⟨a1, a2⟩ := Ag.blk h n (k + 1) (by omega) (by omega)
        rw [blkE_step (by omega) hb] at a1 a2
        rw [blkE_step (by omega) (by rw [← e1]; exact hb)] at a1
        exact ⟨a1, a2⟩
    · rw [blkE_not hb, blkE_not (by rw [← e1]; exact hb)]; exact ⟨rfl, hk⟩
theorem Ag.b (h : Ag s s' a) (hk : k ≤ a) : blkE s k = blkE s' k := (h.blk _ k (Nat.le_refl _) hk).1
theorem Ag.ble (h : Ag s s' a) (hk : k ≤ a) : blkE s k ≤ a := (h.blk _ k (Nat.le_refl _) hk).2
theorem Ag.nx (h : Ag s s' a) (hk : k ≤ a) : nextE s k = nextE s' k := by
  have h1 := h.ble hk
  have l1 := h.l1
  have l2 := h.l2
  unfold nextE
  rw [← h.b hk, if_neg (by omega), if_neg (by omega), h.eq _ h1]
theorem Ag.dig (h : Ag s s' a) (a0 : Nat) : ∀ n k, a - k ≤ n → a0 ≤ k → digE s a0 (s.size - k) k ≤ a → digE s' a0 (s'.size - k) k = digE s a0 (s.size - k) k
  | n, k, hn, h0, hd => by
    have l1 := h.l1
    have l2 := h.l2
    have hge := digE_ge s a0 (s.size - k) k
    have e1 := h.eq k (by omega)
    have e2 := h.eq a0 (by omega)
    by_cases hc : k < s.size ∧ isDg (chA s k) = true ∧ (k = a0 ∨ chA s a0 ≠ 48)
    · have hs := digE_step hc
      have hge2 := digE_ge s a0 (s.size - (k + 1)) (k + 1)
      rcases n with _ | n
      · omega
      · have ih := Ag.dig h a0 n (k + 1) (by omega) (by omega) (by omega)
        rw [← hs, ← ih]
        exact (digE_step ⟨by omega, by rw [← e1]; exact hc.2.1, by rw [← e2]; exact hc.2.2⟩).symm
    · rw [digE_stop hc, digE_stop (fun hh => hc ⟨by omega, by rw [e1]; exact hh.2.1, by rw [e2]; exact hh.2.2⟩)]
theorem valE_eq (h : Ag s s' a) (k : Nat) : ∀ n, k + n ≤ a + 1 → valE s' k n = valE s k n
  | 0, _ => rfl
  | n + 1, hn => by rw [valE, valE, valE_eq h k n (by omega), h.eq (k + n) (by omega)]
theorem valE_ge (s : ByteArray) (k : Nat) : ∀ n, chA s k - 48 ≤ valE s k (n + 1)
  | 0 => by rw [valE, valE]; simp
  | n + 1 => by rw [valE]; have := valE_ge s k n; omega
theorem numE_ok1 {n c b : Nat} (h : numE s k = .ok (n, c, b)) : k ≤ c ∧ c < b ∧ c = blkE s k ∧ b = digE s c (s.size - c) c ∧ n = valE s c (b - c) ∧ isDg (nextE s k) = true ∧ c < s.size := by
  unfold numE at h
  simp only at h
  split at h
  · cases h
  · rename_i hd
    simp only [Except.ok.injEq, Prod.mk.injEq] at h
    obtain ⟨h1, h2, h3⟩ := h
    subst h2
    have hge := blkE_ge s k
    have hnz : blkE s k ≠ s.size := fun e => hd (by unfold nextE; rw [if_pos e]; rfl)
    have hlt : blkE s k < s.size := by
      rcases Nat.lt_or_ge (blkE s k) s.size with h' | h'
      · exact h'
      · exfalso; apply hd
        unfold nextE; rw [if_neg hnz, chA_end h']; rfl
    have hdg : isDg (chA s (blkE s k)) = true := by
      have : nextE s k = chA s (blkE s k) := by unfold nextE; rw [if_neg hnz]
      rw [this] at hd; simpa using hd
    have h0 := digE_step (s := s) (a := blkE s k) (k := blkE s k) ⟨hlt, hdg, .inl rfl⟩
    have h4 := digE_ge s (blkE s k) (s.size - (blkE s k + 1)) (blkE s k + 1)
    exact ⟨hge, by omega, rfl, h3.symm, by rw [← h1, h3], by simpa using hd, hlt⟩
theorem Ag.num (h : Ag s s' a) {n c b : Nat} (hn : numE s k = .ok (n, c, b)) (hb : b ≤ a) : numE s' k = .ok (n, c, b) := by
  obtain ⟨h1, h2, h3, h4, h5, h6, h7⟩ := numE_ok1 hn
  unfold numE
  simp only [← h.nx (show k ≤ a by omega), h6, ← h.b (show k ≤ a by omega), Bool.true_eq_false, if_false]
  rw [← h3, h.dig c _ c (Nat.le_refl _) (Nat.le_refl _) (by omega), ← h4, valE_eq h c _ (by omega), ← h5]
theorem Ag.zero (h : Ag s s' a) {b : Nat} (hn : numE s k = .ok (0, a, b)) : ∃ b', numE s' k = .ok (0, a, b') := by
  obtain ⟨h1, h2, h3, h4, h5, h6, h7⟩ := numE_ok1 hn
  obtain ⟨m, hm⟩ : ∃ m, b - a = m + 1 := ⟨b - a - 1, by omega⟩
  rw [hm] at h5
  have hv := valE_ge s a m
  have hka : k ≤ a := h1
  have hnx : nextE s k = chA s a := by unfold nextE; rw [← h3, if_neg (by omega)]
  have h48 : chA s a = 48 := by
    rw [hnx] at h6
    unfold isDg at h6
    rw [Bool.and_eq_true, decide_eq_true_eq, decide_eq_true_eq] at h6
    omega
  have h48' : chA s' a = 48 := by rw [← h.eq a (Nat.le_refl _)]; exact h48
  have hd : digE s' a (s'.size - a) a = a + 1 := by
    have l2 := h.l2
    rw [← digE_step ⟨l2, by rw [h48']; rfl, .inl rfl⟩]
    exact digE_stop (fun hh => by rcases hh.2.2 with e | e; exact absurd e (by omega); exact e h48')
  unfold numE
  simp only [← h.nx hka, h6, ← h.b hka, Bool.true_eq_false, if_false]
  rw [← h3, hd]
  exact ⟨_, by rw [show a + 1 - a = 0 + 1 by omega, valE, valE, Nat.add_zero, h48']⟩
end
def InsPF (s s' : ByteArray) (ins ins' : Ins) : Prop := match ins, ins' with
  | none, none => True
  | some f, some f' => ∀ k, PF s s' k (f k) (f' k)
  | _, _ => False
section
variable {s s' : ByteArray} {ins ins' : Ins}
theorem PF.loop {α : Type} {T : Nat → Except Fa (α × Nat)} {k b f' : Nat} {r R' : Except Fa (α × Nat)} (ih : ∀ g, s'.size - b < g → PF s s' b r (T g)) (h1 : k < b) (h2 : k ≤ s.size → b ≤ s.size) (hf : s'.size - k < f' + 1) (key : ∀ a, Ag s s' a → b ≤ a → R' = T f') : PF s s' k r R' := by
  have ih0 := ih (s'.size - b + 1) (by omega)
  refine ⟨fun q e h => ?_, fun hk q e h => ?_, fun e i h => ?_, fun hk e i h => ?_, fun a ha q e h he => ?_, fun a ha e h hi => ?_, ih0.cod⟩
  · have := ih0.mono q e h; omega
  · exact ih0.mle (h2 hk) q e h
  · have := ih0.ge e i h; omega
  · exact ih0.le (h2 hk) e i h
  · have h5 := ih0.mono q e h
    have l2 := ha.l2
    rw [key a ha (by omega)]
    exact (ih f' (by omega)).okc a ha q e h he
  · have h5 := ih0.ge e a h
    have l2 := ha.l2
    rw [key a ha (by omega)]
    exact (ih f' (by omega)).erc a ha e h hi
end
def cutS (s t : ByteArray) (a : Nat) : Nat → ByteArray
  | 0 => s.extract 0 (a + 1)
  | n + 1 => cutS s t a n ++ ⟨#[43]⟩ ++ t
def cntS (q : Nat → Bool) (s : ByteArray) : Nat → Nat
  | 0 => 0
  | i + 1 => if q (chA s i) = true then cntS q s i + 1 else cntS q s i
def isCt (c : Nat) : Bool := decide (c = 94)
def longB (s : ByteArray) : Bool := decide (60 < cntS isDg s s.size) || decide (10 < cntS isCt s s.size)
end
section
end
section
inductive Tok where
  | ch (c : UInt8)
  | num (n : Nat)
def nd (l : List UInt8) : Prop := ∀ b w, l = b :: w → ¬ isD b
inductive Spl : List UInt8 → List Tok → Prop
  | nil : Spl [] []
  | bl {l ts} (h : Spl l ts) : Spl (32 :: l) ts
  | ch {c l ts} (h1 : c ≠ 32) (h2 : ¬ isD c) (h0 : c ≠ 0 ∧ c.toNat < 128) (h : Spl l ts) : Spl (c :: l) (.ch c :: ts)
  | num {n l ts} (hl : nd l) (h : Spl l ts) : Spl (Lib.decDigits n ++ l) (.num n :: ts)
theorem nd_nil : nd [] := fun _ _ h => nomatch h
theorem nd_cons {c : UInt8} {l : List UInt8} (h : ¬ isD c) : nd (c :: l) := fun b w e => by rw [← (List.cons.inj e).1]; exact h
def rst (s : ByteArray) (k : Nat) : List UInt8 := s.data.toList.drop k
theorem size_list (s : ByteArray) : s.data.toList.length = s.size := rfl
theorem rst_cons {s : ByteArray} {k : Nat} {c : UInt8} {l : List UInt8} (h : rst s k = c :: l) : k < s.size ∧ chA s k = c.toNat ∧ rst s (k + 1) = l := by
  unfold rst at *
  have hlt : k < s.data.toList.length := by
    rcases Nat.lt_or_ge k s.data.toList.length with h' | h'
    · exact h'
    · rw [List.drop_eq_nil_of_le h'] at h; cases h
  rw [List.drop_eq_getElem_cons hlt] at h
  obtain ⟨h1, h2⟩ := List.cons.inj h
  refine ⟨by rw [← size_list]; exact hlt, ?_, h2⟩
  unfold chA; rw [List.getD, List.getElem?_eq_getElem hlt, Option.getD_some, h1]
theorem rst_nil {s : ByteArray} {k : Nat} (h : rst s k = []) : s.size ≤ k := by
  unfold rst at h
  rw [← size_list]; exact List.drop_eq_nil_iff.1 h
theorem rst_app {s : ByteArray} {k : Nat} {u l : List UInt8} (h : rst s k = u ++ l) : rst s (k + u.length) = l := by
  unfold rst at *
  rw [← List.drop_drop, h, List.drop_left]
theorem u8_ne {c d : UInt8} (h : c ≠ d) : c.toNat ≠ d.toNat := fun e => h (UInt8.toNat_inj.1 e)
theorem spl_blk {s : ByteArray} {ts : List Tok} : ∀ {l : List UInt8}, Spl l ts → ∀ {k : Nat}, rst s k = l → Spl (rst s (blkE s k)) ts ∧ (blkE s k = k ∨ k < blkE s k) ∧ (match ts with | [] => s.size ≤ blkE s k | .ch c :: _ => rst s (blkE s k) ≠ [] ∧ chA s (blkE s k) = c.toNat | .num n :: _ => ∃ l', rst s (blkE s k) = Lib.decDigits n ++ l' ∧ nd l') := by
  intro l h
  induction h with
  | nil =>
    intro k hk
    have h1 := rst_nil hk
    have e : blkE s k = k := blkE_fix (fun hh => by omega)
    rw [e]; exact ⟨by rw [hk]; exact .nil, .inl rfl, h1⟩
  | @bl l ts h ih =>
    intro k hk
    obtain ⟨h1, h2, h3⟩ := rst_cons hk
    obtain ⟨a, b, c⟩ := ih h3
    rw [blkE_step h1 h2] at a b c
    have := blkE_ge s k
    exact ⟨a, by omega, c⟩
  | @ch c l ts h1 h2 h0 h ih =>
    intro k hk
    obtain ⟨g1, g2, g3⟩ := rst_cons hk
    have e : blkE s k = k := blkE_fix (fun hh => u8_ne h1 (by rw [← g2, hh.2]; rfl))
    rw [e]
    exact ⟨by rw [hk]; exact .ch h1 h2 h0 h, .inl rfl, by rw [hk]; exact List.cons_ne_nil _ _, g2⟩
  | @num n l ts hl h ih =>
    intro k hk
    have e : blkE s k = k := blkE_fix (fun hh => by
      rcases hd : Lib.decDigits n with _ | ⟨b, w⟩
      · exact decDigits_ne n hd
      · rw [hd] at hk
        obtain ⟨g1, g2, g3⟩ := rst_cons hk
        have := decDigits_D n b (by rw [hd]; exact List.mem_cons_self)
        unfold isD at this
        rw [g2] at hh; omega)
    rw [e]
    exact ⟨by rw [hk]; exact .num hl h, .inl rfl, l, hk, hl⟩
section
variable {s : ByteArray} {k : Nat} {ts : List Tok}
theorem spl_skip (h : Spl (rst s k) ts) : Spl (rst s (blkE s k)) ts := (spl_blk h rfl).1
theorem spl_ch {c : UInt8} (hk : k ≤ s.size) (h : Spl (rst s k) (.ch c :: ts)) : takesE s c.toNat k = true ∧ blkE s k < s.size ∧ chA s (blkE s k) = c.toNat ∧ Spl (rst s (blkE s k + 1)) ts := by
  obtain ⟨h1, _, h2, h3⟩ := spl_blk h rfl
  rcases hr : rst s (blkE s k) with _ | ⟨b, l⟩
  · exact absurd hr h2
  · obtain ⟨g1, g2, g3⟩ := rst_cons hr
    have hbc : b = c := UInt8.toNat_inj.1 (g2.symm.trans h3)
    subst hbc
    rw [hr] at h1
    generalize hq : b :: l = q at h1
    cases h1 with
    | bl h =>
      have hb32 : b = 32 := (List.cons.inj hq).1
      exact absurd ⟨g1, by rw [h3, hb32]; rfl⟩ (blkE_stop s k)
    | ch a1 a2 a0 h =>
      obtain ⟨_, hq2⟩ := List.cons.inj hq
      refine ⟨?_, g1, h3, by rw [g3, hq2]; exact h⟩
      exact (takesE_iff hk (by
        rcases Nat.eq_zero_or_pos b.toNat with e | e
        · exact absurd (UInt8.toNat_inj.1 (show b.toNat = (0 : UInt8).toNat from e)) a0.1
        · exact e)).2 ⟨g1, h3⟩
theorem spl_no {c : UInt8} {d : Nat} (hk : k ≤ s.size) (h : Spl (rst s k) (.ch c :: ts)) (hne : c.toNat ≠ d) (hd : 0 < d) : takesE s d k = false := by
  obtain ⟨_, h1, h2, _⟩ := spl_ch hk h
  rcases hh : takesE s d k with _ | _
  · rfl
  · exact absurd ((takesE_iff hk hd).1 hh).2 (by rw [h2]; exact hne)
theorem spl_end {d : Nat} (hk : k ≤ s.size) (h : Spl (rst s k) []) (hd : 0 < d) : takesE s d k = false ∧ blkE s k = s.size := by
  obtain ⟨_, _, h1⟩ := spl_blk h rfl
  have := blkE_le hk
  refine ⟨?_, by omega⟩
  rcases hh : takesE s d k with _ | _
  · rfl
  · have := ((takesE_iff hk hd).1 hh).1; omega
theorem digE_run (s : ByteArray) (a : Nat) : ∀ (u : List UInt8) (k : Nat) (l : List UInt8), rst s k = u ++ l → (∀ b ∈ u, isD b) → nd l → (k = a ∨ chA s a ≠ 48) → (k = a → u.length ≤ 1 ∨ chA s a ≠ 48) → digE s a (s.size - k) k = k + u.length
  | [], k, l, h, hu, hl, h1, h2 => by
    refine digE_stop (fun hh => ?_)
    rw [List.nil_append] at h
    rcases l with _ | ⟨b, w⟩
    · have := rst_nil h; omega
    · obtain ⟨g1, g2, g3⟩ := rst_cons h
      refine hl b w rfl ?_
      have := hh.2.1
      unfold isDg at this
      rw [Bool.and_eq_true, decide_eq_true_eq, decide_eq_true_eq, g2] at this
      exact this
  | b :: u, k, l, h, hu, hl, h1, h2 => by
    rw [List.cons_append] at h
    obtain ⟨g1, g2, g3⟩ := rst_cons h
    have hb := hu b List.mem_cons_self
    have hdg : isDg (chA s k) = true := by
      unfold isDg; rw [Bool.and_eq_true, decide_eq_true_eq, decide_eq_true_eq, g2]; exact hb
    rw [← digE_step ⟨g1, hdg, h1⟩]
    rcases u with _ | ⟨b2, u⟩
    · by_cases h48 : chA s a ≠ 48
      · rw [digE_run s a [] (k + 1) l (by simpa using g3) (fun _ h => nomatch h) hl (.inr h48) (fun e => .inr h48)]; simp
      · have hka : k = a := h1.elim id (fun h => absurd h h48)
        have : digE s a (s.size - (k + 1)) (k + 1) = k + 1 := digE_stop (fun hh => by
          rcases hh.2.2 with e | e
          · omega
          · exact h48 e)
        rw [this]; rfl
    · have h48 : chA s a ≠ 48 := by
        rcases h1 with e | e
        · rcases h2 e with h3 | h3
          · simp at h3
          · exact h3
        · exact e
      rw [digE_run s a (b2 :: u) (k + 1) l g3 (fun x hx => hu x (List.mem_cons_of_mem _ hx)) hl (.inr h48) (fun e => .inr h48), List.length_cons (a := b)]; omega
theorem chA_app {s : ByteArray} {k : Nat} {u l : List UInt8} (h : rst s k = u ++ l) {i : Nat} (hi : i < u.length) : chA s (k + i) = (u.getD i 0).toNat := by
  unfold chA
  have e : s.data.toList[k + i]? = (rst s k)[i]? := by unfold rst; rw [List.getElem?_drop]
  rw [List.getD, e, h, List.getElem?_append_left hi, List.getD]
theorem valE_dec (s : ByteArray) : ∀ (n k : Nat) (l : List UInt8), rst s k = Lib.decDigits n ++ l → valE s k (Lib.decDigits n).length = n := by
  intro n
  induction n using Nat.strongRecOn with
  | _ n ih =>
    intro k l h
    by_cases hn : n < 10
    · have hd := Lib.decDigits_one hn
      have h0 := chA_app h (i := 0) (by rw [hd]; exact Nat.one_pos)
      rw [hd] at h0 ⊢
      rw [show ([UInt8.ofNat (48 + n)] : List UInt8).length = 0 + 1 from rfl, valE, valE, h0]
      show 10 * 0 + ((UInt8.ofNat (48 + n)).toNat - 48) = n
      rw [UInt8.toNat_ofNat']; omega
    · have e : Lib.decDigits n = Lib.decDigits (n / 10) ++ [UInt8.ofNat (48 + n % 10)] := by rw [Lib.decDigits, dif_neg hn]
      have h1 : rst s k = Lib.decDigits (n / 10) ++ (UInt8.ofNat (48 + n % 10) :: l) := by rw [h, e, List.append_assoc]; rfl
      have h2 := ih (n / 10) (by omega) k _ h1
      have h3 := chA_app h (i := (Lib.decDigits (n / 10)).length) (by rw [e]; simp)
      rw [e] at h3 ⊢
      rw [List.length_append, List.length_singleton, valE, h2, h3]
      have : (Lib.decDigits (n / 10) ++ [UInt8.ofNat (48 + n % 10)]).getD (Lib.decDigits (n / 10)).length 0 = UInt8.ofNat (48 + n % 10) := by simp [List.getD]
      rw [this, UInt8.toNat_ofNat']; omega
theorem dec_zero : ∀ (n : Nat) (w : List UInt8), Lib.decDigits n = 48 :: w → n = 0 := by
  intro n
  induction n using Nat.strongRecOn with
  | _ n ih =>
    intro w h
    by_cases hn : n < 10
    · rw [Lib.decDigits_one hn] at h
      have := congrArg UInt8.toNat (List.cons.inj h).1
      rw [UInt8.toNat_ofNat'] at this
      have e : (48 : UInt8).toNat = 48 := rfl
      omega
    · have e : Lib.decDigits n = Lib.decDigits (n / 10) ++ [UInt8.ofNat (48 + n % 10)] := by rw [Lib.decDigits, dif_neg hn]
      rcases hd : Lib.decDigits (n / 10) with _ | ⟨b, v⟩
      · exact absurd hd (decDigits_ne _)
      · rw [e, hd, List.cons_append] at h
        have := ih (n / 10) (by omega) v (by rw [hd, (List.cons.inj h).1])
        omega
theorem spl_num {n : Nat} (hk : k ≤ s.size) (h : Spl (rst s k) (.num n :: ts)) : ∃ b, numE s k = .ok (n, blkE s k, b) ∧ Spl (rst s b) ts ∧ k < b ∧ b ≤ s.size := by
  obtain ⟨h1, hb, l, hr, hl⟩ := spl_blk h rfl
  have hsp : Spl l ts := by
    rw [hr] at h1
    generalize hq : Lib.decDigits n ++ l = q at h1
    cases h1 with
    | bl h =>
      rcases hd : Lib.decDigits n with _ | ⟨b, w⟩
      · exact absurd hd (decDigits_ne n)
      · rw [hd, List.cons_append] at hq
        have := decDigits_D n b (by rw [hd]; exact List.mem_cons_self)
        rw [(List.cons.inj hq).1] at this
        exact absurd this (by unfold isD; decide)
    | num hl' h' =>
      obtain ⟨_, e⟩ := span_inj (decDigits_D _) (decDigits_D _) hl hl' hq
      rw [e]; exact h'
  have hne := decDigits_ne n
  rcases hd : Lib.decDigits n with _ | ⟨c, w⟩
  · exact absurd hd hne
  · have hr2 := hr
    rw [hd, List.cons_append] at hr2
    obtain ⟨g1, g2, g3⟩ := rst_cons hr2
    have hcD := decDigits_D n c (by rw [hd]; exact List.mem_cons_self)
    have hge := blkE_ge s k
    have hrun := digE_run s (blkE s k) (Lib.decDigits n) (blkE s k) l hr (decDigits_D n) hl (.inl rfl) (fun _ => by
      by_cases h48 : chA s (blkE s k) = 48
      · refine .inl ?_
        have : c = 48 := UInt8.toNat_inj.1 (by rw [← g2, h48]; rfl)
        have := dec_zero n w (by rw [hd, this])
        subst this
        rw [Lib.decDigits_one (by decide)]; decide
      · exact .inr h48)
    have hdg : isDg (nextE s k) = true := by
      have : nextE s k = chA s (blkE s k) := by unfold nextE; rw [if_neg (by omega)]
      rw [this, g2]; unfold isDg; rw [Bool.and_eq_true, decide_eq_true_eq, decide_eq_true_eq]; exact hcD
    obtain ⟨e1, e2⟩ := numE_dig hk hdg
    rw [hrun] at e1 e2
    rw [Nat.add_sub_cancel_left, valE_dec s n _ l hr] at e1 e2
    exact ⟨_, e1, by rw [rst_app hr]; exact hsp, by have := e2.lt; omega, e2.le⟩
theorem spl_nnum {n d : Nat} (hk : k ≤ s.size) (h : Spl (rst s k) (.num n :: ts)) (hd : isDg d = false) (h0 : 0 < d) : takesE s d k = false := by
  obtain ⟨b, h1, _, _, _⟩ := spl_num hk h
  rcases hh : takesE s d k with _ | _
  · rfl
  · exfalso
    obtain ⟨g1, g2⟩ := (takesE_iff hk h0).1 hh
    have hN := numE_ok hk h1
    have := hN.dig (blkE s k) (Nat.le_refl _) hN.lt
    rw [g2, hd] at this; cases this
end
end
section
def Sk (s : ByteArray) (k : Nat) (ts : List Tok) : Prop := k ≤ s.size ∧ Spl (rst s k) ts
def hdc : List Tok → Nat
  | [] => 0
  | .ch c :: _ => c.toNat
  | .num _ :: _ => 1000
section
variable {s : ByteArray} {k n : Nat} {c : UInt8} {ts : List Tok}
theorem Sk.no (h : Sk s k ts) {d : Nat} (h1 : hdc ts ≠ d) (h2 : 0 < d) (h3 : isDg d = false) : takesE s d k = false := by
  obtain ⟨hk, h⟩ := h
  rcases ts with _ | ⟨t, ts⟩
  · exact (spl_end hk h h2).1
  · rcases t with c | n
    · exact spl_no hk h h1 h2
    · exact spl_nnum hk h h3 h2
theorem Sk.yes (h : Sk s k (.ch c :: ts)) : takesE s c.toNat k = true ∧ Sk s (blkE s k + 1) ts := by
  obtain ⟨hk, h⟩ := h
  obtain ⟨h1, h2, h3, h4⟩ := spl_ch hk h
  exact ⟨h1, by omega, h4⟩
theorem Sk.blk (h : Sk s k ts) : Sk s (blkE s k) ts := ⟨blkE_le h.1, spl_skip h.2⟩
theorem Sk.num (h : Sk s k (.num n :: ts)) : ∃ b, numE s k = .ok (n, blkE s k, b) ∧ Sk s b ts ∧ k < b := by
  obtain ⟨b, h1, h2, h3, h4⟩ := spl_num h.1 h.2
  exact ⟨b, h1, ⟨h4, h2⟩, h3⟩
theorem Sk.lt (h : Sk s k (.ch c :: ts)) : k < s.size := by
  obtain ⟨_, h2, _⟩ := spl_ch h.1 h.2
  have := blkE_ge s k; omega
end
def Rd (s : ByteArray) (F : Nat → Except Fa (List Tm × Nat)) (ts : List Tok) (p : List Tm) (ts' : List Tok) : Prop :=
  ∀ k, Sk s k ts → ∃ k', F k = .ok (p, k') ∧ k < k' ∧ Sk s k' ts'
def Rl (s : ByteArray) (F : Nat → Nat → Except Fa (List Tm × Nat)) (ts : List Tok) (p : List Tm) (ts' : List Tok) : Prop :=
  ∀ f k, s.size - k < f → Sk s k ts → ∃ k', F f k = .ok (p, k') ∧ k ≤ k' ∧ Sk s k' ts'
section
variable {s : ByteArray} {ins : Ins} {n : Nat} {ts ts' ts2 : List Tok} {p q r : List Tm}
theorem rb_x : Rd s (baseE s ins) (.ch 120 :: ts) [⟨1, 0, 1⟩] ts := fun k h => by
  obtain ⟨h1, h2⟩ := h.yes
  have := blkE_ge s k
  exact ⟨_, baseE_x h1, by omega, h2⟩
theorem rb_y : Rd s (baseE s ins) (.ch 121 :: ts) [⟨0, 1, 1⟩] ts := fun k h => by
  obtain ⟨h1, h2⟩ := h.yes
  have := blkE_ge s k
  exact ⟨_, baseE_y (h.no (Nat.ne_of_beq_eq_false rfl) (by decide) rfl) h1, by omega, h2⟩
theorem rb_num : Rd s (baseE s ins) (.num n :: ts) (norm [⟨0, 0, ((n : Int) : Rat)⟩]) ts := fun k h => by
  obtain ⟨b, h1, h2, h3⟩ := h.num
  exact ⟨_, baseE_num (h.no (Nat.ne_of_beq_eq_false rfl) (by decide) rfl) (h.no (Nat.ne_of_beq_eq_false rfl) (by decide) rfl) (h.no (Nat.ne_of_beq_eq_false rfl) (by decide) rfl) h1, h3, h2⟩
theorem rb_br {f : Nat → Except Fa (List Tm × Nat)} (h : Rd s f ts p (.ch 41 :: ts')) : Rd s (baseE s (some f)) (.ch 40 :: ts) p ts' := fun k hk => by
  obtain ⟨h1, h2⟩ := hk.yes
  obtain ⟨k', h3, h4, h5⟩ := h _ h2
  obtain ⟨h6, h7⟩ := h5.yes
  have e1 := blkE_ge s k
  have e2 := blkE_ge s k'
  refine ⟨_, ?_, ?_, h7⟩
  · rw [baseE_br (hk.no (Nat.ne_of_beq_eq_false rfl) (by decide) rfl) (hk.no (Nat.ne_of_beq_eq_false rfl) (by decide) rfl) h1]
    unfold brE
    simp only [h3, show takesE s 41 k' = true from h6, if_true]
  · omega
theorem rf_one (h : Rd s (baseE s ins) ts p ts') (hh : hdc ts' ≠ 94) : Rd s (factE s ins) ts p ts' := fun k hk => by
  obtain ⟨k', h1, h2, h3⟩ := h k hk
  have := blkE_ge s k'
  exact ⟨_, factE_one h1 (h3.no hh (by decide) rfl), by omega, h3.blk⟩
theorem rf_pow (h : Rd s (baseE s ins) ts p (.ch 94 :: .num n :: ts')) (h12 : ¬ (n > 12 ∨ (n : Int) * degN p > 12)) (hs : ¬ n * sizeE p > 16384) : Rd s (factE s ins) ts (norm (powL p n)) ts' := fun k hk => by
  obtain ⟨k', h1, h2, h3⟩ := h k hk
  obtain ⟨h4, h5⟩ := h3.yes
  obtain ⟨b, h6, h7, h8⟩ := h5.num
  have := blkE_ge s k'
  exact ⟨_, factE_pow h1 h4 h6 h12 hs, by omega, h7⟩
theorem rl_stop (h1 : hdc ts ≠ 42) (h2 : hdc ts ≠ 47) : Rl s (fun f k => termE s ins f q k) ts q ts := fun f k hf hk => by
  rcases f with _ | f
  · omega
  · exact ⟨_, termE_stop (hk.no h1 (by decide) rfl) (hk.no h2 (by decide) rfl), blkE_ge s k, hk.blk⟩
theorem rl_mul (h : Rd s (factE s ins) ts p ts') (hd : mulOk q p) (hl : ¬ sizeE q + sizeE p > 16384) (hr : Rl s (fun f k => termE s ins f (norm (mulL q p)) k) ts' r ts2) : Rl s (fun f k => termE s ins f q k) (.ch 42 :: ts) r ts2 := fun f k hf hk => by
  rcases f with _ | f
  · omega
  · obtain ⟨h1, h2⟩ := hk.yes
    have hlt := hk.lt
    have hge := blkE_ge s k
    obtain ⟨b, h3, h4, h5⟩ := h _ h2
    obtain ⟨k', h6, h7, h8⟩ := hr f b (by omega) h5
    exact ⟨k', (termE_mul h1 h3 hd hl).trans h6, by omega, h8⟩
theorem rl_div (h0 : n ≠ 0) (hl : ¬ sizeE q + bitsN n > 16384) (hr : Rl s (fun f k => termE s ins f (norm (scaleL (1 / ((n : Int) : Rat)) q)) k) ts' r ts2) : Rl s (fun f k => termE s ins f q k) (.ch 47 :: .num n :: ts') r ts2 := fun f k hf hk => by
  rcases f with _ | f
  · omega
  · obtain ⟨h1, h2⟩ := hk.yes
    have hlt := hk.lt
    have hge := blkE_ge s k
    obtain ⟨b, h3, h5, h4⟩ := h2.num
    obtain ⟨k', h6, h7, h8⟩ := hr f b (by omega) h5
    exact ⟨k', (termE_quo (hk.no (Nat.ne_of_beq_eq_false rfl) (by decide) rfl) h1 h3 h0 hl).trans h6, by omega, h8⟩
theorem rt_mk (h : Rd s (factE s ins) ts p ts') (hr : Rl s (fun f k => termE s ins f p k) ts' r ts2) : Rd s (termI s ins) ts r ts2 := fun k hk => by
  obtain ⟨b, h1, h2, h3⟩ := h k hk
  obtain ⟨k', h4, h5, h6⟩ := hr (s.size - b + 1) b (by omega) h3
  exact ⟨k', (termI_ok h1).trans h4, by omega, h6⟩
theorem rs_stop (h1 : hdc ts ≠ 43) (h2 : hdc ts ≠ 45) : Rl s (fun f k => sumL s ins f q k) ts q ts := fun f k hf hk => by
  rcases f with _ | f
  · omega
  · exact ⟨_, sumL_stop (hk.no h1 (by decide) rfl) (hk.no h2 (by decide) rfl), blkE_ge s k, hk.blk⟩
theorem rs_add (h : Rd s (termI s ins) ts p ts') (hl : ¬ sizeE q + sizeE p > 16384) (hr : Rl s (fun f k => sumL s ins f (norm (q ++ p)) k) ts' r ts2) : Rl s (fun f k => sumL s ins f q k) (.ch 43 :: ts) r ts2 := fun f k hf hk => by
  rcases f with _ | f
  · omega
  · obtain ⟨h1, h2⟩ := hk.yes
    have hlt := hk.lt
    have hge := blkE_ge s k
    obtain ⟨b, h3, h4, h5⟩ := h _ h2
    obtain ⟨k', h6, h7, h8⟩ := hr f b (by omega) h5
    exact ⟨k', (sumL_add h1 h3 hl).trans h6, by omega, h8⟩
theorem rs_sub (h : Rd s (termI s ins) ts p ts') (hl : ¬ sizeE q + sizeE p > 16384) (hr : Rl s (fun f k => sumL s ins f (norm (q ++ scaleL ((-1 : Int) : Rat) p)) k) ts' r ts2) : Rl s (fun f k => sumL s ins f q k) (.ch 45 :: ts) r ts2 := fun f k hf hk => by
  rcases f with _ | f
  · omega
  · obtain ⟨h1, h2⟩ := hk.yes
    have hlt := hk.lt
    have hge := blkE_ge s k
    obtain ⟨b, h3, h4, h5⟩ := h _ h2
    obtain ⟨k', h6, h7, h8⟩ := hr f b (by omega) h5
    exact ⟨k', (sumL_sub (hk.no (Nat.ne_of_beq_eq_false rfl) (by decide) rfl) h1 h3 hl).trans h6, by omega, h8⟩
theorem ri_pos (hh : hdc ts ≠ 45) (h : Rd s (termI s ins) ts p ts') (hr : Rl s (fun f k => sumL s ins f p k) ts' r ts2) : Rd s (sumI s ins) ts r ts2 := fun k hk => by
  have hm := hk.no hh (by decide) rfl
  obtain ⟨b, h1, h2, h3⟩ := h _ hk.blk
  obtain ⟨k', h4, h5, h6⟩ := hr (s.size - b + 1) b (by omega) h3
  have hge := blkE_ge s k
  refine ⟨k', ?_, by omega, h6⟩
  have e : (if takesE s 45 k = true then blkE s k + 1 else blkE s k) = blkE s k := by rw [hm]; rfl
  rw [sumI_ok (by rw [e]; exact h1), hm]
  exact h4
theorem ri_neg (h : Rd s (termI s ins) ts p ts') (hr : Rl s (fun f k => sumL s ins f (norm (scaleL ((-1 : Int) : Rat) p)) k) ts' r ts2) : Rd s (sumI s ins) (.ch 45 :: ts) r ts2 := fun k hk => by
  obtain ⟨hm, hk2⟩ := hk.yes
  have hm : takesE s 45 k = true := hm
  obtain ⟨b, h1, h2, h3⟩ := h _ hk2
  obtain ⟨k', h4, h5, h6⟩ := hr (s.size - b + 1) b (by omega) h3
  have hge := blkE_ge s k
  refine ⟨k', ?_, by omega, h6⟩
  have e : (if takesE s 45 k = true then blkE s k + 1 else blkE s k) = blkE s k + 1 := by rw [hm]; rfl
  rw [sumI_ok (by rw [e]; exact h1), hm]
  exact h4
end
theorem readE_of {s : ByteArray} {ts : List Tok} {p : List Tm} (h : Spl s.data.toList ts) (hr : Rd s (sumE s 32) ts p []) : readE s = .ok p := by
  obtain ⟨k, h1, _, h2⟩ := hr 0 ⟨Nat.zero_le _, h⟩
  have h3 := (spl_end h2.1 h2.2 (d := 1) (by decide)).2
  unfold readE
  rw [h1]
  simp only [h3, Nat.lt_irrefl, if_false]
theorem spl_snoc : ∀ {q : List UInt8} {ts : List Tok}, Spl q ts → ∀ l, q = l ++ [32] → Spl l ts := by
  intro q ts h
  induction h with
  | nil => intro l h; simp at h
  | @bl l0 ts h ih =>
    intro l hl
    rcases l with _ | ⟨b, l⟩
    · rw [List.nil_append] at hl
      rw [(List.cons.inj hl).2] at h
      exact h
    · rw [List.cons_append] at hl
      obtain ⟨e1, e2⟩ := List.cons.inj hl
      rw [← e1]
      exact .bl (ih l e2)
  | @ch c l0 ts h1 h2 h0 h ih =>
    intro l hl
    rcases l with _ | ⟨b, l⟩
    · rw [List.nil_append] at hl
      exact absurd (List.cons.inj hl).1 h1
    · rw [List.cons_append] at hl
      obtain ⟨e1, e2⟩ := List.cons.inj hl
      rw [← e1]
      exact .ch h1 h2 h0 (ih l e2)
  | @num n l0 ts hl0 h ih =>
    intro l hl
    rcases List.eq_nil_or_concat l0 with e | ⟨l1, b, e⟩
    · subst e
      rw [List.append_nil] at hl
      have : (32 : UInt8) ∈ Lib.decDigits n := by rw [hl]; simp
      exact absurd (decDigits_D n _ this) (by unfold isD; decide)
    · rw [List.concat_eq_append] at e
      subst e
      rw [← List.append_assoc] at hl
      obtain ⟨e1, e2⟩ := List.append_inj' hl rfl
      rw [← e1]
      rw [(List.cons.inj e2).1] at hl0 ih
      exact .num (fun b w hb => hl0 b (w ++ [32]) (by rw [hb]; rfl)) (ih l1 rfl)
theorem spl_trim (s : ByteArray) {ts : List Tok} : ∀ n, n ≤ s.size → Spl (s.data.toList.take n) ts → Spl (s.data.toList.take (trimE s n)) ts
  | 0, _, h => h
  | n + 1, hn, h => by
    rw [trimE]; split
    · rename_i h32
      refine spl_trim s n (by omega) (spl_snoc h _ ?_)
      have hlt : n < s.data.toList.length := by rw [size_list]; omega
      rw [List.take_succ_eq_append_getElem hlt]
      congr 2
      have : (s.data.toList[n]).toNat = 32 := by
        rw [← h32]; unfold chA; rw [List.getD, List.getElem?_eq_getElem hlt, Option.getD_some]
      exact UInt8.toNat_inj.1 this
    · exact h
theorem parseE_of {s : ByteArray} {ts : List Tok} {p : List Tm} (hs : s.size ≤ 4096) (h : Spl s.data.toList ts) (hr : ∀ s, Rd s (sumE s 32) ts p []) : parseE s = .ok p := by
  unfold parseE
  rw [if_neg (by omega)]
  refine readE_of (ts := ts) ?_ (hr _)
  have h1 := spl_trim s (ts := ts) s.size (Nat.le_refl _) (by rw [← size_list, List.take_length]; exact h)
  rw [ByteArray.data_extract, Array.toList_extract]
  simpa [List.extract_eq_take_drop] using h1
end
section
def f1T (c : UInt8) (n : Nat) : List Tok := if n = 1 then [.ch c] else [.ch c, .ch 94, .num n]
def lT (i j : Nat) : List Tok := if i = 0 then f1T 121 j else if j = 0 then f1T 120 i else f1T 120 i ++ .ch 42 :: f1T 121 j
def qT (x : Rat) : List Tok := .num x.num.natAbs :: (if x.den = 1 then [] else [.ch 47, .num x.den])
def tT (t : Tm) : List Tok := if ab t.c = ((1 : Int) : Rat) ∧ t.i + t.j ≠ 0 then lT t.i t.j else qT (ab t.c) ++ (if t.i + t.j = 0 then [] else .ch 42 :: lT t.i t.j)
def tlT : List Tm → List Tok
  | [] => []
  | t :: p => .ch (if t.c.num.sign < 0 then 45 else 43) :: (tT t ++ tlT p)
def tokP : List Tm → List Tok
  | [] => [.num 0]
  | t :: p => (if t.c.num.sign < 0 then [.ch 45] else []) ++ (tT t ++ tlT p)
section
variable {s : ByteArray} {ins : Ins} {ts : List Tok}
theorem norm_one' {i j : Nat} {c : Rat} (h : c ≠ 0) : norm [⟨i, j, c⟩] = [⟨i, j, c⟩] := norm_id ⟨fun t ht => by rw [List.mem_singleton] at ht; subst ht; exact h, List.pairwise_singleton _ _⟩
theorem mul_one' {i j k m : Nat} {c : Rat} (h : c ≠ 0) : norm (mulL [⟨i, j, c⟩] [⟨k, m, 1⟩]) = [⟨i + k, j + m, c⟩] := by
  have e : mulL [⟨i, j, c⟩] [⟨k, m, 1⟩] = [⟨i + k, j + m, c⟩] := by
    unfold mulL
    simp only [List.flatMap_cons, List.flatMap_nil, List.map_cons, List.map_nil, List.append_nil]
    rw [Rat.mul_one]
  rw [e, norm_one' h]
theorem degN_one {i j : Nat} {c : Rat} : degN [⟨i, j, c⟩] = ((i + j : Nat) : Int) := rfl
theorem size_one {t : Tm} : sizeE [t] = szT t := by rw [sizeE_sum]; simp
theorem szT_unit {i j : Nat} : szT ⟨i, j, 1⟩ = 2 := by unfold szT; show bitsN (1 : Rat).num.natAbs + bitsN (1 : Rat).den = 2; decide +kernel
theorem pow_x : ∀ i, i < 13 → nI (powL [⟨1, 0, 1⟩] i) = [⟨i, 0, 1⟩] := by decide +kernel
theorem pow_y : ∀ i, i < 13 → nI (powL [⟨0, 1, 1⟩] i) = [⟨0, i, 1⟩] := by decide +kernel
def endF (ts : List Tok) : Prop := hdc ts ≠ 94 ∧ hdc ts ≠ 42 ∧ hdc ts ≠ 47
theorem rf_x {i : Nat} (h1 : 1 ≤ i) (h2 : i ≤ 12) (h : hdc ts ≠ 94) : Rd s (factE s ins) (f1T 120 i ++ ts) [⟨i, 0, 1⟩] ts := by
  unfold f1T
  split
  · rename_i e; subst e; exact rf_one rb_x h
  · rw [← pow_x i (by omega), nI_norm]
    have e : degN [⟨1, 0, 1⟩] = 1 := rfl
    have e2 : sizeE [⟨1, 0, 1⟩] = 2 := by rw [size_one, szT_unit]
    exact rf_pow (by exact rb_x) (by rw [e]; omega) (by rw [e2]; omega)
theorem rf_y {i : Nat} (h1 : 1 ≤ i) (h2 : i ≤ 12) (h : hdc ts ≠ 94) : Rd s (factE s ins) (f1T 121 i ++ ts) [⟨0, i, 1⟩] ts := by
  unfold f1T
  split
  · rename_i e; subst e; exact rf_one rb_y h
  · rw [← pow_y i (by omega), nI_norm]
    have e : degN [⟨0, 1, 1⟩] = 1 := rfl
    have e2 : sizeE [⟨0, 1, 1⟩] = 2 := by rw [size_one, szT_unit]
    exact rf_pow (by exact rb_y) (by rw [e]; omega) (by rw [e2]; omega)
theorem rl_one {i j k m : Nat} {c : Rat} {fs : List Tok} (hc : c ≠ 0) (hd : i + j + (k + m) ≤ 12) (hz : szT ⟨i, j, c⟩ + 2 ≤ 16384) (hf : Rd s (factE s ins) fs [⟨k, m, 1⟩] ts) {r : List Tm} {ts2 : List Tok}
    (hr : Rl s (fun f k' => termE s ins f [⟨i + k, j + m, c⟩] k') ts r ts2) : Rl s (fun f k' => termE s ins f [⟨i, j, c⟩] k') (.ch 42 :: fs) r ts2 := by
  refine rl_mul hf ?_ ?_ ?_
  · unfold mulOk; rw [degN_one, degN_one]; omega
  · rw [size_one, size_one, szT_unit]; omega
  · rw [mul_one' hc]; exact hr
theorem rl_let {i j : Nat} {c : Rat} (hc : c ≠ 0) (h0 : i + j ≠ 0) (hd : i + j ≤ 12) (hz : szT ⟨0, 0, c⟩ + 2 ≤ 16384) (he : endF ts) : Rl s (fun f k' => termE s ins f [⟨0, 0, c⟩] k') (.ch 42 :: lT i j ++ ts) [⟨i, j, c⟩] ts := by
  rw [List.cons_append]
  unfold lT
  split
  · rename_i e; subst e
    refine rl_one hc (by omega) hz (rf_y (by omega) (by omega) he.1) ?_
    simp only [Nat.zero_add, Nat.add_zero]; exact rl_stop he.2.1 he.2.2
  · split
    · rename_i e; subst e
      refine rl_one hc (by omega) hz (rf_x (by omega) (by omega) he.1) ?_
      simp only [Nat.zero_add, Nat.add_zero]; exact rl_stop he.2.1 he.2.2
    · rw [List.append_assoc, List.cons_append]
      refine rl_one hc (by omega) hz (rf_x (by omega) (by omega) (Nat.ne_of_beq_eq_false rfl)) ?_
      simp only [Nat.zero_add, Nat.add_zero]
      refine rl_one hc (by omega) (by exact hz) (rf_y (i := j) (by omega) (by omega) he.1) ?_
      simp only [Nat.zero_add, Nat.add_zero]; exact rl_stop he.2.1 he.2.2
theorem rt_let {i j : Nat} (h0 : i + j ≠ 0) (hd : i + j ≤ 12) (he : endF ts) : Rd s (termI s ins) (lT i j ++ ts) [⟨i, j, 1⟩] ts := by
  unfold lT
  split
  · rename_i e; subst e
    exact rt_mk (rf_y (by omega) (by omega) he.1) (rl_stop he.2.1 he.2.2)
  · split
    · rename_i e; subst e
      exact rt_mk (rf_x (by omega) (by omega) he.1) (rl_stop he.2.1 he.2.2)
    · rw [List.append_assoc, List.cons_append]
      refine rt_mk (rf_x (by omega) (by omega) (Nat.ne_of_beq_eq_false rfl)) ?_
      refine rl_one (by decide +kernel) (by omega) (by rw [szT_unit]; omega) (rf_y (i := j) (by omega) (by omega) he.1) ?_
      simp only [Nat.zero_add, Nat.add_zero]; exact rl_stop he.2.1 he.2.2
theorem szT_nat {n : Nat} : szT ⟨0, 0, ((n : Int) : Rat)⟩ = bitsN n + 1 := by
  unfold szT
  rw [Rat.num_intCast, Rat.den_intCast, Int.natAbs_natCast]; rfl
theorem rt_num {x : Rat} {ts' : List Tok} {r : List Tm} (h0 : 0 < x.num) (hz : bitsN x.num.natAbs + bitsN x.den + 1 ≤ 16384) (hh : hdc ts ≠ 94) (hr : Rl s (fun f k' => termE s ins f [⟨0, 0, x⟩] k') ts r ts') : Rd s (termI s ins) (qT x ++ ts) r ts' := by
  have hn : x.num.natAbs ≠ 0 := by omega
  have hc : ((x.num.natAbs : Int) : Rat) ≠ 0 := by
    intro e; have := Rat.intCast_inj.1 (e.trans Rat.intCast_zero.symm); omega
  have hx : x = ((x.num.natAbs : Int) : Rat) / ((x.den : Int) : Rat) := by
    have e : ((x.num.natAbs : Nat) : Int) = x.num := by omega
    rw [e]
    have h := Rat.mkRat_self x
    rw [Rat.mkRat_eq_div] at h
    exact h.symm
  have hb : norm [⟨0, 0, ((x.num.natAbs : Int) : Rat)⟩] = [⟨0, 0, ((x.num.natAbs : Int) : Rat)⟩] := norm_one' hc
  unfold qT
  split
  · rename_i hd
    have hx1 : ((x.num.natAbs : Int) : Rat) = x := by
      conv => rhs; rw [hx]
      rw [hd]; grind
    rw [List.cons_append, List.nil_append]
    refine rt_mk (rf_one rb_num hh) ?_
    rw [hb, hx1]; exact hr
  · rename_i hd
    rw [List.cons_append, List.cons_append, List.cons_append, List.nil_append]
    refine rt_mk (rf_one rb_num (Nat.ne_of_beq_eq_false rfl)) ?_
    rw [hb]
    refine rl_div x.den_nz (by rw [size_one, szT_nat]; omega) ?_
    have e : scaleL (1 / ((x.den : Int) : Rat)) [⟨0, 0, ((x.num.natAbs : Int) : Rat)⟩] = [⟨0, 0, x⟩] := by
      unfold scaleL
      rw [List.map_cons, List.map_nil]
      congr 2
      conv => rhs; rw [hx]
      rw [Rat.div_def, Rat.div_def, Rat.one_mul, Rat.mul_comm]
    have h0' : x ≠ 0 := fun e => by rw [e] at h0; exact absurd h0 (by decide)
    rw [e, norm_one' h0']
    exact hr
theorem rt_term {t : Tm} (hc : t.c ≠ 0) (hd : t.i + t.j ≤ 12) (hz : szT t + 4 ≤ 16384) (he : endF ts) : Rd s (termI s ins) (tT t ++ ts) [⟨t.i, t.j, ab t.c⟩] ts := by
  obtain ⟨a1, a2⟩ := ab_num t.c
  have hn : t.c.num.natAbs ≠ 0 := fun e => hc (by
    have : t.c.num = 0 := by omega
    exact Rat.num_eq_zero.1 this)
  have ha : 0 < (ab t.c).num := by rw [a1]; omega
  have hab : ab t.c ≠ 0 := fun e => by rw [e] at ha; exact absurd ha (by decide)
  have hs : bitsN (ab t.c).num.natAbs + bitsN (ab t.c).den = szT t := by
    rw [a1, a2, Int.natAbs_natCast]; rfl
  unfold tT
  split
  · rename_i h
    rw [h.1]
    exact rt_let h.2 hd he
  · rw [List.append_assoc]
    by_cases h0 : t.i + t.j = 0
    · rw [if_pos h0, List.nil_append]
      have e1 : t.i = 0 := by omega
      have e2 : t.j = 0 := by omega
      rw [e1, e2]
      exact rt_num ha (by omega) he.1 (rl_stop he.2.1 he.2.2)
    · rw [if_neg h0]
      refine rt_num ha (by omega) (Nat.ne_of_beq_eq_false rfl) ?_
      exact rl_let hab h0 hd (by show szT ⟨0, 0, ab t.c⟩ + 2 ≤ 16384; have : szT ⟨0, 0, ab t.c⟩ = szT t := hs; omega) he
theorem sizeE_app (p q : List Tm) : sizeE (p ++ q) = sizeE p + sizeE q := by rw [sizeE_sum, sizeE_sum, sizeE_sum, List.map_append, List.sum_append]
theorem ab_pos' {x : Rat} (h : ¬ x.num.sign < 0) : ab x = x := by
  refine ab_of_nonneg (Rat.num_nonneg.1 ?_)
  rcases Int.lt_or_le x.num 0 with h' | h'
  · exact absurd (by rw [Int.sign_eq_neg_one_of_neg h']; decide) h
  · exact h'
theorem ab_neg' {x : Rat} (h : x.num.sign < 0) : ((-1 : Int) : Rat) * ab x = x := by
  have : x < 0 := by
    have h2 : x.num < 0 := Int.sign_neg_iff.1 h
    refine Rat.not_le.1 (fun h3 => ?_)
    have := Rat.num_nonneg.2 h3
    omega
  unfold ab
  rw [if_pos this]; grind
theorem szT_ab (t : Tm) : szT ⟨t.i, t.j, ab t.c⟩ = szT t := by
  obtain ⟨a1, a2⟩ := ab_num t.c
  unfold szT
  rw [a1, a2, Int.natAbs_natCast]
def endS (ts : List Tok) : Prop := hdc ts = 0 ∨ hdc ts = 41
theorem tl_end (p : List Tm) (he : endS ts) : endF (tlT p ++ ts) := by
  rcases p with _ | ⟨t, p⟩
  · rw [tlT, List.nil_append]; unfold endS at he; unfold endF; omega
  · rw [tlT, List.cons_append]
    by_cases hs : t.c.num.sign < 0
    · rw [if_pos hs]; exact ⟨Nat.ne_of_beq_eq_false rfl, Nat.ne_of_beq_eq_false rfl, Nat.ne_of_beq_eq_false rfl⟩
    · rw [if_neg hs]; exact ⟨Nat.ne_of_beq_eq_false rfl, Nat.ne_of_beq_eq_false rfl, Nat.ne_of_beq_eq_false rfl⟩
theorem rl_tail : ∀ (p q : List Tm), Nrm (q ++ p) → (∀ t ∈ q ++ p, t.i + t.j ≤ 12) → sizeE (q ++ p) + 4 ≤ 16384 → endS ts → Rl s (fun f k => sumL s ins f q k) (tlT p ++ ts) (q ++ p) ts
  | [], q, _, _, _, he => by
    rw [List.append_nil, tlT, List.nil_append]
    exact rs_stop (by unfold endS at he; omega) (by unfold endS at he; omega)
  | t :: p, q, hn, hd, hz, he => by
    have e : q ++ t :: p = (q ++ [t]) ++ p := by simp
    have hz2 := hz
    rw [e] at hn hd hz
    have hnq : Nrm (q ++ [t]) := ⟨fun u hu => hn.1 u (List.mem_append_left _ hu), (List.pairwise_append.1 hn.2).1⟩
    have hsz : sizeE (q ++ [t]) ≤ sizeE ((q ++ [t]) ++ p) := by rw [sizeE_app (q ++ [t])]; omega
    rw [sizeE_app, size_one] at hsz
    have ih := rl_tail p (q ++ [t]) hn hd hz he
    have ht : t ∈ (q ++ [t]) ++ p := List.mem_append_left _ (List.mem_append_right _ (List.mem_singleton.2 rfl))
    have hT : Rd s (termI s ins) (tT t ++ (tlT p ++ ts)) [⟨t.i, t.j, ab t.c⟩] (tlT p ++ ts) := rt_term (hn.1 t ht) (hd t ht) (by omega) (tl_end p he)
    rw [tlT, List.cons_append, List.append_assoc, e]
    by_cases hs : t.c.num.sign < 0
    · rw [if_pos hs]
      refine rs_sub hT (by rw [size_one, szT_ab]; omega) ?_
      have e2 : scaleL ((-1 : Int) : Rat) [⟨t.i, t.j, ab t.c⟩] = [t] := by
        unfold scaleL; rw [List.map_cons, List.map_nil, ab_neg' hs]
      rw [e2, norm_id hnq]; exact ih
    · rw [if_neg hs]
      refine rs_add hT (by rw [size_one, szT_ab]; omega) ?_
      rw [ab_pos' hs, norm_id hnq]; exact ih
theorem ri_text {p : List Tm} (hn : Nrm p) (hd : ∀ t ∈ p, t.i + t.j ≤ 12) (hz : sizeE p + 4 ≤ 16384) (he : endS ts) : Rd s (sumI s ins) (tokP p ++ ts) p ts := by
  rcases p with _ | ⟨t, p⟩
  · have h0 : norm [⟨0, 0, (((0 : Nat) : Int) : Rat)⟩] = [] := by rw [← nI_norm]; decide +kernel
    rw [tokP, List.cons_append, List.nil_append]
    have h1 : Rd s (termI s ins) (.num 0 :: ts) [] ts := by
      unfold endS at he
      refine rt_mk (rf_one rb_num (by omega)) ?_
      rw [h0]
      exact rl_stop (by omega) (by omega)
    unfold endS at he
    exact ri_pos (Nat.ne_of_beq_eq_false rfl) h1 (rs_stop (by omega) (by omega))
  · have ih := rl_tail (s := s) (ins := ins) (ts := ts) p [t] hn hd hz he
    have hsz : szT t ≤ sizeE (t :: p) := by rw [sizeE_sum, List.map_cons, List.sum_cons]; omega
    have hT : Rd s (termI s ins) (tT t ++ (tlT p ++ ts)) [⟨t.i, t.j, ab t.c⟩] (tlT p ++ ts) := rt_term (hn.1 t List.mem_cons_self) (hd t List.mem_cons_self) (by omega) (tl_end p he)
    have hh : hdc (tT t ++ (tlT p ++ ts)) ≠ 45 := by
      unfold tT lT f1T qT
      split
      · split
        · split <;> exact Nat.ne_of_beq_eq_false rfl
        · split
          · split <;> exact Nat.ne_of_beq_eq_false rfl
          · split <;> exact Nat.ne_of_beq_eq_false rfl
      · exact Nat.ne_of_beq_eq_false rfl
    rw [tokP, List.append_assoc, List.append_assoc]
    by_cases hs : t.c.num.sign < 0
    · rw [if_pos hs, List.cons_append, List.nil_append]
      refine ri_neg hT ?_
      have e2 : scaleL ((-1 : Int) : Rat) [⟨t.i, t.j, ab t.c⟩] = [t] := by
        unfold scaleL; rw [List.map_cons, List.map_nil, ab_neg' hs]
      rw [e2, norm_one' (hn.1 t List.mem_cons_self)]; exact ih
    · rw [if_neg hs, List.nil_append]
      refine ri_pos hh hT ?_
      rw [ab_pos' hs]; exact ih
end
end
section
def f1B (c : UInt8) (n : Nat) : List UInt8 := if n = 1 then [c] else c :: 94 :: Lib.decDigits n
def lB (i j : Nat) : List UInt8 := if i = 0 then f1B 121 j else if j = 0 then f1B 120 i else f1B 120 i ++ 42 :: f1B 121 j
theorem ltB_l : ∀ i, i < 13 → ∀ j, j < 13 → i + j ≠ 0 → ltB i j = lB i j := by decide +kernel
section
variable {l : List UInt8} {ts : List Tok}
theorem spl_f1 {c : UInt8} {n : Nat} (h1 : c ≠ 32) (h2 : ¬ isD c) (h0 : c ≠ 0 ∧ c.toNat < 128) (hl : nd l) (h : Spl l ts) : Spl (f1B c n ++ l) (f1T c n ++ ts) := by
  unfold f1B f1T
  split
  · exact .ch h1 h2 h0 h
  · exact .ch h1 h2 h0 (.ch (by decide) (by unfold isD; decide) (by decide) (.num hl h))
theorem spl_l {i j : Nat} (hl : nd l) (h : Spl l ts) : Spl (lB i j ++ l) (lT i j ++ ts) := by
  have hx : ¬ isD 120 := by unfold isD; decide
  have hy : ¬ isD 121 := by unfold isD; decide
  have hs : ¬ isD 42 := by unfold isD; decide
  unfold lB lT
  split
  · exact spl_f1 (by decide) hy (by decide) hl h
  · split
    · exact spl_f1 (by decide) hx (by decide) hl h
    · rw [List.append_assoc, List.append_assoc]
      exact spl_f1 (by decide) hx (by decide) (nd_cons hs) (.ch (by decide) hs (by decide) (spl_f1 (by decide) hy (by decide) hl h))
theorem spl_q {x : Rat} (hl : nd l) (h : Spl l ts) : Spl (qB x ++ l) (qT x ++ ts) := by
  have hs : ¬ isD 47 := by unfold isD; decide
  unfold qB qT
  rw [List.append_assoc, List.cons_append]
  split
  · exact .num hl h
  · rw [List.cons_append, List.cons_append, List.cons_append, List.nil_append]
    exact .num (nd_cons hs) (.ch (by decide) hs (by decide) (.num hl h))
theorem spl_tm {t : Tm} (hd : t.i + t.j ≤ 12) (hl : nd l) (h : Spl l ts) : Spl (tmB' t ++ l) (tT t ++ ts) := by
  have hs : ¬ isD 42 := by unfold isD; decide
  unfold tmB' tT
  split
  · rename_i h1
    rw [ltB_l _ (by omega) _ (by omega) h1.2]
    exact spl_l hl h
  · rw [List.append_assoc, List.append_assoc]
    by_cases h0 : t.i + t.j = 0
    · rw [if_pos h0, if_pos h0, List.nil_append, List.nil_append]
      exact spl_q hl h
    · rw [if_neg h0, if_neg h0, ltB_l _ (by omega) _ (by omega) h0]
      exact spl_q (nd_cons hs) (.ch (by decide) hs (by decide) (spl_l hl h))
theorem nd_32 : nd (32 :: l) := nd_cons (by unfold isD; decide)
theorem spl_tl : ∀ p : List Tm, (∀ t ∈ p, t.i + t.j ≤ 12) → nd l → Spl l ts → Spl (tlB p ++ l) (tlT p ++ ts) ∧ nd (tlB p ++ l)
  | [], _, hl, h => ⟨h, hl⟩
  | t :: p, hd, hl, h => by
    obtain ⟨h1, h2⟩ := spl_tl p (fun u hu => hd u (List.mem_cons_of_mem _ hu)) hl h
    have h3 := spl_tm (hd t List.mem_cons_self) h2 h1
    rw [tlB, tlT, List.cons_append, List.append_assoc, List.append_assoc, List.append_assoc]
    unfold sgB
    by_cases hs : t.c.num.sign < 0
    · rw [if_pos hs, if_pos hs]
      exact ⟨.bl (.ch (by decide) (by unfold isD; decide) (by decide) (.bl h3)), nd_32⟩
    · rw [if_neg hs, if_neg hs]
      exact ⟨.bl (.ch (by decide) (by unfold isD; decide) (by decide) (.bl h3)), nd_32⟩
theorem tmB_non {t : Tm} (hd : t.i + t.j ≤ 12) : tmB' t ≠ [] := by
  unfold tmB'
  split
  · rename_i h1
    rw [ltB_l _ (by omega) _ (by omega) h1.2]
    unfold lB f1B
    split
    · split <;> exact List.cons_ne_nil _ _
    · split
      · split <;> exact List.cons_ne_nil _ _
      · split <;> exact List.cons_ne_nil _ _
  · intro e
    exact qB_ne _ (List.append_eq_nil_iff.1 e).1
def pB (p : List Tm) : List UInt8 := (txtP txtQ p).data.toList
theorem spl_txt {p : List Tm} (hd : ∀ t ∈ p, t.i + t.j ≤ 12) (hl : nd l) (h : Spl l ts) : Spl (pB p ++ l) (tokP p ++ ts) := by
  unfold pB
  rw [txtP_B]
  rcases p with _ | ⟨t, p⟩
  · rw [fuB, if_pos rfl, tokP, List.cons_append, List.nil_append]
    have e : (48 :: l) = Lib.decDigits 0 ++ l := by rw [Lib.decDigits_one (by decide)]; rfl
    show Spl (48 :: l) (.num 0 :: ts)
    rw [e]
    exact .num hl h
  · obtain ⟨h1, h2⟩ := spl_tl p (fun u hu => hd u (List.mem_cons_of_mem _ hu)) hl h
    have h3 := spl_tm (hd t List.mem_cons_self) h2 h1
    have hne : fuB (t :: p) ≠ [] := by
      rw [fuB]
      intro e
      exact tmB_non (hd t List.mem_cons_self) (List.append_eq_nil_iff.1 (List.append_eq_nil_iff.1 e).2).1
    rw [if_neg hne, fuB, tokP, List.append_assoc, List.append_assoc, List.append_assoc, List.append_assoc]
    by_cases hs : t.c.num.sign < 0
    · rw [if_pos hs, if_pos hs]
      exact .ch (by decide) (by unfold isD; decide) (by decide) h3
    · rw [if_neg hs, if_neg hs]
      exact h3
end
theorem spl_ascii : ∀ {l : List UInt8} {ts : List Tok}, Spl l ts → ∀ b ∈ l, b.toNat < 128 := by
  intro l ts h
  induction h with
  | nil => intro b hb; cases hb
  | bl h ih =>
    intro b hb
    rcases List.mem_cons.1 hb with rfl | hb
    · decide
    · exact ih b hb
  | ch h1 h2 h0 h ih =>
    intro b hb
    rcases List.mem_cons.1 hb with rfl | hb
    · exact h0.2
    · exact ih b hb
  | num hl h ih =>
    intro b hb
    rcases List.mem_append.1 hb with hb | hb
    · have := decDigits_D _ b hb; unfold isD at this; omega
    · exact ih b hb
theorem dec_len (n : Nat) : (Lib.decDigits n).length ≤ bitsN n + 1 := by
  have key : ∀ m n : Nat, n < 2 ^ m → (Lib.decDigits n).length ≤ m + 1 := by
    intro m
    induction m using Nat.strongRecOn with
    | _ m ih =>
      intro n hn
      by_cases h : n < 10
      · rw [Lib.decDigits_one h]; simp
      · have e : Lib.decDigits n = Lib.decDigits (n / 10) ++ [UInt8.ofNat (48 + n % 10)] := by rw [Lib.decDigits, dif_neg h]
        have hm : 1 ≤ m := by
          rcases m with _ | m
          · rw [Nat.pow_zero] at hn; omega
          · omega
        have h2 : n / 10 < 2 ^ (m - 1) := by
          obtain ⟨m', rfl⟩ : ∃ m', m = m' + 1 := ⟨m - 1, by omega⟩
          rw [Nat.pow_succ] at hn
          rw [Nat.add_sub_cancel]; omega
        have := ih (m - 1) (by omega) _ h2
        rw [e, List.length_append, List.length_singleton]; omega
  exact key _ _ (bitsN_pow n)
theorem lB_len : ∀ i, i < 13 → ∀ j, j < 13 → i + j ≤ 12 → (lB i j).length ≤ 9 := by decide +kernel
theorem tm_len {t : Tm} (hd : t.i + t.j ≤ 12) : (tmB' t).length ≤ szT t + 13 := by
  obtain ⟨a1, a2⟩ := ab_num t.c
  have h1 := lB_len t.i (by omega) t.j (by omega) hd
  unfold tmB'
  split
  · rename_i h
    rw [ltB_l _ (by omega) _ (by omega) h.2]; omega
  · unfold qB
    rw [a1, a2, Int.natAbs_natCast]
    have h2 := dec_len t.c.num.natAbs
    have h3 := dec_len t.c.den
    have h4 : szT t = bitsN t.c.num.natAbs + bitsN t.c.den := rfl
    simp only [List.length_append]
    by_cases h0 : t.i + t.j = 0
    · rw [if_pos h0]
      split <;> simp only [List.length_nil, List.length_cons] <;> omega
    · rw [if_neg h0, ltB_l _ (by omega) _ (by omega) h0]
      split <;> simp only [List.length_nil, List.length_cons] <;> omega
theorem tl_len : ∀ p : List Tm, (∀ t ∈ p, t.i + t.j ≤ 12) → (tlB p).length ≤ sizeE p + 16 * p.length
  | [], _ => by rw [tlB]; simp
  | t :: p, hd => by
    have h1 := tl_len p (fun u hu => hd u (List.mem_cons_of_mem _ hu))
    have h2 := tm_len (hd t List.mem_cons_self)
    have h3 : (sgB t).length = 3 := by unfold sgB; split <;> rfl
    have h4 : sizeE (t :: p) = szT t + sizeE p := by rw [sizeE_sum, sizeE_sum, List.map_cons, List.sum_cons]
    rw [tlB, List.length_append, List.length_append, List.length_cons]; omega
theorem txt_len {p : List Tm} (hd : ∀ t ∈ p, t.i + t.j ≤ 12) : (txtP txtQ p).size ≤ sizeE p + 16 * p.length + 1 := by
  rw [← size_list, txtP_B]
  split
  · simp
  · rcases p with _ | ⟨t, p⟩
    · rw [fuB]; simp
    · have h1 := tl_len p (fun u hu => hd u (List.mem_cons_of_mem _ hu))
      have h2 := tm_len (hd t List.mem_cons_self)
      have h4 : sizeE (t :: p) = szT t + sizeE p := by rw [sizeE_sum, sizeE_sum, List.map_cons, List.sum_cons]
      rw [fuB, List.length_append, List.length_append, List.length_cons]
      split <;> simp only [List.length_nil, List.length_cons] <;> omega
end
section
theorem rat_small {c : Rat} {D : Nat} {n : Int} (h0 : 0 < D) (h : c * ((D : Int) : Rat) = (n : Rat)) : c.den ≤ D ∧ c.num.natAbs ≤ n.natAbs := by
  have h1 : c.den ∣ D := ID.den ⟨n, h⟩
  have h2 := Nat.le_of_dvd h0 h1
  have h3 : ((c.num * (D : Int) : Int) : Rat) = ((n * (c.den : Int) : Int) : Rat) := by
    rw [Rat.intCast_mul, Rat.intCast_mul, ← h, ← mul_den]; grind
  have h4 := congrArg Int.natAbs (Rat.intCast_inj.1 h3)
  rw [Int.natAbs_mul, Int.natAbs_mul, Int.natAbs_natCast, Int.natAbs_natCast] at h4
  have h5 := Nat.mul_le_mul_left n.natAbs h2
  exact ⟨h2, Nat.le_of_mul_le_mul_right (by rw [h4]; exact h5) h0⟩
def Sml (A B : Nat) (c : Rat) : Prop := c.den ≤ A ∧ c.num.natAbs ≤ B
def Wt (A B m : Nat) (c : Rat) : Prop := ∃ D : Nat, ∃ n : Int, 0 < D ∧ D ≤ A ^ m ∧ c * ((D : Int) : Rat) = (n : Rat) ∧ n.natAbs * A ≤ m * B * A ^ m
theorem Wt.one {A B : Nat} {c : Rat} (h : Sml A B c) : Wt A B 1 (0 + c) := by
  refine ⟨c.den, c.num, c.den_pos, by rw [Nat.pow_one]; exact h.1, ?_, ?_⟩
  · rw [← mul_den]; grind
  · rw [Nat.pow_one, Nat.one_mul]; exact Nat.mul_le_mul_right A h.2
theorem Wt.add {A B m : Nat} {c d : Rat} (h : Wt A B m c) (h2 : Sml A B d) : Wt A B (m + 1) (c + d) := by
  obtain ⟨D, n, h0, h1, hc, hn⟩ := h
  obtain ⟨d1, d2⟩ := h2
  have hdp := d.den_pos
  have hd := mul_den d
  refine ⟨D * d.den, n * (d.den : Int) + d.num * (D : Int), Nat.mul_pos h0 hdp, by rw [Nat.pow_succ]; exact Nat.mul_le_mul h1 d1, ?_, ?_⟩
  · rw [cast_mul, Rat.intCast_add, Rat.intCast_mul, Rat.intCast_mul, ← hc, ← hd]; grind
  · have e1 : (n * (d.den : Int) + d.num * (D : Int)).natAbs ≤ n.natAbs * d.den + d.num.natAbs * D := by
      refine Nat.le_trans (Int.natAbs_add_le _ _) ?_
      rw [Int.natAbs_mul, Int.natAbs_mul, Int.natAbs_natCast, Int.natAbs_natCast]; exact Nat.le_refl _
    refine Nat.le_trans (Nat.mul_le_mul_right A e1) ?_
    rw [Nat.add_mul, Nat.pow_succ]
    have e2 : n.natAbs * d.den * A ≤ m * B * A ^ m * A := by
      rw [Nat.mul_right_comm]
      exact Nat.mul_le_mul hn d1
    have e3 : d.num.natAbs * D * A ≤ B * A ^ m * A := Nat.mul_le_mul_right A (Nat.mul_le_mul d2 h1)
    have e4 : (m + 1) * B * (A ^ m * A) = m * B * A ^ m * A + B * A ^ m * A := by
      rw [Nat.add_mul, Nat.add_mul, Nat.one_mul, ← Nat.mul_assoc, ← Nat.mul_assoc]
    rw [e4]
    exact Nat.add_le_add e2 e3
inductive MW (A B : Nat) : List Tm → Nat → Prop
  | nil : MW A B [] 0
  | cons {t : Tm} {p : List Tm} {m k : Nat} (h : Wt A B (m + 1) t.c) (h2 : MW A B p k) : MW A B (t :: p) (m + 1 + k)
theorem MW.ins {A B : Nat} {t : Tm} (ht : Sml A B t.c) : ∀ {p : List Tm} {k : Nat}, MW A B p k → MW A B (insT t p) (k + 1)
  | [], _, .nil => by
    rw [insT]
    exact .cons (m := 0) (Wt.one ht) .nil
  | s :: p, _, .cons (m := m) (k := k) h h2 => by
    rw [insT]
    split
    · have := MW.cons (A := A) (B := B) (t := ⟨s.i, s.j, s.c + t.c⟩) (m := m + 1) (h.add ht) h2
      rwa [show m + 1 + 1 + k = m + 1 + k + 1 by omega] at this
    · have := MW.cons (A := A) (B := B) (t := s) (m := m) h (MW.ins ht h2)
      rwa [← Nat.add_assoc] at this
theorem MW.fold {A B : Nat} : ∀ (l : List Tm) {p : List Tm} {k : Nat}, (∀ t ∈ l, Sml A B t.c) → MW A B p k → MW A B (l.foldl (fun p t => insT t p) p) (k + l.length)
  | [], _, _, _, h => h
  | t :: l, p, k, hl, h => by
    rw [List.foldl_cons, List.length_cons, show k + (l.length + 1) = k + 1 + l.length by omega]
    exact MW.fold l (fun u hu => hl u (List.mem_cons_of_mem _ hu)) (h.ins (hl t List.mem_cons_self))
theorem bitsN_le_of {n k : Nat} (h : n < 2 ^ k) : bitsN n ≤ k := by
  unfold bitsN
  split
  · omega
  · rename_i h0
    exact (Nat.log2_lt h0).2 h
theorem Wt.size {a b m : Nat} {t : Tm} (hab : a ≤ b) (h : Wt (2 ^ a) (2 ^ b) (m + 1) t.c) : szT t ≤ (m + 1) * (a + b + 3) := by
  obtain ⟨D, n, h0, h1, hc, hn⟩ := h
  obtain ⟨s1, s2⟩ := rat_small h0 hc
  have hp : (2 ^ a) ^ (m + 1) = 2 ^ (a * m) * 2 ^ a := by rw [Nat.pow_succ, ← Nat.pow_mul]
  have hA : 0 < 2 ^ a := Nat.pos_of_ne_zero (by simp)
  have b1 : bitsN t.c.den ≤ a * m + a + 1 := by
    refine bitsN_le_of ?_
    have : t.c.den ≤ 2 ^ (a * m + a) := by rw [Nat.pow_add, ← hp]; omega
    have h2 : 2 ^ (a * m + a) < 2 ^ (a * m + a + 1) := Nat.pow_lt_pow_right (by decide) (by omega)
    omega
  have b2 : bitsN t.c.num.natAbs ≤ (m + 1) + b + a * m := by
    refine bitsN_le_of ?_
    have h3 : n.natAbs ≤ (m + 1) * 2 ^ b * 2 ^ (a * m) := by
      refine Nat.le_of_mul_le_mul_right (c := 2 ^ a) ?_ hA
      rw [Nat.mul_assoc _ (2 ^ (a * m)), ← hp]; exact hn
    have h4 : (m + 1) * 2 ^ b * 2 ^ (a * m) < 2 ^ (m + 1) * 2 ^ b * 2 ^ (a * m) := by
      have hx : m + 1 < 2 ^ (m + 1) := Nat.lt_two_pow_self
      have hb : 0 < 2 ^ b := Nat.pos_of_ne_zero (by simp)
      have hc : 0 < 2 ^ (a * m) := Nat.pos_of_ne_zero (by simp)
      exact Nat.mul_lt_mul_of_pos_right (Nat.mul_lt_mul_of_pos_right hx hb) hc
    rw [Nat.pow_add, Nat.pow_add]
    omega
  have e : szT t = bitsN t.c.num.natAbs + bitsN t.c.den := rfl
  have h5 : a * m ≤ b * m := Nat.mul_le_mul_right m hab
  have h6 : (m + 1) * (a + b + 3) = a * m + b * m + 3 * m + a + b + 3 := by
    rw [Nat.add_mul, Nat.mul_add, Nat.mul_add, Nat.one_mul, Nat.mul_comm m a, Nat.mul_comm m b, Nat.mul_comm m 3]; omega
  omega
theorem MW.size {a b : Nat} (hab : a ≤ b) : ∀ {p : List Tm} {k : Nat}, MW (2 ^ a) (2 ^ b) p k → sizeE p ≤ k * (a + b + 3) ∧ p.length ≤ k
  | [], _, .nil => ⟨Nat.zero_le _, Nat.le_refl _⟩
  | t :: p, _, .cons (m := m) (k := k) h h2 => by
    have h1 := h.size hab
    obtain ⟨h3, h5⟩ := MW.size hab h2
    have h4 : sizeE (t :: p) = szT t + sizeE p := by rw [sizeE_sum, sizeE_sum, List.map_cons, List.sum_cons]
    refine ⟨?_, by rw [List.length_cons]; omega⟩
    rw [h4, Nat.add_mul]; omega
theorem sizeE_perm {p q : List Tm} (h : p.Perm q) : sizeE p = sizeE q := by rw [sizeE_sum, sizeE_sum]; exact (h.map szT).sum_nat
theorem sizeE_filter (f : Tm → Bool) : ∀ p : List Tm, sizeE (p.filter f) ≤ sizeE p
  | [] => Nat.le_refl _
  | t :: p => by
    have h4 : sizeE (t :: p) = szT t + sizeE p := by rw [sizeE_sum, sizeE_sum, List.map_cons, List.sum_cons]
    have h5 := sizeE_filter f p
    rw [List.filter_cons]
    split
    · rw [sizeE_sum, List.map_cons, List.sum_cons, ← sizeE_sum, h4]; omega
    · omega
theorem size_norm {a b : Nat} {l : List Tm} (hab : a ≤ b) (h : ∀ t ∈ l, Sml (2 ^ a) (2 ^ b) t.c) : sizeE (norm l) ≤ l.length * (a + b + 3) ∧ (norm l).length ≤ l.length := by
  have h1 := MW.fold l h (MW.nil (A := 2 ^ a) (B := 2 ^ b))
  rw [Nat.zero_add] at h1
  obtain ⟨h2, h3⟩ := h1.size hab
  have hp : (norm l).Perm ((collect l).filter (fun t => decide (t.c ≠ 0))) := List.mergeSort_perm _ _
  refine ⟨?_, ?_⟩
  · rw [sizeE_perm hp]
    exact Nat.le_trans (sizeE_filter _ _) h2
  · rw [hp.length_eq]
    exact Nat.le_trans (List.length_filter_le _ _) h3
theorem Sml.qv {N D : Int} (h : OkQ (N, D)) : Sml (2 ^ 32) (2 ^ 63) (qv N D) := by
  obtain ⟨h1, h2, h3, h4⟩ := h
  simp only at h1 h2 h3 h4
  obtain ⟨E, hE⟩ : ∃ E : Nat, (E : Int) = max D 1 := ⟨(max D 1).toNat, by omega⟩
  have h0 : 0 < E := by omega
  have e : _root_.Go.Proofs.YtgkicbaomcmfoaaGreatDoor.qv N D * ((E : Int) : Rat) = (N : Rat) := by
    unfold _root_.Go.Proofs.YtgkicbaomcmfoaaGreatDoor.qv
    rw [← hE]
    have : ((E : Int) : Rat) ≠ 0 := by
      intro e; have := Rat.intCast_inj.1 (e.trans Rat.intCast_zero.symm); omega
    exact Rat.div_mul_cancel this
  obtain ⟨a1, a2⟩ := rat_small h0 e
  exact ⟨by omega, by omega⟩
theorem made_Sm {d : Nat} {l : List Ti} (h : ∀ t ∈ l, OkT t) : ∀ t ∈ madeL d l, Sml (2 ^ 32) (2 ^ 63) t.c := fun t ht => by
  obtain ⟨s, hs, rfl⟩ := List.mem_map.1 ht
  exact Sml.qv (h s hs).2.2
theorem made_size {d : Nat} {l : List Ti} (h : ∀ t ∈ l, OkT t) : sizeE (norm (madeL d l)) ≤ 98 * l.length ∧ (norm (madeL d l)).length ≤ l.length := by
  obtain ⟨h1, h2⟩ := size_norm (a := 32) (b := 63) (by decide) (made_Sm (d := d) h)
  unfold madeL at h1 h2 ⊢
  rw [List.length_map] at h1 h2
  exact ⟨by omega, h2⟩
theorem Sml.mul {A B C D : Nat} {x y : Rat} (h : Sml A B x) (h2 : Sml C D y) : Sml (A * C) (B * D) (x * y) := by
  obtain ⟨h1, h3⟩ := h
  obtain ⟨h4, h5⟩ := h2
  have e : x * y * (((x.den * y.den : Nat) : Int) : Rat) = ((x.num * y.num : Int) : Rat) := by
    rw [cast_mul, Rat.intCast_mul, ← mul_den x, ← mul_den y]; grind
  obtain ⟨a1, a2⟩ := rat_small (Nat.mul_pos x.den_pos y.den_pos) e
  rw [Int.natAbs_mul] at a2
  exact ⟨Nat.le_trans a1 (Nat.mul_le_mul h1 h4), Nat.le_trans a2 (Nat.mul_le_mul h3 h5)⟩
end
section
end
section
structure TxOk (p : List Tm) : Prop where
  nrm : Nrm p
  deg : ∀ t ∈ p, t.i + t.j ≤ 12
  siz : sizeE p + 4 ≤ 16384
def brT (p : List Tm) (ts : List Tok) : List Tok := .ch 40 :: (tokP p ++ .ch 41 :: ts)
def brB (p : List Tm) (l : List UInt8) : List UInt8 := 40 :: (pB p ++ 41 :: l)
section
variable {s : ByteArray} {ins : Ins} {ts : List Tok} {p q : List Tm} {l : List UInt8} {n : Nat}
end
section
variable {t : ByteArray} {p q : List Tm} {n : Nat}
end
theorem made_TxOk {d : Nat} {l : List Ti} (hd : d ≤ 12) (h : ∀ t ∈ l, OkT t) (hl : l.length ≤ 12) : TxOk (norm (madeL d l)) := by
  obtain ⟨h1, h2⟩ := made_size (d := d) h
  have hq := made_Pq (d := d) h hl (by decide) hd
  exact ⟨norm_nrm _, fun t ht => Nat.le_trans (hq.deg t ht) hd, by omega⟩
end
section
def isDb (b : UInt8) : Bool := isDg b.toNat
def insd (c : UInt8) : List UInt8 → Bool
  | [] => false
  | d :: _ => isDb c && isDb d
def bitB (b i : Nat) : Bool := decide (b / 2 ^ (i % 64) % 2 = 1)
def gap (b i : Nat) (c : UInt8) (l : List UInt8) : List UInt8 := if insd c l = false ∧ bitB b i = true then [32, 32] else []
def blL (b : Nat) : Nat → List UInt8 → List UInt8
  | _, [] => []
  | i, c :: l => c :: (gap b i c l ++ blL b (i + 1) l)
theorem blL_len (b : Nat) : ∀ (l : List UInt8) (i : Nat), (blL b i l).length ≤ 3 * l.length
  | [], i => by rw [blL]; simp
  | c :: l, i => by
    have := blL_len b l (i + 1)
    rw [blL, List.length_cons, List.length_append, List.length_cons]
    unfold gap
    split <;> simp only [List.length_cons, List.length_nil] <;> omega
theorem isDb_iff (c : UInt8) : isDb c = true ↔ isD c := by
  unfold isDb isDg isD
  rw [Bool.and_eq_true, decide_eq_true_eq, decide_eq_true_eq]
theorem spl_gap {b i : Nat} {c : UInt8} {l X : List UInt8} {ts : List Tok} (h : Spl X ts) : Spl (gap b i c l ++ X) ts := by
  unfold gap
  split
  · exact .bl (.bl h)
  · exact h
theorem nd_blL {b i : Nat} {l : List UInt8} (h : nd l) : nd (blL b i l) := by
  rcases l with _ | ⟨c, l⟩
  · rw [blL]; exact nd_nil
  · rw [blL]; exact nd_cons (h c l rfl)
theorem blL_num (b : Nat) : ∀ (u l : List UInt8) (i : Nat), u ≠ [] → (∀ x ∈ u, isD x) → nd l → ∃ g j, blL b i (u ++ l) = u ++ (g ++ blL b j l) ∧ (g = [] ∨ g = [32, 32])
  | [], _, _, h, _, _ => absurd rfl h
  | [c], l, i, _, hu, hl => by
    refine ⟨gap b i c l, i + 1, ?_, ?_⟩
    · rw [List.cons_append, List.nil_append, blL]; rfl
    · unfold gap; split
      · exact .inr rfl
      · exact .inl rfl
  | c :: d :: u, l, i, _, hu, hl => by
    obtain ⟨g, j, h1, h2⟩ := blL_num b (d :: u) l (i + 1) (List.cons_ne_nil _ _) (fun x hx => hu x (List.mem_cons_of_mem _ hx)) hl
    refine ⟨g, j, ?_, h2⟩
    rw [List.cons_append, blL, h1]
    have e : gap b i c (d :: u ++ l) = [] := by
      have h3 : insd c (d :: u ++ l) = true := by
        show (isDb c && isDb d) = true
        rw [(isDb_iff c).2 (hu c List.mem_cons_self), (isDb_iff d).2 (hu d (List.mem_cons_of_mem _ List.mem_cons_self))]; rfl
      unfold gap
      rw [h3, if_neg (by simp)]
    rw [e]; rfl
theorem spl_blL (b : Nat) : ∀ {l : List UInt8} {ts : List Tok}, Spl l ts → ∀ i, Spl (blL b i l) ts := by
  intro l ts h
  induction h with
  | nil => intro i; rw [blL]; exact .nil
  | bl h ih => intro i; rw [blL]; exact .bl (spl_gap (ih (i + 1)))
  | ch h1 h2 h0 h ih => intro i; rw [blL]; exact .ch h1 h2 h0 (spl_gap (ih (i + 1)))
  | @num n l ts hl h ih =>
    intro i
    obtain ⟨g, j, e, hg⟩ := blL_num b (Lib.decDigits n) l i (decDigits_ne n) (decDigits_D n) hl
    rw [e]
    rcases hg with rfl | rfl
    · exact .num (nd_blL hl) (ih j)
    · exact .num (nd_cons (by unfold isD; decide)) (.bl (.bl (ih j)))
theorem spl_app : ∀ {l : List UInt8} {ts : List Tok}, Spl l ts → ∀ {m : List UInt8} {us : List Tok}, nd m → Spl m us → Spl (l ++ m) (ts ++ us) := by
  intro l ts h
  induction h with
  | nil => intro m us _ h2; exact h2
  | bl h ih => intro m us h1 h2; exact .bl (ih h1 h2)
  | ch a1 a2 a0 h ih => intro m us h1 h2; exact .ch a1 a2 a0 (ih h1 h2)
  | @num n l ts hl h ih =>
    intro m us h1 h2
    rw [List.append_assoc, List.cons_append]
    refine .num (fun b w e => ?_) (ih h1 h2)
    rcases l with _ | ⟨c, l⟩
    · exact h1 b w e
    · rw [List.cons_append] at e
      rw [← (List.cons.inj e).1]
      exact hl c l rfl
def nsT (p : List Tm) : Nat → List Tok
  | 0 => tokP p
  | j + 1 => .ch 40 :: (nsT p j ++ [.ch 41])
theorem rd_nest {s : ByteArray} {p : List Tm} (hp : TxOk p) (n : Nat) : ∀ (j : Nat) (ts : List Tok), endS ts → Rd s (sumE s (n + j)) (nsT p j ++ ts) p ts
  | 0, ts, he => by
    rw [Nat.add_zero, nsT]
    rcases n with _ | n
    · exact ri_text (s := s) (ins := none) hp.nrm hp.deg hp.siz he
    · exact ri_text (s := s) (ins := some (sumE s n)) hp.nrm hp.deg hp.siz he
  | j + 1, ts, he => by
    have ih := rd_nest (s := s) hp n j (.ch 41 :: ts) (.inr rfl)
    have e : nsT p (j + 1) ++ ts = .ch 40 :: (nsT p j ++ .ch 41 :: ts) := by rw [nsT]; simp
    rw [e]
    unfold endS at he
    exact ri_pos (ins := some (sumE s (n + j))) (Nat.ne_of_beq_eq_false rfl) (rt_mk (rf_one (rb_br ih) (by omega)) (rl_stop (by omega) (by omega))) (rs_stop (by omega) (by omega))
def inS (s : ByteArray) (i : Nat) : Bool := decide (i + 1 < s.size) && isDg (chA s i) && isDg (chA s (i + 1))
theorem rst_at {s : ByteArray} {i : Nat} (hi : i < s.size) : rst s i = UInt8.ofNat (chA s i) :: rst s (i + 1) := by
  unfold rst
  have hlt : i < s.data.toList.length := by rw [size_list]; exact hi
  rw [List.drop_eq_getElem_cons hlt]
  congr 1
  unfold chA
  rw [List.getD, List.getElem?_eq_getElem hlt, Option.getD_some, UInt8.ofNat_toNat]
theorem rst_end {s : ByteArray} : rst s s.size = [] := by
  unfold rst; rw [List.drop_eq_nil_of_le (by rw [size_list]; exact Nat.le_refl _)]
theorem insd_eq {s : ByteArray} {i : Nat} (hi : i < s.size) : insd (UInt8.ofNat (chA s i)) (rst s (i + 1)) = inS s i := by
  have hb : ∀ j, (UInt8.ofNat (chA s j)).toNat = chA s j := fun j => by
    rw [UInt8.toNat_ofNat']
    have : chA s j < 256 := UInt8.toNat_lt _
    omega
  unfold inS
  by_cases h1 : i + 1 < s.size
  · rw [rst_at h1, decide_eq_true h1, Bool.true_and]
    show (isDg (UInt8.ofNat (chA s i)).toNat && isDg (UInt8.ofNat (chA s (i + 1))).toNat) = _
    rw [hb, hb]
  · have e : rst s (i + 1) = [] := by
      unfold rst; exact List.drop_eq_nil_of_le (by rw [size_list]; omega)
    rw [e, decide_eq_false h1, Bool.false_and, Bool.false_and]; rfl
section
variable {s o : ByteArray} {b i : Nat} {B : List UInt8}
theorem bl_one (hi : i < s.size) (hg : inS s i = true ∨ bitB b i = false) (h : o.data.toList ++ blL b i (rst s i) = B) : (o ++ ⟨#[UInt8.ofNat (chA s i)]⟩).data.toList ++ blL b (i + 1) (rst s (i + 1)) = B := by
  rw [rst_at hi, blL] at h
  have e : gap b i (UInt8.ofNat (chA s i)) (rst s (i + 1)) = [] := by
    unfold gap
    rw [insd_eq hi]
    rcases hg with hg | hg
    · rw [hg, if_neg (by simp)]
    · rw [hg, if_neg (by simp)]
  rw [e, List.nil_append] at h
  rw [← h, ByteArray.data_append, Array.toList_append, List.append_assoc]; rfl
theorem bl_gap (hi : i < s.size) (h1 : inS s i = false) (h2 : bitB b i = true) (h : o.data.toList ++ blL b i (rst s i) = B) : (o ++ ⟨#[UInt8.ofNat (chA s i)]⟩ ++ ⟨#[32, 32]⟩).data.toList ++ blL b (i + 1) (rst s (i + 1)) = B := by
  rw [rst_at hi, blL] at h
  have e : gap b i (UInt8.ofNat (chA s i)) (rst s (i + 1)) = [32, 32] := by
    unfold gap
    rw [insd_eq hi, h1, h2, if_pos ⟨rfl, rfl⟩]
  rw [e] at h
  rw [← h, ByteArray.data_append, ByteArray.data_append, Array.toList_append, Array.toList_append, List.append_assoc, List.append_assoc]; rfl
theorem bl_size (h : o.data.toList ++ blL b i (rst s i) = blL b 0 s.data.toList) : o.size ≤ 3 * s.size := by
  have h1 := congrArg List.length h
  have h2 := blL_len b s.data.toList 0
  rw [List.length_append, size_list] at h1
  rw [size_list] at h2
  omega
theorem nest_step {p : List Tm} {j : Nat} (h : Spl o.data.toList (nsT p j)) : Spl (⟨#[40, 32]⟩ ++ o ++ ⟨#[41]⟩).data.toList (nsT p (j + 1)) := by
  have h1 : Spl [41] [.ch 41] := .ch (by decide) (by unfold isD; decide) (by decide) .nil
  have h2 := spl_app h (nd_cons (by unfold isD; decide)) h1
  have h3 : Spl (40 :: 32 :: (o.data.toList ++ [41])) (nsT p (j + 1)) := .ch (by decide) (by unfold isD; decide) (by decide) (.bl h2)
  rw [ByteArray.data_append, ByteArray.data_append, Array.toList_append, Array.toList_append]
  simpa using h3
theorem nest_parse' {p : List Tm} {j : Nat} (hp : TxOk p) (hj : j ≤ 31) (hz : o.size ≤ 4000) (h : Spl o.data.toList (nsT p j)) : parseE (⟨#[32]⟩ ++ o ++ ⟨#[32, 32]⟩) = .ok p := by
  refine parseE_of (ts := nsT p j) ?_ ?_ (fun s => ?_)
  · have e1 : (⟨#[32]⟩ : ByteArray).size = 1 := rfl
    have e2 : (⟨#[32, 32]⟩ : ByteArray).size = 2 := rfl
    rw [ByteArray.size_append, ByteArray.size_append, e1, e2]; omega
  · have h1 : Spl [32, 32] [] := .bl (.bl .nil)
    have h2 := spl_app h (nd_cons (by unfold isD; decide)) h1
    rw [List.append_nil] at h2
    rw [ByteArray.data_append, ByteArray.data_append, Array.toList_append, Array.toList_append]
    have h3 := Spl.bl h2
    simpa using h3
  · have := rd_nest (s := s) hp (32 - j) j [] (.inl rfl)
    rw [List.append_nil, show 32 - j + j = 32 by omega] at this
    exact this
end
end
section
theorem enc_ascii : ∀ n, n < 128 → Utf8.encode ((n : Nat) : Int) = ⟨#[UInt8.ofNat n]⟩ := by decide +kernel
theorem cvs_5_9 (n : Nat) (h : n < 128) (w : World) : (Go.convert 5 9 (.int .u8 ((n : Nat) : Int))).run Tryz.prog w = .ok (.string ⟨#[UInt8.ofNat n]⟩) w := by
  have h1 := Tryz.underlying5
  have h2 := Tryz.underlying9
  rw [run_convert_int_string w 5 9 .u8 _ (by rw [h1]; rfl) h2, enc_ascii n h]
theorem sz_o (c : UInt8) : (⟨#[c]⟩ : ByteArray).size = 1 := rfl
theorem sz_t (c d : UInt8) : (⟨#[c, d]⟩ : ByteArray).size = 2 := rfl
theorem txt_asc {p : List Tm} (hd : ∀ t ∈ p, t.i + t.j ≤ 12) {s : ByteArray} (hs : s = txtP txtQ p) (i : Nat) : chA s i < 128 := by
  have h := spl_txt hd nd_nil Spl.nil
  rw [List.append_nil, List.append_nil] at h
  have h2 := spl_ascii h
  unfold chA
  rw [hs, List.getD]
  rcases hg : (txtP txtQ p).data.toList[i]? with _ | b
  · decide
  · exact h2 b (List.mem_of_getElem? hg)
theorem bl_begin (s : ByteArray) (b : Nat) : (⟨#[]⟩ : ByteArray).data.toList ++ blL b 0 (rst s 0) = blL b 0 s.data.toList := rfl
theorem bl_done {p : List Tm} (hd : ∀ t ∈ p, t.i + t.j ≤ 12) {s o : ByteArray} {b i : Nat} (hs : s = txtP txtQ p) (hi : i = s.size) (h : o.data.toList ++ blL b i (rst s i) = blL b 0 s.data.toList) : Spl o.data.toList (nsT p 0) := by
  subst hi
  rw [rst_end, blL, List.append_nil] at h
  rw [h, hs]
  have h2 := spl_txt hd nd_nil Spl.nil
  rw [List.append_nil, List.append_nil] at h2
  exact spl_blL b h2 0
set_option maxHeartbeats 4000000 in
theorem C_ExprsBlanks (l : List Ti) (ad : Option Addr) (c : Nat) (hokl : ∀ t ∈ l, OkT t) (hln : l.length ≤ 9223372036854775807) (b ne : Nat) (hb : b ≤ 18446744073709551615) (hne : ne ≤ 255) : CtrW Tryz.prog 7 [.slice ad l.length c, .int .u64 ((b : Nat) : Int), .int .u8 ((ne : Nat) : Int)] [Row ad (cellsOf encTi l), TabF] (.bool true) := by
  obtain ⟨r, hr⟩ : ∃ r, ne % 32 = r := ⟨_, rfl⟩
  have hr31 : r ≤ 31 := by omega
  refine fn_intro Tryz.func7 rfl Tryz.ntmps7 nb ?_
  intro S w0 a hS h
  refine gC h (zs (zr (za rfl (zn (zs (zs (zr (zm rfl (zp (.builtin [_] rfl (len_slice_37 _ _ _)) (zp (.gtr rfl rfl) ?_)))))))))); clear h; intro a w h
  refine by_bool h (fun hc15 h => ?_) (fun hc15 h => ?_)
  · skip
    refine wpList_nil ?_
    change Code.wp _ _ _ _ _
    refine cond_true h rfl ?_
    refine gC h (zs (zr (zw [] rfl Tryz.call10 (C_works11) (za rfl (zn (zt ?_)))))); clear h; intro a w h
    refine retV h (results1 h rfl (.tmp rfl)) ?_
    rfl
  · skip
    have hll : l.length ≤ 8 := by have := of_decide_eq_false hc15; omega
    have hgx := made_Pq (d := 6) hokl hll (by decide) (by decide)
    have hzG := made_size (d := 6) hokl
    have hoG := made_TxOk (d := 6) (by decide) hokl (by omega)
    refine wpList_nil ?_
    change Code.wp _ _ _ _ _
    refine cond_false h rfl ?_
    refine gC h (zk (zs (zr (zm rfl (zf [_, _] rfl Tryz.call15 (C_Made l _ _ 6 8 (by assumption) (by omega) (by omega)) ?_))))); clear h; rintro v18 Ψ18 ⟨ad18, c18, rfl, rfl⟩ a w h
    obtain ⟨G, hnG⟩ : ∃ G, norm (madeL 6 l) = G := ⟨_, rfl⟩
    rw [hnG] at h hgx hzG hoG
    have hNG := nrm_of hnG
    refine gL h (za rfl (zn (zs (zr (zm rfl (zw [_] rfl Tryz.call16 (C_TextG G _ _ 6 41 hgx (by decide) (by decide)) ?_)))))); clear h; intro a w h
    rw [norm_id hNG] at h
    obtain ⟨tx, htx⟩ : ∃ tx, tx = txtP txtQ G := ⟨_, rfl⟩
    rw [← htx] at h
    have htz : tx.size ≤ 920 := by rw [htx]; have := txt_len hoG.deg; omega
    have hasc := txt_asc hoG.deg htx
    refine gL h (za rfl (zn (zs (zr (za rfl (zn (zs (zs (zr (za rfl (zn (zb ?_)))))))))))); clear h; intro a w h
    refine wp_loop_inv (fun (i : Nat) a w => i ≤ tx.size ∧ ∃ o, (o.data.toList ++ blL b i (rst tx i) = blL b 0 tx.data.toList) ∧ St 94 S w0 [(1, .int .u64 (((b : Nat) : Int))), (2, .int .u8 (((ne : Nat) : Int))), (6, .bool false), (7, .slice ad18 ((G).length) c18), (8, .string tx), (9, .string o), (10, .int .i64 ((i : Nat) : Int))] [] [Row ad18 (cellsOf encT (G)), Row ad (cellsOf encTi l), TabF] a w) (fun i => tx.size - i) 0 (⟨Nat.zero_le _, ⟨#[]⟩, bl_begin tx b, by exact (h).sub (subL ⟨rfl, rfl, rfl, rfl, rfl, rfl, rfl, trivial⟩)⟩) ?_; clear h
    rintro i a w ⟨hi_i, o, hinv, h⟩
    have hoz := bl_size hinv
    refine gC h (zs (zs (zr (zm rfl (zm rfl (zp (.builtin [_] rfl (len_string_9 _)) (zp (.lss rfl rfl) (zn ?_)))))))); clear h; intro a w h
    change Code.wp _ _ _ _ _
    refine cond_split h rfl (fun hc24 => ?_) (fun hc24 => ?_)
    · skip
      have hlt_i : i < tx.size := by have := of_decide_eq_true hc24; omega
      refine gC h (zk (zs (zb (zs (zr (zm rfl (zm rfl (zm rfl (zp (Pure1.cast (v' := .int .u8 ((chA tx i : Nat) : Int)) (.index rfl rfl (fun _ => run_index_str Tryz.runUnderlying9 _ _ (by omega))) (by rfl)) (zp (.convert rfl (cvs_5_9 _ (by exact hasc i))) (zp (.binOp rfl rfl (fun _ => run_sadd _ _ _ _ _ (by simp only [ByteArray.size_append, sz_o, sz_t]; omega))) (za rfl (zn (zs (zr (zm rfl (zp (Pure1.cast (v' := (.int .i64 ((i + 1 : Nat) : Int))) (.add rfl rfl) (by show Value.int _ _ = Value.int _ _; congr 1)) (zm rfl (zp (.builtin [_] rfl (len_string_9 _)) (zp (.lss rfl rfl) ?_)))))))))))))))))))); clear h; intro a w h
      refine by_bool h (fun hc37 h => ?_) (fun hc37 h => ?_)
      · skip
        have g1 : i + 1 < tx.size := by have := of_decide_eq_true hc37; omega
        refine gL h (zm rfl (zq 38 rfl rfl (.move rfl) (zq 38 rfl rfl (.move rfl) (zq 38 rfl rfl (Pure1.cast (v' := .int .u8 ((chA tx i : Nat) : Int)) (.index rfl rfl (fun _ => run_index_str Tryz.runUnderlying9 _ _ (by omega))) (by rfl)) (zq 38 rfl rfl (.geq rfl rfl) ?_))))); clear h; intro a w h
        refine by_bool h (fun hc42 h => ?_) (fun hc42 h => ?_)
        · skip
          have g2 : 48 ≤ chA tx i := by have := of_decide_eq_true hc42; omega
          refine gL h (zp (.pickT rfl rfl) (zm rfl (zq 44 rfl rfl (.move rfl) (zq 44 rfl rfl (.move rfl) (zq 44 rfl rfl (Pure1.cast (v' := .int .u8 ((chA tx i : Nat) : Int)) (.index rfl rfl (fun _ => run_index_str Tryz.runUnderlying9 _ _ (by omega))) (by rfl)) (zq 44 rfl rfl (.leq rfl rfl) ?_)))))); clear h; intro a w h
          refine by_bool h (fun hc48 h => ?_) (fun hc48 h => ?_)
          · skip
            have g3 : chA tx i ≤ 57 := by have := of_decide_eq_true hc48; omega
            refine gL h (zp (.pickT rfl rfl) (zm rfl (zq 50 rfl rfl (.move rfl) (zq 50 rfl rfl (.move rfl) (zq 50 rfl rfl (Pure1.cast (v' := (.int .i64 ((i + 1 : Nat) : Int))) (.add rfl rfl) (by show Value.int _ _ = Value.int _ _; congr 1)) (zq 50 rfl rfl (Pure1.cast (v' := .int .u8 ((chA tx (i + 1) : Nat) : Int)) (.index rfl rfl (fun _ => run_index_str Tryz.runUnderlying9 _ _ (by omega))) (by rfl)) (zq 50 rfl rfl (.geq rfl rfl) ?_))))))); clear h; intro a w h
            refine by_bool h (fun hc55 h => ?_) (fun hc55 h => ?_)
            · skip
              have g4 : 48 ≤ chA tx (i + 1) := by have := of_decide_eq_true hc55; omega
              refine gL h (zp (.pickT rfl rfl) (zm rfl (zq 57 rfl rfl (.move rfl) (zq 57 rfl rfl (.move rfl) (zq 57 rfl rfl (Pure1.cast (v' := (.int .i64 ((i + 1 : Nat) : Int))) (.add rfl rfl) (by show Value.int _ _ = Value.int _ _; congr 1)) (zq 57 rfl rfl (Pure1.cast (v' := .int .u8 ((chA tx (i + 1) : Nat) : Int)) (.index rfl rfl (fun _ => run_index_str Tryz.runUnderlying9 _ _ (by omega))) (by rfl)) (zq 57 rfl rfl (.leq rfl rfl) ?_))))))); clear h; intro a w h
              refine by_bool h (fun hc62 h => ?_) (fun hc62 h => ?_)
              · skip
                have g5 : chA tx (i + 1) ≤ 57 := by have := of_decide_eq_true hc62; omega
                have hin : inS tx i = true := by unfold inS isDg; simp only [Bool.and_eq_true, decide_eq_true_eq]; omega
                refine gL h (zp (.pickT rfl rfl) (za rfl (zn (zs (zr (zm rfl (zp (.unOp rfl (un_not _)) (zm rfl (zo 66 rfl rfl rfl (zo 66 rfl rfl rfl (zo 66 rfl rfl rfl (zo 66 rfl rfl rfl (zo 66 rfl rfl rfl (zo 66 rfl rfl rfl (zp (.pickF rfl rfl) (zn ?_)))))))))))))))); clear h; intro a w h
                change Code.wp _ _ _ _ _
                refine cond_false h rfl ?_
                refine gC h (zk (zr (zm rfl (zp (Pure1.cast (v' := (.int .i64 ((i + 1 : Nat) : Int))) (.add rfl rfl) (by show Value.int _ _ = Value.int _ _; congr 1)) (za rfl (zn ?_)))))); clear h; intro a w h
                exact ⟨i + 1, ⟨by omega, o ++ ((⟨#[UInt8.ofNat (chA tx i)]⟩ : ByteArray)), by first | exact bl_gap hlt_i hin hbit hinv | exact bl_one hlt_i (.inl hin) hinv | exact bl_one hlt_i (.inr hbit) hinv, by exact h.sub sA⟩, by omega⟩
              · skip
                have g5 : ¬ chA tx (i + 1) ≤ 57 := by have := of_decide_eq_false hc62; omega
                have hin : inS tx i = false := by unfold inS isDg; simp only [Bool.and_eq_false_iff, decide_eq_false_iff_not]; omega
                refine gL h (zp (.pickT rfl rfl) (za rfl (zn (zs (zr (zm rfl (zp (.unOp rfl (un_not _)) (zm rfl (zq 66 rfl rfl (.move rfl) (zq 66 rfl rfl (.move rfl) (zq 66 rfl rfl (Pure1.cast (v' := .int .i64 ((i % 64 : Nat) : Int)) (.binOp rfl rfl (fun _ => run_rem _ _ _ _ _ (by decide))) (by exact congrArg (Value.int .i64) (tmod_nat i 64))) (zq 66 rfl rfl (.binOp rfl rfl (fun _ => run_shr _ _ _ b (i % 64) (by have := Nat.mod_lt i (show 0 < 64 by decide); show i % 64 ≤ 64; omega))) (zq 66 rfl rfl (Pure1.cast (v' := .int .u64 ((b / 2 ^ (i % 64) % 2 : Nat) : Int)) (.binOp rfl rfl (fun _ => run_rem _ _ _ _ _ (by decide))) (by exact congrArg (Value.int .u64) (tmod_nat _ 2))) (zq 66 rfl rfl (.eql rfl rfl) ?_)))))))))))))); clear h; intro a w h
                refine by_bool h (fun hc72 h => ?_) (fun hc72 h => ?_)
                · skip
                  have hbit : bitB b i = true := by have := eq_of_beq hc72; unfold bitB; rw [decide_eq_true_eq]; omega
                  refine gL h (zp (.pickT rfl rfl) (zn ?_)); clear h; intro a w h
                  change Code.wp _ _ _ _ _
                  refine cond_true h rfl ?_
                  refine gC h (zr (zm rfl (zp (.binOp rfl rfl (fun _ => run_sadd _ _ _ _ _ (by simp only [ByteArray.size_append, sz_o, sz_t]; omega))) (za rfl (zn (zr (zm rfl (zp (Pure1.cast (v' := (.int .i64 ((i + 1 : Nat) : Int))) (.add rfl rfl) (by show Value.int _ _ = Value.int _ _; congr 1)) (za rfl (zn ?_)))))))))); clear h; intro a w h
                  exact ⟨i + 1, ⟨by omega, (o ++ ((⟨#[UInt8.ofNat (chA tx i)]⟩ : ByteArray))) ++ (⟨#[32, 32]⟩), by first | exact bl_gap hlt_i hin hbit hinv | exact bl_one hlt_i (.inl hin) hinv | exact bl_one hlt_i (.inr hbit) hinv, by exact h.sub sA⟩, by omega⟩
                · skip
                  have hbit : bitB b i = false := by unfold bitB; rw [decide_eq_false_iff_not]; intro e; rw [e] at hc72; exact absurd hc72 (by decide)
                  refine gL h (zp (.pickT rfl rfl) (zn ?_)); clear h; intro a w h
                  change Code.wp _ _ _ _ _
                  refine cond_false h rfl ?_
                  refine gC h (zk (zr (zm rfl (zp (Pure1.cast (v' := (.int .i64 ((i + 1 : Nat) : Int))) (.add rfl rfl) (by show Value.int _ _ = Value.int _ _; congr 1)) (za rfl (zn ?_)))))); clear h; intro a w h
                  exact ⟨i + 1, ⟨by omega, o ++ ((⟨#[UInt8.ofNat (chA tx i)]⟩ : ByteArray)), by first | exact bl_gap hlt_i hin hbit hinv | exact bl_one hlt_i (.inl hin) hinv | exact bl_one hlt_i (.inr hbit) hinv, by exact h.sub sA⟩, by omega⟩
            · skip
              have g4 : ¬ 48 ≤ chA tx (i + 1) := by have := of_decide_eq_false hc55; omega
              have hin : inS tx i = false := by unfold inS isDg; simp only [Bool.and_eq_false_iff, decide_eq_false_iff_not]; omega
              refine gL h (zp (.pickT rfl rfl) (zm rfl (zo 57 rfl rfl rfl (zo 57 rfl rfl rfl (zo 57 rfl rfl rfl (zo 57 rfl rfl rfl (zo 57 rfl rfl rfl (zp (.pickF rfl rfl) (za rfl (zn (zs (zr (zm rfl (zp (.unOp rfl (un_not _)) (zm rfl (zq 66 rfl rfl (.move rfl) (zq 66 rfl rfl (.move rfl) (zq 66 rfl rfl (Pure1.cast (v' := .int .i64 ((i % 64 : Nat) : Int)) (.binOp rfl rfl (fun _ => run_rem _ _ _ _ _ (by decide))) (by exact congrArg (Value.int .i64) (tmod_nat i 64))) (zq 66 rfl rfl (.binOp rfl rfl (fun _ => run_shr _ _ _ b (i % 64) (by have := Nat.mod_lt i (show 0 < 64 by decide); show i % 64 ≤ 64; omega))) (zq 66 rfl rfl (Pure1.cast (v' := .int .u64 ((b / 2 ^ (i % 64) % 2 : Nat) : Int)) (.binOp rfl rfl (fun _ => run_rem _ _ _ _ _ (by decide))) (by exact congrArg (Value.int .u64) (tmod_nat _ 2))) (zq 66 rfl rfl (.eql rfl rfl) ?_))))))))))))))))))))); clear h; intro a w h
              refine by_bool h (fun hc72 h => ?_) (fun hc72 h => ?_)
              · skip
                have hbit : bitB b i = true := by have := eq_of_beq hc72; unfold bitB; rw [decide_eq_true_eq]; omega
                refine gL h (zp (.pickT rfl rfl) (zn ?_)); clear h; intro a w h
                change Code.wp _ _ _ _ _
                refine cond_true h rfl ?_
                refine gC h (zr (zm rfl (zp (.binOp rfl rfl (fun _ => run_sadd _ _ _ _ _ (by simp only [ByteArray.size_append, sz_o, sz_t]; omega))) (za rfl (zn (zr (zm rfl (zp (Pure1.cast (v' := (.int .i64 ((i + 1 : Nat) : Int))) (.add rfl rfl) (by show Value.int _ _ = Value.int _ _; congr 1)) (za rfl (zn ?_)))))))))); clear h; intro a w h
                exact ⟨i + 1, ⟨by omega, (o ++ ((⟨#[UInt8.ofNat (chA tx i)]⟩ : ByteArray))) ++ (⟨#[32, 32]⟩), by first | exact bl_gap hlt_i hin hbit hinv | exact bl_one hlt_i (.inl hin) hinv | exact bl_one hlt_i (.inr hbit) hinv, by exact h.sub sA⟩, by omega⟩
              · skip
                have hbit : bitB b i = false := by unfold bitB; rw [decide_eq_false_iff_not]; intro e; rw [e] at hc72; exact absurd hc72 (by decide)
                refine gL h (zp (.pickT rfl rfl) (zn ?_)); clear h; intro a w h
                change Code.wp _ _ _ _ _
                refine cond_false h rfl ?_
                refine gC h (zk (zr (zm rfl (zp (Pure1.cast (v' := (.int .i64 ((i + 1 : Nat) : Int))) (.add rfl rfl) (by show Value.int _ _ = Value.int _ _; congr 1)) (za rfl (zn ?_)))))); clear h; intro a w h
                exact ⟨i + 1, ⟨by omega, o ++ ((⟨#[UInt8.ofNat (chA tx i)]⟩ : ByteArray)), by first | exact bl_gap hlt_i hin hbit hinv | exact bl_one hlt_i (.inl hin) hinv | exact bl_one hlt_i (.inr hbit) hinv, by exact h.sub sA⟩, by omega⟩
          · skip
            have g3 : ¬ chA tx i ≤ 57 := by have := of_decide_eq_false hc48; omega
            have hin : inS tx i = false := by unfold inS isDg; simp only [Bool.and_eq_false_iff, decide_eq_false_iff_not]; omega
            refine gL h (zp (.pickT rfl rfl) (zm rfl (zo 50 rfl rfl rfl (zo 50 rfl rfl rfl (zo 50 rfl rfl rfl (zo 50 rfl rfl rfl (zo 50 rfl rfl rfl (zp (.pickF rfl rfl) (zm rfl (zo 57 rfl rfl rfl (zo 57 rfl rfl rfl (zo 57 rfl rfl rfl (zo 57 rfl rfl rfl (zo 57 rfl rfl rfl (zp (.pickF rfl rfl) (za rfl (zn (zs (zr (zm rfl (zp (.unOp rfl (un_not _)) (zm rfl (zq 66 rfl rfl (.move rfl) (zq 66 rfl rfl (.move rfl) (zq 66 rfl rfl (Pure1.cast (v' := .int .i64 ((i % 64 : Nat) : Int)) (.binOp rfl rfl (fun _ => run_rem _ _ _ _ _ (by decide))) (by exact congrArg (Value.int .i64) (tmod_nat i 64))) (zq 66 rfl rfl (.binOp rfl rfl (fun _ => run_shr _ _ _ b (i % 64) (by have := Nat.mod_lt i (show 0 < 64 by decide); show i % 64 ≤ 64; omega))) (zq 66 rfl rfl (Pure1.cast (v' := .int .u64 ((b / 2 ^ (i % 64) % 2 : Nat) : Int)) (.binOp rfl rfl (fun _ => run_rem _ _ _ _ _ (by decide))) (by exact congrArg (Value.int .u64) (tmod_nat _ 2))) (zq 66 rfl rfl (.eql rfl rfl) ?_)))))))))))))))))))))))))))); clear h; intro a w h
            refine by_bool h (fun hc72 h => ?_) (fun hc72 h => ?_)
            · skip
              have hbit : bitB b i = true := by have := eq_of_beq hc72; unfold bitB; rw [decide_eq_true_eq]; omega
              refine gL h (zp (.pickT rfl rfl) (zn ?_)); clear h; intro a w h
              change Code.wp _ _ _ _ _
              refine cond_true h rfl ?_
              refine gC h (zr (zm rfl (zp (.binOp rfl rfl (fun _ => run_sadd _ _ _ _ _ (by simp only [ByteArray.size_append, sz_o, sz_t]; omega))) (za rfl (zn (zr (zm rfl (zp (Pure1.cast (v' := (.int .i64 ((i + 1 : Nat) : Int))) (.add rfl rfl) (by show Value.int _ _ = Value.int _ _; congr 1)) (za rfl (zn ?_)))))))))); clear h; intro a w h
              exact ⟨i + 1, ⟨by omega, (o ++ ((⟨#[UInt8.ofNat (chA tx i)]⟩ : ByteArray))) ++ (⟨#[32, 32]⟩), by first | exact bl_gap hlt_i hin hbit hinv | exact bl_one hlt_i (.inl hin) hinv | exact bl_one hlt_i (.inr hbit) hinv, by exact h.sub sA⟩, by omega⟩
            · skip
              have hbit : bitB b i = false := by unfold bitB; rw [decide_eq_false_iff_not]; intro e; rw [e] at hc72; exact absurd hc72 (by decide)
              refine gL h (zp (.pickT rfl rfl) (zn ?_)); clear h; intro a w h
              change Code.wp _ _ _ _ _
              refine cond_false h rfl ?_
              refine gC h (zk (zr (zm rfl (zp (Pure1.cast (v' := (.int .i64 ((i + 1 : Nat) : Int))) (.add rfl rfl) (by show Value.int _ _ = Value.int _ _; congr 1)) (za rfl (zn ?_)))))); clear h; intro a w h
              exact ⟨i + 1, ⟨by omega, o ++ ((⟨#[UInt8.ofNat (chA tx i)]⟩ : ByteArray)), by first | exact bl_gap hlt_i hin hbit hinv | exact bl_one hlt_i (.inl hin) hinv | exact bl_one hlt_i (.inr hbit) hinv, by exact h.sub sA⟩, by omega⟩
        · skip
          have g2 : ¬ 48 ≤ chA tx i := by have := of_decide_eq_false hc42; omega
          have hin : inS tx i = false := by unfold inS isDg; simp only [Bool.and_eq_false_iff, decide_eq_false_iff_not]; omega
          refine gL h (zp (.pickT rfl rfl) (zm rfl (zo 44 rfl rfl rfl (zo 44 rfl rfl rfl (zo 44 rfl rfl rfl (zo 44 rfl rfl rfl (zp (.pickF rfl rfl) (zm rfl (zo 50 rfl rfl rfl (zo 50 rfl rfl rfl (zo 50 rfl rfl rfl (zo 50 rfl rfl rfl (zo 50 rfl rfl rfl (zp (.pickF rfl rfl) (zm rfl (zo 57 rfl rfl rfl (zo 57 rfl rfl rfl (zo 57 rfl rfl rfl (zo 57 rfl rfl rfl (zo 57 rfl rfl rfl (zp (.pickF rfl rfl) (za rfl (zn (zs (zr (zm rfl (zp (.unOp rfl (un_not _)) (zm rfl (zq 66 rfl rfl (.move rfl) (zq 66 rfl rfl (.move rfl) (zq 66 rfl rfl (Pure1.cast (v' := .int .i64 ((i % 64 : Nat) : Int)) (.binOp rfl rfl (fun _ => run_rem _ _ _ _ _ (by decide))) (by exact congrArg (Value.int .i64) (tmod_nat i 64))) (zq 66 rfl rfl (.binOp rfl rfl (fun _ => run_shr _ _ _ b (i % 64) (by have := Nat.mod_lt i (show 0 < 64 by decide); show i % 64 ≤ 64; omega))) (zq 66 rfl rfl (Pure1.cast (v' := .int .u64 ((b / 2 ^ (i % 64) % 2 : Nat) : Int)) (.binOp rfl rfl (fun _ => run_rem _ _ _ _ _ (by decide))) (by exact congrArg (Value.int .u64) (tmod_nat _ 2))) (zq 66 rfl rfl (.eql rfl rfl) ?_)))))))))))))))))))))))))))))))))); clear h; intro a w h
          refine by_bool h (fun hc72 h => ?_) (fun hc72 h => ?_)
          · skip
            have hbit : bitB b i = true := by have := eq_of_beq hc72; unfold bitB; rw [decide_eq_true_eq]; omega
            refine gL h (zp (.pickT rfl rfl) (zn ?_)); clear h; intro a w h
            change Code.wp _ _ _ _ _
            refine cond_true h rfl ?_
            refine gC h (zr (zm rfl (zp (.binOp rfl rfl (fun _ => run_sadd _ _ _ _ _ (by simp only [ByteArray.size_append, sz_o, sz_t]; omega))) (za rfl (zn (zr (zm rfl (zp (Pure1.cast (v' := (.int .i64 ((i + 1 : Nat) : Int))) (.add rfl rfl) (by show Value.int _ _ = Value.int _ _; congr 1)) (za rfl (zn ?_)))))))))); clear h; intro a w h
            exact ⟨i + 1, ⟨by omega, (o ++ ((⟨#[UInt8.ofNat (chA tx i)]⟩ : ByteArray))) ++ (⟨#[32, 32]⟩), by first | exact bl_gap hlt_i hin hbit hinv | exact bl_one hlt_i (.inl hin) hinv | exact bl_one hlt_i (.inr hbit) hinv, by exact h.sub sA⟩, by omega⟩
          · skip
            have hbit : bitB b i = false := by unfold bitB; rw [decide_eq_false_iff_not]; intro e; rw [e] at hc72; exact absurd hc72 (by decide)
            refine gL h (zp (.pickT rfl rfl) (zn ?_)); clear h; intro a w h
            change Code.wp _ _ _ _ _
            refine cond_false h rfl ?_
            refine gC h (zk (zr (zm rfl (zp (Pure1.cast (v' := (.int .i64 ((i + 1 : Nat) : Int))) (.add rfl rfl) (by show Value.int _ _ = Value.int _ _; congr 1)) (za rfl (zn ?_)))))); clear h; intro a w h
            exact ⟨i + 1, ⟨by omega, o ++ ((⟨#[UInt8.ofNat (chA tx i)]⟩ : ByteArray)), by first | exact bl_gap hlt_i hin hbit hinv | exact bl_one hlt_i (.inl hin) hinv | exact bl_one hlt_i (.inr hbit) hinv, by exact h.sub sA⟩, by omega⟩
      · skip
        have g1 : ¬ i + 1 < tx.size := by have := of_decide_eq_false hc37; omega
        have hin : inS tx i = false := by unfold inS isDg; simp only [Bool.and_eq_false_iff, decide_eq_false_iff_not]; omega
        refine gL h (zm rfl (zo 38 rfl rfl rfl (zo 38 rfl rfl rfl (zo 38 rfl rfl rfl (zo 38 rfl rfl rfl (zp (.pickF rfl rfl) (zm rfl (zo 44 rfl rfl rfl (zo 44 rfl rfl rfl (zo 44 rfl rfl rfl (zo 44 rfl rfl rfl (zp (.pickF rfl rfl) (zm rfl (zo 50 rfl rfl rfl (zo 50 rfl rfl rfl (zo 50 rfl rfl rfl (zo 50 rfl rfl rfl (zo 50 rfl rfl rfl (zp (.pickF rfl rfl) (zm rfl (zo 57 rfl rfl rfl (zo 57 rfl rfl rfl (zo 57 rfl rfl rfl (zo 57 rfl rfl rfl (zo 57 rfl rfl rfl (zp (.pickF rfl rfl) (za rfl (zn (zs (zr (zm rfl (zp (.unOp rfl (un_not _)) (zm rfl (zq 66 rfl rfl (.move rfl) (zq 66 rfl rfl (.move rfl) (zq 66 rfl rfl (Pure1.cast (v' := .int .i64 ((i % 64 : Nat) : Int)) (.binOp rfl rfl (fun _ => run_rem _ _ _ _ _ (by decide))) (by exact congrArg (Value.int .i64) (tmod_nat i 64))) (zq 66 rfl rfl (.binOp rfl rfl (fun _ => run_shr _ _ _ b (i % 64) (by have := Nat.mod_lt i (show 0 < 64 by decide); show i % 64 ≤ 64; omega))) (zq 66 rfl rfl (Pure1.cast (v' := .int .u64 ((b / 2 ^ (i % 64) % 2 : Nat) : Int)) (.binOp rfl rfl (fun _ => run_rem _ _ _ _ _ (by decide))) (by exact congrArg (Value.int .u64) (tmod_nat _ 2))) (zq 66 rfl rfl (.eql rfl rfl) ?_))))))))))))))))))))))))))))))))))))))); clear h; intro a w h
        refine by_bool h (fun hc72 h => ?_) (fun hc72 h => ?_)
        · skip
          have hbit : bitB b i = true := by have := eq_of_beq hc72; unfold bitB; rw [decide_eq_true_eq]; omega
          refine gL h (zp (.pickT rfl rfl) (zn ?_)); clear h; intro a w h
          change Code.wp _ _ _ _ _
          refine cond_true h rfl ?_
          refine gC h (zr (zm rfl (zp (.binOp rfl rfl (fun _ => run_sadd _ _ _ _ _ (by simp only [ByteArray.size_append, sz_o, sz_t]; omega))) (za rfl (zn (zr (zm rfl (zp (Pure1.cast (v' := (.int .i64 ((i + 1 : Nat) : Int))) (.add rfl rfl) (by show Value.int _ _ = Value.int _ _; congr 1)) (za rfl (zn ?_)))))))))); clear h; intro a w h
          exact ⟨i + 1, ⟨by omega, (o ++ ((⟨#[UInt8.ofNat (chA tx i)]⟩ : ByteArray))) ++ (⟨#[32, 32]⟩), by first | exact bl_gap hlt_i hin hbit hinv | exact bl_one hlt_i (.inl hin) hinv | exact bl_one hlt_i (.inr hbit) hinv, by exact h.sub sA⟩, by omega⟩
        · skip
          have hbit : bitB b i = false := by unfold bitB; rw [decide_eq_false_iff_not]; intro e; rw [e] at hc72; exact absurd hc72 (by decide)
          refine gL h (zp (.pickT rfl rfl) (zn ?_)); clear h; intro a w h
          change Code.wp _ _ _ _ _
          refine cond_false h rfl ?_
          refine gC h (zk (zr (zm rfl (zp (Pure1.cast (v' := (.int .i64 ((i + 1 : Nat) : Int))) (.add rfl rfl) (by show Value.int _ _ = Value.int _ _; congr 1)) (za rfl (zn ?_)))))); clear h; intro a w h
          exact ⟨i + 1, ⟨by omega, o ++ ((⟨#[UInt8.ofNat (chA tx i)]⟩ : ByteArray)), by first | exact bl_gap hlt_i hin hbit hinv | exact bl_one hlt_i (.inl hin) hinv | exact bl_one hlt_i (.inr hbit) hinv, by exact h.sub sA⟩, by omega⟩
    · skip
      have heq_i : tx.size = i := by have := of_decide_eq_false hc24; omega
      subst heq_i
      have hoz := bl_size hinv
      have hsp0 := bl_done hoG.deg htx rfl hinv
      refine gC h (ze (zs (zs (zr (za rfl (zn (zb ?_))))))); clear h; intro a w h
      refine wp_loop_inv (fun (j : Nat) a w => j ≤ r ∧ ∃ o, (Spl o.data.toList (nsT G j) ∧ o.size ≤ 2760 + 3 * j) ∧ St 94 S w0 [(1, .int .u64 (((b : Nat) : Int))), (2, .int .u8 (((ne : Nat) : Int))), (6, .bool false), (7, .slice ad18 ((G).length) c18), (8, .string tx), (9, .string o), (10, .int .i64 ((tx.size : Nat) : Int)), (12, .int .i64 ((j : Nat) : Int))] [] [Row ad18 (cellsOf encT (G)), Row ad (cellsOf encTi l), TabF] a w) (fun j => r - j) 0 (⟨Nat.zero_le _, o, ⟨hsp0, by omega⟩, by exact (h).sub (subL ⟨rfl, rfl, rfl, rfl, rfl, rfl, rfl, rfl, trivial⟩)⟩) ?_; clear h
      rintro j a w ⟨hi_j, o, ⟨hsp, hoz⟩, h⟩
      refine gC h (zs (zs (zr (zm rfl (zm rfl (zp (Pure1.cast (v' := .int .u8 ((r : Nat) : Int)) (.binOp rfl rfl (fun _ => run_rem _ _ _ _ _ (by decide))) (by rw [show (32 : Int) = ((32 : Nat) : Int) from rfl, tmod_nat, hr])) (zp (.convert rfl (cv_5_3b _ (wrap_i64 _ (by omega) (by omega)))) (zp (.lss rfl rfl) (zn ?_))))))))); clear h; intro a w h
      change Code.wp _ _ _ _ _
      refine cond_split h rfl (fun hc80 => ?_) (fun hc80 => ?_)
      · skip
        have hlt_j : j < r := by have := of_decide_eq_true hc80; omega
        refine gC h (zk (zs (zb (zr (zm rfl (zp (.binOp rfl rfl (fun _ => run_sadd _ _ _ _ _ (by simp only [ByteArray.size_append, sz_o, sz_t]; omega))) (zp (.binOp rfl rfl (fun _ => run_sadd _ _ _ _ _ (by simp only [ByteArray.size_append, sz_o, sz_t]; omega))) (za rfl (zn (zr (zm rfl (zp (Pure1.cast (v' := (.int .i64 ((j + 1 : Nat) : Int))) (.add rfl rfl) (by show Value.int _ _ = Value.int _ _; congr 1)) (za rfl (zn ?_)))))))))))))); clear h; intro a w h
        exact ⟨j + 1, ⟨by omega, ((⟨#[40, 32]⟩) ++ o) ++ (⟨#[41]⟩), ⟨nest_step hsp, by simp only [ByteArray.size_append, sz_o, sz_t]; omega⟩, by exact h.sub sA⟩, by omega⟩
      · skip
        have heq_j : r = j := by have := of_decide_eq_false hc80; omega
        subst heq_j
        refine gC h (ze (zs (zr (zm rfl (zp (.binOp rfl rfl (fun _ => run_sadd _ _ _ _ _ (by simp only [ByteArray.size_append, sz_o, sz_t]; omega))) (zp (.binOp rfl rfl (fun _ => run_sadd _ _ _ _ _ (by simp only [ByteArray.size_append, sz_o, sz_t]; omega))) (zm rfl ?_))))))); clear h; intro a w h
        have hrz : (⟨#[32]⟩ ++ o ++ ⟨#[32, 32]⟩ : ByteArray).size ≤ 9223372036854775807 := by simp only [ByteArray.size_append, sz_o, sz_t]; omega
        have hrp := nest_parse' hoG (by omega) (by omega) hsp
        have hrr := C_reads (⟨#[32]⟩ ++ o ++ ⟨#[32, 32]⟩) G ad18 c18 41 hrz (hgx.mono (by decide) (Nat.le_refl _)) (by decide) _ hrp (norm_id hNG).symm
        refine gL h (zw [_, _] rfl Tryz.call23 (hrr) ?_); clear h; intro a w h
        refine by_bool h (fun hc90 h => ?_) (fun hc90 h => (by exfalso; exact absurd hc90 (by decide)))
        refine gL h (zm rfl ?_); clear h; intro a w h
        refine wpl_guard 91 h rfl rfl (op_callW h (vs := []) rfl Tryz.call10 (C_works11) (by simp) (by decide) ?_); clear h; intro a w h
        refine gL h (zp (.pickT rfl rfl) (za rfl (zn (zt ?_)))); clear h; intro a w h
        refine retV h (results1 h rfl (.tmp rfl)) ?_
        rfl
end
end Go.Proofs.YtgkicbaomcmfoaaGreatDoor
