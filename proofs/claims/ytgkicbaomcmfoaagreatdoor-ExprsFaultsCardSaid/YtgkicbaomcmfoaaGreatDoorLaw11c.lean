/- Written by a program of ours (gen.py) out of short specifications. By an AI agent. -/
import Derived.Test.YtgkicbaomcmfoaaGreatDoorExprtr
import Derived.Test.YtgkicbaomcmfoaaGreatDoorFxF
set_option linter.unusedVariables false
set_option linter.unusedSimpArgs false
set_option maxRecDepth 4000
namespace Go.Proofs.YtgkicbaomcmfoaaGreatDoor
open Go Go.Proofs Go.Fx
attribute [local irreducible] Oper.wp Code.wp wpList Fx.Head wpOp
section
theorem st_1_0_1 (c0 v0 : Value) : setFrom #[c0] 0 [v0] = #[v0] := rfl
theorem rs_1_0 (c0 : Value) : readAt false 1 #[c0] 0 = some c0 := rfl
theorem C_idle {S : Nat → Prop} {w0 w : World} {σ : List (Nat × Obj)} {Φ : List SPred} (v2 v3 : Value) (hm : Mem S w0 σ Φ w) : CallsD Tryz.prog 33 [v2, v3].toArray .returning w fun e' u' w' => e' = .returned (.tuple #[]) ∧ u' = .returning ∧ Mem S w0 σ Φ w' := by
  refine fn_introS Tryz.func33 rfl Tryz.ntmps33 (Nat.le_of_ble_eq_true rfl) hm ?_
  intro c₀ cs a hu h
  refine wpS_seq ?_
  refine wpS_region ?_
  rw [show List.range _ = [0, 1] from rfl]
  refine s_idle h rfl (by simp [recoverD, hu]) (by decide) ?_; clear h; intro a h
  refine s_pure h rfl (.assign rfl) (by decide) ?_; clear h; intro a h
  show Code.wpS _ _ _ _ _ _
  refine wpS_of_wp ?_
  refine wp_seq ?_
  refine wp_region_lit ?_
  refine wpl_plain (op_pure h (.move rfl) (by decide) ?_); clear h; intro a h
  refine wpl_plain (op_pure h (Pure1.binOp (v := .bool false) rfl rfl (fun _ => by simp [go_sem])) (by decide) ?_); clear h; intro a h
  refine wpList_nil ?_
  change Code.wp _ _ _ _ _
  refine cond_false h rfl ?_
  refine wp_skip ?_
  refine ⟨h.defers, .returning, by rw [← hu], .tuple #[], results0 rfl, rfl, rfl, h.mem⟩
theorem run_assert (e k : Int) (w : World) : (Instr.typeAssert (faV e k) 20 28 true).run Tryz.prog w = .ok (.tuple #[.agg #[.int .i64 e, .int .i64 k], .bool true]) w := by
  simp [go_sem, Instr.typeAssert]
theorem C_catch {S : Nat → Prop} {w0 w : World} {σ : List (Nat × Obj)} {Φ : List SPred} (e k : Int) (b2 b3 : Nat) (x y1 y2 : Value) (hS : ∀ k, S k → k < w0.heap.size) (hm : Mem S w0 ((b2, .cells #[x] 25 (0, 0)) :: (b3, .cells #[y1, y2] 28 (0, 0)) :: σ) Φ w) :
    CallsD Tryz.prog 33 [.pointer (some ⟨b2, 0, none⟩), .pointer (some ⟨b3, 0, none⟩)].toArray (.panicking (chE (faV e k))) w fun e' u' w' => e' = .returned (.tuple #[]) ∧ u' = .panicking [{ v := faV e k, recovered := true }] ∧ Mem S w0 ((b2, .cells #[.slice none 0 0] 25 (0, 0)) :: (b3, .cells #[.int .i64 e, .int .i64 k] 28 (0, 0)) :: σ) Φ w' := by
  refine fn_introS Tryz.func33 rfl Tryz.ntmps33 (Nat.le_of_ble_eq_true rfl) hm ?_
  intro c₀ cs a hu h
  refine wpS_seq ?_
  refine wpS_region ?_
  rw [show List.range _ = [0, 1] from rfl]
  refine s_recover h rfl (v := faV e k) (cs' := { c₀ with mode := .panicking [{ v := faV e k, recovered := true }] } :: cs) (by simp [recoverD, hu]) (by decide) ?_; clear h; intro a h
  refine s_pure h rfl (.assign rfl) (by decide) ?_; clear h; intro a h
  show Code.wpS _ _ _ _ _ _
  refine wpS_of_wp ?_
  refine wp_seq ?_
  refine wp_region_lit ?_
  refine wpl_plain (op_pure h (.move rfl) (by decide) ?_); clear h; intro a h
  refine wpl_plain (op_pure h (Pure1.binOp (v := .bool true) rfl rfl (fun _ => by simp [go_sem])) (by decide) ?_); clear h; intro a h
  refine wpList_nil ?_
  change Code.wp _ _ _ _ _
  refine cond_split h rfl (fun hc7 => ?_) (fun hc7 => (by exfalso; exact absurd hc7 (by decide)))
  refine wp_seq ?_
  refine wp_region_lit ?_
  refine wpl_plain (op_pure h (.move rfl) (by decide) ?_); clear h; intro a h
  refine wpl_plain (op_val (v := .tuple #[.agg #[.int .i64 e, .int .i64 k], .bool true]) h (by have he := h.ev (x := .tmp 9) (v := faV e k) rfl; simp only [execOp, he, Sem.run_bind, run_assert, Result.andThen]; rfl) (by decide) ?_); clear h; intro a h
  refine wpl_plain (op_pure h (.move rfl) (by decide) ?_); clear h; intro a h
  refine wpl_plain (op_pure h (.extract rfl (fun _ => rfl)) (by decide) ?_); clear h; intro a h
  refine wpl_plain (op_pure h (.extract rfl (fun _ => rfl)) (by decide) ?_); clear h; intro a h
  refine wpl_plain (op_alloc h Tryz.zeroValue28 (by decide) ?_); clear h; intro b3 a w h
  refine wpl_plain (op_store h rfl rfl (st_2_0_2 _ _ _ _) (by repeat (first | exact Upd.head | apply Upd.tail | apply Upd.append)) Tryz.sizeOf28 rfl (Nat.le_of_ble_eq_true rfl) rfl ?_); clear h; intro a w h
  refine wpl_plain (op_pure h (.assign rfl) (by decide) ?_); clear h; intro a h
  refine wpList_nil ?_
  change Code.wp _ _ _ _ _
  refine wp_seq ?_
  refine wp_seq ?_
  refine wp_region_lit ?_
  refine wpl_plain (op_pure h (.move rfl) (by decide) ?_); clear h; intro a h
  refine wpl_plain (op_pure h (.unOp rfl (un_not _)) (by decide) ?_); clear h; intro a h
  refine wpList_nil ?_
  change Code.wp _ _ _ _ _
  refine cond_split h rfl (fun hc14 => (by exfalso; exact absurd hc14 (by decide))) (fun hc14 => ?_)
  refine wp_skip ?_
  change Code.wp _ _ _ _ _
  refine wp_draws mixed_YtgkicbaomcmfoaaGreatDoor h [0, 1, 2] _ (fun _ _ hh => hh) (by kernel_rfl) (floatsOK_none (by kernel_rfl)) ?_; clear h
  refine head_loadLate [0] rfl (by kernel_rfl) rfl (by repeat (first | exact List.Mem.head _ | apply List.Mem.tail | apply List.mem_append_right)) Tryz.isAgg28 Tryz.sizeOf28 (rd_2_0_2 _ _) (fun a w σx hst => by intro t ht; simp only [List.mem_cons, List.not_mem_nil, or_false] at ht; rcases ht with rfl <;> exact ⟨_, rfl, by have h1 := (List.pairwise_append.1 hst.nd).2.1; simp at h1; dsimp only; omega⟩) (by decide) ?_
  refine head_store rfl (by kernel_rfl) rfl rfl (st_1_0_1 _ _) (by repeat (first | exact Upd.head | apply Upd.tail | apply Upd.append)) Tryz.sizeOf25 rfl (Nat.le_of_ble_eq_true rfl) rfl ?_
  refine head_store rfl (by kernel_rfl) rfl rfl (st_2_0_2 _ _ _ _) (by repeat (first | exact Upd.head | apply Upd.tail | apply Upd.append)) Tryz.sizeOf28 rfl (Nat.le_of_ble_eq_true rfl) rfl ?_
  refine head_nil ?_; intro a w h
  exact ⟨h.defers, _, rfl, .tuple #[], results0 rfl, rfl, rfl, (h.drop (List.sublist_cons_self _ _)).mem⟩
def rP (s : ByteArray) : List Tm := match parseE s with | .ok p => p | .error _ => []
def rE (s : ByteArray) : Int := match parseE s with | .ok _ => 0 | .error f => f.1
def rI (s : ByteArray) : Nat := match parseE s with | .ok _ => 0 | .error f => f.2
theorem res_ok {s : ByteArray} {p : List Tm} (h : parseE s = .ok p) : rP s = p ∧ rE s = 0 ∧ rI s = 0 := by unfold rP rE rI; rw [h]; exact ⟨rfl, rfl, rfl⟩
theorem res_err {s : ByteArray} {e : Int} {i : Nat} (h : parseE s = .error (e, i)) : rP s = [] ∧ rE s = e ∧ rI s = i := by unfold rP rE rI; rw [h]; exact ⟨rfl, rfl, rfl⟩
def PostR (s : ByteArray) (v : Value) (Ψ : List SPred) : Prop := ∃ ad c, v = .tuple #[.slice ad (rP s).length c, .agg #[.int .i64 (rE s), .int .i64 ((rI s : Nat) : Int)]] ∧ Ψ = [Row ad (cellsOf encT (rP s))]
theorem postR_err {s : ByteArray} {e : Int} {i : Nat} (h : parseE s = .error (e, i)) : PostR s (.tuple #[.slice none 0 0, .agg #[.int .i64 e, .int .i64 ((i : Nat) : Int)]]) [Row none (cellsOf encT [])] := by
  obtain ⟨h1, h2, h3⟩ := res_err h
  exact ⟨none, 0, by rw [h1, h2, h3]; rfl, by rw [h1]⟩
theorem postR_ok {s : ByteArray} {p : List Tm} {ad : Option Addr} {c : Nat} (h : parseE s = .ok p) : PostR s (.tuple #[.slice ad p.length c, .agg #[.int .i64 0, .int .i64 0]]) [Row ad (cellsOf encT p)] := by
  obtain ⟨h1, h2, h3⟩ := res_ok h
  exact ⟨ad, c, by rw [h1, h2, h3]; rfl, by rw [h1]⟩
abbrev dfr (b2 b3 : Nat) : Deferred := ⟨.fn (.func 33) [.pointer (some ⟨b2, 0, none⟩), .pointer (some ⟨b3, 0, none⟩)].toArray, #[]⟩
theorem catch_up {n : Nat} {S : Nat → Prop} {w0 w w' : World} {L : List (Nat × Value)} {σ1 σ : List (Nat × Obj)} {Φ1 Φ : List SPred} {a : Act} (s : ByteArray) (e : Int) (i b2 b3 : Nat) (x y1 y2 : Value) (hS : ∀ k, S k → k < w0.heap.size) (h : St n S w0 L σ1 Φ1 a w)
    (h2 : Fx.look L 2 = some (.pointer (some ⟨b2, 0, none⟩))) (h3 : Fx.look L 3 = some (.pointer (some ⟨b3, 0, none⟩))) (hm : Mem S w0 ((b2, .cells #[x] 25 (0, 0)) :: (b3, .cells #[y1, y2] 28 (0, 0)) :: σ) Φ w') (hp : parseE s = .error (e, i)) {fn : Func} (hr : fn.results = #[.cell 2 25, .cell 3 28]) :
    bodyPostD Tryz.prog fn (Post S w0 (PostR s)) (.panic (chE (faV e ((i : Nat) : Int)))) (up [dfr b2 b3] a) w' := by
  refine leaves_up h.defers (leaves_cons (f := 33) (args := [.pointer (some ⟨b2, 0, none⟩), .pointer (some ⟨b3, 0, none⟩)].toArray) (by simp) (by simp [go_sem]) ?_)
  refine (C_catch e ((i : Nat) : Int) b2 b3 x y1 y2 hS hm).mono ?_
  rintro e' u' w'' ⟨rfl, rfl, hm'⟩
  have hst := (h.reMem hm').derive (R := Row none (cellsOf encT [])) (fun X _ hne => absurd rfl hne)
  exact retD hst (results2 hst hr (.cell h2 (List.Mem.head _) Tryz.isAgg25 Tryz.sizeOf25 (rs_1_0 _)) (.cell h3 (List.Mem.tail _ (List.Mem.head _)) Tryz.isAgg28 Tryz.sizeOf28 (rd_2_0_2 _ _))) (postR_err hp) (by simp)
theorem idle_up {n : Nat} {S : Nat → Prop} {w0 w : World} {L : List (Nat × Value)} {σ : List (Nat × Obj)} {Φ : List SPred} {a : Act} (s : ByteArray) (b2 b3 : Nat) (h : St n S w0 L σ Φ a w) {fn : Func} {v : Value} {Ψ : List SPred}
    (hr : ∀ w', St n S w0 L σ Φ a w' → (results fn a.tmps).run Tryz.prog w' = .ok v w') (hp : PostR s v Ψ) (hs : ∀ R ∈ Ψ, R ∈ Φ) :
    Leaves Tryz.prog fn (up [dfr b2 b3] a).tmps (Post S w0 (PostR s)) (up [dfr b2 b3] a).defers .returning w := by
  refine leaves_up h.defers (leaves_cons (f := 33) (args := [.pointer (some ⟨b2, 0, none⟩), .pointer (some ⟨b3, 0, none⟩)].toArray) (by simp) (by simp [go_sem]) ?_)
  refine (C_idle _ _ h.mem).mono ?_
  rintro e' u' w'' ⟨rfl, rfl, hm'⟩
  exact retD (h.reMem hm') (hr _ (h.reMem hm')) hp hs
end
section
theorem bd_78_0 (x0 : ByteArray) (w : World) : (Instr.build 78 [(0, .string x0)].toArray).run Tryz.prog w = .ok (.agg #[.string x0, .int .i64 0, .int .i64 0]) w := by simp [go_sem]
theorem bd_28_z (w : World) : (Instr.build 28 [].toArray).run Tryz.prog w = .ok (.agg #[.int .i64 0, .int .i64 0]) w := by simp [go_sem]
theorem C_ParseX (s : ByteArray) (hsz : s.size ≤ 9223372036854775807) : Ctr Tryz.prog 11 [.string s] [] (PostR s) := by
  refine fn_introD Tryz.func11 rfl Tryz.ntmps11 (Nat.le_of_ble_eq_true rfl) ?_
  intro S w0 a hS h
  refine wp_seq ?_
  refine wp_region_lit ?_
  refine wpl_plain (op_alloc h Tryz.zeroValue25 (by decide) ?_); clear h; intro b2 a w h
  refine wpl_plain (op_alloc h Tryz.zeroValue28 (by decide) ?_); clear h; intro b3 a w h
  refine wpList_nil ?_
  change Code.wp _ _ _ _ _
  refine wp_seq ?_
  refine wp_seq ?_
  refine wp_region_lit ?_
  refine wpl_plain (op_pure h (.move rfl) (by decide) ?_); clear h; intro a h
  refine wpl_plain (op_pure h (.builtin [_] rfl (len_string_9 _)) (by decide) ?_); clear h; intro a h
  refine wpl_plain (op_pure h (.binOp rfl rfl (fun _ => run_gtr _ _ _ _ _)) (by decide) ?_); clear h; intro a h
  refine wpList_nil ?_
  change Code.wp _ _ _ _ _
  refine cond_split h rfl (fun hc7 => ?_) (fun hc7 => ?_)
  · skip
    have hP : parseE s = .error (3, 0) := by unfold parseE; rw [if_pos (by have := of_decide_eq_true hc7; omega)]
    refine wp_seq ?_
    refine wp_region_lit ?_
    refine wpl_plain (op_pure h (.build [(_, _), (_, _)] rfl (bd_28_0_1 _ _)) (by decide) ?_); clear h; intro a h
    refine wpl_plain (op_store h rfl rfl (st_1_0_1 _ _) (by repeat (first | exact Upd.head | apply Upd.tail | apply Upd.append)) Tryz.sizeOf25 rfl (Nat.le_of_ble_eq_true rfl) rfl ?_); clear h; intro a w h
    refine wpl_plain (op_store h rfl rfl (st_2_0_2 _ _ _ _) (by repeat (first | exact Upd.head | apply Upd.tail | apply Upd.append)) Tryz.sizeOf28 rfl (Nat.le_of_ble_eq_true rfl) rfl ?_); clear h; intro a w h
    refine wpList_nil ?_
    change Code.wp _ _ _ _ _
    refine wp_ret ?_
    replace h := h.derive (R := Row none (cellsOf encT [])) (fun X _ hne => absurd rfl hne)
    exact retD0 h (results2 h rfl (.cell rfl (by repeat (first | exact List.Mem.head _ | apply List.Mem.tail | apply List.mem_append_right)) Tryz.isAgg25 Tryz.sizeOf25 (rs_1_0 _)) (.cell rfl (by repeat (first | exact List.Mem.head _ | apply List.Mem.tail | apply List.mem_append_right)) Tryz.isAgg28 Tryz.sizeOf28 (rd_2_0_2 _ _))) (postR_err hP) (by simp)
  · skip
    have hs : s.size ≤ 4096 := by have := of_decide_eq_false hc7; omega
    have hP : parseE s = readE (s.extract 0 (trimE s s.size)) := by unfold parseE; rw [if_neg (by omega)]
    obtain ⟨t, ht⟩ : ∃ t, t = s.extract 0 (trimE s s.size) := ⟨_, rfl⟩
    have hts : t.size ≤ 4096 := by rw [ht, ByteArray.size_extract]; have := trimE_le s s.size; omega
    refine wp_skip ?_
    change Code.wp _ _ _ _ _
    refine wp_seq ?_
    refine wp_region_lit ?_
    refine wpl_plain (op_pure h (.makeFunc [] [_, _] rfl rfl) (by decide) ?_); clear h; intro a h
    refine wpl_plain (op_defer h rfl ?_); clear h; intro h
    refine wpl_up ?_
    refine wpList_nil ?_
    change Code.wp _ _ _ _ _
    refine wp_seq ?_
    refine wp_region_lit (wpl_up ?_)
    refine wpl_plain (op_pure h (.move rfl) (by decide) ?_); clear h; intro a h
    refine wpl_plain (op_callV h (vs := [_, _]) rfl Tryz.call34 (C_TrimR s (by omega)) (by decide) ?_); clear h; intro a w h
    rw [← ht] at h
    refine wpl_plain (op_pure h (.build [(_, _)] rfl (bd_78_0 _)) (by decide) ?_); clear h; intro a h
    refine wpl_plain (op_box h rfl (by decide) ?_); clear h; intro b13 a w h
    refine wpl_plain (op_pure h (.assign rfl) (by decide) ?_); clear h; intro a h
    refine wpList_nil ?_
    change Code.wp _ _ _ _ _
    refine wp_seq ?_
    refine wp_region_lit (wpl_up ?_)
    refine wpl_plain (op_pure h (.move rfl) (by decide) ?_); clear h; intro a h
    refine wpl_plain (op_callE h hS (vs := [_]) rfl Tryz.call35 (C_sumE b13 t hts 32 0 0 _ [] (by decide) (Nat.zero_le _)) ((List.Perm.refl _)) (by simp) ?_ ?_)
    · skip
      rintro _ _ w' ⟨e, i, ob, hx, rfl, rfl⟩ hm
      exact catch_up s e i b2 b3 _ _ _ hS h rfl rfl (hm.perm (List.reverse_perm _).symm) (by rw [hP]; unfold readE; rw [← ht, hx]) rfl
    clear h; rintro v15 σ15 Ψ15 a w ⟨p15, k15, ad15, c15, hr15, rfl, rfl, rfl⟩ h
    obtain ⟨hg15, hk15a, hk15⟩ := sumE_good hts 32 (Nat.zero_le _) hr15
    refine wpl_plain (op_store h rfl rfl (st_1_0_1 _ _) (by repeat (first | exact Upd.head | apply Upd.tail | apply Upd.append)) Tryz.sizeOf25 rfl (Nat.le_of_ble_eq_true rfl) rfl ?_); clear h; intro a w h
    refine wpList_nil ?_
    change Code.wp _ _ _ _ _
    refine wp_seq ?_
    refine wp_seq ?_
    refine wp_region_lit (wpl_up ?_)
    refine wpl_plain (op_pure h (.move rfl) (by decide) ?_); clear h; intro a h
    refine wpl_plain (op_callM h hS (vs := [_]) rfl Tryz.call36 (C_next b13 k15 0 t hts hk15 _ [Row ad15 (cellsOf encT p15)]) ((List.Perm.refl _)) (by simp) (by simp) ?_); clear h; rintro v17 σ17 Ψ17 a w ⟨rfl, rfl, rfl⟩ h
    refine wpList_nil ?_
    change Code.wp _ _ _ _ _
    refine wp_seq ?_
    refine wp_draws_up mixed_YtgkicbaomcmfoaaGreatDoor h [0, 1, 2, 3, 4, 5, 6, 7, 8, 9] (by kernel_rfl) (by kernel_rfl) rfl (floatsOK_none (by kernel_rfl)) ?_; clear h
    refine head_pure rfl (by kernel_rfl) (.move rfl) (by decide) ?_
    refine head_pure rfl (by kernel_rfl) (.nilCheck rfl) (by decide) ?_
    refine head_pure rfl (by kernel_rfl) (.fieldAddr rfl (fa_78_1 _ _)) (by decide) ?_
    refine head_load rfl (by kernel_rfl) rfl (by repeat (first | exact List.Mem.head _ | apply List.Mem.tail | apply List.mem_append_right)) Tryz.isAgg3 Tryz.sizeOf3 (rs_3_1 _ _ _) (by decide) ?_
    refine head_pure rfl (by kernel_rfl) (.move rfl) (by decide) ?_
    refine head_pure rfl (by kernel_rfl) (.nilCheck rfl) (by decide) ?_
    refine head_pure rfl (by kernel_rfl) (.fieldAddr rfl (fa_78_0 _ _)) (by decide) ?_
    refine head_load rfl (by kernel_rfl) rfl (by repeat (first | exact List.Mem.head _ | apply List.Mem.tail | apply List.mem_append_right)) Tryz.isAgg9 Tryz.sizeOf9 (rs_3_0 _ _ _) (by decide) ?_
    refine head_pure rfl (by kernel_rfl) (.builtin [_] rfl (len_string_9 _)) (by decide) ?_
    refine head_pure rfl (by kernel_rfl) (.binOp rfl rfl (fun _ => run_lss _ _ _ _ _)) (by decide) ?_
    refine head_nil ?_; intro a w h
    change Code.wp _ _ _ _ _
    refine cond_split_up h rfl (fun hc27 => ?_) (fun hc27 => ?_)
    · skip
      have hlt : blkE t k15 < t.size := by have := of_decide_eq_true hc27; omega
      refine wp_region_lit (wpl_up ?_)
      refine wpl_plain (op_pure h (.move rfl) (by decide) ?_); clear h; intro a h
      refine wpl_plain (op_pure h (.nilCheck rfl) (by decide) ?_); clear h; intro a h
      refine wpl_plain (op_pure h (.fieldAddr rfl (fa_78_1 _ _)) (by decide) ?_); clear h; intro a h
      refine wpl_plain (op_load h rfl (by repeat (first | exact List.Mem.head _ | apply List.Mem.tail | apply List.mem_append_right)) Tryz.isAgg3 Tryz.sizeOf3 (rs_3_1 _ _ _) (by decide) ?_); clear h; intro a h
      refine wpl_plain (op_callE h hS (vs := [_, _]) rfl Tryz.call37 (C_fails 4 _ _ _) (List.Perm.refl _) (by simp) ?_ (fun _ _ _ _ _ hp _ => by exact hp.elim))
      rintro _ _ w' ⟨rfl, rfl⟩ hm
      exact catch_up s 4 (blkE t k15) b2 b3 _ _ _ hS h rfl rfl (hm.perm (List.reverse_perm _).symm) (by rw [hP]; unfold readE; rw [← ht, hr15]; simp only [if_pos hlt]) rfl
    · skip
      have hlt : ¬ blkE t k15 < t.size := by have := of_decide_eq_false hc27; omega
      refine wp_skip ?_
      change Code.wp _ _ _ _ _
      refine wp_seq ?_
      refine wp_region_lit (wpl_up ?_)
      refine wpl_plain (op_load h rfl (by repeat (first | exact List.Mem.head _ | apply List.Mem.tail | apply List.mem_append_right)) Tryz.isAgg25 Tryz.sizeOf25 (rs_1_0 _) (by decide) ?_); clear h; intro a h
      refine wpl_plain (op_pure h (.build [] rfl (bd_28_z)) (by decide) ?_); clear h; intro a h
      refine wpl_plain (op_store h rfl rfl (st_1_0_1 _ _) (by repeat (first | exact Upd.head | apply Upd.tail | apply Upd.append)) Tryz.sizeOf25 rfl (Nat.le_of_ble_eq_true rfl) rfl ?_); clear h; intro a w h
      refine wpl_plain (op_store h rfl rfl (st_2_0_2 _ _ _ _) (by repeat (first | exact Upd.head | apply Upd.tail | apply Upd.append)) Tryz.sizeOf28 rfl (Nat.le_of_ble_eq_true rfl) rfl ?_); clear h; intro a w h
      refine wpList_nil ?_
      change Code.wp _ _ _ _ _
      refine wp_ret ?_
      exact idle_up s b2 b3 h (fun w' h => (results2 h rfl (.cell rfl (by repeat (first | exact List.Mem.head _ | apply List.Mem.tail | apply List.mem_append_right)) Tryz.isAgg25 Tryz.sizeOf25 (rs_1_0 _)) (.cell rfl (by repeat (first | exact List.Mem.head _ | apply List.Mem.tail | apply List.mem_append_right)) Tryz.isAgg28 Tryz.sizeOf28 (rd_2_0_2 _ _)))) (postR_ok (by rw [hP]; unfold readE; rw [← ht, hr15]; simp only [if_neg hlt])) (by simp)
end
section
abbrev encFa (f : Int × Int) : Value := .agg #[.int .i64 f.1, .int .i64 f.2]
theorem zeroFa (w : World) : (zeroValue 28).run Tryz.prog w = .ok (encFa (0, 0)) w := Tryz.zeroValue28 w
theorem run_eqFa (X Y : Operand) (x y : Int × Int) (w : World) : (do eqGuard .eql 28 X Y (encFa x) (encFa y); Go.binOp .eql 28 (encFa x) (encFa y) : Sem Value).run Tryz.prog w = .ok (.bool (decide (x = y))) w := by
  obtain ⟨x1, x2⟩ := x
  obtain ⟨y1, y2⟩ := y
  simp [go_sem]
  by_cases e1 : x1 = y1 <;> by_cases e2 : x2 = y2 <;> simp [e1, e2]
theorem run_neFa (X Y : Operand) (x y : Int × Int) (w : World) : (do eqGuard .neq 28 X Y (encFa x) (encFa y); Go.binOp .neq 28 (encFa x) (encFa y) : Sem Value).run Tryz.prog w = .ok (.bool (!decide (x = y))) w := by
  obtain ⟨x1, x2⟩ := x
  obtain ⟨y1, y2⟩ := y
  simp [go_sem]
  by_cases e1 : x1 = y1 <;> by_cases e2 : x2 = y2 <;> simp [e1, e2]
theorem readE_gd {s : ByteArray} {p : List Tm} (hs : s.size ≤ 4096) (h : readE s = .ok p) : Gd p := by
  unfold readE at h
  split at h
  · cases h
  · rename_i q k hq
    split at h
    · cases h
    · cases h; exact (sumE_good hs 32 (Nat.zero_le _) hq).1
theorem Gd.nil : Gd [] := ⟨(Pq.nil 12).mono (Nat.le_refl _) (by decide), ⟨(fun _ h => nomatch h), List.Pairwise.nil⟩⟩
theorem rP_gd (s : ByteArray) : Gd (rP s) := by
  unfold rP
  split
  · rename_i p h
    unfold parseE at h
    split at h
    · cases h
    · refine readE_gd ?_ h
      rw [ByteArray.size_extract]; have := trimE_le s s.size; omega
  · exact Gd.nil
def okX (r : Except Fa (List Tm)) (E : List Tm) : Bool := match r with | .ok p => decide (p = E) | .error _ => false
def erX (r : Except Fa (List Tm)) (e : Int) (i : Nat) : Bool := match r with | .ok _ => false | .error f => decide (f.1 = e) && decide (f.2 = i)
theorem okX_ok {r : Except Fa (List Tm)} {E : List Tm} (h : okX r E = true) : r = .ok E := by
  unfold okX at h
  split at h
  · rw [of_decide_eq_true h]
  · cases h
theorem erX_er {r : Except Fa (List Tm)} {e : Int} {i : Nat} (h : erX r e i = true) : r = .error (e, i) := by
  unfold erX at h
  split at h
  · cases h
  · rw [Bool.and_eq_true, decide_eq_true_eq, decide_eq_true_eq] at h
    obtain ⟨h1, h2⟩ := h
    subst h1; subst h2; rfl
theorem C_says (s want : ByteArray) (E : List Tm) (hsz : s.size ≤ 9223372036854775807) (hE : OkE E) (hp : parseE s = .ok E) (ht : txtP textQ E = want) : CtrW Tryz.prog 31 [.string s, .string want] [] (.bool true) := by
  obtain ⟨hq1, hq2, hq3⟩ := res_ok hp
  refine fn_intro Tryz.func31 rfl Tryz.ntmps31 nb ?_
  intro S w0 a hS h
  refine gC h (zs (zr (za rfl (zn (zs (zr (zm rfl (zf [_] rfl Tryz.call11 (C_ParseX s hsz) ?_)))))))); clear h; rintro v9 Ψ9 ⟨ad9, c9, rfl, rfl⟩ a w h
  refine gL h (zm rfl (zp (.extract rfl (fun _ => rfl)) (zp (.extract rfl (fun _ => rfl)) (zz zeroFa fun b6 => za rfl (zt' rfl rfl (st_2_0_2 _ _ _ _) uu Tryz.sizeOf28 rfl nb rfl ?_))))); clear h; intro a w h
  refine gL h (zn (zs (zr (zd rfl mr Tryz.isAgg28 Tryz.sizeOf28 (rd_2_0_2 _ _) ?_)))); clear h; intro a w h
  refine gL h (zp (.build [] rfl (bd_28_z)) (zp (.binOp rfl rfl (fun _ => run_eqFa _ _ ((rE s, ((rI s : Nat) : Int))) (0, 0) _)) ?_)); clear h; intro a w h
  refine by_bool h (fun hc14 h => ?_) (fun hc14 h => (by exfalso; rw [hq2, hq3] at hc14; exact absurd hc14 (by decide)))
  refine gL h (zm rfl (zq 15 rfl rfl (.move rfl) ?_)); clear h; intro a w h
  refine wpl_guard 15 h rfl rfl (op_callW h (vs := [_]) rfl Tryz.call16 (C_TE (rP s) want _ _ (by rw [hq1]; exact hE) (by rw [hq1]; exact ht)) (by simp) (by decide) ?_); clear h; intro a w h
  refine gL h (zq 15 rfl rfl (.move rfl) (zq 15 rfl rfl (.binOp rfl rfl (fun _ => run_seql _ _ _ _ _)) ?_)); clear h; intro a w h
  refine by_bool h (fun hc19 h => ?_) (fun hc19 h => (by exfalso; exact absurd hc19 (by simp)))
  refine gL h (zp (.pickT rfl rfl) (zm rfl (zq 21 rfl rfl (.move rfl) ?_))); clear h; intro a w h
  refine wpl_guard 21 h rfl rfl (op_callW h (vs := [_]) rfl Tryz.call17 (C_OkN (rP s) _ _ (rP_gd s).nrm (rP_gd s).pq.deg (by have := (rP_gd s).len; omega)) (by simp) (by decide) ?_); clear h; intro a w h
  refine gL h (zp (.pickT rfl rfl) (za rfl (zn (zt ?_)))); clear h; intro a w h
  refine retV h (results1 h rfl (.tmp rfl)) ?_
  rfl
theorem C_failsL (s : ByteArray) (e : Int) (i : Nat) (hsz : s.size ≤ 9223372036854775807) (hp : parseE s = .error (e, i)) : CtrW Tryz.prog 32 [.string s, .int .i64 e, .int .i64 ((i : Nat) : Int)] [] (.bool true) := by
  obtain ⟨hq1, hq2, hq3⟩ := res_err hp
  refine fn_intro Tryz.func32 rfl Tryz.ntmps32 nb ?_
  intro S w0 a hS h
  refine gC h (zs (zr (za rfl (zn (zs (zr (zm rfl (zf [_] rfl Tryz.call11 (C_ParseX s hsz) ?_)))))))); clear h; rintro v11 Ψ11 ⟨ad11, c11, rfl, rfl⟩ a w h
  refine gL h (zm rfl (zp (.extract rfl (fun _ => rfl)) (zp (.extract rfl (fun _ => rfl)) (zz zeroFa fun b8 => za rfl (zt' rfl rfl (st_2_0_2 _ _ _ _) uu Tryz.sizeOf28 rfl nb rfl ?_))))); clear h; intro a w h
  refine gL h (zn (zs (zr (zm rfl (zp (.builtin [_] rfl (len_slice_25 _ _ _)) (zp (.eql rfl rfl) ?_)))))); clear h; intro a w h
  refine by_bool h (fun hc16 h => ?_) (fun hc16 h => (by exfalso; rw [hq1] at hc16; exact absurd hc16 (by decide)))
  refine gL h (zm rfl ?_); clear h; intro a w h
  refine wpl_guard 17 h rfl rfl (op_load h rfl mr Tryz.isAgg28 Tryz.sizeOf28 (rd_2_0_2 _ _) (by decide) ?_); clear h; intro a h
  refine gL h (zq 17 rfl rfl (.move rfl) (zq 17 rfl rfl (.move rfl) (zq 17 rfl rfl (.build [(_, _), (_, _)] rfl (bd_28_0_1 _ _)) (zq 17 rfl rfl (.binOp rfl rfl (fun _ => run_eqFa _ _ ((rE s, ((rI s : Nat) : Int))) ((e, ((i : Nat) : Int))) _)) ?_)))); clear h; intro a w h
  refine by_bool h (fun hc22 h => ?_) (fun hc22 h => (by exfalso; rw [hq2, hq3] at hc22; exact absurd hc22 (by simp)))
  refine gL h (zp (.pickT rfl rfl) (za rfl (zn (zt ?_)))); clear h; intro a w h
  refine retV h (results1 h rfl (.tmp rfl)) ?_
  rfl
def sE0 : List Tm := [⟨0, 0, (mkRat (-3) 4)⟩, ⟨1, 0, (mkRat (-3) 4)⟩, ⟨2, 1, (1 : Rat)⟩]
theorem sE0_k : OkE sE0 := by unfold sE0; decide +kernel
theorem sE0_p : parseE ⟨#[120, 94, 50, 42, 121, 32, 45, 32, 51, 47, 52, 42, 40, 120, 32, 43, 32, 49, 41]⟩ = .ok sE0 := okX_ok (by unfold sE0; decide +kernel)
theorem sE0_t : txtP textQ sE0 = ⟨#[45, 51, 47, 52, 32, 45, 32, 51, 47, 52, 42, 120, 32, 43, 32, 120, 94, 50, 42, 121]⟩ := by unfold sE0; decide +kernel
def sE1 : List Tm := [⟨2, 0, (-1 : Rat)⟩]
theorem sE1_k : OkE sE1 := by unfold sE1; decide +kernel
theorem sE1_p : parseE ⟨#[45, 120, 94, 50]⟩ = .ok sE1 := okX_ok (by unfold sE1; decide +kernel)
theorem sE1_t : txtP textQ sE1 = ⟨#[45, 120, 94, 50]⟩ := by unfold sE1; decide +kernel
def sE2 : List Tm := [⟨0, 0, (1 : Rat)⟩]
theorem sE2_k : OkE sE2 := by unfold sE2; decide +kernel
theorem sE2_p : parseE ⟨#[50, 42, 51, 47, 54]⟩ = .ok sE2 := okX_ok (by unfold sE2; decide +kernel)
theorem sE2_t : txtP textQ sE2 = ⟨#[49]⟩ := by unfold sE2; decide +kernel
def sE3 : List Tm := [⟨2, 0, (1 : Rat)⟩, ⟨1, 1, (2 : Rat)⟩, ⟨0, 2, (1 : Rat)⟩]
theorem sE3_k : OkE sE3 := by unfold sE3; decide +kernel
theorem sE3_p : parseE ⟨#[40, 120, 32, 43, 32, 121, 41, 94, 50]⟩ = .ok sE3 := okX_ok (by unfold sE3; decide +kernel)
theorem sE3_t : txtP textQ sE3 = ⟨#[120, 94, 50, 32, 43, 32, 50, 42, 120, 42, 121, 32, 43, 32, 121, 94, 50]⟩ := by unfold sE3; decide +kernel
def sE4 : List Tm := [⟨2, 0, (mkRat (1) 6)⟩]
theorem sE4_k : OkE sE4 := by unfold sE4; decide +kernel
theorem sE4_p : parseE ⟨#[120, 42, 120, 47, 50, 47, 51]⟩ = .ok sE4 := okX_ok (by unfold sE4; decide +kernel)
theorem sE4_t : txtP textQ sE4 = ⟨#[49, 47, 54, 42, 120, 94, 50]⟩ := by unfold sE4; decide +kernel
def sE5 : List Tm := []
theorem sE5_k : OkE sE5 := by unfold sE5; decide +kernel
theorem sE5_p : parseE ⟨#[48, 42, 120]⟩ = .ok sE5 := okX_ok (by unfold sE5; decide +kernel)
theorem sE5_t : txtP textQ sE5 = ⟨#[48]⟩ := by unfold sE5; decide +kernel
theorem fE0_p : parseE ⟨#[]⟩ = .error (4, 0) := erX_er (by decide +kernel)
theorem fE1_p : parseE ⟨#[120, 32, 43]⟩ = .error (4, 3) := erX_er (by decide +kernel)
theorem fE2_p : parseE ⟨#[120, 32, 121]⟩ = .error (4, 2) := erX_er (by decide +kernel)
theorem fE3_p : parseE ⟨#[48, 49]⟩ = .error (4, 1) := erX_er (by decide +kernel)
theorem fE4_p : parseE ⟨#[50, 42, 45, 120]⟩ = .error (4, 2) := erX_er (by decide +kernel)
theorem fE5_p : parseE ⟨#[40, 120]⟩ = .error (4, 2) := erX_er (by decide +kernel)
theorem fE6_p : parseE ⟨#[120, 41]⟩ = .error (4, 1) := erX_er (by decide +kernel)
theorem fE7_p : parseE ⟨#[49, 47, 120]⟩ = .error (4, 2) := erX_er (by decide +kernel)
theorem fE8_p : parseE ⟨#[49, 47, 48]⟩ = .error (5, 2) := erX_er (by decide +kernel)
theorem fE9_p : parseE ⟨#[120, 47, 32, 48]⟩ = .error (5, 3) := erX_er (by decide +kernel)
theorem fE10_p : parseE ⟨#[120, 94, 49, 51]⟩ = .error (9, 1) := erX_er (by decide +kernel)
theorem fE11_p : parseE ⟨#[120, 94, 55, 42, 121, 94, 54]⟩ = .error (9, 3) := erX_er (by decide +kernel)
theorem fE12_p : parseE ⟨#[40, 120, 94, 50, 41, 94, 55]⟩ = .error (9, 5) := erX_er (by decide +kernel)
theorem fE13_p : parseE ⟨#[49, 94, 49, 51]⟩ = .error (9, 1) := erX_er (by decide +kernel)
theorem fE14_p : parseE ⟨#[40, 40, 40, 57, 94, 49, 50, 41, 94, 49, 50, 41, 94, 49, 50, 41, 94, 49, 50]⟩ = .error (3, 16) := erX_er (by decide +kernel)
set_option maxHeartbeats 2000000 in
theorem C_works11 : CtrW Tryz.prog 10 [] [] (.bool true) := by
  refine fn_intro Tryz.func10 rfl Tryz.ntmps10 nb ?_
  intro S w0 a hS h
  refine gC h (zs (zr (za rfl (zn (zs (zs (zr (zw [_, _] rfl Tryz.call31 (C_says _ _ sE0 (by decide) sE0_k sE0_p sE0_t) (zp (.unOp rfl (un_not _)) ?_))))))))); clear h; intro a w h
  refine by_bool h (fun hc2 h => (by exfalso; exact absurd hc2 (by decide))) (fun hc2 h => ?_)
  refine gL h (zm rfl ?_); clear h; intro a w h
  refine wpl_guard 3 h rfl rfl (op_callW h (vs := [_, _]) rfl Tryz.call31 (C_says _ _ sE1 (by decide) sE1_k sE1_p sE1_t) (by simp) (by decide) ?_); clear h; intro a w h
  refine gL h (zq 3 rfl rfl (.unOp rfl (un_not _)) ?_); clear h; intro a w h
  refine by_bool h (fun hc5 h => (by exfalso; exact absurd hc5 (by decide))) (fun hc5 h => ?_)
  refine gL h (zp (.pickF rfl rfl) (zm rfl ?_)); clear h; intro a w h
  refine wpl_guard 7 h rfl rfl (op_callW h (vs := [_, _]) rfl Tryz.call31 (C_says _ _ sE2 (by decide) sE2_k sE2_p sE2_t) (by simp) (by decide) ?_); clear h; intro a w h
  refine gL h (zq 7 rfl rfl (.unOp rfl (un_not _)) ?_); clear h; intro a w h
  refine by_bool h (fun hc9 h => (by exfalso; exact absurd hc9 (by decide))) (fun hc9 h => ?_)
  refine gL h (zp (.pickF rfl rfl) (zm rfl ?_)); clear h; intro a w h
  refine wpl_guard 11 h rfl rfl (op_callW h (vs := [_, _]) rfl Tryz.call31 (C_says _ _ sE3 (by decide) sE3_k sE3_p sE3_t) (by simp) (by decide) ?_); clear h; intro a w h
  refine gL h (zq 11 rfl rfl (.unOp rfl (un_not _)) ?_); clear h; intro a w h
  refine by_bool h (fun hc13 h => (by exfalso; exact absurd hc13 (by decide))) (fun hc13 h => ?_)
  refine gL h (zp (.pickF rfl rfl) (zm rfl ?_)); clear h; intro a w h
  refine wpl_guard 15 h rfl rfl (op_callW h (vs := [_, _]) rfl Tryz.call31 (C_says _ _ sE4 (by decide) sE4_k sE4_p sE4_t) (by simp) (by decide) ?_); clear h; intro a w h
  refine gL h (zq 15 rfl rfl (.unOp rfl (un_not _)) ?_); clear h; intro a w h
  refine by_bool h (fun hc17 h => (by exfalso; exact absurd hc17 (by decide))) (fun hc17 h => ?_)
  refine gL h (zp (.pickF rfl rfl) (zm rfl ?_)); clear h; intro a w h
  refine wpl_guard 19 h rfl rfl (op_callW h (vs := [_, _]) rfl Tryz.call31 (C_says _ _ sE5 (by decide) sE5_k sE5_p sE5_t) (by simp) (by decide) ?_); clear h; intro a w h
  refine gL h (zq 19 rfl rfl (.unOp rfl (un_not _)) ?_); clear h; intro a w h
  refine by_bool h (fun hc21 h => (by exfalso; exact absurd hc21 (by decide))) (fun hc21 h => ?_)
  refine gL h (zp (.pickF rfl rfl) (zn ?_)); clear h; intro a w h
  change Code.wp _ _ _ _ _
  refine cond_false h rfl ?_
  refine gC h (zk (zs (zs (zr (zw [_, _, _] rfl Tryz.call32 (C_failsL _ _ 0 (by decide) fE0_p) (zp (.unOp rfl (un_not _)) ?_)))))); clear h; intro a w h
  refine by_bool h (fun hc24 h => (by exfalso; exact absurd hc24 (by decide))) (fun hc24 h => ?_)
  refine gL h (zm rfl ?_); clear h; intro a w h
  refine wpl_guard 25 h rfl rfl (op_callW h (vs := [_, _, _]) rfl Tryz.call32 (C_failsL _ _ 3 (by decide) fE1_p) (by simp) (by decide) ?_); clear h; intro a w h
  refine gL h (zq 25 rfl rfl (.unOp rfl (un_not _)) ?_); clear h; intro a w h
  refine by_bool h (fun hc27 h => (by exfalso; exact absurd hc27 (by decide))) (fun hc27 h => ?_)
  refine gL h (zp (.pickF rfl rfl) (zm rfl ?_)); clear h; intro a w h
  refine wpl_guard 29 h rfl rfl (op_callW h (vs := [_, _, _]) rfl Tryz.call32 (C_failsL _ _ 2 (by decide) fE2_p) (by simp) (by decide) ?_); clear h; intro a w h
  refine gL h (zq 29 rfl rfl (.unOp rfl (un_not _)) ?_); clear h; intro a w h
  refine by_bool h (fun hc31 h => (by exfalso; exact absurd hc31 (by decide))) (fun hc31 h => ?_)
  refine gL h (zp (.pickF rfl rfl) (zm rfl ?_)); clear h; intro a w h
  refine wpl_guard 33 h rfl rfl (op_callW h (vs := [_, _, _]) rfl Tryz.call32 (C_failsL _ _ 1 (by decide) fE3_p) (by simp) (by decide) ?_); clear h; intro a w h
  refine gL h (zq 33 rfl rfl (.unOp rfl (un_not _)) ?_); clear h; intro a w h
  refine by_bool h (fun hc35 h => (by exfalso; exact absurd hc35 (by decide))) (fun hc35 h => ?_)
  refine gL h (zp (.pickF rfl rfl) (zm rfl ?_)); clear h; intro a w h
  refine wpl_guard 37 h rfl rfl (op_callW h (vs := [_, _, _]) rfl Tryz.call32 (C_failsL _ _ 2 (by decide) fE4_p) (by simp) (by decide) ?_); clear h; intro a w h
  refine gL h (zq 37 rfl rfl (.unOp rfl (un_not _)) ?_); clear h; intro a w h
  refine by_bool h (fun hc39 h => (by exfalso; exact absurd hc39 (by decide))) (fun hc39 h => ?_)
  refine gL h (zp (.pickF rfl rfl) (zm rfl ?_)); clear h; intro a w h
  refine wpl_guard 41 h rfl rfl (op_callW h (vs := [_, _, _]) rfl Tryz.call32 (C_failsL _ _ 2 (by decide) fE5_p) (by simp) (by decide) ?_); clear h; intro a w h
  refine gL h (zq 41 rfl rfl (.unOp rfl (un_not _)) ?_); clear h; intro a w h
  refine by_bool h (fun hc43 h => (by exfalso; exact absurd hc43 (by decide))) (fun hc43 h => ?_)
  refine gL h (zp (.pickF rfl rfl) (zm rfl ?_)); clear h; intro a w h
  refine wpl_guard 45 h rfl rfl (op_callW h (vs := [_, _, _]) rfl Tryz.call32 (C_failsL _ _ 1 (by decide) fE6_p) (by simp) (by decide) ?_); clear h; intro a w h
  refine gL h (zq 45 rfl rfl (.unOp rfl (un_not _)) ?_); clear h; intro a w h
  refine by_bool h (fun hc47 h => (by exfalso; exact absurd hc47 (by decide))) (fun hc47 h => ?_)
  refine gL h (zp (.pickF rfl rfl) (zm rfl ?_)); clear h; intro a w h
  refine wpl_guard 49 h rfl rfl (op_callW h (vs := [_, _, _]) rfl Tryz.call32 (C_failsL _ _ 2 (by decide) fE7_p) (by simp) (by decide) ?_); clear h; intro a w h
  refine gL h (zq 49 rfl rfl (.unOp rfl (un_not _)) ?_); clear h; intro a w h
  refine by_bool h (fun hc51 h => (by exfalso; exact absurd hc51 (by decide))) (fun hc51 h => ?_)
  refine gL h (zp (.pickF rfl rfl) (zn ?_)); clear h; intro a w h
  change Code.wp _ _ _ _ _
  refine cond_false h rfl ?_
  refine gC h (zk (zs (zr (zw [_, _, _] rfl Tryz.call32 (C_failsL _ _ 2 (by decide) fE8_p) ?_)))); clear h; intro a w h
  refine by_bool h (fun hc53 h => ?_) (fun hc53 h => (by exfalso; exact absurd hc53 (by decide)))
  refine gL h (zm rfl ?_); clear h; intro a w h
  refine wpl_guard 54 h rfl rfl (op_callW h (vs := [_, _, _]) rfl Tryz.call32 (C_failsL _ _ 3 (by decide) fE9_p) (by simp) (by decide) ?_); clear h; intro a w h
  refine by_bool h (fun hc55 h => ?_) (fun hc55 h => (by exfalso; exact absurd hc55 (by decide)))
  refine gL h (zp (.pickT rfl rfl) (zm rfl ?_)); clear h; intro a w h
  refine wpl_guard 57 h rfl rfl (op_callW h (vs := [_, _, _]) rfl Tryz.call32 (C_failsL _ _ 1 (by decide) fE10_p) (by simp) (by decide) ?_); clear h; intro a w h
  refine by_bool h (fun hc58 h => ?_) (fun hc58 h => (by exfalso; exact absurd hc58 (by decide)))
  refine gL h (zp (.pickT rfl rfl) (zm rfl ?_)); clear h; intro a w h
  refine wpl_guard 60 h rfl rfl (op_callW h (vs := [_, _, _]) rfl Tryz.call32 (C_failsL _ _ 3 (by decide) fE11_p) (by simp) (by decide) ?_); clear h; intro a w h
  refine by_bool h (fun hc61 h => ?_) (fun hc61 h => (by exfalso; exact absurd hc61 (by decide)))
  refine gL h (zp (.pickT rfl rfl) (zm rfl ?_)); clear h; intro a w h
  refine wpl_guard 63 h rfl rfl (op_callW h (vs := [_, _, _]) rfl Tryz.call32 (C_failsL _ _ 5 (by decide) fE12_p) (by simp) (by decide) ?_); clear h; intro a w h
  refine by_bool h (fun hc64 h => ?_) (fun hc64 h => (by exfalso; exact absurd hc64 (by decide)))
  refine gL h (zp (.pickT rfl rfl) (zm rfl ?_)); clear h; intro a w h
  refine wpl_guard 66 h rfl rfl (op_callW h (vs := [_, _, _]) rfl Tryz.call32 (C_failsL _ _ 1 (by decide) fE13_p) (by simp) (by decide) ?_); clear h; intro a w h
  refine by_bool h (fun hc67 h => ?_) (fun hc67 h => (by exfalso; exact absurd hc67 (by decide)))
  refine gL h (zp (.pickT rfl rfl) (zm rfl ?_)); clear h; intro a w h
  refine wpl_guard 69 h rfl rfl (op_callW h (vs := [_, _, _]) rfl Tryz.call32 (C_failsL _ _ 16 (by decide) fE14_p) (by simp) (by decide) ?_); clear h; intro a w h
  refine by_bool h (fun hc70 h => ?_) (fun hc70 h => (by exfalso; exact absurd hc70 (by decide)))
  refine gL h (zp (.pickT rfl rfl) (za rfl (zn (zt ?_)))); clear h; intro a w h
  refine retV h (results1 h rfl (.tmp rfl)) ?_
  rfl
end
section
section
variable {s : ByteArray} {ins : Ins} {k e f : Nat} {p : List Tm} {er : Fa}
def StopE (s : ByteArray) (e : Nat) : Prop := blkE s e = e ∧ takesE s 94 e = false ∧ takesE s 42 e = false ∧ takesE s 47 e = false ∧ takesE s 43 e = false ∧ takesE s 45 e = false
end
theorem blkE_not {s : ByteArray} {k : Nat} (h : chA s k ≠ 32) : blkE s k = k := blkE_fix (fun hh => h hh.2)
theorem chA_end {s : ByteArray} {k : Nat} (hk : s.size ≤ k) : chA s k = 0 := by
  unfold chA
  have : s.data.toList.length = s.size := rfl
  simp [List.getD, List.getElem?_eq_none (show s.data.toList.length ≤ k by omega)]
def opn (c : UInt8) (n : Nat) : ByteArray := ⟨(List.replicate n c).toArray⟩
def nestS (n : Nat) : ByteArray := opn 40 n ++ ⟨#[120]⟩ ++ opn 41 n
def bS (m : Nat) : ByteArray := ⟨(121 :: List.replicate (m - 1) 32).toArray⟩
end
section
structure Ag (s s' : ByteArray) (a : Nat) : Prop where
  l1 : a < s.size
  l2 : a < s'.size
  eq : ∀ i, i ≤ a → chA s i = chA s' i
  nb : chA s a ≠ 32
def Inc (s : ByteArray) (a : Nat) (e : Int) : Prop := e = 4 ∨ e = 5 ∨ (e = 3 ∧ chA s a = 40)
def Cod (e : Int) : Prop := e = 3 ∨ e = 4 ∨ e = 5 ∨ e = 9
structure PF {α : Type} (s s' : ByteArray) (k : Nat) (r r' : Except Fa (α × Nat)) : Prop where
  mono : ∀ p b, r = .ok (p, b) → k ≤ b
  mle : k ≤ s.size → ∀ p b, r = .ok (p, b) → b ≤ s.size
  ge : ∀ e i, r = .error (e, i) → k ≤ i
  le : k ≤ s.size → ∀ e i, r = .error (e, i) → i ≤ s.size
  okc : ∀ a, Ag s s' a → ∀ p b, r = .ok (p, b) → b ≤ a → r' = .ok (p, b)
  erc : ∀ a, Ag s s' a → ∀ e, r = .error (e, a) → Inc s a e → r' = .error (e, a)
  cod : ∀ e i, r = .error (e, i) → Cod e
theorem PF.mok {α : Type} {s s' : ByteArray} {k b : Nat} {p : α} {r' : Except Fa (α × Nat)} (h1 : k ≤ b) (h2 : k ≤ s.size → b ≤ s.size) (h3 : ∀ a, Ag s s' a → b ≤ a → r' = .ok (p, b)) : PF s s' k (.ok (p, b)) r' :=
  ⟨fun q c h => by cases h; exact h1, fun hk q c h => by cases h; exact h2 hk, fun e i h => by (cases h), fun _ e i h => by (cases h), fun a ha q c h hb => by cases h; exact h3 a ha hb, fun a ha e h => by (cases h), fun e i h => by (cases h)⟩
theorem PF.mer {α : Type} {s s' : ByteArray} {k i : Nat} {e : Int} {r' : Except Fa (α × Nat)} (h1 : k ≤ i) (h2 : k ≤ s.size → i ≤ s.size) (h3 : Ag s s' i → Inc s i e → r' = .error (e, i)) (hc : Cod e := by unfold Cod; decide) : PF s s' k (.error (e, i)) r' :=
  ⟨fun q c h => by (cases h), fun hk q c h => by (cases h), fun e i h => by cases h; exact h1, fun hk e i h => by cases h; exact h2 hk, fun a ha q c h hb => by (cases h), fun a ha e h hi => by cases h; exact h3 ha hi, fun e i h => by cases h; exact hc⟩
theorem PF.at {α : Type} {s s' : ByteArray} {k k2 : Nat} {r r' R' : Except Fa (α × Nat)} (h : PF s s' k2 r r') (h1 : k ≤ k2) (h2 : k ≤ s.size → k2 ≤ s.size) (h3 : ∀ a, Ag s s' a → k2 ≤ a → R' = r') : PF s s' k r R' :=
  ⟨fun p b e => by have := h.mono p b e; omega, fun hk => h.mle (h2 hk), fun e i q => by have := h.ge e i q; omega, fun hk => h.le (h2 hk),
   fun a ha p b e hb => by rw [h3 a ha (by have := h.mono p b e; omega)]; exact h.okc a ha p b e hb,
   fun a ha e q hi => by rw [h3 a ha (h.ge e a q)]; exact h.erc a ha e q hi, h.cod⟩
theorem PF.fail {α β : Type} {s s' : ByteArray} {k k2 : Nat} {f : Fa} {r r' : Except Fa (α × Nat)} {R' : Except Fa (β × Nat)} (h : PF s s' k2 r r') (hr : r = .error f) (h1 : k ≤ k2) (h2 : k ≤ s.size → k2 ≤ s.size) (h3 : ∀ a e, Ag s s' a → k2 ≤ a → r' = .error (e, a) → R' = .error (e, a)) : PF s s' k (.error f) R' := by
  obtain ⟨e, i⟩ := f
  exact .mer (by have := h.ge e i hr; omega) (fun hk => h.le (h2 hk) e i hr) (fun ha hi => h3 i e ha (h.ge e i hr) (h.erc i ha e hr hi)) (h.cod e i hr)
section
variable {s s' : ByteArray} {a k : Nat}
theorem Ag.blk (h : Ag s s' a) : ∀ n k, a - k ≤ n → k ≤ a → blkE s k = blkE s' k ∧ blkE s k ≤ a
  | n, k, hn, hk => by
    have e1 := h.eq k hk
    have l1 := h.l1
    have l2 := h.l2
    by_cases hb : chA s k = 32
    · have hka : k ≠ a := fun e => h.nb (by rw [← e]; exact hb)
      rcases n with _ | n
      · omega
      · obtain ⟨a1, a2⟩ := Ag.blk h n (k + 1) (by omega) (by omega)
        rw [blkE_step (by omega) hb] at a1 a2
        rw [blkE_step (by omega) (by rw [← e1]; exact hb)] at a1
        exact ⟨a1, a2⟩
    · rw [blkE_not hb, blkE_not (by rw [← e1]; exact hb)]; exact ⟨rfl, hk⟩
theorem Ag.b (h : Ag s s' a) (hk : k ≤ a) : blkE s k = blkE s' k := (h.blk _ k (Nat.le_refl _) hk).1
theorem Ag.ble (h : Ag s s' a) (hk : k ≤ a) : blkE s k ≤ a := (h.blk _ k (Nat.le_refl _) hk).2
theorem Ag.nx (h : Ag s s' a) (hk : k ≤ a) : nextE s k = nextE s' k := by
  have h1 := h.ble hk
  have l1 := h.l1
  have l2 := h.l2
  unfold nextE
  rw [← h.b hk, if_neg (by omega), if_neg (by omega), h.eq _ h1]
theorem Ag.tk (h : Ag s s' a) (hk : k ≤ a) (c : Nat) : takesE s' c k = takesE s c k := by
  have h1 := h.ble hk
  have l1 := h.l1
  have l2 := h.l2
  unfold takesE
  rw [← h.nx hk, ← h.b hk, decide_eq_false (show ¬ blkE s k = s.size by omega), decide_eq_false (show ¬ blkE s k = s'.size by omega)]
theorem Ag.dig (h : Ag s s' a) (a0 : Nat) : ∀ n k, a - k ≤ n → a0 ≤ k → digE s a0 (s.size - k) k ≤ a → digE s' a0 (s'.size - k) k = digE s a0 (s.size - k) k
  | n, k, hn, h0, hd => by
    have l1 := h.l1
    have l2 := h.l2
    have hge := digE_ge s a0 (s.size - k) k
    have e1 := h.eq k (by omega)
    have e2 := h.eq a0 (by omega)
    by_cases hc : k < s.size ∧ isDg (chA s k) = true ∧ (k = a0 ∨ chA s a0 ≠ 48)
    · have hs := digE_step hc
      have hge2 := digE_ge s a0 (s.size - (k + 1)) (k + 1)
      rcases n with _ | n
      · omega
      · have ih := Ag.dig h a0 n (k + 1) (by omega) (by omega) (by omega)
        rw [← hs, ← ih]
        exact (digE_step ⟨by omega, by rw [← e1]; exact hc.2.1, by rw [← e2]; exact hc.2.2⟩).symm
    · rw [digE_stop hc, digE_stop (fun hh => hc ⟨by omega, by rw [e1]; exact hh.2.1, by rw [e2]; exact hh.2.2⟩)]
theorem valE_eq (h : Ag s s' a) (k : Nat) : ∀ n, k + n ≤ a + 1 → valE s' k n = valE s k n
  | 0, _ => rfl
  | n + 1, hn => by rw [valE, valE, valE_eq h k n (by omega), h.eq (k + n) (by omega)]
theorem valE_ge (s : ByteArray) (k : Nat) : ∀ n, chA s k - 48 ≤ valE s k (n + 1)
  | 0 => by rw [valE, valE]; simp
  | n + 1 => by rw [valE]; have := valE_ge s k n; omega
theorem numE_ok1 {n c b : Nat} (h : numE s k = .ok (n, c, b)) : k ≤ c ∧ c < b ∧ c = blkE s k ∧ b = digE s c (s.size - c) c ∧ n = valE s c (b - c) ∧ isDg (nextE s k) = true ∧ c < s.size := by
  unfold numE at h
  simp only at h
  split at h
  · cases h
  · rename_i hd
    simp only [Except.ok.injEq, Prod.mk.injEq] at h
    obtain ⟨h1, h2, h3⟩ := h
    subst h2
    have hge := blkE_ge s k
    have hnz : blkE s k ≠ s.size := fun e => hd (by unfold nextE; rw [if_pos e]; rfl)
    have hlt : blkE s k < s.size := by
      rcases Nat.lt_or_ge (blkE s k) s.size with h' | h'
      · exact h'
      · exfalso; apply hd
        unfold nextE; rw [if_neg hnz, chA_end h']; rfl
    have hdg : isDg (chA s (blkE s k)) = true := by
      have : nextE s k = chA s (blkE s k) := by unfold nextE; rw [if_neg hnz]
      rw [this] at hd; simpa using hd
    have h0 := digE_step (s := s) (a := blkE s k) (k := blkE s k) ⟨hlt, hdg, .inl rfl⟩
    have h4 := digE_ge s (blkE s k) (s.size - (blkE s k + 1)) (blkE s k + 1)
    exact ⟨hge, by omega, rfl, h3.symm, by rw [← h1, h3], by simpa using hd, hlt⟩
theorem numE_er1 {f : Fa} (h : numE s k = .error f) : f = (4, blkE s k) ∧ isDg (nextE s k) = false := by
  unfold numE at h
  simp only at h
  split at h
  · rename_i hd
    cases h; exact ⟨rfl, hd⟩
  · cases h
theorem numE_mle {n c b : Nat} (hk : k ≤ s.size) (h : numE s k = .ok (n, c, b)) : b ≤ s.size := by
  obtain ⟨h1, h2, h3, h4, _⟩ := numE_ok1 h
  rw [h4]; exact digE_le s _ _ _ (by rw [h3]; exact blkE_le hk)
theorem Ag.num (h : Ag s s' a) {n c b : Nat} (hn : numE s k = .ok (n, c, b)) (hb : b ≤ a) : numE s' k = .ok (n, c, b) := by
  obtain ⟨h1, h2, h3, h4, h5, h6, h7⟩ := numE_ok1 hn
  unfold numE
  simp only [← h.nx (show k ≤ a by omega), h6, ← h.b (show k ≤ a by omega), Bool.true_eq_false, if_false]
  rw [← h3, h.dig c _ c (Nat.le_refl _) (Nat.le_refl _) (by omega), ← h4, valE_eq h c _ (by omega), ← h5]
theorem Ag.zero (h : Ag s s' a) {b : Nat} (hn : numE s k = .ok (0, a, b)) : ∃ b', numE s' k = .ok (0, a, b') := by
  obtain ⟨h1, h2, h3, h4, h5, h6, h7⟩ := numE_ok1 hn
  obtain ⟨m, hm⟩ : ∃ m, b - a = m + 1 := ⟨b - a - 1, by omega⟩
  rw [hm] at h5
  have hv := valE_ge s a m
  have hka : k ≤ a := h1
  have hnx : nextE s k = chA s a := by unfold nextE; rw [← h3, if_neg (by omega)]
  have h48 : chA s a = 48 := by
    rw [hnx] at h6
    unfold isDg at h6
    rw [Bool.and_eq_true, decide_eq_true_eq, decide_eq_true_eq] at h6
    omega
  have h48' : chA s' a = 48 := by rw [← h.eq a (Nat.le_refl _)]; exact h48
  have hd : digE s' a (s'.size - a) a = a + 1 := by
    have l2 := h.l2
    rw [← digE_step ⟨l2, by rw [h48']; rfl, .inl rfl⟩]
    exact digE_stop (fun hh => by rcases hh.2.2 with e | e; exact absurd e (by omega); exact e h48')
  unfold numE
  simp only [← h.nx hka, h6, ← h.b hka, Bool.true_eq_false, if_false]
  rw [← h3, hd]
  exact ⟨_, by rw [show a + 1 - a = 0 + 1 by omega, valE, valE, Nat.add_zero, h48']⟩
theorem Ag.nerr (h : Ag s s' a) (hn : numE s k = .error (4, a)) (hk : k ≤ a) : numE s' k = .error (4, a) := by
  obtain ⟨h1, h2⟩ := numE_er1 hn
  have hb : blkE s k = a := by cases h1; rfl
  unfold numE
  simp only [← h.nx hk, h2, ← h.b hk, if_true, hb]
theorem PF.nerr {β : Type} {k0 : Nat} {f : Fa} {R' : Except Fa (β × Nat)} (hn : numE s k = .error f) (h1 : k0 ≤ k) (h2 : k0 ≤ s.size → k ≤ s.size) (h3 : ∀ a, Ag s s' a → k ≤ a → numE s' k = .error (4, a) → R' = .error (4, a)) : PF s s' k0 (.error f) R' := by
  obtain ⟨h4, h5⟩ := numE_er1 hn
  subst h4
  have hge := blkE_ge s k
  exact .mer (by omega) (fun hk => blkE_le (h2 hk)) (fun ha _ => h3 _ ha hge (ha.nerr hn hge))
end
theorem takesE_chA {s : ByteArray} {c k : Nat} (h : takesE s c k = true) : chA s (blkE s k) = c ∧ blkE s k ≠ s.size := by
  unfold takesE at h
  rw [Bool.and_eq_true, decide_eq_true_eq, Bool.not_eq_true', decide_eq_false_iff_not] at h
  refine ⟨?_, h.2⟩
  rw [← h.1]; unfold nextE; rw [if_neg h.2]
theorem not_inc {s : ByteArray} {a : Nat} {e : Int} {c : Nat} (hi : Inc s a e) (hc : chA s a = c) (h40 : c ≠ 40) (h4 : e ≠ 4) (h5 : e ≠ 5) : False := by
  rcases hi with h | h | ⟨_, h⟩
  · exact h4 h
  · exact h5 h
  · omega
def InsPF (s s' : ByteArray) (ins ins' : Ins) : Prop := match ins, ins' with
  | none, none => True
  | some f, some f' => ∀ k, PF s s' k (f k) (f' k)
  | _, _ => False
section
variable {s s' : ByteArray} {ins ins' : Ins}
theorem brE_pf (hI : InsPF s s' ins ins') (k i0 : Nat) (h0 : i0 < k) (hks : i0 ≤ s.size → k ≤ s.size) : PF s s' i0 (brE s ins i0 k) (brE s' ins' i0 k) := by
  rcases ins with _ | f
  · rcases ins' with _ | f'
    · exact .mer (Nat.le_refl _) id (fun _ _ => rfl)
    · exact hI.elim
  · rcases ins' with _ | f'
    · exact hI.elim
    · have hf := hI k
      rcases hr : f k with e | ⟨p, k2⟩
      · have e1 : brE s (some f) i0 k = .error e := by unfold brE; simp only [hr]
        rw [e1]
        exact hf.fail hr (by omega) hks (fun a e _ _ h => by unfold brE; simp only [h])
      · have hm := hf.mono p k2 hr
        have hb := blkE_ge s k2
        rcases ht : takesE s 41 k2 with _ | _
        · have e1 : brE s (some f) i0 k = .error (4, blkE s k2) := by unfold brE; simp only [hr, ht, Bool.false_eq_true, if_false]
          rw [e1]
          refine .mer (by omega) (fun hk => blkE_le (hf.mle (hks hk) p k2 hr)) (fun ha _ => ?_)
          have h1 := hf.okc _ ha p k2 hr (by omega)
          unfold brE; simp only [h1, ha.tk (show k2 ≤ blkE s k2 by omega), ht, Bool.false_eq_true, if_false, ← ha.b (show k2 ≤ blkE s k2 by omega)]
        · have e1 : brE s (some f) i0 k = .ok (p, blkE s k2 + 1) := by unfold brE; simp only [hr, ht, if_true]
          rw [e1]
          refine .mok (by omega) (fun hk => by have := takesE_lt (hf.mle (hks hk) p k2 hr) ht; omega) (fun a ha hb' => ?_)
          have h1 := hf.okc _ ha p k2 hr (by omega)
          unfold brE; simp only [h1, ha.tk (show k2 ≤ a by omega), ht, if_true, ← ha.b (show k2 ≤ a by omega)]
theorem tk1 {k c : Nat} (ht : takesE s c k = true) : k ≤ s.size → blkE s k + 1 ≤ s.size := fun hk => by have := takesE_lt hk ht; omega
theorem baseE_pf (hI : InsPF s s' ins ins') (k : Nat) : PF s s' k (baseE s ins k) (baseE s' ins' k) := by
  have hb := blkE_ge s k
  rcases hx : takesE s 120 k with _ | _
  · rcases hy : takesE s 121 k with _ | _
    · rcases ho : takesE s 40 k with _ | _
      · rcases hn : numE s k with f | ⟨n, c, b⟩
        · rw [baseE_nerr hx hy ho hn]
          exact .nerr hn (Nat.le_refl _) id (fun a ha hk h => baseE_nerr (by rw [ha.tk hk]; exact hx) (by rw [ha.tk hk]; exact hy) (by rw [ha.tk hk]; exact ho) h)
        · rw [baseE_num hx hy ho hn]
          obtain ⟨h1, h2, _⟩ := numE_ok1 hn
          exact .mok (by omega) (fun hk => numE_mle hk hn) (fun a ha hb => baseE_num (by rw [ha.tk (by omega)]; exact hx) (by rw [ha.tk (by omega)]; exact hy) (by rw [ha.tk (by omega)]; exact ho) (ha.num hn hb))
      · rw [baseE_br hx hy ho]
        refine (brE_pf hI (blkE s k + 1) (blkE s k) (by omega) (fun h => ?_)).at hb blkE_le (fun a ha h => ?_)
        · have := (takesE_chA ho).2; omega
        · have hk : k ≤ a := by omega
          rw [baseE_br (by rw [ha.tk hk]; exact hx) (by rw [ha.tk hk]; exact hy) (by rw [ha.tk hk]; exact ho), ← ha.b hk]
    · rw [baseE_y hx hy]
      exact .mok (by omega) (tk1 hy) (fun a ha hb => by rw [baseE_y (by rw [ha.tk (by omega)]; exact hx) (by rw [ha.tk (by omega)]; exact hy), ← ha.b (by omega)])
  · rw [baseE_x hx]
    exact .mok (by omega) (tk1 hx) (fun a ha hb => by rw [baseE_x (by rw [ha.tk (by omega)]; exact hx), ← ha.b (by omega)])
theorem factE_pf (hI : InsPF s s' ins ins') (k : Nat) : PF s s' k (factE s ins k) (factE s' ins' k) := by
  have hB := baseE_pf hI k
  rcases hr : baseE s ins k with f | ⟨p, k2⟩
  · rw [factE_err hr]
    exact hB.fail hr (Nat.le_refl _) id (fun a e _ _ h => factE_err h)
  · have hm := hB.mono p k2 hr
    have hb := blkE_ge s k2
    rcases ht : takesE s 94 k2 with _ | _
    · rw [factE_one hr ht]
      exact .mok (by omega) (fun hk => blkE_le (hB.mle hk p k2 hr)) (fun a ha hb' => by rw [factE_one (hB.okc a ha p k2 hr (by omega)) (by rw [ha.tk (by omega)]; exact ht), ← ha.b (by omega)])
    · have hle : k ≤ s.size → blkE s k2 + 1 ≤ s.size := fun hk => tk1 ht (hB.mle hk p k2 hr)
      have ho := (takesE_chA ht).1
      rcases hn : numE s (blkE s k2 + 1) with f | ⟨n, c, m⟩
      · rw [factE_nerr hr ht hn]
        exact .nerr hn (by omega) hle (fun a ha hk h => factE_nerr (hB.okc a ha p k2 hr (by omega)) (by rw [ha.tk (by omega)]; exact ht) (by rw [← ha.b (by omega)]; exact h))
      · obtain ⟨h1, h2, _⟩ := numE_ok1 hn
        by_cases h3 : n > 12 ∨ (n : Int) * degN p > 12
        · rw [factE_deg hr ht hn h3]
          exact .mer (by omega) (fun hk => by have := hle hk; omega) (fun _ hi => (not_inc hi ho (by decide) (by decide) (by decide)).elim)
        · by_cases h4 : n * sizeE p > 16384
          · rw [factE_lim hr ht hn h3 h4]
            exact .mer (by omega) (fun hk => by have := hle hk; omega) (fun _ hi => (not_inc hi ho (by decide) (by decide) (by decide)).elim)
          · rw [factE_pow hr ht hn h3 h4]
            exact .mok (by omega) (fun hk => numE_mle (hle hk) hn) (fun a ha hb' => factE_pow (hB.okc a ha p k2 hr (by omega)) (by rw [ha.tk (by omega)]; exact ht) (by rw [← ha.b (by omega)]; exact ha.num hn hb') h3 h4)
theorem PF.loop {α : Type} {T : Nat → Except Fa (α × Nat)} {k b f' : Nat} {r R' : Except Fa (α × Nat)} (ih : ∀ g, s'.size - b < g → PF s s' b r (T g)) (h1 : k < b) (h2 : k ≤ s.size → b ≤ s.size) (hf : s'.size - k < f' + 1) (key : ∀ a, Ag s s' a → b ≤ a → R' = T f') : PF s s' k r R' := by
  have ih0 := ih (s'.size - b + 1) (by omega)
  refine ⟨fun q e h => ?_, fun hk q e h => ?_, fun e i h => ?_, fun hk e i h => ?_, fun a ha q e h he => ?_, fun a ha e h hi => ?_, ih0.cod⟩
  · have := ih0.mono q e h; omega
  · exact ih0.mle (h2 hk) q e h
  · have := ih0.ge e i h; omega
  · exact ih0.le (h2 hk) e i h
  · have h5 := ih0.mono q e h
    have l2 := ha.l2
    rw [key a ha (by omega)]
    exact (ih f' (by omega)).okc a ha q e h he
  · have h5 := ih0.ge e a h
    have l2 := ha.l2
    rw [key a ha (by omega)]
    exact (ih f' (by omega)).erc a ha e h hi
theorem PF.mono' {α : Type} {k : Nat} {r r' : Except Fa (α × Nat)} {p : α} {b : Nat} (h : PF s s' k r r') (hr : r = .ok (p, b)) : k ≤ b := h.mono p b hr
theorem termE_pf (hI : InsPF s s' ins ins') : ∀ (f f' : Nat) (p : List Tm) (k : Nat), s.size - k < f → s'.size - k < f' → PF s s' k (termE s ins f p k) (termE s' ins' f' p k)
  | 0, _, _, _, h, _ => by omega
  | _ + 1, 0, _, _, _, h => by omega
  | f + 1, f' + 1, p, k, hf, hf' => by
    have hb := blkE_ge s k
    rcases hx : takesE s 42 k with _ | _
    · rcases hy : takesE s 47 k with _ | _
      · rw [termE_stop hx hy]
        exact .mok hb blkE_le (fun a ha hb' => by rw [termE_stop (by rw [ha.tk (by omega)]; exact hx) (by rw [ha.tk (by omega)]; exact hy), ← ha.b (by omega)])
      · have hle := tk1 hy
        obtain ⟨ho, hns⟩ := takesE_chA hy
        rcases hn : numE s (blkE s k + 1) with e | ⟨n, c, b⟩
        · rw [termE_qerr hx hy hn]
          exact .nerr hn (by omega) hle (fun a ha hk h => termE_qerr (by rw [ha.tk (by omega)]; exact hx) (by rw [ha.tk (by omega)]; exact hy) (by rw [← ha.b (by omega)]; exact h))
        · obtain ⟨h1, h2, h3, _, _, _, h4⟩ := numE_ok1 hn
          by_cases h0 : n = 0
          · subst h0
            rw [termE_qzero hx hy hn rfl]
            refine .mer (by omega) (fun hk => by omega) (fun ha _ => ?_)
            obtain ⟨b', hz⟩ := ha.zero hn
            exact termE_qzero (by rw [ha.tk (by omega)]; exact hx) (by rw [ha.tk (by omega)]; exact hy) (by rw [← ha.b (by omega)]; exact hz) rfl
          · by_cases hl : sizeE p + bitsN n > 16384
            · rw [termE_qlim hx hy hn h0 hl]
              exact .mer (by omega) (fun hk => by have := hle hk; omega) (fun _ hi => (not_inc hi ho (by decide) (by decide) (by decide)).elim)
            · rw [termE_quo hx hy hn h0 hl]
              exact .loop (T := fun g => termE s' ins' g (norm (scaleL (1 / ((n : Int) : Rat)) p)) b) (fun g hg => termE_pf hI f g _ b (by omega) hg) (by omega) (fun hk => numE_mle (hle hk) hn) hf'
                (fun a ha hba => termE_quo (by rw [ha.tk (by omega)]; exact hx) (by rw [ha.tk (by omega)]; exact hy) (by rw [← ha.b (by omega)]; exact ha.num hn hba) h0 hl)
    · have hle := tk1 hx
      obtain ⟨ho, hns⟩ := takesE_chA hx
      have hF := factE_pf hI (blkE s k + 1)
      rcases hn : factE s ins (blkE s k + 1) with e | ⟨q, b⟩
      · rw [termE_merr hx hn]
        exact hF.fail hn (by omega) hle (fun a e ha hk h => termE_merr (by rw [ha.tk (by omega)]; exact hx) (by rw [← ha.b (by omega)]; exact h))
      · have h1 := hF.mono' hn
        by_cases hd : mulOk p q
        · by_cases hl : sizeE p + sizeE q > 16384
          · rw [termE_mlim hx hn hd hl]
            exact .mer (by omega) (fun hk => by have := hle hk; omega) (fun _ hi => (not_inc hi ho (by decide) (by decide) (by decide)).elim)
          · rw [termE_mul hx hn hd hl]
            by_cases hks : k < s.size
            · exact .loop (T := fun g => termE s' ins' g (norm (mulL p q)) b) (fun g hg => termE_pf hI f g _ b (by omega) hg) (by omega) (fun hk => hF.mle (hle hk) q b hn) hf'
                (fun a ha hba => termE_mul (by rw [ha.tk (by omega)]; exact hx) (by rw [← ha.b (by omega)]; exact hF.okc a ha q b hn hba) hd hl)
            · exfalso
              have : chA s (blkE s k) = 0 := chA_end (by omega)
              omega
        · rw [termE_mdeg hx hn hd]
          exact .mer (by omega) (fun hk => by have := hle hk; omega) (fun _ hi => (not_inc hi ho (by decide) (by decide) (by decide)).elim)
theorem termI_pf (hI : InsPF s s' ins ins') (k : Nat) : PF s s' k (termI s ins k) (termI s' ins' k) := by
  have hF := factE_pf hI k
  rcases hn : factE s ins k with e | ⟨q, b⟩
  · rw [termI_err hn]
    exact hF.fail hn (Nat.le_refl _) id (fun a e ha hk h => termI_err h)
  · rw [termI_ok hn]
    exact (termE_pf hI _ (s'.size - b + 1) q b (by omega) (by omega)).at (hF.mono' hn) (fun hk => hF.mle hk q b hn) (fun a ha hba => termI_ok (hF.okc a ha q b hn hba))
theorem sumL_pf (hI : InsPF s s' ins ins') : ∀ (f f' : Nat) (p : List Tm) (k : Nat), s.size - k < f → s'.size - k < f' → PF s s' k (sumL s ins f p k) (sumL s' ins' f' p k)
  | 0, _, _, _, h, _ => by omega
  | _ + 1, 0, _, _, _, h => by omega
  | f + 1, f' + 1, p, k, hf, hf' => by
    have hb := blkE_ge s k
    have go : ∀ c, takesE s c k = true → c ≠ 40 → c ≠ 0 → (takesE s 43 k = true ∨ takesE s 45 k = true) → PF s s' k (sumL s ins (f + 1) p k) (sumL s' ins' (f' + 1) p k) := by
      intro c hc h40 hc0 ht
      have hle := tk1 hc
      obtain ⟨ho, hns⟩ := takesE_chA hc
      have hF := termI_pf hI (blkE s k + 1)
      have ht' : ∀ a, Ag s s' a → k ≤ a → (takesE s' 43 k = true ∨ takesE s' 45 k = true) := fun a ha hk => by rw [ha.tk hk, ha.tk hk]; exact ht
      rcases hn : termI s ins (blkE s k + 1) with e | ⟨q, b⟩
      · rw [sumL_err ht hn]
        exact hF.fail hn (by omega) hle (fun a e ha hk h => sumL_err (ht' a ha (by omega)) (by rw [← ha.b (by omega)]; exact h))
      · have h1 := hF.mono' hn
        by_cases hl : sizeE p + sizeE q > 16384
        · rw [sumL_lim ht hn hl]
          exact .mer (by omega) (fun hk => by have := hle hk; omega) (fun _ hi => (not_inc hi ho h40 (by decide) (by decide)).elim)
        · have hks : k < s.size := by
            rcases Nat.lt_or_ge k s.size with h | h
            · exact h
            · exact absurd (chA_end (s := s) (k := blkE s k) (by omega)) (by omega)
          rcases hp : takesE s 43 k with _ | _
          · have hm : takesE s 45 k = true := by rw [hp] at ht; simpa using ht
            rw [sumL_sub hp hm hn hl]
            exact .loop (T := fun g => sumL s' ins' g (norm (p ++ scaleL ((-1 : Int) : Rat) q)) b) (fun g hg => sumL_pf hI f g _ b (by omega) hg) (by omega) (fun hk => hF.mle (hle hk) q b hn) hf'
              (fun a ha hba => sumL_sub (by rw [ha.tk (by omega)]; exact hp) (by rw [ha.tk (by omega)]; exact hm) (by rw [← ha.b (by omega)]; exact hF.okc a ha q b hn hba) hl)
          · rw [sumL_add hp hn hl]
            exact .loop (T := fun g => sumL s' ins' g (norm (p ++ q)) b) (fun g hg => sumL_pf hI f g _ b (by omega) hg) (by omega) (fun hk => hF.mle (hle hk) q b hn) hf'
              (fun a ha hba => sumL_add (by rw [ha.tk (by omega)]; exact hp) (by rw [← ha.b (by omega)]; exact hF.okc a ha q b hn hba) hl)
    rcases hp : takesE s 43 k with _ | _
    · rcases hm : takesE s 45 k with _ | _
      · rw [sumL_stop hp hm]
        exact .mok hb blkE_le (fun a ha hb' => by rw [sumL_stop (by rw [ha.tk (by omega)]; exact hp) (by rw [ha.tk (by omega)]; exact hm), ← ha.b (by omega)])
      · exact go 45 hm (by decide) (by decide) (.inr hm)
    · exact go 43 hp (by decide) (by decide) (.inl hp)
theorem sumI_pf (hI : InsPF s s' ins ins') (k : Nat) : PF s s' k (sumI s ins k) (sumI s' ins' k) := by
  have hb := blkE_ge s k
  obtain ⟨k1, hk1⟩ : ∃ k1, k1 = (if takesE s 45 k = true then blkE s k + 1 else blkE s k) := ⟨_, rfl⟩
  have hk1a : k ≤ k1 := by rw [hk1]; split <;> omega
  have hk1b : k ≤ s.size → k1 ≤ s.size := fun hk => by
    rw [hk1]; split
    · rename_i h; exact tk1 h hk
    · exact blkE_le hk
  have hk1c : ∀ a, Ag s s' a → k1 ≤ a → k1 = (if takesE s' 45 k = true then blkE s' k + 1 else blkE s' k) := fun a ha h => by
    rw [ha.tk (show k ≤ a by omega), ← ha.b (show k ≤ a by omega)]; exact hk1
  have hF := termI_pf hI k1
  rcases hn : termI s ins k1 with e | ⟨q, b⟩
  · rw [sumI_err (by rw [← hk1]; exact hn)]
    exact hF.fail hn hk1a hk1b (fun a e ha hk h => sumI_err (by rw [← hk1c a ha hk]; exact h))
  · have h1 := hF.mono' hn
    rw [sumI_ok (by rw [← hk1]; exact hn)]
    refine (sumL_pf hI _ (s'.size - b + 1) _ b (by omega) (by omega)).at (by omega) (fun hk => hF.mle (hk1b hk) q b hn) (fun a ha hba => ?_)
    rw [sumI_ok (by rw [← hk1c a ha (by omega)]; exact hF.okc a ha q b hn hba), ha.tk (show k ≤ a by omega)]
end
theorem sumE_pf (s s' : ByteArray) : ∀ n k, PF s s' k (sumE s n k) (sumE s' n k)
  | 0, k => sumI_pf (ins := none) (ins' := none) trivial k
  | n + 1, k => sumI_pf (ins := some (sumE s n)) (ins' := some (sumE s' n)) (fun k => sumE_pf s s' n k) k
theorem readE_le {s : ByteArray} {e : Int} {i : Nat} (h : readE s = .error (e, i)) : i ≤ s.size ∧ Cod e := by
  have hF := sumE_pf s s 32 0
  unfold readE at h
  split at h
  · rename_i f hr
    cases h
    exact ⟨hF.le (Nat.zero_le _) e i hr, hF.cod e i hr⟩
  · rename_i p k hr
    have := blkE_le (hF.mle (Nat.zero_le _) p k hr)
    split at h
    · cases h; exact ⟨by omega, by unfold Cod; decide⟩
    · cases h
theorem readE_pre {s s' : ByteArray} {e : Int} {a : Nat} (ha : Ag s s' a) (h : readE s = .error (e, a)) (hi : Inc s a e) : readE s' = .error (e, a) := by
  have hF := sumE_pf s s' 32 0
  unfold readE at h
  split at h
  · rename_i f hr
    cases h
    unfold readE
    rw [hF.erc a ha e hr hi]
  · rename_i p k hr
    split at h
    · rename_i hlt
      obtain ⟨h1, h2⟩ : (4 : Int) = e ∧ blkE s k = a := by cases h; exact ⟨rfl, rfl⟩
      have hge := blkE_ge s k
      have l2 := ha.l2
      have h3 := hF.okc a ha p k hr (by omega)
      unfold readE
      rw [h3]
      simp only [← ha.b (show k ≤ a by omega)]
      rw [if_pos (by omega), ← h1, h2]
    · cases h
theorem trimE_blank (s : ByteArray) : ∀ n i, i < n → chA s i ≠ 32 → i < trimE s n
  | 0, i, h, _ => by omega
  | n + 1, i, h, hb => by
    rw [trimE]; split
    · rename_i h32
      refine trimE_blank s n i ?_ hb
      have : i ≠ n := fun e => hb (by rw [e]; exact h32)
      omega
    · omega
theorem chA_ext0 {s : ByteArray} {m i : Nat} (hi : i < m) (hm : m ≤ s.size) : chA (s.extract 0 m) i = chA s i := by
  unfold chA
  rw [ByteArray.data_extract, Array.toList_extract]
  simp only [List.extract_eq_take_drop, List.drop_zero, Nat.sub_zero, List.getD]
  rw [List.getElem?_take, if_pos hi]
theorem parseE_le {s : ByteArray} {e : Int} {i : Nat} (h : parseE s = .error (e, i)) : i ≤ s.size ∧ Cod e := by
  unfold parseE at h
  split at h
  · cases h; exact ⟨Nat.zero_le _, by unfold Cod; decide⟩
  · have h1 := readE_le h
    rw [ByteArray.size_extract] at h1; exact ⟨by omega, h1.2⟩
theorem parseE_pre {s u : ByteArray} {e : Int} {a : Nat} (hs : s.size ≤ 4096) (hu : u.size ≤ 4096) (h : parseE s = .error (e, a)) (h1 : a < s.size) (h2 : a < u.size) (h3 : ∀ i, i ≤ a → chA s i = chA u i) (h4 : chA s a ≠ 32) (hi : Inc s a e) : parseE u = .error (e, a) := by
  have t1 := trimE_blank s s.size a h1 h4
  have t2 := trimE_blank u u.size a h2 (by rw [← h3 a (Nat.le_refl _)]; exact h4)
  have m1 := trimE_le s s.size
  have m2 := trimE_le u u.size
  unfold parseE at h ⊢
  rw [if_neg (by omega)] at h ⊢
  have c1 : ∀ i, i ≤ a → chA (s.extract 0 (trimE s s.size)) i = chA s i := fun i hi => chA_ext0 (by omega) m1
  have c2 : ∀ i, i ≤ a → chA (u.extract 0 (trimE u u.size)) i = chA u i := fun i hi => chA_ext0 (by omega) m2
  refine readE_pre ⟨by rw [ByteArray.size_extract]; omega, by rw [ByteArray.size_extract]; omega, fun i hi => by rw [c1 i hi, c2 i hi]; exact h3 i hi, by rw [c1 a (Nat.le_refl _)]; exact h4⟩ h ?_
  rcases hi with hi | hi | ⟨hi, hi2⟩
  · exact .inl hi
  · exact .inr (.inl hi)
  · exact .inr (.inr ⟨hi, by rw [c1 a (Nat.le_refl _)]; exact hi2⟩)
theorem parse_two (s : ByteArray) : (rE s = 0 ∧ rI s = 0) ∨ (parseE s = .error (rE s, rI s) ∧ rP s = [] ∧ Cod (rE s) ∧ rI s ≤ s.size) := by
  rcases h : parseE s with ⟨e, i⟩ | p
  · obtain ⟨h1, h2, h3⟩ := res_err h
    obtain ⟨h4, h5⟩ := parseE_le h
    exact .inr ⟨by rw [h2, h3], h1, by rw [h2]; exact h5, by rw [h3]; exact h4⟩
  · obtain ⟨h1, h2, h3⟩ := res_ok h
    exact .inl ⟨h2, h3⟩
def cutS (s t : ByteArray) (a : Nat) : Nat → ByteArray
  | 0 => s.extract 0 (a + 1)
  | n + 1 => cutS s t a n ++ ⟨#[43]⟩ ++ t
theorem chA_app0 {x y : ByteArray} {i : Nat} (h : i < x.size) : chA (x ++ y) i = chA x i := by
  unfold chA
  rw [ByteArray.data_append, Array.toList_append]
  simp only [List.getD]
  rw [List.getElem?_append_left h]
theorem cutS_ok {s t : ByteArray} {a : Nat} (ha : a < s.size) : ∀ n, (cutS s t a n).size = a + 1 + n * (1 + t.size) ∧ ∀ i, i ≤ a → chA s i = chA (cutS s t a n) i
  | 0 => ⟨by rw [cutS, ByteArray.size_extract]; omega, fun i hi => (chA_ext0 (by omega) (by omega)).symm⟩
  | n + 1 => by
    obtain ⟨h1, h2⟩ := cutS_ok (t := t) ha n
    have e1 : (⟨#[43]⟩ : ByteArray).size = 1 := rfl
    refine ⟨?_, fun i hi => ?_⟩
    · rw [cutS, ByteArray.size_append, ByteArray.size_append, h1, e1, Nat.add_mul]; omega
    · rw [cutS, chA_app0 (by rw [ByteArray.size_append, h1]; omega), chA_app0 (by rw [h1]; omega)]
      exact h2 i hi
theorem cut_parse {s t : ByteArray} {n : Nat} (hs : s.size ≤ 150) (ht : t.size ≤ 150) (h : parseE s = .error (rE s, rI s)) (h1 : rI s < s.size) (h4 : chA s (rI s) ≠ 32) (hi : Inc s (rI s) (rE s)) (hn : n ≤ 2) : parseE (cutS s t (rI s) n) = .error (rE s, rI s) := by
  obtain ⟨a1, a2⟩ := cutS_ok (t := t) h1 n
  have : n * (1 + t.size) ≤ 2 * 151 := Nat.mul_le_mul hn (by omega)
  exact parseE_pre (by omega) (by omega) h h1 (by omega) a2 h4 hi
def cntS (q : Nat → Bool) (s : ByteArray) : Nat → Nat
  | 0 => 0
  | i + 1 => if q (chA s i) = true then cntS q s i + 1 else cntS q s i
theorem cntS_le (q : Nat → Bool) (s : ByteArray) : ∀ i, cntS q s i ≤ i
  | 0 => Nat.le_refl _
  | i + 1 => by rw [cntS]; have := cntS_le q s i; split <;> omega
def isCt (c : Nat) : Bool := decide (c = 94)
def longB (s : ByteArray) : Bool := decide (60 < cntS isDg s s.size) || decide (10 < cntS isCt s s.size)
theorem cnt_y {q : Nat → Bool} {s : ByteArray} {i d : Nat} (h : q (chA s i) = true) (hd : d = cntS q s i) : d + 1 = cntS q s (i + 1) := by rw [cntS, if_pos h, hd]
theorem cnt_n {q : Nat → Bool} {s : ByteArray} {i d : Nat} (h : q (chA s i) = false) (hd : d = cntS q s i) : d = cntS q s (i + 1) := by rw [cntS, if_neg (by rw [h]; decide), hd]
end
section
theorem fa_28_0 (b off : Nat) (w : World) : (Instr.fieldAt 28 (.pointer (some ⟨b, off, none⟩)) 0).run Tryz.prog w = .ok (.pointer (some ⟨b, off + 0, none⟩)) w := by
  simp [go_sem]
theorem fa_28_1 (b off : Nat) (w : World) : (Instr.fieldAt 28 (.pointer (some ⟨b, off, none⟩)) 1).run Tryz.prog w = .ok (.pointer (some ⟨b, off + 1, none⟩)) w := by
  simp [go_sem]
theorem slh_9 (x : ByteArray) (hi : Nat) (h2 : hi ≤ x.size) (w : World) : (Instr.sliceAt 9 (.string x) none (some (.int .i64 (hi : Int))) none).run Tryz.prog w = .ok (.string (x.extract 0 hi)) w := by
  have hT := Tryz.runUnderlying9
  have e : ∀ j : Nat, asIntOf (.int .i64 (j : Int)) = (pure (.i64, (j : Int)) : Sem _) := fun _ => rfl
  have a1 : (0 : Int) ≤ 0 ∧ (0 : Int) ≤ (hi : Int) := by omega
  have a2 : (0 : Int) ≤ (hi : Int) ∧ (hi : Int) ≤ (x.size : Int) := by omega
  unfold Instr.sliceAt
  simp only [Sem.run_bind, hT, Result.andThen]
  unfold Instr.slice
  simp only [Sem.run_bind, hT, Result.andThen, Option.isSome_none, Bool.false_eq_true, if_false, Instr.sliceBounds, Instr.sliceBound, e, Sem.run_pure, a1, a2, and_self, if_true, Int.toNat_natCast, Int.toNat_zero]
  try rfl
theorem C_longE (s : ByteArray) (hsz : s.size ≤ 1000) : CtrV Tryz.prog 9 [.string s] (.bool (longB s)) := by
  refine fn_intro Tryz.func9 rfl Tryz.ntmps9 nb ?_
  intro S w0 a hS h
  refine gC h (zs (zr (za rfl (zn (zs (zr (za rfl (za rfl (zn (zs (zs (zr (za rfl (zn (zb ?_))))))))))))))); clear h; intro a w h
  refine wp_loop_inv (fun (i : Nat) a w => i ≤ s.size ∧ ∃ d p, (d = cntS isDg s i ∧ p = cntS isCt s i) ∧ St 36 S w0 [(0, .string s), (2, .bool false), (3, .int .i64 ((d : Nat) : Int)), (4, .int .i64 ((p : Nat) : Int)), (5, .int .i64 ((i : Nat) : Int))] [] [] a w) (fun i => s.size - i) 0 (⟨Nat.zero_le _, 0, 0, ⟨rfl, rfl⟩, by exact (h).sub (subL ⟨rfl, rfl, rfl, rfl, rfl, trivial⟩)⟩) ?_; clear h
  rintro i a w ⟨hi_i, d, p, ⟨hd, hp⟩, h⟩
  have hd1 : d ≤ 1000 := by rw [hd]; have := cntS_le isDg s i; omega
  have hp1 : p ≤ 1000 := by rw [hp]; have := cntS_le isCt s i; omega
  refine gC h (zs (zs (zr (zm rfl (zm rfl (zp (.builtin [_] rfl (len_string_9 _)) (zp (.lss rfl rfl) (zn ?_)))))))); clear h; intro a w h
  change Code.wp _ _ _ _ _
  refine cond_split h rfl (fun hc9 => ?_) (fun hc9 => ?_)
  · skip
    have hlt_i : i < s.size := by have := of_decide_eq_true hc9; omega
    refine gC h (zk (zs (zb (zs (zs (zr (zm rfl (zm rfl (zp (Pure1.cast (v' := .int .u8 ((chA s i : Nat) : Int)) (.index rfl rfl (fun _ => run_index_str Tryz.runUnderlying9 _ _ (by omega))) (by rfl)) (zp (.geq rfl rfl) ?_)))))))))); clear h; intro a w h
    refine by_bool h (fun hc15 h => ?_) (fun hc15 h => ?_)
    · skip
      have h48 : 48 ≤ chA s i := by have := of_decide_eq_true hc15; omega
      refine gL h (zm rfl (zq 16 rfl rfl (.move rfl) (zq 16 rfl rfl (.move rfl) (zq 16 rfl rfl (Pure1.cast (v' := .int .u8 ((chA s i : Nat) : Int)) (.index rfl rfl (fun _ => run_index_str Tryz.runUnderlying9 _ _ (by omega))) (by rfl)) (zq 16 rfl rfl (.leq rfl rfl) ?_))))); clear h; intro a w h
      refine by_bool h (fun hc20 h => ?_) (fun hc20 h => ?_)
      · skip
        have h57 : chA s i ≤ 57 := by have := of_decide_eq_true hc20; omega
        have hD : isDg (chA s i) = true := by unfold isDg; simp only [Bool.and_eq_true, Bool.and_eq_false_iff, decide_eq_true_eq, decide_eq_false_iff_not]; omega
        refine gL h (zp (.pickT rfl rfl) (zn ?_)); clear h; intro a w h
        change Code.wp _ _ _ _ _
        refine cond_true h rfl ?_
        refine gC h (zr (zm rfl (zp (Pure1.cast (v' := (.int .i64 ((d + 1 : Nat) : Int))) (.add rfl rfl) (by show Value.int _ _ = Value.int _ _; congr 1)) (za rfl (zn (zs (zr (zm rfl (zm rfl (zp (Pure1.cast (v' := .int .u8 ((chA s i : Nat) : Int)) (.index rfl rfl (fun _ => run_index_str Tryz.runUnderlying9 _ _ (by omega))) (by rfl)) (zp (.eql rfl rfl) ?_))))))))))); clear h; intro a w h
        refine by_bool h (fun hc27 h => ?_) (fun hc27 h => ?_)
        · skip
          have hC : isCt (chA s i) = true := by have := eq_of_beq hc27; unfold isCt; rw [decide_eq_true_eq]; omega
          refine wpList_nil ?_
          change Code.wp _ _ _ _ _
          refine cond_true h rfl ?_
          refine gC h (zr (zm rfl (zp (Pure1.cast (v' := (.int .i64 ((p + 1 : Nat) : Int))) (.add rfl rfl) (by show Value.int _ _ = Value.int _ _; congr 1)) (za rfl (zn (zr (zm rfl (zp (Pure1.cast (v' := (.int .i64 ((i + 1 : Nat) : Int))) (.add rfl rfl) (by show Value.int _ _ = Value.int _ _; congr 1)) (za rfl (zn ?_)))))))))); clear h; intro a w h
          exact ⟨i + 1, ⟨by omega, d + 1, p + 1, ⟨by first | exact cnt_y hD hd | exact cnt_n hD hd, by first | exact cnt_y hC hp | exact cnt_n hC hp⟩, by exact h.sub sA⟩, by omega⟩
        · skip
          have hC : isCt (chA s i) = false := by unfold isCt; rw [decide_eq_false_iff_not]; intro e; rw [e] at hc27; exact absurd hc27 (by decide)
          refine wpList_nil ?_
          change Code.wp _ _ _ _ _
          refine cond_false h rfl ?_
          refine gC h (zk (zr (zm rfl (zp (Pure1.cast (v' := (.int .i64 ((i + 1 : Nat) : Int))) (.add rfl rfl) (by show Value.int _ _ = Value.int _ _; congr 1)) (za rfl (zn ?_)))))); clear h; intro a w h
          exact ⟨i + 1, ⟨by omega, d + 1, p, ⟨by first | exact cnt_y hD hd | exact cnt_n hD hd, by first | exact cnt_y hC hp | exact cnt_n hC hp⟩, by exact h.sub sA⟩, by omega⟩
      · skip
        have h57 : ¬ chA s i ≤ 57 := by have := of_decide_eq_false hc20; omega
        have hD : isDg (chA s i) = false := by unfold isDg; simp only [Bool.and_eq_true, Bool.and_eq_false_iff, decide_eq_true_eq, decide_eq_false_iff_not]; omega
        refine gL h (zp (.pickT rfl rfl) (zn ?_)); clear h; intro a w h
        change Code.wp _ _ _ _ _
        refine cond_false h rfl ?_
        refine gC h (zk (zs (zr (zm rfl (zm rfl (zp (Pure1.cast (v' := .int .u8 ((chA s i : Nat) : Int)) (.index rfl rfl (fun _ => run_index_str Tryz.runUnderlying9 _ _ (by omega))) (by rfl)) (zp (.eql rfl rfl) ?_))))))); clear h; intro a w h
        refine by_bool h (fun hc27 h => ?_) (fun hc27 h => ?_)
        · skip
          have hC : isCt (chA s i) = true := by have := eq_of_beq hc27; unfold isCt; rw [decide_eq_true_eq]; omega
          refine wpList_nil ?_
          change Code.wp _ _ _ _ _
          refine cond_true h rfl ?_
          refine gC h (zr (zm rfl (zp (Pure1.cast (v' := (.int .i64 ((p + 1 : Nat) : Int))) (.add rfl rfl) (by show Value.int _ _ = Value.int _ _; congr 1)) (za rfl (zn (zr (zm rfl (zp (Pure1.cast (v' := (.int .i64 ((i + 1 : Nat) : Int))) (.add rfl rfl) (by show Value.int _ _ = Value.int _ _; congr 1)) (za rfl (zn ?_)))))))))); clear h; intro a w h
          exact ⟨i + 1, ⟨by omega, d, p + 1, ⟨by first | exact cnt_y hD hd | exact cnt_n hD hd, by first | exact cnt_y hC hp | exact cnt_n hC hp⟩, by exact h.sub sA⟩, by omega⟩
        · skip
          have hC : isCt (chA s i) = false := by unfold isCt; rw [decide_eq_false_iff_not]; intro e; rw [e] at hc27; exact absurd hc27 (by decide)
          refine wpList_nil ?_
          change Code.wp _ _ _ _ _
          refine cond_false h rfl ?_
          refine gC h (zk (zr (zm rfl (zp (Pure1.cast (v' := (.int .i64 ((i + 1 : Nat) : Int))) (.add rfl rfl) (by show Value.int _ _ = Value.int _ _; congr 1)) (za rfl (zn ?_)))))); clear h; intro a w h
          exact ⟨i + 1, ⟨by omega, d, p, ⟨by first | exact cnt_y hD hd | exact cnt_n hD hd, by first | exact cnt_y hC hp | exact cnt_n hC hp⟩, by exact h.sub sA⟩, by omega⟩
    · skip
      have h48 : ¬ 48 ≤ chA s i := by have := of_decide_eq_false hc15; omega
      have hD : isDg (chA s i) = false := by unfold isDg; simp only [Bool.and_eq_true, Bool.and_eq_false_iff, decide_eq_true_eq, decide_eq_false_iff_not]; omega
      refine gL h (zm rfl (zo 16 rfl rfl rfl (zo 16 rfl rfl rfl (zo 16 rfl rfl rfl (zo 16 rfl rfl rfl (zp (.pickF rfl rfl) (zn ?_))))))); clear h; intro a w h
      change Code.wp _ _ _ _ _
      refine cond_false h rfl ?_
      refine gC h (zk (zs (zr (zm rfl (zm rfl (zp (Pure1.cast (v' := .int .u8 ((chA s i : Nat) : Int)) (.index rfl rfl (fun _ => run_index_str Tryz.runUnderlying9 _ _ (by omega))) (by rfl)) (zp (.eql rfl rfl) ?_))))))); clear h; intro a w h
      refine by_bool h (fun hc27 h => ?_) (fun hc27 h => ?_)
      · skip
        have hC : isCt (chA s i) = true := by have := eq_of_beq hc27; unfold isCt; rw [decide_eq_true_eq]; omega
        refine wpList_nil ?_
        change Code.wp _ _ _ _ _
        refine cond_true h rfl ?_
        refine gC h (zr (zm rfl (zp (Pure1.cast (v' := (.int .i64 ((p + 1 : Nat) : Int))) (.add rfl rfl) (by show Value.int _ _ = Value.int _ _; congr 1)) (za rfl (zn (zr (zm rfl (zp (Pure1.cast (v' := (.int .i64 ((i + 1 : Nat) : Int))) (.add rfl rfl) (by show Value.int _ _ = Value.int _ _; congr 1)) (za rfl (zn ?_)))))))))); clear h; intro a w h
        exact ⟨i + 1, ⟨by omega, d, p + 1, ⟨by first | exact cnt_y hD hd | exact cnt_n hD hd, by first | exact cnt_y hC hp | exact cnt_n hC hp⟩, by exact h.sub sA⟩, by omega⟩
      · skip
        have hC : isCt (chA s i) = false := by unfold isCt; rw [decide_eq_false_iff_not]; intro e; rw [e] at hc27; exact absurd hc27 (by decide)
        refine wpList_nil ?_
        change Code.wp _ _ _ _ _
        refine cond_false h rfl ?_
        refine gC h (zk (zr (zm rfl (zp (Pure1.cast (v' := (.int .i64 ((i + 1 : Nat) : Int))) (.add rfl rfl) (by show Value.int _ _ = Value.int _ _; congr 1)) (za rfl (zn ?_)))))); clear h; intro a w h
        exact ⟨i + 1, ⟨by omega, d, p, ⟨by first | exact cnt_y hD hd | exact cnt_n hD hd, by first | exact cnt_y hC hp | exact cnt_n hC hp⟩, by exact h.sub sA⟩, by omega⟩
  · skip
    have heq_i : s.size = i := by have := of_decide_eq_false hc9; omega
    subst heq_i
    refine gC h (ze (zs (zr (zm rfl (zp (.gtr rfl rfl) ?_))))); clear h; intro a w h
    refine by_bool h (fun hc31 h => ?_) (fun hc31 h => ?_)
    · skip
      refine gL h (zm rfl (zo 32 rfl rfl rfl (zo 32 rfl rfl rfl (zp (.pickT rfl rfl) (za rfl (zn (zt ?_))))))); clear h; intro a w h
      refine retV h (results1 h rfl (.tmp rfl)) ?_
      refine congrArg Value.bool ?_
      unfold longB
      rw [← hd, ← hp, decide_eq_true (show 60 < d by have := of_decide_eq_true hc31; omega)]; rfl
    · skip
      refine gL h (zm rfl (zq 32 rfl rfl (.move rfl) (zq 32 rfl rfl (.gtr rfl rfl) (zp (.pickF rfl rfl) (za rfl (zn (zt ?_))))))); clear h; intro a w h
      refine retV h (results1 h rfl (.tmp rfl)) ?_
      refine congrArg Value.bool ?_
      unfold longB
      rw [← hd, ← hp, decide_eq_false (show ¬ 60 < d by have := of_decide_eq_false hc31; omega), Bool.false_or]
      exact decide_eq_decide.2 (by omega)
set_option maxHeartbeats 2000000 in
theorem C_ExprsFaults (s t : ByteArray) (hs : s.size ≤ 9223372036854775807) (ht : t.size ≤ 9223372036854775807) : CtrW Tryz.prog 3 [.string s, .string t] [] (.bool true) := by
  refine fn_intro Tryz.func3 rfl Tryz.ntmps3 nb ?_
  intro S w0 a hS h
  refine gC h (zs (zr (za rfl (zn (zs (zs (zr (zm rfl (zp (.builtin [_] rfl (len_string_9 _)) (zp (.gtr rfl rfl) ?_)))))))))); clear h; intro a w h
  refine by_bool h (fun hc13 h => ?_) (fun hc13 h => ?_)
  · skip
    skip
    refine gL h (zm rfl (zo 14 rfl rfl rfl (zo 14 rfl rfl rfl (zo 14 rfl rfl rfl (zp (.pickT rfl rfl) (zm rfl (zo 19 rfl rfl rfl (zo 19 rfl rfl rfl (zp (.pickT rfl rfl) (zm rfl (zo 23 rfl rfl rfl (zo 23 rfl rfl rfl (zp (.pickT rfl rfl) (zn ?_)))))))))))))); clear h; intro a w h
    change Code.wp _ _ _ _ _
    refine cond_true h rfl ?_
    refine gC h (zs (zr (zw [] rfl Tryz.call10 (C_works11) (za rfl (zn (zt ?_)))))); clear h; intro a w h
    refine retV h (results1 h rfl (.tmp rfl)) ?_
    rfl
  · skip
    have hs150 : s.size ≤ 150 := by have := of_decide_eq_false hc13; omega
    refine gL h (zm rfl (zq 14 rfl rfl (.move rfl) (zq 14 rfl rfl (.builtin [_] rfl (len_string_9 _)) (zq 14 rfl rfl (.gtr rfl rfl) ?_)))); clear h; intro a w h
    refine by_bool h (fun hc17 h => ?_) (fun hc17 h => ?_)
    · skip
      skip
      refine gL h (zp (.pickF rfl rfl) (zm rfl (zo 19 rfl rfl rfl (zo 19 rfl rfl rfl (zp (.pickT rfl rfl) (zm rfl (zo 23 rfl rfl rfl (zo 23 rfl rfl rfl (zp (.pickT rfl rfl) (zn ?_)))))))))); clear h; intro a w h
      change Code.wp _ _ _ _ _
      refine cond_true h rfl ?_
      refine gC h (zs (zr (zw [] rfl Tryz.call10 (C_works11) (za rfl (zn (zt ?_)))))); clear h; intro a w h
      refine retV h (results1 h rfl (.tmp rfl)) ?_
      rfl
    · skip
      have ht150 : t.size ≤ 150 := by have := of_decide_eq_false hc17; omega
      refine gL h (zp (.pickF rfl rfl) (zm rfl (zq 19 rfl rfl (.move rfl) ?_))); clear h; intro a w h
      refine wpl_guard 19 h rfl rfl (op_callV h (vs := [_]) rfl Tryz.call9 (C_longE s (by omega)) (by decide) ?_); clear h; intro a w h
      refine by_bool h (fun hc21 h => ?_) (fun hc21 h => ?_)
      · skip
        refine gL h (zp (.pickF rfl rfl) (zm rfl (zo 23 rfl rfl rfl (zo 23 rfl rfl rfl (zp (.pickT rfl rfl) (zn ?_)))))); clear h; intro a w h
        change Code.wp _ _ _ _ _
        refine cond_true h rfl ?_
        refine gC h (zs (zr (zw [] rfl Tryz.call10 (C_works11) (za rfl (zn (zt ?_)))))); clear h; intro a w h
        refine retV h (results1 h rfl (.tmp rfl)) ?_
        rfl
      · skip
        refine gL h (zp (.pickF rfl rfl) (zm rfl (zq 23 rfl rfl (.move rfl) ?_))); clear h; intro a w h
        refine wpl_guard 23 h rfl rfl (op_callV h (vs := [_]) rfl Tryz.call9 (C_longE t (by omega)) (by decide) ?_); clear h; intro a w h
        refine by_bool h (fun hc25 h => ?_) (fun hc25 h => ?_)
        · skip
          refine gL h (zp (.pickF rfl rfl) (zn ?_)); clear h; intro a w h
          change Code.wp _ _ _ _ _
          refine cond_true h rfl ?_
          refine gC h (zs (zr (zw [] rfl Tryz.call10 (C_works11) (za rfl (zn (zt ?_)))))); clear h; intro a w h
          refine retV h (results1 h rfl (.tmp rfl)) ?_
          rfl
        · skip
          refine gL h (zp (.pickF rfl rfl) (zn ?_)); clear h; intro a w h
          change Code.wp _ _ _ _ _
          refine cond_false h rfl ?_
          refine gC h (zk (zs (zr (zm rfl (zf [_] rfl Tryz.call11 (C_ParseX s (by omega)) ?_))))); clear h; rintro v30 Ψ30 ⟨ad30, c30, rfl, rfl⟩ a w h
          refine gL h (zm rfl (zp (.extract rfl (fun _ => rfl)) (zp (.extract rfl (fun _ => rfl)) (zz zeroFa fun b6 => za rfl (zt' rfl rfl (st_2_0_2 _ _ _ _) uu Tryz.sizeOf28 rfl nb rfl ?_))))); clear h; intro a w h
          refine gL h (zn (zs (zs (zr (zp (.fieldAddr rfl (fa_28_0 _ _)) (zd rfl mr Tryz.isAgg26 Tryz.sizeOf26 (rs_2_0 _ _) ?_)))))); clear h; intro a w h
          refine gL h (zp (.eql rfl rfl) ?_); clear h; intro a w h
          refine by_bool h (fun hc35 h => ?_) (fun hc35 h => ?_)
          · skip
            have hE0 : rE s = 0 := eq_of_beq hc35
            have hI0 : rI s = 0 := by
              rcases parse_two s with h1 | h1
              · exact h1.2
              · exfalso; have := h1.2.2.1; unfold Cod at this; omega
            refine wpList_nil ?_
            change Code.wp _ _ _ _ _
            refine cond_true h rfl ?_
            refine gC h (zs (zr (zp (.fieldAddr rfl (fa_28_1 _ _)) (zd rfl mr Tryz.isAgg3 Tryz.sizeOf3 (rs_2_1 _ _) ?_)))); clear h; intro a w h
            refine gL h (zp (.eql rfl rfl) ?_); clear h; intro a w h
            refine by_bool h (fun hc38 h => ?_) (fun hc38 h => (by exfalso; rw [hI0] at hc38; exact absurd hc38 (by decide)))
            refine gL h (zm rfl ?_); clear h; intro a w h
            refine wpl_guard 39 h rfl rfl (op_callW h (vs := []) rfl Tryz.call10 (C_works11) (by simp) (by decide) ?_); clear h; intro a w h
            refine gL h (zp (.pickT rfl rfl) (za rfl (zn (zt ?_)))); clear h; intro a w h
            refine retV h (results1 h rfl (.tmp rfl)) ?_
            rfl
          · skip
            have hE0 : rE s ≠ 0 := fun e => by rw [e] at hc35; exact absurd hc35 (by decide)
            obtain ⟨hpE, hpN, hcod, hile⟩ : parseE s = .error (rE s, rI s) ∧ rP s = [] ∧ Cod (rE s) ∧ rI s ≤ s.size := (parse_two s).resolve_left (fun h => hE0 h.1)
            refine wpList_nil ?_
            change Code.wp _ _ _ _ _
            refine cond_false h rfl ?_
            refine gC h (zk (zs (zs (zr (zm rfl (zp (.builtin [_] rfl (len_slice_25 _ _ _)) (zp (.neq rfl rfl) ?_))))))); clear h; intro a w h
            refine by_bool h (fun hc44 h => (by exfalso; rw [hpN] at hc44; exact absurd hc44 (by decide))) (fun hc44 h => ?_)
            refine gL h (zm rfl (zq 45 rfl rfl (.fieldAddr rfl (fa_28_1 _ _)) ?_)); clear h; intro a w h
            refine wpl_guard 45 h rfl rfl (op_load h rfl mr Tryz.isAgg3 Tryz.sizeOf3 (rs_2_1 _ _) (by decide) ?_); clear h; intro a h
            refine gL h (zq 45 rfl rfl (.lss rfl rfl) ?_); clear h; intro a w h
            refine by_bool h (fun hc48 h => (by exfalso; have := of_decide_eq_true hc48; omega)) (fun hc48 h => ?_)
            refine gL h (zp (.pickF rfl rfl) (zm rfl (zq 50 rfl rfl (.fieldAddr rfl (fa_28_1 _ _)) ?_))); clear h; intro a w h
            refine wpl_guard 50 h rfl rfl (op_load h rfl mr Tryz.isAgg3 Tryz.sizeOf3 (rs_2_1 _ _) (by decide) ?_); clear h; intro a h
            refine gL h (zq 50 rfl rfl (.move rfl) (zq 50 rfl rfl (.builtin [_] rfl (len_string_9 _)) (zq 50 rfl rfl (.gtr rfl rfl) ?_))); clear h; intro a w h
            refine by_bool h (fun hc55 h => (by exfalso; have := of_decide_eq_true hc55; omega)) (fun hc55 h => ?_)
            refine gL h (zp (.pickF rfl rfl) (zn ?_)); clear h; intro a w h
            change Code.wp _ _ _ _ _
            refine cond_false h rfl ?_
            refine gC h (zk (zs (zs (zr (zp (.fieldAddr rfl (fa_28_0 _ _)) (zd rfl mr Tryz.isAgg26 Tryz.sizeOf26 (rs_2_0 _ _) ?_)))))); clear h; intro a w h
            refine gL h (zp (.eql rfl rfl) ?_); clear h; intro a w h
            refine by_bool h (fun hc59 h => ?_) (fun hc59 h => ?_)
            · skip
              skip
              refine gL h (zm rfl (zo 60 rfl rfl rfl (zo 60 rfl rfl rfl (zo 60 rfl rfl rfl (zo 60 rfl rfl rfl (zo 60 rfl rfl rfl (zp (.pickT rfl rfl) (zm rfl (zo 67 rfl rfl rfl (zo 67 rfl rfl rfl (zo 67 rfl rfl rfl (zo 67 rfl rfl rfl (zo 67 rfl rfl rfl (zp (.pickT rfl rfl) (zm rfl (zo 74 rfl rfl rfl (zo 74 rfl rfl rfl (zo 74 rfl rfl rfl (zo 74 rfl rfl rfl (zu 78 rfl rfl (zu 78 rfl rfl (zu 78 rfl rfl (zu 78 rfl rfl (zu 78 rfl rfl (zo 74 rfl rfl rfl (zp (.pickT rfl rfl) (zn ?_))))))))))))))))))))))))))); clear h; intro a w h
              change Code.wp _ _ _ _ _
              refine cond_true h rfl ?_
              refine gC h (zs (zr (zw [] rfl Tryz.call10 (C_works11) (za rfl (zn (zt ?_)))))); clear h; intro a w h
              refine retV h (results1 h rfl (.tmp rfl)) ?_
              rfl
            · skip
              have h9 : rE s ≠ 9 := fun e => by rw [e] at hc59; exact absurd hc59 (by decide)
              refine gL h (zm rfl (zq 60 rfl rfl (.fieldAddr rfl (fa_28_1 _ _)) ?_)); clear h; intro a w h
              refine wpl_guard 60 h rfl rfl (op_load h rfl mr Tryz.isAgg3 Tryz.sizeOf3 (rs_2_1 _ _) (by decide) ?_); clear h; intro a h
              refine gL h (zq 60 rfl rfl (.move rfl) (zq 60 rfl rfl (.builtin [_] rfl (len_string_9 _)) (zq 60 rfl rfl (.eql rfl rfl) ?_))); clear h; intro a w h
              refine by_bool h (fun hc65 h => ?_) (fun hc65 h => ?_)
              · skip
                skip
                refine gL h (zp (.pickF rfl rfl) (zm rfl (zo 67 rfl rfl rfl (zo 67 rfl rfl rfl (zo 67 rfl rfl rfl (zo 67 rfl rfl rfl (zo 67 rfl rfl rfl (zp (.pickT rfl rfl) (zm rfl (zo 74 rfl rfl rfl (zo 74 rfl rfl rfl (zo 74 rfl rfl rfl (zo 74 rfl rfl rfl (zu 78 rfl rfl (zu 78 rfl rfl (zu 78 rfl rfl (zu 78 rfl rfl (zu 78 rfl rfl (zo 74 rfl rfl rfl (zp (.pickT rfl rfl) (zn ?_))))))))))))))))))))); clear h; intro a w h
                change Code.wp _ _ _ _ _
                refine cond_true h rfl ?_
                refine gC h (zs (zr (zw [] rfl Tryz.call10 (C_works11) (za rfl (zn (zt ?_)))))); clear h; intro a w h
                refine retV h (results1 h rfl (.tmp rfl)) ?_
                rfl
              · skip
                have hlt : rI s < s.size := by
                  have : rI s ≠ s.size := fun e => by rw [e] at hc65; simp at hc65
                  omega
                refine gL h (zp (.pickF rfl rfl) (zm rfl (zq 67 rfl rfl (.move rfl) (zq 67 rfl rfl (.fieldAddr rfl (fa_28_1 _ _)) ?_)))); clear h; intro a w h
                refine wpl_guard 67 h rfl rfl (op_load h rfl mr Tryz.isAgg3 Tryz.sizeOf3 (rs_2_1 _ _) (by decide) ?_); clear h; intro a h
                refine gL h (zq 67 rfl rfl (Pure1.cast (v' := .int .u8 ((chA s (rI s) : Nat) : Int)) (.index rfl rfl (fun _ => run_index_str Tryz.runUnderlying9 _ _ (by omega))) (by rfl)) (zq 67 rfl rfl (.eql rfl rfl) ?_)); clear h; intro a w h
                refine by_bool h (fun hc72 h => ?_) (fun hc72 h => ?_)
                · skip
                  skip
                  refine gL h (zp (.pickF rfl rfl) (zm rfl (zo 74 rfl rfl rfl (zo 74 rfl rfl rfl (zo 74 rfl rfl rfl (zo 74 rfl rfl rfl (zu 78 rfl rfl (zu 78 rfl rfl (zu 78 rfl rfl (zu 78 rfl rfl (zu 78 rfl rfl (zo 74 rfl rfl rfl (zp (.pickT rfl rfl) (zn ?_)))))))))))))); clear h; intro a w h
                  change Code.wp _ _ _ _ _
                  refine cond_true h rfl ?_
                  refine gC h (zs (zr (zw [] rfl Tryz.call10 (C_works11) (za rfl (zn (zt ?_)))))); clear h; intro a w h
                  refine retV h (results1 h rfl (.tmp rfl)) ?_
                  rfl
                · skip
                  have hnb : chA s (rI s) ≠ 32 := fun e => by rw [e] at hc72; exact absurd hc72 (by decide)
                  refine gL h (zp (.pickF rfl rfl) (zm rfl (zq 74 rfl rfl (.fieldAddr rfl (fa_28_0 _ _)) ?_))); clear h; intro a w h
                  refine wpl_guard 74 h rfl rfl (op_load h rfl mr Tryz.isAgg26 Tryz.sizeOf26 (rs_2_0 _ _) (by decide) ?_); clear h; intro a h
                  refine gL h (zq 74 rfl rfl (.eql rfl rfl) ?_); clear h; intro a w h
                  refine by_bool h (fun hc77 h => ?_) (fun hc77 h => ?_)
                  · skip
                    have h3 : rE s = 3 := eq_of_beq hc77
                    refine gL h (zq 74 rfl rfl (.move rfl) (zq 78 rfl rfl (.move rfl) (zq 78 rfl rfl (.fieldAddr rfl (fa_28_1 _ _)) ?_))); clear h; intro a w h
                    refine wpl_guard 78 h rfl rfl (op_load h rfl mr Tryz.isAgg3 Tryz.sizeOf3 (rs_2_1 _ _) (by decide) ?_); clear h; intro a h
                    refine gL h (zq 78 rfl rfl (Pure1.cast (v' := .int .u8 ((chA s (rI s) : Nat) : Int)) (.index rfl rfl (fun _ => run_index_str Tryz.runUnderlying9 _ _ (by omega))) (by rfl)) (zq 78 rfl rfl (.neq rfl rfl) ?_)); clear h; intro a w h
                    refine by_bool h (fun hc83 h => ?_) (fun hc83 h => ?_)
                    · skip
                      skip
                      refine gL h (zq 74 rfl rfl (.pickT rfl rfl) (zp (.pickF rfl rfl) (zn ?_))); clear h; intro a w h
                      change Code.wp _ _ _ _ _
                      refine cond_true h rfl ?_
                      refine gC h (zs (zr (zw [] rfl Tryz.call10 (C_works11) (za rfl (zn (zt ?_)))))); clear h; intro a w h
                      refine retV h (results1 h rfl (.tmp rfl)) ?_
                      rfl
                    · skip
                      have hInc : Inc s (rI s) (rE s) := by
                        unfold Cod at hcod; unfold Inc; have h40 : chA s (rI s) = 40 := by simp at hc83; omega
                        omega
                      refine gL h (zq 74 rfl rfl (.pickT rfl rfl) (zp (.pickF rfl rfl) (zn ?_))); clear h; intro a w h
                      change Code.wp _ _ _ _ _
                      refine cond_false h rfl ?_
                      refine gC h (zk (zs (zr (zm rfl (zp (.fieldAddr rfl (fa_28_1 _ _)) (zd rfl mr Tryz.isAgg3 Tryz.sizeOf3 (rs_2_1 _ _) ?_)))))); clear h; intro a w h
                      refine gL h (zp (Pure1.cast (v' := (.int .i64 (((rI s) + 1 : Nat) : Int))) (.add rfl rfl) (by show Value.int _ _ = Value.int _ _; congr 1)) (zp (Pure1.cast (v' := .string (cutS s t (rI s) 0)) (.slice rfl none (some _) none rfl rfl rfl (slh_9 _ _ (by omega))) (by rfl)) (za rfl (zn (zs (zs (zr (za rfl (zn (zb ?_)))))))))); clear h; intro a w h
                      refine wp_loop_inv (fun (i : Nat) a w => i ≤ 2 ∧ St 122 S w0 [(1, .string t), (6, .pointer (some ⟨b6, 0, none⟩)), (7, .string (cutS s t (rI s) i)), (8, .int .i64 ((i : Nat) : Int))] [(b6, .cells (Value.cells (encFa ((rE s, ((rI s : Nat) : Int))))) 28 (0, 0))] [Row ad30 (cellsOf encT (rP s))] a w) (fun i => 2 - i) 0 (⟨Nat.zero_le _, by exact (h).sub (subL ⟨rfl, rfl, rfl, rfl, trivial⟩)⟩) ?_; clear h
                      rintro i a w ⟨hi_i, h⟩
                      refine gC h (zs (zs (zr (zm rfl (zp (.lss rfl rfl) (zn ?_)))))); clear h; intro a w h
                      change Code.wp _ _ _ _ _
                      refine cond_split h rfl (fun hc93 => ?_) (fun hc93 => ?_)
                      · skip
                        have hlt_i : i < 2 := by have := of_decide_eq_true hc93; omega
                        refine gC h (zk (zs (zb (zs (zr (zm rfl (zf [_] rfl Tryz.call11 (C_ParseX (cutS s t (rI s) i) (by have := (cutS_ok (t := t) hlt i).1; have := Nat.mul_le_mul (show i ≤ 2 by omega) (show 1 + t.size ≤ 151 by omega); omega)) ?_))))))); clear h; rintro v98 Ψ98 ⟨ad98, c98, rfl, rfl⟩ a w h
                        have hcp : parseE (cutS s t (rI s) i) = .error (rE s, rI s) := cut_parse (by omega) (by omega) hpE hlt hnb hInc (by omega)
                        obtain ⟨hk1, hk2, hk3⟩ := res_err hcp
                        refine gL h (zm rfl (zp (.extract rfl (fun _ => rfl)) (zp (.extract rfl (fun _ => rfl)) (zz zeroFa fun b10 => za rfl (zt' rfl rfl (st_2_0_2 _ _ _ _) uu Tryz.sizeOf28 rfl nb rfl ?_))))); clear h; intro a w h
                        refine gL h (zn (zs (zs (zr (zp (.fieldAddr rfl (fa_28_0 _ _)) (zd rfl mr Tryz.isAgg26 Tryz.sizeOf26 (rs_2_0 _ _) ?_)))))); clear h; intro a w h
                        refine gL h (zp (.eql rfl rfl) ?_); clear h; intro a w h
                        refine by_bool h (fun hc103 h => ?_) (fun hc103 h => ?_)
                        · skip
                          refine gL h (zm rfl ?_); clear h; intro a w h
                          refine wpl_guard 104 h rfl rfl (op_load h rfl mr Tryz.isAgg28 Tryz.sizeOf28 (rd_2_0_2 _ _) (by decide) ?_); clear h; intro a h
                          refine wpl_guard 104 h rfl rfl (op_load h rfl mr Tryz.isAgg28 Tryz.sizeOf28 (rd_2_0_2 _ _) (by decide) ?_); clear h; intro a h
                          refine gL h (zq 104 rfl rfl (.binOp rfl rfl (fun _ => run_neFa _ _ ((rE (cutS s t (rI s) i), ((rI (cutS s t (rI s) i) : Nat) : Int))) ((rE s, ((rI s : Nat) : Int))) _)) ?_); clear h; intro a w h
                          refine by_bool h (fun hc107 h => (by exfalso; rw [hk2, hk3] at hc107; exact absurd hc107 (by simp))) (fun hc107 h => ?_)
                          refine gL h (zp (.pickT rfl rfl) (zn ?_)); clear h; intro a w h
                          change Code.wp _ _ _ _ _
                          refine cond_false h rfl ?_
                          refine gC h (zk (zs (zs (zr (zp (.fieldAddr rfl (fa_28_0 _ _)) (zd rfl mr Tryz.isAgg26 Tryz.sizeOf26 (rs_2_0 _ _) ?_)))))); clear h; intro a w h
                          refine gL h (zp (.neq rfl rfl) ?_); clear h; intro a w h
                          refine by_bool h (fun hc111 h => ?_) (fun hc111 h => ?_)
                          · skip
                            refine gL h (zm rfl ?_); clear h; intro a w h
                            refine wpl_guard 112 h rfl rfl (op_load h rfl mr Tryz.isAgg28 Tryz.sizeOf28 (rd_2_0_2 _ _) (by decide) ?_); clear h; intro a h
                            refine wpl_guard 112 h rfl rfl (op_load h rfl mr Tryz.isAgg28 Tryz.sizeOf28 (rd_2_0_2 _ _) (by decide) ?_); clear h; intro a h
                            refine gL h (zq 112 rfl rfl (.binOp rfl rfl (fun _ => run_neFa _ _ ((rE (cutS s t (rI s) i), ((rI (cutS s t (rI s) i) : Nat) : Int))) ((rE s, ((rI s : Nat) : Int))) _)) ?_); clear h; intro a w h
                            refine by_bool h (fun hc115 h => (by exfalso; rw [hk2, hk3] at hc115; exact absurd hc115 (by simp))) (fun hc115 h => ?_)
                            refine gL h (zp (.pickT rfl rfl) (zn ?_)); clear h; intro a w h
                            change Code.wp _ _ _ _ _
                            refine cond_false h rfl ?_
                            refine gC h (zk (zr (zm rfl (zp (.binOp rfl rfl (fun _ => run_sadd _ _ _ _ _ (by simp only [ByteArray.size_append, show (⟨#[43]⟩ : ByteArray).size = 1 from rfl]; have := (cutS_ok (t := t) hlt i).1; have := Nat.mul_le_mul (show i ≤ 2 by omega) (show 1 + t.size ≤ 151 by omega); omega))) (zm rfl (zp (.binOp rfl rfl (fun _ => run_sadd _ _ _ _ _ (by simp only [ByteArray.size_append, show (⟨#[43]⟩ : ByteArray).size = 1 from rfl]; have := (cutS_ok (t := t) hlt i).1; have := Nat.mul_le_mul (show i ≤ 2 by omega) (show 1 + t.size ≤ 151 by omega); omega))) (za rfl (zn (zr (zm rfl (zp (Pure1.cast (v' := (.int .i64 ((i + 1 : Nat) : Int))) (.add rfl rfl) (by show Value.int _ _ = Value.int _ _; congr 1)) (za rfl (zn ?_))))))))))))); clear h; intro a w h
                            exact ⟨i + 1, ⟨by omega, ((h.drop sl).factsSub (by simp)).sub sA⟩, by omega⟩
                          · skip
                            refine gL h (zm rfl (zo 112 rfl rfl rfl (zo 112 rfl rfl rfl (zo 112 rfl rfl rfl (zp (.pickF rfl rfl) (zn ?_)))))); clear h; intro a w h
                            change Code.wp _ _ _ _ _
                            refine cond_false h rfl ?_
                            refine gC h (zk (zr (zm rfl (zp (.binOp rfl rfl (fun _ => run_sadd _ _ _ _ _ (by simp only [ByteArray.size_append, show (⟨#[43]⟩ : ByteArray).size = 1 from rfl]; have := (cutS_ok (t := t) hlt i).1; have := Nat.mul_le_mul (show i ≤ 2 by omega) (show 1 + t.size ≤ 151 by omega); omega))) (zm rfl (zp (.binOp rfl rfl (fun _ => run_sadd _ _ _ _ _ (by simp only [ByteArray.size_append, show (⟨#[43]⟩ : ByteArray).size = 1 from rfl]; have := (cutS_ok (t := t) hlt i).1; have := Nat.mul_le_mul (show i ≤ 2 by omega) (show 1 + t.size ≤ 151 by omega); omega))) (za rfl (zn (zr (zm rfl (zp (Pure1.cast (v' := (.int .i64 ((i + 1 : Nat) : Int))) (.add rfl rfl) (by show Value.int _ _ = Value.int _ _; congr 1)) (za rfl (zn ?_))))))))))))); clear h; intro a w h
                            exact ⟨i + 1, ⟨by omega, ((h.drop sl).factsSub (by simp)).sub sA⟩, by omega⟩
                        · skip
                          refine gL h (zm rfl (zo 104 rfl rfl rfl (zo 104 rfl rfl rfl (zo 104 rfl rfl rfl (zp (.pickF rfl rfl) (zn ?_)))))); clear h; intro a w h
                          change Code.wp _ _ _ _ _
                          refine cond_false h rfl ?_
                          refine gC h (zk (zs (zs (zr (zp (.fieldAddr rfl (fa_28_0 _ _)) (zd rfl mr Tryz.isAgg26 Tryz.sizeOf26 (rs_2_0 _ _) ?_)))))); clear h; intro a w h
                          refine gL h (zp (.neq rfl rfl) ?_); clear h; intro a w h
                          refine by_bool h (fun hc111 h => ?_) (fun hc111 h => ?_)
                          · skip
                            refine gL h (zm rfl ?_); clear h; intro a w h
                            refine wpl_guard 112 h rfl rfl (op_load h rfl mr Tryz.isAgg28 Tryz.sizeOf28 (rd_2_0_2 _ _) (by decide) ?_); clear h; intro a h
                            refine wpl_guard 112 h rfl rfl (op_load h rfl mr Tryz.isAgg28 Tryz.sizeOf28 (rd_2_0_2 _ _) (by decide) ?_); clear h; intro a h
                            refine gL h (zq 112 rfl rfl (.binOp rfl rfl (fun _ => run_neFa _ _ ((rE (cutS s t (rI s) i), ((rI (cutS s t (rI s) i) : Nat) : Int))) ((rE s, ((rI s : Nat) : Int))) _)) ?_); clear h; intro a w h
                            refine by_bool h (fun hc115 h => (by exfalso; rw [hk2, hk3] at hc115; exact absurd hc115 (by simp))) (fun hc115 h => ?_)
                            refine gL h (zp (.pickT rfl rfl) (zn ?_)); clear h; intro a w h
                            change Code.wp _ _ _ _ _
                            refine cond_false h rfl ?_
                            refine gC h (zk (zr (zm rfl (zp (.binOp rfl rfl (fun _ => run_sadd _ _ _ _ _ (by simp only [ByteArray.size_append, show (⟨#[43]⟩ : ByteArray).size = 1 from rfl]; have := (cutS_ok (t := t) hlt i).1; have := Nat.mul_le_mul (show i ≤ 2 by omega) (show 1 + t.size ≤ 151 by omega); omega))) (zm rfl (zp (.binOp rfl rfl (fun _ => run_sadd _ _ _ _ _ (by simp only [ByteArray.size_append, show (⟨#[43]⟩ : ByteArray).size = 1 from rfl]; have := (cutS_ok (t := t) hlt i).1; have := Nat.mul_le_mul (show i ≤ 2 by omega) (show 1 + t.size ≤ 151 by omega); omega))) (za rfl (zn (zr (zm rfl (zp (Pure1.cast (v' := (.int .i64 ((i + 1 : Nat) : Int))) (.add rfl rfl) (by show Value.int _ _ = Value.int _ _; congr 1)) (za rfl (zn ?_))))))))))))); clear h; intro a w h
                            exact ⟨i + 1, ⟨by omega, ((h.drop sl).factsSub (by simp)).sub sA⟩, by omega⟩
                          · skip
                            refine gL h (zm rfl (zo 112 rfl rfl rfl (zo 112 rfl rfl rfl (zo 112 rfl rfl rfl (zp (.pickF rfl rfl) (zn ?_)))))); clear h; intro a w h
                            change Code.wp _ _ _ _ _
                            refine cond_false h rfl ?_
                            refine gC h (zk (zr (zm rfl (zp (.binOp rfl rfl (fun _ => run_sadd _ _ _ _ _ (by simp only [ByteArray.size_append, show (⟨#[43]⟩ : ByteArray).size = 1 from rfl]; have := (cutS_ok (t := t) hlt i).1; have := Nat.mul_le_mul (show i ≤ 2 by omega) (show 1 + t.size ≤ 151 by omega); omega))) (zm rfl (zp (.binOp rfl rfl (fun _ => run_sadd _ _ _ _ _ (by simp only [ByteArray.size_append, show (⟨#[43]⟩ : ByteArray).size = 1 from rfl]; have := (cutS_ok (t := t) hlt i).1; have := Nat.mul_le_mul (show i ≤ 2 by omega) (show 1 + t.size ≤ 151 by omega); omega))) (za rfl (zn (zr (zm rfl (zp (Pure1.cast (v' := (.int .i64 ((i + 1 : Nat) : Int))) (.add rfl rfl) (by show Value.int _ _ = Value.int _ _; congr 1)) (za rfl (zn ?_))))))))))))); clear h; intro a w h
                            exact ⟨i + 1, ⟨by omega, ((h.drop sl).factsSub (by simp)).sub sA⟩, by omega⟩
                      · skip
                        have heq_i : 2 = i := by have := of_decide_eq_false hc93; omega
                        subst heq_i
                        refine gC h (ze (zs (zr (zw [] rfl Tryz.call10 (C_works11) (za rfl (zn (zt ?_))))))); clear h; intro a w h
                        refine retV h (results1 h rfl (.tmp rfl)) ?_
                        rfl
                  · skip
                    have h3 : rE s ≠ 3 := fun e => by rw [e] at hc77; exact absurd hc77 (by decide)
                    have hInc : Inc s (rI s) (rE s) := by
                      unfold Cod at hcod; unfold Inc; omega
                    refine gL h (zq 74 rfl rfl (.move rfl) (zo 78 rfl rfl rfl (zo 78 rfl rfl rfl (zo 78 rfl rfl rfl (zo 78 rfl rfl rfl (zo 78 rfl rfl rfl (zq 74 rfl rfl (.pickF rfl rfl) (zp (.pickF rfl rfl) (zn ?_))))))))); clear h; intro a w h
                    change Code.wp _ _ _ _ _
                    refine cond_false h rfl ?_
                    refine gC h (zk (zs (zr (zm rfl (zp (.fieldAddr rfl (fa_28_1 _ _)) (zd rfl mr Tryz.isAgg3 Tryz.sizeOf3 (rs_2_1 _ _) ?_)))))); clear h; intro a w h
                    refine gL h (zp (Pure1.cast (v' := (.int .i64 (((rI s) + 1 : Nat) : Int))) (.add rfl rfl) (by show Value.int _ _ = Value.int _ _; congr 1)) (zp (Pure1.cast (v' := .string (cutS s t (rI s) 0)) (.slice rfl none (some _) none rfl rfl rfl (slh_9 _ _ (by omega))) (by rfl)) (za rfl (zn (zs (zs (zr (za rfl (zn (zb ?_)))))))))); clear h; intro a w h
                    refine wp_loop_inv (fun (i : Nat) a w => i ≤ 2 ∧ St 122 S w0 [(1, .string t), (6, .pointer (some ⟨b6, 0, none⟩)), (7, .string (cutS s t (rI s) i)), (8, .int .i64 ((i : Nat) : Int))] [(b6, .cells (Value.cells (encFa ((rE s, ((rI s : Nat) : Int))))) 28 (0, 0))] [Row ad30 (cellsOf encT (rP s))] a w) (fun i => 2 - i) 0 (⟨Nat.zero_le _, by exact (h).sub (subL ⟨rfl, rfl, rfl, rfl, trivial⟩)⟩) ?_; clear h
                    rintro i a w ⟨hi_i, h⟩
                    refine gC h (zs (zs (zr (zm rfl (zp (.lss rfl rfl) (zn ?_)))))); clear h; intro a w h
                    change Code.wp _ _ _ _ _
                    refine cond_split h rfl (fun hc93 => ?_) (fun hc93 => ?_)
                    · skip
                      have hlt_i : i < 2 := by have := of_decide_eq_true hc93; omega
                      refine gC h (zk (zs (zb (zs (zr (zm rfl (zf [_] rfl Tryz.call11 (C_ParseX (cutS s t (rI s) i) (by have := (cutS_ok (t := t) hlt i).1; have := Nat.mul_le_mul (show i ≤ 2 by omega) (show 1 + t.size ≤ 151 by omega); omega)) ?_))))))); clear h; rintro v98 Ψ98 ⟨ad98, c98, rfl, rfl⟩ a w h
                      have hcp : parseE (cutS s t (rI s) i) = .error (rE s, rI s) := cut_parse (by omega) (by omega) hpE hlt hnb hInc (by omega)
                      obtain ⟨hk1, hk2, hk3⟩ := res_err hcp
                      refine gL h (zm rfl (zp (.extract rfl (fun _ => rfl)) (zp (.extract rfl (fun _ => rfl)) (zz zeroFa fun b10 => za rfl (zt' rfl rfl (st_2_0_2 _ _ _ _) uu Tryz.sizeOf28 rfl nb rfl ?_))))); clear h; intro a w h
                      refine gL h (zn (zs (zs (zr (zp (.fieldAddr rfl (fa_28_0 _ _)) (zd rfl mr Tryz.isAgg26 Tryz.sizeOf26 (rs_2_0 _ _) ?_)))))); clear h; intro a w h
                      refine gL h (zp (.eql rfl rfl) ?_); clear h; intro a w h
                      refine by_bool h (fun hc103 h => ?_) (fun hc103 h => ?_)
                      · skip
                        refine gL h (zm rfl ?_); clear h; intro a w h
                        refine wpl_guard 104 h rfl rfl (op_load h rfl mr Tryz.isAgg28 Tryz.sizeOf28 (rd_2_0_2 _ _) (by decide) ?_); clear h; intro a h
                        refine wpl_guard 104 h rfl rfl (op_load h rfl mr Tryz.isAgg28 Tryz.sizeOf28 (rd_2_0_2 _ _) (by decide) ?_); clear h; intro a h
                        refine gL h (zq 104 rfl rfl (.binOp rfl rfl (fun _ => run_neFa _ _ ((rE (cutS s t (rI s) i), ((rI (cutS s t (rI s) i) : Nat) : Int))) ((rE s, ((rI s : Nat) : Int))) _)) ?_); clear h; intro a w h
                        refine by_bool h (fun hc107 h => (by exfalso; rw [hk2, hk3] at hc107; exact absurd hc107 (by simp))) (fun hc107 h => ?_)
                        refine gL h (zp (.pickT rfl rfl) (zn ?_)); clear h; intro a w h
                        change Code.wp _ _ _ _ _
                        refine cond_false h rfl ?_
                        refine gC h (zk (zs (zs (zr (zp (.fieldAddr rfl (fa_28_0 _ _)) (zd rfl mr Tryz.isAgg26 Tryz.sizeOf26 (rs_2_0 _ _) ?_)))))); clear h; intro a w h
                        refine gL h (zp (.neq rfl rfl) ?_); clear h; intro a w h
                        refine by_bool h (fun hc111 h => ?_) (fun hc111 h => ?_)
                        · skip
                          refine gL h (zm rfl ?_); clear h; intro a w h
                          refine wpl_guard 112 h rfl rfl (op_load h rfl mr Tryz.isAgg28 Tryz.sizeOf28 (rd_2_0_2 _ _) (by decide) ?_); clear h; intro a h
                          refine wpl_guard 112 h rfl rfl (op_load h rfl mr Tryz.isAgg28 Tryz.sizeOf28 (rd_2_0_2 _ _) (by decide) ?_); clear h; intro a h
                          refine gL h (zq 112 rfl rfl (.binOp rfl rfl (fun _ => run_neFa _ _ ((rE (cutS s t (rI s) i), ((rI (cutS s t (rI s) i) : Nat) : Int))) ((rE s, ((rI s : Nat) : Int))) _)) ?_); clear h; intro a w h
                          refine by_bool h (fun hc115 h => (by exfalso; rw [hk2, hk3] at hc115; exact absurd hc115 (by simp))) (fun hc115 h => ?_)
                          refine gL h (zp (.pickT rfl rfl) (zn ?_)); clear h; intro a w h
                          change Code.wp _ _ _ _ _
                          refine cond_false h rfl ?_
                          refine gC h (zk (zr (zm rfl (zp (.binOp rfl rfl (fun _ => run_sadd _ _ _ _ _ (by simp only [ByteArray.size_append, show (⟨#[43]⟩ : ByteArray).size = 1 from rfl]; have := (cutS_ok (t := t) hlt i).1; have := Nat.mul_le_mul (show i ≤ 2 by omega) (show 1 + t.size ≤ 151 by omega); omega))) (zm rfl (zp (.binOp rfl rfl (fun _ => run_sadd _ _ _ _ _ (by simp only [ByteArray.size_append, show (⟨#[43]⟩ : ByteArray).size = 1 from rfl]; have := (cutS_ok (t := t) hlt i).1; have := Nat.mul_le_mul (show i ≤ 2 by omega) (show 1 + t.size ≤ 151 by omega); omega))) (za rfl (zn (zr (zm rfl (zp (Pure1.cast (v' := (.int .i64 ((i + 1 : Nat) : Int))) (.add rfl rfl) (by show Value.int _ _ = Value.int _ _; congr 1)) (za rfl (zn ?_))))))))))))); clear h; intro a w h
                          exact ⟨i + 1, ⟨by omega, ((h.drop sl).factsSub (by simp)).sub sA⟩, by omega⟩
                        · skip
                          refine gL h (zm rfl (zo 112 rfl rfl rfl (zo 112 rfl rfl rfl (zo 112 rfl rfl rfl (zp (.pickF rfl rfl) (zn ?_)))))); clear h; intro a w h
                          change Code.wp _ _ _ _ _
                          refine cond_false h rfl ?_
                          refine gC h (zk (zr (zm rfl (zp (.binOp rfl rfl (fun _ => run_sadd _ _ _ _ _ (by simp only [ByteArray.size_append, show (⟨#[43]⟩ : ByteArray).size = 1 from rfl]; have := (cutS_ok (t := t) hlt i).1; have := Nat.mul_le_mul (show i ≤ 2 by omega) (show 1 + t.size ≤ 151 by omega); omega))) (zm rfl (zp (.binOp rfl rfl (fun _ => run_sadd _ _ _ _ _ (by simp only [ByteArray.size_append, show (⟨#[43]⟩ : ByteArray).size = 1 from rfl]; have := (cutS_ok (t := t) hlt i).1; have := Nat.mul_le_mul (show i ≤ 2 by omega) (show 1 + t.size ≤ 151 by omega); omega))) (za rfl (zn (zr (zm rfl (zp (Pure1.cast (v' := (.int .i64 ((i + 1 : Nat) : Int))) (.add rfl rfl) (by show Value.int _ _ = Value.int _ _; congr 1)) (za rfl (zn ?_))))))))))))); clear h; intro a w h
                          exact ⟨i + 1, ⟨by omega, ((h.drop sl).factsSub (by simp)).sub sA⟩, by omega⟩
                      · skip
                        refine gL h (zm rfl (zo 104 rfl rfl rfl (zo 104 rfl rfl rfl (zo 104 rfl rfl rfl (zp (.pickF rfl rfl) (zn ?_)))))); clear h; intro a w h
                        change Code.wp _ _ _ _ _
                        refine cond_false h rfl ?_
                        refine gC h (zk (zs (zs (zr (zp (.fieldAddr rfl (fa_28_0 _ _)) (zd rfl mr Tryz.isAgg26 Tryz.sizeOf26 (rs_2_0 _ _) ?_)))))); clear h; intro a w h
                        refine gL h (zp (.neq rfl rfl) ?_); clear h; intro a w h
                        refine by_bool h (fun hc111 h => ?_) (fun hc111 h => ?_)
                        · skip
                          refine gL h (zm rfl ?_); clear h; intro a w h
                          refine wpl_guard 112 h rfl rfl (op_load h rfl mr Tryz.isAgg28 Tryz.sizeOf28 (rd_2_0_2 _ _) (by decide) ?_); clear h; intro a h
                          refine wpl_guard 112 h rfl rfl (op_load h rfl mr Tryz.isAgg28 Tryz.sizeOf28 (rd_2_0_2 _ _) (by decide) ?_); clear h; intro a h
                          refine gL h (zq 112 rfl rfl (.binOp rfl rfl (fun _ => run_neFa _ _ ((rE (cutS s t (rI s) i), ((rI (cutS s t (rI s) i) : Nat) : Int))) ((rE s, ((rI s : Nat) : Int))) _)) ?_); clear h; intro a w h
                          refine by_bool h (fun hc115 h => (by exfalso; rw [hk2, hk3] at hc115; exact absurd hc115 (by simp))) (fun hc115 h => ?_)
                          refine gL h (zp (.pickT rfl rfl) (zn ?_)); clear h; intro a w h
                          change Code.wp _ _ _ _ _
                          refine cond_false h rfl ?_
                          refine gC h (zk (zr (zm rfl (zp (.binOp rfl rfl (fun _ => run_sadd _ _ _ _ _ (by simp only [ByteArray.size_append, show (⟨#[43]⟩ : ByteArray).size = 1 from rfl]; have := (cutS_ok (t := t) hlt i).1; have := Nat.mul_le_mul (show i ≤ 2 by omega) (show 1 + t.size ≤ 151 by omega); omega))) (zm rfl (zp (.binOp rfl rfl (fun _ => run_sadd _ _ _ _ _ (by simp only [ByteArray.size_append, show (⟨#[43]⟩ : ByteArray).size = 1 from rfl]; have := (cutS_ok (t := t) hlt i).1; have := Nat.mul_le_mul (show i ≤ 2 by omega) (show 1 + t.size ≤ 151 by omega); omega))) (za rfl (zn (zr (zm rfl (zp (Pure1.cast (v' := (.int .i64 ((i + 1 : Nat) : Int))) (.add rfl rfl) (by show Value.int _ _ = Value.int _ _; congr 1)) (za rfl (zn ?_))))))))))))); clear h; intro a w h
                          exact ⟨i + 1, ⟨by omega, ((h.drop sl).factsSub (by simp)).sub sA⟩, by omega⟩
                        · skip
                          refine gL h (zm rfl (zo 112 rfl rfl rfl (zo 112 rfl rfl rfl (zo 112 rfl rfl rfl (zp (.pickF rfl rfl) (zn ?_)))))); clear h; intro a w h
                          change Code.wp _ _ _ _ _
                          refine cond_false h rfl ?_
                          refine gC h (zk (zr (zm rfl (zp (.binOp rfl rfl (fun _ => run_sadd _ _ _ _ _ (by simp only [ByteArray.size_append, show (⟨#[43]⟩ : ByteArray).size = 1 from rfl]; have := (cutS_ok (t := t) hlt i).1; have := Nat.mul_le_mul (show i ≤ 2 by omega) (show 1 + t.size ≤ 151 by omega); omega))) (zm rfl (zp (.binOp rfl rfl (fun _ => run_sadd _ _ _ _ _ (by simp only [ByteArray.size_append, show (⟨#[43]⟩ : ByteArray).size = 1 from rfl]; have := (cutS_ok (t := t) hlt i).1; have := Nat.mul_le_mul (show i ≤ 2 by omega) (show 1 + t.size ≤ 151 by omega); omega))) (za rfl (zn (zr (zm rfl (zp (Pure1.cast (v' := (.int .i64 ((i + 1 : Nat) : Int))) (.add rfl rfl) (by show Value.int _ _ = Value.int _ _; congr 1)) (za rfl (zn ?_))))))))))))); clear h; intro a w h
                          exact ⟨i + 1, ⟨by omega, ((h.drop sl).factsSub (by simp)).sub sA⟩, by omega⟩
                    · skip
                      have heq_i : 2 = i := by have := of_decide_eq_false hc93; omega
                      subst heq_i
                      refine gC h (ze (zs (zr (zw [] rfl Tryz.call10 (C_works11) (za rfl (zn (zt ?_))))))); clear h; intro a w h
                      refine retV h (results1 h rfl (.tmp rfl)) ?_
                      rfl
end
end Go.Proofs.YtgkicbaomcmfoaaGreatDoor
