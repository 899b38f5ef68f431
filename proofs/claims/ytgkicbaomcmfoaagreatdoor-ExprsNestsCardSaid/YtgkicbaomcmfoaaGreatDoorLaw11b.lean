/- Written by a program of ours (gen.py) out of short specifications. By an AI agent. -/
import Derived.Test.YtgkicbaomcmfoaaGreatDoorExprtr
import Derived.Test.YtgkicbaomcmfoaaGreatDoorFxF
set_option linter.unusedVariables false
set_option linter.unusedSimpArgs false
set_option maxRecDepth 4000
namespace Go.Proofs.YtgkicbaomcmfoaaGreatDoor
open Go Go.Proofs Go.Fx
attribute [local irreducible] Oper.wp Code.wp wpList Fx.Head wpOp
section
theorem st_1_0_1 (c0 v0 : Value) : setFrom #[c0] 0 [v0] = #[v0] := rfl
theorem rs_1_0 (c0 : Value) : readAt false 1 #[c0] 0 = some c0 := rfl
theorem C_idle {S : Nat → Prop} {w0 w : World} {σ : List (Nat × Obj)} {Φ : List SPred} (v2 v3 : Value) (hm : Mem S w0 σ Φ w) : CallsD Tryz.prog 33 [v2, v3].toArray .returning w fun e' u' w' => e' = .returned (.tuple #[]) ∧ u' = .returning ∧ Mem S w0 σ Φ w' := by
  refine fn_introS Tryz.func33 rfl Tryz.ntmps33 (Nat.le_of_ble_eq_true rfl) hm ?_
  intro c₀ cs a hu h
  refine wpS_seq ?_
  refine wpS_region ?_
  rw [show List.range _ = [0, 1] from rfl]
  refine s_idle h rfl (by simp [recoverD, hu]) (by decide) ?_; clear h; intro a h
  refine s_pure h rfl (.assign rfl) (by decide) ?_; clear h; intro a h
  show Code.wpS _ _ _ _ _ _
  refine wpS_of_wp ?_
  refine wp_seq ?_
  refine wp_region_lit ?_
  refine wpl_plain (op_pure h (.move rfl) (by decide) ?_); clear h; intro a h
  refine wpl_plain (op_pure h (Pure1.binOp (v := .bool false) rfl rfl (fun _ => by simp [go_sem])) (by decide) ?_); clear h; intro a h
  refine wpList_nil ?_
  change Code.wp _ _ _ _ _
  refine cond_false h rfl ?_
  refine wp_skip ?_
  refine ⟨h.defers, .returning, by rw [← hu], .tuple #[], results0 rfl, rfl, rfl, h.mem⟩
theorem run_assert (e k : Int) (w : World) : (Instr.typeAssert (faV e k) 20 28 true).run Tryz.prog w = .ok (.tuple #[.agg #[.int .i64 e, .int .i64 k], .bool true]) w := by
  simp [go_sem, Instr.typeAssert]
theorem C_catch {S : Nat → Prop} {w0 w : World} {σ : List (Nat × Obj)} {Φ : List SPred} (e k : Int) (b2 b3 : Nat) (x y1 y2 : Value) (hS : ∀ k, S k → k < w0.heap.size) (hm : Mem S w0 ((b2, .cells #[x] 25 (0, 0)) :: (b3, .cells #[y1, y2] 28 (0, 0)) :: σ) Φ w) :
    CallsD Tryz.prog 33 [.pointer (some ⟨b2, 0, none⟩), .pointer (some ⟨b3, 0, none⟩)].toArray (.panicking (chE (faV e k))) w fun e' u' w' => e' = .returned (.tuple #[]) ∧ u' = .panicking [{ v := faV e k, recovered := true }] ∧ Mem S w0 ((b2, .cells #[.slice none 0 0] 25 (0, 0)) :: (b3, .cells #[.int .i64 e, .int .i64 k] 28 (0, 0)) :: σ) Φ w' := by
  refine fn_introS Tryz.func33 rfl Tryz.ntmps33 (Nat.le_of_ble_eq_true rfl) hm ?_
  intro c₀ cs a hu h
  refine wpS_seq ?_
  refine wpS_region ?_
  rw [show List.range _ = [0, 1] from rfl]
  refine s_recover h rfl (v := faV e k) (cs' := { c₀ with mode := .panicking [{ v := faV e k, recovered := true }] } :: cs) (by simp [recoverD, hu]) (by decide) ?_; clear h; intro a h
  refine s_pure h rfl (.assign rfl) (by decide) ?_; clear h; intro a h
  show Code.wpS _ _ _ _ _ _
  refine wpS_of_wp ?_
  refine wp_seq ?_
  refine wp_region_lit ?_
  refine wpl_plain (op_pure h (.move rfl) (by decide) ?_); clear h; intro a h
  refine wpl_plain (op_pure h (Pure1.binOp (v := .bool true) rfl rfl (fun _ => by simp [go_sem])) (by decide) ?_); clear h; intro a h
  refine wpList_nil ?_
  change Code.wp _ _ _ _ _
  refine cond_split h rfl (fun hc7 => ?_) (fun hc7 => (by exfalso; exact absurd hc7 (by decide)))
  refine wp_seq ?_
  refine wp_region_lit ?_
  refine wpl_plain (op_pure h (.move rfl) (by decide) ?_); clear h; intro a h
  refine wpl_plain (op_val (v := .tuple #[.agg #[.int .i64 e, .int .i64 k], .bool true]) h (by have he := h.ev (x := .tmp 9) (v := faV e k) rfl; simp only [execOp, he, Sem.run_bind, run_assert, Result.andThen]; rfl) (by decide) ?_); clear h; intro a h
  refine wpl_plain (op_pure h (.move rfl) (by decide) ?_); clear h; intro a h
  refine wpl_plain (op_pure h (.extract rfl (fun _ => rfl)) (by decide) ?_); clear h; intro a h
  refine wpl_plain (op_pure h (.extract rfl (fun _ => rfl)) (by decide) ?_); clear h; intro a h
  refine wpl_plain (op_alloc h Tryz.zeroValue28 (by decide) ?_); clear h; intro b3 a w h
  refine wpl_plain (op_store h rfl rfl (st_2_0_2 _ _ _ _) (by repeat (first | exact Upd.head | apply Upd.tail | apply Upd.append)) Tryz.sizeOf28 rfl (Nat.le_of_ble_eq_true rfl) rfl ?_); clear h; intro a w h
  refine wpl_plain (op_pure h (.assign rfl) (by decide) ?_); clear h; intro a h
  refine wpList_nil ?_
  change Code.wp _ _ _ _ _
  refine wp_seq ?_
  refine wp_seq ?_
  refine wp_region_lit ?_
  refine wpl_plain (op_pure h (.move rfl) (by decide) ?_); clear h; intro a h
  refine wpl_plain (op_pure h (.unOp rfl (un_not _)) (by decide) ?_); clear h; intro a h
  refine wpList_nil ?_
  change Code.wp _ _ _ _ _
  refine cond_split h rfl (fun hc14 => (by exfalso; exact absurd hc14 (by decide))) (fun hc14 => ?_)
  refine wp_skip ?_
  change Code.wp _ _ _ _ _
  refine wp_draws mixed_YtgkicbaomcmfoaaGreatDoor h [0, 1, 2] _ (fun _ _ hh => hh) (by kernel_rfl) (floatsOK_none (by kernel_rfl)) ?_; clear h
  refine head_loadLate [0] rfl (by kernel_rfl) rfl (by repeat (first | exact List.Mem.head _ | apply List.Mem.tail | apply List.mem_append_right)) Tryz.isAgg28 Tryz.sizeOf28 (rd_2_0_2 _ _) (fun a w σx hst => by intro t ht; simp only [List.mem_cons, List.not_mem_nil, or_false] at ht; rcases ht with rfl <;> exact ⟨_, rfl, by have h1 := (List.pairwise_append.1 hst.nd).2.1; simp at h1; dsimp only; omega⟩) (by decide) ?_
  refine head_store rfl (by kernel_rfl) rfl rfl (st_1_0_1 _ _) (by repeat (first | exact Upd.head | apply Upd.tail | apply Upd.append)) Tryz.sizeOf25 rfl (Nat.le_of_ble_eq_true rfl) rfl ?_
  refine head_store rfl (by kernel_rfl) rfl rfl (st_2_0_2 _ _ _ _) (by repeat (first | exact Upd.head | apply Upd.tail | apply Upd.append)) Tryz.sizeOf28 rfl (Nat.le_of_ble_eq_true rfl) rfl ?_
  refine head_nil ?_; intro a w h
  exact ⟨h.defers, _, rfl, .tuple #[], results0 rfl, rfl, rfl, (h.drop (List.sublist_cons_self _ _)).mem⟩
def rP (s : ByteArray) : List Tm := match parseE s with | .ok p => p | .error _ => []
def rE (s : ByteArray) : Int := match parseE s with | .ok _ => 0 | .error f => f.1
def rI (s : ByteArray) : Nat := match parseE s with | .ok _ => 0 | .error f => f.2
theorem res_ok {s : ByteArray} {p : List Tm} (h : parseE s = .ok p) : rP s = p ∧ rE s = 0 ∧ rI s = 0 := by unfold rP rE rI; rw [h]; exact ⟨rfl, rfl, rfl⟩
theorem res_err {s : ByteArray} {e : Int} {i : Nat} (h : parseE s = .error (e, i)) : rP s = [] ∧ rE s = e ∧ rI s = i := by unfold rP rE rI; rw [h]; exact ⟨rfl, rfl, rfl⟩
def PostR (s : ByteArray) (v : Value) (Ψ : List SPred) : Prop := ∃ ad c, v = .tuple #[.slice ad (rP s).length c, .agg #[.int .i64 (rE s), .int .i64 ((rI s : Nat) : Int)]] ∧ Ψ = [Row ad (cellsOf encT (rP s))]
theorem postR_err {s : ByteArray} {e : Int} {i : Nat} (h : parseE s = .error (e, i)) : PostR s (.tuple #[.slice none 0 0, .agg #[.int .i64 e, .int .i64 ((i : Nat) : Int)]]) [Row none (cellsOf encT [])] := by
  obtain ⟨h1, h2, h3⟩ := res_err h
  exact ⟨none, 0, by rw [h1, h2, h3]; rfl, by rw [h1]⟩
theorem postR_ok {s : ByteArray} {p : List Tm} {ad : Option Addr} {c : Nat} (h : parseE s = .ok p) : PostR s (.tuple #[.slice ad p.length c, .agg #[.int .i64 0, .int .i64 0]]) [Row ad (cellsOf encT p)] := by
  obtain ⟨h1, h2, h3⟩ := res_ok h
  exact ⟨ad, c, by rw [h1, h2, h3]; rfl, by rw [h1]⟩
abbrev dfr (b2 b3 : Nat) : Deferred := ⟨.fn (.func 33) [.pointer (some ⟨b2, 0, none⟩), .pointer (some ⟨b3, 0, none⟩)].toArray, #[]⟩
theorem catch_up {n : Nat} {S : Nat → Prop} {w0 w w' : World} {L : List (Nat × Value)} {σ1 σ : List (Nat × Obj)} {Φ1 Φ : List SPred} {a : Act} (s : ByteArray) (e : Int) (i b2 b3 : Nat) (x y1 y2 : Value) (hS : ∀ k, S k → k < w0.heap.size) (h : St n S w0 L σ1 Φ1 a w)
    (h2 : Fx.look L 2 = some (.pointer (some ⟨b2, 0, none⟩))) (h3 : Fx.look L 3 = some (.pointer (some ⟨b3, 0, none⟩))) (hm : Mem S w0 ((b2, .cells #[x] 25 (0, 0)) :: (b3, .cells #[y1, y2] 28 (0, 0)) :: σ) Φ w') (hp : parseE s = .error (e, i)) {fn : Func} (hr : fn.results = #[.cell 2 25, .cell 3 28]) :
    bodyPostD Tryz.prog fn (Post S w0 (PostR s)) (.panic (chE (faV e ((i : Nat) : Int)))) (up [dfr b2 b3] a) w' := by
  refine leaves_up h.defers (leaves_cons (f := 33) (args := [.pointer (some ⟨b2, 0, none⟩), .pointer (some ⟨b3, 0, none⟩)].toArray) (by simp) (by simp [go_sem]) ?_)
  refine (C_catch e ((i : Nat) : Int) b2 b3 x y1 y2 hS hm).mono ?_
  rintro e' u' w'' ⟨rfl, rfl, hm'⟩
  have hst := (h.reMem hm').derive (R := Row none (cellsOf encT [])) (fun X _ hne => absurd rfl hne)
  exact retD hst (results2 hst hr (.cell h2 (List.Mem.head _) Tryz.isAgg25 Tryz.sizeOf25 (rs_1_0 _)) (.cell h3 (List.Mem.tail _ (List.Mem.head _)) Tryz.isAgg28 Tryz.sizeOf28 (rd_2_0_2 _ _))) (postR_err hp) (by simp)
theorem idle_up {n : Nat} {S : Nat → Prop} {w0 w : World} {L : List (Nat × Value)} {σ : List (Nat × Obj)} {Φ : List SPred} {a : Act} (s : ByteArray) (b2 b3 : Nat) (h : St n S w0 L σ Φ a w) {fn : Func} {v : Value} {Ψ : List SPred}
    (hr : ∀ w', St n S w0 L σ Φ a w' → (results fn a.tmps).run Tryz.prog w' = .ok v w') (hp : PostR s v Ψ) (hs : ∀ R ∈ Ψ, R ∈ Φ) :
    Leaves Tryz.prog fn (up [dfr b2 b3] a).tmps (Post S w0 (PostR s)) (up [dfr b2 b3] a).defers .returning w := by
  refine leaves_up h.defers (leaves_cons (f := 33) (args := [.pointer (some ⟨b2, 0, none⟩), .pointer (some ⟨b3, 0, none⟩)].toArray) (by simp) (by simp [go_sem]) ?_)
  refine (C_idle _ _ h.mem).mono ?_
  rintro e' u' w'' ⟨rfl, rfl, hm'⟩
  exact retD (h.reMem hm') (hr _ (h.reMem hm')) hp hs
end
section
theorem bd_78_0 (x0 : ByteArray) (w : World) : (Instr.build 78 [(0, .string x0)].toArray).run Tryz.prog w = .ok (.agg #[.string x0, .int .i64 0, .int .i64 0]) w := by simp [go_sem]
theorem bd_28_z (w : World) : (Instr.build 28 [].toArray).run Tryz.prog w = .ok (.agg #[.int .i64 0, .int .i64 0]) w := by simp [go_sem]
theorem C_ParseX (s : ByteArray) (hsz : s.size ≤ 9223372036854775807) : Ctr Tryz.prog 11 [.string s] [] (PostR s) := by
  refine fn_introD Tryz.func11 rfl Tryz.ntmps11 (Nat.le_of_ble_eq_true rfl) ?_
  intro S w0 a hS h
  refine wp_seq ?_
  refine wp_region_lit ?_
  refine wpl_plain (op_alloc h Tryz.zeroValue25 (by decide) ?_); clear h; intro b2 a w h
  refine wpl_plain (op_alloc h Tryz.zeroValue28 (by decide) ?_); clear h; intro b3 a w h
  refine wpList_nil ?_
  change Code.wp _ _ _ _ _
  refine wp_seq ?_
  refine wp_seq ?_
  refine wp_region_lit ?_
  refine wpl_plain (op_pure h (.move rfl) (by decide) ?_); clear h; intro a h
  refine wpl_plain (op_pure h (.builtin [_] rfl (len_string_9 _)) (by decide) ?_); clear h; intro a h
  refine wpl_plain (op_pure h (.binOp rfl rfl (fun _ => run_gtr _ _ _ _ _)) (by decide) ?_); clear h; intro a h
  refine wpList_nil ?_
  change Code.wp _ _ _ _ _
  refine cond_split h rfl (fun hc7 => ?_) (fun hc7 => ?_)
  · skip
    have hP : parseE s = .error (3, 0) := by unfold parseE; rw [if_pos (by have := of_decide_eq_true hc7; omega)]
    refine wp_seq ?_
    refine wp_region_lit ?_
    refine wpl_plain (op_pure h (.build [(_, _), (_, _)] rfl (bd_28_0_1 _ _)) (by decide) ?_); clear h; intro a h
    refine wpl_plain (op_store h rfl rfl (st_1_0_1 _ _) (by repeat (first | exact Upd.head | apply Upd.tail | apply Upd.append)) Tryz.sizeOf25 rfl (Nat.le_of_ble_eq_true rfl) rfl ?_); clear h; intro a w h
    refine wpl_plain (op_store h rfl rfl (st_2_0_2 _ _ _ _) (by repeat (first | exact Upd.head | apply Upd.tail | apply Upd.append)) Tryz.sizeOf28 rfl (Nat.le_of_ble_eq_true rfl) rfl ?_); clear h; intro a w h
    refine wpList_nil ?_
    change Code.wp _ _ _ _ _
    refine wp_ret ?_
    replace h := h.derive (R := Row none (cellsOf encT [])) (fun X _ hne => absurd rfl hne)
    exact retD0 h (results2 h rfl (.cell rfl (by repeat (first | exact List.Mem.head _ | apply List.Mem.tail | apply List.mem_append_right)) Tryz.isAgg25 Tryz.sizeOf25 (rs_1_0 _)) (.cell rfl (by repeat (first | exact List.Mem.head _ | apply List.Mem.tail | apply List.mem_append_right)) Tryz.isAgg28 Tryz.sizeOf28 (rd_2_0_2 _ _))) (postR_err hP) (by simp)
  · skip
    have hs : s.size ≤ 4096 := by have := of_decide_eq_false hc7; omega
    have hP : parseE s = readE (s.extract 0 (trimE s s.size)) := by unfold parseE; rw [if_neg (by omega)]
    obtain ⟨t, ht⟩ : ∃ t, t = s.extract 0 (trimE s s.size) := ⟨_, rfl⟩
    have hts : t.size ≤ 4096 := by rw [ht, ByteArray.size_extract]; have := trimE_le s s.size; omega
    refine wp_skip ?_
    change Code.wp _ _ _ _ _
    refine wp_seq ?_
    refine wp_region_lit ?_
    refine wpl_plain (op_pure h (.makeFunc [] [_, _] rfl rfl) (by decide) ?_); clear h; intro a h
    refine wpl_plain (op_defer h rfl ?_); clear h; intro h
    refine wpl_up ?_
    refine wpList_nil ?_
    change Code.wp _ _ _ _ _
    refine wp_seq ?_
    refine wp_region_lit (wpl_up ?_)
    refine wpl_plain (op_pure h (.move rfl) (by decide) ?_); clear h; intro a h
    refine wpl_plain (op_callV h (vs := [_, _]) rfl Tryz.call34 (C_TrimR s (by omega)) (by decide) ?_); clear h; intro a w h
    rw [← ht] at h
    refine wpl_plain (op_pure h (.build [(_, _)] rfl (bd_78_0 _)) (by decide) ?_); clear h; intro a h
    refine wpl_plain (op_box h rfl (by decide) ?_); clear h; intro b13 a w h
    refine wpl_plain (op_pure h (.assign rfl) (by decide) ?_); clear h; intro a h
    refine wpList_nil ?_
    change Code.wp _ _ _ _ _
    refine wp_seq ?_
    refine wp_region_lit (wpl_up ?_)
    refine wpl_plain (op_pure h (.move rfl) (by decide) ?_); clear h; intro a h
    refine wpl_plain (op_callE h hS (vs := [_]) rfl Tryz.call35 (C_sumE b13 t hts 32 0 0 _ [] (by decide) (Nat.zero_le _)) ((List.Perm.refl _)) (by simp) ?_ ?_)
    · skip
      rintro _ _ w' ⟨e, i, ob, hx, rfl, rfl⟩ hm
      exact catch_up s e i b2 b3 _ _ _ hS h rfl rfl (hm.perm (List.reverse_perm _).symm) (by rw [hP]; unfold readE; rw [← ht, hx]) rfl
    clear h; rintro v15 σ15 Ψ15 a w ⟨p15, k15, ad15, c15, hr15, rfl, rfl, rfl⟩ h
    obtain ⟨hg15, hk15a, hk15⟩ := sumE_good hts 32 (Nat.zero_le _) hr15
    refine wpl_plain (op_store h rfl rfl (st_1_0_1 _ _) (by repeat (first | exact Upd.head | apply Upd.tail | apply Upd.append)) Tryz.sizeOf25 rfl (Nat.le_of_ble_eq_true rfl) rfl ?_); clear h; intro a w h
    refine wpList_nil ?_
    change Code.wp _ _ _ _ _
    refine wp_seq ?_
    refine wp_seq ?_
    refine wp_region_lit (wpl_up ?_)
    refine wpl_plain (op_pure h (.move rfl) (by decide) ?_); clear h; intro a h
    refine wpl_plain (op_callM h hS (vs := [_]) rfl Tryz.call36 (C_next b13 k15 0 t hts hk15 _ [Row ad15 (cellsOf encT p15)]) ((List.Perm.refl _)) (by simp) (by simp) ?_); clear h; rintro v17 σ17 Ψ17 a w ⟨rfl, rfl, rfl⟩ h
    refine wpList_nil ?_
    change Code.wp _ _ _ _ _
    refine wp_seq ?_
    refine wp_draws_up mixed_YtgkicbaomcmfoaaGreatDoor h [0, 1, 2, 3, 4, 5, 6, 7, 8, 9] (by kernel_rfl) (by kernel_rfl) rfl (floatsOK_none (by kernel_rfl)) ?_; clear h
    refine head_pure rfl (by kernel_rfl) (.move rfl) (by decide) ?_
    refine head_pure rfl (by kernel_rfl) (.nilCheck rfl) (by decide) ?_
    refine head_pure rfl (by kernel_rfl) (.fieldAddr rfl (fa_78_1 _ _)) (by decide) ?_
    refine head_load rfl (by kernel_rfl) rfl (by repeat (first | exact List.Mem.head _ | apply List.Mem.tail | apply List.mem_append_right)) Tryz.isAgg3 Tryz.sizeOf3 (rs_3_1 _ _ _) (by decide) ?_
    refine head_pure rfl (by kernel_rfl) (.move rfl) (by decide) ?_
    refine head_pure rfl (by kernel_rfl) (.nilCheck rfl) (by decide) ?_
    refine head_pure rfl (by kernel_rfl) (.fieldAddr rfl (fa_78_0 _ _)) (by decide) ?_
    refine head_load rfl (by kernel_rfl) rfl (by repeat (first | exact List.Mem.head _ | apply List.Mem.tail | apply List.mem_append_right)) Tryz.isAgg9 Tryz.sizeOf9 (rs_3_0 _ _ _) (by decide) ?_
    refine head_pure rfl (by kernel_rfl) (.builtin [_] rfl (len_string_9 _)) (by decide) ?_
    refine head_pure rfl (by kernel_rfl) (.binOp rfl rfl (fun _ => run_lss _ _ _ _ _)) (by decide) ?_
    refine head_nil ?_; intro a w h
    change Code.wp _ _ _ _ _
    refine cond_split_up h rfl (fun hc27 => ?_) (fun hc27 => ?_)
    · skip
      have hlt : blkE t k15 < t.size := by have := of_decide_eq_true hc27; omega
      refine wp_region_lit (wpl_up ?_)
      refine wpl_plain (op_pure h (.move rfl) (by decide) ?_); clear h; intro a h
      refine wpl_plain (op_pure h (.nilCheck rfl) (by decide) ?_); clear h; intro a h
      refine wpl_plain (op_pure h (.fieldAddr rfl (fa_78_1 _ _)) (by decide) ?_); clear h; intro a h
      refine wpl_plain (op_load h rfl (by repeat (first | exact List.Mem.head _ | apply List.Mem.tail | apply List.mem_append_right)) Tryz.isAgg3 Tryz.sizeOf3 (rs_3_1 _ _ _) (by decide) ?_); clear h; intro a h
      refine wpl_plain (op_callE h hS (vs := [_, _]) rfl Tryz.call37 (C_fails 4 _ _ _) (List.Perm.refl _) (by simp) ?_ (fun _ _ _ _ _ hp _ => by exact hp.elim))
      rintro _ _ w' ⟨rfl, rfl⟩ hm
      exact catch_up s 4 (blkE t k15) b2 b3 _ _ _ hS h rfl rfl (hm.perm (List.reverse_perm _).symm) (by rw [hP]; unfold readE; rw [← ht, hr15]; simp only [if_pos hlt]) rfl
    · skip
      have hlt : ¬ blkE t k15 < t.size := by have := of_decide_eq_false hc27; omega
      refine wp_skip ?_
      change Code.wp _ _ _ _ _
      refine wp_seq ?_
      refine wp_region_lit (wpl_up ?_)
      refine wpl_plain (op_load h rfl (by repeat (first | exact List.Mem.head _ | apply List.Mem.tail | apply List.mem_append_right)) Tryz.isAgg25 Tryz.sizeOf25 (rs_1_0 _) (by decide) ?_); clear h; intro a h
      refine wpl_plain (op_pure h (.build [] rfl (bd_28_z)) (by decide) ?_); clear h; intro a h
      refine wpl_plain (op_store h rfl rfl (st_1_0_1 _ _) (by repeat (first | exact Upd.head | apply Upd.tail | apply Upd.append)) Tryz.sizeOf25 rfl (Nat.le_of_ble_eq_true rfl) rfl ?_); clear h; intro a w h
      refine wpl_plain (op_store h rfl rfl (st_2_0_2 _ _ _ _) (by repeat (first | exact Upd.head | apply Upd.tail | apply Upd.append)) Tryz.sizeOf28 rfl (Nat.le_of_ble_eq_true rfl) rfl ?_); clear h; intro a w h
      refine wpList_nil ?_
      change Code.wp _ _ _ _ _
      refine wp_ret ?_
      exact idle_up s b2 b3 h (fun w' h => (results2 h rfl (.cell rfl (by repeat (first | exact List.Mem.head _ | apply List.Mem.tail | apply List.mem_append_right)) Tryz.isAgg25 Tryz.sizeOf25 (rs_1_0 _)) (.cell rfl (by repeat (first | exact List.Mem.head _ | apply List.Mem.tail | apply List.mem_append_right)) Tryz.isAgg28 Tryz.sizeOf28 (rd_2_0_2 _ _)))) (postR_ok (by rw [hP]; unfold readE; rw [← ht, hr15]; simp only [if_neg hlt])) (by simp)
end
section
abbrev encFa (f : Int × Int) : Value := .agg #[.int .i64 f.1, .int .i64 f.2]
theorem zeroFa (w : World) : (zeroValue 28).run Tryz.prog w = .ok (encFa (0, 0)) w := Tryz.zeroValue28 w
theorem run_eqFa (X Y : Operand) (x y : Int × Int) (w : World) : (do eqGuard .eql 28 X Y (encFa x) (encFa y); Go.binOp .eql 28 (encFa x) (encFa y) : Sem Value).run Tryz.prog w = .ok (.bool (decide (x = y))) w := by
  obtain ⟨x1, x2⟩ := x
  obtain ⟨y1, y2⟩ := y
  simp [go_sem]
  by_cases e1 : x1 = y1 <;> by_cases e2 : x2 = y2 <;> simp [e1, e2]
theorem run_neFa (X Y : Operand) (x y : Int × Int) (w : World) : (do eqGuard .neq 28 X Y (encFa x) (encFa y); Go.binOp .neq 28 (encFa x) (encFa y) : Sem Value).run Tryz.prog w = .ok (.bool (!decide (x = y))) w := by
  obtain ⟨x1, x2⟩ := x
  obtain ⟨y1, y2⟩ := y
  simp [go_sem]
  by_cases e1 : x1 = y1 <;> by_cases e2 : x2 = y2 <;> simp [e1, e2]
theorem readE_gd {s : ByteArray} {p : List Tm} (hs : s.size ≤ 4096) (h : readE s = .ok p) : Gd p := by
  unfold readE at h
  split at h
  · cases h
  · rename_i q k hq
    split at h
    · cases h
    · cases h; exact (sumE_good hs 32 (Nat.zero_le _) hq).1
theorem Gd.nil : Gd [] := ⟨(Pq.nil 12).mono (Nat.le_refl _) (by decide), ⟨(fun _ h => nomatch h), List.Pairwise.nil⟩⟩
theorem rP_gd (s : ByteArray) : Gd (rP s) := by
  unfold rP
  split
  · rename_i p h
    unfold parseE at h
    split at h
    · cases h
    · refine readE_gd ?_ h
      rw [ByteArray.size_extract]; have := trimE_le s s.size; omega
  · exact Gd.nil
def okX (r : Except Fa (List Tm)) (E : List Tm) : Bool := match r with | .ok p => decide (p = E) | .error _ => false
def erX (r : Except Fa (List Tm)) (e : Int) (i : Nat) : Bool := match r with | .ok _ => false | .error f => decide (f.1 = e) && decide (f.2 = i)
theorem okX_ok {r : Except Fa (List Tm)} {E : List Tm} (h : okX r E = true) : r = .ok E := by
  unfold okX at h
  split at h
  · rw [of_decide_eq_true h]
  · cases h
theorem erX_er {r : Except Fa (List Tm)} {e : Int} {i : Nat} (h : erX r e i = true) : r = .error (e, i) := by
  unfold erX at h
  split at h
  · cases h
  · rw [Bool.and_eq_true, decide_eq_true_eq, decide_eq_true_eq] at h
    obtain ⟨h1, h2⟩ := h
    subst h1; subst h2; rfl
theorem C_says (s want : ByteArray) (E : List Tm) (hsz : s.size ≤ 9223372036854775807) (hE : OkE E) (hp : parseE s = .ok E) (ht : txtP textQ E = want) : CtrW Tryz.prog 31 [.string s, .string want] [] (.bool true) := by
  obtain ⟨hq1, hq2, hq3⟩ := res_ok hp
  refine fn_intro Tryz.func31 rfl Tryz.ntmps31 nb ?_
  intro S w0 a hS h
  refine gC h (zs (zr (za rfl (zn (zs (zr (zm rfl (zf [_] rfl Tryz.call11 (C_ParseX s hsz) ?_)))))))); clear h; rintro v9 Ψ9 ⟨ad9, c9, rfl, rfl⟩ a w h
  refine gL h (zm rfl (zp (.extract rfl (fun _ => rfl)) (zp (.extract rfl (fun _ => rfl)) (zz zeroFa fun b6 => za rfl (zt' rfl rfl (st_2_0_2 _ _ _ _) uu Tryz.sizeOf28 rfl nb rfl ?_))))); clear h; intro a w h
  refine gL h (zn (zs (zr (zd rfl mr Tryz.isAgg28 Tryz.sizeOf28 (rd_2_0_2 _ _) ?_)))); clear h; intro a w h
  refine gL h (zp (.build [] rfl (bd_28_z)) (zp (.binOp rfl rfl (fun _ => run_eqFa _ _ ((rE s, ((rI s : Nat) : Int))) (0, 0) _)) ?_)); clear h; intro a w h
  refine by_bool h (fun hc14 h => ?_) (fun hc14 h => (by exfalso; rw [hq2, hq3] at hc14; exact absurd hc14 (by decide)))
  refine gL h (zm rfl (zq 15 rfl rfl (.move rfl) ?_)); clear h; intro a w h
  refine wpl_guard 15 h rfl rfl (op_callW h (vs := [_]) rfl Tryz.call16 (C_TE (rP s) want _ _ (by rw [hq1]; exact hE) (by rw [hq1]; exact ht)) (by simp) (by decide) ?_); clear h; intro a w h
  refine gL h (zq 15 rfl rfl (.move rfl) (zq 15 rfl rfl (.binOp rfl rfl (fun _ => run_seql _ _ _ _ _)) ?_)); clear h; intro a w h
  refine by_bool h (fun hc19 h => ?_) (fun hc19 h => (by exfalso; exact absurd hc19 (by simp)))
  refine gL h (zp (.pickT rfl rfl) (zm rfl (zq 21 rfl rfl (.move rfl) ?_))); clear h; intro a w h
  refine wpl_guard 21 h rfl rfl (op_callW h (vs := [_]) rfl Tryz.call17 (C_OkN (rP s) _ _ (rP_gd s).nrm (rP_gd s).pq.deg (by have := (rP_gd s).len; omega)) (by simp) (by decide) ?_); clear h; intro a w h
  refine gL h (zp (.pickT rfl rfl) (za rfl (zn (zt ?_)))); clear h; intro a w h
  refine retV h (results1 h rfl (.tmp rfl)) ?_
  rfl
theorem C_failsL (s : ByteArray) (e : Int) (i : Nat) (hsz : s.size ≤ 9223372036854775807) (hp : parseE s = .error (e, i)) : CtrW Tryz.prog 32 [.string s, .int .i64 e, .int .i64 ((i : Nat) : Int)] [] (.bool true) := by
  obtain ⟨hq1, hq2, hq3⟩ := res_err hp
  refine fn_intro Tryz.func32 rfl Tryz.ntmps32 nb ?_
  intro S w0 a hS h
  refine gC h (zs (zr (za rfl (zn (zs (zr (zm rfl (zf [_] rfl Tryz.call11 (C_ParseX s hsz) ?_)))))))); clear h; rintro v11 Ψ11 ⟨ad11, c11, rfl, rfl⟩ a w h
  refine gL h (zm rfl (zp (.extract rfl (fun _ => rfl)) (zp (.extract rfl (fun _ => rfl)) (zz zeroFa fun b8 => za rfl (zt' rfl rfl (st_2_0_2 _ _ _ _) uu Tryz.sizeOf28 rfl nb rfl ?_))))); clear h; intro a w h
  refine gL h (zn (zs (zr (zm rfl (zp (.builtin [_] rfl (len_slice_25 _ _ _)) (zp (.eql rfl rfl) ?_)))))); clear h; intro a w h
  refine by_bool h (fun hc16 h => ?_) (fun hc16 h => (by exfalso; rw [hq1] at hc16; exact absurd hc16 (by decide)))
  refine gL h (zm rfl ?_); clear h; intro a w h
  refine wpl_guard 17 h rfl rfl (op_load h rfl mr Tryz.isAgg28 Tryz.sizeOf28 (rd_2_0_2 _ _) (by decide) ?_); clear h; intro a h
  refine gL h (zq 17 rfl rfl (.move rfl) (zq 17 rfl rfl (.move rfl) (zq 17 rfl rfl (.build [(_, _), (_, _)] rfl (bd_28_0_1 _ _)) (zq 17 rfl rfl (.binOp rfl rfl (fun _ => run_eqFa _ _ ((rE s, ((rI s : Nat) : Int))) ((e, ((i : Nat) : Int))) _)) ?_)))); clear h; intro a w h
  refine by_bool h (fun hc22 h => ?_) (fun hc22 h => (by exfalso; rw [hq2, hq3] at hc22; exact absurd hc22 (by simp)))
  refine gL h (zp (.pickT rfl rfl) (za rfl (zn (zt ?_)))); clear h; intro a w h
  refine retV h (results1 h rfl (.tmp rfl)) ?_
  rfl
def sE0 : List Tm := [⟨0, 0, (mkRat (-3) 4)⟩, ⟨1, 0, (mkRat (-3) 4)⟩, ⟨2, 1, (1 : Rat)⟩]
theorem sE0_k : OkE sE0 := by unfold sE0; decide +kernel
theorem sE0_p : parseE ⟨#[120, 94, 50, 42, 121, 32, 45, 32, 51, 47, 52, 42, 40, 120, 32, 43, 32, 49, 41]⟩ = .ok sE0 := okX_ok (by unfold sE0; decide +kernel)
theorem sE0_t : txtP textQ sE0 = ⟨#[45, 51, 47, 52, 32, 45, 32, 51, 47, 52, 42, 120, 32, 43, 32, 120, 94, 50, 42, 121]⟩ := by unfold sE0; decide +kernel
def sE1 : List Tm := [⟨2, 0, (-1 : Rat)⟩]
theorem sE1_k : OkE sE1 := by unfold sE1; decide +kernel
theorem sE1_p : parseE ⟨#[45, 120, 94, 50]⟩ = .ok sE1 := okX_ok (by unfold sE1; decide +kernel)
theorem sE1_t : txtP textQ sE1 = ⟨#[45, 120, 94, 50]⟩ := by unfold sE1; decide +kernel
def sE2 : List Tm := [⟨0, 0, (1 : Rat)⟩]
theorem sE2_k : OkE sE2 := by unfold sE2; decide +kernel
theorem sE2_p : parseE ⟨#[50, 42, 51, 47, 54]⟩ = .ok sE2 := okX_ok (by unfold sE2; decide +kernel)
theorem sE2_t : txtP textQ sE2 = ⟨#[49]⟩ := by unfold sE2; decide +kernel
def sE3 : List Tm := [⟨2, 0, (1 : Rat)⟩, ⟨1, 1, (2 : Rat)⟩, ⟨0, 2, (1 : Rat)⟩]
theorem sE3_k : OkE sE3 := by unfold sE3; decide +kernel
theorem sE3_p : parseE ⟨#[40, 120, 32, 43, 32, 121, 41, 94, 50]⟩ = .ok sE3 := okX_ok (by unfold sE3; decide +kernel)
theorem sE3_t : txtP textQ sE3 = ⟨#[120, 94, 50, 32, 43, 32, 50, 42, 120, 42, 121, 32, 43, 32, 121, 94, 50]⟩ := by unfold sE3; decide +kernel
def sE4 : List Tm := [⟨2, 0, (mkRat (1) 6)⟩]
theorem sE4_k : OkE sE4 := by unfold sE4; decide +kernel
theorem sE4_p : parseE ⟨#[120, 42, 120, 47, 50, 47, 51]⟩ = .ok sE4 := okX_ok (by unfold sE4; decide +kernel)
theorem sE4_t : txtP textQ sE4 = ⟨#[49, 47, 54, 42, 120, 94, 50]⟩ := by unfold sE4; decide +kernel
def sE5 : List Tm := []
theorem sE5_k : OkE sE5 := by unfold sE5; decide +kernel
theorem sE5_p : parseE ⟨#[48, 42, 120]⟩ = .ok sE5 := okX_ok (by unfold sE5; decide +kernel)
theorem sE5_t : txtP textQ sE5 = ⟨#[48]⟩ := by unfold sE5; decide +kernel
theorem fE0_p : parseE ⟨#[]⟩ = .error (4, 0) := erX_er (by decide +kernel)
theorem fE1_p : parseE ⟨#[120, 32, 43]⟩ = .error (4, 3) := erX_er (by decide +kernel)
theorem fE2_p : parseE ⟨#[120, 32, 121]⟩ = .error (4, 2) := erX_er (by decide +kernel)
theorem fE3_p : parseE ⟨#[48, 49]⟩ = .error (4, 1) := erX_er (by decide +kernel)
theorem fE4_p : parseE ⟨#[50, 42, 45, 120]⟩ = .error (4, 2) := erX_er (by decide +kernel)
theorem fE5_p : parseE ⟨#[40, 120]⟩ = .error (4, 2) := erX_er (by decide +kernel)
theorem fE6_p : parseE ⟨#[120, 41]⟩ = .error (4, 1) := erX_er (by decide +kernel)
theorem fE7_p : parseE ⟨#[49, 47, 120]⟩ = .error (4, 2) := erX_er (by decide +kernel)
theorem fE8_p : parseE ⟨#[49, 47, 48]⟩ = .error (5, 2) := erX_er (by decide +kernel)
theorem fE9_p : parseE ⟨#[120, 47, 32, 48]⟩ = .error (5, 3) := erX_er (by decide +kernel)
theorem fE10_p : parseE ⟨#[120, 94, 49, 51]⟩ = .error (9, 1) := erX_er (by decide +kernel)
theorem fE11_p : parseE ⟨#[120, 94, 55, 42, 121, 94, 54]⟩ = .error (9, 3) := erX_er (by decide +kernel)
theorem fE12_p : parseE ⟨#[40, 120, 94, 50, 41, 94, 55]⟩ = .error (9, 5) := erX_er (by decide +kernel)
theorem fE13_p : parseE ⟨#[49, 94, 49, 51]⟩ = .error (9, 1) := erX_er (by decide +kernel)
theorem fE14_p : parseE ⟨#[40, 40, 40, 57, 94, 49, 50, 41, 94, 49, 50, 41, 94, 49, 50, 41, 94, 49, 50]⟩ = .error (3, 16) := erX_er (by decide +kernel)
set_option maxHeartbeats 2000000 in
theorem C_works11 : CtrW Tryz.prog 10 [] [] (.bool true) := by
  refine fn_intro Tryz.func10 rfl Tryz.ntmps10 nb ?_
  intro S w0 a hS h
  refine gC h (zs (zr (za rfl (zn (zs (zs (zr (zw [_, _] rfl Tryz.call31 (C_says _ _ sE0 (by decide) sE0_k sE0_p sE0_t) (zp (.unOp rfl (un_not _)) ?_))))))))); clear h; intro a w h
  refine by_bool h (fun hc2 h => (by exfalso; exact absurd hc2 (by decide))) (fun hc2 h => ?_)
  refine gL h (zm rfl ?_); clear h; intro a w h
  refine wpl_guard 3 h rfl rfl (op_callW h (vs := [_, _]) rfl Tryz.call31 (C_says _ _ sE1 (by decide) sE1_k sE1_p sE1_t) (by simp) (by decide) ?_); clear h; intro a w h
  refine gL h (zq 3 rfl rfl (.unOp rfl (un_not _)) ?_); clear h; intro a w h
  refine by_bool h (fun hc5 h => (by exfalso; exact absurd hc5 (by decide))) (fun hc5 h => ?_)
  refine gL h (zp (.pickF rfl rfl) (zm rfl ?_)); clear h; intro a w h
  refine wpl_guard 7 h rfl rfl (op_callW h (vs := [_, _]) rfl Tryz.call31 (C_says _ _ sE2 (by decide) sE2_k sE2_p sE2_t) (by simp) (by decide) ?_); clear h; intro a w h
  refine gL h (zq 7 rfl rfl (.unOp rfl (un_not _)) ?_); clear h; intro a w h
  refine by_bool h (fun hc9 h => (by exfalso; exact absurd hc9 (by decide))) (fun hc9 h => ?_)
  refine gL h (zp (.pickF rfl rfl) (zm rfl ?_)); clear h; intro a w h
  refine wpl_guard 11 h rfl rfl (op_callW h (vs := [_, _]) rfl Tryz.call31 (C_says _ _ sE3 (by decide) sE3_k sE3_p sE3_t) (by simp) (by decide) ?_); clear h; intro a w h
  refine gL h (zq 11 rfl rfl (.unOp rfl (un_not _)) ?_); clear h; intro a w h
  refine by_bool h (fun hc13 h => (by exfalso; exact absurd hc13 (by decide))) (fun hc13 h => ?_)
  refine gL h (zp (.pickF rfl rfl) (zm rfl ?_)); clear h; intro a w h
  refine wpl_guard 15 h rfl rfl (op_callW h (vs := [_, _]) rfl Tryz.call31 (C_says _ _ sE4 (by decide) sE4_k sE4_p sE4_t) (by simp) (by decide) ?_); clear h; intro a w h
  refine gL h (zq 15 rfl rfl (.unOp rfl (un_not _)) ?_); clear h; intro a w h
  refine by_bool h (fun hc17 h => (by exfalso; exact absurd hc17 (by decide))) (fun hc17 h => ?_)
  refine gL h (zp (.pickF rfl rfl) (zm rfl ?_)); clear h; intro a w h
  refine wpl_guard 19 h rfl rfl (op_callW h (vs := [_, _]) rfl Tryz.call31 (C_says _ _ sE5 (by decide) sE5_k sE5_p sE5_t) (by simp) (by decide) ?_); clear h; intro a w h
  refine gL h (zq 19 rfl rfl (.unOp rfl (un_not _)) ?_); clear h; intro a w h
  refine by_bool h (fun hc21 h => (by exfalso; exact absurd hc21 (by decide))) (fun hc21 h => ?_)
  refine gL h (zp (.pickF rfl rfl) (zn ?_)); clear h; intro a w h
  change Code.wp _ _ _ _ _
  refine cond_false h rfl ?_
  refine gC h (zk (zs (zs (zr (zw [_, _, _] rfl Tryz.call32 (C_failsL _ _ 0 (by decide) fE0_p) (zp (.unOp rfl (un_not _)) ?_)))))); clear h; intro a w h
  refine by_bool h (fun hc24 h => (by exfalso; exact absurd hc24 (by decide))) (fun hc24 h => ?_)
  refine gL h (zm rfl ?_); clear h; intro a w h
  refine wpl_guard 25 h rfl rfl (op_callW h (vs := [_, _, _]) rfl Tryz.call32 (C_failsL _ _ 3 (by decide) fE1_p) (by simp) (by decide) ?_); clear h; intro a w h
  refine gL h (zq 25 rfl rfl (.unOp rfl (un_not _)) ?_); clear h; intro a w h
  refine by_bool h (fun hc27 h => (by exfalso; exact absurd hc27 (by decide))) (fun hc27 h => ?_)
  refine gL h (zp (.pickF rfl rfl) (zm rfl ?_)); clear h; intro a w h
  refine wpl_guard 29 h rfl rfl (op_callW h (vs := [_, _, _]) rfl Tryz.call32 (C_failsL _ _ 2 (by decide) fE2_p) (by simp) (by decide) ?_); clear h; intro a w h
  refine gL h (zq 29 rfl rfl (.unOp rfl (un_not _)) ?_); clear h; intro a w h
  refine by_bool h (fun hc31 h => (by exfalso; exact absurd hc31 (by decide))) (fun hc31 h => ?_)
  refine gL h (zp (.pickF rfl rfl) (zm rfl ?_)); clear h; intro a w h
  refine wpl_guard 33 h rfl rfl (op_callW h (vs := [_, _, _]) rfl Tryz.call32 (C_failsL _ _ 1 (by decide) fE3_p) (by simp) (by decide) ?_); clear h; intro a w h
  refine gL h (zq 33 rfl rfl (.unOp rfl (un_not _)) ?_); clear h; intro a w h
  refine by_bool h (fun hc35 h => (by exfalso; exact absurd hc35 (by decide))) (fun hc35 h => ?_)
  refine gL h (zp (.pickF rfl rfl) (zm rfl ?_)); clear h; intro a w h
  refine wpl_guard 37 h rfl rfl (op_callW h (vs := [_, _, _]) rfl Tryz.call32 (C_failsL _ _ 2 (by decide) fE4_p) (by simp) (by decide) ?_); clear h; intro a w h
  refine gL h (zq 37 rfl rfl (.unOp rfl (un_not _)) ?_); clear h; intro a w h
  refine by_bool h (fun hc39 h => (by exfalso; exact absurd hc39 (by decide))) (fun hc39 h => ?_)
  refine gL h (zp (.pickF rfl rfl) (zm rfl ?_)); clear h; intro a w h
  refine wpl_guard 41 h rfl rfl (op_callW h (vs := [_, _, _]) rfl Tryz.call32 (C_failsL _ _ 2 (by decide) fE5_p) (by simp) (by decide) ?_); clear h; intro a w h
  refine gL h (zq 41 rfl rfl (.unOp rfl (un_not _)) ?_); clear h; intro a w h
  refine by_bool h (fun hc43 h => (by exfalso; exact absurd hc43 (by decide))) (fun hc43 h => ?_)
  refine gL h (zp (.pickF rfl rfl) (zm rfl ?_)); clear h; intro a w h
  refine wpl_guard 45 h rfl rfl (op_callW h (vs := [_, _, _]) rfl Tryz.call32 (C_failsL _ _ 1 (by decide) fE6_p) (by simp) (by decide) ?_); clear h; intro a w h
  refine gL h (zq 45 rfl rfl (.unOp rfl (un_not _)) ?_); clear h; intro a w h
  refine by_bool h (fun hc47 h => (by exfalso; exact absurd hc47 (by decide))) (fun hc47 h => ?_)
  refine gL h (zp (.pickF rfl rfl) (zm rfl ?_)); clear h; intro a w h
  refine wpl_guard 49 h rfl rfl (op_callW h (vs := [_, _, _]) rfl Tryz.call32 (C_failsL _ _ 2 (by decide) fE7_p) (by simp) (by decide) ?_); clear h; intro a w h
  refine gL h (zq 49 rfl rfl (.unOp rfl (un_not _)) ?_); clear h; intro a w h
  refine by_bool h (fun hc51 h => (by exfalso; exact absurd hc51 (by decide))) (fun hc51 h => ?_)
  refine gL h (zp (.pickF rfl rfl) (zn ?_)); clear h; intro a w h
  change Code.wp _ _ _ _ _
  refine cond_false h rfl ?_
  refine gC h (zk (zs (zr (zw [_, _, _] rfl Tryz.call32 (C_failsL _ _ 2 (by decide) fE8_p) ?_)))); clear h; intro a w h
  refine by_bool h (fun hc53 h => ?_) (fun hc53 h => (by exfalso; exact absurd hc53 (by decide)))
  refine gL h (zm rfl ?_); clear h; intro a w h
  refine wpl_guard 54 h rfl rfl (op_callW h (vs := [_, _, _]) rfl Tryz.call32 (C_failsL _ _ 3 (by decide) fE9_p) (by simp) (by decide) ?_); clear h; intro a w h
  refine by_bool h (fun hc55 h => ?_) (fun hc55 h => (by exfalso; exact absurd hc55 (by decide)))
  refine gL h (zp (.pickT rfl rfl) (zm rfl ?_)); clear h; intro a w h
  refine wpl_guard 57 h rfl rfl (op_callW h (vs := [_, _, _]) rfl Tryz.call32 (C_failsL _ _ 1 (by decide) fE10_p) (by simp) (by decide) ?_); clear h; intro a w h
  refine by_bool h (fun hc58 h => ?_) (fun hc58 h => (by exfalso; exact absurd hc58 (by decide)))
  refine gL h (zp (.pickT rfl rfl) (zm rfl ?_)); clear h; intro a w h
  refine wpl_guard 60 h rfl rfl (op_callW h (vs := [_, _, _]) rfl Tryz.call32 (C_failsL _ _ 3 (by decide) fE11_p) (by simp) (by decide) ?_); clear h; intro a w h
  refine by_bool h (fun hc61 h => ?_) (fun hc61 h => (by exfalso; exact absurd hc61 (by decide)))
  refine gL h (zp (.pickT rfl rfl) (zm rfl ?_)); clear h; intro a w h
  refine wpl_guard 63 h rfl rfl (op_callW h (vs := [_, _, _]) rfl Tryz.call32 (C_failsL _ _ 5 (by decide) fE12_p) (by simp) (by decide) ?_); clear h; intro a w h
  refine by_bool h (fun hc64 h => ?_) (fun hc64 h => (by exfalso; exact absurd hc64 (by decide)))
  refine gL h (zp (.pickT rfl rfl) (zm rfl ?_)); clear h; intro a w h
  refine wpl_guard 66 h rfl rfl (op_callW h (vs := [_, _, _]) rfl Tryz.call32 (C_failsL _ _ 1 (by decide) fE13_p) (by simp) (by decide) ?_); clear h; intro a w h
  refine by_bool h (fun hc67 h => ?_) (fun hc67 h => (by exfalso; exact absurd hc67 (by decide)))
  refine gL h (zp (.pickT rfl rfl) (zm rfl ?_)); clear h; intro a w h
  refine wpl_guard 69 h rfl rfl (op_callW h (vs := [_, _, _]) rfl Tryz.call32 (C_failsL _ _ 16 (by decide) fE14_p) (by simp) (by decide) ?_); clear h; intro a w h
  refine by_bool h (fun hc70 h => ?_) (fun hc70 h => (by exfalso; exact absurd hc70 (by decide)))
  refine gL h (zp (.pickT rfl rfl) (za rfl (zn (zt ?_)))); clear h; intro a w h
  refine retV h (results1 h rfl (.tmp rfl)) ?_
  rfl
end
section
section
variable {s : ByteArray} {ins : Ins} {k e f : Nat} {p : List Tm} {er : Fa}
def StopE (s : ByteArray) (e : Nat) : Prop := blkE s e = e ∧ takesE s 94 e = false ∧ takesE s 42 e = false ∧ takesE s 47 e = false ∧ takesE s 43 e = false ∧ takesE s 45 e = false
theorem factE_stop (h : baseE s ins k = .ok (p, e)) (hs : StopE s e) : factE s ins k = .ok (p, e) := by rw [factE_one h hs.2.1, hs.1]
theorem termI_stop (h : factE s ins k = .ok (p, e)) (hs : StopE s e) : termI s ins k = .ok (p, e) := by rw [termI_ok h, termE_stop hs.2.2.1 hs.2.2.2.1, hs.1]
theorem sumI_stop (h0 : takesE s 45 k = false) (hb : blkE s k = k) (h : termI s ins k = .ok (p, e)) (hs : StopE s e) : sumI s ins k = .ok (p, e) := by
  have h1 : termI s ins (if takesE s 45 k = true then blkE s k + 1 else blkE s k) = .ok (p, e) := by rw [h0]; simp only [Bool.false_eq_true, if_false]; rw [hb]; exact h
  rw [sumI_ok h1, h0]
  simp only [Bool.false_eq_true, if_false]
  rw [sumL_stop hs.2.2.2.2.1 hs.2.2.2.2.2, hs.1]
theorem sumI_base (h0 : takesE s 45 k = false) (hb : blkE s k = k) (h : baseE s ins k = .ok (p, e)) (hs : StopE s e) : sumI s ins k = .ok (p, e) :=
  sumI_stop h0 hb (termI_stop (factE_stop h hs) hs) hs
theorem sumI_berr (h0 : takesE s 45 k = false) (hb : blkE s k = k) (h : baseE s ins k = .error er) : sumI s ins k = .error er := by
  refine sumI_err ?_
  rw [h0]; simp only [Bool.false_eq_true, if_false]; rw [hb]; exact termI_err (factE_err h)
end
theorem chA_mk (l : List UInt8) (k : Nat) : chA ⟨l.toArray⟩ k = (l.getD k 0).toNat := rfl
theorem blkE_not {s : ByteArray} {k : Nat} (h : chA s k ≠ 32) : blkE s k = k := blkE_fix (fun hh => h hh.2)
theorem takesE_at {s : ByteArray} {c k : Nat} (hk : k < s.size) (hb : chA s k ≠ 32) (h : chA s k = c) : takesE s c k = true := by
  have e := blkE_not hb
  unfold takesE nextE; rw [e, if_neg (by omega), h, decide_eq_true rfl, decide_eq_false (by omega)]; rfl
theorem takesE_ne {s : ByteArray} {c k : Nat} (hb : chA s k ≠ 32) (h : chA s k ≠ c) (hc : c ≠ 0) : takesE s c k = false := by
  have e := blkE_not hb
  unfold takesE nextE; rw [e]
  split
  · rw [decide_eq_false (fun h => hc h.symm)]; rfl
  · rw [decide_eq_false h]; rfl
theorem stopE_of {s : ByteArray} {k : Nat} (h : chA s k = 41 ∨ chA s k = 0) : StopE s k := by
  have hb : chA s k ≠ 32 := by omega
  refine ⟨blkE_not hb, takesE_ne hb (by omega) (by decide), takesE_ne hb (by omega) (by decide), takesE_ne hb (by omega) (by decide), takesE_ne hb (by omega) (by decide), takesE_ne hb (by omega) (by decide)⟩
theorem trimE_not {s : ByteArray} {n : Nat} (h0 : 0 < n) (h : chA s (n - 1) ≠ 32) : trimE s n = n := by
  obtain ⟨m, rfl⟩ : ∃ m, n = m + 1 := ⟨n - 1, by omega⟩
  rw [trimE, if_neg (by simpa using h)]
theorem extract_all (s : ByteArray) : s.extract 0 s.size = s := by
  apply ByteArray.ext
  rw [ByteArray.data_extract]
  have : s.size = s.data.size := rfl
  rw [this]; simp
theorem parseE_not {s : ByteArray} (hs : s.size ≤ 4096) (h0 : 0 < s.size) (h : chA s (s.size - 1) ≠ 32) : parseE s = readE s := by
  unfold parseE; rw [if_neg (by omega), trimE_not h0 h, extract_all]
def opn (c : UInt8) (n : Nat) : ByteArray := ⟨(List.replicate n c).toArray⟩
theorem opn_step (c : UInt8) (n : Nat) : opn c n ++ ⟨#[c]⟩ = opn c (n + 1) := by
  unfold opn
  apply ByteArray.ext
  rw [ByteArray.data_append]
  apply Array.ext'
  rw [Array.toList_append]
  show List.replicate n c ++ [c] = List.replicate (n + 1) c
  exact List.replicate_succ'.symm
theorem opn_size (c : UInt8) (n : Nat) : (opn c n).size = n := by
  show (List.replicate n c).toArray.size = n
  simp
def nestS (n : Nat) : ByteArray := opn 40 n ++ ⟨#[120]⟩ ++ opn 41 n
theorem nest_list (n : Nat) : (nestS n).data.toList = List.replicate n 40 ++ ([120] ++ List.replicate n 41) := by
  unfold nestS opn
  rw [ByteArray.data_append, ByteArray.data_append, Array.toList_append, Array.toList_append, List.append_assoc]
theorem nest_size (n : Nat) : (nestS n).size = 2 * n + 1 := by
  have h := congrArg List.length (nest_list n)
  have e : (nestS n).data.toList.length = (nestS n).size := rfl
  rw [e] at h; rw [h]; simp; omega
theorem nest_at (n i : Nat) : chA (nestS n) i = if i < n then 40 else if i = n then 120 else if i < 2 * n + 1 then 41 else 0 := by
  unfold chA
  rw [nest_list]
  split
  · rename_i h
    simp [List.getD, List.getElem?_append_left (show i < (List.replicate n (40 : UInt8)).length by simpa using h), h]
  · rename_i h
    have e1 : (List.replicate n (40 : UInt8) ++ ([120] ++ List.replicate n 41))[i]? = ([120] ++ List.replicate n 41)[i - n]? := by
      rw [List.getElem?_append_right (by simp; omega)]; simp
    rw [List.getD, e1]
    split
    · rename_i h2; subst h2; simp
    · rename_i h2
      rw [List.getElem?_append_right (by simp; omega)]
      split
      · rename_i h3
        simp [show i - n - 1 < n by omega]
      · rename_i h3
        simp [show ¬ i - n - 1 < n by omega]
theorem nest_ok (n : Nat) : ∀ l j, j ≤ n → n ≤ j + l → sumE (nestS n) l j = .ok ([⟨1, 0, 1⟩], 2 * n + 1 - j) := by
  have hz := nest_size n
  have stop : ∀ j, j ≤ n → StopE (nestS n) (2 * n + 1 - j) := fun j hj => stopE_of (by
    rw [nest_at, if_neg (by omega), if_neg (by omega)]
    split
    · exact .inl rfl
    · exact .inr rfl)
  have last : ∀ ins : Ins, sumI (nestS n) ins n = .ok ([⟨1, 0, 1⟩], 2 * n + 1 - n) := fun ins => by
    have h1 : chA (nestS n) n = 120 := by rw [nest_at, if_neg (by omega), if_pos rfl]
    have h2 := baseE_x (ins := ins) (takesE_at (s := nestS n) (c := 120) (k := n) (by omega) (by omega) h1)
    rw [blkE_not (by omega)] at h2
    rw [show 2 * n + 1 - n = n + 1 by omega]
    have h3 := stop n (Nat.le_refl _)
    rw [show 2 * n + 1 - n = n + 1 by omega] at h3
    exact sumI_base (takesE_ne (by omega) (by omega) (by decide)) (blkE_not (by omega)) h2 h3
  intro l
  induction l with
  | zero =>
    intro j h1 h2
    have e : j = n := by omega
    subst e; exact last none
  | succ l ih =>
    intro j h1 h2
    by_cases e : j = n
    · subst e; exact last _
    · have h3 : chA (nestS n) j = 40 := by rw [nest_at, if_pos (by omega)]
      have h4 := ih (j + 1) (by omega) (by omega)
      have h5 : chA (nestS n) (2 * n + 1 - (j + 1)) = 41 := by rw [nest_at, if_neg (by omega), if_neg (by omega), if_pos (by omega)]
      have hne : chA (nestS n) j ≠ 32 := by omega
      refine sumI_base (takesE_ne hne (by omega) (by decide)) (blkE_not hne) ?_ (stop j h1)
      rw [baseE_br (takesE_ne hne (by omega) (by decide)) (takesE_ne hne (by omega) (by decide)) (takesE_at (by omega) hne h3), blkE_not hne]
      unfold brE
      simp only [h4, takesE_at (s := nestS n) (c := 41) (k := 2 * n + 1 - (j + 1)) (by omega) (by omega) h5, if_true]
      rw [blkE_not (by omega), show 2 * n + 1 - (j + 1) + 1 = 2 * n + 1 - j by omega]
theorem nest_err (n : Nat) (hn : 32 < n) : ∀ l j, j + l = 32 → sumE (nestS n) l j = .error (3, 32) := by
  have hz := nest_size n
  have br : ∀ ins j, j < n → baseE (nestS n) ins j = brE (nestS n) ins j (j + 1) := fun ins j hj => by
    have h3 : chA (nestS n) j = 40 := by rw [nest_at, if_pos (by omega)]
    have hne : chA (nestS n) j ≠ 32 := by omega
    rw [baseE_br (takesE_ne hne (by omega) (by decide)) (takesE_ne hne (by omega) (by decide)) (takesE_at (by omega) hne h3), blkE_not hne]
  intro l
  induction l with
  | zero =>
    intro j hj
    have e : j = 32 := by omega
    subst e
    have h3 : chA (nestS n) 32 = 40 := by rw [nest_at, if_pos (by omega)]
    exact sumI_berr (takesE_ne (by omega) (by omega) (by decide)) (blkE_not (by omega)) (by rw [br _ _ (by omega)]; rfl)
  | succ l ih =>
    intro j hj
    have h3 : chA (nestS n) j = 40 := by rw [nest_at, if_pos (by omega)]
    have h4 := ih (j + 1) (by omega)
    exact sumI_berr (takesE_ne (by omega) (by omega) (by decide)) (blkE_not (by omega)) (by rw [br _ _ (by omega)]; unfold brE; simp only [h4])
theorem nest_parse (n : Nat) (hn : n ≤ 255) : parseE (nestS n) = if n ≤ 32 then .ok [⟨1, 0, 1⟩] else .error (3, 32) := by
  have hz := nest_size n
  have hl : chA (nestS n) ((nestS n).size - 1) ≠ 32 := by
    rw [hz, nest_at]; split
    · decide
    · split
      · decide
      · split <;> decide
  rw [parseE_not (by omega) (by omega) hl]
  unfold readE
  by_cases h : n ≤ 32
  · rw [if_pos h, nest_ok n 32 0 (Nat.zero_le _) (by omega)]
    have hb : blkE (nestS n) (2 * n + 1 - 0) = 2 * n + 1 := by
      rw [Nat.sub_zero]; exact blkE_fix (fun hh => by omega)
    simp only [hb, hz, Nat.lt_irrefl, if_false]
  · rw [if_neg h, nest_err n (by omega) 32 0 rfl]
def bS (m : Nat) : ByteArray := ⟨(121 :: List.replicate (m - 1) 32).toArray⟩
theorem bS_size {m : Nat} (h : 0 < m) : (bS m).size = m := by
  show (121 :: List.replicate (m - 1) (32 : UInt8)).toArray.size = m
  simp; omega
theorem bS_eq {m : Nat} (h : 0 < m) : (⟨((List.replicate m (32 : UInt8) ++ List.replicate (m - m) 0).set 0 121).toArray⟩ : ByteArray) = bS m := by
  obtain ⟨k, rfl⟩ : ∃ k, m = k + 1 := ⟨m - 1, by omega⟩
  unfold bS
  rw [Nat.sub_self, List.replicate_zero, List.append_nil, List.replicate_succ]; rfl
theorem bS_at {m j : Nat} (h1 : 1 ≤ j) (h2 : j < m) : chA (bS m) j = 32 := by
  unfold bS; rw [chA_mk]
  obtain ⟨i, rfl⟩ : ∃ i, j = i + 1 := ⟨j - 1, by omega⟩
  rw [List.getD_cons_succ]
  simp [List.getD, show i < m - 1 by omega]
theorem bS_trim {m : Nat} (h : 0 < m) : ∀ n, n < m → trimE (bS m) (n + 1) = 1
  | 0, _ => trimE_not (by decide) (by unfold bS; rw [chA_mk]; show (121 : UInt8).toNat ≠ 32; decide)
  | n + 1, hn => by rw [trimE, if_pos (bS_at (by omega) hn)]; exact bS_trim h n (by omega)
theorem bS_parse {m : Nat} (h : 0 < m) : parseE (bS m) = if m > 4096 then .error (3, 0) else .ok [⟨0, 1, 1⟩] := by
  have hz := bS_size h
  unfold parseE
  rw [hz]
  split
  · rfl
  · have h1 : trimE (bS m) m = 1 := by
      have := bS_trim h (m - 1) (by omega)
      rwa [show m - 1 + 1 = m by omega] at this
    rw [h1]
    have h2 : (bS m).extract 0 1 = ⟨#[121]⟩ := by
      apply ByteArray.ext
      rw [ByteArray.data_extract]
      apply Array.ext'
      rw [Array.toList_extract, List.extract_eq_take_drop]
      rfl
    rw [h2]
    exact okX_ok (by decide +kernel)
theorem fill_step (j m : Nat) (h : j < m) : (List.replicate j (32 : UInt8) ++ List.replicate (m - j) 0).set j 32 = List.replicate (j + 1) 32 ++ List.replicate (m - (j + 1)) 0 := by
  obtain ⟨k, hk⟩ : ∃ k, m - j = k + 1 := ⟨m - j - 1, by omega⟩
  rw [hk, show m - (j + 1) = k by omega, List.replicate_succ, List.set_append_right _ _ (by simp), List.length_replicate, Nat.sub_self, List.set_cons_zero, List.replicate_succ', List.append_assoc]; rfl
end
section
theorem cv_32_3 (x : Int) (w : World) : (Go.convert 32 3 (.int .u16 x)).run Tryz.prog w = .ok (.int .i64 (IntKind.i64.wrap x)) w := by
  simp [go_sem]
theorem cv_32_3b (x : Int) (h0 : IntKind.i64.wrap x = x) (w : World) : (Go.convert 32 3 (.int .u16 x)).run Tryz.prog w = .ok (.int .i64 x) w := by
  rw [cv_32_3, h0]
theorem len_slice_35 (a : Option Addr) (n c : Nat) (w : World) (ty : TypeId) (cs : Array Bool) : (Go.builtin .len #[35] ty cs #[.slice a n c]).run Tryz.prog w = .ok (.value (.int .i64 n)) w := by
  simp [go_sem]
theorem ix_35 (b off n c j : Nat) (h : j < n) (w : World) : (Instr.indexAt 35 (.slice (some ⟨b, off, none⟩) n c) (.int .i64 (j : Int))).run Tryz.prog w = .ok (.pointer (some ⟨b, off + j, none⟩)) w := by
  simpa using indexAt_slice Tryz.runUnderlying35 Tryz.sizeOf5 b off n c j h w
theorem bd_28_0 (x0 : Int) (w : World) : (Instr.build 28 [(0, .int .i64 x0)].toArray).run Tryz.prog w = .ok (.agg #[.int .i64 x0, .int .i64 0]) w := by simp [go_sem]
theorem map_reps_by (n : Nat) : List.map (fun b : UInt8 => Value.int .u8 (b.toNat : Int)) (List.replicate n 0) = reps n (Value.cells (.int .u8 0)).toList := by
  rw [show (Value.cells (.int .u8 0)).toList = [Value.int .u8 0] from rfl, reps_one]; simp
theorem grow_own {b m : Nat} {E : TypeId} {bs : List UInt8} {σ : List (Nat × Obj)} (h : bs.length = m) : Grow 1 E (.slice (some ⟨b, 0, none⟩) m m) m (u8s bs) ((b, Obj.cells (List.map (fun b : UInt8 => Value.int .u8 (b.toNat : Int)) bs).toArray E (0, 0)) :: σ) σ :=
  ⟨by simp [h], .inr ⟨b, m, [], rfl, by simp [h], Nat.le_refl _, by rw [List.append_nil]⟩⟩
theorem sz1 (c : UInt8) : (⟨#[c]⟩ : ByteArray).size = 1 := rfl
set_option maxHeartbeats 2000000 in
theorem C_ExprsNests (n mo : Nat) (hn : n ≤ 255) (hmo : mo ≤ 65535) : CtrW Tryz.prog 4 [.int .u8 ((n : Nat) : Int), .int .u16 ((mo : Nat) : Int)] [] (.bool true) := by
  have hP := nest_parse n hn
  refine fn_intro Tryz.func4 rfl Tryz.ntmps4 nb ?_
  intro S w0 a hS h
  refine gC h (zs (zr (za rfl (zn (zs (zr (za rfl (za rfl (zn (zs (zs (zr (za rfl (zn (zb ?_))))))))))))))); clear h; intro a w h
  refine wp_loop_inv (fun (i : Nat) a w => i ≤ n ∧ St 106 S w0 [(0, .int .u8 (((n : Nat) : Int))), (1, .int .u16 (((mo : Nat) : Int))), (4, .bool false), (5, .string (opn 40 i)), (6, .string (opn 41 i)), (7, .int .i64 ((i : Nat) : Int))] [] [] a w) (fun i => n - i) 0 (⟨Nat.zero_le _, by exact (h).sub (subL ⟨rfl, rfl, rfl, rfl, rfl, rfl, trivial⟩)⟩) ?_; clear h
  rintro i a w ⟨hi_i, h⟩
  refine gC h (zs (zs (zr (zm rfl (zm rfl (zp (.convert rfl (cv_5_3b _ (wrap_i64 _ (by omega) (by omega)))) (zp (.lss rfl rfl) (zn ?_)))))))); clear h; intro a w h
  change Code.wp _ _ _ _ _
  refine cond_split h rfl (fun hc17 => ?_) (fun hc17 => ?_)
  · skip
    have hlt_i : i < n := by have := of_decide_eq_true hc17; omega
    refine gC h (zk (zs (zb (zs (zr (zm rfl (zp (.binOp rfl rfl (fun _ => run_sadd _ _ _ _ _ (by simp only [ByteArray.size_append, opn_size, sz1]; omega))) (za rfl (zn (zr (zm rfl (zp (.binOp rfl rfl (fun _ => run_sadd _ _ _ _ _ (by simp only [ByteArray.size_append, opn_size, sz1]; omega))) (za rfl (zn (zr (zm rfl (zp (Pure1.cast (v' := (.int .i64 ((i + 1 : Nat) : Int))) (.add rfl rfl) (by show Value.int _ _ = Value.int _ _; congr 1)) (za rfl (zn ?_))))))))))))))))))); clear h; intro a w h
    rw [opn_step, opn_step] at h
    exact ⟨i + 1, ⟨by omega, h.sub sA⟩, by omega⟩
  · skip
    have heq_i : n = i := by have := of_decide_eq_false hc17; omega
    subst heq_i
    refine gC h (ze (zs (zr (zm rfl (zp (.binOp rfl rfl (fun _ => run_sadd _ _ _ _ _ (by simp only [ByteArray.size_append, opn_size, sz1]; omega))) (zm rfl (zp (.binOp rfl rfl (fun _ => run_sadd _ _ _ _ _ (by simp only [ByteArray.size_append, opn_size, sz1]; omega))) (zf [_] rfl Tryz.call11 (C_ParseX (nestS n) (by rw [nest_size]; omega)) ?_)))))))); clear h; rintro v29 Ψ29 ⟨ad29, c29, rfl, rfl⟩ a w h
    refine gL h (zm rfl (zp (.extract rfl (fun _ => rfl)) (zp (.extract rfl (fun _ => rfl)) (zz zeroFa fun b9 => za rfl (zt' rfl rfl (st_2_0_2 _ _ _ _) uu Tryz.sizeOf28 rfl nb rfl ?_))))); clear h; intro a w h
    refine wpList_nil ?_
    change Code.wp _ _ _ _ _
    refine wp_join (fun a w => St 106 S w0 [(1, .int .u16 ((mo : Nat) : Int))] [] [] a w) ?_ ?_
    · skip
      refine gC h (zs (zr (zm rfl (zp (.gtr rfl rfl) ?_)))); clear h; intro a w h
      refine by_bool h (fun hc33 h => ?_) (fun hc33 h => ?_)
      · skip
        have hn32 : ¬ n ≤ 32 := by have := of_decide_eq_true hc33; omega
        rw [if_neg hn32] at hP
        obtain ⟨hq1, hq2, hq3⟩ := res_err hP
        refine gL h (zm rfl (zq 34 rfl rfl (.move rfl) (zq 34 rfl rfl (.builtin [_] rfl (len_slice_25 _ _ _)) (zq 34 rfl rfl (.neq rfl rfl) ?_)))); clear h; intro a w h
        refine by_bool h (fun hc37 h => (by exfalso; rw [hq1] at hc37; exact absurd hc37 (by decide))) (fun hc37 h => ?_)
        refine gL h (zq 34 rfl rfl (.move rfl) ?_); clear h; intro a w h
        refine wpl_guard 38 h rfl rfl (op_load h rfl mr Tryz.isAgg28 Tryz.sizeOf28 (rd_2_0_2 _ _) (by decide) ?_); clear h; intro a h
        refine gL h (zq 38 rfl rfl (.build [(_, _), (_, _)] rfl (bd_28_0_1 _ _)) (zq 38 rfl rfl (.binOp rfl rfl (fun _ => run_neFa _ _ ((rE (nestS n), ((rI (nestS n) : Nat) : Int))) (3, 32) _)) ?_)); clear h; intro a w h
        refine by_bool h (fun hc41 h => (by exfalso; rw [hq2, hq3] at hc41; exact absurd hc41 (by decide))) (fun hc41 h => ?_)
        refine gL h (zq 34 rfl rfl (.pickF rfl rfl) (zp (.pickT rfl rfl) (zm rfl (zq 44 rfl rfl (.move rfl) (zq 44 rfl rfl (.leq rfl rfl) ?_))))); clear h; intro a w h
        refine by_bool h (fun hc46 h => (by exfalso; have := of_decide_eq_true hc46; omega)) (fun hc46 h => ?_)
        refine gL h (zq 44 rfl rfl (.move rfl) (zo 47 rfl rfl rfl (zo 47 rfl rfl rfl (zo 47 rfl rfl rfl (zo 47 rfl rfl rfl (zu 51 rfl rfl (zu 51 rfl rfl (zu 51 rfl rfl (zu 51 rfl rfl (zo 47 rfl rfl rfl (zq 44 rfl rfl (.pickF rfl rfl) (zp (.pickF rfl rfl) (zn ?_))))))))))))); clear h; intro a w h
        change Code.wp _ _ _ _ _
        refine cond_false h rfl ?_
        refine wp_skip ?_
        exact ((h.drop (List.nil_sublist _)).factsSub (by simp)).sub sA
      · skip
        have hn32 : n ≤ 32 := by have := of_decide_eq_false hc33; omega
        rw [if_pos hn32] at hP
        obtain ⟨hq1, hq2, hq3⟩ := res_ok hP
        refine gL h (zm rfl (zo 34 rfl rfl rfl (zo 34 rfl rfl rfl (zo 34 rfl rfl rfl (zo 34 rfl rfl rfl (zu 38 rfl rfl (zu 38 rfl rfl (zu 38 rfl rfl (zo 34 rfl rfl rfl (zp (.pickF rfl rfl) (zm rfl (zq 44 rfl rfl (.move rfl) (zq 44 rfl rfl (.leq rfl rfl) ?_))))))))))))); clear h; intro a w h
        refine by_bool h (fun hc46 h => ?_) (fun hc46 h => (by exfalso; have := of_decide_eq_false hc46; omega))
        refine gL h (zq 44 rfl rfl (.move rfl) ?_); clear h; intro a w h
        refine wpl_guard 47 h rfl rfl (op_load h rfl mr Tryz.isAgg28 Tryz.sizeOf28 (rd_2_0_2 _ _) (by decide) ?_); clear h; intro a h
        refine gL h (zq 47 rfl rfl (.build [] rfl (bd_28_z)) (zq 47 rfl rfl (.binOp rfl rfl (fun _ => run_neFa _ _ ((rE (nestS n), ((rI (nestS n) : Nat) : Int))) (0, 0) _)) ?_)); clear h; intro a w h
        refine by_bool h (fun hc50 h => (by exfalso; rw [hq2, hq3] at hc50; exact absurd hc50 (by decide))) (fun hc50 h => ?_)
        refine gL h (zq 47 rfl rfl (.move rfl) (zq 51 rfl rfl (.move rfl) ?_)); clear h; intro a w h
        refine wpl_guard 51 h rfl rfl (op_call h (vs := []) rfl Tryz.call13 (C_X) (by simp) (by decide) ?_); clear h; rintro v53 Ψ53 a w ⟨ad53, rfl, rfl⟩ h
        refine wpl_guard 51 h rfl rfl (op_callW h (vs := [_, _]) rfl Tryz.call12 (C_pSame (rP (nestS n)) [⟨1, 0, 1⟩] _ _ _ _ 12 12 6400 6400 (rP_gd _).pq Gd.x.pq (by decide) (by decide) (by decide) (by decide)) (by simp) (by decide) ?_); clear h; intro a w h
        refine gL h (zq 51 rfl rfl (.unOp rfl (un_not _)) ?_); clear h; intro a w h
        refine by_bool h (fun hc55 h => (by exfalso; rw [hq1] at hc55; exact absurd hc55 (by simp))) (fun hc55 h => ?_)
        refine gL h (zq 47 rfl rfl (.pickF rfl rfl) (zq 44 rfl rfl (.pickT rfl rfl) (zp (.pickF rfl rfl) (zn ?_)))); clear h; intro a w h
        change Code.wp _ _ _ _ _
        refine cond_false h rfl ?_
        refine wp_skip ?_
        exact ((h.drop (List.nil_sublist _)).factsSub (by simp)).sub sA
    · clear h
      intro a w h
      refine gC h (zs (zr (zm rfl (zp (Pure1.cast (v' := .int .u16 ((mo % 200 : Nat) : Int)) (.binOp rfl rfl (fun _ => run_rem _ _ _ _ _ (by decide))) (by exact congrArg (Value.int .u16) (tmod_nat mo 200))) (zp (.convert rfl (cv_32_3b _ (wrap_i64 _ (by omega) (by omega)))) (zp (Pure1.cast (v' := (.int .i64 ((4000 + (mo % 200) : Nat) : Int))) (.add rfl rfl) (by show Value.int _ _ = Value.int _ _; congr 1)) ?_)))))); clear h; intro a w h
      obtain ⟨m, hm⟩ : ∃ m, m = 4000 + mo % 200 := ⟨_, rfl⟩
      rw [← hm] at h
      have hm0 : 0 < m := by omega
      have hm1 : m ≤ 4199 := by have := Nat.mod_lt mo (show 0 < 200 by decide); omega
      have hB := bS_parse hm0
      refine wpl_plain (op_makeSlice h rfl rfl Tryz.runUnderlying35 Tryz.typeInfo5 Tryz.sizeOf5 Tryz.zeroValue5 rfl (by decide) (by exact Nat.le_refl _) (by show 1 * (m) ≤ 281474976710656; omega) (by omega) (by decide) ?_); clear h; intro b63 a w h; replace h := h.same rfl (by rw [← map_reps_by]) rfl
      refine gL h (za rfl (zn (zs (zs (zr (za rfl (zn (zb ?_)))))))); clear h; intro a w h
      refine wp_loop_inv (fun (j : Nat) a w => j ≤ m ∧ St 106 S w0 [(10, .slice (some ⟨b63, 0, none⟩) m m), (11, .int .i64 ((j : Nat) : Int))] [(b63, .cells (List.map (fun b : UInt8 => Value.int .u8 (b.toNat : Int)) (List.replicate j 32 ++ List.replicate (m - j) 0)).toArray 5 (0, 0))] [] a w) (fun j => m - j) 0 (⟨Nat.zero_le _, by exact (h).sub (subL ⟨rfl, rfl, trivial⟩)⟩) ?_; clear h
      rintro j a w ⟨hi_j, h⟩
      refine gC h (zs (zs (zr (zm rfl (zm rfl (zp (.builtin [_] rfl (len_slice_35 _ _ _)) (zp (.lss rfl rfl) (zn ?_)))))))); clear h; intro a w h
      change Code.wp _ _ _ _ _
      refine cond_split h rfl (fun hc67 => ?_) (fun hc67 => ?_)
      · skip
        have hlt_j : j < m := by have := of_decide_eq_true hc67; omega
        refine gC h (zk (zs (zb (zr (zm rfl (zm rfl (zp (.indexAddr rfl rfl (ix_35 _ _ _ _ _ (by omega))) (zt' rfl rfl ((congrArg (fun z => setFrom _ z _) (Nat.zero_add _)).trans (set_row (enc := (fun b : UInt8 => Value.int .u8 (b.toNat : Int))) (List.replicate j 32 ++ List.replicate (m - j) 0) j 32)) uu Tryz.sizeOf5 rfl (by simp; omega) rfl ?_)))))))); clear h; intro a w h
        refine gL h (zn (zr (zm rfl (zp (Pure1.cast (v' := (.int .i64 ((j + 1 : Nat) : Int))) (.add rfl rfl) (by show Value.int _ _ = Value.int _ _; congr 1)) (za rfl (zn ?_)))))); clear h; intro a w h
        rw [fill_step j m hlt_j] at h
        exact ⟨j + 1, ⟨by omega, h.sub sA⟩, by omega⟩
      · skip
        have heq_j : m = j := by have := of_decide_eq_false hc67; omega
        subst heq_j
        refine gC h (ze (zs (zr (zm rfl (zp (.indexAddr rfl rfl (ix_35 _ _ _ _ 0 (by omega))) (zt' rfl rfl ((congrArg (fun z => setFrom _ z _) (Nat.zero_add _)).trans (set_row (enc := (fun b : UInt8 => Value.int .u8 (b.toNat : Int))) (List.replicate m 32 ++ List.replicate (m - m) 0) 0 121)) uu Tryz.sizeOf5 rfl (by simp; omega) rfl ?_)))))); clear h; intro a w h
        refine gL h (zn (zs (zr (zm rfl ?_)))); clear h; intro a w h
        refine wpl_plain (op_toString h rfl (grow_own (by simp)) Tryz.runUnderlying35 Tryz.runUnderlying9 Tryz.runUnderlying5 (by decide) ?_); clear h; intro a h
        rw [bS_eq hm0] at h
        refine gL h (zf [_] rfl Tryz.call11 (C_ParseX (bS m) (by rw [bS_size (by omega)]; omega)) ?_); clear h; rintro v78 Ψ78 ⟨ad78, c78, rfl, rfl⟩ a w h
        refine gL h (zm rfl (zp (.extract rfl (fun _ => rfl)) (zp (.extract rfl (fun _ => rfl)) (zz zeroFa fun b13 => za rfl (zt' rfl rfl (st_2_0_2 _ _ _ _) uu Tryz.sizeOf28 rfl nb rfl ?_))))); clear h; intro a w h
        refine gL h (zn (zs (zs (zr (zm rfl (zp (.builtin [_] rfl (len_slice_35 _ _ _)) (zp (.gtr rfl rfl) (zn ?_)))))))); clear h; intro a w h
        change Code.wp _ _ _ _ _
        refine cond_split h rfl (fun hc83 => ?_) (fun hc83 => ?_)
        · skip
          rw [if_pos (by have := of_decide_eq_true hc83; omega)] at hB
          obtain ⟨hb1, hb2, hb3⟩ := res_err hB
          refine gC h (zs (zr (zm rfl (zp (.builtin [_] rfl (len_slice_25 _ _ _)) (zp (.eql rfl rfl) ?_))))); clear h; intro a w h
          refine by_bool h (fun hc86 h => ?_) (fun hc86 h => (by exfalso; rw [hb1] at hc86; exact absurd hc86 (by decide)))
          refine gL h (zm rfl ?_); clear h; intro a w h
          refine wpl_guard 87 h rfl rfl (op_load h rfl mr Tryz.isAgg28 Tryz.sizeOf28 (rd_2_0_2 _ _) (by decide) ?_); clear h; intro a h
          refine gL h (zq 87 rfl rfl (.build [(_, _)] rfl (bd_28_0 _)) (zq 87 rfl rfl (.binOp rfl rfl (fun _ => run_eqFa _ _ ((rE (bS m), ((rI (bS m) : Nat) : Int))) (3, 0) _)) ?_)); clear h; intro a w h
          refine by_bool h (fun hc90 h => ?_) (fun hc90 h => (by exfalso; rw [hb2, hb3] at hc90; exact absurd hc90 (by decide)))
          refine gL h (zp (.pickT rfl rfl) (zm rfl ?_)); clear h; intro a w h
          refine wpl_guard 92 h rfl rfl (op_callW h (vs := []) rfl Tryz.call10 (C_works11) (by simp) (by decide) ?_); clear h; intro a w h
          refine gL h (zp (.pickT rfl rfl) (za rfl (zn (zt ?_)))); clear h; intro a w h
          refine retV h (results1 h rfl (.tmp rfl)) ?_
          rfl
        · skip
          rw [if_neg (by have := of_decide_eq_false hc83; omega)] at hB
          obtain ⟨hb1, hb2, hb3⟩ := res_ok hB
          refine gC h (zk (zs (zr (zm rfl (zf [] rfl Tryz.call14 (C_Y) ?_))))); clear h; rintro v96 Ψ96 ⟨ad96, rfl, rfl⟩ a w h
          refine gL h (zw [_, _] rfl Tryz.call12 (C_pSame (rP (bS m)) [⟨0, 1, 1⟩] _ _ _ _ 12 12 6400 6400 (rP_gd _).pq Gd.y.pq (by decide) (by decide) (by decide) (by decide)) ?_); clear h; intro a w h
          refine by_bool h (fun hc97 h => ?_) (fun hc97 h => (by exfalso; rw [hb1] at hc97; exact absurd hc97 (by simp)))
          refine gL h (zm rfl ?_); clear h; intro a w h
          refine wpl_guard 98 h rfl rfl (op_load h rfl mr Tryz.isAgg28 Tryz.sizeOf28 (rd_2_0_2 _ _) (by decide) ?_); clear h; intro a h
          refine gL h (zq 98 rfl rfl (.build [] rfl (bd_28_z)) (zq 98 rfl rfl (.binOp rfl rfl (fun _ => run_eqFa _ _ ((rE (bS m), ((rI (bS m) : Nat) : Int))) (0, 0) _)) ?_)); clear h; intro a w h
          refine by_bool h (fun hc101 h => ?_) (fun hc101 h => (by exfalso; rw [hb2, hb3] at hc101; exact absurd hc101 (by decide)))
          refine gL h (zp (.pickT rfl rfl) (zm rfl ?_)); clear h; intro a w h
          refine wpl_guard 103 h rfl rfl (op_callW h (vs := []) rfl Tryz.call10 (C_works11) (by simp) (by decide) ?_); clear h; intro a w h
          refine gL h (zp (.pickT rfl rfl) (za rfl (zn (zt ?_)))); clear h; intro a w h
          refine retV h (results1 h rfl (.tmp rfl)) ?_
          rfl
end
end Go.Proofs.YtgkicbaomcmfoaaGreatDoor
