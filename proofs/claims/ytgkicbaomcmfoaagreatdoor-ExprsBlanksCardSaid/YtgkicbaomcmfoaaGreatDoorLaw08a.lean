/- Written by a program of ours (gen.py) out of short specifications. By an AI agent. -/
import Derived.Test.YtgkicbaomcmfoaaGreatDoorPolysort
set_option linter.unusedVariables false
set_option linter.unusedSimpArgs false
set_option maxRecDepth 4000
namespace Go.Proofs.YtgkicbaomcmfoaaGreatDoor
open Go Go.Proofs Go.Fx
attribute [local irreducible] Oper.wp Code.wp wpList Fx.Head wpOp
section
theorem cv_3_124 (x : Int) (w : World) : (Go.convert 3 124 (.int .i64 x)).run Tryz.prog w = .ok (.int .u64 (IntKind.u64.wrap x)) w := by
  simp [go_sem]
theorem cv_3_124b (x : Int) (h0 : IntKind.u64.wrap x = x) (w : World) : (Go.convert 3 124 (.int .i64 x)).run Tryz.prog w = .ok (.int .u64 x) w := by
  rw [cv_3_124, h0]
theorem C_IndexZ0 : CtrV Tryz.prog 131 [.slice none 0 0, .func (.func 88) #[] #[]] (.int .i64 (-1)) := by
  refine fn_intro Tryz.func131 rfl Tryz.ntmps131 nb ?_
  intro S w0 a hS h
  refine gC h (zs (zr (za rfl (zn (zs (zs (zr (zm rfl (zp (Pure1.cast (v' := .int .i64 0) (.builtin [_] rfl (len_slice_25 _ _ _)) (by rfl)) (zm rfl (zn (zb ?_)))))))))))); clear h; intro a w h
  refine wp_loop_inv (fun (u : Unit) a w => St 19 S w0 [(0, .slice none 0 0), (1, .func (.func 88) #[] #[]), (7, .int .i64 0), (8, .int .i64 0)] [] [] a w) (fun u => 0) (()) (by exact h.sub sA) ?_; clear h
  rintro u a w h
  refine gC h (zs (zr (zp (.lss rfl rfl) (zn (zs ?_))))); clear h; intro a w h
  refine cond_split h rfl (fun hc9 => (by exfalso; exact absurd (of_decide_eq_true hc9) (by decide))) (fun hc9 => ?_)
  refine gC h (ze (zs (zr (za rfl (zn (zt ?_)))))); clear h; intro a w h
  refine retV h (results1 h rfl (.tmp rfl)) ?_
  rfl
theorem C_Delete0 : CtrV Tryz.prog 87 [.slice none 0 0, .func (.func 88) #[] #[]] (.slice none 0 0) := by
  refine fn_intro Tryz.func87 rfl Tryz.ntmps87 nb ?_
  intro S w0 a hS h
  refine gC h (zs (zr (za rfl (zn (zs (zr (zm rfl (zm rfl (zv [_, _] rfl Tryz.call131 (C_IndexZ0) (za rfl (zn (zs (zs (zr (zm rfl (zp (.eql rfl rfl) (zn ?_))))))))))))))))); clear h; intro a w h
  change Code.wp _ _ _ _ _
  refine cond_split h rfl (fun hc12 => ?_) (fun hc12 => (by exfalso; exact absurd hc12 (by decide)))
  refine gC h (zs (zr (zm rfl (za rfl (zn (zt ?_)))))); clear h; intro a w h
  refine retV h (results1 h rfl (.tmp rfl)) ?_
  rfl
theorem C_SortT0 : CtrV Tryz.prog 89 [.slice none 0 0, .func (.func 48) #[] #[]] (.tuple #[]) := by
  refine fn_intro Tryz.func89 rfl Tryz.ntmps89 nb ?_
  intro S w0 a hS h
  refine gC h (zs (zr (zm rfl (zp (Pure1.cast (v' := .int .i64 ((0 : Nat) : Int)) (.builtin [_] rfl (len_slice_25 _ _ _)) (by rfl)) (za rfl (zn (zr (zm rfl (zm rfl (zm rfl (zp (Pure1.cast (v' := .int .u64 ((0 : Nat) : Int)) (.convert rfl (cv_3_124 _)) (by rfl)) (zv [_] rfl Tryz.call133 (C_bitsLen 0 (by decide)) (zm rfl (zv [_, _, _, _, _] rfl Tryz.call132 (C_pdq0 none 0 (Lib.bitLen 0) (.func (.func 48) #[] #[])) (zn ?_))))))))))))))); clear h; intro a w h
  exact end_of (Ψ := []) h (results0 rfl) ⟨rfl, rfl⟩ (fun _ hR => nomatch hR)
theorem C_SortT (b c : Nat) (p : List Tm) (R : List Value) (σ : List (Nat × Obj)) (Φ : List SPred) (hd : dif p) (hp : ∀ t ∈ p, t.i + t.j ≤ 12) (hn : p.length ≤ 1000000) :
    CtrM Tryz.prog 89 [.slice (some ⟨b, 0, none⟩) p.length c, .func (.func 48) #[] #[]] ((b, .cells (cellsOf encT p ++ R).toArray 82 (0, 0)) :: σ) Φ
      (fun v σ' Φ' => v = .tuple #[] ∧ σ' = (b, .cells (cellsOf encT (p.mergeSort fun s t => !ltT t s) ++ R).toArray 82 (0, 0)) :: σ ∧ Φ' = Φ) := by
  refine fn_introM Tryz.func89 rfl Tryz.ntmps89 nb ?_
  intro S w0 a w hS h
  refine gC h (zs (zr (zm rfl (zp (.builtin [_] rfl (len_slice_25 _ _ _)) (za rfl (zn (zr (zm rfl (zm rfl (zm rfl (zp (.convert rfl (cv_3_124b _ (wrap_u64 _ (by omega) (by omega)))) (zv [_] rfl Tryz.call133 (C_bitsLen p.length (by omega)) (zm rfl ?_))))))))))))); clear h; intro a w h
  refine wpl_plain (op_callM h hS (vs := [_, _, _, _, _]) rfl Tryz.call132 (C_pdqT b c p R (Lib.bitLen p.length) (Nat.lt_of_le_of_lt (Lib.bitLen_le p.length 62 (by omega) (by omega)) (by omega)) hd hp hn σ Φ) (List.Perm.refl _) (by simp) (by simp) ?_); clear h; rintro v13 σ13 Ψ13 a w ⟨rfl, rfl, hΦ13⟩ h
  refine wpList_nil ?_
  refine endM h (results0 rfl) ⟨rfl, rfl, hΦ13⟩ (List.Sublist.refl _) (fun _ h => h)
theorem C_Delete {v : Value} (p : List Tm) (o : List (Nat × Obj)) (hG : GrowO 7 82 v p.length (cellsOf encT p) o) (hn : p.length ≤ 1000000) (σ : List (Nat × Obj)) (Φ : List SPred) :
    CtrM Tryz.prog 87 [v, .func (.func 88) #[] #[]] (o ++ σ) Φ
      (fun v' σ' Φ' => Φ' = Φ ∧ ∃ o', GrowO 7 82 v' (p.filter (fun t => decide (t.c ≠ 0))).length (cellsOf encT (p.filter (fun t => decide (t.c ≠ 0)))) o' ∧ σ' = o' ++ σ) := by
  obtain ⟨hlen, ⟨rfl, h0, rfl⟩ | ⟨b, c, R, rfl, h2, h3, rfl⟩⟩ := hG
  · have hp : p = [] := List.eq_nil_of_length_eq_zero h0
    subst hp
    intro S w0 w hS hm
    refine (ctrV_M C_Delete0 σ Φ S w0 w hS hm).mono ?_
    rintro e w' ⟨u, σ', Ψ, he, ⟨h1, h2, h3⟩, hm'⟩
    exact ⟨u, σ', Ψ, he, ⟨h3, [], by rw [h1]; exact GrowO.nil _ _, by rw [h2]; rfl⟩, hm'⟩
  · intro S w0 w hS hm
    refine (C_DeleteB b c p R σ Φ hn h3 S w0 w hS hm).mono ?_
    rintro e w' ⟨u, σ', Ψ, he, ⟨h1, h4, R', h5, h6⟩, hm'⟩
    refine ⟨u, σ', Ψ, he, ⟨h4, [(b, _)], ?_, h6⟩, hm'⟩
    rw [h1]
    exact GrowO.close (cellsOf_length encT_size _) (h5.trans h2) (Nat.le_trans (List.length_filter_le _ _) h3)
theorem C_Sort {v : Value} (p : List Tm) (o : List (Nat × Obj)) (hG : GrowO 7 82 v p.length (cellsOf encT p) o) (hd : dif p) (hp : ∀ t ∈ p, t.i + t.j ≤ 12) (hn : p.length ≤ 1000000) (σ : List (Nat × Obj)) (Φ : List SPred) :
    CtrM Tryz.prog 89 [v, .func (.func 48) #[] #[]] (o ++ σ) Φ
      (fun v' σ' Φ' => Φ' = Φ ∧ v' = .tuple #[] ∧ ∃ o', GrowO 7 82 v p.length (cellsOf encT (p.mergeSort fun s t => !ltT t s)) o' ∧ σ' = o' ++ σ) := by
  obtain ⟨hlen, ⟨rfl, h0, rfl⟩ | ⟨b, c, R, rfl, h2, h3, rfl⟩⟩ := hG
  · have hp : p = [] := List.eq_nil_of_length_eq_zero h0
    subst hp
    intro S w0 w hS hm
    refine (ctrV_M C_SortT0 σ Φ S w0 w hS hm).mono ?_
    rintro e w' ⟨u, σ', Ψ, he, ⟨h1, h2, h3⟩, hm'⟩
    exact ⟨u, σ', Ψ, he, ⟨h3, h1, [], by rw [List.mergeSort_nil]; exact GrowO.nil _ _, by rw [h2]; rfl⟩, hm'⟩
  · intro S w0 w hS hm
    refine (C_SortT b c p R σ Φ hd hp hn S w0 w hS hm).mono ?_
    rintro e w' ⟨u, σ', Ψ, he, ⟨h1, h4, h5⟩, hm'⟩
    refine ⟨u, σ', Ψ, he, ⟨h5, h1, [(b, _)], ?_, h4⟩, hm'⟩
    have hl : (p.mergeSort fun s t => !ltT t s).length = p.length := (List.mergeSort_perm _ _).length_eq
    refine GrowO.close (by rw [cellsOf_length encT_size, hl]) ?_ h3
    rw [List.length_append, cellsOf_length encT_size, hl] at *
    exact h2
abbrev keyV (i j : Nat) : Value := .agg #[.int .i64 ((i : Nat) : Int), .int .i64 ((j : Nat) : Int)]
def pK (i j : Nat) (e : MapEntry) : Bool := match e.key with
  | .agg cs => (match cs.toList with | [.int _ a, .int _ b] => decide ((i : Int) = a ∧ (j : Int) = b) | _ => false)
  | _ => false
def esL : List Tm → Nat → List MapEntry
  | [], _ => []
  | t :: p, k => ⟨keyV t.i t.j, .int .i64 ((k : Nat) : Int), k⟩ :: esL p (k + 1)
theorem esL_snoc (t : Tm) : ∀ (p : List Tm) (k : Nat), esL (p ++ [t]) k = esL p k ++ [⟨keyV t.i t.j, .int .i64 ((k + p.length : Nat) : Int), k + p.length⟩]
  | [], k => rfl
  | s :: p, k => by
    have := esL_snoc t p (k + 1)
    rw [List.cons_append, esL, this, esL, List.length_cons, show k + 1 + p.length = k + (p.length + 1) by omega]; rfl
theorem esL_mem : ∀ (p : List Tm) (k : Nat) (e : MapEntry), e ∈ esL p k → ∃ t ∈ p, e.key = keyV t.i t.j
  | [], _, _, h => nomatch h
  | t :: p, k, e, h => by
    rcases List.mem_cons.1 h with rfl | h
    · exact ⟨t, List.mem_cons_self, rfl⟩
    · obtain ⟨s, hs, h2⟩ := esL_mem p (k + 1) e h
      exact ⟨s, List.mem_cons_of_mem _ hs, h2⟩
def fP (i j : Nat) : List Tm → Bool
  | [] => false
  | s :: p => if s.i = i ∧ s.j = j then true else fP i j p
def kP (i j : Nat) : List Tm → Nat
  | [] => 0
  | s :: p => if s.i = i ∧ s.j = j then 0 else kP i j p + 1
theorem pK_key (i j a b : Nat) (e : MapEntry) (h : e.key = keyV a b) : pK i j e = decide (a = i ∧ b = j) := by
  unfold pK; rw [h]; simp only; congr 1; apply propext; omega
theorem findE_esL (i j : Nat) : ∀ (p : List Tm) (k m : Nat), findE (pK i j) (esL p k) m = if fP i j p then some (m + kP i j p, .int .i64 ((k + kP i j p : Nat) : Int)) else none
  | [], _, _ => rfl
  | t :: p, k, m => by
    rw [esL, findE, pK_key i j t.i t.j _ rfl, findE_esL i j p (k + 1) (m + 1), fP, kP]
    by_cases h : t.i = i ∧ t.j = j
    · rw [decide_eq_true h, if_pos rfl, if_pos h, if_pos h, if_pos rfl]; rfl
    · rw [decide_eq_false h, if_neg Bool.false_ne_true, if_neg h, if_neg h]
      rcases hf : fP i j p with _ | _
      · rfl
      · rw [if_pos rfl, if_pos rfl, show m + 1 + kP i j p = m + (kP i j p + 1) by omega, show k + 1 + kP i j p = k + (kP i j p + 1) by omega]
theorem insT_old (t : Tm) : ∀ p : List Tm, fP t.i t.j p = true → kP t.i t.j p < p.length ∧ insT t p = p.set (kP t.i t.j p) ⟨(p.getD (kP t.i t.j p) T0).i, (p.getD (kP t.i t.j p) T0).j, (p.getD (kP t.i t.j p) T0).c + t.c⟩
  | [], h => by simp [fP] at h
  | s :: p, h => by
    rw [insT, kP]
    by_cases hs : same s t
    · rw [if_pos hs, if_pos (show s.i = t.i ∧ s.j = t.j from hs)]; exact ⟨by simp, rfl⟩
    · rw [if_neg hs, if_neg (show ¬ (s.i = t.i ∧ s.j = t.j) from hs)]
      have h1 : fP t.i t.j p = true := by
        rw [fP, if_neg (show ¬ (s.i = t.i ∧ s.j = t.j) from hs)] at h; exact h
      obtain ⟨h2, h3⟩ := insT_old t p h1
      refine ⟨by simp; omega, ?_⟩
      rw [h3]; rfl
theorem insT_new (t : Tm) : ∀ p : List Tm, fP t.i t.j p = false → insT t p = (p ++ [(⟨t.i, t.j, 0⟩ : Tm)]).set p.length ⟨((p ++ [(⟨t.i, t.j, 0⟩ : Tm)]).getD p.length T0).i, ((p ++ [(⟨t.i, t.j, 0⟩ : Tm)]).getD p.length T0).j, ((p ++ [(⟨t.i, t.j, 0⟩ : Tm)]).getD p.length T0).c + t.c⟩ := by
  intro p h
  have e : (p ++ [(⟨t.i, t.j, 0⟩ : Tm)]).getD p.length T0 = ⟨t.i, t.j, 0⟩ := by simp [List.getD]
  rw [e]
  induction p with
  | nil => rfl
  | cons s p ih =>
    rw [fP] at h
    split at h
    · cases h
    · rename_i hs
      rw [insT, if_neg (show ¬ same s t from hs), ih h (by simp [List.getD])]; rfl
theorem eqKey (i j a b : Nat) (w : World) : (Op.equal 145 (keyV i j) (keyV a b)).run Tryz.prog w = .ok (decide (a = i ∧ b = j)) w := by
  unfold Op.equal
  rw [show Op.maxDepth = 9999 + 1 from rfl, Op.equalIn]
  simp [go_sem]
  have e1 : ((i : Int) = (a : Int)) ↔ a = i := by omega
  have e2 : ((j : Int) = (b : Int)) ↔ b = j := by omega
  by_cases h1 : a = i <;> by_cases h2 : b = j <;> simp only [e1, e2, h1, h2, if_true, if_false, decide_true, decide_false, Bool.and_true, Bool.and_false, Bool.false_and]
theorem ckInt (e : Bool) (n : Nat) (x : Int) (w : World) : (Instr.checkKey e (n + 1) 3 (.int .i64 x)).run Tryz.prog w = .ok () w := by
  rw [Instr.checkKey]; simp [go_sem]
theorem ckKey (e : Bool) (i j : Nat) (w : World) : (Instr.checkKey e 10000 145 (keyV i j)).run Tryz.prog w = .ok () w := by
  rw [show (10000 : Nat) = 9999 + 1 from rfl, Instr.checkKey]
  have h1 := ckInt e 9998 (i : Int)
  have h2 := ckInt e 9998 (j : Int)
  simp [go_sem, h1, h2]
end
section
theorem len_slice_24 (a : Option Addr) (n c : Nat) (w : World) (ty : TypeId) (cs : Array Bool) : (Go.builtin .len #[24] ty cs #[.slice a n c]).run Tryz.prog w = .ok (.value (.int .i64 n)) w := by
  simp [go_sem]
theorem ix_24 (b off n c j : Nat) (h : j < n) (w : World) : (Instr.indexAt 24 (.slice (some ⟨b, off, none⟩) n c) (.int .i64 (j : Int))).run Tryz.prog w = .ok (.pointer (some ⟨b, off + j * 7, none⟩)) w := by
  simpa using indexAt_slice Tryz.runUnderlying24 Tryz.sizeOf82 b off n c j h w
theorem bd_145_0_1 (x0 : Int) (x1 : Int) (w : World) : (Instr.build 145 [(0, .int .i64 x0), (1, .int .i64 x1)].toArray).run Tryz.prog w = .ok (.agg #[.int .i64 x0, .int .i64 x1]) w := by simp [go_sem]
theorem bd_82_0_1 (x0 : Int) (x1 : Int) (w : World) : (Instr.build 82 [(0, .int .i64 x0), (1, .int .i64 x1)].toArray).run Tryz.prog w = .ok (.agg #[.int .i64 x0, .int .i64 x1, .int .u64 0, .string ⟨#[]⟩, .bool false, .int .u64 0, .string ⟨#[]⟩]) w := by simp [go_sem]
theorem bs_25_1_0 (x0_0 : Value) (x0_1 : Value) (x0_2 : Value) (x0_3 : Value) (x0_4 : Value) (x0_5 : Value) (x0_6 : Value) (w : World) : (Instr.buildSlice 25 1 [(0, .agg #[x0_0, x0_1, x0_2, x0_3, x0_4, x0_5, x0_6])].toArray).run Tryz.prog w = .ok (.slice (some ⟨w.heap.size, 0, none⟩) 1 1) (w.alloc (.cells #[x0_0, x0_1, x0_2, x0_3, x0_4, x0_5, x0_6] 82 (0, 0))) := by
  simp [go_sem]
theorem opEs (i j : Nat) (p : List Tm) : ∀ e ∈ (esL p 0).toArray.toList, ∀ w, (Op.equal 145 (keyV i j) e.key).run Tryz.prog w = .ok (pK i j e) w := by
  intro e he w
  obtain ⟨t, _, h2⟩ := esL_mem p 0 e he
  rw [h2, eqKey, pK_key i j t.i t.j e h2]
theorem run_lk (i j b : Nat) (p : List Tm) (w : World) (hb : w.heap[b]? = some (.map (esL p 0).toArray p.length)) :
    (Instr.lookup 143 (.map (some b)) (keyV i j) true).run Tryz.prog w = .ok (.tuple #[.int .i64 ((if fP i j p = true then kP i j p else 0 : Nat) : Int), .bool (fP i j p)]) w := by
  have h := run_lookupS (P := Tryz.prog) (key := keyV i j) Tryz.runUnderlying143 Tryz.runUnderlying145 (fun e w => ckKey e i j w) (fun w => Tryz.zeroValue3 w) (opEs i j p) w hb
  rw [h]
  have e := findE_esL i j p 0 0
  rw [show (esL p 0).toArray.toList = esL p 0 from rfl, e]
  rcases hf : fP i j p with _ | _
  · rfl
  · rw [if_pos rfl, if_pos rfl, Nat.zero_add]
theorem run_mu (i j b : Nat) (p : List Tm) (hf : fP i j p = false) (w : World) (hb : w.heap[b]? = some (.map (esL p 0).toArray p.length)) :
    (Instr.mapUpdate 143 (.map (some b)) (keyV i j) (.int .i64 ((p.length : Nat) : Int))).run Tryz.prog w = .ok () { w with heap := w.heap.setIfInBounds b (.map (esL (p ++ [⟨i, j, 0⟩]) 0).toArray (p ++ [(⟨i, j, 0⟩ : Tm)]).length) } := by
  have h := run_mapUpdateNew (P := Tryz.prog) (key := keyV i j) (val := .int .i64 ((p.length : Nat) : Int)) Tryz.runUnderlying143 Tryz.runUnderlying145 (fun e w => ckKey e i j w) (opEs i j p) (by
    rw [show (esL p 0).toArray.toList = esL p 0 from rfl, findE_esL, hf]; rfl) w hb
  rw [h]
  have e := esL_snoc ⟨i, j, 0⟩ p 0
  simp only [Nat.zero_add] at e
  rw [e, List.length_append, List.length_singleton]
  congr 3
  simp
theorem esL_set : ∀ (p : List Tm) (m k : Nat) (c : Rat), m < p.length → esL (p.set m ⟨(p.getD m T0).i, (p.getD m T0).j, c⟩) k = esL p k
  | [], m, _, _, h => absurd h (Nat.not_lt_zero _)
  | t :: p, 0, k, c, _ => rfl
  | t :: p, m + 1, k, c, h => by
    have ih := esL_set p m (k + 1) c (by simpa using h)
    rw [List.set_cons_succ, esL, esL]
    congr 1
theorem cellsT_cut (t : Tm) : (encT t).cells.toList = [.int .i64 ((t.i : Nat) : Int), .int .i64 ((t.j : Nat) : Int)] ++ (encQ t.c).cells.toList ++ [] := rfl
theorem rdC (q : List Tm) (R : List Value) (k : Nat) (h : k < q.length) : readAt true 5 (cellsOf encT q ++ R).toArray (0 + k * 7 + 2) = some (encQ (q.getD k T0).c) := by
  have hg : q.getD k T0 = q[k] := by simp [List.getD, h]
  rw [hg, cells_cut q k h, cellsT_cut, Nat.zero_add, ← cells_take_len encT_size q k h, List.append_assoc]
  exact read_part _ [_, _] [] (encQ q[k].c).cells.toList _ 5 rfl
theorem stC (q : List Tm) (R : List Value) (k : Nat) (h : k < q.length) (x : Rat) :
    setFrom (cellsOf encT q ++ R).toArray (0 + k * 7 + 2) (encQ x).cells.toList = (cellsOf encT (q.set k ⟨(q.getD k T0).i, (q.getD k T0).j, x⟩) ++ R).toArray := by
  have hg : q.getD k T0 = q[k] := by simp [List.getD, h]
  rw [hg, cells_cut q k h, cells_cutset q k h, cellsT_cut, cellsT_cut, Nat.zero_add, ← cells_take_len encT_size q k h, List.append_assoc, List.append_assoc _ _ R]
  exact set_part _ [_, _] [] (encQ q[k].c).cells.toList (encQ x).cells.toList _ rfl
theorem stC_le (q : List Tm) (R : List Value) (k : Nat) (h : k < q.length) : 0 + k * 7 + 2 + 5 ≤ (cellsOf encT q ++ R).toArray.size := by
  have := cells_leR (enc := encT) encT_size q R k h; omega
theorem close_len {q q' : List Tm} {R : List Value} {c : Nat} (h : (cellsOf encT q ++ R).length = c * 7) (hl : q'.length = q.length) : (cellsOf encT q' ++ R).length = c * 7 := by
  rw [List.length_append, cellsOf_length encT_size] at *; rw [hl]; exact h
theorem collect_step (l : List Tm) (i : Nat) (h : i < l.length) : collect (l.take (i + 1)) = insT (l.getD i T0) (collect (l.take i)) := by
  unfold collect
  rw [List.take_add_one, List.getElem?_eq_getElem h, List.foldl_append]
  simp [List.getD, h]
theorem collect_take_size {K n : Nat} {l : List Tm} (hK : KL K l) (hs : l.length * (K + 1) ≤ n) (i : Nat) : ∀ u ∈ collect (l.take i), lenQ u.c ≤ n := fun u hu => by
  have h1 := collect_size (l := l.take i) (fun t ht => hK t (List.mem_of_mem_take ht)) u hu
  have h2 := cntP_le u.i u.j (l.take i)
  rw [List.length_take] at h2
  exact Nat.le_trans h1 (Nat.le_trans (Nat.mul_le_mul_right _ (Nat.le_trans h2 (Nat.min_le_right _ _))) hs)
theorem lenQ_elem {K n : Nat} {l : List Tm} (hK : KL K l) (hs : l.length * (K + 1) ≤ n) {i : Nat} (hi : i < l.length) : lenQ (l.getD i T0).c ≤ n := by
  have h1 := hK _ (getD_mem l (d := T0) hi)
  have h2 := Nat.mul_le_mul_right (K + 1) (show 1 ≤ l.length by omega)
  omega
theorem norm_len (l : List Tm) : (norm l).length = ((collect l).filter (fun t => decide (t.c ≠ 0))).length := (List.mergeSort_perm _ _).length_eq
theorem collect_deg {l : List Tm} {d : Nat} (h : DL d l) : ∀ t ∈ (collect l).filter (fun t => decide (t.c ≠ 0)), t.i + t.j ≤ d := fun t ht => by
  obtain ⟨s, hs, h1, h2⟩ := collect_mem (List.mem_filter.1 ht).1
  rw [h1, h2]; exact h s hs
theorem C_gathered (l : List Tm) (ad : Option Addr) (c K : Nat) (hd : DL 12 l) (hK : KL K l) (hs : l.length * (K + 1) ≤ 50000000000) (hn : l.length ≤ 100000) :
    CtrO Tryz.prog 51 [.slice ad l.length c] [Row ad (cellsOf encT l)] (fun v o => ∃ ad' c', v = .slice ad' (norm l).length c' ∧ GrowO 7 82 v (norm l).length (cellsOf encT (norm l)) o) := by
  refine fn_introO Tryz.func51 rfl Tryz.ntmps51 nb ?_
  intro S w0 a hS h
  refine gC h (zs (zr (za rfl (zn (zs (zr ?_)))))); clear h; intro a w h
  refine wpl_plain (op_makeMap h (by decide) ?_); clear h; intro b8 a w h
  refine gL h (za rfl (zn (zs (zs (zr (zm rfl (zp (.builtin [_] rfl (len_slice_24 _ _ _)) (zm rfl (zn (zb ?_)))))))))); clear h; intro a w h
  refine wp_loop_inv (fun (i : Nat) a w => i ≤ l.length ∧ ∃ (ad1 : Option Addr) (c1 : Nat) (o1 : List (Nat × Obj)), (GrowO 7 82 (.slice ad1 (collect (l.take i)).length c1) (collect (l.take i)).length (cellsOf encT (collect (l.take i))) o1) ∧ St 62 S w0 [(2, (.slice ad1 (collect (l.take i)).length c1)), (3, .map (some b8)), (9, .slice ad l.length c), (10, .int .i64 ((l.length : Nat) : Int)), (11, .int .i64 ((i : Nat) : Int))] (o1 ++ ((b8, Obj.map ((esL (collect (l.take i)) 0).toArray) ((collect (l.take i)).length)) :: [])) [Row ad (cellsOf encT l)] a w) (fun i => l.length - i) 0 (⟨Nat.zero_le _, none, 0, [], GrowO.nil _ _, by exact (h).sub (subL ⟨rfl, rfl, rfl, rfl, rfl, trivial⟩)⟩) ?_; clear h
  rintro i a w ⟨hi_i, ad1, c1, o1, hG1, h⟩
  refine gC h (zs (zr (zp (.lss rfl rfl) (zn (zs ?_))))); clear h; intro a w h
  refine cond_split h rfl (fun hc12 => ?_) (fun hc12 => ?_)
  · skip
    have hlt_i : i < l.length := by have := of_decide_eq_true hc12; omega
    obtain ⟨B_ad, O_ad, rfl⟩ := h.row_addr (ad := ad) (M := cellsOf encT l) mm (by intro e; have := congrArg List.length e; rw [cellsOf_length (k := 7) (fun _ => rfl)] at this; simp only [List.length_nil, Nat.mul_eq_zero] at this; omega)
    have hcl := collect_len (l.take i)
    have hsz := collect_take_size hK hs i
    have hstep := collect_step l i hlt_i
    have hel := lenQ_elem hK hs hlt_i
    refine gC h (zk (zs (zb (zs (zr (zp (.indexAddr rfl rfl (ix_24 _ _ _ _ _ (by omega))) (zD rfl mm (cells_lt (k := 7) (by decide) (fun _ => rfl) l i (by omega)) Tryz.isAgg82 Tryz.sizeOf82 (read_cells (k := 7) (fun _ => rfl) ((fun _ => rfl)) l T0 i (by omega)) (.inl rfl) ?_))))))); clear h; intro a w h
    refine gL h (zz zeroT fun b5 => zt' rfl rfl (st_7_0_7 _ _ _ _ _ _ _ _ _ _ _ _ _ _) uu Tryz.sizeOf82 rfl nb rfl ?_); clear h; intro a w h
    refine gL h (zn (zs (zr (zm rfl (zp (.fieldAddr rfl (fa_82_0 _ _)) (zd rfl mr Tryz.isAgg3 Tryz.sizeOf3 (rs_7_0 _ _ _ _ _ _ _) ?_)))))); clear h; intro a w h
    refine gL h (zp (.fieldAddr rfl (fa_82_1 _ _)) (zd rfl mr Tryz.isAgg3 Tryz.sizeOf3 (rs_7_1 _ _ _ _ _ _ _) ?_)); clear h; intro a w h
    refine gL h (zp (.build [(_, _), (_, _)] rfl (bd_145_0_1 _ _)) ?_); clear h; intro a w h
    refine wpl_plain (op_lookup h rfl rfl mm (run_lk _ _ _ _) (by decide) ?_); clear h; intro a h
    refine gL h (zm rfl (zp (.extract rfl (fun _ => rfl)) (zp (.extract rfl (fun _ => rfl)) ?_))); clear h; intro a w h
    refine by_bool h (fun hc24 h => ?_) (fun hc24 h => ?_)
    · skip
      rw [if_pos hc24] at h
      obtain ⟨hk, hins⟩ := insT_old (l.getD i T0) _ hc24
      refine gL h (za rfl (za rfl (zn (zs (zs (zr (zm rfl (zp (.unOp rfl (un_not _)) ?_)))))))); clear h; intro a w h
      obtain ⟨b1, R1, rfl, rfl, hR1, hc1⟩ := hG1.open (Nat.lt_of_le_of_lt (Nat.zero_le _) hk)
      rw [List.cons_append, List.nil_append] at h
      have hz := hsz _ (getD_mem _ (d := T0) hk)
      refine wpList_nil ?_
      change Code.wp _ _ _ _ _
      refine cond_false h rfl ?_
      refine gC h (zk (yD mixed_YtgkicbaomcmfoaaGreatDoor [0, 1, 2, 3, 4, 5, 6, 7, 8, 9, 10, 11, 12] (floatsOK_none (by kernel_rfl)) (yp rfl (.move rfl) (yp rfl (.move rfl) (yp rfl (.move rfl) (yp rfl (.move rfl) (yp rfl (.indexAddr rfl rfl (ix_25 _ _ _ _ _ (by omega))) (yp rfl (.fieldAddr rfl (fa_82_2 _ _)) (yd rfl rfl mm Tryz.isAgg53 Tryz.sizeOf53 (rdC _ _ _ hk) ?_))))))))); clear h
      refine yp rfl (.fieldAddr rfl (fa_82_2 _ _)) (yd rfl rfl mr Tryz.isAgg53 Tryz.sizeOf53 (rd_7_2_5 _ _ _ _ _ _ _) ?_)
      refine yv [_, _] rfl rfl Tryz.call86 (C_QAdd _ _ (by omega) (by omega)) ?_
      have hl53 := lenQ_add (((collect (l.take i)).getD (kP (l.getD i T0).i (l.getD i T0).j (collect (l.take i))) T0).c) ((l.getD i T0).c)
      refine yp rfl (.indexAddr rfl rfl (ix_25 _ _ _ _ _ (by omega))) (yp rfl (.fieldAddr rfl (fa_82_2 _ _)) (yt rfl rfl rfl (stC _ _ _ hk _) uu Tryz.sizeOf53 rfl (stC_le _ _ _ hk) rfl ?_))
      refine yn (zr (zp (Pure1.cast (v' := (.int .i64 ((i + 1 : Nat) : Int))) (.add rfl rfl) (by show Value.int _ _ = Value.int _ _; congr 1)) (zm rfl (zn ?_)))); intro a w h
      rw [← hins, ← hstep] at h
      have hes : esL (collect (l.take (i + 1))) 0 = esL (collect (l.take i)) 0 := by rw [hstep, hins]; exact esL_set _ _ _ _ hk
      have hln : (collect (l.take (i + 1))).length = (collect (l.take i)).length := by rw [hstep, hins, List.length_set]
      rw [← hes, ← hln] at h
      exact ⟨i + 1, ⟨by omega, some ⟨b1, 0, none⟩, c1, [(b1, _)], GrowO.close (R := R1) (cellsOf_length encT_size _) (close_len hR1 hln) (by rw [hln]; exact hc1), by exact ((h.drop (by repeat (first | exact List.Sublist.refl _ | apply List.Sublist.cons))).factsSub (by simp)).sub sA⟩, by omega⟩
    · skip
      rw [if_neg (by rw [hc24]; exact Bool.false_ne_true)] at h
      have hins := insT_new (l.getD i T0) _ hc24
      have hk : (collect (l.take i)).length < (collect (l.take i) ++ [(⟨(l.getD i T0).i, (l.getD i T0).j, 0⟩ : Tm)]).length := by rw [List.length_append]; exact Nat.lt_succ_self _
      refine gL h (za rfl (za rfl (zn (zs (zs (zr (zm rfl (zp (.unOp rfl (un_not _)) ?_)))))))); clear h; intro a w h
      
      refine wpList_nil ?_
      change Code.wp _ _ _ _ _
      refine cond_true h rfl ?_
      refine gC h (zs (zr (zm rfl (zp (.builtin [_] rfl (len_slice_25 _ _ _)) (za rfl (zn (zs (zr (zm rfl (zp (.fieldAddr rfl (fa_82_0 _ _)) (zd rfl mr Tryz.isAgg3 Tryz.sizeOf3 (rs_7_0 _ _ _ _ _ _ _) ?_))))))))))); clear h; intro a w h
      refine gL h (zp (.fieldAddr rfl (fa_82_1 _ _)) (zd rfl mr Tryz.isAgg3 Tryz.sizeOf3 (rs_7_1 _ _ _ _ _ _ _) ?_)); clear h; intro a w h
      refine gL h (zp (.build [(_, _), (_, _)] rfl (bd_145_0_1 _ _)) (zm rfl ?_)); clear h; intro a w h
      refine wpl_plain (op_mapUpdate h rfl rfl rfl uu (run_mu _ _ _ _ hc24) ?_); clear h; intro a w h
      refine gL h (zn (zr (zm rfl (zp (.fieldAddr rfl (fa_82_0 _ _)) (zd rfl mr Tryz.isAgg3 Tryz.sizeOf3 (rs_7_0 _ _ _ _ _ _ _) ?_))))); clear h; intro a w h
      refine gL h (zp (.fieldAddr rfl (fa_82_1 _ _)) (zd rfl mr Tryz.isAgg3 Tryz.sizeOf3 (rs_7_1 _ _ _ _ _ _ _) ?_)); clear h; intro a w h
      refine gL h (zp (.build [(_, _), (_, _)] rfl (bd_82_0_1 _ _)) (zB [(_, _)] rfl (bs_25_1_0 _ _ _ _ _ _ _) fun b42 => ?_)); clear h; intro a w h
      refine wpl_plain (op_appendO (σr := [(b5, .cells (Value.cells (encT (l.getD i T0))) 82 (0, 0)), (b8, Obj.map ((esL (collect (l.take i) ++ [(⟨(l.getD i T0).i, (l.getD i T0).j, 0⟩ : Tm)]) 0).toArray) ((collect (l.take i) ++ [(⟨(l.getD i T0).i, (l.getD i T0).j, 0⟩ : Tm)]).length))]) h rfl rfl (List.Perm.trans (List.Perm.refl _) (List.Perm.cons _ (pm_ca (List.Perm.refl _)))) hG1 Tryz.runUnderlying25 Tryz.runUnderlying25 Tryz.typeInfo82 Tryz.sizeOf82 zeroT rfl (by decide) (by decide) rfl rfl (by decide) (by show 72 * (2 * ((collect (l.take i)).length + 1) + 192) ≤ 281474976710656; rw [List.length_take] at hcl; omega) (by decide) ?_); clear h
      intro v43 o43 a w hG43 h
      obtain ⟨ad43, c43, rfl⟩ := hG43.is
      have hLn43 : (collect (l.take i)).length + 1 = ((collect (l.take i)) ++ [(⟨(l.getD i T0).i, (l.getD i T0).j, 0⟩ : Tm)]).length := by simp only [List.length_append, List.length_cons, List.length_nil, Nat.zero_add]
      rw [hLn43] at h hG43
      replace hG43 : GrowO 7 82 (.slice ad43 ((collect (l.take i)) ++ [(⟨(l.getD i T0).i, (l.getD i T0).j, 0⟩ : Tm)]).length c43) ((collect (l.take i)) ++ [(⟨(l.getD i T0).i, (l.getD i T0).j, 0⟩ : Tm)]).length (cellsOf encT ((collect (l.take i)) ++ [(⟨(l.getD i T0).i, (l.getD i T0).j, 0⟩ : Tm)])) o43 := by rw [cellsOf_append, cellsOf_one]; exact hG43
      obtain ⟨b43, R43, rfl, rfl, hR43, hc43⟩ := hG43.open (Nat.lt_of_le_of_lt (Nat.zero_le _) hk)
      rw [List.cons_append, List.nil_append] at h
      have hz : lenQ ((collect (l.take i) ++ [(⟨(l.getD i T0).i, (l.getD i T0).j, 0⟩ : Tm)]).getD (collect (l.take i)).length T0).c ≤ 50000000000 := by
        rw [show (collect (l.take i) ++ [(⟨(l.getD i T0).i, (l.getD i T0).j, 0⟩ : Tm)]).getD (collect (l.take i)).length T0 = (⟨(l.getD i T0).i, (l.getD i T0).j, 0⟩ : Tm) by simp [List.getD]]; exact Nat.le_trans lenQ_zero (by decide)
      refine gL h (za rfl (zn (yD mixed_YtgkicbaomcmfoaaGreatDoor [0, 1, 2, 3, 4, 5, 6, 7, 8, 9, 10, 11, 12] (floatsOK_none (by kernel_rfl)) (yp rfl (.move rfl) (yp rfl (.move rfl) (yp rfl (.move rfl) (yp rfl (.move rfl) (yp rfl (.indexAddr rfl rfl (ix_25 _ _ _ _ _ (by omega))) (yp rfl (.fieldAddr rfl (fa_82_2 _ _)) (yd rfl rfl mm Tryz.isAgg53 Tryz.sizeOf53 (rdC _ _ _ hk) ?_)))))))))); clear h
      refine yp rfl (.fieldAddr rfl (fa_82_2 _ _)) (yd rfl rfl mr Tryz.isAgg53 Tryz.sizeOf53 (rd_7_2_5 _ _ _ _ _ _ _) ?_)
      refine yv [_, _] rfl rfl Tryz.call86 (C_QAdd _ _ (by omega) (by omega)) ?_
      have hl53 := lenQ_add (((collect (l.take i) ++ [(⟨(l.getD i T0).i, (l.getD i T0).j, 0⟩ : Tm)]).getD ((collect (l.take i)).length) T0).c) ((l.getD i T0).c)
      refine yp rfl (.indexAddr rfl rfl (ix_25 _ _ _ _ _ (by omega))) (yp rfl (.fieldAddr rfl (fa_82_2 _ _)) (yt rfl rfl rfl (stC _ _ _ hk _) uu Tryz.sizeOf53 rfl (stC_le _ _ _ hk) rfl ?_))
      refine yn (zr (zp (Pure1.cast (v' := (.int .i64 ((i + 1 : Nat) : Int))) (.add rfl rfl) (by show Value.int _ _ = Value.int _ _; congr 1)) (zm rfl (zn ?_)))); intro a w h
      rw [← hins, ← hstep] at h
      have hes : esL (collect (l.take (i + 1))) 0 = esL (collect (l.take i) ++ [(⟨(l.getD i T0).i, (l.getD i T0).j, 0⟩ : Tm)]) 0 := by rw [hstep, hins]; exact esL_set _ _ _ _ hk
      have hln : (collect (l.take (i + 1))).length = (collect (l.take i) ++ [(⟨(l.getD i T0).i, (l.getD i T0).j, 0⟩ : Tm)]).length := by rw [hstep, hins, List.length_set]
      rw [← hes, ← hln] at h
      exact ⟨i + 1, ⟨by omega, some ⟨b43, 0, none⟩, c43, [(b43, _)], GrowO.close (R := R43) (cellsOf_length encT_size _) (close_len hR43 hln) (by rw [hln]; exact hc43), by exact (((h.perm (List.Perm.trans (pm_cc (List.Perm.refl _)) (List.Perm.cons _ (List.Perm.refl _))).symm).drop (by repeat (first | exact List.Sublist.refl _ | apply List.Sublist.cons))).factsSub (by simp)).sub sA⟩, by omega⟩
  · skip
    have heq_i : l.length = i := by have := of_decide_eq_false hc12; omega
    subst heq_i
    rw [List.take_length] at h hG1
    refine gC h (ze (zs (zr (zm rfl ?_)))); clear h; intro a w h
    refine wpl_plain (op_callM h hS (vs := [_, _]) rfl Tryz.call87 (C_Delete (collect l) o1 hG1 (Nat.le_trans (collect_len l) (by omega)) [(b8, _)] [Row ad (cellsOf encT l)]) (List.Perm.refl _) (by simp) (by simp) ?_); clear h; rintro v58 σ58 Ψ58 a w ⟨hΦ58, o58, hG58, rfl⟩ h
    rw [hΦ58] at h
    refine gL h (za rfl (zn (zs (zr (zm rfl ?_))))); clear h; intro a w h
    refine wpl_plain (op_callM h hS (vs := [_, _]) rfl Tryz.call89 (C_Sort ((collect l).filter (fun t => decide (t.c ≠ 0))) o58 hG58 (List.Pairwise.filter _ (collect_dif l)) (collect_deg hd) (Nat.le_trans (List.length_filter_le _ _) (Nat.le_trans (collect_len l) (by omega))) [(b8, _)] [Row ad (cellsOf encT l)]) (List.Perm.refl _) (by simp) (by simp) ?_); clear h; rintro v60 σ60 Ψ60 a w ⟨hΦ60, rfl, o60, hG60, rfl⟩ h
    rw [hΦ60] at h
    refine gL h (zn (zs (zr (zm rfl (za rfl (zn (zt ?_))))))); clear h; intro a w h
    have hnl := norm_len l
    rw [← hnl] at hG60
    obtain ⟨ad', c', hv⟩ := hG60.is
    refine retO h (results1 h rfl (.tmp rfl)) ⟨ad', c', hv, hG60⟩ (List.sublist_append_left _ _)
end
section
theorem bd_82_2 (x2_0 : Value) (x2_1 : Value) (x2_2 : Value) (x2_3 : Value) (x2_4 : Value) (w : World) : (Instr.build 82 [(2, .agg #[x2_0, x2_1, x2_2, x2_3, x2_4])].toArray).run Tryz.prog w = .ok (.agg #[.int .i64 0, .int .i64 0, x2_0, x2_1, x2_2, x2_3, x2_4]) w := by simp [go_sem]
theorem bs_24_1_0 (x0_0 : Value) (x0_1 : Value) (x0_2 : Value) (x0_3 : Value) (x0_4 : Value) (x0_5 : Value) (x0_6 : Value) (w : World) : (Instr.buildSlice 24 1 [(0, .agg #[x0_0, x0_1, x0_2, x0_3, x0_4, x0_5, x0_6])].toArray).run Tryz.prog w = .ok (.slice (some ⟨w.heap.size, 0, none⟩) 1 1) (w.alloc (.cells #[x0_0, x0_1, x0_2, x0_3, x0_4, x0_5, x0_6] 82 (0, 0))) := by
  simp [go_sem]
theorem bd_82_0_2 (x0 : Int) (x2_0 : Value) (x2_1 : Value) (x2_2 : Value) (x2_3 : Value) (x2_4 : Value) (w : World) : (Instr.build 82 [(0, .int .i64 x0), (2, .agg #[x2_0, x2_1, x2_2, x2_3, x2_4])].toArray).run Tryz.prog w = .ok (.agg #[.int .i64 x0, .int .i64 0, x2_0, x2_1, x2_2, x2_3, x2_4]) w := by simp [go_sem]
theorem bd_82_1_2 (x1 : Int) (x2_0 : Value) (x2_1 : Value) (x2_2 : Value) (x2_3 : Value) (x2_4 : Value) (w : World) : (Instr.build 82 [(1, .int .i64 x1), (2, .agg #[x2_0, x2_1, x2_2, x2_3, x2_4])].toArray).run Tryz.prog w = .ok (.agg #[.int .i64 0, .int .i64 x1, x2_0, x2_1, x2_2, x2_3, x2_4]) w := by simp [go_sem]
theorem C_pOf (l : List Tm) (ad : Option Addr) (c K : Nat) (hd : DL 12 l) (hK : KL K l) (hs : l.length * (K + 1) ≤ 50000000000) (hn : l.length ≤ 100000) : CtrO Tryz.prog 40 [.slice ad l.length c] [Row ad (cellsOf encT l)] (fun v o => ∃ ad' c', v = .tuple #[.slice ad' (norm l).length c', .int .i64 0] ∧ GrowO 7 82 (.slice ad' (norm l).length c') (norm l).length (cellsOf encT (norm l)) o) := by
  refine fn_introO Tryz.func40 rfl Tryz.ntmps40 nb ?_
  intro S w0 a hS h
  refine gC h (zs (zr (za rfl (za rfl (zn (zs (zs (zr (zm rfl (zp (.builtin [_] rfl (len_slice_24 _ _ _)) (zm rfl (zn (zb ?_))))))))))))); clear h; intro a w h
  refine wp_loop_inv (fun (i : Nat) a w => i ≤ l.length ∧ St 21 S w0 [(0, .slice ad l.length c), (7, .slice ad l.length c), (8, .int .i64 ((l.length : Nat) : Int)), (9, .int .i64 ((i : Nat) : Int))] [] [Row ad (cellsOf encT l)] a w) (fun i => l.length - i) 0 (⟨Nat.zero_le _, by exact (h).sub (subL ⟨rfl, rfl, rfl, rfl, trivial⟩)⟩) ?_; clear h
  rintro i a w ⟨hi_i, h⟩
  refine gC h (zs (zr (zp (.lss rfl rfl) (zn (zs ?_))))); clear h; intro a w h
  refine cond_split h rfl (fun hc10 => ?_) (fun hc10 => ?_)
  · skip
    have hlt_i : i < l.length := by have := of_decide_eq_true hc10; omega
    obtain ⟨B_ad, O_ad, rfl⟩ := h.row_addr (ad := ad) (M := cellsOf encT l) mm (by intro e; have := congrArg List.length e; rw [cellsOf_length (k := 7) (fun _ => rfl)] at this; simp only [List.length_nil, Nat.mul_eq_zero] at this; omega)
    have hdt := hd _ (getD_mem l (d := T0) hlt_i)
    refine gC h (zk (zs (zb (zs (zr (zp (.indexAddr rfl rfl (ix_24 _ _ _ _ _ (by omega))) (zD rfl mm (cells_lt (k := 7) (by decide) (fun _ => rfl) l i (by omega)) Tryz.isAgg82 Tryz.sizeOf82 (read_cells (k := 7) (fun _ => rfl) ((fun _ => rfl)) l T0 i (by omega)) (.inl rfl) ?_))))))); clear h; intro a w h
    refine gL h (zz zeroT fun b5 => zt' rfl rfl (st_7_0_7 _ _ _ _ _ _ _ _ _ _ _ _ _ _) uu Tryz.sizeOf82 rfl nb rfl ?_); clear h; intro a w h
    refine gL h (zn (zs (zr (zd rfl mr Tryz.isAgg82 Tryz.sizeOf82 (rd_7_0_7 _ _ _ _ _ _ _) ?_)))); clear h; intro a w h
    refine gL h (zv [_] rfl Tryz.call47 (C_may (l.getD i T0) (by omega)) (za rfl (zn (zs (zr (zm rfl (zp (.neq rfl rfl) (zn ?_)))))))); clear h; intro a w h
    change Code.wp _ _ _ _ _
    refine cond_split h rfl (fun hc16 => (by exfalso; exact absurd hc16 (by decide))) (fun hc16 => ?_)
    refine gC h (zk (zr (zp (Pure1.cast (v' := (.int .i64 ((i + 1 : Nat) : Int))) (.add rfl rfl) (by show Value.int _ _ = Value.int _ _; congr 1)) (zm rfl (zn ?_))))); clear h; intro a w h
    exact ⟨i + 1, ⟨by omega, ((h.drop sl).factsSub (by simp)).sub sA⟩, by omega⟩
  · skip
    have heq_i : l.length = i := by have := of_decide_eq_false hc10; omega
    subst heq_i
    refine gC h (ze (zs (zr (zm rfl ?_)))); clear h; intro a w h
    refine wpl_plain (op_callO h (vs := [_]) rfl Tryz.call51 (C_gathered l _ _ K hd hK hs hn) (by simp) (by decide) ?_); clear h; rintro v20 σ20 a w ⟨ad20, c20, rfl, hG20⟩ h
    refine gL h (za rfl (za rfl (zn (zt ?_)))); clear h; intro a w h
    refine retO h (results2 h rfl (.tmp rfl) (.tmp rfl)) ⟨ad20, c20, rfl, hG20⟩ (List.sublist_append_left _ _)
theorem C_pOfF (l : List Tm) (ad : Option Addr) (c K : Nat) (hd : DL 12 l) (hK : KL K l) (hs : l.length * (K + 1) ≤ 50000000000) (hn : l.length ≤ 100000) : Ctr Tryz.prog 40 [.slice ad l.length c] [Row ad (cellsOf encT l)] (fun v Ψ => ∃ ad' c', v = .tuple #[.slice ad' (norm l).length c', .int .i64 0] ∧ Ψ = [Row ad' (cellsOf encT (norm l))]) := ctrO_F2 (C_pOf l ad c K hd hK hs hn)
theorem Pq.room {d K : Nat} {l : List Tm} (h : Pq d K l) (hK : K ≤ 400000000) : l.length * (K + 1) ≤ 50000000000 :=
  Nat.le_trans (Nat.mul_le_mul h.len (show K + 1 ≤ 400000001 by omega)) (by decide)
theorem Pq.deg12 {d K : Nat} {l : List Tm} (h : Pq d K l) (hd : d ≤ 12) : DL 12 l := h.deg.mono hd
theorem C_brought (l : List Tm) (ad : Option Addr) (c d K : Nat) (hq : Pq d K l) (hd : d ≤ 12) (hK : K ≤ 400000000) : CtrO Tryz.prog 39 [.slice ad l.length c] [Row ad (cellsOf encT l)] (fun v o => ∃ ad' c', v = .slice ad' (norm l).length c' ∧ GrowO 7 82 v (norm l).length (cellsOf encT (norm l)) o) := by
  refine fn_introO Tryz.func39 rfl Tryz.ntmps39 nb ?_
  intro S w0 a hS h
  refine gC h (zs (zr (za rfl (zn (zs (zr (zm rfl ?_))))))); clear h; intro a w h
  refine wpl_plain (op_callO h (vs := [_]) rfl Tryz.call40 (C_pOf l _ _ K (hq.deg12 hd) hq.siz (hq.room hK) (by have := hq.len; omega)) (by simp) (by decide) ?_); clear h; rintro v7 σ7 a w ⟨ad7, c7, rfl, hG7⟩ h
  refine gL h (zm rfl (zp (.extract rfl (fun _ => rfl)) (zp (.extract rfl (fun _ => rfl)) (za rfl (za rfl (zn (zs (zr (zm rfl (za rfl (zn (zt ?_)))))))))))); clear h; intro a w h
  refine retO h (results1 h rfl (.tmp rfl)) ⟨ad7, c7, rfl, hG7⟩ (List.sublist_append_left _ _)
theorem C_broughtF (l : List Tm) (ad : Option Addr) (c d K : Nat) (h : Pq d K l) (hd : d ≤ 12) (hK : K ≤ 400000000) : Ctr Tryz.prog 39 [.slice ad l.length c] [Row ad (cellsOf encT l)] (fun v Ψ => ∃ ad' c', v = .slice ad' (norm l).length c' ∧ Ψ = [Row ad' (cellsOf encT (norm l))]) := ctrO_F (C_brought l ad c d K h hd hK)
theorem C_Const (x : Rat) (K : Nat) (hx : lenQ x ≤ K) (hK : K ≤ 400000000) : CtrO Tryz.prog 52 [encQ x] [] (fun v o => ∃ ad' c', v = .slice ad' (norm [(⟨0, 0, x⟩ : Tm)]).length c' ∧ GrowO 7 82 v (norm [(⟨0, 0, x⟩ : Tm)]).length (cellsOf encT (norm [(⟨0, 0, x⟩ : Tm)])) o) := by
  refine fn_introO Tryz.func52 rfl Tryz.ntmps52 nb ?_
  intro S w0 a hS h
  refine gC h (zs (zr (zx rfl fun b1 => za rfl (zn (zs (zr (zd rfl mr Tryz.isAgg53 Tryz.sizeOf53 (rd_5_0_5 _ _ _ _ _) ?_))))))); clear h; intro a w h
  refine gL h (zp (.build [(_, _)] rfl (bd_82_2 _ _ _ _ _)) (zB [(_, _)] rfl (bs_24_1_0 _ _ _ _ _ _ _) fun b5 => ?_)); clear h; intro a w h
  replace h := h.shareAll hS (cellsOf encT ([(⟨0, 0, x⟩ : Tm)])) rfl
  refine wpl_plain (op_callO h (vs := [_]) rfl Tryz.call51 (C_gathered [(⟨0, 0, x⟩ : Tm)] _ _ K (fun t ht => by rw [List.mem_singleton] at ht; subst ht; exact Nat.zero_le _) (fun t ht => by rw [List.mem_singleton] at ht; subst ht; exact hx) (by rw [List.length_singleton]; omega) (by simp)) (by simp) (by decide) ?_); clear h; rintro v6 σ6 a w ⟨ad6, c6, rfl, hG6⟩ h
  refine gL h (za rfl (zn (zt ?_))); clear h; intro a w h
  refine retO h (results1 h rfl (.tmp rfl)) ⟨ad6, c6, rfl, hG6⟩ (List.sublist_append_left _ _)
theorem C_ConstF (x : Rat) (K : Nat) (hx : lenQ x ≤ K) (hK : K ≤ 400000000) : Ctr Tryz.prog 52 [encQ x] [] (fun v Ψ => ∃ ad' c', v = .slice ad' (norm [(⟨0, 0, x⟩ : Tm)]).length c' ∧ Ψ = [Row ad' (cellsOf encT (norm [(⟨0, 0, x⟩ : Tm)]))]) := ctrO_F (C_Const x K hx hK)
theorem C_X : Ctr Tryz.prog 13 [] [] (fun v Ψ => ∃ ad', v = .slice ad' 1 1 ∧ Ψ = [Row ad' (cellsOf encT [(⟨1, 0, ((1 : Int) : Rat)⟩ : Tm)])]) := by
  refine fn_intro Tryz.func13 rfl Tryz.ntmps13 nb ?_
  intro S w0 a hS h
  refine gC h (zs (zr (za rfl (zn (zs (zr (zv [_] rfl Tryz.call22 (C_QInt _ (by omega) (by omega)) ?_))))))); clear h; intro a w h
  have hl1 := lenQ_int (1) (by omega) (by omega)
  refine gL h (zp (.build [(_, _), (_, _)] rfl (bd_82_0_2 _ _ _ _ _ _)) (zB [(_, _)] rfl (bs_25_1_0 _ _ _ _ _ _ _) fun b3 => ?_)); clear h; intro a w h
  replace h := h.shareAll hS (cellsOf encT ([(⟨1, 0, ((1 : Int) : Rat)⟩ : Tm)])) rfl
  refine gL h (za rfl (zn (zt ?_))); clear h; intro a w h
  exact ret_of h (results1 h rfl (.tmp rfl)) ⟨_, rfl, rfl⟩ (by simp)
theorem C_Y : Ctr Tryz.prog 14 [] [] (fun v Ψ => ∃ ad', v = .slice ad' 1 1 ∧ Ψ = [Row ad' (cellsOf encT [(⟨0, 1, ((1 : Int) : Rat)⟩ : Tm)])]) := by
  refine fn_intro Tryz.func14 rfl Tryz.ntmps14 nb ?_
  intro S w0 a hS h
  refine gC h (zs (zr (za rfl (zn (zs (zr (zv [_] rfl Tryz.call22 (C_QInt _ (by omega) (by omega)) ?_))))))); clear h; intro a w h
  have hl1 := lenQ_int (1) (by omega) (by omega)
  refine gL h (zp (.build [(_, _), (_, _)] rfl (bd_82_1_2 _ _ _ _ _ _)) (zB [(_, _)] rfl (bs_25_1_0 _ _ _ _ _ _ _) fun b3 => ?_)); clear h; intro a w h
  replace h := h.shareAll hS (cellsOf encT ([(⟨0, 1, ((1 : Int) : Rat)⟩ : Tm)])) rfl
  refine gL h (za rfl (zn (zt ?_))); clear h; intro a w h
  exact ret_of h (results1 h rfl (.tmp rfl)) ⟨_, rfl, rfl⟩ (by simp)
theorem C_each (p : List Tm) (ad : Option Addr) (c d K K' g : Nat) (cb : List Value) (Φf : List SPred) (G : Tm → Tm) (hq : Pq d K p) (hd : d ≤ 12) (hK : K ≤ 400000000) (hg : ∀ args w, (callFunc g args).run Tryz.prog w = .ok (.enter g args) w)
    (hf : ∀ t ∈ norm p, CtrW Tryz.prog g (encT t :: cb) Φf (encT (G t))) (hG1 : ∀ t ∈ norm p, (G t).i + (G t).j ≤ 12) (hG2 : ∀ t ∈ norm p, lenQ (G t).c ≤ K') (hK' : K' ≤ 400000000) :
    CtrO Tryz.prog 60 [.slice ad p.length c, .func (.func g) #[] cb.toArray] (Row ad (cellsOf encT p) :: Φf) (fun v o => ∃ ad' c', v = .slice ad' (norm ((norm p).map G)).length c' ∧ GrowO 7 82 v (norm ((norm p).map G)).length (cellsOf encT (norm ((norm p).map G))) o) := by
  have hnl : (norm p).length ≤ 91 := Nat.le_trans hq.nlen (Nat.le_trans (tri_mono (show d + 1 ≤ 13 by omega)) (by decide))
  have hDL : DL 12 ((norm p).map G) := fun u hu => by obtain ⟨t, ht, rfl⟩ := List.mem_map.1 hu; exact hG1 t ht
  have hKL : KL K' ((norm p).map G) := fun u hu => by obtain ⟨t, ht, rfl⟩ := List.mem_map.1 hu; exact hG2 t ht
  have hlm : ((norm p).map G).length ≤ 100000 := by rw [List.length_map]; omega
  have hrm : ((norm p).map G).length * (K' + 1) ≤ 50000000000 := Nat.le_trans (Nat.mul_le_mul (show ((norm p).map G).length ≤ 91 by rw [List.length_map]; exact hnl) (show K' + 1 ≤ 400000001 by omega)) (by decide)
  refine fn_introO Tryz.func60 rfl Tryz.ntmps60 nb ?_
  intro S w0 a hS h
  refine gC h (zs (zr (za rfl (zn (zs (zr (za rfl (zn (zs (zs (zr (zm rfl (zf [_] rfl Tryz.call39 (C_broughtF p _ _ d K hq hd hK) ?_))))))))))))); clear h; rintro v9 Ψ9 ⟨ad9, c9, rfl, rfl⟩ a w h
  refine gL h (zp (.builtin [_] rfl (len_slice_25 _ _ _)) (zm rfl (zn (zb ?_)))); clear h; intro a w h
  refine wp_loop_inv (fun (i : Nat) a w => i ≤ (norm p).length ∧ ∃ (ad1 : Option Addr) (c1 : Nat) (o1 : List (Nat × Obj)), (GrowO 7 82 (.slice ad1 (((norm p).take i).map G).length c1) (((norm p).take i).map G).length (cellsOf encT (((norm p).take i).map G)) o1) ∧ St 24 S w0 [(1, .func (.func g) #[] cb.toArray), (4, .slice none 0 0), (5, (.slice ad1 (((norm p).take i).map G).length c1)), (9, .slice ad9 ((norm p).length) c9), (10, .int .i64 (((norm p).length : Nat) : Int)), (11, .int .i64 ((i : Nat) : Int))] (o1 ++ []) (Row ad9 (cellsOf encT (norm p)) :: Row ad (cellsOf encT p) :: Φf) a w) (fun i => (norm p).length - i) 0 (⟨Nat.zero_le _, none, 0, [], GrowO.nil _ _, by exact (h).sub (subL ⟨rfl, rfl, rfl, rfl, rfl, rfl, trivial⟩)⟩) ?_; clear h
  rintro i a w ⟨hi_i, ad1, c1, o1, hG1, h⟩
  refine gC h (zs (zr (zp (.lss rfl rfl) (zn (zs ?_))))); clear h; intro a w h
  refine cond_split h rfl (fun hc12 => ?_) (fun hc12 => ?_)
  · skip
    have hlt_i : i < (norm p).length := by have := of_decide_eq_true hc12; omega
    obtain ⟨B_ad9, O_ad9, rfl⟩ := h.row_addr (ad := ad9) (M := cellsOf encT (norm p)) mm (by intro e; have := congrArg List.length e; rw [cellsOf_length (k := 7) (fun _ => rfl)] at this; simp only [List.length_nil, Nat.mul_eq_zero] at this; omega)
    have hstep : ((norm p).take (i + 1)).map G = ((norm p).take i).map G ++ [G ((norm p).getD i T0)] := by rw [take_snoc _ hlt_i, List.map_append]; rfl
    have hml : (((norm p).take i).map G).length ≤ 91 := by rw [List.length_map, List.length_take]; omega
    refine gC h (zk (zs (zb (zs (zr (zp (.indexAddr rfl rfl (ix_25 _ _ _ _ _ (by omega))) (zD rfl mm (cells_lt (k := 7) (by decide) (fun _ => rfl) (norm p) i (by omega)) Tryz.isAgg82 Tryz.sizeOf82 (read_cells (k := 7) (fun _ => rfl) ((fun _ => rfl)) (norm p) T0 i (by omega)) (.inl rfl) ?_))))))); clear h; intro a w h
    refine gL h (zz zeroT fun b7 => zt' rfl rfl (st_7_0_7 _ _ _ _ _ _ _ _ _ _ _ _ _ _) uu Tryz.sizeOf82 rfl nb rfl ?_); clear h; intro a w h
    refine gL h (zn (zr (zm rfl (zm rfl (zd rfl mr Tryz.isAgg82 Tryz.sizeOf82 (rd_7_0_7 _ _ _ _ _ _ _) ?_))))); clear h; intro a w h
    refine wpl_plain (op_callWx h (fs := []) (cs := cb) rfl (vs := [_]) rfl hg (hf _ (getD_mem (norm p) (d := T0) hlt_i)) (by intro R hR; simp [hR]) (by decide) ?_); clear h; intro a w h
    refine gL h (zB [(_, _)] rfl (bs_24_1_0 _ _ _ _ _ _ _) fun b19 => ?_); clear h; intro a w h
    refine wpl_plain (op_appendO (σr := [(b7, .cells (Value.cells (encT ((norm p).getD i T0))) 82 (0, 0))]) h rfl rfl (List.Perm.trans (List.Perm.refl _) (List.Perm.cons _ (pm_ca (List.Perm.refl _)))) hG1 Tryz.runUnderlying24 Tryz.runUnderlying24 Tryz.typeInfo82 Tryz.sizeOf82 zeroT rfl (by decide) (by decide) rfl rfl (by decide) (by show 72 * (2 * ((((norm p).take i).map G).length + 1) + 192) ≤ 281474976710656; omega) (by decide) ?_); clear h
    intro v20 o20 a w hG20 h
    obtain ⟨ad20, c20, rfl⟩ := hG20.is
    have hLn20 : (((norm p).take i).map G).length + 1 = ((((norm p).take i).map G) ++ [G ((norm p).getD i T0)]).length := by simp only [List.length_append, List.length_cons, List.length_nil, Nat.zero_add]
    rw [hLn20] at h hG20
    replace hG20 : GrowO 7 82 (.slice ad20 ((((norm p).take i).map G) ++ [G ((norm p).getD i T0)]).length c20) ((((norm p).take i).map G) ++ [G ((norm p).getD i T0)]).length (cellsOf encT ((((norm p).take i).map G) ++ [G ((norm p).getD i T0)])) o20 := by rw [cellsOf_append, cellsOf_one]; exact hG20
    refine gL h (za rfl (zn (zr (zp (Pure1.cast (v' := (.int .i64 ((i + 1 : Nat) : Int))) (.add rfl rfl) (by show Value.int _ _ = Value.int _ _; congr 1)) (zm rfl (zn ?_)))))); clear h; intro a w h
    rw [← hstep] at h hG20
    exact ⟨i + 1, ⟨by omega, ad20, c20, o20, hG20, by exact (((h.perm (List.Perm.trans (pm_ac (List.Perm.refl _)) (List.Perm.cons _ (List.Perm.refl _))).symm).drop (by repeat (first | exact List.Sublist.refl _ | apply List.Sublist.cons))).factsSub (by exact (fun _ hR => by repeat (first | exact hR | apply List.Mem.tail)))).sub sA⟩, by omega⟩
  · skip
    have heq_i : (norm p).length = i := by have := of_decide_eq_false hc12; omega
    subst heq_i
    rw [List.take_length] at h hG1
    replace h := St.shareO' h hS hG1
    refine gC h (ze (zs (zr (zm rfl ?_)))); clear h; intro a w h
    refine wpl_plain (op_callO h (vs := [_]) rfl Tryz.call51 (C_gathered ((norm p).map G) _ _ K' hDL hKL hrm hlm) (by simp) (by decide) ?_); clear h; rintro v23 σ23 a w ⟨ad23, c23, rfl, hG23⟩ h
    refine gL h (za rfl (zn (zt ?_))); clear h; intro a w h
    refine retO h (results1 h rfl (.tmp rfl)) ⟨ad23, c23, rfl, hG23⟩ (List.sublist_append_left _ _)
end
section
theorem bd_82_0_1_2 (x0 : Int) (x1 : Int) (x2_0 : Value) (x2_1 : Value) (x2_2 : Value) (x2_3 : Value) (x2_4 : Value) (w : World) : (Instr.build 82 [(0, .int .i64 x0), (1, .int .i64 x1), (2, .agg #[x2_0, x2_1, x2_2, x2_3, x2_4])].toArray).run Tryz.prog w = .ok (.agg #[.int .i64 x0, .int .i64 x1, x2_0, x2_1, x2_2, x2_3, x2_4]) w := by simp [go_sem]
theorem C_Scale1 (t : Tm) (x : Rat) (b o : Nat) (ht : lenQ t.c ≤ 10000000000) (hx : lenQ x ≤ 10000000000) : CtrW Tryz.prog 61 [encT t, .pointer (some ⟨b, o, none⟩)] [Row (some ⟨b, o, none⟩) (Value.cells (encQ x)).toList] (encT ⟨t.i, t.j, x * t.c⟩) := by
  refine fn_intro Tryz.func61 rfl Tryz.ntmps61 nb ?_
  intro S w0 a hS h
  refine gC h (zs (zr (zx rfl fun b2 => zz zeroT fun b3 => zn (zs (yD mixed_YtgkicbaomcmfoaaGreatDoor [0, 1, 2, 3, 4, 5, 6, 7, 8, 9] (floatsOK_none (by kernel_rfl)) (yp rfl (.fieldAddr rfl (fa_82_0 _ _)) (yd rfl rfl mr Tryz.isAgg3 Tryz.sizeOf3 (rs_7_0 _ _ _ _ _ _ _) ?_))))))); clear h
  refine yp rfl (.fieldAddr rfl (fa_82_1 _ _)) (yd rfl rfl mr Tryz.isAgg3 Tryz.sizeOf3 (rs_7_1 _ _ _ _ _ _ _) ?_)
  refine head_loadRow (b := b) (off := o) (j := 0) (M := (Value.cells (encQ x)).toList) (v := encQ (x)) rfl (by kernel_rfl) rfl mm (Nat.succ_pos _) Tryz.isAgg53 Tryz.sizeOf53 rfl (.inl rfl) (by decide) ?_
  refine yp rfl (.fieldAddr rfl (fa_82_2 _ _)) (yd rfl rfl mr Tryz.isAgg53 Tryz.sizeOf53 (rd_7_2_5 _ _ _ _ _ _ _) ?_)
  refine yv [_, _] rfl rfl Tryz.call50 (C_QMul _ _ (by omega) (by omega)) ?_
  have hl11 := lenQ_mul (x) ((t).c)
  refine yp rfl (.build [(_, _), (_, _), (_, _)] rfl (bd_82_0_1_2 _ _ _ _ _ _ _)) (yt rfl rfl rfl (st_7_0_7 _ _ _ _ _ _ _ _ _ _ _ _ _ _) uu Tryz.sizeOf82 rfl nb rfl ?_)
  refine yn (zt ?_); intro a w h
  refine retV h (results1 h rfl (.cell rfl mr Tryz.isAgg82 Tryz.sizeOf82 (rd_7_0_7 _ _ _ _ _ _ _))) ?_
  rfl
theorem C_Scale (p : List Tm) (ad : Option Addr) (c d K : Nat) (hq : Pq d K p) (hd : d ≤ 12) (hK : K ≤ 400000000) (x : Rat) (Kx : Nat) (hx : lenQ x ≤ Kx) (hs : Kx + K ≤ 400000000) : CtrO Tryz.prog 27 [.slice ad p.length c, encQ x] [Row ad (cellsOf encT p)] (fun v o => ∃ ad' c', v = .slice ad' (norm (scaleL x p)).length c' ∧ GrowO 7 82 v (norm (scaleL x p)).length (cellsOf encT (norm (scaleL x p))) o) := by
  refine fn_introO Tryz.func27 rfl Tryz.ntmps27 nb ?_
  intro S w0 a hS h
  refine gC h (zs (zr (zx rfl fun b3 => ?_))); clear h; intro a w h
  replace h := h.shareAll hS ((Value.cells (encQ (x))).toList) rfl
  refine gL h (za rfl (zn (zs (zr (zm rfl (zp (.makeFunc [] [_] rfl rfl) ?_)))))); clear h; intro a w h
  refine wpl_plain (op_callO h (vs := [_, _]) rfl Tryz.call60 (C_each p _ _ d K (Kx + K) 61 [.pointer (some ⟨b3, 0, none⟩)] [Row (some ⟨b3, 0, none⟩) (Value.cells (encQ x)).toList] (fun t => ⟨t.i, t.j, x * t.c⟩) hq hd hK Tryz.call61 (fun t ht => C_Scale1 t x b3 0 (by have := hq.nsz t ht; omega) (by omega)) (fun t ht => by have := (DL_norm hq.deg) t ht; simp only; omega) (fun t ht => by have := hq.nsz t ht; have := lenQ_mul x t.c; simp only; omega) hs) (by simp) (by decide) ?_); clear h; rintro v7 σ7 a w ⟨ad7, c7, rfl, hG7⟩ h
  refine gL h (za rfl (zn (zt ?_))); clear h; intro a w h
  have e : norm ((norm p).map (fun t => (⟨t.i, t.j, x * t.c⟩ : Tm))) = norm (scaleL x p) := norm_eq ((Eqv.nrm p).scale x)
  rw [e] at h hG7
  refine retO h (results1 h rfl (.tmp rfl)) ⟨ad7, c7, rfl, hG7⟩ (List.sublist_append_left _ _)
theorem C_ScaleF (p : List Tm) (ad : Option Addr) (c d K : Nat) (hq : Pq d K p) (hd : d ≤ 12) (hK : K ≤ 400000000) (x : Rat) (Kx : Nat) (hx : lenQ x ≤ Kx) (hs : Kx + K ≤ 400000000) : Ctr Tryz.prog 27 [.slice ad p.length c, encQ x] [Row ad (cellsOf encT p)] (fun v Ψ => ∃ ad' c', v = .slice ad' (norm (scaleL x p)).length c' ∧ Ψ = [Row ad' (cellsOf encT (norm (scaleL x p)))]) := ctrO_F (C_Scale p ad c d K hq hd hK x Kx hx hs)
theorem C_Neg (p : List Tm) (ad : Option Addr) (c d K : Nat) (hq : Pq d K p) (hd : d ≤ 12) (hK : K ≤ 400000000) (hs : 2 + K ≤ 400000000) : CtrO Tryz.prog 26 [.slice ad p.length c] [Row ad (cellsOf encT p)] (fun v o => ∃ ad' c', v = .slice ad' (norm (scaleL ((-1 : Int) : Rat) p)).length c' ∧ GrowO 7 82 v (norm (scaleL ((-1 : Int) : Rat) p)).length (cellsOf encT (norm (scaleL ((-1 : Int) : Rat) p))) o) := by
  refine fn_introO Tryz.func26 rfl Tryz.ntmps26 nb ?_
  intro S w0 a hS h
  refine gC h (zs (zr (za rfl (zn (zs (zr (zm rfl (zv [_] rfl Tryz.call22 (C_QInt _ (by omega) (by omega)) ?_)))))))); clear h; intro a w h
  have hl4 := lenQ_int ((-1)) (by omega) (by omega)
  refine wpl_plain (op_callO h (vs := [_, _]) rfl Tryz.call27 (C_Scale p _ _ d K hq hd hK ((-1 : Int) : Rat) 2 (lenQ_int (-1) (by decide) (by decide)) hs) (by simp) (by decide) ?_); clear h; rintro v5 σ5 a w ⟨ad5, c5, rfl, hG5⟩ h
  refine gL h (za rfl (zn (zt ?_))); clear h; intro a w h
  refine retO h (results1 h rfl (.tmp rfl)) ⟨ad5, c5, rfl, hG5⟩ (List.sublist_append_left _ _)
theorem C_NegF (p : List Tm) (ad : Option Addr) (c d K : Nat) (hq : Pq d K p) (hd : d ≤ 12) (hK : K ≤ 400000000) (hs : 2 + K ≤ 400000000) : Ctr Tryz.prog 26 [.slice ad p.length c] [Row ad (cellsOf encT p)] (fun v Ψ => ∃ ad' c', v = .slice ad' (norm (scaleL ((-1 : Int) : Rat) p)).length c' ∧ Ψ = [Row ad' (cellsOf encT (norm (scaleL ((-1 : Int) : Rat) p)))]) := ctrO_F (C_Neg p ad c d K hq hd hK hs)
theorem flatT : ∀ l : List Tm, (cellsOf encT l).all flat = true
  | [] => rfl
  | t :: l => by
    have h := flatT l
    rw [show t :: l = [t] ++ l from rfl, cellsOf_append, cellsOf_one, List.all_append, h]; rfl
theorem Pq.n91 {d K : Nat} {l : List Tm} (h : Pq d K l) (hd : d ≤ 12) : (norm l).length ≤ 91 := Nat.le_trans h.nlen (Nat.le_trans (tri_mono (show d + 1 ≤ 13 by omega)) (by decide))
theorem DL_app {a b : List Tm} {da db : Nat} (ha : DL da a) (hb : DL db b) (h1 : da ≤ 12) (h2 : db ≤ 12) : DL 12 (norm a ++ norm b) := DL_append (DL_norm (ha.mono h1)) (DL_norm (hb.mono h2))
theorem KL_app {a b : List Tm} {Ka Kb K : Nat} (ha : KL Ka a) (hb : KL Kb b) (h1 : Ka ≤ K) (h2 : Kb ≤ K) : KL K (a ++ b) := fun t ht => (List.mem_append.1 ht).elim (fun h => Nat.le_trans (ha t h) h1) (fun h => Nat.le_trans (hb t h) h2)
theorem C_pAdd (p q : List Tm) (ada adb : Option Addr) (ca cb da db Ka Kb : Nat) (ha : Pq da Ka p) (hb : Pq db Kb q) (hda : da ≤ 12) (hdb : db ≤ 12) (hK : Ka ≤ 200000000) (hK2 : Kb ≤ 200000000) : CtrO Tryz.prog 24 [.slice ada p.length ca, .slice adb q.length cb] [Row ada (cellsOf encT p), Row adb (cellsOf encT q)] (fun v o => ∃ ad' c', v = .slice ad' (norm (p ++ q)).length c' ∧ GrowO 7 82 v (norm (p ++ q)).length (cellsOf encT (norm (p ++ q))) o) := by
  have hna := ha.n91 hda
  have hnb := hb.n91 hdb
  refine fn_introO Tryz.func24 rfl Tryz.ntmps24 nb ?_
  intro S w0 a hS h
  refine gC h (zs (zr (za rfl (zn (zs (zr (zm rfl ?_))))))); clear h; intro a w h
  refine wpl_plain (op_callO h (vs := [_]) rfl Tryz.call39 (C_brought p _ _ da Ka ha hda (by omega)) (by simp) (by decide) ?_); clear h; rintro v6 σ6 a w ⟨ad6, c6, rfl, hG6⟩ h
  refine gL h (zm rfl ?_); clear h; intro a w h
  refine wpl_plain (op_callO h (vs := [_]) rfl Tryz.call39 (C_brought q _ _ db Kb hb hdb (by omega)) (by simp) (by decide) ?_); clear h; rintro v8 σ8 a w ⟨ad8, c8, rfl, hG8⟩ h
  replace h := St.shareO' h hS hG8
  refine wpl_plain (op_appendG (o := σ6) h rfl hG6 rfl mm Tryz.runUnderlying25 Tryz.runUnderlying25 Tryz.typeInfo82 Tryz.sizeOf82 zeroT rfl (by decide) (by decide) (cellsOf_length encT_size _) (flatT _) (by show 72 * _ ≤ 281474976710656; omega) (by decide) ?_); clear h; intro v9 o9 a w hG9 h; obtain ⟨ad9, c9, rfl⟩ := hG9.is; rw [← List.length_append, ← cellsOf_append] at hG9; rw [← List.length_append] at h; replace h := St.shareO' h hS hG9
  refine wpl_plain (op_callO h (vs := [_]) rfl Tryz.call51 (C_gathered (norm p ++ norm q) _ _ (max Ka Kb) (DL_app ha.deg hb.deg hda hdb) (KL_app ha.nsz hb.nsz (Nat.le_max_left _ _) (Nat.le_max_right _ _)) (by rw [List.length_append]; exact Nat.le_trans (Nat.mul_le_mul (show _ ≤ 182 by omega) (show max Ka Kb + 1 ≤ 200000001 by omega)) (by decide)) (by rw [List.length_append]; omega)) (by simp) (by decide) ?_); clear h; rintro v10 σ10 a w ⟨ad10, c10, rfl, hG10⟩ h
  refine gL h (za rfl (zn (zt ?_))); clear h; intro a w h
  have e : norm (norm p ++ norm q) = norm (p ++ q) := norm_eq ((Eqv.nrm p).append (Eqv.nrm q))
  rw [e] at h hG10
  refine retO h (results1 h rfl (.tmp rfl)) ⟨ad10, c10, rfl, hG10⟩ (List.sublist_append_left _ _)
theorem C_pAddF (p q : List Tm) (ada adb : Option Addr) (ca cb da db Ka Kb : Nat) (ha : Pq da Ka p) (hb : Pq db Kb q) (hda : da ≤ 12) (hdb : db ≤ 12) (hK : Ka ≤ 200000000) (hK2 : Kb ≤ 200000000) : Ctr Tryz.prog 24 [.slice ada p.length ca, .slice adb q.length cb] [Row ada (cellsOf encT p), Row adb (cellsOf encT q)] (fun v Ψ => ∃ ad' c', v = .slice ad' (norm (p ++ q)).length c' ∧ Ψ = [Row ad' (cellsOf encT (norm (p ++ q)))]) := ctrO_F (C_pAdd p q ada adb ca cb da db Ka Kb ha hb hda hdb hK hK2)
theorem C_pSub (p q : List Tm) (ada adb : Option Addr) (ca cb da db Ka Kb : Nat) (ha : Pq da Ka p) (hb : Pq db Kb q) (hda : da ≤ 12) (hdb : db ≤ 12) (hK : Ka ≤ 200000000) (hK2 : Kb ≤ 190000000) : CtrO Tryz.prog 25 [.slice ada p.length ca, .slice adb q.length cb] [Row ada (cellsOf encT p), Row adb (cellsOf encT q)] (fun v o => ∃ ad' c', v = .slice ad' (norm (p ++ scaleL ((-1 : Int) : Rat) q)).length c' ∧ GrowO 7 82 v (norm (p ++ scaleL ((-1 : Int) : Rat) q)).length (cellsOf encT (norm (p ++ scaleL ((-1 : Int) : Rat) q))) o) := by
  refine fn_introO Tryz.func25 rfl Tryz.ntmps25 nb ?_
  intro S w0 a hS h
  refine gC h (zs (zr (za rfl (zn (zs (zr (zm rfl (zm rfl (zf [_] rfl Tryz.call26 (C_NegF q _ _ db Kb hb hdb (by omega) (by omega)) ?_))))))))); clear h; rintro v7 Ψ7 ⟨ad7, c7, rfl, rfl⟩ a w h
  refine wpl_plain (op_callO h (vs := [_, _]) rfl Tryz.call24 (C_pAdd p (norm (scaleL ((-1 : Int) : Rat) q)) _ _ _ _ da db Ka (2 + Kb + 1) ha ((hb.scale (lenQ_int (-1) (by decide) (by decide)) hdb)) hda hdb (by omega) (by omega)) (by simp) (by decide) ?_); clear h; rintro v8 σ8 a w ⟨ad8, c8, rfl, hG8⟩ h
  refine gL h (za rfl (zn (zt ?_))); clear h; intro a w h
  have e : norm (p ++ norm (scaleL ((-1 : Int) : Rat) q)) = norm (p ++ scaleL ((-1 : Int) : Rat) q) := norm_eq (Eqv.rfl'.append (Eqv.nrm _))
  rw [e] at h hG8
  refine retO h (results1 h rfl (.tmp rfl)) ⟨ad8, c8, rfl, hG8⟩ (List.sublist_append_left _ _)
theorem C_pSubF (p q : List Tm) (ada adb : Option Addr) (ca cb da db Ka Kb : Nat) (ha : Pq da Ka p) (hb : Pq db Kb q) (hda : da ≤ 12) (hdb : db ≤ 12) (hK : Ka ≤ 200000000) (hK2 : Kb ≤ 190000000) : Ctr Tryz.prog 25 [.slice ada p.length ca, .slice adb q.length cb] [Row ada (cellsOf encT p), Row adb (cellsOf encT q)] (fun v Ψ => ∃ ad' c', v = .slice ad' (norm (p ++ scaleL ((-1 : Int) : Rat) q)).length c' ∧ Ψ = [Row ad' (cellsOf encT (norm (p ++ scaleL ((-1 : Int) : Rat) q)))]) := ctrO_F (C_pSub p q ada adb ca cb da db Ka Kb ha hb hda hdb hK hK2)
def degN (p : List Tm) : Int := if p.length = 0 then -1 else (((p.getD (p.length - 1) T0).i + (p.getD (p.length - 1) T0).j : Nat) : Int)
theorem degN_le {p : List Tm} {d : Nat} (h : DL d p) : degN p ≤ (d : Int) := by
  unfold degN; split
  · omega
  · have := h _ (getD_mem p (d := T0) (show p.length - 1 < p.length by omega)); omega
theorem degN_ge (p : List Tm) : -1 ≤ degN p := by unfold degN; split <;> omega
theorem C_Degree (p : List Tm) (ad : Option Addr) (c d K : Nat) (hq : Pq d K p) (hd : d ≤ 12) (hK : K ≤ 400000000) : CtrW Tryz.prog 49 [.slice ad p.length c] [Row ad (cellsOf encT p)] (.int .i64 (degN (norm p))) := by
  have hn91 := hq.n91 hd
  refine fn_intro Tryz.func49 rfl Tryz.ntmps49 nb ?_
  intro S w0 a hS h
  refine gC h (zs (zr (za rfl (zn (zs (zr (zm rfl (zf [_] rfl Tryz.call39 (C_broughtF p _ _ d K hq hd hK) ?_)))))))); clear h; rintro v6 Ψ6 ⟨ad6, c6, rfl, rfl⟩ a w h
  refine gL h (za rfl (zn (zs (zs (zr (zm rfl (zp (.builtin [_] rfl (len_slice_25 _ _ _)) (zp (.eql rfl rfl) (zn ?_))))))))); clear h; intro a w h
  change Code.wp _ _ _ _ _
  refine cond_split h rfl (fun hc9 => ?_) (fun hc9 => ?_)
  · skip
    have h0 : (norm p).length = 0 := by have := eq_of_beq hc9; omega
    refine gC h (zs (zr (za rfl (zn (zt ?_))))); clear h; intro a w h
    refine retV h (results1 h rfl (.tmp rfl)) ?_
    unfold degN; rw [if_pos h0]
  · skip
    have h0 : (norm p).length ≠ 0 := fun e => by rw [e] at hc9; exact absurd hc9 (by decide)
    obtain ⟨B_ad6, O_ad6, rfl⟩ := h.row_addr (ad := ad6) (M := cellsOf encT (norm p)) mm (by intro e; have := congrArg List.length e; rw [cellsOf_length encT_size] at this; simp only [List.length_nil, Nat.mul_eq_zero] at this; omega)
    have hdg := (DL_norm hq.deg) _ (getD_mem (norm p) (d := T0) (show (norm p).length - 1 < (norm p).length by omega))
    refine gC h (zk (zs (zr (zm rfl (zm rfl (zp (.builtin [_] rfl (len_slice_25 _ _ _)) (zp (Pure1.cast (v' := (.int .i64 ((((norm p).length) - 1 : Nat) : Int))) (.sub rfl rfl) (by show Value.int _ _ = Value.int _ _; congr 1; omega)) (zp (.indexAddr rfl rfl (ix_25 _ _ _ _ _ (by omega))) (zD rfl mm (cells_lt (k := 7) (by decide) (fun _ => rfl) (norm p) (((norm p).length) - 1) (by omega)) Tryz.isAgg82 Tryz.sizeOf82 (read_cells (k := 7) (fun _ => rfl) ((fun _ => rfl)) (norm p) T0 (((norm p).length) - 1) (by omega)) (.inl rfl) ?_))))))))); clear h; intro a w h
    refine gL h (zz zeroT fun b4 => zt' rfl rfl (st_7_0_7 _ _ _ _ _ _ _ _ _ _ _ _ _ _) uu Tryz.sizeOf82 rfl nb rfl ?_); clear h; intro a w h
    refine gL h (zn (zs (zr (zp (.fieldAddr rfl (fa_82_0 _ _)) (zd rfl mr Tryz.isAgg3 Tryz.sizeOf3 (rs_7_0 _ _ _ _ _ _ _) ?_))))); clear h; intro a w h
    refine gL h (zp (.fieldAddr rfl (fa_82_1 _ _)) (zd rfl mr Tryz.isAgg3 Tryz.sizeOf3 (rs_7_1 _ _ _ _ _ _ _) ?_)); clear h; intro a w h
    refine gL h (zp (Pure1.cast (v' := (.int .i64 (((((norm p).getD (((norm p).length) - 1) T0).i) + (((norm p).getD (((norm p).length) - 1) T0).j) : Nat) : Int))) (.add rfl rfl) (by show Value.int _ _ = Value.int _ _; congr 1)) (za rfl (zn (zt ?_)))); clear h; intro a w h
    refine retV h (results1 h rfl (.tmp rfl)) ?_
    unfold degN; rw [if_neg h0]
end
section
abbrev mulS (s t : Tm) : Tm := ⟨s.i + t.i, s.j + t.j, s.c * t.c⟩
theorem mulL_take (a b : List Tm) (i : Nat) (h : i < a.length) : mulL (a.take i) b ++ b.map (mulS (a.getD i T0)) = mulL (a.take (i + 1)) b := by
  rw [take_snoc a h]; unfold mulL; rw [List.flatMap_append]; simp
theorem mulY_step (a b : List Tm) (s : Tm) (i j : Nat) (h : j < b.length) : (mulL (a.take i) b ++ (b.take j).map (mulS s)) ++ [mulS s (b.getD j T0)] = mulL (a.take i) b ++ (b.take (j + 1)).map (mulS s) := by
  rw [take_snoc b h, List.map_append, List.append_assoc]; rfl
theorem mulY_len {a b : List Tm} (i j : Nat) (s : Tm) (ha : a.length ≤ 91) (hb : b.length ≤ 91) : (mulL (a.take i) b ++ (b.take j).map (mulS s)).length ≤ 10000 := by
  rw [List.length_append, mulL_len, List.length_map]
  have h1 : (a.take i).length ≤ 91 := Nat.le_trans (by rw [List.length_take]; omega) ha
  have h2 : (b.take j).length ≤ 91 := Nat.le_trans (by rw [List.length_take]; omega) hb
  have := Nat.mul_le_mul h1 hb
  omega
theorem mulL_len91 {a b : List Tm} (ha : a.length ≤ 91) (hb : b.length ≤ 91) : (mulL a b).length ≤ 8281 := by rw [mulL_len]; exact Nat.mul_le_mul ha hb
theorem mul_room {a b : List Tm} {K : Nat} (ha : a.length ≤ 91) (hb : b.length ≤ 91) (hK : K ≤ 4000000) : (mulL a b).length * (K + 1) ≤ 50000000000 :=
  Nat.le_trans (Nat.mul_le_mul (mulL_len91 ha hb) (show K + 1 ≤ 4000001 by omega)) (by decide)
theorem C_pMul (p q : List Tm) (ada adb : Option Addr) (ca cb da db Ka Kb : Nat) (ha : Pq da Ka p) (hb : Pq db Kb q) (hd : da + db ≤ 12) (hK : Ka ≤ 2000000) (hK2 : Kb ≤ 2000000) : CtrO Tryz.prog 18 [.slice ada p.length ca, .slice adb q.length cb] [Row ada (cellsOf encT p), Row adb (cellsOf encT q)] (fun v o => ∃ ad' c', v = .tuple #[.slice ad' (norm (mulL p q)).length c', .int .i64 0] ∧ GrowO 7 82 (.slice ad' (norm (mulL p q)).length c') (norm (mulL p q)).length (cellsOf encT (norm (mulL p q))) o) := by
  have hna := ha.n91 (show da ≤ 12 by omega)
  have hnb := hb.n91 (show db ≤ 12 by omega)
  have hdA : degN (norm (norm p)) ≤ (da : Int) := degN_le (DL_norm (DL_norm ha.deg))
  have hdB : degN (norm (norm q)) ≤ (db : Int) := degN_le (DL_norm (DL_norm hb.deg))
  have hgA := degN_ge (norm (norm p))
  have hgB := degN_ge (norm (norm q))
  refine fn_introO Tryz.func18 rfl Tryz.ntmps18 nb ?_
  intro S w0 a hS h
  refine gC h (zs (zr (za rfl (za rfl (zn (zs (zr (zm rfl (zf [_] rfl Tryz.call39 (C_broughtF p _ _ da Ka ha (by omega) (by omega)) ?_))))))))); clear h; rintro v14 Ψ14 ⟨ad14, c14, rfl, rfl⟩ a w h
  refine gL h (zm rfl (zf [_] rfl Tryz.call39 (C_broughtF q _ _ db Kb hb (by omega) (by omega)) ?_)); clear h; rintro v16 Ψ16 ⟨ad16, c16, rfl, rfl⟩ a w h
  refine gL h (za rfl (za rfl (zn ?_))); clear h; intro a w h
  change Code.wp _ _ _ _ _
  refine wp_join (fun a w => ∃ (ad14 : Option Addr) (c14 : Nat) (ad16 : Option Addr) (c16 : Nat), St 68 S w0 [(6, .slice ad14 (norm p).length c14), (7, .slice ad16 (norm q).length c16)] [] [Row ad16 (cellsOf encT (norm q)), Row ad14 (cellsOf encT (norm p)), Row ada (cellsOf encT p), Row adb (cellsOf encT q)] a w) ?_ ?_
  · skip
    refine gC h (zs (zr (zm rfl (zp (.builtin [_] rfl (len_slice_25 _ _ _)) (zp (.gtr rfl rfl) ?_))))); clear h; intro a w h
    refine by_bool h (fun hc19 h => ?_) (fun hc19 h => ?_)
    · skip
      refine gL h (zm rfl (zq 20 rfl rfl (.move rfl) (zq 20 rfl rfl (.builtin [_] rfl (len_slice_25 _ _ _)) (zq 20 rfl rfl (.gtr rfl rfl) ?_)))); clear h; intro a w h
      refine by_bool h (fun hc23 h => ?_) (fun hc23 h => ?_)
      · skip
        refine gL h (zp (.pickT rfl rfl) (zm rfl (zq 25 rfl rfl (.move rfl) ?_))); clear h; intro a w h
        refine wpl_guard 25 h rfl rfl (op_callW h (vs := [_]) rfl Tryz.call49 (C_Degree (norm p) _ _ da Ka (ha.nrm (by omega)) (by omega) (by omega)) (by simp) (by decide) ?_); clear h; intro a w h
        refine gL h (zq 25 rfl rfl (.move rfl) ?_); clear h; intro a w h
        refine wpl_guard 25 h rfl rfl (op_callW h (vs := [_]) rfl Tryz.call49 (C_Degree (norm q) _ _ db Kb (hb.nrm (by omega)) (by omega) (by omega)) (by simp) (by decide) ?_); clear h; intro a w h
        refine gL h (zq 25 rfl rfl (.add rfl rfl) (zq 25 rfl rfl (.gtr rfl rfl) ?_)); clear h; intro a w h
        refine by_bool h (fun hc31 h => (by exfalso; have := of_decide_eq_true hc31; omega)) (fun hc31 h => ?_)
        refine gL h (zp (.pickT rfl rfl) (zn ?_)); clear h; intro a w h
        change Code.wp _ _ _ _ _
        refine cond_false h rfl ?_
        refine wp_skip ?_
        exact ⟨_, _, _, _, h.sub (subL ⟨rfl, rfl, trivial⟩)⟩
      · skip
        refine gL h (zp (.pickT rfl rfl) (zm rfl (zo 25 rfl rfl rfl (zo 25 rfl rfl rfl (zo 25 rfl rfl rfl (zo 25 rfl rfl rfl (zo 25 rfl rfl rfl (zo 25 rfl rfl rfl (zp (.pickF rfl rfl) (zn ?_)))))))))); clear h; intro a w h
        change Code.wp _ _ _ _ _
        refine cond_false h rfl ?_
        refine wp_skip ?_
        exact ⟨_, _, _, _, h.sub (subL ⟨rfl, rfl, trivial⟩)⟩
    · skip
      refine gL h (zm rfl (zo 20 rfl rfl rfl (zo 20 rfl rfl rfl (zo 20 rfl rfl rfl (zp (.pickF rfl rfl) (zm rfl (zo 25 rfl rfl rfl (zo 25 rfl rfl rfl (zo 25 rfl rfl rfl (zo 25 rfl rfl rfl (zo 25 rfl rfl rfl (zo 25 rfl rfl rfl (zp (.pickF rfl rfl) (zn ?_)))))))))))))); clear h; intro a w h
      change Code.wp _ _ _ _ _
      refine cond_false h rfl ?_
      refine wp_skip ?_
      exact ⟨_, _, _, _, h.sub (subL ⟨rfl, rfl, trivial⟩)⟩
  · clear h
    rintro a w ⟨ad14, c14, ad16, c16, h⟩
    refine gC h (zs (zr (za rfl (zn (zs (zs (zr (zm rfl (zp (.builtin [_] rfl (len_slice_25 _ _ _)) (zm rfl (zn (zb ?_)))))))))))); clear h; intro a w h
    refine wp_loop_inv (fun (i : Nat) a w => i ≤ (norm p).length ∧ ∃ (ad1 : Option Addr) (c1 : Nat) (o1 : List (Nat × Obj)), (GrowO 7 82 (.slice ad1 (mulL ((norm p).take i) (norm q)).length c1) (mulL ((norm p).take i) (norm q)).length (cellsOf encT (mulL ((norm p).take i) (norm q))) o1) ∧ St 68 S w0 [(7, .slice ad16 ((norm q).length) c16), (8, (.slice ad1 (mulL ((norm p).take i) (norm q)).length c1)), (33, .slice ad14 ((norm p).length) c14), (34, .int .i64 (((norm p).length : Nat) : Int)), (35, .int .i64 ((i : Nat) : Int))] (o1 ++ []) [Row ad16 (cellsOf encT (norm q)), Row ad14 (cellsOf encT (norm p)), Row ada (cellsOf encT p), Row adb (cellsOf encT q)] a w) (fun i => (norm p).length - i) 0 (⟨Nat.zero_le _, none, 0, [], GrowO.nil _ _, by exact (h).sub (subL ⟨rfl, rfl, rfl, rfl, rfl, trivial⟩)⟩) ?_; clear h
    rintro i a w ⟨hi_i, ad1, c1, o1, hG1, h⟩
    refine gC h (zs (zr (zp (.lss rfl rfl) (zn (zs ?_))))); clear h; intro a w h
    refine cond_split h rfl (fun hc36 => ?_) (fun hc36 => ?_)
    · skip
      have hlt_i : i < (norm p).length := by have := of_decide_eq_true hc36; omega
      obtain ⟨B_ad14, O_ad14, rfl⟩ := h.row_addr (ad := ad14) (M := cellsOf encT (norm p)) mm (by intro e; have := congrArg List.length e; rw [cellsOf_length (k := 7) (fun _ => rfl)] at this; simp only [List.length_nil, Nat.mul_eq_zero] at this; omega)
      have hmA := getD_mem (norm p) (d := T0) hlt_i
      have hsA := ha.nsz _ hmA
      have hdgA := (DL_norm ha.deg) _ hmA
      refine gC h (zk (zs (zb (zs (zr (zp (.indexAddr rfl rfl (ix_25 _ _ _ _ _ (by omega))) (zD rfl mm (cells_lt (k := 7) (by decide) (fun _ => rfl) (norm p) i (by omega)) Tryz.isAgg82 Tryz.sizeOf82 (read_cells (k := 7) (fun _ => rfl) ((fun _ => rfl)) (norm p) T0 i (by omega)) (.inl rfl) ?_))))))); clear h; intro a w h
      refine gL h (zz zeroT fun b10 => zt' rfl rfl (st_7_0_7 _ _ _ _ _ _ _ _ _ _ _ _ _ _) uu Tryz.sizeOf82 rfl nb rfl ?_); clear h; intro a w h
      refine gL h (zn (zs (zr (zm rfl (zp (.builtin [_] rfl (len_slice_25 _ _ _)) (zm rfl (zn (zb ?_)))))))); clear h; intro a w h
      refine wp_loop_inv (fun (j : Nat) a w => j ≤ (norm q).length ∧ ∃ (ad2 : Option Addr) (c2 : Nat) (o2 : List (Nat × Obj)), (GrowO 7 82 (.slice ad2 (mulL ((norm p).take i) (norm q) ++ ((norm q).take j).map (mulS ((norm p).getD i T0))).length c2) (mulL ((norm p).take i) (norm q) ++ ((norm q).take j).map (mulS ((norm p).getD i T0))).length (cellsOf encT (mulL ((norm p).take i) (norm q) ++ ((norm q).take j).map (mulS ((norm p).getD i T0)))) o2) ∧ St 68 S w0 [(7, .slice ad16 ((norm q).length) c16), (8, (.slice ad2 (mulL ((norm p).take i) (norm q) ++ ((norm q).take j).map (mulS ((norm p).getD i T0))).length c2)), (10, .pointer (some ⟨b10, 0, none⟩)), (33, .slice (some ⟨B_ad14, O_ad14, none⟩) ((norm p).length) c14), (34, .int .i64 (((norm p).length : Nat) : Int)), (35, .int .i64 ((i : Nat) : Int)), (39, .slice ad16 ((norm q).length) c16), (40, .int .i64 (((norm q).length : Nat) : Int)), (41, .int .i64 ((j : Nat) : Int))] ((b10, .cells (Value.cells (encT ((norm p).getD i T0))) 82 (0, 0)) :: (o2 ++ [])) [Row ad16 (cellsOf encT (norm q)), Row (some ⟨B_ad14, O_ad14, none⟩) (cellsOf encT (norm p)), Row ada (cellsOf encT p), Row adb (cellsOf encT q)] a w) (fun j => (norm q).length - j) 0 (⟨Nat.zero_le _, ad1, c1, o1, by rw [List.take_zero, List.map_nil, List.append_nil]; exact hG1, by rw [List.take_zero, List.map_nil, List.append_nil]; exact (h).sub (subL ⟨rfl, rfl, rfl, rfl, rfl, rfl, rfl, rfl, rfl, trivial⟩)⟩) ?_; clear h
      rintro j a w ⟨hi_j, ad2, c2, o2, hG2, h⟩
      refine gC h (zs (zr (zp (.lss rfl rfl) (zn (zs ?_))))); clear h; intro a w h
      refine cond_split h rfl (fun hc42 => ?_) (fun hc42 => ?_)
      · skip
        have hlt_j : j < (norm q).length := by have := of_decide_eq_true hc42; omega
        obtain ⟨B_ad16, O_ad16, rfl⟩ := h.row_addr (ad := ad16) (M := cellsOf encT (norm q)) mm (by intro e; have := congrArg List.length e; rw [cellsOf_length (k := 7) (fun _ => rfl)] at this; simp only [List.length_nil, Nat.mul_eq_zero] at this; omega)
        have hmB := getD_mem (norm q) (d := T0) hlt_j
        have hsB := hb.nsz _ hmB
        have hdgB := (DL_norm hb.deg) _ hmB
        have hyl := mulY_len i j ((norm p).getD i T0) hna hnb
        refine gC h (zk (zs (zb (zs (zr (zp (.indexAddr rfl rfl (ix_25 _ _ _ _ _ (by omega))) (zD rfl mm (cells_lt (k := 7) (by decide) (fun _ => rfl) (norm q) j (by omega)) Tryz.isAgg82 Tryz.sizeOf82 (read_cells (k := 7) (fun _ => rfl) ((fun _ => rfl)) (norm q) T0 j (by omega)) (.inl rfl) ?_))))))); clear h; intro a w h
        refine gL h (zz zeroT fun b12 => zt' rfl rfl (st_7_0_7 _ _ _ _ _ _ _ _ _ _ _ _ _ _) uu Tryz.sizeOf82 rfl nb rfl ?_); clear h; intro a w h
        refine gL h (zn (yD mixed_YtgkicbaomcmfoaaGreatDoor [0, 1, 2, 3, 4, 5, 6, 7, 8, 9, 10, 11, 12, 13, 14, 15, 16, 17, 18, 19] (floatsOK_none (by kernel_rfl)) (yp rfl (.move rfl) (yp rfl (.fieldAddr rfl (fa_82_0 _ _)) (yd rfl rfl mr Tryz.isAgg3 Tryz.sizeOf3 (rs_7_0 _ _ _ _ _ _ _) ?_))))); clear h
        refine yp rfl (.fieldAddr rfl (fa_82_0 _ _)) (yd rfl rfl mr Tryz.isAgg3 Tryz.sizeOf3 (rs_7_0 _ _ _ _ _ _ _) ?_)
        refine yp rfl (Pure1.cast (v' := (.int .i64 (((((norm p).getD i T0).i) + (((norm q).getD j T0).i) : Nat) : Int))) (.add rfl rfl) (by show Value.int _ _ = Value.int _ _; congr 1)) (yp rfl (.fieldAddr rfl (fa_82_1 _ _)) (yd rfl rfl mr Tryz.isAgg3 Tryz.sizeOf3 (rs_7_1 _ _ _ _ _ _ _) ?_))
        refine yp rfl (.fieldAddr rfl (fa_82_1 _ _)) (yd rfl rfl mr Tryz.isAgg3 Tryz.sizeOf3 (rs_7_1 _ _ _ _ _ _ _) ?_)
        refine yp rfl (Pure1.cast (v' := (.int .i64 (((((norm p).getD i T0).j) + (((norm q).getD j T0).j) : Nat) : Int))) (.add rfl rfl) (by show Value.int _ _ = Value.int _ _; congr 1)) (yp rfl (.fieldAddr rfl (fa_82_2 _ _)) (yd rfl rfl mr Tryz.isAgg53 Tryz.sizeOf53 (rd_7_2_5 _ _ _ _ _ _ _) ?_))
        refine yp rfl (.fieldAddr rfl (fa_82_2 _ _)) (yd rfl rfl mr Tryz.isAgg53 Tryz.sizeOf53 (rd_7_2_5 _ _ _ _ _ _ _) ?_)
        refine yv [_, _] rfl rfl Tryz.call50 (C_QMul _ _ (by omega) (by omega)) ?_
        have hl60 := lenQ_mul (((norm p).getD i T0).c) (((norm q).getD j T0).c)
        refine yp rfl (.build [(_, _), (_, _), (_, _)] rfl (bd_82_0_1_2 _ _ _ _ _ _ _)) (yB rfl [(_, _)] rfl (bs_24_1_0 _ _ _ _ _ _ _) fun b62 => ?_)
        refine head_appendO (σr := [(b12, .cells (Value.cells (encT ((norm q).getD j T0))) 82 (0, 0)), (b10, .cells (Value.cells (encT ((norm p).getD i T0))) 82 (0, 0))]) rfl (by kernel_rfl) rfl rfl (List.Perm.trans (List.Perm.refl _) (List.Perm.cons _ (pm_ca (pm_ca (List.Perm.refl _))))) hG2 Tryz.runUnderlying24 Tryz.runUnderlying24 Tryz.typeInfo82 Tryz.sizeOf82 zeroT rfl (by decide) (by decide) rfl rfl (by decide) (by show 72 * (2 * ((mulL ((norm p).take i) (norm q) ++ ((norm q).take j).map (mulS ((norm p).getD i T0))).length + 1) + 192) ≤ 281474976710656; omega) (by decide) ?_
        intro v63 o63 hG63
        obtain ⟨ad63, c63, rfl⟩ := hG63.is
        have hLn63 : (mulL ((norm p).take i) (norm q) ++ ((norm q).take j).map (mulS ((norm p).getD i T0))).length + 1 = ((mulL ((norm p).take i) (norm q) ++ ((norm q).take j).map (mulS ((norm p).getD i T0))) ++ [(⟨(((norm p).getD i T0).i) + (((norm q).getD j T0).i), (((norm p).getD i T0).j) + (((norm q).getD j T0).j), (((norm p).getD i T0).c) * (((norm q).getD j T0).c)⟩ : Tm)]).length := by simp only [List.length_append, List.length_cons, List.length_nil, Nat.zero_add]
        rw [hLn63]; rw [hLn63] at hG63
        replace hG63 : GrowO 7 82 (.slice ad63 ((mulL ((norm p).take i) (norm q) ++ ((norm q).take j).map (mulS ((norm p).getD i T0))) ++ [(⟨(((norm p).getD i T0).i) + (((norm q).getD j T0).i), (((norm p).getD i T0).j) + (((norm q).getD j T0).j), (((norm p).getD i T0).c) * (((norm q).getD j T0).c)⟩ : Tm)]).length c63) ((mulL ((norm p).take i) (norm q) ++ ((norm q).take j).map (mulS ((norm p).getD i T0))) ++ [(⟨(((norm p).getD i T0).i) + (((norm q).getD j T0).i), (((norm p).getD i T0).j) + (((norm q).getD j T0).j), (((norm p).getD i T0).c) * (((norm q).getD j T0).c)⟩ : Tm)]).length (cellsOf encT ((mulL ((norm p).take i) (norm q) ++ ((norm q).take j).map (mulS ((norm p).getD i T0))) ++ [(⟨(((norm p).getD i T0).i) + (((norm q).getD j T0).i), (((norm p).getD i T0).j) + (((norm q).getD j T0).j), (((norm p).getD i T0).c) * (((norm q).getD j T0).c)⟩ : Tm)])) o63 := by rw [cellsOf_append, cellsOf_one]; exact hG63
        refine yp rfl (.assign rfl) (yn (zr (zp (Pure1.cast (v' := (.int .i64 ((j + 1 : Nat) : Int))) (.add rfl rfl) (by show Value.int _ _ = Value.int _ _; congr 1)) (zm rfl (zn ?_))))); intro a w h
        rw [mulY_step (norm p) (norm q) ((norm p).getD i T0) i j hlt_j] at h hG63
        exact ⟨j + 1, ⟨by omega, ad63, c63, o63, hG63, by exact (((h.perm (List.Perm.trans (pm_ac (List.Perm.refl _)) (List.Perm.cons _ (List.Perm.trans (pm_ac (List.Perm.refl _)) (List.Perm.cons _ (List.Perm.refl _))))).symm).drop (by repeat (first | exact List.Sublist.refl _ | apply List.Sublist.cons))).factsSub (by simp)).sub sA⟩, by omega⟩
      · skip
        have heq_j : (norm q).length = j := by have := of_decide_eq_false hc42; omega
        subst heq_j
        rw [List.take_length, mulL_take (norm p) (norm q) i hlt_i] at h hG2
        refine gC h (ze (zr (zp (Pure1.cast (v' := (.int .i64 ((i + 1 : Nat) : Int))) (.add rfl rfl) (by show Value.int _ _ = Value.int _ _; congr 1)) (zm rfl (zn ?_))))); clear h; intro a w h
        exact ⟨i + 1, ⟨by omega, ad2, c2, o2, hG2, by exact ((h.drop (by repeat (first | exact List.Sublist.refl _ | apply List.Sublist.cons))).factsSub (by simp)).sub sA⟩, by omega⟩
    · skip
      have heq_i : (norm p).length = i := by have := of_decide_eq_false hc36; omega
      subst heq_i
      rw [List.take_length] at h hG1
      replace h := St.shareO' h hS hG1
      refine gC h (ze (zs (zr (zm rfl ?_)))); clear h; intro a w h
      refine wpl_plain (op_callO h (vs := [_]) rfl Tryz.call51 (C_gathered (mulL (norm p) (norm q)) _ _ (Ka + Kb) ((DL_mulL (DL_norm ha.deg) (DL_norm hb.deg)).mono hd) (KL_mulL ha.nsz hb.nsz) (mul_room hna hnb (by omega)) (Nat.le_trans (mulL_len91 hna hnb) (by decide))) (by simp) (by decide) ?_); clear h; rintro v67 σ67 a w ⟨ad67, c67, rfl, hG67⟩ h
      refine gL h (za rfl (za rfl (zn (zt ?_)))); clear h; intro a w h
      have e : norm (mulL (norm p) (norm q)) = norm (mulL p q) := norm_eq ((Eqv.nrm p).mul (Eqv.nrm q))
      rw [e] at h hG67
      refine retO h (results2 h rfl (.tmp rfl) (.tmp rfl)) ⟨ad67, c67, rfl, hG67⟩ (List.sublist_append_left _ _)
theorem C_pMulF (p q : List Tm) (ada adb : Option Addr) (ca cb da db Ka Kb : Nat) (ha : Pq da Ka p) (hb : Pq db Kb q) (hd : da + db ≤ 12) (hK : Ka ≤ 2000000) (hK2 : Kb ≤ 2000000) : Ctr Tryz.prog 18 [.slice ada p.length ca, .slice adb q.length cb] [Row ada (cellsOf encT p), Row adb (cellsOf encT q)] (fun v Ψ => ∃ ad' c', v = .tuple #[.slice ad' (norm (mulL p q)).length c', .int .i64 0] ∧ Ψ = [Row ad' (cellsOf encT (norm (mulL p q)))]) := ctrO_F2 (C_pMul p q ada adb ca cb da db Ka Kb ha hb hd hK hK2)
theorem pow_deg {n d : Nat} {g : Int} (h1 : -1 ≤ g) (h2 : g ≤ (d : Int)) (hn : n ≤ 12) (hd : n * d ≤ 12) : -12 ≤ (n : Int) * g ∧ (n : Int) * g ≤ 12 := by
  have a := Int.mul_le_mul_of_nonneg_left h1 (show (0 : Int) ≤ n by omega)
  have b := Int.mul_le_mul_of_nonneg_left h2 (show (0 : Int) ≤ n by omega)
  have c : (n : Int) * (d : Int) = ((n * d : Nat) : Int) := (Int.natCast_mul _ _).symm
  omega
theorem C_Pow (p : List Tm) (ad : Option Addr) (c d K : Nat) (hq : Pq d K p) (n : Nat) (hn : n ≤ 12) (hd12 : d ≤ 12) (hd : n * d ≤ 12) (hK : n * K + 4 ≤ 2000000) (hK1 : K ≤ 2000000) : Ctr Tryz.prog 19 [.slice ad p.length c, .int .i64 ((n : Nat) : Int)] [Row ad (cellsOf encT p)] (fun v Ψ => ∃ ad' c', v = .tuple #[.slice ad' (norm (powL p n)).length c', .int .i64 0] ∧ Ψ = [Row ad' (cellsOf encT (norm (powL p n)))]) := by
  obtain ⟨hg1, hg2⟩ := pow_deg (degN_ge (norm p)) (degN_le (DL_norm hq.deg)) hn hd
  refine fn_intro Tryz.func19 rfl Tryz.ntmps19 nb ?_
  intro S w0 a hS h
  refine gC h (zs (zr (za rfl (za rfl (zn (zs (zb (zs (zr (zm rfl (zp (.lss rfl rfl) ?_))))))))))); clear h; intro a w h
  refine by_bool h (fun hc9 h => (by exfalso; have := of_decide_eq_true hc9; omega)) (fun hc9 h => ?_)
  refine gL h (zm rfl (zq 10 rfl rfl (.move rfl) (zq 10 rfl rfl (.gtr rfl rfl) ?_))); clear h; intro a w h
  refine by_bool h (fun hc12 h => (by exfalso; have := of_decide_eq_true hc12; omega)) (fun hc12 h => ?_)
  refine gL h (zp (.pickF rfl rfl) (za rfl (zn ?_))); clear h; intro a w h
  change Code.wp _ _ _ _ _
  refine cond_false h rfl ?_
  refine gC h (zs (zr (zm rfl (zm rfl (zw [_] rfl Tryz.call49 (C_Degree p _ _ d K hq (by omega) (by omega)) (zp (.mul rfl rfl) (zp (.gtr rfl rfl) (za rfl (zn ?_))))))))); clear h; intro a w h
  change Code.wp _ _ _ _ _
  refine cond_split h rfl (fun hc14 => (by exfalso; have := of_decide_eq_true hc14; omega)) (fun hc14 => ?_)
  refine gC h (zk (zs (zr (zv [_] rfl Tryz.call22 (C_QInt _ (by omega) (by omega)) ?_)))); clear h; intro a w h
  have hl20 := lenQ_int (1) (by omega) (by omega)
  refine gL h (zf [_] rfl Tryz.call52 (C_ConstF ((1 : Int) : Rat) 2 (lenQ_int 1 (by decide) (by decide)) (by omega)) ?_); clear h; rintro v21 Ψ21 ⟨ad21, c21, rfl, rfl⟩ a w h
  refine gL h (za rfl (zn (zs (zs (zr (zm rfl (zm rfl (zn (zb ?_))))))))); clear h; intro a w h
  refine wp_loop_inv (fun (k : Nat) a w => k ≤ n ∧ ∃ (ad1 : Option Addr) (c1 : Nat), St 33 S w0 [(0, .slice ad p.length c), (4, .slice none 0 0), (5, .int .i64 0), (6, .slice ad1 ((norm (powL p k)).length) c1), (22, .int .i64 ((n : Nat) : Int)), (23, .int .i64 ((k : Nat) : Int))] [] [Row ad1 (cellsOf encT (norm (powL p k))), Row ad (cellsOf encT p)] a w) (fun k => n - k) 0 (⟨Nat.zero_le _, _, _, by rw [show norm (powL p 0) = norm [(⟨0, 0, ((1 : Int) : Rat)⟩ : Tm)] from rfl]; exact (h.factsSub (by simp)).sub (subL ⟨rfl, rfl, rfl, rfl, rfl, rfl, trivial⟩)⟩) ?_; clear h
  rintro k a w ⟨hi_k, ad1, c1, h⟩
  refine gC h (zs (zr (zp (.lss rfl rfl) (zn (zs ?_))))); clear h; intro a w h
  refine cond_split h rfl (fun hc24 => ?_) (fun hc24 => ?_)
  · skip
    have hlt_k : k < n := by have := of_decide_eq_true hc24; omega
    have hkd := Nat.mul_le_mul_right d (show k + 1 ≤ n by omega)
    have hkK := Nat.mul_le_mul_right K (show k + 1 ≤ n by omega)
    rw [Nat.add_mul, Nat.one_mul] at hkd hkK
    refine gC h (zk (zs (zb (zr (zm rfl (zm rfl (zf [_, _] rfl Tryz.call18 (C_pMulF (norm (powL p k)) p _ _ _ _ (k * d) d (k * K + 4) K (hq.pow k (by omega)) hq (by omega) (by omega) (by omega)) ?_))))))); clear h; rintro v28 Ψ28 ⟨ad28, c28, rfl, rfl⟩ a w h
    refine gL h (zm rfl (zp (.extract rfl (fun _ => rfl)) (zp (.extract rfl (fun _ => rfl)) (za rfl (zn (zr (zp (Pure1.cast (v' := (.int .i64 ((k + 1 : Nat) : Int))) (.add rfl rfl) (by show Value.int _ _ = Value.int _ _; congr 1)) (zm rfl (zn ?_))))))))); clear h; intro a w h
    have hstep : norm (mulL (norm (powL p k)) p) = norm (powL p (k + 1)) := norm_eq ((Eqv.nrm _).mul Eqv.rfl')
    rw [hstep] at h
    exact ⟨k + 1, ⟨by omega, ad28, c28, by exact (h.factsSub (by simp)).sub sA⟩, by omega⟩
  · skip
    have heq_k : n = k := by have := of_decide_eq_false hc24; omega
    subst heq_k
    refine gC h (ze (zs (zr (zm rfl (za rfl (za rfl (zn (zt ?_)))))))); clear h; intro a w h
    refine ret_of (Ψ := [Row _ (cellsOf encT (norm (powL p n)))]) h (results2 h rfl (.tmp rfl) (.tmp rfl)) ⟨_, _, rfl, rfl⟩ (by simp)
end
section
abbrev encV (x y : Rat) : Value := .agg #[.int .u64 (lowN x.num.natAbs), .string (bigN x.num.natAbs), .bool (decide (x.num < 0)), .int .u64 (lowN (x.den - 1)), .string (bigN (x.den - 1)),
  .int .u64 (lowN y.num.natAbs), .string (bigN y.num.natAbs), .bool (decide (y.num < 0)), .int .u64 (lowN (y.den - 1)), .string (bigN (y.den - 1))]
abbrev encPt (p : Pt) : Value := encV p.1 p.2
abbrev encA (l : List Rat) : Value := .agg (cellsOf encQ l).toArray
end
section
def fanG (p : List Tm) (l : List Pt) : Nat → Rat
  | 0 => 0
  | k + 1 => fanG p l k + triQ p (l.getD 0 (0, 0)) (l.getD (k + 1) (0, 0)) (l.getD (k + 2) (0, 0))
def pwN (x : Rat) : Nat → List Rat
  | 0 => (List.replicate 13 (0 : Rat)).set 0 ((1 : Int) : Rat)
  | i + 1 => (pwN x i).set (i + 1) ((pwN x i).getD i 0 * x)
def PWf (x y : Rat) : Nat → Nat → Rat := fun i j => (pwN x 12).getD i 0 * (pwN y 12).getD j 0
end
section
theorem nrm_coef : ∀ {p : List Tm} {u : Tm}, Nrm p → u ∈ p → lin (at0 u.i u.j) p = u.c
  | [], _, _, h => nomatch h
  | t :: p, u, hn, h => by
    rcases List.mem_cons.1 h with rfl | h
    · exact nrm_head hn
    · have hlt := (List.pairwise_cons.1 hn.2).1 u h
      rw [lin, nrm_coef (nrm_tail hn) h, at0, if_neg (by rw [ltT_iff] at hlt; omega)]; grind
theorem coef_mem {l : List Tm} {a b : Nat} (h : lin (at0 a b) l ≠ 0) : ∃ u ∈ norm l, u.i = a ∧ u.j = b := by
  rw [← lin_norm] at h
  by_cases hc : ∃ u ∈ norm l, u.i = a ∧ u.j = b
  · exact hc
  · exact absurd (lin_at0_none (fun t ht h2 => hc ⟨t, ht, h2⟩)) h
theorem last_getD {p : List Tm} (h : p ≠ []) : p = p.dropLast ++ [p.getD (p.length - 1) ⟨0, 0, 0⟩] := by
  have h1 := List.dropLast_concat_getLast h
  have h2 : p.getD (p.length - 1) ⟨0, 0, 0⟩ = p.getLast h := by
    rw [List.getLast_eq_getElem h]
    have : p.length - 1 < p.length := by have := List.length_pos_iff.2 h; omega
    simp [List.getD, this]
  rw [h2, h1]
theorem nrm_last {p : List Tm} (hn : Nrm p) {t : Tm} (ht : t ∈ p) : t = p.getD (p.length - 1) ⟨0, 0, 0⟩ ∨ ltT t (p.getD (p.length - 1) ⟨0, 0, 0⟩) = true := by
  have hne : p ≠ [] := fun e => by rw [e] at ht; cases ht
  have e := last_getD hne
  have h2 := hn.2
  rw [e, List.pairwise_append] at h2
  rw [e] at ht
  rcases List.mem_append.1 ht with h | h
  · exact .inr (h2.2.2 t h _ (List.mem_singleton.2 rfl))
  · exact .inl (List.mem_singleton.1 h)
theorem degN_mem {p : List Tm} (hn : Nrm p) {t : Tm} (ht : t ∈ p) : ((t.i + t.j : Nat) : Int) ≤ degN p := by
  have hne : p.length ≠ 0 := fun e => by rw [List.eq_nil_of_length_eq_zero e] at ht; cases ht
  unfold degN
  rw [if_neg hne]
  rcases nrm_last hn ht with h | h
  · show ((t.i + t.j : Nat) : Int) ≤ (((p.getD (p.length - 1) ⟨0, 0, 0⟩).i + (p.getD (p.length - 1) ⟨0, 0, 0⟩).j : Nat) : Int)
    rw [← h]; exact Int.le_refl _
  · rw [ltT_iff] at h
    show ((t.i + t.j : Nat) : Int) ≤ (((p.getD (p.length - 1) ⟨0, 0, 0⟩).i + (p.getD (p.length - 1) ⟨0, 0, 0⟩).j : Nat) : Int)
    omega
theorem degN_nil : degN [] = -1 := rfl
theorem DL_degN {p : List Tm} (hn : Nrm p) {d : Nat} (h : degN p ≤ (d : Int)) : DL d p := fun t ht => by have := degN_mem hn ht; omega
end
section
end
section
theorem castN_iff (a b : Nat) : ((a : Int) = (b : Int)) ↔ a = b := by omega
theorem run_neT (X Y : Operand) (x y : Tm) (w : World) : (do eqGuard .neq 82 X Y (encT x) (encT y); Go.binOp .neq 82 (encT x) (encT y) : Sem Value).run Tryz.prog w = .ok (.bool (!decide (x = y))) w := by
  obtain ⟨x1, x2, x3⟩ := x
  obtain ⟨y1, y2, y3⟩ := y
  simp [go_sem]
  rw [nestQ]
  by_cases e1 : x1 = y1 <;> by_cases e2 : x2 = y2 <;> by_cases e3 : x3 = y3 <;> simp [e1, e2, e3, castN_iff]
theorem eqL_of {p q : List Tm} (hl : p.length = q.length) (h : ∀ k, k < p.length → p.getD k T0 = q.getD k T0) : p = q := by
  refine List.ext_getElem hl (fun i h1 h2 => ?_)
  have := h i h1
  simpa [List.getD, h1, h2] using this
theorem C_EqualT (p q : List Tm) (ada adb : Option Addr) (ca cb : Nat) (hp : p.length ≤ 1000000) (hq : q.length ≤ 1000000) : CtrW Tryz.prog 38 [.slice ada p.length ca, .slice adb q.length cb] [Row ada (cellsOf encT p), Row adb (cellsOf encT q)] (.bool (decide (p = q))) := by
  refine fn_intro Tryz.func38 rfl Tryz.ntmps38 nb ?_
  intro S w0 a hS h
  refine gC h (zs (zr (za rfl (zn (zs (zs (zr (zm rfl (zp (.builtin [_] rfl (len_slice_25 _ _ _)) (zm rfl (zp (.builtin [_] rfl (len_slice_25 _ _ _)) (zp (.neq rfl rfl) (zn ?_))))))))))))); clear h; intro a w h
  change Code.wp _ _ _ _ _
  refine cond_split h rfl (fun hc10 => ?_) (fun hc10 => ?_)
  · skip
    have hne : p.length ≠ q.length := natNe hc10
    refine gC h (zs (zr (za rfl (zn (zt ?_))))); clear h; intro a w h
    refine retV h (results1 h rfl (.tmp rfl)) ?_
    rw [decide_eq_false (fun e => hne (by rw [e]))]
  · skip
    have hle : p.length = q.length := natEq hc10
    refine gC h (zk (zs (zs (zr (zm rfl (zp (.builtin [_] rfl (len_slice_25 _ _ _)) (zm rfl (zn (zb ?_))))))))); clear h; intro a w h
    refine wp_loop_inv (fun (i : Nat) a w => i ≤ p.length ∧ (∀ k, k < i → p.getD k T0 = q.getD k T0) ∧ St 26 S w0 [(0, .slice ada p.length ca), (1, .slice adb q.length cb), (12, .int .i64 ((p.length : Nat) : Int)), (13, .int .i64 ((i : Nat) : Int))] [] [Row ada (cellsOf encT p), Row adb (cellsOf encT q)] a w) (fun i => p.length - i) 0 (⟨Nat.zero_le _, fun k hk => absurd hk (Nat.not_lt_zero _), by exact (h).sub (subL ⟨rfl, rfl, rfl, rfl, trivial⟩)⟩) ?_; clear h
    rintro i a w ⟨hi_i, hinv_i, h⟩
    refine gC h (zs (zr (zp (.lss rfl rfl) (zn (zs ?_))))); clear h; intro a w h
    refine cond_split h rfl (fun hc14 => ?_) (fun hc14 => ?_)
    · skip
      have hlt_i : i < p.length := by have := of_decide_eq_true hc14; omega
      have hqi : q.length ≠ 0 := by omega
      obtain ⟨B_ada, O_ada, rfl⟩ := h.row_addr (ad := ada) (M := cellsOf encT p) mm (by intro e; have := congrArg List.length e; rw [cellsOf_length (k := 7) (fun _ => rfl)] at this; simp only [List.length_nil, Nat.mul_eq_zero] at this; omega)
      obtain ⟨B_adb, O_adb, rfl⟩ := h.row_addr (ad := adb) (M := cellsOf encT q) mm (by intro e; have := congrArg List.length e; rw [cellsOf_length (k := 7) (fun _ => rfl)] at this; simp only [List.length_nil, Nat.mul_eq_zero] at this; omega)
      refine gC h (zk (zs (zb (zs (zr (zm rfl (za rfl (zn (zs (yD mixed_YtgkicbaomcmfoaaGreatDoor [0, 1, 2, 3, 4, 5, 6, 7, 8] (floatsOK_none (by kernel_rfl)) (yp rfl (.move rfl) (yp rfl (.move rfl) (yp rfl (.indexAddr rfl rfl (ix_25 _ _ _ _ _ (by omega))) ?_))))))))))))); clear h
      refine head_loadRow rfl (by kernel_rfl) rfl mm (cells_lt (k := 7) (by decide) (fun _ => rfl) p i (by omega)) Tryz.isAgg82 Tryz.sizeOf82 (read_cells (k := 7) (fun _ => rfl) ((fun _ => rfl)) p T0 i (by omega)) (.inl rfl) (by decide) ?_
      refine yp rfl (.move rfl) (yp rfl (.move rfl) (yp rfl (.indexAddr rfl rfl (ix_25 _ _ _ _ _ (by omega))) ?_))
      refine head_loadRow rfl (by kernel_rfl) rfl mm (cells_lt (k := 7) (by decide) (fun _ => rfl) q i (by omega)) Tryz.isAgg82 Tryz.sizeOf82 (read_cells (k := 7) (fun _ => rfl) ((fun _ => rfl)) q T0 i (by omega)) (.inl rfl) (by decide) ?_
      refine yp rfl (.binOp rfl rfl (fun _ => run_neT _ _ (p.getD i T0) (q.getD i T0) _)) (yn ?_); intro a w h
      change Code.wp _ _ _ _ _
      refine cond_split h rfl (fun hc24 => ?_) (fun hc24 => ?_)
      · skip
        have hbad : ¬ p.getD i T0 = q.getD i T0 := of_decide_eq_false (by simpa using hc24)
        refine gC h (zs (zr (za rfl (zn (zt ?_))))); clear h; intro a w h
        refine retV h (results1 h rfl (.tmp rfl)) ?_
        rw [decide_eq_false (fun e => hbad (by rw [e]))]
      · skip
        have hgood : p.getD i T0 = q.getD i T0 := of_decide_eq_true (by simpa using hc24)
        refine gC h (zk (zr (zp (Pure1.cast (v' := (.int .i64 ((i + 1 : Nat) : Int))) (.add rfl rfl) (by show Value.int _ _ = Value.int _ _; congr 1)) (zm rfl (zn ?_))))); clear h; intro a w h
        exact ⟨i + 1, ⟨by omega, fun k hk => by rcases Nat.lt_or_ge k i with h | h; exact hinv_i k h; rw [show k = i by omega]; exact hgood, (h.factsSub (by simp)).sub sA⟩, by omega⟩
    · skip
      have heq_i : p.length = i := by have := of_decide_eq_false hc14; omega
      subst heq_i
      refine gC h (ze (zs (zr (za rfl (zn (zt ?_)))))); clear h; intro a w h
      refine retV h (results1 h rfl (.tmp rfl)) ?_
      rw [decide_eq_true (eqL_of hle hinv_i)]
theorem C_pSame (p q : List Tm) (ada adb : Option Addr) (ca cb da db Ka Kb : Nat) (ha : Pq da Ka p) (hb : Pq db Kb q) (hda : da ≤ 12) (hdb : db ≤ 12) (hK : Ka ≤ 200000000) (hK2 : Kb ≤ 200000000) : CtrW Tryz.prog 12 [.slice ada p.length ca, .slice adb q.length cb] [Row ada (cellsOf encT p), Row adb (cellsOf encT q)] (.bool (decide (norm p = norm q))) := by
  have hna := ha.n91 hda
  have hnb := hb.n91 hdb
  refine fn_intro Tryz.func12 rfl Tryz.ntmps12 nb ?_
  intro S w0 a hS h
  refine gC h (zs (zr (za rfl (zn (zs (zr (zm rfl (zf [_] rfl Tryz.call39 (C_broughtF p _ _ da Ka ha hda (by omega)) ?_)))))))); clear h; rintro v6 Ψ6 ⟨ad6, c6, rfl, rfl⟩ a w h
  refine gL h (zm rfl (zf [_] rfl Tryz.call39 (C_broughtF q _ _ db Kb hb hdb (by omega)) ?_)); clear h; rintro v8 Ψ8 ⟨ad8, c8, rfl, rfl⟩ a w h
  refine gL h (zw [_, _] rfl Tryz.call38 (C_EqualT (norm p) (norm q) _ _ _ _ (by omega) (by omega)) (za rfl (zn (zt ?_)))); clear h; intro a w h
  refine retV h (results1 h rfl (.tmp rfl)) ?_
  rfl
def cfT : List Tm → Int → Int → Rat
  | [], _, _ => 0
  | t :: l, i, j => if ((t.i : Nat) : Int) = i ∧ ((t.j : Nat) : Int) = j then t.c else cfT l i j
structure Tz where
  i : Int
  j : Int
  c : Rat
abbrev Tz0 : Tz := ⟨0, 0, 0⟩
abbrev encTz (t : Tz) : Value := .agg #[.int .i64 t.i, .int .i64 t.j, .int .u64 (lowN t.c.num.natAbs), .string (bigN t.c.num.natAbs), .bool (decide (t.c.num < 0)), .int .u64 (lowN (t.c.den - 1)), .string (bigN (t.c.den - 1))]
def mayZ (t : Tz) : Int := if t.i < 0 ∨ t.j < 0 then 1 else if t.i > 12 ∨ t.j > 12 - t.i then 9 else 0
def firstZ : List Tz → Int
  | [] => 0
  | t :: l => if mayZ t = 0 then firstZ l else mayZ t
end
section
theorem len_slice_37 (a : Option Addr) (n c : Nat) (w : World) (ty : TypeId) (cs : Array Bool) : (Go.builtin .len #[37] ty cs #[.slice a n c]).run Tryz.prog w = .ok (.value (.int .i64 n)) w := by
  simp [go_sem]
theorem ix_37 (b off n c j : Nat) (h : j < n) (w : World) : (Instr.indexAt 37 (.slice (some ⟨b, off, none⟩) n c) (.int .i64 (j : Int))).run Tryz.prog w = .ok (.pointer (some ⟨b, off + j * 4, none⟩)) w := by
  simpa using indexAt_slice Tryz.runUnderlying37 Tryz.sizeOf123 b off n c j h w
theorem fa_123_0 (b off : Nat) (w : World) : (Instr.fieldAt 123 (.pointer (some ⟨b, off, none⟩)) 0).run Tryz.prog w = .ok (.pointer (some ⟨b, off + 0, none⟩)) w := by
  simp [go_sem]
theorem cv_124_3 (x : Int) (w : World) : (Go.convert 124 3 (.int .u64 x)).run Tryz.prog w = .ok (.int .i64 (IntKind.i64.wrap x)) w := by
  simp [go_sem]
theorem fa_123_1 (b off : Nat) (w : World) : (Instr.fieldAt 123 (.pointer (some ⟨b, off, none⟩)) 1).run Tryz.prog w = .ok (.pointer (some ⟨b, off + 1, none⟩)) w := by
  simp [go_sem]
theorem fa_123_2 (b off : Nat) (w : World) : (Instr.fieldAt 123 (.pointer (some ⟨b, off, none⟩)) 2).run Tryz.prog w = .ok (.pointer (some ⟨b, off + 2, none⟩)) w := by
  simp [go_sem]
theorem bd_123_0_1_2 (x0 : Int) (x1 : Int) (x2_0 : Value) (x2_1 : Value) (w : World) : (Instr.build 123 [(0, .int .i64 x0), (1, .int .i64 x1), (2, .agg #[x2_0, x2_1])].toArray).run Tryz.prog w = .ok (.agg #[.int .i64 x0, .int .i64 x1, x2_0, x2_1]) w := by simp [go_sem]
theorem bs_37_1_0 (x0_0 : Value) (x0_1 : Value) (x0_2 : Value) (x0_3 : Value) (w : World) : (Instr.buildSlice 37 1 [(0, .agg #[x0_0, x0_1, x0_2, x0_3])].toArray).run Tryz.prog w = .ok (.slice (some ⟨w.heap.size, 0, none⟩) 1 1) (w.alloc (.cells #[x0_0, x0_1, x0_2, x0_3] 123 (0, 0))) := by
  simp [go_sem]
variable {α : Type} {enc : α → Value} {k : Nat}
theorem at_lt (hk : ∀ x, (enc x).cells.size = k) (l : List α) (j o : Nat) (h : j < l.length) (ho : o < k) : j * k + o < (cellsOf enc l).length := by
  rw [cellsOf_length hk]
  have := Nat.mul_le_mul_right k (show j + 1 ≤ l.length from h)
  rw [Nat.add_mul] at this; omega
theorem read_at (hk : ∀ x, (enc x).cells.size = k) (l : List α) (d : α) (j : Nat) (h : j < l.length) (agg : Bool) (s o : Nat) (v : Value) (hos : o + s ≤ k) (h0 : 0 < s)
    (hv : readAt agg s (enc (l.getD j d)).cells o = some v) : readAt agg s (cellsOf enc l).toArray (j * k + o) = some v := by
  have hg : l.getD j d = l[j] := by simp [List.getD, h]
  rw [hg] at hv
  have hle : j * k + k ≤ (cellsOf enc l).length := by
    rw [cellsOf_length hk]
    have := Nat.mul_le_mul_right k (show j + 1 ≤ l.length from h)
    rw [Nat.add_mul] at this; omega
  have hsz := hk l[j]
  cases agg with
  | false =>
    simp only [readAt, Bool.false_eq_true, if_false] at hv ⊢
    have := cellsOf_get hk l j o h (by omega)
    rw [← hv]
    simpa using this
  | true =>
    simp only [readAt, if_true] at hv ⊢
    rw [if_pos (by omega)] at hv
    rw [if_pos (by show _ ≤ (cellsOf enc l).length; omega), ← Option.some.inj hv]
    congr 2
    apply Array.ext
    · simp [hsz]; omega
    · intro i h1 h2
      have hi : i < s := by simp [hsz] at h2; omega
      have := cellsOf_get hk l j (o + i) h (by omega)
      rw [List.getElem?_eq_getElem (by omega)] at this
      simp at this ⊢
      rw [Array.getElem?_eq_getElem (by omega)] at this
      have h3 := Option.some.inj this
      rw [← h3]
      congr 1; omega
structure Ti where
  i : Int
  j : Int
  n : Int
  d : Int
abbrev Ti0 : Ti := ⟨0, 0, 0, 0⟩
abbrev encTi (t : Ti) : Value := .agg #[.int .i64 t.i, .int .i64 t.j, .int .i64 t.n, .int .u32 t.d]
def OkT (t : Ti) : Prop := (-9223372036854775808 ≤ t.i ∧ t.i ≤ 9223372036854775807) ∧ (-9223372036854775808 ≤ t.j ∧ t.j ≤ 9223372036854775807) ∧ OkQ (t.n, t.d)
def uN (x : Int) : Nat := (x % 18446744073709551616).toNat
theorem uN_wrap (x : Int) : IntKind.u64.wrap x = ((uN x : Nat) : Int) := by rw [wrap_u64_mod]; unfold uN; omega
def brI (d : Nat) (t : Ti) : Nat := uN t.i % (d + 1)
def brJ (d : Nat) (t : Ti) : Nat := uN t.j % (d - brI d t + 1)
theorem brI_le (d : Nat) (t : Ti) : brI d t ≤ d := Nat.le_of_lt_succ (Nat.mod_lt _ (Nat.succ_pos d))
theorem brJ_le (d : Nat) (t : Ti) : brI d t + brJ d t ≤ d := by
  have h1 := brI_le d t
  have h2 : brJ d t < d - brI d t + 1 := Nat.mod_lt _ (Nat.succ_pos _)
  omega
abbrev encTb (d : Nat) (t : Ti) : Value := .agg #[.int .i64 ((brI d t : Nat) : Int), .int .i64 ((brJ d t : Nat) : Int), .int .i64 t.n, .int .u32 t.d]
def tmB (d : Nat) (t : Ti) : Tm := ⟨brI d t, brJ d t, qv t.n t.d⟩
def madeL (d : Nat) (l : List Ti) : List Tm := l.map (tmB d)
theorem takeTi_snoc (l : List Ti) {j : Nat} (h : j < l.length) : l.take (j + 1) = l.take j ++ [l.getD j Ti0] := by
  rw [List.take_add_one, List.getElem?_eq_getElem h]; simp [List.getD, h]
theorem made_DL (d : Nat) (l : List Ti) : DL d (madeL d l) := fun t ht => by
  obtain ⟨s, _, rfl⟩ := List.mem_map.1 ht
  exact brJ_le d s
theorem made_KL {d : Nat} {l : List Ti} (h : ∀ t ∈ l, OkT t) : KL 4 (madeL d l) := fun t ht => by
  obtain ⟨s, hs, rfl⟩ := List.mem_map.1 ht
  exact lenQ_qvp (h s hs).2.2
theorem made_Pq {d m : Nat} {l : List Ti} (h : ∀ t ∈ l, OkT t) (hm : l.length ≤ m) (hm2 : m ≤ 20) (hd : d ≤ 12) : Pq d (m * 5 + 1) (norm (madeL d l)) :=
  (Pq.raw (made_DL d l) (made_KL h) (by unfold madeL; rw [List.length_map]; exact hm) (by omega)).nrm hd
abbrev encPQ (q : (Int × Int) × (Int × Int)) : Value := .agg #[.int .i64 q.1.1, .int .u32 q.1.2, .int .i64 q.2.1, .int .u32 q.2.2]
def ptv (q : (Int × Int) × (Int × Int)) : Pt := (qvp q.1, qvp q.2)
def OkP (q : (Int × Int) × (Int × Int)) : Prop := OkQ q.1 ∧ OkQ q.2
theorem C_Brought (l : List Ti) (ad : Option Addr) (c d : Nat) (hd : d ≤ 12) (hn : l.length ≤ 1000) : Ctr Tryz.prog 42 [.slice ad l.length c, .int .i64 ((d : Nat) : Int)] [Row ad (cellsOf encTi l)] (fun v Ψ => ∃ ad' c', v = .slice ad' l.length c' ∧ Ψ = [Row ad' (cellsOf (encTb d) l)]) := by
  refine fn_intro Tryz.func42 rfl Tryz.ntmps42 nb ?_
  intro S w0 a hS h
  refine gC h (zs (zr (za rfl (zn (zs (zr (za rfl (zn (zs (zs (zr (za rfl (zn (zb ?_)))))))))))))); clear h; intro a w h
  refine wp_loop_inv (fun (k : Nat) a w => k ≤ l.length ∧ ∃ (ad1 : Option Addr) (c1 : Nat) (o1 : List (Nat × Obj)), (GrowO 4 123 (.slice ad1 (l.take k).length c1) (l.take k).length (cellsOf (encTb d) (l.take k)) o1) ∧ St 49 S w0 [(0, .slice ad l.length c), (1, .int .i64 ((d : Nat) : Int)), (4, .slice none 0 0), (5, (.slice ad1 (l.take k).length c1)), (6, .int .i64 ((k : Nat) : Int))] (o1 ++ []) [Row ad (cellsOf encTi l)] a w) (fun k => l.length - k) 0 (⟨Nat.zero_le _, none, 0, [], GrowO.nil _ _, by exact (h).sub (subL ⟨rfl, rfl, rfl, rfl, rfl, trivial⟩)⟩) ?_; clear h
  rintro k a w ⟨hi_k, ad1, c1, o1, hG1, h⟩
  refine gC h (zs (zs (zr (zm rfl (zm rfl (zp (.builtin [_] rfl (len_slice_37 _ _ _)) (zp (.lss rfl rfl) (zn ?_)))))))); clear h; intro a w h
  change Code.wp _ _ _ _ _
  refine cond_split h rfl (fun hc11 => ?_) (fun hc11 => ?_)
  · skip
    have hlt_k : k < l.length := by have := of_decide_eq_true hc11; omega
    obtain ⟨B_ad, O_ad, rfl⟩ := h.row_addr (ad := ad) (M := cellsOf encTi l) mm (by intro e; have := congrArg List.length e; rw [cellsOf_length (k := 4) (fun _ => rfl)] at this; simp only [List.length_nil, Nat.mul_eq_zero] at this; omega)
    have hb1 := brI_le d (l.getD k Ti0)
    have hb2 := brJ_le d (l.getD k Ti0)
    have hlk : (l.take k).length = k := by rw [List.length_take]; omega
    refine gC h (zk (zs (zb (zs (zr (zm rfl (zm rfl (zp (.indexAddr rfl rfl (ix_37 _ _ _ _ _ (by omega))) (zp (Pure1.cast (v' := .pointer (some ⟨B_ad, O_ad + (k * 4 + 0), none⟩)) (.fieldAddr rfl (fa_123_0 _ _)) (by rw [Nat.add_assoc])) (zD rfl mm (at_lt (k := 4) (enc := encTi) (fun _ => rfl) l k 0 (by omega) (by decide)) Tryz.isAgg3 Tryz.sizeOf3 (read_at (k := 4) (enc := encTi) (fun _ => rfl) l Ti0 k (by omega) false 1 0 _ (by decide) (by decide) rfl) (.inr rfl) ?_)))))))))); clear h; intro a w h
    refine gL h (zp (Pure1.cast (v' := .int .u64 ((uN (l.getD k Ti0).i : Nat) : Int)) (.convert rfl (cv_3_124 _)) (by rw [uN_wrap])) (zm rfl (zp (Pure1.cast (v' := (.int .i64 ((d + 1 : Nat) : Int))) (.add rfl rfl) (by show Value.int _ _ = Value.int _ _; congr 1)) (zp (Pure1.cast (v' := .int .u64 ((d + 1 : Nat) : Int)) (.convert rfl (cv_3_124 _)) (by rw [wrap_u64 _ (by omega) (by omega)])) (zp (Pure1.cast (v' := .int .u64 ((brI d (l.getD k Ti0) : Nat) : Int)) (.binOp rfl rfl (fun _ => run_rem _ _ _ _ _ (by omega))) (by rw [tmod_nat]; rfl)) (zp (Pure1.cast (v' := .int .i64 ((brI d (l.getD k Ti0) : Nat) : Int)) (.convert rfl (cv_124_3 _)) (by rw [wrap_i64 _ (by omega) (by omega)])) (za rfl (zn (yD mixed_YtgkicbaomcmfoaaGreatDoor [0, 1, 2, 3, 4, 5, 6, 7, 8, 9, 10, 11, 12, 13, 14, 15, 16, 17, 18, 19, 20, 21, 22, 23] (floatsOK_none (by kernel_rfl)) (yp rfl (.move rfl) (yp rfl (.move rfl) (yp rfl (.move rfl) (yp rfl (.move rfl) (yp rfl (.indexAddr rfl rfl (ix_37 _ _ _ _ _ (by omega))) (yp rfl (Pure1.cast (v' := .pointer (some ⟨B_ad, O_ad + (k * 4 + 1), none⟩)) (.fieldAddr rfl (fa_123_1 _ _)) (by rw [Nat.add_assoc])) ?_))))))))))))))); clear h
    refine head_loadRow rfl (by kernel_rfl) rfl mm (at_lt (k := 4) (enc := encTi) (fun _ => rfl) l k 1 (by omega) (by decide)) Tryz.isAgg3 Tryz.sizeOf3 (read_at (k := 4) (enc := encTi) (fun _ => rfl) l Ti0 k (by omega) false 1 1 _ (by decide) (by decide) rfl) (.inr rfl) (by decide) ?_
    refine yp rfl (Pure1.cast (v' := .int .u64 ((uN (l.getD k Ti0).j : Nat) : Int)) (.convert rfl (cv_3_124 _)) (by rw [uN_wrap])) (yp rfl (.move rfl) (yp rfl (.move rfl) (yp rfl (Pure1.cast (v' := (.int .i64 ((d - (brI d (l.getD k Ti0)) : Nat) : Int))) (.sub rfl rfl) (by show Value.int _ _ = Value.int _ _; congr 1; omega)) (yp rfl (Pure1.cast (v' := (.int .i64 (((d - (brI d (l.getD k Ti0))) + 1 : Nat) : Int))) (.add rfl rfl) (by show Value.int _ _ = Value.int _ _; congr 1)) (yp rfl (Pure1.cast (v' := .int .u64 ((d - brI d (l.getD k Ti0) + 1 : Nat) : Int)) (.convert rfl (cv_3_124 _)) (by rw [wrap_u64 _ (by omega) (by omega)])) (yp rfl (Pure1.cast (v' := .int .u64 ((brJ d (l.getD k Ti0) : Nat) : Int)) (.binOp rfl rfl (fun _ => run_rem _ _ _ _ _ (by omega))) (by rw [tmod_nat]; rfl)) (yp rfl (Pure1.cast (v' := .int .i64 ((brJ d (l.getD k Ti0) : Nat) : Int)) (.convert rfl (cv_124_3 _)) (by rw [wrap_i64 _ (by omega) (by omega)])) (yp rfl (.move rfl) (yp rfl (.move rfl) (yp rfl (.indexAddr rfl rfl (ix_37 _ _ _ _ _ (by omega))) (yp rfl (Pure1.cast (v' := .pointer (some ⟨B_ad, O_ad + (k * 4 + 2), none⟩)) (.fieldAddr rfl (fa_123_2 _ _)) (by rw [Nat.add_assoc])) ?_)))))))))))
    refine head_loadRow rfl (by kernel_rfl) rfl mm (at_lt (k := 4) (enc := encTi) (fun _ => rfl) l k 2 (by omega) (by decide)) Tryz.isAgg56 Tryz.sizeOf56 (read_at (k := 4) (enc := encTi) (fun _ => rfl) l Ti0 k (by omega) true 2 2 _ (by decide) (by decide) rfl) (.inl rfl) (by decide) ?_
    refine yp rfl (.build [(_, _), (_, _), (_, _)] rfl (bd_123_0_1_2 _ _ _ _)) (yB rfl [(_, _)] rfl (bs_37_1_0 _ _ _ _) fun b46 => ?_)
    refine head_appendO (σr := []) rfl (by kernel_rfl) rfl rfl (List.Perm.trans (List.Perm.refl _) (List.Perm.cons _ (List.Perm.refl _))) hG1 Tryz.runUnderlying37 Tryz.runUnderlying37 Tryz.typeInfo123 Tryz.sizeOf123 Tryz.zeroValue123 rfl (by decide) (by decide) rfl rfl (by decide) (by show 32 * (2 * ((l.take k).length + 1) + 192) ≤ 281474976710656; omega) (by decide) ?_
    intro v47 o47 hG47
    obtain ⟨ad47, c47, rfl⟩ := hG47.is
    have hLn47 : (l.take k).length + 1 = ((l.take k) ++ [l.getD k Ti0]).length := by simp only [List.length_append, List.length_cons, List.length_nil, Nat.zero_add]
    rw [hLn47]; rw [hLn47] at hG47
    replace hG47 : GrowO 4 123 (.slice ad47 ((l.take k) ++ [l.getD k Ti0]).length c47) ((l.take k) ++ [l.getD k Ti0]).length (cellsOf (encTb d) ((l.take k) ++ [l.getD k Ti0])) o47 := by rw [cellsOf_append, cellsOf_one]; exact hG47
    refine yp rfl (.assign rfl) (yn (zr (zm rfl (zp (Pure1.cast (v' := (.int .i64 ((k + 1 : Nat) : Int))) (.add rfl rfl) (by show Value.int _ _ = Value.int _ _; congr 1)) (za rfl (zn ?_)))))); intro a w h
    rw [← takeTi_snoc l hlt_k] at h hG47
    exact ⟨k + 1, ⟨by omega, ad47, c47, o47, hG47, by exact (h.factsSub (by simp)).sub sA⟩, by omega⟩
  · skip
    have heq_k : l.length = k := by have := of_decide_eq_false hc11; omega
    subst heq_k
    rw [List.take_length] at h hG1
    replace h := St.shareO' h hS hG1
    refine gC h (ze (zs (zr (zm rfl (za rfl (zn (zt ?_))))))); clear h; intro a w h
    refine ret_of (Ψ := [Row _ (cellsOf (encTb d) l)]) h (results1 h rfl (.tmp rfl)) ⟨_, _, rfl, rfl⟩ (by simp)
theorem C_RawB (l : List Ti) (ad : Option Addr) (c d : Nat) (hok : ∀ t ∈ l, OkT t) (hn : l.length ≤ 1000) : Ctr Tryz.prog 41 [.slice ad l.length c] [Row ad (cellsOf (encTb d) l)] (fun v Ψ => ∃ ad' c', v = .slice ad' (madeL d l).length c' ∧ Ψ = [Row ad' (cellsOf encT (madeL d l))]) := by
  refine fn_intro Tryz.func41 rfl Tryz.ntmps41 nb ?_
  intro S w0 a hS h
  refine gC h (zs (zr (za rfl (zn (zs (zr (za rfl (zn (zs (zs (zr (za rfl (zn (zb ?_)))))))))))))); clear h; intro a w h
  refine wp_loop_inv (fun (k : Nat) a w => k ≤ l.length ∧ ∃ (ad1 : Option Addr) (c1 : Nat) (o1 : List (Nat × Obj)), (GrowO 7 82 (.slice ad1 (madeL d (l.take k)).length c1) (madeL d (l.take k)).length (cellsOf encT (madeL d (l.take k))) o1) ∧ St 32 S w0 [(0, .slice ad l.length c), (2, .slice none 0 0), (3, (.slice ad1 (madeL d (l.take k)).length c1)), (4, .int .i64 ((k : Nat) : Int))] (o1 ++ []) [Row ad (cellsOf (encTb d) l)] a w) (fun k => l.length - k) 0 (⟨Nat.zero_le _, none, 0, [], GrowO.nil _ _, by exact (h).sub (subL ⟨rfl, rfl, rfl, rfl, trivial⟩)⟩) ?_; clear h
  rintro k a w ⟨hi_k, ad1, c1, o1, hG1, h⟩
  refine gC h (zs (zs (zr (zm rfl (zm rfl (zp (.builtin [_] rfl (len_slice_37 _ _ _)) (zp (.lss rfl rfl) (zn ?_)))))))); clear h; intro a w h
  change Code.wp _ _ _ _ _
  refine cond_split h rfl (fun hc8 => ?_) (fun hc8 => ?_)
  · skip
    have hlt_k : k < l.length := by have := of_decide_eq_true hc8; omega
    obtain ⟨B_ad, O_ad, rfl⟩ := h.row_addr (ad := ad) (M := cellsOf (encTb d) l) mm (by intro e; have := congrArg List.length e; rw [cellsOf_length (k := 4) (fun _ => rfl)] at this; simp only [List.length_nil, Nat.mul_eq_zero] at this; omega)
    obtain ⟨_, _, hqa, hqb, hqc, hqd⟩ := hok _ (getD_mem l (d := Ti0) hlt_k)
    have hlk : (madeL d (l.take k)).length = k := by unfold madeL; rw [List.length_map, List.length_take]; omega
    have hst : madeL d (l.take k) ++ [tmB d (l.getD k Ti0)] = madeL d (l.take (k + 1)) := by unfold madeL; rw [takeTi_snoc l hlt_k, List.map_append]; rfl
    refine gC h (zk (zs (zb (yD mixed_YtgkicbaomcmfoaaGreatDoor [0, 1, 2, 3, 4, 5, 6, 7, 8, 9, 10, 11, 12, 13, 14, 15, 16, 17, 18, 19, 20] (floatsOK_none (by kernel_rfl)) (yp rfl (.move rfl) (yp rfl (.move rfl) (yp rfl (.move rfl) (yp rfl (.indexAddr rfl rfl (ix_37 _ _ _ _ _ (by omega))) (yp rfl (Pure1.cast (v' := .pointer (some ⟨B_ad, O_ad + (k * 4 + 0), none⟩)) (.fieldAddr rfl (fa_123_0 _ _)) (by rw [Nat.add_assoc])) ?_))))))))); clear h
    refine head_loadRow rfl (by kernel_rfl) rfl mm (at_lt (k := 4) (enc := (encTb d)) (fun _ => rfl) l k 0 (by omega) (by decide)) Tryz.isAgg3 Tryz.sizeOf3 (read_at (k := 4) (enc := (encTb d)) (fun _ => rfl) l Ti0 k (by omega) false 1 0 _ (by decide) (by decide) rfl) (.inr rfl) (by decide) ?_
    refine yp rfl (.move rfl) (yp rfl (.move rfl) (yp rfl (.indexAddr rfl rfl (ix_37 _ _ _ _ _ (by omega))) (yp rfl (Pure1.cast (v' := .pointer (some ⟨B_ad, O_ad + (k * 4 + 1), none⟩)) (.fieldAddr rfl (fa_123_1 _ _)) (by rw [Nat.add_assoc])) ?_)))
    refine head_loadRow rfl (by kernel_rfl) rfl mm (at_lt (k := 4) (enc := (encTb d)) (fun _ => rfl) l k 1 (by omega) (by decide)) Tryz.isAgg3 Tryz.sizeOf3 (read_at (k := 4) (enc := (encTb d)) (fun _ => rfl) l Ti0 k (by omega) false 1 1 _ (by decide) (by decide) rfl) (.inr rfl) (by decide) ?_
    refine yp rfl (.move rfl) (yp rfl (.move rfl) (yp rfl (.indexAddr rfl rfl (ix_37 _ _ _ _ _ (by omega))) (yp rfl (Pure1.cast (v' := .pointer (some ⟨B_ad, O_ad + (k * 4 + 2), none⟩)) (.fieldAddr rfl (fa_123_2 _ _)) (by rw [Nat.add_assoc])) ?_)))
    refine head_loadRow rfl (by kernel_rfl) rfl mm (at_lt (k := 4) (enc := (encTb d)) (fun _ => rfl) l k 2 (by omega) (by decide)) Tryz.isAgg56 Tryz.sizeOf56 (read_at (k := 4) (enc := (encTb d)) (fun _ => rfl) l Ti0 k (by omega) true 2 2 _ (by decide) (by decide) rfl) (.inl rfl) (by decide) ?_
    refine yv [_] rfl rfl Tryz.call20 (C_qOf ((l.getD k Ti0).n) ((l.getD k Ti0).d) (by omega) (by omega) (by omega) (by omega)) ?_
    have hl27 := lenQ_qv ((l.getD k Ti0).n) ((l.getD k Ti0).d) (by omega) (by omega) (by omega) (by omega)
    refine yp rfl (.build [(_, _), (_, _), (_, _)] rfl (bd_82_0_1_2 _ _ _ _ _ _ _)) (yB rfl [(_, _)] rfl (bs_25_1_0 _ _ _ _ _ _ _) fun b29 => ?_)
    refine head_appendO (σr := []) rfl (by kernel_rfl) rfl rfl (List.Perm.trans (List.Perm.refl _) (List.Perm.cons _ (List.Perm.refl _))) hG1 Tryz.runUnderlying25 Tryz.runUnderlying25 Tryz.typeInfo82 Tryz.sizeOf82 zeroT rfl (by decide) (by decide) rfl rfl (by decide) (by show 72 * (2 * ((madeL d (l.take k)).length + 1) + 192) ≤ 281474976710656; omega) (by decide) ?_
    intro v30 o30 hG30
    obtain ⟨ad30, c30, rfl⟩ := hG30.is
    have hLn30 : (madeL d (l.take k)).length + 1 = ((madeL d (l.take k)) ++ [(⟨brI d (l.getD k Ti0), brJ d (l.getD k Ti0), qv ((l.getD k Ti0).n) ((l.getD k Ti0).d)⟩ : Tm)]).length := by simp only [List.length_append, List.length_cons, List.length_nil, Nat.zero_add]
    rw [hLn30]; rw [hLn30] at hG30
    replace hG30 : GrowO 7 82 (.slice ad30 ((madeL d (l.take k)) ++ [(⟨brI d (l.getD k Ti0), brJ d (l.getD k Ti0), qv ((l.getD k Ti0).n) ((l.getD k Ti0).d)⟩ : Tm)]).length c30) ((madeL d (l.take k)) ++ [(⟨brI d (l.getD k Ti0), brJ d (l.getD k Ti0), qv ((l.getD k Ti0).n) ((l.getD k Ti0).d)⟩ : Tm)]).length (cellsOf encT ((madeL d (l.take k)) ++ [(⟨brI d (l.getD k Ti0), brJ d (l.getD k Ti0), qv ((l.getD k Ti0).n) ((l.getD k Ti0).d)⟩ : Tm)])) o30 := by rw [cellsOf_append, cellsOf_one]; exact hG30
    refine yp rfl (.assign rfl) (yn (zr (zm rfl (zp (Pure1.cast (v' := (.int .i64 ((k + 1 : Nat) : Int))) (.add rfl rfl) (by show Value.int _ _ = Value.int _ _; congr 1)) (za rfl (zn ?_)))))); intro a w h
    rw [show (madeL d (l.take k) ++ [(⟨brI d (l.getD k Ti0), brJ d (l.getD k Ti0), qv (l.getD k Ti0).n (l.getD k Ti0).d⟩ : Tm)]) = madeL d (l.take (k + 1)) from hst] at h hG30
    exact ⟨k + 1, ⟨by omega, ad30, c30, o30, hG30, by exact (h.factsSub (by simp)).sub sA⟩, by omega⟩
  · skip
    have heq_k : l.length = k := by have := of_decide_eq_false hc8; omega
    subst heq_k
    rw [List.take_length] at h hG1
    replace h := St.shareO' h hS hG1
    refine gC h (ze (zs (zr (zm rfl (za rfl (zn (zt ?_))))))); clear h; intro a w h
    refine ret_of (Ψ := [Row _ (cellsOf encT (madeL d l))]) h (results1 h rfl (.tmp rfl)) ⟨_, _, rfl, rfl⟩ (by simp)
theorem C_Made (l : List Ti) (ad : Option Addr) (c d m : Nat) (hok : ∀ t ∈ l, OkT t) (hd : d ≤ 12) (hn : l.length ≤ 1000) : Ctr Tryz.prog 15 [.slice ad l.length c, .int .i64 ((d : Nat) : Int)] [Row ad (cellsOf encTi l)] (fun v Ψ => ∃ ad' c', v = .slice ad' (norm (madeL d l)).length c' ∧ Ψ = [Row ad' (cellsOf encT (norm (madeL d l)))]) := by
  refine fn_intro Tryz.func15 rfl Tryz.ntmps15 nb ?_
  intro S w0 a hS h
  refine gC h (zs (zr (za rfl (zn (zs (zr (zm rfl (zm rfl (zf [_, _] rfl Tryz.call42 (C_Brought l _ _ d hd (by omega)) ?_))))))))); clear h; rintro v10 Ψ10 ⟨ad10, c10, rfl, rfl⟩ a w h
  refine gL h (zf [_] rfl Tryz.call41 (C_RawB l _ _ d hok (by omega)) ?_); clear h; rintro v11 Ψ11 ⟨ad11, c11, rfl, rfl⟩ a w h
  refine gL h (zf [_] rfl Tryz.call40 (C_pOfF (madeL d l) _ _ 4 ((made_DL d l).mono hd) (made_KL hok) (by unfold madeL; rw [List.length_map]; omega) (by unfold madeL; rw [List.length_map]; omega)) ?_); clear h; rintro v12 Ψ12 ⟨ad12, c12, rfl, rfl⟩ a w h
  refine gL h (zm rfl (zp (.extract rfl (fun _ => rfl)) (zp (.extract rfl (fun _ => rfl)) (za rfl (za rfl (zn (zs (zr (zm rfl (za rfl (zn (zt ?_)))))))))))); clear h; intro a w h
  refine ret_of (Ψ := [Row _ (cellsOf encT (norm (madeL d l)))]) h (results1 h rfl (.tmp rfl)) ⟨_, _, rfl, rfl⟩ (by simp)
end
end Go.Proofs.YtgkicbaomcmfoaaGreatDoor
