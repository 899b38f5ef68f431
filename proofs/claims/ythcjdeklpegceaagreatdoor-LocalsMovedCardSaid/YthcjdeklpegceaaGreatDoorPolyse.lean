/- Walks of functions. By an AI agent. -/
import Derived.Test.YthcjdeklpegceaaGreatDoorPolysort
set_option linter.unusedVariables false
set_option linter.unusedSimpArgs false
set_option maxRecDepth 4000
namespace Go.Proofs.YthcjdeklpegceaaGreatDoor
open Go Go.Proofs Go.Fx Tryz
attribute [local irreducible] Oper.wp Code.wp wpList Fx.Head wpOp
section
theorem Zq4 (x : Int) (w : World) : (Go.convert 3 185 (.int .i64 x)).run Tryz.prog w = .ok (.int .u64 (IntKind.u64.wrap x)) w := by
 simp [go_sem]
theorem Zv9 (x : Int) (h0 : IntKind.u64.wrap x = x) (w : World) : (Go.convert 3 185 (.int .i64 x)).run Tryz.prog w = .ok (.int .u64 x) w := by
 rw [Zq4, h0]
theorem Zxg : Xm Tryz.prog 166 [.slice none 0 0, .func (.func 139) #[] #[]] (.int .i64 (-1)) := by
 refine fn_intro func166 rfl ntmps166 nb ?_
 intro S w0 a hS h
 refine gC h (zS (za rfl (zn (zs (zS (zm rfl (zp (Pure1.cast (v' := .int .i64 0) (.builtin [_] rfl (Js _ _ _)) (by rfl)) (zm rfl (zn (zb ?_)))))))))); clear h; intro a w h
 refine Zn (fun (u : Unit) a w => St 19 S w0 [(0, .slice none 0 0), (1, .func (.func 139) #[] #[]), (7, .int .i64 0), (8, .int .i64 0)] [] [] a w) (fun u => 0) (()) (by exact h.sub sA) ?_; clear h
 rintro u a w h
 refine gC h (zS (zp (.lss rfl rfl) (zn (zs ?_)))); clear h; intro a w h
 refine Zg h rfl (fun hc9 => (absurd (of_decide_eq_true hc9) dd)) (fun hc9 => ?_)
 refine gC h (ze (zS (za rfl (zn (zt ?_))))); clear h; intro a w h
 exact Zdj h
theorem Zxi : Xm Tryz.prog 138 [.slice none 0 0, .func (.func 139) #[] #[]] (.slice none 0 0) := by
 refine fn_intro func138 rfl ntmps138 nb ?_
 intro S w0 a hS h
 refine gC h (zS (za rfl (zn (zS (zm rfl (zm rfl (zv [_, _] rfl call166 (Zxg) (za rfl (zn (zs (zS (zm rfl (zp (.eql rfl rfl) (zn ?_)))))))))))))); clear h; intro a w h
 refine cW ?_
 refine Zg h rfl (fun hc12 => ?_) (fun hc12 => (absurd hc12 dd))
 refine gC h (zS (zm rfl (za rfl (zn (zt ?_))))); clear h; intro a w h
 exact Zdj h
theorem Zz8 : Xm Tryz.prog 140 [.slice none 0 0, .func (.func 141) #[] #[]] (.tuple #[]) := by
 refine fn_intro func140 rfl ntmps140 nb ?_
 intro S w0 a hS h
 refine gC h (zS (zm rfl (zp (Pure1.cast (v' := .int .i64 ((0 : Nat) : Int)) (.builtin [_] rfl (Js _ _ _)) (by rfl)) (za rfl (zn (zr (zm rfl (zm rfl (zm rfl (zp (Pure1.cast (v' := .int .u64 ((0 : Nat) : Int)) (.convert rfl (Zq4 _)) (by rfl)) (zv [_] rfl call168 (Znw 0 dd) (zm rfl (zv [_, _, _, _, _] rfl call167 (C_pdq0 none 0 (Lib.bitLen 0) (.func (.func 141) #[] #[])) (zn ?_)))))))))))))); clear h; intro a w h
 exact end_of (Ψ := []) h (Zax rfl) ⟨rfl, rfl⟩ (fun _ hR => nomatch hR)
theorem Qdh (b c : Nat) (p : List Tm) (R : List Value) (σ : List (Nat × Obj)) (Φ : List Qf) (hd : dif p) (hp : ∀ t ∈ p, t.i + t.j ≤ 12) (hn : p.length ≤ 1000000) :
  Znq Tryz.prog 140 [.slice (some ⟨b, 0, none⟩) p.length c, .func (.func 141) #[] #[]] ((b, .cells (cellsOf Qh p ++ R).toArray 125 (0, 0)) :: σ) Φ
   (fun v σ' Φ' => v = .tuple #[] ∧ σ' = (b, .cells (cellsOf Qh (p.mergeSort fun s t => !ltT t s) ++ R).toArray 125 (0, 0)) :: σ ∧ Φ' = Φ) := by
 refine fn_introM func140 rfl ntmps140 nb ?_
 intro S w0 a w hS h
 refine gC h (zS (zm rfl (zp (.builtin [_] rfl (Js _ _ _)) (za rfl (zn (zr (zm rfl (zm rfl (zm rfl (zp (.convert rfl (Zv9 _ (wrap_u64 _ oo oo))) (zv [_] rfl call168 (Znw p.length oo) (zm rfl ?_)))))))))))); clear h; intro a w h
 refine Zc (Zc7 h hS (vs := [_, _, _, _, _]) rfl call167 (C_pdqT b c p R (Lib.bitLen p.length) (Nat.lt_of_le_of_lt (Lib.bitLen_le p.length 62 oo oo) oo) hd hp hn σ Φ) (List.Perm.refl _) ss ss ?_); clear h; rintro v13 σ13 Ψ13 a w ⟨rfl, rfl, hΦ13⟩ h
 refine wpList_nil ?_
 refine Ztg h (Zax rfl) ⟨rfl, rfl, hΦ13⟩ (List.Sublist.refl _) (fun _ h => h)
theorem Qaf {v : Value} (p : List Tm) (o : List (Nat × Obj)) (hG : GrowO 7 125 v p.length (cellsOf Qh p) o) (hn : p.length ≤ 1000000) (σ : List (Nat × Obj)) (Φ : List Qf) :
  Znq Tryz.prog 138 [v, .func (.func 139) #[] #[]] (o ++ σ) Φ
   (fun v' σ' Φ' => Φ' = Φ ∧ ∃ o', GrowO 7 125 v' (p.filter (fun t => decide (t.c ≠ 0))).length (cellsOf Qh (p.filter (fun t => decide (t.c ≠ 0)))) o' ∧ σ' = o' ++ σ) := by
 obtain ⟨hlen, ⟨rfl, h0, rfl⟩ | ⟨b, c, R, rfl, h2, h3, rfl⟩⟩ := hG
 ·
  have hp : p = [] := List.eq_nil_of_length_eq_zero h0
  subst hp
  intro S w0 w hS hm
  refine (Qat Zxi σ Φ S w0 w hS hm).mono ?_
  rintro e w' ⟨u, σ', Ψ, he, ⟨h1, h2, h3⟩, hm'⟩
  exact ⟨u, σ', Ψ, he, ⟨h3, [], by rw [h1]; exact GrowO.nil _ _, by rw [h2]; rfl⟩, hm'⟩
 ·
  intro S w0 w hS hm
  refine (Zxh b c p R σ Φ hn h3 S w0 w hS hm).mono ?_
  rintro e w' ⟨u, σ', Ψ, he, ⟨h1, h4, R', h5, h6⟩, hm'⟩
  refine ⟨u, σ', Ψ, he, ⟨h4, [(b, _)], ?_, h6⟩, hm'⟩
  rw [h1]
  exact GrowO.close (cellsOf_length Yb _) (h5.trans h2) (Nat.le_trans (List.length_filter_le _ _) h3)
theorem C_Sort {v : Value} (p : List Tm) (o : List (Nat × Obj)) (hG : GrowO 7 125 v p.length (cellsOf Qh p) o) (hd : dif p) (hp : ∀ t ∈ p, t.i + t.j ≤ 12) (hn : p.length ≤ 1000000) (σ : List (Nat × Obj)) (Φ : List Qf) :
  Znq Tryz.prog 140 [v, .func (.func 141) #[] #[]] (o ++ σ) Φ
   (fun v' σ' Φ' => Φ' = Φ ∧ v' = .tuple #[] ∧ ∃ o', GrowO 7 125 v p.length (cellsOf Qh (p.mergeSort fun s t => !ltT t s)) o' ∧ σ' = o' ++ σ) := by
 obtain ⟨hlen, ⟨rfl, h0, rfl⟩ | ⟨b, c, R, rfl, h2, h3, rfl⟩⟩ := hG
 ·
  have hp : p = [] := List.eq_nil_of_length_eq_zero h0
  subst hp
  intro S w0 w hS hm
  refine (Qat Zz8 σ Φ S w0 w hS hm).mono ?_
  rintro e w' ⟨u, σ', Ψ, he, ⟨h1, h2, h3⟩, hm'⟩
  exact ⟨u, σ', Ψ, he, ⟨h3, h1, [], by rw [List.mergeSort_nil]; exact GrowO.nil _ _, by rw [h2]; rfl⟩, hm'⟩
 ·
  intro S w0 w hS hm
  refine (Qdh b c p R σ Φ hd hp hn S w0 w hS hm).mono ?_
  rintro e w' ⟨u, σ', Ψ, he, ⟨h1, h4, h5⟩, hm'⟩
  refine ⟨u, σ', Ψ, he, ⟨h5, h1, [(b, _)], ?_, h4⟩, hm'⟩
  have hl : (p.mergeSort fun s t => !ltT t s).length = p.length := (List.mergeSort_perm _ _).length_eq
  refine GrowO.close (by rw [cellsOf_length Yb, hl]) ?_ h3
  rw [List.length_append, cellsOf_length Yb, hl] at *
  exact h2
abbrev Ztf (i j : Nat) : Value := .agg #[.int .i64 ((i : Nat) : Int), .int .i64 ((j : Nat) : Int)]
def pK (i j : Nat) (e : MapEntry) : Bool := match e.key with
 | .agg cs => (match cs.toList with | [.int _ a, .int _ b] => decide ((i : Int) = a ∧ (j : Int) = b) | _ => false)
 | _ => false
def esL : List Tm → Nat → List MapEntry
 | [], _ => []
 | t :: p, k => ⟨Ztf t.i t.j, .int .i64 ((k : Nat) : Int), k⟩ :: esL p (k + 1)
theorem Zq2 (t : Tm) : ∀ (p : List Tm) (k : Nat), esL (p ++ [t]) k = esL p k ++ [⟨Ztf t.i t.j, .int .i64 ((k + p.length : Nat) : Int), k + p.length⟩]
 | [], k => rfl
 | s :: p, k => by
  have := Zq2 t p (k + 1)
  rw [List.cons_append, esL, this, esL, List.length_cons, show k + 1 + p.length = k + (p.length + 1) by omega]; rfl
theorem Zv7 : ∀ (p : List Tm) (k : Nat) (e : MapEntry), e ∈ esL p k → ∃ t ∈ p, e.key = Ztf t.i t.j
 | [], _, _, h => nomatch h
 | t :: p, k, e, h => by
  rcases List.mem_cons.1 h with rfl | h
  · exact ⟨t, List.mem_cons_self, rfl⟩
  ·
   obtain ⟨s, hs, h2⟩ := Zv7 p (k + 1) e h
   exact ⟨s, List.mem_cons_of_mem _ hs, h2⟩
def fP (i j : Nat) : List Tm → Bool
 | [] => false
 | s :: p => if s.i = i ∧ s.j = j then true else fP i j p
def kP (i j : Nat) : List Tm → Nat
 | [] => 0
 | s :: p => if s.i = i ∧ s.j = j then 0 else kP i j p + 1
theorem Qan (i j a b : Nat) (e : MapEntry) (h : e.key = Ztf a b) : pK i j e = decide (a = i ∧ b = j) := by
 unfold pK; rw [h]; simp only; congr 1; apply propext; omega
theorem Ziy (i j : Nat) : ∀ (p : List Tm) (k m : Nat), Zlq (pK i j) (esL p k) m = if fP i j p then some (m + kP i j p, .int .i64 ((k + kP i j p : Nat) : Int)) else none
 | [], _, _ => rfl
 | t :: p, k, m => by
  rw [esL, Zlq, Qan i j t.i t.j _ rfl, Ziy i j p (k + 1) (m + 1), fP, kP]
  by_cases h : t.i = i ∧ t.j = j
  · rw [decide_eq_true h, if_pos rfl, if_pos h, if_pos h, if_pos rfl]; rfl
  ·
   rw [decide_eq_false h, if_neg Bool.false_ne_true, if_neg h, if_neg h]
   rcases hf : fP i j p with _ | _
   · rfl
   · rw [if_pos rfl, if_pos rfl, show m + 1 + kP i j p = m + (kP i j p + 1) by omega, show k + 1 + kP i j p = k + (kP i j p + 1) by omega]
theorem Zqw (t : Tm) : ∀ p : List Tm, fP t.i t.j p = true → kP t.i t.j p < p.length ∧ Zdl t p = p.set (kP t.i t.j p) ⟨(p.getD (kP t.i t.j p) T0).i, (p.getD (kP t.i t.j p) T0).j, (p.getD (kP t.i t.j p) T0).c + t.c⟩
 | [], h => by simp [fP] at h
 | s :: p, h => by
  rw [Zdl, kP]
  by_cases hs : same s t
  · rw [if_pos hs, if_pos (show s.i = t.i ∧ s.j = t.j from hs)]; exact ⟨by simp, rfl⟩
  ·
   rw [if_neg hs, if_neg (show ¬ (s.i = t.i ∧ s.j = t.j) from hs)]
   have h1 : fP t.i t.j p = true := by
    rw [fP, if_neg (show ¬ (s.i = t.i ∧ s.j = t.j) from hs)] at h; exact h
   obtain ⟨h2, h3⟩ := Zqw t p h1
   refine ⟨by simp; omega, ?_⟩
   rw [h3]; rfl
theorem Zy9 (t : Tm) : ∀ p : List Tm, fP t.i t.j p = false → Zdl t p = (p ++ [(⟨t.i, t.j, 0⟩ : Tm)]).set p.length ⟨((p ++ [(⟨t.i, t.j, 0⟩ : Tm)]).getD p.length T0).i, ((p ++ [(⟨t.i, t.j, 0⟩ : Tm)]).getD p.length T0).j, ((p ++ [(⟨t.i, t.j, 0⟩ : Tm)]).getD p.length T0).c + t.c⟩ := by
 intro p h
 have e : (p ++ [(⟨t.i, t.j, 0⟩ : Tm)]).getD p.length T0 = ⟨t.i, t.j, 0⟩ := by simp [List.getD]
 rw [e]
 induction p with
 | nil => rfl
 | cons s p ih =>
  rw [fP] at h
  split at h
  · cases h
  ·
   rename_i hs
   rw [Zdl, if_neg (show ¬ same s t from hs), ih h (by simp [List.getD])]; rfl
theorem eqKey (i j a b : Nat) (w : World) : (Op.equal 201 (Ztf i j) (Ztf a b)).run Tryz.prog w = .ok (decide (a = i ∧ b = j)) w := by
 unfold Op.equal
 rw [show Op.maxDepth = 9999 + 1 from rfl, Op.equalIn]
 simp [go_sem]
 have e1 : ((i : Int) = (a : Int)) ↔ a = i := oo
 have e2 : ((j : Int) = (b : Int)) ↔ b = j := oo
 by_cases h1 : a = i <;> by_cases h2 : b = j <;> simp only [e1, e2, h1, h2, if_true, if_false, decide_true, decide_false, Bool.and_true, Bool.and_false, Bool.false_and]
theorem ckInt (e : Bool) (n : Nat) (x : Int) (w : World) : (Instr.checkKey e (n + 1) 3 (.int .i64 x)).run Tryz.prog w = .ok () w := by
 rw [Instr.checkKey]; simp [go_sem]
theorem ckKey (e : Bool) (i j : Nat) (w : World) : (Instr.checkKey e 10000 201 (Ztf i j)).run Tryz.prog w = .ok () w := by
 rw [show (10000 : Nat) = 9999 + 1 from rfl, Instr.checkKey]
 have h1 := ckInt e 9998 (i : Int)
 have h2 := ckInt e 9998 (j : Int)
 simp [go_sem, h1, h2]
end
section
theorem Zg1 (a : Option Addr) (n c : Nat) (w : World) (ty : TypeId) (cs : Array Bool) : (Go.builtin .len #[64] ty cs #[.slice a n c]).run Tryz.prog w = .ok (.value (.int .i64 n)) w := by
 simp [go_sem]
theorem ix_64 (b off n c j : Nat) (h : j < n) (w : World) : (Instr.indexAt 64 (.slice (some ⟨b, off, none⟩) n c) (.int .i64 (j : Int))).run Tryz.prog w = .ok (.pointer (some ⟨b, off + j * 7, none⟩)) w := by
 simpa using Xi runUnderlying64 sizeOf125 b off n c j h w
theorem Zkm (x0 : Int) (x1 : Int) (w : World) : (Instr.build 201 [(0, .int .i64 x0), (1, .int .i64 x1)].toArray).run Tryz.prog w = .ok (.agg #[.int .i64 x0, .int .i64 x1]) w := by simp [go_sem]
theorem Zs5 (x0 : Int) (x1 : Int) (w : World) : (Instr.build 125 [(0, .int .i64 x0), (1, .int .i64 x1)].toArray).run Tryz.prog w = .ok (.agg #[.int .i64 x0, .int .i64 x1, .int .u64 0, .string ⟨#[]⟩, .bool false, .int .u64 0, .string ⟨#[]⟩]) w := by simp [go_sem]
theorem Zjb (x0_0 : Value) (x0_1 : Value) (x0_2 : Value) (x0_3 : Value) (x0_4 : Value) (x0_5 : Value) (x0_6 : Value) (w : World) : (Instr.buildSlice 65 1 [(0, .agg #[x0_0, x0_1, x0_2, x0_3, x0_4, x0_5, x0_6])].toArray).run Tryz.prog w = .ok (.slice (some ⟨w.heap.size, 0, none⟩) 1 1) (w.alloc (.cells #[x0_0, x0_1, x0_2, x0_3, x0_4, x0_5, x0_6] 125 (0, 0))) := by
 simp [go_sem]
theorem opEs (i j : Nat) (p : List Tm) : ∀ e ∈ (esL p 0).toArray.toList, ∀ w, (Op.equal 201 (Ztf i j) e.key).run Tryz.prog w = .ok (pK i j e) w := by
 intro e he w
 obtain ⟨t, _, h2⟩ := Zv7 p 0 e he
 rw [h2, eqKey, Qan i j t.i t.j e h2]
theorem run_lk (i j b : Nat) (p : List Tm) (w : World) (hb : w.heap[b]? = some (.map (esL p 0).toArray p.length)) :
  (Instr.lookup 198 (.map (some b)) (Ztf i j) true).run Tryz.prog w = .ok (.tuple #[.int .i64 ((if fP i j p = true then kP i j p else 0 : Nat) : Int), .bool (fP i j p)]) w := by
 have h := Zoi (P := Tryz.prog) (key := Ztf i j) runUnderlying198 runUnderlying201 (fun e w => ckKey e i j w) (fun w => zeroValue3 w) (opEs i j p) w hb
 rw [h]
 have e := Ziy i j p 0 0
 rw [show (esL p 0).toArray.toList = esL p 0 from rfl, e]
 rcases hf : fP i j p with _ | _
 · rfl
 · rw [if_pos rfl, if_pos rfl, Nat.zero_add]
theorem run_mu (i j b : Nat) (p : List Tm) (hf : fP i j p = false) (w : World) (hb : w.heap[b]? = some (.map (esL p 0).toArray p.length)) :
  (Instr.mapUpdate 198 (.map (some b)) (Ztf i j) (.int .i64 ((p.length : Nat) : Int))).run Tryz.prog w = .ok () { w with heap := w.heap.setIfInBounds b (.map (esL (p ++ [⟨i, j, 0⟩]) 0).toArray (p ++ [(⟨i, j, 0⟩ : Tm)]).length) } := by
 have h := Zg6 (P := Tryz.prog) (key := Ztf i j) (val := .int .i64 ((p.length : Nat) : Int)) runUnderlying198 runUnderlying201 (fun e w => ckKey e i j w) (opEs i j p) (by
  rw [show (esL p 0).toArray.toList = esL p 0 from rfl, Ziy, hf]; rfl) w hb
 rw [h]
 have e := Zq2 ⟨i, j, 0⟩ p 0
 simp only [Nat.zero_add] at e
 rw [e, List.length_append, List.length_singleton]
 congr 3
 simp
theorem Zo6 : ∀ (p : List Tm) (m k : Nat) (c : Rat), m < p.length → esL (p.set m ⟨(p.getD m T0).i, (p.getD m T0).j, c⟩) k = esL p k
 | [], m, _, _, h => absurd h (Nat.not_lt_zero _)
 | t :: p, 0, k, c, _ => rfl
 | t :: p, m + 1, k, c, h => by
  have ih := Zo6 p m (k + 1) c (by simpa using h)
  rw [List.set_cons_succ, esL, esL]
  congr 1
theorem Zgn (t : Tm) : (Qh t).cells.toList = [.int .i64 ((t.i : Nat) : Int), .int .i64 ((t.j : Nat) : Int)] ++ (Zr t.c).cells.toList ++ [] := rfl
theorem rdC (q : List Tm) (R : List Value) (k : Nat) (h : k < q.length) : Qe true 5 (cellsOf Qh q ++ R).toArray (0 + k * 7 + 2) = some (Zr (q.getD k T0).c) := by
 have hg : q.getD k T0 = q[k] := by simp [List.getD, h]
 rw [hg, Zfy q k h, Zgn, Nat.zero_add, ← Zaf Yb q k h, List.append_assoc]
 exact Zum _ [_, _] [] (Zr q[k].c).cells.toList _ 5 rfl
theorem stC (q : List Tm) (R : List Value) (k : Nat) (h : k < q.length) (x : Rat) :
  Qc (cellsOf Qh q ++ R).toArray (0 + k * 7 + 2) (Zr x).cells.toList = (cellsOf Qh (q.set k ⟨(q.getD k T0).i, (q.getD k T0).j, x⟩) ++ R).toArray := by
 have hg : q.getD k T0 = q[k] := by simp [List.getD, h]
 rw [hg, Zfy q k h, Zg3 q k h, Zgn, Zgn, Nat.zero_add, ← Zaf Yb q k h, List.append_assoc, List.append_assoc _ _ R]
 exact Zx0 _ [_, _] [] (Zr q[k].c).cells.toList (Zr x).cells.toList _ rfl
theorem Qal (q : List Tm) (R : List Value) (k : Nat) (h : k < q.length) : 0 + k * 7 + 2 + 5 ≤ (cellsOf Qh q ++ R).toArray.size := by
 have := Zng (enc := Qh) Yb q R k h; omega
theorem Znf {q q' : List Tm} {R : List Value} {c : Nat} (h : (cellsOf Qh q ++ R).length = c * 7) (hl : q'.length = q.length) : (cellsOf Qh q' ++ R).length = c * 7 := by
 rw [List.length_append, cellsOf_length Yb] at *; rw [hl]; exact h
theorem Znd (l : List Tm) (i : Nat) (h : i < l.length) : collect (l.take (i + 1)) = Zdl (l.getD i T0) (collect (l.take i)) := by
 unfold collect
 rw [List.take_add_one, List.getElem?_eq_getElem h, List.foldl_append]
 simp [List.getD, h]
theorem Zgm {K n : Nat} {l : List Tm} (hK : KL K l) (hs : l.length * (K + 1) ≤ n) (i : Nat) : ∀ u ∈ collect (l.take i), Zu u.c ≤ n := fun u hu => by
 have h1 := Zne (l := l.take i) (fun t ht => hK t (List.mem_of_mem_take ht)) u hu
 have h2 := Zwg u.i u.j (l.take i)
 rw [List.length_take] at h2
 exact Nat.le_trans h1 (Nat.le_trans (Nat.mul_le_mul_right _ (Nat.le_trans h2 (Nat.min_le_right _ _))) hs)
theorem Zvk {K n : Nat} {l : List Tm} (hK : KL K l) (hs : l.length * (K + 1) ≤ n) {i : Nat} (hi : i < l.length) : Zu (l.getD i T0).c ≤ n := by
 have h1 := hK _ (getD_mem l (d := T0) hi)
 have h2 := Nat.mul_le_mul_right (K + 1) (show 1 ≤ l.length by omega)
 omega
theorem Zyl (l : List Tm) : (norm l).length = ((collect l).filter (fun t => decide (t.c ≠ 0))).length := (List.mergeSort_perm _ _).length_eq
theorem Zpb {l : List Tm} {d : Nat} (h : DL d l) : ∀ t ∈ (collect l).filter (fun t => decide (t.c ≠ 0)), t.i + t.j ≤ d := fun t ht => by
 obtain ⟨s, hs, h1, h2⟩ := Zi4 (List.mem_filter.1 ht).1
 rw [h1, h2]; exact h s hs
theorem Gx (l : List Tm) (ad : Option Addr) (c K : Nat) (hd : DL 12 l) (hK : KL K l) (hs : l.length * (K + 1) ≤ 50000000000) (hn : l.length ≤ 100000) :
  Zl0 Tryz.prog 90 [.slice ad l.length c] [Row ad (cellsOf Qh l)] (fun v o => ∃ ad' c', v = .slice ad' (norm l).length c' ∧ GrowO 7 125 v (norm l).length (cellsOf Qh (norm l)) o) := by
 refine fn_introO func90 rfl ntmps90 nb ?_
 intro S w0 a hS h
 refine gC h (zS (za rfl (zn (zS ?_)))); clear h; intro a w h
 refine Zc (Zse h dd ?_); clear h; intro b8 a w h
 refine gL h (za rfl (zn (zs (zS (zm rfl (zp (.builtin [_] rfl (Zg1 _ _ _)) (zm rfl (zn (zb ?_))))))))); clear h; intro a w h
 refine Zn (fun (i : Nat) a w => i ≤ l.length ∧ ∃ (ad1 : Option Addr) (c1 : Nat) (o1 : List (Nat × Obj)), (GrowO 7 125 (.slice ad1 (collect (l.take i)).length c1) (collect (l.take i)).length (cellsOf Qh (collect (l.take i))) o1) ∧ St 62 S w0 [(2, (.slice ad1 (collect (l.take i)).length c1)), (3, .map (some b8)), (9, .slice ad l.length c), (10, nI l.length), (11, nI i)] (o1 ++ ((b8, Obj.map ((esL (collect (l.take i)) 0).toArray) ((collect (l.take i)).length)) :: [])) [Row ad (cellsOf Qh l)] a w) (fun i => l.length - i) 0 (⟨Nat.zero_le _, none, 0, [], GrowO.nil _ _, by exact (h).sub sA⟩) ?_; clear h
 rintro i a w ⟨hi_i, ad1, c1, o1, hG1, h⟩
 refine gC h (zS (zp (.lss rfl rfl) (zn (zs ?_)))); clear h; intro a w h
 refine Zg h rfl (fun hc12 => ?_) (fun hc12 => ?_)
 ·
  skip
  have hlt_i : i < l.length := dT hc12
  obtain ⟨B_ad, O_ad, rfl⟩ := h.row_addr (ad := ad) (M := cellsOf Qh l) mm (nE 7)
  have hcl := Ze4 (l.take i)
  have hsz := Zgm hK hs i
  have hstep := Znd l i hlt_i
  have hel := Zvk hK hs hlt_i
  refine gC h (zk (zs (zb (zS (zp (.indexAddr rfl rfl (ix_64 _ _ _ _ _ oo)) (zD rfl mm (cells_lt (k := 7) dd (fun _ => rfl) l i oo) isAgg125 sizeOf125 (Zq (k := 7) (fun _ => rfl) ((fun _ => rfl)) l T0 i oo) (.inl rfl) ?_))))))
  refine zz Zey fun b5 => zt' rfl rfl Zaa uu sizeOf125 rfl nb rfl ?_
  refine zn (zS (zm rfl (zp (.fA rfl Vr) (zd rfl mr isAgg3 sizeOf3 Zby ?_))))
  refine zp (.fA rfl Ve) (zd rfl mr isAgg3 sizeOf3 Zbj ?_)
  refine zp (.build [(_, _), (_, _)] rfl (Zkm _ _)) ?_; intro a w h
  refine Zc (Zu0 h rfl rfl mm (run_lk _ _ _ _) dd ?_); clear h; intro a h
  refine gL h (zm rfl (zp (.eX rfl) (zp (.eX rfl) ?_))); clear h; intro a w h
  refine Qp h (fun hc24 h => ?_) (fun hc24 h => ?_)
  ·
   skip
   rw [if_pos hc24] at h
   obtain ⟨hk, hins⟩ := Zqw (l.getD i T0) _ hc24
   refine gL h (za rfl (za rfl (zn (zs (zS (zm rfl (zp (.unOp rfl (Yp _)) ?_))))))); clear h; intro a w h
   obtain ⟨b1, R1, rfl, rfl, hR1, hc1⟩ := hG1.open (Nat.lt_of_le_of_lt (Nat.zero_le _) hk)
   rw [List.cons_append, List.nil_append] at h
   have hz := hsz _ (getD_mem _ (d := T0) hk)
   refine wpList_nil ?_
   refine cW ?_
   refine Zf h rfl ?_
   refine gC h (zk (yD Za [0, 1, 2, 3, 4, 5, 6, 7, 8, 9, 10, 11, 12] (Zd kk) (ym rfl rfl (ym rfl rfl (ym rfl rfl (ym rfl rfl (yp rfl (.indexAddr rfl rfl (Zgh _ _ _ _ _ oo)) (yp rfl (.fA rfl Ky) (yd rfl rfl mm isAgg41 sizeOf41 (rdC _ _ _ hk) ?_))))))))); clear h
   refine yp rfl (.fA rfl Ky) (yd rfl rfl mr isAgg41 sizeOf41 Zb1 ?_)
   refine yv [_, _] rfl rfl call49 (Vu _ _ oo oo) ?_
   have hl53 := Qo (((collect (l.take i)).getD (kP (l.getD i T0).i (l.getD i T0).j (collect (l.take i))) T0).c) ((l.getD i T0).c)
   refine yp rfl (.indexAddr rfl rfl (Zgh _ _ _ _ _ oo)) (yp rfl (.fA rfl Ky) (yt rfl rfl rfl (stC _ _ _ hk _) uu sizeOf41 rfl (Qal _ _ _ hk) rfl ?_))
   refine yn (zr (zp (.pN (i + 1) (.add rfl rfl)) (zm rfl (zn ?_)))); intro a w h
   rw [← hins, ← hstep] at h
   have hes : esL (collect (l.take (i + 1))) 0 = esL (collect (l.take i)) 0 := by rw [hstep, hins]; exact Zo6 _ _ _ _ hk
   have hln : (collect (l.take (i + 1))).length = (collect (l.take i)).length := by rw [hstep, hins, List.length_set]
   rw [← hes, ← hln] at h
   exact ⟨i + 1, ⟨oo, some ⟨b1, 0, none⟩, c1, [(b1, _)], GrowO.close (R := R1) (cellsOf_length Yb _) (Znf hR1 hln) (by rw [hln]; exact hc1), by exact ((h.drop (by repeat (first | exact List.Sublist.refl _ | apply List.Sublist.cons))).factsSub (by simp)).sub sA⟩, oo⟩
  ·
   skip
   rw [if_neg (by rw [hc24]; exact Bool.false_ne_true)] at h
   have hins := Zy9 (l.getD i T0) _ hc24
   have hk : (collect (l.take i)).length < (collect (l.take i) ++ [(⟨(l.getD i T0).i, (l.getD i T0).j, 0⟩ : Tm)]).length := by rw [List.length_append]; exact Nat.lt_succ_self _
   refine gL h (za rfl (za rfl (zn (zs (zS (zm rfl (zp (.unOp rfl (Yp _)) ?_))))))); clear h; intro a w h
   
   refine wpList_nil ?_
   refine cW ?_
   refine Zi h rfl ?_
   refine gC h (zS (zm rfl (zp (.builtin [_] rfl (Js _ _ _)) (za rfl (zn (zS (zm rfl (zp (.fA rfl Vr) (zd rfl mr isAgg3 sizeOf3 Zby ?_)))))))))
   refine zp (.fA rfl Ve) (zd rfl mr isAgg3 sizeOf3 Zbj ?_)
   refine zp (.build [(_, _), (_, _)] rfl (Zkm _ _)) (zm rfl ?_); intro a w h
   refine Zc (Zmu h rfl rfl rfl uu (run_mu _ _ _ _ hc24) ?_); clear h; intro a w h
   refine gL h (zn (zr (zm rfl (zp (.fA rfl Vr) (zd rfl mr isAgg3 sizeOf3 Zby ?_)))))
   refine zp (.fA rfl Ve) (zd rfl mr isAgg3 sizeOf3 Zbj ?_)
   refine zp (.build [(_, _), (_, _)] rfl (Zs5 _ _)) (zB [(_, _)] rfl (Zjb _ _ _ _ _ _ _) fun b42 => ?_); intro a w h
   refine Zc (Zcq (σr := [(b5, bV (Qh (l.getD i T0)) 125), (b8, Obj.map ((esL (collect (l.take i) ++ [(⟨(l.getD i T0).i, (l.getD i T0).j, 0⟩ : Tm)]) 0).toArray) ((collect (l.take i) ++ [(⟨(l.getD i T0).i, (l.getD i T0).j, 0⟩ : Tm)]).length))]) h rfl rfl (List.Perm.trans (List.Perm.refl _) (List.Perm.cons _ (Zyg (List.Perm.refl _)))) hG1 runUnderlying65 runUnderlying65 typeInfo125 sizeOf125 Zey rfl dd dd rfl rfl dd (by show 72 * (2 * ((collect (l.take i)).length + 1) + 192) ≤ 281474976710656; rw [List.length_take] at hcl; omega) dd ?_); clear h
   intro v43 o43 a w hG43 h
   obtain ⟨ad43, c43, rfl⟩ := hG43.is
   have hLn43 : (collect (l.take i)).length + 1 = ((collect (l.take i)) ++ [(⟨(l.getD i T0).i, (l.getD i T0).j, 0⟩ : Tm)]).length := lA
   rw [hLn43] at h hG43
   replace hG43 : GrowO 7 125 (.slice ad43 ((collect (l.take i)) ++ [(⟨(l.getD i T0).i, (l.getD i T0).j, 0⟩ : Tm)]).length c43) ((collect (l.take i)) ++ [(⟨(l.getD i T0).i, (l.getD i T0).j, 0⟩ : Tm)]).length (cellsOf Qh ((collect (l.take i)) ++ [(⟨(l.getD i T0).i, (l.getD i T0).j, 0⟩ : Tm)])) o43 := by rw [Qj, Xq]; exact hG43
   obtain ⟨b43, R43, rfl, rfl, hR43, hc43⟩ := hG43.open (Nat.lt_of_le_of_lt (Nat.zero_le _) hk)
   rw [List.cons_append, List.nil_append] at h
   have hz : Zu ((collect (l.take i) ++ [(⟨(l.getD i T0).i, (l.getD i T0).j, 0⟩ : Tm)]).getD (collect (l.take i)).length T0).c ≤ 50000000000 := by
    rw [show (collect (l.take i) ++ [(⟨(l.getD i T0).i, (l.getD i T0).j, 0⟩ : Tm)]).getD (collect (l.take i)).length T0 = (⟨(l.getD i T0).i, (l.getD i T0).j, 0⟩ : Tm) by simp [List.getD]]; exact Nat.le_trans Vh dd
   refine gL h (za rfl (zn (yD Za [0, 1, 2, 3, 4, 5, 6, 7, 8, 9, 10, 11, 12] (Zd kk) (ym rfl rfl (ym rfl rfl (ym rfl rfl (ym rfl rfl (yp rfl (.indexAddr rfl rfl (Zgh _ _ _ _ _ oo)) (yp rfl (.fA rfl Ky) (yd rfl rfl mm isAgg41 sizeOf41 (rdC _ _ _ hk) ?_)))))))))); clear h
   refine yp rfl (.fA rfl Ky) (yd rfl rfl mr isAgg41 sizeOf41 Zb1 ?_)
   refine yv [_, _] rfl rfl call49 (Vu _ _ oo oo) ?_
   have hl53 := Qo (((collect (l.take i) ++ [(⟨(l.getD i T0).i, (l.getD i T0).j, 0⟩ : Tm)]).getD ((collect (l.take i)).length) T0).c) ((l.getD i T0).c)
   refine yp rfl (.indexAddr rfl rfl (Zgh _ _ _ _ _ oo)) (yp rfl (.fA rfl Ky) (yt rfl rfl rfl (stC _ _ _ hk _) uu sizeOf41 rfl (Qal _ _ _ hk) rfl ?_))
   refine yn (zr (zp (.pN (i + 1) (.add rfl rfl)) (zm rfl (zn ?_)))); intro a w h
   rw [← hins, ← hstep] at h
   have hes : esL (collect (l.take (i + 1))) 0 = esL (collect (l.take i) ++ [(⟨(l.getD i T0).i, (l.getD i T0).j, 0⟩ : Tm)]) 0 := by rw [hstep, hins]; exact Zo6 _ _ _ _ hk
   have hln : (collect (l.take (i + 1))).length = (collect (l.take i) ++ [(⟨(l.getD i T0).i, (l.getD i T0).j, 0⟩ : Tm)]).length := by rw [hstep, hins, List.length_set]
   rw [← hes, ← hln] at h
   exact ⟨i + 1, ⟨oo, some ⟨b43, 0, none⟩, c43, [(b43, _)], GrowO.close (R := R43) (cellsOf_length Yb _) (Znf hR43 hln) (by rw [hln]; exact hc43), by exact (((h.perm (List.Perm.trans (pm_cc (List.Perm.refl _)) (List.Perm.cons _ (List.Perm.refl _))).symm).drop (by repeat (first | exact List.Sublist.refl _ | apply List.Sublist.cons))).factsSub (by simp)).sub sA⟩, oo⟩
 ·
  skip
  have heq_i : l.length = i := dF hc12
  subst heq_i
  rw [List.take_length] at h hG1
  refine gC h (ze (zS (zm rfl ?_))); clear h; intro a w h
  refine Zc (Zc7 h hS (vs := [_, _]) rfl call138 (Qaf (collect l) o1 hG1 (Nat.le_trans (Ze4 l) oo) [(b8, _)] [Row ad (cellsOf Qh l)]) (List.Perm.refl _) ss ss ?_); clear h; rintro v58 σ58 Ψ58 a w ⟨hΦ58, o58, hG58, rfl⟩ h
  rw [hΦ58] at h
  refine gL h (za rfl (zn (zS (zm rfl ?_)))); clear h; intro a w h
  refine Zc (Zc7 h hS (vs := [_, _]) rfl call140 (C_Sort ((collect l).filter (fun t => decide (t.c ≠ 0))) o58 hG58 (List.Pairwise.filter _ (Zi6 l)) (Zpb hd) (Nat.le_trans (List.length_filter_le _ _) (Nat.le_trans (Ze4 l) oo)) [(b8, _)] [Row ad (cellsOf Qh l)]) (List.Perm.refl _) ss ss ?_); clear h; rintro v60 σ60 Ψ60 a w ⟨hΦ60, rfl, o60, hG60, rfl⟩ h
  rw [hΦ60] at h
  refine gL h (zn (zS (zm rfl (za rfl (zn (zt ?_)))))); clear h; intro a w h
  have hnl := Zyl l
  rw [← hnl] at hG60
  obtain ⟨ad', c', hv⟩ := hG60.is
  refine Zr6 h (Zk h rfl (.tmp rfl)) ⟨ad', c', hv, hG60⟩ (List.sublist_append_left _ _)
end
section
theorem Zlx (x2_0 : Value) (x2_1 : Value) (x2_2 : Value) (x2_3 : Value) (x2_4 : Value) (w : World) : (Instr.build 125 [(2, .agg #[x2_0, x2_1, x2_2, x2_3, x2_4])].toArray).run Tryz.prog w = .ok (.agg #[.int .i64 0, .int .i64 0, x2_0, x2_1, x2_2, x2_3, x2_4]) w := by simp [go_sem]
theorem Zjc (x0_0 : Value) (x0_1 : Value) (x0_2 : Value) (x0_3 : Value) (x0_4 : Value) (x0_5 : Value) (x0_6 : Value) (w : World) : (Instr.buildSlice 64 1 [(0, .agg #[x0_0, x0_1, x0_2, x0_3, x0_4, x0_5, x0_6])].toArray).run Tryz.prog w = .ok (.slice (some ⟨w.heap.size, 0, none⟩) 1 1) (w.alloc (.cells #[x0_0, x0_1, x0_2, x0_3, x0_4, x0_5, x0_6] 125 (0, 0))) := by
 simp [go_sem]
theorem Zgp (x0 : Int) (x2_0 : Value) (x2_1 : Value) (x2_2 : Value) (x2_3 : Value) (x2_4 : Value) (w : World) : (Instr.build 125 [(0, .int .i64 x0), (2, .agg #[x2_0, x2_1, x2_2, x2_3, x2_4])].toArray).run Tryz.prog w = .ok (.agg #[.int .i64 x0, .int .i64 0, x2_0, x2_1, x2_2, x2_3, x2_4]) w := by simp [go_sem]
theorem Zgo (x1 : Int) (x2_0 : Value) (x2_1 : Value) (x2_2 : Value) (x2_3 : Value) (x2_4 : Value) (w : World) : (Instr.build 125 [(1, .int .i64 x1), (2, .agg #[x2_0, x2_1, x2_2, x2_3, x2_4])].toArray).run Tryz.prog w = .ok (.agg #[.int .i64 0, .int .i64 x1, x2_0, x2_1, x2_2, x2_3, x2_4]) w := by simp [go_sem]
theorem C_pOf (l : List Tm) (ad : Option Addr) (c K : Nat) (hd : DL 12 l) (hK : KL K l) (hs : l.length * (K + 1) ≤ 50000000000) (hn : l.length ≤ 100000) : Zl0 Tryz.prog 152 [.slice ad l.length c] [Row ad (cellsOf Qh l)] (fun v o => ∃ ad' c', v = .tuple #[.slice ad' (norm l).length c', .int .i64 0] ∧ GrowO 7 125 (.slice ad' (norm l).length c') (norm l).length (cellsOf Qh (norm l)) o) := by
 refine fn_introO func152 rfl ntmps152 nb ?_
 intro S w0 a hS h
 refine gC h (zS (za rfl (za rfl (zn (zs (zS (zm rfl (zp (.builtin [_] rfl (Zg1 _ _ _)) (zm rfl (zn (zb ?_))))))))))); clear h; intro a w h
 refine Zn (fun (i : Nat) a w => i ≤ l.length ∧ St 21 S w0 [(0, .slice ad l.length c), (7, .slice ad l.length c), (8, nI l.length), (9, nI i)] [] [Row ad (cellsOf Qh l)] a w) (fun i => l.length - i) 0 (⟨Nat.zero_le _, by exact (h).sub sA⟩) ?_; clear h
 rintro i a w ⟨hi_i, h⟩
 refine gC h (zS (zp (.lss rfl rfl) (zn (zs ?_)))); clear h; intro a w h
 refine Zg h rfl (fun hc10 => ?_) (fun hc10 => ?_)
 ·
  skip
  have hlt_i : i < l.length := dT hc10
  obtain ⟨B_ad, O_ad, rfl⟩ := h.row_addr (ad := ad) (M := cellsOf Qh l) mm (nE 7)
  have hdt := hd _ (getD_mem l (d := T0) hlt_i)
  refine gC h (zk (zs (zb (zS (zp (.indexAddr rfl rfl (ix_64 _ _ _ _ _ oo)) (zD rfl mm (cells_lt (k := 7) dd (fun _ => rfl) l i oo) isAgg125 sizeOf125 (Zq (k := 7) (fun _ => rfl) ((fun _ => rfl)) l T0 i oo) (.inl rfl) ?_))))))
  refine zz Zey fun b5 => zt' rfl rfl Zaa uu sizeOf125 rfl nb rfl ?_
  refine zn (zS (zd rfl mr isAgg125 sizeOf125 Zfj ?_))
  refine zv [_] rfl call182 (C_may (l.getD i T0) oo) (za rfl (zn (zS (zm rfl (zp (.neq rfl rfl) (zn ?_)))))); intro a w h
  refine cW ?_
  refine Zg h rfl (fun hc16 => (absurd hc16 dd)) (fun hc16 => ?_)
  refine gC h (zk (zr (zp (.pN (i + 1) (.add rfl rfl)) (zm rfl (zn ?_))))); clear h; intro a w h
  exact ⟨i + 1, ⟨oo, ((h.drop sl).factsSub (by simp)).sub sA⟩, oo⟩
 ·
  skip
  have heq_i : l.length = i := dF hc10
  subst heq_i
  refine gC h (ze (zS (zm rfl ?_))); clear h; intro a w h
  refine Zc (Kl h (vs := [_]) rfl call90 (Gx l _ _ K hd hK hs hn) ss dd ?_); clear h; rintro v20 σ20 a w ⟨ad20, c20, rfl, hG20⟩ h
  refine gL h (za rfl (za rfl (zn (zt ?_)))); clear h; intro a w h
  refine Zr6 h (Qq h rfl (.tmp rfl) (.tmp rfl)) ⟨ad20, c20, rfl, hG20⟩ (List.sublist_append_left _ _)
theorem Pq.room {d K : Nat} {l : List Tm} (h : Pq d K l) (hK : K ≤ 400000000) : l.length * (K + 1) ≤ 50000000000 :=
 Nat.le_trans (Nat.mul_le_mul h.len (show K + 1 ≤ 400000001 by omega)) dd
theorem Pq.deg12 {d K : Nat} {l : List Tm} (h : Pq d K l) (hd : d ≤ 12) : DL 12 l := h.deg.mono hd
theorem Zjk (l : List Tm) (ad : Option Addr) (c d K : Nat) (hq : Pq d K l) (hd : d ≤ 12) (hK : K ≤ 400000000) : Zl0 Tryz.prog 103 [.slice ad l.length c] [Row ad (cellsOf Qh l)] (fun v o => ∃ ad' c', v = .slice ad' (norm l).length c' ∧ GrowO 7 125 v (norm l).length (cellsOf Qh (norm l)) o) := by
 refine fn_introO func103 rfl ntmps103 nb ?_
 intro S w0 a hS h
 refine gC h (zS (za rfl (zn (zS (zm rfl ?_))))); clear h; intro a w h
 refine Zc (Kl h (vs := [_]) rfl call152 (C_pOf l _ _ K (hq.deg12 hd) hq.siz (hq.room hK) (by have := hq.len; omega)) ss dd ?_); clear h; rintro v7 σ7 a w ⟨ad7, c7, rfl, hG7⟩ h
 refine gL h (zm rfl (zp (.eX rfl) (zp (.eX rfl) (za rfl (za rfl (zn (zS (zm rfl (za rfl (zn (zt ?_))))))))))); clear h; intro a w h
 refine Zr6 h (Zk h rfl (.tmp rfl)) ⟨ad7, c7, rfl, hG7⟩ (List.sublist_append_left _ _)
theorem Zcz (l : List Tm) (ad : Option Addr) (c d K : Nat) (h : Pq d K l) (hd : d ≤ 12) (hK : K ≤ 400000000) : Ctr Tryz.prog 103 [.slice ad l.length c] [Row ad (cellsOf Qh l)] (fun v Ψ => ∃ ad' c', v = .slice ad' (norm l).length c' ∧ Ψ = [Row ad' (cellsOf Qh (norm l))]) := Zkl (Zjk l ad c d K h hd hK)
theorem Qd0 (x : Rat) (K : Nat) (hx : Zu x ≤ K) (hK : K ≤ 400000000) : Zl0 Tryz.prog 35 [Zr x] [] (fun v o => ∃ ad' c', v = .slice ad' (norm [(⟨0, 0, x⟩ : Tm)]).length c' ∧ GrowO 7 125 v (norm [(⟨0, 0, x⟩ : Tm)]).length (cellsOf Qh (norm [(⟨0, 0, x⟩ : Tm)])) o) := by
 refine fn_introO func35 rfl ntmps35 nb ?_
 intro S w0 a hS h
 refine gC h (zS (zx rfl fun b1 => za rfl (zn (zS (zd rfl mr isAgg41 sizeOf41 Zh ?_)))))
 refine zp (.build [(_, _)] rfl (Zlx _ _ _ _ _)) (zB [(_, _)] rfl (Zjc _ _ _ _ _ _ _) fun b5 => ?_); intro a w h
 replace h := h.shareAll hS (cellsOf Qh ([(⟨0, 0, x⟩ : Tm)])) rfl
 refine Zc (Kl h (vs := [_]) rfl call90 (Gx [(⟨0, 0, x⟩ : Tm)] _ _ K (fun t ht => by rw [List.mem_singleton] at ht; subst ht; exact Nat.zero_le _) (fun t ht => by rw [List.mem_singleton] at ht; subst ht; exact hx) (by rw [List.length_singleton]; omega) ss) ss dd ?_); clear h; rintro v6 σ6 a w ⟨ad6, c6, rfl, hG6⟩ h
 refine gL h (za rfl (zn (zt ?_))); clear h; intro a w h
 refine Zr6 h (Zk h rfl (.tmp rfl)) ⟨ad6, c6, rfl, hG6⟩ (List.sublist_append_left _ _)
theorem Zce (x : Rat) (K : Nat) (hx : Zu x ≤ K) (hK : K ≤ 400000000) : Ctr Tryz.prog 35 [Zr x] [] (fun v Ψ => ∃ ad' c', v = .slice ad' (norm [(⟨0, 0, x⟩ : Tm)]).length c' ∧ Ψ = [Row ad' (cellsOf Qh (norm [(⟨0, 0, x⟩ : Tm)]))]) := Zkl (Qd0 x K hx hK)
theorem C_X : Ctr Tryz.prog 99 [] [] (fun v Ψ => ∃ ad', v = .slice ad' 1 1 ∧ Ψ = [Row ad' (cellsOf Qh [(⟨1, 0, ((1 : Int) : Rat)⟩ : Tm)])]) := by
 refine fn_intro func99 rfl ntmps99 nb ?_
 intro S w0 a hS h
 refine gC h (zS (za rfl (zn (zS (zv [_] rfl call21 (Ye _ oo oo) ?_)))))
 have hl1 := Zs (1) oo oo
 refine zp (.build [(_, _), (_, _)] rfl (Zgp _ _ _ _ _ _)) (zB [(_, _)] rfl (Zjb _ _ _ _ _ _ _) fun b3 => ?_); intro a w h
 replace h := h.shareAll hS (cellsOf Qh ([(⟨1, 0, ((1 : Int) : Rat)⟩ : Tm)])) rfl
 refine gL h (za rfl (zn (zt ?_))); clear h; intro a w h
 exact Xr h (Zk h rfl (.tmp rfl)) ⟨_, rfl, rfl⟩ ss
theorem C_Y : Ctr Tryz.prog 100 [] [] (fun v Ψ => ∃ ad', v = .slice ad' 1 1 ∧ Ψ = [Row ad' (cellsOf Qh [(⟨0, 1, ((1 : Int) : Rat)⟩ : Tm)])]) := by
 refine fn_intro func100 rfl ntmps100 nb ?_
 intro S w0 a hS h
 refine gC h (zS (za rfl (zn (zS (zv [_] rfl call21 (Ye _ oo oo) ?_)))))
 have hl1 := Zs (1) oo oo
 refine zp (.build [(_, _), (_, _)] rfl (Zgo _ _ _ _ _ _)) (zB [(_, _)] rfl (Zjb _ _ _ _ _ _ _) fun b3 => ?_); intro a w h
 replace h := h.shareAll hS (cellsOf Qh ([(⟨0, 1, ((1 : Int) : Rat)⟩ : Tm)])) rfl
 refine gL h (za rfl (zn (zt ?_))); clear h; intro a w h
 exact Xr h (Zk h rfl (.tmp rfl)) ⟨_, rfl, rfl⟩ ss
theorem C_each (p : List Tm) (ad : Option Addr) (c d K K' g : Nat) (cb : List Value) (Φf : List Qf) (G : Tm → Tm) (hq : Pq d K p) (hd : d ≤ 12) (hK : K ≤ 400000000) (hg : ∀ args w, (callFunc g args).run Tryz.prog w = .ok (.enter g args) w)
  (hf : ∀ t ∈ norm p, Gh Tryz.prog g (Qh t :: cb) Φf (Qh (G t))) (hG1 : ∀ t ∈ norm p, (G t).i + (G t).j ≤ 12) (hG2 : ∀ t ∈ norm p, Zu (G t).c ≤ K') (hK' : K' ≤ 400000000) :
  Zl0 Tryz.prog 58 [.slice ad p.length c, .func (.func g) #[] cb.toArray] (Row ad (cellsOf Qh p) :: Φf) (fun v o => ∃ ad' c', v = .slice ad' (norm ((norm p).map G)).length c' ∧ GrowO 7 125 v (norm ((norm p).map G)).length (cellsOf Qh (norm ((norm p).map G))) o) := by
 have hnl : (norm p).length ≤ 91 := Nat.le_trans hq.nlen (Nat.le_trans (Zav (show d + 1 ≤ 13 by omega)) dd)
 have hDL : DL 12 ((norm p).map G) := fun u hu => by obtain ⟨t, ht, rfl⟩ := List.mem_map.1 hu; exact hG1 t ht
 have hKL : KL K' ((norm p).map G) := fun u hu => by obtain ⟨t, ht, rfl⟩ := List.mem_map.1 hu; exact hG2 t ht
 have hlm : ((norm p).map G).length ≤ 100000 := by rw [List.length_map]; omega
 have hrm : ((norm p).map G).length * (K' + 1) ≤ 50000000000 := Nat.le_trans (Nat.mul_le_mul (show ((norm p).map G).length ≤ 91 by rw [List.length_map]; exact hnl) (show K' + 1 ≤ 400000001 by omega)) dd
 refine fn_introO func58 rfl ntmps58 nb ?_
 intro S w0 a hS h
 refine gC h (zS (za rfl (zn (zS (za rfl (zn (zs (zS (zm rfl (zf [_] rfl call103 (Zcz p _ _ d K hq hd hK) ?_)))))))))); rintro v9 Ψ9 ⟨ad9, c9, rfl, rfl⟩
 refine zp (.builtin [_] rfl (Js _ _ _)) (zm rfl (zn (zb ?_))); intro a w h
 refine Zn (fun (i : Nat) a w => i ≤ (norm p).length ∧ ∃ (ad1 : Option Addr) (c1 : Nat) (o1 : List (Nat × Obj)), (GrowO 7 125 (.slice ad1 (((norm p).take i).map G).length c1) (((norm p).take i).map G).length (cellsOf Qh (((norm p).take i).map G)) o1) ∧ St 24 S w0 [(1, .func (.func g) #[] cb.toArray), (4, .slice none 0 0), (5, (.slice ad1 (((norm p).take i).map G).length c1)), (9, .slice ad9 ((norm p).length) c9), (10, nI ((norm p).length)), (11, nI i)] (o1 ++ []) (Row ad9 (cellsOf Qh (norm p)) :: Row ad (cellsOf Qh p) :: Φf) a w) (fun i => (norm p).length - i) 0 (⟨Nat.zero_le _, none, 0, [], GrowO.nil _ _, by exact (h).sub sA⟩) ?_; clear h
 rintro i a w ⟨hi_i, ad1, c1, o1, hG1, h⟩
 refine gC h (zS (zp (.lss rfl rfl) (zn (zs ?_)))); clear h; intro a w h
 refine Zg h rfl (fun hc12 => ?_) (fun hc12 => ?_)
 ·
  skip
  have hlt_i : i < (norm p).length := dT hc12
  obtain ⟨B_ad9, O_ad9, rfl⟩ := h.row_addr (ad := ad9) (M := cellsOf Qh (norm p)) mm (nE 7)
  have hstep : ((norm p).take (i + 1)).map G = ((norm p).take i).map G ++ [G ((norm p).getD i T0)] := by rw [take_snoc _ hlt_i, List.map_append]; rfl
  have hml : (((norm p).take i).map G).length ≤ 91 := by rw [List.length_map, List.length_take]; omega
  refine gC h (zk (zs (zb (zS (zp (.indexAddr rfl rfl (Zgh _ _ _ _ _ oo)) (zD rfl mm (cells_lt (k := 7) dd (fun _ => rfl) (norm p) i oo) isAgg125 sizeOf125 (Zq (k := 7) (fun _ => rfl) ((fun _ => rfl)) (norm p) T0 i oo) (.inl rfl) ?_))))))
  refine zz Zey fun b7 => zt' rfl rfl Zaa uu sizeOf125 rfl nb rfl ?_
  refine zn (zr (zm rfl (zm rfl (zd rfl mr isAgg125 sizeOf125 Zfj ?_)))); intro a w h
  refine Zc (Zmv h (fs := []) (cs := cb) rfl (vs := [_]) rfl hg (hf _ (getD_mem (norm p) (d := T0) hlt_i)) (by intro R hR; simp [hR]) dd ?_); clear h; intro a w h
  refine gL h (zB [(_, _)] rfl (Zjc _ _ _ _ _ _ _) fun b19 => ?_); clear h; intro a w h
  refine Zc (Zcq (σr := [(b7, bV (Qh ((norm p).getD i T0)) 125)]) h rfl rfl (List.Perm.trans (List.Perm.refl _) (List.Perm.cons _ (Zyg (List.Perm.refl _)))) hG1 runUnderlying64 runUnderlying64 typeInfo125 sizeOf125 Zey rfl dd dd rfl rfl dd (by show 72 * (2 * ((((norm p).take i).map G).length + 1) + 192) ≤ 281474976710656; omega) dd ?_); clear h
  intro v20 o20 a w hG20 h
  obtain ⟨ad20, c20, rfl⟩ := hG20.is
  have hLn20 : (((norm p).take i).map G).length + 1 = ((((norm p).take i).map G) ++ [G ((norm p).getD i T0)]).length := lA
  rw [hLn20] at h hG20
  replace hG20 : GrowO 7 125 (.slice ad20 ((((norm p).take i).map G) ++ [G ((norm p).getD i T0)]).length c20) ((((norm p).take i).map G) ++ [G ((norm p).getD i T0)]).length (cellsOf Qh ((((norm p).take i).map G) ++ [G ((norm p).getD i T0)])) o20 := by rw [Qj, Xq]; exact hG20
  refine gL h (za rfl (zn (zr (zp (.pN (i + 1) (.add rfl rfl)) (zm rfl (zn ?_)))))); clear h; intro a w h
  rw [← hstep] at h hG20
  exact ⟨i + 1, ⟨oo, ad20, c20, o20, hG20, by exact (((h.perm (List.Perm.trans (Zga (List.Perm.refl _)) (List.Perm.cons _ (List.Perm.refl _))).symm).drop (by repeat (first | exact List.Sublist.refl _ | apply List.Sublist.cons))).factsSub (by exact (fun _ hR => by repeat (first | exact hR | apply List.Mem.tail)))).sub sA⟩, oo⟩
 ·
  skip
  have heq_i : (norm p).length = i := dF hc12
  subst heq_i
  rw [List.take_length] at h hG1
  replace h := St.shareO' h hS hG1
  refine gC h (ze (zS (zm rfl ?_))); clear h; intro a w h
  refine Zc (Kl h (vs := [_]) rfl call90 (Gx ((norm p).map G) _ _ K' hDL hKL hrm hlm) ss dd ?_); clear h; rintro v23 σ23 a w ⟨ad23, c23, rfl, hG23⟩ h
  refine gL h (za rfl (zn (zt ?_))); clear h; intro a w h
  refine Zr6 h (Zk h rfl (.tmp rfl)) ⟨ad23, c23, rfl, hG23⟩ (List.sublist_append_left _ _)
end
section
theorem Zg4 (x0 : Int) (x1 : Int) (x2_0 : Value) (x2_1 : Value) (x2_2 : Value) (x2_3 : Value) (x2_4 : Value) (w : World) : (Instr.build 125 [(0, .int .i64 x0), (1, .int .i64 x1), (2, .agg #[x2_0, x2_1, x2_2, x2_3, x2_4])].toArray).run Tryz.prog w = .ok (.agg #[.int .i64 x0, .int .i64 x1, x2_0, x2_1, x2_2, x2_3, x2_4]) w := by simp [go_sem]
theorem Zz9 (t : Tm) (x : Rat) (b o : Nat) (ht : Zu t.c ≤ 10000000000) (hx : Zu x ≤ 10000000000) : Gh Tryz.prog 113 [Qh t, .pointer (some ⟨b, o, none⟩)] [Row (some ⟨b, o, none⟩) (Value.cells (Zr x)).toList] (Qh ⟨t.i, t.j, x * t.c⟩) := by
 refine fn_intro func113 rfl ntmps113 nb ?_
 intro S w0 a hS h
 refine gC h (zS (zx rfl fun b2 => zz Zey fun b3 => zn (zs (yD Za [0, 1, 2, 3, 4, 5, 6, 7, 8, 9] (Zd kk) (yp rfl (.fA rfl Vr) (yd rfl rfl mr isAgg3 sizeOf3 Zby ?_)))))); clear h
 refine yp rfl (.fA rfl Ve) (yd rfl rfl mr isAgg3 sizeOf3 Zbj ?_)
 refine Zv (b := b) (off := o) (j := 0) (M := (Value.cells (Zr x)).toList) (v := Zr (x)) rfl kk rfl mm (Nat.succ_pos _) isAgg41 sizeOf41 rfl (.inl rfl) dd ?_
 refine yp rfl (.fA rfl Ky) (yd rfl rfl mr isAgg41 sizeOf41 Zb1 ?_)
 refine yv [_, _] rfl rfl call18 (Jc _ _ oo oo) ?_
 have hl11 := Zm (x) ((t).c)
 refine yp rfl (.build [(_, _), (_, _), (_, _)] rfl (Zg4 _ _ _ _ _ _ _)) (yt rfl rfl rfl Zaa uu sizeOf125 rfl nb rfl ?_)
 refine yn (zt ?_); intro a w h
 refine Xd h (Zk h rfl (.cell rfl mr isAgg125 sizeOf125 Zfj)) ?_
 rfl
theorem Zxc (p : List Tm) (ad : Option Addr) (c d K : Nat) (hq : Pq d K p) (hd : d ≤ 12) (hK : K ≤ 400000000) (x : Rat) (Kx : Nat) (hx : Zu x ≤ Kx) (hs : Kx + K ≤ 400000000) : Zl0 Tryz.prog 57 [.slice ad p.length c, Zr x] [Row ad (cellsOf Qh p)] (fun v o => ∃ ad' c', v = .slice ad' (norm (Ja x p)).length c' ∧ GrowO 7 125 v (norm (Ja x p)).length (cellsOf Qh (norm (Ja x p))) o) := by
 refine fn_introO func57 rfl ntmps57 nb ?_
 intro S w0 a hS h
 refine gC h (zS (zx rfl fun b3 => ?_)); clear h; intro a w h
 replace h := h.shareAll hS ((Value.cells (Zr (x))).toList) rfl
 refine gL h (za rfl (zn (zS (zm rfl (zp (.makeFunc [] [_] rfl rfl) ?_))))); clear h; intro a w h
 refine Zc (Kl h (vs := [_, _]) rfl call58 (C_each p _ _ d K (Kx + K) 113 [.pointer (some ⟨b3, 0, none⟩)] [Row (some ⟨b3, 0, none⟩) (Value.cells (Zr x)).toList] (fun t => ⟨t.i, t.j, x * t.c⟩) hq hd hK call113 (fun t ht => Zz9 t x b3 0 (by have := hq.nsz t ht; omega) oo) (fun t ht => by have := (Vf hq.deg) t ht; simp only; omega) (fun t ht => by have := hq.nsz t ht; have := Zm x t.c; simp only; omega) hs) ss dd ?_); clear h; rintro v7 σ7 a w ⟨ad7, c7, rfl, hG7⟩ h
 refine gL h (za rfl (zn (zt ?_))); clear h; intro a w h
 have e : norm ((norm p).map (fun t => (⟨t.i, t.j, x * t.c⟩ : Tm))) = norm (Ja x p) := Ga ((Eqv.nrm p).scale x)
 rw [e] at h hG7
 refine Zr6 h (Zk h rfl (.tmp rfl)) ⟨ad7, c7, rfl, hG7⟩ (List.sublist_append_left _ _)
theorem Zl6 (p : List Tm) (ad : Option Addr) (c d K : Nat) (hq : Pq d K p) (hd : d ≤ 12) (hK : K ≤ 400000000) (x : Rat) (Kx : Nat) (hx : Zu x ≤ Kx) (hs : Kx + K ≤ 400000000) : Ctr Tryz.prog 57 [.slice ad p.length c, Zr x] [Row ad (cellsOf Qh p)] (fun v Ψ => ∃ ad' c', v = .slice ad' (norm (Ja x p)).length c' ∧ Ψ = [Row ad' (cellsOf Qh (norm (Ja x p)))]) := Zkl (Zxc p ad c d K hq hd hK x Kx hx hs)
theorem C_Neg (p : List Tm) (ad : Option Addr) (c d K : Nat) (hq : Pq d K p) (hd : d ≤ 12) (hK : K ≤ 400000000) (hs : 2 + K ≤ 400000000) : Zl0 Tryz.prog 171 [.slice ad p.length c] [Row ad (cellsOf Qh p)] (fun v o => ∃ ad' c', v = .slice ad' (norm (Ja ((-1 : Int) : Rat) p)).length c' ∧ GrowO 7 125 v (norm (Ja ((-1 : Int) : Rat) p)).length (cellsOf Qh (norm (Ja ((-1 : Int) : Rat) p))) o) := by
 refine fn_introO func171 rfl ntmps171 nb ?_
 intro S w0 a hS h
 refine gC h (zS (za rfl (zn (zS (zm rfl (zv [_] rfl call21 (Ye _ oo oo) ?_)))))); clear h; intro a w h
 have hl4 := Zs ((-1)) oo oo
 refine Zc (Kl h (vs := [_, _]) rfl call57 (Zxc p _ _ d K hq hd hK ((-1 : Int) : Rat) 2 (Zs (-1) dd dd) hs) ss dd ?_); clear h; rintro v5 σ5 a w ⟨ad5, c5, rfl, hG5⟩ h
 refine gL h (za rfl (zn (zt ?_))); clear h; intro a w h
 refine Zr6 h (Zk h rfl (.tmp rfl)) ⟨ad5, c5, rfl, hG5⟩ (List.sublist_append_left _ _)
theorem C_NegF (p : List Tm) (ad : Option Addr) (c d K : Nat) (hq : Pq d K p) (hd : d ≤ 12) (hK : K ≤ 400000000) (hs : 2 + K ≤ 400000000) : Ctr Tryz.prog 171 [.slice ad p.length c] [Row ad (cellsOf Qh p)] (fun v Ψ => ∃ ad' c', v = .slice ad' (norm (Ja ((-1 : Int) : Rat) p)).length c' ∧ Ψ = [Row ad' (cellsOf Qh (norm (Ja ((-1 : Int) : Rat) p)))]) := Zkl (C_Neg p ad c d K hq hd hK hs)
theorem flatT : ∀ l : List Tm, (cellsOf Qh l).all flat = true
 | [] => rfl
 | t :: l => by
  have h := flatT l
  rw [show t :: l = [t] ++ l from rfl, Qj, Xq, List.all_append, h]; rfl
theorem Pq.n91 {d K : Nat} {l : List Tm} (h : Pq d K l) (hd : d ≤ 12) : (norm l).length ≤ 91 := Nat.le_trans h.nlen (Nat.le_trans (Zav (show d + 1 ≤ 13 by omega)) dd)
theorem DL_app {a b : List Tm} {da db : Nat} (ha : DL da a) (hb : DL db b) (h1 : da ≤ 12) (h2 : db ≤ 12) : DL 12 (norm a ++ norm b) := Zjh (Vf (ha.mono h1)) (Vf (hb.mono h2))
theorem KL_app {a b : List Tm} {Ka Kb K : Nat} (ha : KL Ka a) (hb : KL Kb b) (h1 : Ka ≤ K) (h2 : Kb ≤ K) : KL K (a ++ b) := fun t ht => (List.mem_append.1 ht).elim (fun h => Nat.le_trans (ha t h) h1) (fun h => Nat.le_trans (hb t h) h2)
theorem Qa0 (p q : List Tm) (ada adb : Option Addr) (ca cb da db Ka Kb : Nat) (ha : Pq da Ka p) (hb : Pq db Kb q) (hda : da ≤ 12) (hdb : db ≤ 12) (hK : Ka ≤ 200000000) (hK2 : Kb ≤ 200000000) : Zl0 Tryz.prog 46 [.slice ada p.length ca, .slice adb q.length cb] [Row ada (cellsOf Qh p), Row adb (cellsOf Qh q)] (fun v o => ∃ ad' c', v = .slice ad' (norm (p ++ q)).length c' ∧ GrowO 7 125 v (norm (p ++ q)).length (cellsOf Qh (norm (p ++ q))) o) := by
 have hna := ha.n91 hda
 have hnb := hb.n91 hdb
 refine fn_introO func46 rfl ntmps46 nb ?_
 intro S w0 a hS h
 refine gC h (zS (za rfl (zn (zS (zm rfl ?_))))); clear h; intro a w h
 refine Zc (Kl h (vs := [_]) rfl call103 (Zjk p _ _ da Ka ha hda oo) ss dd ?_); clear h; rintro v6 σ6 a w ⟨ad6, c6, rfl, hG6⟩ h
 refine gL h (zm rfl ?_); clear h; intro a w h
 refine Zc (Kl h (vs := [_]) rfl call103 (Zjk q _ _ db Kb hb hdb oo) ss dd ?_); clear h; rintro v8 σ8 a w ⟨ad8, c8, rfl, hG8⟩ h
 replace h := St.shareO' h hS hG8
 refine Zc (Zsg (o := σ6) h rfl hG6 rfl mm runUnderlying65 runUnderlying65 typeInfo125 sizeOf125 Zey rfl dd dd (cellsOf_length Yb _) (flatT _) (by show 72 * _ ≤ 281474976710656; omega) dd ?_); clear h; intro v9 o9 a w hG9 h; obtain ⟨ad9, c9, rfl⟩ := hG9.is; rw [← List.length_append, ← Qj] at hG9; rw [← List.length_append] at h; replace h := St.shareO' h hS hG9
 refine Zc (Kl h (vs := [_]) rfl call90 (Gx (norm p ++ norm q) _ _ (max Ka Kb) (DL_app ha.deg hb.deg hda hdb) (KL_app ha.nsz hb.nsz (Nat.le_max_left _ _) (Nat.le_max_right _ _)) (by rw [List.length_append]; exact Nat.le_trans (Nat.mul_le_mul (show _ ≤ 182 by omega) (show max Ka Kb + 1 ≤ 200000001 by omega)) dd) (by rw [List.length_append]; omega)) ss dd ?_); clear h; rintro v10 σ10 a w ⟨ad10, c10, rfl, hG10⟩ h
 refine gL h (za rfl (zn (zt ?_))); clear h; intro a w h
 have e : norm (norm p ++ norm q) = norm (p ++ q) := Ga ((Eqv.nrm p).append (Eqv.nrm q))
 rw [e] at h hG10
 refine Zr6 h (Zk h rfl (.tmp rfl)) ⟨ad10, c10, rfl, hG10⟩ (List.sublist_append_left _ _)
theorem Zgr (p q : List Tm) (ada adb : Option Addr) (ca cb da db Ka Kb : Nat) (ha : Pq da Ka p) (hb : Pq db Kb q) (hda : da ≤ 12) (hdb : db ≤ 12) (hK : Ka ≤ 200000000) (hK2 : Kb ≤ 200000000) : Ctr Tryz.prog 46 [.slice ada p.length ca, .slice adb q.length cb] [Row ada (cellsOf Qh p), Row adb (cellsOf Qh q)] (fun v Ψ => ∃ ad' c', v = .slice ad' (norm (p ++ q)).length c' ∧ Ψ = [Row ad' (cellsOf Qh (norm (p ++ q)))]) := Zkl (Qa0 p q ada adb ca cb da db Ka Kb ha hb hda hdb hK hK2)
theorem C_pSub (p q : List Tm) (ada adb : Option Addr) (ca cb da db Ka Kb : Nat) (ha : Pq da Ka p) (hb : Pq db Kb q) (hda : da ≤ 12) (hdb : db ≤ 12) (hK : Ka ≤ 200000000) (hK2 : Kb ≤ 190000000) : Zl0 Tryz.prog 143 [.slice ada p.length ca, .slice adb q.length cb] [Row ada (cellsOf Qh p), Row adb (cellsOf Qh q)] (fun v o => ∃ ad' c', v = .slice ad' (norm (p ++ Ja ((-1 : Int) : Rat) q)).length c' ∧ GrowO 7 125 v (norm (p ++ Ja ((-1 : Int) : Rat) q)).length (cellsOf Qh (norm (p ++ Ja ((-1 : Int) : Rat) q))) o) := by
 refine fn_introO func143 rfl ntmps143 nb ?_
 intro S w0 a hS h
 refine gC h (zS (za rfl (zn (zS (zm rfl (zm rfl (zf [_] rfl call171 (C_NegF q _ _ db Kb hb hdb oo oo) ?_))))))); clear h; rintro v7 Ψ7 ⟨ad7, c7, rfl, rfl⟩ a w h
 refine Zc (Kl h (vs := [_, _]) rfl call46 (Qa0 p (norm (Ja ((-1 : Int) : Rat) q)) _ _ _ _ da db Ka (2 + Kb + 1) ha ((hb.scale (Zs (-1) dd dd) hdb)) hda hdb oo oo) ss dd ?_); clear h; rintro v8 σ8 a w ⟨ad8, c8, rfl, hG8⟩ h
 refine gL h (za rfl (zn (zt ?_))); clear h; intro a w h
 have e : norm (p ++ norm (Ja ((-1 : Int) : Rat) q)) = norm (p ++ Ja ((-1 : Int) : Rat) q) := Ga (Eqv.rfl'.append (Eqv.nrm _))
 rw [e] at h hG8
 refine Zr6 h (Zk h rfl (.tmp rfl)) ⟨ad8, c8, rfl, hG8⟩ (List.sublist_append_left _ _)
theorem Qdb (p q : List Tm) (ada adb : Option Addr) (ca cb da db Ka Kb : Nat) (ha : Pq da Ka p) (hb : Pq db Kb q) (hda : da ≤ 12) (hdb : db ≤ 12) (hK : Ka ≤ 200000000) (hK2 : Kb ≤ 190000000) : Ctr Tryz.prog 143 [.slice ada p.length ca, .slice adb q.length cb] [Row ada (cellsOf Qh p), Row adb (cellsOf Qh q)] (fun v Ψ => ∃ ad' c', v = .slice ad' (norm (p ++ Ja ((-1 : Int) : Rat) q)).length c' ∧ Ψ = [Row ad' (cellsOf Qh (norm (p ++ Ja ((-1 : Int) : Rat) q)))]) := Zkl (C_pSub p q ada adb ca cb da db Ka Kb ha hb hda hdb hK hK2)
def Zs1 (p : List Tm) : Int := if p.length = 0 then -1 else (((p.getD (p.length - 1) T0).i + (p.getD (p.length - 1) T0).j : Nat) : Int)
theorem Zo9 {p : List Tm} {d : Nat} (h : DL d p) : Zs1 p ≤ (d : Int) := by
 unfold Zs1; split
 · omega
 · have := h _ (getD_mem p (d := T0) (show p.length - 1 < p.length by omega)); omega
theorem Zpa (p : List Tm) : -1 ≤ Zs1 p := by unfold Zs1; split <;> omega
theorem Zf1 (p : List Tm) (ad : Option Addr) (c d K : Nat) (hq : Pq d K p) (hd : d ≤ 12) (hK : K ≤ 400000000) : Gh Tryz.prog 87 [.slice ad p.length c] [Row ad (cellsOf Qh p)] (.int .i64 (Zs1 (norm p))) := by
 have hn91 := hq.n91 hd
 refine fn_intro func87 rfl ntmps87 nb ?_
 intro S w0 a hS h
 refine gC h (zS (za rfl (zn (zS (zm rfl (zf [_] rfl call103 (Zcz p _ _ d K hq hd hK) ?_)))))); rintro v6 Ψ6 ⟨ad6, c6, rfl, rfl⟩
 refine za rfl (zn (zs (zS (zm rfl (zp (.builtin [_] rfl (Js _ _ _)) (zp (.eql rfl rfl) (zn ?_))))))); intro a w h
 refine cW ?_
 refine Zg h rfl (fun hc9 => ?_) (fun hc9 => ?_)
 ·
  skip
  have h0 : (norm p).length = 0 := by have := eq_of_beq hc9; omega
  refine gC h (zS (za rfl (zn (zt ?_)))); clear h; intro a w h
  refine Xd h (Zk h rfl (.tmp rfl)) ?_
  unfold Zs1; rw [if_pos h0]
 ·
  skip
  have h0 : (norm p).length ≠ 0 := fun e => by rw [e] at hc9; exact absurd hc9 dd
  obtain ⟨B_ad6, O_ad6, rfl⟩ := h.row_addr (ad := ad6) (M := cellsOf Qh (norm p)) mm (by intro e; have := congrArg List.length e; rw [cellsOf_length Yb] at this; simp only [List.length_nil, Nat.mul_eq_zero] at this; omega)
  have hdg := (Vf hq.deg) _ (getD_mem (norm p) (d := T0) (show (norm p).length - 1 < (norm p).length by omega))
  refine gC h (zk (zS (zm rfl (zm rfl (zp (.builtin [_] rfl (Js _ _ _)) (zp (.pO (((norm p).length) - 1) (.sub rfl rfl)) (zp (.indexAddr rfl rfl (Zgh _ _ _ _ _ oo)) (zD rfl mm (cells_lt (k := 7) dd (fun _ => rfl) (norm p) (((norm p).length) - 1) oo) isAgg125 sizeOf125 (Zq (k := 7) (fun _ => rfl) ((fun _ => rfl)) (norm p) T0 (((norm p).length) - 1) oo) (.inl rfl) ?_))))))))
  refine zz Zey fun b4 => zt' rfl rfl Zaa uu sizeOf125 rfl nb rfl ?_
  refine zn (zS (zp (.fA rfl Vr) (zd rfl mr isAgg3 sizeOf3 Zby ?_)))
  refine zp (.fA rfl Ve) (zd rfl mr isAgg3 sizeOf3 Zbj ?_)
  refine zp (.pN ((((norm p).getD (((norm p).length) - 1) T0).i) + (((norm p).getD (((norm p).length) - 1) T0).j)) (.add rfl rfl)) (za rfl (zn (zt ?_))); intro a w h
  refine Xd h (Zk h rfl (.tmp rfl)) ?_
  unfold Zs1; rw [if_neg h0]
end
section
theorem Zfz (x0_0 : Value) (x0_1 : Value) (x0_2 : Value) (x0_3 : Value) (x0_4 : Value) (x0_5 : Value) (x0_6 : Value) (x1_0 : Value) (x1_1 : Value) (x1_2 : Value) (x1_3 : Value) (x1_4 : Value) (x1_5 : Value) (x1_6 : Value) (x2_0 : Value) (x2_1 : Value) (x2_2 : Value) (x2_3 : Value) (x2_4 : Value) (x2_5 : Value) (x2_6 : Value) (w : World) : (Instr.buildSlice 64 3 [(0, .agg #[x0_0, x0_1, x0_2, x0_3, x0_4, x0_5, x0_6]), (1, .agg #[x1_0, x1_1, x1_2, x1_3, x1_4, x1_5, x1_6]), (2, .agg #[x2_0, x2_1, x2_2, x2_3, x2_4, x2_5, x2_6])].toArray).run Tryz.prog w = .ok (.slice (some ⟨w.heap.size, 0, none⟩) 3 3) (w.alloc (.cells #[x0_0, x0_1, x0_2, x0_3, x0_4, x0_5, x0_6, x1_0, x1_1, x1_2, x1_3, x1_4, x1_5, x1_6, x2_0, x2_1, x2_2, x2_3, x2_4, x2_5, x2_6] 125 (0, 0))) := by
 simp [go_sem]
abbrev mulS (s t : Tm) : Tm := ⟨s.i + t.i, s.j + t.j, s.c * t.c⟩
theorem Zu6 (a b : List Tm) (i : Nat) (h : i < a.length) : Jh (a.take i) b ++ b.map (mulS (a.getD i T0)) = Jh (a.take (i + 1)) b := by
 rw [take_snoc a h]; unfold Jh; rw [List.flatMap_append]; simp
theorem Zu5 (a b : List Tm) (s : Tm) (i j : Nat) (h : j < b.length) : (Jh (a.take i) b ++ (b.take j).map (mulS s)) ++ [mulS s (b.getD j T0)] = Jh (a.take i) b ++ (b.take (j + 1)).map (mulS s) := by
 rw [take_snoc b h, List.map_append, List.append_assoc]; rfl
theorem Zyo {a b : List Tm} (i j : Nat) (s : Tm) (ha : a.length ≤ 91) (hb : b.length ≤ 91) : (Jh (a.take i) b ++ (b.take j).map (mulS s)).length ≤ 10000 := by
 rw [List.length_append, Zqi, List.length_map]
 have h1 : (a.take i).length ≤ 91 := Nat.le_trans (by rw [List.length_take]; omega) ha
 have h2 : (b.take j).length ≤ 91 := Nat.le_trans (by rw [List.length_take]; omega) hb
 have := Nat.mul_le_mul h1 hb
 omega
theorem Zkd {a b : List Tm} (ha : a.length ≤ 91) (hb : b.length ≤ 91) : (Jh a b).length ≤ 8281 := by rw [Zqi]; exact Nat.mul_le_mul ha hb
theorem Zyn {a b : List Tm} {K : Nat} (ha : a.length ≤ 91) (hb : b.length ≤ 91) (hK : K ≤ 4000000) : (Jh a b).length * (K + 1) ≤ 50000000000 :=
 Nat.le_trans (Nat.mul_le_mul (Zkd ha hb) (show K + 1 ≤ 4000001 by omega)) dd
theorem C_pMul (p q : List Tm) (ada adb : Option Addr) (ca cb da db Ka Kb : Nat) (ha : Pq da Ka p) (hb : Pq db Kb q) (hd : da + db ≤ 12) (hK : Ka ≤ 2000000) (hK2 : Kb ≤ 2000000) : Zl0 Tryz.prog 45 [.slice ada p.length ca, .slice adb q.length cb] [Row ada (cellsOf Qh p), Row adb (cellsOf Qh q)] (fun v o => ∃ ad' c', v = .tuple #[.slice ad' (norm (Jh p q)).length c', .int .i64 0] ∧ GrowO 7 125 (.slice ad' (norm (Jh p q)).length c') (norm (Jh p q)).length (cellsOf Qh (norm (Jh p q))) o) := by
 have hna := ha.n91 (show da ≤ 12 by omega)
 have hnb := hb.n91 (show db ≤ 12 by omega)
 have hdA : Zs1 (norm (norm p)) ≤ (da : Int) := Zo9 (Vf (Vf ha.deg))
 have hdB : Zs1 (norm (norm q)) ≤ (db : Int) := Zo9 (Vf (Vf hb.deg))
 have hgA := Zpa (norm (norm p))
 have hgB := Zpa (norm (norm q))
 refine fn_introO func45 rfl ntmps45 nb ?_
 intro S w0 a hS h
 refine gC h (zS (za rfl (za rfl (zn (zS (zm rfl (zf [_] rfl call103 (Zcz p _ _ da Ka ha oo oo) ?_))))))); rintro v14 Ψ14 ⟨ad14, c14, rfl, rfl⟩
 refine zm rfl (zf [_] rfl call103 (Zcz q _ _ db Kb hb oo oo) ?_); rintro v16 Ψ16 ⟨ad16, c16, rfl, rfl⟩
 refine za rfl (za rfl (zn ?_)); intro a w h
 refine cW ?_
 refine Zbd (fun a w => ∃ (ad14 : Option Addr) (c14 : Nat) (ad16 : Option Addr) (c16 : Nat), St 68 S w0 [(6, .slice ad14 (norm p).length c14), (7, .slice ad16 (norm q).length c16)] [] [Row ad16 (cellsOf Qh (norm q)), Row ad14 (cellsOf Qh (norm p)), Row ada (cellsOf Qh p), Row adb (cellsOf Qh q)] a w) ?_ ?_
 ·
  skip
  refine gC h (zS (zm rfl (zp (.builtin [_] rfl (Js _ _ _)) (zp (.gtr rfl rfl) ?_)))); clear h; intro a w h
  refine Qp h (fun hc19 h => ?_) (fun hc19 h => ?_)
  ·
   skip
   refine gL h (zm rfl (zq 20 rfl rfl (.move rfl) (zq 20 rfl rfl (.builtin [_] rfl (Js _ _ _)) (zq 20 rfl rfl (.gtr rfl rfl) ?_)))); clear h; intro a w h
   refine Qp h (fun hc23 h => ?_) (fun hc23 h => ?_)
   ·
    skip
    refine gL h (zp (.pickT rfl rfl) (zm rfl (zq 25 rfl rfl (.move rfl) ?_))); clear h; intro a w h
    refine Zt 25 h rfl rfl (Yl h (vs := [_]) rfl call87 (Zf1 (norm p) _ _ da Ka (ha.nrm oo) oo oo) ss dd ?_); clear h; intro a w h
    refine gL h (zq 25 rfl rfl (.move rfl) ?_); clear h; intro a w h
    refine Zt 25 h rfl rfl (Yl h (vs := [_]) rfl call87 (Zf1 (norm q) _ _ db Kb (hb.nrm oo) oo oo) ss dd ?_); clear h; intro a w h
    refine gL h (zq 25 rfl rfl (.add rfl rfl) (zq 25 rfl rfl (.gtr rfl rfl) ?_)); clear h; intro a w h
    refine Qp h (fun hc31 h => (by exfalso; have := of_decide_eq_true hc31; omega)) (fun hc31 h => ?_)
    refine gL h (zp (.pickT rfl rfl) (zn ?_)); clear h; intro a w h
    refine cW ?_
    refine Zf h rfl ?_
    refine wp_skip ?_
    exact ⟨_, _, _, _, h.sub sA⟩
   ·
    skip
    refine gL h (zp (.pickT rfl rfl) (zm rfl (zo 25 rfl rfl rfl (zo 25 rfl rfl rfl (zo 25 rfl rfl rfl (zo 25 rfl rfl rfl (zo 25 rfl rfl rfl (zo 25 rfl rfl rfl (zp (.pickF rfl rfl) (zn ?_)))))))))); clear h; intro a w h
    refine cW ?_
    refine Zf h rfl ?_
    refine wp_skip ?_
    exact ⟨_, _, _, _, h.sub sA⟩
  ·
   skip
   refine gL h (zm rfl (zo 20 rfl rfl rfl (zo 20 rfl rfl rfl (zo 20 rfl rfl rfl (zp (.pickF rfl rfl) (zm rfl (zo 25 rfl rfl rfl (zo 25 rfl rfl rfl (zo 25 rfl rfl rfl (zo 25 rfl rfl rfl (zo 25 rfl rfl rfl (zo 25 rfl rfl rfl (zp (.pickF rfl rfl) (zn ?_)))))))))))))); clear h; intro a w h
   refine cW ?_
   refine Zf h rfl ?_
   refine wp_skip ?_
   exact ⟨_, _, _, _, h.sub sA⟩
 ·
  clear h
  rintro a w ⟨ad14, c14, ad16, c16, h⟩
  refine gC h (zS (za rfl (zn (zs (zS (zm rfl (zp (.builtin [_] rfl (Js _ _ _)) (zm rfl (zn (zb ?_)))))))))); clear h; intro a w h
  refine Zn (fun (i : Nat) a w => i ≤ (norm p).length ∧ ∃ (ad1 : Option Addr) (c1 : Nat) (o1 : List (Nat × Obj)), (GrowO 7 125 (.slice ad1 (Jh ((norm p).take i) (norm q)).length c1) (Jh ((norm p).take i) (norm q)).length (cellsOf Qh (Jh ((norm p).take i) (norm q))) o1) ∧ St 68 S w0 [(7, .slice ad16 ((norm q).length) c16), (8, (.slice ad1 (Jh ((norm p).take i) (norm q)).length c1)), (33, .slice ad14 ((norm p).length) c14), (34, nI ((norm p).length)), (35, nI i)] (o1 ++ []) [Row ad16 (cellsOf Qh (norm q)), Row ad14 (cellsOf Qh (norm p)), Row ada (cellsOf Qh p), Row adb (cellsOf Qh q)] a w) (fun i => (norm p).length - i) 0 (⟨Nat.zero_le _, none, 0, [], GrowO.nil _ _, by exact (h).sub sA⟩) ?_; clear h
  rintro i a w ⟨hi_i, ad1, c1, o1, hG1, h⟩
  refine gC h (zS (zp (.lss rfl rfl) (zn (zs ?_)))); clear h; intro a w h
  refine Zg h rfl (fun hc36 => ?_) (fun hc36 => ?_)
  ·
   skip
   have hlt_i : i < (norm p).length := dT hc36
   obtain ⟨B_ad14, O_ad14, rfl⟩ := h.row_addr (ad := ad14) (M := cellsOf Qh (norm p)) mm (nE 7)
   have hmA := getD_mem (norm p) (d := T0) hlt_i
   have hsA := ha.nsz _ hmA
   have hdgA := (Vf ha.deg) _ hmA
   refine gC h (zk (zs (zb (zS (zp (.indexAddr rfl rfl (Zgh _ _ _ _ _ oo)) (zD rfl mm (cells_lt (k := 7) dd (fun _ => rfl) (norm p) i oo) isAgg125 sizeOf125 (Zq (k := 7) (fun _ => rfl) ((fun _ => rfl)) (norm p) T0 i oo) (.inl rfl) ?_))))))
   refine zz Zey fun b10 => zt' rfl rfl Zaa uu sizeOf125 rfl nb rfl ?_
   refine zn (zS (zm rfl (zp (.builtin [_] rfl (Js _ _ _)) (zm rfl (zn (zb ?_)))))); intro a w h
   refine Zn (fun (j : Nat) a w => j ≤ (norm q).length ∧ ∃ (ad2 : Option Addr) (c2 : Nat) (o2 : List (Nat × Obj)), (GrowO 7 125 (.slice ad2 (Jh ((norm p).take i) (norm q) ++ ((norm q).take j).map (mulS ((norm p).getD i T0))).length c2) (Jh ((norm p).take i) (norm q) ++ ((norm q).take j).map (mulS ((norm p).getD i T0))).length (cellsOf Qh (Jh ((norm p).take i) (norm q) ++ ((norm q).take j).map (mulS ((norm p).getD i T0)))) o2) ∧ St 68 S w0 [(7, .slice ad16 ((norm q).length) c16), (8, (.slice ad2 (Jh ((norm p).take i) (norm q) ++ ((norm q).take j).map (mulS ((norm p).getD i T0))).length c2)), (10, pB b10), (33, .slice (some ⟨B_ad14, O_ad14, none⟩) ((norm p).length) c14), (34, nI ((norm p).length)), (35, nI i), (39, .slice ad16 ((norm q).length) c16), (40, nI ((norm q).length)), (41, nI j)] ((b10, bV (Qh ((norm p).getD i T0)) 125) :: (o2 ++ [])) [Row ad16 (cellsOf Qh (norm q)), Row (some ⟨B_ad14, O_ad14, none⟩) (cellsOf Qh (norm p)), Row ada (cellsOf Qh p), Row adb (cellsOf Qh q)] a w) (fun j => (norm q).length - j) 0 (⟨Nat.zero_le _, ad1, c1, o1, by rw [List.take_zero, List.map_nil, List.append_nil]; exact hG1, by rw [List.take_zero, List.map_nil, List.append_nil]; exact (h).sub sA⟩) ?_; clear h
   rintro j a w ⟨hi_j, ad2, c2, o2, hG2, h⟩
   refine gC h (zS (zp (.lss rfl rfl) (zn (zs ?_)))); clear h; intro a w h
   refine Zg h rfl (fun hc42 => ?_) (fun hc42 => ?_)
   ·
    skip
    have hlt_j : j < (norm q).length := dT hc42
    obtain ⟨B_ad16, O_ad16, rfl⟩ := h.row_addr (ad := ad16) (M := cellsOf Qh (norm q)) mm (nE 7)
    have hmB := getD_mem (norm q) (d := T0) hlt_j
    have hsB := hb.nsz _ hmB
    have hdgB := (Vf hb.deg) _ hmB
    have hyl := Zyo i j ((norm p).getD i T0) hna hnb
    refine gC h (zk (zs (zb (zS (zp (.indexAddr rfl rfl (Zgh _ _ _ _ _ oo)) (zD rfl mm (cells_lt (k := 7) dd (fun _ => rfl) (norm q) j oo) isAgg125 sizeOf125 (Zq (k := 7) (fun _ => rfl) ((fun _ => rfl)) (norm q) T0 j oo) (.inl rfl) ?_))))))
    refine zz Zey fun b12 => zt' rfl rfl Zaa uu sizeOf125 rfl nb rfl ?_
    refine zn (yD Za [0, 1, 2, 3, 4, 5, 6, 7, 8, 9, 10, 11, 12, 13, 14, 15, 16, 17, 18, 19] (Zd kk) (ym rfl rfl (yp rfl (.fA rfl Vr) (yd rfl rfl mr isAgg3 sizeOf3 Zby ?_))))
    refine yp rfl (.fA rfl Vr) (yd rfl rfl mr isAgg3 sizeOf3 Zby ?_)
    refine yp rfl (.pN ((((norm p).getD i T0).i) + (((norm q).getD j T0).i)) (.add rfl rfl)) (yp rfl (.fA rfl Ve) (yd rfl rfl mr isAgg3 sizeOf3 Zbj ?_))
    refine yp rfl (.fA rfl Ve) (yd rfl rfl mr isAgg3 sizeOf3 Zbj ?_)
    refine yp rfl (.pN ((((norm p).getD i T0).j) + (((norm q).getD j T0).j)) (.add rfl rfl)) (yp rfl (.fA rfl Ky) (yd rfl rfl mr isAgg41 sizeOf41 Zb1 ?_))
    refine yp rfl (.fA rfl Ky) (yd rfl rfl mr isAgg41 sizeOf41 Zb1 ?_)
    refine yv [_, _] rfl rfl call18 (Jc _ _ oo oo) ?_
    have hl60 := Zm (((norm p).getD i T0).c) (((norm q).getD j T0).c)
    refine yp rfl (.build [(_, _), (_, _), (_, _)] rfl (Zg4 _ _ _ _ _ _ _)) (yB rfl [(_, _)] rfl (Zjc _ _ _ _ _ _ _) fun b62 => ?_)
    refine Gf (σr := [(b12, bV (Qh ((norm q).getD j T0)) 125), (b10, bV (Qh ((norm p).getD i T0)) 125)]) rfl kk rfl rfl (List.Perm.trans (List.Perm.refl _) (List.Perm.cons _ (Zyg (Zyg (List.Perm.refl _))))) hG2 runUnderlying64 runUnderlying64 typeInfo125 sizeOf125 Zey rfl dd dd rfl rfl dd (by show 72 * (2 * ((Jh ((norm p).take i) (norm q) ++ ((norm q).take j).map (mulS ((norm p).getD i T0))).length + 1) + 192) ≤ 281474976710656; omega) dd ?_
    intro v63 o63 hG63
    obtain ⟨ad63, c63, rfl⟩ := hG63.is
    have hLn63 : (Jh ((norm p).take i) (norm q) ++ ((norm q).take j).map (mulS ((norm p).getD i T0))).length + 1 = ((Jh ((norm p).take i) (norm q) ++ ((norm q).take j).map (mulS ((norm p).getD i T0))) ++ [(⟨(((norm p).getD i T0).i) + (((norm q).getD j T0).i), (((norm p).getD i T0).j) + (((norm q).getD j T0).j), (((norm p).getD i T0).c) * (((norm q).getD j T0).c)⟩ : Tm)]).length := lA
    rw [hLn63]; rw [hLn63] at hG63
    replace hG63 : GrowO 7 125 (.slice ad63 ((Jh ((norm p).take i) (norm q) ++ ((norm q).take j).map (mulS ((norm p).getD i T0))) ++ [(⟨(((norm p).getD i T0).i) + (((norm q).getD j T0).i), (((norm p).getD i T0).j) + (((norm q).getD j T0).j), (((norm p).getD i T0).c) * (((norm q).getD j T0).c)⟩ : Tm)]).length c63) ((Jh ((norm p).take i) (norm q) ++ ((norm q).take j).map (mulS ((norm p).getD i T0))) ++ [(⟨(((norm p).getD i T0).i) + (((norm q).getD j T0).i), (((norm p).getD i T0).j) + (((norm q).getD j T0).j), (((norm p).getD i T0).c) * (((norm q).getD j T0).c)⟩ : Tm)]).length (cellsOf Qh ((Jh ((norm p).take i) (norm q) ++ ((norm q).take j).map (mulS ((norm p).getD i T0))) ++ [(⟨(((norm p).getD i T0).i) + (((norm q).getD j T0).i), (((norm p).getD i T0).j) + (((norm q).getD j T0).j), (((norm p).getD i T0).c) * (((norm q).getD j T0).c)⟩ : Tm)])) o63 := by rw [Qj, Xq]; exact hG63
    refine yp rfl (.assign rfl) (yn (zr (zp (.pN (j + 1) (.add rfl rfl)) (zm rfl (zn ?_))))); intro a w h
    rw [Zu5 (norm p) (norm q) ((norm p).getD i T0) i j hlt_j] at h hG63
    exact ⟨j + 1, ⟨oo, ad63, c63, o63, hG63, by exact (((h.perm (List.Perm.trans (Zga (List.Perm.refl _)) (List.Perm.cons _ (List.Perm.trans (Zga (List.Perm.refl _)) (List.Perm.cons _ (List.Perm.refl _))))).symm).drop (by repeat (first | exact List.Sublist.refl _ | apply List.Sublist.cons))).factsSub (by simp)).sub sA⟩, oo⟩
   ·
    skip
    have heq_j : (norm q).length = j := dF hc42
    subst heq_j
    rw [List.take_length, Zu6 (norm p) (norm q) i hlt_i] at h hG2
    refine gC h (ze (zr (zp (.pN (i + 1) (.add rfl rfl)) (zm rfl (zn ?_))))); clear h; intro a w h
    exact ⟨i + 1, ⟨oo, ad2, c2, o2, hG2, by exact ((h.drop (by repeat (first | exact List.Sublist.refl _ | apply List.Sublist.cons))).factsSub (by simp)).sub sA⟩, oo⟩
  ·
   skip
   have heq_i : (norm p).length = i := dF hc36
   subst heq_i
   rw [List.take_length] at h hG1
   replace h := St.shareO' h hS hG1
   refine gC h (ze (zS (zm rfl ?_))); clear h; intro a w h
   refine Zc (Kl h (vs := [_]) rfl call90 (Gx (Jh (norm p) (norm q)) _ _ (Ka + Kb) ((Zwx (Vf ha.deg) (Vf hb.deg)).mono hd) (Qc3 ha.nsz hb.nsz) (Zyn hna hnb oo) (Nat.le_trans (Zkd hna hnb) dd)) ss dd ?_); clear h; rintro v67 σ67 a w ⟨ad67, c67, rfl, hG67⟩ h
   refine gL h (za rfl (za rfl (zn (zt ?_)))); clear h; intro a w h
   have e : norm (Jh (norm p) (norm q)) = norm (Jh p q) := Ga ((Eqv.nrm p).mul (Eqv.nrm q))
   rw [e] at h hG67
   refine Zr6 h (Qq h rfl (.tmp rfl) (.tmp rfl)) ⟨ad67, c67, rfl, hG67⟩ (List.sublist_append_left _ _)
theorem Zat (p q : List Tm) (ada adb : Option Addr) (ca cb da db Ka Kb : Nat) (ha : Pq da Ka p) (hb : Pq db Kb q) (hd : da + db ≤ 12) (hK : Ka ≤ 2000000) (hK2 : Kb ≤ 2000000) : Ctr Tryz.prog 45 [.slice ada p.length ca, .slice adb q.length cb] [Row ada (cellsOf Qh p), Row adb (cellsOf Qh q)] (fun v Ψ => ∃ ad' c', v = .tuple #[.slice ad' (norm (Jh p q)).length c', .int .i64 0] ∧ Ψ = [Row ad' (cellsOf Qh (norm (Jh p q)))]) := Qcl (C_pMul p q ada adb ca cb da db Ka Kb ha hb hd hK hK2)
theorem Qbs {n d : Nat} {g : Int} (h1 : -1 ≤ g) (h2 : g ≤ (d : Int)) (hn : n ≤ 12) (hd : n * d ≤ 12) : -12 ≤ (n : Int) * g ∧ (n : Int) * g ≤ 12 := by
 have a := Int.mul_le_mul_of_nonneg_left h1 (show (0 : Int) ≤ n by omega)
 have b := Int.mul_le_mul_of_nonneg_left h2 (show (0 : Int) ≤ n by omega)
 have c : (n : Int) * (d : Int) = ((n * d : Nat) : Int) := (Int.natCast_mul _ _).symm
 omega
theorem C_Pow (p : List Tm) (ad : Option Addr) (c d K : Nat) (hq : Pq d K p) (n : Nat) (hn : n ≤ 12) (hd12 : d ≤ 12) (hd : n * d ≤ 12) (hK : n * K + 4 ≤ 2000000) (hK1 : K ≤ 2000000) : Ctr Tryz.prog 163 [.slice ad p.length c, .int .i64 ((n : Nat) : Int)] [Row ad (cellsOf Qh p)] (fun v Ψ => ∃ ad' c', v = .tuple #[.slice ad' (norm (Zbm p n)).length c', .int .i64 0] ∧ Ψ = [Row ad' (cellsOf Qh (norm (Zbm p n)))]) := by
 obtain ⟨hg1, hg2⟩ := Qbs (Zpa (norm p)) (Zo9 (Vf hq.deg)) hn hd
 refine fn_intro func163 rfl ntmps163 nb ?_
 intro S w0 a hS h
 refine gC h (zS (za rfl (za rfl (zn (zs (zb (zS (zm rfl (zp (.lss rfl rfl) ?_))))))))); clear h; intro a w h
 refine Qp h (fun hc9 h => (by exfalso; have := of_decide_eq_true hc9; omega)) (fun hc9 h => ?_)
 refine gL h (zm rfl (zq 10 rfl rfl (.move rfl) (zq 10 rfl rfl (.gtr rfl rfl) ?_))); clear h; intro a w h
 refine Qp h (fun hc12 h => (by exfalso; have := of_decide_eq_true hc12; omega)) (fun hc12 h => ?_)
 refine gL h (zp (.pickF rfl rfl) (za rfl (zn ?_))); clear h; intro a w h
 refine cW ?_
 refine Zf h rfl ?_
 refine gC h (zS (zm rfl (zm rfl (zw [_] rfl call87 (Zf1 p _ _ d K hq oo oo) (zp (.mul rfl rfl) (zp (.gtr rfl rfl) (za rfl (zn ?_)))))))); clear h; intro a w h
 refine cW ?_
 refine Zg h rfl (fun hc14 => (by exfalso; have := of_decide_eq_true hc14; omega)) (fun hc14 => ?_)
 refine gC h (zk (zS (zv [_] rfl call21 (Ye _ oo oo) ?_)))
 have hl20 := Zs (1) oo oo
 refine zf [_] rfl call35 (Zce ((1 : Int) : Rat) 2 (Zs 1 dd dd) oo) ?_; rintro v21 Ψ21 ⟨ad21, c21, rfl, rfl⟩
 refine za rfl (zn (zs (zS (zm rfl (zm rfl (zn (zb ?_))))))); intro a w h
 refine Zn (fun (k : Nat) a w => k ≤ n ∧ ∃ (ad1 : Option Addr) (c1 : Nat), St 33 S w0 [(0, .slice ad p.length c), (4, .slice none 0 0), (5, .int .i64 0), (6, .slice ad1 ((norm (Zbm p k)).length) c1), (22, nI n), (23, nI k)] [] [Row ad1 (cellsOf Qh (norm (Zbm p k))), Row ad (cellsOf Qh p)] a w) (fun k => n - k) 0 (⟨Nat.zero_le _, _, _, by rw [show norm (Zbm p 0) = norm [(⟨0, 0, ((1 : Int) : Rat)⟩ : Tm)] from rfl]; exact (h.factsSub (by simp)).sub (Ztd ⟨rfl, rfl, rfl, rfl, rfl, rfl, trivial⟩)⟩) ?_; clear h
 rintro k a w ⟨hi_k, ad1, c1, h⟩
 refine gC h (zS (zp (.lss rfl rfl) (zn (zs ?_)))); clear h; intro a w h
 refine Zg h rfl (fun hc24 => ?_) (fun hc24 => ?_)
 ·
  skip
  have hlt_k : k < n := dT hc24
  have hkd := Nat.mul_le_mul_right d (show k + 1 ≤ n by omega)
  have hkK := Nat.mul_le_mul_right K (show k + 1 ≤ n by omega)
  rw [Nat.add_mul, Nat.one_mul] at hkd hkK
  refine gC h (zk (zs (zb (zr (zm rfl (zm rfl (zf [_, _] rfl call45 (Zat (norm (Zbm p k)) p _ _ _ _ (k * d) d (k * K + 4) K (hq.pow k oo) hq oo oo oo) ?_))))))); rintro v28 Ψ28 ⟨ad28, c28, rfl, rfl⟩
  refine zm rfl (zp (.eX rfl) (zp (.eX rfl) (za rfl (zn (zr (zp (.pN (k + 1) (.add rfl rfl)) (zm rfl (zn ?_)))))))); intro a w h
  have hstep : norm (Jh (norm (Zbm p k)) p) = norm (Zbm p (k + 1)) := Ga ((Eqv.nrm _).mul Eqv.rfl')
  rw [hstep] at h
  exact ⟨k + 1, ⟨oo, ad28, c28, by exact (h.factsSub (by simp)).sub sA⟩, oo⟩
 ·
  skip
  have heq_k : n = k := dF hc24
  subst heq_k
  refine gC h (ze (zS (zm rfl (za rfl (za rfl (zn (zt ?_))))))); clear h; intro a w h
  refine Xr (Ψ := [Row _ (cellsOf Qh (norm (Zbm p n)))]) h (Qq h rfl (.tmp rfl) (.tmp rfl)) ⟨_, _, rfl, rfl⟩ ss
theorem ln_DL (a b c : Rat) : DL 12 (ln a b c) := fun t ht => by
 simp only [ln, List.mem_cons, List.not_mem_nil, or_false] at ht
 rcases ht with rfl | rfl | rfl <;> simp
theorem ln_KL {K : Nat} {a b c : Rat} (h1 : Zu a ≤ K) (h2 : Zu b ≤ K) (h3 : Zu c ≤ K) : KL K (ln a b c) := fun t ht => by
 simp only [ln, List.mem_cons, List.not_mem_nil, or_false] at ht
 rcases ht with rfl | rfl | rfl <;> assumption
theorem Zvd {K : Nat} (h : K ≤ 20000) {a b c : Rat} : (ln a b c).length * (K + 1) ≤ 50000000000 := by show 3 * (K + 1) ≤ _; omega
theorem Qaq (a b c : Rat) : (ln a b c).length ≤ 100000 := by show 3 ≤ 100000; omega
theorem Zk3 (p : List Tm) (n : Nat) : norm (Zbm (norm p) n) = norm (Zbm p n) := Ga ((Eqv.nrm p).pow n)
theorem Qb0 (p q : List Tm) : norm (Jh (norm p) (norm q)) = norm (Jh p q) := Ga ((Eqv.nrm p).mul (Eqv.nrm q))
theorem Zuc (c : Rat) (p : List Tm) : norm (Ja c (norm p)) = norm (Ja c p) := Ga ((Eqv.nrm p).scale c)
theorem Qcz (p q : List Tm) : norm (norm p ++ norm q) = norm (p ++ q) := Ga ((Eqv.nrm p).append (Eqv.nrm q))
theorem Zw9 (p : List Tm) (ad : Option Addr) (c d K : Nat) (hq : Pq d K p) (ax bx cx ay b cy : Rat) (Kx : Nat) (hd : d ≤ 12) (hx1 : Zu ax ≤ Kx) (hx2 : Zu bx ≤ Kx) (hx3 : Zu cx ≤ Kx) (hx4 : Zu ay ≤ Kx) (hx5 : Zu b ≤ Kx) (hx6 : Zu cy ≤ Kx) (hKx : Kx ≤ 20000) (hK : K ≤ 1000000) :
  Ctr Tryz.prog 127 [.slice ad p.length c, Zr ax, Zr bx, Zr cx, Zr ay, Zr b, Zr cy] [Row ad (cellsOf Qh p)] (fun v Ψ => ∃ ad' c', v = .slice ad' (norm (shL p ax bx cx ay b cy)).length c' ∧ Ψ = [Row ad' (cellsOf Qh (norm (shL p ax bx cx ay b cy)))]) := by
 have hnl : (norm p).length ≤ 91 := hq.n91 hd
 have hKT : KT d K Kx ≤ 1800000 := by
  have := Nat.mul_le_mul_right (3 * Kx + 4) hd
  unfold KT; omega
 have hdK := Nat.mul_le_mul_right (3 * Kx + 4) hd
 refine fn_intro func127 rfl ntmps127 nb ?_
 intro S w0 a hS h
 refine gC h (zS (zx rfl fun b8 => zx rfl fun b9 => zx rfl fun b10 => zx rfl fun b11 => zx rfl fun b12 => zx rfl fun b13 => za rfl (zn (zS (zd rfl mr isAgg41 sizeOf41 Zh ?_)))))
 refine zp (.build [(_, _), (_, _)] rfl (Zgp _ _ _ _ _ _)) (zd rfl mr isAgg41 sizeOf41 Zh ?_)
 refine zp (.build [(_, _), (_, _)] rfl (Zgo _ _ _ _ _ _)) (zd rfl mr isAgg41 sizeOf41 Zh ?_)
 refine zp (.build [(_, _)] rfl (Zlx _ _ _ _ _)) (zB [(_, _), (_, _), (_, _)] rfl (Zfz _ _ _ _ _ _ _ _ _ _ _ _ _ _ _ _ _ _ _ _ _) fun b32 => ?_); intro a w h
 replace h := h.shareAll hS (cellsOf Qh (ln ax bx cx)) rfl
 refine Zc (Kl h (vs := [_]) rfl call90 (Gx (ln ax bx cx) _ _ Kx (ln_DL _ _ _) (ln_KL hx1 hx2 hx3) (Zvd hKx) (Qaq _ _ _)) ss dd ?_); clear h; rintro v33 σ33 a w ⟨ad33, c33, rfl, hG33⟩ h
 replace h := St.shareO' h hS hG33
 refine gL h (za rfl (zn (zS (zd rfl mr isAgg41 sizeOf41 Zh ?_))))
 refine zp (.build [(_, _), (_, _)] rfl (Zgp _ _ _ _ _ _)) (zd rfl mr isAgg41 sizeOf41 Zh ?_)
 refine zp (.build [(_, _), (_, _)] rfl (Zgo _ _ _ _ _ _)) (zd rfl mr isAgg41 sizeOf41 Zh ?_)
 refine zp (.build [(_, _)] rfl (Zlx _ _ _ _ _)) (zB [(_, _), (_, _), (_, _)] rfl (Zfz _ _ _ _ _ _ _ _ _ _ _ _ _ _ _ _ _ _ _ _ _) fun b40 => ?_); intro a w h
 replace h := h.shareAll hS (cellsOf Qh (ln ay b cy)) rfl
 refine Zc (Kl h (vs := [_]) rfl call90 (Gx (ln ay b cy) _ _ Kx (ln_DL _ _ _) (ln_KL hx4 hx5 hx6) (Zvd hKx) (Qaq _ _ _)) ss dd ?_); clear h; rintro v41 σ41 a w ⟨ad41, c41, rfl, hG41⟩ h
 replace h := St.shareO' h hS hG41
 refine gL h (za rfl (zn (zS (za rfl (zn (zs (zS (zm rfl (zf [_] rfl call103 (Zcz p _ _ d K hq hd oo) ?_))))))))); rintro v43 Ψ43 ⟨ad43, c43, rfl, rfl⟩
 refine zp (.builtin [_] rfl (Js _ _ _)) (zm rfl (zn (zb ?_))); intro a w h
 refine Zn (fun (k : Nat) a w => k ≤ (norm p).length ∧ ∃ (ad1 : Option Addr) (c1 : Nat), St 77 S w0 [(14, .slice none 0 0), (15, .slice ad33 ((norm (ln ax bx cx)).length) c33), (16, .slice ad41 ((norm (ln ay b cy)).length) c41), (17, .slice ad1 ((norm (sbL (ln ax bx cx) (ln ay b cy) ((norm p).take k))).length) c1), (43, .slice ad43 ((norm p).length) c43), (44, nI ((norm p).length)), (45, nI k)] [(b13, bV (Zr (cy)) 41), (b12, bV (Zr (b)) 41), (b11, bV (Zr (ay)) 41), (b10, bV (Zr (cx)) 41), (b9, bV (Zr (bx)) 41), (b8, bV (Zr (ax)) 41)] [Row ad1 (cellsOf Qh (norm (sbL (ln ax bx cx) (ln ay b cy) ((norm p).take k)))), Row ad43 (cellsOf Qh (norm p)), Row ad41 (cellsOf Qh (norm (ln ay b cy))), Row (some ⟨b40, 0, none⟩) (cellsOf Qh (ln ay b cy)), Row ad33 (cellsOf Qh (norm (ln ax bx cx))), Row (some ⟨b32, 0, none⟩) (cellsOf Qh (ln ax bx cx)), Row ad (cellsOf Qh p)] a w) (fun k => (norm p).length - k) 0 (⟨Nat.zero_le _, none, 0, by rw [List.take_zero, show sbL (ln ax bx cx) (ln ay b cy) [] = [] from rfl, Zk8]; replace h := h.derive (R := Row none (cellsOf Qh [])) (fun X _ hne => absurd rfl hne); exact (h.factsSub (by simp)).sub (Ztd ⟨rfl, rfl, rfl, rfl, rfl, rfl, rfl, trivial⟩)⟩) ?_; clear h
 rintro k a w ⟨hi_k, ad1, c1, h⟩
 refine gC h (zS (zp (.lss rfl rfl) (zn (zs ?_)))); clear h; intro a w h
 refine Zg h rfl (fun hc46 => ?_) (fun hc46 => ?_)
 ·
  skip
  have hlt_k : k < (norm p).length := dT hc46
  obtain ⟨B_ad43, O_ad43, rfl⟩ := h.row_addr (ad := ad43) (M := cellsOf Qh (norm p)) mm (nE 7)
  have hmem := getD_mem (norm p) (d := T0) hlt_k
  have hsc := hq.nsz _ hmem
  have hdg := (Vf hq.deg) _ hmem
  have hi3 := Nat.mul_le_mul_right (3 * Kx + 4) (show ((norm p).getD k T0).i ≤ d by omega)
  have hj3 := Nat.mul_le_mul_right (3 * Kx + 4) (show ((norm p).getD k T0).j ≤ d by omega)
  have hpx : Pq ((norm p).getD k T0).i (((norm p).getD k T0).i * (3 * Kx + 4) + 4) (norm (Zbm (norm (ln ax bx cx)) ((norm p).getD k T0).i)) := by rw [Zk3]; exact Pq.line_pow hx1 hx2 hx3 oo
  have hpy : Pq ((norm p).getD k T0).j (((norm p).getD k T0).j * (3 * Kx + 4) + 4) (norm (Zbm (norm (ln ay b cy)) ((norm p).getD k T0).j)) := by rw [Zk3]; exact Pq.line_pow hx4 hx5 hx6 oo
  have hpm : Pq d (2 * (d * (3 * Kx + 4) + 4)) (norm (Jh (norm (Zbm (norm (ln ax bx cx)) ((norm p).getD k T0).i)) (norm (Zbm (norm (ln ay b cy)) ((norm p).getD k T0).j)))) := (hpx.mul hpy oo).mono hdg oo
  have hsk := Pq.sbl hx1 hx2 hx3 hx4 hx5 hx6 hd (Vf hq.deg) hq.nsz k oo
  have hkk := Nat.mul_le_mul (show k ≤ 91 by omega) hKT
  have hes : norm (Ja ((norm p).getD k T0).c (norm (Jh (norm (Zbm (norm (ln ax bx cx)) ((norm p).getD k T0).i)) (norm (Zbm (norm (ln ay b cy)) ((norm p).getD k T0).j))))) = norm (sbT (ln ax bx cx) (ln ay b cy) ((norm p).getD k T0)) := by
   rw [Zk3, Zk3, Qb0, Zuc]; rfl
  have hsp : Pq d (KT d K Kx) (norm (Ja ((norm p).getD k T0).c (norm (Jh (norm (Zbm (norm (ln ax bx cx)) ((norm p).getD k T0).i)) (norm (Zbm (norm (ln ay b cy)) ((norm p).getD k T0).j)))))) := by
   rw [hes]; exact (Pq.sbT hx1 hx2 hx3 hx4 hx5 hx6 hd hdg hsc).mono (Nat.le_refl _) (Nat.sub_le _ _)
  have hstep : norm (norm (sbL (ln ax bx cx) (ln ay b cy) ((norm p).take k)) ++ norm (Ja ((norm p).getD k T0).c (norm (Jh (norm (Zbm (norm (ln ax bx cx)) ((norm p).getD k T0).i)) (norm (Zbm (norm (ln ay b cy)) ((norm p).getD k T0).j)))))) = norm (sbL (ln ax bx cx) (ln ay b cy) ((norm p).take (k + 1))) := by
   rw [hes, Qcz, take_snoc _ hlt_k, Zp0]
  refine gC h (zk (zs (zb (zS (zp (.indexAddr rfl rfl (Zgh _ _ _ _ _ oo)) (zD rfl mm (cells_lt (k := 7) dd (fun _ => rfl) (norm p) k oo) isAgg125 sizeOf125 (Zq (k := 7) (fun _ => rfl) ((fun _ => rfl)) (norm p) T0 k oo) (.inl rfl) ?_))))))
  refine zz Zey fun b19 => zt' rfl rfl Zaa uu sizeOf125 rfl nb rfl ?_
  refine zn (zS (zm rfl (zp (.fA rfl Vr) (zd rfl mr isAgg3 sizeOf3 Zby ?_))))
  refine zf [_, _] rfl call163 (C_Pow (norm (ln ax bx cx)) _ _ 1 (3 * Kx + 4) ((Pq.line hx1 hx2 hx3).nrm oo) ((norm p).getD k T0).i oo oo oo oo oo) ?_; rintro v53 Ψ53 ⟨ad53, c53, rfl, rfl⟩
  refine zm rfl (zp (.eX rfl) (zp (.eX rfl) (za rfl (za rfl (zn (zS (zm rfl (zp (.fA rfl Ve) (zd rfl mr isAgg3 sizeOf3 Zbj ?_)))))))))
  refine zf [_, _] rfl call163 (C_Pow (norm (ln ay b cy)) _ _ 1 (3 * Kx + 4) ((Pq.line hx4 hx5 hx6).nrm oo) ((norm p).getD k T0).j oo oo oo oo oo) ?_; rintro v60 Ψ60 ⟨ad60, c60, rfl, rfl⟩
  refine zm rfl (zp (.eX rfl) (zp (.eX rfl) (za rfl (za rfl (zn (zS (zm rfl (zm rfl (zf [_, _] rfl call45 (Zat (norm (Zbm (norm (ln ax bx cx)) ((norm p).getD k T0).i)) (norm (Zbm (norm (ln ay b cy)) ((norm p).getD k T0).j)) _ _ _ _ ((norm p).getD k T0).i ((norm p).getD k T0).j (((norm p).getD k T0).i * (3 * Kx + 4) + 4) (((norm p).getD k T0).j * (3 * Kx + 4) + 4) hpx hpy oo oo oo) ?_))))))))); rintro v66 Ψ66 ⟨ad66, c66, rfl, rfl⟩
  refine zm rfl (zp (.eX rfl) (zp (.eX rfl) (za rfl (za rfl (zn (zr (zm rfl (zm rfl (zp (.fA rfl Ky) (zd rfl mr isAgg41 sizeOf41 Zb1 ?_))))))))))
  refine zf [_, _] rfl call57 (Zl6 (norm (Jh (norm (Zbm (norm (ln ax bx cx)) ((norm p).getD k T0).i)) (norm (Zbm (norm (ln ay b cy)) ((norm p).getD k T0).j)))) _ _ d (2 * (d * (3 * Kx + 4) + 4)) hpm hd oo ((norm p).getD k T0).c K hsc oo) ?_; rintro v73 Ψ73 ⟨ad73, c73, rfl, rfl⟩
  refine zf [_, _] rfl call46 (Zgr (norm (sbL (ln ax bx cx) (ln ay b cy) ((norm p).take k))) (norm (Ja ((norm p).getD k T0).c (norm (Jh (norm (Zbm (norm (ln ax bx cx)) ((norm p).getD k T0).i)) (norm (Zbm (norm (ln ay b cy)) ((norm p).getD k T0).j)))))) _ _ _ _ d d (k * KT d K Kx + 1) (KT d K Kx) hsk hsp hd hd oo oo) ?_; rintro v74 Ψ74 ⟨ad74, c74, rfl, rfl⟩
  refine za rfl (zn (zr (zp (.pN (k + 1) (.add rfl rfl)) (zm rfl (zn ?_))))); intro a w h
  rw [hstep] at h
  exact ⟨k + 1, ⟨oo, ad74, c74, by exact ((h.drop sl).factsSub (by simp)).sub sA⟩, oo⟩
 ·
  skip
  have heq_k : (norm p).length = k := dF hc46
  subst heq_k
  have e : norm (sbL (ln ax bx cx) (ln ay b cy) ((norm p).take (norm p).length)) = norm (shL p ax bx cx ay b cy) := by rw [List.take_length]; exact Ga (Eqv.sub Eqv.rfl' Eqv.rfl' (Eqv.nrm p))
  rw [e] at h
  refine gC h (ze (zS (zm rfl (za rfl (zn (zt ?_)))))); clear h; intro a w h
  refine Xr (Ψ := [Row _ (cellsOf Qh (norm (shL p ax bx cx ay b cy)))]) h (Zk h rfl (.tmp rfl)) ⟨_, _, rfl, rfl⟩ ss
end
section
theorem Ku (b off : Nat) (w : World) : (Instr.indexAt 139 (.pointer (some ⟨b, off, none⟩)) (.int .i64 0)).run Tryz.prog w = .ok (.pointer (some ⟨b, off + 0, none⟩)) w := by
 simp [go_sem, Instr.indexAt]
theorem Jf {c0 c1 c2 c3 c4 c5 c6 c7 c8 c9 : Value} : Qe true 5 #[c0, c1, c2, c3, c4, c5, c6, c7, c8, c9] 0 = some (.agg #[c0, c1, c2, c3, c4]) := rfl
theorem Kt (b off : Nat) (w : World) : (Instr.indexAt 139 (.pointer (some ⟨b, off, none⟩)) (.int .i64 1)).run Tryz.prog w = .ok (.pointer (some ⟨b, off + 5, none⟩)) w := by
 simp [go_sem, Instr.indexAt]
theorem Je {c0 c1 c2 c3 c4 c5 c6 c7 c8 c9 : Value} : Qe true 5 #[c0, c1, c2, c3, c4, c5, c6, c7, c8, c9] 5 = some (.agg #[c5, c6, c7, c8, c9]) := rfl
theorem Zkn (x0_0 : Value) (x0_1 : Value) (x0_2 : Value) (x0_3 : Value) (x0_4 : Value) (x1_0 : Value) (x1_1 : Value) (x1_2 : Value) (x1_3 : Value) (x1_4 : Value) (w : World) : (Instr.build 139 [(0, .agg #[x0_0, x0_1, x0_2, x0_3, x0_4]), (1, .agg #[x1_0, x1_1, x1_2, x1_3, x1_4])].toArray).run Tryz.prog w = .ok (.agg #[x0_0, x0_1, x0_2, x0_3, x0_4, x1_0, x1_1, x1_2, x1_3, x1_4]) w := by simp [go_sem]
theorem Qg {c0 c1 c2 c3 c4 c5 c6 c7 c8 c9 v0 v1 v2 v3 v4 v5 v6 v7 v8 v9 : Value} : Qc #[c0, c1, c2, c3, c4, c5, c6, c7, c8, c9] 0 [v0, v1, v2, v3, v4, v5, v6, v7, v8, v9] = #[v0, v1, v2, v3, v4, v5, v6, v7, v8, v9] := by kernel_rfl
theorem Zj {c0 c1 c2 c3 c4 c5 c6 c7 c8 c9 : Value} : Qe true 10 #[c0, c1, c2, c3, c4, c5, c6, c7, c8, c9] 0 = some (.agg #[c0, c1, c2, c3, c4, c5, c6, c7, c8, c9]) := rfl
theorem Zlv (w : World) : (Instr.build 41 [].toArray).run Tryz.prog w = .ok (.agg #[.int .u64 0, .string ⟨#[]⟩, .bool false, .int .u64 0, .string ⟨#[]⟩]) w := by simp [go_sem]
theorem Zdg (w : World) : (zeroValue 139).run Tryz.prog w = .ok (encPt (0, 0)) w := zeroValue139 w
abbrev encA (l : List Rat) : Value := .agg (cellsOf Zr l).toArray
theorem Zgs (pb pa : Pt) (h1 : Zu pb.1 ≤ 10000000000) (h2 : Zu pa.1 ≤ 10000000000) (h3 : Zu pb.2 ≤ 10000000000) (h4 : Zu pa.2 ≤ 10000000000) : Xm Tryz.prog 126 [encPt pb, encPt pa] (Zbr (pb.1 - pa.1) (pb.2 - pa.2)) := by
 refine fn_intro func126 rfl ntmps126 nb ?_
 intro S w0 a hS h
 refine gC h (zS (zx rfl fun b2 => zx rfl fun b3 => zz Zdg fun b4 => zn (zs (yD Za [0, 1, 2, 3, 5, 6, 7, 8, 4, 9, 10, 11] (Zd kk) (yp rfl (.indexAddr rfl rfl (Ku _ _)) (yd rfl rfl mr isAgg41 sizeOf41 Jf ?_)))))); clear h
 refine yp rfl (.indexAddr rfl rfl (Ku _ _)) (yd rfl rfl mr isAgg41 sizeOf41 Jf ?_)
 refine yp rfl (.indexAddr rfl rfl (Kt _ _)) (yd rfl rfl mr isAgg41 sizeOf41 Je ?_)
 refine yp rfl (.indexAddr rfl rfl (Kt _ _)) (yd rfl rfl mr isAgg41 sizeOf41 Je ?_)
 refine yv [_, _] rfl rfl call137 (Zjm _ _ oo oo) ?_
 have hl9 := Zae (pb.1) (pa.1)
 refine yv [_, _] rfl rfl call137 (Zjm _ _ oo oo) ?_
 have hl14 := Zae (pb.2) (pa.2)
 refine yp rfl (.build [(_, _), (_, _)] rfl (Zkn _ _ _ _ _ _ _ _ _ _)) (yt rfl rfl rfl Qg uu sizeOf139 rfl nb rfl ?_)
 refine yn (zt ?_); intro a w h
 refine Xd h (Zk h rfl (.cell rfl mr isAgg139 sizeOf139 Zj)) ?_
 rfl
theorem Qc6 (pa pb pc : Pt) (Kp : Nat) (ha : PtK Kp pa) (hb : PtK Kp pb) (hc : PtK Kp pc) (hk : Kp ≤ 1000000000) : Xm Tryz.prog 130 [encPt pa, encPt pb, encPt pc] (Zr (twQ pa pb pc)) := by
 obtain ⟨ha1, ha2⟩ := ha
 obtain ⟨hb1, hb2⟩ := hb
 obtain ⟨hc1, hc2⟩ := hc
 have hl1 := Jv hb1 ha1
 have hl2 := Jv hb2 ha2
 have hl3 := Jv hc1 ha1
 have hl4 := Jv hc2 ha2
 refine fn_intro func130 rfl ntmps130 nb ?_
 intro S w0 a hS h
 refine gC h (zS (zx rfl fun b3 => zx rfl fun b4 => zx rfl fun b5 => zz Ju fun b6 => zn (zs (yD Za [0, 1, 3, 4, 2, 5, 6, 7, 8, 9] (Qs ⟨.inl rfl, .inl rfl, .inl rfl, .inl rfl, .inl rfl, .inl rfl, .inr ⟨7, 139, _, _, _, rfl, rfl, by decide, _, Zdg⟩, .inr ⟨8, 139, _, _, _, rfl, rfl, by decide, _, Zdg⟩, .inl rfl, .inl rfl, trivial⟩) (yd rfl rfl mr isAgg139 sizeOf139 Zj ?_))))); clear h
 refine yd rfl rfl mr isAgg139 sizeOf139 Zj ?_
 refine yd rfl rfl mr isAgg139 sizeOf139 Zj ?_
 refine yd rfl rfl mr isAgg139 sizeOf139 Zj ?_
 refine yv [_, _] rfl rfl call126 (Zgs pb pa oo oo oo oo) (yv [_, _] rfl rfl call126 (Zgs pc pa oo oo oo oo) (yz rfl Zdg fun b7 => yz rfl Zdg fun b8 => yt rfl rfl rfl Qg uu sizeOf139 rfl nb rfl ?_))
 refine yt rfl rfl rfl Qg uu sizeOf139 rfl nb rfl ?_
 refine yn (zs (yD Za [0, 1, 2, 3, 5, 6, 7, 8, 4, 9, 10, 11] (Zd kk) (yp rfl (.indexAddr rfl rfl (Ku _ _)) (yd rfl rfl mr isAgg41 sizeOf41 Jf ?_))))
 refine yp rfl (.indexAddr rfl rfl (Kt _ _)) (yd rfl rfl mr isAgg41 sizeOf41 Je ?_)
 refine yp rfl (.indexAddr rfl rfl (Ku _ _)) (yd rfl rfl mr isAgg41 sizeOf41 Jf ?_)
 refine yp rfl (.indexAddr rfl rfl (Kt _ _)) (yd rfl rfl mr isAgg41 sizeOf41 Je ?_)
 refine yv [_, _] rfl rfl call18 (Jc _ _ oo oo) ?_
 have hl19 := Zm (pb.1 - pa.1) (pc.2 - pa.2)
 refine yv [_, _] rfl rfl call18 (Jc _ _ oo oo) ?_
 have hl24 := Zm (pc.1 - pa.1) (pb.2 - pa.2)
 refine yv [_, _] rfl rfl call137 (Zjm _ _ oo oo) ?_
 have hl25 := Zae ((pb.1 - pa.1) * (pc.2 - pa.2)) ((pc.1 - pa.1) * (pb.2 - pa.2))
 refine yt rfl rfl rfl Zp uu sizeOf41 rfl nb rfl ?_
 refine yn (zt ?_); intro a w h
 refine Xd h (Zk h rfl (.cell rfl mr isAgg41 sizeOf41 Zh)) ?_
 rfl
theorem Qa2 (q : List Tm) (ad : Option Addr) (c g K Kf : Nat) (φ : Nat → Nat → Rat) (hK : KL K q) (hn : q.length ≤ 100) (hb : K + Kf ≤ 50000000) (hg : ∀ args w, (callFunc g args).run Tryz.prog w = .ok (.enter g args) w)
  (hf : ∀ t ∈ q, Gh Tryz.prog g [.int .i64 ((t.i : Nat) : Int), .int .i64 ((t.j : Nat) : Int)] [] (Zr (φ t.i t.j))) (hφ : ∀ t ∈ q, Zu (φ t.i t.j) ≤ Kf) :
  Gh Tryz.prog 131 [.slice ad q.length c, .func (.func g) #[] #[]] [Row ad (cellsOf Qh q)] (Zr (Zmz φ q)) := by
 refine fn_intro func131 rfl ntmps131 nb ?_
 intro S w0 a hS h
 refine gC h (zS (zz Ju fun b4 => zn (zs (zS (zm rfl (zp (.builtin [_] rfl (Js _ _ _)) (zm rfl (zn (zb ?_))))))))); clear h; intro a w h
 refine Zn (fun (k : Nat) a w => k ≤ q.length ∧ St 26 S w0 [(1, .func (.func g) #[] #[]), (4, pB b4), (7, .slice ad q.length c), (8, nI q.length), (9, nI k)] [(b4, bV (Zr (Zmz φ (q.take k))) 41)] [Row ad (cellsOf Qh q)] a w) (fun k => q.length - k) 0 (⟨Nat.zero_le _, by exact (h).sub sA⟩) ?_; clear h
 rintro k a w ⟨hi_k, h⟩
 refine gC h (zS (zp (.lss rfl rfl) (zn (zs ?_)))); clear h; intro a w h
 refine Zg h rfl (fun hc10 => ?_) (fun hc10 => ?_)
 ·
  skip
  have hlt_k : k < q.length := dT hc10
  obtain ⟨B_ad, O_ad, rfl⟩ := h.row_addr (ad := ad) (M := cellsOf Qh q) mm (nE 7)
  have hmem := getD_mem q (d := T0) hlt_k
  have hck := hK _ hmem
  have hfk := hφ _ hmem
  have hlk := Zft k oo hK hφ
  have hkm := Nat.mul_le_mul (show k ≤ 100 by omega) (show K + Kf + 1 ≤ 50000001 by omega)
  have hstep : Zmz φ (q.take k) + (q.getD k T0).c * φ (q.getD k T0).i (q.getD k T0).j = Zmz φ (q.take (k + 1)) := by rw [take_snoc _ hlt_k, Zmy]
  refine gC h (zk (zs (zb (zS (zp (.indexAddr rfl rfl (Zgh _ _ _ _ _ oo)) (zD rfl mm (cells_lt (k := 7) dd (fun _ => rfl) q k oo) isAgg125 sizeOf125 (Zq (k := 7) (fun _ => rfl) ((fun _ => rfl)) q T0 k oo) (.inl rfl) ?_))))))
  refine zz Zey fun b6 => zt' rfl rfl Zaa uu sizeOf125 rfl nb rfl ?_
  refine zn (yD Za [0, 1, 2, 3, 4, 5, 6, 7, 8, 9, 10, 11] (Zd kk) (yd rfl rfl mr isAgg41 sizeOf41 Zh ?_))
  refine yp rfl (.fA rfl Ky) (yd rfl rfl mr isAgg41 sizeOf41 Zb1 ?_)
  refine ym rfl rfl (yp rfl (.fA rfl Vr) (yd rfl rfl mr isAgg3 sizeOf3 Zby ?_))
  refine yp rfl (.fA rfl Ve) (yd rfl rfl mr isAgg3 sizeOf3 Zbj ?_)
  refine Zbo rfl kk (fs := []) (cs := []) rfl (vs := [_, _]) rfl hg (hf _ hmem) ss dd ?_
  refine yv [_, _] rfl rfl call18 (Jc _ _ oo oo) ?_
  have hl22 := Zm ((q.getD k T0).c) (φ (q.getD k T0).i (q.getD k T0).j)
  refine yv [_, _] rfl rfl call49 (Vu _ _ oo oo) ?_
  have hl23 := Qo (Zmz φ (q.take k)) (((q.getD k T0).c) * (φ (q.getD k T0).i (q.getD k T0).j))
  refine yt rfl rfl rfl Zp uu sizeOf41 rfl nb rfl ?_
  refine yn (zr (zp (.pN (k + 1) (.add rfl rfl)) (zm rfl (zn ?_)))); intro a w h
  rw [hstep] at h
  exact ⟨k + 1, ⟨oo, ((h.drop sl).factsSub (by simp)).sub sA⟩, oo⟩
 ·
  skip
  have heq_k : q.length = k := dF hc10
  subst heq_k
  rw [List.take_length] at h
  refine gC h (ze (zS (zd rfl mr isAgg41 sizeOf41 Zh ?_)))
  refine zt' rfl rfl Zp uu sizeOf41 rfl nb rfl ?_; intro a w h
  refine wpList_nil (wp_ret ?_)
  refine Xd h (Zk h rfl (.cell rfl mr isAgg41 sizeOf41 Zh)) ?_
  rfl
theorem C_unit (i j : Nat) (h : i + j ≤ 12) : Xm Tryz.prog 128 [.int .i64 ((i : Nat) : Int), .int .i64 ((j : Nat) : Int)] (Zr (mu i j)) := by
 refine fn_intro func128 rfl ntmps128 nb ?_
 intro S w0 a hS h
 refine gC h (zS (zz Ju fun b4 => zn (zS (zm rfl (zm rfl (zp (.pN (i + j) (.add rfl rfl)) (zp (.pN ((i + j) + 2) (.add rfl rfl)) (zm rfl (zm rfl (zB [(_, _), (_, _)] rfl (Yz _ _) fun b11 => ?_)))))))))); clear h; intro a w h
 replace h := h.shareAll hS (List.map Zfb ([i, j])) rfl
 refine gL h (zw [_, _] rfl call129 (Zrf (i + j + 2) [i, j] _ _ oo ss (by simp; omega)) (zt' rfl rfl Zp uu sizeOf41 rfl nb rfl ?_)); clear h; intro a w h
 refine wpList_nil (wp_ret ?_)
 refine Xd h (Zk h rfl (.cell rfl mr isAgg41 sizeOf41 Zh)) ?_
 rw [Zp9]
theorem C_way (i j : Nat) (h : i ≤ 12) : Xm Tryz.prog 172 [.int .i64 ((i : Nat) : Int), .int .i64 ((j : Nat) : Int)] (Zr (lam i j)) := by
 refine fn_intro func172 rfl ntmps172 nb ?_
 intro S w0 a hS h
 refine gC h (zS (zz Ju fun b4 => zn (zS (zm rfl (zp (.pN (i + 1) (.add rfl rfl)) (zv [_, _] rfl call69 (Qdm _ _ oo oo oo oo oo) ?_))))))
 have hl10 := Zgd (1) (((i + 1 : Nat) : Int)) oo oo oo oo
 refine zm rfl (zp (.eX rfl) (zp (.eX rfl) (zz Ju fun b5 => zt' rfl rfl Zp uu sizeOf41 rfl nb rfl ?_)))
 refine za rfl (zn (zS (zd rfl mr isAgg41 sizeOf41 Zh ?_)))
 refine zt' rfl rfl Zp uu sizeOf41 rfl nb rfl ?_; intro a w h
 refine wpList_nil (wp_ret ?_)
 refine Xd h (Zk h rfl (.cell rfl mr isAgg41 sizeOf41 Zh)) ?_
 rfl
theorem Qdf (p : List Tm) (ad : Option Addr) (cp d K Kp : Nat) (hq : Pq d K p) (hd : d ≤ 12) (pa pb pc : Pt) (ha : PtK Kp pa) (hb : PtK Kp pb) (hc : PtK Kp pc) (hKp : Kp ≤ 3000) (hK : K ≤ 300000) : Gh Tryz.prog 70 [.slice ad p.length cp, encPt pa, encPt pb, encPt pc] [Row ad (cellsOf Qh p)] (Zr (Zaw p pa pb pc)) := by
 have hKT : KT d K (2 * Kp + 1) ≤ 520000 := by
  have := Nat.mul_le_mul_right (3 * (2 * Kp + 1) + 4) hd
  unfold KT; omega
 have hKS : KS d K (2 * Kp + 1) ≤ 47400000 := by
  have := Nat.mul_le_mul (show tri (d + 1) ≤ 91 from Nat.le_trans (Zav (show d + 1 ≤ 13 by omega)) dd) hKT
  unfold KS; omega
 have hS2 := Pq.triS hq hd ha hb hc
 have hlt := Zvi hq hd ha hb hc
 have htw := Qb3 ha hb hc
 have htm := Nat.mul_le_mul (show tri (d + 1) ≤ 91 from Nat.le_trans (Zav (show d + 1 ≤ 13 by omega)) dd) (show KS d K (2 * Kp + 1) + 301 ≤ 47400301 by omega)
 obtain ⟨ha1, ha2⟩ := ha
 obtain ⟨hb1, hb2⟩ := hb
 obtain ⟨hc1, hc2⟩ := hc
 have hl1 := Jv hb1 ha1
 have hl2 := Jv hb2 ha2
 have hl3 := Jv hc1 ha1
 have hl4 := Jv hc2 ha2
 refine fn_intro func70 rfl ntmps70 nb ?_
 intro S w0 a hS h
 refine gC h (zS (zx rfl fun b5 => zx rfl fun b6 => zx rfl fun b7 => zz Ju fun b8 => zn (zs (yD Za [0, 1, 3, 4, 2, 5, 6, 7, 8, 9] (Qs ⟨.inl rfl, .inl rfl, .inl rfl, .inl rfl, .inl rfl, .inl rfl, .inr ⟨9, 139, _, _, _, rfl, rfl, by decide, _, Zdg⟩, .inr ⟨10, 139, _, _, _, rfl, rfl, by decide, _, Zdg⟩, .inl rfl, .inl rfl, trivial⟩) (yd rfl rfl mr isAgg139 sizeOf139 Zj ?_))))); clear h
 refine yd rfl rfl mr isAgg139 sizeOf139 Zj ?_
 refine yd rfl rfl mr isAgg139 sizeOf139 Zj ?_
 refine yd rfl rfl mr isAgg139 sizeOf139 Zj ?_
 refine yv [_, _] rfl rfl call126 (Zgs pb pa oo oo oo oo) (yv [_, _] rfl rfl call126 (Zgs pc pa oo oo oo oo) (yz rfl Zdg fun b9 => yz rfl Zdg fun b10 => yt rfl rfl rfl Qg uu sizeOf139 rfl nb rfl ?_))
 refine yt rfl rfl rfl Qg uu sizeOf139 rfl nb rfl ?_
 refine yn (zS (zm rfl (zp (.indexAddr rfl rfl (Ku _ _)) (zd rfl mr isAgg41 sizeOf41 Jf ?_))))
 refine zp (.indexAddr rfl rfl (Ku _ _)) (zd rfl mr isAgg41 sizeOf41 Jf ?_)
 refine zp (.indexAddr rfl rfl (Ku _ _)) (zd rfl mr isAgg41 sizeOf41 Jf ?_)
 refine zp (.indexAddr rfl rfl (Kt _ _)) (zd rfl mr isAgg41 sizeOf41 Je ?_)
 refine zp (.indexAddr rfl rfl (Kt _ _)) (zd rfl mr isAgg41 sizeOf41 Je ?_)
 refine zp (.indexAddr rfl rfl (Kt _ _)) (zd rfl mr isAgg41 sizeOf41 Je ?_)
 refine zf [_, _, _, _, _, _, _] rfl call127 (Zw9 p _ _ d K hq (pb.1 - pa.1) (pc.1 - pa.1) pa.1 (pb.2 - pa.2) (pc.2 - pa.2) pa.2 (2 * Kp + 1) hd oo oo oo oo oo oo oo oo) ?_; rintro v32 Ψ32 ⟨ad32, c32, rfl, rfl⟩
 refine za rfl (zn (zS (za rfl (zn (zS (zd rfl mr isAgg139 sizeOf139 Zj ?_))))))
 refine zd rfl mr isAgg139 sizeOf139 Zj ?_
 refine zd rfl mr isAgg139 sizeOf139 Zj ?_
 refine zv [_, _, _] rfl call130 (Qc6 pa pb pc Kp ⟨ha1, ha2⟩ ⟨hb1, hb2⟩ ⟨hc1, hc2⟩ oo) (zm rfl (zm rfl (zw [_, _] rfl call131 (Qa2 (norm (shL p (pb.1 - pa.1) (pc.1 - pa.1) pa.1 (pb.2 - pa.2) (pc.2 - pa.2) pa.2)) _ _ 128 (KS d K (2 * Kp + 1)) 300 mu hS2.siz hS2.len oo call128 (fun t ht => Zwc (C_unit t.i t.j (by have := hS2.deg t ht; omega)) []) (fun t ht => Zvj _ _ (by have := hS2.deg t ht; omega))) (zv [_, _] rfl call18 (Jc _ _ oo oo) ?_))))
 have hl40 := Zm (twQ pa pb pc) (Zmz mu (norm (shL p (pb.1 - pa.1) (pc.1 - pa.1) pa.1 (pb.2 - pa.2) (pc.2 - pa.2) pa.2)))
 refine zt' rfl rfl Zp uu sizeOf41 rfl nb rfl ?_; intro a w h
 refine wpList_nil (wp_ret ?_)
 refine Xd h (Zk h rfl (.cell rfl mr isAgg41 sizeOf41 Zh)) ?_
 rw [Zxu]
theorem C_Seg (p : List Tm) (ad : Option Addr) (cp d K Kp : Nat) (hq : Pq d K p) (hd : d ≤ 12) (pa pb : Pt) (ha : PtK Kp pa) (hb : PtK Kp pb) (hk2 : 2 ≤ Kp) (hKp : Kp ≤ 3000) (hK : K ≤ 300000) : Gh Tryz.prog 144 [.slice ad p.length cp, encPt pa, encPt pb] [Row ad (cellsOf Qh p)] (Zr (Zr5 p pa pb)) := by
 have hKT : KT d K (2 * Kp + 1) ≤ 520000 := by
  have := Nat.mul_le_mul_right (3 * (2 * Kp + 1) + 4) hd
  unfold KT; omega
 have hKS : KS d K (2 * Kp + 1) ≤ 47400000 := by
  have := Nat.mul_le_mul (show tri (d + 1) ≤ 91 from Nat.le_trans (Zav (show d + 1 ≤ 13 by omega)) dd) hKT
  unfold KS; omega
 have hS2 := Pq.seg hq hd ha hb hk2
 obtain ⟨ha1, ha2⟩ := ha
 obtain ⟨hb1, hb2⟩ := hb
 have hl1 := Jv hb1 ha1
 have hl2 := Jv hb2 ha2
 have h0l := Vh
 refine fn_intro func144 rfl ntmps144 nb ?_
 intro S w0 a hS h
 refine gC h (zS (zx rfl fun b4 => zx rfl fun b5 => zz Ju fun b6 => zn (zS (zd rfl mr isAgg139 sizeOf139 Zj ?_))))
 refine zd rfl mr isAgg139 sizeOf139 Zj ?_
 refine zv [_, _] rfl call126 (Zgs pb pa oo oo oo oo) (zp (.build [] rfl (Zlv)) (zz Zdg fun b7 => zz Ju fun b8 => zt' rfl rfl Qg uu sizeOf139 rfl nb rfl ?_))
 refine zt' rfl rfl Zp uu sizeOf41 rfl nb rfl ?_; intro a w h
 refine gL h (zn (zS (zm rfl (zp (.indexAddr rfl rfl (Ku _ _)) (zd rfl mr isAgg41 sizeOf41 Jf ?_)))))
 refine zd rfl mr isAgg41 sizeOf41 Zh ?_
 refine zp (.indexAddr rfl rfl (Ku _ _)) (zd rfl mr isAgg41 sizeOf41 Jf ?_)
 refine zp (.indexAddr rfl rfl (Kt _ _)) (zd rfl mr isAgg41 sizeOf41 Je ?_)
 refine zd rfl mr isAgg41 sizeOf41 Zh ?_
 refine zp (.indexAddr rfl rfl (Kt _ _)) (zd rfl mr isAgg41 sizeOf41 Je ?_)
 refine zf [_, _, _, _, _, _, _] rfl call127 (Zw9 p _ _ d K hq (pb.1 - pa.1) 0 pa.1 (pb.2 - pa.2) 0 pa.2 (2 * Kp + 1) hd oo oo oo oo oo oo oo oo) ?_; rintro v26 Ψ26 ⟨ad26, c26, rfl, rfl⟩
 refine za rfl (zn (zS (za rfl (zn (zS (zm rfl (zm rfl (zw [_, _] rfl call131 (Qa2 (norm (shL p (pb.1 - pa.1) 0 pa.1 (pb.2 - pa.2) 0 pa.2)) _ _ 172 (KS d K (2 * Kp + 1)) 4 lam hS2.siz hS2.len oo call172 (fun t ht => Zwc (C_way t.i t.j (by have := hS2.deg t ht; omega)) []) (fun t ht => Zqs _ _ (by have := hS2.deg t ht; omega))) (zt' rfl rfl Zp uu sizeOf41 rfl nb rfl ?_))))))))); intro a w h
 refine wpList_nil (wp_ret ?_)
 refine Xd h (Zk h rfl (.cell rfl mr isAgg41 sizeOf41 Zh)) ?_
 rw [Zpz]
theorem tri91 {d : Nat} (hd : d ≤ 12) : tri (d + 1) ≤ 91 := Nat.le_trans (Zav (show d + 1 ≤ 13 by omega)) dd
theorem KT_cap {d K Kp : Nat} (hd : d ≤ 12) (hKp : Kp ≤ 3000) (hK : K ≤ 300000) : KT d K (2 * Kp + 1) ≤ 520000 := by
 have := Nat.mul_le_mul_right (3 * (2 * Kp + 1) + 4) hd
 unfold KT; omega
theorem KS_cap {d K Kp : Nat} (hd : d ≤ 12) (hKp : Kp ≤ 3000) (hK : K ≤ 300000) : KS d K (2 * Kp + 1) ≤ 47400000 := by
 have := Nat.mul_le_mul (tri91 hd) (KT_cap hd hKp hK)
 unfold KS; omega
theorem Qax {d K Kp : Nat} (hd : d ≤ 12) (hKp : Kp ≤ 3000) (hK : K ≤ 300000) : SG d K Kp ≤ 4400000000 := by
 have := Nat.mul_le_mul (tri91 hd) (show KS d K (2 * Kp + 1) + 5 ≤ 47400005 by have := KS_cap hd hKp hK; omega)
 unfold SG; omega
theorem Qa8 (p q : List Tm) (ad ad2 : Option Addr) (cp cq d d2 K K2 Kp : Nat) (hq : Pq d K p) (hq2 : Pq d2 K2 q) (hd : d ≤ 12) (hd2 : d2 ≤ 12) (pa pb : Pt) (ha : PtK Kp pa) (hb : PtK Kp pb) (hk2 : 2 ≤ Kp) (hKp : Kp ≤ 3000) (hK : K ≤ 300000) (hK2 : K2 ≤ 300000) : Gh Tryz.prog 95 [.slice ad p.length cp, .slice ad2 q.length cq, encPt pa, encPt pb] [Row ad (cellsOf Qh p), Row ad2 (cellsOf Qh q)] (Zr (Zaq p q pa pb)) := by
 have hs1 := Zqq hq hd ha hb hk2
 have hs2 := Zqq hq2 hd2 ha hb hk2
 have hc1 := Qax hd hKp hK
 have hc2 := Qax hd2 hKp hK2
 obtain ⟨ha1, ha2⟩ := ha
 obtain ⟨hb1, hb2⟩ := hb
 have hl1 := Jv hb1 ha1
 have hl2 := Jv hb2 ha2
 refine fn_intro func95 rfl ntmps95 nb ?_
 intro S w0 a hS h
 refine gC h (zS (zx rfl fun b6 => zx rfl fun b7 => zz Ju fun b8 => zn (zS (zd rfl mr isAgg139 sizeOf139 Zj ?_))))
 refine zd rfl mr isAgg139 sizeOf139 Zj ?_
 refine zv [_, _] rfl call126 (Zgs pb pa oo oo oo oo) (zz Zdg fun b9 => zt' rfl rfl Qg uu sizeOf139 rfl nb rfl ?_)
 refine zn (zs (yD Za [0, 1, 2, 3, 4, 7, 8, 9, 10, 11, 5, 6, 12, 13, 14, 15] (Zd kk) (yp rfl (.indexAddr rfl rfl (Kt _ _)) (yd rfl rfl mr isAgg41 sizeOf41 Je ?_))))
 refine ym rfl rfl (yd rfl rfl mr isAgg139 sizeOf139 Zj ?_)
 refine yd rfl rfl mr isAgg139 sizeOf139 Zj ?_
 refine yp rfl (.indexAddr rfl rfl (Ku _ _)) (yd rfl rfl mr isAgg41 sizeOf41 Jf ?_)
 refine ym rfl rfl (yd rfl rfl mr isAgg139 sizeOf139 Zj ?_)
 refine yd rfl rfl mr isAgg139 sizeOf139 Zj ?_
 refine yw [_, _, _] rfl rfl call144 (C_Seg p _ _ d K Kp hq hd pa pb ⟨ha1, ha2⟩ ⟨hb1, hb2⟩ hk2 hKp hK) (yv [_, _] rfl rfl call18 (Jc _ _ oo oo) ?_)
 have hl19 := Zm (pb.2 - pa.2) (Zr5 p pa pb)
 refine yw [_, _, _] rfl rfl call144 (C_Seg q _ _ d2 K2 Kp hq2 hd2 pa pb ⟨ha1, ha2⟩ ⟨hb1, hb2⟩ hk2 hKp hK2) (yv [_, _] rfl rfl call18 (Jc _ _ oo oo) ?_)
 have hl26 := Zm (pb.1 - pa.1) (Zr5 q pa pb)
 refine yv [_, _] rfl rfl call137 (Zjm _ _ oo oo) ?_
 have hl27 := Zae ((pb.2 - pa.2) * (Zr5 p pa pb)) ((pb.1 - pa.1) * (Zr5 q pa pb))
 refine yt rfl rfl rfl Zp uu sizeOf41 rfl nb rfl ?_
 refine yn (zt ?_); intro a w h
 refine Xd h (Zk h rfl (.cell rfl mr isAgg41 sizeOf41 Zh)) ?_
 rfl
end
section
def fanG (p : List Tm) (l : List Pt) : Nat → Rat
 | 0 => 0
 | k + 1 => fanG p l k + Zaw p (l.getD 0 (0, 0)) (l.getD (k + 1) (0, 0)) (l.getD (k + 2) (0, 0))
def pwN (x : Rat) : Nat → List Rat
 | 0 => (List.replicate 13 (0 : Rat)).set 0 ((1 : Int) : Rat)
 | i + 1 => (pwN x i).set (i + 1) ((pwN x i).getD i 0 * x)
def PWf (x y : Rat) : Nat → Nat → Rat := fun i j => (pwN x 12).getD i 0 * (pwN y 12).getD j 0
end
section
theorem sub_self (a : List Tm) : norm (a ++ Ja (-1) a) = [] := by
 rw [Ga (m := []) (fun φ => by rw [Gv, Za6, Zox]; grind)]; exact Zk8
end
section
def cfT : List Tm → Int → Int → Rat
 | [], _, _ => 0
 | t :: l, i, j => if ((t.i : Nat) : Int) = i ∧ ((t.j : Nat) : Int) = j then t.c else cfT l i j
structure Tz where
 i : Int
 j : Int
 c : Rat
abbrev Tz0 : Tz := ⟨0, 0, 0⟩
abbrev encTz (t : Tz) : Value := .agg #[.int .i64 t.i, .int .i64 t.j, .int .u64 (Kv t.c.num.natAbs), .string (Yx t.c.num.natAbs), .bool (decide (t.c.num < 0)), .int .u64 (Kv (t.c.den - 1)), .string (Yx (t.c.den - 1))]
def mayZ (t : Tz) : Int := if t.i < 0 ∨ t.j < 0 then 1 else if t.i > 12 ∨ t.j > 12 - t.i then 9 else 0
def firstZ : List Tz → Int
 | [] => 0
 | t :: l => if mayZ t = 0 then firstZ l else mayZ t
end
end Go.Proofs.YthcjdeklpegceaaGreatDoor
