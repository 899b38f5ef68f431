/- Walks of functions. By an AI agent. -/
import Derived.Test.YtddhlkfpdjmplaaGreatDoorPolysort
set_option linter.unusedVariables false
set_option linter.unusedSimpArgs false
set_option maxRecDepth 4000
namespace Go.Proofs.YtddhlkfpdjmplaaGreatDoor
open Go Go.Proofs Go.Fx Tryz
attribute [local irreducible] Oper.wp Code.wp wpList Fx.Head wpOp
section
theorem Zbz (x : Int) (w : World) : (Go.convert 3 101 (.int .i64 x)).run Tryz.prog w = .ok (.int .u64 (IntKind.u64.wrap x)) w := by
 simp [go_sem]
theorem Zxv (x : Int) (h0 : IntKind.u64.wrap x = x) (w : World) : (Go.convert 3 101 (.int .i64 x)).run Tryz.prog w = .ok (.int .u64 x) w := by
 rw [Zbz, h0]
theorem Zy5 : Yi Tryz.prog 190 [.slice none 0 0, .func (.func 143) #[] #[]] (.int .i64 (-1)) := by
 refine fn_intro func190 rfl ntmps190 nb ?_
 intro S w0 a hS h
 refine gC h (zS (za rfl (zn (zs (zS (zm rfl (zp (Pure1.cast (v' := .int .i64 0) (.builtin [_] rfl (Jc _ _ _)) (by rfl)) (zm rfl (zn (zb ?_)))))))))); clear h; intro a w h
 refine Zg (fun (u : Unit) a w => St 19 S w0 [(0, .slice none 0 0), (1, .func (.func 143) #[] #[]), (7, .int .i64 0), (8, .int .i64 0)] [] [] a w) (fun u => 0) (()) (by exact h.sub sA) ?_; clear h
 rintro u a w h
 refine gC h (zS (zp (.lss rfl rfl) (zn (zs ?_)))); clear h; intro a w h
 refine Zc h rfl (fun hc9 => (absurd (of_decide_eq_true hc9) dd)) (fun hc9 => ?_)
 refine gC h (ze (zS (za rfl (zn (zt ?_))))); clear h; intro a w h
 exact Zao h
theorem Zy7 : Yi Tryz.prog 142 [.slice none 0 0, .func (.func 143) #[] #[]] (.slice none 0 0) := by
 refine fn_intro func142 rfl ntmps142 nb ?_
 intro S w0 a hS h
 refine gC h (zS (za rfl (zn (zS (zm rfl (zm rfl (zv [_, _] rfl call190 (Zy5) (za rfl (zn (zs (zS (zm rfl (zp (.eql rfl rfl) (zn ?_)))))))))))))); clear h; intro a w h
 refine cW ?_
 refine Zc h rfl (fun hc12 => ?_) (fun hc12 => (absurd hc12 dd))
 refine gC h (zS (zm rfl (za rfl (zn (zt ?_))))); clear h; intro a w h
 exact Zao h
theorem Qbp : Yi Tryz.prog 144 [.slice none 0 0, .func (.func 90) #[] #[]] (.tuple #[]) := by
 refine fn_intro func144 rfl ntmps144 nb ?_
 intro S w0 a hS h
 refine gC h (zS (zm rfl (zp (Pure1.cast (v' := .int .i64 ((0 : Nat) : Int)) (.builtin [_] rfl (Jc _ _ _)) (by rfl)) (za rfl (zn (zr (zm rfl (zm rfl (zm rfl (zp (Pure1.cast (v' := .int .u64 ((0 : Nat) : Int)) (.convert rfl (Zbz _)) (by rfl)) (zv [_] rfl call192 (Zoi 0 dd) (zm rfl (zv [_, _, _, _, _] rfl call191 (C_pdq0 none 0 (Lib.bitLen 0) (.func (.func 90) #[] #[])) (zn ?_)))))))))))))); clear h; intro a w h
 exact end_of (Ψ := []) h (Zee rfl) ⟨rfl, rfl⟩ (fun _ hR => nomatch hR)
theorem Qfg (b c : Nat) (p : List Tm) (R : List Value) (σ : List (Nat × Obj)) (Φ : List Qh) (hd : dif p) (hp : ∀ t ∈ p, t.i + t.j ≤ 12) (hn : p.length ≤ 1000000) :
  Zmj Tryz.prog 144 [.slice (some ⟨b, 0, none⟩) p.length c, .func (.func 90) #[] #[]] ((b, .cells (cellsOf Qn p ++ R).toArray 117 (0, 0)) :: σ) Φ
   (fun v σ' Φ' => v = .tuple #[] ∧ σ' = (b, .cells (cellsOf Qn (p.mergeSort fun s t => !ltT t s) ++ R).toArray 117 (0, 0)) :: σ ∧ Φ' = Φ) := by
 refine fn_introM func144 rfl ntmps144 nb ?_
 intro S w0 a w hS h
 refine gC h (zS (zm rfl (zp (.builtin [_] rfl (Jc _ _ _)) (za rfl (zn (zr (zm rfl (zm rfl (zm rfl (zp (.convert rfl (Zxv _ (wrap_u64 _ oo oo))) (zv [_] rfl call192 (Zoi p.length oo) (zm rfl ?_)))))))))))); clear h; intro a w h
 refine Zh (Zat h hS (vs := [_, _, _, _, _]) rfl call191 (C_pdqT b c p R (Lib.bitLen p.length) (Nat.lt_of_le_of_lt (Lib.bitLen_le p.length 62 oo oo) oo) hd hp hn σ Φ) (List.Perm.refl _) ss ss ?_); clear h; rintro v13 σ13 Ψ13 a w ⟨rfl, rfl, hΦ13⟩ h
 refine wpList_nil ?_
 refine Qa0 h (Zee rfl) ⟨rfl, rfl, hΦ13⟩ (List.Sublist.refl _) (fun _ h => h)
theorem Qbw {v : Value} (p : List Tm) (o : List (Nat × Obj)) (hG : GrowO 7 117 v p.length (cellsOf Qn p) o) (hn : p.length ≤ 1000000) (σ : List (Nat × Obj)) (Φ : List Qh) :
  Zmj Tryz.prog 142 [v, .func (.func 143) #[] #[]] (o ++ σ) Φ
   (fun v' σ' Φ' => Φ' = Φ ∧ ∃ o', GrowO 7 117 v' (p.filter (fun t => decide (t.c ≠ 0))).length (cellsOf Qn (p.filter (fun t => decide (t.c ≠ 0)))) o' ∧ σ' = o' ++ σ) := by
 obtain ⟨hlen, ⟨rfl, h0, rfl⟩ | ⟨b, c, R, rfl, h2, h3, rfl⟩⟩ := hG
 ·
  have hp : p = [] := List.eq_nil_of_length_eq_zero h0
  subst hp
  intro S w0 w hS hm
  refine (Qcd Zy7 σ Φ S w0 w hS hm).mono ?_
  rintro e w' ⟨u, σ', Ψ, he, ⟨h1, h2, h3⟩, hm'⟩
  exact ⟨u, σ', Ψ, he, ⟨h3, [], by rw [h1]; exact GrowO.nil _ _, by rw [h2]; rfl⟩, hm'⟩
 ·
  intro S w0 w hS hm
  refine (Zy6 b c p R σ Φ hn h3 S w0 w hS hm).mono ?_
  rintro e w' ⟨u, σ', Ψ, he, ⟨h1, h4, R', h5, h6⟩, hm'⟩
  refine ⟨u, σ', Ψ, he, ⟨h4, [(b, _)], ?_, h6⟩, hm'⟩
  rw [h1]
  exact GrowO.close (cellsOf_length Xt _) (h5.trans h2) (Nat.le_trans (List.length_filter_le _ _) h3)
theorem C_Sort {v : Value} (p : List Tm) (o : List (Nat × Obj)) (hG : GrowO 7 117 v p.length (cellsOf Qn p) o) (hd : dif p) (hp : ∀ t ∈ p, t.i + t.j ≤ 12) (hn : p.length ≤ 1000000) (σ : List (Nat × Obj)) (Φ : List Qh) :
  Zmj Tryz.prog 144 [v, .func (.func 90) #[] #[]] (o ++ σ) Φ
   (fun v' σ' Φ' => Φ' = Φ ∧ v' = .tuple #[] ∧ ∃ o', GrowO 7 117 v p.length (cellsOf Qn (p.mergeSort fun s t => !ltT t s)) o' ∧ σ' = o' ++ σ) := by
 obtain ⟨hlen, ⟨rfl, h0, rfl⟩ | ⟨b, c, R, rfl, h2, h3, rfl⟩⟩ := hG
 ·
  have hp : p = [] := List.eq_nil_of_length_eq_zero h0
  subst hp
  intro S w0 w hS hm
  refine (Qcd Qbp σ Φ S w0 w hS hm).mono ?_
  rintro e w' ⟨u, σ', Ψ, he, ⟨h1, h2, h3⟩, hm'⟩
  exact ⟨u, σ', Ψ, he, ⟨h3, h1, [], by rw [List.mergeSort_nil]; exact GrowO.nil _ _, by rw [h2]; rfl⟩, hm'⟩
 ·
  intro S w0 w hS hm
  refine (Qfg b c p R σ Φ hd hp hn S w0 w hS hm).mono ?_
  rintro e w' ⟨u, σ', Ψ, he, ⟨h1, h4, h5⟩, hm'⟩
  refine ⟨u, σ', Ψ, he, ⟨h5, h1, [(b, _)], ?_, h4⟩, hm'⟩
  have hl : (p.mergeSort fun s t => !ltT t s).length = p.length := (List.mergeSort_perm _ _).length_eq
  refine GrowO.close (by rw [cellsOf_length Xt, hl]) ?_ h3
  rw [List.length_append, cellsOf_length Xt, hl] at *
  exact h2
abbrev Zuy (i j : Nat) : Value := .agg #[.int .i64 ((i : Nat) : Int), .int .i64 ((j : Nat) : Int)]
def pK (i j : Nat) (e : MapEntry) : Bool := match e.key with
 | .agg cs => (match cs.toList with | [.int _ a, .int _ b] => decide ((i : Int) = a ∧ (j : Int) = b) | _ => false)
 | _ => false
def esL : List Tm → Nat → List MapEntry
 | [], _ => []
 | t :: p, k => ⟨Zuy t.i t.j, .int .i64 ((k : Nat) : Int), k⟩ :: esL p (k + 1)
theorem Zsm (t : Tm) : ∀ (p : List Tm) (k : Nat), esL (p ++ [t]) k = esL p k ++ [⟨Zuy t.i t.j, .int .i64 ((k + p.length : Nat) : Int), k + p.length⟩]
 | [], k => rfl
 | s :: p, k => by
  have := Zsm t p (k + 1)
  rw [List.cons_append, esL, this, esL, List.length_cons, show k + 1 + p.length = k + (p.length + 1) by omega]; rfl
theorem Zxq : ∀ (p : List Tm) (k : Nat) (e : MapEntry), e ∈ esL p k → ∃ t ∈ p, e.key = Zuy t.i t.j
 | [], _, _, h => nomatch h
 | t :: p, k, e, h => by
  rcases List.mem_cons.1 h with rfl | h
  · exact ⟨t, List.mem_cons_self, rfl⟩
  ·
   obtain ⟨s, hs, h2⟩ := Zxq p (k + 1) e h
   exact ⟨s, List.mem_cons_of_mem _ hs, h2⟩
def fP (i j : Nat) : List Tm → Bool
 | [] => false
 | s :: p => if s.i = i ∧ s.j = j then true else fP i j p
def kP (i j : Nat) : List Tm → Nat
 | [] => 0
 | s :: p => if s.i = i ∧ s.j = j then 0 else kP i j p + 1
theorem Qb5 (i j a b : Nat) (e : MapEntry) (h : e.key = Zuy a b) : pK i j e = decide (a = i ∧ b = j) := by
 unfold pK; rw [h]; simp only; congr 1; apply propext; omega
theorem Zi7 (i j : Nat) : ∀ (p : List Tm) (k m : Nat), Zlq (pK i j) (esL p k) m = if fP i j p then some (m + kP i j p, .int .i64 ((k + kP i j p : Nat) : Int)) else none
 | [], _, _ => rfl
 | t :: p, k, m => by
  rw [esL, Zlq, Qb5 i j t.i t.j _ rfl, Zi7 i j p (k + 1) (m + 1), fP, kP]
  by_cases h : t.i = i ∧ t.j = j
  · rw [decide_eq_true h, if_pos rfl, if_pos h, if_pos h, if_pos rfl]; rfl
  ·
   rw [decide_eq_false h, if_neg Bool.false_ne_true, if_neg h, if_neg h]
   rcases hf : fP i j p with _ | _
   · rfl
   · rw [if_pos rfl, if_pos rfl, show m + 1 + kP i j p = m + (kP i j p + 1) by omega, show k + 1 + kP i j p = k + (kP i j p + 1) by omega]
theorem Zsc (t : Tm) : ∀ p : List Tm, fP t.i t.j p = true → kP t.i t.j p < p.length ∧ Zdi t p = p.set (kP t.i t.j p) ⟨(p.getD (kP t.i t.j p) T0).i, (p.getD (kP t.i t.j p) T0).j, (p.getD (kP t.i t.j p) T0).c + t.c⟩
 | [], h => by simp [fP] at h
 | s :: p, h => by
  rw [Zdi, kP]
  by_cases hs : same s t
  · rw [if_pos hs, if_pos (show s.i = t.i ∧ s.j = t.j from hs)]; exact ⟨by simp, rfl⟩
  ·
   rw [if_neg hs, if_neg (show ¬ (s.i = t.i ∧ s.j = t.j) from hs)]
   have h1 : fP t.i t.j p = true := by
    rw [fP, if_neg (show ¬ (s.i = t.i ∧ s.j = t.j) from hs)] at h; exact h
   obtain ⟨h2, h3⟩ := Zsc t p h1
   refine ⟨by simp; omega, ?_⟩
   rw [h3]; rfl
theorem Qaq (t : Tm) : ∀ p : List Tm, fP t.i t.j p = false → Zdi t p = (p ++ [(⟨t.i, t.j, 0⟩ : Tm)]).set p.length ⟨((p ++ [(⟨t.i, t.j, 0⟩ : Tm)]).getD p.length T0).i, ((p ++ [(⟨t.i, t.j, 0⟩ : Tm)]).getD p.length T0).j, ((p ++ [(⟨t.i, t.j, 0⟩ : Tm)]).getD p.length T0).c + t.c⟩ := by
 intro p h
 have e : (p ++ [(⟨t.i, t.j, 0⟩ : Tm)]).getD p.length T0 = ⟨t.i, t.j, 0⟩ := by simp [List.getD]
 rw [e]
 induction p with
 | nil => rfl
 | cons s p ih =>
  rw [fP] at h
  split at h
  · cases h
  ·
   rename_i hs
   rw [Zdi, if_neg (show ¬ same s t from hs), ih h (by simp [List.getD])]; rfl
theorem eqKey (i j a b : Nat) (w : World) : (Op.equal 187 (Zuy i j) (Zuy a b)).run Tryz.prog w = .ok (decide (a = i ∧ b = j)) w := by
 unfold Op.equal
 rw [show Op.maxDepth = 9999 + 1 from rfl, Op.equalIn]
 simp [go_sem]
 have e1 : ((i : Int) = (a : Int)) ↔ a = i := oo
 have e2 : ((j : Int) = (b : Int)) ↔ b = j := oo
 by_cases h1 : a = i <;> by_cases h2 : b = j <;> simp only [e1, e2, h1, h2, if_true, if_false, decide_true, decide_false, Bool.and_true, Bool.and_false, Bool.false_and]
theorem ckInt (e : Bool) (n : Nat) (x : Int) (w : World) : (Instr.checkKey e (n + 1) 3 (.int .i64 x)).run Tryz.prog w = .ok () w := by
 rw [Instr.checkKey]; simp [go_sem]
theorem ckKey (e : Bool) (i j : Nat) (w : World) : (Instr.checkKey e 10000 187 (Zuy i j)).run Tryz.prog w = .ok () w := by
 rw [show (10000 : Nat) = 9999 + 1 from rfl, Instr.checkKey]
 have h1 := ckInt e 9998 (i : Int)
 have h2 := ckInt e 9998 (j : Int)
 simp [go_sem, h1, h2]
end
section
theorem Zhd (a : Option Addr) (n c : Nat) (w : World) (ty : TypeId) (cs : Array Bool) : (Go.builtin .len #[46] ty cs #[.slice a n c]).run Tryz.prog w = .ok (.value (.int .i64 n)) w := by
 simp [go_sem]
theorem ix_46 (b off n c j : Nat) (h : j < n) (w : World) : (Instr.indexAt 46 (.slice (some ⟨b, off, none⟩) n c) (.int .i64 (j : Int))).run Tryz.prog w = .ok (.pointer (some ⟨b, off + j * 7, none⟩)) w := by
 simpa using Xe runUnderlying46 sizeOf117 b off n c j h w
theorem Zkp (x0 : Int) (x1 : Int) (w : World) : (Instr.build 187 [(0, .int .i64 x0), (1, .int .i64 x1)].toArray).run Tryz.prog w = .ok (.agg #[.int .i64 x0, .int .i64 x1]) w := by simp [go_sem]
theorem Zuw (x0 : Int) (x1 : Int) (w : World) : (Instr.build 117 [(0, .int .i64 x0), (1, .int .i64 x1)].toArray).run Tryz.prog w = .ok (.agg #[.int .i64 x0, .int .i64 x1, .int .u64 0, .string ⟨#[]⟩, .bool false, .int .u64 0, .string ⟨#[]⟩]) w := by simp [go_sem]
theorem Zf9 (x0_0 : Value) (x0_1 : Value) (x0_2 : Value) (x0_3 : Value) (x0_4 : Value) (x0_5 : Value) (x0_6 : Value) (w : World) : (Instr.buildSlice 47 1 [(0, .agg #[x0_0, x0_1, x0_2, x0_3, x0_4, x0_5, x0_6])].toArray).run Tryz.prog w = .ok (.slice (some ⟨w.heap.size, 0, none⟩) 1 1) (w.alloc (.cells #[x0_0, x0_1, x0_2, x0_3, x0_4, x0_5, x0_6] 117 (0, 0))) := by
 simp [go_sem]
theorem opEs (i j : Nat) (p : List Tm) : ∀ e ∈ (esL p 0).toArray.toList, ∀ w, (Op.equal 187 (Zuy i j) e.key).run Tryz.prog w = .ok (pK i j e) w := by
 intro e he w
 obtain ⟨t, _, h2⟩ := Zxq p 0 e he
 rw [h2, eqKey, Qb5 i j t.i t.j e h2]
theorem run_lk (i j b : Nat) (p : List Tm) (w : World) (hb : w.heap[b]? = some (.map (esL p 0).toArray p.length)) :
  (Instr.lookup 184 (.map (some b)) (Zuy i j) true).run Tryz.prog w = .ok (.tuple #[.int .i64 ((if fP i j p = true then kP i j p else 0 : Nat) : Int), .bool (fP i j p)]) w := by
 have h := Zo6 (P := Tryz.prog) (key := Zuy i j) runUnderlying184 runUnderlying187 (fun e w => ckKey e i j w) (fun w => zeroValue3 w) (opEs i j p) w hb
 rw [h]
 have e := Zi7 i j p 0 0
 rw [show (esL p 0).toArray.toList = esL p 0 from rfl, e]
 rcases hf : fP i j p with _ | _
 · rfl
 · rw [if_pos rfl, if_pos rfl, Nat.zero_add]
theorem run_mu (i j b : Nat) (p : List Tm) (hf : fP i j p = false) (w : World) (hb : w.heap[b]? = some (.map (esL p 0).toArray p.length)) :
  (Instr.mapUpdate 184 (.map (some b)) (Zuy i j) (.int .i64 ((p.length : Nat) : Int))).run Tryz.prog w = .ok () { w with heap := w.heap.setIfInBounds b (.map (esL (p ++ [⟨i, j, 0⟩]) 0).toArray (p ++ [(⟨i, j, 0⟩ : Tm)]).length) } := by
 have h := Zhl (P := Tryz.prog) (key := Zuy i j) (val := .int .i64 ((p.length : Nat) : Int)) runUnderlying184 runUnderlying187 (fun e w => ckKey e i j w) (opEs i j p) (by
  rw [show (esL p 0).toArray.toList = esL p 0 from rfl, Zi7, hf]; rfl) w hb
 rw [h]
 have e := Zsm ⟨i, j, 0⟩ p 0
 simp only [Nat.zero_add] at e
 rw [e, List.length_append, List.length_singleton]
 congr 3
 simp
theorem Zp2 : ∀ (p : List Tm) (m k : Nat) (c : Rat), m < p.length → esL (p.set m ⟨(p.getD m T0).i, (p.getD m T0).j, c⟩) k = esL p k
 | [], m, _, _, h => absurd h (Nat.not_lt_zero _)
 | t :: p, 0, k, c, _ => rfl
 | t :: p, m + 1, k, c, h => by
  have ih := Zp2 p m (k + 1) c (by simpa using h)
  rw [List.set_cons_succ, esL, esL]
  congr 1
theorem Zgv (t : Tm) : (Qn t).cells.toList = [.int .i64 ((t.i : Nat) : Int), .int .i64 ((t.j : Nat) : Int)] ++ (Jf t.c).cells.toList ++ [] := rfl
theorem rdC (q : List Tm) (R : List Value) (k : Nat) (h : k < q.length) : Qo true 5 (cellsOf Qn q ++ R).toArray (0 + k * 7 + 2) = some (Jf (q.getD k T0).c) := by
 have hg : q.getD k T0 = q[k] := by simp [List.getD, h]
 rw [hg, Zf8 q k h, Zgv, Nat.zero_add, ← Zac Xt q k h, List.append_assoc]
 exact Zv2 _ [_, _] [] (Jf q[k].c).cells.toList _ 5 rfl
theorem stC (q : List Tm) (R : List Value) (k : Nat) (h : k < q.length) (x : Rat) :
  Qu (cellsOf Qn q ++ R).toArray (0 + k * 7 + 2) (Jf x).cells.toList = (cellsOf Qn (q.set k ⟨(q.getD k T0).i, (q.getD k T0).j, x⟩) ++ R).toArray := by
 have hg : q.getD k T0 = q[k] := by simp [List.getD, h]
 rw [hg, Zf8 q k h, Zhh q k h, Zgv, Zgv, Nat.zero_add, ← Zac Xt q k h, List.append_assoc, List.append_assoc _ _ R]
 exact Zzq _ [_, _] [] (Jf q[k].c).cells.toList (Jf x).cells.toList _ rfl
theorem Qbz (q : List Tm) (R : List Value) (k : Nat) (h : k < q.length) : 0 + k * 7 + 2 + 5 ≤ (cellsOf Qn q ++ R).toArray.size := by
 have := Zn2 (enc := Qn) Xt q R k h; omega
theorem Zn1 {q q' : List Tm} {R : List Value} {c : Nat} (h : (cellsOf Qn q ++ R).length = c * 7) (hl : q'.length = q.length) : (cellsOf Qn q' ++ R).length = c * 7 := by
 rw [List.length_append, cellsOf_length Xt] at *; rw [hl]; exact h
theorem Znz (l : List Tm) (i : Nat) (h : i < l.length) : collect (l.take (i + 1)) = Zdi (l.getD i T0) (collect (l.take i)) := by
 unfold collect
 rw [List.take_add_one, List.getElem?_eq_getElem h, List.foldl_append]
 simp [List.getD, h]
theorem Zgu {K n : Nat} {l : List Tm} (hK : KL K l) (hs : l.length * (K + 1) ≤ n) (i : Nat) : ∀ u ∈ collect (l.take i), Qa u.c ≤ n := fun u hu => by
 have h1 := Zn0 (l := l.take i) (fun t ht => hK t (List.mem_of_mem_take ht)) u hu
 have h2 := Zx0 u.i u.j (l.take i)
 rw [List.length_take] at h2
 exact Nat.le_trans h1 (Nat.le_trans (Nat.mul_le_mul_right _ (Nat.le_trans h2 (Nat.min_le_right _ _))) hs)
theorem Zwy {K n : Nat} {l : List Tm} (hK : KL K l) (hs : l.length * (K + 1) ≤ n) {i : Nat} (hi : i < l.length) : Qa (l.getD i T0).c ≤ n := by
 have h1 := hK _ (getD_mem l (d := T0) hi)
 have h2 := Nat.mul_le_mul_right (K + 1) (show 1 ≤ l.length by omega)
 omega
theorem Qab (l : List Tm) : (norm l).length = ((collect l).filter (fun t => decide (t.c ≠ 0))).length := (List.mergeSort_perm _ _).length_eq
theorem Zqa {l : List Tm} {d : Nat} (h : DL d l) : ∀ t ∈ (collect l).filter (fun t => decide (t.c ≠ 0)), t.i + t.j ≤ d := fun t ht => by
 obtain ⟨s, hs, h1, h2⟩ := Zfa (List.mem_filter.1 ht).1
 rw [h1, h2]; exact h s hs
theorem Gw (l : List Tm) (ad : Option Addr) (c K : Nat) (hd : DL 12 l) (hK : KL K l) (hs : l.length * (K + 1) ≤ 50000000000) (hn : l.length ≤ 100000) :
  Zkr Tryz.prog 81 [.slice ad l.length c] [Row ad (cellsOf Qn l)] (fun v o => ∃ ad' c', v = .slice ad' (norm l).length c' ∧ GrowO 7 117 v (norm l).length (cellsOf Qn (norm l)) o) := by
 refine fn_introO func81 rfl ntmps81 nb ?_
 intro S w0 a hS h
 refine gC h (zS (za rfl (zn (zS ?_)))); clear h; intro a w h
 refine Zh (Ztz h dd ?_); clear h; intro b8 a w h
 refine gL h (za rfl (zn (zs (zS (zm rfl (zp (.builtin [_] rfl (Zhd _ _ _)) (zm rfl (zn (zb ?_))))))))); clear h; intro a w h
 refine Zg (fun (i : Nat) a w => i ≤ l.length ∧ ∃ (ad1 : Option Addr) (c1 : Nat) (o1 : List (Nat × Obj)), (GrowO 7 117 (.slice ad1 (collect (l.take i)).length c1) (collect (l.take i)).length (cellsOf Qn (collect (l.take i))) o1) ∧ St 62 S w0 [(2, (.slice ad1 (collect (l.take i)).length c1)), (3, .map (some b8)), (9, .slice ad l.length c), (10, nI l.length), (11, nI i)] (o1 ++ ((b8, Obj.map ((esL (collect (l.take i)) 0).toArray) ((collect (l.take i)).length)) :: [])) [Row ad (cellsOf Qn l)] a w) (fun i => l.length - i) 0 (⟨Nat.zero_le _, none, 0, [], GrowO.nil _ _, by exact (h).sub sA⟩) ?_; clear h
 rintro i a w ⟨hi_i, ad1, c1, o1, hG1, h⟩
 refine gC h (zS (zp (.lss rfl rfl) (zn (zs ?_)))); clear h; intro a w h
 refine Zc h rfl (fun hc12 => ?_) (fun hc12 => ?_)
 ·
  skip
  have hlt_i : i < l.length := dT hc12
  obtain ⟨B_ad, O_ad, rfl⟩ := h.row_addr (ad := ad) (M := cellsOf Qn l) mm (nE 7)
  have hcl := Zfb (l.take i)
  have hsz := Zgu hK hs i
  have hstep := Znz l i hlt_i
  have hel := Zwy hK hs hlt_i
  refine gC h (zk (zs (zb (zS (zp (.indexAddr rfl rfl (ix_46 _ _ _ _ _ oo)) (zD rfl mm (cells_lt (k := 7) dd (fun _ => rfl) l i oo) isAgg117 sizeOf117 (Qb (k := 7) (fun _ => rfl) ((fun _ => rfl)) l T0 i oo) (.inl rfl) ?_))))))
  refine zz Zcr fun b5 => zt' rfl rfl Ke uu sizeOf117 rfl nb rfl ?_
  refine zn (zS (zm rfl (zp (.fA rfl Yc) (zd rfl mr isAgg3 sizeOf3 Gn ?_))))
  refine zp (.fA rfl Xu) (zd rfl mr isAgg3 sizeOf3 Gb ?_)
  refine zp (.build [(_, _), (_, _)] rfl (Zkp _ _)) ?_; intro a w h
  refine Zh (Zwj h rfl rfl mm (run_lk _ _ _ _) dd ?_); clear h; intro a h
  refine gL h (zm rfl (zp (.eX rfl) (zp (.eX rfl) ?_))); clear h; intro a w h
  refine Zl h (fun hc24 h => ?_) (fun hc24 h => ?_)
  ·
   skip
   rw [if_pos hc24] at h
   obtain ⟨hk, hins⟩ := Zsc (l.getD i T0) _ hc24
   refine gL h (za rfl (za rfl (zn (zs (zS (zm rfl (zp (.unOp rfl (Yp _)) ?_))))))); clear h; intro a w h
   obtain ⟨b1, R1, rfl, rfl, hR1, hc1⟩ := hG1.open (Nat.lt_of_le_of_lt (Nat.zero_le _) hk)
   rw [List.cons_append, List.nil_append] at h
   have hz := hsz _ (getD_mem _ (d := T0) hk)
   refine wpList_nil ?_
   refine cW ?_
   refine Zk h rfl ?_
   refine gC h (zk (yD Za [0, 1, 2, 3, 4, 5, 6, 7, 8, 9, 10, 11, 12] (Zb kk) (ym rfl rfl (ym rfl rfl (ym rfl rfl (ym rfl rfl (yp rfl (.indexAddr rfl rfl (Zf0 _ _ _ _ _ oo)) (yp rfl (.fA rfl Vc) (yd rfl rfl mm isAgg44 sizeOf44 (rdC _ _ _ hk) ?_))))))))); clear h
   refine yp rfl (.fA rfl Vc) (yd rfl rfl mr isAgg44 sizeOf44 Gc ?_)
   refine yv [_, _] rfl rfl call98 (Zbl _ _ oo oo) ?_
   have hl53 := Qs (((collect (l.take i)).getD (kP (l.getD i T0).i (l.getD i T0).j (collect (l.take i))) T0).c) ((l.getD i T0).c)
   refine yp rfl (.indexAddr rfl rfl (Zf0 _ _ _ _ _ oo)) (yp rfl (.fA rfl Vc) (yt rfl rfl rfl (stC _ _ _ hk _) uu sizeOf44 rfl (Qbz _ _ _ hk) rfl ?_))
   refine yn (zr (zp (.pN (i + 1) (.add rfl rfl)) (zm rfl (zn ?_)))); intro a w h
   rw [← hins, ← hstep] at h
   have hes : esL (collect (l.take (i + 1))) 0 = esL (collect (l.take i)) 0 := by rw [hstep, hins]; exact Zp2 _ _ _ _ hk
   have hln : (collect (l.take (i + 1))).length = (collect (l.take i)).length := by rw [hstep, hins, List.length_set]
   rw [← hes, ← hln] at h
   exact ⟨i + 1, ⟨oo, some ⟨b1, 0, none⟩, c1, [(b1, _)], GrowO.close (R := R1) (cellsOf_length Xt _) (Zn1 hR1 hln) (by rw [hln]; exact hc1), by exact ((h.drop (by repeat (first | exact List.Sublist.refl _ | apply List.Sublist.cons))).factsSub (by simp)).sub sA⟩, oo⟩
  ·
   skip
   rw [if_neg (by rw [hc24]; exact Bool.false_ne_true)] at h
   have hins := Qaq (l.getD i T0) _ hc24
   have hk : (collect (l.take i)).length < (collect (l.take i) ++ [(⟨(l.getD i T0).i, (l.getD i T0).j, 0⟩ : Tm)]).length := by rw [List.length_append]; exact Nat.lt_succ_self _
   refine gL h (za rfl (za rfl (zn (zs (zS (zm rfl (zp (.unOp rfl (Yp _)) ?_))))))); clear h; intro a w h
   
   refine wpList_nil ?_
   refine cW ?_
   refine Zp h rfl ?_
   refine gC h (zS (zm rfl (zp (.builtin [_] rfl (Jc _ _ _)) (za rfl (zn (zS (zm rfl (zp (.fA rfl Yc) (zd rfl mr isAgg3 sizeOf3 Gn ?_)))))))))
   refine zp (.fA rfl Xu) (zd rfl mr isAgg3 sizeOf3 Gb ?_)
   refine zp (.build [(_, _), (_, _)] rfl (Zkp _ _)) (zm rfl ?_); intro a w h
   refine Zh (Zm3 h rfl rfl rfl uu (run_mu _ _ _ _ hc24) ?_); clear h; intro a w h
   refine gL h (zn (zr (zm rfl (zp (.fA rfl Yc) (zd rfl mr isAgg3 sizeOf3 Gn ?_)))))
   refine zp (.fA rfl Xu) (zd rfl mr isAgg3 sizeOf3 Gb ?_)
   refine zp (.build [(_, _), (_, _)] rfl (Zuw _ _)) (zB [(_, _)] rfl (Zf9 _ _ _ _ _ _ _) fun b42 => ?_); intro a w h
   refine Zh (Xr (σr := [(b5, bV (Qn (l.getD i T0)) 117), (b8, Obj.map ((esL (collect (l.take i) ++ [(⟨(l.getD i T0).i, (l.getD i T0).j, 0⟩ : Tm)]) 0).toArray) ((collect (l.take i) ++ [(⟨(l.getD i T0).i, (l.getD i T0).j, 0⟩ : Tm)]).length))]) h rfl rfl (List.Perm.trans (List.Perm.refl _) (List.Perm.cons _ (Zz5 (List.Perm.refl _)))) hG1 runUnderlying47 runUnderlying47 typeInfo117 sizeOf117 Zcr rfl dd dd rfl rfl dd (by show 72 * (2 * ((collect (l.take i)).length + 1) + 192) ≤ 281474976710656; rw [List.length_take] at hcl; omega) dd ?_); clear h
   intro v43 o43 a w hG43 h
   obtain ⟨ad43, c43, rfl⟩ := hG43.is
   have hLn43 : (collect (l.take i)).length + 1 = ((collect (l.take i)) ++ [(⟨(l.getD i T0).i, (l.getD i T0).j, 0⟩ : Tm)]).length := lA
   rw [hLn43] at h hG43
   replace hG43 : GrowO 7 117 (.slice ad43 ((collect (l.take i)) ++ [(⟨(l.getD i T0).i, (l.getD i T0).j, 0⟩ : Tm)]).length c43) ((collect (l.take i)) ++ [(⟨(l.getD i T0).i, (l.getD i T0).j, 0⟩ : Tm)]).length (cellsOf Qn ((collect (l.take i)) ++ [(⟨(l.getD i T0).i, (l.getD i T0).j, 0⟩ : Tm)])) o43 := by rw [Zw, Je]; exact hG43
   obtain ⟨b43, R43, rfl, rfl, hR43, hc43⟩ := hG43.open (Nat.lt_of_le_of_lt (Nat.zero_le _) hk)
   rw [List.cons_append, List.nil_append] at h
   have hz : Qa ((collect (l.take i) ++ [(⟨(l.getD i T0).i, (l.getD i T0).j, 0⟩ : Tm)]).getD (collect (l.take i)).length T0).c ≤ 50000000000 := by
    rw [show (collect (l.take i) ++ [(⟨(l.getD i T0).i, (l.getD i T0).j, 0⟩ : Tm)]).getD (collect (l.take i)).length T0 = (⟨(l.getD i T0).i, (l.getD i T0).j, 0⟩ : Tm) by simp [List.getD]]; exact Nat.le_trans Vf dd
   refine gL h (za rfl (zn (yD Za [0, 1, 2, 3, 4, 5, 6, 7, 8, 9, 10, 11, 12] (Zb kk) (ym rfl rfl (ym rfl rfl (ym rfl rfl (ym rfl rfl (yp rfl (.indexAddr rfl rfl (Zf0 _ _ _ _ _ oo)) (yp rfl (.fA rfl Vc) (yd rfl rfl mm isAgg44 sizeOf44 (rdC _ _ _ hk) ?_)))))))))); clear h
   refine yp rfl (.fA rfl Vc) (yd rfl rfl mr isAgg44 sizeOf44 Gc ?_)
   refine yv [_, _] rfl rfl call98 (Zbl _ _ oo oo) ?_
   have hl53 := Qs (((collect (l.take i) ++ [(⟨(l.getD i T0).i, (l.getD i T0).j, 0⟩ : Tm)]).getD ((collect (l.take i)).length) T0).c) ((l.getD i T0).c)
   refine yp rfl (.indexAddr rfl rfl (Zf0 _ _ _ _ _ oo)) (yp rfl (.fA rfl Vc) (yt rfl rfl rfl (stC _ _ _ hk _) uu sizeOf44 rfl (Qbz _ _ _ hk) rfl ?_))
   refine yn (zr (zp (.pN (i + 1) (.add rfl rfl)) (zm rfl (zn ?_)))); intro a w h
   rw [← hins, ← hstep] at h
   have hes : esL (collect (l.take (i + 1))) 0 = esL (collect (l.take i) ++ [(⟨(l.getD i T0).i, (l.getD i T0).j, 0⟩ : Tm)]) 0 := by rw [hstep, hins]; exact Zp2 _ _ _ _ hk
   have hln : (collect (l.take (i + 1))).length = (collect (l.take i) ++ [(⟨(l.getD i T0).i, (l.getD i T0).j, 0⟩ : Tm)]).length := by rw [hstep, hins, List.length_set]
   rw [← hes, ← hln] at h
   exact ⟨i + 1, ⟨oo, some ⟨b43, 0, none⟩, c43, [(b43, _)], GrowO.close (R := R43) (cellsOf_length Xt _) (Zn1 hR43 hln) (by rw [hln]; exact hc43), by exact (((h.perm (List.Perm.trans (pm_cc (List.Perm.refl _)) (List.Perm.cons _ (List.Perm.refl _))).symm).drop (by repeat (first | exact List.Sublist.refl _ | apply List.Sublist.cons))).factsSub (by simp)).sub sA⟩, oo⟩
 ·
  skip
  have heq_i : l.length = i := dF hc12
  subst heq_i
  rw [List.take_length] at h hG1
  refine gC h (ze (zS (zm rfl ?_))); clear h; intro a w h
  refine Zh (Zat h hS (vs := [_, _]) rfl call142 (Qbw (collect l) o1 hG1 (Nat.le_trans (Zfb l) oo) [(b8, _)] [Row ad (cellsOf Qn l)]) (List.Perm.refl _) ss ss ?_); clear h; rintro v58 σ58 Ψ58 a w ⟨hΦ58, o58, hG58, rfl⟩ h
  rw [hΦ58] at h
  refine gL h (za rfl (zn (zS (zm rfl ?_)))); clear h; intro a w h
  refine Zh (Zat h hS (vs := [_, _]) rfl call144 (C_Sort ((collect l).filter (fun t => decide (t.c ≠ 0))) o58 hG58 (List.Pairwise.filter _ (Zjg l)) (Zqa hd) (Nat.le_trans (List.length_filter_le _ _) (Nat.le_trans (Zfb l) oo)) [(b8, _)] [Row ad (cellsOf Qn l)]) (List.Perm.refl _) ss ss ?_); clear h; rintro v60 σ60 Ψ60 a w ⟨hΦ60, rfl, o60, hG60, rfl⟩ h
  rw [hΦ60] at h
  refine gL h (zn (zS (zm rfl (za rfl (zn (zt ?_)))))); clear h; intro a w h
  have hnl := Qab l
  rw [← hnl] at hG60
  obtain ⟨ad', c', hv⟩ := hG60.is
  refine Zq3 h (Zd h rfl (.tmp rfl)) ⟨ad', c', hv, hG60⟩ (List.sublist_append_left _ _)
end
section
theorem Zl2 (x2_0 : Value) (x2_1 : Value) (x2_2 : Value) (x2_3 : Value) (x2_4 : Value) (w : World) : (Instr.build 117 [(2, .agg #[x2_0, x2_1, x2_2, x2_3, x2_4])].toArray).run Tryz.prog w = .ok (.agg #[.int .i64 0, .int .i64 0, x2_0, x2_1, x2_2, x2_3, x2_4]) w := by simp [go_sem]
theorem Zjn (x0_0 : Value) (x0_1 : Value) (x0_2 : Value) (x0_3 : Value) (x0_4 : Value) (x0_5 : Value) (x0_6 : Value) (w : World) : (Instr.buildSlice 46 1 [(0, .agg #[x0_0, x0_1, x0_2, x0_3, x0_4, x0_5, x0_6])].toArray).run Tryz.prog w = .ok (.slice (some ⟨w.heap.size, 0, none⟩) 1 1) (w.alloc (.cells #[x0_0, x0_1, x0_2, x0_3, x0_4, x0_5, x0_6] 117 (0, 0))) := by
 simp [go_sem]
theorem Zgz (x0 : Int) (x2_0 : Value) (x2_1 : Value) (x2_2 : Value) (x2_3 : Value) (x2_4 : Value) (w : World) : (Instr.build 117 [(0, .int .i64 x0), (2, .agg #[x2_0, x2_1, x2_2, x2_3, x2_4])].toArray).run Tryz.prog w = .ok (.agg #[.int .i64 x0, .int .i64 0, x2_0, x2_1, x2_2, x2_3, x2_4]) w := by simp [go_sem]
theorem Zgy (x1 : Int) (x2_0 : Value) (x2_1 : Value) (x2_2 : Value) (x2_3 : Value) (x2_4 : Value) (w : World) : (Instr.build 117 [(1, .int .i64 x1), (2, .agg #[x2_0, x2_1, x2_2, x2_3, x2_4])].toArray).run Tryz.prog w = .ok (.agg #[.int .i64 0, .int .i64 x1, x2_0, x2_1, x2_2, x2_3, x2_4]) w := by simp [go_sem]
theorem C_pOf (l : List Tm) (ad : Option Addr) (c K : Nat) (hd : DL 12 l) (hK : KL K l) (hs : l.length * (K + 1) ≤ 50000000000) (hn : l.length ≤ 100000) : Zkr Tryz.prog 19 [.slice ad l.length c] [Row ad (cellsOf Qn l)] (fun v o => ∃ ad' c', v = .tuple #[.slice ad' (norm l).length c', .int .i64 0] ∧ GrowO 7 117 (.slice ad' (norm l).length c') (norm l).length (cellsOf Qn (norm l)) o) := by
 refine fn_introO func19 rfl ntmps19 nb ?_
 intro S w0 a hS h
 refine gC h (zS (za rfl (za rfl (zn (zs (zS (zm rfl (zp (.builtin [_] rfl (Zhd _ _ _)) (zm rfl (zn (zb ?_))))))))))); clear h; intro a w h
 refine Zg (fun (i : Nat) a w => i ≤ l.length ∧ St 21 S w0 [(0, .slice ad l.length c), (7, .slice ad l.length c), (8, nI l.length), (9, nI i)] [] [Row ad (cellsOf Qn l)] a w) (fun i => l.length - i) 0 (⟨Nat.zero_le _, by exact (h).sub sA⟩) ?_; clear h
 rintro i a w ⟨hi_i, h⟩
 refine gC h (zS (zp (.lss rfl rfl) (zn (zs ?_)))); clear h; intro a w h
 refine Zc h rfl (fun hc10 => ?_) (fun hc10 => ?_)
 ·
  skip
  have hlt_i : i < l.length := dT hc10
  obtain ⟨B_ad, O_ad, rfl⟩ := h.row_addr (ad := ad) (M := cellsOf Qn l) mm (nE 7)
  have hdt := hd _ (getD_mem l (d := T0) hlt_i)
  refine gC h (zk (zs (zb (zS (zp (.indexAddr rfl rfl (ix_46 _ _ _ _ _ oo)) (zD rfl mm (cells_lt (k := 7) dd (fun _ => rfl) l i oo) isAgg117 sizeOf117 (Qb (k := 7) (fun _ => rfl) ((fun _ => rfl)) l T0 i oo) (.inl rfl) ?_))))))
  refine zz Zcr fun b5 => zt' rfl rfl Ke uu sizeOf117 rfl nb rfl ?_
  refine zn (zS (zd rfl mr isAgg117 sizeOf117 Zc0 ?_))
  refine zv [_] rfl call80 (C_may (l.getD i T0) oo) (za rfl (zn (zS (zm rfl (zp (.neq rfl rfl) (zn ?_)))))); intro a w h
  refine cW ?_
  refine Zc h rfl (fun hc16 => (absurd hc16 dd)) (fun hc16 => ?_)
  refine gC h (zk (zr (zp (.pN (i + 1) (.add rfl rfl)) (zm rfl (zn ?_))))); clear h; intro a w h
  exact ⟨i + 1, ⟨oo, ((h.drop sl).factsSub (by simp)).sub sA⟩, oo⟩
 ·
  skip
  have heq_i : l.length = i := dF hc10
  subst heq_i
  refine gC h (ze (zS (zm rfl ?_))); clear h; intro a w h
  refine Zh (Js h (vs := [_]) rfl call81 (Gw l _ _ K hd hK hs hn) ss dd ?_); clear h; rintro v20 σ20 a w ⟨ad20, c20, rfl, hG20⟩ h
  refine gL h (za rfl (za rfl (zn (zt ?_)))); clear h; intro a w h
  refine Zq3 h (Jv h rfl (.tmp rfl) (.tmp rfl)) ⟨ad20, c20, rfl, hG20⟩ (List.sublist_append_left _ _)
theorem C_pOfF (l : List Tm) (ad : Option Addr) (c K : Nat) (hd : DL 12 l) (hK : KL K l) (hs : l.length * (K + 1) ≤ 50000000000) (hn : l.length ≤ 100000) : Ctr Tryz.prog 19 [.slice ad l.length c] [Row ad (cellsOf Qn l)] (fun v Ψ => ∃ ad' c', v = .tuple #[.slice ad' (norm l).length c', .int .i64 0] ∧ Ψ = [Row ad' (cellsOf Qn (norm l))]) := Zxx (C_pOf l ad c K hd hK hs hn)
theorem Pq.room {d K : Nat} {l : List Tm} (h : Pq d K l) (hK : K ≤ 400000000) : l.length * (K + 1) ≤ 50000000000 :=
 Nat.le_trans (Nat.mul_le_mul h.len (show K + 1 ≤ 400000001 by omega)) dd
theorem Pq.deg12 {d K : Nat} {l : List Tm} (h : Pq d K l) (hd : d ≤ 12) : DL 12 l := h.deg.mono hd
theorem Zjs (l : List Tm) (ad : Option Addr) (c d K : Nat) (hq : Pq d K l) (hd : d ≤ 12) (hK : K ≤ 400000000) : Zkr Tryz.prog 82 [.slice ad l.length c] [Row ad (cellsOf Qn l)] (fun v o => ∃ ad' c', v = .slice ad' (norm l).length c' ∧ GrowO 7 117 v (norm l).length (cellsOf Qn (norm l)) o) := by
 refine fn_introO func82 rfl ntmps82 nb ?_
 intro S w0 a hS h
 refine gC h (zS (za rfl (zn (zS (zm rfl ?_))))); clear h; intro a w h
 refine Zh (Js h (vs := [_]) rfl call19 (C_pOf l _ _ K (hq.deg12 hd) hq.siz (hq.room hK) (by have := hq.len; omega)) ss dd ?_); clear h; rintro v7 σ7 a w ⟨ad7, c7, rfl, hG7⟩ h
 refine gL h (zm rfl (zp (.eX rfl) (zp (.eX rfl) (za rfl (za rfl (zn (zS (zm rfl (za rfl (zn (zt ?_))))))))))); clear h; intro a w h
 refine Zq3 h (Zd h rfl (.tmp rfl)) ⟨ad7, c7, rfl, hG7⟩ (List.sublist_append_left _ _)
theorem Za3 (l : List Tm) (ad : Option Addr) (c d K : Nat) (h : Pq d K l) (hd : d ≤ 12) (hK : K ≤ 400000000) : Ctr Tryz.prog 82 [.slice ad l.length c] [Row ad (cellsOf Qn l)] (fun v Ψ => ∃ ad' c', v = .slice ad' (norm l).length c' ∧ Ψ = [Row ad' (cellsOf Qn (norm l))]) := Zkn (Zjs l ad c d K h hd hK)
theorem Qfs (x : Rat) (K : Nat) (hx : Qa x ≤ K) (hK : K ≤ 400000000) : Zkr Tryz.prog 44 [Jf x] [] (fun v o => ∃ ad' c', v = .slice ad' (norm [(⟨0, 0, x⟩ : Tm)]).length c' ∧ GrowO 7 117 v (norm [(⟨0, 0, x⟩ : Tm)]).length (cellsOf Qn (norm [(⟨0, 0, x⟩ : Tm)])) o) := by
 refine fn_introO func44 rfl ntmps44 nb ?_
 intro S w0 a hS h
 refine gC h (zS (zx rfl fun b1 => za rfl (zn (zS (zd rfl mr isAgg44 sizeOf44 Zf ?_)))))
 refine zp (.build [(_, _)] rfl (Zl2 _ _ _ _ _)) (zB [(_, _)] rfl (Zjn _ _ _ _ _ _ _) fun b5 => ?_); intro a w h
 replace h := h.shareAll hS (cellsOf Qn ([(⟨0, 0, x⟩ : Tm)])) rfl
 refine Zh (Js h (vs := [_]) rfl call81 (Gw [(⟨0, 0, x⟩ : Tm)] _ _ K (fun t ht => by rw [List.mem_singleton] at ht; subst ht; exact Nat.zero_le _) (fun t ht => by rw [List.mem_singleton] at ht; subst ht; exact hx) (by rw [List.length_singleton]; omega) ss) ss dd ?_); clear h; rintro v6 σ6 a w ⟨ad6, c6, rfl, hG6⟩ h
 refine gL h (za rfl (zn (zt ?_))); clear h; intro a w h
 refine Zq3 h (Zd h rfl (.tmp rfl)) ⟨ad6, c6, rfl, hG6⟩ (List.sublist_append_left _ _)
theorem Ztf (x : Rat) (K : Nat) (hx : Qa x ≤ K) (hK : K ≤ 400000000) : Ctr Tryz.prog 44 [Jf x] [] (fun v Ψ => ∃ ad' c', v = .slice ad' (norm [(⟨0, 0, x⟩ : Tm)]).length c' ∧ Ψ = [Row ad' (cellsOf Qn (norm [(⟨0, 0, x⟩ : Tm)]))]) := Zkn (Qfs x K hx hK)
theorem Zyw (p : List Tm) (ad : Option Addr) (c d K K' g : Nat) (cb : List Value) (Φf : List Qh) (G : Tm → Tm) (hq : Pq d K p) (hd : d ≤ 12) (hK : K ≤ 400000000) (hg : ∀ args w, (callFunc g args).run Tryz.prog w = .ok (.enter g args) w)
  (hf : ∀ t ∈ norm p, Zae Tryz.prog g (Qn t :: cb) Φf (Qn (G t))) (hG1 : ∀ t ∈ norm p, (G t).i + (G t).j ≤ 12) (hG2 : ∀ t ∈ norm p, Qa (G t).c ≤ K') (hK' : K' ≤ 400000000) :
  Zkr Tryz.prog 137 [.slice ad p.length c, .func (.func g) #[] cb.toArray] (Row ad (cellsOf Qn p) :: Φf) (fun v o => ∃ ad' c', v = .slice ad' (norm ((norm p).map G)).length c' ∧ GrowO 7 117 v (norm ((norm p).map G)).length (cellsOf Qn (norm ((norm p).map G))) o) := by
 have hnl : (norm p).length ≤ 91 := Nat.le_trans hq.nlen (Nat.le_trans (Kz (show d + 1 ≤ 13 by omega)) dd)
 have hDL : DL 12 ((norm p).map G) := fun u hu => by obtain ⟨t, ht, rfl⟩ := List.mem_map.1 hu; exact hG1 t ht
 have hKL : KL K' ((norm p).map G) := fun u hu => by obtain ⟨t, ht, rfl⟩ := List.mem_map.1 hu; exact hG2 t ht
 have hlm : ((norm p).map G).length ≤ 100000 := by rw [List.length_map]; omega
 have hrm : ((norm p).map G).length * (K' + 1) ≤ 50000000000 := Nat.le_trans (Nat.mul_le_mul (show ((norm p).map G).length ≤ 91 by rw [List.length_map]; exact hnl) (show K' + 1 ≤ 400000001 by omega)) dd
 refine fn_introO func137 rfl ntmps137 nb ?_
 intro S w0 a hS h
 refine gC h (zS (za rfl (zn (zS (za rfl (zn (zs (zS (zm rfl (zf [_] rfl call82 (Za3 p _ _ d K hq hd hK) ?_)))))))))); rintro v9 Ψ9 ⟨ad9, c9, rfl, rfl⟩
 refine zp (.builtin [_] rfl (Jc _ _ _)) (zm rfl (zn (zb ?_))); intro a w h
 refine Zg (fun (i : Nat) a w => i ≤ (norm p).length ∧ ∃ (ad1 : Option Addr) (c1 : Nat) (o1 : List (Nat × Obj)), (GrowO 7 117 (.slice ad1 (((norm p).take i).map G).length c1) (((norm p).take i).map G).length (cellsOf Qn (((norm p).take i).map G)) o1) ∧ St 24 S w0 [(1, .func (.func g) #[] cb.toArray), (4, .slice none 0 0), (5, (.slice ad1 (((norm p).take i).map G).length c1)), (9, .slice ad9 ((norm p).length) c9), (10, nI ((norm p).length)), (11, nI i)] (o1 ++ []) (Row ad9 (cellsOf Qn (norm p)) :: Row ad (cellsOf Qn p) :: Φf) a w) (fun i => (norm p).length - i) 0 (⟨Nat.zero_le _, none, 0, [], GrowO.nil _ _, by exact (h).sub sA⟩) ?_; clear h
 rintro i a w ⟨hi_i, ad1, c1, o1, hG1, h⟩
 refine gC h (zS (zp (.lss rfl rfl) (zn (zs ?_)))); clear h; intro a w h
 refine Zc h rfl (fun hc12 => ?_) (fun hc12 => ?_)
 ·
  skip
  have hlt_i : i < (norm p).length := dT hc12
  obtain ⟨B_ad9, O_ad9, rfl⟩ := h.row_addr (ad := ad9) (M := cellsOf Qn (norm p)) mm (nE 7)
  have hstep : ((norm p).take (i + 1)).map G = ((norm p).take i).map G ++ [G ((norm p).getD i T0)] := by rw [take_snoc _ hlt_i, List.map_append]; rfl
  have hml : (((norm p).take i).map G).length ≤ 91 := by rw [List.length_map, List.length_take]; omega
  refine gC h (zk (zs (zb (zS (zp (.indexAddr rfl rfl (Zf0 _ _ _ _ _ oo)) (zD rfl mm (cells_lt (k := 7) dd (fun _ => rfl) (norm p) i oo) isAgg117 sizeOf117 (Qb (k := 7) (fun _ => rfl) ((fun _ => rfl)) (norm p) T0 i oo) (.inl rfl) ?_))))))
  refine zz Zcr fun b7 => zt' rfl rfl Ke uu sizeOf117 rfl nb rfl ?_
  refine zn (zr (zm rfl (zm rfl (zd rfl mr isAgg117 sizeOf117 Zc0 ?_)))); intro a w h
  refine Zh (Zwk h (fs := []) (cs := cb) rfl (vs := [_]) rfl hg (hf _ (getD_mem (norm p) (d := T0) hlt_i)) (by intro R hR; simp [hR]) dd ?_); clear h; intro a w h
  refine gL h (zB [(_, _)] rfl (Zjn _ _ _ _ _ _ _) fun b19 => ?_); clear h; intro a w h
  refine Zh (Xr (σr := [(b7, bV (Qn ((norm p).getD i T0)) 117)]) h rfl rfl (List.Perm.trans (List.Perm.refl _) (List.Perm.cons _ (Zz5 (List.Perm.refl _)))) hG1 runUnderlying46 runUnderlying46 typeInfo117 sizeOf117 Zcr rfl dd dd rfl rfl dd (by show 72 * (2 * ((((norm p).take i).map G).length + 1) + 192) ≤ 281474976710656; omega) dd ?_); clear h
  intro v20 o20 a w hG20 h
  obtain ⟨ad20, c20, rfl⟩ := hG20.is
  have hLn20 : (((norm p).take i).map G).length + 1 = ((((norm p).take i).map G) ++ [G ((norm p).getD i T0)]).length := lA
  rw [hLn20] at h hG20
  replace hG20 : GrowO 7 117 (.slice ad20 ((((norm p).take i).map G) ++ [G ((norm p).getD i T0)]).length c20) ((((norm p).take i).map G) ++ [G ((norm p).getD i T0)]).length (cellsOf Qn ((((norm p).take i).map G) ++ [G ((norm p).getD i T0)])) o20 := by rw [Zw, Je]; exact hG20
  refine gL h (za rfl (zn (zr (zp (.pN (i + 1) (.add rfl rfl)) (zm rfl (zn ?_)))))); clear h; intro a w h
  rw [← hstep] at h hG20
  exact ⟨i + 1, ⟨oo, ad20, c20, o20, hG20, by exact (((h.perm (List.Perm.trans (Qdx (List.Perm.refl _)) (List.Perm.cons _ (List.Perm.refl _))).symm).drop (by repeat (first | exact List.Sublist.refl _ | apply List.Sublist.cons))).factsSub (by exact (fun _ hR => by repeat (first | exact hR | apply List.Mem.tail)))).sub sA⟩, oo⟩
 ·
  skip
  have heq_i : (norm p).length = i := dF hc12
  subst heq_i
  rw [List.take_length] at h hG1
  replace h := St.shareO' h hS hG1
  refine gC h (ze (zS (zm rfl ?_))); clear h; intro a w h
  refine Zh (Js h (vs := [_]) rfl call81 (Gw ((norm p).map G) _ _ K' hDL hKL hrm hlm) ss dd ?_); clear h; rintro v23 σ23 a w ⟨ad23, c23, rfl, hG23⟩ h
  refine gL h (za rfl (zn (zt ?_))); clear h; intro a w h
  refine Zq3 h (Zd h rfl (.tmp rfl)) ⟨ad23, c23, rfl, hG23⟩ (List.sublist_append_left _ _)
end
section
theorem Zal (x0 : Int) (x1 : Int) (x2_0 : Value) (x2_1 : Value) (x2_2 : Value) (x2_3 : Value) (x2_4 : Value) (w : World) : (Instr.build 117 [(0, .int .i64 x0), (1, .int .i64 x1), (2, .agg #[x2_0, x2_1, x2_2, x2_3, x2_4])].toArray).run Tryz.prog w = .ok (.agg #[.int .i64 x0, .int .i64 x1, x2_0, x2_1, x2_2, x2_3, x2_4]) w := by simp [go_sem]
theorem Qbq (t : Tm) (x : Rat) (b o : Nat) (ht : Qa t.c ≤ 10000000000) (hx : Qa x ≤ 10000000000) : Zae Tryz.prog 162 [Qn t, .pointer (some ⟨b, o, none⟩)] [Row (some ⟨b, o, none⟩) (Value.cells (Jf x)).toList] (Qn ⟨t.i, t.j, x * t.c⟩) := by
 refine fn_intro func162 rfl ntmps162 nb ?_
 intro S w0 a hS h
 refine gC h (zS (zx rfl fun b2 => zz Zcr fun b3 => zn (zs (yD Za [0, 1, 2, 3, 4, 5, 6, 7, 8, 9] (Zb kk) (yp rfl (.fA rfl Yc) (yd rfl rfl mr isAgg3 sizeOf3 Gn ?_)))))); clear h
 refine yp rfl (.fA rfl Xu) (yd rfl rfl mr isAgg3 sizeOf3 Gb ?_)
 refine Zm (b := b) (off := o) (j := 0) (M := (Value.cells (Jf x)).toList) (v := Jf (x)) rfl kk rfl mm (Nat.succ_pos _) isAgg44 sizeOf44 rfl (.inl rfl) dd ?_
 refine yp rfl (.fA rfl Vc) (yd rfl rfl mr isAgg44 sizeOf44 Gc ?_)
 refine yv [_, _] rfl rfl call69 (Vr _ _ oo oo) ?_
 have hl11 := Zu (x) ((t).c)
 refine yp rfl (.build [(_, _), (_, _), (_, _)] rfl (Zal _ _ _ _ _ _ _)) (yt rfl rfl rfl Ke uu sizeOf117 rfl nb rfl ?_)
 refine yn (zt ?_); intro a w h
 refine Jp h (Zd h rfl (.cell rfl mr isAgg117 sizeOf117 Zc0)) ?_
 rfl
theorem Qfh (p : List Tm) (ad : Option Addr) (c d K : Nat) (hq : Pq d K p) (hd : d ≤ 12) (hK : K ≤ 400000000) (x : Rat) (Kx : Nat) (hx : Qa x ≤ Kx) (hs : Kx + K ≤ 400000000) : Zkr Tryz.prog 100 [.slice ad p.length c, Jf x] [Row ad (cellsOf Qn p)] (fun v o => ∃ ad' c', v = .slice ad' (norm (Qw x p)).length c' ∧ GrowO 7 117 v (norm (Qw x p)).length (cellsOf Qn (norm (Qw x p))) o) := by
 refine fn_introO func100 rfl ntmps100 nb ?_
 intro S w0 a hS h
 refine gC h (zS (zx rfl fun b3 => ?_)); clear h; intro a w h
 replace h := h.shareAll hS ((Value.cells (Jf (x))).toList) rfl
 refine gL h (za rfl (zn (zS (zm rfl (zp (.makeFunc [] [_] rfl rfl) ?_))))); clear h; intro a w h
 refine Zh (Js h (vs := [_, _]) rfl call137 (Zyw p _ _ d K (Kx + K) 162 [.pointer (some ⟨b3, 0, none⟩)] [Row (some ⟨b3, 0, none⟩) (Value.cells (Jf x)).toList] (fun t => ⟨t.i, t.j, x * t.c⟩) hq hd hK call162 (fun t ht => Qbq t x b3 0 (by have := hq.nsz t ht; omega) oo) (fun t ht => by have := (Jr hq.deg) t ht; simp only; omega) (fun t ht => by have := hq.nsz t ht; have := Zu x t.c; simp only; omega) hs) ss dd ?_); clear h; rintro v7 σ7 a w ⟨ad7, c7, rfl, hG7⟩ h
 refine gL h (za rfl (zn (zt ?_))); clear h; intro a w h
 have e : norm ((norm p).map (fun t => (⟨t.i, t.j, x * t.c⟩ : Tm))) = norm (Qw x p) := Va ((Eqv.nrm p).scale x)
 rw [e] at h hG7
 refine Zq3 h (Zd h rfl (.tmp rfl)) ⟨ad7, c7, rfl, hG7⟩ (List.sublist_append_left _ _)
theorem Zme (p : List Tm) (ad : Option Addr) (c d K : Nat) (hq : Pq d K p) (hd : d ≤ 12) (hK : K ≤ 400000000) (x : Rat) (Kx : Nat) (hx : Qa x ≤ Kx) (hs : Kx + K ≤ 400000000) : Ctr Tryz.prog 100 [.slice ad p.length c, Jf x] [Row ad (cellsOf Qn p)] (fun v Ψ => ∃ ad' c', v = .slice ad' (norm (Qw x p)).length c' ∧ Ψ = [Row ad' (cellsOf Qn (norm (Qw x p)))]) := Zkn (Qfh p ad c d K hq hd hK x Kx hx hs)
theorem Zx8 (i : Nat) (w : World) (ty : TypeId) (cs : Array Bool) : (Go.builtin .max #[3, 3] ty cs #[.int .i64 0, .int .i64 ((i : Int) - 1)]).run Tryz.prog w = .ok (.value (.int .i64 ((i - 1 : Nat) : Int))) w := by
 simp [go_sem] <;> (try rw [Int.max_def]) <;> (try split) <;> (try split) <;> (try omega)
theorem C_Dx1 (t : Tm) (ht : Qa t.c ≤ 10000000000) (hi : t.i ≤ 1000) (hj : t.j ≤ 1000) : Yi Tryz.prog 138 [Qn t] (Qn ⟨t.i - 1, t.j, t.c * ((t.i : Int) : Rat)⟩) := by
 refine fn_intro func138 rfl ntmps138 nb ?_
 intro S w0 a hS h
 refine gC h (zS (zx rfl fun b1 => zz Zcr fun b2 => zn (zs (yD Za [0, 1, 2, 3, 4, 5, 6, 7, 8, 9, 10, 11, 12, 13] (Zb kk) (yp rfl (.fA rfl Yc) (yd rfl rfl mr isAgg3 sizeOf3 Gn ?_)))))); clear h
 refine yp rfl (.sub rfl rfl) (yp rfl (.builtin [_, _] rfl (fun w ty cs => Zx8 _ w ty cs)) (yp rfl (.fA rfl Xu) (yd rfl rfl mr isAgg3 sizeOf3 Gb ?_)))
 refine yp rfl (.fA rfl Vc) (yd rfl rfl mr isAgg44 sizeOf44 Gc ?_)
 refine yp rfl (.fA rfl Yc) (yd rfl rfl mr isAgg3 sizeOf3 Gn ?_)
 refine yv [_] rfl rfl call45 (Gl _ oo oo) ?_
 have hl13 := Qe ((((t).i : Nat) : Int)) oo oo
 refine yv [_, _] rfl rfl call69 (Vr _ _ oo oo) ?_
 have hl14 := Zu ((t).c) ((((((t).i : Nat) : Int) : Int) : Rat))
 refine yp rfl (.build [(_, _), (_, _), (_, _)] rfl (Zal _ _ _ _ _ _ _)) (yt rfl rfl rfl Ke uu sizeOf117 rfl nb rfl ?_)
 refine yn (zt ?_); intro a w h
 refine Jp h (Zd h rfl (.cell rfl mr isAgg117 sizeOf117 Zc0)) ?_
 rfl
theorem C_Dx (p : List Tm) (ad : Option Addr) (c d K : Nat) (hq : Pq d K p) (hd : d ≤ 12) (hK : K ≤ 390000000) : Zkr Tryz.prog 76 [.slice ad p.length c] [Row ad (cellsOf Qn p)] (fun v o => ∃ ad' c', v = .slice ad' (norm (dxL p)).length c' ∧ GrowO 7 117 v (norm (dxL p)).length (cellsOf Qn (norm (dxL p))) o) := by
 have hK0 := hK
 replace hK : K ≤ 400000000 := oo
 refine fn_introO func76 rfl ntmps76 nb ?_
 intro S w0 a hS h
 refine gC h (zS (za rfl (zn (zS (zm rfl ?_))))); clear h; intro a w h
 refine Zh (Js h (vs := [_, _]) rfl call137 (Zyw p _ _ d K (K + 2) 138 [] [] (fun t => ⟨t.i - 1, t.j, t.c * ((t.i : Int) : Rat)⟩) hq hd hK call138 (fun t ht => Zny (C_Dx1 t (by have := hq.nsz t ht; omega) (by have := (Jr hq.deg) t ht; omega) (by have := (Jr hq.deg) t ht; omega)) _) (fun t ht => by have := (Jr hq.deg) t ht; simp only; omega) (fun t ht => by have := hq.nsz t ht; have h0 := (Jr hq.deg) t ht; have := Zu t.c ((t.i : Int) : Rat); have := Qe (t.i : Int) oo oo; simp only; omega) oo) ss dd ?_); clear h; rintro v4 σ4 a w ⟨ad4, c4, rfl, hG4⟩ h
 refine gL h (za rfl (zn (zt ?_))); clear h; intro a w h
 have e : norm ((norm p).map (fun t => (⟨t.i - 1, t.j, t.c * ((t.i : Int) : Rat)⟩ : Tm))) = norm (dxL p) := Va ((Eqv.nrm p).dx)
 rw [e] at h hG4
 refine Zq3 h (Zd h rfl (.tmp rfl)) ⟨ad4, c4, rfl, hG4⟩ (List.sublist_append_left _ _)
theorem Qfp (p : List Tm) (ad : Option Addr) (c d K : Nat) (hq : Pq d K p) (hd : d ≤ 12) (hK : K ≤ 390000000) : Ctr Tryz.prog 76 [.slice ad p.length c] [Row ad (cellsOf Qn p)] (fun v Ψ => ∃ ad' c', v = .slice ad' (norm (dxL p)).length c' ∧ Ψ = [Row ad' (cellsOf Qn (norm (dxL p)))]) := Zkn (C_Dx p ad c d K hq hd hK)
theorem C_Dy1 (t : Tm) (ht : Qa t.c ≤ 10000000000) (hi : t.i ≤ 1000) (hj : t.j ≤ 1000) : Yi Tryz.prog 158 [Qn t] (Qn ⟨t.i, t.j - 1, t.c * ((t.j : Int) : Rat)⟩) := by
 refine fn_intro func158 rfl ntmps158 nb ?_
 intro S w0 a hS h
 refine gC h (zS (zx rfl fun b1 => zz Zcr fun b2 => zn (zs (yD Za [0, 1, 2, 3, 4, 5, 6, 7, 8, 9, 10, 11, 12, 13] (Zb kk) (yp rfl (.fA rfl Yc) (yd rfl rfl mr isAgg3 sizeOf3 Gn ?_)))))); clear h
 refine yp rfl (.fA rfl Xu) (yd rfl rfl mr isAgg3 sizeOf3 Gb ?_)
 refine yp rfl (.sub rfl rfl) (yp rfl (.builtin [_, _] rfl (fun w ty cs => Zx8 _ w ty cs)) (yp rfl (.fA rfl Vc) (yd rfl rfl mr isAgg44 sizeOf44 Gc ?_)))
 refine yp rfl (.fA rfl Xu) (yd rfl rfl mr isAgg3 sizeOf3 Gb ?_)
 refine yv [_] rfl rfl call45 (Gl _ oo oo) ?_
 have hl13 := Qe ((((t).j : Nat) : Int)) oo oo
 refine yv [_, _] rfl rfl call69 (Vr _ _ oo oo) ?_
 have hl14 := Zu ((t).c) ((((((t).j : Nat) : Int) : Int) : Rat))
 refine yp rfl (.build [(_, _), (_, _), (_, _)] rfl (Zal _ _ _ _ _ _ _)) (yt rfl rfl rfl Ke uu sizeOf117 rfl nb rfl ?_)
 refine yn (zt ?_); intro a w h
 refine Jp h (Zd h rfl (.cell rfl mr isAgg117 sizeOf117 Zc0)) ?_
 rfl
theorem C_Dy (p : List Tm) (ad : Option Addr) (c d K : Nat) (hq : Pq d K p) (hd : d ≤ 12) (hK : K ≤ 390000000) : Zkr Tryz.prog 97 [.slice ad p.length c] [Row ad (cellsOf Qn p)] (fun v o => ∃ ad' c', v = .slice ad' (norm (dyL p)).length c' ∧ GrowO 7 117 v (norm (dyL p)).length (cellsOf Qn (norm (dyL p))) o) := by
 have hK0 := hK
 replace hK : K ≤ 400000000 := oo
 refine fn_introO func97 rfl ntmps97 nb ?_
 intro S w0 a hS h
 refine gC h (zS (za rfl (zn (zS (zm rfl ?_))))); clear h; intro a w h
 refine Zh (Js h (vs := [_, _]) rfl call137 (Zyw p _ _ d K (K + 2) 158 [] [] (fun t => ⟨t.i, t.j - 1, t.c * ((t.j : Int) : Rat)⟩) hq hd hK call158 (fun t ht => Zny (C_Dy1 t (by have := hq.nsz t ht; omega) (by have := (Jr hq.deg) t ht; omega) (by have := (Jr hq.deg) t ht; omega)) _) (fun t ht => by have := (Jr hq.deg) t ht; simp only; omega) (fun t ht => by have := hq.nsz t ht; have h0 := (Jr hq.deg) t ht; have := Zu t.c ((t.j : Int) : Rat); have := Qe (t.j : Int) oo oo; simp only; omega) oo) ss dd ?_); clear h; rintro v4 σ4 a w ⟨ad4, c4, rfl, hG4⟩ h
 refine gL h (za rfl (zn (zt ?_))); clear h; intro a w h
 have e : norm ((norm p).map (fun t => (⟨t.i, t.j - 1, t.c * ((t.j : Int) : Rat)⟩ : Tm))) = norm (dyL p) := Va ((Eqv.nrm p).dy)
 rw [e] at h hG4
 refine Zq3 h (Zd h rfl (.tmp rfl)) ⟨ad4, c4, rfl, hG4⟩ (List.sublist_append_left _ _)
theorem C_DyF (p : List Tm) (ad : Option Addr) (c d K : Nat) (hq : Pq d K p) (hd : d ≤ 12) (hK : K ≤ 390000000) : Ctr Tryz.prog 97 [.slice ad p.length c] [Row ad (cellsOf Qn p)] (fun v Ψ => ∃ ad' c', v = .slice ad' (norm (dyL p)).length c' ∧ Ψ = [Row ad' (cellsOf Qn (norm (dyL p)))]) := Zkn (C_Dy p ad c d K hq hd hK)
theorem flatT : ∀ l : List Tm, (cellsOf Qn l).all flat = true
 | [] => rfl
 | t :: l => by
  have h := flatT l
  rw [show t :: l = [t] ++ l from rfl, Zw, Je, List.all_append, h]; rfl
theorem Pq.n91 {d K : Nat} {l : List Tm} (h : Pq d K l) (hd : d ≤ 12) : (norm l).length ≤ 91 := Nat.le_trans h.nlen (Nat.le_trans (Kz (show d + 1 ≤ 13 by omega)) dd)
theorem DL_app {a b : List Tm} {da db : Nat} (ha : DL da a) (hb : DL db b) (h1 : da ≤ 12) (h2 : db ≤ 12) : DL 12 (norm a ++ norm b) := Zod (Jr (ha.mono h1)) (Jr (hb.mono h2))
theorem KL_app {a b : List Tm} {Ka Kb K : Nat} (ha : KL Ka a) (hb : KL Kb b) (h1 : Ka ≤ K) (h2 : Kb ≤ K) : KL K (a ++ b) := fun t ht => (List.mem_append.1 ht).elim (fun h => Nat.le_trans (ha t h) h1) (fun h => Nat.le_trans (hb t h) h2)
theorem C_pAdd (p q : List Tm) (ada adb : Option Addr) (ca cb da db Ka Kb : Nat) (ha : Pq da Ka p) (hb : Pq db Kb q) (hda : da ≤ 12) (hdb : db ≤ 12) (hK : Ka ≤ 200000000) (hK2 : Kb ≤ 200000000) : Zkr Tryz.prog 73 [.slice ada p.length ca, .slice adb q.length cb] [Row ada (cellsOf Qn p), Row adb (cellsOf Qn q)] (fun v o => ∃ ad' c', v = .slice ad' (norm (p ++ q)).length c' ∧ GrowO 7 117 v (norm (p ++ q)).length (cellsOf Qn (norm (p ++ q))) o) := by
 have hna := ha.n91 hda
 have hnb := hb.n91 hdb
 refine fn_introO func73 rfl ntmps73 nb ?_
 intro S w0 a hS h
 refine gC h (zS (za rfl (zn (zS (zm rfl ?_))))); clear h; intro a w h
 refine Zh (Js h (vs := [_]) rfl call82 (Zjs p _ _ da Ka ha hda oo) ss dd ?_); clear h; rintro v6 σ6 a w ⟨ad6, c6, rfl, hG6⟩ h
 refine gL h (zm rfl ?_); clear h; intro a w h
 refine Zh (Js h (vs := [_]) rfl call82 (Zjs q _ _ db Kb hb hdb oo) ss dd ?_); clear h; rintro v8 σ8 a w ⟨ad8, c8, rfl, hG8⟩ h
 replace h := St.shareO' h hS hG8
 refine Zh (Zkb (o := σ6) h rfl hG6 rfl mm runUnderlying47 runUnderlying47 typeInfo117 sizeOf117 Zcr rfl dd dd (cellsOf_length Xt _) (flatT _) (by show 72 * _ ≤ 281474976710656; omega) dd ?_); clear h; intro v9 o9 a w hG9 h; obtain ⟨ad9, c9, rfl⟩ := hG9.is; rw [← List.length_append, ← Zw] at hG9; rw [← List.length_append] at h; replace h := St.shareO' h hS hG9
 refine Zh (Js h (vs := [_]) rfl call81 (Gw (norm p ++ norm q) _ _ (max Ka Kb) (DL_app ha.deg hb.deg hda hdb) (KL_app ha.nsz hb.nsz (Nat.le_max_left _ _) (Nat.le_max_right _ _)) (by rw [List.length_append]; exact Nat.le_trans (Nat.mul_le_mul (show _ ≤ 182 by omega) (show max Ka Kb + 1 ≤ 200000001 by omega)) dd) (by rw [List.length_append]; omega)) ss dd ?_); clear h; rintro v10 σ10 a w ⟨ad10, c10, rfl, hG10⟩ h
 refine gL h (za rfl (zn (zt ?_))); clear h; intro a w h
 have e : norm (norm p ++ norm q) = norm (p ++ q) := Va ((Eqv.nrm p).append (Eqv.nrm q))
 rw [e] at h hG10
 refine Zq3 h (Zd h rfl (.tmp rfl)) ⟨ad10, c10, rfl, hG10⟩ (List.sublist_append_left _ _)
theorem Zmd (p q : List Tm) (ada adb : Option Addr) (ca cb da db Ka Kb : Nat) (ha : Pq da Ka p) (hb : Pq db Kb q) (hda : da ≤ 12) (hdb : db ≤ 12) (hK : Ka ≤ 200000000) (hK2 : Kb ≤ 200000000) : Ctr Tryz.prog 73 [.slice ada p.length ca, .slice adb q.length cb] [Row ada (cellsOf Qn p), Row adb (cellsOf Qn q)] (fun v Ψ => ∃ ad' c', v = .slice ad' (norm (p ++ q)).length c' ∧ Ψ = [Row ad' (cellsOf Qn (norm (p ++ q)))]) := Zkn (C_pAdd p q ada adb ca cb da db Ka Kb ha hb hda hdb hK hK2)
def Qa9 (p : List Tm) : Int := if p.length = 0 then -1 else (((p.getD (p.length - 1) T0).i + (p.getD (p.length - 1) T0).j : Nat) : Int)
theorem Zp6 {p : List Tm} {d : Nat} (h : DL d p) : Qa9 p ≤ (d : Int) := by
 unfold Qa9; split
 · omega
 · have := h _ (getD_mem p (d := T0) (show p.length - 1 < p.length by omega)); omega
theorem Zp7 (p : List Tm) : -1 ≤ Qa9 p := by unfold Qa9; split <;> omega
theorem Zmg (p : List Tm) (ad : Option Addr) (c d K : Nat) (hq : Pq d K p) (hd : d ≤ 12) (hK : K ≤ 400000000) : Zae Tryz.prog 23 [.slice ad p.length c] [Row ad (cellsOf Qn p)] (.int .i64 (Qa9 (norm p))) := by
 have hn91 := hq.n91 hd
 refine fn_intro func23 rfl ntmps23 nb ?_
 intro S w0 a hS h
 refine gC h (zS (za rfl (zn (zS (zm rfl (zf [_] rfl call82 (Za3 p _ _ d K hq hd hK) ?_)))))); rintro v6 Ψ6 ⟨ad6, c6, rfl, rfl⟩
 refine za rfl (zn (zs (zS (zm rfl (zp (.builtin [_] rfl (Jc _ _ _)) (zp (.eql rfl rfl) (zn ?_))))))); intro a w h
 refine cW ?_
 refine Zc h rfl (fun hc9 => ?_) (fun hc9 => ?_)
 ·
  skip
  have h0 : (norm p).length = 0 := by have := eq_of_beq hc9; omega
  refine gC h (zS (za rfl (zn (zt ?_)))); clear h; intro a w h
  refine Jp h (Zd h rfl (.tmp rfl)) ?_
  unfold Qa9; rw [if_pos h0]
 ·
  skip
  have h0 : (norm p).length ≠ 0 := fun e => by rw [e] at hc9; exact absurd hc9 dd
  obtain ⟨B_ad6, O_ad6, rfl⟩ := h.row_addr (ad := ad6) (M := cellsOf Qn (norm p)) mm (by intro e; have := congrArg List.length e; rw [cellsOf_length Xt] at this; simp only [List.length_nil, Nat.mul_eq_zero] at this; omega)
  have hdg := (Jr hq.deg) _ (getD_mem (norm p) (d := T0) (show (norm p).length - 1 < (norm p).length by omega))
  refine gC h (zk (zS (zm rfl (zm rfl (zp (.builtin [_] rfl (Jc _ _ _)) (zp (.pO (((norm p).length) - 1) (.sub rfl rfl)) (zp (.indexAddr rfl rfl (Zf0 _ _ _ _ _ oo)) (zD rfl mm (cells_lt (k := 7) dd (fun _ => rfl) (norm p) (((norm p).length) - 1) oo) isAgg117 sizeOf117 (Qb (k := 7) (fun _ => rfl) ((fun _ => rfl)) (norm p) T0 (((norm p).length) - 1) oo) (.inl rfl) ?_))))))))
  refine zz Zcr fun b4 => zt' rfl rfl Ke uu sizeOf117 rfl nb rfl ?_
  refine zn (zS (zp (.fA rfl Yc) (zd rfl mr isAgg3 sizeOf3 Gn ?_)))
  refine zp (.fA rfl Xu) (zd rfl mr isAgg3 sizeOf3 Gb ?_)
  refine zp (.pN ((((norm p).getD (((norm p).length) - 1) T0).i) + (((norm p).getD (((norm p).length) - 1) T0).j)) (.add rfl rfl)) (za rfl (zn (zt ?_))); intro a w h
  refine Jp h (Zd h rfl (.tmp rfl)) ?_
  unfold Qa9; rw [if_neg h0]
end
section
theorem Zga (x0_0 : Value) (x0_1 : Value) (x0_2 : Value) (x0_3 : Value) (x0_4 : Value) (x0_5 : Value) (x0_6 : Value) (x1_0 : Value) (x1_1 : Value) (x1_2 : Value) (x1_3 : Value) (x1_4 : Value) (x1_5 : Value) (x1_6 : Value) (x2_0 : Value) (x2_1 : Value) (x2_2 : Value) (x2_3 : Value) (x2_4 : Value) (x2_5 : Value) (x2_6 : Value) (w : World) : (Instr.buildSlice 46 3 [(0, .agg #[x0_0, x0_1, x0_2, x0_3, x0_4, x0_5, x0_6]), (1, .agg #[x1_0, x1_1, x1_2, x1_3, x1_4, x1_5, x1_6]), (2, .agg #[x2_0, x2_1, x2_2, x2_3, x2_4, x2_5, x2_6])].toArray).run Tryz.prog w = .ok (.slice (some ⟨w.heap.size, 0, none⟩) 3 3) (w.alloc (.cells #[x0_0, x0_1, x0_2, x0_3, x0_4, x0_5, x0_6, x1_0, x1_1, x1_2, x1_3, x1_4, x1_5, x1_6, x2_0, x2_1, x2_2, x2_3, x2_4, x2_5, x2_6] 117 (0, 0))) := by
 simp [go_sem]
abbrev mulS (s t : Tm) : Tm := ⟨s.i + t.i, s.j + t.j, s.c * t.c⟩
theorem Zm5 (a b : List Tm) (i : Nat) (h : i < a.length) : Xv (a.take i) b ++ b.map (mulS (a.getD i T0)) = Xv (a.take (i + 1)) b := by
 rw [take_snoc a h]; unfold Xv; rw [List.flatMap_append]; simp
theorem Zwo (a b : List Tm) (s : Tm) (i j : Nat) (h : j < b.length) : (Xv (a.take i) b ++ (b.take j).map (mulS s)) ++ [mulS s (b.getD j T0)] = Xv (a.take i) b ++ (b.take (j + 1)).map (mulS s) := by
 rw [take_snoc b h, List.map_append, List.append_assoc]; rfl
theorem Qae {a b : List Tm} (i j : Nat) (s : Tm) (ha : a.length ≤ 91) (hb : b.length ≤ 91) : (Xv (a.take i) b ++ (b.take j).map (mulS s)).length ≤ 10000 := by
 rw [List.length_append, Zrq, List.length_map]
 have h1 : (a.take i).length ≤ 91 := Nat.le_trans (by rw [List.length_take]; omega) ha
 have h2 : (b.take j).length ≤ 91 := Nat.le_trans (by rw [List.length_take]; omega) hb
 have := Nat.mul_le_mul h1 hb
 omega
theorem Zkd {a b : List Tm} (ha : a.length ≤ 91) (hb : b.length ≤ 91) : (Xv a b).length ≤ 8281 := by rw [Zrq]; exact Nat.mul_le_mul ha hb
theorem Qad {a b : List Tm} {K : Nat} (ha : a.length ≤ 91) (hb : b.length ≤ 91) (hK : K ≤ 4000000) : (Xv a b).length * (K + 1) ≤ 50000000000 :=
 Nat.le_trans (Nat.mul_le_mul (Zkd ha hb) (show K + 1 ≤ 4000001 by omega)) dd
theorem C_pMul (p q : List Tm) (ada adb : Option Addr) (ca cb da db Ka Kb : Nat) (ha : Pq da Ka p) (hb : Pq db Kb q) (hd : da + db ≤ 12) (hK : Ka ≤ 2000000) (hK2 : Kb ≤ 2000000) : Zkr Tryz.prog 48 [.slice ada p.length ca, .slice adb q.length cb] [Row ada (cellsOf Qn p), Row adb (cellsOf Qn q)] (fun v o => ∃ ad' c', v = .tuple #[.slice ad' (norm (Xv p q)).length c', .int .i64 0] ∧ GrowO 7 117 (.slice ad' (norm (Xv p q)).length c') (norm (Xv p q)).length (cellsOf Qn (norm (Xv p q))) o) := by
 have hna := ha.n91 (show da ≤ 12 by omega)
 have hnb := hb.n91 (show db ≤ 12 by omega)
 have hdA : Qa9 (norm (norm p)) ≤ (da : Int) := Zp6 (Jr (Jr ha.deg))
 have hdB : Qa9 (norm (norm q)) ≤ (db : Int) := Zp6 (Jr (Jr hb.deg))
 have hgA := Zp7 (norm (norm p))
 have hgB := Zp7 (norm (norm q))
 refine fn_introO func48 rfl ntmps48 nb ?_
 intro S w0 a hS h
 refine gC h (zS (za rfl (za rfl (zn (zS (zm rfl (zf [_] rfl call82 (Za3 p _ _ da Ka ha oo oo) ?_))))))); rintro v14 Ψ14 ⟨ad14, c14, rfl, rfl⟩
 refine zm rfl (zf [_] rfl call82 (Za3 q _ _ db Kb hb oo oo) ?_); rintro v16 Ψ16 ⟨ad16, c16, rfl, rfl⟩
 refine za rfl (za rfl (zn ?_)); intro a w h
 refine cW ?_
 refine Za5 (fun a w => ∃ (ad14 : Option Addr) (c14 : Nat) (ad16 : Option Addr) (c16 : Nat), St 68 S w0 [(6, .slice ad14 (norm p).length c14), (7, .slice ad16 (norm q).length c16)] [] [Row ad16 (cellsOf Qn (norm q)), Row ad14 (cellsOf Qn (norm p)), Row ada (cellsOf Qn p), Row adb (cellsOf Qn q)] a w) ?_ ?_
 ·
  skip
  refine gC h (zS (zm rfl (zp (.builtin [_] rfl (Jc _ _ _)) (zp (.gtr rfl rfl) ?_)))); clear h; intro a w h
  refine Zl h (fun hc19 h => ?_) (fun hc19 h => ?_)
  ·
   skip
   refine gL h (zm rfl (zq 20 rfl rfl (.move rfl) (zq 20 rfl rfl (.builtin [_] rfl (Jc _ _ _)) (zq 20 rfl rfl (.gtr rfl rfl) ?_)))); clear h; intro a w h
   refine Zl h (fun hc23 h => ?_) (fun hc23 h => ?_)
   ·
    skip
    refine gL h (zp (.pickT rfl rfl) (zm rfl (zq 25 rfl rfl (.move rfl) ?_))); clear h; intro a w h
    refine Zv 25 h rfl rfl (Zc3 h (vs := [_]) rfl call23 (Zmg (norm p) _ _ da Ka (ha.nrm oo) oo oo) ss dd ?_); clear h; intro a w h
    refine gL h (zq 25 rfl rfl (.move rfl) ?_); clear h; intro a w h
    refine Zv 25 h rfl rfl (Zc3 h (vs := [_]) rfl call23 (Zmg (norm q) _ _ db Kb (hb.nrm oo) oo oo) ss dd ?_); clear h; intro a w h
    refine gL h (zq 25 rfl rfl (.add rfl rfl) (zq 25 rfl rfl (.gtr rfl rfl) ?_)); clear h; intro a w h
    refine Zl h (fun hc31 h => (by exfalso; have := of_decide_eq_true hc31; omega)) (fun hc31 h => ?_)
    refine gL h (zp (.pickT rfl rfl) (zn ?_)); clear h; intro a w h
    refine cW ?_
    refine Zk h rfl ?_
    refine wp_skip ?_
    exact ⟨_, _, _, _, h.sub sA⟩
   ·
    skip
    refine gL h (zp (.pickT rfl rfl) (zm rfl (zo 25 rfl rfl rfl (zo 25 rfl rfl rfl (zo 25 rfl rfl rfl (zo 25 rfl rfl rfl (zo 25 rfl rfl rfl (zo 25 rfl rfl rfl (zp (.pickF rfl rfl) (zn ?_)))))))))); clear h; intro a w h
    refine cW ?_
    refine Zk h rfl ?_
    refine wp_skip ?_
    exact ⟨_, _, _, _, h.sub sA⟩
  ·
   skip
   refine gL h (zm rfl (zo 20 rfl rfl rfl (zo 20 rfl rfl rfl (zo 20 rfl rfl rfl (zp (.pickF rfl rfl) (zm rfl (zo 25 rfl rfl rfl (zo 25 rfl rfl rfl (zo 25 rfl rfl rfl (zo 25 rfl rfl rfl (zo 25 rfl rfl rfl (zo 25 rfl rfl rfl (zp (.pickF rfl rfl) (zn ?_)))))))))))))); clear h; intro a w h
   refine cW ?_
   refine Zk h rfl ?_
   refine wp_skip ?_
   exact ⟨_, _, _, _, h.sub sA⟩
 ·
  clear h
  rintro a w ⟨ad14, c14, ad16, c16, h⟩
  refine gC h (zS (za rfl (zn (zs (zS (zm rfl (zp (.builtin [_] rfl (Jc _ _ _)) (zm rfl (zn (zb ?_)))))))))); clear h; intro a w h
  refine Zg (fun (i : Nat) a w => i ≤ (norm p).length ∧ ∃ (ad1 : Option Addr) (c1 : Nat) (o1 : List (Nat × Obj)), (GrowO 7 117 (.slice ad1 (Xv ((norm p).take i) (norm q)).length c1) (Xv ((norm p).take i) (norm q)).length (cellsOf Qn (Xv ((norm p).take i) (norm q))) o1) ∧ St 68 S w0 [(7, .slice ad16 ((norm q).length) c16), (8, (.slice ad1 (Xv ((norm p).take i) (norm q)).length c1)), (33, .slice ad14 ((norm p).length) c14), (34, nI ((norm p).length)), (35, nI i)] (o1 ++ []) [Row ad16 (cellsOf Qn (norm q)), Row ad14 (cellsOf Qn (norm p)), Row ada (cellsOf Qn p), Row adb (cellsOf Qn q)] a w) (fun i => (norm p).length - i) 0 (⟨Nat.zero_le _, none, 0, [], GrowO.nil _ _, by exact (h).sub sA⟩) ?_; clear h
  rintro i a w ⟨hi_i, ad1, c1, o1, hG1, h⟩
  refine gC h (zS (zp (.lss rfl rfl) (zn (zs ?_)))); clear h; intro a w h
  refine Zc h rfl (fun hc36 => ?_) (fun hc36 => ?_)
  ·
   skip
   have hlt_i : i < (norm p).length := dT hc36
   obtain ⟨B_ad14, O_ad14, rfl⟩ := h.row_addr (ad := ad14) (M := cellsOf Qn (norm p)) mm (nE 7)
   have hmA := getD_mem (norm p) (d := T0) hlt_i
   have hsA := ha.nsz _ hmA
   have hdgA := (Jr ha.deg) _ hmA
   refine gC h (zk (zs (zb (zS (zp (.indexAddr rfl rfl (Zf0 _ _ _ _ _ oo)) (zD rfl mm (cells_lt (k := 7) dd (fun _ => rfl) (norm p) i oo) isAgg117 sizeOf117 (Qb (k := 7) (fun _ => rfl) ((fun _ => rfl)) (norm p) T0 i oo) (.inl rfl) ?_))))))
   refine zz Zcr fun b10 => zt' rfl rfl Ke uu sizeOf117 rfl nb rfl ?_
   refine zn (zS (zm rfl (zp (.builtin [_] rfl (Jc _ _ _)) (zm rfl (zn (zb ?_)))))); intro a w h
   refine Zg (fun (j : Nat) a w => j ≤ (norm q).length ∧ ∃ (ad2 : Option Addr) (c2 : Nat) (o2 : List (Nat × Obj)), (GrowO 7 117 (.slice ad2 (Xv ((norm p).take i) (norm q) ++ ((norm q).take j).map (mulS ((norm p).getD i T0))).length c2) (Xv ((norm p).take i) (norm q) ++ ((norm q).take j).map (mulS ((norm p).getD i T0))).length (cellsOf Qn (Xv ((norm p).take i) (norm q) ++ ((norm q).take j).map (mulS ((norm p).getD i T0)))) o2) ∧ St 68 S w0 [(7, .slice ad16 ((norm q).length) c16), (8, (.slice ad2 (Xv ((norm p).take i) (norm q) ++ ((norm q).take j).map (mulS ((norm p).getD i T0))).length c2)), (10, pB b10), (33, .slice (some ⟨B_ad14, O_ad14, none⟩) ((norm p).length) c14), (34, nI ((norm p).length)), (35, nI i), (39, .slice ad16 ((norm q).length) c16), (40, nI ((norm q).length)), (41, nI j)] ((b10, bV (Qn ((norm p).getD i T0)) 117) :: (o2 ++ [])) [Row ad16 (cellsOf Qn (norm q)), Row (some ⟨B_ad14, O_ad14, none⟩) (cellsOf Qn (norm p)), Row ada (cellsOf Qn p), Row adb (cellsOf Qn q)] a w) (fun j => (norm q).length - j) 0 (⟨Nat.zero_le _, ad1, c1, o1, by rw [List.take_zero, List.map_nil, List.append_nil]; exact hG1, by rw [List.take_zero, List.map_nil, List.append_nil]; exact (h).sub sA⟩) ?_; clear h
   rintro j a w ⟨hi_j, ad2, c2, o2, hG2, h⟩
   refine gC h (zS (zp (.lss rfl rfl) (zn (zs ?_)))); clear h; intro a w h
   refine Zc h rfl (fun hc42 => ?_) (fun hc42 => ?_)
   ·
    skip
    have hlt_j : j < (norm q).length := dT hc42
    obtain ⟨B_ad16, O_ad16, rfl⟩ := h.row_addr (ad := ad16) (M := cellsOf Qn (norm q)) mm (nE 7)
    have hmB := getD_mem (norm q) (d := T0) hlt_j
    have hsB := hb.nsz _ hmB
    have hdgB := (Jr hb.deg) _ hmB
    have hyl := Qae i j ((norm p).getD i T0) hna hnb
    refine gC h (zk (zs (zb (zS (zp (.indexAddr rfl rfl (Zf0 _ _ _ _ _ oo)) (zD rfl mm (cells_lt (k := 7) dd (fun _ => rfl) (norm q) j oo) isAgg117 sizeOf117 (Qb (k := 7) (fun _ => rfl) ((fun _ => rfl)) (norm q) T0 j oo) (.inl rfl) ?_))))))
    refine zz Zcr fun b12 => zt' rfl rfl Ke uu sizeOf117 rfl nb rfl ?_
    refine zn (yD Za [0, 1, 2, 3, 4, 5, 6, 7, 8, 9, 10, 11, 12, 13, 14, 15, 16, 17, 18, 19] (Zb kk) (ym rfl rfl (yp rfl (.fA rfl Yc) (yd rfl rfl mr isAgg3 sizeOf3 Gn ?_))))
    refine yp rfl (.fA rfl Yc) (yd rfl rfl mr isAgg3 sizeOf3 Gn ?_)
    refine yp rfl (.pN ((((norm p).getD i T0).i) + (((norm q).getD j T0).i)) (.add rfl rfl)) (yp rfl (.fA rfl Xu) (yd rfl rfl mr isAgg3 sizeOf3 Gb ?_))
    refine yp rfl (.fA rfl Xu) (yd rfl rfl mr isAgg3 sizeOf3 Gb ?_)
    refine yp rfl (.pN ((((norm p).getD i T0).j) + (((norm q).getD j T0).j)) (.add rfl rfl)) (yp rfl (.fA rfl Vc) (yd rfl rfl mr isAgg44 sizeOf44 Gc ?_))
    refine yp rfl (.fA rfl Vc) (yd rfl rfl mr isAgg44 sizeOf44 Gc ?_)
    refine yv [_, _] rfl rfl call69 (Vr _ _ oo oo) ?_
    have hl60 := Zu (((norm p).getD i T0).c) (((norm q).getD j T0).c)
    refine yp rfl (.build [(_, _), (_, _), (_, _)] rfl (Zal _ _ _ _ _ _ _)) (yB rfl [(_, _)] rfl (Zjn _ _ _ _ _ _ _) fun b62 => ?_)
    refine Zai (σr := [(b12, bV (Qn ((norm q).getD j T0)) 117), (b10, bV (Qn ((norm p).getD i T0)) 117)]) rfl kk rfl rfl (List.Perm.trans (List.Perm.refl _) (List.Perm.cons _ (Zz5 (Zz5 (List.Perm.refl _))))) hG2 runUnderlying46 runUnderlying46 typeInfo117 sizeOf117 Zcr rfl dd dd rfl rfl dd (by show 72 * (2 * ((Xv ((norm p).take i) (norm q) ++ ((norm q).take j).map (mulS ((norm p).getD i T0))).length + 1) + 192) ≤ 281474976710656; omega) dd ?_
    intro v63 o63 hG63
    obtain ⟨ad63, c63, rfl⟩ := hG63.is
    have hLn63 : (Xv ((norm p).take i) (norm q) ++ ((norm q).take j).map (mulS ((norm p).getD i T0))).length + 1 = ((Xv ((norm p).take i) (norm q) ++ ((norm q).take j).map (mulS ((norm p).getD i T0))) ++ [(⟨(((norm p).getD i T0).i) + (((norm q).getD j T0).i), (((norm p).getD i T0).j) + (((norm q).getD j T0).j), (((norm p).getD i T0).c) * (((norm q).getD j T0).c)⟩ : Tm)]).length := lA
    rw [hLn63]; rw [hLn63] at hG63
    replace hG63 : GrowO 7 117 (.slice ad63 ((Xv ((norm p).take i) (norm q) ++ ((norm q).take j).map (mulS ((norm p).getD i T0))) ++ [(⟨(((norm p).getD i T0).i) + (((norm q).getD j T0).i), (((norm p).getD i T0).j) + (((norm q).getD j T0).j), (((norm p).getD i T0).c) * (((norm q).getD j T0).c)⟩ : Tm)]).length c63) ((Xv ((norm p).take i) (norm q) ++ ((norm q).take j).map (mulS ((norm p).getD i T0))) ++ [(⟨(((norm p).getD i T0).i) + (((norm q).getD j T0).i), (((norm p).getD i T0).j) + (((norm q).getD j T0).j), (((norm p).getD i T0).c) * (((norm q).getD j T0).c)⟩ : Tm)]).length (cellsOf Qn ((Xv ((norm p).take i) (norm q) ++ ((norm q).take j).map (mulS ((norm p).getD i T0))) ++ [(⟨(((norm p).getD i T0).i) + (((norm q).getD j T0).i), (((norm p).getD i T0).j) + (((norm q).getD j T0).j), (((norm p).getD i T0).c) * (((norm q).getD j T0).c)⟩ : Tm)])) o63 := by rw [Zw, Je]; exact hG63
    refine yp rfl (.assign rfl) (yn (zr (zp (.pN (j + 1) (.add rfl rfl)) (zm rfl (zn ?_))))); intro a w h
    rw [Zwo (norm p) (norm q) ((norm p).getD i T0) i j hlt_j] at h hG63
    exact ⟨j + 1, ⟨oo, ad63, c63, o63, hG63, by exact (((h.perm (List.Perm.trans (Qdx (List.Perm.refl _)) (List.Perm.cons _ (List.Perm.trans (Qdx (List.Perm.refl _)) (List.Perm.cons _ (List.Perm.refl _))))).symm).drop (by repeat (first | exact List.Sublist.refl _ | apply List.Sublist.cons))).factsSub (by simp)).sub sA⟩, oo⟩
   ·
    skip
    have heq_j : (norm q).length = j := dF hc42
    subst heq_j
    rw [List.take_length, Zm5 (norm p) (norm q) i hlt_i] at h hG2
    refine gC h (ze (zr (zp (.pN (i + 1) (.add rfl rfl)) (zm rfl (zn ?_))))); clear h; intro a w h
    exact ⟨i + 1, ⟨oo, ad2, c2, o2, hG2, by exact ((h.drop (by repeat (first | exact List.Sublist.refl _ | apply List.Sublist.cons))).factsSub (by simp)).sub sA⟩, oo⟩
  ·
   skip
   have heq_i : (norm p).length = i := dF hc36
   subst heq_i
   rw [List.take_length] at h hG1
   replace h := St.shareO' h hS hG1
   refine gC h (ze (zS (zm rfl ?_))); clear h; intro a w h
   refine Zh (Js h (vs := [_]) rfl call81 (Gw (Xv (norm p) (norm q)) _ _ (Ka + Kb) ((Zl7 (Jr ha.deg) (Jr hb.deg)).mono hd) (Qe6 ha.nsz hb.nsz) (Qad hna hnb oo) (Nat.le_trans (Zkd hna hnb) dd)) ss dd ?_); clear h; rintro v67 σ67 a w ⟨ad67, c67, rfl, hG67⟩ h
   refine gL h (za rfl (za rfl (zn (zt ?_)))); clear h; intro a w h
   have e : norm (Xv (norm p) (norm q)) = norm (Xv p q) := Va ((Eqv.nrm p).mul (Eqv.nrm q))
   rw [e] at h hG67
   refine Zq3 h (Jv h rfl (.tmp rfl) (.tmp rfl)) ⟨ad67, c67, rfl, hG67⟩ (List.sublist_append_left _ _)
theorem Zmc (p q : List Tm) (ada adb : Option Addr) (ca cb da db Ka Kb : Nat) (ha : Pq da Ka p) (hb : Pq db Kb q) (hd : da + db ≤ 12) (hK : Ka ≤ 2000000) (hK2 : Kb ≤ 2000000) : Ctr Tryz.prog 48 [.slice ada p.length ca, .slice adb q.length cb] [Row ada (cellsOf Qn p), Row adb (cellsOf Qn q)] (fun v Ψ => ∃ ad' c', v = .tuple #[.slice ad' (norm (Xv p q)).length c', .int .i64 0] ∧ Ψ = [Row ad' (cellsOf Qn (norm (Xv p q)))]) := Zxx (C_pMul p q ada adb ca cb da db Ka Kb ha hb hd hK hK2)
theorem Qdv {n d : Nat} {g : Int} (h1 : -1 ≤ g) (h2 : g ≤ (d : Int)) (hn : n ≤ 12) (hd : n * d ≤ 12) : -12 ≤ (n : Int) * g ∧ (n : Int) * g ≤ 12 := by
 have a := Int.mul_le_mul_of_nonneg_left h1 (show (0 : Int) ≤ n by omega)
 have b := Int.mul_le_mul_of_nonneg_left h2 (show (0 : Int) ≤ n by omega)
 have c : (n : Int) * (d : Int) = ((n * d : Nat) : Int) := (Int.natCast_mul _ _).symm
 omega
theorem C_Pow (p : List Tm) (ad : Option Addr) (c d K : Nat) (hq : Pq d K p) (n : Nat) (hn : n ≤ 12) (hd12 : d ≤ 12) (hd : n * d ≤ 12) (hK : n * K + 4 ≤ 2000000) (hK1 : K ≤ 2000000) : Ctr Tryz.prog 75 [.slice ad p.length c, .int .i64 ((n : Nat) : Int)] [Row ad (cellsOf Qn p)] (fun v Ψ => ∃ ad' c', v = .tuple #[.slice ad' (norm (Yt p n)).length c', .int .i64 0] ∧ Ψ = [Row ad' (cellsOf Qn (norm (Yt p n)))]) := by
 obtain ⟨hg1, hg2⟩ := Qdv (Zp7 (norm p)) (Zp6 (Jr hq.deg)) hn hd
 refine fn_intro func75 rfl ntmps75 nb ?_
 intro S w0 a hS h
 refine gC h (zS (za rfl (za rfl (zn (zs (zb (zS (zm rfl (zp (.lss rfl rfl) ?_))))))))); clear h; intro a w h
 refine Zl h (fun hc9 h => (by exfalso; have := of_decide_eq_true hc9; omega)) (fun hc9 h => ?_)
 refine gL h (zm rfl (zq 10 rfl rfl (.move rfl) (zq 10 rfl rfl (.gtr rfl rfl) ?_))); clear h; intro a w h
 refine Zl h (fun hc12 h => (by exfalso; have := of_decide_eq_true hc12; omega)) (fun hc12 h => ?_)
 refine gL h (zp (.pickF rfl rfl) (za rfl (zn ?_))); clear h; intro a w h
 refine cW ?_
 refine Zk h rfl ?_
 refine gC h (zS (zm rfl (zm rfl (zw [_] rfl call23 (Zmg p _ _ d K hq oo oo) (zp (.mul rfl rfl) (zp (.gtr rfl rfl) (za rfl (zn ?_)))))))); clear h; intro a w h
 refine cW ?_
 refine Zc h rfl (fun hc14 => (by exfalso; have := of_decide_eq_true hc14; omega)) (fun hc14 => ?_)
 refine gC h (zk (zS (zv [_] rfl call45 (Gl _ oo oo) ?_)))
 have hl20 := Qe (1) oo oo
 refine zf [_] rfl call44 (Ztf ((1 : Int) : Rat) 2 (Qe 1 dd dd) oo) ?_; rintro v21 Ψ21 ⟨ad21, c21, rfl, rfl⟩
 refine za rfl (zn (zs (zS (zm rfl (zm rfl (zn (zb ?_))))))); intro a w h
 refine Zg (fun (k : Nat) a w => k ≤ n ∧ ∃ (ad1 : Option Addr) (c1 : Nat), St 33 S w0 [(0, .slice ad p.length c), (4, .slice none 0 0), (5, .int .i64 0), (6, .slice ad1 ((norm (Yt p k)).length) c1), (22, nI n), (23, nI k)] [] [Row ad1 (cellsOf Qn (norm (Yt p k))), Row ad (cellsOf Qn p)] a w) (fun k => n - k) 0 (⟨Nat.zero_le _, _, _, by rw [show norm (Yt p 0) = norm [(⟨0, 0, ((1 : Int) : Rat)⟩ : Tm)] from rfl]; exact (h.factsSub (by simp)).sub (Zff ⟨rfl, rfl, rfl, rfl, rfl, rfl, trivial⟩)⟩) ?_; clear h
 rintro k a w ⟨hi_k, ad1, c1, h⟩
 refine gC h (zS (zp (.lss rfl rfl) (zn (zs ?_)))); clear h; intro a w h
 refine Zc h rfl (fun hc24 => ?_) (fun hc24 => ?_)
 ·
  skip
  have hlt_k : k < n := dT hc24
  have hkd := Nat.mul_le_mul_right d (show k + 1 ≤ n by omega)
  have hkK := Nat.mul_le_mul_right K (show k + 1 ≤ n by omega)
  rw [Nat.add_mul, Nat.one_mul] at hkd hkK
  refine gC h (zk (zs (zb (zr (zm rfl (zm rfl (zf [_, _] rfl call48 (Zmc (norm (Yt p k)) p _ _ _ _ (k * d) d (k * K + 4) K (hq.pow k oo) hq oo oo oo) ?_))))))); rintro v28 Ψ28 ⟨ad28, c28, rfl, rfl⟩
  refine zm rfl (zp (.eX rfl) (zp (.eX rfl) (za rfl (zn (zr (zp (.pN (k + 1) (.add rfl rfl)) (zm rfl (zn ?_)))))))); intro a w h
  have hstep : norm (Xv (norm (Yt p k)) p) = norm (Yt p (k + 1)) := Va ((Eqv.nrm _).mul Eqv.rfl')
  rw [hstep] at h
  exact ⟨k + 1, ⟨oo, ad28, c28, by exact (h.factsSub (by simp)).sub sA⟩, oo⟩
 ·
  skip
  have heq_k : n = k := dF hc24
  subst heq_k
  refine gC h (ze (zS (zm rfl (za rfl (za rfl (zn (zt ?_))))))); clear h; intro a w h
  refine Qk (Ψ := [Row _ (cellsOf Qn (norm (Yt p n)))]) h (Jv h rfl (.tmp rfl) (.tmp rfl)) ⟨_, _, rfl, rfl⟩ ss
theorem ln_DL (a b c : Rat) : DL 12 (ln a b c) := fun t ht => by
 simp only [ln, List.mem_cons, List.not_mem_nil, or_false] at ht
 rcases ht with rfl | rfl | rfl <;> simp
theorem ln_KL {K : Nat} {a b c : Rat} (h1 : Qa a ≤ K) (h2 : Qa b ≤ K) (h3 : Qa c ≤ K) : KL K (ln a b c) := fun t ht => by
 simp only [ln, List.mem_cons, List.not_mem_nil, or_false] at ht
 rcases ht with rfl | rfl | rfl <;> assumption
theorem Zwt {K : Nat} (h : K ≤ 20000) {a b c : Rat} : (ln a b c).length * (K + 1) ≤ 50000000000 := by show 3 * (K + 1) ≤ _; omega
theorem Qb6 (a b c : Rat) : (ln a b c).length ≤ 100000 := by show 3 ≤ 100000; omega
theorem Zk5 (p : List Tm) (n : Nat) : norm (Yt (norm p) n) = norm (Yt p n) := Va ((Eqv.nrm p).pow n)
theorem Qd3 (p q : List Tm) : norm (Xv (norm p) (norm q)) = norm (Xv p q) := Va ((Eqv.nrm p).mul (Eqv.nrm q))
theorem Zil (c : Rat) (p : List Tm) : norm (Qw c (norm p)) = norm (Qw c p) := Va ((Eqv.nrm p).scale c)
theorem Zqd (p q : List Tm) : norm (norm p ++ norm q) = norm (p ++ q) := Va ((Eqv.nrm p).append (Eqv.nrm q))
theorem Zqj (p : List Tm) (ad : Option Addr) (c d K : Nat) (hq : Pq d K p) (ax bx cx ay b cy : Rat) (Kx : Nat) (hd : d ≤ 12) (hx1 : Qa ax ≤ Kx) (hx2 : Qa bx ≤ Kx) (hx3 : Qa cx ≤ Kx) (hx4 : Qa ay ≤ Kx) (hx5 : Qa b ≤ Kx) (hx6 : Qa cy ≤ Kx) (hKx : Kx ≤ 20000) (hK : K ≤ 1000000) :
  Ctr Tryz.prog 58 [.slice ad p.length c, Jf ax, Jf bx, Jf cx, Jf ay, Jf b, Jf cy] [Row ad (cellsOf Qn p)] (fun v Ψ => ∃ ad' c', v = .slice ad' (norm (shL p ax bx cx ay b cy)).length c' ∧ Ψ = [Row ad' (cellsOf Qn (norm (shL p ax bx cx ay b cy)))]) := by
 have hnl : (norm p).length ≤ 91 := hq.n91 hd
 have hKT : KT d K Kx ≤ 1800000 := by
  have := Nat.mul_le_mul_right (3 * Kx + 4) hd
  unfold KT; omega
 have hdK := Nat.mul_le_mul_right (3 * Kx + 4) hd
 refine fn_intro func58 rfl ntmps58 nb ?_
 intro S w0 a hS h
 refine gC h (zS (zx rfl fun b8 => zx rfl fun b9 => zx rfl fun b10 => zx rfl fun b11 => zx rfl fun b12 => zx rfl fun b13 => za rfl (zn (zS (zd rfl mr isAgg44 sizeOf44 Zf ?_)))))
 refine zp (.build [(_, _), (_, _)] rfl (Zgz _ _ _ _ _ _)) (zd rfl mr isAgg44 sizeOf44 Zf ?_)
 refine zp (.build [(_, _), (_, _)] rfl (Zgy _ _ _ _ _ _)) (zd rfl mr isAgg44 sizeOf44 Zf ?_)
 refine zp (.build [(_, _)] rfl (Zl2 _ _ _ _ _)) (zB [(_, _), (_, _), (_, _)] rfl (Zga _ _ _ _ _ _ _ _ _ _ _ _ _ _ _ _ _ _ _ _ _) fun b32 => ?_); intro a w h
 replace h := h.shareAll hS (cellsOf Qn (ln ax bx cx)) rfl
 refine Zh (Js h (vs := [_]) rfl call81 (Gw (ln ax bx cx) _ _ Kx (ln_DL _ _ _) (ln_KL hx1 hx2 hx3) (Zwt hKx) (Qb6 _ _ _)) ss dd ?_); clear h; rintro v33 σ33 a w ⟨ad33, c33, rfl, hG33⟩ h
 replace h := St.shareO' h hS hG33
 refine gL h (za rfl (zn (zS (zd rfl mr isAgg44 sizeOf44 Zf ?_))))
 refine zp (.build [(_, _), (_, _)] rfl (Zgz _ _ _ _ _ _)) (zd rfl mr isAgg44 sizeOf44 Zf ?_)
 refine zp (.build [(_, _), (_, _)] rfl (Zgy _ _ _ _ _ _)) (zd rfl mr isAgg44 sizeOf44 Zf ?_)
 refine zp (.build [(_, _)] rfl (Zl2 _ _ _ _ _)) (zB [(_, _), (_, _), (_, _)] rfl (Zga _ _ _ _ _ _ _ _ _ _ _ _ _ _ _ _ _ _ _ _ _) fun b40 => ?_); intro a w h
 replace h := h.shareAll hS (cellsOf Qn (ln ay b cy)) rfl
 refine Zh (Js h (vs := [_]) rfl call81 (Gw (ln ay b cy) _ _ Kx (ln_DL _ _ _) (ln_KL hx4 hx5 hx6) (Zwt hKx) (Qb6 _ _ _)) ss dd ?_); clear h; rintro v41 σ41 a w ⟨ad41, c41, rfl, hG41⟩ h
 replace h := St.shareO' h hS hG41
 refine gL h (za rfl (zn (zS (za rfl (zn (zs (zS (zm rfl (zf [_] rfl call82 (Za3 p _ _ d K hq hd oo) ?_))))))))); rintro v43 Ψ43 ⟨ad43, c43, rfl, rfl⟩
 refine zp (.builtin [_] rfl (Jc _ _ _)) (zm rfl (zn (zb ?_))); intro a w h
 refine Zg (fun (k : Nat) a w => k ≤ (norm p).length ∧ ∃ (ad1 : Option Addr) (c1 : Nat), St 77 S w0 [(14, .slice none 0 0), (15, .slice ad33 ((norm (ln ax bx cx)).length) c33), (16, .slice ad41 ((norm (ln ay b cy)).length) c41), (17, .slice ad1 ((norm (sbL (ln ax bx cx) (ln ay b cy) ((norm p).take k))).length) c1), (43, .slice ad43 ((norm p).length) c43), (44, nI ((norm p).length)), (45, nI k)] [(b13, bV (Jf (cy)) 44), (b12, bV (Jf (b)) 44), (b11, bV (Jf (ay)) 44), (b10, bV (Jf (cx)) 44), (b9, bV (Jf (bx)) 44), (b8, bV (Jf (ax)) 44)] [Row ad1 (cellsOf Qn (norm (sbL (ln ax bx cx) (ln ay b cy) ((norm p).take k)))), Row ad43 (cellsOf Qn (norm p)), Row ad41 (cellsOf Qn (norm (ln ay b cy))), Row (some ⟨b40, 0, none⟩) (cellsOf Qn (ln ay b cy)), Row ad33 (cellsOf Qn (norm (ln ax bx cx))), Row (some ⟨b32, 0, none⟩) (cellsOf Qn (ln ax bx cx)), Row ad (cellsOf Qn p)] a w) (fun k => (norm p).length - k) 0 (⟨Nat.zero_le _, none, 0, by rw [List.take_zero, show sbL (ln ax bx cx) (ln ay b cy) [] = [] from rfl, Zk9]; replace h := h.derive (R := Row none (cellsOf Qn [])) (fun X _ hne => absurd rfl hne); exact (h.factsSub (by simp)).sub (Zff ⟨rfl, rfl, rfl, rfl, rfl, rfl, rfl, trivial⟩)⟩) ?_; clear h
 rintro k a w ⟨hi_k, ad1, c1, h⟩
 refine gC h (zS (zp (.lss rfl rfl) (zn (zs ?_)))); clear h; intro a w h
 refine Zc h rfl (fun hc46 => ?_) (fun hc46 => ?_)
 ·
  skip
  have hlt_k : k < (norm p).length := dT hc46
  obtain ⟨B_ad43, O_ad43, rfl⟩ := h.row_addr (ad := ad43) (M := cellsOf Qn (norm p)) mm (nE 7)
  have hmem := getD_mem (norm p) (d := T0) hlt_k
  have hsc := hq.nsz _ hmem
  have hdg := (Jr hq.deg) _ hmem
  have hi3 := Nat.mul_le_mul_right (3 * Kx + 4) (show ((norm p).getD k T0).i ≤ d by omega)
  have hj3 := Nat.mul_le_mul_right (3 * Kx + 4) (show ((norm p).getD k T0).j ≤ d by omega)
  have hpx : Pq ((norm p).getD k T0).i (((norm p).getD k T0).i * (3 * Kx + 4) + 4) (norm (Yt (norm (ln ax bx cx)) ((norm p).getD k T0).i)) := by rw [Zk5]; exact Pq.line_pow hx1 hx2 hx3 oo
  have hpy : Pq ((norm p).getD k T0).j (((norm p).getD k T0).j * (3 * Kx + 4) + 4) (norm (Yt (norm (ln ay b cy)) ((norm p).getD k T0).j)) := by rw [Zk5]; exact Pq.line_pow hx4 hx5 hx6 oo
  have hpm : Pq d (2 * (d * (3 * Kx + 4) + 4)) (norm (Xv (norm (Yt (norm (ln ax bx cx)) ((norm p).getD k T0).i)) (norm (Yt (norm (ln ay b cy)) ((norm p).getD k T0).j)))) := (hpx.mul hpy oo).mono hdg oo
  have hsk := Pq.sbl hx1 hx2 hx3 hx4 hx5 hx6 hd (Jr hq.deg) hq.nsz k oo
  have hkk := Nat.mul_le_mul (show k ≤ 91 by omega) hKT
  have hes : norm (Qw ((norm p).getD k T0).c (norm (Xv (norm (Yt (norm (ln ax bx cx)) ((norm p).getD k T0).i)) (norm (Yt (norm (ln ay b cy)) ((norm p).getD k T0).j))))) = norm (sbT (ln ax bx cx) (ln ay b cy) ((norm p).getD k T0)) := by
   rw [Zk5, Zk5, Qd3, Zil]; rfl
  have hsp : Pq d (KT d K Kx) (norm (Qw ((norm p).getD k T0).c (norm (Xv (norm (Yt (norm (ln ax bx cx)) ((norm p).getD k T0).i)) (norm (Yt (norm (ln ay b cy)) ((norm p).getD k T0).j)))))) := by
   rw [hes]; exact (Pq.sbT hx1 hx2 hx3 hx4 hx5 hx6 hd hdg hsc).mono (Nat.le_refl _) (Nat.sub_le _ _)
  have hstep : norm (norm (sbL (ln ax bx cx) (ln ay b cy) ((norm p).take k)) ++ norm (Qw ((norm p).getD k T0).c (norm (Xv (norm (Yt (norm (ln ax bx cx)) ((norm p).getD k T0).i)) (norm (Yt (norm (ln ay b cy)) ((norm p).getD k T0).j)))))) = norm (sbL (ln ax bx cx) (ln ay b cy) ((norm p).take (k + 1))) := by
   rw [hes, Zqd, take_snoc _ hlt_k, Zh1]
  refine gC h (zk (zs (zb (zS (zp (.indexAddr rfl rfl (Zf0 _ _ _ _ _ oo)) (zD rfl mm (cells_lt (k := 7) dd (fun _ => rfl) (norm p) k oo) isAgg117 sizeOf117 (Qb (k := 7) (fun _ => rfl) ((fun _ => rfl)) (norm p) T0 k oo) (.inl rfl) ?_))))))
  refine zz Zcr fun b19 => zt' rfl rfl Ke uu sizeOf117 rfl nb rfl ?_
  refine zn (zS (zm rfl (zp (.fA rfl Yc) (zd rfl mr isAgg3 sizeOf3 Gn ?_))))
  refine zf [_, _] rfl call75 (C_Pow (norm (ln ax bx cx)) _ _ 1 (3 * Kx + 4) ((Pq.line hx1 hx2 hx3).nrm oo) ((norm p).getD k T0).i oo oo oo oo oo) ?_; rintro v53 Ψ53 ⟨ad53, c53, rfl, rfl⟩
  refine zm rfl (zp (.eX rfl) (zp (.eX rfl) (za rfl (za rfl (zn (zS (zm rfl (zp (.fA rfl Xu) (zd rfl mr isAgg3 sizeOf3 Gb ?_)))))))))
  refine zf [_, _] rfl call75 (C_Pow (norm (ln ay b cy)) _ _ 1 (3 * Kx + 4) ((Pq.line hx4 hx5 hx6).nrm oo) ((norm p).getD k T0).j oo oo oo oo oo) ?_; rintro v60 Ψ60 ⟨ad60, c60, rfl, rfl⟩
  refine zm rfl (zp (.eX rfl) (zp (.eX rfl) (za rfl (za rfl (zn (zS (zm rfl (zm rfl (zf [_, _] rfl call48 (Zmc (norm (Yt (norm (ln ax bx cx)) ((norm p).getD k T0).i)) (norm (Yt (norm (ln ay b cy)) ((norm p).getD k T0).j)) _ _ _ _ ((norm p).getD k T0).i ((norm p).getD k T0).j (((norm p).getD k T0).i * (3 * Kx + 4) + 4) (((norm p).getD k T0).j * (3 * Kx + 4) + 4) hpx hpy oo oo oo) ?_))))))))); rintro v66 Ψ66 ⟨ad66, c66, rfl, rfl⟩
  refine zm rfl (zp (.eX rfl) (zp (.eX rfl) (za rfl (za rfl (zn (zr (zm rfl (zm rfl (zp (.fA rfl Vc) (zd rfl mr isAgg44 sizeOf44 Gc ?_))))))))))
  refine zf [_, _] rfl call100 (Zme (norm (Xv (norm (Yt (norm (ln ax bx cx)) ((norm p).getD k T0).i)) (norm (Yt (norm (ln ay b cy)) ((norm p).getD k T0).j)))) _ _ d (2 * (d * (3 * Kx + 4) + 4)) hpm hd oo ((norm p).getD k T0).c K hsc oo) ?_; rintro v73 Ψ73 ⟨ad73, c73, rfl, rfl⟩
  refine zf [_, _] rfl call73 (Zmd (norm (sbL (ln ax bx cx) (ln ay b cy) ((norm p).take k))) (norm (Qw ((norm p).getD k T0).c (norm (Xv (norm (Yt (norm (ln ax bx cx)) ((norm p).getD k T0).i)) (norm (Yt (norm (ln ay b cy)) ((norm p).getD k T0).j)))))) _ _ _ _ d d (k * KT d K Kx + 1) (KT d K Kx) hsk hsp hd hd oo oo) ?_; rintro v74 Ψ74 ⟨ad74, c74, rfl, rfl⟩
  refine za rfl (zn (zr (zp (.pN (k + 1) (.add rfl rfl)) (zm rfl (zn ?_))))); intro a w h
  rw [hstep] at h
  exact ⟨k + 1, ⟨oo, ad74, c74, by exact ((h.drop sl).factsSub (by simp)).sub sA⟩, oo⟩
 ·
  skip
  have heq_k : (norm p).length = k := dF hc46
  subst heq_k
  have e : norm (sbL (ln ax bx cx) (ln ay b cy) ((norm p).take (norm p).length)) = norm (shL p ax bx cx ay b cy) := by rw [List.take_length]; exact Va (Eqv.sub Eqv.rfl' Eqv.rfl' (Eqv.nrm p))
  rw [e] at h
  refine gC h (ze (zS (zm rfl (za rfl (zn (zt ?_)))))); clear h; intro a w h
  refine Qk (Ψ := [Row _ (cellsOf Qn (norm (shL p ax bx cx ay b cy)))]) h (Zd h rfl (.tmp rfl)) ⟨_, _, rfl, rfl⟩ ss
end
section
theorem Xa (b off : Nat) (w : World) : (Instr.indexAt 49 (.pointer (some ⟨b, off, none⟩)) (.int .i64 0)).run Tryz.prog w = .ok (.pointer (some ⟨b, off + 0, none⟩)) w := by
 simp [go_sem, Instr.indexAt]
theorem Jn {c0 c1 c2 c3 c4 c5 c6 c7 c8 c9 : Value} : Qo true 5 #[c0, c1, c2, c3, c4, c5, c6, c7, c8, c9] 0 = some (.agg #[c0, c1, c2, c3, c4]) := rfl
theorem Jz (b off : Nat) (w : World) : (Instr.indexAt 49 (.pointer (some ⟨b, off, none⟩)) (.int .i64 1)).run Tryz.prog w = .ok (.pointer (some ⟨b, off + 5, none⟩)) w := by
 simp [go_sem, Instr.indexAt]
theorem Jm {c0 c1 c2 c3 c4 c5 c6 c7 c8 c9 : Value} : Qo true 5 #[c0, c1, c2, c3, c4, c5, c6, c7, c8, c9] 5 = some (.agg #[c5, c6, c7, c8, c9]) := rfl
theorem Zd6 (x0_0 : Value) (x0_1 : Value) (x0_2 : Value) (x0_3 : Value) (x0_4 : Value) (x1_0 : Value) (x1_1 : Value) (x1_2 : Value) (x1_3 : Value) (x1_4 : Value) (w : World) : (Instr.build 49 [(0, .agg #[x0_0, x0_1, x0_2, x0_3, x0_4]), (1, .agg #[x1_0, x1_1, x1_2, x1_3, x1_4])].toArray).run Tryz.prog w = .ok (.agg #[x0_0, x0_1, x0_2, x0_3, x0_4, x1_0, x1_1, x1_2, x1_3, x1_4]) w := by simp [go_sem]
theorem Qr {c0 c1 c2 c3 c4 c5 c6 c7 c8 c9 v0 v1 v2 v3 v4 v5 v6 v7 v8 v9 : Value} : Qu #[c0, c1, c2, c3, c4, c5, c6, c7, c8, c9] 0 [v0, v1, v2, v3, v4, v5, v6, v7, v8, v9] = #[v0, v1, v2, v3, v4, v5, v6, v7, v8, v9] := by kernel_rfl
theorem Ze {c0 c1 c2 c3 c4 c5 c6 c7 c8 c9 : Value} : Qo true 10 #[c0, c1, c2, c3, c4, c5, c6, c7, c8, c9] 0 = some (.agg #[c0, c1, c2, c3, c4, c5, c6, c7, c8, c9]) := rfl
theorem Zl0 (w : World) : (Instr.build 44 [].toArray).run Tryz.prog w = .ok (.agg #[.int .u64 0, .string ⟨#[]⟩, .bool false, .int .u64 0, .string ⟨#[]⟩]) w := by simp [go_sem]
abbrev encV (x y : Rat) : Value := .agg #[.int .u64 (Zet x.num.natAbs), .string (Zan x.num.natAbs), .bool (decide (x.num < 0)), .int .u64 (Zet (x.den - 1)), .string (Zan (x.den - 1)),
 .int .u64 (Zet y.num.natAbs), .string (Zan y.num.natAbs), .bool (decide (y.num < 0)), .int .u64 (Zet (y.den - 1)), .string (Zan (y.den - 1))]
abbrev encPt (p : Pt) : Value := encV p.1 p.2
theorem Jl (w : World) : (zeroValue 49).run Tryz.prog w = .ok (encPt (0, 0)) w := zeroValue49 w
abbrev encA (l : List Rat) : Value := .agg (cellsOf Jf l).toArray
theorem Zu0 (w : World) : (zeroValue 180).run Tryz.prog w = .ok (encA (List.replicate 13 (0 : Rat))) w := zeroValue180 w
theorem Zg0 (pb pa : Pt) (h1 : Qa pb.1 ≤ 10000000000) (h2 : Qa pa.1 ≤ 10000000000) (h3 : Qa pb.2 ≤ 10000000000) (h4 : Qa pa.2 ≤ 10000000000) : Yi Tryz.prog 57 [encPt pb, encPt pa] (encV (pb.1 - pa.1) (pb.2 - pa.2)) := by
 refine fn_intro func57 rfl ntmps57 nb ?_
 intro S w0 a hS h
 refine gC h (zS (zx rfl fun b2 => zx rfl fun b3 => zz Jl fun b4 => zn (zs (yD Za [0, 1, 2, 3, 5, 6, 7, 8, 4, 9, 10, 11] (Zb kk) (yp rfl (.indexAddr rfl rfl (Xa _ _)) (yd rfl rfl mr isAgg44 sizeOf44 Jn ?_)))))); clear h
 refine yp rfl (.indexAddr rfl rfl (Xa _ _)) (yd rfl rfl mr isAgg44 sizeOf44 Jn ?_)
 refine yp rfl (.indexAddr rfl rfl (Jz _ _)) (yd rfl rfl mr isAgg44 sizeOf44 Jm ?_)
 refine yp rfl (.indexAddr rfl rfl (Jz _ _)) (yd rfl rfl mr isAgg44 sizeOf44 Jm ?_)
 refine yv [_, _] rfl rfl call68 (Zb4 _ _ oo oo) ?_
 have hl9 := Qz (pb.1) (pa.1)
 refine yv [_, _] rfl rfl call68 (Zb4 _ _ oo oo) ?_
 have hl14 := Qz (pb.2) (pa.2)
 refine yp rfl (.build [(_, _), (_, _)] rfl (Zd6 _ _ _ _ _ _ _ _ _ _)) (yt rfl rfl rfl Qr uu sizeOf49 rfl nb rfl ?_)
 refine yn (zt ?_); intro a w h
 refine Jp h (Zd h rfl (.cell rfl mr isAgg49 sizeOf49 Ze)) ?_
 rfl
theorem Zyj (pa pb pc : Pt) (Kp : Nat) (ha : PtK Kp pa) (hb : PtK Kp pb) (hc : PtK Kp pc) (hk : Kp ≤ 1000000000) : Yi Tryz.prog 115 [encPt pa, encPt pb, encPt pc] (Jf (twQ pa pb pc)) := by
 obtain ⟨ha1, ha2⟩ := ha
 obtain ⟨hb1, hb2⟩ := hb
 obtain ⟨hc1, hc2⟩ := hc
 have hl1 := Qx hb1 ha1
 have hl2 := Qx hb2 ha2
 have hl3 := Qx hc1 ha1
 have hl4 := Qx hc2 ha2
 refine fn_intro func115 rfl ntmps115 nb ?_
 intro S w0 a hS h
 refine gC h (zS (zx rfl fun b3 => zx rfl fun b4 => zx rfl fun b5 => zz Xi fun b6 => zn (zs (yD Za [0, 1, 3, 4, 2, 5, 6, 7, 8, 9] (Jd ⟨.inl rfl, .inl rfl, .inl rfl, .inl rfl, .inl rfl, .inl rfl, .inr ⟨7, 49, _, _, _, rfl, rfl, by decide, _, Jl⟩, .inr ⟨8, 49, _, _, _, rfl, rfl, by decide, _, Jl⟩, .inl rfl, .inl rfl, trivial⟩) (yd rfl rfl mr isAgg49 sizeOf49 Ze ?_))))); clear h
 refine yd rfl rfl mr isAgg49 sizeOf49 Ze ?_
 refine yd rfl rfl mr isAgg49 sizeOf49 Ze ?_
 refine yd rfl rfl mr isAgg49 sizeOf49 Ze ?_
 refine yv [_, _] rfl rfl call57 (Zg0 pb pa oo oo oo oo) (yv [_, _] rfl rfl call57 (Zg0 pc pa oo oo oo oo) (yz rfl Jl fun b7 => yz rfl Jl fun b8 => yt rfl rfl rfl Qr uu sizeOf49 rfl nb rfl ?_))
 refine yt rfl rfl rfl Qr uu sizeOf49 rfl nb rfl ?_
 refine yn (zs (yD Za [0, 1, 2, 3, 5, 6, 7, 8, 4, 9, 10, 11] (Zb kk) (yp rfl (.indexAddr rfl rfl (Xa _ _)) (yd rfl rfl mr isAgg44 sizeOf44 Jn ?_))))
 refine yp rfl (.indexAddr rfl rfl (Jz _ _)) (yd rfl rfl mr isAgg44 sizeOf44 Jm ?_)
 refine yp rfl (.indexAddr rfl rfl (Xa _ _)) (yd rfl rfl mr isAgg44 sizeOf44 Jn ?_)
 refine yp rfl (.indexAddr rfl rfl (Jz _ _)) (yd rfl rfl mr isAgg44 sizeOf44 Jm ?_)
 refine yv [_, _] rfl rfl call69 (Vr _ _ oo oo) ?_
 have hl19 := Zu (pb.1 - pa.1) (pc.2 - pa.2)
 refine yv [_, _] rfl rfl call69 (Vr _ _ oo oo) ?_
 have hl24 := Zu (pc.1 - pa.1) (pb.2 - pa.2)
 refine yv [_, _] rfl rfl call68 (Zb4 _ _ oo oo) ?_
 have hl25 := Qz ((pb.1 - pa.1) * (pc.2 - pa.2)) ((pc.1 - pa.1) * (pb.2 - pa.2))
 refine yt rfl rfl rfl Zq uu sizeOf44 rfl nb rfl ?_
 refine yn (zt ?_); intro a w h
 refine Jp h (Zd h rfl (.cell rfl mr isAgg44 sizeOf44 Zf)) ?_
 rfl
theorem Zy8 (pa pb pc : Pt) (Kp : Nat) (ha : PtK Kp pa) (hb : PtK Kp pb) (hc : PtK Kp pc) (hk : Kp ≤ 1000000000) : Yi Tryz.prog 94 [encPt pa, encPt pb, encPt pc] (Jf (twQ pa pb pc / ((2 : Int) : Rat))) := by
 have htw := Zgn ha hb hc
 refine fn_intro func94 rfl ntmps94 nb ?_
 intro S w0 a hS h
 refine gC h (zS (zx rfl fun b3 => zx rfl fun b4 => zx rfl fun b5 => zz Xi fun b6 => zn (zS (zd rfl mr isAgg49 sizeOf49 Ze ?_))))
 refine zd rfl mr isAgg49 sizeOf49 Ze ?_
 refine zd rfl mr isAgg49 sizeOf49 Ze ?_
 refine zv [_, _, _] rfl call115 (Zyj pa pb pc Kp ha hb hc hk) (zv [_] rfl call45 (Gl _ oo oo) ?_)
 have hl14 := Qe (2) oo oo
 refine zv [_, _] rfl call124 (Zy3 _ _ dd oo oo) (zm rfl (zp (.eX rfl) (zp (.eX rfl) (zz Xi fun b7 => zt' rfl rfl Zq uu sizeOf44 rfl nb rfl ?_))))
 refine za rfl (zn (zS (zd rfl mr isAgg44 sizeOf44 Zf ?_)))
 refine zt' rfl rfl Zq uu sizeOf44 rfl nb rfl ?_; intro a w h
 refine wpList_nil (wp_ret ?_)
 refine Jp h (Zd h rfl (.cell rfl mr isAgg44 sizeOf44 Zf)) ?_
 rfl
theorem Qcs (q : List Tm) (ad : Option Addr) (c g K Kf : Nat) (φ : Nat → Nat → Rat) (hK : KL K q) (hn : q.length ≤ 100) (hb : K + Kf ≤ 50000000) (hg : ∀ args w, (callFunc g args).run Tryz.prog w = .ok (.enter g args) w)
  (hf : ∀ t ∈ q, Zae Tryz.prog g [.int .i64 ((t.i : Nat) : Int), .int .i64 ((t.j : Nat) : Int)] [] (Jf (φ t.i t.j))) (hφ : ∀ t ∈ q, Qa (φ t.i t.j) ≤ Kf) :
  Zae Tryz.prog 61 [.slice ad q.length c, .func (.func g) #[] #[]] [Row ad (cellsOf Qn q)] (Jf (Zi0 φ q)) := by
 refine fn_intro func61 rfl ntmps61 nb ?_
 intro S w0 a hS h
 refine gC h (zS (zz Xi fun b4 => zn (zs (zS (zm rfl (zp (.builtin [_] rfl (Jc _ _ _)) (zm rfl (zn (zb ?_))))))))); clear h; intro a w h
 refine Zg (fun (k : Nat) a w => k ≤ q.length ∧ St 26 S w0 [(1, .func (.func g) #[] #[]), (4, pB b4), (7, .slice ad q.length c), (8, nI q.length), (9, nI k)] [(b4, bV (Jf (Zi0 φ (q.take k))) 44)] [Row ad (cellsOf Qn q)] a w) (fun k => q.length - k) 0 (⟨Nat.zero_le _, by exact (h).sub sA⟩) ?_; clear h
 rintro k a w ⟨hi_k, h⟩
 refine gC h (zS (zp (.lss rfl rfl) (zn (zs ?_)))); clear h; intro a w h
 refine Zc h rfl (fun hc10 => ?_) (fun hc10 => ?_)
 ·
  skip
  have hlt_k : k < q.length := dT hc10
  obtain ⟨B_ad, O_ad, rfl⟩ := h.row_addr (ad := ad) (M := cellsOf Qn q) mm (nE 7)
  have hmem := getD_mem q (d := T0) hlt_k
  have hck := hK _ hmem
  have hfk := hφ _ hmem
  have hlk := Zcl k oo hK hφ
  have hkm := Nat.mul_le_mul (show k ≤ 100 by omega) (show K + Kf + 1 ≤ 50000001 by omega)
  have hstep : Zi0 φ (q.take k) + (q.getD k T0).c * φ (q.getD k T0).i (q.getD k T0).j = Zi0 φ (q.take (k + 1)) := by rw [take_snoc _ hlt_k, Ziz]
  refine gC h (zk (zs (zb (zS (zp (.indexAddr rfl rfl (Zf0 _ _ _ _ _ oo)) (zD rfl mm (cells_lt (k := 7) dd (fun _ => rfl) q k oo) isAgg117 sizeOf117 (Qb (k := 7) (fun _ => rfl) ((fun _ => rfl)) q T0 k oo) (.inl rfl) ?_))))))
  refine zz Zcr fun b6 => zt' rfl rfl Ke uu sizeOf117 rfl nb rfl ?_
  refine zn (yD Za [0, 1, 2, 3, 4, 5, 6, 7, 8, 9, 10, 11] (Zb kk) (yd rfl rfl mr isAgg44 sizeOf44 Zf ?_))
  refine yp rfl (.fA rfl Vc) (yd rfl rfl mr isAgg44 sizeOf44 Gc ?_)
  refine ym rfl rfl (yp rfl (.fA rfl Yc) (yd rfl rfl mr isAgg3 sizeOf3 Gn ?_))
  refine yp rfl (.fA rfl Xu) (yd rfl rfl mr isAgg3 sizeOf3 Gb ?_)
  refine Zpx rfl kk (fs := []) (cs := []) rfl (vs := [_, _]) rfl hg (hf _ hmem) ss dd ?_
  refine yv [_, _] rfl rfl call69 (Vr _ _ oo oo) ?_
  have hl22 := Zu ((q.getD k T0).c) (φ (q.getD k T0).i (q.getD k T0).j)
  refine yv [_, _] rfl rfl call98 (Zbl _ _ oo oo) ?_
  have hl23 := Qs (Zi0 φ (q.take k)) (((q.getD k T0).c) * (φ (q.getD k T0).i (q.getD k T0).j))
  refine yt rfl rfl rfl Zq uu sizeOf44 rfl nb rfl ?_
  refine yn (zr (zp (.pN (k + 1) (.add rfl rfl)) (zm rfl (zn ?_)))); intro a w h
  rw [hstep] at h
  exact ⟨k + 1, ⟨oo, ((h.drop sl).factsSub (by simp)).sub sA⟩, oo⟩
 ·
  skip
  have heq_k : q.length = k := dF hc10
  subst heq_k
  rw [List.take_length] at h
  refine gC h (ze (zS (zd rfl mr isAgg44 sizeOf44 Zf ?_)))
  refine zt' rfl rfl Zq uu sizeOf44 rfl nb rfl ?_; intro a w h
  refine wpList_nil (wp_ret ?_)
  refine Jp h (Zd h rfl (.cell rfl mr isAgg44 sizeOf44 Zf)) ?_
  rfl
theorem C_unit (i j : Nat) (h : i + j ≤ 12) : Yi Tryz.prog 114 [.int .i64 ((i : Nat) : Int), .int .i64 ((j : Nat) : Int)] (Jf (mu i j)) := by
 refine fn_intro func114 rfl ntmps114 nb ?_
 intro S w0 a hS h
 refine gC h (zS (zz Xi fun b4 => zn (zS (zm rfl (zm rfl (zp (.pN (i + j) (.add rfl rfl)) (zp (.pN ((i + j) + 2) (.add rfl rfl)) (zm rfl (zm rfl (zB [(_, _), (_, _)] rfl (Zjm _ _) fun b11 => ?_)))))))))); clear h; intro a w h
 replace h := h.shareAll hS (List.map Zo ([i, j])) rfl
 refine gL h (zw [_, _] rfl call113 (Ztd (i + j + 2) [i, j] _ _ oo ss (by simp; omega)) (zt' rfl rfl Zq uu sizeOf44 rfl nb rfl ?_)); clear h; intro a w h
 refine wpList_nil (wp_ret ?_)
 refine Jp h (Zd h rfl (.cell rfl mr isAgg44 sizeOf44 Zf)) ?_
 rw [Zq9]
theorem C_way (i j : Nat) (h : i ≤ 12) : Yi Tryz.prog 59 [.int .i64 ((i : Nat) : Int), .int .i64 ((j : Nat) : Int)] (Jf (lam i j)) := by
 refine fn_intro func59 rfl ntmps59 nb ?_
 intro S w0 a hS h
 refine gC h (zS (zz Xi fun b4 => zn (zS (zm rfl (zp (.pN (i + 1) (.add rfl rfl)) (zv [_, _] rfl call60 (Qfj _ _ oo oo oo oo oo) ?_))))))
 have hl10 := Zi1 (1) (((i + 1 : Nat) : Int)) oo oo oo oo
 refine zm rfl (zp (.eX rfl) (zp (.eX rfl) (zz Xi fun b5 => zt' rfl rfl Zq uu sizeOf44 rfl nb rfl ?_)))
 refine za rfl (zn (zS (zd rfl mr isAgg44 sizeOf44 Zf ?_)))
 refine zt' rfl rfl Zq uu sizeOf44 rfl nb rfl ?_; intro a w h
 refine wpList_nil (wp_ret ?_)
 refine Jp h (Zd h rfl (.cell rfl mr isAgg44 sizeOf44 Zf)) ?_
 rfl
theorem Zd7 (p : List Tm) (ad : Option Addr) (cp d K Kp : Nat) (hq : Pq d K p) (hd : d ≤ 12) (pa pb pc : Pt) (ha : PtK Kp pa) (hb : PtK Kp pb) (hc : PtK Kp pc) (hKp : Kp ≤ 3000) (hK : K ≤ 300000) : Zae Tryz.prog 51 [.slice ad p.length cp, encPt pa, encPt pb, encPt pc] [Row ad (cellsOf Qn p)] (Jf (Yo p pa pb pc)) := by
 have hKT : KT d K (2 * Kp + 1) ≤ 520000 := by
  have := Nat.mul_le_mul_right (3 * (2 * Kp + 1) + 4) hd
  unfold KT; omega
 have hKS : KS d K (2 * Kp + 1) ≤ 47400000 := by
  have := Nat.mul_le_mul (show tri (d + 1) ≤ 91 from Nat.le_trans (Kz (show d + 1 ≤ 13 by omega)) dd) hKT
  unfold KS; omega
 have hS2 := Pq.triS hq hd ha hb hc
 have hlt := Znd hq hd ha hb hc
 have htw := Zgn ha hb hc
 have htm := Nat.mul_le_mul (show tri (d + 1) ≤ 91 from Nat.le_trans (Kz (show d + 1 ≤ 13 by omega)) dd) (show KS d K (2 * Kp + 1) + 301 ≤ 47400301 by omega)
 obtain ⟨ha1, ha2⟩ := ha
 obtain ⟨hb1, hb2⟩ := hb
 obtain ⟨hc1, hc2⟩ := hc
 have hl1 := Qx hb1 ha1
 have hl2 := Qx hb2 ha2
 have hl3 := Qx hc1 ha1
 have hl4 := Qx hc2 ha2
 refine fn_intro func51 rfl ntmps51 nb ?_
 intro S w0 a hS h
 refine gC h (zS (zx rfl fun b5 => zx rfl fun b6 => zx rfl fun b7 => zz Xi fun b8 => zn (zs (yD Za [0, 1, 3, 4, 2, 5, 6, 7, 8, 9] (Jd ⟨.inl rfl, .inl rfl, .inl rfl, .inl rfl, .inl rfl, .inl rfl, .inr ⟨9, 49, _, _, _, rfl, rfl, by decide, _, Jl⟩, .inr ⟨10, 49, _, _, _, rfl, rfl, by decide, _, Jl⟩, .inl rfl, .inl rfl, trivial⟩) (yd rfl rfl mr isAgg49 sizeOf49 Ze ?_))))); clear h
 refine yd rfl rfl mr isAgg49 sizeOf49 Ze ?_
 refine yd rfl rfl mr isAgg49 sizeOf49 Ze ?_
 refine yd rfl rfl mr isAgg49 sizeOf49 Ze ?_
 refine yv [_, _] rfl rfl call57 (Zg0 pb pa oo oo oo oo) (yv [_, _] rfl rfl call57 (Zg0 pc pa oo oo oo oo) (yz rfl Jl fun b9 => yz rfl Jl fun b10 => yt rfl rfl rfl Qr uu sizeOf49 rfl nb rfl ?_))
 refine yt rfl rfl rfl Qr uu sizeOf49 rfl nb rfl ?_
 refine yn (zS (zm rfl (zp (.indexAddr rfl rfl (Xa _ _)) (zd rfl mr isAgg44 sizeOf44 Jn ?_))))
 refine zp (.indexAddr rfl rfl (Xa _ _)) (zd rfl mr isAgg44 sizeOf44 Jn ?_)
 refine zp (.indexAddr rfl rfl (Xa _ _)) (zd rfl mr isAgg44 sizeOf44 Jn ?_)
 refine zp (.indexAddr rfl rfl (Jz _ _)) (zd rfl mr isAgg44 sizeOf44 Jm ?_)
 refine zp (.indexAddr rfl rfl (Jz _ _)) (zd rfl mr isAgg44 sizeOf44 Jm ?_)
 refine zp (.indexAddr rfl rfl (Jz _ _)) (zd rfl mr isAgg44 sizeOf44 Jm ?_)
 refine zf [_, _, _, _, _, _, _] rfl call58 (Zqj p _ _ d K hq (pb.1 - pa.1) (pc.1 - pa.1) pa.1 (pb.2 - pa.2) (pc.2 - pa.2) pa.2 (2 * Kp + 1) hd oo oo oo oo oo oo oo oo) ?_; rintro v32 Ψ32 ⟨ad32, c32, rfl, rfl⟩
 refine za rfl (zn (zS (za rfl (zn (zS (zd rfl mr isAgg49 sizeOf49 Ze ?_))))))
 refine zd rfl mr isAgg49 sizeOf49 Ze ?_
 refine zd rfl mr isAgg49 sizeOf49 Ze ?_
 refine zv [_, _, _] rfl call115 (Zyj pa pb pc Kp ⟨ha1, ha2⟩ ⟨hb1, hb2⟩ ⟨hc1, hc2⟩ oo) (zm rfl (zm rfl (zw [_, _] rfl call61 (Qcs (norm (shL p (pb.1 - pa.1) (pc.1 - pa.1) pa.1 (pb.2 - pa.2) (pc.2 - pa.2) pa.2)) _ _ 114 (KS d K (2 * Kp + 1)) 300 mu hS2.siz hS2.len oo call114 (fun t ht => Zny (C_unit t.i t.j (by have := hS2.deg t ht; omega)) []) (fun t ht => Zli _ _ (by have := hS2.deg t ht; omega))) (zv [_, _] rfl call69 (Vr _ _ oo oo) ?_))))
 have hl40 := Zu (twQ pa pb pc) (Zi0 mu (norm (shL p (pb.1 - pa.1) (pc.1 - pa.1) pa.1 (pb.2 - pa.2) (pc.2 - pa.2) pa.2)))
 refine zt' rfl rfl Zq uu sizeOf44 rfl nb rfl ?_; intro a w h
 refine wpList_nil (wp_ret ?_)
 refine Jp h (Zd h rfl (.cell rfl mr isAgg44 sizeOf44 Zf)) ?_
 rw [Zqr]
theorem Zjy (p : List Tm) (ad : Option Addr) (cp d K Kp : Nat) (hq : Pq d K p) (hd : d ≤ 12) (pa pb : Pt) (ha : PtK Kp pa) (hb : PtK Kp pb) (hk2 : 2 ≤ Kp) (hKp : Kp ≤ 3000) (hK : K ≤ 300000) : Zae Tryz.prog 11 [.slice ad p.length cp, encPt pa, encPt pb] [Row ad (cellsOf Qn p)] (Jf (Yh p pa pb)) := by
 have hKT : KT d K (2 * Kp + 1) ≤ 520000 := by
  have := Nat.mul_le_mul_right (3 * (2 * Kp + 1) + 4) hd
  unfold KT; omega
 have hKS : KS d K (2 * Kp + 1) ≤ 47400000 := by
  have := Nat.mul_le_mul (show tri (d + 1) ≤ 91 from Nat.le_trans (Kz (show d + 1 ≤ 13 by omega)) dd) hKT
  unfold KS; omega
 have hS2 := Pq.seg hq hd ha hb hk2
 obtain ⟨ha1, ha2⟩ := ha
 obtain ⟨hb1, hb2⟩ := hb
 have hl1 := Qx hb1 ha1
 have hl2 := Qx hb2 ha2
 have h0l := Vf
 refine fn_intro func11 rfl ntmps11 nb ?_
 intro S w0 a hS h
 refine gC h (zS (zx rfl fun b4 => zx rfl fun b5 => zz Xi fun b6 => zn (zS (zd rfl mr isAgg49 sizeOf49 Ze ?_))))
 refine zd rfl mr isAgg49 sizeOf49 Ze ?_
 refine zv [_, _] rfl call57 (Zg0 pb pa oo oo oo oo) (zp (.build [] rfl (Zl0)) (zz Jl fun b7 => zz Xi fun b8 => zt' rfl rfl Qr uu sizeOf49 rfl nb rfl ?_))
 refine zt' rfl rfl Zq uu sizeOf44 rfl nb rfl ?_; intro a w h
 refine gL h (zn (zS (zm rfl (zp (.indexAddr rfl rfl (Xa _ _)) (zd rfl mr isAgg44 sizeOf44 Jn ?_)))))
 refine zd rfl mr isAgg44 sizeOf44 Zf ?_
 refine zp (.indexAddr rfl rfl (Xa _ _)) (zd rfl mr isAgg44 sizeOf44 Jn ?_)
 refine zp (.indexAddr rfl rfl (Jz _ _)) (zd rfl mr isAgg44 sizeOf44 Jm ?_)
 refine zd rfl mr isAgg44 sizeOf44 Zf ?_
 refine zp (.indexAddr rfl rfl (Jz _ _)) (zd rfl mr isAgg44 sizeOf44 Jm ?_)
 refine zf [_, _, _, _, _, _, _] rfl call58 (Zqj p _ _ d K hq (pb.1 - pa.1) 0 pa.1 (pb.2 - pa.2) 0 pa.2 (2 * Kp + 1) hd oo oo oo oo oo oo oo oo) ?_; rintro v26 Ψ26 ⟨ad26, c26, rfl, rfl⟩
 refine za rfl (zn (zS (za rfl (zn (zS (zm rfl (zm rfl (zw [_, _] rfl call61 (Qcs (norm (shL p (pb.1 - pa.1) 0 pa.1 (pb.2 - pa.2) 0 pa.2)) _ _ 59 (KS d K (2 * Kp + 1)) 4 lam hS2.siz hS2.len oo call59 (fun t ht => Zny (C_way t.i t.j (by have := hS2.deg t ht; omega)) []) (fun t ht => Zr5 _ _ (by have := hS2.deg t ht; omega))) (zt' rfl rfl Zq uu sizeOf44 rfl nb rfl ?_))))))))); intro a w h
 refine wpList_nil (wp_ret ?_)
 refine Jp h (Zd h rfl (.cell rfl mr isAgg44 sizeOf44 Zf)) ?_
 rw [Zqw]
theorem tri91 {d : Nat} (hd : d ≤ 12) : tri (d + 1) ≤ 91 := Nat.le_trans (Kz (show d + 1 ≤ 13 by omega)) dd
theorem KT_cap {d K Kp : Nat} (hd : d ≤ 12) (hKp : Kp ≤ 3000) (hK : K ≤ 300000) : KT d K (2 * Kp + 1) ≤ 520000 := by
 have := Nat.mul_le_mul_right (3 * (2 * Kp + 1) + 4) hd
 unfold KT; omega
theorem KS_cap {d K Kp : Nat} (hd : d ≤ 12) (hKp : Kp ≤ 3000) (hK : K ≤ 300000) : KS d K (2 * Kp + 1) ≤ 47400000 := by
 have := Nat.mul_le_mul (tri91 hd) (KT_cap hd hKp hK)
 unfold KS; omega
theorem Qch {d K Kp : Nat} (hd : d ≤ 12) (hKp : Kp ≤ 3000) (hK : K ≤ 300000) : SG d K Kp ≤ 4400000000 := by
 have := Nat.mul_le_mul (tri91 hd) (show KS d K (2 * Kp + 1) + 5 ≤ 47400005 by have := KS_cap hd hKp hK; omega)
 unfold SG; omega
theorem Zd8 (p q : List Tm) (ad ad2 : Option Addr) (cp cq d d2 K K2 Kp : Nat) (hq : Pq d K p) (hq2 : Pq d2 K2 q) (hd : d ≤ 12) (hd2 : d2 ≤ 12) (pa pb : Pt) (ha : PtK Kp pa) (hb : PtK Kp pb) (hk2 : 2 ≤ Kp) (hKp : Kp ≤ 3000) (hK : K ≤ 300000) (hK2 : K2 ≤ 300000) : Zae Tryz.prog 16 [.slice ad p.length cp, .slice ad2 q.length cq, encPt pa, encPt pb] [Row ad (cellsOf Qn p), Row ad2 (cellsOf Qn q)] (Jf (Jq p q pa pb)) := by
 have hs1 := Zbx hq hd ha hb hk2
 have hs2 := Zbx hq2 hd2 ha hb hk2
 have hc1 := Qch hd hKp hK
 have hc2 := Qch hd2 hKp hK2
 obtain ⟨ha1, ha2⟩ := ha
 obtain ⟨hb1, hb2⟩ := hb
 have hl1 := Qx hb1 ha1
 have hl2 := Qx hb2 ha2
 refine fn_intro func16 rfl ntmps16 nb ?_
 intro S w0 a hS h
 refine gC h (zS (zx rfl fun b6 => zx rfl fun b7 => zz Xi fun b8 => zn (zS (zd rfl mr isAgg49 sizeOf49 Ze ?_))))
 refine zd rfl mr isAgg49 sizeOf49 Ze ?_
 refine zv [_, _] rfl call57 (Zg0 pb pa oo oo oo oo) (zz Jl fun b9 => zt' rfl rfl Qr uu sizeOf49 rfl nb rfl ?_)
 refine zn (zs (yD Za [0, 1, 2, 3, 4, 7, 8, 9, 10, 11, 5, 6, 12, 13, 14, 15] (Zb kk) (yp rfl (.indexAddr rfl rfl (Jz _ _)) (yd rfl rfl mr isAgg44 sizeOf44 Jm ?_))))
 refine ym rfl rfl (yd rfl rfl mr isAgg49 sizeOf49 Ze ?_)
 refine yd rfl rfl mr isAgg49 sizeOf49 Ze ?_
 refine yp rfl (.indexAddr rfl rfl (Xa _ _)) (yd rfl rfl mr isAgg44 sizeOf44 Jn ?_)
 refine ym rfl rfl (yd rfl rfl mr isAgg49 sizeOf49 Ze ?_)
 refine yd rfl rfl mr isAgg49 sizeOf49 Ze ?_
 refine yw [_, _, _] rfl rfl call11 (Zjy p _ _ d K Kp hq hd pa pb ⟨ha1, ha2⟩ ⟨hb1, hb2⟩ hk2 hKp hK) (yv [_, _] rfl rfl call69 (Vr _ _ oo oo) ?_)
 have hl19 := Zu (pb.2 - pa.2) (Yh p pa pb)
 refine yw [_, _, _] rfl rfl call11 (Zjy q _ _ d2 K2 Kp hq2 hd2 pa pb ⟨ha1, ha2⟩ ⟨hb1, hb2⟩ hk2 hKp hK2) (yv [_, _] rfl rfl call69 (Vr _ _ oo oo) ?_)
 have hl26 := Zu (pb.1 - pa.1) (Yh q pa pb)
 refine yv [_, _] rfl rfl call68 (Zb4 _ _ oo oo) ?_
 have hl27 := Qz ((pb.2 - pa.2) * (Yh p pa pb)) ((pb.1 - pa.1) * (Yh q pa pb))
 refine yt rfl rfl rfl Zq uu sizeOf44 rfl nb rfl ?_
 refine yn (zt ?_); intro a w h
 refine Jp h (Zd h rfl (.cell rfl mr isAgg44 sizeOf44 Zf)) ?_
 rfl
end
section
theorem Zld (a : Option Addr) (n c : Nat) (w : World) (ty : TypeId) (cs : Array Bool) : (Go.builtin .len #[146] ty cs #[.slice a n c]).run Tryz.prog w = .ok (.value (.int .i64 n)) w := by
 simp [go_sem]
theorem Zdx (b off n c j : Nat) (h : j < n) (w : World) : (Instr.indexAt 146 (.slice (some ⟨b, off, none⟩) n c) (.int .i64 (j : Int))).run Tryz.prog w = .ok (.pointer (some ⟨b, off + j * 10, none⟩)) w := by
 simpa using Xe runUnderlying146 sizeOf49 b off n c j h w
theorem Zw5 (b off : Nat) (w : World) : (Instr.indexAt 180 (.pointer (some ⟨b, off, none⟩)) (.int .i64 0)).run Tryz.prog w = .ok (.pointer (some ⟨b, off + 0, none⟩)) w := by
 simp [go_sem, Instr.indexAt]
theorem Zlj (b off j : Nat) (h : j < 13) (w : World) : (Instr.indexAt 180 (.pointer (some ⟨b, off, none⟩)) (.int .i64 (j : Int))).run Tryz.prog w = .ok (.pointer (some ⟨b, off + j * 5, none⟩)) w := Zpv runUnderlying180 sizeOf44 b off j h w
def Zxf (p : List Tm) (l : List Pt) : Nat → Rat
 | 0 => 0
 | k + 1 => Zxf p l k + Yo p (l.getD 0 (0, 0)) (l.getD (k + 1) (0, 0)) (l.getD (k + 2) (0, 0))
theorem Qcb (p : List Tm) (x : Pt) (r : List Pt) : ∀ k, Zxf p (x :: r) k = Zzc p x r k
 | 0 => rfl
 | k + 1 => by rw [Zxf, Zzc, Qcb p x r k]; simp only [List.getD_cons_zero, List.getD_cons_succ]
theorem Zxe (p : List Tm) : ∀ l : List Pt, Zxf p l (l.length - 2) = Ks p l
 | [] => rfl
 | x :: r => by rw [Qcb, ← Zz4]; congr 1
theorem Znf {d K Kp : Nat} {p : List Tm} (hq : Pq d K p) (hd : d ≤ 12) {l : List Pt} (hl : ∀ x ∈ l, PtK Kp x) : ∀ k, k + 2 ≤ l.length → Qa (Zxf p l k) ≤ 2 + k * (TR d K Kp + 1)
 | 0, _ => by rw [Zxf]; have := Vf; omega
 | k + 1, hk => by
  have ih := Znf hq hd hl k oo
  have h1 := Zau hq hd (hl _ (getD_mem l (d := (0, 0)) (show 0 < l.length by omega))) (hl _ (getD_mem l (d := (0, 0)) (show k + 1 < l.length by omega))) (hl _ (getD_mem l (d := (0, 0)) (show k + 2 < l.length by omega)))
  have h2 := Qs (Zxf p l k) (Yo p (l.getD 0 (0, 0)) (l.getD (k + 1) (0, 0)) (l.getD (k + 2) (0, 0)))
  rw [Zxf, Nat.add_mul]; omega
theorem Zbm (p : List Tm) (ad ad2 : Option Addr) (cp cl d K Kp : Nat) (l : List Pt) (hq : Pq d K p) (hd : d ≤ 12) (hl : ∀ x ∈ l, PtK Kp x) (hn : l.length ≤ 100) (hKp : Kp ≤ 3000) (hK : K ≤ 300000) (ht : 100 * (TR d K Kp + 1) ≤ 9000000000) : Zae Tryz.prog 52 [.slice ad p.length cp, .slice ad2 l.length cl] [Row ad (cellsOf Qn p), Row ad2 (cellsOf encPt l)] (Jf (Ks p l)) := by
 refine fn_intro func52 rfl ntmps52 nb ?_
 intro S w0 a hS h
 refine gC h (zS (zz Xi fun b4 => zn (zs (zS (za rfl (zn (zb ?_))))))); clear h; intro a w h
 refine Zg (fun (k : Nat) a w => k ≤ (l.length - 2) ∧ St 29 S w0 [(0, .slice ad p.length cp), (1, .slice ad2 l.length cl), (4, pB b4), (5, nI (k + 2))] [(b4, bV (Jf (Zxf p l k)) 44)] [Row ad (cellsOf Qn p), Row ad2 (cellsOf encPt l)] a w) (fun k => (l.length - 2) - k) 0 (⟨Nat.zero_le _, by exact (h).sub sA⟩) ?_; clear h
 rintro k a w ⟨hi_k, h⟩
 refine gC h (zs (zS (zm rfl (zm rfl (zp (.builtin [_] rfl (Zld _ _ _)) (zp (.lss rfl rfl) (zn ?_))))))); clear h; intro a w h
 refine cW ?_
 refine Zc h rfl (fun hc9 => ?_) (fun hc9 => ?_)
 ·
  skip
  have hlt_k : k < (l.length - 2) := dT hc9
  obtain ⟨B_ad2, O_ad2, rfl⟩ := h.row_addr (ad := ad2) (M := cellsOf encPt l) mm (nE 10)
  have hm0 := hl _ (getD_mem l (d := (0, 0)) (show 0 < l.length by omega))
  have hm1 := hl _ (getD_mem l (d := (0, 0)) (show k + 1 < l.length by omega))
  have hm2 := hl _ (getD_mem l (d := (0, 0)) (show k + 2 < l.length by omega))
  have hfl := Znf hq hd hl k oo
  have hfk := Nat.mul_le_mul_right (TR d K Kp + 1) (show k ≤ 100 by omega)
  have htr := Zau hq hd hm0 hm1 hm2
  refine gC h (zk (zs (zb (yD Za [0, 1, 2, 3, 4, 5, 6, 7, 8, 9, 10, 11, 12, 13, 14, 15, 16] (Zb kk) (yd rfl rfl mr isAgg44 sizeOf44 Zf ?_))))); clear h
  refine ym rfl rfl (ym rfl rfl (yp rfl (.indexAddr rfl rfl (Zdx _ _ _ _ 0 oo)) ?_))
  refine Zm rfl kk rfl mm (cells_lt (k := 10) dd (fun _ => rfl) l 0 oo) isAgg49 sizeOf49 (Qb (k := 10) (fun _ => rfl) ((fun _ => rfl)) l (0, 0) 0 oo) (.inl rfl) dd ?_
  refine ym rfl rfl (ym rfl rfl (yp rfl (.pO (k + 1) (.sub rfl rfl)) (yp rfl (.indexAddr rfl rfl (Zdx _ _ _ _ _ oo)) ?_)))
  refine Zm rfl kk rfl mm (cells_lt (k := 10) dd (fun _ => rfl) l (k + 1) oo) isAgg49 sizeOf49 (Qb (k := 10) (fun _ => rfl) ((fun _ => rfl)) l (0, 0) (k + 1) oo) (.inl rfl) dd ?_
  refine ym rfl rfl (ym rfl rfl (yp rfl (.indexAddr rfl rfl (Zdx _ _ _ _ _ oo)) ?_))
  refine Zm rfl kk rfl mm (cells_lt (k := 10) dd (fun _ => rfl) l (k + 2) oo) isAgg49 sizeOf49 (Qb (k := 10) (fun _ => rfl) ((fun _ => rfl)) l (0, 0) (k + 2) oo) (.inl rfl) dd ?_
  refine yw [_, _, _, _] rfl rfl call51 (Zd7 p ad cp d K Kp hq hd (l.getD 0 (0, 0)) (l.getD (k + 1) (0, 0)) (l.getD (k + 2) (0, 0)) hm0 hm1 hm2 hKp hK) (yv [_, _] rfl rfl call98 (Zbl _ _ oo oo) ?_)
  have hl27 := Qs (Zxf p l k) (Yo p (l.getD 0 (0, 0)) (l.getD (k + 1) (0, 0)) (l.getD (k + 2) (0, 0)))
  refine yt rfl rfl rfl Zq uu sizeOf44 rfl nb rfl ?_
  refine yn (zr (zm rfl (zp (.pN ((k + 2) + 1) (.add rfl rfl)) (za rfl (zn ?_))))); intro a w h
  exact ⟨k + 1, ⟨oo, (h.factsSub (by simp)).sub sA⟩, oo⟩
 ·
  skip
  have heq_k : (l.length - 2) = k := dF hc9
  have hend : Zxf p l k = Ks p l := by rw [← Zxe, heq_k]
  rw [hend] at h
  refine gC h (ze (zS (zd rfl mr isAgg44 sizeOf44 Zf ?_)))
  refine zt' rfl rfl Zq uu sizeOf44 rfl nb rfl ?_; intro a w h
  refine wpList_nil (wp_ret ?_)
  refine Jp h (Zd h rfl (.cell rfl mr isAgg44 sizeOf44 Zf)) ?_
  rfl
def pwN (x : Rat) : Nat → List Rat
 | 0 => (List.replicate 13 (0 : Rat)).set 0 ((1 : Int) : Rat)
 | i + 1 => (pwN x i).set (i + 1) ((pwN x i).getD i 0 * x)
theorem Ki (x : Rat) : ∀ i, (pwN x i).length = 13
 | 0 => rfl
 | i + 1 => by rw [pwN, List.length_set, Ki x i]
theorem Ze3 (x : Rat) : ∀ i k, i ≤ 12 → k ≤ i → (pwN x i).getD k 0 = x ^ k
 | 0, k, _, h => by
  have : k = 0 := oo
  subst this
  rw [Rat.pow_zero]; rfl
 | i + 1, k, h, hk => by
  have hl := Ki x i
  rw [pwN, List.getD_eq_getElem?_getD, List.getElem?_set]
  by_cases e : i + 1 = k
  ·
   subst e
   rw [if_pos rfl, if_pos oo, Option.getD_some, Ze3 x i i oo (Nat.le_refl _), Rat.pow_succ]
  · rw [if_neg e, ← List.getD_eq_getElem?_getD, Ze3 x i k oo oo]
theorem Zck {K : Nat} {x : Rat} (hx : Qa x ≤ K) : ∀ k : Nat, Qa (x ^ k) ≤ 2 + k * K
 | 0 => by rw [Rat.pow_zero]; have := Zab; omega
 | k + 1 => by
  have := Zck hx k
  have := Zu (x ^ k) x
  rw [Rat.pow_succ, Nat.add_mul]; omega
theorem read_whole (cs : Array Value) (n : Nat) (h : cs.size = n) : Qo true n cs 0 = some (.agg cs) := by
 unfold Qo
 rw [if_pos rfl, if_pos oo]
 congr 2
 rw [Nat.zero_add]
 exact Array.extract_eq_self_of_le oo
theorem Zms (cs : Array Value) (vs : List Value) (h : cs.size = vs.length) : Qu cs 0 vs = vs.toArray := by
 have := Gr vs [] cs.toList [] (by simpa using h)
 simpa using this
theorem szA (l : List Rat) (h : l.length = 13) : (cellsOf Jf l).toArray.size = 65 := by
 show (cellsOf Jf l).length = 65
 rw [cellsOf_length (k := 5) (fun _ => rfl), h]
theorem Zzp (l : List Rat) (h : l.length = 13) : Qu (cellsOf Jf l).toArray 0 (encA l).cells.toList = (cellsOf Jf l).toArray := Zms _ _ (by show (cellsOf Jf l).toArray.size = (cellsOf Jf l).length; rfl)
theorem Zj4 (m l : List Rat) (h : l.length = 13) (hm : m.length = 13) : Qu (cellsOf Jf m).toArray 0 (encA l).cells.toList = (cellsOf Jf l).toArray :=
 Zms _ _ (by show (cellsOf Jf m).length = (cellsOf Jf l).length; rw [cellsOf_length (k := 5) (fun _ => rfl), cellsOf_length (k := 5) (fun _ => rfl), h, hm])
theorem leA (l : List Rat) (h : l.length = 13) : 0 + 65 ≤ (cellsOf Jf l).toArray.size := by rw [szA l h]; decide
theorem Qav : ∀ l : List Rat, (cellsOf Jf l).all flat = true
 | [] => rfl
 | t :: l => by
  have h := Qav l
  rw [show t :: l = [t] ++ l from rfl, Zw, Je, List.all_append, h]; rfl
def PWf (x y : Rat) : Nat → Nat → Rat := fun i j => (pwN x 12).getD i 0 * (pwN y 12).getD j 0
theorem Qck (x y : Rat) (i j : Nat) (hi : i ≤ 12) (hj : j ≤ 12) : PWf x y i j = x ^ i * y ^ j := by unfold PWf; rw [Ze3 x 12 i oo hi, Ze3 y 12 j oo hj]
theorem at_ev {p : List Tm} (x y : Rat) (hd : DL 12 (norm p)) : Zi0 (PWf x y) (norm p) = evP p x y := by
 rw [Zpp, ← (Eqv.nrm p).val x y]
 exact Jo (fun t ht => Qck x y t.i t.j (by have := hd t ht; omega) (by have := hd t ht; omega))
theorem Zr8 {K : Nat} {x y : Rat} (hx : Qa x ≤ K) (hy : Qa y ≤ K) (i j : Nat) (h : i + j ≤ 12) : Qa (PWf x y i j) ≤ 4 + 12 * K := by
 rw [Qck x y i j oo oo]
 have h1 := Zck hx i
 have h2 := Zck hy j
 have h3 := Zu (x ^ i) (y ^ j)
 have h4 := Nat.mul_le_mul_right K h
 rw [Nat.add_mul] at h4
 omega
theorem Ztc (x : Rat) (K : Nat) (hx : Qa x ≤ K) (hK : K ≤ 10000000) : Yi Tryz.prog 139 [Jf x] (encA (pwN x 12)) := by
 refine fn_intro func139 rfl ntmps139 nb ?_
 intro S w0 a hS h
 refine gC h (zS (zx rfl fun b1 => zz Zu0 fun b2 => zn (zS (zv [_] rfl call45 (Gl _ oo oo) ?_))))
 have hl4 := Qe (1) oo oo
 refine zp (.indexAddr rfl rfl (Zw5 _ _)) (zt' (b := b2) (cs := (cellsOf Jf (List.replicate 13 (0 : Rat))).toArray) (cs' := (cellsOf Jf ((List.replicate 13 (0 : Rat)).set 0 (((1 : Int) : Rat)))).toArray) (v := Jf (((1 : Int) : Rat))) rfl rfl (Vh (k := 5) (fun _ => rfl) (List.replicate 13 (0 : Rat)) 0 dd (((1 : Int) : Rat))) uu sizeOf44 rfl (Gk (k := 5) (fun _ => rfl) (List.replicate 13 (0 : Rat)) 0 dd) rfl ?_)
 refine zn (zs (zS (zm rfl (zn (zb ?_))))); intro a w h
 refine Zg (fun (i : Nat) a w => i ≤ 12 ∧ St 19 S w0 [(1, pB b1), (2, pB b2), (6, nI i)] [(b2, .cells (cellsOf Jf (pwN x i)).toArray 180 (0, 0)), (b1, bV (Jf (x)) 44)] [] a w) (fun i => 12 - i) 0 (⟨Nat.zero_le _, by exact (h).sub sA⟩) ?_; clear h
 rintro i a w ⟨hi_i, h⟩
 refine gC h (zS (zp (.lss rfl rfl) (zn (zs ?_)))); clear h; intro a w h
 refine Zc h rfl (fun hc7 => ?_) (fun hc7 => ?_)
 ·
  skip
  have hlt_i : i < 12 := dT hc7
  have hlp := Zck hx i
  rw [← Ze3 x i i oo (Nat.le_refl _)] at hlp
  have him := Nat.mul_le_mul (show i ≤ 12 by omega) hK
  refine gC h (zk (zs (zb (zS (zm rfl (za rfl (zn (yD Za [0, 1, 2, 3, 4, 5, 6, 7, 8] (Zb kk) (ym rfl rfl (yp rfl (.pN (i + 1) (.add rfl rfl)) (ym rfl rfl (yp rfl (.indexAddr rfl rfl (Zlj _ _ _ oo)) (yd rfl rfl mm isAgg44 sizeOf44 (Zbc (k := 5) (fun _ => rfl) ((fun _ => rfl)) (pwN x i) 0 i (by rw [Ki]; omega)) ?_))))))))))))); clear h
  refine yd rfl rfl mr isAgg44 sizeOf44 Zf ?_
  refine yv [_, _] rfl rfl call69 (Vr _ _ oo oo) ?_
  have hl15 := Zu ((pwN x i).getD i 0) (x)
  refine yp rfl (.indexAddr rfl rfl (Zlj _ _ _ oo)) ?_
  refine Za1 (b := b2) (cs := (cellsOf Jf (pwN x i)).toArray) (cs' := (cellsOf Jf ((pwN x i).set (i + 1) (((pwN x i).getD i 0) * x))).toArray) (v := Jf (((pwN x i).getD i 0) * x)) rfl kk rfl rfl (Vh (k := 5) (fun _ => rfl) (pwN x i) (i + 1) (by rw [Ki]; omega) (((pwN x i).getD i 0) * x)) uu sizeOf44 rfl (Gk (k := 5) (fun _ => rfl) (pwN x i) (i + 1) (by rw [Ki]; omega)) rfl ?_
  refine yn (zr (zp (.pN (i + 1) (.add rfl rfl)) (zm rfl (zn ?_)))); intro a w h
  exact ⟨i + 1, ⟨oo, h.sub sA⟩, oo⟩
 ·
  skip
  have heq_i : 12 = i := dF hc7
  subst heq_i
  refine gC h (ze (zS (zd rfl mm isAgg180 sizeOf180 (read_whole _ 65 (szA _ (Ki _ _))) ?_)))
  refine zt' rfl rfl (Zzp (pwN x 12) (Ki x 12)) uu sizeOf180 (szA (pwN x 12) (Ki x 12)) (by exact leA (pwN x 12) (Ki x 12)) (Qav (pwN x 12)) ?_; intro a w h
  refine wpList_nil (wp_ret ?_)
  exact Jp h (Zd h rfl (.cell rfl mr isAgg180 sizeOf180 (read_whole _ 65 (szA _ (Ki _ _))))) rfl
theorem C_At (p : List Tm) (ad : Option Addr) (c d K Kx : Nat) (hq : Pq d K p) (hd : d ≤ 12) (x y : Rat) (hx : Qa x ≤ Kx) (hy : Qa y ≤ Kx) (hK : K ≤ 10000000) (hKx : Kx ≤ 1000000) : Zae Tryz.prog 78 [.slice ad p.length c, Jf x, Jf y] [Row ad (cellsOf Qn p)] (Jf (evP p x y)) := by
 have hn91 := hq.n91 hd
 refine fn_intro func78 rfl ntmps78 nb ?_
 intro S w0 a hS h
 refine gC h (zS (zx rfl fun b4 => zx rfl fun b5 => zz Xi fun b6 => zn (zs (yD Za [0, 2, 1, 3, 4, 5, 6, 7] (Jd ⟨.inl rfl, .inl rfl, .inl rfl, .inl rfl, .inr ⟨7, 180, _, _, _, rfl, rfl, by decide, _, Zu0⟩, .inr ⟨8, 180, _, _, _, rfl, rfl, by decide, _, Zu0⟩, .inl rfl, .inl rfl, trivial⟩) (yd rfl rfl mr isAgg44 sizeOf44 Zf ?_))))); clear h
 refine yd rfl rfl mr isAgg44 sizeOf44 Zf ?_
 refine yv [_] rfl rfl call139 (Ztc x Kx hx oo) (yv [_] rfl rfl call139 (Ztc y Kx hy oo) (yz rfl Zu0 fun b7 => yz rfl Zu0 fun b8 => yt rfl rfl rfl (Zj4 (List.replicate 13 0) (pwN x 12) (Ki x 12) rfl) uu sizeOf180 (szA (pwN x 12) (Ki x 12)) (by exact leA (List.replicate 13 0) rfl) (Qav (pwN x 12)) ?_))
 refine yt rfl rfl rfl (Zj4 (List.replicate 13 0) (pwN y 12) (Ki y 12) rfl) uu sizeOf180 (szA (pwN y 12) (Ki y 12)) (by exact leA (List.replicate 13 0) rfl) (Qav (pwN y 12)) ?_
 refine yn (zs (zS (zm rfl (zf [_] rfl call82 (Za3 p _ _ d K hq hd oo) ?_)))); rintro v16 Ψ16 ⟨ad16, c16, rfl, rfl⟩
 refine zp (.builtin [_] rfl (Jc _ _ _)) (zm rfl (zn (zb ?_))); intro a w h
 refine Zg (fun (k : Nat) a w => k ≤ (norm p).length ∧ St 38 S w0 [(6, pB b6), (7, pB b7), (8, pB b8), (16, .slice ad16 ((norm p).length) c16), (17, nI ((norm p).length)), (18, nI k)] [(b8, .cells (cellsOf Jf (pwN y 12)).toArray 180 (0, 0)), (b7, .cells (cellsOf Jf (pwN x 12)).toArray 180 (0, 0)), (b6, bV (Jf (Zi0 (PWf x y) ((norm p).take k))) 44), (b5, bV (Jf (y)) 44), (b4, bV (Jf (x)) 44)] [Row ad16 (cellsOf Qn (norm p)), Row ad (cellsOf Qn p)] a w) (fun k => (norm p).length - k) 0 (⟨Nat.zero_le _, by exact (h).sub sA⟩) ?_; clear h
 rintro k a w ⟨hi_k, h⟩
 refine gC h (zS (zp (.lss rfl rfl) (zn (zs ?_)))); clear h; intro a w h
 refine Zc h rfl (fun hc19 => ?_) (fun hc19 => ?_)
 ·
  skip
  have hlt_k : k < (norm p).length := dT hc19
  obtain ⟨B_ad16, O_ad16, rfl⟩ := h.row_addr (ad := ad16) (M := cellsOf Qn (norm p)) mm (nE 7)
  have hmem := getD_mem (norm p) (d := T0) hlt_k
  have hck := hq.nsz _ hmem
  have hdg := (Jr hq.deg) _ hmem
  have hpx := Zck hx ((norm p).getD k T0).i
  have hpy := Zck hy ((norm p).getD k T0).j
  rw [← Ze3 x 12 ((norm p).getD k T0).i oo oo] at hpx
  rw [← Ze3 y 12 ((norm p).getD k T0).j oo oo] at hpy
  have hix := Nat.mul_le_mul (show ((norm p).getD k T0).i ≤ 12 by omega) hKx
  have hjx := Nat.mul_le_mul (show ((norm p).getD k T0).j ≤ 12 by omega) hKx
  have hix2 := Nat.mul_le_mul_left ((norm p).getD k T0).i (Nat.le_refl Kx)
  have hlk := Zcl (φ := PWf x y) (Kf := 4 + 12 * Kx) k oo hq.nsz (fun t ht => Zr8 hx hy t.i t.j (by have := (Jr hq.deg) t ht; omega))
  have hkm := Nat.mul_le_mul (show k ≤ 91 by omega) (show K + (4 + 12 * Kx) + 1 ≤ 22000005 by omega)
  have hstep : Zi0 (PWf x y) ((norm p).take k) + ((norm p).getD k T0).c * ((pwN x 12).getD ((norm p).getD k T0).i 0 * (pwN y 12).getD ((norm p).getD k T0).j 0) = Zi0 (PWf x y) ((norm p).take (k + 1)) := by rw [take_snoc _ hlt_k, Ziz]; rfl
  refine gC h (zk (zs (zb (zS (zp (.indexAddr rfl rfl (Zf0 _ _ _ _ _ oo)) (zD rfl mm (cells_lt (k := 7) dd (fun _ => rfl) (norm p) k oo) isAgg117 sizeOf117 (Qb (k := 7) (fun _ => rfl) ((fun _ => rfl)) (norm p) T0 k oo) (.inl rfl) ?_))))))
  refine zz Zcr fun b10 => zt' rfl rfl Ke uu sizeOf117 rfl nb rfl ?_
  refine zn (yD Za [0, 1, 2, 3, 4, 5, 6, 7, 8, 9, 10, 11, 12, 13, 14] (Zb kk) (yd rfl rfl mr isAgg44 sizeOf44 Zf ?_))
  refine yp rfl (.fA rfl Vc) (yd rfl rfl mr isAgg44 sizeOf44 Gc ?_)
  refine yp rfl (.fA rfl Yc) (yd rfl rfl mr isAgg3 sizeOf3 Gn ?_)
  refine yp rfl (.indexAddr rfl rfl (Zlj _ _ _ oo)) (yd rfl rfl mm isAgg44 sizeOf44 (Zbc (k := 5) (fun _ => rfl) ((fun _ => rfl)) (pwN x 12) 0 (((norm p).getD k T0).i) (by rw [Ki]; omega)) ?_)
  refine yp rfl (.fA rfl Xu) (yd rfl rfl mr isAgg3 sizeOf3 Gb ?_)
  refine yp rfl (.indexAddr rfl rfl (Zlj _ _ _ oo)) (yd rfl rfl mm isAgg44 sizeOf44 (Zbc (k := 5) (fun _ => rfl) ((fun _ => rfl)) (pwN y 12) 0 (((norm p).getD k T0).j) (by rw [Ki]; omega)) ?_)
  refine yv [_, _] rfl rfl call69 (Vr _ _ oo oo) ?_
  have hl33 := Zu ((pwN x 12).getD (((norm p).getD k T0).i) 0) ((pwN y 12).getD (((norm p).getD k T0).j) 0)
  refine yv [_, _] rfl rfl call69 (Vr _ _ oo oo) ?_
  have hl34 := Zu (((norm p).getD k T0).c) (((pwN x 12).getD (((norm p).getD k T0).i) 0) * ((pwN y 12).getD (((norm p).getD k T0).j) 0))
  refine yv [_, _] rfl rfl call98 (Zbl _ _ oo oo) ?_
  have hl35 := Qs (Zi0 (PWf x y) ((norm p).take k)) ((((norm p).getD k T0).c) * (((pwN x 12).getD (((norm p).getD k T0).i) 0) * ((pwN y 12).getD (((norm p).getD k T0).j) 0)))
  refine yt rfl rfl rfl Zq uu sizeOf44 rfl nb rfl ?_
  refine yn (zr (zp (.pN (k + 1) (.add rfl rfl)) (zm rfl (zn ?_)))); intro a w h
  rw [hstep] at h
  exact ⟨k + 1, ⟨oo, ((h.drop sl).factsSub (by simp)).sub sA⟩, oo⟩
 ·
  skip
  have heq_k : (norm p).length = k := dF hc19
  subst heq_k
  rw [List.take_length, at_ev x y ((Jr hq.deg).mono hd)] at h
  refine gC h (ze (zS (zd rfl mr isAgg44 sizeOf44 Zf ?_)))
  refine zt' rfl rfl Zq uu sizeOf44 rfl nb rfl ?_; intro a w h
  refine wpList_nil (wp_ret ?_)
  refine Jp h (Zd h rfl (.cell rfl mr isAgg44 sizeOf44 Zf)) ?_
  rfl
end
section
theorem Zrz {φ : Nat → Nat → Rat} : ∀ {l : List Tm}, (∀ t ∈ l, φ t.i t.j = 0) → lin φ l = 0
 | [], _ => rfl
 | t :: l, h => by rw [lin, h t List.mem_cons_self, Zrz (fun s hs => h s (List.mem_cons_of_mem _ hs))]; grind
theorem Zrm : ∀ {p : List Tm} {u : Tm}, Nrm p → u ∈ p → lin (at0 u.i u.j) p = u.c
 | [], _, _, h => nomatch h
 | t :: p, u, hn, h => by
  rcases List.mem_cons.1 h with rfl | h
  · exact Zbv hn
  ·
   have hlt := (List.pairwise_cons.1 hn.2).1 u h
   rw [lin, Zrm (Zk7 hn) h, at0, if_neg (by rw [Zb8] at hlt; omega)]; grind
theorem Qbe {l : List Tm} {a b : Nat} (h : lin (at0 a b) l ≠ 0) : ∃ u ∈ norm l, u.i = a ∧ u.j = b := by
 rw [← Gf] at h
 by_cases hc : ∃ u ∈ norm l, u.i = a ∧ u.j = b
 · exact hc
 · exact absurd (Yl (fun t ht h2 => hc ⟨t, ht, h2⟩)) h
theorem sub_self (a : List Tm) : norm (a ++ Qw (-1) a) = [] := by
 rw [Va (m := []) (fun φ => by rw [Jb, Xh, Zlc]; grind)]; exact Zk9
end
section
end
section
def cfT : List Tm → Int → Int → Rat
 | [], _, _ => 0
 | t :: l, i, j => if ((t.i : Nat) : Int) = i ∧ ((t.j : Nat) : Int) = j then t.c else cfT l i j
structure Tz where
 i : Int
 j : Int
 c : Rat
abbrev Tz0 : Tz := ⟨0, 0, 0⟩
abbrev encTz (t : Tz) : Value := .agg #[.int .i64 t.i, .int .i64 t.j, .int .u64 (Zet t.c.num.natAbs), .string (Zan t.c.num.natAbs), .bool (decide (t.c.num < 0)), .int .u64 (Zet (t.c.den - 1)), .string (Zan (t.c.den - 1))]
def mayZ (t : Tz) : Int := if t.i < 0 ∨ t.j < 0 then 1 else if t.i > 12 ∨ t.j > 12 - t.i then 9 else 0
def Qb9 : List Tz → Int
 | [] => 0
 | t :: l => if mayZ t = 0 then Qb9 l else mayZ t
end
section
theorem Jy (a : Option Addr) (n c : Nat) (w : World) (ty : TypeId) (cs : Array Bool) : (Go.builtin .len #[22] ty cs #[.slice a n c]).run Tryz.prog w = .ok (.value (.int .i64 n)) w := by
 simp [go_sem]
theorem Zlk (b off n c j : Nat) (h : j < n) (w : World) : (Instr.indexAt 22 (.slice (some ⟨b, off, none⟩) n c) (.int .i64 (j : Int))).run Tryz.prog w = .ok (.pointer (some ⟨b, off + j * 4, none⟩)) w := by
 simpa using Xe runUnderlying22 sizeOf78 b off n c j h w
theorem Zp0 {b off : Nat} (w : World) : (Instr.fieldAt 78 (.pointer (some ⟨b, off, none⟩)) 0).run Tryz.prog w = .ok (.pointer (some ⟨b, off + 0, none⟩)) w := by
 simp [go_sem]
theorem Zly (x : Int) (w : World) : (Go.convert 101 3 (.int .u64 x)).run Tryz.prog w = .ok (.int .i64 (IntKind.i64.wrap x)) w := by
 simp [go_sem]
theorem Zpz {b off : Nat} (w : World) : (Instr.fieldAt 78 (.pointer (some ⟨b, off, none⟩)) 1).run Tryz.prog w = .ok (.pointer (some ⟨b, off + 1, none⟩)) w := by
 simp [go_sem]
theorem Zpy {b off : Nat} (w : World) : (Instr.fieldAt 78 (.pointer (some ⟨b, off, none⟩)) 2).run Tryz.prog w = .ok (.pointer (some ⟨b, off + 2, none⟩)) w := by
 simp [go_sem]
theorem Zfc (x0 : Int) (x1 : Int) (x2_0 : Value) (x2_1 : Value) (w : World) : (Instr.build 78 [(0, .int .i64 x0), (1, .int .i64 x1), (2, .agg #[x2_0, x2_1])].toArray).run Tryz.prog w = .ok (.agg #[.int .i64 x0, .int .i64 x1, x2_0, x2_1]) w := by simp [go_sem]
theorem Zjo (x0_0 : Value) (x0_1 : Value) (x0_2 : Value) (x0_3 : Value) (w : World) : (Instr.buildSlice 22 1 [(0, .agg #[x0_0, x0_1, x0_2, x0_3])].toArray).run Tryz.prog w = .ok (.slice (some ⟨w.heap.size, 0, none⟩) 1 1) (w.alloc (.cells #[x0_0, x0_1, x0_2, x0_3] 78 (0, 0))) := by
 simp [go_sem]
theorem Zsb (b off : Nat) (w : World) : (Instr.indexAt 27 (.pointer (some ⟨b, off, none⟩)) (.int .i64 0)).run Tryz.prog w = .ok (.pointer (some ⟨b, off + 0, none⟩)) w := by
 simp [go_sem, Instr.indexAt]
theorem Zq7 {c0 c1 c2 c3 : Value} : Qo true 2 #[c0, c1, c2, c3] 0 = some (.agg #[c0, c1]) := rfl
theorem Zsa (b off : Nat) (w : World) : (Instr.indexAt 27 (.pointer (some ⟨b, off, none⟩)) (.int .i64 1)).run Tryz.prog w = .ok (.pointer (some ⟨b, off + 2, none⟩)) w := by
 simp [go_sem, Instr.indexAt]
theorem Zq6 {c0 c1 c2 c3 : Value} : Qo true 2 #[c0, c1, c2, c3] 2 = some (.agg #[c2, c3]) := rfl
variable {α : Type} {enc : α → Value} {k : Nat}
theorem Zbr (hk : ∀ x, (enc x).cells.size = k) (l : List α) (j o : Nat) (h : j < l.length) (ho : o < k) : j * k + o < (cellsOf enc l).length := by
 rw [cellsOf_length hk]
 have := Nat.mul_le_mul_right k (show j + 1 ≤ l.length from h)
 rw [Nat.add_mul] at this; omega
theorem Yf (hk : ∀ x, (enc x).cells.size = k) (l : List α) (d : α) (j : Nat) (h : j < l.length) (agg : Bool) (s o : Nat) (v : Value) (hos : o + s ≤ k) (h0 : 0 < s)
  (hv : Qo agg s (enc (l.getD j d)).cells o = some v) : Qo agg s (cellsOf enc l).toArray (j * k + o) = some v := by
 have hg : l.getD j d = l[j] := by simp [List.getD, h]
 rw [hg] at hv
 have hle : j * k + k ≤ (cellsOf enc l).length := by
  rw [cellsOf_length hk]
  have := Nat.mul_le_mul_right k (show j + 1 ≤ l.length from h)
  rw [Nat.add_mul] at this; omega
 have hsz := hk l[j]
 cases agg with
 | false =>
  simp only [Qo, Bool.false_eq_true, if_false] at hv ⊢
  have := Zdb hk l j o h oo
  rw [← hv]
  simpa using this
 | true =>
  simp only [Qo, if_true] at hv ⊢
  rw [if_pos oo] at hv
  rw [if_pos (by show _ ≤ (cellsOf enc l).length; omega), ← Option.some.inj hv]
  congr 2
  apply Array.ext
  · simp [hsz]; omega
  ·
   intro i h1 h2
   have hi : i < s := by simp [hsz] at h2; omega
   have := Zdb hk l j (o + i) h oo
   rw [List.getElem?_eq_getElem oo] at this
   simp at this ⊢
   rw [Array.getElem?_eq_getElem oo] at this
   have h3 := Option.some.inj this
   rw [← h3]
   congr 1; omega
structure Ti where
 i : Int
 j : Int
 n : Int
 d : Int
abbrev Ti0 : Ti := ⟨0, 0, 0, 0⟩
abbrev Gm (t : Ti) : Value := .agg #[.int .i64 t.i, .int .i64 t.j, .int .i64 t.n, .int .u32 t.d]
def OkT (t : Ti) : Prop := (-9223372036854775808 ≤ t.i ∧ t.i ≤ 9223372036854775807) ∧ (-9223372036854775808 ≤ t.j ∧ t.j ≤ 9223372036854775807) ∧ OkQ (t.n, t.d)
def uN (x : Int) : Nat := (x % 18446744073709551616).toNat
theorem Zot (x : Int) : IntKind.u64.wrap x = ((uN x : Nat) : Int) := by rw [Zag]; unfold uN; omega
def brI (d : Nat) (t : Ti) : Nat := uN t.i % (d + 1)
def brJ (d : Nat) (t : Ti) : Nat := uN t.j % (d - brI d t + 1)
theorem Zs3 (d : Nat) (t : Ti) : brI d t ≤ d := Nat.le_of_lt_succ (Nat.mod_lt _ (Nat.succ_pos d))
theorem Zs2 (d : Nat) (t : Ti) : brI d t + brJ d t ≤ d := by
 have h1 := Zs3 d t
 have h2 : brJ d t < d - brI d t + 1 := Nat.mod_lt _ (Nat.succ_pos _)
 omega
abbrev Zbq (d : Nat) (t : Ti) : Value := .agg #[.int .i64 ((brI d t : Nat) : Int), .int .i64 ((brJ d t : Nat) : Int), .int .i64 t.n, .int .u32 t.d]
def tmB (d : Nat) (t : Ti) : Tm := ⟨brI d t, brJ d t, qv t.n t.d⟩
def Xk (d : Nat) (l : List Ti) : List Tm := l.map (tmB d)
theorem Ze0 (l : List Ti) {j : Nat} (h : j < l.length) : l.take (j + 1) = l.take j ++ [l.getD j Ti0] := by
 rw [List.take_add_one, List.getElem?_eq_getElem h]; simp [List.getD, h]
theorem Zla (d : Nat) (l : List Ti) : DL d (Xk d l) := fun t ht => by
 obtain ⟨s, _, rfl⟩ := List.mem_map.1 ht
 exact Zs2 d s
theorem Zpk {d : Nat} {l : List Ti} (h : ∀ t ∈ l, OkT t) : KL 4 (Xk d l) := fun t ht => by
 obtain ⟨s, hs, rfl⟩ := List.mem_map.1 ht
 exact Zek (h s hs).2.2
theorem Zc4 {d m : Nat} {l : List Ti} (h : ∀ t ∈ l, OkT t) (hm : l.length ≤ m) (hm2 : m ≤ 20) (hd : d ≤ 12) : Pq d (m * 5 + 1) (norm (Xk d l)) :=
 (Pq.raw (Zla d l) (Zpk h) (by unfold Xk; rw [List.length_map]; exact hm) oo).nrm hd
abbrev Zak (q : (Int × Int) × (Int × Int)) : Value := .agg #[.int .i64 q.1.1, .int .u32 q.1.2, .int .i64 q.2.1, .int .u32 q.2.2]
def ptv (q : (Int × Int) × (Int × Int)) : Pt := (qvp q.1, qvp q.2)
def OkP (q : (Int × Int) × (Int × Int)) : Prop := OkQ q.1 ∧ OkQ q.2
theorem Zeq {q : (Int × Int) × (Int × Int)} (h : OkP q) : PtK 4 (ptv q) := ⟨Zek h.1, Zek h.2⟩
theorem Zgf (l : List Ti) (ad : Option Addr) (c d : Nat) (hd : d ≤ 12) (hn : l.length ≤ 1000) : Ctr Tryz.prog 8 [.slice ad l.length c, .int .i64 ((d : Nat) : Int)] [Row ad (cellsOf Gm l)] (fun v Ψ => ∃ ad' c', v = .slice ad' l.length c' ∧ Ψ = [Row ad' (cellsOf (Zbq d) l)]) := by
 refine fn_intro func8 rfl ntmps8 nb ?_
 intro S w0 a hS h
 refine gC h (zS (za rfl (zn (zS (za rfl (zn (zs (zS (za rfl (zn (zb ?_))))))))))); clear h; intro a w h
 refine Zg (fun (k : Nat) a w => k ≤ l.length ∧ ∃ (ad1 : Option Addr) (c1 : Nat) (o1 : List (Nat × Obj)), (GrowO 4 78 (.slice ad1 (l.take k).length c1) (l.take k).length (cellsOf (Zbq d) (l.take k)) o1) ∧ St 49 S w0 [(0, .slice ad l.length c), (1, nI d), (4, .slice none 0 0), (5, (.slice ad1 (l.take k).length c1)), (6, nI k)] (o1 ++ []) [Row ad (cellsOf Gm l)] a w) (fun k => l.length - k) 0 (⟨Nat.zero_le _, none, 0, [], GrowO.nil _ _, by exact (h).sub sA⟩) ?_; clear h
 rintro k a w ⟨hi_k, ad1, c1, o1, hG1, h⟩
 refine gC h (zs (zS (zm rfl (zm rfl (zp (.builtin [_] rfl (Jy _ _ _)) (zp (.lss rfl rfl) (zn ?_))))))); clear h; intro a w h
 refine cW ?_
 refine Zc h rfl (fun hc11 => ?_) (fun hc11 => ?_)
 ·
  skip
  have hlt_k : k < l.length := dT hc11
  obtain ⟨B_ad, O_ad, rfl⟩ := h.row_addr (ad := ad) (M := cellsOf Gm l) mm (nE 4)
  have hb1 := Zs3 d (l.getD k Ti0)
  have hb2 := Zs2 d (l.getD k Ti0)
  have hlk : (l.take k).length = k := by rw [List.length_take]; omega
  refine gC h (zk (zs (zb (zS (zm rfl (zm rfl (zp (.indexAddr rfl rfl (Zlk _ _ _ _ _ oo)) (zp (Pure1.cast (v' := .pointer (some ⟨B_ad, O_ad + (k * 4 + 0), none⟩)) (.fA rfl Zp0) (by rw [Nat.add_assoc])) (zD rfl mm (Zbr (k := 4) (enc := Gm) (fun _ => rfl) l k 0 oo dd) isAgg3 sizeOf3 (Yf (k := 4) (enc := Gm) (fun _ => rfl) l Ti0 k oo false 1 0 _ dd dd rfl) (.inr rfl) ?_)))))))))
  refine zp (Pure1.cast (v' := .int .u64 ((uN (l.getD k Ti0).i : Nat) : Int)) (.convert rfl (Zbz _)) (by rw [Zot])) (zm rfl (zp (.pN (d + 1) (.add rfl rfl)) (zp (Pure1.cast (v' := .int .u64 ((d + 1 : Nat) : Int)) (.convert rfl (Zbz _)) (by rw [wrap_u64 _ oo oo])) (zp (Pure1.cast (v' := .int .u64 ((brI d (l.getD k Ti0) : Nat) : Int)) (.binOp rfl rfl (fun _ => Ye _ _ _ _ _ oo)) (by rw [Xl]; rfl)) (zp (Pure1.cast (v' := .int .i64 ((brI d (l.getD k Ti0) : Nat) : Int)) (.convert rfl (Zly _)) (by rw [wrap_i64 _ oo oo])) (za rfl (zn (yD Za [0, 1, 2, 3, 4, 5, 6, 7, 8, 9, 10, 11, 12, 13, 14, 15, 16, 17, 18, 19, 20, 21, 22, 23] (Zb kk) (ym rfl rfl (ym rfl rfl (ym rfl rfl (ym rfl rfl (yp rfl (.indexAddr rfl rfl (Zlk _ _ _ _ _ oo)) (yp rfl (Pure1.cast (v' := .pointer (some ⟨B_ad, O_ad + (k * 4 + 1), none⟩)) (.fA rfl Zpz) (by rw [Nat.add_assoc])) ?_))))))))))))))
  refine Zm rfl kk rfl mm (Zbr (k := 4) (enc := Gm) (fun _ => rfl) l k 1 oo dd) isAgg3 sizeOf3 (Yf (k := 4) (enc := Gm) (fun _ => rfl) l Ti0 k oo false 1 1 _ dd dd rfl) (.inr rfl) dd ?_
  refine yp rfl (Pure1.cast (v' := .int .u64 ((uN (l.getD k Ti0).j : Nat) : Int)) (.convert rfl (Zbz _)) (by rw [Zot])) (ym rfl rfl (ym rfl rfl (yp rfl (.pO (d - (brI d (l.getD k Ti0))) (.sub rfl rfl)) (yp rfl (.pN ((d - (brI d (l.getD k Ti0))) + 1) (.add rfl rfl)) (yp rfl (Pure1.cast (v' := .int .u64 ((d - brI d (l.getD k Ti0) + 1 : Nat) : Int)) (.convert rfl (Zbz _)) (by rw [wrap_u64 _ oo oo])) (yp rfl (Pure1.cast (v' := .int .u64 ((brJ d (l.getD k Ti0) : Nat) : Int)) (.binOp rfl rfl (fun _ => Ye _ _ _ _ _ oo)) (by rw [Xl]; rfl)) (yp rfl (Pure1.cast (v' := .int .i64 ((brJ d (l.getD k Ti0) : Nat) : Int)) (.convert rfl (Zly _)) (by rw [wrap_i64 _ oo oo])) (ym rfl rfl (ym rfl rfl (yp rfl (.indexAddr rfl rfl (Zlk _ _ _ _ _ oo)) (yp rfl (Pure1.cast (v' := .pointer (some ⟨B_ad, O_ad + (k * 4 + 2), none⟩)) (.fA rfl Zpy) (by rw [Nat.add_assoc])) ?_)))))))))))
  refine Zm rfl kk rfl mm (Zbr (k := 4) (enc := Gm) (fun _ => rfl) l k 2 oo dd) isAgg25 sizeOf25 (Yf (k := 4) (enc := Gm) (fun _ => rfl) l Ti0 k oo true 2 2 _ dd dd rfl) (.inl rfl) dd ?_
  refine yp rfl (.build [(_, _), (_, _), (_, _)] rfl (Zfc _ _ _ _)) (yB rfl [(_, _)] rfl (Zjo _ _ _ _) fun b46 => ?_)
  refine Zai (σr := []) rfl kk rfl rfl (List.Perm.trans (List.Perm.refl _) (List.Perm.cons _ (List.Perm.refl _))) hG1 runUnderlying22 runUnderlying22 typeInfo78 sizeOf78 zeroValue78 rfl dd dd rfl rfl dd (by show 32 * (2 * ((l.take k).length + 1) + 192) ≤ 281474976710656; omega) dd ?_
  intro v47 o47 hG47
  obtain ⟨ad47, c47, rfl⟩ := hG47.is
  have hLn47 : (l.take k).length + 1 = ((l.take k) ++ [l.getD k Ti0]).length := lA
  rw [hLn47]; rw [hLn47] at hG47
  replace hG47 : GrowO 4 78 (.slice ad47 ((l.take k) ++ [l.getD k Ti0]).length c47) ((l.take k) ++ [l.getD k Ti0]).length (cellsOf (Zbq d) ((l.take k) ++ [l.getD k Ti0])) o47 := by rw [Zw, Je]; exact hG47
  refine yp rfl (.assign rfl) (yn (zr (zm rfl (zp (.pN (k + 1) (.add rfl rfl)) (za rfl (zn ?_)))))); intro a w h
  rw [← Ze0 l hlt_k] at h hG47
  exact ⟨k + 1, ⟨oo, ad47, c47, o47, hG47, by exact (h.factsSub (by simp)).sub sA⟩, oo⟩
 ·
  skip
  have heq_k : l.length = k := dF hc11
  subst heq_k
  rw [List.take_length] at h hG1
  replace h := St.shareO' h hS hG1
  refine gC h (ze (zS (zm rfl (za rfl (zn (zt ?_)))))); clear h; intro a w h
  refine Qk (Ψ := [Row _ (cellsOf (Zbq d) l)]) h (Zd h rfl (.tmp rfl)) ⟨_, _, rfl, rfl⟩ ss
theorem Zok (l : List Ti) (ad : Option Addr) (c d : Nat) (hok : ∀ t ∈ l, OkT t) (hn : l.length ≤ 1000) : Ctr Tryz.prog 12 [.slice ad l.length c] [Row ad (cellsOf (Zbq d) l)] (fun v Ψ => ∃ ad' c', v = .slice ad' (Xk d l).length c' ∧ Ψ = [Row ad' (cellsOf Qn (Xk d l))]) := by
 refine fn_intro func12 rfl ntmps12 nb ?_
 intro S w0 a hS h
 refine gC h (zS (za rfl (zn (zS (za rfl (zn (zs (zS (za rfl (zn (zb ?_))))))))))); clear h; intro a w h
 refine Zg (fun (k : Nat) a w => k ≤ l.length ∧ ∃ (ad1 : Option Addr) (c1 : Nat) (o1 : List (Nat × Obj)), (GrowO 7 117 (.slice ad1 (Xk d (l.take k)).length c1) (Xk d (l.take k)).length (cellsOf Qn (Xk d (l.take k))) o1) ∧ St 32 S w0 [(0, .slice ad l.length c), (2, .slice none 0 0), (3, (.slice ad1 (Xk d (l.take k)).length c1)), (4, nI k)] (o1 ++ []) [Row ad (cellsOf (Zbq d) l)] a w) (fun k => l.length - k) 0 (⟨Nat.zero_le _, none, 0, [], GrowO.nil _ _, by exact (h).sub sA⟩) ?_; clear h
 rintro k a w ⟨hi_k, ad1, c1, o1, hG1, h⟩
 refine gC h (zs (zS (zm rfl (zm rfl (zp (.builtin [_] rfl (Jy _ _ _)) (zp (.lss rfl rfl) (zn ?_))))))); clear h; intro a w h
 refine cW ?_
 refine Zc h rfl (fun hc8 => ?_) (fun hc8 => ?_)
 ·
  skip
  have hlt_k : k < l.length := dT hc8
  obtain ⟨B_ad, O_ad, rfl⟩ := h.row_addr (ad := ad) (M := cellsOf (Zbq d) l) mm (nE 4)
  obtain ⟨_, _, hqa, hqb, hqc, hqd⟩ := hok _ (getD_mem l (d := Ti0) hlt_k)
  have hlk : (Xk d (l.take k)).length = k := by unfold Xk; rw [List.length_map, List.length_take]; omega
  have hst : Xk d (l.take k) ++ [tmB d (l.getD k Ti0)] = Xk d (l.take (k + 1)) := by unfold Xk; rw [Ze0 l hlt_k, List.map_append]; rfl
  refine gC h (zk (zs (zb (yD Za [0, 1, 2, 3, 4, 5, 6, 7, 8, 9, 10, 11, 12, 13, 14, 15, 16, 17, 18, 19, 20] (Zb kk) (ym rfl rfl (ym rfl rfl (ym rfl rfl (yp rfl (.indexAddr rfl rfl (Zlk _ _ _ _ _ oo)) (yp rfl (Pure1.cast (v' := .pointer (some ⟨B_ad, O_ad + (k * 4 + 0), none⟩)) (.fA rfl Zp0) (by rw [Nat.add_assoc])) ?_))))))))); clear h
  refine Zm rfl kk rfl mm (Zbr (k := 4) (enc := (Zbq d)) (fun _ => rfl) l k 0 oo dd) isAgg3 sizeOf3 (Yf (k := 4) (enc := (Zbq d)) (fun _ => rfl) l Ti0 k oo false 1 0 _ dd dd rfl) (.inr rfl) dd ?_
  refine ym rfl rfl (ym rfl rfl (yp rfl (.indexAddr rfl rfl (Zlk _ _ _ _ _ oo)) (yp rfl (Pure1.cast (v' := .pointer (some ⟨B_ad, O_ad + (k * 4 + 1), none⟩)) (.fA rfl Zpz) (by rw [Nat.add_assoc])) ?_)))
  refine Zm rfl kk rfl mm (Zbr (k := 4) (enc := (Zbq d)) (fun _ => rfl) l k 1 oo dd) isAgg3 sizeOf3 (Yf (k := 4) (enc := (Zbq d)) (fun _ => rfl) l Ti0 k oo false 1 1 _ dd dd rfl) (.inr rfl) dd ?_
  refine ym rfl rfl (ym rfl rfl (yp rfl (.indexAddr rfl rfl (Zlk _ _ _ _ _ oo)) (yp rfl (Pure1.cast (v' := .pointer (some ⟨B_ad, O_ad + (k * 4 + 2), none⟩)) (.fA rfl Zpy) (by rw [Nat.add_assoc])) ?_)))
  refine Zm rfl kk rfl mm (Zbr (k := 4) (enc := (Zbq d)) (fun _ => rfl) l k 2 oo dd) isAgg25 sizeOf25 (Yf (k := 4) (enc := (Zbq d)) (fun _ => rfl) l Ti0 k oo true 2 2 _ dd dd rfl) (.inl rfl) dd ?_
  refine yv [_] rfl rfl call62 (Zyu ((l.getD k Ti0).n) ((l.getD k Ti0).d) oo oo oo oo) ?_
  have hl27 := Zc7 ((l.getD k Ti0).n) ((l.getD k Ti0).d) oo oo oo oo
  refine yp rfl (.build [(_, _), (_, _), (_, _)] rfl (Zal _ _ _ _ _ _ _)) (yB rfl [(_, _)] rfl (Zf9 _ _ _ _ _ _ _) fun b29 => ?_)
  refine Zai (σr := []) rfl kk rfl rfl (List.Perm.trans (List.Perm.refl _) (List.Perm.cons _ (List.Perm.refl _))) hG1 runUnderlying47 runUnderlying47 typeInfo117 sizeOf117 Zcr rfl dd dd rfl rfl dd (by show 72 * (2 * ((Xk d (l.take k)).length + 1) + 192) ≤ 281474976710656; omega) dd ?_
  intro v30 o30 hG30
  obtain ⟨ad30, c30, rfl⟩ := hG30.is
  have hLn30 : (Xk d (l.take k)).length + 1 = ((Xk d (l.take k)) ++ [(⟨brI d (l.getD k Ti0), brJ d (l.getD k Ti0), qv ((l.getD k Ti0).n) ((l.getD k Ti0).d)⟩ : Tm)]).length := lA
  rw [hLn30]; rw [hLn30] at hG30
  replace hG30 : GrowO 7 117 (.slice ad30 ((Xk d (l.take k)) ++ [(⟨brI d (l.getD k Ti0), brJ d (l.getD k Ti0), qv ((l.getD k Ti0).n) ((l.getD k Ti0).d)⟩ : Tm)]).length c30) ((Xk d (l.take k)) ++ [(⟨brI d (l.getD k Ti0), brJ d (l.getD k Ti0), qv ((l.getD k Ti0).n) ((l.getD k Ti0).d)⟩ : Tm)]).length (cellsOf Qn ((Xk d (l.take k)) ++ [(⟨brI d (l.getD k Ti0), brJ d (l.getD k Ti0), qv ((l.getD k Ti0).n) ((l.getD k Ti0).d)⟩ : Tm)])) o30 := by rw [Zw, Je]; exact hG30
  refine yp rfl (.assign rfl) (yn (zr (zm rfl (zp (.pN (k + 1) (.add rfl rfl)) (za rfl (zn ?_)))))); intro a w h
  rw [show (Xk d (l.take k) ++ [(⟨brI d (l.getD k Ti0), brJ d (l.getD k Ti0), qv (l.getD k Ti0).n (l.getD k Ti0).d⟩ : Tm)]) = Xk d (l.take (k + 1)) from hst] at h hG30
  exact ⟨k + 1, ⟨oo, ad30, c30, o30, hG30, by exact (h.factsSub (by simp)).sub sA⟩, oo⟩
 ·
  skip
  have heq_k : l.length = k := dF hc8
  subst heq_k
  rw [List.take_length] at h hG1
  replace h := St.shareO' h hS hG1
  refine gC h (ze (zS (zm rfl (za rfl (zn (zt ?_)))))); clear h; intro a w h
  refine Qk (Ψ := [Row _ (cellsOf Qn (Xk d l))]) h (Zd h rfl (.tmp rfl)) ⟨_, _, rfl, rfl⟩ ss
theorem Zju (l : List Ti) (ad : Option Addr) (c d m : Nat) (hok : ∀ t ∈ l, OkT t) (hd : d ≤ 12) (hn : l.length ≤ 1000) : Ctr Tryz.prog 96 [.slice ad l.length c, .int .i64 ((d : Nat) : Int)] [Row ad (cellsOf Gm l)] (fun v Ψ => ∃ ad' c', v = .slice ad' (norm (Xk d l)).length c' ∧ Ψ = [Row ad' (cellsOf Qn (norm (Xk d l)))]) := by
 refine fn_intro func96 rfl ntmps96 nb ?_
 intro S w0 a hS h
 refine gC h (zS (za rfl (zn (zS (zm rfl (zm rfl (zf [_, _] rfl call8 (Zgf l _ _ d hd oo) ?_))))))); rintro v10 Ψ10 ⟨ad10, c10, rfl, rfl⟩
 refine zf [_] rfl call12 (Zok l _ _ d hok oo) ?_; rintro v11 Ψ11 ⟨ad11, c11, rfl, rfl⟩
 refine zf [_] rfl call19 (C_pOfF (Xk d l) _ _ 4 ((Zla d l).mono hd) (Zpk hok) (by unfold Xk; rw [List.length_map]; omega) (by unfold Xk; rw [List.length_map]; omega)) ?_; rintro v12 Ψ12 ⟨ad12, c12, rfl, rfl⟩
 refine zm rfl (zp (.eX rfl) (zp (.eX rfl) (za rfl (za rfl (zn (zS (zm rfl (za rfl (zn (zt ?_)))))))))); intro a w h
 refine Qk (Ψ := [Row _ (cellsOf Qn (norm (Xk d l)))]) h (Zd h rfl (.tmp rfl)) ⟨_, _, rfl, rfl⟩ ss
theorem Zbn (q : (Int × Int) × (Int × Int)) (hq : OkP q) : Yi Tryz.prog 13 [Zak q] (encPt (ptv q)) := by
 obtain ⟨⟨ha1, ha2, ha3, ha4⟩, hb1, hb2, hb3, hb4⟩ := hq
 refine fn_intro func13 rfl ntmps13 nb ?_
 intro S w0 a hS h
 refine gC h (zS (zx rfl fun b1 => zz Jl fun b2 => zn (zs (yD Za [0, 1, 3, 4, 2, 5, 6, 7] (Zb kk) (yp rfl (.indexAddr rfl rfl (Zsb _ _)) (yd rfl rfl mr isAgg25 sizeOf25 Zq7 ?_)))))); clear h
 refine yp rfl (.indexAddr rfl rfl (Zsa _ _)) (yd rfl rfl mr isAgg25 sizeOf25 Zq6 ?_)
 refine yv [_] rfl rfl call62 (Zyu ((q).1.1) ((q).1.2) oo oo oo oo) ?_
 have hl5 := Zc7 ((q).1.1) ((q).1.2) oo oo oo oo
 refine yv [_] rfl rfl call62 (Zyu ((q).2.1) ((q).2.2) oo oo oo oo) ?_
 have hl8 := Zc7 ((q).2.1) ((q).2.2) oo oo oo oo
 refine yp rfl (.build [(_, _), (_, _)] rfl (Zd6 _ _ _ _ _ _ _ _ _ _)) (yt rfl rfl rfl Qr uu sizeOf49 rfl nb rfl ?_)
 refine yn (zt ?_); intro a w h
 refine Jp h (Zd h rfl (.cell rfl mr isAgg49 sizeOf49 Ze)) ?_
 rfl
end
end Go.Proofs.YtddhlkfpdjmplaaGreatDoor
