/- Walks of functions. By an AI agent. -/
import Derived.Test.YtgkicbaomcmfoaaGreatDoorPolysort
set_option linter.unusedVariables false
set_option linter.unusedSimpArgs false
set_option maxRecDepth 4000
namespace Go.Proofs.YtgkicbaomcmfoaaGreatDoor
open Go Go.Proofs Go.Fx Tryz
attribute [local irreducible] Oper.wp Code.wp wpList Fx.Head wpOp
section
theorem Zry (x : Int) (w : World) : (Go.convert 3 124 (.int .i64 x)).run Tryz.prog w = .ok (.int .u64 (IntKind.u64.wrap x)) w := by
 simp [go_sem]
theorem Zxb (x : Int) (h0 : IntKind.u64.wrap x = x) (w : World) : (Go.convert 3 124 (.int .i64 x)).run Tryz.prog w = .ok (.int .u64 x) w := by
 rw [Zry, h0]
theorem Zyt : Xl Tryz.prog 131 [.slice none 0 0, .func (.func 88) #[] #[]] (.int .i64 (-1)) := by
 refine fn_intro func131 rfl ntmps131 nb ?_
 intro S w0 a hS h
 refine gC h (zS (za rfl (zn (zs (zS (zm rfl (zp (Pure1.cast (v' := .int .i64 0) (.builtin [_] rfl (Qd _ _ _)) (by rfl)) (zm rfl (zn (zb ?_)))))))))); clear h; intro a w h
 refine Zi (fun (u : Unit) a w => St 19 S w0 [(0, .slice none 0 0), (1, .func (.func 88) #[] #[]), (7, .int .i64 0), (8, .int .i64 0)] [] [] a w) (fun u => 0) (()) (by exact h.sub sA) ?_; clear h
 rintro u a w h
 refine gC h (zS (zp (.lss rfl rfl) (zn (zs ?_)))); clear h; intro a w h
 refine Zb h rfl (fun hc9 => (absurd (of_decide_eq_true hc9) dd)) (fun hc9 => ?_)
 refine gC h (ze (zS (za rfl (zn (zt ?_))))); clear h; intro a w h
 exact Zeh h
theorem Zyv : Xl Tryz.prog 87 [.slice none 0 0, .func (.func 88) #[] #[]] (.slice none 0 0) := by
 refine fn_intro func87 rfl ntmps87 nb ?_
 intro S w0 a hS h
 refine gC h (zS (za rfl (zn (zS (zm rfl (zm rfl (zv [_, _] rfl call131 (Zyt) (za rfl (zn (zs (zS (zm rfl (zp (.eql rfl rfl) (zn ?_)))))))))))))); clear h; intro a w h
 refine cW ?_
 refine Zb h rfl (fun hc12 => ?_) (fun hc12 => (absurd hc12 dd))
 refine gC h (zS (zm rfl (za rfl (zn (zt ?_))))); clear h; intro a w h
 exact Zeh h
theorem Qbh : Xl Tryz.prog 89 [.slice none 0 0, .func (.func 48) #[] #[]] (.tuple #[]) := by
 refine fn_intro func89 rfl ntmps89 nb ?_
 intro S w0 a hS h
 refine gC h (zS (zm rfl (zp (Pure1.cast (v' := .int .i64 ((0 : Nat) : Int)) (.builtin [_] rfl (Qd _ _ _)) (by rfl)) (za rfl (zn (zr (zm rfl (zm rfl (zm rfl (zp (Pure1.cast (v' := .int .u64 ((0 : Nat) : Int)) (.convert rfl (Zry _)) (by rfl)) (zv [_] rfl call133 (Zn6 0 dd) (zm rfl (zv [_, _, _, _, _] rfl call132 (C_pdq0 none 0 (Lib.bitLen 0) (.func (.func 48) #[] #[])) (zn ?_)))))))))))))); clear h; intro a w h
 exact end_of (Ψ := []) h (Zb6 rfl) ⟨rfl, rfl⟩ (fun _ hR => nomatch hR)
theorem Qf2 (b c : Nat) (p : List Tm) (R : List Value) (σ : List (Nat × Obj)) (Φ : List Zp) (hd : dif p) (hp : ∀ t ∈ p, t.i + t.j ≤ 12) (hn : p.length ≤ 1000000) :
  Znv Tryz.prog 89 [.slice (some ⟨b, 0, none⟩) p.length c, .func (.func 48) #[] #[]] ((b, .cells (cellsOf Qb p ++ R).toArray 82 (0, 0)) :: σ) Φ
   (fun v σ' Φ' => v = .tuple #[] ∧ σ' = (b, .cells (cellsOf Qb (p.mergeSort fun s t => !ltT t s) ++ R).toArray 82 (0, 0)) :: σ ∧ Φ' = Φ) := by
 refine fn_introM func89 rfl ntmps89 nb ?_
 intro S w0 a w hS h
 refine gC h (zS (zm rfl (zp (.builtin [_] rfl (Qd _ _ _)) (za rfl (zn (zr (zm rfl (zm rfl (zm rfl (zp (.convert rfl (Zxb _ (wrap_u64 _ oo oo))) (zv [_] rfl call133 (Zn6 p.length oo) (zm rfl ?_)))))))))))); clear h; intro a w h
 refine Zc (Xc h hS (vs := [_, _, _, _, _]) rfl call132 (C_pdqT b c p R (Lib.bitLen p.length) (Nat.lt_of_le_of_lt (Lib.bitLen_le p.length 62 oo oo) oo) hd hp hn σ Φ) (List.Perm.refl _) ss ss ?_); clear h; rintro v13 σ13 Ψ13 a w ⟨rfl, rfl, hΦ13⟩ h
 refine wpList_nil ?_
 refine endM h (Zb6 rfl) ⟨rfl, rfl, hΦ13⟩ (List.Sublist.refl _) (fun _ h => h)
theorem Qbt {v : Value} (p : List Tm) (o : List (Nat × Obj)) (hG : GrowO 7 82 v p.length (cellsOf Qb p) o) (hn : p.length ≤ 1000000) (σ : List (Nat × Obj)) (Φ : List Zp) :
  Znv Tryz.prog 87 [v, .func (.func 88) #[] #[]] (o ++ σ) Φ
   (fun v' σ' Φ' => Φ' = Φ ∧ ∃ o', GrowO 7 82 v' (p.filter (fun t => decide (t.c ≠ 0))).length (cellsOf Qb (p.filter (fun t => decide (t.c ≠ 0)))) o' ∧ σ' = o' ++ σ) := by
 obtain ⟨hlen, ⟨rfl, h0, rfl⟩ | ⟨b, c, R, rfl, h2, h3, rfl⟩⟩ := hG
 ·
  have hp : p = [] := List.eq_nil_of_length_eq_zero h0
  subst hp
  intro S w0 w hS hm
  refine (Qb8 Zyv σ Φ S w0 w hS hm).mono ?_
  rintro e w' ⟨u, σ', Ψ, he, ⟨h1, h2, h3⟩, hm'⟩
  exact ⟨u, σ', Ψ, he, ⟨h3, [], by rw [h1]; exact GrowO.nil _ _, by rw [h2]; rfl⟩, hm'⟩
 ·
  intro S w0 w hS hm
  refine (Zyu b c p R σ Φ hn h3 S w0 w hS hm).mono ?_
  rintro e w' ⟨u, σ', Ψ, he, ⟨h1, h4, R', h5, h6⟩, hm'⟩
  refine ⟨u, σ', Ψ, he, ⟨h4, [(b, _)], ?_, h6⟩, hm'⟩
  rw [h1]
  exact GrowO.close (cellsOf_length Xe _) (h5.trans h2) (Nat.le_trans (List.length_filter_le _ _) h3)
theorem C_Sort {v : Value} (p : List Tm) (o : List (Nat × Obj)) (hG : GrowO 7 82 v p.length (cellsOf Qb p) o) (hd : dif p) (hp : ∀ t ∈ p, t.i + t.j ≤ 12) (hn : p.length ≤ 1000000) (σ : List (Nat × Obj)) (Φ : List Zp) :
  Znv Tryz.prog 89 [v, .func (.func 48) #[] #[]] (o ++ σ) Φ
   (fun v' σ' Φ' => Φ' = Φ ∧ v' = .tuple #[] ∧ ∃ o', GrowO 7 82 v p.length (cellsOf Qb (p.mergeSort fun s t => !ltT t s)) o' ∧ σ' = o' ++ σ) := by
 obtain ⟨hlen, ⟨rfl, h0, rfl⟩ | ⟨b, c, R, rfl, h2, h3, rfl⟩⟩ := hG
 ·
  have hp : p = [] := List.eq_nil_of_length_eq_zero h0
  subst hp
  intro S w0 w hS hm
  refine (Qb8 Qbh σ Φ S w0 w hS hm).mono ?_
  rintro e w' ⟨u, σ', Ψ, he, ⟨h1, h2, h3⟩, hm'⟩
  exact ⟨u, σ', Ψ, he, ⟨h3, h1, [], by rw [List.mergeSort_nil]; exact GrowO.nil _ _, by rw [h2]; rfl⟩, hm'⟩
 ·
  intro S w0 w hS hm
  refine (Qf2 b c p R σ Φ hd hp hn S w0 w hS hm).mono ?_
  rintro e w' ⟨u, σ', Ψ, he, ⟨h1, h4, h5⟩, hm'⟩
  refine ⟨u, σ', Ψ, he, ⟨h5, h1, [(b, _)], ?_, h4⟩, hm'⟩
  have hl : (p.mergeSort fun s t => !ltT t s).length = p.length := (List.mergeSort_perm _ _).length_eq
  refine GrowO.close (by rw [cellsOf_length Xe, hl]) ?_ h3
  rw [List.length_append, cellsOf_length Xe, hl] at *
  exact h2
abbrev Zt5 (i j : Nat) : Value := .agg #[.int .i64 ((i : Nat) : Int), .int .i64 ((j : Nat) : Int)]
def pK (i j : Nat) (e : MapEntry) : Bool := match e.key with
 | .agg cs => (match cs.toList with | [.int _ a, .int _ b] => decide ((i : Int) = a ∧ (j : Int) = b) | _ => false)
 | _ => false
def esL : List Tm → Nat → List MapEntry
 | [], _ => []
 | t :: p, k => ⟨Zt5 t.i t.j, .int .i64 ((k : Nat) : Int), k⟩ :: esL p (k + 1)
theorem Zrp (t : Tm) : ∀ (p : List Tm) (k : Nat), esL (p ++ [t]) k = esL p k ++ [⟨Zt5 t.i t.j, .int .i64 ((k + p.length : Nat) : Int), k + p.length⟩]
 | [], k => rfl
 | s :: p, k => by
  have := Zrp t p (k + 1)
  rw [List.cons_append, esL, this, esL, List.length_cons, show k + 1 + p.length = k + (p.length + 1) by omega]; rfl
theorem Zw1 : ∀ (p : List Tm) (k : Nat) (e : MapEntry), e ∈ esL p k → ∃ t ∈ p, e.key = Zt5 t.i t.j
 | [], _, _, h => nomatch h
 | t :: p, k, e, h => by
  rcases List.mem_cons.1 h with rfl | h
  · exact ⟨t, List.mem_cons_self, rfl⟩
  ·
   obtain ⟨s, hs, h2⟩ := Zw1 p (k + 1) e h
   exact ⟨s, List.mem_cons_of_mem _ hs, h2⟩
def fP (i j : Nat) : List Tm → Bool
 | [] => false
 | s :: p => if s.i = i ∧ s.j = j then true else fP i j p
def kP (i j : Nat) : List Tm → Nat
 | [] => 0
 | s :: p => if s.i = i ∧ s.j = j then 0 else kP i j p + 1
theorem Qb4 (i j a b : Nat) (e : MapEntry) (h : e.key = Zt5 a b) : pK i j e = decide (a = i ∧ b = j) := by
 unfold pK; rw [h]; simp only; congr 1; apply propext; omega
theorem Zh6 (i j : Nat) : ∀ (p : List Tm) (k m : Nat), Zk5 (pK i j) (esL p k) m = if fP i j p then some (m + kP i j p, .int .i64 ((k + kP i j p : Nat) : Int)) else none
 | [], _, _ => rfl
 | t :: p, k, m => by
  rw [esL, Zk5, Qb4 i j t.i t.j _ rfl, Zh6 i j p (k + 1) (m + 1), fP, kP]
  by_cases h : t.i = i ∧ t.j = j
  · rw [decide_eq_true h, if_pos rfl, if_pos h, if_pos h, if_pos rfl]; rfl
  ·
   rw [decide_eq_false h, if_neg Bool.false_ne_true, if_neg h, if_neg h]
   rcases hf : fP i j p with _ | _
   · rfl
   · rw [if_pos rfl, if_pos rfl, show m + 1 + kP i j p = m + (kP i j p + 1) by omega, show k + 1 + kP i j p = k + (kP i j p + 1) by omega]
theorem Zri (t : Tm) : ∀ p : List Tm, fP t.i t.j p = true → kP t.i t.j p < p.length ∧ Zb0 t p = p.set (kP t.i t.j p) ⟨(p.getD (kP t.i t.j p) T0).i, (p.getD (kP t.i t.j p) T0).j, (p.getD (kP t.i t.j p) T0).c + t.c⟩
 | [], h => by simp [fP] at h
 | s :: p, h => by
  rw [Zb0, kP]
  by_cases hs : same s t
  · rw [if_pos hs, if_pos (show s.i = t.i ∧ s.j = t.j from hs)]; exact ⟨by simp, rfl⟩
  ·
   rw [if_neg hs, if_neg (show ¬ (s.i = t.i ∧ s.j = t.j) from hs)]
   have h1 : fP t.i t.j p = true := by
    rw [fP, if_neg (show ¬ (s.i = t.i ∧ s.j = t.j) from hs)] at h; exact h
   obtain ⟨h2, h3⟩ := Zri t p h1
   refine ⟨by simp; omega, ?_⟩
   rw [h3]; rfl
theorem Qag (t : Tm) : ∀ p : List Tm, fP t.i t.j p = false → Zb0 t p = (p ++ [(⟨t.i, t.j, 0⟩ : Tm)]).set p.length ⟨((p ++ [(⟨t.i, t.j, 0⟩ : Tm)]).getD p.length T0).i, ((p ++ [(⟨t.i, t.j, 0⟩ : Tm)]).getD p.length T0).j, ((p ++ [(⟨t.i, t.j, 0⟩ : Tm)]).getD p.length T0).c + t.c⟩ := by
 intro p h
 have e : (p ++ [(⟨t.i, t.j, 0⟩ : Tm)]).getD p.length T0 = ⟨t.i, t.j, 0⟩ := by simp [List.getD]
 rw [e]
 induction p with
 | nil => rfl
 | cons s p ih =>
  rw [fP] at h
  split at h
  · cases h
  ·
   rename_i hs
   rw [Zb0, if_neg (show ¬ same s t from hs), ih h (by simp [List.getD])]; rfl
theorem eqKey (i j a b : Nat) (w : World) : (Op.equal 145 (Zt5 i j) (Zt5 a b)).run Tryz.prog w = .ok (decide (a = i ∧ b = j)) w := by
 unfold Op.equal
 rw [show Op.maxDepth = 9999 + 1 from rfl, Op.equalIn]
 simp [go_sem]
 have e1 : ((i : Int) = (a : Int)) ↔ a = i := oo
 have e2 : ((j : Int) = (b : Int)) ↔ b = j := oo
 by_cases h1 : a = i <;> by_cases h2 : b = j <;> simp only [e1, e2, h1, h2, if_true, if_false, decide_true, decide_false, Bool.and_true, Bool.and_false, Bool.false_and]
theorem ckInt (e : Bool) (n : Nat) (x : Int) (w : World) : (Instr.checkKey e (n + 1) 3 (.int .i64 x)).run Tryz.prog w = .ok () w := by
 rw [Instr.checkKey]; simp [go_sem]
theorem ckKey (e : Bool) (i j : Nat) (w : World) : (Instr.checkKey e 10000 145 (Zt5 i j)).run Tryz.prog w = .ok () w := by
 rw [show (10000 : Nat) = 9999 + 1 from rfl, Instr.checkKey]
 have h1 := ckInt e 9998 (i : Int)
 have h2 := ckInt e 9998 (j : Int)
 simp [go_sem, h1, h2]
end
section
theorem Zge (a : Option Addr) (n c : Nat) (w : World) (ty : TypeId) (cs : Array Bool) : (Go.builtin .len #[24] ty cs #[.slice a n c]).run Tryz.prog w = .ok (.value (.int .i64 n)) w := by
 simp [go_sem]
theorem ix_24 (b off n c j : Nat) (h : j < n) (w : World) : (Instr.indexAt 24 (.slice (some ⟨b, off, none⟩) n c) (.int .i64 (j : Int))).run Tryz.prog w = .ok (.pointer (some ⟨b, off + j * 7, none⟩)) w := by
 simpa using Yy runUnderlying24 sizeOf82 b off n c j h w
theorem Zjw (x0 : Int) (x1 : Int) (w : World) : (Instr.build 145 [(0, .int .i64 x0), (1, .int .i64 x1)].toArray).run Tryz.prog w = .ok (.agg #[.int .i64 x0, .int .i64 x1]) w := by simp [go_sem]
theorem Zxp (x0 : Int) (x1 : Int) (w : World) : (Instr.build 82 [(0, .int .i64 x0), (1, .int .i64 x1)].toArray).run Tryz.prog w = .ok (.agg #[.int .i64 x0, .int .i64 x1, .int .u64 0, .string ⟨#[]⟩, .bool false, .int .u64 0, .string ⟨#[]⟩]) w := by simp [go_sem]
theorem Zim (x0_0 : Value) (x0_1 : Value) (x0_2 : Value) (x0_3 : Value) (x0_4 : Value) (x0_5 : Value) (x0_6 : Value) (w : World) : (Instr.buildSlice 25 1 [(0, .agg #[x0_0, x0_1, x0_2, x0_3, x0_4, x0_5, x0_6])].toArray).run Tryz.prog w = .ok (.slice (some ⟨w.heap.size, 0, none⟩) 1 1) (w.alloc (.cells #[x0_0, x0_1, x0_2, x0_3, x0_4, x0_5, x0_6] 82 (0, 0))) := by
 simp [go_sem]
theorem opEs (i j : Nat) (p : List Tm) : ∀ e ∈ (esL p 0).toArray.toList, ∀ w, (Op.equal 145 (Zt5 i j) e.key).run Tryz.prog w = .ok (pK i j e) w := by
 intro e he w
 obtain ⟨t, _, h2⟩ := Zw1 p 0 e he
 rw [h2, eqKey, Qb4 i j t.i t.j e h2]
theorem run_lk (i j b : Nat) (p : List Tm) (w : World) (hb : w.heap[b]? = some (.map (esL p 0).toArray p.length)) :
  (Instr.lookup 143 (.map (some b)) (Zt5 i j) true).run Tryz.prog w = .ok (.tuple #[.int .i64 ((if fP i j p = true then kP i j p else 0 : Nat) : Int), .bool (fP i j p)]) w := by
 have h := Zor (P := Tryz.prog) (key := Zt5 i j) runUnderlying143 runUnderlying145 (fun e w => ckKey e i j w) (fun w => zeroValue3 w) (opEs i j p) w hb
 rw [h]
 have e := Zh6 i j p 0 0
 rw [show (esL p 0).toArray.toList = esL p 0 from rfl, e]
 rcases hf : fP i j p with _ | _
 · rfl
 · rw [if_pos rfl, if_pos rfl, Nat.zero_add]
theorem run_mu (i j b : Nat) (p : List Tm) (hf : fP i j p = false) (w : World) (hb : w.heap[b]? = some (.map (esL p 0).toArray p.length)) :
  (Instr.mapUpdate 143 (.map (some b)) (Zt5 i j) (.int .i64 ((p.length : Nat) : Int))).run Tryz.prog w = .ok () { w with heap := w.heap.setIfInBounds b (.map (esL (p ++ [⟨i, j, 0⟩]) 0).toArray (p ++ [(⟨i, j, 0⟩ : Tm)]).length) } := by
 have h := Zgj (P := Tryz.prog) (key := Zt5 i j) (val := .int .i64 ((p.length : Nat) : Int)) runUnderlying143 runUnderlying145 (fun e w => ckKey e i j w) (opEs i j p) (by
  rw [show (esL p 0).toArray.toList = esL p 0 from rfl, Zh6, hf]; rfl) w hb
 rw [h]
 have e := Zrp ⟨i, j, 0⟩ p 0
 simp only [Nat.zero_add] at e
 rw [e, List.length_append, List.length_singleton]
 congr 3
 simp
theorem Zpf : ∀ (p : List Tm) (m k : Nat) (c : Rat), m < p.length → esL (p.set m ⟨(p.getD m T0).i, (p.getD m T0).j, c⟩) k = esL p k
 | [], m, _, _, h => absurd h (Nat.not_lt_zero _)
 | t :: p, 0, k, c, _ => rfl
 | t :: p, m + 1, k, c, h => by
  have ih := Zpf p m (k + 1) c (by simpa using h)
  rw [List.set_cons_succ, esL, esL]
  congr 1
theorem Zf3 (t : Tm) : (Qb t).cells.toList = [.int .i64 ((t.i : Nat) : Int), .int .i64 ((t.j : Nat) : Int)] ++ (Vv t.c).cells.toList ++ [] := rfl
theorem rdC (q : List Tm) (R : List Value) (k : Nat) (h : k < q.length) : Qu true 5 (cellsOf Qb q ++ R).toArray (0 + k * 7 + 2) = some (Vv (q.getD k T0).c) := by
 have hg : q.getD k T0 = q[k] := by simp [List.getD, h]
 rw [hg, Ze8 q k h, Zf3, Nat.zero_add, ← Gb Xe q k h, List.append_assoc]
 exact Zvk _ [_, _] [] (Vv q[k].c).cells.toList _ 5 rfl
theorem stC (q : List Tm) (R : List Value) (k : Nat) (h : k < q.length) (x : Rat) :
  Qq (cellsOf Qb q ++ R).toArray (0 + k * 7 + 2) (Vv x).cells.toList = (cellsOf Qb (q.set k ⟨(q.getD k T0).i, (q.getD k T0).j, x⟩) ++ R).toArray := by
 have hg : q.getD k T0 = q[k] := by simp [List.getD, h]
 rw [hg, Ze8 q k h, Zgg q k h, Zf3, Zf3, Nat.zero_add, ← Gb Xe q k h, List.append_assoc, List.append_assoc _ _ R]
 exact Zzc _ [_, _] [] (Vv q[k].c).cells.toList (Vv x).cells.toList _ rfl
theorem Qbz (q : List Tm) (R : List Value) (k : Nat) (h : k < q.length) : 0 + k * 7 + 2 + 5 ≤ (cellsOf Qb q ++ R).toArray.size := by
 have := Znl (enc := Qb) Xe q R k h; omega
theorem Znk {q q' : List Tm} {R : List Value} {c : Nat} (h : (cellsOf Qb q ++ R).length = c * 7) (hl : q'.length = q.length) : (cellsOf Qb q' ++ R).length = c * 7 := by
 rw [List.length_append, cellsOf_length Xe] at *; rw [hl]; exact h
theorem Zng (l : List Tm) (i : Nat) (h : i < l.length) : collect (l.take (i + 1)) = Zb0 (l.getD i T0) (collect (l.take i)) := by
 unfold collect
 rw [List.take_add_one, List.getElem?_eq_getElem h, List.foldl_append]
 simp [List.getD, h]
theorem Zf2 {K n : Nat} {l : List Tm} (hK : KL K l) (hs : l.length * (K + 1) ≤ n) (i : Nat) : ∀ u ∈ collect (l.take i), Jr u.c ≤ n := fun u hu => by
 have h1 := Znh (l := l.take i) (fun t ht => hK t (List.mem_of_mem_take ht)) u hu
 have h2 := Zxe u.i u.j (l.take i)
 rw [List.length_take] at h2
 exact Nat.le_trans h1 (Nat.le_trans (Nat.mul_le_mul_right _ (Nat.le_trans h2 (Nat.min_le_right _ _))) hs)
theorem Zwh {K n : Nat} {l : List Tm} (hK : KL K l) (hs : l.length * (K + 1) ≤ n) {i : Nat} (hi : i < l.length) : Jr (l.getD i T0).c ≤ n := by
 have h1 := hK _ (getD_mem l (d := T0) hi)
 have h2 := Nat.mul_le_mul_right (K + 1) (show 1 ≤ l.length by omega)
 omega
theorem Zz0 (l : List Tm) : (norm l).length = ((collect l).filter (fun t => decide (t.c ≠ 0))).length := (List.mergeSort_perm _ _).length_eq
theorem Zpn {l : List Tm} {d : Nat} (h : DL d l) : ∀ t ∈ (collect l).filter (fun t => decide (t.c ≠ 0)), t.i + t.j ≤ d := fun t ht => by
 obtain ⟨s, hs, h1, h2⟩ := Zcf (List.mem_filter.1 ht).1
 rw [h1, h2]; exact h s hs
theorem Zbz (l : List Tm) (ad : Option Addr) (c K : Nat) (hd : DL 12 l) (hK : KL K l) (hs : l.length * (K + 1) ≤ 50000000000) (hn : l.length ≤ 100000) :
  Zj2 Tryz.prog 51 [.slice ad l.length c] [Row ad (cellsOf Qb l)] (fun v o => ∃ ad' c', v = .slice ad' (norm l).length c' ∧ GrowO 7 82 v (norm l).length (cellsOf Qb (norm l)) o) := by
 refine fn_introO func51 rfl ntmps51 nb ?_
 intro S w0 a hS h
 refine gC h (zS (za rfl (zn (zS ?_)))); clear h; intro a w h
 refine Zc (Zs7 h dd ?_); clear h; intro b8 a w h
 refine gL h (za rfl (zn (zs (zS (zm rfl (zp (.builtin [_] rfl (Zge _ _ _)) (zm rfl (zn (zb ?_))))))))); clear h; intro a w h
 refine Zi (fun (i : Nat) a w => i ≤ l.length ∧ ∃ (ad1 : Option Addr) (c1 : Nat) (o1 : List (Nat × Obj)), (GrowO 7 82 (.slice ad1 (collect (l.take i)).length c1) (collect (l.take i)).length (cellsOf Qb (collect (l.take i))) o1) ∧ St 62 S w0 [(2, (.slice ad1 (collect (l.take i)).length c1)), (3, .map (some b8)), (9, .slice ad l.length c), (10, nI l.length), (11, nI i)] (o1 ++ ((b8, Obj.map ((esL (collect (l.take i)) 0).toArray) ((collect (l.take i)).length)) :: [])) [Row ad (cellsOf Qb l)] a w) (fun i => l.length - i) 0 (⟨Nat.zero_le _, none, 0, [], GrowO.nil _ _, by exact (h).sub sA⟩) ?_; clear h
 rintro i a w ⟨hi_i, ad1, c1, o1, hG1, h⟩
 refine gC h (zS (zp (.lss rfl rfl) (zn (zs ?_)))); clear h; intro a w h
 refine Zb h rfl (fun hc12 => ?_) (fun hc12 => ?_)
 ·
  skip
  have hlt_i : i < l.length := dT hc12
  obtain ⟨B_ad, O_ad, rfl⟩ := h.row_addr (ad := ad) (M := cellsOf Qb l) mm (nE 7)
  have hcl := Zd4 (l.take i)
  have hsz := Zf2 hK hs i
  have hstep := Zng l i hlt_i
  have hel := Zwh hK hs hlt_i
  refine gC h (zk (zs (zb (zS (zp (.indexAddr rfl rfl (ix_24 _ _ _ _ _ oo)) (zD rfl mm (cells_lt (k := 7) dd (fun _ => rfl) l i oo) isAgg82 sizeOf82 (Qn (k := 7) (fun _ => rfl) ((fun _ => rfl)) l T0 i oo) (.inl rfl) ?_))))))
  refine zz Zdq fun b5 => zt' rfl rfl Kg uu sizeOf82 rfl nb rfl ?_
  refine zn (zS (zm rfl (zp (.fA rfl Kn) (zd rfl mr isAgg3 sizeOf3 Zaw ?_))))
  refine zp (.fA rfl Vp) (zd rfl mr isAgg3 sizeOf3 Gg ?_)
  refine zp (.build [(_, _), (_, _)] rfl (Zjw _ _)) ?_; intro a w h
  refine Zc (Zvz h rfl rfl mm (run_lk _ _ _ _) dd ?_); clear h; intro a h
  refine gL h (zm rfl (zp (.eX rfl) (zp (.eX rfl) ?_))); clear h; intro a w h
  refine Zg h (fun hc24 h => ?_) (fun hc24 h => ?_)
  ·
   skip
   rw [if_pos hc24] at h
   obtain ⟨hk, hins⟩ := Zri (l.getD i T0) _ hc24
   refine gL h (za rfl (za rfl (zn (zs (zS (zm rfl (zp (.unOp rfl (Ji _)) ?_))))))); clear h; intro a w h
   obtain ⟨b1, R1, rfl, rfl, hR1, hc1⟩ := hG1.open (Nat.lt_of_le_of_lt (Nat.zero_le _) hk)
   rw [List.cons_append, List.nil_append] at h
   have hz := hsz _ (getD_mem _ (d := T0) hk)
   refine wpList_nil ?_
   refine cW ?_
   refine Ze h rfl ?_
   refine gC h (zk (yD Za [0, 1, 2, 3, 4, 5, 6, 7, 8, 9, 10, 11, 12] (Zf kk) (ym rfl rfl (ym rfl rfl (ym rfl rfl (ym rfl rfl (yp rfl (.indexAddr rfl rfl (Zc2 _ _ _ _ _ oo)) (yp rfl (.fA rfl Vo) (yd rfl rfl mm isAgg53 sizeOf53 (rdC _ _ _ hk) ?_))))))))); clear h
   refine yp rfl (.fA rfl Vo) (yd rfl rfl mr isAgg53 sizeOf53 Ki ?_)
   refine yv [_, _] rfl rfl call86 (Qcz _ _ oo oo) ?_
   have hl53 := Zet (((collect (l.take i)).getD (kP (l.getD i T0).i (l.getD i T0).j (collect (l.take i))) T0).c) ((l.getD i T0).c)
   refine yp rfl (.indexAddr rfl rfl (Zc2 _ _ _ _ _ oo)) (yp rfl (.fA rfl Vo) (yt rfl rfl rfl (stC _ _ _ hk _) uu sizeOf53 rfl (Qbz _ _ _ hk) rfl ?_))
   refine yn (zr (zp (.pN (i + 1) (.add rfl rfl)) (zm rfl (zn ?_)))); intro a w h
   rw [← hins, ← hstep] at h
   have hes : esL (collect (l.take (i + 1))) 0 = esL (collect (l.take i)) 0 := by rw [hstep, hins]; exact Zpf _ _ _ _ hk
   have hln : (collect (l.take (i + 1))).length = (collect (l.take i)).length := by rw [hstep, hins, List.length_set]
   rw [← hes, ← hln] at h
   exact ⟨i + 1, ⟨oo, some ⟨b1, 0, none⟩, c1, [(b1, _)], GrowO.close (R := R1) (cellsOf_length Xe _) (Znk hR1 hln) (by rw [hln]; exact hc1), by exact ((h.drop (by repeat (first | exact List.Sublist.refl _ | apply List.Sublist.cons))).factsSub (by simp)).sub sA⟩, oo⟩
  ·
   skip
   rw [if_neg (by rw [hc24]; exact Bool.false_ne_true)] at h
   have hins := Qag (l.getD i T0) _ hc24
   have hk : (collect (l.take i)).length < (collect (l.take i) ++ [(⟨(l.getD i T0).i, (l.getD i T0).j, 0⟩ : Tm)]).length := by rw [List.length_append]; exact Nat.lt_succ_self _
   refine gL h (za rfl (za rfl (zn (zs (zS (zm rfl (zp (.unOp rfl (Ji _)) ?_))))))); clear h; intro a w h
   
   refine wpList_nil ?_
   refine cW ?_
   refine Zj h rfl ?_
   refine gC h (zS (zm rfl (zp (.builtin [_] rfl (Qd _ _ _)) (za rfl (zn (zS (zm rfl (zp (.fA rfl Kn) (zd rfl mr isAgg3 sizeOf3 Zaw ?_)))))))))
   refine zp (.fA rfl Vp) (zd rfl mr isAgg3 sizeOf3 Gg ?_)
   refine zp (.build [(_, _), (_, _)] rfl (Zjw _ _)) (zm rfl ?_); intro a w h
   refine Zc (Zml h rfl rfl rfl uu (run_mu _ _ _ _ hc24) ?_); clear h; intro a w h
   refine gL h (zn (zr (zm rfl (zp (.fA rfl Kn) (zd rfl mr isAgg3 sizeOf3 Zaw ?_)))))
   refine zp (.fA rfl Vp) (zd rfl mr isAgg3 sizeOf3 Gg ?_)
   refine zp (.build [(_, _), (_, _)] rfl (Zxp _ _)) (zB [(_, _)] rfl (Zim _ _ _ _ _ _ _) fun b42 => ?_); intro a w h
   refine Zc (Yj (σr := [(b5, bV (Qb (l.getD i T0)) 82), (b8, Obj.map ((esL (collect (l.take i) ++ [(⟨(l.getD i T0).i, (l.getD i T0).j, 0⟩ : Tm)]) 0).toArray) ((collect (l.take i) ++ [(⟨(l.getD i T0).i, (l.getD i T0).j, 0⟩ : Tm)]).length))]) h rfl rfl (List.Perm.trans (List.Perm.refl _) (List.Perm.cons _ (Zzr (List.Perm.refl _)))) hG1 runUnderlying25 runUnderlying25 typeInfo82 sizeOf82 Zdq rfl dd dd rfl rfl dd (by show 72 * (2 * ((collect (l.take i)).length + 1) + 192) ≤ 281474976710656; rw [List.length_take] at hcl; omega) dd ?_); clear h
   intro v43 o43 a w hG43 h
   obtain ⟨ad43, c43, rfl⟩ := hG43.is
   have hLn43 : (collect (l.take i)).length + 1 = ((collect (l.take i)) ++ [(⟨(l.getD i T0).i, (l.getD i T0).j, 0⟩ : Tm)]).length := lA
   rw [hLn43] at h hG43
   replace hG43 : GrowO 7 82 (.slice ad43 ((collect (l.take i)) ++ [(⟨(l.getD i T0).i, (l.getD i T0).j, 0⟩ : Tm)]).length c43) ((collect (l.take i)) ++ [(⟨(l.getD i T0).i, (l.getD i T0).j, 0⟩ : Tm)]).length (cellsOf Qb ((collect (l.take i)) ++ [(⟨(l.getD i T0).i, (l.getD i T0).j, 0⟩ : Tm)])) o43 := by rw [Qs, Yv]; exact hG43
   obtain ⟨b43, R43, rfl, rfl, hR43, hc43⟩ := hG43.open (Nat.lt_of_le_of_lt (Nat.zero_le _) hk)
   rw [List.cons_append, List.nil_append] at h
   have hz : Jr ((collect (l.take i) ++ [(⟨(l.getD i T0).i, (l.getD i T0).j, 0⟩ : Tm)]).getD (collect (l.take i)).length T0).c ≤ 50000000000 := by
    rw [show (collect (l.take i) ++ [(⟨(l.getD i T0).i, (l.getD i T0).j, 0⟩ : Tm)]).getD (collect (l.take i)).length T0 = (⟨(l.getD i T0).i, (l.getD i T0).j, 0⟩ : Tm) by simp [List.getD]]; exact Nat.le_trans Zwg dd
   refine gL h (za rfl (zn (yD Za [0, 1, 2, 3, 4, 5, 6, 7, 8, 9, 10, 11, 12] (Zf kk) (ym rfl rfl (ym rfl rfl (ym rfl rfl (ym rfl rfl (yp rfl (.indexAddr rfl rfl (Zc2 _ _ _ _ _ oo)) (yp rfl (.fA rfl Vo) (yd rfl rfl mm isAgg53 sizeOf53 (rdC _ _ _ hk) ?_)))))))))); clear h
   refine yp rfl (.fA rfl Vo) (yd rfl rfl mr isAgg53 sizeOf53 Ki ?_)
   refine yv [_, _] rfl rfl call86 (Qcz _ _ oo oo) ?_
   have hl53 := Zet (((collect (l.take i) ++ [(⟨(l.getD i T0).i, (l.getD i T0).j, 0⟩ : Tm)]).getD ((collect (l.take i)).length) T0).c) ((l.getD i T0).c)
   refine yp rfl (.indexAddr rfl rfl (Zc2 _ _ _ _ _ oo)) (yp rfl (.fA rfl Vo) (yt rfl rfl rfl (stC _ _ _ hk _) uu sizeOf53 rfl (Qbz _ _ _ hk) rfl ?_))
   refine yn (zr (zp (.pN (i + 1) (.add rfl rfl)) (zm rfl (zn ?_)))); intro a w h
   rw [← hins, ← hstep] at h
   have hes : esL (collect (l.take (i + 1))) 0 = esL (collect (l.take i) ++ [(⟨(l.getD i T0).i, (l.getD i T0).j, 0⟩ : Tm)]) 0 := by rw [hstep, hins]; exact Zpf _ _ _ _ hk
   have hln : (collect (l.take (i + 1))).length = (collect (l.take i) ++ [(⟨(l.getD i T0).i, (l.getD i T0).j, 0⟩ : Tm)]).length := by rw [hstep, hins, List.length_set]
   rw [← hes, ← hln] at h
   exact ⟨i + 1, ⟨oo, some ⟨b43, 0, none⟩, c43, [(b43, _)], GrowO.close (R := R43) (cellsOf_length Xe _) (Znk hR43 hln) (by rw [hln]; exact hc43), by exact (((h.perm (List.Perm.trans (pm_cc (List.Perm.refl _)) (List.Perm.cons _ (List.Perm.refl _))).symm).drop (by repeat (first | exact List.Sublist.refl _ | apply List.Sublist.cons))).factsSub (by simp)).sub sA⟩, oo⟩
 ·
  skip
  have heq_i : l.length = i := dF hc12
  subst heq_i
  rw [List.take_length] at h hG1
  refine gC h (ze (zS (zm rfl ?_))); clear h; intro a w h
  refine Zc (Xc h hS (vs := [_, _]) rfl call87 (Qbt (collect l) o1 hG1 (Nat.le_trans (Zd4 l) oo) [(b8, _)] [Row ad (cellsOf Qb l)]) (List.Perm.refl _) ss ss ?_); clear h; rintro v58 σ58 Ψ58 a w ⟨hΦ58, o58, hG58, rfl⟩ h
  rw [hΦ58] at h
  refine gL h (za rfl (zn (zS (zm rfl ?_)))); clear h; intro a w h
  refine Zc (Xc h hS (vs := [_, _]) rfl call89 (C_Sort ((collect l).filter (fun t => decide (t.c ≠ 0))) o58 hG58 (List.Pairwise.filter _ (Zd5 l)) (Zpn hd) (Nat.le_trans (List.length_filter_le _ _) (Nat.le_trans (Zd4 l) oo)) [(b8, _)] [Row ad (cellsOf Qb l)]) (List.Perm.refl _) ss ss ?_); clear h; rintro v60 σ60 Ψ60 a w ⟨hΦ60, rfl, o60, hG60, rfl⟩ h
  rw [hΦ60] at h
  refine gL h (zn (zS (zm rfl (za rfl (zn (zt ?_)))))); clear h; intro a w h
  have hnl := Zz0 l
  rw [← hnl] at hG60
  obtain ⟨ad', c', hv⟩ := hG60.is
  refine Zqt h (Zd h rfl (.tmp rfl)) ⟨ad', c', hv, hG60⟩ (List.sublist_append_left _ _)
end
section
theorem Qe8 (x2_0 : Value) (x2_1 : Value) (x2_2 : Value) (x2_3 : Value) (x2_4 : Value) (w : World) : (Instr.build 82 [(2, .agg #[x2_0, x2_1, x2_2, x2_3, x2_4])].toArray).run Tryz.prog w = .ok (.agg #[.int .i64 0, .int .i64 0, x2_0, x2_1, x2_2, x2_3, x2_4]) w := by simp [go_sem]
theorem Zin (x0_0 : Value) (x0_1 : Value) (x0_2 : Value) (x0_3 : Value) (x0_4 : Value) (x0_5 : Value) (x0_6 : Value) (w : World) : (Instr.buildSlice 24 1 [(0, .agg #[x0_0, x0_1, x0_2, x0_3, x0_4, x0_5, x0_6])].toArray).run Tryz.prog w = .ok (.slice (some ⟨w.heap.size, 0, none⟩) 1 1) (w.alloc (.cells #[x0_0, x0_1, x0_2, x0_3, x0_4, x0_5, x0_6] 82 (0, 0))) := by
 simp [go_sem]
theorem Zxo (x0 : Int) (x2_0 : Value) (x2_1 : Value) (x2_2 : Value) (x2_3 : Value) (x2_4 : Value) (w : World) : (Instr.build 82 [(0, .int .i64 x0), (2, .agg #[x2_0, x2_1, x2_2, x2_3, x2_4])].toArray).run Tryz.prog w = .ok (.agg #[.int .i64 x0, .int .i64 0, x2_0, x2_1, x2_2, x2_3, x2_4]) w := by simp [go_sem]
theorem Zxn (x1 : Int) (x2_0 : Value) (x2_1 : Value) (x2_2 : Value) (x2_3 : Value) (x2_4 : Value) (w : World) : (Instr.build 82 [(1, .int .i64 x1), (2, .agg #[x2_0, x2_1, x2_2, x2_3, x2_4])].toArray).run Tryz.prog w = .ok (.agg #[.int .i64 0, .int .i64 x1, x2_0, x2_1, x2_2, x2_3, x2_4]) w := by simp [go_sem]
theorem C_pOf (l : List Tm) (ad : Option Addr) (c K : Nat) (hd : DL 12 l) (hK : KL K l) (hs : l.length * (K + 1) ≤ 50000000000) (hn : l.length ≤ 100000) : Zj2 Tryz.prog 40 [.slice ad l.length c] [Row ad (cellsOf Qb l)] (fun v o => ∃ ad' c', v = .tuple #[.slice ad' (norm l).length c', .int .i64 0] ∧ GrowO 7 82 (.slice ad' (norm l).length c') (norm l).length (cellsOf Qb (norm l)) o) := by
 refine fn_introO func40 rfl ntmps40 nb ?_
 intro S w0 a hS h
 refine gC h (zS (za rfl (za rfl (zn (zs (zS (zm rfl (zp (.builtin [_] rfl (Zge _ _ _)) (zm rfl (zn (zb ?_))))))))))); clear h; intro a w h
 refine Zi (fun (i : Nat) a w => i ≤ l.length ∧ St 21 S w0 [(0, .slice ad l.length c), (7, .slice ad l.length c), (8, nI l.length), (9, nI i)] [] [Row ad (cellsOf Qb l)] a w) (fun i => l.length - i) 0 (⟨Nat.zero_le _, by exact (h).sub sA⟩) ?_; clear h
 rintro i a w ⟨hi_i, h⟩
 refine gC h (zS (zp (.lss rfl rfl) (zn (zs ?_)))); clear h; intro a w h
 refine Zb h rfl (fun hc10 => ?_) (fun hc10 => ?_)
 ·
  skip
  have hlt_i : i < l.length := dT hc10
  obtain ⟨B_ad, O_ad, rfl⟩ := h.row_addr (ad := ad) (M := cellsOf Qb l) mm (nE 7)
  have hdt := hd _ (getD_mem l (d := T0) hlt_i)
  refine gC h (zk (zs (zb (zS (zp (.indexAddr rfl rfl (ix_24 _ _ _ _ _ oo)) (zD rfl mm (cells_lt (k := 7) dd (fun _ => rfl) l i oo) isAgg82 sizeOf82 (Qn (k := 7) (fun _ => rfl) ((fun _ => rfl)) l T0 i oo) (.inl rfl) ?_))))))
  refine zz Zdq fun b5 => zt' rfl rfl Kg uu sizeOf82 rfl nb rfl ?_
  refine zn (zS (zd rfl mr isAgg82 sizeOf82 Zb8 ?_))
  refine zv [_] rfl call47 (C_may (l.getD i T0) oo) (za rfl (zn (zS (zm rfl (zp (.neq rfl rfl) (zn ?_)))))); intro a w h
  refine cW ?_
  refine Zb h rfl (fun hc16 => (absurd hc16 dd)) (fun hc16 => ?_)
  refine gC h (zk (zr (zp (.pN (i + 1) (.add rfl rfl)) (zm rfl (zn ?_))))); clear h; intro a w h
  exact ⟨i + 1, ⟨oo, ((h.drop sl).factsSub (by simp)).sub sA⟩, oo⟩
 ·
  skip
  have heq_i : l.length = i := dF hc10
  subst heq_i
  refine gC h (ze (zS (zm rfl ?_))); clear h; intro a w h
  refine Zc (Jw h (vs := [_]) rfl call51 (Zbz l _ _ K hd hK hs hn) ss dd ?_); clear h; rintro v20 σ20 a w ⟨ad20, c20, rfl, hG20⟩ h
  refine gL h (za rfl (za rfl (zn (zt ?_)))); clear h; intro a w h
  refine Zqt h (Ql h rfl (.tmp rfl) (.tmp rfl)) ⟨ad20, c20, rfl, hG20⟩ (List.sublist_append_left _ _)
theorem Pq.room {d K : Nat} {l : List Tm} (h : Pq d K l) (hK : K ≤ 400000000) : l.length * (K + 1) ≤ 50000000000 :=
 Nat.le_trans (Nat.mul_le_mul h.len (show K + 1 ≤ 400000001 by omega)) dd
theorem Pq.deg12 {d K : Nat} {l : List Tm} (h : Pq d K l) (hd : d ≤ 12) : DL 12 l := h.deg.mono hd
theorem Ziu (l : List Tm) (ad : Option Addr) (c d K : Nat) (hq : Pq d K l) (hd : d ≤ 12) (hK : K ≤ 400000000) : Zj2 Tryz.prog 39 [.slice ad l.length c] [Row ad (cellsOf Qb l)] (fun v o => ∃ ad' c', v = .slice ad' (norm l).length c' ∧ GrowO 7 82 v (norm l).length (cellsOf Qb (norm l)) o) := by
 refine fn_introO func39 rfl ntmps39 nb ?_
 intro S w0 a hS h
 refine gC h (zS (za rfl (zn (zS (zm rfl ?_))))); clear h; intro a w h
 refine Zc (Jw h (vs := [_]) rfl call40 (C_pOf l _ _ K (hq.deg12 hd) hq.siz (hq.room hK) (by have := hq.len; omega)) ss dd ?_); clear h; rintro v7 σ7 a w ⟨ad7, c7, rfl, hG7⟩ h
 refine gL h (zm rfl (zp (.eX rfl) (zp (.eX rfl) (za rfl (za rfl (zn (zS (zm rfl (za rfl (zn (zt ?_))))))))))); clear h; intro a w h
 refine Zqt h (Zd h rfl (.tmp rfl)) ⟨ad7, c7, rfl, hG7⟩ (List.sublist_append_left _ _)
theorem Ky (l : List Tm) (ad : Option Addr) (c d K : Nat) (h : Pq d K l) (hd : d ≤ 12) (hK : K ≤ 400000000) : Ctr Tryz.prog 39 [.slice ad l.length c] [Row ad (cellsOf Qb l)] (fun v Ψ => ∃ ad' c', v = .slice ad' (norm l).length c' ∧ Ψ = [Row ad' (cellsOf Qb (norm l))]) := Zjt (Ziu l ad c d K h hd hK)
theorem Qgf (x : Rat) (K : Nat) (hx : Jr x ≤ K) (hK : K ≤ 400000000) : Zj2 Tryz.prog 52 [Vv x] [] (fun v o => ∃ ad' c', v = .slice ad' (norm [(⟨0, 0, x⟩ : Tm)]).length c' ∧ GrowO 7 82 v (norm [(⟨0, 0, x⟩ : Tm)]).length (cellsOf Qb (norm [(⟨0, 0, x⟩ : Tm)])) o) := by
 refine fn_introO func52 rfl ntmps52 nb ?_
 intro S w0 a hS h
 refine gC h (zS (zx rfl fun b1 => za rfl (zn (zS (zd rfl mr isAgg53 sizeOf53 Zx ?_)))))
 refine zp (.build [(_, _)] rfl (Qe8 _ _ _ _ _)) (zB [(_, _)] rfl (Zin _ _ _ _ _ _ _) fun b5 => ?_); intro a w h
 replace h := h.shareAll hS (cellsOf Qb ([(⟨0, 0, x⟩ : Tm)])) rfl
 refine Zc (Jw h (vs := [_]) rfl call51 (Zbz [(⟨0, 0, x⟩ : Tm)] _ _ K (fun t ht => by rw [List.mem_singleton] at ht; subst ht; exact Nat.zero_le _) (fun t ht => by rw [List.mem_singleton] at ht; subst ht; exact hx) (by rw [List.length_singleton]; omega) ss) ss dd ?_); clear h; rintro v6 σ6 a w ⟨ad6, c6, rfl, hG6⟩ h
 refine gL h (za rfl (zn (zt ?_))); clear h; intro a w h
 refine Zqt h (Zd h rfl (.tmp rfl)) ⟨ad6, c6, rfl, hG6⟩ (List.sublist_append_left _ _)
theorem Zsp (x : Rat) (K : Nat) (hx : Jr x ≤ K) (hK : K ≤ 400000000) : Ctr Tryz.prog 52 [Vv x] [] (fun v Ψ => ∃ ad' c', v = .slice ad' (norm [(⟨0, 0, x⟩ : Tm)]).length c' ∧ Ψ = [Row ad' (cellsOf Qb (norm [(⟨0, 0, x⟩ : Tm)]))]) := Zjt (Qgf x K hx hK)
theorem C_X : Ctr Tryz.prog 13 [] [] (fun v Ψ => ∃ ad', v = .slice ad' 1 1 ∧ Ψ = [Row ad' (cellsOf Qb [(⟨1, 0, ((1 : Int) : Rat)⟩ : Tm)])]) := by
 refine fn_intro func13 rfl ntmps13 nb ?_
 intro S w0 a hS h
 refine gC h (zS (za rfl (zn (zS (zv [_] rfl call22 (Zj7 _ oo oo) ?_)))))
 have hl1 := Jp (1) oo oo
 refine zp (.build [(_, _), (_, _)] rfl (Zxo _ _ _ _ _ _)) (zB [(_, _)] rfl (Zim _ _ _ _ _ _ _) fun b3 => ?_); intro a w h
 replace h := h.shareAll hS (cellsOf Qb ([(⟨1, 0, ((1 : Int) : Rat)⟩ : Tm)])) rfl
 refine gL h (za rfl (zn (zt ?_))); clear h; intro a w h
 exact Zy h (Zd h rfl (.tmp rfl)) ⟨_, rfl, rfl⟩ ss
theorem C_Y : Ctr Tryz.prog 14 [] [] (fun v Ψ => ∃ ad', v = .slice ad' 1 1 ∧ Ψ = [Row ad' (cellsOf Qb [(⟨0, 1, ((1 : Int) : Rat)⟩ : Tm)])]) := by
 refine fn_intro func14 rfl ntmps14 nb ?_
 intro S w0 a hS h
 refine gC h (zS (za rfl (zn (zS (zv [_] rfl call22 (Zj7 _ oo oo) ?_)))))
 have hl1 := Jp (1) oo oo
 refine zp (.build [(_, _), (_, _)] rfl (Zxn _ _ _ _ _ _)) (zB [(_, _)] rfl (Zim _ _ _ _ _ _ _) fun b3 => ?_); intro a w h
 replace h := h.shareAll hS (cellsOf Qb ([(⟨0, 1, ((1 : Int) : Rat)⟩ : Tm)])) rfl
 refine gL h (za rfl (zn (zt ?_))); clear h; intro a w h
 exact Zy h (Zd h rfl (.tmp rfl)) ⟨_, rfl, rfl⟩ ss
theorem C_each (p : List Tm) (ad : Option Addr) (c d K K' g : Nat) (cb : List Value) (Φf : List Zp) (G : Tm → Tm) (hq : Pq d K p) (hd : d ≤ 12) (hK : K ≤ 400000000) (hg : ∀ args w, (callFunc g args).run Tryz.prog w = .ok (.enter g args) w)
  (hf : ∀ t ∈ norm p, Gn Tryz.prog g (Qb t :: cb) Φf (Qb (G t))) (hG1 : ∀ t ∈ norm p, (G t).i + (G t).j ≤ 12) (hG2 : ∀ t ∈ norm p, Jr (G t).c ≤ K') (hK' : K' ≤ 400000000) :
  Zj2 Tryz.prog 60 [.slice ad p.length c, .func (.func g) #[] cb.toArray] (Row ad (cellsOf Qb p) :: Φf) (fun v o => ∃ ad' c', v = .slice ad' (norm ((norm p).map G)).length c' ∧ GrowO 7 82 v (norm ((norm p).map G)).length (cellsOf Qb (norm ((norm p).map G))) o) := by
 have hnl : (norm p).length ≤ 91 := Nat.le_trans hq.nlen (Nat.le_trans (Zdg (show d + 1 ≤ 13 by omega)) dd)
 have hDL : DL 12 ((norm p).map G) := fun u hu => by obtain ⟨t, ht, rfl⟩ := List.mem_map.1 hu; exact hG1 t ht
 have hKL : KL K' ((norm p).map G) := fun u hu => by obtain ⟨t, ht, rfl⟩ := List.mem_map.1 hu; exact hG2 t ht
 have hlm : ((norm p).map G).length ≤ 100000 := by rw [List.length_map]; omega
 have hrm : ((norm p).map G).length * (K' + 1) ≤ 50000000000 := Nat.le_trans (Nat.mul_le_mul (show ((norm p).map G).length ≤ 91 by rw [List.length_map]; exact hnl) (show K' + 1 ≤ 400000001 by omega)) dd
 refine fn_introO func60 rfl ntmps60 nb ?_
 intro S w0 a hS h
 refine gC h (zS (za rfl (zn (zS (za rfl (zn (zs (zS (zm rfl (zf [_] rfl call39 (Ky p _ _ d K hq hd hK) ?_)))))))))); rintro v9 Ψ9 ⟨ad9, c9, rfl, rfl⟩
 refine zp (.builtin [_] rfl (Qd _ _ _)) (zm rfl (zn (zb ?_))); intro a w h
 refine Zi (fun (i : Nat) a w => i ≤ (norm p).length ∧ ∃ (ad1 : Option Addr) (c1 : Nat) (o1 : List (Nat × Obj)), (GrowO 7 82 (.slice ad1 (((norm p).take i).map G).length c1) (((norm p).take i).map G).length (cellsOf Qb (((norm p).take i).map G)) o1) ∧ St 24 S w0 [(1, .func (.func g) #[] cb.toArray), (4, .slice none 0 0), (5, (.slice ad1 (((norm p).take i).map G).length c1)), (9, .slice ad9 ((norm p).length) c9), (10, nI ((norm p).length)), (11, nI i)] (o1 ++ []) (Row ad9 (cellsOf Qb (norm p)) :: Row ad (cellsOf Qb p) :: Φf) a w) (fun i => (norm p).length - i) 0 (⟨Nat.zero_le _, none, 0, [], GrowO.nil _ _, by exact (h).sub sA⟩) ?_; clear h
 rintro i a w ⟨hi_i, ad1, c1, o1, hG1, h⟩
 refine gC h (zS (zp (.lss rfl rfl) (zn (zs ?_)))); clear h; intro a w h
 refine Zb h rfl (fun hc12 => ?_) (fun hc12 => ?_)
 ·
  skip
  have hlt_i : i < (norm p).length := dT hc12
  obtain ⟨B_ad9, O_ad9, rfl⟩ := h.row_addr (ad := ad9) (M := cellsOf Qb (norm p)) mm (nE 7)
  have hstep : ((norm p).take (i + 1)).map G = ((norm p).take i).map G ++ [G ((norm p).getD i T0)] := by rw [take_snoc _ hlt_i, List.map_append]; rfl
  have hml : (((norm p).take i).map G).length ≤ 91 := by rw [List.length_map, List.length_take]; omega
  refine gC h (zk (zs (zb (zS (zp (.indexAddr rfl rfl (Zc2 _ _ _ _ _ oo)) (zD rfl mm (cells_lt (k := 7) dd (fun _ => rfl) (norm p) i oo) isAgg82 sizeOf82 (Qn (k := 7) (fun _ => rfl) ((fun _ => rfl)) (norm p) T0 i oo) (.inl rfl) ?_))))))
  refine zz Zdq fun b7 => zt' rfl rfl Kg uu sizeOf82 rfl nb rfl ?_
  refine zn (zr (zm rfl (zm rfl (zd rfl mr isAgg82 sizeOf82 Zb8 ?_)))); intro a w h
  refine Zc (Zv0 h (fs := []) (cs := cb) rfl (vs := [_]) rfl hg (hf _ (getD_mem (norm p) (d := T0) hlt_i)) (by intro R hR; simp [hR]) dd ?_); clear h; intro a w h
  refine gL h (zB [(_, _)] rfl (Zin _ _ _ _ _ _ _) fun b19 => ?_); clear h; intro a w h
  refine Zc (Yj (σr := [(b7, bV (Qb ((norm p).getD i T0)) 82)]) h rfl rfl (List.Perm.trans (List.Perm.refl _) (List.Perm.cons _ (Zzr (List.Perm.refl _)))) hG1 runUnderlying24 runUnderlying24 typeInfo82 sizeOf82 Zdq rfl dd dd rfl rfl dd (by show 72 * (2 * ((((norm p).take i).map G).length + 1) + 192) ≤ 281474976710656; omega) dd ?_); clear h
  intro v20 o20 a w hG20 h
  obtain ⟨ad20, c20, rfl⟩ := hG20.is
  have hLn20 : (((norm p).take i).map G).length + 1 = ((((norm p).take i).map G) ++ [G ((norm p).getD i T0)]).length := lA
  rw [hLn20] at h hG20
  replace hG20 : GrowO 7 82 (.slice ad20 ((((norm p).take i).map G) ++ [G ((norm p).getD i T0)]).length c20) ((((norm p).take i).map G) ++ [G ((norm p).getD i T0)]).length (cellsOf Qb ((((norm p).take i).map G) ++ [G ((norm p).getD i T0)])) o20 := by rw [Qs, Yv]; exact hG20
  refine gL h (za rfl (zn (zr (zp (.pN (i + 1) (.add rfl rfl)) (zm rfl (zn ?_)))))); clear h; intro a w h
  rw [← hstep] at h hG20
  exact ⟨i + 1, ⟨oo, ad20, c20, o20, hG20, by exact (((h.perm (List.Perm.trans (Zzs (List.Perm.refl _)) (List.Perm.cons _ (List.Perm.refl _))).symm).drop (by repeat (first | exact List.Sublist.refl _ | apply List.Sublist.cons))).factsSub (by exact (fun _ hR => by repeat (first | exact hR | apply List.Mem.tail)))).sub sA⟩, oo⟩
 ·
  skip
  have heq_i : (norm p).length = i := dF hc12
  subst heq_i
  rw [List.take_length] at h hG1
  replace h := St.shareO' h hS hG1
  refine gC h (ze (zS (zm rfl ?_))); clear h; intro a w h
  refine Zc (Jw h (vs := [_]) rfl call51 (Zbz ((norm p).map G) _ _ K' hDL hKL hrm hlm) ss dd ?_); clear h; rintro v23 σ23 a w ⟨ad23, c23, rfl, hG23⟩ h
  refine gL h (za rfl (zn (zt ?_))); clear h; intro a w h
  refine Zqt h (Zd h rfl (.tmp rfl)) ⟨ad23, c23, rfl, hG23⟩ (List.sublist_append_left _ _)
end
section
theorem Zio (x0 : Int) (x1 : Int) (x2_0 : Value) (x2_1 : Value) (x2_2 : Value) (x2_3 : Value) (x2_4 : Value) (w : World) : (Instr.build 82 [(0, .int .i64 x0), (1, .int .i64 x1), (2, .agg #[x2_0, x2_1, x2_2, x2_3, x2_4])].toArray).run Tryz.prog w = .ok (.agg #[.int .i64 x0, .int .i64 x1, x2_0, x2_1, x2_2, x2_3, x2_4]) w := by simp [go_sem]
theorem Qbj (t : Tm) (x : Rat) (b o : Nat) (ht : Jr t.c ≤ 10000000000) (hx : Jr x ≤ 10000000000) : Gn Tryz.prog 61 [Qb t, .pointer (some ⟨b, o, none⟩)] [Row (some ⟨b, o, none⟩) (Value.cells (Vv x)).toList] (Qb ⟨t.i, t.j, x * t.c⟩) := by
 refine fn_intro func61 rfl ntmps61 nb ?_
 intro S w0 a hS h
 refine gC h (zS (zx rfl fun b2 => zz Zdq fun b3 => zn (zs (yD Za [0, 1, 2, 3, 4, 5, 6, 7, 8, 9] (Zf kk) (yp rfl (.fA rfl Kn) (yd rfl rfl mr isAgg3 sizeOf3 Zaw ?_)))))); clear h
 refine yp rfl (.fA rfl Vp) (yd rfl rfl mr isAgg3 sizeOf3 Gg ?_)
 refine Qa (b := b) (off := o) (j := 0) (M := (Value.cells (Vv x)).toList) (v := Vv (x)) rfl kk rfl mm (Nat.succ_pos _) isAgg53 sizeOf53 rfl (.inl rfl) dd ?_
 refine yp rfl (.fA rfl Vo) (yd rfl rfl mr isAgg53 sizeOf53 Ki ?_)
 refine yv [_, _] rfl rfl call50 (Zyq _ _ oo oo) ?_
 have hl11 := Za3 (x) ((t).c)
 refine yp rfl (.build [(_, _), (_, _), (_, _)] rfl (Zio _ _ _ _ _ _ _)) (yt rfl rfl rfl Kg uu sizeOf82 rfl nb rfl ?_)
 refine yn (zt ?_); intro a w h
 refine Jk h (Zd h rfl (.cell rfl mr isAgg82 sizeOf82 Zb8)) ?_
 rfl
theorem Zyo (p : List Tm) (ad : Option Addr) (c d K : Nat) (hq : Pq d K p) (hd : d ≤ 12) (hK : K ≤ 400000000) (x : Rat) (Kx : Nat) (hx : Jr x ≤ Kx) (hs : Kx + K ≤ 400000000) : Zj2 Tryz.prog 27 [.slice ad p.length c, Vv x] [Row ad (cellsOf Qb p)] (fun v o => ∃ ad' c', v = .slice ad' (norm (Qj x p)).length c' ∧ GrowO 7 82 v (norm (Qj x p)).length (cellsOf Qb (norm (Qj x p))) o) := by
 refine fn_introO func27 rfl ntmps27 nb ?_
 intro S w0 a hS h
 refine gC h (zS (zx rfl fun b3 => ?_)); clear h; intro a w h
 replace h := h.shareAll hS ((Value.cells (Vv (x))).toList) rfl
 refine gL h (za rfl (zn (zS (zm rfl (zp (.makeFunc [] [_] rfl rfl) ?_))))); clear h; intro a w h
 refine Zc (Jw h (vs := [_, _]) rfl call60 (C_each p _ _ d K (Kx + K) 61 [.pointer (some ⟨b3, 0, none⟩)] [Row (some ⟨b3, 0, none⟩) (Value.cells (Vv x)).toList] (fun t => ⟨t.i, t.j, x * t.c⟩) hq hd hK call61 (fun t ht => Qbj t x b3 0 (by have := hq.nsz t ht; omega) oo) (fun t ht => by have := (Yh hq.deg) t ht; simp only; omega) (fun t ht => by have := hq.nsz t ht; have := Za3 x t.c; simp only; omega) hs) ss dd ?_); clear h; rintro v7 σ7 a w ⟨ad7, c7, rfl, hG7⟩ h
 refine gL h (za rfl (zn (zt ?_))); clear h; intro a w h
 have e : norm ((norm p).map (fun t => (⟨t.i, t.j, x * t.c⟩ : Tm))) = norm (Qj x p) := Vn ((Eqv.nrm p).scale x)
 rw [e] at h hG7
 refine Zqt h (Zd h rfl (.tmp rfl)) ⟨ad7, c7, rfl, hG7⟩ (List.sublist_append_left _ _)
theorem Qbi (p : List Tm) (ad : Option Addr) (c d K : Nat) (hq : Pq d K p) (hd : d ≤ 12) (hK : K ≤ 400000000) (x : Rat) (Kx : Nat) (hx : Jr x ≤ Kx) (hs : Kx + K ≤ 400000000) : Ctr Tryz.prog 27 [.slice ad p.length c, Vv x] [Row ad (cellsOf Qb p)] (fun v Ψ => ∃ ad' c', v = .slice ad' (norm (Qj x p)).length c' ∧ Ψ = [Row ad' (cellsOf Qb (norm (Qj x p)))]) := Zjt (Zyo p ad c d K hq hd hK x Kx hx hs)
theorem C_Neg (p : List Tm) (ad : Option Addr) (c d K : Nat) (hq : Pq d K p) (hd : d ≤ 12) (hK : K ≤ 400000000) (hs : 2 + K ≤ 400000000) : Zj2 Tryz.prog 26 [.slice ad p.length c] [Row ad (cellsOf Qb p)] (fun v o => ∃ ad' c', v = .slice ad' (norm (Qj ((-1 : Int) : Rat) p)).length c' ∧ GrowO 7 82 v (norm (Qj ((-1 : Int) : Rat) p)).length (cellsOf Qb (norm (Qj ((-1 : Int) : Rat) p))) o) := by
 refine fn_introO func26 rfl ntmps26 nb ?_
 intro S w0 a hS h
 refine gC h (zS (za rfl (zn (zS (zm rfl (zv [_] rfl call22 (Zj7 _ oo oo) ?_)))))); clear h; intro a w h
 have hl4 := Jp ((-1)) oo oo
 refine Zc (Jw h (vs := [_, _]) rfl call27 (Zyo p _ _ d K hq hd hK ((-1 : Int) : Rat) 2 (Jp (-1) dd dd) hs) ss dd ?_); clear h; rintro v5 σ5 a w ⟨ad5, c5, rfl, hG5⟩ h
 refine gL h (za rfl (zn (zt ?_))); clear h; intro a w h
 refine Zqt h (Zd h rfl (.tmp rfl)) ⟨ad5, c5, rfl, hG5⟩ (List.sublist_append_left _ _)
theorem Qc0 (p : List Tm) (ad : Option Addr) (c d K : Nat) (hq : Pq d K p) (hd : d ≤ 12) (hK : K ≤ 400000000) (hs : 2 + K ≤ 400000000) : Ctr Tryz.prog 26 [.slice ad p.length c] [Row ad (cellsOf Qb p)] (fun v Ψ => ∃ ad' c', v = .slice ad' (norm (Qj ((-1 : Int) : Rat) p)).length c' ∧ Ψ = [Row ad' (cellsOf Qb (norm (Qj ((-1 : Int) : Rat) p)))]) := Zjt (C_Neg p ad c d K hq hd hK hs)
theorem flatT : ∀ l : List Tm, (cellsOf Qb l).all flat = true
 | [] => rfl
 | t :: l => by
  have h := flatT l
  rw [show t :: l = [t] ++ l from rfl, Qs, Yv, List.all_append, h]; rfl
theorem Pq.n91 {d K : Nat} {l : List Tm} (h : Pq d K l) (hd : d ≤ 12) : (norm l).length ≤ 91 := Nat.le_trans h.nlen (Nat.le_trans (Zdg (show d + 1 ≤ 13 by omega)) dd)
theorem DL_app {a b : List Tm} {da db : Nat} (ha : DL da a) (hb : DL db b) (h1 : da ≤ 12) (h2 : db ≤ 12) : DL 12 (norm a ++ norm b) := Zis (Yh (ha.mono h1)) (Yh (hb.mono h2))
theorem KL_app {a b : List Tm} {Ka Kb K : Nat} (ha : KL Ka a) (hb : KL Kb b) (h1 : Ka ≤ K) (h2 : Kb ≤ K) : KL K (a ++ b) := fun t ht => (List.mem_append.1 ht).elim (fun h => Nat.le_trans (ha t h) h1) (fun h => Nat.le_trans (hb t h) h2)
theorem Qcq (p q : List Tm) (ada adb : Option Addr) (ca cb da db Ka Kb : Nat) (ha : Pq da Ka p) (hb : Pq db Kb q) (hda : da ≤ 12) (hdb : db ≤ 12) (hK : Ka ≤ 200000000) (hK2 : Kb ≤ 200000000) : Zj2 Tryz.prog 24 [.slice ada p.length ca, .slice adb q.length cb] [Row ada (cellsOf Qb p), Row adb (cellsOf Qb q)] (fun v o => ∃ ad' c', v = .slice ad' (norm (p ++ q)).length c' ∧ GrowO 7 82 v (norm (p ++ q)).length (cellsOf Qb (norm (p ++ q))) o) := by
 have hna := ha.n91 hda
 have hnb := hb.n91 hdb
 refine fn_introO func24 rfl ntmps24 nb ?_
 intro S w0 a hS h
 refine gC h (zS (za rfl (zn (zS (zm rfl ?_))))); clear h; intro a w h
 refine Zc (Jw h (vs := [_]) rfl call39 (Ziu p _ _ da Ka ha hda oo) ss dd ?_); clear h; rintro v6 σ6 a w ⟨ad6, c6, rfl, hG6⟩ h
 refine gL h (zm rfl ?_); clear h; intro a w h
 refine Zc (Jw h (vs := [_]) rfl call39 (Ziu q _ _ db Kb hb hdb oo) ss dd ?_); clear h; rintro v8 σ8 a w ⟨ad8, c8, rfl, hG8⟩ h
 replace h := St.shareO' h hS hG8
 refine Zc (Zs9 (o := σ6) h rfl hG6 rfl mm runUnderlying25 runUnderlying25 typeInfo82 sizeOf82 Zdq rfl dd dd (cellsOf_length Xe _) (flatT _) (by show 72 * _ ≤ 281474976710656; omega) dd ?_); clear h; intro v9 o9 a w hG9 h; obtain ⟨ad9, c9, rfl⟩ := hG9.is; rw [← List.length_append, ← Qs] at hG9; rw [← List.length_append] at h; replace h := St.shareO' h hS hG9
 refine Zc (Jw h (vs := [_]) rfl call51 (Zbz (norm p ++ norm q) _ _ (max Ka Kb) (DL_app ha.deg hb.deg hda hdb) (KL_app ha.nsz hb.nsz (Nat.le_max_left _ _) (Nat.le_max_right _ _)) (by rw [List.length_append]; exact Nat.le_trans (Nat.mul_le_mul (show _ ≤ 182 by omega) (show max Ka Kb + 1 ≤ 200000001 by omega)) dd) (by rw [List.length_append]; omega)) ss dd ?_); clear h; rintro v10 σ10 a w ⟨ad10, c10, rfl, hG10⟩ h
 refine gL h (za rfl (zn (zt ?_))); clear h; intro a w h
 have e : norm (norm p ++ norm q) = norm (p ++ q) := Vn ((Eqv.nrm p).append (Eqv.nrm q))
 rw [e] at h hG10
 refine Zqt h (Zd h rfl (.tmp rfl)) ⟨ad10, c10, rfl, hG10⟩ (List.sublist_append_left _ _)
theorem Qfs (p q : List Tm) (ada adb : Option Addr) (ca cb da db Ka Kb : Nat) (ha : Pq da Ka p) (hb : Pq db Kb q) (hda : da ≤ 12) (hdb : db ≤ 12) (hK : Ka ≤ 200000000) (hK2 : Kb ≤ 200000000) : Ctr Tryz.prog 24 [.slice ada p.length ca, .slice adb q.length cb] [Row ada (cellsOf Qb p), Row adb (cellsOf Qb q)] (fun v Ψ => ∃ ad' c', v = .slice ad' (norm (p ++ q)).length c' ∧ Ψ = [Row ad' (cellsOf Qb (norm (p ++ q)))]) := Zjt (Qcq p q ada adb ca cb da db Ka Kb ha hb hda hdb hK hK2)
theorem C_pSub (p q : List Tm) (ada adb : Option Addr) (ca cb da db Ka Kb : Nat) (ha : Pq da Ka p) (hb : Pq db Kb q) (hda : da ≤ 12) (hdb : db ≤ 12) (hK : Ka ≤ 200000000) (hK2 : Kb ≤ 190000000) : Zj2 Tryz.prog 25 [.slice ada p.length ca, .slice adb q.length cb] [Row ada (cellsOf Qb p), Row adb (cellsOf Qb q)] (fun v o => ∃ ad' c', v = .slice ad' (norm (p ++ Qj ((-1 : Int) : Rat) q)).length c' ∧ GrowO 7 82 v (norm (p ++ Qj ((-1 : Int) : Rat) q)).length (cellsOf Qb (norm (p ++ Qj ((-1 : Int) : Rat) q))) o) := by
 refine fn_introO func25 rfl ntmps25 nb ?_
 intro S w0 a hS h
 refine gC h (zS (za rfl (zn (zS (zm rfl (zm rfl (zf [_] rfl call26 (Qc0 q _ _ db Kb hb hdb oo oo) ?_))))))); clear h; rintro v7 Ψ7 ⟨ad7, c7, rfl, rfl⟩ a w h
 refine Zc (Jw h (vs := [_, _]) rfl call24 (Qcq p (norm (Qj ((-1 : Int) : Rat) q)) _ _ _ _ da db Ka (2 + Kb + 1) ha ((hb.scale (Jp (-1) dd dd) hdb)) hda hdb oo oo) ss dd ?_); clear h; rintro v8 σ8 a w ⟨ad8, c8, rfl, hG8⟩ h
 refine gL h (za rfl (zn (zt ?_))); clear h; intro a w h
 have e : norm (p ++ norm (Qj ((-1 : Int) : Rat) q)) = norm (p ++ Qj ((-1 : Int) : Rat) q) := Vn (Eqv.rfl'.append (Eqv.nrm _))
 rw [e] at h hG8
 refine Zqt h (Zd h rfl (.tmp rfl)) ⟨ad8, c8, rfl, hG8⟩ (List.sublist_append_left _ _)
theorem Qfq (p q : List Tm) (ada adb : Option Addr) (ca cb da db Ka Kb : Nat) (ha : Pq da Ka p) (hb : Pq db Kb q) (hda : da ≤ 12) (hdb : db ≤ 12) (hK : Ka ≤ 200000000) (hK2 : Kb ≤ 190000000) : Ctr Tryz.prog 25 [.slice ada p.length ca, .slice adb q.length cb] [Row ada (cellsOf Qb p), Row adb (cellsOf Qb q)] (fun v Ψ => ∃ ad' c', v = .slice ad' (norm (p ++ Qj ((-1 : Int) : Rat) q)).length c' ∧ Ψ = [Row ad' (cellsOf Qb (norm (p ++ Qj ((-1 : Int) : Rat) q)))]) := Zjt (C_pSub p q ada adb ca cb da db Ka Kb ha hb hda hdb hK hK2)
def Yz (p : List Tm) : Int := if p.length = 0 then -1 else (((p.getD (p.length - 1) T0).i + (p.getD (p.length - 1) T0).j : Nat) : Int)
theorem Zbd {p : List Tm} {d : Nat} (h : DL d p) : Yz p ≤ (d : Int) := by
 unfold Yz; split
 · omega
 · have := h _ (getD_mem p (d := T0) (show p.length - 1 < p.length by omega)); omega
theorem Zid (p : List Tm) : -1 ≤ Yz p := by unfold Yz; split <;> omega
theorem Zg8 (p : List Tm) (ad : Option Addr) (c d K : Nat) (hq : Pq d K p) (hd : d ≤ 12) (hK : K ≤ 400000000) : Gn Tryz.prog 49 [.slice ad p.length c] [Row ad (cellsOf Qb p)] (.int .i64 (Yz (norm p))) := by
 have hn91 := hq.n91 hd
 refine fn_intro func49 rfl ntmps49 nb ?_
 intro S w0 a hS h
 refine gC h (zS (za rfl (zn (zS (zm rfl (zf [_] rfl call39 (Ky p _ _ d K hq hd hK) ?_)))))); rintro v6 Ψ6 ⟨ad6, c6, rfl, rfl⟩
 refine za rfl (zn (zs (zS (zm rfl (zp (.builtin [_] rfl (Qd _ _ _)) (zp (.eql rfl rfl) (zn ?_))))))); intro a w h
 refine cW ?_
 refine Zb h rfl (fun hc9 => ?_) (fun hc9 => ?_)
 ·
  skip
  have h0 : (norm p).length = 0 := by have := eq_of_beq hc9; omega
  refine gC h (zS (za rfl (zn (zt ?_)))); clear h; intro a w h
  refine Jk h (Zd h rfl (.tmp rfl)) ?_
  unfold Yz; rw [if_pos h0]
 ·
  skip
  have h0 : (norm p).length ≠ 0 := fun e => by rw [e] at hc9; exact absurd hc9 dd
  obtain ⟨B_ad6, O_ad6, rfl⟩ := h.row_addr (ad := ad6) (M := cellsOf Qb (norm p)) mm (by intro e; have := congrArg List.length e; rw [cellsOf_length Xe] at this; simp only [List.length_nil, Nat.mul_eq_zero] at this; omega)
  have hdg := (Yh hq.deg) _ (getD_mem (norm p) (d := T0) (show (norm p).length - 1 < (norm p).length by omega))
  refine gC h (zk (zS (zm rfl (zm rfl (zp (.builtin [_] rfl (Qd _ _ _)) (zp (.pO (((norm p).length) - 1) (.sub rfl rfl)) (zp (.indexAddr rfl rfl (Zc2 _ _ _ _ _ oo)) (zD rfl mm (cells_lt (k := 7) dd (fun _ => rfl) (norm p) (((norm p).length) - 1) oo) isAgg82 sizeOf82 (Qn (k := 7) (fun _ => rfl) ((fun _ => rfl)) (norm p) T0 (((norm p).length) - 1) oo) (.inl rfl) ?_))))))))
  refine zz Zdq fun b4 => zt' rfl rfl Kg uu sizeOf82 rfl nb rfl ?_
  refine zn (zS (zp (.fA rfl Kn) (zd rfl mr isAgg3 sizeOf3 Zaw ?_)))
  refine zp (.fA rfl Vp) (zd rfl mr isAgg3 sizeOf3 Gg ?_)
  refine zp (.pN ((((norm p).getD (((norm p).length) - 1) T0).i) + (((norm p).getD (((norm p).length) - 1) T0).j)) (.add rfl rfl)) (za rfl (zn (zt ?_))); intro a w h
  refine Jk h (Zd h rfl (.tmp rfl)) ?_
  unfold Yz; rw [if_neg h0]
end
section
abbrev mulS (s t : Tm) : Tm := ⟨s.i + t.i, s.j + t.j, s.c * t.c⟩
theorem Zmn (a b : List Tm) (i : Nat) (h : i < a.length) : Vh (a.take i) b ++ b.map (mulS (a.getD i T0)) = Vh (a.take (i + 1)) b := by
 rw [take_snoc a h]; unfold Vh; rw [List.flatMap_append]; simp
theorem Zv6 (a b : List Tm) (s : Tm) (i j : Nat) (h : j < b.length) : (Vh (a.take i) b ++ (b.take j).map (mulS s)) ++ [mulS s (b.getD j T0)] = Vh (a.take i) b ++ (b.take (j + 1)).map (mulS s) := by
 rw [take_snoc b h, List.map_append, List.append_assoc]; rfl
theorem Zz4 {a b : List Tm} (i j : Nat) (s : Tm) (ha : a.length ≤ 91) (hb : b.length ≤ 91) : (Vh (a.take i) b ++ (b.take j).map (mulS s)).length ≤ 10000 := by
 rw [List.length_append, Zq7, List.length_map]
 have h1 : (a.take i).length ≤ 91 := Nat.le_trans (by rw [List.length_take]; omega) ha
 have h2 : (b.take j).length ≤ 91 := Nat.le_trans (by rw [List.length_take]; omega) hb
 have := Nat.mul_le_mul h1 hb
 omega
theorem Zjm {a b : List Tm} (ha : a.length ≤ 91) (hb : b.length ≤ 91) : (Vh a b).length ≤ 8281 := by rw [Zq7]; exact Nat.mul_le_mul ha hb
theorem Zz3 {a b : List Tm} {K : Nat} (ha : a.length ≤ 91) (hb : b.length ≤ 91) (hK : K ≤ 4000000) : (Vh a b).length * (K + 1) ≤ 50000000000 :=
 Nat.le_trans (Nat.mul_le_mul (Zjm ha hb) (show K + 1 ≤ 4000001 by omega)) dd
theorem C_pMul (p q : List Tm) (ada adb : Option Addr) (ca cb da db Ka Kb : Nat) (ha : Pq da Ka p) (hb : Pq db Kb q) (hd : da + db ≤ 12) (hK : Ka ≤ 2000000) (hK2 : Kb ≤ 2000000) : Zj2 Tryz.prog 18 [.slice ada p.length ca, .slice adb q.length cb] [Row ada (cellsOf Qb p), Row adb (cellsOf Qb q)] (fun v o => ∃ ad' c', v = .tuple #[.slice ad' (norm (Vh p q)).length c', .int .i64 0] ∧ GrowO 7 82 (.slice ad' (norm (Vh p q)).length c') (norm (Vh p q)).length (cellsOf Qb (norm (Vh p q))) o) := by
 have hna := ha.n91 (show da ≤ 12 by omega)
 have hnb := hb.n91 (show db ≤ 12 by omega)
 have hdA : Yz (norm (norm p)) ≤ (da : Int) := Zbd (Yh (Yh ha.deg))
 have hdB : Yz (norm (norm q)) ≤ (db : Int) := Zbd (Yh (Yh hb.deg))
 have hgA := Zid (norm (norm p))
 have hgB := Zid (norm (norm q))
 refine fn_introO func18 rfl ntmps18 nb ?_
 intro S w0 a hS h
 refine gC h (zS (za rfl (za rfl (zn (zS (zm rfl (zf [_] rfl call39 (Ky p _ _ da Ka ha oo oo) ?_))))))); rintro v14 Ψ14 ⟨ad14, c14, rfl, rfl⟩
 refine zm rfl (zf [_] rfl call39 (Ky q _ _ db Kb hb oo oo) ?_); rintro v16 Ψ16 ⟨ad16, c16, rfl, rfl⟩
 refine za rfl (za rfl (zn ?_)); intro a w h
 refine cW ?_
 refine Xu (fun a w => ∃ (ad14 : Option Addr) (c14 : Nat) (ad16 : Option Addr) (c16 : Nat), St 68 S w0 [(6, .slice ad14 (norm p).length c14), (7, .slice ad16 (norm q).length c16)] [] [Row ad16 (cellsOf Qb (norm q)), Row ad14 (cellsOf Qb (norm p)), Row ada (cellsOf Qb p), Row adb (cellsOf Qb q)] a w) ?_ ?_
 ·
  skip
  refine gC h (zS (zm rfl (zp (.builtin [_] rfl (Qd _ _ _)) (zp (.gtr rfl rfl) ?_)))); clear h; intro a w h
  refine Zg h (fun hc19 h => ?_) (fun hc19 h => ?_)
  ·
   skip
   refine gL h (zm rfl (zq 20 rfl rfl (.move rfl) (zq 20 rfl rfl (.builtin [_] rfl (Qd _ _ _)) (zq 20 rfl rfl (.gtr rfl rfl) ?_)))); clear h; intro a w h
   refine Zg h (fun hc23 h => ?_) (fun hc23 h => ?_)
   ·
    skip
    refine gL h (zp (.pickT rfl rfl) (zm rfl (zq 25 rfl rfl (.move rfl) ?_))); clear h; intro a w h
    refine Zo 25 h rfl rfl (Qo h (vs := [_]) rfl call49 (Zg8 (norm p) _ _ da Ka (ha.nrm oo) oo oo) ss dd ?_); clear h; intro a w h
    refine gL h (zq 25 rfl rfl (.move rfl) ?_); clear h; intro a w h
    refine Zo 25 h rfl rfl (Qo h (vs := [_]) rfl call49 (Zg8 (norm q) _ _ db Kb (hb.nrm oo) oo oo) ss dd ?_); clear h; intro a w h
    refine gL h (zq 25 rfl rfl (.add rfl rfl) (zq 25 rfl rfl (.gtr rfl rfl) ?_)); clear h; intro a w h
    refine Zg h (fun hc31 h => (by exfalso; have := of_decide_eq_true hc31; omega)) (fun hc31 h => ?_)
    refine gL h (zp (.pickT rfl rfl) (zn ?_)); clear h; intro a w h
    refine cW ?_
    refine Ze h rfl ?_
    refine wp_skip ?_
    exact ⟨_, _, _, _, h.sub sA⟩
   ·
    skip
    refine gL h (zp (.pickT rfl rfl) (zm rfl (zo 25 rfl rfl rfl (zo 25 rfl rfl rfl (zo 25 rfl rfl rfl (zo 25 rfl rfl rfl (zo 25 rfl rfl rfl (zo 25 rfl rfl rfl (zp (.pickF rfl rfl) (zn ?_)))))))))); clear h; intro a w h
    refine cW ?_
    refine Ze h rfl ?_
    refine wp_skip ?_
    exact ⟨_, _, _, _, h.sub sA⟩
  ·
   skip
   refine gL h (zm rfl (zo 20 rfl rfl rfl (zo 20 rfl rfl rfl (zo 20 rfl rfl rfl (zp (.pickF rfl rfl) (zm rfl (zo 25 rfl rfl rfl (zo 25 rfl rfl rfl (zo 25 rfl rfl rfl (zo 25 rfl rfl rfl (zo 25 rfl rfl rfl (zo 25 rfl rfl rfl (zp (.pickF rfl rfl) (zn ?_)))))))))))))); clear h; intro a w h
   refine cW ?_
   refine Ze h rfl ?_
   refine wp_skip ?_
   exact ⟨_, _, _, _, h.sub sA⟩
 ·
  clear h
  rintro a w ⟨ad14, c14, ad16, c16, h⟩
  refine gC h (zS (za rfl (zn (zs (zS (zm rfl (zp (.builtin [_] rfl (Qd _ _ _)) (zm rfl (zn (zb ?_)))))))))); clear h; intro a w h
  refine Zi (fun (i : Nat) a w => i ≤ (norm p).length ∧ ∃ (ad1 : Option Addr) (c1 : Nat) (o1 : List (Nat × Obj)), (GrowO 7 82 (.slice ad1 (Vh ((norm p).take i) (norm q)).length c1) (Vh ((norm p).take i) (norm q)).length (cellsOf Qb (Vh ((norm p).take i) (norm q))) o1) ∧ St 68 S w0 [(7, .slice ad16 ((norm q).length) c16), (8, (.slice ad1 (Vh ((norm p).take i) (norm q)).length c1)), (33, .slice ad14 ((norm p).length) c14), (34, nI ((norm p).length)), (35, nI i)] (o1 ++ []) [Row ad16 (cellsOf Qb (norm q)), Row ad14 (cellsOf Qb (norm p)), Row ada (cellsOf Qb p), Row adb (cellsOf Qb q)] a w) (fun i => (norm p).length - i) 0 (⟨Nat.zero_le _, none, 0, [], GrowO.nil _ _, by exact (h).sub sA⟩) ?_; clear h
  rintro i a w ⟨hi_i, ad1, c1, o1, hG1, h⟩
  refine gC h (zS (zp (.lss rfl rfl) (zn (zs ?_)))); clear h; intro a w h
  refine Zb h rfl (fun hc36 => ?_) (fun hc36 => ?_)
  ·
   skip
   have hlt_i : i < (norm p).length := dT hc36
   obtain ⟨B_ad14, O_ad14, rfl⟩ := h.row_addr (ad := ad14) (M := cellsOf Qb (norm p)) mm (nE 7)
   have hmA := getD_mem (norm p) (d := T0) hlt_i
   have hsA := ha.nsz _ hmA
   have hdgA := (Yh ha.deg) _ hmA
   refine gC h (zk (zs (zb (zS (zp (.indexAddr rfl rfl (Zc2 _ _ _ _ _ oo)) (zD rfl mm (cells_lt (k := 7) dd (fun _ => rfl) (norm p) i oo) isAgg82 sizeOf82 (Qn (k := 7) (fun _ => rfl) ((fun _ => rfl)) (norm p) T0 i oo) (.inl rfl) ?_))))))
   refine zz Zdq fun b10 => zt' rfl rfl Kg uu sizeOf82 rfl nb rfl ?_
   refine zn (zS (zm rfl (zp (.builtin [_] rfl (Qd _ _ _)) (zm rfl (zn (zb ?_)))))); intro a w h
   refine Zi (fun (j : Nat) a w => j ≤ (norm q).length ∧ ∃ (ad2 : Option Addr) (c2 : Nat) (o2 : List (Nat × Obj)), (GrowO 7 82 (.slice ad2 (Vh ((norm p).take i) (norm q) ++ ((norm q).take j).map (mulS ((norm p).getD i T0))).length c2) (Vh ((norm p).take i) (norm q) ++ ((norm q).take j).map (mulS ((norm p).getD i T0))).length (cellsOf Qb (Vh ((norm p).take i) (norm q) ++ ((norm q).take j).map (mulS ((norm p).getD i T0)))) o2) ∧ St 68 S w0 [(7, .slice ad16 ((norm q).length) c16), (8, (.slice ad2 (Vh ((norm p).take i) (norm q) ++ ((norm q).take j).map (mulS ((norm p).getD i T0))).length c2)), (10, pB b10), (33, .slice (some ⟨B_ad14, O_ad14, none⟩) ((norm p).length) c14), (34, nI ((norm p).length)), (35, nI i), (39, .slice ad16 ((norm q).length) c16), (40, nI ((norm q).length)), (41, nI j)] ((b10, bV (Qb ((norm p).getD i T0)) 82) :: (o2 ++ [])) [Row ad16 (cellsOf Qb (norm q)), Row (some ⟨B_ad14, O_ad14, none⟩) (cellsOf Qb (norm p)), Row ada (cellsOf Qb p), Row adb (cellsOf Qb q)] a w) (fun j => (norm q).length - j) 0 (⟨Nat.zero_le _, ad1, c1, o1, by rw [List.take_zero, List.map_nil, List.append_nil]; exact hG1, by rw [List.take_zero, List.map_nil, List.append_nil]; exact (h).sub sA⟩) ?_; clear h
   rintro j a w ⟨hi_j, ad2, c2, o2, hG2, h⟩
   refine gC h (zS (zp (.lss rfl rfl) (zn (zs ?_)))); clear h; intro a w h
   refine Zb h rfl (fun hc42 => ?_) (fun hc42 => ?_)
   ·
    skip
    have hlt_j : j < (norm q).length := dT hc42
    obtain ⟨B_ad16, O_ad16, rfl⟩ := h.row_addr (ad := ad16) (M := cellsOf Qb (norm q)) mm (nE 7)
    have hmB := getD_mem (norm q) (d := T0) hlt_j
    have hsB := hb.nsz _ hmB
    have hdgB := (Yh hb.deg) _ hmB
    have hyl := Zz4 i j ((norm p).getD i T0) hna hnb
    refine gC h (zk (zs (zb (zS (zp (.indexAddr rfl rfl (Zc2 _ _ _ _ _ oo)) (zD rfl mm (cells_lt (k := 7) dd (fun _ => rfl) (norm q) j oo) isAgg82 sizeOf82 (Qn (k := 7) (fun _ => rfl) ((fun _ => rfl)) (norm q) T0 j oo) (.inl rfl) ?_))))))
    refine zz Zdq fun b12 => zt' rfl rfl Kg uu sizeOf82 rfl nb rfl ?_
    refine zn (yD Za [0, 1, 2, 3, 4, 5, 6, 7, 8, 9, 10, 11, 12, 13, 14, 15, 16, 17, 18, 19] (Zf kk) (ym rfl rfl (yp rfl (.fA rfl Kn) (yd rfl rfl mr isAgg3 sizeOf3 Zaw ?_))))
    refine yp rfl (.fA rfl Kn) (yd rfl rfl mr isAgg3 sizeOf3 Zaw ?_)
    refine yp rfl (.pN ((((norm p).getD i T0).i) + (((norm q).getD j T0).i)) (.add rfl rfl)) (yp rfl (.fA rfl Vp) (yd rfl rfl mr isAgg3 sizeOf3 Gg ?_))
    refine yp rfl (.fA rfl Vp) (yd rfl rfl mr isAgg3 sizeOf3 Gg ?_)
    refine yp rfl (.pN ((((norm p).getD i T0).j) + (((norm q).getD j T0).j)) (.add rfl rfl)) (yp rfl (.fA rfl Vo) (yd rfl rfl mr isAgg53 sizeOf53 Ki ?_))
    refine yp rfl (.fA rfl Vo) (yd rfl rfl mr isAgg53 sizeOf53 Ki ?_)
    refine yv [_, _] rfl rfl call50 (Zyq _ _ oo oo) ?_
    have hl60 := Za3 (((norm p).getD i T0).c) (((norm q).getD j T0).c)
    refine yp rfl (.build [(_, _), (_, _), (_, _)] rfl (Zio _ _ _ _ _ _ _)) (yB rfl [(_, _)] rfl (Zin _ _ _ _ _ _ _) fun b62 => ?_)
    refine Zm0 (σr := [(b12, bV (Qb ((norm q).getD j T0)) 82), (b10, bV (Qb ((norm p).getD i T0)) 82)]) rfl kk rfl rfl (List.Perm.trans (List.Perm.refl _) (List.Perm.cons _ (Zzr (Zzr (List.Perm.refl _))))) hG2 runUnderlying24 runUnderlying24 typeInfo82 sizeOf82 Zdq rfl dd dd rfl rfl dd (by show 72 * (2 * ((Vh ((norm p).take i) (norm q) ++ ((norm q).take j).map (mulS ((norm p).getD i T0))).length + 1) + 192) ≤ 281474976710656; omega) dd ?_
    intro v63 o63 hG63
    obtain ⟨ad63, c63, rfl⟩ := hG63.is
    have hLn63 : (Vh ((norm p).take i) (norm q) ++ ((norm q).take j).map (mulS ((norm p).getD i T0))).length + 1 = ((Vh ((norm p).take i) (norm q) ++ ((norm q).take j).map (mulS ((norm p).getD i T0))) ++ [(⟨(((norm p).getD i T0).i) + (((norm q).getD j T0).i), (((norm p).getD i T0).j) + (((norm q).getD j T0).j), (((norm p).getD i T0).c) * (((norm q).getD j T0).c)⟩ : Tm)]).length := lA
    rw [hLn63]; rw [hLn63] at hG63
    replace hG63 : GrowO 7 82 (.slice ad63 ((Vh ((norm p).take i) (norm q) ++ ((norm q).take j).map (mulS ((norm p).getD i T0))) ++ [(⟨(((norm p).getD i T0).i) + (((norm q).getD j T0).i), (((norm p).getD i T0).j) + (((norm q).getD j T0).j), (((norm p).getD i T0).c) * (((norm q).getD j T0).c)⟩ : Tm)]).length c63) ((Vh ((norm p).take i) (norm q) ++ ((norm q).take j).map (mulS ((norm p).getD i T0))) ++ [(⟨(((norm p).getD i T0).i) + (((norm q).getD j T0).i), (((norm p).getD i T0).j) + (((norm q).getD j T0).j), (((norm p).getD i T0).c) * (((norm q).getD j T0).c)⟩ : Tm)]).length (cellsOf Qb ((Vh ((norm p).take i) (norm q) ++ ((norm q).take j).map (mulS ((norm p).getD i T0))) ++ [(⟨(((norm p).getD i T0).i) + (((norm q).getD j T0).i), (((norm p).getD i T0).j) + (((norm q).getD j T0).j), (((norm p).getD i T0).c) * (((norm q).getD j T0).c)⟩ : Tm)])) o63 := by rw [Qs, Yv]; exact hG63
    refine yp rfl (.assign rfl) (yn (zr (zp (.pN (j + 1) (.add rfl rfl)) (zm rfl (zn ?_))))); intro a w h
    rw [Zv6 (norm p) (norm q) ((norm p).getD i T0) i j hlt_j] at h hG63
    exact ⟨j + 1, ⟨oo, ad63, c63, o63, hG63, by exact (((h.perm (List.Perm.trans (Zzs (List.Perm.refl _)) (List.Perm.cons _ (List.Perm.trans (Zzs (List.Perm.refl _)) (List.Perm.cons _ (List.Perm.refl _))))).symm).drop (by repeat (first | exact List.Sublist.refl _ | apply List.Sublist.cons))).factsSub (by simp)).sub sA⟩, oo⟩
   ·
    skip
    have heq_j : (norm q).length = j := dF hc42
    subst heq_j
    rw [List.take_length, Zmn (norm p) (norm q) i hlt_i] at h hG2
    refine gC h (ze (zr (zp (.pN (i + 1) (.add rfl rfl)) (zm rfl (zn ?_))))); clear h; intro a w h
    exact ⟨i + 1, ⟨oo, ad2, c2, o2, hG2, by exact ((h.drop (by repeat (first | exact List.Sublist.refl _ | apply List.Sublist.cons))).factsSub (by simp)).sub sA⟩, oo⟩
  ·
   skip
   have heq_i : (norm p).length = i := dF hc36
   subst heq_i
   rw [List.take_length] at h hG1
   replace h := St.shareO' h hS hG1
   refine gC h (ze (zS (zm rfl ?_))); clear h; intro a w h
   refine Zc (Jw h (vs := [_]) rfl call51 (Zbz (Vh (norm p) (norm q)) _ _ (Ka + Kb) ((Zx4 (Yh ha.deg) (Yh hb.deg)).mono hd) (Qfi ha.nsz hb.nsz) (Zz3 hna hnb oo) (Nat.le_trans (Zjm hna hnb) dd)) ss dd ?_); clear h; rintro v67 σ67 a w ⟨ad67, c67, rfl, hG67⟩ h
   refine gL h (za rfl (za rfl (zn (zt ?_)))); clear h; intro a w h
   have e : norm (Vh (norm p) (norm q)) = norm (Vh p q) := Vn ((Eqv.nrm p).mul (Eqv.nrm q))
   rw [e] at h hG67
   refine Zqt h (Ql h rfl (.tmp rfl) (.tmp rfl)) ⟨ad67, c67, rfl, hG67⟩ (List.sublist_append_left _ _)
theorem Zye (p q : List Tm) (ada adb : Option Addr) (ca cb da db Ka Kb : Nat) (ha : Pq da Ka p) (hb : Pq db Kb q) (hd : da + db ≤ 12) (hK : Ka ≤ 2000000) (hK2 : Kb ≤ 2000000) : Ctr Tryz.prog 18 [.slice ada p.length ca, .slice adb q.length cb] [Row ada (cellsOf Qb p), Row adb (cellsOf Qb q)] (fun v Ψ => ∃ ad' c', v = .tuple #[.slice ad' (norm (Vh p q)).length c', .int .i64 0] ∧ Ψ = [Row ad' (cellsOf Qb (norm (Vh p q)))]) := Qe1 (C_pMul p q ada adb ca cb da db Ka Kb ha hb hd hK hK2)
theorem Qd2 {n d : Nat} {g : Int} (h1 : -1 ≤ g) (h2 : g ≤ (d : Int)) (hn : n ≤ 12) (hd : n * d ≤ 12) : -12 ≤ (n : Int) * g ∧ (n : Int) * g ≤ 12 := by
 have a := Int.mul_le_mul_of_nonneg_left h1 (show (0 : Int) ≤ n by omega)
 have b := Int.mul_le_mul_of_nonneg_left h2 (show (0 : Int) ≤ n by omega)
 have c : (n : Int) * (d : Int) = ((n * d : Nat) : Int) := (Int.natCast_mul _ _).symm
 omega
theorem C_Pow (p : List Tm) (ad : Option Addr) (c d K : Nat) (hq : Pq d K p) (n : Nat) (hn : n ≤ 12) (hd12 : d ≤ 12) (hd : n * d ≤ 12) (hK : n * K + 4 ≤ 2000000) (hK1 : K ≤ 2000000) : Ctr Tryz.prog 19 [.slice ad p.length c, .int .i64 ((n : Nat) : Int)] [Row ad (cellsOf Qb p)] (fun v Ψ => ∃ ad' c', v = .tuple #[.slice ad' (norm (Zea p n)).length c', .int .i64 0] ∧ Ψ = [Row ad' (cellsOf Qb (norm (Zea p n)))]) := by
 obtain ⟨hg1, hg2⟩ := Qd2 (Zid (norm p)) (Zbd (Yh hq.deg)) hn hd
 refine fn_intro func19 rfl ntmps19 nb ?_
 intro S w0 a hS h
 refine gC h (zS (za rfl (za rfl (zn (zs (zb (zS (zm rfl (zp (.lss rfl rfl) ?_))))))))); clear h; intro a w h
 refine Zg h (fun hc9 h => (by exfalso; have := of_decide_eq_true hc9; omega)) (fun hc9 h => ?_)
 refine gL h (zm rfl (zq 10 rfl rfl (.move rfl) (zq 10 rfl rfl (.gtr rfl rfl) ?_))); clear h; intro a w h
 refine Zg h (fun hc12 h => (by exfalso; have := of_decide_eq_true hc12; omega)) (fun hc12 h => ?_)
 refine gL h (zp (.pickF rfl rfl) (za rfl (zn ?_))); clear h; intro a w h
 refine cW ?_
 refine Ze h rfl ?_
 refine gC h (zS (zm rfl (zm rfl (zw [_] rfl call49 (Zg8 p _ _ d K hq oo oo) (zp (.mul rfl rfl) (zp (.gtr rfl rfl) (za rfl (zn ?_)))))))); clear h; intro a w h
 refine cW ?_
 refine Zb h rfl (fun hc14 => (by exfalso; have := of_decide_eq_true hc14; omega)) (fun hc14 => ?_)
 refine gC h (zk (zS (zv [_] rfl call22 (Zj7 _ oo oo) ?_)))
 have hl20 := Jp (1) oo oo
 refine zf [_] rfl call52 (Zsp ((1 : Int) : Rat) 2 (Jp 1 dd dd) oo) ?_; rintro v21 Ψ21 ⟨ad21, c21, rfl, rfl⟩
 refine za rfl (zn (zs (zS (zm rfl (zm rfl (zn (zb ?_))))))); intro a w h
 refine Zi (fun (k : Nat) a w => k ≤ n ∧ ∃ (ad1 : Option Addr) (c1 : Nat), St 33 S w0 [(0, .slice ad p.length c), (4, .slice none 0 0), (5, .int .i64 0), (6, .slice ad1 ((norm (Zea p k)).length) c1), (22, nI n), (23, nI k)] [] [Row ad1 (cellsOf Qb (norm (Zea p k))), Row ad (cellsOf Qb p)] a w) (fun k => n - k) 0 (⟨Nat.zero_le _, _, _, by rw [show norm (Zea p 0) = norm [(⟨0, 0, ((1 : Int) : Rat)⟩ : Tm)] from rfl]; exact (h.factsSub (by simp)).sub (Zfn ⟨rfl, rfl, rfl, rfl, rfl, rfl, trivial⟩)⟩) ?_; clear h
 rintro k a w ⟨hi_k, ad1, c1, h⟩
 refine gC h (zS (zp (.lss rfl rfl) (zn (zs ?_)))); clear h; intro a w h
 refine Zb h rfl (fun hc24 => ?_) (fun hc24 => ?_)
 ·
  skip
  have hlt_k : k < n := dT hc24
  have hkd := Nat.mul_le_mul_right d (show k + 1 ≤ n by omega)
  have hkK := Nat.mul_le_mul_right K (show k + 1 ≤ n by omega)
  rw [Nat.add_mul, Nat.one_mul] at hkd hkK
  refine gC h (zk (zs (zb (zr (zm rfl (zm rfl (zf [_, _] rfl call18 (Zye (norm (Zea p k)) p _ _ _ _ (k * d) d (k * K + 4) K (hq.pow k oo) hq oo oo oo) ?_))))))); rintro v28 Ψ28 ⟨ad28, c28, rfl, rfl⟩
  refine zm rfl (zp (.eX rfl) (zp (.eX rfl) (za rfl (zn (zr (zp (.pN (k + 1) (.add rfl rfl)) (zm rfl (zn ?_)))))))); intro a w h
  have hstep : norm (Vh (norm (Zea p k)) p) = norm (Zea p (k + 1)) := Vn ((Eqv.nrm _).mul Eqv.rfl')
  rw [hstep] at h
  exact ⟨k + 1, ⟨oo, ad28, c28, by exact (h.factsSub (by simp)).sub sA⟩, oo⟩
 ·
  skip
  have heq_k : n = k := dF hc24
  subst heq_k
  refine gC h (ze (zS (zm rfl (za rfl (za rfl (zn (zt ?_))))))); clear h; intro a w h
  refine Zy (Ψ := [Row _ (cellsOf Qb (norm (Zea p n)))]) h (Ql h rfl (.tmp rfl) (.tmp rfl)) ⟨_, _, rfl, rfl⟩ ss
end
section
abbrev encV (x y : Rat) : Value := .agg #[.int .u64 (Gw x.num.natAbs), .string (Va x.num.natAbs), .bool (decide (x.num < 0)), .int .u64 (Gw (x.den - 1)), .string (Va (x.den - 1)),
 .int .u64 (Gw y.num.natAbs), .string (Va y.num.natAbs), .bool (decide (y.num < 0)), .int .u64 (Gw (y.den - 1)), .string (Va (y.den - 1))]
abbrev encPt (p : Pt) : Value := encV p.1 p.2
abbrev encA (l : List Rat) : Value := .agg (cellsOf Vv l).toArray
end
section
def fanG (p : List Tm) (l : List Pt) : Nat → Rat
 | 0 => 0
 | k + 1 => fanG p l k + Zyy p (l.getD 0 (0, 0)) (l.getD (k + 1) (0, 0)) (l.getD (k + 2) (0, 0))
def pwN (x : Rat) : Nat → List Rat
 | 0 => (List.replicate 13 (0 : Rat)).set 0 ((1 : Int) : Rat)
 | i + 1 => (pwN x i).set (i + 1) ((pwN x i).getD i 0 * x)
def PWf (x y : Rat) : Nat → Nat → Rat := fun i j => (pwN x 12).getD i 0 * (pwN y 12).getD j 0
end
section
theorem Zgy : ∀ {p : List Tm} {u : Tm}, Nrm p → u ∈ p → lin (at0 u.i u.j) p = u.c
 | [], _, _, h => nomatch h
 | t :: p, u, hn, h => by
  rcases List.mem_cons.1 h with rfl | h
  · exact Za1 hn
  ·
   have hlt := (List.pairwise_cons.1 hn.2).1 u h
   rw [lin, Zgy (Zkp hn) h, at0, if_neg (by rw [Zam] at hlt; omega)]; grind
theorem Zr1 {l : List Tm} {a b : Nat} (h : lin (at0 a b) l ≠ 0) : ∃ u ∈ norm l, u.i = a ∧ u.j = b := by
 rw [← Vj] at h
 by_cases hc : ∃ u ∈ norm l, u.i = a ∧ u.j = b
 · exact hc
 · exact absurd (Ya (fun t ht h2 => hc ⟨t, ht, h2⟩)) h
theorem Zwn {p : List Tm} (h : p ≠ []) : p = p.dropLast ++ [p.getD (p.length - 1) ⟨0, 0, 0⟩] := by
 have h1 := List.dropLast_concat_getLast h
 have h2 : p.getD (p.length - 1) ⟨0, 0, 0⟩ = p.getLast h := by
  rw [List.getLast_eq_getElem h]
  have : p.length - 1 < p.length := by have := List.length_pos_iff.2 h; omega
  simp [List.getD, this]
 rw [h2, h1]
theorem Zzz {p : List Tm} (hn : Nrm p) {t : Tm} (ht : t ∈ p) : t = p.getD (p.length - 1) ⟨0, 0, 0⟩ ∨ ltT t (p.getD (p.length - 1) ⟨0, 0, 0⟩) = true := by
 have hne : p ≠ [] := fun e => by rw [e] at ht; cases ht
 have e := Zwn hne
 have h2 := hn.2
 rw [e, List.pairwise_append] at h2
 rw [e] at ht
 rcases List.mem_append.1 ht with h | h
 · exact .inr (h2.2.2 t h _ (List.mem_singleton.2 rfl))
 · exact .inl (List.mem_singleton.1 h)
theorem Zlc {p : List Tm} (hn : Nrm p) {t : Tm} (ht : t ∈ p) : ((t.i + t.j : Nat) : Int) ≤ Yz p := by
 have hne : p.length ≠ 0 := fun e => by rw [List.eq_nil_of_length_eq_zero e] at ht; cases ht
 unfold Yz
 rw [if_neg hne]
 rcases Zzz hn ht with h | h
 ·
  show ((t.i + t.j : Nat) : Int) ≤ (((p.getD (p.length - 1) ⟨0, 0, 0⟩).i + (p.getD (p.length - 1) ⟨0, 0, 0⟩).j : Nat) : Int)
  rw [← h]; exact Int.le_refl _
 ·
  rw [Zam] at h
  show ((t.i + t.j : Nat) : Int) ≤ (((p.getD (p.length - 1) ⟨0, 0, 0⟩).i + (p.getD (p.length - 1) ⟨0, 0, 0⟩).j : Nat) : Int)
  omega
theorem Qaw {p : List Tm} {d : Int} (hd : -1 ≤ d) (h : ∀ t ∈ p, ((t.i + t.j : Nat) : Int) ≤ d) : Yz p ≤ d := by
 unfold Yz
 split
 · exact hd
 · exact h _ (getD_mem p (d := T0) (show p.length - 1 < p.length by omega))
theorem Zrt : Yz [] = -1 := rfl
theorem sub_self (a : List Tm) : norm (a ++ Qj (-1) a) = [] := by
 rw [Vn (m := []) (fun φ => by rw [Xp, Vu, Zfx]; grind)]; exact Zgz
theorem Qfj {p : List Tm} (hn : Nrm p) {d : Nat} (h : Yz p ≤ (d : Int)) : DL d p := fun t ht => by have := Zlc hn ht; omega
end
section
end
section
theorem Zxk (a b : Nat) : ((a : Int) = (b : Int)) ↔ a = b := oo
theorem Qdn (X Y : Operand) (x y : Tm) (w : World) : (do eqGuard .neq 82 X Y (Qb x) (Qb y); Go.binOp .neq 82 (Qb x) (Qb y) : Sem Value).run Tryz.prog w = .ok (.bool (!decide (x = y))) w := by
 obtain ⟨x1, x2, x3⟩ := x
 obtain ⟨y1, y2, y3⟩ := y
 simp [go_sem]
 rw [nestQ]
 by_cases e1 : x1 = y1 <;> by_cases e2 : x2 = y2 <;> by_cases e3 : x3 = y3 <;> simp [e1, e2, e3, Zxk]
theorem eqL_of {p q : List Tm} (hl : p.length = q.length) (h : ∀ k, k < p.length → p.getD k T0 = q.getD k T0) : p = q := by
 refine List.ext_getElem hl (fun i h1 h2 => ?_)
 have := h i h1
 simpa [List.getD, h1, h2] using this
theorem Qbs (p q : List Tm) (ada adb : Option Addr) (ca cb : Nat) (hp : p.length ≤ 1000000) (hq : q.length ≤ 1000000) : Gn Tryz.prog 38 [.slice ada p.length ca, .slice adb q.length cb] [Row ada (cellsOf Qb p), Row adb (cellsOf Qb q)] (.bool (decide (p = q))) := by
 refine fn_intro func38 rfl ntmps38 nb ?_
 intro S w0 a hS h
 refine gC h (zS (za rfl (zn (zs (zS (zm rfl (zp (.builtin [_] rfl (Qd _ _ _)) (zm rfl (zp (.builtin [_] rfl (Qd _ _ _)) (zp (.neq rfl rfl) (zn ?_))))))))))); clear h; intro a w h
 refine cW ?_
 refine Zb h rfl (fun hc10 => ?_) (fun hc10 => ?_)
 ·
  skip
  have hne : p.length ≠ q.length := Qea hc10
  refine gC h (zS (za rfl (zn (zt ?_)))); clear h; intro a w h
  refine Jk h (Zd h rfl (.tmp rfl)) ?_
  rw [decide_eq_false (fun e => hne (by rw [e]))]
 ·
  skip
  have hle : p.length = q.length := Zz1 hc10
  refine gC h (zk (zs (zS (zm rfl (zp (.builtin [_] rfl (Qd _ _ _)) (zm rfl (zn (zb ?_)))))))); clear h; intro a w h
  refine Zi (fun (i : Nat) a w => i ≤ p.length ∧ (∀ k, k < i → p.getD k T0 = q.getD k T0) ∧ St 26 S w0 [(0, .slice ada p.length ca), (1, .slice adb q.length cb), (12, nI p.length), (13, nI i)] [] [Row ada (cellsOf Qb p), Row adb (cellsOf Qb q)] a w) (fun i => p.length - i) 0 (⟨Nat.zero_le _, fun k hk => absurd hk (Nat.not_lt_zero _), by exact (h).sub sA⟩) ?_; clear h
  rintro i a w ⟨hi_i, hinv_i, h⟩
  refine gC h (zS (zp (.lss rfl rfl) (zn (zs ?_)))); clear h; intro a w h
  refine Zb h rfl (fun hc14 => ?_) (fun hc14 => ?_)
  ·
   skip
   have hlt_i : i < p.length := dT hc14
   have hqi : q.length ≠ 0 := oo
   obtain ⟨B_ada, O_ada, rfl⟩ := h.row_addr (ad := ada) (M := cellsOf Qb p) mm (nE 7)
   obtain ⟨B_adb, O_adb, rfl⟩ := h.row_addr (ad := adb) (M := cellsOf Qb q) mm (nE 7)
   refine gC h (zk (zs (zb (zS (zm rfl (za rfl (zn (zs (yD Za [0, 1, 2, 3, 4, 5, 6, 7, 8] (Zf kk) (ym rfl rfl (ym rfl rfl (yp rfl (.indexAddr rfl rfl (Zc2 _ _ _ _ _ oo)) ?_)))))))))))); clear h
   refine Qa rfl kk rfl mm (cells_lt (k := 7) dd (fun _ => rfl) p i oo) isAgg82 sizeOf82 (Qn (k := 7) (fun _ => rfl) ((fun _ => rfl)) p T0 i oo) (.inl rfl) dd ?_
   refine ym rfl rfl (ym rfl rfl (yp rfl (.indexAddr rfl rfl (Zc2 _ _ _ _ _ oo)) ?_))
   refine Qa rfl kk rfl mm (cells_lt (k := 7) dd (fun _ => rfl) q i oo) isAgg82 sizeOf82 (Qn (k := 7) (fun _ => rfl) ((fun _ => rfl)) q T0 i oo) (.inl rfl) dd ?_
   refine yp rfl (.binOp rfl rfl (fun _ => Qdn _ _ (p.getD i T0) (q.getD i T0) _)) (yn ?_); intro a w h
   refine cW ?_
   refine Zb h rfl (fun hc24 => ?_) (fun hc24 => ?_)
   ·
    skip
    have hbad : ¬ p.getD i T0 = q.getD i T0 := of_decide_eq_false (by simpa using hc24)
    refine gC h (zS (za rfl (zn (zt ?_)))); clear h; intro a w h
    refine Jk h (Zd h rfl (.tmp rfl)) ?_
    rw [decide_eq_false (fun e => hbad (by rw [e]))]
   ·
    skip
    have hgood : p.getD i T0 = q.getD i T0 := of_decide_eq_true (by simpa using hc24)
    refine gC h (zk (zr (zp (.pN (i + 1) (.add rfl rfl)) (zm rfl (zn ?_))))); clear h; intro a w h
    exact ⟨i + 1, ⟨oo, fun k hk => by rcases Nat.lt_or_ge k i with h | h; exact hinv_i k h; rw [show k = i by omega]; exact hgood, (h.factsSub (by simp)).sub sA⟩, oo⟩
  ·
   skip
   have heq_i : p.length = i := dF hc14
   subst heq_i
   refine gC h (ze (zS (za rfl (zn (zt ?_))))); clear h; intro a w h
   refine Jk h (Zd h rfl (.tmp rfl)) ?_
   rw [decide_eq_true (eqL_of hle hinv_i)]
theorem Qfr (p q : List Tm) (ada adb : Option Addr) (ca cb da db Ka Kb : Nat) (ha : Pq da Ka p) (hb : Pq db Kb q) (hda : da ≤ 12) (hdb : db ≤ 12) (hK : Ka ≤ 200000000) (hK2 : Kb ≤ 200000000) : Gn Tryz.prog 12 [.slice ada p.length ca, .slice adb q.length cb] [Row ada (cellsOf Qb p), Row adb (cellsOf Qb q)] (.bool (decide (norm p = norm q))) := by
 have hna := ha.n91 hda
 have hnb := hb.n91 hdb
 refine fn_intro func12 rfl ntmps12 nb ?_
 intro S w0 a hS h
 refine gC h (zS (za rfl (zn (zS (zm rfl (zf [_] rfl call39 (Ky p _ _ da Ka ha hda oo) ?_)))))); rintro v6 Ψ6 ⟨ad6, c6, rfl, rfl⟩
 refine zm rfl (zf [_] rfl call39 (Ky q _ _ db Kb hb hdb oo) ?_); rintro v8 Ψ8 ⟨ad8, c8, rfl, rfl⟩
 refine zw [_, _] rfl call38 (Qbs (norm p) (norm q) _ _ _ _ oo oo) (za rfl (zn (zt ?_))); intro a w h
 exact Zeh h
def cfT : List Tm → Int → Int → Rat
 | [], _, _ => 0
 | t :: l, i, j => if ((t.i : Nat) : Int) = i ∧ ((t.j : Nat) : Int) = j then t.c else cfT l i j
structure Tz where
 i : Int
 j : Int
 c : Rat
abbrev Tz0 : Tz := ⟨0, 0, 0⟩
abbrev encTz (t : Tz) : Value := .agg #[.int .i64 t.i, .int .i64 t.j, .int .u64 (Gw t.c.num.natAbs), .string (Va t.c.num.natAbs), .bool (decide (t.c.num < 0)), .int .u64 (Gw (t.c.den - 1)), .string (Va (t.c.den - 1))]
def mayZ (t : Tz) : Int := if t.i < 0 ∨ t.j < 0 then 1 else if t.i > 12 ∨ t.j > 12 - t.i then 9 else 0
def Zwy : List Tz → Int
 | [] => 0
 | t :: l => if mayZ t = 0 then Zwy l else mayZ t
end
section
variable {α : Type} {enc : α → Value} {k : Nat}
theorem at_lt (hk : ∀ x, (enc x).cells.size = k) (l : List α) (j o : Nat) (h : j < l.length) (ho : o < k) : j * k + o < (cellsOf enc l).length := by
 rw [cellsOf_length hk]
 have := Nat.mul_le_mul_right k (show j + 1 ≤ l.length from h)
 rw [Nat.add_mul] at this; omega
theorem Qdw (hk : ∀ x, (enc x).cells.size = k) (l : List α) (d : α) (j : Nat) (h : j < l.length) (agg : Bool) (s o : Nat) (v : Value) (hos : o + s ≤ k) (h0 : 0 < s)
  (hv : Qu agg s (enc (l.getD j d)).cells o = some v) : Qu agg s (cellsOf enc l).toArray (j * k + o) = some v := by
 have hg : l.getD j d = l[j] := by simp [List.getD, h]
 rw [hg] at hv
 have hle : j * k + k ≤ (cellsOf enc l).length := by
  rw [cellsOf_length hk]
  have := Nat.mul_le_mul_right k (show j + 1 ≤ l.length from h)
  rw [Nat.add_mul] at this; omega
 have hsz := hk l[j]
 cases agg with
 | false =>
  simp only [Qu, Bool.false_eq_true, if_false] at hv ⊢
  have := Zcg hk l j o h oo
  rw [← hv]
  simpa using this
 | true =>
  simp only [Qu, if_true] at hv ⊢
  rw [if_pos oo] at hv
  rw [if_pos (by show _ ≤ (cellsOf enc l).length; omega), ← Option.some.inj hv]
  congr 2
  apply Array.ext
  · simp [hsz]; omega
  ·
   intro i h1 h2
   have hi : i < s := by simp [hsz] at h2; omega
   have := Zcg hk l j (o + i) h oo
   rw [List.getElem?_eq_getElem oo] at this
   simp at this ⊢
   rw [Array.getElem?_eq_getElem oo] at this
   have h3 := Option.some.inj this
   rw [← h3]
   congr 1; omega
structure Ti where
 i : Int
 j : Int
 n : Int
 d : Int
abbrev Ti0 : Ti := ⟨0, 0, 0, 0⟩
abbrev encTi (t : Ti) : Value := .agg #[.int .i64 t.i, .int .i64 t.j, .int .i64 t.n, .int .u32 t.d]
def OkT (t : Ti) : Prop := (-9223372036854775808 ≤ t.i ∧ t.i ≤ 9223372036854775807) ∧ (-9223372036854775808 ≤ t.j ∧ t.j ≤ 9223372036854775807) ∧ OkQ (t.n, t.d)
def uN (x : Int) : Nat := (x % 18446744073709551616).toNat
def brI (d : Nat) (t : Ti) : Nat := uN t.i % (d + 1)
def brJ (d : Nat) (t : Ti) : Nat := uN t.j % (d - brI d t + 1)
abbrev encTb (d : Nat) (t : Ti) : Value := .agg #[.int .i64 ((brI d t : Nat) : Int), .int .i64 ((brJ d t : Nat) : Int), .int .i64 t.n, .int .u32 t.d]
def tmB (d : Nat) (t : Ti) : Tm := ⟨brI d t, brJ d t, qv t.n t.d⟩
def madeL (d : Nat) (l : List Ti) : List Tm := l.map (tmB d)
abbrev encPQ (q : (Int × Int) × (Int × Int)) : Value := .agg #[.int .i64 q.1.1, .int .u32 q.1.2, .int .i64 q.2.1, .int .u32 q.2.2]
def ptv (q : (Int × Int) × (Int × Int)) : Pt := (qvp q.1, qvp q.2)
def OkP (q : (Int × Int) × (Int × Int)) : Prop := OkQ q.1 ∧ OkQ q.2
end
end Go.Proofs.YtgkicbaomcmfoaaGreatDoor
