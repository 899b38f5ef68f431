/- Walks of functions. By an AI agent. -/
import Derived.Test.YtddhlkfpdjmplaaGreatDoorPolysort
set_option linter.unusedVariables false
set_option linter.unusedSimpArgs false
set_option maxRecDepth 4000
namespace Go.Proofs.YtddhlkfpdjmplaaGreatDoor
open Go Go.Proofs Go.Fx Tryz
attribute [local irreducible] Oper.wp Code.wp wpList Fx.Head wpOp
section
theorem Zex (x : Int) (w : World) : (Go.convert 3 101 (.int .i64 x)).run Tryz.prog w = .ok (.int .u64 (IntKind.u64.wrap x)) w := by
 simp [go_sem]
theorem Zyu (x : Int) (h0 : IntKind.u64.wrap x = x) (w : World) : (Go.convert 3 101 (.int .i64 x)).run Tryz.prog w = .ok (.int .u64 x) w := by
 rw [Zex, h0]
theorem Qah : Ys Tryz.prog 190 [.slice none 0 0, .func (.func 143) #[] #[]] (.int .i64 (-1)) := by
 refine fn_intro func190 rfl ntmps190 nb ?_
 intro S w0 a hS h
 refine gC h (zS (za rfl (zn (zs (zS (zm rfl (zp (Pure1.cast (v' := .int .i64 0) (.builtin [_] rfl (Zk _ _ _)) (by rfl)) (zm rfl (zn (zb ?_)))))))))); clear h; intro a w h
 refine Zf (fun (u : Unit) a w => St 19 S w0 [(0, .slice none 0 0), (1, .func (.func 143) #[] #[]), (7, .int .i64 0), (8, .int .i64 0)] [] [] a w) (fun u => 0) (()) (by exact h.sub sA) ?_; clear h
 rintro u a w h
 refine gC h (zS (zp (.lss rfl rfl) (zn (zs ?_)))); clear h; intro a w h
 refine Zb h rfl (fun hc9 => (absurd (of_decide_eq_true hc9) dd)) (fun hc9 => ?_)
 refine gC h (ze (zS (za rfl (zn (zt ?_))))); clear h; intro a w h
 exact Zbw h
theorem Qaj : Ys Tryz.prog 142 [.slice none 0 0, .func (.func 143) #[] #[]] (.slice none 0 0) := by
 refine fn_intro func142 rfl ntmps142 nb ?_
 intro S w0 a hS h
 refine gC h (zS (za rfl (zn (zS (zm rfl (zm rfl (zv [_, _] rfl call190 (Qah) (za rfl (zn (zs (zS (zm rfl (zp (.eql rfl rfl) (zn ?_)))))))))))))); clear h; intro a w h
 refine cW ?_
 refine Zb h rfl (fun hc12 => ?_) (fun hc12 => (absurd hc12 dd))
 refine gC h (zS (zm rfl (za rfl (zn (zt ?_))))); clear h; intro a w h
 exact Zbw h
theorem Qc8 : Ys Tryz.prog 144 [.slice none 0 0, .func (.func 90) #[] #[]] (.tuple #[]) := by
 refine fn_intro func144 rfl ntmps144 nb ?_
 intro S w0 a hS h
 refine gC h (zS (zm rfl (zp (Pure1.cast (v' := .int .i64 ((0 : Nat) : Int)) (.builtin [_] rfl (Zk _ _ _)) (by rfl)) (za rfl (zn (zr (zm rfl (zm rfl (zm rfl (zp (Pure1.cast (v' := .int .u64 ((0 : Nat) : Int)) (.convert rfl (Zex _)) (by rfl)) (zv [_] rfl call192 (Zoh 0 dd) (zm rfl (zv [_, _, _, _, _] rfl call191 (C_pdq0 none 0 (Lib.bitLen 0) (.func (.func 90) #[] #[])) (zn ?_)))))))))))))); clear h; intro a w h
 exact end_of (Ψ := []) h (Zfr rfl) ⟨rfl, rfl⟩ (fun _ hR => nomatch hR)
theorem Qh5 (b c : Nat) (p : List Tm) (R : List Value) (σ : List (Nat × Obj)) (Φ : List Zy) (hd : dif p) (hp : ∀ t ∈ p, t.i + t.j ≤ 12) (hn : p.length ≤ 1000000) :
  Zob Tryz.prog 144 [.slice (some ⟨b, 0, none⟩) p.length c, .func (.func 90) #[] #[]] ((b, .cells (cellsOf Zp p ++ R).toArray 117 (0, 0)) :: σ) Φ
   (fun v σ' Φ' => v = .tuple #[] ∧ σ' = (b, .cells (cellsOf Zp (p.mergeSort fun s t => !ltT t s) ++ R).toArray 117 (0, 0)) :: σ ∧ Φ' = Φ) := by
 refine fn_introM func144 rfl ntmps144 nb ?_
 intro S w0 a w hS h
 refine gC h (zS (zm rfl (zp (.builtin [_] rfl (Zk _ _ _)) (za rfl (zn (zr (zm rfl (zm rfl (zm rfl (zp (.convert rfl (Zyu _ (wrap_u64 _ oo oo))) (zv [_] rfl call192 (Zoh p.length oo) (zm rfl ?_)))))))))))); clear h; intro a w h
 refine Zi (Zb0 h hS (vs := [_, _, _, _, _]) rfl call191 (C_pdqT b c p R (Lib.bitLen p.length) (Nat.lt_of_le_of_lt (Lib.bitLen_le p.length 62 oo oo) oo) hd hp hn σ Φ) (List.Perm.refl _) ss ss ?_); clear h; rintro v13 σ13 Ψ13 a w ⟨rfl, rfl, hΦ13⟩ h
 refine wpList_nil ?_
 refine Qd4 h (Zfr rfl) ⟨rfl, rfl, hΦ13⟩ (List.Sublist.refl _) (fun _ h => h)
theorem Qdg {v : Value} (p : List Tm) (o : List (Nat × Obj)) (hG : GrowO 7 117 v p.length (cellsOf Zp p) o) (hn : p.length ≤ 1000000) (σ : List (Nat × Obj)) (Φ : List Zy) :
  Zob Tryz.prog 142 [v, .func (.func 143) #[] #[]] (o ++ σ) Φ
   (fun v' σ' Φ' => Φ' = Φ ∧ ∃ o', GrowO 7 117 v' (p.filter (fun t => decide (t.c ≠ 0))).length (cellsOf Zp (p.filter (fun t => decide (t.c ≠ 0)))) o' ∧ σ' = o' ++ σ) := by
 obtain ⟨hlen, ⟨rfl, h0, rfl⟩ | ⟨b, c, R, rfl, h2, h3, rfl⟩⟩ := hG
 ·
  have hp : p = [] := List.eq_nil_of_length_eq_zero h0
  subst hp
  intro S w0 w hS hm
  refine (Qeb Qaj σ Φ S w0 w hS hm).mono ?_
  rintro e w' ⟨u, σ', Ψ, he, ⟨h1, h2, h3⟩, hm'⟩
  exact ⟨u, σ', Ψ, he, ⟨h3, [], by rw [h1]; exact GrowO.nil _ _, by rw [h2]; rfl⟩, hm'⟩
 ·
  intro S w0 w hS hm
  refine (Qai b c p R σ Φ hn h3 S w0 w hS hm).mono ?_
  rintro e w' ⟨u, σ', Ψ, he, ⟨h1, h4, R', h5, h6⟩, hm'⟩
  refine ⟨u, σ', Ψ, he, ⟨h4, [(b, _)], ?_, h6⟩, hm'⟩
  rw [h1]
  exact GrowO.close (cellsOf_length Xv _) (h5.trans h2) (Nat.le_trans (List.length_filter_le _ _) h3)
theorem C_Sort {v : Value} (p : List Tm) (o : List (Nat × Obj)) (hG : GrowO 7 117 v p.length (cellsOf Zp p) o) (hd : dif p) (hp : ∀ t ∈ p, t.i + t.j ≤ 12) (hn : p.length ≤ 1000000) (σ : List (Nat × Obj)) (Φ : List Zy) :
  Zob Tryz.prog 144 [v, .func (.func 90) #[] #[]] (o ++ σ) Φ
   (fun v' σ' Φ' => Φ' = Φ ∧ v' = .tuple #[] ∧ ∃ o', GrowO 7 117 v p.length (cellsOf Zp (p.mergeSort fun s t => !ltT t s)) o' ∧ σ' = o' ++ σ) := by
 obtain ⟨hlen, ⟨rfl, h0, rfl⟩ | ⟨b, c, R, rfl, h2, h3, rfl⟩⟩ := hG
 ·
  have hp : p = [] := List.eq_nil_of_length_eq_zero h0
  subst hp
  intro S w0 w hS hm
  refine (Qeb Qc8 σ Φ S w0 w hS hm).mono ?_
  rintro e w' ⟨u, σ', Ψ, he, ⟨h1, h2, h3⟩, hm'⟩
  exact ⟨u, σ', Ψ, he, ⟨h3, h1, [], by rw [List.mergeSort_nil]; exact GrowO.nil _ _, by rw [h2]; rfl⟩, hm'⟩
 ·
  intro S w0 w hS hm
  refine (Qh5 b c p R σ Φ hd hp hn S w0 w hS hm).mono ?_
  rintro e w' ⟨u, σ', Ψ, he, ⟨h1, h4, h5⟩, hm'⟩
  refine ⟨u, σ', Ψ, he, ⟨h5, h1, [(b, _)], ?_, h4⟩, hm'⟩
  have hl : (p.mergeSort fun s t => !ltT t s).length = p.length := (List.mergeSort_perm _ _).length_eq
  refine GrowO.close (by rw [cellsOf_length Xv, hl]) ?_ h3
  rw [List.length_append, cellsOf_length Xv, hl] at *
  exact h2
abbrev Zvd (i j : Nat) : Value := .agg #[.int .i64 ((i : Nat) : Int), .int .i64 ((j : Nat) : Int)]
def pK (i j : Nat) (e : MapEntry) : Bool := match e.key with
 | .agg cs => (match cs.toList with | [.int _ a, .int _ b] => decide ((i : Int) = a ∧ (j : Int) = b) | _ => false)
 | _ => false
def esL : List Tm → Nat → List MapEntry
 | [], _ => []
 | t :: p, k => ⟨Zvd t.i t.j, .int .i64 ((k : Nat) : Int), k⟩ :: esL p (k + 1)
theorem Zsj (t : Tm) : ∀ (p : List Tm) (k : Nat), esL (p ++ [t]) k = esL p k ++ [⟨Zvd t.i t.j, .int .i64 ((k + p.length : Nat) : Int), k + p.length⟩]
 | [], k => rfl
 | s :: p, k => by
  have := Zsj t p (k + 1)
  rw [List.cons_append, esL, this, esL, List.length_cons, show k + 1 + p.length = k + (p.length + 1) by omega]; rfl
theorem Zyk : ∀ (p : List Tm) (k : Nat) (e : MapEntry), e ∈ esL p k → ∃ t ∈ p, e.key = Zvd t.i t.j
 | [], _, _, h => nomatch h
 | t :: p, k, e, h => by
  rcases List.mem_cons.1 h with rfl | h
  · exact ⟨t, List.mem_cons_self, rfl⟩
  ·
   obtain ⟨s, hs, h2⟩ := Zyk p (k + 1) e h
   exact ⟨s, List.mem_cons_of_mem _ hs, h2⟩
def fP (i j : Nat) : List Tm → Bool
 | [] => false
 | s :: p => if s.i = i ∧ s.j = j then true else fP i j p
def kP (i j : Nat) : List Tm → Nat
 | [] => 0
 | s :: p => if s.i = i ∧ s.j = j then 0 else kP i j p + 1
theorem Qdy (i j a b : Nat) (e : MapEntry) (h : e.key = Zvd a b) : pK i j e = decide (a = i ∧ b = j) := by
 unfold pK; rw [h]; simp only; congr 1; apply propext; omega
theorem Zi8 (i j : Nat) : ∀ (p : List Tm) (k m : Nat), Zlt (pK i j) (esL p k) m = if fP i j p then some (m + kP i j p, .int .i64 ((k + kP i j p : Nat) : Int)) else none
 | [], _, _ => rfl
 | t :: p, k, m => by
  rw [esL, Zlt, Qdy i j t.i t.j _ rfl, Zi8 i j p (k + 1) (m + 1), fP, kP]
  by_cases h : t.i = i ∧ t.j = j
  · rw [decide_eq_true h, if_pos rfl, if_pos h, if_pos h, if_pos rfl]; rfl
  ·
   rw [decide_eq_false h, if_neg Bool.false_ne_true, if_neg h, if_neg h]
   rcases hf : fP i j p with _ | _
   · rfl
   · rw [if_pos rfl, if_pos rfl, show m + 1 + kP i j p = m + (kP i j p + 1) by omega, show k + 1 + kP i j p = k + (kP i j p + 1) by omega]
theorem Zsb (t : Tm) : ∀ p : List Tm, fP t.i t.j p = true → kP t.i t.j p < p.length ∧ Zdq t p = p.set (kP t.i t.j p) ⟨(p.getD (kP t.i t.j p) T0).i, (p.getD (kP t.i t.j p) T0).j, (p.getD (kP t.i t.j p) T0).c + t.c⟩
 | [], h => by simp [fP] at h
 | s :: p, h => by
  rw [Zdq, kP]
  by_cases hs : same s t
  · rw [if_pos hs, if_pos (show s.i = t.i ∧ s.j = t.j from hs)]; exact ⟨by simp, rfl⟩
  ·
   rw [if_neg hs, if_neg (show ¬ (s.i = t.i ∧ s.j = t.j) from hs)]
   have h1 : fP t.i t.j p = true := by
    rw [fP, if_neg (show ¬ (s.i = t.i ∧ s.j = t.j) from hs)] at h; exact h
   obtain ⟨h2, h3⟩ := Zsb t p h1
   refine ⟨by simp; omega, ?_⟩
   rw [h3]; rfl
theorem Qb8 (t : Tm) : ∀ p : List Tm, fP t.i t.j p = false → Zdq t p = (p ++ [(⟨t.i, t.j, 0⟩ : Tm)]).set p.length ⟨((p ++ [(⟨t.i, t.j, 0⟩ : Tm)]).getD p.length T0).i, ((p ++ [(⟨t.i, t.j, 0⟩ : Tm)]).getD p.length T0).j, ((p ++ [(⟨t.i, t.j, 0⟩ : Tm)]).getD p.length T0).c + t.c⟩ := by
 intro p h
 have e : (p ++ [(⟨t.i, t.j, 0⟩ : Tm)]).getD p.length T0 = ⟨t.i, t.j, 0⟩ := by simp [List.getD]
 rw [e]
 induction p with
 | nil => rfl
 | cons s p ih =>
  rw [fP] at h
  split at h
  · cases h
  ·
   rename_i hs
   rw [Zdq, if_neg (show ¬ same s t from hs), ih h (by simp [List.getD])]; rfl
theorem eqKey (i j a b : Nat) (w : World) : (Op.equal 187 (Zvd i j) (Zvd a b)).run Tryz.prog w = .ok (decide (a = i ∧ b = j)) w := by
 unfold Op.equal
 rw [show Op.maxDepth = 9999 + 1 from rfl, Op.equalIn]
 simp [go_sem]
 have e1 : ((i : Int) = (a : Int)) ↔ a = i := oo
 have e2 : ((j : Int) = (b : Int)) ↔ b = j := oo
 by_cases h1 : a = i <;> by_cases h2 : b = j <;> simp only [e1, e2, h1, h2, if_true, if_false, decide_true, decide_false, Bool.and_true, Bool.and_false, Bool.false_and]
theorem ckInt (e : Bool) (n : Nat) (x : Int) (w : World) : (Instr.checkKey e (n + 1) 3 (.int .i64 x)).run Tryz.prog w = .ok () w := by
 rw [Instr.checkKey]; simp [go_sem]
theorem ckKey (e : Bool) (i j : Nat) (w : World) : (Instr.checkKey e 10000 187 (Zvd i j)).run Tryz.prog w = .ok () w := by
 rw [show (10000 : Nat) = 9999 + 1 from rfl, Instr.checkKey]
 have h1 := ckInt e 9998 (i : Int)
 have h2 := ckInt e 9998 (j : Int)
 simp [go_sem, h1, h2]
end
section
theorem Zd5 (a : Option Addr) (n c : Nat) (w : World) (ty : TypeId) (cs : Array Bool) : (Go.builtin .len #[46] ty cs #[.slice a n c]).run Tryz.prog w = .ok (.value (.int .i64 n)) w := by
 simp [go_sem]
theorem Qgi (b off n c j : Nat) (h : j < n) (w : World) : (Instr.indexAt 46 (.slice (some ⟨b, off, none⟩) n c) (.int .i64 (j : Int))).run Tryz.prog w = .ok (.pointer (some ⟨b, off + j * 7, none⟩)) w := by
 simpa using Xx runUnderlying46 sizeOf117 b off n c j h w
theorem Zku (x0 : Int) (x1 : Int) (w : World) : (Instr.build 187 [(0, .int .i64 x0), (1, .int .i64 x1)].toArray).run Tryz.prog w = .ok (.agg #[.int .i64 x0, .int .i64 x1]) w := by simp [go_sem]
theorem Zu6 (x0 : Int) (x1 : Int) (w : World) : (Instr.build 117 [(0, .int .i64 x0), (1, .int .i64 x1)].toArray).run Tryz.prog w = .ok (.agg #[.int .i64 x0, .int .i64 x1, .int .u64 0, .string ⟨#[]⟩, .bool false, .int .u64 0, .string ⟨#[]⟩]) w := by simp [go_sem]
theorem Zef (x0_0 : Value) (x0_1 : Value) (x0_2 : Value) (x0_3 : Value) (x0_4 : Value) (x0_5 : Value) (x0_6 : Value) (w : World) : (Instr.buildSlice 47 1 [(0, .agg #[x0_0, x0_1, x0_2, x0_3, x0_4, x0_5, x0_6])].toArray).run Tryz.prog w = .ok (.slice (some ⟨w.heap.size, 0, none⟩) 1 1) (w.alloc (.cells #[x0_0, x0_1, x0_2, x0_3, x0_4, x0_5, x0_6] 117 (0, 0))) := by
 simp [go_sem]
theorem opEs (i j : Nat) (p : List Tm) : ∀ e ∈ (esL p 0).toArray.toList, ∀ w, (Op.equal 187 (Zvd i j) e.key).run Tryz.prog w = .ok (pK i j e) w := by
 intro e he w
 obtain ⟨t, _, h2⟩ := Zyk p 0 e he
 rw [h2, eqKey, Qdy i j t.i t.j e h2]
theorem run_lk (i j b : Nat) (p : List Tm) (w : World) (hb : w.heap[b]? = some (.map (esL p 0).toArray p.length)) :
  (Instr.lookup 184 (.map (some b)) (Zvd i j) true).run Tryz.prog w = .ok (.tuple #[.int .i64 ((if fP i j p = true then kP i j p else 0 : Nat) : Int), .bool (fP i j p)]) w := by
 have h := Zpd (P := Tryz.prog) (key := Zvd i j) runUnderlying184 runUnderlying187 (fun e w => ckKey e i j w) (fun w => zeroValue3 w) (opEs i j p) w hb
 rw [h]
 have e := Zi8 i j p 0 0
 rw [show (esL p 0).toArray.toList = esL p 0 from rfl, e]
 rcases hf : fP i j p with _ | _
 · rfl
 · rw [if_pos rfl, if_pos rfl, Nat.zero_add]
theorem run_mu (i j b : Nat) (p : List Tm) (hf : fP i j p = false) (w : World) (hb : w.heap[b]? = some (.map (esL p 0).toArray p.length)) :
  (Instr.mapUpdate 184 (.map (some b)) (Zvd i j) (.int .i64 ((p.length : Nat) : Int))).run Tryz.prog w = .ok () { w with heap := w.heap.setIfInBounds b (.map (esL (p ++ [⟨i, j, 0⟩]) 0).toArray (p ++ [(⟨i, j, 0⟩ : Tm)]).length) } := by
 have h := Zho (P := Tryz.prog) (key := Zvd i j) (val := .int .i64 ((p.length : Nat) : Int)) runUnderlying184 runUnderlying187 (fun e w => ckKey e i j w) (opEs i j p) (by
  rw [show (esL p 0).toArray.toList = esL p 0 from rfl, Zi8, hf]; rfl) w hb
 rw [h]
 have e := Zsj ⟨i, j, 0⟩ p 0
 simp only [Nat.zero_add] at e
 rw [e, List.length_append, List.length_singleton]
 congr 3
 simp
theorem Zp6 : ∀ (p : List Tm) (m k : Nat) (c : Rat), m < p.length → esL (p.set m ⟨(p.getD m T0).i, (p.getD m T0).j, c⟩) k = esL p k
 | [], m, _, _, h => absurd h (Nat.not_lt_zero _)
 | t :: p, 0, k, c, _ => rfl
 | t :: p, m + 1, k, c, h => by
  have ih := Zp6 p m (k + 1) c (by simpa using h)
  rw [List.set_cons_succ, esL, esL]
  congr 1
theorem Zg5 (t : Tm) : (Zp t).cells.toList = [.int .i64 ((t.i : Nat) : Int), .int .i64 ((t.j : Nat) : Int)] ++ (Jo t.c).cells.toList ++ [] := rfl
theorem rdC (q : List Tm) (R : List Value) (k : Nat) (h : k < q.length) : Qk true 5 (cellsOf Zp q ++ R).toArray (0 + k * 7 + 2) = some (Jo (q.getD k T0).c) := by
 have hg : q.getD k T0 = q[k] := by simp [List.getD, h]
 rw [hg, Zge q k h, Zg5, Nat.zero_add, ← Zak Xv q k h, List.append_assoc]
 exact Zwp _ [_, _] [] (Jo q[k].c).cells.toList _ 5 rfl
theorem stC (q : List Tm) (R : List Value) (k : Nat) (h : k < q.length) (x : Rat) :
  Jd (cellsOf Zp q ++ R).toArray (0 + k * 7 + 2) (Jo x).cells.toList = (cellsOf Zp (q.set k ⟨(q.getD k T0).i, (q.getD k T0).j, x⟩) ++ R).toArray := by
 have hg : q.getD k T0 = q[k] := by simp [List.getD, h]
 rw [hg, Zge q k h, Zhk q k h, Zg5, Zg5, Nat.zero_add, ← Zak Xv q k h, List.append_assoc, List.append_assoc _ _ R]
 exact Qa3 _ [_, _] [] (Jo q[k].c).cells.toList (Jo x).cells.toList _ rfl
theorem Qdr (q : List Tm) (R : List Value) (k : Nat) (h : k < q.length) : 0 + k * 7 + 2 + 5 ≤ (cellsOf Zp q ++ R).toArray.size := by
 have := Zn2 (enc := Zp) Xv q R k h; omega
theorem Zn0 {q q' : List Tm} {R : List Value} {c : Nat} (h : (cellsOf Zp q ++ R).length = c * 7) (hl : q'.length = q.length) : (cellsOf Zp q' ++ R).length = c * 7 := by
 rw [List.length_append, cellsOf_length Xv] at *; rw [hl]; exact h
theorem Zny (l : List Tm) (i : Nat) (h : i < l.length) : collect (l.take (i + 1)) = Zdq (l.getD i T0) (collect (l.take i)) := by
 unfold collect
 rw [List.take_add_one, List.getElem?_eq_getElem h, List.foldl_append]
 simp [List.getD, h]
theorem Zg4 {K n : Nat} {l : List Tm} (hK : KL K l) (hs : l.length * (K + 1) ≤ n) (i : Nat) : ∀ u ∈ collect (l.take i), Qc u.c ≤ n := fun u hu => by
 have h1 := Znz (l := l.take i) (fun t ht => hK t (List.mem_of_mem_take ht)) u hu
 have h2 := Zy0 u.i u.j (l.take i)
 rw [List.length_take] at h2
 exact Nat.le_trans h1 (Nat.le_trans (Nat.mul_le_mul_right _ (Nat.le_trans h2 (Nat.min_le_right _ _))) hs)
theorem Zxv {K n : Nat} {l : List Tm} (hK : KL K l) (hs : l.length * (K + 1) ≤ n) {i : Nat} (hi : i < l.length) : Qc (l.getD i T0).c ≤ n := by
 have h1 := hK _ (getD_mem l (d := T0) hi)
 have h2 := Nat.mul_le_mul_right (K + 1) (show 1 ≤ l.length by omega)
 omega
theorem Qbu (l : List Tm) : (norm l).length = ((collect l).filter (fun t => decide (t.c ≠ 0))).length := (List.mergeSort_perm _ _).length_eq
theorem Zqg {l : List Tm} {d : Nat} (h : DL d l) : ∀ t ∈ (collect l).filter (fun t => decide (t.c ≠ 0)), t.i + t.j ≤ d := fun t ht => by
 obtain ⟨s, hs, h1, h2⟩ := Zah (List.mem_filter.1 ht).1
 rw [h1, h2]; exact h s hs
theorem Gi (l : List Tm) (ad : Option Addr) (c K : Nat) (hd : DL 12 l) (hK : KL K l) (hs : l.length * (K + 1) ≤ 50000000000) (hn : l.length ≤ 100000) :
  Zj3 Tryz.prog 81 [.slice ad l.length c] [Row ad (cellsOf Zp l)] (fun v o => ∃ ad' c', v = .slice ad' (norm l).length c' ∧ GrowO 7 117 v (norm l).length (cellsOf Zp (norm l)) o) := by
 refine fn_introO func81 rfl ntmps81 nb ?_
 intro S w0 a hS h
 refine gC h (zS (za rfl (zn (zS ?_)))); clear h; intro a w h
 refine Zi (Zua h dd ?_); clear h; intro b8 a w h
 refine gL h (za rfl (zn (zs (zS (zm rfl (zp (.builtin [_] rfl (Zd5 _ _ _)) (zm rfl (zn (zb ?_))))))))); clear h; intro a w h
 refine Zf (fun (i : Nat) a w => i ≤ l.length ∧ ∃ (ad1 : Option Addr) (c1 : Nat) (o1 : List (Nat × Obj)), (GrowO 7 117 (.slice ad1 (collect (l.take i)).length c1) (collect (l.take i)).length (cellsOf Zp (collect (l.take i))) o1) ∧ St 62 S w0 [(2, (.slice ad1 (collect (l.take i)).length c1)), (3, .map (some b8)), (9, .slice ad l.length c), (10, nI l.length), (11, nI i)] (o1 ++ ((b8, Obj.map ((esL (collect (l.take i)) 0).toArray) ((collect (l.take i)).length)) :: [])) [Row ad (cellsOf Zp l)] a w) (fun i => l.length - i) 0 (⟨Nat.zero_le _, none, 0, [], GrowO.nil _ _, by exact (h).sub sA⟩) ?_; clear h
 rintro i a w ⟨hi_i, ad1, c1, o1, hG1, h⟩
 refine gC h (zS (zp (.lss rfl rfl) (zn (zs ?_)))); clear h; intro a w h
 refine Zb h rfl (fun hc12 => ?_) (fun hc12 => ?_)
 ·
  skip
  have hlt_i : i < l.length := dT hc12
  obtain ⟨B_ad, O_ad, rfl⟩ := h.row_addr (ad := ad) (M := cellsOf Zp l) mm (nE 7)
  have hcl := Zfg (l.take i)
  have hsz := Zg4 hK hs i
  have hstep := Zny l i hlt_i
  have hel := Zxv hK hs hlt_i
  refine gC h (zk (zs (zb (zS (zp (.indexAddr rfl rfl (Qgi _ _ _ _ _ oo)) (zD rfl mm (cells_lt (k := 7) dd (fun _ => rfl) l i oo) isAgg117 sizeOf117 (Zr (k := 7) (fun _ => rfl) ((fun _ => rfl)) l T0 i oo) (.inl rfl) ?_))))))
  refine zz Gz fun b5 => zt' rfl rfl Xp uu sizeOf117 rfl nb rfl ?_
  refine zn (zS (zm rfl (zp (.fA rfl Jz) (zd rfl mr isAgg3 sizeOf3 Ke ?_))))
  refine zp (.fA rfl Jy) (zd rfl mr isAgg3 sizeOf3 Vk ?_)
  refine zp (.build [(_, _), (_, _)] rfl (Zku _ _)) ?_; intro a w h
  refine Zi (Zw5 h rfl rfl mm (run_lk _ _ _ _) dd ?_); clear h; intro a h
  refine gL h (zm rfl (zp (.eX rfl) (zp (.eX rfl) ?_))); clear h; intro a w h
  refine Zg h (fun hc24 h => ?_) (fun hc24 h => ?_)
  ·
   skip
   rw [if_pos hc24] at h
   obtain ⟨hk, hins⟩ := Zsb (l.getD i T0) _ hc24
   refine gL h (za rfl (za rfl (zn (zs (zS (zm rfl (zp (.unOp rfl (Xe _)) ?_))))))); clear h; intro a w h
   obtain ⟨b1, R1, rfl, rfl, hR1, hc1⟩ := hG1.open (Nat.lt_of_le_of_lt (Nat.zero_le _) hk)
   rw [List.cons_append, List.nil_append] at h
   have hz := hsz _ (getD_mem _ (d := T0) hk)
   refine wpList_nil ?_
   refine cW ?_
   refine Zj h rfl ?_
   refine gC h (zk (yD Za [0, 1, 2, 3, 4, 5, 6, 7, 8, 9, 10, 11, 12] (Zd kk) (ym rfl rfl (ym rfl rfl (ym rfl rfl (ym rfl rfl (yp rfl (.indexAddr rfl rfl (Zao _ _ _ _ _ oo)) (yp rfl (.fA rfl Xz) (yd rfl rfl mm isAgg44 sizeOf44 (rdC _ _ _ hk) ?_))))))))); clear h
   refine yp rfl (.fA rfl Xz) (yd rfl rfl mr isAgg44 sizeOf44 Vh ?_)
   refine yv [_, _] rfl rfl call98 (Zoj _ _ oo oo) ?_
   have hl53 := Yw (((collect (l.take i)).getD (kP (l.getD i T0).i (l.getD i T0).j (collect (l.take i))) T0).c) ((l.getD i T0).c)
   refine yp rfl (.indexAddr rfl rfl (Zao _ _ _ _ _ oo)) (yp rfl (.fA rfl Xz) (yt rfl rfl rfl (stC _ _ _ hk _) uu sizeOf44 rfl (Qdr _ _ _ hk) rfl ?_))
   refine yn (zr (zp (.pN (i + 1) (.add rfl rfl)) (zm rfl (zn ?_)))); intro a w h
   rw [← hins, ← hstep] at h
   have hes : esL (collect (l.take (i + 1))) 0 = esL (collect (l.take i)) 0 := by rw [hstep, hins]; exact Zp6 _ _ _ _ hk
   have hln : (collect (l.take (i + 1))).length = (collect (l.take i)).length := by rw [hstep, hins, List.length_set]
   rw [← hes, ← hln] at h
   exact ⟨i + 1, ⟨oo, some ⟨b1, 0, none⟩, c1, [(b1, _)], GrowO.close (R := R1) (cellsOf_length Xv _) (Zn0 hR1 hln) (by rw [hln]; exact hc1), by exact ((h.drop (by repeat (first | exact List.Sublist.refl _ | apply List.Sublist.cons))).factsSub (by simp)).sub sA⟩, oo⟩
  ·
   skip
   rw [if_neg (by rw [hc24]; exact Bool.false_ne_true)] at h
   have hins := Qb8 (l.getD i T0) _ hc24
   have hk : (collect (l.take i)).length < (collect (l.take i) ++ [(⟨(l.getD i T0).i, (l.getD i T0).j, 0⟩ : Tm)]).length := by rw [List.length_append]; exact Nat.lt_succ_self _
   refine gL h (za rfl (za rfl (zn (zs (zS (zm rfl (zp (.unOp rfl (Xe _)) ?_))))))); clear h; intro a w h
   
   refine wpList_nil ?_
   refine cW ?_
   refine Zq h rfl ?_
   refine gC h (zS (zm rfl (zp (.builtin [_] rfl (Zk _ _ _)) (za rfl (zn (zS (zm rfl (zp (.fA rfl Jz) (zd rfl mr isAgg3 sizeOf3 Ke ?_)))))))))
   refine zp (.fA rfl Jy) (zd rfl mr isAgg3 sizeOf3 Vk ?_)
   refine zp (.build [(_, _), (_, _)] rfl (Zku _ _)) (zm rfl ?_); intro a w h
   refine Zi (Znc h rfl rfl rfl uu (run_mu _ _ _ _ hc24) ?_); clear h; intro a w h
   refine gL h (zn (zr (zm rfl (zp (.fA rfl Jz) (zd rfl mr isAgg3 sizeOf3 Ke ?_)))))
   refine zp (.fA rfl Jy) (zd rfl mr isAgg3 sizeOf3 Vk ?_)
   refine zp (.build [(_, _), (_, _)] rfl (Zu6 _ _)) (zB [(_, _)] rfl (Zef _ _ _ _ _ _ _) fun b42 => ?_); intro a w h
   refine Zi (Gd (σr := [(b5, bV (Zp (l.getD i T0)) 117), (b8, Obj.map ((esL (collect (l.take i) ++ [(⟨(l.getD i T0).i, (l.getD i T0).j, 0⟩ : Tm)]) 0).toArray) ((collect (l.take i) ++ [(⟨(l.getD i T0).i, (l.getD i T0).j, 0⟩ : Tm)]).length))]) h rfl rfl (List.Perm.trans (List.Perm.refl _) (List.Perm.cons _ (Qbm (List.Perm.refl _)))) hG1 runUnderlying47 runUnderlying47 typeInfo117 sizeOf117 Gz rfl dd dd rfl rfl dd (by show 72 * (2 * ((collect (l.take i)).length + 1) + 192) ≤ 281474976710656; rw [List.length_take] at hcl; omega) dd ?_); clear h
   intro v43 o43 a w hG43 h
   obtain ⟨ad43, c43, rfl⟩ := hG43.is
   have hLn43 : (collect (l.take i)).length + 1 = ((collect (l.take i)) ++ [(⟨(l.getD i T0).i, (l.getD i T0).j, 0⟩ : Tm)]).length := lA
   rw [hLn43] at h hG43
   replace hG43 : GrowO 7 117 (.slice ad43 ((collect (l.take i)) ++ [(⟨(l.getD i T0).i, (l.getD i T0).j, 0⟩ : Tm)]).length c43) ((collect (l.take i)) ++ [(⟨(l.getD i T0).i, (l.getD i T0).j, 0⟩ : Tm)]).length (cellsOf Zp ((collect (l.take i)) ++ [(⟨(l.getD i T0).i, (l.getD i T0).j, 0⟩ : Tm)])) o43 := by rw [Qd, Xc]; exact hG43
   obtain ⟨b43, R43, rfl, rfl, hR43, hc43⟩ := hG43.open (Nat.lt_of_le_of_lt (Nat.zero_le _) hk)
   rw [List.cons_append, List.nil_append] at h
   have hz : Qc ((collect (l.take i) ++ [(⟨(l.getD i T0).i, (l.getD i T0).j, 0⟩ : Tm)]).getD (collect (l.take i)).length T0).c ≤ 50000000000 := by
    rw [show (collect (l.take i) ++ [(⟨(l.getD i T0).i, (l.getD i T0).j, 0⟩ : Tm)]).getD (collect (l.take i)).length T0 = (⟨(l.getD i T0).i, (l.getD i T0).j, 0⟩ : Tm) by simp [List.getD]]; exact Nat.le_trans Zd6 dd
   refine gL h (za rfl (zn (yD Za [0, 1, 2, 3, 4, 5, 6, 7, 8, 9, 10, 11, 12] (Zd kk) (ym rfl rfl (ym rfl rfl (ym rfl rfl (ym rfl rfl (yp rfl (.indexAddr rfl rfl (Zao _ _ _ _ _ oo)) (yp rfl (.fA rfl Xz) (yd rfl rfl mm isAgg44 sizeOf44 (rdC _ _ _ hk) ?_)))))))))); clear h
   refine yp rfl (.fA rfl Xz) (yd rfl rfl mr isAgg44 sizeOf44 Vh ?_)
   refine yv [_, _] rfl rfl call98 (Zoj _ _ oo oo) ?_
   have hl53 := Yw (((collect (l.take i) ++ [(⟨(l.getD i T0).i, (l.getD i T0).j, 0⟩ : Tm)]).getD ((collect (l.take i)).length) T0).c) ((l.getD i T0).c)
   refine yp rfl (.indexAddr rfl rfl (Zao _ _ _ _ _ oo)) (yp rfl (.fA rfl Xz) (yt rfl rfl rfl (stC _ _ _ hk _) uu sizeOf44 rfl (Qdr _ _ _ hk) rfl ?_))
   refine yn (zr (zp (.pN (i + 1) (.add rfl rfl)) (zm rfl (zn ?_)))); intro a w h
   rw [← hins, ← hstep] at h
   have hes : esL (collect (l.take (i + 1))) 0 = esL (collect (l.take i) ++ [(⟨(l.getD i T0).i, (l.getD i T0).j, 0⟩ : Tm)]) 0 := by rw [hstep, hins]; exact Zp6 _ _ _ _ hk
   have hln : (collect (l.take (i + 1))).length = (collect (l.take i) ++ [(⟨(l.getD i T0).i, (l.getD i T0).j, 0⟩ : Tm)]).length := by rw [hstep, hins, List.length_set]
   rw [← hes, ← hln] at h
   exact ⟨i + 1, ⟨oo, some ⟨b43, 0, none⟩, c43, [(b43, _)], GrowO.close (R := R43) (cellsOf_length Xv _) (Zn0 hR43 hln) (by rw [hln]; exact hc43), by exact (((h.perm (List.Perm.trans (pm_cc (List.Perm.refl _)) (List.Perm.cons _ (List.Perm.refl _))).symm).drop (by repeat (first | exact List.Sublist.refl _ | apply List.Sublist.cons))).factsSub (by simp)).sub sA⟩, oo⟩
 ·
  skip
  have heq_i : l.length = i := dF hc12
  subst heq_i
  rw [List.take_length] at h hG1
  refine gC h (ze (zS (zm rfl ?_))); clear h; intro a w h
  refine Zi (Zb0 h hS (vs := [_, _]) rfl call142 (Qdg (collect l) o1 hG1 (Nat.le_trans (Zfg l) oo) [(b8, _)] [Row ad (cellsOf Zp l)]) (List.Perm.refl _) ss ss ?_); clear h; rintro v58 σ58 Ψ58 a w ⟨hΦ58, o58, hG58, rfl⟩ h
  rw [hΦ58] at h
  refine gL h (za rfl (zn (zS (zm rfl ?_)))); clear h; intro a w h
  refine Zi (Zb0 h hS (vs := [_, _]) rfl call144 (C_Sort ((collect l).filter (fun t => decide (t.c ≠ 0))) o58 hG58 (List.Pairwise.filter _ (Zjn l)) (Zqg hd) (Nat.le_trans (List.length_filter_le _ _) (Nat.le_trans (Zfg l) oo)) [(b8, _)] [Row ad (cellsOf Zp l)]) (List.Perm.refl _) ss ss ?_); clear h; rintro v60 σ60 Ψ60 a w ⟨hΦ60, rfl, o60, hG60, rfl⟩ h
  rw [hΦ60] at h
  refine gL h (zn (zS (zm rfl (za rfl (zn (zt ?_)))))); clear h; intro a w h
  have hnl := Qbu l
  rw [← hnl] at hG60
  obtain ⟨ad', c', hv⟩ := hG60.is
  refine Zoq h (Zc h rfl (.tmp rfl)) ⟨ad', c', hv, hG60⟩ (List.sublist_append_left _ _)
end
section
theorem Zh9 (x2_0 : Value) (x2_1 : Value) (x2_2 : Value) (x2_3 : Value) (x2_4 : Value) (w : World) : (Instr.build 117 [(2, .agg #[x2_0, x2_1, x2_2, x2_3, x2_4])].toArray).run Tryz.prog w = .ok (.agg #[.int .i64 0, .int .i64 0, x2_0, x2_1, x2_2, x2_3, x2_4]) w := by simp [go_sem]
theorem Gy (x0_0 : Value) (x0_1 : Value) (x0_2 : Value) (x0_3 : Value) (x0_4 : Value) (x0_5 : Value) (x0_6 : Value) (w : World) : (Instr.buildSlice 46 1 [(0, .agg #[x0_0, x0_1, x0_2, x0_3, x0_4, x0_5, x0_6])].toArray).run Tryz.prog w = .ok (.slice (some ⟨w.heap.size, 0, none⟩) 1 1) (w.alloc (.cells #[x0_0, x0_1, x0_2, x0_3, x0_4, x0_5, x0_6] 117 (0, 0))) := by
 simp [go_sem]
theorem Zg8 (x0 : Int) (x2_0 : Value) (x2_1 : Value) (x2_2 : Value) (x2_3 : Value) (x2_4 : Value) (w : World) : (Instr.build 117 [(0, .int .i64 x0), (2, .agg #[x2_0, x2_1, x2_2, x2_3, x2_4])].toArray).run Tryz.prog w = .ok (.agg #[.int .i64 x0, .int .i64 0, x2_0, x2_1, x2_2, x2_3, x2_4]) w := by simp [go_sem]
theorem Zg7 (x1 : Int) (x2_0 : Value) (x2_1 : Value) (x2_2 : Value) (x2_3 : Value) (x2_4 : Value) (w : World) : (Instr.build 117 [(1, .int .i64 x1), (2, .agg #[x2_0, x2_1, x2_2, x2_3, x2_4])].toArray).run Tryz.prog w = .ok (.agg #[.int .i64 0, .int .i64 x1, x2_0, x2_1, x2_2, x2_3, x2_4]) w := by simp [go_sem]
theorem C_pOf (l : List Tm) (ad : Option Addr) (c K : Nat) (hd : DL 12 l) (hK : KL K l) (hs : l.length * (K + 1) ≤ 50000000000) (hn : l.length ≤ 100000) : Zj3 Tryz.prog 19 [.slice ad l.length c] [Row ad (cellsOf Zp l)] (fun v o => ∃ ad' c', v = .tuple #[.slice ad' (norm l).length c', .int .i64 0] ∧ GrowO 7 117 (.slice ad' (norm l).length c') (norm l).length (cellsOf Zp (norm l)) o) := by
 refine fn_introO func19 rfl ntmps19 nb ?_
 intro S w0 a hS h
 refine gC h (zS (za rfl (za rfl (zn (zs (zS (zm rfl (zp (.builtin [_] rfl (Zd5 _ _ _)) (zm rfl (zn (zb ?_))))))))))); clear h; intro a w h
 refine Zf (fun (i : Nat) a w => i ≤ l.length ∧ St 21 S w0 [(0, .slice ad l.length c), (7, .slice ad l.length c), (8, nI l.length), (9, nI i)] [] [Row ad (cellsOf Zp l)] a w) (fun i => l.length - i) 0 (⟨Nat.zero_le _, by exact (h).sub sA⟩) ?_; clear h
 rintro i a w ⟨hi_i, h⟩
 refine gC h (zS (zp (.lss rfl rfl) (zn (zs ?_)))); clear h; intro a w h
 refine Zb h rfl (fun hc10 => ?_) (fun hc10 => ?_)
 ·
  skip
  have hlt_i : i < l.length := dT hc10
  obtain ⟨B_ad, O_ad, rfl⟩ := h.row_addr (ad := ad) (M := cellsOf Zp l) mm (nE 7)
  have hdt := hd _ (getD_mem l (d := T0) hlt_i)
  refine gC h (zk (zs (zb (zS (zp (.indexAddr rfl rfl (Qgi _ _ _ _ _ oo)) (zD rfl mm (cells_lt (k := 7) dd (fun _ => rfl) l i oo) isAgg117 sizeOf117 (Zr (k := 7) (fun _ => rfl) ((fun _ => rfl)) l T0 i oo) (.inl rfl) ?_))))))
  refine zz Gz fun b5 => zt' rfl rfl Xp uu sizeOf117 rfl nb rfl ?_
  refine zn (zS (zd rfl mr isAgg117 sizeOf117 Vu ?_))
  refine zv [_] rfl call80 (C_may (l.getD i T0) oo) (za rfl (zn (zS (zm rfl (zp (.neq rfl rfl) (zn ?_)))))); intro a w h
  refine cW ?_
  refine Zb h rfl (fun hc16 => (absurd hc16 dd)) (fun hc16 => ?_)
  refine gC h (zk (zr (zp (.pN (i + 1) (.add rfl rfl)) (zm rfl (zn ?_))))); clear h; intro a w h
  exact ⟨i + 1, ⟨oo, ((h.drop sl).factsSub (by simp)).sub sA⟩, oo⟩
 ·
  skip
  have heq_i : l.length = i := dF hc10
  subst heq_i
  refine gC h (ze (zS (zm rfl ?_))); clear h; intro a w h
  refine Zi (Jb h (vs := [_]) rfl call81 (Gi l _ _ K hd hK hs hn) ss dd ?_); clear h; rintro v20 σ20 a w ⟨ad20, c20, rfl, hG20⟩ h
  refine gL h (za rfl (za rfl (zn (zt ?_)))); clear h; intro a w h
  refine Zoq h (Qv h rfl (.tmp rfl) (.tmp rfl)) ⟨ad20, c20, rfl, hG20⟩ (List.sublist_append_left _ _)
theorem Ztf (l : List Tm) (ad : Option Addr) (c K : Nat) (hd : DL 12 l) (hK : KL K l) (hs : l.length * (K + 1) ≤ 50000000000) (hn : l.length ≤ 100000) : Ctr Tryz.prog 19 [.slice ad l.length c] [Row ad (cellsOf Zp l)] (fun v Ψ => ∃ ad' c', v = .tuple #[.slice ad' (norm l).length c', .int .i64 0] ∧ Ψ = [Row ad' (cellsOf Zp (norm l))]) := Zyx (C_pOf l ad c K hd hK hs hn)
theorem Pq.room {d K : Nat} {l : List Tm} (h : Pq d K l) (hK : K ≤ 400000000) : l.length * (K + 1) ≤ 50000000000 :=
 Nat.le_trans (Nat.mul_le_mul h.len (show K + 1 ≤ 400000001 by omega)) dd
theorem Pq.deg12 {d K : Nat} {l : List Tm} (h : Pq d K l) (hd : d ≤ 12) : DL 12 l := h.deg.mono hd
theorem Zj0 (l : List Tm) (ad : Option Addr) (c d K : Nat) (hq : Pq d K l) (hd : d ≤ 12) (hK : K ≤ 400000000) : Zj3 Tryz.prog 82 [.slice ad l.length c] [Row ad (cellsOf Zp l)] (fun v o => ∃ ad' c', v = .slice ad' (norm l).length c' ∧ GrowO 7 117 v (norm l).length (cellsOf Zp (norm l)) o) := by
 refine fn_introO func82 rfl ntmps82 nb ?_
 intro S w0 a hS h
 refine gC h (zS (za rfl (zn (zS (zm rfl ?_))))); clear h; intro a w h
 refine Zi (Jb h (vs := [_]) rfl call19 (C_pOf l _ _ K (hq.deg12 hd) hq.siz (hq.room hK) (by have := hq.len; omega)) ss dd ?_); clear h; rintro v7 σ7 a w ⟨ad7, c7, rfl, hG7⟩ h
 refine gL h (zm rfl (zp (.eX rfl) (zp (.eX rfl) (za rfl (za rfl (zn (zS (zm rfl (za rfl (zn (zt ?_))))))))))); clear h; intro a w h
 refine Zoq h (Zc h rfl (.tmp rfl)) ⟨ad7, c7, rfl, hG7⟩ (List.sublist_append_left _ _)
theorem Xk (l : List Tm) (ad : Option Addr) (c d K : Nat) (h : Pq d K l) (hd : d ≤ 12) (hK : K ≤ 400000000) : Ctr Tryz.prog 82 [.slice ad l.length c] [Row ad (cellsOf Zp l)] (fun v Ψ => ∃ ad' c', v = .slice ad' (norm l).length c' ∧ Ψ = [Row ad' (cellsOf Zp (norm l))]) := Zgc (Zj0 l ad c d K h hd hK)
theorem Qij (x : Rat) (K : Nat) (hx : Qc x ≤ K) (hK : K ≤ 400000000) : Zj3 Tryz.prog 44 [Jo x] [] (fun v o => ∃ ad' c', v = .slice ad' (norm [(⟨0, 0, x⟩ : Tm)]).length c' ∧ GrowO 7 117 v (norm [(⟨0, 0, x⟩ : Tm)]).length (cellsOf Zp (norm [(⟨0, 0, x⟩ : Tm)])) o) := by
 refine fn_introO func44 rfl ntmps44 nb ?_
 intro S w0 a hS h
 refine gC h (zS (zx rfl fun b1 => za rfl (zn (zS (zd rfl mr isAgg44 sizeOf44 Zh ?_)))))
 refine zp (.build [(_, _)] rfl (Zh9 _ _ _ _ _)) (zB [(_, _)] rfl (Gy _ _ _ _ _ _ _) fun b5 => ?_); intro a w h
 replace h := h.shareAll hS (cellsOf Zp ([(⟨0, 0, x⟩ : Tm)])) rfl
 refine Zi (Jb h (vs := [_]) rfl call81 (Gi [(⟨0, 0, x⟩ : Tm)] _ _ K (fun t ht => by rw [List.mem_singleton] at ht; subst ht; exact Nat.zero_le _) (fun t ht => by rw [List.mem_singleton] at ht; subst ht; exact hx) (by rw [List.length_singleton]; omega) ss) ss dd ?_); clear h; rintro v6 σ6 a w ⟨ad6, c6, rfl, hG6⟩ h
 refine gL h (za rfl (zn (zt ?_))); clear h; intro a w h
 refine Zoq h (Zc h rfl (.tmp rfl)) ⟨ad6, c6, rfl, hG6⟩ (List.sublist_append_left _ _)
theorem Ze1 (x : Rat) (K : Nat) (hx : Qc x ≤ K) (hK : K ≤ 400000000) : Ctr Tryz.prog 44 [Jo x] [] (fun v Ψ => ∃ ad' c', v = .slice ad' (norm [(⟨0, 0, x⟩ : Tm)]).length c' ∧ Ψ = [Row ad' (cellsOf Zp (norm [(⟨0, 0, x⟩ : Tm)]))]) := Zgc (Qij x K hx hK)
theorem Zz7 (p : List Tm) (ad : Option Addr) (c d K K' g : Nat) (cb : List Value) (Φf : List Zy) (G : Tm → Tm) (hq : Pq d K p) (hd : d ≤ 12) (hK : K ≤ 400000000) (hg : ∀ args w, (callFunc g args).run Tryz.prog w = .ok (.enter g args) w)
  (hf : ∀ t ∈ norm p, Vj Tryz.prog g (Zp t :: cb) Φf (Zp (G t))) (hG1 : ∀ t ∈ norm p, (G t).i + (G t).j ≤ 12) (hG2 : ∀ t ∈ norm p, Qc (G t).c ≤ K') (hK' : K' ≤ 400000000) :
  Zj3 Tryz.prog 137 [.slice ad p.length c, .func (.func g) #[] cb.toArray] (Row ad (cellsOf Zp p) :: Φf) (fun v o => ∃ ad' c', v = .slice ad' (norm ((norm p).map G)).length c' ∧ GrowO 7 117 v (norm ((norm p).map G)).length (cellsOf Zp (norm ((norm p).map G))) o) := by
 have hnl : (norm p).length ≤ 91 := Nat.le_trans hq.nlen (Nat.le_trans (Zem (show d + 1 ≤ 13 by omega)) dd)
 have hDL : DL 12 ((norm p).map G) := fun u hu => by obtain ⟨t, ht, rfl⟩ := List.mem_map.1 hu; exact hG1 t ht
 have hKL : KL K' ((norm p).map G) := fun u hu => by obtain ⟨t, ht, rfl⟩ := List.mem_map.1 hu; exact hG2 t ht
 have hlm : ((norm p).map G).length ≤ 100000 := by rw [List.length_map]; omega
 have hrm : ((norm p).map G).length * (K' + 1) ≤ 50000000000 := Nat.le_trans (Nat.mul_le_mul (show ((norm p).map G).length ≤ 91 by rw [List.length_map]; exact hnl) (show K' + 1 ≤ 400000001 by omega)) dd
 refine fn_introO func137 rfl ntmps137 nb ?_
 intro S w0 a hS h
 refine gC h (zS (za rfl (zn (zS (za rfl (zn (zs (zS (zm rfl (zf [_] rfl call82 (Xk p _ _ d K hq hd hK) ?_)))))))))); rintro v9 Ψ9 ⟨ad9, c9, rfl, rfl⟩
 refine zp (.builtin [_] rfl (Zk _ _ _)) (zm rfl (zn (zb ?_))); intro a w h
 refine Zf (fun (i : Nat) a w => i ≤ (norm p).length ∧ ∃ (ad1 : Option Addr) (c1 : Nat) (o1 : List (Nat × Obj)), (GrowO 7 117 (.slice ad1 (((norm p).take i).map G).length c1) (((norm p).take i).map G).length (cellsOf Zp (((norm p).take i).map G)) o1) ∧ St 24 S w0 [(1, .func (.func g) #[] cb.toArray), (4, .slice none 0 0), (5, (.slice ad1 (((norm p).take i).map G).length c1)), (9, .slice ad9 ((norm p).length) c9), (10, nI ((norm p).length)), (11, nI i)] (o1 ++ []) (Row ad9 (cellsOf Zp (norm p)) :: Row ad (cellsOf Zp p) :: Φf) a w) (fun i => (norm p).length - i) 0 (⟨Nat.zero_le _, none, 0, [], GrowO.nil _ _, by exact (h).sub sA⟩) ?_; clear h
 rintro i a w ⟨hi_i, ad1, c1, o1, hG1, h⟩
 refine gC h (zS (zp (.lss rfl rfl) (zn (zs ?_)))); clear h; intro a w h
 refine Zb h rfl (fun hc12 => ?_) (fun hc12 => ?_)
 ·
  skip
  have hlt_i : i < (norm p).length := dT hc12
  obtain ⟨B_ad9, O_ad9, rfl⟩ := h.row_addr (ad := ad9) (M := cellsOf Zp (norm p)) mm (nE 7)
  have hstep : ((norm p).take (i + 1)).map G = ((norm p).take i).map G ++ [G ((norm p).getD i T0)] := by rw [take_snoc _ hlt_i, List.map_append]; rfl
  have hml : (((norm p).take i).map G).length ≤ 91 := by rw [List.length_map, List.length_take]; omega
  refine gC h (zk (zs (zb (zS (zp (.indexAddr rfl rfl (Zao _ _ _ _ _ oo)) (zD rfl mm (cells_lt (k := 7) dd (fun _ => rfl) (norm p) i oo) isAgg117 sizeOf117 (Zr (k := 7) (fun _ => rfl) ((fun _ => rfl)) (norm p) T0 i oo) (.inl rfl) ?_))))))
  refine zz Gz fun b7 => zt' rfl rfl Xp uu sizeOf117 rfl nb rfl ?_
  refine zn (zr (zm rfl (zm rfl (zd rfl mr isAgg117 sizeOf117 Vu ?_)))); intro a w h
  refine Zi (Zw6 h (fs := []) (cs := cb) rfl (vs := [_]) rfl hg (hf _ (getD_mem (norm p) (d := T0) hlt_i)) (by intro R hR; simp [hR]) dd ?_); clear h; intro a w h
  refine gL h (zB [(_, _)] rfl (Gy _ _ _ _ _ _ _) fun b19 => ?_); clear h; intro a w h
  refine Zi (Gd (σr := [(b7, bV (Zp ((norm p).getD i T0)) 117)]) h rfl rfl (List.Perm.trans (List.Perm.refl _) (List.Perm.cons _ (Qbm (List.Perm.refl _)))) hG1 runUnderlying46 runUnderlying46 typeInfo117 sizeOf117 Gz rfl dd dd rfl rfl dd (by show 72 * (2 * ((((norm p).take i).map G).length + 1) + 192) ≤ 281474976710656; omega) dd ?_); clear h
  intro v20 o20 a w hG20 h
  obtain ⟨ad20, c20, rfl⟩ := hG20.is
  have hLn20 : (((norm p).take i).map G).length + 1 = ((((norm p).take i).map G) ++ [G ((norm p).getD i T0)]).length := lA
  rw [hLn20] at h hG20
  replace hG20 : GrowO 7 117 (.slice ad20 ((((norm p).take i).map G) ++ [G ((norm p).getD i T0)]).length c20) ((((norm p).take i).map G) ++ [G ((norm p).getD i T0)]).length (cellsOf Zp ((((norm p).take i).map G) ++ [G ((norm p).getD i T0)])) o20 := by rw [Qd, Xc]; exact hG20
  refine gL h (za rfl (zn (zr (zp (.pN (i + 1) (.add rfl rfl)) (zm rfl (zn ?_)))))); clear h; intro a w h
  rw [← hstep] at h hG20
  exact ⟨i + 1, ⟨oo, ad20, c20, o20, hG20, by exact (((h.perm (List.Perm.trans (Qbn (List.Perm.refl _)) (List.Perm.cons _ (List.Perm.refl _))).symm).drop (by repeat (first | exact List.Sublist.refl _ | apply List.Sublist.cons))).factsSub (by exact (fun _ hR => by repeat (first | exact hR | apply List.Mem.tail)))).sub sA⟩, oo⟩
 ·
  skip
  have heq_i : (norm p).length = i := dF hc12
  subst heq_i
  rw [List.take_length] at h hG1
  replace h := St.shareO' h hS hG1
  refine gC h (ze (zS (zm rfl ?_))); clear h; intro a w h
  refine Zi (Jb h (vs := [_]) rfl call81 (Gi ((norm p).map G) _ _ K' hDL hKL hrm hlm) ss dd ?_); clear h; rintro v23 σ23 a w ⟨ad23, c23, rfl, hG23⟩ h
  refine gL h (za rfl (zn (zt ?_))); clear h; intro a w h
  refine Zoq h (Zc h rfl (.tmp rfl)) ⟨ad23, c23, rfl, hG23⟩ (List.sublist_append_left _ _)
end
section
theorem Vc (x0 : Int) (x1 : Int) (x2_0 : Value) (x2_1 : Value) (x2_2 : Value) (x2_3 : Value) (x2_4 : Value) (w : World) : (Instr.build 117 [(0, .int .i64 x0), (1, .int .i64 x1), (2, .agg #[x2_0, x2_1, x2_2, x2_3, x2_4])].toArray).run Tryz.prog w = .ok (.agg #[.int .i64 x0, .int .i64 x1, x2_0, x2_1, x2_2, x2_3, x2_4]) w := by simp [go_sem]
theorem Qda (t : Tm) (x : Rat) (b o : Nat) (ht : Qc t.c ≤ 10000000000) (hx : Qc x ≤ 10000000000) : Vj Tryz.prog 162 [Zp t, .pointer (some ⟨b, o, none⟩)] [Row (some ⟨b, o, none⟩) (Value.cells (Jo x)).toList] (Zp ⟨t.i, t.j, x * t.c⟩) := by
 refine fn_intro func162 rfl ntmps162 nb ?_
 intro S w0 a hS h
 refine gC h (zS (zx rfl fun b2 => zz Gz fun b3 => zn (zs (yD Za [0, 1, 2, 3, 4, 5, 6, 7, 8, 9] (Zd kk) (yp rfl (.fA rfl Jz) (yd rfl rfl mr isAgg3 sizeOf3 Ke ?_)))))); clear h
 refine yp rfl (.fA rfl Jy) (yd rfl rfl mr isAgg3 sizeOf3 Vk ?_)
 refine Zm (b := b) (off := o) (j := 0) (M := (Value.cells (Jo x)).toList) (v := Jo (x)) rfl kk rfl mm (Nat.succ_pos _) isAgg44 sizeOf44 rfl (.inl rfl) dd ?_
 refine yp rfl (.fA rfl Xz) (yd rfl rfl mr isAgg44 sizeOf44 Vh ?_)
 refine yv [_, _] rfl rfl call69 (Zaq _ _ oo oo) ?_
 have hl11 := Qf (x) ((t).c)
 refine yp rfl (.build [(_, _), (_, _), (_, _)] rfl (Vc _ _ _ _ _ _ _)) (yt rfl rfl rfl Xp uu sizeOf117 rfl nb rfl ?_)
 refine yn (zt ?_); intro a w h
 refine Jm h (Zc h rfl (.cell rfl mr isAgg117 sizeOf117 Vu)) ?_
 rfl
theorem Qab (p : List Tm) (ad : Option Addr) (c d K : Nat) (hq : Pq d K p) (hd : d ≤ 12) (hK : K ≤ 400000000) (x : Rat) (Kx : Nat) (hx : Qc x ≤ Kx) (hs : Kx + K ≤ 400000000) : Zj3 Tryz.prog 100 [.slice ad p.length c, Jo x] [Row ad (cellsOf Zp p)] (fun v o => ∃ ad' c', v = .slice ad' (norm (Zs x p)).length c' ∧ GrowO 7 117 v (norm (Zs x p)).length (cellsOf Zp (norm (Zs x p))) o) := by
 refine fn_introO func100 rfl ntmps100 nb ?_
 intro S w0 a hS h
 refine gC h (zS (zx rfl fun b3 => ?_)); clear h; intro a w h
 replace h := h.shareAll hS ((Value.cells (Jo (x))).toList) rfl
 refine gL h (za rfl (zn (zS (zm rfl (zp (.makeFunc [] [_] rfl rfl) ?_))))); clear h; intro a w h
 refine Zi (Jb h (vs := [_, _]) rfl call137 (Zz7 p _ _ d K (Kx + K) 162 [.pointer (some ⟨b3, 0, none⟩)] [Row (some ⟨b3, 0, none⟩) (Value.cells (Jo x)).toList] (fun t => ⟨t.i, t.j, x * t.c⟩) hq hd hK call162 (fun t ht => Qda t x b3 0 (by have := hq.nsz t ht; omega) oo) (fun t ht => by have := (Qm hq.deg) t ht; simp only; omega) (fun t ht => by have := hq.nsz t ht; have := Qf x t.c; simp only; omega) hs) ss dd ?_); clear h; rintro v7 σ7 a w ⟨ad7, c7, rfl, hG7⟩ h
 refine gL h (za rfl (zn (zt ?_))); clear h; intro a w h
 have e : norm ((norm p).map (fun t => (⟨t.i, t.j, x * t.c⟩ : Tm))) = norm (Zs x p) := Ji ((Eqv.nrm p).scale x)
 rw [e] at h hG7
 refine Zoq h (Zc h rfl (.tmp rfl)) ⟨ad7, c7, rfl, hG7⟩ (List.sublist_append_left _ _)
theorem Ze0 (p : List Tm) (ad : Option Addr) (c d K : Nat) (hq : Pq d K p) (hd : d ≤ 12) (hK : K ≤ 400000000) (x : Rat) (Kx : Nat) (hx : Qc x ≤ Kx) (hs : Kx + K ≤ 400000000) : Ctr Tryz.prog 100 [.slice ad p.length c, Jo x] [Row ad (cellsOf Zp p)] (fun v Ψ => ∃ ad' c', v = .slice ad' (norm (Zs x p)).length c' ∧ Ψ = [Row ad' (cellsOf Zp (norm (Zs x p)))]) := Zgc (Qab p ad c d K hq hd hK x Kx hx hs)
theorem Zzb (i : Nat) (w : World) (ty : TypeId) (cs : Array Bool) : (Go.builtin .max #[3, 3] ty cs #[.int .i64 0, .int .i64 ((i : Int) - 1)]).run Tryz.prog w = .ok (.value (.int .i64 ((i - 1 : Nat) : Int))) w := by
 simp [go_sem] <;> (try rw [Int.max_def]) <;> (try split) <;> (try split) <;> (try omega)
theorem C_Dx1 (t : Tm) (ht : Qc t.c ≤ 10000000000) (hi : t.i ≤ 1000) (hj : t.j ≤ 1000) : Ys Tryz.prog 138 [Zp t] (Zp ⟨t.i - 1, t.j, t.c * ((t.i : Int) : Rat)⟩) := by
 refine fn_intro func138 rfl ntmps138 nb ?_
 intro S w0 a hS h
 refine gC h (zS (zx rfl fun b1 => zz Gz fun b2 => zn (zs (yD Za [0, 1, 2, 3, 4, 5, 6, 7, 8, 9, 10, 11, 12, 13] (Zd kk) (yp rfl (.fA rfl Jz) (yd rfl rfl mr isAgg3 sizeOf3 Ke ?_)))))); clear h
 refine yp rfl (.sub rfl rfl) (yp rfl (.builtin [_, _] rfl (fun w ty cs => Zzb _ w ty cs)) (yp rfl (.fA rfl Jy) (yd rfl rfl mr isAgg3 sizeOf3 Vk ?_)))
 refine yp rfl (.fA rfl Xz) (yd rfl rfl mr isAgg44 sizeOf44 Vh ?_)
 refine yp rfl (.fA rfl Jz) (yd rfl rfl mr isAgg3 sizeOf3 Ke ?_)
 refine yv [_] rfl rfl call45 (Vw _ oo oo) ?_
 have hl13 := Zw ((((t).i : Nat) : Int)) oo oo
 refine yv [_, _] rfl rfl call69 (Zaq _ _ oo oo) ?_
 have hl14 := Qf ((t).c) ((((((t).i : Nat) : Int) : Int) : Rat))
 refine yp rfl (.build [(_, _), (_, _), (_, _)] rfl (Vc _ _ _ _ _ _ _)) (yt rfl rfl rfl Xp uu sizeOf117 rfl nb rfl ?_)
 refine yn (zt ?_); intro a w h
 refine Jm h (Zc h rfl (.cell rfl mr isAgg117 sizeOf117 Vu)) ?_
 rfl
theorem C_Dx (p : List Tm) (ad : Option Addr) (c d K : Nat) (hq : Pq d K p) (hd : d ≤ 12) (hK : K ≤ 390000000) : Zj3 Tryz.prog 76 [.slice ad p.length c] [Row ad (cellsOf Zp p)] (fun v o => ∃ ad' c', v = .slice ad' (norm (dxL p)).length c' ∧ GrowO 7 117 v (norm (dxL p)).length (cellsOf Zp (norm (dxL p))) o) := by
 have hK0 := hK
 replace hK : K ≤ 400000000 := oo
 refine fn_introO func76 rfl ntmps76 nb ?_
 intro S w0 a hS h
 refine gC h (zS (za rfl (zn (zS (zm rfl ?_))))); clear h; intro a w h
 refine Zi (Jb h (vs := [_, _]) rfl call137 (Zz7 p _ _ d K (K + 2) 138 [] [] (fun t => ⟨t.i - 1, t.j, t.c * ((t.i : Int) : Rat)⟩) hq hd hK call138 (fun t ht => Zsz (C_Dx1 t (by have := hq.nsz t ht; omega) (by have := (Qm hq.deg) t ht; omega) (by have := (Qm hq.deg) t ht; omega)) _) (fun t ht => by have := (Qm hq.deg) t ht; simp only; omega) (fun t ht => by have := hq.nsz t ht; have h0 := (Qm hq.deg) t ht; have := Qf t.c ((t.i : Int) : Rat); have := Zw (t.i : Int) oo oo; simp only; omega) oo) ss dd ?_); clear h; rintro v4 σ4 a w ⟨ad4, c4, rfl, hG4⟩ h
 refine gL h (za rfl (zn (zt ?_))); clear h; intro a w h
 have e : norm ((norm p).map (fun t => (⟨t.i - 1, t.j, t.c * ((t.i : Int) : Rat)⟩ : Tm))) = norm (dxL p) := Ji ((Eqv.nrm p).dx)
 rw [e] at h hG4
 refine Zoq h (Zc h rfl (.tmp rfl)) ⟨ad4, c4, rfl, hG4⟩ (List.sublist_append_left _ _)
theorem Zdl (p : List Tm) (ad : Option Addr) (c d K : Nat) (hq : Pq d K p) (hd : d ≤ 12) (hK : K ≤ 390000000) : Ctr Tryz.prog 76 [.slice ad p.length c] [Row ad (cellsOf Zp p)] (fun v Ψ => ∃ ad' c', v = .slice ad' (norm (dxL p)).length c' ∧ Ψ = [Row ad' (cellsOf Zp (norm (dxL p)))]) := Zgc (C_Dx p ad c d K hq hd hK)
theorem C_Dy1 (t : Tm) (ht : Qc t.c ≤ 10000000000) (hi : t.i ≤ 1000) (hj : t.j ≤ 1000) : Ys Tryz.prog 158 [Zp t] (Zp ⟨t.i, t.j - 1, t.c * ((t.j : Int) : Rat)⟩) := by
 refine fn_intro func158 rfl ntmps158 nb ?_
 intro S w0 a hS h
 refine gC h (zS (zx rfl fun b1 => zz Gz fun b2 => zn (zs (yD Za [0, 1, 2, 3, 4, 5, 6, 7, 8, 9, 10, 11, 12, 13] (Zd kk) (yp rfl (.fA rfl Jz) (yd rfl rfl mr isAgg3 sizeOf3 Ke ?_)))))); clear h
 refine yp rfl (.fA rfl Jy) (yd rfl rfl mr isAgg3 sizeOf3 Vk ?_)
 refine yp rfl (.sub rfl rfl) (yp rfl (.builtin [_, _] rfl (fun w ty cs => Zzb _ w ty cs)) (yp rfl (.fA rfl Xz) (yd rfl rfl mr isAgg44 sizeOf44 Vh ?_)))
 refine yp rfl (.fA rfl Jy) (yd rfl rfl mr isAgg3 sizeOf3 Vk ?_)
 refine yv [_] rfl rfl call45 (Vw _ oo oo) ?_
 have hl13 := Zw ((((t).j : Nat) : Int)) oo oo
 refine yv [_, _] rfl rfl call69 (Zaq _ _ oo oo) ?_
 have hl14 := Qf ((t).c) ((((((t).j : Nat) : Int) : Int) : Rat))
 refine yp rfl (.build [(_, _), (_, _), (_, _)] rfl (Vc _ _ _ _ _ _ _)) (yt rfl rfl rfl Xp uu sizeOf117 rfl nb rfl ?_)
 refine yn (zt ?_); intro a w h
 refine Jm h (Zc h rfl (.cell rfl mr isAgg117 sizeOf117 Vu)) ?_
 rfl
theorem C_Dy (p : List Tm) (ad : Option Addr) (c d K : Nat) (hq : Pq d K p) (hd : d ≤ 12) (hK : K ≤ 390000000) : Zj3 Tryz.prog 97 [.slice ad p.length c] [Row ad (cellsOf Zp p)] (fun v o => ∃ ad' c', v = .slice ad' (norm (dyL p)).length c' ∧ GrowO 7 117 v (norm (dyL p)).length (cellsOf Zp (norm (dyL p))) o) := by
 have hK0 := hK
 replace hK : K ≤ 400000000 := oo
 refine fn_introO func97 rfl ntmps97 nb ?_
 intro S w0 a hS h
 refine gC h (zS (za rfl (zn (zS (zm rfl ?_))))); clear h; intro a w h
 refine Zi (Jb h (vs := [_, _]) rfl call137 (Zz7 p _ _ d K (K + 2) 158 [] [] (fun t => ⟨t.i, t.j - 1, t.c * ((t.j : Int) : Rat)⟩) hq hd hK call158 (fun t ht => Zsz (C_Dy1 t (by have := hq.nsz t ht; omega) (by have := (Qm hq.deg) t ht; omega) (by have := (Qm hq.deg) t ht; omega)) _) (fun t ht => by have := (Qm hq.deg) t ht; simp only; omega) (fun t ht => by have := hq.nsz t ht; have h0 := (Qm hq.deg) t ht; have := Qf t.c ((t.j : Int) : Rat); have := Zw (t.j : Int) oo oo; simp only; omega) oo) ss dd ?_); clear h; rintro v4 σ4 a w ⟨ad4, c4, rfl, hG4⟩ h
 refine gL h (za rfl (zn (zt ?_))); clear h; intro a w h
 have e : norm ((norm p).map (fun t => (⟨t.i, t.j - 1, t.c * ((t.j : Int) : Rat)⟩ : Tm))) = norm (dyL p) := Ji ((Eqv.nrm p).dy)
 rw [e] at h hG4
 refine Zoq h (Zc h rfl (.tmp rfl)) ⟨ad4, c4, rfl, hG4⟩ (List.sublist_append_left _ _)
theorem Zds (p : List Tm) (ad : Option Addr) (c d K : Nat) (hq : Pq d K p) (hd : d ≤ 12) (hK : K ≤ 390000000) : Ctr Tryz.prog 97 [.slice ad p.length c] [Row ad (cellsOf Zp p)] (fun v Ψ => ∃ ad' c', v = .slice ad' (norm (dyL p)).length c' ∧ Ψ = [Row ad' (cellsOf Zp (norm (dyL p)))]) := Zgc (C_Dy p ad c d K hq hd hK)
theorem C_Neg (p : List Tm) (ad : Option Addr) (c d K : Nat) (hq : Pq d K p) (hd : d ≤ 12) (hK : K ≤ 400000000) (hs : 2 + K ≤ 400000000) : Zj3 Tryz.prog 104 [.slice ad p.length c] [Row ad (cellsOf Zp p)] (fun v o => ∃ ad' c', v = .slice ad' (norm (Zs ((-1 : Int) : Rat) p)).length c' ∧ GrowO 7 117 v (norm (Zs ((-1 : Int) : Rat) p)).length (cellsOf Zp (norm (Zs ((-1 : Int) : Rat) p))) o) := by
 refine fn_introO func104 rfl ntmps104 nb ?_
 intro S w0 a hS h
 refine gC h (zS (za rfl (zn (zS (zm rfl (zv [_] rfl call45 (Vw _ oo oo) ?_)))))); clear h; intro a w h
 have hl4 := Zw ((-1)) oo oo
 refine Zi (Jb h (vs := [_, _]) rfl call100 (Qab p _ _ d K hq hd hK ((-1 : Int) : Rat) 2 (Zw (-1) dd dd) hs) ss dd ?_); clear h; rintro v5 σ5 a w ⟨ad5, c5, rfl, hG5⟩ h
 refine gL h (za rfl (zn (zt ?_))); clear h; intro a w h
 refine Zoq h (Zc h rfl (.tmp rfl)) ⟨ad5, c5, rfl, hG5⟩ (List.sublist_append_left _ _)
theorem Qag (p : List Tm) (ad : Option Addr) (c d K : Nat) (hq : Pq d K p) (hd : d ≤ 12) (hK : K ≤ 400000000) (hs : 2 + K ≤ 400000000) : Ctr Tryz.prog 104 [.slice ad p.length c] [Row ad (cellsOf Zp p)] (fun v Ψ => ∃ ad' c', v = .slice ad' (norm (Zs ((-1 : Int) : Rat) p)).length c' ∧ Ψ = [Row ad' (cellsOf Zp (norm (Zs ((-1 : Int) : Rat) p)))]) := Zgc (C_Neg p ad c d K hq hd hK hs)
theorem flatT : ∀ l : List Tm, (cellsOf Zp l).all flat = true
 | [] => rfl
 | t :: l => by
  have h := flatT l
  rw [show t :: l = [t] ++ l from rfl, Qd, Xc, List.all_append, h]; rfl
theorem Pq.n91 {d K : Nat} {l : List Tm} (h : Pq d K l) (hd : d ≤ 12) : (norm l).length ≤ 91 := Nat.le_trans h.nlen (Nat.le_trans (Zem (show d + 1 ≤ 13 by omega)) dd)
theorem DL_app {a b : List Tm} {da db : Nat} (ha : DL da a) (hb : DL db b) (h1 : da ≤ 12) (h2 : db ≤ 12) : DL 12 (norm a ++ norm b) := Zjv (Qm (ha.mono h1)) (Qm (hb.mono h2))
theorem KL_app {a b : List Tm} {Ka Kb K : Nat} (ha : KL Ka a) (hb : KL Kb b) (h1 : Ka ≤ K) (h2 : Kb ≤ K) : KL K (a ++ b) := fun t ht => (List.mem_append.1 ht).elim (fun h => Nat.le_trans (ha t h) h1) (fun h => Nat.le_trans (hb t h) h2)
theorem Qer (p q : List Tm) (ada adb : Option Addr) (ca cb da db Ka Kb : Nat) (ha : Pq da Ka p) (hb : Pq db Kb q) (hda : da ≤ 12) (hdb : db ≤ 12) (hK : Ka ≤ 200000000) (hK2 : Kb ≤ 200000000) : Zj3 Tryz.prog 73 [.slice ada p.length ca, .slice adb q.length cb] [Row ada (cellsOf Zp p), Row adb (cellsOf Zp q)] (fun v o => ∃ ad' c', v = .slice ad' (norm (p ++ q)).length c' ∧ GrowO 7 117 v (norm (p ++ q)).length (cellsOf Zp (norm (p ++ q))) o) := by
 have hna := ha.n91 hda
 have hnb := hb.n91 hdb
 refine fn_introO func73 rfl ntmps73 nb ?_
 intro S w0 a hS h
 refine gC h (zS (za rfl (zn (zS (zm rfl ?_))))); clear h; intro a w h
 refine Zi (Jb h (vs := [_]) rfl call82 (Zj0 p _ _ da Ka ha hda oo) ss dd ?_); clear h; rintro v6 σ6 a w ⟨ad6, c6, rfl, hG6⟩ h
 refine gL h (zm rfl ?_); clear h; intro a w h
 refine Zi (Jb h (vs := [_]) rfl call82 (Zj0 q _ _ db Kb hb hdb oo) ss dd ?_); clear h; rintro v8 σ8 a w ⟨ad8, c8, rfl, hG8⟩ h
 replace h := St.shareO' h hS hG8
 refine Zi (Zuc (o := σ6) h rfl hG6 rfl mm runUnderlying47 runUnderlying47 typeInfo117 sizeOf117 Gz rfl dd dd (cellsOf_length Xv _) (flatT _) (by show 72 * _ ≤ 281474976710656; omega) dd ?_); clear h; intro v9 o9 a w hG9 h; obtain ⟨ad9, c9, rfl⟩ := hG9.is; rw [← List.length_append, ← Qd] at hG9; rw [← List.length_append] at h; replace h := St.shareO' h hS hG9
 refine Zi (Jb h (vs := [_]) rfl call81 (Gi (norm p ++ norm q) _ _ (max Ka Kb) (DL_app ha.deg hb.deg hda hdb) (KL_app ha.nsz hb.nsz (Nat.le_max_left _ _) (Nat.le_max_right _ _)) (by rw [List.length_append]; exact Nat.le_trans (Nat.mul_le_mul (show _ ≤ 182 by omega) (show max Ka Kb + 1 ≤ 200000001 by omega)) dd) (by rw [List.length_append]; omega)) ss dd ?_); clear h; rintro v10 σ10 a w ⟨ad10, c10, rfl, hG10⟩ h
 refine gL h (za rfl (zn (zt ?_))); clear h; intro a w h
 have e : norm (norm p ++ norm q) = norm (p ++ q) := Ji ((Eqv.nrm p).append (Eqv.nrm q))
 rw [e] at h hG10
 refine Zoq h (Zc h rfl (.tmp rfl)) ⟨ad10, c10, rfl, hG10⟩ (List.sublist_append_left _ _)
theorem Yv (p q : List Tm) (ada adb : Option Addr) (ca cb da db Ka Kb : Nat) (ha : Pq da Ka p) (hb : Pq db Kb q) (hda : da ≤ 12) (hdb : db ≤ 12) (hK : Ka ≤ 200000000) (hK2 : Kb ≤ 200000000) : Ctr Tryz.prog 73 [.slice ada p.length ca, .slice adb q.length cb] [Row ada (cellsOf Zp p), Row adb (cellsOf Zp q)] (fun v Ψ => ∃ ad' c', v = .slice ad' (norm (p ++ q)).length c' ∧ Ψ = [Row ad' (cellsOf Zp (norm (p ++ q)))]) := Zgc (Qer p q ada adb ca cb da db Ka Kb ha hb hda hdb hK hK2)
theorem C_pSub (p q : List Tm) (ada adb : Option Addr) (ca cb da db Ka Kb : Nat) (ha : Pq da Ka p) (hb : Pq db Kb q) (hda : da ≤ 12) (hdb : db ≤ 12) (hK : Ka ≤ 200000000) (hK2 : Kb ≤ 190000000) : Zj3 Tryz.prog 74 [.slice ada p.length ca, .slice adb q.length cb] [Row ada (cellsOf Zp p), Row adb (cellsOf Zp q)] (fun v o => ∃ ad' c', v = .slice ad' (norm (p ++ Zs ((-1 : Int) : Rat) q)).length c' ∧ GrowO 7 117 v (norm (p ++ Zs ((-1 : Int) : Rat) q)).length (cellsOf Zp (norm (p ++ Zs ((-1 : Int) : Rat) q))) o) := by
 refine fn_introO func74 rfl ntmps74 nb ?_
 intro S w0 a hS h
 refine gC h (zS (za rfl (zn (zS (zm rfl (zm rfl (zf [_] rfl call104 (Qag q _ _ db Kb hb hdb oo oo) ?_))))))); clear h; rintro v7 Ψ7 ⟨ad7, c7, rfl, rfl⟩ a w h
 refine Zi (Jb h (vs := [_, _]) rfl call73 (Qer p (norm (Zs ((-1 : Int) : Rat) q)) _ _ _ _ da db Ka (2 + Kb + 1) ha ((hb.scale (Zw (-1) dd dd) hdb)) hda hdb oo oo) ss dd ?_); clear h; rintro v8 σ8 a w ⟨ad8, c8, rfl, hG8⟩ h
 refine gL h (za rfl (zn (zt ?_))); clear h; intro a w h
 have e : norm (p ++ norm (Zs ((-1 : Int) : Rat) q)) = norm (p ++ Zs ((-1 : Int) : Rat) q) := Ji (Eqv.rfl'.append (Eqv.nrm _))
 rw [e] at h hG8
 refine Zoq h (Zc h rfl (.tmp rfl)) ⟨ad8, c8, rfl, hG8⟩ (List.sublist_append_left _ _)
theorem Zjw (p q : List Tm) (ada adb : Option Addr) (ca cb da db Ka Kb : Nat) (ha : Pq da Ka p) (hb : Pq db Kb q) (hda : da ≤ 12) (hdb : db ≤ 12) (hK : Ka ≤ 200000000) (hK2 : Kb ≤ 190000000) : Ctr Tryz.prog 74 [.slice ada p.length ca, .slice adb q.length cb] [Row ada (cellsOf Zp p), Row adb (cellsOf Zp q)] (fun v Ψ => ∃ ad' c', v = .slice ad' (norm (p ++ Zs ((-1 : Int) : Rat) q)).length c' ∧ Ψ = [Row ad' (cellsOf Zp (norm (p ++ Zs ((-1 : Int) : Rat) q)))]) := Zgc (C_pSub p q ada adb ca cb da db Ka Kb ha hb hda hdb hK hK2)
def Gl (p : List Tm) : Int := if p.length = 0 then -1 else (((p.getD (p.length - 1) T0).i + (p.getD (p.length - 1) T0).j : Nat) : Int)
theorem Gx {p : List Tm} {d : Nat} (h : DL d p) : Gl p ≤ (d : Int) := by
 unfold Gl; split
 · omega
 · have := h _ (getD_mem p (d := T0) (show p.length - 1 < p.length by omega)); omega
theorem Zcd (p : List Tm) : -1 ≤ Gl p := by unfold Gl; split <;> omega
theorem Ya (p : List Tm) (ad : Option Addr) (c d K : Nat) (hq : Pq d K p) (hd : d ≤ 12) (hK : K ≤ 400000000) : Vj Tryz.prog 23 [.slice ad p.length c] [Row ad (cellsOf Zp p)] (.int .i64 (Gl (norm p))) := by
 have hn91 := hq.n91 hd
 refine fn_intro func23 rfl ntmps23 nb ?_
 intro S w0 a hS h
 refine gC h (zS (za rfl (zn (zS (zm rfl (zf [_] rfl call82 (Xk p _ _ d K hq hd hK) ?_)))))); rintro v6 Ψ6 ⟨ad6, c6, rfl, rfl⟩
 refine za rfl (zn (zs (zS (zm rfl (zp (.builtin [_] rfl (Zk _ _ _)) (zp (.eql rfl rfl) (zn ?_))))))); intro a w h
 refine cW ?_
 refine Zb h rfl (fun hc9 => ?_) (fun hc9 => ?_)
 ·
  skip
  have h0 : (norm p).length = 0 := by have := eq_of_beq hc9; omega
  refine gC h (zS (za rfl (zn (zt ?_)))); clear h; intro a w h
  refine Jm h (Zc h rfl (.tmp rfl)) ?_
  unfold Gl; rw [if_pos h0]
 ·
  skip
  have h0 : (norm p).length ≠ 0 := fun e => by rw [e] at hc9; exact absurd hc9 dd
  obtain ⟨B_ad6, O_ad6, rfl⟩ := h.row_addr (ad := ad6) (M := cellsOf Zp (norm p)) mm (by intro e; have := congrArg List.length e; rw [cellsOf_length Xv] at this; simp only [List.length_nil, Nat.mul_eq_zero] at this; omega)
  have hdg := (Qm hq.deg) _ (getD_mem (norm p) (d := T0) (show (norm p).length - 1 < (norm p).length by omega))
  refine gC h (zk (zS (zm rfl (zm rfl (zp (.builtin [_] rfl (Zk _ _ _)) (zp (.pO (((norm p).length) - 1) (.sub rfl rfl)) (zp (.indexAddr rfl rfl (Zao _ _ _ _ _ oo)) (zD rfl mm (cells_lt (k := 7) dd (fun _ => rfl) (norm p) (((norm p).length) - 1) oo) isAgg117 sizeOf117 (Zr (k := 7) (fun _ => rfl) ((fun _ => rfl)) (norm p) T0 (((norm p).length) - 1) oo) (.inl rfl) ?_))))))))
  refine zz Gz fun b4 => zt' rfl rfl Xp uu sizeOf117 rfl nb rfl ?_
  refine zn (zS (zp (.fA rfl Jz) (zd rfl mr isAgg3 sizeOf3 Ke ?_)))
  refine zp (.fA rfl Jy) (zd rfl mr isAgg3 sizeOf3 Vk ?_)
  refine zp (.pN ((((norm p).getD (((norm p).length) - 1) T0).i) + (((norm p).getD (((norm p).length) - 1) T0).j)) (.add rfl rfl)) (za rfl (zn (zt ?_))); intro a w h
  refine Jm h (Zc h rfl (.tmp rfl)) ?_
  unfold Gl; rw [if_neg h0]
end
section
theorem Za2 (x0_0 : Value) (x0_1 : Value) (x0_2 : Value) (x0_3 : Value) (x0_4 : Value) (x0_5 : Value) (x0_6 : Value) (x1_0 : Value) (x1_1 : Value) (x1_2 : Value) (x1_3 : Value) (x1_4 : Value) (x1_5 : Value) (x1_6 : Value) (x2_0 : Value) (x2_1 : Value) (x2_2 : Value) (x2_3 : Value) (x2_4 : Value) (x2_5 : Value) (x2_6 : Value) (w : World) : (Instr.buildSlice 46 3 [(0, .agg #[x0_0, x0_1, x0_2, x0_3, x0_4, x0_5, x0_6]), (1, .agg #[x1_0, x1_1, x1_2, x1_3, x1_4, x1_5, x1_6]), (2, .agg #[x2_0, x2_1, x2_2, x2_3, x2_4, x2_5, x2_6])].toArray).run Tryz.prog w = .ok (.slice (some ⟨w.heap.size, 0, none⟩) 3 3) (w.alloc (.cells #[x0_0, x0_1, x0_2, x0_3, x0_4, x0_5, x0_6, x1_0, x1_1, x1_2, x1_3, x1_4, x1_5, x1_6, x2_0, x2_1, x2_2, x2_3, x2_4, x2_5, x2_6] 117 (0, 0))) := by
 simp [go_sem]
abbrev mulS (s t : Tm) : Tm := ⟨s.i + t.i, s.j + t.j, s.c * t.c⟩
theorem Znd (a b : List Tm) (i : Nat) (h : i < a.length) : Jg (a.take i) b ++ b.map (mulS (a.getD i T0)) = Jg (a.take (i + 1)) b := by
 rw [take_snoc a h]; unfold Jg; rw [List.flatMap_append]; simp
theorem Zxi (a b : List Tm) (s : Tm) (i j : Nat) (h : j < b.length) : (Jg (a.take i) b ++ (b.take j).map (mulS s)) ++ [mulS s (b.getD j T0)] = Jg (a.take i) b ++ (b.take (j + 1)).map (mulS s) := by
 rw [take_snoc b h, List.map_append, List.append_assoc]; rfl
theorem Qbx {a b : List Tm} (i j : Nat) (s : Tm) (ha : a.length ≤ 91) (hb : b.length ≤ 91) : (Jg (a.take i) b ++ (b.take j).map (mulS s)).length ≤ 10000 := by
 rw [List.length_append, Zrq, List.length_map]
 have h1 : (a.take i).length ≤ 91 := Nat.le_trans (by rw [List.length_take]; omega) ha
 have h2 : (b.take j).length ≤ 91 := Nat.le_trans (by rw [List.length_take]; omega) hb
 have := Nat.mul_le_mul h1 hb
 omega
theorem Zkl {a b : List Tm} (ha : a.length ≤ 91) (hb : b.length ≤ 91) : (Jg a b).length ≤ 8281 := by rw [Zrq]; exact Nat.mul_le_mul ha hb
theorem Qbw {a b : List Tm} {K : Nat} (ha : a.length ≤ 91) (hb : b.length ≤ 91) (hK : K ≤ 4000000) : (Jg a b).length * (K + 1) ≤ 50000000000 :=
 Nat.le_trans (Nat.mul_le_mul (Zkl ha hb) (show K + 1 ≤ 4000001 by omega)) dd
theorem C_pMul (p q : List Tm) (ada adb : Option Addr) (ca cb da db Ka Kb : Nat) (ha : Pq da Ka p) (hb : Pq db Kb q) (hd : da + db ≤ 12) (hK : Ka ≤ 2000000) (hK2 : Kb ≤ 2000000) : Zj3 Tryz.prog 48 [.slice ada p.length ca, .slice adb q.length cb] [Row ada (cellsOf Zp p), Row adb (cellsOf Zp q)] (fun v o => ∃ ad' c', v = .tuple #[.slice ad' (norm (Jg p q)).length c', .int .i64 0] ∧ GrowO 7 117 (.slice ad' (norm (Jg p q)).length c') (norm (Jg p q)).length (cellsOf Zp (norm (Jg p q))) o) := by
 have hna := ha.n91 (show da ≤ 12 by omega)
 have hnb := hb.n91 (show db ≤ 12 by omega)
 have hdA : Gl (norm (norm p)) ≤ (da : Int) := Gx (Qm (Qm ha.deg))
 have hdB : Gl (norm (norm q)) ≤ (db : Int) := Gx (Qm (Qm hb.deg))
 have hgA := Zcd (norm (norm p))
 have hgB := Zcd (norm (norm q))
 refine fn_introO func48 rfl ntmps48 nb ?_
 intro S w0 a hS h
 refine gC h (zS (za rfl (za rfl (zn (zS (zm rfl (zf [_] rfl call82 (Xk p _ _ da Ka ha oo oo) ?_))))))); rintro v14 Ψ14 ⟨ad14, c14, rfl, rfl⟩
 refine zm rfl (zf [_] rfl call82 (Xk q _ _ db Kb hb oo oo) ?_); rintro v16 Ψ16 ⟨ad16, c16, rfl, rfl⟩
 refine za rfl (za rfl (zn ?_)); intro a w h
 refine cW ?_
 refine Gm (fun a w => ∃ (ad14 : Option Addr) (c14 : Nat) (ad16 : Option Addr) (c16 : Nat), St 68 S w0 [(6, .slice ad14 (norm p).length c14), (7, .slice ad16 (norm q).length c16)] [] [Row ad16 (cellsOf Zp (norm q)), Row ad14 (cellsOf Zp (norm p)), Row ada (cellsOf Zp p), Row adb (cellsOf Zp q)] a w) ?_ ?_
 ·
  skip
  refine gC h (zS (zm rfl (zp (.builtin [_] rfl (Zk _ _ _)) (zp (.gtr rfl rfl) ?_)))); clear h; intro a w h
  refine Zg h (fun hc19 h => ?_) (fun hc19 h => ?_)
  focus
   refine gL h (zm rfl (zq 20 rfl rfl (.move rfl) (zq 20 rfl rfl (.builtin [_] rfl (Zk _ _ _)) (zq 20 rfl rfl (.gtr rfl rfl) ?_)))); clear h; intro a w h
   refine Zg h (fun hc23 h => ?_) (fun hc23 h => ?_)
   focus
    refine gL h (zp (.pickT rfl rfl) (zm rfl (zq 25 rfl rfl (.move rfl) ?_))); clear h; intro a w h
    refine Ze 25 h rfl rfl (Qb h (vs := [_]) rfl call23 (Ya (norm p) _ _ da Ka (ha.nrm oo) oo oo) ss dd ?_); clear h; intro a w h
    refine gL h (zq 25 rfl rfl (.move rfl) ?_); clear h; intro a w h
    refine Ze 25 h rfl rfl (Qb h (vs := [_]) rfl call23 (Ya (norm q) _ _ db Kb (hb.nrm oo) oo oo) ss dd ?_); clear h; intro a w h
    refine gL h (zq 25 rfl rfl (.add rfl rfl) (zq 25 rfl rfl (.gtr rfl rfl) ?_)); clear h; intro a w h
    refine Zg h (fun hc31 h => (by exfalso; have := of_decide_eq_true hc31; omega)) (fun hc31 h => ?_)
    refine gL h (zp (.pickT rfl rfl) (zn ?_)); clear h; intro a w h
   rotate_left
   focus
    refine gL h (zp (.pickT rfl rfl) (zm rfl (zo 25 rfl rfl rfl (zo 25 rfl rfl rfl (zo 25 rfl rfl rfl (zo 25 rfl rfl rfl (zo 25 rfl rfl rfl (zo 25 rfl rfl rfl (zp (.pickF rfl rfl) (zn ?_)))))))))); clear h; intro a w h
  rotate_left 2
  focus
   refine gL h (zm rfl (zo 20 rfl rfl rfl (zo 20 rfl rfl rfl (zo 20 rfl rfl rfl (zp (.pickF rfl rfl) (zm rfl (zo 25 rfl rfl rfl (zo 25 rfl rfl rfl (zo 25 rfl rfl rfl (zo 25 rfl rfl rfl (zo 25 rfl rfl rfl (zo 25 rfl rfl rfl (zp (.pickF rfl rfl) (zn ?_)))))))))))))); clear h; intro a w h
  all_goals
   refine cW ?_
   refine Zj h rfl ?_
   refine wp_skip ?_
   exact ⟨_, _, _, _, h.sub sA⟩
 ·
  skip
  clear h
  rintro a w ⟨ad14, c14, ad16, c16, h⟩
  refine gC h (zS (za rfl (zn (zs (zS (zm rfl (zp (.builtin [_] rfl (Zk _ _ _)) (zm rfl (zn (zb ?_)))))))))); clear h; intro a w h
  refine Zf (fun (i : Nat) a w => i ≤ (norm p).length ∧ ∃ (ad1 : Option Addr) (c1 : Nat) (o1 : List (Nat × Obj)), (GrowO 7 117 (.slice ad1 (Jg ((norm p).take i) (norm q)).length c1) (Jg ((norm p).take i) (norm q)).length (cellsOf Zp (Jg ((norm p).take i) (norm q))) o1) ∧ St 68 S w0 [(7, .slice ad16 ((norm q).length) c16), (8, (.slice ad1 (Jg ((norm p).take i) (norm q)).length c1)), (33, .slice ad14 ((norm p).length) c14), (34, nI ((norm p).length)), (35, nI i)] (o1 ++ []) [Row ad16 (cellsOf Zp (norm q)), Row ad14 (cellsOf Zp (norm p)), Row ada (cellsOf Zp p), Row adb (cellsOf Zp q)] a w) (fun i => (norm p).length - i) 0 (⟨Nat.zero_le _, none, 0, [], GrowO.nil _ _, by exact (h).sub sA⟩) ?_; clear h
  rintro i a w ⟨hi_i, ad1, c1, o1, hG1, h⟩
  refine gC h (zS (zp (.lss rfl rfl) (zn (zs ?_)))); clear h; intro a w h
  refine Zb h rfl (fun hc36 => ?_) (fun hc36 => ?_)
  ·
   skip
   have hlt_i : i < (norm p).length := dT hc36
   obtain ⟨B_ad14, O_ad14, rfl⟩ := h.row_addr (ad := ad14) (M := cellsOf Zp (norm p)) mm (nE 7)
   have hmA := getD_mem (norm p) (d := T0) hlt_i
   have hsA := ha.nsz _ hmA
   have hdgA := (Qm ha.deg) _ hmA
   refine gC h (zk (zs (zb (zS (zp (.indexAddr rfl rfl (Zao _ _ _ _ _ oo)) (zD rfl mm (cells_lt (k := 7) dd (fun _ => rfl) (norm p) i oo) isAgg117 sizeOf117 (Zr (k := 7) (fun _ => rfl) ((fun _ => rfl)) (norm p) T0 i oo) (.inl rfl) ?_))))))
   refine zz Gz fun b10 => zt' rfl rfl Xp uu sizeOf117 rfl nb rfl ?_
   refine zn (zS (zm rfl (zp (.builtin [_] rfl (Zk _ _ _)) (zm rfl (zn (zb ?_)))))); intro a w h
   refine Zf (fun (j : Nat) a w => j ≤ (norm q).length ∧ ∃ (ad2 : Option Addr) (c2 : Nat) (o2 : List (Nat × Obj)), (GrowO 7 117 (.slice ad2 (Jg ((norm p).take i) (norm q) ++ ((norm q).take j).map (mulS ((norm p).getD i T0))).length c2) (Jg ((norm p).take i) (norm q) ++ ((norm q).take j).map (mulS ((norm p).getD i T0))).length (cellsOf Zp (Jg ((norm p).take i) (norm q) ++ ((norm q).take j).map (mulS ((norm p).getD i T0)))) o2) ∧ St 68 S w0 [(7, .slice ad16 ((norm q).length) c16), (8, (.slice ad2 (Jg ((norm p).take i) (norm q) ++ ((norm q).take j).map (mulS ((norm p).getD i T0))).length c2)), (10, pB b10), (33, .slice (some ⟨B_ad14, O_ad14, none⟩) ((norm p).length) c14), (34, nI ((norm p).length)), (35, nI i), (39, .slice ad16 ((norm q).length) c16), (40, nI ((norm q).length)), (41, nI j)] ((b10, bV (Zp ((norm p).getD i T0)) 117) :: (o2 ++ [])) [Row ad16 (cellsOf Zp (norm q)), Row (some ⟨B_ad14, O_ad14, none⟩) (cellsOf Zp (norm p)), Row ada (cellsOf Zp p), Row adb (cellsOf Zp q)] a w) (fun j => (norm q).length - j) 0 (⟨Nat.zero_le _, ad1, c1, o1, by rw [List.take_zero, List.map_nil, List.append_nil]; exact hG1, by rw [List.take_zero, List.map_nil, List.append_nil]; exact (h).sub sA⟩) ?_; clear h
   rintro j a w ⟨hi_j, ad2, c2, o2, hG2, h⟩
   refine gC h (zS (zp (.lss rfl rfl) (zn (zs ?_)))); clear h; intro a w h
   refine Zb h rfl (fun hc42 => ?_) (fun hc42 => ?_)
   ·
    skip
    have hlt_j : j < (norm q).length := dT hc42
    obtain ⟨B_ad16, O_ad16, rfl⟩ := h.row_addr (ad := ad16) (M := cellsOf Zp (norm q)) mm (nE 7)
    have hmB := getD_mem (norm q) (d := T0) hlt_j
    have hsB := hb.nsz _ hmB
    have hdgB := (Qm hb.deg) _ hmB
    have hyl := Qbx i j ((norm p).getD i T0) hna hnb
    refine gC h (zk (zs (zb (zS (zp (.indexAddr rfl rfl (Zao _ _ _ _ _ oo)) (zD rfl mm (cells_lt (k := 7) dd (fun _ => rfl) (norm q) j oo) isAgg117 sizeOf117 (Zr (k := 7) (fun _ => rfl) ((fun _ => rfl)) (norm q) T0 j oo) (.inl rfl) ?_))))))
    refine zz Gz fun b12 => zt' rfl rfl Xp uu sizeOf117 rfl nb rfl ?_
    refine zn (yD Za [0, 1, 2, 3, 4, 5, 6, 7, 8, 9, 10, 11, 12, 13, 14, 15, 16, 17, 18, 19] (Zd kk) (ym rfl rfl (yp rfl (.fA rfl Jz) (yd rfl rfl mr isAgg3 sizeOf3 Ke ?_))))
    refine yp rfl (.fA rfl Jz) (yd rfl rfl mr isAgg3 sizeOf3 Ke ?_)
    refine yp rfl (.pN ((((norm p).getD i T0).i) + (((norm q).getD j T0).i)) (.add rfl rfl)) (yp rfl (.fA rfl Jy) (yd rfl rfl mr isAgg3 sizeOf3 Vk ?_))
    refine yp rfl (.fA rfl Jy) (yd rfl rfl mr isAgg3 sizeOf3 Vk ?_)
    refine yp rfl (.pN ((((norm p).getD i T0).j) + (((norm q).getD j T0).j)) (.add rfl rfl)) (yp rfl (.fA rfl Xz) (yd rfl rfl mr isAgg44 sizeOf44 Vh ?_))
    refine yp rfl (.fA rfl Xz) (yd rfl rfl mr isAgg44 sizeOf44 Vh ?_)
    refine yv [_, _] rfl rfl call69 (Zaq _ _ oo oo) ?_
    have hl60 := Qf (((norm p).getD i T0).c) (((norm q).getD j T0).c)
    refine yp rfl (.build [(_, _), (_, _), (_, _)] rfl (Vc _ _ _ _ _ _ _)) (yB rfl [(_, _)] rfl (Gy _ _ _ _ _ _ _) fun b62 => ?_)
    refine Gg (σr := [(b12, bV (Zp ((norm q).getD j T0)) 117), (b10, bV (Zp ((norm p).getD i T0)) 117)]) rfl kk rfl rfl (List.Perm.trans (List.Perm.refl _) (List.Perm.cons _ (Qbm (Qbm (List.Perm.refl _))))) hG2 runUnderlying46 runUnderlying46 typeInfo117 sizeOf117 Gz rfl dd dd rfl rfl dd (by show 72 * (2 * ((Jg ((norm p).take i) (norm q) ++ ((norm q).take j).map (mulS ((norm p).getD i T0))).length + 1) + 192) ≤ 281474976710656; omega) dd ?_
    intro v63 o63 hG63
    obtain ⟨ad63, c63, rfl⟩ := hG63.is
    have hLn63 : (Jg ((norm p).take i) (norm q) ++ ((norm q).take j).map (mulS ((norm p).getD i T0))).length + 1 = ((Jg ((norm p).take i) (norm q) ++ ((norm q).take j).map (mulS ((norm p).getD i T0))) ++ [(⟨(((norm p).getD i T0).i) + (((norm q).getD j T0).i), (((norm p).getD i T0).j) + (((norm q).getD j T0).j), (((norm p).getD i T0).c) * (((norm q).getD j T0).c)⟩ : Tm)]).length := lA
    rw [hLn63]; rw [hLn63] at hG63
    replace hG63 : GrowO 7 117 (.slice ad63 ((Jg ((norm p).take i) (norm q) ++ ((norm q).take j).map (mulS ((norm p).getD i T0))) ++ [(⟨(((norm p).getD i T0).i) + (((norm q).getD j T0).i), (((norm p).getD i T0).j) + (((norm q).getD j T0).j), (((norm p).getD i T0).c) * (((norm q).getD j T0).c)⟩ : Tm)]).length c63) ((Jg ((norm p).take i) (norm q) ++ ((norm q).take j).map (mulS ((norm p).getD i T0))) ++ [(⟨(((norm p).getD i T0).i) + (((norm q).getD j T0).i), (((norm p).getD i T0).j) + (((norm q).getD j T0).j), (((norm p).getD i T0).c) * (((norm q).getD j T0).c)⟩ : Tm)]).length (cellsOf Zp ((Jg ((norm p).take i) (norm q) ++ ((norm q).take j).map (mulS ((norm p).getD i T0))) ++ [(⟨(((norm p).getD i T0).i) + (((norm q).getD j T0).i), (((norm p).getD i T0).j) + (((norm q).getD j T0).j), (((norm p).getD i T0).c) * (((norm q).getD j T0).c)⟩ : Tm)])) o63 := by rw [Qd, Xc]; exact hG63
    refine yp rfl (.assign rfl) (yn (zr (zp (.pN (j + 1) (.add rfl rfl)) (zm rfl (zn ?_))))); intro a w h
    rw [Zxi (norm p) (norm q) ((norm p).getD i T0) i j hlt_j] at h hG63
    exact ⟨j + 1, ⟨oo, ad63, c63, o63, hG63, by exact (((h.perm (List.Perm.trans (Qbn (List.Perm.refl _)) (List.Perm.cons _ (List.Perm.trans (Qbn (List.Perm.refl _)) (List.Perm.cons _ (List.Perm.refl _))))).symm).drop (by repeat (first | exact List.Sublist.refl _ | apply List.Sublist.cons))).factsSub (by simp)).sub sA⟩, oo⟩
   ·
    skip
    have heq_j : (norm q).length = j := dF hc42
    subst heq_j
    rw [List.take_length, Znd (norm p) (norm q) i hlt_i] at h hG2
    refine gC h (ze (zr (zp (.pN (i + 1) (.add rfl rfl)) (zm rfl (zn ?_))))); clear h; intro a w h
    exact ⟨i + 1, ⟨oo, ad2, c2, o2, hG2, by exact ((h.drop (by repeat (first | exact List.Sublist.refl _ | apply List.Sublist.cons))).factsSub (by simp)).sub sA⟩, oo⟩
  ·
   skip
   have heq_i : (norm p).length = i := dF hc36
   subst heq_i
   rw [List.take_length] at h hG1
   replace h := St.shareO' h hS hG1
   refine gC h (ze (zS (zm rfl ?_))); clear h; intro a w h
   refine Zi (Jb h (vs := [_]) rfl call81 (Gi (Jg (norm p) (norm q)) _ _ (Ka + Kb) ((Zmc (Qm ha.deg) (Qm hb.deg)).mono hd) (Qho ha.nsz hb.nsz) (Qbw hna hnb oo) (Nat.le_trans (Zkl hna hnb) dd)) ss dd ?_); clear h; rintro v67 σ67 a w ⟨ad67, c67, rfl, hG67⟩ h
   refine gL h (za rfl (za rfl (zn (zt ?_)))); clear h; intro a w h
   have e : norm (Jg (norm p) (norm q)) = norm (Jg p q) := Ji ((Eqv.nrm p).mul (Eqv.nrm q))
   rw [e] at h hG67
   refine Zoq h (Qv h rfl (.tmp rfl) (.tmp rfl)) ⟨ad67, c67, rfl, hG67⟩ (List.sublist_append_left _ _)
theorem Km (p q : List Tm) (ada adb : Option Addr) (ca cb da db Ka Kb : Nat) (ha : Pq da Ka p) (hb : Pq db Kb q) (hd : da + db ≤ 12) (hK : Ka ≤ 2000000) (hK2 : Kb ≤ 2000000) : Ctr Tryz.prog 48 [.slice ada p.length ca, .slice adb q.length cb] [Row ada (cellsOf Zp p), Row adb (cellsOf Zp q)] (fun v Ψ => ∃ ad' c', v = .tuple #[.slice ad' (norm (Jg p q)).length c', .int .i64 0] ∧ Ψ = [Row ad' (cellsOf Zp (norm (Jg p q)))]) := Zyx (C_pMul p q ada adb ca cb da db Ka Kb ha hb hd hK hK2)
theorem Qf1 {n d : Nat} {g : Int} (h1 : -1 ≤ g) (h2 : g ≤ (d : Int)) (hn : n ≤ 12) (hd : n * d ≤ 12) : -12 ≤ (n : Int) * g ∧ (n : Int) * g ≤ 12 := by
 have a := Int.mul_le_mul_of_nonneg_left h1 (show (0 : Int) ≤ n by omega)
 have b := Int.mul_le_mul_of_nonneg_left h2 (show (0 : Int) ≤ n by omega)
 have c : (n : Int) * (d : Int) = ((n * d : Nat) : Int) := (Int.natCast_mul _ _).symm
 omega
theorem Qaf (p : List Tm) (ad : Option Addr) (c d K : Nat) (hq : Pq d K p) (n : Nat) (hn : n ≤ 12) (hd12 : d ≤ 12) (hd : n * d ≤ 12) (hK : n * K + 4 ≤ 2000000) (hK1 : K ≤ 2000000) : Ctr Tryz.prog 75 [.slice ad p.length c, .int .i64 ((n : Nat) : Int)] [Row ad (cellsOf Zp p)] (fun v Ψ => ∃ ad' c', v = .tuple #[.slice ad' (norm (Yb p n)).length c', .int .i64 0] ∧ Ψ = [Row ad' (cellsOf Zp (norm (Yb p n)))]) := by
 obtain ⟨hg1, hg2⟩ := Qf1 (Zcd (norm p)) (Gx (Qm hq.deg)) hn hd
 refine fn_intro func75 rfl ntmps75 nb ?_
 intro S w0 a hS h
 refine gC h (zS (za rfl (za rfl (zn (zs (zb (zS (zm rfl (zp (.lss rfl rfl) ?_))))))))); clear h; intro a w h
 refine Zg h (fun hc9 h => (by exfalso; have := of_decide_eq_true hc9; omega)) (fun hc9 h => ?_)
 refine gL h (zm rfl (zq 10 rfl rfl (.move rfl) (zq 10 rfl rfl (.gtr rfl rfl) ?_))); clear h; intro a w h
 refine Zg h (fun hc12 h => (by exfalso; have := of_decide_eq_true hc12; omega)) (fun hc12 h => ?_)
 refine gL h (zp (.pickF rfl rfl) (za rfl (zn ?_))); clear h; intro a w h
 refine cW ?_
 refine Zj h rfl ?_
 refine gC h (zS (zm rfl (zm rfl (zw [_] rfl call23 (Ya p _ _ d K hq oo oo) (zp (.mul rfl rfl) (zp (.gtr rfl rfl) (za rfl (zn ?_)))))))); clear h; intro a w h
 refine cW ?_
 refine Zb h rfl (fun hc14 => (by exfalso; have := of_decide_eq_true hc14; omega)) (fun hc14 => ?_)
 refine gC h (zk (zS (zv [_] rfl call45 (Vw _ oo oo) ?_)))
 have hl20 := Zw (1) oo oo
 refine zf [_] rfl call44 (Ze1 ((1 : Int) : Rat) 2 (Zw 1 dd dd) oo) ?_; rintro v21 Ψ21 ⟨ad21, c21, rfl, rfl⟩
 refine za rfl (zn (zs (zS (zm rfl (zm rfl (zn (zb ?_))))))); intro a w h
 refine Zf (fun (k : Nat) a w => k ≤ n ∧ ∃ (ad1 : Option Addr) (c1 : Nat), St 33 S w0 [(0, .slice ad p.length c), (4, .slice none 0 0), (5, .int .i64 0), (6, .slice ad1 ((norm (Yb p k)).length) c1), (22, nI n), (23, nI k)] [] [Row ad1 (cellsOf Zp (norm (Yb p k))), Row ad (cellsOf Zp p)] a w) (fun k => n - k) 0 (⟨Nat.zero_le _, _, _, by rw [show norm (Yb p 0) = norm [(⟨0, 0, ((1 : Int) : Rat)⟩ : Tm)] from rfl]; exact (h.factsSub (by simp)).sub (Zen ⟨rfl, rfl, rfl, rfl, rfl, rfl, trivial⟩)⟩) ?_; clear h
 rintro k a w ⟨hi_k, ad1, c1, h⟩
 refine gC h (zS (zp (.lss rfl rfl) (zn (zs ?_)))); clear h; intro a w h
 refine Zb h rfl (fun hc24 => ?_) (fun hc24 => ?_)
 ·
  skip
  have hlt_k : k < n := dT hc24
  have hkd := Nat.mul_le_mul_right d (show k + 1 ≤ n by omega)
  have hkK := Nat.mul_le_mul_right K (show k + 1 ≤ n by omega)
  rw [Nat.add_mul, Nat.one_mul] at hkd hkK
  refine gC h (zk (zs (zb (zr (zm rfl (zm rfl (zf [_, _] rfl call48 (Km (norm (Yb p k)) p _ _ _ _ (k * d) d (k * K + 4) K (hq.pow k oo) hq oo oo oo) ?_))))))); rintro v28 Ψ28 ⟨ad28, c28, rfl, rfl⟩
  refine zm rfl (zp (.eX rfl) (zp (.eX rfl) (za rfl (zn (zr (zp (.pN (k + 1) (.add rfl rfl)) (zm rfl (zn ?_)))))))); intro a w h
  have hstep : norm (Jg (norm (Yb p k)) p) = norm (Yb p (k + 1)) := Ji ((Eqv.nrm _).mul Eqv.rfl')
  rw [hstep] at h
  exact ⟨k + 1, ⟨oo, ad28, c28, by exact (h.factsSub (by simp)).sub sA⟩, oo⟩
 ·
  skip
  have heq_k : n = k := dF hc24
  subst heq_k
  refine gC h (ze (zS (zm rfl (za rfl (za rfl (zn (zt ?_))))))); clear h; intro a w h
  refine Qg (Ψ := [Row _ (cellsOf Zp (norm (Yb p n)))]) h (Qv h rfl (.tmp rfl) (.tmp rfl)) ⟨_, _, rfl, rfl⟩ ss
theorem ln_DL (a b c : Rat) : DL 12 (ln a b c) := fun t ht => by
 simp only [ln, List.mem_cons, List.not_mem_nil, or_false] at ht
 rcases ht with rfl | rfl | rfl <;> simp
theorem ln_KL {K : Nat} {a b c : Rat} (h1 : Qc a ≤ K) (h2 : Qc b ≤ K) (h3 : Qc c ≤ K) : KL K (ln a b c) := fun t ht => by
 simp only [ln, List.mem_cons, List.not_mem_nil, or_false] at ht
 rcases ht with rfl | rfl | rfl <;> assumption
theorem Zxq {K : Nat} (h : K ≤ 20000) {a b c : Rat} : (ln a b c).length * (K + 1) ≤ 50000000000 := by show 3 * (K + 1) ≤ _; omega
theorem Qd2 (a b c : Rat) : (ln a b c).length ≤ 100000 := by show 3 ≤ 100000; omega
theorem Zk8 (p : List Tm) (n : Nat) : norm (Yb (norm p) n) = norm (Yb p n) := Ji ((Eqv.nrm p).pow n)
theorem Qga (p q : List Tm) : norm (Jg (norm p) (norm q)) = norm (Jg p q) := Ji ((Eqv.nrm p).mul (Eqv.nrm q))
theorem Zv7 (c : Rat) (p : List Tm) : norm (Zs c (norm p)) = norm (Zs c p) := Ji ((Eqv.nrm p).scale c)
theorem Qhj (p q : List Tm) : norm (norm p ++ norm q) = norm (p ++ q) := Ji ((Eqv.nrm p).append (Eqv.nrm q))
theorem Zei (p : List Tm) (ad : Option Addr) (c d K : Nat) (hq : Pq d K p) (ax bx cx ay b cy : Rat) (Kx : Nat) (hd : d ≤ 12) (hx1 : Qc ax ≤ Kx) (hx2 : Qc bx ≤ Kx) (hx3 : Qc cx ≤ Kx) (hx4 : Qc ay ≤ Kx) (hx5 : Qc b ≤ Kx) (hx6 : Qc cy ≤ Kx) (hKx : Kx ≤ 20000) (hK : K ≤ 1000000) :
  Ctr Tryz.prog 58 [.slice ad p.length c, Jo ax, Jo bx, Jo cx, Jo ay, Jo b, Jo cy] [Row ad (cellsOf Zp p)] (fun v Ψ => ∃ ad' c', v = .slice ad' (norm (shL p ax bx cx ay b cy)).length c' ∧ Ψ = [Row ad' (cellsOf Zp (norm (shL p ax bx cx ay b cy)))]) := by
 have hnl : (norm p).length ≤ 91 := hq.n91 hd
 have hKT : KT d K Kx ≤ 1800000 := by
  have := Nat.mul_le_mul_right (3 * Kx + 4) hd
  unfold KT; omega
 have hdK := Nat.mul_le_mul_right (3 * Kx + 4) hd
 refine fn_intro func58 rfl ntmps58 nb ?_
 intro S w0 a hS h
 refine gC h (zS (zx rfl fun b8 => zx rfl fun b9 => zx rfl fun b10 => zx rfl fun b11 => zx rfl fun b12 => zx rfl fun b13 => za rfl (zn (zS (zd rfl mr isAgg44 sizeOf44 Zh ?_)))))
 refine zp (.build [(_, _), (_, _)] rfl (Zg8 _ _ _ _ _ _)) (zd rfl mr isAgg44 sizeOf44 Zh ?_)
 refine zp (.build [(_, _), (_, _)] rfl (Zg7 _ _ _ _ _ _)) (zd rfl mr isAgg44 sizeOf44 Zh ?_)
 refine zp (.build [(_, _)] rfl (Zh9 _ _ _ _ _)) (zB [(_, _), (_, _), (_, _)] rfl (Za2 _ _ _ _ _ _ _ _ _ _ _ _ _ _ _ _ _ _ _ _ _) fun b32 => ?_); intro a w h
 replace h := h.shareAll hS (cellsOf Zp (ln ax bx cx)) rfl
 refine Zi (Jb h (vs := [_]) rfl call81 (Gi (ln ax bx cx) _ _ Kx (ln_DL _ _ _) (ln_KL hx1 hx2 hx3) (Zxq hKx) (Qd2 _ _ _)) ss dd ?_); clear h; rintro v33 σ33 a w ⟨ad33, c33, rfl, hG33⟩ h
 replace h := St.shareO' h hS hG33
 refine gL h (za rfl (zn (zS (zd rfl mr isAgg44 sizeOf44 Zh ?_))))
 refine zp (.build [(_, _), (_, _)] rfl (Zg8 _ _ _ _ _ _)) (zd rfl mr isAgg44 sizeOf44 Zh ?_)
 refine zp (.build [(_, _), (_, _)] rfl (Zg7 _ _ _ _ _ _)) (zd rfl mr isAgg44 sizeOf44 Zh ?_)
 refine zp (.build [(_, _)] rfl (Zh9 _ _ _ _ _)) (zB [(_, _), (_, _), (_, _)] rfl (Za2 _ _ _ _ _ _ _ _ _ _ _ _ _ _ _ _ _ _ _ _ _) fun b40 => ?_); intro a w h
 replace h := h.shareAll hS (cellsOf Zp (ln ay b cy)) rfl
 refine Zi (Jb h (vs := [_]) rfl call81 (Gi (ln ay b cy) _ _ Kx (ln_DL _ _ _) (ln_KL hx4 hx5 hx6) (Zxq hKx) (Qd2 _ _ _)) ss dd ?_); clear h; rintro v41 σ41 a w ⟨ad41, c41, rfl, hG41⟩ h
 replace h := St.shareO' h hS hG41
 refine gL h (za rfl (zn (zS (za rfl (zn (zs (zS (zm rfl (zf [_] rfl call82 (Xk p _ _ d K hq hd oo) ?_))))))))); rintro v43 Ψ43 ⟨ad43, c43, rfl, rfl⟩
 refine zp (.builtin [_] rfl (Zk _ _ _)) (zm rfl (zn (zb ?_))); intro a w h
 refine Zf (fun (k : Nat) a w => k ≤ (norm p).length ∧ ∃ (ad1 : Option Addr) (c1 : Nat), St 77 S w0 [(14, .slice none 0 0), (15, .slice ad33 ((norm (ln ax bx cx)).length) c33), (16, .slice ad41 ((norm (ln ay b cy)).length) c41), (17, .slice ad1 ((norm (sbL (ln ax bx cx) (ln ay b cy) ((norm p).take k))).length) c1), (43, .slice ad43 ((norm p).length) c43), (44, nI ((norm p).length)), (45, nI k)] [(b13, bV (Jo (cy)) 44), (b12, bV (Jo (b)) 44), (b11, bV (Jo (ay)) 44), (b10, bV (Jo (cx)) 44), (b9, bV (Jo (bx)) 44), (b8, bV (Jo (ax)) 44)] [Row ad1 (cellsOf Zp (norm (sbL (ln ax bx cx) (ln ay b cy) ((norm p).take k)))), Row ad43 (cellsOf Zp (norm p)), Row ad41 (cellsOf Zp (norm (ln ay b cy))), Row (some ⟨b40, 0, none⟩) (cellsOf Zp (ln ay b cy)), Row ad33 (cellsOf Zp (norm (ln ax bx cx))), Row (some ⟨b32, 0, none⟩) (cellsOf Zp (ln ax bx cx)), Row ad (cellsOf Zp p)] a w) (fun k => (norm p).length - k) 0 (⟨Nat.zero_le _, none, 0, by rw [List.take_zero, show sbL (ln ax bx cx) (ln ay b cy) [] = [] from rfl, Qw]; replace h := h.derive (R := Row none (cellsOf Zp [])) (fun X _ hne => absurd rfl hne); exact (h.factsSub (by simp)).sub (Zen ⟨rfl, rfl, rfl, rfl, rfl, rfl, rfl, trivial⟩)⟩) ?_; clear h
 rintro k a w ⟨hi_k, ad1, c1, h⟩
 refine gC h (zS (zp (.lss rfl rfl) (zn (zs ?_)))); clear h; intro a w h
 refine Zb h rfl (fun hc46 => ?_) (fun hc46 => ?_)
 ·
  skip
  have hlt_k : k < (norm p).length := dT hc46
  obtain ⟨B_ad43, O_ad43, rfl⟩ := h.row_addr (ad := ad43) (M := cellsOf Zp (norm p)) mm (nE 7)
  have hmem := getD_mem (norm p) (d := T0) hlt_k
  have hsc := hq.nsz _ hmem
  have hdg := (Qm hq.deg) _ hmem
  have hi3 := Nat.mul_le_mul_right (3 * Kx + 4) (show ((norm p).getD k T0).i ≤ d by omega)
  have hj3 := Nat.mul_le_mul_right (3 * Kx + 4) (show ((norm p).getD k T0).j ≤ d by omega)
  have hpx : Pq ((norm p).getD k T0).i (((norm p).getD k T0).i * (3 * Kx + 4) + 4) (norm (Yb (norm (ln ax bx cx)) ((norm p).getD k T0).i)) := by rw [Zk8]; exact Pq.line_pow hx1 hx2 hx3 oo
  have hpy : Pq ((norm p).getD k T0).j (((norm p).getD k T0).j * (3 * Kx + 4) + 4) (norm (Yb (norm (ln ay b cy)) ((norm p).getD k T0).j)) := by rw [Zk8]; exact Pq.line_pow hx4 hx5 hx6 oo
  have hpm : Pq d (2 * (d * (3 * Kx + 4) + 4)) (norm (Jg (norm (Yb (norm (ln ax bx cx)) ((norm p).getD k T0).i)) (norm (Yb (norm (ln ay b cy)) ((norm p).getD k T0).j)))) := (hpx.mul hpy oo).mono hdg oo
  have hsk := Pq.sbl hx1 hx2 hx3 hx4 hx5 hx6 hd (Qm hq.deg) hq.nsz k oo
  have hkk := Nat.mul_le_mul (show k ≤ 91 by omega) hKT
  have hes : norm (Zs ((norm p).getD k T0).c (norm (Jg (norm (Yb (norm (ln ax bx cx)) ((norm p).getD k T0).i)) (norm (Yb (norm (ln ay b cy)) ((norm p).getD k T0).j))))) = norm (sbT (ln ax bx cx) (ln ay b cy) ((norm p).getD k T0)) := by
   rw [Zk8, Zk8, Qga, Zv7]; rfl
  have hsp : Pq d (KT d K Kx) (norm (Zs ((norm p).getD k T0).c (norm (Jg (norm (Yb (norm (ln ax bx cx)) ((norm p).getD k T0).i)) (norm (Yb (norm (ln ay b cy)) ((norm p).getD k T0).j)))))) := by
   rw [hes]; exact (Pq.sbT hx1 hx2 hx3 hx4 hx5 hx6 hd hdg hsc).mono (Nat.le_refl _) (Nat.sub_le _ _)
  have hstep : norm (norm (sbL (ln ax bx cx) (ln ay b cy) ((norm p).take k)) ++ norm (Zs ((norm p).getD k T0).c (norm (Jg (norm (Yb (norm (ln ax bx cx)) ((norm p).getD k T0).i)) (norm (Yb (norm (ln ay b cy)) ((norm p).getD k T0).j)))))) = norm (sbL (ln ax bx cx) (ln ay b cy) ((norm p).take (k + 1))) := by
   rw [hes, Qhj, take_snoc _ hlt_k, Zhv]
  refine gC h (zk (zs (zb (zS (zp (.indexAddr rfl rfl (Zao _ _ _ _ _ oo)) (zD rfl mm (cells_lt (k := 7) dd (fun _ => rfl) (norm p) k oo) isAgg117 sizeOf117 (Zr (k := 7) (fun _ => rfl) ((fun _ => rfl)) (norm p) T0 k oo) (.inl rfl) ?_))))))
  refine zz Gz fun b19 => zt' rfl rfl Xp uu sizeOf117 rfl nb rfl ?_
  refine zn (zS (zm rfl (zp (.fA rfl Jz) (zd rfl mr isAgg3 sizeOf3 Ke ?_))))
  refine zf [_, _] rfl call75 (Qaf (norm (ln ax bx cx)) _ _ 1 (3 * Kx + 4) ((Pq.line hx1 hx2 hx3).nrm oo) ((norm p).getD k T0).i oo oo oo oo oo) ?_; rintro v53 Ψ53 ⟨ad53, c53, rfl, rfl⟩
  refine zm rfl (zp (.eX rfl) (zp (.eX rfl) (za rfl (za rfl (zn (zS (zm rfl (zp (.fA rfl Jy) (zd rfl mr isAgg3 sizeOf3 Vk ?_)))))))))
  refine zf [_, _] rfl call75 (Qaf (norm (ln ay b cy)) _ _ 1 (3 * Kx + 4) ((Pq.line hx4 hx5 hx6).nrm oo) ((norm p).getD k T0).j oo oo oo oo oo) ?_; rintro v60 Ψ60 ⟨ad60, c60, rfl, rfl⟩
  refine zm rfl (zp (.eX rfl) (zp (.eX rfl) (za rfl (za rfl (zn (zS (zm rfl (zm rfl (zf [_, _] rfl call48 (Km (norm (Yb (norm (ln ax bx cx)) ((norm p).getD k T0).i)) (norm (Yb (norm (ln ay b cy)) ((norm p).getD k T0).j)) _ _ _ _ ((norm p).getD k T0).i ((norm p).getD k T0).j (((norm p).getD k T0).i * (3 * Kx + 4) + 4) (((norm p).getD k T0).j * (3 * Kx + 4) + 4) hpx hpy oo oo oo) ?_))))))))); rintro v66 Ψ66 ⟨ad66, c66, rfl, rfl⟩
  refine zm rfl (zp (.eX rfl) (zp (.eX rfl) (za rfl (za rfl (zn (zr (zm rfl (zm rfl (zp (.fA rfl Xz) (zd rfl mr isAgg44 sizeOf44 Vh ?_))))))))))
  refine zf [_, _] rfl call100 (Ze0 (norm (Jg (norm (Yb (norm (ln ax bx cx)) ((norm p).getD k T0).i)) (norm (Yb (norm (ln ay b cy)) ((norm p).getD k T0).j)))) _ _ d (2 * (d * (3 * Kx + 4) + 4)) hpm hd oo ((norm p).getD k T0).c K hsc oo) ?_; rintro v73 Ψ73 ⟨ad73, c73, rfl, rfl⟩
  refine zf [_, _] rfl call73 (Yv (norm (sbL (ln ax bx cx) (ln ay b cy) ((norm p).take k))) (norm (Zs ((norm p).getD k T0).c (norm (Jg (norm (Yb (norm (ln ax bx cx)) ((norm p).getD k T0).i)) (norm (Yb (norm (ln ay b cy)) ((norm p).getD k T0).j)))))) _ _ _ _ d d (k * KT d K Kx + 1) (KT d K Kx) hsk hsp hd hd oo oo) ?_; rintro v74 Ψ74 ⟨ad74, c74, rfl, rfl⟩
  refine za rfl (zn (zr (zp (.pN (k + 1) (.add rfl rfl)) (zm rfl (zn ?_))))); intro a w h
  rw [hstep] at h
  exact ⟨k + 1, ⟨oo, ad74, c74, by exact ((h.drop sl).factsSub (by simp)).sub sA⟩, oo⟩
 ·
  skip
  have heq_k : (norm p).length = k := dF hc46
  subst heq_k
  have e : norm (sbL (ln ax bx cx) (ln ay b cy) ((norm p).take (norm p).length)) = norm (shL p ax bx cx ay b cy) := by rw [List.take_length]; exact Ji (Eqv.sub Eqv.rfl' Eqv.rfl' (Eqv.nrm p))
  rw [e] at h
  refine gC h (ze (zS (zm rfl (za rfl (zn (zt ?_)))))); clear h; intro a w h
  refine Qg (Ψ := [Row _ (cellsOf Zp (norm (shL p ax bx cx ay b cy)))]) h (Zc h rfl (.tmp rfl)) ⟨_, _, rfl, rfl⟩ ss
end
section
theorem Zql (w : World) : (Instr.build 44 [].toArray).run Tryz.prog w = .ok (.agg #[.int .u64 0, .string ⟨#[]⟩, .bool false, .int .u64 0, .string ⟨#[]⟩]) w := by simp [go_sem]
abbrev encV (x y : Rat) : Value := .agg #[.int .u64 (Za6 x.num.natAbs), .string (Kt x.num.natAbs), .bool (decide (x.num < 0)), .int .u64 (Za6 (x.den - 1)), .string (Kt (x.den - 1)),
 .int .u64 (Za6 y.num.natAbs), .string (Kt y.num.natAbs), .bool (decide (y.num < 0)), .int .u64 (Za6 (y.den - 1)), .string (Kt (y.den - 1))]
abbrev encPt (p : Pt) : Value := encV p.1 p.2
abbrev encA (l : List Rat) : Value := .agg (cellsOf Jo l).toArray
theorem Zky (w : World) : (zeroValue 180).run Tryz.prog w = .ok (encA (List.replicate 13 (0 : Rat))) w := zeroValue180 w
end
section
theorem Zx2 (b off : Nat) (w : World) : (Instr.indexAt 180 (.pointer (some ⟨b, off, none⟩)) (.int .i64 0)).run Tryz.prog w = .ok (.pointer (some ⟨b, off + 0, none⟩)) w := by
 simp [go_sem, Instr.indexAt]
theorem Zll (b off j : Nat) (h : j < 13) (w : World) : (Instr.indexAt 180 (.pointer (some ⟨b, off, none⟩)) (.int .i64 (j : Int))).run Tryz.prog w = .ok (.pointer (some ⟨b, off + j * 5, none⟩)) w := Zff runUnderlying180 sizeOf44 b off j h w
def fanG (p : List Tm) (l : List Pt) : Nat → Rat
 | 0 => 0
 | k + 1 => fanG p l k + Qam p (l.getD 0 (0, 0)) (l.getD (k + 1) (0, 0)) (l.getD (k + 2) (0, 0))
def pwN (x : Rat) : Nat → List Rat
 | 0 => (List.replicate 13 (0 : Rat)).set 0 ((1 : Int) : Rat)
 | i + 1 => (pwN x i).set (i + 1) ((pwN x i).getD i 0 * x)
theorem Yy (x : Rat) : ∀ i, (pwN x i).length = 13
 | 0 => rfl
 | i + 1 => by rw [pwN, List.length_set, Yy x i]
theorem Zfa (x : Rat) : ∀ i k, i ≤ 12 → k ≤ i → (pwN x i).getD k 0 = x ^ k
 | 0, k, _, h => by
  have : k = 0 := oo
  subst this
  rw [Rat.pow_zero]; rfl
 | i + 1, k, h, hk => by
  have hl := Yy x i
  rw [pwN, List.getD_eq_getElem?_getD, List.getElem?_set]
  by_cases e : i + 1 = k
  ·
   subst e
   rw [if_pos rfl, if_pos oo, Option.getD_some, Zfa x i i oo (Nat.le_refl _), Rat.pow_succ]
  · rw [if_neg e, ← List.getD_eq_getElem?_getD, Zfa x i k oo oo]
theorem Zcr {K : Nat} {x : Rat} (hx : Qc x ≤ K) : ∀ k : Nat, Qc (x ^ k) ≤ 2 + k * K
 | 0 => by rw [Rat.pow_zero]; have := Zli; omega
 | k + 1 => by
  have := Zcr hx k
  have := Qf (x ^ k) x
  rw [Rat.pow_succ, Nat.add_mul]; omega
theorem read_whole (cs : Array Value) (n : Nat) (h : cs.size = n) : Qk true n cs 0 = some (.agg cs) := by
 unfold Qk
 rw [if_pos rfl, if_pos oo]
 congr 2
 rw [Nat.zero_add]
 exact Array.extract_eq_self_of_le oo
theorem Zmu (cs : Array Value) (vs : List Value) (h : cs.size = vs.length) : Jd cs 0 vs = vs.toArray := by
 have := Zab vs [] cs.toList [] (by simpa using h)
 simpa using this
theorem szA (l : List Rat) (h : l.length = 13) : (cellsOf Jo l).toArray.size = 65 := by
 show (cellsOf Jo l).length = 65
 rw [cellsOf_length (k := 5) (fun _ => rfl), h]
theorem Qa2 (l : List Rat) (h : l.length = 13) : Jd (cellsOf Jo l).toArray 0 (encA l).cells.toList = (cellsOf Jo l).toArray := Zmu _ _ (by show (cellsOf Jo l).toArray.size = (cellsOf Jo l).length; rfl)
theorem Zeo (m l : List Rat) (h : l.length = 13) (hm : m.length = 13) : Jd (cellsOf Jo m).toArray 0 (encA l).cells.toList = (cellsOf Jo l).toArray :=
 Zmu _ _ (by show (cellsOf Jo m).length = (cellsOf Jo l).length; rw [cellsOf_length (k := 5) (fun _ => rfl), cellsOf_length (k := 5) (fun _ => rfl), h, hm])
theorem leA (l : List Rat) (h : l.length = 13) : 0 + 65 ≤ (cellsOf Jo l).toArray.size := by rw [szA l h]; decide
theorem Zuy : ∀ l : List Rat, (cellsOf Jo l).all flat = true
 | [] => rfl
 | t :: l => by
  have h := Zuy l
  rw [show t :: l = [t] ++ l from rfl, Qd, Xc, List.all_append, h]; rfl
def PWf (x y : Rat) : Nat → Nat → Rat := fun i j => (pwN x 12).getD i 0 * (pwN y 12).getD j 0
theorem Qek (x y : Rat) (i j : Nat) (hi : i ≤ 12) (hj : j ≤ 12) : PWf x y i j = x ^ i * y ^ j := by unfold PWf; rw [Zfa x 12 i oo hi, Zfa y 12 j oo hj]
theorem at_ev {p : List Tm} (x y : Rat) (hd : DL 12 (norm p)) : Zui (PWf x y) (norm p) = evP p x y := by
 rw [Qge, ← (Eqv.nrm p).val x y]
 exact Xu (fun t ht => Qek x y t.i t.j (by have := hd t ht; omega) (by have := hd t ht; omega))
theorem Zr4 {K : Nat} {x y : Rat} (hx : Qc x ≤ K) (hy : Qc y ≤ K) (i j : Nat) (h : i + j ≤ 12) : Qc (PWf x y i j) ≤ 4 + 12 * K := by
 rw [Qek x y i j oo oo]
 have h1 := Zcr hx i
 have h2 := Zcr hy j
 have h3 := Qf (x ^ i) (y ^ j)
 have h4 := Nat.mul_le_mul_right K h
 rw [Nat.add_mul] at h4
 omega
theorem Zia (x : Rat) (K : Nat) (hx : Qc x ≤ K) (hK : K ≤ 10000000) : Ys Tryz.prog 139 [Jo x] (encA (pwN x 12)) := by
 refine fn_intro func139 rfl ntmps139 nb ?_
 intro S w0 a hS h
 refine gC h (zS (zx rfl fun b1 => zz Zky fun b2 => zn (zS (zv [_] rfl call45 (Vw _ oo oo) ?_))))
 have hl4 := Zw (1) oo oo
 refine zp (.indexAddr rfl rfl (Zx2 _ _)) (zt' (b := b2) (cs := (cellsOf Jo (List.replicate 13 (0 : Rat))).toArray) (cs' := (cellsOf Jo ((List.replicate 13 (0 : Rat)).set 0 (((1 : Int) : Rat)))).toArray) (v := Jo (((1 : Int) : Rat))) rfl rfl (Yd (k := 5) (fun _ => rfl) (List.replicate 13 (0 : Rat)) 0 dd (((1 : Int) : Rat))) uu sizeOf44 rfl (Vv (k := 5) (fun _ => rfl) (List.replicate 13 (0 : Rat)) 0 dd) rfl ?_)
 refine zn (zs (zS (zm rfl (zn (zb ?_))))); intro a w h
 refine Zf (fun (i : Nat) a w => i ≤ 12 ∧ St 19 S w0 [(1, pB b1), (2, pB b2), (6, nI i)] [(b2, .cells (cellsOf Jo (pwN x i)).toArray 180 (0, 0)), (b1, bV (Jo (x)) 44)] [] a w) (fun i => 12 - i) 0 (⟨Nat.zero_le _, by exact (h).sub sA⟩) ?_; clear h
 rintro i a w ⟨hi_i, h⟩
 refine gC h (zS (zp (.lss rfl rfl) (zn (zs ?_)))); clear h; intro a w h
 refine Zb h rfl (fun hc7 => ?_) (fun hc7 => ?_)
 ·
  skip
  have hlt_i : i < 12 := dT hc7
  have hlp := Zcr hx i
  rw [← Zfa x i i oo (Nat.le_refl _)] at hlp
  have him := Nat.mul_le_mul (show i ≤ 12 by omega) hK
  refine gC h (zk (zs (zb (zS (zm rfl (za rfl (zn (yD Za [0, 1, 2, 3, 4, 5, 6, 7, 8] (Zd kk) (ym rfl rfl (yp rfl (.pN (i + 1) (.add rfl rfl)) (ym rfl rfl (yp rfl (.indexAddr rfl rfl (Zll _ _ _ oo)) (yd rfl rfl mm isAgg44 sizeOf44 (Zac (k := 5) (fun _ => rfl) ((fun _ => rfl)) (pwN x i) 0 i (by rw [Yy]; omega)) ?_))))))))))))); clear h
  refine yd rfl rfl mr isAgg44 sizeOf44 Zh ?_
  refine yv [_, _] rfl rfl call69 (Zaq _ _ oo oo) ?_
  have hl15 := Qf ((pwN x i).getD i 0) (x)
  refine yp rfl (.indexAddr rfl rfl (Zll _ _ _ oo)) ?_
  refine Gf (b := b2) (cs := (cellsOf Jo (pwN x i)).toArray) (cs' := (cellsOf Jo ((pwN x i).set (i + 1) (((pwN x i).getD i 0) * x))).toArray) (v := Jo (((pwN x i).getD i 0) * x)) rfl kk rfl rfl (Yd (k := 5) (fun _ => rfl) (pwN x i) (i + 1) (by rw [Yy]; omega) (((pwN x i).getD i 0) * x)) uu sizeOf44 rfl (Vv (k := 5) (fun _ => rfl) (pwN x i) (i + 1) (by rw [Yy]; omega)) rfl ?_
  refine yn (zr (zp (.pN (i + 1) (.add rfl rfl)) (zm rfl (zn ?_)))); intro a w h
  exact ⟨i + 1, ⟨oo, h.sub sA⟩, oo⟩
 ·
  skip
  have heq_i : 12 = i := dF hc7
  subst heq_i
  refine gC h (ze (zS (zd rfl mm isAgg180 sizeOf180 (read_whole _ 65 (szA _ (Yy _ _))) ?_)))
  refine zt' rfl rfl (Qa2 (pwN x 12) (Yy x 12)) uu sizeOf180 (szA (pwN x 12) (Yy x 12)) (by exact leA (pwN x 12) (Yy x 12)) (Zuy (pwN x 12)) ?_; intro a w h
  refine wpList_nil (wp_ret ?_)
  exact Jm h (Zc h rfl (.cell rfl mr isAgg180 sizeOf180 (read_whole _ 65 (szA _ (Yy _ _))))) rfl
theorem Qdh (p : List Tm) (ad : Option Addr) (c d K Kx : Nat) (hq : Pq d K p) (hd : d ≤ 12) (x y : Rat) (hx : Qc x ≤ Kx) (hy : Qc y ≤ Kx) (hK : K ≤ 10000000) (hKx : Kx ≤ 1000000) : Vj Tryz.prog 78 [.slice ad p.length c, Jo x, Jo y] [Row ad (cellsOf Zp p)] (Jo (evP p x y)) := by
 have hn91 := hq.n91 hd
 refine fn_intro func78 rfl ntmps78 nb ?_
 intro S w0 a hS h
 refine gC h (zS (zx rfl fun b4 => zx rfl fun b5 => zz Vd fun b6 => zn (zs (yD Za [0, 2, 1, 3, 4, 5, 6, 7] (Xs ⟨.inl rfl, .inl rfl, .inl rfl, .inl rfl, .inr ⟨7, 180, _, _, _, rfl, rfl, by decide, _, Zky⟩, .inr ⟨8, 180, _, _, _, rfl, rfl, by decide, _, Zky⟩, .inl rfl, .inl rfl, trivial⟩) (yd rfl rfl mr isAgg44 sizeOf44 Zh ?_))))); clear h
 refine yd rfl rfl mr isAgg44 sizeOf44 Zh ?_
 refine yv [_] rfl rfl call139 (Zia x Kx hx oo) (yv [_] rfl rfl call139 (Zia y Kx hy oo) (yz rfl Zky fun b7 => yz rfl Zky fun b8 => yt rfl rfl rfl (Zeo (List.replicate 13 0) (pwN x 12) (Yy x 12) rfl) uu sizeOf180 (szA (pwN x 12) (Yy x 12)) (by exact leA (List.replicate 13 0) rfl) (Zuy (pwN x 12)) ?_))
 refine yt rfl rfl rfl (Zeo (List.replicate 13 0) (pwN y 12) (Yy y 12) rfl) uu sizeOf180 (szA (pwN y 12) (Yy y 12)) (by exact leA (List.replicate 13 0) rfl) (Zuy (pwN y 12)) ?_
 refine yn (zs (zS (zm rfl (zf [_] rfl call82 (Xk p _ _ d K hq hd oo) ?_)))); rintro v16 Ψ16 ⟨ad16, c16, rfl, rfl⟩
 refine zp (.builtin [_] rfl (Zk _ _ _)) (zm rfl (zn (zb ?_))); intro a w h
 refine Zf (fun (k : Nat) a w => k ≤ (norm p).length ∧ St 38 S w0 [(6, pB b6), (7, pB b7), (8, pB b8), (16, .slice ad16 ((norm p).length) c16), (17, nI ((norm p).length)), (18, nI k)] [(b8, .cells (cellsOf Jo (pwN y 12)).toArray 180 (0, 0)), (b7, .cells (cellsOf Jo (pwN x 12)).toArray 180 (0, 0)), (b6, bV (Jo (Zui (PWf x y) ((norm p).take k))) 44), (b5, bV (Jo (y)) 44), (b4, bV (Jo (x)) 44)] [Row ad16 (cellsOf Zp (norm p)), Row ad (cellsOf Zp p)] a w) (fun k => (norm p).length - k) 0 (⟨Nat.zero_le _, by exact (h).sub sA⟩) ?_; clear h
 rintro k a w ⟨hi_k, h⟩
 refine gC h (zS (zp (.lss rfl rfl) (zn (zs ?_)))); clear h; intro a w h
 refine Zb h rfl (fun hc19 => ?_) (fun hc19 => ?_)
 ·
  skip
  have hlt_k : k < (norm p).length := dT hc19
  obtain ⟨B_ad16, O_ad16, rfl⟩ := h.row_addr (ad := ad16) (M := cellsOf Zp (norm p)) mm (nE 7)
  have hmem := getD_mem (norm p) (d := T0) hlt_k
  have hck := hq.nsz _ hmem
  have hdg := (Qm hq.deg) _ hmem
  have hpx := Zcr hx ((norm p).getD k T0).i
  have hpy := Zcr hy ((norm p).getD k T0).j
  rw [← Zfa x 12 ((norm p).getD k T0).i oo oo] at hpx
  rw [← Zfa y 12 ((norm p).getD k T0).j oo oo] at hpy
  have hix := Nat.mul_le_mul (show ((norm p).getD k T0).i ≤ 12 by omega) hKx
  have hjx := Nat.mul_le_mul (show ((norm p).getD k T0).j ≤ 12 by omega) hKx
  have hix2 := Nat.mul_le_mul_left ((norm p).getD k T0).i (Nat.le_refl Kx)
  have hlk := Ziz (φ := PWf x y) (Kf := 4 + 12 * Kx) k oo hq.nsz (fun t ht => Zr4 hx hy t.i t.j (by have := (Qm hq.deg) t ht; omega))
  have hkm := Nat.mul_le_mul (show k ≤ 91 by omega) (show K + (4 + 12 * Kx) + 1 ≤ 22000005 by omega)
  have hstep : Zui (PWf x y) ((norm p).take k) + ((norm p).getD k T0).c * ((pwN x 12).getD ((norm p).getD k T0).i 0 * (pwN y 12).getD ((norm p).getD k T0).j 0) = Zui (PWf x y) ((norm p).take (k + 1)) := by rw [take_snoc _ hlt_k, Znj]; rfl
  refine gC h (zk (zs (zb (zS (zp (.indexAddr rfl rfl (Zao _ _ _ _ _ oo)) (zD rfl mm (cells_lt (k := 7) dd (fun _ => rfl) (norm p) k oo) isAgg117 sizeOf117 (Zr (k := 7) (fun _ => rfl) ((fun _ => rfl)) (norm p) T0 k oo) (.inl rfl) ?_))))))
  refine zz Gz fun b10 => zt' rfl rfl Xp uu sizeOf117 rfl nb rfl ?_
  refine zn (yD Za [0, 1, 2, 3, 4, 5, 6, 7, 8, 9, 10, 11, 12, 13, 14] (Zd kk) (yd rfl rfl mr isAgg44 sizeOf44 Zh ?_))
  refine yp rfl (.fA rfl Xz) (yd rfl rfl mr isAgg44 sizeOf44 Vh ?_)
  refine yp rfl (.fA rfl Jz) (yd rfl rfl mr isAgg3 sizeOf3 Ke ?_)
  refine yp rfl (.indexAddr rfl rfl (Zll _ _ _ oo)) (yd rfl rfl mm isAgg44 sizeOf44 (Zac (k := 5) (fun _ => rfl) ((fun _ => rfl)) (pwN x 12) 0 (((norm p).getD k T0).i) (by rw [Yy]; omega)) ?_)
  refine yp rfl (.fA rfl Jy) (yd rfl rfl mr isAgg3 sizeOf3 Vk ?_)
  refine yp rfl (.indexAddr rfl rfl (Zll _ _ _ oo)) (yd rfl rfl mm isAgg44 sizeOf44 (Zac (k := 5) (fun _ => rfl) ((fun _ => rfl)) (pwN y 12) 0 (((norm p).getD k T0).j) (by rw [Yy]; omega)) ?_)
  refine yv [_, _] rfl rfl call69 (Zaq _ _ oo oo) ?_
  have hl33 := Qf ((pwN x 12).getD (((norm p).getD k T0).i) 0) ((pwN y 12).getD (((norm p).getD k T0).j) 0)
  refine yv [_, _] rfl rfl call69 (Zaq _ _ oo oo) ?_
  have hl34 := Qf (((norm p).getD k T0).c) (((pwN x 12).getD (((norm p).getD k T0).i) 0) * ((pwN y 12).getD (((norm p).getD k T0).j) 0))
  refine yv [_, _] rfl rfl call98 (Zoj _ _ oo oo) ?_
  have hl35 := Yw (Zui (PWf x y) ((norm p).take k)) ((((norm p).getD k T0).c) * (((pwN x 12).getD (((norm p).getD k T0).i) 0) * ((pwN y 12).getD (((norm p).getD k T0).j) 0)))
  refine yt rfl rfl rfl Qi uu sizeOf44 rfl nb rfl ?_
  refine yn (zr (zp (.pN (k + 1) (.add rfl rfl)) (zm rfl (zn ?_)))); intro a w h
  rw [hstep] at h
  exact ⟨k + 1, ⟨oo, ((h.drop sl).factsSub (by simp)).sub sA⟩, oo⟩
 ·
  skip
  have heq_k : (norm p).length = k := dF hc19
  subst heq_k
  rw [List.take_length, at_ev x y ((Qm hq.deg).mono hd)] at h
  refine gC h (ze (zS (zd rfl mr isAgg44 sizeOf44 Zh ?_)))
  refine zt' rfl rfl Qi uu sizeOf44 rfl nb rfl ?_; intro a w h
  refine wpList_nil (wp_ret ?_)
  refine Jm h (Zc h rfl (.cell rfl mr isAgg44 sizeOf44 Zh)) ?_
  rfl
end
section
theorem Zde {φ : Nat → Nat → Rat} : ∀ {l : List Tm}, (∀ t ∈ l, φ t.i t.j = 0) → lin φ l = 0
 | [], _ => rfl
 | t :: l, h => by rw [lin, h t List.mem_cons_self, Zde (fun s hs => h s (List.mem_cons_of_mem _ hs))]; grind
theorem Zdd : ∀ {p : List Tm} {u : Tm}, Nrm p → u ∈ p → lin (at0 u.i u.j) p = u.c
 | [], _, _, h => nomatch h
 | t :: p, u, hn, h => by
  rcases List.mem_cons.1 h with rfl | h
  · exact Zb1 hn
  ·
   have hlt := (List.pairwise_cons.1 hn.2).1 u h
   rw [lin, Zdd (Zhz hn) h, at0, if_neg (by rw [Kz] at hlt; omega)]; grind
theorem Zh7 {l : List Tm} {a b : Nat} (h : lin (at0 a b) l ≠ 0) : ∃ u ∈ norm l, u.i = a ∧ u.j = b := by
 rw [← Kq] at h
 by_cases hc : ∃ u ∈ norm l, u.i = a ∧ u.j = b
 · exact hc
 · exact absurd (Yc (fun t ht h2 => hc ⟨t, ht, h2⟩)) h
theorem Zi2 {p : List Tm} (h : p ≠ []) : p = p.dropLast ++ [p.getD (p.length - 1) ⟨0, 0, 0⟩] := by
 have h1 := List.dropLast_concat_getLast h
 have h2 : p.getD (p.length - 1) ⟨0, 0, 0⟩ = p.getLast h := by
  rw [List.getLast_eq_getElem h]
  have : p.length - 1 < p.length := by have := List.length_pos_iff.2 h; omega
  simp [List.getD, this]
 rw [h2, h1]
theorem Zla {p : List Tm} (hn : Nrm p) {t : Tm} (ht : t ∈ p) : t = p.getD (p.length - 1) ⟨0, 0, 0⟩ ∨ ltT t (p.getD (p.length - 1) ⟨0, 0, 0⟩) = true := by
 have hne : p ≠ [] := fun e => by rw [e] at ht; cases ht
 have e := Zi2 hne
 have h2 := hn.2
 rw [e, List.pairwise_append] at h2
 rw [e] at ht
 rcases List.mem_append.1 ht with h | h
 · exact .inr (h2.2.2 t h _ (List.mem_singleton.2 rfl))
 · exact .inl (List.mem_singleton.1 h)
theorem Zb3 {p : List Tm} (hn : Nrm p) {t : Tm} (ht : t ∈ p) : ((t.i + t.j : Nat) : Int) ≤ Gl p := by
 have hne : p.length ≠ 0 := fun e => by rw [List.eq_nil_of_length_eq_zero e] at ht; cases ht
 unfold Gl
 rw [if_neg hne]
 rcases Zla hn ht with h | h
 ·
  show ((t.i + t.j : Nat) : Int) ≤ (((p.getD (p.length - 1) ⟨0, 0, 0⟩).i + (p.getD (p.length - 1) ⟨0, 0, 0⟩).j : Nat) : Int)
  rw [← h]; exact Int.le_refl _
 ·
  rw [Kz] at h
  show ((t.i + t.j : Nat) : Int) ≤ (((p.getD (p.length - 1) ⟨0, 0, 0⟩).i + (p.getD (p.length - 1) ⟨0, 0, 0⟩).j : Nat) : Int)
  omega
theorem Zh5 {p : List Tm} {d : Int} (hd : -1 ≤ d) (h : ∀ t ∈ p, ((t.i + t.j : Nat) : Int) ≤ d) : Gl p ≤ d := by
 unfold Gl
 split
 · exact hd
 · exact h _ (getD_mem p (d := T0) (show p.length - 1 < p.length by omega))
theorem Zl3 : Gl [] = -1 := rfl
theorem Qg0 (a : List Tm) : Gl (norm (dxL a)) ≤ max (-1) (Gl (norm a) - 1) := by
 refine Zh5 oo (fun u hu => ?_)
 have h1 := Zdd (Qr (dxL a)) hu
 have h2 := (Zay hu).2
 rw [Kq, ((Eqv.nrm a).dx (at0 u.i u.j)).symm, Zb9] at h1
 by_cases hc : ∃ t ∈ norm a, t.i = u.i + 1 ∧ t.j = u.j
 ·
  obtain ⟨t, ht, e1, e2⟩ := hc
  have := Zb3 (Qr a) ht
  omega
 ·
  refine absurd (h1.symm.trans (Zde (fun t ht => ?_))) h2
  rcases h0 : t.i with _ | k
  · rw [Xo]; grind
  · rw [at0, if_neg (fun h3 => hc ⟨t, ht, oo, h3.2⟩)]; grind
theorem Qgz (a : List Tm) : Gl (norm (dyL a)) ≤ max (-1) (Gl (norm a) - 1) := by
 refine Zh5 oo (fun u hu => ?_)
 have h1 := Zdd (Qr (dyL a)) hu
 have h2 := (Zay hu).2
 rw [Kq, ((Eqv.nrm a).dy (at0 u.i u.j)).symm, Zdf] at h1
 by_cases hc : ∃ t ∈ norm a, t.i = u.i ∧ t.j = u.j + 1
 ·
  obtain ⟨t, ht, e1, e2⟩ := hc
  have := Zb3 (Qr a) ht
  omega
 ·
  refine absurd (h1.symm.trans (Zde (fun t ht => ?_))) h2
  rcases h0 : t.j with _ | k
  · rw [Xo]; grind
  · rw [at0, if_neg (fun h3 => hc ⟨t, ht, h3.1, oo⟩)]; grind
theorem Zsp {a b : List Tm} (ha : Nrm a) (hb : Nrm b) (h1 : a ≠ []) (h2 : b ≠ []) : Gl (norm (Jg a b)) = Gl a + Gl b := by
 have e1 := Zi2 h1
 have e2 := Zi2 h2
 have l1 : ∀ t ∈ a, t = a.getD (a.length - 1) ⟨0, 0, 0⟩ ∨ ltT t (a.getD (a.length - 1) ⟨0, 0, 0⟩) = true := fun t ht => Zla ha ht
 have l2 : ∀ t ∈ b, t = b.getD (b.length - 1) ⟨0, 0, 0⟩ ∨ ltT t (b.getD (b.length - 1) ⟨0, 0, 0⟩) = true := fun t ht => Zla hb ht
 have p1 := ha.2
 rw [e1, List.pairwise_append] at p1
 have p2 := hb.2
 rw [e2, List.pairwise_append] at p2
 have n1 : a.length ≠ 0 := fun e => h1 (List.eq_nil_of_length_eq_zero e)
 have n2 : b.length ≠ 0 := fun e => h2 (List.eq_nil_of_length_eq_zero e)
 have c1 : (a.getD (a.length - 1) ⟨0, 0, 0⟩).c ≠ 0 := ha.1 _ (getD_mem a (d := (⟨0, 0, 0⟩ : Tm)) (show a.length - 1 < a.length by omega))
 have c2 : (b.getD (b.length - 1) ⟨0, 0, 0⟩).c ≠ 0 := hb.1 _ (getD_mem b (d := (⟨0, 0, 0⟩ : Tm)) (show b.length - 1 < b.length by omega))
 have d1 : Gl a = (((a.getD (a.length - 1) ⟨0, 0, 0⟩).i + (a.getD (a.length - 1) ⟨0, 0, 0⟩).j : Nat) : Int) := by unfold Gl; rw [if_neg n1]
 have d2 : Gl b = (((b.getD (b.length - 1) ⟨0, 0, 0⟩).i + (b.getD (b.length - 1) ⟨0, 0, 0⟩).j : Nat) : Int) := by unfold Gl; rw [if_neg n2]
 generalize a.getD (a.length - 1) ⟨0, 0, 0⟩ = s0 at *
 generalize b.getD (b.length - 1) ⟨0, 0, 0⟩ = t0 at *
 refine Int.le_antisymm (Zh5 oo (fun u hu => ?_)) ?_
 ·
  obtain ⟨v, hv, hs⟩ := Zah (Zay hu).1
  unfold Jg at hv
  obtain ⟨s, hs1, hv⟩ := List.mem_flatMap.1 hv
  obtain ⟨t, ht1, rfl⟩ := List.mem_map.1 hv
  have k1 := Zb3 ha hs1
  have k2 := Zb3 hb ht1
  rw [hs.1, hs.2]; simp only; omega
 ·
  have key : lin (at0 (s0.i + t0.i) (s0.j + t0.j)) (Jg a b) = s0.c * t0.c := by
   rw [Gr]
   have hz : ∀ s ∈ a.dropLast, lin (fun p q => at0 (s0.i + t0.i) (s0.j + t0.j) (s.i + p) (s.j + q)) b = 0 := fun s hs => by
    have hlt := p1.2.2 s hs s0 (List.mem_singleton.2 rfl)
    refine Zde (fun t ht => ?_)
    rw [Kz] at hlt
    rw [at0, if_neg]
    rcases l2 t ht with rfl | h
    · omega
    · rw [Kz] at h; omega
   have hz2 : lin (fun p q => at0 (s0.i + t0.i) (s0.j + t0.j) (s0.i + p) (s0.j + q)) b = t0.c := by
    rw [e2, Jf, Zde (fun t ht => ?_)]
    · rw [lin, lin, at0, if_pos ⟨rfl, rfl⟩]; grind
    ·
     have hlt := p2.2.2 t ht t0 (List.mem_singleton.2 rfl)
     rw [Kz] at hlt
     rw [at0, if_neg oo]
   rw [e1, Jf, Zde hz, lin, lin, hz2]; grind
  have hne : lin (at0 (s0.i + t0.i) (s0.j + t0.j)) (Jg a b) ≠ 0 := by
   rw [key]; intro h
   rcases Rat.mul_eq_zero.1 h with h | h
   · exact c1 h
   · exact c2 h
  obtain ⟨u, hu, u1, u2⟩ := Zh7 hne
  have := Zb3 (Qr (Jg a b)) hu
  omega
theorem Zxh (b : List Tm) : norm (Jg [] b) = [] := Qw
theorem Zxg (a : List Tm) : norm (Jg a []) = [] := by
 rw [Ji (m := []) (fun φ => by rw [Gr]; exact Zde (fun t _ => rfl))]; exact Qw
theorem sub_self (a : List Tm) : norm (a ++ Zs (-1) a) = [] := by
 rw [Ji (m := []) (fun φ => by rw [Jf, Vl, Zle]; grind)]; exact Qw
theorem Zzo {p : List Tm} (hn : Nrm p) {d : Nat} (h : Gl p ≤ (d : Int)) : DL d p := fun t ht => by have := Zb3 hn ht; omega
end
section
theorem Kk (l : List Tm) (x y : Rat) : evP (norm l) x y = evP l x y := (Eqv.nrm l).val x y
theorem Zcv (l : List Tm) (x y : Rat) : evP (dxL (norm l)) x y = evP (dxL l) x y := (Eqv.nrm l).dx.val x y
theorem Zcu (l : List Tm) (x y : Rat) : evP (dyL (norm l)) x y = evP (dyL l) x y := (Eqv.nrm l).dy.val x y
theorem Qgu (a b : List Tm) : dxL (a ++ b) = dxL a ++ dxL b := List.map_append
theorem Qgt (a b : List Tm) : dyL (a ++ b) = dyL a ++ dyL b := List.map_append
theorem Qgo (a : List Tm) (x y : Rat) : evP (dxL (dyL a)) x y = evP (dyL (dxL a)) x y := by
 rw [Zjf, Zje, Zdf, Zb9]
 exact Xu (fun t _ => by grind)
theorem Yt {p q : List Tm} (h : ∀ x y, evP p x y = evP q x y) : norm p = norm q := Ji (Eqv.of_ev h)
theorem Zt6 (a b : List Tm) : norm (norm (dxL (norm (Jg a b)))) = norm (norm (norm (Jg (norm (dxL a)) b) ++ norm (Jg a (norm (dxL b))))) :=
 Yt (fun x y => by simp only [Kk, Zcv, Xa, Zag, Zg2])
theorem Zt5 (a b : List Tm) : norm (norm (dyL (norm (Jg a b)))) = norm (norm (norm (Jg (norm (dyL a)) b) ++ norm (Jg a (norm (dyL b))))) :=
 Yt (fun x y => by simp only [Kk, Zcu, Xa, Zag, Zg0])
theorem Zt8 (a b : List Tm) : norm (norm (dxL (norm (a ++ b)))) = norm (norm (norm (dxL a) ++ norm (dxL b))) :=
 Yt (fun x y => by simp only [Kk, Zcv, Xa, Qgu])
theorem Zt7 (a b : List Tm) : norm (norm (dyL (norm (a ++ b)))) = norm (norm (norm (dyL a) ++ norm (dyL b))) :=
 Yt (fun x y => by simp only [Kk, Zcu, Xa, Qgt])
theorem Zwg (a : List Tm) : norm (norm (dxL (norm (dyL a)))) = norm (norm (dyL (norm (dxL a)))) :=
 Yt (fun x y => by simp only [Kk, Zcv, Zcu, Qgo])
theorem Qcl (c : Rat) : norm (dxL (norm [(⟨0, 0, c⟩ : Tm)])) = [] := by
 have h : norm (dxL (norm [(⟨0, 0, c⟩ : Tm)])) = norm [] := Yt (fun x y => by
  rw [Zcv, Zjf]
  simp only [lin, Xo, evP]; grind)
 rw [h]; exact Qw
theorem Qck (c : Rat) : norm (dyL (norm [(⟨0, 0, c⟩ : Tm)])) = [] := by
 have h : norm (dyL (norm [(⟨0, 0, c⟩ : Tm)])) = norm [] := Yt (fun x y => by
  rw [Zcu, Zje]
  simp only [lin, Xo, evP]; grind)
 rw [h]; exact Qw
theorem Zwj (a b : List Tm) : norm (norm (Jg a b)) = norm (norm (Jg b a)) :=
 Yt (fun x y => by simp only [Kk, Zag]; grind)
theorem Zt9 (a b c : List Tm) : norm (norm (Jg (norm (Jg a b)) c)) = norm (norm (Jg a (norm (Jg b c)))) :=
 Yt (fun x y => by simp only [Kk, Zag]; grind)
theorem Zwi (a b c : List Tm) : norm (norm (Jg a (norm (b ++ c)))) = norm (norm (norm (Jg a b) ++ norm (Jg a c))) :=
 Yt (fun x y => by simp only [Kk, Zag, Xa]; grind)
theorem Zwk (a b : List Tm) : norm (norm (a ++ b)) = norm (norm (b ++ a)) :=
 Yt (fun x y => by simp only [Kk, Xa]; grind)
theorem neg1 : ((-1 : Int) : Rat) = -1 := rfl
theorem Qbe (a b : List Tm) : norm (norm (norm (a ++ b) ++ Zs ((-1 : Int) : Rat) b)) = norm a :=
 Yt (fun x y => by simp only [Kk, Xa, Gw, neg1]; grind)
theorem Zwh (a : List Tm) : norm (a ++ Zs ((-1 : Int) : Rat) a) = [] := by
 have h : norm (a ++ Zs ((-1 : Int) : Rat) a) = norm [] := Yt (fun x y => by simp only [Xa, Gw, neg1]; rw [Zyf]; grind)
 rw [h]; exact Qw
theorem Zph (a b : List Tm) (x y : Rat) : evP (norm (Jg a b)) x y = evP a x y * evP b x y := by simp only [Kk, Zag]
theorem Zpi (a b : List Tm) (x y : Rat) : evP (norm (a ++ b)) x y = evP a x y + evP b x y := by simp only [Kk, Xa]
theorem Zpg (a : List Tm) (x y : Rat) : evP (norm (Zs ((-1 : Int) : Rat) a)) x y = -evP a x y := by simp only [Kk, Gw, neg1]; grind
theorem Qa1 (p : List Tm) (ax bx cx ay b cy x y : Rat) : evP (norm (shL p ax bx cx ay b cy)) x y = evP p ([ax * x, bx * y, cx].foldl (· + ·) 0) ([ay * x, b * y, cy].foldl (· + ·) 0) := by
 rw [Kk, Zjd]
 simp only [List.foldl_cons, List.foldl_nil]
 congr 1 <;> grind
theorem Qa0 (p : List Tm) (ax bx cx ay b cy : Rat) : norm (norm (dxL (norm (shL p ax bx cx ay b cy)))) = norm (norm (norm (Zs ax (norm (shL (norm (dxL p)) ax bx cx ay b cy))) ++ norm (Zs ay (norm (shL (norm (dyL p)) ax bx cx ay b cy))))) :=
 Yt (fun x y => by simp only [Kk, Zcv, Xa, Gw, Zjd, Zyi]; grind)
theorem Qaz (p : List Tm) (ax bx cx ay b cy : Rat) : norm (norm (dyL (norm (shL p ax bx cx ay b cy)))) = norm (norm (norm (Zs bx (norm (shL (norm (dxL p)) ax bx cx ay b cy))) ++ norm (Zs b (norm (shL (norm (dyL p)) ax bx cx ay b cy))))) :=
 Yt (fun x y => by simp only [Kk, Zcu, Xa, Gw, Zjd, Zyg]; grind)
theorem Zt2 (p : List Tm) (ax bx cx ay b cy u v : Rat) : norm (norm (shL (norm (shL p ax bx cx ay b cy)) ((1 : Int) : Rat) ((0 : Int) : Rat) u ((0 : Int) : Rat) ((1 : Int) : Rat) v)) =
  norm (norm (shL p ax bx ([ax * u, bx * v, cx].foldl (· + ·) 0) ay b ([ay * u, b * v, cy].foldl (· + ·) 0))) :=
 Yt (fun x y => by
  have e1 : ((1 : Int) : Rat) = 1 := rfl
  have e0 : ((0 : Int) : Rat) = 0 := rfl
  simp only [Kk, Zjd, e1, e0, List.foldl_cons, List.foldl_nil]
  congr 1 <;> grind)
theorem Qay (p : List Tm) : norm (norm (shL p ((1 : Int) : Rat) ((0 : Int) : Rat) ((0 : Int) : Rat) ((0 : Int) : Rat) ((1 : Int) : Rat) ((0 : Int) : Rat))) = norm p :=
 Yt (fun x y => by
  have e1 : ((1 : Int) : Rat) = 1 := rfl
  have e0 : ((0 : Int) : Rat) = 0 := rfl
  simp only [Kk, Zjd, e1, e0]
  congr 1 <;> grind)
theorem Zv5 (p : List Tm) (ax bx cx ay b cy : Rat) : Gl (norm (norm (shL p ax bx cx ay b cy))) ≤ Gl (norm p) := by
 rw [Zco]
 have e : norm (shL p ax bx cx ay b cy) = norm (shL (norm p) ax bx cx ay b cy) := Yt (fun x y => by simp only [Zjd, Kk])
 rw [e]
 rcases hp : norm p with _ | ⟨t, r⟩
 · rw [show norm (shL [] ax bx cx ay b cy) = [] from Qw]; exact Int.le_refl _
 ·
  rw [← hp]
  have h0 : 0 ≤ Gl (norm p) := by unfold Gl; rw [if_neg (by rw [hp]; simp)]; omega
  obtain ⟨d, hd⟩ : ∃ d : Nat, Gl (norm p) = (d : Int) := ⟨(Gl (norm p)).toNat, oo⟩
  rw [hd]
  refine Gx (Qm ?_)
  intro u hu
  have hD : DL d (norm p) := Zzo (Qr p) oo
  unfold shL sbL at hu
  obtain ⟨t, ht, hu⟩ := List.mem_flatMap.1 hu
  have hd := hD t ht
  have hl : ∀ x y z : Rat, DL 1 (ln x y z) := fun x y z s hs => by
   simp only [ln, List.mem_cons, List.not_mem_nil, or_false] at hs
   rcases hs with rfl | rfl | rfl <;> simp
  have hp : ∀ (x y z : Rat) (n : Nat), DL n (Yb (ln x y z) n) := fun x y z n => by
   induction n with
   | zero => intro s hs; rw [Yb, List.mem_singleton] at hs; subst hs; simp
   | succ n ih => exact Zmc ih (hl x y z)
  have h1 := Zju t.c (Zmc (hp ax bx cx t.i) (hp ay b cy t.j)) u hu
  omega
end
section
theorem Zy7 (a b : Nat) : ((a : Int) = (b : Int)) ↔ a = b := oo
theorem Zwd (X Y : Operand) (x y : Tm) (w : World) : (do eqGuard .neq 117 X Y (Zp x) (Zp y); Go.binOp .neq 117 (Zp x) (Zp y) : Sem Value).run Tryz.prog w = .ok (.bool (!decide (x = y))) w := by
 obtain ⟨x1, x2, x3⟩ := x
 obtain ⟨y1, y2, y3⟩ := y
 simp [go_sem]
 rw [nestQ]
 by_cases e1 : x1 = y1 <;> by_cases e2 : x2 = y2 <;> by_cases e3 : x3 = y3 <;> simp [e1, e2, e3, Zy7]
theorem Qd3 {p q : List Tm} (hl : p.length = q.length) (h : ∀ k, k < p.length → p.getD k T0 = q.getD k T0) : p = q := by
 refine List.ext_getElem hl (fun i h1 h2 => ?_)
 have := h i h1
 simpa [List.getD, h1, h2] using this
theorem Ztq (p q : List Tm) (ada adb : Option Addr) (ca cb : Nat) (hp : p.length ≤ 1000000) (hq : q.length ≤ 1000000) : Vj Tryz.prog 89 [.slice ada p.length ca, .slice adb q.length cb] [Row ada (cellsOf Zp p), Row adb (cellsOf Zp q)] (.bool (decide (p = q))) := by
 refine fn_intro func89 rfl ntmps89 nb ?_
 intro S w0 a hS h
 refine gC h (zS (za rfl (zn (zs (zS (zm rfl (zp (.builtin [_] rfl (Zk _ _ _)) (zm rfl (zp (.builtin [_] rfl (Zk _ _ _)) (zp (.neq rfl rfl) (zn ?_))))))))))); clear h; intro a w h
 refine cW ?_
 refine Zb h rfl (fun hc10 => ?_) (fun hc10 => ?_)
 ·
  skip
  have hne : p.length ≠ q.length := Zxe hc10
  refine gC h (zS (za rfl (zn (zt ?_)))); clear h; intro a w h
  refine Jm h (Zc h rfl (.tmp rfl)) ?_
  rw [decide_eq_false (fun e => hne (by rw [e]))]
 ·
  skip
  have hle : p.length = q.length := Zud hc10
  refine gC h (zk (zs (zS (zm rfl (zp (.builtin [_] rfl (Zk _ _ _)) (zm rfl (zn (zb ?_)))))))); clear h; intro a w h
  refine Zf (fun (i : Nat) a w => i ≤ p.length ∧ (∀ k, k < i → p.getD k T0 = q.getD k T0) ∧ St 26 S w0 [(0, .slice ada p.length ca), (1, .slice adb q.length cb), (12, nI p.length), (13, nI i)] [] [Row ada (cellsOf Zp p), Row adb (cellsOf Zp q)] a w) (fun i => p.length - i) 0 (⟨Nat.zero_le _, fun k hk => absurd hk (Nat.not_lt_zero _), by exact (h).sub sA⟩) ?_; clear h
  rintro i a w ⟨hi_i, hinv_i, h⟩
  refine gC h (zS (zp (.lss rfl rfl) (zn (zs ?_)))); clear h; intro a w h
  refine Zb h rfl (fun hc14 => ?_) (fun hc14 => ?_)
  ·
   skip
   have hlt_i : i < p.length := dT hc14
   have hqi : q.length ≠ 0 := oo
   obtain ⟨B_ada, O_ada, rfl⟩ := h.row_addr (ad := ada) (M := cellsOf Zp p) mm (nE 7)
   obtain ⟨B_adb, O_adb, rfl⟩ := h.row_addr (ad := adb) (M := cellsOf Zp q) mm (nE 7)
   refine gC h (zk (zs (zb (zS (zm rfl (za rfl (zn (zs (yD Za [0, 1, 2, 3, 4, 5, 6, 7, 8] (Zd kk) (ym rfl rfl (ym rfl rfl (yp rfl (.indexAddr rfl rfl (Zao _ _ _ _ _ oo)) ?_)))))))))))); clear h
   refine Zm rfl kk rfl mm (cells_lt (k := 7) dd (fun _ => rfl) p i oo) isAgg117 sizeOf117 (Zr (k := 7) (fun _ => rfl) ((fun _ => rfl)) p T0 i oo) (.inl rfl) dd ?_
   refine ym rfl rfl (ym rfl rfl (yp rfl (.indexAddr rfl rfl (Zao _ _ _ _ _ oo)) ?_))
   refine Zm rfl kk rfl mm (cells_lt (k := 7) dd (fun _ => rfl) q i oo) isAgg117 sizeOf117 (Zr (k := 7) (fun _ => rfl) ((fun _ => rfl)) q T0 i oo) (.inl rfl) dd ?_
   refine yp rfl (.binOp rfl rfl (fun _ => Zwd _ _ (p.getD i T0) (q.getD i T0) _)) (yn ?_); intro a w h
   refine cW ?_
   refine Zb h rfl (fun hc24 => ?_) (fun hc24 => ?_)
   ·
    skip
    have hbad : ¬ p.getD i T0 = q.getD i T0 := of_decide_eq_false (by simpa using hc24)
    refine gC h (zS (za rfl (zn (zt ?_)))); clear h; intro a w h
    refine Jm h (Zc h rfl (.tmp rfl)) ?_
    rw [decide_eq_false (fun e => hbad (by rw [e]))]
   ·
    skip
    have hgood : p.getD i T0 = q.getD i T0 := of_decide_eq_true (by simpa using hc24)
    refine gC h (zk (zr (zp (.pN (i + 1) (.add rfl rfl)) (zm rfl (zn ?_))))); clear h; intro a w h
    exact ⟨i + 1, ⟨oo, fun k hk => by rcases Nat.lt_or_ge k i with h | h; exact hinv_i k h; rw [show k = i by omega]; exact hgood, (h.factsSub (by simp)).sub sA⟩, oo⟩
  ·
   skip
   have heq_i : p.length = i := dF hc14
   subst heq_i
   refine gC h (ze (zS (za rfl (zn (zt ?_))))); clear h; intro a w h
   refine Jm h (Zc h rfl (.tmp rfl)) ?_
   rw [decide_eq_true (Qd3 hle hinv_i)]
theorem Vs (p q : List Tm) (ada adb : Option Addr) (ca cb da db Ka Kb : Nat) (ha : Pq da Ka p) (hb : Pq db Kb q) (hda : da ≤ 12) (hdb : db ≤ 12) (hK : Ka ≤ 200000000) (hK2 : Kb ≤ 200000000) : Vj Tryz.prog 25 [.slice ada p.length ca, .slice adb q.length cb] [Row ada (cellsOf Zp p), Row adb (cellsOf Zp q)] (.bool (decide (norm p = norm q))) := by
 have hna := ha.n91 hda
 have hnb := hb.n91 hdb
 refine fn_intro func25 rfl ntmps25 nb ?_
 intro S w0 a hS h
 refine gC h (zS (za rfl (zn (zS (zm rfl (zf [_] rfl call82 (Xk p _ _ da Ka ha hda oo) ?_)))))); rintro v6 Ψ6 ⟨ad6, c6, rfl, rfl⟩
 refine zm rfl (zf [_] rfl call82 (Xk q _ _ db Kb hb hdb oo) ?_); rintro v8 Ψ8 ⟨ad8, c8, rfl, rfl⟩
 refine zw [_, _] rfl call89 (Ztq (norm p) (norm q) _ _ _ _ oo oo) (za rfl (zn (zt ?_))); intro a w h
 exact Zbw h
theorem Zj1 (p : List Tm) (ad : Option Addr) (c d K : Nat) (hq : Pq d K p) (hd : d ≤ 12) (hK : K ≤ 1000000) : Ctr Tryz.prog 77 [.slice ad p.length c] [Row ad (cellsOf Zp p)] (fun v Ψ => ∃ ad' c', v = .slice ad' (norm (norm (dxL (norm (dxL p))) ++ norm (dyL (norm (dyL p))))).length c' ∧ Ψ = [Row ad' (cellsOf Zp (norm (norm (dxL (norm (dxL p))) ++ norm (dyL (norm (dyL p))))))]) := by
 refine fn_intro func77 rfl ntmps77 nb ?_
 intro S w0 a hS h
 refine gC h (zS (za rfl (zn (zS (zm rfl (zf [_] rfl call76 (Zdl p _ _ d K hq hd oo) ?_)))))); rintro v4 Ψ4 ⟨ad4, c4, rfl, rfl⟩
 refine zf [_] rfl call76 (Zdl (norm (dxL p)) _ _ d (K + 1) (hq.dx hd) hd oo) ?_; rintro v5 Ψ5 ⟨ad5, c5, rfl, rfl⟩
 refine zm rfl (zf [_] rfl call97 (Zds p _ _ d K hq hd oo) ?_); rintro v7 Ψ7 ⟨ad7, c7, rfl, rfl⟩
 refine zf [_] rfl call97 (Zds (norm (dyL p)) _ _ d (K + 1) (hq.dy hd) hd oo) ?_; rintro v8 Ψ8 ⟨ad8, c8, rfl, rfl⟩
 refine zf [_, _] rfl call73 (Yv (norm (dxL (norm (dxL p)))) (norm (dyL (norm (dyL p)))) _ _ _ _ d d (K + 1 + 1) (K + 1 + 1) ((hq.dx hd).dx hd) ((hq.dy hd).dy hd) hd hd oo oo) ?_; rintro v9 Ψ9 ⟨ad9, c9, rfl, rfl⟩
 refine za rfl (zn (zt ?_)); intro a w h
 refine Qg (Ψ := [Row _ (cellsOf Zp (norm (norm (dxL (norm (dxL p))) ++ norm (dyL (norm (dyL p))))))]) h (Zc h rfl (.tmp rfl)) ⟨_, _, rfl, rfl⟩ ss
def cfT : List Tm → Int → Int → Rat
 | [], _, _ => 0
 | t :: l, i, j => if ((t.i : Nat) : Int) = i ∧ ((t.j : Nat) : Int) = j then t.c else cfT l i j
theorem Zs0 (p : List Tm) (i j : Int) (k : Nat) (h : k < p.length) : cfT (p.drop k) i j = if (((p.getD k T0).i : Nat) : Int) = i ∧ (((p.getD k T0).j : Nat) : Int) = j then (p.getD k T0).c else cfT (p.drop (k + 1)) i j := by
 rw [List.drop_eq_getElem_cons h, cfT]; simp [List.getD, h]
theorem Qe0 (p : List Tm) (ad : Option Addr) (c d K : Nat) (hq : Pq d K p) (hd : d ≤ 12) (hK : K ≤ 400000000) (i j : Int) : Vj Tryz.prog 28 [.slice ad p.length c, .int .i64 i, .int .i64 j] [Row ad (cellsOf Zp p)] (Jo (cfT (norm p) i j)) := by
 have hn91 := hq.n91 hd
 refine fn_intro func28 rfl ntmps28 nb ?_
 intro S w0 a hS h
 refine gC h (zS (zz Vd fun b6 => zn (zs (zS (zm rfl (zf [_] rfl call82 (Xk p _ _ d K hq hd hK) ?_)))))); rintro v10 Ψ10 ⟨ad10, c10, rfl, rfl⟩
 refine zp (.builtin [_] rfl (Zk _ _ _)) (zm rfl (zn (zb ?_))); intro a w h
 refine Zf (fun (k : Nat) a w => k ≤ (norm p).length ∧ (cfT (norm p) i j = cfT ((norm p).drop k) i j) ∧ St 30 S w0 [(1, .int .i64 i), (2, .int .i64 j), (6, pB b6), (10, .slice ad10 ((norm p).length) c10), (11, nI ((norm p).length)), (12, nI k)] [(b6, bV (Jo (0)) 44)] [Row ad10 (cellsOf Zp (norm p)), Row ad (cellsOf Zp p)] a w) (fun k => (norm p).length - k) 0 (⟨Nat.zero_le _, rfl, by exact (h).sub sA⟩) ?_; clear h
 rintro k a w ⟨hi_k, hinv_k, h⟩
 refine gC h (zS (zp (.lss rfl rfl) (zn (zs ?_)))); clear h; intro a w h
 refine Zb h rfl (fun hc13 => ?_) (fun hc13 => ?_)
 ·
  skip
  have hlt_k : k < (norm p).length := dT hc13
  obtain ⟨B_ad10, O_ad10, rfl⟩ := h.row_addr (ad := ad10) (M := cellsOf Zp (norm p)) mm (nE 7)
  refine gC h (zk (zs (zb (zS (zp (.indexAddr rfl rfl (Zao _ _ _ _ _ oo)) (zD rfl mm (cells_lt (k := 7) dd (fun _ => rfl) (norm p) k oo) isAgg117 sizeOf117 (Zr (k := 7) (fun _ => rfl) ((fun _ => rfl)) (norm p) T0 k oo) (.inl rfl) ?_))))))
  refine zz Gz fun b8 => zt' rfl rfl Xp uu sizeOf117 rfl nb rfl ?_
  refine zn (zS (zp (.fA rfl Jz) (zd rfl mr isAgg3 sizeOf3 Ke ?_)))
  refine zm rfl (zp (.eql rfl rfl) (zm rfl ?_)); intro a w h
  refine Zg h (fun hc20 h => ?_) (fun hc20 h => ?_)
  focus
   have he1 : ((((norm p).getD k T0).i : Nat) : Int) = i := eq_of_beq hc20
   refine gL h (zq 20 rfl rfl (.fA rfl Jy) ?_); clear h; intro a w h
   refine Ze 20 h rfl rfl (Vi h rfl mr isAgg3 sizeOf3 Vk dd ?_); clear h; intro a h
   refine gL h (zq 20 rfl rfl (.move rfl) (zq 20 rfl rfl (.eql rfl rfl) ?_)); clear h; intro a w h
   refine Zg h (fun hc24 h => ?_) (fun hc24 h => ?_)
   ·
    skip
    have he2 : ((((norm p).getD k T0).j : Nat) : Int) = j := eq_of_beq hc24
    refine gL h (zp (.pickT rfl rfl) (zn ?_)); clear h; intro a w h
    refine cW ?_
    refine Zq h rfl ?_
    refine gC h (zS (zp (.fA rfl Xz) (zd rfl mr isAgg44 sizeOf44 Vh ?_)))
    refine zt' rfl rfl Qi uu sizeOf44 rfl nb rfl ?_; intro a w h
    refine wpList_nil (wp_ret ?_)
    refine Jm h (Zc h rfl (.cell rfl mr isAgg44 sizeOf44 Zh)) ?_
    rw [hinv_k, Zs0 (norm p) i j k hlt_k, if_pos ⟨he1, he2⟩]
   have he2 : ¬ ((((norm p).getD k T0).j : Nat) : Int) = j := fun e => by rw [e] at hc24; simp at hc24
   refine gL h (zp (.pickT rfl rfl) (zn ?_)); clear h; intro a w h
  rotate_left
  focus
   have he1 : ¬ ((((norm p).getD k T0).i : Nat) : Int) = i := fun e => by rw [e] at hc20; simp at hc20
   refine gL h (zo 20 rfl rfl rfl (zo 20 rfl rfl rfl (zo 20 rfl rfl rfl (zo 20 rfl rfl rfl (zp (.pickF rfl rfl) (zn ?_)))))); clear h; intro a w h
  all_goals
   refine cW ?_
   refine Zj h rfl ?_
   refine gC h (zk (zr (zp (.pN (k + 1) (.add rfl rfl)) (zm rfl (zn ?_))))); clear h; intro a w h
   exact ⟨k + 1, ⟨oo, by rw [hinv_k, Zs0 (norm p) i j k hlt_k, if_neg (by first | exact fun h => he1 h.1 | exact fun h => he2 h.2)], ((h.drop sl).factsSub (by simp)).sub sA⟩, oo⟩
 ·
  skip
  have heq_k : (norm p).length = k := dF hc13
  subst heq_k
  refine gC h (ze (zS (zp (.build [] rfl (Zql)) (zt' rfl rfl Qi uu sizeOf44 rfl nb rfl ?_)))); clear h; intro a w h
  refine wpList_nil (wp_ret ?_)
  refine Jm h (Zc h rfl (.cell rfl mr isAgg44 sizeOf44 Zh)) ?_
  rw [List.drop_length] at hinv_k; rw [hinv_k]; rfl
structure Tz where
 i : Int
 j : Int
 c : Rat
abbrev Tz0 : Tz := ⟨0, 0, 0⟩
abbrev Qy (t : Tz) : Value := .agg #[.int .i64 t.i, .int .i64 t.j, .int .u64 (Za6 t.c.num.natAbs), .string (Kt t.c.num.natAbs), .bool (decide (t.c.num < 0)), .int .u64 (Za6 (t.c.den - 1)), .string (Kt (t.c.den - 1))]
def Zj2 (t : Tz) : Int := if t.i < 0 ∨ t.j < 0 then 1 else if t.i > 12 ∨ t.j > 12 - t.i then 9 else 0
def Zx : List Tz → Int
 | [] => 0
 | t :: l => if Zj2 t = 0 then Zx l else Zj2 t
theorem Zi7 (l : List Tz) (k : Nat) (h : k < l.length) : Zx (l.drop k) = if Zj2 (l.getD k Tz0) = 0 then Zx (l.drop (k + 1)) else Zj2 (l.getD k Tz0) := by
 rw [List.drop_eq_getElem_cons h, Zx]; simp [List.getD, h]
theorem Qes (t : Tz) : Ys Tryz.prog 80 [Qy t] (.int .i64 (Zj2 t)) := by
 refine fn_intro func80 rfl ntmps80 nb ?_
 intro S w0 a hS h
 refine gC h (zS (zx rfl fun b1 => za rfl (zn (zs (zb (zS (zp (.fA rfl Jz) (zd rfl mr isAgg3 sizeOf3 Ke ?_))))))))
 refine zp (.lss rfl rfl) (zm rfl ?_); intro a w h
 refine Zg h (fun hc7 h => ?_) (fun hc7 h => ?_)
 focus
  have h1 : t.i < 0 := of_decide_eq_true hc7
  refine gL h (zo 7 rfl rfl rfl (zo 7 rfl rfl rfl (zo 7 rfl rfl rfl (zp (.pickT rfl rfl) (za rfl (zn ?_)))))); clear h; intro a w h
  refine cW ?_
  refine Zq h rfl ?_
  refine gC h (zS (za rfl (zn (zt ?_)))); clear h; intro a w h
 rotate_left
 focus
  have h1 : ¬ t.i < 0 := of_decide_eq_false hc7
  refine gL h (zq 7 rfl rfl (.fA rfl Jy) ?_); clear h; intro a w h
  refine Ze 7 h rfl rfl (Vi h rfl mr isAgg3 sizeOf3 Vk dd ?_); clear h; intro a h
  refine gL h (zq 7 rfl rfl (.lss rfl rfl) (zp (.pickF rfl rfl) ?_)); clear h; intro a w h
  refine Zg h (fun hc11 h => ?_) (fun hc11 h => ?_)
  focus
   have h2 : t.j < 0 := of_decide_eq_true hc11
   refine gL h (za rfl (zn ?_)); clear h; intro a w h
   refine cW ?_
   refine Zq h rfl ?_
   refine gC h (zS (za rfl (zn (zt ?_)))); clear h; intro a w h
  rotate_left
  focus
   have h2 : ¬ t.j < 0 := of_decide_eq_false hc11
   refine gL h (za rfl (zn ?_)); clear h; intro a w h
   refine cW ?_
   refine Zj h rfl ?_
   refine gC h (zS (zp (.fA rfl Jz) (zd rfl mr isAgg3 sizeOf3 Ke ?_)))
   refine zp (.gtr rfl rfl) (zm rfl ?_); intro a w h
   refine Zg h (fun hc16 h => ?_) (fun hc16 h => ?_)
   focus
    have h3 : t.i > 12 := of_decide_eq_true hc16
    refine gL h (zo 16 rfl rfl rfl (zo 16 rfl rfl rfl (zo 16 rfl rfl rfl (zo 16 rfl rfl rfl (zo 16 rfl rfl rfl (zo 16 rfl rfl rfl (zp (.pickT rfl rfl) (za rfl (zn ?_))))))))); clear h; intro a w h
    refine cW ?_
    refine Zq h rfl ?_
    refine gC h (zS (za rfl (zn (zt ?_)))); clear h; intro a w h
   rotate_left
   focus
    have h3 : ¬ t.i > 12 := of_decide_eq_false hc16
    refine gL h (zq 16 rfl rfl (.fA rfl Jy) ?_); clear h; intro a w h
    refine Ze 16 h rfl rfl (Vi h rfl mr isAgg3 sizeOf3 Vk dd ?_); clear h; intro a h
    refine gL h (zq 16 rfl rfl (.fA rfl Jz) ?_); clear h; intro a w h
    refine Ze 16 h rfl rfl (Vi h rfl mr isAgg3 sizeOf3 Ke dd ?_); clear h; intro a h
    refine gL h (zq 16 rfl rfl (.sub rfl rfl) (zq 16 rfl rfl (.gtr rfl rfl) (zp (.pickF rfl rfl) ?_))); clear h; intro a w h
    refine Zg h (fun hc23 h => ?_) (fun hc23 h => ?_)
    focus
     have h4 : t.j > 12 - t.i := of_decide_eq_true hc23
     refine gL h (za rfl (zn ?_)); clear h; intro a w h
     refine cW ?_
     refine Zq h rfl ?_
     refine gC h (zS (za rfl (zn (zt ?_)))); clear h; intro a w h
    rotate_left
    focus
     have h4 : ¬ t.j > 12 - t.i := of_decide_eq_false hc23
     refine gL h (za rfl (zn ?_)); clear h; intro a w h
     refine cW ?_
     refine Zj h rfl ?_
     refine gC h (zk (zS (za rfl (zn (zt ?_))))); clear h; intro a w h
 all_goals
  refine Jm h (Zc h rfl (.tmp rfl)) ?_
  unfold Zj2; first | (rw [if_pos oo]; done) | (rw [if_neg oo, if_pos oo]; done) | (rw [if_neg oo, if_neg oo]; done)
theorem Zib (l : List Tz) (ad : Option Addr) (c : Nat) (hn : l.length ≤ 100000) (hz : Zx l ≠ 0) : Vj Tryz.prog 19 [.slice ad l.length c] [Row ad (cellsOf Qy l)] (.tuple #[.slice none 0 0, .int .i64 (Zx l)]) := by
 refine fn_intro func19 rfl ntmps19 nb ?_
 intro S w0 a hS h
 refine gC h (zS (za rfl (za rfl (zn (zs (zS (zm rfl (zp (.builtin [_] rfl (Zd5 _ _ _)) (zm rfl (zn (zb ?_))))))))))); clear h; intro a w h
 refine Zf (fun (k : Nat) a w => k ≤ l.length ∧ (Zx l = Zx (l.drop k)) ∧ St 21 S w0 [(0, .slice ad l.length c), (7, .slice ad l.length c), (8, nI l.length), (9, nI k)] [] [Row ad (cellsOf Qy l)] a w) (fun k => l.length - k) 0 (⟨Nat.zero_le _, rfl, by exact (h).sub sA⟩) ?_; clear h
 rintro k a w ⟨hi_k, hinv_k, h⟩
 refine gC h (zS (zp (.lss rfl rfl) (zn (zs ?_)))); clear h; intro a w h
 refine Zb h rfl (fun hc10 => ?_) (fun hc10 => ?_)
 ·
  skip
  have hlt_k : k < l.length := dT hc10
  obtain ⟨B_ad, O_ad, rfl⟩ := h.row_addr (ad := ad) (M := cellsOf Qy l) mm (nE 7)
  refine gC h (zk (zs (zb (zS (zp (.indexAddr rfl rfl (Qgi _ _ _ _ _ oo)) (zD rfl mm (cells_lt (k := 7) dd (fun _ => rfl) l k oo) isAgg117 sizeOf117 (Zr (k := 7) (fun _ => rfl) ((fun _ => rfl)) l Tz0 k oo) (.inl rfl) ?_))))))
  refine zz Gz fun b5 => zt' rfl rfl Xp uu sizeOf117 rfl nb rfl ?_
  refine zn (zS (zd rfl mr isAgg117 sizeOf117 Vu ?_))
  refine zv [_] rfl call80 (Qes (l.getD k Tz0)) (za rfl (zn (zS (zm rfl (zp (.neq rfl rfl) (zn ?_)))))); intro a w h
  refine cW ?_
  refine Zb h rfl (fun hc16 => ?_) (fun hc16 => ?_)
  ·
   skip
   have hb : Zj2 (l.getD k Tz0) ≠ 0 := by simpa using hc16
   refine gC h (zS (zm rfl (za rfl (za rfl (zn (zt ?_)))))); clear h; intro a w h
   refine Jm h (Qv h rfl (.tmp rfl) (.tmp rfl)) ?_
   rw [hinv_k, Zi7 l k hlt_k, if_neg hb]
  ·
   skip
   have hb : Zj2 (l.getD k Tz0) = 0 := by simpa using hc16
   refine gC h (zk (zr (zp (.pN (k + 1) (.add rfl rfl)) (zm rfl (zn ?_))))); clear h; intro a w h
   exact ⟨k + 1, ⟨oo, by rw [hinv_k, Zi7 l k hlt_k, if_pos hb], ((h.drop sl).factsSub (by simp)).sub sA⟩, oo⟩
 ·
  skip
  have heq_k : l.length = k := dF hc10
  subst heq_k
  rw [List.drop_length] at hinv_k
  exact absurd hinv_k hz
theorem Zog (p q : List Tm) (ada adb : Option Addr) (ca cb da db Ka Kb : Nat) (ha : Pq da Ka p) (hb : Pq db Kb q) (hda : da ≤ 12) (hdb : db ≤ 12) (hK : Ka ≤ 2000000) (hK2 : Kb ≤ 2000000) (h1 : norm p ≠ []) (h2 : norm q ≠ []) (h3 : Gl (norm p) + Gl (norm q) > 12) : Vj Tryz.prog 48 [.slice ada p.length ca, .slice adb q.length cb] [Row ada (cellsOf Zp p), Row adb (cellsOf Zp q)] (.tuple #[.slice none 0 0, .int .i64 9]) := by
 have hna := ha.n91 hda
 have hnb := hb.n91 hdb
 have hl1 := List.length_pos_iff.2 h1
 have hl2 := List.length_pos_iff.2 h2
 have hdA : Gl (norm (norm p)) ≤ (da : Int) := Gx (Qm (Qm ha.deg))
 have hdB : Gl (norm (norm q)) ≤ (db : Int) := Gx (Qm (Qm hb.deg))
 have hgA := Zcd (norm (norm p))
 have hgB := Zcd (norm (norm q))
 have hs : Gl (norm (norm p)) + Gl (norm (norm q)) > 12 := by rw [Zco, Zco]; exact h3
 refine fn_intro func48 rfl ntmps48 nb ?_
 intro S w0 a hS h
 refine gC h (zS (za rfl (za rfl (zn (zS (zm rfl (zf [_] rfl call82 (Xk p _ _ da Ka ha hda oo) ?_))))))); rintro v14 Ψ14 ⟨ad14, c14, rfl, rfl⟩
 refine zm rfl (zf [_] rfl call82 (Xk q _ _ db Kb hb hdb oo) ?_); rintro v16 Ψ16 ⟨ad16, c16, rfl, rfl⟩
 refine za rfl (za rfl (zn (zs (zS (zm rfl (zp (.builtin [_] rfl (Zk _ _ _)) (zp (.gtr rfl rfl) ?_))))))); intro a w h
 refine Zg h (fun hc19 h => ?_) (fun hc19 h => (by exfalso; have := of_decide_eq_false hc19; omega))
 refine gL h (zm rfl (zq 20 rfl rfl (.move rfl) (zq 20 rfl rfl (.builtin [_] rfl (Zk _ _ _)) (zq 20 rfl rfl (.gtr rfl rfl) ?_)))); clear h; intro a w h
 refine Zg h (fun hc23 h => ?_) (fun hc23 h => (by exfalso; have := of_decide_eq_false hc23; omega))
 refine gL h (zp (.pickT rfl rfl) (zm rfl (zq 25 rfl rfl (.move rfl) ?_))); clear h; intro a w h
 refine Ze 25 h rfl rfl (Qb h (vs := [_]) rfl call23 (Ya (norm p) _ _ da Ka (ha.nrm hda) hda oo) ss dd ?_); clear h; intro a w h
 refine gL h (zq 25 rfl rfl (.move rfl) ?_); clear h; intro a w h
 refine Ze 25 h rfl rfl (Qb h (vs := [_]) rfl call23 (Ya (norm q) _ _ db Kb (hb.nrm hdb) hdb oo) ss dd ?_); clear h; intro a w h
 refine gL h (zq 25 rfl rfl (.add rfl rfl) (zq 25 rfl rfl (.gtr rfl rfl) ?_)); clear h; intro a w h
 refine Zg h (fun hc31 h => ?_) (fun hc31 h => (by exfalso; have := of_decide_eq_false hc31; omega))
 refine gL h (zp (.pickT rfl rfl) (zn ?_)); clear h; intro a w h
 refine cW ?_
 refine Zq h rfl ?_
 refine gC h (zS (za rfl (za rfl (zn (zt ?_))))); clear h; intro a w h
 refine Jm h (Qv h rfl (.tmp rfl) (.tmp rfl)) ?_
 rfl
end
section
theorem Qz (a : Option Addr) (n c : Nat) (w : World) (ty : TypeId) (cs : Array Bool) : (Go.builtin .len #[22] ty cs #[.slice a n c]).run Tryz.prog w = .ok (.value (.int .i64 n)) w := by
 simp [go_sem]
theorem Zfe (b off n c j : Nat) (h : j < n) (w : World) : (Instr.indexAt 22 (.slice (some ⟨b, off, none⟩) n c) (.int .i64 (j : Int))).run Tryz.prog w = .ok (.pointer (some ⟨b, off + j * 4, none⟩)) w := by
 simpa using Xx runUnderlying22 sizeOf78 b off n c j h w
theorem Zjc {b off : Nat} (w : World) : (Instr.fieldAt 78 (.pointer (some ⟨b, off, none⟩)) 0).run Tryz.prog w = .ok (.pointer (some ⟨b, off + 0, none⟩)) w := by
 simp [go_sem]
theorem Zsx (x : Int) (w : World) : (Go.convert 101 3 (.int .u64 x)).run Tryz.prog w = .ok (.int .i64 (IntKind.i64.wrap x)) w := by
 simp [go_sem]
theorem Zjb {b off : Nat} (w : World) : (Instr.fieldAt 78 (.pointer (some ⟨b, off, none⟩)) 1).run Tryz.prog w = .ok (.pointer (some ⟨b, off + 1, none⟩)) w := by
 simp [go_sem]
theorem Zja {b off : Nat} (w : World) : (Instr.fieldAt 78 (.pointer (some ⟨b, off, none⟩)) 2).run Tryz.prog w = .ok (.pointer (some ⟨b, off + 2, none⟩)) w := by
 simp [go_sem]
theorem Xt (x0 : Int) (x1 : Int) (x2_0 : Value) (x2_1 : Value) (w : World) : (Instr.build 78 [(0, .int .i64 x0), (1, .int .i64 x1), (2, .agg #[x2_0, x2_1])].toArray).run Tryz.prog w = .ok (.agg #[.int .i64 x0, .int .i64 x1, x2_0, x2_1]) w := by simp [go_sem]
theorem Zcy (x0_0 : Value) (x0_1 : Value) (x0_2 : Value) (x0_3 : Value) (w : World) : (Instr.buildSlice 22 1 [(0, .agg #[x0_0, x0_1, x0_2, x0_3])].toArray).run Tryz.prog w = .ok (.slice (some ⟨w.heap.size, 0, none⟩) 1 1) (w.alloc (.cells #[x0_0, x0_1, x0_2, x0_3] 78 (0, 0))) := by
 simp [go_sem]
variable {α : Type} {enc : α → Value} {k : Nat}
theorem Za3 (hk : ∀ x, (enc x).cells.size = k) (l : List α) (j o : Nat) (h : j < l.length) (ho : o < k) : j * k + o < (cellsOf enc l).length := by
 rw [cellsOf_length hk]
 have := Nat.mul_le_mul_right k (show j + 1 ≤ l.length from h)
 rw [Nat.add_mul] at this; omega
theorem Xw (hk : ∀ x, (enc x).cells.size = k) (l : List α) (d : α) (j : Nat) (h : j < l.length) (agg : Bool) (s o : Nat) (v : Value) (hos : o + s ≤ k) (h0 : 0 < s)
  (hv : Qk agg s (enc (l.getD j d)).cells o = some v) : Qk agg s (cellsOf enc l).toArray (j * k + o) = some v := by
 have hg : l.getD j d = l[j] := by simp [List.getD, h]
 rw [hg] at hv
 have hle : j * k + k ≤ (cellsOf enc l).length := by
  rw [cellsOf_length hk]
  have := Nat.mul_le_mul_right k (show j + 1 ≤ l.length from h)
  rw [Nat.add_mul] at this; omega
 have hsz := hk l[j]
 cases agg with
 | false =>
  simp only [Qk, Bool.false_eq_true, if_false] at hv ⊢
  have := Zdj hk l j o h oo
  rw [← hv]
  simpa using this
 | true =>
  simp only [Qk, if_true] at hv ⊢
  rw [if_pos oo] at hv
  rw [if_pos (by show _ ≤ (cellsOf enc l).length; omega), ← Option.some.inj hv]
  congr 2
  apply Array.ext
  · simp [hsz]; omega
  ·
   intro i h1 h2
   have hi : i < s := by simp [hsz] at h2; omega
   have := Zdj hk l j (o + i) h oo
   rw [List.getElem?_eq_getElem oo] at this
   simp at this ⊢
   rw [Array.getElem?_eq_getElem oo] at this
   have h3 := Option.some.inj this
   rw [← h3]
   congr 1; omega
structure Ti where
 i : Int
 j : Int
 n : Int
 d : Int
abbrev Ti0 : Ti := ⟨0, 0, 0, 0⟩
abbrev Jq (t : Ti) : Value := .agg #[.int .i64 t.i, .int .i64 t.j, .int .i64 t.n, .int .u32 t.d]
def OkT (t : Ti) : Prop := (-9223372036854775808 ≤ t.i ∧ t.i ≤ 9223372036854775807) ∧ (-9223372036854775808 ≤ t.j ∧ t.j ≤ 9223372036854775807) ∧ OkQ (t.n, t.d)
def uN (x : Int) : Nat := (x % 18446744073709551616).toNat
theorem Zvq (x : Int) : IntKind.u64.wrap x = ((uN x : Nat) : Int) := by rw [Zam]; unfold uN; omega
def brI (d : Nat) (t : Ti) : Nat := uN t.i % (d + 1)
def brJ (d : Nat) (t : Ti) : Nat := uN t.j % (d - brI d t + 1)
theorem Zs3 (d : Nat) (t : Ti) : brI d t ≤ d := Nat.le_of_lt_succ (Nat.mod_lt _ (Nat.succ_pos d))
theorem Zs2 (d : Nat) (t : Ti) : brI d t + brJ d t ≤ d := by
 have h1 := Zs3 d t
 have h2 : brJ d t < d - brI d t + 1 := Nat.mod_lt _ (Nat.succ_pos _)
 omega
abbrev Zbs (d : Nat) (t : Ti) : Value := .agg #[.int .i64 ((brI d t : Nat) : Int), .int .i64 ((brJ d t : Nat) : Int), .int .i64 t.n, .int .u32 t.d]
def tmB (d : Nat) (t : Ti) : Tm := ⟨brI d t, brJ d t, qv t.n t.d⟩
def Yl (d : Nat) (l : List Ti) : List Tm := l.map (tmB d)
theorem Zba (l : List Ti) {j : Nat} (h : j < l.length) : l.take (j + 1) = l.take j ++ [l.getD j Ti0] := by
 rw [List.take_add_one, List.getElem?_eq_getElem h]; simp [List.getD, h]
theorem Zld (d : Nat) (l : List Ti) : DL d (Yl d l) := fun t ht => by
 obtain ⟨s, _, rfl⟩ := List.mem_map.1 ht
 exact Zs2 d s
theorem Zpt {d : Nat} {l : List Ti} (h : ∀ t ∈ l, OkT t) : KL 4 (Yl d l) := fun t ht => by
 obtain ⟨s, hs, rfl⟩ := List.mem_map.1 ht
 exact Jn (h s hs).2.2
theorem Zd2 {d m : Nat} {l : List Ti} (h : ∀ t ∈ l, OkT t) (hm : l.length ≤ m) (hm2 : m ≤ 20) (hd : d ≤ 12) : Pq d (m * 5 + 1) (norm (Yl d l)) :=
 (Pq.raw (Zld d l) (Zpt h) (by unfold Yl; rw [List.length_map]; exact hm) oo).nrm hd
abbrev encPQ (q : (Int × Int) × (Int × Int)) : Value := .agg #[.int .i64 q.1.1, .int .u32 q.1.2, .int .i64 q.2.1, .int .u32 q.2.2]
def ptv (q : (Int × Int) × (Int × Int)) : Pt := (qvp q.1, qvp q.2)
def OkP (q : (Int × Int) × (Int × Int)) : Prop := OkQ q.1 ∧ OkQ q.2
theorem Zop (l : List Ti) (ad : Option Addr) (c d : Nat) (hd : d ≤ 12) (hn : l.length ≤ 1000) : Ctr Tryz.prog 8 [.slice ad l.length c, .int .i64 ((d : Nat) : Int)] [Row ad (cellsOf Jq l)] (fun v Ψ => ∃ ad' c', v = .slice ad' l.length c' ∧ Ψ = [Row ad' (cellsOf (Zbs d) l)]) := by
 refine fn_intro func8 rfl ntmps8 nb ?_
 intro S w0 a hS h
 refine gC h (zS (za rfl (zn (zS (za rfl (zn (zs (zS (za rfl (zn (zb ?_))))))))))); clear h; intro a w h
 refine Zf (fun (k : Nat) a w => k ≤ l.length ∧ ∃ (ad1 : Option Addr) (c1 : Nat) (o1 : List (Nat × Obj)), (GrowO 4 78 (.slice ad1 (l.take k).length c1) (l.take k).length (cellsOf (Zbs d) (l.take k)) o1) ∧ St 49 S w0 [(0, .slice ad l.length c), (1, nI d), (4, .slice none 0 0), (5, (.slice ad1 (l.take k).length c1)), (6, nI k)] (o1 ++ []) [Row ad (cellsOf Jq l)] a w) (fun k => l.length - k) 0 (⟨Nat.zero_le _, none, 0, [], GrowO.nil _ _, by exact (h).sub sA⟩) ?_; clear h
 rintro k a w ⟨hi_k, ad1, c1, o1, hG1, h⟩
 refine gC h (zs (zS (zm rfl (zm rfl (zp (.builtin [_] rfl (Qz _ _ _)) (zp (.lss rfl rfl) (zn ?_))))))); clear h; intro a w h
 refine cW ?_
 refine Zb h rfl (fun hc11 => ?_) (fun hc11 => ?_)
 ·
  skip
  have hlt_k : k < l.length := dT hc11
  obtain ⟨B_ad, O_ad, rfl⟩ := h.row_addr (ad := ad) (M := cellsOf Jq l) mm (nE 4)
  have hb1 := Zs3 d (l.getD k Ti0)
  have hb2 := Zs2 d (l.getD k Ti0)
  have hlk : (l.take k).length = k := by rw [List.length_take]; omega
  refine gC h (zk (zs (zb (zS (zm rfl (zm rfl (zp (.indexAddr rfl rfl (Zfe _ _ _ _ _ oo)) (zp (Pure1.cast (v' := .pointer (some ⟨B_ad, O_ad + (k * 4 + 0), none⟩)) (.fA rfl Zjc) (by rw [Nat.add_assoc])) (zD rfl mm (Za3 (k := 4) (enc := Jq) (fun _ => rfl) l k 0 oo dd) isAgg3 sizeOf3 (Xw (k := 4) (enc := Jq) (fun _ => rfl) l Ti0 k oo false 1 0 _ dd dd rfl) (.inr rfl) ?_)))))))))
  refine zp (Pure1.cast (v' := .int .u64 ((uN (l.getD k Ti0).i : Nat) : Int)) (.convert rfl (Zex _)) (by rw [Zvq])) (zm rfl (zp (.pN (d + 1) (.add rfl rfl)) (zp (Pure1.cast (v' := .int .u64 ((d + 1 : Nat) : Int)) (.convert rfl (Zex _)) (by rw [wrap_u64 _ oo oo])) (zp (Pure1.cast (v' := .int .u64 ((brI d (l.getD k Ti0) : Nat) : Int)) (.binOp rfl rfl (fun _ => Vg _ _ _ _ _ oo)) (by rw [Yg]; rfl)) (zp (Pure1.cast (v' := .int .i64 ((brI d (l.getD k Ti0) : Nat) : Int)) (.convert rfl (Zsx _)) (by rw [wrap_i64 _ oo oo])) (za rfl (zn (yD Za [0, 1, 2, 3, 4, 5, 6, 7, 8, 9, 10, 11, 12, 13, 14, 15, 16, 17, 18, 19, 20, 21, 22, 23] (Zd kk) (ym rfl rfl (ym rfl rfl (ym rfl rfl (ym rfl rfl (yp rfl (.indexAddr rfl rfl (Zfe _ _ _ _ _ oo)) (yp rfl (Pure1.cast (v' := .pointer (some ⟨B_ad, O_ad + (k * 4 + 1), none⟩)) (.fA rfl Zjb) (by rw [Nat.add_assoc])) ?_))))))))))))))
  refine Zm rfl kk rfl mm (Za3 (k := 4) (enc := Jq) (fun _ => rfl) l k 1 oo dd) isAgg3 sizeOf3 (Xw (k := 4) (enc := Jq) (fun _ => rfl) l Ti0 k oo false 1 1 _ dd dd rfl) (.inr rfl) dd ?_
  refine yp rfl (Pure1.cast (v' := .int .u64 ((uN (l.getD k Ti0).j : Nat) : Int)) (.convert rfl (Zex _)) (by rw [Zvq])) (ym rfl rfl (ym rfl rfl (yp rfl (.pO (d - (brI d (l.getD k Ti0))) (.sub rfl rfl)) (yp rfl (.pN ((d - (brI d (l.getD k Ti0))) + 1) (.add rfl rfl)) (yp rfl (Pure1.cast (v' := .int .u64 ((d - brI d (l.getD k Ti0) + 1 : Nat) : Int)) (.convert rfl (Zex _)) (by rw [wrap_u64 _ oo oo])) (yp rfl (Pure1.cast (v' := .int .u64 ((brJ d (l.getD k Ti0) : Nat) : Int)) (.binOp rfl rfl (fun _ => Vg _ _ _ _ _ oo)) (by rw [Yg]; rfl)) (yp rfl (Pure1.cast (v' := .int .i64 ((brJ d (l.getD k Ti0) : Nat) : Int)) (.convert rfl (Zsx _)) (by rw [wrap_i64 _ oo oo])) (ym rfl rfl (ym rfl rfl (yp rfl (.indexAddr rfl rfl (Zfe _ _ _ _ _ oo)) (yp rfl (Pure1.cast (v' := .pointer (some ⟨B_ad, O_ad + (k * 4 + 2), none⟩)) (.fA rfl Zja) (by rw [Nat.add_assoc])) ?_)))))))))))
  refine Zm rfl kk rfl mm (Za3 (k := 4) (enc := Jq) (fun _ => rfl) l k 2 oo dd) isAgg25 sizeOf25 (Xw (k := 4) (enc := Jq) (fun _ => rfl) l Ti0 k oo true 2 2 _ dd dd rfl) (.inl rfl) dd ?_
  refine yp rfl (.build [(_, _), (_, _), (_, _)] rfl (Xt _ _ _ _)) (yB rfl [(_, _)] rfl (Zcy _ _ _ _) fun b46 => ?_)
  refine Gg (σr := []) rfl kk rfl rfl (List.Perm.trans (List.Perm.refl _) (List.Perm.cons _ (List.Perm.refl _))) hG1 runUnderlying22 runUnderlying22 typeInfo78 sizeOf78 zeroValue78 rfl dd dd rfl rfl dd (by show 32 * (2 * ((l.take k).length + 1) + 192) ≤ 281474976710656; omega) dd ?_
  intro v47 o47 hG47
  obtain ⟨ad47, c47, rfl⟩ := hG47.is
  have hLn47 : (l.take k).length + 1 = ((l.take k) ++ [l.getD k Ti0]).length := lA
  rw [hLn47]; rw [hLn47] at hG47
  replace hG47 : GrowO 4 78 (.slice ad47 ((l.take k) ++ [l.getD k Ti0]).length c47) ((l.take k) ++ [l.getD k Ti0]).length (cellsOf (Zbs d) ((l.take k) ++ [l.getD k Ti0])) o47 := by rw [Qd, Xc]; exact hG47
  refine yp rfl (.assign rfl) (yn (zr (zm rfl (zp (.pN (k + 1) (.add rfl rfl)) (za rfl (zn ?_)))))); intro a w h
  rw [← Zba l hlt_k] at h hG47
  exact ⟨k + 1, ⟨oo, ad47, c47, o47, hG47, by exact (h.factsSub (by simp)).sub sA⟩, oo⟩
 ·
  skip
  have heq_k : l.length = k := dF hc11
  subst heq_k
  rw [List.take_length] at h hG1
  replace h := St.shareO' h hS hG1
  refine gC h (ze (zS (zm rfl (za rfl (zn (zt ?_)))))); clear h; intro a w h
  refine Qg (Ψ := [Row _ (cellsOf (Zbs d) l)]) h (Zc h rfl (.tmp rfl)) ⟨_, _, rfl, rfl⟩ ss
theorem Qew (l : List Ti) (ad : Option Addr) (c d : Nat) (hok : ∀ t ∈ l, OkT t) (hn : l.length ≤ 1000) : Ctr Tryz.prog 12 [.slice ad l.length c] [Row ad (cellsOf (Zbs d) l)] (fun v Ψ => ∃ ad' c', v = .slice ad' (Yl d l).length c' ∧ Ψ = [Row ad' (cellsOf Zp (Yl d l))]) := by
 refine fn_intro func12 rfl ntmps12 nb ?_
 intro S w0 a hS h
 refine gC h (zS (za rfl (zn (zS (za rfl (zn (zs (zS (za rfl (zn (zb ?_))))))))))); clear h; intro a w h
 refine Zf (fun (k : Nat) a w => k ≤ l.length ∧ ∃ (ad1 : Option Addr) (c1 : Nat) (o1 : List (Nat × Obj)), (GrowO 7 117 (.slice ad1 (Yl d (l.take k)).length c1) (Yl d (l.take k)).length (cellsOf Zp (Yl d (l.take k))) o1) ∧ St 32 S w0 [(0, .slice ad l.length c), (2, .slice none 0 0), (3, (.slice ad1 (Yl d (l.take k)).length c1)), (4, nI k)] (o1 ++ []) [Row ad (cellsOf (Zbs d) l)] a w) (fun k => l.length - k) 0 (⟨Nat.zero_le _, none, 0, [], GrowO.nil _ _, by exact (h).sub sA⟩) ?_; clear h
 rintro k a w ⟨hi_k, ad1, c1, o1, hG1, h⟩
 refine gC h (zs (zS (zm rfl (zm rfl (zp (.builtin [_] rfl (Qz _ _ _)) (zp (.lss rfl rfl) (zn ?_))))))); clear h; intro a w h
 refine cW ?_
 refine Zb h rfl (fun hc8 => ?_) (fun hc8 => ?_)
 ·
  skip
  have hlt_k : k < l.length := dT hc8
  obtain ⟨B_ad, O_ad, rfl⟩ := h.row_addr (ad := ad) (M := cellsOf (Zbs d) l) mm (nE 4)
  obtain ⟨_, _, hqa, hqb, hqc, hqd⟩ := hok _ (getD_mem l (d := Ti0) hlt_k)
  have hlk : (Yl d (l.take k)).length = k := by unfold Yl; rw [List.length_map, List.length_take]; omega
  have hst : Yl d (l.take k) ++ [tmB d (l.getD k Ti0)] = Yl d (l.take (k + 1)) := by unfold Yl; rw [Zba l hlt_k, List.map_append]; rfl
  refine gC h (zk (zs (zb (yD Za [0, 1, 2, 3, 4, 5, 6, 7, 8, 9, 10, 11, 12, 13, 14, 15, 16, 17, 18, 19, 20] (Zd kk) (ym rfl rfl (ym rfl rfl (ym rfl rfl (yp rfl (.indexAddr rfl rfl (Zfe _ _ _ _ _ oo)) (yp rfl (Pure1.cast (v' := .pointer (some ⟨B_ad, O_ad + (k * 4 + 0), none⟩)) (.fA rfl Zjc) (by rw [Nat.add_assoc])) ?_))))))))); clear h
  refine Zm rfl kk rfl mm (Za3 (k := 4) (enc := (Zbs d)) (fun _ => rfl) l k 0 oo dd) isAgg3 sizeOf3 (Xw (k := 4) (enc := (Zbs d)) (fun _ => rfl) l Ti0 k oo false 1 0 _ dd dd rfl) (.inr rfl) dd ?_
  refine ym rfl rfl (ym rfl rfl (yp rfl (.indexAddr rfl rfl (Zfe _ _ _ _ _ oo)) (yp rfl (Pure1.cast (v' := .pointer (some ⟨B_ad, O_ad + (k * 4 + 1), none⟩)) (.fA rfl Zjb) (by rw [Nat.add_assoc])) ?_)))
  refine Zm rfl kk rfl mm (Za3 (k := 4) (enc := (Zbs d)) (fun _ => rfl) l k 1 oo dd) isAgg3 sizeOf3 (Xw (k := 4) (enc := (Zbs d)) (fun _ => rfl) l Ti0 k oo false 1 1 _ dd dd rfl) (.inr rfl) dd ?_
  refine ym rfl rfl (ym rfl rfl (yp rfl (.indexAddr rfl rfl (Zfe _ _ _ _ _ oo)) (yp rfl (Pure1.cast (v' := .pointer (some ⟨B_ad, O_ad + (k * 4 + 2), none⟩)) (.fA rfl Zja) (by rw [Nat.add_assoc])) ?_)))
  refine Zm rfl kk rfl mm (Za3 (k := 4) (enc := (Zbs d)) (fun _ => rfl) l k 2 oo dd) isAgg25 sizeOf25 (Xw (k := 4) (enc := (Zbs d)) (fun _ => rfl) l Ti0 k oo true 2 2 _ dd dd rfl) (.inl rfl) dd ?_
  refine yv [_] rfl rfl call62 (Zdr ((l.getD k Ti0).n) ((l.getD k Ti0).d) oo oo oo oo) ?_
  have hl27 := Ju ((l.getD k Ti0).n) ((l.getD k Ti0).d) oo oo oo oo
  refine yp rfl (.build [(_, _), (_, _), (_, _)] rfl (Vc _ _ _ _ _ _ _)) (yB rfl [(_, _)] rfl (Zef _ _ _ _ _ _ _) fun b29 => ?_)
  refine Gg (σr := []) rfl kk rfl rfl (List.Perm.trans (List.Perm.refl _) (List.Perm.cons _ (List.Perm.refl _))) hG1 runUnderlying47 runUnderlying47 typeInfo117 sizeOf117 Gz rfl dd dd rfl rfl dd (by show 72 * (2 * ((Yl d (l.take k)).length + 1) + 192) ≤ 281474976710656; omega) dd ?_
  intro v30 o30 hG30
  obtain ⟨ad30, c30, rfl⟩ := hG30.is
  have hLn30 : (Yl d (l.take k)).length + 1 = ((Yl d (l.take k)) ++ [(⟨brI d (l.getD k Ti0), brJ d (l.getD k Ti0), qv ((l.getD k Ti0).n) ((l.getD k Ti0).d)⟩ : Tm)]).length := lA
  rw [hLn30]; rw [hLn30] at hG30
  replace hG30 : GrowO 7 117 (.slice ad30 ((Yl d (l.take k)) ++ [(⟨brI d (l.getD k Ti0), brJ d (l.getD k Ti0), qv ((l.getD k Ti0).n) ((l.getD k Ti0).d)⟩ : Tm)]).length c30) ((Yl d (l.take k)) ++ [(⟨brI d (l.getD k Ti0), brJ d (l.getD k Ti0), qv ((l.getD k Ti0).n) ((l.getD k Ti0).d)⟩ : Tm)]).length (cellsOf Zp ((Yl d (l.take k)) ++ [(⟨brI d (l.getD k Ti0), brJ d (l.getD k Ti0), qv ((l.getD k Ti0).n) ((l.getD k Ti0).d)⟩ : Tm)])) o30 := by rw [Qd, Xc]; exact hG30
  refine yp rfl (.assign rfl) (yn (zr (zm rfl (zp (.pN (k + 1) (.add rfl rfl)) (za rfl (zn ?_)))))); intro a w h
  rw [show (Yl d (l.take k) ++ [(⟨brI d (l.getD k Ti0), brJ d (l.getD k Ti0), qv (l.getD k Ti0).n (l.getD k Ti0).d⟩ : Tm)]) = Yl d (l.take (k + 1)) from hst] at h hG30
  exact ⟨k + 1, ⟨oo, ad30, c30, o30, hG30, by exact (h.factsSub (by simp)).sub sA⟩, oo⟩
 ·
  skip
  have heq_k : l.length = k := dF hc8
  subst heq_k
  rw [List.take_length] at h hG1
  replace h := St.shareO' h hS hG1
  refine gC h (ze (zS (zm rfl (za rfl (zn (zt ?_)))))); clear h; intro a w h
  refine Qg (Ψ := [Row _ (cellsOf Zp (Yl d l))]) h (Zc h rfl (.tmp rfl)) ⟨_, _, rfl, rfl⟩ ss
theorem Zhm (l : List Ti) (ad : Option Addr) (c d m : Nat) (hok : ∀ t ∈ l, OkT t) (hd : d ≤ 12) (hn : l.length ≤ 1000) : Ctr Tryz.prog 96 [.slice ad l.length c, .int .i64 ((d : Nat) : Int)] [Row ad (cellsOf Jq l)] (fun v Ψ => ∃ ad' c', v = .slice ad' (norm (Yl d l)).length c' ∧ Ψ = [Row ad' (cellsOf Zp (norm (Yl d l)))]) := by
 refine fn_intro func96 rfl ntmps96 nb ?_
 intro S w0 a hS h
 refine gC h (zS (za rfl (zn (zS (zm rfl (zm rfl (zf [_, _] rfl call8 (Zop l _ _ d hd oo) ?_))))))); rintro v10 Ψ10 ⟨ad10, c10, rfl, rfl⟩
 refine zf [_] rfl call12 (Qew l _ _ d hok oo) ?_; rintro v11 Ψ11 ⟨ad11, c11, rfl, rfl⟩
 refine zf [_] rfl call19 (Ztf (Yl d l) _ _ 4 ((Zld d l).mono hd) (Zpt hok) (by unfold Yl; rw [List.length_map]; omega) (by unfold Yl; rw [List.length_map]; omega)) ?_; rintro v12 Ψ12 ⟨ad12, c12, rfl, rfl⟩
 refine zm rfl (zp (.eX rfl) (zp (.eX rfl) (za rfl (za rfl (zn (zS (zm rfl (za rfl (zn (zt ?_)))))))))); intro a w h
 refine Qg (Ψ := [Row _ (cellsOf Zp (norm (Yl d l)))]) h (Zc h rfl (.tmp rfl)) ⟨_, _, rfl, rfl⟩ ss
end
end Go.Proofs.YtddhlkfpdjmplaaGreatDoor
