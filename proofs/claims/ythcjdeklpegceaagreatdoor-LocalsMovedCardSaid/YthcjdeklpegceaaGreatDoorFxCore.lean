/- A small framework for stepping through the code: the state at a point of a function's body is told by three lists
   (the temporaries that are known, the function's own blocks, the facts that hold and stay). By an AI agent. -/
import Derived.Tactics
import Derived.Tactics2
import Derived.WalkKit
import Derived.Below
import Derived.Orders
import Derived.KernelRfl
set_option linter.unusedVariables false
set_option linter.unusedSimpArgs false
set_option linter.unusedSectionVars false
namespace Go.Fx
open Go Go.RowKit
theorem oo {p : Prop} (h : p := by omega) : p := h
theorem dd {p : Prop} (h : p := by decide) : p := h
theorem ss {p : Prop} (h : p := by simp) : p := h
theorem kk {p : Prop} (h : p := by kernel_rfl) : p := h
theorem kD {p : Prop} (h : p := by decide +kernel) : p := h
variable {ty : TypeId} {pos : String} {aft : Array Edge}
def look : List (Nat × Value) → Nat → Option Value
 | [], _ => none
 | (t, v) :: L, u => bif Nat.beq t u then some v else look L u
def ev (L : List (Nat × Value)) : Operand → Option Value
 | .tmp t => look L t
 | .const v => some v
 | .global g => some (.pointer (some ⟨g, 0, none⟩))
 | .func f => some (.func (.func f) #[] #[])
structure Qf where
 p : (Nat → Prop) → World → Prop
 st : ∀ X X' w w', p X w → (∀ b, b < w.heap.size → ¬ X b → w'.heap[b]? = w.heap[b]?) → w.heap.size ≤ w'.heap.size →
  (∀ b, X' b → X b ∨ w.heap.size ≤ b) → p X' w'
structure St (n : Nat) (S : Nat → Prop) (w0 : World) (L : List (Nat × Value)) (σ : List (Nat × Obj)) (Φ : List Qf) (a : Act) (w : World) : Prop where
 size : a.tmps.size = n
 defers : a.defers = []
 val : ∀ t v, look L t = some v → a.tmps.getD t undef = v
 ext : Below w0.heap.size w0 w
 own : ∀ p ∈ σ, w.heap[p.1]? = some p.2
 new : ∀ p ∈ σ, w0.heap.size ≤ p.1
 nd : σ.Pairwise (fun p q => p.1 ≠ q.1)
 facts : ∃ X : Nat → Prop, (∀ b, S b → X b) ∧ (∀ p ∈ σ, X p.1) ∧ (∀ b, X b → b < w.heap.size) ∧ ∀ R ∈ Φ, R.p X w
section
variable {n : Nat} {S : Nat → Prop} {w0 : World} {L : List (Nat × Value)} {σ : List (Nat × Obj)} {Φ : List Qf} {a : Act} {w : World}
theorem St.ev (h : St n S w0 L σ Φ a w) {x : Operand} {v : Value} (hx : ev L x = some v) : a.eval x = v := by
 cases x with
 | tmp t => exact h.val t v hx
 | const u => simp [Fx.ev] at hx; exact hx
 | global g => simp [Fx.ev] at hx; simp [Act.eval, hx]
 | func f => simp [Fx.ev] at hx; simp [Act.eval, hx]
theorem Zq0 (ts : Array Value) (d t : Nat) (v : Value) (hd : d < ts.size) :
  (ts.setIfInBounds d v).getD t undef = if d = t then v else ts.getD t undef := by
 by_cases h : d = t
 · subst h; simp [hd]
 · simp [h, Array.getElem?_setIfInBounds_ne h]
theorem St.put (h : St n S w0 L σ Φ a w) {d : Nat} (hd : d < n) (v : Value) : St n S w0 ((d, v) :: L) σ Φ (a.put (some d) v) w where
 size := by simp [Act.put, h.size]
 defers := h.defers
 val := fun t u ht => by
  simp only [look] at ht
  rw [Act.put, Zq0 _ _ _ _ (by rw [h.size]; exact hd)]
  cases hb : Nat.beq d t with
  | true => rw [hb] at ht; simp at ht; rw [if_pos (Nat.eq_of_beq_eq_true hb)]; exact ht
  | false => rw [hb] at ht; simp at ht; rw [if_neg (Nat.ne_of_beq_eq_false hb)]; exact h.val t u ht
 ext := h.ext
 own := h.own
 new := h.new
 nd := h.nd
 facts := h.facts
theorem St.drew (h : St n S w0 L σ Φ a w) : St n S w0 L σ Φ a w.drew :=
 ⟨h.size, h.defers, h.val, h.ext.drew, h.own, h.new, h.nd, by
  obtain ⟨X, h1, h2, h3, h4⟩ := h.facts
  exact ⟨X, h1, h2, h3, fun R hR => R.st X X w w.drew (h4 R hR) (fun _ _ _ => rfl) (Nat.le_refl _) (fun b hb => .inl hb)⟩⟩
theorem St.sub (h : St n S w0 L σ Φ a w) {L' : List (Nat × Value)} (hs : ∀ t v, look L' t = some v → look L t = some v) : St n S w0 L' σ Φ a w :=
 { h with val := fun t v ht => h.val t v (hs t v ht) }
theorem St.own_lt (h : St n S w0 L σ Φ a w) {b : Nat} {o : Obj} (hb : (b, o) ∈ σ) : b < w.heap.size := by
 have := h.own _ hb
 rcases Nat.lt_or_ge b w.heap.size with h' | h'
 · exact h'
 · simp [Array.getElem?_eq_none h'] at this
theorem St.alloc (h : St n S w0 L σ Φ a w) (o : Obj) : St n S w0 L ((w.heap.size, o) :: σ) Φ a (w.alloc o) where
 size := h.size
 defers := h.defers
 val := h.val
 ext := h.ext.alloc h.ext.size o
 own := fun p hp => by
  rcases List.mem_cons.1 hp with rfl | hp
  ·
   show (w.heap.push o)[w.heap.size]? = _
   simp
  ·
   have hlt := h.own_lt (b := p.1) (o := p.2) hp
   show (w.heap.push o)[p.1]? = _
   rw [Array.getElem?_push, if_neg (by omega)]
   exact h.own p hp
 new := fun p hp => by
  rcases List.mem_cons.1 hp with rfl | hp
  · exact h.ext.size
  · exact h.new p hp
 nd := List.pairwise_cons.2 ⟨fun p hp => by have := h.own_lt (b := p.1) (o := p.2) hp; simp only; omega, h.nd⟩
 facts := by
  obtain ⟨X, h1, h2, h3, h4⟩ := h.facts
  refine ⟨fun b => X b ∨ b = w.heap.size, fun b hb => .inl (h1 b hb), fun p hp => ?_, fun b hb => ?_, fun R hR => ?_⟩
  ·
   rcases List.mem_cons.1 hp with rfl | hp
   · exact .inr rfl
   · exact .inl (h2 p hp)
  ·
   rcases hb with hb | hb
   · have := h3 b hb; simp; omega
   · simp [hb]
  ·
   refine R.st X _ w _ (h4 R hR) (fun b hb _ => ?_) (by simp) (fun b hb => ?_)
   · exact Below.heap_alloc w o b hb
   ·
    rcases hb with hb | hb
    · exact .inl hb
    · exact .inr (by omega)
inductive Upd : List (Nat × Obj) → Nat → Obj → Obj → List (Nat × Obj) → Prop
 | head {b o o' σ} : Upd ((b, o) :: σ) b o o' ((b, o') :: σ)
 | tail {b o o' p σ σ'} (h : Upd σ b o o' σ') : Upd (p :: σ) b o o' (p :: σ')
theorem Upd.mem {σ σ' : List (Nat × Obj)} {b : Nat} {o o' : Obj} (h : Upd σ b o o' σ') : (b, o) ∈ σ := by
 induction h with
 | head => exact List.mem_cons_self
 | tail _ ih => exact List.mem_cons_of_mem _ ih
theorem Upd.fst {σ σ' : List (Nat × Obj)} {b : Nat} {o o' : Obj} (h : Upd σ b o o' σ') : σ'.map Prod.fst = σ.map Prod.fst := by
 induction h with
 | head => rfl
 | tail _ ih => simp [ih]
theorem Upd.mem' {σ σ' : List (Nat × Obj)} {b : Nat} {o o' : Obj} (h : Upd σ b o o' σ') (hn : σ.Pairwise (fun p q => p.1 ≠ q.1)) :
  ∀ p ∈ σ', (p = (b, o')) ∨ (p ∈ σ ∧ p.1 ≠ b) := by
 induction h with
 | head =>
  intro p hp
  rw [List.pairwise_cons] at hn
  rcases List.mem_cons.1 hp with rfl | hp
  · exact .inl rfl
  · exact .inr ⟨List.mem_cons_of_mem _ hp, fun e => hn.1 p hp e.symm⟩
 | @tail b o o' q σ σ' h ih =>
  intro p hp
  rw [List.pairwise_cons] at hn
  rcases List.mem_cons.1 hp with rfl | hp
  · exact .inr ⟨List.mem_cons_self, fun e => hn.1 _ h.mem e⟩
  ·
   rcases ih hn.2 p hp with h' | ⟨h1, h2⟩
   · exact .inl h'
   · exact .inr ⟨List.mem_cons_of_mem _ h1, h2⟩
theorem Zms : ∀ {σ σ' : List (Nat × Obj)}, σ'.map Prod.fst = σ.map Prod.fst → σ.Pairwise (fun p q => p.1 ≠ q.1) → σ'.Pairwise (fun p q => p.1 ≠ q.1) := by
 intro σ σ' he h
 have h1 : (σ.map Prod.fst).Pairwise (· ≠ ·) := List.pairwise_map.2 h
 rw [← he] at h1
 exact List.pairwise_map.1 h1
theorem St.turn (h : St n S w0 L σ Φ a w) {b : Nat} {o o' : Obj} {σ' : List (Nat × Obj)} (hu : Upd σ b o o' σ') {w' : World}
  (hos : w'.os = w.os) (htape : w'.tape = w.tape) (hout : w'.output = w.output) (hsz : w'.heap.size = w.heap.size)
  (hb : w'.heap[b]? = some o') (hoth : ∀ k, k ≠ b → w'.heap[k]? = w.heap[k]?) : St n S w0 L σ' Φ a w' where
 size := h.size
 defers := h.defers
 val := h.val
 ext := h.ext.trans ⟨hos, htape, hout, by omega, fun k hk => hoth k (by have := h.new _ hu.mem; simp only at this; omega)⟩
 own := fun p hp => by
  rcases hu.mem' h.nd p hp with rfl | ⟨h1, h2⟩
  · exact hb
  · rw [hoth _ h2]; exact h.own p h1
 new := fun p hp => by
  rcases hu.mem' h.nd p hp with rfl | ⟨h1, _⟩
  · exact h.new (b, o) hu.mem
  · exact h.new p h1
 nd := Zms hu.fst h.nd
 facts := by
  obtain ⟨X, h1, h2, h3, h4⟩ := h.facts
  refine ⟨X, h1, fun p hp => ?_, fun k hk => by rw [hsz]; exact h3 k hk, fun R hR => R.st X X w w' (h4 R hR) (fun k hk hX => hoth k (fun e => hX (by subst e; exact h2 _ hu.mem))) (by omega) (fun k hk => .inl hk)⟩
  rcases hu.mem' h.nd p hp with rfl | ⟨h1', _⟩
  · exact h2 (b, o) hu.mem
  · exact h2 p h1'
def Qc (cs : Array Value) (off : Nat) : List Value → Array Value
 | [] => cs
 | v :: vs => Qc (cs.setIfInBounds off v) (off + 1) vs
theorem World.heap_setCell_self (w : World) (b off : Nat) (v : Value) {cs : Array Value} {T : TypeId} {fr : Nat × Nat}
  (h : w.heap[b]? = some (.cells cs T fr)) : (w.setCell ⟨b, off, none⟩ v).heap[b]? = some (.cells (cs.setIfInBounds off v) T fr) := by
 simp [World.setCell, Array.getElem?_modify, h]
theorem cell_of (w : World) (b off : Nat) {cs : Array Value} {T : TypeId} {fr : Nat × Nat} (h : w.heap[b]? = some (.cells cs T fr)) :
  w.cell? ⟨b, off, none⟩ = cs[off]? := by
 simp [World.cell?, h]
theorem Zh0 (w : World) (b off : Nat) {cs : Array Value} {T : TypeId} (h : w.heap[b]? = some (.cells cs T (0, 0))) :
  w.frozen? ⟨b, off, none⟩ = false := by
 simp [World.frozen?, h]
theorem Za2 (b off i : Nat) : (⟨b, off, none⟩ : Addr).add i = ⟨b, off + i, none⟩ := by
 unfold Addr.add
 split
 · simp_all
 · rfl
theorem Xv {P : Program} (w : World) (b off : Nat) {cs : Array Value} {T : TypeId} {fr : Nat × Nat}
  (h : w.heap[b]? = some (.cells cs T fr)) : ∀ (k i : Nat) (acc : Array Value), off + i + k ≤ cs.size →
  (loadCellsFrom ⟨b, off, none⟩ i k acc).run P w = .ok (acc ++ cs.extract (off + i) (off + i + k)) w
 | 0, i, acc, _ => by simp [loadCellsFrom]; omega
 | k + 1, i, acc, hle => by
  have hc : w.cell? ⟨b, off + i, none⟩ = some (cs[off + i]'(by omega)) := by rw [cell_of w b _ h]; simp
  have ih := Xv (P := P) w b off h k (i + 1) (acc.push (cs[off + i]'(by omega))) (by omega)
  simp only [loadCellsFrom, Sem.run_bind, run_load, Za2, hc, Result.andThen, ih]
  congr 1
  have e : off + (i + 1) + k = off + i + (k + 1) := by omega
  rw [e, ← Nat.add_assoc, Array.push_eq_append, Array.append_assoc]
  congr 1
  apply Array.ext'
  simp only [Array.toList_append, Array.toList_extract, List.extract_eq_take_drop]
  have e2 : off + i + (k + 1) - (off + i) = k + 1 := by omega
  have e3 : off + i + (k + 1) - (off + i + 1) = k := by omega
  have hlt : off + i < cs.toList.length := by simp; omega
  rw [e2, e3, List.drop_eq_getElem_cons hlt]
  simp
def Qe (agg : Bool) (s : Nat) (cs : Array Value) (off : Nat) : Option Value :=
 if agg then (if off + s ≤ cs.size then some (.agg (cs.extract off (off + s))) else none) else cs[off]?
theorem Vg {P : Program} {w : World} {b off : Nat} {cs : Array Value} {Tb : TypeId} {fr : Nat × Nat}
  (h : w.heap[b]? = some (.cells cs Tb fr)) {T : TypeId} {agg : Bool} {s : Nat} {v : Value}
  (hagg : ∀ w, (isAgg T).run P w = .ok agg w) (hs : ∀ w, (Go.sizeOf T).run P w = .ok s w) (hv : Qe agg s cs off = some v) :
  (Instr.loadAt T (.pointer (some ⟨b, off, none⟩))).run P w = .ok v w := by
 cases agg with
 | false =>
  simp only [Qe, Bool.false_eq_true, if_false] at hv
  simp [Instr.loadAt, Instr.sureAddr, loadVar, Sem.run_bind, hagg, Result.andThen, run_load, cell_of w b off h, hv]
 | true =>
  simp only [Qe, if_true] at hv
  split at hv
  ·
   rename_i hle
   cases hv
   have := Xv (P := P) w b off h s 0 #[] (by omega)
   simp [Instr.loadAt, Instr.sureAddr, loadVar, Sem.run_bind, hagg, hs, Result.andThen, loadCells, this]
  · cases hv
theorem Xw {P : Program} (b off : Nat) {T : TypeId} : ∀ (vs : List Value) (i : Nat) (w : World) (cs : Array Value),
  w.heap[b]? = some (.cells cs T (0, 0)) → off + i + vs.length ≤ cs.size → (∀ v ∈ vs, (∀ c, v ≠ .agg c) ∧ (∀ c, v ≠ .tuple c)) →
  ∃ w', (storeCells ⟨b, off, none⟩ vs i).run P w = .ok () w' ∧ w'.os = w.os ∧ w'.tape = w.tape ∧ w'.output = w.output ∧ w'.heap.size = w.heap.size ∧
   w'.heap[b]? = some (.cells (Qc cs (off + i) vs) T (0, 0)) ∧ ∀ k, k ≠ b → w'.heap[k]? = w.heap[k]?
 | [], i, w, cs, h, _, _ => ⟨w, by simp [storeCells], rfl, rfl, rfl, rfl, h, fun _ _ => rfl⟩
 | v :: vs, i, w, cs, h, hle, hv => by
  simp only [List.length_cons] at hle
  have hc : w.cell? ⟨b, off + i, none⟩ = some (cs[off + i]'(by omega)) := by rw [cell_of w b _ h]; simp
  have hf := Zh0 w b (off + i) h
  have h1 := World.heap_setCell_self w b (off + i) v h
  obtain ⟨w', hr, e1, e2, e3, e4, e5, e6⟩ := Xw (P := P) b off vs (i + 1) (w.setCell ⟨b, off + i, none⟩ v) _ h1 (by simp; omega) (fun u hu => hv u (List.mem_cons_of_mem _ hu))
  have hv0 := hv v List.mem_cons_self
  refine ⟨w', ?_, e1, e2, e3, by rw [e4]; simp [World.setCell], by rw [e5, Qc, Nat.add_assoc], fun k hk => by rw [e6 k hk]; exact Below.heap_setCell _ _ _ _ hk⟩
  simp only [storeCells, Za2, Sem.run_bind]
  have hs : (store ⟨b, off + i, none⟩ v).run P w = .ok () (w.setCell ⟨b, off + i, none⟩ v) := by
   unfold Go.store
   cases v <;> simp [Sem.run, hc, hf] <;> first | exact absurd rfl (hv0.1 _) | exact absurd rfl (hv0.2 _)
  rw [hs]
  exact hr
def flat (v : Value) : Bool := match v with | .agg _ | .tuple _ => false | _ => true
theorem Zd2 {v : Value} (h : flat v = true) : (∀ c, v ≠ .agg c) ∧ (∀ c, v ≠ .tuple c) := by
 cases v <;> simp [flat] at h ⊢
theorem St.store (h : St n S w0 L σ Φ a w) {P : Program} {b off : Nat} {cs : Array Value} {Tb : TypeId} {σ' : List (Nat × Obj)} {v : Value} {T : TypeId} {s : Nat}
  (hu : Upd σ b (.cells cs Tb (0, 0)) (.cells (Qc cs off v.cells.toList) Tb (0, 0)) σ')
  (hs : ∀ w, (Go.sizeOf T).run P w = .ok s w) (hsz : v.cells.size = s) (hle : off + s ≤ cs.size) (hfl : v.cells.toList.all flat = true) :
  ∃ w', (Instr.storeAt T (.pointer (some ⟨b, off, none⟩)) v).run P w = .ok () w' ∧ St n S w0 L σ' Φ a w' ∧ ∀ k, k ≠ b → w'.heap[k]? = w.heap[k]? := by
 obtain ⟨w', hr, e1, e2, e3, e4, e5, e6⟩ := Xw (P := P) b off (T := Tb) v.cells.toList 0 w cs (h.own _ hu.mem) (by simp; omega)
  (fun u hu => Zd2 ((List.all_eq_true.1 hfl) u hu))
 refine ⟨w', ?_, h.turn hu e1 e2 e3 e4 (by simpa using e5) e6, e6⟩
 simp [Instr.storeAt, Instr.sureAddr, storeVar, Sem.run_bind, hs, Result.andThen, hsz, hr]
variable {P : Program} {K : Act → World → Prop} {Q : Exit → Act → World → Prop}
theorem Xf {o : Oper} {v : Value} {w' : World} (hr : (execOp a.eval o).run P w = .ok (.value v) w') (hk : K (a.put o.dst v) w') : o.wp P a w K Q := by
 simp only [Oper.wp, hr, Oper.upon]; exact hk
theorem Zgb {o : Oper} {w' : World} (hr : (execOp a.eval o).run P w = .ok .skip w') (hk : K (a.put o.dst undef) w') : o.wp P a w K Q := by
 simp only [Oper.wp, hr, Oper.upon]; exact hk
inductive Pure1 (P : Program) (L : List (Nat × Value)) : Op → Value → Prop
 | move {x v} (hx : Fx.ev L x = some v) : Pure1 P L (.move x) v
 | assign {x v} (hx : Fx.ev L x = some v) : Pure1 P L (.assign x) v
 | pickT {c x y v} (hc : Fx.ev L c = some (.bool true)) (hx : Fx.ev L x = some v) : Pure1 P L (.pick c x y) v
 | pickF {c x y v} (hc : Fx.ev L c = some (.bool false)) (hy : Fx.ev L y = some v) : Pure1 P L (.pick c x y) v
 | fieldAddr {T x f u v} (hx : Fx.ev L x = some u) (hr : ∀ w, (Instr.fieldAt T u f).run P w = .ok v w) : Pure1 P L (.fieldAddr T x f) v
 | field {T x f u v} (hx : Fx.ev L x = some u) (hr : ∀ w, (Instr.field T u f).run P w = .ok v w) : Pure1 P L (.field T x f) v
 | indexAddr {T x y u i v} (hx : Fx.ev L x = some u) (hy : Fx.ev L y = some i) (hr : ∀ w, (Instr.indexAt T u i).run P w = .ok v w) : Pure1 P L (.indexAddr T x y) v
 | index {T x y u i v} (hx : Fx.ev L x = some u) (hy : Fx.ev L y = some i) (hr : ∀ w, (Instr.index T u i).run P w = .ok v w) : Pure1 P L (.index T x y) v
 | binOp {op T x y T' u i v} (hx : Fx.ev L x = some u) (hy : Fx.ev L y = some i)
   (hr : ∀ w, (do eqGuard op T x y u i; Go.binOp op T u i : Sem Value).run P w = .ok v w) : Pure1 P L (.binOp op T x y T') v
 | unOp {op T x u v} (hx : Fx.ev L x = some u) (hr : ∀ w, (Op.unary op u).run P w = .ok v w) : Pure1 P L (.unOp op T x) v
 | convert {T T' x u v} (hx : Fx.ev L x = some u) (hr : ∀ w, (Go.convert T T' u).run P w = .ok v w) : Pure1 P L (.convert T T' x) v
 | extract {x k u v} (hx : Fx.ev L x = some u) (hr : ∀ w, (Instr.extract u k).run P w = .ok v w) : Pure1 P L (.extract x k) v
 | slice {T x lo hi mx u v} (hx : Fx.ev L x = some u) (lo' hi' mx' : Option Value) (hl : lo.map (Fx.ev L) = lo'.map some) (hh : hi.map (Fx.ev L) = hi'.map some) (hm : mx.map (Fx.ev L) = mx'.map some)
   (hr : ∀ w, (Instr.sliceAt T u lo' hi' mx').run P w = .ok v w) : Pure1 P L (.slice T x lo hi mx) v
 | nilCheck {x b} (hx : Fx.ev L x = some (.pointer (some b))) : Pure1 P L (.nilCheck x) (.pointer (some b))
 | build {T parts v} (vs : List (Nat × Value)) (hp : parts.toList.map (fun p => (p.1, Fx.ev L p.2)) = vs.map (fun p => (p.1, some p.2)))
   (hr : ∀ w, (Instr.build T vs.toArray).run P w = .ok v w) : Pure1 P L (.build T parts) v
 | makeFunc {fn first captured} (fs cs : List Value) (hf : first.toList.map (Fx.ev L) = fs.map some) (hc : captured.toList.map (Fx.ev L) = cs.map some) :
   Pure1 P L (.makeFunc fn first captured) (.func fn fs.toArray cs.toArray)
 | builtin {b args tys v} (vs : List Value) (ha : args.toList.map (Fx.ev L) = vs.map some)
   (hr : ∀ w (type : TypeId) (consts : Array Bool), (Go.builtin b tys type consts vs.toArray).run P w = .ok (.value v) w) : Pure1 P L (.call ⟨.builtin b, args, tys⟩) v
 | extern {f args tys v} (vs : List Value) (ha : args.toList.map (Fx.ev L) = vs.map some)
   (hr : ∀ w, (callFunc f vs.toArray).run P w = .ok (.value v) w) : Pure1 P L (.call ⟨.value (.func f), args, tys⟩) v
theorem Pure1.cast {P : Program} {L : List (Nat × Value)} {op : Op} {v v' : Value} (h : Pure1 P L op v) (e : v = v') : Pure1 P L op v' := e ▸ h
theorem Zfp (h : St n S w0 L σ Φ a w) {args : Array Operand} {vs : List Value} (ha : args.toList.map (Fx.ev L) = vs.map some) : args.map a.eval = vs.toArray := by
 apply Array.ext'
 simp only [Array.toList_map]
 generalize args.toList = l at ha
 induction l generalizing vs with
 | nil => cases vs <;> simp at ha ⊢
 | cons x l ih =>
  cases vs with
  | nil => simp at ha
  | cons v vs =>
   simp only [List.map_cons, List.cons.injEq] at ha ⊢
   exact ⟨h.ev ha.1, ih ha.2⟩
theorem Zfo (h : St n S w0 L σ Φ a w) {parts : Array (Nat × Operand)} {vs : List (Nat × Value)}
  (ha : parts.toList.map (fun p => (p.1, Fx.ev L p.2)) = vs.map (fun p => (p.1, some p.2))) : parts.map (fun (i, x) => (i, a.eval x)) = vs.toArray := by
 apply Array.ext'
 simp only [Array.toList_map]
 generalize parts.toList = l at ha
 induction l generalizing vs with
 | nil => cases vs <;> simp at ha ⊢
 | cons x l ih =>
  cases vs with
  | nil => simp at ha
  | cons v vs =>
   simp only [List.map_cons, List.cons.injEq, Prod.mk.injEq] at ha ⊢
   refine ⟨?_, ih ha.2⟩
   rw [h.ev ha.1.2, ha.1.1]
theorem Zou (h : St n S w0 L σ Φ a w) {x : Option Operand} {v : Option Value} (ha : x.map (Fx.ev L) = v.map some) : x.map a.eval = v := by
 cases x <;> cases v <;> simp at ha ⊢
 exact h.ev ha
theorem Pure1.run (h : St n S w0 L σ Φ a w) {dst : Option Tmp} {op : Op} {g : Option (Nat × Bool)} {v : Value} (hp : Pure1 P L op v) :
  ∀ w', (execOp a.eval ⟨dst, op, ty, pos, aft, g⟩).run P w' = .ok (.value v) w' := by
 intro w'
 cases hp with
 | move hx => simp [execOp, h.ev hx]
 | assign hx => simp [execOp, h.ev hx]
 | pickT hc hx => simp [execOp, h.ev hc, h.ev hx, asBool]
 | pickF hc hx => simp [execOp, h.ev hc, h.ev hx, asBool]
 | fieldAddr hx hr => simp only [execOp, h.ev hx, Sem.run_bind, hr]; rfl
 | field hx hr => simp only [execOp, h.ev hx, Sem.run_bind, hr]; rfl
 | indexAddr hx hy hr => simp only [execOp, h.ev hx, h.ev hy, Sem.run_bind, hr]; rfl
 | index hx hy hr => simp only [execOp, h.ev hx, h.ev hy, Sem.run_bind, hr]; rfl
 | binOp hx hy hr =>
  have := hr w'
  rw [Sem.run_bind] at this
  simp only [execOp, h.ev hx, h.ev hy, Sem.run_bind, this]; rfl
 | unOp hx hr => simp only [execOp, h.ev hx, Sem.run_bind, hr]; rfl
 | convert hx hr => simp only [execOp, h.ev hx, Sem.run_bind, hr]; rfl
 | extract hx hr => simp only [execOp, h.ev hx, Sem.run_bind, hr]; rfl
 | slice hx lo' hi' mx' hl hh hm hr => simp only [execOp, h.ev hx, Zou h hl, Zou h hh, Zou h hm, Sem.run_bind, hr]; rfl
 | nilCheck hx => simp only [execOp, h.ev hx]; rfl
 | build vs hp hr => simp only [execOp, Zfo h hp, Sem.run_bind, hr]; rfl
 | makeFunc fs cs hf hc => simp only [execOp, Zfp h hf, Zfp h hc, Instr.makeFunc]; rfl
 | builtin vs ha hr =>
  simp only [execOp, resolve, Zfp h ha, Sem.run_bind]
  exact hr w' _ _
 | extern vs ha hr =>
  simp only [execOp, resolve, Zfp h ha, Sem.run_bind, Act.eval]
  simp [Deferred.ofValue, invoke, hr]
theorem Zx (h : St n S w0 L σ Φ a w) {d : Nat} {op : Op} {g : Option (Nat × Bool)} {v : Value} (hp : Pure1 P L op v) (hd : d < n)
  (k : ∀ a', St n S w0 ((d, v) :: L) σ Φ a' w → K a' w) : (Oper.mk (some d) op ty pos aft g).wp P a w K Q :=
 Xf (hp.run h w) (k _ (h.put hd v))
theorem Qao (h : St n S w0 L σ Φ a w) {d : Nat} {T : TypeId} {x : Operand} {u : Value} {g : Option (Nat × Bool)} (hx : Fx.ev L x = some u) (hd : d < n)
  (k : ∀ b a' w', St n S w0 ((d, .pointer (some ⟨b, 0, none⟩)) :: L) ((b, .cells u.cells T (0, 0)) :: σ) Φ a' w' → K a' w') : (Oper.mk (some d) (.box T x) ty pos aft g).wp P a w K Q :=
 Xf (v := .pointer (some ⟨w.heap.size, 0, none⟩)) (w' := w.alloc (.cells u.cells T (0, 0))) (by simp only [execOp, h.ev hx]; rfl)
  (k _ _ _ ((h.alloc _).put hd _))
theorem Gk (h : St n S w0 L σ Φ a w) {d : Nat} {T : TypeId} {u : Value} {g : Option (Nat × Bool)} (hz : ∀ w, (zeroValue T).run P w = .ok u w) (hd : d < n)
  (k : ∀ b a' w', St n S w0 ((d, .pointer (some ⟨b, 0, none⟩)) :: L) ((b, .cells u.cells T (0, 0)) :: σ) Φ a' w' → K a' w') : (Oper.mk (some d) (.alloc T) ty pos aft g).wp P a w K Q :=
 Xf (v := .pointer (some ⟨w.heap.size, 0, none⟩)) (w' := w.alloc (.cells u.cells T (0, 0))) (by
  simp only [execOp, Instr.alloc, Sem.run_bind, hz, Result.andThen]
  rfl)
  (k _ _ _ ((h.alloc _).put hd _))
theorem Qd (h : St n S w0 L σ Φ a w) {d : Nat} {T : TypeId} {x : Operand} {g : Option (Nat × Bool)} {b off : Nat} {cs : Array Value} {Tb : TypeId} {fr : Nat × Nat} {agg : Bool} {s : Nat} {v : Value}
  (hx : Fx.ev L x = some (.pointer (some ⟨b, off, none⟩))) (hm : (b, Obj.cells cs Tb fr) ∈ σ) (hagg : ∀ w, (isAgg T).run P w = .ok agg w) (hs : ∀ w, (Go.sizeOf T).run P w = .ok s w)
  (hv : Qe agg s cs off = some v) (hd : d < n)
  (k : ∀ a', St n S w0 ((d, v) :: L) σ Φ a' w → K a' w) : (Oper.mk (some d) (.load T x) ty pos aft g).wp P a w K Q :=
 Xf (v := v) (w' := w) (by
  simp only [execOp, h.ev hx, Sem.run_bind, Vg (h.own _ hm) hagg hs hv]; rfl) (k _ (h.put hd v))
theorem Vq (h : St n S w0 L σ Φ a w) {T : TypeId} {x y : Operand} {g : Option (Nat × Bool)} {b off : Nat} {cs : Array Value} {Tb : TypeId} {s : Nat} {v : Value} {σ' : List (Nat × Obj)}
  {cs' : Array Value}
  (hx : Fx.ev L x = some (.pointer (some ⟨b, off, none⟩))) (hy : Fx.ev L y = some v) (hset : Qc cs off v.cells.toList = cs')
  (hu : Upd σ b (.cells cs Tb (0, 0)) (.cells cs' Tb (0, 0)) σ')
  (hs : ∀ w, (Go.sizeOf T).run P w = .ok s w) (hsz : v.cells.size = s) (hle : off + s ≤ cs.size) (hfl : v.cells.toList.all flat = true)
  (k : ∀ a' w', St n S w0 L σ' Φ a' w' → K a' w') : (Oper.mk none (.store T x y) ty pos aft g).wp P a w K Q := by
 subst hset
 obtain ⟨w', hr, h', _⟩ := h.store hu hs hsz hle hfl
 exact Zgb (w' := w') (by simp only [execOp, h.ev hx, h.ev hy, Sem.run_bind, hr]; rfl) (k _ _ h')
def Ctr (P : Program) (f : FuncId) (args : List Value) (Φ : List Qf) (post : Value → List Qf → Prop) : Prop :=
 ∀ (X : Nat → Prop) (w : World), (∀ b, X b → b < w.heap.size) → (∀ R ∈ Φ, R.p X w) →
  Calls P f args.toArray w fun e w' => ∃ v Ψ, e = .returned v ∧ post v Ψ ∧ Below w.heap.size w w' ∧ ∀ R ∈ Ψ, R.p X w'
theorem St.called (h : St n S w0 L σ Φ a w) {w' : World} (hb : Below w.heap.size w w') {X : Nat → Prop} {Ψ : List Qf}
  (h1 : ∀ b, S b → X b) (h2 : ∀ p ∈ σ, X p.1) (h3 : ∀ b, X b → b < w.heap.size) (h4 : ∀ R ∈ Φ, R.p X w) (h5 : ∀ R ∈ Ψ, R.p X w') : St n S w0 L σ (Ψ ++ Φ) a w' where
 size := h.size
 defers := h.defers
 val := h.val
 ext := h.ext.trans (hb.mono h.ext.size)
 own := fun p hp => by rw [hb.block _ (h.own_lt (b := p.1) (o := p.2) hp)]; exact h.own p hp
 new := h.new
 nd := h.nd
 facts := ⟨X, h1, h2, fun b hb' => Nat.lt_of_lt_of_le (h3 b hb') hb.size, fun R hR => by
  rcases List.mem_append.1 hR with hR | hR
  · exact h5 R hR
  · exact R.st X X w w' (h4 R hR) (fun b hb' _ => hb.block b hb') hb.size (fun b hb' => .inl hb')⟩
theorem Jd (h : St n S w0 L σ Φ a w) {d : Nat} {f : FuncId} {args : Array Operand} {tys : Array TypeId} {g : Option (Nat × Bool)}
  {vs : List Value} {Φ' : List Qf} {post : Value → List Qf → Prop} (ha : args.toList.map (Fx.ev L) = vs.map some)
  (hc : ∀ args w, (callFunc f args).run P w = .ok (.enter f args) w) (hf : Ctr P f vs Φ' post) (hsub : ∀ R ∈ Φ', R ∈ Φ) (hd : d < n)
  (k : ∀ v Ψ a' w', post v Ψ → St n S w0 ((d, v) :: L) σ (Ψ ++ Φ) a' w' → K a' w') : (Oper.mk (some d) (.call ⟨.value (.func f), args, tys⟩) ty pos aft g).wp P a w K Q := by
 obtain ⟨X, h1, h2, h3, h4⟩ := h.facts
 have hr : (execOp a.eval (Oper.mk (some d) (.call ⟨.value (.func f), args, tys⟩) ty pos aft g)).run P w = .ok (.enter f vs.toArray) w := by
  simp only [execOp, resolve, Zfp h ha, Sem.run_bind, Act.eval]
  simp [Deferred.ofValue, invoke, hc]
 simp only [Oper.wp, hr, Oper.upon]
 refine (hf X w h3 (fun R hR => h4 R (hsub R hR))).mono ?_
 rintro e w' ⟨v, Ψ, rfl, hp, hb, h5⟩
 exact k v Ψ _ _ hp ((h.called hb h1 h2 h3 h4 h5).put hd v)
def Xm (P : Program) (f : FuncId) (args : List Value) (v : Value) : Prop := Ctr P f args [] (fun u Ψ => u = v ∧ Ψ = [])
def Ctr0 (P : Program) (f : FuncId) (args : List Value) (post : Value → Prop) : Prop := Ctr P f args [] (fun u Ψ => post u ∧ Ψ = [])
theorem Zay (h : St n S w0 L σ Φ a w) {d : Nat} {f : FuncId} {args : Array Operand} {tys : Array TypeId} {g : Option (Nat × Bool)}
  {vs : List Value} {v : Value} (ha : args.toList.map (Fx.ev L) = vs.map some)
  (hc : ∀ args w, (callFunc f args).run P w = .ok (.enter f args) w) (hf : Xm P f vs v) (hd : d < n)
  (k : ∀ a' w', St n S w0 ((d, v) :: L) σ Φ a' w' → K a' w') : (Oper.mk (some d) (.call ⟨.value (.func f), args, tys⟩) ty pos aft g).wp P a w K Q :=
 Jd h ha hc hf (fun _ hR => nomatch hR) hd fun u Ψ a' w' hp hst => by obtain ⟨rfl, rfl⟩ := hp; exact k a' w' hst
theorem Qp {d : Nat} {c : Bool} {G : Prop} (h : St n S w0 ((d, .bool c) :: L) σ Φ a w) (k1 : c = true → St n S w0 ((d, .bool true) :: L) σ Φ a w → G)
  (k2 : c = false → St n S w0 ((d, .bool false) :: L) σ Φ a w → G) : G := by
 cases c
 · exact k2 rfl h
 · exact k1 rfl h
theorem Zpq {ops : Array Oper} {rest : List Oper} {o : Oper} (hw : Region.wanted o (yielded ops a.tmps) = true) (h : o.wp P a w (wpList P ops Q rest) Q) : wpList P ops Q (o :: rest) a w := by
 unfold wpList; rw [if_pos hw]; exact .inl h
theorem Zc {ops : Array Oper} {rest : List Oper} {d : Option Tmp} {op : Op} {ty : TypeId} {pos : String} {aft : Array Edge}
  (h : (Oper.mk d op ty pos aft none).wp P a w (wpList P ops Q rest) Q) : wpList P ops Q (Oper.mk d op ty pos aft none :: rest) a w :=
 Zpq rfl h
theorem Zbg (h : St n S w0 L σ Φ a w) {ops : Array Oper} {d : Option Tmp} {op : Op} {j : Nat} {want c : Bool} {t : Nat}
  (hj : (ops[j]?).bind (·.dst) = some t) (ht : look L t = some (.bool c)) : Region.wanted (Oper.mk d op ty pos aft (some (j, want))) (yielded ops a.tmps) = (c == want) := by
 have hv := h.val t _ ht
 have ht' : t < a.tmps.size := by
  rcases Nat.lt_or_ge t a.tmps.size with h' | h'
  · exact h'
  · rw [Array.getD_eq_getD_getElem?, Array.getElem?_eq_none h'] at hv; exact absurd hv (by simp [undef])
 have hg : a.tmps[t]? = some (.bool c) := by
  rw [Array.getD_eq_getD_getElem?, Array.getElem?_eq_getElem ht'] at hv
  rw [Array.getElem?_eq_getElem ht']; simpa using hv
 simp only [Region.wanted, yielded, hj, hg, Option.bind_some]
 cases c <;> cases want <;> rfl
theorem Zt {ops : Array Oper} {rest : List Oper} {d : Option Tmp} {op : Op} {j : Nat} {want : Bool} (t : Nat)
  (h : St n S w0 L σ Φ a w) (hj : (ops[j]?).bind (·.dst) = some t) (ht : look L t = some (.bool want))
  (k : (Oper.mk d op ty pos aft (some (j, want))).wp P a w (wpList P ops Q rest) Q) : wpList P ops Q (Oper.mk d op ty pos aft (some (j, want)) :: rest) a w :=
 Zpq (by rw [Zbg h hj ht]; simp) k
theorem Zxq {ops : Array Oper} {rest : List Oper} {d : Nat} {op : Op} {j : Nat} {want c : Bool} (t : Nat)
  (h : St n S w0 L σ Φ a w) (hj : (ops[j]?).bind (·.dst) = some t) (ht : look L t = some (.bool c)) (hne : (c == want) = false) (hd : d < n)
  (k : ∀ a', St n S w0 ((d, undef) :: L) σ Φ a' w → wpList P ops Q rest a' w) : wpList P ops Q (Oper.mk (some d) op ty pos aft (some (j, want)) :: rest) a w := by
 unfold wpList
 rw [if_neg (by rw [Zbg h hj ht, hne]; simp)]
 exact k _ (h.put hd _)
def Qas : Nat → List Value → List (Nat × Value)
 | _, [] => []
 | i, v :: vs => (i, v) :: Qas (i + 1) vs
theorem Zdx : ∀ (vs : List Value) (i t : Nat) (v : Value), look (Qas i vs) t = some v → i ≤ t ∧ vs[t - i]? = some v
 | [], _, _, _, h => by simp [Qas, look] at h
 | u :: vs, i, t, v, h => by
  simp only [Qas, look] at h
  cases hb : Nat.beq i t with
  | true =>
   have e := Nat.eq_of_beq_eq_true hb
   subst e
   rw [hb] at h
   exact ⟨Nat.le_refl _, by simpa using h⟩
  | false =>
   rw [hb] at h
   obtain ⟨h1, h2⟩ := Zdx vs (i + 1) t v h
   refine ⟨by omega, ?_⟩
   have e : t - i = (t - (i + 1)) + 1 := by omega
   rw [e]; simpa using h2
def Zzv (S : Nat → Prop) (w0 : World) (post : Value → List Qf → Prop) : Ending → World → Prop :=
 fun e w' => ∃ v Ψ, e = .returned v ∧ post v Ψ ∧ Below w0.heap.size w0 w' ∧ ∀ R ∈ Ψ, R.p S w'
theorem fn_intro {f : FuncId} {fn : Func} {c : Code} {args : List Value} {post : Value → List Qf → Prop} {n : Nat}
  (hf : P.funcs[f]? = some fn) (hb : fn.body = some c) (hn : fn.ntmps = n) (hl : args.length ≤ n)
  (h : ∀ S w0 a, (∀ k, S k → k < w0.heap.size) → St n S w0 (Qas 0 args) [] Φ a w0 → c.wp P (bodyPost P fn (Zzv S w0 post)) a w0) : Ctr P f args Φ post := by
 intro X w hX hΦ
 refine calls_of_wp hf hb (h X w _ hX ⟨?_, rfl, fun t v ht => ?_, Below.refl _ _, (fun _ hp => nomatch hp), (fun _ hp => nomatch hp), List.Pairwise.nil, ⟨X, fun _ h => h, (fun _ hp => nomatch hp), hX, hΦ⟩⟩)
 · simp [hn]; omega
 ·
  obtain ⟨_, h2⟩ := Zdx args 0 t v ht
  have hlt : t < args.length := by
   rcases Nat.lt_or_ge t args.length with h' | h'
   · exact h'
   · simp [List.getElem?_eq_none h'] at h2
  simp at h2
  rw [Array.getD_eq_getD_getElem?, Array.getElem?_append_left (by simpa using hlt)]
  simp [h2]
inductive ResIs (P : Program) (L : List (Nat × Value)) (σ : List (Nat × Obj)) : ResultVar → Value → Prop
 | tmp {t v} (h : look L t = some v) : ResIs P L σ (.tmp t) v
 | cell {t T b cs Tb fr agg s v} (h : look L t = some (.pointer (some ⟨b, 0, none⟩))) (hm : (b, Obj.cells cs Tb fr) ∈ σ)
   (hagg : ∀ w, (isAgg T).run P w = .ok agg w) (hs : ∀ w, (Go.sizeOf T).run P w = .ok s w) (hv : Qe agg s cs 0 = some v) : ResIs P L σ (.cell t T) v
theorem Zf7 {w : World} {b off : Nat} {cs : Array Value} {Tb : TypeId} {fr : Nat × Nat}
  (h : w.heap[b]? = some (.cells cs Tb fr)) {T : TypeId} {agg : Bool} {s : Nat} {v : Value}
  (hagg : ∀ w, (isAgg T).run P w = .ok agg w) (hs : ∀ w, (Go.sizeOf T).run P w = .ok s w) (hv : Qe agg s cs off = some v) :
  (loadVar T ⟨b, off, none⟩).run P w = .ok v w := by
 have := Vg (P := P) h hagg hs hv
 simpa [Instr.loadAt, Instr.sureAddr] using this
theorem ResIs.run (h : St n S w0 L σ Φ a w) {r : ResultVar} {v : Value} (hr : ResIs P L σ r v) :
  (match r with
   | .tmp t => (pure (a.tmps.getD t undef) : Sem Value)
   | .cell x t => do loadVar t (← asAddr (a.tmps.getD x undef))).run P w = .ok v w := by
 cases hr with
 | tmp ht => simp only [h.val _ _ ht]; rfl
 | cell ht hm hagg hs hv =>
  simp only [h.val _ _ ht, Sem.run_bind]
  exact Zf7 (h.own _ hm) hagg hs hv
theorem Zax {fn : Func} (hr : fn.results = #[]) : (results fn a.tmps).run P w = .ok (.tuple #[]) w := by
 simp [results, hr]
theorem Zk (h : St n S w0 L σ Φ a w) {fn : Func} {r : ResultVar} {v : Value} (hr : fn.results = #[r]) (h1 : ResIs P L σ r v) :
  (results fn a.tmps).run P w = .ok v w := by
 have e1 := h1.run h
 rw [show (results fn a.tmps) = (do
   let x ← (match r with | .tmp t => (pure (a.tmps.getD t undef) : Sem Value) | .cell x t => do loadVar t (← asAddr (a.tmps.getD x undef)))
   pure x) from by simp [results, hr]; rfl]
 exact e1
theorem Qq (h : St n S w0 L σ Φ a w) {fn : Func} {r1 r2 : ResultVar} {v1 v2 : Value} (hr : fn.results = #[r1, r2]) (h1 : ResIs P L σ r1 v1) (h2 : ResIs P L σ r2 v2) :
  (results fn a.tmps).run P w = .ok (.tuple #[v1, v2]) w := by
 have e1 := h1.run h
 have e2 := h2.run h
 rw [show (results fn a.tmps) = (do
   let x ← (match r1 with | .tmp t => (pure (a.tmps.getD t undef) : Sem Value) | .cell x t => do loadVar t (← asAddr (a.tmps.getD x undef)))
   let y ← (match r2 with | .tmp t => (pure (a.tmps.getD t undef) : Sem Value) | .cell x t => do loadVar t (← asAddr (a.tmps.getD x undef)))
   pure (.tuple #[x, y])) from by simp [results, hr]; rfl]
 simp only [Sem.run_bind, e1, e2, Result.andThen]
 rfl
theorem Zhi (h : St n S w0 L σ Φ a w) {fn : Func} {r1 r2 r3 : ResultVar} {v1 v2 v3 : Value} (hr : fn.results = #[r1, r2, r3]) (h1 : ResIs P L σ r1 v1) (h2 : ResIs P L σ r2 v2) (h3 : ResIs P L σ r3 v3) :
  (results fn a.tmps).run P w = .ok (.tuple #[v1, v2, v3]) w := by
 have e1 := h1.run h
 have e2 := h2.run h
 have e3 := h3.run h
 rw [show (results fn a.tmps) = (do
   let x ← (match r1 with | .tmp t => (pure (a.tmps.getD t undef) : Sem Value) | .cell x t => do loadVar t (← asAddr (a.tmps.getD x undef)))
   let y ← (match r2 with | .tmp t => (pure (a.tmps.getD t undef) : Sem Value) | .cell x t => do loadVar t (← asAddr (a.tmps.getD x undef)))
   let z ← (match r3 with | .tmp t => (pure (a.tmps.getD t undef) : Sem Value) | .cell x t => do loadVar t (← asAddr (a.tmps.getD x undef)))
   pure (.tuple #[x, y, z])) from by simp [results, hr]; rfl]
 simp only [Sem.run_bind, e1, e2, e3, Result.andThen]
 rfl
theorem Xr (h : St n S w0 L σ Φ a w) {fn : Func} {post : Value → List Qf → Prop} {v : Value} {Ψ : List Qf} (hr : (results fn a.tmps).run P w = .ok v w)
  (hp : post v Ψ) (hs : ∀ R ∈ Ψ, R ∈ Φ) : bodyPost P fn (Zzv S w0 post) .ret a w := by
 obtain ⟨X, h1, h2, h3, h4⟩ := h.facts
 exact ⟨h.defers, v, hr, v, Ψ, rfl, hp, h.ext, fun R hR => R.st X S w w (h4 R (hs R hR)) (fun _ _ _ => rfl) (Nat.le_refl _) (fun b hb => .inl (h1 b hb))⟩
theorem end_of (h : St n S w0 L σ Φ a w) {fn : Func} {post : Value → List Qf → Prop} {v : Value} {Ψ : List Qf} (hr : (results fn a.tmps).run P w = .ok v w)
  (hp : post v Ψ) (hs : ∀ R ∈ Ψ, R ∈ Φ) : bodyPost P fn (Zzv S w0 post) .normal a w := Xr (P := P) h hr hp hs
theorem Xd (h : St n S w0 L σ Φ a w) {fn : Func} {v u : Value} (hr : (results fn a.tmps).run P w = .ok u w) (hv : u = v) :
  bodyPost P fn (Zzv S w0 (fun u Ψ => u = v ∧ Ψ = [])) .ret a w := Xr (Ψ := []) h hr ⟨hv, rfl⟩ (fun _ hR => nomatch hR)
def Zpo (L : List (Nat × Value)) : List (Nat × Value) → Prop
 | [] => True
 | p :: M => look L p.1 = some p.2 ∧ Zpo L M
theorem Ztd : ∀ {M : List (Nat × Value)}, Zpo L M → ∀ t v, look M t = some v → look L t = some v
 | [], _, t, v, h => by simp [look] at h
 | p :: M, hM, t, v, h => by
  simp only [look] at h
  cases hb : Nat.beq p.1 t with
  | true => rw [hb] at h; simp at h; subst h; rw [← Nat.eq_of_beq_eq_true hb]; exact hM.1
  | false => rw [hb] at h; exact Ztd hM.2 t v (by simpa using h)
theorem Zi (h : St n S w0 L σ Φ a w) {c : Operand} {x y : Code} (hc : Fx.ev L c = some (.bool true)) (k : x.wp P Q a w) : (Code.cond c x y).wp P Q a w := wp_cond_true (h.ev hc) k
theorem Zf (h : St n S w0 L σ Φ a w) {c : Operand} {x y : Code} (hc : Fx.ev L c = some (.bool false)) (k : y.wp P Q a w) : (Code.cond c x y).wp P Q a w := wp_cond_false (h.ev hc) k
theorem Zg (h : St n S w0 L σ Φ a w) {c : Operand} {x y : Code} {t : Bool} (hc : Fx.ev L c = some (.bool t)) (k1 : t = true → x.wp P Q a w) (k2 : t = false → y.wp P Q a w) : (Code.cond c x y).wp P Q a w :=
 wp_cond_split (h.ev hc) k1 k2
theorem Zbd {c1 c2 : Code} (J : Act → World → Prop) (h1 : c1.wp P (Exit.then J Q) a w) (h2 : ∀ a w, J a w → c2.wp P Q a w) : (Code.seq c1 c2).wp P Q a w :=
 wp_seq (Code.wp_mono (fun e a w h => by
  cases e with
  | normal => exact h2 a w h
  | _ => exact h) h1)
theorem Zn {c : Code} {ι : Type} (J : ι → Act → World → Prop) (μ : ι → Nat) (i0 : ι) (h0 : J i0 a w)
  (round : ∀ i a w, J i a w → c.wp P (Exit.then (fun a' w' => ∃ i', J i' a' w' ∧ μ i' < μ i) Q) a w) : (Code.loop c).wp P Q a w := by
 intro b k cs
 have key : ∀ m i a w, μ i = m → J i a w →
   ∃ e a' w', Q e a' w' ∧ Arrives P (lone (b.at a (.code c :: .inLoop c :: k)) cs w) b k cs e a' w' := by
  intro m
  induction m using Nat.strongRecOn with
  | _ m ih =>
   intro i a w hm hI
   obtain ⟨e, a₁, w₁, hq, harr⟩ := round i a w hI b (.inLoop c :: k) cs
   cases e with
   | normal =>
    obtain ⟨i', hI₁, hlt⟩ := hq
    obtain ⟨e₂, a₂, w₂, hq₂, harr₂⟩ := ih (μ i') (hm ▸ hlt) i' a₁ w₁ rfl hI₁
    exact ⟨e₂, a₂, w₂, hq₂, .of_steps (Steps.trans harr (.one step_inLoop)) harr₂⟩
   | exit id => exact ⟨_, a₁, w₁, hq, .pass (x := .inLoop c) rfl (fun _ _ => .inl (by simp)) harr⟩
   | goto l => exact ⟨_, a₁, w₁, hq, .pass (x := .inLoop c) rfl (fun _ _ => .inl (by simp)) harr⟩
   | ret => exact ⟨_, a₁, w₁, hq, .pass (x := .inLoop c) rfl (fun _ _ => .inl (by simp)) harr⟩
   | panic ch => exact ⟨_, a₁, w₁, hq, .pass (x := .inLoop c) rfl (fun _ _ => .inl (by simp)) harr⟩
   | outgrown => exact ⟨_, a₁, w₁, hq, .pass (x := .inLoop c) rfl (fun _ _ => .inl (by simp)) harr⟩
 obtain ⟨e, a', w', hq, harr⟩ := key _ i0 a w rfl h0
 exact ⟨e, a', w', hq, .of_steps (.one step_loop) harr⟩
end
end Go.Fx
