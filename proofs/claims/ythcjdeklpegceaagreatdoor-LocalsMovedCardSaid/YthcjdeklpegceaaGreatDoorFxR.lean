/- A region whose order of operations is drawn: one walk in a chosen order, the declared locals (allocs) coming whenever they come. By an AI agent. -/
import Derived.Test.YthcjdeklpegceaaGreatDoorFxCore
import Derived.OrdersHeld
set_option linter.unusedVariables false
set_option linter.unusedSimpArgs false
set_option linter.unusedSectionVars false
namespace Go.Fx
open Go Go.RowKit
variable {ty : TypeId} {pos : String} {aft : Array Edge}
def Ext (w w' : World) : Prop := Below w.heap.size w w'
theorem Ext.refl (w : World) : Ext w w := Below.refl _ _
theorem Ext.trans {a b c : World} (h : Ext a b) (k : Ext b c) : Ext a c := Below.trans h (Below.mono k h.size)
theorem Ext.drew (w : World) : Ext w w.drew := (Below.refl _ _).drew
def early (o : Oper) : Bool :=
 match o.op with
 | .store .. | .mapUpdate .. | .insert .. | .entryStore .. | .mapEntry .. => false
 | .call ⟨.builtin b, _, _⟩ => (match b with | .len | .cap | .max | .min => true | _ => false)
 | _ => true
section
variable {P : Program} {ops : Array Oper}
def QN (K : Exit → Act → World → Prop) : Exit → Act → World → Prop
 | .normal, a, w => K .normal a w
 | .panic ch, a, w => ∀ tm, K (.panic ch) { a with tmps := tm } w
 | _, _, _ => False
theorem Qay {K : Exit → Act → World → Prop} {d : Option Tmp} {v : Value} {ch : List PanicEntry} {a : Act} {w : World} (h : QN K (.panic ch) (a.put d v) w) : QN K (.panic ch) a w := fun tm => by
 have h1 := h tm
 cases d <;> exact h1
def isF (ops : Array Oper) (j : Nat) : Bool :=
 match ops[j]? with
 | some ⟨some _, .alloc _, _, _, after, none⟩ => after.all fun e => !Region.binds .any e
 | _ => false
def waits (ops : Array Oper) (j : Nat) (p : Nat → Bool) : Bool :=
 match ops[j]? with
 | some o => o.after.any fun e => Region.binds .any e && p e.on
 | none => false
def Zsw (ops : Array Oper) (t : Nat) : Prop := ∀ (k : Nat) (ok : Oper), ops[k]? = some ok → ok.dst = some t → isF ops k = true
def Znn (o : Oper) (a : Act) (w w' : World) : Prop := ∀ T t y p, o.op = .store T (.tmp t) y → a.tmps.getD t undef = .pointer (some p) → ∀ b, b ≠ p.block → w'.heap[b]? = w.heap[b]?
def Left (ops : Array Oper) (o : Oper) (a : Act) (w : World) (a' : Act) (w' : World) : Prop :=
 (early o = true → Ext w w') ∧ (∀ T t y p, o.op = .store T (.tmp t) y → Zsw ops t → a.tmps.getD t undef = .pointer (some p) → ∀ b, b ≠ p.block → w'.heap[b]? = w.heap[b]?) ∧
  (∀ t, Zsw ops t → o.dst ≠ some t → a'.tmps.getD t undef = a.tmps.getD t undef) ∧
  ∀ t, o.dst = some t → Zsw ops t → ∃ b, a'.tmps.getD t undef = .pointer (some ⟨b, 0, none⟩) ∧ w.heap.size ≤ b
theorem Zfl {i t : Nat} {o : Oper} {v : Value} {a : Act} (ho : ops[i]? = some o) (ht : Zsw ops t) (h : o.dst ≠ some t) : (a.put o.dst v).tmps.getD t undef = a.tmps.getD t undef := by
 cases hd : o.dst with
 | none => rfl
 | some d => 
  have hne : d ≠ t := fun e => h (by rw [hd, e])
  simp [Act.put, Array.getElem?_setIfInBounds_ne hne]
theorem Zfk {i t : Nat} {o : Oper} {v : Value} {a : Act} (ho : ops[i]? = some o) (hq : isF ops i = false) (ht : Zsw ops t) : (a.put o.dst v).tmps.getD t undef = a.tmps.getD t undef :=
 Zfl ho ht (fun h => by have h1 := ht i o ho h; rw [hq] at h1; cases h1)
theorem Left.same {i : Nat} {o : Oper} {v : Value} {a : Act} {w : World} (ho : ops[i]? = some o) (hq : isF ops i = false) : Left ops o a w (a.put o.dst v) w :=
 ⟨fun _ => Ext.refl w, fun _ _ _ _ _ _ _ _ _ => rfl, fun _ ht => Zfl ho ht, fun t hd hf => by have h1 := hf i o ho hd; rw [hq] at h1; cases h1⟩
theorem Left.unput {i : Nat} {oi o : Oper} {v : Value} {a a' : Act} {w w' : World} (hi : ops[i]? = some oi) (hq : isF ops i = false) (h : Left ops o (a.put oi.dst v) w (a'.put oi.dst v) w') : Left ops o a w a' w' :=
 ⟨h.1, fun T t y p he hf hp => h.2.1 T t y p he hf (by rw [Zfk hi hq hf]; exact hp), fun t ht hd => by
  have h1 := h.2.2.1 t ht hd
  rw [Zfk hi hq ht, Zfk hi hq ht] at h1
  exact h1, fun t hd hf => by
  obtain ⟨b, h1, h2⟩ := h.2.2.2 t hd hf
  rw [Zfk hi hq hf] at h1
  exact ⟨b, h1, h2⟩⟩
def wpX (P : Program) (ops : Array Oper) (Kf : Exit → Act → World → Prop) : Nat → Array Bool → Act → World → Prop
 | 0, listed, a, w => Region.ready .any ops listed = [] ∧ Kf .normal a w
 | fuel + 1, listed, a, w => (Region.ready .any ops listed = [] → Kf .normal a w) ∧
   ∀ i ∈ Region.ready .any ops listed, wpOp P ops (QN Kf) i (fun a' w' => (∀ o, ops[i]? = some o → Left ops o a w a' w') ∧ wpX P ops Kf fuel (listed.setIfInBounds i true) a' w') a w
theorem Zdn {Kf : Exit → Act → World → Prop} : ∀ (fuel : Nat) (listed : Array Bool) (a : Act) (w : World), wpX P ops Kf fuel listed a w → wpAny P .any ops (QN Kf) fuel listed a w
 | 0, _, _, _, h => h
 | fuel + 1, _, _, _, h => ⟨h.1, fun i hi => wpOp_mono (fun a' w' h' => Zdn fuel _ a' w' h'.2) (h.2 i hi)⟩
theorem YieldsIf.weaken {S S' : World → Prop} {o : Oper} {v : Value} {a : Act} (hs : ∀ w, S' w → S w) (h : YieldsIf P ops S o v a) : YieldsIf P ops S' o v a :=
 h.imp (fun ⟨h1, h2⟩ => ⟨h1, fun w hw => h2 w (hs w hw)⟩) id
theorem Ztn {Kf : Exit → Act → World → Prop} {i : Nat} {oi : Oper} {v : Value} (hi : ops[i]? = some oi) (hsel : ∀ (j : Nat) (o : Oper) cs b, ops[j]? = some o → o.op ≠ .select cs b) (hqF : isF ops i = false)
  (ld : Bool) (T : List Nat) :
  ∀ (fuel : Nat) (listed : Array Bool) (a : Act) (w : World),
   (∀ j oj, ops[j]? = some oj → j ≠ i → listed.getD j true = false → j ∉ T → oi.apart ops oj = true ∧ (ld = true → early oj = true)) →
   (∀ t ∈ T, t < listed.size ∧ listed.getD t true = false ∧ ∃ ot, ops[t]? = some ot ∧ ∃ e ∈ ot.after, Region.binds .any e = true ∧ (e.on = i ∨ e.on ∈ T)) →
   i ∈ Region.ready .any ops listed → YieldsIf P ops (fun w' => ld = true → Ext w w') oi v a →
   wpX P ops Kf fuel (listed.setIfInBounds i true) (a.put oi.dst v) w → wpX P ops Kf (fuel + 1) listed a w := by
 intro fuel
 induction fuel with
 | zero =>
  intro listed a w _ _ hr hy H
  refine ⟨fun h => (by rw [h] at hr; cases hr), fun j hj => ?_⟩
  by_cases hji : j = i
  · subst hji; exact hy.wpOp hi (fun _ => Ext.refl w) ⟨fun o ho => by rw [hi] at ho; cases ho; exact Left.same hi hqF, H⟩
  ·
   have := ready_mono hj hji
   rw [H.1] at this
   cases this
 | succ fuel ih =>
  intro listed a w hfree hT hr hy H
  refine ⟨fun h => (by rw [h] at hr; cases hr), fun j hj => ?_⟩
  by_cases hji : j = i
  · subst hji; exact hy.wpOp hi (fun _ => Ext.refl w) ⟨fun o ho => by rw [hi] at ho; cases ho; exact Left.same hi hqF, H⟩
  ·
   have h1 := H.2 j (ready_mono hj hji)
   obtain ⟨hjun, oj, hoj, hall⟩ := mem_ready.1 hj
   have hunf : ∀ k, k < listed.size → listed.getD k true = false → listed.getD k false = true → False := fun k hk h0 h1 => by
    simp [hk] at h0 h1; rw [h0] at h1; cases h1
   have hisz : ∀ k, listed.getD k true = false → k < listed.size := fun k h0 => by
    rcases Nat.lt_or_ge k listed.size with h' | h'
    · exact h'
    · simp [Array.getElem?_eq_none h'] at h0
   have hnot : j ∉ T := fun hjT => by
    obtain ⟨_, _, ot, hot, e, he, hb, hk⟩ := hT j hjT
    rw [hoj] at hot; cases hot
    have h1 := hall e he hb
    rcases hk with hk | hk
    ·
     have h0 := (mem_ready.1 hr).1
     rw [hk] at h1; exact hunf i (hisz i h0) h0 h1
    · exact hunf e.on (hT _ hk).1 (hT _ hk).2.1 h1
   have hfj := hfree j oj hoj hji hjun hnot
   have h2 := wpOp_putIf hoj hfj.1 (fun cs b => hsel i oi cs b hi) (fun cs b => hsel j oj cs b hoj) (fun _ _ _ h => Qay h) hy h1
   have hfree' : ∀ k ok, ops[k]? = some ok → k ≠ i → (listed.setIfInBounds j true).getD k true = false →
     k ∉ T → oi.apart ops ok = true ∧ (ld = true → early ok = true) := fun k ok hk hki hun hno => by
    refine hfree k ok hk hki ?_ hno
    by_cases hjk : j = k
    · subst hjk; exact hjun
    · rw [getD_set_ne true hjk] at hun; exact hun
   refine wpOp_mono (fun a' w' h3 => ⟨fun o ho => (h3.2.1 o ho).unput hi hqF, ih (listed.setIfInBounds j true) a' w' hfree' (fun t ht => ⟨by simpa using (hT t ht).1, by rw [getD_set_ne true (fun e => hnot (by rw [e]; exact ht))]; exact (hT t ht).2.1, (hT t ht).2.2⟩) (ready_mono hr (Ne.symm hji)) (YieldsIf.weaken (fun w'' hw'' hl => ?_) h3.1) ?_⟩) h2
   · exact ((h3.2.1 oj hoj).1 (hfj.2 hl)).trans (hw'' hl)
   ·
    rw [Array.setIfInBounds_comm _ _ hji]
    exact h3.2.2
theorem Zxs {Kf : Exit → Act → World → Prop} {i b : Nat} {oi : Oper} {v : Value} {o0 : Obj} (hi : ops[i]? = some oi) (hsel : ∀ (j : Nat) (o : Oper) cs b, ops[j]? = some o → o.op ≠ .select cs b) (hqF : isF ops i = false) :
  ∀ (fuel : Nat) (listed : Array Bool) (a : Act) (w : World), w.heap[b]? = some o0 →
   (∀ j oj, ops[j]? = some oj → j ≠ i → listed.getD j true = false → (∀ e ∈ oj.after, Region.binds .any e = true → e.on ≠ i) → oi.apart ops oj = true ∧
    (early oj = true ∨ ∃ T t y, oj.op = .store T (.tmp t) y ∧ Zsw ops t ∧ ((∃ p : Addr, a.tmps.getD t undef = .pointer (some p) ∧ p.block ≠ b) ∨
     ∃ k ok, ops[k]? = some ok ∧ ok.dst = some t ∧ k < listed.size ∧ listed.getD k true = false ∧ ∃ e ∈ oj.after, Region.binds .any e = true ∧ e.on = k))) →
   i ∈ Region.ready .any ops listed → YieldsIf P ops (fun w' => w'.heap[b]? = some o0) oi v a →
   wpX P ops Kf fuel (listed.setIfInBounds i true) (a.put oi.dst v) w → wpX P ops Kf (fuel + 1) listed a w := by
 intro fuel
 induction fuel with
 | zero =>
  intro listed a w hb _ hr hy H
  refine ⟨fun h => (by rw [h] at hr; cases hr), fun j hj => ?_⟩
  by_cases hji : j = i
  · subst hji; exact hy.wpOp hi hb ⟨fun o ho => by rw [hi] at ho; cases ho; exact Left.same hi hqF, H⟩
  ·
   have := ready_mono hj hji
   rw [H.1] at this
   cases this
 | succ fuel ih =>
  intro listed a w hb hfree hr hy H
  refine ⟨fun h => (by rw [h] at hr; cases hr), fun j hj => ?_⟩
  by_cases hji : j = i
  · subst hji; exact hy.wpOp hi hb ⟨fun o ho => by rw [hi] at ho; cases ho; exact Left.same hi hqF, H⟩
  ·
   have h1 := H.2 j (ready_mono hj hji)
   obtain ⟨hjun, oj, hoj, hall⟩ := mem_ready.1 hj
   have hnot : ∀ e ∈ oj.after, Region.binds .any e = true → e.on ≠ i := fun e he hb heq => by
    have h1 := hall e he hb
    have h0 := (mem_ready.1 hr).1
    rw [heq] at h1
    rcases Nat.lt_or_ge i listed.size with h' | h'
    · simp [h'] at h0 h1; rw [h0] at h1; cases h1
    · simp [Array.getElem?_eq_none h'] at h1
   have hfj := hfree j oj hoj hji hjun hnot
   have h2 := wpOp_putIf hoj hfj.1 (fun cs b => hsel i oi cs b hi) (fun cs b => hsel j oj cs b hoj) (fun _ _ _ h => Qay h) hy h1
   refine wpOp_mono (fun a' w' h3 => ?_) h2
   have hL : Left ops oj a w a' w' := (h3.2.1 oj hoj).unput hi hqF
   have hlt : b < w.heap.size := by
    rcases Nat.lt_or_ge b w.heap.size with h' | h'
    · exact h'
    · simp [Array.getElem?_eq_none h'] at hb
   have hb' : w'.heap[b]? = some o0 := by
    rcases hfj.2 with he | ⟨T, t, y, he, hf, ⟨p, hp, hne⟩ | ⟨k, ok, hk, hkd, hks, hkl, e, hea, hbi, hon⟩⟩
    · rw [(hL.1 he).block b hlt]; exact hb
    · rw [hL.2.1 T t y p he hf hp b (Ne.symm hne)]; exact hb
    ·
     exfalso
     have h5 := hall e hea hbi
     rw [hon] at h5
     simp [hks] at h5 hkl
     rw [hkl] at h5; cases h5
   refine ⟨fun o ho => (h3.2.1 o ho).unput hi hqF, ih (listed.setIfInBounds j true) a' w' hb' ?_ (ready_mono hr (Ne.symm hji)) h3.1 ?_⟩
   ·
    intro k ok hk hki hun hno
    have hun' : listed.getD k true = false := by
     by_cases hjk : j = k
     · subst hjk; exact hjun
     · rw [getD_set_ne true hjk] at hun; exact hun
    obtain ⟨g1, g2⟩ := hfree k ok hk hki hun' hno
    refine ⟨g1, ?_⟩
    rcases g2 with g2 | ⟨T, t, y, he, hf, g3⟩
    · exact .inl g2
    ·
     refine .inr ⟨T, t, y, he, hf, ?_⟩
     by_cases hdt : oj.dst = some t
     ·
      obtain ⟨b2, h5, h6⟩ := hL.2.2.2 t hdt hf
      exact .inl ⟨_, h5, by show b2 ≠ b; omega⟩
     ·
      rcases g3 with ⟨p, hp, hne⟩ | ⟨k2, ok2, hk2, hkd, hks, hkl, he2⟩
      · exact .inl ⟨p, by rw [hL.2.2.1 t hf hdt]; exact hp, hne⟩
      ·
       refine .inr ⟨k2, ok2, hk2, hkd, by simpa using hks, ?_, he2⟩
       rw [getD_set_ne true (fun e => hdt (by subst e; rw [hoj] at hk2; cases hk2; exact hkd))]; exact hkl
   ·
    rw [Array.setIfInBounds_comm _ _ hji]
    exact h3.2.2
theorem Zro {o : Oper} {a : Act} {K : Act → World → Prop} {Q Q' : Exit → Act → World → Prop} (hq : ∀ e a w, Q e a w → Q' e a w) {r : Result Next}
  (h : o.upon P a K Q r) : o.upon P a K Q' r := by
 cases r with
 | ok nx w' =>
  cases nx <;> simp only [Oper.upon] at h ⊢ <;> try exact h
  case enter f args =>
   refine h.mono fun e w'' he => ?_
   cases e with
   | returned v => exact he
   | panicked c => exact hq _ _ _ he
   | outgrown => obtain ⟨a0, w0, h0⟩ := he; exact ⟨a0, w0, hq _ _ _ h0⟩
 | halt x w' =>
  cases x <;> simp only [Oper.upon] at h ⊢ <;> try exact h
  case panic v => exact hq _ _ _ h
theorem Zf3 {i : Nat} {a : Act} {w : World} {K : Act → World → Prop} {Q Q' : Exit → Act → World → Prop} (hq : ∀ e a w, Q e a w → Q' e a w)
  (h : wpOp P ops Q i K a w) : wpOp P ops Q' i K a w := by
 unfold wpOp at *
 split
 · rename_i ho; simp only [ho] at h; exact h
 ·
  rename_i o ho
  simp only [ho] at h
  split
  ·
   rename_i hw
   simp only [hw, if_true] at h
   rcases h with h | ⟨h1, a0, w0, h2⟩
   · exact .inl (Zro hq h)
   · exact .inr ⟨h1, a0, w0, hq _ _ _ h2⟩
  · rename_i hw; simp only [hw] at h; exact h
def Qbr (d : Option Tmp) (v : Value) (L : List (Nat × Value)) : List (Nat × Value) :=
 match d with
 | some d => (d, v) :: L
 | none => L
def Zn8 (ops : Array Oper) (i : Nat) (H : List Nat) : Bool := !(waits ops i fun k => k == i || H.contains k)
def later (ops : Array Oper) (i : Nat) : List Nat → List Nat → List Nat
 | acc, [] => acc
 | acc, j :: H => if waits ops j (fun k => k == i || acc.contains k) then later ops i (j :: acc) H else later ops i acc H
theorem Zjt {j : Nat} {p q : Nat → Bool} (h : ∀ k, p k = true → q k = true) (hw : waits ops j p = true) : waits ops j q = true := by
 unfold waits at *
 split at hw
 ·
  obtain ⟨e, he, hb⟩ := Array.any_eq_true'.1 hw
  simp only [Bool.and_eq_true] at hb
  exact Array.any_eq_true'.2 ⟨e, he, by simp [hb.1, h _ hb.2]⟩
 · cases hw
theorem Zgg {i : Nat} : ∀ (H acc : List Nat), (∀ t ∈ acc, waits ops t (fun k => k == i || acc.contains k) = true) →
  ∀ t ∈ later ops i acc H, (t ∈ acc ∨ t ∈ H) ∧ waits ops t (fun k => k == i || (later ops i acc H).contains k) = true
 | [], acc, ha, t, ht => ⟨.inl ht, ha t ht⟩
 | j :: H, acc, ha, t, ht => by
  unfold later at ht ⊢
  split at ht
  ·
   rename_i hw
   rw [if_pos hw]
   obtain ⟨h1, h2⟩ := Zgg H (j :: acc) (fun t ht => by
    rcases List.mem_cons.1 ht with rfl | ht
    ·
     exact Zjt (fun k hk => by
      simp only [Bool.or_eq_true, List.contains_iff_mem, List.mem_cons] at hk ⊢
      exact hk.imp id .inr) hw
    ·
     exact Zjt (fun k hk => by
      simp only [Bool.or_eq_true, List.contains_iff_mem, List.mem_cons] at hk ⊢
      exact hk.imp id .inr) (ha t ht)) t ht
   refine ⟨?_, h2⟩
   rcases h1 with h1 | h1
   ·
    rcases List.mem_cons.1 h1 with rfl | h1
    · exact .inr List.mem_cons_self
    · exact .inl h1
   · exact .inr (List.mem_cons_of_mem _ h1)
  ·
   rename_i hw
   rw [if_neg hw]
   obtain ⟨h1, h2⟩ := Zgg H acc ha t ht
   exact ⟨h1.imp id (List.mem_cons_of_mem _), h2⟩
def Kz (ops : Array Oper) (ld : Bool) (i : Nat) (H : List Nat) : Bool :=
 !isF ops i && Zn8 ops i H && H.all fun j => (later ops i [] H).contains j ||
  (match ops[i]?, ops[j]? with | some oi, some oj => oi.apart ops oj && (!ld || early oj) | _, _ => false)
def Zvo (ops : Array Oper) (i : Nat) (H : List Nat) (ts : List Nat) : Bool :=
  !isF ops i && Zn8 ops i H && (H.all fun j => waits ops j (· == i) ||
    (match ops[i]?, ops[j]? with
     | some oi, some oj => oi.apart ops oj && (early oj || (match oj.op with | .store _ (.tmp t) _ => ts.contains t || (H.any fun k => isF ops k && ((ops[k]?).bind (·.dst) == some t) && waits ops j (· == k)) | _ => false))
     | _, _ => false)) &&
  ts.all fun t => ops.all fun o => !(o.dst == some t)
def Gl (ops : Array Oper) (i : Nat) (H : List Nat) : Bool :=
 !isF ops i && Zn8 ops i H && H.all fun j => isF ops j || waits ops j fun k => k == i || (H.contains k && !isF ops k)
def Zlp (ops : Array Oper) (i : Nat) (H : List Nat) : Bool :=
 isF ops i && H.all fun j => isF ops j || waits ops j fun k => k == i || (H.contains k && !isF ops k)
def Znb (ops : Array Oper) : Bool :=
 (List.range ops.size).all fun j => (List.range ops.size).all fun k => j == k ||
  (match (ops[j]?).bind (·.dst), (ops[k]?).bind (·.dst) with | some x, some y => !(x == y) | _, _ => true)
theorem Zba (h : Znb ops = true) {j k d : Nat} {oj ok : Oper} (hj : ops[j]? = some oj) (hk : ops[k]? = some ok) (hd : oj.dst = some d) (he : ok.dst = some d) : j = k := by
 unfold Znb at h
 have h1 := List.all_eq_true.1 h j (List.mem_range.2 (Array.getElem?_eq_some_iff.1 hj).1)
 have h2 := List.all_eq_true.1 h1 k (List.mem_range.2 (Array.getElem?_eq_some_iff.1 hk).1)
 simp [hj, hk, hd, he] at h2
 exact h2
theorem Zjs {j : Nat} {p : Nat → Bool} {listed : Array Bool} (h : waits ops j p = true) (hr : j ∈ Region.ready .any ops listed) : ∃ k, p k = true ∧ listed.getD k false = true := by
 obtain ⟨_, o, ho, hall⟩ := mem_ready.1 hr
 unfold waits at h
 simp only [ho] at h
 obtain ⟨e, he, hb⟩ := Array.any_eq_true'.1 h
 simp only [Bool.and_eq_true] at hb
 exact ⟨e.on, hb.2, hall e he hb.1⟩
theorem Zbz {i : Nat} {H : List Nat} {listed : Array Bool} {o : Oper} (ho : ops[i]? = some o) (h : Zn8 ops i H = true)
  (hl : ∀ k, k < ops.size → k ≠ i → k ∉ H → listed.getD k false = true) (hi : listed.getD i true = false) (hon : ∀ e ∈ o.after, e.on < ops.size) : i ∈ Region.ready .any ops listed := by
 refine mem_ready.2 ⟨hi, o, ho, fun e he hb => ?_⟩
 unfold Zn8 waits at h
 simp only [ho, Bool.not_eq_true'] at h
 have h1 : ¬ ((e.on == i || H.contains e.on) = true) := fun hc => by
  have : (o.after.any fun e => Region.binds .any e && (e.on == i || H.contains e.on)) = true :=
   Array.any_eq_true'.2 ⟨e, he, by simp only [hb, Bool.true_and]; exact hc⟩
  rw [this] at h; cases h
 simp only [Bool.or_eq_true, beq_iff_eq, List.contains_iff_mem, not_or] at h1
 exact hl e.on (hon e he) h1.1 h1.2
def onOK (ops : Array Oper) : Bool := ops.all fun o => o.after.all fun e => decide (e.on < ops.size)
theorem Gm : ∀ {l l' : List Nat}, l.Nodup → l ⊆ l' → l.length ≤ l'.length
 | [], _, _, _ => Nat.zero_le _
 | x :: l, l', hn, hs => by
  have hx : x ∈ l' := hs List.mem_cons_self
  have hn' := List.nodup_cons.1 hn
  have := Gm (l := l) (l' := l'.erase x) hn'.2 (fun y hy => (List.mem_erase_of_ne (fun e => hn'.1 (by rw [← e]; exact hy))).2 (hs (List.mem_cons_of_mem _ hy)))
  rw [List.length_erase_of_mem hx] at this
  have h0 := List.length_pos_of_mem hx
  simp; omega
def Zaz (ops : Array Oper) (H : List Nat) : Array Bool := ((List.range ops.size).map fun k => !H.contains k).toArray
def Qaj (ops : Array Oper) (i j : Nat) (H : List Nat) : Bool :=
 !isF ops i && !isF ops j && H.contains j && Zn8 ops i H && Zn8 ops j (i :: H.erase j) && H.all fun k => k == j || isF ops k || waits ops k fun m => m == i || m == j || (H.contains m && !isF ops m)
def Zhv (P : Program) (ops : Array Oper) (n : Nat) (S : Nat → Prop) (w0 : World) (i : Nat) (o : Oper) (C : List (Nat × Value) → List (Nat × Obj) → List Qf → Prop) (L : List (Nat × Value)) (σ : List (Nat × Obj)) (Φ : List Qf) : Prop :=
 ∀ a w σx, St n S w0 L (σx ++ σ) Φ a w → wpOp P ops (fun _ _ _ => False) i (fun a' w' => ((early o = true → Ext w w') ∧ Znn o a w w') ∧ ∃ v σ' Φ', a' = a.put o.dst v ∧ St n S w0 (Qbr o.dst v L) (σx ++ σ') Φ' a' w' ∧
  C (Qbr o.dst v L) σ' Φ') a w
abbrev HeadC (P : Program) (ops : Array Oper) (n : Nat) (S : Nat → Prop) (w0 : World) (Kf : Exit → Act → World → Prop) (i : Nat) (H : List Nat) (C : List (Nat × Value) → List (Nat × Obj) → List Qf → Prop) (D : Nat → List (Nat × Value) → List (Nat × Obj) → List Qf → Prop) (L : List (Nat × Value)) (σ : List (Nat × Obj)) (Φ : List Qf) : Prop :=
 (∃ o d v, ∃ ld : Bool, ops[i]? = some o ∧ o.dst = some d ∧ d < n ∧ Kz ops ld i H = true ∧
   (∀ a w σx, St n S w0 L (σx ++ σ) Φ a w → YieldsIf P ops (fun w' => ld = true → Ext w w') o v a) ∧ C ((d, v) :: L) σ Φ) ∨
  (∃ o, ops[i]? = some o ∧ Gl ops i H = true ∧
   (∀ a w σx, St n S w0 L (σx ++ σ) Φ a w → wpOp P ops (fun _ _ _ => False) i (fun a' w' => ((early o = true → Ext w w') ∧ Znn o a w w') ∧ ∃ v σ' Φ', a' = a.put o.dst v ∧ St n S w0 (Qbr o.dst v L) (σx ++ σ') Φ' a' w' ∧
    C (Qbr o.dst v L) σ' Φ') a w)) ∨
  (∃ d T z ty pos after, ops[i]? = some ⟨some d, .alloc T, ty, pos, after, none⟩ ∧ Zlp ops i H = true ∧ (∀ w, (zeroValue T).run P w = .ok z w) ∧ d < n ∧
   ∀ b, C ((d, .pointer (some ⟨b, 0, none⟩)) :: L) ((b, .cells z.cells T (0, 0)) :: σ) Φ) ∨
  (∃ o d v b, ∃ ts : List Nat, ops[i]? = some o ∧ o.dst = some d ∧ d < n ∧ Zvo ops i H ts = true ∧
   (∀ a w σx, St n S w0 L (σx ++ σ) Φ a w → ∃ o0, w.heap[b]? = some o0 ∧ YieldsIf P ops (fun w' => w'.heap[b]? = some o0) o v a ∧ (∀ q ∈ σx, q.1 ≠ b) ∧ ∀ t ∈ ts, ∃ p : Addr, look L t = some (.pointer (some p)) ∧ p.block ≠ b) ∧
   C ((d, v) :: L) σ Φ) ∨
  (((i :: H).all fun j => !isF ops j) = true ∧ ∀ a w, St n S w0 L σ Φ a w → wpX P ops Kf (H.length + 1) (Zaz ops (i :: H)) a w) ∨
  (∃ j oi oj, ops[i]? = some oi ∧ ops[j]? = some oj ∧ Qaj ops i j H = true ∧
   Zhv P ops n S w0 i oi (fun L σ Φ => C L σ Φ) L σ Φ ∧ Zhv P ops n S w0 j oj (fun L σ Φ => D j L σ Φ) L σ Φ)
def Zzw (P : Program) (ops : Array Oper) (n : Nat) (S : Nat → Prop) (w0 : World) (Kf : Exit → Act → World → Prop) : Nat → List Nat → List (Nat × Value) → List (Nat × Obj) → List Qf → Prop
 | _ + 1, [] => fun L σ Φ => ∀ a w, St n S w0 L σ Φ a w → Kf .normal a w
 | 0, _ => fun L σ Φ => ∀ a w, St n S w0 L σ Φ a w → Kf .normal a w
 | k + 1, i :: H => fun L σ Φ => HeadC P ops n S w0 Kf i H (Zzw P ops n S w0 Kf k H) (fun j => Zzw P ops n S w0 Kf k (i :: H.erase j)) L σ Φ
def Head (P : Program) (ops : Array Oper) (n : Nat) (S : Nat → Prop) (w0 : World) (Kf : Exit → Act → World → Prop) (H : List Nat) (L : List (Nat × Value)) (σ : List (Nat × Obj)) (Φ : List Qf) : Prop := Zzw P ops n S w0 Kf H.length H L σ Φ
theorem Zwv {P : Program} {ops : Array Oper} {n : Nat} {S : Nat → Prop} {w0 : World} {Kf : Exit → Act → World → Prop} {i : Nat} {H : List Nat} {L : List (Nat × Value)} {σ : List (Nat × Obj)} {Φ : List Qf} :
  Head P ops n S w0 Kf (i :: H) L σ Φ = HeadC P ops n S w0 Kf i H (fun L σ Φ => Head P ops n S w0 Kf H L σ Φ) (fun j => Zzw P ops n S w0 Kf H.length (i :: H.erase j)) L σ Φ := rfl
structure Flo where
 i : Nat
 d : Nat
 b : Nat
 T : TypeId
 z : Value
def Flo.fits (P : Program) (ops : Array Oper) (g : Flo) : Prop :=
 (∃ ty pos after, ops[g.i]? = some ⟨some g.d, .alloc g.T, ty, pos, after, none⟩) ∧ isF ops g.i = true ∧ (∀ w, (zeroValue g.T).run P w = .ok g.z w)
def Flo.own (g : Flo) : Nat × Obj := (g.b, .cells g.z.cells g.T (0, 0))
variable {n : Nat} {S : Nat → Prop} {w0 : World} {L : List (Nat × Value)} {σ : List (Nat × Obj)} {Φ : List Qf} {a : Act} {w : World}
theorem St.perm (h : St n S w0 L σ Φ a w) {σ' : List (Nat × Obj)} (hp : σ'.Perm σ) : St n S w0 L σ' Φ a w :=
 { h with
  own := fun p hp' => h.own p (hp.mem_iff.1 hp')
  new := fun p hp' => h.new p (hp.mem_iff.1 hp')
  nd := (hp.pairwise_iff (fun {x y} hxy => Ne.symm hxy)).2 h.nd
  facts := by
   obtain ⟨X, h1, h2, h3, h4⟩ := h.facts
   exact ⟨X, h1, fun p hp' => h2 p (hp.mem_iff.1 hp'), h3, h4⟩ }
theorem St.learn (h : St n S w0 L σ Φ a w) {d : Nat} {v : Value} (hd : a.tmps.getD d undef = v) : St n S w0 ((d, v) :: L) σ Φ a w :=
 { h with
  val := fun t u ht => by
   simp only [look] at ht
   cases hb : Nat.beq d t with
   | true => rw [hb] at ht; simp at ht; have := Nat.eq_of_beq_eq_true hb; subst this; rw [hd, ht]
   | false => rw [hb] at ht; exact h.val t u (by simpa using ht) }
theorem St.putFresh (h : St n S w0 L σ Φ a w) {d : Nat} (hd : d < n) (v : Value) (hf : look L d = none) : St n S w0 L σ Φ (a.put (some d) v) w :=
 (h.put hd v).sub fun t u ht => by
  simp only [look]
  cases hb : Nat.beq d t with
  | true => have := Nat.eq_of_beq_eq_true hb; subst this; rw [hf] at ht; cases ht
  | false => simpa using ht
theorem Zbp {d e : Nat} {v : Value} (h : d ≠ e) : (a.put (some d) v).tmps.getD e undef = a.tmps.getD e undef := by
 simp [Act.put, Array.getElem?_setIfInBounds_ne h]
theorem Zfw {d : Nat} {v : Value} (h : d < a.tmps.size) : (a.put (some d) v).tmps.getD d undef = v := by
 simp [Act.put, h]
theorem Zsx (h : St n S w0 L σ Φ a w) {j : Nat} {d : Nat} {T : TypeId} {z : Value} {ty : TypeId} {pos : String} {after : Array Edge} {Q : Exit → Act → World → Prop}
  (hj : ops[j]? = some ⟨some d, .alloc T, ty, pos, after, none⟩) (hz : ∀ w, (zeroValue T).run P w = .ok z w) (hd : d < n) (hf : look L d = none) {K : Act → World → Prop}
  (k : ∀ b w', w.heap.size ≤ b → Ext w w' → St n S w0 L ((b, .cells z.cells T (0, 0)) :: σ) Φ (a.put (some d) (.pointer (some ⟨b, 0, none⟩))) w' → K (a.put (some d) (.pointer (some ⟨b, 0, none⟩))) w') :
  wpOp P ops Q j K a w := by
 unfold wpOp
 simp only [hj]
 rw [if_pos (by rfl)]
 refine .inl (Xf (v := .pointer (some ⟨w.heap.size, 0, none⟩)) (w' := w.alloc (.cells z.cells T (0, 0))) ?_ (k _ _ (Nat.le_refl _) ((Below.refl _ _).alloc (Nat.le_refl _) _) ((h.alloc _).putFresh hd _ hf)))
 simp only [execOp, Instr.alloc, Sem.run_bind, hz, Result.andThen]
 rfl
theorem Zlk {j : Nat} (h : isF ops j = true) : ∃ d T ty pos after, ops[j]? = some ⟨some d, .alloc T, ty, pos, after, none⟩ := by
 unfold isF at h
 split at h
 · rename_i d T ty pos after ho; exact ⟨d, T, ty, pos, after, ho⟩
 · cases h
def Zah (P : Program) (ops : Array Oper) (n : Nat) (H : List Nat) (L : List (Nat × Value)) : Prop :=
 ∀ j ∈ H, ∀ d T ty pos after, ops[j]? = some ⟨some d, .alloc T, ty, pos, after, none⟩ → isF ops j = true → look L d = none ∧ d < n ∧ ∃ z, ∀ w, (zeroValue T).run P w = .ok z w
theorem Zmw {Kf : Exit → Act → World → Prop} {m : Nat} (hdst : Znb ops = true)
  (ih : ∀ (fuel : Nat) (H : List Nat) (L : List (Nat × Value)) (σ : List (Nat × Obj)) (Φ : List Qf) (G : List Flo) (listed : Array Bool) (a : Act) (w : World),
  fuel + H.length ≤ m → Head P ops n S w0 Kf H L σ Φ → St n S w0 L (G.map Flo.own ++ σ) Φ a w →
  (∀ g ∈ G, a.tmps.getD g.d undef = .pointer (some ⟨g.b, 0, none⟩)) → (∀ g ∈ G, g.fits P ops ∧ g.i ∈ H) → (G.map (·.i)).Nodup → H.Nodup → (∀ i ∈ H, i < ops.size) →
  Zah P ops n H L →
  listed.size = ops.size → (∀ i, i < ops.size → (listed.getD i true = true ↔ (i ∉ H ∨ i ∈ G.map (·.i)))) → fuel + G.length = H.length →
  wpX P ops Kf fuel listed a w)
  {fuel i : Nat} {H2 : List Nat} {G : List Flo} {listed : Array Bool} {oi : Oper}
  (hm : fuel + 1 + (i :: H2).length ≤ m + 1) (hst : St n S w0 L (G.map Flo.own ++ σ) Φ a w)
  (hgt : ∀ g ∈ G, a.tmps.getD g.d undef = .pointer (some ⟨g.b, 0, none⟩)) (hgf : ∀ g ∈ G, g.fits P ops ∧ g.i ∈ i :: H2) (hgn : (G.map (·.i)).Nodup) (hn : (i :: H2).Nodup) (hlt : ∀ k ∈ i :: H2, k < ops.size)
  (hfl : Zah P ops n (i :: H2) L) (hsz : listed.size = ops.size) (hl : ∀ k, k < ops.size → (listed.getD k true = true ↔ (k ∉ i :: H2 ∨ k ∈ G.map (·.i)))) (hfu : fuel + 1 + G.length = (i :: H2).length)
  (ho : ops[i]? = some oi) (hiF : isF ops i = false)
  (hw : Zhv P ops n S w0 i oi (fun L σ Φ => Head P ops n S w0 Kf H2 L σ Φ) L σ Φ) :
  wpOp P ops (QN Kf) i (fun a' w' => (∀ o, ops[i]? = some o → Left ops o a w a' w') ∧ wpX P ops Kf fuel (listed.setIfInBounds i true) a' w') a w := by
 have hnd := List.nodup_cons.1 hn
 have hiG : i ∉ G.map (·.i) := fun hm' => by
  obtain ⟨g, hg, rfl⟩ := List.mem_map.1 hm'
  have := (hgf g hg).1.2.1
  rw [hiF] at this; cases this
 have hset : ∀ k i, i < ops.size → ((listed.setIfInBounds k true).getD i true = true ↔ (i = k ∨ listed.getD i true = true)) := fun k i hi => by
  by_cases hki : k = i
  · subst hki; simp [hsz, hi]
  · rw [getD_set_ne true hki]; simp [Ne.symm hki]
 refine wpOp_mono (fun a' w' h => ?_) (Zf3 (fun _ _ _ h => h.elim) (hw a w _ hst))
 obtain ⟨hex, v, σ', Φ', rfl, hst', hC⟩ := h
 refine ⟨fun o' ho' => by
  rw [ho] at ho'; cases ho'
  exact ⟨hex.1, fun T t y p he _ hp => hex.2 T t y p he hp, fun t ht => Zfl ho ht, fun t hd hf => by have h1 := hf i oi ho hd; rw [hiF] at h1; cases h1⟩, ?_⟩
 have hne : ∀ g ∈ G, oi.dst ≠ some g.d := fun g hg he => by
  obtain ⟨⟨⟨ty', pos', after', hog⟩, _, _⟩, _⟩ := hgf g hg
  have := Zba hdst ho hog he rfl
  exact hiG (this ▸ List.mem_map.2 ⟨g, hg, rfl⟩)
 refine ih fuel H2 _ σ' Φ' G _ _ w' (by simp at hm ⊢; omega) hC hst' ?_ ?_ hgn hnd.2 (fun k hk => hlt k (List.mem_cons_of_mem _ hk)) ?_ (by simp [hsz]) ?_ (by simp at hfu ⊢; omega)
 ·
  intro g hg
  have hne := hne g hg
  cases hd : oi.dst with
  | none => exact hgt g hg
  | some e => rw [Zbp (fun he => hne (by rw [hd, he]))]; exact hgt g hg
 ·
  intro g hg
  obtain ⟨h1, h2⟩ := hgf g hg
  refine ⟨h1, ?_⟩
  rcases List.mem_cons.1 h2 with h | h
  · exact absurd (h ▸ List.mem_map.2 ⟨g, hg, rfl⟩) hiG
  · exact h
 ·
  intro k hk d T ty pos after hok hkF
  obtain ⟨h1, h2, h3⟩ := hfl k (List.mem_cons_of_mem _ hk) d T ty pos after hok hkF
  refine ⟨?_, h2, h3⟩
  cases hd : oi.dst with
  | none => exact h1
  | some e =>
   simp only [Qbr, look]
   cases hb : Nat.beq e d with
   | false => simpa using h1
   | true =>
    exfalso
    have := Nat.eq_of_beq_eq_true hb
    subst this
    have := Zba hdst ho hok hd rfl
    exact hnd.1 (this ▸ hk)
 ·
  intro k hk
  rw [hset i k hk, hl k hk]
  simp only [List.mem_cons (a := k) (b := i), not_or]
  constructor
  ·
   rintro (rfl | ⟨_, h⟩ | h)
   · exact .inl hnd.1
   · exact .inl h
   · exact .inr h
  ·
   rintro (h | h)
   ·
    by_cases hki : k = i
    · exact .inl hki
    · exact .inr (.inl ⟨hki, h⟩)
   · exact .inr (.inr h)
theorem Zkk {Kf : Exit → Act → World → Prop} (hsel : Region.noSelect ops = true) (hdst : Znb ops = true) (hon : onOK ops = true) : ∀ (m fuel : Nat) (H : List Nat) (L : List (Nat × Value)) (σ : List (Nat × Obj)) (Φ : List Qf) (G : List Flo) (listed : Array Bool) (a : Act) (w : World),
    fuel + H.length ≤ m → Head P ops n S w0 Kf H L σ Φ → St n S w0 L (G.map Flo.own ++ σ) Φ a w →
    (∀ g ∈ G, a.tmps.getD g.d undef = .pointer (some ⟨g.b, 0, none⟩)) → (∀ g ∈ G, g.fits P ops ∧ g.i ∈ H) → (G.map (·.i)).Nodup → H.Nodup → (∀ i ∈ H, i < ops.size) →
    Zah P ops n H L →
    listed.size = ops.size → (∀ i, i < ops.size → (listed.getD i true = true ↔ (i ∉ H ∨ i ∈ G.map (·.i)))) → fuel + G.length = H.length →
    wpX P ops Kf fuel listed a w := by
  intro m
  induction m with
  | zero =>
    intro fuel H L σ Φ G listed a w hm hH hst hgt hgf hgn hn hlt hfl hsz hl hfu
    have : H = [] := List.eq_nil_of_length_eq_zero (by omega)
    subst this
    have : fuel = 0 := by simp at hfu; omega
    subst this
    have hG : G = [] := by simpa using hfu
    subst hG
    refine ⟨?_, hH a w hst⟩
    apply List.eq_nil_iff_forall_not_mem.2
    intro i hi
    obtain ⟨h0, o, ho, _⟩ := mem_ready.1 hi
    have := (hl i (Array.getElem?_eq_some_iff.1 ho).1).2 (.inl (by simp))
    rw [h0] at this; cases this
  | succ m ih =>
    intro fuel H L σ Φ G listed a w hm hH hst hgt hgf hgn hn hlt hfl hsz hl hfu
    cases H with
    | nil =>
      have : fuel = 0 := by simp at hfu; omega
      subst this
      exact ih 0 [] L σ Φ G listed a w (by simp) hH hst hgt hgf hgn hn hlt hfl hsz hl hfu
    | cons i H =>
      have hnd := List.nodup_cons.1 hn
      have hisz := hlt i List.mem_cons_self
      have hget : ∀ k, k < ops.size → listed.getD k false = listed.getD k true := fun k hk => by simp [hsz, hk]
      -- listed behind an operation
      have hl2 : ∀ k, (listed.setIfInBounds k true).size = ops.size := fun k => by simp [hsz]
      have hset : ∀ k i, i < ops.size → ((listed.setIfInBounds k true).getD i true = true ↔ (i = k ∨ listed.getD i true = true)) := fun k i hi => by
        by_cases hki : k = i
        · subst hki; simp [hsz, hi]
        · rw [getD_set_ne true hki]; simp [Ne.symm hki]
      -- a local that comes early
      have hfloat : ∀ j fuel', fuel = fuel' + 1 → j ∈ i :: H → j ∉ G.map (·.i) → isF ops j = true → ∀ (Q : Exit → Act → World → Prop),
          wpOp P ops Q j (fun a' w' => (∀ o, ops[j]? = some o → Left ops o a w a' w') ∧ wpX P ops Kf fuel' (listed.setIfInBounds j true) a' w') a w := by
        intro j fuel' hfuel' hjH hjG hjF Q
        obtain ⟨d, T, ty, pos, after, ho⟩ := Zlk hjF
        obtain ⟨hfr, hdn, z, hz⟩ := hfl j hjH d T ty pos after ho hjF
        refine Zsx hst ho hz hdn hfr fun b w' hnb hext hst' => ⟨fun o' ho' => by
          rw [ho] at ho'; cases ho'
          exact ⟨fun _ => hext, (fun _ _ _ _ he => by cases he), fun t ht => Zfl (o := ⟨some d, .alloc T, ty, pos, after, none⟩) ho ht, fun t hdt _ => by
            cases hdt
            exact ⟨b, Zfw (by rw [hst.size]; exact hdn), hnb⟩⟩, ?_⟩
        refine ih fuel' (i :: H) L σ Φ (⟨j, d, b, T, z⟩ :: G) (listed.setIfInBounds j true) _ w' (by simp at hm ⊢; omega) hH hst' ?_ ?_ ?_ hn hlt hfl (hl2 j) ?_ (by simp at hfu ⊢; omega)
        · intro g hg
          rcases List.mem_cons.1 hg with rfl | hg
          · exact Zfw (by rw [hst.size]; exact hdn)
          · rw [Zbp]
            · exact hgt g hg
            · intro he
              obtain ⟨⟨⟨ty', pos', after', hog⟩, _, _⟩, _⟩ := hgf g hg
              have := Zba hdst ho hog rfl (by simp only [he])
              exact hjG (this ▸ List.mem_map.2 ⟨g, hg, rfl⟩)
        · intro g hg
          rcases List.mem_cons.1 hg with rfl | hg
          · exact ⟨⟨⟨ty, pos, after, ho⟩, hjF, hz⟩, hjH⟩
          · exact hgf g hg
        · simp only [List.map_cons, List.nodup_cons]; exact ⟨hjG, hgn⟩
        · intro k hk
          rw [hset j k hk, hl k hk]
          simp only [List.map_cons, List.mem_cons]
          constructor
          · rintro (rfl | h | h)
            · exact .inr (.inl rfl)
            · exact .inl (by simpa using h)
            · exact .inr (.inr h)
          · rintro (h | rfl | h)
            · exact .inr (.inl (by simpa using h))
            · exact .inl rfl
            · exact .inr (.inr h)
      have hunl : ∀ k, k ∈ i :: H → k ∉ G.map (·.i) → listed.getD k true = false := fun k hk hkG => by
        cases hv : listed.getD k true with
        | false => rfl
        | true => rcases (hl k (hlt k hk)).1 hv with h | h
                  · exact absurd hk h
                  · exact absurd h hkG
      have hlis : ∀ k, k < ops.size → k ≠ i → k ∉ H → listed.getD k false = true := fun k hk hki hkH => by
        rw [hget k hk]; exact (hl k hk).2 (.inl (by simp [hki, hkH]))
      have hnotG : isF ops i = false → i ∉ G.map (·.i) := fun hf hm' => by
        obtain ⟨g, hg, rfl⟩ := List.mem_map.1 hm'
        have := (hgf g hg).1.2.1
        rw [hf] at this; cases this
      -- what may come up is number i, or a local
      have hcome : (H.all fun j => isF ops j || waits ops j fun k => k == i || (H.contains k && !isF ops k)) = true → i ∉ G.map (·.i) → ∀ j ∈ Region.ready .any ops listed, j = i ∨ (j ∈ i :: H ∧ j ∉ G.map (·.i) ∧ isF ops j = true) := by
        intro hall hiG j hj
        obtain ⟨h0, o, ho, _⟩ := mem_ready.1 hj
        have hjs := (Array.getElem?_eq_some_iff.1 ho).1
        have hnl : ¬ (j ∉ i :: H ∨ j ∈ G.map (·.i)) := fun hc => by rw [(hl j hjs).2 hc] at h0; cases h0
        have hjH : j ∈ i :: H := Classical.byContradiction fun h => hnl (.inl h)
        have hjG : j ∉ G.map (·.i) := fun h => hnl (.inr h)
        by_cases hji : j = i
        · exact .inl hji
        · right
          refine ⟨hjH, hjG, ?_⟩
          have hjH' : j ∈ H := by rcases List.mem_cons.1 hjH with h | h; exact absurd h hji; exact h
          have h1 := List.all_eq_true.1 hall j hjH'
          rcases Bool.or_eq_true_iff.1 h1 with h1 | h1
          · exact h1
          · obtain ⟨k, hk, hkl⟩ := Zjs h1 hj
            exfalso
            simp only [Bool.or_eq_true, beq_iff_eq, Bool.and_eq_true, List.contains_iff_mem, Bool.not_eq_true'] at hk
            rcases hk with rfl | ⟨hkH, hkF⟩
            · rw [hget k hisz, hunl k List.mem_cons_self hiG] at hkl; cases hkl
            · have hkG : k ∉ G.map (·.i) := fun hm' => by
                obtain ⟨g, hg, rfl⟩ := List.mem_map.1 hm'
                have := (hgf g hg).1.2.1
                rw [hkF] at this; cases this
              rw [hget k (hlt k (List.mem_cons_of_mem _ hkH)), hunl k (List.mem_cons_of_mem _ hkH) hkG] at hkl; cases hkl
      have honi : ∀ o, ops[i]? = some o → ∀ e ∈ o.after, e.on < ops.size := fun o ho e he => by
        unfold onOK at hon
        have h1 := Array.all_eq_true'.1 hon o (Array.mem_of_getElem? ho)
        have h2 := Array.all_eq_true'.1 h1 e he
        simpa using h2
      -- the state of 'listed' behind number i
      have hl3 : i ∉ G.map (·.i) → ∀ k, k < ops.size → ((listed.setIfInBounds i true).getD k true = true ↔ (k ∉ H ∨ k ∈ G.map (·.i))) := fun hiG k hk => by
        rw [hset i k hk, hl k hk]
        simp only [List.mem_cons, not_or]
        constructor
        · rintro (rfl | ⟨_, h⟩ | h)
          · exact .inl hnd.1
          · exact .inl h
          · exact .inr h
        · rintro (h | h)
          · by_cases hki : k = i
            · exact .inl hki
            · exact .inr (.inl ⟨hki, h⟩)
          · exact .inr (.inr h)
      have hgf' : i ∉ G.map (·.i) → ∀ g ∈ G, g.fits P ops ∧ g.i ∈ H := fun hiG g hg => by
        obtain ⟨h1, h2⟩ := hgf g hg
        refine ⟨h1, ?_⟩
        rcases List.mem_cons.1 h2 with h | h
        · exact absurd (h ▸ List.mem_map.2 ⟨g, hg, rfl⟩) hiG
        · exact h
      have hflG : ∀ g ∈ G, ∀ o, ops[i]? = some o → i ∉ G.map (·.i) → o.dst ≠ some g.d := fun g hg o ho hiG he => by
        obtain ⟨⟨⟨ty', pos', after', hog⟩, _, _⟩, _⟩ := hgf g hg
        have := Zba hdst ho hog he rfl
        exact hiG (this ▸ List.mem_map.2 ⟨g, hg, rfl⟩)
      have hfl' : ∀ o v, ops[i]? = some o → Zah P ops n H (Qbr o.dst v L) := fun o v ho j hj d T ty pos after hoj hjF => by
        obtain ⟨h1, h2, h3⟩ := hfl j (List.mem_cons_of_mem _ hj) d T ty pos after hoj hjF
        refine ⟨?_, h2, h3⟩
        cases hd : o.dst with
        | none => exact h1
        | some e =>
          simp only [Qbr, look]
          cases hb : Nat.beq e d with
          | false => simpa using h1
          | true =>
            exfalso
            have := Nat.eq_of_beq_eq_true hb
            subst this
            have := Zba hdst ho hoj hd rfl
            exact hnd.1 (this ▸ hj)
      have hfuel : i ∉ G.map (·.i) → ∃ fuel', fuel = fuel' + 1 := fun hiG => by
        have hle : (i :: G.map (·.i)).length ≤ (i :: H).length := by
          have hsub : G.map (·.i) ⊆ H := fun k hk => by
            obtain ⟨g, hg, rfl⟩ := List.mem_map.1 hk
            exact (hgf' hiG g hg).2
          have := Gm hgn hsub
          simpa using this
        simp at hle hfu
        exact ⟨fuel - 1, by omega⟩
      rw [Zwv] at hH
      rcases hH with ⟨o, d, v, ld, ho, hd, hdn, hq, hy, hH⟩ | ⟨o, ho, hlo, hw⟩ | ⟨d, T, z, ty, pos, after, ho, hfo, hz, hdn, hH⟩ | ⟨o, d, v, b, ts, ho, hd, hdn, hq, hy, hH⟩ | ⟨hnf, hx⟩ | hpair
      · -- a quiet operation
        simp only [Kz, Bool.and_eq_true, Bool.not_eq_true'] at hq
        obtain ⟨⟨hq1, hq2⟩, hq3⟩ := hq
        have hiG := hnotG hq1
        obtain ⟨fuel', rfl⟩ := hfuel hiG
        have hr : i ∈ Region.ready .any ops listed := Zbz ho hq2 hlis (hunl i List.mem_cons_self hiG) (honi o ho)
        have hlat := Zgg (ops := ops) (i := i) H [] (fun _ h => nomatch h)
        refine Ztn ho (Region.noSelect_spec hsel) hq1 ld (later ops i [] H) fuel' listed a w ?_ ?_ hr (hy a w _ hst) ?_
        rotate_left
        · intro t ht
          obtain ⟨h1, h2⟩ := hlat t ht
          have htH : t ∈ H := by rcases h1 with h1 | h1; cases h1; exact h1
          have h3 := h2
          unfold waits at h3
          split at h3
          · rename_i ot hot
            obtain ⟨e, he, hb⟩ := Array.any_eq_true'.1 h3
            simp only [Bool.and_eq_true, Bool.or_eq_true, beq_iff_eq, List.contains_iff_mem] at hb
            have htG : t ∉ G.map (·.i) := fun hm' => by
              obtain ⟨g, hg, rfl⟩ := List.mem_map.1 hm'
              have hF := (hgf g hg).1.2.1
              obtain ⟨d', T', ty', pos', after', ho'⟩ := Zlk hF
              unfold isF at hF
              rw [ho'] at hF hot
              cases hot
              have h4 := Array.all_eq_true'.1 hF e he
              simp [hb.1] at h4
            exact ⟨by rw [hsz]; exact hlt t (List.mem_cons_of_mem _ htH), hunl t (List.mem_cons_of_mem _ htH) htG, ot, hot, e, he, hb.1, hb.2⟩
          · cases h3
        rotate_left
        · intro j oj hoj hji hun hno
          have hjs := (Array.getElem?_eq_some_iff.1 hoj).1
          have hjH : j ∈ H := by
            have : ¬ (j ∉ i :: H ∨ j ∈ G.map (·.i)) := fun hc => by rw [(hl j hjs).2 hc] at hun; cases hun
            have h1 : j ∈ i :: H := Classical.byContradiction fun h => this (.inl h)
            rcases List.mem_cons.1 h1 with h | h
            · exact absurd h hji
            · exact h
          have h1 := List.all_eq_true.1 hq3 j hjH
          rcases Bool.or_eq_true_iff.1 h1 with h1 | h1
          · exact absurd (by simpa using h1) hno
          · simp only [ho, hoj, Bool.and_eq_true, Bool.or_eq_true, Bool.not_eq_true'] at h1
            refine ⟨h1.1, fun hl' => ?_⟩
            rcases h1.2 with h2 | h2
            · rw [hl'] at h2; cases h2
            · exact h2
        · have := hst.put hdn v
          rw [hd]
          refine ih fuel' H ((d, v) :: L) σ Φ G _ _ w (by simp at hm; omega) hH this ?_ (hgf' hiG) hgn hnd.2 (fun k hk => hlt k (List.mem_cons_of_mem _ hk)) ?_ (hl2 i) (hl3 hiG) (by simp at hfu; omega)
          · intro g hg
            rw [Zbp (fun he => hflG g hg o ho hiG (by rw [hd, he]))]
            exact hgt g hg
          · have := hfl' o v ho
            rw [hd] at this
            exact this
      · -- a loud one
        simp only [Gl, Bool.and_eq_true, Bool.not_eq_true'] at hlo
        obtain ⟨⟨hq1, hq2⟩, hq3⟩ := hlo
        have hiG := hnotG hq1
        obtain ⟨fuel', rfl⟩ := hfuel hiG
        have hr : i ∈ Region.ready .any ops listed := Zbz ho hq2 hlis (hunl i List.mem_cons_self hiG) (honi o ho)
        refine ⟨fun h => (by rw [h] at hr; cases hr), fun j hj => ?_⟩
        rcases hcome hq3 hiG j hj with rfl | ⟨h1, h2, h3⟩
        · refine wpOp_mono (fun a' w' h => ?_) (Zf3 (fun _ _ _ h => h.elim) (hw a w _ hst))
          obtain ⟨hex, v, σ', Φ', rfl, hst', hH'⟩ := h
          refine ⟨fun o' ho' => by
            rw [ho] at ho'; cases ho'
            exact ⟨hex.1, fun T t y p he _ hp => hex.2 T t y p he hp, fun t ht => Zfl ho ht, fun t hd hf => by have h1 := hf j o ho hd; rw [hq1] at h1; cases h1⟩, ?_⟩
          refine ih fuel' H _ σ' Φ' G _ _ w' (by simp at hm; omega) hH' hst' ?_ (hgf' hiG) hgn hnd.2 (fun k hk => hlt k (List.mem_cons_of_mem _ hk)) (hfl' o v ho) (hl2 j) (hl3 hiG) (by simp at hfu; omega)
          intro g hg
          have hne := hflG g hg o ho hiG
          cases hd : o.dst with
          | none => exact hgt g hg
          | some e => rw [Zbp (fun he => hne (by rw [hd, he]))]; exact hgt g hg
        · exact hfloat j fuel' rfl h1 h2 h3 _
      · -- a local's turn
        simp only [Zlp, Bool.and_eq_true] at hfo
        by_cases hiG : i ∈ G.map (·.i)
        · obtain ⟨g, hg, hgi⟩ := List.mem_map.1 hiG
          obtain ⟨G1, G2, rfl⟩ := List.append_of_mem hg
          obtain ⟨⟨⟨ty', pos', after', hog⟩, _, hgz⟩, _⟩ := hgf g hg
          rw [hgi, ho] at hog
          simp only [Option.some.injEq, Oper.mk.injEq, Op.alloc.injEq] at hog
          obtain ⟨hd', hT, _, _, _, _⟩ := hog
          have hz' : z = g.z := by
            have h1 := hz w
            rw [hT, hgz w] at h1
            simp at h1; exact h1.symm
          subst hz'
          have hb := hgt g hg
          rw [← hd'] at hb
          have hst2 : St n S w0 ((d, .pointer (some ⟨g.b, 0, none⟩)) :: L) ((G1 ++ G2).map Flo.own ++ (g.b, .cells g.z.cells T (0, 0)) :: σ) Φ a w := by
            refine (hst.perm ?_).learn hb
            simp only [List.map_append, List.map_cons, List.append_assoc, List.cons_append]
            refine List.Perm.append_left _ ?_
            have : g.own = (g.b, Obj.cells g.z.cells T (0, 0)) := by simp [Flo.own, hT]
            rw [this]
            exact List.perm_middle
          have hG12 : ∀ g' ∈ G1 ++ G2, g' ∈ G1 ++ g :: G2 := fun g' h' => by
            rcases List.mem_append.1 h' with h' | h'
            · exact List.mem_append.2 (.inl h')
            · exact List.mem_append.2 (.inr (List.mem_cons_of_mem _ h'))
          have hperm : (List.map (fun x => x.i) (G1 ++ g :: G2)).Perm (g.i :: List.map (fun x => x.i) (G1 ++ G2)) := by
            simp only [List.map_append, List.map_cons]; exact List.perm_middle
          have hnd2 := List.nodup_cons.1 (hperm.nodup_iff.1 hgn)
          refine ih fuel H _ _ Φ (G1 ++ G2) listed a w (by simp at hm; omega) (hH g.b) hst2 (fun g' h' => hgt g' (hG12 g' h')) ?_ hnd2.2 hnd.2 (fun k hk => hlt k (List.mem_cons_of_mem _ hk)) ?_ hsz ?_ (by simp at hfu ⊢; omega)
          · intro g' h'
            obtain ⟨h1, h2⟩ := hgf g' (hG12 g' h')
            refine ⟨h1, ?_⟩
            rcases List.mem_cons.1 h2 with h | h
            · exact absurd (List.mem_map.2 ⟨g', h', by rw [h, hgi]⟩) hnd2.1
            · exact h
          · have := hfl' _ (.pointer (some ⟨g.b, 0, none⟩)) ho
            exact this
          · intro k hk
            rw [hl k hk, hperm.mem_iff, List.mem_cons, List.mem_cons, hgi]
            constructor
            · rintro (h | rfl | h)
              · exact .inl (fun hc => h (.inr hc))
              · exact .inl hnd.1
              · exact .inr h
            · rintro (h | h)
              · by_cases hki : k = i
                · exact .inr (.inl hki)
                · exact .inl (fun hc => hc.elim hki h)
              · exact .inr (.inr h)
        · obtain ⟨fuel', rfl⟩ := hfuel hiG
          have htop : i ∈ Region.ready .any ops listed := by
            refine mem_ready.2 ⟨hunl i List.mem_cons_self hiG, _, ho, fun e he hb => ?_⟩
            have h1 := hfo.1
            unfold isF at h1
            simp only [ho] at h1
            have h2 := Array.all_eq_true'.1 h1 e he
            rw [hb] at h2; cases h2
          refine ⟨fun h => (by rw [h] at htop; cases htop), fun j hj => ?_⟩
          rcases hcome hfo.2 hiG j hj with rfl | ⟨h1, h2, h3⟩
          · exact hfloat j fuel' rfl List.mem_cons_self hiG hfo.1 _
          · exact hfloat j fuel' rfl h1 h2 h3 _
      · -- a load beside stores to other blocks
        simp only [Zvo, Bool.and_eq_true, Bool.not_eq_true'] at hq
        obtain ⟨⟨⟨hq1, hq2⟩, hq3⟩, hq4⟩ := hq
        have hiG := hnotG hq1
        obtain ⟨fuel', rfl⟩ := hfuel hiG
        have hr : i ∈ Region.ready .any ops listed := Zbz ho hq2 hlis (hunl i List.mem_cons_self hiG) (honi o ho)
        obtain ⟨o0, hb0, hyi, hsx, hts⟩ := hy a w _ hst
        refine Zxs ho (Region.noSelect_spec hsel) hq1 fuel' listed a w hb0 ?_ hr hyi ?_
        · intro j oj hoj hji hun hno
          have hjs := (Array.getElem?_eq_some_iff.1 hoj).1
          have hjH : j ∈ H := by
            have : ¬ (j ∉ i :: H ∨ j ∈ G.map (·.i)) := fun hc => by rw [(hl j hjs).2 hc] at hun; cases hun
            have h1 : j ∈ i :: H := Classical.byContradiction fun h => this (.inl h)
            rcases List.mem_cons.1 h1 with h | h
            · exact absurd h hji
            · exact h
          have h1 := List.all_eq_true.1 hq3 j hjH
          rcases Bool.or_eq_true_iff.1 h1 with h1 | h1
          · exfalso
            unfold waits at h1
            simp only [hoj] at h1
            obtain ⟨e, he, hb⟩ := Array.any_eq_true'.1 h1
            simp only [Bool.and_eq_true, beq_iff_eq] at hb
            exact hno e he hb.1 hb.2
          · simp only [ho, hoj, Bool.and_eq_true, Bool.or_eq_true] at h1
            refine ⟨h1.1, ?_⟩
            rcases h1.2 with h2 | h2
            · exact .inl h2
            · right
              split at h2
              · rename_i T t y hop
                rcases Bool.or_eq_true_iff.1 h2 with h2 | h2
                · have htm : t ∈ ts := by simpa using h2
                  obtain ⟨p, hp1, hp2⟩ := hts t htm
                  refine ⟨T, t, y, hop, fun k ok hk he => ?_, .inl ⟨p, hst.val t _ hp1, hp2⟩⟩
                  have h5 := List.all_eq_true.1 hq4 t htm
                  have h6 := Array.all_eq_true'.1 h5 ok (Array.mem_of_getElem? hk)
                  rw [he] at h6; simp at h6
                · obtain ⟨k, hkH, hk⟩ := List.any_eq_true.1 h2
                  simp only [Bool.and_eq_true, beq_iff_eq] at hk
                  obtain ⟨⟨hkF, hkd⟩, hkw⟩ := hk
                  obtain ⟨d', T', ty', pos', after', hok⟩ := Zlk hkF
                  rw [hok] at hkd
                  simp only [Option.bind_some, Option.some.injEq] at hkd
                  subst hkd
                  have hks := (Array.getElem?_eq_some_iff.1 hok).1
                  refine ⟨T, d', y, hop, fun k2 ok2 hk2 he => ?_, ?_⟩
                  · have := Zba hdst hk2 hok he rfl
                    rw [this]; exact hkF
                  · by_cases hkG : k ∈ G.map (·.i)
                    · obtain ⟨g, hg, rfl⟩ := List.mem_map.1 hkG
                      obtain ⟨⟨⟨ty2, pos2, after2, hog⟩, _, _⟩, _⟩ := hgf g hg
                      rw [hok] at hog
                      simp only [Option.some.injEq, Oper.mk.injEq] at hog
                      have hgd := hgt g hg
                      rw [← hog.1] at hgd
                      exact .inl ⟨_, hgd, hsx g.own (List.mem_map.2 ⟨g, hg, rfl⟩)⟩
                    · right
                      unfold waits at hkw
                      simp only [hoj] at hkw
                      obtain ⟨e, he, hb⟩ := Array.any_eq_true'.1 hkw
                      simp only [Bool.and_eq_true, beq_iff_eq] at hb
                      exact ⟨k, _, hok, rfl, by rw [hsz]; exact hks, hunl k (List.mem_cons_of_mem _ hkH) hkG, e, he, hb.1, hb.2⟩
              · cases h2
        · have := hst.put hdn v
          rw [hd]
          refine ih fuel' H ((d, v) :: L) σ Φ G _ _ w (by simp at hm; omega) hH this ?_ (hgf' hiG) hgn hnd.2 (fun k hk => hlt k (List.mem_cons_of_mem _ hk)) ?_ (hl2 i) (hl3 hiG) (by simp at hfu; omega)
          · intro g hg
            rw [Zbp (fun he => hflG g hg o ho hiG (by rw [hd, he]))]
            exact hgt g hg
          · have := hfl' o v ho
            rw [hd] at this
            exact this
      · -- all orders, one by one
        have hG : G = [] := by
          cases G with
          | nil => rfl
          | cons g G =>
            obtain ⟨⟨_, hF, _⟩, hm'⟩ := hgf g List.mem_cons_self
            have := List.all_eq_true.1 hnf g.i hm'
            rw [hF] at this; cases this
        subst hG
        have hfu' : fuel = H.length + 1 := by simpa using hfu
        have hlist : listed = Zaz ops (i :: H) := by
          apply Array.ext
          · rw [hsz]; simp [Zaz]
          · intro k hk1 hk2
            have hk : k < ops.size := by rw [← hsz]; exact hk1
            have h1 := hl k hk
            simp only [List.map_nil, List.not_mem_nil, or_false] at h1
            have h2 : listed.getD k true = listed[k] := by simp [hk1]
            rw [h2] at h1
            have h3 : (Zaz ops (i :: H))[k] = !(i :: H).contains k := by simp [Zaz]
            rw [h3]
            by_cases hm' : k ∈ i :: H
            · have h4 : listed[k] = false := by
                cases hv : listed[k] with
                | false => rfl
                | true => exact absurd hm' (h1.1 hv)
              rw [h4, List.contains_iff_mem.2 hm']; rfl
            · rw [h1.2 hm']
              have : (i :: H).contains k = false := by
                cases hv : (i :: H).contains k with
                | false => rfl
                | true => exact absurd (List.contains_iff_mem.1 hv) hm'
              rw [this]; rfl
        rw [hfu', hlist]
        exact hx a w hst
      · -- two loud ones, in either order
        obtain ⟨j, oi, oj, ho, hoj, hpo, hw1, hw2⟩ := hpair
        simp only [Qaj, Bool.and_eq_true, Bool.not_eq_true', List.contains_iff_mem] at hpo
        obtain ⟨⟨⟨⟨⟨hi1, hj1⟩, hjm⟩, ht1⟩, ht2⟩, hi3⟩ := hpo
        have hiG := hnotG hi1
        obtain ⟨fuel', rfl⟩ := hfuel hiG
        have hr : i ∈ Region.ready .any ops listed := Zbz ho ht1 hlis (hunl i List.mem_cons_self hiG) (honi oi ho)
        have hpm : (j :: i :: H.erase j).Perm (i :: H) := (List.Perm.swap i j _).trans ((List.perm_cons_erase hjm).symm.cons i)
        have hlen : H.length = (i :: H.erase j).length := by
          rw [List.length_cons, List.length_erase_of_mem hjm]
          have := List.length_pos_of_mem hjm
          omega
        have hsw : ∀ k, k ∈ j :: i :: H.erase j ↔ k ∈ i :: H := fun k => hpm.mem_iff
        refine ⟨fun h => (by rw [h] at hr; cases hr), fun k hk => ?_⟩
        by_cases hki : k = i
        · subst hki
          exact Zmw hdst ih hm hst hgt hgf hgn hn hlt hfl hsz hl hfu ho hi1 hw1
        · by_cases hkj : k = j
          · subst hkj
            have hw2' : Zhv P ops n S w0 k oj (fun L σ Φ => Head P ops n S w0 Kf (i :: H.erase k) L σ Φ) L σ Φ := by
              have h2 := hw2
              rw [hlen] at h2
              exact h2
            exact Zmw hdst ih (by rw [hpm.length_eq]; exact hm) hst hgt (fun g hg => ⟨(hgf g hg).1, (hsw _).2 (hgf g hg).2⟩) hgn (hpm.nodup_iff.2 hn) (fun x hx => hlt x ((hsw x).1 hx)) (fun x hx => hfl x ((hsw x).1 hx)) hsz (fun x hx => by rw [hl x hx, not_congr (hsw x)]) (by rw [hpm.length_eq]; exact hfu) hoj hj1 hw2'
          · obtain ⟨h0, ok, hok, _⟩ := mem_ready.1 hk
            have hks := (Array.getElem?_eq_some_iff.1 hok).1
            have hnl : ¬ (k ∉ i :: H ∨ k ∈ G.map (·.i)) := fun hc => by rw [(hl k hks).2 hc] at h0; cases h0
            have hkH : k ∈ i :: H := Classical.byContradiction fun h => hnl (.inl h)
            have hkG : k ∉ G.map (·.i) := fun h => hnl (.inr h)
            have hkH2 : k ∈ H := by simpa [hki] using hkH
            have hun2 : ∀ x, x ∈ i :: H → isF ops x = false → listed.getD x false = true → False := fun x hxm hxF hxl => by
              have hxG : x ∉ G.map (·.i) := fun hm' => by
                obtain ⟨g, hg, rfl⟩ := List.mem_map.1 hm'
                have := (hgf g hg).1.2.1
                rw [hxF] at this; cases this
              rw [hget x (hlt x hxm), hunl x hxm hxG] at hxl; cases hxl
            have h1 := List.all_eq_true.1 hi3 k hkH2
            simp only [Bool.or_eq_true, beq_iff_eq] at h1
            rcases h1 with (h1 | h1) | h1
            · exact absurd h1 hkj
            · exact hfloat k fuel' rfl hkH hkG h1 _
            · exfalso
              obtain ⟨x, hx, hxl⟩ := Zjs h1 hk
              simp only [Bool.or_eq_true, beq_iff_eq, Bool.and_eq_true, List.contains_iff_mem, Bool.not_eq_true'] at hx
              rcases hx with (rfl | rfl) | ⟨hxH, hxF⟩
              · exact hun2 x List.mem_cons_self hi1 hxl
              · exact hun2 x (List.mem_cons_of_mem _ hjm) hj1 hxl
              · exact hun2 x (List.mem_cons_of_mem _ hxH) hxF hxl
theorem Zhf {id : Nat} {l : List Oper} {Q : Exit → Act → World → Prop} (hm : P.follows .mixedOrders = true) (h : St n S w0 L σ Φ a w) (H : List Nat) (L0 : List (Nat × Value))
  (hL0 : ∀ t v, look L0 t = some v → look L t = some v)
  (hchk : (Region.noSelect l.toArray && Znb l.toArray && onOK l.toArray && decide (H.Nodup) && decide (H.length = l.length) && H.all (fun i => decide (i < l.length))) = true)
  (hfl : Zah P l.toArray n H L0)
  (hH : Head P l.toArray n S w0 Q H L0 σ Φ) : (Code.region id l.toArray true).wp P Q a w := by
 simp only [Bool.and_eq_true, decide_eq_true_eq, List.all_eq_true] at hchk
 obtain ⟨⟨⟨⟨⟨h1, h2⟩, h3⟩, h4⟩, h5⟩, h6⟩ := hchk
 refine Code.wp_mono (Q := QN Q) (fun e a w hq => ?_) (wp_region_any hm (Zdn _ _ _ _ ?_))
 ·
  cases e with
  | normal => exact hq
  | panic ch => exact hq a.tmps
  | _ => exact hq.elim
 ·
  have hall : ∀ i, i < l.length → i ∈ H := by
   intro i hi
   have hsub : H ⊆ List.range l.length := fun k hk => List.mem_range.2 (h6 k hk)
   refine Classical.byContradiction fun hc => ?_
   have h7 := Gm (l := i :: H) (l' := List.range l.length) (List.nodup_cons.2 ⟨hc, h4⟩) (fun k hk => by
    rcases List.mem_cons.1 hk with rfl | hk
    · exact List.mem_range.2 hi
    · exact hsub hk)
   simp at h7; omega
  refine Zkk h1 h2 h3 (l.toArray.size + H.length) l.toArray.size H L0 σ Φ [] _ a { w with drawn := w.drawn + 1 } (Nat.le_refl _) hH (h.sub hL0).drew (by simp) (by simp) (by simp) h4 (by simpa using h6) hfl (by simp) (fun i hi => ?_) (by simp [h5])
  simp at hi
  simp [hi, hall i hi]
variable {H : List Nat} {Kf : Exit → Act → World → Prop}
theorem Xj {i d : Nat} {op : Op} {v : Value}
  (ho : ops[i]? = some ⟨some d, op, ty, pos, aft, none⟩) (hq : Kz ops false i H = true) (hp : Pure1 P L op v) (hd : d < n)
  (k : Head P ops n S w0 Kf H ((d, v) :: L) σ Φ) : Head P ops n S w0 Kf (i :: H) L σ Φ :=
 .inl ⟨_, d, v, false, ho, rfl, hd, hq, fun _ _ _ hst => .inl ⟨rfl, fun w' _ => hp.run hst w'⟩, k⟩
theorem Zsq {i d j t : Nat} {want : Bool} {op : Op} {v : Value}
  (ho : ops[i]? = some ⟨some d, op, ty, pos, aft, some (j, want)⟩) (hj : (ops[j]?).bind (·.dst) = some t) (ht : look L t = some (.bool want))
  (hq : Kz ops false i H = true) (hp : Pure1 P L op v) (hd : d < n)
  (k : Head P ops n S w0 Kf H ((d, v) :: L) σ Φ) : Head P ops n S w0 Kf (i :: H) L σ Φ :=
 .inl ⟨_, d, v, false, ho, rfl, hd, hq, fun _ _ _ hst => .inl ⟨by rw [Zbg hst hj ht]; simp, fun w' _ => hp.run hst w'⟩, k⟩
theorem Zvv {i d j t : Nat} {want c : Bool} {op : Op} {ty : TypeId} {pos : String} {aft : Array Edge}
  (ho : ops[i]? = some ⟨some d, op, ty, pos, aft, some (j, want)⟩) (hj : (ops[j]?).bind (·.dst) = some t) (ht : look L t = some (.bool c)) (hne : (c == want) = false)
  (hq : Kz ops false i H = true) (hd : d < n)
  (k : Head P ops n S w0 Kf H ((d, undef) :: L) σ Φ) : Head P ops n S w0 Kf (i :: H) L σ Φ :=
 .inl ⟨_, d, undef, false, ho, rfl, hd, hq, fun _ _ _ hst => .inr ⟨by rw [Zbg hst hj ht, hne], rfl⟩, k⟩
theorem Zqk (h : St n S w0 L σ Φ a w) {x : Operand} {d : Option Tmp} {T : TypeId} {g : Option (Nat × Bool)} {b off : Nat} {cs : Array Value} {Tb : TypeId} {fr : Nat × Nat} {agg : Bool} {s : Nat} {v : Value}
  (hx : Fx.ev L x = some (.pointer (some ⟨b, off, none⟩))) (hm : (b, Obj.cells cs Tb fr) ∈ σ) (hagg : ∀ w, (isAgg T).run P w = .ok agg w) (hs : ∀ w, (Go.sizeOf T).run P w = .ok s w)
  (hv : Qe agg s cs off = some v) {w' : World} (hw : Ext w w') : (execOp a.eval (Oper.mk d (.load T x) ty pos aft g)).run P w' = .ok (.value v) w' := by
 have hb : w'.heap[b]? = some (Obj.cells cs Tb fr) := by rw [hw.block _ (h.own_lt hm)]; exact h.own _ hm
 simp only [execOp, h.ev hx, Sem.run_bind, Vg hb hagg hs hv]; rfl
theorem Ya {i d : Nat} {x : Operand} {T : TypeId} {b off : Nat} {cs : Array Value} {Tb : TypeId} {fr : Nat × Nat} {agg : Bool} {s : Nat} {v : Value}
  (ho : ops[i]? = some ⟨some d, .load T x, ty, pos, aft, none⟩) (hq : Kz ops true i H = true)
  (hx : Fx.ev L x = some (.pointer (some ⟨b, off, none⟩))) (hm : (b, Obj.cells cs Tb fr) ∈ σ) (hagg : ∀ w, (isAgg T).run P w = .ok agg w) (hs : ∀ w, (Go.sizeOf T).run P w = .ok s w)
  (hv : Qe agg s cs off = some v) (hd : d < n)
  (k : Head P ops n S w0 Kf H ((d, v) :: L) σ Φ) : Head P ops n S w0 Kf (i :: H) L σ Φ :=
 .inl ⟨_, d, v, true, ho, rfl, hd, hq, fun _ _ _ hst => .inl ⟨rfl, fun w' hw => Zqk hst hx (List.mem_append_right _ hm) hagg hs hv (hw rfl)⟩, k⟩
theorem Zsr {i d j t : Nat} {want : Bool} {x : Operand} {T : TypeId} {b off : Nat} {cs : Array Value} {Tb : TypeId} {fr : Nat × Nat} {agg : Bool} {s : Nat} {v : Value}
  (ho : ops[i]? = some ⟨some d, .load T x, ty, pos, aft, some (j, want)⟩) (hj : (ops[j]?).bind (·.dst) = some t) (ht : look L t = some (.bool want)) (hq : Kz ops true i H = true)
  (hx : Fx.ev L x = some (.pointer (some ⟨b, off, none⟩))) (hm : (b, Obj.cells cs Tb fr) ∈ σ) (hagg : ∀ w, (isAgg T).run P w = .ok agg w) (hs : ∀ w, (Go.sizeOf T).run P w = .ok s w)
  (hv : Qe agg s cs off = some v) (hd : d < n)
  (k : Head P ops n S w0 Kf H ((d, v) :: L) σ Φ) : Head P ops n S w0 Kf (i :: H) L σ Φ :=
 .inl ⟨_, d, v, true, ho, rfl, hd, hq, fun _ _ _ hst => .inl ⟨by rw [Zbg hst hj ht]; simp, fun w' hw => Zqk hst hx (List.mem_append_right _ hm) hagg hs hv (hw rfl)⟩, k⟩
theorem Za0 {i d : Nat} {x : Operand} {T : TypeId} {b off : Nat} {cs : Array Value} {Tb : TypeId} {fr : Nat × Nat} {agg : Bool} {s : Nat} {v : Value} (ts : List Nat)
  (ho : ops[i]? = some ⟨some d, .load T x, ty, pos, aft, none⟩) (hq : Zvo ops i H ts = true)
  (hx : Fx.ev L x = some (.pointer (some ⟨b, off, none⟩))) (hm : (b, Obj.cells cs Tb fr) ∈ σ) (hagg : ∀ w, (isAgg T).run P w = .ok agg w) (hs : ∀ w, (Go.sizeOf T).run P w = .ok s w)
  (hv : Qe agg s cs off = some v) (hts : ∀ a w σx, St n S w0 L (σx ++ σ) Φ a w → ∀ t ∈ ts, ∃ p : Addr, look L t = some (.pointer (some p)) ∧ p.block ≠ b) (hd : d < n)
  (k : Head P ops n S w0 Kf H ((d, v) :: L) σ Φ) : Head P ops n S w0 Kf (i :: H) L σ Φ :=
 .inr (.inr (.inr (.inl ⟨_, d, v, b, ts, ho, rfl, hd, hq, fun a w σx hst => ⟨Obj.cells cs Tb fr, hst.own _ (List.mem_append_right _ hm), .inl ⟨rfl, fun w' hw => by
  simp only [execOp, hst.ev hx, Sem.run_bind, Vg hw hagg hs hv]; rfl⟩, fun q hq' => (List.pairwise_append.1 hst.nd).2.2 q hq' _ hm, hts a w σx hst⟩, k⟩)))
theorem Zbe {i : Nat} {d : Option Tmp} {op : Op} {K : Act → World → Prop} {Q : Exit → Act → World → Prop}
  (ho : ops[i]? = some ⟨d, op, ty, pos, aft, none⟩) (h : (Oper.mk d op ty pos aft none).wp P a w K Q) : wpOp P ops Q i K a w := by
 unfold wpOp; simp only [ho]; rw [if_pos (by rfl)]; exact .inl h
theorem Zrm {i j t : Nat} {want : Bool} {d : Option Tmp} {op : Op} {K : Act → World → Prop} {Q : Exit → Act → World → Prop}
  (hst : St n S w0 L σ Φ a w) (ho : ops[i]? = some ⟨d, op, ty, pos, aft, some (j, want)⟩) (hj : (ops[j]?).bind (·.dst) = some t) (ht : look L t = some (.bool want))
  (h : (Oper.mk d op ty pos aft (some (j, want))).wp P a w K Q) : wpOp P ops Q i K a w := by
 unfold wpOp; simp only [ho]; rw [if_pos (by rw [Zbg hst hj ht]; simp)]; exact .inl h
theorem Zwn (h : St n S w0 L σ Φ a w) {d : Nat} {f : FuncId} {args : Array Operand} {tys : Array TypeId} {g : Option (Nat × Bool)}
  {vs : List Value} {Φ' : List Qf} {post : Value → List Qf → Prop} (ha : args.toList.map (Fx.ev L) = vs.map some)
  (hc : ∀ args w, (callFunc f args).run P w = .ok (.enter f args) w) (hf : Ctr P f vs Φ' post) (hsub : ∀ R ∈ Φ', R ∈ Φ) (hd : d < n) {K : Act → World → Prop} {Q : Exit → Act → World → Prop}
  (k : ∀ v Ψ w', post v Ψ → Ext w w' → St n S w0 ((d, v) :: L) σ (Ψ ++ Φ) (a.put (some d) v) w' → K (a.put (some d) v) w') : (Oper.mk (some d) (.call ⟨.value (.func f), args, tys⟩) ty pos aft g).wp P a w K Q := by
 obtain ⟨X, h1, h2, h3, h4⟩ := h.facts
 have hr : (execOp a.eval (Oper.mk (some d) (.call ⟨.value (.func f), args, tys⟩) ty pos aft g)).run P w = .ok (.enter f vs.toArray) w := by
  simp only [execOp, resolve, Zfp h ha, Sem.run_bind, Act.eval]
  simp [Deferred.ofValue, invoke, hc]
 simp only [Oper.wp, hr, Oper.upon]
 refine (hf X w h3 (fun R hR => h4 R (hsub R hR))).mono ?_
 rintro e w' ⟨v, Ψ, rfl, hp, hb, h5⟩
 exact k v Ψ _ hp hb ((h.called hb h1 h2 h3 h4 h5).put hd v)
theorem Xa {i d : Nat} {f : FuncId} {args : Array Operand} {tys : Array TypeId} {ty : TypeId} {pos : String} {aft : Array Edge}
  {vs : List Value} {Φ' : List Qf} {post : Value → List Qf → Prop}
  (ho : ops[i]? = some ⟨some d, .call ⟨.value (.func f), args, tys⟩, ty, pos, aft, none⟩) (hq : Gl ops i H = true) (ha : args.toList.map (Fx.ev L) = vs.map some)
  (hc : ∀ args w, (callFunc f args).run P w = .ok (.enter f args) w) (hf : Ctr P f vs Φ' post) (hsub : ∀ R ∈ Φ', R ∈ Φ) (hd : d < n)
  (k : ∀ v Ψ, post v Ψ → Head P ops n S w0 Kf H ((d, v) :: L) σ (Ψ ++ Φ)) : Head P ops n S w0 Kf (i :: H) L σ Φ :=
 .inr (.inl ⟨_, ho, hq, fun _ _ _ hst => Zbe ho (Zwn hst ha hc hf hsub hd fun v Ψ _ hp hx hst' => ⟨⟨fun _ => hx, fun _ _ _ _ he => by cases he⟩, v, σ, Ψ ++ Φ, rfl, hst', k v Ψ hp⟩)⟩)
theorem Zst {i d j t : Nat} {want : Bool} {f : FuncId} {args : Array Operand} {tys : Array TypeId} {ty : TypeId} {pos : String} {aft : Array Edge}
  {vs : List Value} {Φ' : List Qf} {post : Value → List Qf → Prop}
  (ho : ops[i]? = some ⟨some d, .call ⟨.value (.func f), args, tys⟩, ty, pos, aft, some (j, want)⟩) (hj : (ops[j]?).bind (·.dst) = some t) (ht : look L t = some (.bool want)) (hq : Gl ops i H = true) (ha : args.toList.map (Fx.ev L) = vs.map some)
  (hc : ∀ args w, (callFunc f args).run P w = .ok (.enter f args) w) (hf : Ctr P f vs Φ' post) (hsub : ∀ R ∈ Φ', R ∈ Φ) (hd : d < n)
  (k : ∀ v Ψ, post v Ψ → Head P ops n S w0 Kf H ((d, v) :: L) σ (Ψ ++ Φ)) : Head P ops n S w0 Kf (i :: H) L σ Φ :=
 .inr (.inl ⟨_, ho, hq, fun _ _ _ hst => Zrm hst ho hj ht (Zwn hst ha hc hf hsub hd fun v Ψ _ hp hx hst' => ⟨⟨fun _ => hx, fun _ _ _ _ he => by cases he⟩, v, σ, Ψ ++ Φ, rfl, hst', k v Ψ hp⟩)⟩)
theorem Upd.append {σ σ' : List (Nat × Obj)} {b : Nat} {o o' : Obj} (h : Upd σ b o o' σ') : ∀ σx : List (Nat × Obj), Upd (σx ++ σ) b o o' (σx ++ σ')
 | [] => h
 | p :: σx => .tail (h.append σx)
theorem Za8 {i : Nat} {x y : Operand} {T : TypeId} {b off : Nat} {cs : Array Value} {Tb : TypeId} {s : Nat} {v : Value} {σ' : List (Nat × Obj)}
  (ho : ops[i]? = some ⟨none, .store T x y, ty, pos, aft, none⟩) (hq : Gl ops i H = true)
  {cs' : Array Value}
  (hx : Fx.ev L x = some (.pointer (some ⟨b, off, none⟩))) (hy : Fx.ev L y = some v) (hset : Qc cs off v.cells.toList = cs')
  (hu : Upd σ b (.cells cs Tb (0, 0)) (.cells cs' Tb (0, 0)) σ')
  (hs : ∀ w, (Go.sizeOf T).run P w = .ok s w) (hsz : v.cells.size = s) (hle : off + s ≤ cs.size) (hfl : v.cells.toList.all flat = true)
  (k : Head P ops n S w0 Kf H L σ' Φ) : Head P ops n S w0 Kf (i :: H) L σ Φ :=
 .inr (.inl ⟨_, ho, hq, fun a w σx hst => Zbe ho (by
  subst hset
  obtain ⟨w', hr, h', hoth⟩ := hst.store (hu.append σx) hs hsz hle hfl
  exact Zgb (w' := w') (by simp only [execOp, hst.ev hx, hst.ev hy, Sem.run_bind, hr]; rfl) ⟨⟨(fun h => by simp [early] at h), fun T' t y' p he hp c hc => hoth c (by
   simp only [Op.store.injEq] at he
   obtain ⟨_, rfl, _⟩ := he
   have := hst.val t _ hx
   rw [hp] at this
   cases this
   exact hc)⟩, undef, σ', Φ, rfl, h', k⟩)⟩)
theorem Zeo {i d : Nat} {T : TypeId} {z : Value} {ty : TypeId} {pos : String} {after : Array Edge}
  (ho : ops[i]? = some ⟨some d, .alloc T, ty, pos, after, none⟩) (hq : Zlp ops i H = true) (hz : ∀ w, (zeroValue T).run P w = .ok z w) (hd : d < n)
  (k : ∀ b, Head P ops n S w0 Kf H ((d, .pointer (some ⟨b, 0, none⟩)) :: L) ((b, .cells z.cells T (0, 0)) :: σ) Φ) : Head P ops n S w0 Kf (i :: H) L σ Φ :=
 .inr (.inr (.inl ⟨d, T, z, ty, pos, after, ho, hq, hz, hd, k⟩))
theorem Zfu (k : ∀ a w, St n S w0 L σ Φ a w → Kf .normal a w) : Head P ops n S w0 Kf [] L σ Φ := k
theorem Ys {i d : Nat} {f : FuncId} {args : Array Operand} {tys : Array TypeId} {ty : TypeId} {pos : String} {aft : Array Edge}
  {vs : List Value} {v : Value}
  (ho : ops[i]? = some ⟨some d, .call ⟨.value (.func f), args, tys⟩, ty, pos, aft, none⟩) (hq : Gl ops i H = true) (ha : args.toList.map (Fx.ev L) = vs.map some)
  (hc : ∀ args w, (callFunc f args).run P w = .ok (.enter f args) w) (hf : Xm P f vs v) (hd : d < n)
  (k : Head P ops n S w0 Kf H ((d, v) :: L) σ Φ) : Head P ops n S w0 Kf (i :: H) L σ Φ :=
 Xa ho hq ha hc hf (fun _ hR => nomatch hR) hd fun u Ψ hp => by obtain ⟨rfl, rfl⟩ := hp; exact k
theorem Jt {i d j t : Nat} {want : Bool} {f : FuncId} {args : Array Operand} {tys : Array TypeId} {ty : TypeId} {pos : String} {aft : Array Edge}
  {vs : List Value} {v : Value}
  (ho : ops[i]? = some ⟨some d, .call ⟨.value (.func f), args, tys⟩, ty, pos, aft, some (j, want)⟩) (hj : (ops[j]?).bind (·.dst) = some t) (ht : look L t = some (.bool want)) (hq : Gl ops i H = true) (ha : args.toList.map (Fx.ev L) = vs.map some)
  (hc : ∀ args w, (callFunc f args).run P w = .ok (.enter f args) w) (hf : Xm P f vs v) (hd : d < n)
  (k : Head P ops n S w0 Kf H ((d, v) :: L) σ Φ) : Head P ops n S w0 Kf (i :: H) L σ Φ :=
 Zst ho hj ht hq ha hc hf (fun _ hR => nomatch hR) hd fun u Ψ hp => by obtain ⟨rfl, rfl⟩ := hp; exact k
theorem Zfv {d : Nat} {c : Bool} (k1 : c = true → Head P ops n S w0 Kf H ((d, .bool true) :: L) σ Φ)
  (k2 : c = false → Head P ops n S w0 Kf H ((d, .bool false) :: L) σ Φ) : Head P ops n S w0 Kf H ((d, .bool c) :: L) σ Φ := by
 cases c
 · exact k2 rfl
 · exact k1 rfl
theorem Zd (h : (H.all fun j => !isF ops j) = true) : Zah P ops n H L := fun j hj d T ty pos after _ hF => by
 have := List.all_eq_true.1 h j hj
 rw [hF] at this; cases this
def Zww (P : Program) (ops : Array Oper) (n : Nat) (L : List (Nat × Value)) : List Nat → Prop
 | [] => True
 | j :: H => (isF ops j = false ∨ ∃ d T ty pos after, ops[j]? = some ⟨some d, .alloc T, ty, pos, after, none⟩ ∧ look L d = none ∧ d < n ∧ ∃ z, ∀ w, (zeroValue T).run P w = .ok z w) ∧ Zww P ops n L H
theorem Qs : ∀ {H : List Nat}, Zww P ops n L H → Zah P ops n H L
 | [], _ => fun j hj => nomatch hj
 | j :: H, h => fun k hk d T ty pos after ho hF => by
  rcases List.mem_cons.1 hk with rfl | hk
  ·
   rcases h.1 with h1 | ⟨d', T', ty', pos', after', ho', h1, h2, h3⟩
   · rw [h1] at hF; cases hF
   ·
    rw [ho] at ho'
    simp only [Option.some.injEq, Oper.mk.injEq, Op.alloc.injEq] at ho'
    obtain ⟨rfl, rfl, _⟩ := ho'
    exact ⟨h1, h2, h3⟩
  · exact Qs h.2 k hk d T ty pos after ho hF
end
end Go.Fx
