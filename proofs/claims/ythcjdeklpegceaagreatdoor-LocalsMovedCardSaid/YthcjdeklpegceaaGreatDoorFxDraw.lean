/- The count of draws never falls: in no step of the machine. By an AI agent. -/
import Derived.Calls
import Derived.Below
import GoSem.Step
set_option linter.unusedVariables false
set_option linter.unusedSimpArgs false
namespace Go.Fx
open Go
def RD {α : Type} (w0 : World) : Result α → Prop
 | .ok _ w => w0.drawn ≤ w.drawn
 | .halt _ w => w0.drawn ≤ w.drawn
theorem Zwr {α : Type} : ∀ (q : Ask α) (w : World), w.drawn ≤ (w.ask q).2.drawn
 | .done a, w => Nat.le_refl _
 | .ask what range k, w => by
  unfold World.ask
  simp only
  split
  · exact Zwr (k 0) w
  · exact Nat.le_trans (Nat.le_succ _) (Zwr (k _) { w with drawn := w.drawn + 1 })
theorem Qai (w : World) (c : Sys) : w.drawn ≤ (w.sys c).2.drawn := by
 unfold World.sys
 have h := Zwr (Kernel.perform c w.os) w
 split
 · exact Nat.le_refl _
 · rename_i heq; rw [heq] at h; exact h
theorem Zna (w : World) (a : Addr) (n : Nat) : (w.freeze a n).drawn = w.drawn := by
 unfold World.freeze; split <;> rfl
theorem Zl9 (p : Program) (w : World) (at_ : Addr) (u : TypeId) (k : Addr) (v : Value) (atomic : Bool) (r : World × List Addr) (h : w.viewStore p at_ u k v atomic = .ok r) : r.1.drawn = w.drawn := by
 unfold World.viewStore at h
 simp only [bind, Except.bind, pure, Except.pure] at h
 repeat' split at h
 all_goals first | (cases h; done) | (cases h; rfl) | skip
theorem Ziz (p : Program) (w : World) (a : Addr) (v : Value) (atomic : Bool) (r : World × List Addr) (h : w.farStore p a v atomic = .ok r) : r.1.drawn = w.drawn := by
 unfold World.farStore at h
 split at h
 ·
  split at h
  · rename_i heq; cases h; exact Zl9 _ _ _ _ _ _ _ _ heq
  · cases h
 · cases h
theorem Zui {α : Type} (p : Program) : ∀ (s : Sem α) (w w0 : World), w0.drawn ≤ w.drawn → RD w0 (s.run p w) := by
 intro s
 induction s with
 | pure a => intro w w0 h; exact h
 | load m a k ih =>
  intro w w0 h; simp only [Sem.run]; split
  · exact ih _ w w0 h
  ·
   split
   · exact ih _ w w0 h
   · exact h
 | store m a v k ih =>
  intro w w0 h
  cases v <;> simp only [Sem.run] <;> first | exact h | skip
  all_goals
   split
   ·
    split
    · exact h
    · exact ih _ w0 h
   ·
    split
    ·
     rename_i w' _ heq
     exact ih _ w0 (by rw [Ziz p w a _ _ (w', _) heq]; exact h)
    · exact h
 | new o k ih => intro w w0 h; exact ih _ _ w0 h
 | shape r k ih => intro w w0 h; exact ih _ w w0 h
 | freeze a n k ih => intro w w0 h; simp only [Sem.run]; exact ih _ w0 (by rw [Zna]; exact h)
 | frozen a k ih => intro w w0 h; exact ih _ w w0 h
 | getObj r k ih =>
  intro w w0 h; simp only [Sem.run]; split
  · exact h
  · exact ih _ w w0 h
  · exact h
 | setObj r o k ih =>
  intro w w0 h; simp only [Sem.run]; split
  · exact h
  · exact ih _ w0 h
  · exact h
 | choose q k ih =>
  intro w w0 h; simp only [Sem.run]; split
  · exact ih _ w w0 h
  · exact ih _ _ w0 (Nat.le_trans h (Nat.le_succ _))
 | sys c k ih => intro w w0 h; simp only [Sem.run]; exact ih _ _ w0 (Nat.le_trans h (Qai w c))
 | program k ih => intro w w0 h; exact ih _ w w0 h
 | mark m k ih => intro w w0 h; exact ih w w0 h
 | halt x => intro w w0 h; exact h
theorem Zib {α : Type} (p : Program) : ∀ (s : Sem α) (w w0 : World) (es : Array Event), w0.drawn ≤ w.drawn → RD w0 (s.runT p w es).1 := by
 intro s
 induction s with
 | pure a => intro w w0 es h; exact h
 | load m a k ih =>
  intro w w0 es h; simp only [Sem.runT]; split
  · exact ih _ w w0 _ h
  ·
   split
   · exact ih _ w w0 _ h
   · exact h
 | store m a v k ih =>
  intro w w0 es h
  cases v <;> simp only [Sem.runT] <;> first | exact h | skip
  all_goals
   split
   ·
    split
    · exact h
    · exact ih _ w0 _ h
   ·
    split
    ·
     rename_i w' _ heq
     exact ih _ w0 _ (by rw [Ziz p w a _ _ (w', _) heq]; exact h)
    · exact h
 | new o k ih => intro w w0 es h; exact ih _ _ w0 _ h
 | shape r k ih => intro w w0 es h; exact ih _ w w0 _ h
 | freeze a n k ih => intro w w0 es h; simp only [Sem.runT]; exact ih _ w0 _ (by rw [Zna]; exact h)
 | frozen a k ih => intro w w0 es h; exact ih _ w w0 _ h
 | getObj r k ih =>
  intro w w0 es h; simp only [Sem.runT]; split
  · exact h
  · exact ih _ w w0 _ h
  · exact h
 | setObj r o k ih =>
  intro w w0 es h; simp only [Sem.runT]; split
  · exact h
  · exact ih _ w0 _ h
  · exact h
 | choose q k ih =>
  intro w w0 es h; simp only [Sem.runT]; split
  · exact ih _ w w0 _ h
  · exact ih _ _ w0 _ (Nat.le_trans h (Nat.le_succ _))
 | sys c k ih => intro w w0 es h; simp only [Sem.runT]; exact ih _ _ w0 _ (Nat.le_trans h (Qai w c))
 | program k ih => intro w w0 es h; exact ih _ w w0 _ h
 | mark m k ih => intro w w0 es h; exact ih w w0 _ h
 | halt x => intro w w0 es h; exact h
variable {p : Program} {w0 w : World}
def GD (w0 : World) : GStep → Prop
 | .go _ w _ => w0.drawn ≤ w.drawn
 | .comm _ _ _ _ w _ => w0.drawn ≤ w.drawn
 | .spawn _ _ w _ => w0.drawn ≤ w.drawn
 | .count _ w _ => w0.drawn ≤ w.drawn
 | .timer _ _ w _ => w0.drawn ≤ w.drawn
 | .alone _ _ w _ => w0.drawn ≤ w.drawn
 | .newcoro _ _ _ w _ => w0.drawn ≤ w.drawn
 | .coroswitch _ _ _ w _ => w0.drawn ≤ w.drawn
 | .collect _ w _ => w0.drawn ≤ w.drawn
 | .watch _ w _ => w0.drawn ≤ w.drawn
 | .ended _ _ _ => True
theorem Vo {α : Type} {s : Sem α} {a : α} {w' : World} (heq : s.run p w = .ok a w') (h : w0.drawn ≤ w.drawn) : w0.drawn ≤ w'.drawn := by
 have hr := Zui p s w w0 h; rw [heq] at hr; exact hr
theorem run_halt {α : Type} {s : Sem α} {a : Halt} {w' : World} (heq : s.run p w = .halt a w') (h : w0.drawn ≤ w.drawn) : w0.drawn ≤ w'.drawn := by
 have hr := Zui p s w w0 h; rw [heq] at hr; exact hr
theorem Zbi {α : Type} {s : Sem α} {a : α} {w' : World} {es es' : Array Event} (heq : s.runT p w es = (.ok a w', es')) (h : w0.drawn ≤ w.drawn) : w0.drawn ≤ w'.drawn := by
 have hr := Zib p s w w0 es h; rw [heq] at hr; exact hr
theorem Jr {α : Type} {s : Sem α} {a : Halt} {w' : World} {es es' : Array Event} (heq : s.runT p w es = (.halt a w', es')) (h : w0.drawn ≤ w.drawn) : w0.drawn ≤ w'.drawn := by
 have hr := Zib p s w w0 es h; rw [heq] at hr; exact hr
theorem Yk {α : Type} {s : Sem α} {a : α} {w' : World} {es : Array Event} (heq : (s.runT p w es).1 = .ok a w') (h : w0.drawn ≤ w.drawn) : w0.drawn ≤ w'.drawn := by
 have hr := Zib p s w w0 es h; rw [heq] at hr; exact hr
theorem Qx {α : Type} {s : Sem α} {a : Halt} {w' : World} {es : Array Event} (heq : (s.runT p w es).1 = .halt a w') (h : w0.drawn ≤ w.drawn) : w0.drawn ≤ w'.drawn := by
 have hr := Zib p s w w0 es h; rw [heq] at hr; exact hr
theorem Za1 {g : GStep} {es : Array Event} (h : GD w0 g) : GD w0 (g.after es) := by cases g <;> exact h
theorem Xk {fr : Frame} {m : String} (h : w0.drawn ≤ w.drawn) : GD w0 (endThrow fr m w) := h
theorem Zsy {n : Nat} {t : ByteArray} {o : Outcome} : GD w0 (endWith w n t o) := by
 unfold endWith; repeat' split
 all_goals trivial
theorem Qr {fr : Frame} {v : Value} (h : w0.drawn ≤ w.drawn) : GD w0 (endPrinting p fr v w) := by
 unfold endPrinting; simp only; split
 · exact h
 · trivial
theorem Yd {fr : Frame} {cs : List Frame} {d : Option Dying} {m : String} (h : w0.drawn ≤ w.drawn) : GD w0 (endFatal p fr cs d m w) := by
 unfold endFatal; (try simp only)
 repeat' split
 all_goals (try apply Za1)
 all_goals first | trivial | exact h | exact Vo (by assumption) h | exact Zbi (by assumption) h | exact Jr (by assumption) h | exact Yk (by assumption) h | exact Qx (by assumption) h | exact Qr (Qx (by assumption) h) | exact Xk (Qx (by assumption) h) | exact Qr h | exact Qr (Jr (by assumption) h) | exact Xk (Jr (by assumption) h)
theorem Qu {main : Bool} {fr : Frame} {cs : List Frame} {d : Option Dying} {v : Value} (h : w0.drawn ≤ w.drawn) : GD w0 (doReturn p main fr cs d v w) := by
 unfold doReturn; repeat' split
 all_goals first | exact h | trivial
theorem Zi8 {fr : Frame} {cs : List Frame} {dy : Option Dying} {d : Deferred} (h : w0.drawn ≤ w.drawn) : GD w0 (callDeferred p fr cs dy d w) := by
 unfold callDeferred; (try simp only)
 repeat' split
 all_goals (try apply Za1)
 all_goals first | trivial | exact h | exact Vo (by assumption) h | exact Zbi (by assumption) h | exact Jr (by assumption) h | exact Yk (by assumption) h | exact Qx (by assumption) h | exact Qr (Qx (by assumption) h) | exact Xk (Qx (by assumption) h) | exact Yd (Qx (by assumption) h) | exact Qu (Yk (by assumption) h) | exact Qr h | exact Qr (Jr (by assumption) h) | exact Yd (Jr (by assumption) h) | exact Xk (Jr (by assumption) h) | exact Qu h | exact Qu (Zbi (by assumption) h) | exact Qu (Vo (by assumption) h)
theorem Ztu {main : Bool} {fr : Frame} {cs : List Frame} {d : Option Dying} (h : w0.drawn ≤ w.drawn) : GD w0 (unwind p main fr cs d w) := by
 unfold unwind; (try simp only)
 repeat' split
 all_goals (try apply Za1)
 all_goals first | trivial | exact h | exact Vo (by assumption) h | exact Zbi (by assumption) h | exact Jr (by assumption) h | exact Yk (by assumption) h | exact Qx (by assumption) h | exact Qr (Qx (by assumption) h) | exact Xk (Qx (by assumption) h) | exact Yd (Qx (by assumption) h) | exact Qu (Yk (by assumption) h) | exact Qr h | exact Qr (Jr (by assumption) h) | exact Yd (Jr (by assumption) h) | exact Xk (Jr (by assumption) h) | exact Qu h | exact Qu (Zbi (by assumption) h) | exact Qu (Vo (by assumption) h) | exact Zi8 h
theorem Zrl {fr : Frame} {d : Dying} {f : Fatal} (h : w0.drawn ≤ w.drawn) : GD w0 (writeOn p fr d f w) := by
 unfold writeOn; (try simp only)
 repeat' split
 all_goals (try apply Za1)
 all_goals first | trivial | exact h | exact Vo (by assumption) h | exact Zbi (by assumption) h | exact Jr (by assumption) h | exact Yk (by assumption) h | exact Qx (by assumption) h | exact Qr (Qx (by assumption) h) | exact Xk (Qx (by assumption) h) | exact Yd (Qx (by assumption) h) | exact Qu (Yk (by assumption) h) | exact Qr h | exact Qr (Jr (by assumption) h) | exact Yd (Jr (by assumption) h) | exact Xk (Jr (by assumption) h) | exact Qu h | exact Qu (Zbi (by assumption) h) | exact Qu (Vo (by assumption) h)
theorem die_dr {fr : Frame} {d : Dying} (h : w0.drawn ≤ w.drawn) : GD w0 (die p fr d w) := by
 unfold die; (try simp only)
 repeat' split
 all_goals (try apply Za1)
 all_goals first | trivial | exact h | exact Vo (by assumption) h | exact Zbi (by assumption) h | exact Jr (by assumption) h | exact Yk (by assumption) h | exact Qx (by assumption) h | exact Qr (Qx (by assumption) h) | exact Xk (Qx (by assumption) h) | exact Yd (Qx (by assumption) h) | exact Qu (Yk (by assumption) h) | exact Qr h | exact Qr (Jr (by assumption) h) | exact Yd (Jr (by assumption) h) | exact Xk (Jr (by assumption) h) | exact Qu h | exact Qu (Zbi (by assumption) h) | exact Qu (Vo (by assumption) h) | exact Zrl h | exact Zsy
theorem Zzf {fr : Frame} {cs : List Frame} {d : Option Dying} {g : Nat} (h : w0.drawn ≤ w.drawn) : GD w0 (early p fr cs d g w) := by
 unfold early; (try simp only)
 repeat' split
 all_goals (try apply Za1)
 all_goals first | trivial | exact h | (have hq := Vo (by assumption : Sem.run p _ w = .ok _ _) h; exact hq) | exact Vo (by assumption) h | exact Zbi (by assumption) h | exact Jr (by assumption) h | exact Yk (by assumption) h | exact Qx (by assumption) h | exact Qr (Qx (by assumption) h) | exact Xk (Qx (by assumption) h) | exact Yd (Qx (by assumption) h) | exact Qu (Yk (by assumption) h) | exact Qr h | exact Qr (Jr (by assumption) h) | exact Yd (Jr (by assumption) h) | exact Xk (Jr (by assumption) h) | exact Qu h | exact Qu (Zbi (by assumption) h) | exact Qu (Vo (by assumption) h)
theorem Zf0 {fr : Frame} {cs : List Frame} {d : Option Dying} {s : Sem Next} {li : Bool} (h : w0.drawn ≤ w.drawn) : GD w0 (stepG.apply p li fr cs d s w) := by
 have h1 : ∀ r es, (if li = true then s.runT p w #[] else (s.run p w, #[])) = (r, es) → RD w0 r := by
  intro r es he
  split at he
  · have := Zib p s w w0 #[] h; rw [he] at this; exact this
  · cases he; exact Zui p s w w0 h
 unfold stepG.apply
 generalize (if li = true then s.runT p w #[] else (s.run p w, #[])) = x at h1
 obtain ⟨r, es⟩ := x
 have hr := h1 r es rfl
 clear h1
 simp only
 apply Za1
 repeat' split
 all_goals first | exact hr | trivial | exact Yd hr | exact Xk hr | exact Zzf hr
theorem Zlt {α : Type} {o : Option α} {a : GStep} {f : α → GStep} (h1 : GD w0 a) (h2 : ∀ x, GD w0 (f x)) : GD w0 (o.elim a f) := by cases o <;> first | exact h1 | exact h2 _
theorem Qbw {fr : Frame} {cs : List Frame} {d : Option Dying} {li : Bool} (h : w0.drawn ≤ w.drawn) : GD w0 (stepG.oper p li fr cs d w) := by
 unfold stepG.oper
 repeat' split
 all_goals first | trivial | exact Zf0 h
theorem Qcb {main : Bool} {fr : Frame} {cs : List Frame} {d : Option Dying} {li : Bool} (h : w0.drawn ≤ w.drawn) : GD w0 (stepG.exec p main li fr cs d w) := by
 unfold stepG.exec
 simp only
 repeat' split
 all_goals first | trivial | exact h | exact Qu h | exact Zf0 h | exact Qbw h | exact Vo (by assumption) h | exact Zlt trivial (fun _ => Zf0 h) | exact Zlt h (fun _ => h) | exact Zlt trivial (fun _ => h) | (refine Zlt (Za1 ?_) (fun _ => h); first | trivial | exact Yk (by assumption) h | exact Qu (Yk (by assumption) h) | exact Zf0 (Yk (by assumption) h) | exact Qx (by assumption) h) | (refine Za1 ?_; first | trivial | exact Yk (by assumption) h | exact Qu (Yk (by assumption) h) | exact Zf0 (Yk (by assumption) h) | exact Qx (by assumption) h)
theorem Zxz {main : Bool} {g : Goroutine} {li : Bool} (h : w0.drawn ≤ w.drawn) : GD w0 (stepG p main g w li) := by
 unfold stepG
 simp only
 repeat' split
 all_goals first | exact die_dr h | exact Qcb h | exact Ztu h
def SD (w0 : World) : Stepped → Prop
 | .next m => w0.drawn ≤ m.world.drawn
 | .ended _ _ => True
def MD (w0 : World) : Move → Prop
 | .goroutine m _ => w0.drawn ≤ m.world.drawn
 | .machine s _ => SD w0 s
theorem Zrn {rest : Rest} {cases' : Array CommCase} {w' : World} (h : waitingAt rest cases' w = some w') : w'.drawn = w.drawn := by
 unfold waitingAt at h; repeat' split at h
 all_goals first | (cases h; done) | (cases h; rfl)
theorem Qcm {rest : Rest} {gs : Array Goroutine} {i : Nat} {g : Goroutine} {cs : Array CommCase} {bl : Bool} {sh : CommShape} (h : w0.drawn ≤ w.drawn) : SD w0 (communicate p rest gs i g cs bl sh w).1 := by
 unfold communicate; simp only
 repeat' split
 all_goals first | trivial | exact h | (rename_i heq; show w0.drawn ≤ _; rw [Zrn heq]; exact h) | (have hq := Vo (by assumption : Sem.run p _ w = .ok _ _) h; first | exact hq | (have hq2 := Vo (by assumption : Sem.run p _ _ = .ok _ _) hq; exact hq2) | (have hq2 := run_halt (by assumption : Sem.run p _ _ = .halt _ _) hq; exact hq2))
theorem Zu9 {gs : Array Goroutine} {rest : Rest} (h : w0.drawn ≤ w.drawn) : SD w0 (look p gs rest w) := by
 unfold look
 split
 ·
  simp only
  split
  · trivial
  ·
   split
   · trivial
   ·
    split
    · have hq := Vo (by assumption : Sem.run p _ w = .ok _ _) h; exact hq
    · trivial
    · trivial
 · trivial
theorem Zx1 {m : Machine} {k : Nat} (h : w0.drawn ≤ m.world.drawn) : SD w0 (serve p m k) := by
 unfold serve; simp only
 repeat' split
 all_goals first | trivial | exact h
theorem Zzh {c : Nat} : (drain w c).2.drawn = w.drawn := by
 unfold drain; split <;> rfl
theorem Zmm {m : Machine} {k : Nat} {t : Timer} {a b : Nat} (h : w0.drawn ≤ m.world.drawn) : w0.drawn ≤ (retime m k t a b).2.world.drawn := by
 unfold retime
 split
 rename_i heq
 split at heq
 ·
  have := congrArg (fun x : Bool × World => x.2.drawn) heq
  simp only [Zzh] at this
  have h2 : w0.drawn ≤ m.world.drawn := h
  rw [this] at h2; exact h2
 · cases heq; exact h
theorem Zqh {m m' : Machine} {var : Addr} {f : Nat → Timer → Value × Machine} {v : Value} (hf : ∀ k t, w0.drawn ≤ (f k t).2.world.drawn) (he : timerOp.named m var f = .ok (v, m')) : w0.drawn ≤ m'.world.drawn := by
 unfold timerOp.named at he
 split at he
 ·
  rename_i k _
  have := hf k (m.rest.timers.getD k default)
  have e := Except.ok.inj he
  rw [e] at this; exact this
 · cases he
theorem Zuz {m m' : Machine} {var : Addr} (h : w0.drawn ≤ m.world.drawn) (he : timerOp.opened m var = some m') : w0.drawn ≤ m'.world.drawn := by
 unfold timerOp.opened at he
 repeat' split at he
 all_goals first | (cases he; done) | (cases he; exact h)
theorem Zrr {m m' : Machine} {op : TimerOp} {v : Value} (h : w0.drawn ≤ m.world.drawn) (he : timerOp m op = .ok (v, m')) : w0.drawn ≤ m'.world.drawn := by
 cases op <;> simp only [timerOp] at he
 ·
  repeat' split at he
  all_goals first | (cases he; done) | (cases he; exact h)
 · exact Zqh (fun k t => Zmm h) he
 ·
  split at he
  ·
   rename_i heq
   exact Zqh (fun k t => Zmm (Zuz h heq)) he
  · cases he
 · cases he; exact h
theorem Zn9 {m m' : Machine} {op : TimerOp} {v : Value} (he : timerOp m op = .ok (v, m')) (h : w0.drawn ≤ m.world.drawn) : w0.drawn ≤ m'.world.drawn := Zrr h he
theorem Zo7 {fr : Frame} {t : String} {g : Goroutine} {w' : World} {es : Array Event} (he : endThrow fr t w = .go g w' es) (h : w0.drawn ≤ w.drawn) : w0.drawn ≤ w'.drawn := by
 have := Xk (fr := fr) (m := t) h; rw [he] at this; exact this
theorem Zx6 {m : Machine} {i : Nat} {li : Bool} (h : w0.drawn ≤ m.world.drawn) : SD w0 (runT p m i li).1 := by
 unfold runT
 simp only
 split
 all_goals
  rename_i heq
  have hg := Zxz (p := p) (main := i == 0) (g := (m.gs.swapAt! i { (default : Goroutine) with status := .finished }).1) (li := li) h
  rw [heq] at hg
 all_goals first | trivial | exact hg | exact Qcm hg | exact Zu9 hg | skip
 all_goals (repeat' split)
 all_goals first | trivial | exact hg | (have hq := Zo7 (by assumption : endThrow _ _ _ = .go _ _ _) hg; exact hq) | (rename_i heq; have hq := Zn9 (w0 := w0) heq hg; exact hq)
theorem Zly {m : Machine} (h : w0.drawn ≤ m.world.drawn) : MD w0 (askOn p m) := by
 have pk : ∀ (m : Machine), w0.drawn ≤ m.world.drawn → ∀ rs : List Nat, MD w0 (match (choose (.sched rs.length)).run p m.world with
   | .halt _ w => .machine (.ended (.stuck "sched" "") w)
   | .ok k world =>
    if rs.length ≤ 1 then .goroutine { m with world } (rs.getD k 0) else
    match (choose (.extern "sched.slice" 65536)).run p world with
    | .halt _ w => .machine (.ended (.stuck "sched.slice" "") w)
    | .ok n world => .goroutine { m with world, rest := { m.rest with slice := if n = 0 then none else some (rs.getD k 0, n) } } (rs.getD k 0)) := by
  intro m h rs
  split
  · trivial
  ·
   have hq := Vo (by assumption : Sem.run p _ m.world = .ok _ _) h
   split
   · exact hq
   ·
    split
    · trivial
    · have hq2 := Vo (by assumption : Sem.run p _ _ = .ok _ _) hq; exact hq2
 unfold askOn
 simp only
 split
 · trivial
 ·
  have hq := Vo (by assumption : Sem.run p _ m.world = .ok _ _) h
  split
  · exact Zx1 hq
  ·
   split
   ·
    split
    · exact hq
    ·
     split
     · exact hq
     · split <;> trivial
   ·
    split
    · exact pk { world := _, gs := m.gs, rest := m.rest } hq _
    ·
     split
     · trivial
     · have hq2 := Vo (by assumption : Sem.run p _ _ = .ok _ _) hq; exact pk { world := _, gs := m.gs, rest := m.rest } hq2 _
     · have hq2 := Vo (by assumption : Sem.run p _ _ = .ok _ _) hq; exact hq2
     · have hq2 := Vo (by assumption : Sem.run p _ _ = .ok _ _) hq; exact pk (Machine.advanceTo { world := _, gs := m.gs, rest := m.rest } _) hq2 _
theorem Qcy {m : Machine} (h : w0.drawn ≤ m.world.drawn) : MD w0 (Go.ask p m) := by
 unfold Go.ask
 split
 ·
  split
  · trivial
  ·
   have hq := Vo (by assumption : Sem.run p _ m.world = .ok _ _) h
   have hl := Zu9 (p := p) (gs := m.gs) (rest := m.rest) hq
   split
   · rename_i heq; rw [heq] at hl; exact Zly hl
   · exact hl
  ·
   have hq := Vo (by assumption : Sem.run p _ m.world = .ok _ _) h
   exact Zly hq
 · exact Zly h
theorem Qb1 {m : Machine} (h : w0.drawn ≤ m.world.drawn) : MD w0 (move p m) := by
 unfold move
 repeat' split
 all_goals first | trivial | exact h | exact Qcy h
theorem Qbg {m : Machine} (h : w0.drawn ≤ m.world.drawn) : SD w0 (step p m) := by
 unfold step stepT
 have hm := Qb1 (p := p) h
 split
 · rename_i heq; rw [heq] at hm; exact Zx6 hm
 · rename_i heq; rw [heq] at hm; exact hm
theorem Zoj : ∀ (n : Nat) (m m' : Machine), w0.drawn ≤ m.world.drawn → runN p n m = .next m' → w0.drawn ≤ m'.world.drawn
 | 0, m, m', h, he => by cases he; exact h
 | n + 1, m, m', h, he => by
  unfold runN at he
  have hs := Qbg (p := p) h
  split at he
  · rename_i heq; rw [heq] at hs; exact Zoj n _ _ hs he
  · rename_i hn; exact absurd he (hn _)
theorem Calls.drawn {P : Program} {f : FuncId} {args : Array Value} {w : World} {R : Ending → World → Prop} (h : Calls P f args w R) (hR : ∀ w', ¬ R .outgrown w') : Calls P f args w (fun e w' => R e w' ∧ w.drawn ≤ w'.drawn) := by
 intro cs
 obtain ⟨e, w', fr, hr, hc, h1, h2⟩ := h cs
 refine ⟨e, w', fr, ⟨hr, ?_⟩, hc, h1, h2⟩
 cases e with
 | outgrown => exact absurd hr (hR _)
 | returned v => obtain ⟨n, hn⟩ := (show Steps P _ _ from hc); exact Zoj n _ _ (Nat.le_refl _) hn
 | panicked ch => obtain ⟨n, hn⟩ := (show Steps P _ _ from hc); exact Zoj n _ _ (Nat.le_refl _) hn
end Go.Fx
