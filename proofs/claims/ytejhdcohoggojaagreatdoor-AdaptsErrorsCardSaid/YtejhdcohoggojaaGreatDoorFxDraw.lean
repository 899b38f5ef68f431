/- The count of draws never falls: in no step of the machine. By an AI agent. -/
import Derived.Calls
import Derived.Below
import GoSem.Step
set_option linter.unusedVariables false
set_option linter.unusedSimpArgs false
namespace Go.Fx
open Go
def RD{α:Type}(w0:World): Result α→Prop
 | .ok _ w=>w0.drawn≤w.drawn
 | .halt _ w=>w0.drawn≤w.drawn
theorem Z6{α:Type}: ∀(q:Ask α) (w:World),w.drawn≤(w.ask q).2.drawn
 | .done a,w=>Nat.le_refl _
 | .ask b range k,w=>by
  unfold World.ask
  simp only
  split
  ·exact Z6 (k 0) w
  ·exact Nat.le_trans (Nat.le_succ _) (Z6 (k _) { w with drawn:=w.drawn+1 })
theorem ix(w:World)(c:Sys): w.drawn≤(w.sys c).2.drawn:=by
 unfold World.sys
 have h:=Z6 (Kernel.perform c w.os) w
 split
 ·exact Nat.le_refl _
 ·rename_i heq;rw[heq] at h;exact h
theorem NU(w:World)(a:Addr)(n:Nat): (w.freeze a n).drawn=w.drawn:=by
 unfold World.freeze;split<;>rfl
theorem MQ(p:Program)(w:World)(at_:Addr)(u:TypeId)(k:Addr)(v:Value)(atomic:Bool)(r:World×List Addr)(h:w.viewStore p at_ u k v atomic=.ok r): r.1.drawn=w.drawn:=by
 unfold World.viewStore at h
 simp only[bind,Except.bind,pure,Except.pure] at h
 repeat' split at h
 all_goals first|(cases h;done)|(cases h;rfl)|skip
theorem IB(p:Program)(w:World)(a:Addr)(v:Value)(atomic:Bool)(r:World×List Addr)(h:w.farStore p a v atomic=.ok r): r.1.drawn=w.drawn:=by
 unfold World.farStore at h
 split at h
 ·split at h
  ·rename_i heq;cases h;exact MQ _ _ _ _ _ _ _ _ heq
  ·cases h
 ·cases h
theorem Wg{α:Type}(p:Program): ∀(s:Sem α) (w w0:World),w0.drawn≤w.drawn→RD w0 (s.run p w):=by
 intro s
 induction s with
 | pure a=>intro w w0 h;exact h
 | load m a k b =>
  intro w w0 h;simp only[Sem.run];split
  ·exact b _ w w0 h
  ·split
   ·exact b _ w w0 h
   ·exact h
 | store m a v k b =>
  intro w w0 h
  cases v<;>simp only[Sem.run]<;>first|exact h|skip
  all_goals
   split
   ·split
    ·exact h
    ·exact b _ w0 h
   ·split
    ·rename_i w' _ heq
     exact b _ w0 (by rw[IB p w a _ _ (w',_) heq];exact h)
    ·exact h
 | new o k b=>intro w w0 h;exact b _ _ w0 h
 | shape r k b=>intro w w0 h;exact b _ w w0 h
 | freeze a n k b=>intro w w0 h;simp only[Sem.run];exact b _ w0 (by rw[NU];exact h)
 | frozen a k b=>intro w w0 h;exact b _ w w0 h
 | getObj r k b =>
  intro w w0 h;simp only[Sem.run];split
  ·exact h
  ·exact b _ w w0 h
  ·exact h
 | setObj r o k b =>
  intro w w0 h;simp only[Sem.run];split
  ·exact h
  ·exact b _ w0 h
  ·exact h
 | choose q k b =>
  intro w w0 h;simp only[Sem.run];split
  ·exact b _ w w0 h
  ·exact b _ _ w0 (Nat.le_trans h (Nat.le_succ _))
 | sys c k b=>intro w w0 h;simp only[Sem.run];exact b _ _ w0 (Nat.le_trans h (ix w c))
 | program k b=>intro w w0 h;exact b _ w w0 h
 | mark m k b=>intro w w0 h;exact b w w0 h
 | halt x=>intro w w0 h;exact h
theorem Ic{α:Type}(p:Program): ∀(s:Sem α) (w w0:World) (es:Array Event),w0.drawn≤w.drawn→RD w0 (s.runT p w es).1:=by
 intro s
 induction s with
 | pure a=>intro w w0 es h;exact h
 | load m a k b =>
  intro w w0 es h;simp only[Sem.runT];split
  ·exact b _ w w0 _ h
  ·split
   ·exact b _ w w0 _ h
   ·exact h
 | store m a v k b =>
  intro w w0 es h
  cases v<;>simp only[Sem.runT]<;>first|exact h|skip
  all_goals
   split
   ·split
    ·exact h
    ·exact b _ w0 _ h
   ·split
    ·rename_i w' _ heq
     exact b _ w0 _ (by rw[IB p w a _ _ (w',_) heq];exact h)
    ·exact h
 | new o k b=>intro w w0 es h;exact b _ _ w0 _ h
 | shape r k b=>intro w w0 es h;exact b _ w w0 _ h
 | freeze a n k b=>intro w w0 es h;simp only[Sem.runT];exact b _ w0 _ (by rw[NU];exact h)
 | frozen a k b=>intro w w0 es h;exact b _ w w0 _ h
 | getObj r k b =>
  intro w w0 es h;simp only[Sem.runT];split
  ·exact h
  ·exact b _ w w0 _ h
  ·exact h
 | setObj r o k b =>
  intro w w0 es h;simp only[Sem.runT];split
  ·exact h
  ·exact b _ w0 _ h
  ·exact h
 | choose q k b =>
  intro w w0 es h;simp only[Sem.runT];split
  ·exact b _ w w0 _ h
  ·exact b _ _ w0 _ (Nat.le_trans h (Nat.le_succ _))
 | sys c k b=>intro w w0 es h;simp only[Sem.runT];exact b _ _ w0 _ (Nat.le_trans h (ix w c))
 | program k b=>intro w w0 es h;exact b _ w w0 _ h
 | mark m k b=>intro w w0 es h;exact b w w0 _ h
 | halt x=>intro w w0 es h;exact h
variable{p:Program}{w0 w:World}
def GD(w0:World): GStep→Prop
 | .go _ w _=>w0.drawn≤w.drawn
 | .comm _ _ _ _ w _=>w0.drawn≤w.drawn
 | .spawn _ _ w _=>w0.drawn≤w.drawn
 | .count _ w _=>w0.drawn≤w.drawn
 | .timer _ _ w _=>w0.drawn≤w.drawn
 | .alone _ _ w _=>w0.drawn≤w.drawn
 | .newcoro _ _ _ w _=>w0.drawn≤w.drawn
 | .coroswitch _ _ _ w _=>w0.drawn≤w.drawn
 | .collect _ w _=>w0.drawn≤w.drawn
 | .watch _ w _=>w0.drawn≤w.drawn
 | .ended _ _ _=>True
theorem Va{α:Type}{s:Sem α}{a:α}{w':World}(heq:s.run p w=.ok a w')(h:w0.drawn≤w.drawn): w0.drawn≤w'.drawn:=by
 have hr:=Wg p s w w0 h;rw[heq] at hr;exact hr
theorem run_halt{α:Type}{s:Sem α}{a:Halt}{w':World}(heq:s.run p w=.halt a w')(h:w0.drawn≤w.drawn): w0.drawn≤w'.drawn:=by
 have hr:=Wg p s w w0 h;rw[heq] at hr;exact hr
theorem A5{α:Type}{s:Sem α}{a:α}{w':World}{es b:Array Event}(heq:s.runT p w es=(.ok a w',b))(h:w0.drawn≤w.drawn): w0.drawn≤w'.drawn:=by
 have hr:=Ic p s w w0 es h;rw[heq] at hr;exact hr
theorem Jd{α:Type}{s:Sem α}{a:Halt}{w':World}{es b:Array Event}(heq:s.runT p w es=(.halt a w',b))(h:w0.drawn≤w.drawn): w0.drawn≤w'.drawn:=by
 have hr:=Ic p s w w0 es h;rw[heq] at hr;exact hr
theorem Xy{α:Type}{s:Sem α}{a:α}{w':World}{es:Array Event}(heq:(s.runT p w es).1=.ok a w')(h:w0.drawn≤w.drawn): w0.drawn≤w'.drawn:=by
 have hr:=Ic p s w w0 es h;rw[heq] at hr;exact hr
theorem Qq{α:Type}{s:Sem α}{a:Halt}{w':World}{es:Array Event}(heq:(s.runT p w es).1=.halt a w')(h:w0.drawn≤w.drawn): w0.drawn≤w'.drawn:=by
 have hr:=Ic p s w w0 es h;rw[heq] at hr;exact hr
theorem AQ{g:GStep}{es:Array Event}(h:GD w0 g): GD w0 (g.after es):=by cases g<;>exact h
theorem Jq{fr:Frame}{m:String}(h:w0.drawn≤w.drawn): GD w0 (endThrow fr m w):=h
theorem Ud{n:Nat}{t:ByteArray}{o:Outcome}: GD w0 (endWith w n t o):=by
 unfold endWith;repeat' split
 all_goals trivial
theorem Ql{fr:Frame}{v:Value}(h:w0.drawn≤w.drawn): GD w0 (endPrinting p fr v w):=by
 unfold endPrinting;simp only;split
 ·exact h
 ·trivial
theorem Xq{fr:Frame}{cs:List Frame}{d:Option Dying}{m:String}(h:w0.drawn≤w.drawn): GD w0 (endFatal p fr cs d m w):=by
 unfold endFatal;(try simp only)
 repeat' split
 all_goals (try apply AQ)
 all_goals first|trivial|exact h|exact Va (by assumption) h|exact A5 (by assumption) h|exact Jd (by assumption) h|exact Xy (by assumption) h|exact Qq (by assumption) h|exact Ql (Qq (by assumption) h)|exact Jq (Qq (by assumption) h)|exact Ql h|exact Ql (Jd (by assumption) h)|exact Jq (Jd (by assumption) h)
theorem Qm{main:Bool}{fr:Frame}{cs:List Frame}{d:Option Dying}{v:Value}(h:w0.drawn≤w.drawn): GD w0 (doReturn p main fr cs d v w):=by
 unfold doReturn;repeat' split
 all_goals first|exact h|trivial
theorem IW{fr:Frame}{cs:List Frame}{dy:Option Dying}{d:Deferred}(h:w0.drawn≤w.drawn): GD w0 (callDeferred p fr cs dy d w):=by
 unfold callDeferred;(try simp only)
 repeat' split
 all_goals (try apply AQ)
 all_goals first|trivial|exact h|exact Va (by assumption) h|exact A5 (by assumption) h|exact Jd (by assumption) h|exact Xy (by assumption) h|exact Qq (by assumption) h|exact Ql (Qq (by assumption) h)|exact Jq (Qq (by assumption) h)|exact Xq (Qq (by assumption) h)|exact Qm (Xy (by assumption) h)|exact Ql h|exact Ql (Jd (by assumption) h)|exact Xq (Jd (by assumption) h)|exact Jq (Jd (by assumption) h)|exact Qm h|exact Qm (A5 (by assumption) h)|exact Qm (Va (by assumption) h)
theorem U3{main:Bool}{fr:Frame}{cs:List Frame}{d:Option Dying}(h:w0.drawn≤w.drawn): GD w0 (unwind p main fr cs d w):=by
 unfold unwind;(try simp only)
 repeat' split
 all_goals (try apply AQ)
 all_goals first|trivial|exact h|exact Va (by assumption) h|exact A5 (by assumption) h|exact Jd (by assumption) h|exact Xy (by assumption) h|exact Qq (by assumption) h|exact Ql (Qq (by assumption) h)|exact Jq (Qq (by assumption) h)|exact Xq (Qq (by assumption) h)|exact Qm (Xy (by assumption) h)|exact Ql h|exact Ql (Jd (by assumption) h)|exact Xq (Jd (by assumption) h)|exact Jq (Jd (by assumption) h)|exact Qm h|exact Qm (A5 (by assumption) h)|exact Qm (Va (by assumption) h)|exact IW h
theorem SZ{fr:Frame}{d:Dying}{f:Fatal}(h:w0.drawn≤w.drawn): GD w0 (writeOn p fr d f w):=by
 unfold writeOn;(try simp only)
 repeat' split
 all_goals (try apply AQ)
 all_goals first|trivial|exact h|exact Va (by assumption) h|exact A5 (by assumption) h|exact Jd (by assumption) h|exact Xy (by assumption) h|exact Qq (by assumption) h|exact Ql (Qq (by assumption) h)|exact Jq (Qq (by assumption) h)|exact Xq (Qq (by assumption) h)|exact Qm (Xy (by assumption) h)|exact Ql h|exact Ql (Jd (by assumption) h)|exact Xq (Jd (by assumption) h)|exact Jq (Jd (by assumption) h)|exact Qm h|exact Qm (A5 (by assumption) h)|exact Qm (Va (by assumption) h)
theorem die_dr{fr:Frame}{d:Dying}(h:w0.drawn≤w.drawn): GD w0 (die p fr d w):=by
 unfold die;(try simp only)
 repeat' split
 all_goals (try apply AQ)
 all_goals first|trivial|exact h|exact Va (by assumption) h|exact A5 (by assumption) h|exact Jd (by assumption) h|exact Xy (by assumption) h|exact Qq (by assumption) h|exact Ql (Qq (by assumption) h)|exact Jq (Qq (by assumption) h)|exact Xq (Qq (by assumption) h)|exact Qm (Xy (by assumption) h)|exact Ql h|exact Ql (Jd (by assumption) h)|exact Xq (Jd (by assumption) h)|exact Jq (Jd (by assumption) h)|exact Qm h|exact Qm (A5 (by assumption) h)|exact Qm (Va (by assumption) h)|exact SZ h|exact Ud
theorem ft{fr:Frame}{cs:List Frame}{d:Option Dying}{g:Nat}(h:w0.drawn≤w.drawn): GD w0 (early p fr cs d g w):=by
 unfold early;(try simp only)
 repeat' split
 all_goals (try apply AQ)
 all_goals first|trivial|exact h|(have hq:=Va (by assumption:Sem.run p _ w=.ok _ _) h;exact hq)|exact Va (by assumption) h|exact A5 (by assumption) h|exact Jd (by assumption) h|exact Xy (by assumption) h|exact Qq (by assumption) h|exact Ql (Qq (by assumption) h)|exact Jq (Qq (by assumption) h)|exact Xq (Qq (by assumption) h)|exact Qm (Xy (by assumption) h)|exact Ql h|exact Ql (Jd (by assumption) h)|exact Xq (Jd (by assumption) h)|exact Jq (Jd (by assumption) h)|exact Qm h|exact Qm (A5 (by assumption) h)|exact Qm (Va (by assumption) h)
theorem FK{fr:Frame}{cs:List Frame}{d:Option Dying}{s:Sem Next}{li:Bool}(h:w0.drawn≤w.drawn): GD w0 (stepG.apply p li fr cs d s w):=by
 have h1:∀r es,(if li=true then s.runT p w #[] else (s.run p w,#[]))=(r,es)→RD w0 r:=by
  intro r es he
  split at he
  ·have:=Ic p s w w0 #[] h;rw[he] at this;exact this
  ·cases he;exact Wg p s w w0 h
 unfold stepG.apply
 generalize (if li=true then s.runT p w #[] else (s.run p w,#[]))=x at h1
 obtain ⟨r,es⟩:=x
 have hr:=h1 r es rfl
 clear h1
 simp only
 apply AQ
 repeat' split
 all_goals first|exact hr|trivial|exact Xq hr|exact Jq hr|exact ft hr
theorem Mh{α:Type}{o:Option α}{a:GStep}{f:α→GStep}(h1:GD w0 a)(b:∀x,GD w0 (f x)): GD w0 (o.elim a f):=by cases o<;>first|exact h1|exact b _
theorem kH{fr:Frame}{cs:List Frame}{d:Option Dying}{li:Bool}(h:w0.drawn≤w.drawn): GD w0 (stepG.oper p li fr cs d w):=by
 unfold stepG.oper
 repeat' split
 all_goals first|trivial|exact FK h
theorem lW{main:Bool}{fr:Frame}{cs:List Frame}{d:Option Dying}{li:Bool}(h:w0.drawn≤w.drawn): GD w0 (stepG.exec p main li fr cs d w):=by
 unfold stepG.exec
 simp only
 repeat' split
 all_goals first|trivial|exact h|exact Qm h|exact FK h|exact kH h|exact Va (by assumption) h|exact Mh trivial (fun _=>FK h)|exact Mh h (fun _=>h)|exact Mh trivial (fun _=>h)|(refine Mh (AQ ?_) (fun _=>h);first|trivial|exact Xy (by assumption) h|exact Qm (Xy (by assumption) h)|exact FK (Xy (by assumption) h)|exact Qq (by assumption) h)|(refine AQ ?_;first|trivial|exact Xy (by assumption) h|exact Qm (Xy (by assumption) h)|exact FK (Xy (by assumption) h)|exact Qq (by assumption) h)
theorem cw{main:Bool}{g:Goroutine}{li:Bool}(h:w0.drawn≤w.drawn): GD w0 (stepG p main g w li):=by
 unfold stepG
 simp only
 repeat' split
 all_goals first|exact die_dr h|exact lW h|exact U3 h
def SD(w0:World): Stepped→Prop
 | .next m=>w0.drawn≤m.world.drawn
 | .ended _ _=>True
def MD(w0:World): Move→Prop
 | .goroutine m _=>w0.drawn≤m.world.drawn
 | .machine s _=>SD w0 s
theorem S0{rest:Rest}{a:Array CommCase}{w':World}(h:waitingAt rest a w=some w'): w'.drawn=w.drawn:=by
 unfold waitingAt at h;repeat' split at h
 all_goals first|(cases h;done)|(cases h;rfl)
theorem mo{rest:Rest}{gs:Array Goroutine}{i:Nat}{g:Goroutine}{cs:Array CommCase}{c:Bool}{b:CommShape}(h:w0.drawn≤w.drawn): SD w0 (communicate p rest gs i g cs c b w).1:=by
 unfold communicate;simp only
 repeat' split
 all_goals first|trivial|exact h|(rename_i heq;show w0.drawn≤_;rw[S0 heq];exact h)|(have hq:=Va (by assumption:Sem.run p _ w=.ok _ _) h;first|exact hq|(have a:=Va (by assumption:Sem.run p _ _=.ok _ _) hq;exact a)|(have a:=run_halt (by assumption:Sem.run p _ _=.halt _ _) hq;exact a))
theorem XB{gs:Array Goroutine}{rest:Rest}(h:w0.drawn≤w.drawn): SD w0 (look p gs rest w):=by
 unfold look
 split
 ·simp only
  split
  ·trivial
  ·split
   ·trivial
   ·split
    ·have hq:=Va (by assumption:Sem.run p _ w=.ok _ _) h;exact hq
    ·trivial
    ·trivial
 ·trivial
theorem dh{m:Machine}{k:Nat}(h:w0.drawn≤m.world.drawn): SD w0 (serve p m k):=by
 unfold serve;simp only
 repeat' split
 all_goals first|trivial|exact h
theorem fu{c:Nat}: (drain w c).2.drawn=w.drawn:=by
 unfold drain;split<;>rfl
theorem M8{m:Machine}{k:Nat}{t:Timer}{a b:Nat}(h:w0.drawn≤m.world.drawn): w0.drawn≤(retime m k t a b).2.world.drawn:=by
 unfold retime
 split
 rename_i heq
 split at heq
 ·have:=congrArg (fun x:Bool×World=>x.2.drawn) heq
  simp only[fu] at this
  have c:w0.drawn≤m.world.drawn:=h
  rw[this] at c;exact c
 ·cases heq;exact h
theorem Rv{m a:Machine}{var:Addr}{f:Nat→Timer→Value×Machine}{v:Value}(hf:∀k t,w0.drawn≤(f k t).2.world.drawn)(he:timerOp.named m var f=.ok (v,a)): w0.drawn≤a.world.drawn:=by
 unfold timerOp.named at he
 split at he
 ·rename_i k _
  have:=hf k (m.rest.timers.getD k default)
  have e:=Except.ok.inj he
  rw[e] at this;exact this
 ·cases he
theorem WG{m a:Machine}{var:Addr}(h:w0.drawn≤m.world.drawn)(he:timerOp.opened m var=some a): w0.drawn≤a.world.drawn:=by
 unfold timerOp.opened at he
 repeat' split at he
 all_goals first|(cases he;done)|(cases he;exact h)
theorem S3{m a:Machine}{op:TimerOp}{v:Value}(h:w0.drawn≤m.world.drawn)(he:timerOp m op=.ok (v,a)): w0.drawn≤a.world.drawn:=by
 cases op<;>simp only[timerOp] at he
 ·repeat' split at he
  all_goals first|(cases he;done)|(cases he;exact h)
 ·exact Rv (fun k t=>M8 h) he
 ·split at he
  ·rename_i heq
   exact Rv (fun k t=>M8 (WG h heq)) he
  ·cases he
 ·cases he;exact h
theorem OP{m a:Machine}{op:TimerOp}{v:Value}(he:timerOp m op=.ok (v,a))(h:w0.drawn≤m.world.drawn): w0.drawn≤a.world.drawn:=S3 h he
theorem P1{fr:Frame}{t:String}{g:Goroutine}{w':World}{es:Array Event}(he:endThrow fr t w=.go g w' es)(h:w0.drawn≤w.drawn): w0.drawn≤w'.drawn:=by
 have:=Jq (fr:=fr) (m:=t) h;rw[he] at this;exact this
theorem dr{m:Machine}{i:Nat}{li:Bool}(h:w0.drawn≤m.world.drawn): SD w0 (runT p m i li).1:=by
 unfold runT
 simp only
 split
 all_goals
  rename_i heq
  have a:=cw (p:=p) (main:=i == 0) (g:=(m.gs.swapAt! i { (default:Goroutine) with status:=.finished }).1) (li:=li) h
  rw[heq] at a
 all_goals first|trivial|exact a|exact mo a|exact XB a|skip
 all_goals (repeat' split)
 all_goals first|trivial|exact a|(have hq:=P1 (by assumption:endThrow _ _ _=.go _ _ _) a;exact hq)|(rename_i heq;have hq:=OP (w0:=w0) heq a;exact hq)
theorem MB{m:Machine}(h:w0.drawn≤m.world.drawn): MD w0 (askOn p m):=by
 have pk:∀(m:Machine),w0.drawn≤m.world.drawn → ∀rs:List Nat,MD w0 (match (choose (.sched rs.length)).run p m.world with
   | .halt _ w => .machine (.ended (.stuck "sched" "") w)
   | .ok k world =>
    if rs.length≤1 then .goroutine { m with world } (rs.getD k 0) else
    match (choose (.extern "sched.slice" 65536)).run p world with
    | .halt _ w => .machine (.ended (.stuck "sched.slice" "") w)
    | .ok n world =>.goroutine { m with world,rest:={ m.rest with slice:=if n=0 then none else some (rs.getD k 0,n) } } (rs.getD k 0)):=by
  intro m h rs
  split
  ·trivial
  ·have hq:=Va (by assumption:Sem.run p _ m.world=.ok _ _) h
   split
   ·exact hq
   ·split
    ·trivial
    ·have hq2:=Va (by assumption:Sem.run p _ _=.ok _ _) hq;exact hq2
 unfold askOn
 simp only
 split
 ·trivial
 ·have hq:=Va (by assumption:Sem.run p _ m.world=.ok _ _) h
  split
  ·exact dh hq
  ·split
   ·split
    ·exact hq
    ·split
     ·exact hq
     ·split<;>trivial
   ·split
    ·exact pk { world:=_,gs:=m.gs,rest:=m.rest } hq _
    ·split
     ·trivial
     ·have hq2:=Va (by assumption:Sem.run p _ _=.ok _ _) hq;exact pk { world:=_,gs:=m.gs,rest:=m.rest } hq2 _
     ·have hq2:=Va (by assumption:Sem.run p _ _=.ok _ _) hq;exact hq2
     ·have hq2:=Va (by assumption:Sem.run p _ _=.ok _ _) hq;exact pk (Machine.advanceTo { world:=_,gs:=m.gs,rest:=m.rest } _) hq2 _
theorem mS{m:Machine}(h:w0.drawn≤m.world.drawn): MD w0 (Go.ask p m):=by
 unfold Go.ask
 split
 ·split
  ·trivial
  ·have hq:=Va (by assumption:Sem.run p _ m.world=.ok _ _) h
   have hl:=XB (p:=p) (gs:=m.gs) (rest:=m.rest) hq
   split
   ·rename_i heq;rw[heq] at hl;exact MB hl
   ·exact hl
  ·have hq:=Va (by assumption:Sem.run p _ m.world=.ok _ _) h
   exact MB hq
 ·exact MB h
theorem kX{m:Machine}(h:w0.drawn≤m.world.drawn): MD w0 (move p m):=by
 unfold move
 repeat' split
 all_goals first|trivial|exact h|exact mS h
theorem jL{m:Machine}(h:w0.drawn≤m.world.drawn): SD w0 (step p m):=by
 unfold step stepT
 have hm:=kX (p:=p) h
 split
 ·rename_i heq;rw[heq] at hm;exact dr hm
 ·rename_i heq;rw[heq] at hm;exact hm
theorem O5:∀(n:Nat) (m a:Machine),w0.drawn≤m.world.drawn→runN p n m=.next a→w0.drawn≤a.world.drawn
 | 0,m,a,h,he=>by cases he;exact h
 | n+1,m,a,h,he=>by
  unfold runN at he
  have hs:=jL (p:=p) h
  split at he
  ·rename_i heq;rw[heq] at hs;exact O5 n _ _ hs he
  ·rename_i b;exact absurd he (b _)
theorem Calls.drawn{P:Program}{f:FuncId}{args:Array Value}{w:World}{R:Ending→World→Prop}(h:Calls P f args w R)(hR:∀w',¬R .outgrown w'): Calls P f args w (fun e w'=>R e w'∧w.drawn≤w'.drawn):=by
 intro cs
 obtain ⟨e,w',fr,hr,hc,h1,b⟩:=h cs
 refine⟨e,w',fr,⟨hr,?_⟩,hc,h1,b⟩
 cases e with
 | outgrown=>exact absurd hr (hR _)
 | returned v=>obtain ⟨n,a⟩:=(show Steps P _ _ from hc);exact O5 n _ _ (Nat.le_refl _) a
 | panicked c=>obtain ⟨n,a⟩:=(show Steps P _ _ from hc);exact O5 n _ _ (Nat.le_refl _) a
end Go.Fx
