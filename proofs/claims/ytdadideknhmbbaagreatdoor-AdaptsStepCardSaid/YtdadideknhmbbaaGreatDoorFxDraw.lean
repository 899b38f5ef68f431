/- The count of draws never falls: in no step of the machine. By an AI agent. -/
import Derived.Calls
import Derived.Below
import GoSem.Step
set_option linter.unusedVariables false
set_option linter.unusedSimpArgs false
namespace Go.Fx
open Go
variable{F:TimerOp}{y j:Array Event}{B f:Bool}{D:Array Goroutine}{b:List Frame}{v:Value}{r:String}{k H G:Nat}{s:Goroutine}{c:Option Dying}{u:Rest}{C:Array CommCase}{q:Halt}{n d:Machine}{i:World}{z:GStep}{E:Addr}{a:Frame}{A:Dying}{e:Type}(t:Program)(l:World)(o:Addr)
def RD{α:Type}(w0:World): Result α->Prop
 | .ok _ w=>w0.drawn<=w.drawn
 | .halt _ w=>w0.drawn<=w.drawn
theorem eF{α:Type}: ∀(q:Ask α) (w:World),w.drawn<=(w.ask q).2.drawn
 | .done a,w=>Nat.le_refl _
 | .ask b range k,w=>by
  unfold World.ask;simp only;split
  ·exact eF (k 0) w
  exact Nat.le_trans (Nat.le_succ _) (eF (k _) { w with drawn:=w.drawn+1 })
theorem mc(c:Sys): l.drawn<=(l.sys c).2.drawn:=by
 unfold World.sys;have h:=eF (Kernel.perform c l.os) l;split
 ·exact Nat.le_refl _
 rename_i heq;rw[heq] at h;exact h
theorem Po(n:Nat): (l.freeze o n).drawn=l.drawn:=by
 unfold World.freeze;split<;>rfl
theorem Og(u:TypeId)(k:Addr)(v:Value)(atomic:Bool)(r:World×List Addr)(h:l.viewStore t o u k v atomic=.ok r): r.1.drawn=l.drawn:=by
 unfold World.viewStore at h;simp only[bind,Except.bind,pure,Except.pure] at h;repeat' split at h
 all_goals first|(cases h;done)|(cases h;rfl)|skip
theorem JQ(v:Value)(atomic:Bool)(r:World×List Addr)(h:l.farStore t o v atomic=.ok r): r.1.drawn=l.drawn:=by
 unfold World.farStore at h;split at h
 ·split at h
  ·rename_i heq;cases h;exact Og _ _ _ _ _ _ _ _ heq
  cases h
 cases h
theorem YX: ∀(s:Sem e) (w w0:World),w0.drawn<=w.drawn->RD w0 (s.run t w):=by
 intro s;induction s with
 | pure a=>intro w w0 h;exact h
 | load m a k b =>
  intro w w0 h;simp only[Sem.run];split
  ·exact b _ w w0 h
  split
  ·exact b _ w w0 h
  exact h
 | store m a v k b =>
  intro w w0 h;cases v<;>simp only[Sem.run]<;>first|exact h|skip
  all_goals
   split
   ·split
    ·exact h
    exact b _ w0 h
   split
   ·rename_i w' _ heq;exact b _ w0 (by rw[JQ t w a _ _ (w',_) heq];exact h)
   exact h
 | new o k b=>intro w w0 h;exact b _ _ w0 h
 | shape r k b=>intro w w0 h;exact b _ w w0 h
 | freeze a n k b=>intro w w0 h;simp only[Sem.run];exact b _ w0 (by rw[Po];exact h)
 | frozen a k b=>intro w w0 h;exact b _ w w0 h
 | getObj r k b =>
  intro w w0 h;simp only[Sem.run];split
  ·exact h
  ·exact b _ w w0 h
  exact h
 | setObj r o k b =>
  intro w w0 h;simp only[Sem.run];split
  ·exact h
  ·exact b _ w0 h
  exact h
 | choose q k b =>
  intro w w0 h;simp only[Sem.run];split
  ·exact b _ w w0 h
  exact b _ _ w0 (Nat.le_trans h (Nat.le_succ _))
 | sys c k b=>intro w w0 h;simp only[Sem.run];exact b _ _ w0 (Nat.le_trans h (mc w c))
 | program k b=>intro w w0 h;exact b _ w w0 h
 | mark m k b=>intro w w0 h;exact b w w0 h
 | halt x=>intro w w0 h;exact h
theorem IT: ∀(s:Sem e) (w w0:World) (es:Array Event),w0.drawn<=w.drawn->RD w0 (s.runT t w es).1:=by
 intro s;induction s with
 | pure a=>intro w w0 es h;exact h
 | load m a k b =>
  intro w w0 es h;simp only[Sem.runT];split
  ·exact b _ w w0 _ h
  split
  ·exact b _ w w0 _ h
  exact h
 | store m a v k b =>
  intro w w0 es h;cases v<;>simp only[Sem.runT]<;>first|exact h|skip
  all_goals
   split
   ·split
    ·exact h
    exact b _ w0 _ h
   split
   ·rename_i w' _ heq;exact b _ w0 _ (by rw[JQ t w a _ _ (w',_) heq];exact h)
   exact h
 | new o k b=>intro w w0 es h;exact b _ _ w0 _ h
 | shape r k b=>intro w w0 es h;exact b _ w w0 _ h
 | freeze a n k b=>intro w w0 es h;simp only[Sem.runT];exact b _ w0 _ (by rw[Po];exact h)
 | frozen a k b=>intro w w0 es h;exact b _ w w0 _ h
 | getObj r k b =>
  intro w w0 es h;simp only[Sem.runT];split
  ·exact h
  ·exact b _ w w0 _ h
  exact h
 | setObj r o k b =>
  intro w w0 es h;simp only[Sem.runT];split
  ·exact h
  ·exact b _ w0 _ h
  exact h
 | choose q k b =>
  intro w w0 es h;simp only[Sem.runT];split
  ·exact b _ w w0 _ h
  exact b _ _ w0 _ (Nat.le_trans h (Nat.le_succ _))
 | sys c k b=>intro w w0 es h;simp only[Sem.runT];exact b _ _ w0 _ (Nat.le_trans h (mc w c))
 | program k b=>intro w w0 es h;exact b _ w w0 _ h
 | mark m k b=>intro w w0 es h;exact b w w0 _ h
 | halt x=>intro w w0 es h;exact h
variable{p:Program}{w0 w:World}
def GD(w0:World): GStep->Prop
 | .go _ w _=>w0.drawn<=w.drawn
 | .comm _ _ _ _ w _=>w0.drawn<=w.drawn
 | .spawn _ _ w _=>w0.drawn<=w.drawn
 | .count _ w _=>w0.drawn<=w.drawn
 | .timer _ _ w _=>w0.drawn<=w.drawn
 | .alone _ _ w _=>w0.drawn<=w.drawn
 | .newcoro _ _ _ w _=>w0.drawn<=w.drawn
 | .coroswitch _ _ _ w _=>w0.drawn<=w.drawn
 | .collect _ w _=>w0.drawn<=w.drawn
 | .watch _ w _=>w0.drawn<=w.drawn
 | .ended _ _ _=>True
theorem Vn{s:Sem e}{a:e}(heq:s.run p w=.ok a i)(h:w0.drawn<=w.drawn): w0.drawn<=i.drawn:=by
 have hr:=YX p s w w0 h;rw[heq] at hr;exact hr
theorem run_halt{s:Sem e}(heq:s.run p w=.halt q i)(h:w0.drawn<=w.drawn): w0.drawn<=i.drawn:=by
 have hr:=YX p s w w0 h;rw[heq] at hr;exact hr
theorem Bn{s:Sem e}{a:e}(heq:s.runT p w j=(.ok a i,y))(h:w0.drawn<=w.drawn): w0.drawn<=i.drawn:=by
 have hr:=IT p s w w0 j h;rw[heq] at hr;exact hr
theorem Jh{s:Sem e}(heq:s.runT p w j=(.halt q i,y))(h:w0.drawn<=w.drawn): w0.drawn<=i.drawn:=by
 have hr:=IT p s w w0 j h;rw[heq] at hr;exact hr
theorem Ye{s:Sem e}{a:e}(heq:(s.runT p w j).1=.ok a i)(h:w0.drawn<=w.drawn): w0.drawn<=i.drawn:=by
 have hr:=IT p s w w0 j h;rw[heq] at hr;exact hr
theorem Qs{s:Sem e}(heq:(s.runT p w j).1=.halt q i)(h:w0.drawn<=w.drawn): w0.drawn<=i.drawn:=by
 have hr:=IT p s w w0 j h;rw[heq] at hr;exact hr
theorem A7(h:GD w0 z): GD w0 (z.after j):=by cases z<;>exact h
theorem Ju{fr:Frame}{m:String}(h:w0.drawn<=w.drawn): GD w0 (endThrow fr m w):=h
theorem Ws{t:ByteArray}{o:Outcome}: GD w0 (endWith w k t o):=by
 unfold endWith;repeat' split
 all_goals trivial
theorem Ql(h:w0.drawn<=w.drawn): GD w0 (endPrinting p a v w):=by
 unfold endPrinting;simp only;split
 ·exact h
 trivial
theorem Xy(h:w0.drawn<=w.drawn): GD w0 (endFatal p a b c r w):=by
 unfold endFatal;(try simp only);repeat' split
 all_goals (try apply A7)
 all_goals first|trivial|exact h|exact Vn (by assumption) h|exact Bn (by assumption) h|exact Jh (by assumption) h|exact Ye (by assumption) h|exact Qs (by assumption) h|exact Ql (Qs (by assumption) h)|exact Ju (Qs (by assumption) h)|exact Ql h|exact Ql (Jh (by assumption) h)|exact Ju (Jh (by assumption) h)
theorem Qn(h:w0.drawn<=w.drawn): GD w0 (doReturn p f a b c v w):=by
 unfold doReturn;repeat' split
 all_goals first|exact h|trivial
theorem KC{d:Deferred}(h:w0.drawn<=w.drawn): GD w0 (callDeferred p a b c d w):=by
 unfold callDeferred;(try simp only);repeat' split
 all_goals (try apply A7)
 all_goals first|trivial|exact h|exact Vn (by assumption) h|exact Bn (by assumption) h|exact Jh (by assumption) h|exact Ye (by assumption) h|exact Qs (by assumption) h|exact Ql (Qs (by assumption) h)|exact Ju (Qs (by assumption) h)|exact Xy (Qs (by assumption) h)|exact Qn (Ye (by assumption) h)|exact Ql h|exact Ql (Jh (by assumption) h)|exact Xy (Jh (by assumption) h)|exact Ju (Jh (by assumption) h)|exact Qn h|exact Qn (Bn (by assumption) h)|exact Qn (Vn (by assumption) h)
theorem XP(h:w0.drawn<=w.drawn): GD w0 (unwind p f a b c w):=by
 unfold unwind;(try simp only);repeat' split
 all_goals (try apply A7)
 all_goals first|trivial|exact h|exact Vn (by assumption) h|exact Bn (by assumption) h|exact Jh (by assumption) h|exact Ye (by assumption) h|exact Qs (by assumption) h|exact Ql (Qs (by assumption) h)|exact Ju (Qs (by assumption) h)|exact Xy (Qs (by assumption) h)|exact Qn (Ye (by assumption) h)|exact Ql h|exact Ql (Jh (by assumption) h)|exact Xy (Jh (by assumption) h)|exact Ju (Jh (by assumption) h)|exact Qn h|exact Qn (Bn (by assumption) h)|exact Qn (Vn (by assumption) h)|exact KC h
theorem U0{f:Fatal}(h:w0.drawn<=w.drawn): GD w0 (writeOn p a A f w):=by
 unfold writeOn;(try simp only);repeat' split
 all_goals (try apply A7)
 all_goals first|trivial|exact h|exact Vn (by assumption) h|exact Bn (by assumption) h|exact Jh (by assumption) h|exact Ye (by assumption) h|exact Qs (by assumption) h|exact Ql (Qs (by assumption) h)|exact Ju (Qs (by assumption) h)|exact Xy (Qs (by assumption) h)|exact Qn (Ye (by assumption) h)|exact Ql h|exact Ql (Jh (by assumption) h)|exact Xy (Jh (by assumption) h)|exact Ju (Jh (by assumption) h)|exact Qn h|exact Qn (Bn (by assumption) h)|exact Qn (Vn (by assumption) h)
theorem die_dr(h:w0.drawn<=w.drawn): GD w0 (die p a A w):=by
 unfold die;(try simp only);repeat' split
 all_goals (try apply A7)
 all_goals first|trivial|exact h|exact Vn (by assumption) h|exact Bn (by assumption) h|exact Jh (by assumption) h|exact Ye (by assumption) h|exact Qs (by assumption) h|exact Ql (Qs (by assumption) h)|exact Ju (Qs (by assumption) h)|exact Xy (Qs (by assumption) h)|exact Qn (Ye (by assumption) h)|exact Ql h|exact Ql (Jh (by assumption) h)|exact Xy (Jh (by assumption) h)|exact Ju (Jh (by assumption) h)|exact Qn h|exact Qn (Bn (by assumption) h)|exact Qn (Vn (by assumption) h)|exact U0 h|exact Ws
theorem kd(h:w0.drawn<=w.drawn): GD w0 (early p a b c k w):=by
 unfold early;(try simp only);repeat' split
 all_goals (try apply A7)
 all_goals first|trivial|exact h|(have hq:=Vn (by assumption:Sem.run p _ w=.ok _ _) h;exact hq)|exact Vn (by assumption) h|exact Bn (by assumption) h|exact Jh (by assumption) h|exact Ye (by assumption) h|exact Qs (by assumption) h|exact Ql (Qs (by assumption) h)|exact Ju (Qs (by assumption) h)|exact Xy (Qs (by assumption) h)|exact Qn (Ye (by assumption) h)|exact Ql h|exact Ql (Jh (by assumption) h)|exact Xy (Jh (by assumption) h)|exact Ju (Jh (by assumption) h)|exact Qn h|exact Qn (Bn (by assumption) h)|exact Qn (Vn (by assumption) h)
theorem GR{s:Sem Next}(h:w0.drawn<=w.drawn): GD w0 (stepG.apply p f a b c s w):=by
 have h1:∀r es,(if f=true then s.runT p w #[] else (s.run p w,#[]))=(r,es)->RD w0 r:=by
  intro r es he;split at he
  ·have:=IT p s w w0 #[] h;rw[he] at this;exact this
  cases he;exact YX p s w w0 h
 unfold stepG.apply;generalize (if f=true then s.runT p w #[] else (s.run p w,#[]))=x at h1;obtain ⟨r,es⟩:=x;have hr:=h1 r es rfl;clear h1;simp only;apply A7;repeat' split
 all_goals first|exact hr|trivial|exact Xy hr|exact Ju hr|exact kd hr
theorem NB{o:Option e}{f:e->GStep}(h1:GD w0 z)(b:∀x,GD w0 (f x)): GD w0 (o.elim z f):=by cases o<;>first|exact h1|exact b _
theorem pF(h:w0.drawn<=w.drawn): GD w0 (stepG.oper p f a b c w):=by
 unfold stepG.oper;repeat' split
 all_goals first|trivial|exact GR h
theorem qN(h:w0.drawn<=w.drawn): GD w0 (stepG.exec p f B a b c w):=by
 unfold stepG.exec;simp only;repeat' split
 all_goals first|trivial|exact h|exact Qn h|exact GR h|exact pF h|exact Vn (by assumption) h|exact NB trivial (λ_=>GR h)|exact NB h (λ_=>h)|exact NB trivial (λ_=>h)|(refine NB (A7 ?_) (λ_=>h);first|trivial|exact Ye (by assumption) h|exact Qn (Ye (by assumption) h)|exact GR (Ye (by assumption) h)|exact Qs (by assumption) h)|(refine A7 ?_;first|trivial|exact Ye (by assumption) h|exact Qn (Ye (by assumption) h)|exact GR (Ye (by assumption) h)|exact Qs (by assumption) h)
theorem gw{main:Bool}{g:Goroutine}{li:Bool}(h:w0.drawn<=w.drawn): GD w0 (stepG p main g w li):=by
 unfold stepG;simp only;repeat' split
 all_goals first|exact die_dr h|exact qN h|exact XP h
def SD(w0:World): Stepped->Prop
 | .next m=>w0.drawn<=m.world.drawn
 | .ended _ _=>True
def MD(w0:World): Move->Prop
 | .goroutine m _=>w0.drawn<=m.world.drawn
 | .machine s _=>SD w0 s
theorem U1(h:waitingAt u C w=some i): i.drawn=w.drawn:=by
 unfold waitingAt at h;repeat' split at h
 all_goals first|(cases h;done)|(cases h;rfl)
theorem qZ{b:CommShape}(h:w0.drawn<=w.drawn): SD w0 (communicate p u D k s C f b w).1:=by
 unfold communicate;simp only;repeat' split
 all_goals first|trivial|exact h|(rename_i heq;show w0.drawn<=_;rw[U1 heq];exact h)|(have hq:=Vn (by assumption:Sem.run p _ w=.ok _ _) h;first|exact hq|(have a:=Vn (by assumption:Sem.run p _ _=.ok _ _) hq;exact a)|(have a:=run_halt (by assumption:Sem.run p _ _=.halt _ _) hq;exact a))
theorem al{gs:Array Goroutine}{rest:Rest}(h:w0.drawn<=w.drawn): SD w0 (look p gs rest w):=by
 unfold look;split
 ·simp only;split
  ·trivial
  split
  ·trivial
  split
  ·have hq:=Vn (by assumption:Sem.run p _ w=.ok _ _) h;exact hq
  ·trivial
  trivial
 trivial
theorem gW(h:w0.drawn<=d.world.drawn): SD w0 (serve p d k):=by
 unfold serve;simp only;repeat' split
 all_goals first|trivial|exact h
theorem ke: (drain w k).2.drawn=w.drawn:=by
 unfold drain;split<;>rfl
theorem Oy{t:Timer}(h:w0.drawn<=d.world.drawn): w0.drawn<=(retime d k t G H).2.world.drawn:=by
 unfold retime;split;rename_i heq;split at heq
 ·have:=congrArg (λx:Bool×World=>x.2.drawn) heq;simp only[ke] at this;have c:w0.drawn<=d.world.drawn:=h;rw[this] at c;exact c
 cases heq;exact h
theorem TK{f:Nat->Timer->Value×Machine}(hf:∀k t,w0.drawn<=(f k t).2.world.drawn)(he:timerOp.named d E f=.ok (v,n)): w0.drawn<=n.world.drawn:=by
 unfold timerOp.named at he;split at he
 ·rename_i k _;have:=hf k (d.rest.timers.getD k default);have e:=Except.ok.inj he;rw[e] at this;exact this
 cases he
theorem ZQ(h:w0.drawn<=d.world.drawn)(he:timerOp.opened d E=some n): w0.drawn<=n.world.drawn:=by
 unfold timerOp.opened at he;repeat' split at he
 all_goals first|(cases he;done)|(cases he;exact h)
theorem U4(h:w0.drawn<=d.world.drawn)(he:timerOp d F=.ok (v,n)): w0.drawn<=n.world.drawn:=by
 cases F<;>simp only[timerOp] at he
 ·repeat' split at he
  all_goals first|(cases he;done)|(cases he;exact h)
 ·exact TK (λk t=>Oy h) he
 ·split at he
  ·rename_i heq;exact TK (λk t=>Oy (ZQ h heq)) he
  cases he
 cases he;exact h
theorem QX(he:timerOp d F=.ok (v,n))(h:w0.drawn<=d.world.drawn): w0.drawn<=n.world.drawn:=U4 h he
theorem Sl(he:endThrow a r w=.go s i j)(h:w0.drawn<=w.drawn): w0.drawn<=i.drawn:=by
 have:=Ju (fr:=a) (m:=r) h;rw[he] at this;exact this
theorem ic(h:w0.drawn<=d.world.drawn): SD w0 (runT p d k f).1:=by
 unfold runT;simp only;split;all_goals
  rename_i heq;have a:=gw (p:=p) (main:=k == 0) (g:=(d.gs.swapAt! k { (default:Goroutine) with status:=.finished }).1) (li:=f) h;rw[heq] at a
 all_goals first|trivial|exact a|exact qZ a|exact al a|skip
 all_goals (repeat' split)
 all_goals first|trivial|exact a|(have hq:=Sl (by assumption:endThrow _ _ _=.go _ _ _) a;exact hq)|(rename_i heq;have hq:=QX (w0:=w0) heq a;exact hq)
theorem NZ{m:Machine}(h:w0.drawn<=m.world.drawn): MD w0 (askOn p m):=by
 have pk:∀(m:Machine),w0.drawn<=m.world.drawn -> ∀rs:List Nat,MD w0 (match (choose (.sched rs.length)).run p m.world with
   | .halt _ w => .machine (.ended (.stuck "sched" "") w)
   | .ok k world =>
    if rs.length<=1 then .goroutine { m with world } (rs.getD k 0) else
    match (choose (.extern "sched.slice" 65536)).run p world with
    | .halt _ w => .machine (.ended (.stuck "sched.slice" "") w)
    | .ok n world =>.goroutine { m with world,rest:={ m.rest with slice:=if n=0 then none else some (rs.getD k 0,n) } } (rs.getD k 0)):=by
  intro m h rs;split
  ·trivial
  have hq:=Vn (by assumption:Sem.run p _ m.world=.ok _ _) h;split
  ·exact hq
  split
  ·trivial
  have hq2:=Vn (by assumption:Sem.run p _ _=.ok _ _) hq;exact hq2
 unfold askOn;simp only;split
 ·trivial
 have hq:=Vn (by assumption:Sem.run p _ m.world=.ok _ _) h;split
 ·exact gW hq
 split
 ·split
  ·exact hq
  split
  ·exact hq
  split<;>trivial
 split
 ·exact pk { world:=_,gs:=m.gs,rest:=m.rest } hq _
 split
 ·trivial
 ·have hq2:=Vn (by assumption:Sem.run p _ _=.ok _ _) hq;exact pk { world:=_,gs:=m.gs,rest:=m.rest } hq2 _
 ·have hq2:=Vn (by assumption:Sem.run p _ _=.ok _ _) hq;exact hq2
 have hq2:=Vn (by assumption:Sem.run p _ _=.ok _ _) hq;exact pk (Machine.advanceTo { world:=_,gs:=m.gs,rest:=m.rest } _) hq2 _
theorem rF(h:w0.drawn<=d.world.drawn): MD w0 (Go.ask p d):=by
 unfold Go.ask;split
 ·split
  ·trivial
  ·have hq:=Vn (by assumption:Sem.run p _ d.world=.ok _ _) h;have hl:=al (p:=p) (gs:=d.gs) (rest:=d.rest) hq;split
   ·rename_i heq;rw[heq] at hl;exact NZ hl
   exact hl
  have hq:=Vn (by assumption:Sem.run p _ d.world=.ok _ _) h;exact NZ hq
 exact NZ h
theorem pS(h:w0.drawn<=d.world.drawn): MD w0 (move p d):=by
 unfold move;repeat' split
 all_goals first|trivial|exact h|exact rF h
theorem ob(h:w0.drawn<=d.world.drawn): SD w0 (step p d):=by
 unfold step stepT;have hm:=pS (p:=p) h;split
 ·rename_i heq;rw[heq] at hm;exact ic hm
 rename_i heq;rw[heq] at hm;exact hm
theorem Rf:∀(n:Nat) (m a:Machine),w0.drawn<=m.world.drawn->runN p n m=.next a->w0.drawn<=a.world.drawn
 | 0,m,a,h,he=>by cases he;exact h
 | n+1,m,a,h,he=>by
  unfold runN at he;have hs:=ob (p:=p) h;split at he
  ·rename_i heq;rw[heq] at hs;exact Rf n _ _ hs he
  rename_i b;exact absurd he (b _)
theorem Calls.drawn{P:Program}{f:FuncId}{args:Array Value}{R:Ending->World->Prop}(h:Calls P f args i R)(hR:∀w',¬R .outgrown w'): Calls P f args i (λe w'=>R e w'/\i.drawn<=w'.drawn):=by
 intro cs;obtain ⟨e,w',fr,hr,hc,h1,b⟩:=h cs;refine⟨e,w',fr,⟨hr,?_⟩,hc,h1,b⟩;cases e with
 | outgrown=>exact absurd hr (hR _)
 | returned v=>obtain ⟨n,a⟩:=(show Steps P _ _ from hc);exact Rf n _ _ (Nat.le_refl _) a
 | panicked c=>obtain ⟨n,a⟩:=(show Steps P _ _ from hc);exact Rf n _ _ (Nat.le_refl _) a
end Go.Fx
