/- Walks of functions. By an AI agent. -/
import Derived.Test.YtdadideknhmbbaaGreatDoorProg
import Derived.Test.YtdadideknhmbbaaGreatDoorFxZ
import Derived.Test.YtdadideknhmbbaaGreatDoorFxP
set_option linter.unusedVariables false
set_option linter.unusedSimpArgs false
set_option maxRecDepth 4000
set_option maxHeartbeats 8000000
namespace Go.Proofs.YtdadideknhmbbaaGreatDoor
open Go Go.Proofs Go.Fx Tryz
attribute [local irreducible] Oper.wp Code.wp wpList Fx.Head wpOp
variable{e7 b6:List (Nat×Value)}{c7 b7 Z:TypeId}{b3:Code}{c5 e u b5 j5 j8 a1 h9 j7 j6:Value}{Y:Act}{a6 j0 a8:List (Nat×Obj)}{h2:Value->List Zs->Prop}{c8:Array Bool}{j1 e6:Prop}{J O:Nat}{c9:Program}{b8:TypeInfo}{k4 P:Type}{h0:Func}{b2:Bool}{e2 c6:Rat}{B i7:World}{h3:List Oper}{e9:FuncId}{e8:List Zs}{b9:List Value}(U K:Nat)(e3 e4:Operand)(e0 e1 i1 j9 k3:Value)(h4:ByteArray)(c3:Bool)(i6:List Rat)(F:Option Addr)(z r h5 h6:Int)(D A b4 h8:Nat)(C:Rat)(e5:List Rat)(w:World)(b0:TypeId)(b1:Array Bool)(X j2 j3:List Nat)(c4:Option Addr)(a7:Nat)(h7:List Nat)(j4:Nat)(E:Rat)
abbrev tg(l:List (Nat×Nat×Nat))(k:Nat): Nat×Nat×Nat:=l.getD k (0,0,0)
abbrev gqA(l:List (Nat×Nat×Nat))(k:Nat): Nat×Nat:=(min (tg l k).1 (tg l k).2.1,max (tg l k).1 (tg l k).2.1)
abbrev gqB(l:List (Nat×Nat×Nat))(k:Nat): Nat×Nat:=(min (tg l k).2.1 (tg l k).2.2,max (tg l k).2.1 (tg l k).2.2)
abbrev gqC(l:List (Nat×Nat×Nat))(k:Nat): Nat×Nat:=(min (tg l k).2.2 (tg l k).1,max (tg l k).2.2 (tg l k).1)
inductive Fu:Nat->Prop
 | mk (n:Nat):Fu n
inductive Hd (Q:Prop):Prop
 | mk (q:Q):Hd Q
theorem Hd.g(h:Hd e6): e6:=by cases h with|mk q=>exact q
theorem Fu.d(_:Fu J)(_:Nat.beq (J%16) U=true): Fu (J/16):=.mk _
theorem tyA(h:∀w,(isAgg Z).run prog w=.ok b2 w:=by with_reducible (first|exact isAgg0|exact isAgg2|exact isAgg3|exact isAgg4|exact isAgg5|exact isAgg9|exact isAgg22|exact isAgg23|exact isAgg26|exact isAgg28|exact isAgg30|exact isAgg31|exact isAgg33|exact isAgg34|exact isAgg35|exact isAgg36|exact isAgg38|exact isAgg39|exact isAgg41|exact isAgg43|exact isAgg45|exact isAgg47|exact isAgg48|exact isAgg49|exact isAgg50|exact isAgg51|exact isAgg53|exact isAgg54|exact isAgg55|exact isAgg57|exact isAgg61|exact isAgg74|exact isAgg77|exact isAgg79|exact isAgg83|exact isAgg84|exact isAgg86|exact isAgg89|exact isAgg91|exact isAgg98|exact isAgg100|exact isAgg106|exact isAgg107|exact isAgg110|exact isAgg114|exact isAgg120|exact isAgg126|exact isAgg128|exact isAgg130|exact isAgg131|exact isAgg132|exact isAgg133|exact isAgg134|exact isAgg143|exact isAgg148|exact isAgg155|exact isAgg186|exact isAgg189|exact isAgg199|exact isAgg212|exact isAgg221|exact isAgg223|exact isAgg225|exact isAgg227|exact isAgg250|exact isAgg279|exact isAgg282|exact isAgg287|exact isAgg288|exact isAgg325|exact isAgg335|exact isAgg347|exact isAgg351|exact isAgg375|exact isAgg376)): ∀w,(isAgg Z).run prog w=.ok b2 w:=h
theorem tyS(h:∀w,(Go.sizeOf Z).run prog w=.ok J w:=by with_reducible (first|exact sizeOf0|exact sizeOf2|exact sizeOf3|exact sizeOf4|exact sizeOf5|exact sizeOf9|exact sizeOf22|exact sizeOf23|exact sizeOf26|exact sizeOf28|exact sizeOf30|exact sizeOf31|exact sizeOf33|exact sizeOf34|exact sizeOf35|exact sizeOf36|exact sizeOf38|exact sizeOf39|exact sizeOf41|exact sizeOf43|exact sizeOf45|exact sizeOf47|exact sizeOf48|exact sizeOf49|exact sizeOf50|exact sizeOf51|exact sizeOf53|exact sizeOf54|exact sizeOf55|exact sizeOf57|exact sizeOf61|exact sizeOf74|exact sizeOf77|exact sizeOf79|exact sizeOf83|exact sizeOf84|exact sizeOf86|exact sizeOf89|exact sizeOf91|exact sizeOf98|exact sizeOf100|exact sizeOf106|exact sizeOf107|exact sizeOf110|exact sizeOf114|exact sizeOf120|exact sizeOf126|exact sizeOf128|exact sizeOf130|exact sizeOf131|exact sizeOf132|exact sizeOf133|exact sizeOf134|exact sizeOf143|exact sizeOf148|exact sizeOf155|exact sizeOf186|exact sizeOf189|exact sizeOf199|exact sizeOf212|exact sizeOf221|exact sizeOf223|exact sizeOf225|exact sizeOf227|exact sizeOf250|exact sizeOf279|exact sizeOf282|exact sizeOf287|exact sizeOf288|exact sizeOf317|exact sizeOf325|exact sizeOf335|exact sizeOf347|exact sizeOf351|exact sizeOf358|exact sizeOf360|exact sizeOf375|exact sizeOf376)): ∀w,(Go.sizeOf Z).run prog w=.ok J w:=h

inductive PickL (L:List (Nat×Value)):List Nat->List (Nat×Value)->Prop
 | nil:PickL L [] []
 | cons {k:Nat} {v:Value} {ks:List Nat} {M:List (Nat×Value)} (h:Fx.look L k=some v) (t:PickL L ks M):PickL L (k::ks) ((k,v)::M)
theorem pkL{a:List Nat}(h:PickL b6 a e7:=by repeat(first|exact PickL.nil|apply PickL.cons rfl)): PickL b6 a e7:=h
theorem kQ{S:Nat->Prop}(h:St J S B b6 a6 e8 Y i7)(c:List Nat)(p:PickL b6 c e7): St J S B e7 a6 e8 Y i7:=by
 refine h.sub ?_;induction p with
 | nil=>intro t v h;cases h
 | @cons k v c M hk _ d =>
  intro t u hu;unfold Fx.look at hu;cases b:Nat.beq k t with
  | true=>rw[b] at hu;rw[<-tk b];exact hk.trans hu
  | false=>rw[b] at hu;exact d t u hu
abbrev RN{α:Type}(s:Sem α)(v:α): Prop := ∀w,s.run prog w=.ok v w
inductive Ex1:List (Nat×Obj)->(Nat×Obj)->List (Nat×Obj)->Prop
 | head {x l}:Ex1 (x::l) x l
 | tail {y x l m}:Ex1 l x m->Ex1 (y::l) x (y::m)
 | app {o x l m}:Ex1 l x m->Ex1 (o++l) x (o++m)
inductive ExL:List (Nat×Obj)->List (Nat×Obj)->List (Nat×Obj)->Prop
 | nil {l}:ExL l [] l
 | head {o l}:ExL (o++l) o l
 | last {o}:ExL o o []
 | tail {y o l m}:ExL l o m->ExL (y::l) o (y::m)
 | app {p o l m}:ExL l o m->ExL (p++l) o (p++m)
inductive SubP:List (Nat×Obj)->List (Nat×Obj)->Prop
 | nil {l}:SubP l []
 | refl {l}:SubP l l
 | cons {l x m k}:Ex1 l x m->SubP m k->SubP l (x::k)
 | app {l o m k}:ExL l o m->SubP m k->SubP l (o++k)
 | drop {y l k}:SubP l k->SubP (y::l) k
theorem Ex1.perm{x:Nat×Obj}(h:Ex1 a6 x a8): a6.Perm (x::a8):=by
 induction h with
 | head=>exact cr _
 | tail _ a=>exact(List.Perm.cons _ a).trans (List.Perm.swap _ _ _)
 | app _ a=>exact(a.append_left _).trans uA
theorem ExL.perm(h:ExL a6 a8 j0): a6.Perm (a8++j0):=by
 induction h with
 | nil=>exact cr _
 | head=>exact cr _
 | last=>rw[gD]
 | tail _ a=>exact(List.Perm.cons _ a).trans List.perm_middle.symm
 | app _ a=>exact(a.append_left _).trans (List.perm_append_comm_assoc _ _ _)
theorem SubP.perm(h:SubP a6 a8): ∃r,a6.Perm (a8++r):=by
 induction h with
 | @nil a6=>exact⟨a6,cr _⟩
 | @refl a6=>exact⟨[],by rw[gD]⟩
 | cons h _ a=>obtain ⟨r,hr⟩:=a;exact⟨r,h.perm.trans (List.Perm.cons _ hr)⟩
 | app h _ a=>obtain ⟨r,hr⟩:=a;exact⟨r,h.perm.trans (by rw[cv];exact hr.append_left _)⟩
 | drop _ a=>obtain ⟨r,hr⟩:=a;exact⟨_::r,(List.Perm.cons _ hr).trans List.perm_middle.symm⟩
theorem tyU(h:∀w,(underlying Z).run prog w=.ok (.slice b7) w:=by with_reducible (first|exact runUnderlying110|exact runUnderlying128|exact runUnderlying130|exact runUnderlying131|exact runUnderlying133|exact runUnderlying145|exact runUnderlying165|exact runUnderlying210|exact runUnderlying212|exact runUnderlying22|exact runUnderlying221|exact runUnderlying243|exact runUnderlying246|exact runUnderlying266|exact runUnderlying277|exact runUnderlying279|exact runUnderlying28|exact runUnderlying3|exact runUnderlying303|exact runUnderlying304|exact runUnderlying308|exact runUnderlying31|exact runUnderlying311|exact runUnderlying315|exact runUnderlying317|exact runUnderlying329|exact runUnderlying331|exact runUnderlying34|exact runUnderlying35|exact runUnderlying356|exact runUnderlying36|exact runUnderlying49|exact runUnderlying5|exact runUnderlying50|exact runUnderlying51|exact runUnderlying54|exact runUnderlying55|exact runUnderlying61|exact runUnderlying83|exact runUnderlying84|exact runUnderlying9|exact runUnderlying98)): ∀w,(underlying Z).run prog w=.ok (.slice b7) w:=h
theorem tyI(h:∀w,(typeInfo Z).run prog w=.ok b8 w:=by with_reducible (first|exact typeInfo106|exact typeInfo114|exact typeInfo130|exact typeInfo133|exact typeInfo143|exact typeInfo155|exact typeInfo225|exact typeInfo3|exact typeInfo317|exact typeInfo360|exact typeInfo4|exact typeInfo47|exact typeInfo5|exact typeInfo50|exact typeInfo61|exact typeInfo79|exact typeInfo89)): ∀w,(typeInfo Z).run prog w=.ok b8 w:=h
theorem tyZ(h:∀w,(zeroValue Z).run prog w=.ok u w:=by with_reducible (first|exact zeroValue227|exact zeroValue3|exact zeroValue360|exact zeroValue41|exact zeroValue47|exact zeroValue50|exact zeroValue53|exact zeroValue61|exact zeroValue86|exact BK|exact Dl|exact Bj|exact IM|exact QL|exact Xe|exact HK|exact Xc|exact HJ|exact EQ|exact zeroT6|exact lY)): ∀w,(zeroValue Z).run prog w=.ok u w:=h

section
variable{L:List (Nat×Value)}{n:Nat}{S:Nat->Prop}{w0:World}{σ σ2:List (Nat×Obj)}{Φ Φ0:List Zs}{Q:Exit->Act->World->Prop}{ops:Array Oper}{rest:List Oper}{d b off:Nat}{T Tb:TypeId}{x y:Operand}{ty:TypeId}{pos:String}{aft:Array Edge}{cs cs2:Array Value}{fr:Nat×Nat}{agg:Bool}{s:Nat}{v:Value}{H:List Nat}{Kf:Exit->Act->World->Prop}{i:Nat}{G:Act->World->Prop}{c:Operand}{c1 c2:Code}
theorem kT(hc:Fx.ev L c=some (.bool true))(k:Wk n S w0 L σ Φ (λa w=>c1.wp prog Q a w)): Wk n S w0 L σ Φ (λa w=>(Code.cond c c1 c2).wp prog Q a w):=λa w h=>Qq h hc (k a w h)
theorem kF(hc:Fx.ev L c=some (.bool false))(k:Wk n S w0 L σ Φ (λa w=>c2.wp prog Q a w)): Wk n S w0 L σ Φ (λa w=>(Code.cond c c1 c2).wp prog Q a w):=λa w h=>Zj h hc (k a w h)
theorem kU(hc:Fx.ev L c=some (.bool b2))(k2:b2=false->Wk n S w0 L σ Φ (λa w=>c2.wp prog Q a w))(k1:b2=true->Wk n S w0 L σ Φ (λa w=>c1.wp prog Q a w)): Wk n S w0 L σ Φ (λa w=>(Code.cond c c1 c2).wp prog Q a w):=λa w h=>Zb h hc (λe=>k1 e a w h) (λe=>k2 e a w h)
theorem kV(hc:Fx.ev L c=some (.bool b2))(k1:b2=true->Wk n S w0 L σ Φ (λa w=>c1.wp prog Q a w))(k2:b2=false->Wk n S w0 L σ Φ (λa w=>c2.wp prog Q a w)): Wk n S w0 L σ Φ (λa w=>(Code.cond c c1 c2).wp prog Q a w):=kU hc k2 k1
theorem bbT(k2:b2=false->Wk n S w0 ((d,.bool false)::L) σ Φ G)(k1:b2=true->Wk n S w0 ((d,.bool true)::L) σ Φ G): Wk n S w0 ((d,.bool b2)::L) σ Φ G:=λa w h=>Zi h (λe h=>k1 e a w h) (λe h=>k2 e a w h)
theorem bbF(k1:b2=true->Wk n S w0 ((d,.bool true)::L) σ Φ G)(k2:b2=false->Wk n S w0 ((d,.bool false)::L) σ Φ G): Wk n S w0 ((d,.bool b2)::L) σ Φ G:=bbT k2 k1
theorem fnI(hf:prog.funcs[e9]?=some h0)(e:h0.body=some b3)(d:h0.ntmps=n)(k:∀S w0,(∀k,S k->k<w0.heap.size)->Wk n S w0 (mV 0 b9) [] Φ (λa w=>b3.wp prog (bodyPost prog h0 (kZ S w0 h2)) a w))(hl:b9.length<=n:=by exact nb): Ctr prog e9 b9 Φ h2:=fn_intro hf e d hl (λS w0 a b h=>k S w0 b a w0 h)
theorem lpR(k:Wk n S w0 L σ Φ (λa w=>Code.rounds prog b3 Q U a w)): Wk n S w0 L σ Φ (λa w=>(Code.loop b3).wp prog Q a w):=λa w h=>wp_loop_rounds U (k a w h)
theorem rdS(k:Wk n S w0 L σ Φ (λa w=>b3.wp prog (Exit.then (Code.rounds prog b3 Q J) Q) a w)): Wk n S w0 L σ Φ (λa w=>Code.rounds prog b3 Q (J+1) a w):=λa w h=>Zk (k a w h)
theorem rtK(hv:u=e)(hr:h0.results=#[.tmp J]:=by exact rfl)(ht:Fx.look L J=some u:=by exact rfl): Wk n S w0 L σ Φ (λa w=>bodyPost prog h0 (kZ S w0 (λu Ψ=>u=e/\Ψ=[])) .ret a w):=λa w h=>Xh h (Zd h hr (.tmp ht)) hv
theorem yE(hH:Head prog h3.toArray n S w0 Q X L σ Φ)(hm:prog.follows .mixedOrders=true:=by exact Yo)(b:AB prog h3.toArray n X L:=by exact F2 kk)(a:(Region.noSelect h3.toArray && NE h3.toArray && pI h3.toArray && decide (X.Nodup) && decide (X.length=h3.length) && X.all (λi=>decide (i<h3.length)))=true:=by kernel_rfl): Wk n S w0 L σ Φ ((Code.region J h3.toArray true).wp prog Q):=yD hm X b hH a
theorem yF(hH:Head prog h3.toArray n S w0 Q X L σ Φ)(hm:prog.follows .mixedOrders=true:=by exact Yo)(b:AB prog h3.toArray n X L:=by exact JM (by repeat(first|exact trivial|refine⟨.inl rfl,?_⟩|refine⟨.inr ⟨_,_,_,_,_,rfl,rfl,by decide,_,by exact tyZ⟩,?_⟩)))(a:(Region.noSelect h3.toArray && NE h3.toArray && pI h3.toArray && decide (X.Nodup) && decide (X.length=h3.length) && X.all (λi=>decide (i<h3.length)))=true:=by kernel_rfl): Wk n S w0 L σ Φ ((Code.region J h3.toArray true).wp prog Q):=yD hm X b hH a
theorem mh{a:P}{l:List P}: a∈[a]++l:=List.Mem.head _
theorem mt{a x:P}{l:List P}(h:a∈l): a∈[x]++l:=List.Mem.tail _ h
theorem hsD{a:P}{l L:List P}(t:∀R∈l,R∈L)(h:a∈L:=by first|assumption|(repeat(first|with_reducible exact mh|exact List.Mem.head _|with_reducible apply mt|apply List.Mem.tail|apply eg))): ∀R∈a::l,R∈L:=λR hR=>by
 rcases List.mem_cons.1 hR with e|e
 ·rw[e];exact h
 exact t R e
theorem tO(h:St n S w0 L σ Φ Y B)(h1:SubP σ σ2:=by repeat(first|exact SubP.refl|exact SubP.nil|refine SubP.cons (by repeat(first|exact Ex1.head|apply Ex1.tail|apply Ex1.app)) ?_|refine SubP.app (by repeat(first|exact ExL.head|exact ExL.head (o:=[_])|exact ExL.last|apply ExL.tail|apply ExL.app)) ?_|apply SubP.drop))(e:∀R∈e8,R∈Φ:=by first|exact(λ_ hR=>hR)|(repeat(first|exact(λ_ hR=>absurd hR cf)|refine hsD ?_)))(f:∀t v,Fx.look b6 t=some v->Fx.look L t=some v:=by exact sA): St n S w0 b6 σ2 e8 Y B:=by
 obtain ⟨r,d⟩:=h1.perm;exact(((h.perm d.symm).drop (fv _ _)).factsSub e).sub f
theorem lpG(h:St n S w0 L σ Φ Y B)(j:List Nat)(_:PickL L j b6)(J:List (Nat×Value)->List Zs->P->Act->World->Prop)(b:P->Nat)(i0:P)(g:J b6 Φ i0 Y B)(round:∀i Y B,J b6 Φ i Y B->b3.wp prog (Exit.then (λf w' => ∃e,J b6 Φ e f w'/\b e<b i) Q) Y B): (Code.loop b3).wp prog Q Y B:=Jl (J b6 Φ) b i0 g round
theorem wjG(h:St n S w0 L σ Φ Y B)(c:List Nat)(_:PickL L c b6)(J:List (Nat×Value)->List Zs->Act->World->Prop)(h1:c1.wp prog (Exit.then (J b6 Φ) Q) Y B)(b:∀Y B,J b6 Φ Y B->c2.wp prog Q Y B): (Code.seq c1 c2).wp prog Q Y B:=Yv (J b6 Φ) h1 b
theorem lpF(h:St n S w0 L σ Φ Y B)(C:Nat->Prop)(F:Nat->List (Nat×Value))(d:Nat->Nat)(i0:Nat)(e:C i0/\St n S w0 (F i0) σ Φ Y B)(round:∀i Y B,C i/\St n S w0 (F i) σ Φ Y B->b3.wp prog (Exit.then (λf w' => ∃b,(C b/\St n S w0 (F b) σ Φ f w')/\d b<d i) Q) Y B): (Code.loop b3).wp prog Q Y B:=Jl (λi Y B=>C i/\St n S w0 (F i) σ Φ Y B) d i0 e round
theorem lpF2(h:St n S w0 L σ Φ Y B)(C D:Nat->Prop)(F:Nat->List (Nat×Value))(d:Nat->Nat)(i0:Nat)(e:C i0/\D i0/\St n S w0 (F i0) σ Φ Y B)(round:∀i Y B,C i/\D i/\St n S w0 (F i) σ Φ Y B->b3.wp prog (Exit.then (λf w' => ∃b,(C b/\D b/\St n S w0 (F b) σ Φ f w')/\d b<d i) Q) Y B): (Code.loop b3).wp prog Q Y B:=Jl (λi Y B=>C i/\D i/\St n S w0 (F i) σ Φ Y B) d i0 e round

theorem apC(enc:P->Value)(A B:List P)(H:GrowO s b7 v A.length (cellsOf enc A) a6)(kk:∀ad c o',GrowO s b7 (.slice ad (A++B).length c) (A++B).length (cellsOf enc (A++B)) o'->Wk n S w0 ((d,.slice ad (A++B).length c)::L) (o'++σ2) Φ (wpList prog ops Q rest))(hx:Fx.ev L x=some v:=by exact rfl)(r:Fx.ev L y=some (.slice (some ⟨b,0,none⟩) J O):=by exact rfl)(h1:Ex1 σ (b,.cells b9.toArray Tb (0,0)) a8:=by repeat(first|exact Ex1.head|apply Ex1.tail|apply Ex1.app))(p:ExL a8 a6 σ2:=by repeat(first|exact ExL.nil|exact ExL.head|exact ExL.head (o:=[_])|exact ExL.last|apply ExL.tail|apply ExL.app))(m:b9=cellsOf enc B:=by exact rfl)(hl:B.length=J:=by exact rfl)(hT:∀w,(underlying T).run prog w=.ok (.slice b7) w:=by exact tyU)(F:∀w,(underlying Z).run prog w=.ok (.slice c7) w:=by exact tyU)(t:∀w,(typeInfo b7).run prog w=.ok b8 w:=by exact tyI)(hs:∀w,(Go.sizeOf b7).run prog w=.ok s w:=by exact tyS)(hz:∀w,(zeroValue b7).run prog w=.ok u w:=by exact tyZ)(hk:u.cells.size=s:=by exact rfl)(K:s≠0:=by decide)(D:0<b8.bytes:=by decide)(k:b9.length=J*s:=by exact rfl)(hf:b9.all flat=true:=by exact rfl)(j:0<J:=by decide)(i:b8.bytes<=4096:=by decide)(hr:4096*(2*(A.length+J)+192)<=281474976710656:=by(try dsimp only);omega)(hd:d<n:=by decide): Wk n S w0 L σ Φ (wpList prog ops Q (Oper.mk (some d) (.call ⟨.builtin .append,#[x,y],#[T,Z]⟩) ty pos aft none::rest)):=λa w h =>
 Zc (Lx h hx r (h1.perm.trans (List.Perm.cons _ p.perm)) H hT F t hs hz hk K D k hf j (bp (cc _ i) hr) hd λv' o' q w' f hs=>by
  obtain ⟨ad,c,rfl⟩:=f.is;rw[show A.length+J=(A++B).length by rw[bd,hl]] at hs f;rw[m, <-Qp] at f;exact kk ad c o' f q w' hs)
theorem ga(enc:P->Value)(A B:List P)(F:GrowO s b7 v A.length (cellsOf enc A) a6)(kk:∀ad c o',GrowO s b7 (.slice ad (A++B).length c) (A++B).length (cellsOf enc (A++B)) o'->Head prog ops n S w0 Kf H ((d,.slice ad (A++B).length c)::L) (o'++σ2) Φ)(ho:ops[i]?=some ⟨some d,.call ⟨.builtin .append,#[x,y],#[T,Z]⟩,ty,pos,aft,none⟩:=by exact rfl)(hq:Vo ops i H=true:=by kernel_rfl)(hx:Fx.ev L x=some v:=by exact rfl)(p:Fx.ev L y=some (.slice (some ⟨b,0,none⟩) J O):=by exact rfl)(h1:Ex1 σ (b,.cells b9.toArray Tb (0,0)) a8:=by repeat(first|exact Ex1.head|apply Ex1.tail|apply Ex1.app))(m:ExL a8 a6 σ2:=by repeat(first|exact ExL.nil|exact ExL.head|exact ExL.head (o:=[_])|exact ExL.last|apply ExL.tail|apply ExL.app))(l:b9=cellsOf enc B:=by exact rfl)(hl:B.length=J:=by exact rfl)(hT:∀w,(underlying T).run prog w=.ok (.slice b7) w:=by exact tyU)(C:∀w,(underlying Z).run prog w=.ok (.slice c7) w:=by exact tyU)(q:∀w,(typeInfo b7).run prog w=.ok b8 w:=by exact tyI)(hs:∀w,(Go.sizeOf b7).run prog w=.ok s w:=by exact tyS)(hz:∀w,(zeroValue b7).run prog w=.ok u w:=by exact tyZ)(hk:u.cells.size=s:=by exact rfl)(r:s≠0:=by decide)(K:0<b8.bytes:=by decide)(j:b9.length=J*s:=by exact rfl)(hf:b9.all flat=true:=by exact rfl)(h:0<J:=by decide)(g:b8.bytes<=4096:=by decide)(hr:4096*(2*(A.length+J)+192)<=281474976710656:=by(try dsimp only);omega)(hd:d<n:=by decide): Head prog ops n S w0 Kf (i::H) L σ Φ :=
 H6 ho hq hx p (h1.perm.trans (List.Perm.cons _ m.perm)) F hT C q hs hz hk r K j hf h (bp (cc _ g) hr) hd λv' o' e=>by
  obtain ⟨ad,c,rfl⟩:=e.is;rw[show A.length+J=(A++B).length by rw[bd,hl]] at e ⊢;rw[l, <-Qp] at e;exact kk ad c o' e

theorem apM(enc:P->Value)(A B:List P)(H:GrowO s b7 v A.length (List.map enc A) a6)(kk:∀ad c o',GrowO s b7 (.slice ad (A++B).length c) (A++B).length (List.map enc (A++B)) o'->Wk n S w0 ((d,.slice ad (A++B).length c)::L) (o'++σ2) Φ (wpList prog ops Q rest))(hx:Fx.ev L x=some v:=by exact rfl)(r:Fx.ev L y=some (.slice (some ⟨b,0,none⟩) J O):=by exact rfl)(h1:Ex1 σ (b,.cells b9.toArray Tb (0,0)) a8:=by repeat(first|exact Ex1.head|apply Ex1.tail|apply Ex1.app))(p:ExL a8 a6 σ2:=by repeat(first|exact ExL.nil|exact ExL.head|exact ExL.head (o:=[_])|exact ExL.last|apply ExL.tail|apply ExL.app))(m:b9=List.map enc B:=by exact rfl)(hl:B.length=J:=by exact rfl)(hT:∀w,(underlying T).run prog w=.ok (.slice b7) w:=by exact tyU)(F:∀w,(underlying Z).run prog w=.ok (.slice c7) w:=by exact tyU)(t:∀w,(typeInfo b7).run prog w=.ok b8 w:=by exact tyI)(hs:∀w,(Go.sizeOf b7).run prog w=.ok s w:=by exact tyS)(hz:∀w,(zeroValue b7).run prog w=.ok u w:=by exact tyZ)(hk:u.cells.size=s:=by exact rfl)(K:s≠0:=by decide)(D:0<b8.bytes:=by decide)(k:b9.length=J*s:=by exact rfl)(hf:b9.all flat=true:=by exact rfl)(j:0<J:=by decide)(i:b8.bytes<=4096:=by decide)(hr:4096*(2*(A.length+J)+192)<=281474976710656:=by(try dsimp only);omega)(hd:d<n:=by decide): Wk n S w0 L σ Φ (wpList prog ops Q (Oper.mk (some d) (.call ⟨.builtin .append,#[x,y],#[T,Z]⟩) ty pos aft none::rest)):=λa w h =>
 Zc (Lx h hx r (h1.perm.trans (List.Perm.cons _ p.perm)) H hT F t hs hz hk K D k hf j (bp (cc _ i) hr) hd λv' o' q w' f hs=>by
  obtain ⟨ad,c,rfl⟩:=f.is;rw[show A.length+J=(A++B).length by rw[bd,hl]] at hs f;rw[m, <-dv] at f;exact kk ad c o' f q w' hs)
theorem hapM(enc:P->Value)(A B:List P)(F:GrowO s b7 v A.length (List.map enc A) a6)(kk:∀ad c o',GrowO s b7 (.slice ad (A++B).length c) (A++B).length (List.map enc (A++B)) o'->Head prog ops n S w0 Kf H ((d,.slice ad (A++B).length c)::L) (o'++σ2) Φ)(ho:ops[i]?=some ⟨some d,.call ⟨.builtin .append,#[x,y],#[T,Z]⟩,ty,pos,aft,none⟩:=by exact rfl)(hq:Vo ops i H=true:=by kernel_rfl)(hx:Fx.ev L x=some v:=by exact rfl)(p:Fx.ev L y=some (.slice (some ⟨b,0,none⟩) J O):=by exact rfl)(h1:Ex1 σ (b,.cells b9.toArray Tb (0,0)) a8:=by repeat(first|exact Ex1.head|apply Ex1.tail|apply Ex1.app))(m:ExL a8 a6 σ2:=by repeat(first|exact ExL.nil|exact ExL.head|exact ExL.head (o:=[_])|exact ExL.last|apply ExL.tail|apply ExL.app))(l:b9=List.map enc B:=by exact rfl)(hl:B.length=J:=by exact rfl)(hT:∀w,(underlying T).run prog w=.ok (.slice b7) w:=by exact tyU)(C:∀w,(underlying Z).run prog w=.ok (.slice c7) w:=by exact tyU)(q:∀w,(typeInfo b7).run prog w=.ok b8 w:=by exact tyI)(hs:∀w,(Go.sizeOf b7).run prog w=.ok s w:=by exact tyS)(hz:∀w,(zeroValue b7).run prog w=.ok u w:=by exact tyZ)(hk:u.cells.size=s:=by exact rfl)(r:s≠0:=by decide)(K:0<b8.bytes:=by decide)(j:b9.length=J*s:=by exact rfl)(hf:b9.all flat=true:=by exact rfl)(h:0<J:=by decide)(g:b8.bytes<=4096:=by decide)(hr:4096*(2*(A.length+J)+192)<=281474976710656:=by(try dsimp only);omega)(hd:d<n:=by decide): Head prog ops n S w0 Kf (i::H) L σ Φ :=
 H6 ho hq hx p (h1.perm.trans (List.Perm.cons _ m.perm)) F hT C q hs hz hk r K j hf h (bp (cc _ g) hr) hd λv' o' e=>by
  obtain ⟨ad,c,rfl⟩:=e.is;rw[show A.length+J=(A++B).length by rw[bd,hl]] at e ⊢;rw[l, <-dv] at e;exact kk ad c o' e

theorem ldZ(hv:Zm agg s cs off=some v)(k:Wk n S w0 ((d,v)::L) σ Φ (wpList prog ops Q rest))(hx:Fx.ev L x=some (.pointer (some ⟨b,off,none⟩)):=by exact rfl)(hm:(b,Obj.cells cs Tb fr)∈σ:=by exact mr)(ha:∀w,(isAgg T).run prog w=.ok agg w:=by exact tyA)(hs:∀w,(Go.sizeOf T).run prog w=.ok s w:=by exact tyS)(hd:d<n:=by decide): Wk n S w0 L σ Φ (wpList prog ops Q (Oper.mk (some d) (.load T x) ty pos aft none::rest)):=zd hx hm ha hs hv k hd
theorem ldQ(hv:Zm agg s cs off=some v)(k:Wk n S w0 ((d,v)::L) σ Φ (wpList prog ops Q rest))(hj:(ops[J]?).bind (·.dst)=some U:=by exact rfl)(ht:Fx.look L U=some (.bool b2):=by exact rfl)(hx:Fx.ev L x=some (.pointer (some ⟨b,off,none⟩)):=by exact rfl)(hm:(b,Obj.cells cs Tb fr)∈σ:=by exact mr)(ha:∀w,(isAgg T).run prog w=.ok agg w:=by exact tyA)(hs:∀w,(Go.sizeOf T).run prog w=.ok s w:=by exact tyS)(hd:d<n:=by decide): Wk n S w0 L σ Φ (wpList prog ops Q (Oper.mk (some d) (.load T x) ty pos aft (some (J,b2))::rest)):=λa w h=>Zq U h hj ht (Rr h hx hm ha hs hv hd λc e=>k c w e)
theorem stW(hx:Fx.ev L x=some (.pointer (some ⟨b,off,none⟩)))(c:Fx.ev L y=some v)(a:Zp cs off v.cells.toList=cs2)(k:Wk n S w0 L σ2 Φ (wpList prog ops Q rest))(hu:Upd σ b (.cells cs Tb (0,0)) (.cells cs2 Tb (0,0)) σ2:=by exact uu)(hs:∀w,(Go.sizeOf T).run prog w=.ok s w:=by exact tyS)(hz:v.cells.size=s:=by exact rfl)(hl:off+s<=cs.size:=by exact nb)(hf:v.cells.toList.all flat=true:=by exact rfl): Wk n S w0 L σ Φ (wpList prog ops Q (Oper.mk none (.store T x y) ty pos aft none::rest)):=zt' hx c a hu hs hz hl hf k
theorem ldY(hv:Zm agg s cs off=some v)(k:Head prog ops n S w0 Kf H ((d,v)::L) σ Φ)(ho:ops[i]?=some ⟨some d,.load T x,ty,pos,aft,none⟩:=by exact rfl)(hx:Fx.ev L x=some (.pointer (some ⟨b,off,none⟩)):=by exact rfl)(hm:(b,Obj.cells cs Tb fr)∈σ:=by exact mr)(ha:∀w,(isAgg T).run prog w=.ok agg w:=by exact tyA)(hs:∀w,(Go.sizeOf T).run prog w=.ok s w:=by exact tyS)(hq:Yz ops true i H=true:=by kernel_rfl)(hd:d<n:=by decide): Head prog ops n S w0 Kf (i::H) L σ Φ:=yd ho hx hm ha hs hv k hq hd
theorem stV(ho:ops[i]?=some ⟨none,.store T x y,ty,pos,aft,none⟩)(hx:Fx.ev L x=some (.pointer (some ⟨b,off,none⟩)))(c:Fx.ev L y=some v)(a:Zp cs off v.cells.toList=cs2)(k:Head prog ops n S w0 Kf H L σ2 Φ)(hu:Upd σ b (.cells cs Tb (0,0)) (.cells cs2 Tb (0,0)) σ2:=by exact uu)(hs:∀w,(Go.sizeOf T).run prog w=.ok s w:=by exact tyS)(hz:v.cells.size=s:=by exact rfl)(hl:off+s<=cs.size:=by exact nb)(hf:v.cells.toList.all flat=true:=by exact rfl)(hq:Vo ops i H=true:=by kernel_rfl): Head prog ops n S w0 Kf (i::H) L σ Φ:=Vm ho hq hx c a hu hs hz hl hf k
theorem rC(hv:Zm agg s cs 0=some v)(h:Fx.look L J=some (.pointer (some ⟨b,0,none⟩)):=by exact rfl)(hm:(b,Obj.cells cs Tb fr)∈σ:=by exact mr)(ha:∀w,(isAgg T).run prog w=.ok agg w:=by exact tyA)(hs:∀w,(Go.sizeOf T).run prog w=.ok s w:=by exact tyS): ResIs prog L σ (.cell J T) v:=.cell h hm ha hs hv
theorem zF{args:Array Operand}{b:Array TypeId}(vs:List Value)(hc:∀args w,(callFunc e9 args).run prog w=.ok (.enter e9 args) w)(hf:Ctr prog e9 vs Φ0 h2)(k:∀v Ψ,h2 v Ψ->Wk n S w0 ((d,v)::L) σ (Ψ++Φ) (wpList prog ops Q rest))(ha:args.toList.map (Fx.ev L)=vs.map some:=by exact rfl)(a:∀R∈Φ0,R∈Φ:=by repeat(first|exact(λ_ hR=>absurd hR cf)|refine hsD ?_))(hd:d<n:=by decide): Wk n S w0 L σ Φ (wpList prog ops Q (Oper.mk (some d) (.call ⟨.value (.func e9),args,b⟩) ty pos aft none::rest)):=zf vs ha hc hf k a hd
theorem Xj(k:Cc c9 ops Kf J c8 U Y B)(hR:Region.ready .any ops c8=[U]:=by kernel_rfl): wpX c9 ops Kf (J+1) c8 Y B:=SU [U] hR ss (by simpa using k)
theorem Yr(k1:Cc c9 ops Kf J c8 U Y B)(k2:Cc c9 ops Kf J c8 K Y B)(hR:Region.ready .any ops c8=[U,K]:=by kernel_rfl): wpX c9 ops Kf (J+1) c8 Y B:=SU [U,K] hR ss (by simpa using ⟨k1,k2⟩)
theorem XF(k1:Cc c9 ops Kf J c8 U Y B)(k2:Cc c9 ops Kf J c8 K Y B)(k3:Cc c9 ops Kf J c8 D Y B)(hR:Region.ready .any ops c8=[U,K,D]:=by kernel_rfl): wpX c9 ops Kf (J+1) c8 Y B:=SU [U,K,D] hR ss (by simpa using ⟨k1,k2,k3⟩)
theorem x_two4(k1:Cc c9 ops Kf J c8 U Y B)(k2:Cc c9 ops Kf J c8 K Y B)(k3:Cc c9 ops Kf J c8 D Y B)(k4:Cc c9 ops Kf J c8 A Y B)(hR:Region.ready .any ops c8=[U,K,D,A]:=by kernel_rfl): wpX c9 ops Kf (J+1) c8 Y B:=SU [U,K,D,A] hR ss (by simpa using ⟨k1,k2,k3,k4⟩)
end
set_option maxRecDepth 100000 in
theorem au(k:j1)(h:Fu U->Hd j1->e6:=by
 intro p k;repeat(first|(have p:=p.d 1 rfl;refine zs ?_)|(have p:=p.d 2 rfl;refine zn ?_)|(have p:=p.d 3 rfl;refine zr ?_)|(have p:=p.d 4 rfl;refine zm rfl ?_)|(have p:=p.d 5 rfl;refine za rfl ?_)|(have p:=p.d 6 rfl;refine zt ?_)|(have p:=p.d 7 rfl;refine zk ?_)|(have p:=p.d 8 rfl;refine zb ?_)|(have p:=p.d 9 rfl;refine ym rfl rfl ?_)|(have p:=p.d 10 rfl;refine yn ?_)|(have p:=p.d 11 rfl;refine zp (.eX rfl) ?_)|(have p:=p.d 12 rfl;refine kF rfl ?_)|(have p:=p.d 13 rfl;refine zp (.lss rfl rfl) ?_)|(have p:=p.d 14 rfl;first|(have p:=p.d 0 rfl;refine ze ?_)|(have p:=p.d 1 rfl;refine kT rfl ?_)|(have p:=p.d 2 rfl;refine zp (.pickF rfl rfl) ?_)|(have p:=p.d 3 rfl;refine zp (.pickT rfl rfl) ?_)|(have p:=p.d 4 rfl;refine yp rfl (.assign rfl) ?_)|(have p:=p.d 5 rfl;refine ldZ Qt ?_)|(have p:=p.d 6 rfl;refine ldZ Zz ?_)|(have p:=p.d 7 rfl;refine ldZ Jq ?_)|(have p:=p.d 8 rfl;refine zp (aq (v':=.bool true) (.lss rfl rfl) cgd) ?_)|(have p:=p.d 9 rfl;refine yp rfl (.eX rfl) ?_)|(have p:=p.d 10 rfl;refine zp (.eql rfl rfl) ?_)|(have p:=p.d 11 rfl;refine zp (.builtin [_] rfl (A6 _ _ _)) ?_)|(have p:=p.d 12 rfl;refine ldY Zz ?_)|(have p:=p.d 13 rfl;refine ldZ Jj ?_)|(have p:=p.d 14 rfl;refine ldY Da ?_)|(have p:=p.d 15 rfl;refine zp (.indexAddr rfl rfl (LR _ _ _ _ _ oo)) ?_))|(have p:=p.d 15 rfl;first|(have p:=p.d 0 rfl;first|(have p:=p.d 0 rfl;refine zp (.geq rfl rfl) ?_)|(have p:=p.d 1 rfl;refine yp rfl (.fA rfl Nn) ?_)|(have p:=p.d 2 rfl;refine zp (.builtin [_] rfl (Yu _ _ _)) ?_)|(have p:=p.d 3 rfl;refine ldY Jq ?_)|(have p:=p.d 4 rfl;refine zp (.unOp rfl (Yt _)) ?_)|(have p:=p.d 5 rfl;refine zp (aq (v':=.int .i64 2) (.add rfl rfl) cgd) ?_)|(have p:=p.d 6 rfl;refine zp (aq (v':=.bool false) (.lss rfl rfl) cgd) ?_)|(have p:=p.d 7 rfl;refine ldZ Da ?_)|(have p:=p.d 8 rfl;refine zo 37 rfl rfl rfl ?_)|(have p:=p.d 9 rfl;refine zp (aq (v':=.int .i64 3) (.add rfl rfl) cgd) ?_)|(have p:=p.d 10 rfl;refine zp (.builtin [_] rfl (Yf _ _ _)) ?_)|(have p:=p.d 11 rfl;refine ldZ Vg ?_)|(have p:=p.d 12 rfl;refine zp (.gtr rfl rfl) ?_)|(have p:=p.d 13 rfl;refine zp (aq (v':=.bool false) (.neq rfl rfl) cgd) ?_)|(have p:=p.d 14 rfl;refine zp (.indexAddr rfl rfl (FT _ _ _ _ _ oo)) ?_)|(have p:=p.d 15 rfl;refine zp (.add rfl rfl) ?_))|(have p:=p.d 1 rfl;first|(have p:=p.d 0 rfl;refine ldZ IV ?_)|(have p:=p.d 1 rfl;refine ldZ Xl ?_)|(have p:=p.d 2 rfl;refine zp (.builtin [_] rfl (BX _ _ _)) ?_)|(have p:=p.d 3 rfl;refine zp (.fA rfl Bw) ?_)|(have p:=p.d 4 rfl;refine ldY Gl ?_)|(have p:=p.d 5 rfl;refine ldY Qt ?_)|(have p:=p.d 6 rfl;refine yo 84 rfl rfl rfl rfl ?_)|(have p:=p.d 7 rfl;refine zp (.neq rfl rfl) ?_)|(have p:=p.d 8 rfl;refine zo 30 rfl rfl rfl ?_)|(have p:=p.d 9 rfl;refine zo 16 rfl rfl rfl ?_)|(have p:=p.d 10 rfl;refine zp (aq (v':=.bool false) (.unOp rfl (Yt _)) cgd) ?_)|(have p:=p.d 11 rfl;refine zv [_] rfl call34 (D6 _) ?_)|(have p:=p.d 12 rfl;refine ldZ Gl ?_)|(have p:=p.d 13 rfl;refine ldZ HU ?_)|(have p:=p.d 14 rfl;refine yp rfl (.indexAddr rfl rfl (Wi _ _ _ _ _ oo)) ?_)|(have p:=p.d 15 rfl;refine zv [_] rfl call19 (fH _ oo oo) ?_))|(have p:=p.d 2 rfl;first|(have p:=p.d 0 rfl;refine ldY Vg ?_)|(have p:=p.d 1 rfl;refine zp (.build [(_,_),(_,_),(_,_)] rfl (PX _ _ _ _ _ _)) ?_)|(have p:=p.d 2 rfl;refine yo 58 rfl rfl rfl rfl ?_)|(have p:=p.d 3 rfl;refine yp rfl (.indexAddr rfl rfl (LR _ _ _ _ _ oo)) ?_)|(have p:=p.d 4 rfl;refine yp rfl (.indexAddr rfl rfl (ix_54 _ _ _ _ _ oo)) ?_)|(have p:=p.d 5 rfl;refine zp (aq (v':=.int .i64 1) (.add rfl rfl) cgd) ?_)|(have p:=p.d 6 rfl;refine zp (.indexAddr rfl rfl (ql _ _ _ _ _ oo)) ?_)|(have p:=p.d 7 rfl;refine zp (.builtin [_] rfl (BW _ _ _)) ?_)|(have p:=p.d 8 rfl;refine zp (.fA rfl Nn) ?_)|(have p:=p.d 9 rfl;refine zp (.mul rfl rfl) ?_)|(have p:=p.d 10 rfl;refine zo 23 rfl rfl rfl ?_)|(have p:=p.d 11 rfl;refine yv [_,_] rfl rfl call26 (UR _ _ oo oo) ?_)|(have p:=p.d 12 rfl;refine ldY VT ?_)|(have p:=p.d 13 rfl;refine zp (.builtin [_] rfl (H4 _ _ _)) ?_)|(have p:=p.d 14 rfl;refine ldY OC ?_)|(have p:=p.d 15 rfl;refine zp (.fA rfl JS) ?_))|(have p:=p.d 3 rfl;first|(have p:=p.d 0 rfl;refine zp (.convert rfl (GI _ (wrap_u64 _ oo oo))) ?_)|(have p:=p.d 1 rfl;refine zp (aq (v':=.bool true) (.eql rfl rfl) cgd) ?_)|(have p:=p.d 2 rfl;refine zp (.builtin [_] rfl (MX _ _ _)) ?_)|(have p:=p.d 3 rfl;refine yp rfl (.fA rfl Nt) ?_)|(have p:=p.d 4 rfl;refine zp (.fA rfl E6) ?_)|(have p:=p.d 5 rfl;refine zp (.fA rfl dh) ?_)|(have p:=p.d 6 rfl;refine ldZ mi ?_)|(have p:=p.d 7 rfl;refine zo 25 rfl rfl rfl ?_)|(have p:=p.d 8 rfl;refine zo 17 rfl rfl rfl ?_)|(have p:=p.d 9 rfl;refine zD rfl mm (by simp;omega) isAgg89 sizeOf89 (Zn 0 oo) (.inr rfl) ?_)|(have p:=p.d 10 rfl;refine yp rfl (.indexAddr rfl rfl (Vh _ _)) ?_)|(have p:=p.d 11 rfl;refine yp rfl (.indexAddr rfl rfl (Vi _ _)) ?_)|(have p:=p.d 12 rfl;refine yp rfl (.indexAddr rfl rfl (AO _ _)) ?_)|(have p:=p.d 13 rfl;refine yp rfl (.fA rfl Iz) ?_)|(have p:=p.d 14 rfl;refine yp rfl (.fA rfl Uo) ?_)|(have p:=p.d 15 rfl;refine yp rfl (.fA rfl Up) ?_))|(have p:=p.d 4 rfl;first|(have p:=p.d 0 rfl;refine ldZ OD ?_)|(have p:=p.d 1 rfl;refine ldY OD ?_)|(have p:=p.d 2 rfl;refine ldY HO ?_)|(have p:=p.d 3 rfl;refine ldZ To ?_)|(have p:=p.d 4 rfl;refine ldZ Fy ?_)|(have p:=p.d 5 rfl;refine ldY Jj ?_)|(have p:=p.d 6 rfl;refine zo 15 rfl rfl rfl ?_)|(have p:=p.d 7 rfl;refine zv [_,_] rfl call20 (C_QOf _ _ oo oo oo oo oo) ?_)|(have p:=p.d 8 rfl;refine ldZ It ?_)|(have p:=p.d 9 rfl;refine yv [_,_] rfl rfl call32 (fJ _ _ oo oo) ?_)|(have p:=p.d 10 rfl;refine zp (.binOp rfl rfl (λ_=>Yx _ _ _ _ _ dd)) ?_)|(have p:=p.d 11 rfl;refine zp (aq (v':=.bool false) (.eql rfl rfl) cgd) ?_)|(have p:=p.d 12 rfl;refine yp rfl (.fA rfl cO) ?_)|(have p:=p.d 13 rfl;refine yq rfl rfl rfl (.move rfl) ?_)|(have p:=p.d 14 rfl;refine ldY To ?_)|(have p:=p.d 15 rfl;refine yp rfl (.pickF rfl rfl) ?_))|(have p:=p.d 5 rfl;first|(have p:=p.d 0 rfl;refine zo 10 rfl rfl rfl ?_)|(have p:=p.d 1 rfl;refine zo 6 rfl rfl rfl ?_)|(have p:=p.d 2 rfl;refine zp (.indexAddr rfl rfl (ix_50 _ _ _ _ _ oo)) ?_)|(have p:=p.d 3 rfl;refine zp (.build [(_,_),(_,_)] rfl (Mb _ _)) ?_)|(have p:=p.d 4 rfl;refine yp rfl (.builtin [_] rfl (BX _ _ _)) ?_)|(have p:=p.d 5 rfl;refine yp rfl (.indexAddr rfl rfl (Co _ _)) ?_)|(have p:=p.d 6 rfl;refine yp rfl (.indexAddr rfl rfl (Cp _ _)) ?_)|(have p:=p.d 7 rfl;refine yp rfl (.indexAddr rfl rfl (Cq _ _)) ?_)|(have p:=p.d 8 rfl;refine yp rfl (.fA rfl Nu) ?_)|(have p:=p.d 9 rfl;refine zp (.fA rfl Ht) ?_)|(have p:=p.d 10 rfl;refine ldY Y1 ?_)|(have p:=p.d 11 rfl;refine zo 69 rfl rfl rfl ?_)|(have p:=p.d 12 rfl;refine zo 58 rfl rfl rfl ?_)|(have p:=p.d 13 rfl;refine zo 52 rfl rfl rfl ?_)|(have p:=p.d 14 rfl;refine zo 9 rfl rfl rfl ?_)|(have p:=p.d 15 rfl;refine ldZ AK ?_))|(have p:=p.d 6 rfl;first|(have p:=p.d 0 rfl;refine yp rfl (.indexAddr rfl rfl (ql _ _ _ _ _ oo)) ?_)|(have p:=p.d 1 rfl;refine yp rfl (.fA rfl cK) ?_)|(have p:=p.d 2 rfl;refine ldZ OC ?_)|(have p:=p.d 3 rfl;refine zp (.fA rfl Un) ?_)|(have p:=p.d 4 rfl;refine zp (.fA rfl JW) ?_)|(have p:=p.d 5 rfl;refine zp (.makeFunc [] [_] rfl rfl) ?_)|(have p:=p.d 6 rfl;refine ldY Mz ?_)|(have p:=p.d 7 rfl;refine yp rfl (.pickT rfl rfl) ?_)|(have p:=p.d 8 rfl;refine zp (.sub rfl rfl) ?_)|(have p:=p.d 9 rfl;refine yp rfl (aq (v':=.int .i64 2) (.binOp rfl rfl (λ_=>Yx _ _ _ _ _ dd)) cgd) ?_)|(have p:=p.d 10 rfl;refine yp rfl (aq (v':=.int .i64 1) (.binOp rfl rfl (λ_=>Yx _ _ _ _ _ dd)) cgd) ?_)|(have p:=p.d 11 rfl;refine yp rfl (aq (v':=.int .i64 0) (.binOp rfl rfl (λ_=>Yx _ _ _ _ _ dd)) cgd) ?_)|(have p:=p.d 12 rfl;refine ldY Ah ?_)|(have p:=p.d 13 rfl;refine ldY Ai ?_)|(have p:=p.d 14 rfl;refine ldY Bd ?_)|(have p:=p.d 15 rfl;refine zp (.convert rfl (kl _ (wrap_i64 _ oo oo))) ?_))|(have p:=p.d 7 rfl;first|(have p:=p.d 0 rfl;refine yp rfl (aq (v':=.int .i64 3) (.add rfl rfl) cgd) ?_)|(have p:=p.d 1 rfl;refine yp rfl (aq (v':=.int .i64 2) (.add rfl rfl) cgd) ?_)|(have p:=p.d 2 rfl;refine zp (.indexAddr rfl rfl (bN _ _ _ _ _ oo)) ?_)|(have p:=p.d 3 rfl;refine zp (.binOp rfl rfl (λ_=>Is _ _ _ _ _)) ?_)|(have p:=p.d 4 rfl;refine zp (.builtin [_] rfl (O5 _ _ _)) ?_)|(have p:=p.d 5 rfl;refine zp (.indexAddr rfl rfl (AO _ _)) ?_)|(have p:=p.d 6 rfl;refine zp (.indexAddr rfl rfl (FQ _ _)) ?_)|(have p:=p.d 7 rfl;refine yp rfl (.fA rfl Nv) ?_)|(have p:=p.d 8 rfl;refine yp rfl (.fA rfl Un) ?_)|(have p:=p.d 9 rfl;refine yp rfl (.fA rfl IB) ?_)|(have p:=p.d 10 rfl;refine zp (.fA rfl Nu) ?_)|(have p:=p.d 11 rfl;refine zp (.fA rfl Nv) ?_)|(have p:=p.d 12 rfl;refine zp (.fA rfl cO) ?_)|(have p:=p.d 13 rfl;refine zp (.fA rfl de) ?_)|(have p:=p.d 14 rfl;refine ldZ Y1 ?_)|(have p:=p.d 15 rfl;refine zq 7 rfl rfl (.move rfl) ?_))|(have p:=p.d 8 rfl;first|(have p:=p.d 0 rfl;refine ldY HQ ?_)|(have p:=p.d 1 rfl;refine ldZ FA ?_)|(have p:=p.d 2 rfl;refine ldY mi ?_)|(have p:=p.d 3 rfl;refine yp rfl (.convert rfl (GI _ (wrap_u64 _ oo oo))) ?_)|(have p:=p.d 4 rfl;refine zp (.indexAddr rfl rfl (FT _ _ _ _ _ (by first|omega|simp))) ?_)|(have p:=p.d 5 rfl;refine ldZ FB ?_)|(have p:=p.d 6 rfl;refine yv [_,_] rfl rfl call42 (fG _ _ oo oo) ?_)|(have p:=p.d 7 rfl;refine yp rfl (.indexAddr rfl rfl (bM _ _ _ _ _ oo)) ?_)|(have p:=p.d 8 rfl;refine yp rfl (.indexAddr rfl rfl (ix_50 _ _ _ _ _ oo)) ?_)|(have p:=p.d 9 rfl;refine zp (.indexAddr rfl rfl (ix_54 _ _ _ _ _ oo)) ?_)|(have p:=p.d 10 rfl;refine zp (.indexAddr rfl rfl (ix_51 _ _ _ _ _ oo)) ?_)|(have p:=p.d 11 rfl;refine zp (.indexAddr rfl rfl (ix_36 _ _ _ _ _ oo)) ?_)|(have p:=p.d 12 rfl;refine ldZ Cj ?_)|(have p:=p.d 13 rfl;refine yq rfl rfl rfl (.fA rfl Nn) ?_)|(have p:=p.d 14 rfl;refine zp (.builtin [_] rfl (O3 _ _ _)) ?_)|(have p:=p.d 15 rfl;refine zp (.builtin [_] rfl (DD _ _ _)) ?_))|(have p:=p.d 9 rfl;first|(have p:=p.d 0 rfl;refine zp (.indexAddr rfl rfl (br _ _)) ?_)|(have p:=p.d 1 rfl;refine zp (.indexAddr rfl rfl (bu _ _)) ?_)|(have p:=p.d 2 rfl;refine zp (.indexAddr rfl rfl (bJ _ _)) ?_)|(have p:=p.d 3 rfl;refine zp (.indexAddr rfl rfl (bK _ _)) ?_)|(have p:=p.d 4 rfl;refine yp rfl (.fA rfl JR) ?_)|(have p:=p.d 5 rfl;refine yp rfl (.fA rfl qF) ?_)|(have p:=p.d 6 rfl;refine zp (.fA rfl Uo) ?_)|(have p:=p.d 7 rfl;refine zp (.fA rfl Up) ?_)|(have p:=p.d 8 rfl;refine zp (.fA rfl Nm) ?_)|(have p:=p.d 9 rfl;refine zp (.fA rfl df) ?_)|(have p:=p.d 10 rfl;refine zp (.fA rfl qK) ?_)|(have p:=p.d 11 rfl;refine yp rfl (.build [(_,_),(_,_),(_,_)] rfl (PY _ _ _ _ _ _ _)) ?_)|(have p:=p.d 12 rfl;refine yv [_,_] rfl rfl call92 (nL _ _ oo oo) ?_)|(have p:=p.d 13 rfl;refine zv [_,_] rfl call26 (UR _ _ oo oo) ?_)|(have p:=p.d 14 rfl;refine yv [_] rfl rfl call19 (fH _ oo oo) ?_)|(have p:=p.d 15 rfl;refine yp rfl (aq (v':=.int .i64 1) (.add rfl rfl) cgd) ?_))|(have p:=p.d 10 rfl;first|(have p:=p.d 0 rfl;refine zp (.indexAddr rfl rfl (ix_145 _ _ _ _ _ (by exact ixd))) ?_)|(have p:=p.d 1 rfl;refine yp rfl (.indexAddr rfl rfl (ix_36 _ _ _ _ _ oo)) ?_)|(have p:=p.d 2 rfl;refine yp rfl (.indexAddr rfl rfl (ix_28 _ _ _ _ _ oo)) ?_)|(have p:=p.d 3 rfl;refine zp (.build [(_,_)] rfl (kM _ _ _)) ?_)|(have p:=p.d 4 rfl;refine zp (.indexAddr rfl rfl (O9 _ _)) ?_)|(have p:=p.d 5 rfl;refine zp (.indexAddr rfl rfl (Pa _ _)) ?_)|(have p:=p.d 6 rfl;refine yv [_] rfl rfl call102 (sr _) ?_)|(have p:=p.d 7 rfl;refine zp (.indexAddr rfl rfl (M6 _ _)) ?_)|(have p:=p.d 8 rfl;refine yp rfl (.fA rfl cN) ?_)|(have p:=p.d 9 rfl;refine yp rfl (.fA rfl JW) ?_)|(have p:=p.d 10 rfl;refine yp rfl (.fA rfl Bw) ?_)|(have p:=p.d 11 rfl;refine zp (.build [(_,_)] rfl (Sz _)) ?_)|(have p:=p.d 12 rfl;refine zp (.fA rfl Ul) ?_)|(have p:=p.d 13 rfl;refine zp (.fA rfl Iz) ?_)|(have p:=p.d 14 rfl;refine zp (.fA rfl jS) ?_)|(have p:=p.d 15 rfl;refine zp (.fA rfl IA) ?_))|(have p:=p.d 11 rfl;first|(have p:=p.d 0 rfl;refine zp (.fA rfl R9) ?_)|(have p:=p.d 1 rfl;refine zp (.fA rfl Sa) ?_)|(have p:=p.d 2 rfl;refine zp (.fA rfl qH) ?_)|(have p:=p.d 3 rfl;refine yp rfl (.unOp rfl (Yt _)) ?_)|(have p:=p.d 4 rfl;refine zq 7 rfl rfl (.lss rfl rfl) ?_)|(have p:=p.d 5 rfl;refine ldZ Bc ?_)|(have p:=p.d 6 rfl;refine ldZ Mw ?_)|(have p:=p.d 7 rfl;refine zp (.convert rfl (NJ _ (wrap_i64 _ oo oo))) ?_)|(have p:=p.d 8 rfl;refine yg rfl rfl rfl rfl mr isAgg34 sizeOf34 Da ?_)|(have p:=p.d 9 rfl;refine zp (.build [(_,_),(_,_),(_,_)] rfl (P0 _ _ _)) ?_)|(have p:=p.d 10 rfl;refine zp (.binOp rfl rfl (λ_=>Vw _ _ _ _ 32 dd)) ?_)|(have p:=p.d 11 rfl;refine zp (.indexAddr rfl rfl (qj _ _ _ oo)) ?_)|(have p:=p.d 12 rfl;refine ldZ IX ?_)|(have p:=p.d 13 rfl;refine ldY IX ?_)|(have p:=p.d 14 rfl;refine ldY FC ?_)|(have p:=p.d 15 rfl;refine yv [_,_] rfl rfl call154 (K1 _ _) ?_))|(have p:=p.d 12 rfl;first|(have p:=p.d 0 rfl;refine yp rfl (.indexAddr rfl rfl (O9 _ _)) ?_)|(have p:=p.d 1 rfl;refine yp rfl (.indexAddr rfl rfl (Pa _ _)) ?_)|(have p:=p.d 2 rfl;refine zp (.builtin [_] rfl (O1 _ _ _)) ?_)|(have p:=p.d 3 rfl;refine yp rfl (.indexAddr rfl rfl (M6 _ _)) ?_)|(have p:=p.d 4 rfl;refine yp rfl (.indexAddr rfl rfl (FR _ _)) ?_)|(have p:=p.d 5 rfl;refine ldQ 127 Jq ?_)|(have p:=p.d 6 rfl;refine ldQ 119 Jq ?_)|(have p:=p.d 7 rfl;refine ldQ 111 Jq ?_)|(have p:=p.d 8 rfl;refine zp (.indexAddr rfl rfl (bv _ _)) ?_)|(have p:=p.d 9 rfl;refine zp (.indexAddr rfl rfl (bw _ _)) ?_)|(have p:=p.d 10 rfl;refine zp (.indexAddr rfl rfl (Vh _ _)) ?_)|(have p:=p.d 11 rfl;refine zp (.indexAddr rfl rfl (Vi _ _)) ?_)|(have p:=p.d 12 rfl;refine yv [_] rfl rfl call120 (C_QNeg _) ?_)|(have p:=p.d 13 rfl;refine yp rfl (.fA rfl Um) ?_)|(have p:=p.d 14 rfl;refine yp rfl (.fA rfl de) ?_)|(have p:=p.d 15 rfl;refine yp rfl (.fA rfl df) ?_))|(have p:=p.d 13 rfl;first|(have p:=p.d 0 rfl;refine yp rfl (.fA rfl dh) ?_)|(have p:=p.d 1 rfl;refine zp (.fA rfl C2) ?_))))
 exact Hd.g k): e6:=h (.mk U) (.mk k)
theorem A6: (Go.builtin .len #[266] b0 b1 #[.slice F D A]).run prog w=.ok (.value (.int .i64 D)) w:=by
 simp[go_sem]
theorem LR(h:b4<D): RN (Instr.indexAt 266 (.slice (some ⟨U,K,none⟩) D A) (.int .i64 (b4:Int))) (.pointer (some ⟨U,K+b4,none⟩)):=λw=>by
 simpa using Qf runUnderlying266 sizeOf89 U K D A b4 h w
theorem YD(h:b4<=A): RN (Instr.sliceAt 266 (.slice F D A) none (some (.int .i64 (b4:Int))) none) (.slice F b4 A):=λw=>by
 exact AH runUnderlying266 sizeOf89 F D A b4 h w
theorem Ht: RN (Instr.fieldAt 41 (.pointer (some ⟨J,O,none⟩)) 1) (.pointer (some ⟨J,O+1,none⟩)):=λw=>by
 simp[go_sem]
theorem HU: Zm false 1 #[u,e] 1=some e:=rfl
theorem dh: RN (Instr.fieldAt 41 (.pointer (some ⟨J,O,none⟩)) 0) (.pointer (some ⟨J,O+0,none⟩)):=λw=>by
 simp[go_sem]
theorem IV: Zm false 1 #[u,e] 0=some u:=rfl
theorem Ym: RN (Go.convert 39 89 (.int .u64 z)) (.int .u32 (IntKind.u32.wrap z)):=λw=>by
 simp[go_sem]
theorem PP: (Instr.buildSlice 266 2 [(0,.int .u32 z),(1,.int .u32 r)].toArray).run prog w=.ok (.slice (some ⟨w.heap.size,0,none⟩) 2 2) (w.alloc (.cells #[.int .u32 z,.int .u32 r] 89 (0,0))):=by
 simp[go_sem]
theorem HZ: (Go.builtin .len #[9] b0 b1 #[.string h4]).run prog w=.ok (.value (.int .i64 h4.size)) w:=by
 simp[go_sem]
theorem qU: RN (Go.convert 5 89 (.int .u8 z)) (.int .u32 (IntKind.u32.wrap z)):=λw=>by
 simp[go_sem]
theorem NI(a:IntKind.u32.wrap z=z): RN (Go.convert 5 89 (.int .u8 z)) (.int .u32 z):=λw=>by
 rw[qU,a]
theorem Yo:prog.follows .mixedOrders=true:=by kernel_rfl
theorem Yt: RN (Op.unary .not (.bool c3)) (.bool (!c3)):=λw=>by simp[go_sem]
theorem C_cut(hw:Wd X)(hc:X.length<=D)(hs:X.length<=1099511627776):
  Ctr prog 261 [.slice F X.length D] [Row F (Xg X)] (λv Ψ=>v=.slice F (wds (Zw X)).length D/\Ψ=[Row F (Xg (wds (Zw X)))]):=by
 refine fnI func261 I ntmps261 λS w0 p=>au 0x812531 ?_;intro a w h;refine Jl (fun(m:Nat) a w=>m<=X.length/\(∀j,m<=j->j<X.length->X.getD j 0=0)/\St 21 S w0 [(0,.slice F m D)] [] [Row F (Xg X)] a w) (λm=>m) (X.length) (⟨aZ _,λj h1 i=>absurd i oo,h.sub sA⟩) ?_;clear h;rintro m a w ⟨hm,hz,h⟩;refine gC h<|au 0x4c0fbe4311 ?_;intro a w h;refine Zi h (λg h=>?_) (λg h=>?_);focus
  have n:0<m:=by simpa using g
  obtain ⟨b,off,k⟩:=h.row_addr ae (by simp;intro e;subst e;simp at hm;omega);subst k;refine gL h<|zq 6 I I (.move I)<|zq 6 I I (.move I)<|zq 6 I I (.builtin [_] I<|A6 _ _ _)<|zq 6 I I (.pO (m-1)<|.sub I I)<|zq 6 I I (.indexAddr I I<|LR _ _ _ _ _ oo) ?_;clear h;intro a w h;refine Zq 6 h I I<|Xm h I ae (by simp;omega) isAgg89 sizeOf89 (Zn 0 oo) (.inr I) dd ?_;clear h;intro a h;refine gL h<|zq 6 I I (.eql I I)<|au 0x23e ?_;clear h;intro a w h;refine Zb h I (λf=>?_) (λf=>?_)
  ·refine gC h<|au 0xbe44387 ?_;refine zp (.pO (m-1)<|.sub I I)<|zp (.slice I none (some _) none I I I<|YD _ _ _ _ oo)<|au 0x25 ?_;clear h;intro a w h;refine⟨m-1,⟨oo,λj h1 i=>?_,tO h⟩,oo⟩;by_cases hj:j=m-1
   ·subst hj;simpa using f
   exact hz j oo i
  refine gC h<|au 0x6254310e ?_;clear h;intro a w h;have d:=dJ hw hm hz (.inr (by simpa using f))
 rotate_left;focus
  refine gL h<|au 0x6254310ec22e15f15f15f15f15f15f15f ?_;clear h;intro a w h;have d:=dJ hw hm hz (.inl (by simpa using g))
 all_goals
  have hR:∀F,Row F (Xg (wds (Zw X)))=Row F ((Xg X).take m):=by intro F;rw[d,Xg,wv]
  replace h:=h.derive (R:=Row _ (Xg (wds (Zw X)))) (λr o=>by rw[hR];exact Fz (o _ ae) m);have hl:m=(wds (Zw X)).length:=by rw[d];simp;omega
  refine Qj (Ψ:=[Row _ (Xg<|wds<|Zw X)]) h (Zd h I<|.tmp I) ⟨by rw[<-hl],rfl⟩ ss
theorem Cd(hs:(wds U).length<=1099511627776):
  Ctr prog 178 [Ke U] [] (λv Ψ => ∃ad c,v=.slice ad (wds U).length c/\(wds U).length<=c/\Ψ=[Row ad (Xg (wds U))]):=by
 refine fnI func178 I ntmps178 λS w0 o=>zS (zx I λm=>au 0x237fd1f95f31125 ?_);intro a w h;refine Zb h I (λj=>?_) (λj=>?_)
 ·have g:U<18446744073709551616:=Qx.1 (by simpa using j);refine gC h<|au 0x01f53f31 ?_;refine zp (aq (v':=.int .u32 ((U%4294967296:Nat):Int)) (.convert I<|Ym _) (by rw[Qk g,Jf];congr 1))<|au 0x01f53f ?_;refine zp (.binOp I I (λ_=>by rw[Qk g];exact Vw _ _ _ U 32 dd))<|zp (aq (v':=.int .u32 ((U/4294967296:Nat):Int)) (.convert I<|Ym _) (by rw[Jf];congr 1;omega)) (zB [(_,_),(_,_)] I (PP _ _) λq=>?_);clear h;intro a w h;replace h:=h.shareAll o (Xg [U%4294967296,U/4294967296]) I;refine gL h<|zf [_] I call261 (C_cut _ _ [U%4294967296,U/4294967296] (two_Wd U g) ss ss) ?_;clear h;rintro v17 p ⟨rfl,rfl⟩ a w h;rw[XS U g] at h;refine gL h<|au 0x625 ?_;clear h;intro a w h;refine Qj (Ψ:=[Row _ (Xg<|wds U)]) h (Zd h I<|.tmp I) ⟨_,_,rfl,Ce g,rfl⟩ ss
 have g:¬U<18446744073709551616:=λg=>by have:=Qx.2 g;simp[this] at j
 refine gC h<|au 0xd1f95f317 ?_;refine zp (.builtin [_] I<|HZ _)<|zp (aq (v':=.int .i64 ((wds U).length:Int)) (.binOp I I (λ_=>ET _ _ _ _ _ dd)) (by rw[D3,if_neg g];rw[show((4:Int))=((4:Nat):Int) from I,CC,wrap_i64 _ oo oo];congr 1;omega)) ?_;clear h;intro a w h;refine Zc<|Qz h I I runUnderlying266 typeInfo89 sizeOf89 zeroValue89 I dd (aZ _) (by show 4*_<=_;omega) oo dd ?_;clear h;intro l a w h;rw[show(Value.int .u32 0).cells.toList=[Value.int .u32 0] from rfl,A3,show List.replicate (wds U).length (Value.int .u32 0)=Xg (BI (wds U) 0 0) from by rw[Lr];simp] at h;refine gL h<|au 0x824be431125 ?_;clear h;intro a w h;refine lpG h [1,3,24] pkL (λY Z (i:Nat) a w=>i<=(wds U).length/\St 51 S w0 ((25,.int .i64 (i:Int))::Y) [(l,.cells (Xg<|BI (wds U) i 0).toArray 89 (0,0)),(m,.cells (Ke U).cells 41 (0,0))] Z a w) (λi=>(wds U).length-i) (0) (⟨cX _,h.sub sA⟩) ?_;clear h;rintro i a w ⟨r,h⟩;refine gC h<|au 0x12d31 ?_;intro a w h;refine Zb h I (λf=>?_) (λf=>?_)
 ·have b:i<(wds U).length:=by simpa using f
  refine gC h<|au 0x8243125431817 ?_;clear h;intro a w h;refine lpG h [1,3,24,25,4] pkL (λY Z (k:Nat) a w=>k<=4/\St 51 S w0 ((28,.int .i64 (k:Int))::Y) [(l,.cells (Xg<|BI (wds U) i k).toArray 89 (0,0)),(m,.cells (Ke U).cells 41 (0,0))] Z a w) (λk=>4-k) (0) (⟨oo,h.sub sA⟩) ?_;clear h;rintro k a w ⟨hk,h⟩;refine gC h<|au 0x12d31 ?_;intro a w h;refine Zb h I (λd=>?_) (λd=>?_)
  ·have e:k<4:=by simp at d;omega
   refine gC h<|au 0x25431817 ?_;refine yE [0,1,2,3,4,5,6,7,8,9,10,11,12,13,14,15,16,17]<|au 0x32f99 ?_;refine yd I I (by repeat(first|exact List.Mem.head _|apply List.Mem.tail)) isAgg89 sizeOf89 ((Zn 0 (by rw[BR _ _ _ b];omega)).trans (by rw[ca,OI _ _ _ b])) ?_;clear h;refine yp I (.fA I Ht)<|ldY HU ?_;refine au 0x9 ?_;refine yp I (.mul I I)<|au 0x9 ?_;refine yp I (.pN (4*i+k)<|.add I I)<|yp I (aq (v':=.int .u8 (((wds U).getD i 0/256 ^ k%256:Nat):Int)) (.index I I (λ_=>CJ runUnderlying9 _ _ (by rw[D3,if_neg g];omega))) (by rw[PS g b e]))<|yp I (.convert I<|NI _<|wrap_u32 _ oo oo)<|au 0x9 ?_;refine yp I (.pN (8*k)<|.mul I I)<|yp I (aq (v':=.int .u32 (((wds U).getD i 0/256 ^ k%256*2 ^ (8*k):Nat):Int)) (.binOp I I (λ_=>CE _ _ _ _ _ (by show 8*k<=32;omega))) (by rw[wrap_u32 _ oo (by have:=Ft ((wds U).getD i 0/256 ^ k) k e;omega)]))<|yp I (aq (v':=.int .u32 (((wds U).getD i 0%256 ^ (k+1):Nat):Int)) (.binOp I I (λ_=>Fv I _ _ _ _ _ (gN (gF _<|tp oo)<|bp (js oo (by omega:k<=4)) dd)<|Ft _ _ e)) (by rw[ZO]))<|au 0x32f ?_;refine yt I I I ((Jc (BI (wds U) i k) (0+i) ((wds U).getD i 0%256 ^ (k+1))).trans (by rw[ca,OH _ _ _ _ b])) (by repeat(first|exact Upd.head|apply Upd.tail)) sizeOf89 I (by simp[BR _ _ _ b];omega) I ?_;refine au 0x24f0f3a ?_;intro a w h;exact⟨k+1,⟨oo,tO h⟩,oo⟩
  have e:k=4:=by simp at d;omega
  subst e;rw[Lu _ _ b (Wd.wds U)] at h;refine gC h<|au 0x24f0f30e ?_;clear h;intro a w h;exact⟨i+1,⟨oo,tO h⟩,oo⟩
 have b:i=(wds U).length:=by simp at f;omega
 refine gC h<|au 0x6254310e ?_;clear h;intro a w h;subst b;rw[OJ] at h;replace h:=h.shareAll o (Xg (wds U)) I;refine Qj (Ψ:=[Row _ (Xg<|wds U)]) h (Zd h I<|.tmp I) ⟨_,_,rfl,aZ _,rfl⟩ ss
theorem Sz: RN (Instr.build 41 [(0,.int .u64 z)].toArray) (.agg #[.int .u64 z,.string ⟨#[]⟩]):=λw=>by simp[go_sem]
theorem Zt: Zp #[u,e] 0 [a1,b5]=#[a1,b5]:=rfl
theorem Qt: Zm true 2 #[u,e] 0=some (.agg #[u,e]):=rfl
theorem NW: RN (Instr.build 41 [].toArray) (.agg #[.int .u64 0,.string ⟨#[]⟩]):=λw=>by simp[go_sem]
theorem Ux: RN (Go.convert 89 39 (.int .u32 z)) (.int .u64 (IntKind.u64.wrap z)):=λw=>by
 simp[go_sem]
theorem GI(a:IntKind.u64.wrap z=z): RN (Go.convert 89 39 (.int .u32 z)) (.int .u64 z):=λw=>by
 rw[Ux,a]
theorem J0: RN (Go.convert 89 5 (.int .u32 z)) (.int .u8 (IntKind.u8.wrap z)):=λw=>by
 simp[go_sem]
theorem KJ: (Instr.buildSlice 22 4 [(0,.int .u8 z),(1,.int .u8 r),(2,.int .u8 h5),(3,.int .u8 h6)].toArray).run prog w=.ok (.slice (some ⟨w.heap.size,0,none⟩) 4 4) (w.alloc (.cells #[.int .u8 z,.int .u8 r,.int .u8 h5,.int .u8 h6] 5 (0,0))):=by
 simp[go_sem]
theorem rE: RN (Instr.build 41 [(1,.string h4)].toArray) (.agg #[.int .u64 0,.string h4]):=λw=>by simp[go_sem]
theorem Mr: RN (do eqGuard .eql 41 e3 e4 (Ke D) (Ke A);Go.binOp .eql 41 (Ke D) (Ke A):Sem Value) (.bool (decide (D=A))):=λw=>by
 simp[go_sem];have c:((Xr D).toList=(Xr A).toList)↔Xr D=Xr A:=by have:=Ec (Xr D) (Xr A);rw[sv] at this;simpa using this
 by_cases h:D=A
 ·subst h;simp
 have a:=λh1 b=>h (Nx h1 b);by_cases h1:Yk D=Yk A
 ·simp only[h,h1,c,if_true,decide_false];exact if_neg (a h1)
 simp[h,h1]
theorem C_Of(b:U<18446744073709551616): Jk prog 155 [.int .u64 (U:Int)] (Ke U):=by
 refine fnI func155 I ntmps155 λS w0 d=>zS (zz zeroValue41 λc=>au 0xbaf4312 ?_);refine stW I I Zt ?_;refine zn<|zt ?_;intro a w h;refine Xh h (Zd h I<|rC Qt) ?_;rw[Ke,Qk b,Gp b]
theorem nw: Jk prog 256 [Ke U] (.bool (decide (U=0))):=by
 refine fnI func256 I ntmps256 λS w0 a=>zS (zx I λb=>au 0x5e3125 ?_);refine zp (aq (v':=Ke 0) (.build [] I<|NW) (by rfl))<|zp (.binOp I I (λ_=>Mr _ _ U 0 _))<|za I<|zn<|zt<|rtK I
theorem sf(hw:Wd X)(hc:X.length<=D)(hs:X.length<=1099511627776):
  Xi prog 177 [.slice F X.length D] [Row F (Xg X)] (Ke (Zw X)):=by
 refine fnI func177 I ntmps177 λS w0 B=>zS (zz zeroValue41 λx=>zn<|zS<|zm I<|zf [_] I call261 (C_cut F D X hw hc hs) ?_);rintro v10 u ⟨rfl,rfl⟩ a w h;have g:=Wd.wds (Zw X);have t:=Ja (Zw X);have A:(wds (Zw X)).length<=1099511627776:=bp (Fl hw) hs;have s:(wds (Zw X)).length<=D:=bp (Fl hw) hc;generalize p:wds (Zw X)=W at h g t A s;refine gL h<|au 0xbe431125 ?_;refine zp (.leq I I)<|zn ?_;clear h;intro a w h;refine Zb h I (λk=>?_) (λk=>?_)
 ·have q:W.length<=2:=by simp at k;omega
  refine gC h<|au 0x824be43112531 ?_;clear h;intro a w h;refine lpG h [2,14,15] pkL (λY Z (i:Nat) a w=>i<=W.length/\St 59 S w0 ((3,.int .u64 (Zw (W.take i):Int))::(16,.int .i64 (i:Int))::Y) [(x,.cells (Ke 0).cells 41 (0,0))] Z a w) (λi=>W.length-i) (0) (⟨cX _,(h.factsSub (by simp)).sub sA⟩) ?_;clear h;rintro i a w ⟨z,h⟩;refine gC h<|au 0x12d31 ?_;intro a w h;refine Zb h I (λj=>?_) (λj=>?_)
  ·have d:i<W.length:=by simpa using j
   obtain ⟨b,off,o⟩:=h.row_addr ae (by simp;intro e;subst e;simp at d);subst o;have hx:=g.getD i;refine gC h<|au 0x403f44325593ffe431817 ?_;refine zp (.pN (32*i)<|.mul I I)<|zp (aq (v':=.int .u64 ((W.getD i 0*2 ^ (32*i):Nat):Int)) (.binOp I I (λ_=>CE _ _ _ _ _ (by show 32*i<=64;omega))) (by rw[wrap_u64 _ oo (by have:=IR _ i hx oo;omega)]))<|zp (aq (v':=.int .u64 ((Zw (W.take (i+1)):Nat):Int)) (.binOp I I (λ_=>Fv I _ _ _ _ _ (gN (Oj (g.take i) (by simp;omega)) dd)<|IR _ i hx oo)) (by rw[pE _ _ d g]))<|au 0x24f0f325 ?_;clear h;intro a w h;exact⟨i+1,⟨oo,tO h⟩,oo⟩
  have d:i=W.length:=by simp at j;omega
  refine gC h<|au 0xbaf4310e ?_;refine stW I I Zt ?_;refine zn<|zt ?_;clear h;intro a w h;refine Xh h (Zd h I<|rC Qt) ?_;have f:=Oj g q;rw[t] at f;subst d;rw[w9,t,Ke,Qk f,Gp f]
 have q:2<W.length:=by simp at k;omega
 refine gC h<|au 0xbe4317 ?_;refine zp (.pN (4*W.length)<|.mul I I) ?_;clear h;intro a w h;refine Zc<|Qz h I I runUnderlying22 typeInfo5 sizeOf5 zeroValue5 I dd (by exact cX _) (by show 1*_<=_;omega) oo dd ?_;clear h;intro r a w h;refine gL h<|au 0x824be431125 ?_;clear h;intro a w h;refine lpG h [2,35,36] pkL (λY Z (i:Nat) a w=>i<=W.length /\ ∃v σ,Grow 1 5 v (4*i) (u8s<|bytesOf<|W.take i) σ [(x,.cells (Ke 0).cells 41 (0,0))]/\St 59 S w0 ((6,v)::(37,.int .i64 (i:Int))::Y) σ Z a w) (λi=>W.length-i) (0) (⟨cX _,_,_,⟨rfl,.inr ⟨r,4*W.length,_,rfl,by simp[bytesOf,CL,Value.cells],cX _,rfl⟩⟩,(h.factsSub (by simp)).sub sA⟩) ?_;clear h;rintro i a w ⟨z,v,σ,n,h⟩;refine gC h<|au 0x12d31 ?_;intro a w h;refine Zb h I (λm=>?_) (λm=>?_)
 ·have d:i<W.length:=by simpa using m
  obtain ⟨b,off,o⟩:=h.row_addr ae (by simp;intro e;subst e;simp at d);subst o;have hx:=g.getD i;refine gC h<|au 0x4432593ffe31817 ?_;refine zp (aq (v':=.int .u8 ((W.getD i 0%256:Nat):Int)) (.convert I<|J0 _) (by rw[Cz];congr 1))<|zm I<|zp (.binOp I I (λ_=>Vw _ _ _ _ 8 dd))<|zp (aq (v':=.int .u8 ((W.getD i 0/2 ^ 8%256:Nat):Int)) (.convert I<|J0 _) (by rw[Cz];congr 1))<|zm I<|zp (.binOp I I (λ_=>Vw _ _ _ _ 16 dd))<|zp (aq (v':=.int .u8 ((W.getD i 0/2 ^ 16%256:Nat):Int)) (.convert I<|J0 _) (by rw[Cz];congr 1))<|zm I<|zp (.binOp I I (λ_=>Vw _ _ _ _ 24 dd))<|zp (aq (v':=.int .u8 ((W.getD i 0/2 ^ 24%256:Nat):Int)) (.convert I<|J0 _) (by rw[Cz];congr 1)) (zB [(_,_),(_,_),(_,_),(_,_)] I (KJ _ _ _ _) λy=>?_);clear h;intro a w h;refine Zc<|ZW h I I n runUnderlying22 runUnderlying22 typeInfo5 sizeOf5 zeroValue5 I dd dd I I dd (by show 1*_<=_;omega) dd ?_;clear h n;intro v σ a w n h;rw[Wz _ _ d] at n;refine gL h<|au 0x24f0f325 ?_;clear h;intro a w h;exact⟨i+1,⟨oo,_,_,n,tO h⟩,oo⟩
 have d:i=W.length:=by simp at m;omega
 refine gC h<|au 0x4310e ?_;clear h;intro a w h;refine Zc<|Rq h I n runUnderlying22 runUnderlying9 runUnderlying5 dd ?_;clear h;intro a h;replace h:=h.drop n.sub;refine gL h<|zp (.build [(_,_)] I<|rE _)<|stW I I Zt ?_;refine zn<|zt ?_;clear h;intro a w h;refine Xh h (Zd h I<|rC Qt) ?_;have f:¬Zw X<18446744073709551616:=QQ (by rw[p];exact q);subst d;rw[w9,Ke,V4 f,ED f,p]
theorem bi_min: (Go.builtin .min #[3,3] b0 b1 #[.int .i64 z,.int .i64 r]).run prog w=.ok (.value (.int .i64 (min z r))) w:=by
 simp[go_sem]<;>(rw[Int.min_def];split<;>split<;>omega)
theorem bi_max: (Go.builtin .max #[3,3] b0 b1 #[.int .i64 z,.int .i64 r]).run prog w=.ok (.value (.int .i64 (max z r))) w:=by
 simp[go_sem]<;>(rw[wT];split<;>split<;>omega)
theorem jT(hc:D<=1)(w:World): (callFunc 262 #[.int .u64 (U:Int),.int .u64 (K:Int),.int .u64 (D:Int)]).run prog w=.ok (.value (.tuple #[.int .u64 (((U+K+D)%18446744073709551616:Nat):Int),.int .u64 (((U+K+D)/18446744073709551616:Nat):Int)])) w :=
 YY func262 kk kk kk kk U K D hc w
theorem C_sign: Jk prog 319 [.int .i64 z] (.int .i64 (max (-1) (min 1 z))):=by
 refine fnI func319 I ntmps319 λS w0 a=>au 0x4312531 ?_;refine zp (.builtin [_,_] I (λw ty cs=>bi_min _ _ w ty cs))<|zp (.builtin [_,_] I (λw ty cs=>bi_max _ _ w ty cs))<|za I<|zn<|zt<|rtK I
theorem C_cmp(v:(wds U).length<=1099511627776)(hm:(wds K).length<=1099511627776):
  Xi prog 285 [.slice F (wds U).length D,.slice c4 (wds K).length a7] [Row F (Xg (wds U)),Row c4 (Xg (wds K))] (.int .i64 (ed U K)):=by
 refine fnI func285 I ntmps285 λS w0 r=>au 0x271fbe4be43112531 ?_;intro a w h;refine Zb h I (λf=>?_) (λf=>?_)
 ·skip;refine gC h<|au 0x86fbe4be431 ?_;refine zv [_] I call319 (C_sign _)<|za I<|zn<|zt<|rtK ?_;unfold ed;have j:(wds U).length≠(wds K).length:=pL f;rcases vG j with h1|h1
  ·have:=D9 h1;rw[if_pos this];congr 1;rw[Int.min_eq_right oo,Int.max_eq_left oo]
  have g:=D9 h1;rw[if_neg oo,if_pos g];congr 1;rw[Int.min_eq_left oo];rfl
 have hl:(wds U).length=(wds K).length:=iR f;refine gC h<|au 0x82586fbe43117 ?_;clear h;intro a w h;refine lpG h [0,1] pkL (λY Z (k:Nat) a w=>k<=(wds U).length/\(wds U).drop k=(wds K).drop k/\St 42 S w0 ((5,.int .i64 ((k:Int)-1))::Y) [] Z a w) (λk=>k) ((wds U).length) (⟨aZ _,by rw[th (aZ _),hl,th (aZ _)],h.sub sA⟩) ?_;clear h;rintro k a w ⟨o,hd,h⟩;refine gC h<|au 0x200f4311 ?_;intro a w h;refine Zb h I (λc=>?_) (λc=>?_)
 ·have hk:0<k:=by simp at c;omega
  have i:k<=(wds K).length:=hl ▸ o;obtain ⟨q,x,rfl⟩:=h.row_addr (ad:=F) (M:=Xg (wds U)) ae (by simp;intro e;rw[e] at o;simp at o;omega);obtain ⟨t,u,rfl⟩:=h.row_addr (ad:=c4) (M:=Xg (wds K)) (aX _ ae) (by simp;intro e;rw[e] at i;simp at i;omega);refine gC h<|zk<|zs<|zb<|zs<|yE [0,1,2,3,4,5,6,7,8]<|au 0x9 ?_;refine yp I (.pO (k-1)<|.move I)<|au 0x32f ?_;clear h;refine Zf I kk I mm (by simp;omega) isAgg89 sizeOf89 (Zn 0 oo) (.inr I) dd ?_;refine au 0x9 ?_;refine yp I (.pO (k-1)<|.move I)<|au 0x32f ?_;refine Zf I kk I mm (by simp;omega) isAgg89 sizeOf89 (Zn 0 oo) (.inr I) dd ?_;refine yp I (.neq I I)<|yn ?_;intro a w h;refine Zb h I (λd=>?_) (λd=>?_)
  ·skip;refine gC h<|zs<|zs<|yE [0,1,2,3,4,5,6,7,8]<|au 0x9 ?_;refine yp I (.pO (k-1)<|.move I)<|au 0x32f ?_;clear h;refine Zf I kk I mm (by simp;omega) isAgg89 sizeOf89 (Zn 0 oo) (.inr I) dd ?_;refine au 0x9 ?_;refine yp I (.pO (k-1)<|.move I)<|au 0x32f ?_;refine Zf I kk I mm (by simp;omega) isAgg89 sizeOf89 (Zn 0 oo) (.inr I) dd ?_;refine yp I (.lss I I)<|yn ?_;intro a w h;refine Zb h I (λb=>?_) (λb=>?_)
   ·refine gC h<|au 0x62531 ?_;refine rtK ?_;have h1:(wds U).getD (k-1) 0<(wds K).getD (k-1) 0:=by simpa using b
    have g:=SY (Wd.wds U) (Wd.wds K) h1 (by rw[tF hk];exact hd);rw[Ja,Ja] at g;unfold ed;rw[if_pos g]
   refine gC h<|au 0x625317 ?_;refine rtK ?_;have s:(wds U).getD (k-1) 0≠(wds K).getD (k-1) 0:=pL d;have p:¬(wds U).getD (k-1) 0<(wds K).getD (k-1) 0:=by simpa using b
   have h1:(wds K).getD (k-1) 0<(wds U).getD (k-1) 0:=oo;have g:=SY (Wd.wds K) (Wd.wds U) h1 (by rw[tF hk];exact hd.symm);rw[Ja,Ja] at g;unfold ed;rw[if_neg oo,if_pos g]
  have he:(wds U).getD (k-1) 0=(wds K).getD (k-1) 0:=iR d;refine gC h<|zk<|zr<|zm I<|zp (aq (v':=.int .i64 (((k-1:Nat):Int)-1)) (.sub I I) (by show Value.int _ _=Value.int _ _;congr 1;omega))<|au 0x25 ?_;clear h;intro a w h;refine⟨k-1,⟨oo,drop_step hl oo he (by rw[tF hk];exact hd),tO h⟩,oo⟩
 have hk:k=0:=by simp at c;omega
 refine gC h<|au 0x625310e ?_;refine rtK ?_;subst hk;have e:U=K:=by rw[<-Ja U, <-Ja K];simp at hd;rw[hd]
 unfold ed;rw[if_neg oo,if_neg oo]
theorem C_Cmp(f:(wds U).length<=1099511627776)(hm:(wds K).length<=1099511627776): Jk prog 257 [Ke U,Ke K] (.int .i64 (ed U K)):=by
 refine fnI func257 I ntmps257 λS w0 q=>zS (zx I λr=>zx I λs=>au 0x437fd1f95f31125 ?_);intro a w h;refine Zi h (λe h=>?_) (λe h=>?_);focus
  have ha:U<18446744073709551616:=Qx.1 (by simpa using e);refine gL h<|zq 8 I I (.fA I Ht)<|ldQ 8 HU ?_;refine zq 8 I I (.binOp I I (λ_=>Is _ _ _ _ _)) ?_;clear h;intro a w h;refine Zi h (λd h=>?_) (λd h=>?_)
  ·have g:K<18446744073709551616:=Qx.1 (by simpa using d);refine gL h<|au 0xd01f53f01f53f31811e23e ?_;clear h;intro a w h;refine Zi h (λb h=>?_) (λb h=>?_)
   ·refine gL h<|au 0x625311e25 ?_;refine rtK ?_;rw[Qk ha,Qk g] at b;have:U<K:=by simpa using b
    unfold ed;rw[if_pos this]
   refine gL h<|au 0xc0f01f53f01f53f31c25 ?_;clear h;intro a w h;refine Zi h (λc h=>?_) (λc h=>?_)
   ·refine gL h<|au 0x625311e25 ?_;refine rtK ?_;rw[Qk ha,Qk g] at b c;have h1:K<U:=by simpa using c
    unfold ed;rw[if_neg oo,if_pos h1]
   refine gL h<|au 0x625317c25 ?_;refine rtK ?_;rw[Qk ha,Qk g] at b c;have h1:¬K<U:=by simpa using c
   have l:¬U<K:=by simpa using b
   unfold ed;rw[if_neg l,if_neg h1]
  have g:¬K<18446744073709551616:=λf=>by have:=Qx.2 f;simp[this] at d
  refine gL h<|au 0x23e ?_;clear h;intro a w h
 rotate_left;focus
  have ha:¬U<18446744073709551616:=λf=>by have:=Qx.2 f;simp[this] at e
  refine gL h<|zo 8 I I I<|zo 8 I I I<|zo 8 I I I<|au 0x22e ?_;clear h;intro a w h
 all_goals
  refine cW<|Zj h I<|gC h<|zk<|zs<|yE [0,2,1,3,4,5]<|au 0x51f ?_;clear h;refine au 0x51f ?_;refine yf [_] I I call178 (Cd U f) ?_;rintro v26 i ⟨k,c1,rfl,p,rfl⟩;refine yf [_] I I call178 (Cd K hm) ?_;rintro v28 j ⟨a2,c2,rfl,o,rfl⟩;refine yw [_,_] I I call285 (C_cmp U K k c1 a2 c2 f hm)<|au 0x6a4e ?_;refine rtK I
theorem fV(hx:U<4294967296)(b:K<4294967296)(hc:D<=1):
  Jk prog 263 [.int .u32 (U:Int),.int .u32 (K:Int),.int .u32 (D:Int)] (.tuple #[.int .u32 (((U+K+D)%4294967296:Nat):Int),.int .u32 (((U+K+D)/4294967296:Nat):Int)]):=by
 refine fnI func263 I ntmps263 λS w0 d=>au 0x03f403f43125531 ?_;refine zp (.binOp I I (λ_=>Jt _ _ _ _ _<|wrap_u64 _ oo oo))<|au 0x03f4 ?_;refine zp (aq (v':=.int .u64 ((U+K+D:Nat):Int)) (.binOp I I (λ_=>Jt _ _ _ _ _<|wrap_u64 _ oo oo)) (by show Value.int _ _=Value.int _ _;congr 1))<|au 0x43125 ?_;refine zp (aq (v':=.int .u32 (((U+K+D)%4294967296:Nat):Int)) (.convert I<|Ym _) (by rw[Jf];congr 1))<|au 0xabf43125 ?_;refine zp (aq (v':=.int .u32 (((U+K+D)/4294967296:Nat):Int)) (.convert I<|Ym _) (by rw[Jf];congr 1;omega))<|au 0x625 ?_;intro a w h;refine Xh h (Qd h I (.tmp I)<|.tmp I) ?_;rfl
theorem SN(hx:U<4294967296)(b:K<4294967296)(hc:D<=1):
  Jk prog 260 [.int .u32 (U:Int),.int .u32 (K:Int),.int .u32 (D:Int)] (.tuple #[.int .u32 (((U+8589934592-K-D)%4294967296:Nat):Int),.int .u32 ((if U<K+D then 1 else 0:Nat):Int)]):=by
 refine fnI func260 I ntmps260 λS w0 d=>au 0x443125531 ?_;refine zp (.binOp I I (λ_=>G6 _ _ _ _ _))<|zm I<|zp (aq (v':=.int .u32 (((U+8589934592-K-D)%4294967296:Nat):Int)) (.binOp I I (λ_=>G6 _ _ _ _ _)) (by rw[Jf,Jf];congr 1;omega))<|au 0x43125 ?_;refine zp (.unOp I (λ_=>Ou _ hx))<|zm I<|zp (.binOp I I (λ_=>G9 I _ _ _ _ _ (by show _<4294967296;omega) b))<|zm I<|zm I<|zp (.binOp I I (λ_=>YP I _ _ _ _ _ hx b))<|zp (.unOp I (λ_=>Ou _<|vF (n:=32) hx b))<|zm I<|zp (.binOp I I (λ_=>G9 I _ _ _ _ _ (by show _<4294967296;omega) (by show _<4294967296;omega)))<|zp (.binOp I I (λ_=>Fv I _ _ _ _ _ (gO vk b)<|gO vk (by show _<4294967296;omega)))<|zp (aq (v':=.int .u32 ((if U<K+D then 1 else 0:Nat):Int)) (.binOp I I (λ_=>Vw _ _ _ _ 31 dd)) (by rw[U9 U K D hx b hc]))<|au 0x625 ?_;intro a w h;refine Xh h (Qd h I (.tmp I)<|.tmp I) ?_;rfl
theorem lc(g:¬U<18446744073709551616)(hs:(wds U).length<=1099511627776):
  CtrO prog 178 [Ke U] [] (λv m => ∃b,v=.slice (some ⟨b,0,none⟩) (wds U).length (wds U).length/\m=[(b,.cells (Xg (wds U)).toArray 89 (0,0))]):=by
 refine fn_introO func178 I ntmps178 nb ?_;intro S w0 a q h;refine gC h<|zS (zx I λp=>au 0x237fd1f95f31125 ?_);refine kV I (λl=>(by exfalso;exact g<|Qx.1 (by simpa using l))) λl=>au 0xd1f95f317 ?_;clear h;intro a w h;have o:¬U<18446744073709551616:=g;refine gL h<|zp (.builtin [_] I<|HZ _)<|zp (aq (v':=.int .i64 ((wds U).length:Int)) (.binOp I I (λ_=>ET _ _ _ _ _ dd)) (by rw[D3,if_neg o];rw[show((4:Int))=((4:Nat):Int) from I,CC,wrap_i64 _ oo oo];congr 1;omega)) ?_;clear h;intro a w h;refine Zc<|Qz h I I runUnderlying266 typeInfo89 sizeOf89 zeroValue89 I dd (aZ _) (by show 4*_<=_;omega) oo dd ?_;clear h;intro j a w h;rw[show(Value.int .u32 0).cells.toList=[Value.int .u32 0] from rfl,A3,show List.replicate (wds U).length (Value.int .u32 0)=Xg (BI (wds U) 0 0) from by rw[Lr];simp] at h;refine gL h<|au 0x824be431125 ?_;clear h;intro a w h;refine lpG h [1,3,24] pkL (λY Z (i:Nat) a w=>i<=(wds U).length/\St 51 S w0 ((25,.int .i64 (i:Int))::Y) [(j,.cells (Xg<|BI (wds U) i 0).toArray 89 (0,0)),(p,.cells (Ke U).cells 41 (0,0))] Z a w) (λi=>(wds U).length-i) (0) (⟨cX _,h.sub sA⟩) ?_;clear h;rintro i a w ⟨r,h⟩;refine gC h<|au 0x12d31 ?_;intro a w h;refine Zb h I (λf=>?_) (λf=>?_)
 ·have c:i<(wds U).length:=by simpa using f
  refine gC h<|au 0x8243125431817 ?_;clear h;intro a w h;refine lpG h [1,3,24,25,4] pkL (λY Z (k:Nat) a w=>k<=4/\St 51 S w0 ((28,.int .i64 (k:Int))::Y) [(j,.cells (Xg<|BI (wds U) i k).toArray 89 (0,0)),(p,.cells (Ke U).cells 41 (0,0))] Z a w) (λk=>4-k) (0) (⟨oo,h.sub sA⟩) ?_;clear h;rintro k a w ⟨hk,h⟩;refine gC h<|au 0x12d31 ?_;intro a w h;refine Zb h I (λd=>?_) (λd=>?_)
  ·have e:k<4:=by simp at d;omega
   refine gC h<|au 0x25431817 ?_;refine yE [0,1,2,3,4,5,6,7,8,9,10,11,12,13,14,15,16,17]<|au 0x32f99 ?_;refine yd I I (by repeat(first|exact List.Mem.head _|apply List.Mem.tail)) isAgg89 sizeOf89 ((Zn 0 (by rw[BR _ _ _ c];omega)).trans (by rw[ca,OI _ _ _ c])) ?_;clear h;refine yp I (.fA I Ht)<|ldY HU ?_;refine au 0x9 ?_;refine yp I (.mul I I)<|au 0x9 ?_;refine yp I (.pN (4*i+k)<|.add I I)<|yp I (aq (v':=.int .u8 (((wds U).getD i 0/256 ^ k%256:Nat):Int)) (.index I I (λ_=>CJ runUnderlying9 _ _ (by rw[D3,if_neg o];omega))) (by rw[PS o c e]))<|yp I (.convert I<|NI _<|wrap_u32 _ oo oo)<|au 0x9 ?_;refine yp I (.pN (8*k)<|.mul I I)<|yp I (aq (v':=.int .u32 (((wds U).getD i 0/256 ^ k%256*2 ^ (8*k):Nat):Int)) (.binOp I I (λ_=>CE _ _ _ _ _ (by show 8*k<=32;omega))) (by rw[wrap_u32 _ oo (by have:=Ft ((wds U).getD i 0/256 ^ k) k e;omega)]))<|yp I (aq (v':=.int .u32 (((wds U).getD i 0%256 ^ (k+1):Nat):Int)) (.binOp I I (λ_=>Fv I _ _ _ _ _ (gN (gF _<|tp oo)<|bp (js oo (by omega:k<=4)) dd)<|Ft _ _ e)) (by rw[ZO]))<|au 0x32f ?_;refine yt I I I ((Jc (BI (wds U) i k) (0+i) ((wds U).getD i 0%256 ^ (k+1))).trans (by rw[ca,OH _ _ _ _ c])) (by repeat(first|exact Upd.head|apply Upd.tail)) sizeOf89 I (by simp[BR _ _ _ c];omega) I ?_;refine au 0x24f0f3a ?_;intro a w h;exact⟨k+1,⟨oo,tO h⟩,oo⟩
  have e:k=4:=by simp at d;omega
  subst e;rw[Lu _ _ c (Wd.wds U)] at h;refine gC h<|au 0x24f0f30e ?_;clear h;intro a w h;exact⟨i+1,⟨oo,tO h⟩,oo⟩
 have c:i=(wds U).length:=by simp at f;omega
 refine gC h<|au 0x6254310e ?_;clear h;intro a w h;subst c;rw[OJ] at h;refine HV h (Zd h I<|.tmp I) ⟨j,rfl,rfl⟩ sl
theorem XR: (Xg X).all flat=true:=by simp[flat]
theorem dL: Zp (Xg (List.replicate (X.length+1) 0)).toArray 0 (Xg X)=(Xg (X++[0])).toArray:=by
 rw[Q8 _ _ ss];simp
theorem C_Add(v:(wds U).length<=1000000000000)(hm:(wds K).length<=1000000000000): Jk prog 179 [Ke U,Ke K] (Ke (U+K)):=by
 refine fnI func179 I ntmps179 λS w0 T=>zS (zx I λO=>zx I λH=>zz zeroValue41 λp=>zn ?_);intro a w h;refine Yv (λa w=>St 80 S w0 [(2,pB O),(3,pB H),(4,pB p)] [(p,.cells (Ke 0).cells 41 (0,0)),(H,.cells (Ke K).cells 41 (0,0)),(O,.cells (Ke U).cells 41 (0,0))] [] a w) ?_ ?_
 ·refine gC h<|au 0x437fd1f95f31 ?_;clear h;intro a w h;refine Zi h (λj h=>?_) (λj h=>?_);focus
   have ha:U<18446744073709551616:=Qx.1 (by simpa using j);refine gL h<|zq 16 I I (.fA I Ht)<|ldQ 16 HU ?_;refine zq 16 I I (.binOp I I (λ_=>Is _ _ _ _ _)) ?_;clear h;intro a w h;refine Zi h (λd h=>?_) (λd h=>?_)
   ·have G:K<18446744073709551616:=Qx.1 (by simpa using d);refine gL h<|au 0x01f53f01f53f311e23e ?_;refine zp (.extern [_,_,_] I (λw=>by rw[Qk ha,Qk G];exact jT U K 0 dd w))<|au 0x2ae431255bb4 ?_;clear h;intro a w h;refine Zb h I (λo=>?_) (λo=>?_)
    ·have l:U+K<18446744073709551616:=by simp at o;omega
     refine gC h<|au 0xbaf431 ?_;refine stW I I Zt ?_;refine zn<|zt ?_;clear h;intro a w h;refine Xh h (Zd h I<|rC Qt) ?_;have e:(U+K+0)%18446744073709551616=U+K:=oo;rw[e,Ke,Qk l,Gp l]
    refine wp_skip ?_;exact tO h
   have G:¬K<18446744073709551616:=λv=>by have:=Qx.2 v;simp[this] at d
   refine gL h<|au 0x23e ?_;clear h;intro a w h
  rotate_left;focus
   have ha:¬U<18446744073709551616:=λv=>by have:=Qx.2 v;simp[this] at j
   refine gL h<|au 0x22e91f91f91f ?_;clear h;intro a w h
  all_goals
   refine cW<|Zj h I<|wp_skip ?_;exact tO h
 clear h;intro a w h;refine gC h<|zs<|yE [0,2,1,3,4,5]<|au 0x51f ?_;clear h;refine au 0x51f ?_;refine yf [_] I I call178 (Cd U oo) ?_;rintro P L ⟨a1,c1,rfl,y,rfl⟩;refine yf [_] I I call178 (Cd K oo) ?_;rintro m F ⟨a2,c2,rfl,u,rfl⟩;refine au 0xa4e4e ?_;intro a w h;refine Yv (λa w => ∃X Y E C q t,Y.length<=X.length/\X.length<=1000000000000/\X.length<=C/\Y.length<=t/\Wd X/\Wd Y/\Zw X+Zw Y=U+K/\St 80 S w0 [(4,pB p),(7,.slice E X.length C),(8,.slice q Y.length t)] [(p,.cells (Ke 0).cells 41 (0,0))] [Row E (Xg X),Row q (Xg Y)] a w) ?_ ?_
 ·refine gC h<|au 0x2dbe4be431 ?_;clear h;intro a w h;refine Zb h I (λb=>?_) (λb=>?_)
  ·have hlen:(wds U).length<(wds K).length:=by simpa using b
   refine gC h<|au 0x255443 ?_;clear h;intro a w h;exact⟨wds K,wds U,_,_,_,_,oo,hm,u,y,Wd.wds _,Wd.wds _,by rw[Ja,Ja];omega,tO h⟩
  have hlen:(wds K).length<=(wds U).length:=by simpa using b
  refine wp_skip ?_;exact⟨wds U,wds K,_,_,_,_,oo,v,y,u,Wd.wds _,Wd.wds _,by rw[Ja,Ja],tO h⟩
 clear h;rintro a w ⟨X,Y,E,C,q,t,B,n,Q,W,J,D,V,h⟩;refine gC h<|au 0xbe431 ?_;refine zp (.pN (X.length+1)<|.add I I) ?_;clear h;intro a w h;refine Zc<|Qz h I I runUnderlying266 typeInfo89 sizeOf89 zeroValue89 I dd (by exact aZ _) (by show 4*_<=_;omega) oo dd ?_;clear h;intro k a w h;rw[show(Value.int .u32 0).cells.toList=[Value.int .u32 0] from rfl,A3,show List.replicate (X.length+1) (Value.int .u32 0)=Xg (List.replicate (X.length+1) 0) from by simp] at h;refine gL h<|au 0x443125 ?_;clear h;intro a w h;refine Zc<|VZ h I I (M:=Xg X) ss ss runUnderlying266 sizeOf89 oo dd (dL X) (by repeat(first|exact Upd.head|apply Upd.tail)) ss (XR X) dd ?_;clear h;intro a w h;rw[show X.length+1=(X++[0]).length from by simp] at h;refine gL h<|au 0x824be431125312 ?_;clear h;intro a w h;refine Jl (fun(i:Nat) a w => ∃Z c,i<=Z.length/\Z.length=X.length+1/\Wd Z/\c<=1/\Zw Z+4294967296 ^ i*(c+Zw (Y.drop i))=U+K/\St 80 S w0 [(4,pB p),(8,.slice q Y.length t),(9,.slice (some ⟨k,0,none⟩) Z.length Z.length),(10,.int .u32 (c:Int)),(52,.int .i64 (Z.length:Int)),(53,.int .i64 (i:Int))] [(k,.cells (Xg Z).toArray 89 (0,0)),(p,.cells (Ke 0).cells 41 (0,0))] [Row q (Xg Y)] a w) (λi=>X.length+1-i) (0) (⟨X++[0],0,cX _,by simp,J.append (Wd.zeros 1),oo,by rw[Jy];simp[Zw];omega,(h.factsSub (by simp)).sub (subL ⟨rfl,rfl,rfl,rfl,rfl,rfl,trivial⟩)⟩) ?_;clear h;rintro i a w ⟨Z,c,hi,x,z,hc,hT,h⟩;refine gC h<|au 0x12d31 ?_;intro a w h;refine Zb h I (λg=>?_) (λg=>?_)
 ·have s:i<Z.length:=by simpa using g
  refine gC h<|au 0x253125431817 ?_;clear h;intro a w h;refine Yv (λa w=>St 80 S w0 [(4,pB p),(8,.slice q Y.length t),(9,.slice (some ⟨k,0,none⟩) Z.length Z.length),(10,.int .u32 (c:Int)),(11,.int .i64 (i:Int)),(12,.int .u32 (Y.getD i 0:Int)),(52,.int .i64 (Z.length:Int)),(53,.int .i64 (i:Int))] [(k,.cells (Xg Z).toArray 89 (0,0)),(p,.cells (Ke 0).cells 41 (0,0))] [Row q (Xg Y)] a w) ?_ ?_
  ·refine gC h<|au 0x2dbe4431 ?_;clear h;intro a w h;refine Zb h I (λf=>?_) (λf=>?_)
   ·have r:i<Y.length:=by simpa using f
    obtain ⟨bY,R,A⟩:=h.row_addr (ad:=q) (M:=Xg Y) ss (by simp;intro e;simp[e] at r);subst A;refine gC h<|au 0x2593ffe443 ?_;clear h;intro a w h;exact tO h
   have r:Y.length<=i:=by simpa using f
   refine wp_skip ?_;rw[DN r];exact tO h
  clear h;intro a w h;refine gC h<|au 0xfe44443 ?_;refine zd I mm isAgg89 sizeOf89 ((Zn 0 (by rw[ca];omega)).trans (by rw[ca])) ?_;refine zm I<|zm I<|zv [_,_,_] I call263 (fV _ _ _ (z.getD i) (D.getD i) hc)<|au 0xfebb4 ?_;refine zt' I I ((Jc Z (0+i) ((Z.getD i 0+Y.getD i 0+c)%4294967296)).trans (by rw[ca])) uu sizeOf89 I (by simp;omega) I ?_;refine au 0x24f0f325 ?_;clear h;intro a w h;refine⟨i+1,⟨Z.set i ((Z.getD i 0+Y.getD i 0+c)%4294967296),_,by simp;omega,by simpa using x,z.set _ _ (gF _ dd),?_,N1 s hT,by rw[ea];exact tO h⟩,oo⟩;have hz:=z.getD i;have hy:=D.getD i;omega
 have s:i=Z.length:=by simp at g;omega
 refine wp_exit<|wp_seq<|wp_region_lit ?_;replace h:=h.shareAll T (Xg Z) I;refine gL h<|zm I<|zw [_] I call177 (sf _ _ Z z (aZ _) oo)<|stW I I Zt ?_;refine zn<|zt ?_;clear h;intro a w h;refine Xh h (Zd h I<|rC Qt) ?_;rw[s] at hT;have e:Zw Z=U+K:=rK (N:=Z.length) (c:=c) (by rw[th oo] at hT;simpa [Zw] using hT) (by rw[<-V,x];exact add_lt J D B);rw[e]
theorem Il: (Instr.buildSlice 266 4 [(0,.int .u32 z),(1,.int .u32 r),(2,.int .u32 h5),(3,.int .u32 h6)].toArray).run prog w=.ok (.slice (some ⟨w.heap.size,0,none⟩) 4 4) (w.alloc (.cells #[.int .u32 z,.int .u32 r,.int .u32 h5,.int .u32 h6] 89 (0,0))):=by
 simp[go_sem]
theorem sy(u:(wds U).length<=1000000000000)(hm:(wds K).length<=1000000000000): Jk prog 175 [Ke U,Ke K] (.tuple #[Ke (U-K),.bool (decide (K<=U))]):=by
 refine fnI func175 I ntmps175 λS w0 z=>zS (zx I λD=>zx I λB=>zz zeroValue41 λq=>au 0x5e5e31125 ?_);refine zv [_,_] I call257 (C_Cmp U K oo oo)<|au 0x2d ?_;intro a w h;refine Zb h I (λb=>?_) (λb=>?_)
 ·have j:U<K:=by rw[IC] at b;simpa using b
  refine gC h<|zS<|zp (.build [] I<|NW)<|stW I I Zt ?_;refine au 0x625 ?_;clear h;intro a w h;refine Xh h (Qd h I (rC Qt)<|.tmp I) ?_;rw[show U-K=0 by omega,show decide (K<=U)=false from decide_eq_false oo];rfl
 have hle:K<=U:=by rw[IC] at b;simpa using b
 refine gC h<|au 0x237fd1f95f3117 ?_;clear h;intro a w h;refine Zb h I (λd=>?_) (λd=>?_)
 ·have ha:U<18446744073709551616:=Qx.1 (by simpa using d);refine gC h<|au 0x01f53f01f53f31 ?_;refine zp (aq (v':=.int .u64 ((U-K:Nat):Int)) (.binOp I I (λ_=>G6 _ _ _ _ _)) (by rw[Qk ha,Qk oo,wrap_u64 _ oo oo];congr 1;omega))<|au 0xbaf ?_;refine stW I I Zt ?_;refine au 0x625 ?_;clear h;intro a w h;refine Xh h (Qd h I (rC Qt)<|.tmp I) ?_;rw[decide_eq_true hle,Ke,Qk (by omega:U-K<_),Gp oo]
 have ha:¬U<18446744073709551616:=λu=>by have:=Qx.2 u;simp[this] at d
 refine gC h<|zk<|zs<|yE [0,2,1,3,4,5]<|au 0x51f ?_;clear h;refine au 0x51f ?_;refine Bg I kk (vs:=[_]) I call178 (lc U ha oo) ss dd ?_;rintro v26 t ⟨k,rfl,rfl⟩;refine yf [_] I I call178 (Cd K oo) ?_;rintro v28 v ⟨r,x,rfl,A,rfl⟩;refine au 0x824be43112531a4e4e ?_;intro a w h;refine lpG h [4,7] pkL (λY E (i:Nat) a w => ∃Z c,i<=Z.length/\Z.length=(wds U).length/\Wd Z/\c<=1/\Zw Z+K=U+4294967296 ^ i*(c+Zw ((wds K).drop i))/\St 58 S w0 ((6,.slice (some ⟨k,0,none⟩) Z.length Z.length)::(8,.int .u32 (c:Int))::(30,.int .i64 (Z.length:Int))::(31,.int .i64 (i:Int))::Y) [(k,.cells (Xg Z).toArray 89 (0,0)),(q,.cells (Ke 0).cells 41 (0,0))] E a w) (λi=>(wds U).length-i) (0) (⟨wds U,0,cX _,rfl,Wd.wds U,oo,by simp[Ja],((h.drop<|List.Sublist.cons_cons _<|List.Sublist.cons_cons _<|vl _).factsSub (by simp)).sub sA⟩) ?_;clear h;rintro i a w ⟨Z,c,F,s,o,hc,hT,h⟩;refine gC h<|au 0x12d31 ?_;intro a w h;refine Zb h I (λf=>?_) (λf=>?_)
 ·have l:i<Z.length:=by simpa using f
  refine gC h<|au 0x253125431817 ?_;clear h;intro a w h;refine Yv (λa w=>St 58 S w0 [(4,pB q),(6,.slice (some ⟨k,0,none⟩) Z.length Z.length),(7,.slice r (wds K).length x),(8,.int .u32 (c:Int)),(9,.int .i64 (i:Int)),(10,.int .u32 ((wds K).getD i 0:Int)),(30,.int .i64 (Z.length:Int)),(31,.int .i64 (i:Int))] [(k,.cells (Xg Z).toArray 89 (0,0)),(q,.cells (Ke 0).cells 41 (0,0))] [Row r (Xg<|wds K)] a w) ?_ ?_
  ·refine gC h<|au 0x2dbe4431 ?_;clear h;intro a w h;refine Zb h I (λg=>?_) (λg=>?_)
   ·have j:i<(wds K).length:=by simpa using g
    obtain ⟨C,y,p⟩:=h.row_addr (ad:=r) (M:=Xg (wds K)) ss (by simp;intro e;simp[e] at j);subst p;refine gC h<|au 0x2593ffe443 ?_;clear h;intro a w h;exact tO h
   have j:(wds K).length<=i:=by simpa using g
   refine wp_skip ?_;rw[DN j];exact tO h
  clear h;intro a w h;refine gC h<|au 0xfe44443 ?_;refine zd I mm isAgg89 sizeOf89 ((Zn 0 (by rw[ca];omega)).trans (by rw[ca])) ?_;refine zm I<|zm I<|zv [_,_,_] I call260 (SN _ _ _ (o.getD i) ((Wd.wds K).getD i) hc)<|au 0xfebb4 ?_;refine zt' I I ((Jc Z (0+i) ((Z.getD i 0+8589934592-(wds K).getD i 0-c)%4294967296)).trans (by rw[ca])) uu sizeOf89 I (by simp;omega) I ?_;refine au 0x24f0f325 ?_;clear h;intro a w h;refine⟨i+1,⟨Z.set i ((Z.getD i 0+8589934592-(wds K).getD i 0-c)%4294967296),(if Z.getD i 0<(wds K).getD i 0+c then 1 else 0),by simp;omega,by simpa using s,o.set _ _ (gF _ dd),by split<;>omega,gu l hT (XZ _ _ _ (o.getD i) ((Wd.wds K).getD i) hc),by rw[ea];exact tO h⟩,oo⟩
 have l:i=Z.length:=by simp at f;omega
 refine wp_exit<|wp_seq<|wp_region_lit ?_;replace h:=h.shareAll z (Xg Z) I;refine gL h<|zm I<|zw [_] I call177 (sf _ _ Z o (aZ _) oo)<|stW I I Zt ?_;refine au 0x625 ?_;clear h;intro a w h;refine Xh h (Qd h I (rC Qt)<|.tmp I) ?_;rw[l] at hT;have e:Zw Z=U-K:=by
  refine oa (N:=Z.length) (c:=c) o I hle ?_;rw[th] at hT
  ·simpa [Zw] using hT
  refine uy λhgt=>?_;have:=D9 (n:=U) (m:=K) oo;omega
 rw[e,decide_eq_true hle]
theorem sL(hx:U<18446744073709551616)(c:K<18446744073709551616):
  Jk prog 176 [.int .u64 (U:Int),.int .u64 (K:Int)] (.tuple #[.int .u64 ((U*K/18446744073709551616:Nat):Int),.int .u64 ((U*K%18446744073709551616:Nat):Int)]):=by
 obtain ⟨ht,hw,d⟩:=mul64_hi U K hx c;have e:=Aw (a:=U/4294967296) (b:=K/4294967296) oo oo;have g:=Aw (a:=U/4294967296) (b:=K%4294967296) oo oo;have j:=Aw (a:=U%4294967296) (b:=K/4294967296) oo oo;have i:=Aw (a:=U%4294967296) (b:=K%4294967296) oo oo;refine fnI func176 I ntmps176 λS w0 f=>au 0x43125531 ?_;refine zp (aq (v':=.int .u64 (((U%4294967296):Nat):Int)) (.binOp I I (λ_=>G9 I _ _ _ U 4294967295 hx dd)) (by rw[show(4294967295:Nat)=2 ^ 32-1 from I,uX]))<|au 0x43125 ?_;refine zp (aq (v':=.int .u64 (((U/4294967296):Nat):Int)) (.binOp I I (λ_=>Vw _ _ _ U 32 dd)) (by rfl))<|au 0x43125 ?_;refine zp (aq (v':=.int .u64 (((K%4294967296):Nat):Int)) (.binOp I I (λ_=>G9 I _ _ _ K 4294967295 c dd)) (by rw[show(4294967295:Nat)=2 ^ 32-1 from I,uX]))<|au 0x43125 ?_;refine zp (aq (v':=.int .u64 (((K/4294967296):Nat):Int)) (.binOp I I (λ_=>Vw _ _ _ K 32 dd)) (by rfl))<|au 0x443125 ?_;refine zp (aq (v':=.int .u64 (((U%4294967296)*(K%4294967296):Nat):Int)) (.binOp I I (λ_=>CG _ _ _ _ _)) (by rw[Ae oo]))<|au 0x443125 ?_;refine zp (aq (v':=.int .u64 (((U/4294967296)*(K%4294967296):Nat):Int)) (.binOp I I (λ_=>CG _ _ _ _ _)) (by rw[Ae oo]))<|zm I<|zp (aq (v':=.int .u64 (((U%4294967296)*(K%4294967296)/4294967296:Nat):Int)) (.binOp I I (λ_=>Vw _ _ _ _ 32 dd)) (by rfl))<|zp (aq (v':=.int .u64 ((((U/4294967296)*(K%4294967296)+(U%4294967296)*(K%4294967296)/4294967296):Nat):Int)) (.binOp I I (λ_=>B7 _ _ _ _ _)) (by rw[Gi ht]))<|au 0x43125 ?_;refine zp (aq (v':=.int .u64 ((((U/4294967296)*(K%4294967296)+(U%4294967296)*(K%4294967296)/4294967296)%4294967296:Nat):Int)) (.binOp I I (λ_=>G9 I _ _ _ _ 4294967295 ht dd)) (by rw[show(4294967295:Nat)=2 ^ 32-1 from I,uX]))<|au 0x43125 ?_;refine zp (aq (v':=.int .u64 ((((U/4294967296)*(K%4294967296)+(U%4294967296)*(K%4294967296)/4294967296)/4294967296:Nat):Int)) (.binOp I I (λ_=>Vw _ _ _ _ 32 dd)) (by rfl))<|au 0x4443125 ?_;refine zp (aq (v':=.int .u64 (((U%4294967296)*(K/4294967296):Nat):Int)) (.binOp I I (λ_=>CG _ _ _ _ _)) (by rw[Ae oo]))<|zp (aq (v':=.int .u64 (((((U/4294967296)*(K%4294967296)+(U%4294967296)*(K%4294967296)/4294967296)%4294967296+(U%4294967296)*(K/4294967296)):Nat):Int)) (.binOp I I (λ_=>B7 _ _ _ _ _)) (by rw[Gi hw]))<|au 0x443125 ?_;refine zp (aq (v':=.int .u64 (((U/4294967296)*(K/4294967296):Nat):Int)) (.binOp I I (λ_=>CG _ _ _ _ _)) (by rw[Ae oo]))<|zm I<|zp (aq (v':=.int .u64 (((U/4294967296)*(K/4294967296)+((U/4294967296)*(K%4294967296)+(U%4294967296)*(K%4294967296)/4294967296)/4294967296:Nat):Int)) (.binOp I I (λ_=>B7 _ _ _ _ _)) (by rw[Gi oo]))<|zm I<|zp (aq (v':=.int .u64 (((((U/4294967296)*(K%4294967296)+(U%4294967296)*(K%4294967296)/4294967296)%4294967296+(U%4294967296)*(K/4294967296))/4294967296:Nat):Int)) (.binOp I I (λ_=>Vw _ _ _ _ 32 dd)) (by rfl))<|zp (aq (v':=.int .u64 ((U*K/18446744073709551616:Nat):Int)) (.binOp I I (λ_=>B7 _ _ _ _ _)) (by rw[Gi (by rw[d];exact tJ<|kv hx c),d]))<|au 0x443125 ?_;refine zp (aq (v':=.int .u64 ((U*K%18446744073709551616:Nat):Int)) (.binOp I I (λ_=>CG _ _ _ _ _)) (by rw[<-tD,AC];congr 1))<|au 0x625 ?_;intro a w h;refine Xh h (Qd h I (.tmp I)<|.tmp I) ?_;rfl
theorem sM(v:(wds U).length<=500000000000)(hm:(wds K).length<=500000000000): Jk prog 94 [Ke U,Ke K] (Ke (U*K)):=by
 refine fnI func94 I ntmps94 λS w0 D=>zS (zx I λC=>zx I λB=>zz zeroValue41 λu=>zn ?_);intro a w h;refine Yv (λa w=>St 103 S w0 [(2,pB C),(3,pB B),(4,pB u)] [(u,.cells (Ke 0).cells 41 (0,0)),(B,.cells (Ke K).cells 41 (0,0)),(C,.cells (Ke U).cells 41 (0,0))] [] a w) ?_ ?_
 ·refine gC h<|au 0x437fd1f95f31 ?_;clear h;intro a w h;refine Zi h (λd h=>?_) (λd h=>?_);focus
   have ha:U<18446744073709551616:=Qx.1 (by simpa using d);refine gL h<|zq 18 I I (.fA I Ht)<|ldQ 18 HU ?_;refine zq 18 I I (.binOp I I (λ_=>Is _ _ _ _ _)) ?_;clear h;intro a w h;refine Zi h (λg h=>?_) (λg h=>?_)
   ·have p:K<18446744073709551616:=Qx.1 (by simpa using g);refine gL h<|au 0x01f53f311e23e ?_;clear h;intro a w h;rw[Qk ha] at h;refine gL h<|au 0x01f53f ?_;clear h;intro a w h;rw[Qk p] at h;refine gL h<|zv [_,_] I call176 (sL U K ha p)<|au 0x431255bb4 ?_;refine zp (aq (v':=.int .u32 ((U*K%18446744073709551616%4294967296:Nat):Int)) (.convert I<|Ym _) (by rw[Jf];congr 1))<|au 0xabf4 ?_;refine zp (aq (v':=.int .u32 ((U*K%18446744073709551616/4294967296:Nat):Int)) (.convert I<|Ym _) (by rw[Jf];congr 1;omega))<|zm I<|zp (aq (v':=.int .u32 ((U*K/18446744073709551616%4294967296:Nat):Int)) (.convert I<|Ym _) (by rw[Jf];congr 1))<|au 0xabf4 ?_;refine zp (aq (v':=.int .u32 ((U*K/18446744073709551616/4294967296:Nat):Int)) (.convert I<|Ym _) (by have n:=tJ<|kv ha p;rw[Jf];congr 1;omega)) (zB [(_,_),(_,_),(_,_),(_,_)] I (Il _ _ _ _) λm=>?_);clear h;intro a w h;replace h:=h.shareAll D (Xg [U*K%18446744073709551616%4294967296,U*K%18446744073709551616/4294967296,U*K/18446744073709551616%4294967296,U*K/18446744073709551616/4294967296]) I;refine gL h<|zw [_] I call177 (sf _ _ [U*K%18446744073709551616%4294967296,U*K%18446744073709551616/4294967296,U*K/18446744073709551616%4294967296,U*K/18446744073709551616/4294967296] (by intro x hx;have n:=tJ<|kv ha p;simp at hx;omega) ss ss)<|stW I I Zt ?_;refine zn<|zt ?_;clear h;intro a w h;refine Xh h (Zd h I<|rC Qt) ?_;have e:Zw [U*K%18446744073709551616%4294967296,U*K%18446744073709551616/4294967296,U*K/18446744073709551616%4294967296,U*K/18446744073709551616/4294967296]=U*K:=by simp only[Zw];omega
    rw[e]
   have p:¬K<18446744073709551616:=λv=>by have:=Qx.2 v;simp[this] at g
   refine gL h<|au 0x23e ?_;clear h;intro a w h
  rotate_left;focus
   have ha:¬U<18446744073709551616:=λv=>by have:=Qx.2 v;simp[this] at d
   refine gL h<|zo 18 I I I<|zo 18 I I I<|zo 18 I I I<|au 0x22e ?_;clear h;intro a w h
  all_goals
   refine cW<|Zj h I<|wp_skip ?_;exact tO h
 clear h;intro a w h;refine gC h<|zs<|yE [0,2,1,3,4,5]<|au 0x51f ?_;clear h;refine au 0x51f ?_;refine yf [_] I I call178 (Cd U oo) ?_;rintro v44 G ⟨T,X,rfl,J,rfl⟩;refine yf [_] I I call178 (Cd K oo) ?_;rintro v46 F ⟨O,W,rfl,H,rfl⟩;refine au 0xbe4be431a4e4e ?_;refine zp (.pN ((wds U).length+(wds K).length)<|.add I I) ?_;intro a w h;refine Zc<|Qz h I I runUnderlying266 typeInfo89 sizeOf89 zeroValue89 I dd (by exact aZ _) (by show 4*_<=_;omega) oo dd ?_;clear h;intro l a w h;rw[show(Value.int .u32 0).cells.toList=[Value.int .u32 0] from rfl,A3,show List.replicate ((wds U).length+(wds K).length) (Value.int .u32 0)=Xg (List.replicate ((wds U).length+(wds K).length) 0) from by simp] at h;refine gL h<|au 0x824be431125 ?_;clear h;intro a w h;refine lpG h [4,8,53,54] pkL (λY E (i:Nat) a w=>i<=(wds U).length /\ ∃Z,Z.length=(wds U).length+(wds K).length/\Wd Z/\Zw Z=Zw ((wds U).take i)*Zw (wds K)/\St 103 S w0 ((9,.slice (some ⟨l,0,none⟩) Z.length Z.length)::(55,.int .i64 (i:Int))::Y) [(l,.cells (Xg Z).toArray 89 (0,0)),(u,.cells (Ke 0).cells 41 (0,0))] E a w) (λi=>(wds U).length-i) (0) (⟨cX _,List.replicate ((wds U).length+(wds K).length) 0,by simp,Wd.zeros _,by rw[Ea _ (λx hx=>uc hx)];simp[Zw],by rw[hW];exact((h.drop<|List.Sublist.cons_cons _<|List.Sublist.cons_cons _<|vl _).factsSub (by simp)).sub sA⟩) ?_;clear h;rintro i a w ⟨hi,Z,f,q,t,h⟩;refine gC h<|au 0x12d31 ?_;intro a w h;refine Zb h I (λj=>?_) (λj=>?_)
 ·have o:i<(wds U).length:=by simpa using j
  have r:=o;obtain ⟨bX,N,z⟩:=h.row_addr (ad:=T) (M:=Xg (wds U)) ss (by simp;intro e;simp[e] at r);subst z;refine gC h<|au 0x824be4311253125593ffe431817 ?_;clear h;intro a w h;refine lpG h [4,8,53,54,55,10,11,60,61] pkL (λY E (k:Nat) a w=>k<=(wds K).length /\ ∃Z c,Z.length=(wds U).length+(wds K).length/\Wd Z/\c<4294967296/\Z.getD (i+(wds K).length) 0=0/\Zw Z+4294967296 ^ (i+k)*c+4294967296 ^ (i+k)*((wds U).getD i 0*Zw ((wds K).drop k))=Zw ((wds U).take i)*Zw (wds K)+4294967296 ^ i*((wds U).getD i 0*Zw (wds K))/\St 103 S w0 ((9,.slice (some ⟨l,0,none⟩) Z.length Z.length)::(12,.int .u64 (c:Int))::(62,.int .i64 (k:Int))::Y) [(l,.cells (Xg Z).toArray 89 (0,0)),(u,.cells (Ke 0).cells 41 (0,0))] E a w) (λk=>(wds K).length-k) (0) (⟨cX _,Z,0,f,q,by decide,K6 (Wd.wds U) (Wd.wds K) t (aZ _),by simp[t],h.sub sA⟩) ?_;clear h;clear q t f;rintro k a w ⟨hk,Z,c,f,q,hc,A,hT,h⟩;refine gC h<|au 0x12d31 ?_;intro a w h;refine Zb h I (λb=>?_) (λb=>?_)
  ·have s:k<(wds K).length:=by simpa using b
   have r:=s;obtain ⟨V,P,y⟩:=h.row_addr (ad:=O) (M:=Xg (wds K)) ss (by simp;intro e;simp[e] at r);subst y;have p:=QO ((Wd.wds U).getD i) ((Wd.wds K).getD k) hc (q.getD (i+k));have Q:=(Wd.wds U).getD i;have R:=(Wd.wds K).getD k;have L:=q.getD (i+k);refine gC h<|au 0x03f403f443125593ffe431817 ?_;refine zp (aq (v':=.int .u64 (((wds U).getD i 0*(wds K).getD k 0:Nat):Int)) (.binOp I I (λ_=>CG _ _ _ _ _)) (by rw[Ae oo]))<|au 0x444 ?_;refine zp (.pN (i+k)<|.add I I)<|au 0xfe ?_;refine zd I mm isAgg89 sizeOf89 ((Zn 0 (by rw[ca];omega)).trans (by rw[ca])) ?_;refine au 0x03f ?_;refine zp (aq (v':=.int .u64 (((wds U).getD i 0*(wds K).getD k 0+Z.getD (i+k) 0:Nat):Int)) (.binOp I I (λ_=>B7 _ _ _ _ _)) (by rw[Gi oo]))<|zp (aq (v':=.int .u64 (((c+((wds U).getD i 0*(wds K).getD k 0+Z.getD (i+k) 0)):Nat):Int)) (.binOp I I (λ_=>B7 _ _ _ _ _)) (by rw[Gi p]))<|au 0x4443125 ?_;refine zp (.pN (i+k)<|.add I I)<|zm I<|zp (aq (v':=.int .u32 (((c+((wds U).getD i 0*(wds K).getD k 0+Z.getD (i+k) 0))%4294967296:Nat):Int)) (.convert I<|Ym _) (by rw[Jf];congr 1))<|au 0xfe ?_;refine zt' I I ((Jc Z (0+(i+k)) ((c+((wds U).getD i 0*(wds K).getD k 0+Z.getD (i+k) 0))%4294967296)).trans (by rw[ca])) uu sizeOf89 I (by simp;omega) I ?_;refine zn<|zr<|zm I<|zp (aq (v':=.int .u64 (((c+((wds U).getD i 0*(wds K).getD k 0+Z.getD (i+k) 0))/4294967296:Nat):Int)) (.binOp I I (λ_=>Vw _ _ _ _ 32 dd)) (by rfl))<|au 0x24f0f325 ?_;clear h;intro a w h;exact⟨k+1,⟨oo,Z.set (i+k) ((c+((wds U).getD i 0*(wds K).getD k 0+Z.getD (i+k) 0))%4294967296),_,by simpa using f,q.set _ _ (gF _ dd),tJ p,by rw[JK oo];exact A,iT oo hT,by rw[ea];exact tO h⟩,oo⟩
  have s:k=(wds K).length:=by simp at b;omega
  subst s;refine gC h<|au 0xbe44430e ?_;refine zp (.pN (i+(wds K).length)<|.add I I)<|zm I<|zp (aq (v':=.int .u32 (c:Int)) (.convert I<|Ym _) (by rw[wrap_u32 _ oo oo]))<|au 0xfe ?_;refine zt' I I ((Jc Z (0+(i+(wds K).length)) c).trans (by rw[ca])) uu sizeOf89 I (by simp;omega) I ?_;refine au 0x24f0f32 ?_;clear h;intro a w h;exact⟨i+1,⟨oo,Z.set (i+(wds K).length) c,by simpa using f,q.set _ _ hc,Rw o oo A hT,by rw[ea];exact tO h⟩,oo⟩
 have o:i=(wds U).length:=by simp at j;omega
 refine wp_exit<|wp_seq<|wp_region_lit ?_;replace h:=h.shareAll D (Xg Z) I;refine gL h<|zm I<|zw [_] I call177 (sf _ _ Z q (aZ _) oo)<|stW I I Zt ?_;refine zn<|zt ?_;clear h;intro a w h;refine Xh h (Zd h I<|rC Qt) ?_;rw[o,w9,Ja,Ja] at t;rw[t]
theorem sT(i:K<4294967296)(j:D<4294967296)(k:U<D):
  Jk prog 286 [.int .u32 (U:Int),.int .u32 (K:Int),.int .u32 (D:Int)] (.tuple #[.int .u32 (((U*4294967296+K)/D:Nat):Int),.int .u32 (((U*4294967296+K)%D:Nat):Int)]):=by
 have hq:(U*4294967296+K)/D<4294967296:=IQ k i;have hr:(U*4294967296+K)%D<D:=gF _ oo;refine fnI func286 I ntmps286 λS w0 l=>au 0x471f431125531 ?_;refine bbT (λg=>(by exfalso;have:=iR (b:=0) g;omega)) λg=>zq 11 I I (.move I)<|zq 11 I I (.move I)<|zq 11 I I (.leq I I) (bbF (λf=>(by exfalso;have:=of_decide_eq_true f;omega)) λf=>au 0x03f4317c23e ?_);refine zp (aq (v':=.int .u64 ((U*4294967296:Nat):Int)) (.binOp I I (λ_=>CE _ _ _ U 32 dd)) (by rw[wrap_u64 _ oo oo]))<|au 0x03f4 ?_;refine zp (aq (v':=.int .u64 ((U*4294967296+K:Nat):Int)) (.binOp I I (λ_=>Fv I _ _ _ (U*4294967296) K (by show _<18446744073709551616;omega) (by show _<18446744073709551616;omega))) (by have e:=tj (show K<2 ^ 32 by omega) U;rw[ux] at e;rw[show U*4294967296=U*2 ^ 32 from I, <-e]))<|za I<|zn<|zs<|yE [0,1,2,3,4,5,6,7,8,9,10,11]<|au 0x38f99 ?_;refine yp I (aq (v':=.int .u64 (((U*4294967296+K)/D:Nat):Int)) (.binOp I I (λ_=>ET _ _ _ _ _ oo)) (by rw[CC,Fi (gN hq dd)]))<|yp I (aq (v':=.int .u32 (((U*4294967296+K)/D:Nat):Int)) (.convert I<|Ym _) (by rw[Fj hq]))<|au 0x38f99 ?_;refine yp I (aq (v':=.int .u64 (((U*4294967296+K)%D:Nat):Int)) (.binOp I I (λ_=>Yx _ _ _ _ _ oo)) (by rw[Yw]))<|yp I (aq (v':=.int .u32 (((U*4294967296+K)%D:Nat):Int)) (.convert I<|Ym _) (by rw[Fj (ua hr j)]))<|au 0x6a4e4e ?_;intro a w h;refine Xh h (Qd h I (.tmp I)<|.tmp I) ?_;rfl
theorem rT(n:Wd X)(hl:X.length<=1099511627776)(d:0<a7)(p:a7<4294967296):
  CtrO prog 258 [.slice F X.length D,.int .u32 (a7:Int)] [Row F (Xg X)] (λv m => ∃b Q,v=.tuple #[.slice (some ⟨b,0,none⟩) Q.length Q.length,.int .u32 ((Zw X%a7:Nat):Int)]/\Wd Q/\Q.length=X.length/\Zw Q=Zw X/a7/\m=[(b,.cells (Xg Q).toArray 89 (0,0))]):=by
 refine fn_introO func258 I ntmps258 nb ?_;intro S w0 a t h;refine gC h<|au 0xbe43125531 ?_;clear h;intro a w h;refine Zc<|Qz h I I runUnderlying266 typeInfo89 sizeOf89 zeroValue89 I dd (by exact aZ _) (by show 4*_<=_;omega) oo dd ?_;clear h;intro o a w h;rw[show(Value.int .u32 0).cells.toList=[Value.int .u32 0] from rfl,A3,show List.replicate X.length (Value.int .u32 0)=Xg (List.replicate X.length 0) from by simp] at h;refine gL h<|au 0x82586fbe431125 ?_;clear h;intro a w h;refine lpG h [0,1,4] pkL (λY Z (k:Nat) a w => ∃Q r,k<=X.length/\Q.length=X.length/\Wd Q/\r<a7/\Zw (X.drop k)=Zw (Q.drop k)*a7+r/\St 32 S w0 ((5,.int .u32 (r:Int))::(6,.int .i64 ((k:Int)-1))::Y) [(o,.cells (Xg Q).toArray 89 (0,0))] Z a w) (λk=>k) (X.length) (⟨List.replicate X.length 0,0,aZ _,by simp,Wd.zeros _,d,by simp[Zw],h.sub sA⟩) ?_;clear h;rintro k a w ⟨Q,r,j,g,f,hr,hT,h⟩;refine gC h<|au 0x200f4311 ?_;intro a w h;refine Zb h I (λc=>?_) (λc=>?_)
 ·have hk:0<k:=by simp at c;omega
  have i:0<X.length:=oo;obtain ⟨s,q,l⟩:=h.row_addr (ad:=F) (M:=Xg X) ss (by simp;intro e;simp[e] at i);subst l;refine gC h<|au 0x43817 ?_;refine zp (.pO (k-1)<|.move I)<|zm I<|zm I<|zp (.pO (k-1)<|.move I)<|au 0x493ffe ?_;refine zv [_,_,_] I call286 (sT r (X.getD (k-1) 0) a7 (n.getD _) p hr)<|au 0xfebb4 ?_;refine zt' I I ((Jc Q (0+(k-1)) ((r*4294967296+X.getD (k-1) 0)/a7)).trans (by rw[ca])) uu sizeOf89 I (by simp;omega) I ?_;refine au 0x4325 ?_;refine zp (aq (v':=.int .i64 (((k-1:Nat):Int)-1)) (.sub I I) (by show Value.int _ _=Value.int _ _;congr 1;omega))<|au 0x25 ?_;clear h;intro a w h;exact⟨k-1,⟨Q.set (k-1) ((r*4294967296+X.getD (k-1) 0)/a7),_,oo,by simpa using g,f.set _ _ (IQ hr (n.getD _)),gF _ d,VM hk j g hT,tO h⟩,oo⟩
 have hk:k=0:=by simp at c;omega
 refine gC h<|au 0x625544310e ?_;clear h;intro a w h;subst hk;simp only[List.drop_zero] at hT;rw[<-g] at h;refine HV h (Qd h I (.tmp I)<|.tmp I) ⟨o,Q,?_,f,g,?_,rfl⟩<|fT _
 ·rw[hT,kI,Nat.mul_add_mod,jg hr]
 rw[hT,kI,Nat.mul_add_div d,vj hr,sh]
theorem P8(u:Wd X)(hl:X.length<=1000000000000)(hs:a7<32):
  CtrO prog 288 [.slice F X.length D,.int .i64 (a7:Int)] [Row F (Xg X)] (λv n => ∃b Z,v=.slice (some ⟨b,0,none⟩) Z.length Z.length/\Wd Z/\Z.length=X.length+1/\Zw Z=Zw X*2 ^ a7/\n=[(b,.cells (Xg Z).toArray 89 (0,0))]):=by
 refine fn_introO func288 I ntmps288 nb ?_;intro S w0 a A h;refine gC h<|au 0xbe4312531 ?_;refine zp (.pN (X.length+1)<|.add I I) ?_;clear h;intro a w h;refine Zc<|Qz h I I runUnderlying266 typeInfo89 sizeOf89 zeroValue89 I dd (by exact aZ _) (by show 4*_<=_;omega) oo dd ?_;clear h;intro k a w h;rw[show(Value.int .u32 0).cells.toList=[Value.int .u32 0] from rfl,A3,show List.replicate (X.length+1) (Value.int .u32 0)=Xg (List.replicate (X.length+1) 0) from by simp] at h;refine gL h<|au 0x824be4311253125 ?_;clear h;intro a w h;refine lpG h [0,1,5,13,14] pkL (λY E (i:Nat) a w => ∃Z c,i<=X.length/\Z.length=X.length+1/\Wd Z/\c<2 ^ a7/\(∀j,i<=j->Z.getD j 0=0)/\Zw Z+4294967296 ^ i*c=Zw (X.take i)*2 ^ a7/\St 41 S w0 ((6,.int .u32 (c:Int))::(15,.int .i64 (i:Int))::Y) [(k,.cells (Xg Z).toArray 89 (0,0))] E a w) (λi=>X.length-i) (0) (⟨List.replicate (X.length+1) 0,0,cX _,by simp,Wd.zeros _,tp oo,λj _=>by simp[List.getD,List.getElem?_replicate];split<;>rfl,by rw[Ea _ (λx hx=>uc hx)];simp[Zw],h.sub sA⟩) ?_;clear h;rintro i a w ⟨Z,c,C,d,o,hc,hz,hT,h⟩;refine gC h<|au 0x12d31 ?_;intro a w h;refine Zb h I (λf=>?_) (λf=>?_)
 ·have g:i<X.length:=by simpa using f
  have l:=g;obtain ⟨z,r,m⟩:=h.row_addr (ad:=F) (M:=Xg X) ss (by simp;intro e;simp[e] at l);subst m;have hx:=u.getD i;have p:=YG (X.getD i 0) a7 c hs hc;have t:=YH (X.getD i 0) a7 hs hx;have q:=Tx a7 hs;have B:X.getD i 0*2 ^ a7<=4294967295*2147483648:=ka oo q;refine gC h<|au 0x44443125593ffe431817 ?_;refine zp (aq (v':=.int .u32 ((X.getD i 0*2 ^ a7%4294967296:Nat):Int)) (.binOp I I (λ_=>CE _ _ _ _ a7 (by show a7<=32;omega))) (by rw[Jf];congr 1))<|zm I<|zp (aq (v':=.int .u32 ((X.getD i 0*2 ^ a7%4294967296+c:Nat):Int)) (.binOp I I (λ_=>Fv I _ _ _ _ c (by show _<4294967296;omega) (by show _<4294967296;omega))) (by rw[shl_or _ a7 c hs hc]))<|au 0xfe ?_;refine zt' I I ((Jc Z (0+i) (X.getD i 0*2 ^ a7%4294967296+c)).trans (by rw[ca])) uu sizeOf89 I (by simp;omega) I ?_;refine au 0x403f432 ?_;refine zp (aq (v':=.int .u64 ((X.getD i 0*2 ^ a7:Nat):Int)) (.binOp I I (λ_=>CE _ _ _ _ a7 (by show a7<=64;omega))) (by rw[wrap_u64 _ oo oo]))<|au 0xabf ?_;refine zp (aq (v':=.int .u32 ((X.getD i 0*2 ^ a7/4294967296:Nat):Int)) (.convert I<|Ym _) (by rw[wrap_u32 _ oo oo]))<|au 0x24f0f325 ?_;clear h;intro a w h;exact⟨i+1,⟨Z.set i (X.getD i 0*2 ^ a7%4294967296+c),_,oo,by simpa using d,o.set _ _ p,t,λj hj=>by rw[JK oo];exact hz j oo,VN g d (hz i (aZ _)) hT,tO h⟩,oo⟩
 have g:i=X.length:=by simp at f;omega
 refine gC h<|au 0xfe4be44310e ?_;refine zt' I I ((Jc Z (0+X.length) c).trans (by rw[ca])) uu sizeOf89 I (by simp;omega) I ?_;refine au 0x6254312 ?_;clear h;intro a w h;subst g;have y:=Tx a7 hs;rw[show X.length+1=(Z.set X.length c).length from by simp[d]] at h;refine HV h (Zd h I<|.tmp I) ⟨k,Z.set X.length c,rfl,o.set _ _ oo,by simpa using d,YI d (hz _<|aZ _) hT,rfl⟩<|fT _
theorem ki(a:IntKind.u8.wrap z=z): RN (Go.convert 89 5 (.int .u32 z)) (.int .u8 z):=λw=>by
 rw[J0,a]
theorem cv_5_3: RN (Go.convert 5 3 (.int .u8 z)) (.int .i64 (IntKind.i64.wrap z)):=λw=>by
 simp[go_sem]
theorem NJ(a:IntKind.i64.wrap z=z): RN (Go.convert 5 3 (.int .u8 z)) (.int .i64 z):=λw=>by
 rw[cv_5_3,a]
theorem jh:∀j,j<256->((⟨#[0,1,2,2,3,3,3,3,4,4,4,4,4,4,4,4,5,5,5,5,5,5,5,5,5,5,5,5,5,5,5,5,6,6,6,6,6,6,6,6,6,6,6,6,6,6,6,6,6,6,6,6,6,6,6,6,6,6,6,6,6,6,6,6,7,7,7,7,7,7,7,7,7,7,7,7,7,7,7,7,7,7,7,7,7,7,7,7,7,7,7,7,7,7,7,7,7,7,7,7,7,7,7,7,7,7,7,7,7,7,7,7,7,7,7,7,7,7,7,7,7,7,7,7,7,7,7,7,8,8,8,8,8,8,8,8,8,8,8,8,8,8,8,8,8,8,8,8,8,8,8,8,8,8,8,8,8,8,8,8,8,8,8,8,8,8,8,8,8,8,8,8,8,8,8,8,8,8,8,8,8,8,8,8,8,8,8,8,8,8,8,8,8,8,8,8,8,8,8,8,8,8,8,8,8,8,8,8,8,8,8,8,8,8,8,8,8,8,8,8,8,8,8,8,8,8,8,8,8,8,8,8,8,8,8,8,8,8,8,8,8,8,8,8,8,8,8,8,8,8,8,8,8,8,8,8]⟩:ByteArray).data.toList.getD j 0).toNat=Dg j:=by decide +kernel
theorem sN(hx:U<4294967296): Jk prog 208 [.int .u32 (U:Int)] (.int .i64 (Dg U:Int)):=by
 refine fnI func208 I ntmps208 λS w0 i=>au 0x2531 ?_;intro a w h;refine Yv (λa w => ∃y m:Nat,y<65536/\m<=16/\m+Dg y=Dg U/\St 19 S w0 [(0,.int .u32 (y:Int)),(2,.int .i64 (m:Int))] [] [] a w) ?_ ?_
 ·refine gC h<|au 0x200f431 ?_;clear h;intro a w h;refine Zb h I (λb=>?_) (λb=>?_)
  ·have d:65536<=U:=dT b;refine gC h<|zS<|zm I<|zp (.binOp I I (λ_=>Vw _ _ _ U 16 dd))<|au 0x25325 ?_;clear h;intro a w h;exact⟨U/2 ^ 16,16,oo,by omega,by rw[uP];exact LN (k:=16) oo,tO h⟩
  have d:U<65536:=dF b;refine wp_skip ?_;exact⟨U,0,d,oo,ca _,tO h⟩
 clear h;rintro a w ⟨y,m,g,hm,hl,h⟩;refine Yv (λa w => ∃y m:Nat,y<256/\m<=24/\m+Dg y=Dg U/\St 19 S w0 [(0,.int .u32 (y:Int)),(2,.int .i64 (m:Int))] [] [] a w) ?_ ?_
 ·refine gC h<|au 0x200f431 ?_;clear h;intro a w h;refine Zb h I (λc=>?_) (λc=>?_)
  ·have e:256<=y:=dT c;refine gC h<|zS<|zm I<|zp (.binOp I I (λ_=>Vw _ _ _ y 8 dd))<|au 0x4325 ?_;refine zp (.pN (m+8)<|.add I I)<|au 0x25 ?_;clear h;intro a w h;exact⟨y/2 ^ 8,m+8,oo,by omega,by rw[<-hl,gT,uP 8];congr 1;exact LN (k:=8) oo,tO h⟩
  have e:y<256:=dF c;refine wp_skip ?_;exact⟨y,m,e,oo,hl,tO h⟩
 clear h;rintro a w ⟨z,o,hz,ho,f,h⟩;refine gC h<|au 0x4431 ?_;have hle:Dg z<=8:=Hm hz;refine zp (.convert I<|ki _<|wrap_u8 _ oo oo)<|zp (aq (v':=.int .u8 (Dg z:Int)) (.index I I (λ_=>CJ runUnderlying9 _ _ (by show z<256;exact hz))) (by exact congrArg (λn:Nat=>Value.int .u8 (n:Int))<|jh z hz))<|au 0x7bf ?_;refine zp (aq (v':=.int .i64 (Dg U:Int)) (.add I I) (by show Value.int _ _=Value.int _ _;congr 1;omega))<|za I<|zn<|zt<|rtK I
theorem Im(hx:U<4294967296): Jk prog 287 [.int .u32 (U:Int)] (.int .i64 ((32-Dg U:Nat):Int)):=by
 refine fnI func287 I ntmps287 λS w0 b=>au 0x312531 ?_;intro a w h;have hle:Dg U<=32:=Hm (k:=32) hx;refine gL h<|zm I<|zv [_] I call208 (sN U hx)<|zp (.pO (32-Dg U)<|.sub I I)<|za I<|zn<|zt<|rtK I
theorem C_half(hO:Wd X)(hl:X.length<=1099511627776)(σr:List (Nat×Obj))(Φ:List Zs):
  GX prog 290 [.slice (some ⟨U,0,none⟩) X.length K] ((U,.cells (Xg X).toArray 89 (0,0))::σr) Φ
   (λ_ σ' Φ' => ∃Z,Wd Z/\Z.length=X.length/\Zw Z=Zw X/2/\σ'=(U,.cells (Xg Z).toArray 89 (0,0))::σr/\Φ'=Φ):=by
 refine fn_introM func290 I ntmps290 nb ?_;intro S w0 a w o h;refine gC h<|au 0x824be431 ?_;clear h;intro a w h;refine Jl (fun(i:Nat) a w => ∃Z,i<=X.length/\Z.length=X.length/\Wd Z/\Z.drop i=X.drop i/\2*Zw (Z.take i)+X.getD 0 0%2=Zw (X.take i)+4294967296 ^ i*(X.getD i 0%2)/\St 32 S w0 [(0,.slice (some ⟨U,0,none⟩) X.length K),(3,.slice (some ⟨U,0,none⟩) X.length K),(4,.int .i64 (X.length:Int)),(5,.int .i64 (i:Int))] ((U,.cells (Xg Z).toArray 89 (0,0))::σr) Φ a w) (λi=>X.length-i) (0) (⟨X,cX _,rfl,hO,rfl,by simp[Zw],h.sub sA⟩) ?_;clear h;rintro i a w ⟨Z,p,d,m,hd,hT,h⟩;refine gC h<|au 0x12d31 ?_;intro a w h;refine Zb h I (λg=>?_) (λg=>?_)
 ·have f:i<X.length:=by simpa using g
  have k:=H8 hd (aZ i);have j:=H8 hd (vc i);have l:=hO.getD i;have n:=hO.getD (i+1);refine wp_skip<|cW<|Yv (λa w=>St 32 S w0 [(0,.slice (some ⟨U,0,none⟩) X.length K),(3,.slice (some ⟨U,0,none⟩) X.length K),(4,.int .i64 (X.length:Int)),(5,.int .i64 (i:Int))] ((U,.cells (Xg<|Z.set i (X.getD i 0/2+2147483648*(X.getD (i+1) 0%2))).toArray 89 (0,0))::σr) Φ a w) ?_ ?_
  ·refine gC h<|au 0xfe4431254318 ?_;refine zd I mm isAgg89 sizeOf89 ((Zn 0 (by rw[ca];omega)).trans (by rw[ca,k])) ?_;refine zp (.binOp I I (λ_=>Vw _ _ _ _ 1 dd))<|au 0xfe ?_;refine zt' I I ((Jc Z (0+i)<|X.getD i 0/2 ^ 1).trans (by rw[ca])) uu sizeOf89 I (by simp;omega) I ?_;refine zn<|zS<|zm I<|zp (.pN (i+1)<|.add I I)<|au 0x2dbe4 ?_;clear h;intro a w h;refine Zb h I (λc=>?_) (λc=>?_)
   ·have e:i+1<X.length:=dT c;refine gC h<|yE [0,1,2,3,4,5,6,7,8,9,10,11,12]<|au 0x32f99 ?_;refine yd I I mm isAgg89 sizeOf89 ((Zn 0 (by rw[ca,ea];omega)).trans (by rw[ca,Na oo])) ?_;clear h;refine au 0x99 ?_;refine yp I (.pN (i+1)<|.add I I)<|au 0x32f ?_;refine yd I I mm isAgg89 sizeOf89 ((Zn 0 (by rw[ca,ea];omega)).trans (by rw[ca,JK oo,j])) ?_;refine yp I (aq (v':=.int .u32 ((X.getD (i+1) 0*2 ^ 31%4294967296:Nat):Int)) (.binOp I I (λ_=>CE _ _ _ _ 31 dd)) (by rw[Jf];congr 1))<|yp I (aq (v':=.int .u32 ((X.getD i 0/2+2147483648*(X.getD (i+1) 0%2):Nat):Int)) (.binOp I I (λ_=>Fv I _ _ _ _ _ (by show _<4294967296;omega) (by show _<4294967296;omega))) (by rw[bZ _ _ l]))<|au 0x32f ?_;refine yt I I I ((Jc (Z.set i<|X.getD i 0/2 ^ 1) (0+i) (X.getD i 0/2+2147483648*(X.getD (i+1) 0%2))).trans (by rw[ca,List.set_set])) uu sizeOf89 I (by simp;omega) I ?_;refine yn ?_;intro a w h;exact tO h
   have e:X.length<=i+1:=dF c;refine wp_skip ?_;rw[DN e,show X.getD i 0/2+2147483648*(0%2)=X.getD i 0/2 ^ 1 from rfl];exact tO h
  clear h;intro a w h;refine gC h<|au 0x24f0f3 ?_;clear h;intro a w h;exact⟨i+1,⟨Z.set i (X.getD i 0/2+2147483648*(X.getD (i+1) 0%2)),oo,by simpa using d,m.set _ _ oo,NF hd,cd f d hd hT,tO h⟩,oo⟩
 have f:i=X.length:=by simp at g;omega
 refine wp_exit ?_;subst f;refine XA h (A2 I) ⟨Z,m,d,jH oo d hT,rfl,rfl⟩ (fT _) (λ_ h=>h)
theorem C_less(x:Wd j2)(B:Wd h7)(hl:h7.length<=1000000000000)(o:j2.length=h7.length+1)(u:j4<4294967296)(C:X.length<=1000000000000)(σr:List (Nat×Obj))(Φ:List Zs)(n:Row c4 (Xg h7)∈Φ):
  GX prog 289 [.slice (some ⟨U,X.length,none⟩) (h7.length+1) K,.slice c4 h7.length a7,.int .u64 (j4:Int)] ((U,.cells (Xg (X++j2++j3)).toArray 89 (0,0))::σr) Φ
   (λv σ' Φ' => ∃(W:List Nat) (l:Nat),l<=1/\v=.bool (decide ((l:Int)>0))/\Wd W/\W.length=h7.length+1/\Zw W+j4*Zw h7=Zw j2+4294967296 ^ (h7.length+1)*l /\
    σ'=(U,.cells (Xg (X++W++j3)).toArray 89 (0,0))::σr/\Φ'=Φ):=by
 refine fn_introM func289 I ntmps289 nb ?_;intro S w0 a w F h;refine gC h<|au 0x824be4311255312531 ?_;clear h;intro a w h;refine Jl (fun(i:Nat) a w => ∃(W:List Nat) (c g:Nat),i<=h7.length/\W.length=h7.length+1/\Wd W/\c<4294967296/\g<=1/\Zw W+j4*Zw (h7.take i)=Zw j2+4294967296 ^ i*(c+g)/\St 60 S w0 [(0,.slice (some ⟨U,X.length,none⟩) (h7.length+1) K),(1,.slice c4 h7.length a7),(2,.int .u64 (j4:Int)),(7,.int .u64 (c:Int)),(8,.int .u32 (g:Int)),(12,.slice c4 h7.length a7),(13,.int .i64 (h7.length:Int)),(14,.int .i64 (i:Int))] ((U,.cells (Xg (X++W++j3)).toArray 89 (0,0))::σr) Φ a w) (λi=>h7.length-i) (0) (⟨j2,0,0,cX _,o,x,by decide,by decide,by simp[Zw],h.sub sA⟩) ?_;clear h;rintro i a w ⟨W,c,g,E,m,k,hc,r,hT,h⟩;refine gC h<|au 0x12d31 ?_;intro a w h;refine Zb h I (λd=>?_) (λd=>?_)
 ·have f:i<h7.length:=by simpa using d
  obtain ⟨bV,D,rfl⟩:=h.row_addr n (by simp;intro e;simp[e] at f);have s:=B.getD i;obtain ⟨z,y⟩:=V8 hc u s;have hm:=gF (c+j4*h7.getD i 0) (show 0<4294967296 by decide);refine gC h<|au 0xfe431817 ?_;refine zD I n (by simp;omega) isAgg89 sizeOf89 (Zn 0 oo) (.inr I) ?_;refine au 0x03f44431255 ?_;refine zp (aq (v':=.int .u64 ((j4*h7.getD i 0:Nat):Int)) (.binOp I I (λ_=>CG _ _ _ _ _)) (by rw[Ae oo]))<|zp (aq (v':=.int .u64 ((c+j4*h7.getD i 0:Nat):Int)) (.binOp I I (λ_=>B7 _ _ _ _ _)) (by rw[Gi z]))<|au 0xfe44443125 ?_;refine zd I mm isAgg89 sizeOf89 ((Zn 0 (by simp;omega)).trans (by rw[CX _ _ _ _ oo])) ?_;refine zm I<|zp (aq (v':=.int .u32 (((c+j4*h7.getD i 0)%4294967296:Nat):Int)) (.convert I<|Ym _) (by rw[Jf];congr 1))<|zm I<|zv [_,_,_] I call260 (SN _ _ _ (k.getD i) hm r)<|au 0xfebb4 ?_;refine zt' I I ((Jc (X++W++j3) (X.length+i) ((W.getD i 0+8589934592-(c+j4*h7.getD i 0)%4294967296-g)%4294967296)).trans (by rw[set_mid _ _ _ _ _ oo])) uu sizeOf89 I (by simp;omega) I ?_;refine au 0x4325 ?_;refine zp (aq (v':=.int .u64 (((c+j4*h7.getD i 0)/4294967296:Nat):Int)) (.binOp I I (λ_=>Vw _ _ _ _ 32 dd)) (by rfl))<|au 0x24f0f325 ?_;clear h;intro a w h;exact⟨i+1,⟨W.set i ((W.getD i 0+8589934592-(c+j4*h7.getD i 0)%4294967296-g)%4294967296),_,_,oo,by simpa using m,k.set _ _ (gF _ dd),y,by split<;>omega,aK f oo hT (XZ _ _ _ (k.getD i) hm r),tO h⟩,oo⟩
 have f:i=h7.length:=by simp at d;omega
 refine gC h<|au 0xfe44443125be4310e ?_;refine zd I mm isAgg89 sizeOf89 ((Zn 0 (by simp;omega)).trans (by rw[CX _ _ _ _ oo])) ?_;refine zm I<|zp (aq (v':=.int .u32 (c:Int)) (.convert I<|Ym _) (by rw[Fj hc]))<|zm I<|zv [_,_,_] I call260 (SN _ _ _ (k.getD h7.length) hc r)<|au 0xfebb4 ?_;refine zt' I I ((Jc (X++W++j3) (X.length+h7.length) ((W.getD h7.length 0+8589934592-c-g)%4294967296)).trans (by rw[set_mid _ _ _ _ _ oo])) uu sizeOf89 I (by simp;omega) I ?_;refine au 0x625c0f43125 ?_;clear h;intro a w h;subst f;refine retM h (Zd h I<|.tmp I) ⟨W.set h7.length ((W.getD h7.length 0+8589934592-c-g)%4294967296),_,?_,rfl,k.set _ _ (gF _ dd),by simpa using m,jc oo hT (XZ _ _ _ (k.getD _) hc r),rfl,rfl⟩ (fT _) (λ_ h=>h);split<;>omega
theorem oh(h1:b4<=h8)(e:h8<=A)(f:b4<A): RN (Instr.sliceAt 266 (.slice (some ⟨U,K,none⟩) D A) (some (.int .i64 (b4:Int))) (some (.int .i64 (h8:Int))) none) (.slice (some ⟨U,K+b4,none⟩) (h8-b4) (A-b4)):=λw=>by
 simpa using VJ runUnderlying266 sizeOf89 U K D A b4 h8 h1 e f w
theorem C_long(hX:Wd X)(hY:Wd h7)(hm:X.length<=500000000000)(l9:2<=h7.length)(l8:h7.length<=X.length)(t:h7.getD (h7.length-1) 0≠0):
  Ctr prog 259 [.slice F X.length D,.slice c4 h7.length a7] [Row F (Xg X),Row c4 (Xg h7)]
   (λv Ψ => ∃a1 c1 a2 c2 Q R,v=.tuple #[.slice a1 Q.length c1,.slice a2 R.length c2]/\Wd Q/\Wd R/\Q.length<=c1/\R.length<=c2/\Q.length<=X.length+1/\R.length<=X.length+1/\Zw Q=Zw X/Zw h7/\Zw R=Zw X%Zw h7/\Ψ=[Row a1 (Xg Q),Row a2 (Xg R)]):=by
 obtain ⟨e,he⟩:∃e,h7.length=e+2:=⟨h7.length-2,oo⟩
 rw[show h7.length-1=e+1 by omega] at t;refine fnI func259 I ntmps259 λS w0 hS=>au 0x3125531 ?_;intro a w h;have h8:0<h7.length:=oo;obtain ⟨bY,l2,h4⟩:=h.row_addr (ad:=c4) (M:=Xg h7) ss (by simp;intro e;simp[e] at h8);subst h4;refine gL h<|au 0xbe44 ?_;refine zp (.pQ (e+1)<|.sub I I)<|au 0x93ffe ?_;refine zv [_] I call287 (Im _<|hY.getD _) ?_;clear h;intro a w h;obtain ⟨hs,c6,h3⟩:=ar (last:=h7.getD (e+1) 0) t (hY.getD _) rfl;generalize 32-Dg (h7.getD (e+1) 0)=s at h hs c6 h3;refine gL h<|za I<|zn<|zs<|yE [0,1,3,4,6,7,2,5,8,9,10]<|au 0x99999 ?_;refine yp I (.builtin [_] I<|A6 _ _ _) ?_;clear h;refine Bg I kk (vs:=[_,_]) I call288 (P8 F D X s hX oo hs) ss dd ?_;rintro v26 j6 ⟨b,m,rfl,h9,k8,b4,rfl⟩;refine Bg I kk (vs:=[_,_]) I call288 (P8 _ a7 h7 s hY oo hs) ss dd ?_;rintro l3 k6 ⟨d,C,rfl,e2,j8,e3,rfl⟩;refine yp I (.slice I none (some _) none I I I<|YD _ _ _ _ oo)<|au 0x31a4e4e ?_;intro a w h;replace h:=h.shareAll hS (Xg C) I;replace h:=h.derive (R:=Row (some ⟨d,0,none⟩) (Xg (C.take h7.length))) (λX hX=>by rw[Xg,wv];exact Fz (hX _ ae) _);obtain ⟨n2,e1⟩:=OY hY he hs c6 h3 e2 e3;have h2:(C.take h7.length).length=h7.length:=by simp;omega
 have hV:Wd (C.take h7.length):=e2.take _;generalize l7:C.take h7.length=V at h n2 e1 h2 hV;rw[<-h2] at h;have l6:V.length=e+2:=oo;have e7:4294967296 ^ (V.length-1)<=Zw h7:=by
  have h1:=Jg h7 (e+1) oo;rw[show e+1+1=h7.length by omega,w9] at h1;rw[show V.length-1=e+1 by omega,h1];have:=hD (4294967296 ^ (e+1)) (tb t);omega
 obtain ⟨M,hM⟩:∃M,m.length=M+V.length:=⟨m.length-V.length,oo⟩
 refine gL h<|zm I<|zp (aq (v':=.int .i64 (V.length:Int)) (.builtin [_] I<|A6 _ _ _) (by rfl))<|au 0x4be43125 ?_;refine zp (.pQ M<|.sub I I) ?_;clear h;intro a w h;refine Zc<|Qz h I I runUnderlying266 typeInfo89 sizeOf89 zeroValue89 I dd (by exact aZ _) (by show 4*_<=_;omega) oo dd ?_;clear h;intro f a w h;rw[show(Value.int .u32 0).cells.toList=[Value.int .u32 0] from rfl,A3,show List.replicate M (Value.int .u32 0)=Xg (List.replicate M 0) from by simp] at h;refine gL h<|au 0x82586fbe431125 ?_;clear h;intro a w h;refine Jl (fun(Y:Nat) a w => ∃(Z Q:List Nat),Y<=M/\Z.length=m.length/\Wd Z/\Q.length=M/\Wd Q/\Zw Z+4294967296 ^ Y*(Zw V*Zw (Q.drop Y))=Zw m/\Zw (Z.drop Y)<Zw V/\St 175 S w0 [(4,.slice (some ⟨f,0,none⟩) M M),(6,.int .i64 (s:Int)),(7,.slice (some ⟨b,0,none⟩) m.length m.length),(8,.slice (some ⟨d,0,none⟩) V.length C.length),(9,.int .i64 (V.length:Int)),(10,.int .i64 ((Y:Int)-1))] [(b,.cells (Xg Z).toArray 89 (0,0)),(f,.cells (Xg Q).toArray 89 (0,0))] [Row (some ⟨d,0,none⟩) (Xg V)] a w) (λY=>Y) (M) (⟨m,List.replicate M 0,aZ _,rfl,h9,by simp,Wd.zeros _,by simp[Zw],by rw[n2];exact V6 hX b4 e7 oo oo,((h.perm<|List.Perm.swap _ _ _).factsSub (by simp)).sub (subL ⟨rfl,rfl,rfl,rfl,rfl,rfl,trivial⟩)⟩) ?_;clear h;rintro Y a w ⟨Z,Q,l5,c3,hZ,c8,hQ,hT,hR,h⟩;refine gC h<|au 0x200f4311 ?_;intro a w h;refine Zb h I (λH=>?_) (λH=>?_)
 ·have a6:0<Y:=by simp at H;omega
  obtain ⟨p,W,hh,rfl,hp,j4,j2,k4,j5,i7,b7⟩:=RF (k:=Y-1) (n:=V.length) hZ oo (Vu hV) (by rw[tF a6];exact hR);obtain rfl:Y=p.length+1:=oo;have A:=XN (l:=W) (e:=e) oo;have N:=Oh (l:=V) (e:=e) oo;have e5:=Vt k4 e;have c5:=Vt hV e;have k9:=k4.getD (e+2);have h5:=k4.getD (e+1);have e6:=k4.getD e;have j9:=hV.getD (e+1);have z:=hV.getD e;refine gC h<|zk<|zs<|zb<|zc<|zs<|yE [0,1,2,3,4,5,6,7,8,9,10,11,12,13,14,15,16,17]<|au 0x9 ?_;refine yp I (.pQ p.length<|.move I)<|au 0x9 ?_;refine yp I (.pQ (p.length+(e+2))<|.add I I)<|au 0x32f ?_;refine yd I I mm isAgg89 sizeOf89 ((Zn 0 (by simp;omega)).trans (by rw[ca,CX _ _ _ _ oo])) ?_;clear h;refine au 0x38f ?_;refine yp I (aq (v':=.int .u64 ((W.getD (e+2) 0*4294967296:Nat):Int)) (.binOp I I (λ_=>CE _ _ _ _ 32 dd)) (by rw[wrap_u64 _ oo oo]))<|au 0x9 ?_;refine yp I (.pQ p.length<|.move I)<|au 0x9 ?_;refine yp I (.pQ (p.length+(e+2))<|.add I I)<|yp I (.pQ (p.length+(e+1))<|.sub I I)<|au 0x32f ?_;refine yd I I mm isAgg89 sizeOf89 ((Zn 0 (by simp;omega)).trans (by rw[ca,CX _ _ _ _ oo])) ?_;refine au 0x38f ?_;refine yp I (aq (v':=.int .u64 ((4294967296*W.getD (e+2) 0+W.getD (e+1) 0:Nat):Int)) (.binOp I I (λ_=>Fv I _ _ _ _ _ (by show _<18446744073709551616;omega) (by show _<18446744073709551616;omega))) (by rw[or_hi _ _ h5]))<|au 0x4e ?_;have e9:4294967296*W.getD (e+2) 0+W.getD (e+1) 0<18446744073709551616:=oo;have a8:=top_lt A N z c5 b7;generalize j7:4294967296*W.getD (e+2) 0+W.getD (e+1) 0=top at A e9 a8 ⊢;refine yn<|zs<|yE [0,1,2,3,4,5,6,7,8,9,10,11,12,13,14,15,16,17]<|au 0x999 ?_;refine yp I (.pQ (e+1)<|.sub I I)<|au 0x32f ?_;refine Zf I kk I mm (by simp;omega) isAgg89 sizeOf89 (Zn 0 oo) (.inr I) dd ?_;refine au 0x38f ?_;refine yp I (aq (v':=.int .u64 ((top/V.getD (e+1) 0:Nat):Int)) (.binOp I I (λ_=>ET _ _ _ _ _ oo)) (by rw[CC,Fi (gO (tQ _ _) e9)]))<|au 0x999 ?_;refine yp I (.pQ (e+1)<|.sub I I)<|au 0x32f ?_;refine Zf I kk I mm (by simp;omega) isAgg89 sizeOf89 (Zn 0 oo) (.inr I) dd ?_;refine au 0x38f ?_;refine yp I (aq (v':=.int .u64 ((top%V.getD (e+1) 0:Nat):Int)) (.binOp I I (λ_=>Yx _ _ _ _ _ oo)) (by rw[Yw]))<|au 0x1a4e4e ?_;refine zl ?_;intro a w h;refine Yv (λa w => ∃dg:Nat,dg<4294967296/\dg*Zw V<=Zw W+Zw V/\Zw W<(dg+1)*Zw V/\St 175 S w0 [(4,.slice (some ⟨f,0,none⟩) M M),(6,.int .i64 (s:Int)),(7,.slice (some ⟨b,0,none⟩) m.length m.length),(8,.slice (some ⟨d,0,none⟩) V.length C.length),(9,.int .i64 (V.length:Int)),(10,.int .i64 (((p.length+1:Nat):Int)-1)),(12,.int .u64 (dg:Int))] [(b,.cells (Xg (p++W++hh)).toArray 89 (0,0)),(f,.cells (Xg Q).toArray 89 (0,0))] [Row (some ⟨d,0,none⟩) (Xg V)] a w) ?_ ?_
  ·refine wp_block ?_;refine Jl (fun(dg:Nat) a w => ∃rest:Nat,dg*V.getD (e+1) 0+rest=top/\Zw W<(dg+1)*Zw V/\rest<8589934592/\St 175 S w0 [(4,.slice (some ⟨f,0,none⟩) M M),(6,.int .i64 (s:Int)),(7,.slice (some ⟨b,0,none⟩) m.length m.length),(8,.slice (some ⟨d,0,none⟩) V.length C.length),(9,.int .i64 (V.length:Int)),(10,.int .i64 (((p.length+1:Nat):Int)-1)),(12,.int .u64 (dg:Int)),(13,.int .u64 (rest:Int))] [(b,.cells (Xg (p++W++hh)).toArray 89 (0,0)),(f,.cells (Xg Q).toArray 89 (0,0))] [Row (some ⟨d,0,none⟩) (Xg V)] a w) (λdg=>dg) (top/V.getD (e+1) 0) (⟨top%V.getD (e+1) 0,by rw[kI];exact tY _ _,Wq A N e6 e5 oo,ua (gF _ oo) oo,h.sub sA⟩) ?_;clear h;rintro dg a w ⟨rest,B,K,h6,h⟩;have j1:=kf B a8 e1;refine gC h<|zs<|zS<|zm I<|zp (.leq I I)<|zn ?_;intro a w h;refine Zb h I (λE=>?_) (λE=>?_)
   ·have hr:rest<4294967296:=dT E;refine gC h<|zk<|zb<|zs<|zs<|yE [0,1,2,3,4,5,6,7,8,9,10,11,12,13,14,15,16,17,18,19,20,21,22,23]<|au 0x9 ?_;refine yp I (.leq I I)<|au 0x9 ?_;clear h;refine Jn (λP  =>?_) (λP  =>?_);focus
     have g:dg<4294967296:=dT P;have hmul:=Aw g z;refine au 0xd4fd4fd4f ?_;refine yq I I I (.pQ e<|.sub I I)<|yq I I I (.indexAddr I I<|LR _ _ _ _ _ oo) ?_;refine Ki I I I kk I mm (by simp;omega) isAgg89 sizeOf89 (Zn 0 oo) (.inr I) dd ?_;refine yq I I I (.convert I<|GI _<|wrap_u64 _ oo oo)<|yq I I I (aq (v':=.int .u64 ((dg*V.getD e 0:Nat):Int)) (.binOp I I (λ_=>CG _ _ _ _ _)) (by rw[Ae oo]))<|au 0xd4f ?_;refine yq I I I (aq (v':=.int .u64 ((rest*4294967296:Nat):Int)) (.binOp I I (λ_=>CE _ _ _ _ 32 dd)) (by rw[wrap_u64 _ oo oo]))<|au 0xd4f ?_;refine yq I I I (.pQ p.length<|.move I)<|au 0xd4f ?_;refine yq I I I (.pQ (p.length+(e+2))<|.add I I)<|yq I I I (.pQ (p.length+e)<|.sub I I)<|yq I I I (.indexAddr I I<|LR _ _ _ _ _ oo)<|yg I I I I mm isAgg89 sizeOf89 ((Zn 0 (by simp;omega)).trans (by rw[ca,CX _ _ _ _ oo])) ?_;refine yq I I I (.convert I<|GI _<|wrap_u64 _ oo oo)<|yq I I I (aq (v':=.int .u64 ((4294967296*rest+W.getD e 0:Nat):Int)) (.binOp I I (λ_=>Fv I _ _ _ _ _ (by show _<18446744073709551616;omega) (by show _<18446744073709551616;omega))) (by rw[or_hi _ _ e6]))<|yq I I I (.leq I I) ?_;refine Jn (λo  =>?_) (λo  =>?_)
     ·have hle:dg*V.getD e 0<=4294967296*rest+W.getD e 0:=by have:=of_decide_eq_true o;exact_mod_cast this
      refine au 0xa76f ?_;intro a w h;refine Qq h I ?_;refine wp_exit ?_;exact⟨dg,g,Pm A N oo z c5 B oo (.inr hle),K,tO h⟩
     have O:4294967296<=dg\/4294967296*rest+W.getD e 0<dg*V.getD e 0:=.inr (by have:=of_decide_eq_false o;exact vT λhh=>this (by exact_mod_cast hh));refine au 0xa76f ?_;intro a w h
    rotate_left;focus
     have O:4294967296<=dg\/4294967296*rest+W.getD e 0<dg*V.getD e 0:=.inl (dF P);refine au 0xaf4f61f61f61f61f61f61f61f61f61f61f61f61f61f61f61f61f61f61f61f61f ?_;intro a w h
    all_goals
     refine cW<|Zj h I<|wp_skip<|wp_seq<|wp_region_lit ?_;have J:=cg A N e5 B b7 O;have L:0<dg:=tb λh0=>by subst h0;simp at J
     refine gL h<|zm I<|zp (aq (v':=.int .u64 ((dg-1:Nat):Int)) (.binOp I I (λ_=>G6 _ _ _ _ _)) (by rw[wrap_u64 _ oo oo];congr 1;omega))<|au 0x444325 ?_;refine zp (.pQ (e+1)<|.sub I I)<|au 0x03f93ffe ?_;refine zp (aq (v':=.int .u64 ((rest+V.getD (e+1) 0:Nat):Int)) (.binOp I I (λ_=>B7 _ _ _ _ _)) (by rw[Gi oo]))<|au 0x25 ?_;clear h;intro a w h;exact⟨dg-1,⟨rest+V.getD (e+1) 0,Wp B L,by rw[tF L];exact J,oo,tO h⟩,oo⟩
   have hr:4294967296<=rest:=dF E;refine wp_exit ?_;have g:=So B a8 hr;exact⟨dg,g,Pm A N oo z c5 B oo (.inl hr),K,tO h⟩
  clear h;rintro a w ⟨dg,g,b5,K,h⟩;refine Yv (λa w => ∃(W3:List Nat) (dg:Nat),dg<4294967296/\Wd W3/\W3.length=V.length+1/\Zw W3+dg*Zw V=Zw W/\Zw W3<Zw V/\St 175 S w0 [(4,.slice (some ⟨f,0,none⟩) M M),(6,.int .i64 (s:Int)),(7,.slice (some ⟨b,0,none⟩) m.length m.length),(8,.slice (some ⟨d,0,none⟩) V.length C.length),(9,.int .i64 (V.length:Int)),(10,.int .i64 (((p.length+1:Nat):Int)-1)),(12,.int .u64 (dg:Int))] [(b,.cells (Xg (p++W3++hh)).toArray 89 (0,0)),(f,.cells (Xg Q).toArray 89 (0,0))] [Row (some ⟨d,0,none⟩) (Xg V)] a w) ?_ ?_
  ·refine gC h<|zS<|zm I<|zp (.pQ p.length<|.move I)<|zp (.pQ p.length<|.move I)<|zm I<|zp (.pQ (p.length+V.length)<|.add I I)<|zp (.pQ (p.length+V.length+1)<|.add I I)<|zp (aq (v':=.slice (some ⟨b,p.length,none⟩) (V.length+1) (m.length-p.length)) (.slice I (some _) (some _) none I I I<|oh _ _ _ _ _ _ oo oo oo) (by rw[ca,show p.length+V.length+1-p.length=V.length+1 by omega]))<|au 0x44 ?_;clear h;intro a w h;refine Zc<|Vb h hS (vs:=[_,_,_]) I call289 (C_less b (m.length-p.length) p W hh (some ⟨d,0,none⟩) C.length V dg k4 hV oo j4 g oo [(f,.cells (Xg Q).toArray 89 (0,0))] [Row (some ⟨d,0,none⟩) (Xg V)] ae) (cr _) ss ss ?_;clear h;rintro k7 j3 i1 a w ⟨W1,l,hl,rfl,b1,y,b3,rfl,rfl⟩ h;refine wpList_nil<|cW<|Zb h I (λx=>?_) (λx=>?_)
   ·have b8:0<l:=dT x;have j:=Vu b1;rw[y] at j;have L:0<dg:=tb λe0=>by
     subst e0;obtain rfl:l=1:=oo;omega
    refine gC h<|zS<|zm I<|zp (aq (v':=.int .u64 ((dg-1:Nat):Int)) (.binOp I I (λ_=>G6 _ _ _ _ _)) (by rw[wrap_u64 _ oo oo];congr 1;omega))<|au 0x824be4311253125 ?_;clear h;intro a w h;refine Jl (fun(i:Nat) a w => ∃(r:List Nat) (c:Nat),i<=V.length/\r.length=V.length+1/\Wd r/\c<=1/\Zw r+4294967296 ^ i*(c+Zw (V.drop i))=Zw W1+Zw V/\St 175 S w0 [(4,.slice (some ⟨f,0,none⟩) M M),(6,.int .i64 (s:Int)),(7,.slice (some ⟨b,0,none⟩) m.length m.length),(8,.slice (some ⟨d,0,none⟩) V.length C.length),(9,.int .i64 (V.length:Int)),(10,.int .i64 (((p.length+1:Nat):Int)-1)),(12,.int .u64 ((dg-1:Nat):Int)),(14,.int .u32 (c:Int)),(128,.slice (some ⟨d,0,none⟩) V.length C.length),(129,.int .i64 (V.length:Int)),(130,.int .i64 (i:Int))] [(b,.cells (Xg (p++r++hh)).toArray 89 (0,0)),(f,.cells (Xg Q).toArray 89 (0,0))] [Row (some ⟨d,0,none⟩) (Xg V)] a w) (λi=>V.length-i) (0) (⟨W1,0,cX _,y,b1,by decide,by simp,h.sub sA⟩) ?_;clear h;rintro i a w ⟨r,c,hi,U,b0,hc,c7,h⟩;refine gC h<|au 0x12d31 ?_;intro a w h;refine Zb h I (λq=>?_) (λq=>?_)
    ·have k3:i<V.length:=by simpa using q
     refine gC h<|au 0x4325593ffe431817 ?_;refine zp (.pQ p.length<|.move I)<|zm I<|zp (.pQ (p.length+i)<|.add I I)<|zm I<|zp (.pQ p.length<|.move I)<|zm I<|zp (.pQ (p.length+i)<|.add I I)<|au 0xfe ?_;refine zd I mm isAgg89 sizeOf89 ((Zn 0 (by simp;omega)).trans (by rw[ca,CX _ _ _ _ oo])) ?_;refine zm I<|zm I<|zv [_,_,_] I call263 (fV _ _ _ (b0.getD i) (hV.getD i) hc)<|au 0xfebb4 ?_;refine zt' I I ((Jc (p++r++hh) (0+(p.length+i)) ((r.getD i 0+V.getD i 0+c)%4294967296)).trans (by rw[ca,set_mid _ _ _ _ _ oo])) uu sizeOf89 I (by simp;omega) I ?_;refine au 0x24f0f325 ?_;clear h;intro a w h;refine⟨i+1,⟨r.set i ((r.getD i 0+V.getD i 0+c)%4294967296),_,oo,by simpa using U,b0.set _ _ (gF _ dd),?_,N1 oo c7,tO h⟩,oo⟩;have hz:=b0.getD i;have hy:=hV.getD i;omega
    have k3:i=V.length:=by simp at q;omega
    subst k3;refine gC h<|ze<|zr<|zm I<|zp (.pQ p.length<|.move I)<|zm I<|zp (.pQ (p.length+V.length)<|.add I I)<|au 0xfe ?_;refine zd I mm isAgg89 sizeOf89 ((Zn 0 (by simp;omega)).trans (by rw[ca,CX _ _ _ _ oo])) ?_;refine zm I<|zp (aq (v':=.int .u32 ((((r.getD V.length 0+c)%4294967296):Nat):Int)) (.binOp I I (λ_=>B7 _ _ _ _ _)) (by rw[Jf];congr 1))<|au 0xfe ?_;refine zt' I I ((Jc (p++r++hh) (0+(p.length+V.length)) ((r.getD V.length 0+c)%4294967296)).trans (by rw[ca,set_mid _ _ _ _ _ oo])) uu sizeOf89 I (by simp;omega) I ?_;clear h;intro a w h;refine wpList_nil ?_;have b9:=N1 (Z:=r) (Y:=V) (i:=V.length) oo c7;rw[DN (aZ V.length),sh,th (by omega:V.length<=V.length+1)] at b9;simp only[Zw,sh] at b9;have b2:Wd (r.set V.length ((r.getD V.length 0+c)%4294967296)):=b0.set _ _ (gF _ dd);have b6:=Vu b2;rw[ea,U] at b6;obtain ⟨_,T,G⟩:=Wh b3 hl j b5 (tI (gN (Vu hV) (js dd (vc _)))) b8 b9 b6;exact⟨_,dg-1,oo,b2,by rw[ea,U],T,G,tO h⟩
   have b8:¬0<l:=dF x;have j:=Vu b1;rw[y] at j;refine wp_skip ?_;obtain ⟨T,G⟩:=jm b3 j hl K b8;exact⟨W1,dg,g,b1,y,T,G,tO h⟩
  clear h;clear g b5 K;rintro a w ⟨W3,dg,g,b2,k5,T,G,h⟩;refine gC h<|zr<|zm I<|zp (.pQ p.length<|.move I)<|zm I<|zp (aq (v':=.int .u32 (dg:Int)) (.convert I<|Ym _) (by rw[Fj g]))<|au 0xfe ?_;refine zt' I I ((Jc Q (0+p.length) dg).trans (by rw[ca])) uu sizeOf89 I (by simp;omega) I ?_;refine zn<|zr<|zp (.pQ p.length<|.move I)<|au 0x2586f ?_;clear h;intro a w h;exact⟨p.length,⟨p++W3++hh,Q.set p.length dg,oo,by simp at c3 ⊢;omega,(j2.append b2).append j5,by simpa using c8,hQ.set _ _ g,am oo oo hT T,ao i7 G,tO h⟩,oo⟩
 have a6:Y=0:=by simp at H;omega
 subst a6;refine gC h<|au 0x82443110e ?_;clear h;intro a w h;refine Jl (fun(i:Nat) a w => ∃R:List Nat,i<=s/\Wd R/\R.length=m.length/\Zw R=Zw Z/2 ^ i/\St 175 S w0 [(4,.slice (some ⟨f,0,none⟩) M M),(6,.int .i64 (s:Int)),(7,.slice (some ⟨b,0,none⟩) R.length m.length),(167,.int .i64 (s:Int)),(168,.int .i64 (i:Int))] [(b,.cells (Xg R).toArray 89 (0,0)),(f,.cells (Xg Q).toArray 89 (0,0))] [Row (some ⟨d,0,none⟩) (Xg V)] a w) (λi=>s-i) (0) (⟨Z,cX _,hZ,c3,by simp,by rw[c3];exact h.sub sA⟩) ?_;clear h;rintro i a w ⟨R,hi,hR,l4,e8,h⟩;refine gC h<|au 0x12d31 ?_;intro a w h;refine Zb h I (λu=>?_) (λu=>?_)
 ·have k3:i<s:=by simpa using u
  refine gC h<|au 0x43817 ?_;clear h;intro a w h;refine Zc<|Vb h hS (vs:=[_]) I call290 (C_half b m.length R hR oo [(f,.cells (Xg Q).toArray 89 (0,0))] [Row (some ⟨d,0,none⟩) (Xg V)]) (cr _) ss ss ?_;clear h;rintro v171 i6 n3 a w ⟨R2,j0,e4,c9,rfl,rfl⟩ h;refine gL h<|au 0x24f0f32 ?_;clear h;intro a w h;exact⟨i+1,⟨R2,oo,j0,oo,by rw[c9,e8,Nat.div_div_eq_div_mul, <-iX],by rw[e4];exact tO h⟩,oo⟩
 have k3:i=s:=by simp at u;omega
 refine gC h<|au 0x625544310e ?_;clear h;intro a w h;subst k3;simp only[List.drop_zero,Nat.pow_zero,tt] at hT hR;obtain ⟨hq,hr⟩:=V7 (hT.trans b4) ‹Zw Z<Zw V› n2;replace h:=h.shareAll hS (Xg R) I;replace h:=h.shareAll hS (Xg Q) I;rw[<-c8] at h;refine Qj (Ψ:=[Row (some ⟨f,0,none⟩) (Xg Q),Row (some ⟨b,0,none⟩) (Xg R)]) h (Qd h I (.tmp I)<|.tmp I) ⟨_,_,_,_,Q,R,rfl,hQ, ‹Wd R›,oo,by omega,oo,by omega,hq,by rw[e8,hr],rfl⟩ ss
theorem XK(h:J≠0): (wds J).getD ((wds J).length-1) 0≠0:=by
 have a:wds J≠[]:=λe=>h (by rw[<-Ja J,e];rfl);have:=Io J a;rw[wD] at this;have hl:(wds J).length-1<(wds J).length:=by have:=List.length_pos_iff.2 a;omega
 simpa [List.getD,hl] using this
theorem QP(h:J≠0): 0<(wds J).length:=List.length_pos_iff.2 λe=>h (by rw[<-Ja J,e];rfl)
theorem Ys(h:J<=O): (wds J).length<=(wds O).length:=uy λhl=>by have:=D9 hl;omega
theorem nR(h:(wds J).length=1): (wds J).getD 0 0=J:=by
 have e:=Ja J
 match hw:wds J,h with
 | [x],_=>rw[hw] at e;simpa [Zw] using e
theorem sU(C:(wds U).length<=500000000000)(hm:(wds K).length<=500000000000)(u:K≠0): Jk prog 174 [Ke U,Ke K] (.tuple #[Ke (U/K),Ke (U%K),.bool true]):=by
 refine fnI func174 I ntmps174 λS w0 W=>zS (zx I λb2=>zx I λb3=>zz zeroValue41 λb4=>zz zeroValue41 λY=>au 0x5e318125 ?_);refine zv [_] I call256 (nw K)<|za I<|zn (kV I (λj=>(by exfalso;exact u<|of_decide_eq_true j)) λj=>au 0x5e5e31 ?_);refine zv [_,_] I call257 (C_Cmp U K oo oo)<|au 0x25d ?_;intro a w h;refine Zb h I (λc=>?_) (λc=>?_)
 ·have i:U<K:=by rw[IC] at c;exact of_decide_eq_true c
  refine gC h<|zs<|yE [0,1,2,3,4]<|yp I (.build [] I<|NW) ?_;clear h;refine Jd [4] I kk I mr isAgg41 sizeOf41 Qt (λa w p d=>by intro t ht;simp only[cZ,cf,or_false] at ht;rcases ht with rfl<;>exact⟨_,rfl,by have h1:=(List.pairwise_append.1 d.nd).2.1;simp at h1;dsimp only;omega⟩) dd ?_;refine stV I I I Zt ?_;refine stV I I I Zt ?_;refine au 0x6a4e ?_;intro a w h;refine Xh h (BM h I (rC Qt) (rC Qt)<|.tmp I) ?_;rw[vj i,jg i];rfl
 have hle:K<=U:=by rw[IC] at c;exact uy (of_decide_eq_false c)
 refine gC h<|au 0x2537fd1f95f31 ?_;clear h;intro a w h;refine Zb h I (λf=>?_) (λf=>?_)
 ·have ha:U<18446744073709551616:=Qx.1 (by simpa using f);have q:K<18446744073709551616:=oo;refine gC h<|zs<|yE [0,1,2,3,4,5,6,7,8,9,10,11,12,13,14]<|au 0x0df ?_;refine ldY IV ?_;clear h;refine au 0x0df ?_;refine ldY IV ?_;refine yp I (aq (v':=.int .u64 ((U/K:Nat):Int)) (.binOp I I (λ_=>ET _ _ _ _ _ (by rw[Qk q];omega))) (by rw[Qk ha,Qk q,CC,Fi (gO (tQ _ _) ha)]))<|yp I (.build [(_,_)] I<|Sz _)<|au 0x0df ?_;refine Jd [4] I kk I mr isAgg39 sizeOf39 IV (λa w p d=>by intro t ht;simp only[cZ,cf,or_false] at ht;rcases ht with rfl<;>exact⟨_,rfl,by have h1:=(List.pairwise_append.1 d.nd).2.1;simp at h1;dsimp only;omega⟩) dd ?_;refine au 0x0df ?_;refine Jd [4] I kk I mr isAgg39 sizeOf39 IV (λa w p d=>by intro t ht;simp only[cZ,cf,or_false] at ht;rcases ht with rfl<;>exact⟨_,rfl,by have h1:=(List.pairwise_append.1 d.nd).2.1;simp at h1;dsimp only;omega⟩) dd ?_;refine yp I (aq (v':=.int .u64 ((U%K:Nat):Int)) (.binOp I I (λ_=>Yx _ _ _ _ _ (by rw[Qk q];omega))) (by rw[Qk ha,Qk q,Yw]))<|yp I (.build [(_,_)] I<|Sz _)<|stV I I I Zt ?_;refine stV I I I Zt ?_;refine au 0x6a4e ?_;intro a w h;refine Xh h (BM h I (rC Qt) (rC Qt)<|.tmp I) ?_;rw[Ke,Ke,Qk (gO (tQ _ _) ha),Gp (gO (tQ _ _) ha),Qk (gO (Nat.mod_le _ _) ha),Gp (gO (Nat.mod_le _ _) ha)]
 have ha:¬U<18446744073709551616:=λC=>by have:=Qx.2 C;simp[this] at f
 refine gC h<|au 0x5e317 ?_;refine zf [_] I call178 (Cd K oo) ?_;rintro v41 E ⟨H,P,rfl,T,rfl⟩;refine au 0x2aebe431125 ?_;intro a w h;refine Zb h I (λg=>?_) (λg=>?_)
 ·have h1:(wds K).length=1:=natEq' (b:=1) g;have l:=nR h1;have o:=(Wd.wds K).getD 0;rw[l] at o;have i:0<(wds K).length:=oo;obtain ⟨bY,V,x⟩:=h.row_addr (ad:=H) (M:=Xg (wds K)) ss (by simp;intro e;simp[e] at i);subst x;refine gC h<|zs<|yE [0,2,3,4,1,5,6,7,8,9,10]<|au 0x51f ?_;clear h;refine au 0x9 ?_;refine yp I (.indexAddr I I<|LR _ _ _ _ 0 oo) ?_;refine Zf I kk I mm (by simp;omega) isAgg89 sizeOf89 ((Zn 0 oo).trans (by rw[l])) (.inr I) dd ?_;refine yf [_] I I call178 (Cd U oo) ?_;rintro N n ⟨D,y,rfl,B,rfl⟩;refine Bg I kk (vs:=[_,_]) I call258 (rT D y (wds U) K (Wd.wds U) oo oo o) ss dd ?_;rintro v51 J ⟨bq,Q,rfl,v,A,k,rfl⟩;refine au 0x31a4e4e9e9e9 ?_;intro a w h;replace h:=h.shareAll W (Xg Q) I;refine gL h<|zm I<|zw [_] I call177 (sf _ _ Q v (aZ _) oo)<|zm I<|zp (aq (v':=.int .u64 ((U%K:Nat):Int)) (.convert I<|Ux _) (by rw[Ja,Fi (ua (gF _ oo) oo)]))<|au 0xbaf ?_;refine stW I I Zt ?_;refine stW I I Zt ?_;refine au 0x625 ?_;clear h;intro a w h;refine Xh h (BM h I (rC Qt) (rC Qt)<|.tmp I) ?_;have hr:U%K<18446744073709551616:=ua (gF _ oo) oo;rw[k,Ja,Ke,Ke,Qk hr,Gp hr]
 have h1:(wds K).length≠1:=natNe' (b:=1) g;have Z:=QP u;have m:=Ys hle;refine gC h<|au 0x5e317 ?_;refine zf [_] I call178 (Cd U oo) ?_;rintro X G ⟨D,y,rfl,B,rfl⟩;refine zm I<|zf [_,_] I call259 (C_long D y (wds U) H P (wds K) (Wd.wds U) (Wd.wds K) C oo m<|XK u) ?_;rintro O F ⟨a1,c1,a2,c2,Q,R,rfl,v,hR,z,s,A,L,k,r,rfl⟩;refine au 0x431255bb4 ?_;refine zw [_] I call177 (sf _ _ Q v z oo)<|zm I<|zw [_] I call177 (sf _ _ R hR s oo)<|stW I I Zt ?_;refine stW I I Zt ?_;refine au 0x625 ?_;clear h;intro a w h;refine Xh h (BM h I (rC Qt) (rC Qt)<|.tmp I) ?_;rw[k,r,Ja,Ja]
theorem C_Gcd(l:(wds U).length<=500000000000)(hm:(wds K).length<=500000000000): Jk prog 173 [Ke U,Ke K] (Ke (Nat.gcd U K)):=by
 refine fnI func173 I ntmps173 λS w0 p=>zS (zx I λg=>zx I λk=>zz zeroValue41 λi=>au 0x812 ?_);intro a w h;refine lpG h [2,3,4] pkL (λY Z (y:Nat) a w => ∃x:Nat,(wds x).length<=500000000000/\(wds y).length<=500000000000/\Nat.gcd x y=Nat.gcd U K/\St 21 S w0 Y [(i,.cells (Ke 0).cells 41 (0,0)),(k,.cells (Ke y).cells 41 (0,0)),(g,.cells (Ke x).cells 41 (0,0))] Z a w) (λy=>y) (K) (⟨U,l,hm,rfl,h.sub sA⟩) ?_;clear h;rintro y a w ⟨x,hx,e,f,h⟩;refine gC h<|au 0x5e311 ?_;refine zv [_] I call256 (nw y)<|au 0x240f ?_;intro a w h;refine Zb h I (λc=>?_) (λc=>?_)
 ·have b:y≠0:=by simpa using c
  refine gC h<|au 0x5e5e3187 ?_;refine zv [_,_] I call174 (sU x y hx e b)<|au 0xbbb4 ?_;refine zz zeroValue41 λo=>zz zeroValue41 λq=>stW I I Zt ?_;refine stW I I Zt ?_;refine za I<|zn<|yE [0,1,2,3]<|au 0x51f ?_;clear h;refine Jd [2] I kk I mr isAgg41 sizeOf41 Qt (λa w j d=>by intro t ht;simp only[cZ,cf,or_false] at ht;rcases ht with rfl<;>exact⟨_,rfl,by have h1:=(List.pairwise_append.1 d.nd).2.1;simp at h1;dsimp only;omega⟩) dd ?_;refine stV I I I Zt ?_;refine stV I I I Zt ?_;refine yn ?_;intro a w h;exact⟨x%y,⟨y,e,bp (Ys (tI (gF _ (tb b)))) e,by rw[<-f,Nat.gcd_comm y (x%y), <-Nat.gcd_rec,Nat.gcd_comm],tO h⟩,gF _ (tb b)⟩
 have b:y=0:=by simpa using c
 subst b;refine gC h<|au 0x5e310e ?_;refine stW I I Zt ?_;refine zn<|zt ?_;clear h;intro a w h;refine Xh h (Zd h I<|rC Qt) ?_;rw[<-f,Nat.gcd_zero_right]
theorem rB: RN (Instr.build 43 [].toArray) (.agg #[.int .u64 0,.string ⟨#[]⟩]):=λw=>by simp[go_sem]
theorem rD: RN (Instr.build 43 [(0,.agg #[e0,e1])].toArray) (.agg #[e0,e1]):=λw=>by simp[go_sem]
theorem PV: RN (Instr.build 45 [(0,.agg #[e0,e1]),(1,.bool c3)].toArray) (.agg #[e0,e1,.bool c3]):=λw=>by simp[go_sem]
theorem Qi: Zp #[u,e,a1] 0 [b5,c5,h9]=#[b5,c5,h9]:=rfl
theorem Jj: Zm true 3 #[u,e,a1] 0=some (.agg #[u,e,a1]):=rfl
theorem Nm: RN (Instr.fieldAt 45 (.pointer (some ⟨J,O,none⟩)) 1) (.pointer (some ⟨J,O+2,none⟩)):=λw=>by
 simp[go_sem]
theorem Gl: Zm false 1 #[u,e,a1] 2=some a1:=rfl
theorem de: RN (Instr.fieldAt 45 (.pointer (some ⟨J,O,none⟩)) 0) (.pointer (some ⟨J,O+0,none⟩)):=λw=>by
 simp[go_sem]
theorem df: RN (Instr.fieldAt 43 (.pointer (some ⟨J,O,none⟩)) 0) (.pointer (some ⟨J,O+0,none⟩)):=λw=>by
 simp[go_sem]
theorem FA: Zm true 2 #[u,e,a1] 0=some (.agg #[u,e]):=rfl
def AW(z:Int): Nat:=(wds z.natAbs).length
def sgZ(neg:Bool)(n:Nat): Int:=if neg then -(n:Int) else (n:Int)
theorem Mm: (sgZ c3 D).natAbs=D:=by unfold sgZ;split<;>omega
theorem Ta: sgZ (decide (z<0)) z.natAbs=z:=by unfold sgZ;split<;>simp_all<;>omega
theorem oq: decide (sgZ c3 D<0)=(c3 && !decide (D=0)):=by
 unfold sgZ;cases c3<;>by_cases h:D=0<;>simp[h]<;>omega
theorem qP: RN (do eqGuard .eql 43 e3 e4 (Ke D) (Ke A);Go.binOp .eql 43 (Ke D) (Ke A):Sem Value) (.bool (decide (D=A))):=λw=>by
 simp[go_sem];have c:((Xr D).toList=(Xr A).toList)↔Xr D=Xr A:=by have:=Ec (Xr D) (Xr A);rw[sv] at this;simpa using this
 by_cases h:D=A
 ·subst h;simp
 have a:=λh1 b=>h (Nx h1 b);by_cases h1:Yk D=Yk A
 ·simp only[h,h1,c,if_true,decide_false];exact if_neg (a h1)
 simp[h,h1]
theorem eQ: Jk prog 199 [Ke U] (.bool (decide (U=0))):=by
 refine fnI func199 I ntmps199 λS w0 a=>zS (zx I λb=>au 0x5e3125 ?_);refine zp (aq (v':=Ke 0) (.build [] I<|rB) (by rfl))<|zp (.binOp I I (λ_=>qP _ _ U 0 _))<|za I<|zn<|zt<|rtK I
theorem K1: Jk prog 154 [.bool c3,Ke D] (encZ (sgZ c3 D)):=by
 refine fnI func154 I ntmps154 λS w0 d=>zS (zx I λf=>zz zeroValue45 λe=>au 0x5e312 ?_);refine zp (.build [(_,_)] I<|rD _ _) (zz zeroValue43 λc=>stW I I Zt ?_);refine zn<|zs<|yE [0,1,2,3,4,5,6,7,8]<|au 0x51f ?_;refine au 0x99 ?_;refine Jn (λb  =>?_) (λb  =>?_);focus
  refine yg I I I I mr isAgg43 sizeOf43 Qt ?_;refine Xp I I I kk (vs:=[_]) I call199 (eQ D) dd ?_;refine yq I I I (.unOp I<|Yt _)<|au 0x76f ?_;refine yp I (.build [(_,_),(_,_)] I<|PV _ _ _)<|stV I I I Qi ?_
 rotate_left;focus
  refine yo 10 I I I I<|yo 10 I I I I<|yo 10 I I I I<|au 0xf4f ?_;refine yp I (.build [(_,_),(_,_)] I<|PV _ _ _)<|stV I I I Qi ?_
 all_goals
  refine yn<|zt ?_;intro a w h;refine Xh h (Zd h I<|rC Jj) ?_;subst b;rw[encZ,Mm,oq];rfl
theorem C_plus(hx:AW z<=400000000000)(e:AW r<=400000000000): Jk prog 198 [encZ z,encZ r] (encZ (z+r)):=by
 unfold AW at hx e;refine fnI func198 I ntmps198 λS w0 i=>zS (zx I λj=>zx I λl=>zz zeroValue45 λk=>au 0xc1f89fc1f89f3112 ?_);refine zp (.binOp I I (λ_=>Tg _ underlying4 _ _ _ _))<|zn ?_;intro a w h;refine Zb h I (λb=>?_) (λb=>?_)
 ·refine gC h<|zs<|yE [0,1,2,3,4,5,6,7,8,9,10]<|yp I (.fA I Nm)<|au 0x41f ?_;clear h;refine au 0xfcfecf ?_;refine ldY FA ?_;refine au 0xfcfecf ?_;refine ldY FA ?_;refine yv [_,_] I I call179 (C_Add _ _ oo oo)<|au 0xfbf ?_;refine stV I I I Qi ?_;refine yn<|zt ?_;intro a w h;refine Xh h (Zd h I<|rC Jj) ?_;rw[show sgZ (decide (z<0)) (z.natAbs+r.natAbs)=z+r from by unfold sgZ;by_cases h1:z<0<;>by_cases d:r<0<;>simp[h1,d] at b ⊢<;>omega]
 refine gC h<|au 0x18f99fd7f18f99fd7f3117 ?_;refine zv [_,_] I call175 (sy z.natAbs r.natAbs oo oo)<|au 0xbb4 ?_;refine zz zeroValue41 λg=>stW I I Zt ?_;refine au 0x243125 ?_;clear h;intro a w h;refine Zb h I (λc=>?_) (λc=>?_)
 ·refine gC h<|au 0x5ec1f89f31 ?_;refine zv [_,_] I call154 (K1 _ _)<|stW I I Qi ?_;refine zn<|zt ?_;clear h;intro a w h;refine Xh h (Zd h I<|rC Jj) ?_;have hle:r.natAbs<=z.natAbs:=of_decide_eq_true c;rw[show sgZ (decide (z<0)) (z.natAbs-r.natAbs)=z+r from by unfold sgZ;by_cases h1:z<0<;>by_cases d:r<0<;>simp[h1,d] at b ⊢<;>omega]
 refine gC h<|au 0x18f99fd7f18f99fd7f317 ?_;refine zv [_,_] I call175 (sy r.natAbs z.natAbs oo oo)<|au 0xbb4 ?_;refine zz zeroValue41 λf=>stW I I Zt ?_;refine au 0x5ec1f89f3125 ?_;refine zv [_,_] I call154 (K1 _ _)<|stW I I Qi ?_;refine zn<|zt ?_;clear h;intro a w h;refine Xh h (Zd h I<|rC Jj) ?_;have hle:¬r.natAbs<=z.natAbs:=of_decide_eq_false c;rw[show sgZ (decide (r<0)) (r.natAbs-z.natAbs)=z+r from by unfold sgZ;by_cases h1:z<0<;>by_cases d:r<0<;>simp[h1,d] at b ⊢<;>omega]
theorem rS(hx:AW z<=400000000000)(c:AW r<=400000000000): Jk prog 172 [encZ z,encZ r] (encZ (z*r)):=by
 unfold AW at hx c;refine fnI func172 I ntmps172 λS w0 d=>zS (zx I λf=>zx I λg=>zz zeroValue45 λe=>zn<|zs<|yE [0,1,2,3,4,5,6,7,8,9,10,11,12,13]<|yp I (.fA I Nm)<|au 0x41f ?_);refine yp I (.fA I Nm)<|au 0x41f ?_;refine yp I (.binOp I I (λ_=>Tf _ underlying4 _ _ _ _))<|au 0xfcfecf ?_;refine ldY FA ?_;refine au 0xfcfecf ?_;refine ldY FA ?_;refine yv [_,_] I I call94 (sM _ _ oo oo)<|au 0xfbf ?_;refine stV I I I Qi ?_;refine yn<|zt ?_;intro a w h;refine Xh h (Zd h I<|rC Jj) ?_;rw[show sgZ (decide (z<0) != decide (r<0)) (z.natAbs*r.natAbs)=z*r from by
  conv=>rhs;rw[<-Ta z, <-Ta r]
  unfold sgZ;by_cases h1:z<0<;>by_cases b:r<0<;>simp only[h1,b,decide_true,decide_false,bne_self_eq_false,Bool.true_bne,Bool.false_bne,Bool.not_true,uw,if_true,oE,if_false,tD,Int.neg_mul,v7,Int.neg_neg]]
theorem KV(hx:AW z<=400000000000)(b:AW r<=400000000000): Jk prog 171 [.func (.func 198) #[] #[],encZ z,encZ r] (encZ (z+r)):=by
 refine fnI func171 I ntmps171 λS w0 d=>zS (zx I λf=>zx I λc=>zz zeroValue45 λe=>au 0xdede4312 ?_);intro a w h;refine Zc<|Cl h (fs:=[]) (cs:=[]) I (vs:=[_,_]) I call198 (C_plus z r hx b) dd ?_;clear h;intro a w h;refine gL h<|stW I I Qi ?_;refine zn<|zt ?_;clear h;intro a w h;refine Xh h (Zd h I<|rC Jj) ?_;rfl
theorem fB(hx:AW z<=400000000000)(b:AW r<=400000000000): Jk prog 110 [encZ z,encZ r] (encZ (z+r)):=by
 refine fnI func110 I ntmps110 λS w0 c=>zS (zx I λe=>zx I λf=>zz zeroValue45 λd=>au 0xdede312 ?_);refine zv [_,_,_] I call171 (KV z r hx b)<|stW I I Qi ?_;refine zn<|zt ?_;intro a w h;refine Xh h (Zd h I<|rC Jj) ?_;rfl
theorem P7(hx:AW z<=400000000000)(b:AW r<=400000000000): Jk prog 171 [.func (.func 172) #[] #[],encZ z,encZ r] (encZ (z*r)):=by
 refine fnI func171 I ntmps171 λS w0 d=>zS (zx I λf=>zx I λc=>zz zeroValue45 λe=>au 0xdede4312 ?_);intro a w h;refine Zc<|Cl h (fs:=[]) (cs:=[]) I (vs:=[_,_]) I call172 (rS z r hx b) dd ?_;clear h;intro a w h;refine gL h<|stW I I Qi ?_;refine zn<|zt ?_;clear h;intro a w h;refine Xh h (Zd h I<|rC Jj) ?_;rfl
theorem nL(hx:AW z<=400000000000)(b:AW r<=400000000000): Jk prog 92 [encZ z,encZ r] (encZ (z*r)):=by
 refine fnI func92 I ntmps92 λS w0 c=>zS (zx I λe=>zx I λf=>zz zeroValue45 λd=>au 0xdede312 ?_);refine zv [_,_,_] I call171 (P7 z r hx b)<|stW I I Qi ?_;refine zn<|zt ?_;intro a w h;refine Xh h (Zd h I<|rC Jj) ?_;rfl
theorem nK: Jk prog 211 [encZ z] (encZ (-z)):=by
 refine fnI func211 I ntmps211 λS w0 c=>zS (zx I λd=>zz zeroValue45 λb=>au 0x18f99fd7f40fc1f89f312 ?_);refine zv [_,_] I call154 (K1 _ _)<|stW I I Qi ?_;refine zn<|zt ?_;intro a w h;refine Xh h (Zd h I<|rC Jj) ?_;rw[show sgZ (!decide (z<0)) z.natAbs = -z from by unfold sgZ;by_cases h1:z<0<;>simp[h1]<;>omega]
theorem fC: Jk prog 156 [encZ z] (Ke z.natAbs):=by
 refine fnI func156 I ntmps156 λS w0 c=>zS (zx I λd=>zz zeroValue41 λb=>au 0x18f99fd7f312 ?_);refine stW I I Zt ?_;refine zn<|zt ?_;intro a w h;refine Xh h (Zd h I<|rC Qt) ?_;rfl
theorem SL: Jk prog 112 [encZ z] (.int .i64 z.sign):=by
 refine fnI func112 I ntmps112 λS w0 f=>zS (zx I λd=>au 0x18fd7f318125 ?_);refine zv [_] I call199 (eQ z.natAbs)<|au 0x25 ?_;intro a w h;refine Zb h I (λc=>?_) (λc=>?_)
 ·refine gC h<|au 0x62531 ?_;refine rtK ?_;rw[show z=0 by have:=of_decide_eq_true c;omega];rfl
 refine gC h<|au 0x25c1f89f31 ?_;clear h;intro a w h;refine Zb h I (λb=>?_) (λb=>?_)
 ·refine gC h<|au 0x62531 ?_;refine rtK ?_;rw[uv (of_decide_eq_true b)]
 refine gC h<|au 0x625317 ?_;refine rtK ?_;have h1:=of_decide_eq_false c;have e:=of_decide_eq_false b;rw[tU oo]
theorem dI: RN (Go.convert 2 39 (.int .i64 z)) (.int .u64 (IntKind.u64.wrap z)):=λw=>by
 simp[go_sem]
theorem rA: RN (Instr.build 47 [(0,.agg #[e0,e1,i1])].toArray) (.agg #[e0,e1,i1,.int .u64 0,.string ⟨#[]⟩]):=λw=>by simp[go_sem]
theorem Zl: Zp #[u,e,a1,b5,c5] 0 [h9,j5,j6,j7,j8]=#[h9,j5,j6,j7,j8]:=rfl
theorem Zz: Zm true 5 #[u,e,a1,b5,c5] 0=some (.agg #[u,e,a1,b5,c5]):=rfl
theorem Sa: RN (Instr.fieldAt 47 (.pointer (some ⟨J,O,none⟩)) 1) (.pointer (some ⟨J,O+3,none⟩)):=λw=>by
 simp[go_sem]
theorem BO: Zm true 2 #[u,e,a1,b5,c5] 3=some (.agg #[b5,c5]):=rfl
theorem PU: RN (Instr.build 47 [(0,.agg #[e0,e1,i1]),(1,.agg #[j9,k3])].toArray) (.agg #[e0,e1,i1,j9,k3]):=λw=>by simp[go_sem]
theorem cO: RN (Instr.fieldAt 47 (.pointer (some ⟨J,O,none⟩)) 0) (.pointer (some ⟨J,O+0,none⟩)):=λw=>by
 simp[go_sem]
theorem To: Zm true 3 #[u,e,a1,b5,c5] 0=some (.agg #[u,e,a1]):=rfl
theorem I2(hd:D≠0): (mkRat z D).num=sgZ (decide (z.sign<0)) (z.natAbs/z.natAbs.gcd D)/\(mkRat z D).den=D/z.natAbs.gcd D:=by
 rw[<-Rat.normalize_eq_mkRat hd,Rat.normalize_eq hd];refine⟨?_,rfl⟩;show z/((z.natAbs.gcd D:Nat):Int)=_;unfold sgZ;have f:((z.natAbs.gcd D:Nat):Int)∣z:=Int.ofNat_dvd_left.2 (Nat.gcd_dvd_left _ _);have e:z.natAbs.gcd D≠0:=λh=>hd (Nat.gcd_eq_zero_iff.1 h).2;have b:=Nat.gcd_dvd_left z.natAbs D;generalize z.natAbs.gcd D=g at *
 obtain ⟨k,hk⟩:=b;rw[hk,Nat.mul_div_cancel_left k (tb e)];by_cases h:z<0
 ·have a:z.sign<0:=by rw[uv h];decide
  simp only[a,decide_true,if_true];have:z=(g:Int) * -(k:Int):=by rw[v7, <-tD, <-hk];omega
  rw[this,wx _ oo]
 have a:¬z.sign<0:=by
  rcases Int.lt_or_eq_of_le (Int.not_lt.1 h) with c|c
  ·rw[tU c];decide
  rw[<-c];decide
 simp only[a,decide_false,oE,if_false];have:z=(g:Int)*(k:Int):=by rw[<-tD, <-hk];omega
 rw[this,wx _ oo]
def Zr(q:Rat): Nat:=max (AW q.num) (wds q.den).length
theorem DI(h:Zr c6<=J): AW c6.num<=J/\(wds c6.den).length<=J:=by unfold Zr at h;omega
theorem wds_ge(h:J≠0): 4294967296 ^ ((wds J).length-1)<=J:=by
 have a:wds J≠[]:=λe=>h (by rw[<-Ja J,e];rfl);have b:=Ja J;rw[<-u3 a,Jy] at b;have d:=Io _ a;simp only[Zw,vB,vN,sh] at b;have c:4294967296 ^ ((wds J).length-1)*1<=4294967296 ^ ((wds J).length-1)*(wds J).getLast a:=hD _ oo;omega
theorem A9{n k:Nat}(h:n<4294967296 ^ k): (wds n).length<=k:=by
 by_cases b:n=0
 ·subst b;simp[AZ]
 have h1:=wds_ge b;have c:=(wq (a:=4294967296) dd).1 (gO h1 h);omega
theorem Cf: U<4294967296 ^ (wds U).length:=by
 have:=Vu (Wd.wds U);rwa[Ja] at this
theorem Bl: (wds (U*K)).length<=(wds U).length+(wds K).length :=
 A9 (by rw[tq];exact kv (Cf U) (Cf K))
theorem QR: (wds (U+K)).length<=max (wds U).length (wds K).length+1:=A9 (by
 have h1:=Cf U;have a:=Cf K;have c:4294967296 ^ (wds U).length<=4294967296 ^ max (wds U).length (wds K).length:=js dd oo;have b:4294967296 ^ (wds K).length<=4294967296 ^ max (wds U).length (wds K).length:=js dd oo;rw[iX];omega)
theorem BY: AW (z*r)<=AW z+AW r:=by unfold AW;rw[wk];exact Bl _ _
theorem MY: AW (z+r)<=max (AW z) (AW r)+1:=by
 unfold AW;exact bp (Ys (Int.natAbs_add_le z r)) (QR _ _)
theorem Eo(hd:D≠0): Zr (mkRat z D)<=max (AW z) (wds D).length:=by
 obtain ⟨h1,a⟩:=I2 z D hd;unfold Zr AW;rw[h1,a,Mm];have b:=Ys (tQ z.natAbs (z.natAbs.gcd D));have a2:=Ys (tQ D (z.natAbs.gcd D));omega
theorem Xo: Zr (C+E)<=Zr C+Zr E+1:=by
 rw[wF];have h:=Eo (C.num*E.den+E.num*C.den) (C.den*E.den) (uK C.den_nz E.den_nz);have h1:=MY (C.num*E.den) (E.num*C.den);have d:=BY C.num E.den;have f:=BY E.num C.den;have e:=Bl C.den E.den;have c:AW (C.den:Int)=(wds C.den).length:=rfl;have g:AW (E.den:Int)=(wds E.den).length:=rfl;unfold Zr at h ⊢;omega
theorem Qh: Zr (C*E)<=Zr C+Zr E:=by
 rw[vL];have h:=Eo (C.num*E.num) (C.den*E.den) (uK C.den_nz E.den_nz);have c:=BY C.num E.num;have d:=Bl C.den E.den;unfold Zr at h ⊢;omega
theorem UL{a b:Rat}(h:a.den=b.den): mkRat (a.num+b.num) a.den=a+b:=by
 rw[wF, <-h, <-Int.add_mul,wV a.den_nz]
theorem eI(ha:c6.den=1)(c:e2.den=1): ((c6.num+e2.num:Int):Rat)=c6+e2:=by
 rw[<-UL (a:=c6) (b:=e2) oo,ha,wo]
theorem Z2(ha:c6.den=1)(c:e2.den=1): ((c6.num*e2.num:Int):Rat)=c6*e2:=by
 rw[vL,ha,c,vw,wo]
theorem JG(c:C≠0): mkRat (sgZ (decide (C.num.sign<0)) C.den) C.num.natAbs=C⁻¹:=by
 rw[Rat.inv_def];have b:C.num≠0:=λh=>c (Rat.num_eq_zero.1 h);unfold sgZ;generalize C.num=m at *
 rcases Int.lt_or_gt_of_ne b with h|h
 ·have a:m.sign<0:=by rw[uv h];decide
  simp only[a,decide_true,if_true];obtain ⟨k,rfl⟩:∃k:Nat,m = -(k:Int):=⟨m.natAbs,oo⟩
  have e:Rat.divInt (C.den:Int) (-(k:Int))=Rat.divInt (-(C.den:Int)) (k:Int):=by
   have:=Rat.neg_divInt_neg (-(C.den:Int)) (k:Int);rwa[Int.neg_neg] at this
  rw[e,Rat.divInt_ofNat,Int.natAbs_neg,u9]
 have a:¬m.sign<0:=by rw[tU h];decide
 simp only[a,decide_false,oE,if_false];obtain ⟨k,rfl⟩:∃k:Nat,m=(k:Int):=⟨m.natAbs,oo⟩
 rw[Rat.divInt_ofNat,u9]
theorem YT: RN (Op.unary .neg (.int .u64 z)) (.int .u64 (IntKind.u64.wrap (0-z))):=λw=>by simp[Op.unary,Op.intArith]
theorem C_ZOf(e:-9223372036854775808<=z)(h1:z<=9223372036854775807): Jk prog 84 [.int .i64 z] (encZ z):=by
 refine fnI func84 I ntmps84 λS w0 d=>zS (zz zeroValue45 λf=>au 0x2d43112 ?_);intro a w h;refine Zb h I (λb=>?_) (λb=>?_)
 ·have c:z<0:=of_decide_eq_true b;refine gC h<|zS<|zm I<|zp (.convert I<|dI _)<|zp (.unOp I (λw=>by rw[YT,AC,AC,show(0-z%18446744073709551616)%18446744073709551616=((z.natAbs:Nat):Int) by omega]))<|zv [_] I call155 (C_Of z.natAbs oo)<|zv [_,_] I call154 (K1 true z.natAbs)<|stW I I Qi ?_;refine zn<|zt ?_;clear h;intro a w h;refine Xh h (Zd h I<|rC Jj) ?_;rw[show sgZ true z.natAbs=z from by unfold sgZ;simp;omega]
 have c:¬z<0:=of_decide_eq_false b;refine gC h<|zk<|zS<|zm I<|zp (aq (v':=.int .u64 ((z.natAbs:Nat):Int)) (.convert I<|dI _) (by rw[AC];congr 1;omega))<|zv [_] I call155 (C_Of z.natAbs oo)<|zv [_,_] I call154 (K1 false z.natAbs)<|stW I I Qi ?_;refine zn<|zt ?_;clear h;intro a w h;refine Xh h (Zd h I<|rC Jj) ?_;rw[show sgZ false z.natAbs=z from by unfold sgZ;simp;omega]
theorem SH: Jk prog 83 [encZ z] (Qa (z:Rat)):=by
 refine fnI func83 I ntmps83 λS w0 c=>zS (zx I λd=>zz zeroValue47 λb=>au 0xde312 ?_);refine zp (.build [(_,_)] I<|rA _ _ _)<|stW I I Zl ?_;refine zn<|zt ?_;intro a w h;refine Xh h (Zd h I<|rC Zz) ?_;rfl
theorem Oa: Jk prog 91 [Qa C] (.bool (decide (C.den=1))):=by
 refine fnI func91 I ntmps91 λS w0 a=>zS (zx I λb=>au 0x1bf3125 ?_);refine ldZ BO ?_;refine zp (aq (v':=Ke 0) (.build [] I<|NW) (by rfl))<|zp (.binOp I I (λ_=>Mr _ _ (C.den-1) 0 _))<|za I<|zn<|zt<|rtK ?_;have:=C.den_pos;show Value.bool _=Value.bool _;congr 1;apply decide_eq_decide.2;omega
theorem SK(b:(wds C.den).length<=400000000000): Jk prog 95 [Qa C] (Ke C.den):=by
 refine fnI func95 I ntmps95 λS w0 d=>zS (zx I λe=>zz zeroValue41 λc=>zn<|zs<|yE [0,1,2,3,4]<|yp I (.fA I Sa)<|ldY BO ?_);refine yv [_] I I call155 (C_Of 1 dd)<|yv [_,_] I I call179 (C_Add (C.den-1) 1 (bp (Ys<|Nat.sub_le _ _) oo)<|bp (Ce dd) dd)<|stV I I I Zt ?_;refine yn<|zt ?_;intro a w h;refine Xh h (Zd h I<|rC Qt) ?_;rw[tF C.den_pos]
theorem IG(b:(wds C.den).length<=400000000000): Jk prog 111 [Qa C] (encZ (C.den:Int)):=by
 refine fnI func111 I ntmps111 λS w0 d=>zS (zx I λe=>zz zeroValue45 λc=>au 0x6e312 ?_);refine zv [_] I call95 (SK C b)<|zv [_,_] I call154 (K1 false C.den)<|stW I I Qi ?_;refine zn<|zt ?_;intro a w h;refine Xh h (Zd h I<|rC Jj) ?_;rfl
theorem IK(hd:D≠0)(k:AW z<=400000000000)(c:(wds D).length<=400000000000): Jk prog 93 [encZ z,Ke D] (Qa (mkRat z D)):=by
 unfold AW at k;have b:z.natAbs.gcd D≠0:=λh=>hd (Nat.gcd_eq_zero_iff.1 h).2;have j:(wds (z.natAbs.gcd D)).length<=400000000000:=bp (Ys (Nat.gcd_le_right _ (tb hd))) c;have hq:1<=D/z.natAbs.gcd D:=Nat.div_pos (Nat.gcd_le_right _ (tb hd)) (tb b);have g:(wds (D/z.natAbs.gcd D)).length<=400000000000:=bp (Ys (tQ _ _)) c;obtain ⟨e,f⟩:=I2 z D hd;refine fnI func93 I ntmps93 λS w0 o=>zS (zx I λs=>zx I λt=>zz zeroValue47 λr=>zn<|zs<|yF [0,2,1,3,4,5]<|au 0x54f ?_);refine au 0x51f ?_;refine yv [_] I I call156 (fC z)<|yv [_,_] I I call173 (C_Gcd _ _ oo oo) (yz I zeroValue41 λm=>stV I I I Zt ?_);refine yn<|zs<|yF [0,2,1,3,4,5,6,7,8,9,10,11,12]<|au 0x54f ?_;refine au 0x51f ?_;refine yv [_] I I call156 (fC z)<|yv [_,_] I I call174 (sU z.natAbs (z.natAbs.gcd D) oo oo b)<|au 0x9e9e9e9 ?_;refine yz I zeroValue41 λp=>yz I zeroValue41 λl=>stV I I I Zt ?_;refine stV I I I Zt ?_;refine au 0x5e5e31a4e ?_;refine zv [_,_] I call174 (sU D (z.natAbs.gcd D) oo oo b)<|au 0xbbb4 ?_;refine zz zeroValue41 λq=>zz zeroValue41 λi=>stW I I Zt ?_;refine stW I I Zt ?_;refine za I<|zn<|zs<|yE [0,1,2,3,4,5,6]<|au 0x51f ?_;refine yv [_] I I call155 (C_Of 1 dd)<|yv [_,_] I I call175 (sy _ 1 oo<|bp (Ce dd) dd)<|au 0x9e9e9 ?_;refine stV I I I Zt ?_;refine yn<|zs<|yE [0,3,5,1,2,4,6,7]<|au 0x54f ?_;refine au 0x51f ?_;refine au 0x51f ?_;refine yv [_] I I call112 (SL z)<|yp I (.lss I I)<|au 0xfbf ?_;refine yp I (.build [(_,_),(_,_)] I<|PU _ _ _ _ _)<|stV I I I Zl ?_;refine yn<|zt ?_;intro a w h;refine Xh h (Zd h I<|rC Zz) ?_;rw[Qa,e,f]
theorem fJ(ha:Zr C<=100000000000)(k:Zr E<=100000000000): Jk prog 32 [Qa C,Qa E] (Qa (C+E)):=by
 obtain ⟨i,p⟩:=DI ha;obtain ⟨t,q⟩:=DI k;have m:=BY C.num (E.den:Int);have n:=BY E.num (C.den:Int);have hs:=MY (C.num*(E.den:Int)) (E.num*(C.den:Int));have o:=MY C.num E.num;have r:AW (C.den:Int)=(wds C.den).length:=rfl;have u:AW (E.den:Int)=(wds E.den).length:=rfl;have l:=Bl C.den E.den;have s:=C.den_pos;have j:=E.den_pos;refine fnI func32 I ntmps32 λS w0 B=>zS (zx I λz=>zx I λv=>zz zeroValue47 λA=>au 0x6e31812 ?_);refine zv [_] I call91 (Oa C)<|zm I ?_;intro a w h;refine Zi h (λd h=>?_) (λd h=>?_);focus
  have g:C.den=1:=of_decide_eq_true d;refine gL h<|ldQ 8 Zz ?_;clear h;intro a w h;refine Zq 8 h I I<|Xn h (vs:=[_]) I call91 (Oa E) dd ?_;clear h;intro a w h;refine Zi h (λc h=>?_) (λc h=>?_)
  ·have e:E.den=1:=of_decide_eq_true c;refine gL h<|au 0x34fc7f34fc7f311e253e ?_;refine zv [_,_] I call110 (fB _ _ oo oo)<|zv [_] I call83 (SH _)<|stW I I Zl ?_;refine zn<|zt ?_;clear h;intro a w h;refine Xh h (Zd h I<|rC Zz) ?_;rw[show((C.num+E.num:Int):Rat)=C+E from eI g e]
  have e:E.den≠1:=of_decide_eq_false c;refine gL h<|au 0x253e ?_;clear h;intro a w h
 rotate_left;focus
  have g:C.den≠1:=of_decide_eq_false d;refine gL h<|zo 8 I I I<|zo 8 I I I<|au 0x252e ?_;clear h;intro a w h
 all_goals
  refine cW<|Zj h I<|gC h<|au 0x1bf31 ?_;refine ldZ BO ?_;refine au 0x1bf ?_;refine ldZ BO ?_;refine zp (.binOp I I (λ_=>Mr _ _ (C.den-1) (E.den-1) _)) ?_;clear h;intro a w h;refine Zi h (λb h=>?_) (λb h=>?_)
  ·have f:C.den=E.den:=dT b;refine gL h<|au 0x11e25 ?_;refine yE [0,1,2,3,5,4,6,7,8]<|au 0xe4fc4f ?_;clear h;refine au 0xe4fc4f ?_;refine au 0xce ?_;refine yv [_,_] I I call110 (fB _ _ oo oo)<|yv [_] I I call95 (SK C oo)<|yv [_,_] I I call93 (IK _ _ oo oo oo)<|stV I I I Zl ?_;refine yn<|zt ?_;intro a w h;refine Xh h (Zd h I<|rC Zz) ?_;rw[show mkRat (C.num+E.num) C.den=C+E from UL f]
  have f:C.den≠E.den:=dF b;refine gL h<|au 0x17c25 ?_;refine yE [0,1,2,5,6,7,11,13,3,4,8,9,10,12,14,15,16,17]<|au 0xe4fc4f ?_;clear h;refine au 0xce ?_;refine au 0xe4fc4f ?_;refine au 0xce ?_;refine au 0xce ?_;refine au 0xce ?_;refine yv [_] I I call111 (IG E oo)<|au 0xc9f ?_;refine yv [_] I I call111 (IG C oo)<|au 0xc9f ?_;refine yv [_,_] I I call110 (fB _ _ oo oo)<|yv [_] I I call95 (SK C oo)<|yv [_] I I call95 (SK E oo)<|yv [_,_] I I call94 (sM _ _ oo oo)<|yv [_,_] I I call93 (IK _ _ (uK oo oo) oo oo)<|stV I I I Zl ?_;refine yn<|zt ?_;intro a w h;refine Xh h (Zd h I<|rC Zz) ?_;rw[wF]
theorem UR(ha:Zr C<=100000000000)(m:Zr E<=100000000000): Jk prog 26 [Qa C,Qa E] (Qa (C*E)):=by
 obtain ⟨f,n⟩:=DI ha;obtain ⟨l,i⟩:=DI m;have o:=BY C.num E.num;have g:=Bl C.den E.den;have j:=C.den_pos;have k:=E.den_pos;refine fnI func26 I ntmps26 λS w0 p=>zS (zx I λq=>zx I λs=>zz zeroValue47 λr=>au 0x6e3112 ?_);refine zv [_] I call91 (Oa C)<|zm I ?_;intro a w h;refine Zi h (λc h=>?_) (λc h=>?_);focus
  have e:C.den=1:=of_decide_eq_true c;refine gL h<|ldQ 7 Zz ?_;clear h;intro a w h;refine Zq 7 h I I<|Xn h (vs:=[_]) I call91 (Oa E) dd ?_;clear h;intro a w h;refine Zi h (λb h=>?_) (λb h=>?_)
  ·have d:E.den=1:=of_decide_eq_true b;refine gL h<|au 0x34fc7f34fc7f311e23e ?_;refine zv [_,_] I call92 (nL _ _ oo oo)<|zv [_] I call83 (SH _)<|stW I I Zl ?_;refine zn<|zt ?_;clear h;intro a w h;refine Xh h (Zd h I<|rC Zz) ?_;rw[show((C.num*E.num:Int):Rat)=C*E from Z2 e d]
  refine gL h<|au 0x23e ?_;clear h;intro a w h
 rotate_left;focus
  refine gL h<|zo 7 I I I<|zo 7 I I I<|au 0x22e ?_;clear h;intro a w h
 all_goals
  refine cW<|Zj h I<|gC h<|zk<|zs<|yE [0,1,2,3,5,7,4,6,8,9,10,11]<|au 0xe4fc4f ?_;clear h;refine au 0xe4fc4f ?_;refine au 0xce ?_;refine au 0xce ?_;refine au 0xc9f ?_;refine yv [_] I I call95 (SK C oo)<|yv [_] I I call95 (SK E oo)<|yv [_,_] I I call94 (sM _ _ oo oo)<|yv [_,_] I I call93 (IK _ _ (uK oo oo) oo oo)<|stV I I I Zl ?_;refine yn<|zt ?_;intro a w h;refine Xh h (Zd h I<|rC Zz) ?_;rw[vL]
theorem D6: Jk prog 34 [Qa C] (.int .i64 C.num.sign):=by
 refine fnI func34 I ntmps34 λS w0 a=>zS (zx I λb=>au 0x34fc7f3125 ?_);refine zv [_] I call112 (SL C.num)<|za I<|zn<|zt<|rtK I
theorem fH(b:-9223372036854775808<=z)(h1:z<=9223372036854775807): Jk prog 19 [.int .i64 z] (Qa (z:Rat)):=by
 refine fnI func19 I ntmps19 λS w0 d=>zS (zz zeroValue47 λc=>zn<|zS<|zm I<|zv [_] I call84 (C_ZOf z b h1)<|zv [_] I call83 (SH z)<|stW I I Zl ?_);refine zn<|zt ?_;intro a w h;refine Xh h (Zd h I<|rC Zz) ?_;rfl
theorem C_inv(a:C≠0)(h1:AW (sgZ (decide (C.num.sign<0)) C.den)<=400000000000)(b:(wds C.num.natAbs).length<=400000000000):
  Jk prog 93 [encZ (sgZ (decide (C.num.sign<0)) C.den),Ke C.num.natAbs] (Qa C⁻¹):=by
 rw[<-JG C a];exact IK _ _ (λh=>a (Rat.num_eq_zero.1 (Int.natAbs_eq_zero.1 h))) h1 b
theorem D7(d:E≠0)(hx:Zr C<=100000000000)(c:Zr E<=100000000000): Jk prog 85 [Qa C,Qa E] (.tuple #[Qa (C/E),.int .i64 0]):=by
 obtain ⟨e,g⟩:=DI c;have f:E.num≠0:=λh=>d (Rat.num_eq_zero.1 h);have hs:AW (sgZ (decide (E.num.sign<0)) E.den)=(wds E.den).length:=by unfold AW;rw[Mm]
 have hz:(wds E.num.natAbs).length=AW E.num:=rfl;have hinv:=Eo (sgZ (decide (E.num.sign<0)) E.den) E.num.natAbs oo;rw[JG E d] at hinv;refine fnI func85 I ntmps85 λS w0 i=>zS (zx I λl=>zx I λm=>zz zeroValue47 λk=>au 0x6e31125 ?_);refine zv [_] I call34 (D6 E)<|au 0x2ae ?_;refine kV I (λb=>(by exfalso;have:=eq_of_beq b;exact f<|Int.sign_eq_zero_iff_zero.1 this)) λb=>zk<|zs<|yF [0,3,6,7,1,2,4,5,8,9,10,11]<|au 0xce ?_;refine au 0xce ?_;refine au 0xe4fc4f ?_;refine yv [_] I I call34 (D6 E)<|yp I (.lss I I)<|yv [_] I I call95 (SK E oo)<|au 0xfbf ?_;refine yv [_] I I call156 (fC E.num)<|yv [_,_] I I call93 (C_inv E d oo oo) (yz I zeroValue47 λj=>stV I I I Zl ?_);refine au 0x6e6e31a ?_;refine zv [_,_] I call26 (UR C E⁻¹ hx oo)<|stW I I Zl ?_;refine au 0x625 ?_;intro a w h;refine Xh h (Qd h I (rC Zz)<|.tmp I) ?_;rw[vv]
theorem Ns: RN (Instr.fieldAt 202 (.pointer (some ⟨J,O,none⟩)) 0) (.pointer (some ⟨J,O+0,none⟩)):=λw=>by
 simp[go_sem]
theorem O5: (Go.builtin .len #[54] b0 b1 #[.slice F D A]).run prog w=.ok (.value (.int .i64 D)) w:=by
 simp[go_sem]
theorem ix_54(h:b4<D): RN (Instr.indexAt 54 (.slice (some ⟨U,K,none⟩) D A) (.int .i64 (b4:Int))) (.pointer (some ⟨U,K+b4*5,none⟩)):=λw=>by
 simpa using Qf runUnderlying54 sizeOf47 U K D A b4 h w
theorem Xc: (zeroValue 47).run prog w=.ok (Qa 0) w:=zeroValue47 w
theorem zeroZ: (zeroValue 45).run prog w=.ok (encZ 0) w:=zeroValue45 w
abbrev Pv(p:Rat×Rat×Rat): Value:=.agg #[.int .u64 (Yk p.1.num.natAbs),.string (Xr p.1.num.natAbs),.bool (decide (p.1.num<0)),.int .u64 (Yk (p.1.den-1)),.string (Xr (p.1.den-1)),
 .int .u64 (Yk p.2.1.num.natAbs),.string (Xr p.2.1.num.natAbs),.bool (decide (p.2.1.num<0)),.int .u64 (Yk (p.2.1.den-1)),.string (Xr (p.2.1.den-1)),
 .int .u64 (Yk p.2.2.num.natAbs),.string (Xr p.2.2.num.natAbs),.bool (decide (p.2.2.num<0)),.int .u64 (Yk (p.2.2.den-1)),.string (Xr (p.2.2.den-1))]
theorem QL: (zeroValue 48).run prog w=.ok (Pv (0,0,0)) w:=zeroValue48 w
theorem Uu{x y:Rat}: (Yk x.num.natAbs=Yk y.num.natAbs/\Xr x.num.natAbs=Xr y.num.natAbs/\decide (x.num<0)=decide (y.num<0)/\Yk (x.den-1)=Yk (y.den-1)/\Xr (x.den-1)=Xr (y.den-1))↔x=y:=by
 constructor
 ·rintro⟨h1,a,d,b,c⟩;have f:=Nx h1 a;have g:=Nx b c;have:=x.den_pos;have:=y.den_pos;refine Rat.ext ?_ oo;have e:(x.num<0)↔(y.num<0):=decide_eq_decide.1 d;omega
 rintro rfl;exact⟨rfl,rfl,rfl,rfl,rfl⟩
theorem str_eq: ((Xr U).toList=(Xr K).toList)↔Xr U=Xr K:=by have:=Ec (Xr U) (Xr K);rw[sv] at this;simpa using this
theorem oy: RN (do eqGuard .neq 47 e3 e4 (Qa C) (Qa E);Go.binOp .neq 47 (Qa C) (Qa E):Sem Value) (.bool (!decide (C=E))):=λw=>by
 simp[go_sem];have hq:=@Uu C E;rw[decide_eq_decide] at hq;simp only[<-str_eq] at hq;by_cases e:C=E
 ·obtain ⟨h1,b,d,c,a⟩:=hq.2 e;rw[if_pos h1,if_pos b,if_pos d,if_pos c,if_pos a];simp[e]
 rw[show decide (C=E)=false from by simp[e]]
 (repeat' split)<;>first|rfl|(exact absurd (hq.1 ⟨‹_›, ‹_›, ‹_›, ‹_›, ‹_›⟩) e)
theorem OS(A B:P): (if Yk C.num.natAbs=Yk E.num.natAbs then if (Xr C.num.natAbs).toList=(Xr E.num.natAbs).toList then if C.num<0↔E.num<0 then if Yk (C.den-1)=Yk (E.den-1) then
  if (Xr (C.den-1)).toList=(Xr (E.den-1)).toList then A else B else B else B else B else B)=if C=E then A else B:=by
 have hq:=@Uu C E;rw[decide_eq_decide] at hq;simp only[<-str_eq] at hq;by_cases e:C=E
 ·obtain ⟨h1,b,d,c,a⟩:=hq.2 e;rw[if_pos h1,if_pos b,if_pos d,if_pos c,if_pos a,if_pos e]
 rw[if_neg e]
 (repeat' split)<;>first|rfl|(exact absurd (hq.1 ⟨‹_›, ‹_›, ‹_›, ‹_›, ‹_›⟩) e)
theorem jZ: RN (Op.equalIn 9999 47 (Qa C) (Qa E)) (decide (C=E)):=λw=>by
 simp[go_sem];rw[OS];split<;>simp[*]
theorem En: Zr (-C)=Zr C:=by simp[Zr,AW,Rat.neg_num,Rat.neg_den]
theorem Yg: Zr (C-E)<=Zr C+Zr E+1:=by rw[Rat.sub_eq_add_neg];have:=Xo C (-E);rw[En] at this;exact this
theorem Qe(b:-9223372036854775808<=z)(h1:z<=9223372036854775807): Zr ((z:Int):Rat)<=2:=by
 have:(wds z.natAbs).length<=2:=Ce oo;unfold Zr AW;rw[Rat.num_intCast,Rat.den_intCast];have a:(wds 1).length<=2:=Ce dd;omega
theorem Kd:Zr 0<=2:=Qe 0 oo oo
theorem jf: Zr C⁻¹<=Zr C:=by
 by_cases a:C=0
 ·subst a;rw[Rat.inv_zero];exact aZ _
 rw[<-JG C a];have b:C.num≠0:=λh=>a (Rat.num_eq_zero.1 h);have:=Eo (sgZ (decide (C.num.sign<0)) C.den) C.num.natAbs oo;unfold AW at this;rw[Mm] at this;unfold Zr AW at *
 omega
theorem Yl: Zr (C/E)<=Zr C+Zr E:=by
 rw[vv];have:=Qh C E⁻¹;have:=jf E;omega
theorem Kq(b:-9223372036854775808<=z)(h1:z<=9223372036854775807)(a:-9223372036854775808<=r)(c:r<=9223372036854775807): Zr ((z:Rat)/(r:Rat))<=4:=by
 have:=Yl (z:Rat) (r:Rat);have:=Qe z b h1;have:=Qe r a c;omega
abbrev Qb(k:Nat): Value:=.int .i64 (k:Int)
theorem getD_mem(l:List P){i:Nat}{d:P}(h:i<l.length): l.getD i d∈l:=by
 simp only[List.getD,List.getElem?_eq_getElem h,et];exact uC h
theorem Bv{f:k4->P->k4}(l:List P)(s:k4)(i:Nat)(d:P)(h:i<l.length): (l.take (i+1)).foldl f s=f ((l.take i).foldl f s) (l.getD i d):=by
 rw[xa,List.getElem?_eq_getElem h,uS];simp[List.getD,List.getElem?_eq_getElem h]
theorem C_QNeg: Jk prog 120 [Qa C] (Qa (-C)):=by
 refine fnI func120 I ntmps120 λS w0 c=>zS (zx I λd=>zz Xc λb=>zn<|zs<|yE [0,1,3,4,2,5,6]<|au 0xe4fc4f ?_);refine yp I (.fA I Sa)<|ldY BO ?_;refine yv [_] I I call211 (nK C.num)<|yp I (.build [(_,_),(_,_)] I<|PU _ _ _ _ _)<|stV I I I Zl ?_;refine yn<|zt ?_;intro a w h;refine Xh h (Zd h I<|rC Zz) ?_;unfold Qa;rw[Rat.neg_num,Rat.neg_den]
theorem fG(ha:Zr C<=10000000000)(g:Zr E<=10000000000): Jk prog 42 [Qa C,Qa E] (Qa (C-E)):=by
 refine fnI func42 I ntmps42 λS w0 d=>zS (zx I λf=>zx I λi=>zz Xc λe=>zn<|zs<|yE [0,1,2,3,4]<|au 0xce ?_);refine au 0xce ?_;refine au 0xccf ?_;have c:=En (E);refine au 0x94f ?_;have b:=Xo (C) (-E);refine stV I I I Zl ?_;refine yn<|zt ?_;intro a w h;refine Xh h (Zd h I<|rC Zz) ?_;rw[<-Rat.sub_eq_add_neg]
theorem C_tadd(σ:List (Nat×Obj))(Φ:List Zs)(hs:Zr C<=10000000000)(hx:Zr E<=10000000000):
  GX prog 119 [.pointer (some ⟨U,0,none⟩),Qa E] ((U,.cells (Qa C).cells 202 (0,0))::σ) Φ (λv σ' Φ'=>v=.tuple #[]/\σ'=(U,.cells (Qa (C+E)).cells 202 (0,0))::σ/\Φ'=Φ):=by
 refine fn_introM func119 I ntmps119 nb ?_;intro S w0 a w e h;refine gC h<|zS (zx I λd=>zn<|yE [0,1,2,3,4,5,6,7,8,9]<|au 0x99 ?_);refine yp I (.nilCheck I)<|yp I (.fA I Ns)<|au 0xce ?_;clear h;refine au 0xce ?_;refine au 0x94f ?_;have c:=Xo (C) (E);refine yp I (.nilCheck I)<|yp I (.fA I Ns)<|stV I I I Zl ?_;refine yn ?_;intro a w h;refine XA h (A2 I) ⟨rfl,rfl,rfl⟩ (tT _ _) (λ_ h=>h)
theorem WO(l:List Rat)(σ:List (Nat×Obj))(Φ:List Zs)(A:l.length<=90)(hs:Zr C<=1000000)(hx:∀x∈l,Zr x<=50000000)(hR:Row c4 (cellsOf Qa l)∈Φ):
  GX prog 118 [.func (.func 119) #[.pointer (some ⟨U,0,none⟩)] #[],.slice c4 l.length a7] ((U,.cells (Qa C).cells 202 (0,0))::σ) Φ (λv σ' Φ'=>v=.tuple #[]/\σ'=(U,.cells (Qa (l.foldl (· + ·) C)).cells 202 (0,0))::σ/\Φ'=Φ):=by
 refine fn_introM func118 I ntmps118 nb ?_;intro S w0 a w y h;refine gC h<|au 0x82447f431 ?_;clear h;intro a w h;refine Jl (fun(i:Nat) a w=>i<=l.length/\(Zr ((l.take i).foldl (· + ·) C)<=1000000+50000001*i)/\St 16 S w0 [(0,.func (.func 119) #[.pointer (some ⟨U,0,none⟩)] #[]),(6,.slice c4 l.length a7),(7,nI l.length),(8,nI i)] ((U,bV (Qa ((l.take i).foldl (· + ·) C)) 202)::σ) (Φ) a w) (λi=>l.length-i) 0 (⟨cX _,by simpa using hs,by exact(h).sub sA⟩) ?_;clear h;rintro i a w ⟨q,m,h⟩;refine gC h<|au 0x12d31 ?_;intro a w h;refine Zb h I (λg=>?_) (λg=>?_)
 ·have d:i<l.length:=dT g;obtain ⟨o,n,rfl⟩:=h.row_addr (ad:=c4) (M:=cellsOf Qa l) mm (nE 5);have hl:=hx (l.getD i 0) (getD_mem _ d);have e:=Bv (f:=(· + ·)) l C i 0 d;have z:=Xo ((l.take i).foldl (· + ·) C) (l.getD i 0);refine gC h<|au 0x98f31817 ?_;refine zD I mm (cells_lt (k:=5) dd (λ_=>rfl) l i oo) isAgg47 sizeOf47 (Zh (k:=5) (λ_=>rfl) ((λ_=>rfl)) l 0 i oo) (.inl I) ?_;refine zz Xc λu=>stW I I Zl ?_;refine au 0x6e432 ?_;clear h;intro a w h;refine Zc<|FH h y (fs:=[.pointer (some ⟨U,0,none⟩)]) (cs:=[]) I (vs:=[_]) I call119 (C_tadd U ((l.take i).foldl (· + ·) C) (l.getD i 0) ((u,_)::σ) Φ oo oo) (List.Perm.swap _ _ _) ss ss ?_;clear h;rintro t r p a w ⟨rfl,rfl,rfl⟩ h;refine gL h<|zn<|zr<|zp (.pN (i+1)<|.add I I)<|au 0x24 ?_;clear h;intro a w h;rw[<-e] at h;exact⟨i+1,⟨oo,by rw[e];omega,tO h⟩,oo⟩
 have j:l.length=i:=dF g;subst j;refine wp_exit ?_;refine XA h (A2 I) ⟨rfl,by rw[w9],rfl⟩ (fT _) (λ_ h=>h)
theorem C_QSum(g:e5.length<=90)(hx:∀x∈e5,Zr x<=50000000):
  Xi prog 41 [.slice F e5.length D] [Row F (cellsOf Qa e5)] (Qa (e5.foldl (· + ·) 0)):=by
 refine fnI func41 I ntmps41 λS w0 d=>zS (zz Xc λe=>zn<|zS (zz zeroValue202 λf=>zn<|zS<|zp (.makeFunc [_] [] I I)<|zm I ?_));intro a w h;refine Zc<|Vb h d (vs:=[_,_]) I call118 (WO f 0 F D e5 [(e,_)] [Row F (cellsOf Qa e5)] g (bp Kd dd) hx ae) (cr _) ss ss ?_;clear h;rintro v6 i b a w ⟨rfl,rfl,rfl⟩ h;refine gL h<|zn<|zS<|zp (.fA I Ns)<|au 0x6e ?_;refine stW I I Zl ?_;refine zn<|zt ?_;clear h;intro a w h;refine Xh h (Zd h I<|rC Zz) ?_;rfl
theorem C_QOf(i:-9223372036854775808<=z)(h1:z<=9223372036854775807)(f:-9223372036854775808<=r)(k:r<=9223372036854775807)(hd:r≠0):
  Jk prog 20 [.int .i64 z,.int .i64 r] (.tuple #[Qa ((z:Rat)/(r:Rat)),.int .i64 0]):=by
 refine fnI func20 I ntmps20 λS w0 g=>zS (zz Xc λj=>au 0xf1f43125 ?_);intro a w h;have c:=Qe (z) oo oo;refine gL h<|au 0xf1f4 ?_;have b:=Qe (r) oo oo;refine zv [_,_] I call85 (D7 _ _ (by exact λe=>hd<|Rat.intCast_eq_zero_iff.1 e) oo oo)<|au 0xbb ?_;refine stW I I Zl ?_;refine au 0x625 ?_;clear h;intro a w h;refine Xh h (Qd h I (rC Zz)<|.tmp I) ?_;rfl
def digS(n:Nat): ByteArray:=if n<10 then ⟨#[UInt8.ofNat (48+n)]⟩ else ⟨#[UInt8.ofNat (48+n/10),UInt8.ofNat (48+n%10)]⟩
def textZ(z:Int): ByteArray:=if z<0 then ⟨#[45]⟩++digS z.natAbs else digS z.natAbs
def textQ(x:Rat): ByteArray:=if x.den=1 then textZ x.num else textZ x.num++⟨#[47]⟩++digS x.den
def textU(l:List Rat): Nat->ByteArray
 | 0=>⟨#[]⟩
 | i+1=>(if 0<i then textU l i++⟨#[32]⟩ else textU l i)++textQ (l.getD i 0)
def tab1:ByteArray:=⟨#[48,49,50,51,52,53,54,55,56,57,97,98,99,100,101,102,103,104,105,106,107,108,109,110,111,112,113,114,115,116,117,118,119,120,121,122]⟩
def tab2:ByteArray:=⟨#[48,48,48,49,48,50,48,51,48,52,48,53,48,54,48,55,48,56,48,57,49,48,49,49,49,50,49,51,49,52,49,53,49,54,49,55,49,56,49,57,50,48,50,49,50,50,50,51,50,52,50,53,50,54,50,55,50,56,50,57,51,48,51,49,51,50,51,51,51,52,51,53,51,54,51,55,51,56,51,57,52,48,52,49,52,50,52,51,52,52,52,53,52,54,52,55,52,56,52,57,53,48,53,49,53,50,53,51,53,52,53,53,53,54,53,55,53,56,53,57,54,48,54,49,54,50,54,51,54,52,54,53,54,54,54,55,54,56,54,57,55,48,55,49,55,50,55,51,55,52,55,53,55,54,55,55,55,56,55,57,56,48,56,49,56,50,56,51,56,52,56,53,56,54,56,55,56,56,56,57,57,48,57,49,57,50,57,51,57,52,57,53,57,54,57,55,57,56,57,57]⟩
theorem jd: AW (-z)=AW z:=by unfold AW;rw[Int.natAbs_neg]
theorem VK(hd:D≠0): (mkRat z D).num.sign=z.sign:=by
 cases h:mkRat z D with
 | mk' b d' e c =>
  obtain ⟨m,hm,a,_⟩:=Rat.mkRat_num_den hd h;rw[a,Int.sign_mul,show((m:Nat):Int).sign=1 from tU oo,Int.mul_one]
theorem S6: (C-E).num.sign=(C.num*(E.den:Int)-E.num*(C.den:Int)).sign:=by
 rw[Rat.sub_def',VK _ _ (uK C.den_nz E.den_nz)]
theorem YF(h:c6.den=e2.den): (c6-e2).num.sign=(c6.num-e2.num).sign:=by
 rw[S6, <-h, <-Int.sub_mul,Int.sign_mul,show((c6.den:Nat):Int).sign=1 from tU (by have:=c6.den_pos;omega),Int.mul_one]
def Fc(i k:Int): Int:=if i<k then -1 else if i>k then 1 else 0
def Do(t:Rat): Bool:=decide (t.num.sign>=0) && decide ((t-((1:Int):Rat)).num.sign<=0)
theorem C_ZSub(hx:AW z<=400000000000)(b:AW r<=400000000000): Jk prog 210 [encZ z,encZ r] (encZ (z-r)):=by
 refine fnI func210 I ntmps210 λS w0 c=>zS (zx I λe=>zx I λf=>zz zeroZ λd=>zn<|zs<|yE [0,1,2,3,4]<|au 0x54f ?_);refine au 0x54f ?_;refine yv [_] I I call211 (nK r)<|yv [_,_,_] I I call171 (KV z (-r) hx (by rw[jd];exact b))<|stV I I I Qi ?_;refine yn<|zt ?_;intro a w h;refine Xh h (Zd h I<|rC Jj) ?_;rw[Int.sub_eq_add_neg]
theorem nM(hx:AW z<=400000000000)(a:AW r<=400000000000): Jk prog 116 [encZ z,encZ r] (.int .i64 (z-r).sign):=by
 refine fnI func116 I ntmps116 λS w0 c=>zS (zx I λd=>zx I λb=>au 0xdede3125 ?_);refine zv [_,_] I call210 (C_ZSub z r hx a)<|zv [_] I call112 (SL _)<|za I<|zn<|zt<|rtK I
theorem Mg(ha:Zr C<=100000000000)(l:Zr E<=100000000000): Jk prog 39 [Qa C,Qa E] (.int .i64 (C-E).num.sign):=by
 obtain ⟨d,m⟩:=DI ha;obtain ⟨k,f⟩:=DI l;have o:=BY C.num (E.den:Int);have j:=BY E.num (C.den:Int);have e:AW (C.den:Int)=(wds C.den).length:=rfl;have n:AW (E.den:Int)=(wds E.den).length:=rfl;have g:=C.den_pos;have i:=E.den_pos;refine fnI func39 I ntmps39 λS w0 p=>zS (zx I λq=>zx I λr=>au 0x1bf31125 ?_);refine ldZ BO ?_;refine au 0x1bf ?_;refine ldZ BO ?_;refine zp (.binOp I I (λ_=>Mr _ _ (C.den-1) (E.den-1) _)) ?_;intro a w h;refine Zi h (λb h=>?_) (λb h=>?_)
 ·have c:C.den=E.den:=dT b;refine wpList_nil<|cW<|Qq h I ?_;refine gC h<|au 0x34fc7f34fc7f31 ?_;refine zv [_,_] I call116 (nM C.num E.num oo oo)<|za I<|zn<|zt<|rtK ?_;rw[YF c]
 have c:C.den≠E.den:=dF b;refine wpList_nil<|cW<|Zj h I<|gC h<|zk<|zs<|yE [0,1,2,5,6,7,3,4,8,9,10,11]<|au 0xe4fc4f ?_;clear h;refine au 0xce ?_;refine au 0xe4fc4f ?_;refine au 0xce ?_;refine yv [_] I I call111 (IG E oo)<|au 0xc9f ?_;refine yv [_] I I call111 (IG C oo)<|au 0xc9f ?_;refine yv [_,_] I I call116 (nM _ _ oo oo)<|au 0x6a4e ?_;refine rtK ?_;rw[S6]
theorem fi: Jk prog 117 [.int .i64 z] (.bool false):=by
 refine fnI func117 I ntmps117 λS w0 a=>au 0x62571f44312531 ?_;refine rtK ?_;simp
theorem QD: Jk prog 40 [.int .i64 z,.int .i64 r] (.int .i64 (Fc z r)):=by
 refine fnI func40 I ntmps40 λS w0 g=>au 0x4312531 ?_;refine zv [_] I call117 (fi _)<|au 0x43125 ?_;refine zv [_] I call117 (fi _)<|au 0x431125 ?_;intro a w h;refine Zi h (λe h=>(by exfalso;cases e)) (λe h=>?_);refine wpList_nil<|cW<|Zj h I<|gC h<|au 0x43117 ?_;clear h;intro a w h;refine Zi h (λd h=>(by exfalso;cases d)) (λd h=>?_);refine wpList_nil<|cW<|Zj h I<|gC h<|au 0x2d443117 ?_;clear h;intro a w h;refine Zb h I (λb=>?_) (λb=>?_)
 ·refine gC h<|au 0x62531 ?_;refine rtK ?_;unfold Fc;have:=of_decide_eq_true b;simp[this]
 refine gC h<|au 0x2c0f443117 ?_;clear h;intro a w h;refine Zb h I (λc=>?_) (λc=>?_)
 ·refine gC h<|au 0x62531 ?_;refine rtK ?_;unfold Fc;have h1:=of_decide_eq_false b;have f:=of_decide_eq_true c;rw[if_neg h1,if_pos f]
 refine gC h<|au 0x625317 ?_;refine rtK ?_;unfold Fc;have h1:=of_decide_eq_false b;have f:=of_decide_eq_false c;rw[if_neg h1,if_neg f]
theorem eN(ht:Zr C<=100000000): Jk prog 22 [Qa C] (.bool (Do C)):=by
 refine fnI func22 I ntmps22 λS w0 d=>zS (zx I λe=>za I<|zn<|zs<|yE [0,1,2,3,4,5,6,7,8,9]<|au 0xce ?_);refine yv [_] I I call34 (D6 _)<|yp I (.geq I I) ?_;refine Jn (λb  =>?_) (λb  =>?_);focus
  refine au 0x9 ?_;refine yg I I I I mr isAgg47 sizeOf47 Zz ?_;refine Xp I I I kk (vs:=[_]) I call19 (fH _ oo oo) dd ?_;have c:=Qe (1) oo oo;refine Xp I I I kk (vs:=[_,_]) I call39 (Mg C (((1:Int):Rat)) oo oo) dd ?_;refine yq I I I (.leq I I)<|au 0x6a4e76f ?_;intro a w h
 rotate_left;focus
  refine au 0x9 ?_;refine yo 6 I I I I<|yo 6 I I I I<|yo 6 I I I I<|yo 6 I I I I<|au 0x6a4ef4f ?_;intro a w h
 all_goals
  refine Xh h (Zd h I<|.tmp I) ?_;unfold Do;rw[b];rfl
theorem WM: Jk prog 33 [Qa C] (.bool (decide (C.num.sign<0))):=by
 refine fnI func33 I ntmps33 λS w0 a=>zS (zx I λb=>au 0x625db1f6e3125 ?_);refine rtK I
theorem fl(d:-9223372036854775808<=z)(h1:z<=9223372036854775807): Jk prog 21 [.int .i64 z] (Qa (((z:Int):Rat)/((2:Int):Rat))):=by
 refine fnI func21 I ntmps21 λS w0 c=>zS (zz Xc λe=>au 0x74f4312 ?_);intro a w h;have b:=Kq (z) (2) oo oo oo oo;refine gL h<|au 0xbb4 ?_;refine zz Xc λf=>stW I I Zl ?_;refine au 0x6e3125 ?_;refine stW I I Zl ?_;refine zn<|zt ?_;clear h;intro a w h;refine Xh h (Zd h I<|rC Zz) ?_;rfl
theorem Mq(a:-9223372036854775807<=z)(h1:z<=9223372036854775807): RN (Op.unary .neg (.int .i64 z)) (.int .i64 (-z)):=λw=>by
 have:(Op.unary .neg (.int .i64 z)).run prog w=.ok (.int .i64 (IntKind.i64.wrap (0-z))) w:=by simp[Op.unary,Op.intArith]
 rw[this,wrap_i64 _ oo oo];congr 2;omega
theorem qE: RN (Instr.fieldAt 91 (.pointer (some ⟨J,O,none⟩)) 0) (.pointer (some ⟨J,O+0,none⟩)):=λw=>by
 simp[go_sem]
theorem qD: RN (Instr.fieldAt 91 (.pointer (some ⟨J,O,none⟩)) 1) (.pointer (some ⟨J,O+1,none⟩)):=λw=>by
 simp[go_sem]
theorem qT: RN (Go.convert 89 2 (.int .u32 z)) (.int .i64 (IntKind.i64.wrap z)):=λw=>by
 simp[go_sem]
theorem kj(a:IntKind.i64.wrap z=z): RN (Go.convert 89 2 (.int .u32 z)) (.int .i64 z):=λw=>by
 rw[qT,a]
def qv(N D:Int): Rat:=((N:Int):Rat)/((max D 1:Int):Rat)
theorem M1(a:-9223372036854775808<=z)(h1:z<=9223372036854775807)(b:0<=r)(c:r<=4294967295): Zr (qv z r)<=4:=Kq z (max r 1) a h1 oo oo
theorem rp: (Go.builtin .max #[89,89] b0 b1 #[.int .u32 z,.int .u32 r]).run prog w=.ok (.value (.int .u32 (max z r))) w:=by
 simp[go_sem]<;>(try rw[wT])<;>(try split)<;>(try split)<;>(try omega)
abbrev Pu(q:Int×Int): Value:=.agg #[.int .i64 q.1,.int .u32 q.2]
def OkQ(q:Int×Int): Prop := -9223372036854775808<=q.1/\q.1<=9223372036854775807/\0<=q.2/\q.2<=4294967295
def qvp(q:Int×Int): Rat:=qv q.1 q.2
theorem FP{q:Int×Int}(h:OkQ q): Zr (qvp q)<=4:=M1 _ _ h.1 h.2.1 h.2.2.1 h.2.2.2
theorem lp(f:-9223372036854775808<=z)(h1:z<=9223372036854775807)(d:0<=r)(i:r<=4294967295): Jk prog 18 [.agg #[.int .i64 z,.int .u32 r]] (Qa (qv z r)):=by
 refine fnI func18 I ntmps18 λS w0 e=>zS (zx I λc=>zz Xc λg=>zn<|zS<|zp (.fA I qE)<|au 0x01f ?_);refine zp (.fA I qD)<|au 0xd1f ?_;refine zp (.builtin [_,_] I (λw ty cs=>rp _ _ w ty cs))<|zp (.convert I<|kj _<|wrap_i64 _ oo oo)<|au 0x74f ?_;have b:=Kq (z) (max r 1) oo oo oo oo;refine au 0xbb4 ?_;refine zz Xc λj=>stW I I Zl ?_;refine au 0x6e3125 ?_;refine stW I I Zl ?_;refine zn<|zt ?_;intro a w h;refine Xh h (Zd h I<|rC Zz) ?_;rfl
theorem Yu: (Go.builtin .len #[61] b0 b1 #[.slice F D A]).run prog w=.ok (.value (.int .i64 D)) w:=by
 simp[go_sem]
theorem FT(h:b4<D): RN (Instr.indexAt 61 (.slice (some ⟨U,K,none⟩) D A) (.int .i64 (b4:Int))) (.pointer (some ⟨U,K+b4,none⟩)):=λw=>by
 simpa using Qf runUnderlying61 sizeOf3 U K D A b4 h w
def upQ(q:Rat): Nat->Rat
 | 0=>q
 | p+1=>upQ q p*(((p+1:Nat):Int):Rat)
def NG(q:Rat): Nat->Rat
 | 0=>q
 | n+1=>NG q n/(((n+1:Nat):Int):Rat)
def Lo(n:Nat)(l:List Nat): Rat:=NG (l.foldl upQ 1) n
def pT(i j k:Nat): Rat:=((2:Int):Rat)*Lo (i+j+k+2) [i,j,k]
theorem JC(q:Rat): ∀p,p<=1000000->Zr (upQ q p)<=Zr q+2*p
 | 0,_=>aZ _
 | p+1,h=>by
  have h1:=JC q p oo;have a:=Qe ((p+1:Nat):Int) oo oo;have b:=Qh (upQ q p) (((p+1:Nat):Int):Rat);show Zr (upQ q p*_)<=_;omega
theorem JE(q:Rat): ∀p,p<=1000000->Zr (NG q p)<=Zr q+2*p
 | 0,_=>aZ _
 | p+1,h=>by
  have h1:=JE q p oo;have a:=Qe ((p+1:Nat):Int) oo oo;have b:=Yl (NG q p) (((p+1:Nat):Int):Rat);show Zr (NG q p/_)<=_;omega
theorem Ix:Zr 1<=2:=Qe 1 oo oo
theorem MZ:∀(l:List Nat) (q:Rat),(∀x∈l,x<=48)->Zr (l.foldl upQ q)<=Zr q+96*l.length
 | [],q,_=>by simp
 | x::l,q,h=>by
  have h1:=MZ l (upQ q x) (λy a=>h y (aX _ a));have c:=h x ae;have b:=JC q x oo;simp only[s6,dc];omega
theorem int_ne: ((((J+1:Nat):Int):Rat))≠0:=λe=>by have:=Rat.intCast_eq_zero_iff.1 e;omega
theorem lD(N:U<=200)(hl:X.length<=10)(hx:∀x∈X,x<=48):
  Xi prog 189 [.int .i64 ((U:Nat):Int),.slice c4 X.length a7] [Row c4 (List.map Qb X)] (Qa (Lo U X)):=by
 refine fnI func189 I ntmps189 λS w0 O=>zS (zz Xc λv=>au 0xf1f312 ?_);intro a w h;have z:=Qe (1) oo oo;refine gL h (zz Xc λt=>stW I I Zl ?_);refine au 0x82420f43112 ?_;clear h;intro a w h;refine lpG h [0,4,5,11,12] pkL (λY Z (k:Nat) a w=>k<=X.length/\St 42 S w0 ((13,nI k)::Y) [(t,bV (Qa ((X.take k).foldl upQ 1)) 47),(v,bV (Qa<|0) 47)] Z a w) (λk=>X.length-k) 0 (⟨cX _,by exact(h).sub sA⟩) ?_;clear h;rintro k a w ⟨B,h⟩;refine gC h<|au 0x12d31 ?_;intro a w h;refine Zb h I (λe=>?_) (λe=>?_)
 ·have b:k<X.length:=dT e;obtain ⟨H,F,rfl⟩:=h.row_addr (ad:=c4) (M:=List.map Qb X) mm nF;have K:=hx (X.getD k 0) (getD_mem _ b);have q:=MZ (X.take k) 1 (λx r=>hx x (tK r));rw[db] at q;have y:=Ix;refine gC h<|au 0xe0f31817 ?_;refine zD I mm (by rw[az];omega) isAgg3 sizeOf3 (Zn (enc:=Qb) (l:=X) 0 oo) (.inr I) ?_;refine au 0x82443125 ?_;clear h;intro a w h;refine lpG h [0,4,5,11,12,13,17] pkL (λY Z (i:Nat) a w=>i<=X.getD k 0/\St 42 S w0 ((18,nI i)::Y) [(t,bV (Qa<|upQ ((X.take k).foldl upQ 1) i) 47),(v,bV (Qa<|0) 47)] Z a w) (λi=>X.getD k 0-i) 0 (⟨cX _,by exact(h).sub sA⟩) ?_;clear h;rintro i a w ⟨D,h⟩;refine gC h<|au 0x12d31 ?_;intro a w h;refine Zb h I (λd=>?_) (λd=>?_)
  ·have u:i<X.getD k 0:=dT d;have L:=JC ((X.take k).foldl upQ 1) i oo;refine gC h<|au 0x25431817 ?_;refine yE [0,1,2,3,4,5]<|au 0xce ?_;clear h;refine au 0x9 ?_;refine yp I (.pN (i+1)<|.add I I)<|au 0xe9f ?_;have C:=Qe (((i+1:Nat):Int)) oo oo;refine au 0xb2f ?_;have G:=Qh (upQ ((X.take k).foldl upQ 1) i) (((((i+1:Nat):Int):Int):Rat));refine stV I I I Zl ?_;refine yn<|zr<|zp (.pN (i+1)<|.add I I)<|au 0x24 ?_;intro a w h;exact⟨i+1,⟨oo,tO h⟩,oo⟩
  have p:X.getD k 0=i:=dF d;subst p;refine gC h<|ze<|zr<|zp (.pN (k+1)<|.add I I)<|au 0x24 ?_;clear h;intro a w h;rw[<-Bv (f:=upQ) X 1 k 0 b] at h;exact⟨k+1,⟨oo,tO h⟩,oo⟩
 have o:X.length=k:=dF e;subst o;refine gC h<|au 0x82443110e ?_;clear h;intro a w h;rw[w9] at h;refine lpG h [0,4,5,11,12,13,28] pkL (λY Z (m:Nat) a w=>m<=U/\St 42 S w0 ((29,nI m)::Y) [(t,bV (Qa<|NG (X.foldl upQ 1) m) 47),(v,bV (Qa<|0) 47)] Z a w) (λm=>U-m) 0 (⟨cX _,by exact(h).sub sA⟩) ?_;clear h;rintro m a w ⟨E,h⟩;refine gC h<|au 0x12d31 ?_;intro a w h;refine Zb h I (λg=>?_) (λg=>?_)
 ·have s:m<U:=dT g;have J:=JE (X.foldl upQ 1) m oo;have q:=MZ X 1 hx;have y:=Ix;refine gC h<|au 0x25431817 ?_;refine yE [0,1,2,3,4,5,6,7,8]<|au 0xce ?_;clear h;refine au 0x9 ?_;refine yp I (.pN (m+1)<|.add I I)<|au 0xe9f ?_;have A:=Qe (((m+1:Nat):Int)) oo oo;refine yv [_,_] I I call85 (D7 _ _ int_ne oo oo)<|au 0x9e9e9 ?_;refine stV I I I Zl ?_;refine yn<|zr<|zp (.pN (m+1)<|.add I I)<|au 0x24 ?_;intro a w h;exact⟨m+1,⟨oo,tO h⟩,oo⟩
 have j:U=m:=dF g;subst j;refine gC h<|au 0x6e310e ?_;refine stW I I Zl ?_;refine zn<|zt ?_;clear h;intro a w h;refine Xh h (Zd h I<|rC Zz) ?_;rfl
theorem Xa: (Instr.buildSlice 61 2 [(0,.int .i64 z),(1,.int .i64 r)].toArray).run prog w=.ok (.slice (some ⟨w.heap.size,0,none⟩) 2 2) (w.alloc (.cells #[.int .i64 z,.int .i64 r] 3 (0,0))):=by
 simp[go_sem]
abbrev Ib(x:Int): Value:=.int .i64 x
def orI:List Int->Int
 | []=>0
 | x::l=>if x≠0 then x else orI l
theorem ZP:∀(l:List Int) (i:Nat),(∀j,j<i->l.getD j 0=0)->i<l.length->l.getD i 0≠0->orI l=l.getD i 0
 | [],i,_,h,_=>by simp at h
 | x::l,0,_,_,h=>by rw[orI];exact if_pos (by simpa using h)
 | x::l,i+1,hz,hl,h=>by
  have a:x=0:=by simpa using hz 0 oo
  rw[orI,if_neg (by simp[a]),ZP l i (λj hj=>by simpa using hz (j+1) oo) (by simpa using hl) (by simpa using h)];simp
theorem TC:∀(l:List Int),(∀j,j<l.length->l.getD j 0=0)->orI l=0
 | [],_=>rfl
 | x::l,hz=>by
  have a:x=0:=by simpa using hz 0 ss
  rw[orI,if_neg (by simp[a]),TC l (λj hj=>by simpa using hz (j+1) (by simpa using hj))]
def fZ:List Rat->Nat->Int
 | [],_ => -1
 | x::l,i=>if x.num.sign<0 then (i:Int) else fZ l (i+1)
theorem Pg(h:D<i6.length): fZ (i6.drop D) D=if (i6.getD D 0).num.sign<0 then (D:Int) else fZ (i6.drop (D+1)) (D+1):=by
 rw[oF h,fZ];simp[List.getD,h]
theorem Ub:∀(l:List Rat) (i:Nat),decide (fZ l i>=0)=l.any (λx:Rat=>decide (x.num.sign<0))
 | [],i=>by rw[fZ];simp
 | x::l,i=>by
  rw[fZ,vf, <-Ub l (i+1)];by_cases h:x.num.sign<0
  ·rw[if_pos h,decide_eq_true h,Bool.true_or];exact decide_eq_true oo
  rw[if_neg h,decide_eq_false h,wz]
def cfN(E:List Rat)(i k:Nat): Int:=orI [(E.getD k 0-E.getD i 0).num.sign,Fc (i:Int) (k:Int)]
theorem C_Or(l:List Int)(p:l.length<=1000): Xi prog 38 [.slice F l.length D] [Row F (List.map Ib l)] (.int .i64 (orI l)):=by
 refine fnI func38 I ntmps38 λS w0 o=>au 0x82420f431125312531 ?_;intro a w h;refine lpG h [3,6,7] pkL (λY Z (i:Nat) a w=>i<=l.length/\(∀j,j<i->l.getD j 0=0)/\St 18 S w0 ((8,nI i)::Y) [] Z a w) (λi=>l.length-i) 0 (⟨cX _,λj hj=>absurd hj oo,by exact(h).sub sA⟩) ?_;clear h;rintro i a w ⟨n,b,h⟩;refine gC h<|au 0x12d31 ?_;intro a w h;refine Zb h I (λe=>?_) (λe=>?_)
 ·have f:i<l.length:=dT e;obtain ⟨m,k,rfl⟩:=h.row_addr (ad:=F) (M:=List.map Ib l) mm nF;refine gC h<|au 0xe0f31817 ?_;refine zD I mm (by rw[az];omega) isAgg3 sizeOf3 (Zn (enc:=Ib) (l:=l) 0 oo) (.inr I) ?_;refine au 0x71f443125 ?_;clear h;intro a w h;refine Zi h (λd h=>?_) (λd h=>?_)
  ·refine wpList_nil<|cW<|Qq h I ?_;refine gC h<|au 0x625431 ?_;refine rtK ?_;rw[ZP l i b f (by simpa using d)]
  refine wpList_nil<|cW<|Zj h I<|gC h<|zk<|zr<|zp (.pN (i+1)<|.add I I)<|au 0x24 ?_;clear h;intro a w h;exact⟨i+1,⟨oo,λj hj=>by
   rcases el j i with h1|h1
   ·exact b j h1
   rw[show j=i by omega];simpa using d,tO h⟩,oo⟩
 have g:l.length=i:=dF e;subst g;refine gC h<|au 0x6254310e ?_;refine rtK ?_;rw[TC l b]
theorem SO(p:e5.length<=1000000): Xi prog 113 [.slice F e5.length D,.func (.func 33) #[] #[]] [Row F (cellsOf Qa e5)] (.int .i64 (fZ e5 0)):=by
 refine fnI func113 I ntmps113 λS w0 o=>au 0x82447f43112531 ?_;intro a w h;refine lpG h [0,1,7] pkL (λY Z (i:Nat) a w=>i<=e5.length/\(fZ e5 0=fZ (e5.drop i) i)/\St 19 S w0 ((8,nI i)::Y) [] Z a w) (λi=>e5.length-i) 0 (⟨cX _,rfl,by exact(h).sub sA⟩) ?_;clear h;rintro i a w ⟨n,b,h⟩;refine gC h<|au 0x12d31 ?_;intro a w h;refine Zb h I (λf=>?_) (λf=>?_)
 ·have e:i<e5.length:=dT f;obtain ⟨m,j,rfl⟩:=h.row_addr (ad:=F) (M:=cellsOf Qa e5) mm (nE 5);refine gC h<|au 0x98f4443125431817 ?_;refine zD I mm (cells_lt (k:=5) dd (λ_=>rfl) e5 i oo) isAgg47 sizeOf47 (Zh (k:=5) (λ_=>rfl) ((λ_=>rfl)) e5 0 i oo) (.inl I) ?_;clear h;intro a w h;refine Zc<|Cl h (fs:=[]) (cs:=[]) I (vs:=[_]) I call33 (WM<|e5.getD i 0) dd ?_;clear h;intro a w h;refine Zi h (λd h=>?_) (λd h=>?_)
  ·refine wpList_nil<|cW<|Qq h I ?_;refine gC h<|au 0x625431 ?_;refine rtK ?_;rw[b,Pg e5 i e,if_pos (of_decide_eq_true d)]
  refine wpList_nil<|cW<|Zj h I<|gC h<|zk<|zr<|zp (.pN (i+1)<|.add I I)<|au 0x24 ?_;clear h;intro a w h;exact⟨i+1,⟨oo,by rw[b,Pg e5 i e,if_neg (of_decide_eq_false d)],tO h⟩,oo⟩
 have g:e5.length=i:=dF f;subst g;refine gC h<|au 0x625310e ?_;refine rtK ?_;rw[b,tf];rfl
theorem W5(a:e5.length<=1000000): Xi prog 35 [.slice F e5.length D,.func (.func 33) #[] #[]] [Row F (cellsOf Qa e5)] (.bool (e5.any (λx:Rat=>decide (x.num.sign<0)))):=by
 refine fnI func35 I ntmps35 λS w0 b=>au 0x44312531 ?_;refine zw [_,_] I call113 (SO _ _ e5 a)<|au 0x62500f ?_;refine rtK ?_;rw[Ub]
theorem sc(q:A<i6.length)(hk:b4<i6.length)(g:∀x∈i6,Zr x<=50000000):
  Xi prog 37 [.int .i64 ((A:Nat):Int),.int .i64 ((b4:Nat):Int),.pointer (some ⟨h8,a7,none⟩)] [Row (some ⟨h8,a7,none⟩) [.slice F i6.length D],Row F (cellsOf Qa i6)] (.int .i64 (cfN i6 A b4)):=by
 have p:=g _ (getD_mem i6 (d:=0) q);have l:=g _ (getD_mem i6 (d:=0) hk);refine fn_intro func37 I ntmps37 nb ?_;intro S w0 a n h;obtain ⟨f,e,rfl⟩:=h.row_addr (ad:=F) (M:=cellsOf Qa i6) mm (nE 5);refine gC h<|au 0x12531 ?_;refine yE [0,1,2,3,4,5,6,7,9,10,8,11,12,13,14] ?_;clear h;refine Zf (b:=h8) (off:=a7) (j:=0) (M:=[.slice (some ⟨f,e,none⟩) i6.length D]) (v:=.slice (some ⟨f,e,none⟩) i6.length D) I kk I mm (gM _) isAgg54 sizeOf54 I (.inr I) dd ?_;refine au 0x42f9 ?_;refine Zf I kk I mm (cells_lt (k:=5) dd (λ_=>rfl) i6 b4 oo) isAgg47 sizeOf47 (Zh (k:=5) (λ_=>rfl) ((λ_=>rfl)) i6 0 b4 oo) (.inl I) dd ?_;refine Zf (b:=h8) (off:=a7) (j:=0) (M:=[.slice (some ⟨f,e,none⟩) i6.length D]) (v:=.slice (some ⟨f,e,none⟩) i6.length D) I kk I mm (gM _) isAgg54 sizeOf54 I (.inr I) dd ?_;refine au 0x42f9 ?_;refine Zf I kk I mm (cells_lt (k:=5) dd (λ_=>rfl) i6 A oo) isAgg47 sizeOf47 (Zh (k:=5) (λ_=>rfl) ((λ_=>rfl)) i6 0 A oo) (.inl I) dd ?_;refine au 0x99 ?_;refine yv [_,_] I I call39 (Mg (i6.getD b4 0) (i6.getD A 0) oo oo)<|yv [_,_] I I call40 (QD (((A:Nat):Int)) (((b4:Nat):Int))) ?_;refine Gx n I kk [(_,_),(_,_)] I (Xa _ _) (List.map Ib [(i6.getD b4 0-i6.getD A 0).num.sign,Fc (A:Int) (b4:Int)]) I dd ?_;intro m;refine yw [_] I I call38 (C_Or _ _ ([((i6.getD b4 0)-(i6.getD A 0)).num.sign,Fc (((A:Nat):Int)) (((b4:Nat):Int))]) nb)<|au 0x6a4e ?_;refine rtK I
end Go.Proofs.YtdadideknhmbbaaGreatDoor
