/- Walks of functions. By an AI agent. -/
import Derived.Test.YtejhdcohoggojaaGreatDoorProg
import Derived.Test.YtejhdcohoggojaaGreatDoorFxZ
import Derived.Test.YtejhdcohoggojaaGreatDoorFxP
set_option linter.unusedVariables false
set_option linter.unusedSimpArgs false
set_option maxRecDepth 4000
set_option maxHeartbeats 1000000
namespace Go.Proofs.YtejhdcohoggojaaGreatDoor
open Go Go.Proofs Go.Fx Tryz
attribute [local irreducible] Oper.wp Code.wp wpList Fx.Head wpOp
abbrev tg(l:List (Nat×Nat×Nat))(k:Nat): Nat×Nat×Nat:=l.getD k (0,0,0)
abbrev gqA(l:List (Nat×Nat×Nat))(k:Nat): Nat×Nat:=(min (tg l k).1 (tg l k).2.1,max (tg l k).1 (tg l k).2.1)
abbrev gqB(l:List (Nat×Nat×Nat))(k:Nat): Nat×Nat:=(min (tg l k).2.1 (tg l k).2.2,max (tg l k).2.1 (tg l k).2.2)
abbrev gqC(l:List (Nat×Nat×Nat))(k:Nat): Nat×Nat:=(min (tg l k).2.2 (tg l k).1,max (tg l k).2.2 (tg l k).1)
inductive Fu:Nat→Prop
 | mk (n:Nat):Fu n
inductive Hd (Q:Prop):Prop
 | mk (q:Q):Hd Q
theorem Hd.g{Q:Prop}(h:Hd Q): Q:=by cases h with|mk q=>exact q
theorem Fu.d(c:Nat){n:Nat}(_:Fu n)(_:Nat.beq (n%16) c=true): Fu (n/16):=.mk _
theorem tyA{T:TypeId}{b:Bool}(h:∀w,(isAgg T).run prog w=.ok b w:=by with_reducible (first|exact isAgg0|exact isAgg2|exact isAgg3|exact isAgg4|exact isAgg5|exact isAgg9|exact isAgg22|exact isAgg23|exact isAgg26|exact isAgg28|exact isAgg30|exact isAgg31|exact isAgg33|exact isAgg34|exact isAgg36|exact isAgg38|exact isAgg39|exact isAgg40|exact isAgg42|exact isAgg43|exact isAgg45|exact isAgg47|exact isAgg49|exact isAgg51|exact isAgg52|exact isAgg53|exact isAgg54|exact isAgg55|exact isAgg57|exact isAgg58|exact isAgg59|exact isAgg61|exact isAgg69|exact isAgg80|exact isAgg81|exact isAgg83|exact isAgg102|exact isAgg104|exact isAgg106|exact isAgg119|exact isAgg121|exact isAgg124|exact isAgg125|exact isAgg127|exact isAgg136|exact isAgg145|exact isAgg147|exact isAgg151|exact isAgg157|exact isAgg159|exact isAgg161|exact isAgg162|exact isAgg163|exact isAgg169|exact isAgg171|exact isAgg173|exact isAgg175|exact isAgg178|exact isAgg184|exact isAgg194|exact isAgg213|exact isAgg215|exact isAgg224|exact isAgg232|exact isAgg235|exact isAgg257|exact isAgg268|exact isAgg275|exact isAgg278|exact isAgg285|exact isAgg286|exact isAgg325|exact isAgg331|exact isAgg381|exact isAgg395|exact isAgg399|exact isAgg500|exact isAgg501)): ∀w,(isAgg T).run prog w=.ok b w:=h
theorem tyS{T:TypeId}{b:Nat}(h:∀w,(Go.sizeOf T).run prog w=.ok b w:=by with_reducible (first|exact sizeOf0|exact sizeOf2|exact sizeOf3|exact sizeOf4|exact sizeOf5|exact sizeOf9|exact sizeOf22|exact sizeOf23|exact sizeOf26|exact sizeOf28|exact sizeOf30|exact sizeOf31|exact sizeOf33|exact sizeOf34|exact sizeOf36|exact sizeOf38|exact sizeOf39|exact sizeOf40|exact sizeOf42|exact sizeOf43|exact sizeOf45|exact sizeOf47|exact sizeOf49|exact sizeOf51|exact sizeOf52|exact sizeOf53|exact sizeOf54|exact sizeOf55|exact sizeOf57|exact sizeOf58|exact sizeOf59|exact sizeOf61|exact sizeOf69|exact sizeOf80|exact sizeOf81|exact sizeOf83|exact sizeOf102|exact sizeOf104|exact sizeOf106|exact sizeOf119|exact sizeOf121|exact sizeOf124|exact sizeOf125|exact sizeOf127|exact sizeOf136|exact sizeOf145|exact sizeOf147|exact sizeOf151|exact sizeOf157|exact sizeOf159|exact sizeOf161|exact sizeOf162|exact sizeOf163|exact sizeOf169|exact sizeOf171|exact sizeOf173|exact sizeOf175|exact sizeOf178|exact sizeOf184|exact sizeOf194|exact sizeOf213|exact sizeOf215|exact sizeOf224|exact sizeOf232|exact sizeOf235|exact sizeOf248|exact sizeOf257|exact sizeOf268|exact sizeOf275|exact sizeOf278|exact sizeOf285|exact sizeOf286|exact sizeOf325|exact sizeOf331|exact sizeOf374|exact sizeOf381|exact sizeOf384|exact sizeOf395|exact sizeOf399|exact sizeOf500|exact sizeOf501)): ∀w,(Go.sizeOf T).run prog w=.ok b w:=h

inductive PickL (L:List (Nat×Value)):List Nat→List (Nat×Value)→Prop
 | nil:PickL L [] []
 | cons {k:Nat} {v:Value} {ks:List Nat} {M:List (Nat×Value)} (h:Fx.look L k=some v) (t:PickL L ks M):PickL L (k::ks) ((k,v)::M)
theorem pkL{L:List (Nat×Value)}{a:List Nat}{M:List (Nat×Value)}(h:PickL L a M:=by repeat(first|exact PickL.nil|apply PickL.cons rfl)): PickL L a M:=h
theorem kQ{n:Nat}{S:Nat→Prop}{w0:World}{L:List (Nat×Value)}{σ:List (Nat×Obj)}{Φ:List Zp}{a:Act}{w:World}(h:St n S w0 L σ Φ a w)(c:List Nat){C:List (Nat×Value)}(p:PickL L c C): St n S w0 C σ Φ a w:=by
 refine h.sub ?_
 induction p with
 | nil=>intro t v h;cases h
 | @cons k v c M hk _ d =>
  intro t u hu
  unfold Fx.look at hu
  cases b:Nat.beq k t with
  | true=>rw[b] at hu;rw[←Nat.eq_of_beq_eq_true b];exact hk.trans hu
  | false=>rw[b] at hu;exact d t u hu
abbrev RN{α:Type}(s:Sem α)(v:α): Prop := ∀w,s.run prog w=.ok v w
inductive Ex1:List (Nat×Obj)→(Nat×Obj)→List (Nat×Obj)→Prop
 | head {x l}:Ex1 (x::l) x l
 | tail {y x l m}:Ex1 l x m→Ex1 (y::l) x (y::m)
 | app {o x l m}:Ex1 l x m→Ex1 (o++l) x (o++m)
inductive ExL:List (Nat×Obj)→List (Nat×Obj)→List (Nat×Obj)→Prop
 | nil {l}:ExL l [] l
 | head {o l}:ExL (o++l) o l
 | last {o}:ExL o o []
 | tail {y o l m}:ExL l o m→ExL (y::l) o (y::m)
 | app {p o l m}:ExL l o m→ExL (p++l) o (p++m)
inductive SubP:List (Nat×Obj)→List (Nat×Obj)→Prop
 | nil {l}:SubP l []
 | refl {l}:SubP l l
 | cons {l x m k}:Ex1 l x m→SubP m k→SubP l (x::k)
 | app {l o m k}:ExL l o m→SubP m k→SubP l (o++k)
 | drop {y l k}:SubP l k→SubP (y::l) k
theorem Ex1.perm{l:List (Nat×Obj)}{x:Nat×Obj}{m:List (Nat×Obj)}(h:Ex1 l x m): l.Perm (x::m):=by
 induction h with
 | head=>exact List.Perm.refl _
 | tail _ a=>exact(List.Perm.cons _ a).trans (List.Perm.swap _ _ _)
 | app _ a=>exact(a.append_left _).trans List.perm_middle
theorem ExL.perm{l o m:List (Nat×Obj)}(h:ExL l o m): l.Perm (o++m):=by
 induction h with
 | nil=>exact List.Perm.refl _
 | head=>exact List.Perm.refl _
 | last=>rw[List.append_nil]
 | tail _ a=>exact(List.Perm.cons _ a).trans List.perm_middle.symm
 | app _ a=>exact(a.append_left _).trans (List.perm_append_comm_assoc _ _ _)
theorem SubP.perm{l k:List (Nat×Obj)}(h:SubP l k): ∃r,l.Perm (k++r):=by
 induction h with
 | @nil l=>exact⟨l,List.Perm.refl _⟩
 | @refl l=>exact⟨[],by rw[List.append_nil]⟩
 | cons h _ a=>obtain ⟨r,hr⟩:=a;exact⟨r,h.perm.trans (List.Perm.cons _ hr)⟩
 | app h _ a=>obtain ⟨r,hr⟩:=a;exact⟨r,h.perm.trans (by rw[List.append_assoc];exact hr.append_left _)⟩
 | drop _ a=>obtain ⟨r,hr⟩:=a;exact⟨_::r,(List.Perm.cons _ hr).trans List.perm_middle.symm⟩
theorem tyU{T E:TypeId}(h:∀w,(underlying T).run prog w=.ok (.slice E) w:=by with_reducible (first|exact runUnderlying120|exact runUnderlying121|exact runUnderlying125|exact runUnderlying127|exact runUnderlying145|exact runUnderlying159|exact runUnderlying161|exact runUnderlying169|exact runUnderlying22|exact runUnderlying222|exact runUnderlying224|exact runUnderlying246|exact runUnderlying248|exact runUnderlying254|exact runUnderlying264|exact runUnderlying273|exact runUnderlying275|exact runUnderlying28|exact runUnderlying296|exact runUnderlying3|exact runUnderlying31|exact runUnderlying318|exact runUnderlying321|exact runUnderlying346|exact runUnderlying347|exact runUnderlying375|exact runUnderlying377|exact runUnderlying38|exact runUnderlying39|exact runUnderlying40|exact runUnderlying482|exact runUnderlying5|exact runUnderlying53|exact runUnderlying54|exact runUnderlying55|exact runUnderlying58|exact runUnderlying580|exact runUnderlying59|exact runUnderlying69|exact runUnderlying80|exact runUnderlying81|exact runUnderlying9)): ∀w,(underlying T).run prog w=.ok (.slice E) w:=h
theorem tyI{T:TypeId}{i:TypeInfo}(h:∀w,(typeInfo T).run prog w=.ok i w:=by with_reducible (first|exact typeInfo104|exact typeInfo119|exact typeInfo124|exact typeInfo125|exact typeInfo127|exact typeInfo173|exact typeInfo178|exact typeInfo248|exact typeInfo3|exact typeInfo331|exact typeInfo34|exact typeInfo384|exact typeInfo4|exact typeInfo5|exact typeInfo51|exact typeInfo54|exact typeInfo69)): ∀w,(typeInfo T).run prog w=.ok i w:=h
theorem tyZ{T:TypeId}{z:Value}(h:∀w,(zeroValue T).run prog w=.ok z w:=by with_reducible (first|exact zeroValue175|exact zeroValue3|exact zeroValue384|exact zeroValue45|exact zeroValue51|exact zeroValue54|exact zeroValue57|exact zeroValue69|exact zeroValue83|exact Bj|exact EC|exact A3|exact H6|exact SY|exact Xv|exact G6|exact Xl|exact G5|exact Eg|exact zeroT6|exact iv)): ∀w,(zeroValue T).run prog w=.ok z w:=h

section
variable{L:List (Nat×Value)}{n:Nat}{S:Nat→Prop}{w0:World}{σ σ2:List (Nat×Obj)}{Φ Φ0:List Zp}{Q:Exit→Act→World→Prop}{ops:Array Oper}{rest:List Oper}{d b off:Nat}{T Tb:TypeId}{x y:Operand}{ty:TypeId}{pos:String}{aft:Array Edge}{cs cs2:Array Value}{fr:Nat×Nat}{agg:Bool}{s:Nat}{v:Value}{H:List Nat}{Kf:Exit→Act→World→Prop}{i:Nat}{G:Act→World→Prop}{c:Operand}{c1 c2:Code}
theorem kT(hc:Fx.ev L c=some (.bool true))(k:Wk n S w0 L σ Φ (fun a w=>c1.wp prog Q a w)): Wk n S w0 L σ Φ (fun a w=>(Code.cond c c1 c2).wp prog Q a w):=fun a w h=>Qo h hc (k a w h)
theorem kF(hc:Fx.ev L c=some (.bool false))(k:Wk n S w0 L σ Φ (fun a w=>c2.wp prog Q a w)): Wk n S w0 L σ Φ (fun a w=>(Code.cond c c1 c2).wp prog Q a w):=fun a w h=>Zj h hc (k a w h)
theorem kU{t:Bool}(hc:Fx.ev L c=some (.bool t))(k2:t=false→Wk n S w0 L σ Φ (fun a w=>c2.wp prog Q a w))(k1:t=true→Wk n S w0 L σ Φ (fun a w=>c1.wp prog Q a w)): Wk n S w0 L σ Φ (fun a w=>(Code.cond c c1 c2).wp prog Q a w):=fun a w h=>Zb h hc (fun e=>k1 e a w h) (fun e=>k2 e a w h)
theorem kV{t:Bool}(hc:Fx.ev L c=some (.bool t))(k1:t=true→Wk n S w0 L σ Φ (fun a w=>c1.wp prog Q a w))(k2:t=false→Wk n S w0 L σ Φ (fun a w=>c2.wp prog Q a w)): Wk n S w0 L σ Φ (fun a w=>(Code.cond c c1 c2).wp prog Q a w):=kU hc k2 k1
theorem bbT{c:Bool}(k2:c=false→Wk n S w0 ((d,.bool false)::L) σ Φ G)(k1:c=true→Wk n S w0 ((d,.bool true)::L) σ Φ G): Wk n S w0 ((d,.bool c)::L) σ Φ G:=fun a w h=>Zh h (fun e h=>k1 e a w h) (fun e h=>k2 e a w h)
theorem bbF{c:Bool}(k1:c=true→Wk n S w0 ((d,.bool true)::L) σ Φ G)(k2:c=false→Wk n S w0 ((d,.bool false)::L) σ Φ G): Wk n S w0 ((d,.bool c)::L) σ Φ G:=bbT k2 k1
theorem fnI{f:FuncId}{fn:Func}{c:Code}{args:List Value}{post:Value→List Zp→Prop}(hf:prog.funcs[f]?=some fn)(b:fn.body=some c)(e:fn.ntmps=n)(k:∀S w0,(∀k,S k→k<w0.heap.size)→Wk n S w0 (iU 0 args) [] Φ (fun a w=>c.wp prog (bodyPost prog fn (gp S w0 post)) a w))(hl:args.length≤n:=by exact nb): Ctr prog f args Φ post:=fn_intro hf b e hl (fun S w0 a d h=>k S w0 d a w0 h)
theorem lpR{c:Code}(m:Nat)(k:Wk n S w0 L σ Φ (fun a w=>Code.rounds prog c Q m a w)): Wk n S w0 L σ Φ (fun a w=>(Code.loop c).wp prog Q a w):=fun a w h=>wp_loop_rounds m (k a w h)
theorem rdS{c:Code}{m:Nat}(k:Wk n S w0 L σ Φ (fun a w=>c.wp prog (Exit.then (Code.rounds prog c Q m) Q) a w)): Wk n S w0 L σ Φ (fun a w=>Code.rounds prog c Q (m+1) a w):=fun a w h=>Zm (k a w h)
theorem rtK{fn:Func}{u v:Value}{t:Nat}(hv:u=v)(hr:fn.results=#[.tmp t]:=by exact rfl)(ht:Fx.look L t=some u:=by exact rfl): Wk n S w0 L σ Φ (fun a w=>bodyPost prog fn (gp S w0 (fun u Ψ=>u=v∧Ψ=[])) .ret a w):=fun a w h=>Js h (Ze h hr (.tmp ht)) hv
theorem yE{id:Nat}{l:List Oper}(H:List Nat)(hH:Head prog l.toArray n S w0 Q H L σ Φ)(hm:prog.follows .mixedOrders=true:=by exact Yg)(b:Am prog l.toArray n H L:=by exact Fb kk)(a:(Region.noSelect l.toArray && Mk l.toArray && kL l.toArray && decide (H.Nodup) && decide (H.length=l.length) && H.all (fun i=>decide (i<l.length)))=true:=by kernel_rfl): Wk n S w0 L σ Φ ((Code.region id l.toArray true).wp prog Q):=yD hm H b hH a
theorem yF{id:Nat}{l:List Oper}(H:List Nat)(hH:Head prog l.toArray n S w0 Q H L σ Φ)(hm:prog.follows .mixedOrders=true:=by exact Yg)(b:Am prog l.toArray n H L:=by exact Iy (by repeat(first|exact trivial|refine⟨.inl rfl,?_⟩|refine⟨.inr ⟨_,_,_,_,_,rfl,rfl,by decide,_,by exact tyZ⟩,?_⟩)))(a:(Region.noSelect l.toArray && Mk l.toArray && kL l.toArray && decide (H.Nodup) && decide (H.length=l.length) && H.all (fun i=>decide (i<l.length)))=true:=by kernel_rfl): Wk n S w0 L σ Φ ((Code.region id l.toArray true).wp prog Q):=yD hm H b hH a
theorem mh{α:Type}{a:α}{l:List α}: a∈[a]++l:=List.Mem.head _
theorem mt{α:Type}{a x:α}{l:List α}(h:a∈l): a∈[x]++l:=List.Mem.tail _ h
theorem hsD{α:Type}{a:α}{l L:List α}(t:∀R∈l,R∈L)(h:a∈L:=by first|assumption|(repeat(first|with_reducible exact mh|exact List.Mem.head _|with_reducible apply mt|apply List.Mem.tail|apply List.mem_append_right))): ∀R∈a::l,R∈L:=fun R hR=>by
 rcases List.mem_cons.1 hR with e|e
 ·rw[e];exact h
 ·exact t R e
theorem tO{c:List (Nat×Value)}{b:List Zp}{a:Act}{w:World}(h:St n S w0 L σ Φ a w)(h1:SubP σ σ2:=by repeat(first|exact SubP.refl|exact SubP.nil|refine SubP.cons (by repeat(first|exact Ex1.head|apply Ex1.tail|apply Ex1.app)) ?_|refine SubP.app (by repeat(first|exact ExL.head|exact ExL.head (o:=[_])|exact ExL.last|apply ExL.tail|apply ExL.app)) ?_|apply SubP.drop))(d:∀R∈b,R∈Φ:=by first|exact(fun _ hR=>hR)|(repeat(first|exact(fun _ hR=>absurd hR List.not_mem_nil)|refine hsD ?_)))(e:∀t v,Fx.look c t=some v→Fx.look L t=some v:=by exact sA): St n S w0 c σ2 b a w:=by
 obtain ⟨r,f⟩:=h1.perm
 exact(((h.perm f.symm).drop (List.sublist_append_left _ _)).factsSub d).sub e
theorem lpG{d:Type}{a:Act}{w:World}{c:Code}(h:St n S w0 L σ Φ a w)(f:List Nat){C:List (Nat×Value)}(_:PickL L f C)(J:List (Nat×Value)→List Zp→d→Act→World→Prop)(b:d→Nat)(i0:d)(g:J C Φ i0 a w)(round:∀i a w,J C Φ i a w→c.wp prog (Exit.then (fun j w' => ∃e,J C Φ e j w'∧b e<b i) Q) a w): (Code.loop c).wp prog Q a w:=Jh (J C Φ) b i0 g round
theorem wjG{a:Act}{w:World}(h:St n S w0 L σ Φ a w)(c:List Nat){C:List (Nat×Value)}(_:PickL L c C)(J:List (Nat×Value)→List Zp→Act→World→Prop)(h1:c1.wp prog (Exit.then (J C Φ) Q) a w)(b:∀a w,J C Φ a w→c2.wp prog Q a w): (Code.seq c1 c2).wp prog Q a w:=Yl (J C Φ) h1 b
theorem lpF{a:Act}{w:World}{c:Code}(h:St n S w0 L σ Φ a w)(C:Nat→Prop)(F:Nat→List (Nat×Value))(b:Nat→Nat)(i0:Nat)(f:C i0∧St n S w0 (F i0) σ Φ a w)(round:∀i a w,C i∧St n S w0 (F i) σ Φ a w→c.wp prog (Exit.then (fun e w' => ∃d,(C d∧St n S w0 (F d) σ Φ e w')∧b d<b i) Q) a w): (Code.loop c).wp prog Q a w:=Jh (fun i a w=>C i∧St n S w0 (F i) σ Φ a w) b i0 f round
theorem lpF2{a:Act}{w:World}{c:Code}(h:St n S w0 L σ Φ a w)(C D:Nat→Prop)(F:Nat→List (Nat×Value))(d:Nat→Nat)(i0:Nat)(f:C i0∧D i0∧St n S w0 (F i0) σ Φ a w)(round:∀i a w,C i∧D i∧St n S w0 (F i) σ Φ a w→c.wp prog (Exit.then (fun e w' => ∃b,(C b∧D b∧St n S w0 (F b) σ Φ e w')∧d b<d i) Q) a w): (Code.loop c).wp prog Q a w:=Jh (fun i a w=>C i∧D i∧St n S w0 (F i) σ Φ a w) d i0 f round

theorem apC{α:Type}(enc:α→Value)(A B:List α){l E q:TypeId}{m2 G:Nat}{ys:List Value}{o e:List (Nat×Obj)}{i:TypeInfo}{z:Value}(u:GrowO s E v A.length (cellsOf enc A) o)(kk:∀ad c o',GrowO s E (.slice ad (A++B).length c) (A++B).length (cellsOf enc (A++B)) o'→Wk n S w0 ((d,.slice ad (A++B).length c)::L) (o'++σ2) Φ (wpList prog ops Q rest))(hx:Fx.ev L x=some v:=by exact rfl)(p:Fx.ev L y=some (.slice (some ⟨b,0,none⟩) m2 G):=by exact rfl)(h1:Ex1 σ (b,.cells ys.toArray Tb (0,0)) e:=by repeat(first|exact Ex1.head|apply Ex1.tail|apply Ex1.app))(m:ExL e o σ2:=by repeat(first|exact ExL.nil|exact ExL.head|exact ExL.head (o:=[_])|exact ExL.last|apply ExL.tail|apply ExL.app))(t:ys=cellsOf enc B:=by exact rfl)(hl:B.length=m2:=by exact rfl)(hT:∀w,(underlying T).run prog w=.ok (.slice E) w:=by exact tyU)(D:∀w,(underlying l).run prog w=.ok (.slice q) w:=by exact tyU)(r:∀w,(typeInfo E).run prog w=.ok i w:=by exact tyI)(hs:∀w,(Go.sizeOf E).run prog w=.ok s w:=by exact tyS)(hz:∀w,(zeroValue E).run prog w=.ok z w:=by exact tyZ)(hk:z.cells.size=s:=by exact rfl)(F:s≠0:=by decide)(C:0<i.bytes:=by decide)(k:ys.length=m2*s:=by exact rfl)(hf:ys.all flat=true:=by exact rfl)(g:0<m2:=by decide)(j:i.bytes≤4096:=by decide)(hr:4096*(2*(A.length+m2)+192)≤281474976710656:=by(try dsimp only);omega)(hd:d<n:=by decide): Wk n S w0 L σ Φ (wpList prog ops Q (Oper.mk (some d) (.call ⟨.builtin .append,#[x,y],#[T,l]⟩) ty pos aft none::rest)):=fun a w h =>
 Zc (KB h hx p (h1.perm.trans (List.Perm.cons _ m.perm)) u hT D r hs hz hk F C k hf g (Nat.le_trans (Nat.mul_le_mul_right _ j) hr) hd fun v' o' H w' f hs=>by
  obtain ⟨ad,c,rfl⟩:=f.is
  rw[show A.length+m2=(A++B).length by rw[List.length_append,hl]] at hs f
  rw[t, ←Qs] at f
  exact kk ad c o' f H w' hs)
theorem bR{α:Type}(enc:α→Value)(A B:List α){k E p:TypeId}{m2 F:Nat}{ys:List Value}{o a:List (Nat×Obj)}{g:TypeInfo}{z:Value}(t:GrowO s E v A.length (cellsOf enc A) o)(kk:∀ad c o',GrowO s E (.slice ad (A++B).length c) (A++B).length (cellsOf enc (A++B)) o'→Head prog ops n S w0 Kf H ((d,.slice ad (A++B).length c)::L) (o'++σ2) Φ)(ho:ops[i]?=some ⟨some d,.call ⟨.builtin .append,#[x,y],#[T,k]⟩,ty,pos,aft,none⟩:=by exact rfl)(hq:Vm ops i H=true:=by kernel_rfl)(hx:Fx.ev L x=some v:=by exact rfl)(m:Fx.ev L y=some (.slice (some ⟨b,0,none⟩) m2 F):=by exact rfl)(h1:Ex1 σ (b,.cells ys.toArray Tb (0,0)) a:=by repeat(first|exact Ex1.head|apply Ex1.tail|apply Ex1.app))(l:ExL a o σ2:=by repeat(first|exact ExL.nil|exact ExL.head|exact ExL.head (o:=[_])|exact ExL.last|apply ExL.tail|apply ExL.app))(r:ys=cellsOf enc B:=by exact rfl)(hl:B.length=m2:=by exact rfl)(hT:∀w,(underlying T).run prog w=.ok (.slice E) w:=by exact tyU)(C:∀w,(underlying k).run prog w=.ok (.slice p) w:=by exact tyU)(q:∀w,(typeInfo E).run prog w=.ok g w:=by exact tyI)(hs:∀w,(Go.sizeOf E).run prog w=.ok s w:=by exact tyS)(hz:∀w,(zeroValue E).run prog w=.ok z w:=by exact tyZ)(hk:z.cells.size=s:=by exact rfl)(D:s≠0:=by decide)(u:0<g.bytes:=by decide)(j:ys.length=m2*s:=by exact rfl)(hf:ys.all flat=true:=by exact rfl)(f:0<m2:=by decide)(h:g.bytes≤4096:=by decide)(hr:4096*(2*(A.length+m2)+192)≤281474976710656:=by(try dsimp only);omega)(hd:d<n:=by decide): Head prog ops n S w0 Kf (i::H) L σ Φ :=
 Hl ho hq hx m (h1.perm.trans (List.Perm.cons _ l.perm)) t hT C q hs hz hk D u j hf f (Nat.le_trans (Nat.mul_le_mul_right _ h) hr) hd fun v' o' e=>by
  obtain ⟨ad,c,rfl⟩:=e.is
  rw[show A.length+m2=(A++B).length by rw[List.length_append,hl]] at e ⊢
  rw[r, ←Qs] at e
  exact kk ad c o' e

theorem apM{α:Type}(enc:α→Value)(A B:List α){l E q:TypeId}{m2 G:Nat}{ys:List Value}{o e:List (Nat×Obj)}{i:TypeInfo}{z:Value}(u:GrowO s E v A.length (List.map enc A) o)(kk:∀ad c o',GrowO s E (.slice ad (A++B).length c) (A++B).length (List.map enc (A++B)) o'→Wk n S w0 ((d,.slice ad (A++B).length c)::L) (o'++σ2) Φ (wpList prog ops Q rest))(hx:Fx.ev L x=some v:=by exact rfl)(p:Fx.ev L y=some (.slice (some ⟨b,0,none⟩) m2 G):=by exact rfl)(h1:Ex1 σ (b,.cells ys.toArray Tb (0,0)) e:=by repeat(first|exact Ex1.head|apply Ex1.tail|apply Ex1.app))(m:ExL e o σ2:=by repeat(first|exact ExL.nil|exact ExL.head|exact ExL.head (o:=[_])|exact ExL.last|apply ExL.tail|apply ExL.app))(t:ys=List.map enc B:=by exact rfl)(hl:B.length=m2:=by exact rfl)(hT:∀w,(underlying T).run prog w=.ok (.slice E) w:=by exact tyU)(D:∀w,(underlying l).run prog w=.ok (.slice q) w:=by exact tyU)(r:∀w,(typeInfo E).run prog w=.ok i w:=by exact tyI)(hs:∀w,(Go.sizeOf E).run prog w=.ok s w:=by exact tyS)(hz:∀w,(zeroValue E).run prog w=.ok z w:=by exact tyZ)(hk:z.cells.size=s:=by exact rfl)(F:s≠0:=by decide)(C:0<i.bytes:=by decide)(k:ys.length=m2*s:=by exact rfl)(hf:ys.all flat=true:=by exact rfl)(g:0<m2:=by decide)(j:i.bytes≤4096:=by decide)(hr:4096*(2*(A.length+m2)+192)≤281474976710656:=by(try dsimp only);omega)(hd:d<n:=by decide): Wk n S w0 L σ Φ (wpList prog ops Q (Oper.mk (some d) (.call ⟨.builtin .append,#[x,y],#[T,l]⟩) ty pos aft none::rest)):=fun a w h =>
 Zc (KB h hx p (h1.perm.trans (List.Perm.cons _ m.perm)) u hT D r hs hz hk F C k hf g (Nat.le_trans (Nat.mul_le_mul_right _ j) hr) hd fun v' o' H w' f hs=>by
  obtain ⟨ad,c,rfl⟩:=f.is
  rw[show A.length+m2=(A++B).length by rw[List.length_append,hl]] at hs f
  rw[t, ←List.map_append] at f
  exact kk ad c o' f H w' hs)
theorem hapM{α:Type}(enc:α→Value)(A B:List α){k E p:TypeId}{m2 F:Nat}{ys:List Value}{o a:List (Nat×Obj)}{g:TypeInfo}{z:Value}(t:GrowO s E v A.length (List.map enc A) o)(kk:∀ad c o',GrowO s E (.slice ad (A++B).length c) (A++B).length (List.map enc (A++B)) o'→Head prog ops n S w0 Kf H ((d,.slice ad (A++B).length c)::L) (o'++σ2) Φ)(ho:ops[i]?=some ⟨some d,.call ⟨.builtin .append,#[x,y],#[T,k]⟩,ty,pos,aft,none⟩:=by exact rfl)(hq:Vm ops i H=true:=by kernel_rfl)(hx:Fx.ev L x=some v:=by exact rfl)(m:Fx.ev L y=some (.slice (some ⟨b,0,none⟩) m2 F):=by exact rfl)(h1:Ex1 σ (b,.cells ys.toArray Tb (0,0)) a:=by repeat(first|exact Ex1.head|apply Ex1.tail|apply Ex1.app))(l:ExL a o σ2:=by repeat(first|exact ExL.nil|exact ExL.head|exact ExL.head (o:=[_])|exact ExL.last|apply ExL.tail|apply ExL.app))(r:ys=List.map enc B:=by exact rfl)(hl:B.length=m2:=by exact rfl)(hT:∀w,(underlying T).run prog w=.ok (.slice E) w:=by exact tyU)(C:∀w,(underlying k).run prog w=.ok (.slice p) w:=by exact tyU)(q:∀w,(typeInfo E).run prog w=.ok g w:=by exact tyI)(hs:∀w,(Go.sizeOf E).run prog w=.ok s w:=by exact tyS)(hz:∀w,(zeroValue E).run prog w=.ok z w:=by exact tyZ)(hk:z.cells.size=s:=by exact rfl)(D:s≠0:=by decide)(u:0<g.bytes:=by decide)(j:ys.length=m2*s:=by exact rfl)(hf:ys.all flat=true:=by exact rfl)(f:0<m2:=by decide)(h:g.bytes≤4096:=by decide)(hr:4096*(2*(A.length+m2)+192)≤281474976710656:=by(try dsimp only);omega)(hd:d<n:=by decide): Head prog ops n S w0 Kf (i::H) L σ Φ :=
 Hl ho hq hx m (h1.perm.trans (List.Perm.cons _ l.perm)) t hT C q hs hz hk D u j hf f (Nat.le_trans (Nat.mul_le_mul_right _ h) hr) hd fun v' o' e=>by
  obtain ⟨ad,c,rfl⟩:=e.is
  rw[show A.length+m2=(A++B).length by rw[List.length_append,hl]] at e ⊢
  rw[r, ←List.map_append] at e
  exact kk ad c o' e

theorem ldZ(hv:Zk agg s cs off=some v)(k:Wk n S w0 ((d,v)::L) σ Φ (wpList prog ops Q rest))(hx:Fx.ev L x=some (.pointer (some ⟨b,off,none⟩)):=by exact rfl)(hm:(b,Obj.cells cs Tb fr)∈σ:=by exact mr)(ha:∀w,(isAgg T).run prog w=.ok agg w:=by exact tyA)(hs:∀w,(Go.sizeOf T).run prog w=.ok s w:=by exact tyS)(hd:d<n:=by decide): Wk n S w0 L σ Φ (wpList prog ops Q (Oper.mk (some d) (.load T x) ty pos aft none::rest)):=zd hx hm ha hs hv k hd
theorem ldQ{j:Nat}{want:Bool}(t:Nat)(hv:Zk agg s cs off=some v)(k:Wk n S w0 ((d,v)::L) σ Φ (wpList prog ops Q rest))(hj:(ops[j]?).bind (·.dst)=some t:=by exact rfl)(ht:Fx.look L t=some (.bool want):=by exact rfl)(hx:Fx.ev L x=some (.pointer (some ⟨b,off,none⟩)):=by exact rfl)(hm:(b,Obj.cells cs Tb fr)∈σ:=by exact mr)(ha:∀w,(isAgg T).run prog w=.ok agg w:=by exact tyA)(hs:∀w,(Go.sizeOf T).run prog w=.ok s w:=by exact tyS)(hd:d<n:=by decide): Wk n S w0 L σ Φ (wpList prog ops Q (Oper.mk (some d) (.load T x) ty pos aft (some (j,want))::rest)):=fun a w h=>Zq t h hj ht (Pj h hx hm ha hs hv hd fun e c=>k e w c)
theorem stW(hx:Fx.ev L x=some (.pointer (some ⟨b,off,none⟩)))(c:Fx.ev L y=some v)(a:Zl cs off v.cells.toList=cs2)(k:Wk n S w0 L σ2 Φ (wpList prog ops Q rest))(hu:Upd σ b (.cells cs Tb (0,0)) (.cells cs2 Tb (0,0)) σ2:=by exact uu)(hs:∀w,(Go.sizeOf T).run prog w=.ok s w:=by exact tyS)(hz:v.cells.size=s:=by exact rfl)(hl:off+s≤cs.size:=by exact nb)(hf:v.cells.toList.all flat=true:=by exact rfl): Wk n S w0 L σ Φ (wpList prog ops Q (Oper.mk none (.store T x y) ty pos aft none::rest)):=zt' hx c a hu hs hz hl hf k
theorem ldY(hv:Zk agg s cs off=some v)(k:Head prog ops n S w0 Kf H ((d,v)::L) σ Φ)(ho:ops[i]?=some ⟨some d,.load T x,ty,pos,aft,none⟩:=by exact rfl)(hx:Fx.ev L x=some (.pointer (some ⟨b,off,none⟩)):=by exact rfl)(hm:(b,Obj.cells cs Tb fr)∈σ:=by exact mr)(ha:∀w,(isAgg T).run prog w=.ok agg w:=by exact tyA)(hs:∀w,(Go.sizeOf T).run prog w=.ok s w:=by exact tyS)(hq:Yp ops true i H=true:=by kernel_rfl)(hd:d<n:=by decide): Head prog ops n S w0 Kf (i::H) L σ Φ:=yd ho hx hm ha hs hv k hq hd
theorem stV(ho:ops[i]?=some ⟨none,.store T x y,ty,pos,aft,none⟩)(hx:Fx.ev L x=some (.pointer (some ⟨b,off,none⟩)))(c:Fx.ev L y=some v)(a:Zl cs off v.cells.toList=cs2)(k:Head prog ops n S w0 Kf H L σ2 Φ)(hu:Upd σ b (.cells cs Tb (0,0)) (.cells cs2 Tb (0,0)) σ2:=by exact uu)(hs:∀w,(Go.sizeOf T).run prog w=.ok s w:=by exact tyS)(hz:v.cells.size=s:=by exact rfl)(hl:off+s≤cs.size:=by exact nb)(hf:v.cells.toList.all flat=true:=by exact rfl)(hq:Vm ops i H=true:=by kernel_rfl): Head prog ops n S w0 Kf (i::H) L σ Φ:=Vq ho hq hx c a hu hs hz hl hf k
theorem rC{t:Nat}(hv:Zk agg s cs 0=some v)(h:Fx.look L t=some (.pointer (some ⟨b,0,none⟩)):=by exact rfl)(hm:(b,Obj.cells cs Tb fr)∈σ:=by exact mr)(ha:∀w,(isAgg T).run prog w=.ok agg w:=by exact tyA)(hs:∀w,(Go.sizeOf T).run prog w=.ok s w:=by exact tyS): ResIs prog L σ (.cell t T) v:=.cell h hm ha hs hv
theorem zF{f:FuncId}{args:Array Operand}{b:Array TypeId}(vs:List Value){post:Value→List Zp→Prop}(hc:∀args w,(callFunc f args).run prog w=.ok (.enter f args) w)(hf:Ctr prog f vs Φ0 post)(k:∀v Ψ,post v Ψ→Wk n S w0 ((d,v)::L) σ (Ψ++Φ) (wpList prog ops Q rest))(ha:args.toList.map (Fx.ev L)=vs.map some:=by exact rfl)(a:∀R∈Φ0,R∈Φ:=by repeat(first|exact(fun _ hR=>absurd hR List.not_mem_nil)|refine hsD ?_))(hd:d<n:=by decide): Wk n S w0 L σ Φ (wpList prog ops Q (Oper.mk (some d) (.call ⟨.value (.func f),args,b⟩) ty pos aft none::rest)):=zf vs ha hc hf k a hd
theorem Xe{b:Array Bool}{f:Nat}{a:Act}{w:World}{P:Program}(i:Nat)(k:BJ P ops Kf f b i a w)(hR:Region.ready .any ops b=[i]:=by kernel_rfl): wpX P ops Kf (f+1) b a w:=QP [i] hR ss (by simpa using k)
theorem Yj{b:Array Bool}{f:Nat}{a:Act}{w:World}{P:Program}(i j:Nat)(k1:BJ P ops Kf f b i a w)(k2:BJ P ops Kf f b j a w)(hR:Region.ready .any ops b=[i,j]:=by kernel_rfl): wpX P ops Kf (f+1) b a w:=QP [i,j] hR ss (by simpa using ⟨k1,k2⟩)
theorem UU{b:Array Bool}{f:Nat}{a:Act}{w:World}{P:Program}(i j m:Nat)(k1:BJ P ops Kf f b i a w)(k2:BJ P ops Kf f b j a w)(k3:BJ P ops Kf f b m a w)(hR:Region.ready .any ops b=[i,j,m]:=by kernel_rfl): wpX P ops Kf (f+1) b a w:=QP [i,j,m] hR ss (by simpa using ⟨k1,k2,k3⟩)
theorem x_two4{b:Array Bool}{f:Nat}{a:Act}{w:World}{P:Program}(i j m p:Nat)(k1:BJ P ops Kf f b i a w)(k2:BJ P ops Kf f b j a w)(k3:BJ P ops Kf f b m a w)(k4:BJ P ops Kf f b p a w)(hR:Region.ready .any ops b=[i,j,m,p]:=by kernel_rfl): wpX P ops Kf (f+1) b a w:=QP [i,j,m,p] hR ss (by simpa using ⟨k1,k2,k3,k4⟩)
end
set_option maxRecDepth 100000 in
theorem au(n:Nat){X Q:Prop}(k:Q)(h:Fu n→Hd Q→X:=by
 intro p k
 repeat(first|(replace p:=Fu.d 1 p rfl;refine zs ?_)|(replace p:=Fu.d 2 p rfl;refine zn ?_)|(replace p:=Fu.d 3 p rfl;refine zr ?_)|(replace p:=Fu.d 4 p rfl;refine zm rfl ?_)|(replace p:=Fu.d 5 p rfl;refine za rfl ?_)|(replace p:=Fu.d 6 p rfl;refine zt ?_)|(replace p:=Fu.d 7 p rfl;refine zk ?_)|(replace p:=Fu.d 8 p rfl;refine ym rfl rfl ?_)|(replace p:=Fu.d 9 p rfl;refine zb ?_)|(replace p:=Fu.d 10 p rfl;refine yn ?_)|(replace p:=Fu.d 11 p rfl;refine zp (.eX rfl) ?_)|(replace p:=Fu.d 12 p rfl;refine zp (.lss rfl rfl) ?_)|(replace p:=Fu.d 13 p rfl;refine kF rfl ?_)|(replace p:=Fu.d 14 p rfl;first|(replace p:=Fu.d 0 p rfl;refine ze ?_)|(replace p:=Fu.d 1 p rfl;refine kT rfl ?_)|(replace p:=Fu.d 2 p rfl;refine zp (.pickT rfl rfl) ?_)|(replace p:=Fu.d 3 p rfl;refine yp rfl (.assign rfl) ?_)|(replace p:=Fu.d 4 p rfl;refine zp (.pickF rfl rfl) ?_)|(replace p:=Fu.d 5 p rfl;refine ldZ Qr ?_)|(replace p:=Fu.d 6 p rfl;refine ldZ Zx ?_)|(replace p:=Fu.d 7 p rfl;refine yp rfl (.eX rfl) ?_)|(replace p:=Fu.d 8 p rfl;refine ldZ Xi ?_)|(replace p:=Fu.d 9 p rfl;refine zp (Pure1.cast (v':=.bool true) (.lss rfl rfl) cgd) ?_)|(replace p:=Fu.d 10 p rfl;refine zp (.builtin [_] rfl (AO _ _ _)) ?_)|(replace p:=Fu.d 11 p rfl;refine ldY Zx ?_)|(replace p:=Fu.d 12 p rfl;refine ldZ Jk ?_)|(replace p:=Fu.d 13 p rfl;refine ldY Bn ?_)|(replace p:=Fu.d 14 p rfl;refine zp (.indexAddr rfl rfl (KR _ _ _ _ _ oo)) ?_)|(replace p:=Fu.d 15 p rfl;refine ldZ Xh ?_))|(replace p:=Fu.d 15 p rfl;first|(replace p:=Fu.d 0 p rfl;first|(replace p:=Fu.d 0 p rfl;refine zp (.eql rfl rfl) ?_)|(replace p:=Fu.d 1 p rfl;refine ldY Xi ?_)|(replace p:=Fu.d 2 p rfl;refine zp (.unOp rfl (Gg _)) ?_)|(replace p:=Fu.d 3 p rfl;refine ldY Qr ?_)|(replace p:=Fu.d 4 p rfl;refine zp (.geq rfl rfl) ?_)|(replace p:=Fu.d 5 p rfl;refine yp rfl (.fA rfl GM) ?_)|(replace p:=Fu.d 6 p rfl;refine ldZ Bn ?_)|(replace p:=Fu.d 7 p rfl;refine zp (.gtr rfl rfl) ?_)|(replace p:=Fu.d 8 p rfl;refine zo 37 rfl rfl rfl ?_)|(replace p:=Fu.d 9 p rfl;refine ldZ Vb ?_)|(replace p:=Fu.d 10 p rfl;refine zp (Pure1.cast (v':=.bool false) (.unOp rfl (Gg _)) cgd) ?_)|(replace p:=Fu.d 11 p rfl;refine zp (.add rfl rfl) ?_)|(replace p:=Fu.d 12 p rfl;refine ldZ Ie ?_)|(replace p:=Fu.d 13 p rfl;refine zp (Pure1.cast (v':=.bool false) (.neq rfl rfl) cgd) ?_)|(replace p:=Fu.d 14 p rfl;refine zp (.builtin [_] rfl (Vn _ _ _)) ?_)|(replace p:=Fu.d 15 p rfl;refine ldY Kz ?_))|(replace p:=Fu.d 1 p rfl;first|(replace p:=Fu.d 0 p rfl;refine zp (.builtin [_] rfl (Gb _ _ _)) ?_)|(replace p:=Fu.d 1 p rfl;refine yo 84 rfl rfl rfl rfl ?_)|(replace p:=Fu.d 2 p rfl;refine zo 30 rfl rfl rfl ?_)|(replace p:=Fu.d 3 p rfl;refine zo 16 rfl rfl rfl ?_)|(replace p:=Fu.d 4 p rfl;refine zp (Pure1.cast (v':=.bool false) (.lss rfl rfl) cgd) ?_)|(replace p:=Fu.d 5 p rfl;refine ldZ Kz ?_)|(replace p:=Fu.d 6 p rfl;refine ldZ Ha ?_)|(replace p:=Fu.d 7 p rfl;refine zp (Pure1.cast (v':=.int .i64 2) (.add rfl rfl) cgd) ?_)|(replace p:=Fu.d 8 p rfl;refine zp (.builtin [_] rfl (C7 _ _ _)) ?_)|(replace p:=Fu.d 9 p rfl;refine zp (.fA rfl Cv) ?_)|(replace p:=Fu.d 10 p rfl;refine zv [_] rfl call10 (Oy _ oo oo) ?_)|(replace p:=Fu.d 11 p rfl;refine ldY Vb ?_)|(replace p:=Fu.d 12 p rfl;refine zp (.build [(_,_),(_,_),(_,_)] rfl (Oe _ _ _ _ _ _)) ?_)|(replace p:=Fu.d 13 p rfl;refine yp rfl (.indexAddr rfl rfl (TV _ _ _ _ _ oo)) ?_)|(replace p:=Fu.d 14 p rfl;refine zp (Pure1.cast (v':=.int .i64 3) (.add rfl rfl) cgd) ?_)|(replace p:=Fu.d 15 p rfl;refine zp (.indexAddr rfl rfl (Hv _ _ _ _ _ oo)) ?_))|(replace p:=Fu.d 2 p rfl;first|(replace p:=Fu.d 0 p rfl;refine yo 58 rfl rfl rfl rfl ?_)|(replace p:=Fu.d 1 p rfl;refine zo 17 rfl rfl rfl ?_)|(replace p:=Fu.d 2 p rfl;refine yp rfl (.indexAddr rfl rfl (KR _ _ _ _ _ oo)) ?_)|(replace p:=Fu.d 3 p rfl;refine zp (Pure1.cast (v':=.bool true) (.eql rfl rfl) cgd) ?_)|(replace p:=Fu.d 4 p rfl;refine zp (.indexAddr rfl rfl (lC _ _ _ _ _ oo)) ?_)|(replace p:=Fu.d 5 p rfl;refine zp (.fA rfl GM) ?_)|(replace p:=Fu.d 6 p rfl;refine zp (.neq rfl rfl) ?_)|(replace p:=Fu.d 7 p rfl;refine zp (.mul rfl rfl) ?_)|(replace p:=Fu.d 8 p rfl;refine zo 23 rfl rfl rfl ?_)|(replace p:=Fu.d 9 p rfl;refine yv [_,_] rfl rfl call54 (SN _ _ oo oo) ?_)|(replace p:=Fu.d 10 p rfl;refine ldY F5 ?_)|(replace p:=Fu.d 11 p rfl;refine zp (.builtin [_] rfl (Hj _ _ _)) ?_)|(replace p:=Fu.d 12 p rfl;refine ldY Nc ?_)|(replace p:=Fu.d 13 p rfl;refine yp rfl (.indexAddr rfl rfl (ix_58 _ _ _ _ _ oo)) ?_)|(replace p:=Fu.d 14 p rfl;refine zp (Pure1.cast (v':=.int .i64 1) (.add rfl rfl) cgd) ?_)|(replace p:=Fu.d 15 p rfl;refine zv [_] rfl call7 (Dq _) ?_))|(replace p:=Fu.d 3 p rfl;first|(replace p:=Fu.d 0 p rfl;refine zp (.convert rfl (Fy _ (wrap_u64 _ oo oo))) ?_)|(replace p:=Fu.d 1 p rfl;refine zp (.builtin [_] rfl (LG _ _ _)) ?_)|(replace p:=Fu.d 2 p rfl;refine zp (.builtin [_] rfl (Bu _ _ _)) ?_)|(replace p:=Fu.d 3 p rfl;refine yp rfl (.fA rfl LZ) ?_)|(replace p:=Fu.d 4 p rfl;refine zp (.fA rfl YZ) ?_)|(replace p:=Fu.d 5 p rfl;refine ldZ iC ?_)|(replace p:=Fu.d 6 p rfl;refine zo 25 rfl rfl rfl ?_)|(replace p:=Fu.d 7 p rfl;refine zD rfl mm (by simp;omega) isAgg34 sizeOf34 (Zr 0 oo) (.inr rfl) ?_)|(replace p:=Fu.d 8 p rfl;refine yp rfl (.indexAddr rfl rfl (Yt _ _)) ?_)|(replace p:=Fu.d 9 p rfl;refine yp rfl (.indexAddr rfl rfl (Yu _ _)) ?_)|(replace p:=Fu.d 10 p rfl;refine yp rfl (.indexAddr rfl rfl (Aw _ _)) ?_)|(replace p:=Fu.d 11 p rfl;refine yp rfl (.fA rfl HN) ?_)|(replace p:=Fu.d 12 p rfl;refine yp rfl (.fA rfl Sg) ?_)|(replace p:=Fu.d 13 p rfl;refine yp rfl (.fA rfl Si) ?_)|(replace p:=Fu.d 14 p rfl;refine ldZ Nf ?_)|(replace p:=Fu.d 15 p rfl;refine ldY Nf ?_))|(replace p:=Fu.d 4 p rfl;first|(replace p:=Fu.d 0 p rfl;refine ldY G9 ?_)|(replace p:=Fu.d 1 p rfl;refine ldZ Rc ?_)|(replace p:=Fu.d 2 p rfl;refine ldZ EM ?_)|(replace p:=Fu.d 3 p rfl;refine ldY Jk ?_)|(replace p:=Fu.d 4 p rfl;refine zo 15 rfl rfl rfl ?_)|(replace p:=Fu.d 5 p rfl;refine yv [_,_] rfl rfl call71 (bB _ _ oo oo) ?_)|(replace p:=Fu.d 6 p rfl;refine zp (Pure1.cast (v':=.bool false) (.eql rfl rfl) cgd) ?_)|(replace p:=Fu.d 7 p rfl;refine zp (Pure1.cast (v':=.bool true) (.neq rfl rfl) cgd) ?_)|(replace p:=Fu.d 8 p rfl;refine yp rfl (.fA rfl YW) ?_)|(replace p:=Fu.d 9 p rfl;refine zp (.fA rfl PQ) ?_)|(replace p:=Fu.d 10 p rfl;refine zp (.fA rfl LX) ?_)|(replace p:=Fu.d 11 p rfl;refine yq rfl rfl rfl (.move rfl) ?_)|(replace p:=Fu.d 12 p rfl;refine ldY Rc ?_)|(replace p:=Fu.d 13 p rfl;refine zo 10 rfl rfl rfl ?_)|(replace p:=Fu.d 14 p rfl;refine zo 6 rfl rfl rfl ?_)|(replace p:=Fu.d 15 p rfl;refine ldZ Ar ?_))|(replace p:=Fu.d 5 p rfl;first|(replace p:=Fu.d 0 p rfl;refine zv [_,_] rfl call15 (C_QOf _ _ oo oo oo oo oo) ?_)|(replace p:=Fu.d 1 p rfl;refine zp (.binOp rfl rfl (fun _=>Yn _ _ _ _ _ dd)) ?_)|(replace p:=Fu.d 2 p rfl;refine zp (.indexAddr rfl rfl (ix_54 _ _ _ _ _ oo)) ?_)|(replace p:=Fu.d 3 p rfl;refine zp (.build [(_,_),(_,_)] rfl (K2 _ _)) ?_)|(replace p:=Fu.d 4 p rfl;refine yp rfl (.indexAddr rfl rfl (BY _ _)) ?_)|(replace p:=Fu.d 5 p rfl;refine yp rfl (.indexAddr rfl rfl (BZ _ _)) ?_)|(replace p:=Fu.d 6 p rfl;refine yp rfl (.indexAddr rfl rfl (B0 _ _)) ?_)|(replace p:=Fu.d 7 p rfl;refine yp rfl (.fA rfl L6) ?_)|(replace p:=Fu.d 8 p rfl;refine zp (.fA rfl GL) ?_)|(replace p:=Fu.d 9 p rfl;refine ldY Wl ?_)|(replace p:=Fu.d 10 p rfl;refine yp rfl (.pickF rfl rfl) ?_)|(replace p:=Fu.d 11 p rfl;refine zo 69 rfl rfl rfl ?_)|(replace p:=Fu.d 12 p rfl;refine zo 58 rfl rfl rfl ?_)|(replace p:=Fu.d 13 p rfl;refine zo 52 rfl rfl rfl ?_)|(replace p:=Fu.d 14 p rfl;refine zo 9 rfl rfl rfl ?_)|(replace p:=Fu.d 15 p rfl;refine yp rfl (.indexAddr rfl rfl (lC _ _ _ _ _ oo)) ?_))|(replace p:=Fu.d 6 p rfl;first|(replace p:=Fu.d 0 p rfl;refine yp rfl (.fA rfl YU) ?_)|(replace p:=Fu.d 1 p rfl;refine ldZ Nc ?_)|(replace p:=Fu.d 2 p rfl;refine zp (.fA rfl Sf) ?_)|(replace p:=Fu.d 3 p rfl;refine zp (.fA rfl IE) ?_)|(replace p:=Fu.d 4 p rfl;refine ldY Lj ?_)|(replace p:=Fu.d 5 p rfl;refine yp rfl (.pickT rfl rfl) ?_)|(replace p:=Fu.d 6 p rfl;refine zp (.sub rfl rfl) ?_)|(replace p:=Fu.d 7 p rfl;refine yp rfl (Pure1.cast (v':=.int .i64 2) (.binOp rfl rfl (fun _=>Yn _ _ _ _ _ dd)) cgd) ?_)|(replace p:=Fu.d 8 p rfl;refine yp rfl (Pure1.cast (v':=.int .i64 1) (.binOp rfl rfl (fun _=>Yn _ _ _ _ _ dd)) cgd) ?_)|(replace p:=Fu.d 9 p rfl;refine yp rfl (Pure1.cast (v':=.int .i64 0) (.binOp rfl rfl (fun _=>Yn _ _ _ _ _ dd)) cgd) ?_)|(replace p:=Fu.d 10 p rfl;refine ldY Gt ?_)|(replace p:=Fu.d 11 p rfl;refine ldY Gu ?_)|(replace p:=Fu.d 12 p rfl;refine ldY AX ?_)|(replace p:=Fu.d 13 p rfl;refine ldY Xh ?_)|(replace p:=Fu.d 14 p rfl;refine ldZ Q6 ?_)|(replace p:=Fu.d 15 p rfl;refine zp (.convert rfl (fE _ (wrap_i64 _ oo oo))) ?_))|(replace p:=Fu.d 7 p rfl;first|(replace p:=Fu.d 0 p rfl;refine yp rfl (Pure1.cast (v':=.int .i64 3) (.add rfl rfl) cgd) ?_)|(replace p:=Fu.d 1 p rfl;refine yp rfl (Pure1.cast (v':=.int .i64 2) (.add rfl rfl) cgd) ?_)|(replace p:=Fu.d 2 p rfl;refine zp (.indexAddr rfl rfl (YE _ _ _ _ _ oo)) ?_)|(replace p:=Fu.d 3 p rfl;refine zp (.binOp rfl rfl (fun _=>HG _ _ _ _ _)) ?_)|(replace p:=Fu.d 4 p rfl;refine yp rfl (.builtin [_] rfl (C7 _ _ _)) ?_)|(replace p:=Fu.d 5 p rfl;refine zp (.indexAddr rfl rfl (Aw _ _)) ?_)|(replace p:=Fu.d 6 p rfl;refine yp rfl (.fA rfl HQ) ?_)|(replace p:=Fu.d 7 p rfl;refine yp rfl (.fA rfl Mb) ?_)|(replace p:=Fu.d 8 p rfl;refine yp rfl (.fA rfl Sf) ?_)|(replace p:=Fu.d 9 p rfl;refine zp (.fA rfl L6) ?_)|(replace p:=Fu.d 10 p rfl;refine zp (.fA rfl Mb) ?_)|(replace p:=Fu.d 11 p rfl;refine zp (.fA rfl YW) ?_)|(replace p:=Fu.d 12 p rfl;refine zp (.fA rfl YX) ?_)|(replace p:=Fu.d 13 p rfl;refine zp (.makeFunc [] [_] rfl rfl) ?_)|(replace p:=Fu.d 14 p rfl;refine ldZ Wl ?_)|(replace p:=Fu.d 15 p rfl;refine zq 90 rfl rfl (.move rfl) ?_))|(replace p:=Fu.d 8 p rfl;first|(replace p:=Fu.d 0 p rfl;refine zq 7 rfl rfl (.move rfl) ?_)|(replace p:=Fu.d 1 p rfl;refine ldY J1 ?_)|(replace p:=Fu.d 2 p rfl;refine ldZ EP ?_)|(replace p:=Fu.d 3 p rfl;refine ldY iC ?_)|(replace p:=Fu.d 4 p rfl;refine zo 112 rfl rfl rfl ?_)|(replace p:=Fu.d 5 p rfl;refine yp rfl (.convert rfl (Fy _ (wrap_u64 _ oo oo))) ?_)|(replace p:=Fu.d 6 p rfl;refine zp (.indexAddr rfl rfl (Hv _ _ _ _ _ (by first|omega|simp))) ?_)|(replace p:=Fu.d 7 p rfl;refine zp (.indexAddr rfl rfl (ix_254 _ _ _ _ _ (by exact ixd))) ?_)|(replace p:=Fu.d 8 p rfl;refine yp rfl (.indexAddr rfl rfl (YD _ _ _ _ _ oo)) ?_)|(replace p:=Fu.d 9 p rfl;refine zp (.indexAddr rfl rfl (ix_40 _ _ _ _ _ oo)) ?_)|(replace p:=Fu.d 10 p rfl;refine zp (.builtin [_] rfl (NA _ _ _)) ?_)|(replace p:=Fu.d 11 p rfl;refine zp (.builtin [_] rfl (NC _ _ _)) ?_)|(replace p:=Fu.d 12 p rfl;refine zp (.indexAddr rfl rfl (XX _ _)) ?_)|(replace p:=Fu.d 13 p rfl;refine zp (.indexAddr rfl rfl (XY _ _)) ?_)|(replace p:=Fu.d 14 p rfl;refine zp (.indexAddr rfl rfl (YA _ _)) ?_)|(replace p:=Fu.d 15 p rfl;refine zp (.indexAddr rfl rfl (YB _ _)) ?_))|(replace p:=Fu.d 9 p rfl;first|(replace p:=Fu.d 0 p rfl;refine yp rfl (.fA rfl YT) ?_)|(replace p:=Fu.d 1 p rfl;refine yp rfl (.fA rfl lL) ?_)|(replace p:=Fu.d 2 p rfl;refine zp (.fA rfl fe) ?_)|(replace p:=Fu.d 3 p rfl;refine zp (.fA rfl Sg) ?_)|(replace p:=Fu.d 4 p rfl;refine zp (.fA rfl Si) ?_)|(replace p:=Fu.d 5 p rfl;refine zp (.fA rfl LY) ?_)|(replace p:=Fu.d 6 p rfl;refine zp (.fA rfl YY) ?_)|(replace p:=Fu.d 7 p rfl;refine yp rfl (.build [(_,_),(_,_),(_,_)] rfl (Od _ _ _ _ _ _ _)) ?_)|(replace p:=Fu.d 8 p rfl;refine ldZ Ws ?_)|(replace p:=Fu.d 9 p rfl;refine yv [_,_] rfl rfl call56 (bz _ _ oo oo) ?_)|(replace p:=Fu.d 10 p rfl;refine yv [_,_] rfl rfl call20 (jy _ _ oo oo) ?_)|(replace p:=Fu.d 11 p rfl;refine zv [_,_] rfl call54 (SN _ _ oo oo) ?_)|(replace p:=Fu.d 12 p rfl;refine yv [_] rfl rfl call10 (Oy _ oo oo) ?_)|(replace p:=Fu.d 13 p rfl;refine yp rfl (Pure1.cast (v':=.int .i64 1) (.add rfl rfl) cgd) ?_)|(replace p:=Fu.d 14 p rfl;refine yp rfl (.indexAddr rfl rfl (ix_40 _ _ _ _ _ oo)) ?_)|(replace p:=Fu.d 15 p rfl;refine yp rfl (.indexAddr rfl rfl (ix_28 _ _ _ _ _ oo)) ?_))|(replace p:=Fu.d 10 p rfl;first|(replace p:=Fu.d 0 p rfl;refine zp (.builtin [_] rfl (ND _ _ _)) ?_)|(replace p:=Fu.d 1 p rfl;refine zp (.build [(_,_)] rfl (fV _ _ _)) ?_)|(replace p:=Fu.d 2 p rfl;refine zp (.build [(_,_)] rfl (fX _ _ _)) ?_)|(replace p:=Fu.d 3 p rfl;refine zp (.indexAddr rfl rfl (NG _ _)) ?_)|(replace p:=Fu.d 4 p rfl;refine zp (.indexAddr rfl rfl (NH _ _)) ?_)|(replace p:=Fu.d 5 p rfl;refine yv [_] rfl rfl call128 (nH _) ?_)|(replace p:=Fu.d 6 p rfl;refine yp rfl (.fA rfl YV) ?_)|(replace p:=Fu.d 7 p rfl;refine yp rfl (.fA rfl IE) ?_)|(replace p:=Fu.d 8 p rfl;refine yp rfl (.fA rfl Cv) ?_)|(replace p:=Fu.d 9 p rfl;refine zp (.build [(_,_)] rfl (QA _)) ?_)|(replace p:=Fu.d 10 p rfl;refine zp (.fA rfl HN) ?_)|(replace p:=Fu.d 11 p rfl;refine zp (.fA rfl HO) ?_)|(replace p:=Fu.d 12 p rfl;refine zp (.fA rfl Sc) ?_)|(replace p:=Fu.d 13 p rfl;refine zp (.fA rfl IC) ?_)|(replace p:=Fu.d 14 p rfl;refine zp (.fA rfl PT) ?_)|(replace p:=Fu.d 15 p rfl;refine zp (.fA rfl lQ) ?_))|(replace p:=Fu.d 11 p rfl;first|(replace p:=Fu.d 0 p rfl;refine zp (.fA rfl lT) ?_)|(replace p:=Fu.d 1 p rfl;refine yp rfl (.unOp rfl (Gg _)) ?_)|(replace p:=Fu.d 2 p rfl;refine zq 7 rfl rfl (.lss rfl rfl) ?_)|(replace p:=Fu.d 3 p rfl;refine ldZ AW ?_)|(replace p:=Fu.d 4 p rfl;refine zp (.convert rfl (Mo _ (wrap_i64 _ oo oo))) ?_)|(replace p:=Fu.d 5 p rfl;refine zp (Pure1.cast (v':=.bool true) (.unOp rfl (Gg _)) cgd) ?_)|(replace p:=Fu.d 6 p rfl;refine zp (.build [(_,_),(_,_),(_,_)] rfl (Og _ _ _)) ?_)|(replace p:=Fu.d 7 p rfl;refine zp (.binOp rfl rfl (fun _=>Vj _ _ _ _ 32 dd)) ?_)|(replace p:=Fu.d 8 p rfl;refine yp rfl (.indexAddr rfl rfl (ix_54 _ _ _ _ _ oo)) ?_)|(replace p:=Fu.d 9 p rfl;refine zp (.indexAddr rfl rfl (ix_58 _ _ _ _ _ oo)) ?_)|(replace p:=Fu.d 10 p rfl;refine zp (.indexAddr rfl rfl (ix_55 _ _ _ _ _ oo)) ?_)|(replace p:=Fu.d 11 p rfl;refine zp (.indexAddr rfl rfl (lz _ _ _ oo)) ?_)|(replace p:=Fu.d 12 p rfl;refine ldY EQ ?_)|(replace p:=Fu.d 13 p rfl;refine ldY If ?_)|(replace p:=Fu.d 14 p rfl;refine zp (.builtin [_] rfl (LF _ _ _)) ?_)|(replace p:=Fu.d 15 p rfl;refine yp rfl (.indexAddr rfl rfl (NG _ _)) ?_))|(replace p:=Fu.d 12 p rfl;first|(replace p:=Fu.d 0 p rfl;refine yp rfl (.indexAddr rfl rfl (NH _ _)) ?_)|(replace p:=Fu.d 1 p rfl;refine yv [_,_] rfl rfl call63 (JE _ _) ?_)|(replace p:=Fu.d 2 p rfl;refine yp rfl (.indexAddr rfl rfl (E1 _ _)) ?_)|(replace p:=Fu.d 3 p rfl;refine yp rfl (.indexAddr rfl rfl (HL _ _)) ?_)|(replace p:=Fu.d 4 p rfl;refine zp (.indexAddr rfl rfl (XZ _ _)) ?_)|(replace p:=Fu.d 5 p rfl;refine zp (.indexAddr rfl rfl (X0 _ _)) ?_)|(replace p:=Fu.d 6 p rfl;refine zp (.indexAddr rfl rfl (Yt _ _)) ?_)|(replace p:=Fu.d 7 p rfl;refine zp (.indexAddr rfl rfl (Yu _ _)) ?_)|(replace p:=Fu.d 8 p rfl;refine zp (.indexAddr rfl rfl (E0 _ _)) ?_)|(replace p:=Fu.d 9 p rfl;refine yv [_] rfl rfl call112 (C_QNeg _) ?_)|(replace p:=Fu.d 10 p rfl;refine yp rfl (.fA rfl Se) ?_)|(replace p:=Fu.d 11 p rfl;refine yp rfl (.fA rfl YX) ?_)|(replace p:=Fu.d 12 p rfl;refine yp rfl (.fA rfl YY) ?_)|(replace p:=Fu.d 13 p rfl;refine yp rfl (.fA rfl YZ) ?_)|(replace p:=Fu.d 14 p rfl;refine zp (.fA rfl Cy) ?_)|(replace p:=Fu.d 15 p rfl;refine zp (.fA rfl YT) ?_))|(replace p:=Fu.d 13 p rfl;first|(replace p:=Fu.d 0 p rfl;refine zp (.fA rfl lM) ?_)|(replace p:=Fu.d 1 p rfl;refine zp (.fA rfl lV) ?_))))
 exact Hd.g k): X:=h (.mk n) (.mk k)
section
theorem AO(a:Option Addr)(n c:Nat)(w:World)(ty:TypeId)(cs:Array Bool): (Go.builtin .len #[296] ty cs #[.slice a n c]).run prog w=.ok (.value (.int .i64 n)) w:=by
 simp[go_sem]
theorem KR(b off n c j:Nat)(h:j<n): RN (Instr.indexAt 296 (.slice (some ⟨b,off,none⟩) n c) (.int .i64 (j:Int))) (.pointer (some ⟨b,off+j,none⟩)):=fun w=>by
 simpa using Qd runUnderlying296 sizeOf34 b off n c j h w
theorem VR(a:Option Addr)(n c j:Nat)(h:j≤c): RN (Instr.sliceAt 296 (.slice a n c) none (some (.int .i64 (j:Int))) none) (.slice a j c):=fun w=>by
 exact Bm runUnderlying296 sizeOf34 a n c j h w
theorem GL{b off:Nat}: RN (Instr.fieldAt 45 (.pointer (some ⟨b,off,none⟩)) 1) (.pointer (some ⟨b,off+1,none⟩)):=fun w=>by
 simp[go_sem]
theorem Ha{c0 c1:Value}: Zk false 1 #[c0,c1] 1=some c1:=rfl
theorem YZ{b off:Nat}: RN (Instr.fieldAt 45 (.pointer (some ⟨b,off,none⟩)) 0) (.pointer (some ⟨b,off+0,none⟩)):=fun w=>by
 simp[go_sem]
theorem Ie{c0 c1:Value}: Zk false 1 #[c0,c1] 0=some c0:=rfl
theorem Yf(x:Int): RN (Go.convert 43 34 (.int .u64 x)) (.int .u32 (IntKind.u32.wrap x)):=fun w=>by
 simp[go_sem]
theorem N7(a b:Int)(w:World): (Instr.buildSlice 296 2 [(0,.int .u32 a),(1,.int .u32 b)].toArray).run prog w=.ok (.slice (some ⟨w.heap.size,0,none⟩) 2 2) (w.alloc (.cells #[.int .u32 a,.int .u32 b] 34 (0,0))):=by
 simp[go_sem]
theorem Hg(x:ByteArray)(w:World)(ty:TypeId)(cs:Array Bool): (Go.builtin .len #[9] ty cs #[.string x]).run prog w=.ok (.value (.int .i64 x.size)) w:=by
 simp[go_sem]
theorem md(x:Int): RN (Go.convert 5 34 (.int .u8 x)) (.int .u32 (IntKind.u32.wrap x)):=fun w=>by
 simp[go_sem]
theorem Mp(x:Int)(a:IntKind.u32.wrap x=x): RN (Go.convert 5 34 (.int .u8 x)) (.int .u32 x):=fun w=>by
 rw[md,a]
theorem Yg:prog.follows .mixedOrders=true:=by kernel_rfl
theorem Gg(b:Bool): RN (Op.unary .not (.bool b)) (.bool (!b)):=fun w=>by simp[go_sem]
theorem C_cut(ad:Option Addr)(c:Nat)(l:List Nat)(hw:Wd l)(hc:l.length≤c)(hs:l.length≤1099511627776):
  Ctr prog 290 [.slice ad l.length c] [Row ad (Xd l)] (fun v Ψ=>v=.slice ad (wds (Zv l)).length c∧Ψ=[Row ad (Xd (wds (Zv l)))]):=by
 refine fnI func290 I ntmps290 fun S w0 p=>au 0x912531 ?_;intro a w h
 refine Jh (fun(m:Nat) a w=>m≤l.length∧(∀j,m≤j→j<l.length→l.getD j 0=0)∧St 21 S w0 [(0,.slice ad m c)] [] [Row ad (Xd l)] a w) (fun m=>m) (l.length) (⟨Nat.le_refl _,fun j h1 i=>absurd i oo,h.sub sA⟩) ?_;clear h
 rintro m a w ⟨hm,hz,h⟩
 refine gC h<|au 0x470fae4311 ?_;intro a w h
 refine Zh h (fun g h=>?_) (fun g h=>?_)
 focus
  have o:0<m:=by simpa using g
  obtain ⟨b,off,k⟩:=h.row_addr List.mem_cons_self (by simp;intro e;subst e;simp at hm;omega)
  subst k
  refine gL h<|zq 6 I I (.move I)<|zq 6 I I (.move I)<|zq 6 I I (.builtin [_] I<|AO _ _ _)<|zq 6 I I (.pO (m-1)<|.sub I I)<|zq 6 I I (.indexAddr I I<|KR _ _ _ _ _ oo) ?_;clear h;intro a w h
  refine Zq 6 h I I<|Xp h I List.mem_cons_self (by simp;omega) isAgg34 sizeOf34 (Zr 0 oo) (.inr I) dd ?_;clear h;intro a h
  refine gL h<|zq 6 I I (.eql I I)<|au 0x22e ?_;clear h;intro a w h
  refine Zb h I (fun d=>?_) (fun d=>?_)
  ·refine gC h<|au 0xae44397 ?_
   refine zp (.pO (m-1)<|.sub I I)<|zp (.slice I none (some _) none I I I<|VR _ _ _ _ oo)<|au 0x25 ?_;clear h;intro a w h
   refine⟨m-1,⟨oo,fun j h1 i=>?_,tO h⟩,oo⟩
   by_cases hj:j=m-1
   ·subst hj;simpa using d
   ·exact hz j oo i
  refine gC h<|au 0x6254310e ?_;clear h;intro a w h
  have f:=ZH hw hm hz (.inr (by simpa using d))
 rotate_left
 focus
  refine gL h<|au 0x6254310ed24ee4fe4fe4fe4fe4fe4fe4f ?_;clear h;intro a w h
  have f:=ZH hw hm hz (.inl (by simpa using g))
 all_goals
  have hR:∀ad,Row ad (Xd (wds (Zv l)))=Row ad ((Xd l).take m):=by intro ad;rw[f,Xd,List.map_take]
  replace h:=h.derive (R:=Row _ (Xd (wds (Zv l)))) (fun X n=>by rw[hR];exact HI (n _ List.mem_cons_self) m)
  have hl:m=(wds (Zv l)).length:=by rw[f];simp;omega
  refine Qn (Ψ:=[Row _ (Xd<|wds<|Zv l)]) h (Ze h I<|.tmp I) ⟨by rw[←hl],rfl⟩ ss
theorem BK(n:Nat)(hs:(wds n).length≤1099511627776):
  Ctr prog 196 [Vp n] [] (fun v Ψ => ∃ad c,v=.slice ad (wds n).length c∧(wds n).length≤c∧Ψ=[Row ad (Xd (wds n))]):=by
 refine fnI func196 I ntmps196 fun S w0 o=>zS (zx I fun m=>au 0x237f61f85f31125 ?_);intro a w h
 refine Zb h I (fun j=>?_) (fun j=>?_)
 ·have g:n<18446744073709551616:=Qt.1 (by simpa using j)
  refine gC h<|au 0xc0f43f31 ?_
  refine zp (Pure1.cast (v':=.int .u32 ((n%4294967296:Nat):Int)) (.convert I<|Yf _) (by rw[Qk g,Jb];congr 1))<|au 0xc0f43f ?_
  refine zp (.binOp I I (fun _=>by rw[Qk g];exact Vj _ _ _ n 32 dd))<|zp (Pure1.cast (v':=.int .u32 ((n/4294967296:Nat):Int)) (.convert I<|Yf _) (by rw[Jb];congr 1;omega)) (zB [(_,_),(_,_)] I (N7 _ _) fun q=>?_);clear h;intro a w h
  replace h:=h.shareAll o (Xd [n%4294967296,n/4294967296]) I
  refine gL h<|zf [_] I call290 (C_cut _ _ [n%4294967296,n/4294967296] (two_Wd n g) ss ss) ?_;clear h;rintro v17 p ⟨rfl,rfl⟩ a w h
  rw[U6 n g] at h
  refine gL h<|au 0x625 ?_;clear h;intro a w h
  refine Qn (Ψ:=[Row _ (Xd<|wds n)]) h (Ze h I<|.tmp I) ⟨_,_,rfl,BL g,rfl⟩ ss
 ·have g:¬n<18446744073709551616:=fun g=>by have:=Qt.2 g;simp[this] at j
  refine gC h<|au 0x61f85f317 ?_
  refine zp (.builtin [_] I<|Hg _)<|zp (Pure1.cast (v':=.int .i64 ((wds n).length:Int)) (.binOp I I (fun _=>Ei _ _ _ _ _ dd)) (by rw[Dn,if_neg g];rw[show((4:Int))=((4:Nat):Int) from I,Cd,wrap_i64 _ oo oo];congr 1;omega)) ?_;clear h;intro a w h
  refine Zc<|Je h I I runUnderlying296 typeInfo34 sizeOf34 zeroValue34 I dd (Nat.le_refl _) (by show 4*_≤_;omega) oo dd ?_;clear h;intro l a w h
  rw[show(Value.int .u32 0).cells.toList=[Value.int .u32 0] from rfl,AL,show List.replicate (wds n).length (Value.int .u32 0)=Xd (Bi (wds n) 0 0) from by rw[J8];simp] at h
  refine gL h<|au 0x924ae431125 ?_;clear h;intro a w h
  refine lpG h [1,3,24] pkL (fun Y Z (i:Nat) a w=>i≤(wds n).length∧St 51 S w0 ((25,.int .i64 (i:Int))::Y) [(l,.cells (Xd<|Bi (wds n) i 0).toArray 34 (0,0)),(m,.cells (Vp n).cells 45 (0,0))] Z a w) (fun i=>(wds n).length-i) (0) (⟨Nat.zero_le _,h.sub sA⟩) ?_;clear h
  rintro i a w ⟨r,h⟩
  refine gC h<|au 0x12c31 ?_;intro a w h
  refine Zb h I (fun e=>?_) (fun e=>?_)
  ·have b:i<(wds n).length:=by simpa using e
   refine gC h<|au 0x9243125431917 ?_;clear h;intro a w h
   refine lpG h [1,3,24,25,4] pkL (fun Y Z (k:Nat) a w=>k≤4∧St 51 S w0 ((28,.int .i64 (k:Int))::Y) [(l,.cells (Xd<|Bi (wds n) i k).toArray 34 (0,0)),(m,.cells (Vp n).cells 45 (0,0))] Z a w) (fun k=>4-k) (0) (⟨oo,h.sub sA⟩) ?_;clear h
   rintro k a w ⟨hk,h⟩
   refine gC h<|au 0x12c31 ?_;intro a w h
   refine Zb h I (fun f=>?_) (fun f=>?_)
   ·have d:k<4:=by simp at f;omega
    refine gC h<|au 0x25431917 ?_
    refine yE [0,1,2,3,4,5,6,7,8,9,10,11,12,13,14,15,16,17]<|au 0x22f88 ?_
    refine yd I I (by repeat(first|exact List.Mem.head _|apply List.Mem.tail)) isAgg34 sizeOf34 ((Zr 0 (by rw[Br _ _ _ b];omega)).trans (by rw[Nat.zero_add,Nj _ _ _ b])) ?_;clear h
    refine yp I (.fA I GL)<|ldY Ha ?_
    refine au 0x8 ?_
    refine yp I (.mul I I)<|au 0x8 ?_
    refine yp I (.pN (4*i+k)<|.add I I)<|yp I (Pure1.cast (v':=.int .u8 (((wds n).getD i 0/256 ^ k%256:Nat):Int)) (.index I I (fun _=>Ci runUnderlying9 _ _ (by rw[Dn,if_neg g];omega))) (by rw[N8 g b d]))<|yp I (.convert I<|Mp _<|wrap_u32 _ oo oo)<|au 0x8 ?_
    refine yp I (.pN (8*k)<|.mul I I)<|yp I (Pure1.cast (v':=.int .u32 (((wds n).getD i 0/256 ^ k%256*2 ^ (8*k):Nat):Int)) (.binOp I I (fun _=>Cf _ _ _ _ _ (by show 8*k≤32;omega))) (by rw[wrap_u32 _ oo (by have:=EI ((wds n).getD i 0/256 ^ k) k d;omega)]))<|yp I (Pure1.cast (v':=.int .u32 (((wds n).getD i 0%256 ^ (k+1):Nat):Int)) (.binOp I I (fun _=>EJ I _ _ _ _ _ (Nat.lt_of_lt_of_le (Nat.mod_lt _<|Nat.pow_pos oo)<|Nat.le_trans (Nat.pow_le_pow_right oo (by omega:k≤4)) dd)<|EI _ _ d)) (by rw[WE]))<|au 0x22f ?_
    refine yt I I I ((Qy (Bi (wds n) i k) (0+i) ((wds n).getD i 0%256 ^ (k+1))).trans (by rw[Nat.zero_add,Ni _ _ _ _ b])) (by repeat(first|exact Upd.head|apply Upd.tail)) sizeOf34 I (by simp[Br _ _ _ b];omega) I ?_
    refine au 0x24b0f3a ?_;intro a w h
    exact⟨k+1,⟨oo,tO h⟩,oo⟩
   ·have d:k=4:=by simp at f;omega
    subst d
    rw[J9 _ _ b (Wd.wds n)] at h
    refine gC h<|au 0x24b0f30e ?_;clear h;intro a w h
    exact⟨i+1,⟨oo,tO h⟩,oo⟩
  ·have b:i=(wds n).length:=by simp at e;omega
   refine gC h<|au 0x6254310e ?_;clear h;intro a w h
   subst b
   rw[Nk] at h
   replace h:=h.shareAll o (Xd (wds n)) I
   refine Qn (Ψ:=[Row _ (Xd<|wds n)]) h (Ze h I<|.tmp I) ⟨_,_,rfl,Nat.le_refl _,rfl⟩ ss
end
section
theorem QA(a:Int): RN (Instr.build 45 [(0,.int .u64 a)].toArray) (.agg #[.int .u64 a,.string ⟨#[]⟩]):=fun w=>by simp[go_sem]
theorem Zt{c0 c1 v0 v1:Value}: Zl #[c0,c1] 0 [v0,v1]=#[v0,v1]:=rfl
theorem Qr{c0 c1:Value}: Zk true 2 #[c0,c1] 0=some (.agg #[c0,c1]):=rfl
theorem My: RN (Instr.build 45 [].toArray) (.agg #[.int .u64 0,.string ⟨#[]⟩]):=fun w=>by simp[go_sem]
theorem Sq(x:Int): RN (Go.convert 34 43 (.int .u32 x)) (.int .u64 (IntKind.u64.wrap x)):=fun w=>by
 simp[go_sem]
theorem Fy(x:Int)(a:IntKind.u64.wrap x=x): RN (Go.convert 34 43 (.int .u32 x)) (.int .u64 x):=fun w=>by
 rw[Sq,a]
theorem IL(x:Int): RN (Go.convert 34 5 (.int .u32 x)) (.int .u8 (IntKind.u8.wrap x)):=fun w=>by
 simp[go_sem]
theorem I2(a d b c:Int)(w:World): (Instr.buildSlice 22 4 [(0,.int .u8 a),(1,.int .u8 d),(2,.int .u8 b),(3,.int .u8 c)].toArray).run prog w=.ok (.slice (some ⟨w.heap.size,0,none⟩) 4 4) (w.alloc (.cells #[.int .u8 a,.int .u8 d,.int .u8 b,.int .u8 c] 5 (0,0))):=by
 simp[go_sem]
theorem mP(a:ByteArray): RN (Instr.build 45 [(1,.string a)].toArray) (.agg #[.int .u64 0,.string a]):=fun w=>by simp[go_sem]
theorem Lf(X Y:Operand)(n m:Nat): RN (do eqGuard .eql 45 X Y (Vp n) (Vp m);Go.binOp .eql 45 (Vp n) (Vp m):Sem Value) (.bool (decide (n=m))):=fun w=>by
 simp[go_sem]
 have c:((Xa n).toList=(Xa m).toList)↔Xa n=Xa m:=by have:=Dv (Xa n) (Xa m);rw[Bool.eq_iff_iff] at this;simpa using this
 by_cases h:n=m
 ·subst h;simp
 ·have a:=fun h1 b=>h (Md h1 b)
  by_cases h1:Xr n=Xr m
  ·simp only[h,h1,c,if_true,decide_false];exact if_neg (a h1)
  ·simp[h,h1]
theorem C_Of(n:Nat)(b:n<18446744073709551616): Ji prog 65 [.int .u64 (n:Int)] (Vp n):=by
 refine fnI func65 I ntmps65 fun S w0 c=>zS (zz zeroValue45 fun d=>au 0x9af4312 ?_)
 refine stW I I Zt ?_
 refine zn<|zt ?_;intro a w h
 refine Js h (Ze h I<|rC Qr) ?_
 rw[Vp,Qk b,Gd b]
theorem jp(n:Nat): Ji prog 280 [Vp n] (.bool (decide (n=0))):=by
 refine fnI func280 I ntmps280 fun S w0 b=>zS (zx I fun a=>au 0x5e3125 ?_)
 refine zp (Pure1.cast (v':=Vp 0) (.build [] I<|My) (by rfl))<|zp (.binOp I I (fun _=>Lf _ _ n 0 _))<|za I<|zn<|zt<|rtK I
theorem nu(ad:Option Addr)(c:Nat)(l:List Nat)(hw:Wd l)(hc:l.length≤c)(hs:l.length≤1099511627776):
  Xo prog 195 [.slice ad l.length c] [Row ad (Xd l)] (Vp (Zv l)):=by
 refine fnI func195 I ntmps195 fun S w0 B=>zS (zz zeroValue45 fun x=>zn<|zS<|zm I<|zf [_] I call290 (C_cut ad c l hw hc hs) ?_);rintro v10 u ⟨rfl,rfl⟩ a w h
 have f:=Wd.wds (Zv l)
 have r:=Qv (Zv l)
 have y:(wds (Zv l)).length≤1099511627776:=Nat.le_trans (EF hw) hs
 have t:(wds (Zv l)).length≤c:=Nat.le_trans (EF hw) hc
 generalize p:wds (Zv l)=W at h f r y t
 refine gL h<|au 0xae431125 ?_
 refine zp (.leq I I)<|zn ?_;clear h;intro a w h
 refine Zb h I (fun m=>?_) (fun m=>?_)
 ·have q:W.length≤2:=by simp at m;omega
  refine gC h<|au 0x924ae43112531 ?_;clear h;intro a w h
  refine lpG h [2,14,15] pkL (fun Y Z (i:Nat) a w=>i≤W.length∧St 59 S w0 ((3,.int .u64 (Zv (W.take i):Int))::(16,.int .i64 (i:Int))::Y) [(x,.cells (Vp 0).cells 45 (0,0))] Z a w) (fun i=>W.length-i) (0) (⟨Nat.zero_le _,(h.factsSub (by simp)).sub sA⟩) ?_;clear h
  rintro i a w ⟨A,h⟩
  refine gC h<|au 0x12c31 ?_;intro a w h
  refine Zb h I (fun k=>?_) (fun k=>?_)
  ·have d:i<W.length:=by simpa using k
   obtain ⟨b,off,n⟩:=h.row_addr List.mem_cons_self (by simp;intro e;subst e;simp at d)
   subst n
   have hx:=f.getD i
   refine gC h<|au 0x403f44325573fee431917 ?_
   refine zp (.pN (32*i)<|.mul I I)<|zp (Pure1.cast (v':=.int .u64 ((W.getD i 0*2 ^ (32*i):Nat):Int)) (.binOp I I (fun _=>Cf _ _ _ _ _ (by show 32*i≤64;omega))) (by rw[wrap_u64 _ oo (by have:=Ia _ i hx oo;omega)]))<|zp (Pure1.cast (v':=.int .u64 ((Zv (W.take (i+1)):Nat):Int)) (.binOp I I (fun _=>EJ I _ _ _ _ _ (Nat.lt_of_lt_of_le (MU (f.take i) (by simp;omega)) dd)<|Ia _ i hx oo)) (by rw[kG _ _ d f]))<|au 0x24b0f325 ?_;clear h;intro a w h
   exact⟨i+1,⟨oo,tO h⟩,oo⟩
  ·have d:i=W.length:=by simp at k;omega
   refine gC h<|au 0x9af4310e ?_
   refine stW I I Zt ?_
   refine zn<|zt ?_;clear h;intro a w h
   refine Js h (Ze h I<|rC Qr) ?_
   have g:=MU f q;rw[r] at g;subst d;rw[List.take_length,r,Vp,Qk g,Gd g]
 ·have q:2<W.length:=by simp at m;omega
  refine gC h<|au 0xae4317 ?_
  refine zp (.pN (4*W.length)<|.mul I I) ?_;clear h;intro a w h
  refine Zc<|Je h I I runUnderlying22 typeInfo5 sizeOf5 zeroValue5 I dd (by exact Nat.zero_le _) (by show 1*_≤_;omega) oo dd ?_;clear h;intro s a w h
  refine gL h<|au 0x924ae431125 ?_;clear h;intro a w h
  refine lpG h [2,35,36] pkL (fun Y Z (i:Nat) a w=>i≤W.length ∧ ∃v σ,Grow 1 5 v (4*i) (u8s<|bytesOf<|W.take i) σ [(x,.cells (Vp 0).cells 45 (0,0))]∧St 59 S w0 ((6,v)::(37,.int .i64 (i:Int))::Y) σ Z a w) (fun i=>W.length-i) (0) (⟨Nat.zero_le _,_,_,⟨rfl,.inr ⟨s,4*W.length,_,rfl,by simp[bytesOf,Cj,Value.cells],Nat.zero_le _,rfl⟩⟩,(h.factsSub (by simp)).sub sA⟩) ?_;clear h
  rintro i a w ⟨A,v,σ,o,h⟩
  refine gC h<|au 0x12c31 ?_;intro a w h
  refine Zb h I (fun j=>?_) (fun j=>?_)
  ·have d:i<W.length:=by simpa using j
   obtain ⟨b,off,n⟩:=h.row_addr List.mem_cons_self (by simp;intro e;subst e;simp at d)
   subst n
   have hx:=f.getD i
   refine gC h<|au 0x4432573fee31917 ?_
   refine zp (Pure1.cast (v':=.int .u8 ((W.getD i 0%256:Nat):Int)) (.convert I<|IL _) (by rw[Cb];congr 1))<|zm I<|zp (.binOp I I (fun _=>Vj _ _ _ _ 8 dd))<|zp (Pure1.cast (v':=.int .u8 ((W.getD i 0/2 ^ 8%256:Nat):Int)) (.convert I<|IL _) (by rw[Cb];congr 1))<|zm I<|zp (.binOp I I (fun _=>Vj _ _ _ _ 16 dd))<|zp (Pure1.cast (v':=.int .u8 ((W.getD i 0/2 ^ 16%256:Nat):Int)) (.convert I<|IL _) (by rw[Cb];congr 1))<|zm I<|zp (.binOp I I (fun _=>Vj _ _ _ _ 24 dd))<|zp (Pure1.cast (v':=.int .u8 ((W.getD i 0/2 ^ 24%256:Nat):Int)) (.convert I<|IL _) (by rw[Cb];congr 1)) (zB [(_,_),(_,_),(_,_),(_,_)] I (I2 _ _ _ _) fun z=>?_);clear h;intro a w h
   refine Zc<|WN h I I o runUnderlying22 runUnderlying22 typeInfo5 sizeOf5 zeroValue5 I dd dd I I dd (by show 1*_≤_;omega) dd ?_;clear h o;intro v σ a w o h
   rw[Ui _ _ d] at o
   refine gL h<|au 0x24b0f325 ?_;clear h;intro a w h
   exact⟨i+1,⟨oo,_,_,o,tO h⟩,oo⟩
  ·have d:i=W.length:=by simp at j;omega
   refine gC h<|au 0x4310e ?_;clear h;intro a w h
   refine Zc<|Pi h I o runUnderlying22 runUnderlying9 runUnderlying5 dd ?_;clear h;intro a h
   replace h:=h.drop o.sub
   refine gL h<|zp (.build [(_,_)] I<|mP _)<|stW I I Zt ?_
   refine zn<|zt ?_;clear h;intro a w h
   refine Js h (Ze h I<|rC Qr) ?_
   have g:¬Zv l<18446744073709551616:=OI (by rw[p];exact q)
   subst d;rw[List.take_length,Vp,TG g,DY g,p]
end
section
theorem bi_min(x y:Int)(w:World)(ty:TypeId)(cs:Array Bool): (Go.builtin .min #[3,3] ty cs #[.int .i64 x,.int .i64 y]).run prog w=.ok (.value (.int .i64 (min x y))) w:=by
 simp[go_sem]<;>(rw[Int.min_def];split<;>split<;>omega)
theorem bi_max(x y:Int)(w:World)(ty:TypeId)(cs:Array Bool): (Go.builtin .max #[3,3] ty cs #[.int .i64 x,.int .i64 y]).run prog w=.ok (.value (.int .i64 (max x y))) w:=by
 simp[go_sem]<;>(rw[Int.max_def];split<;>split<;>omega)
theorem fh(x y c:Nat)(hc:c≤1)(w:World): (callFunc 206 #[.int .u64 (x:Int),.int .u64 (y:Int),.int .u64 (c:Int)]).run prog w=.ok (.value (.tuple #[.int .u64 (((x+y+c)%18446744073709551616:Nat):Int),.int .u64 (((x+y+c)/18446744073709551616:Nat):Int)])) w :=
 Wh func206 kk kk kk kk x y c hc w
theorem C_sign(n:Int): Ji prog 451 [.int .i64 n] (.int .i64 (max (-1) (min 1 n))):=by
 refine fnI func451 I ntmps451 fun S w0 a=>au 0x4312531 ?_
 refine zp (.builtin [_,_] I (fun w ty cs=>bi_min _ _ w ty cs))<|zp (.builtin [_,_] I (fun w ty cs=>bi_max _ _ w ty cs))<|za I<|zn<|zt<|rtK I
theorem C_cmp(n m:Nat)(o:Option Addr)(c1:Nat)(a2:Option Addr)(c2:Nat)(x:(wds n).length≤1099511627776)(hm:(wds m).length≤1099511627776):
  Xo prog 370 [.slice o (wds n).length c1,.slice a2 (wds m).length c2] [Row o (Xd (wds n)),Row a2 (Xd (wds m))] (.int .i64 (ZS n m)):=by
 refine fnI func370 I ntmps370 fun S w0 u=>au 0x262fae4ae43112531 ?_;intro a w h
 refine Zb h I (fun f=>?_) (fun f=>?_)
 ·skip
  refine gC h<|au 0x66fae4ae431 ?_
  refine zv [_] I call451 (C_sign _)<|za I<|zn<|zt<|rtK ?_
  unfold ZS
  have j:(wds n).length≠(wds m).length:=natNe f
  rcases Nat.lt_or_gt_of_ne j with h1|h1
  ·have:=Dt h1;rw[if_pos this];congr 1;rw[Int.min_eq_right oo,Int.max_eq_left oo]
  ·have g:=Dt h1;rw[if_neg oo,if_pos g];congr 1;rw[Int.min_eq_left oo];rfl
 ·have hl:(wds n).length=(wds m).length:=kO f
  refine gC h<|au 0x92566fae43117 ?_;clear h;intro a w h
  refine lpG h [0,1] pkL (fun Y Z (k:Nat) a w=>k≤(wds n).length∧(wds n).drop k=(wds m).drop k∧St 42 S w0 ((5,.int .i64 ((k:Int)-1))::Y) [] Z a w) (fun k=>k) ((wds n).length) (⟨Nat.le_refl _,by rw[List.drop_eq_nil_of_le (Nat.le_refl _),hl,List.drop_eq_nil_of_le (Nat.le_refl _)],h.sub sA⟩) ?_;clear h
  rintro k a w ⟨l,hd,h⟩
  refine gC h<|au 0x240f4311 ?_;intro a w h
  refine Zb h I (fun c=>?_) (fun c=>?_)
  ·have hk:0<k:=by simp at c;omega
   have i:k≤(wds m).length:=hl ▸ l
   obtain ⟨t,r,rfl⟩:=h.row_addr (ad:=o) (M:=Xd (wds n)) List.mem_cons_self (by simp;intro e;rw[e] at l;simp at l;omega)
   obtain ⟨s,q,rfl⟩:=h.row_addr (ad:=a2) (M:=Xd (wds m)) (List.mem_cons_of_mem _ List.mem_cons_self) (by simp;intro e;rw[e] at i;simp at i;omega)
   refine gC h<|zk<|zs<|zb<|zs<|yE [0,1,2,3,4,5,6,7,8]<|au 0x8 ?_
   refine yp I (.pO (k-1)<|.move I)<|au 0x22f ?_;clear h
   refine Zf I kk I mm (by simp;omega) isAgg34 sizeOf34 (Zr 0 oo) (.inr I) dd ?_
   refine au 0x8 ?_
   refine yp I (.pO (k-1)<|.move I)<|au 0x22f ?_
   refine Zf I kk I mm (by simp;omega) isAgg34 sizeOf34 (Zr 0 oo) (.inr I) dd ?_
   refine yp I (.neq I I)<|yn ?_;intro a w h
   refine Zb h I (fun d=>?_) (fun d=>?_)
   ·skip
    refine gC h<|zs<|zs<|yE [0,1,2,3,4,5,6,7,8]<|au 0x8 ?_
    refine yp I (.pO (k-1)<|.move I)<|au 0x22f ?_;clear h
    refine Zf I kk I mm (by simp;omega) isAgg34 sizeOf34 (Zr 0 oo) (.inr I) dd ?_
    refine au 0x8 ?_
    refine yp I (.pO (k-1)<|.move I)<|au 0x22f ?_
    refine Zf I kk I mm (by simp;omega) isAgg34 sizeOf34 (Zr 0 oo) (.inr I) dd ?_
    refine yp I (.lss I I)<|yn ?_;intro a w h
    refine Zb h I (fun b=>?_) (fun b=>?_)
    ·refine gC h<|au 0x62531 ?_
     refine rtK ?_
     have h1:(wds n).getD (k-1) 0<(wds m).getD (k-1) 0:=by simpa using b
     have g:=QR (Wd.wds n) (Wd.wds m) h1 (by rw[Nat.sub_add_cancel hk];exact hd)
     rw[Qv,Qv] at g
     unfold ZS;rw[if_pos g]
    ·refine gC h<|au 0x625317 ?_
     refine rtK ?_
     have v:(wds n).getD (k-1) 0≠(wds m).getD (k-1) 0:=natNe d
     have p:¬(wds n).getD (k-1) 0<(wds m).getD (k-1) 0:=by simpa using b
     have h1:(wds m).getD (k-1) 0<(wds n).getD (k-1) 0:=oo
     have g:=QR (Wd.wds m) (Wd.wds n) h1 (by rw[Nat.sub_add_cancel hk];exact hd.symm)
     rw[Qv,Qv] at g
     unfold ZS;rw[if_neg oo,if_pos g]
   ·have he:(wds n).getD (k-1) 0=(wds m).getD (k-1) 0:=kO d
    refine gC h<|zk<|zr<|zm I<|zp (Pure1.cast (v':=.int .i64 (((k-1:Nat):Int)-1)) (.sub I I) (by show Value.int _ _=Value.int _ _;congr 1;omega))<|au 0x25 ?_;clear h;intro a w h
    refine⟨k-1,⟨oo,drop_step hl oo he (by rw[Nat.sub_add_cancel hk];exact hd),tO h⟩,oo⟩
  ·have hk:k=0:=by simp at c;omega
   refine gC h<|au 0x625310e ?_
   refine rtK ?_
   subst hk
   have e:n=m:=by rw[←Qv n, ←Qv m];simp at hd;rw[hd]
   unfold ZS;rw[if_neg oo,if_neg oo]
theorem C_Cmp(n m:Nat)(f:(wds n).length≤1099511627776)(hm:(wds m).length≤1099511627776): Ji prog 281 [Vp n,Vp m] (.int .i64 (ZS n m)):=by
 refine fnI func281 I ntmps281 fun S w0 s=>zS (zx I fun r=>zx I fun q=>au 0x437f61f85f31125 ?_);intro a w h
 refine Zh h (fun e h=>?_) (fun e h=>?_)
 focus
  have ha:n<18446744073709551616:=Qt.1 (by simpa using e)
  refine gL h<|zq 8 I I (.fA I GL)<|ldQ 8 Ha ?_
  refine zq 8 I I (.binOp I I (fun _=>HG _ _ _ _ _)) ?_;clear h;intro a w h
  refine Zh h (fun d h=>?_) (fun d h=>?_)
  ·have g:m<18446744073709551616:=Qt.1 (by simpa using d)
   refine gL h<|au 0xcc0f43fc0f43f31911e22e ?_;clear h;intro a w h
   refine Zh h (fun b h=>?_) (fun b h=>?_)
   ·refine gL h<|au 0x625311e25 ?_
    refine rtK ?_
    rw[Qk ha,Qk g] at b;have:n<m:=by simpa using b
    unfold ZS;rw[if_pos this]
   ·refine gL h<|au 0x70fc0f43fc0f43f31d25 ?_;clear h;intro a w h
    refine Zh h (fun c h=>?_) (fun c h=>?_)
    ·refine gL h<|au 0x625311e25 ?_
     refine rtK ?_
     rw[Qk ha,Qk g] at b c;have h1:m<n:=by simpa using c
     unfold ZS;rw[if_neg oo,if_pos h1]
    ·refine gL h<|au 0x625317d25 ?_
     refine rtK ?_
     rw[Qk ha,Qk g] at b c;have h1:¬m<n:=by simpa using c
     have k:¬n<m:=by simpa using b
     unfold ZS;rw[if_neg k,if_neg h1]
  have g:¬m<18446744073709551616:=fun f=>by have:=Qt.2 f;simp[this] at d
  refine gL h<|au 0x22e ?_;clear h;intro a w h
 rotate_left
 focus
  have ha:¬n<18446744073709551616:=fun f=>by have:=Qt.2 f;simp[this] at e
  refine gL h<|zo 8 I I I<|zo 8 I I I<|zo 8 I I I<|au 0x24e ?_;clear h;intro a w h
 all_goals
  refine cW ?_
  refine Zj h I ?_
  refine gC h<|zk<|zs<|yE [0,2,1,3,4,5]<|au 0x30f ?_;clear h
  refine au 0x30f ?_
  refine yf [_] I I call196 (BK n f) ?_;rintro v26 j ⟨p,c1,rfl,o,rfl⟩
  refine yf [_] I I call196 (BK m hm) ?_;rintro v28 i ⟨a2,c2,rfl,l,rfl⟩
  refine yw [_,_] I I call370 (C_cmp n m p c1 a2 c2 f hm)<|au 0x6a3e ?_
  refine rtK I
theorem bL(x y c:Nat)(hx:x<4294967296)(d:y<4294967296)(hc:c≤1):
  Ji prog 207 [.int .u32 (x:Int),.int .u32 (y:Int),.int .u32 (c:Int)] (.tuple #[.int .u32 (((x+y+c)%4294967296:Nat):Int),.int .u32 (((x+y+c)/4294967296:Nat):Int)]):=by
 refine fnI func207 I ntmps207 fun S w0 b=>au 0x03f403f43125531 ?_
 refine zp (.binOp I I (fun _=>Jp _ _ _ _ _<|wrap_u64 _ oo oo))<|au 0x03f4 ?_
 refine zp (Pure1.cast (v':=.int .u64 ((x+y+c:Nat):Int)) (.binOp I I (fun _=>Jp _ _ _ _ _<|wrap_u64 _ oo oo)) (by show Value.int _ _=Value.int _ _;congr 1))<|au 0x43125 ?_
 refine zp (Pure1.cast (v':=.int .u32 (((x+y+c)%4294967296:Nat):Int)) (.convert I<|Yf _) (by rw[Jb];congr 1))<|au 0x7bf43125 ?_
 refine zp (Pure1.cast (v':=.int .u32 (((x+y+c)/4294967296:Nat):Int)) (.convert I<|Yf _) (by rw[Jb];congr 1;omega))<|au 0x625 ?_;intro a w h
 refine Js h (Zw h I (.tmp I)<|.tmp I) ?_
 rfl
theorem QK(x y c:Nat)(hx:x<4294967296)(b:y<4294967296)(hc:c≤1):
  Ji prog 284 [.int .u32 (x:Int),.int .u32 (y:Int),.int .u32 (c:Int)] (.tuple #[.int .u32 (((x+8589934592-y-c)%4294967296:Nat):Int),.int .u32 ((if x<y+c then 1 else 0:Nat):Int)]):=by
 refine fnI func284 I ntmps284 fun S w0 d=>au 0x443125531 ?_
 refine zp (.binOp I I (fun _=>FY _ _ _ _ _))<|zm I<|zp (Pure1.cast (v':=.int .u32 (((x+8589934592-y-c)%4294967296:Nat):Int)) (.binOp I I (fun _=>FY _ _ _ _ _)) (by rw[Jb,Jb];congr 1;omega))<|au 0x43125 ?_
 refine zp (.unOp I (fun _=>M4 _ hx))<|zm I<|zp (.binOp I I (fun _=>F3 I _ _ _ _ _ (by show _<4294967296;omega) b))<|zm I<|zm I<|zp (.binOp I I (fun _=>V7 I _ _ _ _ _ hx b))<|zp (.unOp I (fun _=>M4 _<|Nat.xor_lt_two_pow (n:=32) hx b))<|zm I<|zp (.binOp I I (fun _=>F3 I _ _ _ _ _ (by show _<4294967296;omega) (by show _<4294967296;omega)))<|zp (.binOp I I (fun _=>EJ I _ _ _ _ _ (Nat.lt_of_le_of_lt Nat.and_le_right b)<|Nat.lt_of_le_of_lt Nat.and_le_right (by show _<4294967296;omega)))<|zp (Pure1.cast (v':=.int .u32 ((if x<y+c then 1 else 0:Nat):Int)) (.binOp I I (fun _=>Vj _ _ _ _ 31 dd)) (by rw[S7 x y c hx b hc]))<|au 0x625 ?_;intro a w h
 refine Js h (Zw h I (.tmp I)<|.tmp I) ?_
 rfl
end
section
theorem gq(n:Nat)(g:¬n<18446744073709551616)(hs:(wds n).length≤1099511627776):
  CtrO prog 196 [Vp n] [] (fun v m => ∃b,v=.slice (some ⟨b,0,none⟩) (wds n).length (wds n).length∧m=[(b,.cells (Xd (wds n)).toArray 34 (0,0))]):=by
 refine fn_introO func196 I ntmps196 nb ?_
 intro S w0 a r h
 refine gC h<|zS (zx I fun p=>au 0x237f61f85f31125 ?_)
 refine kV I (fun l=>(by exfalso;exact g<|Qt.1 (by simpa using l))) fun l=>au 0x61f85f317 ?_;clear h;intro a w h
 have o:¬n<18446744073709551616:=g
 refine gL h<|zp (.builtin [_] I<|Hg _)<|zp (Pure1.cast (v':=.int .i64 ((wds n).length:Int)) (.binOp I I (fun _=>Ei _ _ _ _ _ dd)) (by rw[Dn,if_neg o];rw[show((4:Int))=((4:Nat):Int) from I,Cd,wrap_i64 _ oo oo];congr 1;omega)) ?_;clear h;intro a w h
 refine Zc<|Je h I I runUnderlying296 typeInfo34 sizeOf34 zeroValue34 I dd (Nat.le_refl _) (by show 4*_≤_;omega) oo dd ?_;clear h;intro j a w h
 rw[show(Value.int .u32 0).cells.toList=[Value.int .u32 0] from rfl,AL,show List.replicate (wds n).length (Value.int .u32 0)=Xd (Bi (wds n) 0 0) from by rw[J8];simp] at h
 refine gL h<|au 0x924ae431125 ?_;clear h;intro a w h
 refine lpG h [1,3,24] pkL (fun Y Z (i:Nat) a w=>i≤(wds n).length∧St 51 S w0 ((25,.int .i64 (i:Int))::Y) [(j,.cells (Xd<|Bi (wds n) i 0).toArray 34 (0,0)),(p,.cells (Vp n).cells 45 (0,0))] Z a w) (fun i=>(wds n).length-i) (0) (⟨Nat.zero_le _,h.sub sA⟩) ?_;clear h
 rintro i a w ⟨q,h⟩
 refine gC h<|au 0x12c31 ?_;intro a w h
 refine Zb h I (fun e=>?_) (fun e=>?_)
 ·have c:i<(wds n).length:=by simpa using e
  refine gC h<|au 0x9243125431917 ?_;clear h;intro a w h
  refine lpG h [1,3,24,25,4] pkL (fun Y Z (k:Nat) a w=>k≤4∧St 51 S w0 ((28,.int .i64 (k:Int))::Y) [(j,.cells (Xd<|Bi (wds n) i k).toArray 34 (0,0)),(p,.cells (Vp n).cells 45 (0,0))] Z a w) (fun k=>4-k) (0) (⟨oo,h.sub sA⟩) ?_;clear h
  rintro k a w ⟨hk,h⟩
  refine gC h<|au 0x12c31 ?_;intro a w h
  refine Zb h I (fun f=>?_) (fun f=>?_)
  ·have d:k<4:=by simp at f;omega
   refine gC h<|au 0x25431917 ?_
   refine yE [0,1,2,3,4,5,6,7,8,9,10,11,12,13,14,15,16,17]<|au 0x22f88 ?_
   refine yd I I (by repeat(first|exact List.Mem.head _|apply List.Mem.tail)) isAgg34 sizeOf34 ((Zr 0 (by rw[Br _ _ _ c];omega)).trans (by rw[Nat.zero_add,Nj _ _ _ c])) ?_;clear h
   refine yp I (.fA I GL)<|ldY Ha ?_
   refine au 0x8 ?_
   refine yp I (.mul I I)<|au 0x8 ?_
   refine yp I (.pN (4*i+k)<|.add I I)<|yp I (Pure1.cast (v':=.int .u8 (((wds n).getD i 0/256 ^ k%256:Nat):Int)) (.index I I (fun _=>Ci runUnderlying9 _ _ (by rw[Dn,if_neg o];omega))) (by rw[N8 o c d]))<|yp I (.convert I<|Mp _<|wrap_u32 _ oo oo)<|au 0x8 ?_
   refine yp I (.pN (8*k)<|.mul I I)<|yp I (Pure1.cast (v':=.int .u32 (((wds n).getD i 0/256 ^ k%256*2 ^ (8*k):Nat):Int)) (.binOp I I (fun _=>Cf _ _ _ _ _ (by show 8*k≤32;omega))) (by rw[wrap_u32 _ oo (by have:=EI ((wds n).getD i 0/256 ^ k) k d;omega)]))<|yp I (Pure1.cast (v':=.int .u32 (((wds n).getD i 0%256 ^ (k+1):Nat):Int)) (.binOp I I (fun _=>EJ I _ _ _ _ _ (Nat.lt_of_lt_of_le (Nat.mod_lt _<|Nat.pow_pos oo)<|Nat.le_trans (Nat.pow_le_pow_right oo (by omega:k≤4)) dd)<|EI _ _ d)) (by rw[WE]))<|au 0x22f ?_
   refine yt I I I ((Qy (Bi (wds n) i k) (0+i) ((wds n).getD i 0%256 ^ (k+1))).trans (by rw[Nat.zero_add,Ni _ _ _ _ c])) (by repeat(first|exact Upd.head|apply Upd.tail)) sizeOf34 I (by simp[Br _ _ _ c];omega) I ?_
   refine au 0x24b0f3a ?_;intro a w h
   exact⟨k+1,⟨oo,tO h⟩,oo⟩
  ·have d:k=4:=by simp at f;omega
   subst d
   rw[J9 _ _ c (Wd.wds n)] at h
   refine gC h<|au 0x24b0f30e ?_;clear h;intro a w h
   exact⟨i+1,⟨oo,tO h⟩,oo⟩
 ·have c:i=(wds n).length:=by simp at e;omega
  refine gC h<|au 0x6254310e ?_;clear h;intro a w h
  subst c
  rw[Nk] at h
  refine He h (Ze h I<|.tmp I) ⟨j,rfl,rfl⟩ sl
theorem U5(l:List Nat): (Xd l).all flat=true:=by simp[flat]
theorem ZJ(X:List Nat): Zl (Xd (List.replicate (X.length+1) 0)).toArray 0 (Xd X)=(Xd (X++[0])).toArray:=by
 rw[O0 _ _ ss]
 simp
theorem C_Add(n m:Nat)(x:(wds n).length≤1000000000000)(hm:(wds m).length≤1000000000000): Ji prog 116 [Vp n,Vp m] (Vp (n+m)):=by
 refine fnI func116 I ntmps116 fun S w0 T=>zS (zx I fun F=>zx I fun G=>zz zeroValue45 fun p=>zn ?_);intro a w h
 refine Yl (fun a w=>St 80 S w0 [(2,pB F),(3,pB G),(4,pB p)] [(p,.cells (Vp 0).cells 45 (0,0)),(G,.cells (Vp m).cells 45 (0,0)),(F,.cells (Vp n).cells 45 (0,0))] [] a w) ?_ ?_
 ·refine gC h<|au 0x437f61f85f31 ?_;clear h;intro a w h
  refine Zh h (fun f h=>?_) (fun f h=>?_)
  focus
   have ha:n<18446744073709551616:=Qt.1 (by simpa using f)
   refine gL h<|zq 16 I I (.fA I GL)<|ldQ 16 Ha ?_
   refine zq 16 I I (.binOp I I (fun _=>HG _ _ _ _ _)) ?_;clear h;intro a w h
   refine Zh h (fun b h=>?_) (fun b h=>?_)
   ·have L:m<18446744073709551616:=Qt.1 (by simpa using b)
    refine gL h<|au 0xc0f43fc0f43f311e22e ?_
    refine zp (.extern [_,_,_] I (fun w=>by rw[Qk ha,Qk L];exact fh n m 0 dd w))<|au 0x200f431255bb4 ?_;clear h;intro a w h
    refine Zb h I (fun l=>?_) (fun l=>?_)
    ·have q:n+m<18446744073709551616:=by simp at l;omega
     refine gC h<|au 0x9af431 ?_
     refine stW I I Zt ?_
     refine zn<|zt ?_;clear h;intro a w h
     refine Js h (Ze h I<|rC Qr) ?_
     have e:(n+m+0)%18446744073709551616=n+m:=oo
     rw[e,Vp,Qk q,Gd q]
    ·refine wp_skip ?_
     exact tO h
   have L:¬m<18446744073709551616:=fun x=>by have:=Qt.2 x;simp[this] at b
   refine gL h<|au 0x22e ?_;clear h;intro a w h
  rotate_left
  focus
   have ha:¬n<18446744073709551616:=fun x=>by have:=Qt.2 x;simp[this] at f
   refine gL h<|au 0x24e31f31f31f ?_;clear h;intro a w h
  all_goals
   refine cW ?_
   refine Zj h I ?_
   refine wp_skip ?_
   exact tO h
 ·clear h
  intro a w h
  refine gC h<|zs<|yE [0,2,1,3,4,5]<|au 0x30f ?_;clear h
  refine au 0x30f ?_
  refine yf [_] I I call196 (BK n oo) ?_;rintro R O ⟨a1,c1,rfl,y,rfl⟩
  refine yf [_] I I call196 (BK m oo) ?_;rintro U H ⟨a2,c2,rfl,v,rfl⟩
  refine au 0xa3e3e ?_;intro a w h
  refine Yl (fun a w => ∃X Y A B o u,Y.length≤X.length∧X.length≤1000000000000∧X.length≤B∧Y.length≤u∧Wd X∧Wd Y∧Zv X+Zv Y=n+m∧St 80 S w0 [(4,pB p),(7,.slice A X.length B),(8,.slice o Y.length u)] [(p,.cells (Vp 0).cells 45 (0,0))] [Row A (Xd X),Row o (Xd Y)] a w) ?_ ?_
  ·refine gC h<|au 0x2cae4ae431 ?_;clear h;intro a w h
   refine Zb h I (fun j=>?_) (fun j=>?_)
   ·have hlen:(wds n).length<(wds m).length:=by simpa using j
    refine gC h<|au 0x255443 ?_;clear h;intro a w h
    exact⟨wds m,wds n,_,_,_,_,oo,hm,v,y,Wd.wds _,Wd.wds _,by rw[Qv,Qv];omega,tO h⟩
   ·have hlen:(wds m).length≤(wds n).length:=by simpa using j
    refine wp_skip ?_
    exact⟨wds n,wds m,_,_,_,_,oo,x,y,v,Wd.wds _,Wd.wds _,by rw[Qv,Qv],tO h⟩
  ·clear h
   rintro a w ⟨X,Y,A,B,o,u,C,J,Q,P,K,D,V,h⟩
   refine gC h<|au 0xae431 ?_
   refine zp (.pN (X.length+1)<|.add I I) ?_;clear h;intro a w h
   refine Zc<|Je h I I runUnderlying296 typeInfo34 sizeOf34 zeroValue34 I dd (by exact Nat.le_refl _) (by show 4*_≤_;omega) oo dd ?_;clear h;intro k a w h
   rw[show(Value.int .u32 0).cells.toList=[Value.int .u32 0] from rfl,AL,show List.replicate (X.length+1) (Value.int .u32 0)=Xd (List.replicate (X.length+1) 0) from by simp] at h
   refine gL h<|au 0x443125 ?_;clear h;intro a w h
   refine Zc<|TC h I I (M:=Xd X) ss ss runUnderlying296 sizeOf34 oo dd (ZJ X) (by repeat(first|exact Upd.head|apply Upd.tail)) ss (U5 X) dd ?_;clear h;intro a w h
   rw[show X.length+1=(X++[0]).length from by simp] at h
   refine gL h<|au 0x924ae431125312 ?_;clear h;intro a w h
   refine Jh (fun(i:Nat) a w => ∃Z c,i≤Z.length∧Z.length=X.length+1∧Wd Z∧c≤1∧Zv Z+4294967296 ^ i*(c+Zv (Y.drop i))=n+m∧St 80 S w0 [(4,pB p),(8,.slice o Y.length u),(9,.slice (some ⟨k,0,none⟩) Z.length Z.length),(10,.int .u32 (c:Int)),(52,.int .i64 (Z.length:Int)),(53,.int .i64 (i:Int))] [(k,.cells (Xd Z).toArray 34 (0,0)),(p,.cells (Vp 0).cells 45 (0,0))] [Row o (Xd Y)] a w) (fun i=>X.length+1-i) (0) (⟨X++[0],0,Nat.zero_le _,by simp,K.append (Wd.zeros 1),oo,by rw[Jw];simp[Zv];omega,(h.factsSub (by simp)).sub (subL ⟨rfl,rfl,rfl,rfl,rfl,rfl,trivial⟩)⟩) ?_;clear h
   rintro i a w ⟨Z,c,hi,t,z,hc,hT,h⟩
   refine gC h<|au 0x12c31 ?_;intro a w h
   refine Zb h I (fun d=>?_) (fun d=>?_)
   ·have r:i<Z.length:=by simpa using d
    refine gC h<|au 0x253125431917 ?_;clear h;intro a w h
    refine Yl (fun a w=>St 80 S w0 [(4,pB p),(8,.slice o Y.length u),(9,.slice (some ⟨k,0,none⟩) Z.length Z.length),(10,.int .u32 (c:Int)),(11,.int .i64 (i:Int)),(12,.int .u32 (Y.getD i 0:Int)),(52,.int .i64 (Z.length:Int)),(53,.int .i64 (i:Int))] [(k,.cells (Xd Z).toArray 34 (0,0)),(p,.cells (Vp 0).cells 45 (0,0))] [Row o (Xd Y)] a w) ?_ ?_
    ·refine gC h<|au 0x2cae4431 ?_;clear h;intro a w h
     refine Zb h I (fun g=>?_) (fun g=>?_)
     ·have s:i<Y.length:=by simpa using g
      obtain ⟨bY,W,E⟩:=h.row_addr (ad:=o) (M:=Xd Y) ss (by simp;intro e;simp[e] at s)
      subst E
      refine gC h<|au 0x2573fee443 ?_;clear h;intro a w h
      exact tO h
     ·have s:Y.length≤i:=by simpa using g
      refine wp_skip ?_
      rw[De s]
      exact tO h
    ·clear h
     intro a w h
     refine gC h<|au 0xee44443 ?_
     refine zd I mm isAgg34 sizeOf34 ((Zr 0 (by rw[Nat.zero_add];omega)).trans (by rw[Nat.zero_add])) ?_
     refine zm I<|zm I<|zv [_,_,_] I call207 (bL _ _ _ (z.getD i) (D.getD i) hc)<|au 0xeebb4 ?_
     refine zt' I I ((Qy Z (0+i) ((Z.getD i 0+Y.getD i 0+c)%4294967296)).trans (by rw[Nat.zero_add])) uu sizeOf34 I (by simp;omega) I ?_
     refine au 0x24b0f325 ?_;clear h;intro a w h
     refine⟨i+1,⟨Z.set i ((Z.getD i 0+Y.getD i 0+c)%4294967296),_,by simp;omega,by simpa using t,z.set _ _ (Nat.mod_lt _ dd),?_,ME r hT,by rw[List.length_set];exact tO h⟩,oo⟩
     have hz:=z.getD i
     have hy:=D.getD i
     omega
   ·have r:i=Z.length:=by simp at d;omega
    refine wp_exit<|wp_seq<|wp_region_lit ?_
    replace h:=h.shareAll T (Xd Z) I
    refine gL h<|zm I<|zw [_] I call195 (nu _ _ Z z (Nat.le_refl _) oo)<|stW I I Zt ?_
    refine zn<|zt ?_;clear h;intro a w h
    refine Js h (Ze h I<|rC Qr) ?_
    rw[r] at hT
    have e:Zv Z=n+m:=mW (N:=Z.length) (c:=c) (by rw[List.drop_eq_nil_of_le oo] at hT;simpa [Zv] using hT) (by rw[←V,t];exact add_lt K D C)
    rw[e]
end
section
theorem HA(a d b c:Int)(w:World): (Instr.buildSlice 296 4 [(0,.int .u32 a),(1,.int .u32 d),(2,.int .u32 b),(3,.int .u32 c)].toArray).run prog w=.ok (.slice (some ⟨w.heap.size,0,none⟩) 4 4) (w.alloc (.cells #[.int .u32 a,.int .u32 d,.int .u32 b,.int .u32 c] 34 (0,0))):=by
 simp[go_sem]
theorem nN(n m:Nat)(v:(wds n).length≤1000000000000)(hm:(wds m).length≤1000000000000): Ji prog 183 [Vp n,Vp m] (.tuple #[Vp (n-m),.bool (decide (m≤n))]):=by
 refine fnI func183 I ntmps183 fun S w0 y=>zS (zx I fun C=>zx I fun B=>zz zeroValue45 fun r=>au 0x5e5e31125 ?_)
 refine zv [_,_] I call281 (C_Cmp n m oo oo)<|au 0x2c ?_;intro a w h
 refine Zb h I (fun b=>?_) (fun b=>?_)
 ·have k:n<m:=by rw[HU] at b;simpa using b
  refine gC h<|zS<|zp (.build [] I<|My)<|stW I I Zt ?_
  refine au 0x625 ?_;clear h;intro a w h
  refine Js h (Zw h I (rC Qr)<|.tmp I) ?_
  rw[show n-m=0 by omega,show decide (m≤n)=false from decide_eq_false oo];rfl
 ·have hle:m≤n:=by rw[HU] at b;simpa using b
  refine gC h<|au 0x237f61f85f3117 ?_;clear h;intro a w h
  refine Zb h I (fun f=>?_) (fun f=>?_)
  ·have ha:n<18446744073709551616:=Qt.1 (by simpa using f)
   refine gC h<|au 0xc0f43fc0f43f31 ?_
   refine zp (Pure1.cast (v':=.int .u64 ((n-m:Nat):Int)) (.binOp I I (fun _=>FY _ _ _ _ _)) (by rw[Qk ha,Qk oo,wrap_u64 _ oo oo];congr 1;omega))<|au 0x9af ?_
   refine stW I I Zt ?_
   refine au 0x625 ?_;clear h;intro a w h
   refine Js h (Zw h I (rC Qr)<|.tmp I) ?_
   rw[decide_eq_true hle,Vp,Qk (by omega:n-m<_),Gd oo]
  ·have ha:¬n<18446744073709551616:=fun v=>by have:=Qt.2 v;simp[this] at f
   refine gC h<|zk<|zs<|yE [0,2,1,3,4,5]<|au 0x30f ?_;clear h
   refine au 0x30f ?_
   refine A0 I kk (vs:=[_]) I call196 (gq n ha oo) ss dd ?_;rintro v26 t ⟨j,rfl,rfl⟩
   refine yf [_] I I call196 (BK m oo) ?_;rintro v28 u ⟨p,z,rfl,x,rfl⟩
   refine au 0x924ae43112531a3e3e ?_;intro a w h
   refine lpG h [4,7] pkL (fun Y E (i:Nat) a w => ∃Z c,i≤Z.length∧Z.length=(wds n).length∧Wd Z∧c≤1∧Zv Z+m=n+4294967296 ^ i*(c+Zv ((wds m).drop i))∧St 58 S w0 ((6,.slice (some ⟨j,0,none⟩) Z.length Z.length)::(8,.int .u32 (c:Int))::(30,.int .i64 (Z.length:Int))::(31,.int .i64 (i:Int))::Y) [(j,.cells (Xd Z).toArray 34 (0,0)),(r,.cells (Vp 0).cells 45 (0,0))] E a w) (fun i=>(wds n).length-i) (0) (⟨wds n,0,Nat.zero_le _,rfl,Wd.wds n,oo,by simp[Qv],((h.drop<|List.Sublist.cons_cons _<|List.Sublist.cons_cons _<|List.nil_sublist _).factsSub (by simp)).sub sA⟩) ?_;clear h
   rintro i a w ⟨Z,c,F,q,o,hc,hT,h⟩
   refine gC h<|au 0x12c31 ?_;intro a w h
   refine Zb h I (fun g=>?_) (fun g=>?_)
   ·have l:i<Z.length:=by simpa using g
    refine gC h<|au 0x253125431917 ?_;clear h;intro a w h
    refine Yl (fun a w=>St 58 S w0 [(4,pB r),(6,.slice (some ⟨j,0,none⟩) Z.length Z.length),(7,.slice p (wds m).length z),(8,.int .u32 (c:Int)),(9,.int .i64 (i:Int)),(10,.int .u32 ((wds m).getD i 0:Int)),(30,.int .i64 (Z.length:Int)),(31,.int .i64 (i:Int))] [(j,.cells (Xd Z).toArray 34 (0,0)),(r,.cells (Vp 0).cells 45 (0,0))] [Row p (Xd<|wds m)] a w) ?_ ?_
    ·refine gC h<|au 0x2cae4431 ?_;clear h;intro a w h
     refine Zb h I (fun d=>?_) (fun d=>?_)
     ·have k:i<(wds m).length:=by simpa using d
      obtain ⟨D,A,s⟩:=h.row_addr (ad:=p) (M:=Xd (wds m)) ss (by simp;intro e;simp[e] at k)
      subst s
      refine gC h<|au 0x2573fee443 ?_;clear h;intro a w h
      exact tO h
     ·have k:(wds m).length≤i:=by simpa using d
      refine wp_skip ?_
      rw[De k]
      exact tO h
    ·clear h
     intro a w h
     refine gC h<|au 0xee44443 ?_
     refine zd I mm isAgg34 sizeOf34 ((Zr 0 (by rw[Nat.zero_add];omega)).trans (by rw[Nat.zero_add])) ?_
     refine zm I<|zm I<|zv [_,_,_] I call284 (QK _ _ _ (o.getD i) ((Wd.wds m).getD i) hc)<|au 0xeebb4 ?_
     refine zt' I I ((Qy Z (0+i) ((Z.getD i 0+8589934592-(wds m).getD i 0-c)%4294967296)).trans (by rw[Nat.zero_add])) uu sizeOf34 I (by simp;omega) I ?_
     refine au 0x24b0f325 ?_;clear h;intro a w h
     refine⟨i+1,⟨Z.set i ((Z.getD i 0+8589934592-(wds m).getD i 0-c)%4294967296),(if Z.getD i 0<(wds m).getD i 0+c then 1 else 0),by simp;omega,by simpa using q,o.set _ _ (Nat.mod_lt _ dd),by split<;>omega,ct l hT (VF _ _ _ (o.getD i) ((Wd.wds m).getD i) hc),by rw[List.length_set];exact tO h⟩,oo⟩
   ·have l:i=Z.length:=by simp at g;omega
    refine wp_exit<|wp_seq<|wp_region_lit ?_
    replace h:=h.shareAll y (Xd Z) I
    refine gL h<|zm I<|zw [_] I call195 (nu _ _ Z o (Nat.le_refl _) oo)<|stW I I Zt ?_
    refine au 0x625 ?_;clear h;intro a w h
    refine Js h (Zw h I (rC Qr)<|.tmp I) ?_
    rw[l] at hT
    have e:Zv Z=n-m:=by
     refine jK (N:=Z.length) (c:=c) o I hle ?_
     rw[List.drop_eq_nil_of_le] at hT
     ·simpa [Zv] using hT
     ·refine Nat.le_of_not_lt fun hgt=>?_
      have:=Dt (n:=n) (m:=m) oo
      omega
    rw[e,decide_eq_true hle]
theorem oa(x y:Nat)(hx:x<18446744073709551616)(c:y<18446744073709551616):
  Ji prog 194 [.int .u64 (x:Int),.int .u64 (y:Int)] (.tuple #[.int .u64 ((x*y/18446744073709551616:Nat):Int),.int .u64 ((x*y%18446744073709551616:Nat):Int)]):=by
 obtain ⟨ht,hw,d⟩:=mul64_hi x y hx c
 have g:=Ai (a:=x/4294967296) (b:=y/4294967296) oo oo
 have f:=Ai (a:=x/4294967296) (b:=y%4294967296) oo oo
 have e:=Ai (a:=x%4294967296) (b:=y/4294967296) oo oo
 have j:=Ai (a:=x%4294967296) (b:=y%4294967296) oo oo
 refine fnI func194 I ntmps194 fun S w0 i=>au 0x43125531 ?_
 refine zp (Pure1.cast (v':=.int .u64 (((x%4294967296):Nat):Int)) (.binOp I I (fun _=>F3 I _ _ _ x 4294967295 hx dd)) (by rw[show(4294967295:Nat)=2 ^ 32-1 from I,Nat.and_two_pow_sub_one_eq_mod]))<|au 0x43125 ?_
 refine zp (Pure1.cast (v':=.int .u64 (((x/4294967296):Nat):Int)) (.binOp I I (fun _=>Vj _ _ _ x 32 dd)) (by rfl))<|au 0x43125 ?_
 refine zp (Pure1.cast (v':=.int .u64 (((y%4294967296):Nat):Int)) (.binOp I I (fun _=>F3 I _ _ _ y 4294967295 c dd)) (by rw[show(4294967295:Nat)=2 ^ 32-1 from I,Nat.and_two_pow_sub_one_eq_mod]))<|au 0x43125 ?_
 refine zp (Pure1.cast (v':=.int .u64 (((y/4294967296):Nat):Int)) (.binOp I I (fun _=>Vj _ _ _ y 32 dd)) (by rfl))<|au 0x443125 ?_
 refine zp (Pure1.cast (v':=.int .u64 (((x%4294967296)*(y%4294967296):Nat):Int)) (.binOp I I (fun _=>Cg _ _ _ _ _)) (by rw[Gq oo]))<|au 0x443125 ?_
 refine zp (Pure1.cast (v':=.int .u64 (((x/4294967296)*(y%4294967296):Nat):Int)) (.binOp I I (fun _=>Cg _ _ _ _ _)) (by rw[Gq oo]))<|zm I<|zp (Pure1.cast (v':=.int .u64 (((x%4294967296)*(y%4294967296)/4294967296:Nat):Int)) (.binOp I I (fun _=>Vj _ _ _ _ 32 dd)) (by rfl))<|zp (Pure1.cast (v':=.int .u64 ((((x/4294967296)*(y%4294967296)+(x%4294967296)*(y%4294967296)/4294967296):Nat):Int)) (.binOp I I (fun _=>BD _ _ _ _ _)) (by rw[Kw ht]))<|au 0x43125 ?_
 refine zp (Pure1.cast (v':=.int .u64 ((((x/4294967296)*(y%4294967296)+(x%4294967296)*(y%4294967296)/4294967296)%4294967296:Nat):Int)) (.binOp I I (fun _=>F3 I _ _ _ _ 4294967295 ht dd)) (by rw[show(4294967295:Nat)=2 ^ 32-1 from I,Nat.and_two_pow_sub_one_eq_mod]))<|au 0x43125 ?_
 refine zp (Pure1.cast (v':=.int .u64 ((((x/4294967296)*(y%4294967296)+(x%4294967296)*(y%4294967296)/4294967296)/4294967296:Nat):Int)) (.binOp I I (fun _=>Vj _ _ _ _ 32 dd)) (by rfl))<|au 0x4443125 ?_
 refine zp (Pure1.cast (v':=.int .u64 (((x%4294967296)*(y/4294967296):Nat):Int)) (.binOp I I (fun _=>Cg _ _ _ _ _)) (by rw[Gq oo]))<|zp (Pure1.cast (v':=.int .u64 (((((x/4294967296)*(y%4294967296)+(x%4294967296)*(y%4294967296)/4294967296)%4294967296+(x%4294967296)*(y/4294967296)):Nat):Int)) (.binOp I I (fun _=>BD _ _ _ _ _)) (by rw[Kw hw]))<|au 0x443125 ?_
 refine zp (Pure1.cast (v':=.int .u64 (((x/4294967296)*(y/4294967296):Nat):Int)) (.binOp I I (fun _=>Cg _ _ _ _ _)) (by rw[Gq oo]))<|zm I<|zp (Pure1.cast (v':=.int .u64 (((x/4294967296)*(y/4294967296)+((x/4294967296)*(y%4294967296)+(x%4294967296)*(y%4294967296)/4294967296)/4294967296:Nat):Int)) (.binOp I I (fun _=>BD _ _ _ _ _)) (by rw[Kw oo]))<|zm I<|zp (Pure1.cast (v':=.int .u64 (((((x/4294967296)*(y%4294967296)+(x%4294967296)*(y%4294967296)/4294967296)%4294967296+(x%4294967296)*(y/4294967296))/4294967296:Nat):Int)) (.binOp I I (fun _=>Vj _ _ _ _ 32 dd)) (by rfl))<|zp (Pure1.cast (v':=.int .u64 ((x*y/18446744073709551616:Nat):Int)) (.binOp I I (fun _=>BD _ _ _ _ _)) (by rw[Kw (by rw[d];exact Nat.div_lt_of_lt_mul<|Nat.mul_lt_mul'' hx c),d]))<|au 0x443125 ?_
 refine zp (Pure1.cast (v':=.int .u64 ((x*y%18446744073709551616:Nat):Int)) (.binOp I I (fun _=>Cg _ _ _ _ _)) (by rw[←Int.natCast_mul,An];congr 1))<|au 0x625 ?_;intro a w h
 refine Js h (Zw h I (.tmp I)<|.tmp I) ?_
 rfl
theorem ob(n m:Nat)(v:(wds n).length≤500000000000)(hm:(wds m).length≤500000000000): Ji prog 109 [Vp n,Vp m] (Vp (n*m)):=by
 refine fnI func109 I ntmps109 fun S w0 C=>zS (zx I fun A=>zx I fun B=>zz zeroValue45 fun u=>zn ?_);intro a w h
 refine Yl (fun a w=>St 103 S w0 [(2,pB A),(3,pB B),(4,pB u)] [(u,.cells (Vp 0).cells 45 (0,0)),(B,.cells (Vp m).cells 45 (0,0)),(A,.cells (Vp n).cells 45 (0,0))] [] a w) ?_ ?_
 ·refine gC h<|au 0x437f61f85f31 ?_;clear h;intro a w h
  refine Zh h (fun d h=>?_) (fun d h=>?_)
  focus
   have ha:n<18446744073709551616:=Qt.1 (by simpa using d)
   refine gL h<|zq 18 I I (.fA I GL)<|ldQ 18 Ha ?_
   refine zq 18 I I (.binOp I I (fun _=>HG _ _ _ _ _)) ?_;clear h;intro a w h
   refine Zh h (fun f h=>?_) (fun f h=>?_)
   ·have q:m<18446744073709551616:=Qt.1 (by simpa using f)
    refine gL h<|au 0xc0f43f311e22e ?_;clear h;intro a w h
    rw[Qk ha] at h
    refine gL h<|au 0xc0f43f ?_;clear h;intro a w h
    rw[Qk q] at h
    refine gL h<|zv [_,_] I call194 (oa n m ha q)<|au 0x431255bb4 ?_
    refine zp (Pure1.cast (v':=.int .u32 ((n*m%18446744073709551616%4294967296:Nat):Int)) (.convert I<|Yf _) (by rw[Jb];congr 1))<|au 0x7bf4 ?_
    refine zp (Pure1.cast (v':=.int .u32 ((n*m%18446744073709551616/4294967296:Nat):Int)) (.convert I<|Yf _) (by rw[Jb];congr 1;omega))<|zm I<|zp (Pure1.cast (v':=.int .u32 ((n*m/18446744073709551616%4294967296:Nat):Int)) (.convert I<|Yf _) (by rw[Jb];congr 1))<|au 0x7bf4 ?_
    refine zp (Pure1.cast (v':=.int .u32 ((n*m/18446744073709551616/4294967296:Nat):Int)) (.convert I<|Yf _) (by have T:=Nat.div_lt_of_lt_mul<|Nat.mul_lt_mul'' ha q;rw[Jb];congr 1;omega)) (zB [(_,_),(_,_),(_,_),(_,_)] I (HA _ _ _ _) fun U=>?_);clear h;intro a w h
    replace h:=h.shareAll C (Xd [n*m%18446744073709551616%4294967296,n*m%18446744073709551616/4294967296,n*m/18446744073709551616%4294967296,n*m/18446744073709551616/4294967296]) I
    refine gL h<|zw [_] I call195 (nu _ _ [n*m%18446744073709551616%4294967296,n*m%18446744073709551616/4294967296,n*m/18446744073709551616%4294967296,n*m/18446744073709551616/4294967296] (by intro x hx;have T:=Nat.div_lt_of_lt_mul<|Nat.mul_lt_mul'' ha q;simp at hx;omega) ss ss)<|stW I I Zt ?_
    refine zn<|zt ?_;clear h;intro a w h
    refine Js h (Ze h I<|rC Qr) ?_
    have e:Zv [n*m%18446744073709551616%4294967296,n*m%18446744073709551616/4294967296,n*m/18446744073709551616%4294967296,n*m/18446744073709551616/4294967296]=n*m:=by simp only[Zv];omega
    rw[e]
   have q:¬m<18446744073709551616:=fun v=>by have:=Qt.2 v;simp[this] at f
   refine gL h<|au 0x22e ?_;clear h;intro a w h
  rotate_left
  focus
   have ha:¬n<18446744073709551616:=fun v=>by have:=Qt.2 v;simp[this] at d
   refine gL h<|zo 18 I I I<|zo 18 I I I<|zo 18 I I I<|au 0x24e ?_;clear h;intro a w h
  all_goals
   refine cW ?_
   refine Zj h I ?_
   refine wp_skip ?_
   exact tO h
 ·clear h
  intro a w h
  refine gC h<|zs<|yE [0,2,1,3,4,5]<|au 0x30f ?_;clear h
  refine au 0x30f ?_
  refine yf [_] I I call196 (BK n oo) ?_;rintro v44 D ⟨J,V,rfl,L,rfl⟩
  refine yf [_] I I call196 (BK m oo) ?_;rintro v46 F ⟨K,cY,rfl,Q,rfl⟩
  refine au 0xae4ae431a3e3e ?_
  refine zp (.pN ((wds n).length+(wds m).length)<|.add I I) ?_;intro a w h
  refine Zc<|Je h I I runUnderlying296 typeInfo34 sizeOf34 zeroValue34 I dd (by exact Nat.le_refl _) (by show 4*_≤_;omega) oo dd ?_;clear h;intro l a w h
  rw[show(Value.int .u32 0).cells.toList=[Value.int .u32 0] from rfl,AL,show List.replicate ((wds n).length+(wds m).length) (Value.int .u32 0)=Xd (List.replicate ((wds n).length+(wds m).length) 0) from by simp] at h
  refine gL h<|au 0x924ae431125 ?_;clear h;intro a w h
  refine lpG h [4,8,53,54] pkL (fun Y E (i:Nat) a w=>i≤(wds n).length ∧ ∃Z,Z.length=(wds n).length+(wds m).length∧Wd Z∧Zv Z=Zv ((wds n).take i)*Zv (wds m)∧St 103 S w0 ((9,.slice (some ⟨l,0,none⟩) Z.length Z.length)::(55,.int .i64 (i:Int))::Y) [(l,.cells (Xd Z).toArray 34 (0,0)),(u,.cells (Vp 0).cells 45 (0,0))] E a w) (fun i=>(wds n).length-i) (0) (⟨Nat.zero_le _,List.replicate ((wds n).length+(wds m).length) 0,by simp,Wd.zeros _,by rw[Du _ (fun x hx=>List.eq_of_mem_replicate hx)];simp[Zv],by rw[List.length_replicate];exact((h.drop<|List.Sublist.cons_cons _<|List.Sublist.cons_cons _<|List.nil_sublist _).factsSub (by simp)).sub sA⟩) ?_;clear h
  rintro i a w ⟨hi,Z,b,p,t,h⟩
  refine gC h<|au 0x12c31 ?_;intro a w h
  refine Zb h I (fun j=>?_) (fun j=>?_)
  ·have o:i<(wds n).length:=by simpa using j
   have s:=o
   obtain ⟨W,P,y⟩:=h.row_addr (ad:=J) (M:=Xd (wds n)) ss (by simp;intro e;simp[e] at s)
   subst y
   refine gC h<|au 0x924ae4311253125573fee431917 ?_;clear h;intro a w h
   refine lpG h [4,8,53,54,55,10,11,60,61] pkL (fun Y E (k:Nat) a w=>k≤(wds m).length ∧ ∃Z c,Z.length=(wds n).length+(wds m).length∧Wd Z∧c<4294967296∧Z.getD (i+(wds m).length) 0=0∧Zv Z+4294967296 ^ (i+k)*c+4294967296 ^ (i+k)*((wds n).getD i 0*Zv ((wds m).drop k))=Zv ((wds n).take i)*Zv (wds m)+4294967296 ^ i*((wds n).getD i 0*Zv (wds m))∧St 103 S w0 ((9,.slice (some ⟨l,0,none⟩) Z.length Z.length)::(12,.int .u64 (c:Int))::(62,.int .i64 (k:Int))::Y) [(l,.cells (Xd Z).toArray 34 (0,0)),(u,.cells (Vp 0).cells 45 (0,0))] E a w) (fun k=>(wds m).length-k) (0) (⟨Nat.zero_le _,Z,0,b,p,by decide,JK (Wd.wds n) (Wd.wds m) t (Nat.le_refl _),by simp[t],h.sub sA⟩) ?_;clear h
   clear p t b
   rintro k a w ⟨hk,Z,c,b,p,hc,G,hT,h⟩
   refine gC h<|au 0x12c31 ?_;intro a w h
   refine Zb h I (fun g=>?_) (fun g=>?_)
   ·have r:k<(wds m).length:=by simpa using g
    have s:=r
    obtain ⟨X,R,z⟩:=h.row_addr (ad:=K) (M:=Xd (wds m)) ss (by simp;intro e;simp[e] at s)
    subst z
    have q:=OG ((Wd.wds n).getD i) ((Wd.wds m).getD k) hc (p.getD (i+k))
    have H:=(Wd.wds n).getD i
    have N:=(Wd.wds m).getD k
    have O:=p.getD (i+k)
    refine gC h<|au 0x03f403f443125573fee431917 ?_
    refine zp (Pure1.cast (v':=.int .u64 (((wds n).getD i 0*(wds m).getD k 0:Nat):Int)) (.binOp I I (fun _=>Cg _ _ _ _ _)) (by rw[Gq oo]))<|au 0x444 ?_
    refine zp (.pN (i+k)<|.add I I)<|au 0xee ?_
    refine zd I mm isAgg34 sizeOf34 ((Zr 0 (by rw[Nat.zero_add];omega)).trans (by rw[Nat.zero_add])) ?_
    refine au 0x03f ?_
    refine zp (Pure1.cast (v':=.int .u64 (((wds n).getD i 0*(wds m).getD k 0+Z.getD (i+k) 0:Nat):Int)) (.binOp I I (fun _=>BD _ _ _ _ _)) (by rw[Kw oo]))<|zp (Pure1.cast (v':=.int .u64 (((c+((wds n).getD i 0*(wds m).getD k 0+Z.getD (i+k) 0)):Nat):Int)) (.binOp I I (fun _=>BD _ _ _ _ _)) (by rw[Kw q]))<|au 0x4443125 ?_
    refine zp (.pN (i+k)<|.add I I)<|zm I<|zp (Pure1.cast (v':=.int .u32 (((c+((wds n).getD i 0*(wds m).getD k 0+Z.getD (i+k) 0))%4294967296:Nat):Int)) (.convert I<|Yf _) (by rw[Jb];congr 1))<|au 0xee ?_
    refine zt' I I ((Qy Z (0+(i+k)) ((c+((wds n).getD i 0*(wds m).getD k 0+Z.getD (i+k) 0))%4294967296)).trans (by rw[Nat.zero_add])) uu sizeOf34 I (by simp;omega) I ?_
    refine zn<|zr<|zm I<|zp (Pure1.cast (v':=.int .u64 (((c+((wds n).getD i 0*(wds m).getD k 0+Z.getD (i+k) 0))/4294967296:Nat):Int)) (.binOp I I (fun _=>Vj _ _ _ _ 32 dd)) (by rfl))<|au 0x24b0f325 ?_;clear h;intro a w h
    exact⟨k+1,⟨oo,Z.set (i+k) ((c+((wds n).getD i 0*(wds m).getD k 0+Z.getD (i+k) 0))%4294967296),_,by simpa using b,p.set _ _ (Nat.mod_lt _ dd),Nat.div_lt_of_lt_mul q,by rw[Iw oo];exact G,ef oo hT,by rw[List.length_set];exact tO h⟩,oo⟩
   ·have r:k=(wds m).length:=by simp at g;omega
    subst r
    refine gC h<|au 0xae44430e ?_
    refine zp (.pN (i+(wds m).length)<|.add I I)<|zm I<|zp (Pure1.cast (v':=.int .u32 (c:Int)) (.convert I<|Yf _) (by rw[wrap_u32 _ oo oo]))<|au 0xee ?_
    refine zt' I I ((Qy Z (0+(i+(wds m).length)) c).trans (by rw[Nat.zero_add])) uu sizeOf34 I (by simp;omega) I ?_
    refine au 0x24b0f32 ?_;clear h;intro a w h
    exact⟨i+1,⟨oo,Z.set (i+(wds m).length) c,by simpa using b,p.set _ _ hc,Pu o oo G hT,by rw[List.length_set];exact tO h⟩,oo⟩
  ·have o:i=(wds n).length:=by simp at j;omega
   refine wp_exit<|wp_seq<|wp_region_lit ?_
   replace h:=h.shareAll C (Xd Z) I
   refine gL h<|zm I<|zw [_] I call195 (nu _ _ Z p (Nat.le_refl _) oo)<|stW I I Zt ?_
   refine zn<|zt ?_;clear h;intro a w h
   refine Js h (Ze h I<|rC Qr) ?_
   rw[o,List.take_length,Qv,Qv] at t
   rw[t]
end
section
theorem om(c d y:Nat)(i:d<4294967296)(j:y<4294967296)(k:c<y):
  Ji prog 371 [.int .u32 (c:Int),.int .u32 (d:Int),.int .u32 (y:Int)] (.tuple #[.int .u32 (((c*4294967296+d)/y:Nat):Int),.int .u32 (((c*4294967296+d)%y:Nat):Int)]):=by
 have hq:(c*4294967296+d)/y<4294967296:=H9 k i
 have hr:(c*4294967296+d)%y<y:=Nat.mod_lt _ oo
 refine fnI func371 I ntmps371 fun S w0 l=>au 0x462f431125531 ?_
 refine bbT (fun g=>(by exfalso;have:=kO (b:=0) g;omega)) fun g=>zq 11 I I (.move I)<|zq 11 I I (.move I)<|zq 11 I I (.leq I I) (bbF (fun f=>(by exfalso;have:=of_decide_eq_true f;omega)) fun f=>au 0x03f4317d22e ?_)
 refine zp (Pure1.cast (v':=.int .u64 ((c*4294967296:Nat):Int)) (.binOp I I (fun _=>Cf _ _ _ c 32 dd)) (by rw[wrap_u64 _ oo oo]))<|au 0x03f4 ?_
 refine zp (Pure1.cast (v':=.int .u64 ((c*4294967296+d:Nat):Int)) (.binOp I I (fun _=>EJ I _ _ _ (c*4294967296) d (by show _<18446744073709551616;omega) (by show _<18446744073709551616;omega))) (by have e:=Nat.shiftLeft_add_eq_or_of_lt (show d<2 ^ 32 by omega) c;rw[Nat.shiftLeft_eq] at e;rw[show c*4294967296=c*2 ^ 32 from I, ←e]))<|za I<|zn<|zs<|yE [0,1,2,3,4,5,6,7,8,9,10,11]<|au 0x58f88 ?_
 refine yp I (Pure1.cast (v':=.int .u64 (((c*4294967296+d)/y:Nat):Int)) (.binOp I I (fun _=>Ei _ _ _ _ _ oo)) (by rw[Cd,ED (Nat.lt_of_lt_of_le hq dd)]))<|yp I (Pure1.cast (v':=.int .u32 (((c*4294967296+d)/y:Nat):Int)) (.convert I<|Yf _) (by rw[EE hq]))<|au 0x58f88 ?_
 refine yp I (Pure1.cast (v':=.int .u64 (((c*4294967296+d)%y:Nat):Int)) (.binOp I I (fun _=>Yn _ _ _ _ _ oo)) (by rw[Ym]))<|yp I (Pure1.cast (v':=.int .u32 (((c*4294967296+d)%y:Nat):Int)) (.convert I<|Yf _) (by rw[EE (Nat.lt_trans hr j)]))<|au 0x6a3e3e ?_;intro a w h
 refine Js h (Zw h I (.tmp I)<|.tmp I) ?_
 rfl
theorem ni(ad:Option Addr)(cp:Nat)(X:List Nat)(y:Nat)(o:Wd X)(hl:X.length≤1099511627776)(d:0<y)(p:y<4294967296):
  CtrO prog 282 [.slice ad X.length cp,.int .u32 (y:Int)] [Row ad (Xd X)] (fun v i => ∃b Q,v=.tuple #[.slice (some ⟨b,0,none⟩) Q.length Q.length,.int .u32 ((Zv X%y:Nat):Int)]∧Wd Q∧Q.length=X.length∧Zv Q=Zv X/y∧i=[(b,.cells (Xd Q).toArray 34 (0,0))]):=by
 refine fn_introO func282 I ntmps282 nb ?_
 intro S w0 a t h
 refine gC h<|au 0xae43125531 ?_;clear h;intro a w h
 refine Zc<|Je h I I runUnderlying296 typeInfo34 sizeOf34 zeroValue34 I dd (by exact Nat.le_refl _) (by show 4*_≤_;omega) oo dd ?_;clear h;intro n a w h
 rw[show(Value.int .u32 0).cells.toList=[Value.int .u32 0] from rfl,AL,show List.replicate X.length (Value.int .u32 0)=Xd (List.replicate X.length 0) from by simp] at h
 refine gL h<|au 0x92566fae431125 ?_;clear h;intro a w h
 refine lpG h [0,1,4] pkL (fun Y Z (k:Nat) a w => ∃Q r,k≤X.length∧Q.length=X.length∧Wd Q∧r<y∧Zv (X.drop k)=Zv (Q.drop k)*y+r∧St 32 S w0 ((5,.int .u32 (r:Int))::(6,.int .i64 ((k:Int)-1))::Y) [(n,.cells (Xd Q).toArray 34 (0,0))] Z a w) (fun k=>k) (X.length) (⟨List.replicate X.length 0,0,Nat.le_refl _,by simp,Wd.zeros _,d,by simp[Zv],h.sub sA⟩) ?_;clear h
 rintro k a w ⟨Q,r,j,g,f,hr,hT,h⟩
 refine gC h<|au 0x240f4311 ?_;intro a w h
 refine Zb h I (fun c=>?_) (fun c=>?_)
 ·have hk:0<k:=by simp at c;omega
  have l:0<X.length:=oo
  obtain ⟨s,q,m⟩:=h.row_addr (ad:=ad) (M:=Xd X) ss (by simp;intro e;simp[e] at l)
  subst m
  refine gC h<|au 0x43917 ?_
  refine zp (.pO (k-1)<|.move I)<|zm I<|zm I<|zp (.pO (k-1)<|.move I)<|au 0x473fee ?_
  refine zv [_,_,_] I call371 (om r (X.getD (k-1) 0) y (o.getD _) p hr)<|au 0xeebb4 ?_
  refine zt' I I ((Qy Q (0+(k-1)) ((r*4294967296+X.getD (k-1) 0)/y)).trans (by rw[Nat.zero_add])) uu sizeOf34 I (by simp;omega) I ?_
  refine au 0x4325 ?_
  refine zp (Pure1.cast (v':=.int .i64 (((k-1:Nat):Int)-1)) (.sub I I) (by show Value.int _ _=Value.int _ _;congr 1;omega))<|au 0x25 ?_;clear h;intro a w h
  exact⟨k-1,⟨Q.set (k-1) ((r*4294967296+X.getD (k-1) 0)/y),_,oo,by simpa using g,f.set _ _ (H9 hr (o.getD _)),Nat.mod_lt _ d,Tp hk j g hT,tO h⟩,oo⟩
 ·have hk:k=0:=by simp at c;omega
  refine gC h<|au 0x625544310e ?_;clear h;intro a w h
  subst hk
  simp only[List.drop_zero] at hT
  rw[←g] at h
  refine He h (Zw h I (.tmp I)<|.tmp I) ⟨n,Q,?_,f,g,?_,rfl⟩<|List.Sublist.refl _
  ·rw[hT,Nat.mul_comm,Nat.mul_add_mod,Nat.mod_eq_of_lt hr]
  ·rw[hT,Nat.mul_comm,Nat.mul_add_div d,Nat.div_eq_of_lt hr,Nat.add_zero]
theorem Oo(ad:Option Addr)(cp:Nat)(X:List Nat)(s:Nat)(q:Wd X)(hl:X.length≤1000000000000)(hs:s<32):
  CtrO prog 373 [.slice ad X.length cp,.int .i64 (s:Int)] [Row ad (Xd X)] (fun v l => ∃b Z,v=.slice (some ⟨b,0,none⟩) Z.length Z.length∧Wd Z∧Z.length=X.length+1∧Zv Z=Zv X*2 ^ s∧l=[(b,.cells (Xd Z).toArray 34 (0,0))]):=by
 refine fn_introO func373 I ntmps373 nb ?_
 intro S w0 a A h
 refine gC h<|au 0xae4312531 ?_
 refine zp (.pN (X.length+1)<|.add I I) ?_;clear h;intro a w h
 refine Zc<|Je h I I runUnderlying296 typeInfo34 sizeOf34 zeroValue34 I dd (by exact Nat.le_refl _) (by show 4*_≤_;omega) oo dd ?_;clear h;intro k a w h
 rw[show(Value.int .u32 0).cells.toList=[Value.int .u32 0] from rfl,AL,show List.replicate (X.length+1) (Value.int .u32 0)=Xd (List.replicate (X.length+1) 0) from by simp] at h
 refine gL h<|au 0x924ae4311253125 ?_;clear h;intro a w h
 refine lpG h [0,1,5,13,14] pkL (fun Y E (i:Nat) a w => ∃Z c,i≤X.length∧Z.length=X.length+1∧Wd Z∧c<2 ^ s∧(∀j,i≤j→Z.getD j 0=0)∧Zv Z+4294967296 ^ i*c=Zv (X.take i)*2 ^ s∧St 41 S w0 ((6,.int .u32 (c:Int))::(15,.int .i64 (i:Int))::Y) [(k,.cells (Xd Z).toArray 34 (0,0))] E a w) (fun i=>X.length-i) (0) (⟨List.replicate (X.length+1) 0,0,Nat.zero_le _,by simp,Wd.zeros _,Nat.pow_pos oo,fun j _=>by simp[List.getD,List.getElem?_replicate];split<;>rfl,by rw[Du _ (fun x hx=>List.eq_of_mem_replicate hx)];simp[Zv],h.sub sA⟩) ?_;clear h
 rintro i a w ⟨Z,c,z,d,o,hc,hz,hT,h⟩
 refine gC h<|au 0x12c31 ?_;intro a w h
 refine Zb h I (fun f=>?_) (fun f=>?_)
 ·have g:i<X.length:=by simpa using f
  have m:=g
  obtain ⟨y,r,n⟩:=h.row_addr (ad:=ad) (M:=Xd X) ss (by simp;intro e;simp[e] at m)
  subst n
  have hx:=q.getD i
  have p:=VU (X.getD i 0) s c hs hc
  have t:=VW (X.getD i 0) s hs hx
  have u:=Rm s hs
  have B:X.getD i 0*2 ^ s≤4294967295*2147483648:=Nat.mul_le_mul oo u
  refine gC h<|au 0x44443125573fee431917 ?_
  refine zp (Pure1.cast (v':=.int .u32 ((X.getD i 0*2 ^ s%4294967296:Nat):Int)) (.binOp I I (fun _=>Cf _ _ _ _ s (by show s≤32;omega))) (by rw[Jb];congr 1))<|zm I<|zp (Pure1.cast (v':=.int .u32 ((X.getD i 0*2 ^ s%4294967296+c:Nat):Int)) (.binOp I I (fun _=>EJ I _ _ _ _ c (by show _<4294967296;omega) (by show _<4294967296;omega))) (by rw[shl_or _ s c hs hc]))<|au 0xee ?_
  refine zt' I I ((Qy Z (0+i) (X.getD i 0*2 ^ s%4294967296+c)).trans (by rw[Nat.zero_add])) uu sizeOf34 I (by simp;omega) I ?_
  refine au 0x403f432 ?_
  refine zp (Pure1.cast (v':=.int .u64 ((X.getD i 0*2 ^ s:Nat):Int)) (.binOp I I (fun _=>Cf _ _ _ _ s (by show s≤64;omega))) (by rw[wrap_u64 _ oo oo]))<|au 0x7bf ?_
  refine zp (Pure1.cast (v':=.int .u32 ((X.getD i 0*2 ^ s/4294967296:Nat):Int)) (.convert I<|Yf _) (by rw[wrap_u32 _ oo oo]))<|au 0x24b0f325 ?_;clear h;intro a w h
  exact⟨i+1,⟨Z.set i (X.getD i 0*2 ^ s%4294967296+c),_,oo,by simpa using d,o.set _ _ p,t,fun j hj=>by rw[Iw oo];exact hz j oo,Tq g d (hz i (Nat.le_refl _)) hT,tO h⟩,oo⟩
 ·have g:i=X.length:=by simp at f;omega
  refine gC h<|au 0xee4ae44310e ?_
  refine zt' I I ((Qy Z (0+X.length) c).trans (by rw[Nat.zero_add])) uu sizeOf34 I (by simp;omega) I ?_
  refine au 0x6254312 ?_;clear h;intro a w h
  subst g
  have C:=Rm s hs
  rw[show X.length+1=(Z.set X.length c).length from by simp[d]] at h
  refine He h (Ze h I<|.tmp I) ⟨k,Z.set X.length c,rfl,o.set _ _ oo,by simpa using d,VX d (hz _<|Nat.le_refl _) hT,rfl⟩<|List.Sublist.refl _
end
section
theorem fC(x:Int)(a:IntKind.u8.wrap x=x): RN (Go.convert 34 5 (.int .u32 x)) (.int .u8 x):=fun w=>by
 rw[IL,a]
theorem cv_5_3(x:Int): RN (Go.convert 5 3 (.int .u8 x)) (.int .i64 (IntKind.i64.wrap x)):=fun w=>by
 simp[go_sem]
theorem Mo(x:Int)(a:IntKind.i64.wrap x=x): RN (Go.convert 5 3 (.int .u8 x)) (.int .i64 x):=fun w=>by
 rw[cv_5_3,a]
theorem ez:∀j,j<256→((⟨#[0,1,2,2,3,3,3,3,4,4,4,4,4,4,4,4,5,5,5,5,5,5,5,5,5,5,5,5,5,5,5,5,6,6,6,6,6,6,6,6,6,6,6,6,6,6,6,6,6,6,6,6,6,6,6,6,6,6,6,6,6,6,6,6,7,7,7,7,7,7,7,7,7,7,7,7,7,7,7,7,7,7,7,7,7,7,7,7,7,7,7,7,7,7,7,7,7,7,7,7,7,7,7,7,7,7,7,7,7,7,7,7,7,7,7,7,7,7,7,7,7,7,7,7,7,7,7,7,8,8,8,8,8,8,8,8,8,8,8,8,8,8,8,8,8,8,8,8,8,8,8,8,8,8,8,8,8,8,8,8,8,8,8,8,8,8,8,8,8,8,8,8,8,8,8,8,8,8,8,8,8,8,8,8,8,8,8,8,8,8,8,8,8,8,8,8,8,8,8,8,8,8,8,8,8,8,8,8,8,8,8,8,8,8,8,8,8,8,8,8,8,8,8,8,8,8,8,8,8,8,8,8,8,8,8,8,8,8,8,8,8,8,8,8,8,8,8,8,8,8,8,8,8,8,8,8]⟩:ByteArray).data.toList.getD j 0).toNat=CM j:=by decide +kernel
theorem oc(x:Nat)(hx:x<4294967296): Ji prog 192 [.int .u32 (x:Int)] (.int .i64 (CM x:Int)):=by
 refine fnI func192 I ntmps192 fun S w0 i=>au 0x2531 ?_;intro a w h
 refine Yl (fun a w => ∃y m:Nat,y<65536∧m≤16∧m+CM y=CM x∧St 19 S w0 [(0,.int .u32 (y:Int)),(2,.int .i64 (m:Int))] [] [] a w) ?_ ?_
 ·refine gC h<|au 0x240f431 ?_;clear h;intro a w h
  refine Zb h I (fun b=>?_) (fun b=>?_)
  ·have e:65536≤x:=dT b
   refine gC h<|zS<|zm I<|zp (.binOp I I (fun _=>Vj _ _ _ x 16 dd))<|au 0x25325 ?_;clear h;intro a w h
   exact⟨x/2 ^ 16,16,oo,by omega,by rw[Nat.add_comm];exact KO (k:=16) oo,tO h⟩
  ·have e:x<65536:=dF b
   refine wp_skip ?_
   exact⟨x,0,e,oo,Nat.zero_add _,tO h⟩
 ·clear h
  rintro a w ⟨y,m,g,hm,hl,h⟩
  refine Yl (fun a w => ∃y m:Nat,y<256∧m≤24∧m+CM y=CM x∧St 19 S w0 [(0,.int .u32 (y:Int)),(2,.int .i64 (m:Int))] [] [] a w) ?_ ?_
  ·refine gC h<|au 0x240f431 ?_;clear h;intro a w h
   refine Zb h I (fun c=>?_) (fun c=>?_)
   ·have d:256≤y:=dT c
    refine gC h<|zS<|zm I<|zp (.binOp I I (fun _=>Vj _ _ _ y 8 dd))<|au 0x4325 ?_
    refine zp (.pN (m+8)<|.add I I)<|au 0x25 ?_;clear h;intro a w h
    exact⟨y/2 ^ 8,m+8,oo,by omega,by rw[←hl,Nat.add_assoc,Nat.add_comm 8];congr 1;exact KO (k:=8) oo,tO h⟩
   ·have d:y<256:=dF c
    refine wp_skip ?_
    exact⟨y,m,d,oo,hl,tO h⟩
  ·clear h
   rintro a w ⟨z,o,hz,ho,f,h⟩
   refine gC h<|au 0x4431 ?_
   have hle:CM z≤8:=GG hz
   refine zp (.convert I<|fC _<|wrap_u8 _ oo oo)<|zp (Pure1.cast (v':=.int .u8 (CM z:Int)) (.index I I (fun _=>Ci runUnderlying9 _ _ (by show z<256;exact hz))) (by exact congrArg (fun n:Nat=>Value.int .u8 (n:Int))<|ez z hz))<|au 0x4bf ?_
   refine zp (Pure1.cast (v':=.int .i64 (CM x:Int)) (.add I I) (by show Value.int _ _=Value.int _ _;congr 1;omega))<|za I<|zn<|zt<|rtK I
theorem HB(x:Nat)(hx:x<4294967296): Ji prog 372 [.int .u32 (x:Int)] (.int .i64 ((32-CM x:Nat):Int)):=by
 refine fnI func372 I ntmps372 fun S w0 b=>au 0x312531 ?_;intro a w h
 have hle:CM x≤32:=GG (k:=32) hx
 refine gL h<|zm I<|zv [_] I call192 (oc x hx)<|zp (.pO (32-CM x)<|.sub I I)<|za I<|zn<|zt<|rtK I
theorem C_half(b cp:Nat)(O:List Nat)(hO:Wd O)(hl:O.length≤1099511627776)(σr:List (Nat×Obj))(Φ:List Zp):
  FR prog 375 [.slice (some ⟨b,0,none⟩) O.length cp] ((b,.cells (Xd O).toArray 34 (0,0))::σr) Φ
   (fun _ σ' Φ' => ∃Z,Wd Z∧Z.length=O.length∧Zv Z=Zv O/2∧σ'=(b,.cells (Xd Z).toArray 34 (0,0))::σr∧Φ'=Φ):=by
 refine fn_introM func375 I ntmps375 nb ?_
 intro S w0 a w o h
 refine gC h<|au 0x924ae431 ?_;clear h;intro a w h
 refine Jh (fun(i:Nat) a w => ∃Z,i≤O.length∧Z.length=O.length∧Wd Z∧Z.drop i=O.drop i∧2*Zv (Z.take i)+O.getD 0 0%2=Zv (O.take i)+4294967296 ^ i*(O.getD i 0%2)∧St 32 S w0 [(0,.slice (some ⟨b,0,none⟩) O.length cp),(3,.slice (some ⟨b,0,none⟩) O.length cp),(4,.int .i64 (O.length:Int)),(5,.int .i64 (i:Int))] ((b,.cells (Xd Z).toArray 34 (0,0))::σr) Φ a w) (fun i=>O.length-i) (0) (⟨O,Nat.zero_le _,rfl,hO,rfl,by simp[Zv],h.sub sA⟩) ?_;clear h
 rintro i a w ⟨Z,p,d,m,hd,hT,h⟩
 refine gC h<|au 0x12c31 ?_;intro a w h
 refine Zb h I (fun f=>?_) (fun f=>?_)
 ·have g:i<O.length:=by simpa using f
  have l:=Hn hd (Nat.le_refl i)
  have j:=Hn hd (Nat.le_succ i)
  have k:=hO.getD i
  have n:=hO.getD (i+1)
  refine wp_skip ?_
  refine cW ?_
  refine Yl (fun a w=>St 32 S w0 [(0,.slice (some ⟨b,0,none⟩) O.length cp),(3,.slice (some ⟨b,0,none⟩) O.length cp),(4,.int .i64 (O.length:Int)),(5,.int .i64 (i:Int))] ((b,.cells (Xd<|Z.set i (O.getD i 0/2+2147483648*(O.getD (i+1) 0%2))).toArray 34 (0,0))::σr) Φ a w) ?_ ?_
  ·refine gC h<|au 0xee4431254319 ?_
   refine zd I mm isAgg34 sizeOf34 ((Zr 0 (by rw[Nat.zero_add];omega)).trans (by rw[Nat.zero_add,l])) ?_
   refine zp (.binOp I I (fun _=>Vj _ _ _ _ 1 dd))<|au 0xee ?_
   refine zt' I I ((Qy Z (0+i)<|O.getD i 0/2 ^ 1).trans (by rw[Nat.zero_add])) uu sizeOf34 I (by simp;omega) I ?_
   refine zn<|zS<|zm I<|zp (.pN (i+1)<|.add I I)<|au 0x2cae4 ?_;clear h;intro a w h
   refine Zb h I (fun c=>?_) (fun c=>?_)
   ·have e:i+1<O.length:=dT c
    refine gC h<|yE [0,1,2,3,4,5,6,7,8,9,10,11,12]<|au 0x22f88 ?_
    refine yd I I mm isAgg34 sizeOf34 ((Zr 0 (by rw[Nat.zero_add,List.length_set];omega)).trans (by rw[Nat.zero_add,LO oo])) ?_;clear h
    refine au 0x88 ?_
    refine yp I (.pN (i+1)<|.add I I)<|au 0x22f ?_
    refine yd I I mm isAgg34 sizeOf34 ((Zr 0 (by rw[Nat.zero_add,List.length_set];omega)).trans (by rw[Nat.zero_add,Iw oo,j])) ?_
    refine yp I (Pure1.cast (v':=.int .u32 ((O.getD (i+1) 0*2 ^ 31%4294967296:Nat):Int)) (.binOp I I (fun _=>Cf _ _ _ _ 31 dd)) (by rw[Jb];congr 1))<|yp I (Pure1.cast (v':=.int .u32 ((O.getD i 0/2+2147483648*(O.getD (i+1) 0%2):Nat):Int)) (.binOp I I (fun _=>EJ I _ _ _ _ _ (by show _<4294967296;omega) (by show _<4294967296;omega))) (by rw[YK _ _ k]))<|au 0x22f ?_
    refine yt I I I ((Qy (Z.set i<|O.getD i 0/2 ^ 1) (0+i) (O.getD i 0/2+2147483648*(O.getD (i+1) 0%2))).trans (by rw[Nat.zero_add,List.set_set])) uu sizeOf34 I (by simp;omega) I ?_
    refine yn ?_;intro a w h
    exact tO h
   ·have e:O.length≤i+1:=dF c
    refine wp_skip ?_
    rw[De e,show O.getD i 0/2+2147483648*(0%2)=O.getD i 0/2 ^ 1 from rfl]
    exact tO h
  ·clear h
   intro a w h
   refine gC h<|au 0x24b0f3 ?_;clear h;intro a w h
   exact⟨i+1,⟨Z.set i (O.getD i 0/2+2147483648*(O.getD (i+1) 0%2)),oo,by simpa using d,m.set _ _ oo,Ml hd,YL g d hd hT,tO h⟩,oo⟩
 ·have g:i=O.length:=by simp at f;omega
  refine wp_exit ?_
  subst g
  refine UP h (AK I) ⟨Z,m,d,eU oo d hT,rfl,rfl⟩ (List.Sublist.refl _) (fun _ h=>h)
theorem C_less(b A:Nat)(p j q:List Nat)(ad:Option Addr)(s:Nat)(V:List Nat)(dg:Nat)(t:Wd j)(B:Wd V)(hl:V.length≤1000000000000)(n:j.length=V.length+1)(x:dg<4294967296)(D:p.length≤1000000000000)(σr:List (Nat×Obj))(Φ:List Zp)(m:Row ad (Xd V)∈Φ):
  FR prog 374 [.slice (some ⟨b,p.length,none⟩) (V.length+1) A,.slice ad V.length s,.int .u64 (dg:Int)] ((b,.cells (Xd (p++j++q)).toArray 34 (0,0))::σr) Φ
   (fun v σ' Φ' => ∃(W:List Nat) (l:Nat),l≤1∧v=.bool (decide ((l:Int)>0))∧Wd W∧W.length=V.length+1∧Zv W+dg*Zv V=Zv j+4294967296 ^ (V.length+1)*l ∧
    σ'=(b,.cells (Xd (p++W++q)).toArray 34 (0,0))::σr∧Φ'=Φ):=by
 refine fn_introM func374 I ntmps374 nb ?_
 intro S w0 a w C h
 refine gC h<|au 0x924ae4311255312531 ?_;clear h;intro a w h
 refine Jh (fun(i:Nat) a w => ∃(W:List Nat) (c g:Nat),i≤V.length∧W.length=V.length+1∧Wd W∧c<4294967296∧g≤1∧Zv W+dg*Zv (V.take i)=Zv j+4294967296 ^ i*(c+g)∧St 60 S w0 [(0,.slice (some ⟨b,p.length,none⟩) (V.length+1) A),(1,.slice ad V.length s),(2,.int .u64 (dg:Int)),(7,.int .u64 (c:Int)),(8,.int .u32 (g:Int)),(12,.slice ad V.length s),(13,.int .i64 (V.length:Int)),(14,.int .i64 (i:Int))] ((b,.cells (Xd (p++W++q)).toArray 34 (0,0))::σr) Φ a w) (fun i=>V.length-i) (0) (⟨j,0,0,Nat.zero_le _,n,t,by decide,by decide,by simp[Zv],h.sub sA⟩) ?_;clear h
 rintro i a w ⟨W,c,g,F,o,k,hc,r,hT,h⟩
 refine gC h<|au 0x12c31 ?_;intro a w h
 refine Zb h I (fun d=>?_) (fun d=>?_)
 ·have f:i<V.length:=by simpa using d
  obtain ⟨bV,E,rfl⟩:=h.row_addr m (by simp;intro e;simp[e] at f)
  have y:=B.getD i
  obtain ⟨z,u⟩:=TL hc x y
  have hm:=Nat.mod_lt (c+dg*V.getD i 0) (show 0<4294967296 by decide)
  refine gC h<|au 0xee431917 ?_
  refine zD I m (by simp;omega) isAgg34 sizeOf34 (Zr 0 oo) (.inr I) ?_
  refine au 0x03f44431255 ?_
  refine zp (Pure1.cast (v':=.int .u64 ((dg*V.getD i 0:Nat):Int)) (.binOp I I (fun _=>Cg _ _ _ _ _)) (by rw[Gq oo]))<|zp (Pure1.cast (v':=.int .u64 ((c+dg*V.getD i 0:Nat):Int)) (.binOp I I (fun _=>BD _ _ _ _ _)) (by rw[Kw z]))<|au 0xee44443125 ?_
  refine zd I mm isAgg34 sizeOf34 ((Zr 0 (by simp;omega)).trans (by rw[Ct _ _ _ _ oo])) ?_
  refine zm I<|zp (Pure1.cast (v':=.int .u32 (((c+dg*V.getD i 0)%4294967296:Nat):Int)) (.convert I<|Yf _) (by rw[Jb];congr 1))<|zm I<|zv [_,_,_] I call284 (QK _ _ _ (k.getD i) hm r)<|au 0xeebb4 ?_
  refine zt' I I ((Qy (p++W++q) (p.length+i) ((W.getD i 0+8589934592-(c+dg*V.getD i 0)%4294967296-g)%4294967296)).trans (by rw[set_mid _ _ _ _ _ oo])) uu sizeOf34 I (by simp;omega) I ?_
  refine au 0x4325 ?_
  refine zp (Pure1.cast (v':=.int .u64 (((c+dg*V.getD i 0)/4294967296:Nat):Int)) (.binOp I I (fun _=>Vj _ _ _ _ 32 dd)) (by rfl))<|au 0x24b0f325 ?_;clear h;intro a w h
  exact⟨i+1,⟨W.set i ((W.getD i 0+8589934592-(c+dg*V.getD i 0)%4294967296-g)%4294967296),_,_,oo,by simpa using o,k.set _ _ (Nat.mod_lt _ dd),u,by split<;>omega,XK f oo hT (VF _ _ _ (k.getD i) hm r),tO h⟩,oo⟩
 ·have f:i=V.length:=by simp at d;omega
  refine gC h<|au 0xee44443125ae4310e ?_
  refine zd I mm isAgg34 sizeOf34 ((Zr 0 (by simp;omega)).trans (by rw[Ct _ _ _ _ oo])) ?_
  refine zm I<|zp (Pure1.cast (v':=.int .u32 (c:Int)) (.convert I<|Yf _) (by rw[EE hc]))<|zm I<|zv [_,_,_] I call284 (QK _ _ _ (k.getD V.length) hc r)<|au 0xeebb4 ?_
  refine zt' I I ((Qy (p++W++q) (p.length+V.length) ((W.getD V.length 0+8589934592-c-g)%4294967296)).trans (by rw[set_mid _ _ _ _ _ oo])) uu sizeOf34 I (by simp;omega) I ?_
  refine au 0x62570f43125 ?_;clear h;intro a w h
  subst f
  refine retM h (Ze h I<|.tmp I) ⟨W.set V.length ((W.getD V.length 0+8589934592-c-g)%4294967296),_,?_,rfl,k.set _ _ (Nat.mod_lt _ dd),by simpa using o,er oo hT (VF _ _ _ (k.getD _) hc r),rfl,rfl⟩ (List.Sublist.refl _) (fun _ h=>h)
  split<;>omega
end
section
theorem jQ(b off n c a d:Nat)(h1:a≤d)(e:d≤c)(f:a<c): RN (Instr.sliceAt 296 (.slice (some ⟨b,off,none⟩) n c) (some (.int .i64 (a:Int))) (some (.int .i64 (d:Int))) none) (.slice (some ⟨b,off+a,none⟩) (d-a) (c-a)):=fun w=>by
 simpa using Tl runUnderlying296 sizeOf34 b off n c a d h1 e f w
theorem C_long(ax:Option Addr)(cx:Nat)(X:List Nat)(ay:Option Addr)(cy:Nat)(Y:List Nat)(hX:Wd X)(hY:Wd Y)(hm:X.length≤500000000000)(k9:2≤Y.length)(l8:Y.length≤X.length)(u:Y.getD (Y.length-1) 0≠0):
  Ctr prog 283 [.slice ax X.length cx,.slice ay Y.length cy] [Row ax (Xd X),Row ay (Xd Y)]
   (fun v Ψ => ∃a1 c1 a2 c2 Q R,v=.tuple #[.slice a1 Q.length c1,.slice a2 R.length c2]∧Wd Q∧Wd R∧Q.length≤c1∧R.length≤c2∧Q.length≤X.length+1∧R.length≤X.length+1∧Zv Q=Zv X/Zv Y∧Zv R=Zv X%Zv Y∧Ψ=[Row a1 (Xd Q),Row a2 (Xd R)]):=by
 obtain ⟨e,he⟩:∃e,Y.length=e+2:=⟨Y.length-2,oo⟩
 rw[show Y.length-1=e+1 by omega] at u
 refine fnI func283 I ntmps283 fun S w0 hS=>au 0x3125531 ?_;intro a w h
 have j2:0<Y.length:=oo
 obtain ⟨bY,l4,i1⟩:=h.row_addr (ad:=ay) (M:=Xd Y) ss (by simp;intro e;simp[e] at j2)
 subst i1
 refine gL h<|au 0xae44 ?_
 refine zp (.pQ (e+1)<|.sub I I)<|au 0x73fee ?_
 refine zv [_] I call372 (HB _<|hY.getD _) ?_;clear h;intro a w h
 obtain ⟨hs,c6,e2⟩:=XE (last:=Y.getD (e+1) 0) u (hY.getD _) rfl
 generalize 32-CM (Y.getD (e+1) 0)=s at h hs c6 e2
 refine gL h<|za I<|zn<|zs<|yE [0,1,3,4,6,7,2,5,8,9,10]<|au 0x88888 ?_
 refine yp I (.builtin [_] I<|AO _ _ _) ?_;clear h
 refine A0 I kk (vs:=[_,_]) I call373 (Oo ax cx X s hX oo hs) ss dd ?_;rintro v26 k7 ⟨d,m,rfl,h7,k8,b6,rfl⟩
 refine A0 I kk (vs:=[_,_]) I call373 (Oo _ cy Y s hY oo hs) ss dd ?_;rintro l2 j7 ⟨b,D,rfl,e5,j6,c8,rfl⟩
 refine yp I (.slice I none (some _) none I I I<|VR _ _ _ _ oo)<|au 0x31a3e3e ?_;intro a w h
 replace h:=h.shareAll hS (Xd D) I
 replace h:=h.derive (R:=Row (some ⟨b,0,none⟩) (Xd (D.take Y.length))) (fun X hX=>by rw[Xd,List.map_take];exact HI (hX _ List.mem_cons_self) _)
 obtain ⟨c5,h2⟩:=Nx hY he hs c6 e2 e5 c8
 have h3:(D.take Y.length).length=Y.length:=by simp;omega
 have hV:Wd (D.take Y.length):=e5.take _
 generalize l5:D.take Y.length=V at h c5 h2 h3 hV
 rw[←h3] at h
 have l9:V.length=e+2:=oo
 have e6:4294967296 ^ (V.length-1)≤Zv Y:=by
  have h1:=Jc Y (e+1) oo
  rw[show e+1+1=Y.length by omega,List.take_length] at h1
  rw[show V.length-1=e+1 by omega,h1]
  have:=Nat.mul_le_mul_left (4294967296 ^ (e+1)) (Nat.pos_of_ne_zero u)
  omega
 obtain ⟨M,hM⟩:∃M,m.length=M+V.length:=⟨m.length-V.length,oo⟩
 refine gL h<|zm I<|zp (Pure1.cast (v':=.int .i64 (V.length:Int)) (.builtin [_] I<|AO _ _ _) (by rfl))<|au 0x4ae43125 ?_
 refine zp (.pQ M<|.sub I I) ?_;clear h;intro a w h
 refine Zc<|Je h I I runUnderlying296 typeInfo34 sizeOf34 zeroValue34 I dd (by exact Nat.le_refl _) (by show 4*_≤_;omega) oo dd ?_;clear h;intro f a w h
 rw[show(Value.int .u32 0).cells.toList=[Value.int .u32 0] from rfl,AL,show List.replicate M (Value.int .u32 0)=Xd (List.replicate M 0) from by simp] at h
 refine gL h<|au 0x92566fae431125 ?_;clear h;intro a w h
 refine Jh (fun(C:Nat) a w => ∃(Z Q:List Nat),C≤M∧Z.length=m.length∧Wd Z∧Q.length=M∧Wd Q∧Zv Z+4294967296 ^ C*(Zv V*Zv (Q.drop C))=Zv m∧Zv (Z.drop C)<Zv V∧St 175 S w0 [(4,.slice (some ⟨f,0,none⟩) M M),(6,.int .i64 (s:Int)),(7,.slice (some ⟨d,0,none⟩) m.length m.length),(8,.slice (some ⟨b,0,none⟩) V.length D.length),(9,.int .i64 (V.length:Int)),(10,.int .i64 ((C:Int)-1))] [(d,.cells (Xd Z).toArray 34 (0,0)),(f,.cells (Xd Q).toArray 34 (0,0))] [Row (some ⟨b,0,none⟩) (Xd V)] a w) (fun C=>C) (M) (⟨m,List.replicate M 0,Nat.le_refl _,rfl,h7,by simp,Wd.zeros _,by simp[Zv],by rw[c5];exact TJ hX b6 e6 oo oo,((h.perm<|List.Perm.swap _ _ _).factsSub (by simp)).sub (subL ⟨rfl,rfl,rfl,rfl,rfl,rfl,trivial⟩)⟩) ?_;clear h
 rintro C a w ⟨Z,Q,l3,c4,hZ,c7,hQ,hT,hR,h⟩
 refine gC h<|au 0x240f4311 ?_;intro a w h
 refine Zb h I (fun a7=>?_) (fun a7=>?_)
 ·have a6:0<C:=by simp at a7;omega
  obtain ⟨p,W,hh,rfl,hp,i7,j3,H,j4,j0,b5⟩:=PD (k:=C-1) (n:=V.length) hZ oo (Vg hV) (by rw[Nat.sub_add_cancel a6];exact hR)
  obtain rfl:C=p.length+1:=oo
  have A:=U1 (l:=W) (e:=e) oo
  have N:=MR (l:=V) (e:=e) oo
  have e7:=Vf H e
  have c3:=Vf hV e
  have l7:=H.getD (e+2)
  have h5:=H.getD (e+1)
  have e1:=H.getD e
  have k6:=hV.getD (e+1)
  have y:=hV.getD e
  refine gC h<|zk<|zs<|zb<|zc<|zs<|yE [0,1,2,3,4,5,6,7,8,9,10,11,12,13,14,15,16,17]<|au 0x8 ?_
  refine yp I (.pQ p.length<|.move I)<|au 0x8 ?_
  refine yp I (.pQ (p.length+(e+2))<|.add I I)<|au 0x22f ?_
  refine yd I I mm isAgg34 sizeOf34 ((Zr 0 (by simp;omega)).trans (by rw[Nat.zero_add,Ct _ _ _ _ oo])) ?_;clear h
  refine au 0x58f ?_
  refine yp I (Pure1.cast (v':=.int .u64 ((W.getD (e+2) 0*4294967296:Nat):Int)) (.binOp I I (fun _=>Cf _ _ _ _ 32 dd)) (by rw[wrap_u64 _ oo oo]))<|au 0x8 ?_
  refine yp I (.pQ p.length<|.move I)<|au 0x8 ?_
  refine yp I (.pQ (p.length+(e+2))<|.add I I)<|yp I (.pQ (p.length+(e+1))<|.sub I I)<|au 0x22f ?_
  refine yd I I mm isAgg34 sizeOf34 ((Zr 0 (by simp;omega)).trans (by rw[Nat.zero_add,Ct _ _ _ _ oo])) ?_
  refine au 0x58f ?_
  refine yp I (Pure1.cast (v':=.int .u64 ((4294967296*W.getD (e+2) 0+W.getD (e+1) 0:Nat):Int)) (.binOp I I (fun _=>EJ I _ _ _ _ _ (by show _<18446744073709551616;omega) (by show _<18446744073709551616;omega))) (by rw[or_hi _ _ h5]))<|au 0x3e ?_
  have e9:4294967296*W.getD (e+2) 0+W.getD (e+1) 0<18446744073709551616:=oo
  have O:=top_lt A N y c3 b5
  generalize j9:4294967296*W.getD (e+2) 0+W.getD (e+1) 0=top at A e9 O ⊢
  refine yn<|zs<|yE [0,1,2,3,4,5,6,7,8,9,10,11,12,13,14,15,16,17]<|au 0x888 ?_
  refine yp I (.pQ (e+1)<|.sub I I)<|au 0x22f ?_
  refine Zf I kk I mm (by simp;omega) isAgg34 sizeOf34 (Zr 0 oo) (.inr I) dd ?_
  refine au 0x58f ?_
  refine yp I (Pure1.cast (v':=.int .u64 ((top/V.getD (e+1) 0:Nat):Int)) (.binOp I I (fun _=>Ei _ _ _ _ _ oo)) (by rw[Cd,ED (Nat.lt_of_le_of_lt (Nat.div_le_self _ _) e9)]))<|au 0x888 ?_
  refine yp I (.pQ (e+1)<|.sub I I)<|au 0x22f ?_
  refine Zf I kk I mm (by simp;omega) isAgg34 sizeOf34 (Zr 0 oo) (.inr I) dd ?_
  refine au 0x58f ?_
  refine yp I (Pure1.cast (v':=.int .u64 ((top%V.getD (e+1) 0:Nat):Int)) (.binOp I I (fun _=>Yn _ _ _ _ _ oo)) (by rw[Ym]))<|au 0x1a3e3e ?_
  refine zl ?_;intro a w h
  refine Yl (fun a w => ∃dg:Nat,dg<4294967296∧dg*Zv V≤Zv W+Zv V∧Zv W<(dg+1)*Zv V∧St 175 S w0 [(4,.slice (some ⟨f,0,none⟩) M M),(6,.int .i64 (s:Int)),(7,.slice (some ⟨d,0,none⟩) m.length m.length),(8,.slice (some ⟨b,0,none⟩) V.length D.length),(9,.int .i64 (V.length:Int)),(10,.int .i64 (((p.length+1:Nat):Int)-1)),(12,.int .u64 (dg:Int))] [(d,.cells (Xd (p++W++hh)).toArray 34 (0,0)),(f,.cells (Xd Q).toArray 34 (0,0))] [Row (some ⟨b,0,none⟩) (Xd V)] a w) ?_ ?_
  ·refine wp_block ?_
   refine Jh (fun(dg:Nat) a w => ∃rest:Nat,dg*V.getD (e+1) 0+rest=top∧Zv W<(dg+1)*Zv V∧rest<8589934592∧St 175 S w0 [(4,.slice (some ⟨f,0,none⟩) M M),(6,.int .i64 (s:Int)),(7,.slice (some ⟨d,0,none⟩) m.length m.length),(8,.slice (some ⟨b,0,none⟩) V.length D.length),(9,.int .i64 (V.length:Int)),(10,.int .i64 (((p.length+1:Nat):Int)-1)),(12,.int .u64 (dg:Int)),(13,.int .u64 (rest:Int))] [(d,.cells (Xd (p++W++hh)).toArray 34 (0,0)),(f,.cells (Xd Q).toArray 34 (0,0))] [Row (some ⟨b,0,none⟩) (Xd V)] a w) (fun dg=>dg) (top/V.getD (e+1) 0) (⟨top%V.getD (e+1) 0,by rw[Nat.mul_comm];exact Nat.div_add_mod _ _,Ub A N e1 e7 oo,Nat.lt_trans (Nat.mod_lt _ oo) oo,h.sub sA⟩) ?_;clear h
   rintro dg a w ⟨rest,B,a8,j5,h⟩
   have h9:=fw B O h2
   refine gC h<|zs<|zS<|zm I<|zp (.leq I I)<|zn ?_;intro a w h
   refine Zb h I (fun J=>?_) (fun J=>?_)
   ·have hr:rest<4294967296:=dT J
    refine gC h<|zk<|zb<|zs<|zs<|yE [0,1,2,3,4,5,6,7,8,9,10,11,12,13,14,15,16,17,18,19,20,21,22,23]<|au 0x8 ?_
    refine yp I (.leq I I)<|au 0x8 ?_;clear h
    refine Ju (fun F  =>?_) (fun F  =>?_)
    focus
     have j:dg<4294967296:=dT F
     have hmul:=Ai j y
     refine au 0xb4fb4fb4f ?_
     refine yq I I I (.pQ e<|.sub I I)<|yq I I I (.indexAddr I I<|KR _ _ _ _ _ oo) ?_
     refine AP I I I kk I mm (by simp;omega) isAgg34 sizeOf34 (Zr 0 oo) (.inr I) dd ?_
     refine yq I I I (.convert I<|Fy _<|wrap_u64 _ oo oo)<|yq I I I (Pure1.cast (v':=.int .u64 ((dg*V.getD e 0:Nat):Int)) (.binOp I I (fun _=>Cg _ _ _ _ _)) (by rw[Gq oo]))<|au 0xb4f ?_
     refine yq I I I (Pure1.cast (v':=.int .u64 ((rest*4294967296:Nat):Int)) (.binOp I I (fun _=>Cf _ _ _ _ 32 dd)) (by rw[wrap_u64 _ oo oo]))<|au 0xb4f ?_
     refine yq I I I (.pQ p.length<|.move I)<|au 0xb4f ?_
     refine yq I I I (.pQ (p.length+(e+2))<|.add I I)<|yq I I I (.pQ (p.length+e)<|.sub I I)<|yq I I I (.indexAddr I I<|KR _ _ _ _ _ oo)<|yg I I I I mm isAgg34 sizeOf34 ((Zr 0 (by simp;omega)).trans (by rw[Nat.zero_add,Ct _ _ _ _ oo])) ?_
     refine yq I I I (.convert I<|Fy _<|wrap_u64 _ oo oo)<|yq I I I (Pure1.cast (v':=.int .u64 ((4294967296*rest+W.getD e 0:Nat):Int)) (.binOp I I (fun _=>EJ I _ _ _ _ _ (by show _<18446744073709551616;omega) (by show _<18446744073709551616;omega))) (by rw[or_hi _ _ e1]))<|yq I I I (.leq I I) ?_
     refine Ju (fun o  =>?_) (fun o  =>?_)
     ·have hle:dg*V.getD e 0≤4294967296*rest+W.getD e 0:=by have:=of_decide_eq_true o;exact_mod_cast this
      refine au 0xa56f ?_;intro a w h
      refine Qo h I ?_
      refine wp_exit ?_
      exact⟨dg,j,NS A N oo y c3 B oo (.inr hle),a8,tO h⟩
     have U:4294967296≤dg∨4294967296*rest+W.getD e 0<dg*V.getD e 0:=.inr (by have:=of_decide_eq_false o;exact Nat.lt_of_not_le fun hh=>this (by exact_mod_cast hh))
     refine au 0xa56f ?_;intro a w h
    rotate_left
    focus
     have U:4294967296≤dg∨4294967296*rest+W.getD e 0<dg*V.getD e 0:=.inl (dF F)
     refine au 0xaa5f11f11f11f11f11f11f11f11f11f11f11f11f11f11f11f11f11f11f11f11f ?_;intro a w h
    all_goals
     refine cW ?_
     refine Zj h I ?_
     refine wp_skip<|wp_seq<|wp_region_lit ?_
     have T:=YM A N e7 B b5 U
     have L:0<dg:=Nat.pos_of_ne_zero fun h0=>by subst h0;simp at T
     refine gL h<|zm I<|zp (Pure1.cast (v':=.int .u64 ((dg-1:Nat):Int)) (.binOp I I (fun _=>FY _ _ _ _ _)) (by rw[wrap_u64 _ oo oo];congr 1;omega))<|au 0x444325 ?_
     refine zp (.pQ (e+1)<|.sub I I)<|au 0x03f73fee ?_
     refine zp (Pure1.cast (v':=.int .u64 ((rest+V.getD (e+1) 0:Nat):Int)) (.binOp I I (fun _=>BD _ _ _ _ _)) (by rw[Kw oo]))<|au 0x25 ?_;clear h;intro a w h
     exact⟨dg-1,⟨rest+V.getD (e+1) 0,Ua B L,by rw[Nat.sub_add_cancel L];exact T,oo,tO h⟩,oo⟩
   ·have hr:4294967296≤rest:=dF J
    refine wp_exit ?_
    have j:=P3 B O hr
    exact⟨dg,j,NS A N oo y c3 B oo (.inl hr),a8,tO h⟩
  ·clear h
   rintro a w ⟨dg,j,b7,a8,h⟩
   refine Yl (fun a w => ∃(W3:List Nat) (dg:Nat),dg<4294967296∧Wd W3∧W3.length=V.length+1∧Zv W3+dg*Zv V=Zv W∧Zv W3<Zv V∧St 175 S w0 [(4,.slice (some ⟨f,0,none⟩) M M),(6,.int .i64 (s:Int)),(7,.slice (some ⟨d,0,none⟩) m.length m.length),(8,.slice (some ⟨b,0,none⟩) V.length D.length),(9,.int .i64 (V.length:Int)),(10,.int .i64 (((p.length+1:Nat):Int)-1)),(12,.int .u64 (dg:Int))] [(d,.cells (Xd (p++W3++hh)).toArray 34 (0,0)),(f,.cells (Xd Q).toArray 34 (0,0))] [Row (some ⟨b,0,none⟩) (Xd V)] a w) ?_ ?_
   ·refine gC h<|zS<|zm I<|zp (.pQ p.length<|.move I)<|zp (.pQ p.length<|.move I)<|zm I<|zp (.pQ (p.length+V.length)<|.add I I)<|zp (.pQ (p.length+V.length+1)<|.add I I)<|zp (Pure1.cast (v':=.slice (some ⟨d,p.length,none⟩) (V.length+1) (m.length-p.length)) (.slice I (some _) (some _) none I I I<|jQ _ _ _ _ _ _ oo oo oo) (by rw[Nat.zero_add,show p.length+V.length+1-p.length=V.length+1 by omega]))<|au 0x44 ?_;clear h;intro a w h
    refine Zc<|Yq h hS (vs:=[_,_,_]) I call374 (C_less d (m.length-p.length) p W hh (some ⟨b,0,none⟩) D.length V dg H hV oo i7 j oo [(f,.cells (Xd Q).toArray 34 (0,0))] [Row (some ⟨b,0,none⟩) (Xd V)] List.mem_cons_self) (List.Perm.refl _) ss ss ?_;clear h;rintro k5 h8 h4 a w ⟨W1,l,hl,rfl,b2,z,b3,rfl,rfl⟩ h
    refine wpList_nil ?_
    refine cW ?_
    refine Zb h I (fun t=>?_) (fun t=>?_)
    ·have b9:0<l:=dT t
     have g:=Vg b2
     rw[z] at g
     have L:0<dg:=Nat.pos_of_ne_zero fun e0=>by
      subst e0
      obtain rfl:l=1:=oo
      omega
     refine gC h<|zS<|zm I<|zp (Pure1.cast (v':=.int .u64 ((dg-1:Nat):Int)) (.binOp I I (fun _=>FY _ _ _ _ _)) (by rw[wrap_u64 _ oo oo];congr 1;omega))<|au 0x924ae4311253125 ?_;clear h;intro a w h
     refine Jh (fun(i:Nat) a w => ∃(q:List Nat) (c:Nat),i≤V.length∧q.length=V.length+1∧Wd q∧c≤1∧Zv q+4294967296 ^ i*(c+Zv (V.drop i))=Zv W1+Zv V∧St 175 S w0 [(4,.slice (some ⟨f,0,none⟩) M M),(6,.int .i64 (s:Int)),(7,.slice (some ⟨d,0,none⟩) m.length m.length),(8,.slice (some ⟨b,0,none⟩) V.length D.length),(9,.int .i64 (V.length:Int)),(10,.int .i64 (((p.length+1:Nat):Int)-1)),(12,.int .u64 ((dg-1:Nat):Int)),(14,.int .u32 (c:Int)),(128,.slice (some ⟨b,0,none⟩) V.length D.length),(129,.int .i64 (V.length:Int)),(130,.int .i64 (i:Int))] [(d,.cells (Xd (p++q++hh)).toArray 34 (0,0)),(f,.cells (Xd Q).toArray 34 (0,0))] [Row (some ⟨b,0,none⟩) (Xd V)] a w) (fun i=>V.length-i) (0) (⟨W1,0,Nat.zero_le _,z,b2,by decide,by simp,h.sub sA⟩) ?_;clear h
     rintro i a w ⟨q,c,hi,K,b0,hc,e8,h⟩
     refine gC h<|au 0x12c31 ?_;intro a w h
     refine Zb h I (fun r=>?_) (fun r=>?_)
     ·have E:i<V.length:=by simpa using r
      refine gC h<|au 0x4325573fee431917 ?_
      refine zp (.pQ p.length<|.move I)<|zm I<|zp (.pQ (p.length+i)<|.add I I)<|zm I<|zp (.pQ p.length<|.move I)<|zm I<|zp (.pQ (p.length+i)<|.add I I)<|au 0xee ?_
      refine zd I mm isAgg34 sizeOf34 ((Zr 0 (by simp;omega)).trans (by rw[Nat.zero_add,Ct _ _ _ _ oo])) ?_
      refine zm I<|zm I<|zv [_,_,_] I call207 (bL _ _ _ (b0.getD i) (hV.getD i) hc)<|au 0xeebb4 ?_
      refine zt' I I ((Qy (p++q++hh) (0+(p.length+i)) ((q.getD i 0+V.getD i 0+c)%4294967296)).trans (by rw[Nat.zero_add,set_mid _ _ _ _ _ oo])) uu sizeOf34 I (by simp;omega) I ?_
      refine au 0x24b0f325 ?_;clear h;intro a w h
      refine⟨i+1,⟨q.set i ((q.getD i 0+V.getD i 0+c)%4294967296),_,oo,by simpa using K,b0.set _ _ (Nat.mod_lt _ dd),?_,ME oo e8,tO h⟩,oo⟩
      have hz:=b0.getD i
      have hy:=hV.getD i
      omega
     ·have E:i=V.length:=by simp at r;omega
      subst E
      refine gC h<|ze<|zr<|zm I<|zp (.pQ p.length<|.move I)<|zm I<|zp (.pQ (p.length+V.length)<|.add I I)<|au 0xee ?_
      refine zd I mm isAgg34 sizeOf34 ((Zr 0 (by simp;omega)).trans (by rw[Nat.zero_add,Ct _ _ _ _ oo])) ?_
      refine zm I<|zp (Pure1.cast (v':=.int .u32 ((((q.getD V.length 0+c)%4294967296):Nat):Int)) (.binOp I I (fun _=>BD _ _ _ _ _)) (by rw[Jb];congr 1))<|au 0xee ?_
      refine zt' I I ((Qy (p++q++hh) (0+(p.length+V.length)) ((q.getD V.length 0+c)%4294967296)).trans (by rw[Nat.zero_add,set_mid _ _ _ _ _ oo])) uu sizeOf34 I (by simp;omega) I ?_;clear h;intro a w h
      refine wpList_nil ?_
      have b8:=ME (Z:=q) (Y:=V) (i:=V.length) oo e8
      rw[De (Nat.le_refl V.length),Nat.add_zero,List.drop_eq_nil_of_le (by omega:V.length≤V.length+1)] at b8
      simp only[Zv,Nat.add_zero] at b8
      have b1:Wd (q.set V.length ((q.getD V.length 0+c)%4294967296)):=b0.set _ _ (Nat.mod_lt _ dd)
      have b4:=Vg b1
      rw[List.length_set,K] at b4
      obtain ⟨_,G,P⟩:=TU b3 hl g b7 (Nat.le_of_lt (Nat.lt_of_lt_of_le (Vg hV) (Nat.pow_le_pow_right dd (Nat.le_succ _)))) b9 b8 b4
      exact⟨_,dg-1,oo,b1,by rw[List.length_set,K],G,P,tO h⟩
    ·have b9:¬0<l:=dF t
     have g:=Vg b2
     rw[z] at g
     refine wp_skip ?_
     obtain ⟨G,P⟩:=eE b3 g hl a8 b9
     exact⟨W1,dg,j,b2,z,G,P,tO h⟩
   ·clear h
    clear j b7 a8
    rintro a w ⟨W3,dg,j,b1,j8,G,P,h⟩
    refine gC h<|zr<|zm I<|zp (.pQ p.length<|.move I)<|zm I<|zp (Pure1.cast (v':=.int .u32 (dg:Int)) (.convert I<|Yf _) (by rw[EE j]))<|au 0xee ?_
    refine zt' I I ((Qy Q (0+p.length) dg).trans (by rw[Nat.zero_add])) uu sizeOf34 I (by simp;omega) I ?_
    refine zn<|zr<|zp (.pQ p.length<|.move I)<|au 0x2566f ?_;clear h;intro a w h
    exact⟨p.length,⟨p++W3++hh,Q.set p.length dg,oo,by simp at c4 ⊢;omega,(j3.append b1).append j4,by simpa using c7,hQ.set _ _ j,XC oo oo hT G,XD j0 P,tO h⟩,oo⟩
 ·have a6:C=0:=by simp at a7;omega
  subst a6
  refine gC h<|au 0x92443110e ?_;clear h;intro a w h
  refine Jh (fun(i:Nat) a w => ∃R:List Nat,i≤s∧Wd R∧R.length=m.length∧Zv R=Zv Z/2 ^ i∧St 175 S w0 [(4,.slice (some ⟨f,0,none⟩) M M),(6,.int .i64 (s:Int)),(7,.slice (some ⟨d,0,none⟩) R.length m.length),(167,.int .i64 (s:Int)),(168,.int .i64 (i:Int))] [(d,.cells (Xd R).toArray 34 (0,0)),(f,.cells (Xd Q).toArray 34 (0,0))] [Row (some ⟨b,0,none⟩) (Xd V)] a w) (fun i=>s-i) (0) (⟨Z,Nat.zero_le _,hZ,c4,by simp,by rw[c4];exact h.sub sA⟩) ?_;clear h
  rintro i a w ⟨R,hi,hR,l6,e4,h⟩
  refine gC h<|au 0x12c31 ?_;intro a w h
  refine Zb h I (fun x=>?_) (fun x=>?_)
  ·have E:i<s:=by simpa using x
   refine gC h<|au 0x43917 ?_;clear h;intro a w h
   refine Zc<|Yq h hS (vs:=[_]) I call375 (C_half d m.length R hR oo [(f,.cells (Xd Q).toArray 34 (0,0))] [Row (some ⟨b,0,none⟩) (Xd V)]) (List.Perm.refl _) ss ss ?_;clear h;rintro v171 h6 i6 a w ⟨R2,j1,e3,c9,rfl,rfl⟩ h
   refine gL h<|au 0x24b0f32 ?_;clear h;intro a w h
   exact⟨i+1,⟨R2,oo,j1,oo,by rw[c9,e4,Nat.div_div_eq_div_mul, ←Nat.pow_succ],by rw[e3];exact tO h⟩,oo⟩
  ·have E:i=s:=by simp at x;omega
   refine gC h<|au 0x625544310e ?_;clear h;intro a w h
   subst E
   simp only[List.drop_zero,Nat.pow_zero,Nat.one_mul] at hT hR
   obtain ⟨hq,hr⟩:=TK (hT.trans b6) ‹Zv Z<Zv V› c5
   replace h:=h.shareAll hS (Xd R) I
   replace h:=h.shareAll hS (Xd Q) I
   rw[←c7] at h
   refine Qn (Ψ:=[Row (some ⟨f,0,none⟩) (Xd Q),Row (some ⟨d,0,none⟩) (Xd R)]) h (Zw h I (.tmp I)<|.tmp I) ⟨_,_,_,_,Q,R,rfl,hQ, ‹Wd R›,oo,by omega,oo,by omega,hq,by rw[e4,hr],rfl⟩ ss
end
section
theorem UZ{m:Nat}(h:m≠0): (wds m).getD ((wds m).length-1) 0≠0:=by
 have a:wds m≠[]:=fun e=>h (by rw[←Qv m,e];rfl)
 have:=HC m a
 rw[List.getLast_eq_getElem] at this
 have hl:(wds m).length-1<(wds m).length:=by have:=List.length_pos_iff.2 a;omega
 simpa [List.getD,hl] using this
theorem OH{m:Nat}(h:m≠0): 0<(wds m).length:=List.length_pos_iff.2 fun e=>h (by rw[←Qv m,e];rfl)
theorem Yk{n m:Nat}(h:n≤m): (wds n).length≤(wds m).length:=Nat.le_of_not_lt fun hl=>by have:=Dt hl;omega
theorem jE{m:Nat}(h:(wds m).length=1): (wds m).getD 0 0=m:=by
 have e:=Qv m
 match hw:wds m,h with
 | [x],_=>rw[hw] at e;simpa [Zv] using e
theorem oq(n m:Nat)(y:(wds n).length≤500000000000)(hm:(wds m).length≤500000000000)(C:m≠0): Ji prog 182 [Vp n,Vp m] (.tuple #[Vp (n/m),Vp (n%m),.bool true]):=by
 refine fnI func182 I ntmps182 fun S w0 L=>zS (zx I fun Z=>zx I fun b3=>zz zeroValue45 fun b4=>zz zeroValue45 fun b5=>au 0x5e319125 ?_)
 refine zv [_] I call280 (jp m)<|za I<|zn (kV I (fun j=>(by exfalso;exact C<|of_decide_eq_true j)) fun j=>au 0x5e5e31 ?_)
 refine zv [_,_] I call281 (C_Cmp n m oo oo)<|au 0x25c ?_;intro a w h
 refine Zb h I (fun c=>?_) (fun c=>?_)
 ·have i:n<m:=by rw[HU] at c;exact of_decide_eq_true c
  refine gC h<|zs<|yE [0,1,2,3,4]<|yp I (.build [] I<|My) ?_;clear h
  refine Qx [4] I kk I mr isAgg45 sizeOf45 Qr (fun a w l d=>by intro t ht;simp only[List.mem_cons,List.not_mem_nil,or_false] at ht;rcases ht with rfl<;>exact⟨_,rfl,by have h1:=(List.pairwise_append.1 d.nd).2.1;simp at h1;dsimp only;omega⟩) dd ?_
  refine stV I I I Zt ?_
  refine stV I I I Zt ?_
  refine au 0x6a3e ?_;intro a w h
  refine Js h (Ah h I (rC Qr) (rC Qr)<|.tmp I) ?_
  rw[Nat.div_eq_of_lt i,Nat.mod_eq_of_lt i];rfl
 ·have hle:m≤n:=by rw[HU] at c;exact Nat.le_of_not_lt (of_decide_eq_false c)
  refine gC h<|au 0x2537f61f85f31 ?_;clear h;intro a w h
  refine Zb h I (fun g=>?_) (fun g=>?_)
  ·have ha:n<18446744073709551616:=Qt.1 (by simpa using g)
   have q:m<18446744073709551616:=oo
   refine gC h<|zs<|yE [0,1,2,3,4,5,6,7,8,9,10,11,12,13,14]<|au 0xdcf ?_
   refine ldY Ie ?_;clear h
   refine au 0xdcf ?_
   refine ldY Ie ?_
   refine yp I (Pure1.cast (v':=.int .u64 ((n/m:Nat):Int)) (.binOp I I (fun _=>Ei _ _ _ _ _ (by rw[Qk q];omega))) (by rw[Qk ha,Qk q,Cd,ED (Nat.lt_of_le_of_lt (Nat.div_le_self _ _) ha)]))<|yp I (.build [(_,_)] I<|QA _)<|au 0xdcf ?_
   refine Qx [4] I kk I mr isAgg43 sizeOf43 Ie (fun a w l d=>by intro t ht;simp only[List.mem_cons,List.not_mem_nil,or_false] at ht;rcases ht with rfl<;>exact⟨_,rfl,by have h1:=(List.pairwise_append.1 d.nd).2.1;simp at h1;dsimp only;omega⟩) dd ?_
   refine au 0xdcf ?_
   refine Qx [4] I kk I mr isAgg43 sizeOf43 Ie (fun a w l d=>by intro t ht;simp only[List.mem_cons,List.not_mem_nil,or_false] at ht;rcases ht with rfl<;>exact⟨_,rfl,by have h1:=(List.pairwise_append.1 d.nd).2.1;simp at h1;dsimp only;omega⟩) dd ?_
   refine yp I (Pure1.cast (v':=.int .u64 ((n%m:Nat):Int)) (.binOp I I (fun _=>Yn _ _ _ _ _ (by rw[Qk q];omega))) (by rw[Qk ha,Qk q,Ym]))<|yp I (.build [(_,_)] I<|QA _)<|stV I I I Zt ?_
   refine stV I I I Zt ?_
   refine au 0x6a3e ?_;intro a w h
   refine Js h (Ah h I (rC Qr) (rC Qr)<|.tmp I) ?_
   rw[Vp,Vp,Qk (Nat.lt_of_le_of_lt (Nat.div_le_self _ _) ha),Gd (Nat.lt_of_le_of_lt (Nat.div_le_self _ _) ha),Qk (Nat.lt_of_le_of_lt (Nat.mod_le _ _) ha),Gd (Nat.lt_of_le_of_lt (Nat.mod_le _ _) ha)]
  ·have ha:¬n<18446744073709551616:=fun y=>by have:=Qt.2 y;simp[this] at g
   refine gC h<|au 0x5e317 ?_
   refine zf [_] I call196 (BK m oo) ?_;rintro v41 G ⟨F,V,rfl,W,rfl⟩
   refine au 0x200fae431125 ?_;intro a w h
   refine Zb h I (fun f=>?_) (fun f=>?_)
   ·have h1:(wds m).length=1:=natEq' (b:=1) f
    have o:=jE h1
    have p:=(Wd.wds m).getD 0
    rw[o] at p
    have i:0<(wds m).length:=oo
    obtain ⟨bY,X,D⟩:=h.row_addr (ad:=F) (M:=Xd (wds m)) ss (by simp;intro e;simp[e] at i)
    subst D
    refine gC h<|zs<|yE [0,2,3,4,1,5,6,7,8,9,10]<|au 0x30f ?_;clear h
    refine au 0x8 ?_
    refine yp I (.indexAddr I I<|KR _ _ _ _ 0 oo) ?_
    refine Zf I kk I mm (by simp;omega) isAgg34 sizeOf34 ((Zr 0 oo).trans (by rw[o])) (.inr I) dd ?_
    refine yf [_] I I call196 (BK n oo) ?_;rintro T K ⟨r,u,rfl,s,rfl⟩
    refine A0 I kk (vs:=[_,_]) I call282 (ni r u (wds n) m (Wd.wds n) oo oo p) ss dd ?_;rintro v51 E ⟨bq,Q,rfl,A,x,k,rfl⟩
    refine au 0x31a3e3e7e7e8 ?_;intro a w h
    replace h:=h.shareAll L (Xd Q) I
    refine gL h<|zm I<|zw [_] I call195 (nu _ _ Q A (Nat.le_refl _) oo)<|zm I<|zp (Pure1.cast (v':=.int .u64 ((n%m:Nat):Int)) (.convert I<|Sq _) (by rw[Qv,ED (Nat.lt_trans (Nat.mod_lt _ oo) oo)]))<|au 0x9af ?_
    refine stW I I Zt ?_
    refine stW I I Zt ?_
    refine au 0x625 ?_;clear h;intro a w h
    refine Js h (Ah h I (rC Qr) (rC Qr)<|.tmp I) ?_
    have hr:n%m<18446744073709551616:=Nat.lt_trans (Nat.mod_lt _ oo) oo
    rw[k,Qv,Vp,Vp,Qk hr,Gd hr]
   ·have h1:(wds m).length≠1:=natNe' (b:=1) f
    have Y:=OH C
    have U:=Yk hle
    refine gC h<|au 0x5e317 ?_
    refine zf [_] I call196 (BK n oo) ?_;rintro N J ⟨r,u,rfl,s,rfl⟩
    refine zm I<|zf [_,_] I call283 (C_long r u (wds n) F V (wds m) (Wd.wds n) (Wd.wds m) y oo U<|UZ C) ?_;rintro P H ⟨a1,c1,a2,c2,Q,R,rfl,A,hR,B,z,x,O,k,v,rfl⟩
    refine au 0x431255bb4 ?_
    refine zw [_] I call195 (nu _ _ Q A B oo)<|zm I<|zw [_] I call195 (nu _ _ R hR z oo)<|stW I I Zt ?_
    refine stW I I Zt ?_
    refine au 0x625 ?_;clear h;intro a w h
    refine Js h (Ah h I (rC Qr) (rC Qr)<|.tmp I) ?_
    rw[k,v,Qv,Qv]
theorem C_Gcd(n m:Nat)(l:(wds n).length≤500000000000)(hm:(wds m).length≤500000000000): Ji prog 181 [Vp n,Vp m] (Vp (Nat.gcd n m)):=by
 refine fnI func181 I ntmps181 fun S w0 p=>zS (zx I fun j=>zx I fun i=>zz zeroValue45 fun k=>au 0x912 ?_);intro a w h
 refine lpG h [2,3,4] pkL (fun Y Z (y:Nat) a w => ∃x:Nat,(wds x).length≤500000000000∧(wds y).length≤500000000000∧Nat.gcd x y=Nat.gcd n m∧St 21 S w0 Y [(k,.cells (Vp 0).cells 45 (0,0)),(i,.cells (Vp y).cells 45 (0,0)),(j,.cells (Vp x).cells 45 (0,0))] Z a w) (fun y=>y) (m) (⟨n,l,hm,rfl,h.sub sA⟩) ?_;clear h
 rintro y a w ⟨x,hx,d,f,h⟩
 refine gC h<|au 0x5e311 ?_
 refine zv [_] I call280 (jp y)<|au 0x220f ?_;intro a w h
 refine Zb h I (fun c=>?_) (fun c=>?_)
 ·have b:y≠0:=by simpa using c
  refine gC h<|au 0x5e5e3197 ?_
  refine zv [_,_] I call182 (oq x y hx d b)<|au 0xbbb4 ?_
  refine zz zeroValue45 fun o=>zz zeroValue45 fun q=>stW I I Zt ?_
  refine stW I I Zt ?_
  refine za I<|zn<|yE [0,1,2,3]<|au 0x30f ?_;clear h
  refine Qx [2] I kk I mr isAgg45 sizeOf45 Qr (fun a w g e=>by intro t ht;simp only[List.mem_cons,List.not_mem_nil,or_false] at ht;rcases ht with rfl<;>exact⟨_,rfl,by have h1:=(List.pairwise_append.1 e.nd).2.1;simp at h1;dsimp only;omega⟩) dd ?_
  refine stV I I I Zt ?_
  refine stV I I I Zt ?_
  refine yn ?_;intro a w h
  exact⟨x%y,⟨y,d,Nat.le_trans (Yk (Nat.le_of_lt (Nat.mod_lt _ (Nat.pos_of_ne_zero b)))) d,by rw[←f,Nat.gcd_comm y (x%y), ←Nat.gcd_rec,Nat.gcd_comm],tO h⟩,Nat.mod_lt _ (Nat.pos_of_ne_zero b)⟩
 ·have b:y=0:=by simpa using c
  subst b
  refine gC h<|au 0x5e310e ?_
  refine stW I I Zt ?_
  refine zn<|zt ?_;clear h;intro a w h
  refine Js h (Ze h I<|rC Qr) ?_
  rw[←f,Nat.gcd_zero_right]
end
section
theorem mN: RN (Instr.build 47 [].toArray) (.agg #[.int .u64 0,.string ⟨#[]⟩]):=fun w=>by simp[go_sem]
theorem mO(b a:Value): RN (Instr.build 47 [(0,.agg #[b,a])].toArray) (.agg #[b,a]):=fun w=>by simp[go_sem]
theorem Oa(b a:Value)(c:Bool): RN (Instr.build 49 [(0,.agg #[b,a]),(1,.bool c)].toArray) (.agg #[b,a,.bool c]):=fun w=>by simp[go_sem]
theorem Qg{c0 c1 c2 v0 v1 v2:Value}: Zl #[c0,c1,c2] 0 [v0,v1,v2]=#[v0,v1,v2]:=rfl
theorem Jk{c0 c1 c2:Value}: Zk true 3 #[c0,c1,c2] 0=some (.agg #[c0,c1,c2]):=rfl
theorem LY{b off:Nat}: RN (Instr.fieldAt 49 (.pointer (some ⟨b,off,none⟩)) 1) (.pointer (some ⟨b,off+2,none⟩)):=fun w=>by
 simp[go_sem]
theorem Kz{c0 c1 c2:Value}: Zk false 1 #[c0,c1,c2] 2=some c2:=rfl
theorem YX{b off:Nat}: RN (Instr.fieldAt 49 (.pointer (some ⟨b,off,none⟩)) 0) (.pointer (some ⟨b,off+0,none⟩)):=fun w=>by
 simp[go_sem]
theorem YY{b off:Nat}: RN (Instr.fieldAt 47 (.pointer (some ⟨b,off,none⟩)) 0) (.pointer (some ⟨b,off+0,none⟩)):=fun w=>by
 simp[go_sem]
theorem EP{c0 c1 c2:Value}: Zk true 2 #[c0,c1,c2] 0=some (.agg #[c0,c1]):=rfl
def AC(z:Int): Nat:=(wds z.natAbs).length
def sgZ(neg:Bool)(n:Nat): Int:=if neg then -(n:Int) else (n:Int)
theorem Lb(neg:Bool)(n:Nat): (sgZ neg n).natAbs=n:=by unfold sgZ;split<;>omega
theorem Q2(z:Int): sgZ (decide (z<0)) z.natAbs=z:=by unfold sgZ;split<;>simp_all<;>omega
theorem jT(neg:Bool)(n:Nat): decide (sgZ neg n<0)=(neg && !decide (n=0)):=by
 unfold sgZ;cases neg<;>by_cases h:n=0<;>simp[h]<;>omega
theorem lY(X Y:Operand)(n m:Nat): RN (do eqGuard .eql 47 X Y (Vp n) (Vp m);Go.binOp .eql 47 (Vp n) (Vp m):Sem Value) (.bool (decide (n=m))):=fun w=>by
 simp[go_sem]
 have c:((Xa n).toList=(Xa m).toList)↔Xa n=Xa m:=by have:=Dv (Xa n) (Xa m);rw[Bool.eq_iff_iff] at this;simpa using this
 by_cases h:n=m
 ·subst h;simp
 ·have a:=fun h1 b=>h (Md h1 b)
  by_cases h1:Xr n=Xr m
  ·simp only[h,h1,c,if_true,decide_false];exact if_neg (a h1)
  ·simp[h,h1]
theorem ag(n:Nat): Ji prog 59 [Vp n] (.bool (decide (n=0))):=by
 refine fnI func59 I ntmps59 fun S w0 b=>zS (zx I fun a=>au 0x5e3125 ?_)
 refine zp (Pure1.cast (v':=Vp 0) (.build [] I<|mN) (by rfl))<|zp (.binOp I I (fun _=>lY _ _ n 0 _))<|za I<|zn<|zt<|rtK I
theorem JE(neg:Bool)(n:Nat): Ji prog 63 [.bool neg,Vp n] (encZ (sgZ neg n)):=by
 refine fnI func63 I ntmps63 fun S w0 e=>zS (zx I fun d=>zz zeroValue49 fun f=>au 0x5e312 ?_)
 refine zp (.build [(_,_)] I<|mO _ _) (zz zeroValue47 fun c=>stW I I Zt ?_)
 refine zn<|zs<|yE [0,1,2,3,4,5,6,7,8]<|au 0x30f ?_
 refine au 0x88 ?_
 refine Ju (fun b  =>?_) (fun b  =>?_)
 focus
  refine yg I I I I mr isAgg47 sizeOf47 Qr ?_
  refine Xk I I I kk (vs:=[_]) I call59 (ag n) dd ?_
  refine yq I I I (.unOp I<|Gg _)<|au 0x56f ?_
  refine yp I (.build [(_,_),(_,_)] I<|Oa _ _ _)<|stV I I I Qg ?_
 rotate_left
 focus
  refine yo 10 I I I I<|yo 10 I I I I<|yo 10 I I I I<|au 0xa5f ?_
  refine yp I (.build [(_,_),(_,_)] I<|Oa _ _ _)<|stV I I I Qg ?_
 all_goals
  refine yn<|zt ?_;intro a w h
  refine Js h (Ze h I<|rC Jk) ?_
  subst b;rw[encZ,Lb,jT];rfl
theorem C_plus(x y:Int)(hx:AC x≤400000000000)(e:AC y≤400000000000): Ji prog 114 [encZ x,encZ y] (encZ (x+y)):=by
 unfold AC at hx e
 refine fnI func114 I ntmps114 fun S w0 j=>zS (zx I fun i=>zx I fun g=>zz zeroValue49 fun l=>au 0x51f59f51f59f3112 ?_)
 refine zp (.binOp I I (fun _=>HH _ underlying4 _ _ _ _))<|zn ?_;intro a w h
 refine Zb h I (fun b=>?_) (fun b=>?_)
 ·refine gC h<|zs<|yE [0,1,2,3,4,5,6,7,8,9,10]<|yp I (.fA I LY)<|au 0xf0f ?_;clear h
  refine au 0xccfbcf ?_
  refine ldY EP ?_
  refine au 0xccfbcf ?_
  refine ldY EP ?_
  refine yv [_,_] I I call116 (C_Add _ _ oo oo)<|au 0x1cf ?_
  refine stV I I I Qg ?_
  refine yn<|zt ?_;intro a w h
  refine Js h (Ze h I<|rC Jk) ?_
  rw[show sgZ (decide (x<0)) (x.natAbs+y.natAbs)=x+y from by unfold sgZ;by_cases h1:x<0<;>by_cases d:y<0<;>simp[h1,d] at b ⊢<;>omega]
 ·refine gC h<|au 0x28f69fc7f28f69fc7f3117 ?_
  refine zv [_,_] I call183 (nN x.natAbs y.natAbs oo oo)<|au 0xbb4 ?_
  refine zz zeroValue45 fun f=>stW I I Zt ?_
  refine au 0x243125 ?_;clear h;intro a w h
  refine Zb h I (fun c=>?_) (fun c=>?_)
  ·refine gC h<|au 0x5e51f59f31 ?_
   refine zv [_,_] I call63 (JE _ _)<|stW I I Qg ?_
   refine zn<|zt ?_;clear h;intro a w h
   refine Js h (Ze h I<|rC Jk) ?_
   have hle:y.natAbs≤x.natAbs:=of_decide_eq_true c
   rw[show sgZ (decide (x<0)) (x.natAbs-y.natAbs)=x+y from by unfold sgZ;by_cases h1:x<0<;>by_cases d:y<0<;>simp[h1,d] at b ⊢<;>omega]
  ·refine gC h<|au 0x28f69fc7f28f69fc7f317 ?_
   refine zv [_,_] I call183 (nN y.natAbs x.natAbs oo oo)<|au 0xbb4 ?_
   refine zz zeroValue45 fun k=>stW I I Zt ?_
   refine au 0x5e51f59f3125 ?_
   refine zv [_,_] I call63 (JE _ _)<|stW I I Qg ?_
   refine zn<|zt ?_;clear h;intro a w h
   refine Js h (Ze h I<|rC Jk) ?_
   have hle:¬y.natAbs≤x.natAbs:=of_decide_eq_false c
   rw[show sgZ (decide (y<0)) (y.natAbs-x.natAbs)=x+y from by unfold sgZ;by_cases h1:x<0<;>by_cases d:y<0<;>simp[h1,d] at b ⊢<;>omega]
theorem nh(x y:Int)(hx:AC x≤400000000000)(c:AC y≤400000000000): Ji prog 62 [encZ x,encZ y] (encZ (x*y)):=by
 unfold AC at hx c
 refine fnI func62 I ntmps62 fun S w0 f=>zS (zx I fun e=>zx I fun d=>zz zeroValue49 fun g=>zn<|zs<|yE [0,1,2,3,4,5,6,7,8,9,10,11,12,13]<|yp I (.fA I LY)<|au 0xf0f ?_)
 refine yp I (.fA I LY)<|au 0xf0f ?_
 refine yp I (.binOp I I (fun _=>dq _ underlying4 _ _ _ _))<|au 0xccfbcf ?_
 refine ldY EP ?_
 refine au 0xccfbcf ?_
 refine ldY EP ?_
 refine yv [_,_] I I call109 (ob _ _ oo oo)<|au 0x1cf ?_
 refine stV I I I Qg ?_
 refine yn<|zt ?_;intro a w h
 refine Js h (Ze h I<|rC Jk) ?_
 rw[show sgZ (decide (x<0) != decide (y<0)) (x.natAbs*y.natAbs)=x*y from by
  conv=>rhs;rw[←Q2 x, ←Q2 y]
  unfold sgZ
  by_cases h1:x<0<;>by_cases b:y<0<;>simp only[h1,b,decide_true,decide_false,bne_self_eq_false,Bool.true_bne,Bool.false_bne,Bool.not_true,Bool.not_false,if_true,Bool.false_eq_true,if_false,Int.natCast_mul,Int.neg_mul,Int.mul_neg,Int.neg_neg]]
theorem I9(x y:Int)(hx:AC x≤400000000000)(b:AC y≤400000000000): Ji prog 61 [.func (.func 114) #[] #[],encZ x,encZ y] (encZ (x+y)):=by
 refine fnI func61 I ntmps61 fun S w0 d=>zS (zx I fun f=>zx I fun c=>zz zeroValue49 fun e=>au 0xcece4312 ?_);intro a w h
 refine Zc<|C2 h (fs:=[]) (cs:=[]) I (vs:=[_,_]) I call114 (C_plus x y hx b) dd ?_;clear h;intro a w h
 refine gL h<|stW I I Qg ?_
 refine zn<|zt ?_;clear h;intro a w h
 refine Js h (Ze h I<|rC Jk) ?_
 rfl
theorem bo(x y:Int)(hx:AC x≤400000000000)(b:AC y≤400000000000): Ji prog 134 [encZ x,encZ y] (encZ (x+y)):=by
 refine fnI func134 I ntmps134 fun S w0 e=>zS (zx I fun d=>zx I fun c=>zz zeroValue49 fun f=>au 0xcece312 ?_)
 refine zv [_,_,_] I call61 (I9 x y hx b)<|stW I I Qg ?_
 refine zn<|zt ?_;intro a w h
 refine Js h (Ze h I<|rC Jk) ?_
 rfl
theorem On(x y:Int)(hx:AC x≤400000000000)(b:AC y≤400000000000): Ji prog 61 [.func (.func 62) #[] #[],encZ x,encZ y] (encZ (x*y)):=by
 refine fnI func61 I ntmps61 fun S w0 d=>zS (zx I fun f=>zx I fun c=>zz zeroValue49 fun e=>au 0xcece4312 ?_);intro a w h
 refine Zc<|C2 h (fs:=[]) (cs:=[]) I (vs:=[_,_]) I call62 (nh x y hx b) dd ?_;clear h;intro a w h
 refine gL h<|stW I I Qg ?_
 refine zn<|zt ?_;clear h;intro a w h
 refine Js h (Ze h I<|rC Jk) ?_
 rfl
theorem jy(x y:Int)(hx:AC x≤400000000000)(b:AC y≤400000000000): Ji prog 20 [encZ x,encZ y] (encZ (x*y)):=by
 refine fnI func20 I ntmps20 fun S w0 e=>zS (zx I fun d=>zx I fun c=>zz zeroValue49 fun f=>au 0xcece312 ?_)
 refine zv [_,_,_] I call61 (On x y hx b)<|stW I I Qg ?_
 refine zn<|zt ?_;intro a w h
 refine Js h (Ze h I<|rC Jk) ?_
 rfl
theorem jx(x:Int): Ji prog 115 [encZ x] (encZ (-x)):=by
 refine fnI func115 I ntmps115 fun S w0 c=>zS (zx I fun b=>zz zeroValue49 fun d=>au 0x28f69fc7f20f51f59f312 ?_)
 refine zv [_,_] I call63 (JE _ _)<|stW I I Qg ?_
 refine zn<|zt ?_;intro a w h
 refine Js h (Ze h I<|rC Jk) ?_
 rw[show sgZ (!decide (x<0)) x.natAbs = -x from by unfold sgZ;by_cases h1:x<0<;>simp[h1]<;>omega]
theorem br(x:Int): Ji prog 103 [encZ x] (Vp x.natAbs):=by
 refine fnI func103 I ntmps103 fun S w0 c=>zS (zx I fun b=>zz zeroValue45 fun d=>au 0x28f69fc7f312 ?_)
 refine stW I I Zt ?_
 refine zn<|zt ?_;intro a w h
 refine Js h (Ze h I<|rC Qr) ?_
 rfl
theorem QJ(x:Int): Ji prog 18 [encZ x] (.int .i64 x.sign):=by
 refine fnI func18 I ntmps18 fun S w0 f=>zS (zx I fun e=>au 0x28fc7f319125 ?_)
 refine zv [_] I call59 (ag x.natAbs)<|au 0x25 ?_;intro a w h
 refine Zb h I (fun b=>?_) (fun b=>?_)
 ·refine gC h<|au 0x62531 ?_
  refine rtK ?_
  rw[show x=0 by have:=of_decide_eq_true b;omega];rfl
 ·refine gC h<|au 0x2551f59f31 ?_;clear h;intro a w h
  refine Zb h I (fun c=>?_) (fun c=>?_)
  ·refine gC h<|au 0x62531 ?_
   refine rtK ?_
   rw[Int.sign_eq_neg_one_of_neg (of_decide_eq_true c)]
  ·refine gC h<|au 0x625317 ?_
   refine rtK ?_
   have h1:=of_decide_eq_false b;have d:=of_decide_eq_false c;rw[Int.sign_eq_one_of_pos oo]
end
section
theorem ZG(x:Int): RN (Go.convert 2 43 (.int .i64 x)) (.int .u64 (IntKind.u64.wrap x)):=fun w=>by
 simp[go_sem]
theorem mM(c b a:Value): RN (Instr.build 51 [(0,.agg #[c,b,a])].toArray) (.agg #[c,b,a,.int .u64 0,.string ⟨#[]⟩]):=fun w=>by simp[go_sem]
theorem Zi{c0 c1 c2 a b v0 v1 v2 v3 v4:Value}: Zl #[c0,c1,c2,a,b] 0 [v0,v1,v2,v3,v4]=#[v0,v1,v2,v3,v4]:=rfl
theorem Zx{c0 c1 c2 a b:Value}: Zk true 5 #[c0,c1,c2,a,b] 0=some (.agg #[c0,c1,c2,a,b]):=rfl
theorem PT{b off:Nat}: RN (Instr.fieldAt 51 (.pointer (some ⟨b,off,none⟩)) 1) (.pointer (some ⟨b,off+3,none⟩)):=fun w=>by
 simp[go_sem]
theorem Bp{c0 c1 c2 a b:Value}: Zk true 2 #[c0,c1,c2,a,b] 3=some (.agg #[a,b]):=rfl
theorem N9(b e a c d:Value): RN (Instr.build 51 [(0,.agg #[b,e,a]),(1,.agg #[c,d])].toArray) (.agg #[b,e,a,c,d]):=fun w=>by simp[go_sem]
theorem YW{b off:Nat}: RN (Instr.fieldAt 51 (.pointer (some ⟨b,off,none⟩)) 0) (.pointer (some ⟨b,off+0,none⟩)):=fun w=>by
 simp[go_sem]
theorem Rc{c0 c1 c2 a b:Value}: Zk true 3 #[c0,c1,c2,a,b] 0=some (.agg #[c0,c1,c2]):=rfl
theorem Ih(n:Int)(d:Nat)(hd:d≠0): (mkRat n d).num=sgZ (decide (n.sign<0)) (n.natAbs/n.natAbs.gcd d)∧(mkRat n d).den=d/n.natAbs.gcd d:=by
 rw[←Rat.normalize_eq_mkRat hd,Rat.normalize_eq hd]
 refine⟨?_,rfl⟩
 show n/((n.natAbs.gcd d:Nat):Int)=_
 unfold sgZ
 have f:((n.natAbs.gcd d:Nat):Int)∣n:=Int.ofNat_dvd_left.2 (Nat.gcd_dvd_left _ _)
 have e:n.natAbs.gcd d≠0:=fun h=>hd (Nat.gcd_eq_zero_iff.1 h).2
 have a:=Nat.gcd_dvd_left n.natAbs d
 generalize n.natAbs.gcd d=g at *
 obtain ⟨k,hk⟩:=a
 rw[hk,Nat.mul_div_cancel_left k (Nat.pos_of_ne_zero e)]
 by_cases h:n<0
 ·have b:n.sign<0:=by rw[Int.sign_eq_neg_one_of_neg h];decide
  simp only[b,decide_true,if_true]
  have:n=(g:Int) * -(k:Int):=by rw[Int.mul_neg, ←Int.natCast_mul, ←hk];omega
  rw[this,Int.mul_ediv_cancel_left _ oo]
 ·have b:¬n.sign<0:=by
   rcases Int.lt_or_eq_of_le (Int.not_lt.1 h) with c|c
   ·rw[Int.sign_eq_one_of_pos c];decide
   ·rw[←c];decide
  simp only[b,decide_false,Bool.false_eq_true,if_false]
  have:n=(g:Int)*(k:Int):=by rw[←Int.natCast_mul, ←hk];omega
  rw[this,Int.mul_ediv_cancel_left _ oo]
def Zn(q:Rat): Nat:=max (AC q.num) (wds q.den).length
theorem Da{q:Rat}{k:Nat}(h:Zn q≤k): AC q.num≤k∧(wds q.den).length≤k:=by unfold Zn at h;omega
theorem wds_ge{n:Nat}(h:n≠0): 4294967296 ^ ((wds n).length-1)≤n:=by
 have a:wds n≠[]:=fun e=>h (by rw[←Qv n,e];rfl)
 have b:=Qv n
 rw[←List.dropLast_concat_getLast a,Jw] at b
 have d:=HC _ a
 simp only[Zv,List.length_dropLast,Nat.mul_zero,Nat.add_zero] at b
 have c:4294967296 ^ ((wds n).length-1)*1≤4294967296 ^ ((wds n).length-1)*(wds n).getLast a:=Nat.mul_le_mul_left _ oo
 omega
theorem AT{n k:Nat}(h:n<4294967296 ^ k): (wds n).length≤k:=by
 by_cases b:n=0
 ·subst b;simp[AG]
 ·have h1:=wds_ge b
  have c:=(Nat.pow_lt_pow_iff_right (a:=4294967296) dd).1 (Nat.lt_of_le_of_lt h1 h)
  omega
theorem BM(n:Nat): n<4294967296 ^ (wds n).length:=by
 have:=Vg (Wd.wds n);rwa[Qv] at this
theorem A4(n m:Nat): (wds (n*m)).length≤(wds n).length+(wds m).length :=
 AT (by rw[Nat.pow_add];exact Nat.mul_lt_mul'' (BM n) (BM m))
theorem OJ(n m:Nat): (wds (n+m)).length≤max (wds n).length (wds m).length+1:=AT (by
 have h1:=BM n
 have a:=BM m
 have c:4294967296 ^ (wds n).length≤4294967296 ^ max (wds n).length (wds m).length:=Nat.pow_le_pow_right dd oo
 have b:4294967296 ^ (wds m).length≤4294967296 ^ max (wds n).length (wds m).length:=Nat.pow_le_pow_right dd oo
 rw[Nat.pow_succ];omega)
theorem Bw(x y:Int): AC (x*y)≤AC x+AC y:=by unfold AC;rw[Int.natAbs_mul];exact A4 _ _
theorem LH(x y:Int): AC (x+y)≤max (AC x) (AC y)+1:=by
 unfold AC;exact Nat.le_trans (Yk (Int.natAbs_add_le x y)) (OJ _ _)
theorem DJ(n:Int)(d:Nat)(hd:d≠0): Zn (mkRat n d)≤max (AC n) (wds d).length:=by
 obtain ⟨h1,a⟩:=Ih n d hd
 unfold Zn AC
 rw[h1,a,Lb]
 have b:=Yk (Nat.div_le_self n.natAbs (n.natAbs.gcd d))
 have a2:=Yk (Nat.div_le_self d (n.natAbs.gcd d))
 omega
theorem Xj(a b:Rat): Zn (a+b)≤Zn a+Zn b+1:=by
 rw[Rat.add_def']
 have h:=DJ (a.num*b.den+b.num*a.den) (a.den*b.den) (Nat.mul_ne_zero a.den_nz b.den_nz)
 have h1:=LH (a.num*b.den) (b.num*a.den)
 have c:=Bw a.num b.den
 have e:=Bw b.num a.den
 have g:=A4 a.den b.den
 have d:AC (a.den:Int)=(wds a.den).length:=rfl
 have f:AC (b.den:Int)=(wds b.den).length:=rfl
 unfold Zn at h ⊢
 omega
theorem Qh(a b:Rat): Zn (a*b)≤Zn a+Zn b:=by
 rw[Rat.mul_def']
 have h:=DJ (a.num*b.num) (a.den*b.den) (Nat.mul_ne_zero a.den_nz b.den_nz)
 have c:=Bw a.num b.num
 have d:=A4 a.den b.den
 unfold Zn at h ⊢
 omega
theorem SA{a b:Rat}(h:a.den=b.den): mkRat (a.num+b.num) a.den=a+b:=by
 rw[Rat.add_def', ←h, ←Int.add_mul,Rat.mkRat_mul_right a.den_nz]
theorem Z8{a b:Rat}(ha:a.den=1)(c:b.den=1): ((a.num+b.num:Int):Rat)=a+b:=by
 rw[←SA (a:=a) (b:=b) oo,ha,Rat.mkRat_one]
theorem WS{a b:Rat}(ha:a.den=1)(c:b.den=1): ((a.num*b.num:Int):Rat)=a*b:=by
 rw[Rat.mul_def',ha,c,Nat.mul_one,Rat.mkRat_one]
theorem Is(y:Rat)(b:y≠0): mkRat (sgZ (decide (y.num.sign<0)) y.den) y.num.natAbs=y⁻¹:=by
 rw[Rat.inv_def]
 have c:y.num≠0:=fun h=>b (Rat.num_eq_zero.1 h)
 unfold sgZ
 generalize y.num=m at *
 rcases Int.lt_or_gt_of_ne c with h|h
 ·have a:m.sign<0:=by rw[Int.sign_eq_neg_one_of_neg h];decide
  simp only[a,decide_true,if_true]
  obtain ⟨k,rfl⟩:∃k:Nat,m = -(k:Int):=⟨m.natAbs,oo⟩
  have e:Rat.divInt (y.den:Int) (-(k:Int))=Rat.divInt (-(y.den:Int)) (k:Int):=by
   have:=Rat.neg_divInt_neg (-(y.den:Int)) (k:Int)
   rwa[Int.neg_neg] at this
  rw[e,Rat.divInt_ofNat,Int.natAbs_neg,Int.natAbs_natCast]
 ·have a:¬m.sign<0:=by rw[Int.sign_eq_one_of_pos h];decide
  simp only[a,decide_false,Bool.false_eq_true,if_false]
  obtain ⟨k,rfl⟩:∃k:Nat,m=(k:Int):=⟨m.natAbs,oo⟩
  rw[Rat.divInt_ofNat,Int.natAbs_natCast]
theorem Wa(x:Int): RN (Op.unary .neg (.int .u64 x)) (.int .u64 (IntKind.u64.wrap (0-x))):=fun w=>by simp[Op.unary,Op.intArith]
theorem C_ZOf(n:Int)(f: -9223372036854775808≤n)(h1:n≤9223372036854775807): Ji prog 23 [.int .i64 n] (encZ n):=by
 refine fnI func23 I ntmps23 fun S w0 e=>zS (zz zeroValue49 fun d=>au 0x2c43112 ?_);intro a w h
 refine Zb h I (fun b=>?_) (fun b=>?_)
 ·have c:n<0:=of_decide_eq_true b
  refine gC h<|zS<|zm I<|zp (.convert I<|ZG _)<|zp (.unOp I (fun w=>by rw[Wa,An,An,show(0-n%18446744073709551616)%18446744073709551616=((n.natAbs:Nat):Int) by omega]))<|zv [_] I call65 (C_Of n.natAbs oo)<|zv [_,_] I call63 (JE true n.natAbs)<|stW I I Qg ?_
  refine zn<|zt ?_;clear h;intro a w h
  refine Js h (Ze h I<|rC Jk) ?_
  rw[show sgZ true n.natAbs=n from by unfold sgZ;simp;omega]
 ·have c:¬n<0:=of_decide_eq_false b
  refine gC h<|zk<|zS<|zm I<|zp (Pure1.cast (v':=.int .u64 ((n.natAbs:Nat):Int)) (.convert I<|ZG _) (by rw[An];congr 1;omega))<|zv [_] I call65 (C_Of n.natAbs oo)<|zv [_,_] I call63 (JE false n.natAbs)<|stW I I Qg ?_
  refine zn<|zt ?_;clear h;intro a w h
  refine Js h (Ze h I<|rC Jk) ?_
  rw[show sgZ false n.natAbs=n from by unfold sgZ;simp;omega]
theorem QF(n:Int): Ji prog 22 [encZ n] (Qe (n:Rat)):=by
 refine fnI func22 I ntmps22 fun S w0 c=>zS (zx I fun b=>zz zeroValue51 fun d=>au 0xce312 ?_)
 refine zp (.build [(_,_)] I<|mM _ _ _)<|stW I I Zi ?_
 refine zn<|zt ?_;intro a w h
 refine Js h (Ze h I<|rC Zx) ?_
 rfl
theorem ML(x:Rat): Ji prog 108 [Qe x] (.bool (decide (x.den=1))):=by
 refine fnI func108 I ntmps108 fun S w0 b=>zS (zx I fun a=>au 0xeaf3125 ?_)
 refine ldZ Bp ?_
 refine zp (Pure1.cast (v':=Vp 0) (.build [] I<|My) (by rfl))<|zp (.binOp I I (fun _=>Lf _ _ (x.den-1) 0 _))<|za I<|zn<|zt<|rtK ?_
 have:=x.den_pos;show Value.bool _=Value.bool _;congr 1;apply decide_eq_decide.2;omega
theorem QI(x:Rat)(c:(wds x.den).length≤400000000000): Ji prog 64 [Qe x] (Vp x.den):=by
 refine fnI func64 I ntmps64 fun S w0 d=>zS (zx I fun b=>zz zeroValue45 fun e=>zn<|zs<|yE [0,1,2,3,4]<|yp I (.fA I PT)<|ldY Bp ?_)
 refine yv [_] I I call65 (C_Of 1 dd)<|yv [_,_] I I call116 (C_Add (x.den-1) 1 (Nat.le_trans (Yk<|Nat.sub_le _ _) oo)<|Nat.le_trans (BL dd) dd)<|stV I I I Zt ?_
 refine yn<|zt ?_;intro a w h
 refine Js h (Ze h I<|rC Qr) ?_
 rw[Nat.sub_add_cancel x.den_pos]
theorem HY(x:Rat)(b:(wds x.den).length≤400000000000): Ji prog 21 [Qe x] (encZ (x.den:Int)):=by
 refine fnI func21 I ntmps21 fun S w0 d=>zS (zx I fun c=>zz zeroValue49 fun e=>au 0x6e312 ?_)
 refine zv [_] I call64 (QI x b)<|zv [_,_] I call63 (JE false x.den)<|stW I I Qg ?_
 refine zn<|zt ?_;intro a w h
 refine Js h (Ze h I<|rC Jk) ?_
 rfl
theorem H4(n:Int)(d:Nat)(hd:d≠0)(k:AC n≤400000000000)(c:(wds d).length≤400000000000): Ji prog 102 [encZ n,Vp d] (Qe (mkRat n d)):=by
 unfold AC at k
 have b:n.natAbs.gcd d≠0:=fun h=>hd (Nat.gcd_eq_zero_iff.1 h).2
 have i:(wds (n.natAbs.gcd d)).length≤400000000000:=Nat.le_trans (Yk (Nat.gcd_le_right _ (Nat.pos_of_ne_zero hd))) c
 have hq:1≤d/n.natAbs.gcd d:=Nat.div_pos (Nat.gcd_le_right _ (Nat.pos_of_ne_zero hd)) (Nat.pos_of_ne_zero b)
 have j:(wds (d/n.natAbs.gcd d)).length≤400000000000:=Nat.le_trans (Yk (Nat.div_le_self _ _)) c
 obtain ⟨f,e⟩:=Ih n d hd
 refine fnI func102 I ntmps102 fun S w0 r=>zS (zx I fun p=>zx I fun o=>zz zeroValue51 fun q=>zn<|zs<|yF [0,2,1,3,4,5]<|au 0x34f ?_)
 refine au 0x30f ?_
 refine yv [_] I I call103 (br n)<|yv [_,_] I I call181 (C_Gcd _ _ oo oo) (yz I zeroValue45 fun l=>stV I I I Zt ?_)
 refine yn<|zs<|yF [0,2,1,3,4,5,6,7,8,9,10,11,12]<|au 0x34f ?_
 refine au 0x30f ?_
 refine yv [_] I I call103 (br n)<|yv [_,_] I I call182 (oq n.natAbs (n.natAbs.gcd d) oo oo b)<|au 0x7e7e7e8 ?_
 refine yz I zeroValue45 fun s=>yz I zeroValue45 fun t=>stV I I I Zt ?_
 refine stV I I I Zt ?_
 refine au 0x5e5e31a3e ?_
 refine zv [_,_] I call182 (oq d (n.natAbs.gcd d) oo oo b)<|au 0xbbb4 ?_
 refine zz zeroValue45 fun m=>zz zeroValue45 fun g=>stW I I Zt ?_
 refine stW I I Zt ?_
 refine za I<|zn<|zs<|yE [0,1,2,3,4,5,6]<|au 0x30f ?_
 refine yv [_] I I call65 (C_Of 1 dd)<|yv [_,_] I I call183 (nN _ 1 oo<|Nat.le_trans (BL dd) dd)<|au 0x7e7e8 ?_
 refine stV I I I Zt ?_
 refine yn<|zs<|yE [0,3,5,1,2,4,6,7]<|au 0x34f ?_
 refine au 0x30f ?_
 refine au 0x30f ?_
 refine yv [_] I I call18 (QJ n)<|yp I (.lss I I)<|au 0x1cf ?_
 refine yp I (.build [(_,_),(_,_)] I<|N9 _ _ _ _ _)<|stV I I I Zi ?_
 refine yn<|zt ?_;intro a w h
 refine Js h (Ze h I<|rC Zx) ?_
 rw[Qe,f,e]
theorem bB(x y:Rat)(ha:Zn x≤100000000000)(s:Zn y≤100000000000): Ji prog 71 [Qe x,Qe y] (Qe (x+y)):=by
 obtain ⟨l,i⟩:=Da ha
 obtain ⟨t,j⟩:=Da s
 have n:=Bw x.num (y.den:Int)
 have q:=Bw y.num (x.den:Int)
 have hs:=LH (x.num*(y.den:Int)) (y.num*(x.den:Int))
 have r:=LH x.num y.num
 have k:AC (x.den:Int)=(wds x.den).length:=rfl
 have u:AC (y.den:Int)=(wds y.den).length:=rfl
 have o:=A4 x.den y.den
 have p:=x.den_pos
 have m:=y.den_pos
 refine fnI func71 I ntmps71 fun S w0 A=>zS (zx I fun v=>zx I fun z=>zz zeroValue51 fun B=>au 0x6e31912 ?_)
 refine zv [_] I call108 (ML x)<|zm I ?_;intro a w h
 refine Zh h (fun d h=>?_) (fun d h=>?_)
 focus
  have g:x.den=1:=of_decide_eq_true d
  refine gL h<|ldQ 8 Zx ?_;clear h;intro a w h
  refine Zq 8 h I I<|Qw h (vs:=[_]) I call108 (ML y) dd ?_;clear h;intro a w h
  refine Zh h (fun b h=>?_) (fun b h=>?_)
  ·have e:y.den=1:=of_decide_eq_true b
   refine gL h<|au 0x14fb7f14fb7f311e252e ?_
   refine zv [_,_] I call134 (bo _ _ oo oo)<|zv [_] I call22 (QF _)<|stW I I Zi ?_
   refine zn<|zt ?_;clear h;intro a w h
   refine Js h (Ze h I<|rC Zx) ?_
   rw[show((x.num+y.num:Int):Rat)=x+y from Z8 g e]
  have e:y.den≠1:=of_decide_eq_false b
  refine gL h<|au 0x252e ?_;clear h;intro a w h
 rotate_left
 focus
  have g:x.den≠1:=of_decide_eq_false d
  refine gL h<|zo 8 I I I<|zo 8 I I I<|au 0x254e ?_;clear h;intro a w h
 all_goals
  refine cW ?_
  refine Zj h I ?_
  refine gC h<|au 0xeaf31 ?_
  refine ldZ Bp ?_
  refine au 0xeaf ?_
  refine ldZ Bp ?_
  refine zp (.binOp I I (fun _=>Lf _ _ (x.den-1) (y.den-1) _)) ?_;clear h;intro a w h
  refine Zh h (fun c h=>?_) (fun c h=>?_)
  ·have f:x.den=y.den:=dT c
   refine gL h<|au 0x11e25 ?_
   refine yE [0,1,2,3,5,4,6,7,8]<|au 0xc4f84f ?_;clear h
   refine au 0xc4f84f ?_
   refine au 0xbe ?_
   refine yv [_,_] I I call134 (bo _ _ oo oo)<|yv [_] I I call64 (QI x oo)<|yv [_,_] I I call102 (H4 _ _ oo oo oo)<|stV I I I Zi ?_
   refine yn<|zt ?_;intro a w h
   refine Js h (Ze h I<|rC Zx) ?_
   rw[show mkRat (x.num+y.num) x.den=x+y from SA f]
  ·have f:x.den≠y.den:=dF c
   refine gL h<|au 0x17d25 ?_
   refine yE [0,1,2,5,6,7,11,13,3,4,8,9,10,12,14,15,16,17]<|au 0xc4f84f ?_;clear h
   refine au 0xbe ?_
   refine au 0xc4f84f ?_
   refine au 0xbe ?_
   refine au 0xbe ?_
   refine au 0xbe ?_
   refine yv [_] I I call21 (HY y oo)<|au 0xa9f ?_
   refine yv [_] I I call21 (HY x oo)<|au 0xa9f ?_
   refine yv [_,_] I I call134 (bo _ _ oo oo)<|yv [_] I I call64 (QI x oo)<|yv [_] I I call64 (QI y oo)<|yv [_,_] I I call109 (ob _ _ oo oo)<|yv [_,_] I I call102 (H4 _ _ (Nat.mul_ne_zero oo oo) oo oo)<|stV I I I Zi ?_
   refine yn<|zt ?_;intro a w h
   refine Js h (Ze h I<|rC Zx) ?_
   rw[Rat.add_def']
theorem SN(x y:Rat)(ha:Zn x≤100000000000)(k:Zn y≤100000000000): Ji prog 54 [Qe x,Qe y] (Qe (x*y)):=by
 obtain ⟨m,g⟩:=Da ha
 obtain ⟨l,n⟩:=Da k
 have i:=Bw x.num y.num
 have j:=A4 x.den y.den
 have o:=x.den_pos
 have f:=y.den_pos
 refine fnI func54 I ntmps54 fun S w0 r=>zS (zx I fun q=>zx I fun p=>zz zeroValue51 fun s=>au 0x6e3112 ?_)
 refine zv [_] I call108 (ML x)<|zm I ?_;intro a w h
 refine Zh h (fun c h=>?_) (fun c h=>?_)
 focus
  have d:x.den=1:=of_decide_eq_true c
  refine gL h<|ldQ 7 Zx ?_;clear h;intro a w h
  refine Zq 7 h I I<|Qw h (vs:=[_]) I call108 (ML y) dd ?_;clear h;intro a w h
  refine Zh h (fun b h=>?_) (fun b h=>?_)
  ·have e:y.den=1:=of_decide_eq_true b
   refine gL h<|au 0x14fb7f14fb7f311e22e ?_
   refine zv [_,_] I call20 (jy _ _ oo oo)<|zv [_] I call22 (QF _)<|stW I I Zi ?_
   refine zn<|zt ?_;clear h;intro a w h
   refine Js h (Ze h I<|rC Zx) ?_
   rw[show((x.num*y.num:Int):Rat)=x*y from WS d e]
  refine gL h<|au 0x22e ?_;clear h;intro a w h
 rotate_left
 focus
  refine gL h<|zo 7 I I I<|zo 7 I I I<|au 0x24e ?_;clear h;intro a w h
 all_goals
  refine cW ?_
  refine Zj h I ?_
  refine gC h<|zk<|zs<|yE [0,1,2,3,5,7,4,6,8,9,10,11]<|au 0xc4f84f ?_;clear h
  refine au 0xc4f84f ?_
  refine au 0xbe ?_
  refine au 0xbe ?_
  refine au 0xa9f ?_
  refine yv [_] I I call64 (QI x oo)<|yv [_] I I call64 (QI y oo)<|yv [_,_] I I call109 (ob _ _ oo oo)<|yv [_,_] I I call102 (H4 _ _ (Nat.mul_ne_zero oo oo) oo oo)<|stV I I I Zi ?_
  refine yn<|zt ?_;intro a w h
  refine Js h (Ze h I<|rC Zx) ?_
  rw[Rat.mul_def']
theorem Dq(x:Rat): Ji prog 7 [Qe x] (.int .i64 x.num.sign):=by
 refine fnI func7 I ntmps7 fun S w0 b=>zS (zx I fun a=>au 0x14fb7f3125 ?_)
 refine zv [_] I call18 (QJ x.num)<|za I<|zn<|zt<|rtK I
theorem Oy(n:Int)(b: -9223372036854775808≤n)(h1:n≤9223372036854775807): Ji prog 10 [.int .i64 n] (Qe (n:Rat)):=by
 refine fnI func10 I ntmps10 fun S w0 c=>zS (zz zeroValue51 fun d=>zn<|zS<|zm I<|zv [_] I call23 (C_ZOf n b h1)<|zv [_] I call22 (QF n)<|stW I I Zi ?_)
 refine zn<|zt ?_;intro a w h
 refine Js h (Ze h I<|rC Zx) ?_
 rfl
theorem C_inv(y:Rat)(a:y≠0)(h1:AC (sgZ (decide (y.num.sign<0)) y.den)≤400000000000)(b:(wds y.num.natAbs).length≤400000000000):
  Ji prog 102 [encZ (sgZ (decide (y.num.sign<0)) y.den),Vp y.num.natAbs] (Qe y⁻¹):=by
 rw[←Is y a]
 exact H4 _ _ (fun h=>a (Rat.num_eq_zero.1 (Int.natAbs_eq_zero.1 h))) h1 b
theorem Ds(x y:Rat)(c:y≠0)(hx:Zn x≤100000000000)(d:Zn y≤100000000000): Ji prog 47 [Qe x,Qe y] (.tuple #[Qe (x/y),.int .i64 0]):=by
 obtain ⟨e,g⟩:=Da d
 have f:y.num≠0:=fun h=>c (Rat.num_eq_zero.1 h)
 have hs:AC (sgZ (decide (y.num.sign<0)) y.den)=(wds y.den).length:=by unfold AC;rw[Lb]
 have hz:(wds y.num.natAbs).length=AC y.num:=rfl
 have hinv:=DJ (sgZ (decide (y.num.sign<0)) y.den) y.num.natAbs oo
 rw[Is y c] at hinv
 refine fnI func47 I ntmps47 fun S w0 k=>zS (zx I fun j=>zx I fun i=>zz zeroValue51 fun m=>au 0x6e31125 ?_)
 refine zv [_] I call7 (Dq y)<|au 0x200f ?_
 refine kV I (fun b=>(by exfalso;have:=eq_of_beq b;exact f<|Int.sign_eq_zero_iff_zero.1 this)) fun b=>zk<|zs<|yF [0,3,6,7,1,2,4,5,8,9,10,11]<|au 0xbe ?_
 refine au 0xbe ?_
 refine au 0xc4f84f ?_
 refine yv [_] I I call7 (Dq y)<|yp I (.lss I I)<|yv [_] I I call64 (QI y oo)<|au 0x1cf ?_
 refine yv [_] I I call103 (br y.num)<|yv [_,_] I I call102 (C_inv y c oo oo) (yz I zeroValue51 fun l=>stV I I I Zi ?_)
 refine au 0x6e6e31a ?_
 refine zv [_,_] I call54 (SN x y⁻¹ hx oo)<|stW I I Zi ?_
 refine au 0x625 ?_;intro a w h
 refine Js h (Zw h I (rC Zx)<|.tmp I) ?_
 rw[Rat.div_def]
end
section
theorem Ma{b off:Nat}: RN (Instr.fieldAt 197 (.pointer (some ⟨b,off,none⟩)) 0) (.pointer (some ⟨b,off+0,none⟩)):=fun w=>by
 simp[go_sem]
theorem NC(a:Option Addr)(n c:Nat)(w:World)(ty:TypeId)(cs:Array Bool): (Go.builtin .len #[58] ty cs #[.slice a n c]).run prog w=.ok (.value (.int .i64 n)) w:=by
 simp[go_sem]
theorem ix_58(b off n c j:Nat)(h:j<n): RN (Instr.indexAt 58 (.slice (some ⟨b,off,none⟩) n c) (.int .i64 (j:Int))) (.pointer (some ⟨b,off+j*5,none⟩)):=fun w=>by
 simpa using Qd runUnderlying58 sizeOf51 b off n c j h w
theorem Xl(w:World): (zeroValue 51).run prog w=.ok (Qe 0) w:=zeroValue51 w
theorem zeroZ(w:World): (zeroValue 49).run prog w=.ok (encZ 0) w:=zeroValue49 w
abbrev Ue(p:Rat×Rat×Rat): Value:=.agg #[.int .u64 (Xr p.1.num.natAbs),.string (Xa p.1.num.natAbs),.bool (decide (p.1.num<0)),.int .u64 (Xr (p.1.den-1)),.string (Xa (p.1.den-1)),
 .int .u64 (Xr p.2.1.num.natAbs),.string (Xa p.2.1.num.natAbs),.bool (decide (p.2.1.num<0)),.int .u64 (Xr (p.2.1.den-1)),.string (Xa (p.2.1.den-1)),
 .int .u64 (Xr p.2.2.num.natAbs),.string (Xa p.2.2.num.natAbs),.bool (decide (p.2.2.num<0)),.int .u64 (Xr (p.2.2.den-1)),.string (Xa (p.2.2.den-1))]
theorem SY(w:World): (zeroValue 52).run prog w=.ok (Ue (0,0,0)) w:=zeroValue52 w
theorem fp{x y:Rat}: (Xr x.num.natAbs=Xr y.num.natAbs∧Xa x.num.natAbs=Xa y.num.natAbs∧decide (x.num<0)=decide (y.num<0)∧Xr (x.den-1)=Xr (y.den-1)∧Xa (x.den-1)=Xa (y.den-1))↔x=y:=by
 constructor
 ·rintro⟨h1,a,c,d,b⟩
  have f:=Md h1 a
  have g:=Md d b
  have:=x.den_pos
  have:=y.den_pos
  refine Rat.ext ?_ oo
  have e:(x.num<0)↔(y.num<0):=decide_eq_decide.1 c
  omega
 ·rintro rfl;exact⟨rfl,rfl,rfl,rfl,rfl⟩
theorem str_eq(n m:Nat): ((Xa n).toList=(Xa m).toList)↔Xa n=Xa m:=by have:=Dv (Xa n) (Xa m);rw[Bool.eq_iff_iff] at this;simpa using this
theorem nestQ{α:Type}(x y:Rat)(A B:α): (if Xr x.num.natAbs=Xr y.num.natAbs then if (Xa x.num.natAbs).toList=(Xa y.num.natAbs).toList then if x.num<0↔y.num<0 then if Xr (x.den-1)=Xr (y.den-1) then
  if (Xa (x.den-1)).toList=(Xa (y.den-1)).toList then A else B else B else B else B else B)=if x=y then A else B:=by
 have hq:=@fp x y
 rw[decide_eq_decide] at hq
 simp only[←str_eq] at hq
 by_cases e:x=y
 ·obtain ⟨h1,a,d,b,c⟩:=hq.2 e
  rw[if_pos h1,if_pos a,if_pos d,if_pos b,if_pos c,if_pos e]
 ·rw[if_neg e]
  (repeat' split)<;>first|rfl|(exact absurd (hq.1 ⟨‹_›, ‹_›, ‹_›, ‹_›, ‹_›⟩) e)
theorem DI(x:Rat): Zn (-x)=Zn x:=by simp[Zn,AC,Rat.neg_num,Rat.neg_den]
theorem Yr(x y:Rat): Zn (x-y)≤Zn x+Zn y+1:=by rw[Rat.sub_eq_add_neg];have:=Xj x (-y);rw[DI] at this;exact this
theorem Qa(n:Int)(b: -9223372036854775808≤n)(h1:n≤9223372036854775807): Zn ((n:Int):Rat)≤2:=by
 have:(wds n.natAbs).length≤2:=BL oo
 unfold Zn AC
 rw[Rat.num_intCast,Rat.den_intCast]
 have a:(wds 1).length≤2:=BL dd
 omega
theorem Vo:Zn 0≤2:=Qa 0 oo oo
theorem ey(y:Rat): Zn y⁻¹≤Zn y:=by
 by_cases a:y=0
 ·subst a;rw[Rat.inv_zero];exact Nat.le_refl _
 ·rw[←Is y a]
  have b:y.num≠0:=fun h=>a (Rat.num_eq_zero.1 h)
  have:=DJ (sgZ (decide (y.num.sign<0)) y.den) y.num.natAbs oo
  unfold AC at this
  rw[Lb] at this
  unfold Zn AC at *
  omega
theorem Ye(x y:Rat): Zn (x/y)≤Zn x+Zn y:=by
 rw[Rat.div_def];have:=Qh x y⁻¹;have:=ey y;omega
theorem Ks(n d:Int)(b: -9223372036854775808≤n)(h1:n≤9223372036854775807)(a: -9223372036854775808≤d)(c:d≤9223372036854775807): Zn ((n:Rat)/(d:Rat))≤4:=by
 have:=Ye (n:Rat) (d:Rat);have:=Qa n b h1;have:=Qa d a c;omega
abbrev Qi(k:Nat): Value:=.int .i64 (k:Int)
theorem getD_mem{α:Type}(l:List α){i:Nat}{d:α}(h:i<l.length): l.getD i d∈l:=by
 simp only[List.getD,List.getElem?_eq_getElem h,Option.getD_some];exact List.getElem_mem h
theorem Ba{α β:Type}{f:β→α→β}(l:List α)(s:β)(i:Nat)(d:α)(h:i<l.length): (l.take (i+1)).foldl f s=f ((l.take i).foldl f s) (l.getD i d):=by
 rw[List.take_add_one,List.getElem?_eq_getElem h,List.foldl_append]
 simp[List.getD,List.getElem?_eq_getElem h]
theorem C_QNeg(x:Rat): Ji prog 112 [Qe x] (Qe (-x)):=by
 refine fnI func112 I ntmps112 fun S w0 c=>zS (zx I fun b=>zz Xl fun d=>zn<|zs<|yE [0,1,3,4,2,5,6]<|au 0xc4f84f ?_)
 refine yp I (.fA I PT)<|ldY Bp ?_
 refine yv [_] I I call115 (jx x.num)<|yp I (.build [(_,_),(_,_)] I<|N9 _ _ _ _ _)<|stV I I I Zi ?_
 refine yn<|zt ?_;intro a w h
 refine Js h (Ze h I<|rC Zx) ?_
 unfold Qe;rw[Rat.neg_num,Rat.neg_den]
theorem bz(x y:Rat)(ha:Zn x≤10000000000)(f:Zn y≤10000000000): Ji prog 56 [Qe x,Qe y] (Qe (x-y)):=by
 refine fnI func56 I ntmps56 fun S w0 g=>zS (zx I fun e=>zx I fun d=>zz Xl fun i=>zn<|zs<|yE [0,1,2,3,4]<|au 0xbe ?_)
 refine au 0xbe ?_
 refine au 0x9cf ?_
 have c:=DI (y)
 refine au 0x54f ?_
 have b:=Xj (x) (-y)
 refine stV I I I Zi ?_
 refine yn<|zt ?_;intro a w h
 refine Js h (Ze h I<|rC Zx) ?_
 rw[←Rat.sub_eq_add_neg]
theorem C_tadd(b:Nat)(s x:Rat)(σ:List (Nat×Obj))(Φ:List Zp)(hs:Zn s≤10000000000)(hx:Zn x≤10000000000):
  FR prog 111 [.pointer (some ⟨b,0,none⟩),Qe x] ((b,.cells (Qe s).cells 197 (0,0))::σ) Φ (fun v σ' Φ'=>v=.tuple #[]∧σ'=(b,.cells (Qe (s+x)).cells 197 (0,0))::σ∧Φ'=Φ):=by
 refine fn_introM func111 I ntmps111 nb ?_
 intro S w0 a w d h
 refine gC h<|zS (zx I fun e=>zn<|yE [0,1,2,3,4,5,6,7,8,9]<|au 0x88 ?_)
 refine yp I (.nilCheck I)<|yp I (.fA I Ma)<|au 0xbe ?_;clear h
 refine au 0xbe ?_
 refine au 0x54f ?_
 have c:=Xj (s) (x)
 refine yp I (.nilCheck I)<|yp I (.fA I Ma)<|stV I I I Zi ?_
 refine yn ?_;intro a w h
 refine UP h (AK I) ⟨rfl,rfl,rfl⟩ (List.sublist_cons_self _ _) (fun _ h=>h)
theorem Ux(b:Nat)(s:Rat)(ad:Option Addr)(c:Nat)(l:List Rat)(σ:List (Nat×Obj))(Φ:List Zp)(A:l.length≤90)(hs:Zn s≤1000000)(hx:∀x∈l,Zn x≤50000000)(hR:Row ad (cellsOf Qe l)∈Φ):
  FR prog 110 [.func (.func 111) #[.pointer (some ⟨b,0,none⟩)] #[],.slice ad l.length c] ((b,.cells (Qe s).cells 197 (0,0))::σ) Φ (fun v σ' Φ'=>v=.tuple #[]∧σ'=(b,.cells (Qe (l.foldl (· + ·) s)).cells 197 (0,0))::σ∧Φ'=Φ):=by
 refine fn_introM func110 I ntmps110 nb ?_
 intro S w0 a w y h
 refine gC h<|au 0x924b8f431 ?_;clear h;intro a w h
 refine Jh (fun(i:Nat) a w=>i≤l.length∧(Zn ((l.take i).foldl (· + ·) s)≤1000000+50000001*i)∧St 16 S w0 [(0,.func (.func 111) #[.pointer (some ⟨b,0,none⟩)] #[]),(6,.slice ad l.length c),(7,nI l.length),(8,nI i)] ((b,bV (Qe ((l.take i).foldl (· + ·) s)) 197)::σ) (Φ) a w) (fun i=>l.length-i) 0 (⟨Nat.zero_le _,by simpa using hs,by exact(h).sub sA⟩) ?_;clear h
 rintro i a w ⟨p,m,h⟩
 refine gC h<|au 0x12c31 ?_;intro a w h
 refine Zb h I (fun j=>?_) (fun j=>?_)
 ·have d:i<l.length:=dT j
  obtain ⟨r,n,rfl⟩:=h.row_addr (ad:=ad) (M:=cellsOf Qe l) mm (nE 5)
  have hl:=hx (l.getD i 0) (getD_mem _ d)
  have e:=Ba (f:=(· + ·)) l s i 0 d
  have z:=Xj ((l.take i).foldl (· + ·) s) (l.getD i 0)
  refine gC h<|au 0x9bf31917 ?_
  refine zD I mm (cells_lt (k:=5) dd (fun _=>rfl) l i oo) isAgg51 sizeOf51 (Zg (k:=5) (fun _=>rfl) ((fun _=>rfl)) l 0 i oo) (.inl I) ?_
  refine zz Xl fun t=>stW I I Zi ?_
  refine au 0x6e432 ?_;clear h;intro a w h
  refine Zc<|EU h y (fs:=[.pointer (some ⟨b,0,none⟩)]) (cs:=[]) I (vs:=[_]) I call111 (C_tadd b ((l.take i).foldl (· + ·) s) (l.getD i 0) ((t,_)::σ) Φ oo oo) (List.Perm.swap _ _ _) ss ss ?_;clear h;rintro u q o a w ⟨rfl,rfl,rfl⟩ h
  refine gL h<|zn<|zr<|zp (.pN (i+1)<|.add I I)<|au 0x24 ?_;clear h;intro a w h
  rw[←e] at h
  exact⟨i+1,⟨oo,by rw[e];omega,tO h⟩,oo⟩
 ·have g:l.length=i:=dF j
  subst g
  refine wp_exit ?_
  refine UP h (AK I) ⟨rfl,by rw[List.take_length],rfl⟩ (List.Sublist.refl _) (fun _ h=>h)
theorem C_QSum(ad:Option Addr)(c:Nat)(l:List Rat)(i:l.length≤90)(hx:∀x∈l,Zn x≤50000000):
  Xo prog 55 [.slice ad l.length c] [Row ad (cellsOf Qe l)] (Qe (l.foldl (· + ·) 0)):=by
 refine fnI func55 I ntmps55 fun S w0 f=>zS (zz Xl fun e=>zn<|zS (zz zeroValue197 fun d=>zn<|zS<|zp (.makeFunc [_] [] I I)<|zm I ?_));intro a w h
 refine Zc<|Yq h f (vs:=[_,_]) I call110 (Ux d 0 ad c l [(e,_)] [Row ad (cellsOf Qe l)] i (Nat.le_trans Vo dd) hx List.mem_cons_self) (List.Perm.refl _) ss ss ?_;clear h;rintro v6 b g a w ⟨rfl,rfl,rfl⟩ h
 refine gL h<|zn<|zS<|zp (.fA I Ma)<|au 0x6e ?_
 refine stW I I Zi ?_
 refine zn<|zt ?_;clear h;intro a w h
 refine Js h (Ze h I<|rC Zx) ?_
 rfl
theorem C_QOf(n d:Int)(g: -9223372036854775808≤n)(h1:n≤9223372036854775807)(f: -9223372036854775808≤d)(j:d≤9223372036854775807)(hd:d≠0):
  Ji prog 15 [.int .i64 n,.int .i64 d] (.tuple #[Qe ((n:Rat)/(d:Rat)),.int .i64 0]):=by
 refine fnI func15 I ntmps15 fun S w0 i=>zS (zz Xl fun k=>au 0xa1f43125 ?_);intro a w h
 have b:=Qa (n) oo oo
 refine gL h<|au 0xa1f4 ?_
 have c:=Qa (d) oo oo
 refine zv [_,_] I call47 (Ds _ _ (by exact fun e=>hd<|Rat.intCast_eq_zero_iff.1 e) oo oo)<|au 0xbb ?_
 refine stW I I Zi ?_
 refine au 0x625 ?_;clear h;intro a w h
 refine Js h (Zw h I (rC Zx)<|.tmp I) ?_
 rfl
end
section
def digS(n:Nat): ByteArray:=if n<10 then ⟨#[UInt8.ofNat (48+n)]⟩ else ⟨#[UInt8.ofNat (48+n/10),UInt8.ofNat (48+n%10)]⟩
def textZ(z:Int): ByteArray:=if z<0 then ⟨#[45]⟩++digS z.natAbs else digS z.natAbs
def textQ(x:Rat): ByteArray:=if x.den=1 then textZ x.num else textZ x.num++⟨#[47]⟩++digS x.den
def textU(l:List Rat): Nat→ByteArray
 | 0=>⟨#[]⟩
 | i+1=>(if 0<i then textU l i++⟨#[32]⟩ else textU l i)++textQ (l.getD i 0)
def tab1:ByteArray:=⟨#[48,49,50,51,52,53,54,55,56,57,97,98,99,100,101,102,103,104,105,106,107,108,109,110,111,112,113,114,115,116,117,118,119,120,121,122]⟩
def tab2:ByteArray:=⟨#[48,48,48,49,48,50,48,51,48,52,48,53,48,54,48,55,48,56,48,57,49,48,49,49,49,50,49,51,49,52,49,53,49,54,49,55,49,56,49,57,50,48,50,49,50,50,50,51,50,52,50,53,50,54,50,55,50,56,50,57,51,48,51,49,51,50,51,51,51,52,51,53,51,54,51,55,51,56,51,57,52,48,52,49,52,50,52,51,52,52,52,53,52,54,52,55,52,56,52,57,53,48,53,49,53,50,53,51,53,52,53,53,53,54,53,55,53,56,53,57,54,48,54,49,54,50,54,51,54,52,54,53,54,54,54,55,54,56,54,57,55,48,55,49,55,50,55,51,55,52,55,53,55,54,55,55,55,56,55,57,56,48,56,49,56,50,56,51,56,52,56,53,56,54,56,55,56,56,56,57,57,48,57,49,57,50,57,51,57,52,57,53,57,54,57,55,57,56,57,57]⟩
end
section
theorem eu(x:Int): AC (-x)=AC x:=by unfold AC;rw[Int.natAbs_neg]
theorem Tn(n:Int)(d:Nat)(hd:d≠0): (mkRat n d).num.sign=n.sign:=by
 cases h:mkRat n d with
 | mk' b d' z c =>
  obtain ⟨m,hm,a,_⟩:=Rat.mkRat_num_den hd h
  rw[a,Int.sign_mul,show((m:Nat):Int).sign=1 from Int.sign_eq_one_of_pos oo,Int.mul_one]
theorem QZ(x y:Rat): (x-y).num.sign=(x.num*(y.den:Int)-y.num*(x.den:Int)).sign:=by
 rw[Rat.sub_def',Tn _ _ (Nat.mul_ne_zero x.den_nz y.den_nz)]
theorem VT{x y:Rat}(h:x.den=y.den): (x-y).num.sign=(x.num-y.num).sign:=by
 rw[QZ, ←h, ←Int.sub_mul,Int.sign_mul,show((x.den:Nat):Int).sign=1 from Int.sign_eq_one_of_pos (by have:=x.den_pos;omega),Int.mul_one]
def Ey(i k:Int): Int:=if i<k then -1 else if i>k then 1 else 0
def Gp(t:Rat): Bool:=decide (t.num.sign≥0) && decide ((t-((1:Int):Rat)).num.sign≤0)
theorem C_ZSub(x y:Int)(hx:AC x≤400000000000)(b:AC y≤400000000000): Ji prog 60 [encZ x,encZ y] (encZ (x-y)):=by
 refine fnI func60 I ntmps60 fun S w0 e=>zS (zx I fun d=>zx I fun c=>zz zeroZ fun f=>zn<|zs<|yE [0,1,2,3,4]<|au 0x34f ?_)
 refine au 0x34f ?_
 refine yv [_] I I call115 (jx y)<|yv [_,_,_] I I call61 (I9 x (-y) hx (by rw[eu];exact b))<|stV I I I Qg ?_
 refine yn<|zt ?_;intro a w h
 refine Js h (Ze h I<|rC Jk) ?_
 rw[Int.sub_eq_add_neg]
theorem jz(x y:Int)(hx:AC x≤400000000000)(a:AC y≤400000000000): Ji prog 19 [encZ x,encZ y] (.int .i64 (x-y).sign):=by
 refine fnI func19 I ntmps19 fun S w0 c=>zS (zx I fun d=>zx I fun b=>au 0xcece3125 ?_)
 refine zv [_,_] I call60 (C_ZSub x y hx a)<|zv [_] I call18 (QJ _)<|za I<|zn<|zt<|rtK I
theorem Ht(x y:Rat)(ha:Zn x≤100000000000)(i:Zn y≤100000000000): Ji prog 9 [Qe x,Qe y] (.int .i64 (x-y).num.sign):=by
 obtain ⟨n,f⟩:=Da ha
 obtain ⟨j,k⟩:=Da i
 have g:=Bw x.num (y.den:Int)
 have e:=Bw y.num (x.den:Int)
 have m:AC (x.den:Int)=(wds x.den).length:=rfl
 have l:AC (y.den:Int)=(wds y.den).length:=rfl
 have o:=x.den_pos
 have d:=y.den_pos
 refine fnI func9 I ntmps9 fun S w0 r=>zS (zx I fun q=>zx I fun p=>au 0xeaf31125 ?_)
 refine ldZ Bp ?_
 refine au 0xeaf ?_
 refine ldZ Bp ?_
 refine zp (.binOp I I (fun _=>Lf _ _ (x.den-1) (y.den-1) _)) ?_;intro a w h
 refine Zh h (fun b h=>?_) (fun b h=>?_)
 ·have c:x.den=y.den:=dT b
  refine wpList_nil ?_
  refine cW ?_
  refine Qo h I ?_
  refine gC h<|au 0x14fb7f14fb7f31 ?_
  refine zv [_,_] I call19 (jz x.num y.num oo oo)<|za I<|zn<|zt<|rtK ?_
  rw[VT c]
 ·have c:x.den≠y.den:=dF b
  refine wpList_nil ?_
  refine cW ?_
  refine Zj h I ?_
  refine gC h<|zk<|zs<|yE [0,1,2,5,6,7,3,4,8,9,10,11]<|au 0xc4f84f ?_;clear h
  refine au 0xbe ?_
  refine au 0xc4f84f ?_
  refine au 0xbe ?_
  refine yv [_] I I call21 (HY y oo)<|au 0xa9f ?_
  refine yv [_] I I call21 (HY x oo)<|au 0xa9f ?_
  refine yv [_,_] I I call19 (jz _ _ oo oo)<|au 0x6a3e ?_
  refine rtK ?_
  rw[QZ]
theorem aN(x:Int): Ji prog 107 [.int .i64 x] (.bool false):=by
 refine fnI func107 I ntmps107 fun S w0 a=>au 0x62562f44312531 ?_
 refine rtK ?_
 simp
theorem Ox(x y:Int): Ji prog 53 [.int .i64 x,.int .i64 y] (.int .i64 (Ey x y)):=by
 refine fnI func53 I ntmps53 fun S w0 g=>au 0x4312531 ?_
 refine zv [_] I call107 (aN _)<|au 0x43125 ?_
 refine zv [_] I call107 (aN _)<|au 0x431125 ?_;intro a w h
 refine Zh h (fun d h=>(by exfalso;cases d)) (fun d h=>?_)
 refine wpList_nil ?_
 refine cW ?_
 refine Zj h I ?_
 refine gC h<|au 0x43117 ?_;clear h;intro a w h
 refine Zh h (fun e h=>(by exfalso;cases e)) (fun e h=>?_)
 refine wpList_nil ?_
 refine cW ?_
 refine Zj h I ?_
 refine gC h<|au 0x2c443117 ?_;clear h;intro a w h
 refine Zb h I (fun b=>?_) (fun b=>?_)
 ·refine gC h<|au 0x62531 ?_
  refine rtK ?_
  unfold Ey;have:=of_decide_eq_true b;simp[this]
 ·refine gC h<|au 0x270f443117 ?_;clear h;intro a w h
  refine Zb h I (fun c=>?_) (fun c=>?_)
  ·refine gC h<|au 0x62531 ?_
   refine rtK ?_
   unfold Ey;have h1:=of_decide_eq_false b;have f:=of_decide_eq_true c;rw[if_neg h1,if_pos f]
  ·refine gC h<|au 0x625317 ?_
   refine rtK ?_
   unfold Ey;have h1:=of_decide_eq_false b;have f:=of_decide_eq_false c;rw[if_neg h1,if_neg f]
theorem I7(t:Rat)(ht:Zn t≤100000000): Ji prog 24 [Qe t] (.bool (Gp t)):=by
 refine fnI func24 I ntmps24 fun S w0 d=>zS (zx I fun e=>za I<|zn<|zs<|yE [0,1,2,3,4,5,6,7,8,9]<|au 0xbe ?_)
 refine yv [_] I I call7 (Dq _)<|yp I (.geq I I) ?_
 refine Ju (fun b  =>?_) (fun b  =>?_)
 focus
  refine au 0x8 ?_
  refine yg I I I I mr isAgg51 sizeOf51 Zx ?_
  refine Xk I I I kk (vs:=[_]) I call10 (Oy _ oo oo) dd ?_
  have c:=Qa (1) oo oo
  refine Xk I I I kk (vs:=[_,_]) I call9 (Ht t (((1:Int):Rat)) oo oo) dd ?_
  refine yq I I I (.leq I I)<|au 0x6a3e56f ?_;intro a w h
 rotate_left
 focus
  refine au 0x8 ?_
  refine yo 6 I I I I<|yo 6 I I I I<|yo 6 I I I I<|yo 6 I I I I<|au 0x6a3ea5f ?_;intro a w h
 all_goals
  refine Js h (Ze h I<|.tmp I) ?_
  unfold Gp;rw[b];rfl
theorem Uu(x:Rat): Ji prog 48 [Qe x] (.bool (decide (x.num.sign<0))):=by
 refine fnI func48 I ntmps48 fun S w0 b=>zS (zx I fun a=>au 0x625cf2f6e3125 ?_)
 refine rtK I
theorem bb(n:Int)(f: -9223372036854775808≤n)(h1:n≤9223372036854775807): Ji prog 17 [.int .i64 n] (Qe (((n:Int):Rat)/((2:Int):Rat))):=by
 refine fnI func17 I ntmps17 fun S w0 e=>zS (zz Xl fun d=>au 0x05f4312 ?_);intro a w h
 have b:=Ks (n) (2) oo oo oo oo
 refine gL h<|au 0xbb4 ?_
 refine zz Xl fun c=>stW I I Zi ?_
 refine au 0x6e3125 ?_
 refine stW I I Zi ?_
 refine zn<|zt ?_;clear h;intro a w h
 refine Js h (Ze h I<|rC Zx) ?_
 rfl
end
section
theorem Ld(x:Int)(a: -9223372036854775807≤x)(h1:x≤9223372036854775807): RN (Op.unary .neg (.int .i64 x)) (.int .i64 (-x)):=fun w=>by
 have:(Op.unary .neg (.int .i64 x)).run prog w=.ok (.int .i64 (IntKind.i64.wrap (0-x))) w:=by simp[Op.unary,Op.intArith]
 rw[this,wrap_i64 _ oo oo];congr 2;omega
end
section
theorem lO{b off:Nat}: RN (Instr.fieldAt 36 (.pointer (some ⟨b,off,none⟩)) 0) (.pointer (some ⟨b,off+0,none⟩)):=fun w=>by
 simp[go_sem]
theorem lN{b off:Nat}: RN (Instr.fieldAt 36 (.pointer (some ⟨b,off,none⟩)) 1) (.pointer (some ⟨b,off+1,none⟩)):=fun w=>by
 simp[go_sem]
theorem mf(x:Int): RN (Go.convert 34 2 (.int .u32 x)) (.int .i64 (IntKind.i64.wrap x)):=fun w=>by
 simp[go_sem]
theorem fD(x:Int)(a:IntKind.i64.wrap x=x): RN (Go.convert 34 2 (.int .u32 x)) (.int .i64 x):=fun w=>by
 rw[mf,a]
def qv(N D:Int): Rat:=((N:Int):Rat)/((max D 1:Int):Rat)
theorem Vx(N D:Int)(a: -9223372036854775808≤N)(h1:N≤9223372036854775807)(b:0≤D)(c:D≤4294967295): Zn (qv N D)≤4:=Ks N (max D 1) a h1 oo oo
theorem mF(x y:Int)(w:World)(ty:TypeId)(cs:Array Bool): (Go.builtin .max #[34,34] ty cs #[.int .u32 x,.int .u32 y]).run prog w=.ok (.value (.int .u32 (max x y))) w:=by
 simp[go_sem]<;>(try rw[Int.max_def])<;>(try split)<;>(try split)<;>(try omega)
abbrev Mg(q:Int×Int): Value:=.agg #[.int .i64 q.1,.int .u32 q.2]
def OkQ(q:Int×Int): Prop := -9223372036854775808≤q.1∧q.1≤9223372036854775807∧0≤q.2∧q.2≤4294967295
def qvp(q:Int×Int): Rat:=qv q.1 q.2
theorem EY{q:Int×Int}(h:OkQ q): Zn (qvp q)≤4:=Vx _ _ h.1 h.2.1 h.2.2.1 h.2.2.2
theorem FM(N D:Int)(g: -9223372036854775808≤N)(h1:N≤9223372036854775807)(c:0≤D)(j:D≤4294967295): Ji prog 8 [.agg #[.int .i64 N,.int .u32 D]] (Qe (qv N D)):=by
 refine fnI func8 I ntmps8 fun S w0 i=>zS (zx I fun f=>zz Xl fun e=>zn<|zS<|zp (.fA I lO)<|au 0xc0f ?_)
 refine zp (.fA I lN)<|au 0x61f ?_
 refine zp (.builtin [_,_] I (fun w ty cs=>mF _ _ w ty cs))<|zp (.convert I<|fD _<|wrap_i64 _ oo oo)<|au 0x05f ?_
 have b:=Ks (N) (max D 1) oo oo oo oo
 refine au 0xbb4 ?_
 refine zz Xl fun d=>stW I I Zi ?_
 refine au 0x6e3125 ?_
 refine stW I I Zi ?_
 refine zn<|zt ?_;intro a w h
 refine Js h (Ze h I<|rC Zx) ?_
 rfl
end
section
theorem Gb(a:Option Addr)(n c:Nat)(w:World)(ty:TypeId)(cs:Array Bool): (Go.builtin .len #[69] ty cs #[.slice a n c]).run prog w=.ok (.value (.int .i64 n)) w:=by
 simp[go_sem]
theorem Hv(b off n c j:Nat)(h:j<n): RN (Instr.indexAt 69 (.slice (some ⟨b,off,none⟩) n c) (.int .i64 (j:Int))) (.pointer (some ⟨b,off+j,none⟩)):=fun w=>by
 simpa using Qd runUnderlying69 sizeOf3 b off n c j h w
theorem Og(a c b:Int): RN (Instr.build 127 [(0,.int .i64 a),(1,.int .i64 c),(2,.int .i64 b)].toArray) (.agg #[.int .i64 a,.int .i64 c,.int .i64 b]):=fun w=>by simp[go_sem]
theorem FC(a c b:Int)(w:World): (Instr.buildSlice 69 3 [(0,.int .i64 a),(1,.int .i64 c),(2,.int .i64 b)].toArray).run prog w=.ok (.slice (some ⟨w.heap.size,0,none⟩) 3 3) (w.alloc (.cells #[.int .i64 a,.int .i64 c,.int .i64 b] 3 (0,0))):=by
 simp[go_sem]
def upQ(q:Rat): Nat→Rat
 | 0=>q
 | p+1=>upQ q p*(((p+1:Nat):Int):Rat)
def Mm(q:Rat): Nat→Rat
 | 0=>q
 | n+1=>Mm q n/(((n+1:Nat):Int):Rat)
def J6(n:Nat)(l:List Nat): Rat:=Mm (l.foldl upQ 1) n
def kY(i j k:Nat): Rat:=((2:Int):Rat)*J6 (i+j+k+2) [i,j,k]
theorem Ip(q:Rat): ∀p,p≤1000000→Zn (upQ q p)≤Zn q+2*p
 | 0,_=>Nat.le_refl _
 | p+1,h=>by
  have h1:=Ip q p oo
  have a:=Qa ((p+1:Nat):Int) oo oo
  have b:=Qh (upQ q p) (((p+1:Nat):Int):Rat)
  show Zn (upQ q p*_)≤_
  omega
theorem Ir(q:Rat): ∀p,p≤1000000→Zn (Mm q p)≤Zn q+2*p
 | 0,_=>Nat.le_refl _
 | p+1,h=>by
  have h1:=Ir q p oo
  have a:=Qa ((p+1:Nat):Int) oo oo
  have b:=Ye (Mm q p) (((p+1:Nat):Int):Rat)
  show Zn (Mm q p/_)≤_
  omega
theorem HK:Zn 1≤2:=Qa 1 oo oo
theorem LI:∀(l:List Nat) (q:Rat),(∀x∈l,x≤48)→Zn (l.foldl upQ q)≤Zn q+96*l.length
 | [],q,_=>by simp
 | x::l,q,h=>by
  have h1:=LI l (upQ q x) (fun y a=>h y (List.mem_cons_of_mem _ a))
  have c:=h x List.mem_cons_self
  have b:=Ip q x oo
  simp only[List.foldl_cons,List.length_cons]
  omega
theorem int_ne{n:Nat}: ((((n+1:Nat):Int):Rat))≠0:=fun e=>by have:=Rat.intCast_eq_zero_iff.1 e;omega
theorem gQ(n:Nat)(l:List Nat)(ad:Option Addr)(c:Nat)(O:n≤200)(hl:l.length≤10)(hx:∀x∈l,x≤48):
  Xo prog 234 [.int .i64 ((n:Nat):Int),.slice ad l.length c] [Row ad (List.map Qi l)] (Qe (J6 n l)):=by
 refine fnI func234 I ntmps234 fun S w0 N=>zS (zz Xl fun t=>au 0xa1f312 ?_);intro a w h
 have z:=Qa (1) oo oo
 refine gL h (zz Xl fun v=>stW I I Zi ?_)
 refine au 0x92401f43112 ?_;clear h;intro a w h
 refine lpG h [0,4,5,11,12] pkL (fun Y Z (k:Nat) a w=>k≤l.length∧St 42 S w0 ((13,nI k)::Y) [(v,bV (Qe ((l.take k).foldl upQ 1)) 51),(t,bV (Qe<|0) 51)] Z a w) (fun k=>l.length-k) 0 (⟨Nat.zero_le _,by exact(h).sub sA⟩) ?_;clear h
 rintro k a w ⟨F,h⟩
 refine gC h<|au 0x12c31 ?_;intro a w h
 refine Zb h I (fun e=>?_) (fun e=>?_)
 ·have g:k<l.length:=dT e
  obtain ⟨G,H,rfl⟩:=h.row_addr (ad:=ad) (M:=List.map Qi l) mm nF
  have J:=hx (l.getD k 0) (getD_mem _ g)
  have q:=LI (l.take k) 1 (fun x r=>hx x (List.mem_of_mem_take r))
  rw[List.length_take] at q
  have u:=HK
  refine gC h<|au 0xf1f31917 ?_
  refine zD I mm (by rw[List.length_map];omega) isAgg3 sizeOf3 (Zr (enc:=Qi) (l:=l) 0 oo) (.inr I) ?_
  refine au 0x92443125 ?_;clear h;intro a w h
  refine lpG h [0,4,5,11,12,13,17] pkL (fun Y Z (i:Nat) a w=>i≤l.getD k 0∧St 42 S w0 ((18,nI i)::Y) [(v,bV (Qe<|upQ ((l.take k).foldl upQ 1) i) 51),(t,bV (Qe<|0) 51)] Z a w) (fun i=>l.getD k 0-i) 0 (⟨Nat.zero_le _,by exact(h).sub sA⟩) ?_;clear h
  rintro i a w ⟨D,h⟩
  refine gC h<|au 0x12c31 ?_;intro a w h
  refine Zb h I (fun d=>?_) (fun d=>?_)
  ·have y:i<l.getD k 0:=dT d
   have K:=Ip ((l.take k).foldl upQ 1) i oo
   refine gC h<|au 0x25431917 ?_
   refine yE [0,1,2,3,4,5]<|au 0xbe ?_;clear h
   refine au 0x8 ?_
   refine yp I (.pN (i+1)<|.add I I)<|au 0xc9f ?_
   have C:=Qa (((i+1:Nat):Int)) oo oo
   refine au 0x92f ?_
   have B:=Qh (upQ ((l.take k).foldl upQ 1) i) (((((i+1:Nat):Int):Int):Rat))
   refine stV I I I Zi ?_
   refine yn<|zr<|zp (.pN (i+1)<|.add I I)<|au 0x24 ?_;intro a w h
   exact⟨i+1,⟨oo,tO h⟩,oo⟩
  ·have j:l.getD k 0=i:=dF d
   subst j
   refine gC h<|ze<|zr<|zp (.pN (k+1)<|.add I I)<|au 0x24 ?_;clear h;intro a w h
   rw[←Ba (f:=upQ) l 1 k 0 g] at h
   exact⟨k+1,⟨oo,tO h⟩,oo⟩
 ·have p:l.length=k:=dF e
  subst p
  refine gC h<|au 0x92443110e ?_;clear h;intro a w h
  rw[List.take_length] at h
  refine lpG h [0,4,5,11,12,13,28] pkL (fun Y Z (m:Nat) a w=>m≤n∧St 42 S w0 ((29,nI m)::Y) [(v,bV (Qe<|Mm (l.foldl upQ 1) m) 51),(t,bV (Qe<|0) 51)] Z a w) (fun m=>n-m) 0 (⟨Nat.zero_le _,by exact(h).sub sA⟩) ?_;clear h
  rintro m a w ⟨A,h⟩
  refine gC h<|au 0x12c31 ?_;intro a w h
  refine Zb h I (fun b=>?_) (fun b=>?_)
  ·have s:m<n:=dT b
   have L:=Ir (l.foldl upQ 1) m oo
   have q:=LI l 1 hx
   have u:=HK
   refine gC h<|au 0x25431917 ?_
   refine yE [0,1,2,3,4,5,6,7,8]<|au 0xbe ?_;clear h
   refine au 0x8 ?_
   refine yp I (.pN (m+1)<|.add I I)<|au 0xc9f ?_
   have E:=Qa (((m+1:Nat):Int)) oo oo
   refine yv [_,_] I I call47 (Ds _ _ int_ne oo oo)<|au 0x7e7e8 ?_
   refine stV I I I Zi ?_
   refine yn<|zr<|zp (.pN (m+1)<|.add I I)<|au 0x24 ?_;intro a w h
   exact⟨m+1,⟨oo,tO h⟩,oo⟩
  ·have o:n=m:=dF b
   subst o
   refine gC h<|au 0x6e310e ?_
   refine stW I I Zi ?_
   refine zn<|zt ?_;clear h;intro a w h
   refine Js h (Ze h I<|rC Zx) ?_
   rfl
end
section
theorem Jy(a b:Int)(w:World): (Instr.buildSlice 69 2 [(0,.int .i64 a),(1,.int .i64 b)].toArray).run prog w=.ok (.slice (some ⟨w.heap.size,0,none⟩) 2 2) (w.alloc (.cells #[.int .i64 a,.int .i64 b] 3 (0,0))):=by
 simp[go_sem]
abbrev Hq(x:Int): Value:=.int .i64 x
def orI:List Int→Int
 | []=>0
 | x::l=>if x≠0 then x else orI l
theorem WF:∀(l:List Int) (i:Nat),(∀j,j<i→l.getD j 0=0)→i<l.length→l.getD i 0≠0→orI l=l.getD i 0
 | [],i,_,h,_=>by simp at h
 | x::l,0,_,_,h=>by rw[orI];exact if_pos (by simpa using h)
 | x::l,i+1,hz,hl,h=>by
  have a:x=0:=by simpa using hz 0 oo
  rw[orI,if_neg (by simp[a]),WF l i (fun j hj=>by simpa using hz (j+1) oo) (by simpa using hl) (by simpa using h)]
  simp
theorem Rp:∀(l:List Int),(∀j,j<l.length→l.getD j 0=0)→orI l=0
 | [],_=>rfl
 | x::l,hz=>by
  have a:x=0:=by simpa using hz 0 ss
  rw[orI,if_neg (by simp[a]),Rp l (fun j hj=>by simpa using hz (j+1) (by simpa using hj))]
def bQ:List Rat→Nat→Int
 | [],_ => -1
 | x::l,i=>if x.num.sign<0 then (i:Int) else bQ l (i+1)
theorem NM(l:List Rat)(i:Nat)(h:i<l.length): bQ (l.drop i) i=if (l.getD i 0).num.sign<0 then (i:Int) else bQ (l.drop (i+1)) (i+1):=by
 rw[List.drop_eq_getElem_cons h,bQ];simp[List.getD,h]
theorem RR:∀(l:List Rat) (i:Nat),decide (bQ l i≥0)=l.any (fun x:Rat=>decide (x.num.sign<0))
 | [],i=>by rw[bQ];simp
 | x::l,i=>by
  rw[bQ,List.any_cons, ←RR l (i+1)]
  by_cases h:x.num.sign<0
  ·rw[if_pos h,decide_eq_true h,Bool.true_or];exact decide_eq_true oo
  ·rw[if_neg h,decide_eq_false h,Bool.false_or]
def cfN(E:List Rat)(i k:Nat): Int:=orI [(E.getD k 0-E.getD i 0).num.sign,Ey (i:Int) (k:Int)]
theorem C_Or(ad:Option Addr)(c:Nat)(l:List Int)(p:l.length≤1000): Xo prog 52 [.slice ad l.length c] [Row ad (List.map Hq l)] (.int .i64 (orI l)):=by
 refine fnI func52 I ntmps52 fun S w0 o=>au 0x92401f431125312531 ?_;intro a w h
 refine lpG h [3,6,7] pkL (fun Y Z (i:Nat) a w=>i≤l.length∧(∀j,j<i→l.getD j 0=0)∧St 18 S w0 ((8,nI i)::Y) [] Z a w) (fun i=>l.length-i) 0 (⟨Nat.zero_le _,fun j hj=>absurd hj oo,by exact(h).sub sA⟩) ?_;clear h
 rintro i a w ⟨m,b,h⟩
 refine gC h<|au 0x12c31 ?_;intro a w h
 refine Zb h I (fun e=>?_) (fun e=>?_)
 ·have f:i<l.length:=dT e
  obtain ⟨n,k,rfl⟩:=h.row_addr (ad:=ad) (M:=List.map Hq l) mm nF
  refine gC h<|au 0xf1f31917 ?_
  refine zD I mm (by rw[List.length_map];omega) isAgg3 sizeOf3 (Zr (enc:=Hq) (l:=l) 0 oo) (.inr I) ?_
  refine au 0x62f443125 ?_;clear h;intro a w h
  refine Zh h (fun d h=>?_) (fun d h=>?_)
  ·refine wpList_nil ?_
   refine cW ?_
   refine Qo h I ?_
   refine gC h<|au 0x625431 ?_
   refine rtK ?_
   rw[WF l i b f (by simpa using d)]
  ·refine wpList_nil ?_
   refine cW ?_
   refine Zj h I ?_
   refine gC h<|zk<|zr<|zp (.pN (i+1)<|.add I I)<|au 0x24 ?_;clear h;intro a w h
   exact⟨i+1,⟨oo,fun j hj=>by
    rcases Nat.lt_or_ge j i with h1|h1
    ·exact b j h1
    ·rw[show j=i by omega];simpa using d,tO h⟩,oo⟩
 ·have g:l.length=i:=dF e
  subst g
  refine gC h<|au 0x6254310e ?_
  refine rtK ?_
  rw[Rp l b]
theorem QL(ad:Option Addr)(c:Nat)(l:List Rat)(p:l.length≤1000000): Xo prog 104 [.slice ad l.length c,.func (.func 48) #[] #[]] [Row ad (cellsOf Qe l)] (.int .i64 (bQ l 0)):=by
 refine fnI func104 I ntmps104 fun S w0 o=>au 0x924b8f43112531 ?_;intro a w h
 refine lpG h [0,1,7] pkL (fun Y Z (i:Nat) a w=>i≤l.length∧(bQ l 0=bQ (l.drop i) i)∧St 19 S w0 ((8,nI i)::Y) [] Z a w) (fun i=>l.length-i) 0 (⟨Nat.zero_le _,rfl,by exact(h).sub sA⟩) ?_;clear h
 rintro i a w ⟨m,b,h⟩
 refine gC h<|au 0x12c31 ?_;intro a w h
 refine Zb h I (fun g=>?_) (fun g=>?_)
 ·have e:i<l.length:=dT g
  obtain ⟨n,j,rfl⟩:=h.row_addr (ad:=ad) (M:=cellsOf Qe l) mm (nE 5)
  refine gC h<|au 0x9bf4443125431917 ?_
  refine zD I mm (cells_lt (k:=5) dd (fun _=>rfl) l i oo) isAgg51 sizeOf51 (Zg (k:=5) (fun _=>rfl) ((fun _=>rfl)) l 0 i oo) (.inl I) ?_;clear h;intro a w h
  refine Zc<|C2 h (fs:=[]) (cs:=[]) I (vs:=[_]) I call48 (Uu<|l.getD i 0) dd ?_;clear h;intro a w h
  refine Zh h (fun d h=>?_) (fun d h=>?_)
  ·refine wpList_nil ?_
   refine cW ?_
   refine Qo h I ?_
   refine gC h<|au 0x625431 ?_
   refine rtK ?_
   rw[b,NM l i e,if_pos (of_decide_eq_true d)]
  ·refine wpList_nil ?_
   refine cW ?_
   refine Zj h I ?_
   refine gC h<|zk<|zr<|zp (.pN (i+1)<|.add I I)<|au 0x24 ?_;clear h;intro a w h
   exact⟨i+1,⟨oo,by rw[b,NM l i e,if_neg (of_decide_eq_false d)],tO h⟩,oo⟩
 ·have f:l.length=i:=dF g
  subst f
  refine gC h<|au 0x625310e ?_
  refine rtK ?_
  rw[b,List.drop_length];rfl
theorem UK(ad:Option Addr)(c:Nat)(l:List Rat)(a:l.length≤1000000): Xo prog 49 [.slice ad l.length c,.func (.func 48) #[] #[]] [Row ad (cellsOf Qe l)] (.bool (l.any (fun x:Rat=>decide (x.num.sign<0)))):=by
 refine fnI func49 I ntmps49 fun S w0 b=>au 0x44312531 ?_
 refine zw [_,_] I call104 (QL _ _ l a)<|au 0x62540f ?_
 refine rtK ?_
 rw[RR]
theorem nr(E:List Rat)(ad:Option Addr)(c i k b o:Nat)(m:i<E.length)(hk:k<E.length)(g:∀x∈E,Zn x≤50000000):
  Xo prog 51 [.int .i64 ((i:Nat):Int),.int .i64 ((k:Nat):Int),.pointer (some ⟨b,o,none⟩)] [Row (some ⟨b,o,none⟩) [.slice ad E.length c],Row ad (cellsOf Qe E)] (.int .i64 (cfN E i k)):=by
 have l:=g _ (getD_mem E (d:=0) m)
 have q:=g _ (getD_mem E (d:=0) hk)
 refine fn_intro func51 I ntmps51 nb ?_
 intro S w0 a n h
 obtain ⟨f,e,rfl⟩:=h.row_addr (ad:=ad) (M:=cellsOf Qe E) mm (nE 5)
 refine gC h<|au 0x12531 ?_
 refine yE [0,1,2,3,4,5,6,7,9,10,8,11,12,13,14] ?_;clear h
 refine Zf (b:=b) (off:=o) (j:=0) (M:=[.slice (some ⟨f,e,none⟩) E.length c]) (v:=.slice (some ⟨f,e,none⟩) E.length c) I kk I mm (Nat.succ_pos _) isAgg58 sizeOf58 I (.inr I) dd ?_
 refine au 0xd2f8 ?_
 refine Zf I kk I mm (cells_lt (k:=5) dd (fun _=>rfl) E k oo) isAgg51 sizeOf51 (Zg (k:=5) (fun _=>rfl) ((fun _=>rfl)) E 0 k oo) (.inl I) dd ?_
 refine Zf (b:=b) (off:=o) (j:=0) (M:=[.slice (some ⟨f,e,none⟩) E.length c]) (v:=.slice (some ⟨f,e,none⟩) E.length c) I kk I mm (Nat.succ_pos _) isAgg58 sizeOf58 I (.inr I) dd ?_
 refine au 0xd2f8 ?_
 refine Zf I kk I mm (cells_lt (k:=5) dd (fun _=>rfl) E i oo) isAgg51 sizeOf51 (Zg (k:=5) (fun _=>rfl) ((fun _=>rfl)) E 0 i oo) (.inl I) dd ?_
 refine au 0x88 ?_
 refine yv [_,_] I I call9 (Ht (E.getD k 0) (E.getD i 0) oo oo)<|yv [_,_] I I call53 (Ox (((i:Nat):Int)) (((k:Nat):Int))) ?_
 refine Gj n I kk [(_,_),(_,_)] I (Jy _ _) (List.map Hq [(E.getD k 0-E.getD i 0).num.sign,Ey (i:Int) (k:Int)]) I dd ?_;intro p
 refine yw [_] I I call52 (C_Or _ _ ([((E.getD k 0)-(E.getD i 0)).num.sign,Ey (((i:Nat):Int)) (((k:Nat):Int))]) nb)<|au 0x6a3e ?_
 refine rtK I
end
end Go.Proofs.YtejhdcohoggojaaGreatDoor
