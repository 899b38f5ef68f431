/- The shelf's sort at a list of structs whose comparison is by contract for the list's own elements. By an AI agent. -/
import Derived.Test.YtdadideknhmbbaaGreatDoorFxZ
import Derived.MapKept
import Derived.Test.YtdadideknhmbbaaGreatDoorFxDraw
import Derived.Shelf.SlSortCmp.NoneTotal
import Derived.Shelf.SlSortCmp.PdqK
import Derived.Recover
import Derived.RangeFuncNested
import Derived.RangeFuncCalls
import Derived.RangeFuncLeaves
import Derived.OwnWalkIn
import Derived.LoopN
import Derived.Maps.RangeRun
set_option linter.unusedVariables false
set_option linter.unusedSimpArgs false
set_option linter.unusedSectionVars false
namespace Go.Fx
open Go Go.RowKit
variable{f E T C:TypeId}{Z D:Array Value}{y x V:Operand}{g:Option (Nat×Bool)}{W r:Array MapEntry}{H:List Nat}{M:List (Nat×Obj)}{z o:Value}{B b X m d u:Nat}{Y:Oper}{N:List (Nat×Value)->List (Nat×Obj)->List Zs->Prop}{l:Array Oper}{h:TypeInfo}{G:Exit->Act->World->Prop}{p:MapEntry->Bool}{R A:List Value}{i:Array Field}{F:FuncId}{j:Option Addr}{J:Array (Nat×Operand)}(e q t O U a1:List Value)(s:Nat)
variable{ty:TypeId}{pos:String}{aft:Array Edge}
variable{P:Program}{n:Nat}{S:Nat->Prop}{w0 w:World}{L:List (Nat×Value)}{σ σ':List (Nat×Obj)}{Φ:List Zs}{a:Act}{K:Act->World->Prop}{Q:Exit->Act->World->Prop}
theorem Lv(h:St n S w0 L σ Φ a w)(hd:b<n)(k:∀e c w',St n S w0 ((b,.map (some e))::L) ((e,.map #[] 0)::σ) Φ c w'->K c w'): (Oper.mk (some b) (.makeMap T none) ty pos aft g).wp P a w K Q :=
 Qg (v:=.map (some w.heap.size)) (w':=w.alloc (.map #[] 0)) (by simp only[execOp,Instr.makeMap,bl];rfl) (k _ _ _ ((h.alloc _).put hd _))
theorem ZT(h:St n S w0 L σ Φ a w){ok:Bool}(hx:Fx.ev L x=some (.map (some d)))(e:Fx.ev L y=some z)(hm:(d,Obj.map r m)∈σ)(hr:∀w:World,w.heap[d]?=some (.map r m)->(Instr.lookup T (.map (some d)) z ok).run P w=.ok o w)(hd:b<n)(k:∀c,St n S w0 ((b,o)::L) σ Φ c w->K c w): (Oper.mk (some b) (.lookup T x y ok) ty pos aft g).wp P a w K Q :=
 Qg (v:=o) (w':=w) (by simp only[execOp,h.ev hx,h.ev e,bl,hr w (h.own _ hm)];rfl) (k _ (h.put hd o))
theorem OP(h:St n S w0 L σ Φ a w)(hx:Fx.ev L x=some (.map (some b)))(j:Fx.ev L y=some z)(hz:Fx.ev L V=some o)(hu:Upd σ b (.map r d) (.map W m) σ')(hr:∀w:World,w.heap[b]?=some (.map r d)->(Instr.mapUpdate T (.map (some b)) z o).run P w=.ok () { w with heap:=w.heap.setIfInBounds b (.map W m) })(k:∀e w',St n S w0 L σ' Φ e w'->K e w'): (Oper.mk none (.mapUpdate T x y V) ty pos aft g).wp P a w K Q:=by
 have f:=h.own _ hu.mem;obtain ⟨i,l⟩:=MapKept.heap_set (o':=.map W m) f;refine Al (w':={ w with heap:=w.heap.setIfInBounds b (.map W m) }) (by simp only[execOp,h.ev hx,h.ev j,h.ev hz,bl,hr w f];rfl) (k _ _ ?_);exact h.turn hu rfl rfl rfl (by simp) i l
def Ng(p:MapEntry->Bool): List MapEntry->Nat->Option (Nat×Value)
 | [],_=>none
 | e::es,i=>if p e then some (i,e.val) else Ng p es (i+1)
theorem EK{K:TypeId}{key:Value}{p:MapEntry->Bool}: ∀ {es:List MapEntry} {i:Nat} {w:World},(∀e∈es,∀w,(Op.equal K key e.key).run P w=.ok (p e) w) ->
  (Instr.findAsking K key es i).run P w=.ok (Ng p es i) w
 | [],i,w,_=>rfl
 | e::es,i,w,h=>by
  have he:=h e ae w;simp only[Instr.findAsking,bl,he,Result.andThen,Ng];cases p e
  ·simp only[oE,if_false];exact EK (λb a=>h b (aX _ a))
  simp only[if_true];rfl
theorem HN{key:Value}{cs:Array Value}{es:List MapEntry}{w:World}(a:∀w,(underlying T).run P w=.ok (.struct i) w)(h:∀e∈es,∀w,(Op.equal T key e.key).run P w=.ok (p e) w): (Instr.findKey T key es).run P w=.ok (Ng p es 0) w:=by
 unfold Instr.findKey;simp only[bl,a,Result.andThen];rcases es with _|⟨e,es⟩
 ·rfl
 have:Instr.findNow (.struct i) key (e::es) 0=none:=by simp[Instr.findNow,Instr.sameNow]
 rw[this];exact EK h
theorem Re{key:Value}(hT:∀w,(underlying T).run P w=.ok (.map E f) w)(c:∀w,(underlying E).run P w=.ok (.struct i) w)(a:∀e w,(Instr.checkKey e 10000 E key).run P w=.ok () w)(hz:∀w,(zeroValue f).run P w=.ok o w)(h:∀e∈r.toList,∀w,(Op.equal E key e.key).run P w=.ok (p e) w)(w:World)(g:w.heap[b]?=some (.map r d)):
  (Instr.lookup T (.map (some b)) key true).run P w=.ok (match Ng p r.toList 0 with|some (_,v) =>.tuple #[v,.bool true]|none =>.tuple #[o,.bool false]) w:=by
 unfold Instr.lookup;simp only[bl,hT,Result.andThen,ti g,ej,a,HN (cs:=#[]) c h];cases Ng p r.toList 0 with
 | none=>simp only[bl,hz,Result.andThen,ej,if_true]
 | some q=>simp only[bl,Result.andThen,ej,if_true]
theorem If{key val:Value}(hT:∀w,(underlying T).run P w=.ok (.map E f) w)(g:∀w,(underlying E).run P w=.ok (.struct i) w)(a:∀e w,(Instr.checkKey e 10000 E key).run P w=.ok () w)(h:∀e∈r.toList,∀w,(Op.equal E key e.key).run P w=.ok (p e) w)(j:Ng p r.toList 0=none)(w:World)(c:w.heap[b]?=some (.map r d)):
  (Instr.mapUpdate T (.map (some b)) key val).run P w=.ok () { w with heap:=w.heap.setIfInBounds b (.map (r.push { key,val,born:=d }) (d+1)) }:=by
 unfold Instr.mapUpdate;simp only[bl,hT,Result.andThen,ti c,a,HN (cs:=#[]) g h,j];exact tW _ c
theorem Yd(hT:∀w,(underlying b).run P w=.ok (.slice d) w)(hk:∀w,(Go.sizeOf d).run P w=.ok m w)(a:Option Addr)(n c:Nat)(h:n<=c)(w:World):
  (Instr.sliceAt b (.slice a n c) none (some (.int .i64 (n:Int))) (some (.int .i64 (n:Int)))).run P w=.ok (.slice a n n) w:=by
 have e:asIntOf (.int .i64 (n:Int))=(pure (.i64,(n:Int)):Sem _):=rfl;have hj:(0:Int)<=(n:Int)/\(n:Int)<=(c:Int):=by omega
 have f:(0:Int)<=(n:Int)/\(n:Int)<=(n:Int):=by omega
 have ha:(if n=0 then a else a.map (λx=>x.add 0))=a:=by
  split
  ·rfl
  cases a<;>simp[P1]
 unfold Instr.sliceAt;simp only[bl,hT,Result.andThen,Instr.slice,Instr.sliceBounds,Instr.sliceBound,e,ej,hj,f,and_self,if_true,hk,py,tH,wG,ha]
theorem Gw{ys:List Value}{ad2:Option Addr}{xs:List Value}(a6:St n S w0 L ((b,.cells xs.toArray T (0,0))::σ) Φ a w){k:Nat}(hx:Fx.ev L x=some (.slice (some ⟨b,0,none⟩) B B))(hy:Fx.ev L y=some (.slice ad2 u X))(hR:Row ad2 ys∈Φ)(l:xs.length=B*k)(hT:∀w,(underlying f).run P w=.ok (.slice T) w)(a7:∀w,(underlying C).run P w=.ok (.slice E) w)(hi:∀w,(typeInfo T).run P w=.ok h w)(hk:∀w,(Go.sizeOf T).run P w=.ok k w)(hz:∀w,(zeroValue T).run P w=.ok z w)(O:z.cells.size=k)(I:k≠0)(F:0<h.bytes)(r:ys.length=u*k)(N:ys.all flat=true)(o:h.bytes*(2*(B+u)+192)<=281474976710656)(hd:d<n)(kk:∀Y t R Z w',B+u<=t->St n S w0 ((d,.slice (some ⟨Y,0,none⟩) (B+u) t)::L) ((Y,.cells (xs++ys++R).toArray T (0,0))::σ) Φ Z w'->K Z w'):
  (Oper.mk (some d) (.call ⟨.builtin .append,#[x,y],#[f,C]⟩) ty pos aft g).wp P a w K Q:=by
 have v:∀w':World,w'.heap=w.heap->(Builtin.firstCells k u (.slice ad2 u X)).run P w'=.ok ys.toArray w':=by
  obtain ⟨m,_,_,M⟩:=a6.fact hR;exact Ds M r
 have j:∀v' i W,(Builtin.append_ #[f,C] ty #[.slice (some ⟨b,0,none⟩) B B,.slice ad2 u X]).run P i=.ok v' W ->
   (execOp a.eval (Oper.mk (some d) (.call ⟨.builtin .append,#[x,y],#[f,C]⟩) ty pos aft g)).run P i=.ok (.value v') W:=by
  intro v' i W h1;have e:(#[x,y]:Array Operand).map a.eval=#[.slice (some ⟨b,0,none⟩) B B,.slice ad2 u X]:=by simp[a6.ev hx,a6.ev hy]
  simp only[execOp,resolve,e,bl,ej,Result.andThen,invoke,Go.builtin,h1]
 have s:=a6.own _ ae;by_cases hc:B+u<=B
 ·have J:u=0:=by omega
  subst J;have V:ys=[]:=dn (by simpa using r);subst V;obtain ⟨w',hr,e1,e2,e3,e4,e5,e6⟩:=AS (P:=P) (w:=w) (c2:=X) (n:=B) (m:=0) hT a7 hk hc s (by simp[l]) r v N ty;refine Qg (j _ _ _ hr) ?_;have H:=a6.turn (σ':=(b,Obj.cells xs.toArray T (0,0))::σ) Upd.head e1 e2 e3 e4 (by simpa [Zp] using e5) e6;refine kk b B [] _ _ (by omega) (by simpa using H.put hd _)
 have hold:∀w':World,w'.heap=w.heap->(Builtin.firstCells k B (.slice (some ⟨b,0,none⟩) B B)).run P w'=.ok xs.toArray w':=by
  intro w' D;rw[<-D] at s;simp only[Builtin.firstCells];rw[Jz s (by simp[l])];congr 1;apply ph;simp[<-l]
 obtain ⟨t,w',G,a1,U,q,A,hr⟩:=AQ (P:=P) (w:=w) (c2:=X) (n:=B) (m:=u) (c:=B) (xs:=xs) (ys:=ys) (ad:=some ⟨b,0,none⟩) hT a7 hi hk hz O I F o (by omega) hold v ty;refine Qg (j _ _ _ hr) ?_;have H:St n S w0 L ((b,.cells xs.toArray T (0,0))::σ) Φ a w':=by
  refine⟨a6.size,a6.defers,a6.val,⟨by rw[U];exact a6.ext.os,by rw[q];exact a6.ext.tape,by rw[A];exact a6.ext.output,by rw[a1];exact a6.ext.size,λk hk=>by rw[a1];exact a6.ext.block k hk⟩,λp M=>by rw[a1];exact a6.own p M,a6.new,a6.nd,?_⟩;obtain ⟨m,h1,h2,h3,h4⟩:=a6.facts;exact⟨m,h1,h2,by rw[a1];exact h3,λR hR=>R.st m m w w' (h4 R hR) (λb _ _=>by rw[a1]) (by rw[a1];exact aZ _) (λb F =>.inl F)⟩
 exact kk w'.heap.size t (CL (t-(B+u)) z.cells.toList) _ _ G (((H.drop (tT _ _)).alloc _).put hd _)
theorem Gx(f:∀k,S k->k<w0.heap.size)(ho:l[b]?=some ⟨some d,.buildSlice T m J,ty,pos,aft,none⟩)(hq:Vo l b H=true)(vs:List (Nat×Value))(e:J.toList.map (λp=>(p.1,Fx.ev L p.2))=vs.map (λp=>(p.1,some p.2)))(hr:∀w,(Instr.buildSlice T m vs.toArray).run P w=.ok (.slice (some ⟨w.heap.size,0,none⟩) m B) (w.alloc (.cells D E (0,0))))(M:List Value)(g:D=M.toArray)(hd:d<n)(k:∀j,Head P l n S w0 G H ((d,.slice (some ⟨j,0,none⟩) m B)::L) σ (Row (some ⟨j,0,none⟩) M::Φ)): Head P l n S w0 G (b::H) L σ Φ :=
 .inr (.inl ⟨_,ho,hq,λa w h c=>Js ho (Qg (v:=.slice (some ⟨w.heap.size,0,none⟩) m B) (w':=w.alloc (.cells D E (0,0)))
  (by simp only[execOp,Cm c e,bl,hr];rfl)
  ⟨⟨λ_=>(Below.refl _ _).alloc (aZ _) _,λ_ _ _ _ he=>by cases he⟩,_,σ,_,rfl,((c.alloc _).shareAll f M g).put hd _,k _⟩)⟩)
theorem A4(f:∀k,S k->k<w0.heap.size)(ho:l[b]?=some ⟨some d,.buildSlice T m J,ty,pos,aft,none⟩)(vs:List (Nat×Value))(e:J.toList.map (λp=>(p.1,Fx.ev L p.2))=vs.map (λp=>(p.1,some p.2)))(hr:∀w,(Instr.buildSlice T m vs.toArray).run P w=.ok (.slice (some ⟨w.heap.size,0,none⟩) m B) (w.alloc (.cells D E (0,0))))(M:List Value)(g:D=M.toArray)(hd:d<n)(k:∀j,N ((d,.slice (some ⟨j,0,none⟩) m B)::L) σ (Row (some ⟨j,0,none⟩) M::Φ)): AA P l n S w0 b ⟨some d,.buildSlice T m J,ty,pos,aft,none⟩ N L σ Φ :=
 λa w h c=>Js ho (Qg (v:=.slice (some ⟨w.heap.size,0,none⟩) m B) (w':=w.alloc (.cells D E (0,0)))
  (by simp only[execOp,Cm c e,bl,hr];rfl)
  ⟨⟨λ_=>(Below.refl _ _).alloc (aZ _) _,λ_ _ _ _ he=>by cases he⟩,_,σ,_,rfl,((c.alloc _).shareAll f M g).put hd _,k _⟩)
theorem Hg{args:Array Operand}{a:Array TypeId}{vs:List Value}(ho:l[b]?=some ⟨some d,.call ⟨.value (.func F),args,a⟩,ty,pos,aft,none⟩)(ha:args.toList.map (Fx.ev L)=vs.map some)(hc:∀args w,(callFunc F args).run P w=.ok (.enter F args) w)(hf:Jk P F vs z)(hd:d<n)(k:N ((d,z)::L) σ Φ):
  AA P l n S w0 b ⟨some d,.call ⟨.value (.func F),args,a⟩,ty,pos,aft,none⟩ N L σ Φ :=
 λ_ _ _ c=>Js ho (NT c ha hc hf (λ_ hR=>nomatch hR) hd λu Ψ _ e hx g=>⟨⟨λ_=>hx,λ_ _ _ _ he=>by cases he⟩,u,σ,Ψ++Φ,rfl,g,by obtain ⟨rfl,rfl⟩:=e;exact k⟩)
theorem FX{d:Oper}(e:List Nat)(ho:l[b]?=some d)(c:l[s]?=some Y)(hq:S1 l b s H=true)(he:H.erase s=e)(h1:AA P l n S w0 b d (λL σ Φ=>Head P l n S w0 G H L σ Φ) L σ Φ)(g:AA P l n S w0 s Y (λL σ Φ=>Head P l n S w0 G (b::e) L σ Φ) L σ Φ): Head P l n S w0 G (b::H) L σ Φ:=by
 have hm:s∈H:=by
  have a:=hq;simp only[S1,cz,oV,tn] at a;exact a.1.1.1.2
 subst he;have hlen:H.length=(b::H.erase s).length:=by
  rw[dc,ve hm];have:=te hm;omega
 rw[P5];refine .inr (.inr (.inr (.inr (.inr ⟨s,d,Y,ho,c,hq,h1,?_⟩))));have f:AA P l n S w0 s Y (λL σ Φ=>eK P l n S w0 G (b::H.erase s).length (b::H.erase s) L σ Φ) L σ Φ:=g;rw[<-hlen] at f;exact f
theorem mX(h:Jk P F A z)(σ:List (Nat×Obj))(Φ:List Zs): GX P F A σ Φ (λu σ' Ψ=>u=z/\σ'=σ/\Ψ=Φ):=by
 intro S w0 w l hm;obtain ⟨X,h1,j,i,k⟩:=hm.facts;refine(h X w i (λ_ hR=>nomatch hR)).mono ?_;rintro e w' ⟨u,Ψ,rfl,⟨rfl,rfl⟩,c,_⟩;have g:∀p∈σ,p.1<w.heap.size:=λp d=>i _ (j p d);exact⟨_,σ,Φ,rfl,⟨rfl,rfl,rfl⟩,hm.ext.trans (c.mono hm.ext.size),λp d=>by rw[c.block _ (g p d)];exact hm.own p d,hm.new,hm.nd,X,h1,j,
  λb a=>gN (i b a) c.size,λR hR=>R.st X X w w' (k R hR) (λb a _=>c.block b a) c.size (λb a =>.inl a)⟩
theorem V1{o:List (Nat×Obj)}(b2:St n S w0 L (o++σ) Φ a w){v:Value}(hx:Fx.ev L x=some v)(hG:GrowO d T v m R o)(hy:Fx.ev L y=some (.slice j B u))(hR:Row j A∈Φ)(hT:∀w,(underlying f).run P w=.ok (.slice T) w)(s:∀w,(underlying C).run P w=.ok (.slice E) w)(hi:∀w,(typeInfo T).run P w=.ok h w)(hk:∀w,(Go.sizeOf T).run P w=.ok d w)(hz:∀w,(zeroValue T).run P w=.ok z w)(D:z.cells.size=d)(W:d≠0)(O:0<h.bytes)(b3:A.length=B*d)(a1:A.all flat=true)(t:h.bytes*(2*(m+B)+192)<=281474976710656)(hd:b<n)(kk:∀v' o' a' w',GrowO d T v' (m+B) (R++A) o'->St n S w0 ((b,v')::L) (o'++σ) Φ a' w'->K a' w'):
  (Oper.mk (some b) (.call ⟨.builtin .append,#[x,y],#[f,C]⟩) ty pos aft g).wp P a w K Q:=by
 have i:∀w':World,w'.heap=w.heap->(Builtin.firstCells d B (.slice j B u)).run P w'=.ok A.toArray w':=by
  obtain ⟨X,_,_,Z⟩:=b2.fact hR;exact Ds Z b3
 have l:∀v v' I w2,Fx.ev L x=some v->(Builtin.append_ #[f,C] ty #[v,.slice j B u]).run P I=.ok v' w2 ->
   (execOp a.eval (Oper.mk (some b) (.call ⟨.builtin .append,#[x,y],#[f,C]⟩) ty pos aft g)).run P I=.ok (.value v') w2:=by
  intro v v' I w2 hv h1;have e:(#[x,y]:Array Operand).map a.eval=#[v,.slice j B u]:=by simp[b2.ev hv,b2.ev hy]
  simp only[execOp,resolve,e,bl,ej,Result.andThen,invoke,Go.builtin,h1]
 have q:∀(ad:Option Addr) (c:Nat),Fx.ev L x=some (.slice ad m c)->c<m+B->R.length=m*d->(∀w':World,w'.heap=w.heap->(Builtin.firstCells d m (.slice ad m c)).run P w'=.ok R.toArray w') ->
   (Oper.mk (some b) (.call ⟨.builtin .append,#[x,y],#[f,C]⟩) ty pos aft g).wp P a w K Q:=by
  intro ad c hv hc hlen hold;obtain ⟨N,w',U,b1,a6,b4,F,hr⟩:=AQ (P:=P) (w:=w) (c2:=u) (n:=m) (m:=B) (c:=c) (xs:=R) (ys:=A) (ad:=ad) hT s hi hk hz D W O t hc hold i ty;refine Qg (l _ _ _ _ hv hr) ?_;have V:St n S w0 L (o++σ) Φ a w':=by
   refine⟨b2.size,b2.defers,b2.val,⟨by rw[a6];exact b2.ext.os,by rw[b4];exact b2.ext.tape,by rw[F];exact b2.ext.output,by rw[b1];exact b2.ext.size,λd hk=>by rw[b1];exact b2.ext.block d hk⟩,λp Z=>by rw[b1];exact b2.own p Z,b2.new,b2.nd,?_⟩;obtain ⟨X,h1,M,h3,h4⟩:=b2.facts;exact⟨X,h1,M,by rw[b1];exact h3,λa8 hR=>a8.st X X w w' (h4 a8 hR) (λb0 _ _=>by rw[b1]) (by rw[b1];exact aZ _) (λb0 O =>.inl O)⟩
  refine kk _ [(w'.heap.size,.cells (R++A++CL (N-(m+B)) z.cells.toList).toArray T (0,0))] _ _ ⟨by simp[hlen,b3,dk],.inr ⟨w'.heap.size,N,CL (N-(m+B)) z.cells.toList,rfl,?_,U,rfl⟩⟩ (((V.drop (uE _ _)).alloc _).put hd _);simp only[bd,hlen,b3,Gd,sm,D];rw[<-dk, <-dk];congr 1;omega
 obtain ⟨hlen,⟨rfl,Y,ho⟩|⟨b0,c,a8,rfl,r,a7,ho⟩⟩:=hG
 ·subst ho;subst Y;have G:R=[]:=dn (by simpa using hlen);by_cases M:B=0
  ·subst M;have H:A=[]:=dn (by simpa using b3);have hr:(Builtin.append_ #[f,C] ty #[.slice none 0 0,.slice j 0 u]).run P w=.ok (.slice none 0 0) w:=by
    have e:=i w rfl;unfold Builtin.append_;simp only[List.getElem?_toArray,List.getElem?_cons_zero,List.getElem?_cons_succ,bl,hT,s,hk,Result.andThen,ej,oE,if_false,Builtin.lenOf,sh,aZ,if_true,uw,e,H]
   refine Qg (l _ _ _ _ hx hr) ?_;exact kk _ [] _ _ ⟨by simp[G,H],.inl ⟨rfl,rfl,rfl⟩⟩ (b2.put hd _)
  refine q none 0 hx (by omega) hlen (λw' _=>?_);simp[Builtin.firstCells,G]
 subst ho;have k:=b2.own (b0,Obj.cells (R++a8).toArray T (0,0)) (by simp);by_cases hc:m+B<=c
 ·obtain ⟨w',hr,e1,e2,e3,e4,e5,e6⟩:=AS (P:=P) (w:=w) (c2:=u) (n:=m) (m:=B) hT s hk hc k (by rw[uq,r];exact aZ _) b3 i a1 ty;refine Qg (l _ _ _ _ hx hr) ?_;have hle:A.length<=a8.length:=by
   have h1:(m+B)*d<=c*d:=cc d hc;rw[dk] at h1;simp at r;omega
  rw[<-hlen,Kt A R a8 hle] at e5;have V:=b2.turn (σ':=(b0,Obj.cells (R++A++a8.drop A.length).toArray T (0,0))::σ) Upd.head e1 e2 e3 e4 e5 e6;refine kk _ [(b0,_)] _ _ ⟨by simp[hlen,b3,dk],.inr ⟨b0,c,a8.drop A.length,rfl,?_,hc,rfl⟩⟩ (V.put hd _);simp at r ⊢;omega
 refine q _ c hx (by omega) hlen (λw' J=>?_);rw[<-J] at k;simp only[Builtin.firstCells];rw[Jz k (by simp[hlen])];congr 1;apply ph;simp[hlen]
theorem GrowO.open(h:GrowO b T (.slice j d m) d A M)(hm:0<d):
  ∃g R,j=some ⟨g,0,none⟩/\M=[(g,Obj.cells (A++R).toArray T (0,0))]/\(A++R).length=m*b/\d<=m:=by
 obtain ⟨_,⟨_,a,_⟩|⟨g,f,R,h1,a,e,i⟩⟩:=h
 ·omega
 cases h1;exact⟨g,R,rfl,i,a,e⟩
theorem GrowO.close{k:Nat}{E:TypeId}{b c:Nat}{xs:List Value}(h1:xs.length=m*k)(a:(xs++R).length=c*k)(d:m<=c):
  GrowO k E (.slice (some ⟨b,0,none⟩) m c) m xs [(b,Obj.cells (xs++R).toArray E (0,0))]:=⟨h1,.inr ⟨b,c,R,rfl,a,d,rfl⟩⟩
theorem GK(h:CtrO P F A Φ (λv o => ∃ad c,v=.slice ad d c/\GrowO b T v d R o)):
  Ctr P F A Φ (λv Ψ => ∃ad c,v=.slice ad d c/\Ψ=[Row ad R]):=by
 intro X w g B;refine(h X w g B).mono ?_;rintro e w' ⟨v,r,he,⟨ad,c,rfl,s⟩,q,t,hd⟩;refine⟨_,[Row ad R],he,⟨ad,c,rfl,rfl⟩,q,λy hR=>?_⟩;rw[da] at hR;subst hR;obtain ⟨h1,⟨i,rfl,rfl⟩|⟨z,u,y,p,i,x,rfl⟩⟩:=s
 ·intro a;exact absurd (dn (by simpa using h1)) a
 cases p
 intro _;obtain ⟨l,n⟩:=t _ (List.mem_singleton.2 rfl);exact⟨z,0,_,_,_,rfl,λhx=>by have:=g z hx;simp only at l;omega,n,λj hj=>by simp[List.getElem?_append_left hj]⟩
theorem dK(h:CtrO P F A Φ (λv o => ∃ad c,v=.tuple #[.slice ad d c,z]/\GrowO b T (.slice ad d c) d R o)):
  Ctr P F A Φ (λv Ψ => ∃ad c,v=.tuple #[.slice ad d c,z]/\Ψ=[Row ad R]):=by
 intro X w g D;refine(h X w g D).mono ?_;rintro e w' ⟨v,r,he,⟨ad,c,rfl,s⟩,q,t,hd⟩;refine⟨_,[Row ad R],he,⟨ad,c,rfl,rfl⟩,q,λB hR=>?_⟩;rw[da] at hR;subst hR;obtain ⟨h1,⟨i,rfl,rfl⟩|⟨C,x,B,p,i,y,rfl⟩⟩:=s
 ·intro a;exact absurd (dn (by simpa using h1)) a
 cases p
 intro _;obtain ⟨l,n⟩:=t _ (List.mem_singleton.2 rfl);exact⟨C,0,_,_,_,rfl,λhx=>by have:=g C hx;simp only at l;omega,n,λj hj=>by simp[List.getElem?_append_left hj]⟩
theorem kX(hz:A.all flat=true)(m:Nat): (CL m A).all flat=true:=by
 rw[uD] at *
 intro v hv;unfold CL at hv;obtain ⟨l,hl,hv⟩:=List.mem_flatten.1 hv;rw[uc hl] at hv;exact hz v hv
theorem iM(h:St n S w0 L σ Φ a w)(hx:Fx.ev L x=some (.slice (some ⟨b,d,none⟩) m B))(hm:0<m)(hT:∀w,(underlying T).run P w=.ok (.slice E) w)(hz:∀w,(zeroValue E).run P w=.ok z w)(j:z.cells≠#[])(hle:d+m*z.cells.size<=D.size)(i:z.cells.toList.all flat=true)(C:Zp D d (CL m z.cells.toList)=Z)(hu:Upd σ b (.cells D f (0,0)) (.cells Z f (0,0)) σ')(k:∀l w',St n S w0 L σ' Φ l w'->K l w'): (Oper.mk none (.call ⟨.builtin .clear,#[x],#[T]⟩) ty pos aft g).wp P a w K Q:=by
 subst C;obtain ⟨w',hr,r,A,t,y,q,s⟩:=Xk (P:=P) b d (T:=f) (CL m z.cells.toList) 0 w D (h.own _ hu.mem) (by rw[Gd,sm];omega) (λu hu=>DO ((List.all_eq_true.1 (kX i m)) u hu));have p:=h.turn hu r A t y (by simpa using q) s;refine Qg (v:=.tuple #[]) (w':=w') ?_ (k _ _ p);have e:(#[x]:Array Operand).map a.eval=#[.slice (some ⟨b,d,none⟩) m B]:=by simp[h.ev hx]
 obtain ⟨o,rfl⟩:∃o,m=o+1:=⟨m-1,by omega⟩
 simp only[execOp,resolve,e,bl,ej,Result.andThen,invoke,Go.builtin,Builtin.clear_,List.getElem?_toArray,List.getElem?_cons_zero,hT,hz,Dm j,hr]
section
variable{α:Type}{enc:α->Value}{k:Nat}
theorem Tn(h:q.length=s): Zm true s (e++q++t).toArray e.length=some (.agg q.toArray):=by
 subst h;simp only[Zm,if_true];rw[if_pos (by simp)];congr 2;apply ph;simp[uH]
theorem Y7(h:O.length=s): Zm true s (e++(q++O++t)++U).toArray (e.length+q.length)=some (.agg O.toArray):=by
 have:=Tn (e++q) O (t++U) s h;rw[bd] at this;rw[<-this];congr 2;simp
theorem gK(h:O.length=U.length): Zp (e++(q++O++t)++a1).toArray (e.length+q.length) U=(e++(q++U++t)++a1).toArray:=by
 have:=Ag U (e++q) O (t++a1) h;rw[bd] at this;rw[show e++(q++O++t)++a1=e++q++O++(t++a1) by simp,this];congr 1;simp
theorem DY(l:List α)(j:Nat)(h:j<l.length): cellsOf enc l=cellsOf enc (l.take j)++(enc l[j]).cells.toList++cellsOf enc (l.drop (j+1)):=by
 conv=>lhs;rw[show l=l.take j++[l[j]]++l.drop (j+1) by simp,Qp,Qp,BA]
theorem DX(l:List α)(j:Nat)(h:j<l.length)(y:α): cellsOf enc (l.set j y)=cellsOf enc (l.take j)++(enc y).cells.toList++cellsOf enc (l.drop (j+1)):=by
 rw[show l.set j y=l.take j++[y]++l.drop (j+1) by rw[vK,if_pos h];simp,Qp,Qp,BA]
theorem Kw(hk:∀x,(enc x).cells.size=k)(l:List α)(j:Nat)(h:j<l.length): (cellsOf enc (l.take j)).length=j*k:=by
 rw[cellsOf_length hk];simp[sp (tI h)]
theorem Ge(hk:∀x,(enc x).cells.size=k)(hv:∀x,enc x=.agg (enc x).cells)(l:List α)(R:List Value)(d:α)(j:Nat)(h:j<l.length): Zm true k (cellsOf enc l++R).toArray (0+j*k)=some (enc (l.getD j d)):=by
 have a:l.getD j d=l[j]:=by simp[List.getD,h]
 rw[a,DY l j h,ca, <-Kw hk l j h];have:=Tn (cellsOf enc (l.take j)) (enc l[j]).cells.toList (cellsOf enc (l.drop (j+1))++R) k (by simp[hk]);rw[cv,this];conv=>rhs;rw[hv]
theorem VO(hk:∀x,(enc x).cells.size=k)(l:List α)(R:List Value)(j:Nat)(h:j<l.length)(y:α): Zp (cellsOf enc l++R).toArray (0+j*k) (enc y).cells.toList=(cellsOf enc (l.set j y)++R).toArray:=by
 rw[DY l j h,DX l j h,ca, <-Kw hk l j h,cv,cv _ _ R];exact Ag _ _ _ _ (by simp[hk])
theorem KB(hk:∀x,(enc x).cells.size=k)(l:List α)(R:List Value)(j:Nat)(h:j<l.length): 0+j*k+k<=(cellsOf enc l++R).toArray.size:=by
 have:=cells_le hk l j h;simp only[uq,bd] at *;omega
end
end Go.Fx
namespace Go.Fx
open Go Go.RowKit Go.Sort Go.Proofs
variable{t o:Nat}{e:World}{u:Array Value}{T:TypeId}{R:List Value}(g:World)(a h m:Nat)
theorem ci{w:World}(h:Below w.heap.size w e)(hd:w.drawn<=e.drawn): ∃q os,e=grow (w.drewN q) os:=by
 refine⟨e.drawn-w.drawn,e.heap.extract w.heap.size e.heap.size,?_⟩;have d:e.heap=w.heap++e.heap.extract w.heap.size e.heap.size:=by
  apply Array.ext_getElem?;intro k;rw[Array.getElem?_append];by_cases hk:k<w.heap.size
  ·rw[if_pos hk,h.block k hk]
  rw[if_neg hk,Array.getElem?_extract];by_cases b:k<e.heap.size
  ·rw[if_pos (by omega)];congr 1;omega
  rw[if_neg (by omega),Array.getElem?_eq_none (by omega)]
 have h1:=h.tape;have a:=h.os;have c:=h.output;cases w;cases e
 simp only[grow,World.drewN] at *
 subst h1;subst a;subst c;congr 1;omega
section
variable{P:Program}{α:Type}[Inhabited α]{enc:α->Value}{w:World}{blk:Nat}{S:Nat->Prop}{w0:World}{σ:List (Nat×Obj)}{Φ:List Zs}
theorem Ks(d:Array α)(os:Array Obj)(b:Nat)(f:b<g.heap.size)(c:b≠a): (sortWorld enc g a h m d os).heap[b]?=g.heap[b]?:=by
 unfold sortWorld;rw[heap_grow_old _ _ (by simpa using f)];unfold putRow mapBlock;simp only[heap_ahead];rw[Array.getElem?_modify,if_neg (λe=>c e.symm)]
theorem B5(b:Array α)(os:Array Obj): (sortWorld enc g a h m b os).heap.size=g.heap.size+os.size:=by
 unfold sortWorld;simp
theorem jk{i:α->α->Int}{size:Nat}{X:Nat->Prop}(hf:∀x y,Xi P t (enc x::enc y::u.toList) Φ (.int .i64 (i x y)))(l:∀b,X b->b<w.heap.size)(k:X blk)(d:∀R∈Φ,R.p X w): CmpLays1 P t u enc i blk o size w:=by
 intro m os f _ x y;have n:=B5 (enc:=enc) w blk o m f os;have hold:∀R∈Φ,R.p X (sortWorld enc w blk o m f os):=λR hR=>R.st X X w _ (d R hR)
  (λb c hx=>Ks w blk o m f os b c (λe=>hx (e ▸ k))) (by omega) (λb h =>.inl h)
 have h:=Calls.drawn (hf x y X _ (λb h=>by have:=l b h;omega) hold) (by rintro w' ⟨v,Ψ,he,_⟩;cases he);have j:(enc x::enc y::u.toList).toArray=#[enc x,enc y]++u:=by apply ph;simp
 rw[j] at h;refine h.mono ?_;rintro e w' ⟨⟨v,Ψ,he,⟨hv,_⟩,a,_⟩,hd⟩;exact⟨by rw[he,hv],ci a hd⟩
theorem FV{l:List α}(h:w.heap[blk]?=some (.cells (l.map enc++R).toArray T (0,0))): Holds enc w blk 0 l.toArray:=by
 intro j hj;have a:j<l.length:=by simpa using hj
 refine⟨?_,?_⟩
 ·rw[cell_of w blk (0+j) h];simp[a,List.getElem?_append,getElem!_pos,hj]
 exact IN w blk (0+j) h
theorem OE{l d:List α}(hl:d.length=l.length): putCells enc 0 d.toArray (l.map enc++R).toArray=(d.map enc++R).toArray:=by
 unfold putCells;apply Array.ext_getElem?;intro k;rw[Array.getElem?_mapIdx];simp only[List.getElem?_toArray,cX,true_and,ca,uq];by_cases hk:k<d.length
 ·have a:k<l.length:=by omega
  simp[hk,a,List.getElem?_append,getElem!_pos]
 have a:¬k<l.length:=by omega
 simp only[hk,if_false];rw[List.getElem?_append_right (by simp;omega),List.getElem?_append_right (by simp;omega)];simp[hl]
theorem Ml{l d:List α}(a:blk<w.heap.size)(h:w.heap[blk]?=some (.cells (l.map enc++R).toArray T (0,0)))(hl:d.length=l.length)(m:Nat)(os:Array Obj):
  (sortWorld enc w blk 0 m d.toArray os).heap[blk]?=some (.cells (d.map enc++R).toArray T (0,0)):=by
 unfold sortWorld;rw[heap_grow_old _ _ (by simpa using a)];unfold putRow mapBlock;simp only[heap_ahead];rw[Array.getElem?_modify,if_pos rfl,h];simp[onCells,OE hl]
theorem mem_sorted{l d:List α}(v:∀k,S k->k<w0.heap.size)(h:Mem S w0 ((blk,.cells (l.map enc++R).toArray T (0,0))::σ) Φ w)(hl:d.length=l.length)(m:Nat)(os:Array Obj):
  Mem S w0 ((blk,.cells (d.map enc++R).toArray T (0,0))::σ) Φ (sortWorld enc w blk 0 m d.toArray os):=by
 have c:=h.own (blk,_) (ae ..);have hblk:blk<w.heap.size:=by
  rcases el blk w.heap.size with g|g
  ·exact g
  simp[Array.getElem?_eq_none g] at c
 have f:=h.new (blk,_) (ae ..);have u:=B5 (enc:=enc) w blk 0 m d.toArray os;have lt:∀b o,w.heap[b]?=some o->b<w.heap.size:=λb o ho=>by
  rcases el b w.heap.size with g|g
  ·exact g
  simp[Array.getElem?_eq_none g] at ho
 refine⟨?_,?_,?_,?_,?_⟩
 ·have e:=h.ext;refine⟨e.os,e.tape,e.output,by have:=e.size;omega,λk hk=>?_⟩;rw[Ks w blk 0 m d.toArray os k (by have:=e.size;omega) (by simp only at f;omega)];exact e.block k hk
 ·intro p a;rcases List.mem_cons.1 a with rfl|a
  ·exact Ml hblk c hl m os
  have ho:=h.own p (aX _ a);have n:p.1≠blk:=λe=>(List.pairwise_cons.1 h.nd).1 p a e.symm;rw[Ks w blk 0 m d.toArray os p.1 (lt _ _ ho) n];exact ho
 ·intro p a;rcases List.mem_cons.1 a with rfl|a
  ·exact f
  exact h.new p (aX _ a)
 ·have:=h.nd;rw[uj] at this ⊢;exact this
 obtain ⟨X,h1,q,s,r⟩:=h.facts;have i:X blk:=q (blk,_) (ae ..);refine⟨X,h1,?_,λb t=>by have:=s b t;omega,λR hR=>R.st X X w _ (r R hR) (λb j hx=>Ks w blk 0 m d.toArray os b j (λe=>hx (e ▸ i))) (by omega) (λb h =>.inl h)⟩;intro p a;rcases List.mem_cons.1 a with rfl|a
 ·exact i
 exact q p (aX _ a)
theorem Ic{j:Go.Shelf.Ren}(o:SlLaysF.n6 P j)(h1:∀x,(enc x).oneCell'=true)(a:α->α->Int)(hO:SWO (ltOf a))(hT:∀x y,(ltOf a) x y=false->(ltOf a) y x=false->x=y){g:Nat}{cb:Array Value}(r:∀args w,(callFunc g args).run P w=.ok (.enter g args) w)(hf:∀x y,Xi P g (enc x::enc y::cb.toList) Φ (.int .i64 (a x y)))(b cap:Nat)(T:TypeId)(l:List α)(R:List Value)(s:l.length<4611686018427387904):
  GX P (j.f 6) [.slice (some ⟨b,0,none⟩) l.length cap,.func (.func g) #[] cb] ((b,.cells (l.map enc++R).toArray T (0,0))::σ) Φ
   (λv σ' Ψ=>v=.tuple #[]/\σ'=(b,.cells ((l.mergeSort λx y => !(ltOf a) y x).map enc++R).toArray T (0,0))::σ/\Ψ=Φ):=by
 intro S w0 w q hm;obtain ⟨X,_,m,k,p⟩:=hm.facts;have d:X b:=m (b,_) (ae ..);have c:=hm.own (b,_) (ae ..);have i:l.toArray.size=l.length:=by simp
 have h:=Any.slices_SortFunc_total o enc h1 a hO g cb b 0 cap l.toArray w r (jk hf k d p) (FV c) (k b d) (by simpa using s) hT;rw[i] at h;refine h.mono ?_;rintro e w' ⟨he,n,os,hw⟩;subst hw;exact⟨_,_,_,he,⟨rfl,rfl,rfl⟩,mem_sorted q hm (by simp) n os⟩
end
#print axioms Ic
end Go.Fx
namespace Go.Fx
open Go Go.RowKit Go.Sort Go.Proofs
variable{q g:Nat}{L:Array Value}
section
variable{P:Program}{α:Type}[Inhabited α]{enc:α->List Value}{k:Nat}{w:World}{blk:Nat}{S:Nat->Prop}{w0:World}{σ:List (Nat×Obj)}{Φ:List Zs}
theorem Hp(hk:∀x,(enc x).length=k)(a:0<k)(l:List α): (flatK enc k l.toArray).toList=l.flatMap enc:=by
 induction l with
 | nil=>simp[flatK]
 | cons x l c =>
  apply ur;intro t;rw[ub,List.getElem?_append];have hlen:(l.flatMap enc).length=l.length*k:=by rw[<-c];simp
  by_cases ht:t<(enc x).length
  ·rw[if_pos ht];have b:t/k=0:=vj (by rw[<-hk x];exact ht);have h1:t%k=t:=jg (by rw[<-hk x];exact ht);have e:t<(l.length+1)*k:=by rw[dk,tt];have:=hk x;omega
   simp only[flatK,vo,List.getElem?_map,Array.toList_range];rw[List.getElem?_range (by simpa using e),tC,b,h1,List.getElem?_eq_getElem ht];simp[ht]
  rw[if_neg ht];have hx:=hk x;rw[<-c];obtain ⟨s,hs⟩:∃s,t=s+k:=⟨t-k,by omega⟩
  have b:t/k=s/k+1:=by rw[hs,Nat.add_div_right _ a]
  have h1:t%k=s%k:=by rw[hs,Nat.add_mod_right]
  rw[show t-(enc x).length=s by omega];simp only[flatK,vo,List.getElem?_map,Array.toList_range,uq,dc];by_cases d:s<l.length*k
  ·rw[List.getElem?_range d,List.getElem?_range (by rw[dk,tt];omega),tC,tC,b,h1];have f:s/k<l.length:=(wP a).2 d;simp[f]
  rw[List.getElem?_eq_none (by rw[pr,dk,tt];omega),List.getElem?_eq_none (by rw[pr];omega)];rfl
theorem jj{i:α->α->Int}{size:Nat}{X:Nat->Prop}(hf:∀x y,Xi P g (.agg (enc x).toArray :: .agg (enc y).toArray::L.toList) Φ (.int .i64 (i x y)))(n:∀b,X b->b<w.heap.size)(l:X blk)(f:∀R∈Φ,R.p X w): CmpLays P g L enc k i blk q size w:=by
 intro m os a _ x y;show Calls P g _ (sortWorld id w blk q m (flatK enc k a) os) _;have o:=B5 (enc:=id) w blk q m (flatK enc k a) os;have hold:∀R∈Φ,R.p X (sortWorld id w blk q m (flatK enc k a) os):=λR hR=>R.st X X w _ (f R hR)
  (λb d hx=>Ks (enc:=id) w blk q m (flatK enc k a) os b d (λe=>hx (e ▸ l))) (by omega) (λb h =>.inl h)
 have h:=Calls.drawn (hf x y X _ (λb h=>by have:=n b h;omega) hold) (by rintro w' ⟨v,Ψ,he,_⟩;cases he);have j:(Value.agg (enc x).toArray :: .agg (enc y).toArray::L.toList).toArray=#[.agg (enc x).toArray,.agg (enc y).toArray]++L:=by apply ph;simp
 rw[j] at h;refine h.mono ?_;rintro e w' ⟨⟨v,Ψ,he,⟨hv,_⟩,c,_⟩,hd⟩;exact⟨by rw[he,hv],ci c hd⟩
theorem NM{r:Go.Shelf.Ren}(F:SlLaysF0.n14 P r)(C:∀w,(isAgg (r.t 24)).run P w=.ok true w)(E:∀w,(Go.sizeOf (r.t 24)).run P w=.ok k w)(hk:∀x,(enc x).length=k)(i:0<k)(h1:∀x,∀v∈enc x,v.oneCell'=true)(c:α->α->Int)(hO:SWO (ltOf c))(hT:∀x y,(ltOf c) x y=false->(ltOf c) y x=false->x=y){cb:Array Value}(H:∀args w,(callFunc g args).run P w=.ok (.enter g args) w)(hf:∀x y,Xi P g (.agg (enc x).toArray :: .agg (enc y).toArray::cb.toList) Φ (.int .i64 (c x y)))(b cap:Nat)(T:TypeId)(l:List α)(R:List Value)(a:Nat)(q:a<4611686018427387904)(I:l.length<4611686018427387904):
  GX P (r.f 14) [.slice (some ⟨b,0,none⟩) l.length cap,.int .i64 ((0:Nat):Int),.int .i64 ((l.length:Nat):Int),.int .i64 ((a:Nat):Int),.func (.func g) #[] cb] ((b,.cells (l.flatMap enc++R).toArray T (0,0))::σ) Φ
   (λv σ' Ψ=>v=.tuple #[]/\σ'=(b,.cells ((l.mergeSort λx y => !(ltOf c) y x).flatMap enc++R).toArray T (0,0))::σ/\Ψ=Φ):=by
 intro S w0 w K hm;obtain ⟨X,_,D,B,G⟩:=hm.facts;have o:X b:=D (b,_) (ae ..);have m:=hm.own (b,_) (ae ..);have j:l.toArray.size=l.length:=by simp
 have p:=Hp hk i l;have hH:HoldsK enc k w b 0 l.toArray:=by
  show Holds id w b 0 (flatK enc k l.toArray);have e:flatK enc k l.toArray=(l.flatMap enc).toArray:=by apply ph;rw[p]
  rw[e];exact FV (enc:=id) (T:=T) (R:=R) (by simpa using m)
 have h:=AnyQ.pdqsortCmpFunc_all F k C E enc c g cb hO b 0 cap l.toArray w H (jj hf B o G) ⟨hk,h1,hH,B b o⟩ (l.length+1) 0 l.length a l.toArray w
  (by omega) rfl (SWK.start hH) (cX _) (by simp) (by simpa using I) q (Or.inl rfl)
 rw[j] at h;refine h.mono ?_;rintro e w' ⟨he,n,os,hw⟩;have A:=pdq_sorts (ltOf c) hO l.toArray 0 l.length a true true (cX _) (by simp) (Or.inl rfl);have hu:=sorted_unique_holds hO hT l.toArray _ (by rw[j];exact A.1) (by rw[j];exact A.2);have u:pdq (ltOf c) l.toArray 0 l.length a true true=(l.mergeSort λx y => !(ltOf c) y x).toArray:=by
  apply ph;rw[hu]
 rw[u] at hw;subst hw;have z:Mem S w0 ((b,.cells ((l.flatMap enc).map id++R).toArray T (0,0))::σ) Φ w:=by rw[vZ];exact hm
 have s:(flatK enc k (l.mergeSort λx y => !(ltOf c) y x).toArray).toList.length=(l.flatMap enc).length:=by
  rw[<-p,sm,sm,size_flatK,size_flatK];simp
 have hr:=mem_sorted (enc:=id) (d:=(flatK enc k (l.mergeSort λx y => !(ltOf c) y x).toArray).toList) K z s n os;rw[vZ,Hp hk i] at hr;refine⟨_,_,_,he,⟨rfl,rfl,rfl⟩,?_⟩;have J:(l.mergeSort λx y => !(ltOf c) y x).flatMap enc=(flatK enc k (l.mergeSort λx y => !(ltOf c) y x).toArray).toList:=(Hp hk i _).symm;rw[show sortWorldK enc k w b 0 n (l.toArray.toList.mergeSort λx y => !(ltOf c) y x).toArray os=sortWorld id w b 0 n ((l.mergeSort λx y => !(ltOf c) y x).flatMap enc).toArray os from by
  rw[J];simp only[Array.toArray_toList];rfl]
 exact hr
end
#print axioms NM
end Go.Fx
namespace Go.Fx
open Go Go.RowKit
variable{T l e E D:TypeId}{y x:Operand}{o:List (Nat×Obj)}{p:String}{z v:Value}{c d m k h:Nat}{s:Array Edge}{j:Option Addr}{g:List Value}
variable{P:Program}{n:Nat}{S:Nat->Prop}{w0 w:World}{L:List (Nat×Value)}{σ σ':List (Nat×Obj)}{Φ:List Zs}{a:Act}{K:Act->World->Prop}{Q:Exit->Act->World->Prop}
theorem Rs{ys:List Value}{ad2:Option Addr}{xs:List Value}(b1:St n S w0 L (o++σ) Φ a w){g:Option (Nat×Bool)}{i:TypeInfo}(hx:Fx.ev L x=some v)(hG:GrowO k E v m xs o)(hy:Fx.ev L y=some (.slice ad2 c h))(hR:Row ad2 ys∈Φ)(hT:∀w,(underlying T).run P w=.ok (.slice E) w)(t:∀w,(underlying D).run P w=.ok (.slice l) w)(hi:∀w,(typeInfo E).run P w=.ok i w)(hk:∀w,(Go.sizeOf E).run P w=.ok k w)(hz:∀w,(zeroValue E).run P w=.ok z w)(F:z.cells.size=k)(Y:k≠0)(U:0<i.bytes)(j:ys.length=c*k)(a1:ys.all flat=true)(u:i.bytes*(2*(m+c)+192)<=281474976710656)(hd:d<n)(kk:∀v' o' w',GrowO k E v' (m+c) (xs++ys) o'->St n S w0 ((d,v')::L) (o'++σ) Φ (a.put (some d) v') w'->K (a.put (some d) v') w'):
  (Oper.mk (some d) (.call ⟨.builtin .append,#[x,y],#[T,D]⟩) e p s g).wp P a w K Q:=by
 have B:∀w':World,w'.heap=w.heap->(Builtin.firstCells k c (.slice ad2 c h)).run P w'=.ok ys.toArray w':=by
  obtain ⟨X,_,_,hp⟩:=b1.fact hR;exact Ds hp j
 have b2:∀v v' J w2,Fx.ev L x=some v->(Builtin.append_ #[T,D] e #[v,.slice ad2 c h]).run P J=.ok v' w2 ->
   (execOp a.eval (Oper.mk (some d) (.call ⟨.builtin .append,#[x,y],#[T,D]⟩) e p s g)).run P J=.ok (.value v') w2:=by
  intro v v' J w2 hv h1;have b0:(#[x,y]:Array Operand).map a.eval=#[v,.slice ad2 c h]:=by simp[b1.ev hv,b1.ev hy]
  simp only[execOp,resolve,b0,bl,ej,Result.andThen,invoke,Go.builtin,h1]
 have q:∀(ad:Option Addr) (a8:Nat),Fx.ev L x=some (.slice ad m a8)->a8<m+c->xs.length=m*k->(∀w':World,w'.heap=w.heap->(Builtin.firstCells k m (.slice ad m a8)).run P w'=.ok xs.toArray w') ->
   (Oper.mk (some d) (.call ⟨.builtin .append,#[x,y],#[T,D]⟩) e p s g).wp P a w K Q:=by
  intro ad a8 hv hc hlen hold;obtain ⟨O,w',V,f,a6,A,G,hr⟩:=AQ (P:=P) (w:=w) (c2:=h) (n:=m) (m:=c) (c:=a8) (xs:=xs) (ys:=ys) (ad:=ad) hT t hi hk hz F Y U u hc hold B e;refine Qg (b2 _ _ _ _ hv hr) ?_;have W:St n S w0 L (o++σ) Φ a w':=by
   refine⟨b1.size,b1.defers,b1.val,⟨by rw[a6];exact b1.ext.os,by rw[A];exact b1.ext.tape,by rw[G];exact b1.ext.output,by rw[f];exact b1.ext.size,λk hk=>by rw[f];exact b1.ext.block k hk⟩,λb3 hp=>by rw[f];exact b1.own b3 hp,b1.new,b1.nd,?_⟩;obtain ⟨X,h1,N,h3,h4⟩:=b1.facts;exact⟨X,h1,N,by rw[f];exact h3,λR hR=>R.st X X w w' (h4 R hR) (λb _ _=>by rw[f]) (by rw[f];exact aZ _) (λb U =>.inl U)⟩
  refine kk _ [(w'.heap.size,.cells (xs++ys++CL (O-(m+c)) z.cells.toList).toArray E (0,0))] _ ⟨by simp[hlen,j,dk],.inr ⟨w'.heap.size,O,CL (O-(m+c)) z.cells.toList,rfl,?_,V,rfl⟩⟩ (((W.drop (uE _ _)).alloc _).put hd _);simp only[bd,hlen,j,Gd,sm,F];rw[<-dk, <-dk];congr 1;omega
 obtain ⟨hlen,⟨rfl,Z,ho⟩|⟨b,a8,R,rfl,r,a7,ho⟩⟩:=hG
 ·subst ho;subst Z;have H:xs=[]:=dn (by simpa using hlen);by_cases N:c=0
  ·subst N;have I:ys=[]:=dn (by simpa using j);have hr:(Builtin.append_ #[T,D] e #[.slice none 0 0,.slice ad2 0 h]).run P w=.ok (.slice none 0 0) w:=by
    have b0:=B w rfl;unfold Builtin.append_;simp only[List.getElem?_toArray,List.getElem?_cons_zero,List.getElem?_cons_succ,bl,hT,t,hk,Result.andThen,ej,oE,if_false,Builtin.lenOf,sh,aZ,if_true,uw,b0,I]
   refine Qg (b2 _ _ _ _ hx hr) ?_;exact kk _ [] _ ⟨by simp[H,I],.inl ⟨rfl,rfl,rfl⟩⟩ (b1.put hd _)
  refine q none 0 hx (by omega) hlen (λw' _=>?_);simp[Builtin.firstCells,H]
 subst ho;have C:=b1.own (b,Obj.cells (xs++R).toArray E (0,0)) (by simp);by_cases hc:m+c<=a8
 ·obtain ⟨w',hr,e1,e2,e3,e4,e5,e6⟩:=AS (P:=P) (w:=w) (c2:=h) (n:=m) (m:=c) hT t hk hc C (by rw[uq,r];exact aZ _) j B a1 e;refine Qg (b2 _ _ _ _ hx hr) ?_;have hle:ys.length<=R.length:=by
   have h1:(m+c)*k<=a8*k:=cc k hc;rw[dk] at h1;simp at r;omega
  rw[<-hlen,Kt ys xs R hle] at e5;have W:=b1.turn (σ':=(b,Obj.cells (xs++ys++R.drop ys.length).toArray E (0,0))::σ) Upd.head e1 e2 e3 e4 e5 e6;refine kk _ [(b,_)] _ ⟨by simp[hlen,j,dk],.inr ⟨b,a8,R.drop ys.length,rfl,?_,hc,rfl⟩⟩ (W.put hd _);simp at r ⊢;omega
 refine q _ a8 hx (by omega) hlen (λw' M=>?_);rw[<-M] at C;simp only[Builtin.firstCells];rw[Jz C (by simp[hlen])];congr 1;apply ph;simp[hlen]
theorem Head.conv{ops:Array Oper}{Kf:Exit->Act->World->Prop}: ∀(H:List Nat) (L:List (Nat×Value)) (σ σ':List (Nat×Obj)) (Φ Φ':List Zs),
  (∀L a w c,St n S w0 L (c++σ) Φ a w->St n S w0 L (c++σ') Φ' a w)->Head P ops n S w0 Kf H L σ' Φ'->Head P ops n S w0 Kf H L σ Φ
 | [],L,σ,σ',Φ,Φ',hc,hH=>λa w h=>hH a w (hc L a w [] h)
 | i::H,L,σ,σ',Φ,Φ',hc,hH=>by
  rcases hH with ⟨o,d,v,ld,ho,hd,e,hq,k,hH⟩|⟨o,ho,g,hw⟩|⟨d,T,z,ty,pos,after,ho,l,hz,e,hH⟩|⟨o,d,v,b,p,ho,hd,e,hq,k,hH⟩|⟨m,hx⟩|⟨j,r,s,ho,f,hq,h1,q⟩
  ·exact .inl ⟨o,d,v,ld,ho,hd,e,hq,λa w c h=>k a w c (hc _ a w c h),Head.conv H _ σ σ' Φ Φ' hc hH⟩
  ·exact .inr (.inl ⟨o,ho,g,λa w c h=>hw a w c (hc _ a w c h)⟩)
  ·refine .inr (.inr (.inl ⟨d,T,z,ty,pos,after,ho,l,hz,e,λb=>Head.conv H _ ((b,.cells z.cells T (0,0))::σ) ((b,.cells z.cells T (0,0))::σ') Φ Φ' (λL a w c h=>?_) (hH b)⟩));have h1:=hc L a w (c++[(b,.cells z.cells T (0,0))]) (by simpa using h);simpa using h1
  ·exact .inr (.inr (.inr (.inl ⟨o,d,v,b,p,ho,hd,e,hq,λa w c h=>k a w c (hc _ a w c h),Head.conv H _ σ σ' Φ Φ' hc hH⟩)))
  ·exact .inr (.inr (.inr (.inr (.inl ⟨m,λa w h=>hx a w (hc _ a w [] h)⟩))))
  exact .inr (.inr (.inr (.inr (.inr ⟨j,r,s,ho,f,hq,λa w c h=>h1 a w c (hc _ a w c h),λa w c h=>q a w c (hc _ a w c h)⟩))))
theorem GrowO.cap(h:GrowO d E (.slice j k c) m g o): m<=c:=by
 obtain ⟨_,⟨e,l,_⟩|⟨b,f,R,h1,_,l,_⟩⟩:=h
 ·omega
 cases h1;exact l
section
variable{ops:Array Oper}{Kf:Exit->Act->World->Prop}{i f:Nat}{listed:Array Bool}
theorem Gc(h:St n S w0 L σ Φ a w){cs:Array Value}{fr:Nat×Nat}{agg:Bool}(ho:ops[i]?=some ⟨some d,.load E x,l,p,s,none⟩)(hx:Fx.ev L x=some (.pointer (some ⟨k,m,none⟩)))(hm:(k,Obj.cells cs T fr)∈σ)(hagg:∀w,(isAgg E).run P w=.ok agg w)(hs:∀w,(Go.sizeOf E).run P w=.ok c w)(hv:Zm agg c cs m=some z)(hd:d<n)(q:∀g,St n S w0 ((d,z)::L) σ Φ g w->wpX P ops Kf f (listed.setIfInBounds i true) g w): Cc P ops Kf f listed i a w :=
 Js ho (Qg (v:=z) (w':=w) (by
  simp only[execOp,h.ev hx,bl,Xz (h.own _ hm) hagg hs hv];rfl)
  ⟨λo e=>by rw[ho] at e;cases e;exact Left.same (ops:=ops) (o:=⟨some d,.load E x,l,p,s,none⟩) ho (notF ho (λ_ he=>by cases he)),q _ (h.put hd z)⟩)
end
end Go.Fx
namespace Go.Fx
open Go Go.RowKit
variable{j g:World}{m k:List (Nat×Obj)}{d l:List Zs}{e:Nat->Prop}
abbrev optL(d:Option Nat)(v:Value): List (Nat×Value):=match d with|some d'=>[(d',v)]|none=>[]
abbrev chE(v:Value): List PanicEntry:=[{ v:=v,recovered:=false }]
theorem Mem.drop(h:Mem e g k l j)(hs:List.Sublist m k): Mem e g m l j:=by
 obtain ⟨X,h1,b,d,c⟩:=h.facts;exact⟨h.ext,λp a=>h.own p (hs.subset a),λp a=>h.new p (hs.subset a),h.nd.sublist hs,X,h1,λp a=>b p (hs.subset a),d,c⟩
theorem Mem.factsSub(h:Mem e g k l j)(hs:∀R∈d,R∈l): Mem e g k d j:=by
 obtain ⟨X,h1,a,c,b⟩:=h.facts;exact⟨h.ext,h.own,h.new,h.nd,X,h1,a,c,λR hR=>b R (hs R hR)⟩
def CtrE(P:Program)(f:FuncId)(args:List Value)(σ:List (Nat×Obj))(Φ:List Zs)(post:Value->List (Nat×Obj)->List Zs->Prop)(xpost:Value->List (Nat×Obj)->Prop): Prop :=
 ∀(S:Nat->Prop) (w0 w:World),(∀k,S k->k<w0.heap.size)->Mem S w0 σ Φ w ->
  Calls P f args.toArray w λe w'=>(∃v σ' Ψ,e=.returned v/\post v σ' Ψ/\Mem S w0 σ' Ψ w') \/ ∃v σ',e=.panicked (chE v)/\xpost v σ'/\Mem S w0 σ' Φ w'
def PostE(S:Nat->Prop)(w0:World)(Φ:List Zs)(post:Value->List (Nat×Obj)->List Zs->Prop)(xpost:Value->List (Nat×Obj)->Prop): Ending->World->Prop :=
 λe w'=>(∃v σ' Ψ,e=.returned v/\post v σ' Ψ/\Mem S w0 σ' Ψ w') \/ ∃v σ',e=.panicked (chE v)/\xpost v σ'/\Mem S w0 σ' Φ w'
section
variable{P:Program}{n:Nat}{S:Nat->Prop}{w0:World}{L:List (Nat×Value)}{σ:List (Nat×Obj)}{Φ Φ0:List Zs}{a:Act}{w:World}{K:Act->World->Prop}{Q:Exit->Act->World->Prop}{post:Value->List (Nat×Obj)->List Zs->Prop}{xpost:Value->List (Nat×Obj)->Prop}
end
section
variable{P:Program}{ops:Array Oper}{Q Q':Exit->Act->World->Prop}
end
section
variable{P:Program}{n:Nat}{S:Nat->Prop}{w0:World}{L:List (Nat×Value)}{σ:List (Nat×Obj)}{Φ Φ0:List Zs}{a:Act}{w:World}{K:Act->World->Prop}{Q:Exit->Act->World->Prop}{post:Value->List (Nat×Obj)->List Zs->Prop}{xpost:Value->List (Nat×Obj)->Prop}{ops:Array Oper}{i f:Nat}{listed:Array Bool}
end
end Go.Fx
namespace Go.Fx
open Go Go.RowKit
def up(ds:List Deferred)(a:Act): Act:={ a with defers:=a.defers++ds }
section
variable{P:Program}{n:Nat}{S:Nat->Prop}{w0:World}{L:List (Nat×Value)}{σ:List (Nat×Obj)}{Φ Φ0:List Zs}{a:Act}{w:World}{K:Act->World->Prop}{Q:Exit->Act->World->Prop}{ds:List Deferred}{ops:Array Oper}
theorem Mem.perm{σ':List (Nat×Obj)}(h:Mem S w0 σ Φ w)(a:σ.Perm σ'): Mem S w0 σ' Φ w:=by
 obtain ⟨X,h1,b,d,c⟩:=h.facts;exact⟨h.ext,λp hm=>h.own p (a.mem_iff.2 hm),λp hm=>h.new p (a.mem_iff.2 hm),(a.pairwise_iff (λ{x y} hne=>hne.symm)).1 h.nd,X,h1,λp hm=>b p (a.mem_iff.2 hm),d,c⟩
section
variable{QS:Exit->Act->List Frame->World->Prop}{cs cs':List Frame}{rest:List Nat}{i:Nat}
end
end
end Go.Fx
namespace Go.Fx
open Go Go.RowKit
section
variable{P:Program}{n m l:Nat}{S:Nat->Prop}{w0 w:World}{L:List (Nat×Value)}{σ:List (Nat×Obj)}{Φ:List Zs}{a:Act}{K:Act->World->Prop}{Q:Exit->Act->World->Prop}{ops:Array Oper}
theorem Zk{c:Code}{k:Nat}(h:c.wp P (Exit.then (Code.rounds P c Q k) Q) a w): Code.rounds P c Q (k+1) a w:=h
theorem kn{f:FuncId}{args:List Value}{v:Value}(h:Jk P f args v)(Φ:List Zs): Xi P f args Φ v:=λX w h1 _=>h X w h1 (λ_ hR=>nomatch hR)
def noDefer(l:List Oper): Bool:=l.all (λo=>match o.op with | .defer _=>false|_=>true)
def YCtr(P:Program)(l:Nat)(x:Value)(σ:List (Nat×Obj))(Φ:List Zs)(σ':List (Nat×Obj)): Prop :=
 ∀(S:Nat->Prop) (w0 w:World),(∀k,S k->k<w0.heap.size)->Mem S w0 σ Φ w->YieldAt Fence.wide 0 P l #[x] w λe w'=>e=.returned (.bool true)/\Mem S w0 σ' Φ w'
def ItC(P:Program)(gf:Nat)(lb:List Value)(Φ:List Zs)(xs:List Value): Prop :=
 ∀(l:Nat) (B:Nat->List (Nat×Obj)),(∀k τ,k<xs.length->YCtr P l (xs.getD k undef) (B k++τ) Φ (B (k+1)++τ)) ->
  GX P gf (.func (.yield l) #[] #[]::lb) (B 0) Φ (λv σ' Ψ=>v=.tuple #[]/\σ'=B xs.length/\Ψ=Φ)
def RoundC(P:Program)(n:Nat)(p:Nat)(assign body:Code)(L:List (Nat×Value))(Φ:List Zs)(x:Value)(σ σ':List (Nat×Obj)): Prop :=
 ∀(S:Nat->Prop) (w0:World) (l:Nat) (r:Loop) (τ:List (Nat×Obj)) (a:Act) (w:World),(∀k,S k->k<w0.heap.size)->r.state=.ready->St n S w0 ((p,x)::L) (σ++((l,.loop r)::τ)) Φ a w ->
  assign.wpIn (Fence.wide.inRound l) 0 P (Exit.then (λa1 w1 => ∃σ1 L1,St n S w0 L1 (σ1++((l,.loop r)::τ)) Φ a1 w1 /\
   ∀w2,St n S w0 L1 (σ1++((l,.loop { r with state:=.busy })::τ)) Φ a1 w2 ->
    body.wpIn (Fence.wide.inRound l) 0 P (λe _ w3=>e=.normal/\Mem S w0 (σ'++((l,.loop { r with state:=.busy })::τ)) Φ w3) a1 w2) (λ_ _ _=>False)) a w
theorem Mem.st(h:Mem S w0 σ Φ w){a:Act}(hs:a.tmps.size=n)(hd:a.defers=[]): St n S w0 [] σ Φ a w :=
 ⟨hs,hd,λt v ht=>(by simp[look] at ht),h.ext,h.own,h.new,h.nd,h.facts⟩
end
end Go.Fx
namespace Go.Fx
open Go Go.RowKit
variable{s:Value}{J j C t:Nat}{D u:TypeId}{q:Obj}{F A:Operand}{B:Option (Nat×Bool)}{p:Array Nat}{c:Bool}{k:World}{l:List Zs}
variable{ty:TypeId}{pos:String}{aft:Array Edge}
section
variable{α β:Type}[DecidableEq α]
def esA(ek:α->Value)(ev:β->Value): List (α×β)->Nat->List MapEntry
 | [],_=>[]
 | p::m,i=>{ key:=ek p.1,val:=ev p.2,born:=i }::esA ek ev m (i+1)
def mB(ek:α->Value)(ev:β->Value)(m:List (α×β)): Obj:=.map (esA ek ev m 0).toArray m.length
def Zo:List (α×β)->α->Option β
 | [],_=>none
 | p::m,x=>if p.1=x then some p.2 else Zo m x
def CN:List (α×β)->α->Nat
 | [],_=>0
 | p::m,x=>if p.1=x then 0 else CN m x+1
def Va:List (α×β)->α->β->List (α×β)
 | [],x,y=>[(x,y)]
 | p::m,x,y=>if p.1=x then (x,y)::m else p::Va m x y
def Ia:List (α×β)->α->β->List (α×β)
 | [],x,y=>[(x,y)]
 | p::m,x,y=>if p.1=x then p::m else p::Ia m x y
def fndA(ev:β->Value): List (α×β)->α->Nat->Option (Nat×Value)
 | [],_,_=>none
 | p::m,x,j=>if p.1=x then some (j,ev p.2) else fndA ev m x (j+1)
variable{ek:α->Value}{ev:β->Value}
theorem dr:∀(m:List (α×β)) (i:Nat),(esA ek ev m i).length=m.length
 | [],_=>rfl
 | p::m,i=>by simp[esA,dr m]
theorem fndA_eq(ev:β->Value): ∀(m:List (α×β)) (x:α) (j:Nat),fndA ev m x j=(Zo m x).map λy=>(j+CN m x,ev y)
 | [],_,_=>rfl
 | p::m,x,j=>by
  rw[fndA,Zo,CN];by_cases h:p.1=x
  ·simp[h]
  simp only[h,if_false,fndA_eq ev m x (j+1)];congr 1;funext y;congr 1;omega
theorem ZC(m:List (α×β))(x:α)(y:β)(h:Zo m x=none): Va m x y=m++[(x,y)]:=by
 induction m with
 | nil=>rfl
 | cons p m a =>
  rw[Zo] at h;by_cases e:p.1=x
  ·simp[e] at h
  rw[if_neg e] at h;rw[Va,if_neg e,a h];rfl
theorem du(m:List (α×β))(x:α)(y:β)(h:Zo m x=none): Ia m x y=m++[(x,y)]:=by
 induction m with
 | nil=>rfl
 | cons p m a =>
  rw[Zo] at h;by_cases e:p.1=x
  ·simp[e] at h
  rw[if_neg e] at h;rw[Ia,if_neg e,a h];rfl
theorem dt(m:List (α×β))(x:α)(y z:β)(h:Zo m x=some z): Ia m x y=m:=by
 induction m with
 | nil=>cases h
 | cons p m a =>
  rw[Zo] at h;by_cases e:p.1=x
  ·rw[Ia,if_pos e]
  rw[if_neg e] at h;rw[Ia,if_neg e,a h]
theorem ZG(m:List (α×β))(x:α)(h:Zo m x=none): CN m x=m.length:=by
 induction m with
 | nil=>rfl
 | cons p m a =>
  rw[Zo] at h;by_cases e:p.1=x
  ·simp[e] at h
  rw[if_neg e] at h;rw[CN,if_neg e,a h];rfl
theorem Rk(m:List (α×β))(x:α){z:β}(h:Zo m x=some z): CN m x<m.length:=by
 induction m with
 | nil=>cases h
 | cons p m a =>
  rw[Zo] at h;by_cases e:p.1=x
  ·rw[CN,if_pos e];exact gM _
  rw[if_neg e] at h;rw[CN,if_neg e];exact vS (a h)
theorem LX:∀(m k:List (α×β)) (i:Nat),esA ek ev (m++k) i=esA ek ev m i++esA ek ev k (i+m.length)
 | [],_,_=>rfl
 | p::m,k,i=>by simp only[gH,esA,LX m k (i+1),dc];rw[show i+1+m.length=i+(m.length+1) by omega]
theorem JX:∀(m:List (α×β)) (i j:Nat) (h:j<m.length),(esA ek ev m i)[j]?=some { key:=ek (m[j]).1,val:=ev (m[j]).2,born:=i+j }
 | p::m,i,0,_=>rfl
 | p::m,i,j+1,h=>by
  simp only[esA,List.getElem?_cons_succ,uR];rw[JX m (i+1) j (wI h),show i+1+j=i+(j+1) by omega]
theorem ME(m:List (α×β))(x:α){z:β}(h:Zo m x=some z): m[CN m x]'(Rk m x h)=(x,z):=by
 induction m with
 | nil=>cases h
 | cons p m b =>
  by_cases e:p.1=x
  ·have a:CN (p::m) x=0:=by rw[CN,if_pos e]
   rw[Zo,if_pos e] at h;simp only[a,wL];rw[<-e, <-tB h]
  have a:CN (p::m) x=CN m x+1:=by rw[CN,if_neg e]
  rw[Zo,if_neg e] at h;simp only[a,uR];exact b h
theorem LE{g:MapEntry->MapEntry}: ∀(m:List (α×β)) (i:Nat) (x:α) (y z:β),(∀b c,g { key:=ek x,val:=b,born:=c }={ key:=ek x,val:=ev y,born:=c })->Zo m x=some z ->
  (esA ek ev m i).modify (CN m x) g=esA ek ev (Va m x y) i
 | [],_,_,_,_,_,h=>by cases h
 | p::m,i,x,y,z,a,h=>by
  rw[Zo] at h;by_cases e:p.1=x
  ·rw[CN,Va,if_pos e,if_pos e,esA,esA,vt, <-a _ _];subst e;rfl
  rw[if_neg e] at h;rw[CN,Va,if_neg e,if_neg e,esA,esA,uk,LE m (i+1) x y z a h]
theorem iE(m:List (α×β))(x:α)(y:β){z:β}(h:Zo m x=some z): (Va m x y).length=m.length:=by
 induction m with
 | nil=>cases h
 | cons p m a =>
  rw[Zo] at h;by_cases e:p.1=x
  ·rw[Va,if_pos e];rfl
  rw[if_neg e] at h;rw[Va,if_neg e,dc,a h];rfl
theorem getA_put(m:List (α×β))(x:α)(y:β)(u:α): Zo (Va m x y) u=if x=u then some y else Zo m u:=by
 induction m with
 | nil=>rfl
 | cons p m c =>
  by_cases e:p.1=x
  ·rw[Va,if_pos e,Zo,Zo];by_cases a:x=u
   ·simp[a]
   rw[if_neg a,if_neg a,if_neg (by rw[e];exact a)]
  rw[Va,if_neg e,Zo,Zo,c];by_cases a:p.1=u
  ·rw[if_pos a,if_pos a,if_neg (λb=>e (a.trans b.symm))]
  rw[if_neg a,if_neg a]
theorem kc(m:List (α×β))(x:α)(y z:β): (Ia m x z).modify (CN m x) (λp=>(p.1,y))=Va m x y:=by
 induction m with
 | nil=>rfl
 | cons p m a =>
  by_cases e:p.1=x
  ·rw[Ia,CN,Va,if_pos e,if_pos e,if_pos e,vt,e]
  rw[Ia,CN,Va,if_neg e,if_neg e,if_neg e,uk,a]
theorem iF(m:List (α×β))(x:α)(z:β): CN m x<(Ia m x z).length:=by
 induction m with
 | nil=>exact Nat.one_pos
 | cons p m a =>
  by_cases e:p.1=x
  ·rw[Ia,CN,if_pos e,if_pos e];exact gM _
  rw[Ia,CN,if_neg e,if_neg e];exact vS a
theorem Ew(m:List (α×β))(x:α)(z:β): (Zo (Ia m x z) x).getD z=(Zo m x).getD z:=by
 induction m with
 | nil=>simp[Ia,Zo]
 | cons p m a =>
  by_cases e:p.1=x
  ·rw[Ia,if_pos e]
  rw[Ia,if_neg e,Zo,Zo,if_neg e,if_neg e,a]
theorem ZD(m:List (α×β))(x:α)(y:β)(h:(m.map (·.1)).Nodup): ((Va m x y).map (·.1)).Nodup:=by
 have hm:∀(m:List (α×β)) u,u∈(Va m x y).map (·.1)->u=x\/u∈m.map (·.1):=by
  intro m;induction m with
  | nil=>intro u hu;simp[Va] at hu;exact .inl hu
  | cons p m a =>
   intro u hu;by_cases e:p.1=x
   ·rw[Va,if_pos e] at hu;simp only[eb,cZ] at hu ⊢;rcases hu with hu|hu
    ·exact .inl hu
    exact .inr (.inr hu)
   rw[Va,if_neg e] at hu;simp only[eb,cZ] at hu ⊢;rcases hu with hu|hu
   ·exact .inr (.inl hu)
   rcases a u hu with h1|h1
   ·exact .inl h1
   exact .inr (.inr h1)
 induction m with
 | nil=>simp[Va]
 | cons p m a =>
  rw[eb,uL] at h;by_cases e:p.1=x
  ·rw[Va,if_pos e,eb,uL];exact⟨e ▸ h.1,h.2⟩
  rw[Va,if_neg e,eb,uL];refine⟨λhu=>?_,a h.2⟩;rcases hm m _ hu with h1|h1
  ·exact e h1
  exact h.1 h1
theorem Ev{m:List (α×β)}{x:α}{y:β}(h:Zo m x=some y): (x,y)∈m:=by
 have:=ME m x h;rw[<-this];exact uC _
theorem JL{m:List (α×β)}(a:(m.map (·.1)).Nodup){p:α×β}(h:p∈m): Zo m p.1=some p.2:=by
 induction m with
 | nil=>cases h
 | cons q m b =>
  rw[eb,uL] at a;rcases List.mem_cons.1 h with rfl|h
  ·rw[Zo,if_pos rfl]
  rw[Zo,if_neg (λe=>a.1 (by rw[e];exact List.mem_map.2 ⟨p,h,rfl⟩)),b a.2 h]
structure MK(P:Program)(T K E:TypeId){α:Type}[DecidableEq α](ek:α->Value)(z:Value): Prop where
 hT:∀w,(underlying T).run P w=.ok (.map K E) w
 hz:∀w,(zeroValue E).run P w=.ok z w
 ck:∀e x w,(Instr.checkKey e 10000 K (ek x)).run P w=.ok () w
 sb:∀x,Instr.sameBits 10000 (ek x) (ek x)=true
 fk:∀ {β:Type} (ev:β->Value) (m:List (α×β)) (x:α) w,(Instr.findKey K (ek x) (esA ek ev m 0)).run P w=.ok (fndA ev m x 0) w
variable{P:Program}{T K E:TypeId}{z0:β}
theorem Ov(heq:∀x y w,(Op.equal K (ek x) (ek y)).run P w=.ok (decide (x=y)) w): ∀(m:List (α×β)) (x:α) (i j:Nat) (w:World),(Instr.findAsking K (ek x) (esA ek ev m i) j).run P w=.ok (fndA ev m x j) w
 | [],_,_,_,_=>rfl
 | p::m,x,i,j,w=>by
  simp only[esA,Instr.findAsking,bl,heq,Result.andThen,fndA];by_cases h:p.1=x
  ·rw[if_pos (decide_eq_true h.symm),if_pos h];rfl
  rw[if_neg (by simp;exact λe=>h e.symm),if_neg h];exact Ov heq m x (i+1) (j+1) w
theorem MK.ofAgg{D:TypeDesc}(hT:∀w,(underlying T).run P w=.ok (.map K E) w)(hz:∀w,(zeroValue E).run P w=.ok s w)(c:∀w,(underlying K).run P w=.ok D w)(d:∀a b,Instr.sameNow D a b=none)(ck:∀e x w,(Instr.checkKey e 10000 K (ek x)).run P w=.ok () w)(sb:∀x,Instr.sameBits 10000 (ek x) (ek x)=true)(heq:∀x y w,(Op.equal K (ek x) (ek y)).run P w=.ok (decide (x=y)) w): MK P T K E ek s where
 hT:=hT
 hz:=hz
 ck:=ck
 sb:=sb
 fk:=λev m x w=>by
  unfold Instr.findKey;simp only[bl,c,Result.andThen];rcases m with _|⟨p,m⟩
  ·rfl
  have:Instr.findNow D (ek x) (esA ek ev (p::m) 0) 0=none:=by rw[esA,Instr.findNow,d]
  rw[this];exact Ov heq (p::m) x 0 0 w
theorem JO{q:IntKind}{f:α->Int}(hf:∀x y,f x=f y->x=y)(ev:β->Value): ∀(m:List (α×β)) (x:α) (i j:Nat),
  Instr.findNow (.int q) (.int q (f x)) (esA (λx =>.int q (f x)) ev m i) j=some (fndA ev m x j)
 | [],_,_,_=>rfl
 | p::m,x,i,j=>by
  rw[esA,Instr.findNow,Instr.sameNow,if_pos rfl,fndA];by_cases h:p.1=x
  ·subst h;simp
  have:(f x == f p.1)=false:=by rw[beq_eq_false_iff_ne];exact λe=>h (hf _ _ e).symm
  rw[this,if_neg h];exact JO hf ev m x (i+1) (j+1)
theorem MK.ofInt{q:IntKind}{f:α->Int}(hT:∀w,(underlying T).run P w=.ok (.map K E) w)(hz:∀w,(zeroValue E).run P w=.ok s w)(a:∀w,(underlying K).run P w=.ok (.int q) w)(hf:∀x y,f x=f y->x=y): MK P T K E (λx =>.int q (f x)) s where
 hT:=hT
 hz:=hz
 ck:=λe x w=>by unfold Instr.checkKey;simp only[bl,a,Result.andThen];rfl
 sb:=λx=>by simp[Instr.sameBits]
 fk:=λev m x w=>by
  unfold Instr.findKey;simp only[bl,a,Result.andThen,JO hf ev m x 0 0];rfl
theorem MK.lookup(h:MK P T K E ek (ev z0))(m:List (α×β))(x:α)(c:Bool)(a:k.heap[j]?=some (mB ek ev m)):
  (Instr.lookup T (.map (some j)) (ek x) c).run P k=.ok (if c then .tuple #[ev ((Zo m x).getD z0),.bool (Zo m x).isSome] else ev ((Zo m x).getD z0)) k:=by
 unfold Instr.lookup;simp only[bl,h.hT,Result.andThen,ti a,ej,h.ck,h.fk,fndA_eq];cases Zo m x with
 | none=>simp only[wb,bl,h.hz,Result.andThen,ej,vR,Option.isSome_none]
 | some y=>simp only[tC,bl,Result.andThen,ej,et,Option.isSome_some]
theorem mG(m:List (α×β))(x:α)(y:β)(h:Zo m x=none): (Obj.map ((esA ek ev m 0).toArray.push { key:=ek x,val:=ev y,born:=m.length }) (m.length+1))=mB ek ev (m++[(x,y)]):=by
 unfold mB;rw[LX,bd,ca];congr 1;apply ph;simp[esA]
theorem MK.update(h:MK P T K E ek (ev z0))(m:List (α×β))(x:α)(y:β)(d:k.heap[j]?=some (mB ek ev m)):
  (Instr.mapUpdate T (.map (some j)) (ek x) (ev y)).run P k=.ok () { k with heap:=k.heap.setIfInBounds j (mB ek ev (Va m x y)) }:=by
 unfold Instr.mapUpdate;simp only[bl,h.hT,Result.andThen,ti d,h.ck,h.fk,fndA_eq,ca];cases a:Zo m x with
 | none =>
  simp only[wb];rw[tW _ d,ZC m x y a,mG m x y a]
 | some v =>
  have e:=ME m x a;have c:=Rk m x a;have he:=JX (ek:=ek) (ev:=ev) m 0 (CN m x) c;rw[e] at he;simp only[tC,List.getElem?_toArray,he,et,Instr.keyThatStays,h.sb,if_true,bl,ej,Result.andThen];rw[tW _ d];congr 3;unfold mB;rw[iE m x y a];congr 1;apply ph;rw[vD];exact LE m 0 x y v (λ_ _=>rfl) a
theorem OU{g:MapEntry->MapEntry}: ∀(m:List (α×β)) (i:Nat) (x:α) (z:β),(∀b c,g { key:=ek x,val:=b,born:=c }={ key:=ek x,val:=b,born:=c })->Zo m x=some z ->
  (esA ek ev m i).modify (CN m x) g=esA ek ev m i
 | [],_,_,_,_,h=>by cases h
 | p::m,i,x,z,a,h=>by
  rw[Zo] at h;by_cases e:p.1=x
  ·rw[CN,if_pos e,esA,vt];subst e;rw[a]
  rw[if_neg e] at h;rw[CN,if_neg e,esA,uk,OU m (i+1) x z a h]
theorem MK.entry(h:MK P T K E ek (ev z0))(m:List (α×β))(x:α)(d:k.heap[j]?=some (mB ek ev m)):
  (Instr.mapEntry T (.map (some j)) (ek x)).run P k=.ok (.tuple #[ev ((Zo m x).getD z0),.int .i64 ((CN m x:Nat):Int)]) { k with heap:=k.heap.setIfInBounds j (mB ek ev (Ia m x z0)) }:=by
 unfold Instr.mapEntry;simp only[bl,h.hT,Result.andThen,ti d,h.ck,h.fk,fndA_eq,ca];cases a:Zo m x with
 | none =>
  simp only[wb,bl,h.hz,Result.andThen];rw[tW _ d,du m x z0 a,mG m x z0 a,ZG m x a];simp only[ej,vR];rfl
 | some v =>
  have f:=ME m x a;have c:=Rk m x a;have he:=JX (ek:=ek) (ev:=ev) m 0 (CN m x) c;rw[f] at he;simp only[tC,List.getElem?_toArray,he,et,tC,Instr.keyThatStays,h.sb,if_true,bl,ej,Result.andThen];rw[tW _ d,dt m x z0 v a];have g:(esA ek ev m 0).toArray.modify (CN m x) (λe=>{ e with key:=ek x })=(esA ek ev m 0).toArray:=by
   apply ph;rw[vD];exact OU m 0 x v (λ_ _=>rfl) a
  rw[g];simp only[ej,ca];rfl
theorem findIdx_born:∀(m:List (α×β)) (i j:Nat),j<m.length->(esA ek ev m i).findIdx? (λe=>((e.born:Nat):Int) == ((i+j:Nat):Int))=some j
 | p::m,i,0,_=>by simp[esA,List.findIdx?_cons]
 | p::m,i,j+1,h=>by
  have hj:=findIdx_born m (i+1) j (wI h);rw[esA,List.findIdx?_cons];have a:(((i:Nat):Int) == ((i+(j+1):Nat):Int))=false:=by rw[beq_eq_false_iff_ne];omega
  simp only[a];rw[show i+(j+1)=i+1+j by omega,hj];rfl
theorem LD(y:β): ∀(m:List (α×β)) (i j:Nat),(esA ek ev m i).modify j (λe=>{ e with val:=ev y })=esA ek ev (m.modify j λp=>(p.1,y)) i
 | [],_,_=>by simp[esA]
 | p::m,i,0=>rfl
 | p::m,i,j+1=>by rw[esA,uk,uk,esA,LD y m (i+1) j]
theorem K4(m:List (α×β))(e:Nat)(y:β)(hj:e<m.length)(c:k.heap[j]?=some (mB ek ev m)):
  (Instr.entryStore T (.map (some j)) (.int .i64 ((e:Nat):Int)) (ev y)).run P k=.ok () { k with heap:=k.heap.setIfInBounds j (mB ek ev (m.modify e λp=>(p.1,y))) }:=by
 unfold Instr.entryStore;have hf:=findIdx_born (ek:=ek) (ev:=ev) m 0 e hj;rw[ca] at hf;have a:asIntOf (.int .i64 ((e:Nat):Int))=(pure (.i64,((e:Nat):Int)):Sem _):=rfl;simp only[bl,ej,Result.andThen,ti c,asInt,a,List.findIdx?_toArray,hf];rw[tW _ c];congr 3;unfold mB;rw[List.length_modify];congr 1;apply ph;rw[vD];exact LD y m 0 e
theorem YR(h:∀k,(underlying T).run P k=.ok (.map K E) k)(m:List (α×β))(a:k.heap[j]?=some (mB ek ev m)):
  (Instr.range T (.map (some j))).run P k=.ok (.pointer (some ⟨k.heap.size,0,none⟩)) (k.alloc (.mapIter (some j) m.length #[] m.length)):=by
 unfold Instr.range;simp only[bl,h,Result.andThen,ti a,ej];rfl
theorem Sk{e:MapEntry}: ∀ {m:List (α×β)} {i:Nat},e∈esA ek ev m i -> ∃j,∃h:j<m.length,e={ key:=ek (m[j]).1,val:=ev (m[j]).2,born:=i+j }
 | p::m,i,h=>by
  rcases List.mem_cons.1 h with rfl|h
  ·exact⟨0,gM _,rfl⟩
  obtain ⟨j,hj,e⟩:=Sk h;exact⟨j+1,vS hj,by rw[e];simp only[uR];congr 1;omega⟩
theorem Us:∀(m:List (α×β)) (i:Nat),(esA ek ev m i).map (·.born)=List.range' i m.length
 | [],_=>rfl
 | p::m,i=>by rw[esA,eb,Us m (i+1),dc,List.range'_succ]
variable{n:Nat}{S:Nat->Prop}{w0 w:World}{L:List (Nat×Value)}{σ σ2:List (Nat×Obj)}{Φ:List Zs}{a:Act}{G:Act->World->Prop}{Q:Exit->Act->World->Prop}
variable{b d r:Nat}{g:Option (Nat×Bool)}{x y v:Operand}{m:List (α×β)}
theorem Gu(h:St n S w0 L σ Φ a w){o:Obj}(hu:Upd σ b o q σ2): St n S w0 L σ2 Φ a { w with heap:=w.heap.setIfInBounds b q }:=by
 obtain ⟨d,c⟩:=MapKept.heap_set (o':=q) (h.own _ hu.mem);exact h.turn hu rfl rfl rfl (by simp) d c
theorem mz(h:St n S w0 L σ Φ a w)(M:MK P T K E ek (ev z0)){u:α}(hx:Fx.ev L x=some (.map (some b)))(f:Fx.ev L y=some (ek u))(hm:(b,mB ek ev m)∈σ)(hd:d<n)(k:∀e,St n S w0 ((d,if c then .tuple #[ev ((Zo m u).getD z0),.bool (Zo m u).isSome] else ev ((Zo m u).getD z0))::L) σ Φ e w->G e w): (Oper.mk (some d) (.lookup T x y c) ty pos aft g).wp P a w G Q :=
 Qg (by simp only[execOp,h.ev hx,h.ev f,bl,M.lookup m u c (h.own _ hm)];rfl) (k _ (h.put hd _))
theorem EM(ek:α->Value)(ev:β->Value)(h:St n S w0 L σ Φ a w)(hd:d<n)(k:∀b c w',St n S w0 ((d,.map (some b))::L) ((b,mB ek ev [])::σ) Φ c w'->G c w'): (Oper.mk (some d) (.makeMap T none) ty pos aft g).wp P a w G Q:=Lv h hd k
theorem ZU(h:St n S w0 L σ Φ a w)(M:MK P T K E ek (ev z0)){u:α}(hx:Fx.ev L x=some (.map (some b)))(e:Fx.ev L y=some (ek u))(hm:(b,mB ek ev m)∈σ)(hd:d<n)(k:∀c,St n S w0 ((d,.tuple #[ev ((Zo m u).getD z0),.bool (Zo m u).isSome])::L) σ Φ c w->G c w): (Oper.mk (some d) (.lookup T x y true) ty pos aft g).wp P a w G Q:=mz h M hx e hm hd k
theorem OQ(h:St n S w0 L σ Φ a w)(M:MK P T K E ek (ev z0)){u:α}(hx:Fx.ev L x=some (.map (some b)))(e:Fx.ev L y=some (ek u))(hm:(b,mB ek ev m)∈σ)(hd:d<n)(k:∀c,St n S w0 ((d,ev ((Zo m u).getD z0))::L) σ Φ c w->G c w): (Oper.mk (some d) (.lookup T x y false) ty pos aft g).wp P a w G Q:=mz h M hx e hm hd k
theorem HY(h:St n S w0 L σ Φ a w)(M:MK P T K E ek (ev z0)){u:α}{q:β}(hx:Fx.ev L x=some (.map (some b)))(d:Fx.ev L y=some (ek u))(hv:Fx.ev L v=some (ev q))(hu:Upd σ b (mB ek ev m) (mB ek ev (Va m u q)) σ2)(k:∀c w',St n S w0 L σ2 Φ c w'->G c w'): (Oper.mk none (.mapUpdate T x y v) ty pos aft g).wp P a w G Q :=
 Al (by simp only[execOp,h.ev hx,h.ev d,h.ev hv,bl,M.update m u q (h.own _ hu.mem)];rfl) (k _ _ (Gu h hu))
theorem pG(h:St n S w0 L σ Φ a w)(hT:∀w,(underlying T).run P w=.ok (.map K E) w)(hx:Fx.ev L x=some (.map (some b)))(hm:(b,mB ek ev m)∈σ)(hd:d<n)(k:∀f,St n S w0 ((d,.int .i64 ((m.length:Nat):Int))::L) σ Φ f w->G f w): (Oper.mk (some d) (.call ⟨.builtin .len,#[x],#[T]⟩) ty pos aft g).wp P a w G Q:=by
 refine Qg (v:=.int .i64 ((m.length:Nat):Int)) (w':=w) ?_ (k _ (h.put hd _));have i:=h.own _ hm;have e:(esA ek ev m 0).length=m.length:=dr m 0;have hr:∀(type:TypeId) (c:Array Bool),(Go.builtin .len #[T] type c #[.map (some b)]).run P w=.ok (.value (.int .i64 ((m.length:Nat):Int))) w:=by
  intro type c;simp[Go.builtin,Builtin.len_,hT,Result.andThen,bl,ti i,e,goInt]
 simp only[execOp,resolve,EN h (args:=#[x]) (vs:=[.map (some b)]) (by simp[hx]),bl];exact hr ty #[]
theorem ZR(h:St n S w0 L σ Φ a w)(hT:∀w,(underlying T).run P w=.ok (.map K E) w)(hx:Fx.ev L x=some (.map (some b)))(hm:(b,mB ek ev m)∈σ)(hd:d<n)(k:∀r c w',St n S w0 ((d,.pointer (some ⟨r,0,none⟩))::L) ((r,.mapIter (some b) m.length #[] m.length)::σ) Φ c w'->G c w'): (Oper.mk (some d) (.range T x) ty pos aft g).wp P a w G Q :=
 Qg (by simp only[execOp,h.ev hx,bl,YR hT m (h.own _ hm)];rfl) (k _ _ _ ((h.alloc _).put hd _))
theorem iK(h:St n S w0 L σ Φ a w){c:Obj->List (Nat×Obj)}(hx:Fx.ev L x=some (.pointer (some ⟨r,0,none⟩)))(hm:(b,mB ek ev m)∈σ)(hu:∀o',Upd σ r (.mapIter (some b) m.length p m.length) o' (c o'))(hd:d<n)(k0:(∀j,j<m.length->j∈p.toList) -> ∀f w',St n S w0 ((d,.tuple #[.bool false])::L) σ Φ f w'->G f w')(k1:∀j,∀hj:j<m.length,j∉p.toList -> ∀f w',St n S w0 ((d,.tuple #[.bool true,ek (m[j]).1,ev (m[j]).2])::L) (c (.mapIter (some b) m.length (p.push j) m.length)) Φ f w'->G f w'):
  (Oper.mk (some d) (.next x false) ty pos aft g).wp P a w G Q:=by
 have o:=h.own _ hm;have hr:=h.own _ (hu (.mapIter none 0 #[] 0)).mem;rcases run_next_at (P:=P) w ty r b m.length m.length p (esA ek ev m 0).toArray m.length hr o (λe he=>by
  obtain ⟨j,hj,rfl⟩:=Sk he;simp only;omega) (aZ _) with ⟨h0,hrun⟩|⟨e,he,w1,hw,hrun⟩
 ·refine Qg (by simp only[execOp,h.ev hx,bl,hrun];rfl) (k0 (λj hj=>?_) _ _ (h.put hd _));have he:=JX (ek:=ek) (ev:=ev) m 0 j hj;have k:=wS he;have h1:leftOf (esA ek ev m 0).toArray p=#[]:=vW h0;unfold leftOf at h1;rw[Array.filter_eq_empty_iff] at h1;have:=h1 _ (by simpa using k);simpa using this
 unfold leftOf at he;simp only[Array.toList_filter,vr] at he;obtain ⟨j,hj,rfl⟩:=Sk he.1;have i:j∉p.toList:=by have:=he.2;simpa using this
 have h1:St n S w0 L σ Φ a w1:=by rcases hw with rfl|rfl;exact h;exact h.drew
 refine Qg (by simp only[execOp,h.ev hx,bl,hrun];rfl) (k1 j hj i _ _ ?_);have l:=Gu h1 (hu (.mapIter (some b) m.length (p.push (0+j)) m.length));rw[ca] at l ⊢;exact l.put hd _
theorem ZV(h:St n S w0 L σ Φ a w){seen:Array Nat}(hx:Fx.ev L x=some (.pointer (some ⟨r,0,none⟩)))(hj:j<m.length)(hm:(b,mB ek ev m)∈σ)(hr:(r,Obj.mapIter (some b) m.length (seen.push j) m.length)∈σ)(hd:d<n)(k:∀e,St n S w0 ((d,.tuple #[ek (m[j]).1,ev (m[j]).2])::L) σ Φ e w->G e w): (Oper.mk (some d) (.entry x) ty pos aft g).wp P a w G Q:=by
 have he:=JX (ek:=ek) (ev:=ev) m 0 j hj;rw[ca] at he;have c:=run_entry_at (P:=P) w r b m.length seen (esA ek ev m 0).toArray m.length { key:=ek (m[j]).1,val:=ev (m[j]).2,born:=j } (h.own _ hr) (h.own _ hm) (wS he) (by
  show((esA ek ev m 0).map (·.born)).Nodup;rw[Us];exact List.nodup_range')
 exact Qg (by simp only[execOp,h.ev hx,bl,c];rfl) (k _ (h.put hd _))
end
section
variable{P:Program}{n:Nat}{S:Nat->Prop}{w0 w:World}{L:List (Nat×Value)}{σ:List (Nat×Obj)}{Φ:List Zs}{a:Act}{G:Act->World->Prop}{Q:Exit->Act->World->Prop}
theorem iL(h:St n S w0 L σ Φ a w){i:TypeInfo}(hx:Fx.ev L A=some (.int .i64 ((0:Nat):Int)))(m:Fx.ev L F=some (.int .i64 C))(hT:∀w,(underlying u).run P w=.ok (.slice D) w)(q:∀w,(typeInfo D).run P w=.ok i w)(hk:∀w,(Go.sizeOf D).run P w=.ok t w)(hz:∀w,(zeroValue D).run P w=.ok s w)(c:s.cells.size=t)(f:t≠0)(l:i.bytes*C<=281474976710656)(p:C<=9223372036854775807)(hd:j<n)(kk:∀v o e w',GrowO t D v 0 [] o->St n S w0 ((j,v)::L) (o++σ) Φ e w'->G e w'): (Oper.mk (some j) (.makeSlice u A F) ty pos aft B).wp P a w G Q :=
 Qz h hx m hT q hk hz c f (cX _) l p hd λb e w' J=>kk (.slice (some ⟨b,0,none⟩) 0 C) [(b,.cells (CL C s.cells.toList).toArray D (0,0))] e w'
  ⟨by simp,.inr ⟨b,C,CL C s.cells.toList,rfl,by rw[ec,Gd,sm,c],cX _,rfl⟩⟩ J
end
section
variable{P:Program}{n:Nat}{S:Nat->Prop}{w0 w:World}{L:List (Nat×Value)}{σ:List (Nat×Obj)}{Φ:List Zs}{a:Act}{ops:Array Oper}{Kf:Exit->Act->World->Prop}{f:Nat}{listed:Array Bool}
theorem Dn(H:List Nat)(b:(Region.noSelect ops && NE ops && pI ops && decide (H.Nodup) && H.all (λi=>decide (i<ops.size)) && H.all (λj => !isF ops j))=true)(hl:listed=A5 ops H)(hf:f=H.length)(h:St n S w0 L σ Φ a w)(hH:Head P ops n S w0 Kf H L σ Φ): wpX P ops Kf f listed a w:=by
 simp only[cz,decide_eq_true_eq] at b;obtain ⟨⟨⟨⟨⟨h1,e⟩,l⟩,g⟩,k⟩,d⟩:=b;subst hl;refine LS h1 e l (f+H.length) f H L σ Φ [] _ a w (aZ _) hH h (by simp) (by simp) (by simp) g (λi c=>by simpa using List.all_eq_true.1 k i c) (F2 d) (by simp[A5]) (λi c=>?_) (by simp[hf]);simp[A5,c]
theorem Left.op{o:Oper}(ho:ops[j]?=some o)(b:∀T,o.op ≠ .alloc T)(hs:∀T x y,o.op ≠ .store T x y)(he:early o=false): Left ops o a w (a.put o.dst s) k :=
 ⟨(λh=>by rw[he] at h;cases h),λT t y p e=>absurd e (hs _ _ _),λ_ ht=>BP ho ht,λt hd hf=>noF ho b hd hf⟩
section
variable{i d b:Nat}{T K E:TypeId}{x y v:Operand}{α β:Type}[DecidableEq α]{ek:α->Value}{ev:β->Value}{m:List (α×β)}{z0:β}{σ2:List (Nat×Obj)}
theorem Mh(h:St n S w0 L σ Φ a w)(ho:ops[i]?=some ⟨some d,.lookup T x y false,ty,pos,aft,none⟩)(M:MK P T K E ek (ev z0)){u:α}(hx:Fx.ev L x=some (.map (some b)))(j:Fx.ev L y=some (ek u))(hm:(b,mB ek ev m)∈σ)(hd:d<n)(k:∀g,St n S w0 ((d,ev ((Zo m u).getD z0))::L) σ Φ g w->wpX P ops Kf f (listed.setIfInBounds i true) g w): Cc P ops Kf f listed i a w :=
 Js ho (Qg (w':=w) (by simp only[execOp,h.ev hx,h.ev j,bl,M.lookup m u false (h.own _ hm)];rfl) ⟨λo c=>by rw[ho] at c;cases c;exact Left.same (o:=⟨some d,.lookup T x y false,ty,pos,aft,none⟩) ho (notF ho (λ_ e=>by cases e)),k _ (h.put hd _)⟩)
theorem K3(h:St n S w0 L σ Φ a w)(ho:ops[i]?=some ⟨some d,.mapEntry T x y,ty,pos,aft,none⟩)(M:MK P T K E ek (ev z0)){u:α}(hx:Fx.ev L x=some (.map (some b)))(j:Fx.ev L y=some (ek u))(hu:Upd σ b (mB ek ev m) (mB ek ev (Ia m u z0)) σ2)(hd:d<n)(k:∀g w',St n S w0 ((d,.tuple #[ev ((Zo m u).getD z0),.int .i64 ((CN m u:Nat):Int)])::L) σ2 Φ g w'->wpX P ops Kf f (listed.setIfInBounds i true) g w'):
  Cc P ops Kf f listed i a w :=
 Js ho (Qg (by simp only[execOp,h.ev hx,h.ev j,bl,M.entry m u (h.own _ hu.mem)];rfl) ⟨λo c=>by rw[ho] at c;cases c;exact Left.op ho (λ_ e=>by cases e) (λ_ _ _ e=>by cases e) rfl,k _ _ ((Gu h hu).put hd _)⟩)
theorem gh(h:St n S w0 L σ Φ a w)(ho:ops[i]?=some ⟨none,.entryStore T x y v,ty,pos,aft,none⟩){u:α}{z q:β}(hx:Fx.ev L x=some (.map (some b)))(g:Fx.ev L y=some (.int .i64 ((CN m u:Nat):Int)))(hv:Fx.ev L v=some (ev q))(hu:Upd σ b (mB ek ev (Ia m u z)) (mB ek ev (Va m u q)) σ2)(k:∀d w',St n S w0 L σ2 Φ d w'->wpX P ops Kf f (listed.setIfInBounds i true) d w'): Cc P ops Kf f listed i a w:=by
 have hr:=K4 (P:=P) (T:=T) (ek:=ek) (ev:=ev) (Ia m u z) (CN m u) q (iF m u z) (h.own _ hu.mem);rw[kc] at hr;exact Js ho (Al (by simp only[execOp,h.ev hx,h.ev g,h.ev hv,bl,hr];rfl) ⟨λo c=>by rw[ho] at c;cases c;exact Left.op ho (λ_ e=>by cases e) (λ_ _ _ e=>by cases e) rfl,k _ _ (Gu h hu)⟩)
end
theorem GL{H:List Nat}{L':List (Nat×Value)}{σ':List (Nat×Obj)}{Φ':List Zs}(k1:∀a w,St n S w0 L' σ' Φ' a w->Kf .normal a w)(k2:(∀a w,St n S w0 L' σ' Φ' a w->Kf .normal a w)->Head P ops n S w0 Kf H L σ Φ): Head P ops n S w0 Kf H L σ Φ:=k2 k1
end
section
variable{n:Nat}{S:Nat->Prop}{w0 w:World}{L:List (Nat×Value)}{σ:List (Nat×Obj)}{Φ:List Zs}{a:Act}
def Vr(l:List Zs): Zs:=⟨λX w => ∀R∈l,R.p X w,λX X' w w' h h1 h2 h3 R hR=>R.st X X' w w' (h R hR) h1 h2 h3⟩
theorem St.pickR(h:St n S w0 L σ Φ a w){R:Zs}(hl:Vr l∈Φ)(hR:R∈l): St n S w0 L σ (R::Φ) a w :=
 { h with
  facts:=by
   obtain ⟨X,h1,d,e,c⟩:=h.facts;refine⟨X,h1,d,e,λf b=>?_⟩;rcases List.mem_cons.1 b with rfl|b
   ·exact c _ hl _ hR
   exact c _ b }
theorem St.gatherR(h:St n S w0 L σ Φ a w)(hl:∀R∈l,R∈Φ): St n S w0 L σ (Vr l::Φ) a w :=
 { h with
  facts:=by
   obtain ⟨X,h1,d,e,c⟩:=h.facts;refine⟨X,h1,d,e,λf b=>?_⟩;rcases List.mem_cons.1 b with rfl|b
   ·exact λR hR=>c _ (hl R hR)
   exact c _ b }
theorem St.joinR(h:St n S w0 L σ Φ a w){k:List Zs}(hl:Vr l∈Φ)(hk:Vr k∈Φ): St n S w0 L σ (Vr (l++k)::Φ) a w :=
 { h with
  facts:=by
   obtain ⟨X,h1,d,e,c⟩:=h.facts;refine⟨X,h1,d,e,λf b=>?_⟩;rcases List.mem_cons.1 b with rfl|b
   ·exact λR hR=>(List.mem_append.1 hR).elim (c _ hl R) (c _ hk R)
   exact c _ b }
end
section
variable{P:Program}{ops:Array Oper}{n:Nat}{S:Nat->Prop}{w0:World}{Kf:Exit->Act->World->Prop}{H:List Nat}{L:List (Nat×Value)}{σ:List (Nat×Obj)}{Φ:List Zs}
theorem Pj{f:FuncId}{fs cs:List Value}{args:Array Operand}{g:Array TypeId}{pos:String}{h:Array Edge}{vs:List Value}(ho:ops[j]?=some ⟨some t,.call ⟨.value A,args,g⟩,u,pos,h,some (C,c)⟩)(hj:(ops[C]?).bind (·.dst)=some J)(ht:look L J=some (.bool c))(hq:Vo ops j H=true)(hx:Fx.ev L A=some (.func (.func f) fs.toArray cs.toArray))(ha:args.toList.map (Fx.ev L)=vs.map some)(hc:∀args w,(callFunc f args).run P w=.ok (.enter f args) w)(hf:Xi P f (fs++vs++cs) l s)(z:∀R∈l,R∈Φ)(hd:t<n)(k:Head P ops n S w0 Kf H ((t,s)::L) σ Φ): Head P ops n S w0 Kf (j::H) L σ Φ :=
 .inr (.inl ⟨_,ho,hq,λa w r b=>Lf b ho hj ht (by
  obtain ⟨X,h1,p,m,B⟩:=b.facts;simp only[Oper.wp,Fw b hx ha hc,Oper.upon];refine(hf X w m (λR hR=>B R (z R hR))).mono ?_;rintro e w' ⟨v',Ψ,rfl,⟨rfl,rfl⟩,o,q⟩;exact⟨⟨λ_=>o,λ_ _ _ _ he=>by cases he⟩,v',σ,[]++Φ,rfl,(b.called o h1 p m B q).put hd v',k⟩)⟩)
end
section
variable{P:Program}{ops:Array Oper}{n:Nat}{S:Nat->Prop}{w0 w:World}{Kf:Exit->Act->World->Prop}{H:List Nat}{L:List (Nat×Value)}{σ σ2:List (Nat×Obj)}{Φ:List Zs}{a:Act}{f:Nat}{listed:Array Bool}
variable{i d b:Nat}{T K E:TypeId}{x y v:Operand}{α β:Type}[DecidableEq α]{ek:α->Value}{ev:β->Value}{m:List (α×β)}{z0:β}
theorem mI{dd:Option Tmp}(h:St n S w0 L σ Φ a w)(M:MK P T K E ek (ev z0)){u:α}(hx:Fx.ev L x=some (.map (some b)))(c:Fx.ev L y=some (ek u))(hm:(b,mB ek ev m)∈σ)(hw:Ext w k):
  (execOp a.eval (Oper.mk dd (.lookup T x y false) ty pos aft B)).run P k=.ok (.value (ev ((Zo m u).getD z0))) k:=by
 have d:k.heap[b]?=some (mB ek ev m):=by rw[hw.block _ (h.own_lt hm)];exact h.own _ hm
 simp only[execOp,h.ev hx,h.ev c,bl,M.lookup m u false d];rfl
theorem Es(ho:ops[i]?=some ⟨some d,.lookup T x y false,ty,pos,aft,none⟩)(hq:Yz ops true i H=true)(M:MK P T K E ek (ev z0)){u:α}(hx:Fx.ev L x=some (.map (some b)))(c:Fx.ev L y=some (ek u))(hm:(b,mB ek ev m)∈σ)(hd:d<n)(k:Head P ops n S w0 Kf H ((d,ev ((Zo m u).getD z0))::L) σ Φ): Head P ops n S w0 Kf (i::H) L σ Φ :=
 .inl ⟨_,d,_,true,ho,rfl,hd,hq,λ_ _ _ a =>.inl ⟨rfl,λw' hw=>mI a M hx c (eg _ hm) (hw rfl)⟩,k⟩
theorem Pi(ho:ops[i]?=some ⟨some d,.lookup T x y false,ty,pos,aft,some (j,c)⟩)(hj:(ops[j]?).bind (·.dst)=some t)(ht:look L t=some (.bool c))(hq:Yz ops true i H=true)(M:MK P T K E ek (ev z0)){u:α}(hx:Fx.ev L x=some (.map (some b)))(e:Fx.ev L y=some (ek u))(hm:(b,mB ek ev m)∈σ)(hd:d<n)(k:Head P ops n S w0 Kf H ((d,ev ((Zo m u).getD z0))::L) σ Φ): Head P ops n S w0 Kf (i::H) L σ Φ :=
 .inl ⟨_,d,_,true,ho,rfl,hd,hq,λ_ _ _ a =>.inl ⟨by rw[AD a hj ht];simp,λw' hw=>mI a M hx e (eg _ hm) (hw rfl)⟩,k⟩
theorem XE(h:St n S w0 L σ Φ a w)(ho:ops[i]?=some ⟨none,.mapUpdate T x y v,ty,pos,aft,none⟩)(M:MK P T K E ek (ev z0)){u:α}{q:β}(hx:Fx.ev L x=some (.map (some b)))(g:Fx.ev L y=some (ek u))(hv:Fx.ev L v=some (ev q))(hu:Upd σ b (mB ek ev m) (mB ek ev (Va m u q)) σ2)(k:∀d w',St n S w0 L σ2 Φ d w'->wpX P ops Kf f (listed.setIfInBounds i true) d w'): Cc P ops Kf f listed i a w :=
 Js ho (Al (by simp only[execOp,h.ev hx,h.ev g,h.ev hv,bl,M.update m u q (h.own _ hu.mem)];rfl) ⟨λo c=>by rw[ho] at c;cases c;exact Left.op ho (λ_ e=>by cases e) (λ_ _ _ e=>by cases e) rfl,k _ _ (Gu h hu)⟩)
end
end Go.Fx
namespace Go.Fx
open Go Go.RowKit Go.Sort Go.Proofs
section
variable{P:Program}{w:World}{S:Nat->Prop}{w0:World}{σ:List (Nat×Obj)}{Φ:List Zs}
variable{β:Type}{en:β->List Value}{k:Nat}
theorem Uz{e:Go.Shelf.Ren}(B:SlLaysF0.n14 P e)(A:∀w,(isAgg (e.t 24)).run P w=.ok true w)(E:∀w,(Go.sizeOf (e.t 24)).run P w=.ok k w)(hk:∀x,(en x).length=k)(i:0<k)(h1:∀x,∀v∈en x,v.oneCell'=true)(c:β->β->Int)(hO:SWO (ltOf c))(p:List β)(q:0<p.length)(hT:∀x∈p,∀y∈p,(ltOf c) x y=false->(ltOf c) y x=false->x=y){g:Nat}{cb:Array Value}(D:∀args w,(callFunc g args).run P w=.ok (.enter g args) w)(hf:∀x∈p,∀y∈p,Xi P g (.agg (en x).toArray :: .agg (en y).toArray::cb.toList) Φ (.int .i64 (c x y)))(b cap:Nat)(T:TypeId)(R:List Value)(a:Nat)(d:a<4611686018427387904)(F:p.length<4611686018427387904):
  GX P (e.f 14) [.slice (some ⟨b,0,none⟩) p.length cap,.int .i64 ((0:Nat):Int),.int .i64 ((p.length:Nat):Int),.int .i64 ((a:Nat):Int),.func (.func g) #[] cb] ((b,.cells (p.flatMap en++R).toArray T (0,0))::σ) Φ
   (λv σ' Ψ=>v=.tuple #[]/\σ'=(b,.cells ((p.mergeSort λx y => !(ltOf c) y x).flatMap en++R).toArray T (0,0))::σ/\Ψ=Φ):=by
 obtain ⟨o,j⟩:=List.exists_mem_of_length_pos q;haveI:Inhabited {x // x∈p}:=⟨⟨o,j⟩⟩
 have h:=NM (P:=P) (α:={x // x∈p}) (k:=k) (enc:=λx=>en x.val) (σ:=σ) (Φ:=Φ) B A E (λx=>hk x.val) i (λx=>h1 x.val) (λx y=>c x.val y.val)
  ⟨λx=>hO.irrefl x.val,λx y z=>hO.trans x.val y.val z.val,λx y z=>hO.ntrans x.val y.val z.val⟩ (λx y C a2=>Subtype.ext (hT x.val x.property y.val y.property C a2)) D (λx y=>hf x.val x.property y.val y.property)
  b cap T p.attach R a d (by rw[List.length_attach];exact F)
 have m:∀l:List {x // x∈p},l.flatMap (λx=>en x.val)=(l.map Subtype.val).flatMap en:=λl=>by rw[List.flatMap_map]
 have n:p.attach.map Subtype.val=p:=List.attach_map_subtype_val p;have u:=u6 (r:=λx y:{x // x∈p} => !(ltOf λx y:{x // x∈p}=>c x.val y.val) y x) (s:=λx y => !(ltOf c) y x) (f:=Subtype.val) (l:=p.attach) (λ_ _ _ _=>rfl);rw[m,n,List.length_attach] at h;simp only[m] at h;rw[u,n] at h;exact h
end
end Go.Fx
