/- Short steps, which chain as one term: the walk from state to state. By an AI agent. -/
import Derived.Tactics
import Derived.Tactics2
import Derived.WalkKit
import Derived.Below
import Derived.Orders
import Derived.KernelRfl
import Derived.OrdersHeld
set_option linter.unusedVariables false
set_option linter.unusedSimpArgs false
set_option linter.unusedSectionVars false
namespace Go.Fx
open Go Go.RowKit
theorem oo{p:Prop}(h:p:=by omega): p:=h
theorem dd{p:Prop}(h:p:=by decide): p:=h
theorem ss{p:Prop}(h:p:=by simp): p:=h
theorem kk{p:Prop}(h:p:=by kernel_rfl): p:=h
theorem kD{p:Prop}(h:p:=by decide +kernel): p:=h
theorem I{α:Type}{a:α}: a=a:=rfl
variable{ty:TypeId}{pos:String}{aft:Array Edge}
def look:List (Nat×Value)→Nat→Option Value
 | [],_=>none
 | (t,v)::L,u=>bif Nat.beq t u then some v else look L u
def ev(L:List (Nat×Value)): Operand→Option Value
 | .tmp t=>look L t
 | .const v=>some v
 | .global g=>some (.pointer (some ⟨g,0,none⟩))
 | .func f=>some (.func (.func f) #[] #[])
structure Zp where
 p:(Nat→Prop)→World→Prop
 st:∀X X' w w',p X w→(∀b,b<w.heap.size → ¬X b→w'.heap[b]?=w.heap[b]?)→w.heap.size≤w'.heap.size →
  (∀b,X' b→X b∨w.heap.size≤b)→p X' w'
structure St(n:Nat)(S:Nat→Prop)(w0:World)(L:List (Nat×Value))(σ:List (Nat×Obj))(Φ:List Zp)(a:Act)(w:World): Prop where
 size:a.tmps.size=n
 defers:a.defers=[]
 val:∀t v,look L t=some v→a.tmps.getD t undef=v
 ext:Below w0.heap.size w0 w
 own:∀p∈σ,w.heap[p.1]?=some p.2
 new:∀p∈σ,w0.heap.size≤p.1
 nd:σ.Pairwise (fun p q=>p.1≠q.1)
 facts:∃X:Nat→Prop,(∀b,S b→X b)∧(∀p∈σ,X p.1)∧(∀b,X b→b<w.heap.size) ∧ ∀R∈Φ,R.p X w
section
variable{n:Nat}{S:Nat→Prop}{w0:World}{L:List (Nat×Value)}{σ:List (Nat×Obj)}{Φ:List Zp}{a:Act}{w:World}
theorem St.ev(h:St n S w0 L σ Φ a w){x:Operand}{v:Value}(hx:ev L x=some v): a.eval x=v:=by
 cases x with
 | tmp t=>exact h.val t v hx
 | const u=>simp[Fx.ev] at hx;exact hx
 | global g=>simp[Fx.ev] at hx;simp[Act.eval,hx]
 | func f=>simp[Fx.ev] at hx;simp[Act.eval,hx]
theorem getD_set(a:Array Value)(d t:Nat)(v:Value)(hd:d<a.size):
  (a.setIfInBounds d v).getD t undef=if d=t then v else a.getD t undef:=by
 by_cases h:d=t
 ·subst h;simp[hd]
 ·simp[h,Array.getElem?_setIfInBounds_ne h]
theorem St.put(h:St n S w0 L σ Φ a w){d:Nat}(hd:d<n)(v:Value): St n S w0 ((d,v)::L) σ Φ (a.put (some d) v) w where
 size:=by simp[Act.put,h.size]
 defers:=h.defers
 val:=fun t u ht=>by
  simp only[look] at ht
  rw[Act.put,getD_set _ _ _ _ (by rw[h.size];exact hd)]
  cases b:Nat.beq d t with
  | true=>rw[b] at ht;simp at ht;rw[if_pos (Nat.eq_of_beq_eq_true b)];exact ht
  | false=>rw[b] at ht;simp at ht;rw[if_neg (Nat.ne_of_beq_eq_false b)];exact h.val t u ht
 ext:=h.ext
 own:=h.own
 new:=h.new
 nd:=h.nd
 facts:=h.facts
theorem St.drew(h:St n S w0 L σ Φ a w): St n S w0 L σ Φ a w.drew :=
 ⟨h.size,h.defers,h.val,h.ext.drew,h.own,h.new,h.nd,by
  obtain ⟨X,h1,c,f,d⟩:=h.facts
  exact⟨X,h1,c,f,fun R hR=>R.st X X w w.drew (d R hR) (fun _ _ _=>rfl) (Nat.le_refl _) (fun b e =>.inl e)⟩⟩
theorem St.sub(h:St n S w0 L σ Φ a w){L':List (Nat×Value)}(hs:∀t v,look L' t=some v→look L t=some v): St n S w0 L' σ Φ a w :=
 { h with val:=fun t v ht=>h.val t v (hs t v ht) }
theorem St.own_lt(h:St n S w0 L σ Φ a w){b:Nat}{o:Obj}(d:(b,o)∈σ): b<w.heap.size:=by
 have:=h.own _ d
 rcases Nat.lt_or_ge b w.heap.size with c|c
 ·exact c
 ·simp[Array.getElem?_eq_none c] at this
theorem St.alloc(h:St n S w0 L σ Φ a w)(o:Obj): St n S w0 L ((w.heap.size,o)::σ) Φ a (w.alloc o) where
 size:=h.size
 defers:=h.defers
 val:=h.val
 ext:=h.ext.alloc h.ext.size o
 own:=fun p d=>by
  rcases List.mem_cons.1 d with rfl|d
  ·show(w.heap.push o)[w.heap.size]?=_
   simp
  ·have f:=h.own_lt (b:=p.1) (o:=p.2) d
   show(w.heap.push o)[p.1]?=_
   rw[Array.getElem?_push,if_neg (by omega)]
   exact h.own p d
 new:=fun p d=>by
  rcases List.mem_cons.1 d with rfl|d
  ·exact h.ext.size
  ·exact h.new p d
 nd:=List.pairwise_cons.2 ⟨fun p d=>by have:=h.own_lt (b:=p.1) (o:=p.2) d;simp only;omega,h.nd⟩
 facts:=by
  obtain ⟨X,h1,e,g,i⟩:=h.facts
  refine⟨fun b=>X b∨b=w.heap.size,fun b c =>.inl (h1 b c),fun p d=>?_,fun b c=>?_,fun R hR=>?_⟩
  ·rcases List.mem_cons.1 d with rfl|d
   ·exact .inr rfl
   ·exact .inl (e p d)
  ·rcases c with c|c
   ·have:=g b c;simp;omega
   ·simp[c]
  ·refine R.st X _ w _ (i R hR) (fun b c _=>?_) (by simp) (fun b c=>?_)
   ·exact Below.heap_alloc w o b c
   ·rcases c with c|c
    ·exact .inl c
    ·exact .inr (by omega)
inductive Upd:List (Nat×Obj)→Nat→Obj→Obj→List (Nat×Obj)→Prop
 | head {b o o' σ}:Upd ((b,o)::σ) b o o' ((b,o')::σ)
 | tail {b o o' p σ σ'} (h:Upd σ b o o' σ'):Upd (p::σ) b o o' (p::σ')
theorem Upd.mem{σ σ':List (Nat×Obj)}{b:Nat}{o o':Obj}(h:Upd σ b o o' σ'): (b,o)∈σ:=by
 induction h with
 | head=>exact List.mem_cons_self
 | tail _ a=>exact List.mem_cons_of_mem _ a
theorem Upd.fst{σ σ':List (Nat×Obj)}{b:Nat}{o o':Obj}(h:Upd σ b o o' σ'): σ'.map Prod.fst=σ.map Prod.fst:=by
 induction h with
 | head=>rfl
 | tail _ a=>simp[a]
theorem Upd.mem'{σ σ':List (Nat×Obj)}{b:Nat}{o o':Obj}(h:Upd σ b o o' σ')(c:σ.Pairwise (fun p q=>p.1≠q.1)):
  ∀p∈σ',(p=(b,o'))∨(p∈σ∧p.1≠b):=by
 induction h with
 | head =>
  intro p a
  rw[List.pairwise_cons] at c
  rcases List.mem_cons.1 a with rfl|a
  ·exact .inl rfl
  ·exact .inr ⟨List.mem_cons_of_mem _ a,fun e=>c.1 p a e.symm⟩
 | @tail b o o' q σ σ' h g =>
  intro p a
  rw[List.pairwise_cons] at c
  rcases List.mem_cons.1 a with rfl|a
  ·exact .inr ⟨List.mem_cons_self,fun e=>c.1 _ h.mem e⟩
  ·rcases g c.2 p a with f|⟨h1,d⟩
   ·exact .inl f
   ·exact .inr ⟨List.mem_cons_of_mem _ h1,d⟩
theorem Nl:∀ {σ σ':List (Nat×Obj)},σ'.map Prod.fst=σ.map Prod.fst→σ.Pairwise (fun p q=>p.1≠q.1)→σ'.Pairwise (fun p q=>p.1≠q.1):=by
 intro σ σ' he h
 have h1:(σ.map Prod.fst).Pairwise (· ≠ ·):=List.pairwise_map.2 h
 rw[←he] at h1
 exact List.pairwise_map.1 h1
theorem St.turn(h:St n S w0 L σ Φ a w){b:Nat}{o o':Obj}{σ':List (Nat×Obj)}(hu:Upd σ b o o' σ'){w':World}(m:w'.os=w.os)(d:w'.tape=w.tape)(i:w'.output=w.output)(j:w'.heap.size=w.heap.size)(r:w'.heap[b]?=some o')(c:∀k,k≠b→w'.heap[k]?=w.heap[k]?): St n S w0 L σ' Φ a w' where
 size:=h.size
 defers:=h.defers
 val:=h.val
 ext:=h.ext.trans ⟨m,d,i,by omega,fun k hk=>c k (by have:=h.new _ hu.mem;simp only at this;omega)⟩
 own:=fun p g=>by
  rcases hu.mem' h.nd p g with rfl|⟨h1,f⟩
  ·exact r
  ·rw[c _ f];exact h.own p h1
 new:=fun p g=>by
  rcases hu.mem' h.nd p g with rfl|⟨h1,_⟩
  ·exact h.new (b,o) hu.mem
  ·exact h.new p h1
 nd:=Nl hu.fst h.nd
 facts:=by
  obtain ⟨X,h1,f,s,t⟩:=h.facts
  refine⟨X,h1,fun p g=>?_,fun k hk=>by rw[j];exact s k hk,fun R hR=>R.st X X w w' (t R hR) (fun k hk q=>c k (fun e=>q (by subst e;exact f _ hu.mem))) (by omega) (fun k hk =>.inl hk)⟩
  rcases hu.mem' h.nd p g with rfl|⟨l,_⟩
  ·exact f (b,o) hu.mem
  ·exact f p l
def Zl(cs:Array Value)(off:Nat): List Value→Array Value
 | []=>cs
 | v::vs=>Zl (cs.setIfInBounds off v) (off+1) vs
theorem World.heap_setCell_self(w:World)(b off:Nat)(v:Value){cs:Array Value}{T:TypeId}{fr:Nat×Nat}(h:w.heap[b]?=some (.cells cs T fr)): (w.setCell ⟨b,off,none⟩ v).heap[b]?=some (.cells (cs.setIfInBounds off v) T fr):=by
 simp[World.setCell,Array.getElem?_modify,h]
theorem cell_of(w:World)(b off:Nat){cs:Array Value}{T:TypeId}{fr:Nat×Nat}(h:w.heap[b]?=some (.cells cs T fr)):
  w.cell? ⟨b,off,none⟩=cs[off]?:=by
 simp[World.cell?,h]
theorem H7(w:World)(b off:Nat){cs:Array Value}{T:TypeId}(h:w.heap[b]?=some (.cells cs T (0,0))):
  w.frozen? ⟨b,off,none⟩=false:=by
 simp[World.frozen?,h]
theorem AS(b off i:Nat): (⟨b,off,none⟩:Addr).add i=⟨b,off+i,none⟩:=by
 unfold Addr.add
 split
 ·simp_all
 ·rfl
theorem Xc{P:Program}(w:World)(b off:Nat){cs:Array Value}{T:TypeId}{fr:Nat×Nat}(h:w.heap[b]?=some (.cells cs T fr)): ∀(k i:Nat) (acc:Array Value),off+i+k≤cs.size →
  (loadCellsFrom ⟨b,off,none⟩ i k acc).run P w=.ok (acc++cs.extract (off+i) (off+i+k)) w
 | 0,i,acc,_=>by simp[loadCellsFrom];omega
 | k+1,i,acc,hle=>by
  have hc:w.cell? ⟨b,off+i,none⟩=some (cs[off+i]'(by omega)):=by rw[cell_of w b _ h];simp
  have c:=Xc (P:=P) w b off h k (i+1) (acc.push (cs[off+i]'(by omega))) (by omega)
  simp only[loadCellsFrom,Sem.run_bind,run_load,AS,hc,Result.andThen,c]
  congr 1
  have e:off+(i+1)+k=off+i+(k+1):=by omega
  rw[e, ←Nat.add_assoc,Array.push_eq_append,Array.append_assoc]
  congr 1
  apply Array.ext'
  simp only[Array.toList_append,Array.toList_extract,List.extract_eq_take_drop]
  have f:off+i+(k+1)-(off+i)=k+1:=by omega
  have d:off+i+(k+1)-(off+i+1)=k:=by omega
  have a:off+i<cs.toList.length:=by simp;omega
  rw[f,d,List.drop_eq_getElem_cons a]
  simp
def Zk(agg:Bool)(s:Nat)(cs:Array Value)(off:Nat): Option Value :=
 if agg then (if off+s≤cs.size then some (.agg (cs.extract off (off+s))) else none) else cs[off]?
theorem Xs{P:Program}{w:World}{b off:Nat}{cs:Array Value}{a:TypeId}{fr:Nat×Nat}(h:w.heap[b]?=some (.cells cs a fr)){T:TypeId}{agg:Bool}{s:Nat}{v:Value}(hagg:∀w,(isAgg T).run P w=.ok agg w)(hs:∀w,(Go.sizeOf T).run P w=.ok s w)(hv:Zk agg s cs off=some v):
  (Instr.loadAt T (.pointer (some ⟨b,off,none⟩))).run P w=.ok v w:=by
 cases agg with
 | false =>
  simp only[Zk,Bool.false_eq_true,if_false] at hv
  simp[Instr.loadAt,Instr.sureAddr,loadVar,Sem.run_bind,hagg,Result.andThen,run_load,cell_of w b off h,hv]
 | true =>
  simp only[Zk,if_true] at hv
  split at hv
  ·rename_i hle
   cases hv
   have:=Xc (P:=P) w b off h s 0 #[] (by omega)
   simp[Instr.loadAt,Instr.sureAddr,loadVar,Sem.run_bind,hagg,hs,Result.andThen,loadCells,this]
  ·cases hv
theorem Xg{P:Program}(b off:Nat){T:TypeId}: ∀(vs:List Value) (i:Nat) (w:World) (cs:Array Value),
  w.heap[b]?=some (.cells cs T (0,0))→off+i+vs.length≤cs.size→(∀v∈vs,(∀c,v ≠ .agg c)∧(∀c,v ≠ .tuple c)) →
  ∃w',(storeCells ⟨b,off,none⟩ vs i).run P w=.ok () w'∧w'.os=w.os∧w'.tape=w.tape∧w'.output=w.output∧w'.heap.size=w.heap.size ∧
   w'.heap[b]?=some (.cells (Zl cs (off+i) vs) T (0,0)) ∧ ∀k,k≠b→w'.heap[k]?=w.heap[k]?
 | [],i,w,cs,h,_,_=>⟨w,by simp[storeCells],rfl,rfl,rfl,rfl,h,fun _ _=>rfl⟩
 | v::vs,i,w,cs,h,hle,hv=>by
  simp only[List.length_cons] at hle
  have hc:w.cell? ⟨b,off+i,none⟩=some (cs[off+i]'(by omega)):=by rw[cell_of w b _ h];simp
  have hf:=H7 w b (off+i) h
  have h1:=World.heap_setCell_self w b (off+i) v h
  obtain ⟨w',hr,g,f,d,l,e,j⟩:=Xg (P:=P) b off vs (i+1) (w.setCell ⟨b,off+i,none⟩ v) _ h1 (by simp;omega) (fun u hu=>hv u (List.mem_cons_of_mem _ hu))
  have a:=hv v List.mem_cons_self
  refine⟨w',?_,g,f,d,by rw[l];simp[World.setCell],by rw[e,Zl,Nat.add_assoc],fun k hk=>by rw[j k hk];exact Below.heap_setCell _ _ _ _ hk⟩
  simp only[storeCells,AS,Sem.run_bind]
  have hs:(store ⟨b,off+i,none⟩ v).run P w=.ok () (w.setCell ⟨b,off+i,none⟩ v):=by
   unfold Go.store
   cases v<;>simp[Sem.run,hc,hf]<;>first|exact absurd rfl (a.1 _)|exact absurd rfl (a.2 _)
  rw[hs]
  exact hr
def flat(v:Value): Bool:=match v with | .agg _ | .tuple _=>false|_=>true
theorem Df{v:Value}(h:flat v=true): (∀c,v ≠ .agg c)∧(∀c,v ≠ .tuple c):=by
 cases v<;>simp[flat] at h ⊢
theorem St.store(h:St n S w0 L σ Φ a w){P:Program}{b off:Nat}{cs:Array Value}{d:TypeId}{σ':List (Nat×Obj)}{v:Value}{T:TypeId}{s:Nat}(hu:Upd σ b (.cells cs d (0,0)) (.cells (Zl cs off v.cells.toList) d (0,0)) σ')(hs:∀w,(Go.sizeOf T).run P w=.ok s w)(c:v.cells.size=s)(hle:off+s≤cs.size)(e:v.cells.toList.all flat=true):
  ∃w',(Instr.storeAt T (.pointer (some ⟨b,off,none⟩)) v).run P w=.ok () w'∧St n S w0 L σ' Φ a w' ∧ ∀k,k≠b→w'.heap[k]?=w.heap[k]?:=by
 obtain ⟨w',hr,l,j,g,m,i,f⟩:=Xg (P:=P) b off (T:=d) v.cells.toList 0 w cs (h.own _ hu.mem) (by simp;omega)
  (fun u hu=>Df ((List.all_eq_true.1 e) u hu))
 refine⟨w',?_,h.turn hu l j g m (by simpa using i) f,f⟩
 simp[Instr.storeAt,Instr.sureAddr,storeVar,Sem.run_bind,hs,Result.andThen,c,hr]
variable{P:Program}{K:Act→World→Prop}{Q:Exit→Act→World→Prop}
theorem Qf{o:Oper}{v:Value}{w':World}(hr:(execOp a.eval o).run P w=.ok (.value v) w')(hk:K (a.put o.dst v) w'): o.wp P a w K Q:=by
 simp only[Oper.wp,hr,Oper.upon];exact hk
theorem Gy{o:Oper}{w':World}(hr:(execOp a.eval o).run P w=.ok .skip w')(hk:K (a.put o.dst undef) w'): o.wp P a w K Q:=by
 simp only[Oper.wp,hr,Oper.upon];exact hk
inductive Pure1 (P:Program) (L:List (Nat×Value)):Op→Value→Prop
 | move {x v} (hx:Fx.ev L x=some v):Pure1 P L (.move x) v
 | assign {x v} (hx:Fx.ev L x=some v):Pure1 P L (.assign x) v
 | pickT {c x y v} (hc:Fx.ev L c=some (.bool true)) (hx:Fx.ev L x=some v):Pure1 P L (.pick c x y) v
 | pickF {c x y v} (hc:Fx.ev L c=some (.bool false)) (hy:Fx.ev L y=some v):Pure1 P L (.pick c x y) v
 | fieldAddr {T x f u v} (hx:Fx.ev L x=some u) (hr:∀w,(Instr.fieldAt T u f).run P w=.ok v w):Pure1 P L (.fieldAddr T x f) v
 | field {T x f u v} (hx:Fx.ev L x=some u) (hr:∀w,(Instr.field T u f).run P w=.ok v w):Pure1 P L (.field T x f) v
 | indexAddr {T x y u i v} (hx:Fx.ev L x=some u) (hy:Fx.ev L y=some i) (hr:∀w,(Instr.indexAt T u i).run P w=.ok v w):Pure1 P L (.indexAddr T x y) v
 | index {T x y u i v} (hx:Fx.ev L x=some u) (hy:Fx.ev L y=some i) (hr:∀w,(Instr.index T u i).run P w=.ok v w):Pure1 P L (.index T x y) v
 | binOp {op T x y T' u i v} (hx:Fx.ev L x=some u) (hy:Fx.ev L y=some i)
   (hr:∀w,(do eqGuard op T x y u i;Go.binOp op T u i:Sem Value).run P w=.ok v w):Pure1 P L (.binOp op T x y T') v
 | unOp {op T x u v} (hx:Fx.ev L x=some u) (hr:∀w,(Op.unary op u).run P w=.ok v w):Pure1 P L (.unOp op T x) v
 | convert {T T' x u v} (hx:Fx.ev L x=some u) (hr:∀w,(Go.convert T T' u).run P w=.ok v w):Pure1 P L (.convert T T' x) v
 | extract {x k u v} (hx:Fx.ev L x=some u) (hr:∀w,(Instr.extract u k).run P w=.ok v w):Pure1 P L (.extract x k) v
 | slice {T x lo hi mx u v} (hx:Fx.ev L x=some u) (lo' hi' mx':Option Value) (hl:lo.map (Fx.ev L)=lo'.map some) (hh:hi.map (Fx.ev L)=hi'.map some) (hm:mx.map (Fx.ev L)=mx'.map some)
   (hr:∀w,(Instr.sliceAt T u lo' hi' mx').run P w=.ok v w):Pure1 P L (.slice T x lo hi mx) v
 | nilCheck {x b} (hx:Fx.ev L x=some (.pointer (some b))):Pure1 P L (.nilCheck x) (.pointer (some b))
 | build {T parts v} (vs:List (Nat×Value)) (hp:parts.toList.map (fun p=>(p.1,Fx.ev L p.2))=vs.map (fun p=>(p.1,some p.2)))
   (hr:∀w,(Instr.build T vs.toArray).run P w=.ok v w):Pure1 P L (.build T parts) v
 | makeFunc {fn first captured} (fs cs:List Value) (hf:first.toList.map (Fx.ev L)=fs.map some) (hc:captured.toList.map (Fx.ev L)=cs.map some) :
   Pure1 P L (.makeFunc fn first captured) (.func fn fs.toArray cs.toArray)
 | builtin {b args tys v} (vs:List Value) (ha:args.toList.map (Fx.ev L)=vs.map some)
   (hr:∀w (type:TypeId) (consts:Array Bool),(Go.builtin b tys type consts vs.toArray).run P w=.ok (.value v) w):Pure1 P L (.call ⟨.builtin b,args,tys⟩) v
 | extern {f args tys v} (vs:List Value) (ha:args.toList.map (Fx.ev L)=vs.map some)
   (hr:∀w,(callFunc f vs.toArray).run P w=.ok (.value v) w):Pure1 P L (.call ⟨.value (.func f),args,tys⟩) v
theorem Pure1.cast{P:Program}{L:List (Nat×Value)}{op:Op}{v v':Value}(h:Pure1 P L op v)(e:v=v'): Pure1 P L op v':=e ▸ h
theorem Ea(h:St n S w0 L σ Φ a w){args:Array Operand}{vs:List Value}(ha:args.toList.map (Fx.ev L)=vs.map some): args.map a.eval=vs.toArray:=by
 apply Array.ext'
 simp only[Array.toList_map]
 generalize args.toList=l at ha
 induction l generalizing vs with
 | nil=>cases vs<;>simp at ha ⊢
 | cons x l b =>
  cases vs with
  | nil=>simp at ha
  | cons v vs =>
   simp only[List.map_cons,List.cons.injEq] at ha ⊢
   exact⟨h.ev ha.1,b ha.2⟩
theorem BV(h:St n S w0 L σ Φ a w){parts:Array (Nat×Operand)}{vs:List (Nat×Value)}(ha:parts.toList.map (fun p=>(p.1,Fx.ev L p.2))=vs.map (fun p=>(p.1,some p.2))): parts.map (fun(i,x)=>(i,a.eval x))=vs.toArray:=by
 apply Array.ext'
 simp only[Array.toList_map]
 generalize parts.toList=l at ha
 induction l generalizing vs with
 | nil=>cases vs<;>simp at ha ⊢
 | cons x l b =>
  cases vs with
  | nil=>simp at ha
  | cons v vs =>
   simp only[List.map_cons,List.cons.injEq,Prod.mk.injEq] at ha ⊢
   refine⟨?_,b ha.2⟩
   rw[h.ev ha.1.2,ha.1.1]
theorem PC(h:St n S w0 L σ Φ a w){x:Option Operand}{v:Option Value}(ha:x.map (Fx.ev L)=v.map some): x.map a.eval=v:=by
 cases x<;>cases v<;>simp at ha ⊢
 exact h.ev ha
theorem Pure1.run(h:St n S w0 L σ Φ a w){dst:Option Tmp}{op:Op}{g:Option (Nat×Bool)}{v:Value}(c:Pure1 P L op v):
  ∀w',(execOp a.eval ⟨dst,op,ty,pos,aft,g⟩).run P w'=.ok (.value v) w':=by
 intro w'
 cases c with
 | move hx=>simp[execOp,h.ev hx]
 | assign hx=>simp[execOp,h.ev hx]
 | pickT hc hx=>simp[execOp,h.ev hc,h.ev hx,asBool]
 | pickF hc hx=>simp[execOp,h.ev hc,h.ev hx,asBool]
 | fieldAddr hx hr=>simp only[execOp,h.ev hx,Sem.run_bind,hr];rfl
 | field hx hr=>simp only[execOp,h.ev hx,Sem.run_bind,hr];rfl
 | indexAddr hx b hr=>simp only[execOp,h.ev hx,h.ev b,Sem.run_bind,hr];rfl
 | index hx b hr=>simp only[execOp,h.ev hx,h.ev b,Sem.run_bind,hr];rfl
 | binOp hx b hr =>
  have:=hr w'
  rw[Sem.run_bind] at this
  simp only[execOp,h.ev hx,h.ev b,Sem.run_bind,this];rfl
 | unOp hx hr=>simp only[execOp,h.ev hx,Sem.run_bind,hr];rfl
 | convert hx hr=>simp only[execOp,h.ev hx,Sem.run_bind,hr];rfl
 | extract hx hr=>simp only[execOp,h.ev hx,Sem.run_bind,hr];rfl
 | slice hx e i d hl f hm hr=>simp only[execOp,h.ev hx,PC h hl,PC h f,PC h hm,Sem.run_bind,hr];rfl
 | nilCheck hx=>simp only[execOp,h.ev hx];rfl
 | build vs c hr=>simp only[execOp,BV h c,Sem.run_bind,hr];rfl
 | makeFunc fs cs hf hc=>simp only[execOp,Ea h hf,Ea h hc,Instr.makeFunc];rfl
 | builtin vs ha hr =>
  simp only[execOp,resolve,Ea h ha,Sem.run_bind]
  exact hr w' _ _
 | extern vs ha hr =>
  simp only[execOp,resolve,Ea h ha,Sem.run_bind,Act.eval]
  simp[Deferred.ofValue,invoke,hr]
theorem WI(h:St n S w0 L σ Φ a w){d:Nat}{op:Op}{g:Option (Nat×Bool)}{v:Value}(c:Pure1 P L op v)(hd:d<n)(k:∀b,St n S w0 ((d,v)::L) σ Φ b w→K b w): (Oper.mk (some d) op ty pos aft g).wp P a w K Q :=
 Qf (c.run h w) (k _ (h.put hd v))
theorem op_box(h:St n S w0 L σ Φ a w){d:Nat}{T:TypeId}{x:Operand}{u:Value}{g:Option (Nat×Bool)}(hx:Fx.ev L x=some u)(hd:d<n)(k:∀b c w',St n S w0 ((d,.pointer (some ⟨b,0,none⟩))::L) ((b,.cells u.cells T (0,0))::σ) Φ c w'→K c w'): (Oper.mk (some d) (.box T x) ty pos aft g).wp P a w K Q :=
 Qf (v:=.pointer (some ⟨w.heap.size,0,none⟩)) (w':=w.alloc (.cells u.cells T (0,0))) (by simp only[execOp,h.ev hx];rfl)
  (k _ _ _ ((h.alloc _).put hd _))
theorem dX(h:St n S w0 L σ Φ a w){d:Nat}{T:TypeId}{u:Value}{g:Option (Nat×Bool)}(hz:∀w,(zeroValue T).run P w=.ok u w)(hd:d<n)(k:∀b c w',St n S w0 ((d,.pointer (some ⟨b,0,none⟩))::L) ((b,.cells u.cells T (0,0))::σ) Φ c w'→K c w'): (Oper.mk (some d) (.alloc T) ty pos aft g).wp P a w K Q :=
 Qf (v:=.pointer (some ⟨w.heap.size,0,none⟩)) (w':=w.alloc (.cells u.cells T (0,0))) (by
  simp only[execOp,Instr.alloc,Sem.run_bind,hz,Result.andThen]
  rfl)
  (k _ _ _ ((h.alloc _).put hd _))
theorem Pj(h:St n S w0 L σ Φ a w){d:Nat}{T:TypeId}{x:Operand}{g:Option (Nat×Bool)}{b off:Nat}{cs:Array Value}{e:TypeId}{fr:Nat×Nat}{agg:Bool}{s:Nat}{v:Value}(hx:Fx.ev L x=some (.pointer (some ⟨b,off,none⟩)))(hm:(b,Obj.cells cs e fr)∈σ)(hagg:∀w,(isAgg T).run P w=.ok agg w)(hs:∀w,(Go.sizeOf T).run P w=.ok s w)(hv:Zk agg s cs off=some v)(hd:d<n)(k:∀c,St n S w0 ((d,v)::L) σ Φ c w→K c w): (Oper.mk (some d) (.load T x) ty pos aft g).wp P a w K Q :=
 Qf (v:=v) (w':=w) (by
  simp only[execOp,h.ev hx,Sem.run_bind,Xs (h.own _ hm) hagg hs hv];rfl) (k _ (h.put hd v))
theorem dS(h:St n S w0 L σ Φ a w){T:TypeId}{x y:Operand}{g:Option (Nat×Bool)}{b off:Nat}{cs:Array Value}{f:TypeId}{s:Nat}{v:Value}{σ':List (Nat×Obj)}{cs':Array Value}(hx:Fx.ev L x=some (.pointer (some ⟨b,off,none⟩)))(j:Fx.ev L y=some v)(c:Zl cs off v.cells.toList=cs')(hu:Upd σ b (.cells cs f (0,0)) (.cells cs' f (0,0)) σ')(hs:∀w,(Go.sizeOf T).run P w=.ok s w)(d:v.cells.size=s)(hle:off+s≤cs.size)(e:v.cells.toList.all flat=true)(k:∀i w',St n S w0 L σ' Φ i w'→K i w'): (Oper.mk none (.store T x y) ty pos aft g).wp P a w K Q:=by
 subst c
 obtain ⟨w',hr,l,_⟩:=h.store hu hs d hle e
 exact Gy (w':=w') (by simp only[execOp,h.ev hx,h.ev j,Sem.run_bind,hr];rfl) (k _ _ l)
def Ctr(P:Program)(f:FuncId)(args:List Value)(Φ:List Zp)(post:Value→List Zp→Prop): Prop :=
 ∀(X:Nat→Prop) (w:World),(∀b,X b→b<w.heap.size)→(∀R∈Φ,R.p X w) →
  Calls P f args.toArray w fun e w' => ∃v Ψ,e=.returned v∧post v Ψ∧Below w.heap.size w w' ∧ ∀R∈Ψ,R.p X w'
theorem St.called(h:St n S w0 L σ Φ a w){w':World}(d:Below w.heap.size w w'){X:Nat→Prop}{Ψ:List Zp}(h1:∀b,S b→X b)(f:∀p∈σ,X p.1)(i:∀b,X b→b<w.heap.size)(j:∀R∈Φ,R.p X w)(g:∀R∈Ψ,R.p X w'): St n S w0 L σ (Ψ++Φ) a w' where
 size:=h.size
 defers:=h.defers
 val:=h.val
 ext:=h.ext.trans (d.mono h.ext.size)
 own:=fun p e=>by rw[d.block _ (h.own_lt (b:=p.1) (o:=p.2) e)];exact h.own p e
 new:=h.new
 nd:=h.nd
 facts:=⟨X,h1,f,fun b c=>Nat.lt_of_lt_of_le (i b c) d.size,fun R hR=>by
  rcases List.mem_append.1 hR with hR|hR
  ·exact g R hR
  ·exact R.st X X w w' (j R hR) (fun b c _=>d.block b c) d.size (fun b c =>.inl c)⟩
theorem Pk(h:St n S w0 L σ Φ a w){d:Nat}{f:FuncId}{args:Array Operand}{b:Array TypeId}{g:Option (Nat×Bool)}{vs:List Value}{Φ':List Zp}{post:Value→List Zp→Prop}(ha:args.toList.map (Fx.ev L)=vs.map some)(hc:∀args w,(callFunc f args).run P w=.ok (.enter f args) w)(hf:Ctr P f vs Φ' post)(c:∀R∈Φ',R∈Φ)(hd:d<n)(k:∀v Ψ l w',post v Ψ→St n S w0 ((d,v)::L) σ (Ψ++Φ) l w'→K l w'): (Oper.mk (some d) (.call ⟨.value (.func f),args,b⟩) ty pos aft g).wp P a w K Q:=by
 obtain ⟨X,h1,m,i,j⟩:=h.facts
 have hr:(execOp a.eval (Oper.mk (some d) (.call ⟨.value (.func f),args,b⟩) ty pos aft g)).run P w=.ok (.enter f vs.toArray) w:=by
  simp only[execOp,resolve,Ea h ha,Sem.run_bind,Act.eval]
  simp[Deferred.ofValue,invoke,hc]
 simp only[Oper.wp,hr,Oper.upon]
 refine(hf X w i (fun R hR=>j R (c R hR))).mono ?_
 rintro e w' ⟨v,Ψ,rfl,q,p,o⟩
 exact k v Ψ _ _ q ((h.called p h1 m i j o).put hd v)
def Ji(P:Program)(f:FuncId)(args:List Value)(v:Value): Prop:=Ctr P f args [] (fun u Ψ=>u=v∧Ψ=[])
def Ctr0(P:Program)(f:FuncId)(args:List Value)(post:Value→Prop): Prop:=Ctr P f args [] (fun u Ψ=>post u∧Ψ=[])
theorem Qw(h:St n S w0 L σ Φ a w){d:Nat}{f:FuncId}{args:Array Operand}{c:Array TypeId}{g:Option (Nat×Bool)}{vs:List Value}{v:Value}(ha:args.toList.map (Fx.ev L)=vs.map some)(hc:∀args w,(callFunc f args).run P w=.ok (.enter f args) w)(hf:Ji P f vs v)(hd:d<n)(k:∀b w',St n S w0 ((d,v)::L) σ Φ b w'→K b w'): (Oper.mk (some d) (.call ⟨.value (.func f),args,c⟩) ty pos aft g).wp P a w K Q :=
 Pk h ha hc hf (fun _ hR=>nomatch hR) hd fun u Ψ b w' i e=>by obtain ⟨rfl,rfl⟩:=i;exact k b w' e
theorem Zh{d:Nat}{c:Bool}{G:Prop}(h:St n S w0 ((d,.bool c)::L) σ Φ a w)(k1:c=true→St n S w0 ((d,.bool true)::L) σ Φ a w→G)(k2:c=false→St n S w0 ((d,.bool false)::L) σ Φ a w→G): G:=by
 cases c
 ·exact k2 rfl h
 ·exact k1 rfl h
theorem QQ{ops:Array Oper}{rest:List Oper}{o:Oper}(hw:Region.wanted o (yielded ops a.tmps)=true)(h:o.wp P a w (wpList P ops Q rest) Q): wpList P ops Q (o::rest) a w:=by
 unfold wpList;rw[if_pos hw];exact .inl h
theorem Zc{ops:Array Oper}{rest:List Oper}{d:Option Tmp}{op:Op}{ty:TypeId}{pos:String}{b:Array Edge}(h:(Oper.mk d op ty pos b none).wp P a w (wpList P ops Q rest) Q): wpList P ops Q (Oper.mk d op ty pos b none::rest) a w :=
 QQ rfl h
theorem Ao(h:St n S w0 L σ Φ a w){ops:Array Oper}{d:Option Tmp}{op:Op}{j:Nat}{want c:Bool}{t:Nat}(hj:(ops[j]?).bind (·.dst)=some t)(ht:look L t=some (.bool c)): Region.wanted (Oper.mk d op ty pos aft (some (j,want))) (yielded ops a.tmps)=(c == want):=by
 have hv:=h.val t _ ht
 have b:t<a.tmps.size:=by
  rcases Nat.lt_or_ge t a.tmps.size with e|e
  ·exact e
  ·rw[Array.getD_eq_getD_getElem?,Array.getElem?_eq_none e] at hv;exact absurd hv (by simp[undef])
 have f:a.tmps[t]?=some (.bool c):=by
  rw[Array.getD_eq_getD_getElem?,Array.getElem?_eq_getElem b] at hv
  rw[Array.getElem?_eq_getElem b];simpa using hv
 simp only[Region.wanted,yielded,hj,f,Option.bind_some]
 cases c<;>cases want<;>rfl
theorem Zq{ops:Array Oper}{rest:List Oper}{d:Option Tmp}{op:Op}{j:Nat}{want:Bool}(t:Nat)(h:St n S w0 L σ Φ a w)(hj:(ops[j]?).bind (·.dst)=some t)(ht:look L t=some (.bool want))(k:(Oper.mk d op ty pos aft (some (j,want))).wp P a w (wpList P ops Q rest) Q): wpList P ops Q (Oper.mk d op ty pos aft (some (j,want))::rest) a w :=
 QQ (by rw[Ao h hj ht];simp) k
theorem ci{ops:Array Oper}{rest:List Oper}{d:Nat}{op:Op}{j:Nat}{want c:Bool}(t:Nat)(h:St n S w0 L σ Φ a w)(hj:(ops[j]?).bind (·.dst)=some t)(ht:look L t=some (.bool c))(b:(c == want)=false)(hd:d<n)(k:∀e,St n S w0 ((d,undef)::L) σ Φ e w→wpList P ops Q rest e w): wpList P ops Q (Oper.mk (some d) op ty pos aft (some (j,want))::rest) a w:=by
 unfold wpList
 rw[if_neg (by rw[Ao h hj ht,b];simp)]
 exact k _ (h.put hd _)
def iU:Nat→List Value→List (Nat×Value)
 | _,[]=>[]
 | i,v::vs=>(i,v)::iU (i+1) vs
theorem EW:∀(vs:List Value) (i t:Nat) (v:Value),look (iU i vs) t=some v→i≤t∧vs[t-i]?=some v
 | [],_,_,_,h=>by simp[iU,look] at h
 | u::vs,i,t,v,h=>by
  simp only[iU,look] at h
  cases a:Nat.beq i t with
  | true =>
   have e:=Nat.eq_of_beq_eq_true a
   subst e
   rw[a] at h
   exact⟨Nat.le_refl _,by simpa using h⟩
  | false =>
   rw[a] at h
   obtain ⟨h1,b⟩:=EW vs (i+1) t v h
   refine⟨by omega,?_⟩
   have e:t-i=(t-(i+1))+1:=by omega
   rw[e];simpa using b
def gp(S:Nat→Prop)(w0:World)(post:Value→List Zp→Prop): Ending→World→Prop :=
 fun e w' => ∃v Ψ,e=.returned v∧post v Ψ∧Below w0.heap.size w0 w' ∧ ∀R∈Ψ,R.p S w'
theorem fn_intro{f:FuncId}{fn:Func}{c:Code}{args:List Value}{post:Value→List Zp→Prop}{n:Nat}(hf:P.funcs[f]?=some fn)(l:fn.body=some c)(m:fn.ntmps=n)(hl:args.length≤n)(h:∀S w0 a,(∀k,S k→k<w0.heap.size)→St n S w0 (iU 0 args) [] Φ a w0→c.wp P (bodyPost P fn (gp S w0 post)) a w0): Ctr P f args Φ post:=by
 intro X w j i
 refine calls_of_wp hf l (h X w _ j ⟨?_,rfl,fun t v ht=>?_,Below.refl _ _,(fun _ b=>nomatch b),(fun _ b=>nomatch b),List.Pairwise.nil,⟨X,fun _ h=>h,(fun _ b=>nomatch b),j,i⟩⟩)
 ·simp[m];omega
 ·obtain ⟨_,d⟩:=EW args 0 t v ht
  have g:t<args.length:=by
   rcases Nat.lt_or_ge t args.length with e|e
   ·exact e
   ·simp[List.getElem?_eq_none e] at d
  simp at d
  rw[Array.getD_eq_getD_getElem?,Array.getElem?_append_left (by simpa using g)]
  simp[d]
inductive ResIs (P:Program) (L:List (Nat×Value)) (σ:List (Nat×Obj)):ResultVar→Value→Prop
 | tmp {t v} (h:look L t=some v):ResIs P L σ (.tmp t) v
 | cell {t T b cs Tb fr agg s v} (h:look L t=some (.pointer (some ⟨b,0,none⟩))) (hm:(b,Obj.cells cs Tb fr)∈σ)
   (hagg:∀w,(isAgg T).run P w=.ok agg w) (hs:∀w,(Go.sizeOf T).run P w=.ok s w) (hv:Zk agg s cs 0=some v):ResIs P L σ (.cell t T) v
theorem FZ{w:World}{b off:Nat}{cs:Array Value}{a:TypeId}{fr:Nat×Nat}(h:w.heap[b]?=some (.cells cs a fr)){T:TypeId}{agg:Bool}{s:Nat}{v:Value}(hagg:∀w,(isAgg T).run P w=.ok agg w)(hs:∀w,(Go.sizeOf T).run P w=.ok s w)(hv:Zk agg s cs off=some v):
  (loadVar T ⟨b,off,none⟩).run P w=.ok v w:=by
 have:=Xs (P:=P) h hagg hs hv
 simpa [Instr.loadAt,Instr.sureAddr] using this
theorem ResIs.run(h:St n S w0 L σ Φ a w){r:ResultVar}{v:Value}(hr:ResIs P L σ r v):
  (match r with
   | .tmp t=>(pure (a.tmps.getD t undef):Sem Value)
   | .cell x t=>do loadVar t (←asAddr (a.tmps.getD x undef))).run P w=.ok v w:=by
 cases hr with
 | tmp ht=>simp only[h.val _ _ ht];rfl
 | cell ht hm hagg hs hv =>
  simp only[h.val _ _ ht,Sem.run_bind]
  exact FZ (h.own _ hm) hagg hs hv
theorem AK{fn:Func}(hr:fn.results=#[]): (results fn a.tmps).run P w=.ok (.tuple #[]) w:=by
 simp[results,hr]
theorem Ze(h:St n S w0 L σ Φ a w){fn:Func}{r:ResultVar}{v:Value}(hr:fn.results=#[r])(h1:ResIs P L σ r v):
  (results fn a.tmps).run P w=.ok v w:=by
 have b:=h1.run h
 rw[show(results fn a.tmps)=(do
   let x ←(match r with | .tmp t=>(pure (a.tmps.getD t undef):Sem Value) | .cell x t=>do loadVar t (←asAddr (a.tmps.getD x undef)))
   pure x) from by simp[results,hr];rfl]
 exact b
theorem Zw(h:St n S w0 L σ Φ a w){fn:Func}{r1 b:ResultVar}{v1 v2:Value}(hr:fn.results=#[r1,b])(h1:ResIs P L σ r1 v1)(c:ResIs P L σ b v2):
  (results fn a.tmps).run P w=.ok (.tuple #[v1,v2]) w:=by
 have e:=h1.run h
 have d:=c.run h
 rw[show(results fn a.tmps)=(do
   let x ←(match r1 with | .tmp t=>(pure (a.tmps.getD t undef):Sem Value) | .cell x t=>do loadVar t (←asAddr (a.tmps.getD x undef)))
   let y ←(match b with | .tmp t=>(pure (a.tmps.getD t undef):Sem Value) | .cell x t=>do loadVar t (←asAddr (a.tmps.getD x undef)))
   pure (.tuple #[x,y])) from by simp[results,hr];rfl]
 simp only[Sem.run_bind,e,d,Result.andThen]
 rfl
theorem Ah(h:St n S w0 L σ Φ a w){fn:Func}{r1 c b:ResultVar}{v1 v2 v3:Value}(hr:fn.results=#[r1,c,b])(h1:ResIs P L σ r1 v1)(d:ResIs P L σ c v2)(g:ResIs P L σ b v3):
  (results fn a.tmps).run P w=.ok (.tuple #[v1,v2,v3]) w:=by
 have f:=h1.run h
 have i:=d.run h
 have e:=g.run h
 rw[show(results fn a.tmps)=(do
   let x ←(match r1 with | .tmp t=>(pure (a.tmps.getD t undef):Sem Value) | .cell x t=>do loadVar t (←asAddr (a.tmps.getD x undef)))
   let y ←(match c with | .tmp t=>(pure (a.tmps.getD t undef):Sem Value) | .cell x t=>do loadVar t (←asAddr (a.tmps.getD x undef)))
   let z ←(match b with | .tmp t=>(pure (a.tmps.getD t undef):Sem Value) | .cell x t=>do loadVar t (←asAddr (a.tmps.getD x undef)))
   pure (.tuple #[x,y,z])) from by simp[results,hr];rfl]
 simp only[Sem.run_bind,f,i,e,Result.andThen]
 rfl
theorem Qn(h:St n S w0 L σ Φ a w){fn:Func}{post:Value→List Zp→Prop}{v:Value}{Ψ:List Zp}(hr:(results fn a.tmps).run P w=.ok v w)(d:post v Ψ)(hs:∀R∈Ψ,R∈Φ): bodyPost P fn (gp S w0 post) .ret a w:=by
 obtain ⟨X,h1,f,g,e⟩:=h.facts
 exact⟨h.defers,v,hr,v,Ψ,rfl,d,h.ext,fun R hR=>R.st X S w w (e R (hs R hR)) (fun _ _ _=>rfl) (Nat.le_refl _) (fun b c =>.inl (h1 b c))⟩
theorem end_of(h:St n S w0 L σ Φ a w){fn:Func}{post:Value→List Zp→Prop}{v:Value}{Ψ:List Zp}(hr:(results fn a.tmps).run P w=.ok v w)(b:post v Ψ)(hs:∀R∈Ψ,R∈Φ): bodyPost P fn (gp S w0 post) .normal a w:=Qn (P:=P) h hr b hs
theorem Js(h:St n S w0 L σ Φ a w){fn:Func}{v u:Value}(hr:(results fn a.tmps).run P w=.ok u w)(hv:u=v):
  bodyPost P fn (gp S w0 (fun u Ψ=>u=v∧Ψ=[])) .ret a w:=Qn (Ψ:=[]) h hr ⟨hv,rfl⟩ (fun _ hR=>nomatch hR)
def QO(L:List (Nat×Value)): List (Nat×Value)→Prop
 | []=>True
 | p::M=>look L p.1=some p.2∧QO L M
theorem subL:∀ {M:List (Nat×Value)},QO L M → ∀t v,look M t=some v→look L t=some v
 | [],_,t,v,h=>by simp[look] at h
 | p::M,b,t,v,h=>by
  simp only[look] at h
  cases a:Nat.beq p.1 t with
  | true=>rw[a] at h;simp at h;subst h;rw[←Nat.eq_of_beq_eq_true a];exact b.1
  | false=>rw[a] at h;exact subL b.2 t v (by simpa using h)
theorem Qo(h:St n S w0 L σ Φ a w){c:Operand}{x y:Code}(hc:Fx.ev L c=some (.bool true))(k:x.wp P Q a w): (Code.cond c x y).wp P Q a w:=wp_cond_true (h.ev hc) k
theorem Zj(h:St n S w0 L σ Φ a w){c:Operand}{x y:Code}(hc:Fx.ev L c=some (.bool false))(k:y.wp P Q a w): (Code.cond c x y).wp P Q a w:=wp_cond_false (h.ev hc) k
theorem Zb(h:St n S w0 L σ Φ a w){c:Operand}{x y:Code}{t:Bool}(hc:Fx.ev L c=some (.bool t))(k1:t=true→x.wp P Q a w)(k2:t=false→y.wp P Q a w): (Code.cond c x y).wp P Q a w :=
 wp_cond_split (h.ev hc) k1 k2
theorem Yl{c1 c2:Code}(J:Act→World→Prop)(h1:c1.wp P (Exit.then J Q) a w)(b:∀a w,J a w→c2.wp P Q a w): (Code.seq c1 c2).wp P Q a w :=
 wp_seq (Code.wp_mono (fun e a w h=>by
  cases e with
  | normal=>exact b a w h
  | _=>exact h) h1)
theorem Jh{c:Code}{v:Type}(J:v→Act→World→Prop)(t:v→Nat)(i0:v)(z:J i0 a w)(round:∀i a w,J i a w→c.wp P (Exit.then (fun o w' => ∃s,J s o w'∧t s<t i) Q) a w): (Code.loop c).wp P Q a w:=by
 intro b k cs
 have key:∀m i a w,t i=m→J i a w →
   ∃e o w',Q e o w'∧Arrives P (lone (b.at a (.code c :: .inLoop c::k)) cs w) b k cs e o w':=by
  intro m
  induction m using Nat.strongRecOn with
  | _ m y =>
   intro i a w hm A
   obtain ⟨e,g,f,hq,d⟩:=round i a w A b (.inLoop c::k) cs
   cases e with
   | normal =>
    obtain ⟨s,n,u⟩:=hq
    obtain ⟨q,r,p,j,h⟩:=y (t s) (hm ▸ u) s g f rfl n
    exact⟨q,r,p,j,.of_steps (Steps.trans d (.one step_inLoop)) h⟩
   | exit id=>exact⟨_,g,f,hq,.pass (x:=.inLoop c) rfl (fun _ _ =>.inl (by simp)) d⟩
   | goto l=>exact⟨_,g,f,hq,.pass (x:=.inLoop c) rfl (fun _ _ =>.inl (by simp)) d⟩
   | ret=>exact⟨_,g,f,hq,.pass (x:=.inLoop c) rfl (fun _ _ =>.inl (by simp)) d⟩
   | panic B=>exact⟨_,g,f,hq,.pass (x:=.inLoop c) rfl (fun _ _ =>.inl (by simp)) d⟩
   | outgrown=>exact⟨_,g,f,hq,.pass (x:=.inLoop c) rfl (fun _ _ =>.inl (by simp)) d⟩
 obtain ⟨e,o,w',hq,d⟩:=key _ i0 a w rfl z
 exact⟨e,o,w',hq,.of_steps (.one step_loop) d⟩
end
end Go.Fx
namespace Go.Fx
open Go Go.RowKit
variable{ty:TypeId}{pos:String}{aft:Array Edge}
def Ext(w w':World): Prop:=Below w.heap.size w w'
theorem Ext.refl(w:World): Ext w w:=Below.refl _ _
theorem Ext.trans{a b c:World}(h:Ext a b)(k:Ext b c): Ext a c:=Below.trans h (Below.mono k h.size)
theorem Ext.drew(w:World): Ext w w.drew:=(Below.refl _ _).drew
def early(o:Oper): Bool :=
 match o.op with
 | .store .. | .mapUpdate .. | .insert .. | .entryStore .. | .mapEntry .. =>false
 | .call ⟨.builtin b,_,_⟩=>(match b with | .len | .cap | .max | .min=>true|_=>false)
 | _=>true
section
variable{P:Program}{ops:Array Oper}
def QN(K:Exit→Act→World→Prop): Exit→Act→World→Prop
 | .normal,a,w=>K .normal a w
 | .panic ch,a,w => ∀tm,K (.panic ch) { a with tmps:=tm } w
 | _,_,_=>False
theorem jm{K:Exit→Act→World→Prop}{d:Option Tmp}{v:Value}{b:List PanicEntry}{a:Act}{w:World}(h:QN K (.panic b) (a.put d v) w): QN K (.panic b) a w:=fun c=>by
 have h1:=h c
 cases d<;>exact h1
def isF(ops:Array Oper)(j:Nat): Bool :=
 match ops[j]? with
 | some ⟨some _,.alloc _,_,_,after,none⟩=>after.all fun e => !Region.binds .any e
 | _=>false
def waits(ops:Array Oper)(j:Nat)(p:Nat→Bool): Bool :=
 match ops[j]? with
 | some o=>o.after.any fun e=>Region.binds .any e && p e.on
 | none=>false
def PP(ops:Array Oper)(t:Nat): Prop := ∀(k:Nat) (ok:Oper),ops[k]?=some ok→ok.dst=some t→isF ops k=true
theorem notF{i:Nat}{o:Oper}(ho:ops[i]?=some o)(h:∀T,o.op ≠ .alloc T): isF ops i=false:=by
 unfold isF
 rw[ho]
 split
 ·rename_i d T a b c he;cases he;exact absurd rfl (h T)
 ·rfl
theorem noF{i t:Nat}{o:Oper}{p:Prop}(ho:ops[i]?=some o)(h:∀T,o.op ≠ .alloc T)(hd:o.dst=some t)(hf:PP ops t): p:=by
 have h1:=hf i o ho hd
 rw[notF ho h] at h1;cases h1
def Oj(o:Oper)(a:Act)(w w':World): Prop := ∀T t y p,o.op=.store T (.tmp t) y→a.tmps.getD t undef=.pointer (some p) → ∀b,b≠p.block→w'.heap[b]?=w.heap[b]?
def Left(ops:Array Oper)(o:Oper)(a:Act)(w:World)(a':Act)(w':World): Prop :=
 (early o=true→Ext w w')∧(∀T t y p,o.op=.store T (.tmp t) y→PP ops t→a.tmps.getD t undef=.pointer (some p) → ∀b,b≠p.block→w'.heap[b]?=w.heap[b]?) ∧
  (∀t,PP ops t→o.dst≠some t→a'.tmps.getD t undef=a.tmps.getD t undef) ∧
  ∀t,o.dst=some t→PP ops t → ∃b,a'.tmps.getD t undef=.pointer (some ⟨b,0,none⟩)∧w.heap.size≤b
theorem Bq{i t:Nat}{o:Oper}{v:Value}{a:Act}(ho:ops[i]?=some o)(ht:PP ops t)(h:o.dst≠some t): (a.put o.dst v).tmps.getD t undef=a.tmps.getD t undef:=by
 cases hd:o.dst with
 | none=>rfl
 | some d =>
  have b:d≠t:=fun e=>h (by rw[hd,e])
  simp[Act.put,Array.getElem?_setIfInBounds_ne b]
theorem ES{i t:Nat}{o:Oper}{v:Value}{a:Act}(ho:ops[i]?=some o)(hq:isF ops i=false)(ht:PP ops t): (a.put o.dst v).tmps.getD t undef=a.tmps.getD t undef :=
 Bq ho ht (fun h=>by have h1:=ht i o ho h;rw[hq] at h1;cases h1)
theorem Left.same{i:Nat}{o:Oper}{v:Value}{a:Act}{w:World}(ho:ops[i]?=some o)(hq:isF ops i=false): Left ops o a w (a.put o.dst v) w :=
 ⟨fun _=>Ext.refl w,fun _ _ _ _ _ _ _ _ _=>rfl,fun _ ht=>Bq ho ht,fun t hd hf=>by have h1:=hf i o ho hd;rw[hq] at h1;cases h1⟩
theorem Left.unput{i:Nat}{d o:Oper}{v:Value}{a e:Act}{w w':World}(c:ops[i]?=some d)(hq:isF ops i=false)(h:Left ops o (a.put d.dst v) w (e.put d.dst v) w'): Left ops o a w e w' :=
 ⟨h.1,fun T t y p he hf g=>h.2.1 T t y p he hf (by rw[ES c hq hf];exact g),fun t ht hd=>by
  have h1:=h.2.2.1 t ht hd
  rw[ES c hq ht,ES c hq ht] at h1
  exact h1,fun t hd hf=>by
  obtain ⟨b,h1,f⟩:=h.2.2.2 t hd hf
  rw[ES c hq hf] at h1
  exact⟨b,h1,f⟩⟩
def wpX(P:Program)(ops:Array Oper)(Kf:Exit→Act→World→Prop): Nat→Array Bool→Act→World→Prop
 | 0,listed,a,w=>Region.ready .any ops listed=[]∧Kf .normal a w
 | fuel+1,listed,a,w=>(Region.ready .any ops listed=[]→Kf .normal a w) ∧
   ∀i∈Region.ready .any ops listed,wpOp P ops (QN Kf) i (fun a' w'=>(∀o,ops[i]?=some o→Left ops o a w a' w')∧wpX P ops Kf fuel (listed.setIfInBounds i true) a' w') a w
theorem G7{Kf:Exit→Act→World→Prop}: ∀(fuel:Nat) (b:Array Bool) (a:Act) (w:World),wpX P ops Kf fuel b a w→wpAny P .any ops (QN Kf) fuel b a w
 | 0,_,_,_,h=>h
 | fuel+1,_,_,_,h=>⟨h.1,fun i d=>wpOp_mono (fun e w' c=>G7 fuel _ e w' c.2) (h.2 i d)⟩
theorem YieldsIf.weaken{S b:World→Prop}{o:Oper}{v:Value}{a:Act}(hs:∀w,b w→S w)(h:YieldsIf P ops S o v a): YieldsIf P ops b o v a :=
 h.imp (fun⟨h1,c⟩=>⟨h1,fun w hw=>c w (hs w hw)⟩) id
theorem UW{Kf:Exit→Act→World→Prop}{i:Nat}{y:Oper}{v:Value}(q:ops[i]?=some y)(n:∀(j:Nat) (o:Oper) cs b,ops[j]?=some o→o.op ≠ .select cs b)(u:isF ops i=false)(ld:Bool)(T:List Nat):
  ∀(fuel:Nat) (c:Array Bool) (a:Act) (w:World),
   (∀j s,ops[j]?=some s→j≠i→c.getD j true=false→j∉T→y.apart ops s=true∧(ld=true→early s=true)) →
   (∀t∈T,t<c.size∧c.getD t true=false ∧ ∃L,ops[t]?=some L ∧ ∃e∈L.after,Region.binds .any e=true∧(e.on=i∨e.on∈T)) →
   i∈Region.ready .any ops c→YieldsIf P ops (fun w'=>ld=true→Ext w w') y v a →
   wpX P ops Kf fuel (c.setIfInBounds i true) (a.put y.dst v) w→wpX P ops Kf (fuel+1) c a w:=by
 intro fuel
 induction fuel with
 | zero =>
  intro c a w _ _ hr G H
  refine⟨fun h=>(by rw[h] at hr;cases hr),fun j hj=>?_⟩
  by_cases d:j=i
  ·subst d;exact G.wpOp q (fun _=>Ext.refl w) ⟨fun o ho=>by rw[q] at ho;cases ho;exact Left.same q u,H⟩
  ·have:=ready_mono hj d
   rw[H.1] at this
   cases this
 | succ fuel Q =>
  intro c a w f hT hr G H
  refine⟨fun h=>(by rw[h] at hr;cases hr),fun j hj=>?_⟩
  by_cases d:j=i
  ·subst d;exact G.wpOp q (fun _=>Ext.refl w) ⟨fun o ho=>by rw[q] at ho;cases ho;exact Left.same q u,H⟩
  ·have h1:=H.2 j (ready_mono hj d)
   obtain ⟨p,s,g,D⟩:=mem_ready.1 hj
   have r:∀k,k<c.size→c.getD k true=false→c.getD k false=true→False:=fun k hk x h1=>by
    simp[hk] at x h1;rw[x] at h1;cases h1
   have A:∀k,c.getD k true=false→k<c.size:=fun k x=>by
    rcases Nat.lt_or_ge k c.size with M|M
    ·exact M
    ·simp[Array.getElem?_eq_none M] at x
   have m:j∉T:=fun K=>by
    obtain ⟨_,_,L,B,e,he,S,hk⟩:=hT j K
    rw[g] at B;cases B
    have h1:=D e he S
    rcases hk with hk|hk
    ·have x:=(mem_ready.1 hr).1
     rw[hk] at h1;exact r i (A i x) x h1
    ·exact r e.on (hT _ hk).1 (hT _ hk).2.1 h1
   have z:=f j s g d p m
   have O:=wpOp_putIf g z.1 (fun cs b=>n i y cs b q) (fun cs b=>n j s cs b g) (fun _ _ _ h=>jm h) G h1
   have l:∀k ok,ops[k]?=some ok→k≠i→(c.setIfInBounds j true).getD k true=false →
     k∉T→y.apart ops ok=true∧(ld=true→early ok=true):=fun k ok hk N F J=>by
    refine f k ok hk N ?_ J
    by_cases E:j=k
    ·subst E;exact p
    ·rw[getD_set_ne true E] at F;exact F
   refine wpOp_mono (fun U w' I=>⟨fun o ho=>(I.2.1 o ho).unput q u,Q (c.setIfInBounds j true) U w' l (fun t ht=>⟨by simpa using (hT t ht).1,by rw[getD_set_ne true (fun e=>m (by rw[e];exact ht))];exact(hT t ht).2.1,(hT t ht).2.2⟩) (ready_mono hr (Ne.symm d)) (YieldsIf.weaken (fun R C hl=>?_) I.1) ?_⟩) O
   ·exact((I.2.1 s g).1 (z.2 hl)).trans (C hl)
   ·rw[Array.setIfInBounds_comm _ _ d]
    exact I.2.2
theorem cm{Kf:Exit→Act→World→Prop}{i b:Nat}{J:Oper}{v:Value}{X:Obj}(q:ops[i]?=some J)(r:∀(j:Nat) (o:Oper) cs b,ops[j]?=some o→o.op ≠ .select cs b)(n:isF ops i=false):
  ∀(fuel:Nat) (c:Array Bool) (a:Act) (w:World),w.heap[b]?=some X →
   (∀j f,ops[j]?=some f→j≠i→c.getD j true=false→(∀e∈f.after,Region.binds .any e=true→e.on≠i)→J.apart ops f=true ∧
    (early f=true ∨ ∃T t y,f.op=.store T (.tmp t) y∧PP ops t∧((∃p:Addr,a.tmps.getD t undef=.pointer (some p)∧p.block≠b) ∨
     ∃k ok,ops[k]?=some ok∧ok.dst=some t∧k<c.size∧c.getD k true=false ∧ ∃e∈f.after,Region.binds .any e=true∧e.on=k))) →
   i∈Region.ready .any ops c→YieldsIf P ops (fun w'=>w'.heap[b]?=some X) J v a →
   wpX P ops Kf fuel (c.setIfInBounds i true) (a.put J.dst v) w→wpX P ops Kf (fuel+1) c a w:=by
 intro fuel
 induction fuel with
 | zero =>
  intro c a w x _ hr N H
  refine⟨fun h=>(by rw[h] at hr;cases hr),fun j hj=>?_⟩
  by_cases d:j=i
  ·subst d;exact N.wpOp q x ⟨fun o ho=>by rw[q] at ho;cases ho;exact Left.same q n,H⟩
  ·have:=ready_mono hj d
   rw[H.1] at this
   cases this
 | succ fuel ih =>
  intro c a w x g hr N H
  refine⟨fun h=>(by rw[h] at hr;cases hr),fun j hj=>?_⟩
  by_cases d:j=i
  ·subst d;exact N.wpOp q x ⟨fun o ho=>by rw[q] at ho;cases ho;exact Left.same q n,H⟩
  ·have h1:=H.2 j (ready_mono hj d)
   obtain ⟨s,f,l,u⟩:=mem_ready.1 hj
   have I:∀e∈f.after,Region.binds .any e=true→e.on≠i:=fun e he x heq=>by
    have h1:=u e he x
    have h0:=(mem_ready.1 hr).1
    rw[heq] at h1
    rcases Nat.lt_or_ge i c.size with E|E
    ·simp[E] at h0 h1;rw[h0] at h1;cases h1
    ·simp[Array.getElem?_eq_none E] at h1
   have G:=g j f l d s I
   have h2:=wpOp_putIf l G.1 (fun cs b=>r i J cs b q) (fun cs b=>r j f cs b l) (fun _ _ _ h=>jm h) N h1
   refine wpOp_mono (fun a' w' O=>?_) h2
   have Q:Left ops f a w a' w':=(O.2.1 f l).unput q n
   have a6:b<w.heap.size:=by
    rcases Nat.lt_or_ge b w.heap.size with E|E
    ·exact E
    ·simp[Array.getElem?_eq_none E] at x
   have U:w'.heap[b]?=some X:=by
    rcases G.2 with he|⟨T,t,y,he,hf,⟨p,V,C⟩|⟨k,ok,hk,B,D,m,e,R,Z,Y⟩⟩
    ·rw[(Q.1 he).block b a6];exact x
    ·rw[Q.2.1 T t y p he hf V b (Ne.symm C)];exact x
    ·exfalso
     have F:=u e R Z
     rw[Y] at F
     simp[D] at F m
     rw[m] at F;cases F
   refine⟨fun o ho=>(O.2.1 o ho).unput q n,ih (c.setIfInBounds j true) a' w' U ?_ (ready_mono hr (Ne.symm d)) O.1 ?_⟩
   ·intro k ok hk a7 L S
    have M:c.getD k true=false:=by
     by_cases K:j=k
     ·subst K;exact s
     ·rw[getD_set_ne true K] at L;exact L
    obtain ⟨g1,g2⟩:=g k ok hk a7 M S
    refine⟨g1,?_⟩
    rcases g2 with g2|⟨T,t,y,he,hf,g3⟩
    ·exact .inl g2
    ·refine .inr ⟨T,t,y,he,hf,?_⟩
     by_cases z:f.dst=some t
     ·obtain ⟨b2,F,h6⟩:=Q.2.2.2 t z hf
      exact .inl ⟨_,F,by show b2≠b;omega⟩
     ·rcases g3 with ⟨p,V,C⟩|⟨k2,W,A,B,D,m,a1⟩
      ·exact .inl ⟨p,by rw[Q.2.2.1 t hf z];exact V,C⟩
      ·refine .inr ⟨k2,W,A,B,by simpa using D,?_,a1⟩
       rw[getD_set_ne true (fun e=>z (by subst e;rw[l] at A;cases A;exact B))];exact m
   ·rw[Array.setIfInBounds_comm _ _ d]
    exact O.2.2
theorem S1{o:Oper}{a:Act}{K:Act→World→Prop}{Q b:Exit→Act→World→Prop}(hq:∀e a w,Q e a w→b e a w){r:Result Next}(h:o.upon P a K Q r): o.upon P a K b r:=by
 cases r with
 | ok nx w' =>
  cases nx<;>simp only[Oper.upon] at h ⊢<;>try exact h
  case enter f args =>
   refine h.mono fun e d he=>?_
   cases e with
   | returned v=>exact he
   | panicked c=>exact hq _ _ _ he
   | outgrown=>obtain ⟨a0,w0,g⟩:=he;exact⟨a0,w0,hq _ _ _ g⟩
 | halt x w' =>
  cases x<;>simp only[Oper.upon] at h ⊢<;>try exact h
  case panic v=>exact hq _ _ _ h
theorem JR{i:Nat}{a:Act}{w:World}{K:Act→World→Prop}{Q b:Exit→Act→World→Prop}(hq:∀e a w,Q e a w→b e a w)(h:wpOp P ops Q i K a w): wpOp P ops b i K a w:=by
 unfold wpOp at *
 split
 ·rename_i ho;simp only[ho] at h;exact h
 ·rename_i o ho
  simp only[ho] at h
  split
  ·rename_i hw
   simp only[hw,if_true] at h
   rcases h with h|⟨h1,a0,w0,c⟩
   ·exact .inl (S1 hq h)
   ·exact .inr ⟨h1,a0,w0,hq _ _ _ c⟩
  ·rename_i hw;simp only[hw] at h;exact h
def ku(d:Option Tmp)(v:Value)(L:List (Nat×Value)): List (Nat×Value) :=
 match d with
 | some d=>(d,v)::L
 | none=>L
def ON(ops:Array Oper)(i:Nat)(H:List Nat): Bool := !(waits ops i fun k=>k == i || H.contains k)
def later(ops:Array Oper)(i:Nat): List Nat→List Nat→List Nat
 | acc,[]=>acc
 | acc,j::H=>if waits ops j (fun k=>k == i || acc.contains k) then later ops i (j::acc) H else later ops i acc H
theorem JV{j:Nat}{p q:Nat→Bool}(h:∀k,p k=true→q k=true)(hw:waits ops j p=true): waits ops j q=true:=by
 unfold waits at *
 split at hw
 ·obtain ⟨e,he,a⟩:=Array.any_eq_true'.1 hw
  simp only[Bool.and_eq_true] at a
  exact Array.any_eq_true'.2 ⟨e,he,by simp[a.1,h _ a.2]⟩
 ·cases hw
theorem GH{i:Nat}: ∀(H acc:List Nat),(∀t∈acc,waits ops t (fun k=>k == i || acc.contains k)=true) →
  ∀t∈later ops i acc H,(t∈acc∨t∈H)∧waits ops t (fun k=>k == i || (later ops i acc H).contains k)=true
 | [],acc,ha,t,ht=>⟨.inl ht,ha t ht⟩
 | j::H,acc,ha,t,ht=>by
  unfold later at ht ⊢
  split at ht
  ·rename_i hw
   rw[if_pos hw]
   obtain ⟨h1,a⟩:=GH H (j::acc) (fun t ht=>by
    rcases List.mem_cons.1 ht with rfl|ht
    ·exact JV (fun k hk=>by
      simp only[Bool.or_eq_true,List.contains_iff_mem,List.mem_cons] at hk ⊢
      exact hk.imp id .inr) hw
    ·exact JV (fun k hk=>by
      simp only[Bool.or_eq_true,List.contains_iff_mem,List.mem_cons] at hk ⊢
      exact hk.imp id .inr) (ha t ht)) t ht
   refine⟨?_,a⟩
   rcases h1 with h1|h1
   ·rcases List.mem_cons.1 h1 with rfl|h1
    ·exact .inr List.mem_cons_self
    ·exact .inl h1
   ·exact .inr (List.mem_cons_of_mem _ h1)
  ·rename_i hw
   rw[if_neg hw]
   obtain ⟨h1,a⟩:=GH H acc ha t ht
   exact⟨h1.imp id (List.mem_cons_of_mem _),a⟩
def Yp(ops:Array Oper)(ld:Bool)(i:Nat)(H:List Nat): Bool :=
 !isF ops i && ON ops i H && H.all fun j=>(later ops i [] H).contains j ||
  (match ops[i]?,ops[j]? with|some oi,some oj=>oi.apart ops oj && (!ld || early oj)|_,_=>false)
def RH(ops:Array Oper)(i:Nat)(H:List Nat)(ts:List Nat): Bool :=
  !isF ops i && ON ops i H && (H.all fun j=>waits ops j (· == i) ||
    (match ops[i]?,ops[j]? with
     | some oi,some oj=>oi.apart ops oj && (early oj || (match oj.op with | .store _ (.tmp t) _=>ts.contains t || (H.any fun k=>isF ops k && ((ops[k]?).bind (·.dst) == some t) && waits ops j (· == k))|_=>false))
     | _,_=>false)) &&
  ts.all fun t=>ops.all fun o => !(o.dst == some t)
def Vm(ops:Array Oper)(i:Nat)(H:List Nat): Bool :=
 !isF ops i && ON ops i H && H.all fun j=>isF ops j || waits ops j fun k=>k == i || (H.contains k && !isF ops k)
def LP(ops:Array Oper)(i:Nat)(H:List Nat): Bool :=
 isF ops i && H.all fun j=>isF ops j || waits ops j fun k=>k == i || (H.contains k && !isF ops k)
def Mk(ops:Array Oper): Bool :=
 (List.range ops.size).all fun j=>(List.range ops.size).all fun k=>j == k ||
  (match (ops[j]?).bind (·.dst),(ops[k]?).bind (·.dst) with|some x,some y => !(x == y)|_,_=>true)
theorem A1(h:Mk ops=true){j k d:Nat}{b ok:Oper}(hj:ops[j]?=some b)(hk:ops[k]?=some ok)(hd:b.dst=some d)(he:ok.dst=some d): j=k:=by
 unfold Mk at h
 have h1:=List.all_eq_true.1 h j (List.mem_range.2 (Array.getElem?_eq_some_iff.1 hj).1)
 have a:=List.all_eq_true.1 h1 k (List.mem_range.2 (Array.getElem?_eq_some_iff.1 hk).1)
 simp[hj,hk,hd,he] at a
 exact a
theorem JU{j:Nat}{p:Nat→Bool}{a:Array Bool}(h:waits ops j p=true)(hr:j∈Region.ready .any ops a): ∃k,p k=true∧a.getD k false=true:=by
 obtain ⟨_,o,ho,b⟩:=mem_ready.1 hr
 unfold waits at h
 simp only[ho] at h
 obtain ⟨e,he,c⟩:=Array.any_eq_true'.1 h
 simp only[Bool.and_eq_true] at c
 exact⟨e.on,c.2,b e he c.1⟩
theorem Bo{i:Nat}{H:List Nat}{a:Array Bool}{o:Oper}(ho:ops[i]?=some o)(h:ON ops i H=true)(hl:∀k,k<ops.size→k≠i→k∉H→a.getD k false=true)(d:a.getD i true=false)(b:∀e∈o.after,e.on<ops.size): i∈Region.ready .any ops a:=by
 refine mem_ready.2 ⟨d,o,ho,fun e he c=>?_⟩
 unfold ON waits at h
 simp only[ho,Bool.not_eq_true'] at h
 have h1:¬((e.on == i || H.contains e.on)=true):=fun hc=>by
  have:(o.after.any fun e=>Region.binds .any e && (e.on == i || H.contains e.on))=true :=
   Array.any_eq_true'.2 ⟨e,he,by simp only[c,Bool.true_and];exact hc⟩
  rw[this] at h;cases h
 simp only[Bool.or_eq_true,beq_iff_eq,List.contains_iff_mem,not_or] at h1
 exact hl e.on (b e he) h1.1 h1.2
def kL(ops:Array Oper): Bool:=ops.all fun o=>o.after.all fun e=>decide (e.on<ops.size)
theorem Vd:∀ {l l':List Nat},l.Nodup→l ⊆ l'→l.length≤l'.length
 | [],_,_,_=>Nat.zero_le _
 | x::l,l',c,hs=>by
  have hx:x∈l':=hs List.mem_cons_self
  have a:=List.nodup_cons.1 c
  have:=Vd (l:=l) (l':=l'.erase x) a.2 (fun y b=>(List.mem_erase_of_ne (fun e=>a.1 (by rw[←e];exact b))).2 (hs (List.mem_cons_of_mem _ b)))
  rw[List.length_erase_of_mem hx] at this
  have d:=List.length_pos_of_mem hx
  simp;omega
def AN(ops:Array Oper)(H:List Nat): Array Bool:=((List.range ops.size).map fun k => !H.contains k).toArray
def QV(ops:Array Oper)(i j:Nat)(H:List Nat): Bool :=
 !isF ops i && !isF ops j && H.contains j && ON ops i H && ON ops j (i::H.erase j) && H.all fun k=>k == j || isF ops k || waits ops k fun m=>m == i || m == j || (H.contains m && !isF ops m)
def Al(P:Program)(ops:Array Oper)(n:Nat)(S:Nat→Prop)(w0:World)(i:Nat)(o:Oper)(C:List (Nat×Value)→List (Nat×Obj)→List Zp→Prop)(L:List (Nat×Value))(σ:List (Nat×Obj))(Φ:List Zp): Prop :=
 ∀a w σx,St n S w0 L (σx++σ) Φ a w→wpOp P ops (fun _ _ _=>False) i (fun a' w'=>((early o=true→Ext w w')∧Oj o a w w') ∧ ∃v σ' Φ',a'=a.put o.dst v∧St n S w0 (ku o.dst v L) (σx++σ') Φ' a' w' ∧
  C (ku o.dst v L) σ' Φ') a w
abbrev HeadC(P:Program)(ops:Array Oper)(n:Nat)(S:Nat→Prop)(w0:World)(Kf:Exit→Act→World→Prop)(i:Nat)(H:List Nat)(C:List (Nat×Value)→List (Nat×Obj)→List Zp→Prop)(D:Nat→List (Nat×Value)→List (Nat×Obj)→List Zp→Prop)(L:List (Nat×Value))(σ:List (Nat×Obj))(Φ:List Zp): Prop :=
 (∃o d v,∃ld:Bool,ops[i]?=some o∧o.dst=some d∧d<n∧Yp ops ld i H=true ∧
   (∀a w σx,St n S w0 L (σx++σ) Φ a w→YieldsIf P ops (fun w'=>ld=true→Ext w w') o v a)∧C ((d,v)::L) σ Φ) ∨
  (∃o,ops[i]?=some o∧Vm ops i H=true ∧
   (∀a w σx,St n S w0 L (σx++σ) Φ a w→wpOp P ops (fun _ _ _=>False) i (fun a' w'=>((early o=true→Ext w w')∧Oj o a w w') ∧ ∃v σ' Φ',a'=a.put o.dst v∧St n S w0 (ku o.dst v L) (σx++σ') Φ' a' w' ∧
    C (ku o.dst v L) σ' Φ') a w)) ∨
  (∃d T z ty pos after,ops[i]?=some ⟨some d,.alloc T,ty,pos,after,none⟩∧LP ops i H=true∧(∀w,(zeroValue T).run P w=.ok z w)∧d<n ∧
   ∀b,C ((d,.pointer (some ⟨b,0,none⟩))::L) ((b,.cells z.cells T (0,0))::σ) Φ) ∨
  (∃o d v b,∃ts:List Nat,ops[i]?=some o∧o.dst=some d∧d<n∧RH ops i H ts=true ∧
   (∀a w σx,St n S w0 L (σx++σ) Φ a w → ∃o0,w.heap[b]?=some o0∧YieldsIf P ops (fun w'=>w'.heap[b]?=some o0) o v a∧(∀q∈σx,q.1≠b) ∧ ∀t∈ts,∃p:Addr,look L t=some (.pointer (some p))∧p.block≠b) ∧
   C ((d,v)::L) σ Φ) ∨
  (((i::H).all fun j => !isF ops j)=true ∧ ∀a w,St n S w0 L σ Φ a w→wpX P ops Kf (H.length+1) (AN ops (i::H)) a w) ∨
  (∃j oi oj,ops[i]?=some oi∧ops[j]?=some oj∧QV ops i j H=true ∧
   Al P ops n S w0 i oi (fun L σ Φ=>C L σ Φ) L σ Φ∧Al P ops n S w0 j oj (fun L σ Φ=>D j L σ Φ) L σ Φ)
def Z9(P:Program)(ops:Array Oper)(n:Nat)(S:Nat→Prop)(w0:World)(Kf:Exit→Act→World→Prop): Nat→List Nat→List (Nat×Value)→List (Nat×Obj)→List Zp→Prop
 | _+1,[]=>fun L σ Φ => ∀a w,St n S w0 L σ Φ a w→Kf .normal a w
 | 0,_=>fun L σ Φ => ∀a w,St n S w0 L σ Φ a w→Kf .normal a w
 | k+1,i::H=>fun L σ Φ=>HeadC P ops n S w0 Kf i H (Z9 P ops n S w0 Kf k H) (fun j=>Z9 P ops n S w0 Kf k (i::H.erase j)) L σ Φ
def Head(P:Program)(ops:Array Oper)(n:Nat)(S:Nat→Prop)(w0:World)(Kf:Exit→Act→World→Prop)(H:List Nat)(L:List (Nat×Value))(σ:List (Nat×Obj))(Φ:List Zp): Prop:=Z9 P ops n S w0 Kf H.length H L σ Φ
theorem Ol{P:Program}{ops:Array Oper}{n:Nat}{S:Nat→Prop}{w0:World}{Kf:Exit→Act→World→Prop}{i:Nat}{H:List Nat}{L:List (Nat×Value)}{σ:List (Nat×Obj)}{Φ:List Zp}:
  Head P ops n S w0 Kf (i::H) L σ Φ=HeadC P ops n S w0 Kf i H (fun L σ Φ=>Head P ops n S w0 Kf H L σ Φ) (fun j=>Z9 P ops n S w0 Kf H.length (i::H.erase j)) L σ Φ:=rfl
structure Flo where
 i:Nat
 d:Nat
 b:Nat
 T:TypeId
 z:Value
def Flo.fits(P:Program)(ops:Array Oper)(g:Flo): Prop :=
 (∃ty pos after,ops[g.i]?=some ⟨some g.d,.alloc g.T,ty,pos,after,none⟩)∧isF ops g.i=true∧(∀w,(zeroValue g.T).run P w=.ok g.z w)
def Flo.own(g:Flo): Nat×Obj:=(g.b,.cells g.z.cells g.T (0,0))
variable{n:Nat}{S:Nat→Prop}{w0:World}{L:List (Nat×Value)}{σ:List (Nat×Obj)}{Φ:List Zp}{a:Act}{w:World}
theorem St.perm(h:St n S w0 L σ Φ a w){σ':List (Nat×Obj)}(c:σ'.Perm σ): St n S w0 L σ' Φ a w :=
 { h with
  own:=fun p b=>h.own p (c.mem_iff.1 b)
  new:=fun p b=>h.new p (c.mem_iff.1 b)
  nd:=(c.pairwise_iff (fun {x y} hxy=>Ne.symm hxy)).2 h.nd
  facts:=by
   obtain ⟨X,h1,d,e,f⟩:=h.facts
   exact⟨X,h1,fun p b=>d p (c.mem_iff.1 b),e,f⟩ }
theorem St.learn(h:St n S w0 L σ Φ a w){d:Nat}{v:Value}(hd:a.tmps.getD d undef=v): St n S w0 ((d,v)::L) σ Φ a w :=
 { h with
  val:=fun t u ht=>by
   simp only[look] at ht
   cases b:Nat.beq d t with
   | true=>rw[b] at ht;simp at ht;have:=Nat.eq_of_beq_eq_true b;subst this;rw[hd,ht]
   | false=>rw[b] at ht;exact h.val t u (by simpa using ht) }
theorem St.putFresh(h:St n S w0 L σ Φ a w){d:Nat}(hd:d<n)(v:Value)(hf:look L d=none): St n S w0 L σ Φ (a.put (some d) v) w :=
 (h.put hd v).sub fun t u ht=>by
  simp only[look]
  cases b:Nat.beq d t with
  | true=>have:=Nat.eq_of_beq_eq_true b;subst this;rw[hf] at ht;cases ht
  | false=>simpa using ht
theorem A9{d e:Nat}{v:Value}(h:d≠e): (a.put (some d) v).tmps.getD e undef=a.tmps.getD e undef:=by
 simp[Act.put,Array.getElem?_setIfInBounds_ne h]
theorem E9{d:Nat}{v:Value}(h:d<a.tmps.size): (a.put (some d) v).tmps.getD d undef=v:=by
 simp[Act.put,h]
theorem Uc(h:St n S w0 L σ Φ a w){j d:Nat}{T:TypeId}{z:Value}{ty:TypeId}{pos:String}{after:Array Edge}{Q:Exit→Act→World→Prop}(hj:ops[j]?=some ⟨some d,.alloc T,ty,pos,after,none⟩)(hz:∀w,(zeroValue T).run P w=.ok z w)(hd:d<n)(hf:look L d=none){K:Act→World→Prop}(k:∀b w',w.heap.size≤b→Ext w w'→St n S w0 L ((b,.cells z.cells T (0,0))::σ) Φ (a.put (some d) (.pointer (some ⟨b,0,none⟩))) w'→K (a.put (some d) (.pointer (some ⟨b,0,none⟩))) w'):
  wpOp P ops Q j K a w:=by
 unfold wpOp
 simp only[hj]
 rw[if_pos (by rfl)]
 refine .inl (Qf (v:=.pointer (some ⟨w.heap.size,0,none⟩)) (w':=w.alloc (.cells z.cells T (0,0))) ?_ (k _ _ (Nat.le_refl _) ((Below.refl _ _).alloc (Nat.le_refl _) _) ((h.alloc _).putFresh hd _ hf)))
 simp only[execOp,Instr.alloc,Sem.run_bind,hz,Result.andThen]
 rfl
theorem LM{j:Nat}(h:isF ops j=true): ∃d T ty pos after,ops[j]?=some ⟨some d,.alloc T,ty,pos,after,none⟩:=by
 unfold isF at h
 split at h
 ·rename_i d T ty pos after ho;exact⟨d,T,ty,pos,after,ho⟩
 ·cases h
def Am(P:Program)(ops:Array Oper)(n:Nat)(H:List Nat)(L:List (Nat×Value)): Prop :=
 ∀j∈H,∀d T ty pos after,ops[j]?=some ⟨some d,.alloc T,ty,pos,after,none⟩→isF ops j=true→look L d=none∧d<n ∧ ∃z,∀w,(zeroValue T).run P w=.ok z w
theorem Nw{Kf:Exit→Act→World→Prop}{m:Nat}(q:Mk ops=true)(X:∀(fuel:Nat) (H:List Nat) (L:List (Nat×Value)) (σ:List (Nat×Obj)) (Φ:List Zp) (G:List Flo) (c:Array Bool) (a:Act) (w:World),
  fuel+H.length≤m→Head P ops n S w0 Kf H L σ Φ→St n S w0 L (G.map Flo.own++σ) Φ a w →
  (∀g∈G,a.tmps.getD g.d undef=.pointer (some ⟨g.b,0,none⟩))→(∀g∈G,g.fits P ops∧g.i∈H)→(G.map (·.i)).Nodup→H.Nodup→(∀i∈H,i<ops.size) →
  Am P ops n H L →
  c.size=ops.size→(∀i,i<ops.size→(c.getD i true=true↔(i∉H∨i∈G.map (·.i))))→fuel+G.length=H.length →
  wpX P ops Kf fuel c a w){fuel i:Nat}{l:List Nat}{G:List Flo}{c:Array Bool}{x:Oper}(hm:fuel+1+(i::l).length≤m+1)(M:St n S w0 L (G.map Flo.own++σ) Φ a w)(hgt:∀g∈G,a.tmps.getD g.d undef=.pointer (some ⟨g.b,0,none⟩))(s:∀g∈G,g.fits P ops∧g.i∈i::l)(Q:(G.map (·.i)).Nodup)(hn:(i::l).Nodup)(V:∀k∈i::l,k<ops.size)(O:Am P ops n (i::l) L)(z:c.size=ops.size)(hl:∀k,k<ops.size→(c.getD k true=true↔(k∉i::l∨k∈G.map (·.i))))(N:fuel+1+G.length=(i::l).length)(ho:ops[i]?=some x)(F:isF ops i=false)(hw:Al P ops n S w0 i x (fun L σ Φ=>Head P ops n S w0 Kf l L σ Φ) L σ Φ):
  wpOp P ops (QN Kf) i (fun W w'=>(∀o,ops[i]?=some o→Left ops o a w W w')∧wpX P ops Kf fuel (c.setIfInBounds i true) W w') a w:=by
 have r:=List.nodup_cons.1 hn
 have E:i∉G.map (·.i):=fun R=>by
  obtain ⟨g,j,rfl⟩:=List.mem_map.1 R
  have:=(s g j).1.2.1
  rw[F] at this;cases this
 have D:∀k i,i<ops.size→((c.setIfInBounds k true).getD i true=true↔(i=k∨c.getD i true=true)):=fun k i hi=>by
  by_cases f:k=i
  ·subst f;simp[z,hi]
  ·rw[getD_set_ne true f];simp[Ne.symm f]
 refine wpOp_mono (fun W w' h=>?_) (JR (fun _ _ _ h=>h.elim) (hw a w _ M))
 obtain ⟨hex,v,σ',Φ',rfl,B,Z⟩:=h
 refine⟨fun o' C=>by
  rw[ho] at C;cases C
  exact⟨hex.1,fun T t y p he _ hp=>hex.2 T t y p he hp,fun t ht=>Bq ho ht,fun t hd hf=>by have h1:=hf i x ho hd;rw[F] at h1;cases h1⟩,?_⟩
 have u:∀g∈G,x.dst≠some g.d:=fun g j he=>by
  obtain ⟨⟨⟨Y,pos',I,U⟩,_,_⟩,_⟩:=s g j
  have:=A1 q ho U he rfl
  exact E (this ▸ List.mem_map.2 ⟨g,j,rfl⟩)
 refine X fuel l _ σ' Φ' G _ _ w' (by simp at hm ⊢;omega) Z B ?_ ?_ Q r.2 (fun k hk=>V k (List.mem_cons_of_mem _ hk)) ?_ (by simp[z]) ?_ (by simp at N ⊢;omega)
 ·intro g j
  have u:=u g j
  cases hd:x.dst with
  | none=>exact hgt g j
  | some e=>rw[A9 (fun he=>u (by rw[hd,he]))];exact hgt g j
 ·intro g j
  obtain ⟨h1,J⟩:=s g j
  refine⟨h1,?_⟩
  rcases List.mem_cons.1 J with h|h
  ·exact absurd (h ▸ List.mem_map.2 ⟨g,j,rfl⟩) E
  ·exact h
 ·intro k hk d T ty pos after A K
  obtain ⟨h1,J,h3⟩:=O k (List.mem_cons_of_mem _ hk) d T ty pos after A K
  refine⟨?_,J,h3⟩
  cases hd:x.dst with
  | none=>exact h1
  | some e =>
   simp only[ku,look]
   cases hb:Nat.beq e d with
   | false=>simpa using h1
   | true =>
    exfalso
    have:=Nat.eq_of_beq_eq_true hb
    subst this
    have:=A1 q ho A hd rfl
    exact r.1 (this ▸ hk)
 ·intro k hk
  rw[D i k hk,hl k hk]
  simp only[List.mem_cons (a:=k) (b:=i),not_or]
  constructor
  ·rintro(rfl|⟨_,h⟩|h)
   ·exact .inl r.1
   ·exact .inl h
   ·exact .inr h
  ·rintro(h|h)
   ·by_cases f:k=i
    ·exact .inl f
    ·exact .inr (.inl ⟨f,h⟩)
   ·exact .inr (.inr h)
theorem KU{Kf:Exit→Act→World→Prop}(h9:Region.noSelect ops=true)(R:Mk ops=true)(n4:kL ops=true): ∀(m fuel:Nat) (H:List Nat) (L:List (Nat×Value)) (σ:List (Nat×Obj)) (Φ:List Zp) (G:List Flo) (c:Array Bool) (a:Act) (w:World),
  fuel+H.length≤m→Head P ops n S w0 Kf H L σ Φ→St n S w0 L (G.map Flo.own++σ) Φ a w →
  (∀g∈G,a.tmps.getD g.d undef=.pointer (some ⟨g.b,0,none⟩))→(∀g∈G,g.fits P ops∧g.i∈H)→(G.map (·.i)).Nodup→H.Nodup→(∀i∈H,i<ops.size) →
  Am P ops n H L →
  c.size=ops.size→(∀i,i<ops.size→(c.getD i true=true↔(i∉H∨i∈G.map (·.i))))→fuel+G.length=H.length →
  wpX P ops Kf fuel c a w:=by
 intro m
 induction m with
 | zero =>
  intro fuel H L σ Φ G c a w hm hH u hgt s O hn B a8 I hl E
  have:H=[]:=List.eq_nil_of_length_eq_zero (by omega)
  subst this
  have:fuel=0:=by simp at E;omega
  subst this
  have hG:G=[]:=by simpa using E
  subst hG
  refine⟨?_,hH a w u⟩
  apply List.eq_nil_iff_forall_not_mem.2
  intro i hi
  obtain ⟨h0,o,ho,_⟩:=mem_ready.1 hi
  have:=(hl i (Array.getElem?_eq_some_iff.1 ho).1).2 (.inl (by simp))
  rw[h0] at this;cases this
 | succ m ih =>
  intro fuel H L σ Φ G c a w hm hH u hgt s O hn B a8 I hl E
  cases H with
  | nil =>
   have:fuel=0:=by simp at E;omega
   subst this
   exact ih 0 [] L σ Φ G c a w (by simp) hH u hgt s O hn B a8 I hl E
  | cons i H =>
   have a6:=List.nodup_cons.1 hn
   have l4:=B i List.mem_cons_self
   have b1:∀k,k<ops.size→c.getD k false=c.getD k true:=fun k hk=>by simp[I,hk]
   -- c behind an operation
   have e3:∀k,(c.setIfInBounds k true).size=ops.size:=fun k=>by simp[I]
   have h8:∀k i,i<ops.size→((c.setIfInBounds k true).getD i true=true↔(i=k∨c.getD i true=true)):=fun k i hi=>by
    by_cases C:k=i
    ·subst C;simp[I,hi]
    ·rw[getD_set_ne true C];simp[Ne.symm C]
   -- a local that comes early
   have J:∀j f,fuel=f+1→j∈i::H→j∉G.map (·.i)→isF ops j=true → ∀(Q:Exit→Act→World→Prop),
     wpOp P ops Q j (fun a' w'=>(∀o,ops[j]?=some o→Left ops o a w a' w')∧wpX P ops Kf f (c.setIfInBounds j true) a' w') a w:=by
    intro j f o4 V h7 b8 Q
    obtain ⟨d,T,ty,pos,after,ho⟩:=LM b8
    obtain ⟨r4,Z,z,hz⟩:=a8 j V d T ty pos after ho b8
    refine Uc u ho hz Z r4 fun b w' q9 n1 e0=>⟨fun o' b0=>by
     rw[ho] at b0;cases b0
     exact⟨fun _=>n1,(fun _ _ _ _ he=>by cases he),fun t ht=>Bq (o:=⟨some d,.alloc T,ty,pos,after,none⟩) ho ht,fun t o6 _=>by
      cases o6
      exact⟨b,E9 (by rw[u.size];exact Z),q9⟩⟩,?_⟩
    refine ih f (i::H) L σ Φ (⟨j,d,b,T,z⟩::G) (c.setIfInBounds j true) _ w' (by simp at hm ⊢;omega) hH e0 ?_ ?_ ?_ hn B a8 (e3 j) ?_ (by simp at E ⊢;omega)
    ·intro g q
     rcases List.mem_cons.1 q with rfl|q
     ·exact E9 (by rw[u.size];exact Z)
     ·rw[A9]
      ·exact hgt g q
      ·intro he
       obtain ⟨⟨⟨e2,pos',K,M⟩,_,_⟩,_⟩:=s g q
       have:=A1 R ho M rfl (by simp only[he])
       exact h7 (this ▸ List.mem_map.2 ⟨g,q,rfl⟩)
    ·intro g q
     rcases List.mem_cons.1 q with rfl|q
     ·exact⟨⟨⟨ty,pos,after,ho⟩,b8,hz⟩,V⟩
     ·exact s g q
    ·simp only[List.map_cons,List.nodup_cons];exact⟨h7,O⟩
    ·intro k hk
     rw[h8 j k hk,hl k hk]
     simp only[List.map_cons,List.mem_cons]
     constructor
     ·rintro(rfl|h|h)
      ·exact .inr (.inl rfl)
      ·exact .inl (by simpa using h)
      ·exact .inr (.inr h)
     ·rintro(h|rfl|h)
      ·exact .inr (.inl (by simpa using h))
      ·exact .inl rfl
      ·exact .inr (.inr h)
   have A:∀k,k∈i::H→k∉G.map (·.i)→c.getD k true=false:=fun k hk a1=>by
    cases hv:c.getD k true with
    | false=>rfl
    | true =>
     rcases (hl k (B k hk)).1 hv with h|h
     ·exact absurd hk h
     ·exact absurd h a1
   have b4:∀k,k<ops.size→k≠i→k∉H→c.getD k false=true:=fun k hk C X=>by
    rw[b1 k hk];exact(hl k hk).2 (.inl (by simp[C,X]))
   have U:isF ops i=false→i∉G.map (·.i):=fun hf D=>by
    obtain ⟨g,q,rfl⟩:=List.mem_map.1 D
    have:=(s g q).1.2.1
    rw[hf] at this;cases this
   -- what may come up is number i,or a local
   have b9:(H.all fun j=>isF ops j || waits ops j fun k=>k == i || (H.contains k && !isF ops k))=true→i∉G.map (·.i) → ∀j∈Region.ready .any ops c,j=i∨(j∈i::H∧j∉G.map (·.i)∧isF ops j=true):=by
    intro o3 l j hj
    obtain ⟨h0,o,ho,_⟩:=mem_ready.1 hj
    have c5:=(Array.getElem?_eq_some_iff.1 ho).1
    have c4:¬(j∉i::H∨j∈G.map (·.i)):=fun hc=>by rw[(hl j c5).2 hc] at h0;cases h0
    have V:j∈i::H:=Classical.byContradiction fun h=>c4 (.inl h)
    have h7:j∉G.map (·.i):=fun h=>c4 (.inr h)
    by_cases b7:j=i
    ·exact .inl b7
    ·right
     refine⟨V,h7,?_⟩
     have n5:j∈H:=by rcases List.mem_cons.1 V with h|h;exact absurd h b7;exact h
     have h1:=List.all_eq_true.1 o3 j n5
     rcases Bool.or_eq_true_iff.1 h1 with h1|h1
     ·exact h1
     ·obtain ⟨k,hk,e9⟩:=JU h1 hj
      exfalso
      simp only[Bool.or_eq_true,beq_iff_eq,Bool.and_eq_true,List.contains_iff_mem,Bool.not_eq_true'] at hk
      rcases hk with rfl|⟨X,e6⟩
      ·rw[b1 k l4,A k List.mem_cons_self l] at e9;cases e9
      ·have a1:k∉G.map (·.i):=fun D=>by
        obtain ⟨g,q,rfl⟩:=List.mem_map.1 D
        have:=(s g q).1.2.1
        rw[e6] at this;cases this
       rw[b1 k (B k (List.mem_cons_of_mem _ X)),A k (List.mem_cons_of_mem _ X) a1] at e9;cases e9
   have b5:∀o,ops[i]?=some o → ∀e∈o.after,e.on<ops.size:=fun o ho e he=>by
    unfold kL at n4
    have h1:=Array.all_eq_true'.1 n4 o (Array.mem_of_getElem? ho)
    have r:=Array.all_eq_true'.1 h1 e he
    simpa using r
   -- the state of 'listed' behind number i
   have j1:i∉G.map (·.i) → ∀k,k<ops.size→((c.setIfInBounds i true).getD k true=true↔(k∉H∨k∈G.map (·.i))):=fun l k hk=>by
    rw[h8 i k hk,hl k hk]
    simp only[List.mem_cons,not_or]
    constructor
    ·rintro(rfl|⟨_,h⟩|h)
     ·exact .inl a6.1
     ·exact .inl h
     ·exact .inr h
    ·rintro(h|h)
     ·by_cases C:k=i
      ·exact .inl C
      ·exact .inr (.inl ⟨C,h⟩)
     ·exact .inr (.inr h)
   have b3:i∉G.map (·.i) → ∀g∈G,g.fits P ops∧g.i∈H:=fun l g q=>by
    obtain ⟨h1,r⟩:=s g q
    refine⟨h1,?_⟩
    rcases List.mem_cons.1 r with h|h
    ·exact absurd (h ▸ List.mem_map.2 ⟨g,q,rfl⟩) l
    ·exact h
   have c3:∀g∈G,∀o,ops[i]?=some o→i∉G.map (·.i)→o.dst≠some g.d:=fun g q o ho l he=>by
    obtain ⟨⟨⟨e2,pos',K,M⟩,_,_⟩,_⟩:=s g q
    have:=A1 R ho M he rfl
    exact l (this ▸ List.mem_map.2 ⟨g,q,rfl⟩)
   have b2:∀o v,ops[i]?=some o→Am P ops n H (ku o.dst v L):=fun o v ho j hj d T ty pos after F b8=>by
    obtain ⟨h1,r,h3⟩:=a8 j (List.mem_cons_of_mem _ hj) d T ty pos after F b8
    refine⟨?_,r,h3⟩
    cases hd:o.dst with
    | none=>exact h1
    | some e =>
     simp only[ku,look]
     cases W:Nat.beq e d with
     | false=>simpa using h1
     | true =>
      exfalso
      have:=Nat.eq_of_beq_eq_true W
      subst this
      have:=A1 R ho F hd rfl
      exact a6.1 (this ▸ hj)
   have N:i∉G.map (·.i) → ∃f,fuel=f+1:=fun l=>by
    have hle:(i::G.map (·.i)).length≤(i::H).length:=by
     have k8:G.map (·.i) ⊆ H:=fun k hk=>by
      obtain ⟨g,q,rfl⟩:=List.mem_map.1 hk
      exact(b3 l g q).2
     have:=Vd O k8
     simpa using this
    simp at hle E
    exact⟨fuel-1,by omega⟩
   rw[Ol] at hH
   rcases hH with ⟨o,d,v,ld,ho,hd,Z,hq,hy,hH⟩|⟨o,ho,l3,hw⟩|⟨d,T,z,ty,pos,after,ho,e7,hz,Z,hH⟩|⟨o,d,v,b,ts,ho,hd,Z,hq,hy,hH⟩|⟨p5,hx⟩|j3
   ·-- a quiet operation
    simp only[Yp,Bool.and_eq_true,Bool.not_eq_true'] at hq
    obtain ⟨⟨Y,c7⟩,c9⟩:=hq
    have l:=U Y
    obtain ⟨f,rfl⟩:=N l
    have hr:i∈Region.ready .any ops c:=Bo ho c7 b4 (A i List.mem_cons_self l) (b5 o ho)
    have k9:=GH (ops:=ops) (i:=i) H [] (fun _ h=>nomatch h)
    refine UW ho (Region.noSelect_spec h9) Y ld (later ops i [] H) f c a w ?_ ?_ hr (hy a w _ u) ?_
    rotate_left
    ·intro t ht
     obtain ⟨h1,r⟩:=k9 t ht
     have n0:t∈H:=by rcases h1 with h1|h1;cases h1;exact h1
     have h3:=r
     unfold waits at h3
     split at h3
     ·rename_i ot j6
      obtain ⟨e,he,W⟩:=Array.any_eq_true'.1 h3
      simp only[Bool.and_eq_true,Bool.or_eq_true,beq_iff_eq,List.contains_iff_mem] at W
      have q4:t∉G.map (·.i):=fun D=>by
       obtain ⟨g,q,rfl⟩:=List.mem_map.1 D
       have hF:=(s g q).1.2.1
       obtain ⟨d',T',e2,pos',K,b0⟩:=LM hF
       unfold isF at hF
       rw[b0] at hF j6
       cases j6
       have h4:=Array.all_eq_true'.1 hF e he
       simp[W.1] at h4
      exact⟨by rw[I];exact B t (List.mem_cons_of_mem _ n0),A t (List.mem_cons_of_mem _ n0) q4,ot,j6,e,he,W.1,W.2⟩
     ·cases h3
    rotate_left
    ·intro j oj F b7 e1 j0
     have c5:=(Array.getElem?_eq_some_iff.1 F).1
     have V:j∈H:=by
      have:¬(j∉i::H∨j∈G.map (·.i)):=fun hc=>by rw[(hl j c5).2 hc] at e1;cases e1
      have h1:j∈i::H:=Classical.byContradiction fun h=>this (.inl h)
      rcases List.mem_cons.1 h1 with h|h
      ·exact absurd h b7
      ·exact h
     have h1:=List.all_eq_true.1 c9 j V
     rcases Bool.or_eq_true_iff.1 h1 with h1|h1
     ·exact absurd (by simpa using h1) j0
     ·simp only[ho,F,Bool.and_eq_true,Bool.or_eq_true,Bool.not_eq_true'] at h1
      refine⟨h1.1,fun q8=>?_⟩
      rcases h1.2 with r|r
      ·rw[q8] at r;cases r
      ·exact r
    ·have:=u.put Z v
     rw[hd]
     refine ih f H ((d,v)::L) σ Φ G _ _ w (by simp at hm;omega) hH this ?_ (b3 l) O a6.2 (fun k hk=>B k (List.mem_cons_of_mem _ hk)) ?_ (e3 i) (j1 l) (by simp at E;omega)
     ·intro g q
      rw[A9 (fun he=>c3 g q o ho l (by rw[hd,he]))]
      exact hgt g q
     ·have:=b2 o v ho
      rw[hd] at this
      exact this
   ·-- a loud one
    simp only[Vm,Bool.and_eq_true,Bool.not_eq_true'] at l3
    obtain ⟨⟨Y,c7⟩,c9⟩:=l3
    have l:=U Y
    obtain ⟨f,rfl⟩:=N l
    have hr:i∈Region.ready .any ops c:=Bo ho c7 b4 (A i List.mem_cons_self l) (b5 o ho)
    refine⟨fun h=>(by rw[h] at hr;cases hr),fun j hj=>?_⟩
    rcases b9 c9 l j hj with rfl|⟨h1,r,h3⟩
    ·refine wpOp_mono (fun a' w' h=>?_) (JR (fun _ _ _ h=>h.elim) (hw a w _ u))
     obtain ⟨hex,v,σ',Φ',rfl,e0,p3⟩:=h
     refine⟨fun o' b0=>by
      rw[ho] at b0;cases b0
      exact⟨hex.1,fun T t y p he _ hp=>hex.2 T t y p he hp,fun t ht=>Bq ho ht,fun t hd hf=>by have h1:=hf j o ho hd;rw[Y] at h1;cases h1⟩,?_⟩
     refine ih f H _ σ' Φ' G _ _ w' (by simp at hm;omega) p3 e0 ?_ (b3 l) O a6.2 (fun k hk=>B k (List.mem_cons_of_mem _ hk)) (b2 o v ho) (e3 j) (j1 l) (by simp at E;omega)
     intro g q
     have q3:=c3 g q o ho l
     cases hd:o.dst with
     | none=>exact hgt g q
     | some e=>rw[A9 (fun he=>q3 (by rw[hd,he]))];exact hgt g q
    ·exact J j f rfl h1 r h3 _
   ·-- a local's turn
    simp only[LP,Bool.and_eq_true] at e7
    by_cases l:i∈G.map (·.i)
    ·obtain ⟨g,q,j2⟩:=List.mem_map.1 l
     obtain ⟨G1,G2,rfl⟩:=List.append_of_mem q
     obtain ⟨⟨⟨e2,pos',K,M⟩,_,q7⟩,_⟩:=s g q
     rw[j2,ho] at M
     simp only[Option.some.injEq,Oper.mk.injEq,Op.alloc.injEq] at M
     obtain ⟨q5,hT,_,_,_,_⟩:=M
     have o9:z=g.z:=by
      have h1:=hz w
      rw[hT,q7 w] at h1
      simp at h1;exact h1.symm
     subst o9
     have W:=hgt g q
     rw[←q5] at W
     have n9:St n S w0 ((d,.pointer (some ⟨g.b,0,none⟩))::L) ((G1++G2).map Flo.own++(g.b,.cells g.z.cells T (0,0))::σ) Φ a w:=by
      refine(u.perm ?_).learn W
      simp only[List.map_append,List.map_cons,List.append_assoc,List.cons_append]
      refine List.Perm.append_left _ ?_
      have:g.own=(g.b,Obj.cells g.z.cells T (0,0)):=by simp[Flo.own,hT]
      rw[this]
      exact List.perm_middle
     have i1:∀g'∈G1++G2,g'∈G1++g::G2:=fun g' h'=>by
      rcases List.mem_append.1 h' with h'|h'
      ·exact List.mem_append.2 (.inl h')
      ·exact List.mem_append.2 (.inr (List.mem_cons_of_mem _ h'))
     have c6:(List.map (fun x=>x.i) (G1++g::G2)).Perm (g.i::List.map (fun x=>x.i) (G1++G2)):=by
      simp only[List.map_append,List.map_cons];exact List.perm_middle
     have i6:=List.nodup_cons.1 (c6.nodup_iff.1 O)
     refine ih fuel H _ _ Φ (G1++G2) c a w (by simp at hm;omega) (hH g.b) n9 (fun g' h'=>hgt g' (i1 g' h')) ?_ i6.2 a6.2 (fun k hk=>B k (List.mem_cons_of_mem _ hk)) ?_ I ?_ (by simp at E ⊢;omega)
     ·intro g' h'
      obtain ⟨h1,r⟩:=s g' (i1 g' h')
      refine⟨h1,?_⟩
      rcases List.mem_cons.1 r with h|h
      ·exact absurd (List.mem_map.2 ⟨g',h',by rw[h,j2]⟩) i6.1
      ·exact h
     ·have:=b2 _ (.pointer (some ⟨g.b,0,none⟩)) ho
      exact this
     ·intro k hk
      rw[hl k hk,c6.mem_iff,List.mem_cons,List.mem_cons,j2]
      constructor
      ·rintro(h|rfl|h)
       ·exact .inl (fun hc=>h (.inr hc))
       ·exact .inl a6.1
       ·exact .inr h
      ·rintro(h|h)
       ·by_cases C:k=i
        ·exact .inr (.inl C)
        ·exact .inl (fun hc=>hc.elim C h)
       ·exact .inr (.inr h)
    ·obtain ⟨f,rfl⟩:=N l
     have i7:i∈Region.ready .any ops c:=by
      refine mem_ready.2 ⟨A i List.mem_cons_self l,_,ho,fun e he W=>?_⟩
      have h1:=e7.1
      unfold isF at h1
      simp only[ho] at h1
      have r:=Array.all_eq_true'.1 h1 e he
      rw[W] at r;cases r
     refine⟨fun h=>(by rw[h] at i7;cases i7),fun j hj=>?_⟩
     rcases b9 e7.2 l j hj with rfl|⟨h1,r,h3⟩
     ·exact J j f rfl List.mem_cons_self l e7.1 _
     ·exact J j f rfl h1 r h3 _
   ·-- a load beside stores to other blocks
    simp only[RH,Bool.and_eq_true,Bool.not_eq_true'] at hq
    obtain ⟨⟨⟨Y,c7⟩,c9⟩,p7⟩:=hq
    have l:=U Y
    obtain ⟨f,rfl⟩:=N l
    have hr:i∈Region.ready .any ops c:=Bo ho c7 b4 (A i List.mem_cons_self l) (b5 o ho)
    obtain ⟨o0,p2,q6,p6,r3⟩:=hy a w _ u
    refine cm ho (Region.noSelect_spec h9) Y f c a w p2 ?_ hr q6 ?_
    ·intro j oj F b7 e1 j0
     have c5:=(Array.getElem?_eq_some_iff.1 F).1
     have V:j∈H:=by
      have:¬(j∉i::H∨j∈G.map (·.i)):=fun hc=>by rw[(hl j c5).2 hc] at e1;cases e1
      have h1:j∈i::H:=Classical.byContradiction fun h=>this (.inl h)
      rcases List.mem_cons.1 h1 with h|h
      ·exact absurd h b7
      ·exact h
     have h1:=List.all_eq_true.1 c9 j V
     rcases Bool.or_eq_true_iff.1 h1 with h1|h1
     ·exfalso
      unfold waits at h1
      simp only[F] at h1
      obtain ⟨e,he,W⟩:=Array.any_eq_true'.1 h1
      simp only[Bool.and_eq_true,beq_iff_eq] at W
      exact j0 e he W.1 W.2
     ·simp only[ho,F,Bool.and_eq_true,Bool.or_eq_true] at h1
      refine⟨h1.1,?_⟩
      rcases h1.2 with r|r
      ·exact .inl r
      ·right
       split at r
       ·rename_i T t y l7
        rcases Bool.or_eq_true_iff.1 r with r|r
        ·have k7:t∈ts:=by simpa using r
         obtain ⟨p,p1,p9⟩:=r3 t k7
         refine⟨T,t,y,l7,fun k ok hk he=>?_,.inl ⟨p,u.val t _ p1,p9⟩⟩
         have h5:=List.all_eq_true.1 p7 t k7
         have h6:=Array.all_eq_true'.1 h5 ok (Array.mem_of_getElem? hk)
         rw[he] at h6;simp at h6
        ·obtain ⟨k,X,hk⟩:=List.any_eq_true.1 r
         simp only[Bool.and_eq_true,beq_iff_eq] at hk
         obtain ⟨⟨e6,j8⟩,j7⟩:=hk
         obtain ⟨d',T',e2,pos',K,a7⟩:=LM e6
         rw[a7] at j8
         simp only[Option.bind_some,Option.some.injEq] at j8
         subst j8
         have k5:=(Array.getElem?_eq_some_iff.1 a7).1
         refine⟨T,d',y,l7,fun k2 r7 n2 he=>?_,?_⟩
         ·have:=A1 R n2 a7 he rfl
          rw[this];exact e6
         ·by_cases a1:k∈G.map (·.i)
          ·obtain ⟨g,q,rfl⟩:=List.mem_map.1 a1
           obtain ⟨⟨⟨r6,r5,o5,M⟩,_,_⟩,_⟩:=s g q
           rw[a7] at M
           simp only[Option.some.injEq,Oper.mk.injEq] at M
           have o2:=hgt g q
           rw[←M.1] at o2
           exact .inl ⟨_,o2,p6 g.own (List.mem_map.2 ⟨g,q,rfl⟩)⟩
          ·right
           unfold waits at j7
           simp only[F] at j7
           obtain ⟨e,he,W⟩:=Array.any_eq_true'.1 j7
           simp only[Bool.and_eq_true,beq_iff_eq] at W
           exact⟨k,_,a7,rfl,by rw[I];exact k5,A k (List.mem_cons_of_mem _ X) a1,e,he,W.1,W.2⟩
       ·cases r
    ·have:=u.put Z v
     rw[hd]
     refine ih f H ((d,v)::L) σ Φ G _ _ w (by simp at hm;omega) hH this ?_ (b3 l) O a6.2 (fun k hk=>B k (List.mem_cons_of_mem _ hk)) ?_ (e3 i) (j1 l) (by simp at E;omega)
     ·intro g q
      rw[A9 (fun he=>c3 g q o ho l (by rw[hd,he]))]
      exact hgt g q
     ·have:=b2 o v ho
      rw[hd] at this
      exact this
   ·-- all orders,one by one
    have hG:G=[]:=by
     cases G with
     | nil=>rfl
     | cons g G =>
      obtain ⟨⟨_,hF,_⟩,D⟩:=s g List.mem_cons_self
      have:=List.all_eq_true.1 p5 g.i D
      rw[hF] at this;cases this
    subst hG
    have l8:fuel=H.length+1:=by simpa using E
    have j4:c=AN ops (i::H):=by
     apply Array.ext
     ·rw[I];simp[AN]
     ·intro k l5 n2
      have hk:k<ops.size:=by rw[←I];exact l5
      have h1:=hl k hk
      simp only[List.map_nil,List.not_mem_nil,or_false] at h1
      have r:c.getD k true=c[k]:=by simp[l5]
      rw[r] at h1
      have h3:(AN ops (i::H))[k] = !(i::H).contains k:=by simp[AN]
      rw[h3]
      by_cases D:k∈i::H
      ·have h4:c[k]=false:=by
        cases hv:c[k] with
        | false=>rfl
        | true=>exact absurd D (h1.1 hv)
       rw[h4,List.contains_iff_mem.2 D];rfl
      ·rw[h1.2 D]
       have:(i::H).contains k=false:=by
        cases hv:(i::H).contains k with
        | false=>rfl
        | true=>exact absurd (List.contains_iff_mem.1 hv) D
       rw[this];rfl
    rw[l8,j4]
    exact hx a w u
   ·-- two loud ones,in either order
    obtain ⟨j,oi,oj,ho,F,o1,o7,p8⟩:=j3
    simp only[QV,Bool.and_eq_true,Bool.not_eq_true',List.contains_iff_mem] at o1
    obtain ⟨⟨⟨⟨⟨j9,n3⟩,e5⟩,o8⟩,r8⟩,r2⟩:=o1
    have l:=U j9
    obtain ⟨f,rfl⟩:=N l
    have hr:i∈Region.ready .any ops c:=Bo ho o8 b4 (A i List.mem_cons_self l) (b5 oi ho)
    have e8:(j::i::H.erase j).Perm (i::H):=(List.Perm.swap i j _).trans ((List.perm_cons_erase e5).symm.cons i)
    have hlen:H.length=(i::H.erase j).length:=by
     rw[List.length_cons,List.length_erase_of_mem e5]
     have:=List.length_pos_of_mem e5
     omega
    have e4:∀k,k∈j::i::H.erase j↔k∈i::H:=fun k=>e8.mem_iff
    refine⟨fun h=>(by rw[h] at hr;cases hr),fun k hk=>?_⟩
    by_cases C:k=i
    ·subst C
     exact Nw R ih hm u hgt s O hn B a8 I hl E ho j9 o7
    ·by_cases k6:k=j
     ·subst k6
      have l2:Al P ops n S w0 k oj (fun L σ Φ=>Head P ops n S w0 Kf (i::H.erase k) L σ Φ) L σ Φ:=by
       have r:=p8
       rw[hlen] at r
       exact r
      exact Nw R ih (by rw[e8.length_eq];exact hm) u hgt (fun g q=>⟨(s g q).1,(e4 _).2 (s g q).2⟩) O (e8.nodup_iff.2 hn) (fun x hx=>B x ((e4 x).1 hx)) (fun x hx=>a8 x ((e4 x).1 hx)) I (fun x hx=>by rw[hl x hx,not_congr (e4 x)]) (by rw[e8.length_eq];exact E) F n3 l2
     ·obtain ⟨h0,ok,a7,_⟩:=mem_ready.1 hk
      have k5:=(Array.getElem?_eq_some_iff.1 a7).1
      have c4:¬(k∉i::H∨k∈G.map (·.i)):=fun hc=>by rw[(hl k k5).2 hc] at h0;cases h0
      have X:k∈i::H:=Classical.byContradiction fun h=>c4 (.inl h)
      have a1:k∉G.map (·.i):=fun h=>c4 (.inr h)
      have l6:k∈H:=by simpa [C] using X
      have c8:∀x,x∈i::H→isF ops x=false→c.getD x false=true→False:=fun x l9 j5 b6=>by
       have p0:x∉G.map (·.i):=fun D=>by
        obtain ⟨g,q,rfl⟩:=List.mem_map.1 D
        have:=(s g q).1.2.1
        rw[j5] at this;cases this
       rw[b1 x (B x l9),A x l9 p0] at b6;cases b6
      have h1:=List.all_eq_true.1 r2 k l6
      simp only[Bool.or_eq_true,beq_iff_eq] at h1
      rcases h1 with (h1|h1)|h1
      ·exact absurd h1 k6
      ·exact J k f rfl X a1 h1 _
      ·exfalso
       obtain ⟨x,hx,b6⟩:=JU h1 hk
       simp only[Bool.or_eq_true,beq_iff_eq,Bool.and_eq_true,List.contains_iff_mem,Bool.not_eq_true'] at hx
       rcases hx with (rfl|rfl)|⟨p4,j5⟩
       ·exact c8 x List.mem_cons_self j9 b6
       ·exact c8 x (List.mem_cons_of_mem _ e5) n3 b6
       ·exact c8 x (List.mem_cons_of_mem _ p4) j5 b6
theorem cj{id:Nat}{l:List Oper}{Q:Exit→Act→World→Prop}(hm:P.follows .mixedOrders=true)(h:St n S w0 L σ Φ a w)(H:List Nat)(g:List (Nat×Value))(j:∀t v,look g t=some v→look L t=some v)(b:(Region.noSelect l.toArray && Mk l.toArray && kL l.toArray && decide (H.Nodup) && decide (H.length=l.length) && H.all (fun i=>decide (i<l.length)))=true)(m:Am P l.toArray n H g)(hH:Head P l.toArray n S w0 Q H g σ Φ): (Code.region id l.toArray true).wp P Q a w:=by
 simp only[Bool.and_eq_true,decide_eq_true_eq,List.all_eq_true] at b
 obtain ⟨⟨⟨⟨⟨h1,q⟩,u⟩,p⟩,r⟩,o⟩:=b
 refine Code.wp_mono (Q:=QN Q) (fun e a w hq=>?_) (wp_region_any hm (G7 _ _ _ _ ?_))
 ·cases e with
  | normal=>exact hq
  | panic x=>exact hq a.tmps
  | _=>exact hq.elim
 ·have d:∀i,i<l.length→i∈H:=by
   intro i c
   have f:H ⊆ List.range l.length:=fun k hk=>List.mem_range.2 (o k hk)
   refine Classical.byContradiction fun hc=>?_
   have s:=Vd (l:=i::H) (l':=List.range l.length) (List.nodup_cons.2 ⟨hc,p⟩) (fun k hk=>by
    rcases List.mem_cons.1 hk with rfl|hk
    ·exact List.mem_range.2 c
    ·exact f hk)
   simp at s;omega
  refine KU h1 q u (l.toArray.size+H.length) l.toArray.size H g σ Φ [] _ a { w with drawn:=w.drawn+1 } (Nat.le_refl _) hH (h.sub j).drew (by simp) (by simp) (by simp) p (by simpa using o) m (by simp) (fun i c=>?_) (by simp[r])
  simp at c
  simp[c,d i c]
variable{H:List Nat}{Kf:Exit→Act→World→Prop}
theorem NN{i d:Nat}{op:Op}{v:Value}(ho:ops[i]?=some ⟨some d,op,ty,pos,aft,none⟩)(hq:Yp ops false i H=true)(b:Pure1 P L op v)(hd:d<n)(k:Head P ops n S w0 Kf H ((d,v)::L) σ Φ): Head P ops n S w0 Kf (i::H) L σ Φ :=
 .inl ⟨_,d,v,false,ho,rfl,hd,hq,fun _ _ _ a =>.inl ⟨rfl,fun w' _=>b.run a w'⟩,k⟩
theorem TW{i d j t:Nat}{want:Bool}{op:Op}{v:Value}(ho:ops[i]?=some ⟨some d,op,ty,pos,aft,some (j,want)⟩)(hj:(ops[j]?).bind (·.dst)=some t)(ht:look L t=some (.bool want))(hq:Yp ops false i H=true)(b:Pure1 P L op v)(hd:d<n)(k:Head P ops n S w0 Kf H ((d,v)::L) σ Φ): Head P ops n S w0 Kf (i::H) L σ Φ :=
 .inl ⟨_,d,v,false,ho,rfl,hd,hq,fun _ _ _ a =>.inl ⟨by rw[Ao a hj ht];simp,fun w' _=>b.run a w'⟩,k⟩
theorem YI{i d j t:Nat}{want c:Bool}{op:Op}{ty:TypeId}{pos:String}{b:Array Edge}(ho:ops[i]?=some ⟨some d,op,ty,pos,b,some (j,want)⟩)(hj:(ops[j]?).bind (·.dst)=some t)(ht:look L t=some (.bool c))(a:(c == want)=false)(hq:Yp ops false i H=true)(hd:d<n)(k:Head P ops n S w0 Kf H ((d,undef)::L) σ Φ): Head P ops n S w0 Kf (i::H) L σ Φ :=
 .inl ⟨_,d,undef,false,ho,rfl,hd,hq,fun _ _ _ e =>.inr ⟨by rw[Ao e hj ht,a],rfl⟩,k⟩
theorem Ry(h:St n S w0 L σ Φ a w){x:Operand}{d:Option Tmp}{T:TypeId}{g:Option (Nat×Bool)}{b off:Nat}{cs:Array Value}{c:TypeId}{fr:Nat×Nat}{agg:Bool}{s:Nat}{v:Value}(hx:Fx.ev L x=some (.pointer (some ⟨b,off,none⟩)))(hm:(b,Obj.cells cs c fr)∈σ)(hagg:∀w,(isAgg T).run P w=.ok agg w)(hs:∀w,(Go.sizeOf T).run P w=.ok s w)(hv:Zk agg s cs off=some v){w':World}(hw:Ext w w'): (execOp a.eval (Oper.mk d (.load T x) ty pos aft g)).run P w'=.ok (.value v) w':=by
 have e:w'.heap[b]?=some (Obj.cells cs c fr):=by rw[hw.block _ (h.own_lt hm)];exact h.own _ hm
 simp only[execOp,h.ev hx,Sem.run_bind,Xs e hagg hs hv];rfl
theorem YJ{i d:Nat}{x:Operand}{T:TypeId}{b off:Nat}{cs:Array Value}{c:TypeId}{fr:Nat×Nat}{agg:Bool}{s:Nat}{v:Value}(ho:ops[i]?=some ⟨some d,.load T x,ty,pos,aft,none⟩)(hq:Yp ops true i H=true)(hx:Fx.ev L x=some (.pointer (some ⟨b,off,none⟩)))(hm:(b,Obj.cells cs c fr)∈σ)(hagg:∀w,(isAgg T).run P w=.ok agg w)(hs:∀w,(Go.sizeOf T).run P w=.ok s w)(hv:Zk agg s cs off=some v)(hd:d<n)(k:Head P ops n S w0 Kf H ((d,v)::L) σ Φ): Head P ops n S w0 Kf (i::H) L σ Φ :=
 .inl ⟨_,d,v,true,ho,rfl,hd,hq,fun _ _ _ a =>.inl ⟨rfl,fun w' hw=>Ry a hx (List.mem_append_right _ hm) hagg hs hv (hw rfl)⟩,k⟩
theorem TX{i d j t:Nat}{want:Bool}{x:Operand}{T:TypeId}{b off:Nat}{cs:Array Value}{c:TypeId}{fr:Nat×Nat}{agg:Bool}{s:Nat}{v:Value}(ho:ops[i]?=some ⟨some d,.load T x,ty,pos,aft,some (j,want)⟩)(hj:(ops[j]?).bind (·.dst)=some t)(ht:look L t=some (.bool want))(hq:Yp ops true i H=true)(hx:Fx.ev L x=some (.pointer (some ⟨b,off,none⟩)))(hm:(b,Obj.cells cs c fr)∈σ)(hagg:∀w,(isAgg T).run P w=.ok agg w)(hs:∀w,(Go.sizeOf T).run P w=.ok s w)(hv:Zk agg s cs off=some v)(hd:d<n)(k:Head P ops n S w0 Kf H ((d,v)::L) σ Φ): Head P ops n S w0 Kf (i::H) L σ Φ :=
 .inl ⟨_,d,v,true,ho,rfl,hd,hq,fun _ _ _ a =>.inl ⟨by rw[Ao a hj ht];simp,fun w' hw=>Ry a hx (List.mem_append_right _ hm) hagg hs hv (hw rfl)⟩,k⟩
theorem Qx{i d:Nat}{x:Operand}{T:TypeId}{b off:Nat}{cs:Array Value}{j:TypeId}{fr:Nat×Nat}{agg:Bool}{s:Nat}{v:Value}(g:List Nat)(ho:ops[i]?=some ⟨some d,.load T x,ty,pos,aft,none⟩)(hq:RH ops i H g=true)(hx:Fx.ev L x=some (.pointer (some ⟨b,off,none⟩)))(hm:(b,Obj.cells cs j fr)∈σ)(hagg:∀w,(isAgg T).run P w=.ok agg w)(hs:∀w,(Go.sizeOf T).run P w=.ok s w)(hv:Zk agg s cs off=some v)(h:∀a w e,St n S w0 L (e++σ) Φ a w → ∀t∈g,∃p:Addr,look L t=some (.pointer (some p))∧p.block≠b)(hd:d<n)(k:Head P ops n S w0 Kf H ((d,v)::L) σ Φ): Head P ops n S w0 Kf (i::H) L σ Φ :=
 .inr (.inr (.inr (.inl ⟨_,d,v,b,g,ho,rfl,hd,hq,fun a w e c=>⟨Obj.cells cs j fr,c.own _ (List.mem_append_right _ hm),.inl ⟨rfl,fun w' hw=>by
  simp only[execOp,c.ev hx,Sem.run_bind,Xs hw hagg hs hv];rfl⟩,fun q f=>(List.pairwise_append.1 c.nd).2.2 q f _ hm,h a w e c⟩,k⟩)))
theorem Jo{i:Nat}{d:Option Tmp}{op:Op}{K:Act→World→Prop}{Q:Exit→Act→World→Prop}(ho:ops[i]?=some ⟨d,op,ty,pos,aft,none⟩)(h:(Oper.mk d op ty pos aft none).wp P a w K Q): wpOp P ops Q i K a w:=by
 unfold wpOp;simp only[ho];rw[if_pos (by rfl)];exact .inl h
theorem JS{i j t:Nat}{want:Bool}{d:Option Tmp}{op:Op}{K:Act→World→Prop}{Q:Exit→Act→World→Prop}(b:St n S w0 L σ Φ a w)(ho:ops[i]?=some ⟨d,op,ty,pos,aft,some (j,want)⟩)(hj:(ops[j]?).bind (·.dst)=some t)(ht:look L t=some (.bool want))(h:(Oper.mk d op ty pos aft (some (j,want))).wp P a w K Q): wpOp P ops Q i K a w:=by
 unfold wpOp;simp only[ho];rw[if_pos (by rw[Ao b hj ht];simp)];exact .inl h
theorem Mv(h:St n S w0 L σ Φ a w){d:Nat}{f:FuncId}{args:Array Operand}{b:Array TypeId}{g:Option (Nat×Bool)}{vs:List Value}{Φ':List Zp}{post:Value→List Zp→Prop}(ha:args.toList.map (Fx.ev L)=vs.map some)(hc:∀args w,(callFunc f args).run P w=.ok (.enter f args) w)(hf:Ctr P f vs Φ' post)(c:∀R∈Φ',R∈Φ)(hd:d<n){K:Act→World→Prop}{Q:Exit→Act→World→Prop}(k:∀v Ψ w',post v Ψ→Ext w w'→St n S w0 ((d,v)::L) σ (Ψ++Φ) (a.put (some d) v) w'→K (a.put (some d) v) w'): (Oper.mk (some d) (.call ⟨.value (.func f),args,b⟩) ty pos aft g).wp P a w K Q:=by
 obtain ⟨X,h1,m,j,l⟩:=h.facts
 have hr:(execOp a.eval (Oper.mk (some d) (.call ⟨.value (.func f),args,b⟩) ty pos aft g)).run P w=.ok (.enter f vs.toArray) w:=by
  simp only[execOp,resolve,Ea h ha,Sem.run_bind,Act.eval]
  simp[Deferred.ofValue,invoke,hc]
 simp only[Oper.wp,hr,Oper.upon]
 refine(hf X w j (fun R hR=>l R (c R hR))).mono ?_
 rintro e w' ⟨v,Ψ,rfl,p,i,o⟩
 exact k v Ψ _ p i ((h.called i h1 m j l o).put hd v)
theorem Zs{i d:Nat}{f:FuncId}{args:Array Operand}{c:Array TypeId}{ty:TypeId}{pos:String}{e:Array Edge}{vs:List Value}{Φ':List Zp}{post:Value→List Zp→Prop}(ho:ops[i]?=some ⟨some d,.call ⟨.value (.func f),args,c⟩,ty,pos,e,none⟩)(hq:Vm ops i H=true)(ha:args.toList.map (Fx.ev L)=vs.map some)(hc:∀args w,(callFunc f args).run P w=.ok (.enter f args) w)(hf:Ctr P f vs Φ' post)(b:∀R∈Φ',R∈Φ)(hd:d<n)(k:∀v Ψ,post v Ψ→Head P ops n S w0 Kf H ((d,v)::L) σ (Ψ++Φ)): Head P ops n S w0 Kf (i::H) L σ Φ :=
 .inr (.inl ⟨_,ho,hq,fun _ _ _ g=>Jo ho (Mv g ha hc hf b hd fun v Ψ _ h hx a=>⟨⟨fun _=>hx,fun _ _ _ _ he=>by cases he⟩,v,σ,Ψ++Φ,rfl,a,k v Ψ h⟩)⟩)
theorem T9{i d j t:Nat}{want:Bool}{f:FuncId}{args:Array Operand}{e:Array TypeId}{ty:TypeId}{pos:String}{g:Array Edge}{vs:List Value}{Φ':List Zp}{post:Value→List Zp→Prop}(ho:ops[i]?=some ⟨some d,.call ⟨.value (.func f),args,e⟩,ty,pos,g,some (j,want)⟩)(hj:(ops[j]?).bind (·.dst)=some t)(ht:look L t=some (.bool want))(hq:Vm ops i H=true)(ha:args.toList.map (Fx.ev L)=vs.map some)(hc:∀args w,(callFunc f args).run P w=.ok (.enter f args) w)(hf:Ctr P f vs Φ' post)(c:∀R∈Φ',R∈Φ)(hd:d<n)(k:∀v Ψ,post v Ψ→Head P ops n S w0 Kf H ((d,v)::L) σ (Ψ++Φ)): Head P ops n S w0 Kf (i::H) L σ Φ :=
 .inr (.inl ⟨_,ho,hq,fun _ _ _ b=>JS b ho hj ht (Mv b ha hc hf c hd fun v Ψ _ h hx a=>⟨⟨fun _=>hx,fun _ _ _ _ he=>by cases he⟩,v,σ,Ψ++Φ,rfl,a,k v Ψ h⟩)⟩)
theorem Upd.append{σ σ':List (Nat×Obj)}{b:Nat}{o o':Obj}(h:Upd σ b o o' σ'): ∀a:List (Nat×Obj),Upd (a++σ) b o o' (a++σ')
 | []=>h
 | p::a =>.tail (h.append a)
theorem Vq{i:Nat}{x y:Operand}{T:TypeId}{b off:Nat}{cs:Array Value}{m:TypeId}{s:Nat}{v:Value}{σ':List (Nat×Obj)}(ho:ops[i]?=some ⟨none,.store T x y,ty,pos,aft,none⟩)(hq:Vm ops i H=true){cs':Array Value}(hx:Fx.ev L x=some (.pointer (some ⟨b,off,none⟩)))(o:Fx.ev L y=some v)(e:Zl cs off v.cells.toList=cs')(hu:Upd σ b (.cells cs m (0,0)) (.cells cs' m (0,0)) σ')(hs:∀w,(Go.sizeOf T).run P w=.ok s w)(j:v.cells.size=s)(hle:off+s≤cs.size)(l:v.cells.toList.all flat=true)(k:Head P ops n S w0 Kf H L σ' Φ): Head P ops n S w0 Kf (i::H) L σ Φ :=
 .inr (.inl ⟨_,ho,hq,fun a w g d=>Jo ho (by
  subst e
  obtain ⟨w',hr,q,f⟩:=d.store (hu.append g) hs j hle l
  exact Gy (w':=w') (by simp only[execOp,d.ev hx,d.ev o,Sem.run_bind,hr];rfl) ⟨⟨(fun h=>by simp[early] at h),fun z t u p he r c hc=>f c (by
   simp only[Op.store.injEq] at he
   obtain ⟨_,rfl,_⟩:=he
   have:=d.val t _ hx
   rw[r] at this
   cases this
   exact hc)⟩,undef,σ',Φ,rfl,q,k⟩)⟩)
theorem TZ{i d:Nat}{T:TypeId}{z:Value}{ty:TypeId}{pos:String}{after:Array Edge}(ho:ops[i]?=some ⟨some d,.alloc T,ty,pos,after,none⟩)(hq:LP ops i H=true)(hz:∀w,(zeroValue T).run P w=.ok z w)(hd:d<n)(k:∀b,Head P ops n S w0 Kf H ((d,.pointer (some ⟨b,0,none⟩))::L) ((b,.cells z.cells T (0,0))::σ) Φ): Head P ops n S w0 Kf (i::H) L σ Φ :=
 .inr (.inr (.inl ⟨d,T,z,ty,pos,after,ho,hq,hz,hd,k⟩))
theorem eO(k:∀a w,St n S w0 L σ Φ a w→Kf .normal a w): Head P ops n S w0 Kf [] L σ Φ:=k
theorem T8{i d:Nat}{f:FuncId}{args:Array Operand}{b:Array TypeId}{ty:TypeId}{pos:String}{a:Array Edge}{vs:List Value}{v:Value}(ho:ops[i]?=some ⟨some d,.call ⟨.value (.func f),args,b⟩,ty,pos,a,none⟩)(hq:Vm ops i H=true)(ha:args.toList.map (Fx.ev L)=vs.map some)(hc:∀args w,(callFunc f args).run P w=.ok (.enter f args) w)(hf:Ji P f vs v)(hd:d<n)(k:Head P ops n S w0 Kf H ((d,v)::L) σ Φ): Head P ops n S w0 Kf (i::H) L σ Φ :=
 Zs ho hq ha hc hf (fun _ hR=>nomatch hR) hd fun u Ψ c=>by obtain ⟨rfl,rfl⟩:=c;exact k
theorem Xk{i d j t:Nat}{want:Bool}{f:FuncId}{args:Array Operand}{b:Array TypeId}{ty:TypeId}{pos:String}{a:Array Edge}{vs:List Value}{v:Value}(ho:ops[i]?=some ⟨some d,.call ⟨.value (.func f),args,b⟩,ty,pos,a,some (j,want)⟩)(hj:(ops[j]?).bind (·.dst)=some t)(ht:look L t=some (.bool want))(hq:Vm ops i H=true)(ha:args.toList.map (Fx.ev L)=vs.map some)(hc:∀args w,(callFunc f args).run P w=.ok (.enter f args) w)(hf:Ji P f vs v)(hd:d<n)(k:Head P ops n S w0 Kf H ((d,v)::L) σ Φ): Head P ops n S w0 Kf (i::H) L σ Φ :=
 T9 ho hj ht hq ha hc hf (fun _ hR=>nomatch hR) hd fun u Ψ c=>by obtain ⟨rfl,rfl⟩:=c;exact k
theorem Ju{d:Nat}{c:Bool}(k1:c=true→Head P ops n S w0 Kf H ((d,.bool true)::L) σ Φ)(k2:c=false→Head P ops n S w0 Kf H ((d,.bool false)::L) σ Φ): Head P ops n S w0 Kf H ((d,.bool c)::L) σ Φ:=by
 cases c
 ·exact k2 rfl
 ·exact k1 rfl
theorem Fb(h:(H.all fun j => !isF ops j)=true): Am P ops n H L:=fun j hj d T ty pos after _ a=>by
 have:=List.all_eq_true.1 h j hj
 rw[a] at this;cases this
def aa(P:Program)(ops:Array Oper)(n:Nat)(L:List (Nat×Value)): List Nat→Prop
 | []=>True
 | j::H=>(isF ops j=false ∨ ∃d T ty pos after,ops[j]?=some ⟨some d,.alloc T,ty,pos,after,none⟩∧look L d=none∧d<n ∧ ∃z,∀w,(zeroValue T).run P w=.ok z w)∧aa P ops n L H
theorem Iy:∀ {H:List Nat},aa P ops n L H→Am P ops n H L
 | [],_=>fun j hj=>nomatch hj
 | j::H,h=>fun k hk d T ty pos after ho c=>by
  rcases List.mem_cons.1 hk with rfl|hk
  ·rcases h.1 with h1|⟨d',i,f,pos',b,a,h1,e,g⟩
   ·rw[h1] at c;cases c
   ·rw[ho] at a
    simp only[Option.some.injEq,Oper.mk.injEq,Op.alloc.injEq] at a
    obtain ⟨rfl,rfl,_⟩:=a
    exact⟨h1,e,g⟩
  ·exact Iy h.2 k hk d T ty pos after ho c
end
end Go.Fx
namespace Go.Fx
open Go Go.RowKit
variable{ty:TypeId}{pos:String}{aft:Array Edge}
def Row(a:Option Addr)(L:List Value): Zp where
 p X w:=L≠[] → ∃b off cs T fr,a=some ⟨b,off,none⟩ ∧ ¬X b∧w.heap[b]?=some (.cells cs T fr) ∧ ∀j,j<L.length→cs[off+j]?=L[j]?
 st X X' w w' h hk hs hX hne:=by
  obtain ⟨b,off,cs,T,fr,ha,hb,hc,hj⟩:=h hne
  have hlt:b<w.heap.size:=by
   rcases Nat.lt_or_ge b w.heap.size with h'|h'
   ·exact h'
   ·simp[Array.getElem?_eq_none h'] at hc
  refine⟨b,off,cs,T,fr,ha,fun hx=>?_,by rw[hk b hlt hb];exact hc,hj⟩
  rcases hX b hx with h1|h1
  ·exact hb h1
  ·omega
section
variable{P:Program}{n:Nat}{S:Nat→Prop}{w0:World}{L:List (Nat×Value)}{σ σ':List (Nat×Obj)}{Φ:List Zp}{a:Act}{w:World}{K:Act→World→Prop}{Q:Exit→Act→World→Prop}
theorem St.fact(h:St n S w0 L σ Φ a w){R:Zp}(hR:R∈Φ): ∃X:Nat→Prop,(∀p∈σ,X p.1)∧(∀b,X b→b<w.heap.size)∧R.p X w:=by
 obtain ⟨X,_,c,e,d⟩:=h.facts
 exact⟨X,c,e,d R hR⟩
theorem St.row_addr(h:St n S w0 L σ Φ a w){ad:Option Addr}{M:List Value}(hR:Row ad M∈Φ)(c:M≠[]): ∃b off,ad=some ⟨b,off,none⟩:=by
 obtain ⟨X,_,_,d⟩:=h.fact hR
 obtain ⟨b,off,_,_,_,ha,_⟩:=d c
 exact⟨b,off,ha⟩
theorem St.derive(h:St n S w0 L σ Φ a w){R:Zp}(hR:∀X,(∀R∈Φ,R.p X w)→R.p X w): St n S w0 L σ (R::Φ) a w :=
 { h with
  facts:=by
   obtain ⟨X,h1,d,f,c⟩:=h.facts
   exact⟨X,h1,d,f,fun e b=>by
    rcases List.mem_cons.1 b with rfl|b
    ·exact hR X c
    ·exact c e b⟩ }
theorem St.factsSub(h:St n S w0 L σ Φ a w){Φ':List Zp}(hs:∀R∈Φ',R∈Φ): St n S w0 L σ Φ' a w :=
 { h with
  facts:=by
   obtain ⟨X,h1,b,d,c⟩:=h.facts
   exact⟨X,h1,b,d,fun R hR=>c R (hs R hR)⟩ }
theorem St.drop(h:St n S w0 L σ Φ a w)(hs:List.Sublist σ' σ): St n S w0 L σ' Φ a w :=
 { h with
  own:=fun p b=>h.own p (hs.subset b)
  new:=fun p b=>h.new p (hs.subset b)
  nd:=h.nd.sublist hs
  facts:=by
   obtain ⟨X,h1,d,e,c⟩:=h.facts
   exact⟨X,h1,fun p b=>d p (hs.subset b),e,c⟩ }
theorem St.share{b:Nat}{cs:Array Value}{T:TypeId}{fr:Nat×Nat}(h:St n S w0 L ((b,.cells cs T fr)::σ) Φ a w)(g:∀k,S k→k<w0.heap.size){off:Nat}{M:List Value}(f:∀j,j<M.length→cs[off+j]?=M[j]?):
  St n S w0 L σ (Row (some ⟨b,off,none⟩) M::Φ) a w :=
 { h with
  own:=fun p c=>h.own p (List.mem_cons_of_mem _ c)
  new:=fun p c=>h.new p (List.mem_cons_of_mem _ c)
  nd:=(List.pairwise_cons.1 h.nd).2
  facts:=by
   obtain ⟨X,h1,d,i,l⟩:=h.facts
   have m:=h.new _ List.mem_cons_self
   refine⟨fun k=>X k∧k≠b,fun k hk=>⟨h1 k hk,fun e=>?_⟩,fun p c=>⟨d p (List.mem_cons_of_mem _ c),fun e=>(List.pairwise_cons.1 h.nd).1 p c e.symm⟩,fun k hk=>i k hk.1,fun R hR=>?_⟩
   ·have:=g k hk;simp only at m;omega
   ·rcases List.mem_cons.1 hR with rfl|hR
    ·intro _
     exact⟨b,off,cs,T,fr,rfl,fun hk=>hk.2 rfl,h.own _ List.mem_cons_self,f⟩
    ·exact R.st X _ w w (l R hR) (fun _ _ _=>rfl) (Nat.le_refl _) (fun k hk =>.inl hk.1) }
theorem Ch{b off j:Nat}{M:List Value}{T:TypeId}{agg:Bool}{s:Nat}{v:Value}{X:Nat→Prop}(hR:(Row (some ⟨b,off,none⟩) M).p X w)(a:j<M.length)(hagg:∀w,(isAgg T).run P w=.ok agg w)(hs:∀w,(Go.sizeOf T).run P w=.ok s w)(hv:Zk agg s M.toArray j=some v)(f:agg=true∨s=1): (Instr.loadAt T (.pointer (some ⟨b,off+j,none⟩))).run P w=.ok v w:=by
 obtain ⟨l,c,cs,k,fr,ha,_,hc,hj⟩:=hR (fun e=>by subst e;simp at a)
 cases ha
 refine Xs hc hagg hs ?_
 unfold Zk at *
 cases agg with
 | false=>simp only[Bool.false_eq_true,if_false] at hv ⊢;rw[hj j a];simpa using hv
 | true =>
  simp only[if_true] at hv ⊢
  split at hv
  ·rename_i hle
   cases hv
   simp at hle
   have d:off+M.length≤cs.size:=by
    have h1:=hj (M.length-1) (by omega)
    have:(M.length-1)<M.length:=by omega
    rw[List.getElem?_eq_getElem this] at h1
    obtain ⟨g,_⟩:=Array.getElem?_eq_some_iff.1 h1
    omega
   rw[if_pos (by omega)]
   congr 2
   apply Array.ext'
   apply List.ext_getElem?
   intro i
   simp only[Array.toList_extract,List.extract_eq_take_drop,List.getElem?_take,List.getElem?_drop]
   by_cases h:i<s
   ·rw[if_pos (by omega),if_pos (by omega)]
    have:=hj (j+i) (by omega)
    simp only[Array.getElem?_toList]
    rw[show off+j+i=off+(j+i) from by omega,this]
   ·rw[if_neg (by omega),if_neg (by omega)]
  ·cases hv
theorem Xp(h:St n S w0 L σ Φ a w){d:Nat}{T:TypeId}{x:Operand}{g:Option (Nat×Bool)}{b off j:Nat}{M:List Value}{agg:Bool}{s:Nat}{v:Value}(hx:Fx.ev L x=some (.pointer (some ⟨b,off+j,none⟩)))(hm:Row (some ⟨b,off,none⟩) M∈Φ)(c:j<M.length)(hagg:∀w,(isAgg T).run P w=.ok agg w)(hs:∀w,(Go.sizeOf T).run P w=.ok s w)(hv:Zk agg s M.toArray j=some v)(e:agg=true∨s=1)(hd:d<n)(k:∀f,St n S w0 ((d,v)::L) σ Φ f w→K f w): (Oper.mk (some d) (.load T x) ty pos aft g).wp P a w K Q:=by
 obtain ⟨X,_,_,i⟩:=h.fact hm
 exact Qf (v:=v) (w':=w) (by
  simp only[execOp,h.ev hx,Sem.run_bind,Ch i c hagg hs hv e];rfl) (k _ (h.put hd v))
theorem Nn(h:St n S w0 L σ Φ a w){d:Nat}{op:Op}{g:Option (Nat×Bool)}{len cap:Nat}{cs:Array Value}{E:TypeId}(hr:(execOp a.eval (Oper.mk (some d) op ty pos aft g)).run P w=.ok (.value (.slice (some ⟨w.heap.size,0,none⟩) len cap)) (w.alloc (.cells cs E (0,0))))(hd:d<n)(k:∀b c w',St n S w0 ((d,.slice (some ⟨b,0,none⟩) len cap)::L) ((b,.cells cs E (0,0))::σ) Φ c w'→K c w'): (Oper.mk (some d) op ty pos aft g).wp P a w K Q :=
 Qf hr (k _ _ _ ((h.alloc _).put hd _))
theorem Lo(h:St n S w0 L σ Φ a w){d:Nat}{T:TypeId}{len:Nat}{parts:Array (Nat×Operand)}{g:Option (Nat×Bool)}{cap:Nat}{cs:Array Value}{E:TypeId}(vs:List (Nat×Value))(e:parts.toList.map (fun p=>(p.1,Fx.ev L p.2))=vs.map (fun p=>(p.1,some p.2)))(hr:∀w,(Instr.buildSlice T len vs.toArray).run P w=.ok (.slice (some ⟨w.heap.size,0,none⟩) len cap) (w.alloc (.cells cs E (0,0))))(hd:d<n)(k:∀b c w',St n S w0 ((d,.slice (some ⟨b,0,none⟩) len cap)::L) ((b,.cells cs E (0,0))::σ) Φ c w'→K c w'): (Oper.mk (some d) (.buildSlice T len parts) ty pos aft g).wp P a w K Q :=
 Nn h (by simp only[execOp,BV h e,Sem.run_bind,hr];rfl) hd k
def Cj(m:Nat)(z:List Value): List Value:=(List.replicate m z).flatten
theorem Kq(m:Nat)(z:List Value): (Cj m z).length=m*z.length:=by simp[Cj]
theorem Ra(z:List Value)(hz:z≠[]): ∀(m j:Nat),(Cj m z)[j]?=if j<m*z.length then z[j%z.length]? else none
 | 0,j=>by simp[Cj]
 | m+1,j=>by
  have b:0<z.length:=List.length_pos_iff.2 hz
  have e:Cj (m+1) z=z++Cj m z:=by simp[Cj,List.replicate_succ]
  rw[e,List.getElem?_append]
  split
  ·rename_i hj
   rw[if_pos (by rw[Nat.succ_mul];omega),Nat.mod_eq_of_lt hj]
  ·rename_i hj
   rw[Ra z hz m,Nat.succ_mul]
   have h1:(j-z.length)%z.length=j%z.length:=by
    rw[Nat.mod_eq_sub_mod (Nat.le_of_not_lt hj)]
   rw[h1]
   by_cases a:j-z.length<m*z.length
   ·rw[if_pos a,if_pos (by omega)]
   ·rw[if_neg a,if_neg (by omega)]
theorem J7(m:Nat)(z:Array Value)(hz:z≠#[]): (Array.range (m*z.size)).map (fun j=>z[j%z.size]!)=(Cj m z.toList).toArray:=by
 have b:z.toList≠[]:=fun e=>hz (Array.toList_eq_nil_iff.1 e)
 have a:0<z.size:=by
  rcases Nat.eq_zero_or_pos z.size with h|h
  ·exact absurd (Array.eq_empty_of_size_eq_zero h) hz
  ·exact h
 apply Array.ext'
 apply List.ext_getElem?
 intro j
 rw[List.toList_toArray,Ra _ b]
 simp only[Array.length_toList]
 by_cases hj:j<m*z.size
 ·have hm:j%z.size<z.size:=Nat.mod_lt _ a
  simp[hj,hm]
 ·simp[hj]
theorem run_askRoom(bytes:Nat): (askRoom bytes).run P w=.ok () w:=by
 unfold askRoom;split<;>rfl
theorem run_makeSlice{T E:TypeId}{i:TypeInfo}{z:Value}{k:Nat}(hT:∀w,(underlying T).run P w=.ok (.slice E) w)(n:∀w,(typeInfo E).run P w=.ok i w)(hk:∀w,(Go.sizeOf E).run P w=.ok k w)(hz:∀w,(zeroValue E).run P w=.ok z w)(b:z.cells.size=k)(c:k≠0){len cap:Nat}(h1:len≤cap)(q:i.bytes*cap≤281474976710656)(r:cap≤9223372036854775807):
  (Instr.makeSlice T (.int .i64 len) (.int .i64 cap)).run P w=.ok (.slice (some ⟨w.heap.size,0,none⟩) len cap) (w.alloc (.cells (Cj cap z.cells.toList).toArray E (0,0))):=by
 have wl:IntKind.i64.wrap (len:Int)=len:=by rw[IntKind.wrap_i64];omega
 have j:IntKind.i64.wrap (cap:Int)=cap:=by rw[IntKind.wrap_i64];omega
 have f:z.cells≠#[]:=fun e=>by rw[e] at b;exact c b.symm
 have m:¬(2 ^ 48<(i.bytes:Int)*(cap:Int)):=by
  have:((i.bytes*cap:Nat):Int)≤281474976710656:=by omega
  rw[Int.natCast_mul] at this;omega
 have hl:¬(281474976710656<(i.bytes:Int)*(cap:Int)):=by simpa using m
 have l:(asInt (.int .i64 (len:Int)))=(pure (len:Int):Sem Int):=rfl
 have o:(asInt (.int .i64 (cap:Int)))=(pure (cap:Int):Sem Int):=rfl
 have g:¬((cap:Int)<0):=by omega
 have d:¬((len:Int)<0):=by omega
 have h:¬((cap:Int)<(len:Int)):=by omega
 unfold Instr.makeSlice
 simp only[Sem.run_bind,hT,Result.andThen,l,o]
 simp only[Sem.run_bind,n,Result.andThen,wl,j,Sem.run_pure]
 simp only[g,hl,d,h,decide_false,Bool.or_self,gt_iff_lt,Int.reducePow,Bool.false_eq_true,if_false,Int.toNat_natCast]
 simp only[Sem.run_bind,run_askRoom,Result.andThen,hk,hz]
 by_cases a:cap=0
 ·subst a
  simp only[Nat.zero_mul,if_true,Sem.run_pure,Result.andThen,Sem.run_bind]
  have p:(Array.range 0).map (fun x=>(#[]:Array Value)[x%(#[]:Array Value).size]!)=(Cj 0 z.cells.toList).toArray:=by
   apply Array.ext';simp[Cj,Array.range]
  rw[p]
  rfl
 ·have:cap*k≠0:=Nat.mul_ne_zero a c
  simp only[this,if_false,Sem.run_bind,hz,Result.andThen,Sem.run_pure]
  rw[←b,J7 cap z.cells f]
  rfl
theorem Je(h:St n S w0 L σ Φ a w){d:Nat}{T E:TypeId}{x y:Operand}{g:Option (Nat×Bool)}{i:TypeInfo}{z:Value}{k len cap:Nat}(hx:Fx.ev L x=some (.int .i64 len))(l:Fx.ev L y=some (.int .i64 cap))(hT:∀w,(underlying T).run P w=.ok (.slice E) w)(m:∀w,(typeInfo E).run P w=.ok i w)(hk:∀w,(Go.sizeOf E).run P w=.ok k w)(hz:∀w,(zeroValue E).run P w=.ok z w)(e:z.cells.size=k)(c:k≠0)(h1:len≤cap)(j:i.bytes*cap≤281474976710656)(o:cap≤9223372036854775807)(hd:d<n)(kk:∀b f w',St n S w0 ((d,.slice (some ⟨b,0,none⟩) len cap)::L) ((b,.cells (Cj cap z.cells.toList).toArray E (0,0))::σ) Φ f w'→K f w'): (Oper.mk (some d) (.makeSlice T x y) ty pos aft g).wp P a w K Q :=
 Nn h (by simp only[execOp,h.ev hx,h.ev l,Sem.run_bind,run_makeSlice hT m hk hz e c h1 j o];rfl) hd kk
theorem nextslicecap_le(a c:Nat)(h:c<a): Builtin.nextslicecap a c≤2*a+192:=by
 have e:∀(r c:Nat),c<a+(a+768)/4→Builtin.growBy a r c≤a+(a+768)/4:=by
  intro r
  induction r with
  | zero=>intro c hc;simp only[Builtin.growBy];omega
  | succ r d =>
   intro c hc
   simp only[Builtin.growBy]
   split
   ·omega
   ·rename_i h1
    by_cases b:c+(c+768)/4<a+(a+768)/4
    ·exact d _ b
    ·omega
 unfold Builtin.nextslicecap
 split
 ·omega
 ·split
  ·omega
  ·have:=e 4 c (by omega);omega
theorem Jx{b m:Nat}{cs:Array Value}{T:TypeId}{fr:Nat×Nat}(h:w.heap[b]?=some (.cells cs T fr))(hm:m≤cs.size):
  (loadCells ⟨b,0,none⟩ m).run P w=.ok (cs.extract 0 m) w:=by
 have:=Xc (P:=P) w b 0 h m 0 #[] (by omega)
 simpa [loadCells] using this
theorem CQ{z:Value}(hz:z.cells≠#[])(m:Nat): Builtin.zeroCells z.cells m=(Cj m z.cells.toList).toArray:=J7 m z.cells hz
theorem run_append_grow{T C E G:TypeId}{i:TypeInfo}{z:Value}{k n m c c2:Nat}{ad:Option Addr}{q:Nat}{xs ys:List Value}{d:Array Value}{u:TypeId}{B:Nat×Nat}(hT:∀w,(underlying T).run P w=.ok (.slice E) w)(y:∀w,(underlying C).run P w=.ok (.slice G) w)(D:∀w,(typeInfo E).run P w=.ok i w)(hk:∀w,(Go.sizeOf E).run P w=.ok k w)(hz:∀w,(zeroValue E).run P w=.ok z w)(o:z.cells.size=k)(t:k≠0)(H:0<i.bytes)(s:i.bytes*(2*(n+m)+192)≤281474976710656)(hc:c<n+m)(hold:∀w':World,w'.heap=w.heap→(Builtin.firstCells k n (.slice ad n c)).run P w'=.ok xs.toArray w')(F:w.heap[q]?=some (.cells d u B))(x:m*k≤d.size)(r:d.extract 0 (m*k)=ys.toArray)(ty:TypeId):
  ∃(p:Nat) (w':World),n+m≤p∧w'.heap=w.heap∧w'.os=w.os∧w'.tape=w.tape∧w'.output=w.output ∧
   (Builtin.append_ #[T,C] ty #[.slice ad n c,.slice (some ⟨q,0,none⟩) m c2]).run P w =
    .ok (.slice (some ⟨w'.heap.size,0,none⟩) (n+m) p) (w'.alloc (.cells (xs++ys++Cj (p-(n+m)) z.cells.toList).toArray E (0,0))):=by
 have v:z.cells≠#[]:=fun e=>by rw[e] at o;exact t o.symm
 have j:=nextslicecap_le (n+m) c hc
 have g:¬(Builtin.nextslicecap (n+m) c*i.bytes>2 ^ 48):=by
  have:Builtin.nextslicecap (n+m) c*i.bytes≤(2*(n+m)+192)*i.bytes:=Nat.mul_le_mul_right _ j
  rw[Nat.mul_comm (2*(n+m)+192)] at this
  have e:(2:Nat) ^ 48=281474976710656:=by decide
  omega
 have A:¬(((n+m:Nat):Int)>IntKind.i64.max∧(false=true∨i.bytes=0)):=by
  rintro⟨_,h|h⟩
  ·cases h
  ·omega
 refine⟨(Question.appendCap (n+m) c E).cut (w.tape w.drawn (.appendCap (n+m) c E)),{ w with drawn:=w.drawn+1 },by simp[Question.cut],rfl,rfl,rfl,rfl,?_⟩
 have b:=hold { w with drawn:=w.drawn+1 } rfl
 have l:(Builtin.firstCells k m (.slice (some ⟨q,0,none⟩) m c2)).run P { w with drawn:=w.drawn+1 }=.ok ys.toArray { w with drawn:=w.drawn+1 }:=by
  simp only[Builtin.firstCells]
  rw[Jx (w:={ w with drawn:=w.drawn+1 }) F x,r]
 generalize hq:(Question.appendCap (n+m) c E).cut (w.tape w.drawn (.appendCap (n+m) c E))=p at *
 have a:(choose (.appendCap (n+m) c E)).run P w=.ok p { w with drawn:=w.drawn+1 }:=by
  simp[choose,Sem.run,Question.forced,hq]
 unfold Builtin.append_
 simp only[List.getElem?_toArray,List.getElem?_cons_zero,List.getElem?_cons_succ,Sem.run_bind,hT,y,hk,Result.andThen,Sem.run_pure,Bool.false_eq_true,if_false,Builtin.lenOf,Nat.not_le.2 hc,D,g,false_or]
 have f:¬(((n+m:Nat):Int)>IntKind.i64.max∧i.bytes=0):=fun h=>A ⟨h.1,.inr h.2⟩
 simp only[f,if_false,Sem.run_bind,Sem.run_pure,Result.andThen,D,g,a,run_askRoom,b,Bool.not_false,if_true,l,hz,CQ v]
 simp[newRow,newObj,Sem.run]
 rfl
theorem run_append_fits{T q E v:TypeId}{k n m c c2 b f:Nat}{cs:Array Value}{ys:List Value}{a:Array Value}{i h:TypeId}{p:Nat×Nat}(hT:∀w,(underlying T).run P w=.ok (.slice E) w)(o:∀w,(underlying q).run P w=.ok (.slice v) w)(hk:∀w,(Go.sizeOf E).run P w=.ok k w)(hc:n+m≤c)(h1:w.heap[b]?=some (.cells cs i (0,0)))(t:c*k≤cs.size)(r:w.heap[f]?=some (.cells a h p))(l:m*k≤a.size)(d:a.extract 0 (m*k)=ys.toArray)(g:ys.all flat=true)(ty:TypeId):
  ∃w',(Builtin.append_ #[T,q] ty #[.slice (some ⟨b,0,none⟩) n c,.slice (some ⟨f,0,none⟩) m c2]).run P w=.ok (.slice (some ⟨b,0,none⟩) (n+m) c) w' ∧
   w'.os=w.os∧w'.tape=w.tape∧w'.output=w.output∧w'.heap.size=w.heap.size ∧
   w'.heap[b]?=some (.cells (Zl cs (n*k) ys) i (0,0)) ∧ ∀j,j≠b→w'.heap[j]?=w.heap[j]?:=by
 have hlen:ys.length=m*k:=by
  have:=congrArg Array.size d
  simp at this;omega
 have hle:n*k+m*k≤cs.size:=by
  have:(n+m)*k≤c*k:=Nat.mul_le_mul_right k hc
  rw[Nat.add_mul] at this;omega
 obtain ⟨w',hr,x,z,s,B,A,y⟩:=Xg (P:=P) b (n*k) (T:=i) ys 0 w cs h1 (by omega) (fun u hu=>Df (List.all_eq_true.1 g u hu))
 refine⟨w',?_,x,z,s,B,by simpa using A,y⟩
 have e:(Builtin.firstCells k m (.slice (some ⟨f,0,none⟩) m c2)).run P w=.ok ys.toArray w:=by
  simp only[Builtin.firstCells]
  rw[Jx r l,d]
 unfold Builtin.append_
 simp only[List.getElem?_toArray,List.getElem?_cons_zero,List.getElem?_cons_succ,Sem.run_bind,hT,o,hk,Result.andThen,Sem.run_pure,Bool.false_eq_true,if_false,Builtin.lenOf,hc,if_true,Bool.not_false,e,AS,Nat.zero_add]
 simp only[hr]
def Grow(k:Nat)(E:TypeId)(v:Value)(m:Nat)(xs:List Value)(σ σ1:List (Nat×Obj)): Prop :=
 xs.length=m*k ∧
 ((v=.slice none 0 0∧m=0∧σ=σ1) ∨
  (∃b c R,v=.slice (some ⟨b,0,none⟩) m c∧(xs++R).length=c*k∧m≤c∧σ=(b,Obj.cells (xs++R).toArray E (0,0))::σ1))
theorem Grow.sub{k:Nat}{E:TypeId}{v:Value}{m:Nat}{xs:List Value}{σ a:List (Nat×Obj)}(h:Grow k E v m xs σ a): List.Sublist a σ:=by
 rcases h with ⟨_,⟨_,_,rfl⟩|⟨b,c,R,_,_,_,rfl⟩⟩
 ·exact List.Sublist.refl _
 ·exact List.sublist_cons_self _ _
theorem Ke:∀(ys xs R:List Value),ys.length≤R.length→Zl (xs++R).toArray xs.length ys=(xs++ys++R.drop ys.length).toArray
 | [],xs,R,_=>by simp[Zl]
 | y::ys,xs,[],h=>by simp at h
 | y::ys,xs,r::R,h=>by
  have e:((xs++r::R).toArray.setIfInBounds xs.length y)=((xs++[y])++R).toArray:=by
   apply Array.ext'
   simp[List.set_append]
  rw[Zl,e]
  have:=Ke ys (xs++[y]) R (by simpa using h)
  simp only[List.length_append,List.length_cons,List.length_nil] at this
  rw[show xs.length+1=xs.length+(0+1) from rfl,this]
  simp
theorem KC{A:Nat}{ys:List Value}{t:TypeId}(h:St n S w0 L ((A,.cells ys.toArray t (0,0))::σ) Φ a w){d:Nat}{x y:Operand}{T B E E2:TypeId}{g:Option (Nat×Bool)}{i:TypeInfo}{z:Value}{k m m2 c2:Nat}{v:Value}{xs:List Value}{o:List (Nat×Obj)}(hx:Fx.ev L x=some v)(hy:Fx.ev L y=some (.slice (some ⟨A,0,none⟩) m2 c2))(V:Grow k E v m xs σ o)(hT:∀w,(underlying T).run P w=.ok (.slice E) w)(F:∀w,(underlying B).run P w=.ok (.slice E2) w)(hi:∀w,(typeInfo E).run P w=.ok i w)(hk:∀w,(Go.sizeOf E).run P w=.ok k w)(hz:∀w,(zeroValue E).run P w=.ok z w)(G:z.cells.size=k)(U:k≠0)(hb:0<i.bytes)(j:ys.length=m2*k)(O:ys.all flat=true)(a6:0<m2)(s:i.bytes*(2*(m+m2)+192)≤281474976710656)(hd:d<n)(kk:∀v' σ' w',Grow k E v' (m+m2) (xs++ys) σ' o→St n S w0 ((d,v')::L) σ' Φ (a.put (some d) v') w'→K (a.put (some d) v') w'):
  (Oper.mk (some d) (.call ⟨.builtin .append,#[x,y],#[T,B]⟩) ty pos aft g).wp P a w K Q:=by
 obtain ⟨hlen,V⟩:=V
 have hex:ys.toArray.extract 0 (m2*k)=ys.toArray:=by rw[←j];apply Array.ext';simp
 have r:∀v v' w1 I,(Builtin.append_ #[T,B] ty #[v,.slice (some ⟨A,0,none⟩) m2 c2]).run P w1=.ok v' I →
   a.eval x=v→(execOp a.eval (Oper.mk (some d) (.call ⟨.builtin .append,#[x,y],#[T,B]⟩) ty pos aft g)).run P w1=.ok (.value v') I:=by
  intro v v' w1 I h1 H
  have e:(#[x,y]:Array Operand).map a.eval=#[v,.slice (some ⟨A,0,none⟩) m2 c2]:=by simp[H,h.ev hy]
  simp only[execOp,resolve,e,Sem.run_bind,Sem.run_pure,Result.andThen,invoke,Go.builtin,h1]
 have l:∀(ad:Option Addr) (c:Nat),v=.slice ad m c→c<m+m2→(∀w':World,w'.heap=w.heap→(Builtin.firstCells k m (.slice ad m c)).run P w'=.ok xs.toArray w')→List.Sublist o σ →
   (Oper.mk (some d) (.call ⟨.builtin .append,#[x,y],#[T,B]⟩) ty pos aft g).wp P a w K Q:=by
  intro ad c hv hc hold C
  subst hv
  obtain ⟨c',w',N,f,J,u,D,hr⟩:=run_append_grow (P:=P) (w:=w) (c2:=c2) hT F hi hk hz G U hb s hc hold (h.own _ List.mem_cons_self) (by simp[j]) hex ty
  refine Qf (r _ _ _ _ hr (h.ev hx)) ?_
  have W:St n S w0 L ((A,.cells ys.toArray t (0,0))::σ) Φ a w':=by
   refine⟨h.size,h.defers,h.val,⟨by rw[J];exact h.ext.os,by rw[u];exact h.ext.tape,by rw[D];exact h.ext.output,by rw[f];exact h.ext.size,fun k hk=>by rw[f];exact h.ext.block k hk⟩,fun p hp=>by rw[f];exact h.own p hp,h.new,h.nd,?_⟩
   obtain ⟨X,h1,H,h3,h4⟩:=h.facts
   exact⟨X,h1,H,by rw[f];exact h3,fun R hR=>R.st X X w w' (h4 R hR) (fun b _ _=>by rw[f]) (by rw[f];exact Nat.le_refl _) (fun b hb =>.inl hb)⟩
  refine kk _ _ _ ⟨by simp[hlen,j,Nat.add_mul],.inr ⟨w'.heap.size,c',Cj (c'-(m+m2)) z.cells.toList,rfl,?_,N,rfl⟩⟩ ((((W.drop ((C.trans (List.sublist_cons_self _ _)))).alloc _).put hd _))
  simp only[List.length_append,hlen,j,Kq,Array.length_toList,G]
  rw[←Nat.add_mul, ←Nat.add_mul];congr 1;omega
 rcases V with ⟨rfl,Z,rfl⟩|⟨b,c,R,rfl,hR,a1,rfl⟩
 ·subst Z
  have M:xs=[]:=List.eq_nil_of_length_eq_zero (by simpa using hlen)
  subst M
  refine l none 0 rfl (by omega) (fun w' _=>?_) (List.Sublist.refl _)
  simp[Builtin.firstCells]
 ·by_cases hc:m+m2≤c
  ·have q:=h.own (b,Obj.cells (xs++R).toArray E (0,0)) (by simp)
   obtain ⟨w',hr,e1,e2,e3,e4,e5,e6⟩:=run_append_fits (P:=P) (w:=w) (c2:=c2) (n:=m) hT F hk hc q (by simp at hR ⊢;omega) (h.own _ List.mem_cons_self) (by simp[j]) hex O ty
   have hle:ys.length≤R.length:=by
    have h1:(m+m2)*k≤c*k:=Nat.mul_le_mul_right k hc
    rw[Nat.add_mul] at h1
    simp at hR;omega
   refine Qf (r _ _ _ _ hr (h.ev hx)) ?_
   rw[←hlen,Ke ys xs R hle] at e5
   have W:=h.turn (σ':=(A,.cells ys.toArray t (0,0))::(b,Obj.cells (xs++ys++R.drop ys.length).toArray E (0,0))::o) (Upd.tail Upd.head) e1 e2 e3 e4 e5 e6
   refine kk _ _ _ ⟨by simp[hlen,j,Nat.add_mul],.inr ⟨b,c,R.drop ys.length,rfl,?_,hc,rfl⟩⟩ ((W.drop (List.sublist_cons_self _ _)).put hd _)
   simp at hR ⊢;omega
  ·refine l _ c rfl (by omega) (fun w' Y=>?_) (List.sublist_cons_self _ _)
   have q:=h.own (b,Obj.cells (xs++R).toArray E (0,0)) (by simp)
   rw[←Y] at q
   simp only[Builtin.firstCells]
   rw[Jx q (by simp[hlen])]
   congr 1
   apply Array.ext'
   simp[hlen]
theorem WN{r:Nat}{ys:List Value}{p:TypeId}(h:St n S w0 L ((r,.cells ys.toArray p (0,0))::σ) Φ a w){d:Nat}{x y:Operand}{T s E A:TypeId}{g:Option (Nat×Bool)}{i:TypeInfo}{z:Value}{k m m2 c2:Nat}{v:Value}{xs:List Value}{c:List (Nat×Obj)}(hx:Fx.ev L x=some v)(u:Fx.ev L y=some (.slice (some ⟨r,0,none⟩) m2 c2))(D:Grow k E v m xs σ c)(hT:∀w,(underlying T).run P w=.ok (.slice E) w)(q:∀w,(underlying s).run P w=.ok (.slice A) w)(B:∀w,(typeInfo E).run P w=.ok i w)(hk:∀w,(Go.sizeOf E).run P w=.ok k w)(hz:∀w,(zeroValue E).run P w=.ok z w)(o:z.cells.size=k)(f:k≠0)(C:0<i.bytes)(l:ys.length=m2*k)(j:ys.all flat=true)(e:0<m2)(b:i.bytes*(2*(m+m2)+192)≤281474976710656)(hd:d<n)(kk:∀v' σ' t w',Grow k E v' (m+m2) (xs++ys) σ' c→St n S w0 ((d,v')::L) σ' Φ t w'→K t w'):
  (Oper.mk (some d) (.call ⟨.builtin .append,#[x,y],#[T,s]⟩) ty pos aft g).wp P a w K Q :=
 KC h hx u D hT q B hk hz o f C l j e b hd fun v' σ' w' F hs=>kk v' σ' _ w' F hs
theorem Qd{T E k:Nat}(hT:∀w,(underlying T).run P w=.ok (.slice E) w)(hk:∀w,(Go.sizeOf E).run P w=.ok k w)(b off n c j:Nat)(h:j<n)(w:World):
  (Instr.indexAt T (.slice (some ⟨b,off,none⟩) n c) (.int .i64 (j:Int))).run P w=.ok (.pointer (some ⟨b,off+j*k,none⟩)) w:=by
 have e:asIntOf (.int .i64 (j:Int))=(pure (.i64,(j:Int)):Sem _):=rfl
 have hj:(0:Int)≤(j:Int)∧(j:Int)<(n:Int):=by omega
 unfold Instr.indexAt
 simp only[e,Sem.run_bind,Sem.run_pure,Result.andThen,hT,hj,and_self,if_true,hk,Int.toNat_natCast,AS,Bool.and_false]
theorem Oh(a:Addr): a.add 0=a:=by simp[Addr.add]
theorem Bm{T E k:Nat}(hT:∀w,(underlying T).run P w=.ok (.slice E) w)(hk:∀w,(Go.sizeOf E).run P w=.ok k w)(a:Option Addr)(n c j:Nat)(h:j≤c)(w:World):
  (Instr.sliceAt T (.slice a n c) none (some (.int .i64 (j:Int))) none).run P w=.ok (.slice a j c) w:=by
 have e:asIntOf (.int .i64 (j:Int))=(pure (.i64,(j:Int)):Sem _):=rfl
 have hj:(0:Int)≤(j:Int)∧(j:Int)≤(c:Int):=by omega
 have ha:(if c=0 then a else a.map (fun x=>x.add 0))=a:=by
  split
  ·rfl
  ·cases a<;>simp[Oh]
 unfold Instr.sliceAt
 simp only[Sem.run_bind,hT,Result.andThen,Instr.slice,Instr.sliceBounds,Instr.sliceBound,e,Sem.run_pure,hj,and_self,if_true,hk,Int.toNat_natCast,Nat.zero_mul,Nat.sub_zero,ha]
theorem Tl{T E k:Nat}(hT:∀w,(underlying T).run P w=.ok (.slice E) w)(hk:∀w,(Go.sizeOf E).run P w=.ok k w)(b off n c a d:Nat)(h1:a≤d)(g:d≤c)(h:a<c)(w:World):
  (Instr.sliceAt T (.slice (some ⟨b,off,none⟩) n c) (some (.int .i64 (a:Int))) (some (.int .i64 (d:Int))) none).run P w=.ok (.slice (some ⟨b,off+a*k,none⟩) (d-a) (c-a)) w:=by
 have e:∀j:Nat,asIntOf (.int .i64 (j:Int))=(pure (.i64,(j:Int)):Sem _):=fun _=>rfl
 have hj:(0:Int)≤(d:Int)∧(d:Int)≤(c:Int):=by omega
 have hl:(0:Int)≤(a:Int)∧(a:Int)≤(d:Int):=by omega
 have f:c≠a:=by omega
 unfold Instr.sliceAt
 simp only[Sem.run_bind,hT,Result.andThen,Instr.slice,Instr.sliceBounds,Instr.sliceBound,e,Sem.run_pure,hj,hl,and_self,if_true,hk,Int.toNat_natCast,if_neg f,Option.map_some,AS]
theorem Zr{α:Type}{enc:α→Value}{l:List α}{j:Nat}(d:α)(h:j<l.length): Zk false 1 (l.map enc).toArray j=some (enc (l.getD j d)):=by
 simp[Zk,h]
theorem HI{ad:Option Addr}{M:List Value}{X:Nat→Prop}{w:World}(h:(Row ad M).p X w)(m:Nat): (Row ad (M.take m)).p X w:=by
 intro c
 obtain ⟨b,off,cs,T,fr,ha,d,hc,hj⟩:=h (fun e=>by subst e;simp at c)
 refine⟨b,off,cs,T,fr,ha,d,hc,fun j a=>?_⟩
 simp at a
 rw[hj j (by omega),List.getElem?_take,if_pos (by omega)]
theorem wrap_i64(x:Int)(a: -9223372036854775808≤x)(h1:x≤9223372036854775807): IntKind.i64.wrap x=x:=by rw[IntKind.wrap_i64];omega
theorem wrap_u64(x:Int)(a:0≤x)(h1:x≤18446744073709551615): IntKind.u64.wrap x=x:=by simp[IntKind.wrap,IntKind.bits,IntKind.signed];omega
theorem wrap_u32(x:Int)(a:0≤x)(h1:x≤4294967295): IntKind.u32.wrap x=x:=by simp[IntKind.wrap,IntKind.bits,IntKind.signed];omega
theorem wrap_u8(x:Int)(a:0≤x)(h1:x≤255): IntKind.u8.wrap x=x:=by simp[IntKind.wrap,IntKind.bits,IntKind.signed];omega
theorem An(x:Int): IntKind.u64.wrap x=x%18446744073709551616:=by simp[IntKind.wrap,IntKind.bits,IntKind.signed]
theorem Jb(x:Int): IntKind.u32.wrap x=x%4294967296:=by simp[IntKind.wrap,IntKind.bits,IntKind.signed]
theorem Cb(x:Int): IntKind.u8.wrap x=x%256:=by simp[IntKind.wrap,IntKind.bits,IntKind.signed]
theorem Vj{k a:IntKind}(T:TypeId)(X Y:Operand)(x s:Nat)(hs:s≤k.bits):
  (do eqGuard .shr T X Y (.int k x) (.int a s);Go.binOp .shr T (.int k x) (.int a s):Sem Value).run P w=.ok (.int k ((x/2 ^ s:Nat):Int)) w:=by
 have e:Int.fdiv (x:Int) (2 ^ s)=((x/2 ^ s:Nat):Int):=by
  rw[Int.fdiv_eq_ediv_of_nonneg _ (by exact_mod_cast Nat.zero_le _)];norm_cast
 have b:¬((s:Int)<0):=by omega
 simp[eqGuard,Go.binOp,Op.shift,b,Nat.min_eq_left hs,e]
theorem Cf{k a:IntKind}(T:TypeId)(X Y:Operand)(x s:Nat)(hs:s≤k.bits):
  (do eqGuard .shl T X Y (.int k x) (.int a s);Go.binOp .shl T (.int k x) (.int a s):Sem Value).run P w=.ok (.int k (k.wrap ((x*2 ^ s:Nat):Int))) w:=by
 have b:¬((s:Int)<0):=by omega
 simp[eqGuard,Go.binOp,Op.shift,b,Nat.min_eq_left hs]
theorem EJ{k:IntKind}(hk:k.signed=false)(T:TypeId)(X Y:Operand)(x y:Nat)(hx:x<2 ^ k.bits)(a:y<2 ^ k.bits):
  (do eqGuard .or T X Y (.int k x) (.int k y);Go.binOp .or T (.int k x) (.int k y):Sem Value).run P w=.ok (.int k ((x ||| y:Nat):Int)) w:=by
 have c:(x ||| y)<2 ^ k.bits:=Nat.or_lt_two_pow hx a
 have e:k.wrap ((BitVec.ofInt k.bits (x:Int) ||| BitVec.ofInt k.bits (y:Int)).toNat:Int)=((x ||| y:Nat):Int):=by
  have h1:BitVec.ofInt k.bits (x:Int)=BitVec.ofNat k.bits x:=by simp
  have b:BitVec.ofInt k.bits (y:Int)=BitVec.ofNat k.bits y:=by simp
  rw[h1,b,BitVec.toNat_or,BitVec.toNat_ofNat,BitVec.toNat_ofNat,Nat.mod_eq_of_lt hx,Nat.mod_eq_of_lt a]
  unfold IntKind.wrap
  simp only[hk]
  simp
  exact_mod_cast Nat.mod_eq_of_lt c
 simp[eqGuard,Go.binOp,Op.intBits]
 simpa using e
theorem F3{k:IntKind}(hk:k.signed=false)(T:TypeId)(X Y:Operand)(x y:Nat)(hx:x<2 ^ k.bits)(b:y<2 ^ k.bits):
  (do eqGuard .and T X Y (.int k x) (.int k y);Go.binOp .and T (.int k x) (.int k y):Sem Value).run P w=.ok (.int k ((x &&& y:Nat):Int)) w:=by
 have c:(x &&& y)<2 ^ k.bits:=Nat.lt_of_le_of_lt Nat.and_le_left hx
 have e:k.wrap ((BitVec.ofInt k.bits (x:Int) &&& BitVec.ofInt k.bits (y:Int)).toNat:Int)=((x &&& y:Nat):Int):=by
  have h1:BitVec.ofInt k.bits (x:Int)=BitVec.ofNat k.bits x:=by simp
  have a:BitVec.ofInt k.bits (y:Int)=BitVec.ofNat k.bits y:=by simp
  rw[h1,a,BitVec.toNat_and,BitVec.toNat_ofNat,BitVec.toNat_ofNat,Nat.mod_eq_of_lt hx,Nat.mod_eq_of_lt b]
  unfold IntKind.wrap
  simp only[hk]
  simp
  exact_mod_cast Nat.mod_eq_of_lt c
 simp[eqGuard,Go.binOp,Op.intBits]
 simpa using e
theorem BD{k:IntKind}(T:TypeId)(X Y:Operand)(x y:Int):
  (do eqGuard .add T X Y (.int k x) (.int k y);Go.binOp .add T (.int k x) (.int k y):Sem Value).run P w=.ok (.int k (k.wrap (x+y))) w:=by
 simp[eqGuard,Go.binOp,Op.intArith]
theorem Jp{k:IntKind}(T:TypeId)(X Y:Operand)(x y:Int)(h:k.wrap (x+y)=x+y):
  (do eqGuard .add T X Y (.int k x) (.int k y);Go.binOp .add T (.int k x) (.int k y):Sem Value).run P w=.ok (.int k (x+y)) w:=by
 rw[BD,h]
theorem FY{k:IntKind}(T:TypeId)(X Y:Operand)(x y:Int):
  (do eqGuard .sub T X Y (.int k x) (.int k y);Go.binOp .sub T (.int k x) (.int k y):Sem Value).run P w=.ok (.int k (k.wrap (x-y))) w:=by
 simp[eqGuard,Go.binOp,Op.intArith]
theorem dm{k:IntKind}(T:TypeId)(X Y:Operand)(x y:Int)(h:k.wrap (x-y)=x-y):
  (do eqGuard .sub T X Y (.int k x) (.int k y);Go.binOp .sub T (.int k x) (.int k y):Sem Value).run P w=.ok (.int k (x-y)) w:=by
 rw[FY,h]
theorem Cg{k:IntKind}(T:TypeId)(X Y:Operand)(x y:Int):
  (do eqGuard .mul T X Y (.int k x) (.int k y);Go.binOp .mul T (.int k x) (.int k y):Sem Value).run P w=.ok (.int k (k.wrap (x*y))) w:=by
 simp[eqGuard,Go.binOp,Op.intArith]
theorem dp{k:IntKind}(T:TypeId)(X Y:Operand)(x y:Int)(h:k.wrap (x*y)=x*y):
  (do eqGuard .mul T X Y (.int k x) (.int k y);Go.binOp .mul T (.int k x) (.int k y):Sem Value).run P w=.ok (.int k (x*y)) w:=by
 rw[Cg,h]
theorem Ei{k:IntKind}(T:TypeId)(X Y:Operand)(x y:Int)(a:y≠0):
  (do eqGuard .quo T X Y (.int k x) (.int k y);Go.binOp .quo T (.int k x) (.int k y):Sem Value).run P w=.ok (.int k (k.wrap (x.tdiv y))) w:=by
 simp[eqGuard,Go.binOp,Op.intDiv,a]
theorem Yn{k:IntKind}(T:TypeId)(X Y:Operand)(x y:Int)(a:y≠0):
  (do eqGuard .rem T X Y (.int k x) (.int k y);Go.binOp .rem T (.int k x) (.int k y):Sem Value).run P w=.ok (.int k (x.tmod y)) w:=by
 simp[eqGuard,Go.binOp,Op.intDiv,a]
theorem kd{k:IntKind}(T:TypeId)(X Y:Operand)(x y:Int):
  (do eqGuard .eql T X Y (.int k x) (.int k y);Go.binOp .eql T (.int k x) (.int k y):Sem Value).run P w=.ok (.bool (x == y)) w:=by
 simp[eqGuard,Go.binOp,Op.intCmp]
theorem jW{k:IntKind}(T:TypeId)(X Y:Operand)(x y:Int):
  (do eqGuard .neq T X Y (.int k x) (.int k y);Go.binOp .neq T (.int k x) (.int k y):Sem Value).run P w=.ok (.bool (x != y)) w:=by
 simp[eqGuard,Go.binOp,Op.intCmp]
theorem jX{k:IntKind}(T:TypeId)(X Y:Operand)(x y:Int):
  (do eqGuard .lss T X Y (.int k x) (.int k y);Go.binOp .lss T (.int k x) (.int k y):Sem Value).run P w=.ok (.bool (decide (x<y))) w:=by
 simp[eqGuard,Go.binOp,Op.intCmp]
theorem jY{k:IntKind}(T:TypeId)(X Y:Operand)(x y:Int):
  (do eqGuard .leq T X Y (.int k x) (.int k y);Go.binOp .leq T (.int k x) (.int k y):Sem Value).run P w=.ok (.bool (decide (x≤y))) w:=by
 simp[eqGuard,Go.binOp,Op.intCmp]
theorem jZ{k:IntKind}(T:TypeId)(X Y:Operand)(x y:Int):
  (do eqGuard .gtr T X Y (.int k x) (.int k y);Go.binOp .gtr T (.int k x) (.int k y):Sem Value).run P w=.ok (.bool (decide (x>y))) w:=by
 simp[eqGuard,Go.binOp,Op.intCmp]
theorem kc{k:IntKind}(T:TypeId)(X Y:Operand)(x y:Int):
  (do eqGuard .geq T X Y (.int k x) (.int k y);Go.binOp .geq T (.int k x) (.int k y):Sem Value).run P w=.ok (.bool (decide (x≥y))) w:=by
 simp[eqGuard,Go.binOp,Op.intCmp]
theorem Dv(s t:ByteArray): (s.toList == t.toList)=decide (s=t):=by
 rw[ByteArray.toList_eq,ByteArray.toList_eq,Bool.eq_iff_iff,beq_iff_eq,decide_eq_true_iff]
 exact⟨fun h=>ByteArray.ext (Array.ext' h),fun h=>by rw[h]⟩
theorem HG(T:TypeId)(X Y:Operand)(s t:ByteArray):
  (do eqGuard .eql T X Y (.string s) (.string t);Go.binOp .eql T (.string s) (.string t):Sem Value).run P w=.ok (.bool (decide (s=t))) w:=by
 rw[←Dv]
 simp only[eqGuard,Go.binOp,Op.stringOp,Sem.run_bind]
 rfl
theorem run_equalIn_bool(d:Nat)(T:TypeId)(hT:P.underlying T=some .bool)(s t:Bool): (Op.equalIn (d+1) T (.bool s) (.bool t)).run P w=.ok (s == t) w:=by
 have h:(underlying T).run P w=.ok .bool w:=by simp[underlying,program,Sem.run,hT]
 simp only[Op.equalIn,Sem.run_bind,h,Result.andThen]
 rfl
theorem HH(T:TypeId)(hT:P.underlying T=some .bool)(X Y:Operand)(s t:Bool):
  (do eqGuard .eql T X Y (.bool s) (.bool t);Go.binOp .eql T (.bool s) (.bool t):Sem Value).run P w=.ok (.bool (s == t)) w:=by
 have a:∀w,(Op.equal T (.bool s) (.bool t)).run P w=.ok (s == t) w:=fun w=>run_equalIn_bool (w:=w) 9999 T hT s t
 simp only[eqGuard,Go.binOp,Sem.run_bind,a,Result.andThen]
 rfl
theorem dq(T:TypeId)(hT:P.underlying T=some .bool)(X Y:Operand)(s t:Bool):
  (do eqGuard .neq T X Y (.bool s) (.bool t);Go.binOp .neq T (.bool s) (.bool t):Sem Value).run P w=.ok (.bool (s != t)) w:=by
 have a:∀w,(Op.equal T (.bool s) (.bool t)).run P w=.ok (s == t) w:=fun w=>run_equalIn_bool (w:=w) 9999 T hT s t
 simp only[eqGuard,Go.binOp,Sem.run_bind,a,Result.andThen]
 rfl
theorem Ci{T:TypeId}(hT:∀w,(underlying T).run P w=.ok .string w)(s:ByteArray)(j:Nat)(h:j<s.size):
  (Instr.index T (.string s) (.int .i64 (j:Int))).run P w=.ok (.int .u8 ((s.data.toList.getD j 0).toNat:Int)) w:=by
 have e:asIntOf (.int .i64 (j:Int))=(pure (.i64,(j:Int)):Sem _):=rfl
 have a:(0:Int)≤(j:Int):=by omega
 have h1:s[j]?=some (s.data.toList.getD j 0):=by
  rw[getElem?_pos s j h]
  have:s[j]=s.data[j]:=rfl
  rw[this]
  simp[List.getD]
  rw[Array.getElem?_eq_getElem h];rfl
 unfold Instr.index
 simp only[e,Sem.run_bind,Sem.run_pure,Result.andThen,hT,a,if_true,Int.toNat_natCast,h1]
theorem Iv{ops:Array Oper}{H:List Nat}{Kf:Exit→Act→World→Prop}{i d:Nat}{T:TypeId}{len:Nat}{parts:Array (Nat×Operand)}{cap:Nat}{cs:Array Value}{E:TypeId}(ho:ops[i]?=some ⟨some d,.buildSlice T len parts,ty,pos,aft,none⟩)(hq:Vm ops i H=true)(vs:List (Nat×Value))(f:parts.toList.map (fun p=>(p.1,Fx.ev L p.2))=vs.map (fun p=>(p.1,some p.2)))(hr:∀w,(Instr.buildSlice T len vs.toArray).run P w=.ok (.slice (some ⟨w.heap.size,0,none⟩) len cap) (w.alloc (.cells cs E (0,0))))(hd:d<n)(k:∀b,Head P ops n S w0 Kf H ((d,.slice (some ⟨b,0,none⟩) len cap)::L) ((b,.cells cs E (0,0))::σ) Φ): Head P ops n S w0 Kf (i::H) L σ Φ :=
 .inr (.inl ⟨_,ho,hq,fun a w e c=>Jo ho (Qf (v:=.slice (some ⟨w.heap.size,0,none⟩) len cap) (w':=w.alloc (.cells cs E (0,0)))
  (by simp only[execOp,BV c f,Sem.run_bind,hr];rfl)
  ⟨⟨fun _=>(Below.refl _ _).alloc (Nat.le_refl _) _,fun _ _ _ _ he=>by cases he⟩,_,(w.heap.size,.cells cs E (0,0))::σ,Φ,rfl,((c.alloc _).perm List.perm_middle).put hd _,k _⟩)⟩)
theorem St.shareAll{b:Nat}{cs:Array Value}{T:TypeId}{fr:Nat×Nat}(h:St n S w0 L ((b,.cells cs T fr)::σ) Φ a w)(c:∀k,S k→k<w0.heap.size)(M:List Value)(d:cs=M.toArray):
  St n S w0 L σ (Row (some ⟨b,0,none⟩) M::Φ) a w:=h.share c (fun j _=>by subst d;simp)
theorem AL(m:Nat)(z:Value): Cj m [z]=List.replicate m z:=by
 unfold Cj
 induction m with
 | zero=>rfl
 | succ m a=>simp[List.replicate_succ,a]
theorem Qy{α:Type}{enc:α→Value}(l:List α)(i:Nat)(y:α): Zl (l.map enc).toArray i [enc y]=((l.set i y).map enc).toArray:=by
 simp[Zl,List.map_set]
theorem Cd(a b:Nat): Int.tdiv (a:Int) (b:Int)=((a/b:Nat):Int):=(Int.ofNat_tdiv a b).symm
theorem Ym(a b:Nat): Int.tmod (a:Int) (b:Int)=((a%b:Nat):Int):=(Int.ofNat_tmod a b).symm
theorem Zf{ops:Array Oper}{H:List Nat}{Kf:Exit→Act→World→Prop}{i d:Nat}{x:Operand}{T:TypeId}{b off j:Nat}{M:List Value}{agg:Bool}{s:Nat}{v:Value}(ho:ops[i]?=some ⟨some d,.load T x,ty,pos,aft,none⟩)(hq:Yp ops true i H=true)(hx:Fx.ev L x=some (.pointer (some ⟨b,off+j,none⟩)))(hm:Row (some ⟨b,off,none⟩) M∈Φ)(c:j<M.length)(hagg:∀w,(isAgg T).run P w=.ok agg w)(hs:∀w,(Go.sizeOf T).run P w=.ok s w)(hv:Zk agg s M.toArray j=some v)(g:agg=true∨s=1)(hd:d<n)(k:Head P ops n S w0 Kf H ((d,v)::L) σ Φ): Head P ops n S w0 Kf (i::H) L σ Φ :=
 .inl ⟨_,d,v,true,ho,rfl,hd,hq,fun _ _ _ a =>.inl ⟨rfl,fun w' hw=>by
  obtain ⟨X,_,l,h⟩:=a.fact hm
  have f:=(Row (some ⟨b,off,none⟩) M).st X X _ w' h (fun b e _=>(hw rfl).block b e) (hw rfl).size (fun b e =>.inl e)
  simp only[execOp,a.ev hx,Sem.run_bind,Ch f c hagg hs hv g];rfl⟩,k⟩
theorem Kn{ops:Array Oper}{H:List Nat}{Kf:Exit→Act→World→Prop}{i d:Nat}{x:Operand}{T:TypeId}{b off j:Nat}{M:List Value}{agg:Bool}{s:Nat}{v:Value}(l:List Nat)(ho:ops[i]?=some ⟨some d,.load T x,ty,pos,aft,none⟩)(hq:RH ops i H l=true)(hx:Fx.ev L x=some (.pointer (some ⟨b,off+j,none⟩)))(hm:Row (some ⟨b,off,none⟩) M∈Φ)(f:j<M.length)(hagg:∀w,(isAgg T).run P w=.ok agg w)(hs:∀w,(Go.sizeOf T).run P w=.ok s w)(hv:Zk agg s M.toArray j=some v)(r:agg=true∨s=1)(u:∀t∈l,∃p:Addr,look L t=some (.pointer (some p)) ∧ ∃o,(p.block,o)∈σ)(hd:d<n)(k:Head P ops n S w0 Kf H ((d,v)::L) σ Φ): Head P ops n S w0 Kf (i::H) L σ Φ :=
 .inr (.inr (.inr (.inl ⟨_,d,v,b,l,ho,rfl,hd,hq,fun a w A g=>by
  obtain ⟨X,_,z,G,E⟩:=g.facts
  have F:=E _ hm
  obtain ⟨I,y,cs,D,fr,ha,c,hc,hj⟩:=F (fun e=>by subst e;simp at f)
  cases ha
  refine⟨_,hc,.inl ⟨rfl,fun w' hw=>?_⟩,fun q h=>fun e=>c (e ▸ z q (List.mem_append_left _ h)),fun t ht=>?_⟩
  ·have m:(Row (some ⟨b,off,none⟩) M).p X w':=fun _=>⟨b,off,cs,D,fr,rfl,c,hw,hj⟩
   simp only[execOp,g.ev hx,Sem.run_bind,Ch m f hagg hs hv r];rfl
  ·obtain ⟨p,C,o,B⟩:=u t ht
   exact⟨p,C,fun e=>c (e ▸ z _ (List.mem_append_right _ B))⟩,k⟩)))
theorem AP{ops:Array Oper}{H:List Nat}{Kf:Exit→Act→World→Prop}{i d h t:Nat}{want:Bool}{x:Operand}{T:TypeId}{b off j:Nat}{M:List Value}{agg:Bool}{s:Nat}{v:Value}(ho:ops[i]?=some ⟨some d,.load T x,ty,pos,aft,some (h,want)⟩)(hj:(ops[h]?).bind (·.dst)=some t)(ht:look L t=some (.bool want))(hq:Yp ops true i H=true)(hx:Fx.ev L x=some (.pointer (some ⟨b,off+j,none⟩)))(hm:Row (some ⟨b,off,none⟩) M∈Φ)(c:j<M.length)(hagg:∀w,(isAgg T).run P w=.ok agg w)(hs:∀w,(Go.sizeOf T).run P w=.ok s w)(hv:Zk agg s M.toArray j=some v)(g:agg=true∨s=1)(hd:d<n)(k:Head P ops n S w0 Kf H ((d,v)::L) σ Φ): Head P ops n S w0 Kf (i::H) L σ Φ :=
 .inl ⟨_,d,v,true,ho,rfl,hd,hq,fun _ _ _ a =>.inl ⟨by rw[Ao a hj ht];simp,fun w' hw=>by
  obtain ⟨X,_,m,l⟩:=a.fact hm
  have f:=(Row (some ⟨b,off,none⟩) M).st X X _ w' l (fun b e _=>(hw rfl).block b e) (hw rfl).size (fun b e =>.inl e)
  simp only[execOp,a.ev hx,Sem.run_bind,Ch f c hagg hs hv g];rfl⟩,k⟩
def Xo(P:Program)(f:FuncId)(args:List Value)(Φ:List Zp)(v:Value): Prop:=Ctr P f args Φ (fun u Ψ=>u=v∧Ψ=[])
theorem Jl(h:St n S w0 L σ Φ a w){d:Nat}{f:FuncId}{args:Array Operand}{e:Array TypeId}{g:Option (Nat×Bool)}{vs:List Value}{v:Value}{Φ':List Zp}(ha:args.toList.map (Fx.ev L)=vs.map some)(hc:∀args w,(callFunc f args).run P w=.ok (.enter f args) w)(hf:Xo P f vs Φ' v)(b:∀R∈Φ',R∈Φ)(hd:d<n)(k:∀c w',St n S w0 ((d,v)::L) σ Φ c w'→K c w'): (Oper.mk (some d) (.call ⟨.value (.func f),args,e⟩) ty pos aft g).wp P a w K Q :=
 Pk h ha hc hf b hd fun u Ψ c w' j i=>by obtain ⟨rfl,rfl⟩:=j;exact k c w' i
theorem Yy{ops:Array Oper}{H:List Nat}{Kf:Exit→Act→World→Prop}{i d:Nat}{f:FuncId}{args:Array Operand}{c:Array TypeId}{ty:TypeId}{pos:String}{b:Array Edge}{vs:List Value}{v:Value}{Φ':List Zp}(ho:ops[i]?=some ⟨some d,.call ⟨.value (.func f),args,c⟩,ty,pos,b,none⟩)(hq:Vm ops i H=true)(ha:args.toList.map (Fx.ev L)=vs.map some)(hc:∀args w,(callFunc f args).run P w=.ok (.enter f args) w)(hf:Xo P f vs Φ' v)(a:∀R∈Φ',R∈Φ)(hd:d<n)(k:Head P ops n S w0 Kf H ((d,v)::L) σ Φ): Head P ops n S w0 Kf (i::H) L σ Φ :=
 Zs ho hq ha hc hf a hd fun u Ψ e=>by obtain ⟨rfl,rfl⟩:=e;exact k
structure Mem(S:Nat→Prop)(w0:World)(σ:List (Nat×Obj))(Φ:List Zp)(w:World): Prop where
 ext:Below w0.heap.size w0 w
 own:∀p∈σ,w.heap[p.1]?=some p.2
 new:∀p∈σ,w0.heap.size≤p.1
 nd:σ.Pairwise (fun p q=>p.1≠q.1)
 facts:∃X:Nat→Prop,(∀b,S b→X b)∧(∀p∈σ,X p.1)∧(∀b,X b→b<w.heap.size) ∧ ∀R∈Φ,R.p X w
theorem St.mem(h:St n S w0 L σ Φ a w): Mem S w0 σ Φ w:=⟨h.ext,h.own,h.new,h.nd,h.facts⟩
def FR(P:Program)(f:FuncId)(args:List Value)(σ:List (Nat×Obj))(Φ:List Zp)(post:Value→List (Nat×Obj)→List Zp→Prop): Prop :=
 ∀(S:Nat→Prop) (w0 w:World),(∀k,S k→k<w0.heap.size)→Mem S w0 σ Φ w →
  Calls P f args.toArray w fun e w' => ∃v σ' Φ',e=.returned v∧post v σ' Φ'∧Mem S w0 σ' Φ' w'
def mZ(S:Nat→Prop)(w0:World)(post:Value→List (Nat×Obj)→List Zp→Prop): Ending→World→Prop :=
 fun e w' => ∃v σ' Φ',e=.returned v∧post v σ' Φ'∧Mem S w0 σ' Φ' w'
theorem fn_introM{f:FuncId}{fn:Func}{c:Code}{args:List Value}{post:Value→List (Nat×Obj)→List Zp→Prop}{n:Nat}(hf:P.funcs[f]?=some fn)(g:fn.body=some c)(j:fn.ntmps=n)(hl:args.length≤n)(h:∀S w0 a w,(∀k,S k→k<w0.heap.size)→St n S w0 (iU 0 args) σ Φ a w→c.wp P (bodyPost P fn (mZ S w0 post)) a w): FR P f args σ Φ post:=by
 intro S w0 w i hm
 refine calls_of_wp hf g (h S w0 _ w i ⟨?_,rfl,fun t v ht=>?_,hm.ext,hm.own,hm.new,hm.nd,hm.facts⟩)
 ·simp[j];omega
 ·obtain ⟨_,b⟩:=EW args 0 t v ht
  have e:t<args.length:=by
   rcases Nat.lt_or_ge t args.length with d|d
   ·exact d
   ·simp[List.getElem?_eq_none d] at b
  simp at b
  rw[Array.getD_eq_getD_getElem?,Array.getElem?_append_left (by simpa using e)]
  simp[b]
theorem retM(h:St n S w0 L σ Φ a w){fn:Func}{post:Value→List (Nat×Obj)→List Zp→Prop}{v:Value}{σ':List (Nat×Obj)}{Ψ:List Zp}(hr:(results fn a.tmps).run P w=.ok v w)(c:post v σ' Ψ)(b:List.Sublist σ' σ)(hs:∀R∈Ψ,R∈Φ): bodyPost P fn (mZ S w0 post) .ret a w :=
 ⟨h.defers,v,hr,v,σ',Ψ,rfl,c,((h.drop b).factsSub hs).mem⟩
theorem UP(h:St n S w0 L σ Φ a w){fn:Func}{post:Value→List (Nat×Obj)→List Zp→Prop}{v:Value}{σ':List (Nat×Obj)}{Ψ:List Zp}(hr:(results fn a.tmps).run P w=.ok v w)(c:post v σ' Ψ)(b:List.Sublist σ' σ)(hs:∀R∈Ψ,R∈Φ): bodyPost P fn (mZ S w0 post) .normal a w:=retM (P:=P) h hr c b hs
theorem Yq(h:St n S w0 L σ Φ a w)(q:∀k,S k→k<w0.heap.size){d:Option Nat}{f:FuncId}{args:Array Operand}{c:Array TypeId}{g:Option (Nat×Bool)}{vs:List Value}{b:List (Nat×Obj)}{Φ':List Zp}{post:Value→List (Nat×Obj)→List Zp→Prop}(ha:args.toList.map (Fx.ev L)=vs.map some)(hc:∀args w,(callFunc f args).run P w=.ok (.enter f args) w)(hf:FR P f vs b Φ' post)(j:σ.Perm b)(i:∀R∈Φ',R∈Φ)(hd:∀d',d=some d'→d'<n)(k:∀v σ' Ψ o w',post v σ' Ψ→St n S w0 ((match d with|some d'=>[(d',v)]|none=>[])++L) σ' Ψ o w'→K o w'): (Oper.mk d (.call ⟨.value (.func f),args,c⟩) ty pos aft g).wp P a w K Q:=by
 have hr:(execOp a.eval (Oper.mk d (.call ⟨.value (.func f),args,c⟩) ty pos aft g)).run P w=.ok (.enter f vs.toArray) w:=by
  simp only[execOp,resolve,Ea h ha,Sem.run_bind,Act.eval]
  simp[Deferred.ofValue,invoke,hc]
 simp only[Oper.wp,hr,Oper.upon]
 have p:St n S w0 L b Φ' a w:=(h.perm j.symm).factsSub i
 refine(hf S w0 w q p.mem).mono ?_
 rintro e w' ⟨v,σ',Ψ,rfl,m,hm⟩
 have l:St n S w0 L σ' Ψ a w':=⟨h.size,h.defers,h.val,hm.ext,hm.own,hm.new,hm.nd,hm.facts⟩
 cases d with
 | none=>exact k v σ' Ψ _ _ m l
 | some d=>exact k v σ' Ψ _ _ m (l.put (hd d rfl) v)
def CtrO(P:Program)(f:FuncId)(args:List Value)(Φ:List Zp)(post:Value→List (Nat×Obj)→Prop): Prop :=
 ∀(X:Nat→Prop) (w:World),(∀b,X b→b<w.heap.size)→(∀R∈Φ,R.p X w) →
  Calls P f args.toArray w fun e w' => ∃v σn,e=.returned v∧post v σn∧Below w.heap.size w w'∧(∀p∈σn,w.heap.size≤p.1∧w'.heap[p.1]?=some p.2)∧σn.Pairwise (fun p q=>p.1≠q.1)
def mY(w0:World)(post:Value→List (Nat×Obj)→Prop): Ending→World→Prop :=
 fun e w' => ∃v σn,e=.returned v∧post v σn∧Below w0.heap.size w0 w'∧(∀p∈σn,w0.heap.size≤p.1∧w'.heap[p.1]?=some p.2)∧σn.Pairwise (fun p q=>p.1≠q.1)
theorem fn_introO{f:FuncId}{fn:Func}{c:Code}{args:List Value}{post:Value→List (Nat×Obj)→Prop}{n:Nat}(hf:P.funcs[f]?=some fn)(l:fn.body=some c)(m:fn.ntmps=n)(hl:args.length≤n)(h:∀S w0 a,(∀k,S k→k<w0.heap.size)→St n S w0 (iU 0 args) [] Φ a w0→c.wp P (bodyPost P fn (mY w0 post)) a w0): CtrO P f args Φ post:=by
 intro X w j i
 refine calls_of_wp hf l (h X w _ j ⟨?_,rfl,fun t v ht=>?_,Below.refl _ _,(fun _ b=>nomatch b),(fun _ b=>nomatch b),List.Pairwise.nil,⟨X,fun _ h=>h,(fun _ b=>nomatch b),j,i⟩⟩)
 ·simp[m];omega
 ·obtain ⟨_,d⟩:=EW args 0 t v ht
  have g:t<args.length:=by
   rcases Nat.lt_or_ge t args.length with e|e
   ·exact e
   ·simp[List.getElem?_eq_none e] at d
  simp at d
  rw[Array.getD_eq_getD_getElem?,Array.getElem?_append_left (by simpa using g)]
  simp[d]
theorem He(h:St n S w0 L σ Φ a w){fn:Func}{post:Value→List (Nat×Obj)→Prop}{v:Value}{σ':List (Nat×Obj)}(hr:(results fn a.tmps).run P w=.ok v w)(b:post v σ')(d:List.Sublist σ' σ): bodyPost P fn (mY w0 post) .ret a w:=by
 have c:=h.drop d
 exact⟨h.defers,v,hr,v,σ',rfl,b,h.ext,fun p b=>⟨c.new p b,c.own p b⟩,c.nd⟩
theorem endO(h:St n S w0 L σ Φ a w){fn:Func}{post:Value→List (Nat×Obj)→Prop}{v:Value}{σ':List (Nat×Obj)}(hr:(results fn a.tmps).run P w=.ok v w)(c:post v σ')(b:List.Sublist σ' σ): bodyPost P fn (mY w0 post) .normal a w:=He (P:=P) h hr c b
theorem St.calledO(h:St n S w0 L σ Φ a w){w':World}(f:Below w.heap.size w w'){e:List (Nat×Obj)}(g:∀p∈e,w.heap.size≤p.1∧w'.heap[p.1]?=some p.2)(hd:e.Pairwise (fun p q=>p.1≠q.1)):
  St n S w0 L (e++σ) Φ a w' where
 size:=h.size
 defers:=h.defers
 val:=h.val
 ext:=h.ext.trans (f.mono h.ext.size)
 own:=fun p c=>by
  rcases List.mem_append.1 c with c|c
  ·exact(g p c).2
  ·rw[f.block _ (h.own_lt (b:=p.1) (o:=p.2) c)];exact h.own p c
 new:=fun p c=>by
  rcases List.mem_append.1 c with c|c
  ·exact Nat.le_trans h.ext.size (g p c).1
  ·exact h.new p c
 nd:=List.pairwise_append.2 ⟨hd,h.nd,fun p c q hq=>by
  have h1:=(g p c).1
  have j:=h.own_lt (b:=q.1) (o:=q.2) hq
  omega⟩
 facts:=by
  obtain ⟨X,h1,j,l,m⟩:=h.facts
  refine⟨fun b=>X b ∨ ∃p∈e,p.1=b,fun b f =>.inl (h1 b f),fun p c=>?_,fun b d=>?_,fun R hR=>?_⟩
  ·rcases List.mem_append.1 c with c|c
   ·exact .inr ⟨p,c,rfl⟩
   ·exact .inl (j p c)
  ·rcases d with d|⟨p,c,rfl⟩
   ·exact Nat.lt_of_lt_of_le (l b d) f.size
   ·have k:=(g p c).2
    rcases Nat.lt_or_ge p.1 w'.heap.size with i|i
    ·exact i
    ·simp[Array.getElem?_eq_none i] at k
  ·refine R.st X _ w w' (m R hR) (fun b d _=>f.block b d) f.size (fun b d=>?_)
   rcases d with d|⟨p,c,rfl⟩
   ·exact .inl d
   ·exact .inr (g p c).1
theorem Sw(h:St n S w0 L σ Φ a w){d:Nat}{f:FuncId}{args:Array Operand}{c:Array TypeId}{g:Option (Nat×Bool)}{vs:List Value}{Φ':List Zp}{post:Value→List (Nat×Obj)→Prop}(ha:args.toList.map (Fx.ev L)=vs.map some)(hc:∀args w,(callFunc f args).run P w=.ok (.enter f args) w)(hf:CtrO P f vs Φ' post)(i:∀R∈Φ',R∈Φ)(hd:d<n){K:Act→World→Prop}{Q:Exit→Act→World→Prop}(k:∀v b w',post v b→Ext w w'→St n S w0 ((d,v)::L) (b++σ) Φ (a.put (some d) v) w'→K (a.put (some d) v) w'): (Oper.mk (some d) (.call ⟨.value (.func f),args,c⟩) ty pos aft g).wp P a w K Q:=by
 obtain ⟨X,h1,r,o,p⟩:=h.facts
 have hr:(execOp a.eval (Oper.mk (some d) (.call ⟨.value (.func f),args,c⟩) ty pos aft g)).run P w=.ok (.enter f vs.toArray) w:=by
  simp only[execOp,resolve,Ea h ha,Sem.run_bind,Act.eval]
  simp[Deferred.ofValue,invoke,hc]
 simp only[Oper.wp,hr,Oper.upon]
 refine(hf X w o (fun R hR=>p R (i R hR))).mono ?_
 rintro e w' ⟨v,b,rfl,q,j,m,l⟩
 exact k v b _ q j ((h.calledO j m l).put hd v)
theorem Xb(h:St n S w0 L σ Φ a w){d:Nat}{f:FuncId}{args:Array Operand}{e:Array TypeId}{g:Option (Nat×Bool)}{vs:List Value}{Φ':List Zp}{post:Value→List (Nat×Obj)→Prop}(ha:args.toList.map (Fx.ev L)=vs.map some)(hc:∀args w,(callFunc f args).run P w=.ok (.enter f args) w)(hf:CtrO P f vs Φ' post)(c:∀R∈Φ',R∈Φ)(hd:d<n)(k:∀v b j w',post v b→St n S w0 ((d,v)::L) (b++σ) Φ j w'→K j w'): (Oper.mk (some d) (.call ⟨.value (.func f),args,e⟩) ty pos aft g).wp P a w K Q :=
 Sw h ha hc hf c hd fun v b w' l _ i=>k v b _ _ l i
theorem A0{ops:Array Oper}{H:List Nat}{Kf:Exit→Act→World→Prop}{i d:Nat}{f:FuncId}{args:Array Operand}{e:Array TypeId}{ty:TypeId}{pos:String}{g:Array Edge}{vs:List Value}{Φ':List Zp}{post:Value→List (Nat×Obj)→Prop}(ho:ops[i]?=some ⟨some d,.call ⟨.value (.func f),args,e⟩,ty,pos,g,none⟩)(hq:Vm ops i H=true)(ha:args.toList.map (Fx.ev L)=vs.map some)(hc:∀args w,(callFunc f args).run P w=.ok (.enter f args) w)(hf:CtrO P f vs Φ' post)(c:∀R∈Φ',R∈Φ)(hd:d<n)(k:∀v a,post v a→Head P ops n S w0 Kf H ((d,v)::L) (a++σ) Φ): Head P ops n S w0 Kf (i::H) L σ Φ :=
 .inr (.inl ⟨_,ho,hq,fun _ _ j h=>Jo ho (Sw h ha hc hf c hd fun v a _ l hx b=>⟨⟨fun _=>hx,fun _ _ _ _ he=>by cases he⟩,v,a++σ,Φ,rfl,
  b.perm (by rw[←List.append_assoc, ←List.append_assoc];exact List.Perm.append_right σ List.perm_append_comm),k v a l⟩)⟩)
theorem F2{ad:Option Addr}{b off:Nat}{M:List Value}{X:Nat→Prop}(hR:(Row (some ⟨b,off,none⟩) M).p X w)(a:M≠[]):
  (loadCells ⟨b,off,none⟩ M.length).run P w=.ok M.toArray w:=by
 obtain ⟨j,d,cs,T,fr,ha,_,hc,hj⟩:=hR a
 cases ha
 have hle:off+M.length≤cs.size:=by
  have h:M.length≠0:=fun e=>a (List.eq_nil_of_length_eq_zero e)
  have:=hj (M.length-1) (by omega)
  rcases Nat.lt_or_ge (off+(M.length-1)) cs.size with f|f
  ·omega
  ·rw[Array.getElem?_eq_none f,List.getElem?_eq_getElem (by omega)] at this;simp at this
 have:=Xc (P:=P) w b off hc M.length 0 #[] (by omega)
 rw[loadCells]
 simp only[Nat.add_zero] at this
 rw[this]
 congr 1
 apply Array.ext
 ·simp;omega
 ·intro i h1 c
  have g:=hj i (by simpa using c)
  simp at h1 c ⊢
  rw[Array.getElem?_eq_getElem (by omega),List.getElem?_eq_getElem c] at g
  simpa using g
theorem TC(h:St n S w0 L σ Φ a w){d:Nat}{x y:Operand}{T F E:TypeId}{g:Option (Nat×Bool)}{k m j B c2 b:Nat}{ad:Option Addr}{M:List Value}{cs cs':Array Value}{p:TypeId}{σ':List (Nat×Obj)}(hx:Fx.ev L x=some (.slice (some ⟨b,0,none⟩) j B))(D:Fx.ev L y=some (.slice ad m c2))(hR:Row ad M∈Φ)(A:M.length=m*k)(hT:∀w,(underlying T).run P w=.ok (.slice E) w)(hk:∀w,(Go.sizeOf E).run P w=.ok k w)(o:m≤j)(r:k≠0)(i:Zl cs 0 M=cs')(hu:Upd σ b (.cells cs p (0,0)) (.cells cs' p (0,0)) σ')(hle:M.length≤cs.size)(q:M.all flat=true)(hd:d<n)(kk:∀z w',St n S w0 ((d,.int .i64 m)::L) σ' Φ z w'→K z w'): (Oper.mk (some d) (.call ⟨.builtin .copy,#[x,y],#[T,F]⟩) ty pos aft g).wp P a w K Q:=by
 subst i
 obtain ⟨w',hr,H,J,C,R,N,I⟩:=Xg (P:=P) b 0 (T:=p) M 0 w cs (h.own _ hu.mem) (by omega) (fun u hu=>Df ((List.all_eq_true.1 q) u hu))
 have O:=h.turn hu H J C R (by simpa using N) I
 refine Qf (v:=.int .i64 m) (w':=w') ?_ (kk _ _ (O.put hd _))
 have e:(#[x,y]:Array Operand).map a.eval=#[.slice (some ⟨b,0,none⟩) j B,.slice ad m c2]:=by simp[h.ev hx,h.ev D]
 have l:(Builtin.firstCells k m (.slice ad m c2)).run P w=.ok M.toArray w:=by
  by_cases c:M=[]
  ·subst c
   have s:m=0:=by
    rcases Nat.eq_zero_or_pos m with t|t
    ·exact t
    ·have:=Nat.mul_pos t (Nat.pos_of_ne_zero r);simp at A;omega
   subst s
   cases ad<;>simp[Builtin.firstCells,loadCells,loadCellsFrom]
  ·obtain ⟨X,_,_,G⟩:=h.fact hR
   obtain ⟨U,off,rfl⟩:=h.row_addr hR c
   simp only[Builtin.firstCells]
   rw[←A]
   exact F2 (ad:=none) G c
 have f:Nat.min m j=m:=Nat.min_eq_left o
 simp only[execOp,resolve,e,Sem.run_bind,Sem.run_pure,Result.andThen,invoke,Go.builtin,Builtin.copy_,List.getElem?_toArray,List.getElem?_cons_zero,List.getElem?_cons_succ,hT,hk,Builtin.lenOf,f,l,hr,goInt]
theorem O0(M R:List Value)(h:M.length≤R.length): Zl R.toArray 0 M=(M++R.drop M.length).toArray:=by
 have:=Ke M [] R h
 simpa using this
theorem EK(h:St n S w0 L σ Φ a w){d:Option Nat}{x:Operand}{f:FuncId}{fs cs vs:List Value}{args:Array Operand}{b:Array TypeId}{g:Option (Nat×Bool)}(hx:Fx.ev L x=some (.func (.func f) fs.toArray cs.toArray))(ha:args.toList.map (Fx.ev L)=vs.map some)(hc:∀args w,(callFunc f args).run P w=.ok (.enter f args) w):
  (execOp a.eval (Oper.mk d (.call ⟨.value x,args,b⟩) ty pos aft g)).run P w=.ok (.enter f (fs++vs++cs).toArray) w:=by
 simp only[execOp,resolve,Ea h ha,Sem.run_bind,h.ev hx]
 simp[Deferred.ofValue,invoke,hc]
theorem Rq(h:St n S w0 L σ Φ a w){d:Nat}{x:Operand}{f:FuncId}{fs cs:List Value}{args:Array Operand}{c:Array TypeId}{g:Option (Nat×Bool)}{vs:List Value}{Φ':List Zp}{post:Value→List Zp→Prop}(hx:Fx.ev L x=some (.func (.func f) fs.toArray cs.toArray))(ha:args.toList.map (Fx.ev L)=vs.map some)(hc:∀args w,(callFunc f args).run P w=.ok (.enter f args) w)(hf:Ctr P f (fs++vs++cs) Φ' post)(b:∀R∈Φ',R∈Φ)(hd:d<n)(k:∀v Ψ l w',post v Ψ→St n S w0 ((d,v)::L) σ (Ψ++Φ) l w'→K l w'): (Oper.mk (some d) (.call ⟨.value x,args,c⟩) ty pos aft g).wp P a w K Q:=by
 obtain ⟨X,h1,m,i,j⟩:=h.facts
 simp only[Oper.wp,EK h hx ha hc,Oper.upon]
 refine(hf X w i (fun R hR=>j R (b R hR))).mono ?_
 rintro e w' ⟨v,Ψ,rfl,q,p,o⟩
 exact k v Ψ _ _ q ((h.called p h1 m i j o).put hd v)
theorem C2(h:St n S w0 L σ Φ a w){d:Nat}{x:Operand}{f:FuncId}{fs cs:List Value}{args:Array Operand}{c:Array TypeId}{g:Option (Nat×Bool)}{vs:List Value}{v:Value}(hx:Fx.ev L x=some (.func (.func f) fs.toArray cs.toArray))(ha:args.toList.map (Fx.ev L)=vs.map some)(hc:∀args w,(callFunc f args).run P w=.ok (.enter f args) w)(hf:Ji P f (fs++vs++cs) v)(hd:d<n)(k:∀b w',St n S w0 ((d,v)::L) σ Φ b w'→K b w'): (Oper.mk (some d) (.call ⟨.value x,args,c⟩) ty pos aft g).wp P a w K Q :=
 Rq h hx ha hc hf (fun _ hR=>nomatch hR) hd fun u Ψ b w' i e=>by obtain ⟨rfl,rfl⟩:=i;exact k b w' e
abbrev u8s(l:List UInt8): List Value:=l.map (fun b=>Value.int .u8 (b.toNat:Int))
theorem run_bytesToString{b m c:Nat}{cs:Array Value}{E:TypeId}{fr:Nat×Nat}(bs:List UInt8)(h:w.heap[b]?=some (.cells cs E fr))(a:cs.extract 0 m=(u8s bs).toArray)(hm:m≤cs.size):
  (Conv.bytesToString (.slice (some ⟨b,0,none⟩) m c)).run P w=.ok (.string ⟨bs.toArray⟩) w:=by
 unfold Conv.bytesToString
 simp only[Sem.run_bind,Jx h hm,a,Result.andThen]
 rw[show(u8s bs).toArray=(bs.toArray.map (fun b=>Value.int .u8 (b.toNat:Int))) from by simp]
 have key:∀(f:Value→ByteArray→Sem (ForInStep ByteArray)) (_:∀(b:UInt8) (acc:ByteArray) (w:World),(f (.int .u8 (b.toNat:Int)) acc).run P w=.ok (.yield (acc.push b)) w)
   (l:List UInt8) (acc:ByteArray) (w:World),((forIn (l.map (fun b=>Value.int .u8 (b.toNat:Int))) acc f):Sem ByteArray).run P w=.ok ⟨acc.data++l.toArray⟩ w:=by
  intro f hf l
  induction l with
  | nil=>intro acc w;simp
  | cons x l d =>
   intro acc w
   simp only[List.map_cons,List.forIn_cons,Sem.run_bind,hf,Result.andThen]
   rw[d]
   simp[ByteArray.push]
 rw[show(bs.toArray.map (fun b=>Value.int .u8 (b.toNat:Int)))=(bs.map (fun b=>Value.int .u8 (b.toNat:Int))).toArray from by simp]
 rw[List.forIn_toArray,key]
 ·simp only[Result.andThen,Sem.run_pure];simp[ByteArray.empty,ByteArray.emptyWithCapacity];try rfl
 ·intro b acc w
  simp
theorem Pi(h:St n S w0 L σ Φ a w){d:Nat}{T o E p:TypeId}{x:Operand}{g:Option (Nat×Bool)}{v:Value}{m:Nat}{bs:List UInt8}{l:List (Nat×Obj)}(hx:Fx.ev L x=some v)(f:Grow 1 p v m (u8s bs) σ l)(hT:∀w,(underlying T).run P w=.ok (.slice E) w)(j:∀w,(underlying o).run P w=.ok .string w)(r:∀w,(underlying E).run P w=.ok (.int .u8) w)(hd:d<n)(k:∀q,St n S w0 ((d,.string ⟨bs.toArray⟩)::L) σ Φ q w→K q w): (Oper.mk (some d) (.convert T o x) ty pos aft g).wp P a w K Q:=by
 obtain ⟨hlen,f⟩:=f
 have e:(Conv.bytesToString v).run P w=.ok (.string ⟨bs.toArray⟩) w:=by
  rcases f with ⟨rfl,rfl,_⟩|⟨b,c,R,rfl,hR,_,i⟩
  ·simp at hlen;subst hlen;rfl
  ·have s:=h.own (b,Obj.cells (u8s bs++R).toArray p (0,0)) (by rw[i];simp)
   refine run_bytesToString bs s ?_ (by simp at hlen ⊢;omega)
   apply Array.ext'
   simp at hlen
   simp[←hlen]
 refine Qf (v:=.string ⟨bs.toArray⟩) (w':=w) ?_ (k _ (h.put hd _))
 simp only[execOp,h.ev hx,Sem.run_bind]
 have:(convert T o v).run P w=.ok (.string ⟨bs.toArray⟩) w:=by
  unfold convert
  rcases f with ⟨rfl,_⟩|⟨b,c,R,rfl,_⟩<;>simp only[Sem.run_bind,hT,j,Result.andThen,r,e]
 rw[this];rfl
theorem V7{k:IntKind}(hk:k.signed=false)(T:TypeId)(X Y:Operand)(x y:Nat)(hx:x<2 ^ k.bits)(a:y<2 ^ k.bits):
  (do eqGuard .xor T X Y (.int k x) (.int k y);Go.binOp .xor T (.int k x) (.int k y):Sem Value).run P w=.ok (.int k ((x ^^^ y:Nat):Int)) w:=by
 have c:(x ^^^ y)<2 ^ k.bits:=Nat.xor_lt_two_pow hx a
 have e:k.wrap ((BitVec.ofInt k.bits (x:Int) ^^^ BitVec.ofInt k.bits (y:Int)).toNat:Int)=((x ^^^ y:Nat):Int):=by
  have h1:BitVec.ofInt k.bits (x:Int)=BitVec.ofNat k.bits x:=by simp
  have b:BitVec.ofInt k.bits (y:Int)=BitVec.ofNat k.bits y:=by simp
  rw[h1,b,BitVec.toNat_xor,BitVec.toNat_ofNat,BitVec.toNat_ofNat,Nat.mod_eq_of_lt hx,Nat.mod_eq_of_lt a]
  unfold IntKind.wrap
  simp only[hk]
  simp
  exact_mod_cast Nat.mod_eq_of_lt c
 simp[eqGuard,Go.binOp,Op.intBits]
 simpa using e
theorem V8{P: Program}(x y c: Nat)(hc: c ≤ 1)(w: World): (Extern.MathBitsCarry.three "Add64" #[.int .u64 (x : Int), .int .u64 (y : Int), .int .u64 (c : Int)]).run P w = .ok (x, y, c) w := by
 show((do
  let c:=(←asInt (.int .u64 (c:Int))).toNat
  if c > 1 then unsupported (.noEntry ("extern/math/bits." ++ "Add64" ++ ": a carry that is neither 0 nor 1"))
  pure ((←asInt (.int .u64 (x:Int))).toNat,(←asInt (.int .u64 (y:Int))).toNat,c)):Sem (Nat×Nat×Nat)).run P w=_
 have hc':¬1<c:=by omega
 have e:∀n:Nat,(asInt (.int .u64 (n:Int))).run P w=.ok (n:Int) w:=fun n=>rfl
 simp only[e,Sem.run_bind,Sem.run_pure,Result.andThen,Int.toNat_natCast,gt_iff_lt,hc',if_false]
theorem Wh{P: Program}{f: FuncId}{fn: Func}(hf: P.funcs[f]? = some fn)(h1: (fn.name == "runtime.NumGoroutine") = false)(h2: fn.body = none)(h3: Extern.findNext fn = none)(h4: Extern.find fn = some (fun args => do
   let (x, y, c) ← Extern.MathBitsCarry.three "Add64" args
   pure (Extern.MathBitsCarry.pair ((x+y+c)%Extern.MathBitsCarry.m64) ((x+y+c)/Extern.MathBitsCarry.m64))))(x y c:Nat)(hc:c≤1)(w:World):
  (callFunc f #[.int .u64 (x:Int),.int .u64 (y:Int),.int .u64 (c:Int)]).run P w=.ok (.value (.tuple #[.int .u64 (((x+y+c)%18446744073709551616:Nat):Int),.int .u64 (((x+y+c)/18446744073709551616:Nat):Int)])) w:=by
 rw[run_callFunc_extern hf h1 (by rw[h2];rfl) h3 h4]
 have hm:Extern.MathBitsCarry.m64=18446744073709551616:=rfl
 simp only[Sem.run_bind,V8 _ _ _ hc,Result.andThen,Extern.MathBitsCarry.pair,hm,Sem.run_pure]
 rfl
theorem natNe{a b:Nat}(h:((a:Int) != (b:Int))=true): a≠b:=fun e=>by subst e;simp at h
theorem kO{a b:Nat}(h:((a:Int) != (b:Int))=false): a=b:=by simp only[bne_eq_false_iff_eq] at h;exact_mod_cast h
theorem natNe'{a b:Nat}(h:((a:Int) == (b:Int))=false): a≠b:=fun e=>by subst e;simp at h
theorem natEq'{a b:Nat}(h:((a:Int) == (b:Int))=true): a=b:=by simp only[beq_iff_eq] at h;exact_mod_cast h
theorem cd(x:Nat)(hx:x<4294967296): 4294967295 ^^^ x=4294967295-x:=by
 have h:=BitVec.toNat_not (x:=BitVec.ofNat 32 x)
 have b:(BitVec.allOnes 32 ^^^ BitVec.ofNat 32 x) = ~~~ (BitVec.ofNat 32 x):=BitVec.allOnes_xor
 have a:=congrArg BitVec.toNat b
 rw[BitVec.toNat_xor,h] at a
 simp only[BitVec.toNat_allOnes,BitVec.toNat_ofNat,Nat.mod_eq_of_lt (show x<2 ^ 32 by omega)] at a
 have e:(2:Nat) ^ 32=4294967296:=by decide
 rw[e] at a
 omega
theorem M4(x:Nat)(hx:x<4294967296): (Op.unary .xor (.int .u32 (x:Int))).run P w=.ok (.int .u32 ((4294967295-x:Nat):Int)) w:=by
 have h:=V7 (P:=P) (w:=w) (k:=.u32) rfl 0 (.tmp 0) (.tmp 0) 4294967295 x (by decide) hx
 rw[cd x hx] at h
 show(Op.intBits .xor .u32 4294967295 (x:Int)).run P w=_
 simpa [eqGuard,Go.binOp] using h
end
end Go.Fx
namespace Go.Fx
open Go
def wds:Nat→List Nat
 | 0=>[]
 | n+1=>((n+1)%4294967296)::wds ((n+1)/4294967296)
termination_by n=>n
decreasing_by omega
def Zv:List Nat→Nat
 | []=>0
 | x::l=>x+4294967296*Zv l
def bytesOf:List Nat→List UInt8
 | []=>[]
 | x::l=>UInt8.ofNat x::UInt8.ofNat (x/256)::UInt8.ofNat (x/65536)::UInt8.ofNat (x/16777216)::bytesOf l
def Xr(n:Nat): Int:=if n<18446744073709551616 then (n:Int) else 0
def Xa(n:Nat): ByteArray:=if n<18446744073709551616 then ⟨#[]⟩ else ⟨(bytesOf (wds n)).toArray⟩
abbrev Vp(n:Nat): Value:=.agg #[.int .u64 (Xr n),.string (Xa n)]
abbrev encZ(z:Int): Value:=.agg #[.int .u64 (Xr z.natAbs),.string (Xa z.natAbs),.bool (decide (z<0))]
abbrev Qe(q:Rat): Value:=.agg #[.int .u64 (Xr q.num.natAbs),.string (Xa q.num.natAbs),.bool (decide (q.num<0)),.int .u64 (Xr (q.den-1)),.string (Xa (q.den-1))]
theorem AG:wds 0=[]:=by unfold wds;rfl
theorem Cc{n:Nat}(h:n≠0): wds n=(n%4294967296)::wds (n/4294967296):=by
 cases n with
 | zero=>exact absurd rfl h
 | succ n=>rw[wds]
theorem Qv:∀n:Nat,Zv (wds n)=n:=by
 intro n
 induction n using Nat.strongRecOn with
 | _ n a =>
  by_cases h:n=0
  ·subst h;rw[AG];rfl
  ·rw[Cc h,Zv,a (n/4294967296) (by omega)]
   omega
theorem UY:∀(n:Nat),∀x∈wds n,x<4294967296:=by
 intro n
 induction n using Nat.strongRecOn with
 | _ n a =>
  by_cases h:n=0
  ·subst h;rw[AG];intro x hx;cases hx
  ·rw[Cc h]
   intro x hx
   rcases List.mem_cons.1 hx with rfl|hx
   ·omega
   ·exact a _ (by omega) x hx
theorem bytesOf_length:∀l,(bytesOf l).length=4*l.length
 | []=>rfl
 | x::l=>by simp[bytesOf,bytesOf_length l];omega
theorem IY:∀(l:List Nat) (i k:Nat),i<l.length→k<4→((bytesOf l)[4*i+k]?).map UInt8.toNat=(l[i]?).map (fun x=>x/256 ^ k%256)
 | [],i,k,h,_=>by simp at h
 | x::l,0,k,_,hk=>by
  match k,hk with
  | 0,_=>simp[bytesOf]
  | 1,_=>simp[bytesOf]
  | 2,_=>simp[bytesOf]
  | 3,_=>simp[bytesOf]
 | x::l,i+1,k,h,hk=>by
  have e:4*(i+1)+k=(4*i+k)+1+1+1+1:=by omega
  rw[e]
  simp only[bytesOf,List.getElem?_cons_succ]
  exact IY l i k (by simpa using h) hk
theorem BL{n:Nat}(h:n<18446744073709551616): (wds n).length≤2:=by
 by_cases a:n=0
 ·subst a;simp[AG]
 ·rw[Cc a]
  by_cases h1:n/4294967296=0
  ·simp[h1,AG]
  ·rw[Cc h1]
   have:n/4294967296/4294967296=0:=by omega
   simp[this,AG]
theorem U0{n:Nat}(h:¬n<18446744073709551616): 3≤(wds n).length:=by
 rw[Cc (by omega),Cc (by omega),Cc (by omega)]
 simp
theorem IX:∀ {l m:List Nat},(∀x∈l,x<4294967296)→(∀x∈m,x<4294967296)→bytesOf l=bytesOf m→l=m
 | [],[],_,_,_=>rfl
 | [],x::m,_,_,h=>by simp[bytesOf] at h
 | x::l,[],_,_,h=>by simp[bytesOf] at h
 | x::l,y::m,hl,hm,h=>by
  simp only[bytesOf,List.cons.injEq] at h
  obtain ⟨e,h1,a,d,g⟩:=h
  have i:=congrArg UInt8.toNat e
  have c:=congrArg UInt8.toNat h1
  have f:=congrArg UInt8.toNat a
  have b:=congrArg UInt8.toNat d
  simp at i c f b
  have hx:=hl x List.mem_cons_self
  have j:=hm y List.mem_cons_self
  have:x=y:=by omega
  rw[this,IX (fun z hz=>hl z (List.mem_cons_of_mem _ hz)) (fun z hz=>hm z (List.mem_cons_of_mem _ hz)) g]
theorem Gd{n:Nat}(h:n<18446744073709551616): Xa n=⟨#[]⟩:=by simp[Xa,h]
theorem Qk{n:Nat}(h:n<18446744073709551616): Xr n=n:=by simp[Xr,h]
theorem DY{n:Nat}(h:¬n<18446744073709551616): Xa n=⟨(bytesOf (wds n)).toArray⟩:=by simp[Xa,h]
theorem TG{n:Nat}(h:¬n<18446744073709551616): Xr n=0:=by simp[Xr,h]
theorem Dn(n:Nat): (Xa n).size=if n<18446744073709551616 then 0 else 4*(wds n).length:=by
 unfold Xa;split
 ·rfl
 ·simp[ByteArray.size,bytesOf_length]
theorem Qt{n:Nat}: (Xa n=⟨#[]⟩)↔n<18446744073709551616:=by
 constructor
 ·intro h
  refine Classical.byContradiction fun a=>?_
  have h1:=Dn n
  rw[h,if_neg a] at h1
  have:=U0 a
  have b:(ByteArray.mk #[]).size=0:=rfl
  omega
 ·exact Gd
theorem Md{n m:Nat}(h1:Xr n=Xr m)(a:Xa n=Xa m): n=m:=by
 by_cases b:n<18446744073709551616
 ·have hm:m<18446744073709551616:=by rw[←Qt, ←a,Qt];exact b
  rw[Qk b,Qk hm] at h1;omega
 ·have hm:¬m<18446744073709551616:=by rw[←Qt, ←a,Qt];exact b
  rw[DY b,DY hm] at a
  have c:bytesOf (wds n)=bytesOf (wds m):=by simpa using a
  have:=IX (UY n) (UY m) c
  rw[←Qv n,this,Qv]
end Go.Fx
namespace Go.Fx
open Go
abbrev Xd(l:List Nat): List Value:=l.map (fun x:Nat=>Value.int .u32 (x:Int))
def Wd(l:List Nat): Prop := ∀x∈l,x<4294967296
theorem Wd.wds(n:Nat): Wd (wds n):=UY n
theorem Wd.take{l:List Nat}(h:Wd l)(m:Nat): Wd (l.take m):=fun x hx=>h x (List.mem_of_mem_take hx)
theorem Wd.getD{l:List Nat}(h:Wd l)(j:Nat): l.getD j 0<4294967296:=by
 rw[List.getD_eq_getElem?_getD]
 by_cases hj:j<l.length
 ·rw[List.getElem?_eq_getElem hj];exact h _ (List.getElem_mem hj)
 ·rw[List.getElem?_eq_none (by omega)];simp
theorem Jw:∀(l m:List Nat),Zv (l++m)=Zv l+4294967296 ^ l.length*Zv m
 | [],m=>by simp[Zv]
 | x::l,m=>by
  simp only[List.cons_append,Zv,Jw l m,List.length_cons,Nat.pow_succ,Nat.mul_add, ←Nat.mul_assoc,Nat.add_assoc]
  congr 2
  rw[Nat.mul_comm (4294967296 ^ l.length) 4294967296]
theorem Vg:∀ {l:List Nat},Wd l→Zv l<4294967296 ^ l.length
 | [],_=>by simp[Zv]
 | x::l,h=>by
  have h1:=Vg (l:=l) (fun y a=>h y (List.mem_cons_of_mem _ a))
  have b:=h x List.mem_cons_self
  simp only[Zv,List.length_cons,Nat.pow_succ]
  have:4294967296*(Zv l+1)≤4294967296*4294967296 ^ l.length:=Nat.mul_le_mul_left _ h1
  rw[Nat.mul_comm (4294967296 ^ l.length)]
  omega
theorem UX:∀ {l:List Nat},Wd l→(∀h:l≠[],l.getLast h≠0)→wds (Zv l)=l
 | [],_,_=>by simp[Zv,AG]
 | x::l,h,hl=>by
  have hx:=h x List.mem_cons_self
  have a:Zv (x::l)≠0:=by
   intro c
   simp only[Zv] at c
   cases l with
   | nil=>exact hl (by simp) (by simp[Zv] at c;simp[c])
   | cons y l =>
    have b:Zv (y::l)=0:=by omega
    have:=UX (l:=y::l) (fun z hz=>h z (List.mem_cons_of_mem _ hz)) (fun d=>by have:=hl (by simp);simpa using this)
    rw[b,AG] at this
    cases this
  rw[Cc a]
  have h1:Zv (x::l)%4294967296=x:=by simp only[Zv];omega
  have b:Zv (x::l)/4294967296=Zv l:=by simp only[Zv];omega
  rw[h1,b,UX (fun z hz=>h z (List.mem_cons_of_mem _ hz)) (fun d=>by
   have:=hl (by simp)
   rwa[List.getLast_cons d] at this)]
theorem HC(n:Nat)(h:wds n≠[]): (wds n).getLast h≠0:=by
 induction n using Nat.strongRecOn with
 | _ n a =>
  have b:n≠0:=fun e=>h (by rw[e,AG])
  simp only[Cc b] at h ⊢
  by_cases h1:wds (n/4294967296)=[]
  ·have c:n/4294967296=0:=by
    have:=Qv (n/4294967296)
    rw[h1] at this;simp[Zv] at this;omega
   simp only[h1,List.getLast_singleton];omega
  ·rw[List.getLast_cons h1];exact a _ (by omega) h1
theorem Du:∀(l:List Nat),(∀x∈l,x=0)→Zv l=0
 | [],_=>rfl
 | x::l,h=>by
  simp[Zv,h x List.mem_cons_self,Du l (fun y a=>h y (List.mem_cons_of_mem _ a))]
theorem MS{l:List Nat}{m:Nat}(hz:∀j,m≤j→j<l.length→l.getD j 0=0): Zv (l.take m)=Zv l:=by
 conv=>rhs;rw[←List.take_append_drop m l,Jw]
 rw[Du (l.drop m) (fun x hx=>by
  obtain ⟨i,a,rfl⟩:=List.mem_iff_getElem.1 hx
  simp at a
  have:=hz (m+i) (by omega) (by omega)
  rw[List.getD_eq_getElem?_getD,List.getElem?_eq_getElem (by omega)] at this
  simpa using this)]
 simp
theorem ZH{l:List Nat}{m:Nat}(hw:Wd l)(hm:m≤l.length)(hz:∀j,m≤j→j<l.length→l.getD j 0=0)(hl:m=0∨l.getD (m-1) 0≠0): wds (Zv l)=l.take m:=by
 rw[←MS hz]
 refine UX (hw.take m) (fun a=>?_)
 have hlen:(l.take m).length=m:=by simp;omega
 rcases hl with rfl|hl
 ·simp at a
 ·have b:0<m:=by
   rcases Nat.eq_zero_or_pos m with h|h
   ·subst h;simp at a
   ·exact h
  rw[List.getLast_eq_getElem]
  simp only[hlen]
  rw[List.getElem_take]
  rw[List.getD_eq_getElem?_getD,List.getElem?_eq_getElem (by omega)] at hl
  simpa using hl
theorem EF{l:List Nat}(hw:Wd l): (wds (Zv l)).length≤l.length:=by
 rcases Nat.lt_or_ge l.length (wds (Zv l)).length with h|h
 ·exfalso
  have h1:=Vg hw
  have a:wds (Zv l)≠[]:=fun e=>by rw[e] at h;simp at h
  have b:=Qv (Zv l)
  rw[←List.dropLast_concat_getLast a,Jw] at b
  have d:=HC _ a
  simp only[Zv,List.length_dropLast,Nat.mul_zero,Nat.add_zero] at b
  have f:4294967296 ^ l.length≤4294967296 ^ ((wds (Zv l)).length-1):=Nat.pow_le_pow_right (by omega) (by omega)
  have c:4294967296 ^ ((wds (Zv l)).length-1)*1≤4294967296 ^ ((wds (Zv l)).length-1)*(wds (Zv l)).getLast a:=Nat.mul_le_mul_left _ (by omega)
  omega
 ·exact h
theorem U6(n:Nat)(h:n<18446744073709551616): Zv [n%4294967296,n/4294967296]=n:=by simp[Zv];omega
theorem two_Wd(n:Nat)(h:n<18446744073709551616): Wd [n%4294967296,n/4294967296]:=by
 intro x hx;simp at hx;omega
def Bi(l:List Nat)(i k:Nat): List Nat:=l.take i++(if i<l.length then [l.getD i 0%256 ^ k] else [])++List.replicate (l.length-i-1) 0
theorem Br(l:List Nat)(i k:Nat)(h:i<l.length): (Bi l i k).length=l.length:=by simp[Bi,h];omega
theorem J8(l:List Nat): Bi l 0 0=List.replicate l.length 0:=by
 cases l with
 | nil=>rfl
 | cons x l=>simp[Bi,Nat.mod_one,List.replicate_succ]
theorem Nj(l:List Nat)(i k:Nat)(h:i<l.length): (Bi l i k).getD i 0=l.getD i 0%256 ^ k:=by
 simp only[Bi,h,if_true]
 rw[List.getD_eq_getElem?_getD,List.append_assoc,List.getElem?_append_right (by simp;omega)]
 simp[Nat.min_eq_left (Nat.le_of_lt h)]
theorem Ni(l:List Nat)(i k a:Nat)(h:i<l.length): (Bi l i k).set i (l.getD i 0%256 ^ a)=Bi l i a:=by
 simp only[Bi,h,if_true]
 rw[List.append_assoc,List.append_assoc,List.set_append_right _ _ (by simp;omega)]
 simp[Nat.min_eq_left (Nat.le_of_lt h)]
theorem J9(l:List Nat)(i:Nat)(h:i<l.length)(hw:Wd l): Bi l i 4=Bi l (i+1) 0:=by
 have h1:l.getD i 0%256 ^ 4=l.getD i 0:=Nat.mod_eq_of_lt (hw.getD i)
 simp only[Bi,h,if_true,h1]
 rw[List.take_succ_eq_append_getElem h]
 have b:l.getD i 0=l[i]:=by simp[List.getD,h]
 rw[b]
 by_cases a:i+1<l.length
 ·simp only[a,if_true]
  have e:l.length-i-1=(l.length-(i+1)-1)+1:=by omega
  rw[e,List.replicate_succ]
  simp[Nat.mod_one]
 ·simp only[a,if_false]
  have e:l.length-i-1=0:=by omega
  have c:l.length-(i+1)-1=0:=by omega
  rw[e,c];simp
theorem Nk(l:List Nat): Bi l l.length 0=l:=by simp[Bi]
theorem WE(x k:Nat): (x%256 ^ k) ||| (x/256 ^ k%256*2 ^ (8*k))=x%256 ^ (k+1):=by
 have e:(256:Nat) ^ k=2 ^ (8*k):=by rw[Nat.pow_mul]
 have h1:x%256 ^ k<2 ^ (8*k):=by rw[←e];exact Nat.mod_lt _ (Nat.pow_pos (by omega))
 have a:=Nat.shiftLeft_add_eq_or_of_lt h1 (x/256 ^ k%256)
 rw[Nat.shiftLeft_eq] at a
 rw[Nat.or_comm, ←a,Nat.pow_succ,e,Nat.mod_mul]
 rw[Nat.mul_comm];omega
theorem N8{n i k:Nat}(c:¬n<18446744073709551616)(b:i<(wds n).length)(hk:k<4):
  ((Xa n).data.toList.getD (4*i+k) 0).toNat=(wds n).getD i 0/256 ^ k%256:=by
 rw[DY c]
 have h:=IY (wds n) i k b hk
 have a:4*i+k<(bytesOf (wds n)).length:=by rw[bytesOf_length];omega
 simp only[List.toList_toArray]
 rw[List.getD_eq_getElem?_getD,List.getD_eq_getElem?_getD]
 rw[List.getElem?_eq_getElem a] at h ⊢
 rw[List.getElem?_eq_getElem b] at h ⊢
 simpa using h
theorem EI(x k:Nat)(hk:k<4): x%256*2 ^ (8*k)<4294967296:=by
 have h1:x%256<256:=Nat.mod_lt _ (by omega)
 match k,hk with
 | 0,_=>simp;omega
 | 1,_=>simp;omega
 | 2,_=>simp;omega
 | 3,_=>simp;omega
theorem D4(l:List Nat)(i:Nat)(h:i<l.length): Zv (l.take (i+1))=Zv (l.take i)+2 ^ (32*i)*l.getD i 0:=by
 rw[List.take_succ_eq_append_getElem h,Jw]
 have e:(4294967296:Nat) ^ (l.take i).length=2 ^ (32*i):=by
  rw[List.length_take,Nat.min_eq_left (Nat.le_of_lt h),Nat.pow_mul]
 rw[e];simp[Zv,List.getD,h]
theorem kG(l:List Nat)(i:Nat)(h:i<l.length)(hw:Wd l): Zv (l.take i) ||| (l.getD i 0*2 ^ (32*i))=Zv (l.take (i+1)):=by
 have h1:Zv (l.take i)<2 ^ (32*i):=by
  have:=Vg (hw.take i)
  rw[List.length_take,Nat.min_eq_left (Nat.le_of_lt h)] at this
  have e:(4294967296:Nat) ^ i=2 ^ (32*i):=by rw[Nat.pow_mul]
  omega
 have a:=Nat.shiftLeft_add_eq_or_of_lt h1 (l.getD i 0)
 rw[Nat.shiftLeft_eq] at a
 rw[Nat.or_comm, ←a,D4 l i h,Nat.mul_comm];omega
theorem Ia(x i:Nat)(hx:x<4294967296)(a:i<2): x*2 ^ (32*i)<18446744073709551616:=by
 match i,a with
 | 0,_=>simp;omega
 | 1,_=>simp;omega
theorem MU{l:List Nat}(hw:Wd l)(h:l.length≤2): Zv l<18446744073709551616:=by
 have h1:=Vg hw
 have a:(4294967296:Nat) ^ l.length≤4294967296 ^ 2:=Nat.pow_le_pow_right (by omega) h
 omega
theorem OI{n:Nat}(h:2<(wds n).length): ¬n<18446744073709551616:=fun a=>by have:=BL a;omega
theorem Ee:∀(l m:List Nat),bytesOf (l++m)=bytesOf l++bytesOf m
 | [],_=>rfl
 | x::l,m=>by simp[bytesOf,Ee l m]
theorem Ui(l:List Nat)(i:Nat)(h:i<l.length): ((bytesOf (l.take i)).map (fun b=>Value.int .u8 (b.toNat:Int))) ++
  [.int .u8 ((l.getD i 0%256:Nat):Int),.int .u8 ((l.getD i 0/2 ^ 8%256:Nat):Int),.int .u8 ((l.getD i 0/2 ^ 16%256:Nat):Int),.int .u8 ((l.getD i 0/2 ^ 24%256:Nat):Int)] =
  (bytesOf (l.take (i+1))).map (fun b=>Value.int .u8 (b.toNat:Int)):=by
 rw[List.take_succ_eq_append_getElem h,Ee,List.map_append]
 have:l.getD i 0=l[i]:=by simp[List.getD,h]
 rw[this]
 simp[bytesOf]
theorem Af:∀(l:List Nat) (i v:Nat),i<l.length→Zv (l.set i v)+4294967296 ^ i*l.getD i 0=Zv l+4294967296 ^ i*v
 | [],i,v,h=>by simp at h
 | x::l,0,v,_=>by simp[Zv];omega
 | x::l,i+1,v,h=>by
  have c:=Af l i v (by simpa using h)
  simp only[List.set_cons_succ,Zv,List.getD_cons_succ,Nat.pow_succ]
  have b:4294967296 ^ i*4294967296*l.getD i 0=4294967296*(4294967296 ^ i*l.getD i 0):=by rw[Nat.mul_comm (4294967296 ^ i) 4294967296,Nat.mul_assoc]
  have a:4294967296 ^ i*4294967296*v=4294967296*(4294967296 ^ i*v):=by rw[Nat.mul_comm (4294967296 ^ i) 4294967296,Nat.mul_assoc]
  rw[b,a];omega
theorem BO(l:List Nat)(i:Nat): Zv (l.drop i)=l.getD i 0+4294967296*Zv (l.drop (i+1)):=by
 rcases Nat.lt_or_ge i l.length with h|h
 ·rw[List.drop_eq_getElem_cons h,Zv];simp[List.getD,h]
 ·rw[List.drop_eq_nil_of_le h,List.drop_eq_nil_of_le (by omega)];simp[Zv,List.getD,h]
theorem Wd.set{l:List Nat}(h:Wd l)(i v:Nat)(hv:v<4294967296): Wd (l.set i v):=by
 intro x hx
 rcases List.mem_or_eq_of_mem_set hx with a|a
 ·exact h x a
 ·omega
theorem Wd.drop{l:List Nat}(h:Wd l)(m:Nat): Wd (l.drop m):=fun x hx=>h x (List.mem_of_mem_drop hx)
theorem Wd.append{l m:List Nat}(h:Wd l)(a:Wd m): Wd (l++m):=fun x hx=>by
 rcases List.mem_append.1 hx with h1|h1
 ·exact h x h1
 ·exact a x h1
theorem Wd.zeros(k:Nat): Wd (List.replicate k 0):=fun x hx=>by have:=List.eq_of_mem_replicate hx;omega
theorem De{l:List Nat}{i:Nat}(h:l.length≤i): l.getD i 0=0:=by simp[List.getD,h]
theorem ME{Z Y:List Nat}{i c T:Nat}(a:i<Z.length)(d:Zv Z+4294967296 ^ i*(c+Zv (Y.drop i))=T):
  Zv (Z.set i ((Z.getD i 0+Y.getD i 0+c)%4294967296))+4294967296 ^ (i+1)*((Z.getD i 0+Y.getD i 0+c)/4294967296+Zv (Y.drop (i+1)))=T:=by
 have h1:=Af Z i ((Z.getD i 0+Y.getD i 0+c)%4294967296) a
 rw[BO Y i] at d
 have b:=Nat.div_add_mod (Z.getD i 0+Y.getD i 0+c) 4294967296
 generalize (Z.getD i 0+Y.getD i 0+c)/4294967296=q at *
 generalize (Z.getD i 0+Y.getD i 0+c)%4294967296=r at *
 generalize Zv (Y.drop (i+1))=R at *
 rw[Nat.pow_succ]
 generalize 4294967296 ^ i=B at *
 have e:B*r+B*(4294967296*q)=B*Z.getD i 0+B*Y.getD i 0+B*c:=by rw[←Nat.mul_add, ←Nat.mul_add, ←Nat.mul_add, ←b];congr 1;omega
 simp only[Nat.mul_add,Nat.mul_assoc] at *
 omega
theorem ct{Z Y:List Nat}{i c d a T U:Nat}(b:i<Z.length)(f:Zv Z+U=T+4294967296 ^ i*(c+Zv (Y.drop i)))(hd:d+Y.getD i 0+c=Z.getD i 0+4294967296*a):
  Zv (Z.set i d)+U=T+4294967296 ^ (i+1)*(a+Zv (Y.drop (i+1))):=by
 have h1:=Af Z i d b
 rw[BO Y i] at f
 generalize Zv (Y.drop (i+1))=R at *
 generalize e:4294967296 ^ i=B at *
 have g:B*d+B*Y.getD i 0+B*c=B*Z.getD i 0+B*(4294967296*a):=by rw[←Nat.mul_add, ←Nat.mul_add, ←Nat.mul_add,hd]
 rw[Nat.pow_succ,e]
 simp only[Nat.mul_add,Nat.mul_assoc] at *
 omega
theorem jK{Z:List Nat}{N c T U:Nat}(hw:Wd Z)(hl:Z.length=N)(hle:U≤T)(a:Zv Z+U=T+4294967296 ^ N*c): Zv Z=T-U:=by
 have h1:=Vg hw
 rw[hl] at h1
 rcases Nat.eq_zero_or_pos c with h|h
 ·subst h;omega
 ·have:=Nat.mul_le_mul_left (4294967296 ^ N) h
  omega
theorem mW{Z:List Nat}{N c T:Nat}(a:Zv Z+4294967296 ^ N*c=T)(hT:T<4294967296 ^ N): Zv Z=T:=by
 rcases Nat.eq_zero_or_pos c with h|h
 ·subst h;omega
 ·have:=Nat.mul_le_mul_left (4294967296 ^ N) h
  omega
theorem ef{Z Y:List Nat}{i k c wd T:Nat}(b:i+k<Z.length)(d:Zv Z+4294967296 ^ (i+k)*c+4294967296 ^ (i+k)*(wd*Zv (Y.drop k))=T):
  Zv (Z.set (i+k) ((c+(wd*Y.getD k 0+Z.getD (i+k) 0))%4294967296))+4294967296 ^ (i+(k+1))*((c+(wd*Y.getD k 0+Z.getD (i+k) 0))/4294967296)+4294967296 ^ (i+(k+1))*(wd*Zv (Y.drop (k+1)))=T:=by
 have h1:=Af Z (i+k) ((c+(wd*Y.getD k 0+Z.getD (i+k) 0))%4294967296) b
 rw[BO Y k] at d
 have a:=Nat.div_add_mod (c+(wd*Y.getD k 0+Z.getD (i+k) 0)) 4294967296
 generalize hq:(c+(wd*Y.getD k 0+Z.getD (i+k) 0))/4294967296=q at *
 generalize hr:(c+(wd*Y.getD k 0+Z.getD (i+k) 0))%4294967296=r at *
 generalize Zv (Y.drop (k+1))=R at *
 rw[show i+(k+1)=(i+k)+1 from rfl,Nat.pow_succ]
 generalize 4294967296 ^ (i+k)=B at *
 have f:B*(4294967296*q)+B*r=B*c+(B*(wd*Y.getD k 0)+B*Z.getD (i+k) 0):=by rw[←Nat.mul_add, ←Nat.mul_add, ←Nat.mul_add,a]
 have e:B*4294967296*(wd*R)=B*(wd*(4294967296*R)):=by rw[Nat.mul_assoc];congr 1;rw[←Nat.mul_assoc, ←Nat.mul_assoc,Nat.mul_comm wd]
 rw[e]
 simp only[Nat.mul_add,Nat.mul_assoc] at *
 omega
theorem OG{a b c d:Nat}(ha:a<4294967296)(e:b<4294967296)(hc:c<4294967296)(hd:d<4294967296): c+(a*b+d)<18446744073709551616:=by
 have:a*b≤4294967295*4294967295:=Nat.mul_le_mul (by omega) (by omega)
 omega
theorem Vf{l:List Nat}(hw:Wd l)(i:Nat): Zv (l.take i)<4294967296 ^ i:=by
 have h1:=Vg (hw.take i)
 have a:4294967296 ^ (l.take i).length≤4294967296 ^ i:=Nat.pow_le_pow_right (by omega) (by simp;omega)
 omega
theorem CU{Z:List Nat}{m:Nat}(h:Zv Z<4294967296 ^ m){j:Nat}(hj:m≤j): Z.getD j 0=0:=by
 rcases Nat.eq_zero_or_pos (Z.getD j 0) with a|a
 ·exact a
 ·exfalso
  have hl:j<Z.length:=by
   rcases Nat.lt_or_ge j Z.length with h1|h1
   ·exact h1
   ·have:=De h1;omega
  have h1:=Af Z j 0 hl
  have b:4294967296 ^ m≤4294967296 ^ j:=Nat.pow_le_pow_right (by omega) hj
  have c:=Nat.mul_le_mul_left (4294967296 ^ j) a
  omega
def ZS(n m:Nat): Int:=if n<m then -1 else if m<n then 1 else 0
theorem Dt{n m:Nat}(h:(wds n).length<(wds m).length): n<m:=by
 have h1:=Vg (Wd.wds n)
 rw[Qv] at h1
 have a:wds m≠[]:=fun e=>by rw[e] at h;simp at h
 have b:=Qv m
 rw[←List.dropLast_concat_getLast a,Jw] at b
 have d:=HC _ a
 simp only[Zv,List.length_dropLast,Nat.mul_zero,Nat.add_zero] at b
 have f:4294967296 ^ (wds n).length≤4294967296 ^ ((wds m).length-1):=Nat.pow_le_pow_right (by omega) (by omega)
 have c:4294967296 ^ ((wds m).length-1)*1≤4294967296 ^ ((wds m).length-1)*(wds m).getLast a:=Nat.mul_le_mul_left _ (by omega)
 omega
theorem QR{X Y:List Nat}{i:Nat}(d:Wd X)(g:Wd Y)(e:X.getD i 0<Y.getD i 0)(hd:X.drop (i+1)=Y.drop (i+1)): Zv X<Zv Y:=by
 have hs:∀l:List Nat,i<l.length→Zv l=Zv (l.take i)+4294967296 ^ i*(l.getD i 0+4294967296*Zv (l.drop (i+1))):=fun l hl=>by
  conv=>lhs;rw[←List.take_append_drop i l,Jw]
  rw[BO l i];simp[Nat.min_eq_left (Nat.le_of_lt hl)]
 have b:i<Y.length:=by
  rcases Nat.lt_or_ge i Y.length with h1|h1
  ·exact h1
  ·have:=De h1;omega
 have h1:=Vf d i
 rw[hs Y b]
 have c:Zv X≤Zv (X.take i)+4294967296 ^ i*(X.getD i 0+4294967296*Zv (X.drop (i+1))):=by
  rcases Nat.lt_or_ge i X.length with a|a
  ·exact Nat.le_of_eq (hs X a)
  ·rw[List.take_of_length_le a];omega
 rw[hd] at c
 have f:=Nat.mul_le_mul_left (4294967296 ^ i) (show X.getD i 0+4294967296*Zv (Y.drop (i+1))+1≤Y.getD i 0+4294967296*Zv (Y.drop (i+1)) by omega)
 rw[Nat.mul_add] at f
 omega
theorem drop_step{X Y:List Nat}{i:Nat}(hl:X.length=Y.length)(a:i<X.length)(he:X.getD i 0=Y.getD i 0)(hd:X.drop (i+1)=Y.drop (i+1)): X.drop i=Y.drop i:=by
 rw[List.drop_eq_getElem_cons a,List.drop_eq_getElem_cons (by omega:i<Y.length),hd]
 congr 1
 simpa [List.getD,a,(by omega:i<Y.length)] using he
theorem Aq(z:Nat)(hz:z<4294967296): z.testBit 31=decide (2147483648≤z):=by
 rw[Nat.testBit_eq_decide_div_mod_eq]
 have e:(2:Nat) ^ 31=2147483648:=by decide
 rw[e]
 apply decide_eq_decide.2
 omega
theorem shr31(z:Nat)(hz:z<4294967296): z/2 ^ 31=if z.testBit 31 then 1 else 0:=by
 rw[Aq z hz]
 have e:(2:Nat) ^ 31=2147483648:=by decide
 rw[e]
 by_cases h:2147483648≤z<;>simp[h]<;>omega
theorem S7(x y b:Nat)(hx:x<4294967296)(c:y<4294967296)(m:b≤1):
  (((4294967295-x) &&& y) ||| ((4294967295-(x ^^^ y)) &&& ((x+8589934592-y-b)%4294967296)))/2 ^ 31=if x<y+b then 1 else 0:=by
 have f:x ^^^ y<4294967296:=Nat.xor_lt_two_pow (n:=32) hx c
 generalize hd:(x+8589934592-y-b)%4294967296=d
 have a:d<4294967296:=by omega
 have h1:((4294967295-x) &&& y)<2 ^ 32:=Nat.lt_of_le_of_lt Nat.and_le_right c
 have l:((4294967295-(x ^^^ y)) &&& d)<2 ^ 32:=Nat.lt_of_le_of_lt Nat.and_le_right a
 rw[shr31 _ (Nat.or_lt_two_pow h1 l)]
 rw[Nat.testBit_or,Nat.testBit_and,Nat.testBit_and,Aq (4294967295-x) (by omega),Aq y c,Aq (4294967295-(x ^^^ y)) (by omega),Aq d a]
 have k:decide (2147483648≤4294967295-(x ^^^ y)) = !(x ^^^ y).testBit 31:=by
  rw[Aq _ f]
  by_cases h:2147483648≤x ^^^ y
  ·rw[decide_eq_true h];simp;omega
  ·rw[decide_eq_false h];simp;omega
 rw[k,Nat.testBit_xor,Aq x hx,Aq y c]
 by_cases e:2147483648≤x<;>by_cases j:2147483648≤y<;>by_cases i:2147483648≤d<;>by_cases g:x<y+b<;>
  simp[e,j,i,g]<;>omega
theorem VF(x y b:Nat)(hx:x<4294967296)(c:y<4294967296)(a:b≤1):
  (x+8589934592-y-b)%4294967296+y+b=x+4294967296*(if x<y+b then 1 else 0):=by
 split<;>omega
theorem add_lt{X Y:List Nat}(a:Wd X)(b:Wd Y)(hl:Y.length≤X.length): Zv X+Zv Y<4294967296 ^ (X.length+1):=by
 have h1:=Vg a
 have c:=Vg b
 have d:4294967296 ^ Y.length≤4294967296 ^ X.length:=Nat.pow_le_pow_right (by omega) hl
 rw[Nat.pow_succ];omega
theorem HU{n m:Nat}: decide (ZS n m<0)=decide (n<m):=by
 unfold ZS
 apply decide_eq_decide.2
 split
 ·simp[*]
 ·split<;>simp[*]
theorem Gq{a b:Nat}(h:a*b<18446744073709551616): IntKind.u64.wrap ((a:Int)*(b:Int))=((a*b:Nat):Int):=by
 rw[←Int.natCast_mul]
 generalize a*b=c at *
 exact wrap_u64 _ (by omega) (by omega)
theorem Kw{a b:Nat}(h:a+b<18446744073709551616): IntKind.u64.wrap ((a:Int)+(b:Int))=((a+b:Nat):Int):=by
 rw[←Int.natCast_add]
 exact wrap_u64 _ (by omega) (by omega)
theorem Ai{a b:Nat}(ha:a<4294967296)(c:b<4294967296): a*b≤18446744065119617025:=by
 have:a*b≤4294967295*4294967295:=Nat.mul_le_mul (by omega) (by omega)
 omega
theorem mul64_hi(x y:Nat)(hx:x<18446744073709551616)(g:y<18446744073709551616):
  (x/4294967296*(y%4294967296)+x%4294967296*(y%4294967296)/4294967296<18446744073709551616) ∧
  ((x/4294967296*(y%4294967296)+x%4294967296*(y%4294967296)/4294967296)%4294967296+x%4294967296*(y/4294967296)<18446744073709551616) ∧
  (x/4294967296*(y/4294967296)+(x/4294967296*(y%4294967296)+x%4294967296*(y%4294967296)/4294967296)/4294967296 +
   ((x/4294967296*(y%4294967296)+x%4294967296*(y%4294967296)/4294967296)%4294967296+x%4294967296*(y/4294967296))/4294967296=x*y/18446744073709551616):=by
 have e:x*y=x/4294967296*(y/4294967296)*18446744073709551616+(x/4294967296*(y%4294967296)+x%4294967296*(y/4294967296))*4294967296+x%4294967296*(y%4294967296):=by
  have c:=Nat.div_add_mod x 4294967296
  have d:=Nat.div_add_mod y 4294967296
  generalize x/4294967296=x1 at *
  generalize x%4294967296=x0 at *
  generalize y/4294967296=y1 at *
  generalize y%4294967296=y0 at *
  subst c d
  have:(4294967296*x1+x0)*(4294967296*y1+y0)=4294967296*4294967296*(x1*y1)+4294967296*(x1*y0)+4294967296*(x0*y1)+x0*y0:=by
   rw[Nat.add_mul,Nat.mul_add,Nat.mul_add]
   have f:4294967296*x1*(4294967296*y1)=4294967296*4294967296*(x1*y1):=by rw[Nat.mul_mul_mul_comm]
   have a2:4294967296*x1*y0=4294967296*(x1*y0):=Nat.mul_assoc _ _ _
   have a3:x0*(4294967296*y1)=4294967296*(x0*y1):=Nat.mul_left_comm _ _ _
   rw[f,a2,a3];omega
  rw[this];omega
 have i:=Ai (a:=x/4294967296) (b:=y/4294967296) (by omega) (by omega)
 have j:=Ai (a:=x/4294967296) (b:=y%4294967296) (by omega) (by omega)
 have h:=Ai (a:=x%4294967296) (b:=y/4294967296) (by omega) (by omega)
 have k:=Ai (a:=x%4294967296) (b:=y%4294967296) (by omega) (by omega)
 rw[e]
 generalize x/4294967296*(y/4294967296)=p at *
 generalize x/4294967296*(y%4294967296)=q at *
 generalize x%4294967296*(y/4294967296)=r at *
 generalize x%4294967296*(y%4294967296)=s at *
 refine⟨?_,?_,?_⟩<;>omega
theorem Iw{l:List Nat}{i j v:Nat}(h:i≠j): (l.set i v).getD j 0=l.getD j 0:=by
 simp[List.getD,List.getElem?_set,h]
theorem pow32(i:Nat): 4294967296 ^ i=2 ^ (32*i):=by rw[Nat.pow_mul]
theorem Jc(l:List Nat)(i:Nat)(h:i<l.length): Zv (l.take (i+1))=Zv (l.take i)+4294967296 ^ i*l.getD i 0:=by
 rw[pow32];exact D4 l i h
theorem JK{X Y Z:List Nat}{i j:Nat}(a:Wd X)(c:Wd Y)(b:Zv Z=Zv (X.take i)*Zv Y)(hj:i+Y.length≤j): Z.getD j 0=0:=by
 refine CU (m:=i+Y.length) ?_ hj
 rw[b,Nat.pow_add]
 exact Nat.mul_lt_mul'' (Vf a i) (Vg c)
theorem Pu{X Y Z:List Nat}{i c:Nat}(b:i<X.length)(hl:i+Y.length<Z.length)(d:Z.getD (i+Y.length) 0=0)(a:Zv Z+4294967296 ^ (i+Y.length)*c+4294967296 ^ (i+Y.length)*(X.getD i 0*Zv (Y.drop Y.length))=Zv (X.take i)*Zv Y+4294967296 ^ i*(X.getD i 0*Zv Y)):
  Zv (Z.set (i+Y.length) c)=Zv (X.take (i+1))*Zv Y:=by
 have h1:=Af Z (i+Y.length) c hl
 rw[d] at h1
 rw[List.drop_length] at a
 simp only[Zv,Nat.mul_zero,Nat.add_zero] at a h1
 rw[h1,a,Jc X i b,Nat.add_mul,Nat.mul_assoc]
end Go.Fx
namespace Go.Fx
open Go
theorem EE{a:Nat}(h:a<4294967296): IntKind.u32.wrap (a:Int)=(a:Int):=wrap_u32 _ (by omega) (by omega)
theorem ED{a:Nat}(h:a<18446744073709551616): IntKind.u64.wrap (a:Int)=(a:Int):=wrap_u64 _ (by omega) (by omega)
theorem Fw{l:List Nat}{i v:Nat}(h:i<l.length): (l.set i v).drop i=v::l.drop (i+1):=by
 rw[List.drop_set]
 simp
 rw[List.drop_eq_getElem_cons h]
 rfl
theorem Tp{X Q:List Nat}{k y r:Nat}(hk:0<k)(a:k≤X.length)(hl:Q.length=X.length)(hT:Zv (X.drop k)=Zv (Q.drop k)*y+r):
  Zv (X.drop (k-1))=Zv ((Q.set (k-1) ((r*4294967296+X.getD (k-1) 0)/y)).drop (k-1))*y+(r*4294967296+X.getD (k-1) 0)%y:=by
 rw[BO X (k-1),Fw (by omega),Nat.sub_add_cancel hk,hT,Zv]
 have h:=Nat.div_add_mod (r*4294967296+X.getD (k-1) 0) y
 generalize (r*4294967296+X.getD (k-1) 0)/y=q at *
 generalize (r*4294967296+X.getD (k-1) 0)%y=m at *
 generalize Zv (Q.drop k)=V at *
 rw[Nat.add_mul,Nat.mul_add,Nat.mul_assoc,Nat.mul_comm q y]
 omega
theorem H9{r x y:Nat}(hr:r<y)(hx:x<4294967296): (r*4294967296+x)/y<4294967296:=by
 refine Nat.div_lt_of_lt_mul ?_
 have:=Nat.mul_le_mul_right 4294967296 (show r+1≤y from hr)
 omega
theorem FT(s:Nat)(hs:s<32): 4294967296=2 ^ (32-s)*2 ^ s:=by
 rw[←Nat.pow_add,Nat.sub_add_cancel (by omega)]
theorem OX(x s:Nat)(hs:s<32): x*2 ^ s%4294967296=(x%2 ^ (32-s))*2 ^ s:=by
 rw[FT s hs,Nat.mul_mod_mul_right]
theorem shl_or(x s c:Nat)(hs:s<32)(hc:c<2 ^ s): (x*2 ^ s%4294967296) ||| c=x*2 ^ s%4294967296+c:=by
 rw[OX x s hs]
 have h:=Nat.shiftLeft_add_eq_or_of_lt hc (x%2 ^ (32-s))
 rw[Nat.shiftLeft_eq] at h
 exact h.symm
theorem VU(x s c:Nat)(hs:s<32)(hc:c<2 ^ s): x*2 ^ s%4294967296+c<4294967296:=by
 rw[OX x s hs]
 have h1:x%2 ^ (32-s)+1≤2 ^ (32-s):=Nat.mod_lt _ (Nat.pow_pos (by omega))
 have a:=Nat.mul_le_mul_right (2 ^ s) h1
 rw[←FT s hs,Nat.add_mul] at a
 omega
theorem VW(x s:Nat)(hs:s<32)(hx:x<4294967296): x*2 ^ s/4294967296<2 ^ s:=by
 refine Nat.div_lt_of_lt_mul ?_
 exact Nat.mul_lt_mul_of_pos_right hx (Nat.pow_pos (by omega))
theorem Rm(s:Nat)(hs:s<32): 2 ^ s≤2147483648:=by
 have:2 ^ s≤2 ^ 31:=Nat.pow_le_pow_right (by omega) (by omega)
 omega
theorem Tq{X Z:List Nat}{i c s:Nat}(a:i<X.length)(hl:Z.length=X.length+1)(hz:Z.getD i 0=0)(hT:Zv Z+4294967296 ^ i*c=Zv (X.take i)*2 ^ s):
  Zv (Z.set i (X.getD i 0*2 ^ s%4294967296+c))+4294967296 ^ (i+1)*(X.getD i 0*2 ^ s/4294967296)=Zv (X.take (i+1))*2 ^ s:=by
 have h1:=Af Z i (X.getD i 0*2 ^ s%4294967296+c) (by omega)
 rw[hz] at h1
 rw[Jc X i a,Nat.add_mul, ←hT,Nat.mul_assoc,Nat.pow_succ,Nat.mul_assoc]
 have b:=Nat.div_add_mod (X.getD i 0*2 ^ s) 4294967296
 have d:4294967296 ^ i*(4294967296*(X.getD i 0*2 ^ s/4294967296))+4294967296 ^ i*(X.getD i 0*2 ^ s%4294967296)=4294967296 ^ i*(X.getD i 0*2 ^ s):=by rw[←Nat.mul_add,b]
 rw[Nat.mul_add] at h1
 omega
theorem VX{X Z:List Nat}{c s:Nat}(hl:Z.length=X.length+1)(hz:Z.getD X.length 0=0)(hT:Zv Z+4294967296 ^ X.length*c=Zv (X.take X.length)*2 ^ s):
  Zv (Z.set X.length c)=Zv X*2 ^ s:=by
 have h1:=Af Z X.length c (by omega)
 rw[List.take_length] at hT
 rw[hz] at h1
 omega
theorem YK(x y:Nat)(hx:x<4294967296): (x/2 ^ 1) ||| (y*2 ^ 31%4294967296)=x/2+2147483648*(y%2):=by
 have e:y*2 ^ 31%4294967296=(y%2)*2 ^ 31:=OX y 31 (by omega)
 rw[e]
 have h:=Nat.shiftLeft_add_eq_or_of_lt (show x/2<2 ^ 31 by omega) (y%2)
 rw[Nat.shiftLeft_eq] at h
 rw[Nat.pow_one,Nat.or_comm, ←h]
 omega
theorem YL{O Z:List Nat}{i r:Nat}(a:i<O.length)(hl:Z.length=O.length)(hd:Z.drop i=O.drop i)(hT:2*Zv (Z.take i)+r=Zv (O.take i)+4294967296 ^ i*(O.getD i 0%2)):
  2*Zv ((Z.set i (O.getD i 0/2+2147483648*(O.getD (i+1) 0%2))).take (i+1))+r=Zv (O.take (i+1))+4294967296 ^ (i+1)*(O.getD (i+1) 0%2):=by
 rw[Jc _ i (by simp;omega),Jc O i a,List.take_set_of_le (Nat.le_refl _)]
 have e:(Z.set i (O.getD i 0/2+2147483648*(O.getD (i+1) 0%2))).getD i 0=O.getD i 0/2+2147483648*(O.getD (i+1) 0%2):=by
  simp[List.getD,hl,a]
 rw[e,Nat.pow_succ,Nat.mul_assoc]
 have b:2*(4294967296 ^ i*(O.getD i 0/2+2147483648*(O.getD (i+1) 0%2)))+4294967296 ^ i*(O.getD i 0%2)=4294967296 ^ i*O.getD i 0+4294967296 ^ i*(4294967296*(O.getD (i+1) 0%2)):=by
  rw[Nat.mul_left_comm, ←Nat.mul_add, ←Nat.mul_add]
  congr 1
  omega
 omega
theorem eU{O Z:List Nat}{r:Nat}(hr:r≤1)(hl:Z.length=O.length)(hT:2*Zv (Z.take O.length)+r=Zv (O.take O.length)+4294967296 ^ O.length*(O.getD O.length 0%2)): Zv Z=Zv O/2:=by
 rw[De (Nat.le_refl _), ←hl,List.take_length,hl,List.take_length] at hT
 omega
theorem XK{Z V:List Nat}{i c g dg d l' T:Nat}(a:i<V.length)(b:i<Z.length)(hT:Zv Z+dg*Zv (V.take i)=T+4294967296 ^ i*(c+g))(hd:d+(c+dg*V.getD i 0)%4294967296+g=Z.getD i 0+4294967296*l'):
  Zv (Z.set i d)+dg*Zv (V.take (i+1))=T+4294967296 ^ (i+1)*((c+dg*V.getD i 0)/4294967296+l'):=by
 have h1:=Af Z i d b
 have f:=Nat.div_add_mod (c+dg*V.getD i 0) 4294967296
 rw[Jc V i a,Nat.pow_succ,Nat.mul_add]
 generalize hq:(c+dg*V.getD i 0)/4294967296=q at *
 generalize hm:(c+dg*V.getD i 0)%4294967296=m at *
 rw[Nat.mul_left_comm dg]
 generalize h:4294967296 ^ i=P at *
 have e:P*d+P*(c+dg*V.getD i 0)+P*g=P*Z.getD i 0+P*(4294967296*(q+l')):=by
  rw[←Nat.mul_add, ←Nat.mul_add, ←Nat.mul_add]
  congr 1
  omega
 rw[Nat.mul_add P c] at e
 rw[Nat.mul_add P c] at hT
 rw[Nat.mul_assoc P 4294967296]
 omega
theorem er{Z V:List Nat}{c g dg d l' T:Nat}(a:V.length<Z.length)(hT:Zv Z+dg*Zv (V.take V.length)=T+4294967296 ^ V.length*(c+g))(hd:d+c+g=Z.getD V.length 0+4294967296*l'):
  Zv (Z.set V.length d)+dg*Zv V=T+4294967296 ^ (V.length+1)*l':=by
 have h1:=Af Z V.length d a
 rw[List.take_length] at hT
 rw[Nat.pow_succ,Nat.mul_assoc]
 have b:4294967296 ^ V.length*d+4294967296 ^ V.length*(c+g)=4294967296 ^ V.length*Z.getD V.length 0+4294967296 ^ V.length*(4294967296*l'):=by
  rw[←Nat.mul_add, ←Nat.mul_add];congr 1;omega
 omega
theorem TL{c dg w:Nat}(hc:c<4294967296)(hd:dg<4294967296)(hw:w<4294967296): c+dg*w<18446744073709551616∧(c+dg*w)/4294967296<4294967296:=by
 have:=Ai hd hw
 omega
theorem Ct(p W h:List Nat)(i:Nat)(a:i<W.length): (p++W++h).getD (p.length+i) 0=W.getD i 0:=by
 rw[List.append_assoc]
 have b:¬p.length+i<p.length:=by omega
 simp[List.getD,a,List.getElem?_append,b]
theorem set_mid(p W h:List Nat)(i v:Nat)(a:i<W.length): (p++W++h).set (p.length+i) v=p++W.set i v++h:=by
 rw[List.append_assoc,List.set_append_right _ _ (by omega),List.append_assoc]
 simp[List.set_append,a]
theorem Hn{Z O:List Nat}{i:Nat}(h:Z.drop i=O.drop i){j:Nat}(hj:i≤j): Z.getD j 0=O.getD j 0:=by
 have e:∀l:List Nat,l.getD j 0=(l.drop i).getD (j-i) 0:=fun l=>by
  simp[List.getD,List.getElem?_drop,Nat.add_sub_cancel' hj]
 rw[e Z,e O,h]
theorem LO{l:List Nat}{i v:Nat}(h:i<l.length): (l.set i v).getD i 0=v:=by simp[List.getD,h]
theorem Ml{Z O:List Nat}{i v:Nat}(h:Z.drop i=O.drop i): (Z.set i v).drop (i+1)=O.drop (i+1):=by
 have e:∀l:List Nat,l.drop (i+1)=(l.drop i).drop 1:=fun l=>by rw[List.drop_drop]
 rw[List.drop_set_of_lt (by omega),e Z,e O,h]
def CM(n:Nat): Nat:=if n=0 then 0 else Nat.log2 n+1
theorem XU(n:Nat): n<2 ^ CM n:=by
 unfold CM
 split
 ·simp[*]
 ·exact Nat.lt_log2_self
theorem PI{n:Nat}(h:n≠0): 2 ^ (CM n-1)≤n:=by
 unfold CM
 rw[if_neg h,Nat.add_sub_cancel]
 exact Nat.log2_self_le h
theorem ll{n k:Nat}(h1:2 ^ k≤n)(b:n<2 ^ (k+1)): CM n=k+1:=by
 have a:n≠0:=by have:=Nat.pow_pos (n:=k) (show 0<2 by omega);omega
 unfold CM
 rw[if_neg a,(Nat.log2_eq_iff a).2 ⟨h1,b⟩]
theorem KO{n k:Nat}(h:2 ^ k≤n): CM (n/2 ^ k)+k=CM n:=by
 have b:0<2 ^ k:=Nat.pow_pos (by omega)
 have a:n/2 ^ k≠0:=by
  have:=Nat.div_le_div_right (c:=2 ^ k) h
  rw[Nat.div_self b] at this;omega
 have h1:=PI a
 have d:=XU (n/2 ^ k)
 have g:0<CM (n/2 ^ k):=by unfold CM;rw[if_neg a];omega
 generalize CM (n/2 ^ k)=L at *
 have e:2 ^ (L-1+k)≤n:=by
  rw[Nat.pow_add]
  exact Nat.le_trans (Nat.mul_le_mul_right _ h1) (Nat.div_mul_le_self n (2 ^ k))
 have f:n<2 ^ (L-1+k+1):=by
  rw[show L-1+k+1=L+k by omega,Nat.pow_add]
  exact(Nat.div_lt_iff_lt_mul b).1 d
 rw[ll e f];omega
theorem GG{n k:Nat}(h:n<2 ^ k): CM n≤k:=by
 by_cases b:n=0
 ·subst b;simp[CM]
 ·have h1:=PI b
  have c:2 ^ (CM n-1)<2 ^ k:=Nat.lt_of_le_of_lt h1 h
  have:=(Nat.pow_lt_pow_iff_right (a:=2) (by omega)).1 c
  omega
end Go.Fx
namespace Go.Fx
open Go
theorem MR{l:List Nat}{e:Nat}(h:l.length=e+2): Zv l=(4294967296*l.getD (e+1) 0+l.getD e 0)*4294967296 ^ e+Zv (l.take e):=by
 have h1:l.take (e+2)=l:=by rw[←h,List.take_length]
 have a:=Jc l (e+1) (by omega)
 have b:=Jc l e (by omega)
 rw[h1] at a
 rw[a,b,Nat.pow_succ]
 generalize 4294967296 ^ e=P
 generalize l.getD (e+1) 0=x
 generalize l.getD e 0=z
 rw[Nat.add_mul,Nat.mul_comm z P,Nat.mul_assoc P,Nat.mul_comm P (4294967296*x)]
 omega
theorem U1{l:List Nat}{e:Nat}(h:l.length=e+3): Zv l=(4294967296*(4294967296*l.getD (e+2) 0+l.getD (e+1) 0)+l.getD e 0)*4294967296 ^ e+Zv (l.take e):=by
 have h1:l.take (e+3)=l:=by rw[←h,List.take_length]
 have a:=Jc l (e+2) (by omega)
 have b:=MR (l:=l.take (e+2)) (e:=e) (by simp;omega)
 rw[h1] at a
 have g1:(l.take (e+2)).getD (e+1) 0=l.getD (e+1) 0:=by simp[List.getD]
 have g2:(l.take (e+2)).getD e 0=l.getD e 0:=by simp[List.getD,show e<e+2 by omega]
 have g3:(l.take (e+2)).take e=l.take e:=by rw[List.take_take];congr 1;omega
 rw[g1,g2,g3] at b
 rw[a,b,Nat.pow_succ,Nat.pow_succ]
 generalize 4294967296 ^ e=P
 generalize l.getD (e+2) 0=x
 generalize l.getD (e+1) 0=y
 generalize l.getD e 0=z
 rw[Nat.mul_assoc (P*4294967296),Nat.mul_assoc P,Nat.mul_comm P (4294967296*(4294967296*x)), ←Nat.add_right_comm, ←Nat.add_mul]
 congr 2
 omega
section
variable{U VV P top v1 v2 w0 lu lv dg rest:Nat}
theorem Ub(f:U=(4294967296*top+w0)*P+lu)(b:VV=(4294967296*v1+v2)*P+lv)(hw:w0<4294967296)(d:lu<P)(a:0<v1): U<(top/v1+1)*VV:=by
 have h1:top+1≤(top/v1+1)*v1:=by rw[Nat.mul_comm];exact Nat.lt_mul_div_succ top a
 generalize top/v1+1=D at *
 have e:U+1≤4294967296*(D*v1)*P:=by
  have:=Nat.mul_le_mul_right P (show 4294967296*top+w0+1≤4294967296*(D*v1) by omega)
  rw[Nat.add_mul (4294967296*top+w0)] at this
  omega
 have c:D*((4294967296*v1)*P)≤D*VV:=Nat.mul_le_mul_left _ (by rw[b,Nat.add_mul,Nat.add_assoc];exact Nat.le_add_right _ _)
 rw[←Nat.mul_assoc,Nat.mul_left_comm] at c
 omega
theorem top_lt(d:U=(4294967296*top+w0)*P+lu)(f:VV=(4294967296*v1+v2)*P+lv)(a:v2<4294967296)(b:lv<P)(c:U<4294967296*VV): top<4294967296*(v1+1):=by
 refine Nat.lt_of_not_le fun h=>?_
 have h1:VV+1≤4294967296*(v1+1)*P:=by
  have:=Nat.mul_le_mul_right P (show 4294967296*v1+v2+1≤4294967296*(v1+1) by omega)
  rw[Nat.add_mul (4294967296*v1+v2)] at this
  omega
 have e:=Nat.mul_le_mul_right P h
 have g:4294967296*(top*P)≤U:=by rw[d,Nat.add_mul, ←Nat.mul_assoc,Nat.add_assoc];exact Nat.le_add_right _ _
 omega
theorem YM(f:U=(4294967296*top+w0)*P+lu)(b:VV=(4294967296*v1+v2)*P+lv)(d:lu<P)(e:dg*v1+rest=top)(c:U<4294967296*VV)(hc:4294967296≤dg∨4294967296*rest+w0<dg*v2): U<dg*VV:=by
 rcases hc with hc|hc
 ·have:=Nat.mul_le_mul_right VV hc
  omega
 ·have h1:4294967296*top+w0+1≤dg*(4294967296*v1+v2):=by
   rw[Nat.mul_add,Nat.mul_left_comm, ←e];omega
  have a:=Nat.mul_le_mul_right P h1
  rw[Nat.add_mul (4294967296*top+w0),Nat.mul_assoc] at a
  have g:dg*((4294967296*v1+v2)*P)≤dg*VV:=Nat.mul_le_mul_left _ (by rw[b];exact Nat.le_add_right _ _)
  omega
theorem NS(j:U=(4294967296*top+w0)*P+lu)(f:VV=(4294967296*v1+v2)*P+lv)(g:0<v1)(e:v2<4294967296)(b:lv<P)(l:dg*v1+rest=top)(c:dg≤4294967296)(hc:4294967296≤rest∨dg*v2≤4294967296*rest+w0): dg*VV≤U+VV:=by
 rcases hc with hc|hc
 ·have h1:VV≤(4294967296*(v1+1))*P:=by
   have:=Nat.mul_le_mul_right P (show 4294967296*v1+v2+1≤4294967296*(v1+1) by omega)
   rw[Nat.add_mul (4294967296*v1+v2)] at this
   omega
  have a:dg*(4294967296*(v1+1))≤4294967296*top:=by
   rw[Nat.mul_left_comm,Nat.mul_add]
   omega
  have k:=Nat.mul_le_mul_left dg h1
  have d:=Nat.mul_le_mul_right P a
  rw[Nat.mul_assoc] at d
  have h:4294967296*top*P≤U:=by rw[j,Nat.add_mul,Nat.add_assoc];exact Nat.le_add_right _ _
  omega
 ·have h1:dg*(4294967296*v1+v2)≤4294967296*top+w0:=by
   rw[Nat.mul_add,Nat.mul_left_comm, ←l];omega
  have a:=Nat.mul_le_mul_right P h1
  rw[Nat.mul_assoc] at a
  have k:dg*lv≤4294967296*P:=Nat.mul_le_mul c (Nat.le_of_lt b)
  have d:4294967296*P≤VV:=by
   have i:4294967296≤4294967296*v1+v2:=by omega
   have:=Nat.mul_le_mul_right P i
   omega
  have h:dg*VV=dg*((4294967296*v1+v2)*P)+dg*lv:=by rw[f,Nat.mul_add]
  omega
theorem P3(a:dg*v1+rest=top)(ht:top<4294967296*(v1+1))(hr:4294967296≤rest): dg<4294967296:=by
 refine Nat.lt_of_not_le fun h=>?_
 have:=Nat.mul_le_mul_right v1 h
 omega
theorem fw(a:dg*v1+rest=top)(ht:top<4294967296*(v1+1))(hv:2147483648≤v1): dg≤4294967297:=by
 refine Nat.le_of_not_lt fun h=>?_
 have:=Nat.mul_le_mul_right v1 (show 4294967298≤dg by omega)
 omega
end
theorem eE{U a R M dg l:Nat}(hR:R+dg*a=U+M*l)(b:R<M)(hl:l≤1)(h1:U<(dg+1)*a)(c:¬0<l): R+dg*a=U∧R<a:=by
 have:l=0:=by omega
 subst this
 rw[Nat.add_mul] at h1
 omega
theorem TU{U a R M dg l b c2:Nat}(hR:R+dg*a=U+M*l)(hl:l≤1)(c:R<M)(hd:dg*a≤U+a)(g:a≤M)(j:0<l)(i:b+M*c2=R+a)(e:b<M):
  0<dg∧b+(dg-1)*a=U∧b<a:=by
 have:l=1:=by omega
 subst this
 have f:0<dg:=by
  rcases Nat.eq_zero_or_pos dg with h|h
  ·subst h;omega
  ·exact h
 obtain ⟨d,rfl⟩:∃d,dg=d+1:=⟨dg-1,by omega⟩
 rw[Nat.add_mul] at hR hd
 have hc:c2=1:=by
  rcases Nat.lt_trichotomy c2 1 with h|h|h
  ·have:c2=0:=by omega
   subst this
   omega
  ·exact h
  ·have:=Nat.mul_le_mul_left M (show 2≤c2 by omega)
   omega
 subst hc
 refine⟨by omega,?_,?_⟩
 ·rw[Nat.add_sub_cancel];omega
 ·omega
theorem XC{p W b c Q:List Nat}{a dg T:Nat}(e:b.length=W.length)(d:p.length<Q.length)(hT:Zv (p++W++c)+4294967296 ^ (p.length+1)*(a*Zv (Q.drop (p.length+1)))=T)(hd:Zv b+dg*a=Zv W):
  Zv (p++b++c)+4294967296 ^ p.length*(a*Zv ((Q.set p.length dg).drop p.length))=T:=by
 rw[Fw d,Zv, ←hT]
 simp only[List.append_assoc,Jw,e,Nat.pow_succ, ←hd]
 generalize 4294967296 ^ p.length=B
 generalize 4294967296 ^ W.length*Zv c=H
 generalize Zv (Q.drop (p.length+1))=q
 simp only[Nat.mul_add]
 rw[Nat.mul_comm a dg,Nat.mul_left_comm a 4294967296, ←Nat.mul_assoc B 4294967296]
 omega
theorem XD{p d e:List Nat}{c:Nat}(b:Zv e=0)(a:Zv d<c): Zv ((p++d++e).drop p.length)<c:=by
 rw[List.append_assoc,List.drop_left,Jw,b];simpa using a
theorem PD{Z:List Nat}{k n b:Nat}(a:Wd Z)(hl:k+n+1≤Z.length)(i:b<4294967296 ^ n)(g:Zv (Z.drop (k+1))<b):
  ∃p W c,Z=p++W++c∧p.length=k∧W.length=n+1∧Wd p∧Wd W∧Wd c∧Zv c=0∧Zv W<4294967296*b:=by
 have e:Z=Z.take k++(Z.drop k).take (n+1)++Z.drop (k+n+1):=by
  rw[List.append_assoc]
  conv=>lhs;rw[←List.take_append_drop k Z]
  congr 1
  conv=>lhs;rw[←List.take_append_drop (n+1) (Z.drop k)]
  rw[List.drop_drop];rfl
 have h1:Zv (Z.drop (k+1))=Zv ((Z.drop (k+1)).take n)+4294967296 ^ n*Zv (Z.drop (k+n+1)):=by
  conv=>lhs;rw[←List.take_append_drop n (Z.drop (k+1))]
  rw[Jw,List.drop_drop,show(k+1)+n=k+n+1 by omega]
  rw[show((Z.drop (k+1)).take n).length=n by simp;omega]
 have d:Zv (Z.drop (k+n+1))=0:=by
  rcases Nat.eq_zero_or_pos (Zv (Z.drop (k+n+1))) with h|h
  ·exact h
  ·have:=Nat.mul_le_mul_left (4294967296 ^ n) h
   omega
 have f:Zv (Z.drop k)=Zv ((Z.drop k).take (n+1)):=by
  conv=>lhs;rw[←List.take_append_drop (n+1) (Z.drop k)]
  rw[Jw,List.drop_drop,show k+(n+1)=k+n+1 by omega,d];simp
 refine⟨_,_,_,e,by simp;omega,by simp;omega,a.take _,(a.drop _).take _,a.drop _,d,?_⟩
 rw[←f,BO Z k]
 have:=a.getD k
 omega
theorem TJ{X:List Nat}{Y s M n:Nat}{Z:List Nat}(c:Wd X)(i:Zv Z=Zv X*2 ^ s)(a:4294967296 ^ (n-1)≤Y)(j:0<n)(h:M+n=X.length+1): Zv (Z.drop M)<Y*2 ^ s:=by
 have h1:=Vg c
 have b:Zv Z=Zv (Z.take M)+4294967296 ^ (Z.take M).length*Zv (Z.drop M):=by
  conv=>lhs;rw[←List.take_append_drop M Z,Jw]
 rcases Nat.lt_or_ge Z.length M with f|f
 ·rw[List.drop_eq_nil_of_le (by omega)]
  exact Nat.mul_pos (Nat.lt_of_lt_of_le (Nat.pow_pos (by omega)) a) (Nat.pow_pos (by omega))
 ·rw[show(Z.take M).length=M by simp;omega] at b
  have g:Zv X*2 ^ s<4294967296 ^ X.length*2 ^ s:=Nat.mul_lt_mul_of_pos_right h1 (Nat.pow_pos (by omega))
  rw[show X.length=M+(n-1) by omega,Nat.pow_add,Nat.mul_assoc] at g
  have e:4294967296 ^ M*Zv (Z.drop M)<4294967296 ^ M*(4294967296 ^ (n-1)*2 ^ s):=by omega
  have d:=(Nat.mul_lt_mul_left (Nat.pow_pos (n:=M) (show 0<4294967296 by omega))).1 e
  exact Nat.lt_of_lt_of_le d (Nat.mul_le_mul_right _ a)
theorem XE{last s:Nat}(a:last≠0)(h1:last<4294967296)(hs:s=32-CM last): s<32∧2147483648≤last*2 ^ s∧last*2 ^ s<4294967296:=by
 have b:=XU last
 have c:=PI a
 have e:0<CM last:=by unfold CM;rw[if_neg a];omega
 have d:CM last≤32:=GG (k:=32) h1
 subst hs
 refine⟨by omega,?_,?_⟩
 ·have:=Nat.mul_le_mul_right (2 ^ (32-CM last)) c
  rw[←Nat.pow_add,show CM last-1+(32-CM last)=31 by omega] at this
  omega
 ·have:=Nat.mul_lt_mul_of_pos_right b (Nat.pow_pos (n:=32-CM last) (show 0<2 by omega))
  rw[←Nat.pow_add,show CM last+(32-CM last)=32 by omega] at this
  omega
theorem Nx{Y a:List Nat}{e s:Nat}(m:Wd Y)(hl:Y.length=e+2)(hs:s<32)(h1:2147483648≤Y.getD (e+1) 0*2 ^ s)(f:Y.getD (e+1) 0*2 ^ s<4294967296)(b:Wd a)(hv:Zv a=Zv Y*2 ^ s): Zv (a.take Y.length)=Zv Y*2 ^ s∧2147483648≤(a.take Y.length).getD (e+1) 0:=by
 have c:0<2 ^ s:=Nat.pow_pos (by omega)
 have n:Y.take (e+2)=Y:=by rw[←hl,List.take_length]
 have l:=Jc Y (e+1) (by omega)
 rw[n] at l
 have w:=Vf m (e+1)
 generalize hx:Y.getD (e+1) 0=x at *
 have p:(x+1)*2 ^ s≤4294967296:=by
  rw[FT s hs] at f ⊢
  exact Nat.mul_le_mul_right _ ((Nat.mul_lt_mul_right c).1 f)
 have o:Zv Y<4294967296 ^ (e+1)*(x+1):=by rw[Nat.mul_add];omega
 have i:Zv a<4294967296 ^ (e+2):=by
  rw[hv]
  have h:Zv Y*2 ^ s<4294967296 ^ (e+1)*(x+1)*2 ^ s:=Nat.mul_lt_mul_of_pos_right o c
  have a2:=Nat.mul_le_mul_left (4294967296 ^ (e+1)) p
  rw[Nat.mul_assoc] at h
  rw[Nat.pow_succ]
  omega
 have g:Zv (a.take (e+2))=Zv a:=MS (fun j hj _=>CU i hj)
 refine⟨by rw[hl,g,hv],?_⟩
 rw[hl]
 have k:(a.take (e+2)).getD (e+1) 0=a.getD (e+1) 0:=by simp[List.getD]
 rw[k]
 refine Nat.le_of_not_lt fun q=>?_
 have v:Zv a<4294967296 ^ (e+1)*(a.getD (e+1) 0+1):=by
  rcases Nat.lt_or_ge (e+1) a.length with d|d
  ·have c1:=Jc a (e+1) d
   have c2:=Vf b (e+1)
   rw[←g,c1,Nat.mul_add];omega
  ·rw[De d]
   have c2:=Vf b (e+1)
   rw[List.take_of_length_le d] at c2
   simpa using c2
 have t:=Nat.mul_le_mul_left (4294967296 ^ (e+1)) (show a.getD (e+1) 0+1≤2147483648 by omega)
 have r:=Nat.mul_le_mul_left (4294967296 ^ (e+1)) h1
 have u:4294967296 ^ (e+1)*(x*2 ^ s)≤Zv a:=by rw[hv, ←Nat.mul_assoc];exact Nat.mul_le_mul_right _ (by omega)
 omega
theorem or_hi(a b:Nat)(c:b<4294967296): (a*4294967296) ||| b=4294967296*a+b:=by
 have h:=Nat.shiftLeft_add_eq_or_of_lt (show b<2 ^ 32 from c) a
 rw[Nat.shiftLeft_eq] at h
 rw[show a*4294967296=a*2 ^ 32 from rfl, ←h,Nat.mul_comm]
theorem TK{z v q x y s:Nat}(hT:z+v*q=x*2 ^ s)(hz:z<v)(hv:v=y*2 ^ s): q=x/y∧z/2 ^ s=x%y:=by
 have a:0<2 ^ s:=Nat.pow_pos (by omega)
 have h1:x*2 ^ s/v=q:=by
  rw[←hT,Nat.add_comm,Nat.mul_add_div (by omega),Nat.div_eq_of_lt hz,Nat.add_zero]
 have b:x*2 ^ s%v=z:=by
  rw[←hT,Nat.add_comm,Nat.mul_add_mod,Nat.mod_eq_of_lt hz]
 subst hv
 rw[Nat.mul_div_mul_right _ _ a] at h1
 rw[Nat.mul_mod_mul_right] at b
 exact⟨h1.symm,by rw[←b,Nat.mul_div_cancel _ a]⟩
theorem Ua{dg v1 rest top:Nat}(h:dg*v1+rest=top)(a:0<dg): (dg-1)*v1+(rest+v1)=top:=by
 obtain ⟨d,rfl⟩:∃d,dg=d+1:=⟨dg-1,by omega⟩
 rw[Nat.add_sub_cancel]
 rw[Nat.add_mul] at h
 omega
end Go.Fx
namespace Go.Fx
open Go
def cellsOf{α:Type}(enc:α→Value)(l:List α): List Value:=l.flatMap fun x=>(enc x).cells.toList
variable{α:Type}{enc:α→Value}{k:Nat}
theorem cellsOf_length(hk:∀x,(enc x).cells.size=k)(l:List α): (cellsOf enc l).length=l.length*k:=by
 induction l with
 | nil=>simp[cellsOf]
 | cons x l a =>
  simp only[cellsOf,List.flatMap_cons,List.length_append,Array.length_toList,hk,List.length_cons] at a ⊢
  rw[a,Nat.add_mul,Nat.one_mul,Nat.add_comm]
theorem Qs(l m:List α): cellsOf enc (l++m)=cellsOf enc l++cellsOf enc m:=by simp[cellsOf]
theorem Bc(x:α): cellsOf enc [x]=(enc x).cells.toList:=by simp[cellsOf]
theorem Ad(hk:∀x,(enc x).cells.size=k): ∀(l:List α) (j i:Nat) (h:j<l.length),i<k→(cellsOf enc l)[j*k+i]?=(enc l[j]).cells.toList[i]?
 | [],_,_,h,_=>by simp at h
 | x::l,0,i,_,a=>by
  simp only[cellsOf,List.flatMap_cons,Nat.zero_mul,Nat.zero_add,List.getElem_cons_zero]
  rw[List.getElem?_append_left (by simp[hk];exact a)]
 | x::l,j+1,i,h,a=>by
  have b:=Ad hk l j i (by simpa using h) a
  simp only[cellsOf,List.flatMap_cons,List.getElem_cons_succ] at b ⊢
  rw[List.getElem?_append_right (by simp[hk,Nat.add_mul];omega)]
  simp only[Array.length_toList,hk]
  rw[←b]
  congr 1
  rw[Nat.add_mul];omega
theorem B7(n:Nat)(x:α): cellsOf enc (List.replicate n x)=Cj n (enc x).cells.toList:=by
 simp[cellsOf,Cj,List.flatMap_replicate]
theorem Zg(hk:∀x,(enc x).cells.size=k)(hv:∀x,enc x=.agg (enc x).cells)(l:List α)(d:α)(j:Nat)(h:j<l.length): Zk true k (cellsOf enc l).toArray (j*k)=some (enc (l.getD j d)):=by
 have hle:j*k+k≤(cellsOf enc l).length:=by
  rw[cellsOf_length hk]
  have:=Nat.mul_le_mul_right k (show j+1≤l.length from h)
  rw[Nat.add_mul] at this;omega
 have he:(cellsOf enc l).toArray.extract (j*k) (j*k+k)=(enc (l.getD j d)).cells:=by
  have c:l.getD j d=l[j]:=by simp[List.getD,h]
  rw[c]
  apply Array.ext
  ·simp[hk];omega
  ·intro i h1 a
   have b:i<k:=by rw[hk] at a;exact a
   have:=Ad hk l j i h b
   rw[List.getElem?_eq_getElem (by omega)] at this
   simp at this ⊢
   rw[Array.getElem?_eq_getElem a] at this
   exact Option.some.inj this
 simp only[Zk,if_true]
 rw[if_pos (by simpa using hle),he, ←hv]
theorem Gr:∀(ys p q r:List Value),q.length=ys.length→Zl (p++q++r).toArray p.length ys=(p++ys++r).toArray
 | [],p,q,r,h=>by
  have:q=[]:=List.eq_nil_of_length_eq_zero (by simpa using h)
  subst this;simp[Zl]
 | y::ys,p,[],r,h=>by simp at h
 | y::ys,p,x::q,r,h=>by
  have e:(p++(x::q)++r).toArray.setIfInBounds p.length y=((p++[y])++q++r).toArray:=by
   apply Array.ext'
   simp[List.set_append]
  rw[Zl,e]
  have:=Gr ys (p++[y]) q r (by simpa using h)
  simp only[List.length_append,List.length_cons,List.length_nil,Nat.zero_add] at this
  rw[this]
  simp
theorem VZ(hk:∀x,(enc x).cells.size=k)(l:List α)(j:Nat)(h:j<l.length)(y:α): Zl (cellsOf enc l).toArray (j*k) (enc y).cells.toList=(cellsOf enc (l.set j y)).toArray:=by
 have b:l=l.take j++[l[j]]++l.drop (j+1):=by simp
 have a:l.set j y=l.take j++[y]++l.drop (j+1):=by
  rw[List.set_eq_take_append_cons_drop,if_pos h];simp
 have hl:(cellsOf enc (l.take j)).length=j*k:=by rw[cellsOf_length hk];simp[Nat.min_eq_left (Nat.le_of_lt h)]
 rw[a]
 conv=>lhs;rw[b]
 rw[Qs,Qs,Qs,Qs,Bc,Bc, ←hl]
 exact Gr _ _ _ _ (by simp[hk])
end Go.Fx
namespace Go.Fx
open Go Go.RowKit
variable{P:Program}{n:Nat}{S:Nat→Prop}{w0:World}{L:List (Nat×Value)}{σ:List (Nat×Obj)}{Φ:List Zp}{a:Act}{w:World}{K:Act→World→Prop}{Q:Exit→Act→World→Prop}
theorem EU(h:St n S w0 L σ Φ a w)(r:∀k,S k→k<w0.heap.size){d:Option Nat}{x:Operand}{f:FuncId}{fs cs:List Value}{args:Array Operand}{j:Array TypeId}{ty:TypeId}{pos:String}{l:Array Edge}{g:Option (Nat×Bool)}{vs:List Value}{b:List (Nat×Obj)}{Φ':List Zp}{post:Value→List (Nat×Obj)→List Zp→Prop}(hx:Fx.ev L x=some (.func (.func f) fs.toArray cs.toArray))(ha:args.toList.map (Fx.ev L)=vs.map some)(hc:∀args w,(callFunc f args).run P w=.ok (.enter f args) w)(hf:FR P f (fs++vs++cs) b Φ' post)(i:σ.Perm b)(c:∀R∈Φ',R∈Φ)(hd:∀d',d=some d'→d'<n)(k:∀v σ' Ψ p w',post v σ' Ψ→St n S w0 ((match d with|some d'=>[(d',v)]|none=>[])++L) σ' Ψ p w'→K p w'): (Oper.mk d (.call ⟨.value x,args,j⟩) ty pos l g).wp P a w K Q:=by
 simp only[Oper.wp,EK h hx ha hc,Oper.upon]
 have q:St n S w0 L b Φ' a w:=(h.perm i.symm).factsSub c
 refine(hf S w0 w r q.mem).mono ?_
 rintro e w' ⟨v,σ',Ψ,rfl,o,hm⟩
 have m:St n S w0 L σ' Ψ a w':=⟨h.size,h.defers,h.val,hm.ext,hm.own,hm.new,hm.nd,hm.facts⟩
 cases d with
 | none=>exact k v σ' Ψ _ _ o m
 | some d=>exact k v σ' Ψ _ _ o (m.put (hd d rfl) v)
theorem St.same(h:St n S w0 L σ Φ a w){L':List (Nat×Value)}{σ':List (Nat×Obj)}{Φ':List Zp}(h1:L=L')(b:σ=σ')(c:Φ=Φ'): St n S w0 L' σ' Φ' a w:=by
 subst h1;subst b;subst c;exact h
section
variable{α:Type}{enc:α→Value}{k:Nat}
theorem CB(hk:∀x,(enc x).cells.size=k)(l:List α)(j:Nat)(h:j<l.length): 0+j*k+k≤(cellsOf enc l).toArray.size:=by
 rw[List.size_toArray,cellsOf_length hk]
 have:=Nat.mul_le_mul_right k (show j+1≤l.length from h)
 rw[Nat.add_mul] at this;omega
theorem cells_lt(a:0<k)(hk:∀x,(enc x).cells.size=k)(l:List α)(j:Nat)(h:j<l.length): j*k<(cellsOf enc l).length:=by
 rw[cellsOf_length hk]
 have:=Nat.mul_le_mul_right k (show j+1≤l.length from h)
 rw[Nat.add_mul] at this;omega
theorem Ck(hk:∀x,(enc x).cells.size=k)(hv:∀x,enc x=.agg (enc x).cells)(l:List α)(d:α)(j:Nat)(h:j<l.length): Zk true k (cellsOf enc l).toArray (0+j*k)=some (enc (l.getD j d)):=by
 rw[Nat.zero_add];exact Zg hk hv l d j h
theorem AU(hk:∀x,(enc x).cells.size=k)(l:List α)(j:Nat)(h:j<l.length)(y:α): Zl (cellsOf enc l).toArray (0+j*k) (enc y).cells.toList=(cellsOf enc (l.set j y)).toArray:=by
 rw[Nat.zero_add];exact VZ hk l j h y
end
end Go.Fx
namespace Go.Fx
open Go Go.RowKit
variable{ty:TypeId}{pos:String}{aft:Array Edge}
variable{P:Program}{n:Nat}{S:Nat→Prop}{w0:World}{L:List (Nat×Value)}{σ σr:List (Nat×Obj)}{Φ:List Zp}{a:Act}{w:World}{K:Act→World→Prop}{Q:Exit→Act→World→Prop}
def GrowO(k:Nat)(E:TypeId)(v:Value)(m:Nat)(xs:List Value)(o:List (Nat×Obj)): Prop :=
 xs.length=m*k∧((v=.slice none 0 0∧m=0∧o=[]) ∨
  (∃b c R,v=.slice (some ⟨b,0,none⟩) m c∧(xs++R).length=c*k∧m≤c∧o=[(b,Obj.cells (xs++R).toArray E (0,0))]))
theorem GrowO.nil(k:Nat)(E:TypeId): GrowO k E (.slice none 0 0) 0 [] []:=⟨by simp,.inl ⟨rfl,rfl,rfl⟩⟩
theorem GrowO.grow{k:Nat}{E:TypeId}{v:Value}{m:Nat}{xs:List Value}{o:List (Nat×Obj)}(h:GrowO k E v m xs o)(σr:List (Nat×Obj)): Grow k E v m xs (o++σr) σr:=by
 obtain ⟨h1,⟨rfl,rfl,rfl⟩|⟨b,c,R,rfl,a,d,rfl⟩⟩:=h
 ·exact⟨h1,.inl ⟨rfl,rfl,rfl⟩⟩
 ·exact⟨h1,.inr ⟨b,c,R,rfl,a,d,rfl⟩⟩
theorem Grow.growO{k:Nat}{E:TypeId}{v:Value}{m:Nat}{xs:List Value}{σ σr:List (Nat×Obj)}(h:Grow k E v m xs σ σr): ∃o,σ=o++σr∧GrowO k E v m xs o:=by
 obtain ⟨h1,⟨rfl,rfl,rfl⟩|⟨b,c,R,rfl,a,d,rfl⟩⟩:=h
 ·exact⟨[],rfl,h1,.inl ⟨rfl,rfl,rfl⟩⟩
 ·exact⟨[_],rfl,h1,.inr ⟨b,c,R,rfl,a,d,rfl⟩⟩
theorem GrowO.flat{k:Nat}{E:TypeId}{v:Value}{m:Nat}{xs:List Value}{o:List (Nat×Obj)}(h:GrowO k E v m xs o): Fx.flat v=true:=by
 obtain ⟨_,⟨rfl,_,_⟩|⟨_,_,_,rfl,_⟩⟩:=h<;>rfl
theorem GrowO.is{k:Nat}{E:TypeId}{v:Value}{m:Nat}{xs:List Value}{o:List (Nat×Obj)}(h:GrowO k E v m xs o): ∃ad c,v=.slice ad m c:=by
 obtain ⟨_,⟨rfl,rfl,_⟩|⟨b,c,_,rfl,_⟩⟩:=h
 ·exact⟨_,_,rfl⟩
 ·exact⟨_,_,rfl⟩
theorem En{t:Nat}{ys:List Value}{r:TypeId}(h:St n S w0 L σ Φ a w){d:Nat}{x y:Operand}{T u E B:TypeId}{g:Option (Nat×Bool)}{i:TypeInfo}{z:Value}{k m m2 c2:Nat}{v:Value}{xs:List Value}{o:List (Nat×Obj)}(hx:Fx.ev L x=some v)(A:Fx.ev L y=some (.slice (some ⟨t,0,none⟩) m2 c2))(c:σ.Perm ((t,.cells ys.toArray r (0,0))::(o++σr)))(F:GrowO k E v m xs o)(hT:∀w,(underlying T).run P w=.ok (.slice E) w)(s:∀w,(underlying u).run P w=.ok (.slice B) w)(C:∀w,(typeInfo E).run P w=.ok i w)(hk:∀w,(Go.sizeOf E).run P w=.ok k w)(hz:∀w,(zeroValue E).run P w=.ok z w)(q:z.cells.size=k)(f:k≠0)(D:0<i.bytes)(l:ys.length=m2*k)(p:ys.all flat=true)(e:0<m2)(b:i.bytes*(2*(m+m2)+192)≤281474976710656)(hd:d<n)(kk:∀v' o' w',GrowO k E v' (m+m2) (xs++ys) o'→St n S w0 ((d,v')::L) (o'++σr) Φ (a.put (some d) v') w'→K (a.put (some d) v') w'):
  (Oper.mk (some d) (.call ⟨.builtin .append,#[x,y],#[T,u]⟩) ty pos aft g).wp P a w K Q :=
 KC (h.perm c.symm) hx A (F.grow σr) hT s C hk hz q f D l p e b hd fun v' σ' w' G hs=>by
  obtain ⟨o',rfl,j⟩:=G.growO
  exact kk v' o' w' j hs
theorem KB{s:Nat}{ys:List Value}{q:TypeId}(h:St n S w0 L σ Φ a w){d:Nat}{x y:Operand}{T t E B:TypeId}{g:Option (Nat×Bool)}{i:TypeInfo}{z:Value}{k m m2 c2:Nat}{v:Value}{xs:List Value}{o:List (Nat×Obj)}(hx:Fx.ev L x=some v)(A:Fx.ev L y=some (.slice (some ⟨s,0,none⟩) m2 c2))(c:σ.Perm ((s,.cells ys.toArray q (0,0))::(o++σr)))(F:GrowO k E v m xs o)(hT:∀w,(underlying T).run P w=.ok (.slice E) w)(r:∀w,(underlying t).run P w=.ok (.slice B) w)(C:∀w,(typeInfo E).run P w=.ok i w)(hk:∀w,(Go.sizeOf E).run P w=.ok k w)(hz:∀w,(zeroValue E).run P w=.ok z w)(p:z.cells.size=k)(f:k≠0)(D:0<i.bytes)(l:ys.length=m2*k)(j:ys.all flat=true)(e:0<m2)(b:i.bytes*(2*(m+m2)+192)≤281474976710656)(hd:d<n)(kk:∀v' o' u w',GrowO k E v' (m+m2) (xs++ys) o'→St n S w0 ((d,v')::L) (o'++σr) Φ u w'→K u w'):
  (Oper.mk (some d) (.call ⟨.builtin .append,#[x,y],#[T,t]⟩) ty pos aft g).wp P a w K Q :=
 En h hx A c F hT r C hk hz p f D l j e b hd fun v' o' w' G hs=>kk v' o' _ w' G hs
theorem Hl{ops:Array Oper}{H:List Nat}{Kf:Exit→Act→World→Prop}{j u:Nat}{ys:List Value}{p:TypeId}{d:Nat}{x y:Operand}{T A E D ty:TypeId}{pos:String}{e:Array Edge}{i:TypeInfo}{z:Value}{k m m2 c2:Nat}{v:Value}{xs:List Value}{o:List (Nat×Obj)}(ho:ops[j]?=some ⟨some d,.call ⟨.builtin .append,#[x,y],#[T,A]⟩,ty,pos,e,none⟩)(hq:Vm ops j H=true)(hx:Fx.ev L x=some v)(B:Fx.ev L y=some (.slice (some ⟨u,0,none⟩) m2 c2))(q:σ.Perm ((u,.cells ys.toArray p (0,0))::(o++σr)))(F:GrowO k E v m xs o)(hT:∀w,(underlying T).run P w=.ok (.slice E) w)(t:∀w,(underlying A).run P w=.ok (.slice D) w)(G:∀w,(typeInfo E).run P w=.ok i w)(hk:∀w,(Go.sizeOf E).run P w=.ok k w)(hz:∀w,(zeroValue E).run P w=.ok z w)(s:z.cells.size=k)(l:k≠0)(I:0<i.bytes)(h:ys.length=m2*k)(g:ys.all flat=true)(r:0<m2)(b:i.bytes*(2*(m+m2)+192)≤281474976710656)(hd:d<n)(kk:∀v' o',GrowO k E v' (m+m2) (xs++ys) o'→Head P ops n S w0 Kf H ((d,v')::L) (o'++σr) Φ): Head P ops n S w0 Kf (j::H) L σ Φ :=
 .inr (.inl ⟨_,ho,hq,fun a w c f=>Jo ho (En (σr:=σr++c) f hx B
  ((List.perm_append_comm.trans (q.append_right c)).trans (by rw[List.cons_append,List.append_assoc])) F hT t G hk hz s l I h g r b hd fun v' o' w' C hs =>
   ⟨⟨fun he=>by simp[early] at he,fun _ _ _ _ he=>by cases he⟩,v',o'++σr,Φ,rfl,hs.perm (by rw[←List.append_assoc o' σr c];exact List.perm_append_comm),kk v' o' C⟩)⟩)
theorem AZ{ops:Array Oper}{H:List Nat}{Kf:Exit→Act→World→Prop}{i d:Nat}{x:Operand}{f:FuncId}{fs cs:List Value}{args:Array Operand}{g:Array TypeId}{ty:TypeId}{pos:String}{h:Array Edge}{vs:List Value}{Φ':List Zp}{post:Value→List Zp→Prop}(ho:ops[i]?=some ⟨some d,.call ⟨.value x,args,g⟩,ty,pos,h,none⟩)(hq:Vm ops i H=true)(hx:Fx.ev L x=some (.func (.func f) fs.toArray cs.toArray))(ha:args.toList.map (Fx.ev L)=vs.map some)(hc:∀args w,(callFunc f args).run P w=.ok (.enter f args) w)(hf:Ctr P f (fs++vs++cs) Φ' post)(c:∀R∈Φ',R∈Φ)(hd:d<n)(k:∀v Ψ,post v Ψ→Head P ops n S w0 Kf H ((d,v)::L) σ (Ψ++Φ)): Head P ops n S w0 Kf (i::H) L σ Φ :=
 .inr (.inl ⟨_,ho,hq,fun a w o b=>Jo ho (by
  obtain ⟨X,h1,p,l,m⟩:=b.facts
  simp only[Oper.wp,EK b hx ha hc,Oper.upon]
  refine(hf X w l (fun R hR=>m R (c R hR))).mono ?_
  rintro e w' ⟨v,Ψ,rfl,r,j,q⟩
  exact⟨⟨fun _=>j,fun _ _ _ _ he=>by cases he⟩,v,σ,Ψ++Φ,rfl,(b.called j h1 p l m q).put hd v,k v Ψ r⟩)⟩)
theorem Kt{ops:Array Oper}{H:List Nat}{Kf:Exit→Act→World→Prop}{i d:Nat}{x:Operand}{f:FuncId}{fs cs:List Value}{args:Array Operand}{c:Array TypeId}{ty:TypeId}{pos:String}{b:Array Edge}{vs:List Value}{v:Value}{Φ':List Zp}(ho:ops[i]?=some ⟨some d,.call ⟨.value x,args,c⟩,ty,pos,b,none⟩)(hq:Vm ops i H=true)(hx:Fx.ev L x=some (.func (.func f) fs.toArray cs.toArray))(ha:args.toList.map (Fx.ev L)=vs.map some)(hc:∀args w,(callFunc f args).run P w=.ok (.enter f args) w)(hf:Xo P f (fs++vs++cs) Φ' v)(a:∀R∈Φ',R∈Φ)(hd:d<n)(k:Head P ops n S w0 Kf H ((d,v)::L) σ Φ): Head P ops n S w0 Kf (i::H) L σ Φ :=
 AZ ho hq hx ha hc hf a hd fun u Ψ e=>by obtain ⟨rfl,rfl⟩:=e;exact k
theorem Xm(h:St n S w0 L σ Φ a w){d:Nat}{x:Operand}{f:FuncId}{fs cs:List Value}{args:Array Operand}{e:Array TypeId}{g:Option (Nat×Bool)}{vs:List Value}{v:Value}{Φ':List Zp}(hx:Fx.ev L x=some (.func (.func f) fs.toArray cs.toArray))(ha:args.toList.map (Fx.ev L)=vs.map some)(hc:∀args w,(callFunc f args).run P w=.ok (.enter f args) w)(hf:Xo P f (fs++vs++cs) Φ' v)(b:∀R∈Φ',R∈Φ)(hd:d<n)(k:∀c w',St n S w0 ((d,v)::L) σ Φ c w'→K c w'): (Oper.mk (some d) (.call ⟨.value x,args,e⟩) ty pos aft g).wp P a w K Q :=
 Rq h hx ha hc hf b hd fun u Ψ c w' j i=>by obtain ⟨rfl,rfl⟩:=j;exact k c w' i
section
variable{ops:Array Oper}{Kf:Exit→Act→World→Prop}{i f:Nat}{listed:Array Bool}
theorem Ya{H:List Nat}(b:((i::H).all fun j => !isF ops j)=true)(k:∀a w,St n S w0 L σ Φ a w→wpX P ops Kf (H.length+1) (AN ops (i::H)) a w): Head P ops n S w0 Kf (i::H) L σ Φ :=
 .inr (.inr (.inr (.inr (.inl ⟨b,k⟩))))
theorem QP(R:List Nat)(hR:Region.ready .any ops listed=R)(b:R≠[])(k:∀i∈R,wpOp P ops (QN Kf) i (fun c w'=>(∀o,ops[i]?=some o→Left ops o a w c w')∧wpX P ops Kf f (listed.setIfInBounds i true) c w') a w): wpX P ops Kf (f+1) listed a w :=
 ⟨fun d=>absurd (hR ▸ d) b,hR ▸ k⟩
theorem OF(hR:Region.ready .any ops listed=[])(b:Kf .normal a w): wpX P ops Kf 0 listed a w:=⟨hR,b⟩
abbrev BJ(P:Program)(ops:Array Oper)(Kf:Exit→Act→World→Prop)(f:Nat)(listed:Array Bool)(i:Nat)(a:Act)(w:World): Prop :=
 wpOp P ops (QN Kf) i (fun a' w'=>(∀o,ops[i]?=some o→Left ops o a w a' w')∧wpX P ops Kf f (listed.setIfInBounds i true) a' w') a w
theorem Pure1.noAlloc{L:List (Nat×Value)}{op:Op}{v:Value}(a:Pure1 P L op v): ∀T,op ≠ .alloc T:=by
 intro T he
 subst he
 generalize ho:Op.alloc T=op at a
 induction a<;>first|(cases ho;done)|(rename_i b;exact b ho)|contradiction
theorem Jt(h:St n S w0 L σ Φ a w){d:Nat}{op:Op}{v:Value}(ho:ops[i]?=some ⟨some d,op,ty,pos,aft,none⟩)(c:Pure1 P L op v)(hd:d<n)(k:∀e,St n S w0 ((d,v)::L) σ Φ e w→wpX P ops Kf f (listed.setIfInBounds i true) e w): BJ P ops Kf f listed i a w :=
 Jo ho (Qf (c.run h w) ⟨fun o b=>by rw[ho] at b;cases b;exact Left.same (ops:=ops) (o:=⟨some d,op,ty,pos,aft,none⟩) ho (notF ho (c.noAlloc)),k _ (h.put hd v)⟩)
theorem Jj(h:St n S w0 L σ Φ a w){d:Nat}{T:TypeId}{len:Nat}{parts:Array (Nat×Operand)}{cap:Nat}{cs:Array Value}{E:TypeId}(ho:ops[i]?=some ⟨some d,.buildSlice T len parts,ty,pos,aft,none⟩)(vs:List (Nat×Value))(j:parts.toList.map (fun p=>(p.1,Fx.ev L p.2))=vs.map (fun p=>(p.1,some p.2)))(hr:∀w,(Instr.buildSlice T len vs.toArray).run P w=.ok (.slice (some ⟨w.heap.size,0,none⟩) len cap) (w.alloc (.cells cs E (0,0))))(hd:d<n)(k:∀b g w',St n S w0 ((d,.slice (some ⟨b,0,none⟩) len cap)::L) ((b,.cells cs E (0,0))::σ) Φ g w'→wpX P ops Kf f (listed.setIfInBounds i true) g w'): BJ P ops Kf f listed i a w :=
 Jo ho (Qf (v:=.slice (some ⟨w.heap.size,0,none⟩) len cap) (w':=w.alloc (.cells cs E (0,0))) (by simp only[execOp,BV h j,Sem.run_bind,hr];rfl)
  ⟨fun o c=>by rw[ho] at c;cases c;exact⟨fun _=>(Below.refl _ _).alloc (Nat.le_refl _) _,(fun _ _ _ _ he=>by cases he),fun t ht=>Bq (o:=⟨some d,.buildSlice T len parts,ty,pos,aft,none⟩) ho ht,fun t e hf=>noF ho (fun _ he=>by cases he) e hf⟩,k _ _ _ ((h.alloc _).put hd _)⟩)
theorem Eh(h:St n S w0 L σ Φ a w){x y:Operand}{T:TypeId}{b off:Nat}{cs:Array Value}{q:TypeId}{s:Nat}{v:Value}{σ':List (Nat×Obj)}(ho:ops[i]?=some ⟨none,.store T x y,ty,pos,aft,none⟩){cs':Array Value}(hx:Fx.ev L x=some (.pointer (some ⟨b,off,none⟩)))(u:Fx.ev L y=some v)(e:Zl cs off v.cells.toList=cs')(hu:Upd σ b (.cells cs q (0,0)) (.cells cs' q (0,0)) σ')(hs:∀w,(Go.sizeOf T).run P w=.ok s w)(l:v.cells.size=s)(hle:off+s≤cs.size)(m:v.cells.toList.all flat=true)(k:∀r w',St n S w0 L σ' Φ r w'→wpX P ops Kf f (listed.setIfInBounds i true) r w'): BJ P ops Kf f listed i a w :=
 Jo ho (by
  subst e
  obtain ⟨w',hr,z,g⟩:=h.store hu hs l hle m
  exact Gy (w':=w') (by simp only[execOp,h.ev hx,h.ev u,Sem.run_bind,hr];rfl) ⟨fun o d=>by
   rw[ho] at d;cases d
   exact⟨(fun h=>by simp[early] at h),(fun C t B p he _ A c hc=>g c (by
    simp only[Op.store.injEq] at he
    obtain ⟨_,rfl,_⟩:=he
    have:=h.val t _ hx
    rw[A] at this
    cases this
    exact hc)),(fun _ _ _=>rfl),fun t j hf=>noF ho (fun _ he=>by cases he) j hf⟩,k _ _ z⟩)
end
theorem Bh{α:Type}{e x:α}{l r:List α}(p:l.Perm (x::r)): (e::l).Perm (x::e::r):=(p.cons e).trans (List.Perm.swap x e r)
theorem WA{α:Type}{e:α}{o l r:List α}(p:l.Perm (o++r)): (e::l).Perm (o++(e::r)):=(p.cons e).trans List.perm_middle.symm
theorem dR{α:Type}{x:α}{o l r:List α}(p:l.Perm (x::r)): (o++l).Perm (x::(o++r)):=(p.append_left o).trans List.perm_middle
theorem pm_aa{α:Type}{o o' l r:List α}(p:l.Perm (o'++r)): (o++l).Perm (o'++(o++r)):=(p.append_left o).trans (by
 rw[←List.append_assoc, ←List.append_assoc];exact List.perm_append_comm.append_right r)
theorem St.shareO'{k:Nat}{E:TypeId}{ad:Option Addr}{m f c:Nat}{xs:List Value}{o:List (Nat×Obj)}(h:St n S w0 L (o++σ) Φ a w)(l:∀k,S k→k<w0.heap.size)(i:GrowO k E (.slice ad m c) f xs o):
  St n S w0 L σ (Row ad xs::Φ) a w:=by
 obtain ⟨h1,⟨e,rfl,rfl⟩|⟨b,c,R,g,e,p,rfl⟩⟩:=i
 ·cases e
  exact h.derive (fun X _ d=>absurd (List.eq_nil_of_length_eq_zero (by simpa using h1)) d)
 ·cases g
  exact St.share (off:=0) h l (fun j hj=>by simp[List.getElem?_append_left hj])
end Go.Fx
namespace Go.Fx
open Go Go.RowKit
attribute [local irreducible] Oper.wp Code.wp wpList Fx.Head wpOp
variable{P:Program}{n:Nat}{S:Nat→Prop}{w0 w:World}{L:List (Nat×Value)}{σ σr:List (Nat×Obj)}{Φ:List Zp}{a:Act}{K:Act→World→Prop}{Q:Exit→Act→World→Prop}
theorem OV{T E k:Nat}(hT:∀w,(underlying T).run P w=.ok (.slice E) w)(hk:∀w,(Go.sizeOf E).run P w=.ok k w)(b off n c a:Nat)(h1:a≤n)(w:World):
  (Instr.sliceAt T (.slice (some ⟨b,off,none⟩) n c) (some (.int .i64 (a:Int))) none none).run P w=.ok (.slice (some ⟨b,if c=a then off else off+a*k,none⟩) (n-a) (c-a)) w:=by
 have e:∀j:Nat,asIntOf (.int .i64 (j:Int))=(pure (.i64,(j:Int)):Sem _):=fun _=>rfl
 have hl:(0:Int)≤(a:Int)∧(a:Int)≤(n:Int):=by omega
 unfold Instr.sliceAt
 simp only[Sem.run_bind,hT,Result.andThen,Instr.slice,Instr.sliceBounds,Instr.sliceBound,e,Sem.run_pure,hl,and_self,if_true,hk,Int.toNat_natCast,Option.map_some,AS]
 split<;>rfl
theorem CW{ad:Option Addr}{ys:List Value}{k m c:Nat}{X:Nat→Prop}(hR:(Row ad ys).p X w)(e:ys.length=m*k): ∀w':World,w'.heap=w.heap→(Builtin.firstCells k m (.slice ad m c)).run P w'=.ok ys.toArray w':=by
 intro w' d
 by_cases he:ys=[]
 ·subst he
  cases ad with
  | none=>simp[Builtin.firstCells]
  | some a=>simp at e;simp only[Builtin.firstCells];rw[←e];simp[loadCells,loadCellsFrom]
 ·obtain ⟨b,off,cs,T,fr,rfl,l,hc,hj⟩:=hR he
  have f:0<ys.length:=List.length_pos_iff.2 he
  have g:off+ys.length≤cs.size:=by
   have h1:=hj (ys.length-1) (by omega)
   rw[List.getElem?_eq_getElem (by omega)] at h1
   obtain ⟨j,_⟩:=Array.getElem?_eq_some_iff.1 h1
   omega
  have:=Xc (P:=P) w' b off (by rw[d];exact hc) (m*k) 0 #[] (by omega)
  simp only[Builtin.firstCells,loadCells]
  rw[this]
  congr 1
  apply Array.ext'
  apply List.ext_getElem?
  intro i
  simp only[Array.empty_append,Array.toList_extract,List.extract_eq_take_drop,List.getElem?_take,List.getElem?_drop,Array.getElem?_toList]
  by_cases h:i<ys.length
  ·rw[if_pos (by omega),show off+0+i=off+i by omega,hj i h]
  ·rw[if_neg (by omega),List.getElem?_eq_none (by omega)]
theorem Ay{T u E x:TypeId}{i:TypeInfo}{z:Value}{k n m c c2:Nat}{ad ad2:Option Addr}{xs ys:List Value}(hT:∀w,(underlying T).run P w=.ok (.slice E) w)(s:∀w,(underlying u).run P w=.ok (.slice x) w)(v:∀w,(typeInfo E).run P w=.ok i w)(hk:∀w,(Go.sizeOf E).run P w=.ok k w)(hz:∀w,(zeroValue E).run P w=.ok z w)(o:z.cells.size=k)(q:k≠0)(y:0<i.bytes)(t:i.bytes*(2*(n+m)+192)≤281474976710656)(hc:c<n+m)(hold:∀w':World,w'.heap=w.heap→(Builtin.firstCells k n (.slice ad n c)).run P w'=.ok xs.toArray w')(r:∀w':World,w'.heap=w.heap→(Builtin.firstCells k m (.slice ad2 m c2)).run P w'=.ok ys.toArray w')(ty:TypeId):
  ∃(j:Nat) (w':World),n+m≤j∧w'.heap=w.heap∧w'.os=w.os∧w'.tape=w.tape∧w'.output=w.output ∧
   (Builtin.append_ #[T,u] ty #[.slice ad n c,.slice ad2 m c2]).run P w =
    .ok (.slice (some ⟨w'.heap.size,0,none⟩) (n+m) j) (w'.alloc (.cells (xs++ys++Cj (j-(n+m)) z.cells.toList).toArray E (0,0))):=by
 have p:z.cells≠#[]:=fun e=>by rw[e] at o;exact q o.symm
 have f:=nextslicecap_le (n+m) c hc
 have d:¬(Builtin.nextslicecap (n+m) c*i.bytes>2 ^ 48):=by
  have:Builtin.nextslicecap (n+m) c*i.bytes≤(2*(n+m)+192)*i.bytes:=Nat.mul_le_mul_right _ f
  rw[Nat.mul_comm (2*(n+m)+192)] at this
  have e:(2:Nat) ^ 48=281474976710656:=by decide
  omega
 refine⟨(Question.appendCap (n+m) c E).cut (w.tape w.drawn (.appendCap (n+m) c E)),{ w with drawn:=w.drawn+1 },by simp[Question.cut],rfl,rfl,rfl,rfl,?_⟩
 have b:=hold { w with drawn:=w.drawn+1 } rfl
 have g:=r { w with drawn:=w.drawn+1 } rfl
 generalize hq:(Question.appendCap (n+m) c E).cut (w.tape w.drawn (.appendCap (n+m) c E))=j at *
 have a:(choose (.appendCap (n+m) c E)).run P w=.ok j { w with drawn:=w.drawn+1 }:=by
  simp[choose,Sem.run,Question.forced,hq]
 unfold Builtin.append_
 simp only[List.getElem?_toArray,List.getElem?_cons_zero,List.getElem?_cons_succ,Sem.run_bind,hT,s,hk,Result.andThen,Sem.run_pure,Bool.false_eq_true,if_false,Builtin.lenOf,Nat.not_le.2 hc,v,d,false_or]
 have l:¬(((n+m:Nat):Int)>IntKind.i64.max∧i.bytes=0):=fun h=>by have:=h.2;omega
 simp only[l,if_false,Sem.run_bind,Sem.run_pure,Result.andThen,v,d,a,run_askRoom,b,Bool.not_false,if_true,g,hz,CQ p]
 simp[newRow,newObj,Sem.run]
 rfl
theorem Az{T h E p:TypeId}{k n m c c2 a:Nat}{ad2:Option Addr}{cs:Array Value}{ys:List Value}{g:TypeId}(hT:∀w,(underlying T).run P w=.ok (.slice E) w)(f:∀w,(underlying h).run P w=.ok (.slice p) w)(hk:∀w,(Go.sizeOf E).run P w=.ok k w)(hc:n+m≤c)(h1:w.heap[a]?=some (.cells cs g (0,0)))(o:c*k≤cs.size)(hlen:ys.length=m*k)(d:∀w':World,w'.heap=w.heap→(Builtin.firstCells k m (.slice ad2 m c2)).run P w'=.ok ys.toArray w')(e:ys.all flat=true)(ty:TypeId):
  ∃w',(Builtin.append_ #[T,h] ty #[.slice (some ⟨a,0,none⟩) n c,.slice ad2 m c2]).run P w=.ok (.slice (some ⟨a,0,none⟩) (n+m) c) w' ∧
   w'.os=w.os∧w'.tape=w.tape∧w'.output=w.output∧w'.heap.size=w.heap.size ∧
   w'.heap[a]?=some (.cells (Zl cs (n*k) ys) g (0,0)) ∧ ∀j,j≠a→w'.heap[j]?=w.heap[j]?:=by
 have hle:n*k+m*k≤cs.size:=by
  have:(n+m)*k≤c*k:=Nat.mul_le_mul_right k hc
  rw[Nat.add_mul] at this;omega
 obtain ⟨w',hr,q,s,i,t,l,r⟩:=Xg (P:=P) a (n*k) (T:=g) ys 0 w cs h1 (by omega) (fun u hu=>Df (List.all_eq_true.1 e u hu))
 refine⟨w',?_,q,s,i,t,by simpa using l,r⟩
 have b:=d w rfl
 unfold Builtin.append_
 simp only[List.getElem?_toArray,List.getElem?_cons_zero,List.getElem?_cons_succ,Sem.run_bind,hT,f,hk,Result.andThen,Sem.run_pure,Bool.false_eq_true,if_false,Builtin.lenOf,hc,if_true,Bool.not_false,b,AS,Nat.zero_add]
 simp only[hr]
theorem Er{T E N k:Nat}(hT:∀w,(underlying T).run P w=.ok (.array N E) w)(hk:∀w,(Go.sizeOf E).run P w=.ok k w)(b off j:Nat)(h:j<N)(w:World):
  (Instr.indexAt T (.pointer (some ⟨b,off,none⟩)) (.int .i64 (j:Int))).run P w=.ok (.pointer (some ⟨b,off+j*k,none⟩)) w:=by
 have e:asIntOf (.int .i64 (j:Int))=(pure (.i64,(j:Int)):Sem _):=rfl
 have hj:(0:Int)≤(j:Int)∧(j:Int)<(N:Int):=by omega
 unfold Instr.indexAt
 simp only[e,Sem.run_bind,Sem.run_pure,Result.andThen,hT,Instr.sureAddr,hj,and_self,if_true,hk,Int.toNat_natCast,AS]
theorem Wo{α:Type}{enc:α→Value}{l:List α}{R:List Value}{j:Nat}(d:α)(h:j<l.length): Zk false 1 (l.map enc++R).toArray j=some (enc (l.getD j d)):=by
 have h1:(l.map enc++R)[j]?=(l.map enc)[j]?:=List.getElem?_append_left (by simpa using h)
 simp[Zk,h1,h]
end Go.Fx
namespace Go.Fx
open Go
def dg:Nat→List Nat
 | 0=>[]
 | n+1=>((n+1)%10000)::dg ((n+1)/10000)
termination_by n=>n
decreasing_by omega
def valD:List Nat→Nat
 | []=>0
 | x::l=>x+10000*valD l
theorem lZ:dg 0=[]:=by unfold dg;rfl
theorem dg_pos{n:Nat}(h:n≠0): dg n=(n%10000)::dg (n/10000):=by
 cases n with
 | zero=>exact absurd rfl h
 | succ n=>rw[dg]
theorem dg_lt:∀(n:Nat),∀x∈dg n,x<10000:=by
 intro n
 induction n using Nat.strongRecOn with
 | _ n a =>
  by_cases h:n=0
  ·subst h;rw[lZ];intro x hx;cases hx
  ·rw[dg_pos h]
   intro x hx
   rcases List.mem_cons.1 hx with rfl|hx
   ·omega
   ·exact a _ (by omega) x hx
def Dd(l:List Nat): Prop := ∀x∈l,x<10000
theorem Dd.dg(n:Nat): Dd (dg n):=dg_lt n
theorem Dd.take{l:List Nat}(h:Dd l)(m:Nat): Dd (l.take m):=fun x hx=>h x (List.mem_of_mem_take hx)
theorem Dd.getD{l:List Nat}(h:Dd l)(j:Nat): l.getD j 0<10000:=by
 rw[List.getD_eq_getElem?_getD]
 by_cases hj:j<l.length
 ·rw[List.getElem?_eq_getElem hj];exact h _ (List.getElem_mem hj)
 ·rw[List.getElem?_eq_none (by omega)];simp
theorem Dd.set{l:List Nat}(h:Dd l)(i v:Nat)(hv:v<10000): Dd (l.set i v):=by
 intro x hx
 rcases List.mem_or_eq_of_mem_set hx with a|a
 ·exact h x a
 ·omega
theorem Dd.drop{l:List Nat}(h:Dd l)(m:Nat): Dd (l.drop m):=fun x hx=>h x (List.mem_of_mem_drop hx)
theorem Dd.append{l m:List Nat}(h:Dd l)(a:Dd m): Dd (l++m):=fun x hx=>by
 rcases List.mem_append.1 hx with h1|h1
 ·exact h x h1
 ·exact a x h1
theorem Dd.zeros(k:Nat): Dd (List.replicate k 0):=fun x hx=>by have:=List.eq_of_mem_replicate hx;omega
theorem GrowO.le{k:Nat}{E:TypeId}{ad:Option Addr}{m a c:Nat}{xs:List Value}{o:List (Nat×Obj)}(h:GrowO k E (.slice ad m c) a xs o): m≤c:=by
 obtain ⟨_,⟨h,_,_⟩|⟨_,_,_,h,_,b,_⟩⟩:=h
 ·cases h;exact Nat.le_refl _
 ·cases h;exact b
theorem Dd.snoc{l:List Nat}(h:Dd l){d:Nat}(hd:d<10000): Dd (l++[d]):=h.append (fun x hx=>by simp at hx;omega)
end Go.Fx
namespace Go.Fx
open Go Go.RowKit
variable{ty:TypeId}{pos:String}{aft:Array Edge}
abbrev Wk(n:Nat)(S:Nat→Prop)(w0:World)(L:List (Nat×Value))(σ:List (Nat×Obj))(Φ:List Zp)(G:Act→World→Prop): Prop := ∀a w,St n S w0 L σ Φ a w→G a w
theorem mm{α:Type _}{x:α}{l:List α}(h:x∈l:=by first|assumption|(repeat(first|exact List.Mem.head _|apply List.Mem.tail|apply List.mem_append_right))): x∈l:=h
theorem mr{α:Type _}{x:α}{l:List α}(h:x∈l:=by repeat(first|exact List.Mem.head _|apply List.Mem.tail|apply List.mem_append_right)): x∈l:=h
theorem uu{σ σ':List (Nat×Obj)}{b:Nat}{o o':Obj}(h:Upd σ b o o' σ':=by repeat(first|exact Upd.head|apply Upd.tail|apply Upd.append)): Upd σ b o o' σ':=h
theorem sl{α:Type _}{l m:List α}(h:List.Sublist l m:=by repeat(first|exact List.Sublist.refl _|apply List.Sublist.cons_cons|apply List.Sublist.cons)): List.Sublist l m:=h
theorem nb{a b:Nat}(h:Nat.ble a b=true:=by rfl): a≤b:=Nat.le_of_ble_eq_true h
theorem sA{L M:List (Nat×Value)}(h:QO L M:=by repeat(first|exact trivial|refine⟨rfl,?_⟩)): ∀t v,look M t=some v→look L t=some v:=subL h
section
variable{P:Program}{n:Nat}{S:Nat→Prop}{w0:World}{L:List (Nat×Value)}{σ:List (Nat×Obj)}{Φ:List Zp}{a:Act}{w:World}{Q:Exit→Act→World→Prop}{ops:Array Oper}{rest:List Oper}
theorem MP(h:St n S w0 L σ Φ a w){d:Option Tmp}{op:Op}{j:Nat}{want:Bool}{t:Nat}(hj:(ops[j]?).bind (·.dst)=some t)(ht:look L t=some undef): Region.wanted (Oper.mk d op ty pos aft (some (j,want))) (yielded ops a.tmps)=false:=by
 have hv:=h.val t _ ht
 simp only[Region.wanted,yielded,hj,Option.bind_some]
 cases b:a.tmps[t]? with
 | none=>rfl
 | some v =>
  have:v=undef:=by simpa [b] using hv
  subst this;rfl
theorem UV{d:Nat}{op:Op}{j:Nat}{want:Bool}(t:Nat)(h:St n S w0 L σ Φ a w)(hj:(ops[j]?).bind (·.dst)=some t)(ht:look L t=some undef)(hd:d<n)(k:∀b,St n S w0 ((d,undef)::L) σ Φ b w→wpList P ops Q rest b w): wpList P ops Q (Oper.mk (some d) op ty pos aft (some (j,want))::rest) a w:=by
 unfold wpList
 rw[if_neg (by rw[MP h hj ht];simp)]
 exact k _ (h.put hd _)
theorem gC(h:St n S w0 L σ Φ a w){c:Code}(k:Wk n S w0 L σ Φ (c.wp P Q)): c.wp P Q a w:=k a w h
theorem gL(h:St n S w0 L σ Φ a w){l:List Oper}(k:Wk n S w0 L σ Φ (wpList P ops Q l)): wpList P ops Q l a w:=k a w h
theorem zs{c1 c2:Code}(k:Wk n S w0 L σ Φ (c1.wp P (Exit.then (c2.wp P Q) Q))): Wk n S w0 L σ Φ ((Code.seq c1 c2).wp P Q):=fun a w h=>wp_seq (k a w h)
theorem zr{id:Nat}{l:List Oper}(k:Wk n S w0 L σ Φ (wpList P l.toArray Q l)): Wk n S w0 L σ Φ ((Code.region id l.toArray false).wp P Q):=fun a w h=>wp_region_lit (k a w h)
theorem zn(k:Wk n S w0 L σ Φ (fun a w=>Q .normal a w)): Wk n S w0 L σ Φ (wpList P ops Q []):=fun a w h=>wpList_nil (k a w h)
theorem zk(k:Wk n S w0 L σ Φ (fun a w=>Q .normal a w)): Wk n S w0 L σ Φ (Code.skip.wp P Q):=fun a w h=>wp_skip (k a w h)
theorem zl{l:Nat}(k:Wk n S w0 L σ Φ (fun a w=>Q .normal a w)): Wk n S w0 L σ Φ ((Code.label l).wp P Q):=fun a w h=>wp_label (k a w h)
theorem ze{id:Nat}(k:Wk n S w0 L σ Φ (fun a w=>Q (.exit id) a w)): Wk n S w0 L σ Φ ((Code.exit id).wp P Q):=fun a w h=>wp_exit (k a w h)
theorem zt(k:Wk n S w0 L σ Φ (fun a w=>Q .ret a w)): Wk n S w0 L σ Φ (Code.ret.wp P Q):=fun a w h=>wp_ret (k a w h)
theorem zb{id:Nat}{c:Code}(k:Wk n S w0 L σ Φ (c.wp P (Exit.inBlock id Q))): Wk n S w0 L σ Φ ((Code.block id c).wp P Q):=fun a w h=>wp_block (k a w h)
theorem zc{c:Code}(k:Wk n S w0 L σ Φ (c.wp P (Exit.noGoto Q))): Wk n S w0 L σ Φ ((Code.scope c).wp P Q):=fun a w h=>wp_scope_straight (k a w h)
theorem zp{d:Nat}{op:Op}{v:Value}(b:Pure1 P L op v)(k:Wk n S w0 ((d,v)::L) σ Φ (wpList P ops Q rest))(hd:d<n:=by decide):
  Wk n S w0 L σ Φ (wpList P ops Q (Oper.mk (some d) op ty pos aft none::rest)):=fun _ w h=>Zc (WI h b hd fun c a=>k c w a)
theorem zq{d j:Nat}{want:Bool}(t:Nat){op:Op}{v:Value}(hj:(ops[j]?).bind (·.dst)=some t)(ht:look L t=some (.bool want))(b:Pure1 P L op v)(k:Wk n S w0 ((d,v)::L) σ Φ (wpList P ops Q rest))(hd:d<n:=by decide):
  Wk n S w0 L σ Φ (wpList P ops Q (Oper.mk (some d) op ty pos aft (some (j,want))::rest)):=fun _ w h=>Zq t h hj ht (WI h b hd fun c a=>k c w a)
theorem zo{d j:Nat}{want c:Bool}(t:Nat){op:Op}(hj:(ops[j]?).bind (·.dst)=some t)(ht:look L t=some (.bool c))(a:(c == want)=false)(k:Wk n S w0 ((d,undef)::L) σ Φ (wpList P ops Q rest))(hd:d<n:=by decide):
  Wk n S w0 L σ Φ (wpList P ops Q (Oper.mk (some d) op ty pos aft (some (j,want))::rest)):=fun _ w h=>ci t h hj ht a hd fun e b=>k e w b
theorem zu{d j:Nat}{want:Bool}(t:Nat){op:Op}(hj:(ops[j]?).bind (·.dst)=some t)(ht:look L t=some undef)(k:Wk n S w0 ((d,undef)::L) σ Φ (wpList P ops Q rest))(hd:d<n:=by decide):
  Wk n S w0 L σ Φ (wpList P ops Q (Oper.mk (some d) op ty pos aft (some (j,want))::rest)):=fun _ w h=>UV t h hj ht hd fun b a=>k b w a
theorem zm{d:Nat}{x:Operand}{v:Value}(hx:Fx.ev L x=some v)(k:Wk n S w0 ((d,v)::L) σ Φ (wpList P ops Q rest))(hd:d<n:=by decide):
  Wk n S w0 L σ Φ (wpList P ops Q (Oper.mk (some d) (.move x) ty pos aft none::rest)):=zp (.move hx) k hd
theorem za{d:Nat}{x:Operand}{v:Value}(hx:Fx.ev L x=some v)(k:Wk n S w0 ((d,v)::L) σ Φ (wpList P ops Q rest))(hd:d<n:=by decide):
  Wk n S w0 L σ Φ (wpList P ops Q (Oper.mk (some d) (.assign x) ty pos aft none::rest)):=zp (.assign hx) k hd
theorem zv{d:Nat}{f:FuncId}{args:Array Operand}{a:Array TypeId}(vs:List Value){v:Value}(ha:args.toList.map (Fx.ev L)=vs.map some)(hc:∀args w,(callFunc f args).run P w=.ok (.enter f args) w)(hf:Ji P f vs v)(k:Wk n S w0 ((d,v)::L) σ Φ (wpList P ops Q rest))(hd:d<n:=by decide):
  Wk n S w0 L σ Φ (wpList P ops Q (Oper.mk (some d) (.call ⟨.value (.func f),args,a⟩) ty pos aft none::rest)):=fun _ w h=>Zc (Qw h ha hc hf hd fun c w' b=>k c w' b)
theorem zw{d:Nat}{f:FuncId}{args:Array Operand}{b:Array TypeId}(vs:List Value){v:Value}{Φ':List Zp}(ha:args.toList.map (Fx.ev L)=vs.map some)(hc:∀args w,(callFunc f args).run P w=.ok (.enter f args) w)(hf:Xo P f vs Φ' v)(k:Wk n S w0 ((d,v)::L) σ Φ (wpList P ops Q rest))(a:∀R∈Φ',R∈Φ:=by simp)(hd:d<n:=by decide):
  Wk n S w0 L σ Φ (wpList P ops Q (Oper.mk (some d) (.call ⟨.value (.func f),args,b⟩) ty pos aft none::rest)):=fun _ w h=>Zc (Jl h ha hc hf a hd fun e w' c=>k e w' c)
theorem zf{d:Nat}{f:FuncId}{args:Array Operand}{b:Array TypeId}(vs:List Value){Φ':List Zp}{post:Value→List Zp→Prop}(ha:args.toList.map (Fx.ev L)=vs.map some)(hc:∀args w,(callFunc f args).run P w=.ok (.enter f args) w)(hf:Ctr P f vs Φ' post)(k:∀v Ψ,post v Ψ→Wk n S w0 ((d,v)::L) σ (Ψ++Φ) (wpList P ops Q rest))(a:∀R∈Φ',R∈Φ:=by simp)(hd:d<n:=by decide):
  Wk n S w0 L σ Φ (wpList P ops Q (Oper.mk (some d) (.call ⟨.value (.func f),args,b⟩) ty pos aft none::rest)):=fun _ w h=>Zc (Pk h ha hc hf a hd fun v Ψ g w' e c=>k v Ψ e g w' c)
theorem zx{d:Nat}{T:TypeId}{x:Operand}{u:Value}(hx:Fx.ev L x=some u)(k:∀b,Wk n S w0 ((d,.pointer (some ⟨b,0,none⟩))::L) ((b,.cells u.cells T (0,0))::σ) Φ (wpList P ops Q rest))(hd:d<n:=by decide):
  Wk n S w0 L σ Φ (wpList P ops Q (Oper.mk (some d) (.box T x) ty pos aft none::rest)):=fun _ w h=>Zc (op_box h hx hd fun b c w' a=>k b c w' a)
theorem zz{d:Nat}{T:TypeId}{u:Value}(hz:∀w,(zeroValue T).run P w=.ok u w)(k:∀b,Wk n S w0 ((d,.pointer (some ⟨b,0,none⟩))::L) ((b,.cells u.cells T (0,0))::σ) Φ (wpList P ops Q rest))(hd:d<n:=by decide):
  Wk n S w0 L σ Φ (wpList P ops Q (Oper.mk (some d) (.alloc T) ty pos aft none::rest)):=fun _ w h=>Zc (dX h hz hd fun b c w' a=>k b c w' a)
theorem zB{d:Nat}{T:TypeId}{len:Nat}{parts:Array (Nat×Operand)}{cap:Nat}{cs:Array Value}{E:TypeId}(vs:List (Nat×Value))(c:parts.toList.map (fun p=>(p.1,Fx.ev L p.2))=vs.map (fun p=>(p.1,some p.2)))(hr:∀w,(Instr.buildSlice T len vs.toArray).run P w=.ok (.slice (some ⟨w.heap.size,0,none⟩) len cap) (w.alloc (.cells cs E (0,0))))(k:∀b,Wk n S w0 ((d,.slice (some ⟨b,0,none⟩) len cap)::L) ((b,.cells cs E (0,0))::σ) Φ (wpList P ops Q rest))(hd:d<n:=by decide):
  Wk n S w0 L σ Φ (wpList P ops Q (Oper.mk (some d) (.buildSlice T len parts) ty pos aft none::rest)):=fun _ w h=>Zc (Lo h vs c hr hd fun b e w' a=>k b e w' a)
theorem zd{d:Nat}{T:TypeId}{x:Operand}{b off:Nat}{cs:Array Value}{c:TypeId}{fr:Nat×Nat}{agg:Bool}{s:Nat}{v:Value}(hx:Fx.ev L x=some (.pointer (some ⟨b,off,none⟩)))(hm:(b,Obj.cells cs c fr)∈σ)(hagg:∀w,(isAgg T).run P w=.ok agg w)(hs:∀w,(Go.sizeOf T).run P w=.ok s w)(hv:Zk agg s cs off=some v)(k:Wk n S w0 ((d,v)::L) σ Φ (wpList P ops Q rest))(hd:d<n:=by decide):
  Wk n S w0 L σ Φ (wpList P ops Q (Oper.mk (some d) (.load T x) ty pos aft none::rest)):=fun _ w h=>Zc (Pj h hx hm hagg hs hv hd fun e a=>k e w a)
theorem zD{d:Nat}{T:TypeId}{x:Operand}{b off j:Nat}{M:List Value}{agg:Bool}{s:Nat}{v:Value}(hx:Fx.ev L x=some (.pointer (some ⟨b,off+j,none⟩)))(hm:Row (some ⟨b,off,none⟩) M∈Φ)(a:j<M.length)(hagg:∀w,(isAgg T).run P w=.ok agg w)(hs:∀w,(Go.sizeOf T).run P w=.ok s w)(hv:Zk agg s M.toArray j=some v)(c:agg=true∨s=1)(k:Wk n S w0 ((d,v)::L) σ Φ (wpList P ops Q rest))(hd:d<n:=by decide):
  Wk n S w0 L σ Φ (wpList P ops Q (Oper.mk (some d) (.load T x) ty pos aft none::rest)):=fun _ w h=>Zc (Xp h hx hm a hagg hs hv c hd fun e f=>k e w f)
theorem zt'{T:TypeId}{x y:Operand}{b off:Nat}{cs:Array Value}{e:TypeId}{s:Nat}{v:Value}{σ':List (Nat×Obj)}{cs':Array Value}(hx:Fx.ev L x=some (.pointer (some ⟨b,off,none⟩)))(f:Fx.ev L y=some v)(a:Zl cs off v.cells.toList=cs')(hu:Upd σ b (.cells cs e (0,0)) (.cells cs' e (0,0)) σ')(hs:∀w,(Go.sizeOf T).run P w=.ok s w)(c:v.cells.size=s)(hle:off+s≤cs.size)(d:v.cells.toList.all flat=true)(k:Wk n S w0 L σ' Φ (wpList P ops Q rest)): Wk n S w0 L σ Φ (wpList P ops Q (Oper.mk none (.store T x y) ty pos aft none::rest)):=fun _ w h=>Zc (dS h hx f a hu hs c hle d fun i w' g=>k i w' g)
theorem yD{id:Nat}{l:List Oper}(hm:P.follows .mixedOrders=true)(H:List Nat)(b:Am P l.toArray n H L)(hH:Head P l.toArray n S w0 Q H L σ Φ)(a:(Region.noSelect l.toArray && Mk l.toArray && kL l.toArray && decide (H.Nodup) && decide (H.length=l.length) && H.all (fun i=>decide (i<l.length)))=true:=by kernel_rfl):
  Wk n S w0 L σ Φ ((Code.region id l.toArray true).wp P Q):=fun _ _ h=>cj hm h H L (fun _ _ c=>c) a b hH
variable{H:List Nat}{Kf:Exit→Act→World→Prop}{i d:Nat}
theorem yp{op:Op}{v:Value}(ho:ops[i]?=some ⟨some d,op,ty,pos,aft,none⟩)(a:Pure1 P L op v)(k:Head P ops n S w0 Kf H ((d,v)::L) σ Φ)(hq:Yp ops false i H=true:=by kernel_rfl)(hd:d<n:=by decide):
  Head P ops n S w0 Kf (i::H) L σ Φ:=NN ho hq a hd k
theorem yq{j t:Nat}{want:Bool}{op:Op}{v:Value}(ho:ops[i]?=some ⟨some d,op,ty,pos,aft,some (j,want)⟩)(hj:(ops[j]?).bind (·.dst)=some t)(ht:look L t=some (.bool want))(a:Pure1 P L op v)(k:Head P ops n S w0 Kf H ((d,v)::L) σ Φ)(hq:Yp ops false i H=true:=by kernel_rfl)(hd:d<n:=by decide):
  Head P ops n S w0 Kf (i::H) L σ Φ:=TW ho hj ht hq a hd k
theorem yo(t:Nat){j:Nat}{want c:Bool}{op:Op}{ty:TypeId}{pos:String}{b:Array Edge}(ho:ops[i]?=some ⟨some d,op,ty,pos,b,some (j,want)⟩)(hj:(ops[j]?).bind (·.dst)=some t)(ht:look L t=some (.bool c))(a:(c == want)=false)(k:Head P ops n S w0 Kf H ((d,undef)::L) σ Φ)(hq:Yp ops false i H=true:=by kernel_rfl)(hd:d<n:=by decide):
  Head P ops n S w0 Kf (i::H) L σ Φ:=YI ho hj ht a hq hd k
theorem yv{f:FuncId}{args:Array Operand}{a:Array TypeId}(vs:List Value){v:Value}(ho:ops[i]?=some ⟨some d,.call ⟨.value (.func f),args,a⟩,ty,pos,aft,none⟩)(ha:args.toList.map (Fx.ev L)=vs.map some)(hc:∀args w,(callFunc f args).run P w=.ok (.enter f args) w)(hf:Ji P f vs v)(k:Head P ops n S w0 Kf H ((d,v)::L) σ Φ)(hq:Vm ops i H=true:=by kernel_rfl)(hd:d<n:=by decide): Head P ops n S w0 Kf (i::H) L σ Φ:=T8 ho hq ha hc hf hd k
theorem yw{f:FuncId}{args:Array Operand}{b:Array TypeId}(vs:List Value){v:Value}{Φ':List Zp}(ho:ops[i]?=some ⟨some d,.call ⟨.value (.func f),args,b⟩,ty,pos,aft,none⟩)(ha:args.toList.map (Fx.ev L)=vs.map some)(hc:∀args w,(callFunc f args).run P w=.ok (.enter f args) w)(hf:Xo P f vs Φ' v)(k:Head P ops n S w0 Kf H ((d,v)::L) σ Φ)(a:∀R∈Φ',R∈Φ:=by simp)(hq:Vm ops i H=true:=by kernel_rfl)(hd:d<n:=by decide): Head P ops n S w0 Kf (i::H) L σ Φ:=Yy ho hq ha hc hf a hd k
theorem yf{f:FuncId}{args:Array Operand}{b:Array TypeId}(vs:List Value){Φ':List Zp}{post:Value→List Zp→Prop}(ho:ops[i]?=some ⟨some d,.call ⟨.value (.func f),args,b⟩,ty,pos,aft,none⟩)(ha:args.toList.map (Fx.ev L)=vs.map some)(hc:∀args w,(callFunc f args).run P w=.ok (.enter f args) w)(hf:Ctr P f vs Φ' post)(k:∀v Ψ,post v Ψ→Head P ops n S w0 Kf H ((d,v)::L) σ (Ψ++Φ))(a:∀R∈Φ',R∈Φ:=by simp)(hq:Vm ops i H=true:=by kernel_rfl)(hd:d<n:=by decide): Head P ops n S w0 Kf (i::H) L σ Φ:=Zs ho hq ha hc hf a hd k
theorem yz{T:TypeId}{z:Value}{ty:TypeId}{pos:String}{a:Array Edge}(ho:ops[i]?=some ⟨some d,.alloc T,ty,pos,a,none⟩)(hz:∀w,(zeroValue T).run P w=.ok z w)(k:∀b,Head P ops n S w0 Kf H ((d,.pointer (some ⟨b,0,none⟩))::L) ((b,.cells z.cells T (0,0))::σ) Φ)(hq:LP ops i H=true:=by kernel_rfl)(hd:d<n:=by decide): Head P ops n S w0 Kf (i::H) L σ Φ:=TZ ho hq hz hd k
theorem yB{T:TypeId}{len:Nat}{parts:Array (Nat×Operand)}{cap:Nat}{cs:Array Value}{E:TypeId}(ho:ops[i]?=some ⟨some d,.buildSlice T len parts,ty,pos,aft,none⟩)(vs:List (Nat×Value))(a:parts.toList.map (fun p=>(p.1,Fx.ev L p.2))=vs.map (fun p=>(p.1,some p.2)))(hr:∀w,(Instr.buildSlice T len vs.toArray).run P w=.ok (.slice (some ⟨w.heap.size,0,none⟩) len cap) (w.alloc (.cells cs E (0,0))))(k:∀b,Head P ops n S w0 Kf H ((d,.slice (some ⟨b,0,none⟩) len cap)::L) ((b,.cells cs E (0,0))::σ) Φ)(hq:Vm ops i H=true:=by kernel_rfl)(hd:d<n:=by decide): Head P ops n S w0 Kf (i::H) L σ Φ:=Iv ho hq vs a hr hd k
theorem yd{x:Operand}{T:TypeId}{b off:Nat}{cs:Array Value}{a:TypeId}{fr:Nat×Nat}{agg:Bool}{s:Nat}{v:Value}(ho:ops[i]?=some ⟨some d,.load T x,ty,pos,aft,none⟩)(hx:Fx.ev L x=some (.pointer (some ⟨b,off,none⟩)))(hm:(b,Obj.cells cs a fr)∈σ)(hagg:∀w,(isAgg T).run P w=.ok agg w)(hs:∀w,(Go.sizeOf T).run P w=.ok s w)(hv:Zk agg s cs off=some v)(k:Head P ops n S w0 Kf H ((d,v)::L) σ Φ)(hq:Yp ops true i H=true:=by kernel_rfl)(hd:d<n:=by decide): Head P ops n S w0 Kf (i::H) L σ Φ:=YJ ho hq hx hm hagg hs hv hd k
theorem yg{j t:Nat}{want:Bool}{x:Operand}{T:TypeId}{b off:Nat}{cs:Array Value}{a:TypeId}{fr:Nat×Nat}{agg:Bool}{s:Nat}{v:Value}(ho:ops[i]?=some ⟨some d,.load T x,ty,pos,aft,some (j,want)⟩)(hj:(ops[j]?).bind (·.dst)=some t)(ht:look L t=some (.bool want))(hx:Fx.ev L x=some (.pointer (some ⟨b,off,none⟩)))(hm:(b,Obj.cells cs a fr)∈σ)(hagg:∀w,(isAgg T).run P w=.ok agg w)(hs:∀w,(Go.sizeOf T).run P w=.ok s w)(hv:Zk agg s cs off=some v)(k:Head P ops n S w0 Kf H ((d,v)::L) σ Φ)(hq:Yp ops true i H=true:=by kernel_rfl)(hd:d<n:=by decide): Head P ops n S w0 Kf (i::H) L σ Φ:=TX ho hj ht hq hx hm hagg hs hv hd k
theorem yt{x y:Operand}{T:TypeId}{b off:Nat}{cs:Array Value}{e:TypeId}{s:Nat}{v:Value}{σ':List (Nat×Obj)}{cs':Array Value}(ho:ops[i]?=some ⟨none,.store T x y,ty,pos,aft,none⟩)(hx:Fx.ev L x=some (.pointer (some ⟨b,off,none⟩)))(f:Fx.ev L y=some v)(a:Zl cs off v.cells.toList=cs')(hu:Upd σ b (.cells cs e (0,0)) (.cells cs' e (0,0)) σ')(hs:∀w,(Go.sizeOf T).run P w=.ok s w)(c:v.cells.size=s)(hle:off+s≤cs.size)(d:v.cells.toList.all flat=true)(k:Head P ops n S w0 Kf H L σ' Φ)(hq:Vm ops i H=true:=by kernel_rfl): Head P ops n S w0 Kf (i::H) L σ Φ:=Vq ho hq hx f a hu hs c hle d k
theorem yn(k:Wk n S w0 L σ Φ (Kf .normal)): Head P ops n S w0 Kf [] L σ Φ:=eO k
theorem Pure1.ii{op:BinOp}{T:TypeId}{x y:Operand}{b:TypeId}{u i v:Value}(hx:Fx.ev L x=some u)(a:Fx.ev L y=some i)(hr:∀w,(do eqGuard op T x y u i;Go.binOp op T u i:Sem Value).run P w=.ok v w): Pure1 P L (.binOp op T x y b) v:=.binOp hx a hr
end
section
variable{P:Program}{L:List (Nat×Value)}{T T':TypeId}{X Y:Operand}{k:IntKind}{x y:Int}
theorem Pure1.add(hx:Fx.ev L X=some (.int .i64 x))(a:Fx.ev L Y=some (.int .i64 y))(b : -9223372036854775808≤x+y:=by omega)(h1:x+y≤9223372036854775807:=by omega): Pure1 P L (.binOp .add T X Y T') (.int .i64 (x+y)):=.binOp hx a (fun _=>Jp _ _ _ _ _ (wrap_i64 _ b h1))
theorem Pure1.sub(hx:Fx.ev L X=some (.int .i64 x))(a:Fx.ev L Y=some (.int .i64 y))(b : -9223372036854775808≤x-y:=by omega)(h1:x-y≤9223372036854775807:=by omega): Pure1 P L (.binOp .sub T X Y T') (.int .i64 (x-y)):=.binOp hx a (fun _=>dm _ _ _ _ _ (wrap_i64 _ b h1))
theorem Pure1.mul(hx:Fx.ev L X=some (.int .i64 x))(a:Fx.ev L Y=some (.int .i64 y))(b : -9223372036854775808≤x*y:=by omega)(h1:x*y≤9223372036854775807:=by omega): Pure1 P L (.binOp .mul T X Y T') (.int .i64 (x*y)):=.binOp hx a (fun _=>dp _ _ _ _ _ (wrap_i64 _ b h1))
theorem Pure1.lss(hx:Fx.ev L X=some (.int k x))(a:Fx.ev L Y=some (.int k y)): Pure1 P L (.binOp .lss T X Y T') (.bool (decide (x<y))):=.binOp hx a (fun _=>jX _ _ _ _ _)
theorem Pure1.leq(hx:Fx.ev L X=some (.int k x))(a:Fx.ev L Y=some (.int k y)): Pure1 P L (.binOp .leq T X Y T') (.bool (decide (x≤y))):=.binOp hx a (fun _=>jY _ _ _ _ _)
theorem Pure1.gtr(hx:Fx.ev L X=some (.int k x))(a:Fx.ev L Y=some (.int k y)): Pure1 P L (.binOp .gtr T X Y T') (.bool (decide (x>y))):=.binOp hx a (fun _=>jZ _ _ _ _ _)
theorem Pure1.geq(hx:Fx.ev L X=some (.int k x))(a:Fx.ev L Y=some (.int k y)): Pure1 P L (.binOp .geq T X Y T') (.bool (decide (x≥y))):=.binOp hx a (fun _=>kc _ _ _ _ _)
theorem Pure1.eql(hx:Fx.ev L X=some (.int k x))(a:Fx.ev L Y=some (.int k y)): Pure1 P L (.binOp .eql T X Y T') (.bool (x == y)):=.binOp hx a (fun _=>kd _ _ _ _ _)
theorem Pure1.neq(hx:Fx.ev L X=some (.int k x))(a:Fx.ev L Y=some (.int k y)): Pure1 P L (.binOp .neq T X Y T') (.bool (x != y)):=.binOp hx a (fun _=>jW _ _ _ _ _)
end
abbrev nI(n:Nat): Value:=.int .i64 ((n:Nat):Int)
abbrev pB(b:Nat): Value:=.pointer (some ⟨b,0,none⟩)
abbrev bV(v:Value)(T:TypeId): Obj:=.cells (Value.cells v) T (0,0)
theorem lA{a b:Nat}(h:a=b:=by simp only[List.length_append,List.length_cons,List.length_nil,Nat.zero_add]): a=b:=h
theorem dT{p q:Prop}[Decidable p](h:decide p=true)(k:p→q:=by intro h;first|omega|(dsimp only at h;omega)): q:=k (of_decide_eq_true h)
theorem dF{p q:Prop}[Decidable p](h:decide p=false)(k:¬p→q:=by intro h;first|omega|(dsimp only at h;omega)): q:=k (of_decide_eq_false h)
theorem cW{P:Program}{c:Code}{Q:Exit→Act→World→Prop}{a:Act}{w:World}(h:Code.wp P c Q a w): Code.wp P c Q a w:=h
section
variable{P:Program}{n:Nat}{S:Nat→Prop}{w0:World}{L:List (Nat×Value)}{σ:List (Nat×Obj)}{Φ:List Zp}{a:Act}{w:World}{ops:Array Oper}{fn:Func}{v u:Value}{t:Nat}{Q:Exit→Act→World→Prop}
theorem retW(h:St n S w0 L σ Φ a w)(hr:(results fn a.tmps).run P w=.ok u w)(hv:u=v): wpList P ops (Exit.then (Code.ret.wp P (bodyPost P fn (gp S w0 (fun u Ψ=>u=v∧Ψ=[])))) Q) [] a w:=wpList_nil (wp_ret (Js h hr hv))
theorem retR(h:St n S w0 L σ Φ a w)(hr:fn.results=#[.tmp t]:=by exact rfl)(ht:look L t=some u:=by exact rfl)(hv:u=v:=by rfl): bodyPost P fn (gp S w0 (fun u Ψ=>u=v∧Ψ=[])) .ret a w:=Js h (Ze h hr (.tmp ht)) hv
theorem retX(h:St n S w0 L σ Φ a w)(hr:fn.results=#[.tmp t]:=by exact rfl)(ht:look L t=some u:=by exact rfl)(hv:u=v:=by rfl): wpList P ops (Exit.then (Code.ret.wp P (bodyPost P fn (gp S w0 (fun u Ψ=>u=v∧Ψ=[])))) Q) [] a w:=retW h (Ze h hr (.tmp ht)) hv
end
theorem nE{α:Type}{enc:α→Value}{l:List α}(k:Nat)(h:l.length≠0:=by omega)(a:k≠0:=by decide)(hk:∀x,(enc x).cells.size=k:=by exact fun _=>rfl): cellsOf enc l≠[]:=by
 intro e;have:=congrArg List.length e;rw[cellsOf_length hk] at this;simp only[List.length_nil,Nat.mul_eq_zero] at this;omega
theorem nF{α:Type}{f:α→Value}{l:List α}(h:l.length≠0:=by omega): List.map f l≠[]:=by
 intro e;have:=congrArg List.length e;simp only[List.length_map,List.length_nil] at this;omega
theorem zS{P:Program}{n:Nat}{S:Nat→Prop}{w0:World}{L:List (Nat×Value)}{σ:List (Nat×Obj)}{Φ:List Zp}{Q:Exit→Act→World→Prop}{id:Nat}{l:List Oper}{c2:Code}(k:Wk n S w0 L σ Φ (wpList P l.toArray (Exit.then (c2.wp P Q) Q) l)): Wk n S w0 L σ Φ ((Code.seq (Code.region id l.toArray false) c2).wp P Q):=zs (zr k)
section
variable{P:Program}{L:List (Nat×Value)}{n:Nat}{S:Nat→Prop}{w0:World}{σ:List (Nat×Obj)}{Φ:List Zp}
theorem Pure1.pN(X:Nat){op:Op}{v:Value}(c:Pure1 P L op v)(h:v=.int .i64 ((X:Nat):Int):=by show Value.int _ _=Value.int _ _;congr 1): Pure1 P L op (.int .i64 ((X:Nat):Int)):=Pure1.cast c h
theorem Pure1.pO(X:Nat){op:Op}{v:Value}(c:Pure1 P L op v)(h:v=.int .i64 ((X:Nat):Int):=by show Value.int _ _=Value.int _ _;congr 1;omega): Pure1 P L op (.int .i64 ((X:Nat):Int)):=Pure1.cast c h
theorem Pure1.pQ(X:Nat){op:Op}{v:Value}(c:Pure1 P L op v)(h:v=.int .i64 ((X:Nat):Int):=by show Value.int _ _=Value.int _ _;congr 1<;>omega): Pure1 P L op (.int .i64 ((X:Nat):Int)):=Pure1.cast c h
theorem Pure1.fA{T:TypeId}{x:Operand}{f:Nat}{u v:Value}(hx:Fx.ev L x=some u)(hr:∀w,(Instr.fieldAt T u f).run P w=.ok v w): Pure1 P L (.fieldAddr T x f) v:=.fieldAddr hx hr
theorem Pure1.eX{x:Operand}{k:Nat}{u v:Value}(hx:Fx.ev L x=some u)(hr:∀w,(Instr.extract u k).run P w=.ok v w:=by exact fun _=>rfl): Pure1 P L (.extract x k) v:=.extract hx hr
theorem ym{ops:Array Oper}{H:List Nat}{Kf:Exit→Act→World→Prop}{i d:Nat}{x:Operand}{v:Value}(ho:ops[i]?=some ⟨some d,.move x,ty,pos,aft,none⟩)(hx:Fx.ev L x=some v)(k:Head P ops n S w0 Kf H ((d,v)::L) σ Φ)(hq:Yp ops false i H=true:=by kernel_rfl)(hd:d<n:=by decide):
  Head P ops n S w0 Kf (i::H) L σ Φ:=NN ho hq (.move hx) hd k
end
end Go.Fx
