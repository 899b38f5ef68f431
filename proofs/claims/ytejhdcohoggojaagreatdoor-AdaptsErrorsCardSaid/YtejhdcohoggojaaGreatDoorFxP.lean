/- The shelf's sort at a list of structs whose comparison is by contract for the list's own elements. By an AI agent. -/
import Derived.Test.YtejhdcohoggojaaGreatDoorFxZ
import Derived.MapKept
import Derived.Test.YtejhdcohoggojaaGreatDoorFxDraw
import Derived.Shelf.SlSortCmp.NoneTotal
import Derived.Shelf.SlSortCmp.PdqK
import Derived.Recover
import Derived.RangeFuncNested
import Derived.RangeFuncCalls
import Derived.RangeFuncLeaves
import Derived.OwnWalkIn
import Derived.LoopN
import Derived.Maps.RangeRun
set_option linter.unusedVariables false
set_option linter.unusedSimpArgs false
set_option linter.unusedSectionVars false
namespace Go.Fx
open Go Go.RowKit
variable{ty:TypeId}{pos:String}{aft:Array Edge}
variable{P:Program}{n:Nat}{S:Nat→Prop}{w0 w:World}{L:List (Nat×Value)}{σ σ':List (Nat×Obj)}{Φ:List Zp}{a:Act}{K:Act→World→Prop}{Q:Exit→Act→World→Prop}
theorem KA(h:St n S w0 L σ Φ a w){d:Nat}{T:TypeId}{g:Option (Nat×Bool)}(hd:d<n)(k:∀b c w',St n S w0 ((d,.map (some b))::L) ((b,.map #[] 0)::σ) Φ c w'→K c w'): (Oper.mk (some d) (.makeMap T none) ty pos aft g).wp P a w K Q :=
 Qf (v:=.map (some w.heap.size)) (w':=w.alloc (.map #[] 0)) (by simp only[execOp,Instr.makeMap,Sem.run_bind];rfl) (k _ _ _ ((h.alloc _).put hd _))
theorem WJ(h:St n S w0 L σ Φ a w){d:Nat}{T:TypeId}{x y:Operand}{ok:Bool}{g:Option (Nat×Bool)}{b:Nat}{es:Array MapEntry}{clock:Nat}{key v:Value}(hx:Fx.ev L x=some (.map (some b)))(e:Fx.ev L y=some key)(hm:(b,Obj.map es clock)∈σ)(hr:∀w:World,w.heap[b]?=some (.map es clock)→(Instr.lookup T (.map (some b)) key ok).run P w=.ok v w)(hd:d<n)(k:∀c,St n S w0 ((d,v)::L) σ Φ c w→K c w): (Oper.mk (some d) (.lookup T x y ok) ty pos aft g).wp P a w K Q :=
 Qf (v:=v) (w':=w) (by simp only[execOp,h.ev hx,h.ev e,Sem.run_bind,hr w (h.own _ hm)];rfl) (k _ (h.put hd v))
theorem No(h:St n S w0 L σ Φ a w){T:TypeId}{x y z:Operand}{g:Option (Nat×Bool)}{b:Nat}{es d:Array MapEntry}{clock c:Nat}{key val:Value}(hx:Fx.ev L x=some (.map (some b)))(i:Fx.ev L y=some key)(hz:Fx.ev L z=some val)(hu:Upd σ b (.map es clock) (.map d c) σ')(hr:∀w:World,w.heap[b]?=some (.map es clock)→(Instr.mapUpdate T (.map (some b)) key val).run P w=.ok () { w with heap:=w.heap.setIfInBounds b (.map d c) })(k:∀f w',St n S w0 L σ' Φ f w'→K f w'): (Oper.mk none (.mapUpdate T x y z) ty pos aft g).wp P a w K Q:=by
 have e:=h.own _ hu.mem
 obtain ⟨j,l⟩:=MapKept.heap_set (o':=.map d c) e
 refine Gy (w':={ w with heap:=w.heap.setIfInBounds b (.map d c) }) (by simp only[execOp,h.ev hx,h.ev i,h.ev hz,Sem.run_bind,hr w e];rfl) (k _ _ ?_)
 exact h.turn hu rfl rfl rfl (by simp) j l
def LR(p:MapEntry→Bool): List MapEntry→Nat→Option (Nat×Value)
 | [],_=>none
 | e::es,i=>if p e then some (i,e.val) else LR p es (i+1)
theorem D5{K:TypeId}{key:Value}{p:MapEntry→Bool}: ∀ {es:List MapEntry} {i:Nat} {w:World},(∀e∈es,∀w,(Op.equal K key e.key).run P w=.ok (p e) w) →
  (Instr.findAsking K key es i).run P w=.ok (LR p es i) w
 | [],i,w,_=>rfl
 | e::es,i,w,h=>by
  have he:=h e List.mem_cons_self w
  simp only[Instr.findAsking,Sem.run_bind,he,Result.andThen,LR]
  cases p e
  ·simp only[Bool.false_eq_true,if_false]
   exact D5 (fun b a=>h b (List.mem_cons_of_mem _ a))
  ·simp only[if_true];rfl
theorem G8{K:TypeId}{key:Value}{fs:Array Field}{cs:Array Value}{p:MapEntry→Bool}{es:List MapEntry}{w:World}(a:∀w,(underlying K).run P w=.ok (.struct fs) w)(h:∀e∈es,∀w,(Op.equal K key e.key).run P w=.ok (p e) w): (Instr.findKey K key es).run P w=.ok (LR p es 0) w:=by
 unfold Instr.findKey
 simp only[Sem.run_bind,a,Result.andThen]
 rcases es with _|⟨e,es⟩
 ·rfl
 ·have:Instr.findNow (.struct fs) key (e::es) 0=none:=by simp[Instr.findNow,Instr.sameNow]
  rw[this]
  exact D5 h
theorem O4{T K E:TypeId}{key z:Value}{fs:Array Field}{p:MapEntry→Bool}{b:Nat}{es:Array MapEntry}{clock:Nat}(hT:∀w,(underlying T).run P w=.ok (.map K E) w)(d:∀w,(underlying K).run P w=.ok (.struct fs) w)(a:∀e w,(Instr.checkKey e 10000 K key).run P w=.ok () w)(hz:∀w,(zeroValue E).run P w=.ok z w)(h:∀e∈es.toList,∀w,(Op.equal K key e.key).run P w=.ok (p e) w)(w:World)(c:w.heap[b]?=some (.map es clock)):
  (Instr.lookup T (.map (some b)) key true).run P w=.ok (match LR p es.toList 0 with|some (_,v) =>.tuple #[v,.bool true]|none =>.tuple #[z,.bool false]) w:=by
 unfold Instr.lookup
 simp only[Sem.run_bind,hT,Result.andThen,MapKept.run_getObj_map c,Sem.run_pure,a,G8 (cs:=#[]) d h]
 cases LR p es.toList 0 with
 | none=>simp only[Sem.run_bind,hz,Result.andThen,Sem.run_pure,if_true]
 | some q=>simp only[Sem.run_bind,Result.andThen,Sem.run_pure,if_true]
theorem Hu{T K E:TypeId}{key val:Value}{fs:Array Field}{p:MapEntry→Bool}{b:Nat}{es:Array MapEntry}{clock:Nat}(hT:∀w,(underlying T).run P w=.ok (.map K E) w)(d:∀w,(underlying K).run P w=.ok (.struct fs) w)(a:∀e w,(Instr.checkKey e 10000 K key).run P w=.ok () w)(h:∀e∈es.toList,∀w,(Op.equal K key e.key).run P w=.ok (p e) w)(f:LR p es.toList 0=none)(w:World)(c:w.heap[b]?=some (.map es clock)):
  (Instr.mapUpdate T (.map (some b)) key val).run P w=.ok () { w with heap:=w.heap.setIfInBounds b (.map (es.push { key,val,born:=clock }) (clock+1)) }:=by
 unfold Instr.mapUpdate
 simp only[Sem.run_bind,hT,Result.andThen,MapKept.run_getObj_map c,a,G8 (cs:=#[]) d h,f]
 exact MapKept.run_setObj_map _ c
theorem Xx{T E k:Nat}(hT:∀w,(underlying T).run P w=.ok (.slice E) w)(hk:∀w,(Go.sizeOf E).run P w=.ok k w)(a:Option Addr)(n c:Nat)(h:n≤c)(w:World):
  (Instr.sliceAt T (.slice a n c) none (some (.int .i64 (n:Int))) (some (.int .i64 (n:Int)))).run P w=.ok (.slice a n n) w:=by
 have e:asIntOf (.int .i64 (n:Int))=(pure (.i64,(n:Int)):Sem _):=rfl
 have hj:(0:Int)≤(n:Int)∧(n:Int)≤(c:Int):=by omega
 have b:(0:Int)≤(n:Int)∧(n:Int)≤(n:Int):=by omega
 have ha:(if n=0 then a else a.map (fun x=>x.add 0))=a:=by
  split
  ·rfl
  ·cases a<;>simp[Oh]
 unfold Instr.sliceAt
 simp only[Sem.run_bind,hT,Result.andThen,Instr.slice,Instr.sliceBounds,Instr.sliceBound,e,Sem.run_pure,hj,b,and_self,if_true,hk,Int.toNat_natCast,Nat.zero_mul,Nat.sub_zero,ha]
section
theorem Gi{ys:List Value}{ad2:Option Addr}{b:Nat}{xs:List Value}{E E2:TypeId}(h:St n S w0 L ((b,.cells xs.toArray E (0,0))::σ) Φ a w){d:Nat}{x y:Operand}{T B:TypeId}{g:Option (Nat×Bool)}{i:TypeInfo}{z:Value}{k m m2 c2:Nat}(hx:Fx.ev L x=some (.slice (some ⟨b,0,none⟩) m m))(hy:Fx.ev L y=some (.slice ad2 m2 c2))(hR:Row ad2 ys∈Φ)(l:xs.length=m*k)(hT:∀w,(underlying T).run P w=.ok (.slice E) w)(u:∀w,(underlying B).run P w=.ok (.slice E2) w)(hi:∀w,(typeInfo E).run P w=.ok i w)(hk:∀w,(Go.sizeOf E).run P w=.ok k w)(hz:∀w,(zeroValue E).run P w=.ok z w)(W:z.cells.size=k)(I:k≠0)(V:0<i.bytes)(o:ys.length=m2*k)(G:ys.all flat=true)(q:i.bytes*(2*(m+m2)+192)≤281474976710656)(hd:d<n)(kk:∀Y t R Z w',m+m2≤t→St n S w0 ((d,.slice (some ⟨Y,0,none⟩) (m+m2) t)::L) ((Y,.cells (xs++ys++R).toArray E (0,0))::σ) Φ Z w'→K Z w'):
  (Oper.mk (some d) (.call ⟨.builtin .append,#[x,y],#[T,B]⟩) ty pos aft g).wp P a w K Q:=by
 have v:∀w':World,w'.heap=w.heap→(Builtin.firstCells k m2 (.slice ad2 m2 c2)).run P w'=.ok ys.toArray w':=by
  obtain ⟨X,_,_,H⟩:=h.fact hR
  exact CW H o
 have j:∀v' U C,(Builtin.append_ #[T,B] ty #[.slice (some ⟨b,0,none⟩) m m,.slice ad2 m2 c2]).run P U=.ok v' C →
   (execOp a.eval (Oper.mk (some d) (.call ⟨.builtin .append,#[x,y],#[T,B]⟩) ty pos aft g)).run P U=.ok (.value v') C:=by
  intro v' U C h1
  have e:(#[x,y]:Array Operand).map a.eval=#[.slice (some ⟨b,0,none⟩) m m,.slice ad2 m2 c2]:=by simp[h.ev hx,h.ev hy]
  simp only[execOp,resolve,e,Sem.run_bind,Sem.run_pure,Result.andThen,invoke,Go.builtin,h1]
 have s:=h.own _ List.mem_cons_self
 by_cases hc:m+m2≤m
 ·have M:m2=0:=by omega
  subst M
  have J:ys=[]:=List.eq_nil_of_length_eq_zero (by simpa using o)
  subst J
  obtain ⟨w',hr,e1,e2,e3,e4,e5,e6⟩:=Az (P:=P) (w:=w) (c2:=c2) (n:=m) (m:=0) hT u hk hc s (by simp[l]) o v G ty
  refine Qf (j _ _ _ hr) ?_
  have N:=h.turn (σ':=(b,Obj.cells xs.toArray E (0,0))::σ) Upd.head e1 e2 e3 e4 (by simpa [Zl] using e5) e6
  refine kk b m [] _ _ (by omega) (by simpa using N.put hd _)
 ·have hold:∀w':World,w'.heap=w.heap→(Builtin.firstCells k m (.slice (some ⟨b,0,none⟩) m m)).run P w'=.ok xs.toArray w':=by
   intro w' O
   rw[←O] at s
   simp only[Builtin.firstCells]
   rw[Jx s (by simp[l])]
   congr 1
   apply Array.ext'
   simp[←l]
  obtain ⟨t,w',F,f,D,r,A,hr⟩:=Ay (P:=P) (w:=w) (c2:=c2) (n:=m) (m:=m2) (c:=m) (xs:=xs) (ys:=ys) (ad:=some ⟨b,0,none⟩) hT u hi hk hz W I V q (by omega) hold v ty
  refine Qf (j _ _ _ hr) ?_
  have N:St n S w0 L ((b,.cells xs.toArray E (0,0))::σ) Φ a w':=by
   refine⟨h.size,h.defers,h.val,⟨by rw[D];exact h.ext.os,by rw[r];exact h.ext.tape,by rw[A];exact h.ext.output,by rw[f];exact h.ext.size,fun k hk=>by rw[f];exact h.ext.block k hk⟩,fun p H=>by rw[f];exact h.own p H,h.new,h.nd,?_⟩
   obtain ⟨X,h1,h2,h3,h4⟩:=h.facts
   exact⟨X,h1,h2,by rw[f];exact h3,fun R hR=>R.st X X w w' (h4 R hR) (fun b _ _=>by rw[f]) (by rw[f];exact Nat.le_refl _) (fun b V =>.inl V)⟩
  exact kk w'.heap.size t (Cj (t-(m+m2)) z.cells.toList) _ _ F (((N.drop (List.sublist_cons_self _ _)).alloc _).put hd _)
end
theorem Gj{ops:Array Oper}{H:List Nat}{Kf:Exit→Act→World→Prop}{i d:Nat}{T:TypeId}{len:Nat}{parts:Array (Nat×Operand)}{cap:Nat}{cs:Array Value}{E:TypeId}(g:∀k,S k→k<w0.heap.size)(ho:ops[i]?=some ⟨some d,.buildSlice T len parts,ty,pos,aft,none⟩)(hq:Vm ops i H=true)(vs:List (Nat×Value))(h:parts.toList.map (fun p=>(p.1,Fx.ev L p.2))=vs.map (fun p=>(p.1,some p.2)))(hr:∀w,(Instr.buildSlice T len vs.toArray).run P w=.ok (.slice (some ⟨w.heap.size,0,none⟩) len cap) (w.alloc (.cells cs E (0,0))))(M:List Value)(f:cs=M.toArray)(hd:d<n)(k:∀b,Head P ops n S w0 Kf H ((d,.slice (some ⟨b,0,none⟩) len cap)::L) σ (Row (some ⟨b,0,none⟩) M::Φ)): Head P ops n S w0 Kf (i::H) L σ Φ :=
 .inr (.inl ⟨_,ho,hq,fun a w e c=>Jo ho (Qf (v:=.slice (some ⟨w.heap.size,0,none⟩) len cap) (w':=w.alloc (.cells cs E (0,0)))
  (by simp only[execOp,BV c h,Sem.run_bind,hr];rfl)
  ⟨⟨fun _=>(Below.refl _ _).alloc (Nat.le_refl _) _,fun _ _ _ _ he=>by cases he⟩,_,σ,_,rfl,((c.alloc _).shareAll g M f).put hd _,k _⟩)⟩)
theorem AM{ops:Array Oper}{i d:Nat}{T:TypeId}{len:Nat}{parts:Array (Nat×Operand)}{cap:Nat}{cs:Array Value}{E:TypeId}{C:List (Nat×Value)→List (Nat×Obj)→List Zp→Prop}(g:∀k,S k→k<w0.heap.size)(ho:ops[i]?=some ⟨some d,.buildSlice T len parts,ty,pos,aft,none⟩)(vs:List (Nat×Value))(h:parts.toList.map (fun p=>(p.1,Fx.ev L p.2))=vs.map (fun p=>(p.1,some p.2)))(hr:∀w,(Instr.buildSlice T len vs.toArray).run P w=.ok (.slice (some ⟨w.heap.size,0,none⟩) len cap) (w.alloc (.cells cs E (0,0))))(M:List Value)(f:cs=M.toArray)(hd:d<n)(k:∀b,C ((d,.slice (some ⟨b,0,none⟩) len cap)::L) σ (Row (some ⟨b,0,none⟩) M::Φ)): Al P ops n S w0 i ⟨some d,.buildSlice T len parts,ty,pos,aft,none⟩ C L σ Φ :=
 fun a w e c=>Jo ho (Qf (v:=.slice (some ⟨w.heap.size,0,none⟩) len cap) (w':=w.alloc (.cells cs E (0,0)))
  (by simp only[execOp,BV c h,Sem.run_bind,hr];rfl)
  ⟨⟨fun _=>(Below.refl _ _).alloc (Nat.le_refl _) _,fun _ _ _ _ he=>by cases he⟩,_,σ,_,rfl,((c.alloc _).shareAll g M f).put hd _,k _⟩)
theorem F7{ops:Array Oper}{i d:Nat}{f:FuncId}{args:Array Operand}{a:Array TypeId}{vs:List Value}{v:Value}{C:List (Nat×Value)→List (Nat×Obj)→List Zp→Prop}(ho:ops[i]?=some ⟨some d,.call ⟨.value (.func f),args,a⟩,ty,pos,aft,none⟩)(ha:args.toList.map (Fx.ev L)=vs.map some)(hc:∀args w,(callFunc f args).run P w=.ok (.enter f args) w)(hf:Ji P f vs v)(hd:d<n)(k:C ((d,v)::L) σ Φ):
  Al P ops n S w0 i ⟨some d,.call ⟨.value (.func f),args,a⟩,ty,pos,aft,none⟩ C L σ Φ :=
 fun _ _ _ c=>Jo ho (Mv c ha hc hf (fun _ hR=>nomatch hR) hd fun u Ψ _ e hx b=>⟨⟨fun _=>hx,fun _ _ _ _ he=>by cases he⟩,u,σ,Ψ++Φ,rfl,b,by obtain ⟨rfl,rfl⟩:=e;exact k⟩)
theorem E8{ops:Array Oper}{Kf:Exit→Act→World→Prop}{i:Nat}{H:List Nat}(j:Nat){c b:Oper}(e:List Nat)(ho:ops[i]?=some c)(d:ops[j]?=some b)(hq:QV ops i j H=true)(he:H.erase j=e)(h1:Al P ops n S w0 i c (fun L σ Φ=>Head P ops n S w0 Kf H L σ Φ) L σ Φ)(g:Al P ops n S w0 j b (fun L σ Φ=>Head P ops n S w0 Kf (i::e) L σ Φ) L σ Φ): Head P ops n S w0 Kf (i::H) L σ Φ:=by
 have hm:j∈H:=by
  have a:=hq
  simp only[QV,Bool.and_eq_true,Bool.not_eq_true',List.contains_iff_mem] at a
  exact a.1.1.1.2
 subst he
 have hlen:H.length=(i::H.erase j).length:=by
  rw[List.length_cons,List.length_erase_of_mem hm]
  have:=List.length_pos_of_mem hm
  omega
 rw[Ol]
 refine .inr (.inr (.inr (.inr (.inr ⟨j,c,b,ho,d,hq,h1,?_⟩))))
 have f:Al P ops n S w0 j b (fun L σ Φ=>Z9 P ops n S w0 Kf (i::H.erase j).length (i::H.erase j) L σ Φ) L σ Φ:=g
 rw[←hlen] at f
 exact f
theorem iY{f:FuncId}{args:List Value}{v:Value}(h:Ji P f args v)(σ:List (Nat×Obj))(Φ:List Zp): FR P f args σ Φ (fun u σ' Ψ=>u=v∧σ'=σ∧Ψ=Φ):=by
 intro S w0 w l hm
 obtain ⟨X,h1,j,i,k⟩:=hm.facts
 refine(h X w i (fun _ hR=>nomatch hR)).mono ?_
 rintro e w' ⟨u,Ψ,rfl,⟨rfl,rfl⟩,c,_⟩
 have g:∀p∈σ,p.1<w.heap.size:=fun p d=>i _ (j p d)
 exact⟨_,σ,Φ,rfl,⟨rfl,rfl,rfl⟩,hm.ext.trans (c.mono hm.ext.size),fun p d=>by rw[c.block _ (g p d)];exact hm.own p d,hm.new,hm.nd,X,h1,j,
  fun b a=>Nat.lt_of_lt_of_le (i b a) c.size,fun R hR=>R.st X X w w' (k R hR) (fun b a _=>c.block b a) c.size (fun b a =>.inl a)⟩
theorem TD{o:List (Nat×Obj)}{ys:List Value}{ad2:Option Addr}{xs:List Value}{E E2:TypeId}(h:St n S w0 L (o++σ) Φ a w){d:Nat}{x y:Operand}{T C:TypeId}{g:Option (Nat×Bool)}{i:TypeInfo}{z v:Value}{k m m2 c2:Nat}(hx:Fx.ev L x=some v)(hG:GrowO k E v m xs o)(hy:Fx.ev L y=some (.slice ad2 m2 c2))(hR:Row ad2 ys∈Φ)(hT:∀w,(underlying T).run P w=.ok (.slice E) w)(t:∀w,(underlying C).run P w=.ok (.slice E2) w)(hi:∀w,(typeInfo E).run P w=.ok i w)(hk:∀w,(Go.sizeOf E).run P w=.ok k w)(hz:∀w,(zeroValue E).run P w=.ok z w)(G:z.cells.size=k)(W:k≠0)(hb:0<i.bytes)(j:ys.length=m2*k)(U:ys.all flat=true)(s:i.bytes*(2*(m+m2)+192)≤281474976710656)(hd:d<n)(kk:∀v' o' a' w',GrowO k E v' (m+m2) (xs++ys) o'→St n S w0 ((d,v')::L) (o'++σ) Φ a' w'→K a' w'):
  (Oper.mk (some d) (.call ⟨.builtin .append,#[x,y],#[T,C]⟩) ty pos aft g).wp P a w K Q:=by
 have B:∀w':World,w'.heap=w.heap→(Builtin.firstCells k m2 (.slice ad2 m2 c2)).run P w'=.ok ys.toArray w':=by
  obtain ⟨X,_,_,V⟩:=h.fact hR
  exact CW V j
 have q:∀v v' w1 J,Fx.ev L x=some v→(Builtin.append_ #[T,C] ty #[v,.slice ad2 m2 c2]).run P w1=.ok v' J →
   (execOp a.eval (Oper.mk (some d) (.call ⟨.builtin .append,#[x,y],#[T,C]⟩) ty pos aft g)).run P w1=.ok (.value v') J:=by
  intro v v' w1 J hv h1
  have e:(#[x,y]:Array Operand).map a.eval=#[v,.slice ad2 m2 c2]:=by simp[h.ev hv,h.ev hy]
  simp only[execOp,resolve,e,Sem.run_bind,Sem.run_pure,Result.andThen,invoke,Go.builtin,h1]
 have l:∀(ad:Option Addr) (c:Nat),Fx.ev L x=some (.slice ad m c)→c<m+m2→xs.length=m*k→(∀w':World,w'.heap=w.heap→(Builtin.firstCells k m (.slice ad m c)).run P w'=.ok xs.toArray w') →
   (Oper.mk (some d) (.call ⟨.builtin .append,#[x,y],#[T,C]⟩) ty pos aft g).wp P a w K Q:=by
  intro ad c hv hc hlen hold
  obtain ⟨N,w',O,f,M,u,H,hr⟩:=Ay (P:=P) (w:=w) (c2:=c2) (n:=m) (m:=m2) (c:=c) (xs:=xs) (ys:=ys) (ad:=ad) hT t hi hk hz G W hb s hc hold B ty
  refine Qf (q _ _ _ _ hv hr) ?_
  have Y:St n S w0 L (o++σ) Φ a w':=by
   refine⟨h.size,h.defers,h.val,⟨by rw[M];exact h.ext.os,by rw[u];exact h.ext.tape,by rw[H];exact h.ext.output,by rw[f];exact h.ext.size,fun k hk=>by rw[f];exact h.ext.block k hk⟩,fun p V=>by rw[f];exact h.own p V,h.new,h.nd,?_⟩
   obtain ⟨X,h1,I,h3,h4⟩:=h.facts
   exact⟨X,h1,I,by rw[f];exact h3,fun R hR=>R.st X X w w' (h4 R hR) (fun b _ _=>by rw[f]) (by rw[f];exact Nat.le_refl _) (fun b hb =>.inl hb)⟩
  refine kk _ [(w'.heap.size,.cells (xs++ys++Cj (N-(m+m2)) z.cells.toList).toArray E (0,0))] _ _ ⟨by simp[hlen,j,Nat.add_mul],.inr ⟨w'.heap.size,N,Cj (N-(m+m2)) z.cells.toList,rfl,?_,O,rfl⟩⟩ (((Y.drop (List.sublist_append_right _ _)).alloc _).put hd _)
  simp only[List.length_append,hlen,j,Kq,Array.length_toList,G]
  rw[←Nat.add_mul, ←Nat.add_mul];congr 1;omega
 obtain ⟨hlen,⟨rfl,a1,ho⟩|⟨b,c,R,rfl,r,a6,ho⟩⟩:=hG
 ·subst ho
  subst a1
  have D:xs=[]:=List.eq_nil_of_length_eq_zero (by simpa using hlen)
  by_cases I:m2=0
  ·subst I
   have F:ys=[]:=List.eq_nil_of_length_eq_zero (by simpa using j)
   have hr:(Builtin.append_ #[T,C] ty #[.slice none 0 0,.slice ad2 0 c2]).run P w=.ok (.slice none 0 0) w:=by
    have e:=B w rfl
    unfold Builtin.append_
    simp only[List.getElem?_toArray,List.getElem?_cons_zero,List.getElem?_cons_succ,Sem.run_bind,hT,t,hk,Result.andThen,Sem.run_pure,Bool.false_eq_true,if_false,Builtin.lenOf,Nat.add_zero,Nat.le_refl,if_true,Bool.not_false,e,F]
   refine Qf (q _ _ _ _ hx hr) ?_
   exact kk _ [] _ _ ⟨by simp[D,F],.inl ⟨rfl,rfl,rfl⟩⟩ (h.put hd _)
  ·refine l none 0 hx (by omega) hlen (fun w' _=>?_)
   simp[Builtin.firstCells,D]
 ·subst ho
  have A:=h.own (b,Obj.cells (xs++R).toArray E (0,0)) (by simp)
  by_cases hc:m+m2≤c
  ·obtain ⟨w',hr,e1,e2,e3,e4,e5,e6⟩:=Az (P:=P) (w:=w) (c2:=c2) (n:=m) (m:=m2) hT t hk hc A (by rw[List.size_toArray,r];exact Nat.le_refl _) j B U ty
   refine Qf (q _ _ _ _ hx hr) ?_
   have hle:ys.length≤R.length:=by
    have h1:(m+m2)*k≤c*k:=Nat.mul_le_mul_right k hc
    rw[Nat.add_mul] at h1
    simp at r;omega
   rw[←hlen,Ke ys xs R hle] at e5
   have Y:=h.turn (σ':=(b,Obj.cells (xs++ys++R.drop ys.length).toArray E (0,0))::σ) Upd.head e1 e2 e3 e4 e5 e6
   refine kk _ [(b,_)] _ _ ⟨by simp[hlen,j,Nat.add_mul],.inr ⟨b,c,R.drop ys.length,rfl,?_,hc,rfl⟩⟩ (Y.put hd _)
   simp at r ⊢;omega
  ·refine l _ c hx (by omega) hlen (fun w' Z=>?_)
   rw[←Z] at A
   simp only[Builtin.firstCells]
   rw[Jx A (by simp[hlen])]
   congr 1
   apply Array.ext'
   simp[hlen]
theorem GrowO.open{k:Nat}{E:TypeId}{ad:Option Addr}{m c:Nat}{xs:List Value}{o:List (Nat×Obj)}(h:GrowO k E (.slice ad m c) m xs o)(hm:0<m):
  ∃b R,ad=some ⟨b,0,none⟩∧o=[(b,Obj.cells (xs++R).toArray E (0,0))]∧(xs++R).length=c*k∧m≤c:=by
 obtain ⟨_,⟨_,a,_⟩|⟨b,f,R,h1,a,e,d⟩⟩:=h
 ·omega
 ·cases h1;exact⟨b,R,rfl,d,a,e⟩
theorem GrowO.close{k:Nat}{E:TypeId}{b m c:Nat}{xs R:List Value}(h1:xs.length=m*k)(a:(xs++R).length=c*k)(d:m≤c):
  GrowO k E (.slice (some ⟨b,0,none⟩) m c) m xs [(b,Obj.cells (xs++R).toArray E (0,0))]:=⟨h1,.inr ⟨b,c,R,rfl,a,d,rfl⟩⟩
theorem Fz{f:FuncId}{args:List Value}{k m:Nat}{E:TypeId}{xs:List Value}(h:CtrO P f args Φ (fun v o => ∃ad c,v=.slice ad m c∧GrowO k E v m xs o)):
  Ctr P f args Φ (fun v Ψ => ∃ad c,v=.slice ad m c∧Ψ=[Row ad xs]):=by
 intro X w g d
 refine(h X w g d).mono ?_
 rintro e w' ⟨v,l,he,⟨ad,c,rfl,q⟩,p,t,hd⟩
 refine⟨_,[Row ad xs],he,⟨ad,c,rfl,rfl⟩,p,fun R hR=>?_⟩
 rw[List.mem_singleton] at hR
 subst hR
 obtain ⟨h1,⟨i,rfl,rfl⟩|⟨b,u,R,n,i,x,rfl⟩⟩:=q
 ·intro a;exact absurd (List.eq_nil_of_length_eq_zero (by simpa using h1)) a
 ·cases n
  intro _
  obtain ⟨s,r⟩:=t _ (List.mem_singleton.2 rfl)
  exact⟨b,0,_,_,_,rfl,fun hx=>by have:=g b hx;simp only at s;omega,r,fun j hj=>by simp[List.getElem?_append_left hj]⟩
theorem ZI{f:FuncId}{args:List Value}{k m:Nat}{E:TypeId}{xs:List Value}{u:Value}(h:CtrO P f args Φ (fun v o => ∃ad c,v=.tuple #[.slice ad m c,u]∧GrowO k E (.slice ad m c) m xs o)):
  Ctr P f args Φ (fun v Ψ => ∃ad c,v=.tuple #[.slice ad m c,u]∧Ψ=[Row ad xs]):=by
 intro X w g d
 refine(h X w g d).mono ?_
 rintro e w' ⟨v,l,he,⟨ad,c,rfl,q⟩,p,t,hd⟩
 refine⟨_,[Row ad xs],he,⟨ad,c,rfl,rfl⟩,p,fun R hR=>?_⟩
 rw[List.mem_singleton] at hR
 subst hR
 obtain ⟨h1,⟨i,rfl,rfl⟩|⟨b,x,R,n,i,y,rfl⟩⟩:=q
 ·intro a;exact absurd (List.eq_nil_of_length_eq_zero (by simpa using h1)) a
 ·cases n
  intro _
  obtain ⟨s,r⟩:=t _ (List.mem_singleton.2 rfl)
  exact⟨b,0,_,_,_,rfl,fun hx=>by have:=g b hx;simp only at s;omega,r,fun j hj=>by simp[List.getElem?_append_left hj]⟩
theorem gl{z:List Value}(hz:z.all flat=true)(m:Nat): (Cj m z).all flat=true:=by
 rw[List.all_eq_true] at *
 intro v hv
 unfold Cj at hv
 obtain ⟨l,hl,hv⟩:=List.mem_flatten.1 hv
 rw[List.eq_of_mem_replicate hl] at hv
 exact hz v hv
theorem dW(h:St n S w0 L σ Φ a w){T E:TypeId}{x:Operand}{g:Option (Nat×Bool)}{b off m c:Nat}{cs cs':Array Value}{f:TypeId}{z:Value}(hx:Fx.ev L x=some (.slice (some ⟨b,off,none⟩) m c))(hm:0<m)(hT:∀w,(underlying T).run P w=.ok (.slice E) w)(hz:∀w,(zeroValue E).run P w=.ok z w)(i:z.cells≠#[])(hle:off+m*z.cells.size≤cs.size)(j:z.cells.toList.all flat=true)(d:Zl cs off (Cj m z.cells.toList)=cs')(hu:Upd σ b (.cells cs f (0,0)) (.cells cs' f (0,0)) σ')(k:∀o w',St n S w0 L σ' Φ o w'→K o w'): (Oper.mk none (.call ⟨.builtin .clear,#[x],#[T]⟩) ty pos aft g).wp P a w K Q:=by
 subst d
 obtain ⟨w',hr,s,y,p,A,q,t⟩:=Xg (P:=P) b off (T:=f) (Cj m z.cells.toList) 0 w cs (h.own _ hu.mem) (by rw[Kq,Array.length_toList];omega) (fun u hu=>Df ((List.all_eq_true.1 (gl j m)) u hu))
 have r:=h.turn hu s y p A (by simpa using q) t
 refine Qf (v:=.tuple #[]) (w':=w') ?_ (k _ _ r)
 have e:(#[x]:Array Operand).map a.eval=#[.slice (some ⟨b,off,none⟩) m c]:=by simp[h.ev hx]
 obtain ⟨l,rfl⟩:∃l,m=l+1:=⟨m-1,by omega⟩
 simp only[execOp,resolve,e,Sem.run_bind,Sem.run_pure,Result.andThen,invoke,Go.builtin,Builtin.clear_,List.getElem?_toArray,List.getElem?_cons_zero,hT,hz,CQ i,hr]
section
variable{α:Type}{enc:α→Value}{k:Nat}
theorem Rb(p m r:List Value)(s:Nat)(h:m.length=s): Zk true s (p++m++r).toArray p.length=some (.agg m.toArray):=by
 subst h
 simp only[Zk,if_true]
 rw[if_pos (by simp)]
 congr 2
 apply Array.ext'
 simp[List.extract_eq_take_drop]
theorem Wq(p x y m r:List Value)(s:Nat)(h:m.length=s): Zk true s (p++(x++m++y)++r).toArray (p.length+x.length)=some (.agg m.toArray):=by
 have:=Rb (p++x) m (y++r) s h
 rw[List.length_append] at this
 rw[←this];congr 2;simp
theorem cO(p x y m a r:List Value)(h:m.length=a.length): Zl (p++(x++m++y)++r).toArray (p.length+x.length) a=(p++(x++a++y)++r).toArray:=by
 have:=Gr a (p++x) m (y++r) h
 rw[List.length_append] at this
 rw[show p++(x++m++y)++r=p++x++m++(y++r) by simp,this];congr 1;simp
theorem Dk(l:List α)(j:Nat)(h:j<l.length): cellsOf enc l=cellsOf enc (l.take j)++(enc l[j]).cells.toList++cellsOf enc (l.drop (j+1)):=by
 conv=>lhs;rw[show l=l.take j++[l[j]]++l.drop (j+1) by simp,Qs,Qs,Bc]
theorem Dj(l:List α)(j:Nat)(h:j<l.length)(y:α): cellsOf enc (l.set j y)=cellsOf enc (l.take j)++(enc y).cells.toList++cellsOf enc (l.drop (j+1)):=by
 rw[show l.set j y=l.take j++[y]++l.drop (j+1) by rw[List.set_eq_take_append_cons_drop,if_pos h];simp,Qs,Qs,Bc]
theorem Ki(hk:∀x,(enc x).cells.size=k)(l:List α)(j:Nat)(h:j<l.length): (cellsOf enc (l.take j)).length=j*k:=by
 rw[cellsOf_length hk];simp[Nat.min_eq_left (Nat.le_of_lt h)]
theorem Kr(hk:∀x,(enc x).cells.size=k)(hv:∀x,enc x=.agg (enc x).cells)(l:List α)(R:List Value)(d:α)(j:Nat)(h:j<l.length): Zk true k (cellsOf enc l++R).toArray (0+j*k)=some (enc (l.getD j d)):=by
 have a:l.getD j d=l[j]:=by simp[List.getD,h]
 rw[a,Dk l j h,Nat.zero_add, ←Ki hk l j h]
 have:=Rb (cellsOf enc (l.take j)) (enc l[j]).cells.toList (cellsOf enc (l.drop (j+1))++R) k (by simp[hk])
 rw[List.append_assoc,this]
 conv=>rhs;rw[hv]
theorem Tr(hk:∀x,(enc x).cells.size=k)(l:List α)(R:List Value)(j:Nat)(h:j<l.length)(y:α): Zl (cellsOf enc l++R).toArray (0+j*k) (enc y).cells.toList=(cellsOf enc (l.set j y)++R).toArray:=by
 rw[Dk l j h,Dj l j h,Nat.zero_add, ←Ki hk l j h,List.append_assoc,List.append_assoc _ _ R]
 exact Gr _ _ _ _ (by simp[hk])
theorem IU(hk:∀x,(enc x).cells.size=k)(l:List α)(R:List Value)(j:Nat)(h:j<l.length): 0+j*k+k≤(cellsOf enc l++R).toArray.size:=by
 have:=CB hk l j h
 simp only[List.size_toArray,List.length_append] at *;omega
end
end Go.Fx
namespace Go.Fx
open Go Go.RowKit Go.Sort Go.Proofs
theorem YN{w w':World}(h:Below w.heap.size w w')(hd:w.drawn≤w'.drawn): ∃q os,w'=grow (w.drewN q) os:=by
 refine⟨w'.drawn-w.drawn,w'.heap.extract w.heap.size w'.heap.size,?_⟩
 have d:w'.heap=w.heap++w'.heap.extract w.heap.size w'.heap.size:=by
  apply Array.ext_getElem?
  intro k
  rw[Array.getElem?_append]
  by_cases hk:k<w.heap.size
  ·rw[if_pos hk,h.block k hk]
  ·rw[if_neg hk,Array.getElem?_extract]
   by_cases b:k<w'.heap.size
   ·rw[if_pos (by omega)];congr 1;omega
   ·rw[if_neg (by omega),Array.getElem?_eq_none (by omega)]
 have h1:=h.tape;have a:=h.os;have c:=h.output
 cases w;cases w'
 simp only[grow,World.drewN] at *
 subst h1;subst a;subst c
 congr 1
 omega
section
variable{P:Program}{α:Type}[Inhabited α]{enc:α→Value}{w:World}{blk:Nat}{S:Nat→Prop}{w0:World}{σ:List (Nat×Obj)}{Φ:List Zp}
theorem Kd(w:World)(a off m:Nat)(f:Array α)(os:Array Obj)(b:Nat)(d:b<w.heap.size)(c:b≠a): (sortWorld enc w a off m f os).heap[b]?=w.heap[b]?:=by
 unfold sortWorld
 rw[heap_grow_old _ _ (by simpa using d)]
 unfold putRow mapBlock
 simp only[heap_ahead]
 rw[Array.getElem?_modify,if_neg (fun e=>c e.symm)]
theorem BC(w:World)(a off m:Nat)(b:Array α)(os:Array Obj): (sortWorld enc w a off m b os).heap.size=w.heap.size+os.size:=by
 unfold sortWorld;simp
theorem eC{g:Nat}{cb:Array Value}{i:α→α→Int}{off size:Nat}{X:Nat→Prop}(hf:∀x y,Xo P g (enc x::enc y::cb.toList) Φ (.int .i64 (i x y)))(j:∀b,X b→b<w.heap.size)(l:X blk)(f:∀R∈Φ,R.p X w): CmpLays1 P g cb enc i blk off size w:=by
 intro m os c _ x y
 have k:=BC (enc:=enc) w blk off m c os
 have hold:∀R∈Φ,R.p X (sortWorld enc w blk off m c os):=fun R hR=>R.st X X w _ (f R hR)
  (fun b d hx=>Kd w blk off m c os b d (fun e=>hx (e ▸ l))) (by omega) (fun b h =>.inl h)
 have h:=Calls.drawn (hf x y X _ (fun b h=>by have:=j b h;omega) hold) (by rintro w' ⟨v,Ψ,he,_⟩;cases he)
 have n:(enc x::enc y::cb.toList).toArray=#[enc x,enc y]++cb:=by apply Array.ext';simp
 rw[n] at h
 refine h.mono ?_
 rintro e w' ⟨⟨v,Ψ,he,⟨hv,_⟩,a,_⟩,hd⟩
 exact⟨by rw[he,hv],YN a hd⟩
theorem E6{T:TypeId}{l:List α}{R:List Value}(h:w.heap[blk]?=some (.cells (l.map enc++R).toArray T (0,0))): Holds enc w blk 0 l.toArray:=by
 intro j hj
 have a:j<l.length:=by simpa using hj
 refine⟨?_,?_⟩
 ·rw[cell_of w blk (0+j) h]
  simp[a,List.getElem?_append,getElem!_pos,hj]
 ·exact H7 w blk (0+j) h
theorem Ng{l d:List α}{R:List Value}(hl:d.length=l.length): putCells enc 0 d.toArray (l.map enc++R).toArray=(d.map enc++R).toArray:=by
 unfold putCells
 apply Array.ext_getElem?
 intro k
 rw[Array.getElem?_mapIdx]
 simp only[List.getElem?_toArray,Nat.zero_le,true_and,Nat.zero_add,List.size_toArray]
 by_cases hk:k<d.length
 ·have a:k<l.length:=by omega
  simp[hk,a,List.getElem?_append,getElem!_pos]
 ·have a:¬k<l.length:=by omega
  simp only[hk,if_false]
  rw[List.getElem?_append_right (by simp;omega),List.getElem?_append_right (by simp;omega)]
  simp[hl]
theorem La{T:TypeId}{l d:List α}{R:List Value}(a:blk<w.heap.size)(h:w.heap[blk]?=some (.cells (l.map enc++R).toArray T (0,0)))(hl:d.length=l.length)(m:Nat)(os:Array Obj):
  (sortWorld enc w blk 0 m d.toArray os).heap[blk]?=some (.cells (d.map enc++R).toArray T (0,0)):=by
 unfold sortWorld
 rw[heap_grow_old _ _ (by simpa using a)]
 unfold putRow mapBlock
 simp only[heap_ahead]
 rw[Array.getElem?_modify,if_pos rfl,h]
 simp[onCells,Ng hl]
theorem mem_sorted{T:TypeId}{l d:List α}{R:List Value}(v:∀k,S k→k<w0.heap.size)(h:Mem S w0 ((blk,.cells (l.map enc++R).toArray T (0,0))::σ) Φ w)(hl:d.length=l.length)(m:Nat)(os:Array Obj):
  Mem S w0 ((blk,.cells (d.map enc++R).toArray T (0,0))::σ) Φ (sortWorld enc w blk 0 m d.toArray os):=by
 have f:=h.own (blk,_) (List.mem_cons_self ..)
 have hblk:blk<w.heap.size:=by
  rcases Nat.lt_or_ge blk w.heap.size with g|g
  ·exact g
  ·simp[Array.getElem?_eq_none g] at f
 have c:=h.new (blk,_) (List.mem_cons_self ..)
 have r:=BC (enc:=enc) w blk 0 m d.toArray os
 have lt:∀b o,w.heap[b]?=some o→b<w.heap.size:=fun b o ho=>by
  rcases Nat.lt_or_ge b w.heap.size with g|g
  ·exact g
  ·simp[Array.getElem?_eq_none g] at ho
 refine⟨?_,?_,?_,?_,?_⟩
 ·have e:=h.ext
  refine⟨e.os,e.tape,e.output,by have:=e.size;omega,fun k hk=>?_⟩
  rw[Kd w blk 0 m d.toArray os k (by have:=e.size;omega) (by simp only at c;omega)]
  exact e.block k hk
 ·intro p a
  rcases List.mem_cons.1 a with rfl|a
  ·exact La hblk f hl m os
  ·have ho:=h.own p (List.mem_cons_of_mem _ a)
   have j:p.1≠blk:=fun e=>(List.pairwise_cons.1 h.nd).1 p a e.symm
   rw[Kd w blk 0 m d.toArray os p.1 (lt _ _ ho) j]
   exact ho
 ·intro p a
  rcases List.mem_cons.1 a with rfl|a
  ·exact c
  ·exact h.new p (List.mem_cons_of_mem _ a)
 ·have:=h.nd
  rw[List.pairwise_cons] at this ⊢
  exact this
 ·obtain ⟨X,h1,q,t,u⟩:=h.facts
  have i:X blk:=q (blk,_) (List.mem_cons_self ..)
  refine⟨X,h1,?_,fun b s=>by have:=t b s;omega,fun R hR=>R.st X X w _ (u R hR) (fun b n hx=>Kd w blk 0 m d.toArray os b n (fun e=>hx (e ▸ i))) (by omega) (fun b h =>.inl h)⟩
  intro p a
  rcases List.mem_cons.1 a with rfl|a
  ·exact i
  ·exact q p (List.mem_cons_of_mem _ a)
theorem Hr{j:Go.Shelf.Ren}(p:SlLaysF.n6 P j)(h1:∀x,(enc x).oneCell'=true)(a:α→α→Int)(hO:SWO (ltOf a))(hT:∀x y,(ltOf a) x y=false→(ltOf a) y x=false→x=y){g:Nat}{cb:Array Value}(o:∀args w,(callFunc g args).run P w=.ok (.enter g args) w)(hf:∀x y,Xo P g (enc x::enc y::cb.toList) Φ (.int .i64 (a x y)))(b cap:Nat)(T:TypeId)(l:List α)(R:List Value)(s:l.length<4611686018427387904):
  FR P (j.f 6) [.slice (some ⟨b,0,none⟩) l.length cap,.func (.func g) #[] cb] ((b,.cells (l.map enc++R).toArray T (0,0))::σ) Φ
   (fun v σ' Ψ=>v=.tuple #[]∧σ'=(b,.cells ((l.mergeSort fun x y => !(ltOf a) y x).map enc++R).toArray T (0,0))::σ∧Ψ=Φ):=by
 intro S w0 w q hm
 obtain ⟨X,_,m,k,r⟩:=hm.facts
 have c:X b:=m (b,_) (List.mem_cons_self ..)
 have d:=hm.own (b,_) (List.mem_cons_self ..)
 have i:l.toArray.size=l.length:=by simp
 have h:=Any.slices_SortFunc_total p enc h1 a hO g cb b 0 cap l.toArray w o (eC hf k c r) (E6 d) (k b c) (by simpa using s) hT
 rw[i] at h
 refine h.mono ?_
 rintro e w' ⟨he,n,os,hw⟩
 subst hw
 exact⟨_,_,_,he,⟨rfl,rfl,rfl⟩,mem_sorted q hm (by simp) n os⟩
end
#print axioms Hr
end Go.Fx
namespace Go.Fx
open Go Go.RowKit Go.Sort Go.Proofs
section
variable{P:Program}{α:Type}[Inhabited α]{enc:α→List Value}{k:Nat}{w:World}{blk:Nat}{S:Nat→Prop}{w0:World}{σ:List (Nat×Obj)}{Φ:List Zp}
theorem GK(hk:∀x,(enc x).length=k)(a:0<k)(l:List α): (flatK enc k l.toArray).toList=l.flatMap enc:=by
 induction l with
 | nil=>simp[flatK]
 | cons x l c =>
  apply List.ext_getElem?
  intro t
  rw[List.flatMap_cons,List.getElem?_append]
  have hlen:(l.flatMap enc).length=l.length*k:=by rw[←c];simp
  by_cases ht:t<(enc x).length
  ·rw[if_pos ht]
   have b:t/k=0:=Nat.div_eq_of_lt (by rw[←hk x];exact ht)
   have h1:t%k=t:=Nat.mod_eq_of_lt (by rw[←hk x];exact ht)
   have e:t<(l.length+1)*k:=by rw[Nat.add_mul,Nat.one_mul];have:=hk x;omega
   simp only[flatK,Array.toList_map,List.getElem?_map,Array.toList_range]
   rw[List.getElem?_range (by simpa using e),Option.map_some,b,h1,List.getElem?_eq_getElem ht]
   simp[ht]
  ·rw[if_neg ht]
   have hx:=hk x
   rw[←c]
   obtain ⟨s,hs⟩:∃s,t=s+k:=⟨t-k,by omega⟩
   have b:t/k=s/k+1:=by rw[hs,Nat.add_div_right _ a]
   have h1:t%k=s%k:=by rw[hs,Nat.add_mod_right]
   rw[show t-(enc x).length=s by omega]
   simp only[flatK,Array.toList_map,List.getElem?_map,Array.toList_range,List.size_toArray,List.length_cons]
   by_cases d:s<l.length*k
   ·rw[List.getElem?_range d,List.getElem?_range (by rw[Nat.add_mul,Nat.one_mul];omega),Option.map_some,Option.map_some,b,h1]
    have f:s/k<l.length:=(Nat.div_lt_iff_lt_mul a).2 d
    simp[f]
   ·rw[List.getElem?_eq_none (by rw[List.length_range,Nat.add_mul,Nat.one_mul];omega),List.getElem?_eq_none (by rw[List.length_range];omega)];rfl
theorem eB{g:Nat}{cb:Array Value}{i:α→α→Int}{off size:Nat}{X:Nat→Prop}(hf:∀x y,Xo P g (.agg (enc x).toArray :: .agg (enc y).toArray::cb.toList) Φ (.int .i64 (i x y)))(j:∀b,X b→b<w.heap.size)(n:X blk)(f:∀R∈Φ,R.p X w): CmpLays P g cb enc k i blk off size w:=by
 intro m os a _ x y
 show Calls P g _ (sortWorld id w blk off m (flatK enc k a) os) _
 have l:=BC (enc:=id) w blk off m (flatK enc k a) os
 have hold:∀R∈Φ,R.p X (sortWorld id w blk off m (flatK enc k a) os):=fun R hR=>R.st X X w _ (f R hR)
  (fun b d hx=>Kd (enc:=id) w blk off m (flatK enc k a) os b d (fun e=>hx (e ▸ n))) (by omega) (fun b h =>.inl h)
 have h:=Calls.drawn (hf x y X _ (fun b h=>by have:=j b h;omega) hold) (by rintro w' ⟨v,Ψ,he,_⟩;cases he)
 have o:(Value.agg (enc x).toArray :: .agg (enc y).toArray::cb.toList).toArray=#[.agg (enc x).toArray,.agg (enc y).toArray]++cb:=by apply Array.ext';simp
 rw[o] at h
 refine h.mono ?_
 rintro e w' ⟨⟨v,Ψ,he,⟨hv,_⟩,c,_⟩,hd⟩
 exact⟨by rw[he,hv],YN c hd⟩
theorem Mq{r:Go.Shelf.Ren}(F:SlLaysF0.n14 P r)(G:∀w,(isAgg (r.t 24)).run P w=.ok true w)(J:∀w,(Go.sizeOf (r.t 24)).run P w=.ok k w)(hk:∀x,(enc x).length=k)(j:0<k)(h1:∀x,∀v∈enc x,v.oneCell'=true)(c:α→α→Int)(hO:SWO (ltOf c))(hT:∀x y,(ltOf c) x y=false→(ltOf c) y x=false→x=y){g:Nat}{cb:Array Value}(I:∀args w,(callFunc g args).run P w=.ok (.enter g args) w)(hf:∀x y,Xo P g (.agg (enc x).toArray :: .agg (enc y).toArray::cb.toList) Φ (.int .i64 (c x y)))(b cap:Nat)(T:TypeId)(l:List α)(R:List Value)(a:Nat)(p:a<4611686018427387904)(H:l.length<4611686018427387904):
  FR P (r.f 14) [.slice (some ⟨b,0,none⟩) l.length cap,.int .i64 ((0:Nat):Int),.int .i64 ((l.length:Nat):Int),.int .i64 ((a:Nat):Int),.func (.func g) #[] cb] ((b,.cells (l.flatMap enc++R).toArray T (0,0))::σ) Φ
   (fun v σ' Ψ=>v=.tuple #[]∧σ'=(b,.cells ((l.mergeSort fun x y => !(ltOf c) y x).flatMap enc++R).toArray T (0,0))::σ∧Ψ=Φ):=by
 intro S w0 w E hm
 obtain ⟨X,_,C,A,K⟩:=hm.facts
 have m:X b:=C (b,_) (List.mem_cons_self ..)
 have q:=hm.own (b,_) (List.mem_cons_self ..)
 have i:l.toArray.size=l.length:=by simp
 have o:=GK hk j l
 have hH:HoldsK enc k w b 0 l.toArray:=by
  show Holds id w b 0 (flatK enc k l.toArray)
  have e:flatK enc k l.toArray=(l.flatMap enc).toArray:=by apply Array.ext';rw[o]
  rw[e]
  exact E6 (enc:=id) (T:=T) (R:=R) (by simpa using q)
 have h:=AnyQ.pdqsortCmpFunc_all F k G J enc c g cb hO b 0 cap l.toArray w I (eB hf A m K) ⟨hk,h1,hH,A b m⟩ (l.length+1) 0 l.length a l.toArray w
  (by omega) rfl (SWK.start hH) (Nat.zero_le _) (by simp) (by simpa using H) p (Or.inl rfl)
 rw[i] at h
 refine h.mono ?_
 rintro e w' ⟨he,n,os,hw⟩
 have B:=pdq_sorts (ltOf c) hO l.toArray 0 l.length a true true (Nat.zero_le _) (by simp) (Or.inl rfl)
 have hu:=sorted_unique_holds hO hT l.toArray _ (by rw[i];exact B.1) (by rw[i];exact B.2)
 have u:pdq (ltOf c) l.toArray 0 l.length a true true=(l.mergeSort fun x y => !(ltOf c) y x).toArray:=by
  apply Array.ext';rw[hu]
 rw[u] at hw
 subst hw
 have z:Mem S w0 ((b,.cells ((l.flatMap enc).map id++R).toArray T (0,0))::σ) Φ w:=by rw[List.map_id];exact hm
 have s:(flatK enc k (l.mergeSort fun x y => !(ltOf c) y x).toArray).toList.length=(l.flatMap enc).length:=by
  rw[←o,Array.length_toList,Array.length_toList,size_flatK,size_flatK];simp
 have hr:=mem_sorted (enc:=id) (d:=(flatK enc k (l.mergeSort fun x y => !(ltOf c) y x).toArray).toList) E z s n os
 rw[List.map_id,GK hk j] at hr
 refine⟨_,_,_,he,⟨rfl,rfl,rfl⟩,?_⟩
 have D:(l.mergeSort fun x y => !(ltOf c) y x).flatMap enc=(flatK enc k (l.mergeSort fun x y => !(ltOf c) y x).toArray).toList:=(GK hk j _).symm
 rw[show sortWorldK enc k w b 0 n (l.toArray.toList.mergeSort fun x y => !(ltOf c) y x).toArray os=sortWorld id w b 0 n ((l.mergeSort fun x y => !(ltOf c) y x).flatMap enc).toArray os from by
  rw[D];simp only[Array.toArray_toList];rfl]
 exact hr
end
#print axioms Mq
end Go.Fx
namespace Go.Fx
open Go Go.RowKit
variable{P:Program}{n:Nat}{S:Nat→Prop}{w0 w:World}{L:List (Nat×Value)}{σ σ':List (Nat×Obj)}{Φ:List Zp}{a:Act}{K:Act→World→Prop}{Q:Exit→Act→World→Prop}
theorem Pm{o:List (Nat×Obj)}{ys:List Value}{ad2:Option Addr}{xs:List Value}{E E2:TypeId}(h:St n S w0 L (o++σ) Φ a w){d:Nat}{x y:Operand}{T D ty:TypeId}{pos:String}{r:Array Edge}{g:Option (Nat×Bool)}{i:TypeInfo}{z v:Value}{k m m2 c2:Nat}(hx:Fx.ev L x=some v)(hG:GrowO k E v m xs o)(hy:Fx.ev L y=some (.slice ad2 m2 c2))(hR:Row ad2 ys∈Φ)(hT:∀w,(underlying T).run P w=.ok (.slice E) w)(u:∀w,(underlying D).run P w=.ok (.slice E2) w)(hi:∀w,(typeInfo E).run P w=.ok i w)(hk:∀w,(Go.sizeOf E).run P w=.ok k w)(hz:∀w,(zeroValue E).run P w=.ok z w)(H:z.cells.size=k)(Y:k≠0)(hb:0<i.bytes)(j:ys.length=m2*k)(V:ys.all flat=true)(t:i.bytes*(2*(m+m2)+192)≤281474976710656)(hd:d<n)(kk:∀v' o' w',GrowO k E v' (m+m2) (xs++ys) o'→St n S w0 ((d,v')::L) (o'++σ) Φ (a.put (some d) v') w'→K (a.put (some d) v') w'):
  (Oper.mk (some d) (.call ⟨.builtin .append,#[x,y],#[T,D]⟩) ty pos r g).wp P a w K Q:=by
 have C:∀w':World,w'.heap=w.heap→(Builtin.firstCells k m2 (.slice ad2 m2 c2)).run P w'=.ok ys.toArray w':=by
  obtain ⟨X,_,_,W⟩:=h.fact hR
  exact CW W j
 have q:∀v v' w1 M,Fx.ev L x=some v→(Builtin.append_ #[T,D] ty #[v,.slice ad2 m2 c2]).run P w1=.ok v' M →
   (execOp a.eval (Oper.mk (some d) (.call ⟨.builtin .append,#[x,y],#[T,D]⟩) ty pos r g)).run P w1=.ok (.value v') M:=by
  intro v v' w1 M hv h1
  have e:(#[x,y]:Array Operand).map a.eval=#[v,.slice ad2 m2 c2]:=by simp[h.ev hv,h.ev hy]
  simp only[execOp,resolve,e,Sem.run_bind,Sem.run_pure,Result.andThen,invoke,Go.builtin,h1]
 have l:∀(ad:Option Addr) (c:Nat),Fx.ev L x=some (.slice ad m c)→c<m+m2→xs.length=m*k→(∀w':World,w'.heap=w.heap→(Builtin.firstCells k m (.slice ad m c)).run P w'=.ok xs.toArray w') →
   (Oper.mk (some d) (.call ⟨.builtin .append,#[x,y],#[T,D]⟩) ty pos r g).wp P a w K Q:=by
  intro ad c hv hc hlen hold
  obtain ⟨O,w',U,f,N,A,I,hr⟩:=Ay (P:=P) (w:=w) (c2:=c2) (n:=m) (m:=m2) (c:=c) (xs:=xs) (ys:=ys) (ad:=ad) hT u hi hk hz H Y hb t hc hold C ty
  refine Qf (q _ _ _ _ hv hr) ?_
  have Z:St n S w0 L (o++σ) Φ a w':=by
   refine⟨h.size,h.defers,h.val,⟨by rw[N];exact h.ext.os,by rw[A];exact h.ext.tape,by rw[I];exact h.ext.output,by rw[f];exact h.ext.size,fun k hk=>by rw[f];exact h.ext.block k hk⟩,fun p W=>by rw[f];exact h.own p W,h.new,h.nd,?_⟩
   obtain ⟨X,h1,J,h3,h4⟩:=h.facts
   exact⟨X,h1,J,by rw[f];exact h3,fun R hR=>R.st X X w w' (h4 R hR) (fun b _ _=>by rw[f]) (by rw[f];exact Nat.le_refl _) (fun b hb =>.inl hb)⟩
  refine kk _ [(w'.heap.size,.cells (xs++ys++Cj (O-(m+m2)) z.cells.toList).toArray E (0,0))] _ ⟨by simp[hlen,j,Nat.add_mul],.inr ⟨w'.heap.size,O,Cj (O-(m+m2)) z.cells.toList,rfl,?_,U,rfl⟩⟩ (((Z.drop (List.sublist_append_right _ _)).alloc _).put hd _)
  simp only[List.length_append,hlen,j,Kq,Array.length_toList,H]
  rw[←Nat.add_mul, ←Nat.add_mul];congr 1;omega
 obtain ⟨hlen,⟨rfl,a6,ho⟩|⟨b,c,R,rfl,s,a7,ho⟩⟩:=hG
 ·subst ho
  subst a6
  have F:xs=[]:=List.eq_nil_of_length_eq_zero (by simpa using hlen)
  by_cases J:m2=0
  ·subst J
   have G:ys=[]:=List.eq_nil_of_length_eq_zero (by simpa using j)
   have hr:(Builtin.append_ #[T,D] ty #[.slice none 0 0,.slice ad2 0 c2]).run P w=.ok (.slice none 0 0) w:=by
    have e:=C w rfl
    unfold Builtin.append_
    simp only[List.getElem?_toArray,List.getElem?_cons_zero,List.getElem?_cons_succ,Sem.run_bind,hT,u,hk,Result.andThen,Sem.run_pure,Bool.false_eq_true,if_false,Builtin.lenOf,Nat.add_zero,Nat.le_refl,if_true,Bool.not_false,e,G]
   refine Qf (q _ _ _ _ hx hr) ?_
   exact kk _ [] _ ⟨by simp[F,G],.inl ⟨rfl,rfl,rfl⟩⟩ (h.put hd _)
  ·refine l none 0 hx (by omega) hlen (fun w' _=>?_)
   simp[Builtin.firstCells,F]
 ·subst ho
  have B:=h.own (b,Obj.cells (xs++R).toArray E (0,0)) (by simp)
  by_cases hc:m+m2≤c
  ·obtain ⟨w',hr,e1,e2,e3,e4,e5,e6⟩:=Az (P:=P) (w:=w) (c2:=c2) (n:=m) (m:=m2) hT u hk hc B (by rw[List.size_toArray,s];exact Nat.le_refl _) j C V ty
   refine Qf (q _ _ _ _ hx hr) ?_
   have hle:ys.length≤R.length:=by
    have h1:(m+m2)*k≤c*k:=Nat.mul_le_mul_right k hc
    rw[Nat.add_mul] at h1
    simp at s;omega
   rw[←hlen,Ke ys xs R hle] at e5
   have Z:=h.turn (σ':=(b,Obj.cells (xs++ys++R.drop ys.length).toArray E (0,0))::σ) Upd.head e1 e2 e3 e4 e5 e6
   refine kk _ [(b,_)] _ ⟨by simp[hlen,j,Nat.add_mul],.inr ⟨b,c,R.drop ys.length,rfl,?_,hc,rfl⟩⟩ (Z.put hd _)
   simp at s ⊢;omega
  ·refine l _ c hx (by omega) hlen (fun w' a1=>?_)
   rw[←a1] at B
   simp only[Builtin.firstCells]
   rw[Jx B (by simp[hlen])]
   congr 1
   apply Array.ext'
   simp[hlen]
theorem Head.conv{ops:Array Oper}{Kf:Exit→Act→World→Prop}: ∀(H:List Nat) (L:List (Nat×Value)) (σ σ':List (Nat×Obj)) (Φ Φ':List Zp),
  (∀L a w c,St n S w0 L (c++σ) Φ a w→St n S w0 L (c++σ') Φ' a w)→Head P ops n S w0 Kf H L σ' Φ'→Head P ops n S w0 Kf H L σ Φ
 | [],L,σ,σ',Φ,Φ',hc,hH=>fun a w h=>hH a w (hc L a w [] h)
 | i::H,L,σ,σ',Φ,Φ',hc,hH=>by
  rcases hH with ⟨o,d,v,ld,ho,hd,e,hq,f,hH⟩|⟨o,ho,l,hw⟩|⟨d,T,z,ty,pos,after,ho,k,hz,e,hH⟩|⟨o,d,v,b,s,ho,hd,e,hq,f,hH⟩|⟨m,hx⟩|⟨j,r,q,ho,g,hq,h1,p⟩
  ·exact .inl ⟨o,d,v,ld,ho,hd,e,hq,fun a w c h=>f a w c (hc _ a w c h),Head.conv H _ σ σ' Φ Φ' hc hH⟩
  ·exact .inr (.inl ⟨o,ho,l,fun a w c h=>hw a w c (hc _ a w c h)⟩)
  ·refine .inr (.inr (.inl ⟨d,T,z,ty,pos,after,ho,k,hz,e,fun b=>Head.conv H _ ((b,.cells z.cells T (0,0))::σ) ((b,.cells z.cells T (0,0))::σ') Φ Φ' (fun L a w c h=>?_) (hH b)⟩))
   have h1:=hc L a w (c++[(b,.cells z.cells T (0,0))]) (by simpa using h)
   simpa using h1
  ·exact .inr (.inr (.inr (.inl ⟨o,d,v,b,s,ho,hd,e,hq,fun a w c h=>f a w c (hc _ a w c h),Head.conv H _ σ σ' Φ Φ' hc hH⟩)))
  ·exact .inr (.inr (.inr (.inr (.inl ⟨m,fun a w h=>hx a w (hc _ a w [] h)⟩))))
  ·exact .inr (.inr (.inr (.inr (.inr ⟨j,r,q,ho,g,hq,fun a w c h=>h1 a w c (hc _ a w c h),fun a w c h=>p a w c (hc _ a w c h)⟩))))
theorem GrowO.cap{k:Nat}{E:TypeId}{ad:Option Addr}{m a c:Nat}{xs:List Value}{o:List (Nat×Obj)}(h:GrowO k E (.slice ad m c) a xs o): a≤c:=by
 obtain ⟨_,⟨e,d,_⟩|⟨b,f,R,h1,_,d,_⟩⟩:=h
 ·omega
 ·cases h1;exact d
section
variable{ops:Array Oper}{Kf:Exit→Act→World→Prop}{i f:Nat}{listed:Array Bool}
theorem Ko(h:St n S w0 L σ Φ a w){d:Nat}{T:TypeId}{x:Operand}{ty:TypeId}{pos:String}{c:Array Edge}{b off:Nat}{cs:Array Value}{j:TypeId}{fr:Nat×Nat}{agg:Bool}{s:Nat}{v:Value}(ho:ops[i]?=some ⟨some d,.load T x,ty,pos,c,none⟩)(hx:Fx.ev L x=some (.pointer (some ⟨b,off,none⟩)))(hm:(b,Obj.cells cs j fr)∈σ)(hagg:∀w,(isAgg T).run P w=.ok agg w)(hs:∀w,(Go.sizeOf T).run P w=.ok s w)(hv:Zk agg s cs off=some v)(hd:d<n)(k:∀g,St n S w0 ((d,v)::L) σ Φ g w→wpX P ops Kf f (listed.setIfInBounds i true) g w): BJ P ops Kf f listed i a w :=
 Jo ho (Qf (v:=v) (w':=w) (by
  simp only[execOp,h.ev hx,Sem.run_bind,Xs (h.own _ hm) hagg hs hv];rfl)
  ⟨fun o e=>by rw[ho] at e;cases e;exact Left.same (ops:=ops) (o:=⟨some d,.load T x,ty,pos,c,none⟩) ho (notF ho (fun _ he=>by cases he)),k _ (h.put hd v)⟩)
end
end Go.Fx
namespace Go.Fx
open Go Go.RowKit
abbrev optL(d:Option Nat)(v:Value): List (Nat×Value):=match d with|some d'=>[(d',v)]|none=>[]
abbrev chE(v:Value): List PanicEntry:=[{ v:=v,recovered:=false }]
theorem Mem.drop{S:Nat→Prop}{w0 w:World}{σ σ':List (Nat×Obj)}{Φ:List Zp}(h:Mem S w0 σ Φ w)(hs:List.Sublist σ' σ): Mem S w0 σ' Φ w:=by
 obtain ⟨X,h1,c,d,b⟩:=h.facts
 exact⟨h.ext,fun p a=>h.own p (hs.subset a),fun p a=>h.new p (hs.subset a),h.nd.sublist hs,X,h1,fun p a=>c p (hs.subset a),d,b⟩
theorem Mem.factsSub{S:Nat→Prop}{w0 w:World}{σ:List (Nat×Obj)}{Φ Φ':List Zp}(h:Mem S w0 σ Φ w)(hs:∀R∈Φ',R∈Φ): Mem S w0 σ Φ' w:=by
 obtain ⟨X,h1,a,c,b⟩:=h.facts
 exact⟨h.ext,h.own,h.new,h.nd,X,h1,a,c,fun R hR=>b R (hs R hR)⟩
def CtrE(P:Program)(f:FuncId)(args:List Value)(σ:List (Nat×Obj))(Φ:List Zp)(post:Value→List (Nat×Obj)→List Zp→Prop)(xpost:Value→List (Nat×Obj)→Prop): Prop :=
 ∀(S:Nat→Prop) (w0 w:World),(∀k,S k→k<w0.heap.size)→Mem S w0 σ Φ w →
  Calls P f args.toArray w fun e w'=>(∃v σ' Ψ,e=.returned v∧post v σ' Ψ∧Mem S w0 σ' Ψ w') ∨ ∃v σ',e=.panicked (chE v)∧xpost v σ'∧Mem S w0 σ' Φ w'
def PostE(S:Nat→Prop)(w0:World)(Φ:List Zp)(post:Value→List (Nat×Obj)→List Zp→Prop)(xpost:Value→List (Nat×Obj)→Prop): Ending→World→Prop :=
 fun e w'=>(∃v σ' Ψ,e=.returned v∧post v σ' Ψ∧Mem S w0 σ' Ψ w') ∨ ∃v σ',e=.panicked (chE v)∧xpost v σ'∧Mem S w0 σ' Φ w'
section
variable{P:Program}{n:Nat}{S:Nat→Prop}{w0:World}{L:List (Nat×Value)}{σ:List (Nat×Obj)}{Φ Φ0:List Zp}{a:Act}{w:World}{K:Act→World→Prop}{Q:Exit→Act→World→Prop}{post:Value→List (Nat×Obj)→List Zp→Prop}{xpost:Value→List (Nat×Obj)→Prop}
end
section
variable{P:Program}{ops:Array Oper}{Q Q':Exit→Act→World→Prop}
end
section
variable{P:Program}{n:Nat}{S:Nat→Prop}{w0:World}{L:List (Nat×Value)}{σ:List (Nat×Obj)}{Φ Φ0:List Zp}{a:Act}{w:World}{K:Act→World→Prop}{Q:Exit→Act→World→Prop}{post:Value→List (Nat×Obj)→List Zp→Prop}{xpost:Value→List (Nat×Obj)→Prop}{ops:Array Oper}{i f:Nat}{listed:Array Bool}
end
end Go.Fx
namespace Go.Fx
open Go Go.RowKit
def up(ds:List Deferred)(a:Act): Act:={ a with defers:=a.defers++ds }
section
variable{P:Program}{n:Nat}{S:Nat→Prop}{w0:World}{L:List (Nat×Value)}{σ:List (Nat×Obj)}{Φ Φ0:List Zp}{a:Act}{w:World}{K:Act→World→Prop}{Q:Exit→Act→World→Prop}{ds:List Deferred}{ops:Array Oper}
theorem Mem.perm{σ':List (Nat×Obj)}(h:Mem S w0 σ Φ w)(a:σ.Perm σ'): Mem S w0 σ' Φ w:=by
 obtain ⟨X,h1,c,d,b⟩:=h.facts
 exact⟨h.ext,fun p hm=>h.own p (a.mem_iff.2 hm),fun p hm=>h.new p (a.mem_iff.2 hm),(a.pairwise_iff (fun {x y} hne=>hne.symm)).1 h.nd,X,h1,fun p hm=>c p (a.mem_iff.2 hm),d,b⟩
section
variable{QS:Exit→Act→List Frame→World→Prop}{cs cs':List Frame}{rest:List Nat}{i:Nat}
end
end
end Go.Fx
namespace Go.Fx
open Go Go.RowKit
section
variable{P:Program}{n m l:Nat}{S:Nat→Prop}{w0 w:World}{L:List (Nat×Value)}{σ:List (Nat×Obj)}{Φ:List Zp}{a:Act}{K:Act→World→Prop}{Q:Exit→Act→World→Prop}{ops:Array Oper}
theorem Zm{c:Code}{k:Nat}(h:c.wp P (Exit.then (Code.rounds P c Q k) Q) a w): Code.rounds P c Q (k+1) a w:=h
theorem fF{f:FuncId}{args:List Value}{v:Value}(h:Ji P f args v)(Φ:List Zp): Xo P f args Φ v:=fun X w h1 _=>h X w h1 (fun _ hR=>nomatch hR)
def noDefer(l:List Oper): Bool:=l.all (fun o=>match o.op with | .defer _=>false|_=>true)
def YCtr(P:Program)(l:Nat)(x:Value)(σ:List (Nat×Obj))(Φ:List Zp)(σ':List (Nat×Obj)): Prop :=
 ∀(S:Nat→Prop) (w0 w:World),(∀k,S k→k<w0.heap.size)→Mem S w0 σ Φ w→YieldAt Fence.wide 0 P l #[x] w fun e w'=>e=.returned (.bool true)∧Mem S w0 σ' Φ w'
def ItC(P:Program)(gf:Nat)(lb:List Value)(Φ:List Zp)(xs:List Value): Prop :=
 ∀(l:Nat) (B:Nat→List (Nat×Obj)),(∀k τ,k<xs.length→YCtr P l (xs.getD k undef) (B k++τ) Φ (B (k+1)++τ)) →
  FR P gf (.func (.yield l) #[] #[]::lb) (B 0) Φ (fun v σ' Ψ=>v=.tuple #[]∧σ'=B xs.length∧Ψ=Φ)
def RoundC(P:Program)(n:Nat)(p:Nat)(assign body:Code)(L:List (Nat×Value))(Φ:List Zp)(x:Value)(σ σ':List (Nat×Obj)): Prop :=
 ∀(S:Nat→Prop) (w0:World) (l:Nat) (r:Loop) (τ:List (Nat×Obj)) (a:Act) (w:World),(∀k,S k→k<w0.heap.size)→r.state=.ready→St n S w0 ((p,x)::L) (σ++((l,.loop r)::τ)) Φ a w →
  assign.wpIn (Fence.wide.inRound l) 0 P (Exit.then (fun a1 w1 => ∃σ1 L1,St n S w0 L1 (σ1++((l,.loop r)::τ)) Φ a1 w1 ∧
   ∀w2,St n S w0 L1 (σ1++((l,.loop { r with state:=.busy })::τ)) Φ a1 w2 →
    body.wpIn (Fence.wide.inRound l) 0 P (fun e _ w3=>e=.normal∧Mem S w0 (σ'++((l,.loop { r with state:=.busy })::τ)) Φ w3) a1 w2) (fun _ _ _=>False)) a w
theorem Mem.st(h:Mem S w0 σ Φ w){a:Act}(hs:a.tmps.size=n)(hd:a.defers=[]): St n S w0 [] σ Φ a w :=
 ⟨hs,hd,fun t v ht=>(by simp[look] at ht),h.ext,h.own,h.new,h.nd,h.facts⟩
end
end Go.Fx
namespace Go.Fx
open Go Go.RowKit
variable{ty:TypeId}{pos:String}{aft:Array Edge}
section
variable{α β:Type}[DecidableEq α]
def esA(ek:α→Value)(ev:β→Value): List (α×β)→Nat→List MapEntry
 | [],_=>[]
 | p::m,i=>{ key:=ek p.1,val:=ev p.2,born:=i }::esA ek ev m (i+1)
def mB(ek:α→Value)(ev:β→Value)(m:List (α×β)): Obj:=.map (esA ek ev m 0).toArray m.length
def Zu:List (α×β)→α→Option β
 | [],_=>none
 | p::m,x=>if p.1=x then some p.2 else Zu m x
def Cm:List (α×β)→α→Nat
 | [],_=>0
 | p::m,x=>if p.1=x then 0 else Cm m x+1
def Kl:List (α×β)→α→β→List (α×β)
 | [],x,y=>[(x,y)]
 | p::m,x,y=>if p.1=x then (x,y)::m else p::Kl m x y
def Hp:List (α×β)→α→β→List (α×β)
 | [],x,y=>[(x,y)]
 | p::m,x,y=>if p.1=x then p::m else p::Hp m x y
def fndA(ev:β→Value): List (α×β)→α→Nat→Option (Nat×Value)
 | [],_,_=>none
 | p::m,x,j=>if p.1=x then some (j,ev p.2) else fndA ev m x (j+1)
variable{ek:α→Value}{ev:β→Value}
theorem Y7:∀(m:List (α×β)) (i:Nat),(esA ek ev m i).length=m.length
 | [],_=>rfl
 | p::m,i=>by simp[esA,Y7 m]
theorem fndA_eq(ev:β→Value): ∀(m:List (α×β)) (x:α) (j:Nat),fndA ev m x j=(Zu m x).map fun y=>(j+Cm m x,ev y)
 | [],_,_=>rfl
 | p::m,x,j=>by
  rw[fndA,Zu,Cm]
  by_cases h:p.1=x
  ·simp[h]
  ·simp only[h,if_false,fndA_eq ev m x (j+1)];congr 1;funext y;congr 1;omega
theorem Ww(m:List (α×β))(x:α)(y:β)(h:Zu m x=none): Kl m x y=m++[(x,y)]:=by
 induction m with
 | nil=>rfl
 | cons p m a =>
  rw[Zu] at h
  by_cases e:p.1=x
  ·simp[e] at h
  ·rw[if_neg e] at h;rw[Kl,if_neg e,a h];rfl
theorem Y9(m:List (α×β))(x:α)(y:β)(h:Zu m x=none): Hp m x y=m++[(x,y)]:=by
 induction m with
 | nil=>rfl
 | cons p m a =>
  rw[Zu] at h
  by_cases e:p.1=x
  ·simp[e] at h
  ·rw[if_neg e] at h;rw[Hp,if_neg e,a h];rfl
theorem Y8(m:List (α×β))(x:α)(y z:β)(h:Zu m x=some z): Hp m x y=m:=by
 induction m with
 | nil=>cases h
 | cons p m a =>
  rw[Zu] at h
  by_cases e:p.1=x
  ·rw[Hp,if_pos e]
  ·rw[if_neg e] at h;rw[Hp,if_neg e,a h]
theorem Wz(m:List (α×β))(x:α)(h:Zu m x=none): Cm m x=m.length:=by
 induction m with
 | nil=>rfl
 | cons p m a =>
  rw[Zu] at h
  by_cases e:p.1=x
  ·simp[e] at h
  ·rw[if_neg e] at h;rw[Cm,if_neg e,a h];rfl
theorem Pd(m:List (α×β))(x:α){z:β}(h:Zu m x=some z): Cm m x<m.length:=by
 induction m with
 | nil=>cases h
 | cons p m a =>
  rw[Zu] at h
  by_cases e:p.1=x
  ·rw[Cm,if_pos e];exact Nat.succ_pos _
  ·rw[if_neg e] at h;rw[Cm,if_neg e];exact Nat.succ_lt_succ (a h)
theorem KX:∀(m k:List (α×β)) (i:Nat),esA ek ev (m++k) i=esA ek ev m i++esA ek ev k (i+m.length)
 | [],_,_=>rfl
 | p::m,k,i=>by simp only[List.cons_append,esA,KX m k (i+1),List.length_cons];rw[show i+1+m.length=i+(m.length+1) by omega]
theorem IG:∀(m:List (α×β)) (i j:Nat) (h:j<m.length),(esA ek ev m i)[j]?=some { key:=ek (m[j]).1,val:=ev (m[j]).2,born:=i+j }
 | p::m,i,0,_=>rfl
 | p::m,i,j+1,h=>by
  simp only[esA,List.getElem?_cons_succ,List.getElem_cons_succ]
  rw[IG m (i+1) j (Nat.lt_of_succ_lt_succ h),show i+1+j=i+(j+1) by omega]
theorem Ln(m:List (α×β))(x:α){z:β}(h:Zu m x=some z): m[Cm m x]'(Pd m x h)=(x,z):=by
 induction m with
 | nil=>cases h
 | cons p m b =>
  by_cases e:p.1=x
  ·have a:Cm (p::m) x=0:=by rw[Cm,if_pos e]
   rw[Zu,if_pos e] at h
   simp only[a,List.getElem_cons_zero]
   rw[←e, ←Option.some.inj h]
  ·have a:Cm (p::m) x=Cm m x+1:=by rw[Cm,if_neg e]
   rw[Zu,if_neg e] at h
   simp only[a,List.getElem_cons_succ]
   exact b h
theorem KF{g:MapEntry→MapEntry}: ∀(m:List (α×β)) (i:Nat) (x:α) (y z:β),(∀b c,g { key:=ek x,val:=b,born:=c }={ key:=ek x,val:=ev y,born:=c })→Zu m x=some z →
  (esA ek ev m i).modify (Cm m x) g=esA ek ev (Kl m x y) i
 | [],_,_,_,_,_,h=>by cases h
 | p::m,i,x,y,z,a,h=>by
  rw[Zu] at h
  by_cases e:p.1=x
  ·rw[Cm,Kl,if_pos e,if_pos e,esA,esA,List.modify_zero_cons, ←a _ _];subst e;rfl
  ·rw[if_neg e] at h
   rw[Cm,Kl,if_neg e,if_neg e,esA,esA,List.modify_succ_cons,KF m (i+1) x y z a h]
theorem dP(m:List (α×β))(x:α)(y:β){z:β}(h:Zu m x=some z): (Kl m x y).length=m.length:=by
 induction m with
 | nil=>cases h
 | cons p m a =>
  rw[Zu] at h
  by_cases e:p.1=x
  ·rw[Kl,if_pos e];rfl
  ·rw[if_neg e] at h;rw[Kl,if_neg e,List.length_cons,a h];rfl
theorem getA_put(m:List (α×β))(x:α)(y:β)(u:α): Zu (Kl m x y) u=if x=u then some y else Zu m u:=by
 induction m with
 | nil=>rfl
 | cons p m b =>
  by_cases e:p.1=x
  ·rw[Kl,if_pos e,Zu,Zu]
   by_cases a:x=u
   ·simp[a]
   ·rw[if_neg a,if_neg a,if_neg (by rw[e];exact a)]
  ·rw[Kl,if_neg e,Zu,Zu,b]
   by_cases a:p.1=u
   ·rw[if_pos a,if_pos a,if_neg (fun c=>e (a.trans c.symm))]
   ·rw[if_neg a,if_neg a]
theorem fo(m:List (α×β))(x:α)(y z:β): (Hp m x z).modify (Cm m x) (fun p=>(p.1,y))=Kl m x y:=by
 induction m with
 | nil=>rfl
 | cons p m a =>
  by_cases e:p.1=x
  ·rw[Hp,Cm,Kl,if_pos e,if_pos e,if_pos e,List.modify_zero_cons,e]
  ·rw[Hp,Cm,Kl,if_neg e,if_neg e,if_neg e,List.modify_succ_cons,a]
theorem dQ(m:List (α×β))(x:α)(z:β): Cm m x<(Hp m x z).length:=by
 induction m with
 | nil=>exact Nat.one_pos
 | cons p m a =>
  by_cases e:p.1=x
  ·rw[Hp,Cm,if_pos e,if_pos e];exact Nat.succ_pos _
  ·rw[Hp,Cm,if_neg e,if_neg e];exact Nat.succ_lt_succ a
theorem DO(m:List (α×β))(x:α)(z:β): (Zu (Hp m x z) x).getD z=(Zu m x).getD z:=by
 induction m with
 | nil=>simp[Hp,Zu]
 | cons p m a =>
  by_cases e:p.1=x
  ·rw[Hp,if_pos e]
  ·rw[Hp,if_neg e,Zu,Zu,if_neg e,if_neg e,a]
theorem Wx(m:List (α×β))(x:α)(y:β)(h:(m.map (·.1)).Nodup): ((Kl m x y).map (·.1)).Nodup:=by
 have hm:∀(m:List (α×β)) u,u∈(Kl m x y).map (·.1)→u=x∨u∈m.map (·.1):=by
  intro m
  induction m with
  | nil=>intro u hu;simp[Kl] at hu;exact .inl hu
  | cons p m a =>
   intro u hu
   by_cases e:p.1=x
   ·rw[Kl,if_pos e] at hu;simp only[List.map_cons,List.mem_cons] at hu ⊢
    rcases hu with hu|hu
    ·exact .inl hu
    ·exact .inr (.inr hu)
   ·rw[Kl,if_neg e] at hu;simp only[List.map_cons,List.mem_cons] at hu ⊢
    rcases hu with hu|hu
    ·exact .inr (.inl hu)
    ·rcases a u hu with h1|h1
     ·exact .inl h1
     ·exact .inr (.inr h1)
 induction m with
 | nil=>simp[Kl]
 | cons p m a =>
  rw[List.map_cons,List.nodup_cons] at h
  by_cases e:p.1=x
  ·rw[Kl,if_pos e,List.map_cons,List.nodup_cons];exact⟨e ▸ h.1,h.2⟩
  ·rw[Kl,if_neg e,List.map_cons,List.nodup_cons]
   refine⟨fun hu=>?_,a h.2⟩
   rcases hm m _ hu with h1|h1
   ·exact e h1
   ·exact h.1 h1
theorem Fa{m:List (α×β)}{x:α}{y:β}(h:Zu m x=some y): (x,y)∈m:=by
 have:=Ln m x h
 rw[←this];exact List.getElem_mem _
theorem Ix{m:List (α×β)}(a:(m.map (·.1)).Nodup){p:α×β}(h:p∈m): Zu m p.1=some p.2:=by
 induction m with
 | nil=>cases h
 | cons q m b =>
  rw[List.map_cons,List.nodup_cons] at a
  rcases List.mem_cons.1 h with rfl|h
  ·rw[Zu,if_pos rfl]
  ·rw[Zu,if_neg (fun e=>a.1 (by rw[e];exact List.mem_map.2 ⟨p,h,rfl⟩)),b a.2 h]
structure MK(P:Program)(T K E:TypeId){α:Type}[DecidableEq α](ek:α→Value)(z:Value): Prop where
 hT:∀w,(underlying T).run P w=.ok (.map K E) w
 hz:∀w,(zeroValue E).run P w=.ok z w
 ck:∀e x w,(Instr.checkKey e 10000 K (ek x)).run P w=.ok () w
 sb:∀x,Instr.sameBits 10000 (ek x) (ek x)=true
 fk:∀ {β:Type} (ev:β→Value) (m:List (α×β)) (x:α) w,(Instr.findKey K (ek x) (esA ek ev m 0)).run P w=.ok (fndA ev m x 0) w
variable{P:Program}{T K E:TypeId}{z0:β}
theorem M5(heq:∀x y w,(Op.equal K (ek x) (ek y)).run P w=.ok (decide (x=y)) w): ∀(m:List (α×β)) (x:α) (i j:Nat) (w:World),(Instr.findAsking K (ek x) (esA ek ev m i) j).run P w=.ok (fndA ev m x j) w
 | [],_,_,_,_=>rfl
 | p::m,x,i,j,w=>by
  simp only[esA,Instr.findAsking,Sem.run_bind,heq,Result.andThen,fndA]
  by_cases h:p.1=x
  ·rw[if_pos (decide_eq_true h.symm),if_pos h];rfl
  ·rw[if_neg (by simp;exact fun e=>h e.symm),if_neg h];exact M5 heq m x (i+1) (j+1) w
theorem MK.ofAgg{D:TypeDesc}{z:Value}(hT:∀w,(underlying T).run P w=.ok (.map K E) w)(hz:∀w,(zeroValue E).run P w=.ok z w)(c:∀w,(underlying K).run P w=.ok D w)(d:∀a b,Instr.sameNow D a b=none)(ck:∀e x w,(Instr.checkKey e 10000 K (ek x)).run P w=.ok () w)(sb:∀x,Instr.sameBits 10000 (ek x) (ek x)=true)(heq:∀x y w,(Op.equal K (ek x) (ek y)).run P w=.ok (decide (x=y)) w): MK P T K E ek z where
 hT:=hT
 hz:=hz
 ck:=ck
 sb:=sb
 fk:=fun ev m x w=>by
  unfold Instr.findKey
  simp only[Sem.run_bind,c,Result.andThen]
  rcases m with _|⟨p,m⟩
  ·rfl
  ·have:Instr.findNow D (ek x) (esA ek ev (p::m) 0) 0=none:=by rw[esA,Instr.findNow,d]
   rw[this]
   exact M5 heq (p::m) x 0 0 w
theorem Iz{q:IntKind}{f:α→Int}(hf:∀x y,f x=f y→x=y)(ev:β→Value): ∀(m:List (α×β)) (x:α) (i j:Nat),
  Instr.findNow (.int q) (.int q (f x)) (esA (fun x =>.int q (f x)) ev m i) j=some (fndA ev m x j)
 | [],_,_,_=>rfl
 | p::m,x,i,j=>by
  rw[esA,Instr.findNow,Instr.sameNow,if_pos rfl,fndA]
  by_cases h:p.1=x
  ·subst h;simp
  ·have:(f x == f p.1)=false:=by rw[beq_eq_false_iff_ne];exact fun e=>h (hf _ _ e).symm
   rw[this,if_neg h];exact Iz hf ev m x (i+1) (j+1)
theorem MK.ofInt{q:IntKind}{f:α→Int}{z:Value}(hT:∀w,(underlying T).run P w=.ok (.map K E) w)(hz:∀w,(zeroValue E).run P w=.ok z w)(a:∀w,(underlying K).run P w=.ok (.int q) w)(hf:∀x y,f x=f y→x=y): MK P T K E (fun x =>.int q (f x)) z where
 hT:=hT
 hz:=hz
 ck:=fun e x w=>by unfold Instr.checkKey;simp only[Sem.run_bind,a,Result.andThen];rfl
 sb:=fun x=>by simp[Instr.sameBits]
 fk:=fun ev m x w=>by
  unfold Instr.findKey
  simp only[Sem.run_bind,a,Result.andThen,Iz hf ev m x 0 0];rfl
theorem MK.lookup(h:MK P T K E ek (ev z0))(m:List (α×β))(x:α)(c:Bool){b:Nat}{w:World}(a:w.heap[b]?=some (mB ek ev m)):
  (Instr.lookup T (.map (some b)) (ek x) c).run P w=.ok (if c then .tuple #[ev ((Zu m x).getD z0),.bool (Zu m x).isSome] else ev ((Zu m x).getD z0)) w:=by
 unfold Instr.lookup
 simp only[Sem.run_bind,h.hT,Result.andThen,MapKept.run_getObj_map a,Sem.run_pure,h.ck,h.fk,fndA_eq]
 cases Zu m x with
 | none=>simp only[Option.map_none,Sem.run_bind,h.hz,Result.andThen,Sem.run_pure,Option.getD_none,Option.isSome_none]
 | some y=>simp only[Option.map_some,Sem.run_bind,Result.andThen,Sem.run_pure,Option.getD_some,Option.isSome_some]
theorem iL(m:List (α×β))(x:α)(y:β)(h:Zu m x=none): (Obj.map ((esA ek ev m 0).toArray.push { key:=ek x,val:=ev y,born:=m.length }) (m.length+1))=mB ek ev (m++[(x,y)]):=by
 unfold mB
 rw[KX,List.length_append,Nat.zero_add]
 congr 1
 apply Array.ext'
 simp[esA]
theorem MK.update(h:MK P T K E ek (ev z0))(m:List (α×β))(x:α)(y:β){b:Nat}{w:World}(c:w.heap[b]?=some (mB ek ev m)):
  (Instr.mapUpdate T (.map (some b)) (ek x) (ev y)).run P w=.ok () { w with heap:=w.heap.setIfInBounds b (mB ek ev (Kl m x y)) }:=by
 unfold Instr.mapUpdate
 simp only[Sem.run_bind,h.hT,Result.andThen,MapKept.run_getObj_map c,h.ck,h.fk,fndA_eq,Nat.zero_add]
 cases a:Zu m x with
 | none =>
  simp only[Option.map_none]
  rw[MapKept.run_setObj_map _ c,Ww m x y a,iL m x y a]
 | some v =>
  have e:=Ln m x a
  have d:=Pd m x a
  have he:=IG (ek:=ek) (ev:=ev) m 0 (Cm m x) d
  rw[e] at he
  simp only[Option.map_some,List.getElem?_toArray,he,Option.getD_some,Instr.keyThatStays,h.sb,if_true,Sem.run_bind,Sem.run_pure,Result.andThen]
  rw[MapKept.run_setObj_map _ c]
  congr 3
  unfold mB
  rw[dP m x y a]
  congr 1
  apply Array.ext'
  rw[Array.toList_modify]
  exact KF m 0 x y v (fun _ _=>rfl) a
theorem Nt{g:MapEntry→MapEntry}: ∀(m:List (α×β)) (i:Nat) (x:α) (z:β),(∀b c,g { key:=ek x,val:=b,born:=c }={ key:=ek x,val:=b,born:=c })→Zu m x=some z →
  (esA ek ev m i).modify (Cm m x) g=esA ek ev m i
 | [],_,_,_,_,h=>by cases h
 | p::m,i,x,z,a,h=>by
  rw[Zu] at h
  by_cases e:p.1=x
  ·rw[Cm,if_pos e,esA,List.modify_zero_cons];subst e;rw[a]
  ·rw[if_neg e] at h
   rw[Cm,if_neg e,esA,List.modify_succ_cons,Nt m (i+1) x z a h]
theorem MK.entry(h:MK P T K E ek (ev z0))(m:List (α×β))(x:α){b:Nat}{w:World}(c:w.heap[b]?=some (mB ek ev m)):
  (Instr.mapEntry T (.map (some b)) (ek x)).run P w=.ok (.tuple #[ev ((Zu m x).getD z0),.int .i64 ((Cm m x:Nat):Int)]) { w with heap:=w.heap.setIfInBounds b (mB ek ev (Hp m x z0)) }:=by
 unfold Instr.mapEntry
 simp only[Sem.run_bind,h.hT,Result.andThen,MapKept.run_getObj_map c,h.ck,h.fk,fndA_eq,Nat.zero_add]
 cases a:Zu m x with
 | none =>
  simp only[Option.map_none,Sem.run_bind,h.hz,Result.andThen]
  rw[MapKept.run_setObj_map _ c,Y9 m x z0 a,iL m x z0 a,Wz m x a]
  simp only[Sem.run_pure,Option.getD_none];rfl
 | some v =>
  have g:=Ln m x a
  have d:=Pd m x a
  have he:=IG (ek:=ek) (ev:=ev) m 0 (Cm m x) d
  rw[g] at he
  simp only[Option.map_some,List.getElem?_toArray,he,Option.getD_some,Option.map_some,Instr.keyThatStays,h.sb,if_true,Sem.run_bind,Sem.run_pure,Result.andThen]
  rw[MapKept.run_setObj_map _ c,Y8 m x z0 v a]
  have f:(esA ek ev m 0).toArray.modify (Cm m x) (fun e=>{ e with key:=ek x })=(esA ek ev m 0).toArray:=by
   apply Array.ext'
   rw[Array.toList_modify]
   exact Nt m 0 x v (fun _ _=>rfl) a
  rw[f]
  simp only[Sem.run_pure,Nat.zero_add];rfl
theorem findIdx_born:∀(m:List (α×β)) (i j:Nat),j<m.length→(esA ek ev m i).findIdx? (fun e=>((e.born:Nat):Int) == ((i+j:Nat):Int))=some j
 | p::m,i,0,_=>by simp[esA,List.findIdx?_cons]
 | p::m,i,j+1,h=>by
  have hj:=findIdx_born m (i+1) j (Nat.lt_of_succ_lt_succ h)
  rw[esA,List.findIdx?_cons]
  have a:(((i:Nat):Int) == ((i+(j+1):Nat):Int))=false:=by rw[beq_eq_false_iff_ne];omega
  simp only[a]
  rw[show i+(j+1)=i+1+j by omega,hj];rfl
theorem KE(y:β): ∀(m:List (α×β)) (i j:Nat),(esA ek ev m i).modify j (fun e=>{ e with val:=ev y })=esA ek ev (m.modify j fun p=>(p.1,y)) i
 | [],_,_=>by simp[esA]
 | p::m,i,0=>rfl
 | p::m,i,j+1=>by rw[esA,List.modify_succ_cons,List.modify_succ_cons,esA,KE y m (i+1) j]
theorem JJ(m:List (α×β))(j:Nat)(y:β)(hj:j<m.length){b:Nat}{w:World}(c:w.heap[b]?=some (mB ek ev m)):
  (Instr.entryStore T (.map (some b)) (.int .i64 ((j:Nat):Int)) (ev y)).run P w=.ok () { w with heap:=w.heap.setIfInBounds b (mB ek ev (m.modify j fun p=>(p.1,y))) }:=by
 unfold Instr.entryStore
 have hf:=findIdx_born (ek:=ek) (ev:=ev) m 0 j hj
 rw[Nat.zero_add] at hf
 have a:asIntOf (.int .i64 ((j:Nat):Int))=(pure (.i64,((j:Nat):Int)):Sem _):=rfl
 simp only[Sem.run_bind,Sem.run_pure,Result.andThen,MapKept.run_getObj_map c,asInt,a,List.findIdx?_toArray,hf]
 rw[MapKept.run_setObj_map _ c]
 congr 3
 unfold mB
 rw[List.length_modify]
 congr 1
 apply Array.ext'
 rw[Array.toList_modify]
 exact KE y m 0 j
theorem V9(h:∀w,(underlying T).run P w=.ok (.map K E) w)(m:List (α×β)){b:Nat}{w:World}(a:w.heap[b]?=some (mB ek ev m)):
  (Instr.range T (.map (some b))).run P w=.ok (.pointer (some ⟨w.heap.size,0,none⟩)) (w.alloc (.mapIter (some b) m.length #[] m.length)):=by
 unfold Instr.range
 simp only[Sem.run_bind,h,Result.andThen,MapKept.run_getObj_map a,Sem.run_pure]
 rfl
theorem P0{e:MapEntry}: ∀ {m:List (α×β)} {i:Nat},e∈esA ek ev m i → ∃j,∃h:j<m.length,e={ key:=ek (m[j]).1,val:=ev (m[j]).2,born:=i+j }
 | p::m,i,h=>by
  rcases List.mem_cons.1 h with rfl|h
  ·exact⟨0,Nat.succ_pos _,rfl⟩
  ·obtain ⟨j,hj,e⟩:=P0 h
   exact⟨j+1,Nat.succ_lt_succ hj,by rw[e];simp only[List.getElem_cons_succ];congr 1;omega⟩
theorem Sm:∀(m:List (α×β)) (i:Nat),(esA ek ev m i).map (·.born)=List.range' i m.length
 | [],_=>rfl
 | p::m,i=>by rw[esA,List.map_cons,Sm m (i+1),List.length_cons,List.range'_succ]
variable{n:Nat}{S:Nat→Prop}{w0 w:World}{L:List (Nat×Value)}{σ σ2:List (Nat×Obj)}{Φ:List Zp}{a:Act}{G:Act→World→Prop}{Q:Exit→Act→World→Prop}
variable{b d r:Nat}{g:Option (Nat×Bool)}{x y v:Operand}{m:List (α×β)}
theorem Gh(h:St n S w0 L σ Φ a w){o o':Obj}(hu:Upd σ b o o' σ2): St n S w0 L σ2 Φ a { w with heap:=w.heap.setIfInBounds b o' }:=by
 obtain ⟨d,c⟩:=MapKept.heap_set (o':=o') (h.own _ hu.mem)
 exact h.turn hu rfl rfl rfl (by simp) d c
theorem iG(h:St n S w0 L σ Φ a w)(M:MK P T K E ek (ev z0)){u:α}{c:Bool}(hx:Fx.ev L x=some (.map (some b)))(f:Fx.ev L y=some (ek u))(hm:(b,mB ek ev m)∈σ)(hd:d<n)(k:∀e,St n S w0 ((d,if c then .tuple #[ev ((Zu m u).getD z0),.bool (Zu m u).isSome] else ev ((Zu m u).getD z0))::L) σ Φ e w→G e w): (Oper.mk (some d) (.lookup T x y c) ty pos aft g).wp P a w G Q :=
 Qf (by simp only[execOp,h.ev hx,h.ev f,Sem.run_bind,M.lookup m u c (h.own _ hm)];rfl) (k _ (h.put hd _))
theorem D8(ek:α→Value)(ev:β→Value)(h:St n S w0 L σ Φ a w)(hd:d<n)(k:∀b c w',St n S w0 ((d,.map (some b))::L) ((b,mB ek ev [])::σ) Φ c w'→G c w'): (Oper.mk (some d) (.makeMap T none) ty pos aft g).wp P a w G Q:=KA h hd k
theorem WL(h:St n S w0 L σ Φ a w)(M:MK P T K E ek (ev z0)){u:α}(hx:Fx.ev L x=some (.map (some b)))(e:Fx.ev L y=some (ek u))(hm:(b,mB ek ev m)∈σ)(hd:d<n)(k:∀c,St n S w0 ((d,.tuple #[ev ((Zu m u).getD z0),.bool (Zu m u).isSome])::L) σ Φ c w→G c w): (Oper.mk (some d) (.lookup T x y true) ty pos aft g).wp P a w G Q:=iG h M hx e hm hd k
theorem Np(h:St n S w0 L σ Φ a w)(M:MK P T K E ek (ev z0)){u:α}(hx:Fx.ev L x=some (.map (some b)))(e:Fx.ev L y=some (ek u))(hm:(b,mB ek ev m)∈σ)(hd:d<n)(k:∀c,St n S w0 ((d,ev ((Zu m u).getD z0))::L) σ Φ c w→G c w): (Oper.mk (some d) (.lookup T x y false) ty pos aft g).wp P a w G Q:=iG h M hx e hm hd k
theorem Hf(h:St n S w0 L σ Φ a w)(M:MK P T K E ek (ev z0)){u:α}{q:β}(hx:Fx.ev L x=some (.map (some b)))(d:Fx.ev L y=some (ek u))(hv:Fx.ev L v=some (ev q))(hu:Upd σ b (mB ek ev m) (mB ek ev (Kl m u q)) σ2)(k:∀c w',St n S w0 L σ2 Φ c w'→G c w'): (Oper.mk none (.mapUpdate T x y v) ty pos aft g).wp P a w G Q :=
 Gy (by simp only[execOp,h.ev hx,h.ev d,h.ev hv,Sem.run_bind,M.update m u q (h.own _ hu.mem)];rfl) (k _ _ (Gh h hu))
theorem kJ(h:St n S w0 L σ Φ a w)(hT:∀w,(underlying T).run P w=.ok (.map K E) w)(hx:Fx.ev L x=some (.map (some b)))(hm:(b,mB ek ev m)∈σ)(hd:d<n)(k:∀f,St n S w0 ((d,.int .i64 ((m.length:Nat):Int))::L) σ Φ f w→G f w): (Oper.mk (some d) (.call ⟨.builtin .len,#[x],#[T]⟩) ty pos aft g).wp P a w G Q:=by
 refine Qf (v:=.int .i64 ((m.length:Nat):Int)) (w':=w) ?_ (k _ (h.put hd _))
 have i:=h.own _ hm
 have e:(esA ek ev m 0).length=m.length:=Y7 m 0
 have hr:∀(type:TypeId) (c:Array Bool),(Go.builtin .len #[T] type c #[.map (some b)]).run P w=.ok (.value (.int .i64 ((m.length:Nat):Int))) w:=by
  intro type c
  simp[Go.builtin,Builtin.len_,hT,Result.andThen,Sem.run_bind,MapKept.run_getObj_map i,e,goInt]
 simp only[execOp,resolve,Ea h (args:=#[x]) (vs:=[.map (some b)]) (by simp[hx]),Sem.run_bind]
 exact hr ty #[]
theorem WH(h:St n S w0 L σ Φ a w)(hT:∀w,(underlying T).run P w=.ok (.map K E) w)(hx:Fx.ev L x=some (.map (some b)))(hm:(b,mB ek ev m)∈σ)(hd:d<n)(k:∀r c w',St n S w0 ((d,.pointer (some ⟨r,0,none⟩))::L) ((r,.mapIter (some b) m.length #[] m.length)::σ) Φ c w'→G c w'): (Oper.mk (some d) (.range T x) ty pos aft g).wp P a w G Q :=
 Qf (by simp only[execOp,h.ev hx,Sem.run_bind,V9 hT m (h.own _ hm)];rfl) (k _ _ _ ((h.alloc _).put hd _))
theorem dU(h:St n S w0 L σ Φ a w){seen:Array Nat}{c:Obj→List (Nat×Obj)}(hx:Fx.ev L x=some (.pointer (some ⟨r,0,none⟩)))(hm:(b,mB ek ev m)∈σ)(hu:∀o',Upd σ r (.mapIter (some b) m.length seen m.length) o' (c o'))(hd:d<n)(k0:(∀j,j<m.length→j∈seen.toList) → ∀f w',St n S w0 ((d,.tuple #[.bool false])::L) σ Φ f w'→G f w')(k1:∀j,∀hj:j<m.length,j∉seen.toList → ∀f w',St n S w0 ((d,.tuple #[.bool true,ek (m[j]).1,ev (m[j]).2])::L) (c (.mapIter (some b) m.length (seen.push j) m.length)) Φ f w'→G f w'):
  (Oper.mk (some d) (.next x false) ty pos aft g).wp P a w G Q:=by
 have o:=h.own _ hm
 have hr:=h.own _ (hu (.mapIter none 0 #[] 0)).mem
 rcases run_next_at (P:=P) w ty r b m.length m.length seen (esA ek ev m 0).toArray m.length hr o (fun e he=>by
  obtain ⟨j,hj,rfl⟩:=P0 he
  simp only;omega) (Nat.le_refl _) with ⟨h0,hrun⟩|⟨e,he,w1,hw,hrun⟩
 ·refine Qf (by simp only[execOp,h.ev hx,Sem.run_bind,hrun];rfl) (k0 (fun j hj=>?_) _ _ (h.put hd _))
  have he:=IG (ek:=ek) (ev:=ev) m 0 j hj
  have k:=List.mem_of_getElem? he
  have h1:leftOf (esA ek ev m 0).toArray seen=#[]:=Array.eq_empty_of_size_eq_zero h0
  unfold leftOf at h1
  rw[Array.filter_eq_empty_iff] at h1
  have:=h1 _ (by simpa using k)
  simpa using this
 ·unfold leftOf at he
  simp only[Array.toList_filter,List.mem_filter] at he
  obtain ⟨j,hj,rfl⟩:=P0 he.1
  have i:j∉seen.toList:=by have:=he.2;simpa using this
  have h1:St n S w0 L σ Φ a w1:=by rcases hw with rfl|rfl;exact h;exact h.drew
  refine Qf (by simp only[execOp,h.ev hx,Sem.run_bind,hrun];rfl) (k1 j hj i _ _ ?_)
  have l:=Gh h1 (hu (.mapIter (some b) m.length (seen.push (0+j)) m.length))
  rw[Nat.zero_add] at l ⊢
  exact l.put hd _
theorem WM(h:St n S w0 L σ Φ a w){seen:Array Nat}{j:Nat}(hx:Fx.ev L x=some (.pointer (some ⟨r,0,none⟩)))(hj:j<m.length)(hm:(b,mB ek ev m)∈σ)(hr:(r,Obj.mapIter (some b) m.length (seen.push j) m.length)∈σ)(hd:d<n)(k:∀e,St n S w0 ((d,.tuple #[ek (m[j]).1,ev (m[j]).2])::L) σ Φ e w→G e w): (Oper.mk (some d) (.entry x) ty pos aft g).wp P a w G Q:=by
 have he:=IG (ek:=ek) (ev:=ev) m 0 j hj
 rw[Nat.zero_add] at he
 have c:=run_entry_at (P:=P) w r b m.length seen (esA ek ev m 0).toArray m.length { key:=ek (m[j]).1,val:=ev (m[j]).2,born:=j } (h.own _ hr) (h.own _ hm) (List.mem_of_getElem? he) (by
  show((esA ek ev m 0).map (·.born)).Nodup
  rw[Sm];exact List.nodup_range')
 exact Qf (by simp only[execOp,h.ev hx,Sem.run_bind,c];rfl) (k _ (h.put hd _))
end
section
variable{P:Program}{n:Nat}{S:Nat→Prop}{w0 w:World}{L:List (Nat×Value)}{σ:List (Nat×Obj)}{Φ:List Zp}{a:Act}{G:Act→World→Prop}{Q:Exit→Act→World→Prop}
theorem dV(h:St n S w0 L σ Φ a w){d:Nat}{T E:TypeId}{x y:Operand}{g:Option (Nat×Bool)}{i:TypeInfo}{z:Value}{k cap:Nat}(hx:Fx.ev L x=some (.int .i64 ((0:Nat):Int)))(l:Fx.ev L y=some (.int .i64 cap))(hT:∀w,(underlying T).run P w=.ok (.slice E) w)(p:∀w,(typeInfo E).run P w=.ok i w)(hk:∀w,(Go.sizeOf E).run P w=.ok k w)(hz:∀w,(zeroValue E).run P w=.ok z w)(c:z.cells.size=k)(f:k≠0)(j:i.bytes*cap≤281474976710656)(q:cap≤9223372036854775807)(hd:d<n)(kk:∀v o e w',GrowO k E v 0 [] o→St n S w0 ((d,v)::L) (o++σ) Φ e w'→G e w'): (Oper.mk (some d) (.makeSlice T x y) ty pos aft g).wp P a w G Q :=
 Je h hx l hT p hk hz c f (Nat.zero_le _) j q hd fun b e w' m=>kk (.slice (some ⟨b,0,none⟩) 0 cap) [(b,.cells (Cj cap z.cells.toList).toArray E (0,0))] e w'
  ⟨by simp,.inr ⟨b,cap,Cj cap z.cells.toList,rfl,by rw[List.nil_append,Kq,Array.length_toList,c],Nat.zero_le _,rfl⟩⟩ m
end
section
variable{P:Program}{n:Nat}{S:Nat→Prop}{w0 w:World}{L:List (Nat×Value)}{σ:List (Nat×Obj)}{Φ:List Zp}{a:Act}{ops:Array Oper}{Kf:Exit→Act→World→Prop}{f:Nat}{listed:Array Bool}
theorem CS(H:List Nat)(b:(Region.noSelect ops && Mk ops && kL ops && decide (H.Nodup) && H.all (fun i=>decide (i<ops.size)) && H.all (fun j => !isF ops j))=true)(hl:listed=AN ops H)(hf:f=H.length)(h:St n S w0 L σ Φ a w)(hH:Head P ops n S w0 Kf H L σ Φ): wpX P ops Kf f listed a w:=by
 simp only[Bool.and_eq_true,decide_eq_true_eq] at b
 obtain ⟨⟨⟨⟨⟨h1,d⟩,k⟩,l⟩,g⟩,e⟩:=b
 subst hl
 refine KU h1 d k (f+H.length) f H L σ Φ [] _ a w (Nat.le_refl _) hH h (by simp) (by simp) (by simp) l (fun i c=>by simpa using List.all_eq_true.1 g i c) (Fb e) (by simp[AN]) (fun i c=>?_) (by simp[hf])
 simp[AN,c]
theorem Left.op{i:Nat}{o:Oper}{v:Value}{w':World}(ho:ops[i]?=some o)(b:∀T,o.op ≠ .alloc T)(hs:∀T x y,o.op ≠ .store T x y)(he:early o=false): Left ops o a w (a.put o.dst v) w' :=
 ⟨(fun h=>by rw[he] at h;cases h),fun T t y p e=>absurd e (hs _ _ _),fun _ ht=>Bq ho ht,fun t hd hf=>noF ho b hd hf⟩
section
variable{i d b:Nat}{T K E:TypeId}{x y v:Operand}{α β:Type}[DecidableEq α]{ek:α→Value}{ev:β→Value}{m:List (α×β)}{z0:β}{σ2:List (Nat×Obj)}
theorem K7(h:St n S w0 L σ Φ a w)(ho:ops[i]?=some ⟨some d,.lookup T x y false,ty,pos,aft,none⟩)(M:MK P T K E ek (ev z0)){u:α}(hx:Fx.ev L x=some (.map (some b)))(j:Fx.ev L y=some (ek u))(hm:(b,mB ek ev m)∈σ)(hd:d<n)(k:∀g,St n S w0 ((d,ev ((Zu m u).getD z0))::L) σ Φ g w→wpX P ops Kf f (listed.setIfInBounds i true) g w): BJ P ops Kf f listed i a w :=
 Jo ho (Qf (w':=w) (by simp only[execOp,h.ev hx,h.ev j,Sem.run_bind,M.lookup m u false (h.own _ hm)];rfl) ⟨fun o c=>by rw[ho] at c;cases c;exact Left.same (o:=⟨some d,.lookup T x y false,ty,pos,aft,none⟩) ho (notF ho (fun _ e=>by cases e)),k _ (h.put hd _)⟩)
theorem JI(h:St n S w0 L σ Φ a w)(ho:ops[i]?=some ⟨some d,.mapEntry T x y,ty,pos,aft,none⟩)(M:MK P T K E ek (ev z0)){u:α}(hx:Fx.ev L x=some (.map (some b)))(j:Fx.ev L y=some (ek u))(hu:Upd σ b (mB ek ev m) (mB ek ev (Hp m u z0)) σ2)(hd:d<n)(k:∀g w',St n S w0 ((d,.tuple #[ev ((Zu m u).getD z0),.int .i64 ((Cm m u:Nat):Int)])::L) σ2 Φ g w'→wpX P ops Kf f (listed.setIfInBounds i true) g w'):
  BJ P ops Kf f listed i a w :=
 Jo ho (Qf (by simp only[execOp,h.ev hx,h.ev j,Sem.run_bind,M.entry m u (h.own _ hu.mem)];rfl) ⟨fun o c=>by rw[ho] at c;cases c;exact Left.op ho (fun _ e=>by cases e) (fun _ _ _ e=>by cases e) rfl,k _ _ ((Gh h hu).put hd _)⟩)
theorem cg(h:St n S w0 L σ Φ a w)(ho:ops[i]?=some ⟨none,.entryStore T x y v,ty,pos,aft,none⟩){u:α}{z q:β}(hx:Fx.ev L x=some (.map (some b)))(g:Fx.ev L y=some (.int .i64 ((Cm m u:Nat):Int)))(hv:Fx.ev L v=some (ev q))(hu:Upd σ b (mB ek ev (Hp m u z)) (mB ek ev (Kl m u q)) σ2)(k:∀d w',St n S w0 L σ2 Φ d w'→wpX P ops Kf f (listed.setIfInBounds i true) d w'): BJ P ops Kf f listed i a w:=by
 have hr:=JJ (P:=P) (T:=T) (ek:=ek) (ev:=ev) (Hp m u z) (Cm m u) q (dQ m u z) (h.own _ hu.mem)
 rw[fo] at hr
 exact Jo ho (Gy (by simp only[execOp,h.ev hx,h.ev g,h.ev hv,Sem.run_bind,hr];rfl) ⟨fun o c=>by rw[ho] at c;cases c;exact Left.op ho (fun _ e=>by cases e) (fun _ _ _ e=>by cases e) rfl,k _ _ (Gh h hu)⟩)
end
theorem FA{H:List Nat}{L':List (Nat×Value)}{σ':List (Nat×Obj)}{Φ':List Zp}(k1:∀a w,St n S w0 L' σ' Φ' a w→Kf .normal a w)(k2:(∀a w,St n S w0 L' σ' Φ' a w→Kf .normal a w)→Head P ops n S w0 Kf H L σ Φ): Head P ops n S w0 Kf H L σ Φ:=k2 k1
end
section
variable{n:Nat}{S:Nat→Prop}{w0 w:World}{L:List (Nat×Value)}{σ:List (Nat×Obj)}{Φ:List Zp}{a:Act}
def Yi(l:List Zp): Zp:=⟨fun X w => ∀R∈l,R.p X w,fun X X' w w' h h1 h2 h3 R hR=>R.st X X' w w' (h R hR) h1 h2 h3⟩
theorem St.pickR(h:St n S w0 L σ Φ a w){l:List Zp}{R:Zp}(hl:Yi l∈Φ)(hR:R∈l): St n S w0 L σ (R::Φ) a w :=
 { h with
  facts:=by
   obtain ⟨X,h1,d,e,c⟩:=h.facts
   refine⟨X,h1,d,e,fun f b=>?_⟩
   rcases List.mem_cons.1 b with rfl|b
   ·exact c _ hl _ hR
   ·exact c _ b }
theorem St.gatherR(h:St n S w0 L σ Φ a w){l:List Zp}(hl:∀R∈l,R∈Φ): St n S w0 L σ (Yi l::Φ) a w :=
 { h with
  facts:=by
   obtain ⟨X,h1,d,e,c⟩:=h.facts
   refine⟨X,h1,d,e,fun f b=>?_⟩
   rcases List.mem_cons.1 b with rfl|b
   ·exact fun R hR=>c _ (hl R hR)
   ·exact c _ b }
theorem St.joinR(h:St n S w0 L σ Φ a w){l k:List Zp}(hl:Yi l∈Φ)(hk:Yi k∈Φ): St n S w0 L σ (Yi (l++k)::Φ) a w :=
 { h with
  facts:=by
   obtain ⟨X,h1,d,e,c⟩:=h.facts
   refine⟨X,h1,d,e,fun f b=>?_⟩
   rcases List.mem_cons.1 b with rfl|b
   ·exact fun R hR=>(List.mem_append.1 hR).elim (c _ hl R) (c _ hk R)
   ·exact c _ b }
end
section
variable{P:Program}{ops:Array Oper}{n:Nat}{S:Nat→Prop}{w0:World}{Kf:Exit→Act→World→Prop}{H:List Nat}{L:List (Nat×Value)}{σ:List (Nat×Obj)}{Φ:List Zp}
theorem NQ{i d j t:Nat}{want:Bool}{x:Operand}{f:FuncId}{fs cs:List Value}{args:Array Operand}{g:Array TypeId}{ty:TypeId}{pos:String}{h:Array Edge}{vs:List Value}{v:Value}{Φ':List Zp}(ho:ops[i]?=some ⟨some d,.call ⟨.value x,args,g⟩,ty,pos,h,some (j,want)⟩)(hj:(ops[j]?).bind (·.dst)=some t)(ht:look L t=some (.bool want))(hq:Vm ops i H=true)(hx:Fx.ev L x=some (.func (.func f) fs.toArray cs.toArray))(ha:args.toList.map (Fx.ev L)=vs.map some)(hc:∀args w,(callFunc f args).run P w=.ok (.enter f args) w)(hf:Xo P f (fs++vs++cs) Φ' v)(c:∀R∈Φ',R∈Φ)(hd:d<n)(k:Head P ops n S w0 Kf H ((d,v)::L) σ Φ): Head P ops n S w0 Kf (i::H) L σ Φ :=
 .inr (.inl ⟨_,ho,hq,fun a w p b=>JS b ho hj ht (by
  obtain ⟨X,h1,q,m,o⟩:=b.facts
  simp only[Oper.wp,EK b hx ha hc,Oper.upon]
  refine(hf X w m (fun R hR=>o R (c R hR))).mono ?_
  rintro e w' ⟨v',Ψ,rfl,⟨rfl,rfl⟩,l,r⟩
  exact⟨⟨fun _=>l,fun _ _ _ _ he=>by cases he⟩,v',σ,[]++Φ,rfl,(b.called l h1 q m o r).put hd v',k⟩)⟩)
end
section
variable{P:Program}{ops:Array Oper}{n:Nat}{S:Nat→Prop}{w0 w:World}{Kf:Exit→Act→World→Prop}{H:List Nat}{L:List (Nat×Value)}{σ σ2:List (Nat×Obj)}{Φ:List Zp}{a:Act}{f:Nat}{listed:Array Bool}
variable{i d b:Nat}{T K E:TypeId}{x y v:Operand}{α β:Type}[DecidableEq α]{ek:α→Value}{ev:β→Value}{m:List (α×β)}{z0:β}
theorem iN{dd:Option Tmp}{g:Option (Nat×Bool)}(h:St n S w0 L σ Φ a w)(M:MK P T K E ek (ev z0)){u:α}(hx:Fx.ev L x=some (.map (some b)))(d:Fx.ev L y=some (ek u))(hm:(b,mB ek ev m)∈σ){w':World}(hw:Ext w w'):
  (execOp a.eval (Oper.mk dd (.lookup T x y false) ty pos aft g)).run P w'=.ok (.value (ev ((Zu m u).getD z0))) w':=by
 have c:w'.heap[b]?=some (mB ek ev m):=by rw[hw.block _ (h.own_lt hm)];exact h.own _ hm
 simp only[execOp,h.ev hx,h.ev d,Sem.run_bind,M.lookup m u false c];rfl
theorem DK(ho:ops[i]?=some ⟨some d,.lookup T x y false,ty,pos,aft,none⟩)(hq:Yp ops true i H=true)(M:MK P T K E ek (ev z0)){u:α}(hx:Fx.ev L x=some (.map (some b)))(c:Fx.ev L y=some (ek u))(hm:(b,mB ek ev m)∈σ)(hd:d<n)(k:Head P ops n S w0 Kf H ((d,ev ((Zu m u).getD z0))::L) σ Φ): Head P ops n S w0 Kf (i::H) L σ Φ :=
 .inl ⟨_,d,_,true,ho,rfl,hd,hq,fun _ _ _ a =>.inl ⟨rfl,fun w' hw=>iN a M hx c (List.mem_append_right _ hm) (hw rfl)⟩,k⟩
theorem NP{j t:Nat}{want:Bool}(ho:ops[i]?=some ⟨some d,.lookup T x y false,ty,pos,aft,some (j,want)⟩)(hj:(ops[j]?).bind (·.dst)=some t)(ht:look L t=some (.bool want))(hq:Yp ops true i H=true)(M:MK P T K E ek (ev z0)){u:α}(hx:Fx.ev L x=some (.map (some b)))(c:Fx.ev L y=some (ek u))(hm:(b,mB ek ev m)∈σ)(hd:d<n)(k:Head P ops n S w0 Kf H ((d,ev ((Zu m u).getD z0))::L) σ Φ): Head P ops n S w0 Kf (i::H) L σ Φ :=
 .inl ⟨_,d,_,true,ho,rfl,hd,hq,fun _ _ _ a =>.inl ⟨by rw[Ao a hj ht];simp,fun w' hw=>iN a M hx c (List.mem_append_right _ hm) (hw rfl)⟩,k⟩
theorem UT(h:St n S w0 L σ Φ a w)(ho:ops[i]?=some ⟨none,.mapUpdate T x y v,ty,pos,aft,none⟩)(M:MK P T K E ek (ev z0)){u:α}{q:β}(hx:Fx.ev L x=some (.map (some b)))(g:Fx.ev L y=some (ek u))(hv:Fx.ev L v=some (ev q))(hu:Upd σ b (mB ek ev m) (mB ek ev (Kl m u q)) σ2)(k:∀d w',St n S w0 L σ2 Φ d w'→wpX P ops Kf f (listed.setIfInBounds i true) d w'): BJ P ops Kf f listed i a w :=
 Jo ho (Gy (by simp only[execOp,h.ev hx,h.ev g,h.ev hv,Sem.run_bind,M.update m u q (h.own _ hu.mem)];rfl) ⟨fun o c=>by rw[ho] at c;cases c;exact Left.op ho (fun _ e=>by cases e) (fun _ _ _ e=>by cases e) rfl,k _ _ (Gh h hu)⟩)
end
end Go.Fx
namespace Go.Fx
open Go Go.RowKit Go.Sort Go.Proofs
section
variable{P:Program}{w:World}{S:Nat→Prop}{w0:World}{σ:List (Nat×Obj)}{Φ:List Zp}
variable{β:Type}{en:β→List Value}{k:Nat}
theorem Su{e:Go.Shelf.Ren}(C:SlLaysF0.n14 P e)(D:∀w,(isAgg (e.t 24)).run P w=.ok true w)(u:∀w,(Go.sizeOf (e.t 24)).run P w=.ok k w)(hk:∀x,(en x).length=k)(j:0<k)(h1:∀x,∀v∈en x,v.oneCell'=true)(c:β→β→Int)(hO:SWO (ltOf c))(p:List β)(E:0<p.length)(hT:∀x∈p,∀y∈p,(ltOf c) x y=false→(ltOf c) y x=false→x=y){g:Nat}{cb:Array Value}(o:∀args w,(callFunc g args).run P w=.ok (.enter g args) w)(hf:∀x∈p,∀y∈p,Xo P g (.agg (en x).toArray :: .agg (en y).toArray::cb.toList) Φ (.int .i64 (c x y)))(b cap:Nat)(T:TypeId)(R:List Value)(a:Nat)(d:a<4611686018427387904)(F:p.length<4611686018427387904):
  FR P (e.f 14) [.slice (some ⟨b,0,none⟩) p.length cap,.int .i64 ((0:Nat):Int),.int .i64 ((p.length:Nat):Int),.int .i64 ((a:Nat):Int),.func (.func g) #[] cb] ((b,.cells (p.flatMap en++R).toArray T (0,0))::σ) Φ
   (fun v σ' Ψ=>v=.tuple #[]∧σ'=(b,.cells ((p.mergeSort fun x y => !(ltOf c) y x).flatMap en++R).toArray T (0,0))::σ∧Ψ=Φ):=by
 obtain ⟨B,i⟩:=List.exists_mem_of_length_pos E
 haveI:Inhabited {x // x∈p}:=⟨⟨B,i⟩⟩
 have h:=Mq (P:=P) (α:={x // x∈p}) (k:=k) (enc:=fun x=>en x.val) (σ:=σ) (Φ:=Φ) C D u (fun x=>hk x.val) j (fun x=>h1 x.val) (fun x y=>c x.val y.val)
  ⟨fun x=>hO.irrefl x.val,fun x y z=>hO.trans x.val y.val z.val,fun x y z=>hO.ntrans x.val y.val z.val⟩ (fun x y A a2=>Subtype.ext (hT x.val x.property y.val y.property A a2)) o (fun x y=>hf x.val x.property y.val y.property)
  b cap T p.attach R a d (by rw[List.length_attach];exact F)
 have m:∀l:List {x // x∈p},l.flatMap (fun x=>en x.val)=(l.map Subtype.val).flatMap en:=fun l=>by rw[List.flatMap_map]
 have n:p.attach.map Subtype.val=p:=List.attach_map_subtype_val p
 have q:=List.map_mergeSort (r:=fun x y:{x // x∈p} => !(ltOf fun x y:{x // x∈p}=>c x.val y.val) y x) (s:=fun x y => !(ltOf c) y x) (f:=Subtype.val) (l:=p.attach) (fun _ _ _ _=>rfl)
 rw[m,n,List.length_attach] at h
 simp only[m] at h
 rw[q,n] at h
 exact h
end
end Go.Fx
