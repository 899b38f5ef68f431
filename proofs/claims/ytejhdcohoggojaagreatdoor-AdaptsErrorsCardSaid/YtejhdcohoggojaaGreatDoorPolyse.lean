/- Walks of functions. By an AI agent. -/
import Derived.Test.YtejhdcohoggojaaGreatDoorSort1
import Derived.Test.YtejhdcohoggojaaGreatDoorFxP
import Derived.Shelf.SlSortCmp.PdqK
set_option linter.unusedVariables false
set_option linter.unusedSimpArgs false
set_option maxRecDepth 4000
set_option maxHeartbeats 1000000
namespace Go.Proofs.YtejhdcohoggojaaGreatDoor
open Go Go.Proofs Go.Fx Tryz
attribute [local irreducible] Oper.wp Code.wp wpList Fx.Head wpOp
section
theorem eo(n:Nat): List.map Qi (List.replicate n 0)=Cj n (Value.cells (.int .i64 0)).toList:=by
 rw[List.map_replicate];unfold Cj
 induction n with
 | zero=>rfl
 | succ n a=>rw[List.replicate_succ,List.replicate_succ,List.flatten_cons, ←a];rfl
end
section
theorem fQ(w:World): (Instr.buildSlice 69 0 [].toArray).run prog w=.ok (.slice (some ⟨w.heap.size,0,none⟩) 0 0) (w.alloc (.cells #[] 3 (0,0))):=by
 simp[go_sem]
theorem iz(a:Option Addr)(n c j:Nat)(h:j≤c): RN (Instr.sliceAt 69 (.slice a n c) none (some (.int .i64 (j:Int))) none) (.slice a j c):=fun w=>by
 exact Bm runUnderlying69 sizeOf3 a n c j h w
theorem NV:∀l:List Nat,(List.map Qi l).all flat=true
 | []=>rfl
 | x::l=>by rw[List.map_cons,List.all_cons,NV l];rfl
theorem eq_nil(X Y:Operand)(b o n c:Nat): RN (do eqGuard .eql 69 X Y (.slice (some ⟨b,o,none⟩) n c) (.slice none 0 0);Go.binOp .eql 69 (.slice (some ⟨b,o,none⟩) n c) (.slice none 0 0):Sem Value) (.bool false):=fun w=>by
 simp[go_sem]
 have e:(Op.equalIn 10000 69 (.slice (some ⟨b,o,none⟩) n c) (.slice none 0 0)).run prog w=.ok false w:=by
  rw[show(10000:Nat)=9999+1 from rfl,Op.equalIn]
  simp[go_sem]
 show(do pure (.bool (←Op.equal 69 _ _)):Sem Value).run prog w=_
 unfold Op.equal
 simp only[Sem.run_bind]
 rw[show Op.maxDepth=10000 from rfl,e];rfl
def LS(n i:Nat): List Nat:=List.range i++List.replicate (n-i) 0
theorem YQ{n i:Nat}(h:i<n): (LS n i).set i i=LS n (i+1):=by
 unfold LS
 rw[List.set_append_right _ _ ss,List.length_range,Nat.sub_self,List.range_succ,List.append_assoc,show n-i=(n-(i+1))+1 by omega,List.replicate_succ];rfl
theorem YS(n:Nat): LS n n=List.range n:=by unfold LS;simp
theorem YR{n i:Nat}(h:i≤n): (LS n i).length=n:=by unfold LS;simp;omega
theorem Uy(E:List Rat)(ad:Option Addr)(c a:Nat)(f:∀x∈E,Zn x≤50000000)(d:E.length≤1000000)(b:Nat)(σ:List (Nat×Obj)):
  FR prog 50 [.slice (some ⟨b,0,none⟩) E.length E.length,.func (.func 51) #[] #[.pointer (some ⟨a,0,none⟩)]] ((b,.cells (List.map Qi (List.range E.length)).toArray 3 (0,0))::σ)
   [Row (some ⟨a,0,none⟩) [.slice ad E.length c],Row ad (cellsOf Qe E)]
   (fun v σ' Ψ=>v=.tuple #[]∧σ'=(b,.cells (List.map Qi (D7 E)).toArray 3 (0,0))::σ∧Ψ=[Row (some ⟨a,0,none⟩) [.slice ad E.length c],Row ad (cellsOf Qe E)]):=by
 have h:=Uz E ad c a f d b E.length (List.range E.length) (fun i e=>List.mem_range.1 e) (by rw[List.length_range];exact d) σ
 rw[List.length_range] at h
 exact h
theorem ij(b cap n:Nat)(l:List Nat)(R:List Value)(hl:l.length=n)(a:n≤1000000)(σ:List (Nat×Obj))(Φ:List Zp):
  FR prog 58 [.slice (some ⟨b,0,none⟩) n cap] ((b,.cells (List.map Qi l++R).toArray 3 (0,0))::σ) Φ
   (fun v σ' Ψ=>v=.tuple #[]∧σ'=(b,.cells (List.map Qi (l.mergeSort fun x y=>decide (x≤y))++R).toArray 3 (0,0))::σ∧Ψ=Φ):=by
 subst hl;exact bu b cap l R a σ Φ
theorem TO(E:List Rat)(h:∀x∈E,Zn x≤50000000): ∀s:Rat,Zn (E.foldl (· + ·) s)≤Zn s+50000001*E.length:=by
 induction E with
 | nil=>intro s;simp
 | cons x E a =>
  intro s
  have h1:=a (fun y b=>h y (List.mem_cons_of_mem _ b)) (s+x)
  have c:=Xj s x
  have d:=h x List.mem_cons_self
  rw[List.foldl_cons,List.length_cons];omega
theorem NF{E:List Rat}(h:∀x∈E,Zn x≤50000000): Zn (QW E)≤2+50000001*E.length:=by
 have h1:=TO E h 0;have a:=Vo;unfold QW;omega
theorem KN{E:List Rat}(h:∀x∈E,Zn x≤50000000)(t:Rat): ∀j,j≤E.length→Zn (AD E t j)≤Zn t+3+50000001*E.length+50000001*j
 | 0,_=>by have h1:=Qh t (QW E);have a:=NF h;rw[AD];omega
 | j+1,hj=>by
  have h1:=KN h t j oo
  have a:=Yr (AD E t j) (E.getD ((D7 E).getD j 0) 0)
  have b:=h _ (getD_mem E (d:=0) (WC E (getD_mem (D7 E) (i:=j) (d:=0) (by rw[DD];omega))))
  rw[AD];omega
theorem nX(ad:Option Addr)(c:Nat)(l:List Rat)(a:l.length≤90)(hx:∀x∈l,Zn x≤50000000):
  Xo prog 55 [.slice ad l.length c] [Row ad (cellsOf Qe l)] (Qe (QW l)):=C_QSum ad c l a hx
theorem co{t:Rat}(h:Gp t=true): t≤1:=by
 unfold Gp at h
 rw[Bool.and_eq_true,decide_eq_true_iff,decide_eq_true_iff] at h
 have h1:=jR t ((1:Int):Rat)
 have b:¬((1:Int):Rat)<t:=fun a=>by have:=h1.2 a;omega
 have a:((1:Int):Rat)=1:=rfl
 rw[a] at b
 exact Rat.not_lt.1 b
theorem WQ{E:List Rat}(h:E.any (fun x:Rat=>decide (x.num.sign<0))=false): ∀x∈E,(0:Rat)≤x:=by
 intro x hx
 rw[List.any_eq_false] at h
 have h1:=h x hx
 rw[decide_eq_true_iff,FV] at h1
 exact Rat.not_lt.1 h1
def Eo(E:List Rat)(t:Rat): Int:=if (Gp t && !E.any (fun x:Rat=>decide (x.num.sign<0)))=true then 0 else 1
def BU(E:List Rat)(t:Rat): List Nat:=if Eo E t=0 then dI E t else []
def PostMark(E:List Rat)(t:Rat)(v:Value)(Ψ:List Zp): Prop := ∃ad,v=.tuple #[.slice ad (BU E t).length (BU E t).length,.int .i64 (Eo E t)]∧Ψ=[Row ad (List.map Qi (BU E t))]
theorem PostMark.ok{E:List Rat}{t:Rat}{ad:Option Addr}{n:Nat}(h1:Gp t=true)(c:E.any (fun x:Rat=>decide (x.num.sign<0))=false)(d:(dI E t).length=n):
  PostMark E t (.tuple #[.slice ad n n,.int .i64 0]) [Row ad (List.map Qi (dI E t))]:=by
 have b:Eo E t=0:=by unfold Eo;rw[h1,c];rfl
 have a:BU E t=dI E t:=by unfold BU;rw[if_pos b]
 exact⟨ad,by rw[a,b,d],by rw[a]⟩
theorem PostMark.err{E:List Rat}{t:Rat}(h:(Gp t && !E.any (fun x:Rat=>decide (x.num.sign<0)))=false): PostMark E t (.tuple #[.slice none 0 0,.int .i64 1]) [Row none []]:=by
 have b:Eo E t=1:=by unfold Eo;rw[h];rfl
 have a:BU E t=[]:=by unfold BU;rw[b];rfl
 exact⟨none,by rw[a,b];rfl,by rw[a];rfl⟩
theorem dH{E:List Rat}(a:∀x∈E,0≤x)(t:Rat){m:Nat}(hm:m≤E.length)(h1:∀j,j<m→0<AD E t j)(b:¬0<AD E t m): (dI E t).length=m:=by
 rw[←mark_eq a t hm h1 b,List.length_mergeSort,List.length_take,DD];omega
theorem SX(ad:Option Addr)(n c:Nat)(a:n≤c): Ji prog 43 [.slice ad n c] (.slice ad n n):=by
 refine fnI func43 I ntmps43 fun S w0 b=>au 0x01f401f44312531 ?_
 refine zp (.slice I none (some _) (some _) I I I<|Xx runUnderlying69 sizeOf3 _ _ _ a)<|za I<|zn<|zt<|rtK I
theorem ow(b o c:Nat)(l:List Nat)(r:l.length≤1000000): CtrO prog 57 [.slice (some ⟨b,o,none⟩) l.length c] [Row (some ⟨b,o,none⟩) (List.map Qi l)]
   (fun v f => ∃g i R,v=.slice (some ⟨g,0,none⟩) l.length i∧l.length≤i∧f=[(g,.cells (List.map Qi l++R).toArray 3 (0,0))]):=by
 refine fn_introO func57 I ntmps57 nb ?_
 intro S w0 a q h
 refine gC h<|au 0x43112531 ?_
 refine zp (.binOp I I<|eq_nil _ _ _ _ _ _) ?_;clear h;intro a w h
 refine Zh h (fun e h=>(by exfalso;cases e)) (fun e h=>?_)
 refine wpList_nil ?_
 refine cW ?_
 refine Zj h I ?_
 refine gC h<|zk<|zS (zB [] I (fQ) fun j=>zm I ?_);clear h;intro a w h
 refine Zc<|Gi (b:=j) (xs:=[]) (ys:=List.map Qi l) (ad2:=some ⟨b,o,none⟩) (k:=1) h I I mm I runUnderlying69 runUnderlying69 typeInfo3 sizeOf3 zeroValue3 I dd dd (by rw[List.length_map,Nat.mul_one]) (NV _) (by show 8*(2*_+192)≤281474976710656;omega) dd ?_;clear h;intro p m n a w d h
 rw[Nat.zero_add,List.nil_append] at h
 rw[Nat.zero_add] at d
 refine gL h<|au 0x625 ?_;clear h;intro a w h
 exact He h (Ze h I (.tmp I)) ⟨p,m,n,rfl,d,rfl⟩ (List.Sublist.refl _)
theorem ir(b o c n:Nat)(l:List Nat)(hl:l.length=n)(f:n≤1000000): CtrO prog 57 [.slice (some ⟨b,o,none⟩) n c] [Row (some ⟨b,o,none⟩) (List.map Qi l)]
   (fun v a => ∃d e R,v=.slice (some ⟨d,0,none⟩) n e∧n≤e∧a=[(d,.cells (List.map Qi l++R).toArray 3 (0,0))]):=by
 subst hl;exact ow b o c l f
theorem C_Mark(E:List Rat)(ad:Option Addr)(c:Nat)(t:Rat)(D:∀x∈E,Zn x≤50000000)(ht:Zn t≤1000)(hn:E.length≤90):
  Ctr prog 16 [.slice ad E.length c,Qe t] [Row ad (cellsOf Qe E)] (PostMark E t):=by
 have a7:=DD E
 have b4:=NF D
 refine fnI func16 I ntmps16 fun S w0 B=>zS (zx I fun A=>?_);intro a w h
 replace h:=h.shareAll B ([.slice ad E.length c]) I
 refine gL h (zx I fun H=>au 0x6e3112531255 ?_)
 refine zv [_] I call24 (I7 t oo) ?_;clear h;intro a w h
 refine Zh h (fun e h=>?_) (fun e h=>?_)
 ·have K:=co e
  refine gL h<|au 0x420f ?_;clear h;intro a w h
  refine Zq 15 h I I<|Xp h (b:=A) (off:=0) (j:=0) (M:=[.slice ad E.length c]) (v:=.slice ad E.length c) I mm (Nat.succ_pos _) isAgg58 sizeOf58 I (.inr I) dd ?_;clear h;intro a h
  refine gL h<|zq 15 I I (.move I) ?_;clear h;intro a w h
  refine Zq 15 h I I<|Jl h (vs:=[_,_]) I call49 (UK _ _ E oo) ss dd ?_;clear h;intro a w h
  refine Zh h (fun f h=>?_) (fun f h=>?_)
  ·refine gL h<|au 0x6255311e24e ?_;clear h;intro a w h
   replace h:=h.derive (R:=Row none []) (fun X N s=>absurd I s)
   exact Qn (Ψ:=[Row none []]) h (Zw h I (.tmp I) (.tmp I)) (PostMark.err (by rw[e,f];rfl)) ss
  ·have r:=WQ f
   refine gL h<|au 0x317d24e ?_
   refine zD (b:=A) (off:=0) (j:=0) (M:=[.slice ad E.length c]) (v:=.slice ad E.length c) I mm (Nat.succ_pos _) isAgg58 sizeOf58 I (.inr I) ?_
   refine au 0xb8f ?_;clear h;intro a w h
   refine Zc<|Je h I I runUnderlying69 typeInfo3 sizeOf3 zeroValue3 I dd (by exact Nat.le_refl _) (by show 8*(E.length)≤281474976710656;omega) oo dd ?_;clear h;intro q a w h;replace h:=h.same I (by rw[←eo]) I
   refine gL h<|au 0x92401f431125 ?_;intro a w h
   refine lpG h [2,3,5,7,24] pkL (fun Y Z (i:Nat) a w=>i≤E.length∧St 62 S w0 ((25,nI i)::Y) [(q,.cells (List.map Qi<|LS E.length i).toArray 3 (0,0)),(H,bV (Qe<|t) 51)] Z a w) (fun i=>E.length-i) 0 (⟨Nat.zero_le _,by exact(h).sub sA⟩) ?_;clear h
   rintro i a w ⟨W,h⟩
   refine gC h<|au 0x12c31 ?_;intro a w h
   refine Zb h I (fun g=>?_) (fun g=>?_)
   ·have p:i<E.length:=dT g
    obtain ⟨n,o,rfl⟩:=h.row_addr (ad:=ad) (M:=cellsOf Qe E) mm (nE 5)
    have b0:=YR (Nat.le_of_lt p)
    refine gC h<|au 0xf1f444325431917 ?_
    refine zt' I I ((congrArg (fun z=>Zl _ z _)<|Nat.zero_add _).trans<|Qy (enc:=Qi) (LS E.length i) i i) uu sizeOf3 I (by simp;omega) I ?_
    refine zn<|zr<|zp (.pN (i+1)<|.add I I)<|au 0x24 ?_;clear h;intro a w h
    rw[YQ p] at h
    exact⟨i+1,⟨oo,tO h⟩,oo⟩
   ·have u:E.length=i:=dF g
    subst u
    rw[YS] at h
    refine gC h<|au 0xd7f4310e ?_;clear h;intro a w h
    refine Zc<|Yq h B (vs:=[_,_]) I call50 (Uy E ad c A D oo q [(H,_)]) (List.Perm.refl _) ss ss ?_;clear h;rintro v35 V a1 a w ⟨rfl,rfl,rfl⟩ h
    replace h:=h.shareAll B (List.map Qi (D7 E)) I
    refine gL h<|zn<|zs<|yF [0,1,2,3,4,5]<|au 0xbe ?_;clear h
    refine Zf (b:=A) (off:=0) (j:=0) (M:=[.slice ad E.length c]) (v:=.slice ad E.length c) I kk I mm (Nat.succ_pos _) isAgg58 sizeOf58 I (.inr I) dd ?_
    refine yw [_] I I call55 (nX ad c E oo D)<|au 0x92f ?_
    have Q:=Qh (t) (QW E)
    refine yz I Xl fun P=>stV I I I Zi ?_
    refine au 0x912531a ?_;intro a w h
    refine lpG h [2,3,5,7,9,24,25] pkL (fun Y Z (j:Nat) a w=>(j≤E.length ∧ ∀i,i<j→0<AD E t i)∧St 62 S w0 ((10,nI j)::Y) [(P,bV (Qe<|AD E t j) 51),(H,bV (Qe<|t) 51)] Z a w) (fun j=>E.length-j) (0) (⟨⟨Nat.zero_le _,fun i hi=>absurd hi oo⟩,by exact h.sub sA⟩) ?_;clear h
    rintro j a w ⟨hj,h⟩
    have b5:=KN D t j hj.1
    refine gC h<|au 0x270ff2f6e311 ?_;intro a w h
    refine Zb h I (fun m=>?_) (fun m=>?_)
    ·have hp:0<AD E t j:=(Ag _).1 (of_decide_eq_true m)
     have b7:=eA r K hj.1 hp
     have J:=WC E (getD_mem (D7 E) (i:=j) (d:=0) oo)
     have b6:=D _ (getD_mem E (d:=0) J)
     obtain ⟨n,o,rfl⟩:=h.row_addr (ad:=ad) (M:=cellsOf Qe E) mm (nE 5)
     refine gC h<|zk<|zb<|zs<|yE [0,1,2,3,4,5,6,7,8,9]<|au 0xbe ?_;clear h
     refine Zf (b:=A) (off:=0) (j:=0) (M:=[.slice (some ⟨n,o,none⟩) E.length c]) (v:=.slice (some ⟨n,o,none⟩) E.length c) I kk I mm (Nat.succ_pos _) isAgg58 sizeOf58 I (.inr I) dd ?_
     refine au 0x88 ?_
     refine yp I (.indexAddr I I<|Hv _ _ _ _ _ oo) ?_
     refine Zf I kk I mm (by rw[List.length_map];omega) isAgg3 sizeOf3 (Zr (enc:=Qi) (l:=(D7 E)) 0 oo) (.inr I) dd ?_
     refine au 0xd2f ?_
     refine Zf I kk I mm (cells_lt (k:=5) dd (fun _=>rfl) E ((D7 E).getD j 0) oo) isAgg51 sizeOf51 (Zg (k:=5) (fun _=>rfl) ((fun _=>rfl)) E 0 ((D7 E).getD j 0) oo) (.inl I) dd ?_
     refine au 0x99f ?_
     have T:=Yr (AD E t j) (E.getD ((D7 E).getD j 0) 0)
     refine stV I I I Zi ?_
     refine yn<|zr<|zm I<|zp (.pN (j+1)<|.add I I)<|au 0x25 ?_;intro a w h
     exact⟨j+1,⟨⟨oo,fun i hi=>by
      rcases Nat.lt_or_ge i j with h1|h1
      ·exact hj.2 i h1
      ·rw[show i=j by omega];exact hp⟩,by exact tO h⟩,oo⟩
    ·have G:¬0<AD E t j:=fun h1=>of_decide_eq_false m ((Ag _).2 h1)
     have y:((D7 E).take j).length=j:=by rw[List.length_take];omega
     refine gC h<|au 0x44310e ?_
     refine zp (.slice I none (some _) none I I I<|iz _ _ _ _ oo) ?_;clear h;intro a w h
     replace h:=h.derive (R:=Row (some ⟨q,0,none⟩) (List.map Qi ((D7 E).take j))) (fun X N=>by rw[List.map_take];exact HI (N _ mm) j)
     refine Zc<|Xb h (vs:=[_]) I call57 (ir q 0 E.length j ((D7 E).take j) y oo) ss dd ?_;clear h;rintro a8 a6 a w ⟨F,b1,L,rfl,C,rfl⟩ h
     refine gL h<|zv [_] I call43 (SX _ _ _ C)<|au 0x43125 ?_;clear h;intro a w h
     refine Zc<|Yq h B (vs:=[_]) I call58 (ij F j j ((D7 E).take j) L y oo [(P,_),(H,_)] []) (List.Perm.refl _) ss ss ?_;clear h;rintro v60 O U a w ⟨rfl,rfl,rfl⟩ h
     rw[mark_eq r t hj.1 hj.2 G] at h
     replace h:=h.share B (off:=0) (M:=List.map Qi (dI E t)) (fun k hk=>by rw[Nat.zero_add,List.getElem?_toArray,List.getElem?_append_left hk])
     refine gL h<|au 0x62554312 ?_;clear h;intro a w h
     exact Qn (Ψ:=[Row (some ⟨F,0,none⟩) (List.map Qi (dI E t))]) h (Zw h I (.tmp I) (.tmp I)) (PostMark.ok e f (dH r t hj.1 hj.2 G)) ss
 ·refine gL h<|au 0x6255311e22e44f44f44f420f ?_;clear h;intro a w h
  replace h:=h.derive (R:=Row none []) (fun X N s=>absurd I s)
  exact Qn (Ψ:=[Row none []]) h (Zw h I (.tmp I) (.tmp I)) (PostMark.err (by rw[e];rfl)) ss
end
section
theorem GR(n g m i z f q h d o j k u c v e l b t r p s y a x:Value)(w:World): (Instr.buildSlice 58 5 [(0,.agg #[n,g,m,i,z]),(1,.agg #[f,q,h,d,o]),(2,.agg #[j,k,u,c,v]),(3,.agg #[e,l,b,t,r]),(4,.agg #[p,s,y,a,x])].toArray).run prog w=.ok (.slice (some ⟨w.heap.size,0,none⟩) 5 5) (w.alloc (.cells #[n,g,m,i,z,f,q,h,d,o,j,k,u,c,v,e,l,b,t,r,p,s,y,a,x] 51 (0,0))):=by
 simp[go_sem]
theorem EB(E:List Rat)(ad:Option Addr)(c:Nat)(t:Rat)(R:List Nat)(n:Nat)(e:Int)(hR:BU E t=R)(he:Eo E t=e)(hl:R.length=n)(b:∀x∈E,Zn x≤50000000)(ht:Zn t≤1000)(d:E.length≤90):
  Ctr prog 16 [.slice ad E.length c,Qe t] [Row ad (cellsOf Qe E)] (fun v Ψ => ∃a,v=.tuple #[.slice a n n,.int .i64 e]∧Ψ=[Row a (List.map Qi R)]):=by
 subst hR;subst he;subst hl
 exact C_Mark E ad c t b ht d
abbrev exE:List Rat:=[((1:Int):Rat),((4:Int):Rat),((2:Int):Rat),((4:Int):Rat),((1:Int):Rat)]
theorem GN:∀x∈exE,Zn x≤50000000:=by
 intro x hx
 have h1:=Qa 1 dd dd
 have a:=Qa 2 dd dd
 have b:=Qa 4 dd dd
 simp only[exE,List.mem_cons,List.not_mem_nil,or_false] at hx
 rcases hx with rfl|rfl|rfl|rfl|rfl<;>omega
theorem exR35:BU exE (((1:Int):Rat)/((2:Int):Rat))=[1,3]:=by decide +kernel
theorem exM35:Eo exE (((1:Int):Rat)/((2:Int):Rat))=0:=by decide +kernel
theorem exR41:BU exE (((1:Int):Rat)/((3:Int):Rat))=[1]:=by decide +kernel
theorem exM41:Eo exE (((1:Int):Rat)/((3:Int):Rat))=0:=by decide +kernel
theorem exR47:BU exE (((3:Int):Rat)/((4:Int):Rat))=[1,2,3]:=by decide +kernel
theorem exM47:Eo exE (((3:Int):Rat)/((4:Int):Rat))=0:=by decide +kernel
theorem exR53:BU exE (((0:Int):Rat))=[]:=by decide +kernel
theorem exM53:Eo exE (((0:Int):Rat))=0:=by decide +kernel
theorem exR59:BU exE (((1:Int):Rat))=[0,1,2,3,4]:=by decide +kernel
theorem exM59:Eo exE (((1:Int):Rat))=0:=by decide +kernel
theorem exR65:BU exE (((3:Int):Rat)/((2:Int):Rat))=[]:=by decide +kernel
theorem exM65:Eo exE (((3:Int):Rat)/((2:Int):Rat))=1:=by decide +kernel
theorem MJ:Ji prog 6 [] (.bool true):=by
 refine fnI func6 I ntmps6 fun S w0 hS=>au 0xa1f312531 ?_;intro a w h
 have N:=Qa (1) oo oo
 refine gL h<|au 0xa1f ?_
 have P:=Qa (4) oo oo
 refine au 0xa1f ?_;intro a w h
 have Y:=Qa (2) oo oo
 refine gL h<|au 0xa1f ?_
 have a6:=Qa (4) oo oo
 refine au 0xa1f ?_;intro a w h
 have R:=Qa (1) oo oo
 refine gL h (zB [(_,_),(_,_),(_,_),(_,_),(_,_)] I (GR _ _ _ _ _ _ _ _ _ _ _ _ _ _ _ _ _ _ _ _ _ _ _ _ _) fun F=>za I ?_);clear h;intro a w h
 replace h:=h.shareAll hS (cellsOf Qe ([((1:Int):Rat),((4:Int):Rat),((2:Int):Rat),((4:Int):Rat),((1:Int):Rat)])) I
 replace h:=h.same (Φ':=[Row (some ⟨F,0,none⟩) (cellsOf Qe exE)]) I I I
 refine gL h<|au 0x05f312 ?_
 have J:=Ks (1) (3) oo oo oo oo
 refine au 0xbb4 ?_
 refine zz Xl fun b2=>stW I I Zi ?_
 refine au 0x05f3125 ?_;clear h;intro a w h
 have Q:=Ks (3) (4) oo oo oo oo
 refine gL h<|au 0xbb4 ?_
 refine zz Xl fun b4=>stW I I Zi ?_
 refine au 0x43125 ?_
 refine zv [_] I call17 (bb 1 oo oo) ?_
 have W:=Ks 1 2 oo oo dd dd
 refine zf [_,_] I call16 (EB exE _ _ (((1:Int):Rat)/((2:Int):Rat)) [1,3] 2 0 exR35 exM35 I GN oo nb) ?_;rintro v35 U ⟨u,rfl,rfl⟩ a w h
 obtain ⟨C,A,rfl⟩:=h.row_addr (ad:=u) (M:=List.map Qi [1,3]) mm (by intro e;cases e)
 refine gL h<|au 0x6e431255bb4 ?_
 refine zf [_,_] I call16 (EB exE _ _ (((1:Int):Rat)/((3:Int):Rat)) [1] 1 0 exR41 exM41 I GN oo nb) ?_;clear h;rintro v41 H ⟨s,rfl,rfl⟩ a w h
 obtain ⟨E,D,rfl⟩:=h.row_addr (ad:=s) (M:=List.map Qi [1]) mm (by intro e;cases e)
 refine gL h<|au 0x6e431255bb4 ?_
 refine zf [_,_] I call16 (EB exE _ _ (((3:Int):Rat)/((4:Int):Rat)) [1,2,3] 3 0 exR47 exM47 I GN oo nb) ?_;clear h;rintro a8 L ⟨t,rfl,rfl⟩ a w h
 obtain ⟨z,y,rfl⟩:=h.row_addr (ad:=t) (M:=List.map Qi [1,2,3]) mm (by intro e;cases e)
 refine gL h<|au 0xa1f431255bb4 ?_
 have T:=Qa (0) oo oo
 refine zf [_,_] I call16 (EB exE _ _ (((0:Int):Rat)) [] 0 0 exR53 exM53 I GN oo nb) ?_;rintro v53 K ⟨Z,rfl,rfl⟩
 refine au 0xa1f431255bb4 ?_;intro a w h
 have X:=Qa (1) oo oo
 refine gL h<|zf [_,_] I call16 (EB exE _ _ (((1:Int):Rat)) [0,1,2,3,4] 5 0 exR59 exM59 I GN oo nb) ?_;clear h;rintro v59 O ⟨v,rfl,rfl⟩ a w h
 obtain ⟨B,x,rfl⟩:=h.row_addr (ad:=v) (M:=List.map Qi [0,1,2,3,4]) mm (by intro e;cases e)
 refine gL h<|au 0x431255bb4 ?_
 refine zv [_] I call17 (bb 3 oo oo) ?_
 have G:=Ks 3 2 oo oo dd dd
 refine zf [_,_] I call16 (EB exE _ _ (((3:Int):Rat)/((2:Int):Rat)) [] 0 1 exR65 exM65 I GN oo nb) ?_;rintro a7 a1 ⟨V,rfl,rfl⟩
 refine au 0x62f4311255bb4 ?_
 refine bbF (fun r=>(by exfalso;revert r;decide)) fun r=>zm I<|zq 70 I I (.move I)<|zq 70 I I (.builtin [_] I<|Gb _ _ _)<|zq 70 I I (.neq I I) (bbF (fun p=>(by exfalso;revert p;decide)) fun p=>au 0x44e ?_)
 refine zq 75 I I (.move I)<|zq 75 I I (.builtin [_] I<|Gb _ _ _)<|zq 75 I I (.neq I I) (bbF (fun m=>(by exfalso;revert m;decide)) fun m=>au 0x44e ?_)
 refine zq 80 I I (.move I)<|zq 80 I I (.builtin [_] I<|Gb _ _ _)<|zq 80 I I (.neq I I) (bbF (fun l=>(by exfalso;revert l;decide)) fun l=>au 0x44e ?_)
 refine zq 85 I I (.move I)<|zq 85 I I (.builtin [_] I<|Gb _ _ _)<|zq 85 I I (.neq I I) (bbF (fun n=>(by exfalso;revert n;decide)) fun n=>au 0xf7f44e ?_)
 refine zq 90 I I (.builtin [_] I<|Gb _ _ _)<|zq 90 I I (.neq I I) (bbF (fun q=>(by exfalso;revert q;decide)) fun q=>au 0x44e ?_)
 refine zq 95 I I (.move I)<|zq 95 I I (.neq I I) (bbF (fun o=>(by exfalso;revert o;decide)) fun o=>au 0x4317d24e ?_)
 refine zp (.indexAddr I I<|Hv _ _ _ _ 0 dd)<|zD I mm (by simp;first|done|decide) isAgg3 sizeOf3 (Zr 0 (by first|done|decide)) (.inr I) ?_
 refine zp (.eql I I) (bbT (fun d=>(by exfalso;revert d;decide)) fun d=>zm I<|zq 103 I I (.move I)<|zq 103 I I (.indexAddr I I<|Hv _ _ _ _ 1 dd) ?_);clear h;intro a w h
 refine Zq 103 h I I<|Xp h I mm (by simp;first|done|decide) isAgg3 sizeOf3 (Zr 0 (by first|done|decide)) (.inr I) dd ?_;clear h;intro a h
 refine gL h<|zq 103 I I (.eql I I) (bbT (fun g=>(by exfalso;revert g;decide)) fun g=>au 0x42e ?_)
 refine zq 109 I I (.move I)<|zq 109 I I (.indexAddr I I<|Hv _ _ _ _ 0 dd) ?_;clear h;intro a w h
 refine Zq 109 h I I<|Xp h I mm (by simp;first|done|decide) isAgg3 sizeOf3 (Zr 0 (by first|done|decide)) (.inr I) dd ?_;clear h;intro a h
 refine gL h<|zq 109 I I (.eql I I) (bbT (fun k=>(by exfalso;revert k;decide)) fun k=>au 0x42e ?_)
 refine zq 115 I I (.move I)<|zq 115 I I (.indexAddr I I<|Hv _ _ _ _ 0 dd) ?_;clear h;intro a w h
 refine Zq 115 h I I<|Xp h I mm (by simp;first|done|decide) isAgg3 sizeOf3 (Zr 0 (by first|done|decide)) (.inr I) dd ?_;clear h;intro a h
 refine gL h<|zq 115 I I (.eql I I) (bbT (fun j=>(by exfalso;revert j;decide)) fun j=>au 0x42e ?_)
 refine zq 121 I I (.move I)<|zq 121 I I (.indexAddr I I<|Hv _ _ _ _ 1 dd) ?_;clear h;intro a w h
 refine Zq 121 h I I<|Xp h I mm (by simp;first|done|decide) isAgg3 sizeOf3 (Zr 0 (by first|done|decide)) (.inr I) dd ?_;clear h;intro a h
 refine gL h<|zq 121 I I (.eql I I) (bbT (fun c=>(by exfalso;revert c;decide)) fun c=>au 0x42e ?_)
 refine zq 127 I I (.move I)<|zq 127 I I (.indexAddr I I<|Hv _ _ _ _ 2 dd) ?_;clear h;intro a w h
 refine Zq 127 h I I<|Xp h I mm (by simp;first|done|decide) isAgg3 sizeOf3 (Zr 0 (by first|done|decide)) (.inr I) dd ?_;clear h;intro a h
 refine gL h<|zq 127 I I (.eql I I) (bbT (fun b=>(by exfalso;revert b;decide)) fun b=>au 0x42e ?_)
 refine zq 133 I I (.move I)<|zq 133 I I (.indexAddr I I<|Hv _ _ _ _ 0 dd) ?_;clear h;intro a w h
 refine Zq 133 h I I<|Xp h I mm (by simp;first|done|decide) isAgg3 sizeOf3 (Zr 0 (by first|done|decide)) (.inr I) dd ?_;clear h;intro a h
 refine gL h<|zq 133 I I (.eql I I) (bbT (fun i=>(by exfalso;revert i;decide)) fun i=>au 0x42e ?_)
 refine zq 139 I I (.move I)<|zq 139 I I (.indexAddr I I<|Hv _ _ _ _ 4 dd) ?_;clear h;intro a w h
 refine Zq 139 h I I<|Xp h I mm (by simp;first|done|decide) isAgg3 sizeOf3 (Zr 0 (by first|done|decide)) (.inr I) dd ?_;clear h;intro a h
 refine gL h<|zq 139 I I (.eql I I) (bbT (fun f=>(by exfalso;revert f;decide)) fun f=>au 0x6252e ?_)
 refine rtK I
end
section
structure Tm where
 i:Nat
 j:Nat
 c:Rat
theorem Tm.ext'{s t:Tm}(h1:s.i=t.i)(a:s.j=t.j)(b:s.c=t.c): s=t:=by cases s;cases t;simp_all
instance:DecidableEq Tm:=fun s t=>decidable_of_iff (s.i=t.i∧s.j=t.j∧s.c=t.c) ⟨fun h=>Tm.ext' h.1 h.2.1 h.2.2,fun h=>by rw[h];exact⟨rfl,rfl,rfl⟩⟩
def lin(φ:Nat→Nat→Rat): List Tm→Rat
 | []=>0
 | t::l=>t.c*φ t.i t.j+lin φ l
theorem Lv(φ:Nat→Nat→Rat): lin φ []=0:=rfl
theorem RE(φ:Nat→Nat→Rat)(t:Tm)(l:List Tm): lin φ (t::l)=t.c*φ t.i t.j+lin φ l:=rfl
theorem Aa(φ:Nat→Nat→Rat): ∀l m:List Tm,lin φ (l++m)=lin φ l+lin φ m
 | [],m=>by simp only[List.nil_append,lin];grind
 | t::l,m=>by simp only[List.cons_append,lin,Aa φ l m];grind
theorem ep(φ:Nat→Nat→Rat){l m:List Tm}(h:l.Perm m): lin φ l=lin φ m:=by
 induction h with
 | nil=>rfl
 | cons x _ b=>simp only[lin,b]
 | swap x y l=>simp only[lin];grind
 | trans _ _ h1 a=>rw[h1,a]
theorem Av{φ a:Nat→Nat→Rat}: ∀ {l:List Tm},(∀t∈l,φ t.i t.j=a t.i t.j)→lin φ l=lin a l
 | [],_=>rfl
 | t::l,h=>by rw[lin,lin,h t List.mem_cons_self,Av (fun s hs=>h s (List.mem_cons_of_mem _ hs))]
theorem XI(φ a:Nat→Nat→Rat): ∀l:List Tm,lin (fun i j=>φ i j+a i j) l=lin φ l+lin a l
 | []=>by simp only[lin];grind
 | t::l=>by simp only[lin,XI φ a l];grind
theorem DG(a:Rat)(φ:Nat→Nat→Rat): ∀l:List Tm,lin (fun i j=>a*φ i j) l=a*lin φ l
 | []=>by simp only[lin];grind
 | t::l=>by simp only[lin,DG a φ l];grind
theorem RA(a:Rat)(φ:Nat→Nat→Rat): ∀l:List Tm,lin (fun i j=>φ i j*a) l=lin φ l*a
 | []=>by simp only[lin];grind
 | t::l=>by simp only[lin,RA a φ l];grind
theorem Rz:∀l:List Tm,lin (fun _ _=>0) l=0
 | []=>rfl
 | t::l=>by simp only[lin,Rz l];grind
theorem Im(φ:Nat→Nat→Rat)(g:Tm→Tm)(a:Nat→Nat→Rat): ∀l:List Tm,(∀t∈l,(g t).c*φ (g t).i (g t).j=t.c*a t.i t.j)→lin φ (l.map g)=lin a l
 | [],_=>rfl
 | t::l,h=>by rw[List.map_cons,lin,lin,h t List.mem_cons_self,Im φ g a l (fun s hs=>h s (List.mem_cons_of_mem _ hs))]
theorem Ep(φ:Nat→Nat→Rat)(g:Tm→List Tm)(a:Nat→Nat→Rat): ∀l:List Tm,(∀t∈l,lin φ (g t)=t.c*a t.i t.j)→lin φ (l.flatMap g)=lin a l
 | [],_=>rfl
 | t::l,h=>by rw[List.flatMap_cons,Aa,lin,h t List.mem_cons_self,Ep φ g a l (fun s hs=>h s (List.mem_cons_of_mem _ hs))]
def same(s t:Tm): Prop:=s.i=t.i∧s.j=t.j
instance (s t:Tm):Decidable (same s t):=inferInstanceAs (Decidable (_∧_))
def CN(t:Tm): List Tm→List Tm
 | []=>[⟨t.i,t.j,0+t.c⟩]
 | s::p=>if same s t then ⟨s.i,s.j,s.c+t.c⟩::p else s::CN t p
theorem RB(φ:Nat→Nat→Rat)(t:Tm): ∀p:List Tm,lin φ (CN t p)=lin φ p+t.c*φ t.i t.j
 | []=>by simp only[CN,lin];grind
 | s::p=>by
  rw[CN]
  split
  ·rename_i h;obtain ⟨h1,a⟩:=h;simp only[lin,h1,a];grind
  ·simp only[lin,RB φ t p];grind
theorem LN{t u:Tm}: ∀ {p:List Tm},u∈CN t p→same u t∨u∈p
 | [],h=>by simp only[CN,List.mem_singleton] at h;subst h;exact .inl ⟨rfl,rfl⟩
 | s::p,h=>by
  rw[CN] at h
  split at h
  ·rename_i a
   rcases List.mem_cons.1 h with rfl|h
   ·exact .inl a
   ·exact .inr (List.mem_cons_of_mem _ h)
  ·rcases List.mem_cons.1 h with rfl|h
   ·exact .inr List.mem_cons_self
   ·exact(LN h).imp id (List.mem_cons_of_mem _)
def dif(p:List Tm): Prop:=p.Pairwise (fun s t => ¬same s t)
theorem RP(t:Tm): ∀ {p:List Tm},dif p→dif (CN t p)
 | [],_=>by rw[CN];exact List.pairwise_singleton _ _
 | s::p,h=>by
  obtain ⟨h1,b⟩:=List.pairwise_cons.1 h
  rw[CN]
  split
  ·rename_i hs;exact List.pairwise_cons.2 ⟨fun u hu hc=>h1 u hu hc,b⟩
  ·rename_i hs
   refine List.pairwise_cons.2 ⟨fun u hu=>?_,RP t b⟩
   rcases LN hu with a|a
   ·exact fun c=>hs ⟨c.1.trans a.1,c.2.trans a.2⟩
   ·exact h1 u a
theorem RO(t:Tm): ∀p:List Tm,(CN t p).length≤p.length+1
 | []=>Nat.le_refl _
 | s::p=>by
  have h:=RO t p
  rw[CN];split<;>simp only[List.length_cons]<;>omega
def collect(l:List Tm): List Tm:=l.foldl (fun p t=>CN t p) []
theorem IR(φ:Nat→Nat→Rat): ∀(l p:List Tm),lin φ (l.foldl (fun p t=>CN t p) p)=lin φ p+lin φ l
 | [],p=>by simp only[List.foldl_nil,lin];grind
 | t::l,p=>by rw[List.foldl_cons,IR φ l,RB,lin];grind
theorem PG(φ:Nat→Nat→Rat)(l:List Tm): lin φ (collect l)=lin φ l:=by
 rw[collect,IR,lin];grind
theorem Di:∀(l:List Tm) {p:List Tm},dif p→dif (l.foldl (fun p t=>CN t p) p)
 | [],p,h=>h
 | t::l,p,h=>by rw[List.foldl_cons];exact Di l (RP t h)
theorem IS(l:List Tm): dif (collect l):=Di l List.Pairwise.nil
theorem Dg{u:Tm}: ∀(l:List Tm) {p:List Tm},u∈l.foldl (fun p t=>CN t p) p→u∈p ∨ ∃t∈l,same u t
 | [],p,h =>.inl h
 | t::l,p,h=>by
  rw[List.foldl_cons] at h
  rcases Dg l h with h1|⟨s,hs,h1⟩
  ·rcases LN h1 with a|a
   ·exact .inr ⟨t,List.mem_cons_self,a⟩
   ·exact .inl a
  ·exact .inr ⟨s,List.mem_cons_of_mem _ hs,h1⟩
theorem IQ{l:List Tm}{u:Tm}(h:u∈collect l): ∃t∈l,same u t:=by
 rcases Dg l h with h|h
 ·cases h
 ·exact h
theorem Dh:∀(l p:List Tm),(l.foldl (fun p t=>CN t p) p).length≤p.length+l.length
 | [],p=>Nat.le_refl _
 | t::l,p=>by rw[List.foldl_cons];have:=Dh l (CN t p);have:=RO t p;simp only[List.length_cons];omega
theorem Ex(l:List Tm): (collect l).length≤l.length:=by have:=Dh l [];simpa [collect] using this
def ltT(s t:Tm): Bool:=decide (s.i+s.j<t.i+t.j∨(s.i+s.j=t.i+t.j∧s.j<t.j))
theorem C4(s t:Tm): ltT s t=true↔(s.i+s.j<t.i+t.j∨(s.i+s.j=t.i+t.j∧s.j<t.j)):=decide_eq_true_iff
theorem KI(s:Tm): ltT s s=false:=by rw[Bool.eq_false_iff,Ne,C4];omega
theorem Ij{s t u:Tm}(h1:ltT s t=true)(a:ltT t u=true): ltT s u=true:=by rw[C4] at *;omega
theorem KH{s t u:Tm}(h1:ltT s t=false)(a:ltT t u=false): ltT s u=false:=by rw[Bool.eq_false_iff,Ne,C4] at *;omega
theorem Ik{s t:Tm}(h1:ltT s t=false)(a:ltT t s=false): same s t:=by
 rw[Bool.eq_false_iff,Ne,C4] at *;unfold same;omega
def Nrm(p:List Tm): Prop:=(∀t∈p,t.c≠0)∧p.Pairwise (fun s t=>ltT s t=true)
def norm(l:List Tm): List Tm:=((collect l).filter (fun t=>decide (t.c≠0))).mergeSort (fun s t => !ltT t s)
theorem GA(φ:Nat→Nat→Rat): ∀l:List Tm,lin φ (l.filter (fun t=>decide (t.c≠0)))=lin φ l
 | []=>rfl
 | t::l=>by
  rw[List.filter_cons]
  split
  ·rw[lin,lin,GA φ l]
  ·rename_i h
   have a:t.c=0:=by simpa using h
   rw[lin,GA φ l,a];grind
theorem Aj(φ:Nat→Nat→Rat)(l:List Tm): lin φ (norm l)=lin φ l:=by
 rw[norm,ep φ (List.mergeSort_perm _ _),GA,PG]
theorem Lq{l:List Tm}{u:Tm}(h:u∈norm l): u∈collect l∧u.c≠0:=by
 have:=(List.mergeSort_perm _ _).mem_iff.1 h
 rw[List.mem_filter] at this
 exact⟨this.1,by simpa using this.2⟩
theorem Co(l:List Tm): Nrm (norm l):=by
 refine⟨fun t ht=>(Lq ht).2,?_⟩
 have hd:dif (norm l):=by
  have h1:dif ((collect l).filter (fun t=>decide (t.c≠0))):=List.Pairwise.filter _ (IS l)
  refine(List.Perm.pairwise_iff (fun {x y} h d=>h ⟨d.1.symm,d.2.symm⟩)<|List.mergeSort_perm _ _).2 h1
 have hs:=List.pairwise_mergeSort (le:=fun s t => !ltT t s) (fun a b c h1 d=>by
   simp only[Bool.not_eq_true'] at *
   exact KH d h1) (fun a b=>by
   rcases h:ltT b a with _|_
   ·simp
   ·have:ltT a b=false:=by rw[Bool.eq_false_iff];intro d;have:=Ij h d;rw[KI] at this;cases this
    simp[this]) ((collect l).filter (fun t=>decide (t.c≠0)))
 refine List.Pairwise.imp₂ (fun s t h1 d=>?_) hs hd
 rcases h:ltT s t with _|_
 ·exact absurd (Ik h (by simpa using h1)) d
 ·rfl
def at0(a b:Nat): Nat→Nat→Rat:=fun i j=>if i=a∧j=b then 1 else 0
theorem Bt{a b:Nat}: ∀ {l:List Tm},(∀t∈l,¬(t.i=a∧t.j=b))→lin (at0 a b) l=0
 | [],_=>rfl
 | t::l,h=>by
  rw[lin,Bt (fun s hs=>h s (List.mem_cons_of_mem _ hs)),at0,if_neg (h t List.mem_cons_self)];grind
theorem Rs{t:Tm}{p:List Tm}(h:Nrm (t::p)): Nrm p:=⟨fun s hs=>h.1 s (List.mem_cons_of_mem _ hs),(List.pairwise_cons.1 h.2).2⟩
theorem Cn{t:Tm}{p:List Tm}(h:Nrm (t::p)): lin (at0 t.i t.j) (t::p)=t.c:=by
 rw[lin,Bt (fun s hs=>?_),at0,if_pos ⟨rfl,rfl⟩]
 ·grind
 ·have:=(List.pairwise_cons.1 h.2).1 s hs
  rw[C4] at this;omega
theorem Rt{s t:Tm}{q:List Tm}(h:ltT s t=true)(hq:Nrm (t::q)): lin (at0 s.i s.j) (t::q)=0:=by
 refine Bt (fun u hu=>?_)
 have a:ltT s u=true:=by
  rcases List.mem_cons.1 hu with rfl|hu
  ·exact h
  ·exact Ij h ((List.pairwise_cons.1 hq.2).1 u hu)
 rw[C4] at a;omega
theorem Po:∀ {p q:List Tm},Nrm p→Nrm q→(∀φ,lin φ p=lin φ q)→p=q
 | [],[],_,_,_=>rfl
 | [],t::q,_,hq,h=>by
  have h1:=h (at0 t.i t.j)
  rw[Cn hq,Lv] at h1
  exact absurd h1.symm (hq.1 t List.mem_cons_self)
 | s::p,[],b,_,h=>by
  have h1:=h (at0 s.i s.j)
  rw[Cn b,Lv] at h1
  exact absurd h1 (b.1 s List.mem_cons_self)
 | s::p,t::q,b,hq,h=>by
  have a:same s t:=by
   refine Ik ?_ ?_
   ·rw[Bool.eq_false_iff];intro hc
    have h1:=h (at0 s.i s.j)
    rw[Cn b,Rt hc hq] at h1
    exact b.1 s List.mem_cons_self h1
   ·rw[Bool.eq_false_iff];intro hc
    have h1:=h (at0 t.i t.j)
    rw[Cn hq,Rt hc b] at h1
    exact hq.1 t List.mem_cons_self h1.symm
  have hc:s.c=t.c:=by
   have h1:=h (at0 s.i s.j)
   rw[Cn b,a.1,a.2,Cn hq] at h1
   exact h1
  have e:=Tm.ext' a.1 a.2 hc
  subst e
  rw[Po (Rs b) (Rs hq) (fun φ=>by have:=h φ;rw[lin,lin] at this;grind)]
theorem Vk{l m:List Tm}(h:∀φ,lin φ l=lin φ m): norm l=norm m :=
 Po (Co l) (Co m) (fun φ=>by rw[Aj,Aj,h])
theorem Pp{p:List Tm}(h:Nrm p): norm p=p:=Po (Co p) h (fun φ=>Aj φ p)
theorem Nq(l:List Tm): norm (norm l)=norm l:=Pp (Co l)
end
section
theorem Lk(x:Rat)(m:Nat): ∀n:Nat,x ^ (m+n)=x ^ m*x ^ n
 | 0=>by rw[Nat.add_zero,Rat.pow_zero];grind
 | n+1=>by rw[←Nat.add_assoc,Rat.pow_succ,Rat.pow_succ,Lk x m n];grind
theorem Ll(x y:Rat): ∀n:Nat,(x*y) ^ n=x ^ n*y ^ n
 | 0=>by rw[Rat.pow_zero,Rat.pow_zero,Rat.pow_zero];grind
 | n+1=>by rw[Rat.pow_succ,Rat.pow_succ,Rat.pow_succ,Ll x y n];grind
theorem Ri:∀n:Nat,(1:Rat) ^ n=1
 | 0=>Rat.pow_zero _
 | n+1=>by rw[Rat.pow_succ,Ri n];grind
def evP(l:List Tm)(x y:Rat): Rat:=lin (fun i j=>x ^ i*y ^ j) l
def Yx(a b:List Tm): List Tm:=a.flatMap (fun s=>b.map (fun t=>⟨s.i+t.i,s.j+t.j,s.c*t.c⟩))
theorem Lx(φ:Nat→Nat→Rat)(a b:List Tm): lin φ (Yx a b)=lin (fun i j=>lin (fun p q=>φ (i+p) (j+q)) b) a:=by
 unfold Yx
 refine Ep φ _ _ a (fun s _=>?_)
 rw[Im φ _ (fun p q=>s.c*φ (s.i+p) (s.j+q)) b (fun t _=>by simp only;grind),DG]
theorem Eu(a b:List Tm)(x y:Rat): evP (Yx a b) x y=evP a x y*evP b x y:=by
 unfold evP
 rw[Lx, ←RA]
 refine Av (fun s _=>?_)
 rw[←DG]
 refine Av (fun t _=>?_)
 rw[Lk,Lk];grind
def AB(p:List Tm): Nat→List Tm
 | 0=>[⟨0,0,1⟩]
 | n+1=>Yx (AB p n) p
theorem PY(p:List Tm)(x y:Rat): ∀n,evP (AB p n) x y=evP p x y ^ n
 | 0=>by rw[AB,evP,lin,lin,Rat.pow_zero,Rat.pow_zero,Rat.pow_zero];grind
 | n+1=>by rw[AB,Eu,PY p x y n,Rat.pow_succ]
theorem Y5(l m:List Tm)(x y:Rat): evP (l++m) x y=evP l x y+evP m x y:=Aa _ _ _
def Qc(c:Rat)(l:List Tm): List Tm:=l.map (fun t=>⟨t.i,t.j,c*t.c⟩)
theorem AY(φ:Nat→Nat→Rat)(c:Rat)(l:List Tm): lin φ (Qc c l)=c*lin φ l:=by
 unfold Qc
 rw[←DG]
 exact Im φ _ _ l (fun t _=>by simp only;grind)
theorem Y4(c:Rat)(l:List Tm)(x y:Rat): evP (Qc c l) x y=c*evP l x y:=AY _ _ _
def sbL(X Y:List Tm)(l:List Tm): List Tm:=l.flatMap (fun t=>Qc t.c (Yx (AB X t.i) (AB Y t.j)))
theorem PE(φ:Nat→Nat→Rat)(X Y l:List Tm): lin φ (sbL X Y l)=lin (fun i j=>lin φ (Yx (AB X i) (AB Y j))) l:=by
 unfold sbL
 exact Ep φ _ _ l (fun t _=>by rw[AY])
theorem iS(X Y l:List Tm)(x y:Rat): evP (sbL X Y l) x y=evP l (evP X x y) (evP Y x y):=by
 unfold evP
 rw[PE]
 refine Av (fun t _=>?_)
 have:=Eu (AB X t.i) (AB Y t.j) x y
 rw[PY,PY] at this
 exact this
def dxL(l:List Tm): List Tm:=l.map (fun t=>⟨t.i-1,t.j,t.c*((t.i:Int):Rat)⟩)
def dyL(l:List Tm): List Tm:=l.map (fun t=>⟨t.i,t.j-1,t.c*((t.j:Int):Rat)⟩)
theorem XH(φ:Nat→Nat→Rat)(l:List Tm): lin φ (dxL l)=lin (fun i j=>((i:Int):Rat)*φ (i-1) j) l :=
 Im φ _ _ l (fun t _=>by simp only;grind)
theorem XG(φ:Nat→Nat→Rat)(l:List Tm): lin φ (dyL l)=lin (fun i j=>((j:Int):Rat)*φ i (j-1)) l :=
 Im φ _ _ l (fun t _=>by simp only;grind)
theorem Ve(a b:Nat): (((a+b:Nat):Int):Rat)=((a:Int):Rat)+((b:Int):Rat):=by
 rw[Int.natCast_add,Rat.intCast_add]
theorem HV:(((1:Nat):Int):Rat)=1:=rfl
def Eqv(l m:List Tm): Prop := ∀φ,lin φ l=lin φ m
theorem Eqv.rfl'{l:List Tm}: Eqv l l:=fun _=>rfl
theorem Eqv.symm{l m:List Tm}(h:Eqv l m): Eqv m l:=fun φ=>(h φ).symm
theorem Eqv.trans{l m k:List Tm}(h:Eqv l m)(a:Eqv m k): Eqv l k:=fun φ=>(h φ).trans (a φ)
theorem Eqv.nrm(l:List Tm): Eqv (norm l) l:=fun φ=>Aj φ l
theorem Eqv.mul{a b d c:List Tm}(h:Eqv a d)(e:Eqv b c): Eqv (Yx a b) (Yx d c):=fun φ=>by
 rw[Lx,Lx,h]
 exact Av (fun s _=>e _)
theorem Eqv.append{a b d c:List Tm}(h:Eqv a d)(e:Eqv b c): Eqv (a++b) (d++c):=fun φ=>by rw[Aa,Aa,h,e]
theorem Eqv.scale{a b:List Tm}(c:Rat)(h:Eqv a b): Eqv (Qc c a) (Qc c b):=fun φ=>by rw[AY,AY,h]
theorem Eqv.dx{a b:List Tm}(h:Eqv a b): Eqv (dxL a) (dxL b):=fun φ=>by rw[XH,XH,h]
theorem Eqv.dy{a b:List Tm}(h:Eqv a b): Eqv (dyL a) (dyL b):=fun φ=>by rw[XG,XG,h]
theorem Eqv.pow{a b:List Tm}(h:Eqv a b): ∀n,Eqv (AB a n) (AB b n)
 | 0=>Eqv.rfl'
 | n+1=>(Eqv.pow h n).mul h
theorem Eqv.sub{X Y l a b l':List Tm}(c:Eqv X a)(d:Eqv Y b)(h:Eqv l l'): Eqv (sbL X Y l) (sbL a b l'):=fun φ=>by
 rw[PE,PE,h]
 exact Av (fun s _=>((c.pow _).mul (d.pow _)) φ)
theorem Eqv.val{l m:List Tm}(h:Eqv l m)(x y:Rat): evP l x y=evP m x y:=h _
def pv(a:Nat→Rat)(x:Rat): Nat→Rat
 | 0=>0
 | n+1=>pv a x n+a n*x ^ n
theorem Rk(a:Nat→Rat)(x c d:Rat): ∀n,pv a (c*x) n-d*pv a x n=pv (fun k=>a k*(c ^ k-d)) x n
 | 0=>by simp only[pv];grind
 | n+1=>by
  have h:=Rk a x c d n
  have e:(c*x) ^ n=c ^ n*x ^ n:=Ll c x n
  simp only[pv,e];grind
theorem S2:∀k n:Nat,k<n→(2:Rat) ^ k-2 ^ n≠0:=by
 have a:∀k:Nat,(0:Rat)<2 ^ k:=fun k=>by
  induction k with
  | zero=>rw[Rat.pow_zero];decide
  | succ k b=>rw[Rat.pow_succ];grind
 have key:∀k d:Nat,(2:Rat) ^ k<2 ^ (k+d+1):=fun k d=>by
  induction d with
  | zero=>rw[Rat.pow_succ];have:=a k;have e:(2:Rat) ^ (k+0)=2 ^ k:=rfl;grind
  | succ d b =>
   have c:=a (k+d+1)
   rw[show k+(d+1)+1=(k+d+1)+1 by omega,Rat.pow_succ];grind
 intro k n h
 have:=key k (n-k-1)
 rw[show k+(n-k-1)+1=n by omega] at this
 grind
theorem Pb:∀(n:Nat) (a:Nat→Rat),(∀x,pv a x n=0) → ∀k,k<n→a k=0
 | 0,_,_,k,hk=>absurd hk (Nat.not_lt_zero _)
 | n+1,a,h,k,hk=>by
  have d:∀x,pv (fun k=>a k*(2 ^ k-2 ^ n)) x n=0:=fun x=>by
   rw[←Rk a x 2 (2 ^ n) n]
   have h1:=h (2*x)
   have b:=h x
   rw[pv] at h1 b
   have e:(2*x) ^ n=2 ^ n*x ^ n:=Ll 2 x n
   rw[e] at h1
   grind
  have low:∀k,k<n→a k=0:=fun k hk=>by
   have h1:=Pb n _ d k hk
   rcases Rat.mul_eq_zero.1 h1 with b|b
   ·exact b
   ·exact absurd b (S2 k n hk)
  rcases Nat.lt_or_ge k n with h1|h1
  ·exact low k h1
  ·have e:k=n:=oo
   subst e
   have z:∀m,m≤k→pv a 1 m=0:=fun m=>by
    induction m with
    | zero=>intro _;rfl
    | succ m c=>intro hm;rw[pv,c oo,low m oo];grind
   have h1:=h 1
   rw[pv,z k (Nat.le_refl _)] at h1
   have f:(1:Rat) ^ k=1:=Ri k
   rw[f] at h1
   grind
theorem Wv(a b:Nat→Rat)(x:Rat): ∀n,pv (fun k=>a k+b k) x n=pv a x n+pv b x n
 | 0=>by simp only[pv];grind
 | n+1=>by simp only[pv,Wv a b x n];grind
theorem Ig{a:Nat→Rat}(x:Rat): ∀ {n},(∀k,k<n→a k=0)→pv a x n=0
 | 0,_=>rfl
 | n+1,h=>by rw[pv,h n (Nat.lt_succ_self _),Ig x (fun k hk=>h k (Nat.lt_succ_of_lt hk))];grind
theorem Wu{a:Nat→Rat}(x:Rat)(m:Nat): ∀ {n},m<n→(∀k,k≠m→a k=0)→pv a x n=a m*x ^ m
 | 0,h,_=>absurd h (Nat.not_lt_zero _)
 | n+1,h,b=>by
  rw[pv]
  rcases Nat.lt_or_ge m n with c|c
  ·rw[Wu x m c b,b n oo];grind
  ·have e:m=n:=oo
   subst e
   rw[Ig x (fun k hk=>b k oo)];grind
def VB:List Tm→Nat
 | []=>0
 | t::l=>max (max (t.i+1) (t.j+1)) (VB l)
theorem OM{t:Tm}: ∀ {l:List Tm},t∈l→t.i<VB l∧t.j<VB l
 | s::l,h=>by
  rw[VB]
  rcases List.mem_cons.1 h with rfl|h
  ·omega
  ·have:=OM h;omega
theorem ev_pv(x y:Rat)(n:Nat): ∀l:List Tm,(∀t∈l,t.i<n∧t.j<n)→evP l x y=pv (fun i=>pv (fun j=>lin (at0 i j) l) y n) x n
 | [],_=>by
  exact(Ig x (fun k _=>Ig y (fun m _=>rfl))).symm
 | t::l,h=>by
  have a:=ev_pv x y n l (fun s hs=>h s (List.mem_cons_of_mem _ hs))
  have ht:=h t List.mem_cons_self
  have e:(fun i=>pv (fun j=>lin (at0 i j) (t::l)) y n)=(fun i=>pv (fun j=>t.c*at0 i j t.i t.j) y n+pv (fun j=>lin (at0 i j) l) y n):=by
   funext i;rw[←Wv];rfl
  rw[e,Wv, ←a]
  have b:pv (fun i=>pv (fun j=>t.c*at0 i j t.i t.j) y n) x n=t.c*(x ^ t.i*y ^ t.j):=by
   rw[Wu x t.i ht.1 (fun k hk=>Ig y (fun m _=>by rw[at0,if_neg (fun hc=>hk hc.1.symm)];grind)),
    Wu y t.j ht.2 (fun m hm=>by rw[at0,if_neg (fun hc=>hm hc.2.symm)];grind),at0,if_pos ⟨rfl,rfl⟩]
   grind
  rw[b];rfl
theorem ZK{l:List Tm}(h:∀x y,evP l x y=0)(a b:Nat): lin (at0 a b) l=0:=by
 by_cases c:a<VB l∧b<VB l
 ·have h1:∀y i,i<VB l→pv (fun j=>lin (at0 i j) l) y (VB l)=0:=fun y =>
   Pb (VB l) _ (fun x=>by rw[←ev_pv x y (VB l) l (fun t ht=>OM ht),h x y])
  exact Pb (VB l) _ (fun y=>h1 y a c.1) b c.2
 ·exact Bt (fun t ht hc=>c (by have:=OM ht;rw[hc.1,hc.2] at this;exact this))
theorem fi{l:List Tm}(h:∀a b,lin (at0 a b) l=0): ∀φ,lin φ l=0:=by
 intro φ
 rw[←Aj]
 have c:=Co l
 rcases hl:norm l with _|⟨t,p⟩
 ·rfl
 ·rw[hl] at c
  have h1:=Cn c
  rw[←hl,Aj,h] at h1
  exact absurd h1.symm (c.1 t List.mem_cons_self)
theorem Eqv.of_ev{l m:List Tm}(h:∀x y,evP l x y=evP m x y): Eqv l m:=by
 have h1:∀x y,evP (l++Qc (-1) m) x y=0:=fun x y=>by rw[Y5,Y4,h];grind
 intro φ
 have:=fi (ZK h1) φ
 rw[Aa,AY] at this
 grind
end
section
def ln(a b c:Rat): List Tm:=[⟨1,0,a⟩,⟨0,1,b⟩,⟨0,0,c⟩]
theorem ev_ln(a b c x y:Rat): evP (ln a b c) x y=a*x+b*y+c:=by
 simp only[evP,ln,lin];rw[Rat.pow_zero,Rat.pow_zero,Rat.pow_succ,Rat.pow_succ,Rat.pow_zero,Rat.pow_zero];grind
def shL(p:List Tm)(ax bx cx ay by' cy:Rat): List Tm:=sbL (ln ax bx cx) (ln ay by' cy) p
theorem Y3(p:List Tm)(a d f e b c x y:Rat): evP (shL p a d f e b c) x y=evP p (a*x+d*y+f) (e*x+b*y+c):=by
 rw[shL,iS,ev_ln,ev_ln]
def lam(i j:Nat): Rat:=((1:Int):Rat)/(((i+1:Nat):Int):Rat)
theorem Ez(n:Nat): (((n+1:Nat):Int):Rat)≠0:=fun e=>by have:=Rat.intCast_eq_zero_iff.1 e;omega
theorem PL(i j:Nat): (((i+1:Nat):Int):Rat)*lam i j=1:=by
 have h:=Ez i
 have a:((1:Int):Rat)=1:=rfl
 unfold lam;rw[a];grind
def bt:Nat→Nat→Rat
 | 0,j=>lam j 0
 | i+1,j=>bt i j-bt i (j+1)
theorem P9:∀i j:Nat,(((i+j+2:Nat):Int):Rat)*bt (i+1) j=(((i+1:Nat):Int):Rat)*bt i j∧(((i+j+2:Nat):Int):Rat)*bt i (j+1)=(((j+1:Nat):Int):Rat)*bt i j
 | 0,j=>by
  have h1:=PL j 0
  have a:=PL (j+1) 0
  have o:=Ez j
  have g:=Ez (j+1)
  have e:(((0+j+2:Nat):Int):Rat)=(((j+1:Nat):Int):Rat)+1:=by rw[show 0+j+2=(j+1)+1 by omega,Ve,HV]
  have n:(((j+1+1:Nat):Int):Rat)=(((j+1:Nat):Int):Rat)+1:=by rw[Ve,HV]
  rw[n] at a g
  simp only[bt]
  rw[e,HV]
  constructor
  ·have:(((j+1:Nat):Int):Rat)*((((j+1:Nat):Int):Rat)+1)*(lam j 0-lam (j+1) 0)=1:=by grind
   grind
  ·grind
 | i+1,j=>by
  obtain ⟨f,a2⟩:=P9 i j
  obtain ⟨d,b⟩:=P9 i (j+1)
  have h1:bt (i+1+1) j=bt (i+1) j-bt (i+1) (j+1):=rfl
  have a:bt (i+1) j=bt i j-bt i (j+1):=rfl
  have p:bt (i+1) (j+1)=bt i (j+1)-bt i (j+1+1):=rfl
  have c1:(((i+1+j+2:Nat):Int):Rat)=((i:Int):Rat)+((j:Int):Rat)+3:=by
   rw[show i+1+j+2=i+j+3 by omega,Ve,Ve];rfl
  have c2:(((i+j+2:Nat):Int):Rat)=((i:Int):Rat)+((j:Int):Rat)+2:=by rw[Ve,Ve];rfl
  have k:(((i+(j+1)+2:Nat):Int):Rat)=((i:Int):Rat)+((j:Int):Rat)+3:=by
   rw[show i+(j+1)+2=i+j+3 by omega,Ve,Ve];rfl
  have l:(((i+1:Nat):Int):Rat)=((i:Int):Rat)+1:=by rw[Ve];rfl
  have c:(((j+1:Nat):Int):Rat)=((j:Int):Rat)+1:=by rw[Ve];rfl
  have m:(((i+1+1:Nat):Int):Rat)=((i:Int):Rat)+2:=by rw[show i+1+1=i+2 by omega,Ve];rfl
  have h:(((j+1+1:Nat):Int):Rat)=((j:Int):Rat)+2:=by rw[show j+1+1=j+2 by omega,Ve];rfl
  rw[c2] at f a2
  rw[k] at d b
  rw[l] at f d
  rw[c] at a2
  rw[h] at b
  rw[c1,c,m,h1]
  constructor<;>grind
def mu(i j:Nat): Rat:=bt (i+1) j/(((i+1:Nat):Int):Rat)
theorem mu_bt(i j:Nat): (((i+1:Nat):Int):Rat)*mu i j=bt (i+1) j:=by
 have h:=Ez i
 unfold mu;grind
def W1:List Tm:=[⟨0,0,1⟩,⟨1,0, -1⟩]
def X1:List Tm:=[⟨1,0,1⟩]
abbrev Pt:=Rat×Rat
def twQ(a b c:Pt): Rat:=(b.1-a.1)*(c.2-a.2)-(c.1-a.1)*(b.2-a.2)
def V1(p:List Tm)(a b:Pt): Rat:=lin lam (shL p (b.1-a.1) 0 a.1 (b.2-a.2) 0 a.2)
def VA(p:List Tm)(a b c:Pt): Rat:=twQ a b c*lin mu (shL p (b.1-a.1) (c.1-a.1) a.1 (b.2-a.2) (c.2-a.2) a.2)
def flowQ(g h:List Tm)(a b:Pt): Rat:=(b.2-a.2)*V1 g a b-(b.1-a.1)*V1 h a b
end
section
def prL(p:List Tm): List Tm:=p.map (fun t=>⟨t.i+1,t.j,t.c/(((t.i+1:Nat):Int):Rat)⟩)
def fanQ(p:List Tm)(a:Pt): List Pt→Rat
 | b::c::l=>VA p a b c+fanQ p a (c::l)
 | _=>0
def pathQ(f:Pt→Pt→Rat): List Pt→Rat
 | a::b::l=>f a b+pathQ f (b::l)
 | _=>0
def cycQ(f:Pt→Pt→Rat): List Pt→Rat
 | []=>0
 | a::l=>pathQ f (a::l++[a])
def polyQ(p:List Tm): List Pt→Rat
 | []=>0
 | a::l=>fanQ p a l
end
section
def KL(K:Nat)(l:List Tm): Prop := ∀t∈l,Zn t.c≤K
def DL(d:Nat)(l:List Tm): Prop := ∀t∈l,t.i+t.j≤d
theorem KL.mono{K K':Nat}{l:List Tm}(h:KL K l)(hk:K≤K'): KL K' l:=fun t ht=>Nat.le_trans (h t ht) hk
theorem DL.mono{d d':Nat}{l:List Tm}(h:DL d l)(hk:d≤d'): DL d' l:=fun t ht=>Nat.le_trans (h t ht) hk
def cntP(i j:Nat): List Tm→Nat
 | []=>0
 | t::l=>(if t.i=i∧t.j=j then 1 else 0)+cntP i j l
theorem ZP(i j:Nat): ∀l:List Tm,cntP i j l≤l.length
 | []=>Nat.le_refl _
 | t::l=>by have:=ZP i j l;rw[cntP,List.length_cons];split<;>omega
theorem NI{K:Nat}{f:Nat→Nat→Nat}{t:Tm}(ht:Zn t.c≤K): ∀ {p:List Tm},(∀u∈p,Zn u.c≤f u.i u.j) → ∀u∈CN t p,Zn u.c≤f u.i u.j+(if t.i=u.i∧t.j=u.j then K+1 else 0)
 | [],_,u,hu=>by
  rw[CN,List.mem_singleton] at hu
  subst hu
  have e:0+t.c=t.c:=by grind
  simp only[and_self,if_true,e];omega
 | s::p,h,u,hu=>by
  have a:=h s List.mem_cons_self
  rw[CN] at hu
  split at hu
  ·rename_i hs
   rcases List.mem_cons.1 hu with rfl|hu
   ·have:=Xj s.c t.c
    rw[if_pos ⟨hs.1.symm,hs.2.symm⟩]
    simp only;omega
   ·have:=h u (List.mem_cons_of_mem _ hu);omega
  ·rcases List.mem_cons.1 hu with rfl|hu
   ·omega
   ·exact NI ht (fun v hv=>h v (List.mem_cons_of_mem _ hv)) u hu
theorem CH{K:Nat}: ∀(l:List Tm) {p:List Tm} {f:Nat→Nat→Nat},KL K l→(∀u∈p,Zn u.c≤f u.i u.j) →
  ∀u∈l.foldl (fun p t=>CN t p) p,Zn u.c≤f u.i u.j+cntP u.i u.j l*(K+1)
 | [],p,f,_,h,u,hu=>by have:=h u hu;omega
 | t::l,p,f,hl,h,u,hu=>by
  rw[List.foldl_cons] at hu
  have a:=CH l (f:=fun i j=>f i j+(if t.i=i∧t.j=j then K+1 else 0)) (fun s hs=>hl s (List.mem_cons_of_mem _ hs)) (NI (hl t List.mem_cons_self) h) u hu
  rw[cntP,Nat.add_mul]
  split at a
  ·rename_i hc;rw[if_pos hc];omega
  ·rename_i hc;rw[if_neg hc];omega
theorem NZ{K:Nat}{l:List Tm}(h:KL K l): ∀u∈collect l,Zn u.c≤cntP u.i u.j l*(K+1):=fun u hu=>by
 have:=CH l (f:=fun _ _=>0) (p:=[]) h (fun _ hv=>nomatch hv) u hu
 omega
theorem na{d e:Nat}{a b:List Tm}(ha:KL d a)(f:KL e b): KL (d+e) (Yx a b):=fun u hu=>by
 unfold Yx at hu
 obtain ⟨s,hs,hu⟩:=List.mem_flatMap.1 hu
 obtain ⟨t,ht,rfl⟩:=List.mem_map.1 hu
 have:=Qh s.c t.c
 have:=ha s hs
 have:=f t ht
 simp only;omega
theorem Rw(a b:List Tm): (Yx a b).length=a.length*b.length:=by
 unfold Yx
 induction a with
 | nil=>simp
 | cons s a c=>rw[List.flatMap_cons,List.length_append,c,List.length_map,List.length_cons,Nat.add_mul];omega
theorem Jr{d:Nat}{l:List Tm}(h:DL d l): DL d (norm l):=fun u hu=>by
 obtain ⟨t,ht,h1,a⟩:=IQ (Lq hu).1
 rw[h1,a];exact h t ht
theorem I6{d:Nat}{a b:List Tm}(ha:DL d a)(c:DL d b): DL d (a++b):=fun t ht=>(List.mem_append.1 ht).elim (ha t) (c t)
theorem ac{c d:Nat}{a b:List Tm}(ha:DL c a)(e:DL d b): DL (c+d) (Yx a b):=fun u hu=>by
 unfold Yx at hu
 obtain ⟨s,hs,hu⟩:=List.mem_flatMap.1 hu
 obtain ⟨t,ht,rfl⟩:=List.mem_map.1 hu
 have:=ha s hs
 have:=e t ht
 simp only;omega
theorem Om{d:Nat}{a:List Tm}(c:Rat)(h:DL d a): DL d (Qc c a):=fun u hu=>by
 unfold Qc at hu
 obtain ⟨t,ht,rfl⟩:=List.mem_map.1 hu
 exact h t ht
theorem DL_dxL{d:Nat}{a:List Tm}(h:DL d a): DL d (dxL a):=fun u hu=>by
 unfold dxL at hu
 obtain ⟨t,ht,rfl⟩:=List.mem_map.1 hu
 have:=h t ht
 simp only;omega
theorem DL_dyL{d:Nat}{a:List Tm}(h:DL d a): DL d (dyL a):=fun u hu=>by
 unfold dyL at hu
 obtain ⟨t,ht,rfl⟩:=List.mem_map.1 hu
 have:=h t ht
 simp only;omega
def tri:Nat→Nat
 | 0=>0
 | n+1=>tri n+n+1
theorem Bl{m n:Nat}(h:m≤n): tri m≤tri n:=by
 induction h with
 | refl=>exact Nat.le_refl _
 | step _ a=>rw[tri];omega
def keyT(t:Tm): Nat:=tri (t.i+t.j)+t.j
theorem key_lt{s t:Tm}(h:ltT s t=true): keyT s<keyT t:=by
 rw[C4] at h
 unfold keyT
 rcases h with h|⟨h1,a⟩
 ·have:=Bl (show s.i+s.j+1≤t.i+t.j from h)
  rw[tri] at this;omega
 ·rw[h1];omega
theorem NE:∀(l:List Nat) (m n:Nat),l.Pairwise (· < ·)→(∀x∈l,m≤x∧x<n)→l.length≤n-m
 | [],_,_,_,_=>Nat.zero_le _
 | x::l,m,n,h,b=>by
  obtain ⟨h1,c⟩:=List.pairwise_cons.1 h
  have d:=b x List.mem_cons_self
  have:=NE l (x+1) n c (fun y a=>⟨h1 y a,(b y (List.mem_cons_of_mem _ a)).2⟩)
  rw[List.length_cons];omega
theorem WP{d:Nat}{p:List Tm}(h:Nrm p)(hd:DL d p): p.length≤tri (d+1):=by
 have:=NE (p.map keyT) 0 (tri (d+1)) (List.pairwise_map.2 (h.2.imp (fun {s t} hs=>key_lt hs))) (fun x hx=>by
  obtain ⟨t,ht,rfl⟩:=List.mem_map.1 hx
  have h1:=hd t ht
  have:=Bl h1
  refine⟨Nat.zero_le _,?_⟩
  unfold keyT;rw[tri];omega)
 rw[List.length_map] at this;exact this
def ab(x:Rat): Rat:=if x<0 then -x else x
theorem Bf(x:Rat): 0≤ab x:=by unfold ab;split<;>grind
theorem jl(x y:Rat): ab (x+y)≤ab x+ab y:=by unfold ab;split<;>split<;>split<;>grind
theorem Ge{x:Rat}(h:0≤x): ab x=x:=by unfold ab;rw[if_neg (by grind)]
theorem mX:ab 0=0:=Ge (by grind)
theorem K4(x:Rat): ab (-x)=ab x:=by unfold ab;split<;>split<;>grind
theorem Oi(x y:Rat): ab (x*y)=ab x*ab y:=by
 have key:∀x y:Rat,0≤x→0≤y→ab (x*y)=ab x*ab y:=fun x y hx a=>by
  rw[Ge hx,Ge a,Ge (Rat.mul_nonneg hx a)]
 by_cases hx:0≤x<;>by_cases a:0≤y
 ·exact key x y hx a
 ·rw[show x*y = -(x * -y) by grind,K4,key x (-y) hx (by grind),K4]
 ·rw[show x*y = -(-x*y) by grind,K4,key (-x) y (by grind) a,K4]
 ·rw[show x*y = -x * -y by grind,key (-x) (-y) (by grind) (by grind),K4,K4]
theorem Vv(a b:Nat): (((a*b:Nat):Int):Rat)=((a:Int):Rat)*((b:Int):Rat):=by rw[Int.natCast_mul,Rat.intCast_mul]
theorem Jm(a:Nat): (0:Rat)≤((a:Int):Rat):=by
 have h:=(Rat.intCast_le_intCast (a:=0) (b:=(a:Int))).2 oo
 exact h
theorem P8{a b:Nat}(h:a≤b): ((a:Int):Rat)≤((b:Int):Rat):=Rat.intCast_le_intCast.2 oo
theorem KQ{a b:Nat}(h:((a:Int):Rat)≤((b:Int):Rat)): a≤b:=by have:=Rat.intCast_le_intCast.1 h;omega
theorem Yc{a b c:Rat}(h:a≤b)(hc:0≤c): a*c≤b*c:=by
 have:=Rat.mul_nonneg (show 0≤b-a by grind) hc
 grind
theorem A7{a b c d:Rat}(h:a≤b)(e:c≤d)(ha:0≤c)(f:0≤b): a*c≤b*d:=by
 have i:=Yc h ha
 have g:=Yc e f
 grind
def sab:List Tm→Rat
 | []=>0
 | t::l=>ab t.c+sab l
theorem AV:∀l:List Tm,0≤sab l
 | []=>by rw[sab];grind
 | t::l=>by have:=AV l;have:=Bf t.c;rw[sab];grind
theorem FX:∀l m:List Tm,sab (l++m)=sab l+sab m
 | [],m=>by simp only[List.nil_append,sab];grind
 | t::l,m=>by rw[List.cons_append,sab,sab,FX l m];grind
theorem dj{l m:List Tm}(h:l.Perm m): sab l=sab m:=by
 induction h with
 | nil=>rfl
 | cons x _ b=>rw[sab,sab,b]
 | swap x y l=>simp only[sab];grind
 | trans _ _ h1 a=>rw[h1,a]
theorem jV{l:List Tm}{t:Tm}(h:t∈l): ab t.c≤sab l:=by
 induction l with
 | nil=>cases h
 | cons s l a =>
  rw[sab]
  rcases List.mem_cons.1 h with rfl|h
  ·have:=AV l;grind
  ·have:=a h;have:=Bf s.c;grind
theorem J0(f:Tm→Bool): ∀l:List Tm,sab (l.filter f)≤sab l
 | []=>by rw[List.filter_nil];grind
 | t::l=>by
  have:=J0 f l
  have:=Bf t.c
  rw[List.filter_cons]
  split
  ·rw[sab,sab];grind
  ·rw[sab];grind
theorem Q5(t:Tm): ∀p:List Tm,sab (CN t p)≤sab p+ab t.c
 | []=>by
  have e:0+t.c=t.c:=by grind
  simp only[CN,sab,e];grind
 | s::p=>by
  rw[CN]
  split
  ·have:=jl s.c t.c;simp only[sab];grind
  ·have:=Q5 t p;simp only[sab];grind
theorem CV:∀(l p:List Tm),sab (l.foldl (fun p t=>CN t p) p)≤sab p+sab l
 | [],p=>by simp only[List.foldl_nil,sab];grind
 | t::l,p=>by
  have h1:=CV l (CN t p)
  have a:=Q5 t p
  rw[List.foldl_cons];simp only[sab];grind
theorem dl(l:List Tm): sab (norm l)≤sab l:=by
 rw[norm,dj (List.mergeSort_perm _ _)]
 have h1:=J0 (fun t=>decide (t.c≠0)) (collect l)
 have a:=CV l []
 have b:collect l=l.foldl (fun p t=>CN t p) []:=rfl
 rw[←b] at a
 simp only[sab] at a
 grind
theorem M3(c:Rat): ∀l:List Tm,sab (Qc c l)=ab c*sab l
 | []=>by simp only[Qc,List.map_nil,sab];grind
 | t::l=>by
  have:=M3 c l
  have:=Oi c t.c
  simp only[Qc,List.map_cons,sab] at *
  grind
theorem Ib(s:Tm): ∀b:List Tm,sab (b.map (fun t=>(⟨s.i+t.i,s.j+t.j,s.c*t.c⟩:Tm)))=ab s.c*sab b
 | []=>by simp only[List.map_nil,sab];grind
 | t::b=>by
  have:=Ib s b
  have:=Oi s.c t.c
  simp only[List.map_cons,sab] at *
  grind
theorem V6(b:List Tm): ∀a:List Tm,sab (Yx a b)=sab a*sab b
 | []=>by show sab []=_;simp only[sab];grind
 | s::a=>by
  have c:=V6 b a
  have h:=Ib s b
  unfold Yx at *
  rw[List.flatMap_cons,FX,c,h,sab];grind
def ID(D:Nat)(x:Rat): Prop := ∃z:Int,x*((D:Int):Rat)=(z:Rat)
theorem ID.mul{D E:Nat}{x y:Rat}(h:ID D x)(a:ID E y): ID (D*E) (x*y):=by
 obtain ⟨z,hz⟩:=h
 obtain ⟨w,hw⟩:=a
 exact⟨z*w,by rw[Vv,Rat.intCast_mul, ←hz, ←hw];grind⟩
theorem ID.add{D:Nat}{x y:Rat}(h:ID D x)(a:ID D y): ID D (x+y):=by
 obtain ⟨z,hz⟩:=h
 obtain ⟨w,hw⟩:=a
 exact⟨z+w,by rw[Rat.intCast_add, ←hz, ←hw];grind⟩
theorem ID.int(n:Int): ID 1 (n:Rat):=⟨n,by rw[HV];grind⟩
theorem ID.zero(D:Nat): ID D 0:=⟨0,by show 0*_=(0:Rat);grind⟩
theorem ID.right{D:Nat}{x:Rat}(h:ID D x)(E:Nat): ID (D*E) x:=by
 have:=h.mul (ID.int (E:Int))
 obtain ⟨z,hz⟩:=h
 exact⟨z*E,by rw[Vv,Rat.intCast_mul, ←hz];grind⟩
theorem ID.left{D:Nat}{x:Rat}(h:ID D x)(E:Nat): ID (E*D) x:=by rw[Nat.mul_comm];exact h.right E
theorem Pv(x:Rat): x*((x.den:Int):Rat)=(x.num:Rat):=by
 rw[Rat.mul_def',Rat.num_intCast,Rat.den_intCast,Nat.mul_one]
 have:=Rat.mkRat_mul_right (n:=x.num) (d:=1) (a:=x.den) x.den_nz
 rw[Nat.one_mul] at this
 rw[this,Rat.mkRat_one]
theorem ID.self(x:Rat): ID x.den x:=⟨x.num,Pv x⟩
theorem ab_int(z:Int): ab (z:Rat)=((z.natAbs:Int):Rat):=by
 unfold ab
 split
 ·rename_i h
  have a:z<0:=Rat.intCast_lt_intCast.1 (show(z:Rat)<((0:Int):Rat) from h)
  rw[show((z.natAbs:Nat):Int) = -z by omega,Rat.intCast_neg]
 ·rename_i h
  have a:¬z<0:=fun b=>h (Rat.intCast_lt_intCast.2 b:(z:Rat)<((0:Int):Rat))
  rw[show((z.natAbs:Nat):Int)=z by omega]
theorem SB(x:Rat): ab x*((x.den:Int):Rat)=((x.num.natAbs:Int):Rat):=by
 rw[←ab_int, ←Pv,Oi,Ge (Jm x.den)]
theorem ID.den{D:Nat}{x:Rat}(h:ID D x): x.den∣D:=by
 obtain ⟨z,hz⟩:=h
 have h1:((x.num*(D:Int):Int):Rat)=((z*(x.den:Int):Int):Rat):=by
  rw[Rat.intCast_mul,Rat.intCast_mul, ←hz, ←Pv];grind
 have a:=Rat.intCast_inj.1 h1
 have b:x.num.natAbs*D=z.natAbs*x.den:=by
  have:=congrArg Int.natAbs a
  rwa[Int.natAbs_mul,Int.natAbs_mul,Int.natAbs_natCast,Int.natAbs_natCast] at this
 exact(Nat.Coprime.dvd_of_dvd_mul_left x.reduced.symm (b ▸ Nat.dvd_mul_left x.den z.natAbs))
def Hb(K:Nat)(l:List Tm): Prop := ∃D N:Nat,0<D∧D<4294967296 ^ K∧N<4294967296 ^ K∧(∀t∈l,ID D t.c)∧sab l*((D:Int):Rat)≤((N:Int):Rat)
theorem DC{K K':Nat}(h:K≤K'): 4294967296 ^ K≤4294967296 ^ K':=Nat.pow_le_pow_right dd h
theorem Hb.mono{K K':Nat}{l:List Tm}(h:Hb K l)(hk:K≤K'): Hb K' l:=by
 obtain ⟨D,N,d,h1,a,c,b⟩:=h
 exact⟨D,N,d,Nat.lt_of_lt_of_le h1 (DC hk),Nat.lt_of_lt_of_le a (DC hk),c,b⟩
theorem Hb.siz{K:Nat}{l:List Tm}(h:Hb K l): KL K l:=fun t ht=>by
 obtain ⟨D,N,d,h1,f,b,i⟩:=h
 have hd:=(b t ht).den
 have hle:=Nat.le_of_dvd d hd
 have e:((t.c.num.natAbs:Int):Rat)≤((N:Int):Rat):=by
  rw[←SB]
  have g:=A7 (jV ht) (P8 hle) (Jm _) (AV l)
  grind
 have a:=KQ e
 unfold Zn AC
 have:=AT (n:=t.c.num.natAbs) (k:=K) oo
 have:=AT (n:=t.c.den) (k:=K) oo
 omega
theorem Hb.nrm{K:Nat}{l:List Tm}(h:Hb K l): Hb K (norm l):=by
 obtain ⟨D,N,e,h1,d,f,g⟩:=h
 refine⟨D,N,e,h1,d,fun u hu=>?_,?_⟩
 ·have key:∀(l p:List Tm),(∀t∈l,ID D t.c)→(∀t∈p,ID D t.c) → ∀u∈l.foldl (fun p t=>CN t p) p,ID D u.c:=by
   intro l
   induction l with
   | nil=>intro p _ a u hu;exact a u hu
   | cons t l b =>
    intro p hl a u hu
    rw[List.foldl_cons] at hu
    refine b (CN t p) (fun s hs=>hl s<|List.mem_cons_of_mem _ hs) (fun v hv=>?_) u hu
    have ht:=hl t List.mem_cons_self
    clear b hu hl
    induction p with
    | nil=>rw[CN,List.mem_singleton] at hv;subst hv;exact(ID.zero D).add ht
    | cons s p b =>
     rw[CN] at hv
     split at hv
     ·rcases List.mem_cons.1 hv with rfl|hv
      ·exact(a s List.mem_cons_self).add ht
      ·exact a v (List.mem_cons_of_mem _ hv)
     ·rcases List.mem_cons.1 hv with rfl|hv
      ·exact a _ List.mem_cons_self
      ·exact b (fun w hw=>a w (List.mem_cons_of_mem _ hw)) hv
  exact key l [] f (fun _ h=>nomatch h) u (Lq hu).1
 ·have:=Yc (dl l) (Jm D)
  grind
theorem EV{n k:Nat}(h:(wds n).length≤k): n<4294967296 ^ k:=Nat.lt_of_lt_of_le (BM n) (DC h)
theorem XT{x:Rat}{k:Nat}(h:Zn x≤k): x.num.natAbs<4294967296 ^ k∧x.den<4294967296 ^ k:=by
 obtain ⟨h1,a⟩:=Da h
 exact⟨EV h1,EV a⟩
theorem Wy{a b c d K k:Nat}(h1:a<4294967296 ^ K)(e:b<4294967296 ^ k)(f:c<4294967296 ^ K)(g:d<4294967296 ^ k): a*b+c*d<4294967296 ^ (K+k+1):=by
 have h:=Nat.mul_lt_mul'' h1 e
 have i:=Nat.mul_lt_mul'' f g
 rw[Nat.pow_succ,Nat.pow_add]
 generalize 4294967296 ^ K*4294967296 ^ k=P at *
 omega
theorem Hb.nil:Hb 1 []:=⟨1,0,oo,by omega,oo,(fun _ h=>nomatch h),by show(0:Rat)*_≤(0:Rat);grind⟩
theorem Hb.append{c d:Nat}{a b:List Tm}(ha:Hb c a)(g:Hb d b): Hb (c+d+1) (a++b):=by
 obtain ⟨D,N,f,h1,e,i,j⟩:=ha
 obtain ⟨E,M,k0,k1,k2,k3,k4⟩:=g
 refine⟨D*E,N*E+D*M,Nat.mul_pos f k0,Nat.lt_of_lt_of_le (by rw[Nat.pow_add];exact Nat.mul_lt_mul'' h1 k1) (DC<|Nat.le_succ (c+d)),Wy e k1 h1 k2,fun t ht=>?_,?_⟩
 ·rcases List.mem_append.1 ht with h|h
  ·exact(i t h).right E
  ·exact(k3 t h).left D
 ·rw[FX,Vv,Ve,Vv,Vv]
  have k:=Yc j (Jm E)
  have l:=Yc k4 (Jm D)
  grind
theorem Hb.cons{K k:Nat}{l:List Tm}{t:Tm}(h:Hb K l)(ht:Zn t.c≤k): Hb (K+k+1) (t::l):=by
 obtain ⟨D,N,d,h1,b,g,i⟩:=h
 obtain ⟨e,a⟩:=XT ht
 have f:=t.c.den_pos
 refine⟨D*t.c.den,D*t.c.num.natAbs+N*t.c.den,Nat.mul_pos d f,Nat.lt_of_lt_of_le (by rw[Nat.pow_add];exact Nat.mul_lt_mul'' h1 a) (DC<|Nat.le_succ (K+k)),Wy h1 e b a,fun s hs=>?_,?_⟩
 ·rcases List.mem_cons.1 hs with rfl|hs
  ·exact(ID.self _).left D
  ·exact(g s hs).right _
 ·rw[sab,Vv,Ve,Vv,Vv]
  have j:=SB t.c
  have m:=Yc i (Jm t.c.den)
  rw[←j]
  grind
theorem Hb.of_KL{k:Nat}{l:List Tm}(h:KL k l): Hb (l.length*(k+1)+1) l:=by
 induction l with
 | nil=>exact Hb.nil.mono oo
 | cons t l b =>
  have a:=(b (fun s hs=>h s (List.mem_cons_of_mem _ hs))).cons (h t List.mem_cons_self)
  have e:(t::l).length*(k+1)+1=l.length*(k+1)+1+k+1:=by rw[List.length_cons,Nat.add_mul];omega
  rw[e];exact a
theorem Hb.scale{K k:Nat}{l:List Tm}{c:Rat}(h:Hb K l)(hc:Zn c≤k): Hb (k+K) (Qc c l):=by
 obtain ⟨D,N,d,h1,a,f,g⟩:=h
 obtain ⟨e,b⟩:=XT hc
 refine⟨c.den*D,c.num.natAbs*N,Nat.mul_pos c.den_pos d,by rw[Nat.pow_add];exact Nat.mul_lt_mul'' b h1,by rw[Nat.pow_add];exact Nat.mul_lt_mul'' e a,fun u hu=>?_,?_⟩
 ·unfold Qc at hu
  obtain ⟨t,ht,rfl⟩:=List.mem_map.1 hu
  exact(ID.self c).mul (f t ht)
 ·rw[M3,Vv,Vv, ←SB]
  have i:=Yc g (Rat.mul_nonneg (Bf c) (Jm c.den))
  grind
theorem Hb.mul{c d:Nat}{a b:List Tm}(ha:Hb c a)(g:Hb d b): Hb (c+d) (Yx a b):=by
 obtain ⟨D,N,f,h1,e,h,i⟩:=ha
 obtain ⟨E,M,k0,k1,k2,k3,k4⟩:=g
 refine⟨D*E,N*M,Nat.mul_pos f k0,by rw[Nat.pow_add];exact Nat.mul_lt_mul'' h1 k1,by rw[Nat.pow_add];exact Nat.mul_lt_mul'' e k2,fun u hu=>?_,?_⟩
 ·unfold Yx at hu
  obtain ⟨s,hs,hu⟩:=List.mem_flatMap.1 hu
  obtain ⟨t,ht,rfl⟩:=List.mem_map.1 hu
  exact(h s hs).mul (k3 t ht)
 ·rw[V6,Vv,Vv]
  have j:=A7 i k4 (Rat.mul_nonneg (AV b) (Jm E)) (Jm N)
  grind
theorem Q4(f:Tm→Tm)(m:Nat): ∀l:List Tm,(∀t∈l,ab (f t).c≤ab t.c*((m:Int):Rat))→sab (l.map f)≤sab l*((m:Int):Rat)
 | [],_=>by simp only[List.map_nil,sab];grind
 | t::l,h=>by
  have h1:=h t List.mem_cons_self
  have a:=Q4 f m l (fun s hs=>h s (List.mem_cons_of_mem _ hs))
  simp only[List.map_cons,sab];grind
theorem Hb.mapi{K:Nat}{l:List Tm}(h:Hb K l)(f:Tm→Tm)(n:Tm→Nat)(hf:∀t∈l,(f t).c=t.c*((n t:Int):Rat))(i:∀t∈l,n t≤1000): Hb (K+1) (l.map f):=by
 obtain ⟨D,N,b,h1,a,e,g⟩:=h
 refine⟨D,N*1000,b,Nat.lt_of_lt_of_le h1 (DC<|Nat.le_succ K),by rw[Nat.pow_succ];exact Nat.mul_lt_mul'' a dd,fun u hu=>?_,?_⟩
 ·obtain ⟨t,ht,rfl⟩:=List.mem_map.1 hu
  rw[hf t ht]
  obtain ⟨z,hz⟩:=e t ht
  exact⟨z*(n t:Int),by rw[Rat.intCast_mul, ←hz];grind⟩
 ·have d:=Q4 f 1000 l (fun t ht=>by
   rw[hf t ht,Oi,Ge (Jm _)]
   have:=Yc (P8 (i t ht)) (Bf t.c)
   grind)
  have k:=Yc d (Jm D)
  have j:=Yc g (Jm 1000)
  rw[Vv]
  grind
structure Pq(d K:Nat)(l:List Tm): Prop where
 deg:DL d l
 len:l.length≤100
 hgt:Hb K l
theorem Pq.siz{d K:Nat}{l:List Tm}(h:Pq d K l): KL K l:=h.hgt.siz
theorem Pq.nsz{d K:Nat}{l:List Tm}(h:Pq d K l): KL K (norm l):=h.hgt.nrm.siz
theorem Pq.nlen{d K:Nat}{l:List Tm}(h:Pq d K l): (norm l).length≤tri (d+1):=WP (Co l) (Jr h.deg)
theorem Pq.of_norm{d K:Nat}{l:List Tm}(hd:DL d l)(hk:Hb K l)(a:d≤12): Pq d K (norm l) :=
 ⟨Jr hd,Nat.le_trans (WP (Co l) (Jr hd)) (Nat.le_trans (Bl (show d+1≤13 by omega)) dd),hk.nrm⟩
theorem Pq.nrm{d K:Nat}{l:List Tm}(h:Pq d K l)(a:d≤12): Pq d K (norm l):=Pq.of_norm h.deg h.hgt a
theorem Pq.mono{d K d' K':Nat}{l:List Tm}(h:Pq d K l)(hd:d≤d')(hk:K≤K'): Pq d' K' l:=⟨h.deg.mono hd,h.len,h.hgt.mono hk⟩
theorem Pq.raw{d k m:Nat}{l:List Tm}(hd:DL d l)(hk:KL k l)(hm:l.length≤m)(a:m≤100): Pq d (m*(k+1)+1) l :=
 ⟨hd,Nat.le_trans hm a,(Hb.of_KL hk).mono (by have:=Nat.mul_le_mul_right (k+1) hm;omega)⟩
theorem Pq.add{c d f g:Nat}{a b:List Tm}(ha:Pq c f a)(e:Pq d g b)(h1:c≤12)(h:d≤12): Pq (max c d) (f+g+2) (norm (a++b)) :=
 Pq.of_norm (I6 (ha.deg.mono (Nat.le_max_left _ _)) (e.deg.mono (Nat.le_max_right _ _))) ((ha.hgt.append e.hgt).mono oo) oo
theorem Pq.mul{c d f g:Nat}{a b:List Tm}(ha:Pq c f a)(e:Pq d g b)(h1:c+d≤12): Pq (c+d) (f+g) (norm (Yx a b)) :=
 Pq.of_norm (ac ha.deg e.deg) (ha.hgt.mul e.hgt) h1
theorem Pq.scale{d K b:Nat}{a:List Tm}{c:Rat}(ha:Pq d K a)(hc:Zn c≤b)(h1:d≤12): Pq d (b+K+1) (norm (Qc c a)) :=
 Pq.of_norm (Om c ha.deg) ((ha.hgt.scale hc).mono oo) h1
theorem Pq.dx{d K:Nat}{p:List Tm}(h:Pq d K p)(hd:d≤12): Pq d (K+1) (norm (dxL p)) :=
 Pq.of_norm (DL_dxL h.deg) (h.hgt.mapi _ (fun t=>t.i) (fun t _=>rfl) (fun t ht=>by have:=h.deg t ht;omega)) hd
theorem Pq.dy{d K:Nat}{p:List Tm}(h:Pq d K p)(hd:d≤12): Pq d (K+1) (norm (dyL p)) :=
 Pq.of_norm (DL_dyL h.deg) (h.hgt.mapi _ (fun t=>t.j) (fun t _=>rfl) (fun t ht=>by have:=h.deg t ht;omega)) hd
theorem dZ:norm [⟨0,0,1⟩]=[⟨0,0,1⟩]:=Pp ⟨fun t ht=>by rw[List.mem_singleton] at ht;subst ht;simp only;grind,List.pairwise_singleton _ _⟩
theorem Lp:norm []=[]:=Pp ⟨(fun _ h=>nomatch h),List.Pairwise.nil⟩
theorem Pq.nil(d:Nat): Pq d 1 []:=⟨(fun _ h=>nomatch h),Nat.zero_le _,Hb.nil⟩
theorem Pq.one:Pq 0 4 [⟨0,0,1⟩] :=
 ⟨fun t ht=>by rw[List.mem_singleton] at ht;subst ht;exact Nat.le_refl _,by simp,(Hb.of_KL (k:=2) (fun t ht=>by rw[List.mem_singleton] at ht;subst ht;exact HK)).mono ss⟩
theorem Pq.pow{d K:Nat}{a:List Tm}(ha:Pq d K a): ∀n,n*d≤12→Pq (n*d) (n*K+4) (norm (AB a n))
 | 0,_=>by rw[AB,dZ,Nat.zero_mul,Nat.zero_mul];exact Pq.one
 | n+1,h=>by
  rw[Nat.add_mul,Nat.one_mul] at h
  have b:=Pq.pow ha n oo
  have:=Pq.mul b ha oo
  rw[Vk ((Eqv.nrm (AB a n)).mul Eqv.rfl')] at this
  rw[Nat.add_mul,Nat.one_mul,Nat.add_mul,Nat.one_mul]
  exact this.mono (Nat.le_refl _) oo
theorem Pq.line{K:Nat}{a b c:Rat}(ha:Zn a≤K)(d:Zn b≤K)(hc:Zn c≤K): Pq 1 (3*K+4) (ln a b c):=by
 have h:KL K (ln a b c):=fun t ht=>by
  simp only[ln,List.mem_cons,List.not_mem_nil,or_false] at ht
  rcases ht with rfl|rfl|rfl<;>assumption
 refine⟨fun t ht=>?_,by simp[ln],(Hb.of_KL h).mono (by simp[ln];omega)⟩
 simp only[ln,List.mem_cons,List.not_mem_nil,or_false] at ht
 rcases ht with rfl|rfl|rfl<;>simp
end
section
def KT(d K Kx:Nat): Nat:=K+d*(3*Kx+4)+20
def KS(d K Kx:Nat): Nat:=tri (d+1)*KT d K Kx+1
theorem Pq.line_pow{K n:Nat}{a b c:Rat}(ha:Zn a≤K)(d:Zn b≤K)(hc:Zn c≤K)(e:n≤12): Pq n (n*(3*K+4)+4) (norm (AB (ln a b c) n)):=by
 have h:=Pq.pow (Pq.line ha d hc) n oo
 rwa[Nat.mul_one] at h
def sbT(X Y:List Tm)(t:Tm): List Tm:=Qc t.c (Yx (AB X t.i) (AB Y t.j))
theorem Q3(X Y l:List Tm)(t:Tm): sbL X Y (l++[t])=sbL X Y l++sbT X Y t:=by
 unfold sbL sbT;rw[List.flatMap_append];simp
theorem Pq.sbT{d K a:Nat}{f h l k b g:Rat}{t:Tm}(h1:Zn f≤a)(m:Zn h≤a)(u:Zn l≤a)(x:Zn k≤a)(s:Zn b≤a)(q:Zn g≤a)(hd:d≤12)(ht:t.i+t.j≤d)(r:Zn t.c≤K): Pq d (KT d K a-2) (norm (sbT (ln f h l) (ln k b g) t)):=by
 have p:=Pq.line_pow (n:=t.i) h1 m u (show t.i≤12 by omega)
 have o:=Pq.line_pow (n:=t.j) x s q (show t.j≤12 by omega)
 have v:=Pq.mul p o (show t.i+t.j≤12 by omega)
 have w:=Pq.scale v r (show t.i+t.j≤12 by omega)
 have e:norm (Go.Proofs.YtejhdcohoggojaaGreatDoor.sbT (ln f h l) (ln k b g) t)=norm (Qc t.c (norm (Yx (norm (AB (ln f h l) t.i)) (norm (AB (ln k b g) t.j))))):=by
  refine(Vk ?_).symm
  exact((Eqv.nrm _).trans ((Eqv.nrm _).mul (Eqv.nrm _))).scale t.c
 rw[e]
 refine w.mono ht ?_
 have:=Nat.mul_le_mul_right (3*a+4) ht
 rw[Nat.add_mul] at this
 unfold KT;omega
theorem Pq.sbl{d K a:Nat}{f h j i b g:Rat}(h1:Zn f≤a)(l:Zn h≤a)(r:Zn j≤a)(s:Zn i≤a)(q:Zn b≤a)(n:Zn g≤a)(hd:d≤12){p:List Tm}(m:DL d p)(o:KL K p): ∀k,k≤p.length→Pq d (k*KT d K a+1) (norm (sbL (ln f h j) (ln i b g) (p.take k)))
 | 0,_=>by rw[List.take_zero,show sbL (ln f h j) (ln i b g) []=[] from rfl,Lp,Nat.zero_mul];exact Pq.nil d
 | k+1,hk=>by
  have u:=Pq.sbl h1 l r s q n hd m o k oo
  have c:=getD_mem p (d:=(⟨0,0,0⟩:Tm)) (show k<p.length by omega)
  have pt:=Pq.sbT (t:=p.getD k ⟨0,0,0⟩) h1 l r s q n hd (m _ c) (o _ c)
  have v:=Pq.add u pt hd hd
  have e:p.take (k+1)=p.take k++[p.getD k ⟨0,0,0⟩]:=by
   rw[List.take_add_one,List.getElem?_eq_getElem oo];simp[List.getD,show k<p.length by omega]
  rw[e,Q3, ←Vk ((Eqv.nrm _).append (Eqv.nrm _))]
  refine v.mono oo ?_
  have:20≤KT d K a:=by unfold KT;omega
  rw[Nat.add_mul];omega
theorem Pq.shift{d K a:Nat}{e g j i b f:Rat}{p:List Tm}(c:Pq d K p)(h1:Zn e≤a)(k:Zn g≤a)(n:Zn j≤a)(o:Zn i≤a)(m:Zn b≤a)(l:Zn f≤a)(hd:d≤12): Pq d (KS d K a) (norm (shL p e g j i b f)):=by
 have h:=Pq.sbl h1 k n o m l hd (Jr c.deg) c.nsz (norm p).length (Nat.le_refl _)
 rw[List.take_length] at h
 unfold shL
 rw[←Vk (Eqv.sub Eqv.rfl' Eqv.rfl' (Eqv.nrm p))]
 exact h.mono (Nat.le_refl _) (by have:=Nat.mul_le_mul_right (KT d K a) c.nlen;unfold KS;omega)
def Nz(φ:Nat→Nat→Rat)(l:List Tm): Rat:=l.foldl (fun s t=>s+t.c*φ t.i t.j) 0
theorem RF(φ:Nat→Nat→Rat): ∀(l:List Tm) (s:Rat),l.foldl (fun s t=>s+t.c*φ t.i t.j) s=s+lin φ l
 | [],s=>by simp only[List.foldl_nil,lin];grind
 | t::l,s=>by rw[List.foldl_cons,RF φ l,lin];grind
theorem XJ(φ:Nat→Nat→Rat)(l:List Tm): Nz φ l=lin φ l:=by rw[Nz,RF];grind
theorem Ny(φ:Nat→Nat→Rat)(l:List Tm)(t:Tm): Nz φ (l++[t])=Nz φ l+t.c*φ t.i t.j:=by
 unfold Nz;rw[List.foldl_append];rfl
theorem Iq{φ:Nat→Nat→Rat}{K Kf:Nat}: ∀ {l:List Tm} (n:Nat),n≤l.length→KL K l→(∀t∈l,Zn (φ t.i t.j)≤Kf)→Zn (Nz φ (l.take n))≤2+n*(K+Kf+1)
 | l,0,_,_,_=>by rw[List.take_zero];have:=Vo;unfold Nz;simp only[List.foldl_nil];omega
 | l,n+1,g,b,hf=>by
  have f:=Iq n oo b hf
  have a:=getD_mem l (d:=(⟨0,0,0⟩:Tm)) (show n<l.length by omega)
  have e:l.take (n+1)=l.take n++[l.getD n ⟨0,0,0⟩]:=by
   rw[List.take_add_one,List.getElem?_eq_getElem oo];simp[List.getD,show n<l.length by omega]
  rw[e,Ny]
  have:=Xj (Nz φ (l.take n)) ((l.getD n ⟨0,0,0⟩).c*φ (l.getD n ⟨0,0,0⟩).i (l.getD n ⟨0,0,0⟩).j)
  have:=Qh (l.getD n ⟨0,0,0⟩).c (φ (l.getD n ⟨0,0,0⟩).i (l.getD n ⟨0,0,0⟩).j)
  have:=b _ a
  have:=hf _ a
  rw[Nat.add_mul];omega
def fq:Nat→Rat
 | 0=>1
 | n+1=>fq n*(((n+1:Nat):Int):Rat)
theorem eV:∀n,fq n≠0
 | 0=>by rw[fq];decide
 | n+1=>by
  rw[fq];intro h
  rcases Rat.mul_eq_zero.1 h with h|h
  ·exact eV n h
  ·exact Ez n h
theorem up_fq(q:Rat): ∀p,upQ q p=q*fq p
 | 0=>by rw[upQ,fq];grind
 | p+1=>by rw[upQ,up_fq q p,fq];grind
theorem ZB(q:Rat): ∀n,Mm q n=q/fq n
 | 0=>by rw[Mm,fq];grind
 | n+1=>by
  have:=eV n
  have:=Ez n
  have:=eV (n+1)
  rw[Mm,ZB q n]
  rw[fq] at *
  grind
theorem bt_fq:∀i j:Nat,bt i j*fq (i+j+1)=fq i*fq j:=by
 have c:∀j:Nat,bt 0 j*fq (0+j+1)=fq 0*fq j:=fun j=>by
  have h1:=PL j 0
  have e:bt 0 j=lam j 0:=rfl
  rw[e,Nat.zero_add,fq,fq];grind
 intro i
 induction i with
 | zero=>exact c
 | succ i a =>
  intro j
  have h1:=(P9 i j).1
  have d:=a j
  have e:fq (i+1+j+1)=fq (i+j+1)*(((i+j+2:Nat):Int):Rat):=by
   rw[show i+1+j+1=(i+j+1)+1 by omega,fq]
  have b:fq (i+1)=fq i*(((i+1:Nat):Int):Rat):=rfl
  rw[e,b];grind
theorem Re(i j:Nat): J6 (i+j+2) [i,j]=mu i j:=by
 unfold J6
 rw[ZB]
 simp only[List.foldl_cons,List.foldl_nil,up_fq]
 have h1:=mu_bt i j
 have a:=bt_fq (i+1) j
 have b:=Ez i
 have f:=eV (i+j+2)
 have e:fq (i+1+j+1)=fq (i+j+2):=by congr 1;omega
 have d:fq (i+1)=fq i*(((i+1:Nat):Int):Rat):=rfl
 rw[e,d] at a
 have c:(((i+1:Nat):Int):Rat)*(mu i j*fq (i+j+2)-fq i*fq j)=0:=by grind
 rcases Rat.mul_eq_zero.1 c with h|h
 ·exact absurd h b
 ·grind
theorem PH(i j:Nat)(a:i≤12)(hj:j≤12): Zn (J6 (i+j+2) [i,j])≤300:=by
 unfold J6
 have h1:=Ir ([i,j].foldl upQ 1) (i+j+2) oo
 simp only[List.foldl_cons,List.foldl_nil] at *
 have b:=Ip 1 i oo
 have d:=Ip (upQ 1 i) j oo
 have c:=HK
 omega
theorem XQ(i j:Nat)(h:i+j≤12): Zn (mu i j)≤300:=by rw[←Re];exact PH i j oo oo
theorem ew(i j:Nat)(h:i≤12): Zn (lam i j)≤4:=Ks 1 ((i+1:Nat):Int) oo oo oo oo
end
section
def SG(d K Kp:Nat): Nat:=2+tri (d+1)*(KS d K (2*Kp+1)+5)
def TR(d K Kp:Nat): Nat:=(8*Kp+5)+(2+tri (d+1)*(KS d K (2*Kp+1)+301))
theorem Jn{K:Nat}{x y:Rat}(hx:Zn x≤K)(a:Zn y≤K): Zn (x-y)≤2*K+1:=by have:=Yr x y;omega
def PtK(K:Nat)(a:Pt): Prop:=Zn a.1≤K∧Zn a.2≤K
theorem PtK.mono{K K':Nat}{a:Pt}(h:PtK K a)(hk:K≤K'): PtK K' a:=⟨Nat.le_trans h.1 hk,Nat.le_trans h.2 hk⟩
theorem Pq.seg{d K c:Nat}{p:List Tm}(hq:Pq d K p)(hd:d≤12){a b:Pt}(ha:PtK c a)(e:PtK c b)(hk:2≤c): Pq d (KS d K (2*c+1)) (norm (shL p (b.1-a.1) 0 a.1 (b.2-a.2) 0 a.2)):=by
 have g:=Vo
 have h1:=ha.1
 have f:=ha.2
 exact Pq.shift hq (Jn e.1 ha.1) oo oo (Jn e.2 ha.2) oo oo hd
theorem di(p:List Tm)(a b:Pt): Nz lam (norm (shL p (b.1-a.1) 0 a.1 (b.2-a.2) 0 a.2))=V1 p a b:=by rw[XJ,Aj];rfl
theorem XM{K:Nat}{a b c:Pt}(ha:PtK K a)(d:PtK K b)(hc:PtK K c): Zn (twQ a b c)≤8*K+5:=by
 have h1:=Jn d.1 ha.1
 have e:=Jn hc.2 ha.2
 have i:=Jn hc.1 ha.1
 have j:=Jn d.2 ha.2
 have h:=Qh (b.1-a.1) (c.2-a.2)
 have f:=Qh (c.1-a.1) (b.2-a.2)
 have g:=Yr ((b.1-a.1)*(c.2-a.2)) ((c.1-a.1)*(b.2-a.2))
 unfold twQ;omega
theorem Pq.triS{d K e:Nat}{p:List Tm}(hq:Pq d K p)(hd:d≤12){a b c:Pt}(ha:PtK e a)(f:PtK e b)(hc:PtK e c): Pq d (KS d K (2*e+1)) (norm (shL p (b.1-a.1) (c.1-a.1) a.1 (b.2-a.2) (c.2-a.2) a.2)):=by
 have h1:=ha.1
 have g:=ha.2
 exact Pq.shift hq (Jn f.1 ha.1) (Jn hc.1 ha.1) oo (Jn f.2 ha.2) (Jn hc.2 ha.2) oo hd
theorem cr(p:List Tm)(a b c:Pt): twQ a b c*Nz mu (norm (shL p (b.1-a.1) (c.1-a.1) a.1 (b.2-a.2) (c.2-a.2) a.2))=VA p a b c:=by rw[XJ,Aj];rfl
theorem XO{d K e:Nat}{p:List Tm}(hq:Pq d K p)(hd:d≤12){a b c:Pt}(ha:PtK e a)(f:PtK e b)(hc:PtK e c):
  Zn (Nz mu (norm (shL p (b.1-a.1) (c.1-a.1) a.1 (b.2-a.2) (c.2-a.2) a.2)))≤2+tri (d+1)*(KS d K (2*e+1)+301):=by
 have h:=Pq.triS hq hd ha f hc
 have g:=h.nrm hd
 rw[Nq] at g
 have h1:_≤2+_*(KS d K (2*e+1)+301):=Iq (φ:=mu) (Kf:=300) (norm (shL p (b.1-a.1) (c.1-a.1) a.1 (b.2-a.2) (c.2-a.2) a.2)).length (Nat.le_refl _) h.siz (fun t ht=>XQ _ _ (by have:=h.deg t ht;omega))
 rw[List.take_length] at h1
 have hl:=h.nlen
 rw[Nq] at hl
 have:=Nat.mul_le_mul_right (KS d K (2*e+1)+301) hl
 omega
def fanF(p:List Tm)(a:Pt)(l:List Pt): Nat→Rat
 | 0=>0
 | k+1=>fanF p a l k+VA p a (l.getD k (0,0)) (l.getD (k+1) (0,0))
end
section
theorem ev_nrm(l:List Tm)(x y:Rat): evP (norm l) x y=evP l x y:=(Eqv.nrm l).val x y
end
section
def ncL:List (Rat×Rat):=[(0,2857/89600),(1/9,15741/89600),(2/9,1080/89600),(3/9,19344/89600),(4/9,5778/89600),(5/9,5778/89600),(6/9,19344/89600),(7/9,1080/89600),(8/9,15741/89600),(1,2857/89600)]
def qs(f:Rat→Rat): List (Rat×Rat)→Rat
 | []=>0
 | p::l=>p.2*f p.1+qs f l
theorem ER{f:Rat→Rat}: ∀ {l:List (Rat×Rat)},(∀p∈l,0≤p.2)→(∀p∈l,0≤f p.1)→0≤qs f l
 | [],_,_=>Rat.le_refl
 | p::l,h,g=>Rat.add_nonneg (Rat.mul_nonneg (h p List.mem_cons_self) (g p List.mem_cons_self)) (ER (fun q hq=>h q (List.mem_cons_of_mem _ hq)) (fun q hq=>g q (List.mem_cons_of_mem _ hq)))
theorem Rf(φ:Rat→Nat→Nat→Rat)(p:List Tm): ∀l:List (Rat×Rat),lin (fun i j=>qs (fun x=>φ x i j) l) p=qs (fun x=>lin (φ x) p) l
 | []=>Rz p
 | q::l=>by simp only[qs];rw[XI,DG,Rf φ p l]
theorem nc_pos:(ncL.all fun p=>decide (0≤p.2) && decide (0≤1-p.1))=true:=by decide +kernel
theorem nc_w{p:Rat×Rat}(h:p∈ncL): 0≤p.2∧0≤1-p.1:=by
 have:=List.all_eq_true.1 nc_pos p h
 simp only[Bool.and_eq_true,decide_eq_true_eq] at this
 exact this
theorem nc_lam:∀i,i<10→lam i 0=qs (fun x=>x ^ i) ncL:=by decide +kernel
theorem nc_mu:∀i,i<9 → ∀j,j<9-i→mu i j=qs (fun x=>qs (fun v=>(1-x)*(x ^ i*((1-x)*v) ^ j)) ncL) ncL:=by decide +kernel
theorem Dy(x:Rat): 0≤x*x:=by
 rcases Rat.le_total (a:=0) (b:=x) with h|h
 ·exact Rat.mul_nonneg h h
 ·have:x*x=(-x)*(-x):=by grind
  rw[this];exact Rat.mul_nonneg (by grind) (by grind)
def XL(d:Nat)(l:List Tm): Prop := ∀t∈l,t.j=0∧t.i≤d
theorem XL.mul{d e:Nat}{l m:List Tm}(h:XL d l)(g:XL e m): XL (d+e) (Yx l m):=by
 intro t ht
 simp only[Yx,List.mem_flatMap,List.mem_map] at ht
 obtain ⟨s,hs,u,hu,rfl⟩:=ht
 have:=h s hs;have:=g u hu;simp only;omega
theorem XL.pow{l:List Tm}(h:XL 1 l): ∀n,XL n (AB l n)
 | 0=>fun t ht=>by simp only[AB,List.mem_singleton] at ht;subst ht;exact⟨rfl,Nat.le_refl _⟩
 | n+1=>(XL.pow h n).mul h
theorem XL.sb{d:Nat}{X Y l:List Tm}(a:XL 1 X)(b:XL 1 Y)(h:∀t∈l,t.i+t.j≤d): XL d (sbL X Y l):=by
 intro u hu
 simp only[sbL,List.mem_flatMap,Qc,List.mem_map] at hu
 obtain ⟨t,ht,v,hv,rfl⟩:=hu
 have:=((a.pow t.i).mul (b.pow t.j)) v hv;have:=h t ht;simp only;omega
theorem ZD{d e:Nat}{l m:List Tm}(h:∀t∈l,t.i+t.j≤d)(g:∀t∈m,t.i+t.j≤e): ∀t∈Yx l m,t.i+t.j≤d+e:=by
 intro t ht
 simp only[Yx,List.mem_flatMap,List.mem_map] at ht
 obtain ⟨s,hs,u,hu,rfl⟩:=ht
 have:=h s hs;have:=g u hu;simp only;omega
theorem ZC{l:List Tm}(h:∀t∈l,t.i+t.j≤1): ∀n,∀t∈AB l n,t.i+t.j≤n
 | 0=>fun t ht=>by simp only[AB,List.mem_singleton] at ht;subst ht;exact Nat.le_refl _
 | n+1=>ZD (ZC h n) h
theorem dl_sb{d:Nat}{X Y l:List Tm}(a:∀t∈X,t.i+t.j≤1)(b:∀t∈Y,t.i+t.j≤1)(h:∀t∈l,t.i+t.j≤d): ∀t∈sbL X Y l,t.i+t.j≤d:=by
 intro u hu
 simp only[sbL,List.mem_flatMap,Qc,List.mem_map] at hu
 obtain ⟨t,ht,v,hv,rfl⟩:=hu
 have:=(ZD (ZC a t.i) (ZC b t.j)) v hv;have:=h t ht;simp only;omega
theorem dl_ln(a b c:Rat): ∀t∈ln a b c,t.i+t.j≤1:=by
 intro t ht
 simp only[ln,List.mem_cons,List.not_mem_nil,or_false] at ht
 rcases ht with rfl|rfl|rfl<;>simp
theorem lk{R:List Tm}(h:XL 9 R): lin lam R=qs (fun x=>evP R x 1) ncL:=by
 have e:lin lam R=lin (fun i j=>qs (fun x=>x ^ i*(1:Rat) ^ j) ncL) R:=Av fun t ht=>by
  have:=h t ht
  rw[this.1,nc_lam t.i oo]
  congr 1;funext x;rw[Rat.pow_zero];grind
 rw[e,Rf];rfl
theorem Rh{f g:Rat→Rat}(h:∀x,f x=g x)(l:List (Rat×Rat)): qs f l=qs g l:=by rw[funext h]
theorem lin_mu{R:List Tm}(h:∀t∈R,t.i+t.j≤8): lin mu R=qs (fun x=>qs (fun v=>(1-x)*evP R x ((1-x)*v)) ncL) ncL:=by
 have e:lin mu R=lin (fun i j=>qs (fun x=>qs (fun v=>(1-x)*(x ^ i*((1-x)*v) ^ j)) ncL) ncL) R:=Av fun t ht=>by
  have:=h t ht
  exact nc_mu t.i oo t.j oo
 rw[e,Rf]
 refine Rh (fun x=>?_) _
 rw[Rf]
 refine Rh (fun v=>?_) _
 rw[DG];rfl
def lx(d c:Rat): List Tm:=[⟨1,0,d⟩,⟨0,0,c⟩]
theorem ev_lx(d c x y:Rat): evP (lx d c) x y=d*x+c:=by
 simp only[evP,lx,lin];rw[Rat.pow_zero,Rat.pow_zero,Rat.pow_succ,Rat.pow_zero];grind
theorem xl_lx(d c:Rat): XL 1 (lx d c):=by
 intro t ht
 simp only[lx,List.mem_cons,List.not_mem_nil,or_false] at ht
 rcases ht with rfl|rfl<;>simp
theorem seg_sq{p r:List Tm}(c:∀x y,evP p x y=evP r x y*evP r x y)(hd:∀t∈r,t.i+t.j≤4)(a b:Pt): 0≤V1 p a b:=by
 have hR:=XL.sb (xl_lx (b.1-a.1) a.1) (xl_lx (b.2-a.2) a.2) hd
 have e:Eqv (shL p (b.1-a.1) 0 a.1 (b.2-a.2) 0 a.2) (Yx (sbL (lx (b.1-a.1) a.1) (lx (b.2-a.2) a.2) r) (sbL (lx (b.1-a.1) a.1) (lx (b.2-a.2) a.2) r)):=Eqv.of_ev fun x y=>by
  rw[Y3,Eu,iS,ev_lx,ev_lx,c]
  rw[show(b.1-a.1)*x+0*y+a.1=(b.1-a.1)*x+a.1 by grind,show(b.2-a.2)*x+0*y+a.2=(b.2-a.2)*x+a.2 by grind]
 unfold V1
 rw[e lam,lk (fun t ht=>by have:=hR.mul hR t ht;omega)]
 exact ER (fun p c=>(nc_w c).1) fun p c=>by rw[Eu];exact Dy _
theorem tri_sq{p r:List Tm}(d:∀x y,evP p x y=evP r x y*evP r x y)(hd:∀t∈r,t.i+t.j≤4){a b c:Pt}(ht:0<twQ a b c): 0≤VA p a b c:=by
 have hR:=dl_sb (dl_ln (b.1-a.1) (c.1-a.1) a.1) (dl_ln (b.2-a.2) (c.2-a.2) a.2) hd
 have e:Eqv (shL p (b.1-a.1) (c.1-a.1) a.1 (b.2-a.2) (c.2-a.2) a.2) (Yx (shL r (b.1-a.1) (c.1-a.1) a.1 (b.2-a.2) (c.2-a.2) a.2) (shL r (b.1-a.1) (c.1-a.1) a.1 (b.2-a.2) (c.2-a.2) a.2)):=Eqv.of_ev fun x y=>by
  rw[Eu,Y3,Y3,d]
 unfold VA
 refine Rat.mul_nonneg (Rat.le_of_lt ht) ?_
 rw[e mu,lin_mu (fun t ht=>by have:=ZD hR hR t ht;omega)]
 refine ER (fun p d=>(nc_w d).1) fun p d=>ER (fun p d=>(nc_w d).1) fun q _=>?_
 rw[Eu]
 exact Rat.mul_nonneg (nc_w d).2 (Dy _)
end
section
abbrev DV(x y:Rat): Value:=.agg #[.int .u64 (Xr x.num.natAbs),.string (Xa x.num.natAbs),.bool (decide (x.num<0)),.int .u64 (Xr (x.den-1)),.string (Xa (x.den-1)),
 .int .u64 (Xr y.num.natAbs),.string (Xa y.num.natAbs),.bool (decide (y.num<0)),.int .u64 (Xr (y.den-1)),.string (Xa (y.den-1))]
abbrev encPt(p:Pt): Value:=DV p.1 p.2
end
section
end
section
theorem L6{b off:Nat}: RN (Instr.fieldAt 331 (.pointer (some ⟨b,off,none⟩)) 0) (.pointer (some ⟨b,off+0,none⟩)):=fun w=>by
 simp[go_sem]
theorem Wl{c0 c1 c2 a b d c:Value}: Zk false 1 #[c0,c1,c2,a,b,d,c] 0=some c0:=rfl
theorem HN{b off:Nat}: RN (Instr.fieldAt 331 (.pointer (some ⟨b,off,none⟩)) 1) (.pointer (some ⟨b,off+1,none⟩)):=fun w=>by
 simp[go_sem]
theorem G9{c0 c1 c2 a b d c:Value}: Zk false 1 #[c0,c1,c2,a,b,d,c] 1=some c1:=rfl
theorem LZ{b off:Nat}: RN (Instr.fieldAt 331 (.pointer (some ⟨b,off,none⟩)) 2) (.pointer (some ⟨b,off+2,none⟩)):=fun w=>by
 simp[go_sem]
theorem Lj{c0 c1 c2 a b d c:Value}: Zk true 5 #[c0,c1,c2,a,b,d,c] 2=some (.agg #[c2,a,b,d,c]):=rfl
theorem Bu(a:Option Addr)(n c:Nat)(w:World)(ty:TypeId)(cs:Array Bool): (Go.builtin .len #[54] ty cs #[.slice a n c]).run prog w=.ok (.value (.int .i64 n)) w:=by
 simp[go_sem]
theorem ix_54(b off n c j:Nat)(h:j<n): RN (Instr.indexAt 54 (.slice (some ⟨b,off,none⟩) n c) (.int .i64 (j:Int))) (.pointer (some ⟨b,off+j*7,none⟩)):=fun w=>by
 simpa using Qd runUnderlying54 sizeOf331 b off n c j h w
abbrev T0:Tm:=⟨0,0,0⟩
abbrev Zz(t:Tm): Value:=.agg #[.int .i64 ((t.i:Nat):Int),.int .i64 ((t.j:Nat):Int),.int .u64 (Xr t.c.num.natAbs),.string (Xa t.c.num.natAbs),.bool (decide (t.c.num<0)),.int .u64 (Xr (t.c.den-1)),.string (Xa (t.c.den-1))]
theorem Eg(w:World): (zeroValue 331).run prog w=.ok (Zz T0) w:=zeroValue331 w
def bO(s t:Tm): Int:=orI [Ey ((s.i+s.j:Nat):Int) ((t.i+t.j:Nat):Int),Ey ((s.j:Nat):Int) ((t.j:Nat):Int)]
theorem ZR(i k:Int): Ey i k<0↔i<k:=by unfold Ey;split<;>(try split)<;>omega
theorem my(i k:Int): Ey i k=0↔i=k:=by unfold Ey;split<;>(try split)<;>omega
theorem Pg(s t:Tm): bO s t<0↔ltT s t=true:=by
 rw[C4]
 unfold bO
 have h1:=ZR ((s.i+s.j:Nat):Int) ((t.i+t.j:Nat):Int)
 have b:=my ((s.i+s.j:Nat):Int) ((t.i+t.j:Nat):Int)
 have d:=ZR ((s.j:Nat):Int) ((t.j:Nat):Int)
 simp only[orI]
 split
 ·omega
 ·split
  ·omega
  ·rename_i e a;have c:=Decidable.of_not_not a;omega
theorem gB(s t:Tm)(hs:s.i+s.j≤1000000)(ht:t.i+t.j≤1000000): Ji prog 267 [Zz s,Zz t] (.int .i64 (bO s t)):=by
 refine fnI func267 I ntmps267 fun S w0 a=>zS (zx I fun d=>zx I fun c=>za I<|zn<|zs<|yE [0,1,2,3,4,5,6,7,8,9,11,12,13,14,10,15,16,17,18]<|au 0x95f75f ?_)
 refine au 0x04fb3f ?_
 refine yp I (.pN (((s).i)+((s).j))<|.add I I)<|au 0x95f75f ?_
 refine au 0x04fb3f ?_
 refine yp I (.pN (((t).i)+((t).j))<|.add I I)<|au 0x04fb3f ?_
 refine au 0x04fb3f ?_
 refine yv [_,_] I I call53 (Ox (((((s).i)+((s).j):Nat):Int)) (((((t).i)+((t).j):Nat):Int)))<|yv [_,_] I I call53 (Ox ((((s).j:Nat):Int)) ((((t).j:Nat):Int))) ?_
 refine Gj a I kk [(_,_),(_,_)] I (Jy _ _) (List.map Hq [Ey ((s.i+s.j:Nat):Int) ((t.i+t.j:Nat):Int),Ey ((s.j:Nat):Int) ((t.j:Nat):Int)]) I dd ?_;intro b
 refine yw [_] I I call52 (C_Or _ _ ([Ey (((((s).i)+((s).j):Nat):Int)) (((((t).i)+((t).j):Nat):Int)),Ey ((((s).j:Nat):Int)) ((((t).j:Nat):Int))]) nb)<|au 0x6a3e ?_
 refine rtK I
theorem C_may(t:Tm)(ht:t.i+t.j≤12): Ji prog 273 [Zz t] (.int .i64 0):=by
 refine fnI func273 I ntmps273 fun S w0 f=>zS (zx I fun e=>au 0x4ce7f97f319125 ?_)
 refine bbF (fun d=>(by exfalso;have:=of_decide_eq_true d;omega)) fun d=>zq 7 I I (.fA I HN)<|ldQ 7 G9 ?_
 refine au 0x254e2bf ?_
 refine kV I (fun c=>(by exfalso;have:=of_decide_eq_true c;omega)) fun c=>au 0x470fe7f97f31 ?_
 refine bbF (fun a=>(by exfalso;have:=of_decide_eq_true a;omega)) fun a=>zq 16 I I (.fA I HN)<|ldQ 16 G9 ?_
 refine zq 16 I I (.fA I L6)<|ldQ 16 Wl ?_
 refine zq 16 I I (.sub I I)<|zq 16 I I (.gtr I I)<|au 0x254e ?_
 refine kV I (fun b=>(by exfalso;have:=of_decide_eq_true b;omega)) fun b=>au 0x625317 ?_
 refine rtK I
theorem jw(t:Tm): Ji prog 265 [Zz t] (.bool (decide (t.c=0))):=by
 refine fnI func265 I ntmps265 fun S w0 b=>zS (zx I fun a=>za I<|zn<|zS<|zp (.fA I LZ)<|ldZ Lj ?_)
 refine au 0x62500ff2f ?_
 refine rtK ?_
 show Value.bool _=Value.bool _;congr 1;rw[Bool.eq_iff_iff,beq_iff_eq,decide_eq_true_iff,Int.sign_eq_zero_iff_zero];exact Rat.num_eq_zero
def PM:List Tm→Nat→Int
 | [],_ => -1
 | x::l,i=>if x.c=0 then (i:Int) else PM l (i+1)
theorem NJ(l:List Tm)(i:Nat)(h:i<l.length): PM (l.drop i) i=if (l.getD i T0).c=0 then (i:Int) else PM (l.drop (i+1)) (i+1):=by
 rw[List.drop_eq_getElem_cons h,PM];simp[List.getD,h]
theorem NL:∀(l:List Tm) (i:Nat),PM l i = -1→l.filter (fun t=>decide (t.c≠0))=l
 | [],_,_=>rfl
 | x::l,i,h=>by
  rw[PM] at h
  split at h
  ·omega
  ·rename_i hx;rw[List.filter_cons,if_pos (by simpa using hx),NL l (i+1) h]
theorem NK:∀(l:List Tm) (i k:Nat),PM l i=(k:Int)→i≤k∧k-i<l.length∧(l.getD (k-i) T0).c=0∧(l.take (k-i)).filter (fun t=>decide (t.c≠0))=l.take (k-i)
 | [],i,k,h=>by rw[PM] at h;omega
 | x::l,i,k,h=>by
  rw[PM] at h
  split at h
  ·rename_i hx
   have:k=i:=oo
   subst this
   simp[hx]
  ·rename_i hx
   obtain ⟨h1,d,b,a⟩:=NK l (i+1) k h
   have e:k-i=(k-(i+1))+1:=oo
   rw[e]
   refine⟨oo,by simp;omega,by simpa using b,?_⟩
   rw[List.take_succ_cons,List.filter_cons,if_pos (by simpa using hx),a]
theorem io(b c:Nat)(p:List Tm)(R:List Value)(σ:List (Nat×Obj))(Φ:List Zp)(n:p.length≤1000000):
  FR prog 347 [.slice (some ⟨b,0,none⟩) p.length c,.func (.func 265) #[] #[]] ((b,.cells (cellsOf Zz p++R).toArray 331 (0,0))::σ) Φ (fun v σ' Φ'=>v=.int .i64 (PM p 0)∧σ'=((b,.cells (cellsOf Zz p++R).toArray 331 (0,0))::σ)∧Φ'=Φ):=by
 refine fn_introM func347 I ntmps347 nb ?_
 intro S w0 a w m h
 refine gC h<|au 0x92423f43112531 ?_;clear h;intro a w h
 refine lpF2 h (fun(i:Nat)=>i≤p.length) (fun(i:Nat)=>(PM p 0=PM (p.drop i) i)) (fun i=>[(0,.slice (some ⟨b,0,none⟩) p.length c),(1,.func (.func 265) #[] #[]),(7,nI p.length),(8,nI i)]) (fun i=>p.length-i) 0 (⟨Nat.zero_le _,rfl,by exact(h).sub sA⟩) ?_;clear h
 rintro i a w ⟨l,d,h⟩
 refine gC h<|au 0x12c31 ?_;intro a w h
 refine Zb h I (fun g=>?_) (fun g=>?_)
 ·have f:i<p.length:=dT g
  refine gC h<|au 0x25f4443125431917 ?_
  refine zd I mm isAgg331 sizeOf331 (Kr (k:=7) (fun _=>rfl) ((fun _=>rfl)) p R T0 i oo) ?_;clear h;intro a w h
  refine Zc<|C2 h (fs:=[]) (cs:=[]) I (vs:=[_]) I call265 (jw<|p.getD i T0) dd ?_;clear h;intro a w h
  refine Zh h (fun e h=>?_) (fun e h=>?_)
  ·refine wpList_nil ?_
   refine cW ?_
   refine Qo h I ?_
   refine gC h<|au 0x625431 ?_;clear h;intro a w h
   refine UP h (Ze h I<|.tmp I) ⟨by rw[d,NJ p i f,if_pos (of_decide_eq_true e)],rfl,rfl⟩ (List.Sublist.refl _) (fun _ h=>h)
  ·refine wpList_nil ?_
   refine cW ?_
   refine Zj h I ?_
   refine gC h<|zk<|zr<|zp (.pN (i+1)<|.add I I)<|au 0x24 ?_;clear h;intro a w h
   exact⟨i+1,⟨oo,by rw[d,NJ p i f,if_neg (of_decide_eq_false e)],tO h⟩,oo⟩
 ·have j:p.length=i:=dF g
  subst j
  refine gC h<|au 0x625310e ?_;clear h;intro a w h
  refine UP h (Ze h I<|.tmp I) ⟨by rw[d,List.drop_length];rfl,rfl,rfl⟩ (List.Sublist.refl _) (fun _ h=>h)
end
section
theorem Kj{c0 c1 c2 a d b c v0 v1 v2 v3 v4 v5 v6:Value}: Zl #[c0,c1,c2,a,d,b,c] 0 [v0,v1,v2,v3,v4,v5,v6]=#[v0,v1,v2,v3,v4,v5,v6]:=by kernel_rfl
theorem Cl{c0 c1 c2 a b d c:Value}: Zk true 7 #[c0,c1,c2,a,b,d,c] 0=some (.agg #[c0,c1,c2,a,b,d,c]):=rfl
theorem slo_54(b off n c a:Nat)(h1:a≤n)(w:World): (Instr.sliceAt 54 (.slice (some ⟨b,off,none⟩) n c) (some (.int .i64 (a:Int))) none none).run prog w=.ok (.slice (some ⟨b,if c=a then off else off+a*7,none⟩) (n-a) (c-a)) w:=OV runUnderlying54 sizeOf331 b off n c a h1 w
theorem slh_54(a:Option Addr)(n c j:Nat)(h:j≤c): RN (Instr.sliceAt 54 (.slice a n c) none (some (.int .i64 (j:Int))) none) (.slice a j c):=fun w=>by
 exact Bm runUnderlying54 sizeOf331 a n c j h w
theorem RQ:∀(l:List Tm) (i:Nat),PM l i ≠ -1 → ∃k:Nat,PM l i=(k:Int)
 | [],_,h=>absurd rfl h
 | x::l,i,h=>by
  rw[PM] at h ⊢
  split
  ·exact⟨i,rfl⟩
  ·rename_i hx;rw[if_neg hx] at h;exact RQ l (i+1) h
theorem take_snoc(l:List Tm){j:Nat}(h:j<l.length): l.take (j+1)=l.take j++[l.getD j T0]:=by
 rw[List.take_add_one,List.getElem?_eq_getElem h];simp[List.getD,h]
theorem getD_drop(l m:List Tm){j:Nat}(h:l.drop j=m.drop j): l.getD j T0=m.getD j T0:=by
 have:=congrArg (fun x=>x[0]?) h
 simp only[List.getElem?_drop,Nat.add_zero] at this
 simp only[List.getD];rw[this]
theorem fy{p q:List Tm}{i j:Nat}(hq:q.length=p.length∧i<j∧q.take i=(p.take j).filter (fun t=>decide (t.c≠0))∧q.drop j=p.drop j)(hj:j<p.length)(hc:(q.getD j T0).c=0):
  q.length=p.length∧i<j+1∧q.take i=(p.take (j+1)).filter (fun t=>decide (t.c≠0))∧q.drop (j+1)=p.drop (j+1):=by
 obtain ⟨h1,e,d,a⟩:=hq
 have b:=getD_drop _ _ a
 refine⟨h1,oo,?_,?_⟩
 ·rw[take_snoc p hj,List.filter_append, ←d, ←b,List.filter_cons,if_neg (by simpa using hc)];simp
 ·have:=congrArg (List.drop 1) a
  rw[List.drop_drop,List.drop_drop] at this;exact this
theorem fz{p q:List Tm}{i j:Nat}(hq:q.length=p.length∧i<j∧q.take i=(p.take j).filter (fun t=>decide (t.c≠0))∧q.drop j=p.drop j)(hj:j<p.length)(hc:(q.getD j T0).c≠0):
  (q.set i (q.getD j T0)).length=p.length∧i+1<j+1∧(q.set i (q.getD j T0)).take (i+1)=(p.take (j+1)).filter (fun t=>decide (t.c≠0))∧(q.set i (q.getD j T0)).drop (j+1)=p.drop (j+1):=by
 obtain ⟨h1,e,d,a⟩:=hq
 have b:=getD_drop _ _ a
 refine⟨by rw[List.length_set,h1],oo,?_,?_⟩
 ·rw[take_snoc (q.set i (q.getD j T0)) (by rw[List.length_set];omega),take_snoc p hj,List.filter_append, ←d, ←b,List.filter_cons,if_pos (by simpa using hc)]
  rw[List.take_set_of_le (Nat.le_refl _)]
  congr 2
  simp only[List.getD,List.getElem?_set,if_pos rfl,if_pos (show i<q.length by omega)];simp
 ·rw[List.drop_set_of_lt oo]
  have:=congrArg (List.drop 1) a
  rw[List.drop_drop,List.drop_drop] at this;exact this
theorem Xn(t:Tm): (Zz t).cells.size=7:=rfl
theorem ZT{q:List Tm}{n i:Nat}(R:List Value)(hq:q.length=n)(a:i≤n):
  Zl (cellsOf Zz q++R).toArray (0+i*7) (Cj (n-i) (Zz T0).cells.toList)=(cellsOf Zz (q.take i)++(Cj (n-i) (Zz T0).cells.toList++R)).toArray:=by
 have e:cellsOf Zz q=cellsOf Zz (q.take i)++cellsOf Zz (q.drop i):=by rw[←Qs,List.take_append_drop]
 have hl:(cellsOf Zz (q.take i)).length=i*7:=by rw[cellsOf_length Xn];simp[hq,Nat.min_eq_left a]
 have:=Gr (Cj (n-i) (Zz T0).cells.toList) (cellsOf Zz (q.take i)) (cellsOf Zz (q.drop i)) R (by
  rw[Kq,cellsOf_length Xn,List.length_drop,hq];rfl)
 rw[e,Nat.zero_add, ←hl,this,List.append_assoc]
theorem fN{q:List Tm}{n i:Nat}(R:List Value)(hq:q.length=n)(a:i≤n): 0+i*7+(n-i)*(Zz T0).cells.size≤(cellsOf Zz q++R).toArray.size:=by
 show 0+i*7+(n-i)*7≤(cellsOf Zz q++R).length
 rw[List.length_append,cellsOf_length Xn,hq];omega
theorem ma{p q:List Tm}{i j:Nat}(hq:q.length=p.length∧i<j∧q.take i=(p.take j).filter (fun t=>decide (t.c≠0))∧q.drop j=p.drop j)(hj:j=p.length):
  q.take i=p.filter (fun t=>decide (t.c≠0))∧i=(p.filter (fun t=>decide (t.c≠0))).length:=by
 obtain ⟨h1,b,a,d⟩:=hq
 have e:q.take i=p.filter (fun t=>decide (t.c≠0)):=by rw[a,hj,List.take_length]
 refine⟨e,?_⟩
 rw[←e,List.length_take];omega
theorem bF(b c:Nat)(p:List Tm)(R:List Value)(σ:List (Nat×Obj))(Φ:List Zp)(J:p.length≤1000000)(K:p.length≤c):
  FR prog 264 [.slice (some ⟨b,0,none⟩) p.length c,.func (.func 265) #[] #[]] ((b,.cells (cellsOf Zz p++R).toArray 331 (0,0))::σ) Φ
   (fun v σ' Φ'=>v=.slice (some ⟨b,0,none⟩) (p.filter (fun t=>decide (t.c≠0))).length c∧Φ'=Φ ∧ ∃E:List Value,(cellsOf Zz (p.filter (fun t=>decide (t.c≠0)))++E).length=(cellsOf Zz p++R).length∧σ'=(b,.cells (cellsOf Zz (p.filter (fun t=>decide (t.c≠0)))++E).toArray 331 (0,0))::σ):=by
 refine fn_introM func264 I ntmps264 nb ?_
 intro S w0 a w G h
 refine gC h<|au 0x44312531 ?_;clear h;intro a w h
 refine Zc<|Yq h G (vs:=[_,_]) I call347 (io b c p R σ Φ J) (List.Perm.refl _) ss ss ?_;clear h;rintro v10 F C a w ⟨rfl,rfl,o⟩ h
 rw[o] at h
 refine gL h<|au 0x200f431125 ?_;clear h;intro a w h
 refine Zb h I (fun d=>?_) (fun d=>?_)
 ·have n:=NL p 0 (eq_of_beq d)
  refine gC h<|au 0x625431 ?_;clear h;intro a w h
  refine UP h (Ze h I<|.tmp I) ⟨by rw[n],rfl,R,by rw[n],by rw[n]⟩ (List.Sublist.refl _) (fun _ h=>h)
 ·obtain ⟨k,hk⟩:=RQ p 0 (fun e=>by rw[e] at d;exact absurd d dd)
  rw[hk] at h
  obtain ⟨H,z,u,s⟩:=NK p 0 k hk
  simp only[Nat.sub_zero] at z u s
  refine gC h<|au 0x43117 ?_
  refine zp (.pN (k+1)<|.add I I)<|au 0x925 ?_;clear h;intro a w h
  refine Jh (fun(m:Nat) a w=>m≤(p.length-(k+1)) ∧ ∃(q:List Tm) (i:Nat),(q.length=p.length∧i<k+1+m∧q.take i=(p.take (k+1+m)).filter (fun t=>decide (t.c≠0))∧q.drop (k+1+m)=p.drop (k+1+m))∧St 42 S w0 [(0,.slice (some ⟨b,0,none⟩) p.length c),(1,.func (.func 265) #[] #[]),(5,nI i),(6,nI (k+1+m)),(15,nI (k+1))] ((b,.cells (cellsOf Zz (q)++R).toArray 331 (0,0))::σ) (Φ) a w) (fun m=>(p.length-(k+1))-m) 0 (⟨Nat.zero_le _,p,k,⟨rfl,oo,by rw[Nat.add_zero,take_snoc p oo,List.filter_append,s,List.filter_cons,if_neg (by simpa using u)];simp,rfl⟩,by exact(h).sub sA⟩) ?_;clear h
  rintro m a w ⟨D,q,i,hq,h⟩
  refine gC h<|au 0x2c23f44311 ?_;intro a w h
  refine Zb h I (fun f=>?_) (fun f=>?_)
  ·have x:m<(p.length-(k+1)):=dT f
   have l:=hq.1
   have B:=hq.2.1
   refine gC h<|au 0x25f4431917 ?_
   refine zd I mm isAgg331 sizeOf331 (Kr (k:=7) (fun _=>rfl) ((fun _=>rfl)) q R T0 (k+1+m) oo) ?_
   refine zz Eg fun L=>stW I I Kj ?_
   refine zn<|zS<|zm I<|ldZ Cl ?_;clear h;intro a w h
   refine Zc<|C2 h (fs:=[]) (cs:=[]) I (vs:=[_]) I call265 (jw<|q.getD (k+1+m) T0) dd ?_;clear h;intro a w h
   refine gL h<|au 0x220f ?_;clear h;intro a w h
   refine Zb h I (fun g=>?_) (fun g=>?_)
   ·refine gC h<|au 0x4431 ?_
    refine ldZ Cl ?_
    refine au 0x25f ?_
    refine zt' (b:=b) (cs:=(cellsOf Zz q++R).toArray) (cs':=(cellsOf Zz (q.set i<|q.getD (k+1+m) T0)++R).toArray) (v:=Zz<|q.getD (k+1+m) T0) I I (Tr (k:=7) (fun _=>rfl) q R i oo<|q.getD (k+1+m) T0) uu sizeOf331 I (IU (k:=7) (fun _=>rfl) q R i oo) I ?_
    refine zn<|zr<|zm I<|zp (.pN (i+1)<|.add I I)<|au 0x4325 ?_
    refine zp (.pN ((k+1+m)+1)<|.add I I)<|au 0x25 ?_;clear h;intro a w h
    exact⟨m+1,⟨oo,q.set i (q.getD (k+1+m) T0),i+1,fz (j:=k+1+m) hq oo (by simpa using g),by exact tO h⟩,oo⟩
   ·refine gC h<|zk<|zr<|zm I<|zp (.pN ((k+1+m)+1)<|.add I I)<|au 0x25 ?_;clear h;intro a w h
    exact⟨m+1,⟨oo,q,i,fy (j:=k+1+m) hq oo (by simpa using g),by exact tO h⟩,oo⟩
  ·have A:(p.length-(k+1))=m:=dF f
   have l:=hq.1
   have B:=hq.2.1
   obtain ⟨y,r⟩:=ma hq oo
   refine gC h<|au 0x44310e ?_
   refine zp (Pure1.cast (v':=.slice (some ⟨b,0+i*7,none⟩) (p.length-i) (c-i)) (.slice I (some _) none none I I I<|slo_54 _ _ _ _ _ oo) (by rw[if_neg oo])) ?_;clear h;intro a w h
   refine Zc<|dW h I oo runUnderlying54 Eg dd (fN R l oo) I (ZT R l oo) uu ?_;clear h;intro a w h
   refine gL h<|au 0x44312 ?_
   refine zp (.slice I none (some _) none I I I<|slh_54 _ _ _ _ oo)<|au 0x625 ?_;clear h;intro a w h
   rw[y] at h
   refine UP h (Ze h I<|.tmp I) ⟨by rw[←r],rfl,_,?_,rfl⟩ (by repeat(first|exact List.Sublist.refl _|apply List.Sublist.cons)) (fun _ h=>h)
   simp only[List.length_append,cellsOf_length Xn,Kq,Array.length_toList,Xn]
   rw[←r];omega
end
end Go.Proofs.YtejhdcohoggojaaGreatDoor
namespace Go.Proofs.YtejhdcohoggojaaGreatDoor
open Go Go.Proofs Go.Fx Go.Shelf Go.RowKit Go.Sort Tryz
def WB:Go.Shelf.Ren:=⟨fun|14=>348|20=>434|21=>435|22=>436|23=>437|24=>438|25=>439|26=>440|27=>441|46=>517|47=>286|48=>287|49=>518|50=>519|15=>106|57=>570|28=>192|29=>193|n=>n,fun|24=>331|22=>53|3=>3|25=>381|4=>4|0=>0|46=>286|45=>285|50=>163|66=>395|39=>194|55=>43|70=>399|76=>500|77=>501|53=>34|5=>5|9=>9|n=>n,fun|n=>n⟩
theorem kE:Go.Proofs.SlLaysF0.n14 prog WB:={
 mixed:=by kernel_rfl
 f14:=⟨Tryz.f348.name,by decide,func348.trans (congrArg some kk)⟩
 f15:=func106.trans (congrArg some kk)
 f20:=⟨Tryz.f434.name,by decide,func434.trans (congrArg some kk)⟩
 f21:=⟨Tryz.f435.name,by decide,func435.trans (congrArg some kk)⟩
 f22:=⟨Tryz.f436.name,by decide,func436.trans (congrArg some kk)⟩
 f23:=⟨Tryz.f437.name,by decide,func437.trans (congrArg some kk)⟩
 f24:=⟨Tryz.f438.name,by decide,func438.trans (congrArg some kk)⟩
 f25:=⟨Tryz.f439.name,by decide,func439.trans (congrArg some kk)⟩
 f26:=⟨Tryz.f440.name,by decide,func440.trans (congrArg some kk)⟩
 f27:=⟨Tryz.f441.name,by decide,func441.trans (congrArg some kk)⟩
 f28:=func192.trans (congrArg some kk)
 f29:=func193.trans (congrArg some kk)
 f46:=⟨Tryz.f517.name,by decide,func517.trans (congrArg some kk)⟩
 f47:=func286.trans (congrArg some kk)
 f48:=func287.trans (congrArg some kk)
 f49:=⟨Tryz.f518.name,by decide,func518.trans (congrArg some kk)⟩
 f50:=⟨Tryz.f519.name,by decide,func519.trans (congrArg some kk)⟩
 f57:=⟨Tryz.f570.name,by decide,func570.trans (congrArg some kk)⟩
 t0:=underlying0
 a0:=isAgg0
 z0:=sizeOf0
 v0:=zeroValue0
 t3:=underlying3
 a3:=isAgg3
 z3:=sizeOf3
 v3:=zeroValue3
 t4:=underlying4
 a4:=isAgg4
 z4:=sizeOf4
 v4:=zeroValue4
 t5:=underlying5
 a5:=isAgg5
 z5:=sizeOf5
 v5:=zeroValue5
 t9:=underlying9
 a9:=isAgg9
 z9:=sizeOf9
 v9:=zeroValue9
 t22:=underlying53
 a22:=isAgg53
 z22:=sizeOf53
 v22:=zeroValue53
 t25:=underlying381
 a25:=isAgg381
 z25:=sizeOf381
 v25:=zeroValue381
 t39:=underlying194
 a39:=isAgg194
 z39:=sizeOf194
 v39:=zeroValue194
 t45:=underlying285
 a45:=isAgg285
 z45:=sizeOf285
 v45:=zeroValue285
 t46:=underlying286
 a46:=isAgg286
 z46:=sizeOf286
 v46:=zeroValue286
 t50:=underlying163
 a50:=isAgg163
 z50:=sizeOf163
 v50:=zeroValue163
 t53:=underlying34
 a53:=isAgg34
 z53:=sizeOf34
 v53:=zeroValue34
 t55:=underlying43
 a55:=isAgg43
 z55:=sizeOf43
 v55:=zeroValue43
 t66:=underlying395
 a66:=isAgg395
 z66:=sizeOf395
 v66:=zeroValue395
 t70:=underlying399
 a70:=isAgg399
 z70:=sizeOf399
 v70:=zeroValue399
 t76:=underlying500
 a76:=isAgg500
 z76:=sizeOf500
 v76:=zeroValue500
 t77:=underlying501
 a77:=isAgg501
 z77:=sizeOf501
 v77:=zeroValue501 }
def XV:Go.Shelf.Ren:=⟨fun|15=>106|28=>192|29=>193|n=>n,fun|39=>194|3=>3|53=>34|55=>43|4=>4|5=>5|9=>9|n=>n,fun|n=>n⟩
theorem lenFn:Go.Proofs.SlLaysF0.n15 prog XV:={
 mixed:=by kernel_rfl
 f15:=func106.trans (congrArg some kk)
 f28:=func192.trans (congrArg some kk)
 f29:=func193.trans (congrArg some kk)
 t3:=underlying3
 a3:=isAgg3
 z3:=sizeOf3
 v3:=zeroValue3
 t4:=underlying4
 a4:=isAgg4
 z4:=sizeOf4
 v4:=zeroValue4
 t5:=underlying5
 a5:=isAgg5
 z5:=sizeOf5
 v5:=zeroValue5
 t9:=underlying9
 a9:=isAgg9
 z9:=sizeOf9
 v9:=zeroValue9
 t39:=underlying194
 a39:=isAgg194
 z39:=sizeOf194
 v39:=zeroValue194
 t53:=underlying34
 a53:=isAgg34
 z53:=sizeOf34
 v53:=zeroValue34
 t55:=underlying43
 a55:=isAgg43
 z55:=sizeOf43
 v55:=zeroValue43 }
theorem FO(n:Nat)(a:n<18446744073709551616): Ji prog 106 [.int .u64 ((n:Nat):Int)] (.int .i64 ((Lib.bitLen n:Nat):Int)):=by
 intro X w _ _
 refine(Any.bits_Len (SlLaysF0.n15.bits lenFn) (n:Int) w oo oo).mono ?_
 rintro e w' ⟨he,hw⟩
 rw[Int.toNat_natCast] at he
 subst hw
 exact⟨_,[],he,⟨rfl,rfl⟩,Below.refl _ _,by simp⟩
theorem VE(p:List Tm)(m:Nat): SWO (ltOf (fun x y:Fin (m+1)=>bO (p.getD x.val T0) (p.getD y.val T0))):=by
 have h:∀x y:Fin (m+1),(ltOf (fun x y:Fin (m+1)=>bO (p.getD x.val T0) (p.getD y.val T0))) x y=ltT (p.getD x.val T0) (p.getD y.val T0):=fun x y=>by
  have:=Pg (p.getD x.val T0) (p.getD y.val T0)
  rw[Bool.eq_iff_iff, ←this];simp[ltOf]
 refine⟨fun x=>?_,fun x y z=>?_,fun x y z=>?_⟩
 ·rw[h];exact KI _
 ·rw[h,h,h];exact Ij
 ·rw[h,h,h];exact KH
theorem OQ{p:List Tm}(hd:dif p){m:Nat}(hm:p.length=m+1): ∀x y:Fin (m+1),(ltOf (fun x y:Fin (m+1)=>bO (p.getD x.val T0) (p.getD y.val T0))) x y=false →
  (ltOf (fun x y:Fin (m+1)=>bO (p.getD x.val T0) (p.getD y.val T0))) y x=false→x=y:=by
 intro x y h1 c
 have h:∀s t:Tm,decide (bO s t<0)=ltT s t:=fun s t=>by
  have:=Pg s t
  rw[Bool.eq_iff_iff, ←this];simp
 have b:=Ik ((h _ _).symm.trans h1) ((h _ _).symm.trans c)
 apply Fin.ext
 rcases Nat.lt_trichotomy x.val y.val with a|a|a
 ·have:=List.pairwise_iff_getElem.1 hd x.val y.val oo oo a
  simp only[List.getD,List.getElem?_eq_getElem (show x.val<p.length by omega),List.getElem?_eq_getElem (show y.val<p.length by omega),Option.getD_some] at b
  exact absurd b this
 ·exact a
 ·have:=List.pairwise_iff_getElem.1 hd y.val x.val oo oo a
  simp only[List.getD,List.getElem?_eq_getElem (show x.val<p.length by omega),List.getElem?_eq_getElem (show y.val<p.length by omega),Option.getD_some] at b
  exact absurd ⟨b.1.symm,b.2.symm⟩ this
theorem IM{P:Program}{f:FuncId}{args:List Value}{v:Value}(h:Ji P f args v)(Φ:List Zp): Xo P f args Φ v:=fun X w h1 _=>h X w h1 (fun _ hR=>nomatch hR)
theorem C_pdqT(b cap:Nat)(p:List Tm)(R:List Value)(a:Nat)(n:a<4611686018427387904)(hd:dif p)(A:∀t∈p,t.i+t.j≤12)(C:p.length≤1000000)(σ:List (Nat×Obj))(Φ:List Zp):
  FR prog 348 [.slice (some ⟨b,0,none⟩) p.length cap,.int .i64 ((0:Nat):Int),.int .i64 ((p.length:Nat):Int),.int .i64 ((a:Nat):Int),.func (.func 267) #[] #[]]
   ((b,.cells (cellsOf Zz p++R).toArray 331 (0,0))::σ) Φ
   (fun v σ' Ψ=>v=.tuple #[]∧σ'=(b,.cells (cellsOf Zz (p.mergeSort fun s t => !ltT t s)++R).toArray 331 (0,0))::σ∧Ψ=Φ):=by
 rcases Nat.eq_zero_or_pos p.length with u|u
 ·have o:p=[]:=List.eq_nil_of_length_eq_zero u
  subst o
  intro S w0 w B hm
  refine(AnyF.pdqsortCmpFunc_none kE (some ⟨b,0,none⟩) cap (a:Int) (.func (.func 267) #[] #[]) w).mono ?_
  rintro e w' ⟨he,hw⟩
  subst hw
  exact⟨_,_,_,he,⟨rfl,by rw[List.mergeSort_nil],rfl⟩,hm⟩
 ·obtain ⟨m,hm⟩:∃m,p.length=m+1:=⟨p.length-1,oo⟩
  have z:∀k:Fin (m+1),(p.getD k.val T0)∈p:=fun k=>getD_mem p oo
  have d:((List.range p.length).map (Fin.ofNat (m+1))).map (fun k:Fin (m+1)=>p.getD k.val T0)=p:=by
   apply List.ext_getElem?
   intro j
   rw[List.map_map]
   by_cases hj:j<p.length
   ·rw[List.getElem?_map,List.getElem?_range hj,Option.map_some,List.getElem?_eq_getElem hj]
    simp only[Function.comp,Fin.ofNat]
    rw[Nat.mod_eq_of_lt oo]
    simp[List.getD,hj]
   ·rw[List.getElem?_eq_none (by simp;omega),List.getElem?_eq_none oo]
  have c:∀l:List (Fin (m+1)),l.flatMap (fun k=>(Zz (p.getD k.val T0)).cells.toList)=cellsOf Zz (l.map (fun k:Fin (m+1)=>p.getD k.val T0)):=fun l=>by
   unfold cellsOf;rw[List.flatMap_map]
  have hl:((List.range p.length).map (Fin.ofNat (m+1))).length=p.length:=by simp
  have h:=Mq (P:=prog) (α:=Fin (m+1)) (k:=7) (enc:=fun k=>(Zz (p.getD k.val T0)).cells.toList) (σ:=σ) (Φ:=Φ) kE isAgg331 sizeOf331 (fun _=>rfl) dd
   (fun x v hv=>by
    simp only[Value.cells,List.mem_cons,List.not_mem_nil,or_false] at hv
    rcases hv with rfl|rfl|rfl|rfl|rfl|rfl|rfl<;>rfl)
   (fun x y=>bO (p.getD x.val T0) (p.getD y.val T0)) (VE p m) (OQ hd hm) (g:=267) (cb:=#[]) call267
   (fun x y=>IM (gB (p.getD x.val T0) (p.getD y.val T0) (by have:=A _ (z x);omega) (by have:=A _ (z y);omega)) Φ) b cap 331 ((List.range p.length).map (Fin.ofNat (m+1))) R a n oo
  rw[c,d,hl] at h
  have q:=List.map_mergeSort (r:=fun x y:Fin (m+1) => !(ltOf fun x y:Fin (m+1)=>bO (p.getD x.val T0) (p.getD y.val T0)) y x) (s:=fun s t => !ltT t s) (f:=fun k:Fin (m+1)=>p.getD k.val T0) (l:=(List.range p.length).map (Fin.ofNat (m+1)))
   (fun x _ y _=>by
    have:=Pg (p.getD y.val T0) (p.getD x.val T0)
    congr 1
    rw[Bool.eq_iff_iff, ←this];simp[ltOf])
  rw[d] at q
  simp only[c] at h
  rw[q] at h
  exact h
theorem C_pdq0(ad:Option Addr)(cap a:Nat)(b:Value): Ji prog 348 [.slice ad 0 cap,.int .i64 ((0:Nat):Int),.int .i64 ((0:Nat):Int),.int .i64 ((a:Nat):Int),b] (.tuple #[]):=by
 intro X w _ _
 refine(AnyF.pdqsortCmpFunc_none kE ad cap (a:Int) b w).mono ?_
 rintro e w' ⟨he,hw⟩
 subst hw
 exact⟨_,[],he,⟨rfl,rfl⟩,Below.refl _ _,by simp⟩
end Go.Proofs.YtejhdcohoggojaaGreatDoor
namespace Go.Proofs.YtejhdcohoggojaaGreatDoor
open Go Go.Proofs Go.Fx Tryz
attribute [local irreducible] Oper.wp Code.wp wpList Fx.Head wpOp
section
theorem DX(x:Int): RN (Go.convert 3 194 (.int .i64 x)) (.int .u64 (IntKind.u64.wrap x)):=fun w=>by
 simp[go_sem]
theorem IK(x:Int)(a:IntKind.u64.wrap x=x): RN (Go.convert 3 194 (.int .i64 x)) (.int .u64 x):=fun w=>by
 rw[DX,a]
theorem bE:Ji prog 347 [.slice none 0 0,.func (.func 265) #[] #[]] (.int .i64 (-1)):=by
 refine fnI func347 I ntmps347 fun S w0 c=>au 0x43112531 ?_
 refine zp (Pure1.cast (v':=.int .i64 0) (.builtin [_] I<|Bu _ _ _) (by rfl))<|au 0x924 ?_;intro a w h
 refine lpG h [0,1,7,8] pkL (fun Y Z (u:Unit) a w=>St 19 S w0 Y [] Z a w) (fun u=>0) (()) (by exact h.sub sA) ?_;clear h
 rintro u a w h
 refine gC h<|au 0x12c31 ?_
 refine kV I (fun b=>(absurd (of_decide_eq_true b) dd)) fun b=>au 0x625310e ?_
 refine rtK I
theorem bG:Ji prog 264 [.slice none 0 0,.func (.func 265) #[] #[]] (.slice none 0 0):=by
 refine fnI func264 I ntmps264 fun S w0 b=>au 0x44312531 ?_
 refine zv [_,_] I call347 (bE)<|au 0x200f431125 ?_
 refine kU I (fun a=>(absurd a dd)) fun a=>au 0x625431 ?_
 refine rtK I
theorem ig:Ji prog 266 [.slice none 0 0,.func (.func 267) #[] #[]] (.tuple #[]):=by
 refine fnI func266 I ntmps266 fun S w0 b=>zS<|zm I<|zp (Pure1.cast (v':=.int .i64 ((0:Nat):Int)) (.builtin [_] I<|Bu _ _ _) (by rfl))<|au 0x444325 ?_
 refine zp (Pure1.cast (v':=.int .u64 ((0:Nat):Int)) (.convert I<|DX _) (by rfl))<|zv [_] I call106 (FO 0 dd)<|zm I<|zv [_,_,_,_,_] I call348 (C_pdq0 none 0 (Lib.bitLen 0)<|.func (.func 267) #[] #[])<|zn ?_;intro a w h
 exact end_of (Ψ:=[]) h (AK I) ⟨rfl,rfl⟩ (fun _ hR=>nomatch hR)
theorem nO(b c:Nat)(p:List Tm)(R:List Value)(σ:List (Nat×Obj))(Φ:List Zp)(hd:dif p)(l:∀t∈p,t.i+t.j≤12)(m:p.length≤1000000):
  FR prog 266 [.slice (some ⟨b,0,none⟩) p.length c,.func (.func 267) #[] #[]] ((b,.cells (cellsOf Zz p++R).toArray 331 (0,0))::σ) Φ
   (fun v σ' Φ'=>v=.tuple #[]∧σ'=(b,.cells (cellsOf Zz (p.mergeSort fun s t => !ltT t s)++R).toArray 331 (0,0))::σ∧Φ'=Φ):=by
 refine fn_introM func266 I ntmps266 nb ?_
 intro S w0 a w k h
 refine gC h<|au 0x44432523f431 ?_
 refine zp (.convert I<|IK _<|wrap_u64 _ oo oo)<|zv [_] I call106 (FO p.length oo)<|zm I ?_;clear h;intro a w h
 refine Zc<|Yq h k (vs:=[_,_,_,_,_]) I call348 (C_pdqT b c p R (Lib.bitLen p.length) (Nat.lt_of_le_of_lt (Lib.bitLen_le p.length 62 oo oo) oo) hd l m σ Φ) (List.Perm.refl _) ss ss ?_;clear h;rintro g e f a w ⟨rfl,rfl,d⟩ h
 refine wpList_nil ?_
 refine UP h (AK I) ⟨rfl,rfl,d⟩ (List.Sublist.refl _) (fun _ h=>h)
theorem iq{v:Value}(p:List Tm)(o:List (Nat×Obj))(k:GrowO 7 331 v p.length (cellsOf Zz p) o)(n:p.length≤1000000)(σ:List (Nat×Obj))(Φ:List Zp):
  FR prog 264 [v,.func (.func 265) #[] #[]] (o++σ) Φ
   (fun v' σ' Φ'=>Φ'=Φ ∧ ∃o',GrowO 7 331 v' (p.filter (fun t=>decide (t.c≠0))).length (cellsOf Zz (p.filter (fun t=>decide (t.c≠0)))) o'∧σ'=o'++σ):=by
 obtain ⟨hlen,⟨rfl,h,rfl⟩|⟨b,c,R,rfl,f,d,rfl⟩⟩:=k
 ·have m:p=[]:=List.eq_nil_of_length_eq_zero h
  subst m
  intro S w0 w g hm
  refine(iY bG σ Φ S w0 w g hm).mono ?_
  rintro e w' ⟨u,σ',Ψ,he,⟨h1,f,d⟩,a⟩
  exact⟨u,σ',Ψ,he,⟨d,[],by rw[h1];exact GrowO.nil _ _,by rw[f];rfl⟩,a⟩
 ·intro S w0 w g hm
  refine(bF b c p R σ Φ n d S w0 w g hm).mono ?_
  rintro e w' ⟨u,σ',Ψ,he,⟨h1,l,q,j,i⟩,a⟩
  refine⟨u,σ',Ψ,he,⟨l,[(b,_)],?_,i⟩,a⟩
  rw[h1]
  exact GrowO.close (cellsOf_length Xn _) (j.trans f) (Nat.le_trans (List.length_filter_le _ _) d)
theorem C_Sort{v:Value}(p:List Tm)(o:List (Nat×Obj))(m:GrowO 7 331 v p.length (cellsOf Zz p) o)(hd:dif p)(h:∀t∈p,t.i+t.j≤12)(q:p.length≤1000000)(σ:List (Nat×Obj))(Φ:List Zp):
  FR prog 266 [v,.func (.func 267) #[] #[]] (o++σ) Φ
   (fun v' σ' Φ'=>Φ'=Φ∧v'=.tuple #[] ∧ ∃o',GrowO 7 331 v p.length (cellsOf Zz (p.mergeSort fun s t => !ltT t s)) o'∧σ'=o'++σ):=by
 obtain ⟨hlen,⟨rfl,k,rfl⟩|⟨b,c,R,rfl,d,g,rfl⟩⟩:=m
 ·have h:p=[]:=List.eq_nil_of_length_eq_zero k
  subst h
  intro S w0 w f hm
  refine(iY ig σ Φ S w0 w f hm).mono ?_
  rintro e w' ⟨u,σ',Ψ,he,⟨h1,d,g⟩,a⟩
  exact⟨u,σ',Ψ,he,⟨g,h1,[],by rw[List.mergeSort_nil];exact GrowO.nil _ _,by rw[d];rfl⟩,a⟩
 ·intro S w0 w f hm
  refine(nO b c p R σ Φ hd h q S w0 w f hm).mono ?_
  rintro e w' ⟨u,σ',Ψ,he,⟨h1,n,l⟩,a⟩
  refine⟨u,σ',Ψ,he,⟨l,h1,[(b,_)],?_,n⟩,a⟩
  have hl:(p.mergeSort fun s t => !ltT t s).length=p.length:=(List.mergeSort_perm _ _).length_eq
  refine GrowO.close (by rw[cellsOf_length Xn,hl]) ?_ g
  rw[List.length_append,cellsOf_length Xn,hl] at *
  exact d
abbrev UO(i j:Nat): Value:=.agg #[.int .i64 ((i:Nat):Int),.int .i64 ((j:Nat):Int)]
def pK(i j:Nat)(e:MapEntry): Bool:=match e.key with
 | .agg cs=>(match cs.toList with | [.int _ a,.int _ b]=>decide ((i:Int)=a∧(j:Int)=b)|_=>false)
 | _=>false
def esL:List Tm→Nat→List MapEntry
 | [],_=>[]
 | t::p,k=>⟨UO t.i t.j,.int .i64 ((k:Nat):Int),k⟩::esL p (k+1)
theorem Sl(t:Tm): ∀(p:List Tm) (k:Nat),esL (p++[t]) k=esL p k++[⟨UO t.i t.j,.int .i64 ((k+p.length:Nat):Int),k+p.length⟩]
 | [],k=>rfl
 | s::p,k=>by
  have:=Sl t p (k+1)
  rw[List.cons_append,esL,this,esL,List.length_cons,show k+1+p.length=k+(p.length+1) by omega];rfl
theorem Y6:∀(p:List Tm) (k:Nat) (e:MapEntry),e∈esL p k → ∃t∈p,e.key=UO t.i t.j
 | [],_,_,h=>nomatch h
 | t::p,k,e,h=>by
  rcases List.mem_cons.1 h with rfl|h
  ·exact⟨t,List.mem_cons_self,rfl⟩
  ·obtain ⟨s,hs,a⟩:=Y6 p (k+1) e h
   exact⟨s,List.mem_cons_of_mem _ hs,a⟩
def fP(i j:Nat): List Tm→Bool
 | []=>false
 | s::p=>if s.i=i∧s.j=j then true else fP i j p
def kP(i j:Nat): List Tm→Nat
 | []=>0
 | s::p=>if s.i=i∧s.j=j then 0 else kP i j p+1
theorem iF(i j a b:Nat)(e:MapEntry)(h:e.key=UO a b): pK i j e=decide (a=i∧b=j):=by
 unfold pK;rw[h];simp only;congr 1;apply propext;omega
theorem IA(i j:Nat): ∀(p:List Tm) (k m:Nat),LR (pK i j) (esL p k) m=if fP i j p then some (m+kP i j p,.int .i64 ((k+kP i j p:Nat):Int)) else none
 | [],_,_=>rfl
 | t::p,k,m=>by
  rw[esL,LR,iF i j t.i t.j _ rfl,IA i j p (k+1) (m+1),fP,kP]
  by_cases h:t.i=i∧t.j=j
  ·rw[decide_eq_true h,if_pos rfl,if_pos h,if_pos h,if_pos rfl];rfl
  ·rw[decide_eq_false h,if_neg Bool.false_ne_true,if_neg h,if_neg h]
   rcases hf:fP i j p with _|_
   ·rfl
   ·rw[if_pos rfl,if_pos rfl,show m+1+kP i j p=m+(kP i j p+1) by omega,show k+1+kP i j p=k+(kP i j p+1) by omega]
theorem RL(t:Tm): ∀p:List Tm,fP t.i t.j p=true→kP t.i t.j p<p.length∧CN t p=p.set (kP t.i t.j p) ⟨(p.getD (kP t.i t.j p) T0).i,(p.getD (kP t.i t.j p) T0).j,(p.getD (kP t.i t.j p) T0).c+t.c⟩
 | [],h=>by simp[fP] at h
 | s::p,h=>by
  rw[CN,kP]
  by_cases hs:same s t
  ·rw[if_pos hs,if_pos (show s.i=t.i∧s.j=t.j from hs)];exact⟨by simp,rfl⟩
  ·rw[if_neg hs,if_neg (show ¬(s.i=t.i∧s.j=t.j) from hs)]
   have h1:fP t.i t.j p=true:=by
    rw[fP,if_neg (show ¬(s.i=t.i∧s.j=t.j) from hs)] at h;exact h
   obtain ⟨b,a⟩:=RL t p h1
   refine⟨by simp;omega,?_⟩
   rw[a];rfl
theorem eM(t:Tm): ∀p:List Tm,fP t.i t.j p=false→CN t p=(p++[(⟨t.i,t.j,0⟩:Tm)]).set p.length ⟨((p++[(⟨t.i,t.j,0⟩:Tm)]).getD p.length T0).i,((p++[(⟨t.i,t.j,0⟩:Tm)]).getD p.length T0).j,((p++[(⟨t.i,t.j,0⟩:Tm)]).getD p.length T0).c+t.c⟩:=by
 intro p h
 have e:(p++[(⟨t.i,t.j,0⟩:Tm)]).getD p.length T0=⟨t.i,t.j,0⟩:=by simp[List.getD]
 rw[e]
 induction p with
 | nil=>rfl
 | cons s p a =>
  rw[fP] at h
  split at h
  ·cases h
  ·rename_i hs
   rw[CN,if_neg (show ¬same s t from hs),a h (by simp[List.getD])];rfl
theorem eqKey(i j a b:Nat): RN (Op.equal 377 (UO i j) (UO a b)) (decide (a=i∧b=j)):=fun w=>by
 unfold Op.equal
 rw[show Op.maxDepth=9999+1 from rfl,Op.equalIn]
 simp[go_sem]
 have e:((i:Int)=(a:Int))↔a=i:=oo
 have d:((j:Int)=(b:Int))↔b=j:=oo
 by_cases h1:a=i<;>by_cases c:b=j<;>simp only[e,d,h1,c,if_true,if_false,decide_true,decide_false,Bool.and_true,Bool.and_false,Bool.false_and]
theorem Hz(e:Bool)(n:Nat)(x:Int): RN (Instr.checkKey e (n+1) 3 (.int .i64 x)) ():=fun w=>by
 rw[Instr.checkKey];simp[go_sem]
theorem ckKey(e:Bool)(i j:Nat): RN (Instr.checkKey e 10000 377 (UO i j)) ():=fun w=>by
 rw[show(10000:Nat)=9999+1 from rfl,Instr.checkKey]
 have h1:=Hz e 9998 (i:Int)
 have a:=Hz e 9998 (j:Int)
 simp[go_sem,h1,a]
end
section
theorem Hi(a:Option Addr)(n c:Nat)(w:World)(ty:TypeId)(cs:Array Bool): (Go.builtin .len #[53] ty cs #[.slice a n c]).run prog w=.ok (.value (.int .i64 n)) w:=by
 simp[go_sem]
theorem ix_53(b off n c j:Nat)(h:j<n): RN (Instr.indexAt 53 (.slice (some ⟨b,off,none⟩) n c) (.int .i64 (j:Int))) (.pointer (some ⟨b,off+j*7,none⟩)):=fun w=>by
 simpa using Qd runUnderlying53 sizeOf331 b off n c j h w
theorem K0(a b:Int): RN (Instr.build 377 [(0,.int .i64 a),(1,.int .i64 b)].toArray) (.agg #[.int .i64 a,.int .i64 b]):=fun w=>by simp[go_sem]
theorem Ul(a b:Int): RN (Instr.build 331 [(0,.int .i64 a),(1,.int .i64 b)].toArray) (.agg #[.int .i64 a,.int .i64 b,.int .u64 0,.string ⟨#[]⟩,.bool false,.int .u64 0,.string ⟨#[]⟩]):=fun w=>by simp[go_sem]
theorem FD(b e a d g f c:Value)(w:World): (Instr.buildSlice 54 1 [(0,.agg #[b,e,a,d,g,f,c])].toArray).run prog w=.ok (.slice (some ⟨w.heap.size,0,none⟩) 1 1) (w.alloc (.cells #[b,e,a,d,g,f,c] 331 (0,0))):=by
 simp[go_sem]
theorem opEs(i j:Nat)(p:List Tm): ∀e∈(esL p 0).toArray.toList,∀w,(Op.equal 377 (UO i j) e.key).run prog w=.ok (pK i j e) w:=by
 intro e he w
 obtain ⟨t,_,a⟩:=Y6 p 0 e he
 rw[a,eqKey,iF i j t.i t.j e a]
theorem run_lk(i j b:Nat)(p:List Tm)(w:World)(a:w.heap[b]?=some (.map (esL p 0).toArray p.length)):
  (Instr.lookup 375 (.map (some b)) (UO i j) true).run prog w=.ok (.tuple #[.int .i64 ((if fP i j p=true then kP i j p else 0:Nat):Int),.bool (fP i j p)]) w:=by
 have h:=O4 (P:=prog) (key:=UO i j) runUnderlying375 runUnderlying377 (fun e w=>ckKey e i j w) (fun w=>zeroValue3 w) (opEs i j p) w a
 rw[h]
 have e:=IA i j p 0 0
 rw[show(esL p 0).toArray.toList=esL p 0 from rfl,e]
 rcases hf:fP i j p with _|_
 ·rfl
 ·rw[if_pos rfl,if_pos rfl,Nat.zero_add]
theorem run_mu(i j b:Nat)(p:List Tm)(hf:fP i j p=false)(w:World)(a:w.heap[b]?=some (.map (esL p 0).toArray p.length)):
  (Instr.mapUpdate 375 (.map (some b)) (UO i j) (.int .i64 ((p.length:Nat):Int))).run prog w=.ok () { w with heap:=w.heap.setIfInBounds b (.map (esL (p++[⟨i,j,0⟩]) 0).toArray (p++[(⟨i,j,0⟩:Tm)]).length) }:=by
 have h:=Hu (P:=prog) (key:=UO i j) (val:=.int .i64 ((p.length:Nat):Int)) runUnderlying375 runUnderlying377 (fun e w=>ckKey e i j w) (opEs i j p) (by
  rw[show(esL p 0).toArray.toList=esL p 0 from rfl,IA,hf];rfl) w a
 rw[h]
 have e:=Sl ⟨i,j,0⟩ p 0
 simp only[Nat.zero_add] at e
 rw[e,List.length_append,List.length_singleton]
 congr 3
 simp
theorem PZ:∀(p:List Tm) (m k:Nat) (c:Rat),m<p.length→esL (p.set m ⟨(p.getD m T0).i,(p.getD m T0).j,c⟩) k=esL p k
 | [],m,_,_,h=>absurd h (Nat.not_lt_zero _)
 | t::p,0,k,c,_=>rfl
 | t::p,m+1,k,c,h=>by
  have a:=PZ p m (k+1) c (by simpa using h)
  rw[List.set_cons_succ,esL,esL]
  congr 1
theorem GQ(t:Tm): (Zz t).cells.toList=[.int .i64 ((t.i:Nat):Int),.int .i64 ((t.j:Nat):Int)]++(Qe t.c).cells.toList++[]:=rfl
theorem rdC(q:List Tm)(R:List Value)(k:Nat)(h:k<q.length): Zk true 5 (cellsOf Zz q++R).toArray (0+k*7+2)=some (Qe (q.getD k T0).c):=by
 have a:q.getD k T0=q[k]:=by simp[List.getD,h]
 rw[a,Dk q k h,GQ,Nat.zero_add, ←Ki Xn q k h,List.append_assoc]
 exact Wq _ [_,_] [] (Qe q[k].c).cells.toList _ 5 I
theorem stC(q:List Tm)(R:List Value)(k:Nat)(h:k<q.length)(x:Rat):
  Zl (cellsOf Zz q++R).toArray (0+k*7+2) (Qe x).cells.toList=(cellsOf Zz (q.set k ⟨(q.getD k T0).i,(q.getD k T0).j,x⟩)++R).toArray:=by
 have a:q.getD k T0=q[k]:=by simp[List.getD,h]
 rw[a,Dk q k h,Dj q k h,GQ,GQ,Nat.zero_add, ←Ki Xn q k h,List.append_assoc,List.append_assoc _ _ R]
 exact cO _ [_,_] [] (Qe q[k].c).cells.toList (Qe x).cells.toList _ I
theorem iy(q:List Tm)(R:List Value)(k:Nat)(h:k<q.length): 0+k*7+2+5≤(cellsOf Zz q++R).toArray.size:=by
 have:=IU (enc:=Zz) Xn q R k h;omega
theorem N1{q a:List Tm}{R:List Value}{c:Nat}(h:(cellsOf Zz q++R).length=c*7)(hl:a.length=q.length): (cellsOf Zz a++R).length=c*7:=by
 rw[List.length_append,cellsOf_length Xn] at *;rw[hl];exact h
theorem NY(l:List Tm)(i:Nat)(h:i<l.length): collect (l.take (i+1))=CN (l.getD i T0) (collect (l.take i)):=by
 unfold collect
 rw[List.take_add_one,List.getElem?_eq_getElem h,List.foldl_append]
 simp[List.getD,h]
theorem GO{K n:Nat}{l:List Tm}(b:KL K l)(hs:l.length*(K+1)≤n)(i:Nat): ∀u∈collect (l.take i),Zn u.c≤n:=fun u hu=>by
 have h1:=NZ (l:=l.take i) (fun t ht=>b t (List.mem_of_mem_take ht)) u hu
 have a:=ZP u.i u.j (l.take i)
 rw[List.length_take] at a
 exact Nat.le_trans h1 (Nat.le_trans (Nat.mul_le_mul_right _ (Nat.le_trans a (Nat.min_le_right _ _))) hs)
theorem XR{K n:Nat}{l:List Tm}(b:KL K l)(hs:l.length*(K+1)≤n){i:Nat}(a:i<l.length): Zn (l.getD i T0).c≤n:=by
 have h1:=b _ (getD_mem l (d:=T0) a)
 have e:=Nat.mul_le_mul_right (K+1) (show 1≤l.length by omega)
 omega
theorem ed(l:List Tm): (norm l).length=((collect l).filter (fun t=>decide (t.c≠0))).length:=(List.mergeSort_perm _ _).length_eq
theorem P6{l:List Tm}{d:Nat}(h:DL d l): ∀t∈(collect l).filter (fun t=>decide (t.c≠0)),t.i+t.j≤d:=fun t ht=>by
 obtain ⟨s,hs,h1,a⟩:=IQ (List.mem_filter.1 ht).1
 rw[h1,a];exact h s hs
theorem Ae(l:List Tm)(ad:Option Addr)(c K:Nat)(hd:DL 12 l)(hK:KL K l)(hs:l.length*(K+1)≤50000000000)(hn:l.length≤100000):
  CtrO prog 159 [.slice ad l.length c] [Row ad (cellsOf Zz l)] (fun v o => ∃r V,v=.slice r (norm l).length V∧GrowO 7 331 v (norm l).length (cellsOf Zz (norm l)) o):=by
 refine fn_introO func159 I ntmps159 nb ?_
 intro S w0 a hS h
 refine gC h<|au 0x312531 ?_;clear h;intro a w h
 refine Zc<|KA h dd ?_;clear h;intro P a w h
 refine gL h<|au 0x431125 ?_
 refine zp (.builtin [_] I<|Hi _ _ _)<|au 0x924 ?_;clear h;intro a w h
 refine lpG h [3,9,10] pkL (fun Y Z (i:Nat) a w=>i≤l.length ∧ ∃(u:Option Addr) (c1:Nat) (G:List (Nat×Obj)),(GrowO 7 331 (.slice u (collect<|l.take i).length c1) (collect<|l.take i).length (cellsOf Zz<|collect<|l.take i) G)∧St 62 S w0 ((2,(.slice u (collect<|l.take i).length c1))::(11,nI i)::Y) (G++((P,Obj.map ((esL (collect<|l.take i) 0).toArray) ((collect<|l.take i).length))::[])) Z a w) (fun i=>l.length-i) 0 (⟨Nat.zero_le _,none,0,[],GrowO.nil _ _,by exact(h).sub sA⟩) ?_;clear h
 rintro i a w ⟨a1,u,c1,G,q,h⟩
 refine gC h<|au 0x12c31 ?_;intro a w h
 refine Zb h I (fun n=>?_) (fun n=>?_)
 ·have p:i<l.length:=dT n
  obtain ⟨a8,b0,rfl⟩:=h.row_addr (ad:=ad) (M:=cellsOf Zz l) mm (nE 7)
  have J:=Ex (l.take i)
  have N:=GO hK hs i
  have b:=NY l i p
  have b4:=XR hK hs p
  refine gC h<|zk<|zs<|zb<|zS<|zp (.indexAddr I I<|ix_53 _ _ _ _ _ oo)<|zD I mm (cells_lt (k:=7) dd (fun _=>rfl) l i oo) isAgg331 sizeOf331 (Zg (k:=7) (fun _=>rfl) ((fun _=>rfl)) l T0 i oo) (.inl I) ?_
  refine zz Eg fun b5=>stW I I Kj ?_
  refine au 0xaafe7f97f4312 ?_
  refine ldZ G9 ?_
  refine zp (.build [(_,_),(_,_)] I<|K0 _ _) ?_;clear h;intro a w h
  refine Zc<|WJ h I I mm (run_lk _ _ _ _) dd ?_;clear h;intro a h
  refine gL h<|au 0xbb4 ?_;clear h;intro a w h
  refine Zh h (fun f h=>?_) (fun f h=>?_)
  ·rw[if_pos f] at h
   obtain ⟨hk,e⟩:=RL (l.getD i T0) _ f
   refine gL h<|au 0x20f4311255 ?_;clear h;intro a w h
   obtain ⟨b1,R1,rfl,rfl,O,L⟩:=q.open (Nat.lt_of_le_of_lt (Nat.zero_le _) hk)
   rw[List.cons_append,List.nil_append] at h
   have hz:=N _ (getD_mem _ (d:=T0) hk)
   refine wpList_nil ?_
   refine cW ?_
   refine Zj h I ?_
   refine gC h<|zk<|yE [0,1,2,3,4,5,6,7,8,9,10,11,12]<|au 0x33f8bf8888 ?_
   refine yd I I mm isAgg51 sizeOf51 (rdC _ _ _ hk) ?_;clear h
   refine au 0x46f33f ?_
   refine au 0x54f ?_
   have C:=Xj (((collect (l.take i)).getD (kP (l.getD i T0).i (l.getD i T0).j (collect (l.take i))) T0).c) ((l.getD i T0).c)
   refine au 0x33f8bf ?_
   refine yt I I I (stC _ _ _ hk _) uu sizeOf51 I (iy _ _ _ hk) I ?_
   refine yn<|zr<|zp (.pN (i+1)<|.add I I)<|au 0x24 ?_;intro a w h
   rw[←e, ←b] at h
   have y:esL (collect (l.take (i+1))) 0=esL (collect (l.take i)) 0:=by rw[b,e];exact PZ _ _ _ _ hk
   have g:(collect (l.take (i+1))).length=(collect (l.take i)).length:=by rw[b,e,List.length_set]
   rw[←y, ←g] at h
   exact⟨i+1,⟨oo,some ⟨b1,0,none⟩,c1,[(b1,_)],GrowO.close (R:=R1) (cellsOf_length Xn _) (N1 O g) (by rw[g];exact L),by exact tO h⟩,oo⟩
  ·rw[if_neg (by rw[f];exact Bool.false_ne_true)] at h
   have e:=eM (l.getD i T0) _ f
   have hk:(collect (l.take i)).length<(collect (l.take i)++[(⟨(l.getD i T0).i,(l.getD i T0).j,0⟩:Tm)]).length:=by rw[List.length_append];exact Nat.lt_succ_self _
   refine gL h<|au 0x20f4311255 ?_;clear h;intro a w h
   
   refine wpList_nil ?_
   refine cW ?_
   refine Qo h I ?_
   refine gC h<|au 0xaafe7f97f4312523f431 ?_
   refine ldZ G9 ?_
   refine zp (.build [(_,_),(_,_)] I<|K0 _ _)<|zm I ?_;clear h;intro a w h
   refine Zc<|No h I I I uu (run_mu _ _ _ _ f) ?_;clear h;intro a w h
   refine gL h<|au 0xaafe7f97f432 ?_
   refine ldZ G9 ?_
   refine zp (.build [(_,_),(_,_)] I<|Ul _ _) (zB [(_,_)] I (FD _ _ _ _ _ _ _) fun b6=>?_)
   refine apC Zz (collect<|l.take i) [(⟨(l.getD i T0).i,(l.getD i T0).j,0⟩:Tm)] q ?_ (hr:=by(try dsimp only);rw[List.length_take] at J;omega);intro a7 Q b3 D a w h
   obtain ⟨F,H,rfl,rfl,A,B⟩:=D.open (Nat.lt_of_le_of_lt (Nat.zero_le _) hk)
   rw[List.cons_append,List.nil_append] at h
   have hz:Zn ((collect (l.take i)++[(⟨(l.getD i T0).i,(l.getD i T0).j,0⟩:Tm)]).getD (collect (l.take i)).length T0).c≤50000000000:=by
    rw[show(collect (l.take i)++[(⟨(l.getD i T0).i,(l.getD i T0).j,0⟩:Tm)]).getD (collect (l.take i)).length T0=(⟨(l.getD i T0).i,(l.getD i T0).j,0⟩:Tm) by simp[List.getD]];exact Nat.le_trans Vo dd
   refine gL h<|za I<|zn<|yE [0,1,2,3,4,5,6,7,8,9,10,11,12]<|au 0x33f8bf8888 ?_
   refine yd I I mm isAgg51 sizeOf51 (rdC _ _ _ hk) ?_;clear h
   refine au 0x46f33f ?_
   refine au 0x54f ?_
   have C:=Xj (((collect (l.take i)++[(⟨(l.getD i T0).i,(l.getD i T0).j,0⟩:Tm)]).getD ((collect (l.take i)).length) T0).c) ((l.getD i T0).c)
   refine au 0x33f8bf ?_
   refine yt I I I (stC _ _ _ hk _) uu sizeOf51 I (iy _ _ _ hk) I ?_
   refine yn<|zr<|zp (.pN (i+1)<|.add I I)<|au 0x24 ?_;intro a w h
   rw[←e, ←b] at h
   have y:esL (collect (l.take (i+1))) 0=esL (collect (l.take i)++[(⟨(l.getD i T0).i,(l.getD i T0).j,0⟩:Tm)]) 0:=by rw[b,e];exact PZ _ _ _ _ hk
   have g:(collect (l.take (i+1))).length=(collect (l.take i)++[(⟨(l.getD i T0).i,(l.getD i T0).j,0⟩:Tm)]).length:=by rw[b,e,List.length_set]
   rw[←y, ←g] at h
   exact⟨i+1,⟨oo,some ⟨F,0,none⟩,Q,[(F,_)],GrowO.close (R:=H) (cellsOf_length Xn _) (N1 A g) (by rw[g];exact B),by exact tO h⟩,oo⟩
 ·have z:l.length=i:=dF n
  subst z
  rw[List.take_length] at h q
  refine gC h<|au 0x4310e ?_;clear h;intro a w h
  refine Zc<|Yq h hS (vs:=[_,_]) I call264 (iq (collect l) G q (Nat.le_trans (Ex l) oo) [(P,_)] [Row ad (cellsOf Zz l)]) (List.Perm.refl _) ss ss ?_;clear h;rintro v58 b2 a6 a w ⟨x,T,E,rfl⟩ h
  rw[x] at h
  refine gL h<|au 0x43125 ?_;clear h;intro a w h
  refine Zc<|Yq h hS (vs:=[_,_]) I call266 (C_Sort ((collect l).filter (fun t=>decide (t.c≠0))) T E (List.Pairwise.filter _<|IS l) (P6 hd) (Nat.le_trans (List.length_filter_le _ _)<|Nat.le_trans (Ex l) oo) [(P,_)] [Row ad (cellsOf Zz l)]) (List.Perm.refl _) ss ss ?_;clear h;rintro v60 W X a w ⟨s,rfl,b7,m,rfl⟩ h
  rw[s] at h
  refine gL h<|au 0x6254312 ?_;clear h;intro a w h
  have U:=ed l
  rw[←U] at m
  obtain ⟨r,V,hv⟩:=m.is
  refine He h (Ze h I<|.tmp I) ⟨r,V,hv,m⟩<|List.sublist_append_left _ _
end
section
theorem Mz(c b d a e:Value): RN (Instr.build 331 [(2,.agg #[c,b,d,a,e])].toArray) (.agg #[.int .i64 0,.int .i64 0,c,b,d,a,e]):=fun w=>by simp[go_sem]
theorem I0(b e a d g f c:Value)(w:World): (Instr.buildSlice 53 1 [(0,.agg #[b,e,a,d,g,f,c])].toArray).run prog w=.ok (.slice (some ⟨w.heap.size,0,none⟩) 1 1) (w.alloc (.cells #[b,e,a,d,g,f,c] 331 (0,0))):=by
 simp[go_sem]
theorem GV(f:Int)(d b c a e:Value): RN (Instr.build 331 [(0,.int .i64 f),(2,.agg #[d,b,c,a,e])].toArray) (.agg #[.int .i64 f,.int .i64 0,d,b,c,a,e]):=fun w=>by simp[go_sem]
theorem GU(f:Int)(d b c a e:Value): RN (Instr.build 331 [(1,.int .i64 f),(2,.agg #[d,b,c,a,e])].toArray) (.agg #[.int .i64 0,.int .i64 f,d,b,c,a,e]):=fun w=>by simp[go_sem]
theorem C_pOf(l:List Tm)(ad:Option Addr)(c K:Nat)(hd:DL 12 l)(y:KL K l)(hs:l.length*(K+1)≤50000000000)(z:l.length≤100000): CtrO prog 162 [.slice ad l.length c] [Row ad (cellsOf Zz l)] (fun v o => ∃m u,v=.tuple #[.slice m (norm l).length u,.int .i64 0]∧GrowO 7 331 (.slice m (norm l).length u) (norm l).length (cellsOf Zz (norm l)) o):=by
 refine fn_introO func162 I ntmps162 nb ?_
 intro S w0 a B h
 refine gC h<|au 0x431125531 ?_
 refine zp (.builtin [_] I<|Hi _ _ _)<|au 0x924 ?_;clear h;intro a w h
 refine lpG h [0,7,8] pkL (fun Y Z (i:Nat) a w=>i≤l.length∧St 21 S w0 ((9,nI i)::Y) [] Z a w) (fun i=>l.length-i) 0 (⟨Nat.zero_le _,by exact(h).sub sA⟩) ?_;clear h
 rintro i a w ⟨r,h⟩
 refine gC h<|au 0x12c31 ?_;intro a w h
 refine Zb h I (fun b=>?_) (fun b=>?_)
 ·have g:i<l.length:=dT b
  obtain ⟨t,q,rfl⟩:=h.row_addr (ad:=ad) (M:=cellsOf Zz l) mm (nE 7)
  have x:=hd _ (getD_mem l (d:=T0) g)
  refine gC h<|zk<|zs<|zb<|zS<|zp (.indexAddr I I<|ix_53 _ _ _ _ _ oo)<|zD I mm (cells_lt (k:=7) dd (fun _=>rfl) l i oo) isAgg331 sizeOf331 (Zg (k:=7) (fun _=>rfl) ((fun _=>rfl)) l T0 i oo) (.inl I) ?_
  refine zz Eg fun A=>stW I I Kj ?_
  refine zn<|zS<|ldZ Cl ?_
  refine zv [_] I call273 (C_may (l.getD i T0) oo)<|au 0x262f43125 ?_
  refine kV I (fun e=>(absurd e dd)) fun e=>zk<|zr<|zp (.pN (i+1)<|.add I I)<|au 0x24 ?_;clear h;intro a w h
  exact⟨i+1,⟨oo,tO h⟩,oo⟩
 ·have f:l.length=i:=dF b
  subst f
  refine gC h<|au 0x4310e ?_;clear h;intro a w h
  refine Zc<|Xb h (vs:=[_]) I call159 (Ae l _ _ K hd y hs z) ss dd ?_;clear h;rintro v20 s a w ⟨n,p,rfl,j⟩ h
  refine gL h<|au 0x6255 ?_;clear h;intro a w h
  refine He h (Zw h I (.tmp I)<|.tmp I) ⟨n,p,rfl,j⟩<|List.sublist_append_left _ _
theorem C_pOfF(l:List Tm)(ad:Option Addr)(c K:Nat)(hd:DL 12 l)(d:KL K l)(hs:l.length*(K+1)≤50000000000)(e:l.length≤100000): Ctr prog 162 [.slice ad l.length c] [Row ad (cellsOf Zz l)] (fun v Ψ => ∃a b,v=.tuple #[.slice a (norm l).length b,.int .i64 0]∧Ψ=[Row a (cellsOf Zz (norm l))]):=ZI (C_pOf l ad c K hd d hs e)
theorem Pq.room{d K:Nat}{l:List Tm}(h:Pq d K l)(a:K≤400000000): l.length*(K+1)≤50000000000 :=
 Nat.le_trans (Nat.mul_le_mul h.len (show K+1≤400000001 by omega)) dd
theorem Pq.deg12{d K:Nat}{l:List Tm}(h:Pq d K l)(hd:d≤12): DL 12 l:=h.deg.mono hd
theorem JD(l:List Tm)(ad:Option Addr)(c d K:Nat)(hq:Pq d K l)(hd:d≤12)(i:K≤400000000): CtrO prog 160 [.slice ad l.length c] [Row ad (cellsOf Zz l)] (fun v o => ∃e k,v=.slice e (norm l).length k∧GrowO 7 331 v (norm l).length (cellsOf Zz (norm l)) o):=by
 refine fn_introO func160 I ntmps160 nb ?_
 intro S w0 a n h
 refine gC h<|au 0x4312531 ?_;clear h;intro a w h
 refine Zc<|Xb h (vs:=[_]) I call162 (C_pOf l _ _ K (hq.deg12 hd) hq.siz (hq.room i) (by have:=hq.len;omega)) ss dd ?_;clear h;rintro m j a w ⟨b,g,rfl,f⟩ h
 refine gL h<|au 0x625431255bb4 ?_;clear h;intro a w h
 refine He h (Ze h I<|.tmp I) ⟨b,g,rfl,f⟩<|List.sublist_append_left _ _
theorem Ca(l:List Tm)(ad:Option Addr)(c d K:Nat)(h:Pq d K l)(hd:d≤12)(e:K≤400000000): Ctr prog 160 [.slice ad l.length c] [Row ad (cellsOf Zz l)] (fun v Ψ => ∃a b,v=.slice a (norm l).length b∧Ψ=[Row a (cellsOf Zz (norm l))]):=Fz (JD l ad c d K h hd e)
theorem ov(x:Rat)(K:Nat)(hx:Zn x≤K)(l:K≤400000000): CtrO prog 222 [Qe x] [] (fun v o => ∃b i,v=.slice b (norm [(⟨0,0,x⟩:Tm)]).length i∧GrowO 7 331 v (norm [(⟨0,0,x⟩:Tm)]).length (cellsOf Zz (norm [(⟨0,0,x⟩:Tm)])) o):=by
 refine fn_introO func222 I ntmps222 nb ?_
 intro S w0 a f h
 refine gC h<|zS (zx I fun k=>au 0x6e3125 ?_)
 refine zp (.build [(_,_)] I<|Mz _ _ _ _ _) (zB [(_,_)] I (I0 _ _ _ _ _ _ _) fun j=>?_);clear h;intro a w h
 replace h:=h.shareAll f (cellsOf Zz ([(⟨0,0,x⟩:Tm)])) I
 refine Zc<|Xb h (vs:=[_]) I call159 (Ae [(⟨0,0,x⟩:Tm)] _ _ K (fun t ht=>by rw[List.mem_singleton] at ht;subst ht;exact Nat.zero_le _) (fun t ht=>by rw[List.mem_singleton] at ht;subst ht;exact hx) (by rw[List.length_singleton];omega) ss) ss dd ?_;clear h;rintro v6 e a w ⟨d,g,rfl,c⟩ h
 refine gL h<|au 0x625 ?_;clear h;intro a w h
 refine He h (Ze h I<|.tmp I) ⟨d,g,rfl,c⟩<|List.sublist_append_left _ _
theorem MM(x:Rat)(K:Nat)(hx:Zn x≤K)(c:K≤400000000): Ctr prog 222 [Qe x] [] (fun v Ψ => ∃a b,v=.slice a (norm [(⟨0,0,x⟩:Tm)]).length b∧Ψ=[Row a (cellsOf Zz (norm [(⟨0,0,x⟩:Tm)]))]):=Fz (ov x K hx c)
theorem C_X:Ctr prog 296 [] [] (fun v Ψ => ∃b,v=.slice b 1 1∧Ψ=[Row b (cellsOf Zz [(⟨1,0,((1:Int):Rat)⟩:Tm)])]):=by
 refine fnI func296 I ntmps296 fun S w0 d=>au 0xa1f312531 ?_;intro a w h
 have c:=Qa (1) oo oo
 refine gL h<|zp (.build [(_,_),(_,_)] I<|GV _ _ _ _ _ _) (zB [(_,_)] I (FD _ _ _ _ _ _ _) fun e=>?_);clear h;intro a w h
 replace h:=h.shareAll d (cellsOf Zz ([(⟨1,0,((1:Int):Rat)⟩:Tm)])) I
 refine gL h<|au 0x625 ?_;clear h;intro a w h
 exact Qn h (Ze h I (.tmp I)) ⟨_,rfl,rfl⟩ ss
theorem C_Y:Ctr prog 297 [] [] (fun v Ψ => ∃b,v=.slice b 1 1∧Ψ=[Row b (cellsOf Zz [(⟨0,1,((1:Int):Rat)⟩:Tm)])]):=by
 refine fnI func297 I ntmps297 fun S w0 d=>au 0xa1f312531 ?_;intro a w h
 have c:=Qa (1) oo oo
 refine gL h<|zp (.build [(_,_),(_,_)] I<|GU _ _ _ _ _ _) (zB [(_,_)] I (FD _ _ _ _ _ _ _) fun e=>?_);clear h;intro a w h
 replace h:=h.shareAll d (cellsOf Zz ([(⟨0,1,((1:Int):Rat)⟩:Tm)])) I
 refine gL h<|au 0x625 ?_;clear h;intro a w h
 exact Qn h (Ze h I (.tmp I)) ⟨_,rfl,rfl⟩ ss
theorem be(p:List Tm)(ad:Option Addr)(c d K K' g:Nat)(cb:List Value)(n:List Zp)(G:Tm→Tm)(hq:Pq d K p)(hd:d≤12)(hK:K≤400000000)(X:∀args w,(callFunc g args).run prog w=.ok (.enter g args) w)(hf:∀t∈norm p,Xo prog g (Zz t::cb) n (Zz (G t)))(b:∀t∈norm p,(G t).i+(G t).j≤12)(B:∀t∈norm p,Zn (G t).c≤K')(Y:K'≤400000000):
  CtrO prog 225 [.slice ad p.length c,.func (.func g) #[] cb.toArray] (Row ad (cellsOf Zz p)::n) (fun v o => ∃D c',v=.slice D (norm ((norm p).map G)).length c'∧GrowO 7 331 v (norm ((norm p).map G)).length (cellsOf Zz (norm ((norm p).map G))) o):=by
 have Q:(norm p).length≤91:=Nat.le_trans hq.nlen (Nat.le_trans (Bl (show d+1≤13 by omega)) dd)
 have N:DL 12 ((norm p).map G):=fun u hu=>by obtain ⟨t,ht,rfl⟩:=List.mem_map.1 hu;exact b t ht
 have A:KL K' ((norm p).map G):=fun u hu=>by obtain ⟨t,ht,rfl⟩:=List.mem_map.1 hu;exact B t ht
 have P:((norm p).map G).length≤100000:=by rw[List.length_map];omega
 have C:((norm p).map G).length*(K'+1)≤50000000000:=Nat.le_trans (Nat.mul_le_mul (show((norm p).map G).length≤91 by rw[List.length_map];exact Q) (show K'+1≤400000001 by omega)) dd
 refine fn_introO func225 I ntmps225 nb ?_
 intro S w0 a W h
 refine gC h<|au 0x431125312531 ?_
 refine zf [_] I call160 (Ca p _ _ d K hq hd hK) ?_;rintro v9 V ⟨q,c9,rfl,rfl⟩
 refine au 0x92423f ?_;intro a w h
 refine Jh (fun(i:Nat) a w=>i≤(norm p).length ∧ ∃(m:Option Addr) (c1:Nat) (O:List (Nat×Obj)),(GrowO 7 331 (.slice m (((norm p).take i).map G).length c1) (((norm p).take i).map G).length (cellsOf Zz (((norm p).take i).map G)) O)∧St 24 S w0 [(1,.func (.func g) #[] cb.toArray),(4,.slice none 0 0),(5,(.slice m (((norm p).take i).map G).length c1)),(9,.slice q ((norm p).length) c9),(10,nI ((norm p).length)),(11,nI i)] (O++[]) (Row q (cellsOf Zz<|norm p)::Row ad (cellsOf Zz p)::n) a w) (fun i=>(norm p).length-i) 0 (⟨Nat.zero_le _,none,0,[],GrowO.nil _ _,by exact(h).sub sA⟩) ?_;clear h
 rintro i a w ⟨T,m,c1,O,b,h⟩
 refine gC h<|au 0x12c31 ?_;intro a w h
 refine Zb h I (fun e=>?_) (fun e=>?_)
 ·have f:i<(norm p).length:=dT e
  obtain ⟨H,L,rfl⟩:=h.row_addr (ad:=q) (M:=cellsOf Zz (norm p)) mm (nE 7)
  have r:((norm p).take (i+1)).map G=((norm p).take i).map G++[G ((norm p).getD i T0)]:=by rw[take_snoc _ f,List.map_append];rfl
  have Z:(((norm p).take i).map G).length≤91:=by rw[List.length_map,List.length_take];omega
  refine gC h<|au 0x25f31917 ?_
  refine zD I mm (cells_lt (k:=7) dd (fun _=>rfl) (norm p) i oo) isAgg331 sizeOf331 (Zg (k:=7) (fun _=>rfl) ((fun _=>rfl)) (norm p) T0 i oo) (.inl I) ?_
  refine zz Eg fun b7=>stW I I Kj ?_
  refine au 0x4432 ?_
  refine ldZ Cl ?_;clear h;intro a w h
  refine Zc<|Xm h (fs:=[]) (cs:=cb) I (vs:=[_]) I X (hf _<|getD_mem (norm p) (d:=T0) f) (by intro R hR;simp[hR]) dd ?_;clear h;intro a w h
  refine gL h (zB [(_,_)] I (I0 _ _ _ _ _ _ _) fun a1=>?_)
  refine apC Zz (((norm p).take i).map G) [G ((norm p).getD i T0)] b ?_;intro x J E l a w h
  refine gL h<|za I<|zn<|zr<|zp (.pN (i+1)<|.add I I)<|au 0x24 ?_;clear h;intro a w h
  rw[←r] at h l
  exact⟨i+1,⟨oo,x,J,E,l,by exact tO h⟩,oo⟩
 ·have s:(norm p).length=i:=dF e
  subst s
  rw[List.take_length] at h b
  replace h:=St.shareO' h W b
  refine gC h<|au 0x4310e ?_;clear h;intro a w h
  refine Zc<|Xb h (vs:=[_]) I call159 (Ae ((norm p).map G) _ _ K' N A C P) ss dd ?_;clear h;rintro v23 U a w ⟨z,F,rfl,y⟩ h
  refine gL h<|au 0x625 ?_;clear h;intro a w h
  refine He h (Ze h I<|.tmp I) ⟨z,F,rfl,y⟩<|List.sublist_append_left _ _
end
section
theorem Od(f g:Int)(d b c a e:Value): RN (Instr.build 331 [(0,.int .i64 f),(1,.int .i64 g),(2,.agg #[d,b,c,a,e])].toArray) (.agg #[.int .i64 f,.int .i64 g,d,b,c,a,e]):=fun w=>by simp[go_sem]
theorem il(t:Tm)(x:Rat)(b o:Nat)(ht:Zn t.c≤10000000000)(hx:Zn x≤10000000000): Xo prog 226 [Zz t,.pointer (some ⟨b,o,none⟩)] [Row (some ⟨b,o,none⟩) (Value.cells (Qe x)).toList] (Zz ⟨t.i,t.j,x*t.c⟩):=by
 refine fnI func226 I ntmps226 fun S w0 f=>zS (zx I fun g=>zz Eg fun e=>zn<|zs<|yE [0,1,2,3,4,5,6,7,8,9]<|au 0x95f75f ?_)
 refine au 0x04fb3f ?_
 refine Zf (b:=b) (off:=o) (j:=0) (M:=(Value.cells<|Qe x).toList) (v:=Qe<|x) I kk I mm (Nat.succ_pos _) isAgg51 sizeOf51 I (.inl I) dd ?_
 refine au 0x46f33f ?_
 refine au 0x92f ?_
 have d:=Qh (x) ((t).c)
 refine au 0x79f ?_
 refine stV I I I Kj ?_
 refine yn<|zt ?_;intro a w h
 refine Js h (Ze h I<|rC Cl) ?_
 rfl
theorem bw(p:List Tm)(ad:Option Addr)(c d K:Nat)(hq:Pq d K p)(hd:d≤12)(n:K≤400000000)(x:Rat)(g:Nat)(hx:Zn x≤g)(hs:g+K≤400000000): CtrO prog 121 [.slice ad p.length c,Qe x] [Row ad (cellsOf Zz p)] (fun v o => ∃l s,v=.slice l (norm (Qc x p)).length s∧GrowO 7 331 v (norm (Qc x p)).length (cellsOf Zz (norm (Qc x p))) o):=by
 refine fn_introO func121 I ntmps121 nb ?_
 intro S w0 a q h
 refine gC h<|zS (zx I fun f=>?_);clear h;intro a w h
 replace h:=h.shareAll q ((Value.cells (Qe (x))).toList) I
 refine gL h<|au 0xd7f43125 ?_;clear h;intro a w h
 refine Zc<|Xb h (vs:=[_,_]) I call225 (be p _ _ d K (g+K) 226 [.pointer (some ⟨f,0,none⟩)] [Row (some ⟨f,0,none⟩) (Value.cells<|Qe x).toList] (fun t=>⟨t.i,t.j,x*t.c⟩) hq hd n call226 (fun t ht=>il t x f 0 (by have:=hq.nsz t ht;omega) oo) (fun t ht=>by have:=(Jr hq.deg) t ht;simp only;omega) (fun t ht=>by have:=hq.nsz t ht;have:=Qh x t.c;simp only;omega) hs) ss dd ?_;clear h;rintro u r a w ⟨k,m,rfl,b⟩ h
 refine gL h<|au 0x625 ?_;clear h;intro a w h
 have e:norm ((norm p).map (fun t=>(⟨t.i,t.j,x*t.c⟩:Tm)))=norm (Qc x p):=Vk ((Eqv.nrm p).scale x)
 rw[e] at h b
 refine He h (Ze h I<|.tmp I) ⟨k,m,rfl,b⟩<|List.sublist_append_left _ _
theorem Gm(p:List Tm)(ad:Option Addr)(c d K:Nat)(hq:Pq d K p)(hd:d≤12)(f:K≤400000000)(x:Rat)(b:Nat)(hx:Zn x≤b)(hs:b+K≤400000000): Ctr prog 121 [.slice ad p.length c,Qe x] [Row ad (cellsOf Zz p)] (fun v Ψ => ∃a e,v=.slice a (norm (Qc x p)).length e∧Ψ=[Row a (cellsOf Zz (norm (Qc x p)))]):=Fz (bw p ad c d K hq hd f x b hx hs)
theorem ZZ(i:Nat)(w:World)(ty:TypeId)(cs:Array Bool): (Go.builtin .max #[3,3] ty cs #[.int .i64 0,.int .i64 ((i:Int)-1)]).run prog w=.ok (.value (.int .i64 ((i-1:Nat):Int))) w:=by
 simp[go_sem]<;>(try rw[Int.max_def])<;>(try split)<;>(try split)<;>(try omega)
theorem C_Dx1(t:Tm)(ht:Zn t.c≤10000000000)(g:t.i≤1000)(hj:t.j≤1000): Ji prog 262 [Zz t] (Zz ⟨t.i-1,t.j,t.c*((t.i:Int):Rat)⟩):=by
 refine fnI func262 I ntmps262 fun S w0 k=>zS (zx I fun f=>zz Eg fun e=>zn<|zs<|yE [0,1,2,3,4,5,6,7,8,9,10,11,12,13]<|au 0x95f75f ?_)
 refine yp I (.sub I I)<|yp I (.builtin [_,_] I (fun w ty cs=>ZZ _ w ty cs))<|au 0x04fb3f ?_
 refine au 0x46f33f ?_
 refine au 0x95f75f ?_
 refine au 0xc9f ?_
 have d:=Qa ((((t).i:Nat):Int)) oo oo
 refine au 0x92f ?_
 have b:=Qh ((t).c) ((((((t).i:Nat):Int):Int):Rat))
 refine au 0x79f ?_
 refine stV I I I Kj ?_
 refine yn<|zt ?_;intro a w h
 refine Js h (Ze h I<|rC Cl) ?_
 rfl
theorem C_Dx(p:List Tm)(ad:Option Addr)(c d K:Nat)(hq:Pq d K p)(hd:d≤12)(g:K≤390000000): CtrO prog 156 [.slice ad p.length c] [Row ad (cellsOf Zz p)] (fun v o => ∃k n,v=.slice k (norm (dxL p)).length n∧GrowO 7 331 v (norm (dxL p)).length (cellsOf Zz (norm (dxL p))) o):=by
 have q:=g
 replace g:K≤400000000:=oo
 refine fn_introO func156 I ntmps156 nb ?_
 intro S w0 a s h
 refine gC h<|au 0x4312531 ?_;clear h;intro a w h
 refine Zc<|Xb h (vs:=[_,_]) I call225 (be p _ _ d K (K+2) 262 [] [] (fun t=>⟨t.i-1,t.j,t.c*((t.i:Int):Rat)⟩) hq hd g call262 (fun t ht=>IM (C_Dx1 t (by have:=hq.nsz t ht;omega) (by have:=(Jr hq.deg) t ht;omega) (by have:=(Jr hq.deg) t ht;omega)) _) (fun t ht=>by have:=(Jr hq.deg) t ht;simp only;omega) (fun t ht=>by have:=hq.nsz t ht;have r:=(Jr hq.deg) t ht;have:=Qh t.c ((t.i:Int):Rat);have:=Qa (t.i:Int) oo oo;simp only;omega) oo) ss dd ?_;clear h;rintro v4 l a w ⟨f,m,rfl,b⟩ h
 refine gL h<|au 0x625 ?_;clear h;intro a w h
 have e:norm ((norm p).map (fun t=>(⟨t.i-1,t.j,t.c*((t.i:Int):Rat)⟩:Tm)))=norm (dxL p):=Vk ((Eqv.nrm p).dx)
 rw[e] at h b
 refine He h (Ze h I<|.tmp I) ⟨f,m,rfl,b⟩<|List.sublist_append_left _ _
theorem C_DxF(p:List Tm)(ad:Option Addr)(c d K:Nat)(hq:Pq d K p)(hd:d≤12)(e:K≤390000000): Ctr prog 156 [.slice ad p.length c] [Row ad (cellsOf Zz p)] (fun v Ψ => ∃a b,v=.slice a (norm (dxL p)).length b∧Ψ=[Row a (cellsOf Zz (norm (dxL p)))]):=Fz (C_Dx p ad c d K hq hd e)
theorem C_Dy1(t:Tm)(ht:Zn t.c≤10000000000)(g:t.i≤1000)(hj:t.j≤1000): Ji prog 263 [Zz t] (Zz ⟨t.i,t.j-1,t.c*((t.j:Int):Rat)⟩):=by
 refine fnI func263 I ntmps263 fun S w0 k=>zS (zx I fun f=>zz Eg fun e=>zn<|zs<|yE [0,1,2,3,4,5,6,7,8,9,10,11,12,13]<|au 0x95f75f ?_)
 refine au 0x04fb3f ?_
 refine yp I (.sub I I)<|yp I (.builtin [_,_] I (fun w ty cs=>ZZ _ w ty cs))<|au 0x46f33f ?_
 refine au 0x04fb3f ?_
 refine au 0xc9f ?_
 have d:=Qa ((((t).j:Nat):Int)) oo oo
 refine au 0x92f ?_
 have b:=Qh ((t).c) ((((((t).j:Nat):Int):Int):Rat))
 refine au 0x79f ?_
 refine stV I I I Kj ?_
 refine yn<|zt ?_;intro a w h
 refine Js h (Ze h I<|rC Cl) ?_
 rfl
theorem C_Dy(p:List Tm)(ad:Option Addr)(c d K:Nat)(hq:Pq d K p)(hd:d≤12)(g:K≤390000000): CtrO prog 157 [.slice ad p.length c] [Row ad (cellsOf Zz p)] (fun v o => ∃k n,v=.slice k (norm (dyL p)).length n∧GrowO 7 331 v (norm (dyL p)).length (cellsOf Zz (norm (dyL p))) o):=by
 have q:=g
 replace g:K≤400000000:=oo
 refine fn_introO func157 I ntmps157 nb ?_
 intro S w0 a s h
 refine gC h<|au 0x4312531 ?_;clear h;intro a w h
 refine Zc<|Xb h (vs:=[_,_]) I call225 (be p _ _ d K (K+2) 263 [] [] (fun t=>⟨t.i,t.j-1,t.c*((t.j:Int):Rat)⟩) hq hd g call263 (fun t ht=>IM (C_Dy1 t (by have:=hq.nsz t ht;omega) (by have:=(Jr hq.deg) t ht;omega) (by have:=(Jr hq.deg) t ht;omega)) _) (fun t ht=>by have:=(Jr hq.deg) t ht;simp only;omega) (fun t ht=>by have:=hq.nsz t ht;have r:=(Jr hq.deg) t ht;have:=Qh t.c ((t.j:Int):Rat);have:=Qa (t.j:Int) oo oo;simp only;omega) oo) ss dd ?_;clear h;rintro v4 l a w ⟨f,m,rfl,b⟩ h
 refine gL h<|au 0x625 ?_;clear h;intro a w h
 have e:norm ((norm p).map (fun t=>(⟨t.i,t.j-1,t.c*((t.j:Int):Rat)⟩:Tm)))=norm (dyL p):=Vk ((Eqv.nrm p).dy)
 rw[e] at h b
 refine He h (Ze h I<|.tmp I) ⟨f,m,rfl,b⟩<|List.sublist_append_left _ _
theorem C_DyF(p:List Tm)(ad:Option Addr)(c d K:Nat)(hq:Pq d K p)(hd:d≤12)(e:K≤390000000): Ctr prog 157 [.slice ad p.length c] [Row ad (cellsOf Zz p)] (fun v Ψ => ∃a b,v=.slice a (norm (dyL p)).length b∧Ψ=[Row a (cellsOf Zz (norm (dyL p)))]):=Fz (C_Dy p ad c d K hq hd e)
theorem C_Neg(p:List Tm)(ad:Option Addr)(c d K:Nat)(hq:Pq d K p)(hd:d≤12)(i:K≤400000000)(hs:2+K≤400000000): CtrO prog 230 [.slice ad p.length c] [Row ad (cellsOf Zz p)] (fun v o => ∃e l,v=.slice e (norm (Qc ((-1:Int):Rat) p)).length l∧GrowO 7 331 v (norm (Qc ((-1:Int):Rat) p)).length (cellsOf Zz (norm (Qc ((-1:Int):Rat) p))) o):=by
 refine fn_introO func230 I ntmps230 nb ?_
 intro S w0 a m h
 refine gC h<|au 0xa1f4312531 ?_;clear h;intro a w h
 have k:=Qa ((-1)) oo oo
 refine Zc<|Xb h (vs:=[_,_]) I call121 (bw p _ _ d K hq hd i ((-1:Int):Rat) 2 (Qa (-1) dd dd) hs) ss dd ?_;clear h;rintro v5 j a w ⟨b,g,rfl,f⟩ h
 refine gL h<|au 0x625 ?_;clear h;intro a w h
 refine He h (Ze h I<|.tmp I) ⟨b,g,rfl,f⟩<|List.sublist_append_left _ _
theorem C_NegF(p:List Tm)(ad:Option Addr)(c d K:Nat)(hq:Pq d K p)(hd:d≤12)(e:K≤400000000)(hs:2+K≤400000000): Ctr prog 230 [.slice ad p.length c] [Row ad (cellsOf Zz p)] (fun v Ψ => ∃a b,v=.slice a (norm (Qc ((-1:Int):Rat) p)).length b∧Ψ=[Row a (cellsOf Zz (norm (Qc ((-1:Int):Rat) p)))]):=Fz (C_Neg p ad c d K hq hd e hs)
theorem flatT:∀l:List Tm,(cellsOf Zz l).all flat=true
 | []=>rfl
 | t::l=>by
  have h:=flatT l
  rw[show t::l=[t]++l from rfl,Qs,Bc,List.all_append,h];rfl
theorem Pq.n91{d K:Nat}{l:List Tm}(h:Pq d K l)(hd:d≤12): (norm l).length≤91:=Nat.le_trans h.nlen (Nat.le_trans (Bl (show d+1≤13 by omega)) dd)
theorem DL_app{a b:List Tm}{c d:Nat}(ha:DL c a)(e:DL d b)(h1:c≤12)(f:d≤12): DL 12 (norm a++norm b):=I6 (Jr (ha.mono h1)) (Jr (e.mono f))
theorem KL_app{a b:List Tm}{c d K:Nat}(ha:KL c a)(f:KL d b)(h1:c≤K)(e:d≤K): KL K (a++b):=fun t ht=>(List.mem_append.1 ht).elim (fun h=>Nat.le_trans (ha t h) h1) (fun h=>Nat.le_trans (f t h) e)
theorem jt(p q:List Tm)(i g:Option Addr)(C cb s t j l:Nat)(ha:Pq s j p)(m:Pq t l q)(d:s≤12)(f:t≤12)(N:j≤200000000)(B:l≤200000000): CtrO prog 89 [.slice i p.length C,.slice g q.length cb] [Row i (cellsOf Zz p),Row g (cellsOf Zz q)] (fun v o => ∃n K,v=.slice n (norm (p++q)).length K∧GrowO 7 331 v (norm (p++q)).length (cellsOf Zz (norm (p++q))) o):=by
 have F:=ha.n91 d
 have D:=m.n91 f
 refine fn_introO func89 I ntmps89 nb ?_
 intro S w0 a z h
 refine gC h<|au 0x4312531 ?_;clear h;intro a w h
 refine Zc<|Xb h (vs:=[_]) I call160 (JD p _ _ s j ha d oo) ss dd ?_;clear h;rintro v6 u a w ⟨G,M,rfl,r⟩ h
 refine gL h<|zm I ?_;clear h;intro a w h
 refine Zc<|Xb h (vs:=[_]) I call160 (JD q _ _ t l m f oo) ss dd ?_;clear h;rintro L H a w ⟨E,P,rfl,x⟩ h
 replace h:=St.shareO' h z x
 refine Zc<|TD (o:=u) h I r I mm runUnderlying54 runUnderlying54 typeInfo331 sizeOf331 Eg I dd dd (cellsOf_length Xn _) (flatT _) (by show 72*_≤281474976710656;omega) dd ?_;clear h;intro v9 O a w c h;obtain ⟨J,Q,rfl⟩:=c.is;rw[←List.length_append, ←Qs] at c;rw[←List.length_append] at h;replace h:=St.shareO' h z c
 refine Zc<|Xb h (vs:=[_]) I call159 (Ae (norm p++norm q) _ _ (max j l) (DL_app ha.deg m.deg d f) (KL_app ha.nsz m.nsz (Nat.le_max_left _ _)<|Nat.le_max_right _ _) (by rw[List.length_append];exact Nat.le_trans (Nat.mul_le_mul (show _≤182 by omega) (show max j l+1≤200000001 by omega)) dd) (by rw[List.length_append];omega)) ss dd ?_;rintro v10 A a w ⟨k,y,rfl,b⟩ h
 refine gL h<|au 0x625 ?_;clear h;intro a w h
 have e:norm (norm p++norm q)=norm (p++q):=Vk ((Eqv.nrm p).append (Eqv.nrm q))
 rw[e] at h b
 refine He h (Ze h I<|.tmp I) ⟨k,y,rfl,b⟩<|List.sublist_append_left _ _
theorem CG(p q:List Tm)(b a:Option Addr)(k cb d i g e:Nat)(ha:Pq d g p)(m:Pq i e q)(j:d≤12)(h:i≤12)(l:g≤200000000)(f:e≤200000000): Ctr prog 89 [.slice b p.length k,.slice a q.length cb] [Row b (cellsOf Zz p),Row a (cellsOf Zz q)] (fun v Ψ => ∃c n,v=.slice c (norm (p++q)).length n∧Ψ=[Row c (cellsOf Zz (norm (p++q)))]):=Fz (jt p q b a k cb d i g e ha m j h l f)
theorem C_pSub(p q:List Tm)(d c:Option Addr)(t cb m g n i:Nat)(ha:Pq m n p)(r:Pq g i q)(l:m≤12)(b:g≤12)(E:n≤200000000)(s:i≤190000000): CtrO prog 125 [.slice d p.length t,.slice c q.length cb] [Row d (cellsOf Zz p),Row c (cellsOf Zz q)] (fun v o => ∃j A,v=.slice j (norm (p++Qc ((-1:Int):Rat) q)).length A∧GrowO 7 331 v (norm (p++Qc ((-1:Int):Rat) q)).length (cellsOf Zz (norm (p++Qc ((-1:Int):Rat) q))) o):=by
 refine fn_introO func125 I ntmps125 nb ?_
 intro S w0 a C h
 refine gC h<|au 0x44312531 ?_
 refine zf [_] I call230 (C_NegF q _ _ g i r b oo oo) ?_;clear h;rintro D u ⟨z,F,rfl,rfl⟩ a w h
 refine Zc<|Xb h (vs:=[_,_]) I call89 (jt p (norm<|Qc ((-1:Int):Rat) q) _ _ _ _ m g n (2+i+1) ha ((r.scale (Qa (-1) dd dd) b)) l b oo oo) ss dd ?_;clear h;rintro B y a w ⟨k,x,rfl,f⟩ h
 refine gL h<|au 0x625 ?_;clear h;intro a w h
 have e:norm (p++norm (Qc ((-1:Int):Rat) q))=norm (p++Qc ((-1:Int):Rat) q):=Vk (Eqv.rfl'.append (Eqv.nrm _))
 rw[e] at h f
 refine He h (Ze h I<|.tmp I) ⟨k,x,rfl,f⟩<|List.sublist_append_left _ _
theorem JB(p q:List Tm)(b a:Option Addr)(k cb d i g e:Nat)(ha:Pq d g p)(m:Pq i e q)(j:d≤12)(h:i≤12)(l:g≤200000000)(f:e≤190000000): Ctr prog 125 [.slice b p.length k,.slice a q.length cb] [Row b (cellsOf Zz p),Row a (cellsOf Zz q)] (fun v Ψ => ∃c n,v=.slice c (norm (p++Qc ((-1:Int):Rat) q)).length n∧Ψ=[Row c (cellsOf Zz (norm (p++Qc ((-1:Int):Rat) q)))]):=Fz (C_pSub p q b a k cb d i g e ha m j h l f)
def bW(p:List Tm): Int:=if p.length=0 then -1 else (((p.getD (p.length-1) T0).i+(p.getD (p.length-1) T0).j:Nat):Int)
theorem IJ{p:List Tm}{d:Nat}(h:DL d p): bW p≤(d:Int):=by
 unfold bW;split
 ·omega
 ·have:=h _ (getD_mem p (d:=T0) (show p.length-1<p.length by omega));omega
theorem P4(p:List Tm): -1≤bW p:=by unfold bW;split<;>omega
theorem FP(p:List Tm)(ad:Option Addr)(c d K:Nat)(hq:Pq d K p)(hd:d≤12)(q:K≤400000000): Xo prog 215 [.slice ad p.length c] [Row ad (cellsOf Zz p)] (.int .i64 (bW (norm p))):=by
 have n:=hq.n91 hd
 refine fnI func215 I ntmps215 fun S w0 t=>au 0x4312531 ?_
 refine zf [_] I call160 (Ca p _ _ d K hq hd q) ?_;rintro v6 r ⟨m,u,rfl,rfl⟩
 refine au 0x200f23f431125 ?_;intro a w h
 refine Zb h I (fun b=>?_) (fun b=>?_)
 ·have l:(norm p).length=0:=by have:=eq_of_beq b;omega
  refine gC h<|au 0x62531 ?_
  refine rtK ?_
  unfold bW;rw[if_pos l]
 ·have l:(norm p).length≠0:=fun e=>by rw[e] at b;exact absurd b dd
  obtain ⟨g,f,rfl⟩:=h.row_addr (ad:=m) (M:=cellsOf Zz (norm p)) mm (by intro e;have:=congrArg List.length e;rw[cellsOf_length Xn] at this;simp only[List.length_nil,Nat.mul_eq_zero] at this;omega)
  have o:=(Jr hq.deg) _ (getD_mem (norm p) (d:=T0) (show(norm p).length-1<(norm p).length by omega))
  refine gC h<|au 0x23f44317 ?_
  refine zp (.pO (((norm p).length)-1)<|.sub I I)<|au 0x25f ?_
  refine zD I mm (cells_lt (k:=7) dd (fun _=>rfl) (norm p) (((norm p).length)-1) oo) isAgg331 sizeOf331 (Zg (k:=7) (fun _=>rfl) ((fun _=>rfl)) (norm p) T0 (((norm p).length)-1) oo) (.inl I) ?_
  refine zz Eg fun s=>stW I I Kj ?_
  refine au 0xaafe7f97f312 ?_
  refine ldZ G9 ?_
  refine zp (.pN ((((norm p).getD (((norm p).length)-1) T0).i)+(((norm p).getD (((norm p).length)-1) T0).j))<|.add I I)<|za I<|zn<|zt<|rtK ?_
  unfold bW;rw[if_neg l]
end
section
theorem FG(m e l h u s o d p f b n g k i j q a r t c:Value)(w:World): (Instr.buildSlice 53 3 [(0,.agg #[m,e,l,h,u,s,o]),(1,.agg #[d,p,f,b,n,g,k]),(2,.agg #[i,j,q,a,r,t,c])].toArray).run prog w=.ok (.slice (some ⟨w.heap.size,0,none⟩) 3 3) (w.alloc (.cells #[m,e,l,h,u,s,o,d,p,f,b,n,g,k,i,j,q,a,r,t,c] 331 (0,0))):=by
 simp[go_sem]
abbrev mulS(s t:Tm): Tm:=⟨s.i+t.i,s.j+t.j,s.c*t.c⟩
theorem WU(a b:List Tm)(i:Nat)(h:i<a.length): Yx (a.take i) b++b.map (mulS (a.getD i T0))=Yx (a.take (i+1)) b:=by
 rw[take_snoc a h];unfold Yx;rw[List.flatMap_append];simp
theorem WT(a b:List Tm)(s:Tm)(i j:Nat)(h:j<b.length): (Yx (a.take i) b++(b.take j).map (mulS s))++[mulS s (b.getD j T0)]=Yx (a.take i) b++(b.take (j+1)).map (mulS s):=by
 rw[take_snoc b h,List.map_append,List.append_assoc];rfl
theorem ei{a b:List Tm}(i j:Nat)(s:Tm)(ha:a.length≤91)(c:b.length≤91): (Yx (a.take i) b++(b.take j).map (mulS s)).length≤10000:=by
 rw[List.length_append,Rw,List.length_map]
 have h1:(a.take i).length≤91:=Nat.le_trans (by rw[List.length_take];omega) ha
 have d:(b.take j).length≤91:=Nat.le_trans (by rw[List.length_take];omega) c
 have:=Nat.mul_le_mul h1 c
 omega
theorem KD{a b:List Tm}(ha:a.length≤91)(c:b.length≤91): (Yx a b).length≤8281:=by rw[Rw];exact Nat.mul_le_mul ha c
theorem eh{a b:List Tm}{K:Nat}(ha:a.length≤91)(c:b.length≤91)(d:K≤4000000): (Yx a b).length*(K+1)≤50000000000 :=
 Nat.le_trans (Nat.mul_le_mul (KD ha c) (show K+1≤4000001 by omega)) dd
theorem C_pMul(p q:List Tm)(A B:Option Addr)(ca cb J K T V:Nat)(ha:Pq J T p)(x:Pq K V q)(hd:J+K≤12)(hK:T≤2000000)(c5:V≤2000000): CtrO prog 223 [.slice A p.length ca,.slice B q.length cb] [Row A (cellsOf Zz p),Row B (cellsOf Zz q)] (fun v o => ∃O c',v=.tuple #[.slice O (norm (Yx p q)).length c',.int .i64 0]∧GrowO 7 331 (.slice O (norm (Yx p q)).length c') (norm (Yx p q)).length (cellsOf Zz (norm (Yx p q))) o):=by
 have F:=ha.n91 (show J≤12 by omega)
 have C:=x.n91 (show K≤12 by omega)
 have c8:bW (norm (norm p))≤(J:Int):=IJ (Jr (Jr ha.deg))
 have e1:bW (norm (norm q))≤(K:Int):=IJ (Jr (Jr x.deg))
 have c6:=P4 (norm (norm p))
 have c9:=P4 (norm (norm q))
 refine fn_introO func223 I ntmps223 nb ?_
 intro S w0 a hS h
 refine gC h<|au 0x43125531 ?_
 refine zf [_] I call160 (Ca p _ _ J T ha oo oo) ?_;rintro e0 b3 ⟨b,G,rfl,rfl⟩
 refine zm I<|zf [_] I call160 (Ca q _ _ K V x oo oo) ?_;rintro c7 b5 ⟨f,y,rfl,rfl⟩
 refine au 0x255 ?_;intro a w h
 refine Yl (fun a w => ∃(b:Option Addr) (G:Nat) (f:Option Addr) (y:Nat),St 68 S w0 [(6,.slice b (norm p).length G),(7,.slice f (norm q).length y)] [] [Row f (cellsOf Zz<|norm q),Row b (cellsOf Zz<|norm p),Row A (cellsOf Zz p),Row B (cellsOf Zz q)] a w) ?_ ?_
 ·refine gC h<|au 0x70f23f431 ?_;clear h;intro a w h
  refine Zh h (fun L h=>?_) (fun L h=>?_)
  focus
   refine gL h<|zm I<|zq 20 I I (.move I)<|zq 20 I I (.builtin [_] I<|Bu _ _ _)<|zq 20 I I (.gtr I I) ?_;clear h;intro a w h
   refine Zh h (fun R h=>?_) (fun R h=>?_)
   focus
    refine gL h<|au 0x42e ?_
    refine zq 25 I I (.move I) ?_;clear h;intro a w h
    refine Zq 25 h I I<|Jl h (vs:=[_]) I call215 (FP (norm p) _ _ J T (ha.nrm oo) oo oo) ss dd ?_;clear h;intro a w h
    refine gL h<|zq 25 I I (.move I) ?_;clear h;intro a w h
    refine Zq 25 h I I<|Jl h (vs:=[_]) I call215 (FP (norm q) _ _ K V (x.nrm oo) oo oo) ss dd ?_;clear h;intro a w h
    refine gL h<|zq 25 I I (.add I I)<|zq 25 I I (.gtr I I) (bbF (fun u=>(by exfalso;have:=of_decide_eq_true u;omega)) fun u=>au 0x22e ?_);clear h;intro a w h
   rotate_left
   focus
    refine gL h<|au 0x24e63f63f63f63f63f63f42e ?_;clear h;intro a w h
  rotate_left 2
  focus
   refine gL h<|zm I<|zo 20 I I I<|zo 20 I I I<|zo 20 I I I<|au 0x24e63f63f63f63f63f63f44e ?_;clear h;intro a w h
  all_goals
   refine cW ?_
   refine Zj h I ?_
   refine wp_skip ?_
   exact⟨_,_,_,_,tO h⟩
 ·clear h
  rintro a w ⟨b,G,f,y,h⟩
  refine gC h<|au 0x92423f43112531 ?_;clear h;intro a w h
  refine lpG h [7,33,34] pkL (fun Y Z (i:Nat) a w=>i≤(norm p).length ∧ ∃(r:Option Addr) (c1:Nat) (o1:List (Nat×Obj)),(GrowO 7 331 (.slice r (Yx ((norm p).take i)<|norm q).length c1) (Yx ((norm p).take i)<|norm q).length (cellsOf Zz<|Yx ((norm p).take i)<|norm q) o1)∧St 68 S w0 ((8,(.slice r (Yx ((norm p).take i)<|norm q).length c1))::(35,nI i)::Y) (o1++[]) Z a w) (fun i=>(norm p).length-i) 0 (⟨Nat.zero_le _,none,0,[],GrowO.nil _ _,by exact(h).sub sA⟩) ?_;clear h
  rintro i a w ⟨b6,r,c1,o1,D,h⟩
  refine gC h<|au 0x12c31 ?_;intro a w h
  refine Zb h I (fun n=>?_) (fun n=>?_)
  ·have m:i<(norm p).length:=dT n
   obtain ⟨a6,X,rfl⟩:=h.row_addr (ad:=b) (M:=cellsOf Zz (norm p)) mm (nE 7)
   have N:=getD_mem (norm p) (d:=T0) m
   have hsA:=ha.nsz _ N
   have b7:=(Jr ha.deg) _ N
   refine gC h<|au 0x25f31917 ?_
   refine zD I mm (cells_lt (k:=7) dd (fun _=>rfl) (norm p) i oo) isAgg331 sizeOf331 (Zg (k:=7) (fun _=>rfl) ((fun _=>rfl)) (norm p) T0 i oo) (.inl I) ?_
   refine zz Eg fun a7=>stW I I Kj ?_
   refine au 0x92423f4312 ?_;clear h;intro a w h
   refine lpG h [7,10,33,34,35,39,40] pkL (fun Y Z (j:Nat) a w=>j≤(norm q).length ∧ ∃(ad2:Option Addr) (c2:Nat) (o2:List (Nat×Obj)),(GrowO 7 331 (.slice ad2 (Yx ((norm p).take i) (norm q)++((norm q).take j).map (mulS ((norm p).getD i T0))).length c2) (Yx ((norm p).take i) (norm q)++((norm q).take j).map (mulS ((norm p).getD i T0))).length (cellsOf Zz (Yx ((norm p).take i) (norm q)++((norm q).take j).map (mulS ((norm p).getD i T0)))) o2)∧St 68 S w0 ((8,(.slice ad2 (Yx ((norm p).take i) (norm q)++((norm q).take j).map (mulS ((norm p).getD i T0))).length c2))::(41,nI j)::Y) ((a7,bV (Zz ((norm p).getD i T0)) 331)::(o2++[])) Z a w) (fun j=>(norm q).length-j) 0 (⟨Nat.zero_le _,r,c1,o1,by rw[List.take_zero,List.map_nil,List.append_nil];exact D,by rw[List.take_zero,List.map_nil,List.append_nil];exact(h).sub sA⟩) ?_;clear h
   rintro j a w ⟨b9,ad2,c2,o2,z,h⟩
   refine gC h<|au 0x12c31 ?_;intro a w h
   refine Zb h I (fun g=>?_) (fun g=>?_)
   ·have l:j<(norm q).length:=dT g
    obtain ⟨a1,W,rfl⟩:=h.row_addr (ad:=f) (M:=cellsOf Zz (norm q)) mm (nE 7)
    have P:=getD_mem (norm q) (d:=T0) l
    have c3:=x.nsz _ P
    have b4:=(Jr x.deg) _ P
    have e3:=ei i j ((norm p).getD i T0) F C
    refine gC h<|au 0x25f31917 ?_
    refine zD I mm (cells_lt (k:=7) dd (fun _=>rfl) (norm q) j oo) isAgg331 sizeOf331 (Zg (k:=7) (fun _=>rfl) ((fun _=>rfl)) (norm q) T0 j oo) (.inl I) ?_
    refine zz Eg fun e2=>stW I I Kj ?_
    refine zn<|yE [0,1,2,3,4,5,6,7,8,9,10,11,12,13,14,15,16,17,18,19]<|au 0x95f75f8 ?_;clear h
    refine au 0x95f75f ?_
    refine yp I (.pN ((((norm p).getD i T0).i)+(((norm q).getD j T0).i))<|.add I I)<|au 0x04fb3f ?_
    refine au 0x04fb3f ?_
    refine yp I (.pN ((((norm p).getD i T0).j)+(((norm q).getD j T0).j))<|.add I I)<|au 0x46f33f ?_
    refine au 0x46f33f ?_
    refine au 0x92f ?_
    have b2:=Qh (((norm p).getD i T0).c) (((norm q).getD j T0).c)
    refine au 0x79f ?_
    refine yB I [(_,_)] I (I0 _ _ _ _ _ _ _) fun c4=>?_
    refine bR Zz (Yx ((norm p).take i) (norm q)++((norm q).take j).map (mulS ((norm p).getD i T0))) [(⟨(((norm p).getD i T0).i)+(((norm q).getD j T0).i),(((norm p).getD i T0).j)+(((norm q).getD j T0).j),(((norm p).getD i T0).c)*(((norm q).getD j T0).c)⟩:Tm)] z ?_;intro U b0 a8 t
    refine au 0x3a3e ?_
    refine zp (.pN (j+1)<|.add I I)<|au 0x24 ?_;intro a w h
    rw[WT (norm p) (norm q) ((norm p).getD i T0) i j l] at h t
    exact⟨j+1,⟨oo,U,b0,a8,t,by exact tO h⟩,oo⟩
   ·have E:(norm q).length=j:=dF g
    subst E
    rw[List.take_length,WU (norm p) (norm q) i m] at h z
    refine gC h<|ze<|zr<|zp (.pN (i+1)<|.add I I)<|au 0x24 ?_;clear h;intro a w h
    exact⟨i+1,⟨oo,ad2,c2,o2,z,by exact tO h⟩,oo⟩
  ·have H:(norm p).length=i:=dF n
   subst H
   rw[List.take_length] at h D
   replace h:=St.shareO' h hS D
   refine gC h<|au 0x4310e ?_;clear h;intro a w h
   refine Zc<|Xb h (vs:=[_]) I call159 (Ae (Yx (norm p)<|norm q) _ _ (T+V) ((ac (Jr ha.deg)<|Jr x.deg).mono hd) (na ha.nsz x.nsz) (eh F C oo)<|Nat.le_trans (KD F C) dd) ss dd ?_;clear h;rintro v67 b8 a w ⟨Q,b1,rfl,s⟩ h
   refine gL h<|au 0x6255 ?_;clear h;intro a w h
   have e:norm (Yx (norm p) (norm q))=norm (Yx p q):=Vk ((Eqv.nrm p).mul (Eqv.nrm q))
   rw[e] at h s
   refine He h (Zw h I (.tmp I)<|.tmp I) ⟨Q,b1,rfl,s⟩<|List.sublist_append_left _ _
theorem MH(p q:List Tm)(b a:Option Addr)(i cb d g f h:Nat)(ha:Pq d f p)(k:Pq g h q)(hd:d+g≤12)(j:f≤2000000)(e:h≤2000000): Ctr prog 223 [.slice b p.length i,.slice a q.length cb] [Row b (cellsOf Zz p),Row a (cellsOf Zz q)] (fun v Ψ => ∃c l,v=.tuple #[.slice c (norm (Yx p q)).length l,.int .i64 0]∧Ψ=[Row c (cellsOf Zz (norm (Yx p q)))]):=ZI (C_pMul p q b a i cb d g f h ha k hd j e)
theorem kx{n d:Nat}{g:Int}(h1: -1≤g)(e:g≤(d:Int))(f:n≤12)(hd:n*d≤12): -12≤(n:Int)*g∧(n:Int)*g≤12:=by
 have a:=Int.mul_le_mul_of_nonneg_left h1 (show(0:Int)≤n by omega)
 have b:=Int.mul_le_mul_of_nonneg_left e (show(0:Int)≤n by omega)
 have c:(n:Int)*(d:Int)=((n*d:Nat):Int):=(Int.natCast_mul _ _).symm
 omega
theorem C_Pow(p:List Tm)(ad:Option Addr)(c d K:Nat)(hq:Pq d K p)(n:Nat)(F:n≤12)(y:d≤12)(hd:n*d≤12)(L:n*K+4≤2000000)(G:K≤2000000): Ctr prog 300 [.slice ad p.length c,.int .i64 ((n:Nat):Int)] [Row ad (cellsOf Zz p)] (fun v Ψ => ∃l E,v=.tuple #[.slice l (norm (AB p n)).length E,.int .i64 0]∧Ψ=[Row l (cellsOf Zz (norm (AB p n)))]):=by
 obtain ⟨D,H⟩:=kx (P4 (norm p)) (IJ (Jr hq.deg)) F hd
 refine fnI func300 I ntmps300 fun S w0 J=>au 0xc4319125531 ?_
 refine bbF (fun o=>(by exfalso;have:=of_decide_eq_true o;omega)) fun o=>zm I<|zq 10 I I (.move I)<|zq 10 I I (.gtr I I) (bbF (fun f=>(by exfalso;have:=of_decide_eq_true f;omega)) fun f=>au 0x4431d254e ?_)
 refine zw [_] I call215 (FP p _ _ d K hq oo oo)<|au 0x2570f72f ?_
 refine kV I (fun e=>(by exfalso;have:=of_decide_eq_true e;omega)) fun e=>au 0xa1f317 ?_;intro a w h
 have B:=Qa (1) oo oo
 refine gL h<|zf [_] I call222 (MM ((1:Int):Rat) 2 (Qa 1 dd dd) oo) ?_;rintro v21 u ⟨A,C,rfl,rfl⟩
 refine au 0x924431125 ?_;intro a w h
 refine Jh (fun(k:Nat) a w=>k≤n ∧ ∃(g:Option Addr) (c1:Nat),St 33 S w0 [(0,.slice ad p.length c),(4,.slice none 0 0),(5,.int .i64 0),(6,.slice g ((norm<|AB p k).length) c1),(22,nI n),(23,nI k)] [] [Row g (cellsOf Zz<|norm<|AB p k),Row ad (cellsOf Zz p)] a w) (fun k=>n-k) 0 (⟨Nat.zero_le _,_,_,by rw[show norm (AB p 0)=norm [(⟨0,0,((1:Int):Rat)⟩:Tm)] from I];exact(h.factsSub (by simp)).sub (subL ⟨rfl,rfl,rfl,rfl,rfl,rfl,trivial⟩)⟩) ?_;clear h
 rintro k a w ⟨z,g,c1,h⟩
 refine gC h<|au 0x12c31 ?_;intro a w h
 refine Zb h I (fun b=>?_) (fun b=>?_)
 ·have t:k<n:=dT b
  have r:=Nat.mul_le_mul_right d (show k+1≤n by omega)
  have s:=Nat.mul_le_mul_right K (show k+1≤n by omega)
  rw[Nat.add_mul,Nat.one_mul] at r s
  refine gC h<|au 0x443917 ?_
  refine zf [_,_] I call223 (MH (norm<|AB p k) p _ _ _ _ (k*d) d (k*K+4) K (hq.pow k oo) hq oo oo oo) ?_;rintro v28 x ⟨m,q,rfl,rfl⟩
  refine au 0x325bb4 ?_
  refine zp (.pN (k+1)<|.add I I)<|au 0x24 ?_;clear h;intro a w h
  have i:norm (Yx (norm (AB p k)) p)=norm (AB p (k+1)):=Vk ((Eqv.nrm _).mul Eqv.rfl')
  rw[i] at h
  exact⟨k+1,⟨oo,m,q,by exact tO h⟩,oo⟩
 ·have j:n=k:=dF b
  subst j
  refine gC h<|au 0x62554310e ?_;clear h;intro a w h
  refine Qn (Ψ:=[Row _ (cellsOf Zz<|norm<|AB p n)]) h (Zw h I (.tmp I)<|.tmp I) ⟨_,_,rfl,rfl⟩ ss
theorem ln_DL(a b c:Rat): DL 12 (ln a b c):=fun t ht=>by
 simp only[ln,List.mem_cons,List.not_mem_nil,or_false] at ht
 rcases ht with rfl|rfl|rfl<;>simp
theorem ln_KL{K:Nat}{a b c:Rat}(h1:Zn a≤K)(d:Zn b≤K)(e:Zn c≤K): KL K (ln a b c):=fun t ht=>by
 simp only[ln,List.mem_cons,List.not_mem_nil,or_false] at ht
 rcases ht with rfl|rfl|rfl<;>assumption
theorem XF{K:Nat}(h:K≤20000){a b c:Rat}: (ln a b c).length*(K+1)≤50000000000:=by show 3*(K+1)≤_;omega
theorem iM(a b c:Rat): (ln a b c).length≤100000:=by show 3≤100000;omega
theorem Lm(p:List Tm)(n:Nat): norm (AB (norm p) n)=norm (AB p n):=Vk ((Eqv.nrm p).pow n)
theorem kW(p q:List Tm): norm (Yx (norm p) (norm q))=norm (Yx p q):=Vk ((Eqv.nrm p).mul (Eqv.nrm q))
theorem V5(c:Rat)(p:List Tm): norm (Qc c (norm p))=norm (Qc c p):=Vk ((Eqv.nrm p).scale c)
theorem mV(p q:List Tm): norm (norm p++norm q)=norm (p++q):=Vk ((Eqv.nrm p).append (Eqv.nrm q))
theorem bv(p:List Tm)(ad:Option Addr)(c d K:Nat)(hq:Pq d K p)(g f n m b l:Rat)(o:Nat)(hd:d≤12)(y:Zn g≤o)(t:Zn f≤o)(s:Zn n≤o)(x:Zn m≤o)(u:Zn b≤o)(q:Zn l≤o)(O:o≤20000)(hK:K≤1000000):
  Ctr prog 232 [.slice ad p.length c,Qe g,Qe f,Qe n,Qe m,Qe b,Qe l] [Row ad (cellsOf Zz p)] (fun v Ψ => ∃N c',v=.slice N (norm (shL p g f n m b l)).length c'∧Ψ=[Row N (cellsOf Zz (norm (shL p g f n m b l)))]):=by
 have h3:(norm p).length≤91:=hq.n91 hd
 have b5:KT d K o≤1800000:=by
  have:=Nat.mul_le_mul_right (3*o+4) hd
  unfold KT;omega
 have h7:=Nat.mul_le_mul_right (3*o+4) hd
 refine fnI func232 I ntmps232 fun S w0 U=>zS (zx I fun b8=>zx I fun b9=>zx I fun a6=>zx I fun a7=>zx I fun b1=>zx I fun b2=>au 0x6e3125 ?_)
 refine zp (.build [(_,_),(_,_)] I<|GV _ _ _ _ _ _)<|au 0x6e ?_
 refine zp (.build [(_,_),(_,_)] I<|GU _ _ _ _ _ _)<|au 0x6e ?_
 refine zp (.build [(_,_)] I<|Mz _ _ _ _ _) (zB [(_,_),(_,_),(_,_)] I (FG _ _ _ _ _ _ _ _ _ _ _ _ _ _ _ _ _ _ _ _ _) fun h5=>?_);intro a w h
 replace h:=h.shareAll U (cellsOf Zz (ln g f n)) I
 refine Zc<|Xb h (vs:=[_]) I call159 (Ae (ln g f n) _ _ o (ln_DL _ _ _) (ln_KL y t s) (XF O)<|iM _ _ _) ss dd ?_;clear h;rintro v33 b7 a w ⟨c4,h2,rfl,F⟩ h
 replace h:=St.shareO' h U F
 refine gL h<|au 0x6e3125 ?_
 refine zp (.build [(_,_),(_,_)] I<|GV _ _ _ _ _ _)<|au 0x6e ?_
 refine zp (.build [(_,_),(_,_)] I<|GU _ _ _ _ _ _)<|au 0x6e ?_
 refine zp (.build [(_,_)] I<|Mz _ _ _ _ _) (zB [(_,_),(_,_),(_,_)] I (FG _ _ _ _ _ _ _ _ _ _ _ _ _ _ _ _ _ _ _ _ _) fun j1=>?_);clear h;intro a w h
 replace h:=h.shareAll U (cellsOf Zz (ln m b l)) I
 refine Zc<|Xb h (vs:=[_]) I call159 (Ae (ln m b l) _ _ o (ln_DL _ _ _) (ln_KL x u q) (XF O)<|iM _ _ _) ss dd ?_;clear h;rintro v41 e4 a w ⟨e3,e6,rfl,Q⟩ h
 replace h:=St.shareO' h U Q
 refine gL h<|au 0x4311253125 ?_
 refine zf [_] I call160 (Ca p _ _ d K hq hd oo) ?_;rintro e9 c5 ⟨E,h9,rfl,rfl⟩
 refine au 0x92423f ?_;intro a w h
 refine lpG h [14,15,16,43,44] pkL (fun Y Z (k:Nat) a w=>k≤(norm p).length ∧ ∃(D:Option Addr) (c1:Nat),St 77 S w0 ((17,.slice D ((norm<|sbL (ln g f n) (ln m b l) ((norm p).take k)).length) c1)::(45,nI k)::Y) [(b2,bV (Qe<|l) 51),(b1,bV (Qe<|b) 51),(a7,bV (Qe<|m) 51),(a6,bV (Qe<|n) 51),(b9,bV (Qe<|f) 51),(b8,bV (Qe<|g) 51)] (Row D (cellsOf Zz<|norm<|sbL (ln g f n) (ln m b l) ((norm p).take k))::Z) a w) (fun k=>(norm p).length-k) 0 (⟨Nat.zero_le _,none,0,by rw[List.take_zero,show sbL (ln g f n) (ln m b l) []=[] from I,Lp];replace h:=h.derive (R:=Row none<|cellsOf Zz []) (fun X _ b0=>absurd I b0);exact(h.factsSub (by simp)).sub sA⟩) ?_;clear h
 rintro k a w ⟨c3,D,c1,h⟩
 refine gC h<|au 0x12c31 ?_;intro a w h
 refine Zb h I (fun r=>?_) (fun r=>?_)
 ·have z:k<(norm p).length:=dT r
  obtain ⟨V,W,rfl⟩:=h.row_addr (ad:=E) (M:=cellsOf Zz (norm p)) mm (nE 7)
  have A:=getD_mem (norm p) (d:=T0) z
  have L:=hq.nsz _ A
  have T:=(Jr hq.deg) _ A
  have j0:=Nat.mul_le_mul_right (3*o+4) (show((norm p).getD k T0).i≤d by omega)
  have i6:=Nat.mul_le_mul_right (3*o+4) (show((norm p).getD k T0).j≤d by omega)
  have P:Pq ((norm p).getD k T0).i (((norm p).getD k T0).i*(3*o+4)+4) (norm (AB (norm (ln g f n)) ((norm p).getD k T0).i)):=by rw[Lm];exact Pq.line_pow y t s oo
  have G:Pq ((norm p).getD k T0).j (((norm p).getD k T0).j*(3*o+4)+4) (norm (AB (norm (ln m b l)) ((norm p).getD k T0).j)):=by rw[Lm];exact Pq.line_pow x u q oo
  have b4:Pq d (2*(d*(3*o+4)+4)) (norm (Yx (norm (AB (norm (ln g f n)) ((norm p).getD k T0).i)) (norm (AB (norm (ln m b l)) ((norm p).getD k T0).j)))):=(P.mul G oo).mono T oo
  have a1:=Pq.sbl y t s x u q hd (Jr hq.deg) hq.nsz k oo
  have h0:=Nat.mul_le_mul (show k≤91 by omega) b5
  have J:norm (Qc ((norm p).getD k T0).c (norm (Yx (norm (AB (norm (ln g f n)) ((norm p).getD k T0).i)) (norm (AB (norm (ln m b l)) ((norm p).getD k T0).j)))))=norm (sbT (ln g f n) (ln m b l) ((norm p).getD k T0)):=by
   rw[Lm,Lm,kW,V5];rfl
  have b3:Pq d (KT d K o) (norm (Qc ((norm p).getD k T0).c (norm (Yx (norm (AB (norm (ln g f n)) ((norm p).getD k T0).i)) (norm (AB (norm (ln m b l)) ((norm p).getD k T0).j)))))):=by
   rw[J];exact(Pq.sbT y t s x u q hd T L).mono (Nat.le_refl _) (Nat.sub_le _ _)
  have C:norm (norm (sbL (ln g f n) (ln m b l) ((norm p).take k))++norm (Qc ((norm p).getD k T0).c (norm (Yx (norm (AB (norm (ln g f n)) ((norm p).getD k T0).i)) (norm (AB (norm (ln m b l)) ((norm p).getD k T0).j))))))=norm (sbL (ln g f n) (ln m b l) ((norm p).take (k+1))):=by
   rw[J,mV,take_snoc _ z,Q3]
  refine gC h<|au 0x25f31917 ?_
  refine zD I mm (cells_lt (k:=7) dd (fun _=>rfl) (norm p) k oo) isAgg331 sizeOf331 (Zg (k:=7) (fun _=>rfl) ((fun _=>rfl)) (norm p) T0 k oo) (.inl I) ?_
  refine zz Eg fun h8=>stW I I Kj ?_
  refine au 0xe7f97f4312 ?_
  refine zf [_,_] I call300 (C_Pow (norm<|ln g f n) _ _ 1 (3*o+4) ((Pq.line y t s).nrm oo) ((norm p).getD k T0).i oo oo oo oo oo) ?_;rintro v53 c6 ⟨c8,e8,rfl,rfl⟩
  refine au 0xaaf431255bb4 ?_
  refine ldZ G9 ?_
  refine zf [_,_] I call300 (C_Pow (norm<|ln m b l) _ _ 1 (3*o+4) ((Pq.line x u q).nrm oo) ((norm p).getD k T0).j oo oo oo oo oo) ?_;rintro v60 b6 ⟨e2,h6,rfl,rfl⟩
  refine au 0x4431255bb4 ?_
  refine zf [_,_] I call223 (MH (norm<|AB (norm<|ln g f n) ((norm p).getD k T0).i) (norm<|AB (norm<|ln m b l) ((norm p).getD k T0).j) _ _ _ _ ((norm p).getD k T0).i ((norm p).getD k T0).j (((norm p).getD k T0).i*(3*o+4)+4) (((norm p).getD k T0).j*(3*o+4)+4) P G oo oo oo) ?_;rintro v66 e5 ⟨c9,e7,rfl,rfl⟩
  refine au 0x443255bb4 ?_
  refine zp (.fA I LZ)<|ldZ Lj ?_
  refine zf [_,_] I call121 (Gm (norm<|Yx (norm<|AB (norm<|ln g f n) ((norm p).getD k T0).i)<|norm<|AB (norm<|ln m b l) ((norm p).getD k T0).j) _ _ d (2*(d*(3*o+4)+4)) b4 hd oo ((norm p).getD k T0).c K L oo) ?_;rintro i7 e0 ⟨c7,i1,rfl,rfl⟩
  refine zf [_,_] I call89 (CG (norm<|sbL (ln g f n) (ln m b l) ((norm p).take k)) (norm<|Qc ((norm p).getD k T0).c<|norm<|Yx (norm<|AB (norm<|ln g f n) ((norm p).getD k T0).i)<|norm<|AB (norm<|ln m b l) ((norm p).getD k T0).j) _ _ _ _ d d (k*KT d K o+1) (KT d K o) a1 b3 hd hd oo oo) ?_;rintro h4 e1 ⟨H,a8,rfl,rfl⟩
  refine za I<|zn<|zr<|zp (.pN (k+1)<|.add I I)<|au 0x24 ?_;intro a w h
  rw[C] at h
  exact⟨k+1,⟨oo,H,a8,by exact tO h⟩,oo⟩
 ·have B:(norm p).length=k:=dF r
  subst B
  have e:norm (sbL (ln g f n) (ln m b l) ((norm p).take (norm p).length))=norm (shL p g f n m b l):=by rw[List.take_length];exact Vk (Eqv.sub Eqv.rfl' Eqv.rfl' (Eqv.nrm p))
  rw[e] at h
  refine gC h<|au 0x6254310e ?_;clear h;intro a w h
  refine Qn (Ψ:=[Row _ (cellsOf Zz<|norm<|shL p g f n m b l)]) h (Ze h I<|.tmp I) ⟨_,_,rfl,rfl⟩ ss
end
section
theorem NH(b off:Nat): RN (Instr.indexAt 213 (.pointer (some ⟨b,off,none⟩)) (.int .i64 0)) (.pointer (some ⟨b,off+0,none⟩)):=fun w=>by
 simp[go_sem,Instr.indexAt]
theorem Nf{c0 c1 c2 a b c e d f g:Value}: Zk true 5 #[c0,c1,c2,a,b,c,e,d,f,g] 0=some (.agg #[c0,c1,c2,a,b]):=rfl
theorem NG(b off:Nat): RN (Instr.indexAt 213 (.pointer (some ⟨b,off,none⟩)) (.int .i64 1)) (.pointer (some ⟨b,off+5,none⟩)):=fun w=>by
 simp[go_sem,Instr.indexAt]
theorem Nc{c0 c1 c2 f g a c b d e:Value}: Zk true 5 #[c0,c1,c2,f,g,a,c,b,d,e] 5=some (.agg #[a,c,b,d,e]):=rfl
theorem K1(c j a f b h i d g e:Value): RN (Instr.build 213 [(0,.agg #[c,j,a,f,b]),(1,.agg #[h,i,d,g,e])].toArray) (.agg #[c,j,a,f,b,h,i,d,g,e]):=fun w=>by simp[go_sem]
theorem Qb{c0 c1 c2 d f c g e h i v0 v1 v2 v3 v4 v5 v6 a b v9:Value}: Zl #[c0,c1,c2,d,f,c,g,e,h,i] 0 [v0,v1,v2,v3,v4,v5,v6,a,b,v9]=#[v0,v1,v2,v3,v4,v5,v6,a,b,v9]:=by kernel_rfl
theorem Xi{c0 c1 c2 a d b e c f g:Value}: Zk true 10 #[c0,c1,c2,a,d,b,e,c,f,g] 0=some (.agg #[c0,c1,c2,a,d,b,e,c,f,g]):=rfl
theorem mL: RN (Instr.build 51 [].toArray) (.agg #[.int .u64 0,.string ⟨#[]⟩,.bool false,.int .u64 0,.string ⟨#[]⟩]):=fun w=>by simp[go_sem]
theorem G6(w:World): (zeroValue 213).run prog w=.ok (encPt (0,0)) w:=zeroValue213 w
abbrev encA(l:List Rat): Value:=.agg (cellsOf Qe l).toArray
theorem JC(c b:Pt)(h1:Zn c.1≤10000000000)(f:Zn b.1≤10000000000)(l:Zn c.2≤10000000000)(m:Zn b.2≤10000000000): Ji prog 231 [encPt c,encPt b] (DV (c.1-b.1) (c.2-b.2)):=by
 refine fnI func231 I ntmps231 fun S w0 k=>zS (zx I fun i=>zx I fun g=>zz G6 fun j=>zn<|zs<|yE [0,1,2,3,5,6,7,8,4,9,10,11]<|au 0xf3f0cf ?_)
 refine au 0xf3f0cf ?_
 refine au 0xc2ffbf ?_
 refine au 0xc2ffbf ?_
 refine au 0x99f ?_
 have e:=Yr (c.1) (b.1)
 refine au 0x99f ?_
 have d:=Yr (c.2) (b.2)
 refine yp I (.build [(_,_),(_,_)] I<|K1 _ _ _ _ _ _ _ _ _ _)<|stV I I I Qb ?_
 refine yn<|zt ?_;intro a w h
 refine Js h (Ze h I<|rC Xi) ?_
 rfl
theorem ng(b d c:Pt)(g:Nat)(ha:PtK g b)(s:PtK g d)(hc:PtK g c)(hk:g≤1000000000): Ji prog 235 [encPt b,encPt d,encPt c] (Qe (twQ b d c)):=by
 obtain ⟨f,e⟩:=ha
 obtain ⟨k,i⟩:=s
 obtain ⟨l,j⟩:=hc
 have r:=Jn k f
 have q:=Jn i e
 have p:=Jn l f
 have t:=Jn j e
 refine fnI func235 I ntmps235 fun S w0 v=>zS (zx I fun u=>zx I fun y=>zx I fun B=>zz Xl fun x=>zn<|zs<|yF [0,1,3,4,2,5,6,7,8,9]<|au 0x10f ?_)
 refine au 0x10f ?_
 refine au 0x10f ?_
 refine au 0x10f ?_
 refine yv [_,_] I I call231 (JC d b oo oo oo oo)<|yv [_,_] I I call231 (JC c b oo oo oo oo) (yz I G6 fun A=>yz I G6 fun z=>stV I I I Qb ?_)
 refine stV I I I Qb ?_
 refine yn<|zs<|yE [0,1,2,3,5,6,7,8,4,9,10,11]<|au 0xf3f0cf ?_
 refine au 0xc2ffbf ?_
 refine au 0xf3f0cf ?_
 refine au 0xc2ffbf ?_
 refine au 0x92f ?_
 have o:=Qh (d.1-b.1) (c.2-b.2)
 refine au 0x92f ?_
 have n:=Qh (c.1-b.1) (d.2-b.2)
 refine au 0x99f ?_
 have m:=Yr ((d.1-b.1)*(c.2-b.2)) ((c.1-b.1)*(d.2-b.2))
 refine stV I I I Zi ?_
 refine yn<|zt ?_;intro a w h
 refine Js h (Ze h I<|rC Zx) ?_
 rfl
theorem jv(q:List Tm)(ad:Option Addr)(c g K Kf:Nat)(φ:Nat→Nat→Rat)(p:KL K q)(F:q.length≤100)(G:K+Kf≤50000000)(x:∀args w,(callFunc g args).run prog w=.ok (.enter g args) w)(hf:∀t∈q,Xo prog g [.int .i64 ((t.i:Nat):Int),.int .i64 ((t.j:Nat):Int)] [] (Qe (φ t.i t.j)))(n:∀t∈q,Zn (φ t.i t.j)≤Kf):
  Xo prog 236 [.slice ad q.length c,.func (.func g) #[] #[]] [Row ad (cellsOf Zz q)] (Qe (Nz φ q)):=by
 refine fnI func236 I ntmps236 fun S w0 D=>zS (zz Xl fun A=>au 0x92423f43112 ?_);intro a w h
 refine lpG h [1,4,7,8] pkL (fun Y Z (k:Nat) a w=>k≤q.length∧St 26 S w0 ((9,nI k)::Y) [(A,bV (Qe<|Nz φ<|q.take k) 51)] Z a w) (fun k=>q.length-k) 0 (⟨Nat.zero_le _,by exact(h).sub sA⟩) ?_;clear h
 rintro k a w ⟨r,h⟩
 refine gC h<|au 0x12c31 ?_;intro a w h
 refine Zb h I (fun b=>?_) (fun b=>?_)
 ·have f:k<q.length:=dT b
  obtain ⟨u,v,rfl⟩:=h.row_addr (ad:=ad) (M:=cellsOf Zz q) mm (nE 7)
  have e:=getD_mem q (d:=T0) f
  have z:=p _ e
  have y:=n _ e
  have C:=Iq k oo p n
  have B:=Nat.mul_le_mul (show k≤100 by omega) (show K+Kf+1≤50000001 by omega)
  have l:Nz φ (q.take k)+(q.getD k T0).c*φ (q.getD k T0).i (q.getD k T0).j=Nz φ (q.take (k+1)):=by rw[take_snoc _ f,Ny]
  refine gC h<|au 0x25f31917 ?_
  refine zD I mm (cells_lt (k:=7) dd (fun _=>rfl) q k oo) isAgg331 sizeOf331 (Zg (k:=7) (fun _=>rfl) ((fun _=>rfl)) q T0 k oo) (.inl I) ?_
  refine zz Eg fun E=>stW I I Kj ?_
  refine zn<|yE [0,1,2,3,4,5,6,7,8,9,10,11]<|au 0xbe ?_;clear h
  refine au 0x46f33f ?_
  refine au 0x95f75f8 ?_
  refine au 0x04fb3f ?_
  refine Kt I kk (fs:=[]) (cs:=[]) I (vs:=[_,_]) I x (hf _ e) ss dd ?_
  refine au 0x92f ?_
  have s:=Qh ((q.getD k T0).c) (φ (q.getD k T0).i (q.getD k T0).j)
  refine au 0x54f ?_
  have o:=Xj (Nz φ (q.take k)) (((q.getD k T0).c)*(φ (q.getD k T0).i (q.getD k T0).j))
  refine stV I I I Zi ?_
  refine yn<|zr<|zp (.pN (k+1)<|.add I I)<|au 0x24 ?_;intro a w h
  rw[l] at h
  exact⟨k+1,⟨oo,tO h⟩,oo⟩
 ·have m:q.length=k:=dF b
  subst m
  rw[List.take_length] at h
  refine gC h<|au 0x6e310e ?_
  refine stW I I Zi ?_
  refine zn<|zt ?_;clear h;intro a w h
  refine Js h (Ze h I<|rC Zx) ?_
  rfl
theorem C_unit(i j:Nat)(h:i+j≤12): Ji prog 233 [.int .i64 ((i:Nat):Int),.int .i64 ((j:Nat):Int)] (Qe (mu i j)):=by
 refine fnI func233 I ntmps233 fun S w0 b=>zS (zz Xl fun d=>au 0x44312 ?_)
 refine zp (.pN (i+j)<|.add I I)<|zp (.pN ((i+j)+2)<|.add I I)<|zm I<|zm I (zB [(_,_),(_,_)] I (Jy _ _) fun c=>?_);intro a w h
 replace h:=h.shareAll b (List.map Qi ([i,j])) I
 refine gL h<|zw [_,_] I call234 (gQ (i+j+2) [i,j] _ _ oo ss (by simp;omega))<|stW I I Zi ?_
 refine zn<|zt ?_;clear h;intro a w h
 refine Js h (Ze h I<|rC Zx) ?_
 rw[Re]
theorem C_way(i j:Nat)(h:i≤12): Ji prog 239 [.int .i64 ((i:Nat):Int),.int .i64 ((j:Nat):Int)] (Qe (lam i j)):=by
 refine fnI func239 I ntmps239 fun S w0 e=>zS (zz Xl fun d=>zn<|zS<|zm I<|zp (.pN (i+1)<|.add I I)<|au 0x05f ?_);intro a w h
 have b:=Ks (1) (((i+1:Nat):Int)) oo oo oo oo
 refine gL h<|au 0xbb4 ?_
 refine zz Xl fun c=>stW I I Zi ?_
 refine au 0x6e3125 ?_
 refine stW I I Zi ?_
 refine zn<|zt ?_;clear h;intro a w h
 refine Js h (Ze h I<|rC Zx) ?_
 rfl
theorem C_Tri(p:List Tm)(ad:Option Addr)(cp d K f:Nat)(hq:Pq d K p)(hd:d≤12)(b e c:Pt)(ha:PtK f b)(r:PtK f e)(hc:PtK f c)(G:f≤3000)(O:K≤300000): Xo prog 126 [.slice ad p.length cp,encPt b,encPt e,encPt c] [Row ad (cellsOf Zz p)] (Qe (VA p b e c)):=by
 have s:KT d K (2*f+1)≤520000:=by
  have:=Nat.mul_le_mul_right (3*(2*f+1)+4) hd
  unfold KT;omega
 have C:KS d K (2*f+1)≤47400000:=by
  have:=Nat.mul_le_mul (show tri (d+1)≤91 from Nat.le_trans (Bl (show d+1≤13 by omega)) dd) s
  unfold KS;omega
 have g:=Pq.triS hq hd ha r hc
 have H:=XO hq hd ha r hc
 have A:=XM ha r hc
 have z:=Nat.mul_le_mul (show tri (d+1)≤91 from Nat.le_trans (Bl (show d+1≤13 by omega)) dd) (show KS d K (2*f+1)+301≤47400301 by omega)
 obtain ⟨l,k⟩:=ha
 obtain ⟨o,m⟩:=r
 obtain ⟨q,n⟩:=hc
 have E:=Jn o l
 have D:=Jn m k
 have B:=Jn q l
 have J:=Jn n k
 refine fnI func126 I ntmps126 fun S w0 M=>zS (zx I fun R=>zx I fun N=>zx I fun Q=>zz Xl fun P=>zn<|zs<|yF [0,1,3,4,2,5,6,7,8,9]<|au 0x10f ?_)
 refine au 0x10f ?_
 refine au 0x10f ?_
 refine au 0x10f ?_
 refine yv [_,_] I I call231 (JC e b oo oo oo oo)<|yv [_,_] I I call231 (JC c b oo oo oo oo) (yz I G6 fun L=>yz I G6 fun y=>stV I I I Qb ?_)
 refine stV I I I Qb ?_
 refine au 0x16f3af16f3af16f3afe3f4afe3f4afe3f4af431a ?_
 refine zf [_,_,_,_,_,_,_] I call232 (bv p _ _ d K hq (e.1-b.1) (c.1-b.1) b.1 (e.2-b.2) (c.2-b.2) b.2 (2*f+1) hd oo oo oo oo oo oo oo oo) ?_;rintro v32 x ⟨v,F,rfl,rfl⟩
 refine au 0x8e8e8e31253125 ?_
 refine zv [_,_,_] I call235 (ng b e c f ⟨l,k⟩ ⟨o,m⟩ ⟨q,n⟩ oo)<|zm I<|zm I<|zw [_,_] I call236 (jv (norm<|shL p (e.1-b.1) (c.1-b.1) b.1 (e.2-b.2) (c.2-b.2) b.2) _ _ 233 (KS d K (2*f+1)) 300 mu g.siz g.len oo call233 (fun t ht=>IM (C_unit t.i t.j (by have:=g.deg t ht;omega)) []) (fun t ht=>XQ _ _ (by have:=g.deg t ht;omega)))<|au 0xb9f ?_
 have u:=Qh (twQ b e c) (Nz mu (norm (shL p (e.1-b.1) (c.1-b.1) b.1 (e.2-b.2) (c.2-b.2) b.2)))
 refine stW I I Zi ?_
 refine zn<|zt ?_;intro a w h
 refine Js h (Ze h I<|rC Zx) ?_
 rw[cr]
theorem C_Seg(p:List Tm)(ad:Option Addr)(cp d K c:Nat)(hq:Pq d K p)(hd:d≤12)(b f:Pt)(ha:PtK c b)(s:PtK c f)(k:2≤c)(z:c≤3000)(D:K≤300000): Xo prog 133 [.slice ad p.length cp,encPt b,encPt f] [Row ad (cellsOf Zz p)] (Qe (V1 p b f)):=by
 have n:KT d K (2*c+1)≤520000:=by
  have:=Nat.mul_le_mul_right (3*(2*c+1)+4) hd
  unfold KT;omega
 have u:KS d K (2*c+1)≤47400000:=by
  have:=Nat.mul_le_mul (show tri (d+1)≤91 from Nat.le_trans (Bl (show d+1≤13 by omega)) dd) n
  unfold KS;omega
 have e:=Pq.seg hq hd ha s k
 obtain ⟨m,g⟩:=ha
 obtain ⟨o,l⟩:=s
 have x:=Jn o m
 have v:=Jn l g
 have A:=Vo
 refine fnI func133 I ntmps133 fun S w0 B=>zS (zx I fun E=>zx I fun H=>zz Xl fun C=>au 0x8e8e312 ?_)
 refine zv [_,_] I call231 (JC f b oo oo oo oo)<|zp (.build [] I<|mL) (zz G6 fun G=>zz Xl fun F=>stW I I Qb ?_)
 refine stW I I Zi ?_
 refine au 0x16f3af6e16f3afe3f4af6ee3f4af4312 ?_
 refine zf [_,_,_,_,_,_,_] I call232 (bv p _ _ d K hq (f.1-b.1) 0 b.1 (f.2-b.2) 0 b.2 (2*c+1) hd oo oo oo oo oo oo oo oo) ?_;rintro v26 q ⟨r,y,rfl,rfl⟩
 refine au 0x4431253125 ?_
 refine zw [_,_] I call236 (jv (norm<|shL p (f.1-b.1) 0 b.1 (f.2-b.2) 0 b.2) _ _ 239 (KS d K (2*c+1)) 4 lam e.siz e.len oo call239 (fun t ht=>IM (C_way t.i t.j (by have:=e.deg t ht;omega)) []) (fun t ht=>ew _ _ (by have:=e.deg t ht;omega)))<|stW I I Zi ?_
 refine zn<|zt ?_;intro a w h
 refine Js h (Ze h I<|rC Zx) ?_
 rw[di]
end
section
def fanG(p:List Tm)(l:List Pt): Nat→Rat
 | 0=>0
 | k+1=>fanG p l k+VA p (l.getD 0 (0,0)) (l.getD (k+1) (0,0)) (l.getD (k+2) (0,0))
def pwN(x:Rat): Nat→List Rat
 | 0=>(List.replicate 13 (0:Rat)).set 0 ((1:Int):Rat)
 | i+1=>(pwN x i).set (i+1) ((pwN x i).getD i 0*x)
def PWf(x y:Rat): Nat→Nat→Rat:=fun i j=>(pwN x 12).getD i 0*(pwN y 12).getD j 0
end
section
theorem sub_self(a:List Tm): norm (a++Qc (-1) a)=[]:=by
 rw[Vk (m:=[]) (fun φ=>by rw[Aa,AY,Lv];grind)];exact Lp
end
section
theorem Bd(a b:Nat): ((a:Int)=(b:Int))↔a=b:=oo
def cfT:List Tm→Int→Int→Rat
 | [],_,_=>0
 | t::l,i,j=>if ((t.i:Nat):Int)=i∧((t.j:Nat):Int)=j then t.c else cfT l i j
structure Tz where
 i:Int
 j:Int
 c:Rat
abbrev Tz0:Tz:=⟨0,0,0⟩
abbrev encTz(t:Tz): Value:=.agg #[.int .i64 t.i,.int .i64 t.j,.int .u64 (Xr t.c.num.natAbs),.string (Xa t.c.num.natAbs),.bool (decide (t.c.num<0)),.int .u64 (Xr (t.c.den-1)),.string (Xa (t.c.den-1))]
def mayZ(t:Tz): Int:=if t.i<0∨t.j<0 then 1 else if t.i>12∨t.j>12-t.i then 9 else 0
def firstZ:List Tz→Int
 | []=>0
 | t::l=>if mayZ t=0 then firstZ l else mayZ t
end
end Go.Proofs.YtejhdcohoggojaaGreatDoor
