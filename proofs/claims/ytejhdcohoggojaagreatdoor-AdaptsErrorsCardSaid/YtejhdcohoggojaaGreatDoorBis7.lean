/- Walks of functions. By an AI agent. -/
import Derived.Test.YtejhdcohoggojaaGreatDoorEst6
set_option linter.unusedVariables false
set_option linter.unusedSimpArgs false
set_option maxRecDepth 4000
set_option maxHeartbeats 1000000
namespace Go.Proofs.YtejhdcohoggojaaGreatDoor
open Go Go.Proofs Go.Fx Tryz
attribute [local irreducible] Oper.wp Code.wp wpList Fx.Head wpOp
section
theorem ke{c0 c1 c2 x s r t u v w p g n h m o a e k c j f i d q b l:Value}: Zk false 1 #[c0,c1,c2,x,s,r,t,u,v,w,p,g,n,h,m,o,a,e,k,c,j,f,i,d,q,b,l] 2=some c2:=rfl
theorem hsE{α:Type _}{a:α}{l L:List α}(t:∀R∈l,R∈L)(h:a∈L:=by first|assumption|(repeat(first|exact List.mem_append_left _ (List.Mem.head _)|apply List.mem_append_right|exact List.Mem.head _|apply List.Mem.tail))): ∀R∈a::l,R∈L:=hsC t h
theorem hsF{α:Type _}{l L:List α}(h:∀R∈l,R∈L:=by repeat(first|exact(fun _ hR=>absurd hR List.not_mem_nil)|refine hsE ?_)): ∀R∈l,R∈L:=h
theorem mG(x y:Int)(w:World)(ty:TypeId)(cs:Array Bool): (Go.builtin .max #[3,3] ty cs #[.int .i64 x,.int .i64 y]).run prog w=.ok (.value (.int .i64 (max x y))) w:=by
 simp[go_sem]
def iK(S:List (Nat×Nat×Nat)): Nat→List ((Nat×Nat)×Nat)
 | 0=>[]
 | i+1=>Kl (iK S i) ((S.getD i (0,0,0)).1,(S.getD i (0,0,0)).2.1) (S.getD i (0,0,0)).2.2
abbrev KG(p:Pr)(e:Ed): Nat:=(Zu (iK p.m.S p.m.S.length) (e.a,e.b)).getD 0
abbrev OD(p:Pr)(V:List Rat)(d:Pt)(t:Nat): List Tm:=VD (Yw p.k0 p.k1 (uT p.m p.o V (p.m.T.getD t (0,0,0)))) (Yw p.k1 p.k2 (uT p.m p.o V (p.m.T.getD t (0,0,0)))) d
def Uk(e:Ed): Bool:=decide (e.l≥0) && decide (e.r≥0)
abbrev dE(p:Pr)(e:Ed): Pt:=Vh (pt p.m e.b) (pt p.m e.a)
def JL(p:Pr)(V:List Rat)(e:Ed): List Tm :=
 if Uk e=true then norm (OD p V (dE p e) e.l.toNat++Qc ((-1:Int):Rat) (OD p V (dE p e) e.r.toNat))
 else if (Kv p.G (KG p e)).1.fix=true then []
 else norm (VD (Kv p.G (KG p e)).1.x.l (Kv p.G (KG p e)).1.y.l (dE p e)++Qc ((-1:Int):Rat) (OD p V (dE p e) (max e.l e.r).toNat))
def BX(p:Pr)(V:List Rat)(e:Ed): Rat:=V1 (norm (Yx (JL p V e) (JL p V e))) (pt p.m e.a) (pt p.m e.b)
theorem RY{G:List Gv}(n:Nat): (Kv G n).1=gv0∨(Kv G n).1∈G:=by
 by_cases h:ixG G n<0
 ·rw[LQ h];exact .inl rfl
 ·have h1:=ixG_lt G n
  rw[Fg (i:=(ixG G n).toNat) oo]
  exact .inr (getD_mem G oo)
theorem Q9{G:List Gv}{g:Gv}(h:g∈G): Row g.x.a (cellsOf Zz g.x.l)∈Qu G∧Row g.y.a (cellsOf Zz g.y.l)∈Qu G:=by
 obtain ⟨i,b,rfl⟩:=List.mem_iff_getElem.1 h
 have:=A6 b
 rw[show G.getD i gv0=G[i] from by simp[List.getD,b]] at this
 exact this.2
theorem KW{G:List Gv}(n:Nat){X:Nat→Prop}{w:World}(h:(Yi (Qu G)).p X w): (Row (Kv G n).1.x.a (cellsOf Zz (Kv G n).1.x.l)).p X w∧(Row (Kv G n).1.y.a (cellsOf Zz (Kv G n).1.y.l)).p X w:=by
 rcases RY (G:=G) n with e|hm
 ·rw[e];exact⟨fun b=>absurd rfl b,fun b=>absurd rfl b⟩
 ·exact⟨h _ (Q9 hm).1,h _ (Q9 hm).2⟩
theorem RZ{p:Pr}{V:List Rat}(a:EsV p V)(n:Nat): Pq 4 1000 (Kv p.G n).1.x.l∧Pq 4 1000 (Kv p.G n).1.y.l:=by
 rcases RY (G:=p.G) n with e|hm
 ·rw[e];exact⟨CL 4 999,CL 4 999⟩
 ·exact a.G _ hm
theorem KV{p:Pr}{V:List Rat}(a:EsV p V){d:Pt}(hd:PtK 10 d){t:Nat}(ht:t<p.m.T.length): Pq 2 29019 (OD p V d t):=by
 have hu:=cq a.pv.m a.pv.o a.xV a.n (getD_mem p.m.T (d:=(0,0,0)) ht)
 exact VC (Bz hu dd a.k0 a.k1) (Bz hu dd a.k1 a.k2) dd hd
theorem dE_K{p:Pr}{a b:Pt}(ha:PtK 4 a)(c:PtK 4 b): PtK 10 (Vh b a):=by
 obtain ⟨e,a2⟩:=ha
 obtain ⟨d,f⟩:=c
 exact⟨by have:=Yr b.1 a.1;show Zn (b.1-a.1)≤10;omega,by have:=Yr b.2 a.2;show Zn (b.2-a.2)≤10;omega⟩
theorem iQ{p:Pr}{V:List Rat}(c:EsV p V){e:Ed}(he:EdOk p.m.P.length p.m.T.length (e.a,e.b) e): Pq 4 60000 (JL p V e):=by
 have h1:=he.lt;have d:=he.n;have l0:=he.l0;have l1:=he.l1;have r0:=he.r0;have r1:=he.r1;have hs:=he.has
 simp only at h1 d
 have hd:=dE_K (p:=p) (c.pv.m.ptK (show e.a<p.m.P.length by omega)) (c.pv.m.ptK d)
 unfold JL
 split
 ·rename_i g
  unfold Uk at g
  rw[Bool.and_eq_true,decide_eq_true_iff,decide_eq_true_iff] at g
  exact(Pq.subM (KV c hd (t:=e.l.toNat) oo) (KV c hd (t:=e.r.toNat) oo) dd dd).mono dd dd
 ·split
  ·exact CL 4 59999
  ·have f:=RZ c (KG p e)
   exact(Pq.subM (VC f.1 f.2 dd hd) (KV c hd (t:=(max e.l e.r).toNat) oo) dd dd).mono dd dd
theorem de{O:List Rat}{i:Nat}{x:Rat}{g:Nat→Rat}(a:i<O.length)(h:∀k,k<i→O.getD k 0=g k)(hx:x=g i): ∀k,k<i+1→(O.set i x).getD k 0=g k:=fun k hk=>by
 by_cases e:k=i
 ·rw[e];simp[List.getD,a,hx]
 ·simp only[List.getD];rw[List.getElem?_set_ne (fun x=>e x.symm)];exact h k oo
theorem df{O:List Rat}{E:List Ed}{f:Ed→Rat}(h1:O.length=E.length)(a:∀k,k<E.length→O.getD k 0=f (E.getD k ed0)): O=E.map f:=by
 apply List.ext_getElem
 ·rw[h1,List.length_map]
 ·intro i b c
  have:=a i oo
  simp only[List.getD,List.getElem?_eq_getElem b,List.getElem?_eq_getElem (show i<E.length by omega),Option.getD_some] at this
  rw[this,List.getElem_map]
theorem rdEsPr(p:Pr)(d a c b:Option Addr)(h f e g:Nat)(U:List Pl)(i:Option Addr)(j:Nat): Zk true 26 (Value.cells (BE p d a c b h f e g U i j)).toList.toArray 0=some (Xf p d a c b h f e g):=by kernel_rfl
theorem gW(p:Pr)(c7 E D F:Option Addr)(cP cT cS cG:Nat)(V:List Rat)(U:List Pl)(aU:Option Addr)(cU:Nat)(aE:Option Addr)(cE:Nat)(K:EsV p V)(hU:U.map (·.l)=p.m.T.map (uT p.m p.o V)): Ctr prog 70 [BE p c7 E D F cP cT cS cG U aU cU,.slice aE (Za p.m.T).length cE] [Row c7 (cellsOf encPt p.m.P),Row E (cellsOf Zd p.m.T),Row D (cellsOf Zd p.m.S),Row p.f.a (cellsOf Zz p.f.l),Row F (cellsOf Jg p.G),Yi (Qu p.G),Row aU (List.map Ys U),Yi (U.map Yo),Row aE (cellsOf Qp (Za p.m.T))] (fun v Ψ => ∃ad,v=.slice ad (Za p.m.T).length (Za p.m.T).length∧Ψ=[Row ad (cellsOf Qe ((Za p.m.T).map (BX p V)))]):=by
 have n9:=K.pv.m.nP
 have o0:=K.pv.m.nT
 have n5:=K.pv.m.nS
 have l6:=K.pv.m.neP
 have h2:=K.pv.m.ne
 have o4:=K.pv.G.n
 have o5:=Gk p.m.T
 have n1:U.length=p.m.T.length:=by have:=congrArg List.length hU;rw[List.length_map,List.length_map] at this;exact this
 refine fn_intro func70 I ntmps70 nb ?_
 intro S w0 a hS h
 obtain ⟨s,t,rfl⟩:=h.row_addr (ad:=c7) (M:=cellsOf encPt p.m.P) mm (nE 10)
 obtain ⟨A,z,rfl⟩:=h.row_addr (ad:=aU) (M:=List.map Ys U) mm (by intro e;have:=congrArg List.length e;rw[List.length_map,List.length_nil] at this;omega)
 replace h:=h.derive (R:=Row none (cellsOf Zz [])) (fun X _ h2=>absurd I h2)
 refine gC h<|zS (zx I fun H=>au 0x3125 ?_);clear h;intro a w h
 refine Zc<|D8 Zy Qi h dd ?_;clear h;intro a8 a w h
 refine gL h<|au 0x31125 ?_
 refine zp (.fA I HQ)<|au 0x36fa4f ?_
 refine ldZ ke ?_
 refine au 0x924b2f ?_;clear h;intro a w h
 refine lpG h [1,2,4,5,23,24] pkL (fun Y Z (j:Nat) a w=>j≤p.m.S.length∧St 126 S w0 ((25,nI j)::Y) [(a8,mB Zy Qi<|iK p.m.S j),(H,bV (BE p (some ⟨s,t,none⟩) E D F cP cT cS cG U (some ⟨A,z,none⟩) cU) 147)] Z a w) (fun j=>p.m.S.length-j) 0 (⟨Nat.zero_le _,by exact(h).sub sA⟩) ?_;clear h
 rintro j a w ⟨j9,h⟩
 refine gC h<|au 0x12c31 ?_;intro a w h
 refine Zb h I (fun a6=>?_) (fun a6=>?_)
 ·have j2:j<p.m.S.length:=dT a6
  obtain ⟨c9,b8,rfl⟩:=h.row_addr (ad:=D) (M:=cellsOf Zd p.m.S) mm (nE 3)
  refine gC h<|au 0x98f31917 ?_
  refine zD I mm (cells_lt (k:=3) dd (fun _=>rfl) p.m.S j oo) isAgg178 sizeOf178 (Zg (k:=3) (fun _=>rfl) ((fun _=>rfl)) p.m.S (0,0,0) j oo) (.inl I) ?_
  refine zz G5 fun b7=>stW I I Qg ?_
  refine au 0x60fbaf432 ?_
  refine zp (.fA I Cx)<|au 0x35f90f ?_
  refine zp (.fA I Cw)<|au 0x51f ?_;clear h;intro a w h
  refine Zc<|Hf h Py (u:=((p.m.S.getD j (0,0,0)).1,(p.m.S.getD j (0,0,0)).2.1)) (q:=(p.m.S.getD j (0,0,0)).2.2) (m:=iK p.m.S j) I I I uu ?_;clear h;intro a w h
  replace h:=h.same I (show _=[(b7,bV (Zd (p.m.S.getD j (0,0,0))) 178),(a8,mB Zy Qi (iK p.m.S (j+1))),(H,bV (BE p (some ⟨s,t,none⟩) E (some ⟨c9,b8,none⟩) F cP cT cS cG U (some ⟨A,z,none⟩) cU) 147)] from I) I
  refine gL h<|zn<|zr<|zp (.pN (j+1)<|.add I I)<|au 0x24 ?_;clear h;intro a w h
  exact⟨j+1,⟨oo,tO h⟩,oo⟩
 ·have c6:p.m.S.length=j:=dF a6
  subst c6
  refine gC h<|au 0x4310e ?_;clear h;intro a w h
  replace h:=(h.perm (List.Perm.trans (Bh (List.Perm.refl _)) (List.Perm.cons _ (List.Perm.refl _))).symm).shareAll hS ((Value.cells (BE p (some ⟨s,t,none⟩) E D F cP cT cS cG U (some ⟨A,z,none⟩) cU)).toList) I
  refine gL h<|au 0x13f ?_;clear h;intro a w h
  refine Zc<|Je h I I runUnderlying58 typeInfo51 sizeOf51 Xl I dd oo (by show 56*((Za p.m.T).length)≤281474976710656;omega) oo dd ?_;clear h;intro a1 a w h;replace h:=h.same I (by rw[←B7 (enc:=Qe)]) I
  refine gL h<|au 0x92413f431125 ?_;intro a w h
  refine lpG h [1,2,4,5,8,23,24,25,41,42] pkL (fun Y Z (i:Nat) a w=>i≤(Za p.m.T).length ∧ ∃(O:List Rat),(O.length=(Za p.m.T).length ∧ ∀k,k<i→O.getD k 0=BX p V ((Za p.m.T).getD k ed0))∧St 126 S w0 ((43,nI i)::Y) [(a1,.cells (cellsOf Qe<|O).toArray 51 (0,0)),(a8,mB Zy Qi<|iK p.m.S p.m.S.length)] Z a w) (fun i=>(Za p.m.T).length-i) 0 (⟨Nat.zero_le _,List.replicate (Za p.m.T).length 0,⟨List.length_replicate,fun _ h=>absurd h (Nat.not_lt_zero _)⟩,by exact(h).sub sA⟩) ?_;clear h
  rintro i a w ⟨k6,O,⟨e7,e5⟩,h⟩
  refine gC h<|au 0x12c31 ?_;intro a w h
  refine Zb h I (fun b0=>?_) (fun b0=>?_)
  ·have c8:i<(Za p.m.T).length:=dT b0
   obtain ⟨b5,b6,rfl⟩:=h.row_addr (ad:=aE) (M:=cellsOf Qp (Za p.m.T)) mm (nE 4)
   have J:=Fp K.pv.m.num _ (getD_mem (Za p.m.T) (d:=ed0) c8)
   have e2:=iQ K J
   have q1:=J.lt;have q2:=J.n;have l0:=J.l0;have l1:=J.l1;have r0:=J.r0;have r1:=J.r1;have hs:=J.has
   simp only at q1 q2
   have q0:((Za p.m.T).getD i ed0).a<p.m.P.length:=oo
   have e0:PtK 4 (p.m.P.getD ((Za p.m.T).getD i ed0).a (0,0)):=K.pv.m.ptK q0
   have c4:PtK 4 (p.m.P.getD ((Za p.m.T).getD i ed0).b (0,0)):=K.pv.m.ptK q2
   have L:PtK 10 (dE p ((Za p.m.T).getD i ed0)):=dE_K (p:=p) e0 c4
   obtain ⟨o2,n0⟩:=id e0
   obtain ⟨o1,n2⟩:=id c4
   refine gC h<|au 0x27f431917 ?_
   refine zD I mm (cells_lt (k:=4) dd (fun _=>rfl) (Za p.m.T) i oo) isAgg124 sizeOf124 (Zg (k:=4) (fun _=>rfl) ((fun _=>rfl)) (Za p.m.T) ed0 i oo) (.inl I) ?_
   refine zz Bj fun j4=>za I<|stW I I Xw ?_
   refine zn<|zs<|yF [0,1,2,3,4,5,6,7,8,9,10,11,12,13,14,15,16,17,18,19]<|au 0x67f ?_
   refine yp I (.fA I LX)<|au 0x50f ?_;clear h
   refine Zf (b:=H) (off:=0) (j:=0) (M:=(Value.cells<|BE p (some ⟨s,t,none⟩) E D F cP cT cS cG U (some ⟨A,z,none⟩) cU).toList) (v:=.slice (some ⟨s,t,none⟩) p.m.P.length cP) I kk I mm nb isAgg38 sizeOf38 I (.inr I) dd ?_
   refine au 0x38f87f ?_
   refine au 0xd1f ?_
   refine Zf I kk I mm (cells_lt (k:=10) dd (fun _=>rfl) p.m.P (((Za p.m.T).getD i ed0).a) oo) isAgg119 sizeOf119 (Zg (k:=10) (fun _=>rfl) ((fun _=>rfl)) p.m.P (0,0) (((Za p.m.T).getD i ed0).a) oo) (.inl I) dd ?_
   refine au 0x67f ?_
   refine yp I (.fA I LX)<|au 0x50f ?_
   refine Kn [] (b:=H) (off:=0) (j:=0) (M:=(Value.cells<|BE p (some ⟨s,t,none⟩) E D F cP cT cS cG U (some ⟨A,z,none⟩) cU).toList) (v:=.slice (some ⟨s,t,none⟩) p.m.P.length cP) I kk I mm nb isAgg38 sizeOf38 I (.inr I) (fun _ ht=>nomatch ht) dd ?_
   refine au 0x77f ?_
   refine Qx [] I kk I mr isAgg3 sizeOf3 EM (fun _ _ _ _ _ ht=>nomatch ht) dd ?_
   refine au 0xd1f ?_
   refine Kn [] I kk I mm (cells_lt (k:=10) dd (fun _=>rfl) p.m.P (((Za p.m.T).getD i ed0).b) oo) isAgg119 sizeOf119 (Zg (k:=10) (fun _=>rfl) ((fun _=>rfl)) p.m.P (0,0) (((Za p.m.T).getD i ed0).b) oo) (.inl I) (fun _ ht=>nomatch ht) dd ?_
   refine yz I Xv fun e9=>yz I Xv fun h3=>stV I I I Qb ?_
   refine stV I I I Qb ?_
   refine au 0x8e8e31a ?_
   refine zv [_,_] I call129 (CE (p.m.P.getD (((Za p.m.T).getD i ed0).b) (0,0)) (p.m.P.getD (((Za p.m.T).getD i ed0).a) (0,0)) oo oo oo oo) ?_
   have h6:=Xu (p.m.P.getD (((Za p.m.T).getD i ed0).b) (0,0)) (p.m.P.getD (((Za p.m.T).getD i ed0).a) (0,0))
   have h6:=Xt (p.m.P.getD (((Za p.m.T).getD i ed0).b) (0,0)) (p.m.P.getD (((Za p.m.T).getD i ed0).a) (0,0))
   refine zz Xv fun B=>stW I I Qb ?_
   refine au 0xd7f312 ?_
   refine zz zeroValue215 fun C=>?_;intro a w h
   replace h:=(h.perm (List.Perm.trans (Bh (List.Perm.refl _)) (List.Perm.cons _ (List.Perm.refl _))).symm).shareAll hS ((Value.cells (DV ((Vh (p.m.P.getD (((Za p.m.T).getD i ed0).b) (0,0)) (p.m.P.getD (((Za p.m.T).getD i ed0).a) (0,0))).1) ((Vh (p.m.P.getD (((Za p.m.T).getD i ed0).b) (0,0)) (p.m.P.getD (((Za p.m.T).getD i ed0).a) (0,0))).2))).toList) I
   refine gL h<|stW I I Kk ?_
   refine zn<|zS<|zp (.makeFunc [] [_,_] I I)<|za I ?_;clear h;intro a w h
   replace h:=h.shareAll hS ([.func (.func 130) #[] #[.pointer (some ⟨B,0,none⟩)]]) I
   refine gL h<|au 0x25312 ?_;clear h;intro a w h
   refine wjG h [] pkL (fun Y Z a w => ∃(aJ:Option Addr) (cJ:Nat),St 126 S w0 ((1,.slice (some ⟨b5,b6,none⟩) ((Za p.m.T).length) cE)::(2,pB H)::(4,.slice none 0 0)::(5,.map<|some a8)::(8,.slice (some ⟨a1,0,none⟩) ((Za p.m.T).length) ((Za p.m.T).length))::(9,nI i)::(11,pB e9)::(12,pB h3)::(16,.slice aJ ((JL p V ((Za p.m.T).getD i ed0)).length) cJ)::(23,.slice D p.m.S.length cS)::(24,nI p.m.S.length)::(25,nI p.m.S.length)::(41,.slice (some ⟨b5,b6,none⟩) ((Za p.m.T).length) cE)::(42,nI ((Za p.m.T).length))::(43,nI i)::Y) [(h3,bV (DV ((p.m.P.getD (((Za p.m.T).getD i ed0).b) (0,0)).1) ((p.m.P.getD (((Za p.m.T).getD i ed0).b) (0,0)).2)) 119),(e9,bV (DV ((p.m.P.getD (((Za p.m.T).getD i ed0).a) (0,0)).1) ((p.m.P.getD (((Za p.m.T).getD i ed0).a) (0,0)).2)) 119),(j4,bV (Qp ((Za p.m.T).getD i ed0)) 124),(a1,.cells (cellsOf Qe<|O).toArray 51 (0,0)),(a8,mB Zy Qi<|iK p.m.S p.m.S.length)] (Row aJ (cellsOf Zz<|JL p V ((Za p.m.T).getD i ed0))::Z) a w) ?_ ?_
   ·refine gC h<|au 0xecf31 ?_
    refine ldZ CY ?_
    refine au 0x40f ?_;clear h;intro a w h
    refine Zh h (fun Q h=>?_) (fun Q h=>?_)
    focus
     refine gL h<|zm I<|zq 72 I I (.fA I Ak)<|ldQ 72 CX ?_
     refine zq 72 I I (.geq I I) ?_;clear h;intro a w h
     refine Zh h (fun W h=>?_) (fun W h=>?_)
     ·refine gL h<|au 0x1e22e ?_
      refine yE [0,1,2,4,5,6,3,7,8,9] ?_;clear h
      have j3:Uk ((Za p.m.T).getD i ed0)=true:=by unfold Uk;rw[Bool.and_eq_true,decide_eq_true_iff,decide_eq_true_iff];exact⟨of_decide_eq_true Q,of_decide_eq_true W⟩
      obtain ⟨tl,h5⟩:=Int.eq_ofNat_of_zero_le (show 0≤((Za p.m.T).getD i ed0).l from of_decide_eq_true Q)
      obtain ⟨tr,e3⟩:=Int.eq_ofNat_of_zero_le (show 0≤((Za p.m.T).getD i ed0).r from of_decide_eq_true W)
      have b4:tl<p.m.T.length:=oo
      have b1:tr<p.m.T.length:=oo
      have h9:Ctr prog 131 [.int .i64 (((Za p.m.T).getD i ed0).l),.pointer (some ⟨C,0,none⟩),.pointer (some ⟨H,0,none⟩)] [Row (some ⟨C,0,none⟩) [.func (.func 130) #[] #[.pointer (some ⟨B,0,none⟩)]],Row (some ⟨H,0,none⟩) (Value.cells (BE p (some ⟨s,t,none⟩) E D F cP cT cS cG U (some ⟨A,z,none⟩) cU)).toList,Row (some ⟨B,0,none⟩) (Value.cells (encPt (Vh (p.m.P.getD ((Za p.m.T).getD i ed0).b (0,0)) (p.m.P.getD ((Za p.m.T).getD i ed0).a (0,0))))).toList,Row (some ⟨A,z,none⟩) (List.map Ys U),Yi (U.map Yo)] (fun v Ψ => ∃ad c,v=.slice ad (OD p V (dE p ((Za p.m.T).getD i ed0)) tl).length c∧Ψ=[Row ad (cellsOf Zz (OD p V (dE p ((Za p.m.T).getD i ed0)) tl))]):=by rw[h5];exact aK p _ _ _ _ _ _ _ _ V U _ cU tl (dE p ((Za p.m.T).getD i ed0)) B 0 C 0 H 0 K hU b4 L
      have h7:Ctr prog 131 [.int .i64 (((Za p.m.T).getD i ed0).r),.pointer (some ⟨C,0,none⟩),.pointer (some ⟨H,0,none⟩)] [Row (some ⟨C,0,none⟩) [.func (.func 130) #[] #[.pointer (some ⟨B,0,none⟩)]],Row (some ⟨H,0,none⟩) (Value.cells (BE p (some ⟨s,t,none⟩) E D F cP cT cS cG U (some ⟨A,z,none⟩) cU)).toList,Row (some ⟨B,0,none⟩) (Value.cells (encPt (Vh (p.m.P.getD ((Za p.m.T).getD i ed0).b (0,0)) (p.m.P.getD ((Za p.m.T).getD i ed0).a (0,0))))).toList,Row (some ⟨A,z,none⟩) (List.map Ys U),Yi (U.map Yo)] (fun v Ψ => ∃ad c,v=.slice ad (OD p V (dE p ((Za p.m.T).getD i ed0)) tr).length c∧Ψ=[Row ad (cellsOf Zz (OD p V (dE p ((Za p.m.T).getD i ed0)) tr))]):=by rw[e3];exact aK p _ _ _ _ _ _ _ _ V U _ cU tr (dE p ((Za p.m.T).getD i ed0)) B 0 C 0 H 0 K hU b1 L
      refine au 0x8 ?_
      refine yp I (.fA I Cy)<|ldY CY ?_
      refine au 0x8 ?_
      refine yp I (.fA I Ak)<|ldY CX ?_
      refine AZ I kk (fs:=[]) (cs:=[.pointer (some ⟨C,0,none⟩),.pointer (some ⟨H,0,none⟩)]) I (vs:=[_]) I call131 (h9) (by exact hsA) dd ?_;rintro v80 l3 ⟨l5,l9,rfl,rfl⟩
      refine AZ I kk (fs:=[]) (cs:=[.pointer (some ⟨C,0,none⟩),.pointer (some ⟨H,0,none⟩)]) I (vs:=[_]) I call131 (h7) (by exact hsA) dd ?_;rintro o3 l2 ⟨k8,n4,rfl,rfl⟩
      refine Zs I kk (vs:=[_,_]) I call125 (JB (OD p V (dE p ((Za p.m.T).getD i ed0)) tl) (OD p V (dE p ((Za p.m.T).getD i ed0)) tr) _ _ _ _ 2 2 29019 29019 (KV K L b4) (KV K L b1) dd dd dd dd) (by exact hsA) dd ?_;rintro v85 l8 ⟨e8,j7,rfl,rfl⟩
      refine au 0xa3e ?_;intro a w h
      have a7:JL p V ((Za p.m.T).getD i ed0)=norm (OD p V (dE p ((Za p.m.T).getD i ed0)) tl++Qc ((-1:Int):Rat) (OD p V (dE p ((Za p.m.T).getD i ed0)) tr)):=by unfold JL;rw[if_pos j3,h5,e3,Int.toNat_natCast,Int.toNat_natCast]
      exact⟨e8,j7,by rw[a7];exact tO h⟩
     refine gL h<|au 0x22e ?_;clear h;intro a w h
    rotate_left
    focus
     refine gL h<|zm I<|zo 72 I I I<|zo 72 I I I<|zo 72 I I I<|au 0x24e ?_;clear h;intro a w h
    all_goals
     refine cW ?_
     refine Zj h I ?_
     refine gC h<|zs<|yF [0,1,2,3,4,5,6,7,8,9,10,11,12,13,14,15] ?_;clear h
     have h8:¬Uk ((Za p.m.T).getD i ed0)=true:=by unfold Uk;rw[Bool.and_eq_true,decide_eq_true_iff,decide_eq_true_iff];first|(have:=of_decide_eq_false Q;omega)|(have:=of_decide_eq_false W;omega)
     refine au 0x67f ?_
     refine Zf (b:=H) (off:=0) (j:=0) (M:=(Value.cells<|BE p (some ⟨s,t,none⟩) E D F cP cT cS cG U (some ⟨A,z,none⟩) cU).toList) (v:=Xf p (some ⟨s,t,none⟩) E D F cP cT cS cG) I kk I mm nb isAgg57 sizeOf57 (rdEsPr _ _ _ _ _ _ _ _ _ _ _ _) (.inl I) dd ?_
     refine au 0x38f87f8 ?_
     refine au 0x77f ?_
     refine ldY EM ?_
     refine yp I (.build [(_,_),(_,_)] I<|K2 _ _) ?_
     refine DK I kk Py (u:=(((Za p.m.T).getD i ed0).a,((Za p.m.T).getD i ed0).b)) (m:=iK p.m.S p.m.S.length) I I mm dd ?_
     refine Yy I kk (vs:=[_,_]) I call132 (jD p _ _ _ _ _ _ _ _ (KG p ((Za p.m.T).getD i ed0)) oo) (by exact hsA) dd ?_
     refine au 0x7e7e8 ?_
     refine yz I EC fun n3=>stV I I I Zi ?_
     refine au 0x31a3e ?_
     refine zp (.fA I HS)<|ldZ J3 ?_
     refine au 0x220f ?_;intro a w h
     refine Zb h I (fun N=>?_) (fun N=>?_)
     ·have c5:(Kv p.G (KG p ((Za p.m.T).getD i ed0))).1.fix=false:=by have:=N;simpa using this
      obtain ⟨h0,e6⟩:=RZ K (KG p ((Za p.m.T).getD i ed0))
      replace h:=h.derive (R:=Row (Kv p.G (KG p ((Za p.m.T).getD i ed0))).1.x.a (cellsOf Zz (Kv p.G (KG p ((Za p.m.T).getD i ed0))).1.x.l)) (fun X hX=>(KW (KG p ((Za p.m.T).getD i ed0)) (hX (Yi (Qu p.G)) (by repeat(first|exact List.Mem.head _|apply List.Mem.tail)))).1)
      replace h:=h.derive (R:=Row (Kv p.G (KG p ((Za p.m.T).getD i ed0))).1.y.a (cellsOf Zz (Kv p.G (KG p ((Za p.m.T).getD i ed0))).1.y.l)) (fun X hX=>(KW (KG p ((Za p.m.T).getD i ed0)) (hX (Yi (Qu p.G)) (by repeat(first|exact List.Mem.head _|apply List.Mem.tail)))).2)
      refine gC h<|yE [0,1,2,4,5,6,7,8,9,3,10,11,12] ?_;clear h
      obtain ⟨tm,e4⟩:=Int.eq_ofNat_of_zero_le (show 0≤max ((Za p.m.T).getD i ed0).l ((Za p.m.T).getD i ed0).r by omega)
      have b3:tm<p.m.T.length:=oo
      have e1:Ctr prog 131 [.int .i64 (max ((Za p.m.T).getD i ed0).l ((Za p.m.T).getD i ed0).r),.pointer (some ⟨C,0,none⟩),.pointer (some ⟨H,0,none⟩)] [Row (some ⟨C,0,none⟩) [.func (.func 130) #[] #[.pointer (some ⟨B,0,none⟩)]],Row (some ⟨H,0,none⟩) (Value.cells (BE p (some ⟨s,t,none⟩) E D F cP cT cS cG U (some ⟨A,z,none⟩) cU)).toList,Row (some ⟨B,0,none⟩) (Value.cells (encPt (Vh (p.m.P.getD ((Za p.m.T).getD i ed0).b (0,0)) (p.m.P.getD ((Za p.m.T).getD i ed0).a (0,0))))).toList,Row (some ⟨A,z,none⟩) (List.map Ys U),Yi (U.map Yo)] (fun v Ψ => ∃ad c,v=.slice ad (OD p V (dE p ((Za p.m.T).getD i ed0)) tm).length c∧Ψ=[Row ad (cellsOf Zz (OD p V (dE p ((Za p.m.T).getD i ed0)) tm))]):=by rw[e4];exact aK p _ _ _ _ _ _ _ _ V U _ cU tm (dE p ((Za p.m.T).getD i ed0)) B 0 C 0 H 0 K hU b3 L
      refine Zf (b:=C) (off:=0) (j:=0) (M:=[.func (.func 130) #[] #[.pointer (some ⟨B,0,none⟩)]]) (v:=.func (.func 130) #[] #[.pointer (some ⟨B,0,none⟩)]) I kk I mm (Nat.succ_pos _) isAgg215 sizeOf215 I (.inr I) dd ?_
      refine yp I (.fA I DU)<|ldY Bp ?_
      refine au 0x8 ?_
      refine yp I (.fA I Cy)<|ldY CY ?_
      refine yp I (.fA I Ak)<|ldY CX ?_
      refine yp I (.builtin [_,_] I (fun w ty cs=>mG _ _ w ty cs)) ?_
      refine AZ I kk (fs:=[]) (cs:=[.pointer (some ⟨B,0,none⟩)]) I (vs:=[_]) I call130 (ju (Kv p.G<|KG p ((Za p.m.T).getD i ed0)).1.x.l (Kv p.G<|KG p ((Za p.m.T).getD i ed0)).1.y.l _ _ _ _ (dE p ((Za p.m.T).getD i ed0)) B 0 4 1000 h0 e6 dd L dd) (by exact hsA) dd ?_;rintro v105 j1 ⟨i7,l4,rfl,rfl⟩
      refine AZ I kk (fs:=[]) (cs:=[.pointer (some ⟨C,0,none⟩),.pointer (some ⟨H,0,none⟩)]) I (vs:=[_]) I call131 (e1) (by exact hsA) dd ?_;rintro k7 j8 ⟨j6,k5,rfl,rfl⟩
      refine Zs I kk (vs:=[_,_]) I call125 (JB (VD (Kv p.G<|KG p ((Za p.m.T).getD i ed0)).1.x.l (Kv p.G<|KG p ((Za p.m.T).getD i ed0)).1.y.l<|dE p ((Za p.m.T).getD i ed0)) (OD p V (dE p ((Za p.m.T).getD i ed0)) tm) _ _ _ _ 4 2 2027 29019 (VC h0 e6 dd L) (KV K L b3) dd dd dd dd) (by exact hsA) dd ?_;rintro l7 i1 ⟨c3,h4,rfl,rfl⟩
      refine au 0xa3e ?_;intro a w h
      have a7:JL p V ((Za p.m.T).getD i ed0)=norm (VD (Kv p.G (KG p ((Za p.m.T).getD i ed0))).1.x.l (Kv p.G (KG p ((Za p.m.T).getD i ed0))).1.y.l (dE p ((Za p.m.T).getD i ed0))++Qc ((-1:Int):Rat) (OD p V (dE p ((Za p.m.T).getD i ed0)) tm)):=by unfold JL;rw[if_neg h8,if_neg (by rw[c5];decide),e4,Int.toNat_natCast]
      exact⟨c3,h4,by rw[a7];exact tO h⟩
     ·have c5:(Kv p.G (KG p ((Za p.m.T).getD i ed0))).1.fix=true:=by have:=N;simpa using this
      refine wp_skip ?_
      have a7:JL p V ((Za p.m.T).getD i ed0)=[]:=by unfold JL;rw[if_neg h8,if_pos c5]
      exact⟨none,0,by rw[a7];exact tO h⟩
   ·clear h
    rintro a w ⟨aJ,cJ,h⟩
    refine gC h<|yE [0,1,2,4,6,3,5,7,8,9,10]<|au 0x10f888 ?_;clear h
    refine au 0x10f ?_
    refine Zs I kk (vs:=[_]) I call127 (C_esq (JL p V ((Za p.m.T).getD i ed0)) _ _ 4 60000 e2 dd dd) (by exact hsA) dd ?_;rintro v117 j5 ⟨j0,k9,rfl,rfl⟩
    refine au 0x5af5af ?_
    refine Yy I kk (vs:=[_,_,_]) I call133 (C_Seg (norm<|Yx (JL p V ((Za p.m.T).getD i ed0))<|JL p V ((Za p.m.T).getD i ed0)) _ _ 8 120000 4 (e2.mul e2 dd) dd _ _ e0 c4 dd dd dd) (by exact hsA) dd ?_
    refine au 0xd2f ?_
    refine Vq (b:=a1) (cs:=(cellsOf Qe O).toArray) (cs':=(cellsOf Qe<|O.set i<|V1 (norm<|Yx (JL p V ((Za p.m.T).getD i ed0))<|JL p V ((Za p.m.T).getD i ed0)) (p.m.P.getD ((Za p.m.T).getD i ed0).a (0,0))<|p.m.P.getD ((Za p.m.T).getD i ed0).b (0,0)).toArray) (v:=Qe<|V1 (norm<|Yx (JL p V ((Za p.m.T).getD i ed0))<|JL p V ((Za p.m.T).getD i ed0)) (p.m.P.getD ((Za p.m.T).getD i ed0).a (0,0))<|p.m.P.getD ((Za p.m.T).getD i ed0).b (0,0)) I kk I I (AU (k:=5) (fun _=>rfl) O i oo<|V1 (norm<|Yx (JL p V ((Za p.m.T).getD i ed0))<|JL p V ((Za p.m.T).getD i ed0)) (p.m.P.getD ((Za p.m.T).getD i ed0).a (0,0))<|p.m.P.getD ((Za p.m.T).getD i ed0).b (0,0)) uu sizeOf51 I (CB (k:=5) (fun _=>rfl) O i oo) I ?_
    refine yn<|zr<|zp (.pN (i+1)<|.add I I)<|au 0x24 ?_;intro a w h
    exact⟨i+1,⟨oo,_,⟨by rw[List.length_set];exact e7,de (g:=fun k=>BX p V ((Za p.m.T).getD k ed0)) oo e5 I⟩,by exact tO h⟩,oo⟩
  ·have b9:(Za p.m.T).length=i:=dF b0
   subst b9
   have i6:=df e7 e5
   subst i6
   refine gC h<|au 0x4310e ?_;clear h;intro a w h
   replace h:=h.shareAll hS (cellsOf Qe ((((Za p.m.T).map (BX p V))))) I
   refine gL h<|au 0x625 ?_;clear h;intro a w h
   refine Qn (Ψ:=[Row (some ⟨a1,0,none⟩) (cellsOf Qe ((Za p.m.T).map<|BX p V))]) h (Ze h I<|.tmp I) ?_ ss
   exact⟨some ⟨a1,0,none⟩,rfl,rfl⟩
end
section
def WO(e:Ed)(t:Nat): Nat:=(if e.l=(t:Int) then 1 else 0)+(if e.r=(t:Int) then 1 else 0)
def GP:List Ed→Nat→Nat
 | [],_=>0
 | e::l,t=>WO e t+GP l t
theorem fJ{l k:List Ed}(h:l.Perm k)(t:Nat): GP l t=GP k t:=by
 induction h with
 | nil=>rfl
 | cons x _ b=>simp only[GP,b]
 | swap x y l=>simp only[GP];omega
 | trans _ _ h1 a=>rw[h1,a]
theorem mw(m:List ((Nat×Nat)×Ed))(k:Nat×Nat)(y:Ed)(t:Nat): GP ((Kl m k y).map (·.2)) t+WO ((Zu m k).getD ⟨k.1,k.2, -1, -1⟩) t=GP (m.map (·.2)) t+WO y t:=by
 have b:WO (⟨k.1,k.2, -1, -1⟩:Ed) t=0:=by unfold WO;simp only;rw[if_neg (show ¬(-1:Int)=(t:Int) by omega)]
 induction m with
 | nil=>simp only[Kl,Zu,Option.getD_none,List.map_cons,List.map_nil,GP];omega
 | cons q m a =>
  by_cases e:q.1=k
  ·rw[Kl,if_pos e,Zu,if_pos e];simp only[List.map_cons,GP,Option.getD_some];omega
  ·rw[Kl,if_neg e,Zu,if_neg e];simp only[List.map_cons,GP];omega
theorem kK(t a b:Nat)(e:Ed)(s:Nat): WO (Vu t a b e) s≤WO e s+(if s=t then 1 else 0):=by
 unfold Vu
 split
 ·rename_i h
  unfold WO
  simp only[h.2]
  by_cases e:s=t
  ·subst e;simp;split<;>simp
  ·rw[if_neg (show ¬((t:Int)=(s:Int)) by omega)];omega
 ·split
  ·rename_i h
   unfold WO
   simp only[h.2]
   by_cases e:s=t
   ·subst e;simp
   ·rw[if_neg (show ¬((t:Int)=(s:Int)) by omega)];omega
  ·omega
theorem fH(t a b:Nat)(m:List ((Nat×Nat)×Ed))(s:Nat): GP ((Ec t a b m).map (·.2)) s≤GP (m.map (·.2)) s+(if s=t then 1 else 0):=by
 have h1:=mw m (Zo a b) (Vu t a b (Jv m (Zo a b))) s
 have c:=kK t a b (Jv m (Zo a b)) s
 unfold Ec
 unfold Jv at h1 c ⊢
 omega
theorem ZL(t:Nat)(c:Nat×Nat×Nat)(m:List ((Nat×Nat)×Ed))(s:Nat): ∀i,GP ((Hy t c i m).map (·.2)) s≤GP (m.map (·.2)) s+i*(if s=t then 1 else 0)
 | 0=>by rw[Hy];omega
 | i+1=>by
  rw[Hy]
  have h1:=ZL t c m s i
  have a:=fH t (crn c i) (crn c ((i+1)%3)) (Hy t c i m) s
  rw[Nat.add_mul];omega
theorem ZM(l:List (Nat×Nat×Nat))(s:Nat): ∀t,GP ((Ja l t).map (·.2)) s≤if s<t then 3 else 0
 | 0=>by rw[Ja];exact Nat.le_refl _
 | t+1=>by
  rw[Ja]
  have h1:=ZM l s t
  have a:=ZL t (l.getD t (0,0,0)) (Ja l t) s 3
  by_cases e:s=t
  ·subst e;simp only[Nat.lt_irrefl,if_false,if_true] at h1 a;rw[if_pos (Nat.lt_succ_self s)];omega
  ·rw[if_neg e] at a
   by_cases h:s<t
   ·rw[if_pos h] at h1;rw[if_pos oo];omega
   ·rw[if_neg h] at h1;rw[if_neg oo];omega
theorem ZN(l:List (Nat×Nat×Nat))(s:Nat): GP (Za l) s≤3:=by
 unfold Za
 rw[fJ (Vz _) s]
 have:=ZM l s l.length
 split at this<;>omega
theorem ZO(l k:List Ed)(t:Nat): GP (l++k) t=GP l t+GP k t:=by
 induction l with
 | nil=>simp[GP]
 | cons e l a=>simp only[List.cons_append,GP,a];omega
theorem fG(l:List Ed)(t i:Nat)(h:i<l.length): GP (l.take (i+1)) t=GP (l.take i) t+WO (l.getD i ed0) t:=by
 rw[show l.take (i+1)=l.take i++[l.getD i ed0] from by rw[List.take_add_one];simp[List.getD,h],ZO];simp[GP]
theorem P7(l:List Ed)(t i:Nat): GP (l.take i) t≤GP l t:=by
 have:=ZO (l.take i) (l.drop i) t
 rw[List.take_append_drop] at this
 omega
def GE(O:List Rat)(n N:Nat)(f:Nat→Nat): Prop:=O.length=N ∧ ∀k,k<n→0≤O.getD k 0∧Zn (O.getD k 0)≤f k
theorem GE.nil(N:Nat)(f:Nat→Nat): GE (List.replicate N 0) 0 N f:=⟨List.length_replicate,fun _ h=>absurd h (Nat.not_lt_zero _)⟩
theorem getD_set{O:List Rat}{i k:Nat}{x:Rat}(a:i<O.length): (O.set i x).getD k 0=if k=i then x else O.getD k 0:=by
 by_cases e:k=i
 ·rw[if_pos e,e];simp[List.getD,a]
 ·rw[if_neg e];simp only[List.getD];rw[List.getElem?_set_ne (fun x=>e x.symm)]
theorem GE.put{O:List Rat}{i N c:Nat}{x:Rat}(h:GE O i N (fun _=>c))(a:i<N)(b:0≤x)(h1:Zn x≤c): GE (O.set i x) (i+1) N (fun _=>c):=by
 refine⟨by rw[List.length_set];exact h.1,fun k hk=>?_⟩
 rw[getD_set (by rw[h.1];exact a)]
 split
 ·exact⟨b,h1⟩
 ·exact h.2 k oo
theorem GE.mono{O:List Rat}{n N:Nat}{f g:Nat→Nat}(h:GE O n N f)(hf:∀k,f k≤g k): GE O n N g:=⟨h.1,fun k hk=>⟨(h.2 k hk).1,Nat.le_trans (h.2 k hk).2 (hf k)⟩⟩
theorem GE.add{O:List Rat}{i N B:Nat}{f:Nat→Nat}{q:Rat}{x:Int}(h:GE O N N f)(a:i<N)(hx:x=(i:Int))(c:0≤q)(h1:Zn q+1≤B): GE (O.set i (O.getD i 0+q)) N N (fun k=>f k+B*(if x=(k:Int) then 1 else 0)):=by
 refine⟨by rw[List.length_set];exact h.1,fun k hk=>?_⟩
 rw[getD_set (by rw[h.1];exact a)]
 obtain ⟨b,a2⟩:=h.2 i a
 split
 ·rename_i e
  show _∧_≤f k+B*(if x=(k:Int) then 1 else 0)
  rw[e,if_pos hx]
  have:=Xj (O.getD i 0) q
  exact⟨Rat.add_nonneg b c,oo⟩
 ·exact⟨(h.2 k hk).1,Nat.le_trans (h.2 k hk).2 (Nat.le_add_right _ _)⟩
theorem GE.skip{O:List Rat}{N B:Nat}{f:Nat→Nat}{x:Int}(h:GE O N N f): GE O N N (fun k=>f k+B*(if x=(k:Int) then 1 else 0)):=h.mono fun _=>Nat.le_add_right _ _
def etF(E:List Ed)(i k:Nat): Nat:=7000000+11000000*GP (E.take i) k
theorem Mc(E:List Ed){i:Nat}(h:i<E.length)(k:Nat): etF E i k+11000000*(if (E.getD i ed0).l=(k:Int) then 1 else 0)+11000000*(if (E.getD i ed0).r=(k:Int) then 1 else 0)=etF E (i+1) k:=by
 unfold etF;rw[fG E k i h];unfold WO;omega
theorem Sk(l:List (Nat×Nat×Nat))(i k:Nat): etF (Za l) i k≤40000000:=by
 have:=ZN l k
 have:=P7 (Za l) k i
 unfold etF;omega
theorem sq_ev(r:List Tm)(x y:Rat): evP (norm (Yx r r)) x y=evP r x y*evP r x y:=by rw[ev_nrm,Eu]
theorem Nr{l:List Rat}(h:∀x∈l,0≤x): ∀i,i≤l.length→0≤mxL l i
 | 0,_=>by rw[mxL];exact Rat.le_refl
 | i+1,a=>by
  rw[mxL];split
  ·exact h _ (getD_mem l oo)
  ·exact Nr h i oo
theorem Uf(a:Pt): 0≤bU a a:=by
 have h1:=Dy a.1
 have b:=Dy a.2
 show 0≤a.1*a.1+a.2*a.2
 exact Rat.add_nonneg h1 b
theorem lj{a b c:Pt}(ha:PtK 4 a)(d:PtK 4 b)(hc:PtK 4 c): 0≤mxL (F8 a b c) 3∧Zn (mxL (F8 a b c) 3)≤42:=by
 have s1:=GB ha d
 have s2:=GB d hc
 have e:=GB hc ha
 constructor
 ·refine Nr (fun x hx=>?_) 3<|Nat.le_refl 3
  simp only[F8,List.mem_cons,List.not_mem_nil,or_false] at hx
  rcases hx with rfl|rfl|rfl<;>exact Uf _
 ·refine WR (fun x hx=>?_) dd 3<|Nat.le_refl 3
  simp only[F8,List.mem_cons,List.not_mem_nil,or_false] at hx
  rcases hx with rfl|rfl|rfl<;>omega
theorem inn_ok{p:Pr}{V:List Rat}(a:EsV p V){t:Nat}(ht:t<p.m.T.length): 0≤YF p V t∧Zn (YF p V t)≤6800000:=by
 have hm:=getD_mem p.m.T (d:=(0,0,0)) ht
 have hr:=iD a hm
 obtain ⟨k1,k2,k3⟩:=a.pv.m.tri hm
 have c:=a.pv.m.pos _ hm
 rw[twP_eq] at c
 have b:0<twQ (cr1 p.m t) (cr2 p.m t) (cr3 p.m t):=(Ag _).1 (by rw[c];decide)
 constructor
 ·unfold YF
  exact tri_sq (sq_ev _) (fun s hs=>hr.deg s hs) b
 ·have:=XN (hr.mul hr dd) dd k1 k2 k3
  have e:KS (4+4) (37300+37300) (2*4+1)≤3369061:=by decide
  unfold YF
  exact Nat.le_trans this oo
theorem lr{p:Pr}{V:List Rat}(c:EsV p V){e:Ed}(he:EdOk p.m.P.length p.m.T.length (e.a,e.b) e): 0≤BX p V e∧Zn (BX p V e)≤10900000:=by
 have hj:=iQ c he
 have h1:=he.lt;have d:=he.n
 simp only at h1 d
 have f:=c.pv.m.ptK (show e.a<p.m.P.length by omega)
 have g:=c.pv.m.ptK d
 constructor
 ·unfold BX
  exact seg_sq (sq_ev _) (fun s hs=>hj.deg s hs) _ _
 ·have:=XP (hj.mul hj dd) dd f g dd
  have e:KS (4+4) (60000+60000) (2*4+1)≤5412061:=by decide
  unfold BX
  exact Nat.le_trans this oo
theorem mul_ok{x y:Rat}(hx:0≤x)(a:0≤y): 0≤x*y:=Rat.mul_nonneg hx a
end
section
theorem jm_at{E:List Ed}{f:Ed→Rat}{i:Nat}(h:i<E.length): (E.map f).getD i 0=f (E.getD i ed0):=by simp[List.getD,h]
theorem PtK.wide{a:Pt}(h:PtK 4 a): PtK 100000 a:=⟨Nat.le_trans h.1 dd,Nat.le_trans h.2 dd⟩
theorem GE.at{O:List Rat}{N i:Nat}{f:Nat→Nat}{c:Nat}(h:GE O N N f)(a:i<N)(hc:f i≤c): Zn (O.getD i 0)≤c:=Nat.le_trans (h.2 i a).2 hc
theorem lI{q:Rat}(a:0≤q)(h1:Zn q≤10900000): 0≤q*Ab∧Zn (q*Ab)+1≤11000000:=by
 have:=Qh q Ab
 have:=GF
 exact⟨Rat.mul_nonneg a kD,oo⟩
def EtaOk(n:Nat)(O:List Rat): Prop:=O.length=n ∧ ∀x∈O,0≤x∧Zn x≤50000000
theorem GE.done{O:List Rat}{N n:Nat}{f:Nat→Nat}(h:GE O N N f)(b:N=n)(hf:∀k,f k≤40000000): EtaOk n O:=by
 subst b
 refine⟨h.1,fun x hx=>?_⟩
 obtain ⟨i,a,rfl⟩:=List.mem_iff_getElem.1 hx
 have:=h.2 i (by rw[←h.1];exact a)
 rw[show O.getD i 0=O[i] from by simp[List.getD,a]] at this
 exact⟨this.1,Nat.le_trans this.2 (Nat.le_trans (hf i) dd)⟩
theorem C_eEta(p:Pr)(u s y H:Option Addr)(cP cT cS cG:Nat)(V:List Rat)(aV:Option Addr)(cV:Nat)(J:EsV p V): Ctr prog 25 [Xf p u s y H cP cT cS cG,Fo p.m p.o V u s y cP cT cS aV cV] [Row u (cellsOf encPt p.m.P),Row s (cellsOf Zd p.m.T),Row y (cellsOf Zd p.m.S),Row p.f.a (cellsOf Zz p.f.l),Row H (cellsOf Jg p.G),Yi (Qu p.G),Row aV (cellsOf Qe V),SideF] (fun v Ψ => ∃(O:List Rat) (ad:Option Addr),EtaOk p.m.T.length O∧v=.tuple #[.slice ad O.length O.length,.int .i64 0]∧Ψ=[Row ad (cellsOf Qe O)]):=by
 have i6:=J.pv.m.nP
 have j0:=J.pv.m.nT
 have h9:=J.pv.m.nS
 have j2:=Gk p.m.T
 refine fnI func25 I ntmps25 fun S w0 hS=>zS (zx I fun b2=>zx I fun b3=>au 0x6efe31255 ?_)
 refine zF [_,_] call66 (ar p _ _ _ _ _ _ _ _ V _ cV J) ?_;rintro v22 e6 ⟨U,aU,cU,hU,rfl,rfl⟩
 have c6:U.length=p.m.T.length:=by have:=congrArg List.length hU;rw[List.length_map,List.length_map] at this;exact this
 refine au 0xbb4 ?_
 refine zz zeroValue147 fun b6=>stW I I BQ ?_
 refine au 0x317d2d0f431125 ?_
 refine zp (.fA I Fh)<|ldZ Lg ?_
 refine au 0xebf ?_;intro a w h
 refine Zc<|Je h I I runUnderlying58 typeInfo51 sizeOf51 Xl I dd oo (by show 56*((U).length)≤281474976710656;omega) oo dd ?_;clear h;intro q a w h;replace h:=h.same I (by rw[←B7 (enc:=Qe)]) I
 refine gL h<|au 0x924b8f431125 ?_;intro a w h
 refine lpG h [4,5,6,8,33] pkL (fun Y Z (t:Nat) a w=>t≤U.length ∧ ∃(O:List Rat),(GE O t U.length (fun _=>7000000))∧St 107 S w0 ((34,nI t)::Y) [(q,.cells (cellsOf Qe<|O).toArray 51 (0,0)),(b6,bV (BE p u s y H cP cT cS cG U aU cU) 147),(b3,bV (Fo p.m p.o V u s y cP cT cS aV cV) 61),(b2,bV (Xf p u s y H cP cT cS cG) 57)] Z a w) (fun t=>U.length-t) 0 (⟨Nat.zero_le _,List.replicate U.length 0,GE.nil _ _,by exact(h).sub sA⟩) ?_;clear h
 rintro t a w ⟨e2,O,hO,h⟩
 refine gC h<|au 0x12c31 ?_;intro a w h
 refine Zb h I (fun W=>?_) (fun W=>?_)
 ·have b1:t<U.length:=dT W
  have h5:=hO.1
  have C:t<p.m.T.length:=oo
  have c8:=getD_mem p.m.T (d:=(0,0,0)) C
  obtain ⟨e1,i1⟩:=inn_ok J C
  obtain ⟨b8,c3,b7⟩:=J.pv.m.tri c8
  obtain ⟨e0,h7⟩:=lj b8 c3 b7
  have h3:=Qh (mxL (F8 (pt p.m (p.m.T.getD t (0,0,0)).1) (pt p.m (p.m.T.getD t (0,0,0)).2.1) (pt p.m (p.m.T.getD t (0,0,0)).2.2)) 3) (YF p V t)
  refine gC h<|au 0x25431917 ?_
  refine yE [0,1,2,3,6,7,4,5,8,9,10,11]<|au 0x88 ?_
  refine ldY Ga ?_;clear h
  refine au 0x8 ?_
  refine ldY Ga ?_
  refine au 0x8 ?_
  refine Yy I kk (vs:=[_,_]) I call68 (G0 4 p _ _ _ _ _ _ _ _ U aU cU t C J.pv.m) (by exact hsA) dd ?_
  refine yv [_] I I call67 (Uw _ _ _ b8.wide c3.wide b7.wide) ?_
  refine Yy I kk (vs:=[_,_]) I call69 (gX p _ _ _ _ _ _ _ _ V U _ cU t J hU C) (by exact hsA) dd ?_
  refine au 0x92f ?_
  have e3:=Qh (mxL (F8 (pt p.m (p.m.T.getD t (0,0,0)).1) (pt p.m (p.m.T.getD t (0,0,0)).2.1) (pt p.m (p.m.T.getD t (0,0,0)).2.2)) 3) (YF p V t)
  refine au 0xd2f ?_
  refine Vq (b:=q) (cs:=(cellsOf Qe O).toArray) (cs':=(cellsOf Qe<|O.set t (mxL (F8 (pt p.m (p.m.T.getD t (0,0,0)).1) (pt p.m (p.m.T.getD t (0,0,0)).2.1)<|pt p.m (p.m.T.getD t (0,0,0)).2.2) 3*YF p V t)).toArray) (v:=Qe (mxL (F8 (pt p.m (p.m.T.getD t (0,0,0)).1) (pt p.m (p.m.T.getD t (0,0,0)).2.1)<|pt p.m (p.m.T.getD t (0,0,0)).2.2) 3*YF p V t)) I kk I I (AU (k:=5) (fun _=>rfl) O t oo (mxL (F8 (pt p.m (p.m.T.getD t (0,0,0)).1) (pt p.m (p.m.T.getD t (0,0,0)).2.1)<|pt p.m (p.m.T.getD t (0,0,0)).2.2) 3*YF p V t)) uu sizeOf51 I (CB (k:=5) (fun _=>rfl) O t oo) I ?_
  refine yn<|zr<|zp (.pN (t+1)<|.add I I)<|au 0x24 ?_;intro a w h
  exact⟨t+1,⟨oo,_,hO.put b1 (mul_ok e0 e1) oo,by exact tO h⟩,oo⟩
 ·have b0:U.length=t:=dF W
  subst b0
  refine gC h<|au 0x05f310e ?_
  have h2:=Ks (1) (2) oo oo oo oo
  refine au 0xbb4 ?_
  refine zz Xl fun c7=>stW I I Zi ?_
  refine za I<|zn<|zS<|zp (.fA I HQ)<|au 0xa4f ?_
  refine ldZ Na ?_
  refine zF [_] call40 (H3 4 p.m _ _ _ _ _ _ J.pv.m) ?_;rintro h6 h0 ⟨aE,rfl,rfl⟩
  refine au 0x31125 ?_
  refine ldZ Ga ?_
  refine zm I<|zF [_,_] call70 (gW p _ _ _ _ _ _ _ _ V U _ cU _ _ J hU) ?_;rintro v59 e9 ⟨aJ,rfl,rfl⟩
  refine au 0x924b8f ?_;intro a w h
  refine lpG h [4,5,6,8,10,12,33,34,59,60] pkL (fun Z E (i:Nat) a w=>i≤(Za p.m.T).length ∧ ∃(Y:List Rat),(GE Y U.length U.length<|etF (Za p.m.T) i)∧St 107 S w0 ((61,nI i)::Z) [(c7,bV (Qe<|Ab) 51),(q,.cells (cellsOf Qe<|Y).toArray 51 (0,0)),(b6,bV (BE p u s y H cP cT cS cG U aU cU) 147),(b3,bV (Fo p.m p.o V u s y cP cT cS aV cV) 61),(b2,bV (Xf p u s y H cP cT cS cG) 57)] E a w) (fun i=>(Za p.m.T).length-i) 0 (⟨Nat.zero_le _,O,hO.mono (fun k=>by unfold etF;omega),by exact(h).sub sA⟩) ?_;clear h
  rintro i a w ⟨e5,Y,X,h⟩
  refine gC h<|au 0x12c31 ?_;intro a w h
  refine Zb h I (fun L=>?_) (fun L=>?_)
  ·have n:i<(Za p.m.T).length:=dT L
   have h4:((Za p.m.T).map (BX p V)).length=(Za p.m.T).length:=List.length_map ..
   obtain ⟨a1,a6,rfl⟩:=h.row_addr (ad:=aE) (M:=cellsOf Qp (Za p.m.T)) mm (nE 4)
   obtain ⟨e8,e7,rfl⟩:=h.row_addr (ad:=aJ) (M:=cellsOf Qe (((Za p.m.T).map (BX p V)))) mm (nE 5)
   have h8:=X.1
   have j4:=GF
   have F:=Fp J.pv.m.num _ (getD_mem (Za p.m.T) (d:=ed0) n)
   obtain ⟨a7,c9⟩:=lr J F
   have l0:=F.l0;have l1:=F.l1;have r0:=F.r0;have r1:=F.r1;have hs:=F.has
   have b5:Zn (BX p V ((Za p.m.T).getD i ed0))+1≤11000000:=oo
   have hH:=lI a7 c9
   refine gC h<|au 0x9bf431917 ?_
   refine zD I mm (cells_lt (k:=5) dd (fun _=>rfl) (((Za p.m.T).map<|BX p V)) i oo) isAgg51 sizeOf51 (Zg (k:=5) (fun _=>rfl) ((fun _=>rfl)) (((Za p.m.T).map<|BX p V)) 0 i oo) (.inl I) ?_;clear h;intro a w h
   rw[jm_at (f:=BX p V) n] at h
   refine gL h (zz Xl fun j1=>za I<|stW I I Zi ?_)
   refine zn<|zs<|yE [0,1,2,3,4,5,6,7,8,9,10,11]<|au 0x88 ?_
   refine yp I (.indexAddr I I<|YE _ _ _ _ _ oo)<|yp I (Pure1.cast (v':=.pointer<|some ⟨a1,a6+(i*4+2),none⟩) (.fA I Cy) (by rw[Nat.add_assoc])) ?_;clear h
   refine Zf I kk I mm (D3 (k:=4) (enc:=Qp) (fun _=>rfl) (Za p.m.T) i 2 oo dd) isAgg3 sizeOf3 (Vw (k:=4) (enc:=Qp) (fun _=>rfl) (Za p.m.T) ed0 i oo false 1 2 _ dd dd I) (.inr I) dd ?_
   refine au 0x88 ?_
   refine yp I (.indexAddr I I<|YE _ _ _ _ _ oo)<|yp I (Pure1.cast (v':=.pointer<|some ⟨a1,a6+(i*4+3),none⟩) (.fA I Ak) (by rw[Nat.add_assoc])) ?_
   refine Zf I kk I mm (D3 (k:=4) (enc:=Qp) (fun _=>rfl) (Za p.m.T) i 3 oo dd) isAgg3 sizeOf3 (Vw (k:=4) (enc:=Qp) (fun _=>rfl) (Za p.m.T) ed0 i oo false 1 3 _ dd dd I) (.inr I) dd ?_
   refine au 0x40f4311a3e3e ?_;intro a w h
   refine Zh h (fun D h=>?_) (fun D h=>?_)
   ·obtain ⟨g,b4⟩:=Int.eq_ofNat_of_zero_le (show 0≤((Za p.m.T).getD i ed0).l by exact of_decide_eq_true D)
    have c4:(Value.cells (Qp ((Za p.m.T).getD i ed0)))[2]' nb=.int .i64 ((g:Nat):Int):=by rw[←b4];rfl
    rw[c4] at h
    have Q:g<U.length:=oo
    have j3:=X.at Q (Sk p.m.T i g)
    refine gL h<|zm I<|zq 78 I I (.move I)<|zq 78 I I (.geq I I) ?_;clear h;intro a w h
    refine Zh h (fun R h=>?_) (fun R h=>?_)
    ·obtain ⟨j,K⟩:=Int.eq_ofNat_of_zero_le (show 0≤((Za p.m.T).getD i ed0).r by exact of_decide_eq_true R)
     have N:(Value.cells (Qp ((Za p.m.T).getD i ed0)))[3]' nb=.int .i64 ((j:Nat):Int):=by rw[←K];rfl
     rw[N] at h
     have z:j<U.length:=oo
     have hA:=X.add Q b4 hH.1 hH.2
     have c5:=hA.at (c:=51000000) z (by have:=Sk p.m.T i j;show etF (Za p.m.T) i j+11000000*(if ((Za p.m.T).getD i ed0).l=(j:Int) then 1 else 0)≤_;split<;>omega)
     have i7:=hA.1
     refine gL h<|au 0xb9f6e6e31e22e ?_
     have e4:=Qh (BX p V ((Za p.m.T).getD i ed0)) (Ab)
     refine stW I I Zi ?_
     refine au 0x44312 ?_
     refine zB [(_,_),(_,_)] I (Jy _ _) fun b9=>?_;clear h;intro a w h
     replace h:=h.shareAll hS (List.map Qi ([g,j])) I
     refine gL h<|au 0x92401f ?_
     refine lpR 3<|rdS<|au 0x68f319171e129e31 ?_
     refine zD I mm (by rw[List.length_map];first|omega|simp) isAgg3 sizeOf3 (Zr (enc:=Qi) (l:=([g,j])) 0 (by first|omega|simp)) (.inr I) ?_;clear h;intro a w h
     rw[show([g,j]:List Nat).getD 0 0=g from rfl] at h
     refine gL h<|au 0x240f43125 ?_
     refine kU I (fun e=>(by exfalso;have:=of_decide_eq_false e;omega)) fun e=>yE [0,1,2,3,4,5,6,7,8,9]<|au 0xd2f8888 ?_
     refine yd I I mm isAgg51 sizeOf51 (Ck (k:=5) (fun _=>rfl) ((fun _=>rfl)) Y 0 g oo) ?_;clear h
     refine au 0xbe ?_
     refine au 0x54f ?_
     have A:=Xj (Y.getD g 0) (BX p V ((Za p.m.T).getD i ed0)*Ab)
     refine au 0xd2f ?_
     refine Vq (b:=q) (cs:=(cellsOf Qe Y).toArray) (cs':=(cellsOf Qe<|Y.set g ((Y.getD g 0)+(BX p V ((Za p.m.T).getD i ed0)*Ab))).toArray) (v:=Qe ((Y.getD g 0)+(BX p V ((Za p.m.T).getD i ed0)*Ab))) I kk I I (AU (k:=5) (fun _=>rfl) Y g oo ((Y.getD g 0)+(BX p V ((Za p.m.T).getD i ed0)*Ab))) uu sizeOf51 I (CB (k:=5) (fun _=>rfl) Y g oo) I ?_
     refine au 0x24e2f3a ?_;intro a w h
     replace h:=kQ h [4,5,6,8,10,12,14,33,34,59,60,61,87,88,89,90,94] pkL
     refine Zm ?_
     refine gC h<|au 0x68f319171e129e31 ?_
     refine zD I mm (by rw[List.length_map];first|omega|simp) isAgg3 sizeOf3 (Zr (enc:=Qi) (l:=([g,j])) 0 (by first|omega|simp)) (.inr I) ?_;clear h;intro a w h
     rw[show([g,j]:List Nat).getD 1 0=j from rfl] at h
     refine gL h<|au 0x240f43125 ?_
     refine kU I (fun e=>(by exfalso;have:=of_decide_eq_false e;omega)) fun e=>yE [0,1,2,3,4,5,6,7,8,9]<|au 0xd2f8888 ?_
     refine yd I I mm isAgg51 sizeOf51 (Ck (k:=5) (fun _=>rfl) ((fun _=>rfl)) (Y.set g ((Y.getD g 0)+(BX p V ((Za p.m.T).getD i ed0)*Ab))) 0 j oo) ?_;clear h
     refine au 0xbe ?_
     refine au 0x54f ?_
     have A:=Xj ((Y.set g ((Y.getD g 0)+(BX p V ((Za p.m.T).getD i ed0)*Ab))).getD j 0) (BX p V ((Za p.m.T).getD i ed0)*Ab)
     refine au 0xd2f ?_
     refine Vq (b:=q) (cs:=(cellsOf Qe<|Y.set g ((Y.getD g 0)+(BX p V ((Za p.m.T).getD i ed0)*Ab))).toArray) (cs':=(cellsOf Qe ((Y.set g ((Y.getD g 0)+(BX p V ((Za p.m.T).getD i ed0)*Ab))).set j (((Y.set g ((Y.getD g 0)+(BX p V ((Za p.m.T).getD i ed0)*Ab))).getD j 0)+(BX p V ((Za p.m.T).getD i ed0)*Ab)))).toArray) (v:=Qe (((Y.set g ((Y.getD g 0)+(BX p V ((Za p.m.T).getD i ed0)*Ab))).getD j 0)+(BX p V ((Za p.m.T).getD i ed0)*Ab))) I kk I I (AU (k:=5) (fun _=>rfl) (Y.set g ((Y.getD g 0)+(BX p V ((Za p.m.T).getD i ed0)*Ab))) j oo (((Y.set g ((Y.getD g 0)+(BX p V ((Za p.m.T).getD i ed0)*Ab))).getD j 0)+(BX p V ((Za p.m.T).getD i ed0)*Ab))) uu sizeOf51 I (CB (k:=5) (fun _=>rfl) (Y.set g ((Y.getD g 0)+(BX p V ((Za p.m.T).getD i ed0)*Ab))) j oo) I ?_
     refine au 0x2471f3a ?_;intro a w h
     replace h:=kQ h [4,5,6,8,10,12,14,33,34,59,60,61,87,88,89,90,94] pkL
     refine Zm ?_
     refine gC h<|au 0x30ed1241f31 ?_
     refine zp (.pN (i+1)<|.add I I)<|au 0x24 ?_;clear h;intro a w h
     exact⟨i+1,⟨oo,_,(hA.add z K hH.1 hH.2).mono (fun k=>Nat.le_of_eq (Mc (Za p.m.T) n k)),by exact tO h⟩,oo⟩
    ·refine gL h<|au 0x44317d22e ?_
     refine zB [(_,_),(_,_)] I (Jy _ _) fun b9=>?_;clear h;intro a w h
     replace h:=h.shareAll hS (List.map Hq ([((g:Nat):Int),((Za p.m.T).getD i ed0).r])) I
     refine gL h<|au 0x92401f ?_
     refine lpR 3<|rdS<|au 0x68f319171e129e31 ?_
     refine zD I mm (by rw[List.length_map];first|omega|simp) isAgg3 sizeOf3 (Zr (enc:=Hq) (l:=([((g:Nat):Int),((Za p.m.T).getD i ed0).r])) 0 (by first|omega|simp)) (.inr I) ?_;clear h;intro a w h
     rw[show([((g:Nat):Int),((Za p.m.T).getD i ed0).r]:List Int).getD 0 0=((g:Nat):Int) from rfl] at h
     refine gL h<|au 0x240f43125 ?_
     refine kU I (fun e=>(by exfalso;have:=of_decide_eq_false e;omega)) fun e=>yE [0,1,2,3,4,5,6,7,8,9]<|au 0xd2f8888 ?_
     refine yd I I mm isAgg51 sizeOf51 (Ck (k:=5) (fun _=>rfl) ((fun _=>rfl)) Y 0 g oo) ?_;clear h
     refine au 0xbe ?_
     refine au 0x54f ?_
     have A:=Xj (Y.getD g 0) (BX p V ((Za p.m.T).getD i ed0))
     refine au 0xd2f ?_
     refine Vq (b:=q) (cs:=(cellsOf Qe Y).toArray) (cs':=(cellsOf Qe<|Y.set g ((Y.getD g 0)+(BX p V ((Za p.m.T).getD i ed0)))).toArray) (v:=Qe ((Y.getD g 0)+(BX p V ((Za p.m.T).getD i ed0)))) I kk I I (AU (k:=5) (fun _=>rfl) Y g oo ((Y.getD g 0)+(BX p V ((Za p.m.T).getD i ed0)))) uu sizeOf51 I (CB (k:=5) (fun _=>rfl) Y g oo) I ?_
     refine au 0x24e2f3a ?_;intro a w h
     replace h:=kQ h [4,5,6,8,10,12,14,33,34,59,60,61,87,88,89,90,94] pkL
     refine Zm ?_
     refine gC h<|au 0x68f319171e129e31 ?_
     refine zD I mm (by rw[List.length_map];first|omega|simp) isAgg3 sizeOf3 (Zr (enc:=Hq) (l:=([((g:Nat):Int),((Za p.m.T).getD i ed0).r])) 0 (by first|omega|simp)) (.inr I) ?_;clear h;intro a w h
     rw[show([((g:Nat):Int),((Za p.m.T).getD i ed0).r]:List Int).getD 1 0=((Za p.m.T).getD i ed0).r from rfl] at h
     refine gL h<|au 0x240f43125 ?_
     refine kV I (fun e=>(by exfalso;have:=e;rw[R] at this;cases this)) fun e=>au 0x2471f37 ?_;clear h;intro a w h
     replace h:=kQ h [4,5,6,8,10,12,14,33,34,59,60,61,87,88,89,90,94] pkL
     refine Zm ?_
     refine gC h<|au 0x30ed1241f31 ?_
     refine zp (.pN (i+1)<|.add I I)<|au 0x24 ?_;clear h;intro a w h
     exact⟨i+1,⟨oo,_,((X.add Q b4 a7 b5).skip (B:=11000000) (x:=((Za p.m.T).getD i ed0).r)).mono (fun k=>Nat.le_of_eq (Mc (Za p.m.T) n k)),by exact tO h⟩,oo⟩
   ·obtain ⟨j,K⟩:=Int.eq_ofNat_of_zero_le (show 0≤((Za p.m.T).getD i ed0).r by have:=of_decide_eq_false D;omega)
    have N:(Value.cells (Qp ((Za p.m.T).getD i ed0)))[3]' nb=.int .i64 ((j:Nat):Int):=by rw[←K];rfl
    rw[N] at h
    have z:j<U.length:=oo
    have c5:=X.at z (Sk p.m.T i j)
    refine gL h<|zm I<|zo 78 I I I<|zo 78 I I I<|au 0x44317d24e ?_
    refine zB [(_,_),(_,_)] I (Jy _ _) fun b9=>?_;clear h;intro a w h
    replace h:=h.shareAll hS (List.map Hq ([((Za p.m.T).getD i ed0).l,((j:Nat):Int)])) I
    refine gL h<|au 0x92401f ?_
    refine lpR 3<|rdS<|au 0x68f319171e129e31 ?_
    refine zD I mm (by rw[List.length_map];first|omega|simp) isAgg3 sizeOf3 (Zr (enc:=Hq) (l:=([((Za p.m.T).getD i ed0).l,((j:Nat):Int)])) 0 (by first|omega|simp)) (.inr I) ?_;clear h;intro a w h
    rw[show([((Za p.m.T).getD i ed0).l,((j:Nat):Int)]:List Int).getD 0 0=((Za p.m.T).getD i ed0).l from rfl] at h
    refine gL h<|au 0x240f43125 ?_
    refine kV I (fun e=>(by exfalso;have:=e;rw[D] at this;cases this)) fun e=>au 0x24e2f37 ?_;clear h;intro a w h
    replace h:=kQ h [4,5,6,8,10,12,14,33,34,59,60,61,87,88,89,90,94] pkL
    refine Zm ?_
    refine gC h<|au 0x68f319171e129e31 ?_
    refine zD I mm (by rw[List.length_map];first|omega|simp) isAgg3 sizeOf3 (Zr (enc:=Hq) (l:=([((Za p.m.T).getD i ed0).l,((j:Nat):Int)])) 0 (by first|omega|simp)) (.inr I) ?_;clear h;intro a w h
    rw[show([((Za p.m.T).getD i ed0).l,((j:Nat):Int)]:List Int).getD 1 0=((j:Nat):Int) from rfl] at h
    refine gL h<|au 0x240f43125 ?_
    refine kU I (fun e=>(by exfalso;have:=of_decide_eq_false e;omega)) fun e=>yE [0,1,2,3,4,5,6,7,8,9]<|au 0xd2f8888 ?_
    refine yd I I mm isAgg51 sizeOf51 (Ck (k:=5) (fun _=>rfl) ((fun _=>rfl)) Y 0 j oo) ?_;clear h
    refine au 0xbe ?_
    refine au 0x54f ?_
    have A:=Xj (Y.getD j 0) (BX p V ((Za p.m.T).getD i ed0))
    refine au 0xd2f ?_
    refine Vq (b:=q) (cs:=(cellsOf Qe Y).toArray) (cs':=(cellsOf Qe<|Y.set j ((Y.getD j 0)+(BX p V ((Za p.m.T).getD i ed0)))).toArray) (v:=Qe ((Y.getD j 0)+(BX p V ((Za p.m.T).getD i ed0)))) I kk I I (AU (k:=5) (fun _=>rfl) Y j oo ((Y.getD j 0)+(BX p V ((Za p.m.T).getD i ed0)))) uu sizeOf51 I (CB (k:=5) (fun _=>rfl) Y j oo) I ?_
    refine au 0x2471f3a ?_;intro a w h
    replace h:=kQ h [4,5,6,8,10,12,14,33,34,59,60,61,87,88,89,90,94] pkL
    refine Zm ?_
    refine gC h<|au 0x30ed1241f31 ?_
    refine zp (.pN (i+1)<|.add I I)<|au 0x24 ?_;clear h;intro a w h
    exact⟨i+1,⟨oo,_,((X.skip (B:=11000000) (x:=((Za p.m.T).getD i ed0).l)).add z K a7 b5).mono (fun k=>Nat.le_of_eq (Mc (Za p.m.T) n k)),by exact tO h⟩,oo⟩
  ·have a8:(Za p.m.T).length=i:=dF L
   subst a8
   refine gC h<|au 0x4310e ?_;clear h;intro a w h
   replace h:=(h.perm (List.Perm.trans (Bh (List.Perm.refl _)) (List.Perm.cons _ (List.Perm.refl _))).symm).shareAll hS (cellsOf Qe Y) I
   refine gL h<|au 0x6255 ?_;clear h;intro a w h
   refine Qn (Ψ:=[Row (some ⟨q,0,none⟩) (cellsOf Qe Y)]) h (Zw h I (.tmp I)<|.tmp I) ?_ ss
   exact⟨Y,some ⟨q,0,none⟩,X.done c6 (Sk p.m.T _),by rw[X.1],rfl⟩
end
section
section
variable{P:Program}{ops:Array Oper}{n:Nat}{S:Nat→Prop}{w0 w:World}{Kf:Exit→Act→World→Prop}{H:List Nat}{L:List (Nat×Value)}{σ σ2:List (Nat×Obj)}{Φ:List Zp}{a:Act}
variable{i d b:Nat}{T K E:TypeId}{x y v:Operand}{ty:TypeId}{pos:String}{aft:Array Edge}{α β:Type}[DecidableEq α]{ek:α→Value}{ev:β→Value}{m:List (α×β)}{z0:β}
theorem eP(ho:ops[i]?=some ⟨some d,.lookup T x y true,ty,pos,aft,none⟩)(hq:Yp ops true i H=true)(M:MK P T K E ek (ev z0)){u:α}(hx:Fx.ev L x=some (.map (some b)))(e:Fx.ev L y=some (ek u))(hm:(b,mB ek ev m)∈σ)(hd:d<n)(k:Head P ops n S w0 Kf H ((d,.tuple #[ev ((Zu m u).getD z0),.bool (Zu m u).isSome])::L) σ Φ): Head P ops n S w0 Kf (i::H) L σ Φ:=by
 unfold Fx.Head at k ⊢
 exact .inl ⟨_,d,_,true,ho,rfl,hd,hq,fun _ _ _ a =>.inl ⟨rfl,fun w' hw=>by
  have c:w'.heap[b]?=some (mB ek ev m):=by rw[(hw rfl).block _ (a.own_lt (List.mem_append_right _ hm))];exact a.own _ (List.mem_append_right _ hm)
  simp only[execOp,a.ev hx,a.ev e,Sem.run_bind,M.lookup m u true c];rfl⟩,k⟩
end
theorem MO{P:Program}{n:Nat}{S:Nat→Prop}{w0:World}{L:List (Nat×Value)}{σ σr:List (Nat×Obj)}{Φ:List Zp}{a:Act}{w:World}{ops:Array Oper}{Kf:Exit→Act→World→Prop}{j f:Nat}{b:Array Bool}{F:Nat}{ys:List Value}{u:TypeId}(h:St n S w0 L σ Φ a w){d:Nat}{x y:Operand}{T p E J ty:TypeId}{pos:String}{e:Array Edge}{i:TypeInfo}{z:Value}{k m m2 c2:Nat}{v:Value}{xs:List Value}{o:List (Nat×Obj)}(ho:ops[j]?=some ⟨some d,.call ⟨.builtin .append,#[x,y],#[T,p]⟩,ty,pos,e,none⟩)(hx:Fx.ev L x=some v)(H:Fx.ev L y=some (.slice (some ⟨F,0,none⟩) m2 c2))(A:σ.Perm ((F,.cells ys.toArray u (0,0))::(o++σr)))(K:GrowO k E v m xs o)(hT:∀w,(underlying T).run P w=.ok (.slice E) w)(D:∀w,(underlying p).run P w=.ok (.slice J) w)(M:∀w,(typeInfo E).run P w=.ok i w)(hk:∀w,(Go.sizeOf E).run P w=.ok k w)(hz:∀w,(zeroValue E).run P w=.ok z w)(C:z.cells.size=k)(s:k≠0)(N:0<i.bytes)(r:ys.length=m2*k)(q:ys.all flat=true)(B:0<m2)(c:i.bytes*(2*(m+m2)+192)≤281474976710656)(hd:d<n)(kk:∀v' o' G w',GrowO k E v' (m+m2) (xs++ys) o'→St n S w0 ((d,v')::L) (o'++σr) Φ G w'→wpX P ops Kf f (b.setIfInBounds j true) G w'): BJ P ops Kf f b j a w :=
 Jo ho (En h hx H A K hT D M hk hz C s N r q B c hd fun v' o' w' I hs =>
  ⟨fun oo g=>by rw[ho] at g;cases g;exact⟨(fun he=>by cases he),(fun _ _ _ _ he=>by cases he),fun t ht=>Bq (o:=⟨some d,.call ⟨.builtin .append,#[x,y],#[T,p]⟩,ty,pos,e,none⟩) ho ht,fun t l hf=>noF ho (fun _ he=>by cases he) l hf⟩,kk v' o' _ _ I hs⟩)
theorem US{L:List (Nat×Value)}{n:Nat}{S:Nat→Prop}{w0:World}{σ j:List (Nat×Obj)}{Φ:List Zp}{ops:Array Oper}{d b:Nat}{T G:TypeId}{x y:Operand}{ty:TypeId}{pos:String}{p:Array Edge}{s:Nat}{v:Value}{Kf:Exit→Act→World→Prop}{i f:Nat}{e:Array Bool}{a:Act}{w:World}{α:Type}(enc:α→Value)(A B:List α){u E F:TypeId}{m2 K:Nat}{ys:List Value}{o g:List (Nat×Obj)}{m:TypeInfo}{z:Value}(J:GrowO s E v A.length (cellsOf enc A) o)(h:St n S w0 L σ Φ a w)(kk:∀ad c o' l w',GrowO s E (.slice ad (A++B).length c) (A++B).length (cellsOf enc (A++B)) o'→St n S w0 ((d,.slice ad (A++B).length c)::L) (o'++j) Φ l w'→wpX prog ops Kf f (e.setIfInBounds i true) l w')(ho:ops[i]?=some ⟨some d,.call ⟨.builtin .append,#[x,y],#[T,u]⟩,ty,pos,p,none⟩:=by exact rfl)(hx:Fx.ev L x=some v:=by exact rfl)(D:Fx.ev L y=some (.slice (some ⟨b,0,none⟩) m2 K):=by exact rfl)(h1:Ex1 σ (b,.cells ys.toArray G (0,0)) g:=by repeat(first|exact Ex1.head|apply Ex1.tail|apply Ex1.app))(C:ExL g o j:=by repeat(first|exact ExL.nil|exact ExL.head|exact ExL.head (o:=[_])|exact ExL.last|apply ExL.tail|apply ExL.app))(H:ys=cellsOf enc B:=by exact rfl)(hl:B.length=m2:=by exact rfl)(hT:∀w,(underlying T).run prog w=.ok (.slice E) w:=by exact tyU)(I:∀w,(underlying u).run prog w=.ok (.slice F) w:=by exact tyU)(M:∀w,(typeInfo E).run prog w=.ok m w:=by exact tyI)(hs:∀w,(Go.sizeOf E).run prog w=.ok s w:=by exact tyS)(hz:∀w,(zeroValue E).run prog w=.ok z w:=by exact tyZ)(hk:z.cells.size=s:=by exact rfl)(O:s≠0:=by decide)(N:0<m.bytes:=by decide)(q:ys.length=m2*s:=by exact rfl)(hf:ys.all flat=true:=by exact rfl)(r:0<m2:=by decide)(t:m.bytes≤4096:=by decide)(hr:4096*(2*(A.length+m2)+192)≤281474976710656:=by(try dsimp only);omega)(hd:d<n:=by decide): BJ prog ops Kf f e i a w :=
 MO h ho hx D (h1.perm.trans (List.Perm.cons _ C.perm)) J hT I M hs hz hk O N q hf r (Nat.le_trans (Nat.mul_le_mul_right _ t) hr) hd fun v' o' l w' k hs=>by
  obtain ⟨ad,c,rfl⟩:=k.is
  rw[show A.length+m2=(A++B).length by rw[List.length_append,hl]] at hs k
  rw[H, ←Qs] at k
  exact kk ad c o' l w' k hs
theorem xapM{L:List (Nat×Value)}{n:Nat}{S:Nat→Prop}{w0:World}{σ j:List (Nat×Obj)}{Φ:List Zp}{ops:Array Oper}{d b:Nat}{T G:TypeId}{x y:Operand}{ty:TypeId}{pos:String}{p:Array Edge}{s:Nat}{v:Value}{Kf:Exit→Act→World→Prop}{i f:Nat}{e:Array Bool}{a:Act}{w:World}{α:Type}(enc:α→Value)(A B:List α){u E F:TypeId}{m2 K:Nat}{ys:List Value}{o g:List (Nat×Obj)}{m:TypeInfo}{z:Value}(J:GrowO s E v A.length (List.map enc A) o)(h:St n S w0 L σ Φ a w)(kk:∀ad c o' l w',GrowO s E (.slice ad (A++B).length c) (A++B).length (List.map enc (A++B)) o'→St n S w0 ((d,.slice ad (A++B).length c)::L) (o'++j) Φ l w'→wpX prog ops Kf f (e.setIfInBounds i true) l w')(ho:ops[i]?=some ⟨some d,.call ⟨.builtin .append,#[x,y],#[T,u]⟩,ty,pos,p,none⟩:=by exact rfl)(hx:Fx.ev L x=some v:=by exact rfl)(D:Fx.ev L y=some (.slice (some ⟨b,0,none⟩) m2 K):=by exact rfl)(h1:Ex1 σ (b,.cells ys.toArray G (0,0)) g:=by repeat(first|exact Ex1.head|apply Ex1.tail|apply Ex1.app))(C:ExL g o j:=by repeat(first|exact ExL.nil|exact ExL.head|exact ExL.head (o:=[_])|exact ExL.last|apply ExL.tail|apply ExL.app))(H:ys=List.map enc B:=by exact rfl)(hl:B.length=m2:=by exact rfl)(hT:∀w,(underlying T).run prog w=.ok (.slice E) w:=by exact tyU)(I:∀w,(underlying u).run prog w=.ok (.slice F) w:=by exact tyU)(M:∀w,(typeInfo E).run prog w=.ok m w:=by exact tyI)(hs:∀w,(Go.sizeOf E).run prog w=.ok s w:=by exact tyS)(hz:∀w,(zeroValue E).run prog w=.ok z w:=by exact tyZ)(hk:z.cells.size=s:=by exact rfl)(O:s≠0:=by decide)(N:0<m.bytes:=by decide)(q:ys.length=m2*s:=by exact rfl)(hf:ys.all flat=true:=by exact rfl)(r:0<m2:=by decide)(t:m.bytes≤4096:=by decide)(hr:4096*(2*(A.length+m2)+192)≤281474976710656:=by(try dsimp only);omega)(hd:d<n:=by decide): BJ prog ops Kf f e i a w :=
 MO h ho hx D (h1.perm.trans (List.Perm.cons _ C.perm)) J hT I M hs hz hk O N q hf r (Nat.le_trans (Nat.mul_le_mul_right _ t) hr) hd fun v' o' l w' k hs=>by
  obtain ⟨ad,c,rfl⟩:=k.is
  rw[show A.length+m2=(A++B).length by rw[List.length_append,hl]] at hs k
  rw[H, ←List.map_append] at k
  exact kk ad c o' l w' k hs
def Yz(q:List ((Nat×Nat)×Nat)): Nat→Nat×Nat×Nat→List (Nat×Nat×Nat)
 | 0,c=>[c]
 | d+1,c=>if (Zu q (Zo c.2.1 c.2.2)).isSome=true then Yz q d ((Zu q (Zo c.2.1 c.2.2)).getD 0,c.1,c.2.1)++Yz q d ((Zu q (Zo c.2.1 c.2.2)).getD 0,c.2.2,c.1) else [c]
theorem DN(q:List ((Nat×Nat)×Nat)): ∀d c,(Yz q d c).length≤2 ^ d
 | 0,_=>Nat.le_refl _
 | d+1,c=>by
  rw[Yz];split
  ·rw[List.length_append];have:=DN q d ((Zu q (Zo c.2.1 c.2.2)).getD 0,c.1,c.2.1);have:=DN q d ((Zu q (Zo c.2.1 c.2.2)).getD 0,c.2.2,c.1);rw[Nat.pow_succ];omega
  ·exact Nat.one_le_two_pow
theorem eS{q:List ((Nat×Nat)×Nat)}{d:Nat}{c:Nat×Nat×Nat}(h:(!(Zu q (Zo c.2.1 c.2.2)).isSome)=true∨d=0): Yz q d c=[c]:=by
 cases d with
 | zero=>rfl
 | succ d =>
  rcases h with h|h
  ·rw[Yz,if_neg (by intro e;rw[e] at h;cases h)]
  ·cases h
theorem eR{q:List ((Nat×Nat)×Nat)}{d:Nat}{c:Nat×Nat×Nat}(h:(!(Zu q (Zo c.2.1 c.2.2)).isSome)=false): Yz q (d+1) c=Yz q d ((Zu q (Zo c.2.1 c.2.2)).getD 0,c.1,c.2.1)++Yz q d ((Zu q (Zo c.2.1 c.2.2)).getD 0,c.2.2,c.1):=by
 rw[Yz,if_pos (by cases a:(Zu q (Zo c.2.1 c.2.2)).isSome;(rw[a] at h;cases h);rfl)]
theorem lH{q:List ((Nat×Nat)×Nat)}{d:Nat}{c:Nat×Nat×Nat}(h:(!(Zu q (Zo c.2.1 c.2.2)).isSome)=true∨d=0)(A:List (Nat×Nat×Nat))(a:List Nat)(t:Nat): A++Yz q d c=A++[c]∧a++List.replicate (Yz q d c).length t=a++[t]:=by
 rw[eS h];exact⟨rfl,rfl⟩
theorem lG{q:List ((Nat×Nat)×Nat)}{d:Nat}{c:Nat×Nat×Nat}(h:(!(Zu q (Zo c.2.1 c.2.2)).isSome)=false)(A:List (Nat×Nat×Nat))(a:List Nat)(t:Nat):
  A++Yz q (d+1) c=(A++Yz q d ((Zu q (Zo c.2.1 c.2.2)).getD 0,c.1,c.2.1))++Yz q d ((Zu q (Zo c.2.1 c.2.2)).getD 0,c.2.2,c.1) ∧
  a++List.replicate (Yz q (d+1) c).length t=(a++List.replicate (Yz q d ((Zu q (Zo c.2.1 c.2.2)).getD 0,c.1,c.2.1)).length t)++List.replicate (Yz q d ((Zu q (Zo c.2.1 c.2.2)).getD 0,c.2.2,c.1)).length t:=by
 rw[eR h,List.length_append, ←List.replicate_append_replicate,List.append_assoc,List.append_assoc];exact⟨rfl,rfl⟩
def nf(q:List ((Nat×Nat)×Nat))(bm bA bP bH mb d:Nat): Prop :=
 ∀(c:Nat×Nat×Nat) (t:Nat) (A:List (Nat×Nat×Nat)) (Ps:List Nat) (aA aP:Option Addr) (cA cP:Nat) (oA oP σ:List (Nat×Obj)) (Φ:List Zp),A.length+2 ^ d≤100000→Ps.length+2 ^ d≤100000 →
  GrowO 3 127 (.slice aA A.length cA) A.length (cellsOf Zd A) oA→GrowO 1 3 (.slice aP Ps.length cP) Ps.length (List.map Qi Ps) oP →
  FR prog 77 [Zd c,.int .i64 ((t:Nat):Int),.int .i64 ((d:Nat):Int),.pointer (some ⟨bm,0,none⟩),.pointer (some ⟨bA,0,none⟩),.pointer (some ⟨bP,0,none⟩),.pointer (some ⟨bH,0,none⟩)]
   (oA++(oP++((bA,.cells #[.slice aA A.length cA] 39 (0,0))::(bP,.cells #[.slice aP Ps.length cP] 69 (0,0))::(bH,.cells #[.func (.func 77) #[] #[.pointer (some ⟨bm,0,none⟩),.pointer (some ⟨bA,0,none⟩),.pointer (some ⟨bP,0,none⟩),.pointer (some ⟨bH,0,none⟩)]] 162 (0,0))::(bm,.cells #[.map (some mb)] 159 (0,0))::(mb,mB Zy Qi q)::σ))) Φ
   (fun _ σ' Φ' => ∃(aA2 aP2:Option Addr) (cA2 cP2:Nat) (oA2 oP2:List (Nat×Obj)),GrowO 3 127 (.slice aA2 (A++Yz q d c).length cA2) (A++Yz q d c).length (cellsOf Zd (A++Yz q d c)) oA2 ∧
    GrowO 1 3 (.slice aP2 (Ps++List.replicate (Yz q d c).length t).length cP2) (Ps++List.replicate (Yz q d c).length t).length (List.map Qi (Ps++List.replicate (Yz q d c).length t)) oP2 ∧
    σ'=oA2++(oP2++((bA,.cells #[.slice aA2 (A++Yz q d c).length cA2] 39 (0,0))::(bP,.cells #[.slice aP2 (Ps++List.replicate (Yz q d c).length t).length cP2] 69 (0,0))::(bH,.cells #[.func (.func 77) #[] #[.pointer (some ⟨bm,0,none⟩),.pointer (some ⟨bA,0,none⟩),.pointer (some ⟨bP,0,none⟩),.pointer (some ⟨bH,0,none⟩)]] 162 (0,0))::(bm,.cells #[.map (some mb)] 159 (0,0))::(mb,mB Zy Qi q)::σ))∧Φ=Φ')
theorem ba(q:List ((Nat×Nat)×Nat))(J K M L mb d:Nat)(hd:d≤10)(X:∀e,d=e+1→nf q J K M L mb e): nf q J K M L mb d:=by
 intro c t A s aA aP cA cP oA oP σ Φ F G i y
 refine fn_introM func77 I ntmps77 nb ?_
 intro S w0 a w Y h
 have C:2 ^ d≤1024:=Nat.pow_le_pow_right dd hd
 have a7:A.length≤100000:=Nat.le_trans (Nat.le_add_right _ _) F
 have Z:s.length≤100000:=Nat.le_trans (Nat.le_add_right _ _) G
 refine gC h<|zS (zx I fun b7=>zn<|zs<|yE [0,1,2,3,4,5,6,7,8,9,10,11]<|ldY Ar ?_);clear h
 refine au 0xb1f93f ?_
 refine au 0xf0f83f ?_
 refine yv [_,_] I I call78 (bj ((c).2.1) ((c).2.2)) ?_
 refine eP I kk Nu (u:=Zo ((c).2.1) ((c).2.2)) (m:=q) I I mm dd ?_
 refine au 0x20f4311a3e3e7e7e8 ?_;intro a w h
 refine Zh h (fun n h=>?_) (fun n h=>?_)
 focus
  have hz:(!(Zu q (Zo c.2.1 c.2.2)).isSome)=true∨d=0:=.inl n
  refine gL h<|zm I<|zo 24 I I I<|zo 24 I I I<|au 0x22e ?_;clear h;intro a w h
 rotate_left
 focus
  refine gL h<|zm I<|zq 24 I I (.move I)<|zq 24 I I (.eql I I) ?_;clear h;intro a w h
  refine Zh h (fun l h=>?_) (fun l h=>?_)
  rotate_left
  ·obtain ⟨d0,rfl⟩:∃e,d=e+1:=⟨d-1,by have:=of_decide_eq_false l;omega⟩
   rw[Nat.pow_succ] at F G C
   refine gL h<|au 0x446bf90f7cf60f57f4f4f317d24e ?_
   refine zp (.pO ((d0+1)-1)<|.sub I I) ?_;clear h;intro a w h
   refine Zc<|EU h Y (fs:=[]) (cs:=[.pointer (some ⟨J,0,none⟩),.pointer (some ⟨K,0,none⟩),.pointer (some ⟨M,0,none⟩),.pointer (some ⟨L,0,none⟩)]) I (vs:=[_,_,_]) I call77 (X d0 I ((Zu q<|Zo c.2.1 c.2.2).getD 0,c.1,c.2.1) t A s _ _ _ _ oA oP ((b7,bV (Zd c) 127)::σ) Φ oo oo i y) (((List.Perm.trans (WA<|List.Perm.refl _)<|List.Perm.append_left _<|List.Perm.trans (WA<|List.Perm.refl _)<|List.Perm.append_left _<|List.Perm.trans (Bh<|List.Perm.refl _)<|List.Perm.cons _<|List.Perm.trans (Bh<|List.Perm.refl _)<|List.Perm.cons _<|List.Perm.trans (Bh<|List.Perm.refl _)<|List.Perm.cons _<|List.Perm.trans (Bh<|List.Perm.refl _)<|List.Perm.cons _<|List.Perm.trans (Bh<|List.Perm.refl _)<|List.Perm.cons _<|List.Perm.refl _))) ss ss ?_;clear h;rintro v46 a6 a8 a w ⟨b4,b2,b1,b5,O,T,B,D,rfl,rfl⟩ h
   refine gL h<|au 0x446bf60f57f51f6cf4f4f32 ?_
   refine zp (.pO ((d0+1)-1)<|.sub I I) ?_;clear h;intro a w h
   refine Zc<|EU h Y (fs:=[]) (cs:=[.pointer (some ⟨J,0,none⟩),.pointer (some ⟨K,0,none⟩),.pointer (some ⟨M,0,none⟩),.pointer (some ⟨L,0,none⟩)]) I (vs:=[_,_,_]) I call77 (X d0 I ((Zu q<|Zo c.2.1 c.2.2).getD 0,c.2.2,c.1) t (A++Yz q d0 ((Zu q<|Zo c.2.1 c.2.2).getD 0,c.1,c.2.1)) (s++List.replicate (Yz q d0 ((Zu q<|Zo c.2.1 c.2.2).getD 0,c.1,c.2.1)).length t) _ _ _ _ O T ((b7,bV (Zd c) 127)::σ) Φ (by rw[List.length_append];have:=DN q d0 ((Zu q<|Zo c.2.1 c.2.2).getD 0,c.1,c.2.1);omega) (by rw[List.length_append,List.length_replicate];have:=DN q d0 ((Zu q<|Zo c.2.1 c.2.2).getD 0,c.1,c.2.1);omega) B D) (((List.Perm.refl _))) ss ss ?_;clear h;rintro b3 b0 a1 a w ⟨U,R,P,W,N,V,E,z,rfl,rfl⟩ h
   refine wpList_nil ?_
   obtain ⟨x,v⟩:=lG (d:=d0) n A s t
   rw[x,v]
   exact UP (h.perm (List.Perm.trans (dR (dR (Bh (Bh (Bh (Bh (Bh (List.Perm.refl _)))))))) (List.Perm.cons _ (List.Perm.refl _))).symm) (AK I) ⟨U,R,P,W,N,V,E,z,rfl,rfl⟩ (List.Sublist.cons _ (List.Sublist.refl _)) (fun _ hR=>hR)
  have hz:(!(Zu q (Zo c.2.1 c.2.2)).isSome)=true∨d=0:=.inr (dT l)
  refine gL h<|au 0x24e ?_;clear h;intro a w h
 all_goals
  refine cW ?_
  refine Qo h I ?_
  refine gC h<|zs<|yE [0,1,5,4,2,6,3,7,8,9]<|ldY Ar ?_;clear h
  refine au 0x34f ?_
  refine au 0x8 ?_
  refine Ya kk ?_;intro a w h
  refine UU 2 4 6 ?_ ?_ ?_
  focus
   refine Jj h I [(_,_)] I (Be _ _ _) dd ?_;clear h;intro o a w h
   refine UU 3 4 6 ?_ ?_ ?_
   focus
    refine US Zd A [c] i h ?_;clear h;intro b g j a w f h
    refine Yj 4 6 ?_ ?_
    focus
     refine Ko h I I mr isAgg69 sizeOf69 Ar dd ?_;clear h;intro a h
     refine Xe 6 ?_
     refine Jj h I [(_,_)] I (Jf _) dd ?_;clear h;intro k a w h
    rotate_left
    focus
     refine Jj h I [(_,_)] I (Jf _) dd ?_;clear h;intro k a w h
     refine Xe 4 ?_
     refine Ko h I I mr isAgg69 sizeOf69 Ar dd ?_;clear h;intro a h
   rotate_left 2
   focus
    refine Ko h I I mr isAgg69 sizeOf69 Ar dd ?_;clear h;intro a h
    refine Yj 3 6 ?_ ?_
    focus
     refine US Zd A [c] i h ?_;clear h;intro b g j a w f h
     refine Xe 6 ?_
     refine Jj h I [(_,_)] I (Jf _) dd ?_;clear h;intro k a w h
    rotate_left
    focus
     refine Jj h I [(_,_)] I (Jf _) dd ?_;clear h;intro k a w h
     refine Xe 3 ?_
     refine US Zd A [c] i h ?_;clear h;intro b g j a w f h
   rotate_left 2
   focus
    refine Jj h I [(_,_)] I (Jf _) dd ?_;clear h;intro k a w h
    refine Yj 3 4 ?_ ?_
    focus
     refine US Zd A [c] i h ?_;clear h;intro b g j a w f h
     refine Xe 4 ?_
     refine Ko h I I mr isAgg69 sizeOf69 Ar dd ?_;clear h;intro a h
    rotate_left
    focus
     refine Ko h I I mr isAgg69 sizeOf69 Ar dd ?_;clear h;intro a h
     refine Xe 3 ?_
     refine US Zd A [c] i h ?_;clear h;intro b g j a w f h
  rotate_left 6
  focus
   refine Ko h I I mr isAgg69 sizeOf69 Ar dd ?_;clear h;intro a h
   refine Yj 2 6 ?_ ?_
   focus
    refine Jj h I [(_,_)] I (Be _ _ _) dd ?_;clear h;intro o a w h
    refine Yj 3 6 ?_ ?_
    focus
     refine US Zd A [c] i h ?_;clear h;intro b g j a w f h
     refine Xe 6 ?_
     refine Jj h I [(_,_)] I (Jf _) dd ?_;clear h;intro k a w h
    rotate_left
    focus
     refine Jj h I [(_,_)] I (Jf _) dd ?_;clear h;intro k a w h
     refine Xe 3 ?_
     refine US Zd A [c] i h ?_;clear h;intro b g j a w f h
   rotate_left 2
   focus
    refine Jj h I [(_,_)] I (Jf _) dd ?_;clear h;intro k a w h
    refine Xe 2 ?_
    refine Jj h I [(_,_)] I (Be _ _ _) dd ?_;clear h;intro o a w h
    refine Xe 3 ?_
    refine US Zd A [c] i h ?_;clear h;intro b g j a w f h
  rotate_left 3
  focus
   refine Jj h I [(_,_)] I (Jf _) dd ?_;clear h;intro k a w h
   refine Yj 2 4 ?_ ?_
   focus
    refine Jj h I [(_,_)] I (Be _ _ _) dd ?_;clear h;intro o a w h
    refine Yj 3 4 ?_ ?_
    focus
     refine US Zd A [c] i h ?_;clear h;intro b g j a w f h
     refine Xe 4 ?_
     refine Ko h I I mr isAgg69 sizeOf69 Ar dd ?_;clear h;intro a h
    rotate_left
    focus
     refine Ko h I I mr isAgg69 sizeOf69 Ar dd ?_;clear h;intro a h
     refine Xe 3 ?_
     refine US Zd A [c] i h ?_;clear h;intro b g j a w f h
   rotate_left 2
   focus
    refine Ko h I I mr isAgg69 sizeOf69 Ar dd ?_;clear h;intro a h
    refine Xe 2 ?_
    refine Jj h I [(_,_)] I (Be _ _ _) dd ?_;clear h;intro o a w h
    refine Xe 3 ?_
    refine US Zd A [c] i h ?_;clear h;intro b g j a w f h
  all_goals
   refine Xe 7 ?_
   refine xapM Qi s [t] y h ?_;clear h;intro r H Q a w p h
   refine Xe 8 ?_
   refine Eh h I I I Kk uu sizeOf39 I nb (by show((flat ((.slice b (A++[c]).length g)) && true))=true;simp only[GrowO.flat (f)];rfl) ?_;clear h;intro a w h
   refine Xe 9 ?_
   refine Eh h I I I Kk uu sizeOf69 I nb (by show((flat ((.slice r (s++[t]).length H)) && true))=true;simp only[GrowO.flat (p)];rfl) ?_;clear h;intro a w h
   refine OF kk ?_
   refine cW ?_
   refine wp_ret ?_
   obtain ⟨x,v⟩:=lH hz A s t
   rw[x,v]
   exact UP (h.perm (List.Perm.trans (dR (dR (List.Perm.refl _))) (List.Perm.cons _ (List.Perm.trans (pm_aa (List.Perm.refl _)) (List.Perm.append_left _ (List.Perm.refl _))))).symm) (AK I) ⟨b,r,g,H,j,Q,f,p,rfl,rfl⟩ (List.Sublist.cons _ (List.Sublist.refl _)) (fun _ hR=>hR)
end
section
theorem Z4(e:Option Addr)(d a:Nat)(f:Option Addr)(b c:Nat): RN (Instr.build 42 [(0,.slice e d a),(1,.slice f b c)].toArray) (.agg #[.slice e d a,.slice f b c,.slice none 0 0]):=fun w=>by simp[go_sem]
theorem ck2_re(e:Bool)(x:Nat×Nat): RN (Instr.checkKey e 10000 224 (Zy x)) ():=fun w=>by
 rw[show(10000:Nat)=9999+1 from rfl,Instr.checkKey]
 have h1:=Hz e 9998 (x.1:Int)
 have a:=Hz e 9998 (x.2:Int)
 simp[go_sem,h1,a,List.range']
theorem eq2_re(x y:Nat×Nat): RN (Op.equal 224 (Zy x) (Zy y)) (decide (x=y)):=fun w=>by
 obtain ⟨i,j⟩:=x
 obtain ⟨k,l⟩:=y
 unfold Op.equal
 rw[show Op.maxDepth=9999+1 from rfl,Op.equalIn]
 simp[go_sem,List.range']
 by_cases h1:i=k<;>by_cases a:j=l<;>simp[h1,a,Bd]
theorem WW:MK prog 222 224 3 Zy (Qi 0):=MK.ofAgg (D:=_) runUnderlying222 zeroValue3 runUnderlying224 (fun _ _=>rfl) ck2_re (fun x=>by simp[Instr.sameBits]) eq2_re
theorem set_I3(l:List (Nat×Nat×Nat))(R:List Value)(j:Nat)(h:j<l.length)(x:Nat): Zl (cellsOf Zd l++R).toArray (0+j*3+2) (Value.int .i64 ((x:Nat):Int)).cells.toList=(cellsOf Zd (l.set j ((l.getD j (0,0,0)).1,(l.getD j (0,0,0)).2.1,x))++R).toArray:=by
 rw[Dk l j h,Dj l j h]
 have b:l.getD j (0,0,0)=l[j]:=by simp[List.getD,h]
 rw[b]
 have hk:(cellsOf Zd (l.take j)++[Qi l[j].1,Qi l[j].2.1]).length=0+j*3+2:=by
  rw[List.length_append,Ki (k:=3) (enc:=Zd) (fun _=>rfl) l j h];show j*3+2=_;omega
 have c:cellsOf Zd (l.take j)++(Zd l[j]).cells.toList++cellsOf Zd (l.drop (j+1))++R=(cellsOf Zd (l.take j)++[Qi l[j].1,Qi l[j].2.1])++[Qi l[j].2.2]++(cellsOf Zd (l.drop (j+1))++R):=by
  rw[show(Zd l[j]).cells.toList=[Qi l[j].1,Qi l[j].2.1]++[Qi l[j].2.2] from rfl];simp only[List.append_assoc]
 have a:cellsOf Zd (l.take j)++(Zd (l[j].1,l[j].2.1,x)).cells.toList++cellsOf Zd (l.drop (j+1))++R=(cellsOf Zd (l.take j)++[Qi l[j].1,Qi l[j].2.1])++[Qi x]++(cellsOf Zd (l.drop (j+1))++R):=by
  rw[show(Zd (l[j].1,l[j].2.1,x)).cells.toList=[Qi l[j].1,Qi l[j].2.1]++[Qi x] from rfl];simp only[List.append_assoc]
 rw[c,a, ←hk]
 exact Gr _ _ _ _ I
theorem lK{l:List (Nat×Nat×Nat)}{a:List Value}{n c b j:Nat}{x:Nat×Nat×Nat}(hl:l.length=n)(h:(cellsOf Zd l++a).length=c*3)(hc:n≤c):
  GrowO 3 178 (.slice (some ⟨b,0,none⟩) n c) n (cellsOf Zd (l.set j x)) [(b,Obj.cells (cellsOf Zd (l.set j x)++a).toArray 178 (0,0))] :=
 GrowO.close (by rw[cellsOf_length (k:=3) (fun _=>rfl),List.length_set,hl]) (by rw[List.length_append,cellsOf_length (k:=3) (fun _=>rfl)] at h ⊢;rw[List.length_set];exact h) hc
theorem nc(l:List (Nat×Nat×Nat))(R:List Value)(j:Nat)(h:j<l.length): 0+j*3+2+1≤(cellsOf Zd l++R).toArray.size:=by
 have:=IU (k:=3) (enc:=Zd) (fun _=>rfl) l R j h
 omega
theorem ip(K:Nat)(m:Ms)(V s o:Option Addr)(cP cT cS:Nat)(E:List Ed)(G:Option Addr)(cE:Nat)(L:List (Nat×Nat×Nat))(H:Option Addr)(cL:Nat)(hv:MV K m)(hK:K≤1000)(hE:∀e∈E,e.a<m.P.length∧e.b<m.P.length)(j0:E.length≤10000)(hL:∀t∈L,D9 (m.P.length+E.length) t=true)(c8:0<L.length)(h7:L.length≤100000): Ctr prog 79 [Qz m V s o cP cT cS,.slice G E.length cE,.slice H L.length cL] [Row V (cellsOf encPt m.P),Row s (cellsOf Zd m.T),Row o (cellsOf Zd m.S),Row G (cellsOf Qp E),Row H (cellsOf Zd L)] (fun v Ψ=>(∃(a1 a2 a3:Option Addr) (n1 n2 n3:Nat),v=.agg #[.slice a1 n1 n1,.slice a2 n2 n2,.slice a3 n3 n3])∧Ψ=[]):=by
 have i1:=hv.nP
 have i7:=hv.nT
 have h9:=hv.nS
 have h4:=hv.neP
 refine fn_intro func79 I ntmps79 nb ?_
 intro S w0 a hS h
 obtain ⟨c,f,rfl⟩:=h.row_addr (ad:=V) (M:=cellsOf encPt m.P) mm (nE 10)
 obtain ⟨F,X,rfl⟩:=h.row_addr (ad:=H) (M:=cellsOf Zd L) mm (nE 3)
 refine gC h<|zS (zx I fun b3=>zz zeroValue42 fun b6=>au 0x312 ?_);clear h;intro a w h
 refine Zc<|D8 Zy Qi h dd ?_;clear h;intro O a w h
 refine gL h<|au 0x92566fb2f51f36f31125 ?_;clear h;intro a w h
 refine lpG h [1,2,3,6,7,21] pkL (fun Y Z (j:Nat) a w => ∃(q:List ((Nat×Nat)×Nat)),j≤m.S.length∧St 149 S w0 ((8,.int .i64 (((j:Nat):Int)-1))::Y) [(O,mB Zy Qi q),(b6,bV (.agg #[.slice none 0 0,.slice none 0 0,.slice none 0 0]) 42),(b3,bV (Qz m (some ⟨c,f,none⟩) s o cP cT cS) 42)] Z a w) (fun j=>j) (m.S.length) (⟨[],Nat.le_refl _,by exact h.sub sA⟩) ?_;clear h
 rintro j a w ⟨q,hj,h⟩
 refine gC h<|au 0x240f4311 ?_;intro a w h
 refine Zb h I (fun y=>?_) (fun y=>?_)
 ·obtain ⟨n,rfl⟩:∃n,j=n+1:=⟨j-1,by have:=of_decide_eq_true y;omega⟩
  rw[show(((n+1:Nat):Int)-1)=((n:Nat):Int) from by omega] at h
  obtain ⟨e6,c6,rfl⟩:=h.row_addr (ad:=o) (M:=cellsOf Zd m.S) mm (nE 3)
  obtain ⟨c5,e1,_⟩:=hv.sd _ (getD_mem m.S (d:=(0,0,0)) (show n<m.S.length by omega))
  refine gC h<|au 0x98f451f36f31917 ?_
  refine zD I mm (cells_lt (k:=3) dd (fun _=>rfl) m.S n oo) isAgg178 sizeOf178 (Zg (k:=3) (fun _=>rfl) ((fun _=>rfl)) m.S (0,0,0) n oo) (.inl I) ?_
  refine zz G5 fun b9=>stW I I Qg ?_
  refine au 0x60fbafce312 ?_
  refine zv [_,_] I call138 (HZ m _ _ _ _ _ _ _ c5)<|zm I<|ldQ 35 Jk ?_
  refine zq 35 I I (.fA I Cx)<|ldQ 35 Vb ?_;clear h;intro a w h
  refine Zq 35 h I I<|Qw h (vs:=[_,_]) I call138 (HZ m _ _ _ _ _ _ _ e1) dd ?_;clear h;intro a w h
  refine gL h<|au 0x1e22e ?_
  refine yE [0,1,2,3,4,6,7,5,8]<|au 0x8 ?_
  refine yp I (.fA I HO)<|au 0xde ?_;clear h
  refine yp I (.fA I Cx)<|au 0xb1f ?_
  refine yp I (.fA I Cw)<|au 0xf0f ?_
  refine yv [_,_] I I call139 (ak ((m.S.getD n (0,0,0)).1) ((m.S.getD n (0,0,0)).2.1)) ?_
  refine Ya kk ?_;intro a w h
  refine Xe 8 ?_
  refine UT h I WW (u:=Zo ((m.S.getD n (0,0,0)).1) ((m.S.getD n (0,0,0)).2.1)) (q:=(m.S.getD n (0,0,0)).2.2) (m:=q) I I I uu ?_;clear h;intro a w h
  refine OF kk ?_
  refine cW ?_
  refine gC h<|au 0x2566f43 ?_;clear h;intro a w h
  exact⟨n,⟨_,oo,by exact tO h⟩,oo⟩
 ·refine gC h<|au 0x60f52f310e ?_;clear h;intro a w h
  refine Zc<|Xb h (vs:=[_]) I call39 (G4 c f _ m.P oo) ss dd ?_;clear h;rintro v51 b2 a w ⟨B,b7,rfl,D⟩ h
  refine gL h<|zm I<|zF [_] call141 (NX<|Oz F X _ L oo) ?_;rintro v53 h0 ⟨g,c7,rfl,a6,rfl⟩
  refine zv [_] I call140 (SO g _ c7 a6)<|zp (.build [(_,_),(_,_)] I<|Z4 _ _ _ _ _ _) (zz zeroValue42 fun b4=>zt' I I Qg uu sizeOf42 I nb (by show((flat ((.slice B (m.P).length b7)) && (flat (.slice g L.length L.length) && (flat (.slice none 0 0) && true))))=true;simp only[GrowO.flat (D)];rfl) ?_)
  refine au 0x92413f43112 ?_;clear h;intro a w h
  refine lpG h [1,2,3,6,7,8,10,21,56,57] pkL (fun Y Z (i:Nat) a w=>i≤E.length ∧ ∃(Q:List Pt) (aQ:Option Addr) (cQ:Nat) (oQ:List (Nat×Obj)) (q2:List ((Nat×Nat)×Nat)),(Q.length=m.P.length+i∧GrowO 10 119 (.slice aQ (Q).length cQ) (Q).length (cellsOf encPt Q) oQ)∧St 149 S w0 ((58,nI i)::Y) (oQ++((b4,bV (.agg #[(.slice aQ (Q).length cQ),.slice g L.length L.length,.slice none 0 0]) 42)::((O,mB Zy Qi q2)::((b6,bV (.agg #[.slice none 0 0,.slice none 0 0,.slice none 0 0]) 42)::((b3,bV (Qz m (some ⟨c,f,none⟩) s o cP cT cS) 42)::[]))))) Z a w) (fun i=>E.length-i) 0 (⟨Nat.zero_le _,m.P,B,b7,b2,q,⟨rfl,D⟩,by exact(h.perm (List.Perm.trans (WA<|List.Perm.refl _)<|List.Perm.append_left _<|List.Perm.refl _).symm).sub sA⟩) ?_;clear h
  rintro i a w ⟨h2,Q,aQ,cQ,oQ,q2,⟨a7,a8⟩,h⟩
  refine gC h<|au 0x12c31 ?_;intro a w h
  refine Zb h I (fun p=>?_) (fun p=>?_)
  ·have W:i<E.length:=dT p
   obtain ⟨e5,e3,rfl⟩:=h.row_addr (ad:=G) (M:=cellsOf Qp E) mm (nE 4)
   obtain ⟨b8,b0⟩:=hE _ (getD_mem E (d:=ed0) W)
   have e8:PtK 1000 (m.P.getD (E.getD i ed0).a (0,0)):=(hv.ptK b8).mono hK
   have e0:PtK 1000 (m.P.getD (E.getD i ed0).b (0,0)):=(hv.ptK b0).mono hK
   refine gC h<|au 0x27f31917 ?_
   refine zD I mm (cells_lt (k:=4) dd (fun _=>rfl) E i oo) isAgg124 sizeOf124 (Zg (k:=4) (fun _=>rfl) ((fun _=>rfl)) E ed0 i oo) (.inl I) ?_
   refine zz Bj fun i6=>stW I I Xw ?_
   refine au 0x53f26fce3112 ?_
   refine zv [_,_] I call138 (HZ m _ _ _ _ _ _ _ b8)<|au 0x4a0f ?_
   refine ldQ 67 Jk ?_
   refine zq 67 I I (.fA I Mb)<|ldQ 67 EM ?_;clear h;intro a w h
   refine Zq 67 h I I<|Qw h (vs:=[_,_]) I call138 (HZ m _ _ _ _ _ _ _ b0) dd ?_;clear h;intro a w h
   refine gL h<|zq 67 I I (Pure1.cast (v':=.bool false) (.unOp I<|Gg _) cgd)<|au 0x12581f60f52f317d24e ?_
   refine yE [0,1,2,3,4,5,6,7,8,9,10,11,12,13,14,15,16,17,18]<|au 0xde50f ?_;clear h
   refine au 0xde50f ?_
   refine au 0x38f87f ?_
   refine au 0xd1f ?_
   refine Zf I kk I mm (cells_lt (k:=10) dd (fun _=>rfl) m.P ((E.getD i ed0).a) oo) isAgg119 sizeOf119 (Zg (k:=10) (fun _=>rfl) ((fun _=>rfl)) m.P (0,0) ((E.getD i ed0).a) oo) (.inl I) dd ?_
   refine au 0xde50f ?_
   refine au 0x77f ?_
   refine ldY EM ?_
   refine au 0xd1f ?_
   refine Zf I kk I mm (cells_lt (k:=10) dd (fun _=>rfl) m.P ((E.getD i ed0).b) oo) isAgg119 sizeOf119 (Zg (k:=10) (fun _=>rfl) ((fun _=>rfl)) m.P (0,0) ((E.getD i ed0).b) oo) (.inl I) dd ?_
   refine yv [_,_] I I call41 (jr _ _ e8 e0) (yB I [(_,_)] I (I1 _ _ _ _ _ _ _ _ _ _) fun h6=>?_)
   refine bR encPt Q [OC m (E.getD i ed0)] a8 ?_;intro C b1 e7 A
   refine au 0x50f ?_
   refine yt I I I EH uu sizeOf38 I nb (by show((flat ((.slice C (Q++[OC m (E.getD i ed0)]).length b1)) && true))=true;simp only[GrowO.flat (A)];rfl) ?_
   refine au 0x24fa7f53f26f431a ?_
   refine zv [_,_] I call139 (ak ((E.getD i ed0).a) ((E.getD i ed0).b)) ?_;intro a w h
   refine Zc<|Np h WW (u:=Zo ((E.getD i ed0).a) ((E.getD i ed0).b)) (m:=q2) I I mm dd ?_;clear h;intro a h
   refine gL h<|za I<|zn<|yE [0,1,2,3,5,6,7,8,10,11,4,9,12,13,14,15]<|au 0x38f87f8 ?_;clear h
   refine au 0x77f88 ?_
   refine ldY EM ?_
   refine au 0x888 ?_
   refine yv [_,_] I I call139 (ak ((E.getD i ed0).a) Q.length)<|yv [_,_] I I call139 (ak ((E.getD i ed0).b) Q.length) ?_
   refine Ya kk ?_;intro a w h
   refine Xe 12 ?_
   refine JI h I WW (u:=Zo ((E.getD i ed0).a) Q.length) (m:=q2) I I uu dd ?_;clear h;intro a w h
   refine Xe 13 ?_
   refine Jt h I (.eX I) dd ?_;clear h;intro a h
   refine Xe 14 ?_
   refine cg (ek:=Zy) (ev:=Qi) h I (m:=q2) (u:=Zo ((E.getD i ed0).a) Q.length) (z:=0) (q:=(Zu q2<|Zo ((E.getD i ed0).a) ((E.getD i ed0).b)).getD 0) I I I uu ?_;clear h;intro a w h
   refine Xe 15 ?_
   refine UT h I WW (u:=Zo ((E.getD i ed0).b) Q.length) (q:=(Zu q2<|Zo ((E.getD i ed0).a) ((E.getD i ed0).b)).getD 0) (m:=Kl q2 (Zo ((E.getD i ed0).a) Q.length) ((Zu q2<|Zo ((E.getD i ed0).a) ((E.getD i ed0).b)).getD 0)) I I I uu ?_;clear h;intro a w h
   refine OF kk ?_
   refine cW ?_
   refine gC h<|zr<|zp (.pN (i+1)<|.add I I)<|au 0x24 ?_;clear h;intro a w h
   exact⟨i+1,⟨oo,_,C,b1,e7,_,⟨by rw[List.length_append,a7];rfl,A⟩,by exact tO h⟩,oo⟩
  ·have J:E.length=i:=dF p
   subst J
   have c3:∀t∈L,D9 Q.length t=true:=by rw[a7];exact hL
   have h5:(EO L).length≤3*L.length:=by unfold EO;rw[List.length_map];exact Nat.le_trans (List.length_filter_le _ _) (Gk L)
   refine gC h<|au 0x60f52f310e ?_
   refine zv [_] I call45 (H5 _ _ _<|Vr a8)<|au 0x52f ?_
   refine stW I I EH ?_
   refine au 0x90f91f60f52f312 ?_;clear h;intro a w h
   refine Zc<|Xb h (vs:=[_,_]) I call142 (jB Q L g aQ L.length Q.length c3 c8 oo) ss dd ?_;clear h;rintro h3 r a w ⟨aR,cR,rfl,U⟩ h
   replace U:GrowO 3 178 (.slice aR (EO L).length cR) (EO L).length (cellsOf Zd (EO L)) r:=U
   refine gL h<|au 0x36f ?_
   refine stW I I HF ?_
   refine au 0x924b2f51f36f3112 ?_;clear h;intro a w h
   refine lpG h [1,2,3,6,7,8,10,21,56,57,58,128,129] pkL (fun Y Z (k:Nat) a w=>k≤(EO L).length ∧ ∃(R:List (Nat×Nat×Nat)) (oS:List (Nat×Obj)),(R.length=(EO L).length∧GrowO 3 178 (.slice aR (EO L).length cR) (EO L).length (cellsOf Zd R) oS)∧St 149 S w0 ((130,nI k)::Y) (oS++(oQ++((b4,bV (.agg #[.slice aQ Q.length Q.length,.slice g L.length L.length,.slice aR ((EO L).length) ((EO L).length)]) 42)::((O,mB Zy Qi q2)::((b6,bV (.agg #[.slice none 0 0,.slice none 0 0,.slice none 0 0]) 42)::((b3,bV (Qz m (some ⟨c,f,none⟩) s o cP cT cS) 42)::[])))))) Z a w) (fun k=>(EO L).length-k) 0 (⟨Nat.zero_le _,EO L,r,⟨rfl,U⟩,by exact h.sub sA⟩) ?_;clear h
   rintro k a w ⟨e9,R,oS,⟨b5,c9⟩,h⟩
   refine gC h<|au 0x12c31 ?_;intro a w h
   refine Zb h I (fun l=>?_) (fun l=>?_)
   ·have e4:k<(EO L).length:=dT l
    obtain ⟨bS,RS,rfl,rfl,c4,e2⟩:=GrowO.open c9 oo
    refine gC h<|au 0x98f431917 ?_
    refine zd I mm isAgg178 sizeOf178 (Kr (k:=3) (fun _=>rfl) ((fun _=>rfl)) R RS (0,0,0) k oo) ?_
    refine zz G5 fun h8=>za I<|stW I I Qg ?_
    refine zn<|yE [0,1,2,3,4,5,6,7,8,9,10,11,12]<|au 0xf0f7af ?_;clear h
    refine au 0x88 ?_
    refine yp I (.fA I HO)<|au 0xde ?_
    refine yp I (.fA I Cx)<|au 0xb1f ?_
    refine yv [_,_] I I call139 (ak ((R.getD k (0,0,0)).1) ((R.getD k (0,0,0)).2.1)) ?_
    refine DK I kk WW (u:=Zo ((R.getD k (0,0,0)).1) ((R.getD k (0,0,0)).2.1)) (m:=q2) I I mm dd ?_
    refine au 0xe9f ?_
    refine yp I (.fA I Cw) ?_
    refine Vq (b:=bS) (cs:=(cellsOf Zd R++RS).toArray) (cs':=(cellsOf Zd (R.set k ((R.getD k (0,0,0)).1,(R.getD k (0,0,0)).2.1,((Zu q2<|Zo (R.getD k (0,0,0)).1 (R.getD k (0,0,0)).2.1).getD 0)))++RS).toArray) (v:=.int .i64 ((((Zu q2<|Zo (R.getD k (0,0,0)).1 (R.getD k (0,0,0)).2.1).getD 0):Nat):Int)) I kk I I (set_I3 R RS k oo _) uu sizeOf3 I (nc R RS k oo) I ?_
    refine yn<|zr<|zp (.pN (k+1)<|.add I I)<|au 0x24 ?_;intro a w h
    exact⟨k+1,⟨oo,R.set k ((R.getD k (0,0,0)).1,(R.getD k (0,0,0)).2.1,((Zu q2 (Zo (R.getD k (0,0,0)).1 (R.getD k (0,0,0)).2.1)).getD 0)),_,⟨by rw[List.length_set];exact b5,lK (j:=k) (x:=((R.getD k (0,0,0)).1,(R.getD k (0,0,0)).2.1,((Zu q2 (Zo (R.getD k (0,0,0)).1 (R.getD k (0,0,0)).2.1)).getD 0))) b5 c4 e2⟩,by exact tO h⟩,oo⟩
   ·have N:(EO L).length=k:=dF l
    subst N
    refine gC h<|au 0xce310e ?_
    refine stW I I Qg ?_
    refine zn<|zt ?_;clear h;intro a w h
    refine Qn (Ψ:=[]) h (Ze h I<|rC Jk) ?_ ss
    exact⟨⟨_,_,_,_,_,_,rfl⟩,rfl⟩
end
section
def ObjR(b:Nat)(o:Obj): Zp where
 p X w := ¬X b∧w.heap[b]?=some o
 st X X' w w' h hk hs hX:=by
  obtain ⟨hb,hc⟩:=h
  have hlt:b<w.heap.size:=by
   rcases Nat.lt_or_ge b w.heap.size with h'|h'
   ·exact h'
   ·simp[Array.getElem?_eq_none h'] at hc
  refine⟨fun hx=>?_,by rw[hk b hlt hb];exact hc⟩
  rcases hX b hx with h1|h1
  ·exact hb h1
  ·omega
theorem ctrO_M{P:Program}{f:FuncId}{args:List Value}{Φ:List Zp}{d:List ((Nat×Nat)×Nat)→Prop}(h:CtrO P f args Φ (fun v o => ∃b q,d q∧v=.map (some b)∧o=[(b,mB Zy Qi q)])):
  Ctr P f args Φ (fun v Ψ => ∃b q,d q∧v=.map (some b)∧Ψ=[ObjR b (mB Zy Qi q)]):=by
 intro X w c a
 refine(h X w c a).mono ?_
 rintro e w' ⟨v,g,he,⟨b,q,hq,rfl,rfl⟩,i,l,hd⟩
 refine⟨_,[ObjR b (mB Zy Qi q)],he,⟨b,q,hq,rfl,rfl⟩,i,fun m hR=>?_⟩
 rw[List.mem_singleton] at hR
 subst hR
 obtain ⟨k,j⟩:=l _ (List.mem_singleton.2 rfl)
 exact⟨fun hx=>by have:=c b hx;simp only at k;omega,j⟩
section
variable{P:Program}{n:Nat}{S:Nat→Prop}{w0 w:World}{L:List (Nat×Value)}{σ:List (Nat×Obj)}{Φ:List Zp}{a:Act}{G:Act→World→Prop}{Q:Exit→Act→World→Prop}
variable{b d:Nat}{T K E:TypeId}{x y:Operand}{ty:TypeId}{pos:String}{aft:Array Edge}{g:Option (Nat×Bool)}{α β:Type}[DecidableEq α]{ek:α→Value}{ev:β→Value}{m:List (α×β)}{z0:β}
theorem op_lkR(h:St n S w0 L σ Φ a w)(M:MK P T K E ek (ev z0)){u:α}(hx:Fx.ev L x=some (.map (some b)))(e:Fx.ev L y=some (ek u))(hm:ObjR b (mB ek ev m)∈Φ)(hd:d<n)(k:∀c,St n S w0 ((d,ev ((Zu m u).getD z0))::L) σ Φ c w→G c w): (Oper.mk (some d) (.lookup T x y false) ty pos aft g).wp P a w G Q:=by
 obtain ⟨_,_,_,f⟩:=h.fact hm
 exact Qf (by simp only[execOp,h.ev hx,h.ev e,Sem.run_bind,M.lookup m u false f.2];rfl) (k _ (h.put hd _))
end
theorem bk(K:Nat)(m:Ms)(o l n:Option Addr)(E B D:Nat)(hv:MV K m)(b:Nat)(q:List ((Nat×Nat)×Nat)): Ctr prog 75 [Qz m o l n E B D,.map (some b)] [Row o (cellsOf encPt m.P),Row l (cellsOf Zd m.T),Row n (cellsOf Zd m.S),ObjR b (mB Zy Qi q)]
   (fun v Ψ => ∃ad,v=.slice ad (Ac m.T q).length (Ac m.T q).length∧Ψ=[Row ad (cellsOf Qp (Ac m.T q))]):=by
 refine fnI func75 I ntmps75 fun S w0 H=>zS (zx I fun F=>au 0xce311253125 ?_)
 refine zF [_] call40 (H3 K m _ _ _ _ _ _ hv) ?_;rintro v9 G ⟨z,rfl,rfl⟩
 have J:=Gk m.T
 have N:=hv.nT
 refine au 0x92413f ?_;intro a w h
 refine lpG h [1,9,10] pkL (fun Y Z (i:Nat) a w=>i≤(Za m.T).length ∧ ∃(c:Option Addr) (c1:Nat) (s:List (Nat×Obj)),(GrowO 4 124 (.slice c (((Za m.T).take i).filter<|Ss q).length c1) (((Za m.T).take i).filter<|Ss q).length (cellsOf Qp (((Za m.T).take i).filter<|Ss q)) s)∧St 30 S w0 ((5,(.slice c (((Za m.T).take i).filter<|Ss q).length c1))::(11,nI i)::Y) (s++((F,bV (Qz m o l n E B D) 42)::[])) Z a w) (fun i=>(Za m.T).length-i) 0 (⟨Nat.zero_le _,none,0,[],GrowO.nil _ _,by exact(h).sub sA⟩) ?_;clear h
 rintro i a w ⟨C,c,c1,s,d,h⟩
 refine gC h<|au 0x12c31 ?_;intro a w h
 refine Zb h I (fun f=>?_) (fun f=>?_)
 ·have g:i<(Za m.T).length:=dT f
  obtain ⟨t,y,rfl⟩:=h.row_addr (ad:=z) (M:=cellsOf Qp (Za m.T)) mm (nE 4)
  refine gC h<|au 0x27f31917 ?_
  refine zD I mm (cells_lt (k:=4) dd (fun _=>rfl) (Za m.T) i oo) isAgg124 sizeOf124 (Zg (k:=4) (fun _=>rfl) ((fun _=>rfl)) (Za m.T) ed0 i oo) (.inl I) ?_
  refine zz Bj fun O=>stW I I Xw ?_
  refine au 0x24fa7f53f26f4312 ?_
  refine zp (.build [(_,_),(_,_)] I<|GY _ _) ?_;clear h;intro a w h
  refine Zc<|op_lkR h Nu (u:=(((Za m.T).getD i ed0).a,((Za m.T).getD i ed0).b)) (m:=q) I I mm dd ?_;clear h;intro a h
  refine gL h<|au 0x70f ?_;clear h;intro a w h
  refine Zh h (fun e h=>?_) (fun e h=>?_)
  ·refine wpList_nil ?_
   refine cW ?_
   refine Qo h I ?_
   refine gC h<|zr<|zm I<|ldZ Dz ?_
   refine zB [(_,_)] I (KZ _ _ _ _) fun L=>?_
   refine apC Qp (((Za m.T).take i).filter<|Ss q) [(Za m.T).getD i ed0] d ?_ (hr:=by(try dsimp only);have:=ml (Za m.T) q i;omega);intro r x A j a w h
   refine gL h<|za I<|zn<|zr<|zp (.pN (i+1)<|.add I I)<|au 0x24 ?_;clear h;intro a w h
   rw[mi g e] at h j
   exact⟨i+1,⟨oo,r,x,A,j,by exact tO h⟩,oo⟩
  ·refine wpList_nil ?_
   refine cW ?_
   refine Zj h I ?_
   refine gC h<|zk<|zr<|zp (.pN (i+1)<|.add I I)<|au 0x24 ?_;clear h;intro a w h
   rw[cut_no g e] at h d
   exact⟨i+1,⟨oo,c,c1,s,d,by exact tO h⟩,oo⟩
 ·have p:(Za m.T).length=i:=dF f
  subst p
  refine gC h<|au 0x4310e ?_;clear h;intro a w h
  rw[List.take_length,show List.filter (Ss q) (Za m.T)=Ac m.T q from rfl] at h d
  replace h:=h.shareO' H d
  refine gL h<|zv [_] I call137 (SV c _ c1<|Vr d)<|au 0x625 ?_;clear h;intro a w h
  refine Qn (Ψ:=[Row c (cellsOf Qp<|Ac m.T q)]) h (Ze h I<|.tmp I) ?_ ss
  exact⟨c,rfl,rfl⟩
end
section
def FQ(E:List Ed)(N:Nat): Nat→List ((Nat×Nat)×Nat)
 | 0=>[]
 | i+1=>Kl (FQ E N i) ((E.getD i ed0).a,(E.getD i ed0).b) (N+i)
theorem getA_put{α β:Type}[DecidableEq α](m:List (α×β))(x k:α)(y:β): Zu (Kl m x y) k=if k=x then some y else Zu m k:=by
  induction m with
  | nil => simp only [Kl, Zu]; by_cases e : x = k
           ·rw[if_pos e,if_pos e.symm]
           ·rw[if_neg e,if_neg (fun h=>e h.symm)]
  | cons p m a =>
    by_cases e:p.1=x
    · rw[Kl,if_pos e,Zu,Zu]
      by_cases h:k=x
      ·rw[if_pos (show x=k from h.symm),if_pos h]
      ·rw[if_neg (show ¬x=k from fun q=>h q.symm),if_neg h,if_neg (by rw[e];exact fun q=>h q.symm)]
    · rw[Kl,if_neg e,Zu,Zu,a]
      by_cases h:p.1=k
      ·rw[if_pos h,if_pos h,if_neg (by rw[←h];exact e)]
      ·rw[if_neg h,if_neg h]
theorem WZ{E:List Ed}{N:Nat}{k:Nat×Nat}{v:Nat}: ∀ {i},Zu (FQ E N i) k=some v → ∃j,j<i∧v=N+j∧k=((E.getD j ed0).a,(E.getD j ed0).b)
 | 0,h=>by cases h
 | i+1,h=>by
  rw[FQ,getA_put] at h
  split at h
  ·rename_i e;cases h;exact⟨i,Nat.lt_succ_self i,rfl,e⟩
  ·obtain ⟨j,hj,h1,c⟩:=WZ h;exact⟨j,oo,h1,c⟩
theorem Rx{E:List Ed}{N i:Nat}{k:Nat×Nat}(h:(Zu (FQ E N i) k).isSome=true): ∃j,j<i∧(Zu (FQ E N i) k).getD 0=N+j∧k=((E.getD j ed0).a,(E.getD j ed0).b):=by
 cases c:Zu (FQ E N i) k with
 | none=>rw[c] at h;cases h
 | some v=>obtain ⟨j,h1,d,e⟩:=WZ c;exact⟨j,h1,by rw[Option.getD_some];exact d,e⟩
theorem iP{a b c:Nat}(h:a≠c): Zo a b≠Zo b c:=by
 intro e
 unfold Zo at e
 have h1:=congrArg Prod.fst e
 have d:=congrArg Prod.snd e
 simp only at h1 d
 omega
theorem dY{n k:Nat}{t:Nat×Nat×Nat}(h:D9 n t=true)(hk:n≤k): D9 k t=true:=by
 obtain ⟨h1,d,e,c,b,a⟩:=Xz.1 h
 exact Xz.2 ⟨oo,oo,by omega,c,b,a⟩
theorem Hm{E:List Ed}{N n a b:Nat}(g:∃j,j<E.length∧n=N+j ∧ ∃k,k=((E.getD j ed0).a,(E.getD j ed0).b)∧k≠Zo a b)(ha:a<N)(m:b<N)(d:a≠b):
  ∀x∈Yz (FQ E N E.length) 1 (n,a,b),D9 (N+E.length) x=true:=by
 obtain ⟨j,hj,rfl,k,hk,c⟩:=g
 intro x hx
 rw[Yz] at hx
 split at hx
 ·rename_i hs
  obtain ⟨h,i,h1,f⟩:=Rx hs
  simp only at h1 f
  have l:h≠j:=fun e=>c (by rw[hk,f,e])
  simp only[Yz,h1,List.cons_append,List.nil_append,List.mem_cons,List.not_mem_nil,or_false] at hx
  rcases hx with rfl|rfl
  ·exact Xz.2 ⟨by simp only;omega,by simp only;omega,by simp only;omega,by simp only;omega,by simp only;omega,by simp only;omega⟩
  ·exact Xz.2 ⟨by simp only;omega,by simp only;omega,by simp only;omega,by simp only;omega,by simp only;omega,by simp only;omega⟩
 ·rw[List.mem_singleton] at hx
  subst hx
  exact Xz.2 ⟨by simp only;omega,by simp only;omega,by simp only;omega,by simp only;omega,d,by simp only;omega⟩
theorem eT{E:List Ed}{N:Nat}{c:Nat×Nat×Nat}(hc:D9 N c=true): ∀x∈Yz (FQ E N E.length) 2 c,D9 (N+E.length) x=true:=by
 obtain ⟨h1,h,k,g,l,d⟩:=Xz.1 hc
 intro x hx
 rw[Yz] at hx
 split at hx
 ·rename_i hs
  obtain ⟨j,hj,i,f⟩:=Rx hs
  rw[i] at hx
  rcases List.mem_append.1 hx with hx|hx
  ·exact Hm ⟨j,hj,rfl,_,rfl,by rw[←f];exact fun e=>iP (a:=c.1) (b:=c.2.1) (c:=c.2.2) (fun q=>d q.symm) e.symm⟩ h1 h g x hx
  ·exact Hm ⟨j,hj,rfl,_,rfl,by rw[←f];exact iP g.symm⟩ k h1 d x hx
 ·rw[List.mem_singleton] at hx
  subst hx
  exact dY hc (Nat.le_add_right _ _)
def allT(q:List ((Nat×Nat)×Nat))(T:List (Nat×Nat×Nat)): Nat→List (Nat×Nat×Nat)
 | 0=>[]
 | t+1=>allT q T t++Yz q 2 (T.getD t (0,0,0))
def iE(q:List ((Nat×Nat)×Nat))(T:List (Nat×Nat×Nat)): Nat→List Nat
 | 0=>[]
 | t+1=>iE q T t++List.replicate (Yz q 2 (T.getD t (0,0,0))).length t
theorem MC(q:List ((Nat×Nat)×Nat))(T:List (Nat×Nat×Nat)): ∀t,(allT q T t).length≤4*t
 | 0=>Nat.le_refl _
 | t+1=>by rw[allT,List.length_append];have:=MC q T t;have:=DN q 2 (T.getD t (0,0,0));omega
theorem Ro(q:List ((Nat×Nat)×Nat))(T:List (Nat×Nat×Nat)): ∀t,(iE q T t).length≤4*t
 | 0=>Nat.le_refl _
 | t+1=>by rw[iE,List.length_append,List.length_replicate];have:=Ro q T t;have:=DN q 2 (T.getD t (0,0,0));omega
theorem RU(q:List ((Nat×Nat)×Nat)): ∀d c,0<(Yz q d c).length
 | 0,_=>Nat.one_pos
 | d+1,c=>by
  rw[Yz];split
  ·rw[List.length_append];have:=RU q d ((Zu q (Zo c.2.1 c.2.2)).getD 0,c.1,c.2.1);omega
  ·exact Nat.one_pos
theorem gm(q:List ((Nat×Nat)×Nat))(T:List (Nat×Nat×Nat)){t:Nat}(h:0<t): 0<(allT q T t).length:=by
 obtain ⟨s,rfl⟩:∃s,t=s+1:=⟨t-1,oo⟩
 rw[allT,List.length_append];have:=RU q 2 (T.getD s (0,0,0));omega
theorem Sz{E:List Ed}{N:Nat}{T:List (Nat×Nat×Nat)}(hT:∀c∈T,D9 N c=true): ∀t,t≤T.length → ∀x∈allT (FQ E N E.length) T t,D9 (N+E.length) x=true
 | 0,_,_,h=>by cases h
 | t+1,ht,x,h=>by
  rw[allT] at h
  rcases List.mem_append.1 h with h|h
  ·exact Sz hT t oo x h
  ·exact eT (hT _ (getD_mem T oo)) x h
theorem mj{n:Nat}{T:List (Nat×Nat×Nat)}(hT:∀c∈T,D9 n c=true)(q:List ((Nat×Nat)×Nat)): ∀e∈Ac T q,e.a<n∧e.b<n:=by
 intro e he
 have h:=Fp hT e (List.mem_filter.1 he).1
 have h1:=h.lt;have d:=h.n
 simp only at h1 d
 omega
theorem Ug(T:List (Nat×Nat×Nat))(q:List ((Nat×Nat)×Nat)): (Ac T q).length≤3*T.length:=Nat.le_trans (List.length_filter_le _ _) (Gk T)
theorem NR(q:List ((Nat×Nat)×Nat))(b g c a f:Nat): ∀d,d≤10→nf q b g c a f d
 | 0,_=>ba q b g c a f 0 dd (fun _ h=>by cases h)
 | d+1,h=>ba q b g c a f (d+1) h (fun e he=>by cases he;exact NR q b g c a f d oo)
end
section
theorem it(K:Nat)(m:Ms)(d e f:Option Addr)(g n p:Nat)(l:List Nat)(ad:Option Addr)(c:Nat)(hv:MV K m)(hK:K≤1000)(hl:∀k∈l,k<m.T.length)(hn:l.length≤10000)(hT:m.T.length≤100)(hP:m.P.length≤1000): Ctr prog 26 [Qz m d e f g n p,.slice ad l.length c] [Row d (cellsOf encPt m.P),Row e (cellsOf Zd m.T),Row f (cellsOf Zd m.S),Row ad (List.map Qi l)] (fun v Ψ=>(∃(a1 a2 a3 a4:Option Addr) (n1 n2 X n4:Nat),v=.tuple #[.agg #[.slice a1 n1 n1,.slice a2 n2 n2,.slice a3 X X],.slice a4 n4 n4,.int .i64 0])∧Ψ=[]):=by
 have e6:=hv.nS
 have c5:=hv.neP
 have e8:=hv.ne
 refine fnI func26 I ntmps26 fun S w0 hS=>zS (zx I fun z=>?_);intro a w h
 replace h:=h.shareAll hS ((Value.cells (Qz m d e f g n p)).toList) I
 refine gL h (zz zeroValue42 fun Q=>zz zeroValue69 fun H=>au 0x31125 ?_)
 refine zD (b:=z) (off:=0) (j:=0) (M:=(Value.cells<|Qz m d e f g n p).toList) (v:=Qz m d e f g n p) I mm (Nat.succ_pos _) isAgg42 sizeOf42 I (.inl I) ?_;clear h;intro a w h
 refine Zc<|Jl h (vs:=[_]) I call72 (G3 K m _ _ _ _ _ _ hv) (by exact hsA) dd ?_;clear h;intro a w h
 refine gL h<|au 0x4a0f ?_
 refine zq 18 I I (.move I)<|zq 18 I I (.makeFunc [] [_] I I) ?_;clear h;intro a w h
 refine Zq 18 h I I<|Jl h (vs:=[_,_]) I call73 (oC m _ _ _ _ _ _ l _ _ z 0 oo hl oo) (by exact hsA) dd ?_;clear h;intro a w h
 refine gL h<|au 0x17d24e ?_
 refine yE [0,1,2,3,4,5] ?_;clear h
 refine Zf (b:=z) (off:=0) (j:=0) (M:=(Value.cells<|Qz m d e f g n p).toList) (v:=Qz m d e f g n p) I kk I mm (Nat.succ_pos _) isAgg42 sizeOf42 I (.inl I) dd ?_
 refine Zf (b:=z) (off:=0) (j:=0) (M:=(Value.cells<|Qz m d e f g n p).toList) (v:=Qz m d e f g n p) I kk I mm (Nat.succ_pos _) isAgg42 sizeOf42 I (.inl I) dd ?_
 refine au 0x8 ?_
 refine Zs I kk (vs:=[_,_]) I call76 (ctrO_M<|bh m _ _ _ _ _ _ l _ _ hl hn hv.ne oo) (by exact hsA) dd ?_;rintro e7 e3 ⟨mq,q,hq,rfl,rfl⟩
 refine Zs I kk (vs:=[_,_]) I call75 (bk K m _ _ _ _ _ _ hv mq q) (by exact hsA) dd ?_;rintro v28 c9 ⟨aC,rfl,rfl⟩
 refine au 0x31a3e ?_;intro a w h
 have e5:=Ug m.T q
 refine Zc<|D8 Zy Qi h dd ?_;clear h;intro o a w h
 refine gL h (zz zeroValue159 fun G=>stW I I Kk ?_)
 refine au 0x92413f43112 ?_;clear h;intro a w h
 refine lpG h [2,4,5,6,7,8,30,31] pkL (fun Y Z (i:Nat) a w=>i≤(Ac m.T q).length∧St 82 S w0 ((32,nI i)::Y) [(G,bV (.map<|some o) 159),(o,mB Zy Qi<|FQ (Ac m.T q) m.P.length i),(H,bV ((.slice none 0 0)) 69),(Q,bV (.agg #[.slice none 0 0,.slice none 0 0,.slice none 0 0]) 42)] Z a w) (fun i=>(Ac m.T q).length-i) 0 (⟨Nat.zero_le _,by exact(h).sub sA⟩) ?_;clear h
 rintro i a w ⟨e0,h⟩
 refine gC h<|au 0x12c31 ?_;intro a w h
 refine Zb h I (fun x=>?_) (fun x=>?_)
 ·have c3:i<(Ac m.T q).length:=dT x
  obtain ⟨e1,c7,rfl⟩:=h.row_addr (ad:=aC) (M:=cellsOf Qp (Ac m.T q)) mm (nE 4)
  refine gC h<|au 0x27f431917 ?_
  refine zD I mm (cells_lt (k:=4) dd (fun _=>rfl) (Ac m.T q) i oo) isAgg124 sizeOf124 (Zg (k:=4) (fun _=>rfl) ((fun _=>rfl)) (Ac m.T q) ed0 i oo) (.inl I) ?_
  refine zz Bj fun a7=>za I<|stW I I Xw ?_
  refine au 0x24fa7f53f26ff4f32 ?_
  refine zp (.build [(_,_),(_,_)] I<|GY _ _)<|au 0x52f ?_
  refine zD (b:=z) (off:=0) (j:=0) (M:=(Value.cells<|Qz m d e f g n p).toList) (v:=.slice d m.P.length g) I mm nb isAgg38 sizeOf38 I (.inr I) ?_
  refine au 0x481f ?_
  refine zp (.pN (m.P.length+i)<|.add I I) ?_;clear h;intro a w h
  refine Zc<|Hf h Nu (u:=(((Ac m.T q).getD i ed0).a,((Ac m.T q).getD i ed0).b)) (q:=m.P.length+i) (m:=FQ (Ac m.T q) m.P.length i) I I I uu ?_;clear h;intro a w h
  replace h:=h.same I (show _=[(a7,bV (Qp ((Ac m.T q).getD i ed0)) 124),(G,bV (.map (some o)) 159),(o,mB Zy Qi (FQ (Ac m.T q) m.P.length (i+1))),(H,bV ((.slice none 0 0)) 69),(Q,bV (.agg #[.slice none 0 0,.slice none 0 0,.slice none 0 0]) 42)] from I) I
  refine gL h<|zn<|zr<|zp (.pN (i+1)<|.add I I)<|au 0x24 ?_;clear h;intro a w h
  exact⟨i+1,⟨oo,tO h⟩,oo⟩
 ·have F:(Ac m.T q).length=i:=dF x
  subst F
  refine gC h<|ze<|zS (zz zeroValue39 fun A=>zn<|zS (zz zeroValue162 fun B=>zn<|zS<|zp (.makeFunc [] [_,_,_,_] I I)<|stW I I Kk ?_))
  refine au 0x91f3112 ?_
  refine zD (b:=z) (off:=0) (j:=1) (M:=(Value.cells<|Qz m d e f g n p).toList) (v:=.slice e m.T.length n) I mm nb isAgg39 sizeOf39 I (.inr I) ?_
  refine au 0x924e0f ?_;clear h;intro a w h
  refine lpG h [2,4,5,6,7,8,11,12,30,31,32,51,52] pkL (fun Y Z (t:Nat) a w=>t≤m.T.length ∧ ∃(aW R:Option Addr) (cW V:Nat) (W U:List (Nat×Obj)),(GrowO 3 127 (.slice aW (allT (FQ (Ac m.T q) m.P.length (Ac m.T q).length) m.T t).length cW) (allT (FQ (Ac m.T q) m.P.length (Ac m.T q).length) m.T t).length (cellsOf Zd<|allT (FQ (Ac m.T q) m.P.length (Ac m.T q).length) m.T t) W∧GrowO 1 3 (.slice R (iE (FQ (Ac m.T q) m.P.length (Ac m.T q).length) m.T t).length V) (iE (FQ (Ac m.T q) m.P.length (Ac m.T q).length) m.T t).length (List.map Qi<|iE (FQ (Ac m.T q) m.P.length (Ac m.T q).length) m.T t) U)∧St 82 S w0 ((53,nI t)::Y) (W++(U++((A,bV ((.slice aW (allT (FQ (Ac m.T q) m.P.length (Ac m.T q).length) m.T t).length cW)) 39)::((H,bV ((.slice R (iE (FQ (Ac m.T q) m.P.length (Ac m.T q).length) m.T t).length V)) 69)::((B,bV (.func (.func 77) #[] #[.pointer (some ⟨G,0,none⟩),.pointer (some ⟨A,0,none⟩),.pointer (some ⟨H,0,none⟩),.pointer (some ⟨B,0,none⟩)]) 162)::((G,bV (.map<|some o) 159)::((o,mB Zy Qi<|FQ (Ac m.T q) m.P.length ((Ac m.T q).length))::((Q,bV (.agg #[.slice none 0 0,.slice none 0 0,.slice none 0 0]) 42)::[])))))))) Z a w) (fun t=>m.T.length-t) 0 (⟨Nat.zero_le _,none,none,0,0,[],[],⟨GrowO.nil _ _,GrowO.nil _ _⟩,by exact(h.perm (List.Perm.trans (Bh<|List.Perm.refl _)<|List.Perm.cons _<|List.Perm.trans (Bh<|Bh<|Bh<|List.Perm.refl _)<|List.Perm.cons _<|List.Perm.refl _).symm).sub sA⟩) ?_;clear h
  rintro t a w ⟨c8,aW,R,cW,V,W,U,⟨N,J⟩,h⟩
  refine gC h<|au 0x12c31 ?_;intro a w h
  refine Zb h I (fun s=>?_) (fun s=>?_)
  ·have b7:t<m.T.length:=dT s
   obtain ⟨y,r,rfl⟩:=h.row_addr (ad:=e) (M:=cellsOf Zd m.T) mm (nE 3)
   refine gC h<|au 0x42f431917 ?_
   refine zD I mm (cells_lt (k:=3) dd (fun _=>rfl) m.T t oo) isAgg127 sizeOf127 (Zg (k:=3) (fun _=>rfl) ((fun _=>rfl)) m.T (0,0,0) t oo) (.inl I) ?_
   refine zz A3 fun a8=>za I<|stW I I Qg ?_
   refine au 0x4cef4f32 ?_;clear h;intro a w h
   refine Zc<|EU h hS (fs:=[]) (cs:=[.pointer (some ⟨G,0,none⟩),.pointer (some ⟨A,0,none⟩),.pointer (some ⟨H,0,none⟩),.pointer (some ⟨B,0,none⟩)]) I (vs:=[_,_,_]) I call77 (NR (FQ (Ac m.T q) m.P.length (Ac m.T q).length) G A H B o 2 dd (m.T.getD t (0,0,0)) t (allT (FQ (Ac m.T q) m.P.length (Ac m.T q).length) m.T t) (iE (FQ (Ac m.T q) m.P.length (Ac m.T q).length) m.T t) _ _ _ _ W U ([(a8,bV (Zd<|m.T.getD t (0,0,0)) 127),(Q,bV (.agg #[.slice none 0 0,.slice none 0 0,.slice none 0 0]) 42)]) [Row aC (cellsOf Qp<|Ac m.T q),ObjR mq (mB Zy Qi q),Row (some ⟨z,0,none⟩) ((Value.cells<|Qz m d (some ⟨y,r,none⟩) f g n p).toList),Row d (cellsOf encPt m.P),Row (some ⟨y,r,none⟩) (cellsOf Zd m.T),Row f (cellsOf Zd m.S),Row ad (List.map Qi l)] (by have:=MC (FQ (Ac m.T q) m.P.length (Ac m.T q).length) m.T t;omega) (by have:=Ro (FQ (Ac m.T q) m.P.length (Ac m.T q).length) m.T t;omega) N J) (((List.Perm.trans (WA<|List.Perm.refl _)<|List.Perm.append_left _<|List.Perm.trans (WA<|List.Perm.refl _)<|List.Perm.append_left _<|List.Perm.trans (Bh<|List.Perm.refl _)<|List.Perm.cons _<|List.Perm.trans (Bh<|List.Perm.refl _)<|List.Perm.cons _<|List.Perm.trans (Bh<|List.Perm.refl _)<|List.Perm.cons _<|List.Perm.trans (Bh<|List.Perm.refl _)<|List.Perm.cons _<|List.Perm.trans (Bh<|List.Perm.refl _)<|List.Perm.cons _<|List.Perm.refl _))) ss ss ?_;clear h;rintro e4 e2 c6 a w ⟨b9,b6,b0,b3,a6,b1,L,O,rfl,rfl⟩ h
   refine gL h<|zn<|zr<|zp (.pN (t+1)<|.add I I)<|au 0x24 ?_;clear h;intro a w h
   exact⟨t+1,⟨oo,b9,b6,b0,b3,a6,b1,⟨L,O⟩,by exact tO h⟩,oo⟩
  ·have E:m.T.length=t:=dF s
   subst E
   replace h:=h.shareO' hS N
   refine wp_exit<|wp_seq<|wp_seq<|wp_region_lit ?_
   have e9:=MC (FQ (Ac m.T q) m.P.length (Ac m.T q).length) m.T m.T.length
   refine gL h<|au 0x52f ?_
   refine zD (b:=z) (off:=0) (j:=0) (M:=(Value.cells<|Qz m d e f g n p).toList) (v:=.slice d m.P.length g) I mm nb isAgg38 sizeOf38 I (.inr I) ?_
   refine au 0x13f481f ?_
   refine zp (.pN (m.P.length+((Ac m.T q).length))<|.add I I)<|zp (.gtr I I) (bbF (fun D=>(by exfalso;have:=of_decide_eq_true D;omega)) fun D=>zm I<|ldQ 70 Ar ?_)
   refine zq 70 I I (.builtin [_] I<|Vn _ _ _)<|zq 70 I I (.gtr I I) (bbF (fun C=>(by exfalso;have:=of_decide_eq_true C;omega)) fun C=>au 0x17d24e ?_)
   refine yE [0,1,2,4,3,5,6,7,8] ?_;clear h
   refine Zf (b:=z) (off:=0) (j:=0) (M:=(Value.cells<|Qz m d e f g n p).toList) (v:=Qz m d e f g n p) I kk I mm (Nat.succ_pos _) isAgg42 sizeOf42 I (.inl I) dd ?_
   refine au 0x8 ?_
   refine ldY Ar ?_
   refine ldY Ar ?_
   refine Zs I kk (vs:=[_,_,_]) I call79 (ip K m _ _ _ _ _ _ (Ac m.T q) _ _ (allT (FQ (Ac m.T q) m.P.length (Ac m.T q).length) m.T m.T.length) _ _ hv hK (mj hv.num q) oo (Sz hv.num m.T.length<|Nat.le_refl _) (gm _ _ hv.ne) oo) (by exact hsA) dd ?_;rintro v79 c4 ⟨⟨a1,a2,a3,n1,n2,X,rfl⟩,rfl⟩
   refine yv [_] I I call43 (SX R _ V<|Vr J)<|stV I I I Qg ?_
   refine stV I I I Kk ?_
   refine au 0x6a3e ?_;intro a w h
   refine Qn (Ψ:=[]) h (Ah h I (rC Jk) (rC Ar)<|.tmp I) ?_ ss
   exact⟨⟨_,_,_,_,_,_,_,_,rfl⟩,rfl⟩
end
end Go.Proofs.YtejhdcohoggojaaGreatDoor
