/- Walks of functions. By an AI agent. -/
import Derived.Test.YtdadideknhmbbaaGreatDoorEst6
set_option linter.unusedVariables false
set_option linter.unusedSimpArgs false
set_option maxRecDepth 4000
set_option maxHeartbeats 8000000
namespace Go.Proofs.YtdadideknhmbbaaGreatDoor
open Go Go.Proofs Go.Fx Tryz
attribute [local irreducible] Oper.wp Code.wp wpList Fx.Head wpOp
variable{o7 b0 l6 o0 o9 l8 o2 n2 a8 l5 p1 o4 p3 n4 o6 n9 o8 l7 o1 p0 l9 o3 p2 n3 o5 p4 n5:Value}{r2 q9:Option Addr}{O:List Rat}{e6:Array Bool}{e4:Array Oper}{q4 X:Rat}{e9 h0:Operand}{C:List ((Nat×Nat)×Nat)}{a7 k9:List (Nat×Nat×Nat)}{q6 a6:List Value}{e3 b2:World}{e7 h6 h3 h5 h2 h4:TypeId}{b5:List Zs}{i7 N W e8 i6 q5 U a1 i1:Nat}{j4:Type _}{e0 j0 e1 k7:List (Nat×Obj)}{F:Nat×Nat×Nat}{j1 r3:Type}{p7 Z:Nat->Nat}{b6:List Gv}{b3 q3 j5:Pt}{e2:Act}{r p5:List Ed}{c9:List (Nat×Value)}{c7:Int}{A:Pr}{h7:String}{k6:Program}{h9:TypeInfo}{e5:Exit->Act->World->Prop}{j6:Ed}{j7:Ed->Rat}{b1:Nat->Prop}{h8:Array Edge}(b7:Pr)(c6 b8 b9 c3:Option Addr)(k5:List Rat)(b4 p6:List Ed)(j2:List ((Nat×Nat)×Nat))(e:List (Nat×Nat×Nat))(k8:List Value)(j o:Nat)(p8:List Tm)(c8 p9:Rat)(l2:Ms)(j3 l3 l4:Option Addr)(h J:Nat)(j8:List Pl)(c4:Option Addr)(k3:List ((Nat×Nat)×Ed))(q7:Bool)(c5 q8:Nat×Nat)(k4:Ed)(s:Nat)
theorem oK: Zm false 1 #[a8,b0,l5,l6,l7,l8,l9,n2,n3,n4,n5,n9,o0,o1,o2,o3,o4,o5,o6,o7,o8,o9,p0,p1,p2,p3,p4] 2=some l5:=rfl
theorem hsE{a:j4}{l L:List j4}(t:∀R∈l,R∈L)(h:a∈L:=by first|assumption|(repeat(first|exact hI _ (List.Mem.head _)|apply eg|exact List.Mem.head _|apply List.Mem.tail))): ∀R∈a::l,R∈L:=hsC t h
theorem hsF{l L:List j4}(h:∀R∈l,R∈L:=by repeat(first|exact(λ_ hR=>absurd hR cf)|refine hsE ?_)): ∀R∈l,R∈L:=h
theorem rq(x y:Int)(w:World)(ty:TypeId)(cs:Array Bool): (Go.builtin .max #[3,3] ty cs #[.int .i64 x,.int .i64 y]).run prog w=.ok (.value (.int .i64 (max x y))) w:=by
 simp[go_sem]
def mF(S:List (Nat×Nat×Nat)): Nat->List ((Nat×Nat)×Nat)
 | 0=>[]
 | i+1=>Va (mF S i) ((S.getD i (0,0,0)).1,(S.getD i (0,0,0)).2.1) (S.getD i (0,0,0)).2.2
abbrev LF(p:Pr)(e:Ed): Nat:=(Zo (mF p.m.S p.m.S.length) (e.a,e.b)).getD 0
abbrev QI(p:Pr)(V:List Rat)(d:Pt)(t:Nat): List Tm:=XX (Vk p.k0 p.k1 (uT p.m p.o V (p.m.T.getD t (0,0,0)))) (Vk p.k1 p.k2 (uT p.m p.o V (p.m.T.getD t (0,0,0)))) d
def WB(e:Ed): Bool:=decide (e.l>=0) && decide (e.r>=0)
abbrev dE(p:Pr)(e:Ed): Pt:=Vv (pt p.m e.b) (pt p.m e.a)
def K7(p:Pr)(V:List Rat)(e:Ed): List Tm :=
 if WB e=true then norm (QI p V (dE p e) e.l.toNat++Qc ((-1:Int):Rat) (QI p V (dE p e) e.r.toNat))
 else if (Gg p.G (LF p e)).1.fix=true then []
 else norm (XX (Gg p.G (LF p e)).1.x.l (Gg p.G (LF p e)).1.y.l (dE p e)++Qc ((-1:Int):Rat) (QI p V (dE p e) (max e.l e.r).toNat))
def Ao(p:Pr)(V:List Rat)(e:Ed): Rat:=YK (norm (Vl (K7 p V e) (K7 p V e))) (pt p.m e.a) (pt p.m e.b)
theorem Ug{G:List Gv}: (Gg G j).1=gv0\/(Gg G j).1∈G:=by
 by_cases h:ixG G j<0
 ·rw[Nf h];exact .inl rfl
 have h1:=ixG_lt G j;rw[F6 (i:=(ixG G j).toNat) oo];exact .inr (getD_mem G oo)
theorem Tk{g:Gv}(h:g∈b6): Row g.x.a (cellsOf Zy g.x.l)∈Je b6/\Row g.y.a (cellsOf Zy g.y.l)∈Je b6:=by
 obtain ⟨i,b,rfl⟩:=List.mem_iff_getElem.1 h;have:=Kv b;rw[show b6.getD i gv0=b6[i] from by simp[List.getD,b]] at this;exact this.2
theorem LW(h:(Vr (Je b6)).p b1 b2): (Row (Gg b6 j).1.x.a (cellsOf Zy (Gg b6 j).1.x.l)).p b1 b2/\(Row (Gg b6 j).1.y.a (cellsOf Zy (Gg b6 j).1.y.l)).p b1 b2:=by
 rcases Ug (G:=b6) j with e|hm
 ·rw[e];exact⟨λb=>absurd rfl b,λb=>absurd rfl b⟩
 exact⟨h _ (Tk hm).1,h _ (Tk hm).2⟩
theorem Uh(a:EsV A O)(n:Nat): Pq 4 1000 (Gg A.G n).1.x.l/\Pq 4 1000 (Gg A.G n).1.y.l:=by
 rcases Ug (G:=A.G) n with e|hm
 ·rw[e];exact⟨Df 4 999,Df 4 999⟩
 exact a.G _ hm
theorem LV(a:EsV A O)(hd:PtK 10 b3){t:Nat}(ht:t<A.m.T.length): Pq 2 29019 (QI A O b3 t):=by
 have hu:=gp a.pv.m a.pv.o a.xV a.n (getD_mem A.m.T (d:=(0,0,0)) ht);exact XW (BZ hu dd a.k0 a.k1) (BZ hu dd a.k1 a.k2) dd hd
theorem dE_K{p:Pr}(ha:PtK 4 b3)(c:PtK 4 j5): PtK 10 (Vv j5 b3):=by
 obtain ⟨d,a2⟩:=ha;obtain ⟨f,e⟩:=c;exact⟨by have:=Yg j5.1 b3.1;show Zr (j5.1-b3.1)<=10;omega,by have:=Yg j5.2 b3.2;show Zr (j5.2-b3.2)<=10;omega⟩
theorem mN(c:EsV A O)(he:EdOk A.m.P.length A.m.T.length (j6.a,j6.b) j6): Pq 4 60000 (K7 A O j6):=by
 have h1:=he.lt;have f:=he.n;have l0:=he.l0;have l1:=he.l1;have r0:=he.r0;have r1:=he.r1;have hs:=he.has;simp only at h1 f;have hd:=dE_K (p:=A) (c.pv.m.ptK (show j6.a<A.m.P.length by omega)) (c.pv.m.ptK f);unfold K7;split
 ·rename_i g;unfold WB at g;rw[cz,decide_eq_true_iff,decide_eq_true_iff] at g;exact(Pq.subM (LV c hd (t:=j6.l.toNat) oo) (LV c hd (t:=j6.r.toNat) oo) dd dd).mono dd dd
 split
 ·exact Df 4 59999
 have d:=Uh c (LF A j6);exact(Pq.subM (XW d.1 d.2 dd hd) (LV c hd (t:=(max j6.l j6.r).toNat) oo) dd dd).mono dd dd
theorem gP{g:Nat->Rat}(a:N<O.length)(h:∀k,k<N->O.getD k 0=g k)(hx:X=g N): ∀k,k<N+1->(O.set N X).getD k 0=g k:=λk hk=>by
 by_cases e:k=N
 ·rw[e];simp[List.getD,a,hx]
 simp only[List.getD];rw[List.getElem?_set_ne (λX=>e X.symm)];exact h k oo
theorem gQ(h1:O.length=r.length)(a:∀k,k<r.length->O.getD k 0=j7 (r.getD k ed0)): O=r.map j7:=by
 apply uY
 ·rw[h1,az]
 intro i b c;have:=a i oo;simp only[List.getD,List.getElem?_eq_getElem b,List.getElem?_eq_getElem (show i<r.length by omega),et] at this;rw[this,List.getElem_map]
theorem rdEsPr: Zm true 26 (Value.cells (B9 b7 c6 b8 b9 c3 j o h J j8 c4 s)).toList.toArray 0=some (Xv b7 c6 b8 b9 c3 j o h J):=by kernel_rfl
theorem lH(cT h J:Nat)(j9:List Rat)(j8:List Pl)(c4:Option Addr)(s:Nat)(aE:Option Addr)(cE:Nat)(p:EsV b7 j9)(hU:j8.map (·.l)=b7.m.T.map (uT b7.m b7.o j9)): Ctr prog 31 [B9 b7 c6 b8 b9 c3 j cT h J j8 c4 s,.slice aE (Za b7.m.T).length cE] [Row c6 (cellsOf encPt b7.m.P),Row b8 (cellsOf Ze b7.m.T),Row b9 (cellsOf Ze b7.m.S),Row b7.f.a (cellsOf Zy b7.f.l),Row c3 (cellsOf Jo b7.G),Vr (Je b7.G),Row c4 (List.map Vd j8),Vr (j8.map Yy),Row aE (cellsOf Qr (Za b7.m.T))] (λv Ψ => ∃ad,v=.slice ad (Za b7.m.T).length (Za b7.m.T).length/\Ψ=[Row ad (cellsOf Qa ((Za b7.m.T).map (Ao b7 j9)))]):=by
 have o6:=p.pv.m.nP;have n3:=p.pv.m.nT;have o5:=p.pv.m.nS;have l5:=p.pv.m.neP;have e3:=p.pv.m.ne;have o1:=p.pv.G.n;have o4:=Kh b7.m.T;have n4:j8.length=b7.m.T.length:=by have:=congrArg List.length hU;rw[az,az] at this;exact this
 refine fn_intro func31 I ntmps31 nb ?_;intro S w0 a hS b2;obtain ⟨o9,t,rfl⟩:=b2.row_addr (ad:=c6) (M:=cellsOf encPt b7.m.P) mm (nE 10);obtain ⟨A,z,rfl⟩:=b2.row_addr (ad:=c4) (M:=List.map Vd j8) mm (by intro e;have:=congrArg List.length e;rw[az,oT] at this;omega);replace b2:=b2.derive (R:=Row none (cellsOf Zy [])) (λX _ e3=>absurd I e3);refine gC b2<|zS (zx I λH=>au 0x3125 ?_);clear b2;intro a w b2;refine Zc<|EM Zx Qb b2 dd ?_;clear b2;intro b0 a w b2;refine gL b2<|au 0x31125 ?_;refine zp (.fA I IB)<|au 0x46f43f ?_;refine ldZ oK ?_;refine au 0x824d2f ?_;clear b2;intro a w b2;refine lpG b2 [1,2,4,5,23,24] pkL (λY Z (k3:Nat) a w=>k3<=b7.m.S.length/\St 126 S w0 ((25,nI k3)::Y) [(b0,mB Zx Qb<|mF b7.m.S k3),(H,bV (B9 b7 (some ⟨o9,t,none⟩) b8 b9 c3 j cT h J j8 (some ⟨A,z,none⟩) s) 100)] Z a w) (λk3=>b7.m.S.length-k3) 0 (⟨cX _,by exact(b2).sub sA⟩) ?_;clear b2;rintro k3 a w ⟨o8,b2⟩;refine gC b2<|au 0x12d31 ?_;intro a w b2;refine Zb b2 I (λa8=>?_) (λa8=>?_)
 ·have i6:k3<b7.m.S.length:=dT a8;obtain ⟨F,D,rfl⟩:=b2.row_addr (ad:=b9) (M:=cellsOf Ze b7.m.S) mm (nE 3);refine gC b2<|au 0xb8f31817 ?_;refine zD I mm (cells_lt (k:=3) dd (λ_=>rfl) b7.m.S k3 oo) isAgg143 sizeOf143 (Zh (k:=3) (λ_=>rfl) ((λ_=>rfl)) b7.m.S (0,0,0) k3 oo) (.inl I) ?_;refine zz HJ λE=>stW I I Qi ?_;refine au 0x70ffaf432 ?_;refine zp (.fA I C0)<|au 0x35fb0f ?_;refine zp (.fA I CZ)<|au 0xc1f ?_;clear b2;intro a w b2;refine Zc<|HY b2 Rz (u:=((b7.m.S.getD k3 (0,0,0)).1,(b7.m.S.getD k3 (0,0,0)).2.1)) (q:=(b7.m.S.getD k3 (0,0,0)).2.2) (m:=mF b7.m.S k3) I I I uu ?_;clear b2;intro a w b2;replace b2:=b2.same I (show _=[(E,bV (Ze (b7.m.S.getD k3 (0,0,0))) 143),(b0,mB Zx Qb (mF b7.m.S (k3+1))),(H,bV (B9 b7 (some ⟨o9,t,none⟩) b8 (some ⟨F,D,none⟩) c3 j cT h J j8 (some ⟨A,z,none⟩) s) 100)] from I) I;refine gL b2<|zn<|zr<|zp (.pN (k3+1)<|.add I I)<|au 0x24 ?_;clear b2;intro a w b2;exact⟨k3+1,⟨oo,tO b2⟩,oo⟩
 have e2:b7.m.S.length=k3:=dF a8;subst e2;refine gC b2<|au 0x4310e ?_;clear b2;intro a w b2;replace b2:=(b2.perm (List.Perm.trans (BH (cr _)) (List.Perm.cons _ (cr _))).symm).shareAll hS ((Value.cells (B9 b7 (some ⟨o9,t,none⟩) b8 b9 c3 j cT h J j8 (some ⟨A,z,none⟩) s)).toList) I;refine gL b2<|au 0x23f ?_;clear b2;intro a w b2;refine Zc<|Qz b2 I I runUnderlying54 typeInfo47 sizeOf47 Xc I dd oo (by show 56*((Za b7.m.T).length)<=281474976710656;omega) oo dd ?_;clear b2;intro a1 a w b2;replace b2:=b2.same I (by rw[<-Ap (enc:=Qa)]) I;refine gL b2<|au 0x82423f431125 ?_;intro a w b2;refine lpG b2 [1,2,4,5,8,23,24,25,41,42] pkL (λY Z (i:Nat) a w=>i<=(Za b7.m.T).length /\ ∃(O:List Rat),(O.length=(Za b7.m.T).length /\ ∀k,k<i->O.getD k 0=Ao b7 j9 ((Za b7.m.T).getD k ed0))/\St 126 S w0 ((43,nI i)::Y) [(a1,.cells (cellsOf Qa<|O).toArray 47 (0,0)),(b0,mB Zx Qb<|mF b7.m.S b7.m.S.length)] Z a w) (λi=>(Za b7.m.T).length-i) 0 (⟨cX _,List.replicate (Za b7.m.T).length 0,⟨hW,λ_ b2=>absurd b2 (gS _)⟩,by exact(b2).sub sA⟩) ?_;clear b2;rintro i a w ⟨k7,O,⟨h3,e6⟩,b2⟩;refine gC b2<|au 0x12d31 ?_;intro a w b2;refine Zb b2 I (λa6=>?_) (λa6=>?_)
 ·have V:i<(Za b7.m.T).length:=dT a6;obtain ⟨b3,b6,rfl⟩:=b2.row_addr (ad:=aE) (M:=cellsOf Qr (Za b7.m.T)) mm (nE 4);have K:=EA p.pv.m.num _ (getD_mem (Za b7.m.T) (d:=ed0) V);have c9:=mN p K;have q1:=K.lt;have q2:=K.n;have l0:=K.l0;have l1:=K.l1;have r0:=K.r0;have r1:=K.r1;have hs:=K.has;simp only at q1 q2;have q0:((Za b7.m.T).getD i ed0).a<b7.m.P.length:=oo;have e0:PtK 4 (b7.m.P.getD ((Za b7.m.T).getD i ed0).a (0,0)):=p.pv.m.ptK q0;have c8:PtK 4 (b7.m.P.getD ((Za b7.m.T).getD i ed0).b (0,0)):=p.pv.m.ptK q2;have L:PtK 10 (dE b7 ((Za b7.m.T).getD i ed0)):=dE_K (p:=b7) e0 c8;obtain ⟨n2,l9⟩:=id e0;obtain ⟨o7,o2⟩:=id c8;refine gC b2<|au 0x27f431817 ?_;refine zD I mm (cells_lt (k:=4) dd (λ_=>rfl) (Za b7.m.T) i oo) isAgg114 sizeOf114 (Zh (k:=4) (λ_=>rfl) ((λ_=>rfl)) (Za b7.m.T) ed0 i oo) (.inl I) ?_;refine zz BK λj4=>za I<|stW I I Yc ?_;refine zn<|zs<|yF [0,1,2,3,4,5,6,7,8,9,10,11,12,13,14,15,16,17,18,19]<|au 0x97f ?_;refine yp I (.fA I E6)<|au 0x10f ?_;clear b2;refine Zf (b:=H) (off:=0) (j:=0) (M:=(Value.cells<|B9 b7 (some ⟨o9,t,none⟩) b8 b9 c3 j cT h J j8 (some ⟨A,z,none⟩) s).toList) (v:=.slice (some ⟨o9,t,none⟩) b7.m.P.length j) I kk I mm nb isAgg34 sizeOf34 I (.inr I) dd ?_;refine au 0x28f87f ?_;refine au 0xe1f ?_;refine Zf I kk I mm (cells_lt (k:=10) dd (λ_=>rfl) b7.m.P (((Za b7.m.T).getD i ed0).a) oo) isAgg106 sizeOf106 (Zh (k:=10) (λ_=>rfl) ((λ_=>rfl)) b7.m.P (0,0) (((Za b7.m.T).getD i ed0).a) oo) (.inl I) dd ?_;refine au 0x97f ?_;refine yp I (.fA I E6)<|au 0x10f ?_;refine Gb [] (b:=H) (off:=0) (j:=0) (M:=(Value.cells<|B9 b7 (some ⟨o9,t,none⟩) b8 b9 c3 j cT h J j8 (some ⟨A,z,none⟩) s).toList) (v:=.slice (some ⟨o9,t,none⟩) b7.m.P.length j) I kk I mm nb isAgg34 sizeOf34 I (.inr I) (λ_ ht=>nomatch ht) dd ?_;refine au 0x77f ?_;refine Jd [] I kk I mr isAgg3 sizeOf3 Fy (λ_ _ _ _ _ ht=>nomatch ht) dd ?_;refine au 0xe1f ?_;refine Gb [] I kk I mm (cells_lt (k:=10) dd (λ_=>rfl) b7.m.P (((Za b7.m.T).getD i ed0).b) oo) isAgg106 sizeOf106 (Zh (k:=10) (λ_=>rfl) ((λ_=>rfl)) b7.m.P (0,0) (((Za b7.m.T).getD i ed0).b) oo) (.inl I) (λ_ ht=>nomatch ht) dd ?_;refine yz I Xe λe8=>yz I Xe λh8=>stV I I I Zv ?_;refine stV I I I Zv ?_;refine au 0x7e7e31a ?_;refine zv [_,_] I call104 (C7 (b7.m.P.getD (((Za b7.m.T).getD i ed0).b) (0,0)) (b7.m.P.getD (((Za b7.m.T).getD i ed0).a) (0,0)) oo oo oo oo) ?_;have e9:=Yb (b7.m.P.getD (((Za b7.m.T).getD i ed0).b) (0,0)) (b7.m.P.getD (((Za b7.m.T).getD i ed0).a) (0,0));have e9:=Ya (b7.m.P.getD (((Za b7.m.T).getD i ed0).b) (0,0)) (b7.m.P.getD (((Za b7.m.T).getD i ed0).a) (0,0));refine zz Xe λB=>stW I I Zv ?_;refine au 0x56f312 ?_;refine zz zeroValue189 λC=>?_;intro a w b2;replace b2:=(b2.perm (List.Perm.trans (BH (cr _)) (List.Perm.cons _ (cr _))).symm).shareAll hS ((Value.cells (Ez ((Vv (b7.m.P.getD (((Za b7.m.T).getD i ed0).b) (0,0)) (b7.m.P.getD (((Za b7.m.T).getD i ed0).a) (0,0))).1) ((Vv (b7.m.P.getD (((Za b7.m.T).getD i ed0).b) (0,0)) (b7.m.P.getD (((Za b7.m.T).getD i ed0).a) (0,0))).2))).toList) I;refine gL b2<|stW I I Gt ?_;refine zn<|zS<|zp (.makeFunc [] [_,_] I I)<|za I ?_;clear b2;intro a w b2;replace b2:=b2.shareAll hS ([.func (.func 105) #[] #[.pointer (some ⟨B,0,none⟩)]]) I;refine gL b2<|au 0x25312 ?_;clear b2;intro a w b2;refine wjG b2 [] pkL (λY Z a w => ∃(aJ:Option Addr) (cJ:Nat),St 126 S w0 ((1,.slice (some ⟨b3,b6,none⟩) ((Za b7.m.T).length) cE)::(2,pB H)::(4,.slice none 0 0)::(5,.map<|some b0)::(8,.slice (some ⟨a1,0,none⟩) ((Za b7.m.T).length) ((Za b7.m.T).length))::(9,nI i)::(11,pB e8)::(12,pB h8)::(16,.slice aJ ((K7 b7 j9 ((Za b7.m.T).getD i ed0)).length) cJ)::(23,.slice b9 b7.m.S.length h)::(24,nI b7.m.S.length)::(25,nI b7.m.S.length)::(41,.slice (some ⟨b3,b6,none⟩) ((Za b7.m.T).length) cE)::(42,nI ((Za b7.m.T).length))::(43,nI i)::Y) [(h8,bV (Ez ((b7.m.P.getD (((Za b7.m.T).getD i ed0).b) (0,0)).1) ((b7.m.P.getD (((Za b7.m.T).getD i ed0).b) (0,0)).2)) 106),(e8,bV (Ez ((b7.m.P.getD (((Za b7.m.T).getD i ed0).a) (0,0)).1) ((b7.m.P.getD (((Za b7.m.T).getD i ed0).a) (0,0)).2)) 106),(j4,bV (Qr ((Za b7.m.T).getD i ed0)) 114),(a1,.cells (cellsOf Qa<|O).toArray 47 (0,0)),(b0,mB Zx Qb<|mF b7.m.S b7.m.S.length)] (Row aJ (cellsOf Zy<|K7 b7 j9 ((Za b7.m.T).getD i ed0))::Z) a w) ?_ ?_
  ·refine gC b2<|au 0x1df31 ?_;refine ldZ Dv ?_;refine au 0x00f ?_;clear b2;intro a w b2;refine Zi b2 (λQ b2=>?_) (λQ b2=>?_);focus
    refine gL b2<|zm I<|zq 72 I I (.fA I Az)<|ldQ 72 Du ?_;refine zq 72 I I (.geq I I) ?_;clear b2;intro a w b2;refine Zi b2 (λW b2=>?_) (λW b2=>?_)
    ·refine gL b2<|au 0x1e23e ?_;refine yE [0,1,2,4,5,6,3,7,8,9] ?_;clear b2;have i1:WB ((Za b7.m.T).getD i ed0)=true:=by unfold WB;rw[cz,decide_eq_true_iff,decide_eq_true_iff];exact⟨of_decide_eq_true Q,of_decide_eq_true W⟩
     obtain ⟨tl,h6⟩:=tN (show 0<=((Za b7.m.T).getD i ed0).l from of_decide_eq_true Q);obtain ⟨tr,e5⟩:=tN (show 0<=((Za b7.m.T).getD i ed0).r from of_decide_eq_true W);have b1:tl<b7.m.T.length:=oo;have b5:tr<b7.m.T.length:=oo;have h2:Ctr prog 106 [.int .i64 (((Za b7.m.T).getD i ed0).l),.pointer (some ⟨C,0,none⟩),.pointer (some ⟨H,0,none⟩)] [Row (some ⟨C,0,none⟩) [.func (.func 105) #[] #[.pointer (some ⟨B,0,none⟩)]],Row (some ⟨H,0,none⟩) (Value.cells (B9 b7 (some ⟨o9,t,none⟩) b8 b9 c3 j cT h J j8 (some ⟨A,z,none⟩) s)).toList,Row (some ⟨B,0,none⟩) (Value.cells (encPt (Vv (b7.m.P.getD ((Za b7.m.T).getD i ed0).b (0,0)) (b7.m.P.getD ((Za b7.m.T).getD i ed0).a (0,0))))).toList,Row (some ⟨A,z,none⟩) (List.map Vd j8),Vr (j8.map Yy)] (λv Ψ => ∃ad c,v=.slice ad (QI b7 j9 (dE b7 ((Za b7.m.T).getD i ed0)) tl).length c/\Ψ=[Row ad (cellsOf Zy (QI b7 j9 (dE b7 ((Za b7.m.T).getD i ed0)) tl))]):=by rw[h6];exact fh b7 _ _ _ _ _ _ _ _ j9 j8 _ s tl (dE b7 ((Za b7.m.T).getD i ed0)) B 0 C 0 H 0 p hU b1 L
     have e4:Ctr prog 106 [.int .i64 (((Za b7.m.T).getD i ed0).r),.pointer (some ⟨C,0,none⟩),.pointer (some ⟨H,0,none⟩)] [Row (some ⟨C,0,none⟩) [.func (.func 105) #[] #[.pointer (some ⟨B,0,none⟩)]],Row (some ⟨H,0,none⟩) (Value.cells (B9 b7 (some ⟨o9,t,none⟩) b8 b9 c3 j cT h J j8 (some ⟨A,z,none⟩) s)).toList,Row (some ⟨B,0,none⟩) (Value.cells (encPt (Vv (b7.m.P.getD ((Za b7.m.T).getD i ed0).b (0,0)) (b7.m.P.getD ((Za b7.m.T).getD i ed0).a (0,0))))).toList,Row (some ⟨A,z,none⟩) (List.map Vd j8),Vr (j8.map Yy)] (λv Ψ => ∃ad c,v=.slice ad (QI b7 j9 (dE b7 ((Za b7.m.T).getD i ed0)) tr).length c/\Ψ=[Row ad (cellsOf Zy (QI b7 j9 (dE b7 ((Za b7.m.T).getD i ed0)) tr))]):=by rw[e5];exact fh b7 _ _ _ _ _ _ _ _ j9 j8 _ s tr (dE b7 ((Za b7.m.T).getD i ed0)) B 0 C 0 H 0 p hU b5 L
     refine au 0x9 ?_;refine yp I (.fA I C2)<|ldY Dv ?_;refine au 0x9 ?_;refine yp I (.fA I Az)<|ldY Du ?_;refine Bf I kk (fs:=[]) (cs:=[.pointer (some ⟨C,0,none⟩),.pointer (some ⟨H,0,none⟩)]) I (vs:=[_]) I call106 (h2) (by exact hsA) dd ?_;rintro v80 k6 ⟨k9,n5,rfl,rfl⟩;refine Bf I kk (fs:=[]) (cs:=[.pointer (some ⟨C,0,none⟩),.pointer (some ⟨H,0,none⟩)]) I (vs:=[_]) I call106 (e4) (by exact hsA) dd ?_;rintro o3 k8 ⟨l2,o0,rfl,rfl⟩;refine Zu I kk (vs:=[_,_]) I call98 (KX (QI b7 j9 (dE b7 ((Za b7.m.T).getD i ed0)) tl) (QI b7 j9 (dE b7 ((Za b7.m.T).getD i ed0)) tr) _ _ _ _ 2 2 29019 29019 (LV p L b1) (LV p L b5) dd dd dd dd) (by exact hsA) dd ?_;rintro v85 l6 ⟨h9,j0,rfl,rfl⟩;refine au 0xa4e ?_;intro a w b2;have a7:K7 b7 j9 ((Za b7.m.T).getD i ed0)=norm (QI b7 j9 (dE b7 ((Za b7.m.T).getD i ed0)) tl++Qc ((-1:Int):Rat) (QI b7 j9 (dE b7 ((Za b7.m.T).getD i ed0)) tr)):=by unfold K7;rw[if_pos i1,h6,e5,py,py]
     exact⟨h9,j0,by rw[a7];exact tO b2⟩
    refine gL b2<|au 0x23e ?_;clear b2;intro a w b2
   rotate_left;focus
    refine gL b2<|zm I<|zo 72 I I I<|zo 72 I I I<|zo 72 I I I<|au 0x22e ?_;clear b2;intro a w b2
   all_goals
    refine cW<|Zj b2 I<|gC b2<|zs<|yF [0,1,2,3,4,5,6,7,8,9,10,11,12,13,14,15] ?_;clear b2;have e7:¬WB ((Za b7.m.T).getD i ed0)=true:=by unfold WB;rw[cz,decide_eq_true_iff,decide_eq_true_iff];first|(have:=of_decide_eq_false Q;omega)|(have:=of_decide_eq_false W;omega)
    refine au 0x97f ?_;refine Zf (b:=H) (off:=0) (j:=0) (M:=(Value.cells<|B9 b7 (some ⟨o9,t,none⟩) b8 b9 c3 j cT h J j8 (some ⟨A,z,none⟩) s).toList) (v:=Xv b7 (some ⟨o9,t,none⟩) b8 b9 c3 j cT h J) I kk I mm nb isAgg53 sizeOf53 (rdEsPr _ _ _ _ _ _ _ _ _ _ _ _) (.inl I) dd ?_;refine au 0x28f87f9 ?_;refine au 0x77f ?_;refine ldY Fy ?_;refine yp I (.build [(_,_),(_,_)] I<|Mb _ _) ?_;refine Es I kk Rz (u:=(((Za b7.m.T).getD i ed0).a,((Za b7.m.T).getD i ed0).b)) (m:=mF b7.m.S b7.m.S.length) I I mm dd ?_;refine Gm I kk (vs:=[_,_]) I call108 (nQ b7 _ _ _ _ _ _ _ _ (LF b7 ((Za b7.m.T).getD i ed0)) oo) (by exact hsA) dd ?_;refine au 0x9e9e9 ?_;refine yz I Dl λn9=>stV I I I Zl ?_;refine au 0x31a4e ?_;refine zp (.fA I Hq)<|ldZ HT ?_;refine au 0x240f ?_;intro a w b2;refine Zb b2 I (λN=>?_) (λN=>?_)
    ·have U:(Gg b7.G (LF b7 ((Za b7.m.T).getD i ed0))).1.fix=false:=by have:=N;simpa using this
     obtain ⟨h0,h7⟩:=Uh p (LF b7 ((Za b7.m.T).getD i ed0));replace b2:=b2.derive (R:=Row (Gg b7.G (LF b7 ((Za b7.m.T).getD i ed0))).1.x.a (cellsOf Zy (Gg b7.G (LF b7 ((Za b7.m.T).getD i ed0))).1.x.l)) (λX hX=>(LW (LF b7 ((Za b7.m.T).getD i ed0)) (hX (Vr (Je b7.G)) (by repeat(first|exact List.Mem.head _|apply List.Mem.tail)))).1);replace b2:=b2.derive (R:=Row (Gg b7.G (LF b7 ((Za b7.m.T).getD i ed0))).1.y.a (cellsOf Zy (Gg b7.G (LF b7 ((Za b7.m.T).getD i ed0))).1.y.l)) (λX hX=>(LW (LF b7 ((Za b7.m.T).getD i ed0)) (hX (Vr (Je b7.G)) (by repeat(first|exact List.Mem.head _|apply List.Mem.tail)))).2);refine gC b2<|yE [0,1,2,4,5,6,7,8,9,3,10,11,12] ?_;clear b2;obtain ⟨tm,h4⟩:=tN (show 0<=max ((Za b7.m.T).getD i ed0).l ((Za b7.m.T).getD i ed0).r by omega);have b4:tm<b7.m.T.length:=oo;have c5:Ctr prog 106 [.int .i64 (max ((Za b7.m.T).getD i ed0).l ((Za b7.m.T).getD i ed0).r),.pointer (some ⟨C,0,none⟩),.pointer (some ⟨H,0,none⟩)] [Row (some ⟨C,0,none⟩) [.func (.func 105) #[] #[.pointer (some ⟨B,0,none⟩)]],Row (some ⟨H,0,none⟩) (Value.cells (B9 b7 (some ⟨o9,t,none⟩) b8 b9 c3 j cT h J j8 (some ⟨A,z,none⟩) s)).toList,Row (some ⟨B,0,none⟩) (Value.cells (encPt (Vv (b7.m.P.getD ((Za b7.m.T).getD i ed0).b (0,0)) (b7.m.P.getD ((Za b7.m.T).getD i ed0).a (0,0))))).toList,Row (some ⟨A,z,none⟩) (List.map Vd j8),Vr (j8.map Yy)] (λv Ψ => ∃ad c,v=.slice ad (QI b7 j9 (dE b7 ((Za b7.m.T).getD i ed0)) tm).length c/\Ψ=[Row ad (cellsOf Zy (QI b7 j9 (dE b7 ((Za b7.m.T).getD i ed0)) tm))]):=by rw[h4];exact fh b7 _ _ _ _ _ _ _ _ j9 j8 _ s tm (dE b7 ((Za b7.m.T).getD i ed0)) B 0 C 0 H 0 p hU b4 L
     refine Zf (b:=C) (off:=0) (j:=0) (M:=[.func (.func 105) #[] #[.pointer (some ⟨B,0,none⟩)]]) (v:=.func (.func 105) #[] #[.pointer (some ⟨B,0,none⟩)]) I kk I mm (gM _) isAgg189 sizeOf189 I (.inr I) dd ?_;refine yp I (.fA I B8)<|ldY BO ?_;refine au 0x9 ?_;refine yp I (.fA I C2)<|ldY Dv ?_;refine yp I (.fA I Az)<|ldY Du ?_;refine yp I (.builtin [_,_] I (λw ty cs=>rq _ _ w ty cs)) ?_;refine Bf I kk (fs:=[]) (cs:=[.pointer (some ⟨B,0,none⟩)]) I (vs:=[_]) I call105 (nD (Gg b7.G<|LF b7 ((Za b7.m.T).getD i ed0)).1.x.l (Gg b7.G<|LF b7 ((Za b7.m.T).getD i ed0)).1.y.l _ _ _ _ (dE b7 ((Za b7.m.T).getD i ed0)) B 0 4 1000 h0 h7 dd L dd) (by exact hsA) dd ?_;rintro v105 j2 ⟨i7,l3,rfl,rfl⟩;refine Bf I kk (fs:=[]) (cs:=[.pointer (some ⟨C,0,none⟩),.pointer (some ⟨H,0,none⟩)]) I (vs:=[_]) I call106 (c5) (by exact hsA) dd ?_;rintro l8 j7 ⟨j3,k5,rfl,rfl⟩;refine Zu I kk (vs:=[_,_]) I call98 (KX (XX (Gg b7.G<|LF b7 ((Za b7.m.T).getD i ed0)).1.x.l (Gg b7.G<|LF b7 ((Za b7.m.T).getD i ed0)).1.y.l<|dE b7 ((Za b7.m.T).getD i ed0)) (QI b7 j9 (dE b7 ((Za b7.m.T).getD i ed0)) tm) _ _ _ _ 4 2 2027 29019 (XW h0 h7 dd L) (LV p L b4) dd dd dd dd) (by exact hsA) dd ?_;rintro l7 j1 ⟨c7,h5,rfl,rfl⟩;refine au 0xa4e ?_;intro a w b2;have a7:K7 b7 j9 ((Za b7.m.T).getD i ed0)=norm (XX (Gg b7.G (LF b7 ((Za b7.m.T).getD i ed0))).1.x.l (Gg b7.G (LF b7 ((Za b7.m.T).getD i ed0))).1.y.l (dE b7 ((Za b7.m.T).getD i ed0))++Qc ((-1:Int):Rat) (QI b7 j9 (dE b7 ((Za b7.m.T).getD i ed0)) tm)):=by unfold K7;rw[if_neg e7,if_neg (by rw[U];decide),h4,py]
     exact⟨c7,h5,by rw[a7];exact tO b2⟩
    have U:(Gg b7.G (LF b7 ((Za b7.m.T).getD i ed0))).1.fix=true:=by have:=N;simpa using this
    refine wp_skip ?_;have a7:K7 b7 j9 ((Za b7.m.T).getD i ed0)=[]:=by unfold K7;rw[if_neg e7,if_pos U]
    exact⟨none,0,by rw[a7];exact tO b2⟩
  clear b2;rintro a w ⟨aJ,cJ,b2⟩;refine gC b2<|yE [0,1,2,4,6,3,5,7,8,9,10]<|au 0x30f999 ?_;clear b2;refine au 0x30f ?_;refine Zu I kk (vs:=[_]) I call101 (C_esq (K7 b7 j9 ((Za b7.m.T).getD i ed0)) _ _ 4 60000 c9 dd dd) (by exact hsA) dd ?_;rintro v117 k4 ⟨j5,l4,rfl,rfl⟩;refine au 0x6af6af ?_;refine Gm I kk (vs:=[_,_,_]) I call109 (C_Seg (norm<|Vl (K7 b7 j9 ((Za b7.m.T).getD i ed0))<|K7 b7 j9 ((Za b7.m.T).getD i ed0)) _ _ 8 120000 4 (c9.mul c9 dd) dd _ _ e0 c8 dd dd dd) (by exact hsA) dd ?_;refine au 0x42f ?_;refine Vm (b:=a1) (cs:=(cellsOf Qa O).toArray) (cs':=(cellsOf Qa<|O.set i<|YK (norm<|Vl (K7 b7 j9 ((Za b7.m.T).getD i ed0))<|K7 b7 j9 ((Za b7.m.T).getD i ed0)) (b7.m.P.getD ((Za b7.m.T).getD i ed0).a (0,0))<|b7.m.P.getD ((Za b7.m.T).getD i ed0).b (0,0)).toArray) (v:=Qa<|YK (norm<|Vl (K7 b7 j9 ((Za b7.m.T).getD i ed0))<|K7 b7 j9 ((Za b7.m.T).getD i ed0)) (b7.m.P.getD ((Za b7.m.T).getD i ed0).a (0,0))<|b7.m.P.getD ((Za b7.m.T).getD i ed0).b (0,0)) I kk I I (Gk (k:=5) (λ_=>rfl) O i oo<|YK (norm<|Vl (K7 b7 j9 ((Za b7.m.T).getD i ed0))<|K7 b7 j9 ((Za b7.m.T).getD i ed0)) (b7.m.P.getD ((Za b7.m.T).getD i ed0).a (0,0))<|b7.m.P.getD ((Za b7.m.T).getD i ed0).b (0,0)) uu sizeOf47 I (cells_le (k:=5) (λ_=>rfl) O i oo) I ?_;refine yn<|zr<|zp (.pN (i+1)<|.add I I)<|au 0x24 ?_;intro a w b2;exact⟨i+1,⟨oo,_,⟨by rw[ea];exact h3,gP (g:=λk=>Ao b7 j9 ((Za b7.m.T).getD k ed0)) oo e6 I⟩,by exact tO b2⟩,oo⟩
 have e1:(Za b7.m.T).length=i:=dF a6;subst e1;have j6:=gQ h3 e6;subst j6;refine gC b2<|au 0x4310e ?_;clear b2;intro a w b2;replace b2:=b2.shareAll hS (cellsOf Qa ((((Za b7.m.T).map (Ao b7 j9))))) I;refine gL b2<|au 0x625 ?_;clear b2;intro a w b2;refine Qj (Ψ:=[Row (some ⟨a1,0,none⟩) (cellsOf Qa ((Za b7.m.T).map<|Ao b7 j9))]) b2 (Zd b2 I<|.tmp I) ?_ ss;exact⟨some ⟨a1,0,none⟩,rfl,rfl⟩
def ZX(e:Ed)(t:Nat): Nat:=(if e.l=(t:Int) then 1 else 0)+(if e.r=(t:Int) then 1 else 0)
def Hx:List Ed->Nat->Nat
 | [],_=>0
 | e::l,t=>ZX e t+Hx l t
theorem kr(h:r.Perm p5)(t:Nat): Hx r t=Hx p5 t:=by
 induction h with
 | nil=>rfl
 | cons x _ a=>simp only[Hx,a]
 | swap x y r=>simp only[Hx];omega
 | trans _ _ h1 b=>rw[h1,b]
theorem rb: Hx ((Va k3 c5 k4).map (·.2)) s+ZX ((Zo k3 c5).getD ⟨c5.1,c5.2, -1, -1⟩) s=Hx (k3.map (·.2)) s+ZX k4 s:=by
 have b:ZX (⟨c5.1,c5.2, -1, -1⟩:Ed) s=0:=by unfold ZX;simp only;rw[if_neg (show ¬(-1:Int)=(s:Int) by omega)]
 induction k3 with
 | nil=>simp only[Va,Zo,vR,eb,la,Hx];omega
 | cons q k3 a =>
  by_cases e:q.1=c5
  ·rw[Va,if_pos e,Zo,if_pos e];simp only[eb,Hx,et];omega
  rw[Va,if_neg e,Zo,if_neg e];simp only[eb,Hx];omega
theorem pH: ZX (Kl j o h k4) s<=ZX k4 s+(if s=j then 1 else 0):=by
 unfold Kl;split
 ·rename_i r;unfold ZX;simp only[r.2];by_cases k4:s=j
  ·subst k4;simp;split<;>simp
  rw[if_neg (show ¬((j:Int)=(s:Int)) by omega)];omega
 split
 ·rename_i r;unfold ZX;simp only[r.2];by_cases k4:s=j
  ·subst k4;simp
  rw[if_neg (show ¬((j:Int)=(s:Int)) by omega)];omega
 omega
theorem kq: Hx ((DR j o h k3).map (·.2)) s<=Hx (k3.map (·.2)) s+(if s=j then 1 else 0):=by
 have h1:=rb k3 (Zg o h) (Kl j o h (Jx k3 (Zg o h))) s;have c:=pH j o h (Jx k3 (Zg o h)) s;unfold DR;unfold Jx at h1 c ⊢;omega
theorem dO(t:Nat)(c:Nat×Nat×Nat)(m:List ((Nat×Nat)×Ed))(s:Nat): ∀i,Hx ((GG t c i m).map (·.2)) s<=Hx (m.map (·.2)) s+i*(if s=t then 1 else 0)
 | 0=>by rw[GG];omega
 | i+1=>by
  rw[GG];have h1:=dO t c m s i;have a:=kq t (crn c i) (crn c ((i+1)%3)) (GG t c i m) s;rw[dk];omega
theorem dR(l:List (Nat×Nat×Nat))(s:Nat): ∀t,Hx ((Qy l t).map (·.2)) s<=if s<t then 3 else 0
 | 0=>by rw[Qy];exact aZ _
 | t+1=>by
  rw[Qy];have h1:=dR l s t;have a:=dO t (l.getD t (0,0,0)) (Qy l t) s 3;by_cases e:s=t
  ·subst e;simp only[wt,if_false,if_true] at h1 a;rw[if_pos (ia s)];omega
  rw[if_neg e] at a;by_cases h:s<t
  ·rw[if_pos h] at h1;rw[if_pos oo];omega
  rw[if_neg h] at h1;rw[if_neg oo];omega
theorem dS: Hx (Za e) j<=3:=by
 unfold Za;rw[kr (Vf _) j];have:=dR e j e.length;split at this<;>omega
theorem dU: Hx (b4++p6) j=Hx b4 j+Hx p6 j:=by
 induction b4 with
 | nil=>simp[Hx]
 | cons e b4 a=>simp only[gH,Hx,a];omega
theorem kp(h:o<b4.length): Hx (b4.take (o+1)) j=Hx (b4.take o) j+ZX (b4.getD o ed0) j:=by
 rw[show b4.take (o+1)=b4.take o++[b4.getD o ed0] from by rw[xa];simp[List.getD,h],dU];simp[Hx]
theorem Su: Hx (b4.take o) j<=Hx b4 j:=by
 have:=dU (b4.take o) (b4.drop o) j;rw[ls] at this;omega
def GE(O:List Rat)(n N:Nat)(f:Nat->Nat): Prop:=O.length=N /\ ∀k,k<n->0<=O.getD k 0/\Zr (O.getD k 0)<=f k
theorem GE.nil(N:Nat)(f:Nat->Nat): GE (List.replicate N 0) 0 N f:=⟨hW,λ_ h=>absurd h (gS _)⟩
theorem getD_set(a:N<O.length): (O.set N X).getD U 0=if U=N then X else O.getD U 0:=by
 by_cases e:U=N
 ·rw[if_pos e,e];simp[List.getD,a]
 rw[if_neg e];simp only[List.getD];rw[List.getElem?_set_ne (λX=>e X.symm)]
theorem GE.put(h:GE O N U (λ_=>W))(a:N<U)(b:0<=X)(h1:Zr X<=W): GE (O.set N X) (N+1) U (λ_=>W):=by
 refine⟨by rw[ea];exact h.1,λk hk=>?_⟩;rw[getD_set (by rw[h.1];exact a)];split
 ·exact⟨b,h1⟩
 exact h.2 k oo
theorem GE.mono(h:GE O N U Z)(hf:∀k,Z k<=p7 k): GE O N U p7:=⟨h.1,λk hk=>⟨(h.2 k hk).1,bp (h.2 k hk).2 (hf k)⟩⟩
theorem GE.add{B:Nat}{x:Int}(h:GE O U U Z)(a:N<U)(hx:x=(N:Int))(c:0<=X)(h1:Zr X+1<=B): GE (O.set N (O.getD N 0+X)) U U (λk=>Z k+B*(if x=(k:Int) then 1 else 0)):=by
 refine⟨by rw[ea];exact h.1,λk hk=>?_⟩;rw[getD_set (by rw[h.1];exact a)];obtain ⟨b,a2⟩:=h.2 N a;split
 ·rename_i e;show _/\_<=Z k+B*(if x=(k:Int) then 1 else 0)
  rw[e,if_pos hx];have:=Xo (O.getD N 0) X;exact⟨wj b c,oo⟩
 exact⟨(h.2 k hk).1,bp (h.2 k hk).2 (tu _ _)⟩
theorem GE.skip{B:Nat}{x:Int}(h:GE O N N Z): GE O N N (λk=>Z k+B*(if x=(k:Int) then 1 else 0)):=h.mono λ_=>tu _ _
def etF(E:List Ed)(i k:Nat): Nat:=7000000+11000000*Hx (E.take i) k
theorem Nw(h:N<b4.length)(k:Nat): etF b4 N k+11000000*(if (b4.getD N ed0).l=(k:Int) then 1 else 0)+11000000*(if (b4.getD N ed0).r=(k:Int) then 1 else 0)=etF b4 (N+1) k:=by
 unfold etF;rw[kp b4 k N h];unfold ZX;omega
theorem Uq: etF (Za e) j o<=40000000:=by
 have:=dS e o;have:=Su (Za e) o j;unfold etF;omega
theorem sq_ev: evP (norm (Vl p8 p8)) c8 p9=evP p8 c8 p9*evP p8 c8 p9:=by rw[ev_nrm,E7]
theorem OT{l:List Rat}(h:∀x∈l,0<=x): ∀i,i<=l.length->0<=mxL l i
 | 0,_=>by rw[mxL];exact vX
 | i+1,a=>by
  rw[mxL];split
  ·exact h _ (getD_mem l oo)
  exact OT h i oo
theorem Ww(a:Pt): 0<=gb a a:=by
 have h1:=Eg a.1;have b:=Eg a.2;show 0<=a.1*a.1+a.2*a.2;exact wj h1 b
theorem pY(ha:PtK 4 b3)(d:PtK 4 j5)(hc:PtK 4 q3): 0<=mxL (EZ b3 j5 q3) 3/\Zr (mxL (EZ b3 j5 q3) 3)<=42:=by
 have s1:=Hj ha d;have s2:=Hj d hc;have e:=Hj hc ha;constructor
 ·refine OT (λx hx=>?_) 3<|aZ 3;simp only[EZ,cZ,cf,or_false] at hx;rcases hx with rfl|rfl|rfl<;>exact Ww _
 refine Z1 (λx hx=>?_) dd 3<|aZ 3;simp only[EZ,cZ,cf,or_false] at hx;rcases hx with rfl|rfl|rfl<;>omega
theorem inn_ok(a:EsV A O)(ht:N<A.m.T.length): 0<=Wj A O N/\Zr (Wj A O N)<=6800000:=by
 have hm:=getD_mem A.m.T (d:=(0,0,0)) ht;have hr:=ml a hm;obtain ⟨k1,k2,k3⟩:=a.pv.m.tri hm;have c:=a.pv.m.pos _ hm;rw[twP_eq] at c;have b:0<twQ (cr1 A.m N) (cr2 A.m N) (cr3 A.m N):=(Av _).1 (by rw[c];decide);constructor
 ·unfold Wj;exact tri_sq (sq_ev _) (λs hs=>hr.deg s hs) b
 have:=ba (hr.mul hr dd) dd k1 k2 k3;have e:KS (4+4) (37300+37300) (2*4+1)<=3369061:=by decide
 unfold Wj;exact bp this oo
theorem qg(c:EsV A O)(he:EdOk A.m.P.length A.m.T.length (j6.a,j6.b) j6): 0<=Ao A O j6/\Zr (Ao A O j6)<=10900000:=by
 have hj:=mN c he;have h1:=he.lt;have d:=he.n;simp only at h1 d;have f:=c.pv.m.ptK (show j6.a<A.m.P.length by omega);have g:=c.pv.m.ptK d;constructor
 ·unfold Ao;exact seg_sq (sq_ev _) (λs hs=>hj.deg s hs) _ _
 have:=bc (hj.mul hj dd) dd f g dd;have j6:KS (4+4) (60000+60000) (2*4+1)<=5412061:=by decide
 unfold Ao;exact bp this oo
theorem mul_ok(hx:0<=X)(a:0<=q4): 0<=X*q4:=s9 hx a
theorem jm_at{f:Ed->Rat}(h:N<r.length): (r.map f).getD N 0=f (r.getD N ed0):=by simp[List.getD,h]
theorem PtK.wide(h:PtK 4 b3): PtK 100000 b3:=⟨bp h.1 dd,bp h.2 dd⟩
theorem GE.at{c:Nat}(h:GE O N N Z)(a:U<N)(hc:Z U<=c): Zr (O.getD U 0)<=c:=bp (h.2 U a).2 hc
theorem qz(a:0<=X)(h1:Zr X<=10900000): 0<=X*Xx/\Zr (X*Xx)+1<=11000000:=by
 have:=Qh X Xx;have:=Hk;exact⟨s9 a kD,oo⟩
def EtaOk(n:Nat)(O:List Rat): Prop:=O.length=n /\ ∀x∈O,0<=x/\Zr x<=50000000
theorem GE.done(h:GE O N N Z)(b:N=U)(hf:∀k,Z k<=40000000): EtaOk U O:=by
 subst b;refine⟨h.1,λx hx=>?_⟩;obtain ⟨i,a,rfl⟩:=List.mem_iff_getElem.1 hx;have:=h.2 i (by rw[<-h.1];exact a);rw[show O.getD i 0=O[i] from by simp[List.getD,a]] at this;exact⟨this.1,bp this.2 (bp (hf i) dd)⟩
def etI(p:Pr)(V:List Rat): Nat->List Rat
 | 0=>List.replicate p.m.T.length 0
 | t+1=>(etI p V t).set t (mxL (EZ (pt p.m (p.m.T.getD t (0,0,0)).1) (pt p.m (p.m.T.getD t (0,0,0)).2.1) (pt p.m (p.m.T.getD t (0,0,0)).2.2)) 3*Wj p V t)
def addE(O:List Rat)(z:Int)(j:Rat): List Rat:=if 0<=z then O.set z.toNat (O.getD z.toNat 0+j) else O
def etJ(p:Pr)(V:List Rat): Nat->List Rat
 | 0=>etI p V p.m.T.length
 | i+1=>addE (addE (etJ p V i) ((Za p.m.T).getD i ed0).l (if 0<=((Za p.m.T).getD i ed0).l/\0<=((Za p.m.T).getD i ed0).r then Ao p V ((Za p.m.T).getD i ed0)*Xx else Ao p V ((Za p.m.T).getD i ed0))) ((Za p.m.T).getD i ed0).r (if 0<=((Za p.m.T).getD i ed0).l/\0<=((Za p.m.T).getD i ed0).r then Ao p V ((Za p.m.T).getD i ed0)*Xx else Ao p V ((Za p.m.T).getD i ed0))
def Gh(p:Pr)(V:List Rat): List Rat:=etJ p V (Za p.m.T).length
theorem N2: addE k5 (j:Int) c8=k5.set j (k5.getD j 0+c8):=if_pos oo
theorem eJ(h:¬0<=c7): addE k5 c7 c8=k5:=if_neg h
section
variable{p:Pr}{V Y:List Rat}{i tl tr:Nat}(hY:Y=etJ p V i)
include hY
theorem jU(hl:((Za p.m.T).getD i ed0).l=(tl:Int))(hr:((Za p.m.T).getD i ed0).r=(tr:Int)): (Y.set tl (Y.getD tl 0+Ao p V ((Za p.m.T).getD i ed0)*Xx)).set tr ((Y.set tl (Y.getD tl 0+Ao p V ((Za p.m.T).getD i ed0)*Xx)).getD tr 0+Ao p V ((Za p.m.T).getD i ed0)*Xx)=etJ p V (i+1):=by
 rw[etJ, <-hY,if_pos (by rw[hl,hr];omega),hl,hr,N2,N2]
theorem etJ_l(hl:((Za p.m.T).getD i ed0).l=(tl:Int))(hr:¬0<=((Za p.m.T).getD i ed0).r): Y.set tl (Y.getD tl 0+Ao p V ((Za p.m.T).getD i ed0))=etJ p V (i+1):=by
 rw[etJ, <-hY,if_neg (λh=>hr h.2),eJ _ _ hr,hl,N2]
theorem etJ_r(hl:¬0<=((Za p.m.T).getD i ed0).l)(hr:((Za p.m.T).getD i ed0).r=(tr:Int)): Y.set tr (Y.getD tr 0+Ao p V ((Za p.m.T).getD i ed0))=etJ p V (i+1):=by
 rw[etJ, <-hY,if_neg (λh=>hl h.1),eJ _ _ hl,hr,N2]
end
theorem nJ(cT h J:Nat)(j9:List Rat)(c4:Option Addr)(s:Nat)(p:EsV b7 j9): Ctr prog 8 [Xv b7 c6 b8 b9 c3 j cT h J,Hv b7.m b7.o j9 c6 b8 b9 j cT h c4 s] [Row c6 (cellsOf encPt b7.m.P),Row b8 (cellsOf Ze b7.m.T),Row b9 (cellsOf Ze b7.m.S),Row b7.f.a (cellsOf Zy b7.f.l),Row c3 (cellsOf Jo b7.G),Vr (Je b7.G),Row c4 (cellsOf Qa j9),SideF] (λv Ψ => ∃(O:List Rat) (ad:Option Addr),(EtaOk b7.m.T.length O/\O=Gh b7 j9)/\v=.tuple #[.slice ad O.length O.length,.int .i64 0]/\Ψ=[Row ad (cellsOf Qa O)]):=by
 have j2:=p.pv.m.nP;have h6:=p.pv.m.nT;have j0:=p.pv.m.nS;have i7:=Kh b7.m.T;refine fnI func8 I ntmps8 λS w0 hS=>zS (zx I λb2=>zx I λb3=>au 0x6e11f31255 ?_);refine zF [_,_] call25 (eY b7 _ _ _ _ _ _ _ _ j9 _ s p) ?_;rintro v22 e8 ⟨U,aU,cU,hU,rfl,rfl⟩;have a8:U.length=b7.m.T.length:=by have:=congrArg List.length hU;rw[az,az] at this;exact this
 refine au 0xbb4 ?_;refine zz zeroValue100 λb6=>stW I I GZ ?_;refine au 0x317c2d0f431125 ?_;refine zp (.fA I F7)<|ldZ Mv ?_;refine au 0x2cf ?_;intro a w j6;refine Zc<|Qz j6 I I runUnderlying54 typeInfo47 sizeOf47 Xc I dd oo (by show 56*((U).length)<=281474976710656;omega) oo dd ?_;clear j6;intro j7 a w j6;replace j6:=j6.same I (by rw[<-Ap (enc:=Qa)]) I;refine gL j6<|au 0x82447f431125 ?_;intro a w j6;refine lpG j6 [4,5,6,8,33] pkL (λY Z (t:Nat) a w=>t<=U.length /\ ∃(O:List Rat),((GE O t U.length (λ_=>7000000)/\O=etI b7 j9 t))/\St 107 S w0 ((34,nI t)::Y) [(j7,.cells (cellsOf Qa<|O).toArray 47 (0,0)),(b6,bV (B9 b7 c6 b8 b9 c3 j cT h J U aU cU) 100),(b3,bV (Hv b7.m b7.o j9 c6 b8 b9 j cT h c4 s) 57),(b2,bV (Xv b7 c6 b8 b9 c3 j cT h J) 53)] Z a w) (λt=>U.length-t) 0 (⟨cX _,List.replicate U.length 0,⟨GE.nil _ _,by rw[a8];rfl⟩,by exact(j6).sub sA⟩) ?_;clear j6;rintro t a w ⟨h0,O,⟨hO,q⟩,j6⟩;refine gC j6<|au 0x12d31 ?_;intro a w j6;refine Zb j6 I (λQ=>?_) (λQ=>?_)
 ·have a6:t<U.length:=dT Q;have h7:=hO.1;have D:t<b7.m.T.length:=oo;have c7:=getD_mem b7.m.T (d:=(0,0,0)) D;obtain ⟨e0,h4⟩:=inn_ok p D;obtain ⟨H,b4,n⟩:=p.pv.m.tri c7;obtain ⟨c5,h3⟩:=pY H b4 n;have j1:=Qh (mxL (EZ (pt b7.m (b7.m.T.getD t (0,0,0)).1) (pt b7.m (b7.m.T.getD t (0,0,0)).2.1) (pt b7.m (b7.m.T.getD t (0,0,0)).2.2)) 3) (Wj b7 j9 t);refine gC j6<|au 0x25431817 ?_;refine yE [0,1,2,3,6,7,4,5,8,9,10,11]<|au 0x99 ?_;refine ldY Aj ?_;clear j6;refine au 0x9 ?_;refine ldY Aj ?_;refine au 0x9 ?_;refine Gm I kk (vs:=[_,_]) I call28 (HH 4 b7 _ _ _ _ _ _ _ _ U aU cU t D p.pv.m) (by exact hsA) dd ?_;refine yv [_] I I call27 (WN _ _ _ H.wide b4.wide n.wide) ?_;refine Gm I kk (vs:=[_,_]) I call29 (lI b7 _ _ _ _ _ _ _ _ j9 U _ cU t p hU D) (by exact hsA) dd ?_;refine au 0xb2f ?_;have e9:=Qh (mxL (EZ (pt b7.m (b7.m.T.getD t (0,0,0)).1) (pt b7.m (b7.m.T.getD t (0,0,0)).2.1) (pt b7.m (b7.m.T.getD t (0,0,0)).2.2)) 3) (Wj b7 j9 t);refine au 0x42f ?_;refine Vm (b:=j7) (cs:=(cellsOf Qa O).toArray) (cs':=(cellsOf Qa<|O.set t (mxL (EZ (pt b7.m (b7.m.T.getD t (0,0,0)).1) (pt b7.m (b7.m.T.getD t (0,0,0)).2.1)<|pt b7.m (b7.m.T.getD t (0,0,0)).2.2) 3*Wj b7 j9 t)).toArray) (v:=Qa (mxL (EZ (pt b7.m (b7.m.T.getD t (0,0,0)).1) (pt b7.m (b7.m.T.getD t (0,0,0)).2.1)<|pt b7.m (b7.m.T.getD t (0,0,0)).2.2) 3*Wj b7 j9 t)) I kk I I (Gk (k:=5) (λ_=>rfl) O t oo (mxL (EZ (pt b7.m (b7.m.T.getD t (0,0,0)).1) (pt b7.m (b7.m.T.getD t (0,0,0)).2.1)<|pt b7.m (b7.m.T.getD t (0,0,0)).2.2) 3*Wj b7 j9 t)) uu sizeOf47 I (cells_le (k:=5) (λ_=>rfl) O t oo) I ?_;refine yn<|zr<|zp (.pN (t+1)<|.add I I)<|au 0x24 ?_;intro a w j6;exact⟨t+1,⟨oo,O.set t (mxL (EZ (pt b7.m (b7.m.T.getD t (0,0,0)).1) (pt b7.m (b7.m.T.getD t (0,0,0)).2.1) (pt b7.m (b7.m.T.getD t (0,0,0)).2.2)) 3*Wj b7 j9 t),⟨hO.put a6 (mul_ok c5 e0) oo,by rw[q];rfl⟩,by exact tO j6⟩,oo⟩
 have b0:U.length=t:=dF Q;subst b0;refine gC j6<|au 0x74f310e ?_;have e6:=Kq (1) (2) oo oo oo oo;refine au 0xbb4 ?_;refine zz Xc λc9=>stW I I Zl ?_;refine za I<|zn<|zS<|zp (.fA I IB)<|au 0x43f ?_;refine ldZ OA ?_;refine zF [_] call30 (IJ 4 b7.m _ _ _ _ _ _ p.pv.m) ?_;rintro i1 e1 ⟨aE,rfl,rfl⟩;refine au 0x31125 ?_;refine ldZ Aj ?_;refine zm I<|zF [_,_] call31 (lH b7 _ _ _ _ _ _ _ _ j9 U _ cU _ _ p hU) ?_;rintro v59 e5 ⟨aJ,rfl,rfl⟩;refine au 0x82447f ?_;intro a w j6;refine lpG j6 [4,5,6,8,10,12,33,34,59,60] pkL (λZ E (i:Nat) a w=>i<=(Za b7.m.T).length /\ ∃(Y:List Rat),((GE Y U.length U.length (etF (Za b7.m.T) i)/\Y=etJ b7 j9 i))/\St 107 S w0 ((61,nI i)::Z) [(c9,bV (Qa<|Xx) 47),(j7,.cells (cellsOf Qa<|Y).toArray 47 (0,0)),(b6,bV (B9 b7 c6 b8 b9 c3 j cT h J U aU cU) 100),(b3,bV (Hv b7.m b7.o j9 c6 b8 b9 j cT h c4 s) 57),(b2,bV (Xv b7 c6 b8 b9 c3 j cT h J) 53)] E a w) (λi=>(Za b7.m.T).length-i) 0 (⟨cX _,O,⟨hO.mono (λk=>by unfold etF;omega),by rw[q,a8];rfl⟩,by exact(j6).sub sA⟩) ?_;clear j6;rintro i a w ⟨e4,Y,⟨hY,W⟩,j6⟩;refine gC j6<|au 0x12d31 ?_;intro a w j6;refine Zb j6 I (λL=>?_) (λL=>?_)
 ·have g:i<(Za b7.m.T).length:=dT L;have h8:((Za b7.m.T).map (Ao b7 j9)).length=(Za b7.m.T).length:=az ..;obtain ⟨X,a1,rfl⟩:=j6.row_addr (ad:=aE) (M:=cellsOf Qr (Za b7.m.T)) mm (nE 4);obtain ⟨e2,e3,rfl⟩:=j6.row_addr (ad:=aJ) (M:=cellsOf Qa (((Za b7.m.T).map (Ao b7 j9)))) mm (nE 5);have h2:=hY.1;have j3:=Hk;have F:=EA p.pv.m.num _ (getD_mem (Za b7.m.T) (d:=ed0) g);obtain ⟨a7,c8⟩:=qg p F;have l0:=F.l0;have l1:=F.l1;have r0:=F.r0;have r1:=F.r1;have hs:=F.has;have j4:Zr (Ao b7 j9 ((Za b7.m.T).getD i ed0))+1<=11000000:=oo;have hH:=qz a7 c8;refine gC j6<|au 0x98f431817 ?_;refine zD I mm (cells_lt (k:=5) dd (λ_=>rfl) (((Za b7.m.T).map<|Ao b7 j9)) i oo) isAgg47 sizeOf47 (Zh (k:=5) (λ_=>rfl) ((λ_=>rfl)) (((Za b7.m.T).map<|Ao b7 j9)) 0 i oo) (.inl I) ?_;clear j6;intro a w j6;rw[jm_at (f:=Ao b7 j9) g] at j6;refine gL j6 (zz Xc λh9=>za I<|stW I I Zl ?_);refine zn<|zs<|yE [0,1,2,3,4,5,6,7,8,9,10,11]<|au 0x99 ?_;refine yp I (.indexAddr I I<|bN _ _ _ _ _ oo)<|yp I (aq (v':=.pointer<|some ⟨X,a1+(i*4+2),none⟩) (.fA I C2) (by rw[gT])) ?_;clear j6;refine Zf I kk I mm (EI (k:=4) (enc:=Qr) (λ_=>rfl) (Za b7.m.T) i 2 oo dd) isAgg3 sizeOf3 (Ko (k:=4) (enc:=Qr) (λ_=>rfl) (Za b7.m.T) ed0 i oo false 1 2 _ dd dd I) (.inr I) dd ?_;refine au 0x99 ?_;refine yp I (.indexAddr I I<|bN _ _ _ _ _ oo)<|yp I (aq (v':=.pointer<|some ⟨X,a1+(i*4+3),none⟩) (.fA I Az) (by rw[gT])) ?_;refine Zf I kk I mm (EI (k:=4) (enc:=Qr) (λ_=>rfl) (Za b7.m.T) i 3 oo dd) isAgg3 sizeOf3 (Ko (k:=4) (enc:=Qr) (λ_=>rfl) (Za b7.m.T) ed0 i oo false 1 3 _ dd dd I) (.inr I) dd ?_;refine au 0x00f4311a4e4e ?_;intro a w j6;refine Zi j6 (λy j6=>?_) (λy j6=>?_)
  ·obtain ⟨tl,R⟩:=tN (show 0<=((Za b7.m.T).getD i ed0).l by exact of_decide_eq_true y);have V:(Value.cells (Qr ((Za b7.m.T).getD i ed0)))[2]' nb=.int .i64 ((tl:Nat):Int):=by rw[<-R];rfl
   rw[V] at j6;have K:tl<U.length:=oo;have i6:=hY.at K (Uq b7.m.T i tl);refine gL j6<|zm I<|zq 78 I I (.move I)<|zq 78 I I (.geq I I) ?_;clear j6;intro a w j6;refine Zi j6 (λC j6=>?_) (λC j6=>?_)
   ·obtain ⟨tr,z⟩:=tN (show 0<=((Za b7.m.T).getD i ed0).r by exact of_decide_eq_true C);have N:(Value.cells (Qr ((Za b7.m.T).getD i ed0)))[3]' nb=.int .i64 ((tr:Nat):Int):=by rw[<-z];rfl
    rw[N] at j6;have u:tr<U.length:=oo;have hA:=hY.add K R hH.1 hH.2;have j5:=hA.at (c:=51000000) u (by have:=Uq b7.m.T i tr;show etF (Za b7.m.T) i tr+11000000*(if ((Za b7.m.T).getD i ed0).l=(tr:Int) then 1 else 0)<=_;split<;>omega);have h5:=hA.1;refine gL j6<|au 0xd9f6e6e31e23e ?_;have e7:=Qh (Ao b7 j9 ((Za b7.m.T).getD i ed0)) (Xx);refine stW I I Zl ?_;refine au 0x44312 ?_;refine zB [(_,_),(_,_)] I (Xa _ _) λb5=>?_;clear j6;intro a w j6;replace j6:=j6.shareAll hS (List.map Qb ([tl,tr])) I;refine gL j6<|au 0x82420f ?_;refine lpR 3<|rdS<|au 0x48f318171e128e31 ?_;refine zD I mm (by rw[az];first|omega|simp) isAgg3 sizeOf3 (Zn (enc:=Qb) (l:=([tl,tr])) 0 (by first|omega|simp)) (.inr I) ?_;clear j6;intro a w j6;rw[show([tl,tr]:List Nat).getD 0 0=tl from rfl] at j6;refine gL j6<|au 0x200f43125 ?_;refine kU I (λe=>(by exfalso;have:=of_decide_eq_false e;omega)) λe=>yE [0,1,2,3,4,5,6,7,8,9]<|au 0x42f9999 ?_;refine yd I I mm isAgg47 sizeOf47 (Bo (k:=5) (λ_=>rfl) ((λ_=>rfl)) Y 0 tl oo) ?_;clear j6;refine au 0xce ?_;refine au 0x94f ?_;have A:=Xo (Y.getD tl 0) (Ao b7 j9 ((Za b7.m.T).getD i ed0)*Xx);refine au 0x42f ?_;refine Vm (b:=j7) (cs:=(cellsOf Qa Y).toArray) (cs':=(cellsOf Qa<|Y.set tl ((Y.getD tl 0)+(Ao b7 j9 ((Za b7.m.T).getD i ed0)*Xx))).toArray) (v:=Qa ((Y.getD tl 0)+(Ao b7 j9 ((Za b7.m.T).getD i ed0)*Xx))) I kk I I (Gk (k:=5) (λ_=>rfl) Y tl oo ((Y.getD tl 0)+(Ao b7 j9 ((Za b7.m.T).getD i ed0)*Xx))) uu sizeOf47 I (cells_le (k:=5) (λ_=>rfl) Y tl oo) I ?_;refine au 0x2452f3a ?_;intro a w j6;replace j6:=kQ j6 [4,5,6,8,10,12,14,33,34,59,60,61,87,88,89,90,94] pkL;refine Zk ?_;refine gC j6<|au 0x48f318171e128e31 ?_;refine zD I mm (by rw[az];first|omega|simp) isAgg3 sizeOf3 (Zn (enc:=Qb) (l:=([tl,tr])) 0 (by first|omega|simp)) (.inr I) ?_;clear j6;intro a w j6;rw[show([tl,tr]:List Nat).getD 1 0=tr from rfl] at j6;refine gL j6<|au 0x200f43125 ?_;refine kU I (λe=>(by exfalso;have:=of_decide_eq_false e;omega)) λe=>yE [0,1,2,3,4,5,6,7,8,9]<|au 0x42f9999 ?_;refine yd I I mm isAgg47 sizeOf47 (Bo (k:=5) (λ_=>rfl) ((λ_=>rfl)) (Y.set tl ((Y.getD tl 0)+(Ao b7 j9 ((Za b7.m.T).getD i ed0)*Xx))) 0 tr oo) ?_;clear j6;refine au 0xce ?_;refine au 0x94f ?_;have A:=Xo ((Y.set tl ((Y.getD tl 0)+(Ao b7 j9 ((Za b7.m.T).getD i ed0)*Xx))).getD tr 0) (Ao b7 j9 ((Za b7.m.T).getD i ed0)*Xx);refine au 0x42f ?_;refine Vm (b:=j7) (cs:=(cellsOf Qa<|Y.set tl ((Y.getD tl 0)+(Ao b7 j9 ((Za b7.m.T).getD i ed0)*Xx))).toArray) (cs':=(cellsOf Qa ((Y.set tl ((Y.getD tl 0)+(Ao b7 j9 ((Za b7.m.T).getD i ed0)*Xx))).set tr (((Y.set tl ((Y.getD tl 0)+(Ao b7 j9 ((Za b7.m.T).getD i ed0)*Xx))).getD tr 0)+(Ao b7 j9 ((Za b7.m.T).getD i ed0)*Xx)))).toArray) (v:=Qa (((Y.set tl ((Y.getD tl 0)+(Ao b7 j9 ((Za b7.m.T).getD i ed0)*Xx))).getD tr 0)+(Ao b7 j9 ((Za b7.m.T).getD i ed0)*Xx))) I kk I I (Gk (k:=5) (λ_=>rfl) (Y.set tl ((Y.getD tl 0)+(Ao b7 j9 ((Za b7.m.T).getD i ed0)*Xx))) tr oo (((Y.set tl ((Y.getD tl 0)+(Ao b7 j9 ((Za b7.m.T).getD i ed0)*Xx))).getD tr 0)+(Ao b7 j9 ((Za b7.m.T).getD i ed0)*Xx))) uu sizeOf47 I (cells_le (k:=5) (λ_=>rfl) (Y.set tl ((Y.getD tl 0)+(Ao b7 j9 ((Za b7.m.T).getD i ed0)*Xx))) tr oo) I ?_;refine au 0x2450f3a ?_;intro a w j6;replace j6:=kQ j6 [4,5,6,8,10,12,14,33,34,59,60,61,87,88,89,90,94] pkL;refine Zk ?_;refine gC j6<|au 0x30ec1260f31 ?_;refine zp (.pN (i+1)<|.add I I)<|au 0x24 ?_;clear j6;intro a w j6;exact⟨i+1,⟨oo,(Y.set tl ((Y.getD tl 0)+(Ao b7 j9 ((Za b7.m.T).getD i ed0)*Xx))).set tr (((Y.set tl ((Y.getD tl 0)+(Ao b7 j9 ((Za b7.m.T).getD i ed0)*Xx))).getD tr 0)+(Ao b7 j9 ((Za b7.m.T).getD i ed0)*Xx)),⟨(hA.add u z hH.1 hH.2).mono (λk=>uz (Nw (Za b7.m.T) g k)),jU W R z⟩,by exact tO j6⟩,oo⟩
   refine gL j6<|au 0x44317c23e ?_;refine zB [(_,_),(_,_)] I (Xa _ _) λb5=>?_;clear j6;intro a w j6;replace j6:=j6.shareAll hS (List.map Ib ([((tl:Nat):Int),((Za b7.m.T).getD i ed0).r])) I;refine gL j6<|au 0x82420f ?_;refine lpR 3<|rdS<|au 0x48f318171e128e31 ?_;refine zD I mm (by rw[az];first|omega|simp) isAgg3 sizeOf3 (Zn (enc:=Ib) (l:=([((tl:Nat):Int),((Za b7.m.T).getD i ed0).r])) 0 (by first|omega|simp)) (.inr I) ?_;clear j6;intro a w j6;rw[show([((tl:Nat):Int),((Za b7.m.T).getD i ed0).r]:List Int).getD 0 0=((tl:Nat):Int) from rfl] at j6;refine gL j6<|au 0x200f43125 ?_;refine kU I (λe=>(by exfalso;have:=of_decide_eq_false e;omega)) λe=>yE [0,1,2,3,4,5,6,7,8,9]<|au 0x42f9999 ?_;refine yd I I mm isAgg47 sizeOf47 (Bo (k:=5) (λ_=>rfl) ((λ_=>rfl)) Y 0 tl oo) ?_;clear j6;refine au 0xce ?_;refine au 0x94f ?_;have A:=Xo (Y.getD tl 0) (Ao b7 j9 ((Za b7.m.T).getD i ed0));refine au 0x42f ?_;refine Vm (b:=j7) (cs:=(cellsOf Qa Y).toArray) (cs':=(cellsOf Qa<|Y.set tl ((Y.getD tl 0)+(Ao b7 j9 ((Za b7.m.T).getD i ed0)))).toArray) (v:=Qa ((Y.getD tl 0)+(Ao b7 j9 ((Za b7.m.T).getD i ed0)))) I kk I I (Gk (k:=5) (λ_=>rfl) Y tl oo ((Y.getD tl 0)+(Ao b7 j9 ((Za b7.m.T).getD i ed0)))) uu sizeOf47 I (cells_le (k:=5) (λ_=>rfl) Y tl oo) I ?_;refine au 0x2452f3a ?_;intro a w j6;replace j6:=kQ j6 [4,5,6,8,10,12,14,33,34,59,60,61,87,88,89,90,94] pkL;refine Zk ?_;refine gC j6<|au 0x48f318171e128e31 ?_;refine zD I mm (by rw[az];first|omega|simp) isAgg3 sizeOf3 (Zn (enc:=Ib) (l:=([((tl:Nat):Int),((Za b7.m.T).getD i ed0).r])) 0 (by first|omega|simp)) (.inr I) ?_;clear j6;intro a w j6;rw[show([((tl:Nat):Int),((Za b7.m.T).getD i ed0).r]:List Int).getD 1 0=((Za b7.m.T).getD i ed0).r from rfl] at j6;refine gL j6<|au 0x200f43125 ?_;refine kV I (λe=>(by exfalso;have:=e;rw[C] at this;cases this)) λe=>au 0x2450f37 ?_;clear j6;intro a w j6;replace j6:=kQ j6 [4,5,6,8,10,12,14,33,34,59,60,61,87,88,89,90,94] pkL;refine Zk ?_;refine gC j6<|au 0x30ec1260f31 ?_;refine zp (.pN (i+1)<|.add I I)<|au 0x24 ?_;clear j6;intro a w j6;exact⟨i+1,⟨oo,Y.set tl ((Y.getD tl 0)+(Ao b7 j9 ((Za b7.m.T).getD i ed0))),⟨((hY.add K R a7 j4).skip (B:=11000000) (x:=((Za b7.m.T).getD i ed0).r)).mono (λk=>uz (Nw (Za b7.m.T) g k)),etJ_l W R (of_decide_eq_false C)⟩,by exact tO j6⟩,oo⟩
  obtain ⟨tr,z⟩:=tN (show 0<=((Za b7.m.T).getD i ed0).r by have:=of_decide_eq_false y;omega);have N:(Value.cells (Qr ((Za b7.m.T).getD i ed0)))[3]' nb=.int .i64 ((tr:Nat):Int):=by rw[<-z];rfl
  rw[N] at j6;have u:tr<U.length:=oo;have j5:=hY.at u (Uq b7.m.T i tr);refine gL j6<|zm I<|zo 78 I I I<|zo 78 I I I<|au 0x44317c22e ?_;refine zB [(_,_),(_,_)] I (Xa _ _) λb5=>?_;clear j6;intro a w j6;replace j6:=j6.shareAll hS (List.map Ib ([((Za b7.m.T).getD i ed0).l,((tr:Nat):Int)])) I;refine gL j6<|au 0x82420f ?_;refine lpR 3<|rdS<|au 0x48f318171e128e31 ?_;refine zD I mm (by rw[az];first|omega|simp) isAgg3 sizeOf3 (Zn (enc:=Ib) (l:=([((Za b7.m.T).getD i ed0).l,((tr:Nat):Int)])) 0 (by first|omega|simp)) (.inr I) ?_;clear j6;intro a w j6;rw[show([((Za b7.m.T).getD i ed0).l,((tr:Nat):Int)]:List Int).getD 0 0=((Za b7.m.T).getD i ed0).l from rfl] at j6;refine gL j6<|au 0x200f43125 ?_;refine kV I (λe=>(by exfalso;have:=e;rw[y] at this;cases this)) λe=>au 0x2452f37 ?_;clear j6;intro a w j6;replace j6:=kQ j6 [4,5,6,8,10,12,14,33,34,59,60,61,87,88,89,90,94] pkL;refine Zk ?_;refine gC j6<|au 0x48f318171e128e31 ?_;refine zD I mm (by rw[az];first|omega|simp) isAgg3 sizeOf3 (Zn (enc:=Ib) (l:=([((Za b7.m.T).getD i ed0).l,((tr:Nat):Int)])) 0 (by first|omega|simp)) (.inr I) ?_;clear j6;intro a w j6;rw[show([((Za b7.m.T).getD i ed0).l,((tr:Nat):Int)]:List Int).getD 1 0=((tr:Nat):Int) from rfl] at j6;refine gL j6<|au 0x200f43125 ?_;refine kU I (λe=>(by exfalso;have:=of_decide_eq_false e;omega)) λe=>yE [0,1,2,3,4,5,6,7,8,9]<|au 0x42f9999 ?_;refine yd I I mm isAgg47 sizeOf47 (Bo (k:=5) (λ_=>rfl) ((λ_=>rfl)) Y 0 tr oo) ?_;clear j6;refine au 0xce ?_;refine au 0x94f ?_;have A:=Xo (Y.getD tr 0) (Ao b7 j9 ((Za b7.m.T).getD i ed0));refine au 0x42f ?_;refine Vm (b:=j7) (cs:=(cellsOf Qa Y).toArray) (cs':=(cellsOf Qa<|Y.set tr ((Y.getD tr 0)+(Ao b7 j9 ((Za b7.m.T).getD i ed0)))).toArray) (v:=Qa ((Y.getD tr 0)+(Ao b7 j9 ((Za b7.m.T).getD i ed0)))) I kk I I (Gk (k:=5) (λ_=>rfl) Y tr oo ((Y.getD tr 0)+(Ao b7 j9 ((Za b7.m.T).getD i ed0)))) uu sizeOf47 I (cells_le (k:=5) (λ_=>rfl) Y tr oo) I ?_;refine au 0x2450f3a ?_;intro a w j6;replace j6:=kQ j6 [4,5,6,8,10,12,14,33,34,59,60,61,87,88,89,90,94] pkL;refine Zk ?_;refine gC j6<|au 0x30ec1260f31 ?_;refine zp (.pN (i+1)<|.add I I)<|au 0x24 ?_;clear j6;intro a w j6;exact⟨i+1,⟨oo,Y.set tr ((Y.getD tr 0)+(Ao b7 j9 ((Za b7.m.T).getD i ed0))),⟨((hY.skip (B:=11000000) (x:=((Za b7.m.T).getD i ed0).l)).add u z a7 j4).mono (λk=>uz (Nw (Za b7.m.T) g k)),etJ_r W (of_decide_eq_false y) z⟩,by exact tO j6⟩,oo⟩
 have b1:(Za b7.m.T).length=i:=dF L;subst b1;refine gC j6<|au 0x4310e ?_;clear j6;intro a w j6;replace j6:=(j6.perm (List.Perm.trans (BH (cr _)) (List.Perm.cons _ (cr _))).symm).shareAll hS (cellsOf Qa Y) I;refine gL j6<|au 0x6255 ?_;clear j6;intro a w j6;refine Qj (Ψ:=[Row (some ⟨j7,0,none⟩) (cellsOf Qa Y)]) j6 (Qd j6 I (.tmp I)<|.tmp I) ?_ ss;exact⟨Y,some ⟨j7,0,none⟩,⟨hY.done a8 (Uq b7.m.T _),W⟩,by rw[hY.1],rfl⟩
section
variable{P:Program}{ops:Array Oper}{n:Nat}{S:Nat->Prop}{w0 w:World}{Kf:Exit->Act->World->Prop}{H:List Nat}{L:List (Nat×Value)}{σ σ2:List (Nat×Obj)}{Φ:List Zs}{a:Act}
variable{i d b:Nat}{T K E:TypeId}{x y v:Operand}{ty:TypeId}{pos:String}{aft:Array Edge}{α β:Type}[DecidableEq α]{ek:α->Value}{ev:β->Value}{m:List (α×β)}{z0:β}
theorem jB(ho:ops[i]?=some ⟨some d,.lookup T x y true,ty,pos,aft,none⟩)(hq:Yz ops true i H=true)(M:MK P T K E ek (ev z0)){u:α}(hx:Fx.ev L x=some (.map (some b)))(c:Fx.ev L y=some (ek u))(hm:(b,mB ek ev m)∈σ)(hd:d<n)(k:Head P ops n S w0 Kf H ((d,.tuple #[ev ((Zo m u).getD z0),.bool (Zo m u).isSome])::L) σ Φ): Head P ops n S w0 Kf (i::H) L σ Φ:=by
 unfold Fx.Head at k ⊢;exact .inl ⟨_,d,_,true,ho,rfl,hd,hq,λ_ _ _ a =>.inl ⟨rfl,λw' hw=>by
  have e:w'.heap[b]?=some (mB ek ev m):=by rw[(hw rfl).block _ (a.own_lt (eg _ hm))];exact a.own _ (eg _ hm)
  simp only[execOp,a.ev hx,a.ev c,bl,M.lookup m u true e];rfl⟩,k⟩
end
theorem Oe(h:St N b1 b2 c9 e0 b5 e2 e3)(ho:e4[U]?=some ⟨some e8,.call ⟨.builtin .append,#[e9,h0],#[h2,h3]⟩,h6,h7,h8,none⟩)(hx:Fx.ev c9 e9=some b0)(K:Fx.ev c9 h0=some (.slice (some ⟨a1,0,none⟩) i7 q5))(C:e0.Perm ((a1,.cells a6.toArray e7 (0,0))::(j0++e1)))(O:GrowO i1 h4 b0 i6 q6 j0)(hT:∀e3,(underlying h2).run k6 e3=.ok (.slice h4) e3)(q:∀e3,(underlying h3).run k6 e3=.ok (.slice h5) e3)(M:∀e3,(typeInfo h4).run k6 e3=.ok h9 e3)(hk:∀e3,(Go.sizeOf h4).run k6 e3=.ok i1 e3)(hz:∀e3,(zeroValue h4).run k6 e3=.ok a8 e3)(B:a8.cells.size=i1)(r:i1≠0)(H:0<h9.bytes)(s:a6.length=i7*i1)(A:a6.all flat=true)(u:0<i7)(c:h9.bytes*(2*(i6+i7)+192)<=281474976710656)(hd:e8<N)(kk:∀v' o' F w',GrowO i1 h4 v' (i6+i7) (q6++a6) o'->St N b1 b2 ((e8,v')::c9) (o'++e1) b5 F w'->wpX k6 e4 e5 W (e6.setIfInBounds U true) F w'): Cc k6 e4 e5 W e6 U e2 e3 :=
 Js ho (EX h hx K C O hT q M hk hz B r H s A u c hd λv' o' w' I hs =>
  ⟨λoo g=>by rw[ho] at g;cases g;exact⟨(λhe=>by cases he),(λ_ _ _ _ he=>by cases he),λt ht=>BP (o:=⟨some e8,.call ⟨.builtin .append,#[e9,h0],#[h2,h3]⟩,h6,h7,h8,none⟩) ho ht,λt p hf=>noF ho (λ_ he=>by cases he) p hf⟩,kk v' o' _ _ I hs⟩)
theorem XD(enc:j1->Value)(A B:List j1)(X:GrowO a1 h5 a8 A.length (cellsOf enc A) j0)(h:St N b1 b2 c9 e0 b5 e2 e3)(kk:∀ad c o' l w',GrowO a1 h5 (.slice ad (A++B).length c) (A++B).length (cellsOf enc (A++B)) o'->St N b1 b2 ((U,.slice ad (A++B).length c)::c9) (o'++e1) b5 l w'->wpX prog e4 e5 i1 (e6.setIfInBounds e8 true) l w')(ho:e4[e8]?=some ⟨some U,.call ⟨.builtin .append,#[e9,h0],#[e7,h4]⟩,h3,h7,h8,none⟩:=by exact rfl)(hx:Fx.ev c9 e9=some a8:=by exact rfl)(J:Fx.ev c9 h0=some (.slice (some ⟨W,0,none⟩) i6 i7):=by exact rfl)(h1:Ex1 e0 (W,.cells a6.toArray h2 (0,0)) k7:=by repeat(first|exact Ex1.head|apply Ex1.tail|apply Ex1.app))(C:ExL k7 j0 e1:=by repeat(first|exact ExL.nil|exact ExL.head|exact ExL.head (o:=[_])|exact ExL.last|apply ExL.tail|apply ExL.app))(O:a6=cellsOf enc B:=by exact rfl)(hl:B.length=i6:=by exact rfl)(hT:∀e3,(underlying e7).run prog e3=.ok (.slice h5) e3:=by exact tyU)(G:∀e3,(underlying h4).run prog e3=.ok (.slice h6) e3:=by exact tyU)(K:∀e3,(typeInfo h5).run prog e3=.ok h9 e3:=by exact tyI)(hs:∀e3,(Go.sizeOf h5).run prog e3=.ok a1 e3:=by exact tyS)(hz:∀e3,(zeroValue h5).run prog e3=.ok b0 e3:=by exact tyZ)(hk:b0.cells.size=a1:=by exact rfl)(D:a1≠0:=by decide)(F:0<h9.bytes:=by decide)(p:a6.length=i6*a1:=by exact rfl)(hf:a6.all flat=true:=by exact rfl)(r:0<i6:=by decide)(q:h9.bytes<=4096:=by decide)(hr:4096*(2*(A.length+i6)+192)<=281474976710656:=by(try dsimp only);omega)(hd:U<N:=by decide): Cc prog e4 e5 i1 e6 e8 e2 e3 :=
 Oe h ho hx J (h1.perm.trans (List.Perm.cons _ C.perm)) X hT G K hs hz hk D F p hf r (bp (cc _ q) hr) hd λv' o' l w' k hs=>by
  obtain ⟨ad,c,rfl⟩:=k.is;rw[show A.length+i6=(A++B).length by rw[bd,hl]] at hs k;rw[O, <-Qp] at k;exact kk ad c o' l w' k hs
theorem xapM(enc:j1->Value)(A B:List j1)(X:GrowO a1 h5 a8 A.length (List.map enc A) j0)(h:St N b1 b2 c9 e0 b5 e2 e3)(kk:∀ad c o' l w',GrowO a1 h5 (.slice ad (A++B).length c) (A++B).length (List.map enc (A++B)) o'->St N b1 b2 ((U,.slice ad (A++B).length c)::c9) (o'++e1) b5 l w'->wpX prog e4 e5 i1 (e6.setIfInBounds e8 true) l w')(ho:e4[e8]?=some ⟨some U,.call ⟨.builtin .append,#[e9,h0],#[e7,h4]⟩,h3,h7,h8,none⟩:=by exact rfl)(hx:Fx.ev c9 e9=some a8:=by exact rfl)(J:Fx.ev c9 h0=some (.slice (some ⟨W,0,none⟩) i6 i7):=by exact rfl)(h1:Ex1 e0 (W,.cells a6.toArray h2 (0,0)) k7:=by repeat(first|exact Ex1.head|apply Ex1.tail|apply Ex1.app))(C:ExL k7 j0 e1:=by repeat(first|exact ExL.nil|exact ExL.head|exact ExL.head (o:=[_])|exact ExL.last|apply ExL.tail|apply ExL.app))(O:a6=List.map enc B:=by exact rfl)(hl:B.length=i6:=by exact rfl)(hT:∀e3,(underlying e7).run prog e3=.ok (.slice h5) e3:=by exact tyU)(G:∀e3,(underlying h4).run prog e3=.ok (.slice h6) e3:=by exact tyU)(K:∀e3,(typeInfo h5).run prog e3=.ok h9 e3:=by exact tyI)(hs:∀e3,(Go.sizeOf h5).run prog e3=.ok a1 e3:=by exact tyS)(hz:∀e3,(zeroValue h5).run prog e3=.ok b0 e3:=by exact tyZ)(hk:b0.cells.size=a1:=by exact rfl)(D:a1≠0:=by decide)(F:0<h9.bytes:=by decide)(p:a6.length=i6*a1:=by exact rfl)(hf:a6.all flat=true:=by exact rfl)(r:0<i6:=by decide)(q:h9.bytes<=4096:=by decide)(hr:4096*(2*(A.length+i6)+192)<=281474976710656:=by(try dsimp only);omega)(hd:U<N:=by decide): Cc prog e4 e5 i1 e6 e8 e2 e3 :=
 Oe h ho hx J (h1.perm.trans (List.Perm.cons _ C.perm)) X hT G K hs hz hk D F p hf r (bp (cc _ q) hr) hd λv' o' l w' k hs=>by
  obtain ⟨ad,c,rfl⟩:=k.is;rw[show A.length+i6=(A++B).length by rw[bd,hl]] at hs k;rw[O, <-dv] at k;exact kk ad c o' l w' k hs
def Qo(q:List ((Nat×Nat)×Nat)): Nat->Nat×Nat×Nat->List (Nat×Nat×Nat)
 | 0,c=>[c]
 | d+1,c=>if (Zo q (Zg c.2.1 c.2.2)).isSome=true then Qo q d ((Zo q (Zg c.2.1 c.2.2)).getD 0,c.1,c.2.1)++Qo q d ((Zo q (Zg c.2.1 c.2.2)).getD 0,c.2.2,c.1) else [c]
theorem Et(q:List ((Nat×Nat)×Nat)): ∀d c,(Qo q d c).length<=2 ^ d
 | 0,_=>aZ _
 | d+1,c=>by
  rw[Qo];split
  ·rw[bd];have:=Et q d ((Zo q (Zg c.2.1 c.2.2)).getD 0,c.1,c.2.1);have:=Et q d ((Zo q (Zg c.2.1 c.2.2)).getD 0,c.2.2,c.1);rw[iX];omega
  exact Nat.one_le_two_pow
theorem jE(h:(!(Zo C (Zg F.2.1 F.2.2)).isSome)=true\/N=0): Qo C N F=[F]:=by
 cases N with
 | zero=>rfl
 | succ N =>
  rcases h with h|h
  ·rw[Qo,if_neg (by intro e;rw[e] at h;cases h)]
  cases h
theorem jD(h:(!(Zo C (Zg F.2.1 F.2.2)).isSome)=false): Qo C (N+1) F=Qo C N ((Zo C (Zg F.2.1 F.2.2)).getD 0,F.1,F.2.1)++Qo C N ((Zo C (Zg F.2.1 F.2.2)).getD 0,F.2.2,F.1):=by
 rw[Qo,if_pos (by cases a:(Zo C (Zg F.2.1 F.2.2)).isSome;(rw[a] at h;cases h);rfl)]
theorem qy(h:(!(Zo C (Zg F.2.1 F.2.2)).isSome)=true\/N=0)(A:List (Nat×Nat×Nat))(a:List Nat)(t:Nat): A++Qo C N F=A++[F]/\a++List.replicate (Qo C N F).length t=a++[t]:=by
 rw[jE h];exact⟨rfl,rfl⟩
theorem qx{d:Nat}(h:(!(Zo C (Zg F.2.1 F.2.2)).isSome)=false)(A:List (Nat×Nat×Nat))(a:List Nat)(t:Nat):
  A++Qo C (d+1) F=(A++Qo C d ((Zo C (Zg F.2.1 F.2.2)).getD 0,F.1,F.2.1))++Qo C d ((Zo C (Zg F.2.1 F.2.2)).getD 0,F.2.2,F.1) /\
  a++List.replicate (Qo C (d+1) F).length t=(a++List.replicate (Qo C d ((Zo C (Zg F.2.1 F.2.2)).getD 0,F.1,F.2.1)).length t)++List.replicate (Qo C d ((Zo C (Zg F.2.1 F.2.2)).getD 0,F.2.2,F.1)).length t:=by
 rw[jD h,bd, <-List.replicate_append_replicate,cv,cv];exact⟨rfl,rfl⟩
def rQ(q:List ((Nat×Nat)×Nat))(bm bA bP bH mb d:Nat): Prop :=
 ∀(c:Nat×Nat×Nat) (t:Nat) (A:List (Nat×Nat×Nat)) (Ps:List Nat) (aA aP:Option Addr) (cA cP:Nat) (oA oP σ:List (Nat×Obj)) (Φ:List Zs),A.length+2 ^ d<=100000->Ps.length+2 ^ d<=100000 ->
  GrowO 3 133 (.slice aA A.length cA) A.length (cellsOf Ze A) oA->GrowO 1 3 (.slice aP Ps.length cP) Ps.length (List.map Qb Ps) oP ->
  GX prog 51 [Ze c,.int .i64 ((t:Nat):Int),.int .i64 ((d:Nat):Int),.pointer (some ⟨bm,0,none⟩),.pointer (some ⟨bA,0,none⟩),.pointer (some ⟨bP,0,none⟩),.pointer (some ⟨bH,0,none⟩)]
   (oA++(oP++((bA,.cells #[.slice aA A.length cA] 35 (0,0))::(bP,.cells #[.slice aP Ps.length cP] 61 (0,0))::(bH,.cells #[.func (.func 51) #[] #[.pointer (some ⟨bm,0,none⟩),.pointer (some ⟨bA,0,none⟩),.pointer (some ⟨bP,0,none⟩),.pointer (some ⟨bH,0,none⟩)]] 132 (0,0))::(bm,.cells #[.map (some mb)] 128 (0,0))::(mb,mB Zx Qb q)::σ))) Φ
   (λ_ σ' Φ' => ∃(aA2 aP2:Option Addr) (cA2 cP2:Nat) (oA2 oP2:List (Nat×Obj)),GrowO 3 133 (.slice aA2 (A++Qo q d c).length cA2) (A++Qo q d c).length (cellsOf Ze (A++Qo q d c)) oA2 /\
    GrowO 1 3 (.slice aP2 (Ps++List.replicate (Qo q d c).length t).length cP2) (Ps++List.replicate (Qo q d c).length t).length (List.map Qb (Ps++List.replicate (Qo q d c).length t)) oP2 /\
    σ'=oA2++(oP2++((bA,.cells #[.slice aA2 (A++Qo q d c).length cA2] 35 (0,0))::(bP,.cells #[.slice aP2 (Ps++List.replicate (Qo q d c).length t).length cP2] 61 (0,0))::(bH,.cells #[.func (.func 51) #[] #[.pointer (some ⟨bm,0,none⟩),.pointer (some ⟨bA,0,none⟩),.pointer (some ⟨bP,0,none⟩),.pointer (some ⟨bH,0,none⟩)]] 132 (0,0))::(bm,.cells #[.map (some mb)] 128 (0,0))::(mb,mB Zx Qb q)::σ))/\Φ=Φ')
theorem fj(d:Nat)(hd:d<=10)(ih:∀e,d=e+1->rQ j2 j o h J s e): rQ j2 j o h J s d:=by
 intro c t A L aA aP cA cP oA oP σ Φ C E i y;refine fn_introM func51 I ntmps51 nb ?_;intro S w0 a w hS q;have D:2 ^ d<=1024:=js dd hd;have a1:A.length<=100000:=bp (tu _ _) C;have a6:L.length<=100000:=bp (tu _ _) E;refine gC q<|zS (zx I λY=>zn<|zs<|yE [0,1,2,3,4,5,6,7,8,9,10,11]<|ldY AK ?_);clear q;refine au 0x02fb3f ?_;refine au 0x41fa3f ?_;refine yv [_,_] I I call52 (fw ((c).2.1) ((c).2.2)) ?_;refine jB I kk OV (u:=Zg ((c).2.1) ((c).2.2)) (m:=j2) I I mm dd ?_;refine au 0x40f4311a4e4e9e9e9 ?_;intro a w q;refine Zi q (λn q=>?_) (λn q=>?_);focus
  have hz:(!(Zo j2 (Zg c.2.1 c.2.2)).isSome)=true\/d=0:=.inl n;refine gL q<|zm I<|zo 24 I I I<|zo 24 I I I<|au 0x23e ?_;clear q;intro a w q
 rotate_left;focus
  refine gL q<|zm I<|zq 24 I I (.move I)<|zq 24 I I (.eql I I) ?_;clear q;intro a w q;refine Zi q (λl q=>?_) (λl q=>?_);rotate_left
  ·obtain ⟨d0,rfl⟩:∃e,d=e+1:=⟨d-1,by have:=of_decide_eq_false l;omega⟩
   rw[iX] at C E D;refine gL q<|au 0x449bfb0fbcf70f57f4f5f317c22e ?_;refine zp (.pO ((d0+1)-1)<|.sub I I) ?_;clear q;intro a w q;refine Zc<|FH q hS (fs:=[]) (cs:=[.pointer (some ⟨j,0,none⟩),.pointer (some ⟨o,0,none⟩),.pointer (some ⟨h,0,none⟩),.pointer (some ⟨J,0,none⟩)]) I (vs:=[_,_,_]) I call51 (ih d0 I ((Zo j2<|Zg c.2.1 c.2.2).getD 0,c.1,c.2.1) t A L _ _ _ _ oA oP ((Y,bV (Ze c) 133)::σ) Φ oo oo i y) (((List.Perm.trans (ZH<|cr _)<|s8 _<|List.Perm.trans (ZH<|cr _)<|s8 _<|List.Perm.trans (BH<|cr _)<|List.Perm.cons _<|List.Perm.trans (BH<|cr _)<|List.Perm.cons _<|List.Perm.trans (BH<|cr _)<|List.Perm.cons _<|List.Perm.trans (BH<|cr _)<|List.Perm.cons _<|List.Perm.trans (BH<|cr _)<|List.Perm.cons _<|cr _))) ss ss ?_;clear q;rintro v46 a8 b0 a w ⟨b5,b2,b3,b4,T,U,H,G,rfl,rfl⟩ q;refine gL q<|au 0x449bf70f57fc1facf4f5f32 ?_;refine zp (.pO ((d0+1)-1)<|.sub I I) ?_;clear q;intro a w q;refine Zc<|FH q hS (fs:=[]) (cs:=[.pointer (some ⟨j,0,none⟩),.pointer (some ⟨o,0,none⟩),.pointer (some ⟨h,0,none⟩),.pointer (some ⟨J,0,none⟩)]) I (vs:=[_,_,_]) I call51 (ih d0 I ((Zo j2<|Zg c.2.1 c.2.2).getD 0,c.2.2,c.1) t (A++Qo j2 d0 ((Zo j2<|Zg c.2.1 c.2.2).getD 0,c.1,c.2.1)) (L++List.replicate (Qo j2 d0 ((Zo j2<|Zg c.2.1 c.2.2).getD 0,c.1,c.2.1)).length t) _ _ _ _ T U ((Y,bV (Ze c) 133)::σ) Φ (by rw[bd];have:=Et j2 d0 ((Zo j2<|Zg c.2.1 c.2.2).getD 0,c.1,c.2.1);omega) (by rw[bd,hW];have:=Et j2 d0 ((Zo j2<|Zg c.2.1 c.2.2).getD 0,c.1,c.2.1);omega) H G) (((cr _))) ss ss ?_;clear q;rintro b1 a7 Z a w ⟨N,V,O,Q,W,P,F,B,rfl,rfl⟩ q;refine wpList_nil ?_;obtain ⟨v,x⟩:=qx (d:=d0) n A L t;rw[v,x];exact XA (q.perm (List.Perm.trans (iG (iG (BH (BH (BH (BH (BH (cr _)))))))) (List.Perm.cons _ (cr _))).symm) (A2 I) ⟨N,V,O,Q,W,P,F,B,rfl,rfl⟩ (List.Sublist.cons _ (fT _)) (λ_ hR=>hR)
  have hz:(!(Zo j2 (Zg c.2.1 c.2.2)).isSome)=true\/d=0:=.inr (dT l);refine gL q<|au 0x22e ?_;clear q;intro a w q
 all_goals
  refine cW<|Qq q I ?_;refine gC q<|zs<|yE [0,1,5,4,2,6,3,7,8,9]<|ldY AK ?_;clear q;refine au 0x54f ?_;refine au 0x9 ?_;refine Yh kk ?_;intro a w q;refine XF 2 4 6 ?_ ?_ ?_;focus
   refine Jm q I [(_,_)] I (BB _ _ _) dd ?_;clear q;intro K a w q;refine XF 3 4 6 ?_ ?_ ?_;focus
    refine XD Ze A [c] i q ?_;clear q;intro f g M a w b q;refine Yr 4 6 ?_ ?_;focus
     refine Gc q I I mr isAgg61 sizeOf61 AK dd ?_;clear q;intro a q;refine Xj 6 ?_;refine Jm q I [(_,_)] I (Ji _) dd ?_;clear q;intro k a w q
    rotate_left;focus
     refine Jm q I [(_,_)] I (Ji _) dd ?_;clear q;intro k a w q;refine Xj 4 ?_;refine Gc q I I mr isAgg61 sizeOf61 AK dd ?_;clear q;intro a q
   rotate_left 2;focus
    refine Gc q I I mr isAgg61 sizeOf61 AK dd ?_;clear q;intro a q;refine Yr 3 6 ?_ ?_;focus
     refine XD Ze A [c] i q ?_;clear q;intro f g M a w b q;refine Xj 6 ?_;refine Jm q I [(_,_)] I (Ji _) dd ?_;clear q;intro k a w q
    rotate_left;focus
     refine Jm q I [(_,_)] I (Ji _) dd ?_;clear q;intro k a w q;refine Xj 3 ?_;refine XD Ze A [c] i q ?_;clear q;intro f g M a w b q
   rotate_left 2;focus
    refine Jm q I [(_,_)] I (Ji _) dd ?_;clear q;intro k a w q;refine Yr 3 4 ?_ ?_;focus
     refine XD Ze A [c] i q ?_;clear q;intro f g M a w b q;refine Xj 4 ?_;refine Gc q I I mr isAgg61 sizeOf61 AK dd ?_;clear q;intro a q
    rotate_left;focus
     refine Gc q I I mr isAgg61 sizeOf61 AK dd ?_;clear q;intro a q;refine Xj 3 ?_;refine XD Ze A [c] i q ?_;clear q;intro f g M a w b q
  rotate_left 6;focus
   refine Gc q I I mr isAgg61 sizeOf61 AK dd ?_;clear q;intro a q;refine Yr 2 6 ?_ ?_;focus
    refine Jm q I [(_,_)] I (BB _ _ _) dd ?_;clear q;intro K a w q;refine Yr 3 6 ?_ ?_;focus
     refine XD Ze A [c] i q ?_;clear q;intro f g M a w b q;refine Xj 6 ?_;refine Jm q I [(_,_)] I (Ji _) dd ?_;clear q;intro k a w q
    rotate_left;focus
     refine Jm q I [(_,_)] I (Ji _) dd ?_;clear q;intro k a w q;refine Xj 3 ?_;refine XD Ze A [c] i q ?_;clear q;intro f g M a w b q
   rotate_left 2;focus
    refine Jm q I [(_,_)] I (Ji _) dd ?_;clear q;intro k a w q;refine Xj 2 ?_;refine Jm q I [(_,_)] I (BB _ _ _) dd ?_;clear q;intro K a w q;refine Xj 3 ?_;refine XD Ze A [c] i q ?_;clear q;intro f g M a w b q
  rotate_left 3;focus
   refine Jm q I [(_,_)] I (Ji _) dd ?_;clear q;intro k a w q;refine Yr 2 4 ?_ ?_;focus
    refine Jm q I [(_,_)] I (BB _ _ _) dd ?_;clear q;intro K a w q;refine Yr 3 4 ?_ ?_;focus
     refine XD Ze A [c] i q ?_;clear q;intro f g M a w b q;refine Xj 4 ?_;refine Gc q I I mr isAgg61 sizeOf61 AK dd ?_;clear q;intro a q
    rotate_left;focus
     refine Gc q I I mr isAgg61 sizeOf61 AK dd ?_;clear q;intro a q;refine Xj 3 ?_;refine XD Ze A [c] i q ?_;clear q;intro f g M a w b q
   rotate_left 2;focus
    refine Gc q I I mr isAgg61 sizeOf61 AK dd ?_;clear q;intro a q;refine Xj 2 ?_;refine Jm q I [(_,_)] I (BB _ _ _) dd ?_;clear q;intro K a w q;refine Xj 3 ?_;refine XD Ze A [c] i q ?_;clear q;intro f g M a w b q
  all_goals
   refine Xj 7 ?_;refine xapM Qb L [t] y q ?_;clear q;intro r z R a w p q;refine Xj 8 ?_;refine ER q I I I Gt uu sizeOf35 I nb (by show((flat ((.slice f (A++[c]).length g)) && true))=true;simp only[GrowO.flat (b)];rfl) ?_;clear q;intro a w q;refine Xj 9 ?_;refine ER q I I I Gt uu sizeOf61 I nb (by show((flat ((.slice r (L++[t]).length z)) && true))=true;simp only[GrowO.flat (p)];rfl) ?_;clear q;intro a w q;refine QM kk ?_;refine cW<|wp_ret ?_;obtain ⟨v,x⟩:=qy hz A L t;rw[v,x];exact XA (q.perm (List.Perm.trans (iG (iG (cr _))) (List.Perm.cons _ (List.Perm.trans (pm_aa (cr _)) (s8 _ (cr _))))).symm) (A2 I) ⟨f,r,g,z,M,R,b,p,rfl,rfl⟩ (List.Sublist.cons _ (fT _)) (λ_ hR=>hR)
theorem eC: RN (Instr.build 38 [(0,.slice c6 j o),(1,.slice j3 h J)].toArray) (.agg #[.slice c6 j o,.slice j3 h J,.slice none 0 0]):=λw=>by simp[go_sem]
theorem ck2_re: RN (Instr.checkKey q7 10000 212 (Zx c5)) ():=λw=>by
 rw[show(10000:Nat)=9999+1 from rfl,Instr.checkKey];have h1:=Ik q7 9998 (c5.1:Int);have a:=Ik q7 9998 (c5.2:Int);simp[go_sem,h1,a,List.range']
theorem eq2_re: RN (Op.equal 212 (Zx c5) (Zx q8)) (decide (c5=q8)):=λw=>by
 obtain ⟨i,j⟩:=c5;obtain ⟨k,l⟩:=q8;unfold Op.equal;rw[show Op.maxDepth=9999+1 from rfl,Op.equalIn];simp[go_sem,List.range'];by_cases h1:i=k<;>by_cases a:j=l<;>simp[h1,a,AP]
theorem Z5:MK prog 210 212 3 Zx (Qb 0):=MK.ofAgg (D:=_) runUnderlying210 zeroValue3 runUnderlying212 (λ_ _=>rfl) ck2_re (λx=>by simp[Instr.sameBits]) eq2_re
theorem set_I3(h:j<e.length)(x:Nat): Zp (cellsOf Ze e++k8).toArray (0+j*3+2) (Value.int .i64 ((x:Nat):Int)).cells.toList=(cellsOf Ze (e.set j ((e.getD j (0,0,0)).1,(e.getD j (0,0,0)).2.1,x))++k8).toArray:=by
 rw[DY e j h,DX e j h];have a:e.getD j (0,0,0)=e[j]:=by simp[List.getD,h]
 rw[a];have hk:(cellsOf Ze (e.take j)++[Qb e[j].1,Qb e[j].2.1]).length=0+j*3+2:=by
  rw[bd,Kw (k:=3) (enc:=Ze) (λ_=>rfl) e j h];show j*3+2=_;omega
 have c:cellsOf Ze (e.take j)++(Ze e[j]).cells.toList++cellsOf Ze (e.drop (j+1))++k8=(cellsOf Ze (e.take j)++[Qb e[j].1,Qb e[j].2.1])++[Qb e[j].2.2]++(cellsOf Ze (e.drop (j+1))++k8):=by
  rw[show(Ze e[j]).cells.toList=[Qb e[j].1,Qb e[j].2.1]++[Qb e[j].2.2] from rfl];simp only[cv]
 have b:cellsOf Ze (e.take j)++(Ze (e[j].1,e[j].2.1,x)).cells.toList++cellsOf Ze (e.drop (j+1))++k8=(cellsOf Ze (e.take j)++[Qb e[j].1,Qb e[j].2.1])++[Qb x]++(cellsOf Ze (e.drop (j+1))++k8):=by
  rw[show(Ze (e[j].1,e[j].2.1,x)).cells.toList=[Qb e[j].1,Qb e[j].2.1]++[Qb x] from rfl];simp only[cv]
 rw[c,b, <-hk];exact Ag _ _ _ _ I
def mkS(S:List (Nat×Nat×Nat)): List ((Nat×Nat)×Nat):=S.foldr (λs q=>Va q (Zg s.1 s.2.1) s.2.2) []
theorem iY(h:N<a7.length)(hq:C=mkS (a7.drop (N+1))): Va C (Zg (a7.getD N (0,0,0)).1 (a7.getD N (0,0,0)).2.1) (a7.getD N (0,0,0)).2.2=mkS (a7.drop N):=by
 rw[hq,oF h,List.getD_eq_getElem?_getD,List.getElem?_eq_getElem h];rfl
def mkE(E:List Ed)(N:Nat)(q:List ((Nat×Nat)×Nat)): Nat->List ((Nat×Nat)×Nat)
 | 0=>q
 | i+1=>Va (Va (mkE E N q i) (Zg (E.getD i ed0).a (N+i)) ((Zo (mkE E N q i) (Zg (E.getD i ed0).a (E.getD i ed0).b)).getD 0)) (Zg (E.getD i ed0).b (N+i)) ((Zo (mkE E N q i) (Zg (E.getD i ed0).a (E.getD i ed0).b)).getD 0)
def Od(q:List ((Nat×Nat)×Nat))(R:List (Nat×Nat×Nat))(k:Nat): List (Nat×Nat×Nat):=(R.take k).map (λs=>(s.1,s.2.1,(Zo q (Zg s.1 s.2.1)).getD 0))++R.drop k
theorem gV: (Od j2 e j).length=e.length:=by
 rw[Od,bd,az,db,vn];omega
theorem gR(h:k9=Od C a7 N)(hk:N<a7.length): k9.set N ((k9.getD N (0,0,0)).1,(k9.getD N (0,0,0)).2.1,((Zo C (Zg (k9.getD N (0,0,0)).1 (k9.getD N (0,0,0)).2.1)).getD 0))=Od C a7 (N+1):=by
 have hl:((a7.take N).map (λs=>(s.1,s.2.1,(Zo C (Zg s.1 s.2.1)).getD 0))).length=N:=by rw[az,db];omega
 have b:k9.getD N (0,0,0)=a7[N]:=by
  rw[h,Od,List.getD_eq_getElem?_getD,List.getElem?_append_right oo,hl,wH,List.getElem?_drop,sh,List.getElem?_eq_getElem hk];rfl
 rw[b,h,Od,Od,uU _ _ oo,hl,wH,oF hk,List.set_cons_zero,xa,List.getElem?_eq_getElem hk,dv,cv];rfl
def K8(m:Ms)(E:List Ed)(L:List (Nat×Nat×Nat)): Ms:=⟨m.P++E.map (I3 m),L,Od (mkE E m.P.length (mkS m.S) E.length) (Kz L) (Kz L).length⟩
theorem qq{m:Ms}{Q:List Pt}{c:Option Addr}(e:Q=m.P++(r.take r.length).map (I3 m))(hq:C=mkE r m.P.length (mkS m.S) r.length)(hR:k9=Od C (Kz a7) (Kz a7).length):
  ∃(d a2 a3:Option Addr),Value.agg #[.slice c Q.length Q.length,.slice q9 a7.length a7.length,.slice r2 (Kz a7).length (Kz a7).length]=Qm (K8 m r a7) d a2 a3 (K8 m r a7).P.length (K8 m r a7).T.length (K8 m r a7).S.length/\[Row c (cellsOf encPt Q),Row q9 (cellsOf Ze a7),Row r2 (cellsOf Ze k9)]=[Row d (cellsOf encPt (K8 m r a7).P),Row a2 (cellsOf Ze (K8 m r a7).T),Row a3 (cellsOf Ze (K8 m r a7).S)]:=by
 rw[w9] at e;subst e hq hR;refine⟨c,q9,r2,?_,rfl⟩;show Value.agg #[_,_,.slice r2 (Kz a7).length (Kz a7).length]=Value.agg #[_,_,.slice r2 (Od _ _ _).length (Od _ _ _).length];rw[gV];rfl
theorem qB{j:Nat}{x:Nat×Nat×Nat}(hl:a7.length=N)(h:(cellsOf Ze a7++a6).length=U*3)(hc:N<=U):
  GrowO 3 143 (.slice (some ⟨W,0,none⟩) N U) N (cellsOf Ze (a7.set j x)) [(W,Obj.cells (cellsOf Ze (a7.set j x)++a6).toArray 143 (0,0))] :=
 GrowO.close (by rw[cellsOf_length (k:=3) (λ_=>rfl),ea,hl]) (by rw[bd,cellsOf_length (k:=3) (λ_=>rfl)] at h ⊢;rw[ea];exact h) hc
theorem rP(h:j<e.length): 0+j*3+2+1<=(cellsOf Ze e++k8).toArray.size:=by
 have:=KB (k:=3) (enc:=Ze) (λ_=>rfl) e k8 j h;omega
theorem lT(E:List Ed)(a6:Option Addr)(cE:Nat)(L:List (Nat×Nat×Nat))(a7:Option Addr)(cL:Nat)(hv:MV j l2)(hK:j<=1000)(hE:∀e∈E,e.a<l2.P.length/\e.b<l2.P.length)(j2:E.length<=10000)(hL:∀t∈L,Ad (l2.P.length+E.length) t=true)(e5:0<L.length)(i6:L.length<=100000): Ctr prog 53 [Qm l2 j3 l3 l4 h J s,.slice a6 E.length cE,.slice a7 L.length cL] [Row j3 (cellsOf encPt l2.P),Row l3 (cellsOf Ze l2.T),Row l4 (cellsOf Ze l2.S),Row a6 (cellsOf Qr E),Row a7 (cellsOf Ze L)] (λv Ψ => ∃(a1 a2 a3:Option Addr),v=Qm (K8 l2 E L) a1 a2 a3 (K8 l2 E L).P.length (K8 l2 E L).T.length (K8 l2 E L).S.length/\Ψ=[Row a1 (cellsOf encPt (K8 l2 E L).P),Row a2 (cellsOf Ze (K8 l2 E L).T),Row a3 (cellsOf Ze (K8 l2 E L).S)]):=by
 have j4:=hv.nP;have i7:=hv.nT;have A:=hv.nS;have h7:=hv.neP;refine fn_intro func53 I ntmps53 nb ?_;intro S w0 a hS m;obtain ⟨g,l,rfl⟩:=m.row_addr (ad:=j3) (M:=cellsOf encPt l2.P) mm (nE 10);obtain ⟨a8,X,rfl⟩:=m.row_addr (ad:=a7) (M:=cellsOf Ze L) mm (nE 3);refine gC m<|zS (zx I λb3=>zz zeroValue38 λb6=>au 0x312 ?_);clear m;intro a w m;refine Zc<|EM Zx Qb m dd ?_;clear m;intro V a w m;refine gL m<|au 0x82586fd2fc1f46f31125 ?_;clear m;intro a w m;refine lpG m [1,2,3,6,7,21] pkL (λY Z (W:Nat) a w => ∃(q:List ((Nat×Nat)×Nat)),(W<=l2.S.length/\q=mkS (l2.S.drop W))/\St 149 S w0 ((8,.int .i64 (((W:Nat):Int)-1))::Y) [(V,mB Zx Qb q),(b6,bV (.agg #[.slice none 0 0,.slice none 0 0,.slice none 0 0]) 38),(b3,bV (Qm l2 (some ⟨g,l,none⟩) l3 l4 h J s) 38)] Z a w) (λW=>W) (l2.S.length) (⟨[],⟨aZ _,by rw[tf];rfl⟩,by exact m.sub sA⟩) ?_;clear m;rintro W a w ⟨q,⟨hj,b4⟩,m⟩;refine gC m<|au 0x200f4311 ?_;intro a w m;refine Zb m I (λr=>?_) (λr=>?_)
 ·obtain ⟨n,rfl⟩:∃n,W=n+1:=⟨W-1,by have:=of_decide_eq_true r;omega⟩
  rw[show(((n+1:Nat):Int)-1)=((n:Nat):Int) from by omega] at m;obtain ⟨e6,e3,rfl⟩:=m.row_addr (ad:=l4) (M:=cellsOf Ze l2.S) mm (nE 3);obtain ⟨e9,e2,_⟩:=hv.sd _ (getD_mem l2.S (d:=(0,0,0)) (show n<l2.S.length by omega));refine gC m<|au 0xb8f4c1f46f31817 ?_;refine zD I mm (cells_lt (k:=3) dd (λ_=>rfl) l2.S n oo) isAgg143 sizeOf143 (Zh (k:=3) (λ_=>rfl) ((λ_=>rfl)) l2.S (0,0,0) n oo) (.inl I) ?_;refine zz HJ λb9=>stW I I Qi ?_;refine au 0x70ffafde312 ?_;refine zv [_,_] I call125 (IH l2 _ _ _ _ _ _ _ e9)<|zm I<|ldQ 35 Jj ?_;refine zq 35 I I (.fA I C0)<|ldQ 35 Vg ?_;clear m;intro a w m;refine Zq 35 m I I<|Xn m (vs:=[_,_]) I call125 (IH l2 _ _ _ _ _ _ _ e2) dd ?_;clear m;intro a w m;refine gL m<|au 0x1e23e ?_;refine yE [0,1,2,3,4,6,7,5,8]<|au 0x9 ?_;refine yp I (.fA I IA)<|au 0xee ?_;clear m;refine yp I (.fA I C0)<|au 0x02f ?_;refine yp I (.fA I CZ)<|au 0x41f ?_;refine yv [_,_] I I call126 (eR ((l2.S.getD n (0,0,0)).1) ((l2.S.getD n (0,0,0)).2.1)) ?_;refine Yh kk ?_;intro a w m;refine Xj 8 ?_;refine XE m I Z5 (u:=Zg ((l2.S.getD n (0,0,0)).1) ((l2.S.getD n (0,0,0)).2.1)) (q:=(l2.S.getD n (0,0,0)).2.2) (m:=q) I I I uu ?_;clear m;intro a w m;refine QM kk ?_;refine cW<|gC m<|au 0x2586f43 ?_;clear m;intro a w m;exact⟨n,⟨_,⟨oo,iY oo b4⟩,by exact tO m⟩,oo⟩
 refine gC m<|au 0x70f82f310e ?_;clear m;intro a w m;refine Zc<|Xd m (vs:=[_]) I call77 (HI g l _ l2.P oo) ss dd ?_;clear m;rintro v51 b8 a w ⟨G,b5,rfl,C⟩ m;refine gL m<|zm I<|zF [_] call128 (Pz<|QE a8 X _ L oo) ?_;rintro v53 h8 ⟨c,e7,rfl,c5,rfl⟩;refine zv [_] I call127 (US c _ e7 c5)<|zp (.build [(_,_),(_,_)] I<|eC _ _ _ _ _ _) (zz zeroValue38 λc6=>zt' I I Qi uu sizeOf38 I nb (by show((flat ((.slice G (l2.P).length b5)) && (flat (.slice c L.length L.length) && (flat (.slice none 0 0) && true))))=true;simp only[GrowO.flat (C)];rfl) ?_);refine au 0x82423f43112 ?_;clear m;intro a w m;refine lpG m [1,2,3,6,7,8,10,21,56,57] pkL (λY Z (i:Nat) a w=>i<=E.length /\ ∃(Q:List Pt) (aQ:Option Addr) (cQ:Nat) (oQ:List (Nat×Obj)) (q2:List ((Nat×Nat)×Nat)),(Q.length=l2.P.length+i/\(Q=l2.P++(E.take i).map (I3 l2)/\q2=mkE E l2.P.length (mkS l2.S) i)/\GrowO 10 106 (.slice aQ (Q).length cQ) (Q).length (cellsOf encPt Q) oQ)/\St 149 S w0 ((58,nI i)::Y) (oQ++((c6,bV (.agg #[(.slice aQ (Q).length cQ),.slice c L.length L.length,.slice none 0 0]) 38)::((V,mB Zx Qb q2)::((b6,bV (.agg #[.slice none 0 0,.slice none 0 0,.slice none 0 0]) 38)::((b3,bV (Qm l2 (some ⟨g,l,none⟩) l3 l4 h J s) 38)::[]))))) Z a w) (λi=>E.length-i) 0 (⟨cX _,l2.P,G,b5,b8,q,⟨rfl,⟨by simp,by have:=of_decide_eq_false r;rw[b4,show W=0 by omega];rfl⟩,C⟩,by exact(m.perm (List.Perm.trans (ZH<|cr _)<|s8 _<|cr _).symm).sub sA⟩) ?_;clear m;rintro i a w ⟨h6,Q,aQ,cQ,oQ,q2,⟨K,⟨c7,c3⟩,U⟩,m⟩;refine gC m<|au 0x12d31 ?_;intro a w m;refine Zb m I (λy=>?_) (λy=>?_)
 ·have p:i<E.length:=dT y;obtain ⟨h3,e1,rfl⟩:=m.row_addr (ad:=a6) (M:=cellsOf Qr E) mm (nE 4);obtain ⟨b2,c8⟩:=hE _ (getD_mem E (d:=ed0) p);have h0:PtK 1000 (l2.P.getD (E.getD i ed0).a (0,0)):=(hv.ptK b2).mono hK;have e8:PtK 1000 (l2.P.getD (E.getD i ed0).b (0,0)):=(hv.ptK c8).mono hK;refine gC m<|au 0x27f31817 ?_;refine zD I mm (cells_lt (k:=4) dd (λ_=>rfl) E i oo) isAgg114 sizeOf114 (Zh (k:=4) (λ_=>rfl) ((λ_=>rfl)) E ed0 i oo) (.inl I) ?_;refine zz BK λj5=>stW I I Yc ?_;refine au 0x63f36fde3112 ?_;refine zv [_,_] I call125 (IH l2 _ _ _ _ _ _ _ b2)<|au 0x4a1f ?_;refine ldQ 67 Jj ?_;refine zq 67 I I (.fA I Nv)<|ldQ 67 Fy ?_;clear m;intro a w m;refine Zq 67 m I I<|Xn m (vs:=[_,_]) I call125 (IH l2 _ _ _ _ _ _ _ c8) dd ?_;clear m;intro a w m;refine gL m<|zq 67 I I (aq (v':=.bool false) (.unOp I<|Yt _) cgd)<|au 0x12521f70f82f317c22e ?_;refine yE [0,1,2,3,4,5,6,7,8,9,10,11,12,13,14,15,16,17,18]<|au 0xee10f ?_;clear m;refine au 0xee10f ?_;refine au 0x28f87f ?_;refine au 0xe1f ?_;refine Zf I kk I mm (cells_lt (k:=10) dd (λ_=>rfl) l2.P ((E.getD i ed0).a) oo) isAgg106 sizeOf106 (Zh (k:=10) (λ_=>rfl) ((λ_=>rfl)) l2.P (0,0) ((E.getD i ed0).a) oo) (.inl I) dd ?_;refine au 0xee10f ?_;refine au 0x77f ?_;refine ldY Fy ?_;refine au 0xe1f ?_;refine Zf I kk I mm (cells_lt (k:=10) dd (λ_=>rfl) l2.P ((E.getD i ed0).b) oo) isAgg106 sizeOf106 (Zh (k:=10) (λ_=>rfl) ((λ_=>rfl)) l2.P (0,0) ((E.getD i ed0).b) oo) (.inl I) dd ?_;refine yv [_,_] I I call78 (nB _ _ h0 e8) (yB I [(_,_)] I (KI _ _ _ _ _ _ _ _ _ _) λi1=>?_);refine ga encPt Q [I3 l2 (E.getD i ed0)] U ?_;intro F b7 e4 D;refine au 0x10f ?_;refine yt I I I Fq uu sizeOf34 I nb (by show((flat ((.slice F (Q++[I3 l2 (E.getD i ed0)]).length b7)) && true))=true;simp only[GrowO.flat (D)];rfl) ?_;refine au 0x44fb7f63f36f431a ?_;refine zv [_,_] I call126 (eR ((E.getD i ed0).a) ((E.getD i ed0).b)) ?_;intro a w m;refine Zc<|OQ m Z5 (u:=Zg ((E.getD i ed0).a) ((E.getD i ed0).b)) (m:=q2) I I mm dd ?_;clear m;intro a m;refine gL m<|za I<|zn<|yE [0,1,2,3,5,6,7,8,10,11,4,9,12,13,14,15]<|au 0x28f87f9 ?_;clear m;refine au 0x77f99 ?_;refine ldY Fy ?_;refine au 0x999 ?_;refine yv [_,_] I I call126 (eR ((E.getD i ed0).a) Q.length)<|yv [_,_] I I call126 (eR ((E.getD i ed0).b) Q.length) ?_;refine Yh kk ?_;intro a w m;refine Xj 12 ?_;refine K3 m I Z5 (u:=Zg ((E.getD i ed0).a) Q.length) (m:=q2) I I uu dd ?_;clear m;intro a w m;refine Xj 13 ?_;refine Jw m I (.eX I) dd ?_;clear m;intro a m;refine Xj 14 ?_;refine gh (ek:=Zx) (ev:=Qb) m I (m:=q2) (u:=Zg ((E.getD i ed0).a) Q.length) (z:=0) (q:=(Zo q2<|Zg ((E.getD i ed0).a) ((E.getD i ed0).b)).getD 0) I I I uu ?_;clear m;intro a w m;refine Xj 15 ?_;refine XE m I Z5 (u:=Zg ((E.getD i ed0).b) Q.length) (q:=(Zo q2<|Zg ((E.getD i ed0).a) ((E.getD i ed0).b)).getD 0) (m:=Va q2 (Zg ((E.getD i ed0).a) Q.length) ((Zo q2<|Zg ((E.getD i ed0).a) ((E.getD i ed0).b)).getD 0)) I I I uu ?_;clear m;intro a w m;refine QM kk ?_;refine cW<|gC m<|zr<|zp (.pN (i+1)<|.add I I)<|au 0x24 ?_;clear m;intro a w m;exact⟨i+1,⟨oo,Q++[I3 l2 (E.getD i ed0)],F,b7,e4,Va (Va q2 (Zg ((E.getD i ed0).a) Q.length) ((Zo q2 (Zg ((E.getD i ed0).a) ((E.getD i ed0).b))).getD 0)) (Zg ((E.getD i ed0).b) Q.length) ((Zo q2 (Zg ((E.getD i ed0).a) ((E.getD i ed0).b))).getD 0),⟨by rw[bd,K];rfl,⟨by rw[c7,cv,CQ (f:=I3 l2) (d:=ed0) p],by rw[K,c3];rfl⟩,D⟩,by exact tO m⟩,oo⟩
 have b0:E.length=i:=dF y;subst b0;replace m:=m.shareO' hS U;have e0:∀t∈L,Ad Q.length t=true:=by rw[K];exact hL
 have j0:(Kz L).length<=3*L.length:=by unfold Kz;rw[az];exact bp (nk _ _) (Kh L)
 refine gC m<|au 0x70f82f310e ?_;refine zv [_] I call81 (IL _ _ _<|Kj U)<|au 0x82f ?_;refine stW I I Fq ?_;refine au 0xb0f31f70f82f312 ?_;clear m;intro a w m;refine Zc<|Xd m (vs:=[_,_]) I call129 (nN Q L c aQ L.length Q.length e0 e5 oo) ss dd ?_;clear m;rintro h9 B a w ⟨aR,cR,rfl,O⟩ m;replace O:GrowO 3 143 (.slice aR (Kz L).length cR) (Kz L).length (cellsOf Ze (Kz L)) B:=O;refine gL m<|au 0x46f ?_;refine stW I I Ir ?_;refine au 0x824d2fc1f46f3112 ?_;clear m;intro a w m;refine lpG m [1,2,3,6,7,8,10,21,56,57,58,128,129] pkL (λY Z (k:Nat) a w=>k<=(Kz L).length /\ ∃(R:List (Nat×Nat×Nat)) (oS:List (Nat×Obj)),(R.length=(Kz L).length/\R=Od q2 (Kz L) k/\GrowO 3 143 (.slice aR (Kz L).length cR) (Kz L).length (cellsOf Ze R) oS)/\St 149 S w0 ((130,nI k)::Y) (oS++((c6,bV (.agg #[.slice aQ Q.length Q.length,.slice c L.length L.length,.slice aR ((Kz L).length) ((Kz L).length)]) 38)::((V,mB Zx Qb q2)::((b6,bV (.agg #[.slice none 0 0,.slice none 0 0,.slice none 0 0]) 38)::((b3,bV (Qm l2 (some ⟨g,l,none⟩) l3 l4 h J s) 38)::[]))))) Z a w) (λk=>(Kz L).length-k) 0 (⟨cX _,Kz L,B,⟨rfl,by simp[Od],O⟩,by exact m.sub sA⟩) ?_;clear m;rintro k a w ⟨h5,R,oS,⟨c4,b1,c9⟩,m⟩;refine gC m<|au 0x12d31 ?_;intro a w m;refine Zb m I (λo=>?_) (λo=>?_)
 ·have H:k<(Kz L).length:=dT o;obtain ⟨bS,RS,rfl,rfl,h4,h2⟩:=GrowO.open c9 oo;refine gC m<|au 0xb8f431817 ?_;refine zd I mm isAgg143 sizeOf143 (Ge (k:=3) (λ_=>rfl) ((λ_=>rfl)) R RS (0,0,0) k oo) ?_;refine zz HJ λj1=>za I<|stW I I Qi ?_;refine zn<|yE [0,1,2,3,4,5,6,7,8,9,10,11,12]<|au 0x41f9af ?_;clear m;refine au 0x99 ?_;refine yp I (.fA I IA)<|au 0xee ?_;refine yp I (.fA I C0)<|au 0x02f ?_;refine yv [_,_] I I call126 (eR ((R.getD k (0,0,0)).1) ((R.getD k (0,0,0)).2.1)) ?_;refine Es I kk Z5 (u:=Zg ((R.getD k (0,0,0)).1) ((R.getD k (0,0,0)).2.1)) (m:=q2) I I mm dd ?_;refine au 0x1af ?_;refine yp I (.fA I CZ) ?_;refine Vm (b:=bS) (cs:=(cellsOf Ze R++RS).toArray) (cs':=(cellsOf Ze (R.set k ((R.getD k (0,0,0)).1,(R.getD k (0,0,0)).2.1,((Zo q2<|Zg (R.getD k (0,0,0)).1 (R.getD k (0,0,0)).2.1).getD 0)))++RS).toArray) (v:=.int .i64 ((((Zo q2<|Zg (R.getD k (0,0,0)).1 (R.getD k (0,0,0)).2.1).getD 0):Nat):Int)) I kk I I (set_I3 R RS k oo _) uu sizeOf3 I (rP R RS k oo) I ?_;refine yn<|zr<|zp (.pN (k+1)<|.add I I)<|au 0x24 ?_;intro a w m;exact⟨k+1,⟨oo,R.set k ((R.getD k (0,0,0)).1,(R.getD k (0,0,0)).2.1,((Zo q2 (Zg (R.getD k (0,0,0)).1 (R.getD k (0,0,0)).2.1)).getD 0)),_,⟨by rw[ea];exact c4,gR b1 H,qB (j:=k) (x:=((R.getD k (0,0,0)).1,(R.getD k (0,0,0)).2.1,((Zo q2 (Zg (R.getD k (0,0,0)).1 (R.getD k (0,0,0)).2.1)).getD 0))) c4 h4 h2⟩,by exact tO m⟩,oo⟩
 have N:(Kz L).length=k:=dF o;subst N;replace m:=m.shareO' hS c9;refine gC m<|au 0xde310e ?_;refine stW I I Qi ?_;refine zn<|zt ?_;clear m;intro a w m;refine Qj (Ψ:=[Row aQ (cellsOf encPt Q),Row c (cellsOf Ze L),Row aR (cellsOf Ze R)]) m (Zd m I<|rC Jj) ?_ ss;exact qq c7 c3 b1
def ObjR(b:Nat)(o:Obj): Zs where
 p X w := ¬X b/\w.heap[b]?=some o
 st X X' w w' h hk hs hX:=by
  obtain ⟨hb,hc⟩:=h;have hlt:b<w.heap.size:=by
   rcases el b w.heap.size with h'|h'
   ·exact h'
   simp[Array.getElem?_eq_none h'] at hc
  refine⟨λhx=>?_,by rw[hk b hlt hb];exact hc⟩;rcases hX b hx with h1|h1
  ·exact hb h1
  omega
theorem ctrO_M{f:FuncId}{d:List ((Nat×Nat)×Nat)->Prop}(h:CtrO k6 f a6 b5 (λv o => ∃b q,d q/\v=.map (some b)/\o=[(b,mB Zx Qb q)])):
  Ctr k6 f a6 b5 (λv Ψ => ∃b q,d q/\v=.map (some b)/\Ψ=[ObjR b (mB Zx Qb q)]):=by
 intro X w c a;refine(h X w c a).mono ?_;rintro e w' ⟨v,j,he,⟨b,q,hq,rfl,rfl⟩,k,l,hd⟩;refine⟨_,[ObjR b (mB Zx Qb q)],he,⟨b,q,hq,rfl,rfl⟩,k,λm hR=>?_⟩;rw[da] at hR;subst hR;obtain ⟨g,i⟩:=l _ (List.mem_singleton.2 rfl);exact⟨λhx=>by have:=c b hx;simp only at g;omega,i⟩
section
variable{P:Program}{n:Nat}{S:Nat->Prop}{w0 w:World}{L:List (Nat×Value)}{σ:List (Nat×Obj)}{Φ:List Zs}{a:Act}{G:Act->World->Prop}{Q:Exit->Act->World->Prop}
variable{b d:Nat}{T K E:TypeId}{x y:Operand}{ty:TypeId}{pos:String}{aft:Array Edge}{g:Option (Nat×Bool)}{α β:Type}[DecidableEq α]{ek:α->Value}{ev:β->Value}{m:List (α×β)}{z0:β}
theorem op_lkR(h:St n S w0 L σ Φ a w)(M:MK P T K E ek (ev z0)){u:α}(hx:Fx.ev L x=some (.map (some b)))(f:Fx.ev L y=some (ek u))(hm:ObjR b (mB ek ev m)∈Φ)(hd:d<n)(k:∀c,St n S w0 ((d,ev ((Zo m u).getD z0))::L) σ Φ c w->G c w): (Oper.mk (some d) (.lookup T x y false) ty pos aft g).wp P a w G Q:=by
 obtain ⟨_,_,_,e⟩:=h.fact hm;exact Qg (by simp only[execOp,h.ev hx,h.ev f,bl,M.lookup m u false e.2];rfl) (k _ (h.put hd _))
end
theorem fy(hv:MV j l2)(b:Nat)(q:List ((Nat×Nat)×Nat)): Ctr prog 49 [Qm l2 j3 l3 l4 h J s,.map (some b)] [Row j3 (cellsOf encPt l2.P),Row l3 (cellsOf Ze l2.T),Row l4 (cellsOf Ze l2.S),ObjR b (mB Zx Qb q)]
   (λv Ψ => ∃ad,v=.slice ad (Yq l2.T q).length (Yq l2.T q).length/\Ψ=[Row ad (cellsOf Qr (Yq l2.T q))]):=by
 refine fnI func49 I ntmps49 λS w0 L=>zS (zx I λU=>au 0xde311253125 ?_);refine zF [_] call30 (IJ j l2 _ _ _ _ _ _ hv) ?_;rintro v9 F ⟨x,rfl,rfl⟩;have H:=Kh l2.T;have G:=hv.nT;refine au 0x82423f ?_;intro a w W;refine lpG W [1,9,10] pkL (λY Z (i:Nat) a w=>i<=(Za l2.T).length /\ ∃(c:Option Addr) (c1:Nat) (K:List (Nat×Obj)),(GrowO 4 114 (.slice c (((Za l2.T).take i).filter<|Sq q).length c1) (((Za l2.T).take i).filter<|Sq q).length (cellsOf Qr (((Za l2.T).take i).filter<|Sq q)) K)/\St 30 S w0 ((5,(.slice c (((Za l2.T).take i).filter<|Sq q).length c1))::(11,nI i)::Y) (K++((U,bV (Qm l2 j3 l3 l4 h J s) 38)::[])) Z a w) (λi=>(Za l2.T).length-i) 0 (⟨cX _,none,0,[],GrowO.nil _ _,by exact(W).sub sA⟩) ?_;clear W;rintro i a w ⟨D,c,c1,K,d,W⟩;refine gC W<|au 0x12d31 ?_;intro a w W;refine Zb W I (λg=>?_) (λg=>?_)
 ·have f:i<(Za l2.T).length:=dT g;obtain ⟨y,z,rfl⟩:=W.row_addr (ad:=x) (M:=cellsOf Qr (Za l2.T)) mm (nE 4);refine gC W<|au 0x27f31817 ?_;refine zD I mm (cells_lt (k:=4) dd (λ_=>rfl) (Za l2.T) i oo) isAgg114 sizeOf114 (Zh (k:=4) (λ_=>rfl) ((λ_=>rfl)) (Za l2.T) ed0 i oo) (.inl I) ?_;refine zz BK λO=>stW I I Yc ?_;refine au 0x44fb7f63f36f4312 ?_;refine zp (.build [(_,_),(_,_)] I<|HF _ _) ?_;clear W;intro a w W;refine Zc<|op_lkR W OV (u:=(((Za l2.T).getD i ed0).a,((Za l2.T).getD i ed0).b)) (m:=q) I I mm dd ?_;clear W;intro a W;refine gL W<|au 0xc0f ?_;clear W;intro a w W;refine Zi W (λe W=>?_) (λe W=>?_)
  ·refine wpList_nil<|cW<|Qq W I ?_;refine gC W<|zr<|zm I<|ldZ Eh ?_;refine zB [(_,_)] I (L8 _ _ _ _) λN=>?_;refine apC Qr (((Za l2.T).take i).filter<|Sq q) [(Za l2.T).getD i ed0] d ?_ (hr:=by(try dsimp only);have:=qY (Za l2.T) q i;omega);intro r t A X a w W;refine gL W<|za I<|zn<|zr<|zp (.pN (i+1)<|.add I I)<|au 0x24 ?_;clear W;intro a w W;rw[qW f e] at W X;exact⟨i+1,⟨oo,r,t,A,X,by exact tO W⟩,oo⟩
  refine wpList_nil<|cW<|Zj W I<|gC W<|zk<|zr<|zp (.pN (i+1)<|.add I I)<|au 0x24 ?_;clear W;intro a w W;rw[cut_no f e] at W d;exact⟨i+1,⟨oo,c,c1,K,d,by exact tO W⟩,oo⟩
 have o:(Za l2.T).length=i:=dF g;subst o;refine gC W<|au 0x4310e ?_;clear W;intro a w W;rw[w9,show List.filter (Sq q) (Za l2.T)=Yq l2.T q from rfl] at W d;replace W:=W.shareO' L d;refine gL W<|zv [_] I call124 (UX c _ c1<|Kj d)<|au 0x625 ?_;clear W;intro a w W;refine Qj (Ψ:=[Row c (cellsOf Qr<|Yq l2.T q)]) W (Zd W I<|.tmp I) ?_ ss;exact⟨c,rfl,rfl⟩
def Xq(E:List Ed)(N:Nat): Nat->List ((Nat×Nat)×Nat)
 | 0=>[]
 | i+1=>Va (Xq E N i) ((E.getD i ed0).a,(E.getD i ed0).b) (N+i)
theorem getA_put[DecidableEq j1](m:List (j1×r3))(x k:j1)(y:r3): Zo (Va m x y) k=if k=x then some y else Zo m k:=by
  induction m with
  | nil => simp only [Va, Zo]; by_cases e : x = k
           ·rw[if_pos e,if_pos e.symm]
           rw[if_neg e,if_neg (λh=>e h.symm)]
  | cons p m a =>
    by_cases e:p.1=x
    · rw[Va,if_pos e,Zo,Zo];by_cases h:k=x
      ·rw[if_pos (show x=k from h.symm),if_pos h]
      rw[if_neg (show ¬x=k from λq=>h q.symm),if_neg h,if_neg (by rw[e];exact λq=>h q.symm)]
    rw[Va,if_neg e,Zo,Zo,a];by_cases h:p.1=k
    ·rw[if_pos h,if_pos h,if_neg (by rw[<-h];exact e)]
    rw[if_neg h,if_neg h]
theorem aa{E:List Ed}{N:Nat}{k:Nat×Nat}{v:Nat}: ∀ {i},Zo (Xq E N i) k=some v -> ∃j,j<i/\v=N+j/\k=((E.getD j ed0).a,(E.getD j ed0).b)
 | 0,h=>by cases h
 | i+1,h=>by
  rw[Xq,getA_put] at h;split at h
  ·rename_i e;cases h;exact⟨i,ia i,rfl,e⟩
  obtain ⟨j,hj,h1,c⟩:=aa h;exact⟨j,oo,h1,c⟩
theorem BS{k:Nat×Nat}(h:(Zo (Xq r N U) k).isSome=true): ∃j,j<U/\(Zo (Xq r N U) k).getD 0=N+j/\k=((r.getD j ed0).a,(r.getD j ed0).b):=by
 cases c:Zo (Xq r N U) k with
 | none=>rw[c] at h;cases h
 | some v=>obtain ⟨j,h1,d,e⟩:=aa c;exact⟨j,h1,by rw[et];exact d,e⟩
theorem mM{a b c:Nat}(h:a≠c): Zg a b≠Zg b c:=by
 intro e;unfold Zg at e;have h1:=congrArg Prod.fst e;have d:=congrArg Prod.snd e;simp only at h1 d;omega
theorem jn: Zg j o=Zg o j:=by unfold Zg;rw[Nat.min_comm,Nat.max_comm]
theorem iO(h:Ad N F=true)(hk:N<=U): Ad U F=true:=by
 obtain ⟨h1,d,e,b,c,a⟩:=Qv.1 h;exact Qv.2 ⟨oo,oo,by omega,b,c,a⟩
theorem H7{a b:Nat}(l:∃j,j<r.length/\U=N+j /\ ∃k,k=((r.getD j ed0).a,(r.getD j ed0).b)/\k≠Zg a b)(ha:a<N)(m:b<N)(d:a≠b):
  ∀x∈Qo (Xq r N r.length) 1 (U,a,b),Ad (N+r.length) x=true:=by
 obtain ⟨j,hj,rfl,k,hk,c⟩:=l;intro x hx;rw[Qo] at hx;split at hx
 ·rename_i hs;obtain ⟨h,i,h1,f⟩:=BS hs;simp only at h1 f;have g:h≠j:=λe=>c (by rw[hk,f,e]);simp only[Qo,h1,gH,ec,cZ,cf,or_false] at hx;rcases hx with rfl|rfl
  ·exact Qv.2 ⟨by simp only;omega,by simp only;omega,by simp only;omega,by simp only;omega,by simp only;omega,by simp only;omega⟩
  exact Qv.2 ⟨by simp only;omega,by simp only;omega,by simp only;omega,by simp only;omega,by simp only;omega,by simp only;omega⟩
 rw[da] at hx;subst hx;exact Qv.2 ⟨by simp only;omega,by simp only;omega,by simp only;omega,by simp only;omega,d,by simp only;omega⟩
theorem M9{E:List Ed}(hc:Ad N F=true): ∀x∈Qo (Xq E N E.length) 2 F,Ad (N+E.length) x=true:=by
 obtain ⟨h1,i,k,f,l,d⟩:=Qv.1 hc;intro x hx;rw[Qo] at hx;split at hx
 ·rename_i hs;obtain ⟨j,hj,h,g⟩:=BS hs;rw[h] at hx;rcases List.mem_append.1 hx with hx|hx
  ·exact H7 ⟨j,hj,rfl,_,rfl,by rw[<-g];exact λe=>mM (a:=F.1) (b:=F.2.1) (c:=F.2.2) (λq=>d q.symm) e.symm⟩ h1 i f x hx
  exact H7 ⟨j,hj,rfl,_,rfl,by rw[<-g];exact mM f.symm⟩ k h1 d x hx
 rw[da] at hx;subst hx;exact iO hc (tu _ _)
def allT(q:List ((Nat×Nat)×Nat))(T:List (Nat×Nat×Nat)): Nat->List (Nat×Nat×Nat)
 | 0=>[]
 | t+1=>allT q T t++Qo q 2 (T.getD t (0,0,0))
def K5(q:List ((Nat×Nat)×Nat))(T:List (Nat×Nat×Nat)): Nat->List Nat
 | 0=>[]
 | t+1=>K5 q T t++List.replicate (Qo q 2 (T.getD t (0,0,0))).length t
theorem GT(q:List ((Nat×Nat)×Nat))(T:List (Nat×Nat×Nat)): ∀t,(allT q T t).length<=4*t
 | 0=>aZ _
 | t+1=>by rw[allT,bd];have:=GT q T t;have:=Et q 2 (T.getD t (0,0,0));omega
theorem TB(q:List ((Nat×Nat)×Nat))(T:List (Nat×Nat×Nat)): ∀t,(K5 q T t).length<=4*t
 | 0=>aZ _
 | t+1=>by rw[K5,bd,hW];have:=TB q T t;have:=Et q 2 (T.getD t (0,0,0));omega
theorem Ud(q:List ((Nat×Nat)×Nat)): ∀d c,0<(Qo q d c).length
 | 0,_=>Nat.one_pos
 | d+1,c=>by
  rw[Qo];split
  ·rw[bd];have:=Ud q d ((Zo q (Zg c.2.1 c.2.2)).getD 0,c.1,c.2.1);omega
  exact Nat.one_pos
theorem kY(h:0<N): 0<(allT j2 e N).length:=by
 obtain ⟨s,rfl⟩:∃s,N=s+1:=⟨N-1,oo⟩
 rw[allT,bd];have:=Ud j2 2 (e.getD s (0,0,0));omega
theorem UJ{E:List Ed}{N:Nat}{T:List (Nat×Nat×Nat)}(hT:∀c∈T,Ad N c=true): ∀t,t<=T.length -> ∀x∈allT (Xq E N E.length) T t,Ad (N+E.length) x=true
 | 0,_,_,h=>by cases h
 | t+1,ht,x,h=>by
  rw[allT] at h;rcases List.mem_append.1 h with h|h
  ·exact UJ hT t oo x h
  exact M9 (hT _ (getD_mem T oo)) x h
theorem qX{n:Nat}(hT:∀c∈a7,Ad n c=true)(q:List ((Nat×Nat)×Nat)): ∀e∈Yq a7 q,e.a<n/\e.b<n:=by
 intro e he;have h:=EA hT e (List.mem_filter.1 he).1;have h1:=h.lt;have d:=h.n;simp only at h1 d;omega
theorem Wx(q:List ((Nat×Nat)×Nat)): (Yq e q).length<=3*e.length:=bp (nk _ _) (Kh e)
theorem Pk(q:List ((Nat×Nat)×Nat))(b g c a f:Nat): ∀d,d<=10->rQ q b g c a f d
 | 0,_=>fj q b g c a f 0 dd (λ_ h=>by cases h)
 | d+1,h=>fj q b g c a f (d+1) h (λe he=>by cases he;exact Pk q b g c a f d oo)
end Go.Proofs.YtdadideknhmbbaaGreatDoor
