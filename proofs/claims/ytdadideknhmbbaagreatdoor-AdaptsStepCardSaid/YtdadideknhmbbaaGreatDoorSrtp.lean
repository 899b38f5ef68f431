/- Walks of functions. By an AI agent. -/
import Derived.Test.YtdadideknhmbbaaGreatDoorPolyse
import Derived.Test.YtdadideknhmbbaaGreatDoorFxP
import Derived.Shelf.SlSortCmp.PdqK
set_option linter.unusedVariables false
set_option linter.unusedSimpArgs false
set_option maxRecDepth 4000
set_option maxHeartbeats 8000000
namespace Go.Proofs.YtdadideknhmbbaaGreatDoor
open Go Go.Proofs Go.Fx Tryz
attribute [local irreducible] Oper.wp Code.wp wpList Fx.Head wpOp Zp
variable{U l2 n3 g P W k3 l4 y Q j3 k5 l6 w F j5 k7 l8 L a6 j7 k9 n2 O Y a8 j9 l3 n4 s C b1 k4 l5 h T E j4 k6 e V G j6 k8 A t X a7 j8 z R Z b0 l7 u S D l9 N p:Value}{e4:Type _}{B o2 b2 o3:Nat}{e5:Rat}{c4 c8 c7:Pt}(e7 o0 o1:Int)(e8:List Nat)(b3 b4 b5 b6 b7 b8 b9 c3 c5 c6 c9 e0 e1 e2 e3 h0 h2 h3 h4 h5 h6 h7 h8 h9 i1 i6 i7 j0 j1 j2:Value)(e9:Option Addr)(o K:Nat)(J:World)(a f:Pt)(a1 n5 n9:Rat)(H:Pt)(e6:Nat)
def crQ(u v:Pt): Rat:=u.1*v.2-u.2*v.1
def Vv(a b:Pt): Pt:=(a.1-b.1,a.2-b.2)
def addP(a b:Pt): Pt:=(a.1+b.1,a.2+b.2)
def sclP(a:Pt)(k:Rat): Pt:=(a.1*k,a.2*k)
def gb(a b:Pt): Rat:=a.1*b.1+a.2*b.2
def twP(a b c:Pt): Rat:=crQ (Vv b a) (Vv c a)
theorem twP_eq: twP a f H=twQ a f H:=by unfold twP crQ Vv twQ;grind
def grP(e f:Pt)(t:Rat): Pt:=(-((Vv e f).2)/t,(Vv e f).1/t)
def Xb(a b c:Pt): Pt×Pt×Pt:=(grP c b (twP a b c),grP a c (twP a b c),grP b a (twP a b c))
def Ve(a b c p:Pt): Rat×Rat×Rat:=(twP p b c/twP a b c,twP a p c/twP a b c,twP a b p/twP a b c)
def vx(a b c:Pt)(s t:Rat): Rat:=(b.1-a.1)*s+(c.1-a.1)*t+a.1
def vy(a b c:Pt)(s t:Rat): Rat:=(b.2-a.2)*s+(c.2-a.2)*t+a.2
structure Pw where
 i:Nat
 j:Nat
 k:Nat
 c:Rat
def EV(c:Int)(l:List Nat): Pw:=⟨l.count 0,l.count 1,l.count 2,(c:Rat)⟩
def sdA:Nat->Nat
 | 0=>1
 | 1=>2
 | _=>0
def sdB:Nat->Nat
 | 0=>2
 | 1=>0
 | _=>1
def Yi(o n:Nat): List Pw:=if o=1 then [EV 1 [n]] else if n<3 then [EV 2 [n,n],EV (-1) [n]] else [EV 4 [sdA (n-3),sdB (n-3)]]
def Am(o:Nat): Nat:=if o=1 then 3 else 6
def exP(p:Pw): Nat->Nat
 | 0=>p.i
 | 1=>p.j
 | _=>p.k
def dnP(b:Nat)(p:Pw): Pw:=match b with
 | 0=>⟨p.i-1,p.j,p.k,p.c*((p.i:Int):Rat)⟩
 | 1=>⟨p.i,p.j-1,p.k,p.c*((p.j:Int):Rat)⟩
 | _=>⟨p.i,p.j,p.k-1,p.c*((p.k:Int):Rat)⟩
def slp(b:Nat)(l:List Pw): List Pw:=(l.filter (λp=>decide (exP p b≠0))).map (dnP b)
def tgS(p:Pw)(s:Rat)(q:Pw): Rat:=s+p.c*q.c*pT (p.i+q.i) (p.j+q.j) (p.k+q.k)
def tgI(b:List Pw)(s:Rat)(p:Pw): Rat:=b.foldl (tgS p) s
def tgQ(a b:List Pw): Rat:=a.foldl (tgI b) 0
def massE(o n m:Nat): Rat:=tgQ (Yi o n) (Yi o m)
def tensE(o n m i k:Nat): Rat:=tgQ (slp i (Yi o n)) (slp k (Yi o m))
def stE(o:Nat)(B:List Rat)(n m:Nat): Rat:=(List.range 9).foldl (λs t=>s+tensE o n m (t/3) (t%3)*B.getD t 0) 0
def flowP(k:Rat×Rat×Rat)(g:Pt): Pt:=(k.1*g.1+k.2.1*g.2,k.2.1*g.1+k.2.2*g.2)
def Xx:Rat:=((1:Int):Rat)/((2:Int):Rat)
def KR(a b c:Pt): Rat:=twP a b c*Xx
def byP(k:Rat×Rat×Rat)(A:Rat)(gi gj:Pt): Rat:=A*gb (flowP k gj) gi
def byL(k:Rat×Rat×Rat)(A:Rat)(g:Pt×Pt×Pt): List Rat :=
 [byP k A g.1 g.1,byP k A g.1 g.2.1,byP k A g.1 g.2.2,byP k A g.2.1 g.1,byP k A g.2.1 g.2.1,byP k A g.2.1 g.2.2,byP k A g.2.2 g.1,byP k A g.2.2 g.2.1,byP k A g.2.2 g.2.2]
def MN(at':Rat)(g:Pt): List Tm:=norm (norm [⟨0,0,at'⟩]++norm (norm (Qc g.1 [⟨1,0,1⟩])++norm (Qc g.2 [⟨0,1,1⟩])))
def mulN(v l:List Tm): Nat->List Tm
 | 0=>v
 | n+1=>norm (Vl (mulN v l n) l)
def pwP(l0 l1 l2:List Tm)(p:Pw): List Tm:=mulN (mulN (mulN (norm [⟨0,0,p.c⟩]) l0 p.i) l1 p.j) l2 p.k
def basL(l0 l1 l2:List Tm)(ps:List Pw): List Tm:=ps.foldl (λs p=>norm (s++pwP l0 l1 l2 p)) []
def combL(v:List Rat)(l:List (List Tm)): Nat->List Tm
 | 0=>[]
 | k+1=>norm (combL v l k++norm (Qc (v.getD k 0) (l.getD k [])))
def fX(f:Nat->Rat): Nat->Rat
 | 0=>0
 | n+1=>fX f n+f n
def xe:Nat->Nat×Nat
 | 0=>(0,0)
 | 1=>(1,0)
 | 2=>(0,1)
 | 3=>(2,0)
 | 4=>(1,1)
 | _=>(0,2)
def bqF(x y:Nat->Rat): Rat:=fX (λi=>fX (λj=>x i*y j*mu ((xe i).1+(xe j).1) ((xe i).2+(xe j).2)) 6) 6
def qL(x:Nat->Rat): List Tm:=[⟨0,0,x 0⟩,⟨1,0,x 1⟩,⟨0,1,x 2⟩,⟨2,0,x 3⟩,⟨1,1,x 4⟩,⟨0,2,x 5⟩]
def evQ(x:Nat->Rat)(s t:Rat): Rat:=x 0+x 1*s+x 2*t+x 3*(s*s)+x 4*(s*t)+x 5*(t*t)
def tabV:Nat->List (List Rat)
 | 1=>[[1, -1, -1],[0,1],[0,0,1]]
 | _=>[[1, -3, -3,2,4,2],[0, -1,0,2],[0,0, -1,0,0,2],[0,0,0,0,4],[0,0,4,0, -4, -4],[0,4,0, -4, -4]]
def tabD:Nat->Nat->List (List Rat)
 | 1,0=>[[1],[],[]]
 | 1,1=>[[],[1],[]]
 | 1,_=>[[],[],[1]]
 | _,0=>[[3, -4, -4],[],[],[],[0,0,4],[0,4]]
 | _,1=>[[],[-1,4],[],[0,0,4],[],[4, -4, -4]]
 | _,_=>[[],[],[-1,0,4],[0,4],[4, -4, -4],[]]
def coV(o n i:Nat): Rat:=((tabV o).getD n []).getD i 0
def coD(o j n i:Nat): Rat:=((tabD o j).getD n []).getD i 0
def grad3(e0 e1 e2:Rat)(o n:Nat)(s t:Rat): Rat:=e0*evQ (coD o 0 n) s t+e1*evQ (coD o 1 n) s t+e2*evQ (coD o 2 n) s t
def lam0(a b c:Pt): List Tm:=MN (Ve a b c (0,0)).1 (Xb a b c).1
def lam1(a b c:Pt): List Tm:=MN (Ve a b c (0,0)).2.1 (Xb a b c).2.1
def lam2(a b c:Pt): List Tm:=MN (Ve a b c (0,0)).2.2 (Xb a b c).2.2
def basis(o:Nat)(a b c:Pt): List (List Tm):=(List.range (Am o)).map (λn=>basL (lam0 a b c) (lam1 a b c) (lam2 a b c) (Yi o n))
def cmp3(e0 e1 e2:Rat)(o:Nat)(v:List Rat)(i:Nat): Rat:=e0*fX (λn=>v.getD n 0*coD o 0 n i) (Am o)+e1*fX (λn=>v.getD n 0*coD o 1 n i) (Am o)+e2*fX (λn=>v.getD n 0*coD o 2 n i) (Am o)
def formQ(f:Nat->Nat->Rat)(v:List Rat)(N:Nat): Rat:=fX (λn=>v.getD n 0*fX (λm=>f n m*v.getD m 0) N) N
def sumD(o:Nat)(v:List Rat)(j i:Nat): Rat:=fX (λn=>v.getD n 0*coD o j n i) (Am o)
def overQ(P Q:List Tm)(a b c:Pt): Rat:=XU (norm (Vl P Q)) a b c
theorem qA:Xx=1/2:=rfl
theorem Up: RN (Instr.fieldAt 106 (.pointer (some ⟨B,b2,none⟩)) 0) (.pointer (some ⟨B,b2+0,none⟩)):=λw=>by
 simp[go_sem]
theorem Uo: RN (Instr.fieldAt 106 (.pointer (some ⟨B,b2,none⟩)) 1) (.pointer (some ⟨B,b2+5,none⟩)):=λw=>by
 simp[go_sem]
theorem Mc: RN (Instr.build 106 [(0,.agg #[b3,b4,b5,b6,b7]),(1,.agg #[b8,b9,c3,c5,c6])].toArray) (.agg #[b3,b4,b5,b6,b7,b8,b9,c3,c5,c6]):=λw=>by simp[go_sem]
theorem KQ: RN (Instr.build 48 [(0,.agg #[b3,b4,b5,b6,b7]),(1,.agg #[b8,b9,c3,c5,c6]),(2,.agg #[c9,e0,e1,e2,e3])].toArray) (.agg #[b3,b4,b5,b6,b7,b8,b9,c3,c5,c6,c9,e0,e1,e2,e3]):=λw=>by simp[go_sem]
theorem Ba: Zp #[L,N,O,g,A,y,z,w,u,h,p,e,P,t,Q] 0 [R,s,S,T,U,V,W,X,Y,Z,C,D,E,F,G]=#[R,s,S,T,U,V,W,X,Y,Z,C,D,E,F,G]:=by kernel_rfl
theorem FR: RN (Instr.indexAt 48 (.pointer (some ⟨o,K,none⟩)) (.int .i64 0)) (.pointer (some ⟨o,K+0,none⟩)):=λw=>by
 simp[go_sem,Instr.indexAt]
theorem FC: Zm true 5 #[L,N,O,g,A,y,z,w,u,h,p,e,P,t,Q] 0=some (.agg #[L,N,O,g,A]):=rfl
theorem X8: Zp #[L,N,O,g,A,y,z,w,u,h,p,e,P,t,Q] 0 [R,s,S,T,U]=#[R,s,S,T,U,y,z,w,u,h,p,e,P,t,Q]:=by kernel_rfl
theorem M6: RN (Instr.indexAt 48 (.pointer (some ⟨o,K,none⟩)) (.int .i64 1)) (.pointer (some ⟨o,K+5,none⟩)):=λw=>by
 simp[go_sem,Instr.indexAt]
theorem IX: Zm true 5 #[L,N,O,g,A,y,z,w,u,h,p,e,P,t,Q] 5=some (.agg #[y,z,w,u,h]):=rfl
theorem X7: Zp #[L,N,O,g,A,y,z,w,u,h,p,e,P,t,Q] 5 [R,s,S,T,U]=#[L,N,O,g,A,R,s,S,T,U,p,e,P,t,Q]:=by kernel_rfl
theorem FQ: RN (Instr.indexAt 48 (.pointer (some ⟨o,K,none⟩)) (.int .i64 2)) (.pointer (some ⟨o,K+10,none⟩)):=λw=>by
 simp[go_sem,Instr.indexAt]
theorem Cj: Zm true 5 #[L,N,O,g,A,y,z,w,u,h,p,e,P,t,Q] 10=some (.agg #[p,e,P,t,Q]):=rfl
theorem VF: Zp #[L,N,O,g,A,y,z,w,u,h,p,e,P,t,Q] 10 [R,s,S,T,U]=#[L,N,O,g,A,y,z,w,u,h,R,s,S,T,U]:=by kernel_rfl
theorem Ak: Zm true 15 #[L,N,O,g,A,y,z,w,u,h,p,e,P,t,Q] 0=some (.agg #[L,N,O,g,A,y,z,w,u,h,p,e,P,t,Q]):=rfl
theorem D4: RN (Instr.build 107 [(0,.agg #[b3,b4,b5,b6,b7,b8,b9,c3,c5,c6]),(1,.agg #[c9,e0,e1,e2,e3,h0,h2,h3,h4,h5]),(2,.agg #[h6,h7,h8,h9,i1,i6,i7,j0,j1,j2])].toArray) (.agg #[b3,b4,b5,b6,b7,b8,b9,c3,c5,c6,c9,e0,e1,e2,e3,h0,h2,h3,h4,h5,h6,h7,h8,h9,i1,i6,i7,j0,j1,j2]):=λw=>by simp[go_sem]
theorem Gj: Zp #[L,N,O,g,A,y,z,w,u,h,p,e,P,t,Q,R,s,S,T,U,V,W,X,Y,Z,C,D,E,F,G] 0 [a6,a7,a8,b0,b1,j3,j4,j5,j6,j7,j8,j9,k3,k4,k5,k6,k7,k8,k9,l2,l3,l4,l5,l6,l7,l8,l9,n2,n3,n4]=#[a6,a7,a8,b0,b1,j3,j4,j5,j6,j7,j8,j9,k3,k4,k5,k6,k7,k8,k9,l2,l3,l4,l5,l6,l7,l8,l9,n2,n3,n4]:=by kernel_rfl
theorem Co: RN (Instr.indexAt 107 (.pointer (some ⟨o,K,none⟩)) (.int .i64 2)) (.pointer (some ⟨o,K+20,none⟩)):=λw=>by
 simp[go_sem,Instr.indexAt]
theorem Ah: Zm true 10 #[L,N,O,g,A,y,z,w,u,h,p,e,P,t,Q,R,s,S,T,U,V,W,X,Y,Z,C,D,E,F,G] 20=some (.agg #[V,W,X,Y,Z,C,D,E,F,G]):=rfl
theorem Cp: RN (Instr.indexAt 107 (.pointer (some ⟨o,K,none⟩)) (.int .i64 1)) (.pointer (some ⟨o,K+10,none⟩)):=λw=>by
 simp[go_sem,Instr.indexAt]
theorem Ai: Zm true 10 #[L,N,O,g,A,y,z,w,u,h,p,e,P,t,Q,R,s,S,T,U,V,W,X,Y,Z,C,D,E,F,G] 10=some (.agg #[p,e,P,t,Q,R,s,S,T,U]):=rfl
theorem Cq: RN (Instr.indexAt 107 (.pointer (some ⟨o,K,none⟩)) (.int .i64 0)) (.pointer (some ⟨o,K+0,none⟩)):=λw=>by
 simp[go_sem,Instr.indexAt]
theorem X3: Zp #[L,N,O,g,A,y,z,w,u,h,p,e,P,t,Q,R,s,S,T,U,V,W,X,Y,Z,C,D,E,F,G] 0 [a6,a7,a8,b0,b1]=#[a6,a7,a8,b0,b1,y,z,w,u,h,p,e,P,t,Q,R,s,S,T,U,V,W,X,Y,Z,C,D,E,F,G]:=by kernel_rfl
theorem X2: Zp #[L,N,O,g,A,y,z,w,u,h,p,e,P,t,Q,R,s,S,T,U,V,W,X,Y,Z,C,D,E,F,G] 5 [a6,a7,a8,b0,b1]=#[L,N,O,g,A,a6,a7,a8,b0,b1,p,e,P,t,Q,R,s,S,T,U,V,W,X,Y,Z,C,D,E,F,G]:=by kernel_rfl
theorem Bd: Zm true 10 #[L,N,O,g,A,y,z,w,u,h,p,e,P,t,Q,R,s,S,T,U,V,W,X,Y,Z,C,D,E,F,G] 0=some (.agg #[L,N,O,g,A,y,z,w,u,h]):=rfl
theorem VD: Zp #[L,N,O,g,A,y,z,w,u,h,p,e,P,t,Q,R,s,S,T,U,V,W,X,Y,Z,C,D,E,F,G] 10 [a6,a7,a8,b0,b1]=#[L,N,O,g,A,y,z,w,u,h,a6,a7,a8,b0,b1,R,s,S,T,U,V,W,X,Y,Z,C,D,E,F,G]:=by kernel_rfl
theorem VC: Zp #[L,N,O,g,A,y,z,w,u,h,p,e,P,t,Q,R,s,S,T,U,V,W,X,Y,Z,C,D,E,F,G] 15 [a6,a7,a8,b0,b1]=#[L,N,O,g,A,y,z,w,u,h,p,e,P,t,Q,a6,a7,a8,b0,b1,V,W,X,Y,Z,C,D,E,F,G]:=by kernel_rfl
theorem VB: Zp #[L,N,O,g,A,y,z,w,u,h,p,e,P,t,Q,R,s,S,T,U,V,W,X,Y,Z,C,D,E,F,G] 20 [a6,a7,a8,b0,b1]=#[L,N,O,g,A,y,z,w,u,h,p,e,P,t,Q,R,s,S,T,U,a6,a7,a8,b0,b1,C,D,E,F,G]:=by kernel_rfl
theorem VA: Zp #[L,N,O,g,A,y,z,w,u,h,p,e,P,t,Q,R,s,S,T,U,V,W,X,Y,Z,C,D,E,F,G] 25 [a6,a7,a8,b0,b1]=#[L,N,O,g,A,y,z,w,u,h,p,e,P,t,Q,R,s,S,T,U,V,W,X,Y,Z,a6,a7,a8,b0,b1]:=by kernel_rfl
theorem Bc: Zm true 30 #[L,N,O,g,A,y,z,w,u,h,p,e,P,t,Q,R,s,S,T,U,V,W,X,Y,Z,C,D,E,F,G] 0=some (.agg #[L,N,O,g,A,y,z,w,u,h,p,e,P,t,Q,R,s,S,T,U,V,W,X,Y,Z,C,D,E,F,G]):=by kernel_rfl
theorem cgd{x y:e4}(h:x=y:=by first|rfl|(congr 1;decide)): x=y:=h
theorem Xe: (zeroValue 106).run prog J=.ok (encPt (0,0)) J:=zeroValue106 J
abbrev Kr(a b c:Pt): Value:=.agg #[.int .u64 (Yk a.1.num.natAbs),.string (Xr a.1.num.natAbs),.bool (decide (a.1.num<0)),.int .u64 (Yk (a.1.den-1)),.string (Xr (a.1.den-1)),.int .u64 (Yk a.2.num.natAbs),.string (Xr a.2.num.natAbs),.bool (decide (a.2.num<0)),.int .u64 (Yk (a.2.den-1)),.string (Xr (a.2.den-1)),.int .u64 (Yk b.1.num.natAbs),.string (Xr b.1.num.natAbs),.bool (decide (b.1.num<0)),.int .u64 (Yk (b.1.den-1)),.string (Xr (b.1.den-1)),.int .u64 (Yk b.2.num.natAbs),.string (Xr b.2.num.natAbs),.bool (decide (b.2.num<0)),.int .u64 (Yk (b.2.den-1)),.string (Xr (b.2.den-1)),.int .u64 (Yk c.1.num.natAbs),.string (Xr c.1.num.natAbs),.bool (decide (c.1.num<0)),.int .u64 (Yk (c.1.den-1)),.string (Xr (c.1.den-1)),.int .u64 (Yk c.2.num.natAbs),.string (Xr c.2.num.natAbs),.bool (decide (c.2.num<0)),.int .u64 (Yk (c.2.den-1)),.string (Xr (c.2.den-1))]
theorem Lc: (zeroValue 107).run prog J=.ok (Kr (0,0) (0,0) (0,0)) J:=zeroValue107 J
abbrev encM9(a b c d e f g h i:Rat): Value:=.agg #[.int .u64 (Yk a.num.natAbs),.string (Xr a.num.natAbs),.bool (decide (a.num<0)),.int .u64 (Yk (a.den-1)),.string (Xr (a.den-1)),.int .u64 (Yk b.num.natAbs),.string (Xr b.num.natAbs),.bool (decide (b.num<0)),.int .u64 (Yk (b.den-1)),.string (Xr (b.den-1)),.int .u64 (Yk c.num.natAbs),.string (Xr c.num.natAbs),.bool (decide (c.num<0)),.int .u64 (Yk (c.den-1)),.string (Xr (c.den-1)),.int .u64 (Yk d.num.natAbs),.string (Xr d.num.natAbs),.bool (decide (d.num<0)),.int .u64 (Yk (d.den-1)),.string (Xr (d.den-1)),.int .u64 (Yk e.num.natAbs),.string (Xr e.num.natAbs),.bool (decide (e.num<0)),.int .u64 (Yk (e.den-1)),.string (Xr (e.den-1)),.int .u64 (Yk f.num.natAbs),.string (Xr f.num.natAbs),.bool (decide (f.num<0)),.int .u64 (Yk (f.den-1)),.string (Xr (f.den-1)),.int .u64 (Yk g.num.natAbs),.string (Xr g.num.natAbs),.bool (decide (g.num<0)),.int .u64 (Yk (g.den-1)),.string (Xr (g.den-1)),.int .u64 (Yk h.num.natAbs),.string (Xr h.num.natAbs),.bool (decide (h.num<0)),.int .u64 (Yk (h.den-1)),.string (Xr (h.den-1)),.int .u64 (Yk i.num.natAbs),.string (Xr i.num.natAbs),.bool (decide (i.num<0)),.int .u64 (Yk (i.den-1)),.string (Xr (i.den-1))]
theorem sgn0(h:e5.num.sign=0): e5=0:=Rat.num_eq_zero.1 (Int.sign_eq_zero_iff_zero.1 h)
theorem We: Zr (addP a f).1<=Zr a.1+Zr f.1+1:=Xo _ _
theorem Wc: Zr (addP a f).2<=Zr a.2+Zr f.2+1:=Xo _ _
theorem Yb: Zr (Vv a f).1<=Zr a.1+Zr f.1+1:=Yg _ _
theorem Ya: Zr (Vv a f).2<=Zr a.2+Zr f.2+1:=Yg _ _
theorem Wa: Zr (sclP a a1).1<=Zr a.1+Zr a1:=Qh _ _
theorem V9: Zr (sclP a a1).2<=Zr a.2+Zr a1:=Qh _ _
theorem bh: Zr (gb a f)<=Zr a.1+Zr f.1+Zr a.2+Zr f.2+1:=by
 have:=Xo (a.1*f.1) (a.2*f.2);have:=Qh a.1 f.1;have:=Qh a.2 f.2;unfold gb;omega
theorem M4: Zr (crQ a f)<=Zr a.1+Zr f.2+Zr a.2+Zr f.1+1:=by
 have:=Yg (a.1*f.2) (a.2*f.1);have:=Qh a.1 f.2;have:=Qh a.2 f.1;unfold crQ;omega
theorem Ga: Zr (twP a f H)<=Zr f.1+Zr f.2+Zr H.1+Zr H.2+2*Zr a.1+2*Zr a.2+5:=by
 have:=M4 (Vv f a) (Vv H a);have:=Yb f a;have:=Ya f a;have:=Yb H a;have:=Ya H a;unfold twP;omega
theorem Hk:Zr Xx<=4:=Kq 1 2 dd dd dd dd
theorem Hl: Zr (KR a f H)<=Zr f.1+Zr f.2+Zr H.1+Zr H.2+2*Zr a.1+2*Zr a.2+9:=by
 have:=Qh (twP a f H) Xx;have:=Ga a f H;have:=Hk;unfold KR;omega
theorem M3: Zr (grP a f a1).1<=Zr a.2+Zr f.2+Zr a1+1/\Zr (grP a f a1).2<=Zr a.1+Zr f.1+Zr a1+1:=by
 have h1:=Yl (-((Vv a f).2)) a1;have g:=Yl ((Vv a f).1) a1;have b:=En ((Vv a f).2);have:=Yb a f;have:=Ya a f;unfold grP;simp only;omega
theorem fu(cs:List Value)(Φ:List Zs)(d e:Pt)(x y:Rat)(f:∀args w,(callFunc o args).run prog w=.ok (.enter o args) w)(c:Xi prog o ([Qa d.1,Qa e.1]++cs) Φ (Qa x))(b:Xi prog o ([Qa d.2,Qa e.2]++cs) Φ (Qa y)): Xi prog 194 [encPt d,encPt e,.func (.func o) #[] cs.toArray] Φ (encPt (x,y)):=by
 refine fnI func194 I ntmps194 λS w0 i=>zS (zx I λl=>zx I λk=>zz Xe λj=>zn<|zs<|yE [0,1,2,3,4,6,7,8,9,10,5,11,12,13]<|au 0x14ff3f9 ?_);refine au 0x14ff3f ?_;refine au 0xe2fe3f9 ?_;refine au 0xe2fe3f ?_;refine Gf I kk (fs:=[]) (cs:=cs) I (vs:=[_,_]) I f c (by first|exact(λ_ hR=>hR)|simp) dd ?_;refine Gf I kk (fs:=[]) (cs:=cs) I (vs:=[_,_]) I f b (by first|exact(λ_ hR=>hR)|simp) dd ?_;refine yp I (.build [(_,_),(_,_)] I<|Mc _ _ _ _ _ _ _ _ _ _)<|stV I I I Zv ?_;refine yn<|zt ?_;intro a w h;refine Xh h (Zd h I<|rC Jq) ?_;rfl
theorem rW(d:Zr a.1<=100000000)(g:Zr a.2<=100000000)(e:Zr f.1<=100000000)(o:Zr f.2<=100000000): Jk prog 152 [encPt a,encPt f] (encPt (addP a f)):=by
 refine fnI func152 I ntmps152 λS w0 i=>zS (zx I λk=>zx I λl=>zz Xe λj=>au 0x7e7e312 ?_);refine zw [_,_,_] I call194 (fu 32 [] [] a f _ _ call32 (kn (fJ a.1 f.1 oo oo) [])<|kn (fJ a.2 f.2 oo oo) [])<|stW I I Zv ?_;refine zn<|zt ?_;intro n w h;refine Xh h (Zd h I<|rC Jq) ?_;rfl
theorem C7(d:Zr a.1<=100000000)(g:Zr a.2<=100000000)(e:Zr f.1<=100000000)(o:Zr f.2<=100000000): Jk prog 104 [encPt a,encPt f] (encPt (Vv a f)):=by
 refine fnI func104 I ntmps104 λS w0 i=>zS (zx I λk=>zx I λl=>zz Xe λj=>au 0x7e7e312 ?_);refine zw [_,_,_] I call194 (fu 42 [] [] a f _ _ call42 (kn (fG a.1 f.1 oo oo) [])<|kn (fG a.2 f.2 oo oo) [])<|stW I I Zv ?_;refine zn<|zt ?_;intro n w h;refine Xh h (Zd h I<|rC Jq) ?_;rfl
theorem eV(o:Nat)(hx:Zr a1<=100000000)(hk:Zr n9<=100000000): Xi prog 247 [Qa a1,Qa n5,.pointer (some ⟨e6,o,none⟩)] [Row (some ⟨e6,o,none⟩) (Value.cells (Qa n9)).toList] (Qa (a1*n9)):=by
 refine fnI func247 I ntmps247 λS w0 e=>zS (zx I λg=>zx I λf=>zz Xc λd=>au 0x6e312 ?_);refine zD (b:=e6) (off:=o) (j:=0) (M:=(Value.cells<|Qa n9).toList) (v:=Qa<|n9) I mm (gM _) isAgg47 sizeOf47 I (.inl I) ?_;refine au 0xd9f ?_;intro a w h;have c:=Qh (a1) (n9);refine gL h<|stW I I Zl ?_;refine zn<|zt ?_;clear h;intro a w h;refine Xh h (Zd h I<|rC Zz) ?_;rfl
theorem eU(e:Zr a.1<=100000000)(f:Zr a.2<=100000000)(hk:Zr a1<=100000000): Jk prog 151 [encPt a,Qa a1] (encPt (sclP a a1)):=by
 refine fnI func151 I ntmps151 λS w0 d=>zS (zx I λi=>zx I λc=>?_);intro n w h;replace h:=h.shareAll d ((Value.cells (Qa (a1))).toList) I;refine gL h (zz Xe λg=>au 0x56f7e7e312 ?_);refine zw [_,_,_] I call194 (fu 247 [.pointer (some ⟨c,0,none⟩)] [Row (some ⟨c,0,none⟩) (Value.cells<|Qa a1).toList] a a _ _ call247 (eV a.1 a.1 a1 c 0 oo oo)<|eV a.2 a.2 a1 c 0 oo oo)<|stW I I Zv ?_;refine zn<|zt ?_;clear h;intro n w h;refine Xh h (Zd h I<|rC Jq) ?_;rfl
theorem P9(d:Zr a.1<=100000000)(g:Zr a.2<=100000000)(e:Zr f.1<=100000000)(r:Zr f.2<=100000000): Jk prog 230 [encPt a,encPt f] (Qa (crQ a f)):=by
 refine fnI func230 I ntmps230 λS w0 l=>zS (zx I λm=>zx I λo=>zz Xc λn=>zn<|zs<|yE [0,1,2,3,5,6,7,8,4,9,10,11]<|au 0x14ff3f ?_);refine au 0xe2fe3f ?_;refine au 0xe2fe3f ?_;refine au 0x14ff3f ?_;refine au 0xb2f ?_;have k:=Qh (a.1) (f.2);refine au 0xb2f ?_;have i:=Qh (a.2) (f.1);refine au 0x68f ?_;have j:=Yg (a.1*f.2) (a.2*f.1);refine stV I I I Zl ?_;refine yn<|zt ?_;intro p w h;refine Xh h (Zd h I<|rC Zz) ?_;rfl
theorem rV(d:Zr a.1<=100000000)(g:Zr a.2<=100000000)(e:Zr f.1<=100000000)(r:Zr f.2<=100000000): Jk prog 182 [encPt a,encPt f] (Qa (gb a f)):=by
 refine fnI func182 I ntmps182 λS w0 l=>zS (zx I λm=>zx I λo=>zz Xc λn=>zn<|zs<|yE [0,1,2,3,5,6,7,8,4,9,10,11]<|au 0x14ff3f ?_);refine au 0x14ff3f ?_;refine au 0xe2fe3f ?_;refine au 0xe2fe3f ?_;refine au 0xb2f ?_;have k:=Qh (a.1) (f.1);refine au 0xb2f ?_;have i:=Qh (a.2) (f.2);refine au 0x94f ?_;have j:=Xo (a.1*f.1) (a.2*f.2);refine stV I I I Zl ?_;refine yn<|zt ?_;intro p w h;refine Xh h (Zd h I<|rC Zz) ?_;rfl
theorem HG(d:Zr a.1<=10000000)(i:Zr a.2<=10000000)(e:Zr f.1<=10000000)(r:Zr f.2<=10000000): Jk prog 97 [encPt a,encPt f] (Qa (gb (Vv f a) (Vv f a))):=by
 refine fnI func97 I ntmps97 λS w0 l=>zS (zx I λm=>zx I λo=>zz Xc λn=>au 0x7e7e312 ?_);refine zv [_,_] I call104 (C7 f a oo oo oo oo) ?_;have g:=Yb f a;have g:=Ya f a;refine zz Xe λk=>stW I I Zv ?_;refine au 0x7e7e312 ?_;refine zv [_,_] I call182 (rV (Vv f a) (Vv f a) oo oo oo oo) ?_;have j:=bh (Vv f a) (Vv f a);refine stW I I Zl ?_;refine zn<|zt ?_;intro p w h;refine Xh h (Zd h I<|rC Zz) ?_;rfl
theorem UO(g:Zr a.1<=10000000)(k:Zr a.2<=10000000)(h:Zr f.1<=10000000)(i:Zr f.2<=10000000)(j:Zr H.1<=10000000)(r:Zr H.2<=10000000): Jk prog 239 [encPt a,encPt f,encPt H] (.int .i64 (twP a f H).num.sign):=by
 refine fnI func239 I ntmps239 λS w0 n=>zS (zx I λp=>zx I λo=>zx I λm=>za I<|zn<|zs<|yE [0,1,3,4,2,5,6,7,8]<|au 0x30f ?_);refine au 0x30f ?_;refine au 0x30f ?_;refine au 0x30f ?_;refine yv [_,_] I I call104 (C7 f a oo oo oo oo) ?_;have e:=Yb f a;have e:=Ya f a;refine yv [_,_] I I call104 (C7 H a oo oo oo oo) ?_;have d:=Yb H a;have d:=Ya H a;refine yv [_,_] I I call230 (P9 (Vv f a) (Vv H a) oo oo oo oo) ?_;have l:=M4 (Vv f a) (Vv H a);refine yv [_] I I call34 (D6 _)<|au 0x6a4e ?_;refine rtK I
theorem Cw(g:Zr a.1<=10000000)(k:Zr a.2<=10000000)(i:Zr f.1<=10000000)(j:Zr f.2<=10000000)(l:Zr H.1<=10000000)(u:Zr H.2<=10000000): Jk prog 136 [encPt a,encPt f,encPt H] (Qa (twP a f H)):=by
 refine fnI func136 I ntmps136 λS w0 p=>zS (zx I λs=>zx I λr=>zx I λo=>zz Xc λq=>zn<|zs<|yE [0,1,3,4,2,5,6,7]<|au 0x30f ?_);refine au 0x30f ?_;refine au 0x30f ?_;refine au 0x30f ?_;refine yv [_,_] I I call104 (C7 f a oo oo oo oo) ?_;have m:=Yb f a;have m:=Ya f a;refine yv [_,_] I I call104 (C7 H a oo oo oo oo) ?_;have e:=Yb H a;have e:=Ya H a;refine yv [_,_] I I call230 (P9 (Vv f a) (Vv H a) oo oo oo oo) ?_;have n:=M4 (Vv f a) (Vv H a);refine stV I I I Zl ?_;refine yn<|zt ?_;intro t w h;refine Xh h (Zd h I<|rC Zz) ?_;rfl
theorem lg(hx:Zr a1<=100000000): Jk prog 135 [Qa a1] (Qa (a1*Xx)):=by
 refine fnI func135 I ntmps135 λS w0 e=>zS (zx I λd=>zz Xc λf=>au 0x74f312 ?_);intro a w h;have c:=Kq (1) (2) oo oo oo oo;refine gL h<|au 0xbb4 ?_;refine zz Xc λg=>stW I I Zl ?_;refine au 0xd9f6e6e3125 ?_;clear h;intro a w h;have b:=Qh (a1) (((1:Int):Rat)/((2:Int):Rat));refine gL h<|stW I I Zl ?_;refine zn<|zt ?_;clear h;intro a w h;refine Xh h (Zd h I<|rC Zz) ?_;rfl
theorem N4(s:Zr a.1<=10000000)(k:Zr a.2<=10000000)(g:Zr f.1<=10000000)(i:Zr f.2<=10000000)(j:Zr H.1<=10000000)(e:Zr H.2<=10000000): Jk prog 63 [encPt a,encPt f,encPt H] (Qa (KR a f H)):=by
 refine fnI func63 I ntmps63 λS w0 n=>zS (zx I λq=>zx I λp=>zx I λm=>zz Xc λo=>au 0x7e7e7e312 ?_);refine zv [_,_,_] I call136 (Cw a f H oo oo oo oo oo oo) ?_;have l:=Ga a f H;refine zv [_] I call135 (lg (twP a f H) oo)<|stW I I Zl ?_;refine zn<|zt ?_;intro r w h;refine Xh h (Zd h I<|rC Zz) ?_;rfl
theorem N3(e:Pt)(r:Zr a.1<=10000000)(p:Zr a.2<=10000000)(n:Zr f.1<=10000000)(s:Zr f.2<=10000000)(t:Zr H.1<=10000000)(l:Zr H.2<=10000000)(x:Zr e.1<=10000000)(v:Zr e.2<=10000000)(hT:twP a f H≠0): Jk prog 138 [encPt a,encPt f,encPt H,encPt e] (.tuple #[Pv (Ve a f H e),.int .i64 0]):=by
 refine fnI func138 I ntmps138 λS w0 C=>zS (zx I λu=>zx I λm=>zx I λo=>zx I λq=>zz QL λj=>au 0x7e7e7e3125 ?_);refine zv [_,_,_] I call136 (Cw a f H oo oo oo oo oo oo) ?_;have y:=Ga a f H;refine zz Xc λg=>stW I I Zl ?_;refine zn<|zs<|yF [0,1,2,4,5,6,8,9,10,3,7,11,12,13,14]<|au 0x30f ?_;refine au 0x30f ?_;refine au 0x30f ?_;refine au 0x30f ?_;refine au 0x30f ?_;refine au 0x30f ?_;refine au 0x30f ?_;refine au 0x30f ?_;refine au 0x30f ?_;refine yv [_,_,_] I I call136 (Cw e f H oo oo oo oo oo oo) ?_;have B:=Ga e f H;refine yv [_,_,_] I I call136 (Cw a e H oo oo oo oo oo oo) ?_;have A:=Ga a e H;refine yv [_,_,_] I I call136 (Cw a f e oo oo oo oo oo oo) ?_;have z:=Ga a f e;refine yp I (.build [(_,_),(_,_),(_,_)] I<|KQ _ _ _ _ _ _ _ _ _ _ _ _ _ _ _) (yz I QL λE=>stV I I I Ba ?_);refine au 0x824311a ?_;refine lpR 4<|rdS<|au 0x1254318171e128e31 ?_;refine yF [0,1,2,3,4,5,6,7,8,9,10]<|au 0xebf4cf9 ?_;refine au 0xce ?_;refine yv [_,_] I I call85 (D7 (twP e f H) (twP a f H) hT oo oo) ?_;have i:=Yl (twP e f H) (twP a f H);refine au 0x9e9e9 ?_;refine yz I Xc λk=>stV I I I Zl ?_;refine au 0x6e437c2d0f4311a4e ?_;refine zp (.indexAddr I I<|FR _ _)<|stW I I X8 ?_;refine au 0x2452f32 ?_;intro D w h;replace h:St 51 S w0 [(8,pB j),(9,.int .i64 0),(10,pB g),(11,pB E),(32,.int .i64 1),(33,.bool true),(44,.bool false)] [(E,bV (Pv (((twP e f H)/(twP a f H),twP a e H,twP a f e))) 48),(g,bV (Qa (twP a f H)) 47),(j,bV (Pv ((0,0,0))) 48),(q,bV (Ez e.1 e.2) 106),(o,bV (Ez H.1 H.2) 106),(m,bV (Ez f.1 f.2) 106),(u,bV (Ez a.1 a.2) 106)] [] D w:=by exact tO h
 refine Zk ?_;refine gC h<|au 0x1254318171e128e31 ?_;refine yF [0,1,2,3,4,5,6,7,8,9,10]<|au 0xdbf3cf9 ?_;clear h;refine au 0xce ?_;refine yv [_,_] I I call85 (D7 (twP a e H) (twP a f H) hT oo oo) ?_;have i:=Yl (twP a e H) (twP a f H);refine au 0x9e9e9 ?_;refine yz I Xc λk=>stV I I I Zl ?_;refine au 0x7af6e437c2d0f4311a4e ?_;refine stW I I X7 ?_;refine au 0x2450f32 ?_;intro D w h;replace h:St 51 S w0 [(8,pB j),(9,.int .i64 0),(10,pB g),(11,pB E),(32,.int .i64 2),(33,.bool true),(44,.bool false)] [(E,bV (Pv (((twP e f H)/(twP a f H),(twP a e H)/(twP a f H),twP a f e))) 48),(g,bV (Qa (twP a f H)) 47),(j,bV (Pv ((0,0,0))) 48),(q,bV (Ez e.1 e.2) 106),(o,bV (Ez H.1 H.2) 106),(m,bV (Ez f.1 f.2) 106),(u,bV (Ez a.1 a.2) 106)] [] D w:=by exact tO h
 refine Zk ?_;refine gC h<|au 0x1254318171e128e31 ?_;refine yF [0,1,2,3,4,5,6,7,8,9,10]<|au 0x9 ?_;refine yp I (.indexAddr I I<|FQ _ _)<|ldY Cj ?_;clear h;refine au 0xce ?_;refine yv [_,_] I I call85 (D7 (twP a f e) (twP a f H) hT oo oo) ?_;have i:=Yl (twP a f e) (twP a f H);refine au 0x9e9e9 ?_;refine yz I Xc λk=>stV I I I Zl ?_;refine au 0x67f6e437c2d0f4311a4e ?_;refine stW I I VF ?_;refine au 0x2490f32 ?_;intro D w h;replace h:St 51 S w0 [(8,pB j),(9,.int .i64 0),(10,pB g),(11,pB E),(32,.int .i64 3),(33,.bool true),(44,.bool false)] [(E,bV (Pv (((twP e f H)/(twP a f H),(twP a e H)/(twP a f H),(twP a f e)/(twP a f H)))) 48),(g,bV (Qa (twP a f H)) 47),(j,bV (Pv ((0,0,0))) 48),(q,bV (Ez e.1 e.2) 106),(o,bV (Ez H.1 H.2) 106),(m,bV (Ez f.1 f.2) 106),(u,bV (Ez a.1 a.2) 106)] [] D w:=by exact tO h
 refine Zk ?_;refine gC h<|au 0x310ec1260f31 ?_;refine ldZ Ak ?_;refine stW I I Ba ?_;refine au 0x625 ?_;clear h;intro D w h;refine Xh h (Qd h I (rC Ak)<|.tmp I) ?_;rfl
theorem eO(u:Zr a.1<=10000000)(t:Zr a.2<=10000000)(r:Zr f.1<=10000000)(v:Zr f.2<=10000000)(x:Zr H.1<=10000000)(p:Zr H.2<=10000000)(hT:twP a f H≠0): Jk prog 161 [encPt a,encPt f,encPt H] (.tuple #[Kr (Xb a f H).1 (Xb a f H).2.1 (Xb a f H).2.2,.int .i64 0]):=by
 refine fnI func161 I ntmps161 λS w0 A=>zS (zx I λs=>zx I λy=>zx I λq=>zz Lc λl=>au 0x7e7e7e3125 ?_);refine zv [_,_,_] I call136 (Cw a f H oo oo oo oo oo oo) ?_;have z:=Ga a f H;refine zz Xc λn=>stW I I Zl ?_;refine au 0xaeb1f6e3112 ?_;intro B w h;refine Zi h (λj h=>(by exfalso;exact hT<|sgn0 (by simpa using j))) (λj h=>?_);refine wpList_nil<|cW<|Zj h I<|gC h<|zk<|zS (zz Lc λm=>au 0x7e7e7e312 ?_);refine zp (.build [(_,_),(_,_),(_,_)] I<|D4 _ _ _ _ _ _ _ _ _ _ _ _ _ _ _ _ _ _ _ _ _ _ _ _ _ _ _ _ _ _) (zz Lc λC=>stW I I Gj ?_);refine au 0x8243112 ?_;refine lpR 4<|rdS<|au 0x1254318171e128e31 ?_;refine yF [0,1,2,3,4,5,6,7,8,9,10,11,12]<|au 0xc6f55f96f17f9 ?_;clear h;refine au 0xd6f65fa6ff9f9 ?_;refine yv [_,_] I I call104 (C7 H f oo oo oo oo) ?_;have e:=Yb H f;have e:=Ya H f;refine yz I Xe λo=>stV I I I Zv ?_;refine yn<|zs<|yE [0,1,2,4,3,5,6,7,8,9,10,11]<|au 0xe2fe3f9 ?_;refine au 0xce ?_;refine au 0xccf ?_;have k:=En ((Vv H f).2);refine yv [_,_] I I call85 (D7 (-((Vv H f).2)) (twP a f H) hT oo oo) ?_;have i:=Yl (-((Vv H f).2)) (twP a f H);refine au 0xf3f75f9e9e9 ?_;refine stV I I I X3 ?_;refine au 0x6e04f79f43a ?_;refine zv [_,_] I call85 (D7 ((Vv H f).1) (twP a f H) hT oo oo) ?_;have g:=Yl ((Vv H f).1) (twP a f H);refine au 0xbb4 ?_;refine zp (.indexAddr I I<|Cq _ _)<|au 0x69f ?_;refine stW I I X2 ?_;refine au 0x2452f32 ?_;intro B w h;replace h:St 62 S w0 [(6,pB l),(7,.int .i64 0),(8,pB n),(9,pB m),(10,pB C),(25,.int .i64 1),(26,.bool true)] [(C,bV (Kr a f H) 107),(m,bV (Kr (((-((Vv H f).2))/(twP a f H),((Vv H f).1)/(twP a f H))) (0,0) (0,0)) 107),(n,bV (Qa (twP a f H)) 47),(l,bV (Kr (0,0) (0,0) (0,0)) 107),(q,bV (Ez H.1 H.2) 106),(y,bV (Ez f.1 f.2) 106),(s,bV (Ez a.1 a.2) 106)] [] B w:=by exact tO h
 refine Zk ?_;refine gC h<|au 0x1254318171e128e31 ?_;refine yF [0,1,2,3,4,5,6,7,8,9,10,11,12]<|au 0xe6f75fb6f07f9 ?_;clear h;refine au 0xc6f55f96f17f9 ?_;refine yv [_,_] I I call104 (C7 a H oo oo oo oo) ?_;have e:=Yb a H;have e:=Ya a H;refine yz I Xe λo=>stV I I I Zv ?_;refine yn<|zs<|yE [0,1,2,4,3,5,6,7,8,9,10,11]<|au 0xe2fe3f9 ?_;refine au 0xce ?_;refine au 0xccf ?_;have k:=En ((Vv a H).2);refine yv [_,_] I I call85 (D7 (-((Vv a H).2)) (twP a f H) hT oo oo) ?_;have i:=Yl (-((Vv a H).2)) (twP a f H);refine au 0xf3f65f9e9e9 ?_;refine stV I I I VD ?_;refine au 0x6e04f79f43a ?_;refine zv [_,_] I call85 (D7 ((Vv a H).1) (twP a f H) hT oo oo) ?_;have g:=Yl ((Vv a H).1) (twP a f H);refine au 0xbb4 ?_;refine zp (.indexAddr I I<|Cp _ _)<|au 0x69f ?_;refine stW I I VC ?_;refine au 0x2450f32 ?_;intro B w h;replace h:St 62 S w0 [(6,pB l),(7,.int .i64 0),(8,pB n),(9,pB m),(10,pB C),(25,.int .i64 2),(26,.bool true)] [(C,bV (Kr a f H) 107),(m,bV (Kr (((-((Vv H f).2))/(twP a f H),((Vv H f).1)/(twP a f H))) (((-((Vv a H).2))/(twP a f H),((Vv a H).1)/(twP a f H))) (0,0)) 107),(n,bV (Qa (twP a f H)) 47),(l,bV (Kr (0,0) (0,0) (0,0)) 107),(q,bV (Ez H.1 H.2) 106),(y,bV (Ez f.1 f.2) 106),(s,bV (Ez a.1 a.2) 106)] [] B w:=by exact tO h
 refine Zk ?_;refine gC h<|au 0x1254318171e128e31 ?_;refine yF [0,1,2,3,4,5,6,7,8,9,10,11,12]<|au 0x9 ?_;refine yp I (aq (v':=.int .i64 4) (.add I I) cgd)<|au 0xd6f65fa6f ?_;clear h;refine au 0xe6f75fb6f07f9 ?_;refine yv [_,_] I I call104 (C7 f a oo oo oo oo) ?_;have e:=Yb f a;have e:=Ya f a;refine yz I Xe λo=>stV I I I Zv ?_;refine yn<|zs<|yE [0,1,2,4,3,5,6,7,8,9,10,11]<|au 0xe2fe3f9 ?_;refine au 0xce ?_;refine au 0xccf ?_;have k:=En ((Vv f a).2);refine yv [_,_] I I call85 (D7 (-((Vv f a).2)) (twP a f H) hT oo oo) ?_;have i:=Yl (-((Vv f a).2)) (twP a f H);refine au 0xf3f55f9e9e9 ?_;refine stV I I I VB ?_;refine au 0x6e04f79f43a ?_;refine zv [_,_] I call85 (D7 ((Vv f a).1) (twP a f H) hT oo oo) ?_;have g:=Yl ((Vv f a).1) (twP a f H);refine au 0xbb4 ?_;refine zp (.indexAddr I I<|Co _ _)<|au 0x69f ?_;refine stW I I VA ?_;refine au 0x2490f32 ?_;intro B w h;replace h:St 62 S w0 [(6,pB l),(7,.int .i64 0),(8,pB n),(9,pB m),(10,pB C),(25,.int .i64 3),(26,.bool true)] [(C,bV (Kr a f H) 107),(m,bV (Kr (((-((Vv H f).2))/(twP a f H),((Vv H f).1)/(twP a f H))) (((-((Vv a H).2))/(twP a f H),((Vv a H).1)/(twP a f H))) (((-((Vv f a).2))/(twP a f H),((Vv f a).1)/(twP a f H)))) 107),(n,bV (Qa (twP a f H)) 47),(l,bV (Kr (0,0) (0,0) (0,0)) 107),(q,bV (Ez H.1 H.2) 106),(y,bV (Ez f.1 f.2) 106),(s,bV (Ez a.1 a.2) 106)] [] B w:=by exact tO h
 refine Zk ?_;refine gC h<|au 0x5bf310ec1260f31 ?_;refine stW I I Gj ?_;refine au 0x625 ?_;clear h;intro B w h;refine Xh h (Qd h I (rC Bc)<|.tmp I) ?_;rfl
theorem qj(h:e6<3): RN (Instr.indexAt 133 (.pointer (some ⟨o,K,none⟩)) (.int .i64 (e6:Int))) (.pointer (some ⟨o,K+e6,none⟩)):=λw=>by simpa using E1 runUnderlying133 sizeOf3 o K e6 h w
theorem AO: RN (Instr.indexAt 133 (.pointer (some ⟨o,K,none⟩)) (.int .i64 0)) (.pointer (some ⟨o,K+0,none⟩)):=λw=>by
 simp[go_sem,Instr.indexAt]
theorem Vi: RN (Instr.indexAt 133 (.pointer (some ⟨o,K,none⟩)) (.int .i64 1)) (.pointer (some ⟨o,K+1,none⟩)):=λw=>by
 simp[go_sem,Instr.indexAt]
theorem Vh: RN (Instr.indexAt 133 (.pointer (some ⟨o,K,none⟩)) (.int .i64 2)) (.pointer (some ⟨o,K+2,none⟩)):=λw=>by
 simp[go_sem,Instr.indexAt]
theorem La: RN (Instr.build 250 [(0,.int .i64 e7),(1,.int .i64 o0),(2,.int .i64 o1),(3,.agg #[b3,b4,b5,b6,b7])].toArray) (.agg #[.int .i64 e7,.int .i64 o0,.int .i64 o1,b3,b4,b5,b6,b7]):=λw=>by simp[go_sem]
theorem S4: Zp #[L,N,O,g,A,y,z,w] 0 [u,h,p,e,P,t,Q,R]=#[u,h,p,e,P,t,Q,R]:=by kernel_rfl
theorem iy: Zm true 8 #[L,N,O,g,A,y,z,w] 0=some (.agg #[L,N,O,g,A,y,z,w]):=rfl
theorem Ji: (Instr.buildSlice 61 1 [(0,.int .i64 e7)].toArray).run prog J=.ok (.slice (some ⟨J.heap.size,0,none⟩) 1 1) (J.alloc (.cells #[.int .i64 e7] 3 (0,0))):=by
 simp[go_sem]
theorem Bi: (Instr.buildSlice 246 1 [(0,.agg #[b3,b4,b5,b6,b7,b8,b9,c3])].toArray).run prog J=.ok (.slice (some ⟨J.heap.size,0,none⟩) 1 1) (J.alloc (.cells #[b3,b4,b5,b6,b7,b8,b9,c3] 250 (0,0))):=by
 simp[go_sem]
theorem D2: (Instr.buildSlice 246 2 [(0,.agg #[b3,b4,b5,b6,b7,b8,b9,c3]),(1,.agg #[c5,c6,c9,e0,e1,e2,e3,h0])].toArray).run prog J=.ok (.slice (some ⟨J.heap.size,0,none⟩) 2 2) (J.alloc (.cells #[b3,b4,b5,b6,b7,b8,b9,c3,c5,c6,c9,e0,e1,e2,e3,h0] 250 (0,0))):=by
 simp[go_sem]
theorem bC: RN (Instr.indexAt 317 (.pointer (some ⟨o,K,none⟩)) (.int .i64 0)) (.pointer (some ⟨o,K+0,none⟩)):=λw=>by
 simp[go_sem,Instr.indexAt]
theorem bK: RN (Instr.indexAt 130 (.pointer (some ⟨o,K,none⟩)) (.int .i64 0)) (.pointer (some ⟨o,K+0,none⟩)):=λw=>by
 simp[go_sem,Instr.indexAt]
theorem bJ: RN (Instr.indexAt 130 (.pointer (some ⟨o,K,none⟩)) (.int .i64 1)) (.pointer (some ⟨o,K+1,none⟩)):=λw=>by
 simp[go_sem,Instr.indexAt]
theorem bB: RN (Instr.indexAt 317 (.pointer (some ⟨o,K,none⟩)) (.int .i64 1)) (.pointer (some ⟨o,K+2,none⟩)):=λw=>by
 simp[go_sem,Instr.indexAt]
theorem bz: RN (Instr.indexAt 317 (.pointer (some ⟨o,K,none⟩)) (.int .i64 2)) (.pointer (some ⟨o,K+4,none⟩)):=λw=>by
 simp[go_sem,Instr.indexAt]
def pw0:Pw:=⟨0,0,0,0⟩
abbrev Kk(p:Pw): Value:=.agg #[.int .i64 ((p.i:Nat):Int),.int .i64 ((p.j:Nat):Int),.int .i64 ((p.k:Nat):Int),.int .u64 (Yk p.c.num.natAbs),.string (Xr p.c.num.natAbs),.bool (decide (p.c.num<0)),.int .u64 (Yk (p.c.den-1)),.string (Xr (p.c.den-1))]
theorem lZ: (zeroValue 250).run prog J=.ok (Kk pw0) J:=zeroValue250 J
theorem Bj: (zeroValue 133).run prog J=.ok (.agg #[.int .i64 ((0:Nat):Int),.int .i64 ((0:Nat):Int),.int .i64 ((0:Nat):Int)]) J:=zeroValue133 J
def OkPw(l:List Pw): Prop:=l.length<=10 /\ ∀x∈l,x.i<=4/\x.j<=4/\x.k<=4/\Zr x.c<=100
theorem OkPw.slp{l:List Pw}(h:∀x∈l,x.i<=4/\x.j<=4/\x.k<=4/\Zr x.c<=50)(hl:l.length<=10)(b:Nat): OkPw (slp b l):=by
 refine⟨?_,λx hx=>?_⟩
 ·unfold YtdadideknhmbbaaGreatDoor.slp;rw[az];exact bp (nk _ _) hl
 unfold YtdadideknhmbbaaGreatDoor.slp at hx;obtain ⟨y,d,rfl⟩:=List.mem_map.1 hx;obtain ⟨h1,a,f,e⟩:=h y (List.mem_filter.1 d).1;have c:=λn (g:n<=4)=>bp (Qh y.c (((n:Nat):Int):Rat)) (Nat.add_le_add e (Qe ((n:Nat):Int) oo oo))
 match b with
 | 0=>exact⟨by simp only[dnP];omega,by simp only[dnP];omega,by simp only[dnP];omega,bp (c y.i h1) dd⟩
 | 1=>exact⟨by simp only[dnP];omega,by simp only[dnP];omega,by simp only[dnP];omega,bp (c y.j a) dd⟩
 | _+2=>exact⟨by simp only[dnP];omega,by simp only[dnP];omega,by simp only[dnP];omega,bp (c y.k f) dd⟩
theorem fM:Jk prog 163 [.int .i64 1] (.int .i64 3):=by
 refine fnI func163 I ntmps163 λS w0 a=>au 0x625311e2513f318243112531 ?_;refine rtK I
theorem fL:Jk prog 163 [.int .i64 2] (.int .i64 6):=by
 refine fnI func163 I ntmps163 λS w0 a=>au 0x625311e2513f31c25b4f318243112531 ?_;refine rtK I
theorem N5(e:o<3): Jk prog 250 [.int .i64 1,.int .i64 ((o:Nat):Int)] (.bool true):=by
 refine fnI func250 I ntmps250 λS w0 d=>au 0x00f4312531 ?_;refine bbT (λc=>(by exfalso;have:=of_decide_eq_false c;omega)) λc=>au 0xf7ff7f4 ?_;intro a w h;refine Zq 7 h I I<|Xn h (vs:=[_]) I call163 (fM) dd ?_;clear h;intro a w h;refine gL h<|au 0x4bf ?_;refine bbT (λb=>(by exfalso;have:=of_decide_eq_false b;omega)) λb=>au 0x6253e ?_;refine rtK I
theorem EG(e:o<6): Jk prog 250 [.int .i64 2,.int .i64 ((o:Nat):Int)] (.bool true):=by
 refine fnI func250 I ntmps250 λS w0 d=>au 0x00f4312531 ?_;refine bbT (λc=>(by exfalso;have:=of_decide_eq_false c;omega)) λc=>au 0xf7ff7f4 ?_;intro a w h;refine Zq 7 h I I<|Xn h (vs:=[_]) I call163 (fL) dd ?_;clear h;intro a w h;refine gL h<|au 0x4bf ?_;refine bbT (λb=>(by exfalso;have:=of_decide_eq_false b;omega)) λb=>au 0x6253e ?_;refine rtK I
theorem U5(h:B<e8.length): e8.take (B+1)=e8.take B++[e8.getD B 0]:=by rw[xa,List.getElem?_eq_getElem h];simp[List.getD,h]
def cnt3(l:List Nat): List Nat:=[l.count 0,l.count 1,l.count 2]
theorem dW(h:B<e8.length)(a:e8.getD B 0<3): (cnt3 (e8.take B)).set (e8.getD B 0) ((cnt3 (e8.take B)).getD (e8.getD B 0) 0+1)=cnt3 (e8.take (B+1)):=by
 rw[U5 e8 h];generalize e8.getD B 0=x at a;have hx:x=0\/x=1\/x=2:=oo;unfold cnt3;rcases hx with rfl|rfl|rfl<;>simp[vQ]
theorem AY(hl:∀x∈e8,x<3)(C:e8.length<=10)(B:-1000<=e7)(h1:e7<=1000): Xi prog 251 [.int .i64 e7,.slice e9 e8.length o] [Row e9 (List.map Qb e8)] (Kk (EV e7 e8)):=by
 refine fnI func251 I ntmps251 λS w0 D=>zS (zz lZ λv=>zn<|zS (zz Bj λr=>au 0x82420f43112 ?_));intro a w h;have A:cnt3 []=[0,0,0]:=rfl;refine lpG h [0,4,5,8,9] pkL (λY Z (i:Nat) a w=>i<=e8.length/\St 29 S w0 ((10,nI i)::Y) [(r,.cells (List.map Qb<|cnt3<|e8.take i).toArray 133 (0,0)),(v,bV (Kk<|pw0) 250)] Z a w) (λi=>e8.length-i) 0 (⟨cX _,by exact(h).sub sA⟩) ?_;clear h;rintro i a w ⟨E,h⟩;refine gC h<|au 0x12d31 ?_;intro a w h;refine Zb h I (λf=>?_) (λf=>?_)
 ·have b:i<e8.length:=dT f;obtain ⟨q,p,rfl⟩:=h.row_addr (ad:=e9) (M:=List.map Qb e8) mm nF;have j:=hl _ (getD_mem e8 (d:=0) b);have t:(cnt3 (e8.take i)).getD (e8.getD i 0) 0<=10:=by
   have ht:(e8.take i).length<=10:=by rw[db];omega
   have k:=λx=>bp (List.count_le_length (a:=x) (l:=e8.take i)) ht;have hx:e8.getD i 0=0\/e8.getD i 0=1\/e8.getD i 0=2:=oo;unfold cnt3;rcases hx with e|e|e<;>rw[e]<;>first|exact k 0|exact k 1|exact k 2
  have y:(cnt3 (e8.take i)).length=3:=rfl;have u:e8[i]?.getD 0<3:=by simpa [List.getD] using j
  refine gC h<|au 0xe0f31817 ?_;refine zD I mm (by rw[az];omega) isAgg3 sizeOf3 (Zn (enc:=Qb) (l:=e8) 0 oo) (.inr I) ?_;refine au 0xbbf4325 ?_;refine zd I mm isAgg3 sizeOf3 ((congrArg _<|ca _).trans<|Zn (enc:=Qb) (l:=(cnt3<|e8.take i)) 0 (by show _<3;omega)) ?_;refine zp (.pN (((cnt3<|e8.take i).getD (e8.getD i 0) 0)+1)<|.add I I)<|au 0xbbf ?_;refine zt' I I ((congrArg (λz=>Zp _ z _)<|ca _).trans<|Jc (enc:=Qb) (cnt3<|e8.take i) (e8.getD i 0) (((cnt3<|e8.take i).getD (e8.getD i 0) 0)+1)) uu sizeOf3 I (by simp;show _<3;omega) I ?_;refine zn<|zr<|zp (.pN (i+1)<|.add I I)<|au 0x24 ?_;clear h;intro a w h;rw[dW e8 b j] at h;exact⟨i+1,⟨oo,tO h⟩,oo⟩
 have g:e8.length=i:=dF f;subst g;rw[w9] at h;have n:(cnt3 e8).length=3:=rfl;refine gC h<|ze<|zs<|yE [0,1,2,3,4,5,6,7,8,9]<|au 0xc3f ?_;refine yd I I mm isAgg3 sizeOf3 ((congrArg _<|ca _).trans<|Zn (enc:=Qb) (l:=(cnt3<|e8)) 0 oo) ?_;clear h;refine au 0xb3f ?_;refine yd I I mm isAgg3 sizeOf3 ((congrArg _<|ca _).trans<|Zn (enc:=Qb) (l:=(cnt3<|e8)) 0 oo) ?_;refine au 0xa3f ?_;refine yd I I mm isAgg3 sizeOf3 ((congrArg _<|ca _).trans<|Zn (enc:=Qb) (l:=(cnt3<|e8)) 0 oo) ?_;refine au 0xe9f9 ?_;have m:=Qe (e7) oo oo;refine yp I (.build [(_,_),(_,_),(_,_),(_,_)] I<|La _ _ _ _ _ _ _ _)<|stV I I I S4 ?_;refine yn<|zt ?_;intro a w h;refine Xh h (Zd h I<|rC iy) ?_;rfl
abbrev SideF:Zs:=Row (some ⟨0,0,none⟩) [.int .i64 1,.int .i64 2,.int .i64 2,.int .i64 0,.int .i64 0,.int .i64 1]
theorem WZ:Ctr prog 164 [.int .i64 1,.int .i64 0] [SideF] (λv Ψ => ∃c f,v=.tuple #[.slice c (Yi 1 0).length f,.int .i64 0]/\Ψ=[Row c (cellsOf Kk (Yi 1 0))]):=by
 refine fnI func164 I ntmps164 λS w0 d=>au 0x44318125531 ?_;refine zv [_,_] I call250 (N5 0 dd)<|au 0x4311e2513f431c25a1f ?_;refine zB [(_,_)] I (Ji _) λe=>?_;intro a w h;replace h:=h.shareAll d (List.map Qb ([0])) I;refine gL h<|zw [_,_] I call251 (AY 1 [0] _ _ dd dd dd dd) (zB [(_,_)] I (Bi _ _ _ _ _ _ _ _) λb=>?_);clear h;intro a w h;replace h:=h.shareAll d (cellsOf Kk ([EV 1 [0]])) I;refine gL h<|au 0x6255 ?_;clear h;intro a w h;refine Qj (Ψ:=[Row (some ⟨b,0,none⟩) (cellsOf Kk [EV 1 [0]])]) h (Qd h I (.tmp I)<|.tmp I) ?_ ss;exact⟨some ⟨b,0,none⟩,1,rfl,rfl⟩
theorem WY:Ctr prog 164 [.int .i64 1,.int .i64 1] [SideF] (λv Ψ => ∃c f,v=.tuple #[.slice c (Yi 1 1).length f,.int .i64 0]/\Ψ=[Row c (cellsOf Kk (Yi 1 1))]):=by
 refine fnI func164 I ntmps164 λS w0 d=>au 0x44318125531 ?_;refine zv [_,_] I call250 (N5 1 dd)<|au 0x4311e2513f431c25a1f ?_;refine zB [(_,_)] I (Ji _) λe=>?_;intro a w h;replace h:=h.shareAll d (List.map Qb ([1])) I;refine gL h<|zw [_,_] I call251 (AY 1 [1] _ _ dd dd dd dd) (zB [(_,_)] I (Bi _ _ _ _ _ _ _ _) λb=>?_);clear h;intro a w h;replace h:=h.shareAll d (cellsOf Kk ([EV 1 [1]])) I;refine gL h<|au 0x6255 ?_;clear h;intro a w h;refine Qj (Ψ:=[Row (some ⟨b,0,none⟩) (cellsOf Kk [EV 1 [1]])]) h (Qd h I (.tmp I)<|.tmp I) ?_ ss;exact⟨some ⟨b,0,none⟩,1,rfl,rfl⟩
theorem WX:Ctr prog 164 [.int .i64 1,.int .i64 2] [SideF] (λv Ψ => ∃c f,v=.tuple #[.slice c (Yi 1 2).length f,.int .i64 0]/\Ψ=[Row c (cellsOf Kk (Yi 1 2))]):=by
 refine fnI func164 I ntmps164 λS w0 d=>au 0x44318125531 ?_;refine zv [_,_] I call250 (N5 2 dd)<|au 0x4311e2513f431c25a1f ?_;refine zB [(_,_)] I (Ji _) λe=>?_;intro a w h;replace h:=h.shareAll d (List.map Qb ([2])) I;refine gL h<|zw [_,_] I call251 (AY 1 [2] _ _ dd dd dd dd) (zB [(_,_)] I (Bi _ _ _ _ _ _ _ _) λb=>?_);clear h;intro a w h;replace h:=h.shareAll d (cellsOf Kk ([EV 1 [2]])) I;refine gL h<|au 0x6255 ?_;clear h;intro a w h;refine Qj (Ψ:=[Row (some ⟨b,0,none⟩) (cellsOf Kk [EV 1 [2]])]) h (Qd h I (.tmp I)<|.tmp I) ?_ ss;exact⟨some ⟨b,0,none⟩,1,rfl,rfl⟩
theorem WW:Ctr prog 164 [.int .i64 2,.int .i64 0] [SideF] (λv Ψ => ∃c f,v=.tuple #[.slice c (Yi 2 0).length f,.int .i64 0]/\Ψ=[Row c (cellsOf Kk (Yi 2 0))]):=by
 refine fnI func164 I ntmps164 λS w0 d=>au 0x44318125531 ?_;refine zv [_,_] I call250 (EG 0 dd)<|au 0x44311e258e431c25b4f431c25a1f ?_;refine zB [(_,_),(_,_)] I (Xa _ _) λe=>?_;intro a w h;replace h:=h.shareAll d (List.map Qb ([0,0])) I;refine gL h<|zw [_,_] I call251 (AY 2 [0,0] _ _ dd dd dd dd)<|zm I (zB [(_,_)] I (Ji _) λg=>?_);clear h;intro a w h;replace h:=h.shareAll d (List.map Qb ([0])) I;refine gL h<|zw [_,_] I call251 (AY (-1) [0] _ _ dd dd dd dd) (zB [(_,_),(_,_)] I (D2 _ _ _ _ _ _ _ _ _ _ _ _ _ _ _ _) λb=>?_);clear h;intro a w h;replace h:=h.shareAll d (cellsOf Kk ([EV 2 [0,0],EV (-1) [0]])) I;refine gL h<|au 0x6255 ?_;clear h;intro a w h;refine Qj (Ψ:=[Row (some ⟨b,0,none⟩) (cellsOf Kk [EV 2 [0,0],EV (-1) [0]])]) h (Qd h I (.tmp I)<|.tmp I) ?_ ss;exact⟨some ⟨b,0,none⟩,2,rfl,rfl⟩
theorem WV:Ctr prog 164 [.int .i64 2,.int .i64 1] [SideF] (λv Ψ => ∃c f,v=.tuple #[.slice c (Yi 2 1).length f,.int .i64 0]/\Ψ=[Row c (cellsOf Kk (Yi 2 1))]):=by
 refine fnI func164 I ntmps164 λS w0 d=>au 0x44318125531 ?_;refine zv [_,_] I call250 (EG 1 dd)<|au 0x44311e258e431c25b4f431c25a1f ?_;refine zB [(_,_),(_,_)] I (Xa _ _) λe=>?_;intro a w h;replace h:=h.shareAll d (List.map Qb ([1,1])) I;refine gL h<|zw [_,_] I call251 (AY 2 [1,1] _ _ dd dd dd dd)<|zm I (zB [(_,_)] I (Ji _) λg=>?_);clear h;intro a w h;replace h:=h.shareAll d (List.map Qb ([1])) I;refine gL h<|zw [_,_] I call251 (AY (-1) [1] _ _ dd dd dd dd) (zB [(_,_),(_,_)] I (D2 _ _ _ _ _ _ _ _ _ _ _ _ _ _ _ _) λb=>?_);clear h;intro a w h;replace h:=h.shareAll d (cellsOf Kk ([EV 2 [1,1],EV (-1) [1]])) I;refine gL h<|au 0x6255 ?_;clear h;intro a w h;refine Qj (Ψ:=[Row (some ⟨b,0,none⟩) (cellsOf Kk [EV 2 [1,1],EV (-1) [1]])]) h (Qd h I (.tmp I)<|.tmp I) ?_ ss;exact⟨some ⟨b,0,none⟩,2,rfl,rfl⟩
theorem WU:Ctr prog 164 [.int .i64 2,.int .i64 2] [SideF] (λv Ψ => ∃c f,v=.tuple #[.slice c (Yi 2 2).length f,.int .i64 0]/\Ψ=[Row c (cellsOf Kk (Yi 2 2))]):=by
 refine fnI func164 I ntmps164 λS w0 d=>au 0x44318125531 ?_;refine zv [_,_] I call250 (EG 2 dd)<|au 0x44311e258e431c25b4f431c25a1f ?_;refine zB [(_,_),(_,_)] I (Xa _ _) λe=>?_;intro a w h;replace h:=h.shareAll d (List.map Qb ([2,2])) I;refine gL h<|zw [_,_] I call251 (AY 2 [2,2] _ _ dd dd dd dd)<|zm I (zB [(_,_)] I (Ji _) λg=>?_);clear h;intro a w h;replace h:=h.shareAll d (List.map Qb ([2])) I;refine gL h<|zw [_,_] I call251 (AY (-1) [2] _ _ dd dd dd dd) (zB [(_,_),(_,_)] I (D2 _ _ _ _ _ _ _ _ _ _ _ _ _ _ _ _) λb=>?_);clear h;intro a w h;replace h:=h.shareAll d (cellsOf Kk ([EV 2 [2,2],EV (-1) [2]])) I;refine gL h<|au 0x6255 ?_;clear h;intro a w h;refine Qj (Ψ:=[Row (some ⟨b,0,none⟩) (cellsOf Kk [EV 2 [2,2],EV (-1) [2]])]) h (Qd h I (.tmp I)<|.tmp I) ?_ ss;exact⟨some ⟨b,0,none⟩,2,rfl,rfl⟩
theorem WT:Ctr prog 164 [.int .i64 2,.int .i64 3] [SideF] (λv Ψ => ∃c g,v=.tuple #[.slice c (Yi 2 3).length g,.int .i64 0]/\Ψ=[Row c (cellsOf Kk (Yi 2 3))]):=by
 refine fnI func164 I ntmps164 λS w0 e=>au 0x44318125531 ?_;refine zv [_,_] I call250 (EG 3 dd)<|au 0x4317c2560f431c25b4f431c25a1f ?_;refine zp (aq (v':=.int .i64 0) (.sub I I) cgd)<|zp (.indexAddr I I<|bC _ _)<|zD (b:=0) (off:=0) (j:=0) (M:=[.int .i64 1,.int .i64 2,.int .i64 2,.int .i64 0,.int .i64 0,.int .i64 1]) (v:=.agg #[.int .i64 1,.int .i64 2]) I ae dd isAgg130 sizeOf130 I (.inl I) ?_;refine zz zeroValue130 λi=>stW I I Zt ?_;refine au 0xd1f29f01f39f312 ?_;refine zB [(_,_),(_,_)] I (Xa _ _) λf=>?_;intro a w h;replace h:=h.shareAll e (List.map Qb ([1,2])) I;refine gL h<|zw [_,_] I call251 (AY 4 [1,2] _ _ dd dd dd dd) (zB [(_,_)] I (Bi _ _ _ _ _ _ _ _) λd=>?_);clear h;intro a w h;replace h:=h.shareAll e (cellsOf Kk ([EV 4 [1,2]])) I;refine gL h<|au 0x6255 ?_;clear h;intro a w h;refine Qj (Ψ:=[Row (some ⟨d,0,none⟩) (cellsOf Kk [EV 4 [1,2]])]) h (Qd h I (.tmp I)<|.tmp I) ?_ ss;exact⟨some ⟨d,0,none⟩,1,rfl,rfl⟩
theorem WS:Ctr prog 164 [.int .i64 2,.int .i64 4] [SideF] (λv Ψ => ∃c g,v=.tuple #[.slice c (Yi 2 4).length g,.int .i64 0]/\Ψ=[Row c (cellsOf Kk (Yi 2 4))]):=by
 refine fnI func164 I ntmps164 λS w0 e=>au 0x44318125531 ?_;refine zv [_,_] I call250 (EG 4 dd)<|au 0x4317c2560f431c25b4f431c25a1f ?_;refine zp (aq (v':=.int .i64 1) (.sub I I) cgd)<|zp (.indexAddr I I<|bB _ _)<|zD (b:=0) (off:=0) (j:=2) (M:=[.int .i64 1,.int .i64 2,.int .i64 2,.int .i64 0,.int .i64 0,.int .i64 1]) (v:=.agg #[.int .i64 2,.int .i64 0]) I ae dd isAgg130 sizeOf130 I (.inl I) ?_;refine zz zeroValue130 λi=>stW I I Zt ?_;refine au 0xd1f29f01f39f312 ?_;refine zB [(_,_),(_,_)] I (Xa _ _) λf=>?_;intro a w h;replace h:=h.shareAll e (List.map Qb ([2,0])) I;refine gL h<|zw [_,_] I call251 (AY 4 [2,0] _ _ dd dd dd dd) (zB [(_,_)] I (Bi _ _ _ _ _ _ _ _) λd=>?_);clear h;intro a w h;replace h:=h.shareAll e (cellsOf Kk ([EV 4 [2,0]])) I;refine gL h<|au 0x6255 ?_;clear h;intro a w h;refine Qj (Ψ:=[Row (some ⟨d,0,none⟩) (cellsOf Kk [EV 4 [2,0]])]) h (Qd h I (.tmp I)<|.tmp I) ?_ ss;exact⟨some ⟨d,0,none⟩,1,rfl,rfl⟩
theorem WR:Ctr prog 164 [.int .i64 2,.int .i64 5] [SideF] (λv Ψ => ∃c g,v=.tuple #[.slice c (Yi 2 5).length g,.int .i64 0]/\Ψ=[Row c (cellsOf Kk (Yi 2 5))]):=by
 refine fnI func164 I ntmps164 λS w0 e=>au 0x44318125531 ?_;refine zv [_,_] I call250 (EG 5 dd)<|au 0x4317c2560f431c25b4f431c25a1f ?_;refine zp (aq (v':=.int .i64 2) (.sub I I) cgd)<|zp (.indexAddr I I<|bz _ _)<|zD (b:=0) (off:=0) (j:=4) (M:=[.int .i64 1,.int .i64 2,.int .i64 2,.int .i64 0,.int .i64 0,.int .i64 1]) (v:=.agg #[.int .i64 0,.int .i64 1]) I ae dd isAgg130 sizeOf130 I (.inl I) ?_;refine zz zeroValue130 λi=>stW I I Zt ?_;refine au 0xd1f29f01f39f312 ?_;refine zB [(_,_),(_,_)] I (Xa _ _) λf=>?_;intro a w h;replace h:=h.shareAll e (List.map Qb ([0,1])) I;refine gL h<|zw [_,_] I call251 (AY 4 [0,1] _ _ dd dd dd dd) (zB [(_,_)] I (Bi _ _ _ _ _ _ _ _) λd=>?_);clear h;intro a w h;replace h:=h.shareAll e (cellsOf Kk ([EV 4 [0,1]])) I;refine gL h<|au 0x6255 ?_;clear h;intro a w h;refine Qj (Ψ:=[Row (some ⟨d,0,none⟩) (cellsOf Kk [EV 4 [0,1]])]) h (Qd h I (.tmp I)<|.tmp I) ?_ ss;exact⟨some ⟨d,0,none⟩,1,rfl,rfl⟩
theorem lR(ho:B=1\/B=2)(c:b2<Am B): Ctr prog 164 [.int .i64 ((B:Nat):Int),.int .i64 ((b2:Nat):Int)] [SideF] (λv Ψ => ∃b d,v=.tuple #[.slice b (Yi B b2).length d,.int .i64 0]/\Ψ=[Row b (cellsOf Kk (Yi B b2))]):=by
 rcases ho with rfl|rfl
 ·have a:b2=0\/b2=1\/b2=2:=by simp only[Am] at c;simp at c;omega
  rcases a with rfl|rfl|rfl
  ·exact WZ
  ·exact WY
  exact WX
 have a:b2=0\/b2=1\/b2=2\/b2=3\/b2=4\/b2=5:=by simp only[Am] at c;simp at c;omega
 rcases a with rfl|rfl|rfl|rfl|rfl|rfl
 ·exact WW
 ·exact WV
 ·exact WU
 ·exact WT
 ·exact WS
 exact WR
def tgK(p q:List Pw)(k m:Nat): Rat:=(q.take m).foldl (tgS (p.getD k pw0)) (tgQ (p.take k) q)
theorem OkPw.take{p:List Pw}(h:OkPw p)(k:Nat): OkPw (p.take k):=⟨bp (by rw[db];omega) h.1,λx hx=>h.2 x (tK hx)⟩
structure Vs where
 ad:Option Addr
 n:Nat
 c:Nat
structure Mt where
 r:Nat
 c:Nat
 ad:Option Addr
 n:Nat
 cp:Nat
def vs0:Vs:=⟨none,0,0⟩
def mt0:Mt:=⟨0,0,none,0,0⟩
abbrev encVs(v:Vs): Value:=.slice v.ad v.n v.c
abbrev encMt(m:Mt): Value:=.agg #[.int .i64 ((m.r:Nat):Int),.int .i64 ((m.c:Nat):Int),.slice m.ad m.n m.cp]
def mkL(f:Nat->Rat)(n:Nat): List Rat:=(List.range n).map f
def padL(f:Nat->Rat)(n i:Nat): List Rat:=mkL f i++List.replicate (n-i) 0
def matF(φ:Nat->Nat->Rat)(c:Nat): Nat->Rat:=λt=>φ (t/c) (t%c)
def matL(φ:Nat->Nat->Rat)(r c:Nat): List Rat:=mkL (matF φ c) (r*c)
def rowL(A:List Rat)(i c:Nat): List Rat:=(A.drop (i*c)).take c
def appF(A B:List Rat)(c:Nat): Nat->Rat:=λi=>fX (λk=>A.getD (i*c+k) 0*B.getD k 0) c
theorem Q6{x:Rat}: 0<x.num.sign↔0<x:=by
 rw[Int.sign_pos_iff];constructor
 ·intro h;have h1:=Rat.num_nonneg.1 (Int.le_of_lt h);have a:x≠0:=λe=>by subst e;exact absurd h dd
  grind
 intro h;have h1:=Rat.num_nonneg.2 (u5 h);have a:x.num≠0:=λe=>by rw[u1] at e;subst e;grind
 omega
theorem tw_ne(h:0<(twP c4 c7 c8).num.sign): twP c4 c7 c8≠0:=λe=>by rw[e] at h;exact absurd h dd
theorem kS(h:0<(twP c4 c7 c8).num.sign): 0<(KR c4 c7 c8).num.sign:=by
 have:=Q6.1 h;refine Q6.2 ?_;unfold KR;rw[qA];exact uO this kD
theorem ai: 0<Am o:=by unfold Am;split<;>decide
theorem nO(ho:B=1\/B=2): Jk prog 163 [.int .i64 ((B:Nat):Int)] (.int .i64 ((Am B:Nat):Int)):=by
 rcases ho with rfl|rfl
 ·exact fM
 exact fL
theorem cj(ha:PtK B c4)(g:PtK B c7)(hc:PtK B c8): PtK (10*B+6) (Xb c4 c7 c8).1/\PtK (10*B+6) (Xb c4 c7 c8).2.1/\PtK (10*B+6) (Xb c4 c7 c8).2.2:=by
 obtain ⟨d,h⟩:=ha;obtain ⟨e,i⟩:=g;obtain ⟨j,f⟩:=hc;have ht:=Ga c4 c7 c8;have h1:=M3 c8 c7 (twP c4 c7 c8);have k:=M3 c4 c8 (twP c4 c7 c8);have l:=M3 c7 c4 (twP c4 c7 c8);exact⟨⟨by simp only[Xb];omega,by simp only[Xb];omega⟩,⟨by simp only[Xb];omega,by simp only[Xb];omega⟩,⟨by simp only[Xb];omega,by simp only[Xb];omega⟩⟩
theorem rU(ho:o=1\/o=2)(e f c:Pt)(ha:PtK K e)(m:PtK K f)(hc:PtK K c)(s:K<=1000)(hT:0<(twP e f c).num.sign): Jk prog 160 [.int .i64 ((o:Nat):Int),Kr e f c] (.bool true):=by
 obtain ⟨i,n⟩:=ha;obtain ⟨k,p⟩:=m;obtain ⟨q,j⟩:=hc;have l:=ai o;have has:=kS hT;refine fnI func160 I ntmps160 λS w0 r=>zS (zx I λt=>au 0x43125 ?_);refine zv [_] I call163 (nO ho)<|zp (.gtr I I) (bbT (λd=>(by exfalso;have:=of_decide_eq_false d;omega)) λd=>zm I<|zq 8 I I (.indexAddr I I<|Cq _ _)<|ldQ 8 Bd ?_);refine zq 8 I I (.indexAddr I I<|Cp _ _)<|ldQ 8 Ai ?_;refine zq 8 I I (.indexAddr I I<|Co _ _)<|ldQ 8 Ah ?_;intro a w h;refine Zq 8 h I I<|Xn h (vs:=[_,_,_]) I call63 (N4 e f c oo oo oo oo oo oo) dd ?_;clear h;intro a w h;have g:=Hl e f c;refine Zq 8 h I I<|Xn h (vs:=[_]) I call34 (D6 _) dd ?_;clear h;intro a w h;refine gL h<|zq 8 I I (.gtr I I) (bbT (λb=>(by exfalso;have:=of_decide_eq_false b;omega)) λb=>au 0x6253e ?_);refine rtK I
theorem ixd{p:Prop}(h:p:=by first|omega|decide|simp): p:=h
theorem hsC{a:e4}{l L:List e4}(t:∀R∈l,R∈L)(h:a∈L:=by first|assumption|(repeat(first|exact List.Mem.head _|apply List.Mem.tail|apply eg))): ∀R∈a::l,R∈L:=λR hR=>by
 rcases List.mem_cons.1 hR with e|e
 ·rw[e];exact h
 exact t R e
theorem hsA{l L:List e4}(h:∀R∈l,R∈L:=by repeat(first|exact(λ_ hR=>absurd hR cf)|refine hsC ?_)): ∀R∈l,R∈L:=h
theorem pq_c(h:Zr a1<=B): Pq 0 (B+2) (norm [(⟨0,0,a1⟩:Tm)]):=by
 have:=Pq.raw (d:=0) (k:=B) (m:=1) (l:=[(⟨0,0,a1⟩:Tm)]) (λt ht=>by rcases List.mem_singleton.1 ht with rfl;exact aZ _) (λt ht=>by rcases List.mem_singleton.1 ht with rfl;exact h) (aZ _) dd;exact(this.nrm dd).mono (aZ _) oo
theorem pq_x:Pq 1 4 [(⟨1,0,((1:Int):Rat)⟩:Tm)] :=
 Pq.raw (d:=1) (k:=2) (m:=1) (λt ht=>by rcases List.mem_singleton.1 ht with rfl;exact aZ _) (λt ht=>by rcases List.mem_singleton.1 ht with rfl;exact Qe 1 dd dd) (aZ _) dd
theorem pq_y:Pq 1 4 [(⟨0,1,((1:Int):Rat)⟩:Tm)] :=
 Pq.raw (d:=1) (k:=2) (m:=1) (λt ht=>by rcases List.mem_singleton.1 ht with rfl;exact aZ _) (λt ht=>by rcases List.mem_singleton.1 ht with rfl;exact Qe 1 dd dd) (aZ _) dd
theorem Hh{K:Nat}(hq:Zr e5<=K)(a:PtK K c4): Pq 1 (3*K+16) (MN e5 c4):=by
 have h1:=pq_x.scale (c:=c4.1) a.1 dd;have b:=pq_y.scale (c:=c4.2) a.2 dd;exact((pq_c e5 hq).add (h1.add b dd dd) dd dd).mono dd oo
theorem nm(ha:PtK B c4)(g:PtK B c7)(hc:PtK B c8)(k:2<=B): Zr (Ve c4 c7 c8 (0,0)).1<=16*B+10/\Zr (Ve c4 c7 c8 (0,0)).2.1<=16*B+10/\Zr (Ve c4 c7 c8 (0,0)).2.2<=16*B+10:=by
 have l:Zr ((0:Rat),(0:Rat)).1<=2/\Zr ((0:Rat),(0:Rat)).2<=2:=⟨Kd,Kd⟩
 obtain ⟨d,h⟩:=ha;obtain ⟨e,i⟩:=g;obtain ⟨j,f⟩:=hc;have t:=Ga c4 c7 c8;have t1:=Ga (0,0) c7 c8;have t2:=Ga c4 (0,0) c8;have t3:=Ga c4 c7 (0,0);have d1:=Yl (twP (0,0) c7 c8) (twP c4 c7 c8);have d2:=Yl (twP c4 (0,0) c8) (twP c4 c7 c8);have d3:=Yl (twP c4 c7 (0,0)) (twP c4 c7 c8);exact⟨by simp only[Ve];omega,by simp only[Ve];omega,by simp only[Ve];omega⟩
theorem fg(hq:Zr a1<=e6)(c:PtK e6 H)(F:e6<=100000): Ctr prog 162 [Qa a1,encPt H] [] (λv Ψ => ∃d r,v=.slice d (MN a1 H).length r/\Ψ=[Row d (cellsOf Zy (MN a1 H))]):=by
 refine fnI func162 I ntmps162 λS w0 J=>zS (zx I λN=>zx I λE=>za I<|zn<|zs<|yE [0,3,4,7,8,1,2,5,6,9,10,11,12]<|au 0xce ?_);refine au 0x14ff3f ?_;refine au 0xe2fe3f ?_;refine Zu I kk (vs:=[_]) I call165 (Ob a1 e6 hq oo) (by exact hsA) dd ?_;rintro v6 u ⟨D,L,rfl,rfl⟩;refine Zu I kk (vs:=[]) I call248 (C_X) (by exact hsA) dd ?_;rintro G y ⟨A,rfl,rfl⟩;refine Zu I kk (vs:=[_,_]) I call90 (Ab [(⟨1,0,((1:Int):Rat)⟩:Tm)] _ _ 1 4 pq_x dd dd H.1 e6 c.1 oo) (by exact hsA) dd ?_;rintro v10 k ⟨i,z,rfl,rfl⟩;refine Zu I kk (vs:=[]) I call249 (C_Y) (by exact hsA) dd ?_;rintro v11 m ⟨f,rfl,rfl⟩;refine Zu I kk (vs:=[_,_]) I call90 (Ab [(⟨0,1,((1:Int):Rat)⟩:Tm)] _ _ 1 4 pq_y dd dd H.2 e6 c.2 oo) (by exact hsA) dd ?_;rintro C p ⟨l,t,rfl,rfl⟩;refine Zu I kk (vs:=[_,_]) I call89 (C9 (norm<|Qc H.1 [(⟨1,0,((1:Int):Rat)⟩:Tm)]) (norm<|Qc H.2 [(⟨0,1,((1:Int):Rat)⟩:Tm)]) _ _ _ _ 1 1 (e6+4+1) (e6+4+1) (pq_x.scale c.1 dd) (pq_y.scale c.2 dd) dd dd oo oo) (by exact hsA) dd ?_;rintro s j ⟨n,x,rfl,rfl⟩;refine Zu I kk (vs:=[_,_]) I call89 (C9 (norm [(⟨0,0,a1⟩:Tm)]) (norm (norm (Qc H.1 [(⟨1,0,((1:Int):Rat)⟩:Tm)])++norm (Qc H.2 [(⟨0,1,((1:Int):Rat)⟩:Tm)]))) _ _ _ _ 0 1 (e6+2) (e6+4+1+(e6+4+1)+2) (pq_c a1 hq) ((pq_x.scale c.1 dd).add (pq_y.scale c.2 dd) dd dd) dd dd oo oo) (by exact hsA) dd ?_;rintro B o ⟨b,e,rfl,rfl⟩;refine au 0x6a4e ?_;intro a w h;refine Qj (Ψ:=[Row b (cellsOf Zy<|norm (norm [(⟨0,0,a1⟩:Tm)]++norm (norm (Qc H.1 [(⟨1,0,((1:Int):Rat)⟩:Tm)])++norm (Qc H.2 [(⟨0,1,((1:Int):Rat)⟩:Tm)]))))]) h (Zd h I<|.tmp I) ?_ ss;exact⟨b,e,rfl,rfl⟩
theorem O1(ty:TypeId)(cs:Array Bool): (Go.builtin .len #[98] ty cs #[.slice e9 o K]).run prog J=.ok (.value (.int .i64 o)) J:=by
 simp[go_sem]
theorem Kj{E:TypeId}{ad:Option Addr}{xs:List Value}{o:List (Nat×Obj)}(h:GrowO B E (.slice ad b2 o3) o2 xs o): b2<=o3:=by
 obtain ⟨_,⟨h,_,_⟩|⟨_,_,_,h,_,b,_⟩⟩:=h
 ·cases h;exact aZ _
 cases h;exact b
theorem zeroLP: (zeroValue 243).run prog J=.ok (.agg #[.slice none 0 0,.slice none 0 0,.slice none 0 0]) J:=zeroValue243 J
theorem sY(a:o<=K)(hc:o<=1000): Jk prog 167 [.slice e9 o K] (.slice e9 o o):=by
 refine fnI func167 I ntmps167 λS w0 b=>au 0x2cf42cf44312531 ?_;refine zp (.slice I none (some _) (some _) I I I (λw=>Yd runUnderlying98 sizeOf50 _ _ _ a w))<|za I<|zn<|zt<|rtK I
theorem jR: RN (Instr.fieldAt 227 (.pointer (some ⟨B,b2,none⟩)) 0) (.pointer (some ⟨B,b2+0,none⟩)):=λw=>by
 simp[go_sem]
theorem iC: Zm true 2 #[L,N,O,g] 0=some (.agg #[L,N]):=rfl
theorem jQ: RN (Instr.fieldAt 227 (.pointer (some ⟨B,b2,none⟩)) 1) (.pointer (some ⟨B,b2+2,none⟩)):=λw=>by
 simp[go_sem]
theorem iz: Zm true 2 #[L,N,O,g] 2=some (.agg #[O,g]):=rfl
def ptv(q:(Int×Int)×(Int×Int)): Pt:=(qvp q.1,qvp q.2)
def OkP(q:(Int×Int)×(Int×Int)): Prop:=OkQ q.1/\OkQ q.2
theorem ptv_K{q:(Int×Int)×(Int×Int)}(h:OkP q): PtK 4 (ptv q):=⟨FP h.1,FP h.2⟩
theorem nz(q:Int×Int)(h:OkQ q): Jk prog 18 [.agg #[.int .i64 q.1,.int .u32 q.2]] (Qa (qvp q)):=lp q.1 q.2 h.1 h.2.1 h.2.2.1 h.2.2.2
theorem sK(p:(Int×Int)×(Int×Int))(b:OkP p): Jk prog 141 [.agg #[.int .i64 p.1.1,.int .u32 p.1.2,.int .i64 p.2.1,.int .u32 p.2.2]] (encPt (ptv p)):=by
 obtain ⟨d,f⟩:=b;refine fnI func141 I ntmps141 λS w0 i=>zS (zx I λg=>zz Xe λj=>zn<|zs<|yE [0,1,3,4,2,5,6,7]<|yp I (.fA I jR)<|ldY iC ?_);refine yp I (.fA I jQ)<|ldY iz ?_;refine yv [_] I I call18 (nz p.1 (by assumption)) ?_;have c:=FP (q:=p.1) (by assumption);refine yv [_] I I call18 (nz p.2 (by assumption)) ?_;have e:=FP (q:=p.2) (by assumption);refine yp I (.build [(_,_),(_,_)] I<|Mc _ _ _ _ _ _ _ _ _ _)<|stV I I I Zv ?_;refine yn<|zt ?_;intro a w h;refine Xh h (Zd h I<|rC Jq) ?_;rfl
end Go.Proofs.YtdadideknhmbbaaGreatDoor
namespace Go.Proofs.YtdadideknhmbbaaGreatDoor
open Go Go.Proofs Go.Fx Tryz
attribute [local irreducible] Oper.wp Code.wp wpList Fx.Head wpOp
variable{E G F:Value}{u D z:Nat}{H B:Type}{J:Nat×Nat×Nat}(X Y:Operand)(C:List (Nat×Nat×Nat))(x:Option Addr)(N:Nat×Nat×Nat)(c o y f A:Nat)(L:List (Nat×Nat×Nat))(w:World)(g:TypeId)(h:Array Bool)
theorem Da: Zm false 1 #[E,F,G] 0=some E:=rfl
theorem Vg: Zm false 1 #[E,F,G] 1=some F:=rfl
theorem Yf: (Go.builtin .len #[35] g h #[.slice x c o]).run prog w=.ok (.value (.int .i64 c)) w:=by
 simp[go_sem]
theorem ql(h:A<y): RN (Instr.indexAt 35 (.slice (some ⟨c,o,none⟩) y f) (.int .i64 (A:Int))) (.pointer (some ⟨c,o+A*3,none⟩)):=λw=>by
 simpa using Qf runUnderlying35 sizeOf133 c o y f A h w
abbrev Ze(t:Nat×Nat×Nat): Value:=.agg #[.int .i64 ((t.1:Nat):Int),.int .i64 ((t.2.1:Nat):Int),.int .i64 ((t.2.2:Nat):Int)]
theorem HJ: (zeroValue 143).run prog w=.ok (Ze (0,0,0)) w:=zeroValue143 w
structure Ed where
 a:Nat
 b:Nat
 l:Int
 r:Int
abbrev ed0:Ed:=⟨0,0,0,0⟩
abbrev Qr(e:Ed): Value:=.agg #[.int .i64 ((e.a:Nat):Int),.int .i64 ((e.b:Nat):Int),.int .i64 e.l,.int .i64 e.r]
structure Ms where
 P:List Pt
 T:List (Nat×Nat×Nat)
 S:List (Nat×Nat×Nat)
abbrev Qm(m:Ms)(aP aT aS:Option Addr)(cP cT cS:Nat): Value:=.agg #[.slice aP m.P.length cP,.slice aT m.T.length cT,.slice aS m.S.length cS]
def CW{α:Type}(p:α->Bool): List α->Nat->Int
 | [],_ => -1
 | x::l,i=>if p x=true then (i:Int) else CW p l (i+1)
theorem Vj(p:B->Bool)(l:List B)(i:Nat)(d:B)(h:i<l.length): CW p (l.drop i) i=if p (l.getD i d)=true then (i:Int) else CW p (l.drop (i+1)) (i+1):=by
 rw[oF h,CW];simp[List.getD,h]
theorem FU{α:Type}(p:α->Bool): ∀(l:List α) (i:Nat),decide (CW p l i>=0)=l.any p
 | [],i=>by rw[CW];simp
 | x::l,i=>by
  rw[CW,vf, <-FU p l (i+1)];by_cases h:p x=true
  ·rw[if_pos h,h,Bool.true_or];exact decide_eq_true oo
  rw[if_neg h,Bool.eq_false_iff.2 h,wz]
theorem RV{α:Type}(p:α->Bool): ∀(l:List α) (i:Nat),CW p l i<((l.length+i:Nat):Int)
 | [],i=>by rw[CW];omega
 | x::l,i=>by
  have:=RV p l (i+1);rw[CW,dc];split<;>omega
def Ad(n:Nat)(t:Nat×Nat×Nat): Bool:=decide (t.1<n) && decide (t.2.1<n) && decide (t.2.2<n) && decide (t.1≠t.2.1) && decide (t.2.1≠t.2.2) && decide (t.2.2≠t.1)
theorem Aa: Jk prog 137 [.int .i64 ((c:Nat):Int),.int .i64 ((o:Nat):Int)] (.bool (decide (c<o))):=by
 refine fnI func137 I ntmps137 λS w0 d=>au 0x00f4312531 ?_;refine bbT (λe=>(by exfalso;exact of_decide_eq_false e oo)) λe=>au 0x4bff7ff7f4 ?_;intro a w h;refine Zi h (λb h=>?_) (λb h=>?_)
 ·refine gL h<|au 0x6253e ?_;refine rtK ?_;congr 1;exact(decide_eq_true (dT b)).symm
 refine gL h<|au 0x6253e ?_;refine rtK ?_;congr 1;exact(decide_eq_false (dF b)).symm
theorem C_num1: Xi prog 222 [Ze N,.pointer (some ⟨o,y,none⟩)] [Row (some ⟨o,y,none⟩) [.int .i64 ((c:Nat):Int)]] (.bool (!Ad c N)):=by
 refine fnI func222 I ntmps222 λS w0 k=>zS (zx I λl=>au 0x70f57f3125 ?_);refine zD (b:=o) (off:=y) (j:=0) (M:=[.int .i64 ((c:Nat):Int)]) (v:=.int .i64 ((c:Nat):Int)) I mm (gM _) isAgg3 sizeOf3 I (.inr I) ?_;refine zv [_,_] I call137 (Aa ((N).1) c) ?_;intro a w h;refine Zi h (λi h=>?_) (λi h=>?_);focus
  refine gL h<|au 0x440f ?_;refine zq 9 I I (.indexAddr I I<|Vi _ _)<|ldQ 9 Vg ?_;clear h;intro a w h;refine Zq 9 h I I<|Xm h (b:=o) (off:=y) (j:=0) (M:=[.int .i64 ((c:Nat):Int)]) (v:=.int .i64 ((c:Nat):Int)) I mm (gM _) isAgg3 sizeOf3 I (.inr I) dd ?_;clear h;intro a h;refine Zq 9 h I I<|Xn h (vs:=[_,_]) I call137 (Aa ((N).2.1) c) dd ?_;clear h;intro a w h;refine Zi h (λm h=>?_) (λm h=>?_);focus
   refine gL h<|zq 9 I I (.unOp I<|Yt _)<|au 0x42e ?_;refine zq 16 I I (.indexAddr I I<|Vh _ _)<|ldQ 16 Gl ?_;clear h;intro a w h;refine Zq 16 h I I<|Xm h (b:=o) (off:=y) (j:=0) (M:=[.int .i64 ((c:Nat):Int)]) (v:=.int .i64 ((c:Nat):Int)) I mm (gM _) isAgg3 sizeOf3 I (.inr I) dd ?_;clear h;intro a h;refine Zq 16 h I I<|Xn h (vs:=[_,_]) I call137 (Aa ((N).2.2) c) dd ?_;clear h;intro a w h;refine Zi h (λe h=>?_) (λe h=>?_);focus
    refine gL h<|zq 16 I I (.unOp I<|Yt _)<|au 0x42e ?_;refine zq 23 I I (.indexAddr I I<|AO _ _)<|ldQ 23 Da ?_;refine zq 23 I I (.indexAddr I I<|Vi _ _)<|ldQ 23 Vg ?_;refine zq 23 I I (.eql I I) ?_;clear h;intro a w h;refine Zi h (λd h=>?_) (λd h=>?_);focus
     refine gL h<|au 0x6253e80f80f80f80f80f43e81f81f81f81f81f42e ?_;clear h;intro a w h
    rotate_left;focus
     refine gL h<|au 0x42e ?_;refine zq 30 I I (.indexAddr I I<|Vi _ _)<|ldQ 30 Vg ?_;refine zq 30 I I (.indexAddr I I<|Vh _ _)<|ldQ 30 Gl ?_;refine zq 30 I I (.eql I I) ?_;clear h;intro a w h;refine Zi h (λg h=>?_) (λg h=>?_);focus
      refine gL h<|au 0x6253e80f80f80f80f80f42e ?_;clear h;intro a w h
     rotate_left;focus
      refine gL h<|au 0x42e ?_;refine zq 37 I I (.indexAddr I I<|Vh _ _)<|ldQ 37 Gl ?_;refine zq 37 I I (.indexAddr I I<|AO _ _)<|ldQ 37 Da ?_;refine zq 37 I I (.eql I I) ?_;clear h;intro a w h;refine Zi h (λf h=>?_) (λf h=>?_);all_goals
       refine gL h<|au 0x6252e ?_;clear h;intro a w h
   rotate_left 4;focus
    refine gL h<|zq 16 I I (.unOp I<|Yt _)<|au 0x6253e80f80f80f80f80f43e81f81f81f81f81f43ea2fa2fa2fa2fa2f42e ?_;clear h;intro a w h
  rotate_left 5;focus
   refine gL h<|zq 9 I I (.unOp I<|Yt _)<|au 0x6253e80f80f80f80f80f43e81f81f81f81f81f43ea2fa2fa2fa2fa2f43e91f91f91f91f91f42e ?_;clear h;intro a w h
 rotate_left 6;focus
  refine gL h<|au 0x6253e80f80f80f80f80f43e81f81f81f81f81f43ea2fa2fa2fa2fa2f43e91f91f91f91f91f43ee5fe5fe5fe5fe5f440f ?_;clear h;intro a w h
 all_goals
  refine Xh h (Zd h I<|.tmp I) ?_;clear h;simp[Ad] at *;omega
theorem sO(s:C.length<=1000000)(n b o:Nat): Xi prog 227 [.slice x C.length c,.func (.func 222) #[] #[.pointer (some ⟨b,o,none⟩)]] [Row x (cellsOf Ze C),Row (some ⟨b,o,none⟩) [.int .i64 ((n:Nat):Int)]] (.int .i64 (CW (λt => !Ad n t) C 0)):=by
 refine fnI func227 I ntmps227 λS w0 r=>au 0x824a0f43112531 ?_;intro a w h;refine lpG h [0,1,7] pkL (λY Z (i:Nat) a w=>i<=C.length/\(CW (λt => !Ad n t) C 0=CW (λt => !Ad n t) (C.drop i) i)/\St 19 S w0 ((8,nI i)::Y) [] Z a w) (λi=>C.length-i) 0 (⟨cX _,rfl,by exact(h).sub sA⟩) ?_;clear h;rintro i a w ⟨q,d,h⟩;refine gC h<|au 0x12d31 ?_;intro a w h;refine Zb h I (λg=>?_) (λg=>?_)
 ·have f:i<C.length:=dT g;obtain ⟨p,m,rfl⟩:=h.row_addr (ad:=x) (M:=cellsOf Ze C) mm (nE 3);refine gC h<|au 0x62f4443125431817 ?_;refine zD I mm (cells_lt (k:=3) dd (λ_=>rfl) C i oo) isAgg133 sizeOf133 (Zh (k:=3) (λ_=>rfl) ((λ_=>rfl)) C (0,0,0) i oo) (.inl I) ?_;clear h;intro a w h;refine Zc<|Xs h (fs:=[]) (cs:=[.pointer (some ⟨b,o,none⟩)]) I (vs:=[_]) I call222 (C_num1 (C.getD i (0,0,0)) n b o) ss dd ?_;clear h;intro a w h;refine Zi h (λe h=>?_) (λe h=>?_)
  ·refine wpList_nil<|cW<|Qq h I ?_;refine gC h<|au 0x625431 ?_;refine rtK ?_;rw[d,Vj _ C i (0,0,0) f,if_pos e]
  refine wpList_nil<|cW<|Zj h I<|gC h<|zk<|zr<|zp (.pN (i+1)<|.add I I)<|au 0x24 ?_;clear h;intro a w h;exact⟨i+1,⟨oo,by rw[d,Vj _ C i (0,0,0) f,if_neg (by rw[e];decide)],tO h⟩,oo⟩
 have j:C.length=i:=dF g;subst j;refine gC h<|au 0x625310e ?_;refine rtK ?_;rw[d,tf];rfl
theorem sZ(a:C.length<=1000000)(n b o:Nat): Xi prog 221 [.slice x C.length c,.func (.func 222) #[] #[.pointer (some ⟨b,o,none⟩)]] [Row x (cellsOf Ze C),Row (some ⟨b,o,none⟩) [.int .i64 ((n:Nat):Int)]] (.bool (C.any (λt => !Ad n t))):=by
 refine fnI func221 I ntmps221 λS w0 d=>au 0x44312531 ?_;refine zw [_,_] I call227 (sO C _ _ a n b o)<|au 0x62500f ?_;refine rtK ?_;rw[FU]
def Kl(t a b:Nat)(e:Ed): Ed:=if a<b/\e.l = -1 then { e with l:=(t:Int) } else if b<a/\e.r = -1 then { e with r:=(t:Int) } else e
def Zg(a b:Nat): Nat×Nat:=(min a b,max a b)
def Jx(m:List ((Nat×Nat)×Ed))(k:Nat×Nat): Ed:=(Zo m k).getD ⟨k.1,k.2, -1, -1⟩
def DR(t a b:Nat)(m:List ((Nat×Nat)×Ed)): List ((Nat×Nat)×Ed):=Va m (Zg a b) (Kl t a b (Jx m (Zg a b)))
def crn(t:Nat×Nat×Nat)(i:Nat): Nat:=match i with
 | 0=>t.1
 | 1=>t.2.1
 | _=>t.2.2
def GG(t:Nat)(c:Nat×Nat×Nat): Nat->List ((Nat×Nat)×Ed)->List ((Nat×Nat)×Ed)
 | 0,m=>m
 | i+1,m=>DR t (crn c i) (crn c ((i+1)%3)) (GG t c i m)
def Qy(l:List (Nat×Nat×Nat)): Nat->List ((Nat×Nat)×Ed)
 | 0=>[]
 | t+1=>GG t (l.getD t (0,0,0)) 3 (Qy l t)
def XB(x y:Ed): Bool:=decide (x.a<y.a\/(x.a=y.a/\x.b<=y.b))
def qn(x:Ed): List Ed->List Ed
 | []=>[x]
 | y::l=>if XB x y then x::y::l else y::qn x l
def fW:List Ed->List Ed
 | []=>[]
 | x::l=>qn x (fW l)
def Za(l:List (Nat×Nat×Nat)): List Ed:=fW ((Qy l l.length).map (·.2))
theorem JI(x:Ed): ∀l,(qn x l).Perm (x::l)
 | []=>cr _
 | y::l=>by
  rw[qn];split
  ·exact cr _
  exact((JI x l).cons y).trans (List.Perm.swap x y l)
theorem Vf:∀l,(fW l).Perm l
 | []=>cr _
 | x::l=>(JI x _).trans ((Vf l).cons x)
theorem C3(x y:Ed): XB x y=true↔(x.a<y.a\/(x.a=y.a/\x.b<=y.b)):=decide_eq_true_iff
theorem JH(x:Ed): ∀l,l.Pairwise (λx y=>XB x y=true)->(qn x l).Pairwise (λx y=>XB x y=true)
 | [],_=>by simp[qn]
 | y::l,h=>by
  rw[uj] at h;rw[qn];split
  ·rename_i a;refine List.pairwise_cons.2 ⟨λz hz=>?_,List.pairwise_cons.2 h⟩;rcases List.mem_cons.1 hz with rfl|hz
   ·exact a
   have h1:=h.1 z hz;rw[C3] at h1 a ⊢;omega
  rename_i a;refine List.pairwise_cons.2 ⟨λz hz=>?_,JH x l h.2⟩;rcases List.mem_cons.1 ((JI x l).mem_iff.1 hz) with rfl|hz
  ·rw[C3] at a ⊢;omega
  exact h.1 z hz
theorem Bm:∀l,(fW l).Pairwise (λx y=>XB x y=true)
 | []=>List.Pairwise.nil
 | x::l=>JH x _ (Bm l)
theorem G0:∀ {l k:List Ed},l.Perm k->l.Pairwise (λx y=>XB x y=true)->k.Pairwise (λx y=>XB x y=true)->(∀x∈l,∀y∈l,x.a=y.a->x.b=y.b->x=y)->l=k
 | [],k,h,_,_,_=>(List.nil_perm.1 h).symm
 | x::l,[],h,_,_,_=>by have:=h.length_eq;simp at this
 | x::l,y::k,h,h1,d,hd=>by
  have f:x=y:=by
   rw[uj] at h1 d;have hx:x∈y::k:=h.mem_iff.1 ae;have c:y∈x::l:=h.mem_iff.2 ae;rcases List.mem_cons.1 hx with e|hx
   ·exact e
   rcases List.mem_cons.1 c with e|c
   ·exact e.symm
   have g:=d.1 x hx;have a2:=h1.1 y c;rw[C3] at g a2;exact hd x ae y (aX _ c) oo oo
  subst f;rw[G0 (List.Perm.cons_inv h) (List.pairwise_cons.1 h1).2 (List.pairwise_cons.1 d).2 (λu hu v hv=>hd u (aX _ hu) v (aX _ hv))]
theorem ac{l k:List Ed}(h:l.Perm k)(hd:∀x∈l,∀y∈l,x.a=y.a->x.b=y.b->x=y): l.mergeSort XB=fW k:=by
 refine G0 ((pq l XB).trans<|h.trans (Vf k).symm) ?_ (Bm k) (λx hx y d=>hd x ((pq l XB).mem_iff.1 hx) y ((pq l XB).mem_iff.1 d));refine ue (λa b c h1 e=>?_) (λa b=>?_) l
 ·rw[C3] at *;omega
 simp only[iB,C3];omega
theorem BQ[DecidableEq B]{m:List (B×H)}{x:B}{y:H}{p:B×H}(h:p∈Va m x y): p=(x,y)\/p∈m:=by
 induction m with
 | nil=>simp[Va] at h;exact .inl h
 | cons q m a =>
  by_cases e:q.1=x
  ·rw[Va,if_pos e] at h;rcases List.mem_cons.1 h with h|h
   ·exact .inl h
   exact .inr (aX _ h)
  rw[Va,if_neg e] at h;rcases List.mem_cons.1 h with h|h
  ·exact .inr (h ▸ ae)
  rcases a h with h|h
  ·exact .inl h
  exact .inr (aX _ h)
structure EdOk(n t:Nat)(k:Nat×Nat)(e:Ed): Prop where
 a:e.a=k.1
 b:e.b=k.2
 lt:k.1<k.2
 n:k.2<n
 l0 : -1<=e.l
 l1:e.l<(t:Int)
 r0 : -1<=e.r
 r1:e.r<(t:Int)
 has:0<=e.l\/0<=e.r
def EdInv(n t:Nat)(m:List ((Nat×Nat)×Ed)): Prop:=(m.map (·.1)).Nodup /\ ∀p∈m,EdOk n t p.1 p.2
theorem EdOk.mono{k:Nat×Nat}{e:Ed}(h:EdOk u z k e)(hs:z<=D): EdOk u D k e:={ h with l1:=by have:=h.l1;omega,r1:=by have:=h.r1;omega }
theorem EdInv.mono{m:List ((Nat×Nat)×Ed)}(h:EdInv u z m)(hs:z<=D): EdInv u D m:=⟨h.1,λp a=>(h.2 p a).mono hs⟩
theorem EdInv.step{a b:Nat}{m:List ((Nat×Nat)×Ed)}(h:EdInv u (z+1) m)(ha:a<u)(i:b<u)(d:a≠b): EdInv u (z+1) (DR z a b m):=by
 refine⟨ZD _ _ _ h.1,λp c=>?_⟩;rcases BQ c with rfl|c
 ·have hk:(Zg a b).1<(Zg a b).2/\(Zg a b).2<u:=by unfold Zg;simp only;omega
  have g:(Jx m (Zg a b)).a=(Zg a b).1/\(Jx m (Zg a b)).b=(Zg a b).2 /\ -1<=(Jx m (Zg a b)).l/\(Jx m (Zg a b)).l<((z+1:Nat):Int) /\ -1<=(Jx m (Zg a b)).r/\(Jx m (Zg a b)).r<((z+1:Nat):Int):=by
   unfold Jx;cases hm:Zo m (Zg a b) with
   | none=>exact⟨rfl,rfl,by show(-1:Int) <= -1;omega,by show(-1:Int)<_;omega,by show(-1:Int) <= -1;omega,by show(-1:Int)<_;omega⟩
   | some e =>
    have:=h.2 _ (Ev hm);exact⟨this.a,this.b,this.l0,this.l1,this.r0,this.r1⟩
  obtain ⟨g1,g2,g3,g4,g5,g6⟩:=g;unfold Kl;split
  ·exact⟨g1,g2,hk.1,hk.2,by simp only;omega,by simp only;omega,g5,g6,.inl (by simp only;omega)⟩
  rename_i n1;split
  ·exact⟨g1,g2,hk.1,hk.2,g3,g4,by simp only;omega,by simp only;omega,.inr (by simp only;omega)⟩
  rename_i f;refine⟨g1,g2,hk.1,hk.2,g3,g4,g5,g6,?_⟩;rcases vG d with h1|h1
  ·exact .inl (by have:(Jx m (Zg a b)).l ≠ -1:=λe=>n1 ⟨h1,e⟩;show 0<=(Jx m (Zg a b)).l;omega)
  exact .inr (by have:(Jx m (Zg a b)).r ≠ -1:=λe=>f ⟨h1,e⟩;show 0<=(Jx m (Zg a b)).r;omega)
 exact h.2 p c
theorem Qv: Ad u J=true↔J.1<u/\J.2.1<u/\J.2.2<u/\J.1≠J.2.1/\J.2.1≠J.2.2/\J.2.2≠J.1:=by
 simp only[Ad,cz,decide_eq_true_eq];simp only[and_assoc]
theorem EdInv.tri{n t:Nat}{c:Nat×Nat×Nat}(hc:Ad n c=true){m:List ((Nat×Nat)×Ed)}(h:EdInv n (t+1) m): ∀i,i<=3->EdInv n (t+1) (GG t c i m)
 | 0,_=>h
 | i+1,j=>by
  obtain ⟨h1,b,d,f,g,e⟩:=Qv.1 hc;have a:=EdInv.tri hc h i oo;rw[GG]
  match i,j with
  | 0,_=>exact a.step h1 b f
  | 1,_=>exact a.step b d g
  | 2,_=>exact a.step d h1 e
theorem DT{n:Nat}{l:List (Nat×Nat×Nat)}(h:∀c∈l,Ad n c=true): ∀t,t<=l.length->EdInv n t (Qy l t)
 | 0,_=>⟨vA,λ_ h=>nomatch h⟩
 | t+1,ht=>by
  rw[Qy];exact EdInv.tri (h _ (getD_mem l oo)) ((DT h t oo).mono (vc t)) 3 (aZ 3)
theorem EA{l:List (Nat×Nat×Nat)}(h:∀c∈l,Ad u c=true): ∀e∈Za l,EdOk u l.length (e.a,e.b) e:=by
 intro e he;rw[Za,(Vf _).mem_iff] at he;obtain ⟨p,d,rfl⟩:=List.mem_map.1 he;have:=(DT h l.length (aZ _)).2 p d;have f:(p.2.a,p.2.b)=p.1:=by rw[this.a,this.b]
 rw[f];exact this
theorem pp[DecidableEq B](m:List (B×H))(x:B)(y:H): (Va m x y).length<=m.length+1:=by
 induction m with
 | nil=>exact aZ _
 | cons q m a =>
  by_cases e:q.1=x
  ·rw[Va,if_pos e];simp
  rw[Va,if_neg e];simp only[dc];omega
theorem Py(t:Nat)(c:Nat×Nat×Nat)(m:List ((Nat×Nat)×Ed)): ∀i,(GG t c i m).length<=m.length+i
 | 0=>aZ _
 | i+1=>by rw[GG];have:=Py t c m i;have:=pp (GG t c i m) (Zg (crn c i) (crn c ((i+1)%3))) (Kl t (crn c i) (crn c ((i+1)%3)) (Jx (GG t c i m) (Zg (crn c i) (crn c ((i+1)%3)))));unfold DR;omega
theorem Cu(l:List (Nat×Nat×Nat)): ∀t,(Qy l t).length<=3*t
 | 0=>aZ _
 | t+1=>by rw[Qy];have:=Cu l t;have:=Py t (l.getD t (0,0,0)) (Qy l t) 3;omega
theorem Kh: (Za C).length<=3*C.length:=by
 rw[Za,(Vf _).length_eq,az];exact Cu C _
def rh(a b:Nat): Int:=if a<b then -1 else if b<a then 1 else 0
def cfE(x y:Ed): Int:=if rh x.a y.a≠0 then rh x.a y.a else rh x.b y.b
theorem cfE_lt(x y:Ed): cfE x y<0↔(x.a<y.a\/(x.a=y.a/\x.b<y.b)):=by
 unfold cfE rh;by_cases h1:x.a<y.a
 ·simp[h1]
 by_cases c:y.a<x.a
 ·simp[h1,c];omega
 have:x.a=y.a:=oo;simp only[h1,c,if_false];by_cases d:x.b<y.b
 ·simp[d,this]
 by_cases e:y.b<x.b<;>simp[d,e,this]
def Ie(a b:Nat)(m:List ((Nat×Nat)×Nat)): List ((Nat×Nat)×Nat):=Va m (Zg a b) ((Zo m (Zg a b)).getD 0+1)
def kx(c:Nat×Nat×Nat): Nat->List ((Nat×Nat)×Nat)->List ((Nat×Nat)×Nat)
 | 0,m=>m
 | i+1,m=>Ie (crn c i) (crn c ((i+1)%3)) (kx c i m)
def Km(l:List (Nat×Nat×Nat)): Nat->List ((Nat×Nat)×Nat)
 | 0=>[]
 | t+1=>kx (l.getD t (0,0,0)) 3 (Km l t)
def Ox(l:List (Nat×Nat×Nat))(e:Ed): Bool:=decide ((Zo (Km l l.length) (e.a,e.b)).getD 0=1)
def sdE(e:Ed): Nat×Nat×Nat:=(e.a,e.b,0)
def Kz(l:List (Nat×Nat×Nat)): List (Nat×Nat×Nat):=((Za l).filter (Ox l)).map sdE
theorem Nn: RN (Instr.fieldAt 38 (.pointer (some ⟨u,z,none⟩)) 0) (.pointer (some ⟨u,z+0,none⟩)):=λw=>by
 simp[go_sem]
theorem BX: (Go.builtin .len #[34] g h #[.slice x c o]).run prog w=.ok (.value (.int .i64 c)) w:=by
 simp[go_sem]
theorem Bw: RN (Instr.fieldAt 38 (.pointer (some ⟨u,z,none⟩)) 1) (.pointer (some ⟨u,z+1,none⟩)):=λw=>by
 simp[go_sem]
theorem Wi(h:A<y): RN (Instr.indexAt 34 (.slice (some ⟨c,o,none⟩) y f) (.int .i64 (A:Int))) (.pointer (some ⟨c,o+A*10,none⟩)):=λw=>by
 simpa using Qf runUnderlying34 sizeOf106 c o y f A h w
theorem JW: RN (Instr.fieldAt 38 (.pointer (some ⟨u,z,none⟩)) 2) (.pointer (some ⟨u,z+2,none⟩)):=λw=>by
 simp[go_sem]
theorem H4: (Go.builtin .len #[36] g h #[.slice x c o]).run prog w=.ok (.value (.int .i64 c)) w:=by
 simp[go_sem]
theorem ix_36(h:A<y): RN (Instr.indexAt 36 (.slice (some ⟨c,o,none⟩) y f) (.int .i64 (A:Int))) (.pointer (some ⟨c,o+A*3,none⟩)):=λw=>by
 simpa using Qf runUnderlying36 sizeOf143 c o y f A h w
theorem IA: RN (Instr.fieldAt 143 (.pointer (some ⟨u,z,none⟩)) 0) (.pointer (some ⟨u,z+0,none⟩)):=λw=>by
 simp[go_sem]
theorem C0: RN (Instr.fieldAt 143 (.pointer (some ⟨u,z,none⟩)) 1) (.pointer (some ⟨u,z+1,none⟩)):=λw=>by
 simp[go_sem]
theorem CZ: RN (Instr.fieldAt 143 (.pointer (some ⟨u,z,none⟩)) 2) (.pointer (some ⟨u,z+2,none⟩)):=λw=>by
 simp[go_sem]
def CV(a b:Pt): Bool:=if (a.1-b.1).num.sign≠0 then decide ((a.1-b.1).num.sign<0) else decide ((a.2-b.2).num.sign<0)
def ge(a b:Pt): Int:=if CV a b=true then -1 else if CV b a=true then 1 else 0
def pt(m:Ms)(i:Nat): Pt:=m.P.getD i (0,0)
def nxP(s0 s1 s2 p q:Pt): Bool := !([s0,s1,s2].any λr=>decide ((twP p q r).num.sign>0))
def ez(p0 p1 p2 s0 s1 s2:Pt): Bool:=nxP s0 s1 s2 p0 p1 || nxP s0 s1 s2 p1 p2 || nxP s0 s1 s2 p2 p0
def rr(m:Ms)(t s:Nat×Nat×Nat): Bool:=ez (pt m t.1) (pt m t.2.1) (pt m t.2.2) (pt m s.1) (pt m s.2.1) (pt m s.2.2)
def Ay(t:Nat×Nat×Nat)(p:Nat): Bool:=decide (t.1=p) || decide (t.2.1=p) || decide (t.2.2=p)
structure MV(K:Nat)(m:Ms): Prop where
 num:∀t∈m.T,Ad m.P.length t=true
 pos:∀t∈m.T,(twP (pt m t.1) (pt m t.2.1) (pt m t.2.2)).num.sign=1
 sd:∀s∈m.S,s.1<m.P.length/\s.2.1<m.P.length/\s.2.2<=255
 ne:0<m.T.length
 K:∀p∈m.P,PtK K p
 nP:m.P.length<=4000
 nT:m.T.length<=4000
 nS:m.S.length<=4000
 used:∀p,p<m.P.length -> ∃t∈m.T,Ay t p=true
 dif:m.P.Nodup
 apart:∀i k,k<i->i<m.T.length->(rr m (m.T.getD i (0,0,0)) (m.T.getD k (0,0,0)) || rr m (m.T.getD k (0,0,0)) (m.T.getD i (0,0,0)))=true
 out:∀t∈m.T,∀q,q<m.P.length->Ay t q=false->twP (pt m q) (pt m t.2.1) (pt m t.2.2)<0\/twP (pt m t.1) (pt m q) (pt m t.2.2)<0\/twP (pt m t.1) (pt m t.2.1) (pt m q)<0
 rim:m.S.map (λs=>(s.1,s.2.1,0))=Kz m.T
theorem MV.ptK{K:Nat}{m:Ms}(h:MV K m)(a:z<m.P.length): PtK K (pt m z):=h.K _ (getD_mem m.P a)
theorem MV.neP{m:Ms}(h:MV u m): 0<m.P.length:=by
 have h1:=Qv.1 (h.num _ (getD_mem m.T (d:=(0,0,0)) h.ne));omega
theorem MV.tri{m:Ms}(h:MV u m)(ht:J∈m.T): PtK u (pt m J.1)/\PtK u (pt m J.2.1)/\PtK u (pt m J.2.2):=by
 have:=Qv.1 (h.num J ht);exact⟨h.ptK this.1,h.ptK this.2.1,h.ptK this.2.2.1⟩
theorem UP(u v:Pt)(c:Zr u.1<=100000)(e:Zr u.2<=100000)(d:Zr v.1<=100000)(f:Zr v.2<=100000): Jk prog 242 [encPt u,encPt v] (.bool (CV u v)):=by
 refine fnI func242 I ntmps242 λS w0 g=>zS (zx I λi=>zx I λj=>au 0x04f79f04f79f31125 ?_);refine zv [_,_] I call39 (Mg u.1 v.1 oo oo)<|au 0x71f43125 ?_;intro a w h;refine Zi h (λb h=>?_) (λb h=>?_)
 ·refine wpList_nil<|cW<|Qq h I ?_;refine gC h<|au 0x625d431 ?_;refine rtK ?_;congr 1;unfold CV;rw[if_pos (by simpa using b)]
 refine wpList_nil<|cW<|Zj h I<|gC h<|au 0x26f69f26f69f317 ?_;refine zv [_,_] I call39 (Mg u.2 v.2 oo oo)<|au 0x625d ?_;refine rtK ?_;congr 1;unfold CV;rw[if_neg (by simpa using b)]
theorem se(u v:Pt)(hu:PtK 100000 u)(hv:PtK 100000 v): Jk prog 241 [encPt u,encPt v] (.int .i64 (ge u v)):=by
 obtain ⟨f,g⟩:=hu;obtain ⟨e,d⟩:=hv;refine fnI func241 I ntmps241 λS w0 i=>zS (zx I λj=>zx I λk=>au 0x7e7e318125 ?_);refine zv [_,_] I call242 (UP u v oo oo oo oo) ?_;intro a w h;refine Zi h (λc h=>?_) (λc h=>?_)
 ·refine gL h<|au 0x625311e25 ?_;refine rtK ?_;unfold ge;rw[if_pos c]
 refine gL h<|au 0x7e7e31c25 ?_;refine zv [_,_] I call242 (UP v u oo oo oo oo) ?_;clear h;intro a w h;refine Zi h (λb h=>?_) (λb h=>?_)
 ·refine gL h<|au 0x625311e25 ?_;refine rtK ?_;unfold ge;rw[if_neg (by rw[c];decide),if_pos b]
 refine gL h<|au 0x625317c25 ?_;refine rtK ?_;unfold ge;rw[if_neg (by rw[c];decide),if_neg (by rw[b];decide)]
theorem sj(m:Ms)(f e b:Option Addr)(A H D:Nat)(hv:MV c m)(hK:c<=100000): Xi prog 147 [Qm m f e b A H D] [Row f (cellsOf encPt m.P),Row e (cellsOf Ze m.T),Row b (cellsOf Ze m.S)] (.bool true):=by
 have a6:=hv.nP;have U:=hv.nT;have W:=hv.nS;have Q:=hv.ne;have L:=hv.neP;refine fnI func147 I ntmps147 λS w0 hS=>zS (zx I λJ=>au 0x824a0fb0f31f3112521f70f82f3125 ?_);intro a w h;refine lpG h [1,3,12,13] pkL (λY Z (i:Nat) a w=>i<=m.T.length/\St 94 S w0 ((14,nI i)::Y) [(J,bV (Qm m f e b A H D) 38)] Z a w) (λi=>m.T.length-i) 0 (⟨cX _,by exact(h).sub sA⟩) ?_;clear h;rintro i a w ⟨N,h⟩;refine gC h<|au 0x12d31 ?_;intro a w h;refine Zb h I (λK=>?_) (λK=>?_)
 ·have u:i<m.T.length:=dT K;obtain ⟨B,F,rfl⟩:=h.row_addr (ad:=e) (M:=cellsOf Ze m.T) mm (nE 3);obtain ⟨E,C,rfl⟩:=h.row_addr (ad:=f) (M:=cellsOf encPt m.P) mm (nE 10);have ht:=getD_mem m.T (d:=(0,0,0)) u;obtain ⟨n1,n2,R,_,_,_⟩:=Qv.1 (hv.num _ ht);have X:=hv.pos _ ht;have hk:=hv.tri ht;simp only[pt,PtK] at hk;obtain ⟨⟨a7,a8⟩,⟨b0,a1⟩,⟨V,b2⟩⟩:=hk;refine gC h<|au 0x62f31817 ?_;refine zD I mm (cells_lt (k:=3) dd (λ_=>rfl) m.T i oo) isAgg133 sizeOf133 (Zh (k:=3) (λ_=>rfl) ((λ_=>rfl)) m.T (0,0,0) i oo) (.inl I) ?_;refine zz Bj λb5=>stW I I Qi ?_;refine zn<|zs<|yE [0,1,2,3,4,5,6,7,8,9,10,11,12,13,14,15,16,17,18,19,20,21,22,23,24,25,26,27,28,29,30,31,32,33,34,35,36,37,38,39,40]<|au 0xeec3f ?_;clear h;refine au 0x9 ?_;refine yv [_,_] I I call137 (Aa ((m.T.getD i (0,0,0)).1) m.P.length) ?_;refine Jn (λs  =>?_) (λs  =>(by exfalso;exact of_decide_eq_false s n1));refine au 0x93bf ?_;refine yq I I I (.indexAddr I I<|Vi _ _)<|yg I I I I mr isAgg3 sizeOf3 Vg ?_;refine au 0xd4f ?_;refine Xp I I I kk (vs:=[_,_]) I call137 (Aa ((m.T.getD i (0,0,0)).2.1) m.P.length) dd ?_;refine Jn (λo  =>?_) (λo  =>(by exfalso;exact of_decide_eq_false o n2));refine yq I I I (.unOp I<|Yt _)<|au 0x9f4f ?_;refine yq I I I (.indexAddr I I<|Vh _ _)<|yg I I I I mr isAgg3 sizeOf3 Gl ?_;refine au 0xd4f ?_;refine Xp I I I kk (vs:=[_,_]) I call137 (Aa ((m.T.getD i (0,0,0)).2.2) m.P.length) dd ?_;refine Jn (λt  =>?_) (λt  =>(by exfalso;exact of_decide_eq_false t R));refine yq I I I (.unOp I<|Yt _)<|au 0x8bfd8f9f4f ?_;refine yq I I I (.indexAddr I I<|AO _ _)<|yg I I I I mr isAgg3 sizeOf3 Da ?_;refine yq I I I (.indexAddr I I<|Wi _ _ _ _ _ oo) ?_;refine Ki I I I kk I mm (cells_lt (k:=10) dd (λ_=>rfl) m.P ((m.T.getD i (0,0,0)).1) oo) isAgg106 sizeOf106 (Zh (k:=10) (λ_=>rfl) ((λ_=>rfl)) m.P (0,0) ((m.T.getD i (0,0,0)).1) oo) (.inl I) dd ?_;refine au 0x8bfd8f ?_;refine yq I I I (.indexAddr I I<|Vi _ _)<|yg I I I I mr isAgg3 sizeOf3 Vg ?_;refine yq I I I (.indexAddr I I<|Wi _ _ _ _ _ oo) ?_;refine Ki I I I kk I mm (cells_lt (k:=10) dd (λ_=>rfl) m.P ((m.T.getD i (0,0,0)).2.1) oo) isAgg106 sizeOf106 (Zh (k:=10) (λ_=>rfl) ((λ_=>rfl)) m.P (0,0) ((m.T.getD i (0,0,0)).2.1) oo) (.inl I) dd ?_;refine au 0x8bfd8f ?_;refine yq I I I (.indexAddr I I<|Vh _ _)<|yg I I I I mr isAgg3 sizeOf3 Gl ?_;refine yq I I I (.indexAddr I I<|Wi _ _ _ _ _ oo) ?_;refine Ki I I I kk I mm (cells_lt (k:=10) dd (λ_=>rfl) m.P ((m.T.getD i (0,0,0)).2.2) oo) isAgg106 sizeOf106 (Zh (k:=10) (λ_=>rfl) ((λ_=>rfl)) m.P (0,0) ((m.T.getD i (0,0,0)).2.2) oo) (.inl I) dd ?_;refine Xp I I I kk (vs:=[_,_,_]) I call239 (UO (m.P.getD ((m.T.getD i (0,0,0)).1) (0,0)) (m.P.getD ((m.T.getD i (0,0,0)).2.1) (0,0)) (m.P.getD ((m.T.getD i (0,0,0)).2.2) (0,0)) oo oo oo oo oo oo) dd ?_;refine yq I I I (.neq I I) ?_;refine Jn (λr  =>(by exfalso;exact(bne_iff_ne.1 r) X)) (λr  =>?_);refine au 0x37caf4f ?_;refine zp (.pN (i+1)<|.add I I)<|au 0x24 ?_;intro a w h;exact⟨i+1,⟨oo,tO h⟩,oo⟩
 have x:m.T.length=i:=dF K;subst x;refine gC h<|au 0x824d2fc1f46f3110e ?_;clear h;intro a w h;refine lpG h [1,3,12,13,14,61,62] pkL (λY Z (j:Nat) a w=>j<=m.S.length/\St 94 S w0 ((63,nI j)::Y) [(J,bV (Qm m f e b A H D) 38)] Z a w) (λj=>m.S.length-j) 0 (⟨cX _,by exact(h).sub sA⟩) ?_;clear h;rintro j a w ⟨O,h⟩;refine gC h<|au 0x12d31 ?_;intro a w h;refine Zb h I (λg=>?_) (λg=>?_)
 ·have v:j<m.S.length:=dT g;obtain ⟨z,G,rfl⟩:=h.row_addr (ad:=b) (M:=cellsOf Ze m.S) mm (nE 3);obtain ⟨s1,s2,s3⟩:=hv.sd _ (getD_mem m.S (d:=(0,0,0)) v);refine gC h<|au 0xb8f31817 ?_;refine zD I mm (cells_lt (k:=3) dd (λ_=>rfl) m.S j oo) isAgg143 sizeOf143 (Zh (k:=3) (λ_=>rfl) ((λ_=>rfl)) m.S (0,0,0) j oo) (.inl I) ?_;refine zz HJ λb7=>stW I I Qi ?_;refine au 0x470ffaf312 ?_;refine zv [_,_] I call137 (Aa ((m.S.getD j (0,0,0)).1) m.P.length) (bbT (λq=>(by exfalso;exact of_decide_eq_false q s1)) λq=>au 0x440f ?_);refine zq 72 I I (.fA I C0)<|ldQ 72 Vg ?_;refine zq 72 I I (.move I) ?_;clear h;intro a w h;refine Zq 72 h I I<|Xn h (vs:=[_,_]) I call137 (Aa ((m.S.getD j (0,0,0)).2.1) m.P.length) dd ?_;clear h;intro a w h;refine gL h (bbT (λl=>(by exfalso;exact of_decide_eq_false l s2)) λl=>zq 72 I I (.unOp I<|Yt _)<|au 0x42e ?_);refine zq 79 I I (.fA I CZ)<|ldQ 79 Gl ?_;refine zq 79 I I (.lss I I) (bbF (λn=>(by exfalso;have:=of_decide_eq_true n;omega)) λn=>au 0x42e ?_);refine zq 84 I I (.fA I CZ)<|ldQ 84 Gl ?_;refine zq 84 I I (.gtr I I) (bbF (λp=>(by exfalso;have:=of_decide_eq_true p;omega)) λp=>au 0x37c22e ?_);refine zp (.pN (j+1)<|.add I I)<|au 0x24 ?_;clear h;intro a w h;exact⟨j+1,⟨oo,tO h⟩,oo⟩
 have y:m.S.length=j:=dF g;subst y;refine gC h<|au 0x625c0fa0fb0f31f310e ?_;refine rtK ?_;congr 1;exact decide_eq_true (by have:=hv.ne;omega)
theorem MX: (Go.builtin .len #[110] g h #[.slice x c o]).run prog w=.ok (.value (.int .i64 c)) w:=by
 simp[go_sem]
theorem UE: (Instr.buildSlice 34 0 [].toArray).run prog w=.ok (.slice (some ⟨w.heap.size,0,none⟩) 0 0) (w.alloc (.cells #[] 106 (0,0))):=by
 simp[go_sem]
theorem kJ: (Instr.buildSlice 35 0 [].toArray).run prog w=.ok (.slice (some ⟨w.heap.size,0,none⟩) 0 0) (w.alloc (.cells #[] 133 (0,0))):=by
 simp[go_sem]
theorem kH: (Instr.buildSlice 36 0 [].toArray).run prog w=.ok (.slice (some ⟨w.heap.size,0,none⟩) 0 0) (w.alloc (.cells #[] 143 (0,0))):=by
 simp[go_sem]
theorem IL(a:c<=o): Jk prog 81 [.slice x c o] (.slice x c c):=by
 refine fnI func81 I ntmps81 λS w0 b=>au 0x21f421f44312531 ?_;refine zp (.slice I none (some _) (some _) I I I (λw=>Yd runUnderlying34 sizeOf106 _ _ _ a w))<|za I<|zn<|zt<|rtK I
theorem US(a:c<=o): Jk prog 127 [.slice x c o] (.slice x c c):=by
 refine fnI func127 I ntmps127 λS w0 b=>au 0xa0f4a0f44312531 ?_;refine zp (.slice I none (some _) (some _) I I I (λw=>Yd runUnderlying35 sizeOf133 _ _ _ a w))<|za I<|zn<|zt<|rtK I
theorem UT(a:c<=o): Jk prog 223 [.slice x c o] (.slice x c c):=by
 refine fnI func223 I ntmps223 λS w0 b=>au 0xd2f4d2f44312531 ?_;refine zp (.slice I none (some _) (some _) I I I (λw=>Yd runUnderlying36 sizeOf143 _ _ _ a w))<|za I<|zn<|zt<|rtK I
theorem UX(a:c<=o): Jk prog 124 [.slice x c o] (.slice x c c):=by
 refine fnI func124 I ntmps124 λS w0 b=>au 0x23f423f44312531 ?_;refine zp (.slice I none (some _) (some _) I I I (λw=>Yd runUnderlying110 sizeOf114 _ _ _ a w))<|za I<|zn<|zt<|rtK I
theorem CY:∀l:List Pt,(cellsOf encPt l).all flat=true
 | []=>rfl
 | x::l=>by rw[show cellsOf encPt (x::l)=(encPt x).cells.toList++cellsOf encPt l from rfl,u4,CY l];rfl
theorem Ut: RN (do eqGuard .eql 34 X Y (.slice (some ⟨c,o,none⟩) y f) (.slice none 0 0);Go.binOp .eql 34 (.slice (some ⟨c,o,none⟩) y f) (.slice none 0 0):Sem Value) (.bool false):=λw=>by
 simp[go_sem];have e:(Op.equalIn 10000 34 (.slice (some ⟨c,o,none⟩) y f) (.slice none 0 0)).run prog w=.ok false w:=by
  rw[show(10000:Nat)=9999+1 from rfl,Op.equalIn];simp[go_sem]
 show(do pure (.bool (<-Op.equal 34 _ _)):Sem Value).run prog w=_;unfold Op.equal;simp only[bl];rw[show Op.maxDepth=10000 from rfl,e];rfl
theorem QF(l:List Pt)(r:l.length<=1000000): CtrO prog 77 [.slice (some ⟨c,o,none⟩) l.length y] [Row (some ⟨c,o,none⟩) (cellsOf encPt l)]
   (λv f => ∃i g R,v=.slice (some ⟨i,0,none⟩) l.length g/\l.length<=g/\f=[(i,.cells (cellsOf encPt l++R).toArray 106 (0,0))]):=by
 refine fn_introO func77 I ntmps77 nb ?_;intro S w0 a q h;refine gC h<|au 0x43112531 ?_;refine zp (.binOp I I<|Ut _ _ _ _ _ _) ?_;clear h;intro a w h;refine Zi h (λd h=>(by exfalso;cases d)) (λd h=>?_);refine wpList_nil<|cW<|Zj h I<|gC h<|zk<|zS (zB [] I (UE) λm=>zm I ?_);clear h;intro a w h;refine Zc<|Gw (b:=m) (xs:=[]) (ys:=cellsOf encPt l) (ad2:=some ⟨c,o,none⟩) (k:=10) h I I mm I runUnderlying34 runUnderlying34 typeInfo106 sizeOf106 Xe I dd dd (by exact cellsOf_length (k:=10) (λ_=>rfl) l) (CY _) (by show 112*(2*_+192)<=281474976710656;omega) dd ?_;clear h;intro j n p a w e h;rw[ca,ec] at h;rw[ca] at e;refine gL h<|au 0x625 ?_;clear h;intro a w h;exact HV h (Zd h I (.tmp I)) ⟨j,n,p,rfl,e,rfl⟩ (fT _)
theorem F3:∀l:List (Nat×Nat×Nat),(cellsOf Ze l).all flat=true
 | []=>rfl
 | x::l=>by rw[show cellsOf Ze (x::l)=(Ze x).cells.toList++cellsOf Ze l from rfl,u4,F3 l];rfl
theorem jY: RN (do eqGuard .eql 35 X Y (.slice (some ⟨c,o,none⟩) y f) (.slice none 0 0);Go.binOp .eql 35 (.slice (some ⟨c,o,none⟩) y f) (.slice none 0 0):Sem Value) (.bool false):=λw=>by
 simp[go_sem];have e:(Op.equalIn 10000 35 (.slice (some ⟨c,o,none⟩) y f) (.slice none 0 0)).run prog w=.ok false w:=by
  rw[show(10000:Nat)=9999+1 from rfl,Op.equalIn];simp[go_sem]
 show(do pure (.bool (<-Op.equal 35 _ _)):Sem Value).run prog w=_;unfold Op.equal;simp only[bl];rw[show Op.maxDepth=10000 from rfl,e];rfl
theorem QE(r:L.length<=1000000): CtrO prog 128 [.slice (some ⟨c,o,none⟩) L.length y] [Row (some ⟨c,o,none⟩) (cellsOf Ze L)]
   (λv f => ∃i g R,v=.slice (some ⟨i,0,none⟩) L.length g/\L.length<=g/\f=[(i,.cells (cellsOf Ze L++R).toArray 133 (0,0))]):=by
 refine fn_introO func128 I ntmps128 nb ?_;intro S w0 a q h;refine gC h<|au 0x43112531 ?_;refine zp (.binOp I I<|jY _ _ _ _ _ _) ?_;clear h;intro a w h;refine Zi h (λd h=>(by exfalso;cases d)) (λd h=>?_);refine wpList_nil<|cW<|Zj h I<|gC h<|zk<|zS (zB [] I (kJ) λm=>zm I ?_);clear h;intro a w h;refine Zc<|Gw (b:=m) (xs:=[]) (ys:=cellsOf Ze L) (ad2:=some ⟨c,o,none⟩) (k:=3) h I I mm I runUnderlying35 runUnderlying35 typeInfo133 sizeOf133 Bj I dd dd (by exact cellsOf_length (k:=3) (λ_=>rfl) L) (F3 _) (by show 24*(2*_+192)<=281474976710656;omega) dd ?_;clear h;intro j n p a w e h;rw[ca,ec] at h;rw[ca] at e;refine gL h<|au 0x625 ?_;clear h;intro a w h;exact HV h (Zd h I (.tmp I)) ⟨j,n,p,rfl,e,rfl⟩ (fT _)
theorem F4:∀l:List (Nat×Nat×Nat),(cellsOf Ze l).all flat=true
 | []=>rfl
 | x::l=>by rw[show cellsOf Ze (x::l)=(Ze x).cells.toList++cellsOf Ze l from rfl,u4,F4 l];rfl
theorem jX: RN (do eqGuard .eql 36 X Y (.slice (some ⟨c,o,none⟩) y f) (.slice none 0 0);Go.binOp .eql 36 (.slice (some ⟨c,o,none⟩) y f) (.slice none 0 0):Sem Value) (.bool false):=λw=>by
 simp[go_sem];have e:(Op.equalIn 10000 36 (.slice (some ⟨c,o,none⟩) y f) (.slice none 0 0)).run prog w=.ok false w:=by
  rw[show(10000:Nat)=9999+1 from rfl,Op.equalIn];simp[go_sem]
 show(do pure (.bool (<-Op.equal 36 _ _)):Sem Value).run prog w=_;unfold Op.equal;simp only[bl];rw[show Op.maxDepth=10000 from rfl,e];rfl
theorem fR(r:L.length<=1000000): CtrO prog 235 [.slice (some ⟨c,o,none⟩) L.length y] [Row (some ⟨c,o,none⟩) (cellsOf Ze L)]
   (λv f => ∃i g R,v=.slice (some ⟨i,0,none⟩) L.length g/\L.length<=g/\f=[(i,.cells (cellsOf Ze L++R).toArray 143 (0,0))]):=by
 refine fn_introO func235 I ntmps235 nb ?_;intro S w0 a q h;refine gC h<|au 0x43112531 ?_;refine zp (.binOp I I<|jX _ _ _ _ _ _) ?_;clear h;intro a w h;refine Zi h (λd h=>(by exfalso;cases d)) (λd h=>?_);refine wpList_nil<|cW<|Zj h I<|gC h<|zk<|zS (zB [] I (kH) λm=>zm I ?_);clear h;intro a w h;refine Zc<|Gw (b:=m) (xs:=[]) (ys:=cellsOf Ze L) (ad2:=some ⟨c,o,none⟩) (k:=3) h I I mm I runUnderlying36 runUnderlying36 typeInfo143 sizeOf143 HJ I dd dd (by exact cellsOf_length (k:=3) (λ_=>rfl) L) (F4 _) (by show 24*(2*_+192)<=281474976710656;omega) dd ?_;clear h;intro j n p a w e h;rw[ca,ec] at h;rw[ca] at e;refine gL h<|au 0x625 ?_;clear h;intro a w h;exact HV h (Zd h I (.tmp I)) ⟨j,n,p,rfl,e,rfl⟩ (fT _)
end Go.Proofs.YtdadideknhmbbaaGreatDoor
namespace Go.Proofs.YtdadideknhmbbaaGreatDoor
open Go Go.Proofs Go.Fx Go.Shelf Go.RowKit Go.Sort Tryz
variable(b l:Nat)(u v:Pt)
def VU:Go.Shelf.Ren:=⟨fun|14=>280|20=>302|21=>303|22=>304|23=>305|24=>306|25=>307|26=>308|27=>309|46=>323|47=>269|48=>270|49=>324|50=>325|15=>115|57=>330|28=>208|29=>209|n=>n,fun|24=>106|22=>34|3=>3|25=>325|4=>4|0=>0|46=>288|45=>287|50=>134|66=>347|39=>199|55=>39|70=>351|76=>375|77=>376|53=>89|5=>5|9=>9|n=>n,fun|n=>n⟩
theorem pdqFnP:Go.Proofs.SlLaysF0.n14 prog VU:={
 mixed:=by kernel_rfl
 f14:=⟨Tryz.f280.name,by decide,func280.trans (congrArg some kk)⟩
 f15:=func115.trans (congrArg some kk)
 f20:=⟨Tryz.f302.name,by decide,func302.trans (congrArg some kk)⟩
 f21:=⟨Tryz.f303.name,by decide,func303.trans (congrArg some kk)⟩
 f22:=⟨Tryz.f304.name,by decide,func304.trans (congrArg some kk)⟩
 f23:=⟨Tryz.f305.name,by decide,func305.trans (congrArg some kk)⟩
 f24:=⟨Tryz.f306.name,by decide,func306.trans (congrArg some kk)⟩
 f25:=⟨Tryz.f307.name,by decide,func307.trans (congrArg some kk)⟩
 f26:=⟨Tryz.f308.name,by decide,func308.trans (congrArg some kk)⟩
 f27:=⟨Tryz.f309.name,by decide,func309.trans (congrArg some kk)⟩
 f28:=func208.trans (congrArg some kk)
 f29:=func209.trans (congrArg some kk)
 f46:=⟨Tryz.f323.name,by decide,func323.trans (congrArg some kk)⟩
 f47:=func269.trans (congrArg some kk)
 f48:=func270.trans (congrArg some kk)
 f49:=⟨Tryz.f324.name,by decide,func324.trans (congrArg some kk)⟩
 f50:=⟨Tryz.f325.name,by decide,func325.trans (congrArg some kk)⟩
 f57:=⟨Tryz.f330.name,by decide,func330.trans (congrArg some kk)⟩
 t0:=underlying0
 a0:=isAgg0
 z0:=sizeOf0
 v0:=zeroValue0
 t3:=underlying3
 a3:=isAgg3
 z3:=sizeOf3
 v3:=zeroValue3
 t4:=underlying4
 a4:=isAgg4
 z4:=sizeOf4
 v4:=zeroValue4
 t5:=underlying5
 a5:=isAgg5
 z5:=sizeOf5
 v5:=zeroValue5
 t9:=underlying9
 a9:=isAgg9
 z9:=sizeOf9
 v9:=zeroValue9
 t22:=underlying34
 a22:=isAgg34
 z22:=sizeOf34
 v22:=zeroValue34
 t25:=underlying325
 a25:=isAgg325
 z25:=sizeOf325
 v25:=zeroValue325
 t39:=underlying199
 a39:=isAgg199
 z39:=sizeOf199
 v39:=zeroValue199
 t45:=underlying287
 a45:=isAgg287
 z45:=sizeOf287
 v45:=zeroValue287
 t46:=underlying288
 a46:=isAgg288
 z46:=sizeOf288
 v46:=zeroValue288
 t50:=underlying134
 a50:=isAgg134
 z50:=sizeOf134
 v50:=zeroValue134
 t53:=underlying89
 a53:=isAgg89
 z53:=sizeOf89
 v53:=zeroValue89
 t55:=underlying39
 a55:=isAgg39
 z55:=sizeOf39
 v55:=zeroValue39
 t66:=underlying347
 a66:=isAgg347
 z66:=sizeOf347
 v66:=zeroValue347
 t70:=underlying351
 a70:=isAgg351
 z70:=sizeOf351
 v70:=zeroValue351
 t76:=underlying375
 a76:=isAgg375
 z76:=sizeOf375
 v76:=zeroValue375
 t77:=underlying376
 a77:=isAgg376
 z77:=sizeOf376
 v77:=zeroValue376 }
def VW:Go.Shelf.Ren:=⟨fun|14=>267|20=>291|21=>292|22=>293|23=>294|24=>295|25=>296|26=>297|27=>298|46=>320|47=>269|48=>270|49=>321|50=>322|15=>115|57=>329|28=>208|29=>209|n=>n,fun|24=>114|22=>110|3=>3|25=>282|4=>4|0=>0|46=>288|45=>287|50=>134|66=>347|39=>199|55=>39|70=>351|76=>375|77=>376|53=>89|5=>5|9=>9|n=>n,fun|n=>n⟩
theorem pdqFnE:Go.Proofs.SlLaysF0.n14 prog VW:={
 mixed:=by kernel_rfl
 f14:=⟨Tryz.f267.name,by decide,func267.trans (congrArg some kk)⟩
 f15:=func115.trans (congrArg some kk)
 f20:=⟨Tryz.f291.name,by decide,func291.trans (congrArg some kk)⟩
 f21:=⟨Tryz.f292.name,by decide,func292.trans (congrArg some kk)⟩
 f22:=⟨Tryz.f293.name,by decide,func293.trans (congrArg some kk)⟩
 f23:=⟨Tryz.f294.name,by decide,func294.trans (congrArg some kk)⟩
 f24:=⟨Tryz.f295.name,by decide,func295.trans (congrArg some kk)⟩
 f25:=⟨Tryz.f296.name,by decide,func296.trans (congrArg some kk)⟩
 f26:=⟨Tryz.f297.name,by decide,func297.trans (congrArg some kk)⟩
 f27:=⟨Tryz.f298.name,by decide,func298.trans (congrArg some kk)⟩
 f28:=func208.trans (congrArg some kk)
 f29:=func209.trans (congrArg some kk)
 f46:=⟨Tryz.f320.name,by decide,func320.trans (congrArg some kk)⟩
 f47:=func269.trans (congrArg some kk)
 f48:=func270.trans (congrArg some kk)
 f49:=⟨Tryz.f321.name,by decide,func321.trans (congrArg some kk)⟩
 f50:=⟨Tryz.f322.name,by decide,func322.trans (congrArg some kk)⟩
 f57:=⟨Tryz.f329.name,by decide,func329.trans (congrArg some kk)⟩
 t0:=underlying0
 a0:=isAgg0
 z0:=sizeOf0
 v0:=zeroValue0
 t3:=underlying3
 a3:=isAgg3
 z3:=sizeOf3
 v3:=zeroValue3
 t4:=underlying4
 a4:=isAgg4
 z4:=sizeOf4
 v4:=zeroValue4
 t5:=underlying5
 a5:=isAgg5
 z5:=sizeOf5
 v5:=zeroValue5
 t9:=underlying9
 a9:=isAgg9
 z9:=sizeOf9
 v9:=zeroValue9
 t22:=underlying110
 a22:=isAgg110
 z22:=sizeOf110
 v22:=zeroValue110
 t25:=underlying282
 a25:=isAgg282
 z25:=sizeOf282
 v25:=zeroValue282
 t39:=underlying199
 a39:=isAgg199
 z39:=sizeOf199
 v39:=zeroValue199
 t45:=underlying287
 a45:=isAgg287
 z45:=sizeOf287
 v45:=zeroValue287
 t46:=underlying288
 a46:=isAgg288
 z46:=sizeOf288
 v46:=zeroValue288
 t50:=underlying134
 a50:=isAgg134
 z50:=sizeOf134
 v50:=zeroValue134
 t53:=underlying89
 a53:=isAgg89
 z53:=sizeOf89
 v53:=zeroValue89
 t55:=underlying39
 a55:=isAgg39
 z55:=sizeOf39
 v55:=zeroValue39
 t66:=underlying347
 a66:=isAgg347
 z66:=sizeOf347
 v66:=zeroValue347
 t70:=underlying351
 a70:=isAgg351
 z70:=sizeOf351
 v70:=zeroValue351
 t76:=underlying375
 a76:=isAgg375
 z76:=sizeOf375
 v76:=zeroValue375
 t77:=underlying376
 a77:=isAgg376
 z77:=sizeOf376
 v77:=zeroValue376 }
theorem JB: CV u v=true↔(u.1<v.1\/(u.1=v.1/\u.2<v.2)):=by
 have h1:∀x:Rat,x.num.sign<0↔x<0:=λx=>G3 x;have b:∀x:Rat,x.num.sign=0↔x=0:=λx=>by rw[va,u1]
 unfold CV;split
 ·rename_i h;rw[decide_eq_true_iff,h1];rw[Ne,b] at h;constructor
  ·intro a;exact .inl (by grind)
  rintro(a|a)
  ·grind
  exact absurd (show u.1-v.1=0 by grind) h
 rename_i h;rw[Ne,Decidable.not_not,b] at h;rw[decide_eq_true_iff,h1];constructor
 ·intro a;exact .inr ⟨by grind,by grind⟩
 rintro(a|a)
 ·grind
 grind
theorem Dz: (ltOf ge) u v=CV u v:=by
 unfold ltOf ge;by_cases h:CV u v=true
 ·rw[if_pos h,h];rfl
 rw[if_neg h,Bool.eq_false_iff.2 h];split<;>rfl
theorem swoP:SWO (ltOf ge):=by
 have a:=JB;have hf:∀u v,CV u v=false ↔ ¬(u.1<v.1\/(u.1=v.1/\u.2<v.2)):=λu v=>by rw[<-JB,vV]
 refine⟨λx=>?_,λx y z h1 b=>?_,λx y z h1 b=>?_⟩
 ·rw[Dz,hf];grind
 ·rw[Dz,a] at *;grind
 rw[Dz,hf] at *;grind
theorem totP(h1:(ltOf ge) u v=false)(b:(ltOf ge) v u=false): u=v:=by
 have hf:∀u v,CV u v=false ↔ ¬(u.1<v.1\/(u.1=v.1/\u.2<v.2)):=λu v=>by rw[<-JB,vV]
 rw[Dz,hf] at h1 b;have c:u.1=v.1:=by grind
 have a:u.2=v.2:=by grind
 exact uI c a
theorem C_pdqP(p:List Pt)(R:List Value)(a:Nat)(c:a<4611686018427387904)(d:0<p.length)(hk:∀x∈p,PtK 100000 x)(f:p.length<=1000000)(σ:List (Nat×Obj))(Φ:List Zs):
  GX prog 280 [.slice (some ⟨b,0,none⟩) p.length l,.int .i64 ((0:Nat):Int),.int .i64 ((p.length:Nat):Int),.int .i64 ((a:Nat):Int),.func (.func 241) #[] #[]]
   ((b,.cells (cellsOf encPt p++R).toArray 106 (0,0))::σ) Φ
   (λv σ' Ψ=>v=.tuple #[]/\σ'=(b,.cells (cellsOf encPt (p.mergeSort λx y => !CV y x)++R).toArray 106 (0,0))::σ/\Ψ=Φ):=by
 have h:=Uz (P:=prog) (k:=10) (en:=λx:Pt=>(encPt x).cells.toList) (σ:=σ) (Φ:=Φ) pdqFnP isAgg106 sizeOf106 (λ_=>rfl) dd
  (λx v hv=>by
   simp only[Value.cells,cZ,cf,or_false] at hv;rcases hv with rfl|rfl|rfl|rfl|rfl|rfl|rfl|rfl|rfl|rfl<;>rfl)
  ge swoP p d (λx _ y _=>totP x y) (g:=241) (cb:=#[]) call241
  (λx hx y e=>J3 (se x y (hk x hx) (hk y e)) Φ) b l 106 R a c oo
 simp only[Dz] at h;exact h
theorem C_pdqE(p:List Ed)(R:List Value)(c:Nat)(d:c<4611686018427387904)(f:0<p.length)(hd:∀x∈p,∀y∈p,x.a=y.a->x.b=y.b->x=y)(hk:∀x y,Jk prog 193 [Qr x,Qr y] (.int .i64 (cfE x y)))(j:p.length<=1000000)(σ:List (Nat×Obj))(Φ:List Zs):
  GX prog 267 [.slice (some ⟨b,0,none⟩) p.length l,.int .i64 ((0:Nat):Int),.int .i64 ((p.length:Nat):Int),.int .i64 ((c:Nat):Int),.func (.func 193) #[] #[]]
   ((b,.cells (cellsOf Qr p++R).toArray 114 (0,0))::σ) Φ
   (λv σ' Ψ=>v=.tuple #[]/\σ'=(b,.cells (cellsOf Qr (fW p)++R).toArray 114 (0,0))::σ/\Ψ=Φ):=by
 have hl:∀x y,(ltOf cfE) x y=decide (x.a<y.a\/(x.a=y.a/\x.b<y.b)):=λx y=>by
  rw[sv,decide_eq_true_iff, <-cfE_lt];unfold ltOf;rw[decide_eq_true_iff]
 have hle:∀x y,(!(ltOf cfE) y x)=XB x y:=λx y=>by
  rw[hl,sv,C3];simp;omega
 have h:=Uz (P:=prog) (k:=4) (en:=λx:Ed=>(Qr x).cells.toList) (σ:=σ) (Φ:=Φ) pdqFnE isAgg114 sizeOf114 (λ_=>rfl) dd
  (λx v hv=>by
   simp only[Value.cells,cZ,cf,or_false] at hv;rcases hv with rfl|rfl|rfl|rfl<;>rfl)
  cfE ⟨λx=>by rw[hl];simp,λx y z h1 e=>by rw[hl,decide_eq_true_iff] at *;omega,λx y z h1 e=>by rw[hl,decide_eq_false_iff_not] at *;omega⟩ p f
  (λx hx y i h1 e=>hd x hx y i (by rw[hl,decide_eq_false_iff_not] at *;omega) (by rw[hl,decide_eq_false_iff_not] at *;omega)) (g:=193) (cb:=#[]) call193
  (λx _ y _=>J3 (hk x y) Φ) b l 114 R c d oo
 simp only[hle] at h;rw[ac (cr p) hd] at h;exact h
end Go.Proofs.YtdadideknhmbbaaGreatDoor
