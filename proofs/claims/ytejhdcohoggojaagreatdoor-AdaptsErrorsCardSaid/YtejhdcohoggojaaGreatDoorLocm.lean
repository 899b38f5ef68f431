/- Walks of functions. By an AI agent. -/
import Derived.Test.YtejhdcohoggojaaGreatDoorPolyse
import Derived.Test.YtejhdcohoggojaaGreatDoorFxP
set_option linter.unusedVariables false
set_option linter.unusedSimpArgs false
set_option maxRecDepth 4000
set_option maxHeartbeats 1000000
namespace Go.Proofs.YtejhdcohoggojaaGreatDoor
open Go Go.Proofs Go.Fx Tryz
attribute [local irreducible] Oper.wp Code.wp wpList Fx.Head wpOp Zl
section
def crQ(u v:Pt): Rat:=u.1*v.2-u.2*v.1
def Vh(a b:Pt): Pt:=(a.1-b.1,a.2-b.2)
def addP(a b:Pt): Pt:=(a.1+b.1,a.2+b.2)
def sclP(a:Pt)(k:Rat): Pt:=(a.1*k,a.2*k)
def bU(a b:Pt): Rat:=a.1*b.1+a.2*b.2
def twP(a b c:Pt): Rat:=crQ (Vh b a) (Vh c a)
theorem twP_eq(a b c:Pt): twP a b c=twQ a b c:=by unfold twP crQ Vh twQ;grind
def grP(e f:Pt)(t:Rat): Pt:=(-((Vh e f).2)/t,(Vh e f).1/t)
def Jz(a b c:Pt): Pt×Pt×Pt:=(grP c b (twP a b c),grP a c (twP a b c),grP b a (twP a b c))
def Gf(a b c p:Pt): Rat×Rat×Rat:=(twP p b c/twP a b c,twP a p c/twP a b c,twP a b p/twP a b c)
def vx(a b c:Pt)(s t:Rat): Rat:=(b.1-a.1)*s+(c.1-a.1)*t+a.1
def vy(a b c:Pt)(s t:Rat): Rat:=(b.2-a.2)*s+(c.2-a.2)*t+a.2
structure Pw where
 i:Nat
 j:Nat
 k:Nat
 c:Rat
def El(c:Int)(l:List Nat): Pw:=⟨l.count 0,l.count 1,l.count 2,(c:Rat)⟩
def sdA:Nat→Nat
 | 0=>1
 | 1=>2
 | _=>0
def sdB:Nat→Nat
 | 0=>2
 | 1=>0
 | _=>1
def Yd(o n:Nat): List Pw:=if o=1 then [El 1 [n]] else if n<3 then [El 2 [n,n],El (-1) [n]] else [El 4 [sdA (n-3),sdB (n-3)]]
def Gz(o:Nat): Nat:=if o=1 then 3 else 6
def exP(p:Pw): Nat→Nat
 | 0=>p.i
 | 1=>p.j
 | _=>p.k
def dnP(b:Nat)(p:Pw): Pw:=match b with
 | 0=>⟨p.i-1,p.j,p.k,p.c*((p.i:Int):Rat)⟩
 | 1=>⟨p.i,p.j-1,p.k,p.c*((p.j:Int):Rat)⟩
 | _=>⟨p.i,p.j,p.k-1,p.c*((p.k:Int):Rat)⟩
def slp(b:Nat)(l:List Pw): List Pw:=(l.filter (fun p=>decide (exP p b≠0))).map (dnP b)
def tgS(p:Pw)(s:Rat)(q:Pw): Rat:=s+p.c*q.c*kY (p.i+q.i) (p.j+q.j) (p.k+q.k)
def tgI(b:List Pw)(s:Rat)(p:Pw): Rat:=b.foldl (tgS p) s
def tgQ(a b:List Pw): Rat:=a.foldl (tgI b) 0
def massE(o n m:Nat): Rat:=tgQ (Yd o n) (Yd o m)
def tensE(o n m i k:Nat): Rat:=tgQ (slp i (Yd o n)) (slp k (Yd o m))
def stE(o:Nat)(B:List Rat)(n m:Nat): Rat:=(List.range 9).foldl (fun s t=>s+tensE o n m (t/3) (t%3)*B.getD t 0) 0
def flowP(k:Rat×Rat×Rat)(g:Pt): Pt:=(k.1*g.1+k.2.1*g.2,k.2.1*g.1+k.2.2*g.2)
def Ab:Rat:=((1:Int):Rat)/((2:Int):Rat)
def Z7(a b c:Pt): Rat:=twP a b c*Ab
def byP(k:Rat×Rat×Rat)(A:Rat)(gi gj:Pt): Rat:=A*bU (flowP k gj) gi
def byL(k:Rat×Rat×Rat)(A:Rat)(g:Pt×Pt×Pt): List Rat :=
 [byP k A g.1 g.1,byP k A g.1 g.2.1,byP k A g.1 g.2.2,byP k A g.2.1 g.1,byP k A g.2.1 g.2.1,byP k A g.2.1 g.2.2,byP k A g.2.2 g.1,byP k A g.2.2 g.2.1,byP k A g.2.2 g.2.2]
def Lu(at':Rat)(g:Pt): List Tm:=norm (norm [⟨0,0,at'⟩]++norm (norm (Qc g.1 [⟨1,0,1⟩])++norm (Qc g.2 [⟨0,1,1⟩])))
def mulN(v l:List Tm): Nat→List Tm
 | 0=>v
 | n+1=>norm (Yx (mulN v l n) l)
def pwP(l0 l1 l2:List Tm)(p:Pw): List Tm:=mulN (mulN (mulN (norm [⟨0,0,p.c⟩]) l0 p.i) l1 p.j) l2 p.k
def basL(l0 l1 l2:List Tm)(ps:List Pw): List Tm:=ps.foldl (fun s p=>norm (s++pwP l0 l1 l2 p)) []
def combL(v:List Rat)(l:List (List Tm)): Nat→List Tm
 | 0=>[]
 | k+1=>norm (combL v l k++norm (Qc (v.getD k 0) (l.getD k [])))
def bN(f:Nat→Rat): Nat→Rat
 | 0=>0
 | n+1=>bN f n+f n
def xe:Nat→Nat×Nat
 | 0=>(0,0)
 | 1=>(1,0)
 | 2=>(0,1)
 | 3=>(2,0)
 | 4=>(1,1)
 | _=>(0,2)
def bqF(x y:Nat→Rat): Rat:=bN (fun i=>bN (fun j=>x i*y j*mu ((xe i).1+(xe j).1) ((xe i).2+(xe j).2)) 6) 6
def qL(x:Nat→Rat): List Tm:=[⟨0,0,x 0⟩,⟨1,0,x 1⟩,⟨0,1,x 2⟩,⟨2,0,x 3⟩,⟨1,1,x 4⟩,⟨0,2,x 5⟩]
def evQ(x:Nat→Rat)(s t:Rat): Rat:=x 0+x 1*s+x 2*t+x 3*(s*s)+x 4*(s*t)+x 5*(t*t)
def tabV:Nat→List (List Rat)
 | 1=>[[1, -1, -1],[0,1],[0,0,1]]
 | _=>[[1, -3, -3,2,4,2],[0, -1,0,2],[0,0, -1,0,0,2],[0,0,0,0,4],[0,0,4,0, -4, -4],[0,4,0, -4, -4]]
def tabD:Nat→Nat→List (List Rat)
 | 1,0=>[[1],[],[]]
 | 1,1=>[[],[1],[]]
 | 1,_=>[[],[],[1]]
 | _,0=>[[3, -4, -4],[],[],[],[0,0,4],[0,4]]
 | _,1=>[[],[-1,4],[],[0,0,4],[],[4, -4, -4]]
 | _,_=>[[],[],[-1,0,4],[0,4],[4, -4, -4],[]]
def coV(o n i:Nat): Rat:=((tabV o).getD n []).getD i 0
def coD(o j n i:Nat): Rat:=((tabD o j).getD n []).getD i 0
def grad3(e0 e1 e2:Rat)(o n:Nat)(s t:Rat): Rat:=e0*evQ (coD o 0 n) s t+e1*evQ (coD o 1 n) s t+e2*evQ (coD o 2 n) s t
def lam0(a b c:Pt): List Tm:=Lu (Gf a b c (0,0)).1 (Jz a b c).1
def lam1(a b c:Pt): List Tm:=Lu (Gf a b c (0,0)).2.1 (Jz a b c).2.1
def lam2(a b c:Pt): List Tm:=Lu (Gf a b c (0,0)).2.2 (Jz a b c).2.2
def basis(o:Nat)(a b c:Pt): List (List Tm):=(List.range (Gz o)).map (fun n=>basL (lam0 a b c) (lam1 a b c) (lam2 a b c) (Yd o n))
def cmp3(e0 e1 e2:Rat)(o:Nat)(v:List Rat)(i:Nat): Rat:=e0*bN (fun n=>v.getD n 0*coD o 0 n i) (Gz o)+e1*bN (fun n=>v.getD n 0*coD o 1 n i) (Gz o)+e2*bN (fun n=>v.getD n 0*coD o 2 n i) (Gz o)
def formQ(f:Nat→Nat→Rat)(v:List Rat)(N:Nat): Rat:=bN (fun n=>v.getD n 0*bN (fun m=>f n m*v.getD m 0) N) N
def sumD(o:Nat)(v:List Rat)(j i:Nat): Rat:=bN (fun n=>v.getD n 0*coD o j n i) (Gz o)
def overQ(P Q:List Tm)(a b c:Pt): Rat:=VA (norm (Yx P Q)) a b c
theorem lJ:Ab=1/2:=rfl
end
section
theorem Si{b off:Nat}: RN (Instr.fieldAt 119 (.pointer (some ⟨b,off,none⟩)) 0) (.pointer (some ⟨b,off+0,none⟩)):=fun w=>by
 simp[go_sem]
theorem Sg{b off:Nat}: RN (Instr.fieldAt 119 (.pointer (some ⟨b,off,none⟩)) 1) (.pointer (some ⟨b,off+5,none⟩)):=fun w=>by
 simp[go_sem]
theorem K3(c j a f b h i d g e:Value): RN (Instr.build 119 [(0,.agg #[c,j,a,f,b]),(1,.agg #[h,i,d,g,e])].toArray) (.agg #[c,j,a,f,b,h,i,d,g,e]):=fun w=>by simp[go_sem]
theorem I5(c o a f b m n d k e g h i j l:Value): RN (Instr.build 52 [(0,.agg #[c,o,a,f,b]),(1,.agg #[m,n,d,k,e]),(2,.agg #[g,h,i,j,l])].toArray) (.agg #[c,o,a,f,b,m,n,d,k,e,g,h,i,j,l]):=fun w=>by simp[go_sem]
theorem BR{c0 c1 c2 k m j n l o p d c g e f v0 v1 v2 v3 v4 v5 v6 h i v9 v10 v11 v12 b a:Value}: Zl #[c0,c1,c2,k,m,j,n,l,o,p,d,c,g,e,f] 0 [v0,v1,v2,v3,v4,v5,v6,h,i,v9,v10,v11,v12,b,a]=#[v0,v1,v2,v3,v4,v5,v6,h,i,v9,v10,v11,v12,b,a]:=by kernel_rfl
theorem HL(b off:Nat): RN (Instr.indexAt 52 (.pointer (some ⟨b,off,none⟩)) (.int .i64 0)) (.pointer (some ⟨b,off+0,none⟩)):=fun w=>by
 simp[go_sem,Instr.indexAt]
theorem If{c0 c1 c2 f g h j i k l b a e c d:Value}: Zk true 5 #[c0,c1,c2,f,g,h,j,i,k,l,b,a,e,c,d] 0=some (.agg #[c0,c1,c2,f,g]):=rfl
theorem VM{c0 c1 c2 k l f h g i j b a e c d v0 v1 v2 v3 v4:Value}: Zl #[c0,c1,c2,k,l,f,h,g,i,j,b,a,e,c,d] 0 [v0,v1,v2,v3,v4]=#[v0,v1,v2,v3,v4,f,h,g,i,j,b,a,e,c,d]:=by kernel_rfl
theorem E1(b off:Nat): RN (Instr.indexAt 52 (.pointer (some ⟨b,off,none⟩)) (.int .i64 1)) (.pointer (some ⟨b,off+5,none⟩)):=fun w=>by
 simp[go_sem,Instr.indexAt]
theorem EQ{c0 c1 c2 k l f h g i j b a e c d:Value}: Zk true 5 #[c0,c1,c2,k,l,f,h,g,i,j,b,a,e,c,d] 5=some (.agg #[f,h,g,i,j]):=rfl
theorem VL{c0 c1 c2 f g h j i k l b a e c d v0 v1 v2 v3 v4:Value}: Zl #[c0,c1,c2,f,g,h,j,i,k,l,b,a,e,c,d] 5 [v0,v1,v2,v3,v4]=#[c0,c1,c2,f,g,v0,v1,v2,v3,v4,b,a,e,c,d]:=by kernel_rfl
theorem E0(b off:Nat): RN (Instr.indexAt 52 (.pointer (some ⟨b,off,none⟩)) (.int .i64 2)) (.pointer (some ⟨b,off+10,none⟩)):=fun w=>by
 simp[go_sem,Instr.indexAt]
theorem Gw{c0 c1 c2 f i g j h k l b a e c d:Value}: Zk true 5 #[c0,c1,c2,f,i,g,j,h,k,l,b,a,e,c,d] 10=some (.agg #[b,a,e,c,d]):=rfl
theorem Tf{c0 c1 c2 g i f j h k l b a e c d v0 v1 v2 v3 v4:Value}: Zl #[c0,c1,c2,g,i,f,j,h,k,l,b,a,e,c,d] 10 [v0,v1,v2,v3,v4]=#[c0,c1,c2,g,i,f,j,h,k,l,v0,v1,v2,v3,v4]:=by kernel_rfl
theorem Gx{c0 c1 c2 f i g j h k l b a e c d:Value}: Zk true 15 #[c0,c1,c2,f,i,g,j,h,k,l,b,a,e,c,d] 0=some (.agg #[c0,c1,c2,f,i,g,j,h,k,l,b,a,e,c,d]):=rfl
theorem Do(r i q l E B u y v c h x j e t k o s d b m n z a A D f C g p:Value): RN (Instr.build 151 [(0,.agg #[r,i,q,l,E,B,u,y,v,c]),(1,.agg #[h,x,j,e,t,k,o,s,d,b]),(2,.agg #[m,n,z,a,A,D,f,C,g,p])].toArray) (.agg #[r,i,q,l,E,B,u,y,v,c,h,x,j,e,t,k,o,s,d,b,m,n,z,a,A,D,f,C,g,p]):=fun w=>by simp[go_sem]
theorem Ky{c0 c1 c2 K F E G H I J z q x r w y i o u m t p s n A j v l k B v0 v1 v2 v3 v4 v5 v6 D C v9 v10 v11 v12 a g c d v17 b e v20 v21 v22 v23 v24 v25 v26 h v28 f:Value}: Zl #[c0,c1,c2,K,F,E,G,H,I,J,z,q,x,r,w,y,i,o,u,m,t,p,s,n,A,j,v,l,k,B] 0 [v0,v1,v2,v3,v4,v5,v6,D,C,v9,v10,v11,v12,a,g,c,d,v17,b,e,v20,v21,v22,v23,v24,v25,v26,h,v28,f]=#[v0,v1,v2,v3,v4,v5,v6,D,C,v9,v10,v11,v12,a,g,c,d,v17,b,e,v20,v21,v22,v23,v24,v25,v26,h,v28,f]:=by kernel_rfl
theorem BY(b off:Nat): RN (Instr.indexAt 151 (.pointer (some ⟨b,off,none⟩)) (.int .i64 2)) (.pointer (some ⟨b,off+20,none⟩)):=fun w=>by
 simp[go_sem,Instr.indexAt]
theorem Gt{c0 c1 c2 A v u w x y z t n r o q s k m p l g e f d i a h c b j:Value}: Zk true 10 #[c0,c1,c2,A,v,u,w,x,y,z,t,n,r,o,q,s,k,m,p,l,g,e,f,d,i,a,h,c,b,j] 20=some (.agg #[g,e,f,d,i,a,h,c,b,j]):=rfl
theorem BZ(b off:Nat): RN (Instr.indexAt 151 (.pointer (some ⟨b,off,none⟩)) (.int .i64 1)) (.pointer (some ⟨b,off+10,none⟩)):=fun w=>by
 simp[go_sem,Instr.indexAt]
theorem Gu{c0 c1 c2 A v u w x y z j d h e g i a c f b q o p n s k r m l t:Value}: Zk true 10 #[c0,c1,c2,A,v,u,w,x,y,z,j,d,h,e,g,i,a,c,f,b,q,o,p,n,s,k,r,m,l,t] 10=some (.agg #[j,d,h,e,g,i,a,c,f,b]):=rfl
theorem B0(b off:Nat): RN (Instr.indexAt 151 (.pointer (some ⟨b,off,none⟩)) (.int .i64 0)) (.pointer (some ⟨b,off+0,none⟩)):=fun w=>by
 simp[go_sem,Instr.indexAt]
theorem VH{c0 c1 c2 A z u v w x y r i p j o q a g m e l h k f s b n d c t v0 v1 v2 v3 v4:Value}: Zl #[c0,c1,c2,A,z,u,v,w,x,y,r,i,p,j,o,q,a,g,m,e,l,h,k,f,s,b,n,d,c,t] 0 [v0,v1,v2,v3,v4]=#[v0,v1,v2,v3,v4,u,v,w,x,y,r,i,p,j,o,q,a,g,m,e,l,h,k,f,s,b,n,d,c,t]:=by kernel_rfl
theorem VG{c0 c1 c2 v u w x y z A r i p j o q a g m e l h k f s b n d c t v0 v1 v2 v3 v4:Value}: Zl #[c0,c1,c2,v,u,w,x,y,z,A,r,i,p,j,o,q,a,g,m,e,l,h,k,f,s,b,n,d,c,t] 5 [v0,v1,v2,v3,v4]=#[c0,c1,c2,v,u,v0,v1,v2,v3,v4,r,i,p,j,o,q,a,g,m,e,l,h,k,f,s,b,n,d,c,t]:=by kernel_rfl
theorem AX{c0 c1 c2 A v u w x y z r i p j o q a g m e l h k f s b n d c t:Value}: Zk true 10 #[c0,c1,c2,A,v,u,w,x,y,z,r,i,p,j,o,q,a,g,m,e,l,h,k,f,s,b,n,d,c,t] 0=some (.agg #[c0,c1,c2,A,v,u,w,x,y,z]):=rfl
theorem Tc{c0 c1 c2 A v u w x y z t p s q r m a g k e j h i f n b l d c o v0 v1 v2 v3 v4:Value}: Zl #[c0,c1,c2,A,v,u,w,x,y,z,t,p,s,q,r,m,a,g,k,e,j,h,i,f,n,b,l,d,c,o] 10 [v0,v1,v2,v3,v4]=#[c0,c1,c2,A,v,u,w,x,y,z,v0,v1,v2,v3,v4,m,a,g,k,e,j,h,i,f,n,b,l,d,c,o]:=by kernel_rfl
theorem Ta{c0 c1 c2 A v u w x y z m f l g k t p r s q i e h d n a j c b o v0 v1 v2 v3 v4:Value}: Zl #[c0,c1,c2,A,v,u,w,x,y,z,m,f,l,g,k,t,p,r,s,q,i,e,h,d,n,a,j,c,b,o] 15 [v0,v1,v2,v3,v4]=#[c0,c1,c2,A,v,u,w,x,y,z,m,f,l,g,k,v0,v1,v2,v3,v4,i,e,h,d,n,a,j,c,b,o]:=by kernel_rfl
theorem S9{c0 c1 c2 A v u w x y z n g l h k m a f i e s q r p t b j d c o v0 v1 v2 v3 v4:Value}: Zl #[c0,c1,c2,A,v,u,w,x,y,z,n,g,l,h,k,m,a,f,i,e,s,q,r,p,t,b,j,d,c,o] 20 [v0,v1,v2,v3,v4]=#[c0,c1,c2,A,v,u,w,x,y,z,n,g,l,h,k,m,a,f,i,e,v0,v1,v2,v3,v4,b,j,d,c,o]:=by kernel_rfl
theorem S8{c0 c1 c2 A v u w x y z n f l g k m a d j b i e h c o p s r q t v0 v1 v2 v3 v4:Value}: Zl #[c0,c1,c2,A,v,u,w,x,y,z,n,f,l,g,k,m,a,d,j,b,i,e,h,c,o,p,s,r,q,t] 25 [v0,v1,v2,v3,v4]=#[c0,c1,c2,A,v,u,w,x,y,z,n,f,l,g,k,m,a,d,j,b,i,e,h,c,o,v0,v1,v2,v3,v4]:=by kernel_rfl
theorem AW{c0 c1 c2 A v u w x y z r i p j o q a g m e l h k f s b n d c t:Value}: Zk true 30 #[c0,c1,c2,A,v,u,w,x,y,z,r,i,p,j,o,q,a,g,m,e,l,h,k,f,s,b,n,d,c,t] 0=some (.agg #[c0,c1,c2,A,v,u,w,x,y,z,r,i,p,j,o,q,a,g,m,e,l,h,k,f,s,b,n,d,c,t]):=by kernel_rfl
theorem cgd{α:Type _}{x y:α}(h:x=y:=by first|rfl|(congr 1;decide)): x=y:=h
theorem Xv(w:World): (zeroValue 119).run prog w=.ok (encPt (0,0)) w:=zeroValue119 w
abbrev Vy(a b c:Pt): Value:=.agg #[.int .u64 (Xr a.1.num.natAbs),.string (Xa a.1.num.natAbs),.bool (decide (a.1.num<0)),.int .u64 (Xr (a.1.den-1)),.string (Xa (a.1.den-1)),.int .u64 (Xr a.2.num.natAbs),.string (Xa a.2.num.natAbs),.bool (decide (a.2.num<0)),.int .u64 (Xr (a.2.den-1)),.string (Xa (a.2.den-1)),.int .u64 (Xr b.1.num.natAbs),.string (Xa b.1.num.natAbs),.bool (decide (b.1.num<0)),.int .u64 (Xr (b.1.den-1)),.string (Xa (b.1.den-1)),.int .u64 (Xr b.2.num.natAbs),.string (Xa b.2.num.natAbs),.bool (decide (b.2.num<0)),.int .u64 (Xr (b.2.den-1)),.string (Xa (b.2.den-1)),.int .u64 (Xr c.1.num.natAbs),.string (Xa c.1.num.natAbs),.bool (decide (c.1.num<0)),.int .u64 (Xr (c.1.den-1)),.string (Xa (c.1.den-1)),.int .u64 (Xr c.2.num.natAbs),.string (Xa c.2.num.natAbs),.bool (decide (c.2.num<0)),.int .u64 (Xr (c.2.den-1)),.string (Xa (c.2.den-1))]
theorem JQ(w:World): (zeroValue 151).run prog w=.ok (Vy (0,0) (0,0) (0,0)) w:=zeroValue151 w
abbrev encM9(a b c d e f g h i:Rat): Value:=.agg #[.int .u64 (Xr a.num.natAbs),.string (Xa a.num.natAbs),.bool (decide (a.num<0)),.int .u64 (Xr (a.den-1)),.string (Xa (a.den-1)),.int .u64 (Xr b.num.natAbs),.string (Xa b.num.natAbs),.bool (decide (b.num<0)),.int .u64 (Xr (b.den-1)),.string (Xa (b.den-1)),.int .u64 (Xr c.num.natAbs),.string (Xa c.num.natAbs),.bool (decide (c.num<0)),.int .u64 (Xr (c.den-1)),.string (Xa (c.den-1)),.int .u64 (Xr d.num.natAbs),.string (Xa d.num.natAbs),.bool (decide (d.num<0)),.int .u64 (Xr (d.den-1)),.string (Xa (d.den-1)),.int .u64 (Xr e.num.natAbs),.string (Xa e.num.natAbs),.bool (decide (e.num<0)),.int .u64 (Xr (e.den-1)),.string (Xa (e.den-1)),.int .u64 (Xr f.num.natAbs),.string (Xa f.num.natAbs),.bool (decide (f.num<0)),.int .u64 (Xr (f.den-1)),.string (Xa (f.den-1)),.int .u64 (Xr g.num.natAbs),.string (Xa g.num.natAbs),.bool (decide (g.num<0)),.int .u64 (Xr (g.den-1)),.string (Xa (g.den-1)),.int .u64 (Xr h.num.natAbs),.string (Xa h.num.natAbs),.bool (decide (h.num<0)),.int .u64 (Xr (h.den-1)),.string (Xa (h.den-1)),.int .u64 (Xr i.num.natAbs),.string (Xa i.num.natAbs),.bool (decide (i.num<0)),.int .u64 (Xr (i.den-1)),.string (Xa (i.den-1))]
theorem sgn0{x:Rat}(h:x.num.sign=0): x=0:=Rat.num_eq_zero.1 (Int.sign_eq_zero_iff_zero.1 h)
theorem TS(a b:Pt): Zn (addP a b).1≤Zn a.1+Zn b.1+1:=Xj _ _
theorem TQ(a b:Pt): Zn (addP a b).2≤Zn a.2+Zn b.2+1:=Xj _ _
theorem Xu(a b:Pt): Zn (Vh a b).1≤Zn a.1+Zn b.1+1:=Yr _ _
theorem Xt(a b:Pt): Zn (Vh a b).2≤Zn a.2+Zn b.2+1:=Yr _ _
theorem TN(a:Pt)(k:Rat): Zn (sclP a k).1≤Zn a.1+Zn k:=Qh _ _
theorem TM(a:Pt)(k:Rat): Zn (sclP a k).2≤Zn a.2+Zn k:=Qh _ _
theorem XS(a b:Pt): Zn (bU a b)≤Zn a.1+Zn b.1+Zn a.2+Zn b.2+1:=by
 have:=Xj (a.1*b.1) (a.2*b.2);have:=Qh a.1 b.1;have:=Qh a.2 b.2;unfold bU;omega
theorem LK(a b:Pt): Zn (crQ a b)≤Zn a.1+Zn b.2+Zn a.2+Zn b.1+1:=by
 have:=Yr (a.1*b.2) (a.2*b.1);have:=Qh a.1 b.2;have:=Qh a.2 b.1;unfold crQ;omega
theorem Km(a b c:Pt): Zn (twP a b c)≤Zn b.1+Zn b.2+Zn c.1+Zn c.2+2*Zn a.1+2*Zn a.2+5:=by
 have:=LK (Vh b a) (Vh c a);have:=Xu b a;have:=Xt b a;have:=Xu c a;have:=Xt c a;unfold twP;omega
theorem GF:Zn Ab≤4:=Ks 1 2 dd dd dd dd
theorem TP(a b c:Pt): Zn (Z7 a b c)≤Zn b.1+Zn b.2+Zn c.1+Zn c.2+2*Zn a.1+2*Zn a.2+9:=by
 have:=Qh (twP a b c) Ab;have:=Km a b c;have:=GF;unfold Z7;omega
theorem LJ(e f:Pt)(t:Rat): Zn (grP e f t).1≤Zn e.2+Zn f.2+Zn t+1∧Zn (grP e f t).2≤Zn e.1+Zn f.1+Zn t+1:=by
 have h1:=Ye (-((Vh e f).2)) t;have a:=Ye ((Vh e f).1) t;have b:=DI ((Vh e f).2);have:=Xu e f;have:=Xt e f
 unfold grP;simp only;omega
theorem bi(g:Nat)(cs:List Value)(Φ:List Zp)(b e:Pt)(x y:Rat)(f:∀args w,(callFunc g args).run prog w=.ok (.enter g args) w)(d:Xo prog g ([Qe b.1,Qe e.1]++cs) Φ (Qe x))(c:Xo prog g ([Qe b.2,Qe e.2]++cs) Φ (Qe y)): Xo prog 179 [encPt b,encPt e,.func (.func g) #[] cs.toArray] Φ (encPt (x,y)):=by
 refine fnI func179 I ntmps179 fun S w0 k=>zS (zx I fun i=>zx I fun j=>zz Xv fun l=>zn<|zs<|yE [0,1,2,3,4,6,7,8,9,10,5,11,12,13]<|au 0xf3fd3f8 ?_)
 refine au 0xf3fd3f ?_
 refine au 0xc2fc3f8 ?_
 refine au 0xc2fc3f ?_
 refine Kt I kk (fs:=[]) (cs:=cs) I (vs:=[_,_]) I f d (by first|exact(fun _ hR=>hR)|simp) dd ?_
 refine Kt I kk (fs:=[]) (cs:=cs) I (vs:=[_,_]) I f c (by first|exact(fun _ hR=>hR)|simp) dd ?_
 refine yp I (.build [(_,_),(_,_)] I<|K3 _ _ _ _ _ _ _ _ _ _)<|stV I I I Qb ?_
 refine yn<|zt ?_;intro a w h
 refine Js h (Ze h I<|rC Xi) ?_
 rfl
theorem nl(b c:Pt)(f:Zn b.1≤100000000)(g:Zn b.2≤100000000)(d:Zn c.1≤100000000)(e:Zn c.2≤100000000): Ji prog 100 [encPt b,encPt c] (encPt (addP b c)):=by
 refine fnI func100 I ntmps100 fun S w0 l=>zS (zx I fun j=>zx I fun i=>zz Xv fun k=>au 0x8e8e312 ?_)
 refine zw [_,_,_] I call179 (bi 71 [] [] b c _ _ call71 (fF (bB b.1 c.1 oo oo) [])<|fF (bB b.2 c.2 oo oo) [])<|stW I I Qb ?_
 refine zn<|zt ?_;intro a w h
 refine Js h (Ze h I<|rC Xi) ?_
 rfl
theorem CE(b c:Pt)(f:Zn b.1≤100000000)(g:Zn b.2≤100000000)(d:Zn c.1≤100000000)(e:Zn c.2≤100000000): Ji prog 129 [encPt b,encPt c] (encPt (Vh b c)):=by
 refine fnI func129 I ntmps129 fun S w0 l=>zS (zx I fun j=>zx I fun i=>zz Xv fun k=>au 0x8e8e312 ?_)
 refine zw [_,_,_] I call179 (bi 56 [] [] b c _ _ call56 (fF (bz b.1 c.1 oo oo) [])<|fF (bz b.2 c.2 oo oo) [])<|stW I I Qb ?_
 refine zn<|zt ?_;intro a w h
 refine Js h (Ze h I<|rC Xi) ?_
 rfl
theorem ao(x y k:Rat)(b o:Nat)(hx:Zn x≤100000000)(hk:Zn k≤100000000): Xo prog 180 [Qe x,Qe y,.pointer (some ⟨b,o,none⟩)] [Row (some ⟨b,o,none⟩) (Value.cells (Qe k)).toList] (Qe (x*k)):=by
 refine fnI func180 I ntmps180 fun S w0 f=>zS (zx I fun e=>zx I fun g=>zz Xl fun d=>au 0x6e312 ?_)
 refine zD (b:=b) (off:=o) (j:=0) (M:=(Value.cells<|Qe k).toList) (v:=Qe<|k) I mm (Nat.succ_pos _) isAgg51 sizeOf51 I (.inl I) ?_
 refine au 0xb9f ?_;intro a w h
 have c:=Qh (x) (k)
 refine gL h<|stW I I Zi ?_
 refine zn<|zt ?_;clear h;intro a w h
 refine Js h (Ze h I<|rC Zx) ?_
 rfl
theorem am(b:Pt)(k:Rat)(d:Zn b.1≤100000000)(f:Zn b.2≤100000000)(hk:Zn k≤100000000): Ji prog 99 [encPt b,Qe k] (encPt (sclP b k)):=by
 refine fnI func99 I ntmps99 fun S w0 e=>zS (zx I fun g=>zx I fun c=>?_);intro a w h
 replace h:=h.shareAll e ((Value.cells (Qe (k))).toList) I
 refine gL h (zz Xv fun i=>au 0xd7f8e8e312 ?_)
 refine zw [_,_,_] I call179 (bi 180 [.pointer (some ⟨c,0,none⟩)] [Row (some ⟨c,0,none⟩) (Value.cells<|Qe k).toList] b b _ _ call180 (ao b.1 b.1 k c 0 oo oo)<|ao b.2 b.2 k c 0 oo oo)<|stW I I Qb ?_
 refine zn<|zt ?_;clear h;intro a w h
 refine Js h (Ze h I<|rC Xi) ?_
 rfl
theorem Oq(b c:Pt)(f:Zn b.1≤100000000)(g:Zn b.2≤100000000)(d:Zn c.1≤100000000)(e:Zn c.2≤100000000): Ji prog 274 [encPt b,encPt c] (Qe (crQ b c)):=by
 refine fnI func274 I ntmps274 fun S w0 o=>zS (zx I fun m=>zx I fun l=>zz Xl fun n=>zn<|zs<|yE [0,1,2,3,5,6,7,8,4,9,10,11]<|au 0xf3fd3f ?_)
 refine au 0xc2fc3f ?_
 refine au 0xc2fc3f ?_
 refine au 0xf3fd3f ?_
 refine au 0x92f ?_
 have k:=Qh (b.1) (c.2)
 refine au 0x92f ?_
 have j:=Qh (b.2) (c.1)
 refine au 0x99f ?_
 have i:=Yr (b.1*c.2) (b.2*c.1)
 refine stV I I I Zi ?_
 refine yn<|zt ?_;intro a w h
 refine Js h (Ze h I<|rC Zx) ?_
 rfl
theorem nk(b c:Pt)(f:Zn b.1≤100000000)(g:Zn b.2≤100000000)(d:Zn c.1≤100000000)(e:Zn c.2≤100000000): Ji prog 229 [encPt b,encPt c] (Qe (bU b c)):=by
 refine fnI func229 I ntmps229 fun S w0 o=>zS (zx I fun m=>zx I fun l=>zz Xl fun n=>zn<|zs<|yE [0,1,2,3,5,6,7,8,4,9,10,11]<|au 0xf3fd3f ?_)
 refine au 0xf3fd3f ?_
 refine au 0xc2fc3f ?_
 refine au 0xc2fc3f ?_
 refine au 0x92f ?_
 have k:=Qh (b.1) (c.1)
 refine au 0x92f ?_
 have j:=Qh (b.2) (c.2)
 refine au 0x54f ?_
 have i:=Xj (b.1*c.1) (b.2*c.2)
 refine stV I I I Zi ?_
 refine yn<|zt ?_;intro a w h
 refine Js h (Ze h I<|rC Zx) ?_
 rfl
theorem GZ(b c:Pt)(g:Zn b.1≤10000000)(i:Zn b.2≤10000000)(e:Zn c.1≤10000000)(f:Zn c.2≤10000000): Ji prog 123 [encPt b,encPt c] (Qe (bU (Vh c b) (Vh c b))):=by
 refine fnI func123 I ntmps123 fun S w0 o=>zS (zx I fun m=>zx I fun l=>zz Xl fun n=>au 0x8e8e312 ?_)
 refine zv [_,_] I call129 (CE c b oo oo oo oo) ?_
 have d:=Xu c b
 have d:=Xt c b
 refine zz Xv fun k=>stW I I Qb ?_
 refine au 0x8e8e312 ?_
 refine zv [_,_] I call229 (nk (Vh c b) (Vh c b) oo oo oo oo) ?_
 have j:=XS (Vh c b) (Vh c b)
 refine stW I I Zi ?_
 refine zn<|zt ?_;intro a w h
 refine Js h (Ze h I<|rC Zx) ?_
 rfl
theorem SE(a c b:Pt)(h:Zn a.1≤10000000)(i:Zn a.2≤10000000)(e:Zn c.1≤10000000)(g:Zn c.2≤10000000)(f:Zn b.1≤10000000)(k:Zn b.2≤10000000): Ji prog 166 [encPt a,encPt c,encPt b] (.int .i64 (twP a c b).num.sign):=by
 refine fnI func166 I ntmps166 fun S w0 p=>zS (zx I fun n=>zx I fun o=>zx I fun m=>za I<|zn<|zs<|yE [0,1,3,4,2,5,6,7,8]<|au 0x10f ?_)
 refine au 0x10f ?_
 refine au 0x10f ?_
 refine au 0x10f ?_
 refine yv [_,_] I I call129 (CE c a oo oo oo oo) ?_
 have j:=Xu c a
 have j:=Xt c a
 refine yv [_,_] I I call129 (CE b a oo oo oo oo) ?_
 have d:=Xu b a
 have d:=Xt b a
 refine yv [_,_] I I call274 (Oq (Vh c a) (Vh b a) oo oo oo oo) ?_
 have l:=LK (Vh c a) (Vh b a)
 refine yv [_] I I call7 (Dq _)<|au 0x6a3e ?_
 refine rtK I
theorem B8(b d c:Pt)(k:Zn b.1≤10000000)(l:Zn b.2≤10000000)(f:Zn d.1≤10000000)(i:Zn d.2≤10000000)(g:Zn c.1≤10000000)(j:Zn c.2≤10000000): Ji prog 295 [encPt b,encPt d,encPt c] (Qe (twP b d c)):=by
 refine fnI func295 I ntmps295 fun S w0 q=>zS (zx I fun p=>zx I fun s=>zx I fun o=>zz Xl fun r=>zn<|zs<|yE [0,1,3,4,2,5,6,7]<|au 0x10f ?_)
 refine au 0x10f ?_
 refine au 0x10f ?_
 refine au 0x10f ?_
 refine yv [_,_] I I call129 (CE d b oo oo oo oo) ?_
 have m:=Xu d b
 have m:=Xt d b
 refine yv [_,_] I I call129 (CE c b oo oo oo oo) ?_
 have e:=Xu c b
 have e:=Xt c b
 refine yv [_,_] I I call274 (Oq (Vh d b) (Vh c b) oo oo oo oo) ?_
 have n:=LK (Vh d b) (Vh c b)
 refine stV I I I Zi ?_
 refine yn<|zt ?_;intro a w h
 refine Js h (Ze h I<|rC Zx) ?_
 rfl
theorem gr(x:Rat)(hx:Zn x≤100000000): Ji prog 378 [Qe x] (Qe (x*Ab)):=by
 refine fnI func378 I ntmps378 fun S w0 g=>zS (zx I fun e=>zz Xl fun f=>au 0x05f312 ?_);intro a w h
 have c:=Ks (1) (2) oo oo oo oo
 refine gL h<|au 0xbb4 ?_
 refine zz Xl fun d=>stW I I Zi ?_
 refine au 0xb9f6e6e3125 ?_;clear h;intro a w h
 have b:=Qh (x) (((1:Int):Rat)/((2:Int):Rat))
 refine gL h<|stW I I Zi ?_
 refine zn<|zt ?_;clear h;intro a w h
 refine Js h (Ze h I<|rC Zx) ?_
 rfl
theorem gu(b d c:Pt)(i:Zn b.1≤10000000)(j:Zn b.2≤10000000)(e:Zn d.1≤10000000)(g:Zn d.2≤10000000)(f:Zn c.1≤10000000)(k:Zn c.2≤10000000): Ji prog 294 [encPt b,encPt d,encPt c] (Qe (Z7 b d c)):=by
 refine fnI func294 I ntmps294 fun S w0 p=>zS (zx I fun n=>zx I fun o=>zx I fun m=>zz Xl fun q=>au 0x8e8e8e312 ?_)
 refine zv [_,_,_] I call295 (B8 b d c oo oo oo oo oo oo) ?_
 have l:=Km b d c
 refine zv [_] I call378 (gr (twP b d c) oo)<|stW I I Zi ?_
 refine zn<|zt ?_;intro a w h
 refine Js h (Ze h I<|rC Zx) ?_
 rfl
theorem SC(d c b e:Pt)(t:Zn d.1≤10000000)(v:Zn d.2≤10000000)(l:Zn c.1≤10000000)(m:Zn c.2≤10000000)(p:Zn b.1≤10000000)(x:Zn b.2≤10000000)(n:Zn e.1≤10000000)(u:Zn e.2≤10000000)(hT:twP d c b≠0): Ji prog 217 [encPt d,encPt c,encPt b,encPt e] (.tuple #[Ue (Gf d c b e),.int .i64 0]):=by
 refine fnI func217 I ntmps217 fun S w0 C=>zS (zx I fun q=>zx I fun s=>zx I fun o=>zx I fun r=>zz SY fun j=>au 0x8e8e8e3125 ?_)
 refine zv [_,_,_] I call295 (B8 d c b oo oo oo oo oo oo) ?_
 have y:=Km d c b
 refine zz Xl fun f=>stW I I Zi ?_
 refine zn<|zs<|yF [0,1,2,4,5,6,8,9,10,3,7,11,12,13,14]<|au 0x10f ?_
 refine au 0x10f ?_
 refine au 0x10f ?_
 refine au 0x10f ?_
 refine au 0x10f ?_
 refine au 0x10f ?_
 refine au 0x10f ?_
 refine au 0x10f ?_
 refine au 0x10f ?_
 refine yv [_,_,_] I I call295 (B8 e c b oo oo oo oo oo oo) ?_
 have B:=Km e c b
 refine yv [_,_,_] I I call295 (B8 d e b oo oo oo oo oo oo) ?_
 have A:=Km d e b
 refine yv [_,_,_] I I call295 (B8 d c e oo oo oo oo oo oo) ?_
 have z:=Km d c e
 refine yp I (.build [(_,_),(_,_),(_,_)] I<|I5 _ _ _ _ _ _ _ _ _ _ _ _ _ _ _) (yz I SY fun g=>stV I I I BR ?_)
 refine au 0x924311a ?_
 refine lpR 4<|rdS<|au 0x1254319171e129e31 ?_
 refine yF [0,1,2,3,4,5,6,7,8,9,10]<|au 0xdbf3cf8 ?_
 refine au 0xbe ?_
 refine yv [_,_] I I call47 (Ds (twP e c b) (twP d c b) hT oo oo) ?_
 have i:=Ye (twP e c b) (twP d c b)
 refine au 0x7e7e8 ?_
 refine yz I Xl fun k=>stV I I I Zi ?_
 refine au 0x6e437d2d0f4311a3e ?_
 refine zp (.indexAddr I I<|HL _ _)<|stW I I VM ?_
 refine au 0x24e2f32 ?_;intro a w h
 replace h:St 51 S w0 [(8,pB j),(9,.int .i64 0),(10,pB f),(11,pB g),(32,.int .i64 1),(33,.bool true),(44,.bool false)] [(g,bV (Ue (((twP e c b)/(twP d c b),twP d e b,twP d c e))) 52),(f,bV (Qe (twP d c b)) 51),(j,bV (Ue ((0,0,0))) 52),(r,bV (DV e.1 e.2) 119),(o,bV (DV b.1 b.2) 119),(s,bV (DV c.1 c.2) 119),(q,bV (DV d.1 d.2) 119)] [] a w:=by exact tO h
 refine Zm ?_
 refine gC h<|au 0x1254319171e129e31 ?_
 refine yF [0,1,2,3,4,5,6,7,8,9,10]<|au 0xcbf2cf8 ?_;clear h
 refine au 0xbe ?_
 refine yv [_,_] I I call47 (Ds (twP d e b) (twP d c b) hT oo oo) ?_
 have i:=Ye (twP d e b) (twP d c b)
 refine au 0x7e7e8 ?_
 refine yz I Xl fun k=>stV I I I Zi ?_
 refine au 0x6e437d2d0f4311a3e ?_
 refine zp (.indexAddr I I<|E1 _ _)<|stW I I VL ?_
 refine au 0x2471f32 ?_;intro a w h
 replace h:St 51 S w0 [(8,pB j),(9,.int .i64 0),(10,pB f),(11,pB g),(32,.int .i64 2),(33,.bool true),(44,.bool false)] [(g,bV (Ue (((twP e c b)/(twP d c b),(twP d e b)/(twP d c b),twP d c e))) 52),(f,bV (Qe (twP d c b)) 51),(j,bV (Ue ((0,0,0))) 52),(r,bV (DV e.1 e.2) 119),(o,bV (DV b.1 b.2) 119),(s,bV (DV c.1 c.2) 119),(q,bV (DV d.1 d.2) 119)] [] a w:=by exact tO h
 refine Zm ?_
 refine gC h<|au 0x1254319171e129e31 ?_
 refine yF [0,1,2,3,4,5,6,7,8,9,10]<|au 0x8 ?_
 refine yp I (.indexAddr I I<|E0 _ _)<|ldY Gw ?_;clear h
 refine au 0xbe ?_
 refine yv [_,_] I I call47 (Ds (twP d c e) (twP d c b) hT oo oo) ?_
 have i:=Ye (twP d c e) (twP d c b)
 refine au 0x7e7e8 ?_
 refine yz I Xl fun k=>stV I I I Zi ?_
 refine au 0x8cf6e437d2d0f4311a3e ?_
 refine stW I I Tf ?_
 refine au 0x24e1f32 ?_;intro a w h
 replace h:St 51 S w0 [(8,pB j),(9,.int .i64 0),(10,pB f),(11,pB g),(32,.int .i64 3),(33,.bool true),(44,.bool false)] [(g,bV (Ue (((twP e c b)/(twP d c b),(twP d e b)/(twP d c b),(twP d c e)/(twP d c b)))) 52),(f,bV (Qe (twP d c b)) 51),(j,bV (Ue ((0,0,0))) 52),(r,bV (DV e.1 e.2) 119),(o,bV (DV b.1 b.2) 119),(s,bV (DV c.1 c.2) 119),(q,bV (DV d.1 d.2) 119)] [] a w:=by exact tO h
 refine Zm ?_
 refine gC h<|au 0x310ed1241f31 ?_
 refine ldZ Gx ?_
 refine stW I I BR ?_
 refine au 0x625 ?_;clear h;intro a w h
 refine Js h (Zw h I (rC Gx)<|.tmp I) ?_
 rfl
theorem af(d c b:Pt)(v:Zn d.1≤10000000)(x:Zn d.2≤10000000)(p:Zn c.1≤10000000)(r:Zn c.2≤10000000)(s:Zn b.1≤10000000)(y:Zn b.2≤10000000)(hT:twP d c b≠0): Ji prog 218 [encPt d,encPt c,encPt b] (.tuple #[Vy (Jz d c b).1 (Jz d c b).2.1 (Jz d c b).2.2,.int .i64 0]):=by
 refine fnI func218 I ntmps218 fun S w0 A=>zS (zx I fun q=>zx I fun t=>zx I fun u=>zz JQ fun m=>au 0x8e8e8e3125 ?_)
 refine zv [_,_,_] I call295 (B8 d c b oo oo oo oo oo oo) ?_
 have z:=Km d c b
 refine zz Xl fun n=>stW I I Zi ?_
 refine au 0x00ff2f6e3112 ?_;intro a w h
 refine Zh h (fun i h=>(by exfalso;exact hT<|sgn0 (by simpa using i))) (fun i h=>?_)
 refine wpList_nil ?_
 refine cW ?_
 refine Zj h I ?_
 refine gC h<|zk<|zS (zz JQ fun l=>au 0x8e8e8e312 ?_)
 refine zp (.build [(_,_),(_,_),(_,_)] I<|Do _ _ _ _ _ _ _ _ _ _ _ _ _ _ _ _ _ _ _ _ _ _ _ _ _ _ _ _ _ _) (zz JQ fun f=>stW I I Ky ?_)
 refine au 0x9243112 ?_
 refine lpR 4<|rdS<|au 0x1254319171e129e31 ?_
 refine yF [0,1,2,3,4,5,6,7,8,9,10,11,12]<|au 0xa6f45f76f17f8 ?_;clear h
 refine au 0xb6f55f86fd9f8 ?_
 refine yv [_,_] I I call129 (CE b c oo oo oo oo) ?_
 have e:=Xu b c
 have e:=Xt b c
 refine yz I Xv fun o=>stV I I I Qb ?_
 refine yn<|zs<|yE [0,1,2,4,3,5,6,7,8,9,10,11]<|au 0xc2fc3f8 ?_
 refine au 0xbe ?_
 refine au 0x9cf ?_
 have k:=DI ((Vh b c).2)
 refine yv [_,_] I I call47 (Ds (-((Vh b c).2)) (twP d c b) hT oo oo) ?_
 have j:=Ye (-((Vh b c).2)) (twP d c b)
 refine au 0xd3f65f7e7e8 ?_
 refine stV I I I VH ?_
 refine au 0x6ee3f49f43a ?_
 refine zv [_,_] I call47 (Ds ((Vh b c).1) (twP d c b) hT oo oo) ?_
 have g:=Ye ((Vh b c).1) (twP d c b)
 refine au 0xbb4 ?_
 refine zp (.indexAddr I I<|B0 _ _)<|au 0x39f ?_
 refine stW I I VG ?_
 refine au 0x24e2f32 ?_;intro a w h
 replace h:St 62 S w0 [(6,pB m),(7,.int .i64 0),(8,pB n),(9,pB l),(10,pB f),(25,.int .i64 1),(26,.bool true)] [(f,bV (Vy d c b) 151),(l,bV (Vy (((-((Vh b c).2))/(twP d c b),((Vh b c).1)/(twP d c b))) (0,0) (0,0)) 151),(n,bV (Qe (twP d c b)) 51),(m,bV (Vy (0,0) (0,0) (0,0)) 151),(u,bV (DV b.1 b.2) 119),(t,bV (DV c.1 c.2) 119),(q,bV (DV d.1 d.2) 119)] [] a w:=by exact tO h
 refine Zm ?_
 refine gC h<|au 0x1254319171e129e31 ?_
 refine yF [0,1,2,3,4,5,6,7,8,9,10,11,12]<|au 0xc6f65f96f07f8 ?_;clear h
 refine au 0xa6f45f76f17f8 ?_
 refine yv [_,_] I I call129 (CE d b oo oo oo oo) ?_
 have e:=Xu d b
 have e:=Xt d b
 refine yz I Xv fun o=>stV I I I Qb ?_
 refine yn<|zs<|yE [0,1,2,4,3,5,6,7,8,9,10,11]<|au 0xc2fc3f8 ?_
 refine au 0xbe ?_
 refine au 0x9cf ?_
 have k:=DI ((Vh d b).2)
 refine yv [_,_] I I call47 (Ds (-((Vh d b).2)) (twP d c b) hT oo oo) ?_
 have j:=Ye (-((Vh d b).2)) (twP d c b)
 refine au 0xd3f55f7e7e8 ?_
 refine stV I I I Tc ?_
 refine au 0x6ee3f49f43a ?_
 refine zv [_,_] I call47 (Ds ((Vh d b).1) (twP d c b) hT oo oo) ?_
 have g:=Ye ((Vh d b).1) (twP d c b)
 refine au 0xbb4 ?_
 refine zp (.indexAddr I I<|BZ _ _)<|au 0x39f ?_
 refine stW I I Ta ?_
 refine au 0x2471f32 ?_;intro a w h
 replace h:St 62 S w0 [(6,pB m),(7,.int .i64 0),(8,pB n),(9,pB l),(10,pB f),(25,.int .i64 2),(26,.bool true)] [(f,bV (Vy d c b) 151),(l,bV (Vy (((-((Vh b c).2))/(twP d c b),((Vh b c).1)/(twP d c b))) (((-((Vh d b).2))/(twP d c b),((Vh d b).1)/(twP d c b))) (0,0)) 151),(n,bV (Qe (twP d c b)) 51),(m,bV (Vy (0,0) (0,0) (0,0)) 151),(u,bV (DV b.1 b.2) 119),(t,bV (DV c.1 c.2) 119),(q,bV (DV d.1 d.2) 119)] [] a w:=by exact tO h
 refine Zm ?_
 refine gC h<|au 0x1254319171e129e31 ?_
 refine yF [0,1,2,3,4,5,6,7,8,9,10,11,12]<|au 0x8 ?_
 refine yp I (Pure1.cast (v':=.int .i64 4) (.add I I) cgd)<|au 0xb6f55f86f ?_;clear h
 refine au 0xc6f65f96f07f8 ?_
 refine yv [_,_] I I call129 (CE c d oo oo oo oo) ?_
 have e:=Xu c d
 have e:=Xt c d
 refine yz I Xv fun o=>stV I I I Qb ?_
 refine yn<|zs<|yE [0,1,2,4,3,5,6,7,8,9,10,11]<|au 0xc2fc3f8 ?_
 refine au 0xbe ?_
 refine au 0x9cf ?_
 have k:=DI ((Vh c d).2)
 refine yv [_,_] I I call47 (Ds (-((Vh c d).2)) (twP d c b) hT oo oo) ?_
 have j:=Ye (-((Vh c d).2)) (twP d c b)
 refine au 0xd3f45f7e7e8 ?_
 refine stV I I I S9 ?_
 refine au 0x6ee3f49f43a ?_
 refine zv [_,_] I call47 (Ds ((Vh c d).1) (twP d c b) hT oo oo) ?_
 have g:=Ye ((Vh c d).1) (twP d c b)
 refine au 0xbb4 ?_
 refine zp (.indexAddr I I<|BY _ _)<|au 0x39f ?_
 refine stW I I S8 ?_
 refine au 0x24e1f32 ?_;intro a w h
 replace h:St 62 S w0 [(6,pB m),(7,.int .i64 0),(8,pB n),(9,pB l),(10,pB f),(25,.int .i64 3),(26,.bool true)] [(f,bV (Vy d c b) 151),(l,bV (Vy (((-((Vh b c).2))/(twP d c b),((Vh b c).1)/(twP d c b))) (((-((Vh d b).2))/(twP d c b),((Vh d b).1)/(twP d c b))) (((-((Vh c d).2))/(twP d c b),((Vh c d).1)/(twP d c b)))) 151),(n,bV (Qe (twP d c b)) 51),(m,bV (Vy (0,0) (0,0) (0,0)) 151),(u,bV (DV b.1 b.2) 119),(t,bV (DV c.1 c.2) 119),(q,bV (DV d.1 d.2) 119)] [] a w:=by exact tO h
 refine Zm ?_
 refine gC h<|au 0x3bf310ed1241f31 ?_
 refine stW I I Ky ?_
 refine au 0x625 ?_;clear h;intro a w h
 refine Js h (Zw h I (rC AW)<|.tmp I) ?_
 rfl
end
section
theorem lz(b off j:Nat)(h:j<3): RN (Instr.indexAt 127 (.pointer (some ⟨b,off,none⟩)) (.int .i64 (j:Int))) (.pointer (some ⟨b,off+j,none⟩)):=fun w=>by simpa using Er runUnderlying127 sizeOf3 b off j h w
theorem Aw(b off:Nat): RN (Instr.indexAt 127 (.pointer (some ⟨b,off,none⟩)) (.int .i64 0)) (.pointer (some ⟨b,off+0,none⟩)):=fun w=>by
 simp[go_sem,Instr.indexAt]
theorem Yu(b off:Nat): RN (Instr.indexAt 127 (.pointer (some ⟨b,off,none⟩)) (.int .i64 1)) (.pointer (some ⟨b,off+1,none⟩)):=fun w=>by
 simp[go_sem,Instr.indexAt]
theorem Yt(b off:Nat): RN (Instr.indexAt 127 (.pointer (some ⟨b,off,none⟩)) (.int .i64 2)) (.pointer (some ⟨b,off+2,none⟩)):=fun w=>by
 simp[go_sem,Instr.indexAt]
theorem JO(g h f:Int)(d c b a e:Value): RN (Instr.build 325 [(0,.int .i64 g),(1,.int .i64 h),(2,.int .i64 f),(3,.agg #[d,c,b,a,e])].toArray) (.agg #[.int .i64 g,.int .i64 h,.int .i64 f,d,c,b,a,e]):=fun w=>by simp[go_sem]
theorem QX{c0 c1 c2 c e b f d v0 v1 v2 v3 v4 v5 v6 a:Value}: Zl #[c0,c1,c2,c,e,b,f,d] 0 [v0,v1,v2,v3,v4,v5,v6,a]=#[v0,v1,v2,v3,v4,v5,v6,a]:=by kernel_rfl
theorem dL{c0 c1 c2 a d b e c:Value}: Zk true 8 #[c0,c1,c2,a,d,b,e,c] 0=some (.agg #[c0,c1,c2,a,d,b,e,c]):=rfl
theorem Jf(a:Int)(w:World): (Instr.buildSlice 69 1 [(0,.int .i64 a)].toArray).run prog w=.ok (.slice (some ⟨w.heap.size,0,none⟩) 1 1) (w.alloc (.cells #[.int .i64 a] 3 (0,0))):=by
 simp[go_sem]
theorem A2(d h a f b g e c:Value)(w:World): (Instr.buildSlice 321 1 [(0,.agg #[d,h,a,f,b,g,e,c])].toArray).run prog w=.ok (.slice (some ⟨w.heap.size,0,none⟩) 1 1) (w.alloc (.cells #[d,h,a,f,b,g,e,c] 325 (0,0))):=by
 simp[go_sem]
theorem Dm(d p a h b l g c m n f k i j o e:Value)(w:World): (Instr.buildSlice 321 2 [(0,.agg #[d,p,a,h,b,l,g,c]),(1,.agg #[m,n,f,k,i,j,o,e])].toArray).run prog w=.ok (.slice (some ⟨w.heap.size,0,none⟩) 2 2) (w.alloc (.cells #[d,p,a,h,b,l,g,c,m,n,f,k,i,j,o,e] 325 (0,0))):=by
 simp[go_sem]
theorem X7(b off:Nat): RN (Instr.indexAt 248 (.pointer (some ⟨b,off,none⟩)) (.int .i64 0)) (.pointer (some ⟨b,off+0,none⟩)):=fun w=>by
 simp[go_sem,Instr.indexAt]
theorem YB(b off:Nat): RN (Instr.indexAt 125 (.pointer (some ⟨b,off,none⟩)) (.int .i64 0)) (.pointer (some ⟨b,off+0,none⟩)):=fun w=>by
 simp[go_sem,Instr.indexAt]
theorem YA(b off:Nat): RN (Instr.indexAt 125 (.pointer (some ⟨b,off,none⟩)) (.int .i64 1)) (.pointer (some ⟨b,off+1,none⟩)):=fun w=>by
 simp[go_sem,Instr.indexAt]
theorem X6(b off:Nat): RN (Instr.indexAt 248 (.pointer (some ⟨b,off,none⟩)) (.int .i64 1)) (.pointer (some ⟨b,off+2,none⟩)):=fun w=>by
 simp[go_sem,Instr.indexAt]
theorem X5(b off:Nat): RN (Instr.indexAt 248 (.pointer (some ⟨b,off,none⟩)) (.int .i64 2)) (.pointer (some ⟨b,off+4,none⟩)):=fun w=>by
 simp[go_sem,Instr.indexAt]
def pw0:Pw:=⟨0,0,0,0⟩
abbrev Vt(p:Pw): Value:=.agg #[.int .i64 ((p.i:Nat):Int),.int .i64 ((p.j:Nat):Int),.int .i64 ((p.k:Nat):Int),.int .u64 (Xr p.c.num.natAbs),.string (Xa p.c.num.natAbs),.bool (decide (p.c.num<0)),.int .u64 (Xr (p.c.den-1)),.string (Xa (p.c.den-1))]
theorem iw(w:World): (zeroValue 325).run prog w=.ok (Vt pw0) w:=zeroValue325 w
theorem A3(w:World): (zeroValue 127).run prog w=.ok (.agg #[.int .i64 ((0:Nat):Int),.int .i64 ((0:Nat):Int),.int .i64 ((0:Nat):Int)]) w:=zeroValue127 w
def OkPw(l:List Pw): Prop:=l.length≤10 ∧ ∀x∈l,x.i≤4∧x.j≤4∧x.k≤4∧Zn x.c≤100
theorem OkPw.slp{l:List Pw}(h:∀x∈l,x.i≤4∧x.j≤4∧x.k≤4∧Zn x.c≤50)(hl:l.length≤10)(b:Nat): OkPw (slp b l):=by
 refine⟨?_,fun x hx=>?_⟩
 ·unfold YtejhdcohoggojaaGreatDoor.slp;rw[List.length_map];exact Nat.le_trans (List.length_filter_le _ _) hl
 ·unfold YtejhdcohoggojaaGreatDoor.slp at hx
  obtain ⟨y,d,rfl⟩:=List.mem_map.1 hx
  obtain ⟨h1,a,e,f⟩:=h y (List.mem_filter.1 d).1
  have c:=fun n (g:n≤4)=>Nat.le_trans (Qh y.c (((n:Nat):Int):Rat)) (Nat.add_le_add f (Qa ((n:Nat):Int) oo oo))
  match b with
  | 0=>exact⟨by simp only[dnP];omega,by simp only[dnP];omega,by simp only[dnP];omega,Nat.le_trans (c y.i h1) dd⟩
  | 1=>exact⟨by simp only[dnP];omega,by simp only[dnP];omega,by simp only[dnP];omega,Nat.le_trans (c y.j a) dd⟩
  | _+2=>exact⟨by simp only[dnP];omega,by simp only[dnP];omega,by simp only[dnP];omega,Nat.le_trans (c y.k e) dd⟩
theorem bD:Ji prog 220 [.int .i64 1] (.int .i64 3):=by
 refine fnI func220 I ntmps220 fun S w0 a=>au 0x625311e2532f319243112531 ?_
 refine rtK I
theorem bC:Ji prog 220 [.int .i64 2] (.int .i64 6):=by
 refine fnI func220 I ntmps220 fun S w0 a=>au 0x625311e2532f31d2564f319243112531 ?_
 refine rtK I
theorem MF(n:Nat)(e:n<3): Ji prog 298 [.int .i64 1,.int .i64 ((n:Nat):Int)] (.bool true):=by
 refine fnI func298 I ntmps298 fun S w0 d=>au 0x40f4312531 ?_
 refine bbT (fun c=>(by exfalso;have:=of_decide_eq_false c;omega)) fun c=>au 0x08f08f4 ?_;intro a w h
 refine Zq 7 h I I<|Qw h (vs:=[_]) I call220 (bD) dd ?_;clear h;intro a w h
 refine gL h<|au 0x2bf ?_
 refine bbT (fun b=>(by exfalso;have:=of_decide_eq_false b;omega)) fun b=>au 0x6252e ?_
 refine rtK I
theorem D1(n:Nat)(e:n<6): Ji prog 298 [.int .i64 2,.int .i64 ((n:Nat):Int)] (.bool true):=by
 refine fnI func298 I ntmps298 fun S w0 d=>au 0x40f4312531 ?_
 refine bbT (fun c=>(by exfalso;have:=of_decide_eq_false c;omega)) fun c=>au 0x08f08f4 ?_;intro a w h
 refine Zq 7 h I I<|Qw h (vs:=[_]) I call220 (bC) dd ?_;clear h;intro a w h
 refine gL h<|au 0x2bf ?_
 refine bbT (fun b=>(by exfalso;have:=of_decide_eq_false b;omega)) fun b=>au 0x6252e ?_
 refine rtK I
theorem S4(l:List Nat){i:Nat}(h:i<l.length): l.take (i+1)=l.take i++[l.getD i 0]:=by rw[List.take_add_one,List.getElem?_eq_getElem h];simp[List.getD,h]
def cnt3(l:List Nat): List Nat:=[l.count 0,l.count 1,l.count 2]
theorem ZQ(l:List Nat){i:Nat}(h:i<l.length)(a:l.getD i 0<3): (cnt3 (l.take i)).set (l.getD i 0) ((cnt3 (l.take i)).getD (l.getD i 0) 0+1)=cnt3 (l.take (i+1)):=by
 rw[S4 l h]
 generalize l.getD i 0=x at a
 have hx:x=0∨x=1∨x=2:=oo
 unfold cnt3
 rcases hx with rfl|rfl|rfl<;>simp[List.count_append]
theorem AE(c:Int)(l:List Nat)(ad:Option Addr)(A:Nat)(hl:∀x∈l,x<3)(D:l.length≤10)(C: -1000≤c)(h1:c≤1000): Xo prog 299 [.int .i64 c,.slice ad l.length A] [Row ad (List.map Qi l)] (Vt (El c l)):=by
 refine fnI func299 I ntmps299 fun S w0 B=>zS (zz iw fun t=>zn<|zS (zz A3 fun y=>au 0x92401f43112 ?_));intro a w h
 have r:cnt3 []=[0,0,0]:=rfl
 refine lpG h [0,4,5,8,9] pkL (fun Y Z (i:Nat) a w=>i≤l.length∧St 29 S w0 ((10,nI i)::Y) [(y,.cells (List.map Qi<|cnt3<|l.take i).toArray 127 (0,0)),(t,bV (Vt<|pw0) 325)] Z a w) (fun i=>l.length-i) 0 (⟨Nat.zero_le _,by exact(h).sub sA⟩) ?_;clear h
 rintro i a w ⟨m,h⟩
 refine gC h<|au 0x12c31 ?_;intro a w h
 refine Zb h I (fun b=>?_) (fun b=>?_)
 ·have f:i<l.length:=dT b
  obtain ⟨p,q,rfl⟩:=h.row_addr (ad:=ad) (M:=List.map Qi l) mm nF
  have j:=hl _ (getD_mem l (d:=0) f)
  have v:(cnt3 (l.take i)).getD (l.getD i 0) 0≤10:=by
   have ht:(l.take i).length≤10:=by rw[List.length_take];omega
   have k:=fun x=>Nat.le_trans (List.count_le_length (a:=x) (l:=l.take i)) ht
   have hx:l.getD i 0=0∨l.getD i 0=1∨l.getD i 0=2:=oo
   unfold cnt3
   rcases hx with e|e|e<;>rw[e]<;>first|exact k 0|exact k 1|exact k 2
  have s:(cnt3 (l.take i)).length=3:=rfl
  have u:l[i]?.getD 0<3:=by simpa [List.getD] using j
  refine gC h<|au 0xf1f31917 ?_
  refine zD I mm (by rw[List.length_map];omega) isAgg3 sizeOf3 (Zr (enc:=Qi) (l:=l) 0 oo) (.inr I) ?_
  refine au 0xbbf4325 ?_
  refine zd I mm isAgg3 sizeOf3 ((congrArg _<|Nat.zero_add _).trans<|Zr (enc:=Qi) (l:=(cnt3<|l.take i)) 0 (by show _<3;omega)) ?_
  refine zp (.pN (((cnt3<|l.take i).getD (l.getD i 0) 0)+1)<|.add I I)<|au 0xbbf ?_
  refine zt' I I ((congrArg (fun z=>Zl _ z _)<|Nat.zero_add _).trans<|Qy (enc:=Qi) (cnt3<|l.take i) (l.getD i 0) (((cnt3<|l.take i).getD (l.getD i 0) 0)+1)) uu sizeOf3 I (by simp;show _<3;omega) I ?_
  refine zn<|zr<|zp (.pN (i+1)<|.add I I)<|au 0x24 ?_;clear h;intro a w h
  rw[ZQ l f j] at h
  exact⟨i+1,⟨oo,tO h⟩,oo⟩
 ·have g:l.length=i:=dF b
  subst g
  rw[List.take_length] at h
  have o:(cnt3 l).length=3:=rfl
  refine gC h<|ze<|zs<|yE [0,1,2,3,4,5,6,7,8,9]<|au 0xa3f ?_
  refine yd I I mm isAgg3 sizeOf3 ((congrArg _<|Nat.zero_add _).trans<|Zr (enc:=Qi) (l:=(cnt3<|l)) 0 oo) ?_;clear h
  refine au 0x93f ?_
  refine yd I I mm isAgg3 sizeOf3 ((congrArg _<|Nat.zero_add _).trans<|Zr (enc:=Qi) (l:=(cnt3<|l)) 0 oo) ?_
  refine au 0x83f ?_
  refine yd I I mm isAgg3 sizeOf3 ((congrArg _<|Nat.zero_add _).trans<|Zr (enc:=Qi) (l:=(cnt3<|l)) 0 oo) ?_
  refine au 0xc9f8 ?_
  have n:=Qa (c) oo oo
  refine yp I (.build [(_,_),(_,_),(_,_),(_,_)] I<|JO _ _ _ _ _ _ _ _)<|stV I I I QX ?_
  refine yn<|zt ?_;intro a w h
  refine Js h (Ze h I<|rC dL) ?_
  rfl
abbrev SideF:Zp:=Row (some ⟨0,0,none⟩) [.int .i64 1,.int .i64 2,.int .i64 2,.int .i64 0,.int .i64 0,.int .i64 1]
theorem UI:Ctr prog 221 [.int .i64 1,.int .i64 0] [SideF] (fun v Ψ => ∃b f,v=.tuple #[.slice b (Yd 1 0).length f,.int .i64 0]∧Ψ=[Row b (cellsOf Vt (Yd 1 0))]):=by
 refine fnI func221 I ntmps221 fun S w0 d=>au 0x44319125531 ?_
 refine zv [_,_] I call298 (MF 0 dd)<|au 0x4311e2532f431d25a0f ?_
 refine zB [(_,_)] I (Jf _) fun e=>?_;intro a w h
 replace h:=h.shareAll d (List.map Qi ([0])) I
 refine gL h<|zw [_,_] I call299 (AE 1 [0] _ _ dd dd dd dd) (zB [(_,_)] I (A2 _ _ _ _ _ _ _ _) fun c=>?_);clear h;intro a w h
 replace h:=h.shareAll d (cellsOf Vt ([El 1 [0]])) I
 refine gL h<|au 0x6255 ?_;clear h;intro a w h
 refine Qn (Ψ:=[Row (some ⟨c,0,none⟩) (cellsOf Vt [El 1 [0]])]) h (Zw h I (.tmp I)<|.tmp I) ?_ ss
 exact⟨some ⟨c,0,none⟩,1,rfl,rfl⟩
theorem UH:Ctr prog 221 [.int .i64 1,.int .i64 1] [SideF] (fun v Ψ => ∃b f,v=.tuple #[.slice b (Yd 1 1).length f,.int .i64 0]∧Ψ=[Row b (cellsOf Vt (Yd 1 1))]):=by
 refine fnI func221 I ntmps221 fun S w0 d=>au 0x44319125531 ?_
 refine zv [_,_] I call298 (MF 1 dd)<|au 0x4311e2532f431d25a0f ?_
 refine zB [(_,_)] I (Jf _) fun e=>?_;intro a w h
 replace h:=h.shareAll d (List.map Qi ([1])) I
 refine gL h<|zw [_,_] I call299 (AE 1 [1] _ _ dd dd dd dd) (zB [(_,_)] I (A2 _ _ _ _ _ _ _ _) fun c=>?_);clear h;intro a w h
 replace h:=h.shareAll d (cellsOf Vt ([El 1 [1]])) I
 refine gL h<|au 0x6255 ?_;clear h;intro a w h
 refine Qn (Ψ:=[Row (some ⟨c,0,none⟩) (cellsOf Vt [El 1 [1]])]) h (Zw h I (.tmp I)<|.tmp I) ?_ ss
 exact⟨some ⟨c,0,none⟩,1,rfl,rfl⟩
theorem UG:Ctr prog 221 [.int .i64 1,.int .i64 2] [SideF] (fun v Ψ => ∃b f,v=.tuple #[.slice b (Yd 1 2).length f,.int .i64 0]∧Ψ=[Row b (cellsOf Vt (Yd 1 2))]):=by
 refine fnI func221 I ntmps221 fun S w0 d=>au 0x44319125531 ?_
 refine zv [_,_] I call298 (MF 2 dd)<|au 0x4311e2532f431d25a0f ?_
 refine zB [(_,_)] I (Jf _) fun e=>?_;intro a w h
 replace h:=h.shareAll d (List.map Qi ([2])) I
 refine gL h<|zw [_,_] I call299 (AE 1 [2] _ _ dd dd dd dd) (zB [(_,_)] I (A2 _ _ _ _ _ _ _ _) fun c=>?_);clear h;intro a w h
 replace h:=h.shareAll d (cellsOf Vt ([El 1 [2]])) I
 refine gL h<|au 0x6255 ?_;clear h;intro a w h
 refine Qn (Ψ:=[Row (some ⟨c,0,none⟩) (cellsOf Vt [El 1 [2]])]) h (Zw h I (.tmp I)<|.tmp I) ?_ ss
 exact⟨some ⟨c,0,none⟩,1,rfl,rfl⟩
theorem UF:Ctr prog 221 [.int .i64 2,.int .i64 0] [SideF] (fun v Ψ => ∃b g,v=.tuple #[.slice b (Yd 2 0).length g,.int .i64 0]∧Ψ=[Row b (cellsOf Vt (Yd 2 0))]):=by
 refine fnI func221 I ntmps221 fun S w0 d=>au 0x44319125531 ?_
 refine zv [_,_] I call298 (D1 0 dd)<|au 0x44311e259e431d2564f431d25a0f ?_
 refine zB [(_,_),(_,_)] I (Jy _ _) fun f=>?_;intro a w h
 replace h:=h.shareAll d (List.map Qi ([0,0])) I
 refine gL h<|zw [_,_] I call299 (AE 2 [0,0] _ _ dd dd dd dd)<|zm I (zB [(_,_)] I (Jf _) fun e=>?_);clear h;intro a w h
 replace h:=h.shareAll d (List.map Qi ([0])) I
 refine gL h<|zw [_,_] I call299 (AE (-1) [0] _ _ dd dd dd dd) (zB [(_,_),(_,_)] I (Dm _ _ _ _ _ _ _ _ _ _ _ _ _ _ _ _) fun c=>?_);clear h;intro a w h
 replace h:=h.shareAll d (cellsOf Vt ([El 2 [0,0],El (-1) [0]])) I
 refine gL h<|au 0x6255 ?_;clear h;intro a w h
 refine Qn (Ψ:=[Row (some ⟨c,0,none⟩) (cellsOf Vt [El 2 [0,0],El (-1) [0]])]) h (Zw h I (.tmp I)<|.tmp I) ?_ ss
 exact⟨some ⟨c,0,none⟩,2,rfl,rfl⟩
theorem UE:Ctr prog 221 [.int .i64 2,.int .i64 1] [SideF] (fun v Ψ => ∃b g,v=.tuple #[.slice b (Yd 2 1).length g,.int .i64 0]∧Ψ=[Row b (cellsOf Vt (Yd 2 1))]):=by
 refine fnI func221 I ntmps221 fun S w0 d=>au 0x44319125531 ?_
 refine zv [_,_] I call298 (D1 1 dd)<|au 0x44311e259e431d2564f431d25a0f ?_
 refine zB [(_,_),(_,_)] I (Jy _ _) fun f=>?_;intro a w h
 replace h:=h.shareAll d (List.map Qi ([1,1])) I
 refine gL h<|zw [_,_] I call299 (AE 2 [1,1] _ _ dd dd dd dd)<|zm I (zB [(_,_)] I (Jf _) fun e=>?_);clear h;intro a w h
 replace h:=h.shareAll d (List.map Qi ([1])) I
 refine gL h<|zw [_,_] I call299 (AE (-1) [1] _ _ dd dd dd dd) (zB [(_,_),(_,_)] I (Dm _ _ _ _ _ _ _ _ _ _ _ _ _ _ _ _) fun c=>?_);clear h;intro a w h
 replace h:=h.shareAll d (cellsOf Vt ([El 2 [1,1],El (-1) [1]])) I
 refine gL h<|au 0x6255 ?_;clear h;intro a w h
 refine Qn (Ψ:=[Row (some ⟨c,0,none⟩) (cellsOf Vt [El 2 [1,1],El (-1) [1]])]) h (Zw h I (.tmp I)<|.tmp I) ?_ ss
 exact⟨some ⟨c,0,none⟩,2,rfl,rfl⟩
theorem UD:Ctr prog 221 [.int .i64 2,.int .i64 2] [SideF] (fun v Ψ => ∃b g,v=.tuple #[.slice b (Yd 2 2).length g,.int .i64 0]∧Ψ=[Row b (cellsOf Vt (Yd 2 2))]):=by
 refine fnI func221 I ntmps221 fun S w0 d=>au 0x44319125531 ?_
 refine zv [_,_] I call298 (D1 2 dd)<|au 0x44311e259e431d2564f431d25a0f ?_
 refine zB [(_,_),(_,_)] I (Jy _ _) fun f=>?_;intro a w h
 replace h:=h.shareAll d (List.map Qi ([2,2])) I
 refine gL h<|zw [_,_] I call299 (AE 2 [2,2] _ _ dd dd dd dd)<|zm I (zB [(_,_)] I (Jf _) fun e=>?_);clear h;intro a w h
 replace h:=h.shareAll d (List.map Qi ([2])) I
 refine gL h<|zw [_,_] I call299 (AE (-1) [2] _ _ dd dd dd dd) (zB [(_,_),(_,_)] I (Dm _ _ _ _ _ _ _ _ _ _ _ _ _ _ _ _) fun c=>?_);clear h;intro a w h
 replace h:=h.shareAll d (cellsOf Vt ([El 2 [2,2],El (-1) [2]])) I
 refine gL h<|au 0x6255 ?_;clear h;intro a w h
 refine Qn (Ψ:=[Row (some ⟨c,0,none⟩) (cellsOf Vt [El 2 [2,2],El (-1) [2]])]) h (Zw h I (.tmp I)<|.tmp I) ?_ ss
 exact⟨some ⟨c,0,none⟩,2,rfl,rfl⟩
theorem UC:Ctr prog 221 [.int .i64 2,.int .i64 3] [SideF] (fun v Ψ => ∃c g,v=.tuple #[.slice c (Yd 2 3).length g,.int .i64 0]∧Ψ=[Row c (cellsOf Vt (Yd 2 3))]):=by
 refine fnI func221 I ntmps221 fun S w0 e=>au 0x44319125531 ?_
 refine zv [_,_] I call298 (D1 3 dd)<|au 0x4317d2541f431d2564f431d25a0f ?_
 refine zp (Pure1.cast (v':=.int .i64 0) (.sub I I) cgd)<|zp (.indexAddr I I<|X7 _ _)<|zD (b:=0) (off:=0) (j:=0) (M:=[.int .i64 1,.int .i64 2,.int .i64 2,.int .i64 0,.int .i64 0,.int .i64 1]) (v:=.agg #[.int .i64 1,.int .i64 2]) I List.mem_cons_self dd isAgg125 sizeOf125 I (.inl I) ?_
 refine zz zeroValue125 fun i=>stW I I Zt ?_
 refine au 0x61fe8fc0ff8f312 ?_
 refine zB [(_,_),(_,_)] I (Jy _ _) fun f=>?_;intro a w h
 replace h:=h.shareAll e (List.map Qi ([1,2])) I
 refine gL h<|zw [_,_] I call299 (AE 4 [1,2] _ _ dd dd dd dd) (zB [(_,_)] I (A2 _ _ _ _ _ _ _ _) fun d=>?_);clear h;intro a w h
 replace h:=h.shareAll e (cellsOf Vt ([El 4 [1,2]])) I
 refine gL h<|au 0x6255 ?_;clear h;intro a w h
 refine Qn (Ψ:=[Row (some ⟨d,0,none⟩) (cellsOf Vt [El 4 [1,2]])]) h (Zw h I (.tmp I)<|.tmp I) ?_ ss
 exact⟨some ⟨d,0,none⟩,1,rfl,rfl⟩
theorem UB:Ctr prog 221 [.int .i64 2,.int .i64 4] [SideF] (fun v Ψ => ∃c g,v=.tuple #[.slice c (Yd 2 4).length g,.int .i64 0]∧Ψ=[Row c (cellsOf Vt (Yd 2 4))]):=by
 refine fnI func221 I ntmps221 fun S w0 e=>au 0x44319125531 ?_
 refine zv [_,_] I call298 (D1 4 dd)<|au 0x4317d2541f431d2564f431d25a0f ?_
 refine zp (Pure1.cast (v':=.int .i64 1) (.sub I I) cgd)<|zp (.indexAddr I I<|X6 _ _)<|zD (b:=0) (off:=0) (j:=2) (M:=[.int .i64 1,.int .i64 2,.int .i64 2,.int .i64 0,.int .i64 0,.int .i64 1]) (v:=.agg #[.int .i64 2,.int .i64 0]) I List.mem_cons_self dd isAgg125 sizeOf125 I (.inl I) ?_
 refine zz zeroValue125 fun i=>stW I I Zt ?_
 refine au 0x61fe8fc0ff8f312 ?_
 refine zB [(_,_),(_,_)] I (Jy _ _) fun f=>?_;intro a w h
 replace h:=h.shareAll e (List.map Qi ([2,0])) I
 refine gL h<|zw [_,_] I call299 (AE 4 [2,0] _ _ dd dd dd dd) (zB [(_,_)] I (A2 _ _ _ _ _ _ _ _) fun d=>?_);clear h;intro a w h
 replace h:=h.shareAll e (cellsOf Vt ([El 4 [2,0]])) I
 refine gL h<|au 0x6255 ?_;clear h;intro a w h
 refine Qn (Ψ:=[Row (some ⟨d,0,none⟩) (cellsOf Vt [El 4 [2,0]])]) h (Zw h I (.tmp I)<|.tmp I) ?_ ss
 exact⟨some ⟨d,0,none⟩,1,rfl,rfl⟩
theorem UA:Ctr prog 221 [.int .i64 2,.int .i64 5] [SideF] (fun v Ψ => ∃c g,v=.tuple #[.slice c (Yd 2 5).length g,.int .i64 0]∧Ψ=[Row c (cellsOf Vt (Yd 2 5))]):=by
 refine fnI func221 I ntmps221 fun S w0 e=>au 0x44319125531 ?_
 refine zv [_,_] I call298 (D1 5 dd)<|au 0x4317d2541f431d2564f431d25a0f ?_
 refine zp (Pure1.cast (v':=.int .i64 2) (.sub I I) cgd)<|zp (.indexAddr I I<|X5 _ _)<|zD (b:=0) (off:=0) (j:=4) (M:=[.int .i64 1,.int .i64 2,.int .i64 2,.int .i64 0,.int .i64 0,.int .i64 1]) (v:=.agg #[.int .i64 0,.int .i64 1]) I List.mem_cons_self dd isAgg125 sizeOf125 I (.inl I) ?_
 refine zz zeroValue125 fun i=>stW I I Zt ?_
 refine au 0x61fe8fc0ff8f312 ?_
 refine zB [(_,_),(_,_)] I (Jy _ _) fun f=>?_;intro a w h
 replace h:=h.shareAll e (List.map Qi ([0,1])) I
 refine gL h<|zw [_,_] I call299 (AE 4 [0,1] _ _ dd dd dd dd) (zB [(_,_)] I (A2 _ _ _ _ _ _ _ _) fun d=>?_);clear h;intro a w h
 replace h:=h.shareAll e (cellsOf Vt ([El 4 [0,1]])) I
 refine gL h<|au 0x6255 ?_;clear h;intro a w h
 refine Qn (Ψ:=[Row (some ⟨d,0,none⟩) (cellsOf Vt [El 4 [0,1]])]) h (Zw h I (.tmp I)<|.tmp I) ?_ ss
 exact⟨some ⟨d,0,none⟩,1,rfl,rfl⟩
theorem im{o n:Nat}(ho:o=1∨o=2)(c:n<Gz o): Ctr prog 221 [.int .i64 ((o:Nat):Int),.int .i64 ((n:Nat):Int)] [SideF] (fun v Ψ => ∃b d,v=.tuple #[.slice b (Yd o n).length d,.int .i64 0]∧Ψ=[Row b (cellsOf Vt (Yd o n))]):=by
 rcases ho with rfl|rfl
 ·have a:n=0∨n=1∨n=2:=by simp only[Gz] at c;simp at c;omega
  rcases a with rfl|rfl|rfl
  ·exact UI
  ·exact UH
  ·exact UG
 ·have a:n=0∨n=1∨n=2∨n=3∨n=4∨n=5:=by simp only[Gz] at c;simp at c;omega
  rcases a with rfl|rfl|rfl|rfl|rfl|rfl
  ·exact UF
  ·exact UE
  ·exact UD
  ·exact UC
  ·exact UB
  ·exact UA
end
section
theorem Lz(a:Option Addr)(n c:Nat)(w:World)(ty:TypeId)(cs:Array Bool): (Go.builtin .len #[321] ty cs #[.slice a n c]).run prog w=.ok (.value (.int .i64 n)) w:=by
 simp[go_sem]
theorem ix_321(b off n c j:Nat)(h:j<n): RN (Instr.indexAt 321 (.slice (some ⟨b,off,none⟩) n c) (.int .i64 (j:Int))) (.pointer (some ⟨b,off+j*8,none⟩)):=fun w=>by
 simpa using Qd runUnderlying321 sizeOf325 b off n c j h w
theorem fc{b off:Nat}: RN (Instr.fieldAt 325 (.pointer (some ⟨b,off,none⟩)) 0) (.pointer (some ⟨b,off+0,none⟩)):=fun w=>by
 simp[go_sem]
theorem rs_8_0{c0 c1 c2 a d b e c:Value}: Zk false 1 #[c0,c1,c2,a,d,b,e,c] 0=some c0:=rfl
theorem fb{b off:Nat}: RN (Instr.fieldAt 325 (.pointer (some ⟨b,off,none⟩)) 1) (.pointer (some ⟨b,off+1,none⟩)):=fun w=>by
 simp[go_sem]
theorem rs_8_1{c0 c1 c2 a d b e c:Value}: Zk false 1 #[c0,c1,c2,a,d,b,e,c] 1=some c1:=rfl
theorem fa{b off:Nat}: RN (Instr.fieldAt 325 (.pointer (some ⟨b,off,none⟩)) 2) (.pointer (some ⟨b,off+2,none⟩)):=fun w=>by
 simp[go_sem]
theorem rs_8_2{c0 c1 c2 a d b e c:Value}: Zk false 1 #[c0,c1,c2,a,d,b,e,c] 2=some c2:=rfl
theorem Bn{c0 c1 c2:Value}: Zk false 1 #[c0,c1,c2] 0=some c0:=rfl
theorem eZ{b off:Nat}: RN (Instr.fieldAt 325 (.pointer (some ⟨b,off,none⟩)) 3) (.pointer (some ⟨b,off+3,none⟩)):=fun w=>by
 simp[go_sem]
theorem dK{c0 c1 c2 a d b e c:Value}: Zk true 5 #[c0,c1,c2,a,d,b,e,c] 3=some (.agg #[a,d,b,e,c]):=rfl
theorem EH{c0 c1 c2 v0:Value}: Zl #[c0,c1,c2] 0 [v0]=#[v0,c1,c2]:=by kernel_rfl
theorem Vb{c0 c1 c2:Value}: Zk false 1 #[c0,c1,c2] 1=some c1:=rfl
theorem K9{c0 c1 c2 v0:Value}: Zl #[c0,c1,c2] 1 [v0]=#[c0,v0,c2]:=by kernel_rfl
theorem HF{c0 c1 c2 v0:Value}: Zl #[c0,c1,c2] 2 [v0]=#[c0,c1,v0]:=by kernel_rfl
end
section
theorem Ar{c0:Value}: Zk false 1 #[c0] 0=some c0:=rfl
def tgK(p q:List Pw)(k m:Nat): Rat:=(q.take m).foldl (tgS (p.getD k pw0)) (tgQ (p.take k) q)
theorem OkPw.take{p:List Pw}(h:OkPw p)(k:Nat): OkPw (p.take k):=⟨Nat.le_trans (by rw[List.length_take];omega) h.1,fun x hx=>h.2 x (List.mem_of_mem_take hx)⟩
end
section
end
section
theorem NB(a:Option Addr)(n c:Nat)(w:World)(ty:TypeId)(cs:Array Bool): (Go.builtin .len #[59] ty cs #[.slice a n c]).run prog w=.ok (.value (.int .i64 n)) w:=by
 simp[go_sem]
theorem ix_59(b off n c j:Nat)(h:j<n): RN (Instr.indexAt 59 (.slice (some ⟨b,off,none⟩) n c) (.int .i64 (j:Int))) (.pointer (some ⟨b,off+j*5,none⟩)):=fun w=>by
 simpa using Qd runUnderlying59 sizeOf51 b off n c j h w
structure Vs where
 ad:Option Addr
 n:Nat
 c:Nat
structure Mt where
 r:Nat
 c:Nat
 ad:Option Addr
 n:Nat
 cp:Nat
def vs0:Vs:=⟨none,0,0⟩
def mt0:Mt:=⟨0,0,none,0,0⟩
abbrev encVs(v:Vs): Value:=.slice v.ad v.n v.c
abbrev encMt(m:Mt): Value:=.agg #[.int .i64 ((m.r:Nat):Int),.int .i64 ((m.c:Nat):Int),.slice m.ad m.n m.cp]
def mkL(f:Nat→Rat)(n:Nat): List Rat:=(List.range n).map f
def padL(f:Nat→Rat)(n i:Nat): List Rat:=mkL f i++List.replicate (n-i) 0
end
section
def matF(φ:Nat→Nat→Rat)(c:Nat): Nat→Rat:=fun t=>φ (t/c) (t%c)
def matL(φ:Nat→Nat→Rat)(r c:Nat): List Rat:=mkL (matF φ c) (r*c)
end
section
end
section
def rowL(A:List Rat)(i c:Nat): List Rat:=(A.drop (i*c)).take c
def appF(A B:List Rat)(c:Nat): Nat→Rat:=fun i=>bN (fun k=>A.getD (i*c+k) 0*B.getD k 0) c
end
section
theorem OY{x:Rat}: 0<x.num.sign↔0<x:=by
 rw[Int.sign_pos_iff]
 constructor
 ·intro h
  have h1:=Rat.num_nonneg.1 (Int.le_of_lt h)
  have a:x≠0:=fun e=>by subst e;exact absurd h dd
  grind
 ·intro h
  have h1:=Rat.num_nonneg.2 (Rat.le_of_lt h)
  have a:x.num≠0:=fun e=>by rw[Rat.num_eq_zero] at e;subst e;grind
  omega
theorem tw_ne{b a c:Pt}(h:0<(twP b a c).num.sign): twP b a c≠0:=fun e=>by rw[e] at h;exact absurd h dd
theorem gk{b a c:Pt}(h:0<(twP b a c).num.sign): 0<(Z7 b a c).num.sign:=by
 have:=OY.1 h
 refine OY.2 ?_
 unfold Z7
 rw[lJ];exact Rat.mul_pos this kD
theorem W8(o:Nat): 0<Gz o:=by unfold Gz;split<;>decide
theorem jC{o:Nat}(ho:o=1∨o=2): Ji prog 220 [.int .i64 ((o:Nat):Int)] (.int .i64 ((Gz o:Nat):Int)):=by
 rcases ho with rfl|rfl
 ·exact bD
 ·exact bC
theorem YO{a c b:Pt}{K:Nat}(ha:PtK K a)(f:PtK K c)(hc:PtK K b): PtK (10*K+6) (Jz a c b).1∧PtK (10*K+6) (Jz a c b).2.1∧PtK (10*K+6) (Jz a c b).2.2:=by
 obtain ⟨j,e⟩:=ha
 obtain ⟨g,h⟩:=f
 obtain ⟨i,d⟩:=hc
 have ht:=Km a c b
 have h1:=LJ b c (twP a c b)
 have k:=LJ a b (twP a c b)
 have l:=LJ c a (twP a c b)
 exact⟨⟨by simp only[Jz];omega,by simp only[Jz];omega⟩,⟨by simp only[Jz];omega,by simp only[Jz];omega⟩,⟨by simp only[Jz];omega,by simp only[Jz];omega⟩⟩
theorem nj(o K:Nat)(ho:o=1∨o=2)(c f d:Pt)(ha:PtK K c)(l:PtK K f)(hc:PtK K d)(s:K≤1000)(hT:0<(twP c f d).num.sign): Ji prog 216 [.int .i64 ((o:Nat):Int),Vy c f d] (.bool true):=by
 obtain ⟨q,k⟩:=ha
 obtain ⟨m,n⟩:=l
 obtain ⟨p,i⟩:=hc
 have j:=W8 o
 have has:=gk hT
 refine fnI func216 I ntmps216 fun S w0 t=>zS (zx I fun r=>au 0x43125 ?_)
 refine zv [_] I call220 (jC ho)<|zp (.gtr I I) (bbT (fun e=>(by exfalso;have:=of_decide_eq_false e;omega)) fun e=>zm I<|zq 8 I I (.indexAddr I I<|B0 _ _)<|ldQ 8 AX ?_)
 refine zq 8 I I (.indexAddr I I<|BZ _ _)<|ldQ 8 Gu ?_
 refine zq 8 I I (.indexAddr I I<|BY _ _)<|ldQ 8 Gt ?_;intro a w h
 refine Zq 8 h I I<|Qw h (vs:=[_,_,_]) I call294 (gu c f d oo oo oo oo oo oo) dd ?_;clear h;intro a w h
 have g:=TP c f d
 refine Zq 8 h I I<|Qw h (vs:=[_]) I call7 (Dq _) dd ?_;clear h;intro a w h
 refine gL h<|zq 8 I I (.gtr I I) (bbT (fun b=>(by exfalso;have:=of_decide_eq_false b;omega)) fun b=>au 0x6252e ?_)
 refine rtK I
end
section
theorem ixd{p:Prop}(h:p:=by first|omega|decide|simp): p:=h
theorem hsC{α:Type _}{a:α}{l L:List α}(t:∀R∈l,R∈L)(h:a∈L:=by first|assumption|(repeat(first|exact List.Mem.head _|apply List.Mem.tail|apply List.mem_append_right))): ∀R∈a::l,R∈L:=fun R hR=>by
 rcases List.mem_cons.1 hR with e|e
 ·rw[e];exact h
 ·exact t R e
theorem hsA{α:Type _}{l L:List α}(h:∀R∈l,R∈L:=by repeat(first|exact(fun _ hR=>absurd hR List.not_mem_nil)|refine hsC ?_)): ∀R∈l,R∈L:=h
theorem pq_c(x:Rat){K:Nat}(h:Zn x≤K): Pq 0 (K+2) (norm [(⟨0,0,x⟩:Tm)]):=by
 have:=Pq.raw (d:=0) (k:=K) (m:=1) (l:=[(⟨0,0,x⟩:Tm)]) (fun t ht=>by rcases List.mem_singleton.1 ht with rfl;exact Nat.le_refl _) (fun t ht=>by rcases List.mem_singleton.1 ht with rfl;exact h) (Nat.le_refl _) dd
 exact(this.nrm dd).mono (Nat.le_refl _) oo
theorem pq_x:Pq 1 4 [(⟨1,0,((1:Int):Rat)⟩:Tm)] :=
 Pq.raw (d:=1) (k:=2) (m:=1) (fun t ht=>by rcases List.mem_singleton.1 ht with rfl;exact Nat.le_refl _) (fun t ht=>by rcases List.mem_singleton.1 ht with rfl;exact Qa 1 dd dd) (Nat.le_refl _) dd
theorem pq_y:Pq 1 4 [(⟨0,1,((1:Int):Rat)⟩:Tm)] :=
 Pq.raw (d:=1) (k:=2) (m:=1) (fun t ht=>by rcases List.mem_singleton.1 ht with rfl;exact Nat.le_refl _) (fun t ht=>by rcases List.mem_singleton.1 ht with rfl;exact Qa 1 dd dd) (Nat.le_refl _) dd
theorem F9{q:Rat}{g:Pt}{K:Nat}(hq:Zn q≤K)(a:PtK K g): Pq 1 (3*K+16) (Lu q g):=by
 have h1:=pq_x.scale (c:=g.1) a.1 dd
 have b:=pq_y.scale (c:=g.2) a.2 dd
 exact((pq_c q hq).add (h1.add b dd dd) dd dd).mono dd oo
theorem ji{a c b:Pt}{K:Nat}(ha:PtK K a)(f:PtK K c)(hc:PtK K b)(k:2≤K): Zn (Gf a c b (0,0)).1≤16*K+10∧Zn (Gf a c b (0,0)).2.1≤16*K+10∧Zn (Gf a c b (0,0)).2.2≤16*K+10:=by
 have l:Zn ((0:Rat),(0:Rat)).1≤2∧Zn ((0:Rat),(0:Rat)).2≤2:=⟨Vo,Vo⟩
 obtain ⟨j,e⟩:=ha
 obtain ⟨g,h⟩:=f
 obtain ⟨i,d⟩:=hc
 have t:=Km a c b
 have t1:=Km (0,0) c b
 have t2:=Km a (0,0) b
 have t3:=Km a c (0,0)
 have d1:=Ye (twP (0,0) c b) (twP a c b)
 have d2:=Ye (twP a (0,0) b) (twP a c b)
 have d3:=Ye (twP a c (0,0)) (twP a c b)
 exact⟨by simp only[Gf];omega,by simp only[Gf];omega,by simp only[Gf];omega⟩
theorem aI(q:Rat)(g:Pt)(K:Nat)(hq:Zn q≤K)(c:PtK K g)(L:K≤100000): Ctr prog 219 [Qe q,encPt g] [] (fun v Ψ => ∃d D,v=.slice d (Lu q g).length D∧Ψ=[Row d (cellsOf Zz (Lu q g))]):=by
 refine fnI func219 I ntmps219 fun S w0 G=>zS (zx I fun F=>zx I fun E=>za I<|zn<|zs<|yE [0,3,4,7,8,1,2,5,6,9,10,11,12]<|au 0xbe ?_)
 refine au 0xf3fd3f ?_
 refine au 0xc2fc3f ?_
 refine Zs I kk (vs:=[_]) I call222 (MM q K hq oo) (by exact hsA) dd ?_;rintro v6 t ⟨y,H,rfl,rfl⟩
 refine Zs I kk (vs:=[]) I call296 (C_X) (by exact hsA) dd ?_;rintro J x ⟨C,rfl,rfl⟩
 refine Zs I kk (vs:=[_,_]) I call121 (Gm [(⟨1,0,((1:Int):Rat)⟩:Tm)] _ _ 1 4 pq_x dd dd g.1 K c.1 oo) (by exact hsA) dd ?_;rintro v10 f ⟨o,B,rfl,rfl⟩
 refine Zs I kk (vs:=[]) I call297 (C_Y) (by exact hsA) dd ?_;rintro v11 m ⟨p,rfl,rfl⟩
 refine Zs I kk (vs:=[_,_]) I call121 (Gm [(⟨0,1,((1:Int):Rat)⟩:Tm)] _ _ 1 4 pq_y dd dd g.2 K c.2 oo) (by exact hsA) dd ?_;rintro u j ⟨i,z,rfl,rfl⟩
 refine Zs I kk (vs:=[_,_]) I call89 (CG (norm<|Qc g.1 [(⟨1,0,((1:Int):Rat)⟩:Tm)]) (norm<|Qc g.2 [(⟨0,1,((1:Int):Rat)⟩:Tm)]) _ _ _ _ 1 1 (K+4+1) (K+4+1) (pq_x.scale c.1 dd) (pq_y.scale c.2 dd) dd dd oo oo) (by exact hsA) dd ?_;rintro r n ⟨k,A,rfl,rfl⟩
 refine Zs I kk (vs:=[_,_]) I call89 (CG (norm [(⟨0,0,q⟩:Tm)]) (norm (norm (Qc g.1 [(⟨1,0,((1:Int):Rat)⟩:Tm)])++norm (Qc g.2 [(⟨0,1,((1:Int):Rat)⟩:Tm)]))) _ _ _ _ 0 1 (K+2) (K+4+1+(K+4+1)+2) (pq_c q hq) ((pq_x.scale c.1 dd).add (pq_y.scale c.2 dd) dd dd) dd dd oo oo) (by exact hsA) dd ?_;rintro s l ⟨b,e,rfl,rfl⟩
 refine au 0x6a3e ?_;intro a w h
 refine Qn (Ψ:=[Row b (cellsOf Zz<|norm (norm [(⟨0,0,q⟩:Tm)]++norm (norm (Qc g.1 [(⟨1,0,((1:Int):Rat)⟩:Tm)])++norm (Qc g.2 [(⟨0,1,((1:Int):Rat)⟩:Tm)]))))]) h (Ze h I<|.tmp I) ?_ ss
 exact⟨b,e,rfl,rfl⟩
end
section
theorem LF(a:Option Addr)(n c:Nat)(w:World)(ty:TypeId)(cs:Array Bool): (Go.builtin .len #[145] ty cs #[.slice a n c]).run prog w=.ok (.value (.int .i64 n)) w:=by
 simp[go_sem]
theorem Vr{k:Nat}{E:TypeId}{ad:Option Addr}{m a c:Nat}{xs:List Value}{o:List (Nat×Obj)}(h:GrowO k E (.slice ad m c) a xs o): m≤c:=by
 obtain ⟨_,⟨h,_,_⟩|⟨_,_,_,h,_,b,_⟩⟩:=h
 ·cases h;exact Nat.le_refl _
 ·cases h;exact b
theorem zeroLP(w:World): (zeroValue 318).run prog w=.ok (.agg #[.slice none 0 0,.slice none 0 0,.slice none 0 0]) w:=zeroValue318 w
theorem oy(ad:Option Addr)(n c:Nat)(a:n≤c)(hc:n≤1000): Ji prog 224 [.slice ad n c] (.slice ad n n):=by
 refine fnI func224 I ntmps224 fun S w0 b=>au 0xebf4ebf44312531 ?_
 refine zp (.slice I none (some _) (some _) I I I (fun w=>Xx runUnderlying145 sizeOf54 _ _ _ a w))<|za I<|zn<|zt<|rtK I
end
section
theorem fg{b off:Nat}: RN (Instr.fieldAt 175 (.pointer (some ⟨b,off,none⟩)) 0) (.pointer (some ⟨b,off+0,none⟩)):=fun w=>by
 simp[go_sem]
theorem dN{c0 c1 c2 a:Value}: Zk true 2 #[c0,c1,c2,a] 0=some (.agg #[c0,c1]):=rfl
theorem ff{b off:Nat}: RN (Instr.fieldAt 175 (.pointer (some ⟨b,off,none⟩)) 1) (.pointer (some ⟨b,off+2,none⟩)):=fun w=>by
 simp[go_sem]
theorem dM{c0 c1 c2 a:Value}: Zk true 2 #[c0,c1,c2,a] 2=some (.agg #[c2,a]):=rfl
def ptv(q:(Int×Int)×(Int×Int)): Pt:=(qvp q.1,qvp q.2)
def OkP(q:(Int×Int)×(Int×Int)): Prop:=OkQ q.1∧OkQ q.2
theorem ptv_K{q:(Int×Int)×(Int×Int)}(h:OkP q): PtK 4 (ptv q):=⟨EY h.1,EY h.2⟩
theorem jq(q:Int×Int)(h:OkQ q): Ji prog 8 [.agg #[.int .i64 q.1,.int .u32 q.2]] (Qe (qvp q)):=FM q.1 q.2 h.1 h.2.1 h.2.2.1 h.2.2.2
theorem nZ(p:(Int×Int)×(Int×Int))(f:OkP p): Ji prog 84 [.agg #[.int .i64 p.1.1,.int .u32 p.1.2,.int .i64 p.2.1,.int .u32 p.2.2]] (encPt (ptv p)):=by
 obtain ⟨d,e⟩:=f
 refine fnI func84 I ntmps84 fun S w0 j=>zS (zx I fun i=>zz Xv fun g=>zn<|zs<|yE [0,1,3,4,2,5,6,7]<|yp I (.fA I fg)<|ldY dN ?_)
 refine yp I (.fA I ff)<|ldY dM ?_
 refine yv [_] I I call8 (jq p.1 (by assumption)) ?_
 have c:=EY (q:=p.1) (by assumption)
 refine yv [_] I I call8 (jq p.2 (by assumption)) ?_
 have b:=EY (q:=p.2) (by assumption)
 refine yp I (.build [(_,_),(_,_)] I<|K3 _ _ _ _ _ _ _ _ _ _)<|stV I I I Qb ?_
 refine yn<|zt ?_;intro a w h
 refine Js h (Ze h I<|rC Xi) ?_
 rfl
end
end Go.Proofs.YtejhdcohoggojaaGreatDoor
