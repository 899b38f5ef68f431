/- Whatever the input, 'gussetlaw44.AdaptsStep' returns true and leaves its arguments as they were.
   Conditions: those of the given row, and no others. By an AI agent. -/
import Derived.Test.YtdadideknhmbbaaGreatDoorCards
import Derived.Test.YtdadideknhmbbaaGreatDoorTie
import Derived.Test.YtdadideknhmbbaaGreatDoorClJ
import Derived.WalkKit
import Derived.ProofKit
import Derived.OpenShut
import Derived.Deep.DeepHandedRow
import Derived.Lib.LaidTab
import Derived.Deep.Strs
import Derived.Carry
import Derived.Test.YtdadideknhmbbaaGreatDoorLaw44g
set_option linter.unusedVariables false
set_option linter.unusedSimpArgs false
set_option maxRecDepth 100000
namespace Go.Proofs.YtdadideknhmbbaaGreatDoor.fnAdaptsStep
open Go Go.Fx Go.ChangeShapes Go.WideShapes Go.ChangeAt Go.RowKit
theorem own:ownKnob Tryz.prog.godebug=none:=by kernel_rfl
theorem laidOut:laidOutB Tryz.prog=true:=by kernel_rfl
theorem mZ:Tryz.prog.cellsOf 91=2:=by kernel_rfl
theorem cellsI:Tryz.prog.cellsOf 2=1:=by kernel_rfl
theorem cellsU:Tryz.prog.cellsOf 89=1:=by kernel_rfl
theorem na:Tryz.prog.cellsOf 3=1:=by kernel_rfl
theorem ei:Tryz.prog.cellsOf 23=1:=by kernel_rfl
theorem DZ:Tryz.prog.cellsOf 5=1:=by kernel_rfl
theorem cellsB:Tryz.prog.cellsOf 4=1:=by kernel_rfl
theorem cellsT:Tryz.prog.cellsOf 360=4:=by kernel_rfl
theorem cells2:Tryz.prog.cellsOf 130=2:=by kernel_rfl
theorem cells4:Tryz.prog.cellsOf 24=4:=by kernel_rfl
theorem cells3:Tryz.prog.cellsOf 27=3:=by kernel_rfl
theorem ri:Tryz.prog.cellsOf 22=1:=by kernel_rfl
theorem rj:Tryz.prog.cellsOf 28=1:=by kernel_rfl
theorem rk:Tryz.prog.cellsOf 31=1:=by kernel_rfl
theorem cellsM:Tryz.prog.cellsOf 26=9:=by kernel_rfl
theorem rl:Tryz.prog.cellsOf 30=16:=by kernel_rfl
theorem cellsC:Tryz.prog.cellsOf 33=18:=by kernel_rfl
section
variable{H:Type}{enc:TypeId×Value->H}{W:World}
theorem mD{P:Program}{w:World}{r:Reach}{base n:Nat}{t e:TypeId}{v:Value}(ht:P.underlying t=some (.array n e))(h:Value.okWide P w r base t v): ∃cs,v=.agg cs/\cs.size=P.cellsOf t:=by
  simp only[Value.okWide,ht] at h;obtain ⟨cs,h1,a,_⟩:=h;exact⟨cs,h1,a⟩
theorem mn{i:Nat->Bool}{fuel:Nat}{v0 v1:Value}{x:DataW H×List MemPlace}(h:DataW.trod enc Tryz.prog W 0 i true fuel 91 [v0,v1]=some x): ∃q:Int×Int,OkQ q/\v0=.int .i64 q.1/\v1=.int .u32 q.2:=by
  obtain ⟨j,k,n,_,_,e,f⟩:=trod_struct2 Tryz.underlying91 h;simp only[cellsI,cellsU,List.drop,List.take] at e f;obtain ⟨s,a,_,w0⟩:=ui Tryz.underlying2 e;obtain ⟨q,c,_,g⟩:=ui Tryz.underlying89 f;simp only[s7,and_true] at a c;have d:=bounds_i64 w0;have b:=bounds_u32 g;exact⟨(s,q),⟨d.1,d.2,b.1,b.2⟩,a,c⟩
theorem Dx{b:Nat->Bool}{fuel:Nat}{c:Value}{x:DataW H×List MemPlace}(h:DataW.trod enc Tryz.prog W 0 b true fuel 5 [c]=some x): ∃s:Int,U8 s/\c=.int .u8 s:=by
  obtain ⟨s,a,_,w0⟩:=ui Tryz.underlying5 h;simp only[s7,and_true] at a;exact⟨s,bounds_u8 w0,a⟩
theorem EU{b:Nat->Bool}{fuel:Nat}{c:Value}{x:DataW H×List MemPlace}(h:DataW.trod enc Tryz.prog W 0 b true fuel 23 [c]=some x): ∃s:Int,I8 s/\c=.int .i8 s:=by
  obtain ⟨s,a,_,w0⟩:=ui Tryz.underlying23 h;simp only[s7,and_true] at a;exact⟨s,bounds_i8 w0,a⟩
theorem pj{k:Nat->Bool}{fuel:Nat}{c0 c1 c2 g:Value}{x:DataW H×List MemPlace}(h:DataW.trod enc Tryz.prog W 0 k true fuel 24 [c0,c1,c2,g]=some x): ∃s0 s1 s2 b:Int,I8 s0/\I8 s1/\I8 s2/\I8 b/\c0=.int .i8 s0/\c1=.int .i8 s1/\c2=.int .i8 s2/\g=.int .i8 b:=by
  obtain ⟨xs,m,_,_,_,o,a⟩:=DataW.trod_array Tryz.underlying24 h
  match xs,o with
  | [s,v,u,t],_ =>
    have d:=a 0 (by decide);have f:=a 1 (by decide);have c:=a 2 (by decide);have e:=a 3 (by decide);simp only[ei,tH,tt,Nat.reduceMul,List.drop,List.take,List.getElem?_cons_zero,List.getElem?_cons_succ] at d f c e;obtain ⟨s0,w0,i⟩:=EU d;obtain ⟨s1,j,p⟩:=EU f;obtain ⟨s2,r,n⟩:=EU c;obtain ⟨b,l,q⟩:=EU e;exact⟨s0,s1,s2,b,w0,j,r,l,i,p,n,q⟩
theorem pm{g:Nat->Bool}{fuel:Nat}{c0 c1 c2:Value}{x:DataW H×List MemPlace}(h:DataW.trod enc Tryz.prog W 0 g true fuel 27 [c0,c1,c2]=some x): ∃s0 s1 s2:Int,I8 s0/\I8 s1/\I8 s2/\c0=.int .i8 s0/\c1=.int .i8 s1/\c2=.int .i8 s2:=by
  obtain ⟨xs,m,_,_,_,l,a⟩:=DataW.trod_array Tryz.underlying27 h
  match xs,l with
  | [n,p,o],_ =>
    have d:=a 0 (by decide);have b:=a 1 (by decide);have c:=a 2 (by decide);simp only[ei,tH,tt,Nat.reduceMul,List.drop,List.take,List.getElem?_cons_zero,List.getElem?_cons_succ] at d b c;obtain ⟨s0,w0,e⟩:=EU d;obtain ⟨s1,f,i⟩:=EU b;obtain ⟨s2,k,j⟩:=EU c;exact⟨s0,s1,s2,w0,f,k,e,i,j⟩
theorem iw{a:Nat->Bool}{fuel:Nat}{cs:List Value}{x:DataW H×List MemPlace}(hl:cs.length=1)(h:DataW.trod enc Tryz.prog W 0 a true fuel 5 cs=some x): ∃w:Int,U8 w/\cs=(Value.cells (BJ w)).toList:=by
  match cs,hl with
  | [c],_ =>
    obtain ⟨s,h1,rfl⟩:=Dx h;exact⟨s,h1,rfl⟩
theorem pg{a:Nat->Bool}{fuel:Nat}{cs:List Value}{x:DataW H×List MemPlace}(hl:cs.length=2)(h:DataW.trod enc Tryz.prog W 0 a true fuel 91 cs=some x): ∃w:Int×Int,OkQ w/\cs=(Value.cells (Pu w)).toList:=by
  match cs,hl with
  | [v0,v1],_ =>
    obtain ⟨q,h1,rfl,rfl⟩:=mn h;exact⟨q,h1,rfl⟩
theorem pf{g:Nat->Bool}{fuel:Nat}{cs:List Value}{x:DataW H×List MemPlace}(hl:cs.length=4)(h:DataW.trod enc Tryz.prog W 0 g true fuel 360 cs=some x):
    ∃w:QT,OkT w/\cs=(Value.cells (E9 w)).toList:=by
  obtain ⟨l,m,o,n,_,_,d,e,c⟩:=Deep.trod_struct3 Tryz.underlying360 h
  match cs,hl with
  | [v0,v1,v2,v3],_ =>
    simp only[na,mZ,List.drop,List.take] at d e c;obtain ⟨i,a,_,w0⟩:=ui Tryz.underlying3 d;obtain ⟨j,b,_,f⟩:=ui Tryz.underlying3 e;obtain ⟨q,k,rfl,rfl⟩:=mn c;simp only[s7,and_true] at a b;subst a b;exact⟨⟨i,j,q⟩,⟨bounds_i64 w0,bounds_i64 f,k⟩,rfl⟩
instance:Inhabited QT:=⟨qt0⟩
theorem Ri{α:Type}[Inhabited α]{K:Nat}(u:0<K)(y:α->Prop)(t:α->Value)(hs:∀q,(t q).cells.size=K){A E:TypeId}(hT:Tryz.prog.underlying A=some (.slice E))(C:Tryz.prog.cellsOf E=K)(rd:∀ {v:Nat->Bool} {fuel:Nat} {cs:List Value} {x:DataW H×List MemPlace},cs.length=K->DataW.trod enc Tryz.prog W 0 v true fuel E cs=some x -> ∃w:α,y w/\cs=(Value.cells (t w)).toList){v:Nat->Bool}{fuel:Nat}{c:Value}{x:DataW H×List MemPlace}(hf:DataW.trod enc Tryz.prog W 0 v true fuel A [c]=some x):
    ∃(a0:Option Addr) (cap:Nat) (l:List α),c=.slice a0 l.length cap/\l.length<=cap/\l.length<=9223372036854775807/\(∀q∈l,y q)/\(Row a0 (cellsOf t l)).p (λ_=>False) W:=by
  rcases Deep.open_slice hT hf with ⟨o,hx⟩|⟨a,len,cap,m,n,D,Pl,o,_,hl,hm,z,hx,d⟩
  · obtain rfl:c=.slice none 0 0:=by simpa using o
    exact⟨none,0,[],rfl,aZ _,by simp,(by intro q hq;cases hq),λg=>absurd rfl g⟩
  obtain rfl:c=.slice (some a) len cap:=by simpa using o
  have G:len<=m:=by rw[z];split<;>omega
  have F:cap<=9223372036854775807:=by have:=hm;unfold maxLen at this;omega
  rw[C] at d;have each:∀i,i<len -> ∃w:α,y w /\ ∀j,j<K->W.cell? (a.add (i*K+j))=(Value.cells (t w)).toList[j]?:=by
    intro i s;obtain ⟨cs',g1,g2⟩:=d i (by omega);obtain ⟨_,hlen,hc⟩:=World.cells?_some g1;obtain ⟨w,k0,rfl⟩:=rd hlen g2;refine⟨w,k0,λj hj=>?_⟩;have:=hc j hj;rw[Deep.add_add] at this;exact this
  obtain ⟨w,hw⟩:=Deep.choose_lt each;refine⟨some a,cap,(List.range len).map w,by simp,by simpa using hl,by simp;omega,?_,?_⟩
  · intro q hq;obtain ⟨i,s,rfl⟩:=List.mem_map.1 hq;exact(hw i (List.mem_range.1 s)).1
  intro g;have r:0<len:=by
    rcases oX len with h|h
    ·subst h;exact absurd rfl g
    exact h
  obtain ⟨b,off,spot⟩:=a;have k:=(hw 0 r).2 0 u;rw[Array.getElem?_toList,Array.getElem?_eq_getElem (by rw[hs];exact u)] at k;have f:spot=none:=by simpa [Addr.add] using World.cell?_spot k
  subst f;have hblk:∃cs T fr,W.heap[b]?=some (.cells cs T fr):=by
    have e:(W.cell? (Addr.add ⟨b,off,none⟩ (0*K+0))).isSome:=by rw[k];rfl
    unfold World.cell? Addr.add at e;simp only at e;split at e
    ·rename_i c T fr hc;exact⟨c,T,fr,by simpa using hc⟩
    cases e
  obtain ⟨cs,T,fr,hc⟩:=hblk;refine⟨b,off,cs,T,fr,rfl,id,hc,λj hj=>?_⟩;rw[cellsOf_length hs] at hj;simp only[az,pr] at hj;have s:j/K<len:=tJ (by rw[kI] at hj ⊢;first|exact hj|(rw[kI];exact hj));have h1:=(hw (j/K) s).2 (j%K) (gF _ u);have B:=Aq hs ((List.range len).map w) (j/K) (j%K) (by simpa using s) (gF _ u);rw[Nat.div_add_mod'] at h1 B;rw[B];simp only[List.getElem_map,List.getElem_range];rw[<-h1,A8];unfold World.cell?;simp only[hc];rfl
theorem oZ{a:Nat->Bool}{fuel:Nat}{c:Value}{x:DataW H×List MemPlace}(hf:DataW.trod enc Tryz.prog W 0 a true fuel 22 [c]=some x):
    ∃(a0:Option Addr) (cap:Nat) (l:List (Int)),c=.slice a0 l.length cap/\l.length<=cap/\l.length<=9223372036854775807/\(∀q∈l,U8 q)/\(Row a0 (cellsOf BJ l)).p (λ_=>False) W:=Ri (by decide) U8 BJ (λ_=>rfl) Tryz.underlying22 DZ iw hf
theorem pd{a:Nat->Bool}{fuel:Nat}{c:Value}{x:DataW H×List MemPlace}(hf:DataW.trod enc Tryz.prog W 0 a true fuel 28 [c]=some x):
    ∃(a0:Option Addr) (cap:Nat) (l:List (QT)),c=.slice a0 l.length cap/\l.length<=cap/\l.length<=9223372036854775807/\(∀q∈l,OkT q)/\(Row a0 (cellsOf E9 l)).p (λ_=>False) W:=Ri (by decide) OkT E9 (λ_=>rfl) Tryz.underlying28 cellsT pf hf
theorem pe{a:Nat->Bool}{fuel:Nat}{c:Value}{x:DataW H×List MemPlace}(hf:DataW.trod enc Tryz.prog W 0 a true fuel 31 [c]=some x):
    ∃(a0:Option Addr) (cap:Nat) (l:List (Int×Int)),c=.slice a0 l.length cap/\l.length<=cap/\l.length<=9223372036854775807/\(∀q∈l,OkQ q)/\(Row a0 (cellsOf Pu l)).p (λ_=>False) W:=Ri (by decide) OkQ Pu (λ_=>rfl) Tryz.underlying31 mZ pg hf
theorem flU8(l:List Int): cellsOf BJ l=l.map BJ:=by
  induction l with
  | nil=>rfl
  | cons x l a=>rw[eb, <-a];rfl
theorem read_m{i:Nat->Bool}{fuel:Nat}{c0 c1 c2 d g e f c b:Value}{x:DataW H×List MemPlace}(h:DataW.trod enc Tryz.prog W 0 i true fuel 26 [c0,c1,c2,d,g,e,f,c,b]=some x):
    ∃(m:M25) (a:Option Addr) (u:Nat),WI m/\(U8 m.nx/\U8 m.ny)/\U8 m.first/\(Row a (List.map BJ m.cells)).p (λ_=>False) W /\
      [c0,c1,c2,d,g,e,f,c,b]=[.int .u8 m.nx,.int .u8 m.ny,.slice a m.cells.length u,.int .i8 m.m0,.int .i8 m.m1,.int .i8 m.m2,.int .i8 m.m3,.int .u8 m.den,.int .u8 m.first]:=by
  obtain ⟨xs,n,_,_,_,hlen,hf⟩:=wa Tryz.underlying26 h
  match xs,hlen with
  | [E,y,G,z,D,B],_ =>
    have o:DataW.trod enc Tryz.prog W 0 i true n 5 (([c0,c1,c2,d,g,e,f,c,b].drop 0).take (Tryz.prog.cellsOf 5))=some E:=hf 0 _ rfl;rw[DZ] at o;have s:DataW.trod enc Tryz.prog W 0 i true n 5 (([c0,c1,c2,d,g,e,f,c,b].drop 1).take (Tryz.prog.cellsOf 5))=some y:=hf 1 _ rfl;rw[DZ] at s;have k:DataW.trod enc Tryz.prog W 0 i true n 22 (([c0,c1,c2,d,g,e,f,c,b].drop 2).take (Tryz.prog.cellsOf 22))=some G:=hf 2 _ rfl;rw[ri] at k;have t:DataW.trod enc Tryz.prog W 0 i true n 24 (([c0,c1,c2,d,g,e,f,c,b].drop 3).take (Tryz.prog.cellsOf 24))=some z:=hf 3 _ rfl;rw[cells4] at t;have q:DataW.trod enc Tryz.prog W 0 i true n 5 (([c0,c1,c2,d,g,e,f,c,b].drop 7).take (Tryz.prog.cellsOf 5))=some D:=hf 4 _ rfl;rw[DZ] at q;have r:DataW.trod enc Tryz.prog W 0 i true n 5 (([c0,c1,c2,d,g,e,f,c,b].drop 8).take (Tryz.prog.cellsOf 5))=some B:=hf 5 _ rfl;rw[DZ] at r;simp only[List.drop,List.take] at o s k t q r;obtain ⟨nx,a0,rfl⟩:=Dx o;obtain ⟨ny,F,rfl⟩:=Dx s;obtain ⟨a,u,l,rfl,_,hl,j,hr⟩:=oZ k;obtain ⟨m0,m1,m2,m3,A,v,C,w,rfl,rfl,rfl,rfl⟩:=pj t;obtain ⟨den,a2,rfl⟩:=Dx q;obtain ⟨first,a3,rfl⟩:=Dx r;rw[flU8] at hr;exact⟨⟨nx,ny,l,m0,m1,m2,m3,den,first⟩,a,u,⟨A,v,C,w,a2,j,hl⟩,⟨a0,F⟩,a3,hr,rfl⟩
theorem pi{y:Nat->Bool}{fuel:Nat}{c0 c1 c2 r w s v q k o f d a g b e:Value}{x:DataW H×List MemPlace}(h:DataW.trod enc Tryz.prog W 0 y true fuel 30 [c0,c1,c2,r,w,s,v,q,k,o,f,d,a,g,b,e]=some x):
    ∃(x:Pn) (j i:Option Addr) (J z:Nat),UN x/\WI x.M/\(U8 x.M.nx/\U8 x.M.ny)/\U8 x.M.first/\(∀t∈x.u,OkT t)/\x.u.length<=z/\(Row j (List.map BJ x.M.cells)).p (λ_=>False) W/\(Row i (cellsOf E9 x.u)).p (λ_=>False) W /\
      [c0,c1,c2,r,w,s,v,q,k,o,f,d,a,g,b,e]=[.int .u8 x.M.nx,.int .u8 x.M.ny,.slice j x.M.cells.length J,.int .i8 x.M.m0,.int .i8 x.M.m1,.int .i8 x.M.m2,.int .i8 x.M.m3,.int .u8 x.M.den,.int .u8 x.M.first,.bool x.two,.int .i8 x.k0,.int .i8 x.k1,.int .i8 x.k2,.int .u8 x.c,.slice i x.u.length z,.int .u8 x.fixed]:=by
  obtain ⟨xs,n,_,_,_,hlen,hf⟩:=wa Tryz.underlying30 h
  match xs,hlen with
  | [X,P,Y,Q,V,S],_ =>
    have B:DataW.trod enc Tryz.prog W 0 y true n 26 (([c0,c1,c2,r,w,s,v,q,k,o,f,d,a,g,b,e].drop 0).take (Tryz.prog.cellsOf 26))=some X:=hf 0 _ rfl;rw[cellsM] at B;have F:DataW.trod enc Tryz.prog W 0 y true n 4 (([c0,c1,c2,r,w,s,v,q,k,o,f,d,a,g,b,e].drop 9).take (Tryz.prog.cellsOf 4))=some P:=hf 1 _ rfl;rw[cellsB] at F;have A:DataW.trod enc Tryz.prog W 0 y true n 27 (([c0,c1,c2,r,w,s,v,q,k,o,f,d,a,g,b,e].drop 10).take (Tryz.prog.cellsOf 27))=some Y:=hf 2 _ rfl;rw[cells3] at A;have G:DataW.trod enc Tryz.prog W 0 y true n 5 (([c0,c1,c2,r,w,s,v,q,k,o,f,d,a,g,b,e].drop 13).take (Tryz.prog.cellsOf 5))=some Q:=hf 3 _ rfl;rw[DZ] at G;have D:DataW.trod enc Tryz.prog W 0 y true n 28 (([c0,c1,c2,r,w,s,v,q,k,o,f,d,a,g,b,e].drop 14).take (Tryz.prog.cellsOf 28))=some V:=hf 4 _ rfl;rw[rj] at D;have E:DataW.trod enc Tryz.prog W 0 y true n 5 (([c0,c1,c2,r,w,s,v,q,k,o,f,d,a,g,b,e].drop 15).take (Tryz.prog.cellsOf 5))=some S:=hf 5 _ rfl;rw[DZ] at E;simp only[List.drop,List.take] at B F A G D E;obtain ⟨m,j,J,hm,h1,O,U,K⟩:=read_m B;obtain ⟨two,L,_⟩:=DataW.trod_bool Tryz.underlying4 F;obtain ⟨k0,k1,k2,R,N,T,rfl,rfl,rfl⟩:=pm A;obtain ⟨c,a2,rfl⟩:=Dx G;obtain ⟨i,z,l,rfl,C,_,I,hr⟩:=pd D;obtain ⟨fixed,a3,rfl⟩:=Dx E;simp only[s7,and_true] at K L;obtain ⟨rfl,rfl,rfl,rfl,rfl,rfl,rfl,rfl,rfl⟩:=K;subst L;exact⟨⟨m,two,k0,k1,k2,c,l,fixed⟩,j,i,J,z,⟨R,N,T,a2,a3⟩,hm,h1,O,I,C,U,hr,rfl⟩
theorem Y8{C:Nat->Bool}{fuel:Nat}{c0 c1 c2 y B z A w o r g e a i d f j b:Value}{x:DataW H×List MemPlace}(h:DataW.trod enc Tryz.prog W 0 C true fuel 33 [c0,c1,c2,y,B,z,A,w,o,r,g,e,a,i,d,f,j,b]=some x):
    ∃(x:Pn) (m l k:Option Addr) (K D E dg:Nat) (v:List (Int×Int)),UN x/\WI x.M/\(U8 x.M.nx/\U8 x.M.ny)/\U8 x.M.first/\(∀t∈x.u,OkT t)/\x.u.length<=D/\(∀q∈v,OkQ q)/\v.length<=9223372036854775807 /\
      (Row m (List.map BJ x.M.cells)).p (λ_=>False) W/\(Row l (cellsOf E9 x.u)).p (λ_=>False) W/\(Row k (cellsOf Pu v)).p (λ_=>False) W /\
      [c0,c1,c2,y,B,z,A,w,o,r,g,e,a,i,d,f,j,b]=[.int .u8 x.M.nx,.int .u8 x.M.ny,.slice m x.M.cells.length K,.int .i8 x.M.m0,.int .i8 x.M.m1,.int .i8 x.M.m2,.int .i8 x.M.m3,.int .u8 x.M.den,.int .u8 x.M.first,.bool x.two,.int .i8 x.k0,.int .i8 x.k1,.int .i8 x.k2,.int .u8 x.c,.slice l x.u.length D,.int .u8 x.fixed,.int .u8 ((dg:Nat):Int),.slice k v.length E]:=by
  obtain ⟨xs,n,_,_,_,hlen,hf⟩:=wa Tryz.underlying33 h
  match xs,hlen with
  | [U,O,Y],_ =>
    have G:DataW.trod enc Tryz.prog W 0 C true n 30 (([c0,c1,c2,y,B,z,A,w,o,r,g,e,a,i,d,f,j,b].drop 0).take (Tryz.prog.cellsOf 30))=some U:=hf 0 _ rfl;rw[rl] at G;have I:DataW.trod enc Tryz.prog W 0 C true n 5 (([c0,c1,c2,y,B,z,A,w,o,r,g,e,a,i,d,f,j,b].drop 16).take (Tryz.prog.cellsOf 5))=some O:=hf 1 _ rfl;rw[DZ] at I;have F:DataW.trod enc Tryz.prog W 0 C true n 31 (([c0,c1,c2,y,B,z,A,w,o,r,g,e,a,i,d,f,j,b].drop 17).take (Tryz.prog.cellsOf 31))=some Y:=hf 2 _ rfl;rw[rk] at F;simp only[List.drop,List.take] at G I F;obtain ⟨x,m,l,K,D,h1,N,T,P,R,V,Q,S,L⟩:=pi G;obtain ⟨s,⟨X,_⟩,rfl⟩:=Dx I;obtain ⟨k,E,v,rfl,_,J,hv,hr⟩:=pe F;obtain ⟨dg,rfl⟩:∃n:Nat,s=((n:Nat):Int):=⟨s.toNat,(tA X).symm⟩
    simp only[s7,and_true] at L;obtain ⟨rfl,rfl,rfl,rfl,rfl,rfl,rfl,rfl,rfl,rfl,rfl,rfl,rfl,rfl,rfl,rfl⟩:=L;exact⟨x,m,l,k,K,D,E,dg,v,h1,N,T,P,R,V,hv,J,Q,S,hr,rfl⟩
end
theorem pair_cells{H:Type}{enc:TypeId×Value->H}{W:World}{base:Nat}{i:Nat->Bool}{held:Bool}{fuel:Nat}{c0 c1:Value}{a b:Int}{x:DataW H×List MemPlace}(h:DataW.trod enc Tryz.prog W base i held fuel 130 [c0,c1]=some x)(hx:x.1=.agg [.lit (.int .i64 a),.lit (.int .i64 b)]): c0=.int .i64 a/\c1=.int .i64 b:=by
  obtain ⟨xs,m,_,rfl,_,j,g⟩:=DataW.trod_array Tryz.underlying130 h
  match xs,j with
  | [k,l],_ =>
    have f:=g 0 (by decide);have d:=g 1 (by decide);simp only[na,tH,tt,List.drop,List.take,List.getElem?_cons_zero,List.getElem?_cons_succ] at f d;obtain ⟨s,c,rfl,_⟩:=ui Tryz.underlying3 f;obtain ⟨r,e,rfl,_⟩:=ui Tryz.underlying3 d;simp only[s7,and_true] at c e;simp only[eb,la,DataW.agg.injEq,s7,and_true,DataW.lit.injEq,Lit.int.injEq,true_and] at hx;obtain ⟨rfl,rfl⟩:=hx;exact⟨c,e⟩
theorem VL{H:Type}{enc:TypeId×Value->H}{W:World}{base:Nat}{f:Nat->Bool}{held:Bool}{fuel:Nat}{cs:List Value}{p:List MemPlace}(hl:cs.length=6)(h:DataW.trod enc Tryz.prog W base f held fuel 317 cs=some (.agg [.agg [.lit (.int .i64 1),.lit (.int .i64 2)],.agg [.lit (.int .i64 2),.lit (.int .i64 0)],.agg [.lit (.int .i64 0),.lit (.int .i64 1)]],p)):
    cs=[.int .i64 1,.int .i64 2,.int .i64 2,.int .i64 0,.int .i64 0,.int .i64 1]:=by
  obtain ⟨xs,m,_,hx,_,j,a⟩:=DataW.trod_array Tryz.underlying317 h
  match xs,j with
  | [k,q,l],_ =>
  match cs,hl with
  | [c0,c1,c2,n,r,o],_ =>
    have e:=a 0 (by decide);have b:=a 1 (by decide);have d:=a 2 (by decide);simp only[cells2,tH,tt,Nat.reduceMul,List.drop,List.take,List.getElem?_cons_zero,List.getElem?_cons_succ] at e b d;have c:=congrArg Prod.fst hx;simp only[eb,la,DataW.agg.injEq,s7,and_true] at c;obtain ⟨i,h1,g⟩:=c;obtain ⟨rfl,rfl⟩:=pair_cells e i.symm;obtain ⟨rfl,rfl⟩:=pair_cells b h1.symm;obtain ⟨rfl,rfl⟩:=pair_cells d g.symm;rfl
theorem sidesF(W:World)(hL:laidMetH Tryz.prog Rows.adaptsStepRow.laid W): SideF.p (λ_=>False) W:=by
  have hl:laidMet Tryz.prog Rows.adaptsStepRow.laid W:=hL;obtain ⟨ps,⟨g',t',cs,fuel,p,q,hg',ht',hvar,hd,_,_⟩,_⟩:=hl;have hg : Tryz.prog.globalNamed "gusset/shapes.sides" = some g' := hg';obtain rfl:g'=0:=tB (hg.symm.trans (by kernel_rfl));obtain rfl:=tB (ht'.symm.trans (show(Tryz.prog.globals[0]?).map (·.type)=some 317 by kernel_rfl));obtain ⟨_,_,_,_,hlen,_,_⟩:=DataW.trod_array Tryz.underlying317 hd;have e:=VL (by rw[hlen];kernel_rfl) hd;intro hne;have h2 : W.var? Tryz.prog "gusset/shapes.sides" = some cs := hvar;unfold World.var? at h2;simp only[hg,vh] at h2;split at h2
  · rename_i c T fr hc;obtain rfl:=tB h2;refine⟨0,0,c,T,fr,rfl,id,hc,λj hj=>?_⟩;rw[<-e,ca];simp
  cases h2
def witC:Value:=.agg #[.int .u8 0,.int .u8 0,.slice none 0 0,.int .i8 0,.int .i8 0,.int .i8 0,.int .i8 0,.int .u8 0,.int .u8 0,.bool false,.int .i8 0,.int .i8 0,.int .i8 0,.int .u8 0,.slice none 0 0,.int .u8 0,.int .u8 0,.slice none 0 0]
theorem contract(H:Type)(enc:TypeId×Value->H)(W:World)(base:Nat)(args:Array Value)(ds gs:List (DataW H))(before:List MemPlace)(a:∀(j:Nat) t v,Tryz.f3.params[j]?=some t->args[j]?=some v->Value.okWide Tryz.prog W .any base t v)(K:DataW.Whole enc Tryz.prog Tryz.f3.params.toList Rows.adaptsStepSpec.vars false W args.toList ds gs before)(hL:laidMetH Tryz.prog Rows.adaptsStepRow.laid W):
    Calls Tryz.prog 3 args W λe U => ∃v,e=.returned v/\Rows.adaptsStepSpec.post enc Tryz.prog Tryz.f3 false true false false W args v U:=by
  have i:=K;obtain ⟨p,q,o,hV,rfl,b0,b7⟩:=K;have N:DataW.TrodAll enc Tryz.prog W 0 (λ_=>true) true Tryz.f3.params.toList args.toList ds p:=o;rw[Tryz.params3] at N a;obtain ⟨v0,vs0,d0,a6,P,b2,C,rfl,rfl,I,r0⟩:=trodAll_cons N;obtain ⟨v1,a1,d1,b4,p1,a8,rfl,rfl,rfl,h1,r1⟩:=trodAll_cons r0;obtain ⟨rfl,rfl,rfl⟩:=trodAll_nil r1;obtain rfl:args=#[v0,v1]:=by cases args;simp_all
  obtain ⟨rfl,rfl⟩:=trodVars_none hV;obtain ⟨r,rfl,b⟩:=okWide_struct Tryz.underlying33 (a 0 33 v0 rfl rfl);obtain ⟨T,rfl,rfl,rfl,s⟩:=open_int Tryz.underlying5 (a 1 5 v1 rfl rfl) h1;clear o;simp only[gD,ec] at i;have w:∀x∈P,x.block<W.heap.size:=λx hx=>by simpa using i.lt x (by simp[hx])
  have walk:Calls Tryz.prog 3 #[.agg r,.int .u8 T] W λe w'=>e=.returned (.bool true)/\Below W.heap.size W w':=by
    rw[cellsC] at b;obtain ⟨b8,B⟩:=I;obtain ⟨z⟩:=r
    match z,b with
    | [c0,c1,c2,c3,c4,c5,c6,c7,c8,c9,b5,b1,V,b6,a7,b3,b9,Y],_ =>
    obtain ⟨x,m,g,d,Q,O,L,dg,v,g1,g2,⟨g3,F⟩,g4,g5,g6,g7,g8,f1,f2,f3,e⟩:=Y8 B;simp only[s7,and_true] at e;obtain ⟨rfl,rfl,rfl,rfl,rfl,rfl,rfl,rfl,rfl,rfl,rfl,rfl,rfl,rfl,rfl,rfl,rfl,rfl⟩:=e;obtain ⟨y0,y1⟩:=bounds_u8 s;obtain ⟨k,rfl⟩:∃k:Nat,T=((k:Nat):Int):=⟨_,(tA y0).symm⟩
    obtain ⟨n,hn⟩:∃n:Nat,x.fixed=((n:Nat):Int):=⟨_,(tA g1.fixed.1).symm⟩
    have y:n<=255:=by have:=g1.fixed.2;omega
    obtain ⟨nx,E⟩:∃n:Nat,x.M.nx=((n:Nat):Int):=⟨_,(tA g3.1).symm⟩
    obtain ⟨ny,A⟩:∃n:Nat,x.M.ny=((n:Nat):Int):=⟨_,(tA F.1).symm⟩
    obtain ⟨D,pl,ts,S,l,G,Z⟩:=qe (pn2 x).M ⟨g2.1,g2.2,g2.3,g2.4,g2.5,g2.6,g2.7⟩ (nx:=nx%2) (ny:=ny%2) (by show Int.tmod x.M.nx 2=_;rw[E];rfl) (by show Int.tmod x.M.ny 2=_;rw[A];rfl) (by omega) (by omega) g4 g2.den;have hx:UN (pn2 x):=⟨g1.k0,g1.k1,g1.k2,g1.c,g1.fixed⟩
    have X:Xi Tryz.prog 3 [.agg #[.int .u8 x.M.nx,.int .u8 x.M.ny,.slice m x.M.cells.length Q,.int .i8 x.M.m0,.int .i8 x.M.m1,.int .i8 x.M.m2,.int .i8 x.M.m3,.int .u8 x.M.den,.int .u8 x.M.first,.bool x.two,.int .i8 x.k0,.int .i8 x.k1,.int .i8 x.k2,.int .u8 x.c,.slice g x.u.length O,.int .u8 x.fixed,.int .u8 ((dg:Nat):Int),.slice d v.length L],.int .u8 ((k:Nat):Int)] [Row m (List.map BJ x.M.cells),Row g (cellsOf E9 x.u),Row d (cellsOf Pu v),SideF] (.bool true) :=
      QG x m g Q O dg v d L n k G hx Z g5 g6 hn y g7 g8 (by omega)
    have hc:=X (λ_=>False) W (λ_ h=>h.elim) (λR hR=>by
      simp only[cZ,cf,or_false] at hR;rcases hR with rfl|rfl|rfl|rfl
      ·exact f1
      ·exact f2
      ·exact f3
      exact sidesF W hL)
    exact Calls.mono hc (λe w' ⟨v,Ψ,h1,⟨h2,_⟩,h3,_⟩=>⟨by rw[h1,h2],h3⟩)
  refine walk.mono λe U ⟨he,J⟩=>?_;subst he;refine⟨_,rfl,_,_,_,[],(P++([]++[])),[],i,?_,?_,?_,?_,λh=>by cases h⟩
  ·exact trodAll_cons_mk (shut_bool Tryz.underlying4 _) trodAll_mk0
  ·exact trodAll_cons_mk (Below.trod laidOut (by kernel_rfl) (of_decide_eq_true (by kernel_rfl)) I J w) (trodAll_cons_mk (shut_int Tryz.underlying5 s) trodAll_mk0)
  ·exact rfl
  exact World.keptBut_mono (λ_ f=>f.elim) (J.frame (λ_=>False))
noncomputable def laidWorld (os:Os):World :=
  { World.holding Tryz.prog os ⟨#[],#[],[]⟩ with heap:=((World.holding Tryz.prog os ⟨#[],#[],[]⟩).heap.modify 0 fun
      | .cells _ t frozen =>.cells #[.int .i64 1,.int .i64 2,.int .i64 2,.int .i64 0,.int .i64 0,.int .i64 1] t frozen
      | o=>o) }
theorem laid_met(os:Os): laidMet Tryz.prog Rows.adaptsStepRow.laid ((laidWorld os).forCall (λ_ _=>0) ⟨#[],#[witC,.int .u8 0],[]⟩).memory :=
  laidMet_of_run' 128 (by kernel_rfl) (by kernel_rfl)
theorem reads(os:Os){H:Type}(enc:TypeId×Value->H): ∃a,DataW.whole enc Tryz.prog ((laidWorld os).forCall (λ_ _=>0) ⟨#[],#[witC,.int .u8 0],[]⟩).memory Tryz.f3.params.toList Rows.adaptsStepSpec.vars false #[witC,.int .u8 0].toList 8=some ([.agg [.agg [.agg [.lit (.int .u8 0),.lit (.int .u8 0),.nil,.agg [.lit (.int .i8 0),.lit (.int .i8 0),.lit (.int .i8 0),.lit (.int .i8 0)],.lit (.int .u8 0),.lit (.int .u8 0)],.lit (.bool false),.agg [.lit (.int .i8 0),.lit (.int .i8 0),.lit (.int .i8 0)],.lit (.int .u8 0),.nil,.lit (.int .u8 0)],.lit (.int .u8 0),.nil],.lit (.int .u8 0)],[],a) :=
  ⟨[],by kernel_rfl⟩
set_option maxRecDepth 100000 in
theorem lifted(os:Os)(started:os.Started)(H:Type)(enc:TypeId×Value->H)(F:Stop.Interp):
    ReturnsInHanded {} Tryz.checked os 3 .any ((OpenSpec.ofChange Rows.adaptsStepSpec).preRow enc Tryz.prog Tryz.f3 Rows.adaptsStepRow.domain false Rows.adaptsStepRow.laid) (((OpenSpec.ofChange Rows.adaptsStepSpec).at F).post enc Tryz.prog Tryz.f3 false true false false):=by
  obtain ⟨b,hx⟩:=reads os enc;refine returnsInHanded_of_row (C:=Tryz.checked) (s:=OpenSpec.ofChange Rows.adaptsStepSpec) own started (by kernel_rfl) Tryz.func3
    (witness_row_at (enc:=enc) (C:=Tryz.checked) false (laidWorld os) #[witC,.int .u8 0] rfl (by kernel_rfl) (by kernel_rfl) (by kernel_rfl)
      (OpenSpec.preRow_of_cond 8 hx (by kernel_rfl) (λk hk=>by cases hk) (by kernel_rfl) (laid_met os))) ?_
  intro W base args ds gs before a c _ _ _ d _ _;exact contract H enc W base args ds gs before a c d
theorem said:Rows.AdaptsStepSaid :=
  OpenClaim.holds_of_cond 3 Tryz.f3 rfl rfl rfl rfl rfl rfl rfl ⟨rfl,rfl,rfl,rfl,rfl⟩ rfl rfl rfl rfl rfl (by kernel_rfl) Tryz.func3 joined
    (of_decide_eq_true (by kernel_rfl)) (by unfold Func.isWrapper;first|(rw[if_pos (by decide +kernel)];kernel_rfl)|(rw[if_neg (by decide +kernel)];exact⟨rfl,rfl⟩))
    (λos started H enc _ F=>by rw[OpenClaim.pre_eq_preRow];exact lifted os started H enc F)
theorem plain(f: FuncId)(fn: Func)(hf: Tryz.pinned.checked.prog.funcNamed "gusset/gussetlaw44.AdaptsStep" = some f)(hfn: Tryz.pinned.checked.prog.funcs[f]? = some fn):
    false=Tryz.pinned.checked.prog.looks [] /\ ∀(j:Nat) t,fn.params[j]?=some t->Tryz.pinned.checked.prog.wantsStandIn t=false:=by
  obtain rfl : f = 3 := tB ((show Tryz.prog.funcNamed "gusset/gussetlaw44.AdaptsStep" = some 3 by kernel_rfl).symm.trans hf) |>.symm;obtain rfl:fn=Tryz.f3:=(tB (Tryz.func3.symm.trans hfn)).symm;refine⟨by kernel_rfl,λj t ht=>?_⟩;rw[Tryz.params3] at ht;have ht2:=vu ht;have s5:Tryz.pinned.checked.prog.wantsStandIn 5=false:=by kernel_rfl
  have s33:Tryz.pinned.checked.prog.wantsStandIn 33=false:=by kernel_rfl
  simp only[List.mem_toArray,cZ,cf,or_false] at ht2;rcases ht2 with rfl|rfl<;>assumption
theorem card:Rows.AdaptsStepCardSaid :=
  Claim7.holds_tied_plain_at .later [] _ _ _ _ said (λ_ h=>by cases h) (by kernel_rfl) (λ_ h=>by cases h) adaptsStep_row_tie rfl ⟨rfl,rfl⟩ (by kernel_rfl) rfl plain (by kernel_rfl)
#print axioms card
end Go.Proofs.YtdadideknhmbbaaGreatDoor.fnAdaptsStep
