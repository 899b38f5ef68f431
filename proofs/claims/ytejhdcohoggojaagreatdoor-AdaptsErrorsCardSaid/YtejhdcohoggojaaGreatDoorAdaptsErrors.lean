/- Whatever the input, 'gussetlaw44.AdaptsErrors' returns true and leaves its arguments as they were.
   Conditions: those of the given row, and no others. By an AI agent. -/
import Derived.Test.YtejhdcohoggojaaGreatDoorCards
import Derived.Test.YtejhdcohoggojaaGreatDoorTie
import Derived.Test.YtejhdcohoggojaaGreatDoorClL
import Derived.WalkKit
import Derived.ProofKit
import Derived.OpenShut
import Derived.Deep.DeepHandedRow
import Derived.Lib.LaidTab
import Derived.Deep.Strs
import Derived.Carry
import Derived.Test.YtejhdcohoggojaaGreatDoorMok0
set_option linter.unusedVariables false
set_option linter.unusedSimpArgs false
set_option maxRecDepth 100000
namespace Go.Proofs.YtejhdcohoggojaaGreatDoor.fnAdaptsErrors
open Go Go.Fx Go.ChangeShapes Go.WideShapes Go.ChangeAt Go.RowKit
theorem RI:laidOutB Tryz.prog=true:=laidOut
theorem ZU:Tryz.prog.cellsOf 36=2:=by kernel_rfl
theorem cellsI:Tryz.prog.cellsOf 2=1:=by kernel_rfl
theorem cellsU:Tryz.prog.cellsOf 34=1:=by kernel_rfl
theorem ja:Tryz.prog.cellsOf 3=1:=by kernel_rfl
theorem ZV:Tryz.prog.cellsOf 23=1:=by kernel_rfl
theorem Dl:Tryz.prog.cellsOf 5=1:=by kernel_rfl
theorem cellsB:Tryz.prog.cellsOf 4=1:=by kernel_rfl
theorem cellsT:Tryz.prog.cellsOf 384=4:=by kernel_rfl
theorem cells2:Tryz.prog.cellsOf 125=2:=by kernel_rfl
theorem cells4:Tryz.prog.cellsOf 24=4:=by kernel_rfl
theorem cells3:Tryz.prog.cellsOf 27=3:=by kernel_rfl
theorem mA:Tryz.prog.cellsOf 22=1:=by kernel_rfl
theorem mC:Tryz.prog.cellsOf 28=1:=by kernel_rfl
theorem mD:Tryz.prog.cellsOf 31=1:=by kernel_rfl
theorem cellsM:Tryz.prog.cellsOf 26=9:=by kernel_rfl
theorem mE:Tryz.prog.cellsOf 30=16:=by kernel_rfl
theorem cellsC:Tryz.prog.cellsOf 33=18:=by kernel_rfl
section
variable{H:Type}{enc:TypeId×Value→H}{W:World}
theorem iH{P:Program}{w:World}{r:Reach}{base n:Nat}{t e:TypeId}{v:Value}(ht:P.underlying t=some (.array n e))(h:Value.okWide P w r base t v): ∃cs,v=.agg cs∧cs.size=P.cellsOf t:=by
  simp only[Value.okWide,ht] at h
  obtain ⟨cs,h1,a,_⟩:=h
  exact⟨cs,h1,a⟩
theorem Wp{i:Nat→Bool}{fuel:Nat}{v0 v1:Value}{x:DataW H×List MemPlace}(h:DataW.trod enc Tryz.prog W 0 i true fuel 36 [v0,v1]=some x): ∃q:Int×Int,OkQ q∧v0=.int .i64 q.1∧v1=.int .u32 q.2:=by
  obtain ⟨k,j,n,_,_,e,c⟩:=trod_struct2 Tryz.underlying36 h
  simp only[cellsI,cellsU,List.drop,List.take] at e c
  obtain ⟨s,f,_,w0⟩:=DataW.trod_int Tryz.underlying2 e
  obtain ⟨q,b,_,g⟩:=DataW.trod_int Tryz.underlying34 c
  simp only[List.cons.injEq,and_true] at f b
  have d:=bounds_i64 w0
  have a:=bounds_u32 g
  exact⟨(s,q),⟨d.1,d.2,a.1,a.2⟩,f,b⟩
theorem C0{b:Nat→Bool}{fuel:Nat}{c:Value}{x:DataW H×List MemPlace}(h:DataW.trod enc Tryz.prog W 0 b true fuel 5 [c]=some x): ∃s:Int,U8 s∧c=.int .u8 s:=by
  obtain ⟨s,a,_,w0⟩:=DataW.trod_int Tryz.underlying5 h
  simp only[List.cons.injEq,and_true] at a
  exact⟨s,bounds_u8 w0,a⟩
theorem Ek{b:Nat→Bool}{fuel:Nat}{c:Value}{x:DataW H×List MemPlace}(h:DataW.trod enc Tryz.prog W 0 b true fuel 23 [c]=some x): ∃s:Int,I8 s∧c=.int .i8 s:=by
  obtain ⟨s,a,_,w0⟩:=DataW.trod_int Tryz.underlying23 h
  simp only[List.cons.injEq,and_true] at a
  exact⟨s,bounds_i8 w0,a⟩
theorem kq{l:Nat→Bool}{fuel:Nat}{c0 c1 c2 e:Value}{x:DataW H×List MemPlace}(h:DataW.trod enc Tryz.prog W 0 l true fuel 24 [c0,c1,c2,e]=some x): ∃s0 s1 s2 a:Int,I8 s0∧I8 s1∧I8 s2∧I8 a∧c0=.int .i8 s0∧c1=.int .i8 s1∧c2=.int .i8 s2∧e=.int .i8 a:=by
  obtain ⟨xs,m,_,_,_,q,b⟩:=DataW.trod_array Tryz.underlying24 h
  match xs,q with
  | [u,s,t,v],_ =>
    have g:=b 0 (by decide)
    have d:=b 1 (by decide)
    have f:=b 2 (by decide)
    have c:=b 3 (by decide)
    simp only[ZV,Nat.zero_mul,Nat.one_mul,Nat.reduceMul,List.drop,List.take,List.getElem?_cons_zero,List.getElem?_cons_succ] at g d f c
    obtain ⟨s0,w0,k⟩:=Ek g
    obtain ⟨s1,r,n⟩:=Ek d
    obtain ⟨s2,j,p⟩:=Ek f
    obtain ⟨a,o,i⟩:=Ek c
    exact⟨s0,s1,s2,a,w0,r,j,o,k,n,p,i⟩
theorem kr{f:Nat→Bool}{fuel:Nat}{c0 c1 c2:Value}{x:DataW H×List MemPlace}(h:DataW.trod enc Tryz.prog W 0 f true fuel 27 [c0,c1,c2]=some x): ∃s0 s1 s2:Int,I8 s0∧I8 s1∧I8 s2∧c0=.int .i8 s0∧c1=.int .i8 s1∧c2=.int .i8 s2:=by
  obtain ⟨xs,m,_,_,_,l,a⟩:=DataW.trod_array Tryz.underlying27 h
  match xs,l with
  | [o,p,n],_ =>
    have d:=a 0 (by decide)
    have c:=a 1 (by decide)
    have b:=a 2 (by decide)
    simp only[ZV,Nat.zero_mul,Nat.one_mul,Nat.reduceMul,List.drop,List.take,List.getElem?_cons_zero,List.getElem?_cons_succ] at d c b
    obtain ⟨s0,w0,k⟩:=Ek d
    obtain ⟨s1,e,g⟩:=Ek c
    obtain ⟨s2,i,j⟩:=Ek b
    exact⟨s0,s1,s2,w0,e,i,k,g,j⟩
theorem dJ{a:Nat→Bool}{fuel:Nat}{cs:List Value}{x:DataW H×List MemPlace}(hl:cs.length=1)(h:DataW.trod enc Tryz.prog W 0 a true fuel 5 cs=some x): ∃w:Int,U8 w∧cs=(Value.cells (Bb w)).toList:=by
  match cs,hl with
  | [c],_ =>
    obtain ⟨s,h1,rfl⟩:=C0 h
    exact⟨s,h1,rfl⟩
theorem ko{a:Nat→Bool}{fuel:Nat}{cs:List Value}{x:DataW H×List MemPlace}(hl:cs.length=2)(h:DataW.trod enc Tryz.prog W 0 a true fuel 36 cs=some x): ∃w:Int×Int,OkQ w∧cs=(Value.cells (Mg w)).toList:=by
  match cs,hl with
  | [v0,v1],_ =>
    obtain ⟨q,h1,rfl,rfl⟩:=Wp h
    exact⟨q,h1,rfl⟩
theorem kn{g:Nat→Bool}{fuel:Nat}{cs:List Value}{x:DataW H×List MemPlace}(hl:cs.length=4)(h:DataW.trod enc Tryz.prog W 0 g true fuel 384 cs=some x):
    ∃w:QT,OkT w∧cs=(Value.cells (D2 w)).toList:=by
  obtain ⟨m,l,o,n,_,_,d,c,b⟩:=Deep.trod_struct3 Tryz.underlying384 h
  match cs,hl with
  | [v0,v1,v2,v3],_ =>
    simp only[ja,ZU,List.drop,List.take] at d c b
    obtain ⟨i,e,_,w0⟩:=DataW.trod_int Tryz.underlying3 d
    obtain ⟨j,a,_,f⟩:=DataW.trod_int Tryz.underlying3 c
    obtain ⟨q,k,rfl,rfl⟩:=Wp b
    simp only[List.cons.injEq,and_true] at e a
    subst e a
    exact⟨⟨i,j,q⟩,⟨bounds_i64 w0,bounds_i64 f,k⟩,rfl⟩
instance:Inhabited QT:=⟨qt0⟩
theorem O9{α:Type}[Inhabited α]{K:Nat}(t:0<K)(z:α→Prop)(u:α→Value)(hs:∀q,(u q).cells.size=K){B E:TypeId}(hT:Tryz.prog.underlying B=some (.slice E))(G:Tryz.prog.cellsOf E=K)(rd:∀ {y:Nat→Bool} {fuel:Nat} {cs:List Value} {x:DataW H×List MemPlace},cs.length=K→DataW.trod enc Tryz.prog W 0 y true fuel E cs=some x → ∃w:α,z w∧cs=(Value.cells (u w)).toList){y:Nat→Bool}{fuel:Nat}{c:Value}{x:DataW H×List MemPlace}(hf:DataW.trod enc Tryz.prog W 0 y true fuel B [c]=some x):
    ∃(a0:Option Addr) (cap:Nat) (l:List α),c=.slice a0 l.length cap∧l.length≤cap∧l.length≤9223372036854775807∧(∀q∈l,z q)∧(Row a0 (cellsOf u l)).p (fun _=>False) W:=by
  rcases Deep.open_slice hT hf with ⟨g,hx⟩|⟨a,len,cap,m,n,D,Pl,g,_,hl,hm,v,hx,d⟩
  · obtain rfl:c=.slice none 0 0:=by simpa using g
    exact⟨none,0,[],rfl,Nat.le_refl _,by simp,(by intro q hq;cases hq),fun f=>absurd rfl f⟩
  · obtain rfl:c=.slice (some a) len cap:=by simpa using g
    have F:len≤m:=by rw[v];split<;>omega
    have C:cap≤9223372036854775807:=by have:=hm;unfold maxLen at this;omega
    rw[G] at d
    have each:∀i,i<len → ∃w:α,z w ∧ ∀j,j<K→W.cell? (a.add (i*K+j))=(Value.cells (u w)).toList[j]?:=by
      intro i s
      obtain ⟨cs',g1,g2⟩:=d i (by omega)
      obtain ⟨_,hlen,hc⟩:=World.cells?_some g1
      obtain ⟨w,k0,rfl⟩:=rd hlen g2
      refine⟨w,k0,fun j hj=>?_⟩
      have:=hc j hj
      rw[Deep.add_add] at this
      exact this
    obtain ⟨w,hw⟩:=Deep.choose_lt each
    refine⟨some a,cap,(List.range len).map w,by simp,by simpa using hl,by simp;omega,?_,?_⟩
    · intro q hq
      obtain ⟨i,s,rfl⟩:=List.mem_map.1 hq
      exact(hw i (List.mem_range.1 s)).1
    · intro f
      have r:0<len:=by
        rcases Nat.eq_zero_or_pos len with h|h
        ·subst h;exact absurd rfl f
        ·exact h
      obtain ⟨b,off,spot⟩:=a
      have o:=(hw 0 r).2 0 t
      rw[Array.getElem?_toList,Array.getElem?_eq_getElem (by rw[hs];exact t)] at o
      have k:spot=none:=by simpa [Addr.add] using World.cell?_spot o
      subst k
      have hblk:∃cs T fr,W.heap[b]?=some (.cells cs T fr):=by
        have e:(W.cell? (Addr.add ⟨b,off,none⟩ (0*K+0))).isSome:=by rw[o];rfl
        unfold World.cell? Addr.add at e
        simp only at e
        split at e
        ·rename_i c T fr hc;exact⟨c,T,fr,by simpa using hc⟩
        ·cases e
      obtain ⟨cs,T,fr,hc⟩:=hblk
      refine⟨b,off,cs,T,fr,rfl,id,hc,fun j hj=>?_⟩
      rw[cellsOf_length hs] at hj
      simp only[List.length_map,List.length_range] at hj
      have s:j/K<len:=Nat.div_lt_of_lt_mul (by rw[Nat.mul_comm] at hj ⊢;first|exact hj|(rw[Nat.mul_comm];exact hj))
      have h1:=(hw (j/K) s).2 (j%K) (Nat.mod_lt _ t)
      have A:=Ad hs ((List.range len).map w) (j/K) (j%K) (by simpa using s) (Nat.mod_lt _ t)
      rw[Nat.div_add_mod'] at h1 A
      rw[A]
      simp only[List.getElem_map,List.getElem_range]
      rw[←h1,AS]
      unfold World.cell?
      simp only[hc]
      rfl
theorem kj{a:Nat→Bool}{fuel:Nat}{c:Value}{x:DataW H×List MemPlace}(hf:DataW.trod enc Tryz.prog W 0 a true fuel 22 [c]=some x):
    ∃(a0:Option Addr) (cap:Nat) (l:List (Int)),c=.slice a0 l.length cap∧l.length≤cap∧l.length≤9223372036854775807∧(∀q∈l,U8 q)∧(Row a0 (cellsOf Bb l)).p (fun _=>False) W:=O9 (by decide) U8 Bb (fun _=>rfl) Tryz.underlying22 Dl dJ hf
theorem kl{a:Nat→Bool}{fuel:Nat}{c:Value}{x:DataW H×List MemPlace}(hf:DataW.trod enc Tryz.prog W 0 a true fuel 28 [c]=some x):
    ∃(a0:Option Addr) (cap:Nat) (l:List (QT)),c=.slice a0 l.length cap∧l.length≤cap∧l.length≤9223372036854775807∧(∀q∈l,OkT q)∧(Row a0 (cellsOf D2 l)).p (fun _=>False) W:=O9 (by decide) OkT D2 (fun _=>rfl) Tryz.underlying28 cellsT kn hf
theorem km{a:Nat→Bool}{fuel:Nat}{c:Value}{x:DataW H×List MemPlace}(hf:DataW.trod enc Tryz.prog W 0 a true fuel 31 [c]=some x):
    ∃(a0:Option Addr) (cap:Nat) (l:List (Int×Int)),c=.slice a0 l.length cap∧l.length≤cap∧l.length≤9223372036854775807∧(∀q∈l,OkQ q)∧(Row a0 (cellsOf Mg l)).p (fun _=>False) W:=O9 (by decide) OkQ Mg (fun _=>rfl) Tryz.underlying31 ZU ko hf
theorem flU8(l:List Int): cellsOf Bb l=l.map Bb:=by
  induction l with
  | nil=>rfl
  | cons x l a=>rw[List.map_cons, ←a];rfl
theorem read_m{i:Nat→Bool}{fuel:Nat}{c0 c1 c2 g c b d e f:Value}{x:DataW H×List MemPlace}(h:DataW.trod enc Tryz.prog W 0 i true fuel 26 [c0,c1,c2,g,c,b,d,e,f]=some x):
    ∃(m:M25) (a:Option Addr) (r:Nat),QE m∧U8 m.nx∧U8 m.first∧(Row a (List.map Bb m.cells)).p (fun _=>False) W ∧
      [c0,c1,c2,g,c,b,d,e,f]=[.int .u8 m.nx,.int .u8 m.ny,.slice a m.cells.length r,.int .i8 m.m0,.int .i8 m.m1,.int .i8 m.m2,.int .i8 m.m3,.int .u8 m.den,.int .u8 m.first]:=by
  obtain ⟨xs,n,_,_,_,hlen,hf⟩:=DataW.trod_struct Tryz.underlying26 h
  match xs,hlen with
  | [C,E,A,y,D,z],_ =>
    have u:DataW.trod enc Tryz.prog W 0 i true n 5 (([c0,c1,c2,g,c,b,d,e,f].drop 0).take (Tryz.prog.cellsOf 5))=some C:=hf 0 _ rfl
    rw[Dl] at u
    have q:DataW.trod enc Tryz.prog W 0 i true n 5 (([c0,c1,c2,g,c,b,d,e,f].drop 1).take (Tryz.prog.cellsOf 5))=some E:=hf 1 _ rfl
    rw[Dl] at q
    have t:DataW.trod enc Tryz.prog W 0 i true n 22 (([c0,c1,c2,g,c,b,d,e,f].drop 2).take (Tryz.prog.cellsOf 22))=some A:=hf 2 _ rfl
    rw[mA] at t
    have o:DataW.trod enc Tryz.prog W 0 i true n 24 (([c0,c1,c2,g,c,b,d,e,f].drop 3).take (Tryz.prog.cellsOf 24))=some y:=hf 3 _ rfl
    rw[cells4] at o
    have j:DataW.trod enc Tryz.prog W 0 i true n 5 (([c0,c1,c2,g,c,b,d,e,f].drop 7).take (Tryz.prog.cellsOf 5))=some D:=hf 4 _ rfl
    rw[Dl] at j
    have k:DataW.trod enc Tryz.prog W 0 i true n 5 (([c0,c1,c2,g,c,b,d,e,f].drop 8).take (Tryz.prog.cellsOf 5))=some z:=hf 5 _ rfl
    rw[Dl] at k
    simp only[List.drop,List.take] at u q t o j k
    obtain ⟨nx,a0,rfl⟩:=C0 u
    obtain ⟨ny,G,rfl⟩:=C0 q
    obtain ⟨a,r,l,rfl,_,hl,s,hr⟩:=kj t
    obtain ⟨m0,m1,m2,m3,B,F,w,v,rfl,rfl,rfl,rfl⟩:=kq o
    obtain ⟨den,a2,rfl⟩:=C0 j
    obtain ⟨first,a3,rfl⟩:=C0 k
    rw[flU8] at hr
    exact⟨⟨nx,ny,l,m0,m1,m2,m3,den,first⟩,a,r,⟨B,F,w,v,a2,s,hl⟩,a0,a3,hr,rfl⟩
theorem kp{y:Nat→Bool}{fuel:Nat}{c0 c1 c2 w o k q r s v g a e b d f:Value}{x:DataW H×List MemPlace}(h:DataW.trod enc Tryz.prog W 0 y true fuel 30 [c0,c1,c2,w,o,k,q,r,s,v,g,a,e,b,d,f]=some x):
    ∃(x:Pn) (i j:Option Addr) (F z:Nat),QD x∧QE x.M∧U8 x.M.nx∧U8 x.M.first∧(∀t∈x.u,OkT t)∧x.u.length≤z∧(Row i (List.map Bb x.M.cells)).p (fun _=>False) W∧(Row j (cellsOf D2 x.u)).p (fun _=>False) W ∧
      [c0,c1,c2,w,o,k,q,r,s,v,g,a,e,b,d,f]=[.int .u8 x.M.nx,.int .u8 x.M.ny,.slice i x.M.cells.length F,.int .i8 x.M.m0,.int .i8 x.M.m1,.int .i8 x.M.m2,.int .i8 x.M.m3,.int .u8 x.M.den,.int .u8 x.M.first,.bool x.two,.int .i8 x.k0,.int .i8 x.k1,.int .i8 x.k2,.int .u8 x.c,.slice j x.u.length z,.int .u8 x.fixed]:=by
  obtain ⟨xs,n,_,_,_,hlen,hf⟩:=DataW.trod_struct Tryz.underlying30 h
  match xs,hlen with
  | [U,X,R,P,V,Q],_ =>
    have J:DataW.trod enc Tryz.prog W 0 y true n 26 (([c0,c1,c2,w,o,k,q,r,s,v,g,a,e,b,d,f].drop 0).take (Tryz.prog.cellsOf 26))=some U:=hf 0 _ rfl
    rw[cellsM] at J
    have E:DataW.trod enc Tryz.prog W 0 y true n 4 (([c0,c1,c2,w,o,k,q,r,s,v,g,a,e,b,d,f].drop 9).take (Tryz.prog.cellsOf 4))=some X:=hf 1 _ rfl
    rw[cellsB] at E
    have I:DataW.trod enc Tryz.prog W 0 y true n 27 (([c0,c1,c2,w,o,k,q,r,s,v,g,a,e,b,d,f].drop 10).take (Tryz.prog.cellsOf 27))=some R:=hf 2 _ rfl
    rw[cells3] at I
    have C:DataW.trod enc Tryz.prog W 0 y true n 5 (([c0,c1,c2,w,o,k,q,r,s,v,g,a,e,b,d,f].drop 13).take (Tryz.prog.cellsOf 5))=some P:=hf 3 _ rfl
    rw[Dl] at C
    have A:DataW.trod enc Tryz.prog W 0 y true n 28 (([c0,c1,c2,w,o,k,q,r,s,v,g,a,e,b,d,f].drop 14).take (Tryz.prog.cellsOf 28))=some V:=hf 4 _ rfl
    rw[mC] at A
    have B:DataW.trod enc Tryz.prog W 0 y true n 5 (([c0,c1,c2,w,o,k,q,r,s,v,g,a,e,b,d,f].drop 15).take (Tryz.prog.cellsOf 5))=some Q:=hf 5 _ rfl
    rw[Dl] at B
    simp only[List.drop,List.take] at J E I C A B
    obtain ⟨m,i,F,hm,h1,N,S,K⟩:=read_m J
    obtain ⟨two,L,_⟩:=DataW.trod_bool Tryz.underlying4 E
    obtain ⟨k0,k1,k2,T,Y,O,rfl,rfl,rfl⟩:=kr I
    obtain ⟨c,a2,rfl⟩:=C0 C
    obtain ⟨j,z,l,rfl,G,_,D,hr⟩:=kl A
    obtain ⟨fixed,a3,rfl⟩:=C0 B
    simp only[List.cons.injEq,and_true] at K L
    obtain ⟨rfl,rfl,rfl,rfl,rfl,rfl,rfl,rfl,rfl⟩:=K
    subst L
    exact⟨⟨m,two,k0,k1,k2,c,l,fixed⟩,i,j,F,z,⟨T,Y,O,a2,a3⟩,hm,h1,N,D,G,S,hr,rfl⟩
theorem Wr{C:Nat→Bool}{fuel:Nat}{c0 c1 c2 B r o w y z A j d g e f i a b:Value}{x:DataW H×List MemPlace}(h:DataW.trod enc Tryz.prog W 0 C true fuel 33 [c0,c1,c2,B,r,o,w,y,z,A,j,d,g,e,f,i,a,b]=some x):
    ∃(x:Pn) (k l m:Option Addr) (F D I dg:Nat) (v:List (Int×Int)),QD x∧QE x.M∧U8 x.M.nx∧U8 x.M.first∧(∀t∈x.u,OkT t)∧x.u.length≤D∧(∀q∈v,OkQ q)∧v.length≤9223372036854775807 ∧
      (Row k (List.map Bb x.M.cells)).p (fun _=>False) W∧(Row l (cellsOf D2 x.u)).p (fun _=>False) W∧(Row m (cellsOf Mg v)).p (fun _=>False) W ∧
      [c0,c1,c2,B,r,o,w,y,z,A,j,d,g,e,f,i,a,b]=[.int .u8 x.M.nx,.int .u8 x.M.ny,.slice k x.M.cells.length F,.int .i8 x.M.m0,.int .i8 x.M.m1,.int .i8 x.M.m2,.int .i8 x.M.m3,.int .u8 x.M.den,.int .u8 x.M.first,.bool x.two,.int .i8 x.k0,.int .i8 x.k1,.int .i8 x.k2,.int .u8 x.c,.slice l x.u.length D,.int .u8 x.fixed,.int .u8 ((dg:Nat):Int),.slice m v.length I]:=by
  obtain ⟨xs,n,_,_,_,hlen,hf⟩:=DataW.trod_struct Tryz.underlying33 h
  match xs,hlen with
  | [T,V,R],_ =>
    have K:DataW.trod enc Tryz.prog W 0 C true n 30 (([c0,c1,c2,B,r,o,w,y,z,A,j,d,g,e,f,i,a,b].drop 0).take (Tryz.prog.cellsOf 30))=some T:=hf 0 _ rfl
    rw[mE] at K
    have E:DataW.trod enc Tryz.prog W 0 C true n 5 (([c0,c1,c2,B,r,o,w,y,z,A,j,d,g,e,f,i,a,b].drop 16).take (Tryz.prog.cellsOf 5))=some V:=hf 1 _ rfl
    rw[Dl] at E
    have J:DataW.trod enc Tryz.prog W 0 C true n 31 (([c0,c1,c2,B,r,o,w,y,z,A,j,d,g,e,f,i,a,b].drop 17).take (Tryz.prog.cellsOf 31))=some R:=hf 2 _ rfl
    rw[mD] at J
    simp only[List.drop,List.take] at K E J
    obtain ⟨x,k,l,F,D,h1,N,S,Y,X,U,Q,P,L⟩:=kp K
    obtain ⟨s,⟨O,_⟩,rfl⟩:=C0 E
    obtain ⟨m,I,v,rfl,_,G,hv,hr⟩:=km J
    obtain ⟨dg,rfl⟩:∃n:Nat,s=((n:Nat):Int):=⟨s.toNat,(Int.toNat_of_nonneg O).symm⟩
    simp only[List.cons.injEq,and_true] at L
    obtain ⟨rfl,rfl,rfl,rfl,rfl,rfl,rfl,rfl,rfl,rfl,rfl,rfl,rfl,rfl,rfl,rfl⟩:=L
    exact⟨x,k,l,m,F,D,I,dg,v,h1,N,S,Y,X,U,hv,G,Q,P,hr,rfl⟩
end
theorem pair_cells{H:Type}{enc:TypeId×Value→H}{W:World}{base:Nat}{i:Nat→Bool}{held:Bool}{fuel:Nat}{c0 c1:Value}{a b:Int}{x:DataW H×List MemPlace}(h:DataW.trod enc Tryz.prog W base i held fuel 125 [c0,c1]=some x)(hx:x.1=.agg [.lit (.int .i64 a),.lit (.int .i64 b)]): c0=.int .i64 a∧c1=.int .i64 b:=by
  obtain ⟨xs,m,_,rfl,_,j,d⟩:=DataW.trod_array Tryz.underlying125 h
  match xs,j with
  | [l,k],_ =>
    have f:=d 0 (by decide)
    have e:=d 1 (by decide)
    simp only[ja,Nat.zero_mul,Nat.one_mul,List.drop,List.take,List.getElem?_cons_zero,List.getElem?_cons_succ] at f e
    obtain ⟨s,g,rfl,_⟩:=DataW.trod_int Tryz.underlying3 f
    obtain ⟨r,c,rfl,_⟩:=DataW.trod_int Tryz.underlying3 e
    simp only[List.cons.injEq,and_true] at g c
    simp only[List.map_cons,List.map_nil,DataW.agg.injEq,List.cons.injEq,and_true,DataW.lit.injEq,Lit.int.injEq,true_and] at hx
    obtain ⟨rfl,rfl⟩:=hx
    exact⟨g,c⟩
theorem To{H:Type}{enc:TypeId×Value→H}{W:World}{base:Nat}{g:Nat→Bool}{held:Bool}{fuel:Nat}{cs:List Value}{p:List MemPlace}(hl:cs.length=6)(h:DataW.trod enc Tryz.prog W base g held fuel 248 cs=some (.agg [.agg [.lit (.int .i64 1),.lit (.int .i64 2)],.agg [.lit (.int .i64 2),.lit (.int .i64 0)],.agg [.lit (.int .i64 0),.lit (.int .i64 1)]],p)):
    cs=[.int .i64 1,.int .i64 2,.int .i64 2,.int .i64 0,.int .i64 0,.int .i64 1]:=by
  obtain ⟨xs,m,_,hx,_,j,a⟩:=DataW.trod_array Tryz.underlying248 h
  match xs,j with
  | [o,r,l],_ =>
  match cs,hl with
  | [c0,c1,c2,n,q,k],_ =>
    have e:=a 0 (by decide)
    have d:=a 1 (by decide)
    have c:=a 2 (by decide)
    simp only[cells2,Nat.zero_mul,Nat.one_mul,Nat.reduceMul,List.drop,List.take,List.getElem?_cons_zero,List.getElem?_cons_succ] at e d c
    have b:=congrArg Prod.fst hx
    simp only[List.map_cons,List.map_nil,DataW.agg.injEq,List.cons.injEq,and_true] at b
    obtain ⟨i,h1,f⟩:=b
    obtain ⟨rfl,rfl⟩:=pair_cells e i.symm
    obtain ⟨rfl,rfl⟩:=pair_cells d h1.symm
    obtain ⟨rfl,rfl⟩:=pair_cells c f.symm
    rfl
theorem sidesF(W:World)(hL:laidMetH Tryz.prog Rows.adaptsErrorsRow.laid W): SideF.p (fun _=>False) W:=by
  have hl:laidMet Tryz.prog Rows.adaptsErrorsRow.laid W:=hL
  obtain ⟨ps,⟨_,_,_,_,_,_,_,_,_,_,⟨g',t',cs,fuel,p,q,hg',ht',hvar,hd,_,_⟩,_⟩,_⟩:=hl
  have hg : Tryz.prog.globalNamed "gusset/shapes.sides" = some g' := hg'
  obtain rfl:g'=0:=Option.some.inj (hg.symm.trans (by kernel_rfl))
  obtain rfl:=Option.some.inj (ht'.symm.trans (show(Tryz.prog.globals[0]?).map (·.type)=some 248 by kernel_rfl))
  obtain ⟨_,_,_,_,hlen,_,_⟩:=DataW.trod_array Tryz.underlying248 hd
  have e:=To (by rw[hlen];kernel_rfl) hd
  intro hne
  have h2 : W.var? Tryz.prog "gusset/shapes.sides" = some cs := hvar
  unfold World.var? at h2
  simp only[hg,Option.bind_some] at h2
  split at h2
  · rename_i c T fr hc
    obtain rfl:=Option.some.inj h2
    refine⟨0,0,c,T,fr,rfl,id,hc,fun j hj=>?_⟩
    rw[←e,Nat.zero_add]
    simp
  ·cases h2
def witC:Value:=.agg #[.int .u8 0,.int .u8 0,.slice none 0 0,.int .i8 0,.int .i8 0,.int .i8 0,.int .i8 0,.int .u8 0,.int .u8 0,.bool false,.int .i8 0,.int .i8 0,.int .i8 0,.int .u8 0,.slice none 0 0,.int .u8 0,.int .u8 0,.slice none 0 0]
def witQ:Value:=.agg #[.int .i64 0,.int .u32 0]
theorem contract(H:Type)(enc:TypeId×Value→H)(W:World)(base:Nat)(args:Array Value)(ds gs:List (DataW H))(before:List MemPlace)(a:∀(j:Nat) t v,Tryz.f3.params[j]?=some t→args[j]?=some v→Value.okWide Tryz.prog W .any base t v)(S:DataW.Whole enc Tryz.prog Tryz.f3.params.toList Rows.adaptsErrorsSpec.vars false W args.toList ds gs before)(hL:laidMetH Tryz.prog Rows.adaptsErrorsRow.laid W):
    Calls Tryz.prog 3 args W fun e Y => ∃v,e=.returned v∧Rows.adaptsErrorsSpec.post enc Tryz.prog Tryz.f3 false true false false W args v Y:=by
  have i:=S
  obtain ⟨p,q,s,hV,rfl,a7,a8⟩:=S
  have V:DataW.TrodAll enc Tryz.prog W 0 (fun _=>true) true Tryz.f3.params.toList args.toList ds p:=s
  rw[Tryz.params3] at V a
  obtain ⟨v0,vs0,d0,b8,U,e5,G,rfl,rfl,Z,r0⟩:=trodAll_cons V
  obtain ⟨v1,a6,d1,e4,P,b6,rfl,rfl,rfl,h1,r1⟩:=trodAll_cons r0
  obtain ⟨v2,b7,d2,b9,p2,b2,rfl,rfl,rfl,D,r2⟩:=trodAll_cons r1
  obtain ⟨rfl,rfl,rfl⟩:=trodAll_nil r2
  obtain rfl:args=#[v0,v1,v2]:=by cases args;simp_all
  obtain ⟨rfl,rfl⟩:=trodVars_none hV
  obtain ⟨y,rfl,k⟩:=okWide_struct Tryz.underlying33 (a 0 33 v0 rfl rfl)
  obtain ⟨w,rfl,l⟩:=okWide_struct Tryz.underlying36 (a 1 36 v1 rfl rfl)
  obtain ⟨C,rfl,rfl,rfl,L⟩:=open_int Tryz.underlying3 (a 2 3 v2 rfl rfl) D
  clear s
  simp only[List.append_nil,List.nil_append] at i
  have B:∀x∈U,x.block<W.heap.size:=fun x hx=>by simpa using i.lt x (by simp[hx])
  have r:∀x∈P,x.block<W.heap.size:=fun x hx=>by simpa using i.lt x (by simp[hx])
  have walk:Calls Tryz.prog 3 #[.agg y,.agg w,.int .i64 C] W fun e w'=>e=.returned (.bool true)∧Below W.heap.size W w':=by
    rw[cellsC] at k
    rw[ZU] at l
    obtain ⟨b3,F⟩:=Z
    obtain ⟨b4,K⟩:=h1
    obtain ⟨I⟩:=y
    obtain ⟨E⟩:=w
    match I,k,E,l with
    | [c0,c1,c2,c3,c4,c5,c6,c7,c8,c9,e3,b1,e1,b5,e0,e2,a1,b0],_,[u,z],_ =>
    obtain ⟨q,hq,rfl,rfl⟩:=Wp (v0:=u) (v1:=z) K
    obtain ⟨x,b,d,g,J,N,O,dg,v,g1,g2,g3,g4,g5,g6,g7,g8,f1,f2,f3,e⟩:=Wr F
    simp only[List.cons.injEq,and_true] at e
    obtain ⟨rfl,rfl,rfl,rfl,rfl,rfl,rfl,rfl,rfl,rfl,rfl,rfl,rfl,rfl,rfl,rfl,rfl,rfl⟩:=e
    obtain ⟨m,Q,hT,T⟩:=WV x g2 g3 g4 g2.den
    obtain ⟨n,X⟩:∃n:Nat,x.fixed=((n:Nat):Int):=⟨_,(Int.toNat_of_nonneg g1.fixed.1).symm⟩
    have A:n≤255:=by have:=g1.fixed.2;omega
    have hx:QD (Vi x):=⟨g1.k0,g1.k1,g1.k2,g1.c,g1.fixed⟩
    have hC:Xo Tryz.prog 3 [.agg #[.int .u8 x.M.nx,.int .u8 x.M.ny,.slice b x.M.cells.length J,.int .i8 x.M.m0,.int .i8 x.M.m1,.int .i8 x.M.m2,.int .i8 x.M.m3,.int .u8 x.M.den,.int .u8 x.M.first,.bool x.two,.int .i8 x.k0,.int .i8 x.k1,.int .i8 x.k2,.int .u8 x.c,.slice d x.u.length N,.int .u8 x.fixed,.int .u8 ((dg:Nat):Int),.slice g v.length O],.agg #[.int .i64 q.1,.int .u32 q.2],.int .i64 C] [Row b (List.map Bb x.M.cells),Row d (cellsOf D2 x.u),Row g (cellsOf Mg v),SideF] (.bool true):=by
      cases o:Gp (qv q.1 q.2)
      ·exact JG x b d J N dg v g O n m q.1 q.2 C hx Q g5 g6 X A g7 g8 hq hT T o
      ·exact JF x b d J N dg v g O n m q.1 q.2 C hx Q g5 g6 X A g7 g8 hq hT T o
    have hc:=hC (fun _=>False) W (fun _ h=>h.elim) (fun R hR=>by
      simp only[List.mem_cons,List.not_mem_nil,or_false] at hR
      rcases hR with rfl|rfl|rfl|rfl
      ·exact f1
      ·exact f2
      ·exact f3
      ·exact sidesF W hL)
    exact Calls.mono hc (fun e w' ⟨v,Ψ,h1,⟨D,_⟩,h3,_⟩=>⟨by rw[h1,D],h3⟩)
  refine walk.mono fun e Y ⟨he,o⟩=>?_
  subst he
  refine⟨_,rfl,_,_,_,[],(U++(P++([]++[]))),[],i,?_,?_,?_,?_,fun h=>by cases h⟩
  ·exact trodAll_cons_mk (shut_bool Tryz.underlying4 _) trodAll_mk0
  ·exact trodAll_cons_mk (Below.trod RI (by kernel_rfl) (of_decide_eq_true (by kernel_rfl)) Z o B) (trodAll_cons_mk (Below.trod RI (by kernel_rfl) (of_decide_eq_true (by kernel_rfl)) h1 o r) (trodAll_cons_mk (shut_int Tryz.underlying3 L) trodAll_mk0))
  ·exact rfl
  ·exact World.keptBut_mono (fun _ f=>f.elim) (o.frame (fun _=>False))
noncomputable def laidWorld (os:Os):World :=
  { World.holding Tryz.prog os ⟨#[], #[], []⟩ with heap := (((World.holding Tryz.prog os ⟨#[], #[], []⟩).heap.modify 2 fun
      | .cells _ t frozen => .cells #[.int .u8 0, .int .u8 1, .int .u8 28, .int .u8 2, .int .u8 29, .int .u8 14, .int .u8 24, .int .u8 3, .int .u8 30, .int .u8 22, .int .u8 20, .int .u8 15, .int .u8 25, .int .u8 17, .int .u8 4, .int .u8 8, .int .u8 31, .int .u8 27, .int .u8 13, .int .u8 23, .int .u8 21, .int .u8 19, .int .u8 16, .int .u8 7, .int .u8 26, .int .u8 12, .int .u8 18, .int .u8 6, .int .u8 11, .int .u8 5, .int .u8 10, .int .u8 9] t frozen
      | o => o).modify 0 fun
      | .cells _ t frozen => .cells #[.int .i64 1, .int .i64 2, .int .i64 2, .int .i64 0, .int .i64 0, .int .i64 1] t frozen
      | o => o) }
theorem laid_met(os:Os): laidMet Tryz.prog Rows.adaptsErrorsRow.laid ((laidWorld os).forCall (fun _ _=>0) ⟨#[],#[witC,witQ,.int .i64 0],[]⟩).memory :=
  laidMet_of_run' 128 (by kernel_rfl) (by kernel_rfl)
theorem reads(os:Os){H:Type}(enc:TypeId×Value→H): ∃a,DataW.whole enc Tryz.prog ((laidWorld os).forCall (fun _ _=>0) ⟨#[],#[witC,witQ,.int .i64 0],[]⟩).memory Tryz.f3.params.toList Rows.adaptsErrorsSpec.vars false #[witC,witQ,.int .i64 0].toList 8=some ([.agg [.agg [.agg [.lit (.int .u8 0),.lit (.int .u8 0),.nil,.agg [.lit (.int .i8 0),.lit (.int .i8 0),.lit (.int .i8 0),.lit (.int .i8 0)],.lit (.int .u8 0),.lit (.int .u8 0)],.lit (.bool false),.agg [.lit (.int .i8 0),.lit (.int .i8 0),.lit (.int .i8 0)],.lit (.int .u8 0),.nil,.lit (.int .u8 0)],.lit (.int .u8 0),.nil],.agg [.lit (.int .i64 0),.lit (.int .u32 0)],.lit (.int .i64 0)],[],a) :=
  ⟨[],by kernel_rfl⟩
set_option maxRecDepth 100000 in
theorem lifted(os:Os)(started:os.Started)(H:Type)(enc:TypeId×Value→H)(F:Stop.Interp):
    ReturnsInHanded {} Tryz.checked os 3 .any ((OpenSpec.ofChange Rows.adaptsErrorsSpec).preRow enc Tryz.prog Tryz.f3 Rows.adaptsErrorsRow.domain false Rows.adaptsErrorsRow.laid) (((OpenSpec.ofChange Rows.adaptsErrorsSpec).at F).post enc Tryz.prog Tryz.f3 false true false false):=by
  obtain ⟨b,hx⟩:=reads os enc
  refine returnsInHanded_of_row (C:=Tryz.checked) (s:=OpenSpec.ofChange Rows.adaptsErrorsSpec) own started (by kernel_rfl) Tryz.func3
    (witness_row_at (enc:=enc) (C:=Tryz.checked) false (laidWorld os) #[witC,witQ,.int .i64 0] rfl (by kernel_rfl) (by kernel_rfl) (by kernel_rfl)
      (OpenSpec.preRow_of_cond 8 hx (by kernel_rfl) (fun k hk=>by cases hk) (by kernel_rfl) (laid_met os))) ?_
  intro W base args ds gs before a c _ _ _ d _ _
  exact contract H enc W base args ds gs before a c d
theorem said:Rows.AdaptsErrorsSaid :=
  OpenClaim.holds_of_cond 3 Tryz.f3 rfl rfl rfl rfl rfl rfl rfl ⟨rfl,rfl,rfl,rfl,rfl⟩ rfl rfl rfl rfl rfl cfNamed Tryz.func3 joined
    (of_decide_eq_true (by kernel_rfl)) (by unfold Func.isWrapper;first|(rw[if_pos (by decide +kernel)];kernel_rfl)|(rw[if_neg (by decide +kernel)];exact⟨rfl,rfl⟩))
    (fun os started H enc _ F=>by rw[OpenClaim.pre_eq_preRow];exact lifted os started H enc F)
theorem plain(f: FuncId)(fn: Func)(hf: Tryz.pinned.checked.prog.funcNamed "gusset/gussetlaw44.AdaptsErrors" = some f)(hfn: Tryz.pinned.checked.prog.funcs[f]? = some fn):
    false=Tryz.pinned.checked.prog.looks [] ∧ ∀(j:Nat) t,fn.params[j]?=some t→Tryz.pinned.checked.prog.wantsStandIn t=false:=by
  obtain rfl:f=3:=Option.some.inj (cfNamed.symm.trans hf) |>.symm
  obtain rfl:fn=Tryz.f3:=(Option.some.inj (Tryz.func3.symm.trans hfn)).symm
  refine⟨cfLooks,fun j t ht=>?_⟩
  rw[Tryz.params3] at ht
  have ht2:=Array.mem_of_getElem? ht
  have s3:Tryz.pinned.checked.prog.wantsStandIn 3=false:=cfStand3
  have s33:Tryz.pinned.checked.prog.wantsStandIn 33=false:=cfStand33
  have s36:Tryz.pinned.checked.prog.wantsStandIn 36=false:=cfStand36
  simp only[List.mem_toArray,List.mem_cons,List.not_mem_nil,or_false] at ht2
  rcases ht2 with rfl|rfl|rfl<;>assumption
theorem card:Rows.AdaptsErrorsCardSaid :=
  Claim7.holds_tied_plain_at .later [] _ _ _ _ said (fun _ h=>by cases h) (by kernel_rfl) (fun _ h=>by cases h) adaptsErrors_row_tie rfl ⟨rfl,rfl⟩ (by kernel_rfl) rfl plain cfGoes
#print axioms card
end Go.Proofs.YtejhdcohoggojaaGreatDoor.fnAdaptsErrors
