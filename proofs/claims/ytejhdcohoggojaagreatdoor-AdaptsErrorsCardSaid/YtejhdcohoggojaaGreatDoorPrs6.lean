/- Walks of functions. By an AI agent. -/
import Derived.Test.YtejhdcohoggojaaGreatDoorMshl
set_option linter.unusedVariables false
set_option linter.unusedSimpArgs false
set_option maxRecDepth 4000
set_option maxHeartbeats 1000000
namespace Go.Proofs.YtejhdcohoggojaaGreatDoor
open Go Go.Proofs Go.Fx Tryz
attribute [local irreducible] Oper.wp Code.wp wpList Fx.Head wpOp
section
theorem nb_t{b:Bool}(h:(!b)=true): b=false:=by cases b<;>simp at h ⊢
theorem beqN(x y:Nat): (((x:Nat):Int) == ((y:Nat):Int))=decide (x=y):=by
 by_cases h:x=y
 ·rw[h];simp
 ·rw[decide_eq_false h];exact beq_false_of_ne oo
theorem nb_f{b:Bool}(h:(!b)=false): b=true:=by cases b<;>simp at h ⊢
def smW{α:Type}(p:α→α→Bool)(d:α)(l k:List α): Bool:=decide (l.length=k.length) && (List.range l.length).all (fun i=>p (l.getD i d) (k.getD i d))
theorem MZ{α:Type}{p:α→α→Bool}{d:α}{l k:List α}(h:l.length≠k.length): smW p d l k=false:=by unfold smW;rw[decide_eq_false h,Bool.false_and]
theorem VQ{α:Type}{p:α→α→Bool}{d:α}{l k:List α}{i:Nat}(c:l.length=k.length)(a:i<l.length)(b:p (l.getD i d) (k.getD i d)=false): smW p d l k=false:=by
 unfold smW;rw[Bool.and_eq_false_iff];right
 exact List.all_eq_false.2 ⟨i,List.mem_range.2 a,by rw[b];decide⟩
theorem Tk{α:Type}{p:α→α→Bool}{d:α}{l k:List α}(h:l.length=k.length)(b:∀j,j<l.length→p (l.getD j d) (k.getD j d)=true): smW p d l k=true:=by
 unfold smW;rw[decide_eq_true h,Bool.true_and]
 exact List.all_eq_true.2 fun i a=>b i (List.mem_range.1 a)
theorem smW_eq{α:Type}[DecidableEq α](d:α)(l k:List α): smW (fun x y=>decide (x=y)) d l k=decide (l=k):=by
 by_cases h:l=k
 ·rw[h,decide_eq_true rfl];exact Tk rfl fun j _=>decide_eq_true rfl
 ·rw[decide_eq_false h]
  by_cases hl:l.length=k.length
  ·by_cases ha:∀j,j<l.length→l.getD j d=k.getD j d
   ·exact absurd (List.ext_getElem hl fun j h1 a=>by have:=ha j h1;simpa [List.getD,h1,a] using this) h
   ·obtain ⟨j,hj⟩:=Classical.not_forall.1 ha
    obtain ⟨h1,a⟩:=Classical.not_imp.1 hj
    exact VQ hl h1 (decide_eq_false a)
  ·exact MZ hl
theorem jP{l k:List (Nat×Nat×Nat)}(h:l.map (fun s=>(s.1,s.2.1,0))=k): smW (fun x y=>decide (x.1=y.1) && decide (x.2.1=y.2.1)) (0,0,0) l k=true:=by
 subst h
 refine Tk (by rw[List.length_map]) fun j hj=>?_
 simp[List.getD,hj]
theorem nestI(x y:Int): RN (Op.equalIn 9999 3 (.int .i64 x) (.int .i64 y)) (decide (x=y)):=fun w=>by
 rw[show(9999:Nat)=9998+1 from rfl,Op.equalIn]
 simp[go_sem]
 by_cases h:x=y<;>simp[h]
theorem Wb(X Y:Operand)(x y:Nat×Nat×Nat): RN (do eqGuard .eql 127 X Y (Zd x) (Zd y);Go.binOp .eql 127 (Zd x) (Zd y):Sem Value) (.bool (decide (x=y))):=fun w=>by
 obtain ⟨g,b,d⟩:=x
 obtain ⟨a,f,c⟩:=y
 simp[go_sem]
 have e:(Op.equalIn 10000 127 (.agg #[.int .i64 (g:Int),.int .i64 (b:Int),.int .i64 (d:Int)]) (.agg #[.int .i64 (a:Int),.int .i64 (f:Int),.int .i64 (c:Int)])).run prog w=.ok (decide (g=a∧b=f∧d=c)) w:=by
  rw[show(10000:Nat)=9999+1 from rfl,Op.equalIn]
  simp[go_sem,List.range']
  by_cases i:g=a<;>by_cases j:b=f<;>by_cases h:d=c<;>simp[i,j,h,Bd,go_sem,nestI,List.range']
 rw[e]
 simp[Bool.decide_and]
theorem nW(x y:Pt): Ji prog 210 [encPt x,encPt y] (.bool (decide (x=y))):=by
 refine fnI func210 I ntmps210 fun S w0 b=>zS (zx I fun c=>zx I fun a=>au 0x8e8e3125 ?_)
 refine zp (.binOp I I (fun _=>M6 _ _ x y _))<|za I<|zn<|zt<|rtK I
theorem nV(x y:Nat×Nat×Nat): Ji prog 212 [Zd x,Zd y] (.bool (decide (x=y))):=by
 refine fnI func212 I ntmps212 fun S w0 b=>zS (zx I fun c=>zx I fun a=>au 0xcece3125 ?_)
 refine zp (.binOp I I (fun _=>Wb _ _ x y _))<|za I<|zn<|zt<|rtK I
theorem nU(x y:Nat×Nat×Nat): Ji prog 213 [Zd x,Zd y] (.bool (decide (x=y))):=by
 refine fnI func213 I ntmps213 fun S w0 b=>zS (zx I fun c=>zx I fun a=>au 0xcece3125 ?_)
 refine zp (.binOp I I (fun _=>Wc _ _ x y _))<|za I<|zn<|zt<|rtK I
theorem al(x y:Nat×Nat×Nat): Ji prog 176 [Zd x,Zd y] (.bool (decide (x.1=y.1) && decide (x.2.1=y.2.1))):=by
 refine fnI func176 I ntmps176 fun S w0 d=>zS (zx I fun f=>zx I fun c=>au 0x400f60fbaf60fbaf3125 ?_);intro a w h
 refine Zh h (fun b h=>?_) (fun b h=>?_)
 ·refine gL h<|zq 10 I I (.fA I Cx)<|ldQ 10 Vb ?_
  refine zq 10 I I (.fA I Cx)<|ldQ 10 Vb ?_
  refine zq 10 I I (.eql I I)<|au 0x6252e ?_
  refine rtK ?_
  rw[beqN,decide_eq_true (show x.1=y.1 from by have:=eq_of_beq b;omega),Bool.true_and]
 ·refine gL h<|au 0x6254ed4fd4fd4fd4fd4f ?_
  refine rtK ?_
  rw[decide_eq_false (show ¬x.1=y.1 from fun e=>by rw[e] at b;simp at b),Bool.false_and]
theorem gA(l k:List Pt)(ad p:Option Addr)(c e:Nat)(z:l.length≤1000000): Xo prog 209 [.slice ad l.length c,.slice p k.length e,.func (.func 210) #[] #[]] [Row ad (cellsOf encPt l),Row p (cellsOf encPt k)] (.bool (smW (fun(x y:Pt)=>decide (x=y)) (0,0) l k)):=by
 refine fnI func209 I ntmps209 fun S w0 v=>au 0x62f81f481f43112531 ?_;intro a w h
 refine Zh h (fun b h=>?_) (fun b h=>?_)
 ·have o:l.length≠k.length:=fun e=>by rw[e] at b;simp at b
  refine wpList_nil ?_
  refine cW ?_
  refine Qo h I ?_
  refine gC h<|au 0x62531 ?_
  refine rtK ?_
  rw[MZ o]
 ·have heq:k.length=l.length:=by simp at b;omega
  refine wpList_nil ?_
  refine cW ?_
  refine Zj h I ?_
  refine gC h<|au 0x92481f43117 ?_;clear h;intro a w h
  refine lpG h [0,1,2,14] pkL (fun Y Z (i:Nat) a w=>i≤l.length∧(∀j,j<i→(fun(x y:Pt)=>decide (x=y)) (l.getD j (0,0)) (k.getD j (0,0))=true)∧St 30 S w0 ((15,nI i)::Y) [] Z a w) (fun i=>l.length-i) 0 (⟨Nat.zero_le _,fun _ h=>absurd h (Nat.not_lt_zero _),by exact(h).sub sA⟩) ?_;clear h
  rintro i a w ⟨s,d,h⟩
  refine gC h<|au 0x12c31 ?_;intro a w h
  refine Zb h I (fun f=>?_) (fun f=>?_)
  ·have m:i<l.length:=dT f
   obtain ⟨u,q,rfl⟩:=h.row_addr (ad:=ad) (M:=cellsOf encPt l) mm (nE 10)
   obtain ⟨t,r,rfl⟩:=h.row_addr (ad:=p) (M:=cellsOf encPt k) mm (nE 10)
   refine gC h<|au 0x125431917 ?_
   refine yE [0,1,2,3,4,5,6,7,8,9,10]<|au 0xd1f888 ?_;clear h
   refine Zf I kk I mm (cells_lt (k:=10) dd (fun _=>rfl) l i oo) isAgg119 sizeOf119 (Zg (k:=10) (fun _=>rfl) ((fun _=>rfl)) l (0,0) i oo) (.inl I) dd ?_
   refine au 0xd1f88 ?_
   refine Zf I kk I mm (cells_lt (k:=10) dd (fun _=>rfl) k i oo) isAgg119 sizeOf119 (Zg (k:=10) (fun _=>rfl) ((fun _=>rfl)) k (0,0) i oo) (.inl I) dd ?_
   refine Kt I kk (fs:=[]) (cs:=[]) I (vs:=[_,_]) I call210 (nW (l.getD i (0,0))<|k.getD i (0,0)) ss dd ?_
   refine au 0x1bf ?_
   refine Ju (fun g  =>?_) (fun g  =>?_)
   ·refine au 0x625311ea ?_
    refine rtK ?_
    rw[VQ heq.symm m (nb_t g)]
   ·refine yn<|kF I<|zk<|zr<|zp (.pN (i+1)<|.add I I)<|au 0x24 ?_;intro a w h
    exact⟨i+1,⟨oo,fun j hj=>if e:j<i then d j e else by rw[show j=i from by omega];exact nb_f g,tO h⟩,oo⟩
  ·have n:l.length=i:=dF f
   subst n
   refine gC h<|au 0x625310e ?_
   refine rtK ?_
   rw[Tk heq.symm d]
theorem gv(l k:List (Nat×Nat×Nat))(ad p:Option Addr)(c e:Nat)(z:l.length≤1000000): Xo prog 211 [.slice ad l.length c,.slice p k.length e,.func (.func 212) #[] #[]] [Row ad (cellsOf Zd l),Row p (cellsOf Zd k)] (.bool (smW (fun(x y:Nat×Nat×Nat)=>decide (x=y)) (0,0,0) l k)):=by
 refine fnI func211 I ntmps211 fun S w0 v=>au 0x62fe0f4e0f43112531 ?_;intro a w h
 refine Zh h (fun b h=>?_) (fun b h=>?_)
 ·have o:l.length≠k.length:=fun e=>by rw[e] at b;simp at b
  refine wpList_nil ?_
  refine cW ?_
  refine Qo h I ?_
  refine gC h<|au 0x62531 ?_
  refine rtK ?_
  rw[MZ o]
 ·have heq:k.length=l.length:=by simp at b;omega
  refine wpList_nil ?_
  refine cW ?_
  refine Zj h I ?_
  refine gC h<|au 0x924e0f43117 ?_;clear h;intro a w h
  refine lpG h [0,1,2,14] pkL (fun Y Z (i:Nat) a w=>i≤l.length∧(∀j,j<i→(fun(x y:Nat×Nat×Nat)=>decide (x=y)) (l.getD j (0,0,0)) (k.getD j (0,0,0))=true)∧St 30 S w0 ((15,nI i)::Y) [] Z a w) (fun i=>l.length-i) 0 (⟨Nat.zero_le _,fun _ h=>absurd h (Nat.not_lt_zero _),by exact(h).sub sA⟩) ?_;clear h
  rintro i a w ⟨s,d,h⟩
  refine gC h<|au 0x12c31 ?_;intro a w h
  refine Zb h I (fun f=>?_) (fun f=>?_)
  ·have m:i<l.length:=dT f
   obtain ⟨u,q,rfl⟩:=h.row_addr (ad:=ad) (M:=cellsOf Zd l) mm (nE 3)
   obtain ⟨t,r,rfl⟩:=h.row_addr (ad:=p) (M:=cellsOf Zd k) mm (nE 3)
   refine gC h<|au 0x125431917 ?_
   refine yE [0,1,2,3,4,5,6,7,8,9,10]<|au 0xf5f888 ?_;clear h
   refine Zf I kk I mm (cells_lt (k:=3) dd (fun _=>rfl) l i oo) isAgg127 sizeOf127 (Zg (k:=3) (fun _=>rfl) ((fun _=>rfl)) l (0,0,0) i oo) (.inl I) dd ?_
   refine au 0xf5f88 ?_
   refine Zf I kk I mm (cells_lt (k:=3) dd (fun _=>rfl) k i oo) isAgg127 sizeOf127 (Zg (k:=3) (fun _=>rfl) ((fun _=>rfl)) k (0,0,0) i oo) (.inl I) dd ?_
   refine Kt I kk (fs:=[]) (cs:=[]) I (vs:=[_,_]) I call212 (nV (l.getD i (0,0,0))<|k.getD i (0,0,0)) ss dd ?_
   refine au 0x1bf ?_
   refine Ju (fun g  =>?_) (fun g  =>?_)
   ·refine au 0x625311ea ?_
    refine rtK ?_
    rw[VQ heq.symm m (nb_t g)]
   ·refine yn<|kF I<|zk<|zr<|zp (.pN (i+1)<|.add I I)<|au 0x24 ?_;intro a w h
    exact⟨i+1,⟨oo,fun j hj=>if e:j<i then d j e else by rw[show j=i from by omega];exact nb_f g,tO h⟩,oo⟩
  ·have n:l.length=i:=dF f
   subst n
   refine gC h<|au 0x625310e ?_
   refine rtK ?_
   rw[Tk heq.symm d]
theorem gw(l k:List (Nat×Nat×Nat))(ad p:Option Addr)(c e:Nat)(z:l.length≤1000000): Xo prog 175 [.slice ad l.length c,.slice p k.length e,.func (.func 213) #[] #[]] [Row ad (cellsOf Zd l),Row p (cellsOf Zd k)] (.bool (smW (fun(x y:Nat×Nat×Nat)=>decide (x=y)) (0,0,0) l k)):=by
 refine fnI func175 I ntmps175 fun S w0 v=>au 0x62fb2f4b2f43112531 ?_;intro a w h
 refine Zh h (fun b h=>?_) (fun b h=>?_)
 ·have o:l.length≠k.length:=fun e=>by rw[e] at b;simp at b
  refine wpList_nil ?_
  refine cW ?_
  refine Qo h I ?_
  refine gC h<|au 0x62531 ?_
  refine rtK ?_
  rw[MZ o]
 ·have heq:k.length=l.length:=by simp at b;omega
  refine wpList_nil ?_
  refine cW ?_
  refine Zj h I ?_
  refine gC h<|au 0x924b2f43117 ?_;clear h;intro a w h
  refine lpG h [0,1,2,14] pkL (fun Y Z (i:Nat) a w=>i≤l.length∧(∀j,j<i→(fun(x y:Nat×Nat×Nat)=>decide (x=y)) (l.getD j (0,0,0)) (k.getD j (0,0,0))=true)∧St 30 S w0 ((15,nI i)::Y) [] Z a w) (fun i=>l.length-i) 0 (⟨Nat.zero_le _,fun _ h=>absurd h (Nat.not_lt_zero _),by exact(h).sub sA⟩) ?_;clear h
  rintro i a w ⟨s,d,h⟩
  refine gC h<|au 0x12c31 ?_;intro a w h
  refine Zb h I (fun f=>?_) (fun f=>?_)
  ·have m:i<l.length:=dT f
   obtain ⟨u,q,rfl⟩:=h.row_addr (ad:=ad) (M:=cellsOf Zd l) mm (nE 3)
   obtain ⟨t,r,rfl⟩:=h.row_addr (ad:=p) (M:=cellsOf Zd k) mm (nE 3)
   refine gC h<|au 0x125431917 ?_
   refine yE [0,1,2,3,4,5,6,7,8,9,10]<|au 0xe9f888 ?_;clear h
   refine Zf I kk I mm (cells_lt (k:=3) dd (fun _=>rfl) l i oo) isAgg178 sizeOf178 (Zg (k:=3) (fun _=>rfl) ((fun _=>rfl)) l (0,0,0) i oo) (.inl I) dd ?_
   refine au 0xe9f88 ?_
   refine Zf I kk I mm (cells_lt (k:=3) dd (fun _=>rfl) k i oo) isAgg178 sizeOf178 (Zg (k:=3) (fun _=>rfl) ((fun _=>rfl)) k (0,0,0) i oo) (.inl I) dd ?_
   refine Kt I kk (fs:=[]) (cs:=[]) I (vs:=[_,_]) I call213 (nU (l.getD i (0,0,0))<|k.getD i (0,0,0)) ss dd ?_
   refine au 0x1bf ?_
   refine Ju (fun g  =>?_) (fun g  =>?_)
   ·refine au 0x625311ea ?_
    refine rtK ?_
    rw[VQ heq.symm m (nb_t g)]
   ·refine yn<|kF I<|zk<|zr<|zp (.pN (i+1)<|.add I I)<|au 0x24 ?_;intro a w h
    exact⟨i+1,⟨oo,fun j hj=>if e:j<i then d j e else by rw[show j=i from by omega];exact nb_f g,tO h⟩,oo⟩
  ·have n:l.length=i:=dF f
   subst n
   refine gC h<|au 0x625310e ?_
   refine rtK ?_
   rw[Tk heq.symm d]
theorem gz(l k:List (Nat×Nat×Nat))(ad p:Option Addr)(c e:Nat)(z:l.length≤1000000): Xo prog 175 [.slice ad l.length c,.slice p k.length e,.func (.func 176) #[] #[]] [Row ad (cellsOf Zd l),Row p (cellsOf Zd k)] (.bool (smW (fun(x y:Nat×Nat×Nat)=>decide (x.1=y.1) && decide (x.2.1=y.2.1)) (0,0,0) l k)):=by
 refine fnI func175 I ntmps175 fun S w0 v=>au 0x62fb2f4b2f43112531 ?_;intro a w h
 refine Zh h (fun b h=>?_) (fun b h=>?_)
 ·have o:l.length≠k.length:=fun e=>by rw[e] at b;simp at b
  refine wpList_nil ?_
  refine cW ?_
  refine Qo h I ?_
  refine gC h<|au 0x62531 ?_
  refine rtK ?_
  rw[MZ o]
 ·have heq:k.length=l.length:=by simp at b;omega
  refine wpList_nil ?_
  refine cW ?_
  refine Zj h I ?_
  refine gC h<|au 0x924b2f43117 ?_;clear h;intro a w h
  refine lpG h [0,1,2,14] pkL (fun Y Z (i:Nat) a w=>i≤l.length∧(∀j,j<i→(fun(x y:Nat×Nat×Nat)=>decide (x.1=y.1) && decide (x.2.1=y.2.1)) (l.getD j (0,0,0)) (k.getD j (0,0,0))=true)∧St 30 S w0 ((15,nI i)::Y) [] Z a w) (fun i=>l.length-i) 0 (⟨Nat.zero_le _,fun _ h=>absurd h (Nat.not_lt_zero _),by exact(h).sub sA⟩) ?_;clear h
  rintro i a w ⟨s,d,h⟩
  refine gC h<|au 0x12c31 ?_;intro a w h
  refine Zb h I (fun f=>?_) (fun f=>?_)
  ·have m:i<l.length:=dT f
   obtain ⟨u,q,rfl⟩:=h.row_addr (ad:=ad) (M:=cellsOf Zd l) mm (nE 3)
   obtain ⟨t,r,rfl⟩:=h.row_addr (ad:=p) (M:=cellsOf Zd k) mm (nE 3)
   refine gC h<|au 0x125431917 ?_
   refine yE [0,1,2,3,4,5,6,7,8,9,10]<|au 0xe9f888 ?_;clear h
   refine Zf I kk I mm (cells_lt (k:=3) dd (fun _=>rfl) l i oo) isAgg178 sizeOf178 (Zg (k:=3) (fun _=>rfl) ((fun _=>rfl)) l (0,0,0) i oo) (.inl I) dd ?_
   refine au 0xe9f88 ?_
   refine Zf I kk I mm (cells_lt (k:=3) dd (fun _=>rfl) k i oo) isAgg178 sizeOf178 (Zg (k:=3) (fun _=>rfl) ((fun _=>rfl)) k (0,0,0) i oo) (.inl I) dd ?_
   refine Kt I kk (fs:=[]) (cs:=[]) I (vs:=[_,_]) I call176 (al (l.getD i (0,0,0))<|k.getD i (0,0,0)) ss dd ?_
   refine au 0x1bf ?_
   refine Ju (fun g  =>?_) (fun g  =>?_)
   ·refine au 0x625311ea ?_
    refine rtK ?_
    rw[VQ heq.symm m (nb_t g)]
   ·refine yn<|kF I<|zk<|zr<|zp (.pN (i+1)<|.add I I)<|au 0x24 ?_;intro a w h
    exact⟨i+1,⟨oo,fun j hj=>if e:j<i then d j e else by rw[show j=i from by omega];exact nb_f g,tO h⟩,oo⟩
  ·have n:l.length=i:=dF f
   subst n
   refine gC h<|au 0x625310e ?_
   refine rtK ?_
   rw[Tk heq.symm d]
theorem G3(K:Nat)(m:Ms)(c a b:Option Addr)(f e d:Nat)(hv:MV K m): Xo prog 72 [Qz m c a b f e d] [Row c (cellsOf encPt m.P),Row a (cellsOf Zd m.T),Row b (cellsOf Zd m.S)] (.bool true):=by
 refine fnI func72 I ntmps72 fun S w0 h=>zS (zx I fun g=>au 0x81f60f52f90f91f3125 ?_)
 refine zw [_,_] I call135 (K6 m.T m.P.length _ _<|Nat.le_trans hv.nT dd)<|za I<|zn<|zt<|rtK ?_
 rw[Rr hv.num];rfl
theorem H3(K:Nat)(m:Ms)(d b c:Option Addr)(j i g:Nat)(hv:MV K m): Ctr prog 40 [Qz m d b c j i g] [Row d (cellsOf encPt m.P),Row b (cellsOf Zd m.T),Row c (cellsOf Zd m.S)] (fun v Ψ => ∃ad,v=.slice ad (Za m.T).length (Za m.T).length∧Ψ=[Row ad (cellsOf Qp (Za m.T))]):=by
 refine fnI func40 I ntmps40 fun S w0 n=>zS (zx I fun k=>au 0xce31125 ?_)
 refine zw [_] I call72 (G3 K m _ _ _ _ _ _ hv)<|au 0x90f91f317d2a0f ?_
 refine zf [_] I call98 (bc m.P.length m.T _ _ hv.num hv.ne<|Nat.le_trans hv.nT dd) ?_;rintro l f ⟨e,rfl,rfl⟩
 refine au 0x625 ?_;intro a w h
 refine Qn (Ψ:=[Row e (cellsOf Qp<|Za m.T)]) h (Ze h I<|.tmp I) ?_ ss
 exact⟨_,rfl,rfl⟩
theorem aF(K:Nat)(m:Ms)(b a c:Option Addr)(e d h:Nat)(hv:MV K m): Xo prog 97 [Qz m b a c e d h] [Row b (cellsOf encPt m.P),Row a (cellsOf Zd m.T),Row c (cellsOf Zd m.S)] (.bool true):=by
 refine fnI func97 I ntmps97 fun S w0 j=>zS (zx I fun i=>za I<|zn<|zs<|yE [0,1,2,3,4,5,6,7,8]<|au 0xf0f7af ?_)
 refine au 0xde50f ?_
 refine au 0xb1f8af ?_
 refine yf [_,_] I I call142 (C_Rim m.P m.T a b d e hv.num hv.ne<|Nat.le_trans hv.nT dd) ?_;rintro v9 g ⟨f,rfl,rfl⟩
 refine yw [_,_,_] I I call175 (gz m.S (EO m.T) _ _ _ _<|Nat.le_trans hv.nS dd)<|au 0x6a3e ?_
 refine rtK ?_
 rw[jP hv.rim]
theorem MI(K:Nat)(m:Ms)(f c e:Option Addr)(n l k:Nat)(hv:MV K m)(i:K≤100000): Xo prog 38 [Qz m f c e n l k] [Row f (cellsOf encPt m.P),Row c (cellsOf Zd m.T),Row e (cellsOf Zd m.S)] (.int .i64 0):=by
 have j:=hv.nP
 have p:=hv.nT
 have o:=hv.nS
 refine fnI func38 I ntmps38 fun S w0 q=>zS (zx I fun j=>au 0x470f81f60f52f319125 ?_)
 refine bbF (fun g=>(by exfalso;have:=of_decide_eq_true g;omega)) fun g=>zq 8 I I (.fA I Cv)<|ldQ 8 Vb ?_
 refine zq 8 I I (.builtin [_] I<|Vn _ _ _)<|zq 8 I I (.gtr I I)<|au 0x44e ?_
 refine bbF (fun b=>(by exfalso;have:=of_decide_eq_true b;omega)) fun b=>zq 14 I I (.fA I IE)<|ldQ 14 Kz ?_
 refine zq 14 I I (.builtin [_] I<|Hj _ _ _)<|zq 14 I I (.gtr I I)<|au 0x54e ?_;intro a w h
 refine Zh h (fun d h=>(by exfalso;have:=of_decide_eq_true d;omega)) (fun d h=>?_)
 refine wpList_nil ?_
 refine cW ?_
 refine Zj h I ?_
 refine gC h<|au 0xce31 ?_
 refine zw [_] I call94 (nz K m _ _ _ _ _ _ hv i)<|au 0xce31d25a0f ?_
 refine zw [_] I call95 (nw K m _ _ _ _ _ _ hv i)<|au 0x4a0f ?_
 refine ldQ 28 Jk ?_;clear h;intro a w h
 refine Zq 28 h I I<|Jl h (vs:=[_]) I call96 (gJ K m _ _ _ _ _ _ hv i) ss dd ?_;clear h;intro a w h
 refine gL h<|zq 28 I I (Pure1.cast (v':=.bool false) (.unOp I<|Gg _) cgd)<|au 0x44e ?_
 refine ldQ 33 Jk ?_;clear h;intro a w h
 refine Zq 33 h I I<|Jl h (vs:=[_]) I call97 (aF K m _ _ _ _ _ _ hv) ss dd ?_;clear h;intro a w h
 refine gL h<|zq 33 I I (Pure1.cast (v':=.bool false) (.unOp I<|Gg _) cgd)<|au 0x625317d254e ?_
 refine rtK I
theorem nB(m k:Ms)(f d e:Option Addr)(t q s:Nat)(c i j:Option Addr)(n o l:Nat)(r:m.P.length≤1000000)(hT:m.T.length≤1000000)(p:m.S.length≤1000000): Xo prog 118 [Qz m f d e t q s,Qz k c i j n o l] [Row f (cellsOf encPt m.P),Row d (cellsOf Zd m.T),Row e (cellsOf Zd m.S),Row c (cellsOf encPt k.P),Row i (cellsOf Zd k.T),Row j (cellsOf Zd k.S)] (.bool (decide (m.P=k.P) && decide (m.T=k.T) && decide (m.S=k.S))):=by
 refine fnI func118 I ntmps118 fun S w0 x=>zS (zx I fun v=>zx I fun u=>au 0x60f52f60f52f3125 ?_)
 refine zw [_,_,_] I call209 (gA m.P k.P _ _ _ _ r)<|zm I ?_;intro a w h
 refine Zh h (fun b h=>?_) (fun b h=>?_)
 focus
  refine gL h<|zq 10 I I (.fA I Cv)<|ldQ 10 Vb ?_
  refine zq 10 I I (.fA I Cv)<|ldQ 10 Vb ?_;clear h;intro a w h
  refine Zq 10 h I I<|Jl h (vs:=[_,_,_]) I call211 (gv m.T k.T _ _ _ _ hT) ss dd ?_;clear h;intro a w h
  refine gL h<|au 0x42e ?_;clear h;intro a w h
  refine Zh h (fun g h=>?_) (fun g h=>?_)
  focus
   refine gL h<|zq 17 I I (.fA I IE)<|ldQ 17 Kz ?_
   refine zq 17 I I (.fA I IE)<|ldQ 17 Kz ?_;clear h;intro a w h
   refine Zq 17 h I I<|Jl h (vs:=[_,_,_]) I call175 (gw m.S k.S _ _ _ _ p) ss dd ?_;clear h;intro a w h
   refine gL h<|au 0x6252e ?_;clear h;intro a w h
  rotate_left
  focus
   refine gL h<|au 0x6254e12f12f12f12f12f ?_;clear h;intro a w h
 rotate_left 2
 focus
  refine gL h<|au 0x6254e12f12f12f12f12f44ed4fd4fd4fd4fd4f ?_;clear h;intro a w h
 all_goals
  refine Js h (Ze h I<|.tmp I) ?_
  clear h;simp only[smW_eq] at *;simp_all
end
section
theorem QB(h:Option Addr)(f a:Nat)(i:Option Addr)(c e:Nat)(g:Option Addr)(d b:Nat): RN (Instr.build 42 [(0,.slice h f a),(1,.slice i c e),(2,.slice g d b)].toArray) (.agg #[.slice h f a,.slice i c e,.slice g d b]):=fun w=>by simp[go_sem]
theorem NX{f:FuncId}{args:List Value}{Φ:List Zp}{m:Nat}{E:TypeId}{xs:List Value}(h:CtrO prog f args Φ (fun v b => ∃a d R,v=.slice (some ⟨a,0,none⟩) m d∧m≤d∧b=[(a,.cells (xs++R).toArray E (0,0))])):
  Ctr prog f args Φ (fun v Ψ => ∃ad c,v=.slice ad m c∧m≤c∧Ψ=[Row ad xs]):=by
 intro X w i g
 refine(h X w i g).mono ?_
 rintro e w' ⟨v,b,he,⟨a,d,R,rfl,hc,rfl⟩,k,o,hd⟩
 refine⟨_,[Row (some ⟨a,0,none⟩) xs],he,⟨_,d,rfl,hc,rfl⟩,k,fun p hR=>?_⟩
 rw[List.mem_singleton] at hR
 subst hR
 intro _
 obtain ⟨n,l⟩:=o _ (List.mem_singleton.2 rfl)
 exact⟨a,0,_,_,_,rfl,fun hx=>by have:=i a hx;simp only at n;omega,l,fun j hj=>by simp[List.getElem?_append_left hj]⟩
theorem nD(m:Ms)(j f g:Option Addr)(F D E:Nat)(L:0<m.P.length)(hT:0<m.T.length)(H:0<m.S.length)(nP:m.P.length≤1000000)(nT:m.T.length≤1000000)(nS:m.S.length≤1000000): Ctr prog 85 [Qz m j f g F D E] [Row j (cellsOf encPt m.P),Row f (cellsOf Zd m.T),Row g (cellsOf Zd m.S)] (fun v Ψ => ∃t u x,v=Qz m t u x m.P.length m.T.length m.S.length∧Ψ=[Row t (cellsOf encPt m.P),Row u (cellsOf Zd m.T),Row x (cellsOf Zd m.S)]):=by
 refine fn_intro func85 I ntmps85 nb ?_
 intro S w0 a K h
 obtain ⟨e,i,rfl⟩:=h.row_addr (ad:=j) (M:=cellsOf encPt m.P) mm (nE 10)
 obtain ⟨k,c,rfl⟩:=h.row_addr (ad:=f) (M:=cellsOf Zd m.T) mm (nE 3)
 obtain ⟨l,d,rfl⟩:=h.row_addr (ad:=g) (M:=cellsOf Zd m.S) mm (nE 3)
 refine gC h<|zS (zx I fun N=>zz zeroValue42 fun J=>zn<|zs<|yE [0,1,4,5,8,9,2,3,6,7,10,11,12,13]<|au 0xde50f ?_);clear h
 refine au 0xb1f8af ?_
 refine au 0xf0f7af ?_
 refine yf [_] I I call39 (NX<|OA e i _ m.P oo) ?_;rintro v5 z ⟨n,B,rfl,r,rfl⟩
 refine yv [_] I I call45 (H5 n _ B r)<|yf [_] I I call141 (NX<|Oz k c _ m.T oo) ?_;rintro v9 C ⟨p,G,rfl,s,rfl⟩
 refine yv [_] I I call140 (SO p _ G s)<|yf [_] I I call155 (NX<|bI l d _ m.S oo) ?_;rintro A y ⟨b,q,rfl,o,rfl⟩
 refine yv [_] I I call154 (SQ b _ q o)<|yp I (.build [(_,_),(_,_),(_,_)] I<|QB _ _ _ _ _ _ _ _ _)<|stV I I I Qg ?_
 refine yn<|zt ?_;intro a w h
 refine Qn (Ψ:=[Row n (cellsOf encPt m.P),Row p (cellsOf Zd m.T),Row b (cellsOf Zd m.S)]) h (Ze h I<|rC Jk) ?_ ss
 exact⟨_,_,_,rfl,rfl⟩
theorem Uv(K:Nat)(m:Ms)(o n p:Option Addr)(C y B i:Nat)(D:i<m.T.length)(hv:MV K m): Xo prog 124 [Qz m o n p C y B,.int .i64 ((i:Nat):Int)] [Row o (cellsOf encPt m.P),Row n (cellsOf Zd m.T),Row p (cellsOf Zd m.S)] (.tuple #[encPt (pt m (m.T.getD i (0,0,0)).1),encPt (pt m (m.T.getD i (0,0,0)).2.1),encPt (pt m (m.T.getD i (0,0,0)).2.2)]):=by
 obtain ⟨A,z,x,_,_,_⟩:=Xz.1 (hv.num _ (getD_mem m.T (d:=(0,0,0)) D))
 have L:=hv.nP
 have v:=hv.nT
 refine fn_intro func124 I ntmps124 nb ?_
 intro S w0 a E h
 obtain ⟨r,s,rfl⟩:=h.row_addr (ad:=o) (M:=cellsOf encPt m.P) mm (nE 10)
 obtain ⟨u,q,rfl⟩:=h.row_addr (ad:=n) (M:=cellsOf Zd m.T) mm (nE 3)
 refine gC h<|zS (zx I fun v=>zz Xv fun G=>zz Xv fun J=>zz Xv fun F=>au 0xc43112 ?_)
 refine bbF (fun g=>(by exfalso;have:=of_decide_eq_true g;omega)) fun g=>zm I<|zq 11 I I (.move I)<|zq 11 I I (.fA I Cv)<|ldQ 11 Vb ?_
 refine zq 11 I I (.builtin [_] I<|Vn _ _ _)<|zq 11 I I (.geq I I)<|au 0x4e ?_;clear h;intro a w h
 refine Zh h (fun j h=>(by exfalso;have:=of_decide_eq_true j;omega)) (fun j h=>?_)
 refine wpList_nil ?_
 refine cW ?_
 refine Zj h I ?_
 refine gC h<|zk<|zs<|yF [0,1,2,3,4,5,6,7,8,9,10]<|au 0xb1f8af ?_;clear h
 refine au 0xf5f8 ?_
 refine Zf I kk I mm (cells_lt (k:=3) dd (fun _=>rfl) m.T i oo) isAgg127 sizeOf127 (Zg (k:=3) (fun _=>rfl) ((fun _=>rfl)) m.T (0,0,0) i oo) (.inl I) dd ?_
 refine au 0x50f ?_
 refine Qx [] I kk I mr isAgg38 sizeOf38 Bn (fun _ _ _ _ _ ht=>nomatch ht) dd ?_
 refine au 0x47f ?_
 refine yz I A3 fun H=>stV I I I Qg ?_
 refine au 0x460f57f311a3e ?_
 refine zv [_,_] I call165 (Gl ((m.T.getD i (0,0,0)).1) m.P.length)<|au 0x20f ?_
 refine bbF (fun f=>(by exfalso;rw[decide_eq_true A] at f;cases f)) fun f=>zm I<|zq 34 I I (.indexAddr I I<|Yu _ _)<|ldQ 34 Vb ?_
 refine zq 34 I I (.move I) ?_;intro a w h
 refine Zq 34 h I I<|Qw h (vs:=[_,_]) I call165 (Gl ((m.T.getD i (0,0,0)).2.1) m.P.length) dd ?_;clear h;intro a w h
 refine gL h<|zq 34 I I (.unOp I<|Gg _) (bbF (fun c=>(by exfalso;rw[decide_eq_true z] at c;cases c)) fun c=>au 0x44e ?_)
 refine zq 41 I I (.indexAddr I I<|Yt _ _)<|ldQ 41 Kz ?_
 refine zq 41 I I (.move I) ?_;clear h;intro a w h
 refine Zq 41 h I I<|Qw h (vs:=[_,_]) I call165 (Gl ((m.T.getD i (0,0,0)).2.2) m.P.length) dd ?_;clear h;intro a w h
 refine gL h<|zq 41 I I (.unOp I<|Gg _) (bbF (fun e=>(by exfalso;rw[decide_eq_true x] at e;cases e)) fun e=>au 0x17d24e ?_)
 refine yE [0,1,2,3,4,5,6,7,8,9,10,11,12,13,14,15,16,17,18,19,20]<|au 0xde50f ?_;clear h
 refine au 0xdea3f ?_
 refine au 0xd1f ?_
 refine Zf I kk I mm (cells_lt (k:=10) dd (fun _=>rfl) m.P ((m.T.getD i (0,0,0)).1) oo) isAgg119 sizeOf119 (Zg (k:=10) (fun _=>rfl) ((fun _=>rfl)) m.P (0,0) ((m.T.getD i (0,0,0)).1) oo) (.inl I) dd ?_
 refine au 0x50f ?_
 refine Qx [4] I kk I mr isAgg38 sizeOf38 Bn (fun a w l b=>by intro t ht;simp only[List.mem_cons,List.not_mem_nil,or_false] at ht;rcases ht with rfl<;>exact⟨_,rfl,by have h1:=(List.pairwise_append.1 b.nd).2.1;simp at h1;dsimp only;omega⟩) dd ?_
 refine au 0x93f ?_
 refine Qx [4] I kk I mr isAgg3 sizeOf3 Vb (fun a w l b=>by intro t ht;simp only[List.mem_cons,List.not_mem_nil,or_false] at ht;rcases ht with rfl<;>exact⟨_,rfl,by have h1:=(List.pairwise_append.1 b.nd).2.1;simp at h1;dsimp only;omega⟩) dd ?_
 refine au 0xd1f ?_
 refine Kn [4] I kk I mm (cells_lt (k:=10) dd (fun _=>rfl) m.P ((m.T.getD i (0,0,0)).2.1) oo) isAgg119 sizeOf119 (Zg (k:=10) (fun _=>rfl) ((fun _=>rfl)) m.P (0,0) ((m.T.getD i (0,0,0)).2.1) oo) (.inl I) (fun t ht=>by simp only[List.mem_cons,List.not_mem_nil,or_false] at ht;rcases ht with rfl<;>exact⟨_,rfl,_,by repeat(first|exact List.Mem.head _|apply List.Mem.tail)⟩) dd ?_
 refine au 0x50f ?_
 refine Qx [4,5] I kk I mr isAgg38 sizeOf38 Bn (fun a w l b=>by intro t ht;simp only[List.mem_cons,List.not_mem_nil,or_false] at ht;rcases ht with rfl|rfl<;>exact⟨_,rfl,by have h1:=(List.pairwise_append.1 b.nd).2.1;simp at h1;dsimp only;omega⟩) dd ?_
 refine au 0x83f ?_
 refine Qx [4,5] I kk I mr isAgg3 sizeOf3 Kz (fun a w l b=>by intro t ht;simp only[List.mem_cons,List.not_mem_nil,or_false] at ht;rcases ht with rfl|rfl<;>exact⟨_,rfl,by have h1:=(List.pairwise_append.1 b.nd).2.1;simp at h1;dsimp only;omega⟩) dd ?_
 refine au 0xd1f ?_
 refine Kn [4,5] I kk I mm (cells_lt (k:=10) dd (fun _=>rfl) m.P ((m.T.getD i (0,0,0)).2.2) oo) isAgg119 sizeOf119 (Zg (k:=10) (fun _=>rfl) ((fun _=>rfl)) m.P (0,0) ((m.T.getD i (0,0,0)).2.2) oo) (.inl I) (fun t ht=>by simp only[List.mem_cons,List.not_mem_nil,or_false] at ht;rcases ht with rfl|rfl<;>exact⟨_,rfl,_,by repeat(first|exact List.Mem.head _|apply List.Mem.tail)⟩) dd ?_
 refine stV I I I Qb ?_
 refine stV I I I Qb ?_
 refine stV I I I Qb ?_
 refine yn<|zt ?_;intro a w h
 refine Js h (Ah h I (rC Xi) (rC Xi)<|rC Xi) ?_
 rfl
end
section
theorem K2(a b:Int): RN (Instr.build 125 [(0,.int .i64 a),(1,.int .i64 b)].toArray) (.agg #[.int .i64 a,.int .i64 b]):=fun w=>by simp[go_sem]
theorem GY(a b:Int): RN (Instr.build 161 [(0,.int .i64 a),(1,.int .i64 b)].toArray) (.agg #[.int .i64 a,.int .i64 b]):=fun w=>by simp[go_sem]
theorem Um(a b:Int): RN (Instr.build 224 [(0,.int .i64 a),(1,.int .i64 b)].toArray) (.agg #[.int .i64 a,.int .i64 b]):=fun w=>by simp[go_sem]
theorem ie(x:Rat)(hx:Zn x≤10000): Ji prog 442 [Qe x] (Qe (x*x)):=by
 refine fnI func442 I ntmps442 fun S w0 d=>zS (zx I fun c=>zz Xl fun e=>au 0xb9f6e6e312 ?_);intro a w h
 have b:=Qh (x) (x)
 refine gL h<|stW I I Zi ?_
 refine zn<|zt ?_;clear h;intro a w h
 refine Js h (Ze h I<|rC Zx) ?_
 rfl
theorem nq:Ji prog 101 [] (Qe (((1:Int):Rat)/((2:Int):Rat))):=by
 refine fnI func101 I ntmps101 fun S w0 e=>zS (zz Xl fun d=>au 0x05f312 ?_);intro a w h
 have b:=Ks (1) (2) oo oo oo oo
 refine gL h<|au 0xbb4 ?_
 refine zz Xl fun c=>stW I I Zi ?_
 refine au 0x6e3125 ?_
 refine stW I I Zi ?_
 refine zn<|zt ?_;clear h;intro a w h
 refine Js h (Ze h I<|rC Zx) ?_
 rfl
theorem jr(x y:Pt)(hx:PtK 1000 x)(d:PtK 1000 y): Ji prog 41 [encPt x,encPt y] (encPt ((x.1+y.1)*(((1:Int):Rat)/((2:Int):Rat)),(x.2+y.2)*(((1:Int):Rat)/((2:Int):Rat)))):=by
 obtain ⟨e,i⟩:=hx
 obtain ⟨f,g⟩:=d
 have m:Zn (((1:Int):Rat)/((2:Int):Rat))≤4:=Ks 1 2 dd dd dd dd
 refine fnI func41 I ntmps41 fun S w0 l=>zS (zx I fun k=>zx I fun j=>zz Xv fun n=>au 0x8e8e312 ?_)
 refine zv [_,_] I call100 (nl x y oo oo oo oo) ?_
 have b:=TS x y
 have b:=TQ x y
 refine zv [] I call101 (nq)<|zv [_,_] I call99 (am (addP x y) (((1:Int):Rat)/((2:Int):Rat)) oo oo oo) ?_
 have c:=TN (addP x y) (((1:Int):Rat)/((2:Int):Rat))
 have c:=TM (addP x y) (((1:Int):Rat)/((2:Int):Rat))
 refine stW I I Qb ?_
 refine zn<|zt ?_;intro a w h
 refine Js h (Ze h I<|rC Xi) ?_
 rfl
theorem QH(x y:Nat): Ji prog 42 [.int .i64 ((x:Nat):Int),.int .i64 ((y:Nat):Int)] (Zy (Zo x y)):=by
 refine fnI func42 I ntmps42 fun S w0 c=>zS (zz zeroValue125 fun b=>au 0x44312 ?_)
 refine zp (.builtin [_,_] I (fun w ty cs=>BH _ _ w ty cs))<|zm I<|zm I<|zp (.builtin [_,_] I (fun w ty cs=>CC _ _ w ty cs))<|au 0x35f ?_
 refine stW I I Zt ?_
 refine zn<|zt ?_;intro a w h
 refine Js h (Ze h I<|rC Qr) ?_
 rfl
theorem bj(x y:Nat): Ji prog 78 [.int .i64 ((x:Nat):Int),.int .i64 ((y:Nat):Int)] (Zy (Zo x y)):=by
 refine fnI func78 I ntmps78 fun S w0 c=>zS (zz zeroValue161 fun b=>au 0x44312 ?_)
 refine zp (.builtin [_,_] I (fun w ty cs=>BH _ _ w ty cs))<|zm I<|zm I<|zp (.builtin [_,_] I (fun w ty cs=>CC _ _ w ty cs))<|zp (.build [(_,_),(_,_)] I<|GY _ _)<|stW I I Zt ?_
 refine zn<|zt ?_;intro a w h
 refine Js h (Ze h I<|rC Qr) ?_
 rfl
theorem ak(x y:Nat): Ji prog 139 [.int .i64 ((x:Nat):Int),.int .i64 ((y:Nat):Int)] (Zy (Zo x y)):=by
 refine fnI func139 I ntmps139 fun S w0 c=>zS (zz zeroValue224 fun b=>au 0x44312 ?_)
 refine zp (.builtin [_,_] I (fun w ty cs=>BH _ _ w ty cs))<|zm I<|zm I<|zp (.builtin [_,_] I (fun w ty cs=>CC _ _ w ty cs))<|zp (.build [(_,_),(_,_)] I<|Um _ _)<|stW I I Zt ?_
 refine zn<|zt ?_;intro a w h
 refine Js h (Ze h I<|rC Qr) ?_
 rfl
theorem HZ(m:Ms)(d b c:Option Addr)(g f e p:Nat)(h:p<m.P.length): Ji prog 138 [Qz m d b c g f e,.int .i64 ((p:Nat):Int)] (.bool true):=by
 refine fnI func138 I ntmps138 fun S w0 j=>zS (zx I fun i=>au 0x40f43125 ?_)
 refine bbT (fun a=>(absurd (of_decide_eq_false a) oo)) fun a=>au 0x08f4 ?_
 refine zq 7 I I (.fA I GM)<|ldQ 7 Bn ?_
 refine zq 7 I I (.builtin [_] I<|C7 _ _ _)<|au 0x6252e2bf ?_
 refine rtK ?_
 rw[decide_eq_true oo]
theorem C_Has(t:Nat×Nat×Nat)(p:Nat): Ji prog 153 [Zd t,.int .i64 ((p:Nat):Int)] (.bool (HM t p)):=by
 refine fnI func153 I ntmps153 fun S w0 d=>zS (zx I fun e=>au 0x00f460f57f3125 ?_);intro a w h
 refine Zh h (fun c h=>?_) (fun c h=>?_)
 focus
  refine gL h<|au 0x6252e44f44f44f44f42ee5fe5fe5fe5f4 ?_;clear h;intro a w h
 rotate_left
 focus
  refine gL h<|zm I<|zq 9 I I (.indexAddr I I<|Yu _ _)<|ldQ 9 Vb ?_
  refine zq 9 I I (.move I)<|zq 9 I I (.eql I I)<|au 0x4e ?_;clear h;intro a w h
  refine Zh h (fun b h=>?_) (fun b h=>?_)
  focus
   refine gL h<|au 0x6252e44f44f44f44f4 ?_;clear h;intro a w h
  rotate_left
  focus
   refine gL h<|zm I<|zq 15 I I (.indexAddr I I<|Yt _ _)<|ldQ 15 Kz ?_
   refine zq 15 I I (.move I)<|zq 15 I I (.eql I I)<|au 0x6254e ?_;clear h;intro a w h
 all_goals
  refine Js h (Ze h I<|.tmp I) ?_
  clear h;simp[HM,beqN] at *;simp[*]
theorem C_Max1(c:Int): Ji prog 227 [.int .i64 c] (.bool (decide (c>0))):=by
 refine fnI func227 I ntmps227 fun S w0 a=>au 0x62570f4312531 ?_
 refine rtK I
end
section
theorem IC{b off:Nat}: RN (Instr.fieldAt 57 (.pointer (some ⟨b,off,none⟩)) 1) (.pointer (some ⟨b,off+3,none⟩)):=fun w=>by
 simp[go_sem]
theorem Ej{c0 c1 c2 q s r t u v w o g m h l n a e k c j f i d p b:Value}: Zk false 1 #[c0,c1,c2,q,s,r,t,u,v,w,o,g,m,h,l,n,a,e,k,c,j,f,i,d,p,b] 3=some q:=rfl
theorem LW{b off:Nat}: RN (Instr.fieldAt 57 (.pointer (some ⟨b,off,none⟩)) 2) (.pointer (some ⟨b,off+4,none⟩)):=fun w=>by
 simp[go_sem]
theorem Tw{c0 c1 c2 w r q s t u v i c g d f h a b e k o m n l p j:Value}: Zk true 15 #[c0,c1,c2,w,r,q,s,t,u,v,i,c,g,d,f,h,a,b,e,k,o,m,n,l,p,j] 4=some (.agg #[r,q,s,t,u,v,i,c,g,d,f,h,a,b,e]):=by kernel_rfl
theorem PS{b off:Nat}: RN (Instr.fieldAt 57 (.pointer (some ⟨b,off,none⟩)) 3) (.pointer (some ⟨b,off+19,none⟩)):=fun w=>by
 simp[go_sem]
theorem J4{c0 c1 c2 w r q s t u v o i m j l n f h k a e c d b p g:Value}: Zk true 5 #[c0,c1,c2,w,r,q,s,t,u,v,o,i,m,j,l,n,f,h,k,a,e,c,d,b,p,g] 19=some (.agg #[a,e,c,d,b]):=rfl
structure Pl where
 a:Option Addr
 l:List Tm
 c:Nat
abbrev pl0:Pl:=⟨none,[],0⟩
abbrev Ys(p:Pl): Value:=.slice p.a p.l.length p.c
structure Gv where
 mark:Nat
 fix:Bool
 v:Pl
 x:Pl
 y:Pl
abbrev gv0:Gv:=⟨0,false,pl0,pl0,pl0⟩
abbrev Jg(g:Gv): Value:=.agg #[.int .i64 ((g.mark:Nat):Int),.bool g.fix,Ys g.v,Ys g.x,Ys g.y]
def Qu:List Gv→List Zp
 | []=>[]
 | g::l=>Row g.v.a (cellsOf Zz g.v.l)::Row g.x.a (cellsOf Zz g.x.l)::Row g.y.a (cellsOf Zz g.y.l)::Qu l
theorem A6{l:List Gv}{i:Nat}(h:i<l.length): Row (l.getD i gv0).v.a (cellsOf Zz (l.getD i gv0).v.l)∈Qu l∧Row (l.getD i gv0).x.a (cellsOf Zz (l.getD i gv0).x.l)∈Qu l∧Row (l.getD i gv0).y.a (cellsOf Zz (l.getD i gv0).y.l)∈Qu l:=by
 induction l generalizing i with
 | nil=>exact absurd h (Nat.not_lt_zero _)
 | cons g l b =>
  cases i with
  | zero=>simp[Qu]
  | succ i =>
   have:=b (i:=i) (by simpa using h)
   simp only[List.getD_cons_succ,Qu,List.mem_cons]
   exact⟨.inr (.inr (.inr this.1)),.inr (.inr (.inr this.2.1)),.inr (.inr (.inr this.2.2))⟩
theorem EC(w:World): (zeroValue 104).run prog w=.ok (Jg gv0) w:=zeroValue104 w
structure Pr where
 m:Ms
 o:Nat
 k0:Rat
 k1:Rat
 k2:Rat
 c:Rat
 f:Pl
 G:List Gv
abbrev Xf(p:Pr)(adP adT adS adG:Option Addr)(cP cT cS cG:Nat): Value:=.agg #[.slice adP p.m.P.length cP,.slice adT p.m.T.length cT,.slice adS p.m.S.length cS,.int .i64 ((p.o:Nat):Int),.int .u64 (Xr p.k0.num.natAbs),.string (Xa p.k0.num.natAbs),.bool (decide (p.k0.num<0)),.int .u64 (Xr (p.k0.den-1)),.string (Xa (p.k0.den-1)),.int .u64 (Xr p.k1.num.natAbs),.string (Xa p.k1.num.natAbs),.bool (decide (p.k1.num<0)),.int .u64 (Xr (p.k1.den-1)),.string (Xa (p.k1.den-1)),.int .u64 (Xr p.k2.num.natAbs),.string (Xa p.k2.num.natAbs),.bool (decide (p.k2.num<0)),.int .u64 (Xr (p.k2.den-1)),.string (Xa (p.k2.den-1)),.int .u64 (Xr p.c.num.natAbs),.string (Xa p.c.num.natAbs),.bool (decide (p.c.num<0)),.int .u64 (Xr (p.c.den-1)),.string (Xa (p.c.den-1)),.slice p.f.a p.f.l.length p.f.c,.slice adG p.G.length cG]
theorem UJ(k0 k1 k2:Rat)(h:Zn k0≤1000)(h1:Zn k1≤1000)(e:Zn k2≤1000)(d:0<k0)(hd:k1*k1<k0*k2): Ji prog 349 [.agg ((Value.cells (Qe (k0)))++(Value.cells (Qe (k1)))++(Value.cells (Qe (k2))))] (.bool true):=by
 refine fnI func349 I ntmps349 fun S w0 g=>zS (zx I fun f=>za I<|zn<|zs<|yE [0,1,2,3,4,5,6,7,8,10,11,9,12,13,14,15,16]<|au 0xdbf3cf ?_)
 refine yv [_] I I call7 (Dq _)<|yp I (.gtr I I) ?_
 refine Ju (fun a  =>?_) (fun a  =>(by exfalso;exact absurd a (by rw[decide_eq_true ((Ag _).2 d)];decide)))
 refine au 0x8 ?_
 refine yq I I I (.indexAddr I I<|HL _ _)<|yg I I I I mr isAgg51 sizeOf51 If ?_
 refine yq I I I (.indexAddr I I<|E0 _ _)<|yg I I I I mr isAgg51 sizeOf51 Gw ?_
 refine yq I I I (.indexAddr I I<|E1 _ _)<|yg I I I I mr isAgg51 sizeOf51 EQ ?_
 refine Xk I I I kk (vs:=[_,_]) I call54 (SN _ _ oo oo) dd ?_
 have c:=Qh (k0) (k2)
 refine Xk I I I kk (vs:=[_]) I call442 (ie k1 oo) dd ?_
 have b:=Qh k1 k1
 refine Xk I I I kk (vs:=[_,_]) I call9 (Ht (k0*k2) (k1*k1) oo oo) dd ?_
 refine yq I I I (.gtr I I)<|au 0x6a3e56f ?_
 refine rtK ?_
 congr 1;exact decide_eq_true ((Ag _).2 (by grind))
theorem Us(p:Pr)(n i k j:Option Addr)(v s r t:Nat)(ho:p.o=1∨p.o=2)(u:Zn p.k0≤1000)(h1:Zn p.k1≤1000)(q:Zn p.k2≤1000)(x:0<p.k0)(hd:p.k1*p.k1<p.k0*p.k2)(A:Zn p.c≤1000)(hc:0≤p.c): Xo prog 268 [Xf p n i k j v s r t] [Row n (cellsOf encPt p.m.P),Row i (cellsOf Zd p.m.T),Row k (cellsOf Zd p.m.S),Row p.f.a (cellsOf Zz p.f.l),Row j (cellsOf Jg p.G),Yi (Qu p.G)] (.int .i64 0):=by
 refine fnI func268 I ntmps268 fun S w0 z=>zS (zx I fun y=>au 0xdaf31125 ?_)
 refine ldZ Ej ?_
 refine au 0x62f ?_;intro a w h
 refine Zh h (fun d h=>?_) (fun d h=>?_)
 focus
  refine gL h<|zm I<|zq 6 I I (.fA I IC)<|ldQ 6 Ej ?_
  refine zq 6 I I (.neq I I) (bbF (fun g=>(by exfalso;rcases ho with e|e<;>rw[e] at d g<;>simp at d g)) fun g=>au 0x42e ?_)
  refine zq 11 I I (.fA I LW) ?_;clear h;intro a w h
 rotate_left
 focus
  refine gL h<|au 0x44ee4fe4fe4f4 ?_
  refine zq 11 I I (.fA I LW) ?_;clear h;intro a w h
 all_goals
  refine gL h<|ldQ 11 Tw ?_;clear h;intro a w h
  refine Zq 11 h I I<|Qw h (vs:=[_]) I call349 (UJ p.k0 p.k1 p.k2 u h1 q x hd) dd ?_;clear h;intro a w h
  refine gL h<|zq 11 I I (Pure1.cast (v':=.bool false) (.unOp I<|Gg _) cgd)<|au 0x44e ?_
  refine zq 17 I I (.fA I PS)<|ldQ 17 J4 ?_;clear h;intro a w h
  refine Zq 17 h I I<|Qw h (vs:=[_]) I call7 (Dq _) dd ?_;clear h;intro a w h
  refine gL h<|zq 17 I I (.lss I I) (bbF (fun b=>(by exfalso;have:=of_decide_eq_true b;have:=(FV p.c).1 this;grind)) fun b=>au 0x625317d24e ?_)
  refine rtK I
theorem Ut(p:Pr)(h d g e:Option Addr)(n k i j:Nat)(ho:p.o=3): Xo prog 268 [Xf p h d g e n k i j] [Row h (cellsOf encPt p.m.P),Row d (cellsOf Zd p.m.T),Row g (cellsOf Zd p.m.S),Row p.f.a (cellsOf Zz p.f.l),Row e (cellsOf Jg p.G),Yi (Qu p.G)] (.int .i64 1):=by
 refine fnI func268 I ntmps268 fun S w0 r=>zS (zx I fun q=>au 0xdaf31125 ?_)
 refine ldZ Ej ?_
 refine zp (.neq I I) (bbT (fun b=>(by exfalso;rw[ho] at b;cases b)) fun b=>zm I<|zq 6 I I (.fA I IC)<|ldQ 6 Ej ?_)
 refine zq 6 I I (.neq I I) (bbT (fun c=>(by exfalso;rw[ho] at c;cases c)) fun c=>au 0x42e ?_)
 refine zo 11 I I I<|zo 11 I I I<|zo 11 I I I<|zo 11 I I I<|au 0x625311e22e12f12f12f12f42e ?_
 refine rtK I
end
section
theorem RJ(b off n c j:Nat)(h:j<n): RN (Instr.indexAt 145 (.slice (some ⟨b,off,none⟩) n c) (.int .i64 (j:Int))) (.pointer (some ⟨b,off+j,none⟩)):=fun w=>by
 simpa using Qd runUnderlying145 sizeOf54 b off n c j h w
theorem PR{b off:Nat}: RN (Instr.fieldAt 57 (.pointer (some ⟨b,off,none⟩)) 4) (.pointer (some ⟨b,off+24,none⟩)):=fun w=>by
 simp[go_sem]
theorem Q7{c0 c1 c2 w r q s t u v p h n i m o b f l d k g j e a c:Value}: Zk false 1 #[c0,c1,c2,w,r,q,s,t,u,v,p,h,n,i,m,o,b,f,l,d,k,g,j,e,a,c] 24=some a:=rfl
theorem GT(c:Option Addr)(a b:Nat)(w:World): (Instr.buildSlice 145 1 [(0,.slice c a b)].toArray).run prog w=.ok (.slice (some ⟨w.heap.size,0,none⟩) 1 1) (w.alloc (.cells #[.slice c a b] 54 (0,0))):=by
 simp[go_sem]
abbrev Yo(q:Pl): Zp:=Row q.a (cellsOf Zz q.l)
def GdPl(q:Pl): Prop:=Pq 8 100000000 q.l
theorem GdPl.deg{q:Pl}(h:GdPl q): bW (norm q.l)≤8:=IJ (Jr (Pq.deg (d:=8) (K:=100000000) h))
theorem C_deg1(q:Pl)(hq:GdPl q): Xo prog 444 [Ys q] [Yo q] (.bool false):=by
 refine fnI func444 I ntmps444 fun S w0 a=>au 0x4312531 ?_
 refine zw [_] I call215 (FP q.l _ _ 8 100000000 hq dd dd)<|au 0x62570f ?_
 refine rtK ?_
 congr 1;exact decide_eq_false (by have:=hq.deg;omega)
theorem C_IxPl(l:List Pl)(ad:Option Addr)(c:Nat)(p:l.length≤1000000)(n:∀q∈l,GdPl q): Xo prog 520 [.slice ad l.length c,.func (.func 444) #[] #[]] [Row ad (List.map Ys l),Yi (l.map Yo)] (.int .i64 (-1)):=by
 refine fnI func520 I ntmps520 fun S w0 o=>au 0x924ebf43112531 ?_;intro a w h
 refine lpG h [0,1,7] pkL (fun Y Z (i:Nat) a w=>i≤l.length∧St 19 S w0 ((8,nI i)::Y) [] Z a w) (fun i=>l.length-i) 0 (⟨Nat.zero_le _,by exact(h).sub sA⟩) ?_;clear h
 rintro i a w ⟨k,h⟩
 refine gC h<|au 0x12c31 ?_;intro a w h
 refine Zb h I (fun g=>?_) (fun g=>?_)
 ·have b:i<l.length:=dT g
  obtain ⟨m,j,rfl⟩:=h.row_addr (ad:=ad) (M:=List.map Ys l) mm nF
  replace h:=h.pickR (l:=l.map Yo) mm (List.mem_map.2 ⟨_,getD_mem l (d:=pl0) b,rfl⟩)
  refine gC h<|au 0x4443125431917 ?_
  refine zp (.indexAddr I I<|RJ _ _ _ _ _ oo)<|zD I mm (by rw[List.length_map];omega) isAgg54 sizeOf54 (Zr (enc:=Ys) (l:=l) pl0 oo) (.inr I) ?_;clear h;intro a w h
  refine Zc<|Xm h (fs:=[]) (cs:=[]) I (vs:=[_]) I call444 (C_deg1 (l.getD i pl0)<|n _<|getD_mem l b) ss dd ?_;clear h;intro a w h
  refine Zh h (fun e h=>(by exfalso;cases e)) (fun e h=>?_)
  refine wpList_nil ?_
  refine cW ?_
  refine Zj h I ?_
  refine gC h<|zk<|zr<|zp (.pN (i+1)<|.add I I)<|au 0x24 ?_;clear h;intro a w h
  exact⟨i+1,⟨oo,tO h⟩,oo⟩
 ·have f:l.length=i:=dF g
  subst f
  refine gC h<|au 0x625310e ?_
  refine rtK I
theorem C_CfPl(l:List Pl)(ad:Option Addr)(c:Nat)(b:l.length≤1000000)(a:∀q∈l,GdPl q): Xo prog 443 [.slice ad l.length c,.func (.func 444) #[] #[]] [Row ad (List.map Ys l),Yi (l.map Yo)] (.bool false):=by
 refine fnI func443 I ntmps443 fun S w0 d=>au 0x44312531 ?_
 refine zw [_,_] I call520 (C_IxPl l _ _ b a)<|au 0x62540f ?_
 refine rtK I
theorem Ov(l:List Pl)(ad:Option Addr)(c:Nat)(e:l.length≤1000000)(d:∀q∈l,GdPl q): Xo prog 350 [.slice ad l.length c] [Row ad (List.map Ys l),Yi (l.map Yo)] (.int .i64 0):=by
 refine fnI func350 I ntmps350 fun S w0 f=>au 0x43112531 ?_
 refine zw [_,_] I call443 (C_CfPl l _ _ e d) ?_;intro a w h
 refine Zh h (fun b h=>(by exfalso;cases b)) (fun b h=>?_)
 refine wpList_nil ?_
 refine cW ?_
 refine Zj h I ?_
 refine gC h<|au 0x625317 ?_
 refine rtK I
theorem ap(p:Pr)(e b d c:Option Addr)(n i g j:Nat)(hf:GdPl p.f): Xo prog 269 [Xf p e b d c n i g j] [Row e (cellsOf encPt p.m.P),Row b (cellsOf Zd p.m.T),Row d (cellsOf Zd p.m.S),Row p.f.a (cellsOf Zz p.f.l),Row c (cellsOf Jg p.G),Yi (Qu p.G)] (.int .i64 0):=by
 refine fnI func269 I ntmps269 fun S w0 k=>zS (zx I fun q=>za I<|zn<|zS<|zp (.fA I PR)<|ldZ Q7 ?_)
 refine zB [(_,_)] I (GT _ _ _) fun o=>?_;intro a w h
 replace h:=h.shareAll k (List.map Ys [p.f]) I
 replace h:=h.gatherR (l:=[p.f].map Yo) ss
 refine gL h<|zw [_] I call350 (Ov [p.f] _ _ ss (by simpa using hf))<|za I<|zn<|zt<|rtK I
end
section
theorem Fi{b off:Nat}: RN (Instr.fieldAt 104 (.pointer (some ⟨b,off,none⟩)) 0) (.pointer (some ⟨b,off+0,none⟩)):=fun w=>by
 simp[go_sem]
theorem M7{c0 c1 c2 a b:Value}: Zk false 1 #[c0,c1,c2,a,b] 0=some c0:=rfl
theorem ND(a:Option Addr)(n c:Nat)(w:World)(ty:TypeId)(cs:Array Bool): (Go.builtin .len #[55] ty cs #[.slice a n c]).run prog w=.ok (.value (.int .i64 n)) w:=by
 simp[go_sem]
theorem ix_55(b off n c j:Nat)(h:j<n): RN (Instr.indexAt 55 (.slice (some ⟨b,off,none⟩) n c) (.int .i64 (j:Int))) (.pointer (some ⟨b,off+j*5,none⟩)):=fun w=>by
 simpa using Qd runUnderlying55 sizeOf104 b off n c j h w
theorem PQ{b off:Nat}: RN (Instr.fieldAt 57 (.pointer (some ⟨b,off,none⟩)) 5) (.pointer (some ⟨b,off+25,none⟩)):=fun w=>by
 simp[go_sem]
theorem Q6{c0 c1 c2 w r q s t u v o g m h l n b e k c j f i d p a:Value}: Zk false 1 #[c0,c1,c2,w,r,q,s,t,u,v,o,g,m,h,l,n,b,e,k,c,j,f,i,d,p,a] 25=some a:=rfl
theorem gg: RN (Instr.build 104 [].toArray) (.agg #[.int .i64 0,.bool false,.slice none 0 0,.slice none 0 0,.slice none 0 0]):=fun w=>by simp[go_sem]
theorem mk_ib:MK prog 482 3 4 Qi (Fj false):=MK.ofInt (q:=.i64) (f:=fun x:Nat=>(x:Int)) runUnderlying482 zeroValue4 runUnderlying3 (fun x y h=>by omega)
abbrev ixG(G:List Gv)(n:Nat): Int:=Cs (fun g=>((g.mark:Nat):Int) == ((n:Nat):Int)) G 0
def Kv(G:List Gv)(n:Nat): Gv×Bool:=if ixG G n<0 then (gv0,false) else (G.getD (ixG G n).toNat gv0,true)
theorem LQ{G:List Gv}{n:Nat}(h:ixG G n<0): Kv G n=(gv0,false):=if_pos h
theorem Fg{G:List Gv}{n i:Nat}(h:ixG G n=(i:Int)): Kv G n=(G.getD i gv0,true):=by unfold Kv;rw[h,if_neg oo];rfl
theorem ixG_lt(G:List Gv)(n:Nat): ixG G n<((G.length:Nat):Int):=PN _ G 0
def FW(G:List Gv): Nat→List (Nat×Bool)
 | 0=>[]
 | i+1=>Kl (FW G i) (G.getD i gv0).mark true
theorem YP{m:List (Nat×Bool)}{x:Nat}(h:Zu m x=none): ∀y,(x,y)∉m:=by
 induction m with
 | nil=>intro y a;cases a
 | cons p r b =>
  intro y a
  unfold Zu at h
  split at h
  ·cases h
  ·rename_i c
   rcases List.mem_cons.1 a with e|hm
   ·exact c (by rw[←e])
   ·exact b h y hm
theorem M1{G:List Gv}: ∀ {i:Nat} {k:Nat},(Zu (FW G i) k).isSome=true → ∃j,j<i∧(G.getD j gv0).mark=k
 | 0,k,h=>by simp[FW,Zu] at h
 | i+1,k,h=>by
  obtain ⟨y,a⟩:=Option.isSome_iff_exists.1 h
  rcases ET (Fa a) with e|hm
  ·exact⟨i,Nat.lt_succ_self i,(congrArg Prod.fst e).symm⟩
  ·have hk:(Zu (FW G i) k).isSome=true:=by
    cases b:Zu (FW G i) k with
    | some _=>rfl
    | none=>exact absurd hm (YP b _)
   obtain ⟨j,hj,e⟩:=M1 hk
   exact⟨j,oo,e⟩
structure GdG(G:List Gv): Prop where
 le:∀g∈G,g.mark≤255
 dif:∀i k,i<k→k<G.length→(G.getD i gv0).mark≠(G.getD k gv0).mark
 v:∀g∈G,GdPl g.v
 x:∀g∈G,GdPl g.x
 y:∀g∈G,GdPl g.y
 n:G.length≤300
theorem GdG.new{G:List Gv}(h:GdG G){i:Nat}(a:i<G.length): (Zu (FW G i) (G.getD i gv0).mark).getD false=false:=by
 cases b:Zu (FW G i) (G.getD i gv0).mark with
 | none=>rfl
 | some y =>
  obtain ⟨j,hj,e⟩:=M1 (show(Zu (FW G i) (G.getD i gv0).mark).isSome=true by rw[b];rfl)
  exact absurd e (h.dif j i hj a)
theorem ol(g:Gv)(n b o:Nat): Xo prog 238 [Jg g,.pointer (some ⟨b,o,none⟩)] [Row (some ⟨b,o,none⟩) [.int .i64 ((n:Nat):Int)]] (.bool (((g.mark:Nat):Int) == ((n:Nat):Int))):=by
 refine fnI func238 I ntmps238 fun S w0 a=>zS (zx I fun c=>za I<|zn<|zS<|zp (.fA I Fi)<|ldZ M7 ?_)
 refine zD (b:=b) (off:=o) (j:=0) (M:=[.int .i64 ((n:Nat):Int)]) (v:=.int .i64 ((n:Nat):Int)) I mm (Nat.succ_pos _) isAgg3 sizeOf3 I (.inr I) ?_
 refine au 0x62500f ?_
 refine rtK I
theorem C_IxGv(l:List Gv)(ad:Option Addr)(c:Nat)(t:l.length≤1000000)(n b o:Nat): Xo prog 237 [.slice ad l.length c,.func (.func 238) #[] #[.pointer (some ⟨b,o,none⟩)]] [Row ad (cellsOf Jg l),Row (some ⟨b,o,none⟩) [.int .i64 ((n:Nat):Int)]] (.int .i64 (Cs (fun g=>((g.mark:Nat):Int) == ((n:Nat):Int)) l 0)):=by
 refine fnI func237 I ntmps237 fun S w0 s=>au 0x9240af43112531 ?_;intro a w h
 refine lpG h [0,1,7] pkL (fun Y Z (i:Nat) a w=>i≤l.length∧(Cs (fun g=>((g.mark:Nat):Int) == ((n:Nat):Int)) l 0=Cs (fun g=>((g.mark:Nat):Int) == ((n:Nat):Int)) (l.drop i) i)∧St 19 S w0 ((8,nI i)::Y) [] Z a w) (fun i=>l.length-i) 0 (⟨Nat.zero_le _,rfl,by exact(h).sub sA⟩) ?_;clear h
 rintro i a w ⟨q,d,h⟩
 refine gC h<|au 0x12c31 ?_;intro a w h
 refine Zb h I (fun m=>?_) (fun m=>?_)
 ·have f:i<l.length:=dT m
  obtain ⟨r,p,rfl⟩:=h.row_addr (ad:=ad) (M:=cellsOf Jg l) mm (nE 5)
  refine gC h<|au 0xabf4443125431917 ?_
  refine zD I mm (cells_lt (k:=5) dd (fun _=>rfl) l i oo) isAgg104 sizeOf104 (Zg (k:=5) (fun _=>rfl) ((fun _=>rfl)) l gv0 i oo) (.inl I) ?_;clear h;intro a w h
  refine Zc<|Xm h (fs:=[]) (cs:=[.pointer (some ⟨b,o,none⟩)]) I (vs:=[_]) I call238 (ol (l.getD i gv0) n b o) ss dd ?_;clear h;intro a w h
  refine Zh h (fun e h=>?_) (fun e h=>?_)
  ·refine wpList_nil ?_
   refine cW ?_
   refine Qo h I ?_
   refine gC h<|au 0x625431 ?_
   refine rtK ?_
   rw[d,Yv _ l i gv0 f,if_pos e]
  ·refine wpList_nil ?_
   refine cW ?_
   refine Zj h I ?_
   refine gC h<|zk<|zr<|zp (.pN (i+1)<|.add I I)<|au 0x24 ?_;clear h;intro a w h
   exact⟨i+1,⟨oo,by rw[d,Yv _ l i gv0 f,if_neg (by rw[e];decide)],tO h⟩,oo⟩
 ·have j:l.length=i:=dF m
  subst j
  refine gC h<|au 0x625310e ?_
  refine rtK ?_
  rw[d,List.drop_length];rfl
theorem jD(p:Pr)(o i j c:Option Addr)(z v x y n:Nat)(A:p.G.length≤1000000): Xo prog 132 [Xf p o i j c z v x y,.int .i64 ((n:Nat):Int)] [Row o (cellsOf encPt p.m.P),Row i (cellsOf Zd p.m.T),Row j (cellsOf Zd p.m.S),Row p.f.a (cellsOf Zz p.f.l),Row c (cellsOf Jg p.G),Yi (Qu p.G)] (.tuple #[Jg (Kv p.G n).1,.bool (Kv p.G n).2]):=by
 refine fnI func132 I ntmps132 fun S w0 u=>zS (zx I fun B=>zx I fun t=>?_);intro a w h
 replace h:=h.shareAll u ([.int .i64 ((n:Nat):Int)]) I
 refine gL h (zz EC fun C=>au 0xd7fe6f94f3125 ?_)
 refine zw [_,_] I call237 (C_IxGv p.G _ _ A n t 0)<|au 0x2c431125 ?_;clear h;intro a w h
 refine Zb h I (fun b=>?_) (fun b=>?_)
 ·refine gC h<|zS<|zp (.build [] I<|gg)<|stW I I Zi ?_
  refine au 0x625 ?_;clear h;intro a w h
  refine Js h (Zw h I (rC Zx)<|.tmp I) ?_
  first|(rw[LQ (of_decide_eq_true b)];done)|(rw[LQ (of_decide_eq_true b)];rfl)
 ·obtain ⟨e,d⟩:∃e:Nat,Cs (fun g=>((g.mark:Nat):Int) == ((n:Nat):Int)) p.G 0=(e:Int):=⟨(Cs (fun g=>((g.mark:Nat):Int) == ((n:Nat):Int)) p.G 0).toNat,by have:=of_decide_eq_false b;omega⟩
  have s:e<p.G.length:=by have:=PN (fun g=>((g.mark:Nat):Int) == ((n:Nat):Int)) p.G 0;omega
  rw[d] at h
  obtain ⟨q,r,rfl⟩:=h.row_addr (ad:=c) (M:=cellsOf Jg p.G) mm (nE 5)
  refine gC h<|au 0xabf4e6f94f317 ?_
  refine zD I mm (cells_lt (k:=5) dd (fun _=>rfl) p.G e oo) isAgg104 sizeOf104 (Zg (k:=5) (fun _=>rfl) ((fun _=>rfl)) p.G gv0 e oo) (.inl I) ?_
  refine stW I I Zi ?_
  refine au 0x625 ?_;clear h;intro a w h
  refine Js h (Zw h I (rC Zx)<|.tmp I) ?_
  first|(rw[Fg d];done)|(rw[Fg d];rfl)
end
section
theorem Sj{b off:Nat}: RN (Instr.fieldAt 104 (.pointer (some ⟨b,off,none⟩)) 2) (.pointer (some ⟨b,off+2,none⟩)):=fun w=>by
 simp[go_sem]
theorem J2{c0 c1 c2 a b:Value}: Zk false 1 #[c0,c1,c2,a,b] 2=some c2:=rfl
theorem DU{b off:Nat}: RN (Instr.fieldAt 104 (.pointer (some ⟨b,off,none⟩)) 3) (.pointer (some ⟨b,off+3,none⟩)):=fun w=>by
 simp[go_sem]
theorem E4(b off:Nat): RN (Instr.indexAt 102 (.pointer (some ⟨b,off,none⟩)) (.int .i64 0)) (.pointer (some ⟨b,off+0,none⟩)):=fun w=>by
 simp[go_sem,Instr.indexAt]
theorem EL{c0 c1 c2 a b:Value}: Zk false 1 #[c0,c1,c2,a,b] 3=some a:=rfl
theorem E3(b off:Nat): RN (Instr.indexAt 102 (.pointer (some ⟨b,off,none⟩)) (.int .i64 1)) (.pointer (some ⟨b,off+1,none⟩)):=fun w=>by
 simp[go_sem,Instr.indexAt]
theorem J1{c0 c1 c2 b a:Value}: Zk false 1 #[c0,c1,c2,b,a] 4=some a:=rfl
theorem JM(h:Option Addr)(f a:Nat)(i:Option Addr)(c e:Nat)(g:Option Addr)(d b:Nat)(w:World): (Instr.buildSlice 145 3 [(0,.slice h f a),(1,.slice i c e),(2,.slice g d b)].toArray).run prog w=.ok (.slice (some ⟨w.heap.size,0,none⟩) 3 3) (w.alloc (.cells #[.slice h f a,.slice i c e,.slice g d b] 54 (0,0))):=by
 simp[go_sem]
theorem LX{b off:Nat}: RN (Instr.fieldAt 57 (.pointer (some ⟨b,off,none⟩)) 0) (.pointer (some ⟨b,off+0,none⟩)):=fun w=>by
 simp[go_sem]
theorem Ws{c0 c1 c2 w r q s t u v o g m h l n a e k c j f i d p b:Value}: Zk true 3 #[c0,c1,c2,w,r,q,s,t,u,v,o,g,m,h,l,n,a,e,k,c,j,f,i,d,p,b] 0=some (.agg #[c0,c1,c2]):=rfl
theorem gG(p:Pr)(r j o g:Option Addr)(J E F H:Nat)(D:GdG p.G): Xo prog 270 [Xf p r j o g J E F H] [Row r (cellsOf encPt p.m.P),Row j (cellsOf Zd p.m.T),Row o (cellsOf Zd p.m.S),Row p.f.a (cellsOf Zz p.f.l),Row g (cellsOf Jg p.G),Yi (Qu p.G)] (.int .i64 0):=by
 have O:=D.n
 refine fnI func270 I ntmps270 fun S w0 Q=>zS (zx I fun N=>au 0x3125 ?_);intro a w h
 refine Zc<|D8 Qi Fj h dd ?_;clear h;intro K a w h
 refine gL h<|au 0x9240afe6f94f31125 ?_;clear h;intro a w h
 replace h:=h.same I (show _=[(K,mB Qi Fj (FW p.G 0)),_] from I) I
 refine lpG h [3,9,10] pkL (fun Y Z (i:Nat) a w=>i≤p.G.length∧St 46 S w0 ((11,nI i)::Y) [(K,mB Qi Fj<|FW p.G i),(N,bV (Xf p r j o g J E F H) 57)] Z a w) (fun i=>p.G.length-i) 0 (⟨Nat.zero_le _,by exact(h).sub sA⟩) ?_;clear h
 rintro i a w ⟨L,h⟩
 refine gC h<|au 0x12c31 ?_;intro a w h
 refine Zb h I (fun c=>?_) (fun c=>?_)
 ·have b:i<p.G.length:=dT c
  obtain ⟨A,C,rfl⟩:=h.row_addr (ad:=g) (M:=cellsOf Jg p.G) mm (nE 5)
  have s:=getD_mem p.G (d:=gv0) b
  have hle:=D.le _ s
  replace h:=h.pickR (l:=Qu p.G) mm (A6 b).1
  replace h:=h.pickR (l:=Qu p.G) mm (A6 b).2.1
  replace h:=h.pickR (l:=Qu p.G) mm (A6 b).2.2
  refine gC h<|au 0xabf31917 ?_
  refine zD I mm (cells_lt (k:=5) dd (fun _=>rfl) p.G i oo) isAgg104 sizeOf104 (Zg (k:=5) (fun _=>rfl) ((fun _=>rfl)) p.G gv0 i oo) (.inl I) ?_
  refine zz EC fun U=>stW I I Zi ?_
  refine zn<|zs<|zS<|zp (.fA I Fi)<|ldZ M7 ?_
  refine zp (.lss I I) (bbF (fun z=>(absurd (of_decide_eq_true z) oo)) fun z=>zm I<|zq 18 I I (.fA I Fi)<|ldQ 18 M7 ?_)
  refine zq 18 I I (.gtr I I) (bbF (fun t=>(absurd (of_decide_eq_true t) oo)) fun t=>au 0x44e ?_)
  refine zq 23 I I (.move I)<|zq 23 I I (.fA I Fi)<|ldQ 23 M7 ?_;clear h;intro a w h
  refine Zq 23 h I I<|Np h mk_ib (u:=(p.G.getD i gv0).mark) (m:=FW p.G i) I I mm dd ?_;clear h;intro a h
  refine gL h (bbF (fun e=>(by exfalso;rw[D.new b] at e;cases e)) fun e=>au 0x4317d24e ?_)
  refine zp (.fA I Fi)<|ldZ M7 ?_;clear h;intro a w h
  refine Zc<|Hf h mk_ib (u:=(p.G.getD i gv0).mark) (q:=true) (m:=FW p.G i) I I I uu ?_;clear h;intro a w h
  replace h:=h.same I (show _=[(U,bV (Jg (p.G.getD i gv0)) 104),(K,mB Qi Fj (FW p.G (i+1))),(N,bV (Xf p r j o (some ⟨A,C,none⟩) J E F H) 57)] from I) I
  refine gL h<|zn<|zS<|zp (.fA I Sj)<|ldZ J2 ?_
  refine zp (.fA I DU)<|zp (.indexAddr I I<|E4 _ _)<|ldZ EL ?_
  refine zp (.fA I DU)<|zp (.indexAddr I I<|E3 _ _)<|ldZ J1 ?_
  refine zB [(_,_),(_,_),(_,_)] I (JM _ _ _ _ _ _ _ _ _) fun R=>?_;clear h;intro a w h
  replace h:=h.shareAll Q (List.map Ys [(p.G.getD i gv0).v,(p.G.getD i gv0).x,(p.G.getD i gv0).y]) I
  replace h:=h.gatherR (l:=[(p.G.getD i gv0).v,(p.G.getD i gv0).x,(p.G.getD i gv0).y].map Yo) ss
  refine gL h<|zw [_] I call350 (Ov [(p.G.getD i gv0).v,(p.G.getD i gv0).x,(p.G.getD i gv0).y] _ _ ss (by intro q hq;simp only[List.mem_cons,List.not_mem_nil,or_false] at hq;rcases hq with rfl|rfl|rfl<;>first|exact D.v _ s|exact D.x _ s|exact D.y _ s))<|au 0x37d2d0f43125 ?_
  refine zp (.pN (i+1)<|.add I I)<|au 0x24 ?_;clear h;intro a w h
  exact⟨i+1,⟨oo,tO h⟩,oo⟩
 ·have B:p.G.length=i:=dF c
  subst B
  refine gC h<|au 0x625310e ?_
  refine rtK I
theorem gP(p:Pr)(d b c e:Option Addr)(i h g j K:Nat)(hv:MV K p.m)(k:K≤100000): Xo prog 271 [Xf p d b c e i h g j] [Row d (cellsOf encPt p.m.P),Row b (cellsOf Zd p.m.T),Row c (cellsOf Zd p.m.S),Row p.f.a (cellsOf Zz p.f.l),Row e (cellsOf Jg p.G),Yi (Qu p.G)] (.int .i64 0):=by
 refine fnI func271 I ntmps271 fun S w0 o=>zS (zx I fun n=>au 0x89fa4f3125 ?_)
 refine zw [_] I call38 (MI K p.m d b c i h g hv k)<|za I<|zn<|zt<|rtK I
end
section
theorem Up(e:Option Addr)(d a:Nat)(f:Option Addr)(b c:Nat): RN (Instr.build 102 [(0,.slice e d a),(1,.slice f b c)].toArray) (.agg #[.slice e d a,.slice f b c]):=fun w=>by simp[go_sem]
abbrev Yw(x y:Rat)(u:List Tm): List Tm:=norm (norm (Qc x (norm (dxL u)))++norm (Qc y (norm (dyL u))))
theorem DR{d K:Nat}{u:List Tm}{x y:Rat}(h:Pq d K u)(hd:d≤12)(hx:Zn x≤1000)(a:Zn y≤1000): Pq d (2*K+2006) (Yw x y u):=by
 have:=Pq.add ((h.dx hd).scale hx hd) ((h.dy hd).scale a hd) hd hd
 rw[Nat.max_self] at this
 exact this.mono (Nat.le_refl _) oo
abbrev MN(k0 k1 k2 c:Rat)(u:List Tm): List Tm:=norm (norm (Qc c u)++Qc ((-1:Int):Rat) (norm (norm (dxL (Yw k0 k1 u))++norm (dyL (Yw k1 k2 u)))))
theorem QG(k0 k1 k2:Rat)(u:List Tm)(ad:Option Addr)(N d K:Nat)(hq:Pq d K u)(hd:d≤12)(V:K≤1000000)(z:Zn k0≤1000)(h1:Zn k1≤1000)(i:Zn k2≤1000): Ctr prog 90 [.agg ((Value.cells (Qe (k0)))++(Value.cells (Qe (k1)))++(Value.cells (Qe (k2)))),.slice ad u.length N] [Row ad (cellsOf Zz u)] (fun v Ψ => ∃q Q y B,v=.agg #[.slice q (Yw k0 k1 u).length Q,.slice y (Yw k1 k2 u).length B]∧Ψ=[Row q (cellsOf Zz (Yw k0 k1 u)),Row y (cellsOf Zz (Yw k1 k2 u))]):=by
 have hx:=hq.dx hd
 have e:=hq.dy hd
 refine fnI func90 I ntmps90 fun S w0 U=>zS (zx I fun R=>zz zeroValue102 fun W=>zn<|zS<|zm I<|zf [_] I call156 (C_DxF u _ _ d K hq hd oo) ?_);rintro T O ⟨F,X,rfl,rfl⟩ a w h
 refine gL h<|zm I<|zf [_] I call157 (C_DyF u _ _ d K hq hd oo) ?_;rintro v10 j ⟨t,P,rfl,rfl⟩
 refine au 0x1255 ?_
 refine yE [0,1,2,4,5,6,9,10,11,13,14,15,3,7,8,12,16,17,18,19]<|au 0xdbf3cf8 ?_;clear h
 refine au 0xcbf2cf8 ?_
 refine au 0xcbf2cf8 ?_
 refine au 0x8 ?_
 refine yp I (.indexAddr I I<|E0 _ _)<|ldY Gw ?_
 refine yf [_,_] I I call121 (Gm (norm<|dxL u) _ _ d (K+1) hx hd oo k0 1000 z oo) ?_;rintro H l ⟨k,M,rfl,rfl⟩
 refine yf [_,_] I I call121 (Gm (norm<|dyL u) _ _ d (K+1) e hd oo k1 1000 h1 oo) ?_;rintro C A ⟨s,J,rfl,rfl⟩
 refine yf [_,_] I I call89 (CG (norm<|Qc k0<|norm<|dxL u) (norm<|Qc k1<|norm<|dyL u) _ _ _ _ d d (1000+(K+1)+1) (1000+(K+1)+1) (hx.scale z hd) (e.scale h1 hd) hd hd oo oo) ?_;rintro G m ⟨b,g,rfl,rfl⟩
 refine yf [_,_] I I call121 (Gm (norm<|dxL u) _ _ d (K+1) hx hd oo k1 1000 h1 oo) ?_;rintro v23 p ⟨x,E,rfl,rfl⟩
 refine yf [_,_] I I call121 (Gm (norm<|dyL u) _ _ d (K+1) e hd oo k2 1000 i oo) ?_;rintro L r ⟨n,D,rfl,rfl⟩
 refine yf [_,_] I I call89 (CG (norm<|Qc k1<|norm<|dxL u) (norm<|Qc k2<|norm<|dyL u) _ _ _ _ d d (1000+(K+1)+1) (1000+(K+1)+1) (hx.scale h1 hd) (e.scale i hd) hd hd oo oo) ?_;rintro v28 o ⟨c,f,rfl,rfl⟩
 refine yp I (.build [(_,_),(_,_)] I<|Up _ _ _ _ _ _)<|stV I I I Zt ?_
 refine yn<|zt ?_;intro a w h
 refine Qn (Ψ:=[Row b (cellsOf Zz<|Yw k0 k1 u),Row c (cellsOf Zz<|Yw k1 k2 u)]) h (Ze h I<|rC Qr) ?_ ss
 exact⟨b,g,c,f,rfl,rfl⟩
theorem Ot(k0 k1 k2 c:Rat)(u:List Tm)(ad:Option Addr)(B d K:Nat)(hq:Pq d K u)(hd:d≤12)(J:K≤1000000)(C:Zn k0≤1000)(h1:Zn k1≤1000)(i:Zn k2≤1000)(s:Zn c≤1000): Ctr prog 86 [.agg ((Value.cells (Qe (k0)))++(Value.cells (Qe (k1)))++(Value.cells (Qe (k2)))),Qe c,.slice ad u.length B] [Row ad (cellsOf Zz u)] (fun v Ψ => ∃D N,v=.slice D (MN k0 k1 k2 c u).length N∧Ψ=[Row D (cellsOf Zz (MN k0 k1 k2 c u))]):=by
 have g:=DR hq hd C h1
 have f:=DR hq hd h1 i
 refine fnI func86 I ntmps86 fun S w0 Q=>zS (zx I fun P=>zx I fun T=>za I<|zn<|zS<|ldZ Gx ?_)
 refine zm I<|zf [_,_] I call90 (QG k0 k1 k2 u ad B d K hq hd J C h1 i) ?_;rintro v10 j ⟨k,y,q,t,rfl,rfl⟩
 refine zz zeroValue102 fun U=>stW I I Zt ?_
 refine zn<|zs<|yE [0,1,3,4,6,7,2,5,8,9,10,11]<|au 0xbe8 ?_
 refine yp I (.indexAddr I I<|E4 _ _)<|ldY Ie ?_
 refine yp I (.indexAddr I I<|E3 _ _)<|ldY Ha ?_
 refine yf [_,_] I I call121 (Gm u _ _ d K hq hd oo c 1000 s oo) ?_;rintro F A ⟨l,L,rfl,rfl⟩
 refine yf [_] I I call156 (C_DxF (Yw k0 k1 u) _ _ d (2*K+2006) g hd oo) ?_;rintro H r ⟨z,E,rfl,rfl⟩
 refine yf [_] I I call157 (C_DyF (Yw k1 k2 u) _ _ d (2*K+2006) f hd oo) ?_;rintro M o ⟨p,G,rfl,rfl⟩
 refine yf [_,_] I I call89 (CG (norm<|dxL<|Yw k0 k1 u) (norm<|dyL<|Yw k1 k2 u) _ _ _ _ d d (2*K+2007) (2*K+2007) (g.dx hd) (f.dy hd) hd hd oo oo) ?_;rintro v20 x ⟨m,O,rfl,rfl⟩
 refine yf [_,_] I I call125 (JB (norm<|Qc c u) (norm (norm (dxL<|Yw k0 k1 u)++norm (dyL<|Yw k1 k2 u))) _ _ _ _ d (max d d) (1000+K+1) (2*K+2007+(2*K+2007)+2) (hq.scale s hd) (Pq.add (g.dx hd) (f.dy hd) hd hd) hd oo oo oo) ?_;rintro v21 n ⟨b,e,rfl,rfl⟩
 refine au 0x6a3e ?_;intro a w h
 refine Qn (Ψ:=[Row b (cellsOf Zz<|MN k0 k1 k2 c u)]) h (Ze h I<|.tmp I) ⟨b,e,rfl,rfl⟩ (fun R hR=>by rw[List.mem_singleton] at hR;subst hR;exact List.Mem.head _)
end
section
theorem Y1{b off:Nat}: RN (Instr.fieldAt 30 (.pointer (some ⟨b,off,none⟩)) 1) (.pointer (some ⟨b,off+9,none⟩)):=fun w=>by
 simp[go_sem]
theorem Wm{c0 c1 c2 i k h l j m g c a f d e b:Value}: Zk false 1 #[c0,c1,c2,i,k,h,l,j,m,g,c,a,f,d,e,b] 9=some g:=rfl
theorem mg(x:Int): RN (Go.convert 23 2 (.int .i8 x)) (.int .i64 (IntKind.i64.wrap x)):=fun w=>by
 simp[go_sem]
theorem fE(x:Int)(a:IntKind.i64.wrap x=x): RN (Go.convert 23 2 (.int .i8 x)) (.int .i64 x):=fun w=>by
 rw[mg,a]
theorem lS{b off:Nat}: RN (Instr.fieldAt 30 (.pointer (some ⟨b,off,none⟩)) 3) (.pointer (some ⟨b,off+13,none⟩)):=fun w=>by
 simp[go_sem]
theorem dz{c0 c1 c2 h j g k i l m d b f a e c:Value}: Zk false 1 #[c0,c1,c2,h,j,g,k,i,l,m,d,b,f,a,e,c] 13=some a:=rfl
theorem cv_5_2(x:Int): RN (Go.convert 5 2 (.int .u8 x)) (.int .i64 (IntKind.i64.wrap x)):=fun w=>by
 simp[go_sem]
theorem me(x:Int)(a:IntKind.i64.wrap x=x): RN (Go.convert 5 2 (.int .u8 x)) (.int .i64 x):=fun w=>by
 rw[cv_5_2,a]
theorem PU{b off:Nat}: RN (Instr.fieldAt 30 (.pointer (some ⟨b,off,none⟩)) 2) (.pointer (some ⟨b,off+10,none⟩)):=fun w=>by
 simp[go_sem]
theorem eH(b off:Nat): RN (Instr.indexAt 27 (.pointer (some ⟨b,off,none⟩)) (.int .i64 0)) (.pointer (some ⟨b,off+0,none⟩)):=fun w=>by
 simp[go_sem,Instr.indexAt]
theorem dC{c0 c1 c2 h j g k i l m a b f d e c:Value}: Zk false 1 #[c0,c1,c2,h,j,g,k,i,l,m,a,b,f,d,e,c] 10=some a:=rfl
theorem eG(b off:Nat): RN (Instr.indexAt 27 (.pointer (some ⟨b,off,none⟩)) (.int .i64 1)) (.pointer (some ⟨b,off+1,none⟩)):=fun w=>by
 simp[go_sem,Instr.indexAt]
theorem dB{c0 c1 c2 h j g k i l m c a f d e b:Value}: Zk false 1 #[c0,c1,c2,h,j,g,k,i,l,m,c,a,f,d,e,b] 11=some a:=rfl
theorem eF(b off:Nat): RN (Instr.indexAt 27 (.pointer (some ⟨b,off,none⟩)) (.int .i64 2)) (.pointer (some ⟨b,off+2,none⟩)):=fun w=>by
 simp[go_sem,Instr.indexAt]
theorem dA{c0 c1 c2 h j g k i l m d b a e f c:Value}: Zk false 1 #[c0,c1,c2,h,j,g,k,i,l,m,d,b,a,e,f,c] 12=some a:=rfl
abbrev Bb(n:Int): Value:=.int .u8 n
structure M25 where
 nx:Int
 ny:Int
 cells:List Int
 m0:Int
 m1:Int
 m2:Int
 m3:Int
 den:Int
 first:Int
abbrev Ew(m:M25)(adC:Option Addr)(cC:Nat): Value:=.agg #[.int .u8 m.nx,.int .u8 m.ny,.slice adC m.cells.length cC,.int .i8 m.m0,.int .i8 m.m1,.int .i8 m.m2,.int .i8 m.m3,.int .u8 m.den,.int .u8 m.first]
structure QT where
 i:Int
 j:Int
 q:Int×Int
abbrev qt0:QT:=⟨0,0,(0,0)⟩
abbrev D2(t:QT): Value:=.agg #[.int .i64 t.i,.int .i64 t.j,.int .i64 t.q.1,.int .u32 t.q.2]
structure Pn where
 M:M25
 two:Bool
 k0:Int
 k1:Int
 k2:Int
 c:Int
 u:List QT
 fixed:Int
abbrev CO(x:Pn)(adC adU:Option Addr)(cC cU:Nat): Value:=.agg #[.int .u8 x.M.nx,.int .u8 x.M.ny,.slice adC x.M.cells.length cC,.int .i8 x.M.m0,.int .i8 x.M.m1,.int .i8 x.M.m2,.int .i8 x.M.m3,.int .u8 x.M.den,.int .u8 x.M.first,.bool x.two,.int .i8 x.k0,.int .i8 x.k1,.int .i8 x.k2,.int .u8 x.c,.slice adU x.u.length cU,.int .u8 x.fixed]
def U8(n:Int): Prop:=0≤n∧n≤255
def I8(n:Int): Prop := -128≤n∧n≤127
structure QD(x:Pn): Prop where
 k0:I8 x.k0
 k1:I8 x.k1
 k2:I8 x.k2
 c:U8 x.c
 fixed:U8 x.fixed
def CP(n:Int): Int:=if n<0 then -n else n
abbrev stA(x:Pn): Int:=1+(CP x.k0).tmod 3
abbrev stB(x:Pn): Int:=x.k1.tmod 3
abbrev stG(x:Pn): Int:=1+(CP x.k2).tmod 3
theorem jI(n:Int): -2≤n.tmod 3∧n.tmod 3≤2:=by
 have h1:=Int.tmod_lt_of_pos n (show(0:Int)<3 by decide)
 have a:=Int.tmod_lt_of_pos (-n) (show(0:Int)<3 by decide)
 rw[Int.neg_tmod] at a
 omega
theorem JP(x:Pn)(c d:Option Addr)(f e:Nat)(ht:x.two=true): Ji prog 33 [CO x c d f e] (.int .i64 2):=by
 refine fnI func33 I ntmps33 fun S w0 i=>zS (zx I fun g=>au 0x31125 ?_)
 refine zp (.fA I Y1)<|ldZ Wm ?_;intro a w h
 refine Zh h (fun b h=>?_) (fun b h=>(by exfalso;rw[ht] at b;cases b))
 refine wpList_nil ?_
 refine cW ?_
 refine Qo h I ?_
 refine gC h<|au 0x62531 ?_
 refine rtK I
theorem JA(x:Pn)(c d:Option Addr)(f e:Nat)(ht:x.two=false): Ji prog 33 [CO x c d f e] (.int .i64 1):=by
 refine fnI func33 I ntmps33 fun S w0 i=>zS (zx I fun g=>au 0x31125 ?_)
 refine zp (.fA I Y1)<|ldZ Wm ?_;intro a w h
 refine Zh h (fun b h=>(by exfalso;rw[ht] at b;cases b)) (fun b h=>?_)
 refine wpList_nil ?_
 refine cW ?_
 refine Zj h I ?_
 refine gC h<|au 0x625317 ?_
 refine rtK I
theorem bn(n:Int)(c:I8 n): Ji prog 92 [.int .i8 n] (.int .i64 (CP n)):=by
 obtain ⟨e,d⟩:=c
 refine fnI func92 I ntmps92 fun S w0 f=>au 0xc43112531 ?_;intro a w h
 refine Zh h (fun b h=>?_) (fun b h=>?_)
 ·refine wpList_nil ?_
  refine cW ?_
  refine Qo h I ?_
  refine gC h<|au 0xf6f431 ?_
  refine zp (.unOp I (fun w=>Ld _ oo oo w))<|za I<|zn<|zt<|rtK ?_
  unfold CP;rw[if_pos (of_decide_eq_true b)]
 ·refine wpList_nil ?_
  refine cW ?_
  refine Zj h I ?_
  refine gC h<|au 0x625f6f4317 ?_
  refine rtK ?_
  unfold CP;rw[if_neg (of_decide_eq_false b)]
theorem HW{n:Int}(h:I8 n): 0≤CP n∧CP n≤128:=by obtain ⟨h1,a⟩:=h;unfold CP;split<;>omega
theorem QU{n:Int}(h:0≤n): 0≤n.tmod 3∧n.tmod 3≤2:=by
 have h1:=jI n
 rw[Int.tmod_eq_emod_of_nonneg h] at h1 ⊢
 omega
theorem VP{x:Pn}(h:QD x): 1≤stA x∧stA x≤3:=by have:=QU (HW h.k0).1;show 1≤1+_∧1+_≤(3:Int);omega
theorem VN{x:Pn}(h:QD x): 1≤stG x∧stG x≤3:=by have:=QU (HW h.k2).1;show 1≤1+_∧1+_≤(3:Int);omega
theorem VO(x:Pn): -2≤stB x∧stB x≤2:=jI x.k1
theorem F6{a b:Int}(h1: -3≤a)(c:a≤3)(e: -3≤b)(d:b≤3): -9≤a*b∧a*b≤9:=by
 have ha:a = -3∨a = -2∨a = -1∨a=0∨a=1∨a=2∨a=3:=oo
 rcases ha with rfl|rfl|rfl|rfl|rfl|rfl|rfl<;>omega
theorem B9(x:Pn)(b d:Option Addr)(g f:Nat)(hx:QD x): Ji prog 35 [CO x b d g f] (Qe (((x.c.tmod 4:Int):Rat)/((2:Int):Rat))):=by
 obtain ⟨e,i⟩:=hx.c
 have hm:0≤x.c.tmod 4∧x.c.tmod 4≤3:=by rw[Int.tmod_eq_emod_of_nonneg e];omega
 refine fnI func35 I ntmps35 fun S w0 m=>zS (zx I fun l=>zz Xl fun k=>zn<|zS<|zp (.fA I lS)<|ldZ dz ?_)
 refine au 0x15f ?_
 refine zp (.convert I<|me _<|wrap_i64 _ oo oo)<|au 0xbb405f ?_
 refine zz Xl fun j=>stW I I Zi ?_
 refine au 0x6e3125 ?_
 refine stW I I Zi ?_
 refine zn<|zt ?_;intro a w h
 refine Js h (Ze h I<|rC Zx) ?_
 rfl
theorem Dp(x:Pn)(c d:Option Addr)(j i:Nat)(hx:QD x): Ji prog 34 [CO x c d j i] (.agg ((Value.cells (Qe (((stA x*stA x:Int):Rat))))++(Value.cells (Qe (((stA x*stB x:Int):Rat))))++(Value.cells (Qe (((stB x*stB x+stG x*stG x:Int):Rat)))))):=by
 obtain ⟨m1,m2⟩:=hx.k1
 have n:=jI x.k1
 have g1:=QU (HW hx.k0).1
 have g2:=QU (HW hx.k2).1
 have h1:=F6 (a:=(1+(CP x.k0).tmod 3)) (b:=(1+(CP x.k0).tmod 3)) oo oo oo oo
 have k:=F6 (a:=(1+(CP x.k0).tmod 3)) (b:=(x.k1.tmod 3)) oo oo oo oo
 have q:=F6 (a:=(x.k1.tmod 3)) (b:=(x.k1.tmod 3)) oo oo oo oo
 have p:=F6 (a:=(1+(CP x.k2).tmod 3)) (b:=(1+(CP x.k2).tmod 3)) oo oo oo oo
 refine fnI func34 I ntmps34 fun S w0 o=>zS (zx I fun m=>zz SY fun l=>zn<|zS<|zp (.fA I PU)<|zp (.indexAddr I I<|eH _ _)<|ldZ dC ?_)
 refine zv [_] I call92 (bn x.k0 hx.k0)<|au 0x3125b0f15f ?_
 refine zp (.fA I PU)<|zp (.indexAddr I I<|eG _ _)<|ldZ dB ?_
 refine au 0x312515ff6f ?_
 refine zp (.fA I PU)<|zp (.indexAddr I I<|eF _ _)<|ldZ dA ?_
 refine zv [_] I call92 (bn x.k2 hx.k2)<|au 0xa1f72f443125b0f15f ?_
 have f:=Qa ((1+((CP x.k0).tmod 3))*(1+((CP x.k0).tmod 3))) oo oo
 refine au 0xa1f72f44 ?_;intro a w h
 have e:=Qa ((1+((CP x.k0).tmod 3))*(x.k1.tmod 3)) oo oo
 refine gL h<|au 0xa1fb0f72f4472f44 ?_
 have g:=Qa (((x.k1.tmod 3)*(x.k1.tmod 3))+((1+((CP x.k2).tmod 3))*(1+((CP x.k2).tmod 3)))) oo oo
 refine zp (.build [(_,_),(_,_),(_,_)] I<|I5 _ _ _ _ _ _ _ _ _ _ _ _ _ _ _)<|stW I I BR ?_
 refine zn<|zt ?_;clear h;intro a w h
 refine Js h (Ze h I<|rC Gx) ?_
 rfl
end
section
theorem lR{b off:Nat}: RN (Instr.fieldAt 30 (.pointer (some ⟨b,off,none⟩)) 5) (.pointer (some ⟨b,off+15,none⟩)):=fun w=>by
 simp[go_sem]
theorem dw{c0 c1 c2 h j g k i l m c b f d e a:Value}: Zk false 1 #[c0,c1,c2,h,j,g,k,i,l,m,c,b,f,d,e,a] 15=some a:=rfl
def bitB(n i:Nat): Bool:=(((n/2 ^ i &&& 1:Nat):Int) == 1)
def Vl(n k:Nat): List Nat:=(List.range k).filter (bitB n)
theorem W5{n i:Nat}(h:(((n/2 ^ i &&& 1:Nat):Int) == 1)=true): Vl n i++[i]=Vl n (i+1):=by
 unfold Vl;rw[List.range_succ,List.filter_append];have a:bitB n i=true:=h;simp[List.filter_cons,a]
theorem ej{n i:Nat}(h:(((n/2 ^ i &&& 1:Nat):Int) == 1)=false): Vl n i=Vl n (i+1):=by
 unfold Vl;rw[List.range_succ,List.filter_append];have a:bitB n i=false:=h;simp[a]
theorem As(n k:Nat): (Vl n k).length≤k:=Nat.le_trans (List.length_filter_le _ _) (Nat.le_of_eq List.length_range)
theorem pow_lt(n i:Nat)(h:n≤255): n/2 ^ i<2 ^ 8:=Nat.lt_of_le_of_lt (Nat.div_le_self _ _) oo
theorem av(x:Pn)(j k:Option Addr)(s u n:Nat)(hf:x.fixed=((n:Nat):Int))(A:n≤255): CtrO prog 37 [CO x j k s u] [] (fun v o => ∃ad c,v=.slice ad (Vl n 5).length c∧GrowO 1 3 v (Vl n 5).length (List.map Qi (Vl n 5)) o):=by
 refine fn_introO func37 I ntmps37 nb ?_
 intro S w0 a C h
 refine gC h<|zS (zx I fun t=>au 0x925311253125 ?_);clear h;intro a w h
 refine Jh (fun(i:Nat) a w => ∃(e:Option Addr) (c1:Nat) (p:List (Nat×Obj)),(i≤5∧GrowO 1 3 (.slice e (Vl n i).length c1) (Vl n i).length (List.map Qi<|Vl n i) p)∧St 20 S w0 [(1,pB t),(3,(.slice e (Vl n i).length c1)),(4,nI i)] (p++((t,bV (CO x j k s u) 30)::[])) [] a w) (fun i=>5-i) (0) (⟨none,0,[],⟨oo,GrowO.nil _ _⟩,by exact h.sub sA⟩) ?_;clear h
 rintro i a w ⟨e,c1,p,⟨y,f⟩,h⟩
 refine gC h<|au 0x2c4311 ?_;intro a w h
 refine Zb h I (fun b=>?_) (fun b=>?_)
 ·refine gC h<|zk<|zs<|zb<|zS<|zp (.fA I lR)<|ldZ dw ?_;clear h;intro a w h
  rw[hf] at h
  refine gL h<|zm I<|zp (.binOp I I (fun _=>Vj _ _ _ n i (by show i≤8;have:=of_decide_eq_true b;omega)))<|zp (.binOp I I (fun _=>F3 I _ _ _ (n/2 ^ i) 1 (pow_lt n i A) dd))<|au 0x200f ?_;clear h;intro a w h
  refine Zb h I (fun d=>?_) (fun d=>?_)
  ·refine gC h<|zr<|zm I<|zm I (zB [(_,_)] I (Jf _) fun z=>?_)
   refine apM Qi (Vl n i) [i] f ?_ (hr:=by(try dsimp only);have:=As n i;omega);intro l r q g a w h
   refine gL h<|au 0x4325 ?_
   refine zp (.pN (i+1)<|.add I I)<|au 0x25 ?_;clear h;intro a w h
   have m:i<5:=dT b
   rw[W5 d] at h g
   exact⟨i+1,⟨l,r,q,⟨by have:=of_decide_eq_true b;omega,g⟩,by exact tO h⟩,oo⟩
  ·refine gC h<|zk<|zr<|zm I<|zp (.pN (i+1)<|.add I I)<|au 0x25 ?_;clear h;intro a w h
   have m:i<5:=dT b
   rw[ej d] at h f
   exact⟨i+1,⟨e,c1,p,⟨by have:=of_decide_eq_true b;omega,f⟩,by exact tO h⟩,oo⟩
 ·refine gC h<|au 0x6254310e ?_;clear h;intro a w h
  have B:i=5:=dF b
  subst B
  refine He h (Ze h I<|.tmp I) ⟨e,c1,rfl,f⟩<|List.sublist_append_left _ _
end
section
theorem eY{b off:Nat}: RN (Instr.fieldAt 334 (.pointer (some ⟨b,off,none⟩)) 0) (.pointer (some ⟨b,off+0,none⟩)):=fun w=>by
 simp[go_sem]
theorem fW(c:Go.Fn)(a b:Array Value): RN (Instr.build 334 [(0,.func c a b)].toArray) (.agg #[.func c a b]):=fun w=>by simp[go_sem]
def mxL(l:List Rat): Nat→Rat
 | 0=>0
 | i+1=>if i=0∨mxL l i<l.getD i 0 then l.getD i 0 else mxL l i
theorem ee{l:List Rat}{i:Nat}(h:(((i:Nat):Int) == 0)=true): mxL l (i+1)=l.getD i 0:=by rw[mxL,if_pos (.inl (by have:=eq_of_beq h;omega))]
theorem kR{l:List Rat}{i:Nat}(h:decide ((l.getD i 0-mxL l i).num.sign>0)=true): mxL l (i+1)=l.getD i 0:=by
 have:=(Ag _).1 (of_decide_eq_true h)
 rw[mxL,if_pos (.inr (by grind))]
theorem kS{l:List Rat}{i:Nat}(b:(((i:Nat):Int) == 0)=false)(h:decide ((l.getD i 0-mxL l i).num.sign>0)=false): mxL l (i+1)=mxL l i:=by
 have h1:¬(0<l.getD i 0-mxL l i):=fun a=>absurd ((Ag _).2 a) (of_decide_eq_false h)
 rw[mxL,if_neg]
 rintro(e|e)
 ·subst e;cases b
 ·exact h1 (by grind)
theorem WR{l:List Rat}{K:Nat}(h:∀x∈l,Zn x≤K)(a:2≤K): ∀i,i≤l.length→Zn (mxL l i)≤K
 | 0,_=>by rw[mxL];exact Nat.le_trans Vo a
 | i+1,b=>by
  rw[mxL];split
  ·exact h _ (getD_mem l oo)
  ·exact WR h a i oo
theorem gY(l:List Rat)(ad:Option Addr)(c:Nat)(v:l.length≤1000000)(hl:∀x∈l,Zn x≤1000000): Xo prog 228 [.agg #[.func (.func 227) #[] #[]],.slice ad l.length c] [Row ad (cellsOf Qe l)] (Qe (mxL l l.length)):=by
 refine fnI func228 I ntmps228 fun S w0 t=>zS (zx I fun p=>zz Xl fun r=>au 0x924b8f43112 ?_);intro a w h
 refine lpG h [2,4,7,8] pkL (fun Y Z (i:Nat) a w=>i≤l.length∧St 27 S w0 ((9,nI i)::Y) [(r,bV (Qe<|mxL l i) 51),(p,bV (.agg #[.func (.func 227) #[] #[]]) 334)] Z a w) (fun i=>l.length-i) 0 (⟨Nat.zero_le _,by exact(h).sub sA⟩) ?_;clear h
 rintro i a w ⟨n,h⟩
 refine gC h<|au 0x12c31 ?_;intro a w h
 refine Zb h I (fun f=>?_) (fun f=>?_)
 ·have j:i<l.length:=dT f
  obtain ⟨o,m,rfl⟩:=h.row_addr (ad:=ad) (M:=cellsOf Qe l) mm (nE 5)
  have q:=hl _ (getD_mem l (d:=0) j)
  have s:=WR hl dd i oo
  refine gC h<|au 0x9bf431917 ?_
  refine zD I mm (cells_lt (k:=5) dd (fun _=>rfl) l i oo) isAgg51 sizeOf51 (Zg (k:=5) (fun _=>rfl) ((fun _=>rfl)) l 0 i oo) (.inl I) ?_
  refine zz Xl fun u=>za I<|stW I I Zi ?_
  refine zn<|zs<|yE [0,1,2,3,4,5,6,7,8,9]<|au 0x8 ?_
  refine yp I (.eql I I) ?_;clear h
  refine Ju (fun e  =>?_) (fun e  =>?_)
  focus
   refine au 0x8 ?_
   refine yo 16 I I I I<|yo 16 I I I I<|yo 16 I I I I<|yo 16 I I I I<|yo 16 I I I I<|yo 16 I I I I<|au 0x6e31ea56f ?_
   refine stW I I Zi ?_
   refine zn<|zr<|zp (.pN (i+1)<|.add I I)<|au 0x24 ?_;intro a w h
   rw[←ee e] at h
  rotate_left
  focus
   refine au 0x8 ?_
   refine yq I I I (.fA I eY)<|yg I I I I mr isAgg157 sizeOf157 Ar ?_
   refine yg I I I I mr isAgg51 sizeOf51 Zx ?_
   refine yg I I I I mr isAgg51 sizeOf51 Zx ?_
   refine Xk I I I kk (vs:=[_,_]) I call9 (Ht (l.getD i 0) (mxL l i) oo oo) dd ?_
   refine NQ I I I kk (fs:=[]) (cs:=[]) I (vs:=[_]) I call227 (C_Max1 _) ss dd ?_
   refine Ju (fun b  =>?_) (fun b  =>?_)
   focus
    refine au 0x6e31eaa5f ?_
    refine stW I I Zi ?_
    refine zn<|zr<|zp (.pN (i+1)<|.add I I)<|au 0x24 ?_;intro a w h
    rw[←kR b] at h
   rotate_left
   focus
    refine au 0x37daa5f ?_
    refine zp (.pN (i+1)<|.add I I)<|au 0x24 ?_;intro a w h
    rw[←kS e b] at h
  all_goals
   exact⟨i+1,⟨oo,tO h⟩,oo⟩
 ·have g:l.length=i:=dF f
  subst g
  refine gC h<|au 0x6e310e ?_
  refine stW I I Zi ?_
  refine zn<|zt ?_;clear h;intro a w h
  refine Js h (Ze h I<|rC Zx) ?_
  rfl
theorem C_fMax(l:List Rat)(ad:Option Addr)(c:Nat)(b:l.length≤1000000)(hl:∀x∈l,Zn x≤1000000): Xo prog 122 [.slice ad l.length c] [Row ad (cellsOf Qe l)] (Qe (mxL l l.length)):=by
 refine fnI func122 I ntmps122 fun S w0 d=>zS (zz Xl fun e=>zn<|zS<|zp (.build [(_,_)] I<|fW _ _ _)<|zm I<|zw [_,_] I call228 (gY l _ _ b hl)<|stW I I Zi ?_)
 refine zn<|zt ?_;intro a w h
 refine Js h (Ze h I<|rC Zx) ?_
 rfl
end
section
theorem Mw(c o a f b m n d k e g h i j l:Value)(w:World): (Instr.buildSlice 58 3 [(0,.agg #[c,o,a,f,b]),(1,.agg #[m,n,d,k,e]),(2,.agg #[g,h,i,j,l])].toArray).run prog w=.ok (.slice (some ⟨w.heap.size,0,none⟩) 3 3) (w.alloc (.cells #[c,o,a,f,b,m,n,d,k,e,g,h,i,j,l] 51 (0,0))):=by
 simp[go_sem]
theorem C_esq(u:List Tm)(ad:Option Addr)(c d K:Nat)(hq:Pq d K u)(hd:d≤6)(e:K≤2000000): Ctr prog 127 [.slice ad u.length c] [Row ad (cellsOf Zz u)] (fun v Ψ => ∃ad2 c2,v=.slice ad2 (norm (Yx u u)).length c2∧Ψ=[Row ad2 (cellsOf Zz (norm (Yx u u)))]):=by
 refine fnI func127 I ntmps127 fun S w0 j=>au 0x44312531 ?_
 refine zf [_,_] I call223 (MH u u _ _ _ _ d d K K hq hq oo e e) ?_;rintro i f ⟨b,g,rfl,rfl⟩
 refine au 0x625431255bb4 ?_;intro a w h
 refine Qn (Ψ:=[Row b (cellsOf Zz<|norm<|Yx u u)]) h (Ze h I<|.tmp I) ?_ ss
 exact⟨b,g,rfl,rfl⟩
theorem nH(p:Pt): Ji prog 128 [encPt p] (encPt p):=by
 refine fnI func128 I ntmps128 fun S w0 c=>zS (zx I fun b=>zz G6 fun d=>au 0x16f39fe3f49f312 ?_)
 refine zp (.build [(_,_),(_,_)] I<|K1 _ _ _ _ _ _ _ _ _ _)<|stW I I Qb ?_
 refine zn<|zt ?_;intro a w h
 refine Js h (Ze h I<|rC Xi) ?_
 rfl
theorem MG(q:Pl)(K:Nat)(hq:Pq 6 K q.l)(a:K≤400000000): Xo prog 214 [Ys q] [Yo q] (.bool false):=by
 refine fnI func214 I ntmps214 fun S w0 b=>au 0x4312531 ?_
 refine zw [_] I call215 (FP q.l _ _ 6 K hq dd a)<|au 0x62570f ?_
 refine rtK ?_
 congr 1;exact decide_eq_false (by have:=IJ (Jr hq.deg);omega)
def F8(a b c:Pt): List Rat:=[bU (Vh b a) (Vh b a),bU (Vh c b) (Vh c b),bU (Vh a c) (Vh a c)]
theorem GB{a b:Pt}{K:Nat}(ha:PtK K a)(c:PtK K b): Zn (bU (Vh b a) (Vh b a))≤8*K+10:=by
 obtain ⟨g,a2⟩:=ha
 obtain ⟨f,e⟩:=c
 have h1:=Yr b.1 a.1;have d:=Yr b.2 a.2
 have i:=Qh (b.1-a.1) (b.1-a.1);have j:=Qh (b.2-a.2) (b.2-a.2)
 have h:=Xj ((b.1-a.1)*(b.1-a.1)) ((b.2-a.2)*(b.2-a.2))
 show Zn ((b.1-a.1)*(b.1-a.1)+(b.2-a.2)*(b.2-a.2))≤_
 omega
theorem Uw(b d c:Pt)(ha:PtK 100000 b)(e:PtK 100000 d)(hc:PtK 100000 c): Ji prog 67 [Vy b d c] (Qe (mxL (F8 b d c) 3)):=by
 have s1:=GB ha e
 have s2:=GB e hc
 have p:=GB hc ha
 obtain ⟨n,i⟩:=ha
 obtain ⟨j,l⟩:=e
 obtain ⟨m,g⟩:=hc
 refine fnI func67 I ntmps67 fun S w0 k=>zS (zx I fun q=>zz Xl fun o=>zn<|zs<|yE [0,1,2,3,5,6,7,8,10,11,12,13,4,9,14,15,16,17]<|au 0xc6f65f ?_)
 refine au 0xb6f55f ?_
 refine au 0xb6f55f ?_
 refine au 0xa6f45f ?_
 refine au 0xa6f45f ?_
 refine au 0xc6f65f ?_
 refine yv [_,_] I I call123 (GZ b d oo oo oo oo)<|yv [_,_] I I call123 (GZ d c oo oo oo oo)<|yv [_,_] I I call123 (GZ c b oo oo oo oo) ?_
 refine Gj k I kk [(_,_),(_,_),(_,_)] I (Mw _ _ _ _ _ _ _ _ _ _ _ _ _ _ _) (cellsOf Qe<|F8 b d c) I dd ?_;intro f
 refine yw [_] I I call122 (C_fMax (F8 b d c) (some ⟨f,0,none⟩) 3 (show 3≤1000000 by decide) (by intro x hx;simp only[F8,List.mem_cons,List.not_mem_nil,or_false] at hx;rcases hx with rfl|rfl|rfl<;>omega))<|stV I I I Zi ?_
 refine yn<|zt ?_;intro a w h
 refine Js h (Ze h I<|rC Zx) ?_
 rfl
end
section
theorem ck2_be(e:Bool)(x:Nat×Nat): RN (Instr.checkKey e 10000 161 (Zy x)) ():=fun w=>by
 rw[show(10000:Nat)=9999+1 from rfl,Instr.checkKey]
 have h1:=Hz e 9998 (x.1:Int)
 have a:=Hz e 9998 (x.2:Int)
 simp[go_sem,h1,a,List.range']
theorem eq2_be(x y:Nat×Nat): RN (Op.equal 161 (Zy x) (Zy y)) (decide (x=y)):=fun w=>by
 obtain ⟨i,j⟩:=x
 obtain ⟨k,l⟩:=y
 unfold Op.equal
 rw[show Op.maxDepth=9999+1 from rfl,Op.equalIn]
 simp[go_sem,List.range']
 by_cases h1:i=k<;>by_cases a:j=l<;>simp[h1,a,Bd]
theorem Nu:MK prog 159 161 3 Zy (Qi 0):=MK.ofAgg (D:=_) runUnderlying159 zeroValue3 runUnderlying161 (fun _ _=>rfl) ck2_be (fun x=>by simp[Instr.sameBits]) eq2_be
def Ss(q:List ((Nat×Nat)×Nat))(e:Ed): Bool:=decide ((((Zu q (e.a,e.b)).getD 0:Nat):Int)>0)
def Ac(l:List (Nat×Nat×Nat))(q:List ((Nat×Nat)×Nat)): List Ed:=(Za l).filter (Ss q)
theorem mi{l:List Ed}{q:List ((Nat×Nat)×Nat)}{i:Nat}(h:i<l.length)(b:decide ((((Zu q ((l.getD i ed0).a,(l.getD i ed0).b)).getD 0:Nat):Int)>0)=true): (l.take i).filter (Ss q)++[l.getD i ed0]=(l.take (i+1)).filter (Ss q):=by
 have c:Ss q (l.getD i ed0)=true:=b
 rw[List.take_add_one,List.getElem?_eq_getElem h,List.filter_append]
 simp only[List.getD,List.getElem?_eq_getElem h,Option.getD_some] at c ⊢
 simp[c]
theorem cut_no{l:List Ed}{q:List ((Nat×Nat)×Nat)}{i:Nat}(h:i<l.length)(b:decide ((((Zu q ((l.getD i ed0).a,(l.getD i ed0).b)).getD 0:Nat):Int)>0)=false): (l.take i).filter (Ss q)=(l.take (i+1)).filter (Ss q):=by
 have c:Ss q (l.getD i ed0)=false:=b
 rw[List.take_add_one,List.getElem?_eq_getElem h,List.filter_append]
 simp only[List.getD,List.getElem?_eq_getElem h,Option.getD_some] at c
 simp[c]
theorem ml(l:List Ed)(q:List ((Nat×Nat)×Nat))(i:Nat): ((l.take i).filter (Ss q)).length≤i:=Nat.le_trans (List.length_filter_le _ _) (by rw[List.length_take];omega)
end
section
theorem D3{α:Type}{enc:α→Value}{k:Nat}(hk:∀x,(enc x).cells.size=k)(l:List α)(j o:Nat)(h:j<l.length)(ho:o<k): j*k+o<(cellsOf enc l).length:=by
 rw[cellsOf_length hk]
 have:=Nat.mul_le_mul_right k (show j+1≤l.length from h)
 rw[Nat.add_mul] at this;omega
theorem Vw{α:Type}{enc:α→Value}{k:Nat}(hk:∀x,(enc x).cells.size=k)(l:List α)(d:α)(j:Nat)(h:j<l.length)(agg:Bool)(s o:Nat)(v:Value)(f:o+s≤k)(g:0<s)(hv:Zk agg s (enc (l.getD j d)).cells o=some v): Zk agg s (cellsOf enc l).toArray (j*k+o)=some v:=by
 have c:l.getD j d=l[j]:=by simp[List.getD,h]
 rw[c] at hv
 have hle:j*k+k≤(cellsOf enc l).length:=by
  rw[cellsOf_length hk]
  have:=Nat.mul_le_mul_right k (show j+1≤l.length from h)
  rw[Nat.add_mul] at this;omega
 have a:=hk l[j]
 cases agg with
 | false =>
  simp only[Zk,Bool.false_eq_true,if_false] at hv ⊢
  have:=Ad hk l j o h oo
  rw[←hv]
  simpa using this
 | true =>
  simp only[Zk,if_true] at hv ⊢
  rw[if_pos oo] at hv
  rw[if_pos (by show _≤(cellsOf enc l).length;omega), ←Option.some.inj hv]
  congr 2
  apply Array.ext
  ·simp[a];omega
  ·intro i h1 b
   have m:i<s:=by simp[a] at b;omega
   have:=Ad hk l j (o+i) h oo
   rw[List.getElem?_eq_getElem oo] at this
   simp at this ⊢
   rw[Array.getElem?_eq_getElem oo] at this
   have e:=Option.some.inj this
   rw[←e]
   congr 1;omega
def One(q:List ((Nat×Nat)×Nat)): Prop := ∀p∈q,p.2=1
theorem One.put{q:List ((Nat×Nat)×Nat)}(h:One q)(u:Nat×Nat): One (Kl q u 1):=by
 intro p a
 rcases ET a with rfl|a
 ·rfl
 ·exact h p a
theorem One.get{q:List ((Nat×Nat)×Nat)}(h:One q)(u:Nat×Nat): (Zu q u).getD 0≤1:=by
 cases a:Zu q u with
 | none=>exact Nat.zero_le _
 | some y=>exact Nat.le_of_eq (h _ (Fa a))
def opn(l:List (Nat×Nat×Nat))(q:List ((Nat×Nat)×Nat)): Nat:=(l.filter (fun t=>decide ((Zu q (Zo t.2.1 t.2.2)).getD 0=0))).length
theorem filter_lt{α:Type}{p r:α→Bool}(h:∀x,r x=true→p x=true): ∀ {l:List α} {y:α},y∈l→p y=true→r y=false→(l.filter r).length<(l.filter p).length
 | x::l,y,hm,a,hr=>by
  have hle:(l.filter r).length≤(l.filter p).length:=by
   clear hm
   induction l with
   | nil=>exact Nat.le_refl _
   | cons z l b =>
    rw[List.filter_cons,List.filter_cons]
    by_cases h1:r z=true
    ·rw[if_pos h1,if_pos (h z h1)];simp only[List.length_cons];omega
    ·rw[if_neg h1];split<;>(try simp only[List.length_cons])<;>omega
  rcases List.mem_cons.1 hm with rfl|hm
  ·rw[List.filter_cons,List.filter_cons,if_neg (by rw[hr];decide),if_pos a,List.length_cons];omega
  ·have:=filter_lt h hm a hr
   rw[List.filter_cons,List.filter_cons]
   by_cases h1:r x=true
   ·rw[if_pos h1,if_pos (h x h1)];simp only[List.length_cons];omega
   ·rw[if_neg h1];split<;>(try simp only[List.length_cons])<;>omega
theorem NT(q:List ((Nat×Nat)×Nat))(u v:Nat×Nat): (Zu (Kl q u 1) v).getD 0=if v=u then 1 else (Zu q v).getD 0:=by
 induction q with
 | nil =>
  by_cases h:v=u
  ·simp[Kl,Zu,h]
  ·have a:¬u=v:=fun e=>h e.symm
   simp[Kl,Zu,h,a]
 | cons p r b =>
  unfold Kl
  by_cases h:p.1=u
  ·rw[if_pos h]
   by_cases a:v=u
   ·simp[Zu,a]
   ·have:¬p.1=v:=fun e=>a (by rw[←e,h])
    have c:¬u=v:=fun e=>a e.symm
    simp[Zu,a,c,this]
  ·rw[if_neg h]
   by_cases a:p.1=v
   ·have:¬v=u:=fun e=>h (by rw[a,e])
    simp[Zu,a,this]
   ·simp only[Zu,if_neg a];exact b
theorem opn_lt{l:List (Nat×Nat×Nat)}{q:List ((Nat×Nat)×Nat)}{i:Nat}(a:i<l.length)(h:((((Zu q (Zo (l.getD i (0,0,0)).2.1 (l.getD i (0,0,0)).2.2)).getD 0:Nat):Int) == 0)=true):
  opn l (Kl q (Zo (l.getD i (0,0,0)).2.1 (l.getD i (0,0,0)).2.2) 1)<opn l q:=by
 refine filter_lt (fun t ht=>?_) (getD_mem l (d:=(0,0,0)) a) (decide_eq_true (by have:=eq_of_beq h;omega))<|decide_eq_false (by rw[NT,if_pos I];decide)
 have h1:=of_decide_eq_true ht
 rw[NT] at h1
 split at h1
 ·cases h1
 ·exact decide_eq_true h1
theorem bh(m:Ms)(s B r:Option Addr)(J G H:Nat)(l:List Nat)(ad:Option Addr)(c:Nat)(hl:∀k∈l,k<m.T.length)(hn:l.length≤10000)(h0:0<m.T.length)(hT:m.T.length≤10000): CtrO prog 76 [Qz m s B r J G H,.slice ad l.length c] [Row s (cellsOf encPt m.P),Row B (cellsOf Zd m.T),Row r (cellsOf Zd m.S),Row ad (List.map Qi l)] (fun v o => ∃b q,One q∧v=.map (some b)∧o=[(b,mB Zy Qi q)]):=by
 refine fn_introO func76 I ntmps76 nb ?_
 intro S w0 a X h
 obtain ⟨f,e,rfl⟩:=h.row_addr (ad:=B) (M:=cellsOf Zd m.T) mm (nE 3)
 refine gC h<|zS (zx I fun K=>za I<|zn<|zc<|zS ?_);clear h;intro a w h
 refine Zc<|D8 Zy Qi h dd ?_;clear h;intro t a w h
 refine gL h<|au 0x92401f431125 ?_;clear h;intro a w h
 refine lpG h [2,5,12,13] pkL (fun Y Z (j:Nat) a w=>j≤l.length ∧ ∃(q:List ((Nat×Nat)×Nat)),(One q)∧St 80 S w0 ((14,nI j)::Y) [(t,mB Zy Qi q),(K,bV (Qz m s (some ⟨f,e,none⟩) r J G H) 42)] Z a w) (fun j=>l.length-j) 0 (⟨Nat.zero_le _,[],(fun _ h=>nomatch h),by exact(h).sub sA⟩) ?_;clear h
 rintro j a w ⟨Q,q,hq,h⟩
 refine gC h<|au 0x12c31 ?_;intro a w h
 refine Zb h I (fun p=>?_) (fun p=>?_)
 ·have C:j<l.length:=dT p
  obtain ⟨N,O,rfl⟩:=h.row_addr (ad:=ad) (M:=List.map Qi l) mm nF
  have U:=hl _ (getD_mem l (d:=0) C)
  refine gC h<|au 0xf1f31917 ?_
  refine zD I mm (by rw[List.length_map];omega) isAgg3 sizeOf3 (Zr (enc:=Qi) (l:=l) 0 oo) (.inr I) ?_
  refine au 0x40f43125 ?_
  refine bbT (fun x=>(absurd (of_decide_eq_false x) oo)) fun x=>zm I<|zq 20 I I (.move I)<|zq 20 I I (.fA I Cv)<|ldQ 20 Vb ?_
  refine zq 20 I I (.builtin [_] I<|Vn _ _ _)<|zq 20 I I (.lss I I) (bbT (fun z=>(absurd (of_decide_eq_false z) oo)) fun z=>au 0x1e22e ?_)
  refine yE [0,1,2,3,4,5,6,7,8,9,10,11,12,13,14]<|au 0xb1f8af8 ?_;clear h
  refine au 0xf5f8 ?_
  refine yp I (Pure1.cast (v':=.pointer<|some ⟨f,e+((l.getD j 0)*3+1),none⟩) (.indexAddr I I<|Yu _ _) (by rw[Nat.add_assoc])) ?_
  refine Zf I kk I mm (D3 (k:=3) (enc:=Zd) (fun _=>rfl) m.T (l.getD j 0) 1 oo dd) isAgg3 sizeOf3 (Vw (k:=3) (enc:=Zd) (fun _=>rfl) m.T (0,0,0) (l.getD j 0) oo false 1 1 _ dd dd I) (.inr I) dd ?_
  refine au 0xb1f8af ?_
  refine au 0xf5f8 ?_
  refine yp I (Pure1.cast (v':=.pointer<|some ⟨f,e+((l.getD j 0)*3+2),none⟩) (.indexAddr I I<|Yt _ _) (by rw[Nat.add_assoc])) ?_
  refine Zf I kk I mm (D3 (k:=3) (enc:=Zd) (fun _=>rfl) m.T (l.getD j 0) 2 oo dd) isAgg3 sizeOf3 (Vw (k:=3) (enc:=Zd) (fun _=>rfl) m.T (0,0,0) (l.getD j 0) oo false 1 2 _ dd dd I) (.inr I) dd ?_
  refine yv [_,_] I I call78 (bj ((m.T.getD (l.getD j 0) (0,0,0)).2.1) ((m.T.getD (l.getD j 0) (0,0,0)).2.2)) ?_
  refine Ya kk ?_;intro a w h
  refine Xe 14 ?_
  refine UT h I Nu (u:=Zo ((m.T.getD (l.getD j 0) (0,0,0)).2.1) ((m.T.getD (l.getD j 0) (0,0,0)).2.2)) (q:=1) (m:=q) I I I uu ?_;clear h;intro a w h
  refine OF kk ?_
  refine cW ?_
  refine gC h<|zr<|zp (.pN (j+1)<|.add I I)<|au 0x24 ?_;clear h;intro a w h
  exact⟨j+1,⟨oo,_,(hq.put _),by exact tO h⟩,oo⟩
 ·have A:l.length=j:=dF p
  subst A
  refine wp_exit<|wp_seq<|wp_label<|wp_block ?_
  refine lpG h [2,5,12,13,14] pkL (fun Y Z (g:Nat) a w => ∃(q:List ((Nat×Nat)×Nat)),(One q∧opn m.T q=g)∧St 80 S w0 Y [(t,mB Zy Qi q),(K,bV (Qz m s (some ⟨f,e,none⟩) r J G H) 42)] Z a w) (fun g=>g) (opn m.T q) (⟨q,⟨hq,rfl⟩,by exact h.sub sA⟩) ?_;clear h
  rintro g a w ⟨q,⟨hq,hg⟩,h⟩
  refine gC h<|au 0x924e0f90f91f3119 ?_;intro a w h
  refine lpG h [2,5,12,13,14,43,44] pkL (fun Y Z (i:Nat) a w=>i≤m.T.length∧St 80 S w0 ((45,nI i)::Y) [(t,mB Zy Qi q),(K,bV (Qz m s (some ⟨f,e,none⟩) r J G H) 42)] Z a w) (fun i=>m.T.length-i) 0 (⟨Nat.zero_le _,by exact(h).sub sA⟩) ?_;clear h
  rintro i a w ⟨L,h⟩
  refine gC h<|au 0x12c31 ?_;intro a w h
  refine Zb h I (fun n=>?_) (fun n=>?_)
  ·have D:i<m.T.length:=dT n
   refine gC h<|au 0x42f31917 ?_
   refine zD I mm (cells_lt (k:=3) dd (fun _=>rfl) m.T i oo) isAgg127 sizeOf127 (Zg (k:=3) (fun _=>rfl) ((fun _=>rfl)) m.T (0,0,0) i oo) (.inl I) ?_
   refine zz A3 fun W=>stW I I Qg ?_
   refine au 0x51f6cf90f7cf312 ?_
   refine zv [_,_] I call78 (bj ((m.T.getD i (0,0,0)).2.1) ((m.T.getD i (0,0,0)).2.2)) (zz zeroValue161 fun R=>stW I I Zt ?_)
   refine zn<|zs<|yE [0,1,2,3,4,5,6,7,8,9,12,13,14,15,16,10,11,17,18,19,20,21]<|au 0x30f8 ?_;clear h
   refine DK I kk Nu (u:=Zo ((m.T.getD i (0,0,0)).2.1) ((m.T.getD i (0,0,0)).2.2)) (m:=q) I I mm dd ?_
   refine yp I (.eql I I) ?_
   refine Ju (fun y  =>?_) (fun y  =>?_)
   focus
    refine au 0xb4f8 ?_
    refine yq I I I (.indexAddr I I<|Aw _ _)<|yg I I I I mr isAgg3 sizeOf3 Bn ?_
    refine yq I I I (.indexAddr I I<|Yu _ _)<|yg I I I I mr isAgg3 sizeOf3 Vb ?_
    refine au 0xb4f ?_
    refine yq I I I (.indexAddr I I<|Yt _ _)<|yg I I I I mr isAgg3 sizeOf3 Kz ?_
    refine yq I I I (.indexAddr I I<|Aw _ _)<|yg I I I I mr isAgg3 sizeOf3 Bn ?_
    refine Xk I I I kk (vs:=[_,_]) I call78 (bj ((m.T.getD i (0,0,0)).1) ((m.T.getD i (0,0,0)).2.1)) dd ?_
    refine NP I I I kk Nu (u:=Zo ((m.T.getD i (0,0,0)).1) ((m.T.getD i (0,0,0)).2.1)) (m:=q) I I mm dd ?_
    refine Xk I I I kk (vs:=[_,_]) I call78 (bj ((m.T.getD i (0,0,0)).2.2) ((m.T.getD i (0,0,0)).1)) dd ?_
    refine NP I I I kk Nu (u:=Zo ((m.T.getD i (0,0,0)).2.2) ((m.T.getD i (0,0,0)).1)) (m:=q) I I mm dd ?_
    refine yq I I I (.pN (((Zu q<|Zo ((m.T.getD i (0,0,0)).1) ((m.T.getD i (0,0,0)).2.1)).getD 0)+((Zu q<|Zo ((m.T.getD i (0,0,0)).2.2) ((m.T.getD i (0,0,0)).1)).getD 0))<|.binOp I I (fun _=>Jp _ _ _ _ _<|wrap_i64 _ (by have q1:=hq.get<|Zo (m.T.getD i (0,0,0)).1 (m.T.getD i (0,0,0)).2.1;have q2:=hq.get<|Zo (m.T.getD i (0,0,0)).2.2 (m.T.getD i (0,0,0)).1;omega) (by have q1:=hq.get<|Zo (m.T.getD i (0,0,0)).1 (m.T.getD i (0,0,0)).2.1;have q2:=hq.get<|Zo (m.T.getD i (0,0,0)).2.2 (m.T.getD i (0,0,0)).1;omega)))<|yq I I I (.gtr I I) ?_
    refine Ju (fun F  =>?_) (fun F  =>?_)
    ·refine au 0x5e4311ea56f ?_;intro a w h
     refine Zc<|Hf h Nu (u:=Zo ((m.T.getD i (0,0,0)).2.1) ((m.T.getD i (0,0,0)).2.2)) (q:=1) (m:=q) I I I uu ?_;clear h;intro a w h
     refine wpList_nil<|wp_exit ?_
     have V:=opn_lt D y
     exact⟨opn m.T (Kl q (Zo ((m.T.getD i (0,0,0)).2.1) ((m.T.getD i (0,0,0)).2.2)) 1),⟨_,⟨hq.put _,rfl⟩,by exact tO h⟩,oo⟩
    refine au 0xa56f ?_;intro a w h
   rotate_left
   focus
    refine au 0xaa5f02f02f02f02f02f02f02f02f02f02f02f02f02f02f02f02f8 ?_;intro a w h
   all_goals
    refine cW ?_
    refine Zj h I ?_
    refine gC h<|zk<|zr<|zp (.pN (i+1)<|.add I I)<|au 0x24 ?_;clear h;intro a w h
    exact⟨i+1,⟨oo,tO h⟩,oo⟩
  ·have E:m.T.length=i:=dF n
   subst E
   refine gC h<|au 0x6254310e ?_;clear h;intro a w h
   exact He h (Ze h I (.tmp I)) ⟨t,q,hq,rfl,rfl⟩ (List.Sublist.cons_cons _ (List.nil_sublist _))
end
section
theorem C_Bis1(m:Ms)(g d f:Option Addr)(n i l k b o:Nat)(hk:k<m.T.length)(hT:m.T.length≤10000): Xo prog 74 [.int .i64 ((k:Nat):Int),.pointer (some ⟨b,o,none⟩)] [Row (some ⟨b,o,none⟩) (Value.cells (Qz m g d f n i l)).toList] (.bool false):=by
 refine fnI func74 I ntmps74 fun S w0 p=>au 0xc4312531 ?_
 refine bbF (fun e=>(absurd (of_decide_eq_true e) oo)) fun e=>zm I<|zq 6 I I (.move I)<|zq 6 I I (.fA I Cv) ?_;intro a w h
 refine Zq 6 h I I<|Xp h (b:=b) (off:=o) (j:=1) (M:=(Value.cells<|Qz m g d f n i l).toList) (v:=.slice d m.T.length i) I mm nb isAgg39 sizeOf39 I (.inr I) dd ?_;clear h;intro a h
 refine gL h<|zq 6 I I (.builtin [_] I<|Vn _ _ _)<|zq 6 I I (.geq I I) (bbF (fun c=>(absurd (of_decide_eq_true c) oo)) fun c=>au 0x6254e ?_)
 refine rtK I
theorem og(m:Ms)(p j n:Option Addr)(v s r:Nat)(l:List Nat)(ad:Option Addr)(c b o:Nat)(y:l.length≤1000000)(hl:∀k∈l,k<m.T.length)(hT:m.T.length≤10000): Xo prog 136 [.slice ad l.length c,.func (.func 74) #[] #[.pointer (some ⟨b,o,none⟩)]] [Row ad (List.map Qi l),Row (some ⟨b,o,none⟩) (Value.cells (Qz m p j n v s r)).toList] (.int .i64 (-1)):=by
 refine fnI func136 I ntmps136 fun S w0 x=>au 0x92401f43112531 ?_;intro a w h
 refine lpG h [0,1,7] pkL (fun Y Z (i:Nat) a w=>i≤l.length∧St 19 S w0 ((8,nI i)::Y) [] Z a w) (fun i=>l.length-i) 0 (⟨Nat.zero_le _,by exact(h).sub sA⟩) ?_;clear h
 rintro i a w ⟨t,h⟩
 refine gC h<|au 0x12c31 ?_;intro a w h
 refine Zb h I (fun f=>?_) (fun f=>?_)
 ·have g:i<l.length:=dT f
  obtain ⟨u,q,rfl⟩:=h.row_addr (ad:=ad) (M:=List.map Qi l) mm nF
  refine gC h<|au 0xf1f4443125431917 ?_
  refine zD I mm (by rw[List.length_map];omega) isAgg3 sizeOf3 (Zr (enc:=Qi) (l:=l) 0 oo) (.inr I) ?_;clear h;intro a w h
  refine Zc<|Xm h (fs:=[]) (cs:=[.pointer (some ⟨b,o,none⟩)]) I (vs:=[_]) I call74 (C_Bis1 m p j n v s r (l.getD i 0) b o (hl _<|getD_mem l g) hT) ss dd ?_;clear h;intro a w h
  refine Zh h (fun d h=>(by exfalso;cases d)) (fun d h=>?_)
  refine wpList_nil ?_
  refine cW ?_
  refine Zj h I ?_
  refine gC h<|zk<|zr<|zp (.pN (i+1)<|.add I I)<|au 0x24 ?_;clear h;intro a w h
  exact⟨i+1,⟨oo,tO h⟩,oo⟩
 ·have e:l.length=i:=dF f
  subst e
  refine gC h<|au 0x625310e ?_
  refine rtK I
theorem oC(m:Ms)(e a d:Option Addr)(h g f:Nat)(l:List Nat)(ad:Option Addr)(c b o:Nat)(i:l.length≤1000000)(hl:∀k∈l,k<m.T.length)(hT:m.T.length≤10000): Xo prog 73 [.slice ad l.length c,.func (.func 74) #[] #[.pointer (some ⟨b,o,none⟩)]] [Row ad (List.map Qi l),Row (some ⟨b,o,none⟩) (Value.cells (Qz m e a d h g f)).toList] (.bool false):=by
 refine fnI func73 I ntmps73 fun S w0 j=>au 0x44312531 ?_
 refine zw [_,_] I call136 (og m e a d h g f l _ _ b o i hl hT)<|au 0x62540f ?_
 refine rtK I
end
section
theorem C6(a:Option Addr)(n c:Nat)(w:World)(ty:TypeId)(cs:Array Bool): (Go.builtin .len #[80] ty cs #[.slice a n c]).run prog w=.ok (.value (.int .i64 n)) w:=by
 simp[go_sem]
theorem NA(a:Option Addr)(n c:Nat)(w:World)(ty:TypeId)(cs:Array Bool): (Go.builtin .len #[81] ty cs #[.slice a n c]).run prog w=.ok (.value (.int .i64 n)) w:=by
 simp[go_sem]
theorem fR(w:World): (Instr.buildSlice 55 0 [].toArray).run prog w=.ok (.slice (some ⟨w.heap.size,0,none⟩) 0 0) (w.alloc (.cells #[] 104 (0,0))):=by
 simp[go_sem]
theorem SU(ad:Option Addr)(n c:Nat)(a:n≤c): Ji prog 27 [.slice ad n c] (.slice ad n n):=by
 refine fnI func27 I ntmps27 fun S w0 b=>au 0x0af40af44312531 ?_
 refine zp (.slice I none (some _) (some _) I I I (fun w=>Xx runUnderlying55 sizeOf104 _ _ _ a w))<|za I<|zn<|zt<|rtK I
theorem SR(ad:Option Addr)(n c:Nat)(a:n≤c): Ji prog 44 [.slice ad n c] (.slice ad n n):=by
 refine fnI func44 I ntmps44 fun S w0 b=>au 0x44312531 ?_
 refine zp (.builtin [_] I<|C6 _ _ _)<|zm I<|zp (.builtin [_] I<|C6 _ _ _)<|zp (.slice I none (some _) (some _) I I I (fun w=>Xx runUnderlying80 sizeOf69 _ _ _ a w))<|za I<|zn<|zt<|rtK I
theorem SS(ad:Option Addr)(n c:Nat)(a:n≤c): Ji prog 46 [.slice ad n c] (.slice ad n n):=by
 refine fnI func46 I ntmps46 fun S w0 b=>au 0xa8f4a8f44312531 ?_
 refine zp (.slice I none (some _) (some _) I I I (fun w=>Xx runUnderlying81 sizeOf125 _ _ _ a w))<|za I<|zn<|zt<|rtK I
theorem Ff:∀l:List Gv,(cellsOf Jg l).all flat=true
 | []=>rfl
 | x::l=>by rw[show cellsOf Jg (x::l)=(Jg x).cells.toList++cellsOf Jg l from rfl,List.all_append,Ff l];rfl
theorem fj(X Y:Operand)(b o n c:Nat): RN (do eqGuard .eql 55 X Y (.slice (some ⟨b,o,none⟩) n c) (.slice none 0 0);Go.binOp .eql 55 (.slice (some ⟨b,o,none⟩) n c) (.slice none 0 0):Sem Value) (.bool false):=fun w=>by
 simp[go_sem]
 have e:(Op.equalIn 10000 55 (.slice (some ⟨b,o,none⟩) n c) (.slice none 0 0)).run prog w=.ok false w:=by
  rw[show(10000:Nat)=9999+1 from rfl,Op.equalIn]
  simp[go_sem]
 show(do pure (.bool (←Op.equal 55 _ _)):Sem Value).run prog w=_
 unfold Op.equal
 simp only[Sem.run_bind]
 rw[show Op.maxDepth=10000 from rfl,e];rfl
theorem bJ(b o c:Nat)(l:List Gv)(r:l.length≤1000000): CtrO prog 28 [.slice (some ⟨b,o,none⟩) l.length c] [Row (some ⟨b,o,none⟩) (cellsOf Jg l)]
   (fun v f => ∃g i R,v=.slice (some ⟨g,0,none⟩) l.length i∧l.length≤i∧f=[(g,.cells (cellsOf Jg l++R).toArray 104 (0,0))]):=by
 refine fn_introO func28 I ntmps28 nb ?_
 intro S w0 a q h
 refine gC h<|au 0x43112531 ?_
 refine zp (.binOp I I<|fj _ _ _ _ _ _) ?_;clear h;intro a w h
 refine Zh h (fun e h=>(by exfalso;cases e)) (fun e h=>?_)
 refine wpList_nil ?_
 refine cW ?_
 refine Zj h I ?_
 refine gC h<|zk<|zS (zB [] I (fR) fun j=>zm I ?_);clear h;intro a w h
 refine Zc<|Gi (b:=j) (xs:=[]) (ys:=cellsOf Jg l) (ad2:=some ⟨b,o,none⟩) (k:=5) h I I mm I runUnderlying55 runUnderlying55 typeInfo104 sizeOf104 EC I dd dd (by exact cellsOf_length (k:=5) (fun _=>rfl) l) (Ff _) (by show 88*(2*_+192)≤281474976710656;omega) dd ?_;clear h;intro p m n a w d h
 rw[Nat.zero_add,List.nil_append] at h
 rw[Nat.zero_add] at d
 refine gL h<|au 0x625 ?_;clear h;intro a w h
 exact He h (Ze h I (.tmp I)) ⟨p,m,n,rfl,d,rfl⟩ (List.Sublist.refl _)
end
section
theorem lT{b off:Nat}: RN (Instr.fieldAt 30 (.pointer (some ⟨b,off,none⟩)) 0) (.pointer (some ⟨b,off+0,none⟩)):=fun w=>by
 simp[go_sem]
theorem PX{b off:Nat}: RN (Instr.fieldAt 26 (.pointer (some ⟨b,off,none⟩)) 0) (.pointer (some ⟨b,off+0,none⟩)):=fun w=>by
 simp[go_sem]
theorem kh{c0 c1 c2 h j g k i l m c a f d e b:Value}: Zk false 1 #[c0,c1,c2,h,j,g,k,i,l,m,c,a,f,d,e,b] 0=some c0:=rfl
theorem VK{c0 c1 c2 h j g k i l m c a f d e b v0:Value}: Zl #[c0,c1,c2,h,j,g,k,i,l,m,c,a,f,d,e,b] 0 [v0]=#[v0,c1,c2,h,j,g,k,i,l,m,c,a,f,d,e,b]:=rfl
theorem Y2{b off:Nat}: RN (Instr.fieldAt 26 (.pointer (some ⟨b,off,none⟩)) 1) (.pointer (some ⟨b,off+1,none⟩)):=fun w=>by
 simp[go_sem]
theorem VJ{c0 c1 c2 h j g k i l m c a f d e b v0:Value}: Zl #[c0,c1,c2,h,j,g,k,i,l,m,c,a,f,d,e,b] 1 [v0]=#[c0,v0,c2,h,j,g,k,i,l,m,c,a,f,d,e,b]:=rfl
theorem F5{c0 c1 c2 h j g k i l m c a f d e b:Value}: Zk true 16 #[c0,c1,c2,h,j,g,k,i,l,m,c,a,f,d,e,b] 0=some (.agg #[c0,c1,c2,h,j,g,k,i,l,m,c,a,f,d,e,b]):=rfl
theorem Te{c0 c1 c2 m o l p n q r f d i g h e v0 v1 v2 v3 v4 v5 v6 j k v9 v10 v11 v12 a b c:Value}: Zl #[c0,c1,c2,m,o,l,p,n,q,r,f,d,i,g,h,e] 0 [v0,v1,v2,v3,v4,v5,v6,j,k,v9,v10,v11,v12,a,b,c]=#[v0,v1,v2,v3,v4,v5,v6,j,k,v9,v10,v11,v12,a,b,c]:=by kernel_rfl
def Vi(x:Pn): Pn:={ x with M:={ x.M with nx:=x.M.nx.tmod 2,ny:=0 } }
theorem aj(x:Pn)(b c:Option Addr)(e d:Nat): Ji prog 4 [CO x b c e d] (CO (Vi x) b c e d):=by
 refine fnI func4 I ntmps4 fun S w0 i=>zS (zx I fun g=>zz zeroValue30 fun f=>au 0x0bf312 ?_)
 refine zp (.fA I PX)<|ldZ kh ?_
 refine au 0x0bf15f ?_
 refine zp (.fA I PX)<|stW I I VK ?_
 refine au 0x0bf312 ?_
 refine zp (.fA I Y2)<|stW I I VJ ?_
 refine zn<|zS<|ldZ F5 ?_
 refine stW I I Te ?_
 refine zn<|zt ?_;intro a w h
 refine Js h (Ze h I<|rC F5) ?_
 rfl
end
section
abbrev Ent:=Nat×List Nat×Option Addr×Nat×List (Nat×Obj)
abbrev v3(e:Ent): Option Addr×Nat×Nat:=(e.2.2.1,e.2.1.length,e.2.2.2.1)
abbrev Me(v:Option Addr×Nat×Nat): Value:=.slice v.1 v.2.1 v.2.2
def BW(q:List Ent): List (Nat×(Option Addr×Nat×Nat)):=q.map fun e=>(e.1,v3 e)
def Nm:List Ent→List (Nat×Obj)
 | []=>[]
 | e::q=>e.2.2.2.2++Nm q
def OkE(e:Ent): Prop:=GrowO 1 3 (.slice e.2.2.1 e.2.1.length e.2.2.2.1) e.2.1.length (List.map Qi e.2.1) e.2.2.2.2
def OkAT(q:List Ent): Prop := ∀e∈q,OkE e
def lkA:List Ent→Nat→List Nat
 | [],_=>[]
 | e::q,p=>if e.1=p then e.2.1 else lkA q p
theorem Z5:∀ {q:List Ent},OkAT q → ∀p:Nat,∃(a:Option Addr) (c:Nat) (o r:List (Nat×Obj)),
  (Nm q).Perm (o++r)∧GrowO 1 3 (.slice a (lkA q p).length c) (lkA q p).length (List.map Qi (lkA q p)) o∧(Zu (BW q) p).getD (none,0,0)=(a,(lkA q p).length,c) ∧
  ∀(l':List Nat) (g:Option Addr) (f:Nat) (o':List (Nat×Obj)),GrowO 1 3 (.slice g l'.length f) l'.length (List.map Qi l') o' →
   ∃i,OkAT i∧Kl (BW q) p (g,l'.length,f)=BW i∧(Nm i).Perm (o'++r) ∧ ∀b,lkA i b=if b=p then l' else lkA q b
 | [],_,p=>by
  refine⟨none,0,[],[],List.Perm.refl _,GrowO.nil _ _,rfl,fun l' g f o' j=>⟨[(p,l',g,f,o')],fun e he=>?_,rfl,List.Perm.refl _,fun b=>?_⟩⟩
  ·rw[List.mem_singleton] at he;subst he;exact j
  ·by_cases h:b=p
   ·rw[if_pos h,h];exact if_pos rfl
   ·rw[if_neg h];exact if_neg fun e=>h e.symm
 | e::q,hq,p=>by
  by_cases d:e.1=p
  ·have hl:lkA (e::q) p=e.2.1:=if_pos d
   rw[hl]
   refine⟨e.2.2.1,e.2.2.2.1,e.2.2.2.2,Nm q,List.Perm.refl _,hq e (List.Mem.head _),?_,fun l' g f o' j=>⟨(p,l',g,f,o')::q,fun x hx=>?_,?_,List.Perm.refl _,fun b=>?_⟩⟩
   ·show(Zu ((e.1,v3 e)::BW q) p).getD _=_
    rw[Zu,if_pos d];rfl
   ·rcases List.mem_cons.1 hx with rfl|hx
    ·exact j
    ·exact hq x (List.Mem.tail _ hx)
   ·show Kl ((e.1,v3 e)::BW q) p _=_
    rw[Kl,if_pos d];rfl
   ·by_cases h:b=p
    ·rw[if_pos h,h];exact if_pos rfl
    ·rw[if_neg h]
     show(if p=b then _ else lkA q b)=(if e.1=b then _ else lkA q b)
     rw[if_neg fun e=>h e.symm,if_neg fun k=>h (by rw[←k,d])]
  ·have hl:lkA (e::q) p=lkA q p:=if_neg d
   rw[hl]
   obtain ⟨a,c,o,r,h1,l,m,n⟩:=Z5 (q:=q) (fun x hx=>hq x (List.Mem.tail _ hx)) p
   refine⟨a,c,o,e.2.2.2.2++r,?_,l,?_,fun l' g f o' j=>?_⟩
   ·refine(List.Perm.append_left _ h1).trans ?_
    rw[←List.append_assoc, ←List.append_assoc]
    exact List.Perm.append_right _ List.perm_append_comm
   ·show(Zu ((e.1,v3 e)::BW q) p).getD _=_
    rw[Zu,if_neg d];exact m
   ·obtain ⟨i,k1,k2,k3,k4⟩:=n l' g f o' j
    refine⟨e::i,fun x hx=>?_,?_,?_,fun b=>?_⟩
    ·rcases List.mem_cons.1 hx with rfl|hx
     ·exact hq _ (List.Mem.head _)
     ·exact k1 x hx
    ·show Kl ((e.1,v3 e)::BW q) p _=_
     rw[Kl,if_neg d,k2];rfl
    ·refine(List.Perm.append_left _ k3).trans ?_
     rw[←List.append_assoc, ←List.append_assoc]
     exact List.Perm.append_right _ List.perm_append_comm
    ·show(if e.1=b then _ else lkA i b)=if b=p then l' else (if e.1=b then _ else lkA q b)
     by_cases h:b=p
     ·rw[if_pos h,if_neg fun k=>d (by rw[k,h]),k4,if_pos h]
     ·rw[if_neg h,k4,if_neg h]
abbrev rowE(e:Ent): Zp:=Row e.2.2.1 (List.map Qi e.2.1)
theorem Q0{n:Nat}{S:Nat→Prop}{w0:World}{L:List (Nat×Value)}(b:∀k,S k→k<w0.heap.size): ∀ {q:List Ent} {σ:List (Nat×Obj)} {Φ:List Zp} {a:Act} {w:World},OkAT q→St n S w0 L (Nm q++σ) Φ a w→St n S w0 L σ (Yi (q.map rowE)::Φ) a w
 | [],σ,Φ,a,w,_,h=>h.gatherR (l:=[]) (fun _ hx=>nomatch hx)
 | e::q,σ,Φ,a,w,hq,h=>by
  have h1:St n S w0 L (e.2.2.2.2++(Nm q++σ)) Φ a w:=by rw[←List.append_assoc];exact h
  have c:=h1.shareO' b (hq e (List.Mem.head _))
  have f:=Q0 b (fun x hx=>hq x (List.Mem.tail _ hx)) c
  have g:=f.gatherR (l:=[rowE e]) (fun x hx=>by rw[List.mem_singleton] at hx;subst hx;exact List.Mem.tail _ (List.Mem.head _))
  have d:=g.joinR (l:=[rowE e]) (k:=q.map rowE) (List.Mem.head _) (List.Mem.tail _ (List.Mem.head _))
  exact d.factsSub (fun R hR=>by
   rcases List.mem_cons.1 hR with rfl|hR
   ·exact List.Mem.head _
   ·exact List.Mem.tail _ (List.Mem.tail _ (List.Mem.tail _ (List.Mem.tail _ hR))))
theorem jj:∀ {q:List Ent} {p:Nat},lkA q p≠[] → ∃a c,(Zu (BW q) p).getD (none,0,0)=(a,(lkA q p).length,c)∧Row a (List.map Qi (lkA q p))∈q.map rowE
 | [],p,h=>absurd rfl h
 | e::q,p,h=>by
  by_cases b:e.1=p
  ·have hl:lkA (e::q) p=e.2.1:=if_pos b
   rw[hl]
   refine⟨e.2.2.1,e.2.2.2.1,?_,List.Mem.head _⟩
   show(Zu ((e.1,v3 e)::BW q) p).getD _=_
   rw[Zu,if_pos b];rfl
  ·have hl:lkA (e::q) p=lkA q p:=if_neg b
   rw[hl] at h ⊢
   obtain ⟨a,c,h1,d⟩:=jj h
   refine⟨a,c,?_,List.Mem.tail _ d⟩
   show(Zu ((e.1,v3 e)::BW q) p).getD _=_
   rw[Zu,if_neg b];exact h1
abbrev trT(T:List (Nat×Nat×Nat))(i:Nat): Nat×Nat×Nat:=T.getD i (0,0,0)
structure AtC(T:List (Nat×Nat×Nat))(q:List Ent)(i j:Nat): Prop where
 ok:OkAT q
 lt:∀p,∀o∈lkA q p,o<T.length
 mem:∀t j',j'<3→(t<i∨t=i∧j'<j)→t∈lkA q (crn (trT T t) j')
 len:∀p,(lkA q p).length≤3*i+j
theorem AtC.nil(T:List (Nat×Nat×Nat)): AtC T [] 0 0:=⟨fun _ h=>(nomatch h),fun _ _ h=>(nomatch h),fun t a _ h=>by omega,fun p=>Nat.le_refl _⟩
theorem AtC.step{T:List (Nat×Nat×Nat)}{q c:List Ent}{i j:Nat}(h:AtC T q i j)(f:i<T.length)(ok:OkAT c)(hr:∀b,lkA c b=if b=crn (trT T i) j then lkA q (crn (trT T i) j)++[i] else lkA q b): AtC T c i (j+1):=by
 refine⟨ok,fun p o ho=>?_,fun t d a ht=>?_,fun p=>?_⟩
 ·rw[hr] at ho
  split at ho
  ·rcases List.mem_append.1 ho with ho|ho
   ·exact h.lt _ _ ho
   ·rw[List.mem_singleton] at ho;rw[ho];exact f
  ·exact h.lt _ _ ho
 ·rw[hr]
  by_cases e:t=i∧d=j
  ·obtain ⟨rfl,rfl⟩:=e
   rw[if_pos rfl];simp
  ·have:=h.mem t d a oo
   split
   ·rename_i g;rw[g] at this;exact List.mem_append_left _ this
   ·exact this
 ·rw[hr]
  split
  ·have:=h.len (crn (trT T i) j);rw[List.length_append,List.length_singleton];omega
  ·have:=h.len p;omega
theorem AtC.next{T:List (Nat×Nat×Nat)}{q:List Ent}{i:Nat}(h:AtC T q i 3): AtC T q (i+1) 0 :=
 ⟨h.ok,h.lt,fun t b a ht=>h.mem t b a oo,fun p=>by have:=h.len p;omega⟩
def AdjT(T:List (Nat×Nat×Nat))(o o':Nat): Prop := ∃j j',j<3∧j'<3∧crn (trT T o) j=crn (trT T o') j'
def jo(T:List (Nat×Nat×Nat)): Prop := ∀X:Nat→Prop,X 0→(∀o o',o<T.length→o'<T.length→X o→AdjT T o o'→X o') → ∀o,o<T.length→X o
def fL(l:List Int): Nat:=(l.filter (· == -1)).length
theorem Mr:∀ {l:List Int} {o:Nat},o<l.length→l.getD o 0 = -1→fL (l.set o 0)+1=fL l
 | [],o,h,_=>absurd h (Nat.not_lt_zero _)
 | x::l,0,_,h=>by
  have hx:x = -1:=h
  subst hx
  simp[fL]
 | x::l,o+1,h,h1=>by
  have a:=Mr (l:=l) (o:=o) (by simpa using h) (by simpa using h1)
  show fL (x::l.set o 0)+1=fL (x::l)
  unfold fL at a ⊢
  rw[List.filter_cons,List.filter_cons]
  split
  ·simp only[List.length_cons];omega
  ·exact a
theorem Dc{l:List Int}{o x:Nat}(h:l.getD x 0=0): (l.set o 0).getD x 0=0:=by
 simp only[List.getD] at h ⊢
 rw[List.getElem?_set]
 split
 ·split<;>simp
 ·exact h
theorem A8{l:List Int}{o:Nat}(h:o<l.length)(v:Int): (l.set o v).getD o 0=v:=by simp[List.getD,h]
theorem Db{l:List Int}{o x:Nat}(v:Int)(h:x≠o): (l.set o v).getD x 0=l.getD x 0:=by
 simp only[List.getD];rw[List.getElem?_set_ne (fun e=>h e.symm)]
structure BF(T:List (Nat×Nat×Nat))(g k:Nat)(l:List Int)(td:List Nat): Prop where
 len:l.length=T.length
 val:∀o,o<T.length→l.getD o 0 = -1∨l.getD o 0=0
 tdk:∀x∈td,x<T.length∧l.getD x 0=0
 z0:l.getD 0 0=0
 cl:∀o,o<T.length→l.getD o 0=0→o∉td→o≠k → ∀o',o'<T.length→AdjT T o o'→l.getD o' 0=0
 ms:2*fL l+td.length≤g
theorem BF.pop{T:List (Nat×Nat×Nat)}{g k:Nat}{l:List Int}{b:List Nat}(h:BF T g T.length l (b++[k])): BF T (g-1) k l b:=by
 refine⟨h.len,h.val,fun x hx=>h.tdk x (List.mem_append_left _ hx),h.z0,fun o ho d h1 c o' a ha=>h.cl o ho d (fun hm=>?_) oo o' a ha,?_⟩
 ·rcases List.mem_append.1 hm with hm|hm
  ·exact h1 hm
  ·exact c (List.mem_singleton.1 hm)
 ·have:=h.ms;rw[List.length_append,List.length_singleton] at this;omega
theorem cut_G{b c k:Nat}{a:List Nat}{R:List Value}(hR:(List.map Qi (a++[k])++R).length=c*1)(hc:(a++[k]).length≤c):
  GrowO 1 3 (.slice (some ⟨b,0,none⟩) a.length c) a.length (List.map Qi a) [(b,Obj.cells (List.map Qi (a++[k])++R).toArray 3 (0,0))]:=by
 have e:List.map Qi (a++[k])++R=List.map Qi a++(Qi k::R):=by rw[List.map_append,List.append_assoc];rfl
 rw[e] at hR ⊢
 rw[List.length_append,List.length_singleton] at hc
 exact⟨by rw[List.length_map,Nat.mul_one],.inr ⟨b,c,_,rfl,hR,oo,rfl⟩⟩
theorem jO{c:List Nat}(h:0<c.length): ∃b k,c=b++[k]:=by
 rcases List.eq_nil_or_concat c with e|⟨a,k,e⟩
 ·rw[e] at h;cases h
 ·exact⟨a,k,by simpa using e⟩
theorem Rn{α:Type}{a o r s:List α}(h:a.Perm (o++r)): (a++s).Perm (o++(r++s)):=by rw[←List.append_assoc];exact h.append_right s
theorem YC(t:Nat×Nat×Nat)(j:Nat)(hj:j<3): RN (Instr.index 127 (Zd t) (.int .i64 ((j:Nat):Int))) (.int .i64 ((crn t j:Nat):Int)):=fun w=>by
 have:j=0∨j=1∨j=2:=oo
 rcases this with rfl|rfl|rfl<;>(unfold Instr.index;simp[go_sem,crn])
theorem BF.mark{T:List (Nat×Nat×Nat)}{g k o:Nat}{l:List Int}{c:List Nat}(h:BF T g k l c)(ho:o<T.length)(hm:l.getD o 0 = -1): BF T g k (l.set o 0) (c++[o]):=by
 have hl:o<l.length:=by rw[h.len];exact ho
 refine⟨by rw[List.length_set,h.len],fun x hx=>?_,fun x hx=>?_,Dc h.z0,fun x hx d h1 f o' a ha=>?_,?_⟩
 ·by_cases e:x=o
  ·subst e;right;rw[A8 hl]
  ·rw[Db _ e];exact h.val x hx
 ·rcases List.mem_append.1 hx with hx|hx
  ·exact⟨(h.tdk x hx).1,Dc (h.tdk x hx).2⟩
  ·rw[List.mem_singleton] at hx;subst hx;exact⟨ho,A8 hl 0⟩
 ·have b:x≠o:=fun e=>h1 (by rw[e];simp)
  rw[Db _ b] at d
  exact Dc (h.cl x hx d (fun hm=>h1 (List.mem_append_left _ hm)) f o' a ha)
 ·have:=h.ms;have:=Mr hl hm;rw[List.length_append];simp;omega
theorem BF.close{T:List (Nat×Nat×Nat)}{g k:Nat}{l:List Int}{d:List Nat}{q:List Ent}(h:BF T g k l d)(ha:AtC T q T.length 0)(m:∀j,j<3 → ∀o∈lkA q (crn (trT T k) j),l.getD o 0=0): BF T g T.length l d :=
 ⟨h.len,h.val,h.tdk,h.z0,fun o ho i h1 _ o' b a=>by
  by_cases e:o=k
  ·subst e
   obtain ⟨j,f,hj,c,he⟩:=a
   exact m j hj o' (by rw[he];exact ha.mem o' f c (.inl b))
  ·exact h.cl o ho i h1 e o' b a,h.ms⟩
theorem BF.done{T:List (Nat×Nat×Nat)}{g:Nat}{l:List Int}(h:BF T g T.length l [])(hc:jo T): l=List.replicate T.length 0:=by
 have h1:=hc (fun o=>o<T.length→l.getD o 0=0) (fun _=>h.z0) (fun o o' ho b hx ha _=>h.cl o ho (hx ho) (fun h=>nomatch h) oo o' b ha)
 apply List.ext_getElem
 ·rw[h.len,List.length_replicate]
 ·intro i a c
  have:=h1 i (by rw[←h.len];exact a) (by rw[←h.len];exact a)
  simp only[List.getD,List.getElem?_eq_getElem a,Option.getD_some] at this
  rw[this,List.getElem_replicate]
theorem BF.start{T:List (Nat×Nat×Nat)}(h:0<T.length): BF T (2*T.length) T.length ((List.replicate T.length (-1:Int)).set 0 0) [0]:=by
 have a:0<(List.replicate T.length (-1:Int)).length:=by simpa using h
 have b:∀o,o<T.length→(List.replicate T.length (-1:Int)).getD o 0 = -1:=fun o ho=>by simp[List.getD,ho]
 have hc:fL (List.replicate T.length (-1:Int))=T.length:=by simp[fL]
 have h1:=Mr a (b 0 h)
 refine⟨by simp,fun o ho=>?_,fun x hx=>?_,A8 a 0,fun o ho c d _=>?_,?_⟩
 ·by_cases e:o=0
  ·subst e;right;exact A8 a 0
  ·left;rw[Db _ e];exact b o ho
 ·rw[List.mem_singleton] at hx;subst hx;exact⟨h,A8 a 0⟩
 ·have e:o≠0:=fun e=>d (by rw[e];simp)
  rw[Db _ e,b o ho] at c;cases c
 ·simp only[List.length_cons,List.length_nil];omega
structure BG(T:List (Nat×Nat×Nat))(q:List Ent)(g k j i:Nat)(l:List Int)(td:List Nat): Prop where
 bf:BF T g k l td
 c:∀j',j'<j → ∀o∈lkA q (crn (trT T k) j'),l.getD o 0=0
 o:∀i',i'<i→l.getD ((lkA q (crn (trT T k) j)).getD i' 0) 0=0
theorem BG.mark{T:List (Nat×Nat×Nat)}{q:List Ent}{g k j i:Nat}{l:List Int}{b:List Nat}(h:BG T q g k j i l b)(ho:(lkA q (crn (trT T k) j)).getD i 0<T.length)(hm:l.getD ((lkA q (crn (trT T k) j)).getD i 0) 0<0):
  BG T q g k j (i+1) (l.set ((lkA q (crn (trT T k) j)).getD i 0) 0) (b++[(lkA q (crn (trT T k) j)).getD i 0]):=by
 have a:=(h.bf.val _ ho).resolve_right oo
 refine⟨h.bf.mark ho a,fun f hj o ho=>Dc (h.c f hj o ho),fun d m=>?_⟩
 by_cases e:d=i
 ·subst e;exact A8 (by rw[h.bf.len];exact ho) 0
 ·exact Dc (h.o d oo)
theorem BG.skip{T:List (Nat×Nat×Nat)}{q:List Ent}{g k j i:Nat}{l:List Int}{d:List Nat}(h:BG T q g k j i l d)(ho:(lkA q (crn (trT T k) j)).getD i 0<T.length)(hm:¬l.getD ((lkA q (crn (trT T k) j)).getD i 0) 0<0):
  BG T q g k j (i+1) l d:=by
 have a:=(h.bf.val _ ho).resolve_left oo
 refine⟨h.bf,h.c,fun b f=>?_⟩
 by_cases e:b=i
 ·subst e;exact a
 ·exact h.o b oo
theorem BG.next{T:List (Nat×Nat×Nat)}{q:List Ent}{g k j:Nat}{l:List Int}{f:List Nat}(h:BG T q g k j (lkA q (crn (trT T k) j)).length l f): BG T q g k (j+1) 0 l f:=by
 refine⟨h.bf,fun b hj o ho=>?_,fun d a=>absurd a (Nat.not_lt_zero _)⟩
 by_cases e:b=j
 ·subst e
  obtain ⟨d,a,rfl⟩:=List.mem_iff_getElem.1 ho
  have:=h.o d a
  rwa[show(lkA q (crn (trT T k) b)).getD d 0=(lkA q (crn (trT T k) b))[d] from by rw[List.getD,List.getElem?_eq_getElem a];rfl] at this
 ·exact h.c b oo o ho
theorem Pz(n:Nat): List.map Hq (List.replicate n (0:Int))=Cj n (Value.cells (.int .i64 0)).toList:=by
 rw[show(Value.cells (.int .i64 0)).toList=[Value.int .i64 0] from rfl,AL];simp
theorem mU{l:List Int}{n:Nat}(h:l.length=n)(h1:∀o,o<n→l.getD o 0 = -1): l=List.replicate n (-1):=by
 apply List.ext_getElem
 ·rw[h,List.length_replicate]
 ·intro i a b
  have:=h1 i oo
  simp only[List.getD,List.getElem?_eq_getElem a,Option.getD_some] at this
  rw[this,List.getElem_replicate]
theorem RV{k:Nat}{E:TypeId}{ad:Option Addr}{m c:Nat}{xs:List Value}{o:List (Nat×Obj)}(h:GrowO k E (.slice ad m c) m xs o)(hm:0<m):
  ∃b R,ad=some ⟨b,0,none⟩∧(b,Obj.cells (xs++R).toArray E (0,0))∈o:=by
 obtain ⟨b,R,h1,a,_,_⟩:=GrowO.open h hm
 exact⟨b,R,h1,by rw[a];exact List.Mem.head _⟩
theorem mT{l:List Int}{r n:Nat}(hl:l.length=n)(hr:r<n)(h:∀o,o<r→l.getD o 0 = -1): ∀o,o<r+1→(l.set r (-1)).getD o 0 = -1:=fun o ho=>by
 by_cases e:o=r
 ·rw[e];exact A8 oo _
 ·rw[Db _ e];exact h o oo
theorem kZ:MK prog 580 3 69 Qi (Me (none,0,0)):=MK.ofInt (q:=.i64) (f:=fun x:Nat=>(x:Int)) runUnderlying580 zeroValue69 runUnderlying3 (fun x y h=>by omega)
end
section
theorem nY(K:Nat)(m:Ms)(x c9 y:Option Addr)(cP cT cS:Nat)(hv:MV K m)(hc:jo m.T): CtrO prog 351 [Qz m x c9 y cP cT cS] [Row x (cellsOf encPt m.P),Row c9 (cellsOf Zd m.T),Row y (cellsOf Zd m.S)] (fun v o => ∃b,v=.tuple #[.slice (some ⟨b,0,none⟩) m.T.length m.T.length,.int .i64 ((1:Nat):Int)]∧o=[(b,.cells (List.map Hq (List.replicate m.T.length 0)).toArray 3 (0,0))]):=by
 have h7:=hv.ne
 have n1:=hv.nT
 refine fn_introO func351 I ntmps351 nb ?_
 intro S w0 a hS h
 obtain ⟨n,f,rfl⟩:=h.row_addr (ad:=c9) (M:=cellsOf Zd m.T) mm (nE 3)
 refine gC h<|zS (zx I fun b1=>za I<|za I<|zn<|zc<|au 0xce311 ?_)
 refine zw [_] I call72 (G3 K m _ _ _ _ _ _ hv)<|au 0x20f ?_
 refine bbF (fun a8=>(by exfalso;cases a8)) fun a8=>zm I<|zq 20 I I (.fA I Cv)<|ldQ 20 Vb ?_
 refine zq 20 I I (.builtin [_] I<|Vn _ _ _)<|zq 20 I I (.eql I I) (bbF (fun a7=>(by exfalso;have:=eq_of_beq a7;omega)) fun a7=>au 0x24e ?_);clear h;intro a w h
 refine Zj h I ?_
 refine wp_skip<|wp_seq<|wp_region_lit ?_
 refine Zc<|D8 Qi Me h dd ?_;clear h;intro D a w h
 refine gL h<|au 0x924e0f90f91f31125 ?_;clear h;intro a w h
 refine lpG h [1,2,3,4,28,29] pkL (fun Y Z (i:Nat) a w=>i≤m.T.length ∧ ∃(q:List Ent),(AtC m.T q i 0)∧St 128 S w0 ((30,nI i)::Y) ((Nm q)++((D,mB Qi Me<|BW q)::((b1,bV (Qz m x (some ⟨n,f,none⟩) y cP cT cS) 42)::[]))) Z a w) (fun i=>m.T.length-i) 0 (⟨Nat.zero_le _,[],AtC.nil _,by exact(h).sub sA⟩) ?_;clear h
 rintro i a w ⟨e6,q,hq,h⟩
 refine gC h<|au 0x12c31 ?_;intro a w h
 refine Zb h I (fun X=>?_) (fun X=>?_)
 ·have G:i<m.T.length:=dT X
  refine gC h<|au 0x42f431917 ?_
  refine zD I mm (cells_lt (k:=3) dd (fun _=>rfl) m.T i oo) isAgg127 sizeOf127 (Zg (k:=3) (fun _=>rfl) ((fun _=>rfl)) m.T (0,0,0) i oo) (.inl I) ?_
  refine zz A3 fun b6=>za I<|stW I I Qg ?_
  refine au 0x924ce312 ?_;clear h;intro a w h
  replace h:=h.perm List.perm_middle
  refine lpG h [1,2,3,4,5,28,29,30,35] pkL (fun Y Z (j:Nat) a w=>j≤3 ∧ ∃(q2:List Ent),(AtC m.T q2 i j)∧St 128 S w0 ((36,nI j)::Y) ((Nm q2)++((b6,bV (Zd<|m.T.getD i (0,0,0)) 127)::((D,mB Qi Me<|BW q2)::((b1,bV (Qz m x (some ⟨n,f,none⟩) y cP cT cS) 42)::[])))) Z a w) (fun j=>3-j) 0 (⟨Nat.zero_le _,q,hq,by exact h.sub sA⟩) ?_;clear h
  rintro j a w ⟨e4,q2,a1,h⟩
  refine gC h<|au 0x12c31 ?_;intro a w h
  refine Zb h I (fun U=>?_) (fun U=>?_)
  ·have t:j<3:=dT U
   refine gC h<|zk<|zs<|zb<|zS<|zp (.index I I<|YC _ _ t)<|au 0x4444325 ?_;clear h;intro a w h
   refine Zc<|Np h kZ (u:=crn (m.T.getD i (0,0,0)) j) (m:=BW q2) I I mm dd ?_;clear h;intro a h
   obtain ⟨a4,c4,o4,r4,h8,h9,i1,j1⟩:=Z5 a1.ok (crn (m.T.getD i (0,0,0)) j)
   have l9:=a1.len (crn (m.T.getD i (0,0,0)) j)
   rw[i1] at h
   replace h:=h.perm (Rn h8).symm
   refine gL h<|zm I (zB [(_,_)] I (Jf _) fun n3=>?_)
   refine apM Qi (lkA q2<|crn (m.T.getD i (0,0,0)) j) [i] h9 ?_;intro e8 j0 n2 h6 a w h
   refine Zc<|Hf h kZ (u:=crn (m.T.getD i (0,0,0)) j) (q:=(e8,((lkA q2<|crn (m.T.getD i (0,0,0)) j)++[i]).length,j0)) (m:=BW q2) I I I uu ?_;clear h;intro a w h
   obtain ⟨q3,b5,h4,i6,j7⟩:=j1 _ _ _ _ h6
   have j9:=a1.step G b5 j7
   rw[h4] at h
   replace h:=h.perm (Rn i6)
   refine gL h<|zn<|zr<|zp (.pN (j+1)<|.add I I)<|au 0x24 ?_;clear h;intro a w h
   exact⟨j+1,⟨oo,q3,j9,by exact tO h⟩,oo⟩
  ·have E:3=j:=dF U
   subst E
   refine gC h<|ze<|zr<|zp (.pN (i+1)<|.add I I)<|au 0x24 ?_;clear h;intro a w h
   exact⟨i+1,⟨oo,q2,a1.next,by exact tO h⟩,oo⟩
 ·have C:m.T.length=i:=dF X
  subst C
  replace h:=Q0 hS hq.ok h
  refine gC h<|au 0xe0f90f91f310e ?_;clear h;intro a w h
  refine Zc<|Je h I I runUnderlying69 typeInfo3 sizeOf3 zeroValue3 I dd (by exact Nat.le_refl _) (by show 8*(m.T.length)≤281474976710656;omega) oo dd ?_;clear h;intro J a w h;replace h:=h.same I (by rw[←Pz]) I
  refine gL h<|au 0x92401f431125 ?_;intro a w h
  refine lpG h [1,2,3,4,28,29,30,54] pkL (fun Y Z (r:Nat) a w=>r≤m.T.length ∧ ∃(l4:List Int),(l4.length=m.T.length ∧ ∀o,o<r→l4.getD o 0 = -1)∧St 128 S w0 ((55,nI r)::Y) [(J,.cells (List.map Hq<|l4).toArray 3 (0,0)),(D,mB Qi Me<|BW q),(b1,bV (Qz m x (some ⟨n,f,none⟩) y cP cT cS) 42)] Z a w) (fun r=>m.T.length-r) 0 (⟨Nat.zero_le _,List.replicate m.T.length 0,⟨List.length_replicate,fun _ h=>absurd h (Nat.not_lt_zero _)⟩,by exact(h).sub sA⟩) ?_;clear h
  rintro r a w ⟨k9,l4,⟨b7,e3⟩,h⟩
  refine gC h<|au 0x12c31 ?_;intro a w h
  refine Zb h I (fun Q=>?_) (fun Q=>?_)
  ·have c8:r<m.T.length:=dT Q
   refine gC h<|au 0xf1f44325431917 ?_
   refine zt' I I ((congrArg (fun z=>Zl _ z _)<|Nat.zero_add _).trans<|Qy (enc:=Hq) l4 r (-1)) uu sizeOf3 I (by simp;omega) I ?_
   refine zn<|zr<|zp (.pN (r+1)<|.add I I)<|au 0x24 ?_;clear h;intro a w h
   exact⟨r+1,⟨oo,_,⟨by rw[List.length_set];exact b7,mT b7 c8 e3⟩,by exact tO h⟩,oo⟩
  ·have c6:m.T.length=r:=dF Q
   subst c6
   have j5:=mU b7 e3
   subst j5
   refine gC h<|ze<|zs<|zl<|au 0x92401f4311 ?_;clear h;intro a w h
   refine lpG h [1,2,4,28,29,30,54,55,63] pkL (fun Y Z (u:Nat) a w=>u≤m.T.length ∧ ∃(l6:List Int) (nn:Nat),((u=0∧l6=List.replicate m.T.length (-1)∧nn=0)∨(0<u∧l6=List.replicate m.T.length 0∧nn=1))∧St 128 S w0 ((3,nI nn)::(64,nI u)::Y) [(J,.cells (List.map Hq<|l6).toArray 3 (0,0)),(D,mB Qi Me<|BW q),(b1,bV (Qz m x (some ⟨n,f,none⟩) y cP cT cS) 42)] Z a w) (fun u=>m.T.length-u) 0 (⟨Nat.zero_le _,List.replicate m.T.length (-1),0,.inl ⟨rfl,rfl,rfl⟩,by exact(h).sub sA⟩) ?_;clear h
   rintro u a w ⟨k7,l6,nn,hu,h⟩
   refine gC h<|au 0x12c31 ?_;intro a w h
   refine Zb h I (fun N=>?_) (fun N=>?_)
   ·have b8:u<m.T.length:=dT N
    have j6:l6.length=m.T.length:=by rcases hu with ⟨_,rfl,_⟩|⟨_,rfl,_⟩<;>exact List.length_replicate
    refine gC h<|au 0xf1f4431125431917 ?_
    refine zd I mm isAgg3 sizeOf3 ((congrArg _<|Nat.zero_add _).trans<|Zr (enc:=Hq) (l:=l6) 0 oo) ?_
    refine au 0x240f ?_;clear h;intro a w h
    refine Zb h I (fun O=>?_) (fun O=>?_)
    focus
     obtain ⟨l7,rfl,rfl⟩:0<u∧l6=List.replicate m.T.length 0∧nn=1:=by
      rcases hu with ⟨rfl,rfl,rfl⟩|hh
      ·exfalso;have:=of_decide_eq_true O;simp[List.getD,h7] at this
      ·exact hh
     refine gC h<|ze<|zr<|zp (.pN (u+1)<|.add I I)<|au 0x24 ?_;clear h;intro a w h
    rotate_left
    focus
     obtain ⟨j4,rfl,rfl⟩:u=0∧l6=List.replicate m.T.length (-1)∧nn=0:=by
      rcases hu with hh|⟨hh,rfl,rfl⟩
      ·exact hh
      ·exfalso;have:=of_decide_eq_false O;simp[List.getD,b8] at this
     refine gC h<|zk<|zS<|zm I (zB [(_,_)] I (Jf _) fun c7=>au 0xf1f4443125 ?_)
     refine zt' I I ((congrArg (fun z=>Zl _ z _)<|Nat.zero_add _).trans<|Qy (enc:=Hq) (((List.replicate m.T.length (-1)))) u 0) uu sizeOf3 I (by simp;omega) I ?_;clear h;intro a w h
     refine wpList_nil<|wp_seq<|wp_block ?_
     refine lpG h [1,2,3,4,28,29,30,54,55,63,64,76] pkL (fun Y Z (g:Nat) a w => ∃(l:List Int) (td:List Nat) (e2:Option Addr) (c1:Nat) (o1:List (Nat×Obj)),(g≤2*m.T.length∧BF m.T g m.T.length l td∧GrowO 1 3 (.slice e2 td.length c1) td.length (List.map Qi td) o1)∧St 128 S w0 ((11,(.slice e2 (td).length c1))::Y) (o1++((J,.cells (List.map Hq<|l).toArray 3 (0,0))::((D,mB Qi Me<|BW q)::((b1,bV (Qz m x (some ⟨n,f,none⟩) y cP cT cS) 42)::[])))) Z a w) (fun g=>g) (2*m.T.length) (⟨(List.replicate m.T.length (-1)).set u 0,[u],some ⟨c7,0,none⟩,1,[(c7,Obj.cells (List.map Qi [u]).toArray 3 (0,0))],⟨Nat.le_refl _,(by rw[j4];exact BF.start h7),rfl,.inr ⟨c7,1,[],rfl,rfl,Nat.le_refl _,rfl⟩⟩,by exact h.sub sA⟩) ?_;clear h
     rintro g a w ⟨l,td,e2,c1,o1,⟨hg,hB,j2⟩,h⟩
     refine gC h<|au 0x270f01f4311 ?_;intro a w h
     refine Zb h I (fun W=>?_) (fun W=>?_)
     ·have a6:0<td.length:=dT W
      obtain ⟨s,k,rfl⟩:=jO a6
      obtain ⟨h3,n0,rfl,rfl,h5,b0⟩:=GrowO.open j2 a6
      have h0:=hB.pop
      have n4:=hB.ms
      obtain ⟨b5,h4⟩:=hB.tdk k ss
      have l8:0<g:=by have:=hB.ms;simp only[List.length_append,List.length_singleton] at this;omega
      refine gC h<|au 0x01f443197 ?_
      refine zp (.pO (((s++[k]).length)-1)<|.sub I I) ?_;clear h;intro a w h
      (try dsimp only[nI] at h);rw[show(((s++[k]).length-1:Nat):Int)=((s.length:Nat):Int) from by rw[List.length_append];rfl] at h
      refine gL h<|zp (.indexAddr I I<|Hv _ _ _ _ _ (by rw[List.length_append,List.length_singleton];omega))<|zd I mm isAgg3 sizeOf3 ((congrArg _<|Nat.zero_add _).trans<|Wo (enc:=Qi) (l:=(s++[k])) 0 (by rw[List.length_append,List.length_singleton];omega)) ?_;clear h;intro a w h
      rw[show(s++[k]).getD s.length 0=k from by simp[List.getD]] at h
      refine gL h<|au 0x01f443125 ?_
      refine zp (.pO (((s++[k]).length)-1)<|.sub I I) ?_;clear h;intro a w h
      (try dsimp only[nI] at h);rw[show(((s++[k]).length-1:Nat):Int)=((s.length:Nat):Int) from by rw[List.length_append];rfl] at h
      refine gL h<|zp (.slice I none (some _) none I I I<|iz _ _ _ _ (by rw[List.length_append] at b0;omega)) ?_
      have e7:=cut_G (b:=h3) h5 b0
      refine au 0x42f490f91f3125 ?_
      refine zD I mm (cells_lt (k:=3) dd (fun _=>rfl) m.T k oo) isAgg127 sizeOf127 (Zg (k:=3) (fun _=>rfl) ((fun _=>rfl)) m.T (0,0,0) k oo) (.inl I) ?_
      refine au 0x924 ?_;clear h;intro a w h
      refine lpG h [1,2,3,4,28,29,30,54,55,63,64,76,96] pkL (fun Y Z (j:Nat) a w=>j≤3 ∧ ∃(l2:List Int) (B:List Nat) (ad2:Option Addr) (c2:Nat) (o2:List (Nat×Obj)),(BG m.T q (g-1) k j 0 l2 B∧GrowO 1 3 (.slice ad2 B.length c2) B.length (List.map Qi B) o2)∧St 128 S w0 ((11,(.slice ad2 (B).length c2))::(97,nI j)::Y) (o2++((J,.cells (List.map Hq<|l2).toArray 3 (0,0))::((D,mB Qi Me<|BW q)::((b1,bV (Qz m x (some ⟨n,f,none⟩) y cP cT cS) 42)::[])))) Z a w) (fun j=>3-j) 0 (⟨Nat.zero_le _,l,s,some ⟨h3,0,none⟩,c1,_,⟨⟨h0,fun _ h=>absurd h (Nat.not_lt_zero _),fun _ h=>absurd h (Nat.not_lt_zero _)⟩,e7⟩,by exact h.sub sA⟩) ?_;clear h
      rintro j a w ⟨e4,l2,B,ad2,c2,o2,⟨e1,e5⟩,h⟩
      refine gC h<|au 0x12c31 ?_;intro a w h
      refine Zb h I (fun L=>?_) (fun L=>?_)
      ·have t:j<3:=dT L
       refine gC h<|zk<|zs<|zb<|zS<|zp (.index I I<|YC _ _ t)<|au 0x443125 ?_;clear h;intro a w h
       refine Zc<|Np h kZ (u:=crn (m.T.getD k (0,0,0)) j) (m:=BW q) I I mm dd ?_;clear h;intro a h
       obtain ⟨a5,c5,j3,i7⟩:=jj (q:=q) (p:=crn (m.T.getD k (0,0,0)) j) (fun e=>by have:=hq.mem k j t (.inl b5);rw[e] at this;cases this)
       rw[j3] at h
       replace h:=h.pickR (l:=q.map rowE) mm i7
       have l5:=hq.len (crn (m.T.getD k (0,0,0)) j)
       refine gL h<|au 0x92401f ?_;clear h;intro a w h
       refine lpG h [1,2,3,4,28,29,30,54,55,63,64,76,96,97,102,103] pkL (fun Y Z (i:Nat) a w=>i≤(lkA q<|crn (m.T.getD k (0,0,0)) j).length ∧ ∃(l3:List Int) (A:List Nat) (R:Option Addr) (c3:Nat) (o3:List (Nat×Obj)),(BG m.T q (g-1) k j i l3 A∧GrowO 1 3 (.slice R A.length c3) A.length (List.map Qi A) o3)∧St 128 S w0 ((11,(.slice R (A).length c3))::(104,nI i)::Y) (o3++((J,.cells (List.map Hq<|l3).toArray 3 (0,0))::((D,mB Qi Me<|BW q)::((b1,bV (Qz m x (some ⟨n,f,none⟩) y cP cT cS) 42)::[])))) Z a w) (fun i=>(lkA q<|crn (m.T.getD k (0,0,0)) j).length-i) 0 (⟨Nat.zero_le _,l2,B,ad2,c2,o2,⟨e1,e5⟩,by exact h.sub sA⟩) ?_;clear h
       rintro i a w ⟨e6,l3,A,R,c3,o3,⟨V,b2⟩,h⟩
       refine gC h<|au 0x12c31 ?_;intro a w h
       refine Zb h I (fun H=>?_) (fun H=>?_)
       ·have G:i<(lkA q (crn (m.T.getD k (0,0,0)) j)).length:=dT H
        obtain ⟨k6,k8,rfl⟩:=h.row_addr (ad:=a5) (M:=List.map Qi (lkA q (crn (m.T.getD k (0,0,0)) j))) mm nF
        have b9:=hq.lt _ _ (getD_mem (lkA q (crn (m.T.getD k (0,0,0)) j)) (d:=0) G)
        have j6:=V.bf.len
        refine gC h<|au 0xf1f31917 ?_
        refine zD I mm (by rw[List.length_map];omega) isAgg3 sizeOf3 (Zr (enc:=Qi) (l:=(lkA q<|crn (m.T.getD k (0,0,0)) j)) 0 oo) (.inr I) ?_
        refine au 0xf1f443125 ?_
        refine zd I mm isAgg3 sizeOf3 ((congrArg _<|Nat.zero_add _).trans<|Zr (enc:=Hq) (l:=l3) 0 oo) ?_
        refine au 0x2c ?_;clear h;intro a w h
        refine Zb h I (fun F=>?_) (fun F=>?_)
        ·refine gC h<|au 0xf1f44431 ?_
         refine zt' I I ((congrArg (fun z=>Zl _ z _)<|Nat.zero_add _).trans<|Qy (enc:=Hq) l3 ((lkA q<|crn (m.T.getD k (0,0,0)) j).getD i 0) 0) uu sizeOf3 I (by simp;simp at b9;omega) I ?_
         refine au 0x4432 ?_
         refine zB [(_,_)] I (Jf _) fun k5=>?_
         refine apM Qi A [(lkA q<|crn (m.T.getD k (0,0,0)) j).getD i 0] b2 ?_ (hr:=by(try dsimp only);have:=V.bf.ms;omega);intro b3 h2 e9 b4 a w h
         refine gL h<|za I<|zn<|zr<|zp (.pN (i+1)<|.add I I)<|au 0x24 ?_;clear h;intro a w h
         exact⟨i+1,⟨oo,_,_,b3,h2,e9,⟨V.mark b9 (of_decide_eq_true F),b4⟩,by exact tO h⟩,oo⟩
        ·refine gC h<|zk<|zr<|zp (.pN (i+1)<|.add I I)<|au 0x24 ?_;clear h;intro a w h
         exact⟨i+1,⟨oo,_,_,R,c3,o3,⟨V.skip b9 (of_decide_eq_false F),b2⟩,by exact tO h⟩,oo⟩
       ·have C:(lkA q (crn (m.T.getD k (0,0,0)) j)).length=i:=dF H
        subst C
        refine gC h<|ze<|zr<|zp (.pN (j+1)<|.add I I)<|au 0x24 ?_;clear h;intro a w h
        exact⟨j+1,⟨oo,l3,A,R,c3,o3,⟨V.next,b2⟩,by exact tO h⟩,oo⟩
      ·have E:3=j:=dF L
       subst E
       refine wp_exit ?_
       exact⟨g-1,⟨l2,B,ad2,c2,o2,⟨oo,e1.bf.close hq (fun j hj=>e1.c j hj),e5⟩,by exact tO h⟩,oo⟩
     have a6:td=[]:=List.eq_nil_of_length_eq_zero (dF W)
     subst a6
     have j8:=hB.done hc
     rw[j8] at h
     replace h:=h.drop (List.sublist_append_right _ _)
     refine gC h<|ze<|zr<|zm I<|zp (.pN (0+1)<|.add I I)<|za I<|zn<|zr<|zp (.pN (u+1)<|.add I I)<|au 0x24 ?_;clear h;intro a w h
    all_goals
     exact⟨u+1,⟨oo,_,1,.inr ⟨oo,rfl,rfl⟩,by exact tO h⟩,oo⟩
   ·have e0:m.T.length=u:=dF N
    subst e0
    obtain ⟨_,rfl,rfl⟩:=hu.resolve_left (fun hh=>by have:=hv.ne;omega)
    refine gC h<|au 0x625544310e ?_;clear h;intro a w h
    exact He h (Zw h I (.tmp I) (.tmp I)) ⟨J,rfl,rfl⟩ (List.Sublist.cons_cons _ (List.nil_sublist _))
end
section
theorem kf{c0 c1 c2 w r q s t u v o g m h l n a e k c j f i d p b:Value}: Zk false 1 #[c0,c1,c2,w,r,q,s,t,u,v,o,g,m,h,l,n,a,e,k,c,j,f,i,d,p,b] 2=some c2:=rfl
theorem Xh{c0 c1 c2 w r q s t u v o g m h l n a e k c j f i d p b:Value}: Zk true 26 #[c0,c1,c2,w,r,q,s,t,u,v,o,g,m,h,l,n,a,e,k,c,j,f,i,d,p,b] 0=some (.agg #[c0,c1,c2,w,r,q,s,t,u,v,o,g,m,h,l,n,a,e,k,c,j,f,i,d,p,b]):=by kernel_rfl
theorem HS{b off:Nat}: RN (Instr.fieldAt 104 (.pointer (some ⟨b,off,none⟩)) 1) (.pointer (some ⟨b,off+1,none⟩)):=fun w=>by
 simp[go_sem]
theorem J3{c0 c1 c2 a b:Value}: Zk false 1 #[c0,c1,c2,a,b] 1=some c1:=rfl
theorem kg{c0 c1 c2 w r q s t u v o g m h l n a e k c j f i d p b:Value}: Zk false 1 #[c0,c1,c2,w,r,q,s,t,u,v,o,g,m,h,l,n,a,e,k,c,j,f,i,d,p,b] 1=some c1:=rfl
def bT(p:Pr)(s:Nat×Nat×Nat): Bool:=(Kv p.G s.2.2).2 && (Kv p.G s.2.2).1.fix
def Et(p:Pr): Bool:=decide (0<p.c) || p.m.S.any (bT p)
theorem GI{α:Type}{p:α→Bool}: ∀ {l:List α} {i:Nat},(∃x∈l,p x=true) → ∃j:Nat,Cs p l i=((i+j:Nat):Int)∧j<l.length
 | [],_,h=>by obtain ⟨x,hx,_⟩:=h;cases hx
 | y::l,i,h=>by
  rw[Cs]
  by_cases a:p y=true
  ·rw[if_pos a];exact⟨0,rfl,Nat.succ_pos _⟩
  ·rw[if_neg a]
   obtain ⟨x,hx,b⟩:=h
   rcases List.mem_cons.1 hx with rfl|hx
   ·exact absurd b a
   ·obtain ⟨j,h1,c⟩:=GI (l:=l) (i:=i+1) ⟨x,hx,b⟩
    exact⟨j+1,by rw[h1];congr 1;omega,by rw[List.length_cons];omega⟩
theorem YH{α:Type}(p:α→Bool): ∀(l:List α) (i:Nat),Cs p l i = -1∨((i:Nat):Int)≤Cs p l i
 | [],_ =>.inl rfl
 | y::l,i=>by
  rw[Cs]
  split
  ·exact .inr (Int.le_refl _)
  ·rcases YH p l (i+1) with h|h
   ·exact .inl h
   ·exact .inr oo
theorem YG{α:Type}{p:α→Bool}: ∀ {l:List α} {i j:Nat} (d:α),Cs p l i=((i+j:Nat):Int)→p (l.getD j d)=true
 | [],i,j,d,h=>by rw[Cs] at h;omega
 | y::l,i,j,d,h=>by
  rw[Cs] at h
  by_cases a:p y=true
  ·rw[if_pos a] at h
   have:j=0:=oo
   subst this;exact a
  ·rw[if_neg a] at h
   cases j with
   | zero=>have:=YH p l (i+1);omega
   | succ j=>exact YG (l:=l) (i:=i+1) (j:=j) d (by rw[h];congr 1;omega)
theorem Sy{α:Type}{f:α→Bool}{l:List α}{i:Nat}{d:α}(h:i<l.length): (l.take (i+1)).any f=((l.take i).any f || f (l.getD i d)):=by
 rw[List.take_add_one,List.getElem?_eq_getElem h,List.any_append];simp[List.getD,h]
theorem eQ(t:Nat×Nat×Nat)(p:Nat): [t.1,t.2.1,t.2.2].any (fun x=>((p:Nat):Int) == ((x:Nat):Int))=HM t p:=by
 simp only[List.any_cons,List.any_nil,Bool.or_false,HM,beqN]
 rw[Bool.or_assoc,show decide (p=t.1)=decide (t.1=p) from decide_eq_decide.2 ⟨Eq.symm,Eq.symm⟩,show decide (p=t.2.1)=decide (t.2.1=p) from decide_eq_decide.2 ⟨Eq.symm,Eq.symm⟩,show decide (p=t.2.2)=decide (t.2.2=p) from decide_eq_decide.2 ⟨Eq.symm,Eq.symm⟩]
theorem nG(t s:Nat×Nat×Nat)(b o:Nat): Xo prog 352 [Zd t,.pointer (some ⟨b,o,none⟩)] [Row (some ⟨b,o,none⟩) (Value.cells (Zd s)).toList] (.bool (HM t s.1)):=by
 refine fnI func352 I ntmps352 fun S w0 c=>zS (zx I fun d=>?_);intro a w h
 replace h:=h.shareAll c (List.map Qi [t.1,t.2.1,t.2.2]) I
 refine gL h<|za I<|zn<|zs<|yE [0,1,2,3,4]<|yp I (.slice I none none none I I I<|VS _ _)<|yp I (.fA I HO) ?_;clear h
 refine Zf (b:=b) (off:=o) (j:=0) (M:=(Value.cells<|Zd s).toList) (v:=.int .i64 (((s).1:Nat):Int)) I kk I mm nb isAgg3 sizeOf3 I (.inr I) dd ?_
 refine Yy I kk (vs:=[_,_]) I call88 (ou [t.1,t.2.1,t.2.2] s.1 (some ⟨d,0,none⟩) 3 (show 3≤1000000 by decide)) (by exact fun R hR=>by rw[List.mem_singleton] at hR;subst hR;exact List.Mem.head _) dd ?_
 refine au 0x6a3e ?_
 refine rtK ?_
 rw[eQ]
theorem oe(l:List (Nat×Nat×Nat))(ad:Option Addr)(c:Nat)(r:l.length≤1000000)(s:Nat×Nat×Nat)(b o:Nat): Xo prog 301 [.slice ad l.length c,.func (.func 352) #[] #[.pointer (some ⟨b,o,none⟩)]] [Row ad (cellsOf Zd l),Row (some ⟨b,o,none⟩) (Value.cells (Zd s)).toList] (.int .i64 (Cs (fun t=>HM t s.1) l 0)):=by
 refine fnI func301 I ntmps301 fun S w0 q=>au 0x924e0f43112531 ?_;intro a w h
 refine lpG h [0,1,7] pkL (fun Y Z (i:Nat) a w=>i≤l.length∧(Cs (fun t=>HM t s.1) l 0=Cs (fun t=>HM t s.1) (l.drop i) i)∧St 19 S w0 ((8,nI i)::Y) [] Z a w) (fun i=>l.length-i) 0 (⟨Nat.zero_le _,rfl,by exact(h).sub sA⟩) ?_;clear h
 rintro i a w ⟨n,d,h⟩
 refine gC h<|au 0x12c31 ?_;intro a w h
 refine Zb h I (fun j=>?_) (fun j=>?_)
 ·have f:i<l.length:=dT j
  obtain ⟨p,m,rfl⟩:=h.row_addr (ad:=ad) (M:=cellsOf Zd l) mm (nE 3)
  refine gC h<|au 0x42f4443125431917 ?_
  refine zD I mm (cells_lt (k:=3) dd (fun _=>rfl) l i oo) isAgg127 sizeOf127 (Zg (k:=3) (fun _=>rfl) ((fun _=>rfl)) l (0,0,0) i oo) (.inl I) ?_;clear h;intro a w h
  refine Zc<|Xm h (fs:=[]) (cs:=[.pointer (some ⟨b,o,none⟩)]) I (vs:=[_]) I call352 (nG (l.getD i (0,0,0)) s b o) ss dd ?_;clear h;intro a w h
  refine Zh h (fun e h=>?_) (fun e h=>?_)
  ·refine wpList_nil ?_
   refine cW ?_
   refine Qo h I ?_
   refine gC h<|au 0x625431 ?_
   refine rtK ?_
   rw[d,Yv _ l i (0,0,0) f,if_pos e]
  ·refine wpList_nil ?_
   refine cW ?_
   refine Zj h I ?_
   refine gC h<|zk<|zr<|zp (.pN (i+1)<|.add I I)<|au 0x24 ?_;clear h;intro a w h
   exact⟨i+1,⟨oo,by rw[d,Yv _ l i (0,0,0) f,if_neg (by rw[e];decide)],tO h⟩,oo⟩
 ·have g:l.length=i:=dF j
  subst g
  refine gC h<|au 0x625310e ?_
  refine rtK ?_
  rw[d,List.drop_length];rfl
theorem C_held(p:Pr)(C B r A:Option Addr)(cP R W X K:Nat)(hv:MV K p.m)(J:jo p.m.T)(hK:K≤100000)(hn:p.G.length≤1000000): Xo prog 272 [Xf p C B r A cP R W X] [Row C (cellsOf encPt p.m.P),Row B (cellsOf Zd p.m.T),Row r (cellsOf Zd p.m.S),Row p.f.a (cellsOf Zz p.f.l),Row A (cellsOf Jg p.G),Yi (Qu p.G)] (.int .i64 (if Et p then 0 else 6)):=by
 have a6:=hv.nS
 have N:=hv.nT
 refine fnI func272 I ntmps272 fun S w0 Q=>zS (zx I fun b1=>au 0x31125 ?_)
 refine zp (.fA I PS)<|ldZ J4 ?_
 refine au 0x270ff2f ?_;intro a w h
 refine Zb h I (fun n=>?_) (fun n=>?_)
 ·refine gC h<|au 0x62531 ?_
  refine rtK ?_
  unfold Et;rw[decide_eq_true ((Ag _).1 (of_decide_eq_true n))];rfl
 ·refine gC h<|au 0x89fa4f317 ?_;clear h;intro a w h
  refine Zc<|Xb h (vs:=[_]) I call351 (nY K p.m _ _ _ _ _ _ hv J) ss dd ?_;clear h;rintro a1 V a w ⟨L,rfl,rfl⟩ h
  refine gL h<|au 0x431255bb4 ?_;clear h;intro a w h
  refine Zc<|Je h I I runUnderlying264 typeInfo4 sizeOf4 zeroValue4 I dd (by exact Nat.le_refl _) (by show 1*(1)≤281474976710656;omega) oo dd ?_;clear h;intro E a w h;replace h:=h.same I (by rw[←Ii]) I
  refine gL h<|au 0x36fa4f31125 ?_
  refine ldZ kf ?_
  refine au 0x924b2f ?_;intro a w h
  refine lpG h [1,2,3,5,25,26] pkL (fun Y Z (i:Nat) a w=>i≤p.m.S.length ∧ ∃(x:Bool),(x=(p.m.S.take i).any (bT p))∧St 57 S w0 ((27,nI i)::Y) [(E,.cells (List.map Fj ([x])).toArray 4 (0,0)),(L,.cells (List.map Hq<|List.replicate p.m.T.length 0).toArray 3 (0,0)),(b1,bV (Xf p C B r A cP R W X) 57)] Z a w) (fun i=>p.m.S.length-i) 0 (⟨Nat.zero_le _,false,rfl,by exact(h).sub sA⟩) ?_;clear h
  rintro i a w ⟨U,x,hx,h⟩
  refine gC h<|au 0x12c31 ?_;intro a w h
  refine Zb h I (fun q=>?_) (fun q=>?_)
  ·have c:i<p.m.S.length:=dT q
   obtain ⟨O,F,rfl⟩:=h.row_addr (ad:=r) (M:=cellsOf Zd p.m.S) mm (nE 3)
   refine gC h<|au 0x98f31917 ?_
   refine zD I mm (cells_lt (k:=3) dd (fun _=>rfl) p.m.S i oo) isAgg178 sizeOf178 (Zg (k:=3) (fun _=>rfl) ((fun _=>rfl)) p.m.S (0,0,0) i oo) (.inl I) ?_
   refine zz G5 fun b7=>stW I I Qg ?_
   refine au 0xfe312 ?_;clear h;intro a w h
   replace h:=h.shareAll Q ((Value.cells (Zd (p.m.S.getD i (0,0,0)))).toList) I
   refine gL h<|zp (.fA I Cw)<|zD (b:=b7) (off:=0) (j:=2) (M:=(Value.cells<|Zd<|p.m.S.getD i (0,0,0)).toList) (v:=.int .i64 (((p.m.S.getD i (0,0,0)).2.2:Nat):Int)) I mm nb isAgg3 sizeOf3 I (.inr I) ?_
   refine zw [_,_] I call132 (jD p _ _ _ _ _ _ _ _ (p.m.S.getD i (0,0,0)).2.2 hn)<|au 0xbb4 ?_;clear h;intro a w h
   refine Zh h (fun g h=>?_) (fun g h=>?_)
   focus
    refine gL h (zz EC fun b8=>stW I I Zi ?_)
    refine au 0x443125 ?_
    refine zq 39 I I (.fA I HS)<|ldQ 39 J3 ?_
    refine au 0x22e ?_;clear h;intro a w h
    refine Zb h I (fun o=>?_) (fun o=>?_)
    ·refine gC h<|au 0x91fa4f31 ?_
     refine ldZ kg ?_
     refine au 0xd7f ?_
     refine zw [_,_] I call301 (oe p.m.T _ _ (Nat.le_trans N dd) (p.m.S.getD i (0,0,0)) b7 0) ?_;clear h;intro a w h
     obtain ⟨i6,H,u⟩:=GI (p:=fun t=>HM t (p.m.S.getD i (0,0,0)).1) (l:=p.m.T) (i:=0) (hv.used _ (hv.sd _ (getD_mem p.m.S c)).1)
     rw[H,Nat.zero_add] at h
     refine gL h<|au 0xf1f444325 ?_
     refine zd I mm isAgg3 sizeOf3 ((congrArg _<|Nat.zero_add _).trans<|Zr (enc:=Hq) (l:=(List.replicate p.m.T.length 0)) 0 (by simpa using u)) ?_;clear h;intro a w h
     rw[show(List.replicate p.m.T.length (0:Int)).getD i6 0=((0:Nat):Int) from by simp[List.getD,u]] at h
     refine gL h<|zp (.indexAddr I I<|YD _ _ _ _ _ dd)<|zt' I I ((congrArg (fun z=>Zl _ z _)<|Nat.zero_add _).trans<|Qy (enc:=Fj) ([x]) 0 true) uu sizeOf4 I (by simp;skip) I ?_
     refine zn<|zr<|zp (.pN (i+1)<|.add I I)<|au 0x24 ?_;clear h;intro a w h
     have s:bT p (p.m.S.getD i (0,0,0))=true:=by simp only[bT];rw[g];exact o
     exact⟨i+1,⟨oo,true,(by rw[Sy (d:=(0,0,0)) c, ←hx,s];simp),by exact tO h⟩,oo⟩
    refine gC h<|zk<|zr<|zp (.pN (i+1)<|.add I I)<|au 0x24 ?_;clear h;intro a w h
    have s:bT p (p.m.S.getD i (0,0,0))=false:=by simp only[bT];rw[g];exact o
   rotate_left
   focus
    refine gL h (zz EC fun b8=>stW I I Zi ?_)
    refine au 0x443125 ?_
    refine zo 39 I I I<|zo 39 I I I<|au 0x37d24e ?_
    refine zp (.pN (i+1)<|.add I I)<|au 0x24 ?_;clear h;intro a w h
    have s:bT p (p.m.S.getD i (0,0,0))=false:=by simp only[bT];rw[g];rfl
   all_goals
    exact⟨i+1,⟨oo,x,(by rw[Sy (d:=(0,0,0)) c, ←hx,s];simp),by exact tO h⟩,oo⟩
  ·have D:p.m.S.length=i:=dF q
   subst D
   refine gC h<|au 0x43110e ?_;clear h;intro a w h
   replace h:=h.shareAll Q (List.map Fj ([x])) I
   refine gL h<|zw [_,_] I call167 (C_CtB [x] false _ _ (show 1≤1000000 by decide))<|zn ?_;clear h;intro a w h
   refine Zb h I (fun y=>?_) (fun y=>?_)
   focus
    refine gC h<|au 0x62531 ?_;clear h;intro a w h
   rotate_left
   focus
    refine gC h<|au 0x625317 ?_;clear h;intro a w h
   all_goals
    refine Js h (Ze h I<|.tmp I) ?_
    unfold Et;rw[decide_eq_false (fun e=>absurd ((Ag _).2 e) (of_decide_eq_false n)), ←List.take_length (l:=p.m.S), ←hx];(try (revert y;cases x<;>simp))
end
section
theorem fX(c:Go.Fn)(a b:Array Value): RN (Instr.build 257 [(0,.func c a b)].toArray) (.agg #[.func c a b]):=fun w=>by simp[go_sem]
theorem FH(a e b d c:Value)(w:World): (Instr.buildSlice 254 5 [(0,.agg #[a]),(1,.agg #[e]),(2,.agg #[b]),(3,.agg #[d]),(4,.agg #[c])].toArray).run prog w=.ok (.slice (some ⟨w.heap.size,0,none⟩) 5 5) (w.alloc (.cells #[a,e,b,d,c] 257 (0,0))):=by
 simp[go_sem]
theorem EX(a:Option Addr)(n c:Nat)(w:World)(ty:TypeId)(cs:Array Bool): (Go.builtin .len #[254] ty cs #[.slice a n c]).run prog w=.ok (.value (.int .i64 n)) w:=by
 simp[go_sem]
theorem ix_254(b off n c j:Nat)(h:j<n): RN (Instr.indexAt 254 (.slice (some ⟨b,off,none⟩) n c) (.int .i64 (j:Int))) (.pointer (some ⟨b,off+j,none⟩)):=fun w=>by
 simpa using Qd runUnderlying254 sizeOf257 b off n c j h w
theorem Kk{c0 v0:Value}: Zl #[c0] 0 [v0]=#[v0]:=rfl
theorem fe{b off:Nat}: RN (Instr.fieldAt 257 (.pointer (some ⟨b,off,none⟩)) 0) (.pointer (some ⟨b,off+0,none⟩)):=fun w=>by
 simp[go_sem]
abbrev IH(i:Nat): Value:=.agg #[.func (.func i) #[] #[]]
structure PrV(K:Nat)(p:Pr): Prop where
 o:p.o=1∨p.o=2
 k0:Zn p.k0≤1000
 k1:Zn p.k1≤1000
 k2:Zn p.k2≤1000
 pos:0<p.k0
 det:p.k1*p.k1<p.k0*p.k2
 c:Zn p.c≤1000
 c0:0≤p.c
 f:GdPl p.f
 G:GdG p.G
 m:MV K p.m
 cn:jo p.m.T
theorem aH:Ctr prog 161 [] [] (fun v Ψ => ∃ad,v=.slice ad 5 5∧Ψ=[Row ad (cellsOf IH [268,269,270,271,272])]):=by
 refine fnI func161 I ntmps161 fun S w0 c=>au 0x2af2af2af2af2af312531 ?_
 refine zB [(_,_),(_,_),(_,_),(_,_),(_,_)] I (FH _ _ _ _ _) fun b=>?_;intro a w h
 replace h:=h.shareAll c (cellsOf IH ([268,269,270,271,272])) I
 refine gL h<|au 0x625 ?_;clear h;intro a w h
 refine Qn (Ψ:=[Row (some ⟨b,0,none⟩) (cellsOf IH [268,269,270,271,272])]) h (Ze h I<|.tmp I) ?_ ss
 exact⟨_,rfl,rfl⟩
theorem SI(K:Nat)(p:Pr)(i b g d:Option Addr)(t q r s:Nat)(j:PrV K p)(B:K≤100000): Xo prog 91 [Xf p i b g d t q r s] [Row i (cellsOf encPt p.m.P),Row b (cellsOf Zd p.m.T),Row g (cellsOf Zd p.m.S),Row p.f.a (cellsOf Zz p.f.l),Row d (cellsOf Jg p.G),Yi (Qu p.G)] (.int .i64 (if Et p then 0 else 6)):=by
 refine fnI func91 I ntmps91 fun S w0 D=>zS (zx I fun v=>au 0x31125 ?_)
 refine zf [] I call161 (aH) ?_;rintro v6 C ⟨A,rfl,rfl⟩ a w h
 obtain ⟨u,x,rfl⟩:=h.row_addr (ad:=A) (M:=cellsOf IH [268,269,270,271,272]) mm (by intro e;cases e)
 refine gL h<|zp (.builtin [_] I<|EX _ _ _)<|zm I<|zn<|zb<|lpR 6<|rdS<|au 0x78f319171e129e31 ?_
 refine zD I mm (cells_lt (k:=1) dd (fun _=>rfl) ([268,269,270,271,272]) 0 (by exact ixd)) isAgg257 sizeOf257 (Zg (k:=1) (fun _=>rfl) ((fun _=>rfl)) ([268,269,270,271,272]) 0 0 (by exact ixd)) (.inr I) ?_
 refine zz zeroValue257 fun z=>stW I I Kk ?_
 refine au 0xfef4f29f312 ?_;clear h;intro a w h
 refine Zc<|Xm h (fs:=[]) (cs:=[]) I (vs:=[_]) I call268 (Us p i b g d t q r s j.o j.k0 j.k1 j.k2 j.pos j.det j.c j.c0) ss dd ?_;clear h;intro a w h
 refine gL h<|au 0x24e2f37d2d0f43125 ?_;clear h;intro a w h
 replace h:St 20 S w0 [(1,pB v),(2,.int .i64 0),(6,.slice (some ⟨u,x,none⟩) 5 5),(7,nI 5),(8,.int .i64 1),(9,.bool true),(17,.bool false)] [(v,bV (Xf p i b g d t q r s) 57)] [Row (some ⟨u,x,none⟩) (cellsOf IH [268,269,270,271,272]),Row i (cellsOf encPt p.m.P),Row b (cellsOf Zd p.m.T),Row g (cellsOf Zd p.m.S),Row p.f.a (cellsOf Zz p.f.l),Row d (cellsOf Jg p.G),Yi (Qu p.G)] a w:=by exact tO h
 refine Zm ?_
 refine gC h<|au 0x78f319171e129e31 ?_
 refine zD I mm (cells_lt (k:=1) dd (fun _=>rfl) ([268,269,270,271,272]) 1 (by exact ixd)) isAgg257 sizeOf257 (Zg (k:=1) (fun _=>rfl) ((fun _=>rfl)) ([268,269,270,271,272]) 0 1 (by exact ixd)) (.inr I) ?_
 refine zz zeroValue257 fun z=>stW I I Kk ?_
 refine au 0xfef4f29f312 ?_;clear h;intro a w h
 refine Zc<|Xm h (fs:=[]) (cs:=[]) I (vs:=[_]) I call269 (ap p i b g d t q r s j.f) ss dd ?_;clear h;intro a w h
 refine gL h<|au 0x2471f37d2d0f43125 ?_;clear h;intro a w h
 replace h:St 20 S w0 [(1,pB v),(2,.int .i64 0),(6,.slice (some ⟨u,x,none⟩) 5 5),(7,nI 5),(8,.int .i64 2),(9,.bool true),(17,.bool false)] [(v,bV (Xf p i b g d t q r s) 57)] [Row (some ⟨u,x,none⟩) (cellsOf IH [268,269,270,271,272]),Row i (cellsOf encPt p.m.P),Row b (cellsOf Zd p.m.T),Row g (cellsOf Zd p.m.S),Row p.f.a (cellsOf Zz p.f.l),Row d (cellsOf Jg p.G),Yi (Qu p.G)] a w:=by exact tO h
 refine Zm ?_
 refine gC h<|au 0x78f319171e129e31 ?_
 refine zD I mm (cells_lt (k:=1) dd (fun _=>rfl) ([268,269,270,271,272]) 2 (by exact ixd)) isAgg257 sizeOf257 (Zg (k:=1) (fun _=>rfl) ((fun _=>rfl)) ([268,269,270,271,272]) 0 2 (by exact ixd)) (.inr I) ?_
 refine zz zeroValue257 fun z=>stW I I Kk ?_
 refine au 0xfef4f29f312 ?_;clear h;intro a w h
 refine Zc<|Xm h (fs:=[]) (cs:=[]) I (vs:=[_]) I call270 (gG p i b g d t q r s j.G) ss dd ?_;clear h;intro a w h
 refine gL h<|au 0x24e1f37d2d0f43125 ?_;clear h;intro a w h
 replace h:St 20 S w0 [(1,pB v),(2,.int .i64 0),(6,.slice (some ⟨u,x,none⟩) 5 5),(7,nI 5),(8,.int .i64 3),(9,.bool true),(17,.bool false)] [(v,bV (Xf p i b g d t q r s) 57)] [Row (some ⟨u,x,none⟩) (cellsOf IH [268,269,270,271,272]),Row i (cellsOf encPt p.m.P),Row b (cellsOf Zd p.m.T),Row g (cellsOf Zd p.m.S),Row p.f.a (cellsOf Zz p.f.l),Row d (cellsOf Jg p.G),Yi (Qu p.G)] a w:=by exact tO h
 refine Zm ?_
 refine gC h<|au 0x78f319171e129e31 ?_
 refine zD I mm (cells_lt (k:=1) dd (fun _=>rfl) ([268,269,270,271,272]) 3 (by exact ixd)) isAgg257 sizeOf257 (Zg (k:=1) (fun _=>rfl) ((fun _=>rfl)) ([268,269,270,271,272]) 0 3 (by exact ixd)) (.inr I) ?_
 refine zz zeroValue257 fun z=>stW I I Kk ?_
 refine au 0xfef4f29f312 ?_;clear h;intro a w h
 refine Zc<|Xm h (fs:=[]) (cs:=[]) I (vs:=[_]) I call271 (gP p i b g d t q r s K j.m B) ss dd ?_;clear h;intro a w h
 refine gL h<|au 0x37d2d0f43125 ?_
 refine zp (Pure1.cast (v':=.int .i64 4) (.add I I) cgd)<|au 0x24 ?_;clear h;intro a w h
 replace h:St 20 S w0 [(1,pB v),(2,.int .i64 0),(6,.slice (some ⟨u,x,none⟩) 5 5),(7,nI 5),(8,.int .i64 4),(9,.bool true),(17,.bool false)] [(v,bV (Xf p i b g d t q r s) 57)] [Row (some ⟨u,x,none⟩) (cellsOf IH [268,269,270,271,272]),Row i (cellsOf encPt p.m.P),Row b (cellsOf Zd p.m.T),Row g (cellsOf Zd p.m.S),Row p.f.a (cellsOf Zz p.f.l),Row d (cellsOf Jg p.G),Yi (Qu p.G)] a w:=by exact tO h
 refine Zm ?_
 refine gC h<|au 0x78f319171e129e31 ?_
 refine zD I mm (cells_lt (k:=1) dd (fun _=>rfl) ([268,269,270,271,272]) 4 (by exact ixd)) isAgg257 sizeOf257 (Zg (k:=1) (fun _=>rfl) ((fun _=>rfl)) ([268,269,270,271,272]) 0 4 (by exact ixd)) (.inr I) ?_
 refine zz zeroValue257 fun z=>stW I I Kk ?_
 refine au 0xfef4f29f312 ?_;clear h;intro a w h
 refine Zc<|Xm h (fs:=[]) (cs:=[]) I (vs:=[_]) I call272 (C_held p i b g d t q r s K j.m j.cn B<|Nat.le_trans j.G.n dd) ss dd ?_;clear h;intro a w h
 refine gL h<|au 0x262f43125 ?_;clear h;intro a w h
 refine Zb h I (fun y=>?_) (fun y=>?_)
 ·refine gC h<|au 0x625431 ?_
  refine rtK I
 ·refine gC h<|zk<|zr<|zp (Pure1.cast (v':=.int .i64 5) (.add I I) cgd)<|au 0x24 ?_;clear h;intro a w h
  replace h:St 20 S w0 [(1,pB v),(2,.int .i64 0),(6,.slice (some ⟨u,x,none⟩) 5 5),(7,nI 5),(8,.int .i64 5),(9,.bool true),(17,.bool ((if Et p then 0 else 6:Int) != 0))] [(v,bV (Xf p i b g d t q r s) 57)] [Row (some ⟨u,x,none⟩) (cellsOf IH [268,269,270,271,272]),Row i (cellsOf encPt p.m.P),Row b (cellsOf Zd p.m.T),Row g (cellsOf Zd p.m.S),Row p.f.a (cellsOf Zz p.f.l),Row d (cellsOf Jg p.G),Yi (Qu p.G)] a w:=by exact tO h
  refine Zm ?_
  refine gC h<|au 0x625310ed1241f31 ?_
  refine rtK ?_
  revert y;cases Et p<;>simp
end
end Go.Proofs.YtejhdcohoggojaaGreatDoor
