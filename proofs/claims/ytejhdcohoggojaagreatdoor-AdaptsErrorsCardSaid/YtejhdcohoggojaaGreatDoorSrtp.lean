/- Walks of functions. By an AI agent. -/
import Derived.Test.YtejhdcohoggojaaGreatDoorLocm
import Derived.Test.YtejhdcohoggojaaGreatDoorFxP
import Derived.Shelf.SlSortCmp.PdqK
set_option linter.unusedVariables false
set_option linter.unusedSimpArgs false
set_option maxRecDepth 4000
set_option maxHeartbeats 1000000
namespace Go.Proofs.YtejhdcohoggojaaGreatDoor
open Go Go.Proofs Go.Fx Tryz
attribute [local irreducible] Oper.wp Code.wp wpList Fx.Head wpOp
section
theorem Vn(a:Option Addr)(n c:Nat)(w:World)(ty:TypeId)(cs:Array Bool): (Go.builtin .len #[39] ty cs #[.slice a n c]).run prog w=.ok (.value (.int .i64 n)) w:=by
 simp[go_sem]
theorem lC(b off n c j:Nat)(h:j<n): RN (Instr.indexAt 39 (.slice (some ⟨b,off,none⟩) n c) (.int .i64 (j:Int))) (.pointer (some ⟨b,off+j*3,none⟩)):=fun w=>by
 simpa using Qd runUnderlying39 sizeOf127 b off n c j h w
abbrev Zd(t:Nat×Nat×Nat): Value:=.agg #[.int .i64 ((t.1:Nat):Int),.int .i64 ((t.2.1:Nat):Int),.int .i64 ((t.2.2:Nat):Int)]
theorem G5(w:World): (zeroValue 178).run prog w=.ok (Zd (0,0,0)) w:=zeroValue178 w
structure Ed where
 a:Nat
 b:Nat
 l:Int
 r:Int
abbrev ed0:Ed:=⟨0,0,0,0⟩
abbrev Qp(e:Ed): Value:=.agg #[.int .i64 ((e.a:Nat):Int),.int .i64 ((e.b:Nat):Int),.int .i64 e.l,.int .i64 e.r]
structure Ms where
 P:List Pt
 T:List (Nat×Nat×Nat)
 S:List (Nat×Nat×Nat)
abbrev Qz(m:Ms)(aP aT aS:Option Addr)(cP cT cS:Nat): Value:=.agg #[.slice aP m.P.length cP,.slice aT m.T.length cT,.slice aS m.S.length cS]
def Cs{α:Type}(p:α→Bool): List α→Nat→Int
 | [],_ => -1
 | x::l,i=>if p x=true then (i:Int) else Cs p l (i+1)
theorem Yv{α:Type}(p:α→Bool)(l:List α)(i:Nat)(d:α)(h:i<l.length): Cs p (l.drop i) i=if p (l.getD i d)=true then (i:Int) else Cs p (l.drop (i+1)) (i+1):=by
 rw[List.drop_eq_getElem_cons h,Cs];simp[List.getD,h]
theorem E5{α:Type}(p:α→Bool): ∀(l:List α) (i:Nat),decide (Cs p l i≥0)=l.any p
 | [],i=>by rw[Cs];simp
 | x::l,i=>by
  rw[Cs,List.any_cons, ←E5 p l (i+1)]
  by_cases h:p x=true
  ·rw[if_pos h,h,Bool.true_or];exact decide_eq_true oo
  ·rw[if_neg h,Bool.eq_false_iff.2 h,Bool.false_or]
theorem PN{α:Type}(p:α→Bool): ∀(l:List α) (i:Nat),Cs p l i<((l.length+i:Nat):Int)
 | [],i=>by rw[Cs];omega
 | x::l,i=>by
  have:=PN p l (i+1)
  rw[Cs,List.length_cons];split<;>omega
def D9(n:Nat)(t:Nat×Nat×Nat): Bool:=decide (t.1<n) && decide (t.2.1<n) && decide (t.2.2<n) && decide (t.1≠t.2.1) && decide (t.2.1≠t.2.2) && decide (t.2.2≠t.1)
theorem Gl(p n:Nat): Ji prog 165 [.int .i64 ((p:Nat):Int),.int .i64 ((n:Nat):Int)] (.bool (decide (p<n))):=by
 refine fnI func165 I ntmps165 fun S w0 d=>au 0x40f4312531 ?_
 refine bbT (fun c=>(by exfalso;exact of_decide_eq_false c oo)) fun c=>au 0x2bf08f08f4 ?_;intro a w h
 refine Zh h (fun b h=>?_) (fun b h=>?_)
 ·refine gL h<|au 0x6252e ?_
  refine rtK ?_
  congr 1;exact(decide_eq_true (dT b)).symm
 ·refine gL h<|au 0x6252e ?_
  refine rtK ?_
  congr 1;exact(decide_eq_false (dF b)).symm
theorem C_num1(t:Nat×Nat×Nat)(n b o:Nat): Xo prog 241 [Zd t,.pointer (some ⟨b,o,none⟩)] [Row (some ⟨b,o,none⟩) [.int .i64 ((n:Nat):Int)]] (.bool (!D9 n t)):=by
 refine fnI func241 I ntmps241 fun S w0 l=>zS (zx I fun k=>au 0x60f57f3125 ?_)
 refine zD (b:=b) (off:=o) (j:=0) (M:=[.int .i64 ((n:Nat):Int)]) (v:=.int .i64 ((n:Nat):Int)) I mm (Nat.succ_pos _) isAgg3 sizeOf3 I (.inr I) ?_
 refine zv [_,_] I call165 (Gl ((t).1) n) ?_;intro a w h
 refine Zh h (fun i h=>?_) (fun i h=>?_)
 focus
  refine gL h<|au 0x420f ?_
  refine zq 9 I I (.indexAddr I I<|Yu _ _)<|ldQ 9 Vb ?_;clear h;intro a w h
  refine Zq 9 h I I<|Xp h (b:=b) (off:=o) (j:=0) (M:=[.int .i64 ((n:Nat):Int)]) (v:=.int .i64 ((n:Nat):Int)) I mm (Nat.succ_pos _) isAgg3 sizeOf3 I (.inr I) dd ?_;clear h;intro a h
  refine Zq 9 h I I<|Qw h (vs:=[_,_]) I call165 (Gl ((t).2.1) n) dd ?_;clear h;intro a w h
  refine Zh h (fun f h=>?_) (fun f h=>?_)
  focus
   refine gL h<|zq 9 I I (.unOp I<|Gg _)<|au 0x44e ?_
   refine zq 16 I I (.indexAddr I I<|Yt _ _)<|ldQ 16 Kz ?_;clear h;intro a w h
   refine Zq 16 h I I<|Xp h (b:=b) (off:=o) (j:=0) (M:=[.int .i64 ((n:Nat):Int)]) (v:=.int .i64 ((n:Nat):Int)) I mm (Nat.succ_pos _) isAgg3 sizeOf3 I (.inr I) dd ?_;clear h;intro a h
   refine Zq 16 h I I<|Qw h (vs:=[_,_]) I call165 (Gl ((t).2.2) n) dd ?_;clear h;intro a w h
   refine Zh h (fun d h=>?_) (fun d h=>?_)
   focus
    refine gL h<|zq 16 I I (.unOp I<|Gg _)<|au 0x44e ?_
    refine zq 23 I I (.indexAddr I I<|Aw _ _)<|ldQ 23 Bn ?_
    refine zq 23 I I (.indexAddr I I<|Yu _ _)<|ldQ 23 Vb ?_
    refine zq 23 I I (.eql I I) ?_;clear h;intro a w h
    refine Zh h (fun e h=>?_) (fun e h=>?_)
    focus
     refine gL h<|au 0x6252e80f80f80f80f80f42e21f21f21f21f21f44e ?_;clear h;intro a w h
    rotate_left
    focus
     refine gL h<|au 0x44e ?_
     refine zq 30 I I (.indexAddr I I<|Yu _ _)<|ldQ 30 Vb ?_
     refine zq 30 I I (.indexAddr I I<|Yt _ _)<|ldQ 30 Kz ?_
     refine zq 30 I I (.eql I I) ?_;clear h;intro a w h
     refine Zh h (fun c h=>?_) (fun c h=>?_)
     focus
      refine gL h<|au 0x6252e80f80f80f80f80f44e ?_;clear h;intro a w h
     rotate_left
     focus
      refine gL h<|au 0x44e ?_
      refine zq 37 I I (.indexAddr I I<|Yt _ _)<|ldQ 37 Kz ?_
      refine zq 37 I I (.indexAddr I I<|Aw _ _)<|ldQ 37 Bn ?_
      refine zq 37 I I (.eql I I) ?_;clear h;intro a w h
      refine Zh h (fun g h=>?_) (fun g h=>?_)
      all_goals
       refine gL h<|au 0x6254e ?_;clear h;intro a w h
   rotate_left 4
   focus
    refine gL h<|zq 16 I I (.unOp I<|Gg _)<|au 0x6252e80f80f80f80f80f42e21f21f21f21f21f42e82f82f82f82f82f44e ?_;clear h;intro a w h
  rotate_left 5
  focus
   refine gL h<|zq 9 I I (.unOp I<|Gg _)<|au 0x6252e80f80f80f80f80f42e21f21f21f21f21f42e82f82f82f82f82f42e31f31f31f31f31f44e ?_;clear h;intro a w h
 rotate_left 6
 focus
  refine gL h<|au 0x6252e80f80f80f80f80f42e21f21f21f21f21f42e82f82f82f82f82f42e31f31f31f31f31f42ee5fe5fe5fe5fe5f420f ?_;clear h;intro a w h
 all_goals
  refine Js h (Ze h I<|.tmp I) ?_
  clear h;simp[D9] at *;omega
theorem od(l:List (Nat×Nat×Nat))(ad:Option Addr)(c:Nat)(s:l.length≤1000000)(n b o:Nat): Xo prog 301 [.slice ad l.length c,.func (.func 241) #[] #[.pointer (some ⟨b,o,none⟩)]] [Row ad (cellsOf Zd l),Row (some ⟨b,o,none⟩) [.int .i64 ((n:Nat):Int)]] (.int .i64 (Cs (fun t => !D9 n t) l 0)):=by
 refine fnI func301 I ntmps301 fun S w0 r=>au 0x924e0f43112531 ?_;intro a w h
 refine lpG h [0,1,7] pkL (fun Y Z (i:Nat) a w=>i≤l.length∧(Cs (fun t => !D9 n t) l 0=Cs (fun t => !D9 n t) (l.drop i) i)∧St 19 S w0 ((8,nI i)::Y) [] Z a w) (fun i=>l.length-i) 0 (⟨Nat.zero_le _,rfl,by exact(h).sub sA⟩) ?_;clear h
 rintro i a w ⟨p,d,h⟩
 refine gC h<|au 0x12c31 ?_;intro a w h
 refine Zb h I (fun j=>?_) (fun j=>?_)
 ·have f:i<l.length:=dT j
  obtain ⟨q,m,rfl⟩:=h.row_addr (ad:=ad) (M:=cellsOf Zd l) mm (nE 3)
  refine gC h<|au 0x42f4443125431917 ?_
  refine zD I mm (cells_lt (k:=3) dd (fun _=>rfl) l i oo) isAgg127 sizeOf127 (Zg (k:=3) (fun _=>rfl) ((fun _=>rfl)) l (0,0,0) i oo) (.inl I) ?_;clear h;intro a w h
  refine Zc<|Xm h (fs:=[]) (cs:=[.pointer (some ⟨b,o,none⟩)]) I (vs:=[_]) I call241 (C_num1 (l.getD i (0,0,0)) n b o) ss dd ?_;clear h;intro a w h
  refine Zh h (fun e h=>?_) (fun e h=>?_)
  ·refine wpList_nil ?_
   refine cW ?_
   refine Qo h I ?_
   refine gC h<|au 0x625431 ?_
   refine rtK ?_
   rw[d,Yv _ l i (0,0,0) f,if_pos e]
  ·refine wpList_nil ?_
   refine cW ?_
   refine Zj h I ?_
   refine gC h<|zk<|zr<|zp (.pN (i+1)<|.add I I)<|au 0x24 ?_;clear h;intro a w h
   exact⟨i+1,⟨oo,by rw[d,Yv _ l i (0,0,0) f,if_neg (by rw[e];decide)],tO h⟩,oo⟩
 ·have g:l.length=i:=dF j
  subst g
  refine gC h<|au 0x625310e ?_
  refine rtK ?_
  rw[d,List.drop_length];rfl
theorem oz(l:List (Nat×Nat×Nat))(ad:Option Addr)(c:Nat)(a:l.length≤1000000)(n b o:Nat): Xo prog 240 [.slice ad l.length c,.func (.func 241) #[] #[.pointer (some ⟨b,o,none⟩)]] [Row ad (cellsOf Zd l),Row (some ⟨b,o,none⟩) [.int .i64 ((n:Nat):Int)]] (.bool (l.any (fun t => !D9 n t))):=by
 refine fnI func240 I ntmps240 fun S w0 d=>au 0x44312531 ?_
 refine zw [_,_] I call301 (od l _ _ a n b o)<|au 0x62540f ?_
 refine rtK ?_
 rw[E5]
end
section
def Vu(t a b:Nat)(e:Ed): Ed:=if a<b∧e.l = -1 then { e with l:=(t:Int) } else if b<a∧e.r = -1 then { e with r:=(t:Int) } else e
def Zo(a b:Nat): Nat×Nat:=(min a b,max a b)
def Jv(m:List ((Nat×Nat)×Ed))(k:Nat×Nat): Ed:=(Zu m k).getD ⟨k.1,k.2, -1, -1⟩
def Ec(t a b:Nat)(m:List ((Nat×Nat)×Ed)): List ((Nat×Nat)×Ed):=Kl m (Zo a b) (Vu t a b (Jv m (Zo a b)))
def crn(t:Nat×Nat×Nat)(i:Nat): Nat:=match i with
 | 0=>t.1
 | 1=>t.2.1
 | _=>t.2.2
def Hy(t:Nat)(c:Nat×Nat×Nat): Nat→List ((Nat×Nat)×Ed)→List ((Nat×Nat)×Ed)
 | 0,m=>m
 | i+1,m=>Ec t (crn c i) (crn c ((i+1)%3)) (Hy t c i m)
def Ja(l:List (Nat×Nat×Nat)): Nat→List ((Nat×Nat)×Ed)
 | 0=>[]
 | t+1=>Hy t (l.getD t (0,0,0)) 3 (Ja l t)
def UQ(x y:Ed): Bool:=decide (x.a<y.a∨(x.a=y.a∧x.b≤y.b))
def lD(x:Ed): List Ed→List Ed
 | []=>[x]
 | y::l=>if UQ x y then x::y::l else y::lD x l
def bM:List Ed→List Ed
 | []=>[]
 | x::l=>lD x (bM l)
def Za(l:List (Nat×Nat×Nat)): List Ed:=bM ((Ja l l.length).map (·.2))
theorem Iu(x:Ed): ∀l,(lD x l).Perm (x::l)
 | []=>List.Perm.refl _
 | y::l=>by
  rw[lD];split
  ·exact List.Perm.refl _
  ·exact((Iu x l).cons y).trans (List.Perm.swap x y l)
theorem Vz:∀l,(bM l).Perm l
 | []=>List.Perm.refl _
 | x::l=>(Iu x _).trans ((Vz l).cons x)
theorem DW(x y:Ed): UQ x y=true↔(x.a<y.a∨(x.a=y.a∧x.b≤y.b)):=decide_eq_true_iff
theorem It(x:Ed): ∀l,l.Pairwise (fun x y=>UQ x y=true)→(lD x l).Pairwise (fun x y=>UQ x y=true)
 | [],_=>by simp[lD]
 | y::l,h=>by
  rw[List.pairwise_cons] at h
  rw[lD];split
  ·rename_i a
   refine List.pairwise_cons.2 ⟨fun z hz=>?_,List.pairwise_cons.2 h⟩
   rcases List.mem_cons.1 hz with rfl|hz
   ·exact a
   ·have h1:=h.1 z hz;rw[DW] at h1 a ⊢;omega
  ·rename_i a
   refine List.pairwise_cons.2 ⟨fun z hz=>?_,It x l h.2⟩
   rcases List.mem_cons.1 ((Iu x l).mem_iff.1 hz) with rfl|hz
   ·rw[DW] at a ⊢;omega
   ·exact h.1 z hz
theorem Ce:∀l,(bM l).Pairwise (fun x y=>UQ x y=true)
 | []=>List.Pairwise.nil
 | x::l=>It x _ (Ce l)
theorem FU:∀ {l k:List Ed},l.Perm k→l.Pairwise (fun x y=>UQ x y=true)→k.Pairwise (fun x y=>UQ x y=true)→(∀x∈l,∀y∈l,x.a=y.a→x.b=y.b→x=y)→l=k
 | [],k,h,_,_,_=>(List.nil_perm.1 h).symm
 | x::l,[],h,_,_,_=>by have:=h.length_eq;simp at this
 | x::l,y::k,h,h1,d,hd=>by
  have f:x=y:=by
   rw[List.pairwise_cons] at h1 d
   have hx:x∈y::k:=h.mem_iff.1 List.mem_cons_self
   have c:y∈x::l:=h.mem_iff.2 List.mem_cons_self
   rcases List.mem_cons.1 hx with e|hx
   ·exact e
   ·rcases List.mem_cons.1 c with e|c
    ·exact e.symm
    ·have g:=d.1 x hx;have a2:=h1.1 y c
     rw[DW] at g a2
     exact hd x List.mem_cons_self y (List.mem_cons_of_mem _ c) oo oo
  subst f
  rw[FU (List.Perm.cons_inv h) (List.pairwise_cons.1 h1).2 (List.pairwise_cons.1 d).2 (fun u hu v hv=>hd u (List.mem_cons_of_mem _ hu) v (List.mem_cons_of_mem _ hv))]
theorem W4{l k:List Ed}(h:l.Perm k)(hd:∀x∈l,∀y∈l,x.a=y.a→x.b=y.b→x=y): l.mergeSort UQ=bM k:=by
 refine FU ((List.mergeSort_perm l UQ).trans<|h.trans (Vz k).symm) ?_ (Ce k) (fun x hx y d=>hd x ((List.mergeSort_perm l UQ).mem_iff.1 hx) y ((List.mergeSort_perm l UQ).mem_iff.1 d))
 refine List.pairwise_mergeSort (fun a b c h1 e=>?_) (fun a b=>?_) l
 ·rw[DW] at *;omega
 ·simp only[Bool.or_eq_true,DW];omega
theorem ET{α β:Type}[DecidableEq α]{m:List (α×β)}{x:α}{y:β}{p:α×β}(h:p∈Kl m x y): p=(x,y)∨p∈m:=by
 induction m with
 | nil=>simp[Kl] at h;exact .inl h
 | cons q m a =>
  by_cases e:q.1=x
  ·rw[Kl,if_pos e] at h
   rcases List.mem_cons.1 h with h|h
   ·exact .inl h
   ·exact .inr (List.mem_cons_of_mem _ h)
  ·rw[Kl,if_neg e] at h
   rcases List.mem_cons.1 h with h|h
   ·exact .inr (h ▸ List.mem_cons_self)
   ·rcases a h with h|h
    ·exact .inl h
    ·exact .inr (List.mem_cons_of_mem _ h)
structure EdOk(n t:Nat)(k:Nat×Nat)(e:Ed): Prop where
 a:e.a=k.1
 b:e.b=k.2
 lt:k.1<k.2
 n:k.2<n
 l0 : -1≤e.l
 l1:e.l<(t:Int)
 r0 : -1≤e.r
 r1:e.r<(t:Int)
 has:0≤e.l∨0≤e.r
def EdInv(n t:Nat)(m:List ((Nat×Nat)×Ed)): Prop:=(m.map (·.1)).Nodup ∧ ∀p∈m,EdOk n t p.1 p.2
theorem EdOk.mono{n t s:Nat}{k:Nat×Nat}{e:Ed}(h:EdOk n t k e)(hs:t≤s): EdOk n s k e:={ h with l1:=by have:=h.l1;omega,r1:=by have:=h.r1;omega }
theorem EdInv.mono{n t s:Nat}{m:List ((Nat×Nat)×Ed)}(h:EdInv n t m)(hs:t≤s): EdInv n s m:=⟨h.1,fun p a=>(h.2 p a).mono hs⟩
theorem EdInv.step{n t a b:Nat}{m:List ((Nat×Nat)×Ed)}(h:EdInv n (t+1) m)(ha:a<n)(j:b<n)(c:a≠b): EdInv n (t+1) (Ec t a b m):=by
 refine⟨Wx _ _ _ h.1,fun p d=>?_⟩
 rcases ET d with rfl|d
 ·have hk:(Zo a b).1<(Zo a b).2∧(Zo a b).2<n:=by unfold Zo;simp only;omega
  have i:(Jv m (Zo a b)).a=(Zo a b).1∧(Jv m (Zo a b)).b=(Zo a b).2 ∧ -1≤(Jv m (Zo a b)).l∧(Jv m (Zo a b)).l<((t+1:Nat):Int) ∧ -1≤(Jv m (Zo a b)).r∧(Jv m (Zo a b)).r<((t+1:Nat):Int):=by
   unfold Jv
   cases hm:Zu m (Zo a b) with
   | none=>exact⟨rfl,rfl,by show(-1:Int) ≤ -1;omega,by show(-1:Int)<_;omega,by show(-1:Int) ≤ -1;omega,by show(-1:Int)<_;omega⟩
   | some e =>
    have:=h.2 _ (Fa hm)
    exact⟨this.a,this.b,this.l0,this.l1,this.r0,this.r1⟩
  obtain ⟨g1,g2,g3,g4,g5,g6⟩:=i
  unfold Vu
  split
  ·exact⟨g1,g2,hk.1,hk.2,by simp only;omega,by simp only;omega,g5,g6,.inl (by simp only;omega)⟩
  ·rename_i g
   split
   ·exact⟨g1,g2,hk.1,hk.2,g3,g4,by simp only;omega,by simp only;omega,.inr (by simp only;omega)⟩
   ·rename_i f
    refine⟨g1,g2,hk.1,hk.2,g3,g4,g5,g6,?_⟩
    rcases Nat.lt_or_gt_of_ne c with h1|h1
    ·exact .inl (by have:(Jv m (Zo a b)).l ≠ -1:=fun e=>g ⟨h1,e⟩;show 0≤(Jv m (Zo a b)).l;omega)
    ·exact .inr (by have:(Jv m (Zo a b)).r ≠ -1:=fun e=>f ⟨h1,e⟩;show 0≤(Jv m (Zo a b)).r;omega)
 ·exact h.2 p d
theorem Xz{n:Nat}{t:Nat×Nat×Nat}: D9 n t=true↔t.1<n∧t.2.1<n∧t.2.2<n∧t.1≠t.2.1∧t.2.1≠t.2.2∧t.2.2≠t.1:=by
 simp only[D9,Bool.and_eq_true,decide_eq_true_eq];simp only[and_assoc]
theorem EdInv.tri{n t:Nat}{c:Nat×Nat×Nat}(hc:D9 n c=true){m:List ((Nat×Nat)×Ed)}(h:EdInv n (t+1) m): ∀i,i≤3→EdInv n (t+1) (Hy t c i m)
 | 0,_=>h
 | i+1,f=>by
  obtain ⟨h1,b,d,j,g,e⟩:=Xz.1 hc
  have a:=EdInv.tri hc h i oo
  rw[Hy]
  match i,f with
  | 0,_=>exact a.step h1 b j
  | 1,_=>exact a.step b d g
  | 2,_=>exact a.step d h1 e
theorem II{n:Nat}{l:List (Nat×Nat×Nat)}(h:∀c∈l,D9 n c=true): ∀t,t≤l.length→EdInv n t (Ja l t)
 | 0,_=>⟨List.nodup_nil,fun _ h=>nomatch h⟩
 | t+1,ht=>by
  rw[Ja]
  exact EdInv.tri (h _ (getD_mem l oo)) ((II h t oo).mono (Nat.le_succ t)) 3 (Nat.le_refl 3)
theorem Fp{n:Nat}{l:List (Nat×Nat×Nat)}(h:∀c∈l,D9 n c=true): ∀e∈Za l,EdOk n l.length (e.a,e.b) e:=by
 intro e he
 rw[Za,(Vz _).mem_iff] at he
 obtain ⟨p,d,rfl⟩:=List.mem_map.1 he
 have:=(II h l.length (Nat.le_refl _)).2 p d
 have f:(p.2.a,p.2.b)=p.1:=by rw[this.a,this.b]
 rw[f];exact this
theorem kw{α β:Type}[DecidableEq α](m:List (α×β))(x:α)(y:β): (Kl m x y).length≤m.length+1:=by
 induction m with
 | nil=>exact Nat.le_refl _
 | cons q m a =>
  by_cases e:q.1=x
  ·rw[Kl,if_pos e];simp
  ·rw[Kl,if_neg e];simp only[List.length_cons];omega
theorem NW(t:Nat)(c:Nat×Nat×Nat)(m:List ((Nat×Nat)×Ed)): ∀i,(Hy t c i m).length≤m.length+i
 | 0=>Nat.le_refl _
 | i+1=>by rw[Hy];have:=NW t c m i;have:=kw (Hy t c i m) (Zo (crn c i) (crn c ((i+1)%3))) (Vu t (crn c i) (crn c ((i+1)%3)) (Jv (Hy t c i m) (Zo (crn c i) (crn c ((i+1)%3)))));unfold Ec;omega
theorem B5(l:List (Nat×Nat×Nat)): ∀t,(Ja l t).length≤3*t
 | 0=>Nat.le_refl _
 | t+1=>by rw[Ja];have:=B5 l t;have:=NW t (l.getD t (0,0,0)) (Ja l t) 3;omega
theorem Gk(l:List (Nat×Nat×Nat)): (Za l).length≤3*l.length:=by
 rw[Za,(Vz _).length_eq,List.length_map];exact B5 l _
def mz(a b:Nat): Int:=if a<b then -1 else if b<a then 1 else 0
def cfE(x y:Ed): Int:=if mz x.a y.a≠0 then mz x.a y.a else mz x.b y.b
theorem cfE_lt(x y:Ed): cfE x y<0↔(x.a<y.a∨(x.a=y.a∧x.b<y.b)):=by
 unfold cfE mz
 by_cases h1:x.a<y.a
 ·simp[h1]
 ·by_cases c:y.a<x.a
  ·simp[h1,c];omega
  ·have:x.a=y.a:=oo
   simp only[h1,c,if_false]
   by_cases d:x.b<y.b
   ·simp[d,this]
   ·by_cases e:y.b<x.b<;>simp[d,e,this]
def IT(a b:Nat)(m:List ((Nat×Nat)×Nat)): List ((Nat×Nat)×Nat):=Kl m (Zo a b) ((Zu m (Zo a b)).getD 0+1)
def cnTri(c:Nat×Nat×Nat): Nat→List ((Nat×Nat)×Nat)→List ((Nat×Nat)×Nat)
 | 0,m=>m
 | i+1,m=>IT (crn c i) (crn c ((i+1)%3)) (cnTri c i m)
def Kh(l:List (Nat×Nat×Nat)): Nat→List ((Nat×Nat)×Nat)
 | 0=>[]
 | t+1=>cnTri (l.getD t (0,0,0)) 3 (Kh l t)
def O7(l:List (Nat×Nat×Nat))(e:Ed): Bool:=decide ((Zu (Kh l l.length) (e.a,e.b)).getD 0=1)
def sdE(e:Ed): Nat×Nat×Nat:=(e.a,e.b,0)
def EO(l:List (Nat×Nat×Nat)): List (Nat×Nat×Nat):=((Za l).filter (O7 l)).map sdE
end
section
theorem GM{b off:Nat}: RN (Instr.fieldAt 42 (.pointer (some ⟨b,off,none⟩)) 0) (.pointer (some ⟨b,off+0,none⟩)):=fun w=>by
 simp[go_sem]
theorem C7(a:Option Addr)(n c:Nat)(w:World)(ty:TypeId)(cs:Array Bool): (Go.builtin .len #[38] ty cs #[.slice a n c]).run prog w=.ok (.value (.int .i64 n)) w:=by
 simp[go_sem]
theorem Cv{b off:Nat}: RN (Instr.fieldAt 42 (.pointer (some ⟨b,off,none⟩)) 1) (.pointer (some ⟨b,off+1,none⟩)):=fun w=>by
 simp[go_sem]
theorem TV(b off n c j:Nat)(h:j<n): RN (Instr.indexAt 38 (.slice (some ⟨b,off,none⟩) n c) (.int .i64 (j:Int))) (.pointer (some ⟨b,off+j*10,none⟩)):=fun w=>by
 simpa using Qd runUnderlying38 sizeOf119 b off n c j h w
theorem IE{b off:Nat}: RN (Instr.fieldAt 42 (.pointer (some ⟨b,off,none⟩)) 2) (.pointer (some ⟨b,off+2,none⟩)):=fun w=>by
 simp[go_sem]
theorem Hj(a:Option Addr)(n c:Nat)(w:World)(ty:TypeId)(cs:Array Bool): (Go.builtin .len #[40] ty cs #[.slice a n c]).run prog w=.ok (.value (.int .i64 n)) w:=by
 simp[go_sem]
theorem ix_40(b off n c j:Nat)(h:j<n): RN (Instr.indexAt 40 (.slice (some ⟨b,off,none⟩) n c) (.int .i64 (j:Int))) (.pointer (some ⟨b,off+j*3,none⟩)):=fun w=>by
 simpa using Qd runUnderlying40 sizeOf178 b off n c j h w
theorem HO{b off:Nat}: RN (Instr.fieldAt 178 (.pointer (some ⟨b,off,none⟩)) 0) (.pointer (some ⟨b,off+0,none⟩)):=fun w=>by
 simp[go_sem]
theorem Cx{b off:Nat}: RN (Instr.fieldAt 178 (.pointer (some ⟨b,off,none⟩)) 1) (.pointer (some ⟨b,off+1,none⟩)):=fun w=>by
 simp[go_sem]
theorem Cw{b off:Nat}: RN (Instr.fieldAt 178 (.pointer (some ⟨b,off,none⟩)) 2) (.pointer (some ⟨b,off+2,none⟩)):=fun w=>by
 simp[go_sem]
def Cr(a b:Pt): Bool:=if (a.1-b.1).num.sign≠0 then decide ((a.1-b.1).num.sign<0) else decide ((a.2-b.2).num.sign<0)
def bZ(a b:Pt): Int:=if Cr a b=true then -1 else if Cr b a=true then 1 else 0
def pt(m:Ms)(i:Nat): Pt:=m.P.getD i (0,0)
def nxP(s0 s1 s2 p q:Pt): Bool := !([s0,s1,s2].any fun r=>decide ((twP p q r).num.sign>0))
def Z2(p0 p1 p2 s0 s1 s2:Pt): Bool:=nxP s0 s1 s2 p0 p1 || nxP s0 s1 s2 p1 p2 || nxP s0 s1 s2 p2 p0
def mH(m:Ms)(t s:Nat×Nat×Nat): Bool:=Z2 (pt m t.1) (pt m t.2.1) (pt m t.2.2) (pt m s.1) (pt m s.2.1) (pt m s.2.2)
def HM(t:Nat×Nat×Nat)(p:Nat): Bool:=decide (t.1=p) || decide (t.2.1=p) || decide (t.2.2=p)
structure MV(K:Nat)(m:Ms): Prop where
 num:∀t∈m.T,D9 m.P.length t=true
 pos:∀t∈m.T,(twP (pt m t.1) (pt m t.2.1) (pt m t.2.2)).num.sign=1
 sd:∀s∈m.S,s.1<m.P.length∧s.2.1<m.P.length∧s.2.2≤255
 ne:0<m.T.length
 K:∀p∈m.P,PtK K p
 nP:m.P.length≤4000
 nT:m.T.length≤4000
 nS:m.S.length≤4000
 used:∀p,p<m.P.length → ∃t∈m.T,HM t p=true
 dif:m.P.Nodup
 apart:∀i k,k<i→i<m.T.length→(mH m (m.T.getD i (0,0,0)) (m.T.getD k (0,0,0)) || mH m (m.T.getD k (0,0,0)) (m.T.getD i (0,0,0)))=true
 out:∀t∈m.T,∀q,q<m.P.length→HM t q=false→twP (pt m q) (pt m t.2.1) (pt m t.2.2)<0∨twP (pt m t.1) (pt m q) (pt m t.2.2)<0∨twP (pt m t.1) (pt m t.2.1) (pt m q)<0
 rim:m.S.map (fun s=>(s.1,s.2.1,0))=EO m.T
theorem MV.ptK{K:Nat}{m:Ms}(h:MV K m){i:Nat}(a:i<m.P.length): PtK K (pt m i):=h.K _ (getD_mem m.P a)
theorem MV.neP{K:Nat}{m:Ms}(h:MV K m): 0<m.P.length:=by
 have h1:=Xz.1 (h.num _ (getD_mem m.T (d:=(0,0,0)) h.ne));omega
theorem MV.tri{K:Nat}{m:Ms}(h:MV K m){t:Nat×Nat×Nat}(ht:t∈m.T): PtK K (pt m t.1)∧PtK K (pt m t.2.1)∧PtK K (pt m t.2.2):=by
 have:=Xz.1 (h.num t ht)
 exact⟨h.ptK this.1,h.ptK this.2.1,h.ptK this.2.2.1⟩
theorem SH(u v:Pt)(f:Zn u.1≤100000)(e:Zn u.2≤100000)(d:Zn v.1≤100000)(c:Zn v.2≤100000): Ji prog 170 [encPt u,encPt v] (.bool (Cr u v)):=by
 refine fnI func170 I ntmps170 fun S w0 j=>zS (zx I fun i=>zx I fun g=>au 0xe3f49fe3f49f31125 ?_)
 refine zv [_,_] I call9 (Ht u.1 v.1 oo oo)<|au 0x62f43125 ?_;intro a w h
 refine Zh h (fun b h=>?_) (fun b h=>?_)
 ·refine wpList_nil ?_
  refine cW ?_
  refine Qo h I ?_
  refine gC h<|au 0x625c431 ?_
  refine rtK ?_
  congr 1;unfold Cr;rw[if_pos (by simpa using b)]
 ·refine wpList_nil ?_
  refine cW ?_
  refine Zj h I ?_
  refine gC h<|au 0x16f39f16f39f317 ?_
  refine zv [_,_] I call9 (Ht u.2 v.2 oo oo)<|au 0x625c ?_
  refine rtK ?_
  congr 1;unfold Cr;rw[if_neg (by simpa using b)]
theorem nt(u v:Pt)(hu:PtK 100000 u)(hv:PtK 100000 v): Ji prog 169 [encPt u,encPt v] (.int .i64 (bZ u v)):=by
 obtain ⟨f,g⟩:=hu
 obtain ⟨e,d⟩:=hv
 refine fnI func169 I ntmps169 fun S w0 k=>zS (zx I fun j=>zx I fun i=>au 0x8e8e319125 ?_)
 refine zv [_,_] I call170 (SH u v oo oo oo oo) ?_;intro a w h
 refine Zh h (fun c h=>?_) (fun c h=>?_)
 ·refine gL h<|au 0x625311e25 ?_
  refine rtK ?_
  unfold bZ;rw[if_pos c]
 ·refine gL h<|au 0x8e8e31d25 ?_
  refine zv [_,_] I call170 (SH v u oo oo oo oo) ?_;clear h;intro a w h
  refine Zh h (fun b h=>?_) (fun b h=>?_)
  ·refine gL h<|au 0x625311e25 ?_
   refine rtK ?_
   unfold bZ;rw[if_neg (by rw[c];decide),if_pos b]
  ·refine gL h<|au 0x625317d25 ?_
   refine rtK ?_
   unfold bZ;rw[if_neg (by rw[c];decide),if_neg (by rw[b];decide)]
theorem nz(K:Nat)(m:Ms)(g e f:Option Addr)(F B D:Nat)(hv:MV K m)(hK:K≤100000): Xo prog 94 [Qz m g e f F B D] [Row g (cellsOf encPt m.P),Row e (cellsOf Zd m.T),Row f (cellsOf Zd m.S)] (.bool true):=by
 have a7:=hv.nP
 have b2:=hv.nT
 have a1:=hv.nS
 have a8:=hv.ne
 have J:=hv.neP
 refine fnI func94 I ntmps94 fun S w0 hS=>zS (zx I fun O=>au 0x924e0f90f91f3112581f60f52f3125 ?_);intro a w h
 refine lpG h [1,3,12,13] pkL (fun Y Z (i:Nat) a w=>i≤m.T.length∧St 94 S w0 ((14,nI i)::Y) [(O,bV (Qz m g e f F B D) 42)] Z a w) (fun i=>m.T.length-i) 0 (⟨Nat.zero_le _,by exact(h).sub sA⟩) ?_;clear h
 rintro i a w ⟨L,h⟩
 refine gC h<|au 0x12c31 ?_;intro a w h
 refine Zb h I (fun c=>?_) (fun c=>?_)
 ·have y:i<m.T.length:=dT c
  obtain ⟨G,z,rfl⟩:=h.row_addr (ad:=e) (M:=cellsOf Zd m.T) mm (nE 3)
  obtain ⟨C,E,rfl⟩:=h.row_addr (ad:=g) (M:=cellsOf encPt m.P) mm (nE 10)
  have ht:=getD_mem m.T (d:=(0,0,0)) y
  obtain ⟨n1,n2,Q,_,_,_⟩:=Xz.1 (hv.num _ ht)
  have X:=hv.pos _ ht
  have hk:=hv.tri ht
  simp only[pt,PtK] at hk
  obtain ⟨⟨U,W⟩,⟨b0,a6⟩,⟨V,R⟩⟩:=hk
  refine gC h<|au 0x42f31917 ?_
  refine zD I mm (cells_lt (k:=3) dd (fun _=>rfl) m.T i oo) isAgg127 sizeOf127 (Zg (k:=3) (fun _=>rfl) ((fun _=>rfl)) m.T (0,0,0) i oo) (.inl I) ?_
  refine zz A3 fun b5=>stW I I Qg ?_
  refine zn<|zs<|yE [0,1,2,3,4,5,6,7,8,9,10,11,12,13,14,15,16,17,18,19,20,21,22,23,24,25,26,27,28,29,30,31,32,33,34,35,36,37,38,39,40]<|au 0xdea3f ?_;clear h
  refine au 0x8 ?_
  refine yv [_,_] I I call165 (Gl ((m.T.getD i (0,0,0)).1) m.P.length) ?_
  refine Ju (fun p  =>?_) (fun p  =>(by exfalso;exact of_decide_eq_false p n1))
  refine au 0x81bf ?_
  refine yq I I I (.indexAddr I I<|Yu _ _)<|yg I I I I mr isAgg3 sizeOf3 Vb ?_
  refine au 0xb4f ?_
  refine Xk I I I kk (vs:=[_,_]) I call165 (Gl ((m.T.getD i (0,0,0)).2.1) m.P.length) dd ?_
  refine Ju (fun r  =>?_) (fun r  =>(by exfalso;exact of_decide_eq_false r n2))
  refine yq I I I (.unOp I<|Gg _)<|au 0x8a5f ?_
  refine yq I I I (.indexAddr I I<|Yt _ _)<|yg I I I I mr isAgg3 sizeOf3 Kz ?_
  refine au 0xb4f ?_
  refine Xk I I I kk (vs:=[_,_]) I call165 (Gl ((m.T.getD i (0,0,0)).2.2) m.P.length) dd ?_
  refine Ju (fun n  =>?_) (fun n  =>(by exfalso;exact of_decide_eq_false n Q))
  refine yq I I I (.unOp I<|Gg _)<|au 0x8a5f ?_
  refine yq I I I (.fA I GM)<|yg I I I I mr isAgg38 sizeOf38 Bn ?_
  refine yq I I I (.indexAddr I I<|Aw _ _)<|yg I I I I mr isAgg3 sizeOf3 Bn ?_
  refine yq I I I (.indexAddr I I<|TV _ _ _ _ _ oo) ?_
  refine AP I I I kk I mm (cells_lt (k:=10) dd (fun _=>rfl) m.P ((m.T.getD i (0,0,0)).1) oo) isAgg119 sizeOf119 (Zg (k:=10) (fun _=>rfl) ((fun _=>rfl)) m.P (0,0) ((m.T.getD i (0,0,0)).1) oo) (.inl I) dd ?_
  refine yq I I I (.fA I GM)<|yg I I I I mr isAgg38 sizeOf38 Bn ?_
  refine yq I I I (.indexAddr I I<|Yu _ _)<|yg I I I I mr isAgg3 sizeOf3 Vb ?_
  refine yq I I I (.indexAddr I I<|TV _ _ _ _ _ oo) ?_
  refine AP I I I kk I mm (cells_lt (k:=10) dd (fun _=>rfl) m.P ((m.T.getD i (0,0,0)).2.1) oo) isAgg119 sizeOf119 (Zg (k:=10) (fun _=>rfl) ((fun _=>rfl)) m.P (0,0) ((m.T.getD i (0,0,0)).2.1) oo) (.inl I) dd ?_
  refine yq I I I (.fA I GM)<|yg I I I I mr isAgg38 sizeOf38 Bn ?_
  refine yq I I I (.indexAddr I I<|Yt _ _)<|yg I I I I mr isAgg3 sizeOf3 Kz ?_
  refine yq I I I (.indexAddr I I<|TV _ _ _ _ _ oo) ?_
  refine AP I I I kk I mm (cells_lt (k:=10) dd (fun _=>rfl) m.P ((m.T.getD i (0,0,0)).2.2) oo) isAgg119 sizeOf119 (Zg (k:=10) (fun _=>rfl) ((fun _=>rfl)) m.P (0,0) ((m.T.getD i (0,0,0)).2.2) oo) (.inl I) dd ?_
  refine Xk I I I kk (vs:=[_,_,_]) I call166 (SE (m.P.getD ((m.T.getD i (0,0,0)).1) (0,0)) (m.P.getD ((m.T.getD i (0,0,0)).2.1) (0,0)) (m.P.getD ((m.T.getD i (0,0,0)).2.2) (0,0)) oo oo oo oo oo oo) dd ?_
  refine yq I I I (.neq I I) ?_
  refine Ju (fun o  =>(by exfalso;exact(bne_iff_ne.1 o) X)) (fun o  =>?_)
  refine au 0x37daa5f ?_
  refine zp (.pN (i+1)<|.add I I)<|au 0x24 ?_;intro a w h
  exact⟨i+1,⟨oo,tO h⟩,oo⟩
 ·have x:m.T.length=i:=dF c
  subst x
  refine gC h<|au 0x924b2f51f36f3110e ?_;clear h;intro a w h
  refine lpG h [1,3,12,13,14,61,62] pkL (fun Y Z (j:Nat) a w=>j≤m.S.length∧St 94 S w0 ((63,nI j)::Y) [(O,bV (Qz m g e f F B D) 42)] Z a w) (fun j=>m.S.length-j) 0 (⟨Nat.zero_le _,by exact(h).sub sA⟩) ?_;clear h
  rintro j a w ⟨N,h⟩
  refine gC h<|au 0x12c31 ?_;intro a w h
  refine Zb h I (fun b=>?_) (fun b=>?_)
  ·have v:j<m.S.length:=dT b
   obtain ⟨H,A,rfl⟩:=h.row_addr (ad:=f) (M:=cellsOf Zd m.S) mm (nE 3)
   obtain ⟨s1,s2,s3⟩:=hv.sd _ (getD_mem m.S (d:=(0,0,0)) v)
   refine gC h<|au 0x98f31917 ?_
   refine zD I mm (cells_lt (k:=3) dd (fun _=>rfl) m.S j oo) isAgg178 sizeOf178 (Zg (k:=3) (fun _=>rfl) ((fun _=>rfl)) m.S (0,0,0) j oo) (.inl I) ?_
   refine zz G5 fun b7=>stW I I Qg ?_
   refine au 0x460fbaf312 ?_
   refine zv [_,_] I call165 (Gl ((m.S.getD j (0,0,0)).1) m.P.length) (bbT (fun q=>(by exfalso;exact of_decide_eq_false q s1)) fun q=>au 0x420f ?_)
   refine zq 72 I I (.fA I Cx)<|ldQ 72 Vb ?_
   refine zq 72 I I (.move I) ?_;clear h;intro a w h
   refine Zq 72 h I I<|Qw h (vs:=[_,_]) I call165 (Gl ((m.S.getD j (0,0,0)).2.1) m.P.length) dd ?_;clear h;intro a w h
   refine gL h (bbT (fun t=>(by exfalso;exact of_decide_eq_false t s2)) fun t=>zq 72 I I (.unOp I<|Gg _)<|au 0x44e ?_)
   refine zq 79 I I (.fA I Cw)<|ldQ 79 Kz ?_
   refine zq 79 I I (.lss I I) (bbF (fun l=>(by exfalso;have:=of_decide_eq_true l;omega)) fun l=>au 0x44e ?_)
   refine zq 84 I I (.fA I Cw)<|ldQ 84 Kz ?_
   refine zq 84 I I (.gtr I I) (bbF (fun s=>(by exfalso;have:=of_decide_eq_true s;omega)) fun s=>au 0x37d24e ?_)
   refine zp (.pN (j+1)<|.add I I)<|au 0x24 ?_;clear h;intro a w h
   exact⟨j+1,⟨oo,tO h⟩,oo⟩
  ·have u:m.S.length=j:=dF b
   subst u
   refine gC h<|au 0x62570fe0f90f91f310e ?_
   refine rtK ?_
   congr 1;exact decide_eq_true (by have:=hv.ne;omega)
end
section
theorem LG(a:Option Addr)(n c:Nat)(w:World)(ty:TypeId)(cs:Array Bool): (Go.builtin .len #[121] ty cs #[.slice a n c]).run prog w=.ok (.value (.int .i64 n)) w:=by
 simp[go_sem]
theorem Sx(w:World): (Instr.buildSlice 38 0 [].toArray).run prog w=.ok (.slice (some ⟨w.heap.size,0,none⟩) 0 0) (w.alloc (.cells #[] 119 (0,0))):=by
 simp[go_sem]
theorem fU(w:World): (Instr.buildSlice 39 0 [].toArray).run prog w=.ok (.slice (some ⟨w.heap.size,0,none⟩) 0 0) (w.alloc (.cells #[] 127 (0,0))):=by
 simp[go_sem]
theorem fS(w:World): (Instr.buildSlice 40 0 [].toArray).run prog w=.ok (.slice (some ⟨w.heap.size,0,none⟩) 0 0) (w.alloc (.cells #[] 178 (0,0))):=by
 simp[go_sem]
theorem H5(ad:Option Addr)(n c:Nat)(a:n≤c): Ji prog 45 [.slice ad n c] (.slice ad n n):=by
 refine fnI func45 I ntmps45 fun S w0 b=>au 0x81f481f44312531 ?_
 refine zp (.slice I none (some _) (some _) I I I (fun w=>Xx runUnderlying38 sizeOf119 _ _ _ a w))<|za I<|zn<|zt<|rtK I
theorem SO(ad:Option Addr)(n c:Nat)(a:n≤c): Ji prog 140 [.slice ad n c] (.slice ad n n):=by
 refine fnI func140 I ntmps140 fun S w0 b=>au 0xe0f4e0f44312531 ?_
 refine zp (.slice I none (some _) (some _) I I I (fun w=>Xx runUnderlying39 sizeOf127 _ _ _ a w))<|za I<|zn<|zt<|rtK I
theorem SQ(ad:Option Addr)(n c:Nat)(a:n≤c): Ji prog 154 [.slice ad n c] (.slice ad n n):=by
 refine fnI func154 I ntmps154 fun S w0 b=>au 0xb2f4b2f44312531 ?_
 refine zp (.slice I none (some _) (some _) I I I (fun w=>Xx runUnderlying40 sizeOf178 _ _ _ a w))<|za I<|zn<|zt<|rtK I
theorem SV(ad:Option Addr)(n c:Nat)(a:n≤c): Ji prog 137 [.slice ad n c] (.slice ad n n):=by
 refine fnI func137 I ntmps137 fun S w0 b=>au 0x13f413f44312531 ?_
 refine zp (.slice I none (some _) (some _) I I I (fun w=>Xx runUnderlying121 sizeOf124 _ _ _ a w))<|za I<|zn<|zt<|rtK I
theorem Cu:∀l:List Pt,(cellsOf encPt l).all flat=true
 | []=>rfl
 | x::l=>by rw[show cellsOf encPt (x::l)=(encPt x).cells.toList++cellsOf encPt l from rfl,List.all_append,Cu l];rfl
theorem So(X Y:Operand)(b o n c:Nat): RN (do eqGuard .eql 38 X Y (.slice (some ⟨b,o,none⟩) n c) (.slice none 0 0);Go.binOp .eql 38 (.slice (some ⟨b,o,none⟩) n c) (.slice none 0 0):Sem Value) (.bool false):=fun w=>by
 simp[go_sem]
 have e:(Op.equalIn 10000 38 (.slice (some ⟨b,o,none⟩) n c) (.slice none 0 0)).run prog w=.ok false w:=by
  rw[show(10000:Nat)=9999+1 from rfl,Op.equalIn]
  simp[go_sem]
 show(do pure (.bool (←Op.equal 38 _ _)):Sem Value).run prog w=_
 unfold Op.equal
 simp only[Sem.run_bind]
 rw[show Op.maxDepth=10000 from rfl,e];rfl
theorem OA(b o c:Nat)(l:List Pt)(r:l.length≤1000000): CtrO prog 39 [.slice (some ⟨b,o,none⟩) l.length c] [Row (some ⟨b,o,none⟩) (cellsOf encPt l)]
   (fun v f => ∃g i R,v=.slice (some ⟨g,0,none⟩) l.length i∧l.length≤i∧f=[(g,.cells (cellsOf encPt l++R).toArray 119 (0,0))]):=by
 refine fn_introO func39 I ntmps39 nb ?_
 intro S w0 a q h
 refine gC h<|au 0x43112531 ?_
 refine zp (.binOp I I<|So _ _ _ _ _ _) ?_;clear h;intro a w h
 refine Zh h (fun e h=>(by exfalso;cases e)) (fun e h=>?_)
 refine wpList_nil ?_
 refine cW ?_
 refine Zj h I ?_
 refine gC h<|zk<|zS (zB [] I (Sx) fun j=>zm I ?_);clear h;intro a w h
 refine Zc<|Gi (b:=j) (xs:=[]) (ys:=cellsOf encPt l) (ad2:=some ⟨b,o,none⟩) (k:=10) h I I mm I runUnderlying38 runUnderlying38 typeInfo119 sizeOf119 Xv I dd dd (by exact cellsOf_length (k:=10) (fun _=>rfl) l) (Cu _) (by show 112*(2*_+192)≤281474976710656;omega) dd ?_;clear h;intro p m n a w d h
 rw[Nat.zero_add,List.nil_append] at h
 rw[Nat.zero_add] at d
 refine gL h<|au 0x625 ?_;clear h;intro a w h
 exact He h (Ze h I (.tmp I)) ⟨p,m,n,rfl,d,rfl⟩ (List.Sublist.refl _)
theorem Fc:∀l:List (Nat×Nat×Nat),(cellsOf Zd l).all flat=true
 | []=>rfl
 | x::l=>by rw[show cellsOf Zd (x::l)=(Zd x).cells.toList++cellsOf Zd l from rfl,List.all_append,Fc l];rfl
theorem fm(X Y:Operand)(b o n c:Nat): RN (do eqGuard .eql 39 X Y (.slice (some ⟨b,o,none⟩) n c) (.slice none 0 0);Go.binOp .eql 39 (.slice (some ⟨b,o,none⟩) n c) (.slice none 0 0):Sem Value) (.bool false):=fun w=>by
 simp[go_sem]
 have e:(Op.equalIn 10000 39 (.slice (some ⟨b,o,none⟩) n c) (.slice none 0 0)).run prog w=.ok false w:=by
  rw[show(10000:Nat)=9999+1 from rfl,Op.equalIn]
  simp[go_sem]
 show(do pure (.bool (←Op.equal 39 _ _)):Sem Value).run prog w=_
 unfold Op.equal
 simp only[Sem.run_bind]
 rw[show Op.maxDepth=10000 from rfl,e];rfl
theorem Oz(b o c:Nat)(l:List (Nat×Nat×Nat))(r:l.length≤1000000): CtrO prog 141 [.slice (some ⟨b,o,none⟩) l.length c] [Row (some ⟨b,o,none⟩) (cellsOf Zd l)]
   (fun v f => ∃g i R,v=.slice (some ⟨g,0,none⟩) l.length i∧l.length≤i∧f=[(g,.cells (cellsOf Zd l++R).toArray 127 (0,0))]):=by
 refine fn_introO func141 I ntmps141 nb ?_
 intro S w0 a q h
 refine gC h<|au 0x43112531 ?_
 refine zp (.binOp I I<|fm _ _ _ _ _ _) ?_;clear h;intro a w h
 refine Zh h (fun e h=>(by exfalso;cases e)) (fun e h=>?_)
 refine wpList_nil ?_
 refine cW ?_
 refine Zj h I ?_
 refine gC h<|zk<|zS (zB [] I (fU) fun j=>zm I ?_);clear h;intro a w h
 refine Zc<|Gi (b:=j) (xs:=[]) (ys:=cellsOf Zd l) (ad2:=some ⟨b,o,none⟩) (k:=3) h I I mm I runUnderlying39 runUnderlying39 typeInfo127 sizeOf127 A3 I dd dd (by exact cellsOf_length (k:=3) (fun _=>rfl) l) (Fc _) (by show 24*(2*_+192)≤281474976710656;omega) dd ?_;clear h;intro p m n a w d h
 rw[Nat.zero_add,List.nil_append] at h
 rw[Nat.zero_add] at d
 refine gL h<|au 0x625 ?_;clear h;intro a w h
 exact He h (Ze h I (.tmp I)) ⟨p,m,n,rfl,d,rfl⟩ (List.Sublist.refl _)
theorem Fe:∀l:List (Nat×Nat×Nat),(cellsOf Zd l).all flat=true
 | []=>rfl
 | x::l=>by rw[show cellsOf Zd (x::l)=(Zd x).cells.toList++cellsOf Zd l from rfl,List.all_append,Fe l];rfl
theorem fl(X Y:Operand)(b o n c:Nat): RN (do eqGuard .eql 40 X Y (.slice (some ⟨b,o,none⟩) n c) (.slice none 0 0);Go.binOp .eql 40 (.slice (some ⟨b,o,none⟩) n c) (.slice none 0 0):Sem Value) (.bool false):=fun w=>by
 simp[go_sem]
 have e:(Op.equalIn 10000 40 (.slice (some ⟨b,o,none⟩) n c) (.slice none 0 0)).run prog w=.ok false w:=by
  rw[show(10000:Nat)=9999+1 from rfl,Op.equalIn]
  simp[go_sem]
 show(do pure (.bool (←Op.equal 40 _ _)):Sem Value).run prog w=_
 unfold Op.equal
 simp only[Sem.run_bind]
 rw[show Op.maxDepth=10000 from rfl,e];rfl
theorem bI(b o c:Nat)(l:List (Nat×Nat×Nat))(r:l.length≤1000000): CtrO prog 155 [.slice (some ⟨b,o,none⟩) l.length c] [Row (some ⟨b,o,none⟩) (cellsOf Zd l)]
   (fun v f => ∃g i R,v=.slice (some ⟨g,0,none⟩) l.length i∧l.length≤i∧f=[(g,.cells (cellsOf Zd l++R).toArray 178 (0,0))]):=by
 refine fn_introO func155 I ntmps155 nb ?_
 intro S w0 a q h
 refine gC h<|au 0x43112531 ?_
 refine zp (.binOp I I<|fl _ _ _ _ _ _) ?_;clear h;intro a w h
 refine Zh h (fun e h=>(by exfalso;cases e)) (fun e h=>?_)
 refine wpList_nil ?_
 refine cW ?_
 refine Zj h I ?_
 refine gC h<|zk<|zS (zB [] I (fS) fun j=>zm I ?_);clear h;intro a w h
 refine Zc<|Gi (b:=j) (xs:=[]) (ys:=cellsOf Zd l) (ad2:=some ⟨b,o,none⟩) (k:=3) h I I mm I runUnderlying40 runUnderlying40 typeInfo178 sizeOf178 G5 I dd dd (by exact cellsOf_length (k:=3) (fun _=>rfl) l) (Fe _) (by show 24*(2*_+192)≤281474976710656;omega) dd ?_;clear h;intro p m n a w d h
 rw[Nat.zero_add,List.nil_append] at h
 rw[Nat.zero_add] at d
 refine gL h<|au 0x625 ?_;clear h;intro a w h
 exact He h (Ze h I (.tmp I)) ⟨p,m,n,rfl,d,rfl⟩ (List.Sublist.refl _)
end
end Go.Proofs.YtejhdcohoggojaaGreatDoor
namespace Go.Proofs.YtejhdcohoggojaaGreatDoor
open Go Go.Proofs Go.Fx Go.Shelf Go.RowKit Go.Sort Tryz
def Ty:Go.Shelf.Ren:=⟨fun|14=>276|20=>353|21=>354|22=>355|23=>356|24=>357|25=>358|26=>359|27=>360|46=>445|47=>286|48=>287|49=>446|50=>447|15=>106|57=>521|28=>192|29=>193|n=>n,fun|24=>119|22=>38|3=>3|25=>268|4=>4|0=>0|46=>286|45=>285|50=>163|66=>395|39=>194|55=>43|70=>399|76=>500|77=>501|53=>34|5=>5|9=>9|n=>n,fun|n=>n⟩
theorem pdqFnP:Go.Proofs.SlLaysF0.n14 prog Ty:={
 mixed:=by kernel_rfl
 f14:=⟨Tryz.f276.name,by decide,func276.trans (congrArg some kk)⟩
 f15:=func106.trans (congrArg some kk)
 f20:=⟨Tryz.f353.name,by decide,func353.trans (congrArg some kk)⟩
 f21:=⟨Tryz.f354.name,by decide,func354.trans (congrArg some kk)⟩
 f22:=⟨Tryz.f355.name,by decide,func355.trans (congrArg some kk)⟩
 f23:=⟨Tryz.f356.name,by decide,func356.trans (congrArg some kk)⟩
 f24:=⟨Tryz.f357.name,by decide,func357.trans (congrArg some kk)⟩
 f25:=⟨Tryz.f358.name,by decide,func358.trans (congrArg some kk)⟩
 f26:=⟨Tryz.f359.name,by decide,func359.trans (congrArg some kk)⟩
 f27:=⟨Tryz.f360.name,by decide,func360.trans (congrArg some kk)⟩
 f28:=func192.trans (congrArg some kk)
 f29:=func193.trans (congrArg some kk)
 f46:=⟨Tryz.f445.name,by decide,func445.trans (congrArg some kk)⟩
 f47:=func286.trans (congrArg some kk)
 f48:=func287.trans (congrArg some kk)
 f49:=⟨Tryz.f446.name,by decide,func446.trans (congrArg some kk)⟩
 f50:=⟨Tryz.f447.name,by decide,func447.trans (congrArg some kk)⟩
 f57:=⟨Tryz.f521.name,by decide,func521.trans (congrArg some kk)⟩
 t0:=underlying0
 a0:=isAgg0
 z0:=sizeOf0
 v0:=zeroValue0
 t3:=underlying3
 a3:=isAgg3
 z3:=sizeOf3
 v3:=zeroValue3
 t4:=underlying4
 a4:=isAgg4
 z4:=sizeOf4
 v4:=zeroValue4
 t5:=underlying5
 a5:=isAgg5
 z5:=sizeOf5
 v5:=zeroValue5
 t9:=underlying9
 a9:=isAgg9
 z9:=sizeOf9
 v9:=zeroValue9
 t22:=underlying38
 a22:=isAgg38
 z22:=sizeOf38
 v22:=zeroValue38
 t25:=underlying268
 a25:=isAgg268
 z25:=sizeOf268
 v25:=zeroValue268
 t39:=underlying194
 a39:=isAgg194
 z39:=sizeOf194
 v39:=zeroValue194
 t45:=underlying285
 a45:=isAgg285
 z45:=sizeOf285
 v45:=zeroValue285
 t46:=underlying286
 a46:=isAgg286
 z46:=sizeOf286
 v46:=zeroValue286
 t50:=underlying163
 a50:=isAgg163
 z50:=sizeOf163
 v50:=zeroValue163
 t53:=underlying34
 a53:=isAgg34
 z53:=sizeOf34
 v53:=zeroValue34
 t55:=underlying43
 a55:=isAgg43
 z55:=sizeOf43
 v55:=zeroValue43
 t66:=underlying395
 a66:=isAgg395
 z66:=sizeOf395
 v66:=zeroValue395
 t70:=underlying399
 a70:=isAgg399
 z70:=sizeOf399
 v70:=zeroValue399
 t76:=underlying500
 a76:=isAgg500
 z76:=sizeOf500
 v76:=zeroValue500
 t77:=underlying501
 a77:=isAgg501
 z77:=sizeOf501
 v77:=zeroValue501 }
def TA:Go.Shelf.Ren:=⟨fun|14=>279|20=>362|21=>363|22=>364|23=>365|24=>366|25=>367|26=>368|27=>369|46=>448|47=>286|48=>287|49=>449|50=>450|15=>106|57=>522|28=>192|29=>193|n=>n,fun|24=>124|22=>121|3=>3|25=>278|4=>4|0=>0|46=>286|45=>285|50=>163|66=>395|39=>194|55=>43|70=>399|76=>500|77=>501|53=>34|5=>5|9=>9|n=>n,fun|n=>n⟩
theorem pdqFnE:Go.Proofs.SlLaysF0.n14 prog TA:={
 mixed:=by kernel_rfl
 f14:=⟨Tryz.f279.name,by decide,func279.trans (congrArg some kk)⟩
 f15:=func106.trans (congrArg some kk)
 f20:=⟨Tryz.f362.name,by decide,func362.trans (congrArg some kk)⟩
 f21:=⟨Tryz.f363.name,by decide,func363.trans (congrArg some kk)⟩
 f22:=⟨Tryz.f364.name,by decide,func364.trans (congrArg some kk)⟩
 f23:=⟨Tryz.f365.name,by decide,func365.trans (congrArg some kk)⟩
 f24:=⟨Tryz.f366.name,by decide,func366.trans (congrArg some kk)⟩
 f25:=⟨Tryz.f367.name,by decide,func367.trans (congrArg some kk)⟩
 f26:=⟨Tryz.f368.name,by decide,func368.trans (congrArg some kk)⟩
 f27:=⟨Tryz.f369.name,by decide,func369.trans (congrArg some kk)⟩
 f28:=func192.trans (congrArg some kk)
 f29:=func193.trans (congrArg some kk)
 f46:=⟨Tryz.f448.name,by decide,func448.trans (congrArg some kk)⟩
 f47:=func286.trans (congrArg some kk)
 f48:=func287.trans (congrArg some kk)
 f49:=⟨Tryz.f449.name,by decide,func449.trans (congrArg some kk)⟩
 f50:=⟨Tryz.f450.name,by decide,func450.trans (congrArg some kk)⟩
 f57:=⟨Tryz.f522.name,by decide,func522.trans (congrArg some kk)⟩
 t0:=underlying0
 a0:=isAgg0
 z0:=sizeOf0
 v0:=zeroValue0
 t3:=underlying3
 a3:=isAgg3
 z3:=sizeOf3
 v3:=zeroValue3
 t4:=underlying4
 a4:=isAgg4
 z4:=sizeOf4
 v4:=zeroValue4
 t5:=underlying5
 a5:=isAgg5
 z5:=sizeOf5
 v5:=zeroValue5
 t9:=underlying9
 a9:=isAgg9
 z9:=sizeOf9
 v9:=zeroValue9
 t22:=underlying121
 a22:=isAgg121
 z22:=sizeOf121
 v22:=zeroValue121
 t25:=underlying278
 a25:=isAgg278
 z25:=sizeOf278
 v25:=zeroValue278
 t39:=underlying194
 a39:=isAgg194
 z39:=sizeOf194
 v39:=zeroValue194
 t45:=underlying285
 a45:=isAgg285
 z45:=sizeOf285
 v45:=zeroValue285
 t46:=underlying286
 a46:=isAgg286
 z46:=sizeOf286
 v46:=zeroValue286
 t50:=underlying163
 a50:=isAgg163
 z50:=sizeOf163
 v50:=zeroValue163
 t53:=underlying34
 a53:=isAgg34
 z53:=sizeOf34
 v53:=zeroValue34
 t55:=underlying43
 a55:=isAgg43
 z55:=sizeOf43
 v55:=zeroValue43
 t66:=underlying395
 a66:=isAgg395
 z66:=sizeOf395
 v66:=zeroValue395
 t70:=underlying399
 a70:=isAgg399
 z70:=sizeOf399
 v70:=zeroValue399
 t76:=underlying500
 a76:=isAgg500
 z76:=sizeOf500
 v76:=zeroValue500
 t77:=underlying501
 a77:=isAgg501
 z77:=sizeOf501
 v77:=zeroValue501 }
theorem Io(u v:Pt): Cr u v=true↔(u.1<v.1∨(u.1=v.1∧u.2<v.2)):=by
 have h1:∀x:Rat,x.num.sign<0↔x<0:=fun x=>FV x
 have b:∀x:Rat,x.num.sign=0↔x=0:=fun x=>by rw[Int.sign_eq_zero_iff_zero,Rat.num_eq_zero]
 unfold Cr
 split
 ·rename_i h
  rw[decide_eq_true_iff,h1]
  rw[Ne,b] at h
  constructor
  ·intro a;exact .inl (by grind)
  ·rintro(a|a)
   ·grind
   ·exact absurd (show u.1-v.1=0 by grind) h
 ·rename_i h
  rw[Ne,Decidable.not_not,b] at h
  rw[decide_eq_true_iff,h1]
  constructor
  ·intro a;exact .inr ⟨by grind,by grind⟩
  ·rintro(a|a)
   ·grind
   ·grind
theorem C5(u v:Pt): (ltOf bZ) u v=Cr u v:=by
 unfold ltOf bZ
 by_cases h:Cr u v=true
 ·rw[if_pos h,h];rfl
 ·rw[if_neg h,Bool.eq_false_iff.2 h];split<;>rfl
theorem swoP:SWO (ltOf bZ):=by
 have a:=Io
 have hf:∀u v,Cr u v=false ↔ ¬(u.1<v.1∨(u.1=v.1∧u.2<v.2)):=fun u v=>by rw[←Io,Bool.not_eq_true]
 refine⟨fun x=>?_,fun x y z h1 b=>?_,fun x y z h1 b=>?_⟩
 ·rw[C5,hf];grind
 ·rw[C5,a] at *;grind
 ·rw[C5,hf] at *;grind
theorem totP(u v:Pt)(h1:(ltOf bZ) u v=false)(a:(ltOf bZ) v u=false): u=v:=by
 have hf:∀u v,Cr u v=false ↔ ¬(u.1<v.1∨(u.1=v.1∧u.2<v.2)):=fun u v=>by rw[←Io,Bool.not_eq_true]
 rw[C5,hf] at h1 a
 have c:u.1=v.1:=by grind
 have b:u.2=v.2:=by grind
 exact Prod.ext c b
theorem C_pdqP(b cap:Nat)(p:List Pt)(R:List Value)(a:Nat)(c:a<4611686018427387904)(e:0<p.length)(hk:∀x∈p,PtK 100000 x)(f:p.length≤1000000)(σ:List (Nat×Obj))(Φ:List Zp):
  FR prog 276 [.slice (some ⟨b,0,none⟩) p.length cap,.int .i64 ((0:Nat):Int),.int .i64 ((p.length:Nat):Int),.int .i64 ((a:Nat):Int),.func (.func 169) #[] #[]]
   ((b,.cells (cellsOf encPt p++R).toArray 119 (0,0))::σ) Φ
   (fun v σ' Ψ=>v=.tuple #[]∧σ'=(b,.cells (cellsOf encPt (p.mergeSort fun x y => !Cr y x)++R).toArray 119 (0,0))::σ∧Ψ=Φ):=by
 have h:=Su (P:=prog) (k:=10) (en:=fun x:Pt=>(encPt x).cells.toList) (σ:=σ) (Φ:=Φ) pdqFnP isAgg119 sizeOf119 (fun _=>rfl) dd
  (fun x v hv=>by
   simp only[Value.cells,List.mem_cons,List.not_mem_nil,or_false] at hv
   rcases hv with rfl|rfl|rfl|rfl|rfl|rfl|rfl|rfl|rfl|rfl<;>rfl)
  bZ swoP p e (fun x _ y _=>totP x y) (g:=169) (cb:=#[]) call169
  (fun x hx y d=>IM (nt x y (hk x hx) (hk y d)) Φ) b cap 119 R a c oo
 simp only[C5] at h
 exact h
theorem C_pdqE(b cap:Nat)(p:List Ed)(R:List Value)(c:Nat)(d:c<4611686018427387904)(i:0<p.length)(hd:∀x∈p,∀y∈p,x.a=y.a→x.b=y.b→x=y)(hk:∀x y,Ji prog 178 [Qp x,Qp y] (.int .i64 (cfE x y)))(j:p.length≤1000000)(σ:List (Nat×Obj))(Φ:List Zp):
  FR prog 279 [.slice (some ⟨b,0,none⟩) p.length cap,.int .i64 ((0:Nat):Int),.int .i64 ((p.length:Nat):Int),.int .i64 ((c:Nat):Int),.func (.func 178) #[] #[]]
   ((b,.cells (cellsOf Qp p++R).toArray 124 (0,0))::σ) Φ
   (fun v σ' Ψ=>v=.tuple #[]∧σ'=(b,.cells (cellsOf Qp (bM p)++R).toArray 124 (0,0))::σ∧Ψ=Φ):=by
 have hl:∀x y,(ltOf cfE) x y=decide (x.a<y.a∨(x.a=y.a∧x.b<y.b)):=fun x y=>by
  rw[Bool.eq_iff_iff,decide_eq_true_iff, ←cfE_lt];unfold ltOf;rw[decide_eq_true_iff]
 have hle:∀x y,(!(ltOf cfE) y x)=UQ x y:=fun x y=>by
  rw[hl,Bool.eq_iff_iff,DW];simp;omega
 have h:=Su (P:=prog) (k:=4) (en:=fun x:Ed=>(Qp x).cells.toList) (σ:=σ) (Φ:=Φ) pdqFnE isAgg124 sizeOf124 (fun _=>rfl) dd
  (fun x v hv=>by
   simp only[Value.cells,List.mem_cons,List.not_mem_nil,or_false] at hv
   rcases hv with rfl|rfl|rfl|rfl<;>rfl)
  cfE ⟨fun x=>by rw[hl];simp,fun x y z h1 e=>by rw[hl,decide_eq_true_iff] at *;omega,fun x y z h1 e=>by rw[hl,decide_eq_false_iff_not] at *;omega⟩ p i
  (fun x hx y f h1 e=>hd x hx y f (by rw[hl,decide_eq_false_iff_not] at *;omega) (by rw[hl,decide_eq_false_iff_not] at *;omega)) (g:=178) (cb:=#[]) call178
  (fun x _ y _=>IM (hk x y) Φ) b cap 124 R c d oo
 simp only[hle] at h
 rw[W4 (List.Perm.refl p) hd] at h
 exact h
end Go.Proofs.YtejhdcohoggojaaGreatDoor
