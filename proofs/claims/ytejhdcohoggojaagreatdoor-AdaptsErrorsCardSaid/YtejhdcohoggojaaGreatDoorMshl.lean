/- Walks of functions. By an AI agent. -/
import Derived.Test.YtejhdcohoggojaaGreatDoorSrtp
import Derived.Test.YtejhdcohoggojaaGreatDoorFxP
set_option linter.unusedVariables false
set_option linter.unusedSimpArgs false
set_option maxRecDepth 4000
set_option maxHeartbeats 1000000
namespace Go.Proofs.YtejhdcohoggojaaGreatDoor
open Go Go.Proofs Go.Fx Tryz
attribute [local irreducible] Oper.wp Code.wp wpList Fx.Head wpOp
section
theorem LA(a:Option Addr)(n c:Nat)(w:World)(ty:TypeId)(cs:Array Bool): (Go.builtin .len #[264] ty cs #[.slice a n c]).run prog w=.ok (.value (.int .i64 n)) w:=by
 simp[go_sem]
theorem YD(b off n c j:Nat)(h:j<n): RN (Instr.indexAt 264 (.slice (some ⟨b,off,none⟩) n c) (.int .i64 (j:Int))) (.pointer (some ⟨b,off+j,none⟩)):=fun w=>by
 simpa using Qd runUnderlying264 sizeOf4 b off n c j h w
theorem M6(X Y:Operand)(x y:Pt): RN (do eqGuard .eql 119 X Y (encPt x) (encPt y);Go.binOp .eql 119 (encPt x) (encPt y):Sem Value) (.bool (decide (x=y))):=fun w=>by
 obtain ⟨e,b⟩:=x
 obtain ⟨a,d⟩:=y
 simp[go_sem]
 rw[nestQ,nestQ]
 by_cases c:e=a<;>by_cases f:b=d<;>simp[c,f]
theorem Wc(X Y:Operand)(x y:Nat×Nat×Nat): RN (do eqGuard .eql 178 X Y (Zd x) (Zd y);Go.binOp .eql 178 (Zd x) (Zd y):Sem Value) (.bool (decide (x=y))):=fun w=>by
 obtain ⟨h,c,e⟩:=x
 obtain ⟨a,g,d⟩:=y
 simp[go_sem]
 by_cases f:h=a<;>by_cases i:c=g<;>by_cases b:e=d<;>simp[f,i,b,Bd]
theorem nQ(b c:Nat)(p:List Pt)(R:List Value)(σ:List (Nat×Obj))(Φ:List Zp)(j:0<p.length)(hk:∀x∈p,PtK 100000 x)(k:p.length≤1000000):
  FR prog 168 [.slice (some ⟨b,0,none⟩) p.length c,.func (.func 169) #[] #[]] ((b,.cells (cellsOf encPt p++R).toArray 119 (0,0))::σ) Φ
   (fun v σ' Φ'=>v=.tuple #[]∧σ'=(b,.cells (cellsOf encPt (p.mergeSort fun x y => !Cr y x)++R).toArray 119 (0,0))::σ∧Φ'=Φ):=by
 refine fn_introM func168 I ntmps168 nb ?_
 intro S w0 a w i h
 refine gC h<|au 0x44432581f431 ?_
 refine zp (.convert I<|IK _<|wrap_u64 _ oo oo)<|zv [_] I call106 (FO p.length oo)<|zm I ?_;clear h;intro a w h
 refine Zc<|Yq h i (vs:=[_,_,_,_,_]) I call276 (C_pdqP b c p R (Lib.bitLen p.length) (Nat.lt_of_le_of_lt (Lib.bitLen_le p.length 62 oo oo) oo) j hk k σ Φ) (List.Perm.refl _) ss ss ?_;clear h;rintro g e f a w ⟨rfl,rfl,d⟩ h
 refine wpList_nil ?_
 refine UP h (AK I) ⟨rfl,rfl,d⟩ (List.Sublist.refl _) (fun _ h=>h)
theorem UL(ad:Option Addr)(c:Nat)(p:List Pt)(hd:∀i,i+1<p.length→p.getD (i+1) (0,0)≠p.getD i (0,0))(q:p.length≤1000000):
  Xo prog 171 [.slice ad p.length c] [Row ad (cellsOf encPt p)] (.slice ad p.length c):=by
 refine fnI func171 I ntmps171 fun S w0 o=>au 0x2c81f43112531 ?_;intro a w h
 refine Zb h I (fun l=>?_) (fun l=>?_)
 focus
  refine gC h<|au 0x625431 ?_;clear h;intro a w h
 rotate_left
 focus
  have m:2≤p.length:=dF l
  obtain ⟨g,f,rfl⟩:=h.row_addr (ad:=ad) (M:=cellsOf encPt p) mm (nE 10)
  refine gC h<|au 0x9253117 ?_;clear h;intro a w h
  refine lpF h (fun(i:Nat)=>(1≤i∧i≤p.length)) (fun i=>[(0,.slice (some ⟨g,f,none⟩) p.length c),(3,nI i)]) (fun i=>p.length-i) (1) (⟨⟨Nat.le_refl 1,oo⟩,by exact h.sub sA⟩) ?_;clear h
  rintro i a w ⟨n,h⟩
  refine gC h<|au 0x2c81f44311 ?_;intro a w h
  refine Zb h I (fun d=>?_) (fun d=>?_)
  ·have e:i<p.length:=dT d
   refine gC h<|zk<|zs<|zb<|zs<|yE [0,1,2,3,4,5,6,7,8,9]<|au 0xd1f88 ?_;clear h
   refine Zf I kk I mm (cells_lt (k:=10) dd (fun _=>rfl) p i oo) isAgg119 sizeOf119 (Zg (k:=10) (fun _=>rfl) ((fun _=>rfl)) p (0,0) i oo) (.inl I) dd ?_
   refine au 0x88 ?_
   refine yp I (.pO (i-1)<|.sub I I)<|au 0xd1f ?_
   refine Zf I kk I mm (cells_lt (k:=10) dd (fun _=>rfl) p (i-1) oo) isAgg119 sizeOf119 (Zg (k:=10) (fun _=>rfl) ((fun _=>rfl)) p (0,0) (i-1) oo) (.inl I) dd ?_
   refine yp I (.binOp I I (fun _=>M6 _ _ (p.getD i (0,0)) (p.getD (i-1) (0,0)) _)) ?_
   refine Ju (fun b  =>(by exfalso;obtain ⟨j,rfl⟩:∃j,i=j+1:=⟨i-1,oo⟩;exact hd j e<|of_decide_eq_true b)) (fun b  =>?_)
   refine au 0x437da ?_
   refine zp (.pN (i+1)<|.add I I)<|au 0x25 ?_;intro a w h
   exact⟨i+1,⟨⟨oo,oo⟩,by exact tO h⟩,oo⟩
  refine gC h<|au 0x6254310e ?_;clear h;intro a w h
 all_goals
  exact retR h
abbrev Fj(x:Bool): Value:=.bool x
theorem Ii(n:Nat): List.map Fj (List.replicate n false)=Cj n (Value.cells (.bool false)).toList:=by
 rw[show(Value.cells (.bool false)).toList=[Value.bool false] from rfl,AL];simp
theorem C_IxB(l:List Bool)(v0:Bool)(ad:Option Addr)(c:Nat)(o:l.length≤1000000): Xo prog 275 [.slice ad l.length c,.bool v0] [Row ad (List.map Fj l)] (.int .i64 (Cs (fun x=>v0 == x) l 0)):=by
 refine fnI func275 I ntmps275 fun S w0 n=>au 0x43112531 ?_
 refine zp (.builtin [_] I<|LA _ _ _)<|au 0x924 ?_;intro a w h
 refine lpG h [0,1,7] pkL (fun Y Z (i:Nat) a w=>i≤l.length∧(Cs (fun x=>v0 == x) l 0=Cs (fun x=>v0 == x) (l.drop i) i)∧St 19 S w0 ((8,nI i)::Y) [] Z a w) (fun i=>l.length-i) 0 (⟨Nat.zero_le _,rfl,by exact(h).sub sA⟩) ?_;clear h
 rintro i a w ⟨k,b,h⟩
 refine gC h<|au 0x12c31 ?_;intro a w h
 refine Zb h I (fun g=>?_) (fun g=>?_)
 ·have e:i<l.length:=dT g
  obtain ⟨m,j,rfl⟩:=h.row_addr (ad:=ad) (M:=List.map Fj l) mm nF
  refine gC h<|au 0x4443125431917 ?_
  refine zp (.indexAddr I I<|YD _ _ _ _ _ oo)<|zD I mm (by rw[List.length_map];omega) isAgg4 sizeOf4 (Zr (enc:=Fj) (l:=l) false oo) (.inr I) ?_
  refine zp (.binOp I I (fun _=>HH _ underlying4 _ _ _ _)) ?_;clear h;intro a w h
  refine Zh h (fun d h=>?_) (fun d h=>?_)
  ·refine wpList_nil ?_
   refine cW ?_
   refine Qo h I ?_
   refine gC h<|au 0x625431 ?_
   refine rtK ?_
   rw[b,Yv _ l i false e,if_pos d]
  ·refine wpList_nil ?_
   refine cW ?_
   refine Zj h I ?_
   refine gC h<|zk<|zr<|zp (.pN (i+1)<|.add I I)<|au 0x24 ?_;clear h;intro a w h
   exact⟨i+1,⟨oo,by rw[b,Yv _ l i false e,if_neg (by rw[d];decide)],tO h⟩,oo⟩
 ·have f:l.length=i:=dF g
  subst f
  refine gC h<|au 0x625310e ?_
  refine rtK ?_
  rw[b,List.drop_length];rfl
theorem C_CtB(l:List Bool)(v0:Bool)(ad:Option Addr)(c:Nat)(a:l.length≤1000000): Xo prog 167 [.slice ad l.length c,.bool v0] [Row ad (List.map Fj l)] (.bool (l.any (fun x=>v0 == x))):=by
 refine fnI func167 I ntmps167 fun S w0 b=>au 0x44312531 ?_
 refine zw [_,_] I call275 (C_IxB l v0 _ _ a)<|au 0x62540f ?_
 refine rtK ?_
 rw[E5]
end
section
def setU(l:List Bool)(t:Nat×Nat×Nat): List Bool:=((l.set t.1 true).set t.2.1 true).set t.2.2 true
def Ap(ts:List (Nat×Nat×Nat))(n:Nat): Nat→List Bool
 | 0=>List.replicate n false
 | i+1=>setU (Ap ts n i) (ts.getD i (0,0,0))
theorem BP(a:List (Nat×Nat×Nat))(n:Nat): ∀i,(Ap a n i).length=n
 | 0=>by rw[Ap,List.length_replicate]
 | i+1=>by rw[Ap,setU,List.length_set,List.length_set,List.length_set,BP a n i]
theorem AH{l:List Bool}{k p:Nat}(h:l.getD p false=true∨(k=p∧p<l.length)): (l.set k true).getD p false=true:=by
 rw[List.getD,List.getElem?_set]
 by_cases e:k=p
 ·subst e
  have hl:k<l.length:=by
   rcases h with h|h
   ·rcases Nat.lt_or_ge k l.length with h1|h1
    ·exact h1
    ·rw[List.getD,List.getElem?_eq_none h1] at h;cases h
   ·exact h.2
  simp[hl]
 ·rw[if_neg e]
  rcases h with h|h
  ·exact h
  ·exact absurd h.1 e
theorem JW(b:List (Nat×Nat×Nat))(n p:Nat)(c:p<n): ∀i,(∃j,j<i∧HM (b.getD j (0,0,0)) p=true)→(Ap b n i).getD p false=true
 | 0,h=>by obtain ⟨j,hj,_⟩:=h;exact absurd hj (Nat.not_lt_zero _)
 | i+1,h=>by
  obtain ⟨j,hj,a⟩:=h
  have hl:=BP b n i
  rw[Ap,setU]
  rcases Nat.lt_or_ge j i with h1|h1
  ·exact AH (.inl (AH (.inl (AH (.inl (JW b n p c i ⟨j,h1,a⟩))))))
  ·have e:j=i:=oo
   subst e
   simp only[HM,Bool.or_eq_true,decide_eq_true_eq] at a
   rcases a with (a|a)|a
   ·exact AH (.inl (AH (.inl (AH (.inr ⟨a,oo⟩)))))
   ·exact AH (.inl (AH (.inr ⟨a,by rw[List.length_set];omega⟩)))
   ·exact AH (.inr ⟨a,by rw[List.length_set,List.length_set];omega⟩)
theorem U2{K:Nat}{m:Ms}(hv:MV K m): ((Ap m.T m.P.length m.T.length).any fun x=>false == x)=false:=by
 rw[List.any_eq_false]
 intro x hx
 obtain ⟨p,a,rfl⟩:=List.getElem_of_mem hx
 rw[BP] at a
 obtain ⟨t,ht,b⟩:=hv.used p a
 obtain ⟨j,hj,rfl⟩:=List.getElem_of_mem ht
 have:=JW m.T m.P.length p a m.T.length ⟨j,hj,by rw[List.getD,List.getElem?_eq_getElem hj];exact b⟩
 rw[List.getD,List.getElem?_eq_getElem (by rw[BP];exact a)] at this
 simp only[Option.getD_some] at this
 rw[this];decide
theorem Tg{l:List Pt}(h:l.Nodup): ∀i,i+1<l.length→l.getD (i+1) (0,0)≠l.getD i (0,0):=by
 intro i a e
 have:=(List.pairwise_iff_getElem.1 h) i (i+1) oo a oo
 rw[List.getD,List.getD,List.getElem?_eq_getElem a,List.getElem?_eq_getElem oo] at e
 exact this e.symm
theorem cI(p:List Pt): (p.mergeSort fun x y => !Cr y x).length=p.length:=List.length_mergeSort p
theorem cK{p:List Pt}(h:p.Nodup): ∀i,i+1<(p.mergeSort fun x y => !Cr y x).length→(p.mergeSort fun x y => !Cr y x).getD (i+1) (0,0)≠(p.mergeSort fun x y => !Cr y x).getD i (0,0) :=
 Tg ((List.mergeSort_perm p _).nodup_iff.2 h)
theorem UM(ad:Option Addr)(c n:Nat)(p:List Pt)(hl:p.length=n)(hd:∀i,i+1<p.length→p.getD (i+1) (0,0)≠p.getD i (0,0))(a:n≤1000000):
  Xo prog 171 [.slice ad n c] [Row ad (cellsOf encPt p)] (.slice ad n c):=by subst hl;exact UL ad c p hd a
theorem C_CtBN(n:Nat)(l:List Bool)(v0:Bool)(ad:Option Addr)(c:Nat)(hl:l.length=n)(a:n≤1000000)(r:Bool)(hr:(l.any fun x=>v0 == x)=r):
  Xo prog 167 [.slice ad n c,.bool v0] [Row ad (List.map Fj l)] (.bool r):=by subst hl;subst hr;exact C_CtB l v0 ad c a
theorem nw(K:Nat)(m:Ms)(f p o:Option Addr)(B A G:Nat)(hv:MV K m)(V:K≤100000): Xo prog 95 [Qz m f p o B A G] [Row f (cellsOf encPt m.P),Row p (cellsOf Zd m.T),Row o (cellsOf Zd m.S)] (.bool true):=by
 have X:=hv.nP
 have a7:=hv.nT
 have W:=hv.nS
 have a1:=hv.ne
 have L:=hv.neP
 have D:∀x∈m.P,PtK 100000 x:=fun x hx=>(hv.K x hx).mono V
 refine fnI func95 I ntmps95 fun S w0 E=>zS (zx I fun C=>au 0x81f60f52f3125 ?_);intro a w h
 refine Zc<|Je h I I runUnderlying264 typeInfo4 sizeOf4 zeroValue4 I dd oo (by show 1*(m.P.length)≤281474976710656;omega) oo dd ?_;clear h;intro e a w h;replace h:=h.same I (by rw[←Ii]) I
 refine gL h<|au 0x924e0f90f91f31125 ?_;intro a w h
 rw[show List.replicate m.P.length false=Ap m.T m.P.length 0 from rfl] at h
 refine lpG h [1,2,3,12,13] pkL (fun Y Z (i:Nat) a w=>i≤m.T.length∧St 45 S w0 ((14,nI i)::Y) [(e,.cells (List.map Fj<|Ap m.T m.P.length i).toArray 4 (0,0)),(C,bV (Qz m f p o B A G) 42)] Z a w) (fun i=>m.T.length-i) 0 (⟨Nat.zero_le _,by exact(h).sub sA⟩) ?_;clear h
 rintro i a w ⟨Q,h⟩
 refine gC h<|au 0x12c31 ?_;intro a w h
 refine Zb h I (fun n=>?_) (fun n=>?_)
 ·have t:i<m.T.length:=dT n
  obtain ⟨c,b,rfl⟩:=h.row_addr (ad:=p) (M:=cellsOf Zd m.T) mm (nE 3)
  have ht:=getD_mem m.T (d:=(0,0,0)) t
  obtain ⟨l,j,g,_,_,_⟩:=Xz.1 (hv.num _ ht)
  have a6:=BP m.T m.P.length i
  refine gC h<|au 0x42f31917 ?_
  refine zD I mm (cells_lt (k:=3) dd (fun _=>rfl) m.T i oo) isAgg127 sizeOf127 (Zg (k:=3) (fun _=>rfl) ((fun _=>rfl)) m.T (0,0,0) i oo) (.inl I) ?_
  refine zz A3 fun v=>stW I I Qg ?_
  refine zn<|yE [0,1,2,9,3,4,6,7,5,11,8,13,10,12,14] ?_;clear h
  refine FA (L':=[(1,pB C),(2,.bool false),(3,.slice (some ⟨e,0,none⟩) m.P.length m.P.length),(5,pB v),(12,.slice (some ⟨c,b,none⟩) m.T.length A),(13,nI m.T.length),(14,nI i),(15,.bool<|decide (((i:Nat):Int)<((m.T.length:Nat):Int))),(17,Zd<|m.T.getD i (0,0,0)),(18,.slice (some ⟨e,0,none⟩) m.P.length m.P.length),(19,pB v),(20,nI ((m.T.getD i (0,0,0)).1)),(21,.slice (some ⟨e,0,none⟩) m.P.length m.P.length),(22,.pointer<|some ⟨v,1,none⟩),(23,nI ((m.T.getD i (0,0,0)).2.1)),(24,.slice (some ⟨e,0,none⟩) m.P.length m.P.length),(25,.pointer<|some ⟨v,2,none⟩),(26,nI ((m.T.getD i (0,0,0)).2.2))]) (σ':=[(v,bV (Zd<|m.T.getD i (0,0,0)) 127),(e,.cells (List.map Fj ((((Ap m.T m.P.length i).set ((m.T.getD i (0,0,0)).1) true).set ((m.T.getD i (0,0,0)).2.1) true).set ((m.T.getD i (0,0,0)).2.2) true)).toArray 4 (0,0)),(C,bV (Qz m f (some ⟨c,b,none⟩) o B A G) 42)]) (Φ':=[Row f (cellsOf encPt m.P),Row (some ⟨c,b,none⟩) (cellsOf Zd m.T),Row o (cellsOf Zd m.S)]) (fun a w h=>?_) (fun key=>?_)
  ·refine cW ?_
   refine gC h<|zr<|zp (.pN (i+1)<|.add I I)<|au 0x24 ?_;intro a w h
   rw[show(((Ap m.T m.P.length i).set (m.T.getD i (0,0,0)).1 true).set (m.T.getD i (0,0,0)).2.1 true).set (m.T.getD i (0,0,0)).2.2 true=Ap m.T m.P.length (i+1) from rfl] at h
   exact⟨i+1,⟨oo,tO h⟩,oo⟩
  ·refine au 0xdea3f8 ?_
   refine au 0x83f893f888f ?_
   refine Ya kk ?_;intro a w h
   refine UU 5 8 10 ?_ ?_ ?_
   focus
    refine Ko h I I mr isAgg3 sizeOf3 Vb dd ?_;clear h;intro a h
    refine CS [8,10,11,12,13,14] kk kk I h ?_;clear h
    refine Ya kk ?_;intro a w h
    refine Yj 8 10 ?_ ?_
    focus
     refine Ko h I I mr isAgg3 sizeOf3 Kz dd ?_;clear h;intro a h
     refine CS [10,11,12,13,14] kk kk I h ?_;clear h
     refine yt I I I ((congrArg (fun z=>Zl _ z _)<|Nat.zero_add _).trans<|Qy (enc:=Fj) (Ap m.T m.P.length i) ((m.T.getD i (0,0,0)).1) true) uu sizeOf4 I (by simp;(simp at l j g;omega)) I ?_
     refine au 0x88f ?_
     refine yt I I I ((congrArg (fun z=>Zl _ z _)<|Nat.zero_add _).trans<|Qy (enc:=Fj) ((Ap m.T m.P.length i).set ((m.T.getD i (0,0,0)).1) true) ((m.T.getD i (0,0,0)).2.1) true) uu sizeOf4 I (by simp;(simp at l j g;omega)) I ?_
    rotate_left
    focus
     refine Eh h I I I ((congrArg (fun z=>Zl _ z _)<|Nat.zero_add _).trans<|Qy (enc:=Fj) (Ap m.T m.P.length i) ((m.T.getD i (0,0,0)).1) true) uu sizeOf4 I (by simp;(simp at l j g;omega)) I ?_;intro a w h
     refine CS [11,8,12,13,14] kk kk I h ?_;clear h
     refine au 0x88f ?_
     refine Ya kk ?_;intro a w h
     refine Yj 8 12 ?_ ?_
     focus
      refine Ko h I I mr isAgg3 sizeOf3 Kz dd ?_;clear h;intro a h
      refine CS [12,13,14] kk kk I h ?_;clear h
      refine yt I I I ((congrArg (fun z=>Zl _ z _)<|Nat.zero_add _).trans<|Qy (enc:=Fj) ((Ap m.T m.P.length i).set ((m.T.getD i (0,0,0)).1) true) ((m.T.getD i (0,0,0)).2.1) true) uu sizeOf4 I (by simp;(simp at l j g;omega)) I ?_
     rotate_left
     focus
      refine Eh h I I I ((congrArg (fun z=>Zl _ z _)<|Nat.zero_add _).trans<|Qy (enc:=Fj) ((Ap m.T m.P.length i).set ((m.T.getD i (0,0,0)).1) true) ((m.T.getD i (0,0,0)).2.1) true) uu sizeOf4 I (by simp;(simp at l j g;omega)) I ?_;intro a w h
      refine CS [8,13,14] kk kk I h ?_;clear h
      refine au 0xf0f ?_
   rotate_left 3
   focus
    refine Ko h I I mr isAgg3 sizeOf3 Kz dd ?_;intro a h
    refine CS [5,10,11,12,13,14] kk kk I h ?_;clear h
    refine Ya kk ?_;intro a w h
    refine Yj 5 10 ?_ ?_
    focus
     refine Ko h I I mr isAgg3 sizeOf3 Vb dd ?_;clear h;intro a h
     refine CS [10,11,12,13,14] kk kk I h ?_;clear h
     refine yt I I I ((congrArg (fun z=>Zl _ z _)<|Nat.zero_add _).trans<|Qy (enc:=Fj) (Ap m.T m.P.length i) ((m.T.getD i (0,0,0)).1) true) uu sizeOf4 I (by simp;(simp at l j g;omega)) I ?_
    rotate_left
    focus
     refine Eh h I I I ((congrArg (fun z=>Zl _ z _)<|Nat.zero_add _).trans<|Qy (enc:=Fj) (Ap m.T m.P.length i) ((m.T.getD i (0,0,0)).1) true) uu sizeOf4 I (by simp;(simp at l j g;omega)) I ?_;intro a w h
     refine CS [5,11,12,13,14] kk kk I h ?_;clear h
     refine au 0xb1f ?_
    all_goals
     refine au 0x88f ?_
     refine yt I I I ((congrArg (fun z=>Zl _ z _)<|Nat.zero_add _).trans<|Qy (enc:=Fj) ((Ap m.T m.P.length i).set ((m.T.getD i (0,0,0)).1) true) ((m.T.getD i (0,0,0)).2.1) true) uu sizeOf4 I (by simp;(simp at l j g;omega)) I ?_
   rotate_left 2
   focus
    refine Eh h I I I ((congrArg (fun z=>Zl _ z _)<|Nat.zero_add _).trans<|Qy (enc:=Fj) (Ap m.T m.P.length i) ((m.T.getD i (0,0,0)).1) true) uu sizeOf4 I (by simp;(simp at l j g;omega)) I ?_;intro a w h
    refine CS [5,11,8,12,13,14] kk kk I h ?_;clear h
    refine au 0xb1f ?_
    refine au 0x88f ?_
    refine Ya kk ?_;intro a w h
    refine Yj 8 12 ?_ ?_
    focus
     refine Ko h I I mr isAgg3 sizeOf3 Kz dd ?_;clear h;intro a h
     refine CS [12,13,14] kk kk I h ?_;clear h
     refine yt I I I ((congrArg (fun z=>Zl _ z _)<|Nat.zero_add _).trans<|Qy (enc:=Fj) ((Ap m.T m.P.length i).set ((m.T.getD i (0,0,0)).1) true) ((m.T.getD i (0,0,0)).2.1) true) uu sizeOf4 I (by simp;(simp at l j g;omega)) I ?_
    rotate_left
    focus
     refine Eh h I I I ((congrArg (fun z=>Zl _ z _)<|Nat.zero_add _).trans<|Qy (enc:=Fj) ((Ap m.T m.P.length i).set ((m.T.getD i (0,0,0)).1) true) ((m.T.getD i (0,0,0)).2.1) true) uu sizeOf4 I (by simp;(simp at l j g;omega)) I ?_;intro a w h
     refine CS [8,13,14] kk kk I h ?_;clear h
     refine au 0xf0f ?_
   all_goals
    refine au 0x88f ?_
    refine yt I I I ((congrArg (fun z=>Zl _ z _)<|Nat.zero_add _).trans<|Qy (enc:=Fj) (((Ap m.T m.P.length i).set ((m.T.getD i (0,0,0)).1) true).set ((m.T.getD i (0,0,0)).2.1) true) ((m.T.getD i (0,0,0)).2.2) true) uu sizeOf4 I (by simp;(simp at l j g;omega)) I ?_
    refine yn ?_;intro a w h
    exact key _ _ (tO h)
 ·have u:m.T.length=i:=dF n
  subst u
  replace h:=h.shareAll E (List.map Fj (Ap m.T m.P.length m.T.length)) I
  obtain ⟨r,s,rfl⟩:=h.row_addr (ad:=f) (M:=cellsOf encPt m.P) mm (nE 10)
  refine gC h<|ze<|zs<|zS<|zm I<|zw [_,_] I call167 (C_CtBN m.P.length (Ap m.T m.P.length m.T.length) false _ _ (BP _ _ _) oo false<|U2 hv) ?_;clear h;intro a w h
  refine Zh h (fun q h=>(by exfalso;cases q)) (fun q h=>?_)
  refine wpList_nil ?_
  refine cW ?_
  refine Zj h I ?_
  refine gC h<|au 0x60f52f317 ?_;clear h;intro a w h
  refine Zc<|Xb h (vs:=[_]) I call39 (OA r s B m.P oo) ss dd ?_;clear h;rintro v35 O a w ⟨F,J,H,rfl,R,rfl⟩ h
  refine gL h<|au 0x43125 ?_;clear h;intro a w h
  refine Zc<|Yq h E (vs:=[_,_]) I call168 (nQ F J m.P H [(C,_)] [] oo D oo) (List.Perm.refl _) ss ss ?_;clear h;rintro v37 U N a w ⟨rfl,rfl,rfl⟩ h
  replace h:=h.share E (off:=0) (M:=cellsOf encPt (m.P.mergeSort fun x y => !Cr y x)) (fun k hk=>by rw[Nat.zero_add,List.getElem?_toArray,List.getElem?_append_left hk])
  refine gL h<|zn<|zs<|yE [0,3,4,5,1,2,6,7]<|au 0xde50f8 ?_;clear h
  refine au 0x47f ?_
  refine yw [_] I I call171 (UM _ _ m.P.length (m.P.mergeSort fun x y => !Cr y x) (cI _) (cK hv.dif) oo)<|au 0x47f ?_
  refine yp I (.eql I I)<|au 0x6a3e ?_
  refine rtK ?_
  simp
end
section
theorem C_IxN(l:List Nat)(k0:Nat)(ad:Option Addr)(c:Nat)(o:l.length≤1000000): Xo prog 158 [.slice ad l.length c,.int .i64 ((k0:Nat):Int)] [Row ad (List.map Qi l)] (.int .i64 (Cs (fun x=>((k0:Nat):Int) == ((x:Nat):Int)) l 0)):=by
 refine fnI func158 I ntmps158 fun S w0 n=>au 0x92401f43112531 ?_;intro a w h
 refine lpG h [0,1,7] pkL (fun Y Z (i:Nat) a w=>i≤l.length∧(Cs (fun x=>((k0:Nat):Int) == ((x:Nat):Int)) l 0=Cs (fun x=>((k0:Nat):Int) == ((x:Nat):Int)) (l.drop i) i)∧St 19 S w0 ((8,nI i)::Y) [] Z a w) (fun i=>l.length-i) 0 (⟨Nat.zero_le _,rfl,by exact(h).sub sA⟩) ?_;clear h
 rintro i a w ⟨k,b,h⟩
 refine gC h<|au 0x12c31 ?_;intro a w h
 refine Zb h I (fun g=>?_) (fun g=>?_)
 ·have e:i<l.length:=dT g
  obtain ⟨m,j,rfl⟩:=h.row_addr (ad:=ad) (M:=List.map Qi l) mm nF
  refine gC h<|au 0xf1f4443125431917 ?_
  refine zD I mm (by rw[List.length_map];omega) isAgg3 sizeOf3 (Zr (enc:=Qi) (l:=l) 0 oo) (.inr I) ?_
  refine au 0x00f ?_;clear h;intro a w h
  refine Zh h (fun d h=>?_) (fun d h=>?_)
  ·refine wpList_nil ?_
   refine cW ?_
   refine Qo h I ?_
   refine gC h<|au 0x625431 ?_
   refine rtK ?_
   rw[b,Yv _ l i 0 e,if_pos d]
  ·refine wpList_nil ?_
   refine cW ?_
   refine Zj h I ?_
   refine gC h<|zk<|zr<|zp (.pN (i+1)<|.add I I)<|au 0x24 ?_;clear h;intro a w h
   exact⟨i+1,⟨oo,by rw[b,Yv _ l i 0 e,if_neg (by rw[d];decide)],tO h⟩,oo⟩
 ·have f:l.length=i:=dF g
  subst f
  refine gC h<|au 0x625310e ?_
  refine rtK ?_
  rw[b,List.drop_length];rfl
theorem ou(l:List Nat)(k0:Nat)(ad:Option Addr)(c:Nat)(a:l.length≤1000000): Xo prog 88 [.slice ad l.length c,.int .i64 ((k0:Nat):Int)] [Row ad (List.map Qi l)] (.bool (l.any (fun x=>((k0:Nat):Int) == ((x:Nat):Int)))):=by
 refine fnI func88 I ntmps88 fun S w0 b=>au 0x44312531 ?_
 refine zw [_,_] I call158 (C_IxN l k0 _ _ a)<|au 0x62540f ?_
 refine rtK ?_
 rw[E5]
theorem Ow(m:Ms)(c b d:Option Addr)(o l n i:Nat)(y:i<m.T.length)(p:D9 m.P.length (m.T.getD i (0,0,0))=true): Xo prog 172 [Qz m c b d o l n,.int .i64 ((i:Nat):Int)] [Row c (cellsOf encPt m.P),Row b (cellsOf Zd m.T),Row d (cellsOf Zd m.S)] (Vy (pt m (m.T.getD i (0,0,0)).1) (pt m (m.T.getD i (0,0,0)).2.1) (pt m (m.T.getD i (0,0,0)).2.2)):=by
 obtain ⟨v,u,r,_,_,_⟩:=Xz.1 p
 refine fn_intro func172 I ntmps172 nb ?_
 intro S w0 a s h
 obtain ⟨f,g,rfl⟩:=h.row_addr (ad:=c) (M:=cellsOf encPt m.P) mm (nE 10)
 obtain ⟨j,e,rfl⟩:=h.row_addr (ad:=b) (M:=cellsOf Zd m.T) mm (nE 3)
 refine gC h<|zS (zx I fun q=>zz JQ fun t=>au 0x42f490f91f312 ?_)
 refine zD I mm (cells_lt (k:=3) dd (fun _=>rfl) m.T i oo) isAgg127 sizeOf127 (Zg (k:=3) (fun _=>rfl) ((fun _=>rfl)) m.T (0,0,0) i oo) (.inl I) ?_
 refine zz A3 fun x=>stW I I Qg ?_
 refine zn<|zs<|yE [0,1,2,3,4,5,6,7,8,9,10,11,12,13,14,15,16,17,18,19]<|au 0xde50f ?_;clear h
 refine au 0xdea3f ?_
 refine au 0xd1f ?_
 refine Zf I kk I mm (cells_lt (k:=10) dd (fun _=>rfl) m.P ((m.T.getD i (0,0,0)).1) oo) isAgg119 sizeOf119 (Zg (k:=10) (fun _=>rfl) ((fun _=>rfl)) m.P (0,0) ((m.T.getD i (0,0,0)).1) oo) (.inl I) dd ?_
 refine au 0xde50f ?_
 refine au 0xb1f93f ?_
 refine au 0xd1f ?_
 refine Zf I kk I mm (cells_lt (k:=10) dd (fun _=>rfl) m.P ((m.T.getD i (0,0,0)).2.1) oo) isAgg119 sizeOf119 (Zg (k:=10) (fun _=>rfl) ((fun _=>rfl)) m.P (0,0) ((m.T.getD i (0,0,0)).2.1) oo) (.inl I) dd ?_
 refine au 0xde50f ?_
 refine au 0xf0f83f ?_
 refine au 0xd1f ?_
 refine Zf I kk I mm (cells_lt (k:=10) dd (fun _=>rfl) m.P ((m.T.getD i (0,0,0)).2.2) oo) isAgg119 sizeOf119 (Zg (k:=10) (fun _=>rfl) ((fun _=>rfl)) m.P (0,0) ((m.T.getD i (0,0,0)).2.2) oo) (.inl I) dd ?_
 refine yp I (.build [(_,_),(_,_),(_,_)] I<|Do _ _ _ _ _ _ _ _ _ _ _ _ _ _ _ _ _ _ _ _ _ _ _ _ _ _ _ _ _ _)<|stV I I I Ky ?_
 refine yn<|zt ?_;intro a w h
 refine Js h (Ze h I<|rC AW) ?_
 rfl
theorem C_bey1(r p q:Pt)(c a:Nat)(hr:PtK 100000 r)(i:PtK 100000 p)(hq:PtK 100000 q): Xo prog 278 [encPt r,.pointer (some ⟨c,0,none⟩),.pointer (some ⟨a,0,none⟩)] [Row (some ⟨c,0,none⟩) (Value.cells (encPt p)).toList,Row (some ⟨a,0,none⟩) (Value.cells (encPt q)).toList] (.bool (decide ((twP p q r).num.sign>0))):=by
 obtain ⟨f,d⟩:=hr
 obtain ⟨g,h⟩:=i
 obtain ⟨e,k⟩:=hq
 refine fnI func278 I ntmps278 fun S w0 m=>zS (zx I fun l=>za I<|zn<|zS<|zD (b:=c) (off:=0) (j:=0) (M:=(Value.cells<|encPt p).toList) (v:=DV p.1 p.2) I mm (Nat.succ_pos _) isAgg119 sizeOf119 I (.inl I) ?_)
 refine zD (b:=a) (off:=0) (j:=0) (M:=(Value.cells<|encPt q).toList) (v:=DV q.1 q.2) I mm (Nat.succ_pos _) isAgg119 sizeOf119 I (.inl I) ?_
 refine au 0x8e ?_
 refine zv [_,_,_] I call166 (SE p q r oo oo oo oo oo oo)<|au 0x62570f ?_
 refine rtK I
theorem oh(l:List Pt)(ad:Option Addr)(c:Nat)(v:l.length≤1000000)(p q:Pt)(m j:Nat)(hl:∀x∈l,PtK 100000 x)(t:PtK 100000 p)(hq:PtK 100000 q): Xo prog 361 [.slice ad l.length c,.func (.func 278) #[] #[.pointer (some ⟨m,0,none⟩),.pointer (some ⟨j,0,none⟩)]] [Row ad (cellsOf encPt l),Row (some ⟨m,0,none⟩) (Value.cells (encPt p)).toList,Row (some ⟨j,0,none⟩) (Value.cells (encPt q)).toList] (.int .i64 (Cs (fun r=>decide ((twP p q r).num.sign>0)) l 0)):=by
 refine fnI func361 I ntmps361 fun S w0 u=>au 0x92481f43112531 ?_;intro a w h
 refine lpG h [0,1,7] pkL (fun Y Z (i:Nat) a w=>i≤l.length∧(Cs (fun r=>decide ((twP p q r).num.sign>0)) l 0=Cs (fun r=>decide ((twP p q r).num.sign>0)) (l.drop i) i)∧St 19 S w0 ((8,nI i)::Y) [] Z a w) (fun i=>l.length-i) 0 (⟨Nat.zero_le _,rfl,by exact(h).sub sA⟩) ?_;clear h
 rintro i a w ⟨o,b,h⟩
 refine gC h<|au 0x12c31 ?_;intro a w h
 refine Zb h I (fun g=>?_) (fun g=>?_)
 ·have d:i<l.length:=dT g
  obtain ⟨s,n,rfl⟩:=h.row_addr (ad:=ad) (M:=cellsOf encPt l) mm (nE 10)
  refine gC h<|au 0x4443125431917 ?_
  refine zp (.indexAddr I I<|TV _ _ _ _ _ oo)<|zD I mm (cells_lt (k:=10) dd (fun _=>rfl) l i oo) isAgg119 sizeOf119 (Zg (k:=10) (fun _=>rfl) ((fun _=>rfl)) l (0,0) i oo) (.inl I) ?_;clear h;intro a w h
  refine Zc<|Xm h (fs:=[]) (cs:=[.pointer (some ⟨m,0,none⟩),.pointer (some ⟨j,0,none⟩)]) I (vs:=[_]) I call278 (C_bey1 (l.getD i (0,0)) p q m j (hl _<|getD_mem l d) t hq) ss dd ?_;clear h;intro a w h
  refine Zh h (fun e h=>?_) (fun e h=>?_)
  ·refine wpList_nil ?_
   refine cW ?_
   refine Qo h I ?_
   refine gC h<|au 0x625431 ?_
   refine rtK ?_
   rw[b,Yv _ l i (0,0) d,if_pos e]
  ·refine wpList_nil ?_
   refine cW ?_
   refine Zj h I ?_
   refine gC h<|zk<|zr<|zp (.pN (i+1)<|.add I I)<|au 0x24 ?_;clear h;intro a w h
   exact⟨i+1,⟨oo,by rw[b,Yv _ l i (0,0) d,if_neg (by rw[e];decide)],tO h⟩,oo⟩
 ·have f:l.length=i:=dF g
  subst f
  refine gC h<|au 0x625310e ?_
  refine rtK ?_
  rw[b,List.drop_length];rfl
theorem QM(l:List Pt)(ad:Option Addr)(c:Nat)(e:l.length≤1000000)(p q:Pt)(b a:Nat)(hl:∀x∈l,PtK 100000 x)(d:PtK 100000 p)(hq:PtK 100000 q): Xo prog 277 [.slice ad l.length c,.func (.func 278) #[] #[.pointer (some ⟨b,0,none⟩),.pointer (some ⟨a,0,none⟩)]] [Row ad (cellsOf encPt l),Row (some ⟨b,0,none⟩) (Value.cells (encPt p)).toList,Row (some ⟨a,0,none⟩) (Value.cells (encPt q)).toList] (.bool (l.any (fun r=>decide ((twP p q r).num.sign>0)))):=by
 refine fnI func277 I ntmps277 fun S w0 f=>au 0x44312531 ?_
 refine zw [_,_] I call361 (oh l _ _ e p q b a hl d hq)<|au 0x62540f ?_
 refine rtK ?_
 rw[E5]
end
section
theorem OW(b off:Nat): RN (Instr.sliceAt 151 (.pointer (some ⟨b,off,none⟩)) none none none) (.slice (some ⟨b,off,none⟩) 3 3):=fun w=>by
 simp[go_sem,Instr.sliceAt,Instr.sliceBounds]
theorem bey_t1{b a c s0 s1 s2:Pt}(h:nxP s0 s1 s2 b a=true): Z2 b a c s0 s1 s2=true:=by unfold Z2;rw[h];rfl
theorem bey_t2{c b a s0 s1 s2:Pt}(h:nxP s0 s1 s2 b a=true): Z2 c b a s0 s1 s2=true:=by unfold Z2;rw[h,Bool.or_true];rfl
theorem bey_t3{b c a s0 s1 s2:Pt}(h:nxP s0 s1 s2 a b=true): Z2 b c a s0 s1 s2=true:=by unfold Z2;rw[h,Bool.or_true]
theorem bey_f{c b a s0 s1 s2:Pt}(h1:nxP s0 s1 s2 c b=false)(d:nxP s0 s1 s2 b a=false)(e:nxP s0 s1 s2 a c=false): Z2 c b a s0 s1 s2=false:=by unfold Z2;rw[h1,d,e];rfl
theorem SK(e d c s0 s1 s2:Pt)(n:PtK 100000 e)(h1:PtK 100000 d)(m:PtK 100000 c)(g0:PtK 100000 s0)(g1:PtK 100000 s1)(g2:PtK 100000 s2): Ji prog 173 [Vy e d c,Vy s0 s1 s2] (.bool (Z2 e d c s0 s1 s2)):=by
 have f:∀x∈[s0,s1,s2],PtK 100000 x:=by intro x hx;simp only[List.mem_cons,List.not_mem_nil,or_false] at hx;rcases hx with rfl|rfl|rfl<;>assumption
 refine fnI func173 I ntmps173 fun S w0 g=>zS (zx I fun j=>zx I fun i=>?_);intro a w h
 replace h:=h.shareAll g (cellsOf encPt ([s0,s1,s2])) I
 refine gL h<|au 0x92431125 ?_
 refine lpR 4<|rdS<|au 0x1254319171e129e31 ?_
 refine yF [0,1,2,3,4,5,6,7,8,9,10,11]<|au 0xc6f65f8 ?_;clear h
 refine au 0x55f86fd9f8 ?_
 refine Qx [] I kk I mr isAgg119 sizeOf119 Gu (fun _ _ _ _ _ ht=>nomatch ht) dd ?_
 refine yz I Xv fun k=>yz I Xv fun l=>stV I I I Qb ?_
 refine stV I I I Qb ?_
 refine yn<|zS<|zp (.slice I none none none I I I<|OW _ _) ?_;intro a w h
 replace h:=h.shareAll g ((Value.cells (DV d.1 d.2)).toList) I
 refine gL h<|zp (.makeFunc [] [_,_] I I) ?_;clear h;intro a w h
 replace h:=h.shareAll g ((Value.cells (DV e.1 e.2)).toList) I
 refine gL h<|zw [_,_] I call277 (QM [s0,s1,s2] _ _ ss e d k l f n h1)<|au 0x20f ?_;clear h;intro a w h
 refine Zh h (fun b h=>?_) (fun b h=>?_)
 ·refine wpList_nil ?_
  refine cW ?_
  refine Qo h I ?_
  refine gC h<|au 0x62531 ?_
  refine rtK ?_
  rw[bey_t1 b]
 ·refine wpList_nil ?_
  refine cW ?_
  refine Zj h I ?_
  refine gC h<|au 0x24e2f37 ?_;clear h;intro a w h
  replace h:St 24 S w0 [(2,pB j),(3,pB i),(4,.bool false),(8,.int .i64 1),(9,.bool true),(22,.bool false)] [(j,bV (Vy e d c) 151)] [Row (some ⟨i,0,none⟩) (cellsOf encPt ([s0,s1,s2]))] a w:=by exact tO h
  refine Zm ?_
  refine gC h<|au 0x1254319171e129e31 ?_
  refine yF [0,1,2,3,4,5,6,7,8,9,10,11]<|au 0xb6f55f8 ?_;clear h
  refine au 0x45f76f17f8 ?_
  refine Qx [] I kk I mr isAgg119 sizeOf119 Gt (fun _ _ _ _ _ ht=>nomatch ht) dd ?_
  refine yz I Xv fun k=>yz I Xv fun l=>stV I I I Qb ?_
  refine stV I I I Qb ?_
  refine yn<|zS<|zp (.slice I none none none I I I<|OW _ _) ?_;intro a w h
  replace h:=h.shareAll g ((Value.cells (DV c.1 c.2)).toList) I
  refine gL h<|zp (.makeFunc [] [_,_] I I) ?_;clear h;intro a w h
  replace h:=h.shareAll g ((Value.cells (DV d.1 d.2)).toList) I
  refine gL h<|zw [_,_] I call277 (QM [s0,s1,s2] _ _ ss d c k l f h1 m)<|au 0x20f ?_;clear h;intro a w h
  refine Zh h (fun b h=>?_) (fun b h=>?_)
  ·refine wpList_nil ?_
   refine cW ?_
   refine Qo h I ?_
   refine gC h<|au 0x62531 ?_
   refine rtK ?_
   rw[bey_t2 b]
  ·refine wpList_nil ?_
   refine cW ?_
   refine Zj h I ?_
   refine gC h<|au 0x2471f37 ?_;clear h;intro a w h
   replace h:St 24 S w0 [(2,pB j),(3,pB i),(4,.bool false),(8,.int .i64 2),(9,.bool true),(22,.bool false)] [(j,bV (Vy e d c) 151)] [Row (some ⟨i,0,none⟩) (cellsOf encPt ([s0,s1,s2]))] a w:=by exact tO h
   refine Zm ?_
   refine gC h<|au 0x1254319171e129e31 ?_
   refine yF [0,1,2,3,4,5,6,7,8,9,10,11]<|au 0xa6f45f8 ?_;clear h
   refine au 0x65f96f07f8 ?_
   refine Qx [] I kk I mr isAgg119 sizeOf119 AX (fun _ _ _ _ _ ht=>nomatch ht) dd ?_
   refine yz I Xv fun k=>yz I Xv fun l=>stV I I I Qb ?_
   refine stV I I I Qb ?_
   refine yn<|zS<|zp (.slice I none none none I I I<|OW _ _) ?_;intro a w h
   replace h:=h.shareAll g ((Value.cells (DV e.1 e.2)).toList) I
   refine gL h<|zp (.makeFunc [] [_,_] I I) ?_;clear h;intro a w h
   replace h:=h.shareAll g ((Value.cells (DV c.1 c.2)).toList) I
   refine gL h<|zw [_,_] I call277 (QM [s0,s1,s2] _ _ ss c e k l f m n)<|au 0x20f ?_;clear h;intro a w h
   refine Zh h (fun b h=>?_) (fun b h=>?_)
   ·refine wpList_nil ?_
    refine cW ?_
    refine Qo h I ?_
    refine gC h<|au 0x62531 ?_
    refine rtK ?_
    rw[bey_t3 b]
   ·refine wpList_nil ?_
    refine cW ?_
    refine Zj h I ?_
    refine gC h<|au 0x24e1f37 ?_;clear h;intro a w h
    replace h:St 24 S w0 [(2,pB j),(3,pB i),(4,.bool false),(8,.int .i64 3),(9,.bool true),(22,.bool false)] [(j,bV (Vy e d c) 151)] [Row (some ⟨i,0,none⟩) (cellsOf encPt ([s0,s1,s2]))] a w:=by exact tO h
    refine Zm ?_
    refine gC h<|au 0x625310ed1241f31 ?_
    refine rtK ?_
    rw[bey_f (by assumption) (by assumption) b]
end
section
theorem nm1{x:Int}(h:(x == -1)=false)(e:x = -1): False:=by subst e;cases h
theorem ic(i g f j:Pt)(m:PtK 100000 i)(k:PtK 100000 g)(l:PtK 100000 f)(n:PtK 100000 j)(hT:twP i g f≠0)(d:(Gf i g f j).1.num.sign = -1∨(Gf i g f j).2.1.num.sign = -1∨(Gf i g f j).2.2.num.sign = -1): Ji prog 174 [encPt i,encPt g,encPt f,encPt j] (.int .i64 0):=by
 obtain ⟨p,v⟩:=m
 obtain ⟨t,o⟩:=k
 obtain ⟨r,u⟩:=l
 obtain ⟨q,s⟩:=n
 obtain ⟨l0,x⟩:∃z,(Gf i g f j).1=z:=⟨_,rfl⟩
 obtain ⟨l1,A⟩:∃z,(Gf i g f j).2.1=z:=⟨_,rfl⟩
 obtain ⟨D,y⟩:∃z,(Gf i g f j).2.2=z:=⟨_,rfl⟩
 refine fnI func174 I ntmps174 fun S w0 C=>zS (zx I fun F=>zx I fun H=>zx I fun E=>zx I fun G=>au 0x8e8e8e8e3125 ?_)
 refine zv [_,_,_,_] I call217 (SC i g f j oo oo oo oo oo oo oo oo hT)<|au 0xbb4 ?_
 refine zz SY fun B=>stW I I BR ?_
 refine au 0x92431125317d2d0f431125 ?_
 refine lpR 4<|rdS<|au 0x431254319171e129e31 ?_
 refine zp (.indexAddr I I<|HL _ _)<|ldZ If ?_
 refine au 0x00f3192f2f ?_;intro a w h
 refine Zh h (fun b h=>?_) (fun b h=>?_)
 ·refine gL h<|au 0x625311e25 ?_
  refine rtK I
 ·refine gL h<|au 0x00f31d25 ?_;clear h;intro a w h
  refine Zh h (fun c h=>?_) (fun c h=>?_)
  focus
   refine gL h<|au 0x24e2f32571f431e25 ?_;clear h;intro a w h
   replace h:=kQ h [8,9,11,23,24,30,32] pkL
   refine Zm ?_
   refine gC h<|au 0x431254319171e129e31 ?_
   refine zp (.indexAddr I I<|E1 _ _)<|ldZ EQ ?_
   refine au 0x00f3192f2f ?_;clear h;intro a w h
   refine Zh h (fun b h=>?_) (fun b h=>?_)
   ·refine gL h<|au 0x625311e25 ?_
    refine rtK I
   refine gL h<|au 0x00f31d25 ?_;clear h;intro a w h
   refine Zh h (fun c h=>?_) (fun c h=>?_)
   ·refine gL h<|au 0x2471f325e1f431e25 ?_;clear h;intro a w h
    replace h:=kQ h [8,9,11,23,24,30,32] pkL
    refine Zm ?_
    refine gC h<|au 0x8cf431254319171e129e31 ?_
    refine ldZ Gw ?_
    refine au 0x00f3192f2f ?_;clear h;intro a w h
    refine Zh h (fun b h=>?_) (fun b h=>?_)
    ·refine gL h<|au 0x625311e25 ?_
     refine rtK I
    ·refine gL h<|au 0x00f31d25 ?_;clear h;intro a w h
     refine Zh h (fun c h=>?_) (fun c h=>?_)
     ·refine gL h<|au 0x431e25 ?_
      refine zp (Pure1.cast (v':=.int .i64 4) (.add I I) cgd)<|au 0x24e1f325 ?_;clear h;intro a w h
      replace h:=kQ h [8,9,11,23,24,30,32] pkL
      refine Zm ?_
      refine gC h<|au 0x6254310ed1241f31 ?_
      refine rtK ?_
      exfalso;rcases d with e|e|e<;>exact nm1 (by assumption) e
     ·refine gL h<|au 0x24e1f37d25 ?_;clear h;intro a w h
      replace h:=kQ h [8,9,11,23,24,30,32] pkL
      refine Zm ?_
      refine gC h<|au 0x6254310ed1241f31 ?_
      refine rtK ?_
      exfalso;rcases d with e|e|e<;>exact nm1 (by assumption) e
   refine gL h<|au 0x2471f37d25 ?_;clear h;intro a w h
   replace h:=kQ h [8,9,11,23,24,30,32] pkL
  rotate_left
  focus
   refine gL h<|au 0x24e2f37d25 ?_;clear h;intro a w h
   replace h:=kQ h [8,9,11,23,24,30,32] pkL
   refine Zm ?_
   refine gC h<|au 0x431254319171e129e31 ?_
   refine zp (.indexAddr I I<|E1 _ _)<|ldZ EQ ?_
   refine au 0x00f3192f2f ?_;clear h;intro a w h
   refine Zh h (fun b h=>?_) (fun b h=>?_)
   ·refine gL h<|au 0x625311e25 ?_
    refine rtK I
   refine gL h<|au 0x00f31d25 ?_;clear h;intro a w h
   refine Zh h (fun c h=>?_) (fun c h=>?_)
   rotate_left
   ·refine gL h<|au 0x2471f37d25 ?_;clear h;intro a w h
    replace h:=kQ h [8,9,11,23,24,30,32] pkL
    refine Zm ?_
    refine gC h<|au 0x8cf431254319171e129e31 ?_
    refine ldZ Gw ?_
    refine au 0x00f3192f2f ?_;clear h;intro a w h
    refine Zh h (fun b h=>?_) (fun b h=>?_)
    ·refine gL h<|au 0x625311e25 ?_
     refine rtK I
    ·refine gL h<|au 0x00f31d25 ?_;clear h;intro a w h
     refine Zh h (fun c h=>?_) (fun c h=>?_)
     ·refine gL h<|au 0x24e1f32571f431e25 ?_;clear h;intro a w h
      replace h:=kQ h [8,9,11,23,24,30,32] pkL
      refine Zm ?_
      refine gC h<|au 0x6254310ed1241f31 ?_
      refine rtK ?_
      exfalso;rcases d with e|e|e<;>exact nm1 (by assumption) e
     ·refine gL h<|au 0x24e1f37d25 ?_;clear h;intro a w h
      replace h:=kQ h [8,9,11,23,24,30,32] pkL
      refine Zm ?_
      refine gC h<|au 0x6254310ed1241f31 ?_
      refine rtK ?_
      exfalso;rcases d with e|e|e<;>exact nm1 (by assumption) e
   refine gL h<|au 0x2471f32571f431e25 ?_;clear h;intro a w h
   replace h:=kQ h [8,9,11,23,24,30,32] pkL
  all_goals
   refine Zm ?_
   refine gC h<|au 0x8cf431254319171e129e31 ?_
   refine ldZ Gw ?_
   refine au 0x00f3192f2f ?_;clear h;intro a w h
   refine Zh h (fun b h=>?_) (fun b h=>?_)
   ·refine gL h<|au 0x625311e25 ?_
    refine rtK I
   ·refine gL h<|au 0x00f31d25 ?_;clear h;intro a w h
    refine Zh h (fun c h=>?_) (fun c h=>?_)
    ·refine gL h<|au 0x24e1f325e1f431e25 ?_;clear h;intro a w h
     replace h:=kQ h [8,9,11,23,24,30,32] pkL
     refine Zm ?_
     refine gC h<|au 0x6254310ed1241f31 ?_
     refine rtK ?_
     exfalso;rcases d with e|e|e<;>exact nm1 (by assumption) e
    ·refine gL h<|au 0x24e1f37d25 ?_;clear h;intro a w h
     replace h:=kQ h [8,9,11,23,24,30,32] pkL
     refine Zm ?_
     refine gC h<|au 0x6254310ed1241f31 ?_
     refine rtK ?_
     exfalso;rcases d with e|e|e<;>exact nm1 (by assumption) e
end
section
theorem VS(b off:Nat): RN (Instr.sliceAt 127 (.pointer (some ⟨b,off,none⟩)) none none none) (.slice (some ⟨b,off,none⟩) 3 3):=fun w=>by
 simp[go_sem,Instr.sliceAt,Instr.sliceBounds]
theorem row_I3{b o i:Nat}{l:List (Nat×Nat×Nat)}(g:i<l.length){X:Nat→Prop}{w:World}(h:(Row (some ⟨b,o,none⟩) (cellsOf Zd l)).p X w):
  (Row (some ⟨b,o+i*3,none⟩) (List.map Qi [(l.getD i (0,0,0)).1,(l.getD i (0,0,0)).2.1,(l.getD i (0,0,0)).2.2])).p X w:=by
 intro _
 have hlen:(cellsOf Zd l).length=l.length*3:=cellsOf_length (k:=3) (fun _=>rfl) l
 obtain ⟨n,f,cs,T,fr,ha,m,d,hj⟩:=h (fun e=>by rw[e] at hlen;simp at hlen;omega)
 cases ha
 refine⟨b,_,cs,T,fr,rfl,m,d,fun j c=>?_⟩
 have a:j<3:=c
 have e:l.getD i (0,0,0)=l[i]:=by simp[List.getD,g]
 rw[e]
 have:=Ad (k:=3) (enc:=Zd) (fun _=>rfl) l i j g a
 rw[show o+i*3+j=o+(i*3+j) by omega,hj (i*3+j) (by rw[hlen];omega),this]
 match j,a with
 | 0,_=>rfl
 | 1,_=>rfl
 | 2,_=>rfl
theorem ZE{x t:Rat}(hx:x<0)(ht:0<t): (x/t).num.sign = -1:=by
 have h:x/t<0:=by rw[Rat.div_def];have:=Rat.inv_pos.2 ht;have a:=Rat.mul_pos (show 0 < -x by grind) this;grind
 have a:(x/t).num.sign<0:=(FV _).2 h
 have b:=Int.sign_eq_neg_one_of_neg (Int.sign_neg_iff.1 a)
 exact b
theorem sgn_1{x:Rat}(h:x.num.sign=1): 0<x:=by
 have:=OY (x:=x);exact this.1 oo
theorem MV.tw{K:Nat}{m:Ms}(h:MV K m){t:Nat×Nat×Nat}(ht:t∈m.T): 0<twP (pt m t.1) (pt m t.2.1) (pt m t.2.2):=sgn_1 (h.pos t ht)
theorem MV.out'{K:Nat}{m:Ms}(h:MV K m){t:Nat×Nat×Nat}(ht:t∈m.T){q:Nat}(hq:q<m.P.length)(a:HM t q=false):
  (Gf (pt m t.1) (pt m t.2.1) (pt m t.2.2) (pt m q)).1.num.sign = -1∨(Gf (pt m t.1) (pt m t.2.1) (pt m t.2.2) (pt m q)).2.1.num.sign = -1∨(Gf (pt m t.1) (pt m t.2.1) (pt m t.2.2) (pt m q)).2.2.num.sign = -1:=by
 rcases h.out t ht q hq a with e|e|e
 ·exact .inl (ZE e (h.tw ht))
 ·exact .inr (.inl (ZE e (h.tw ht)))
 ·exact .inr (.inr (ZE e (h.tw ht)))
theorem lF{t:Nat×Nat×Nat}{q:Nat}(h:([t.1,t.2.1,t.2.2].any fun x=>((q:Nat):Int) == ((x:Nat):Int))=false): HM t q=false:=by
 simp only[List.any_cons,List.any_nil,Bool.or_false,Bool.or_eq_false_iff,beq_eq_false_iff_ne] at h
 simp only[HM,Bool.or_eq_false_iff,decide_eq_false_iff_not];omega
theorem gJ(K:Nat)(m:Ms)(l t o:Option Addr)(F D E:Nat)(hv:MV K m)(e:K≤100000): Xo prog 96 [Qz m l t o F D E] [Row l (cellsOf encPt m.P),Row t (cellsOf Zd m.T),Row o (cellsOf Zd m.S)] (.bool true):=by
 have W:=hv.nP
 have a6:=hv.nT
 have V:=hv.nS
 have a1:=hv.ne
 have L:=hv.neP
 refine fnI func96 I ntmps96 fun S w0 hS=>zS (zx I fun J=>au 0x924e0f90f91f31125 ?_);intro a w h
 refine lpG h [1,11] pkL (fun Y Z (i:Nat) a w=>i≤m.T.length∧St 65 S w0 ((12,nI i)::Y) [(J,bV (Qz m l t o F D E) 42)] Z a w) (fun i=>m.T.length-i) 0 (⟨Nat.zero_le _,by exact(h).sub sA⟩) ?_;clear h
 rintro i a w ⟨N,h⟩
 refine gC h<|au 0x12c31 ?_;intro a w h
 refine Zb h I (fun r=>?_) (fun r=>?_)
 ·have c:i<m.T.length:=dT r
  obtain ⟨j,g,rfl⟩:=h.row_addr (ad:=t) (M:=cellsOf Zd m.T) mm (nE 3)
  have b:=getD_mem m.T (d:=(0,0,0)) c
  refine gC h<|au 0x4ce3125431917 ?_
  refine zw [_,_] I call172 (Ow m _ _ _ _ _ _ i c<|hv.num _ b) (zz JQ fun O=>stW I I Ky ?_)
  refine au 0x92443112 ?_;clear h;intro a w h
  refine lpG h [1,3,4,11,12,18] pkL (fun Y Z (k:Nat) a w=>k≤i∧St 65 S w0 ((19,nI k)::Y) [(O,bV (Vy (pt m (m.T.getD i (0,0,0)).1) (pt m (m.T.getD i (0,0,0)).2.1)<|pt m (m.T.getD i (0,0,0)).2.2) 151),(J,bV (Qz m l (some ⟨j,g,none⟩) o F D E) 42)] Z a w) (fun k=>i-k) 0 (⟨Nat.zero_le _,by exact(h).sub sA⟩) ?_;clear h
  rintro k a w ⟨Q,h⟩
  refine gC h<|au 0x12c31 ?_;intro a w h
  refine Zb h I (fun n=>?_) (fun n=>?_)
  ·have z:k<i:=dT n
   have f:=getD_mem m.T (d:=(0,0,0)) (show k<m.T.length by omega)
   refine gC h<|au 0x4ce3125431917 ?_
   refine zw [_,_] I call172 (Ow m _ _ _ _ _ _ k oo<|hv.num _ f) (zz JQ fun b6=>stW I I Ky ?_)
   refine au 0x3bf3bf312 ?_
   refine zv [_,_] I call173 (SK (pt m (m.T.getD i (0,0,0)).1) (pt m (m.T.getD i (0,0,0)).2.1) (pt m (m.T.getD i (0,0,0)).2.2) (pt m (m.T.getD k (0,0,0)).1) (pt m (m.T.getD k (0,0,0)).2.1) (pt m (m.T.getD k (0,0,0)).2.2) ((hv.tri b).1.mono e) ((hv.tri b).2.1.mono e) ((hv.tri b).2.2.mono e) ((hv.tri f).1.mono e) ((hv.tri f).2.1.mono e) ((hv.tri f).2.2.mono e)) ?_;clear h;intro a w h
   refine Zh h (fun v h=>?_) (fun v h=>?_)
   focus
    refine gL h<|au 0x420f ?_
    refine zo 29 I I I<|zo 29 I I I<|zo 29 I I I<|zo 29 I I I<|au 0x24e ?_;clear h;intro a w h
   rotate_left
   focus
    refine gL h<|au 0x420f ?_
    refine ldQ 29 AW ?_
    refine ldQ 29 AW ?_;clear h;intro a w h
    refine Zq 29 h I I<|Qw h (vs:=[_,_]) I call173 (SK (pt m (m.T.getD k (0,0,0)).1) (pt m (m.T.getD k (0,0,0)).2.1) (pt m (m.T.getD k (0,0,0)).2.2) (pt m (m.T.getD i (0,0,0)).1) (pt m (m.T.getD i (0,0,0)).2.1) (pt m (m.T.getD i (0,0,0)).2.2) ((hv.tri f).1.mono e) ((hv.tri f).2.1.mono e) ((hv.tri f).2.2.mono e) ((hv.tri b).1.mono e) ((hv.tri b).2.1.mono e) ((hv.tri b).2.2.mono e)) dd ?_;clear h;intro a w h
    refine gL h (bbT (fun u=>(by exfalso;have:=hv.apart i k z c;unfold mH at this;rw[v,u] at this;cases this)) fun u=>zq 29 I I (.unOp I<|Gg _)<|au 0x22e ?_);clear h;intro a w h
   all_goals
    refine cW ?_
    refine Zj h I ?_
    refine gC h<|zk<|zr<|zp (.pN (k+1)<|.add I I)<|au 0x24 ?_;clear h;intro a w h
    exact⟨k+1,⟨oo,tO h⟩,oo⟩
  ·have C:i=k:=dF n
   subst C
   refine gC h<|au 0x92481f60f52f310e ?_;clear h;intro a w h
   refine lpG h [1,3,4,11,12,18,19,37,38] pkL (fun Y Z (q:Nat) a w=>q≤m.P.length∧St 65 S w0 ((39,nI q)::Y) [(O,bV (Vy (pt m (m.T.getD i (0,0,0)).1) (pt m (m.T.getD i (0,0,0)).2.1)<|pt m (m.T.getD i (0,0,0)).2.2) 151),(J,bV (Qz m l (some ⟨j,g,none⟩) o F D E) 42)] Z a w) (fun q=>m.P.length-q) 0 (⟨Nat.zero_le _,by exact(h).sub sA⟩) ?_;clear h
   rintro q a w ⟨U,h⟩
   refine gC h<|au 0x12c31 ?_;intro a w h
   refine Zb h I (fun p=>?_) (fun p=>?_)
   ·have s:q<m.P.length:=dT p
    obtain ⟨G,H,rfl⟩:=h.row_addr (ad:=l) (M:=cellsOf encPt m.P) mm (nE 10)
    refine gC h<|au 0x431917 ?_
    refine zp (.indexAddr I I<|TV _ _ _ _ _ oo)<|zD I mm (cells_lt (k:=10) dd (fun _=>rfl) m.P q oo) isAgg119 sizeOf119 (Zg (k:=10) (fun _=>rfl) ((fun _=>rfl)) m.P (0,0) q oo) (.inl I) ?_
    refine zz Xv fun b8=>za I<|stW I I Qb ?_
    refine au 0x42f490f91f312 ?_
    refine zp (.slice I none none none I I I<|VS _ _) ?_;clear h;intro a w h
    replace h:=h.derive (R:=Row (some ⟨j,g+i*3,none⟩) (List.map Qi [(m.T.getD i (0,0,0)).1,(m.T.getD i (0,0,0)).2.1,(m.T.getD i (0,0,0)).2.2])) (fun X hX=>row_I3 c (hX _ mm))
    refine gL h<|zm I<|zw [_,_] I call88 (ou [(m.T.getD i (0,0,0)).1,(m.T.getD i (0,0,0)).2.1,(m.T.getD i (0,0,0)).2.2] q _ _ ss) ?_;clear h;intro a w h
    refine Zh h (fun x h=>?_) (fun x h=>?_)
    focus
     refine gL h<|au 0x24ed5fd5fd5fd5fd5fd5fd5fd5fd5f420f ?_;clear h;intro a w h
    rotate_left
    focus
     refine gL h<|au 0x420f ?_
     refine zq 52 I I (.indexAddr I I<|B0 _ _)<|ldQ 52 AX ?_
     refine zq 52 I I (.indexAddr I I<|BZ _ _)<|ldQ 52 Gu ?_
     refine zq 52 I I (.indexAddr I I<|BY _ _)<|ldQ 52 Gt ?_
     refine ldQ 52 Xi ?_;clear h;intro a w h
     refine Zq 52 h I I<|Qw h (vs:=[_,_,_,_]) I call174 (ic (pt m (m.T.getD i (0,0,0)).1) (pt m (m.T.getD i (0,0,0)).2.1) (pt m (m.T.getD i (0,0,0)).2.2) (pt m q) ((hv.tri b).1.mono e) ((hv.tri b).2.1.mono e) ((hv.tri b).2.2.mono e) ((hv.ptK s).mono e) (Rat.ne_of_gt<|hv.tw b)<|hv.out' b s<|lF x) dd ?_;clear h;intro a w h
     refine gL h<|zq 52 I I (.neq I I) (bbF (fun y=>(by exfalso;cases y)) fun y=>au 0x22e ?_);clear h;intro a w h
    all_goals
     refine cW ?_
     refine Zj h I ?_
     refine gC h<|zk<|zr<|zp (.pN (q+1)<|.add I I)<|au 0x24 ?_;clear h;intro a w h
     exact⟨q+1,⟨oo,tO h⟩,oo⟩
   ·have A:m.P.length=q:=dF p
    subst A
    refine gC h<|ze<|zr<|zp (.pN (i+1)<|.add I I)<|au 0x24 ?_;clear h;intro a w h
    exact⟨i+1,⟨oo,tO h⟩,oo⟩
 ·have B:m.T.length=i:=dF r
  subst B
  refine gC h<|au 0x625310e ?_
  refine rtK I
end
section
theorem Sf{b off:Nat}: RN (Instr.fieldAt 124 (.pointer (some ⟨b,off,none⟩)) 0) (.pointer (some ⟨b,off+0,none⟩)):=fun w=>by
 simp[go_sem]
theorem iC{c0 c1 c2 a:Value}: Zk false 1 #[c0,c1,c2,a] 0=some c0:=rfl
theorem Mb{b off:Nat}: RN (Instr.fieldAt 124 (.pointer (some ⟨b,off,none⟩)) 1) (.pointer (some ⟨b,off+1,none⟩)):=fun w=>by
 simp[go_sem]
theorem EM{c0 c1 c2 a:Value}: Zk false 1 #[c0,c1,c2,a] 1=some c1:=rfl
abbrev Zy(x:Nat×Nat): Value:=.agg #[.int .i64 ((x.1:Nat):Int),.int .i64 ((x.2:Nat):Int)]
theorem Bj(w:World): (zeroValue 124).run prog w=.ok (Qp ed0) w:=zeroValue124 w
theorem cfE_or(x y:Ed): orI [Ey ((x.a:Nat):Int) ((y.a:Nat):Int),Ey ((x.b:Nat):Int) ((y.b:Nat):Int)]=cfE x y:=by
 have h:∀i k:Nat,Ey ((i:Nat):Int) ((k:Nat):Int)=mz i k:=fun i k=>by
  unfold Ey mz
  by_cases h1:i<k
  ·rw[if_pos oo,if_pos h1]
  ·rw[if_neg oo,if_neg h1]
   by_cases c:k<i
   ·rw[if_pos oo,if_pos c]
   ·rw[if_neg oo,if_neg c]
 rw[h,h]
 unfold cfE orI orI orI
 by_cases h1:mz x.a y.a=0
 ·simp[h1];exact fun e=>e.symm
 ·simp[h1]
theorem ck2_ed(e:Bool)(x:Nat×Nat): RN (Instr.checkKey e 10000 275 (Zy x)) ():=fun w=>by
 rw[show(10000:Nat)=9999+1 from rfl,Instr.checkKey]
 have h1:=Hz e 9998 (x.1:Int)
 have a:=Hz e 9998 (x.2:Int)
 simp[go_sem,h1,a]
theorem eq2_ed(x y:Nat×Nat): RN (Op.equal 275 (Zy x) (Zy y)) (decide (x=y)):=fun w=>by
 obtain ⟨i,j⟩:=x
 obtain ⟨k,l⟩:=y
 unfold Op.equal
 rw[show Op.maxDepth=9999+1 from rfl,Op.equalIn]
 simp[go_sem]
 by_cases h1:i=k<;>by_cases a:j=l<;>simp[h1,a,Bd]
theorem mk_ed:MK prog 273 275 124 Zy (Qp ed0):=MK.ofAgg (D:=_) runUnderlying273 Bj runUnderlying275 (fun _ _=>rfl) ck2_ed (fun x=>by simp[Instr.sameBits]) eq2_ed
theorem ck2_cn(e:Bool)(x:Nat×Nat): RN (Instr.checkKey e 10000 347 (Zy x)) ():=fun w=>by
 rw[show(10000:Nat)=9999+1 from rfl,Instr.checkKey]
 have h1:=Hz e 9998 (x.1:Int)
 have a:=Hz e 9998 (x.2:Int)
 simp[go_sem,h1,a]
theorem eq2_cn(x y:Nat×Nat): RN (Op.equal 347 (Zy x) (Zy y)) (decide (x=y)):=fun w=>by
 obtain ⟨i,j⟩:=x
 obtain ⟨k,l⟩:=y
 unfold Op.equal
 rw[show Op.maxDepth=9999+1 from rfl,Op.equalIn]
 simp[go_sem]
 by_cases h1:i=k<;>by_cases a:j=l<;>simp[h1,a,Bd]
theorem Cp:MK prog 346 347 3 Zy (Qi 0):=MK.ofAgg (D:=_) runUnderlying346 zeroValue3 runUnderlying347 (fun _ _=>rfl) ck2_cn (fun x=>by simp[Instr.sameBits]) eq2_cn
theorem C_edg1(x y:Ed): Ji prog 178 [Qp x,Qp y] (.int .i64 (cfE x y)):=by
 refine fnI func178 I ntmps178 fun S w0 d=>zS (zx I fun f=>zx I fun e=>za I<|zn<|zs<|yE [0,1,2,3,5,6,7,8,4,9,10,11,12]<|au 0x38f87f ?_)
 refine au 0x38f87f ?_
 refine au 0x77f ?_
 refine ldY EM ?_
 refine au 0x77f ?_
 refine ldY EM ?_
 refine yv [_,_] I I call53 (Ox ((((x).a:Nat):Int)) ((((y).a:Nat):Int)))<|yv [_,_] I I call53 (Ox ((((x).b:Nat):Int)) ((((y).b:Nat):Int))) ?_
 refine Gj d I kk [(_,_),(_,_)] I (Jy _ _) (List.map Hq [Ey ((x.a:Nat):Int) ((y.a:Nat):Int),Ey ((x.b:Nat):Int) ((y.b:Nat):Int)]) I dd ?_;intro c
 refine yw [_] I I call52 (C_Or _ _ ([Ey ((((x).a:Nat):Int)) ((((y).a:Nat):Int)),Ey ((((x).b:Nat):Int)) ((((y).b:Nat):Int))]) nb)<|au 0x6a3e ?_
 refine rtK ?_
 rw[←cfE_or]
theorem nR(b c:Nat)(p:List Ed)(R:List Value)(σ:List (Nat×Obj))(Φ:List Zp)(j:0<p.length)(hd:∀x∈p,∀y∈p,x.a=y.a→x.b=y.b→x=y)(k:p.length≤1000000):
  FR prog 177 [.slice (some ⟨b,0,none⟩) p.length c,.func (.func 178) #[] #[]] ((b,.cells (cellsOf Qp p++R).toArray 124 (0,0))::σ) Φ
   (fun v σ' Φ'=>v=.tuple #[]∧σ'=(b,.cells (cellsOf Qp (bM p)++R).toArray 124 (0,0))::σ∧Φ'=Φ):=by
 refine fn_introM func177 I ntmps177 nb ?_
 intro S w0 a w i h
 refine gC h<|au 0x44432513f431 ?_
 refine zp (.convert I<|IK _<|wrap_u64 _ oo oo)<|zv [_] I call106 (FO p.length oo)<|zm I ?_;clear h;intro a w h
 refine Zc<|Yq h i (vs:=[_,_,_,_,_]) I call279 (C_pdqE b c p R (Lib.bitLen p.length) (Nat.lt_of_le_of_lt (Lib.bitLen_le p.length 62 oo oo) oo) j hd C_edg1 k σ Φ) (List.Perm.refl _) ss ss ?_;clear h;rintro g e f a w ⟨rfl,rfl,d⟩ h
 refine wpList_nil ?_
 refine UP h (AK I) ⟨rfl,rfl,d⟩ (List.Sublist.refl _) (fun _ h=>h)
end
section
theorem GW(a b:Int): RN (Instr.build 275 [(0,.int .i64 a),(1,.int .i64 b)].toArray) (.agg #[.int .i64 a,.int .i64 b]):=fun w=>by simp[go_sem]
theorem Xw{c0 c1 c2 a v0 v1 v2 v3:Value}: Zl #[c0,c1,c2,a] 0 [v0,v1,v2,v3]=#[v0,v1,v2,v3]:=rfl
theorem L9{b off:Nat}: RN (Instr.fieldAt 275 (.pointer (some ⟨b,off,none⟩)) 0) (.pointer (some ⟨b,off+0,none⟩)):=fun w=>by
 simp[go_sem]
theorem L8{b off:Nat}: RN (Instr.fieldAt 275 (.pointer (some ⟨b,off,none⟩)) 1) (.pointer (some ⟨b,off+1,none⟩)):=fun w=>by
 simp[go_sem]
theorem BI(a d b c:Int): RN (Instr.build 124 [(0,.int .i64 a),(1,.int .i64 d),(2,.int .i64 b),(3,.int .i64 c)].toArray) (.agg #[.int .i64 a,.int .i64 d,.int .i64 b,.int .i64 c]):=fun w=>by simp[go_sem]
theorem Cy{b off:Nat}: RN (Instr.fieldAt 124 (.pointer (some ⟨b,off,none⟩)) 2) (.pointer (some ⟨b,off+2,none⟩)):=fun w=>by
 simp[go_sem]
theorem CY{c0 c1 c2 a:Value}: Zk false 1 #[c0,c1,c2,a] 2=some c2:=rfl
theorem HE{c0 c1 c2 a v0:Value}: Zl #[c0,c1,c2,a] 2 [v0]=#[c0,c1,v0,a]:=rfl
theorem Ak{b off:Nat}: RN (Instr.fieldAt 124 (.pointer (some ⟨b,off,none⟩)) 3) (.pointer (some ⟨b,off+3,none⟩)):=fun w=>by
 simp[go_sem]
theorem CX{c0 c1 c2 a:Value}: Zk false 1 #[c0,c1,c2,a] 3=some a:=rfl
theorem HD{c0 c1 c2 a v0:Value}: Zl #[c0,c1,c2,a] 3 [v0]=#[c0,c1,c2,v0]:=rfl
theorem Dz{c0 c1 c2 a:Value}: Zk true 4 #[c0,c1,c2,a] 0=some (.agg #[c0,c1,c2,a]):=rfl
theorem KZ(d c a b:Value)(w:World): (Instr.buildSlice 121 1 [(0,.agg #[d,c,a,b])].toArray).run prog w=.ok (.slice (some ⟨w.heap.size,0,none⟩) 1 1) (w.alloc (.cells #[d,c,a,b] 124 (0,0))):=by
 simp[go_sem]
theorem BH(x y:Nat)(w:World)(ty:TypeId)(cs:Array Bool): (Go.builtin .min #[3,3] ty cs #[.int .i64 ((x:Nat):Int),.int .i64 ((y:Nat):Int)]).run prog w=.ok (.value (.int .i64 ((min x y:Nat):Int))) w:=by
 simp[go_sem]
 omega
theorem CC(x y:Nat)(w:World)(ty:TypeId)(cs:Array Bool): (Go.builtin .max #[3,3] ty cs #[.int .i64 ((x:Nat):Int),.int .i64 ((y:Nat):Int)]).run prog w=.ok (.value (.int .i64 ((max x y:Nat):Int))) w:=by
 simp[go_sem]
 omega
theorem B1{m:List ((Nat×Nat)×Ed)}{k:Nat×Nat}(h:(!(Zu m k).isSome)=false): Jv m k=(Zu m k).getD ed0:=by
 unfold Jv;cases a:Zu m k with
 | none=>rw[a] at h;cases h
 | some e=>rfl
theorem B2{m:List ((Nat×Nat)×Ed)}{k:Nat×Nat}(h:(!(Zu m k).isSome)=true): Jv m k=⟨k.1,k.2, -1, -1⟩:=by
 unfold Jv;cases a:Zu m k with
 | none=>rfl
 | some e=>rw[a] at h;cases h
theorem Ru{l:List Nat}{n:Nat}(h:l.Nodup)(hl:∀j∈l,j<n): l.length≤n:=by
 have:=Vd (l:=l) (l':=List.range n) h (fun k hk=>List.mem_range.2 (hl k hk))
 simpa using this
theorem TE{l:List Nat}{n:Nat}(h:l.Nodup)(hl:∀j∈l,j<n)(ha:∀j,j<n→j∈l): l.Perm (List.range n) :=
 (List.perm_ext_iff_of_nodup h List.nodup_range).2 fun j=>⟨fun hj=>List.mem_range.2 (hl j hj),fun hj=>ha j (List.mem_range.1 hj)⟩
theorem Wt{m:List ((Nat×Nat)×Ed)}: (List.range m.length).map (fun j=>(m.getD j ((0,0),ed0)).2)=m.map (·.2):=by
 apply List.ext_getElem?
 intro j
 rw[List.getElem?_map,List.getElem?_map]
 by_cases h:j<m.length
 ·rw[List.getElem?_range h,List.getElem?_eq_getElem h];simp[List.getD,h]
 ·rw[List.getElem?_eq_none (by simp;omega),List.getElem?_eq_none oo];rfl
theorem cH{l k:List Ed}(h:l.Perm k)(hd:∀x∈k,∀y∈k,x.a=y.a→x.b=y.b→x=y): bM l=bM k:=by
 refine FU ((Vz l).trans<|h.trans (Vz k).symm) (Ce l) (Ce k) (fun x hx y c=>hd x (h.mem_iff.1 ((Vz l).mem_iff.1 hx)) y<|h.mem_iff.1 ((Vz l).mem_iff.1 c))
theorem ed_dif{n t:Nat}{m:List ((Nat×Nat)×Ed)}(h:EdInv n t m): ∀x∈m.map (·.2),∀y∈m.map (·.2),x.a=y.a→x.b=y.b→x=y:=by
 intro x hx y g h1 f
 obtain ⟨p,d,rfl⟩:=List.mem_map.1 hx
 obtain ⟨q,hq,rfl⟩:=List.mem_map.1 g
 have c:=h.2 p d;have a2:=h.2 q hq
 have e:p.1=q.1:=Prod.ext (by rw[←c.a, ←a2.a,h1]) (by rw[←c.b, ←a2.b,f])
 have g1:=Ix h.1 d;have g2:=Ix h.1 hq
 rw[e,g2] at g1
 exact(Option.some.inj g1).symm
theorem dO{α β:Type}[DecidableEq α](m:List (α×β))(x:α)(y:β): 0<(Kl m x y).length:=by
 cases m with
 | nil=>simp[Kl]
 | cons p r=>unfold Kl;split<;>simp
theorem ZA{l:List (Nat×Nat×Nat)}(h:0<l.length): 0<(Ja l l.length).length:=by
 obtain ⟨t,ht⟩:∃t,l.length=t+1:=⟨l.length-1,oo⟩
 rw[ht];exact dO _ _ _
theorem Mj{t a b:Nat}{e:Ed}(h:decide ((a:Int)<(b:Int))=true)(c:(e.l == -1)=true): Vu t a b e={ e with l:=(t:Int) }:=by
 unfold Vu;rw[if_pos ⟨by have:=of_decide_eq_true h;omega,by simpa using c⟩]
theorem Mi{t a b:Nat}{e:Ed}(h:decide ((a:Int)>(b:Int))=true)(c:(e.r == -1)=true): Vu t a b e={ e with r:=(t:Int) }:=by
 have:=of_decide_eq_true h
 unfold Vu;rw[if_neg (fun d=>by omega),if_pos ⟨oo,by simpa using c⟩]
theorem Fv{t a b:Nat}{e:Ed}(h:decide ((a:Int)<(b:Int))=true)(c:(e.l == -1)=false): Vu t a b e=e:=by
 have:=of_decide_eq_true h
 unfold Vu;rw[if_neg (fun d=>by rw[d.2] at c;cases c),if_neg (fun d=>by omega)]
theorem Ft{t a b:Nat}{e:Ed}(h:decide ((a:Int)<(b:Int))=false)(c:(e.r == -1)=false): Vu t a b e=e:=by
 have:=of_decide_eq_false h
 unfold Vu;rw[if_neg (fun d=>by omega),if_neg (fun d=>by rw[d.2] at c;cases c)]
theorem Fq{t a b:Nat}{e:Ed}(h:decide ((a:Int)<(b:Int))=false)(c:decide ((a:Int)>(b:Int))=false): Vu t a b e=e:=by
 have:=of_decide_eq_false h;have:=of_decide_eq_false c
 unfold Vu;rw[if_neg (fun d=>by omega),if_neg (fun d=>by omega)]
abbrev gqP(l:List (Nat×Nat×Nat))(k:Nat):=Ec k (tg l k).1 (tg l k).2.1 (Ja l k)
abbrev gqQ(l:List (Nat×Nat×Nat))(k:Nat):=Ec k (tg l k).2.1 (tg l k).2.2 (gqP l k)
theorem bc(n:Nat)(l:List (Nat×Nat×Nat))(ad:Option Addr)(c:Nat)(hn:∀t∈l,D9 n t=true)(h0:0<l.length)(hl:l.length≤100000): Ctr prog 98 [.slice ad l.length c] [Row ad (cellsOf Zd l)]
   (fun v Ψ => ∃b0,v=.slice b0 (Za l).length (Za l).length∧Ψ=[Row b0 (cellsOf Qp (Za l))]):=by
 refine fnI func98 I ntmps98 fun S w0 hS=>au 0x312531 ?_;intro a w h
 refine Zc<|D8 Zy Qp h dd ?_;clear h;intro d a w h
 refine gL h<|au 0x924e0f431125 ?_;clear h;intro a w h
 replace h:=h.same I (show _=[(d,mB Zy Qp (Ja l 0))] from I) I
 refine lpG h [3,16,17] pkL (fun Y Z (k:Nat) a w=>k≤l.length∧St 98 S w0 ((18,nI k)::Y) [(d,mB Zy Qp<|Ja l k)] Z a w) (fun k=>l.length-k) 0 (⟨Nat.zero_le _,by exact(h).sub sA⟩) ?_;clear h
 rintro k a w ⟨e3,h⟩
 refine gC h<|au 0x12c31 ?_;intro a w h
 refine Zb h I (fun L=>?_) (fun L=>?_)
 ·have c8:k<l.length:=dT L
  obtain ⟨f,g,rfl⟩:=h.row_addr (ad:=ad) (M:=cellsOf Zd l) mm (nE 3)
  refine gC h<|au 0x42f431917 ?_
  refine zD I mm (cells_lt (k:=3) dd (fun _=>rfl) l k oo) isAgg127 sizeOf127 (Zg (k:=3) (fun _=>rfl) ((fun _=>rfl)) l (0,0,0) k oo) (.inl I) ?_
  refine zz A3 fun p=>za I<|stW I I Qg ?_
  refine au 0x924312 ?_
  refine lpR 4<|rdS<|au 0x1254319171e129e31 ?_
  refine yE [0,1,2,3,4,5,6,7,8,9]<|au 0xdea3f8 ?_;clear h
  refine au 0xb1f93f86fd9f8 ?_
  refine au 0x4431a3e3e ?_
  refine zp (.builtin [_,_] I (fun w ty cs=>BH _ _ w ty cs))<|zm I<|zm I<|zp (.builtin [_,_] I (fun w ty cs=>CC _ _ w ty cs))<|zp (.build [(_,_),(_,_)] I<|GW _ _) (zz zeroValue275 fun B=>stW I I Zt ?_)
  refine au 0x5e4312 ?_;intro a w h
  refine Zc<|WL h mk_ed (u:=(gqA l k)) (m:=Ja l k) I I mm dd ?_;clear h;intro a h
  refine gL h<|au 0xbb4 ?_
  refine zz Bj fun o=>stW I I Xw ?_
  refine au 0x25 ?_;clear h;intro a w h
  refine Yl (fun a w=>St 98 S w0 [(3,.map<|some d),(4,nI k),(5,pB p),(6,.int .i64 0),(7,nI ((tg l k).1)),(8,nI ((tg l k).2.1)),(9,pB B),(10,pB o),(11,.bool ((Zu (Ja l k) ((gqA l k))).isSome)),(16,.slice (some ⟨f,g,none⟩) l.length c),(17,nI l.length),(18,nI k),(19,.bool<|decide (((k:Nat):Int)<((l.length:Nat):Int))),(20,nI k),(22,Zd<|tg l k),(23,.int .i64 0),(24,.bool true),(25,.int .i64 0),(26,.int .i64 0),(27,pB p),(28,nI ((tg l k).1)),(29,.int .i64 0),(30,.int .i64 1),(31,.int .i64 1),(32,.pointer<|some ⟨p,1,none⟩),(33,nI ((tg l k).2.1)),(34,nI ((tg l k).1)),(35,nI ((tg l k).2.1)),(36,nI<|min (tg l k).1 (tg l k).2.1),(37,nI ((tg l k).1)),(38,nI ((tg l k).2.1)),(39,nI<|max (tg l k).1 (tg l k).2.1),(40,Zy ((gqA l k))),(41,.tuple #[Qp ((Zu (Ja l k) ((gqA l k))).getD ed0),.bool ((Zu (Ja l k) ((gqA l k))).isSome)]),(42,.map<|some d),(43,Zy ((gqA l k))),(44,.tuple #[Qp ((Zu (Ja l k) ((gqA l k))).getD ed0),.bool ((Zu (Ja l k) ((gqA l k))).isSome)]),(45,Qp ((Zu (Ja l k) ((gqA l k))).getD ed0)),(46,.bool ((Zu (Ja l k) ((gqA l k))).isSome))] [(o,bV (Qp<|Jv (Ja l k)<|Zo (tg l k).1 (tg l k).2.1) 124),(B,bV (Zy ((gqA l k))) 275),(p,bV (Zd<|tg l k) 127),(d,mB Zy Qp<|Ja l k)] [Row (some ⟨f,g,none⟩) (cellsOf Zd l)] a w) ?_ ?_
  ·refine gC h<|au 0x220f431 ?_;clear h;intro a w h
   refine Zb h I (fun D=>?_) (fun D=>?_)
   ·refine gC h<|zr<|zp (.fA I L9)<|au 0xc0f ?_
    refine zp (.fA I L8)<|au 0x61f ?_
    refine zp (.build [(_,_),(_,_),(_,_),(_,_)] I<|BI _ _ _ _)<|stW I I Xw ?_;clear h;intro a w h
    refine wpList_nil ?_
    have b:Jv (Ja l k) (Zo (tg l k).1 (tg l k).2.1)=⟨((gqA l k)).1,((gqA l k)).2,(-1),(-1)⟩:=by first|exact B2 (by assumption)|exact B1 (by assumption)
    exact(h.same I (by first|(rw[b];done)|(rw[b];rfl)) I).sub sA
   ·refine wp_skip ?_
    have b:Jv (Ja l k) (Zo (tg l k).1 (tg l k).2.1)=(Zu (Ja l k) ((gqA l k))).getD ed0:=by first|exact B2 (by assumption)|exact B1 (by assumption)
    exact(h.same I (by first|(rw[b];done)|(rw[b];rfl)) I).sub sA
  ·clear h
   intro a w h
   refine Yl (fun a w=>St 98 S w0 [(3,.map<|some d),(4,nI k),(5,pB p),(6,.int .i64 0),(7,nI ((tg l k).1)),(8,nI ((tg l k).2.1)),(9,pB B),(10,pB o),(11,.bool ((Zu (Ja l k) ((gqA l k))).isSome)),(16,.slice (some ⟨f,g,none⟩) l.length c),(17,nI l.length),(18,nI k),(19,.bool<|decide (((k:Nat):Int)<((l.length:Nat):Int))),(20,nI k),(22,Zd<|tg l k),(23,.int .i64 0),(24,.bool true),(25,.int .i64 0),(26,.int .i64 0),(27,pB p),(28,nI ((tg l k).1)),(29,.int .i64 0),(30,.int .i64 1),(31,.int .i64 1),(32,.pointer<|some ⟨p,1,none⟩),(33,nI ((tg l k).2.1)),(34,nI ((tg l k).1)),(35,nI ((tg l k).2.1)),(36,nI<|min (tg l k).1 (tg l k).2.1),(37,nI ((tg l k).1)),(38,nI ((tg l k).2.1)),(39,nI<|max (tg l k).1 (tg l k).2.1),(40,Zy ((gqA l k))),(41,.tuple #[Qp ((Zu (Ja l k) ((gqA l k))).getD ed0),.bool ((Zu (Ja l k) ((gqA l k))).isSome)]),(42,.map<|some d),(43,Zy ((gqA l k))),(44,.tuple #[Qp ((Zu (Ja l k) ((gqA l k))).getD ed0),.bool ((Zu (Ja l k) ((gqA l k))).isSome)]),(45,Qp ((Zu (Ja l k) ((gqA l k))).getD ed0)),(46,.bool ((Zu (Ja l k) ((gqA l k))).isSome))] [(o,bV (Qp<|Vu k (tg l k).1 (tg l k).2.1<|Jv (Ja l k)<|Zo (tg l k).1 (tg l k).2.1) 124),(B,bV (Zy ((gqA l k))) 275),(p,bV (Zd<|tg l k) 127),(d,mB Zy Qp<|Ja l k)] [Row (some ⟨f,g,none⟩) (cellsOf Zd l)] a w) ?_ ?_
   ·refine gC h<|au 0xc44319 ?_;clear h;intro a w h
    refine Zh h (fun E h=>?_) (fun E h=>?_)
    focus
     refine gL h<|zm I<|zq 58 I I (.fA I Cy)<|ldQ 58 CY ?_
     refine zq 58 I I (.eql I I) ?_;clear h;intro a w h
     refine Zh h (fun G h=>?_) (fun G h=>?_)
     ·refine gL h<|au 0xecf431e252e ?_
      refine stW I I HE ?_;clear h;intro a w h
      refine wpList_nil ?_
      have b:Vu k (tg l k).1 (tg l k).2.1 (Jv (Ja l k) (Zo (tg l k).1 (tg l k).2.1))={ (Jv (Ja l k) (Zo (tg l k).1 (tg l k).2.1)) with l:=((k:Nat):Int) }:=by first|exact Mj (by assumption) (by assumption)|exact Mi (by assumption) (by assumption)|exact Fv (by assumption) (by assumption)|exact Ft (by assumption) (by assumption)|exact Fq (by assumption) (by assumption)
      exact(h.same I (by first|(rw[b];done)|(rw[b];rfl)) I).sub sA
     refine gL h<|au 0x252e ?_;clear h;intro a w h
    rotate_left
    focus
     refine gL h<|au 0x254ec5fc5fc5f4 ?_;clear h;intro a w h
    all_goals
     refine cW ?_
     refine Zj h I ?_
     refine gC h<|au 0x70f4431 ?_;clear h;intro a w h
     refine Zh h (fun F h=>?_) (fun F h=>?_)
     focus
      refine gL h<|zm I<|zq 69 I I (.fA I Ak)<|ldQ 69 CX ?_
      refine zq 69 I I (.eql I I) ?_;clear h;intro a w h
      refine Zh h (fun C h=>?_) (fun C h=>?_)
      ·refine gL h<|au 0x431e252e ?_
       refine zp (.fA I Ak)<|stW I I HD ?_;clear h;intro a w h
       refine wpList_nil ?_
       have b:Vu k (tg l k).1 (tg l k).2.1 (Jv (Ja l k) (Zo (tg l k).1 (tg l k).2.1))={ (Jv (Ja l k) (Zo (tg l k).1 (tg l k).2.1)) with r:=((k:Nat):Int) }:=by first|exact Mj (by assumption) (by assumption)|exact Mi (by assumption) (by assumption)|exact Fv (by assumption) (by assumption)|exact Ft (by assumption) (by assumption)|exact Fq (by assumption) (by assumption)
       exact(h.same I (by first|(rw[b];done)|(rw[b];rfl)) I).sub sA
      refine gL h<|au 0x252e ?_;clear h;intro a w h
     rotate_left
     focus
      refine gL h<|au 0x254eb5fb5fb5f4 ?_;clear h;intro a w h
     all_goals
      refine cW ?_
      refine Zj h I ?_
      refine wp_skip ?_
      have b:Vu k (tg l k).1 (tg l k).2.1 (Jv (Ja l k) (Zo (tg l k).1 (tg l k).2.1))=Jv (Ja l k) (Zo (tg l k).1 (tg l k).2.1):=by first|exact Mj (by assumption) (by assumption)|exact Mi (by assumption) (by assumption)|exact Fv (by assumption) (by assumption)|exact Ft (by assumption) (by assumption)|exact Fq (by assumption) (by assumption)
      exact(h.same I (by first|(rw[b];done)|(rw[b];rfl)) I).sub sA
   ·clear h
    intro a w h
    refine gC h<|au 0x5e43 ?_
    refine ldZ Dz ?_;clear h;intro a w h
    refine Zc<|Hf h mk_ed (u:=(gqA l k)) (q:=Vu k (tg l k).1 (tg l k).2.1<|Jv (Ja l k)<|Zo (tg l k).1 (tg l k).2.1) (m:=Ja l k) I I I uu ?_;clear h;intro a w h
    replace h:=h.same I (show _=[(o,bV (Qp (Vu k (tg l k).1 (tg l k).2.1 (Jv (Ja l k) (Zo (tg l k).1 (tg l k).2.1)))) 124),(B,bV (Zy ((gqA l k))) 275),(p,bV (Zd (tg l k)) 127),(d,mB Zy Qp (gqP l k))] from I) I
    refine gL h<|au 0x24e2f32 ?_;clear h;intro a w h
    replace h:St 98 S w0 [(3,.map (some d)),(4,nI k),(5,pB p),(16,.slice (some ⟨f,g,none⟩) l.length c),(17,nI l.length),(18,nI k),(23,.int .i64 1),(24,.bool true)] [(p,bV (Zd (tg l k)) 127),(d,mB Zy Qp (gqP l k))] [Row (some ⟨f,g,none⟩) (cellsOf Zd l)] a w:=by exact tO h
    refine Zm ?_
    refine gC h<|au 0x1254319171e129e31 ?_
    refine yE [0,1,2,3,4,5,6,7,8,9]<|au 0xb1f93f8 ?_;clear h
    refine au 0xf0f83f76f17f8 ?_
    refine au 0x4431a3e3e ?_
    refine zp (.builtin [_,_] I (fun w ty cs=>BH _ _ w ty cs))<|zm I<|zm I<|zp (.builtin [_,_] I (fun w ty cs=>CC _ _ w ty cs))<|zp (.build [(_,_),(_,_)] I<|GW _ _) (zz zeroValue275 fun B=>stW I I Zt ?_)
    refine au 0x5e4312 ?_;intro a w h
    refine Zc<|WL h mk_ed (u:=(gqB l k)) (m:=gqP l k) I I mm dd ?_;clear h;intro a h
    refine gL h<|au 0xbb4 ?_
    refine zz Bj fun o=>stW I I Xw ?_
    refine au 0x25 ?_;clear h;intro a w h
    refine Yl (fun a w=>St 98 S w0 [(3,.map<|some d),(4,nI k),(5,pB p),(6,.int .i64 1),(7,nI ((tg l k).2.1)),(8,nI ((tg l k).2.2)),(9,pB B),(10,pB o),(11,.bool ((Zu (gqP l k) ((gqB l k))).isSome)),(16,.slice (some ⟨f,g,none⟩) l.length c),(17,nI l.length),(18,nI k),(23,.int .i64 1),(24,.bool true),(25,.int .i64 1),(26,.int .i64 1),(27,.pointer<|some ⟨p,1,none⟩),(28,nI ((tg l k).2.1)),(29,.int .i64 1),(30,.int .i64 2),(31,.int .i64 2),(32,.pointer<|some ⟨p,2,none⟩),(33,nI ((tg l k).2.2)),(34,nI ((tg l k).2.1)),(35,nI ((tg l k).2.2)),(36,nI<|min (tg l k).2.1 (tg l k).2.2),(37,nI ((tg l k).2.1)),(38,nI ((tg l k).2.2)),(39,nI<|max (tg l k).2.1 (tg l k).2.2),(40,Zy ((gqB l k))),(41,.tuple #[Qp ((Zu (gqP l k) ((gqB l k))).getD ed0),.bool ((Zu (gqP l k) ((gqB l k))).isSome)]),(42,.map<|some d),(43,Zy ((gqB l k))),(44,.tuple #[Qp ((Zu (gqP l k) ((gqB l k))).getD ed0),.bool ((Zu (gqP l k) ((gqB l k))).isSome)]),(45,Qp ((Zu (gqP l k) ((gqB l k))).getD ed0)),(46,.bool ((Zu (gqP l k) ((gqB l k))).isSome))] [(o,bV (Qp<|Jv (gqP l k)<|Zo (tg l k).2.1 (tg l k).2.2) 124),(B,bV (Zy ((gqB l k))) 275),(p,bV (Zd<|tg l k) 127),(d,mB Zy Qp<|gqP l k)] [Row (some ⟨f,g,none⟩) (cellsOf Zd l)] a w) ?_ ?_
    ·refine gC h<|au 0x220f431 ?_;clear h;intro a w h
     refine Zb h I (fun D=>?_) (fun D=>?_)
     ·refine gC h<|zr<|zp (.fA I L9)<|au 0xc0f ?_
      refine zp (.fA I L8)<|au 0x61f ?_
      refine zp (.build [(_,_),(_,_),(_,_),(_,_)] I<|BI _ _ _ _)<|stW I I Xw ?_;clear h;intro a w h
      refine wpList_nil ?_
      have b:Jv (gqP l k) (Zo (tg l k).2.1 (tg l k).2.2)=⟨((gqB l k)).1,((gqB l k)).2,(-1),(-1)⟩:=by first|exact B2 (by assumption)|exact B1 (by assumption)
      exact(h.same I (by first|(rw[b];done)|(rw[b];rfl)) I).sub sA
     ·refine wp_skip ?_
      have b:Jv (gqP l k) (Zo (tg l k).2.1 (tg l k).2.2)=(Zu (gqP l k) ((gqB l k))).getD ed0:=by first|exact B2 (by assumption)|exact B1 (by assumption)
      exact(h.same I (by first|(rw[b];done)|(rw[b];rfl)) I).sub sA
    ·clear h
     intro a w h
     refine Yl (fun a w=>St 98 S w0 [(3,.map<|some d),(4,nI k),(5,pB p),(6,.int .i64 1),(7,nI ((tg l k).2.1)),(8,nI ((tg l k).2.2)),(9,pB B),(10,pB o),(11,.bool ((Zu (gqP l k) ((gqB l k))).isSome)),(16,.slice (some ⟨f,g,none⟩) l.length c),(17,nI l.length),(18,nI k),(23,.int .i64 1),(24,.bool true),(25,.int .i64 1),(26,.int .i64 1),(27,.pointer<|some ⟨p,1,none⟩),(28,nI ((tg l k).2.1)),(29,.int .i64 1),(30,.int .i64 2),(31,.int .i64 2),(32,.pointer<|some ⟨p,2,none⟩),(33,nI ((tg l k).2.2)),(34,nI ((tg l k).2.1)),(35,nI ((tg l k).2.2)),(36,nI<|min (tg l k).2.1 (tg l k).2.2),(37,nI ((tg l k).2.1)),(38,nI ((tg l k).2.2)),(39,nI<|max (tg l k).2.1 (tg l k).2.2),(40,Zy ((gqB l k))),(41,.tuple #[Qp ((Zu (gqP l k) ((gqB l k))).getD ed0),.bool ((Zu (gqP l k) ((gqB l k))).isSome)]),(42,.map<|some d),(43,Zy ((gqB l k))),(44,.tuple #[Qp ((Zu (gqP l k) ((gqB l k))).getD ed0),.bool ((Zu (gqP l k) ((gqB l k))).isSome)]),(45,Qp ((Zu (gqP l k) ((gqB l k))).getD ed0)),(46,.bool ((Zu (gqP l k) ((gqB l k))).isSome))] [(o,bV (Qp<|Vu k (tg l k).2.1 (tg l k).2.2<|Jv (gqP l k)<|Zo (tg l k).2.1 (tg l k).2.2) 124),(B,bV (Zy ((gqB l k))) 275),(p,bV (Zd<|tg l k) 127),(d,mB Zy Qp<|gqP l k)] [Row (some ⟨f,g,none⟩) (cellsOf Zd l)] a w) ?_ ?_
     ·refine gC h<|au 0xc44319 ?_;clear h;intro a w h
      refine Zh h (fun E h=>?_) (fun E h=>?_)
      focus
       refine gL h<|zm I<|zq 58 I I (.fA I Cy)<|ldQ 58 CY ?_
       refine zq 58 I I (.eql I I) ?_;clear h;intro a w h
       refine Zh h (fun G h=>?_) (fun G h=>?_)
       ·refine gL h<|au 0xecf431e252e ?_
        refine stW I I HE ?_;clear h;intro a w h
        refine wpList_nil ?_
        have b:Vu k (tg l k).2.1 (tg l k).2.2 (Jv (gqP l k) (Zo (tg l k).2.1 (tg l k).2.2))={ (Jv (gqP l k) (Zo (tg l k).2.1 (tg l k).2.2)) with l:=((k:Nat):Int) }:=by first|exact Mj (by assumption) (by assumption)|exact Mi (by assumption) (by assumption)|exact Fv (by assumption) (by assumption)|exact Ft (by assumption) (by assumption)|exact Fq (by assumption) (by assumption)
        exact(h.same I (by first|(rw[b];done)|(rw[b];rfl)) I).sub sA
       refine gL h<|au 0x252e ?_;clear h;intro a w h
      rotate_left
      focus
       refine gL h<|au 0x254ec5fc5fc5f4 ?_;clear h;intro a w h
      all_goals
       refine cW ?_
       refine Zj h I ?_
       refine gC h<|au 0x70f4431 ?_;clear h;intro a w h
       refine Zh h (fun F h=>?_) (fun F h=>?_)
       focus
        refine gL h<|zm I<|zq 69 I I (.fA I Ak)<|ldQ 69 CX ?_
        refine zq 69 I I (.eql I I) ?_;clear h;intro a w h
        refine Zh h (fun C h=>?_) (fun C h=>?_)
        ·refine gL h<|au 0x431e252e ?_
         refine zp (.fA I Ak)<|stW I I HD ?_;clear h;intro a w h
         refine wpList_nil ?_
         have b:Vu k (tg l k).2.1 (tg l k).2.2 (Jv (gqP l k) (Zo (tg l k).2.1 (tg l k).2.2))={ (Jv (gqP l k) (Zo (tg l k).2.1 (tg l k).2.2)) with r:=((k:Nat):Int) }:=by first|exact Mj (by assumption) (by assumption)|exact Mi (by assumption) (by assumption)|exact Fv (by assumption) (by assumption)|exact Ft (by assumption) (by assumption)|exact Fq (by assumption) (by assumption)
         exact(h.same I (by first|(rw[b];done)|(rw[b];rfl)) I).sub sA
        refine gL h<|au 0x252e ?_;clear h;intro a w h
       rotate_left
       focus
        refine gL h<|au 0x254eb5fb5fb5f4 ?_;clear h;intro a w h
       all_goals
        refine cW ?_
        refine Zj h I ?_
        refine wp_skip ?_
        have b:Vu k (tg l k).2.1 (tg l k).2.2 (Jv (gqP l k) (Zo (tg l k).2.1 (tg l k).2.2))=Jv (gqP l k) (Zo (tg l k).2.1 (tg l k).2.2):=by first|exact Mj (by assumption) (by assumption)|exact Mi (by assumption) (by assumption)|exact Fv (by assumption) (by assumption)|exact Ft (by assumption) (by assumption)|exact Fq (by assumption) (by assumption)
        exact(h.same I (by first|(rw[b];done)|(rw[b];rfl)) I).sub sA
     ·clear h
      intro a w h
      refine gC h<|au 0x5e43 ?_
      refine ldZ Dz ?_;clear h;intro a w h
      refine Zc<|Hf h mk_ed (u:=(gqB l k)) (q:=Vu k (tg l k).2.1 (tg l k).2.2<|Jv (gqP l k)<|Zo (tg l k).2.1 (tg l k).2.2) (m:=gqP l k) I I I uu ?_;clear h;intro a w h
      replace h:=h.same I (show _=[(o,bV (Qp (Vu k (tg l k).2.1 (tg l k).2.2 (Jv (gqP l k) (Zo (tg l k).2.1 (tg l k).2.2)))) 124),(B,bV (Zy ((gqB l k))) 275),(p,bV (Zd (tg l k)) 127),(d,mB Zy Qp (gqQ l k))] from I) I
      refine gL h<|au 0x2471f32 ?_;clear h;intro a w h
      replace h:St 98 S w0 [(3,.map (some d)),(4,nI k),(5,pB p),(16,.slice (some ⟨f,g,none⟩) l.length c),(17,nI l.length),(18,nI k),(23,.int .i64 2),(24,.bool true)] [(p,bV (Zd (tg l k)) 127),(d,mB Zy Qp (gqQ l k))] [Row (some ⟨f,g,none⟩) (cellsOf Zd l)] a w:=by exact tO h
      refine Zm ?_
      refine gC h<|au 0x1254319171e129e31 ?_
      refine yE [0,1,2,3,4,5,6,7,8,9]<|au 0xf0f83f8 ?_;clear h
      refine au 0xdea3f96f07f8 ?_
      refine au 0x4431a3e3e ?_
      refine zp (.builtin [_,_] I (fun w ty cs=>BH _ _ w ty cs))<|zm I<|zm I<|zp (.builtin [_,_] I (fun w ty cs=>CC _ _ w ty cs))<|zp (.build [(_,_),(_,_)] I<|GW _ _) (zz zeroValue275 fun B=>stW I I Zt ?_)
      refine au 0x5e4312 ?_;intro a w h
      refine Zc<|WL h mk_ed (u:=(gqC l k)) (m:=gqQ l k) I I mm dd ?_;clear h;intro a h
      refine gL h<|au 0xbb4 ?_
      refine zz Bj fun o=>stW I I Xw ?_
      refine au 0x25 ?_;clear h;intro a w h
      refine Yl (fun a w=>St 98 S w0 [(3,.map<|some d),(4,nI k),(5,pB p),(6,.int .i64 2),(7,nI ((tg l k).2.2)),(8,nI ((tg l k).1)),(9,pB B),(10,pB o),(11,.bool ((Zu (gqQ l k) ((gqC l k))).isSome)),(16,.slice (some ⟨f,g,none⟩) l.length c),(17,nI l.length),(18,nI k),(23,.int .i64 2),(24,.bool true),(25,.int .i64 2),(26,.int .i64 2),(27,.pointer<|some ⟨p,2,none⟩),(28,nI ((tg l k).2.2)),(29,.int .i64 2),(30,.int .i64 3),(31,.int .i64 0),(32,pB p),(33,nI ((tg l k).1)),(34,nI ((tg l k).2.2)),(35,nI ((tg l k).1)),(36,nI<|min (tg l k).2.2 (tg l k).1),(37,nI ((tg l k).2.2)),(38,nI ((tg l k).1)),(39,nI<|max (tg l k).2.2 (tg l k).1),(40,Zy ((gqC l k))),(41,.tuple #[Qp ((Zu (gqQ l k) ((gqC l k))).getD ed0),.bool ((Zu (gqQ l k) ((gqC l k))).isSome)]),(42,.map<|some d),(43,Zy ((gqC l k))),(44,.tuple #[Qp ((Zu (gqQ l k) ((gqC l k))).getD ed0),.bool ((Zu (gqQ l k) ((gqC l k))).isSome)]),(45,Qp ((Zu (gqQ l k) ((gqC l k))).getD ed0)),(46,.bool ((Zu (gqQ l k) ((gqC l k))).isSome))] [(o,bV (Qp<|Jv (gqQ l k)<|Zo (tg l k).2.2 (tg l k).1) 124),(B,bV (Zy ((gqC l k))) 275),(p,bV (Zd<|tg l k) 127),(d,mB Zy Qp<|gqQ l k)] [Row (some ⟨f,g,none⟩) (cellsOf Zd l)] a w) ?_ ?_
      ·refine gC h<|au 0x220f431 ?_;clear h;intro a w h
       refine Zb h I (fun D=>?_) (fun D=>?_)
       ·refine gC h<|zr<|zp (.fA I L9)<|au 0xc0f ?_
        refine zp (.fA I L8)<|au 0x61f ?_
        refine zp (.build [(_,_),(_,_),(_,_),(_,_)] I<|BI _ _ _ _)<|stW I I Xw ?_;clear h;intro a w h
        refine wpList_nil ?_
        have b:Jv (gqQ l k) (Zo (tg l k).2.2 (tg l k).1)=⟨((gqC l k)).1,((gqC l k)).2,(-1),(-1)⟩:=by first|exact B2 (by assumption)|exact B1 (by assumption)
        exact(h.same I (by first|(rw[b];done)|(rw[b];rfl)) I).sub sA
       ·refine wp_skip ?_
        have b:Jv (gqQ l k) (Zo (tg l k).2.2 (tg l k).1)=(Zu (gqQ l k) ((gqC l k))).getD ed0:=by first|exact B2 (by assumption)|exact B1 (by assumption)
        exact(h.same I (by first|(rw[b];done)|(rw[b];rfl)) I).sub sA
      ·clear h
       intro a w h
       refine Yl (fun a w=>St 98 S w0 [(3,.map<|some d),(4,nI k),(5,pB p),(6,.int .i64 2),(7,nI ((tg l k).2.2)),(8,nI ((tg l k).1)),(9,pB B),(10,pB o),(11,.bool ((Zu (gqQ l k) ((gqC l k))).isSome)),(16,.slice (some ⟨f,g,none⟩) l.length c),(17,nI l.length),(18,nI k),(23,.int .i64 2),(24,.bool true),(25,.int .i64 2),(26,.int .i64 2),(27,.pointer<|some ⟨p,2,none⟩),(28,nI ((tg l k).2.2)),(29,.int .i64 2),(30,.int .i64 3),(31,.int .i64 0),(32,pB p),(33,nI ((tg l k).1)),(34,nI ((tg l k).2.2)),(35,nI ((tg l k).1)),(36,nI<|min (tg l k).2.2 (tg l k).1),(37,nI ((tg l k).2.2)),(38,nI ((tg l k).1)),(39,nI<|max (tg l k).2.2 (tg l k).1),(40,Zy ((gqC l k))),(41,.tuple #[Qp ((Zu (gqQ l k) ((gqC l k))).getD ed0),.bool ((Zu (gqQ l k) ((gqC l k))).isSome)]),(42,.map<|some d),(43,Zy ((gqC l k))),(44,.tuple #[Qp ((Zu (gqQ l k) ((gqC l k))).getD ed0),.bool ((Zu (gqQ l k) ((gqC l k))).isSome)]),(45,Qp ((Zu (gqQ l k) ((gqC l k))).getD ed0)),(46,.bool ((Zu (gqQ l k) ((gqC l k))).isSome))] [(o,bV (Qp<|Vu k (tg l k).2.2 (tg l k).1<|Jv (gqQ l k)<|Zo (tg l k).2.2 (tg l k).1) 124),(B,bV (Zy ((gqC l k))) 275),(p,bV (Zd<|tg l k) 127),(d,mB Zy Qp<|gqQ l k)] [Row (some ⟨f,g,none⟩) (cellsOf Zd l)] a w) ?_ ?_
       ·refine gC h<|au 0xc44319 ?_;clear h;intro a w h
        refine Zh h (fun E h=>?_) (fun E h=>?_)
        focus
         refine gL h<|zm I<|zq 58 I I (.fA I Cy)<|ldQ 58 CY ?_
         refine zq 58 I I (.eql I I) ?_;clear h;intro a w h
         refine Zh h (fun G h=>?_) (fun G h=>?_)
         ·refine gL h<|au 0xecf431e252e ?_
          refine stW I I HE ?_;clear h;intro a w h
          refine wpList_nil ?_
          have b:Vu k (tg l k).2.2 (tg l k).1 (Jv (gqQ l k) (Zo (tg l k).2.2 (tg l k).1))={ (Jv (gqQ l k) (Zo (tg l k).2.2 (tg l k).1)) with l:=((k:Nat):Int) }:=by first|exact Mj (by assumption) (by assumption)|exact Mi (by assumption) (by assumption)|exact Fv (by assumption) (by assumption)|exact Ft (by assumption) (by assumption)|exact Fq (by assumption) (by assumption)
          exact(h.same I (by first|(rw[b];done)|(rw[b];rfl)) I).sub sA
         refine gL h<|au 0x252e ?_;clear h;intro a w h
        rotate_left
        focus
         refine gL h<|au 0x254ec5fc5fc5f4 ?_;clear h;intro a w h
        all_goals
         refine cW ?_
         refine Zj h I ?_
         refine gC h<|au 0x70f4431 ?_;clear h;intro a w h
         refine Zh h (fun F h=>?_) (fun F h=>?_)
         focus
          refine gL h<|zm I<|zq 69 I I (.fA I Ak)<|ldQ 69 CX ?_
          refine zq 69 I I (.eql I I) ?_;clear h;intro a w h
          refine Zh h (fun C h=>?_) (fun C h=>?_)
          ·refine gL h<|au 0x431e252e ?_
           refine zp (.fA I Ak)<|stW I I HD ?_;clear h;intro a w h
           refine wpList_nil ?_
           have b:Vu k (tg l k).2.2 (tg l k).1 (Jv (gqQ l k) (Zo (tg l k).2.2 (tg l k).1))={ (Jv (gqQ l k) (Zo (tg l k).2.2 (tg l k).1)) with r:=((k:Nat):Int) }:=by first|exact Mj (by assumption) (by assumption)|exact Mi (by assumption) (by assumption)|exact Fv (by assumption) (by assumption)|exact Ft (by assumption) (by assumption)|exact Fq (by assumption) (by assumption)
           exact(h.same I (by first|(rw[b];done)|(rw[b];rfl)) I).sub sA
          refine gL h<|au 0x252e ?_;clear h;intro a w h
         rotate_left
         focus
          refine gL h<|au 0x254eb5fb5fb5f4 ?_;clear h;intro a w h
         all_goals
          refine cW ?_
          refine Zj h I ?_
          refine wp_skip ?_
          have b:Vu k (tg l k).2.2 (tg l k).1 (Jv (gqQ l k) (Zo (tg l k).2.2 (tg l k).1))=Jv (gqQ l k) (Zo (tg l k).2.2 (tg l k).1):=by first|exact Mj (by assumption) (by assumption)|exact Mi (by assumption) (by assumption)|exact Fv (by assumption) (by assumption)|exact Ft (by assumption) (by assumption)|exact Fq (by assumption) (by assumption)
          exact(h.same I (by first|(rw[b];done)|(rw[b];rfl)) I).sub sA
       ·clear h
        intro a w h
        refine gC h<|au 0x5e43 ?_
        refine ldZ Dz ?_;clear h;intro a w h
        refine Zc<|Hf h mk_ed (u:=(gqC l k)) (q:=Vu k (tg l k).2.2 (tg l k).1<|Jv (gqQ l k)<|Zo (tg l k).2.2 (tg l k).1) (m:=gqQ l k) I I I uu ?_;clear h;intro a w h
        replace h:=h.same I (show _=[(o,bV (Qp (Vu k (tg l k).2.2 (tg l k).1 (Jv (gqQ l k) (Zo (tg l k).2.2 (tg l k).1)))) 124),(B,bV (Zy ((gqC l k))) 275),(p,bV (Zd (tg l k)) 127),(d,mB Zy Qp (Ec k (tg l k).2.2 (tg l k).1 (gqQ l k)))] from I) I
        refine gL h<|au 0x24e1f32 ?_;clear h;intro a w h
        replace h:St 98 S w0 [(3,.map (some d)),(4,nI k),(5,pB p),(16,.slice (some ⟨f,g,none⟩) l.length c),(17,nI l.length),(18,nI k),(23,.int .i64 3),(24,.bool true)] [(p,bV (Zd (tg l k)) 127),(d,mB Zy Qp (Ec k (tg l k).2.2 (tg l k).1 (gqQ l k)))] [Row (some ⟨f,g,none⟩) (cellsOf Zd l)] a w:=by exact tO h
        refine Zm ?_
        refine gC h<|au 0x30ed1241f31 ?_
        refine zp (.pN (k+1)<|.add I I)<|au 0x24 ?_;clear h;intro a w h
        rw[show Ec k (tg l k).2.2 (tg l k).1 (gqQ l k)=Ja l (k+1) from rfl] at h
        exact⟨k+1,⟨oo,tO h⟩,oo⟩
 ·have a7:l.length=k:=dF L
  subst a7
  refine gC h<|au 0x4310e ?_;clear h;intro a w h
  refine Zc<|kJ h mk_ed.hT I mm dd ?_;clear h;intro a h
  refine Zc<|dV h I I runUnderlying121 typeInfo124 sizeOf124 Bj I dd (by show 32*_≤281474976710656;have:=B5 l l.length;omega) (by have:=B5 l l.length;omega) dd ?_;clear h;intro e8 c5 a w R h
  obtain ⟨b8,c4,rfl⟩:=R.is
  refine gL h<|au 0x431125 ?_;clear h;intro a w h
  refine Zc<|WH (ek:=Zy) (ev:=Qp) (m:=Ja l l.length) h mk_ed.hT I mm dd ?_;clear h;intro a1 a w h
  refine wpList_nil<|wp_block ?_
  refine lpG h [3,16,17,18,84,85] pkL (fun Y Z (i:Nat) a w => ∃(A:List Nat) (V:Option Addr) (c1:Nat) (o1:List (Nat×Obj)),(i=A.length∧A.Nodup∧(∀j∈A,j<(Ja l l.length).length)∧GrowO 4 124 (.slice V (A.map fun j=>((Ja l l.length).getD j ((0,0),ed0)).2).length c1) (A.map fun j=>((Ja l l.length).getD j ((0,0),ed0)).2).length (cellsOf Qp (A.map fun j=>((Ja l l.length).getD j ((0,0),ed0)).2)) o1)∧St 98 S w0 ((12,(.slice V (A.map fun j=>((Ja l l.length).getD j ((0,0),ed0)).2).length c1))::Y) (o1++((a1,Obj.mapIter (some d) (Ja l l.length).length A.toArray (Ja l l.length).length)::((d,mB Zy Qp<|Ja l l.length)::[]))) Z a w) (fun i=>(Ja l l.length).length-i) (0) (⟨[],b8,c4,c5,⟨rfl,List.nodup_nil,(fun _ h=>nomatch h),R⟩,by exact tO h⟩) ?_;clear h
  rintro i a w ⟨A,V,c1,o1,⟨b7,U,a6,b2⟩,h⟩
  refine wp_seq<|wp_region_lit ?_
  refine Zc<|dU (ek:=Zy) (ev:=Qp) h (m:=Ja l l.length) I mm (fun o'=>by repeat(first|exact Upd.head|apply Upd.tail|apply Upd.append)) dd (fun K a w h=>?_) (fun z s N a w h=>?_)
  ·refine gL h<|au 0x4310ed12b ?_;intro a w h
   have H:=(TE U a6 K).map (fun j=>((Ja l l.length).getD j ((0,0),ed0)).2)
   rw[Wt] at H
   have b4:=ed_dif (II hn l.length (Nat.le_refl _))
   have c6:=ZA h0
   have e4:=B5 l l.length
   have b6:0<((A.map fun j=>((Ja l l.length).getD j ((0,0),ed0)).2)).length:=by rw[H.length_eq,List.length_map];exact c6
   have c9:((A.map fun j=>((Ja l l.length).getD j ((0,0),ed0)).2)).length≤1000000:=by rw[H.length_eq,List.length_map];omega
   have a8:((A.map fun j=>((Ja l l.length).getD j ((0,0),ed0)).2)).length=(Za l).length:=by rw[H.length_eq];exact((Vz _).length_eq).symm
   obtain ⟨P,b3,rfl,rfl,e0,b1⟩:=GrowO.open b2 b6
   replace h:=h.same I (show _=(P,Obj.cells (cellsOf Qp (A.map fun j=>((Ja l l.length).getD j ((0,0),ed0)).2)++b3).toArray 124 (0,0))::[(a1,_),(d,_)] from I) I
   refine Zc<|Yq h hS (vs:=[_,_]) I call177 (nR P c1 (A.map fun j=>((Ja l l.length).getD j ((0,0),ed0)).2) b3 [(a1,_),(d,_)] [] b6 (fun x hx y hy=>b4 x (H.mem_iff.1 hx) y<|H.mem_iff.1 hy) c9) (List.Perm.refl _) ss ss ?_;clear h;rintro e6 e1 e2 a w ⟨rfl,rfl,c7⟩ h
   rw[show bM (A.map fun j=>((Ja l l.length).getD j ((0,0),ed0)).2)=Za l from cH H b4] at h
   replace h:=h.share hS (off:=0) (M:=cellsOf Qp (Za l)) (fun k hk=>by rw[Nat.zero_add,List.getElem?_toArray,List.getElem?_append_left hk])
   refine gL h<|zn<|zS<|zm I<|zv [_] I call137 (SV (some ⟨P,0,none⟩) (A.map fun j=>((Ja l l.length).getD j ((0,0),ed0)).2).length c1 b1)<|au 0x625 ?_;clear h;intro a w h
   refine Qn (Ψ:=[Row (some ⟨P,0,none⟩) (cellsOf Qp<|Za l)]) h (Ze h I<|.tmp I) ?_ ss
   exact⟨_,by rw[a8],rfl⟩
  ·refine gL h<|au 0x12b ?_;clear h;intro a w h
   refine Qo h I ?_
   refine wp_skip<|wp_block<|wp_seq<|wp_region_lit ?_
   refine Zc<|WM (ek:=Zy) (ev:=Qp) (m:=Ja l l.length) (seen:=A.toArray) h I s mm mm dd ?_;clear h;intro a h
   refine gL h<|au 0xb ?_
   refine zz Bj fun e5=>stW I I Xw ?_
   refine zn<|zr<|zm I<|ldZ Dz ?_
   refine zB [(_,_)] I (KZ _ _ _ _) fun e7=>?_
   refine apC Qp ((A.map fun j=>((Ja l l.length).getD j ((0,0),ed0)).2)) [((Ja l l.length)[z]' s).2] b2 ?_ (hr:=by(try dsimp only);have:=B5 l l.length;simp only[List.length_map];have:=Ru U a6;omega);intro O W X J a w h
   refine gL h<|au 0x25 ?_;clear h;intro a w h
   have T:(A++[z]).Nodup:=List.nodup_append.2 ⟨U,by simp,fun x hx y hy=>by rw[List.mem_singleton] at hy;subst hy;exact fun e=>N (by simpa using e ▸ hx)⟩
   have Q:∀j∈A++[z],j<(Ja l l.length).length:=fun j hj=>(List.mem_append.1 hj).elim (a6 j) (fun hj=>by rw[List.mem_singleton] at hj;rw[hj];exact s)
   have c3:=Ru T Q
   rw[List.length_append, ←b7] at c3
   simp only[List.length_cons,List.length_nil] at c3
   rw[List.push_toArray] at h
   rw[show(A.map fun j=>((Ja l l.length).getD j ((0,0),ed0)).2)++[((Ja l l.length)[z]' s).2]=(A++[z]).map (fun j=>((Ja l l.length).getD j ((0,0),ed0)).2) from by simp[List.getD,s]] at h J
   exact⟨i+1,⟨(A++[z]),O,W,X,⟨by rw[List.length_append,b7];rfl,T,Q,J⟩,by exact tO h⟩,oo⟩
end
section
theorem DZ(a b:Int): RN (Instr.build 347 [(0,.int .i64 a),(1,.int .i64 b)].toArray) (.agg #[.int .i64 a,.int .i64 b]):=fun w=>by simp[go_sem]
theorem YE(b off n c j:Nat)(h:j<n): RN (Instr.indexAt 121 (.slice (some ⟨b,off,none⟩) n c) (.int .i64 (j:Int))) (.pointer (some ⟨b,off+j*4,none⟩)):=fun w=>by
 simpa using Qd runUnderlying121 sizeOf124 b off n c j h w
theorem Un(a b:Int): RN (Instr.build 178 [(0,.int .i64 a),(1,.int .i64 b)].toArray) (.agg #[.int .i64 a,.int .i64 b,.int .i64 0]):=fun w=>by simp[go_sem]
theorem N6(c b a:Value)(w:World): (Instr.buildSlice 40 1 [(0,.agg #[c,b,a])].toArray).run prog w=.ok (.slice (some ⟨w.heap.size,0,none⟩) 1 1) (w.alloc (.cells #[c,b,a] 178 (0,0))):=by
 simp[go_sem]
theorem Rr{n:Nat}{l:List (Nat×Nat×Nat)}(h:∀t∈l,D9 n t=true): l.any (fun t => !D9 n t)=false:=by
 rw[List.any_eq_false];intro t ht;rw[h t ht];decide
def CnLe(n:Nat)(m:List ((Nat×Nat)×Nat)): Prop := ∀p∈m,p.2≤n
theorem CnLe.get{n:Nat}{m:List ((Nat×Nat)×Nat)}(h:CnLe n m)(u:Nat×Nat): (Zu m u).getD 0≤n:=by
 cases a:Zu m u with
 | none=>exact Nat.zero_le _
 | some y=>exact h _ (Fa a)
theorem CnLe.step{n:Nat}{m:List ((Nat×Nat)×Nat)}(h:CnLe n m)(a b:Nat): CnLe (n+1) (IT a b m):=by
 intro p c
 rcases ET c with rfl|c
 ·have:=h.get (Zo a b);show _+1≤_;omega
 ·have:=h p c;omega
theorem FB(l:List (Nat×Nat×Nat)): ∀k,CnLe (3*k) (Kh l k)
 | 0=>fun _ h=>nomatch h
 | k+1=>(((FB l k).step _ _).step _ _).step _ _
theorem dD{l:List (Nat×Nat×Nat)}{i:Nat}(h:i<(Za l).length)(b:((((Zu (Kh l l.length) (((Za l).getD i ed0).a,((Za l).getD i ed0).b)).getD 0:Nat):Int) == 1)=true):
  (((Za l).take i).filter (O7 l)).map sdE++[(((Za l).getD i ed0).a,((Za l).getD i ed0).b,0)]=(((Za l).take (i+1)).filter (O7 l)).map sdE:=by
 rw[List.take_add_one,List.getElem?_eq_getElem h,List.filter_append,List.map_append]
 congr 1
 replace b:=eq_of_beq b
 simp only[List.getD,List.getElem?_eq_getElem h,Option.getD_some] at b
 replace b:(Zu (Kh l l.length) ((Za l)[i].a,(Za l)[i].b)).getD 0=1:=oo
 have c:O7 l (Za l)[i]=true:=by simp[O7,b]
 simp[List.getD,h,c,sdE]
theorem dG{l:List (Nat×Nat×Nat)}{i:Nat}(h:i<(Za l).length)(b:((((Zu (Kh l l.length) (((Za l).getD i ed0).a,((Za l).getD i ed0).b)).getD 0:Nat):Int) == 1)=false):
  (((Za l).take i).filter (O7 l)).map sdE=(((Za l).take (i+1)).filter (O7 l)).map sdE:=by
 rw[List.take_add_one,List.getElem?_eq_getElem h,List.filter_append,List.map_append]
 have c:¬((((Zu (Kh l l.length) (((Za l).getD i ed0).a,((Za l).getD i ed0).b)).getD 0:Nat):Int)=1):=fun e=>by rw[e] at b;cases b
 simp only[List.getD,List.getElem?_eq_getElem h,Option.getD_some] at c
 have d:O7 l (Za l)[i]=false:=decide_eq_false fun e=>c oo
 simp[d]
theorem ki(l:List (Nat×Nat×Nat))(i:Nat): ((((Za l).take i).filter (O7 l)).map sdE).length≤i:=by
 rw[List.length_map];exact Nat.le_trans (List.length_filter_le _ _) (by rw[List.length_take];omega)
theorem K6(l:List (Nat×Nat×Nat))(n:Nat)(ad:Option Addr)(c:Nat)(d:l.length≤1000000): Xo prog 135 [.slice ad l.length c,.int .i64 ((n:Nat):Int)] [Row ad (cellsOf Zd l)] (.bool (!l.any (fun t => !D9 n t))):=by
 refine fnI func135 I ntmps135 fun S w0 b=>zS (zx I fun e=>?_);intro a w h
 replace h:=h.shareAll b ([.int .i64 ((n:Nat):Int)]) I
 refine gL h<|au 0xd7f43125 ?_
 refine zw [_,_] I call240 (oz l _ _ d n e 0)<|au 0x62520f ?_
 refine rtK I
theorem CtrO.row{P:Program}{f:FuncId}{args:List Value}{Φ:List Zp}{k n i:Nat}{E:TypeId}{xs:List Value}(h:CtrO P f args Φ (fun v a => ∃ad c,v=.slice ad n i∧GrowO k E (.slice ad n c) n xs a)): Ctr P f args Φ (fun v Ψ => ∃ad,v=.slice ad n i∧Ψ=[Row ad xs]):=by
 intro X w l g
 refine(h X w l g).mono ?_
 rintro e w' ⟨v,a,rfl,⟨ad,c,rfl,r⟩,q,t,_⟩
 refine⟨_,[Row ad xs],rfl,⟨ad,rfl,rfl⟩,q,fun R hR=>?_⟩
 rw[List.mem_singleton] at hR
 subst hR
 obtain ⟨h1,⟨o,rfl,rfl⟩|⟨b,c2,R,p,o,u,rfl⟩⟩:=r
 ·exact fun d=>absurd (List.eq_nil_of_length_eq_zero (by simpa using h1)) d
 ·cases p
  have m:=t _ List.mem_cons_self
  exact fun _=>⟨b,0,_,_,_,rfl,fun hx=>by have:=l b hx;have s:=m.1;simp only at s;omega,m.2,fun j hj=>by simp[List.getElem?_append_left hj]⟩
abbrev gqV(l:List (Nat×Nat×Nat))(k:Nat):=IT (tg l k).1 (tg l k).2.1 (Kh l k)
abbrev gqW(l:List (Nat×Nat×Nat))(k:Nat):=IT (tg l k).2.1 (tg l k).2.2 (gqV l k)
theorem gqS(l:List (Nat×Nat×Nat))(k:Nat): CnLe (3*k+1) (gqV l k):=(FB l k).step _ _
theorem gqT(l:List (Nat×Nat×Nat))(k:Nat): CnLe (3*k+1+1) (gqW l k):=(gqS l k).step _ _
theorem jB(A:List Pt)(l:List (Nat×Nat×Nat))(ad O:Option Addr)(c c0:Nat)(T:∀t∈l,D9 A.length t=true)(X:0<l.length)(hl:l.length≤100000): CtrO prog 142 [.slice O A.length c0,.slice ad l.length c] [Row ad (cellsOf Zd l)]
   (fun v N => ∃G W,v=.slice G (EO l).length (EO l).length∧GrowO 3 178 (.slice G (EO l).length W) (EO l).length (cellsOf Zd (EO l)) N):=by
 refine fn_introO func142 I ntmps142 nb ?_
 intro S w0 a hS h
 refine gC h<|au 0x81f443112531 ?_
 refine zw [_,_] I call135 (K6 l A.length _ _ oo)<|au 0x20f ?_;clear h;intro a w h
 refine Zh h (fun s h=>(by exfalso;rw[Rr T] at s;cases s)) (fun s h=>?_)
 refine wpList_nil ?_
 refine cW ?_
 refine Zj h I ?_
 refine wp_skip<|wp_seq<|wp_region_lit ?_
 refine Zc<|D8 Zy Qi h dd ?_;clear h;intro d a w h
 refine gL h<|au 0x924e0f431125 ?_;clear h;intro a w h
 replace h:=h.same I (show _=[(d,mB Zy Qi (Kh l 0))] from I) I
 refine lpG h [1,5,20,21] pkL (fun Y Z (k:Nat) a w=>k≤l.length∧St 77 S w0 ((22,nI k)::Y) [(d,mB Zy Qi<|Kh l k)] Z a w) (fun k=>l.length-k) 0 (⟨Nat.zero_le _,by exact(h).sub sA⟩) ?_;clear h
 rintro k a w ⟨R,h⟩
 refine gC h<|au 0x12c31 ?_;intro a w h
 refine Zb h I (fun x=>?_) (fun x=>?_)
 ·have P:k<l.length:=dT x
  obtain ⟨e,f,rfl⟩:=h.row_addr (ad:=ad) (M:=cellsOf Zd l) mm (nE 3)
  refine gC h<|au 0x42f31917 ?_
  refine zD I mm (cells_lt (k:=3) dd (fun _=>rfl) l k oo) isAgg127 sizeOf127 (Zg (k:=3) (fun _=>rfl) ((fun _=>rfl)) l (0,0,0) k oo) (.inl I) ?_
  refine zz A3 fun g=>stW I I Qg ?_
  refine au 0x924312 ?_
  refine lpR 4<|rdS<|au 0x1254319171e129e31 ?_
  refine yE [0,1,2,3,4,5,6,7,8,9]<|au 0xdea3f8 ?_;clear h
  refine au 0xb1f93f86fd9f8 ?_
  refine au 0xa3e3e ?_
  refine yE [0,1,2,3,4,5,6,7,8,9,10,11,12] ?_
  refine FA (L':=[(1,.slice (some ⟨e,f,none⟩) l.length c),(5,.map<|some d),(7,pB g),(8,.int .i64 0),(9,nI ((tg l k).1)),(10,nI ((tg l k).2.1)),(20,.slice (some ⟨e,f,none⟩) l.length c),(21,nI l.length),(22,nI k),(23,.bool<|decide (((k:Nat):Int)<((l.length:Nat):Int))),(25,Zd<|tg l k),(26,.int .i64 0),(27,.bool true),(28,.int .i64 0),(29,.int .i64 0),(30,pB g),(31,nI ((tg l k).1)),(32,.int .i64 0),(33,.int .i64 1),(34,.int .i64 1),(35,.pointer<|some ⟨g,1,none⟩),(36,nI ((tg l k).2.1)),(37,.map<|some d),(38,nI ((tg l k).1)),(39,nI ((tg l k).2.1)),(40,nI<|min (tg l k).1 (tg l k).2.1),(41,nI ((tg l k).1)),(42,nI ((tg l k).2.1)),(43,nI<|max (tg l k).1 (tg l k).2.1),(44,Zy ((gqA l k))),(45,nI ((Zu (Kh l k) ((gqA l k))).getD 0)),(46,nI (((Zu (Kh l k) ((gqA l k))).getD 0)+1)),(47,.tuple #[.int .i64 (((Zu (Kh l k) ((gqA l k))).getD 0:Nat):Int),.int .i64 ((Cm (Kh l k) ((gqA l k)):Nat):Int)]),(48,nI<|Cm (Kh l k) ((gqA l k)))]) (σ':=[(g,bV (Zd<|tg l k) 127),(d,mB Zy Qi<|gqV l k)]) (Φ':=[Row (some ⟨e,f,none⟩) (cellsOf Zd l)]) (fun a w h=>?_) (fun key=>?_)
  focus
   refine cW ?_
   refine gC h<|au 0x24e2f3 ?_;intro a w h
   replace h:=kQ h [1,5,7,20,21,22,26,27] pkL
   refine Zm ?_
   refine gC h<|au 0x1254319171e129e31 ?_
   refine yE [0,1,2,3,4,5,6,7,8,9]<|au 0xb1f93f8 ?_;clear h
   refine au 0xf0f83f76f17f8 ?_
   refine au 0xa3e3e ?_
   refine yE [0,1,2,3,4,5,6,7,8,9,10,11,12] ?_
   refine FA (L':=[(1,.slice (some ⟨e,f,none⟩) l.length c),(5,.map<|some d),(7,pB g),(8,.int .i64 1),(9,nI ((tg l k).2.1)),(10,nI ((tg l k).2.2)),(20,.slice (some ⟨e,f,none⟩) l.length c),(21,nI l.length),(22,nI k),(26,.int .i64 1),(27,.bool true),(28,.int .i64 1),(29,.int .i64 1),(30,.pointer<|some ⟨g,1,none⟩),(31,nI ((tg l k).2.1)),(32,.int .i64 1),(33,.int .i64 2),(34,.int .i64 2),(35,.pointer<|some ⟨g,2,none⟩),(36,nI ((tg l k).2.2)),(37,.map<|some d),(38,nI ((tg l k).2.1)),(39,nI ((tg l k).2.2)),(40,nI<|min (tg l k).2.1 (tg l k).2.2),(41,nI ((tg l k).2.1)),(42,nI ((tg l k).2.2)),(43,nI<|max (tg l k).2.1 (tg l k).2.2),(44,Zy ((gqB l k))),(45,nI ((Zu (gqV l k) ((gqB l k))).getD 0)),(46,nI (((Zu (gqV l k) ((gqB l k))).getD 0)+1)),(47,.tuple #[.int .i64 (((Zu (gqV l k) ((gqB l k))).getD 0:Nat):Int),.int .i64 ((Cm (gqV l k) ((gqB l k)):Nat):Int)]),(48,nI<|Cm (gqV l k) ((gqB l k)))]) (σ':=[(g,bV (Zd<|tg l k) 127),(d,mB Zy Qi<|gqW l k)]) (Φ':=[Row (some ⟨e,f,none⟩) (cellsOf Zd l)]) (fun a w h=>?_) (fun key=>?_)
   focus
    refine cW ?_
    refine gC h<|au 0x2471f3 ?_;intro a w h
    replace h:=kQ h [1,5,7,20,21,22,26,27] pkL
    refine Zm ?_
    refine gC h<|au 0x1254319171e129e31 ?_
    refine yE [0,1,2,3,4,5,6,7,8,9]<|au 0xf0f83f8 ?_;clear h
    refine au 0xdea3f96f07f8 ?_
    refine au 0xa3e3e ?_
    refine yE [0,1,2,3,4,5,6,7,8,9,10,11,12] ?_
    refine FA (L':=[(1,.slice (some ⟨e,f,none⟩) l.length c),(5,.map<|some d),(7,pB g),(8,.int .i64 2),(9,nI ((tg l k).2.2)),(10,nI ((tg l k).1)),(20,.slice (some ⟨e,f,none⟩) l.length c),(21,nI l.length),(22,nI k),(26,.int .i64 2),(27,.bool true),(28,.int .i64 2),(29,.int .i64 2),(30,.pointer<|some ⟨g,2,none⟩),(31,nI ((tg l k).2.2)),(32,.int .i64 2),(33,.int .i64 3),(34,.int .i64 0),(35,pB g),(36,nI ((tg l k).1)),(37,.map<|some d),(38,nI ((tg l k).2.2)),(39,nI ((tg l k).1)),(40,nI<|min (tg l k).2.2 (tg l k).1),(41,nI ((tg l k).2.2)),(42,nI ((tg l k).1)),(43,nI<|max (tg l k).2.2 (tg l k).1),(44,Zy ((gqC l k))),(45,nI ((Zu (gqW l k) ((gqC l k))).getD 0)),(46,nI (((Zu (gqW l k) ((gqC l k))).getD 0)+1)),(47,.tuple #[.int .i64 (((Zu (gqW l k) ((gqC l k))).getD 0:Nat):Int),.int .i64 ((Cm (gqW l k) ((gqC l k)):Nat):Int)]),(48,nI<|Cm (gqW l k) ((gqC l k)))]) (σ':=[(g,bV (Zd<|tg l k) 127),(d,mB Zy Qi<|IT (tg l k).2.2 (tg l k).1<|gqW l k)]) (Φ':=[Row (some ⟨e,f,none⟩) (cellsOf Zd l)]) (fun a w h=>?_) (fun key=>?_)
    ·refine cW ?_
     refine gC h<|au 0x24e1f3 ?_;intro a w h
     replace h:=kQ h [1,5,7,20,21,22,26,27] pkL
     refine Zm ?_
     refine gC h<|au 0x30ed1241f31 ?_
     refine zp (.pN (k+1)<|.add I I)<|au 0x24 ?_;clear h;intro a w h
     rw[show IT (tg l k).2.2 (tg l k).1 (gqW l k)=Kh l (k+1) from rfl] at h
     exact⟨k+1,⟨oo,tO h⟩,oo⟩
    refine au 0x888 ?_
    refine yp I (.builtin [_,_] I (fun w ty cs=>BH _ _ w ty cs))<|au 0x88 ?_
    refine yp I (.builtin [_,_] I (fun w ty cs=>CC _ _ w ty cs))<|yp I (.build [(_,_),(_,_)] I<|DZ _ _) ?_
    refine Ya kk ?_;intro a w h
    refine Yj 8 10 ?_ ?_
    focus
     refine K7 h I Cp (u:=(gqC l k)) (m:=gqW l k) I I mm dd ?_;clear h;intro a h
     refine Yj 9 10 ?_ ?_
     focus
      refine Jt h I (.pN (((Zu (gqW l k) ((gqC l k))).getD 0)+1)<|.binOp I I (fun _=>Jp _ _ _ _ _<|wrap_i64 _ (by have q:=(gqT l k).get<|gqC l k;omega) (by have q:=(gqT l k).get<|gqC l k;omega))) dd ?_;clear h;intro a h
      refine Xe 10 ?_
      refine JI h I Cp (u:=(gqC l k)) (m:=gqW l k) I I uu dd ?_;clear h;intro a w h
      refine Xe 11 ?_
      refine Jt h I (.eX I) dd ?_;clear h;intro a h
     rotate_left
     focus
      refine JI h I Cp (u:=(gqC l k)) (m:=gqW l k) I I uu dd ?_;clear h;intro a w h
      refine Yj 9 11 ?_ ?_
      focus
       refine Jt h I (.pN (((Zu (gqW l k) ((gqC l k))).getD 0)+1)<|.binOp I I (fun _=>Jp _ _ _ _ _<|wrap_i64 _ (by have q:=(gqT l k).get<|gqC l k;omega) (by have q:=(gqT l k).get<|gqC l k;omega))) dd ?_;clear h;intro a h
       refine Xe 11 ?_
       refine Jt h I (.eX I) dd ?_;clear h;intro a h
      rotate_left
      focus
       refine Jt h I (.eX I) dd ?_;clear h;intro a h
       refine Xe 9 ?_
       refine Jt h I (.pN (((Zu (gqW l k) ((gqC l k))).getD 0)+1)<|.binOp I I (fun _=>Jp _ _ _ _ _<|wrap_i64 _ (by have q:=(gqT l k).get<|gqC l k;omega) (by have q:=(gqT l k).get<|gqC l k;omega))) dd ?_;clear h;intro a h
    rotate_left 3
    focus
     refine JI h I Cp (u:=(gqC l k)) (m:=gqW l k) I I uu dd ?_;clear h;intro a w h
     refine Yj 8 11 ?_ ?_
     focus
      refine K7 h I Cp (u:=(gqC l k)) (m:=Hp (gqW l k) ((gqC l k)) 0) I I mm dd ?_;clear h;intro a h
      rw[DO] at h
      refine Yj 9 11 ?_ ?_
      focus
       refine Jt h I (.pN (((Zu (gqW l k) ((gqC l k))).getD 0)+1)<|.binOp I I (fun _=>Jp _ _ _ _ _<|wrap_i64 _ (by have q:=(gqT l k).get<|gqC l k;omega) (by have q:=(gqT l k).get<|gqC l k;omega))) dd ?_;clear h;intro a h
       refine Xe 11 ?_
       refine Jt h I (.eX I) dd ?_;clear h;intro a h
      rotate_left
      focus
       refine Jt h I (.eX I) dd ?_;clear h;intro a h
       refine Xe 9 ?_
       refine Jt h I (.pN (((Zu (gqW l k) ((gqC l k))).getD 0)+1)<|.binOp I I (fun _=>Jp _ _ _ _ _<|wrap_i64 _ (by have q:=(gqT l k).get<|gqC l k;omega) (by have q:=(gqT l k).get<|gqC l k;omega))) dd ?_;clear h;intro a h
     rotate_left 2
     focus
      refine Jt h I (.eX I) dd ?_;clear h;intro a h
      refine Xe 8 ?_
      refine K7 h I Cp (u:=(gqC l k)) (m:=Hp (gqW l k) ((gqC l k)) 0) I I mm dd ?_;clear h;intro a h
      rw[DO] at h
      refine Xe 9 ?_
      refine Jt h I (.pN (((Zu (gqW l k) ((gqC l k))).getD 0)+1)<|.binOp I I (fun _=>Jp _ _ _ _ _<|wrap_i64 _ (by have q:=(gqT l k).get<|gqC l k;omega) (by have q:=(gqT l k).get<|gqC l k;omega))) dd ?_;clear h;intro a h
    all_goals
     refine Xe 12 ?_
     refine cg (ek:=Zy) (ev:=Qi) h I (m:=gqW l k) (u:=(gqC l k)) (z:=0) (q:=((Zu (gqW l k) ((gqC l k))).getD 0)+1) I I I uu ?_;clear h;intro a w h
     replace h:=h.same I (show _=[(g,bV (Zd (tg l k)) 127),(d,mB Zy Qi (IT (tg l k).2.2 (tg l k).1 (gqW l k)))] from I) I
   rotate_left 6
   focus
    refine au 0x888 ?_
    refine yp I (.builtin [_,_] I (fun w ty cs=>BH _ _ w ty cs))<|au 0x88 ?_
    refine yp I (.builtin [_,_] I (fun w ty cs=>CC _ _ w ty cs))<|yp I (.build [(_,_),(_,_)] I<|DZ _ _) ?_
    refine Ya kk ?_;intro a w h
    refine Yj 8 10 ?_ ?_
    focus
     refine K7 h I Cp (u:=(gqB l k)) (m:=gqV l k) I I mm dd ?_;clear h;intro a h
     refine Yj 9 10 ?_ ?_
     focus
      refine Jt h I (.pN (((Zu (gqV l k) ((gqB l k))).getD 0)+1)<|.binOp I I (fun _=>Jp _ _ _ _ _<|wrap_i64 _ (by have q:=(gqS l k).get<|gqB l k;omega) (by have q:=(gqS l k).get<|gqB l k;omega))) dd ?_;clear h;intro a h
      refine Xe 10 ?_
      refine JI h I Cp (u:=(gqB l k)) (m:=gqV l k) I I uu dd ?_;clear h;intro a w h
      refine Xe 11 ?_
      refine Jt h I (.eX I) dd ?_;clear h;intro a h
     rotate_left
     focus
      refine JI h I Cp (u:=(gqB l k)) (m:=gqV l k) I I uu dd ?_;clear h;intro a w h
      refine Yj 9 11 ?_ ?_
      focus
       refine Jt h I (.pN (((Zu (gqV l k) ((gqB l k))).getD 0)+1)<|.binOp I I (fun _=>Jp _ _ _ _ _<|wrap_i64 _ (by have q:=(gqS l k).get<|gqB l k;omega) (by have q:=(gqS l k).get<|gqB l k;omega))) dd ?_;clear h;intro a h
       refine Xe 11 ?_
       refine Jt h I (.eX I) dd ?_;clear h;intro a h
      rotate_left
      focus
       refine Jt h I (.eX I) dd ?_;clear h;intro a h
       refine Xe 9 ?_
       refine Jt h I (.pN (((Zu (gqV l k) ((gqB l k))).getD 0)+1)<|.binOp I I (fun _=>Jp _ _ _ _ _<|wrap_i64 _ (by have q:=(gqS l k).get<|gqB l k;omega) (by have q:=(gqS l k).get<|gqB l k;omega))) dd ?_;clear h;intro a h
    rotate_left 3
    focus
     refine JI h I Cp (u:=(gqB l k)) (m:=gqV l k) I I uu dd ?_;clear h;intro a w h
     refine Yj 8 11 ?_ ?_
     focus
      refine K7 h I Cp (u:=(gqB l k)) (m:=Hp (gqV l k) ((gqB l k)) 0) I I mm dd ?_;clear h;intro a h
      rw[DO] at h
      refine Yj 9 11 ?_ ?_
      focus
       refine Jt h I (.pN (((Zu (gqV l k) ((gqB l k))).getD 0)+1)<|.binOp I I (fun _=>Jp _ _ _ _ _<|wrap_i64 _ (by have q:=(gqS l k).get<|gqB l k;omega) (by have q:=(gqS l k).get<|gqB l k;omega))) dd ?_;clear h;intro a h
       refine Xe 11 ?_
       refine Jt h I (.eX I) dd ?_;clear h;intro a h
      rotate_left
      focus
       refine Jt h I (.eX I) dd ?_;clear h;intro a h
       refine Xe 9 ?_
       refine Jt h I (.pN (((Zu (gqV l k) ((gqB l k))).getD 0)+1)<|.binOp I I (fun _=>Jp _ _ _ _ _<|wrap_i64 _ (by have q:=(gqS l k).get<|gqB l k;omega) (by have q:=(gqS l k).get<|gqB l k;omega))) dd ?_;clear h;intro a h
     rotate_left 2
     focus
      refine Jt h I (.eX I) dd ?_;clear h;intro a h
      refine Xe 8 ?_
      refine K7 h I Cp (u:=(gqB l k)) (m:=Hp (gqV l k) ((gqB l k)) 0) I I mm dd ?_;clear h;intro a h
      rw[DO] at h
      refine Xe 9 ?_
      refine Jt h I (.pN (((Zu (gqV l k) ((gqB l k))).getD 0)+1)<|.binOp I I (fun _=>Jp _ _ _ _ _<|wrap_i64 _ (by have q:=(gqS l k).get<|gqB l k;omega) (by have q:=(gqS l k).get<|gqB l k;omega))) dd ?_;clear h;intro a h
    all_goals
     refine Xe 12 ?_
     refine cg (ek:=Zy) (ev:=Qi) h I (m:=gqV l k) (u:=(gqB l k)) (z:=0) (q:=((Zu (gqV l k) ((gqB l k))).getD 0)+1) I I I uu ?_;clear h;intro a w h
     replace h:=h.same I (show _=[(g,bV (Zd (tg l k)) 127),(d,mB Zy Qi (gqW l k))] from I) I
  rotate_left 12
  focus
   refine au 0x888 ?_
   refine yp I (.builtin [_,_] I (fun w ty cs=>BH _ _ w ty cs))<|au 0x88 ?_
   refine yp I (.builtin [_,_] I (fun w ty cs=>CC _ _ w ty cs))<|yp I (.build [(_,_),(_,_)] I<|DZ _ _) ?_
   refine Ya kk ?_;intro a w h
   refine Yj 8 10 ?_ ?_
   focus
    refine K7 h I Cp (u:=(gqA l k)) (m:=Kh l k) I I mm dd ?_;clear h;intro a h
    refine Yj 9 10 ?_ ?_
    focus
     refine Jt h I (.pN (((Zu (Kh l k) ((gqA l k))).getD 0)+1)<|.binOp I I (fun _=>Jp _ _ _ _ _<|wrap_i64 _ (by have q:=(FB l k).get<|gqA l k;omega) (by have q:=(FB l k).get<|gqA l k;omega))) dd ?_;clear h;intro a h
     refine Xe 10 ?_
     refine JI h I Cp (u:=(gqA l k)) (m:=Kh l k) I I uu dd ?_;clear h;intro a w h
     refine Xe 11 ?_
     refine Jt h I (.eX I) dd ?_;clear h;intro a h
    rotate_left
    focus
     refine JI h I Cp (u:=(gqA l k)) (m:=Kh l k) I I uu dd ?_;clear h;intro a w h
     refine Yj 9 11 ?_ ?_
     focus
      refine Jt h I (.pN (((Zu (Kh l k) ((gqA l k))).getD 0)+1)<|.binOp I I (fun _=>Jp _ _ _ _ _<|wrap_i64 _ (by have q:=(FB l k).get<|gqA l k;omega) (by have q:=(FB l k).get<|gqA l k;omega))) dd ?_;clear h;intro a h
      refine Xe 11 ?_
      refine Jt h I (.eX I) dd ?_;clear h;intro a h
     rotate_left
     focus
      refine Jt h I (.eX I) dd ?_;clear h;intro a h
      refine Xe 9 ?_
      refine Jt h I (.pN (((Zu (Kh l k) ((gqA l k))).getD 0)+1)<|.binOp I I (fun _=>Jp _ _ _ _ _<|wrap_i64 _ (by have q:=(FB l k).get<|gqA l k;omega) (by have q:=(FB l k).get<|gqA l k;omega))) dd ?_;clear h;intro a h
   rotate_left 3
   focus
    refine JI h I Cp (u:=(gqA l k)) (m:=Kh l k) I I uu dd ?_;clear h;intro a w h
    refine Yj 8 11 ?_ ?_
    focus
     refine K7 h I Cp (u:=(gqA l k)) (m:=Hp (Kh l k) ((gqA l k)) 0) I I mm dd ?_;clear h;intro a h
     rw[DO] at h
     refine Yj 9 11 ?_ ?_
     focus
      refine Jt h I (.pN (((Zu (Kh l k) ((gqA l k))).getD 0)+1)<|.binOp I I (fun _=>Jp _ _ _ _ _<|wrap_i64 _ (by have q:=(FB l k).get<|gqA l k;omega) (by have q:=(FB l k).get<|gqA l k;omega))) dd ?_;clear h;intro a h
      refine Xe 11 ?_
      refine Jt h I (.eX I) dd ?_;clear h;intro a h
     rotate_left
     focus
      refine Jt h I (.eX I) dd ?_;clear h;intro a h
      refine Xe 9 ?_
      refine Jt h I (.pN (((Zu (Kh l k) ((gqA l k))).getD 0)+1)<|.binOp I I (fun _=>Jp _ _ _ _ _<|wrap_i64 _ (by have q:=(FB l k).get<|gqA l k;omega) (by have q:=(FB l k).get<|gqA l k;omega))) dd ?_;clear h;intro a h
    rotate_left 2
    focus
     refine Jt h I (.eX I) dd ?_;clear h;intro a h
     refine Xe 8 ?_
     refine K7 h I Cp (u:=(gqA l k)) (m:=Hp (Kh l k) ((gqA l k)) 0) I I mm dd ?_;clear h;intro a h
     rw[DO] at h
     refine Xe 9 ?_
     refine Jt h I (.pN (((Zu (Kh l k) ((gqA l k))).getD 0)+1)<|.binOp I I (fun _=>Jp _ _ _ _ _<|wrap_i64 _ (by have q:=(FB l k).get<|gqA l k;omega) (by have q:=(FB l k).get<|gqA l k;omega))) dd ?_;clear h;intro a h
   all_goals
    refine Xe 12 ?_
    refine cg (ek:=Zy) (ev:=Qi) h I (m:=Kh l k) (u:=(gqA l k)) (z:=0) (q:=((Zu (Kh l k) ((gqA l k))).getD 0)+1) I I I uu ?_;clear h;intro a w h
    replace h:=h.same I (show _=[(g,bV (Zd (tg l k)) 127),(d,mB Zy Qi (gqV l k))] from I) I
  all_goals
   refine OF kk ?_
   exact key _ _ (tO h)
 ·have F:l.length=k:=dF x
  subst F
  refine gC h<|au 0x431125310e ?_
  refine zf [_] I call98 (bc A.length l ad c T X hl) ?_;rintro a6 U ⟨H,rfl,rfl⟩
  have V:=Gk l
  refine au 0x92413f ?_;intro a w h
  refine lpG h [1,5,20,21,22,52,53] pkL (fun Y Z (i:Nat) a w=>i≤(Za l).length ∧ ∃(o:Option Addr) (c1:Nat) (L:List (Nat×Obj)),(GrowO 3 178 (.slice o ((((Za l).take i).filter<|O7 l).map sdE).length c1) ((((Za l).take i).filter<|O7 l).map sdE).length (cellsOf Zd ((((Za l).take i).filter<|O7 l).map sdE)) L)∧St 77 S w0 ((11,(.slice o ((((Za l).take i).filter<|O7 l).map sdE).length c1))::(54,nI i)::Y) (L++((d,mB Zy Qi<|Kh l l.length)::[])) Z a w) (fun i=>(Za l).length-i) 0 (⟨Nat.zero_le _,none,0,[],GrowO.nil _ _,by exact(h).sub sA⟩) ?_;clear h
  rintro i a w ⟨Q,o,c1,L,n,h⟩
  refine gC h<|au 0x12c31 ?_;intro a w h
  refine Zb h I (fun p=>?_) (fun p=>?_)
  ·have y:i<(Za l).length:=dT p
   obtain ⟨J,K,rfl⟩:=h.row_addr (ad:=H) (M:=cellsOf Qp (Za l)) mm (nE 4)
   refine gC h<|au 0x27f31917 ?_
   refine zD I mm (cells_lt (k:=4) dd (fun _=>rfl) (Za l) i oo) isAgg124 sizeOf124 (Zg (k:=4) (fun _=>rfl) ((fun _=>rfl)) (Za l) ed0 i oo) (.inl I) ?_
   refine zz Bj fun a7=>stW I I Xw ?_
   refine au 0x24fa7f53f26f4312 ?_
   refine zp (.build [(_,_),(_,_)] I<|DZ _ _) ?_;clear h;intro a w h
   refine Zc<|Np h Cp (u:=(((Za l).getD i ed0).a,((Za l).getD i ed0).b)) (m:=Kh l l.length) I I mm dd ?_;clear h;intro a h
   refine gL h<|au 0x00f ?_;clear h;intro a w h
   refine Zh h (fun r h=>?_) (fun r h=>?_)
   ·refine wpList_nil ?_
    refine cW ?_
    refine Qo h I ?_
    refine gC h<|au 0x24fa7f53f26f43 ?_
    refine zp (.build [(_,_),(_,_)] I<|Un _ _) (zB [(_,_)] I (N6 _ _ _) fun a1=>?_)
    refine apC Zd ((((Za l).take i).filter<|O7 l).map sdE) [(((Za l).getD i ed0).a,((Za l).getD i ed0).b,0)] n ?_ (hr:=by(try dsimp only);have:=ki l i;omega);intro B D C j a w h
    refine gL h<|za I<|zn<|zr<|zp (.pN (i+1)<|.add I I)<|au 0x24 ?_;clear h;intro a w h
    rw[dD y r] at h j
    exact⟨i+1,⟨oo,B,D,C,j,by exact tO h⟩,oo⟩
   ·refine wpList_nil ?_
    refine cW ?_
    refine Zj h I ?_
    refine gC h<|zk<|zr<|zp (.pN (i+1)<|.add I I)<|au 0x24 ?_;clear h;intro a w h
    rw[dG y r] at h n
    exact⟨i+1,⟨oo,o,c1,L,n,by exact tO h⟩,oo⟩
  ·have E:(Za l).length=i:=dF p
   subst E
   refine gC h<|au 0x4310e ?_;clear h;intro a w h
   rw[List.take_length,show List.map sdE (List.filter (O7 l) (Za l))=EO l from rfl] at h n
   refine gL h<|zv [_] I call154 (SQ o _ c1<|Vr n)<|au 0x625 ?_;clear h;intro a w h
   exact endO h (Ze h I (.tmp I)) ⟨o,c1,rfl,n⟩ (List.sublist_append_left _ _)
theorem C_Rim(a:List Pt)(l:List (Nat×Nat×Nat))(ad b:Option Addr)(c c0:Nat)(f:∀t∈l,D9 a.length t=true)(e:0<l.length)(hl:l.length≤100000): Ctr prog 142 [.slice b a.length c0,.slice ad l.length c] [Row ad (cellsOf Zd l)]
   (fun v Ψ => ∃d,v=.slice d (EO l).length (EO l).length∧Ψ=[Row d (cellsOf Zd (EO l))]):=CtrO.row (jB a l ad b c c0 f e hl)
end
end Go.Proofs.YtejhdcohoggojaaGreatDoor
