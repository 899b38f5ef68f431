/- Walks of functions. By an AI agent. -/
import Derived.Test.YtdadideknhmbbaaGreatDoorSrtp
import Derived.Test.YtdadideknhmbbaaGreatDoorFxP
set_option linter.unusedVariables false
set_option linter.unusedSimpArgs false
set_option maxRecDepth 4000
set_option maxHeartbeats 8000000
namespace Go.Proofs.YtdadideknhmbbaaGreatDoor
open Go Go.Proofs Go.Fx Tryz
attribute [local irreducible] Oper.wp Code.wp wpList Fx.Head wpOp
variable{b4:List Pt}{N G P L H O:Pt}{c8:List Nat}{c7:Nat×Nat}{e h e8 g e7 f e9 b2:Value}{n i p:Nat}{h5:Type}{e5 b7:Rat}{c9:List ((Nat×Nat)×Nat)}{C:List (Nat×Nat×Nat)}{b1:Nat×Nat×Nat}{F:Ed}{h6:List Value}{U:List ((Nat×Nat)×Ed)}{h4:List Ed}{a6:Ms}(b8 b9:Ed)(c4 c5 c6 h3:Value)(X Y:Operand)(e0 e1:Nat×Nat×Nat)(x J b0 b6 e3 e4:Pt)(S T h0 h2:Int)(b5:List Nat)(K:Nat)(a1:List Bool)(s:Bool)(Q c3:Nat×Nat)(a7:Ms)(A:List Pt)(o:List (Nat×Nat×Nat))(y:Nat)(a t a8:Option Addr)(c B E:Nat)(Z:List Pt)(e2:Nat)(b3:List Value)(w:World)(V:TypeId)(W:Array Bool)
theorem MR: (Go.builtin .len #[311] V W #[.slice a c B]).run prog w=.ok (.value (.int .i64 c)) w:=by
 simp[go_sem]
theorem bM(h:E<c): RN (Instr.indexAt 311 (.slice (some ⟨K,y,none⟩) c B) (.int .i64 (E:Int))) (.pointer (some ⟨K,y+E,none⟩)):=λw=>by
 simpa using Qf runUnderlying311 sizeOf4 K y c B E h w
theorem Ow: RN (do eqGuard .eql 106 X Y (encPt x) (encPt J);Go.binOp .eql 106 (encPt x) (encPt J):Sem Value) (.bool (decide (x=J))):=λw=>by
 obtain ⟨d,b⟩:=x;obtain ⟨e,f⟩:=J;simp[go_sem];rw[OS,OS];by_cases a:d=e<;>by_cases c:b=f<;>simp[a,c]
theorem YS: RN (do eqGuard .neq 106 X Y (encPt x) (encPt J);Go.binOp .neq 106 (encPt x) (encPt J):Sem Value) (.bool (!decide (x=J))):=λw=>by
 obtain ⟨d,b⟩:=x;obtain ⟨e,f⟩:=J;simp[go_sem];rw[OS,OS];by_cases a:d=e<;>by_cases c:b=f<;>simp[a,c]
theorem YV: RN (do eqGuard .eql 143 X Y (Ze e0) (Ze e1);Go.binOp .eql 143 (Ze e0) (Ze e1):Sem Value) (.bool (decide (e0=e1))):=λw=>by
 obtain ⟨e,i,f⟩:=e0;obtain ⟨h,g,c⟩:=e1;simp[go_sem];by_cases a:e=h<;>by_cases d:i=g<;>by_cases b:f=c<;>simp[a,d,b,AP]
theorem sC(σ:List (Nat×Obj))(Φ:List Zs)(g:0<Z.length)(hk:∀x∈Z,PtK 100000 x)(k:Z.length<=1000000):
  GX prog 240 [.slice (some ⟨K,0,none⟩) Z.length y,.func (.func 241) #[] #[]] ((K,.cells (cellsOf encPt Z++b3).toArray 106 (0,0))::σ) Φ
   (λv σ' Φ'=>v=.tuple #[]/\σ'=(K,.cells (cellsOf encPt (Z.mergeSort λx n => !CV n x)++b3).toArray 106 (0,0))::σ/\Φ'=Φ):=by
 refine fn_introM func240 I ntmps240 nb ?_;intro S w0 a w j h;refine gC h<|au 0x44432521f431 ?_;refine zp (.convert I<|J1 _<|wrap_u64 _ oo oo)<|zv [_] I call115 (GV Z.length oo)<|zm I ?_;clear h;intro a w h;refine Zc<|Vb h j (vs:=[_,_,_,_,_]) I call280 (C_pdqP K y Z b3 (Lib.bitLen Z.length) (gO (Lib.bitLen_le Z.length 62 oo oo) oo) g hk k σ Φ) (cr _) ss ss ?_;clear h;rintro i f e a w ⟨rfl,rfl,d⟩ h;refine wpList_nil<|XA h (A2 I) ⟨rfl,rfl,d⟩ (fT _) (λ_ h=>h)
theorem W6(hd:∀i,i+1<Z.length->Z.getD (i+1) (0,0)≠Z.getD i (0,0))(q:Z.length<=1000000):
  Xi prog 243 [.slice a Z.length c] [Row a (cellsOf encPt Z)] (.slice a Z.length c):=by
 refine fnI func243 I ntmps243 λS w0 n=>au 0x2d21f43112531 ?_;intro s w h;refine Zb h I (λl=>?_) (λl=>?_);focus
  refine gC h<|au 0x625431 ?_;clear h;intro s w h
 rotate_left;focus
  have m:2<=Z.length:=dF l;obtain ⟨g,f,rfl⟩:=h.row_addr (ad:=a) (M:=cellsOf encPt Z) mm (nE 10);refine gC h<|au 0x8253117 ?_;clear h;intro s w h;refine lpF h (fun(i:Nat)=>(1<=i/\i<=Z.length)) (λi=>[(0,.slice (some ⟨g,f,none⟩) Z.length c),(3,nI i)]) (λi=>Z.length-i) (1) (⟨⟨aZ 1,oo⟩,by exact h.sub sA⟩) ?_;clear h;rintro i s w ⟨o,h⟩;refine gC h<|au 0x2d21f44311 ?_;intro s w h;refine Zb h I (λb=>?_) (λb=>?_)
  ·have e:i<Z.length:=dT b;refine gC h<|zk<|zs<|zb<|zs<|yE [0,1,2,3,4,5,6,7,8,9]<|au 0xe1f99 ?_;clear h;refine Zf I kk I mm (cells_lt (k:=10) dd (λ_=>rfl) Z i oo) isAgg106 sizeOf106 (Zh (k:=10) (λ_=>rfl) ((λ_=>rfl)) Z (0,0) i oo) (.inl I) dd ?_;refine au 0x99 ?_;refine yp I (.pO (i-1)<|.sub I I)<|au 0xe1f ?_;refine Zf I kk I mm (cells_lt (k:=10) dd (λ_=>rfl) Z (i-1) oo) isAgg106 sizeOf106 (Zh (k:=10) (λ_=>rfl) ((λ_=>rfl)) Z (0,0) (i-1) oo) (.inl I) dd ?_;refine yp I (.binOp I I (λ_=>Ow _ _ (Z.getD i (0,0)) (Z.getD (i-1) (0,0)) _)) ?_;refine Jn (λd  =>(by exfalso;obtain ⟨j,rfl⟩:∃j,i=j+1:=⟨i-1,oo⟩;exact hd j e<|of_decide_eq_true d)) (λd  =>?_);refine au 0x437ca ?_;refine zp (.pN (i+1)<|.add I I)<|au 0x25 ?_;intro s w h;exact⟨i+1,⟨⟨oo,oo⟩,by exact tO h⟩,oo⟩
  refine gC h<|au 0x6254310e ?_;clear h;intro s w h
 all_goals
  exact retR h
abbrev F8(x:Bool): Value:=.bool x
theorem I5: List.map F8 (List.replicate K false)=CL K (Value.cells (.bool false)).toList:=by
 rw[show(Value.cells (.bool false)).toList=[Value.bool false] from rfl,A3];simp
theorem C_IxB(o:a1.length<=1000000): Xi prog 279 [.slice a a1.length c,.bool s] [Row a (List.map F8 a1)] (.int .i64 (CW (λx=>s == x) a1 0)):=by
 refine fnI func279 I ntmps279 λS w0 n=>au 0x43112531 ?_;refine zp (.builtin [_] I<|MR _ _ _)<|au 0x824 ?_;intro p w h;refine lpG h [0,1,7] pkL (λY Z (i:Nat) p w=>i<=a1.length/\(CW (λx=>s == x) a1 0=CW (λx=>s == x) (a1.drop i) i)/\St 19 S w0 ((8,nI i)::Y) [] Z p w) (λi=>a1.length-i) 0 (⟨cX _,rfl,by exact(h).sub sA⟩) ?_;clear h;rintro i p w ⟨m,b,h⟩;refine gC h<|au 0x12d31 ?_;intro p w h;refine Zb h I (λf=>?_) (λf=>?_)
 ·have e:i<a1.length:=dT f;obtain ⟨k,j,rfl⟩:=h.row_addr (ad:=a) (M:=List.map F8 a1) mm nF;refine gC h<|au 0x4443125431817 ?_;refine zp (.indexAddr I I<|bM _ _ _ _ _ oo)<|zD I mm (by rw[az];omega) isAgg4 sizeOf4 (Zn (enc:=F8) (l:=a1) false oo) (.inr I) ?_;refine zp (.binOp I I (λ_=>Tg _ underlying4 _ _ _ _)) ?_;clear h;intro p w h;refine Zi h (λd h=>?_) (λd h=>?_)
  ·refine wpList_nil<|cW<|Qq h I ?_;refine gC h<|au 0x625431 ?_;refine rtK ?_;rw[b,Vj _ a1 i false e,if_pos d]
  refine wpList_nil<|cW<|Zj h I<|gC h<|zk<|zr<|zp (.pN (i+1)<|.add I I)<|au 0x24 ?_;clear h;intro p w h;exact⟨i+1,⟨oo,by rw[b,Vj _ a1 i false e,if_neg (by rw[d];decide)],tO h⟩,oo⟩
 have g:a1.length=i:=dF f;subst g;refine gC h<|au 0x625310e ?_;refine rtK ?_;rw[b,tf];rfl
theorem C_CtB(e:a1.length<=1000000): Xi prog 229 [.slice a a1.length c,.bool s] [Row a (List.map F8 a1)] (.bool (a1.any (λx=>s == x))):=by
 refine fnI func229 I ntmps229 λS w0 b=>au 0x44312531 ?_;refine zw [_,_] I call279 (C_IxB a1 s _ _ e)<|au 0x62500f ?_;refine rtK ?_;rw[FU]
def setU(l:List Bool)(t:Nat×Nat×Nat): List Bool:=((l.set t.1 true).set t.2.1 true).set t.2.2 true
def AE(ts:List (Nat×Nat×Nat))(n:Nat): Nat->List Bool
 | 0=>List.replicate n false
 | i+1=>setU (AE ts n i) (ts.getD i (0,0,0))
theorem Ci(a:List (Nat×Nat×Nat))(n:Nat): ∀i,(AE a n i).length=n
 | 0=>by rw[AE,hW]
 | i+1=>by rw[AE,setU,ea,ea,ea,Ci a n i]
theorem A0{l:List Bool}(h:l.getD p false=true\/(n=p/\p<l.length)): (l.set n true).getD p false=true:=by
 rw[List.getD,List.getElem?_set];by_cases e:n=p
 ·subst e;have hl:n<l.length:=by
   rcases h with h|h
   ·rcases el n l.length with h1|h1
    ·exact h1
    rw[List.getD,List.getElem?_eq_none h1] at h;cases h
   exact h.2
  simp[hl]
 rw[if_neg e];rcases h with h|h
 ·exact h
 exact absurd h.1 e
theorem Lj(b:List (Nat×Nat×Nat))(n p:Nat)(c:p<n): ∀i,(∃j,j<i/\Ay (b.getD j (0,0,0)) p=true)->(AE b n i).getD p false=true
 | 0,h=>by obtain ⟨j,hj,_⟩:=h;exact absurd hj (gS _)
 | i+1,h=>by
  obtain ⟨j,hj,a⟩:=h;have hl:=Ci b n i;rw[AE,setU];rcases el j i with h1|h1
  ·exact A0 (.inl (A0 (.inl (A0 (.inl (Lj b n p c i ⟨j,h1,a⟩))))))
  have e:j=i:=oo;subst e;simp only[Ay,iB,decide_eq_true_eq] at a;rcases a with (a|a)|a
  ·exact A0 (.inl (A0 (.inl (A0 (.inr ⟨a,oo⟩)))))
  ·exact A0 (.inl (A0 (.inr ⟨a,by rw[ea];omega⟩)))
  exact A0 (.inr ⟨a,by rw[ea,ea];omega⟩)
theorem XO(hv:MV n a6): ((AE a6.T a6.P.length a6.T.length).any λx=>false == x)=false:=by
 rw[vd];intro x hx;obtain ⟨p,a,rfl⟩:=wY hx;rw[Ci] at a;obtain ⟨t,ht,b⟩:=hv.used p a;obtain ⟨j,hj,rfl⟩:=wY ht;have:=Lj a6.T a6.P.length p a a6.T.length ⟨j,hj,by rw[List.getD,List.getElem?_eq_getElem hj];exact b⟩;rw[List.getD,List.getElem?_eq_getElem (by rw[Ci];exact a)] at this;simp only[et] at this;rw[this];decide
theorem VG(h:b4.Nodup): ∀i,i+1<b4.length->b4.getD (i+1) (0,0)≠b4.getD i (0,0):=by
 intro i a e;have:=(List.pairwise_iff_getElem.1 h) i (i+1) oo a oo;rw[List.getD,List.getD,List.getElem?_eq_getElem a,List.getElem?_eq_getElem oo] at e;exact this e.symm
theorem gB: (A.mergeSort λx y => !CV y x).length=A.length:=um A
theorem gG(h:b4.Nodup): ∀i,i+1<(b4.mergeSort λx y => !CV y x).length->(b4.mergeSort λx y => !CV y x).getD (i+1) (0,0)≠(b4.mergeSort λx y => !CV y x).getD i (0,0) :=
 VG ((pq b4 _).nodup_iff.2 h)
theorem W7(hl:Z.length=B)(hd:∀i,i+1<Z.length->Z.getD (i+1) (0,0)≠Z.getD i (0,0))(e:B<=1000000):
  Xi prog 243 [.slice a B c] [Row a (cellsOf encPt Z)] (.slice a B c):=by subst hl;exact W6 a c Z hd e
theorem C_CtBN(hl:a1.length=K)(e:K<=1000000)(r:Bool)(hr:(a1.any λx=>s == x)=r):
  Xi prog 229 [.slice a K c,.bool s] [Row a (List.map F8 a1)] (.bool r):=by subst hl;subst hr;exact C_CtB a1 s a c e
theorem si(hv:MV K a7)(X:K<=100000): Xi prog 148 [Qm a7 a t a8 c B E] [Row a (cellsOf encPt a7.P),Row t (cellsOf Ze a7.T),Row a8 (cellsOf Ze a7.S)] (.bool true):=by
 have a6:=hv.nP;have W:=hv.nT;have a1:=hv.nS;have U:=hv.ne;have L:=hv.neP;have F:∀x∈a7.P,PtK 100000 x:=λx hx=>(hv.K x hx).mono X;refine fnI func148 I ntmps148 λS w0 G=>zS (zx I λA=>au 0x21f70f82f3125 ?_);intro f w h;refine Zc<|Qz h I I runUnderlying311 typeInfo4 sizeOf4 zeroValue4 I dd oo (by show 1*(a7.P.length)<=281474976710656;omega) oo dd ?_;clear h;intro e f w h;replace h:=h.same I (by rw[<-I5]) I;refine gL h<|au 0x824a0fb0f31f31125 ?_;intro f w h;rw[show List.replicate a7.P.length false=AE a7.T a7.P.length 0 from rfl] at h;refine lpG h [1,2,3,12,13] pkL (λY Z (i:Nat) f w=>i<=a7.T.length/\St 45 S w0 ((14,nI i)::Y) [(e,.cells (List.map F8<|AE a7.T a7.P.length i).toArray 4 (0,0)),(A,bV (Qm a7 a t a8 c B E) 38)] Z f w) (λi=>a7.T.length-i) 0 (⟨cX _,by exact(h).sub sA⟩) ?_;clear h;rintro i f w ⟨O,h⟩;refine gC h<|au 0x12d31 ?_;intro f w h;refine Zb h I (λn=>?_) (λn=>?_)
 ·have s:i<a7.T.length:=dT n;obtain ⟨b,o,rfl⟩:=h.row_addr (ad:=t) (M:=cellsOf Ze a7.T) mm (nE 3);have ht:=getD_mem a7.T (d:=(0,0,0)) s;obtain ⟨n1,j,g,_,_,_⟩:=Qv.1 (hv.num _ ht);have V:=Ci a7.T a7.P.length i;refine gC h<|au 0x62f31817 ?_;refine zD I mm (cells_lt (k:=3) dd (λ_=>rfl) a7.T i oo) isAgg133 sizeOf133 (Zh (k:=3) (λ_=>rfl) ((λ_=>rfl)) a7.T (0,0,0) i oo) (.inl I) ?_;refine zz Bj λu=>stW I I Qi ?_;refine zn<|yE [0,1,2,9,3,4,6,7,5,11,8,13,10,12,14] ?_;clear h;refine GL (L':=[(1,pB A),(2,.bool false),(3,.slice (some ⟨e,0,none⟩) a7.P.length a7.P.length),(5,pB u),(12,.slice (some ⟨b,o,none⟩) a7.T.length B),(13,nI a7.T.length),(14,nI i),(15,.bool<|decide (((i:Nat):Int)<((a7.T.length:Nat):Int))),(17,Ze<|a7.T.getD i (0,0,0)),(18,.slice (some ⟨e,0,none⟩) a7.P.length a7.P.length),(19,pB u),(20,nI ((a7.T.getD i (0,0,0)).1)),(21,.slice (some ⟨e,0,none⟩) a7.P.length a7.P.length),(22,.pointer<|some ⟨u,1,none⟩),(23,nI ((a7.T.getD i (0,0,0)).2.1)),(24,.slice (some ⟨e,0,none⟩) a7.P.length a7.P.length),(25,.pointer<|some ⟨u,2,none⟩),(26,nI ((a7.T.getD i (0,0,0)).2.2))]) (σ':=[(u,bV (Ze<|a7.T.getD i (0,0,0)) 133),(e,.cells (List.map F8 ((((AE a7.T a7.P.length i).set ((a7.T.getD i (0,0,0)).1) true).set ((a7.T.getD i (0,0,0)).2.1) true).set ((a7.T.getD i (0,0,0)).2.2) true)).toArray 4 (0,0)),(A,bV (Qm a7 a (some ⟨b,o,none⟩) a8 c B E) 38)]) (Φ':=[Row a (cellsOf encPt a7.P),Row (some ⟨b,o,none⟩) (cellsOf Ze a7.T),Row a8 (cellsOf Ze a7.S)]) (λf w h=>?_) (λkey=>?_)
  ·refine cW<|gC h<|zr<|zp (.pN (i+1)<|.add I I)<|au 0x24 ?_;intro f w h;rw[show(((AE a7.T a7.P.length i).set (a7.T.getD i (0,0,0)).1 true).set (a7.T.getD i (0,0,0)).2.1 true).set (a7.T.getD i (0,0,0)).2.2 true=AE a7.T a7.P.length (i+1) from rfl] at h;exact⟨i+1,⟨oo,tO h⟩,oo⟩
  refine au 0xeec3f9 ?_;refine au 0xa3f9b3f978f ?_;refine Yh kk ?_;intro f w h;refine XF 5 8 10 ?_ ?_ ?_;focus
   refine Gc h I I mr isAgg3 sizeOf3 Vg dd ?_;clear h;intro f h;refine Dn [8,10,11,12,13,14] kk kk I h ?_;clear h;refine Yh kk ?_;intro f w h;refine Yr 8 10 ?_ ?_;focus
    refine Gc h I I mr isAgg3 sizeOf3 Gl dd ?_;clear h;intro f h;refine Dn [10,11,12,13,14] kk kk I h ?_;clear h;refine yt I I I ((congrArg (λz=>Zp _ z _)<|ca _).trans<|Jc (enc:=F8) (AE a7.T a7.P.length i) ((a7.T.getD i (0,0,0)).1) true) uu sizeOf4 I (by simp;(simp at n1 j g;omega)) I ?_;refine au 0x78f ?_;refine yt I I I ((congrArg (λz=>Zp _ z _)<|ca _).trans<|Jc (enc:=F8) ((AE a7.T a7.P.length i).set ((a7.T.getD i (0,0,0)).1) true) ((a7.T.getD i (0,0,0)).2.1) true) uu sizeOf4 I (by simp;(simp at n1 j g;omega)) I ?_
   rotate_left;focus
    refine ER h I I I ((congrArg (λz=>Zp _ z _)<|ca _).trans<|Jc (enc:=F8) (AE a7.T a7.P.length i) ((a7.T.getD i (0,0,0)).1) true) uu sizeOf4 I (by simp;(simp at n1 j g;omega)) I ?_;intro f w h;refine Dn [11,8,12,13,14] kk kk I h ?_;clear h;refine au 0x78f ?_;refine Yh kk ?_;intro f w h;refine Yr 8 12 ?_ ?_;focus
     refine Gc h I I mr isAgg3 sizeOf3 Gl dd ?_;clear h;intro f h;refine Dn [12,13,14] kk kk I h ?_;clear h;refine yt I I I ((congrArg (λz=>Zp _ z _)<|ca _).trans<|Jc (enc:=F8) ((AE a7.T a7.P.length i).set ((a7.T.getD i (0,0,0)).1) true) ((a7.T.getD i (0,0,0)).2.1) true) uu sizeOf4 I (by simp;(simp at n1 j g;omega)) I ?_
    rotate_left;focus
     refine ER h I I I ((congrArg (λz=>Zp _ z _)<|ca _).trans<|Jc (enc:=F8) ((AE a7.T a7.P.length i).set ((a7.T.getD i (0,0,0)).1) true) ((a7.T.getD i (0,0,0)).2.1) true) uu sizeOf4 I (by simp;(simp at n1 j g;omega)) I ?_;intro f w h;refine Dn [8,13,14] kk kk I h ?_;clear h;refine au 0x41f ?_
  rotate_left 3;focus
   refine Gc h I I mr isAgg3 sizeOf3 Gl dd ?_;intro f h;refine Dn [5,10,11,12,13,14] kk kk I h ?_;clear h;refine Yh kk ?_;intro f w h;refine Yr 5 10 ?_ ?_;focus
    refine Gc h I I mr isAgg3 sizeOf3 Vg dd ?_;clear h;intro f h;refine Dn [10,11,12,13,14] kk kk I h ?_;clear h;refine yt I I I ((congrArg (λz=>Zp _ z _)<|ca _).trans<|Jc (enc:=F8) (AE a7.T a7.P.length i) ((a7.T.getD i (0,0,0)).1) true) uu sizeOf4 I (by simp;(simp at n1 j g;omega)) I ?_
   rotate_left;focus
    refine ER h I I I ((congrArg (λz=>Zp _ z _)<|ca _).trans<|Jc (enc:=F8) (AE a7.T a7.P.length i) ((a7.T.getD i (0,0,0)).1) true) uu sizeOf4 I (by simp;(simp at n1 j g;omega)) I ?_;intro f w h;refine Dn [5,11,12,13,14] kk kk I h ?_;clear h;refine au 0x02f ?_
   all_goals
    refine au 0x78f ?_;refine yt I I I ((congrArg (λz=>Zp _ z _)<|ca _).trans<|Jc (enc:=F8) ((AE a7.T a7.P.length i).set ((a7.T.getD i (0,0,0)).1) true) ((a7.T.getD i (0,0,0)).2.1) true) uu sizeOf4 I (by simp;(simp at n1 j g;omega)) I ?_
  rotate_left 2;focus
   refine ER h I I I ((congrArg (λz=>Zp _ z _)<|ca _).trans<|Jc (enc:=F8) (AE a7.T a7.P.length i) ((a7.T.getD i (0,0,0)).1) true) uu sizeOf4 I (by simp;(simp at n1 j g;omega)) I ?_;intro f w h;refine Dn [5,11,8,12,13,14] kk kk I h ?_;clear h;refine au 0x02f ?_;refine au 0x78f ?_;refine Yh kk ?_;intro f w h;refine Yr 8 12 ?_ ?_;focus
    refine Gc h I I mr isAgg3 sizeOf3 Gl dd ?_;clear h;intro f h;refine Dn [12,13,14] kk kk I h ?_;clear h;refine yt I I I ((congrArg (λz=>Zp _ z _)<|ca _).trans<|Jc (enc:=F8) ((AE a7.T a7.P.length i).set ((a7.T.getD i (0,0,0)).1) true) ((a7.T.getD i (0,0,0)).2.1) true) uu sizeOf4 I (by simp;(simp at n1 j g;omega)) I ?_
   rotate_left;focus
    refine ER h I I I ((congrArg (λz=>Zp _ z _)<|ca _).trans<|Jc (enc:=F8) ((AE a7.T a7.P.length i).set ((a7.T.getD i (0,0,0)).1) true) ((a7.T.getD i (0,0,0)).2.1) true) uu sizeOf4 I (by simp;(simp at n1 j g;omega)) I ?_;intro f w h;refine Dn [8,13,14] kk kk I h ?_;clear h;refine au 0x41f ?_
  all_goals
   refine au 0x78f ?_;refine yt I I I ((congrArg (λz=>Zp _ z _)<|ca _).trans<|Jc (enc:=F8) (((AE a7.T a7.P.length i).set ((a7.T.getD i (0,0,0)).1) true).set ((a7.T.getD i (0,0,0)).2.1) true) ((a7.T.getD i (0,0,0)).2.2) true) uu sizeOf4 I (by simp;(simp at n1 j g;omega)) I ?_;refine yn ?_;intro f w h;exact key _ _ (tO h)
 have l:a7.T.length=i:=dF n;subst l;replace h:=h.shareAll G (List.map F8 (AE a7.T a7.P.length a7.T.length)) I;obtain ⟨r,q,rfl⟩:=h.row_addr (ad:=a) (M:=cellsOf encPt a7.P) mm (nE 10);refine gC h<|ze<|zs<|zS<|zm I<|zw [_,_] I call229 (C_CtBN a7.P.length (AE a7.T a7.P.length a7.T.length) false _ _ (Ci _ _ _) oo false<|XO hv) ?_;clear h;intro f w h;refine Zi h (λp h=>(by exfalso;cases p)) (λp h=>?_);refine wpList_nil<|cW<|Zj h I<|gC h<|au 0x70f82f317 ?_;clear h;intro f w h;refine Zc<|Xd h (vs:=[_]) I call77 (QF r q c a7.P oo) ss dd ?_;clear h;rintro v35 N f w ⟨H,C,m,rfl,R,rfl⟩ h;refine gL h<|au 0x43125 ?_;clear h;intro f w h;refine Zc<|Vb h G (vs:=[_,_]) I call240 (sC H C a7.P m [(A,_)] [] oo F oo) (cr _) ss ss ?_;clear h;rintro v37 Q J f w ⟨rfl,rfl,rfl⟩ h;replace h:=h.share G (off:=0) (M:=cellsOf encPt (a7.P.mergeSort λx y => !CV y x)) (λk hk=>by rw[ca,List.getElem?_toArray,List.getElem?_append_left hk]);refine gL h<|zn<|zs<|yE [0,3,4,5,1,2,6,7]<|au 0xee10f9 ?_;clear h;refine au 0x45f ?_;refine yw [_] I I call243 (W7 _ _ a7.P.length (a7.P.mergeSort λx y => !CV y x) (gB _) (gG hv.dif) oo)<|au 0x45f ?_;refine yp I (.eql I I)<|au 0x6a4e ?_;refine rtK ?_;simp
theorem C_IxN(o:b5.length<=1000000): Xi prog 236 [.slice a b5.length c,.int .i64 ((K:Nat):Int)] [Row a (List.map Qb b5)] (.int .i64 (CW (λx=>((K:Nat):Int) == ((x:Nat):Int)) b5 0)):=by
 refine fnI func236 I ntmps236 λS w0 n=>au 0x82420f43112531 ?_;intro p w h;refine lpG h [0,1,7] pkL (λY Z (i:Nat) p w=>i<=b5.length/\(CW (λx=>((K:Nat):Int) == ((x:Nat):Int)) b5 0=CW (λx=>((K:Nat):Int) == ((x:Nat):Int)) (b5.drop i) i)/\St 19 S w0 ((8,nI i)::Y) [] Z p w) (λi=>b5.length-i) 0 (⟨cX _,rfl,by exact(h).sub sA⟩) ?_;clear h;rintro i p w ⟨m,b,h⟩;refine gC h<|au 0x12d31 ?_;intro p w h;refine Zb h I (λf=>?_) (λf=>?_)
 ·have e:i<b5.length:=dT f;obtain ⟨k,j,rfl⟩:=h.row_addr (ad:=a) (M:=List.map Qb b5) mm nF;refine gC h<|au 0xe0f4443125431817 ?_;refine zD I mm (by rw[az];omega) isAgg3 sizeOf3 (Zn (enc:=Qb) (l:=b5) 0 oo) (.inr I) ?_;refine au 0xae ?_;clear h;intro p w h;refine Zi h (λd h=>?_) (λd h=>?_)
  ·refine wpList_nil<|cW<|Qq h I ?_;refine gC h<|au 0x625431 ?_;refine rtK ?_;rw[b,Vj _ b5 i 0 e,if_pos d]
  refine wpList_nil<|cW<|Zj h I<|gC h<|zk<|zr<|zp (.pN (i+1)<|.add I I)<|au 0x24 ?_;clear h;intro p w h;exact⟨i+1,⟨oo,by rw[b,Vj _ b5 i 0 e,if_neg (by rw[d];decide)],tO h⟩,oo⟩
 have g:b5.length=i:=dF f;subst g;refine gC h<|au 0x625310e ?_;refine rtK ?_;rw[b,tf];rfl
theorem sV(e:b5.length<=1000000): Xi prog 144 [.slice a b5.length c,.int .i64 ((K:Nat):Int)] [Row a (List.map Qb b5)] (.bool (b5.any (λx=>((K:Nat):Int) == ((x:Nat):Int)))):=by
 refine fnI func144 I ntmps144 λS w0 b=>au 0x44312531 ?_;refine zw [_,_] I call236 (C_IxN b5 K _ _ e)<|au 0x62500f ?_;refine rtK ?_;rw[FU]
theorem QC(x:e2<a7.T.length)(p:Ad a7.P.length (a7.T.getD e2 (0,0,0))=true): Xi prog 244 [Qm a7 a t a8 c B E,.int .i64 ((e2:Nat):Int)] [Row a (cellsOf encPt a7.P),Row t (cellsOf Ze a7.T),Row a8 (cellsOf Ze a7.S)] (Kr (pt a7 (a7.T.getD e2 (0,0,0)).1) (pt a7 (a7.T.getD e2 (0,0,0)).2.1) (pt a7 (a7.T.getD e2 (0,0,0)).2.2)):=by
 obtain ⟨n1,r,v,_,_,_⟩:=Qv.1 p;refine fn_intro func244 I ntmps244 nb ?_;intro S w0 y s h;obtain ⟨j,g,rfl⟩:=h.row_addr (ad:=a) (M:=cellsOf encPt a7.P) mm (nE 10);obtain ⟨e,f,rfl⟩:=h.row_addr (ad:=t) (M:=cellsOf Ze a7.T) mm (nE 3);refine gC h<|zS (zx I λA=>zz Lc λu=>au 0x62f4b0f31f312 ?_);refine zD I mm (cells_lt (k:=3) dd (λ_=>rfl) a7.T e2 oo) isAgg133 sizeOf133 (Zh (k:=3) (λ_=>rfl) ((λ_=>rfl)) a7.T (0,0,0) e2 oo) (.inl I) ?_;refine zz Bj λq=>stW I I Qi ?_;refine zn<|zs<|yE [0,1,2,3,4,5,6,7,8,9,10,11,12,13,14,15,16,17,18,19]<|au 0xee10f ?_;clear h;refine au 0xeec3f ?_;refine au 0xe1f ?_;refine Zf I kk I mm (cells_lt (k:=10) dd (λ_=>rfl) a7.P ((a7.T.getD e2 (0,0,0)).1) oo) isAgg106 sizeOf106 (Zh (k:=10) (λ_=>rfl) ((λ_=>rfl)) a7.P (0,0) ((a7.T.getD e2 (0,0,0)).1) oo) (.inl I) dd ?_;refine au 0xee10f ?_;refine au 0x02fb3f ?_;refine au 0xe1f ?_;refine Zf I kk I mm (cells_lt (k:=10) dd (λ_=>rfl) a7.P ((a7.T.getD e2 (0,0,0)).2.1) oo) isAgg106 sizeOf106 (Zh (k:=10) (λ_=>rfl) ((λ_=>rfl)) a7.P (0,0) ((a7.T.getD e2 (0,0,0)).2.1) oo) (.inl I) dd ?_;refine au 0xee10f ?_;refine au 0x41fa3f ?_;refine au 0xe1f ?_;refine Zf I kk I mm (cells_lt (k:=10) dd (λ_=>rfl) a7.P ((a7.T.getD e2 (0,0,0)).2.2) oo) isAgg106 sizeOf106 (Zh (k:=10) (λ_=>rfl) ((λ_=>rfl)) a7.P (0,0) ((a7.T.getD e2 (0,0,0)).2.2) oo) (.inl I) dd ?_;refine yp I (.build [(_,_),(_,_),(_,_)] I<|D4 _ _ _ _ _ _ _ _ _ _ _ _ _ _ _ _ _ _ _ _ _ _ _ _ _ _ _ _ _ _)<|stV I I I Gj ?_;refine yn<|zt ?_;intro y w h;refine Xh h (Zd h I<|rC Bc) ?_;rfl
theorem C_bey1(hr:PtK 100000 x)(d:PtK 100000 J)(hq:PtK 100000 b0): Xi prog 282 [encPt x,.pointer (some ⟨K,0,none⟩),.pointer (some ⟨y,0,none⟩)] [Row (some ⟨K,0,none⟩) (Value.cells (encPt J)).toList,Row (some ⟨y,0,none⟩) (Value.cells (encPt b0)).toList] (.bool (decide ((twP J b0 x).num.sign>0))):=by
 obtain ⟨i,g⟩:=hr;obtain ⟨f,k⟩:=d;obtain ⟨e,h⟩:=hq;refine fnI func282 I ntmps282 λS w0 l=>zS (zx I λm=>za I<|zn<|zS<|zD (b:=K) (off:=0) (j:=0) (M:=(Value.cells<|encPt J).toList) (v:=Ez J.1 J.2) I mm (gM _) isAgg106 sizeOf106 I (.inl I) ?_);refine zD (b:=y) (off:=0) (j:=0) (M:=(Value.cells<|encPt b0).toList) (v:=Ez b0.1 b0.2) I mm (gM _) isAgg106 sizeOf106 I (.inl I) ?_;refine au 0x7e ?_;refine zv [_,_,_] I call239 (UO J b0 x oo oo oo oo oo oo)<|au 0x625c0f ?_;refine rtK I
theorem sR(v:A.length<=1000000)(p q:Pt)(m j:Nat)(hl:∀x∈A,PtK 100000 x)(t:PtK 100000 p)(hq:PtK 100000 q): Xi prog 310 [.slice a A.length c,.func (.func 282) #[] #[.pointer (some ⟨m,0,none⟩),.pointer (some ⟨j,0,none⟩)]] [Row a (cellsOf encPt A),Row (some ⟨m,0,none⟩) (Value.cells (encPt p)).toList,Row (some ⟨j,0,none⟩) (Value.cells (encPt q)).toList] (.int .i64 (CW (λr=>decide ((twP p q r).num.sign>0)) A 0)):=by
 refine fnI func310 I ntmps310 λS w0 u=>au 0x82421f43112531 ?_;intro y w h;refine lpG h [0,1,7] pkL (λY Z (i:Nat) y w=>i<=A.length/\(CW (λr=>decide ((twP p q r).num.sign>0)) A 0=CW (λr=>decide ((twP p q r).num.sign>0)) (A.drop i) i)/\St 19 S w0 ((8,nI i)::Y) [] Z y w) (λi=>A.length-i) 0 (⟨cX _,rfl,by exact(h).sub sA⟩) ?_;clear h;rintro i y w ⟨s,b,h⟩;refine gC h<|au 0x12d31 ?_;intro y w h;refine Zb h I (λf=>?_) (λf=>?_)
 ·have d:i<A.length:=dT f;obtain ⟨o,n,rfl⟩:=h.row_addr (ad:=a) (M:=cellsOf encPt A) mm (nE 10);refine gC h<|au 0x4443125431817 ?_;refine zp (.indexAddr I I<|Wi _ _ _ _ _ oo)<|zD I mm (cells_lt (k:=10) dd (λ_=>rfl) A i oo) isAgg106 sizeOf106 (Zh (k:=10) (λ_=>rfl) ((λ_=>rfl)) A (0,0) i oo) (.inl I) ?_;clear h;intro y w h;refine Zc<|Xs h (fs:=[]) (cs:=[.pointer (some ⟨m,0,none⟩),.pointer (some ⟨j,0,none⟩)]) I (vs:=[_]) I call282 (C_bey1 (A.getD i (0,0)) p q m j (hl _<|getD_mem A d) t hq) ss dd ?_;clear h;intro y w h;refine Zi h (λe h=>?_) (λe h=>?_)
  ·refine wpList_nil<|cW<|Qq h I ?_;refine gC h<|au 0x625431 ?_;refine rtK ?_;rw[b,Vj _ A i (0,0) d,if_pos e]
  refine wpList_nil<|cW<|Zj h I<|gC h<|zk<|zr<|zp (.pN (i+1)<|.add I I)<|au 0x24 ?_;clear h;intro y w h;exact⟨i+1,⟨oo,by rw[b,Vj _ A i (0,0) d,if_neg (by rw[e];decide)],tO h⟩,oo⟩
 have g:A.length=i:=dF f;subst g;refine gC h<|au 0x625310e ?_;refine rtK ?_;rw[b,tf];rfl
theorem SQ(e:A.length<=1000000)(p q:Pt)(b g:Nat)(hl:∀x∈A,PtK 100000 x)(d:PtK 100000 p)(hq:PtK 100000 q): Xi prog 281 [.slice a A.length c,.func (.func 282) #[] #[.pointer (some ⟨b,0,none⟩),.pointer (some ⟨g,0,none⟩)]] [Row a (cellsOf encPt A),Row (some ⟨b,0,none⟩) (Value.cells (encPt p)).toList,Row (some ⟨g,0,none⟩) (Value.cells (encPt q)).toList] (.bool (A.any (λr=>decide ((twP p q r).num.sign>0)))):=by
 refine fnI func281 I ntmps281 λS w0 f=>au 0x44312531 ?_;refine zw [_,_] I call310 (sR A _ _ e p q b g hl d hq)<|au 0x62500f ?_;refine rtK ?_;rw[FU]
theorem Q4: RN (Instr.sliceAt 107 (.pointer (some ⟨K,y,none⟩)) none none none) (.slice (some ⟨K,y,none⟩) 3 3):=λw=>by
 simp[go_sem,Instr.sliceAt,Instr.sliceBounds]
theorem bey_t1(h:nxP N O P G H=true): ez G H L N O P=true:=by unfold ez;rw[h];rfl
theorem bey_t2(h:nxP N O P H L=true): ez G H L N O P=true:=by unfold ez;rw[h,Bool.or_true];rfl
theorem bey_t3(h:nxP N O P L G=true): ez G H L N O P=true:=by unfold ez;rw[h,Bool.or_true]
theorem bey_f(h1:nxP N O P G H=false)(d:nxP N O P H L=false)(e:nxP N O P L G=false): ez G H L N O P=false:=by unfold ez;rw[h1,d,e];rfl
theorem UQ(n:PtK 100000 x)(h1:PtK 100000 J)(m:PtK 100000 b0)(g0:PtK 100000 b6)(g1:PtK 100000 e3)(g2:PtK 100000 e4): Jk prog 245 [Kr x J b0,Kr b6 e3 e4] (.bool (ez x J b0 b6 e3 e4)):=by
 have g:∀o∈[b6,e3,e4],PtK 100000 o:=by intro o hx;simp only[cZ,cf,or_false] at hx;rcases hx with rfl|rfl|rfl<;>assumption
 refine fnI func245 I ntmps245 λS w0 f=>zS (zx I λi=>zx I λj=>?_);intro a w h;replace h:=h.shareAll f (cellsOf encPt ([b6,e3,e4])) I;refine gL h<|au 0x82431125 ?_;refine lpR 4<|rdS<|au 0x1254318171e128e31 ?_;refine yF [0,1,2,3,4,5,6,7,8,9,10,11]<|au 0xe6f75f9 ?_;clear h;refine au 0x65fa6ff9f9 ?_;refine Jd [] I kk I mr isAgg106 sizeOf106 Ai (λ_ _ _ _ _ ht=>nomatch ht) dd ?_;refine yz I Xe λl=>yz I Xe λk=>stV I I I Zv ?_;refine stV I I I Zv ?_;refine yn<|zS<|zp (.slice I none none none I I I<|Q4 _ _) ?_;intro a w h;replace h:=h.shareAll f ((Value.cells (Ez J.1 J.2)).toList) I;refine gL h<|zp (.makeFunc [] [_,_] I I) ?_;clear h;intro a w h;replace h:=h.shareAll f ((Value.cells (Ez x.1 x.2)).toList) I;refine gL h<|zw [_,_] I call281 (SQ [b6,e3,e4] _ _ ss x J l k g n h1)<|au 0x40f ?_;clear h;intro a w h;refine Zi h (λb h=>?_) (λb h=>?_)
 ·refine wpList_nil<|cW<|Qq h I ?_;refine gC h<|au 0x62531 ?_;refine rtK ?_;rw[bey_t1 b]
 refine wpList_nil<|cW<|Zj h I<|gC h<|au 0x2452f37 ?_;clear h;intro a w h;replace h:St 24 S w0 [(2,pB i),(3,pB j),(4,.bool false),(8,.int .i64 1),(9,.bool true),(22,.bool false)] [(i,bV (Kr x J b0) 107)] [Row (some ⟨j,0,none⟩) (cellsOf encPt ([b6,e3,e4]))] a w:=by exact tO h
 refine Zk ?_;refine gC h<|au 0x1254318171e128e31 ?_;refine yF [0,1,2,3,4,5,6,7,8,9,10,11]<|au 0xd6f65f9 ?_;clear h;refine au 0x55f96f17f9 ?_;refine Jd [] I kk I mr isAgg106 sizeOf106 Ah (λ_ _ _ _ _ ht=>nomatch ht) dd ?_;refine yz I Xe λl=>yz I Xe λk=>stV I I I Zv ?_;refine stV I I I Zv ?_;refine yn<|zS<|zp (.slice I none none none I I I<|Q4 _ _) ?_;intro a w h;replace h:=h.shareAll f ((Value.cells (Ez b0.1 b0.2)).toList) I;refine gL h<|zp (.makeFunc [] [_,_] I I) ?_;clear h;intro a w h;replace h:=h.shareAll f ((Value.cells (Ez J.1 J.2)).toList) I;refine gL h<|zw [_,_] I call281 (SQ [b6,e3,e4] _ _ ss J b0 l k g h1 m)<|au 0x40f ?_;clear h;intro a w h;refine Zi h (λb h=>?_) (λb h=>?_)
 ·refine wpList_nil<|cW<|Qq h I ?_;refine gC h<|au 0x62531 ?_;refine rtK ?_;rw[bey_t2 b]
 refine wpList_nil<|cW<|Zj h I<|gC h<|au 0x2450f37 ?_;clear h;intro a w h;replace h:St 24 S w0 [(2,pB i),(3,pB j),(4,.bool false),(8,.int .i64 2),(9,.bool true),(22,.bool false)] [(i,bV (Kr x J b0) 107)] [Row (some ⟨j,0,none⟩) (cellsOf encPt ([b6,e3,e4]))] a w:=by exact tO h
 refine Zk ?_;refine gC h<|au 0x1254318171e128e31 ?_;refine yF [0,1,2,3,4,5,6,7,8,9,10,11]<|au 0xc6f55f9 ?_;clear h;refine au 0x75fb6f07f9 ?_;refine Jd [] I kk I mr isAgg106 sizeOf106 Bd (λ_ _ _ _ _ ht=>nomatch ht) dd ?_;refine yz I Xe λl=>yz I Xe λk=>stV I I I Zv ?_;refine stV I I I Zv ?_;refine yn<|zS<|zp (.slice I none none none I I I<|Q4 _ _) ?_;intro a w h;replace h:=h.shareAll f ((Value.cells (Ez x.1 x.2)).toList) I;refine gL h<|zp (.makeFunc [] [_,_] I I) ?_;clear h;intro a w h;replace h:=h.shareAll f ((Value.cells (Ez b0.1 b0.2)).toList) I;refine gL h<|zw [_,_] I call281 (SQ [b6,e3,e4] _ _ ss b0 x l k g m n)<|au 0x40f ?_;clear h;intro a w h;refine Zi h (λb h=>?_) (λb h=>?_)
 ·refine wpList_nil<|cW<|Qq h I ?_;refine gC h<|au 0x62531 ?_;refine rtK ?_;rw[bey_t3 b]
 refine wpList_nil<|cW<|Zj h I<|gC h<|au 0x2490f37 ?_;clear h;intro a w h;replace h:St 24 S w0 [(2,pB i),(3,pB j),(4,.bool false),(8,.int .i64 3),(9,.bool true),(22,.bool false)] [(i,bV (Kr x J b0) 107)] [Row (some ⟨j,0,none⟩) (cellsOf encPt ([b6,e3,e4]))] a w:=by exact tO h
 refine Zk ?_;refine gC h<|au 0x625310ec1260f31 ?_;refine rtK ?_;rw[bey_f (by assumption) (by assumption) b]
theorem nm1{x:Int}(h:(x == -1)=false)(e:x = -1): False:=by subst e;cases h
theorem lM(n:PtK 100000 x)(k:PtK 100000 J)(m:PtK 100000 b0)(l:PtK 100000 b6)(hT:twP x J b0≠0)(d:(Ve x J b0 b6).1.num.sign = -1\/(Ve x J b0 b6).2.1.num.sign = -1\/(Ve x J b0 b6).2.2.num.sign = -1): Jk prog 65 [encPt x,encPt J,encPt b0,encPt b6] (.int .i64 0):=by
 obtain ⟨v,p⟩:=n;obtain ⟨r,u⟩:=k;obtain ⟨o,q⟩:=m;obtain ⟨s,t⟩:=l;obtain ⟨l0,K⟩:∃z,(Ve x J b0 b6).1=z:=⟨_,rfl⟩
 obtain ⟨l1,A⟩:∃z,(Ve x J b0 b6).2.1=z:=⟨_,rfl⟩
 obtain ⟨H,y⟩:∃z,(Ve x J b0 b6).2.2=z:=⟨_,rfl⟩
 refine fnI func65 I ntmps65 λS w0 G=>zS (zx I λF=>zx I λB=>zx I λC=>zx I λE=>au 0x7e7e7e7e3125 ?_);refine zv [_,_,_,_] I call138 (N3 x J b0 b6 oo oo oo oo oo oo oo oo hT)<|au 0xbb4 ?_;refine zz QL λD=>stW I I Ba ?_;refine au 0x82431125317c2d0f431125 ?_;refine lpR 4<|rdS<|au 0x431254318171e128e31 ?_;refine zp (.indexAddr I I<|FR _ _)<|ldZ FC ?_;refine au 0xae3182b1f ?_;intro a w h;refine Zi h (λc h=>?_) (λc h=>?_)
 ·refine gL h<|au 0x625311e25 ?_;refine rtK I
 refine gL h<|au 0xae31c25 ?_;clear h;intro a w h;refine Zi h (λb h=>?_) (λb h=>?_);focus
  refine gL h<|au 0x2452f32550f431e25 ?_;clear h;intro a w h;replace h:=kQ h [8,9,11,23,24,30,32] pkL;refine Zk ?_;refine gC h<|au 0xae3182b1fcbf7af431254318171e128e31 ?_;clear h;intro a w h;refine Zi h (λc h=>?_) (λc h=>?_)
  ·refine gL h<|au 0x625311e25 ?_;refine rtK I
  refine gL h<|au 0xae31c25 ?_;clear h;intro a w h;refine Zi h (λb h=>?_) (λb h=>?_)
  ·refine gL h<|au 0x2450f32590f431e25 ?_;clear h;intro a w h;replace h:=kQ h [8,9,11,23,24,30,32] pkL;refine Zk ?_;refine gC h<|au 0xae3182b1fc8f67f431254318171e128e31 ?_;clear h;intro a w h;refine Zi h (λc h=>?_) (λc h=>?_)
   ·refine gL h<|au 0x625311e25 ?_;refine rtK I
   refine gL h<|au 0xae31c25 ?_;clear h;intro a w h;refine Zi h (λb h=>?_) (λb h=>?_)
   ·refine gL h<|au 0x431e25 ?_;refine zp (aq (v':=.int .i64 4) (.add I I) cgd)<|au 0x2490f325 ?_;clear h;intro a w h;replace h:=kQ h [8,9,11,23,24,30,32] pkL;refine Zk ?_;refine gC h<|au 0x6254310ec1260f31 ?_;refine rtK ?_;exfalso;rcases d with e|e|e<;>exact nm1 (by assumption) e
   refine gL h<|au 0x2490f37c25 ?_;clear h;intro a w h;replace h:=kQ h [8,9,11,23,24,30,32] pkL;refine Zk ?_;refine gC h<|au 0x6254310ec1260f31 ?_;refine rtK ?_;exfalso;rcases d with e|e|e<;>exact nm1 (by assumption) e
  refine gL h<|au 0x2450f37c25 ?_;clear h;intro a w h;replace h:=kQ h [8,9,11,23,24,30,32] pkL
 rotate_left;focus
  refine gL h<|au 0x2452f37c25 ?_;clear h;intro a w h;replace h:=kQ h [8,9,11,23,24,30,32] pkL;refine Zk ?_;refine gC h<|au 0xae3182b1fcbf7af431254318171e128e31 ?_;clear h;intro a w h;refine Zi h (λc h=>?_) (λc h=>?_)
  ·refine gL h<|au 0x625311e25 ?_;refine rtK I
  refine gL h<|au 0xae31c25 ?_;clear h;intro a w h;refine Zi h (λb h=>?_) (λb h=>?_);rotate_left
  ·refine gL h<|au 0x2450f37c25 ?_;clear h;intro a w h;replace h:=kQ h [8,9,11,23,24,30,32] pkL;refine Zk ?_;refine gC h<|au 0xae3182b1fc8f67f431254318171e128e31 ?_;clear h;intro a w h;refine Zi h (λc h=>?_) (λc h=>?_)
   ·refine gL h<|au 0x625311e25 ?_;refine rtK I
   refine gL h<|au 0xae31c25 ?_;clear h;intro a w h;refine Zi h (λb h=>?_) (λb h=>?_)
   ·refine gL h<|au 0x2490f32550f431e25 ?_;clear h;intro a w h;replace h:=kQ h [8,9,11,23,24,30,32] pkL;refine Zk ?_;refine gC h<|au 0x6254310ec1260f31 ?_;refine rtK ?_;exfalso;rcases d with e|e|e<;>exact nm1 (by assumption) e
   refine gL h<|au 0x2490f37c25 ?_;clear h;intro a w h;replace h:=kQ h [8,9,11,23,24,30,32] pkL;refine Zk ?_;refine gC h<|au 0x6254310ec1260f31 ?_;refine rtK ?_;exfalso;rcases d with e|e|e<;>exact nm1 (by assumption) e
  refine gL h<|au 0x2450f32550f431e25 ?_;clear h;intro a w h;replace h:=kQ h [8,9,11,23,24,30,32] pkL
 all_goals
  refine Zk ?_;refine gC h<|au 0xae3182b1fc8f67f431254318171e128e31 ?_;clear h;intro a w h;refine Zi h (λc h=>?_) (λc h=>?_)
  ·refine gL h<|au 0x625311e25 ?_;refine rtK I
  refine gL h<|au 0xae31c25 ?_;clear h;intro a w h;refine Zi h (λb h=>?_) (λb h=>?_)
  ·refine gL h<|au 0x2490f32590f431e25 ?_;clear h;intro a w h;replace h:=kQ h [8,9,11,23,24,30,32] pkL;refine Zk ?_;refine gC h<|au 0x6254310ec1260f31 ?_;refine rtK ?_;exfalso;rcases d with e|e|e<;>exact nm1 (by assumption) e
  refine gL h<|au 0x2490f37c25 ?_;clear h;intro a w h;replace h:=kQ h [8,9,11,23,24,30,32] pkL;refine Zk ?_;refine gC h<|au 0x6254310ec1260f31 ?_;refine rtK ?_;exfalso;rcases d with e|e|e<;>exact nm1 (by assumption) e
theorem YE: RN (Instr.sliceAt 133 (.pointer (some ⟨K,y,none⟩)) none none none) (.slice (some ⟨K,y,none⟩) 3 3):=λw=>by
 simp[go_sem,Instr.sliceAt,Instr.sliceBounds]
theorem row_I3{o:Nat}(g:i<C.length){X:Nat->Prop}{w:World}(h:(Row (some ⟨n,o,none⟩) (cellsOf Ze C)).p X w):
  (Row (some ⟨n,o+i*3,none⟩) (List.map Qb [(C.getD i (0,0,0)).1,(C.getD i (0,0,0)).2.1,(C.getD i (0,0,0)).2.2])).p X w:=by
 intro _;have hlen:(cellsOf Ze C).length=C.length*3:=cellsOf_length (k:=3) (λ_=>rfl) C;obtain ⟨s,f,cs,T,fr,ha,m,c,hj⟩:=h (λe=>by rw[e] at hlen;simp at hlen;omega);cases ha
 refine⟨n,_,cs,T,fr,rfl,m,c,λj d=>?_⟩;have a:j<3:=d;have e:C.getD i (0,0,0)=C[i]:=by simp[List.getD,g]
 rw[e];have:=Aq (k:=3) (enc:=Ze) (λ_=>rfl) C i j g a;rw[show o+i*3+j=o+(i*3+j) by omega,hj (i*3+j) (by rw[hlen];omega),this]
 match j,a with
 | 0,_=>rfl
 | 1,_=>rfl
 | 2,_=>rfl
theorem dC(hx:b7<0)(ht:0<e5): (b7/e5).num.sign = -1:=by
 have h:b7/e5<0:=by rw[vv];have:=Rat.inv_pos.2 ht;have a:=uO (show 0 < -b7 by grind) this;grind
 have a:(b7/e5).num.sign<0:=(G3 _).2 h;have b:=uv (Int.sign_neg_iff.1 a);exact b
theorem sgn_1(h:b7.num.sign=1): 0<b7:=by
 have:=Q6 (x:=b7);exact this.1 oo
theorem MV.tw(h:MV n a6)(ht:b1∈a6.T): 0<twP (pt a6 b1.1) (pt a6 b1.2.1) (pt a6 b1.2.2):=sgn_1 (h.pos b1 ht)
theorem MV.out'(h:MV n a6)(ht:b1∈a6.T)(hq:p<a6.P.length)(a:Ay b1 p=false):
  (Ve (pt a6 b1.1) (pt a6 b1.2.1) (pt a6 b1.2.2) (pt a6 p)).1.num.sign = -1\/(Ve (pt a6 b1.1) (pt a6 b1.2.1) (pt a6 b1.2.2) (pt a6 p)).2.1.num.sign = -1\/(Ve (pt a6 b1.1) (pt a6 b1.2.1) (pt a6 b1.2.2) (pt a6 p)).2.2.num.sign = -1:=by
 rcases h.out b1 ht p hq a with e|e|e
 ·exact .inl (dC e (h.tw ht))
 ·exact .inr (.inl (dC e (h.tw ht)))
 exact .inr (.inr (dC e (h.tw ht)))
theorem qw(h:([b1.1,b1.2.1,b1.2.2].any λx=>((n:Nat):Int) == ((x:Nat):Int))=false): Ay b1 n=false:=by
 simp only[vf,wM,wy,wU,beq_eq_false_iff_ne] at h;simp only[Ay,wU,decide_eq_false_iff_not];omega
theorem ly(hv:MV K a7)(e:K<=100000): Xi prog 149 [Qm a7 a t a8 c B E] [Row a (cellsOf encPt a7.P),Row t (cellsOf Ze a7.T),Row a8 (cellsOf Ze a7.S)] (.bool true):=by
 have o:=hv.nP;have a1:=hv.nT;have a6:=hv.nS;have V:=hv.ne;have L:=hv.neP;refine fnI func149 I ntmps149 λS w0 hS=>zS (zx I λG=>au 0x824a0fb0f31f31125 ?_);intro l w h;refine lpG h [1,11] pkL (λY Z (i:Nat) l w=>i<=a7.T.length/\St 65 S w0 ((12,nI i)::Y) [(G,bV (Qm a7 a t a8 c B E) 38)] Z l w) (λi=>a7.T.length-i) 0 (⟨cX _,by exact(h).sub sA⟩) ?_;clear h;rintro i l w ⟨O,h⟩;refine gC h<|au 0x12d31 ?_;intro l w h;refine Zb h I (λr=>?_) (λr=>?_)
 ·have D:i<a7.T.length:=dT r;obtain ⟨f,j,rfl⟩:=h.row_addr (ad:=t) (M:=cellsOf Ze a7.T) mm (nE 3);have b:=getD_mem a7.T (d:=(0,0,0)) D;refine gC h<|au 0x4de3125431817 ?_;refine zw [_,_] I call244 (QC a7 _ _ _ _ _ _ i D<|hv.num _ b) (zz Lc λU=>stW I I Gj ?_);refine au 0x82443112 ?_;clear h;intro l w h;refine lpG h [1,3,4,11,12,18] pkL (λY Z (k:Nat) l w=>k<=i/\St 65 S w0 ((19,nI k)::Y) [(U,bV (Kr (pt a7 (a7.T.getD i (0,0,0)).1) (pt a7 (a7.T.getD i (0,0,0)).2.1)<|pt a7 (a7.T.getD i (0,0,0)).2.2) 107),(G,bV (Qm a7 a (some ⟨f,j,none⟩) a8 c B E) 38)] Z l w) (λk=>i-k) 0 (⟨cX _,by exact(h).sub sA⟩) ?_;clear h;rintro k l w ⟨N,h⟩;refine gC h<|au 0x12d31 ?_;intro l w h;refine Zb h I (λs=>?_) (λs=>?_)
  ·have z:k<i:=dT s;have g:=getD_mem a7.T (d:=(0,0,0)) (show k<a7.T.length by omega);refine gC h<|au 0x4de3125431817 ?_;refine zw [_,_] I call244 (QC a7 _ _ _ _ _ _ k oo<|hv.num _ g) (zz Lc λb6=>stW I I Gj ?_);refine au 0x5bf5bf312 ?_;refine zv [_,_] I call245 (UQ (pt a7 (a7.T.getD i (0,0,0)).1) (pt a7 (a7.T.getD i (0,0,0)).2.1) (pt a7 (a7.T.getD i (0,0,0)).2.2) (pt a7 (a7.T.getD k (0,0,0)).1) (pt a7 (a7.T.getD k (0,0,0)).2.1) (pt a7 (a7.T.getD k (0,0,0)).2.2) ((hv.tri b).1.mono e) ((hv.tri b).2.1.mono e) ((hv.tri b).2.2.mono e) ((hv.tri g).1.mono e) ((hv.tri g).2.1.mono e) ((hv.tri g).2.2.mono e)) ?_;clear h;intro l w h;refine Zi h (λx h=>?_) (λx h=>?_);focus
    refine gL h<|au 0x440f ?_;refine zo 29 I I I<|zo 29 I I I<|zo 29 I I I<|zo 29 I I I<|au 0x22e ?_;clear h;intro l w h
   rotate_left;focus
    refine gL h<|au 0x440f ?_;refine ldQ 29 Bc ?_;refine ldQ 29 Bc ?_;clear h;intro l w h;refine Zq 29 h I I<|Xn h (vs:=[_,_]) I call245 (UQ (pt a7 (a7.T.getD k (0,0,0)).1) (pt a7 (a7.T.getD k (0,0,0)).2.1) (pt a7 (a7.T.getD k (0,0,0)).2.2) (pt a7 (a7.T.getD i (0,0,0)).1) (pt a7 (a7.T.getD i (0,0,0)).2.1) (pt a7 (a7.T.getD i (0,0,0)).2.2) ((hv.tri g).1.mono e) ((hv.tri g).2.1.mono e) ((hv.tri g).2.2.mono e) ((hv.tri b).1.mono e) ((hv.tri b).2.1.mono e) ((hv.tri b).2.2.mono e)) dd ?_;clear h;intro l w h;refine gL h (bbT (λy=>(by exfalso;have:=hv.apart i k z D;unfold rr at this;rw[x,y] at this;cases this)) λy=>zq 29 I I (.unOp I<|Yt _)<|au 0x23e ?_);clear h;intro l w h
   all_goals
    refine cW<|Zj h I<|gC h<|zk<|zr<|zp (.pN (k+1)<|.add I I)<|au 0x24 ?_;clear h;intro l w h;exact⟨k+1,⟨oo,tO h⟩,oo⟩
  have m:i=k:=dF s;subst m;refine gC h<|au 0x82421f70f82f310e ?_;clear h;intro l w h;refine lpG h [1,3,4,11,12,18,19,37,38] pkL (λY Z (q:Nat) l w=>q<=a7.P.length/\St 65 S w0 ((39,nI q)::Y) [(U,bV (Kr (pt a7 (a7.T.getD i (0,0,0)).1) (pt a7 (a7.T.getD i (0,0,0)).2.1)<|pt a7 (a7.T.getD i (0,0,0)).2.2) 107),(G,bV (Qm a7 a (some ⟨f,j,none⟩) a8 c B E) 38)] Z l w) (λq=>a7.P.length-q) 0 (⟨cX _,by exact(h).sub sA⟩) ?_;clear h;rintro q l w ⟨Q,h⟩;refine gC h<|au 0x12d31 ?_;intro l w h;refine Zb h I (λp=>?_) (λp=>?_)
  ·have n:q<a7.P.length:=dT p;obtain ⟨J,H,rfl⟩:=h.row_addr (ad:=a) (M:=cellsOf encPt a7.P) mm (nE 10);refine gC h<|au 0x431817 ?_;refine zp (.indexAddr I I<|Wi _ _ _ _ _ oo)<|zD I mm (cells_lt (k:=10) dd (λ_=>rfl) a7.P q oo) isAgg106 sizeOf106 (Zh (k:=10) (λ_=>rfl) ((λ_=>rfl)) a7.P (0,0) q oo) (.inl I) ?_;refine zz Xe λb8=>za I<|stW I I Zv ?_;refine au 0x62f4b0f31f312 ?_;refine zp (.slice I none none none I I I<|YE _ _) ?_;clear h;intro l w h;replace h:=h.derive (R:=Row (some ⟨f,j+i*3,none⟩) (List.map Qb [(a7.T.getD i (0,0,0)).1,(a7.T.getD i (0,0,0)).2.1,(a7.T.getD i (0,0,0)).2.2])) (λX W=>row_I3 D (W _ mm));refine gL h<|zm I<|zw [_,_] I call144 (sV [(a7.T.getD i (0,0,0)).1,(a7.T.getD i (0,0,0)).2.1,(a7.T.getD i (0,0,0)).2.2] q _ _ ss) ?_;clear h;intro l w h;refine Zi h (λu h=>?_) (λu h=>?_);focus
    refine gL h<|au 0x22ed5fd5fd5fd5fd5fd5fd5fd5fd5f440f ?_;clear h;intro l w h
   rotate_left;focus
    refine gL h<|au 0x440f ?_;refine zq 52 I I (.indexAddr I I<|Cq _ _)<|ldQ 52 Bd ?_;refine zq 52 I I (.indexAddr I I<|Cp _ _)<|ldQ 52 Ai ?_;refine zq 52 I I (.indexAddr I I<|Co _ _)<|ldQ 52 Ah ?_;refine ldQ 52 Jq ?_;clear h;intro l w h;refine Zq 52 h I I<|Xn h (vs:=[_,_,_,_]) I call65 (lM (pt a7 (a7.T.getD i (0,0,0)).1) (pt a7 (a7.T.getD i (0,0,0)).2.1) (pt a7 (a7.T.getD i (0,0,0)).2.2) (pt a7 q) ((hv.tri b).1.mono e) ((hv.tri b).2.1.mono e) ((hv.tri b).2.2.mono e) ((hv.ptK n).mono e) (Rat.ne_of_gt<|hv.tw b)<|hv.out' b n<|qw u) dd ?_;clear h;intro l w h;refine gL h<|zq 52 I I (.neq I I) (bbF (λv=>(by exfalso;cases v)) λv=>au 0x23e ?_);clear h;intro l w h
   all_goals
    refine cW<|Zj h I<|gC h<|zk<|zr<|zp (.pN (q+1)<|.add I I)<|au 0x24 ?_;clear h;intro l w h;exact⟨q+1,⟨oo,tO h⟩,oo⟩
  have A:a7.P.length=q:=dF p;subst A;refine gC h<|ze<|zr<|zp (.pN (i+1)<|.add I I)<|au 0x24 ?_;clear h;intro l w h;exact⟨i+1,⟨oo,tO h⟩,oo⟩
 have C:a7.T.length=i:=dF r;subst C;refine gC h<|au 0x625310e ?_;refine rtK I
theorem Un: RN (Instr.fieldAt 114 (.pointer (some ⟨n,p,none⟩)) 0) (.pointer (some ⟨n,p+0,none⟩)):=λw=>by
 simp[go_sem]
theorem mi: Zm false 1 #[e,f,g,h] 0=some e:=rfl
theorem Nv: RN (Instr.fieldAt 114 (.pointer (some ⟨n,p,none⟩)) 1) (.pointer (some ⟨n,p+1,none⟩)):=λw=>by
 simp[go_sem]
theorem Fy: Zm false 1 #[e,f,g,h] 1=some f:=rfl
abbrev Zx(x:Nat×Nat): Value:=.agg #[.int .i64 ((x.1:Nat):Int),.int .i64 ((x.2:Nat):Int)]
theorem BK: (zeroValue 114).run prog w=.ok (Qr ed0) w:=zeroValue114 w
theorem cfE_or: orI [Fc ((b8.a:Nat):Int) ((b9.a:Nat):Int),Fc ((b8.b:Nat):Int) ((b9.b:Nat):Int)]=cfE b8 b9:=by
 have h:∀i k:Nat,Fc ((i:Nat):Int) ((k:Nat):Int)=rh i k:=λi k=>by
  unfold Fc rh;by_cases h1:i<k
  ·rw[if_pos oo,if_pos h1]
  rw[if_neg oo,if_neg h1];by_cases c:k<i
  ·rw[if_pos oo,if_pos c]
  rw[if_neg oo,if_neg c]
 rw[h,h];unfold cfE orI orI orI;by_cases h1:rh b8.a b9.a=0
 ·simp[h1];exact λe=>e.symm
 simp[h1]
theorem ck2_ed: RN (Instr.checkKey s 10000 279 (Zx Q)) ():=λw=>by
 rw[show(10000:Nat)=9999+1 from rfl,Instr.checkKey];have h1:=Ik s 9998 (Q.1:Int);have a:=Ik s 9998 (Q.2:Int);simp[go_sem,h1,a]
theorem eq2_ed: RN (Op.equal 279 (Zx Q) (Zx c3)) (decide (Q=c3)):=λw=>by
 obtain ⟨i,j⟩:=Q;obtain ⟨k,l⟩:=c3;unfold Op.equal;rw[show Op.maxDepth=9999+1 from rfl,Op.equalIn];simp[go_sem];by_cases h1:i=k<;>by_cases a:j=l<;>simp[h1,a,AP]
theorem mk_ed:MK prog 277 279 114 Zx (Qr ed0):=MK.ofAgg (D:=_) runUnderlying277 BK runUnderlying279 (λ_ _=>rfl) ck2_ed (λx=>by simp[Instr.sameBits]) eq2_ed
theorem ck2_cn: RN (Instr.checkKey s 10000 304 (Zx Q)) ():=λw=>by
 rw[show(10000:Nat)=9999+1 from rfl,Instr.checkKey];have h1:=Ik s 9998 (Q.1:Int);have a:=Ik s 9998 (Q.2:Int);simp[go_sem,h1,a]
theorem eq2_cn: RN (Op.equal 304 (Zx Q) (Zx c3)) (decide (Q=c3)):=λw=>by
 obtain ⟨i,j⟩:=Q;obtain ⟨k,l⟩:=c3;unfold Op.equal;rw[show Op.maxDepth=9999+1 from rfl,Op.equalIn];simp[go_sem];by_cases h1:i=k<;>by_cases a:j=l<;>simp[h1,a,AP]
theorem CS:MK prog 303 304 3 Zx (Qb 0):=MK.ofAgg (D:=_) runUnderlying303 zeroValue3 runUnderlying304 (λ_ _=>rfl) ck2_cn (λx=>by simp[Instr.sameBits]) eq2_cn
theorem C_edg1: Jk prog 193 [Qr b8,Qr b9] (.int .i64 (cfE b8 b9)):=by
 refine fnI func193 I ntmps193 λS w0 d=>zS (zx I λf=>zx I λe=>za I<|zn<|zs<|yE [0,1,2,3,5,6,7,8,4,9,10,11,12]<|au 0x28f87f ?_);refine au 0x28f87f ?_;refine au 0x77f ?_;refine ldY Fy ?_;refine au 0x77f ?_;refine ldY Fy ?_;refine yv [_,_] I I call40 (QD ((((b8).a:Nat):Int)) ((((b9).a:Nat):Int)))<|yv [_,_] I I call40 (QD ((((b8).b:Nat):Int)) ((((b9).b:Nat):Int))) ?_;refine Gx d I kk [(_,_),(_,_)] I (Xa _ _) (List.map Ib [Fc ((b8.a:Nat):Int) ((b9.a:Nat):Int),Fc ((b8.b:Nat):Int) ((b9.b:Nat):Int)]) I dd ?_;intro c;refine yw [_] I I call38 (C_Or _ _ ([Fc ((((b8).a:Nat):Int)) ((((b9).a:Nat):Int)),Fc ((((b8).b:Nat):Int)) ((((b9).b:Nat):Int))]) nb)<|au 0x6a4e ?_;refine rtK ?_;rw[<-cfE_or]
theorem sD(b c:Nat)(p:List Ed)(R:List Value)(σ:List (Nat×Obj))(Φ:List Zs)(g:0<p.length)(hd:∀x∈p,∀y∈p,x.a=y.a->x.b=y.b->x=y)(k:p.length<=1000000):
  GX prog 192 [.slice (some ⟨b,0,none⟩) p.length c,.func (.func 193) #[] #[]] ((b,.cells (cellsOf Qr p++R).toArray 114 (0,0))::σ) Φ
   (λv σ' Φ'=>v=.tuple #[]/\σ'=(b,.cells (cellsOf Qr (fW p)++R).toArray 114 (0,0))::σ/\Φ'=Φ):=by
 refine fn_introM func192 I ntmps192 nb ?_;intro S w0 a w j h;refine gC h<|au 0x44432523f431 ?_;refine zp (.convert I<|J1 _<|wrap_u64 _ oo oo)<|zv [_] I call115 (GV p.length oo)<|zm I ?_;clear h;intro a w h;refine Zc<|Vb h j (vs:=[_,_,_,_,_]) I call267 (C_pdqE b c p R (Lib.bitLen p.length) (gO (Lib.bitLen_le p.length 62 oo oo) oo) g hd C_edg1 k σ Φ) (cr _) ss ss ?_;clear h;rintro i f e a w ⟨rfl,rfl,d⟩ h;refine wpList_nil<|XA h (A2 I) ⟨rfl,rfl,d⟩ (fT _) (λ_ h=>h)
theorem HB: RN (Instr.build 279 [(0,.int .i64 S),(1,.int .i64 T)].toArray) (.agg #[.int .i64 S,.int .i64 T]):=λw=>by simp[go_sem]
theorem Yc: Zp #[e,f,g,h] 0 [b2,e7,e8,e9]=#[b2,e7,e8,e9]:=rfl
theorem Nq: RN (Instr.fieldAt 279 (.pointer (some ⟨n,p,none⟩)) 0) (.pointer (some ⟨n,p+0,none⟩)):=λw=>by
 simp[go_sem]
theorem Np: RN (Instr.fieldAt 279 (.pointer (some ⟨n,p,none⟩)) 1) (.pointer (some ⟨n,p+1,none⟩)):=λw=>by
 simp[go_sem]
theorem Cb: RN (Instr.build 114 [(0,.int .i64 S),(1,.int .i64 T),(2,.int .i64 h0),(3,.int .i64 h2)].toArray) (.agg #[.int .i64 S,.int .i64 T,.int .i64 h0,.int .i64 h2]):=λw=>by simp[go_sem]
theorem C2: RN (Instr.fieldAt 114 (.pointer (some ⟨n,p,none⟩)) 2) (.pointer (some ⟨n,p+2,none⟩)):=λw=>by
 simp[go_sem]
theorem Dv: Zm false 1 #[e,f,g,h] 2=some g:=rfl
theorem Iq: Zp #[e,f,g,h] 2 [b2]=#[e,f,b2,h]:=rfl
theorem Az: RN (Instr.fieldAt 114 (.pointer (some ⟨n,p,none⟩)) 3) (.pointer (some ⟨n,p+3,none⟩)):=λw=>by
 simp[go_sem]
theorem Du: Zm false 1 #[e,f,g,h] 3=some h:=rfl
theorem Ip: Zp #[e,f,g,h] 3 [b2]=#[e,f,g,b2]:=rfl
theorem Eh: Zm true 4 #[e,f,g,h] 0=some (.agg #[e,f,g,h]):=rfl
theorem L8: (Instr.buildSlice 110 1 [(0,.agg #[c4,c5,c6,h3])].toArray).run prog w=.ok (.slice (some ⟨w.heap.size,0,none⟩) 1 1) (w.alloc (.cells #[c4,c5,c6,h3] 114 (0,0))):=by
 simp[go_sem]
theorem Ca: (Go.builtin .min #[3,3] V W #[.int .i64 ((K:Nat):Int),.int .i64 ((y:Nat):Int)]).run prog w=.ok (.value (.int .i64 ((min K y:Nat):Int))) w:=by
 simp[go_sem];omega
theorem C6: (Go.builtin .max #[3,3] V W #[.int .i64 ((K:Nat):Int),.int .i64 ((y:Nat):Int)]).run prog w=.ok (.value (.int .i64 ((max K y:Nat):Int))) w:=by
 simp[go_sem];omega
theorem Cs(h:(!(Zo U c7).isSome)=false): Jx U c7=(Zo U c7).getD ed0:=by
 unfold Jx;cases a:Zo U c7 with
 | none=>rw[a] at h;cases h
 | some e=>rfl
theorem Ct(h:(!(Zo U c7).isSome)=true): Jx U c7=⟨c7.1,c7.2, -1, -1⟩:=by
 unfold Jx;cases a:Zo U c7 with
 | none=>rfl
 | some e=>rw[a] at h;cases h
theorem TJ(h:c8.Nodup)(hl:∀j∈c8,j<n): c8.length<=n:=by
 have:=Vp (l:=c8) (l':=List.range n) h (λk hk=>List.mem_range.2 (hl k hk));simpa using this
theorem V2(h:c8.Nodup)(hl:∀j∈c8,j<n)(ha:∀j,j<n->j∈c8): c8.Perm (List.range n) :=
 (List.perm_ext_iff_of_nodup h List.nodup_range).2 λj=>⟨λhj=>List.mem_range.2 (hl j hj),λhj=>ha j (List.mem_range.1 hj)⟩
theorem Y9: (List.range U.length).map (λj=>(U.getD j ((0,0),ed0)).2)=U.map (·.2):=by
 apply ur;intro j;rw[List.getElem?_map,List.getElem?_map];by_cases h:j<U.length
 ·rw[List.getElem?_range h,List.getElem?_eq_getElem h];simp[List.getD,h]
 rw[List.getElem?_eq_none (by simp;omega),List.getElem?_eq_none oo];rfl
theorem gA{l:List Ed}(h:l.Perm h4)(hd:∀x∈h4,∀y∈h4,x.a=y.a->x.b=y.b->x=y): fW l=fW h4:=by
 refine G0 ((Vf l).trans<|h.trans (Vf h4).symm) (Bm l) (Bm h4) (λx hx y c=>hd x (h.mem_iff.1 ((Vf l).mem_iff.1 hx)) y<|h.mem_iff.1 ((Vf l).mem_iff.1 c))
theorem ed_dif(h:EdInv n p U): ∀x∈U.map (·.2),∀y∈U.map (·.2),x.a=y.a->x.b=y.b->x=y:=by
 intro x hx y g h1 f;obtain ⟨i,c,rfl⟩:=List.mem_map.1 hx;obtain ⟨q,hq,rfl⟩:=List.mem_map.1 g;have d:=h.2 i c;have a2:=h.2 q hq;have e:i.1=q.1:=uI (by rw[<-d.a, <-a2.a,h1]) (by rw[<-d.b, <-a2.b,f]);have g1:=JL h.1 c;have g2:=JL h.1 hq;rw[e,g2] at g1;exact(tB g1).symm
theorem iD{α:Type}[DecidableEq α](m:List (α×h5))(x:α)(y:h5): 0<(Va m x y).length:=by
 cases m with
 | nil=>simp[Va]
 | cons p r=>unfold Va;split<;>simp
theorem dw(h:0<C.length): 0<(Qy C C.length).length:=by
 obtain ⟨t,ht⟩:∃t,C.length=t+1:=⟨C.length-1,oo⟩
 rw[ht];exact iD _ _ _
theorem ND(h:decide ((p:Int)<(i:Int))=true)(c:(F.l == -1)=true): Kl n p i F={ F with l:=(n:Int) }:=by
 unfold Kl;rw[if_pos ⟨by have:=of_decide_eq_true h;omega,by simpa using c⟩]
theorem NC(h:decide ((p:Int)>(i:Int))=true)(c:(F.r == -1)=true): Kl n p i F={ F with r:=(n:Int) }:=by
 have:=of_decide_eq_true h;unfold Kl;rw[if_neg (λd=>by omega),if_pos ⟨oo,by simpa using c⟩]
theorem GF(h:decide ((p:Int)<(i:Int))=true)(c:(F.l == -1)=false): Kl n p i F=F:=by
 have:=of_decide_eq_true h;unfold Kl;rw[if_neg (λd=>by rw[d.2] at c;cases c),if_neg (λd=>by omega)]
theorem GB(h:decide ((p:Int)<(i:Int))=false)(c:(F.r == -1)=false): Kl n p i F=F:=by
 have:=of_decide_eq_false h;unfold Kl;rw[if_neg (λd=>by omega),if_neg (λd=>by rw[d.2] at c;cases c)]
theorem GA(h:decide ((p:Int)<(i:Int))=false)(c:decide ((p:Int)>(i:Int))=false): Kl n p i F=F:=by
 have:=of_decide_eq_false h;have:=of_decide_eq_false c;unfold Kl;rw[if_neg (λd=>by omega),if_neg (λd=>by omega)]
abbrev gqP(l:List (Nat×Nat×Nat))(k:Nat):=DR k (tg l k).1 (tg l k).2.1 (Qy l k)
abbrev gqQ(l:List (Nat×Nat×Nat))(k:Nat):=DR k (tg l k).2.1 (tg l k).2.2 (gqP l k)
theorem fm(hn:∀t∈o,Ad K t=true)(h0:0<o.length)(hl:o.length<=100000): Ctr prog 103 [.slice a o.length c] [Row a (cellsOf Ze o)]
   (λv Ψ => ∃b3,v=.slice b3 (Za o).length (Za o).length/\Ψ=[Row b3 (cellsOf Qr (Za o))]):=by
 refine fnI func103 I ntmps103 λS w0 hS=>au 0x312531 ?_;intro l w h;refine Zc<|EM Zx Qr h dd ?_;clear h;intro d l w h;refine gL h<|au 0x824a0f431125 ?_;clear h;intro l w h;replace h:=h.same I (show _=[(d,mB Zx Qr (Qy o 0))] from I) I;refine lpG h [3,16,17] pkL (λY Z (k:Nat) l w=>k<=o.length/\St 98 S w0 ((18,nI k)::Y) [(d,mB Zx Qr<|Qy o k)] Z l w) (λk=>o.length-k) 0 (⟨cX _,by exact(h).sub sA⟩) ?_;clear h;rintro k l w ⟨e1,h⟩;refine gC h<|au 0x12d31 ?_;intro l w h;refine Zb h I (λL=>?_) (λL=>?_)
 ·have c6:k<o.length:=dT L;obtain ⟨g,f,rfl⟩:=h.row_addr (ad:=a) (M:=cellsOf Ze o) mm (nE 3);refine gC h<|au 0x62f431817 ?_;refine zD I mm (cells_lt (k:=3) dd (λ_=>rfl) o k oo) isAgg133 sizeOf133 (Zh (k:=3) (λ_=>rfl) ((λ_=>rfl)) o (0,0,0) k oo) (.inl I) ?_;refine zz Bj λp=>za I<|stW I I Qi ?_;refine au 0x824312 ?_;refine lpR 4<|rdS<|au 0x1254318171e128e31 ?_;refine yE [0,1,2,3,4,5,6,7,8,9]<|au 0xeec3f9 ?_;clear h;refine au 0x02fb3fa6ff9f9 ?_;refine au 0x4431a4e4e ?_;refine zp (.builtin [_,_] I (λw ty cs=>Ca _ _ w ty cs))<|zm I<|zm I<|zp (.builtin [_,_] I (λw ty cs=>C6 _ _ w ty cs))<|zp (.build [(_,_),(_,_)] I<|HB _ _) (zz zeroValue279 λD=>stW I I Zt ?_);refine au 0x5e4312 ?_;intro l w h;refine Zc<|ZU h mk_ed (u:=(gqA o k)) (m:=Qy o k) I I mm dd ?_;clear h;intro l h;refine gL h<|au 0xbb4 ?_;refine zz BK λb5=>stW I I Yc ?_;refine au 0x25 ?_;clear h;intro l w h;refine Yv (λl w=>St 98 S w0 [(3,.map<|some d),(4,nI k),(5,pB p),(6,.int .i64 0),(7,nI ((tg o k).1)),(8,nI ((tg o k).2.1)),(9,pB D),(10,pB b5),(11,.bool ((Zo (Qy o k) ((gqA o k))).isSome)),(16,.slice (some ⟨g,f,none⟩) o.length c),(17,nI o.length),(18,nI k),(19,.bool<|decide (((k:Nat):Int)<((o.length:Nat):Int))),(20,nI k),(22,Ze<|tg o k),(23,.int .i64 0),(24,.bool true),(25,.int .i64 0),(26,.int .i64 0),(27,pB p),(28,nI ((tg o k).1)),(29,.int .i64 0),(30,.int .i64 1),(31,.int .i64 1),(32,.pointer<|some ⟨p,1,none⟩),(33,nI ((tg o k).2.1)),(34,nI ((tg o k).1)),(35,nI ((tg o k).2.1)),(36,nI<|min (tg o k).1 (tg o k).2.1),(37,nI ((tg o k).1)),(38,nI ((tg o k).2.1)),(39,nI<|max (tg o k).1 (tg o k).2.1),(40,Zx ((gqA o k))),(41,.tuple #[Qr ((Zo (Qy o k) ((gqA o k))).getD ed0),.bool ((Zo (Qy o k) ((gqA o k))).isSome)]),(42,.map<|some d),(43,Zx ((gqA o k))),(44,.tuple #[Qr ((Zo (Qy o k) ((gqA o k))).getD ed0),.bool ((Zo (Qy o k) ((gqA o k))).isSome)]),(45,Qr ((Zo (Qy o k) ((gqA o k))).getD ed0)),(46,.bool ((Zo (Qy o k) ((gqA o k))).isSome))] [(b5,bV (Qr<|Jx (Qy o k)<|Zg (tg o k).1 (tg o k).2.1) 114),(D,bV (Zx ((gqA o k))) 279),(p,bV (Ze<|tg o k) 133),(d,mB Zx Qr<|Qy o k)] [Row (some ⟨g,f,none⟩) (cellsOf Ze o)] l w) ?_ ?_
  ·refine gC h<|au 0x240f431 ?_;clear h;intro l w h;refine Zb h I (λF=>?_) (λF=>?_)
   ·refine gC h<|zr<|zp (.fA I Nq)<|au 0x01f ?_;refine zp (.fA I Np)<|au 0xd1f ?_;refine zp (.build [(_,_),(_,_),(_,_),(_,_)] I<|Cb _ _ _ _)<|stW I I Yc ?_;clear h;intro l w h;refine wpList_nil ?_;have b:Jx (Qy o k) (Zg (tg o k).1 (tg o k).2.1)=⟨((gqA o k)).1,((gqA o k)).2,(-1),(-1)⟩:=by first|exact Ct (by assumption)|exact Cs (by assumption)
    exact(h.same I (by first|(rw[b];done)|(rw[b];rfl)) I).sub sA
   refine wp_skip ?_;have b:Jx (Qy o k) (Zg (tg o k).1 (tg o k).2.1)=(Zo (Qy o k) ((gqA o k))).getD ed0:=by first|exact Ct (by assumption)|exact Cs (by assumption)
   exact(h.same I (by first|(rw[b];done)|(rw[b];rfl)) I).sub sA
  clear h;intro l w h;refine Yv (λl w=>St 98 S w0 [(3,.map<|some d),(4,nI k),(5,pB p),(6,.int .i64 0),(7,nI ((tg o k).1)),(8,nI ((tg o k).2.1)),(9,pB D),(10,pB b5),(11,.bool ((Zo (Qy o k) ((gqA o k))).isSome)),(16,.slice (some ⟨g,f,none⟩) o.length c),(17,nI o.length),(18,nI k),(19,.bool<|decide (((k:Nat):Int)<((o.length:Nat):Int))),(20,nI k),(22,Ze<|tg o k),(23,.int .i64 0),(24,.bool true),(25,.int .i64 0),(26,.int .i64 0),(27,pB p),(28,nI ((tg o k).1)),(29,.int .i64 0),(30,.int .i64 1),(31,.int .i64 1),(32,.pointer<|some ⟨p,1,none⟩),(33,nI ((tg o k).2.1)),(34,nI ((tg o k).1)),(35,nI ((tg o k).2.1)),(36,nI<|min (tg o k).1 (tg o k).2.1),(37,nI ((tg o k).1)),(38,nI ((tg o k).2.1)),(39,nI<|max (tg o k).1 (tg o k).2.1),(40,Zx ((gqA o k))),(41,.tuple #[Qr ((Zo (Qy o k) ((gqA o k))).getD ed0),.bool ((Zo (Qy o k) ((gqA o k))).isSome)]),(42,.map<|some d),(43,Zx ((gqA o k))),(44,.tuple #[Qr ((Zo (Qy o k) ((gqA o k))).getD ed0),.bool ((Zo (Qy o k) ((gqA o k))).isSome)]),(45,Qr ((Zo (Qy o k) ((gqA o k))).getD ed0)),(46,.bool ((Zo (Qy o k) ((gqA o k))).isSome))] [(b5,bV (Qr<|Kl k (tg o k).1 (tg o k).2.1<|Jx (Qy o k)<|Zg (tg o k).1 (tg o k).2.1) 114),(D,bV (Zx ((gqA o k))) 279),(p,bV (Ze<|tg o k) 133),(d,mB Zx Qr<|Qy o k)] [Row (some ⟨g,f,none⟩) (cellsOf Ze o)] l w) ?_ ?_
  ·refine gC h<|au 0xd44318 ?_;clear h;intro l w h;refine Zi h (λG h=>?_) (λG h=>?_);focus
    refine gL h<|zm I<|zq 58 I I (.fA I C2)<|ldQ 58 Dv ?_;refine zq 58 I I (.eql I I) ?_;clear h;intro l w h;refine Zi h (λB h=>?_) (λB h=>?_)
    ·refine gL h<|au 0x1df431e253e ?_;refine stW I I Iq ?_;clear h;intro l w h;refine wpList_nil ?_;have b:Kl k (tg o k).1 (tg o k).2.1 (Jx (Qy o k) (Zg (tg o k).1 (tg o k).2.1))={ (Jx (Qy o k) (Zg (tg o k).1 (tg o k).2.1)) with l:=((k:Nat):Int) }:=by first|exact ND (by assumption) (by assumption)|exact NC (by assumption) (by assumption)|exact GF (by assumption) (by assumption)|exact GB (by assumption) (by assumption)|exact GA (by assumption) (by assumption)
     exact(h.same I (by first|(rw[b];done)|(rw[b];rfl)) I).sub sA
    refine gL h<|au 0x253e ?_;clear h;intro l w h
   rotate_left;focus
    refine gL h<|au 0x252ec5fc5fc5f4 ?_;clear h;intro l w h
   all_goals
    refine cW<|Zj h I<|gC h<|au 0xc0f4431 ?_;clear h;intro l w h;refine Zi h (λC h=>?_) (λC h=>?_);focus
     refine gL h<|zm I<|zq 69 I I (.fA I Az)<|ldQ 69 Du ?_;refine zq 69 I I (.eql I I) ?_;clear h;intro l w h;refine Zi h (λE h=>?_) (λE h=>?_)
     ·refine gL h<|au 0x431e253e ?_;refine zp (.fA I Az)<|stW I I Ip ?_;clear h;intro l w h;refine wpList_nil ?_;have b:Kl k (tg o k).1 (tg o k).2.1 (Jx (Qy o k) (Zg (tg o k).1 (tg o k).2.1))={ (Jx (Qy o k) (Zg (tg o k).1 (tg o k).2.1)) with r:=((k:Nat):Int) }:=by first|exact ND (by assumption) (by assumption)|exact NC (by assumption) (by assumption)|exact GF (by assumption) (by assumption)|exact GB (by assumption) (by assumption)|exact GA (by assumption) (by assumption)
      exact(h.same I (by first|(rw[b];done)|(rw[b];rfl)) I).sub sA
     refine gL h<|au 0x253e ?_;clear h;intro l w h
    rotate_left;focus
     refine gL h<|au 0x252eb5fb5fb5f4 ?_;clear h;intro l w h
    all_goals
     refine cW<|Zj h I<|wp_skip ?_;have b:Kl k (tg o k).1 (tg o k).2.1 (Jx (Qy o k) (Zg (tg o k).1 (tg o k).2.1))=Jx (Qy o k) (Zg (tg o k).1 (tg o k).2.1):=by first|exact ND (by assumption) (by assumption)|exact NC (by assumption) (by assumption)|exact GF (by assumption) (by assumption)|exact GB (by assumption) (by assumption)|exact GA (by assumption) (by assumption)
     exact(h.same I (by first|(rw[b];done)|(rw[b];rfl)) I).sub sA
  clear h;intro l w h;refine gC h<|au 0x5e43 ?_;refine ldZ Eh ?_;clear h;intro l w h;refine Zc<|HY h mk_ed (u:=(gqA o k)) (q:=Kl k (tg o k).1 (tg o k).2.1<|Jx (Qy o k)<|Zg (tg o k).1 (tg o k).2.1) (m:=Qy o k) I I I uu ?_;clear h;intro l w h;replace h:=h.same I (show _=[(b5,bV (Qr (Kl k (tg o k).1 (tg o k).2.1 (Jx (Qy o k) (Zg (tg o k).1 (tg o k).2.1)))) 114),(D,bV (Zx ((gqA o k))) 279),(p,bV (Ze (tg o k)) 133),(d,mB Zx Qr (gqP o k))] from I) I;refine gL h<|au 0x2452f32 ?_;clear h;intro l w h;replace h:St 98 S w0 [(3,.map (some d)),(4,nI k),(5,pB p),(16,.slice (some ⟨g,f,none⟩) o.length c),(17,nI o.length),(18,nI k),(23,.int .i64 1),(24,.bool true)] [(p,bV (Ze (tg o k)) 133),(d,mB Zx Qr (gqP o k))] [Row (some ⟨g,f,none⟩) (cellsOf Ze o)] l w:=by exact tO h
  refine Zk ?_;refine gC h<|au 0x1254318171e128e31 ?_;refine yE [0,1,2,3,4,5,6,7,8,9]<|au 0x02fb3f9 ?_;clear h;refine au 0x41fa3f96f17f9 ?_;refine au 0x4431a4e4e ?_;refine zp (.builtin [_,_] I (λw ty cs=>Ca _ _ w ty cs))<|zm I<|zm I<|zp (.builtin [_,_] I (λw ty cs=>C6 _ _ w ty cs))<|zp (.build [(_,_),(_,_)] I<|HB _ _) (zz zeroValue279 λD=>stW I I Zt ?_);refine au 0x5e4312 ?_;intro l w h;refine Zc<|ZU h mk_ed (u:=(gqB o k)) (m:=gqP o k) I I mm dd ?_;clear h;intro l h;refine gL h<|au 0xbb4 ?_;refine zz BK λb5=>stW I I Yc ?_;refine au 0x25 ?_;clear h;intro l w h;refine Yv (λl w=>St 98 S w0 [(3,.map<|some d),(4,nI k),(5,pB p),(6,.int .i64 1),(7,nI ((tg o k).2.1)),(8,nI ((tg o k).2.2)),(9,pB D),(10,pB b5),(11,.bool ((Zo (gqP o k) ((gqB o k))).isSome)),(16,.slice (some ⟨g,f,none⟩) o.length c),(17,nI o.length),(18,nI k),(23,.int .i64 1),(24,.bool true),(25,.int .i64 1),(26,.int .i64 1),(27,.pointer<|some ⟨p,1,none⟩),(28,nI ((tg o k).2.1)),(29,.int .i64 1),(30,.int .i64 2),(31,.int .i64 2),(32,.pointer<|some ⟨p,2,none⟩),(33,nI ((tg o k).2.2)),(34,nI ((tg o k).2.1)),(35,nI ((tg o k).2.2)),(36,nI<|min (tg o k).2.1 (tg o k).2.2),(37,nI ((tg o k).2.1)),(38,nI ((tg o k).2.2)),(39,nI<|max (tg o k).2.1 (tg o k).2.2),(40,Zx ((gqB o k))),(41,.tuple #[Qr ((Zo (gqP o k) ((gqB o k))).getD ed0),.bool ((Zo (gqP o k) ((gqB o k))).isSome)]),(42,.map<|some d),(43,Zx ((gqB o k))),(44,.tuple #[Qr ((Zo (gqP o k) ((gqB o k))).getD ed0),.bool ((Zo (gqP o k) ((gqB o k))).isSome)]),(45,Qr ((Zo (gqP o k) ((gqB o k))).getD ed0)),(46,.bool ((Zo (gqP o k) ((gqB o k))).isSome))] [(b5,bV (Qr<|Jx (gqP o k)<|Zg (tg o k).2.1 (tg o k).2.2) 114),(D,bV (Zx ((gqB o k))) 279),(p,bV (Ze<|tg o k) 133),(d,mB Zx Qr<|gqP o k)] [Row (some ⟨g,f,none⟩) (cellsOf Ze o)] l w) ?_ ?_
  ·refine gC h<|au 0x240f431 ?_;clear h;intro l w h;refine Zb h I (λF=>?_) (λF=>?_)
   ·refine gC h<|zr<|zp (.fA I Nq)<|au 0x01f ?_;refine zp (.fA I Np)<|au 0xd1f ?_;refine zp (.build [(_,_),(_,_),(_,_),(_,_)] I<|Cb _ _ _ _)<|stW I I Yc ?_;clear h;intro l w h;refine wpList_nil ?_;have b:Jx (gqP o k) (Zg (tg o k).2.1 (tg o k).2.2)=⟨((gqB o k)).1,((gqB o k)).2,(-1),(-1)⟩:=by first|exact Ct (by assumption)|exact Cs (by assumption)
    exact(h.same I (by first|(rw[b];done)|(rw[b];rfl)) I).sub sA
   refine wp_skip ?_;have b:Jx (gqP o k) (Zg (tg o k).2.1 (tg o k).2.2)=(Zo (gqP o k) ((gqB o k))).getD ed0:=by first|exact Ct (by assumption)|exact Cs (by assumption)
   exact(h.same I (by first|(rw[b];done)|(rw[b];rfl)) I).sub sA
  clear h;intro l w h;refine Yv (λl w=>St 98 S w0 [(3,.map<|some d),(4,nI k),(5,pB p),(6,.int .i64 1),(7,nI ((tg o k).2.1)),(8,nI ((tg o k).2.2)),(9,pB D),(10,pB b5),(11,.bool ((Zo (gqP o k) ((gqB o k))).isSome)),(16,.slice (some ⟨g,f,none⟩) o.length c),(17,nI o.length),(18,nI k),(23,.int .i64 1),(24,.bool true),(25,.int .i64 1),(26,.int .i64 1),(27,.pointer<|some ⟨p,1,none⟩),(28,nI ((tg o k).2.1)),(29,.int .i64 1),(30,.int .i64 2),(31,.int .i64 2),(32,.pointer<|some ⟨p,2,none⟩),(33,nI ((tg o k).2.2)),(34,nI ((tg o k).2.1)),(35,nI ((tg o k).2.2)),(36,nI<|min (tg o k).2.1 (tg o k).2.2),(37,nI ((tg o k).2.1)),(38,nI ((tg o k).2.2)),(39,nI<|max (tg o k).2.1 (tg o k).2.2),(40,Zx ((gqB o k))),(41,.tuple #[Qr ((Zo (gqP o k) ((gqB o k))).getD ed0),.bool ((Zo (gqP o k) ((gqB o k))).isSome)]),(42,.map<|some d),(43,Zx ((gqB o k))),(44,.tuple #[Qr ((Zo (gqP o k) ((gqB o k))).getD ed0),.bool ((Zo (gqP o k) ((gqB o k))).isSome)]),(45,Qr ((Zo (gqP o k) ((gqB o k))).getD ed0)),(46,.bool ((Zo (gqP o k) ((gqB o k))).isSome))] [(b5,bV (Qr<|Kl k (tg o k).2.1 (tg o k).2.2<|Jx (gqP o k)<|Zg (tg o k).2.1 (tg o k).2.2) 114),(D,bV (Zx ((gqB o k))) 279),(p,bV (Ze<|tg o k) 133),(d,mB Zx Qr<|gqP o k)] [Row (some ⟨g,f,none⟩) (cellsOf Ze o)] l w) ?_ ?_
  ·refine gC h<|au 0xd44318 ?_;clear h;intro l w h;refine Zi h (λG h=>?_) (λG h=>?_);focus
    refine gL h<|zm I<|zq 58 I I (.fA I C2)<|ldQ 58 Dv ?_;refine zq 58 I I (.eql I I) ?_;clear h;intro l w h;refine Zi h (λB h=>?_) (λB h=>?_)
    ·refine gL h<|au 0x1df431e253e ?_;refine stW I I Iq ?_;clear h;intro l w h;refine wpList_nil ?_;have b:Kl k (tg o k).2.1 (tg o k).2.2 (Jx (gqP o k) (Zg (tg o k).2.1 (tg o k).2.2))={ (Jx (gqP o k) (Zg (tg o k).2.1 (tg o k).2.2)) with l:=((k:Nat):Int) }:=by first|exact ND (by assumption) (by assumption)|exact NC (by assumption) (by assumption)|exact GF (by assumption) (by assumption)|exact GB (by assumption) (by assumption)|exact GA (by assumption) (by assumption)
     exact(h.same I (by first|(rw[b];done)|(rw[b];rfl)) I).sub sA
    refine gL h<|au 0x253e ?_;clear h;intro l w h
   rotate_left;focus
    refine gL h<|au 0x252ec5fc5fc5f4 ?_;clear h;intro l w h
   all_goals
    refine cW<|Zj h I<|gC h<|au 0xc0f4431 ?_;clear h;intro l w h;refine Zi h (λC h=>?_) (λC h=>?_);focus
     refine gL h<|zm I<|zq 69 I I (.fA I Az)<|ldQ 69 Du ?_;refine zq 69 I I (.eql I I) ?_;clear h;intro l w h;refine Zi h (λE h=>?_) (λE h=>?_)
     ·refine gL h<|au 0x431e253e ?_;refine zp (.fA I Az)<|stW I I Ip ?_;clear h;intro l w h;refine wpList_nil ?_;have b:Kl k (tg o k).2.1 (tg o k).2.2 (Jx (gqP o k) (Zg (tg o k).2.1 (tg o k).2.2))={ (Jx (gqP o k) (Zg (tg o k).2.1 (tg o k).2.2)) with r:=((k:Nat):Int) }:=by first|exact ND (by assumption) (by assumption)|exact NC (by assumption) (by assumption)|exact GF (by assumption) (by assumption)|exact GB (by assumption) (by assumption)|exact GA (by assumption) (by assumption)
      exact(h.same I (by first|(rw[b];done)|(rw[b];rfl)) I).sub sA
     refine gL h<|au 0x253e ?_;clear h;intro l w h
    rotate_left;focus
     refine gL h<|au 0x252eb5fb5fb5f4 ?_;clear h;intro l w h
    all_goals
     refine cW<|Zj h I<|wp_skip ?_;have b:Kl k (tg o k).2.1 (tg o k).2.2 (Jx (gqP o k) (Zg (tg o k).2.1 (tg o k).2.2))=Jx (gqP o k) (Zg (tg o k).2.1 (tg o k).2.2):=by first|exact ND (by assumption) (by assumption)|exact NC (by assumption) (by assumption)|exact GF (by assumption) (by assumption)|exact GB (by assumption) (by assumption)|exact GA (by assumption) (by assumption)
     exact(h.same I (by first|(rw[b];done)|(rw[b];rfl)) I).sub sA
  clear h;intro l w h;refine gC h<|au 0x5e43 ?_;refine ldZ Eh ?_;clear h;intro l w h;refine Zc<|HY h mk_ed (u:=(gqB o k)) (q:=Kl k (tg o k).2.1 (tg o k).2.2<|Jx (gqP o k)<|Zg (tg o k).2.1 (tg o k).2.2) (m:=gqP o k) I I I uu ?_;clear h;intro l w h;replace h:=h.same I (show _=[(b5,bV (Qr (Kl k (tg o k).2.1 (tg o k).2.2 (Jx (gqP o k) (Zg (tg o k).2.1 (tg o k).2.2)))) 114),(D,bV (Zx ((gqB o k))) 279),(p,bV (Ze (tg o k)) 133),(d,mB Zx Qr (gqQ o k))] from I) I;refine gL h<|au 0x2450f32 ?_;clear h;intro l w h;replace h:St 98 S w0 [(3,.map (some d)),(4,nI k),(5,pB p),(16,.slice (some ⟨g,f,none⟩) o.length c),(17,nI o.length),(18,nI k),(23,.int .i64 2),(24,.bool true)] [(p,bV (Ze (tg o k)) 133),(d,mB Zx Qr (gqQ o k))] [Row (some ⟨g,f,none⟩) (cellsOf Ze o)] l w:=by exact tO h
  refine Zk ?_;refine gC h<|au 0x1254318171e128e31 ?_;refine yE [0,1,2,3,4,5,6,7,8,9]<|au 0x41fa3f9 ?_;clear h;refine au 0xeec3fb6f07f9 ?_;refine au 0x4431a4e4e ?_;refine zp (.builtin [_,_] I (λw ty cs=>Ca _ _ w ty cs))<|zm I<|zm I<|zp (.builtin [_,_] I (λw ty cs=>C6 _ _ w ty cs))<|zp (.build [(_,_),(_,_)] I<|HB _ _) (zz zeroValue279 λD=>stW I I Zt ?_);refine au 0x5e4312 ?_;intro l w h;refine Zc<|ZU h mk_ed (u:=(gqC o k)) (m:=gqQ o k) I I mm dd ?_;clear h;intro l h;refine gL h<|au 0xbb4 ?_;refine zz BK λb5=>stW I I Yc ?_;refine au 0x25 ?_;clear h;intro l w h;refine Yv (λl w=>St 98 S w0 [(3,.map<|some d),(4,nI k),(5,pB p),(6,.int .i64 2),(7,nI ((tg o k).2.2)),(8,nI ((tg o k).1)),(9,pB D),(10,pB b5),(11,.bool ((Zo (gqQ o k) ((gqC o k))).isSome)),(16,.slice (some ⟨g,f,none⟩) o.length c),(17,nI o.length),(18,nI k),(23,.int .i64 2),(24,.bool true),(25,.int .i64 2),(26,.int .i64 2),(27,.pointer<|some ⟨p,2,none⟩),(28,nI ((tg o k).2.2)),(29,.int .i64 2),(30,.int .i64 3),(31,.int .i64 0),(32,pB p),(33,nI ((tg o k).1)),(34,nI ((tg o k).2.2)),(35,nI ((tg o k).1)),(36,nI<|min (tg o k).2.2 (tg o k).1),(37,nI ((tg o k).2.2)),(38,nI ((tg o k).1)),(39,nI<|max (tg o k).2.2 (tg o k).1),(40,Zx ((gqC o k))),(41,.tuple #[Qr ((Zo (gqQ o k) ((gqC o k))).getD ed0),.bool ((Zo (gqQ o k) ((gqC o k))).isSome)]),(42,.map<|some d),(43,Zx ((gqC o k))),(44,.tuple #[Qr ((Zo (gqQ o k) ((gqC o k))).getD ed0),.bool ((Zo (gqQ o k) ((gqC o k))).isSome)]),(45,Qr ((Zo (gqQ o k) ((gqC o k))).getD ed0)),(46,.bool ((Zo (gqQ o k) ((gqC o k))).isSome))] [(b5,bV (Qr<|Jx (gqQ o k)<|Zg (tg o k).2.2 (tg o k).1) 114),(D,bV (Zx ((gqC o k))) 279),(p,bV (Ze<|tg o k) 133),(d,mB Zx Qr<|gqQ o k)] [Row (some ⟨g,f,none⟩) (cellsOf Ze o)] l w) ?_ ?_
  ·refine gC h<|au 0x240f431 ?_;clear h;intro l w h;refine Zb h I (λF=>?_) (λF=>?_)
   ·refine gC h<|zr<|zp (.fA I Nq)<|au 0x01f ?_;refine zp (.fA I Np)<|au 0xd1f ?_;refine zp (.build [(_,_),(_,_),(_,_),(_,_)] I<|Cb _ _ _ _)<|stW I I Yc ?_;clear h;intro l w h;refine wpList_nil ?_;have b:Jx (gqQ o k) (Zg (tg o k).2.2 (tg o k).1)=⟨((gqC o k)).1,((gqC o k)).2,(-1),(-1)⟩:=by first|exact Ct (by assumption)|exact Cs (by assumption)
    exact(h.same I (by first|(rw[b];done)|(rw[b];rfl)) I).sub sA
   refine wp_skip ?_;have b:Jx (gqQ o k) (Zg (tg o k).2.2 (tg o k).1)=(Zo (gqQ o k) ((gqC o k))).getD ed0:=by first|exact Ct (by assumption)|exact Cs (by assumption)
   exact(h.same I (by first|(rw[b];done)|(rw[b];rfl)) I).sub sA
  clear h;intro l w h;refine Yv (λl w=>St 98 S w0 [(3,.map<|some d),(4,nI k),(5,pB p),(6,.int .i64 2),(7,nI ((tg o k).2.2)),(8,nI ((tg o k).1)),(9,pB D),(10,pB b5),(11,.bool ((Zo (gqQ o k) ((gqC o k))).isSome)),(16,.slice (some ⟨g,f,none⟩) o.length c),(17,nI o.length),(18,nI k),(23,.int .i64 2),(24,.bool true),(25,.int .i64 2),(26,.int .i64 2),(27,.pointer<|some ⟨p,2,none⟩),(28,nI ((tg o k).2.2)),(29,.int .i64 2),(30,.int .i64 3),(31,.int .i64 0),(32,pB p),(33,nI ((tg o k).1)),(34,nI ((tg o k).2.2)),(35,nI ((tg o k).1)),(36,nI<|min (tg o k).2.2 (tg o k).1),(37,nI ((tg o k).2.2)),(38,nI ((tg o k).1)),(39,nI<|max (tg o k).2.2 (tg o k).1),(40,Zx ((gqC o k))),(41,.tuple #[Qr ((Zo (gqQ o k) ((gqC o k))).getD ed0),.bool ((Zo (gqQ o k) ((gqC o k))).isSome)]),(42,.map<|some d),(43,Zx ((gqC o k))),(44,.tuple #[Qr ((Zo (gqQ o k) ((gqC o k))).getD ed0),.bool ((Zo (gqQ o k) ((gqC o k))).isSome)]),(45,Qr ((Zo (gqQ o k) ((gqC o k))).getD ed0)),(46,.bool ((Zo (gqQ o k) ((gqC o k))).isSome))] [(b5,bV (Qr<|Kl k (tg o k).2.2 (tg o k).1<|Jx (gqQ o k)<|Zg (tg o k).2.2 (tg o k).1) 114),(D,bV (Zx ((gqC o k))) 279),(p,bV (Ze<|tg o k) 133),(d,mB Zx Qr<|gqQ o k)] [Row (some ⟨g,f,none⟩) (cellsOf Ze o)] l w) ?_ ?_
  ·refine gC h<|au 0xd44318 ?_;clear h;intro l w h;refine Zi h (λG h=>?_) (λG h=>?_);focus
    refine gL h<|zm I<|zq 58 I I (.fA I C2)<|ldQ 58 Dv ?_;refine zq 58 I I (.eql I I) ?_;clear h;intro l w h;refine Zi h (λB h=>?_) (λB h=>?_)
    ·refine gL h<|au 0x1df431e253e ?_;refine stW I I Iq ?_;clear h;intro l w h;refine wpList_nil ?_;have b:Kl k (tg o k).2.2 (tg o k).1 (Jx (gqQ o k) (Zg (tg o k).2.2 (tg o k).1))={ (Jx (gqQ o k) (Zg (tg o k).2.2 (tg o k).1)) with l:=((k:Nat):Int) }:=by first|exact ND (by assumption) (by assumption)|exact NC (by assumption) (by assumption)|exact GF (by assumption) (by assumption)|exact GB (by assumption) (by assumption)|exact GA (by assumption) (by assumption)
     exact(h.same I (by first|(rw[b];done)|(rw[b];rfl)) I).sub sA
    refine gL h<|au 0x253e ?_;clear h;intro l w h
   rotate_left;focus
    refine gL h<|au 0x252ec5fc5fc5f4 ?_;clear h;intro l w h
   all_goals
    refine cW<|Zj h I<|gC h<|au 0xc0f4431 ?_;clear h;intro l w h;refine Zi h (λC h=>?_) (λC h=>?_);focus
     refine gL h<|zm I<|zq 69 I I (.fA I Az)<|ldQ 69 Du ?_;refine zq 69 I I (.eql I I) ?_;clear h;intro l w h;refine Zi h (λE h=>?_) (λE h=>?_)
     ·refine gL h<|au 0x431e253e ?_;refine zp (.fA I Az)<|stW I I Ip ?_;clear h;intro l w h;refine wpList_nil ?_;have b:Kl k (tg o k).2.2 (tg o k).1 (Jx (gqQ o k) (Zg (tg o k).2.2 (tg o k).1))={ (Jx (gqQ o k) (Zg (tg o k).2.2 (tg o k).1)) with r:=((k:Nat):Int) }:=by first|exact ND (by assumption) (by assumption)|exact NC (by assumption) (by assumption)|exact GF (by assumption) (by assumption)|exact GB (by assumption) (by assumption)|exact GA (by assumption) (by assumption)
      exact(h.same I (by first|(rw[b];done)|(rw[b];rfl)) I).sub sA
     refine gL h<|au 0x253e ?_;clear h;intro l w h
    rotate_left;focus
     refine gL h<|au 0x252eb5fb5fb5f4 ?_;clear h;intro l w h
    all_goals
     refine cW<|Zj h I<|wp_skip ?_;have b:Kl k (tg o k).2.2 (tg o k).1 (Jx (gqQ o k) (Zg (tg o k).2.2 (tg o k).1))=Jx (gqQ o k) (Zg (tg o k).2.2 (tg o k).1):=by first|exact ND (by assumption) (by assumption)|exact NC (by assumption) (by assumption)|exact GF (by assumption) (by assumption)|exact GB (by assumption) (by assumption)|exact GA (by assumption) (by assumption)
     exact(h.same I (by first|(rw[b];done)|(rw[b];rfl)) I).sub sA
  clear h;intro l w h;refine gC h<|au 0x5e43 ?_;refine ldZ Eh ?_;clear h;intro l w h;refine Zc<|HY h mk_ed (u:=(gqC o k)) (q:=Kl k (tg o k).2.2 (tg o k).1<|Jx (gqQ o k)<|Zg (tg o k).2.2 (tg o k).1) (m:=gqQ o k) I I I uu ?_;clear h;intro l w h;replace h:=h.same I (show _=[(b5,bV (Qr (Kl k (tg o k).2.2 (tg o k).1 (Jx (gqQ o k) (Zg (tg o k).2.2 (tg o k).1)))) 114),(D,bV (Zx ((gqC o k))) 279),(p,bV (Ze (tg o k)) 133),(d,mB Zx Qr (DR k (tg o k).2.2 (tg o k).1 (gqQ o k)))] from I) I;refine gL h<|au 0x2490f32 ?_;clear h;intro l w h;replace h:St 98 S w0 [(3,.map (some d)),(4,nI k),(5,pB p),(16,.slice (some ⟨g,f,none⟩) o.length c),(17,nI o.length),(18,nI k),(23,.int .i64 3),(24,.bool true)] [(p,bV (Ze (tg o k)) 133),(d,mB Zx Qr (DR k (tg o k).2.2 (tg o k).1 (gqQ o k)))] [Row (some ⟨g,f,none⟩) (cellsOf Ze o)] l w:=by exact tO h
  refine Zk ?_;refine gC h<|au 0x30ec1260f31 ?_;refine zp (.pN (k+1)<|.add I I)<|au 0x24 ?_;clear h;intro l w h;rw[show DR k (tg o k).2.2 (tg o k).1 (gqQ o k)=Qy o (k+1) from rfl] at h;exact⟨k+1,⟨oo,tO h⟩,oo⟩
 have a1:o.length=k:=dF L;subst a1;refine gC h<|au 0x4310e ?_;clear h;intro l w h;refine Zc<|pG h mk_ed.hT I mm dd ?_;clear h;intro l h;refine Zc<|iL h I I runUnderlying110 typeInfo114 sizeOf114 BK I dd (by show 32*_<=281474976710656;have:=Cu o o.length;omega) (by have:=Cu o o.length;omega) dd ?_;clear h;intro e5 c4 l w R h;obtain ⟨b6,c8,rfl⟩:=R.is;refine gL h<|au 0x431125 ?_;clear h;intro l w h;refine Zc<|ZR (ek:=Zx) (ev:=Qr) (m:=Qy o o.length) h mk_ed.hT I mm dd ?_;clear h;intro U l w h;refine wpList_nil<|wp_block ?_;refine lpG h [3,16,17,18,84,85] pkL (λY Z (i:Nat) l w => ∃(A:List Nat) (a6:Option Addr) (c1:Nat) (o1:List (Nat×Obj)),(i=A.length/\A.Nodup/\(∀j∈A,j<(Qy o o.length).length)/\GrowO 4 114 (.slice a6 (A.map λj=>((Qy o o.length).getD j ((0,0),ed0)).2).length c1) (A.map λj=>((Qy o o.length).getD j ((0,0),ed0)).2).length (cellsOf Qr (A.map λj=>((Qy o o.length).getD j ((0,0),ed0)).2)) o1)/\St 98 S w0 ((12,(.slice a6 (A.map λj=>((Qy o o.length).getD j ((0,0),ed0)).2).length c1))::Y) (o1++((U,Obj.mapIter (some d) (Qy o o.length).length A.toArray (Qy o o.length).length)::((d,mB Zx Qr<|Qy o o.length)::[]))) Z l w) (λi=>(Qy o o.length).length-i) (0) (⟨[],b6,c8,c4,⟨rfl,vA,(λ_ h=>nomatch h),R⟩,by exact tO h⟩) ?_;clear h;rintro i l w ⟨A,a6,c1,o1,⟨a8,X,V,c3⟩,h⟩;refine wp_seq<|wp_region_lit ?_;refine Zc<|iK (ek:=Zx) (ev:=Qr) h (m:=Qy o o.length) I mm (λo'=>by repeat(first|exact Upd.head|apply Upd.tail|apply Upd.append)) dd (λn l w h=>?_) (λz s N l w h=>?_)
 ·refine gL h<|au 0x4310ec12b ?_;intro l w h;have H:=(V2 X V n).map (λj=>((Qy o o.length).getD j ((0,0),ed0)).2);rw[Y9] at H;have b2:=ed_dif (DT hn o.length (aZ _));have c9:=dw h0;have e7:=Cu o o.length;have b4:0<((A.map λj=>((Qy o o.length).getD j ((0,0),ed0)).2)).length:=by rw[H.length_eq,az];exact c9
  have c5:((A.map λj=>((Qy o o.length).getD j ((0,0),ed0)).2)).length<=1000000:=by rw[H.length_eq,az];omega
  have b1:((A.map λj=>((Qy o o.length).getD j ((0,0),ed0)).2)).length=(Za o).length:=by rw[H.length_eq];exact((Vf _).length_eq).symm
  obtain ⟨O,b7,rfl,rfl,e2,b8⟩:=GrowO.open c3 b4;replace h:=h.same I (show _=(O,Obj.cells (cellsOf Qr (A.map λj=>((Qy o o.length).getD j ((0,0),ed0)).2)++b7).toArray 114 (0,0))::[(U,_),(d,_)] from I) I;refine Zc<|Vb h hS (vs:=[_,_]) I call192 (sD O c1 (A.map λj=>((Qy o o.length).getD j ((0,0),ed0)).2) b7 [(U,_),(d,_)] [] b4 (λx hx y hy=>b2 x (H.mem_iff.1 hx) y<|H.mem_iff.1 hy) c5) (cr _) ss ss ?_;clear h;rintro e6 e3 e0 l w ⟨rfl,rfl,c7⟩ h;rw[show fW (A.map λj=>((Qy o o.length).getD j ((0,0),ed0)).2)=Za o from gA H b2] at h;replace h:=h.share hS (off:=0) (M:=cellsOf Qr (Za o)) (λk hk=>by rw[ca,List.getElem?_toArray,List.getElem?_append_left hk]);refine gL h<|zn<|zS<|zm I<|zv [_] I call124 (UX (some ⟨O,0,none⟩) (A.map λj=>((Qy o o.length).getD j ((0,0),ed0)).2).length c1 b8)<|au 0x625 ?_;clear h;intro l w h;refine Qj (Ψ:=[Row (some ⟨O,0,none⟩) (cellsOf Qr<|Za o)]) h (Zd h I<|.tmp I) ?_ ss;exact⟨_,by rw[b1],rfl⟩
 refine gL h<|au 0x12b ?_;clear h;intro l w h;refine Qq h I ?_;refine wp_skip<|wp_block<|wp_seq<|wp_region_lit ?_;refine Zc<|ZV (ek:=Zx) (ev:=Qr) (m:=Qy o o.length) (seen:=A.toArray) h I s mm mm dd ?_;clear h;intro l h;refine gL h<|au 0xb ?_;refine zz BK λe4=>stW I I Yc ?_;refine zn<|zr<|zm I<|ldZ Eh ?_;refine zB [(_,_)] I (L8 _ _ _ _) λe8=>?_;refine apC Qr ((A.map λj=>((Qy o o.length).getD j ((0,0),ed0)).2)) [((Qy o o.length)[z]' s).2] c3 ?_ (hr:=by(try dsimp only);have:=Cu o o.length;simp only[az];have:=TJ X V;omega);intro P a7 W J l w h;refine gL h<|au 0x25 ?_;clear h;intro l w h;have Q:(A++[z]).Nodup:=List.nodup_append.2 ⟨X,by simp,λx hx y hy=>by rw[da] at hy;subst hy;exact λe=>N (by simpa using e ▸ hx)⟩;have T:∀j∈A++[z],j<(Qy o o.length).length:=λj hj=>(List.mem_append.1 hj).elim (V j) (λhj=>by rw[da] at hj;rw[hj];exact s);have b0:=TJ Q T;rw[bd, <-a8] at b0;simp only[dc,oT] at b0;rw[List.push_toArray] at h;rw[show(A.map λj=>((Qy o o.length).getD j ((0,0),ed0)).2)++[((Qy o o.length)[z]' s).2]=(A++[z]).map (λj=>((Qy o o.length).getD j ((0,0),ed0)).2) from by simp[List.getD,s]] at h J;exact⟨i+1,⟨(A++[z]),P,a7,W,⟨by rw[bd,a8];rfl,Q,T,J⟩,by exact tO h⟩,oo⟩
theorem EE: RN (Instr.build 304 [(0,.int .i64 S),(1,.int .i64 T)].toArray) (.agg #[.int .i64 S,.int .i64 T]):=λw=>by simp[go_sem]
theorem bN(h:E<c): RN (Instr.indexAt 110 (.slice (some ⟨K,y,none⟩) c B) (.int .i64 (E:Int))) (.pointer (some ⟨K,y+E*4,none⟩)):=λw=>by
 simpa using Qf runUnderlying110 sizeOf114 K y c B E h w
theorem WG: RN (Instr.build 143 [(0,.int .i64 S),(1,.int .i64 T)].toArray) (.agg #[.int .i64 S,.int .i64 T,.int .i64 0]):=λw=>by simp[go_sem]
theorem PO: (Instr.buildSlice 36 1 [(0,.agg #[c4,c5,c6])].toArray).run prog w=.ok (.slice (some ⟨w.heap.size,0,none⟩) 1 1) (w.alloc (.cells #[c4,c5,c6] 143 (0,0))):=by
 simp[go_sem]
theorem TF(h:∀t∈C,Ad n t=true): C.any (λt => !Ad n t)=false:=by
 rw[vd];intro t ht;rw[h t ht];decide
def CnLe(n:Nat)(m:List ((Nat×Nat)×Nat)): Prop := ∀p∈m,p.2<=n
theorem CnLe.get(h:CnLe n c9)(u:Nat×Nat): (Zo c9 u).getD 0<=n:=by
 cases a:Zo c9 u with
 | none=>exact cX _
 | some y=>exact h _ (Ev a)
theorem CnLe.step(h:CnLe n c9)(a b:Nat): CnLe (n+1) (Ie a b c9):=by
 intro p c;rcases BQ c with rfl|c
 ·have:=h.get (Zg a b);show _+1<=_;omega
 have:=h p c;omega
theorem GM(l:List (Nat×Nat×Nat)): ∀k,CnLe (3*k) (Km l k)
 | 0=>λ_ h=>nomatch h
 | k+1=>(((GM l k).step _ _).step _ _).step _ _
theorem ip(h:n<(Za C).length)(b:((((Zo (Km C C.length) (((Za C).getD n ed0).a,((Za C).getD n ed0).b)).getD 0:Nat):Int) == 1)=true):
  (((Za C).take n).filter (Ox C)).map sdE++[(((Za C).getD n ed0).a,((Za C).getD n ed0).b,0)]=(((Za C).take (n+1)).filter (Ox C)).map sdE:=by
 rw[xa,List.getElem?_eq_getElem h,tc,dv];congr 1;replace b:=eq_of_beq b;simp only[List.getD,List.getElem?_eq_getElem h,et] at b;replace b:(Zo (Km C C.length) ((Za C)[n].a,(Za C)[n].b)).getD 0=1:=oo;have c:Ox C (Za C)[n]=true:=by simp[Ox,b]
 simp[List.getD,h,c,sdE]
theorem iq(h:n<(Za C).length)(b:((((Zo (Km C C.length) (((Za C).getD n ed0).a,((Za C).getD n ed0).b)).getD 0:Nat):Int) == 1)=false):
  (((Za C).take n).filter (Ox C)).map sdE=(((Za C).take (n+1)).filter (Ox C)).map sdE:=by
 rw[xa,List.getElem?_eq_getElem h,tc,dv];have c:¬((((Zo (Km C C.length) (((Za C).getD n ed0).a,((Za C).getD n ed0).b)).getD 0:Nat):Int)=1):=λe=>by rw[e] at b;cases b
 simp only[List.getD,List.getElem?_eq_getElem h,et] at c;have d:Ox C (Za C)[n]=false:=decide_eq_false λe=>c oo;simp[d]
theorem oR: ((((Za o).take y).filter (Ox o)).map sdE).length<=y:=by
 rw[az];exact bp (nk _ _) (by rw[db];omega)
theorem Mf(e:o.length<=1000000): Xi prog 122 [.slice a o.length c,.int .i64 ((y:Nat):Int)] [Row a (cellsOf Ze o)] (.bool (!o.any (λt => !Ad y t))):=by
 refine fnI func122 I ntmps122 λS w0 d=>zS (zx I λb=>?_);intro f w h;replace h:=h.shareAll d ([.int .i64 ((y:Nat):Int)]) I;refine gL h<|au 0x56f43125 ?_;refine zw [_,_] I call221 (sZ o _ _ e y b 0)<|au 0x62540f ?_;refine rtK I
theorem CtrO.row{P:Program}{f:FuncId}{args:List Value}{Φ:List Zs}{E:TypeId}(h:CtrO P f args Φ (λv a => ∃ad c,v=.slice ad p i/\GrowO n E (.slice ad p c) p h6 a)): Ctr P f args Φ (λv Ψ => ∃ad,v=.slice ad p i/\Ψ=[Row ad h6]):=by
 intro X w m g;refine(h X w m g).mono ?_;rintro e w' ⟨v,a,rfl,⟨ad,c,rfl,s⟩,r,t,_⟩;refine⟨_,[Row ad h6],rfl,⟨ad,rfl,rfl⟩,r,λR hR=>?_⟩;rw[da] at hR;subst hR;obtain ⟨h1,⟨o,rfl,rfl⟩|⟨b,c2,R,q,o,u,rfl⟩⟩:=s
 ·exact λd=>absurd (dn (by simpa using h1)) d
 cases q
 have x:=t _ ae;exact λ_=>⟨b,0,_,_,_,rfl,λhx=>by have:=m b hx;have y:=x.1;simp only at y;omega,x.2,λj hj=>by simp[List.getElem?_append_left hj]⟩
abbrev gqV(l:List (Nat×Nat×Nat))(k:Nat):=Ie (tg l k).1 (tg l k).2.1 (Km l k)
abbrev gqW(l:List (Nat×Nat×Nat))(k:Nat):=Ie (tg l k).2.1 (tg l k).2.2 (gqV l k)
theorem gqS: CnLe (3*y+1) (gqV o y):=(GM o y).step _ _
theorem gqT: CnLe (3*y+1+1) (gqW o y):=(gqS o y).step _ _
theorem nN(ad t:Option Addr)(c B:Nat)(R:∀a8∈o,Ad A.length a8=true)(W:0<o.length)(hl:o.length<=100000): CtrO prog 129 [.slice t A.length B,.slice ad o.length c] [Row ad (cellsOf Ze o)]
   (λv O => ∃G V,v=.slice G (Kz o).length (Kz o).length/\GrowO 3 143 (.slice G (Kz o).length V) (Kz o).length (cellsOf Ze (Kz o)) O):=by
 refine fn_introO func129 I ntmps129 nb ?_;intro S w0 a hS h;refine gC h<|au 0x21f443112531 ?_;refine zw [_,_] I call122 (Mf o A.length _ _ oo)<|au 0x40f ?_;clear h;intro a w h;refine Zi h (λp h=>(by exfalso;rw[TF R] at p;cases p)) (λp h=>?_);refine wpList_nil<|cW<|Zj h I<|wp_skip<|wp_seq<|wp_region_lit ?_;refine Zc<|EM Zx Qb h dd ?_;clear h;intro d a w h;refine gL h<|au 0x824a0f431125 ?_;clear h;intro a w h;replace h:=h.same I (show _=[(d,mB Zx Qb (Km o 0))] from I) I;refine lpG h [1,5,20,21] pkL (λY Z (k:Nat) a w=>k<=o.length/\St 77 S w0 ((22,nI k)::Y) [(d,mB Zx Qb<|Km o k)] Z a w) (λk=>o.length-k) 0 (⟨cX _,by exact(h).sub sA⟩) ?_;clear h;rintro k a w ⟨P,h⟩;refine gC h<|au 0x12d31 ?_;intro a w h;refine Zb h I (λr=>?_) (λr=>?_)
 ·have L:k<o.length:=dT r;obtain ⟨f,e,rfl⟩:=h.row_addr (ad:=ad) (M:=cellsOf Ze o) mm (nE 3);refine gC h<|au 0x62f31817 ?_;refine zD I mm (cells_lt (k:=3) dd (λ_=>rfl) o k oo) isAgg133 sizeOf133 (Zh (k:=3) (λ_=>rfl) ((λ_=>rfl)) o (0,0,0) k oo) (.inl I) ?_;refine zz Bj λg=>stW I I Qi ?_;refine au 0x824312 ?_;refine lpR 4<|rdS<|au 0x1254318171e128e31 ?_;refine yE [0,1,2,3,4,5,6,7,8,9]<|au 0xeec3f9 ?_;clear h;refine au 0x02fb3fa6ff9f9 ?_;refine au 0xa4e4e ?_;refine yE [0,1,2,3,4,5,6,7,8,9,10,11,12] ?_;refine GL (L':=[(1,.slice (some ⟨f,e,none⟩) o.length c),(5,.map<|some d),(7,pB g),(8,.int .i64 0),(9,nI ((tg o k).1)),(10,nI ((tg o k).2.1)),(20,.slice (some ⟨f,e,none⟩) o.length c),(21,nI o.length),(22,nI k),(23,.bool<|decide (((k:Nat):Int)<((o.length:Nat):Int))),(25,Ze<|tg o k),(26,.int .i64 0),(27,.bool true),(28,.int .i64 0),(29,.int .i64 0),(30,pB g),(31,nI ((tg o k).1)),(32,.int .i64 0),(33,.int .i64 1),(34,.int .i64 1),(35,.pointer<|some ⟨g,1,none⟩),(36,nI ((tg o k).2.1)),(37,.map<|some d),(38,nI ((tg o k).1)),(39,nI ((tg o k).2.1)),(40,nI<|min (tg o k).1 (tg o k).2.1),(41,nI ((tg o k).1)),(42,nI ((tg o k).2.1)),(43,nI<|max (tg o k).1 (tg o k).2.1),(44,Zx ((gqA o k))),(45,nI ((Zo (Km o k) ((gqA o k))).getD 0)),(46,nI (((Zo (Km o k) ((gqA o k))).getD 0)+1)),(47,.tuple #[.int .i64 (((Zo (Km o k) ((gqA o k))).getD 0:Nat):Int),.int .i64 ((CN (Km o k) ((gqA o k)):Nat):Int)]),(48,nI<|CN (Km o k) ((gqA o k)))]) (σ':=[(g,bV (Ze<|tg o k) 133),(d,mB Zx Qb<|gqV o k)]) (Φ':=[Row (some ⟨f,e,none⟩) (cellsOf Ze o)]) (λa w h=>?_) (λkey=>?_);focus
   refine cW<|gC h<|au 0x2452f3 ?_;intro a w h;replace h:=kQ h [1,5,7,20,21,22,26,27] pkL;refine Zk ?_;refine gC h<|au 0x1254318171e128e31 ?_;refine yE [0,1,2,3,4,5,6,7,8,9]<|au 0x02fb3f9 ?_;clear h;refine au 0x41fa3f96f17f9 ?_;refine au 0xa4e4e ?_;refine yE [0,1,2,3,4,5,6,7,8,9,10,11,12] ?_;refine GL (L':=[(1,.slice (some ⟨f,e,none⟩) o.length c),(5,.map<|some d),(7,pB g),(8,.int .i64 1),(9,nI ((tg o k).2.1)),(10,nI ((tg o k).2.2)),(20,.slice (some ⟨f,e,none⟩) o.length c),(21,nI o.length),(22,nI k),(26,.int .i64 1),(27,.bool true),(28,.int .i64 1),(29,.int .i64 1),(30,.pointer<|some ⟨g,1,none⟩),(31,nI ((tg o k).2.1)),(32,.int .i64 1),(33,.int .i64 2),(34,.int .i64 2),(35,.pointer<|some ⟨g,2,none⟩),(36,nI ((tg o k).2.2)),(37,.map<|some d),(38,nI ((tg o k).2.1)),(39,nI ((tg o k).2.2)),(40,nI<|min (tg o k).2.1 (tg o k).2.2),(41,nI ((tg o k).2.1)),(42,nI ((tg o k).2.2)),(43,nI<|max (tg o k).2.1 (tg o k).2.2),(44,Zx ((gqB o k))),(45,nI ((Zo (gqV o k) ((gqB o k))).getD 0)),(46,nI (((Zo (gqV o k) ((gqB o k))).getD 0)+1)),(47,.tuple #[.int .i64 (((Zo (gqV o k) ((gqB o k))).getD 0:Nat):Int),.int .i64 ((CN (gqV o k) ((gqB o k)):Nat):Int)]),(48,nI<|CN (gqV o k) ((gqB o k)))]) (σ':=[(g,bV (Ze<|tg o k) 133),(d,mB Zx Qb<|gqW o k)]) (Φ':=[Row (some ⟨f,e,none⟩) (cellsOf Ze o)]) (λa w h=>?_) (λkey=>?_);focus
    refine cW<|gC h<|au 0x2450f3 ?_;intro a w h;replace h:=kQ h [1,5,7,20,21,22,26,27] pkL;refine Zk ?_;refine gC h<|au 0x1254318171e128e31 ?_;refine yE [0,1,2,3,4,5,6,7,8,9]<|au 0x41fa3f9 ?_;clear h;refine au 0xeec3fb6f07f9 ?_;refine au 0xa4e4e ?_;refine yE [0,1,2,3,4,5,6,7,8,9,10,11,12] ?_;refine GL (L':=[(1,.slice (some ⟨f,e,none⟩) o.length c),(5,.map<|some d),(7,pB g),(8,.int .i64 2),(9,nI ((tg o k).2.2)),(10,nI ((tg o k).1)),(20,.slice (some ⟨f,e,none⟩) o.length c),(21,nI o.length),(22,nI k),(26,.int .i64 2),(27,.bool true),(28,.int .i64 2),(29,.int .i64 2),(30,.pointer<|some ⟨g,2,none⟩),(31,nI ((tg o k).2.2)),(32,.int .i64 2),(33,.int .i64 3),(34,.int .i64 0),(35,pB g),(36,nI ((tg o k).1)),(37,.map<|some d),(38,nI ((tg o k).2.2)),(39,nI ((tg o k).1)),(40,nI<|min (tg o k).2.2 (tg o k).1),(41,nI ((tg o k).2.2)),(42,nI ((tg o k).1)),(43,nI<|max (tg o k).2.2 (tg o k).1),(44,Zx ((gqC o k))),(45,nI ((Zo (gqW o k) ((gqC o k))).getD 0)),(46,nI (((Zo (gqW o k) ((gqC o k))).getD 0)+1)),(47,.tuple #[.int .i64 (((Zo (gqW o k) ((gqC o k))).getD 0:Nat):Int),.int .i64 ((CN (gqW o k) ((gqC o k)):Nat):Int)]),(48,nI<|CN (gqW o k) ((gqC o k)))]) (σ':=[(g,bV (Ze<|tg o k) 133),(d,mB Zx Qb<|Ie (tg o k).2.2 (tg o k).1<|gqW o k)]) (Φ':=[Row (some ⟨f,e,none⟩) (cellsOf Ze o)]) (λa w h=>?_) (λkey=>?_)
    ·refine cW<|gC h<|au 0x2490f3 ?_;intro a w h;replace h:=kQ h [1,5,7,20,21,22,26,27] pkL;refine Zk ?_;refine gC h<|au 0x30ec1260f31 ?_;refine zp (.pN (k+1)<|.add I I)<|au 0x24 ?_;clear h;intro a w h;rw[show Ie (tg o k).2.2 (tg o k).1 (gqW o k)=Km o (k+1) from rfl] at h;exact⟨k+1,⟨oo,tO h⟩,oo⟩
    refine au 0x999 ?_;refine yp I (.builtin [_,_] I (λw ty cs=>Ca _ _ w ty cs))<|au 0x99 ?_;refine yp I (.builtin [_,_] I (λw ty cs=>C6 _ _ w ty cs))<|yp I (.build [(_,_),(_,_)] I<|EE _ _) ?_;refine Yh kk ?_;intro a w h;refine Yr 8 10 ?_ ?_;focus
     refine Mh h I CS (u:=(gqC o k)) (m:=gqW o k) I I mm dd ?_;clear h;intro a h;refine Yr 9 10 ?_ ?_;focus
      refine Jw h I (.pN (((Zo (gqW o k) ((gqC o k))).getD 0)+1)<|.binOp I I (λ_=>Jt _ _ _ _ _<|wrap_i64 _ (by have q:=(gqT o k).get<|gqC o k;omega) (by have q:=(gqT o k).get<|gqC o k;omega))) dd ?_;clear h;intro a h;refine Xj 10 ?_;refine K3 h I CS (u:=(gqC o k)) (m:=gqW o k) I I uu dd ?_;clear h;intro a w h;refine Xj 11 ?_;refine Jw h I (.eX I) dd ?_;clear h;intro a h
     rotate_left;focus
      refine K3 h I CS (u:=(gqC o k)) (m:=gqW o k) I I uu dd ?_;clear h;intro a w h;refine Yr 9 11 ?_ ?_;focus
       refine Jw h I (.pN (((Zo (gqW o k) ((gqC o k))).getD 0)+1)<|.binOp I I (λ_=>Jt _ _ _ _ _<|wrap_i64 _ (by have q:=(gqT o k).get<|gqC o k;omega) (by have q:=(gqT o k).get<|gqC o k;omega))) dd ?_;clear h;intro a h;refine Xj 11 ?_;refine Jw h I (.eX I) dd ?_;clear h;intro a h
      rotate_left;focus
       refine Jw h I (.eX I) dd ?_;clear h;intro a h;refine Xj 9 ?_;refine Jw h I (.pN (((Zo (gqW o k) ((gqC o k))).getD 0)+1)<|.binOp I I (λ_=>Jt _ _ _ _ _<|wrap_i64 _ (by have q:=(gqT o k).get<|gqC o k;omega) (by have q:=(gqT o k).get<|gqC o k;omega))) dd ?_;clear h;intro a h
    rotate_left 3;focus
     refine K3 h I CS (u:=(gqC o k)) (m:=gqW o k) I I uu dd ?_;clear h;intro a w h;refine Yr 8 11 ?_ ?_;focus
      refine Mh h I CS (u:=(gqC o k)) (m:=Ia (gqW o k) ((gqC o k)) 0) I I mm dd ?_;clear h;intro a h;rw[Ew] at h;refine Yr 9 11 ?_ ?_;focus
       refine Jw h I (.pN (((Zo (gqW o k) ((gqC o k))).getD 0)+1)<|.binOp I I (λ_=>Jt _ _ _ _ _<|wrap_i64 _ (by have q:=(gqT o k).get<|gqC o k;omega) (by have q:=(gqT o k).get<|gqC o k;omega))) dd ?_;clear h;intro a h;refine Xj 11 ?_;refine Jw h I (.eX I) dd ?_;clear h;intro a h
      rotate_left;focus
       refine Jw h I (.eX I) dd ?_;clear h;intro a h;refine Xj 9 ?_;refine Jw h I (.pN (((Zo (gqW o k) ((gqC o k))).getD 0)+1)<|.binOp I I (λ_=>Jt _ _ _ _ _<|wrap_i64 _ (by have q:=(gqT o k).get<|gqC o k;omega) (by have q:=(gqT o k).get<|gqC o k;omega))) dd ?_;clear h;intro a h
     rotate_left 2;focus
      refine Jw h I (.eX I) dd ?_;clear h;intro a h;refine Xj 8 ?_;refine Mh h I CS (u:=(gqC o k)) (m:=Ia (gqW o k) ((gqC o k)) 0) I I mm dd ?_;clear h;intro a h;rw[Ew] at h;refine Xj 9 ?_;refine Jw h I (.pN (((Zo (gqW o k) ((gqC o k))).getD 0)+1)<|.binOp I I (λ_=>Jt _ _ _ _ _<|wrap_i64 _ (by have q:=(gqT o k).get<|gqC o k;omega) (by have q:=(gqT o k).get<|gqC o k;omega))) dd ?_;clear h;intro a h
    all_goals
     refine Xj 12 ?_;refine gh (ek:=Zx) (ev:=Qb) h I (m:=gqW o k) (u:=(gqC o k)) (z:=0) (q:=((Zo (gqW o k) ((gqC o k))).getD 0)+1) I I I uu ?_;clear h;intro a w h;replace h:=h.same I (show _=[(g,bV (Ze (tg o k)) 133),(d,mB Zx Qb (Ie (tg o k).2.2 (tg o k).1 (gqW o k)))] from I) I
   rotate_left 6;focus
    refine au 0x999 ?_;refine yp I (.builtin [_,_] I (λw ty cs=>Ca _ _ w ty cs))<|au 0x99 ?_;refine yp I (.builtin [_,_] I (λw ty cs=>C6 _ _ w ty cs))<|yp I (.build [(_,_),(_,_)] I<|EE _ _) ?_;refine Yh kk ?_;intro a w h;refine Yr 8 10 ?_ ?_;focus
     refine Mh h I CS (u:=(gqB o k)) (m:=gqV o k) I I mm dd ?_;clear h;intro a h;refine Yr 9 10 ?_ ?_;focus
      refine Jw h I (.pN (((Zo (gqV o k) ((gqB o k))).getD 0)+1)<|.binOp I I (λ_=>Jt _ _ _ _ _<|wrap_i64 _ (by have q:=(gqS o k).get<|gqB o k;omega) (by have q:=(gqS o k).get<|gqB o k;omega))) dd ?_;clear h;intro a h;refine Xj 10 ?_;refine K3 h I CS (u:=(gqB o k)) (m:=gqV o k) I I uu dd ?_;clear h;intro a w h;refine Xj 11 ?_;refine Jw h I (.eX I) dd ?_;clear h;intro a h
     rotate_left;focus
      refine K3 h I CS (u:=(gqB o k)) (m:=gqV o k) I I uu dd ?_;clear h;intro a w h;refine Yr 9 11 ?_ ?_;focus
       refine Jw h I (.pN (((Zo (gqV o k) ((gqB o k))).getD 0)+1)<|.binOp I I (λ_=>Jt _ _ _ _ _<|wrap_i64 _ (by have q:=(gqS o k).get<|gqB o k;omega) (by have q:=(gqS o k).get<|gqB o k;omega))) dd ?_;clear h;intro a h;refine Xj 11 ?_;refine Jw h I (.eX I) dd ?_;clear h;intro a h
      rotate_left;focus
       refine Jw h I (.eX I) dd ?_;clear h;intro a h;refine Xj 9 ?_;refine Jw h I (.pN (((Zo (gqV o k) ((gqB o k))).getD 0)+1)<|.binOp I I (λ_=>Jt _ _ _ _ _<|wrap_i64 _ (by have q:=(gqS o k).get<|gqB o k;omega) (by have q:=(gqS o k).get<|gqB o k;omega))) dd ?_;clear h;intro a h
    rotate_left 3;focus
     refine K3 h I CS (u:=(gqB o k)) (m:=gqV o k) I I uu dd ?_;clear h;intro a w h;refine Yr 8 11 ?_ ?_;focus
      refine Mh h I CS (u:=(gqB o k)) (m:=Ia (gqV o k) ((gqB o k)) 0) I I mm dd ?_;clear h;intro a h;rw[Ew] at h;refine Yr 9 11 ?_ ?_;focus
       refine Jw h I (.pN (((Zo (gqV o k) ((gqB o k))).getD 0)+1)<|.binOp I I (λ_=>Jt _ _ _ _ _<|wrap_i64 _ (by have q:=(gqS o k).get<|gqB o k;omega) (by have q:=(gqS o k).get<|gqB o k;omega))) dd ?_;clear h;intro a h;refine Xj 11 ?_;refine Jw h I (.eX I) dd ?_;clear h;intro a h
      rotate_left;focus
       refine Jw h I (.eX I) dd ?_;clear h;intro a h;refine Xj 9 ?_;refine Jw h I (.pN (((Zo (gqV o k) ((gqB o k))).getD 0)+1)<|.binOp I I (λ_=>Jt _ _ _ _ _<|wrap_i64 _ (by have q:=(gqS o k).get<|gqB o k;omega) (by have q:=(gqS o k).get<|gqB o k;omega))) dd ?_;clear h;intro a h
     rotate_left 2;focus
      refine Jw h I (.eX I) dd ?_;clear h;intro a h;refine Xj 8 ?_;refine Mh h I CS (u:=(gqB o k)) (m:=Ia (gqV o k) ((gqB o k)) 0) I I mm dd ?_;clear h;intro a h;rw[Ew] at h;refine Xj 9 ?_;refine Jw h I (.pN (((Zo (gqV o k) ((gqB o k))).getD 0)+1)<|.binOp I I (λ_=>Jt _ _ _ _ _<|wrap_i64 _ (by have q:=(gqS o k).get<|gqB o k;omega) (by have q:=(gqS o k).get<|gqB o k;omega))) dd ?_;clear h;intro a h
    all_goals
     refine Xj 12 ?_;refine gh (ek:=Zx) (ev:=Qb) h I (m:=gqV o k) (u:=(gqB o k)) (z:=0) (q:=((Zo (gqV o k) ((gqB o k))).getD 0)+1) I I I uu ?_;clear h;intro a w h;replace h:=h.same I (show _=[(g,bV (Ze (tg o k)) 133),(d,mB Zx Qb (gqW o k))] from I) I
  rotate_left 12;focus
   refine au 0x999 ?_;refine yp I (.builtin [_,_] I (λw ty cs=>Ca _ _ w ty cs))<|au 0x99 ?_;refine yp I (.builtin [_,_] I (λw ty cs=>C6 _ _ w ty cs))<|yp I (.build [(_,_),(_,_)] I<|EE _ _) ?_;refine Yh kk ?_;intro a w h;refine Yr 8 10 ?_ ?_;focus
    refine Mh h I CS (u:=(gqA o k)) (m:=Km o k) I I mm dd ?_;clear h;intro a h;refine Yr 9 10 ?_ ?_;focus
     refine Jw h I (.pN (((Zo (Km o k) ((gqA o k))).getD 0)+1)<|.binOp I I (λ_=>Jt _ _ _ _ _<|wrap_i64 _ (by have q:=(GM o k).get<|gqA o k;omega) (by have q:=(GM o k).get<|gqA o k;omega))) dd ?_;clear h;intro a h;refine Xj 10 ?_;refine K3 h I CS (u:=(gqA o k)) (m:=Km o k) I I uu dd ?_;clear h;intro a w h;refine Xj 11 ?_;refine Jw h I (.eX I) dd ?_;clear h;intro a h
    rotate_left;focus
     refine K3 h I CS (u:=(gqA o k)) (m:=Km o k) I I uu dd ?_;clear h;intro a w h;refine Yr 9 11 ?_ ?_;focus
      refine Jw h I (.pN (((Zo (Km o k) ((gqA o k))).getD 0)+1)<|.binOp I I (λ_=>Jt _ _ _ _ _<|wrap_i64 _ (by have q:=(GM o k).get<|gqA o k;omega) (by have q:=(GM o k).get<|gqA o k;omega))) dd ?_;clear h;intro a h;refine Xj 11 ?_;refine Jw h I (.eX I) dd ?_;clear h;intro a h
     rotate_left;focus
      refine Jw h I (.eX I) dd ?_;clear h;intro a h;refine Xj 9 ?_;refine Jw h I (.pN (((Zo (Km o k) ((gqA o k))).getD 0)+1)<|.binOp I I (λ_=>Jt _ _ _ _ _<|wrap_i64 _ (by have q:=(GM o k).get<|gqA o k;omega) (by have q:=(GM o k).get<|gqA o k;omega))) dd ?_;clear h;intro a h
   rotate_left 3;focus
    refine K3 h I CS (u:=(gqA o k)) (m:=Km o k) I I uu dd ?_;clear h;intro a w h;refine Yr 8 11 ?_ ?_;focus
     refine Mh h I CS (u:=(gqA o k)) (m:=Ia (Km o k) ((gqA o k)) 0) I I mm dd ?_;clear h;intro a h;rw[Ew] at h;refine Yr 9 11 ?_ ?_;focus
      refine Jw h I (.pN (((Zo (Km o k) ((gqA o k))).getD 0)+1)<|.binOp I I (λ_=>Jt _ _ _ _ _<|wrap_i64 _ (by have q:=(GM o k).get<|gqA o k;omega) (by have q:=(GM o k).get<|gqA o k;omega))) dd ?_;clear h;intro a h;refine Xj 11 ?_;refine Jw h I (.eX I) dd ?_;clear h;intro a h
     rotate_left;focus
      refine Jw h I (.eX I) dd ?_;clear h;intro a h;refine Xj 9 ?_;refine Jw h I (.pN (((Zo (Km o k) ((gqA o k))).getD 0)+1)<|.binOp I I (λ_=>Jt _ _ _ _ _<|wrap_i64 _ (by have q:=(GM o k).get<|gqA o k;omega) (by have q:=(GM o k).get<|gqA o k;omega))) dd ?_;clear h;intro a h
    rotate_left 2;focus
     refine Jw h I (.eX I) dd ?_;clear h;intro a h;refine Xj 8 ?_;refine Mh h I CS (u:=(gqA o k)) (m:=Ia (Km o k) ((gqA o k)) 0) I I mm dd ?_;clear h;intro a h;rw[Ew] at h;refine Xj 9 ?_;refine Jw h I (.pN (((Zo (Km o k) ((gqA o k))).getD 0)+1)<|.binOp I I (λ_=>Jt _ _ _ _ _<|wrap_i64 _ (by have q:=(GM o k).get<|gqA o k;omega) (by have q:=(GM o k).get<|gqA o k;omega))) dd ?_;clear h;intro a h
   all_goals
    refine Xj 12 ?_;refine gh (ek:=Zx) (ev:=Qb) h I (m:=Km o k) (u:=(gqA o k)) (z:=0) (q:=((Zo (Km o k) ((gqA o k))).getD 0)+1) I I I uu ?_;clear h;intro a w h;replace h:=h.same I (show _=[(g,bV (Ze (tg o k)) 133),(d,mB Zx Qb (gqV o k))] from I) I
  all_goals
   refine QM kk ?_;exact key _ _ (tO h)
 have D:o.length=k:=dF r;subst D;refine gC h<|au 0x431125310e ?_;refine zf [_] I call103 (fm A.length o ad c R W hl) ?_;rintro U T ⟨F,rfl,rfl⟩;have a1:=Kh o;refine au 0x82423f ?_;intro a w h;refine lpG h [1,5,20,21,22,52,53] pkL (λY Z (i:Nat) a w=>i<=(Za o).length /\ ∃(n:Option Addr) (c1:Nat) (H:List (Nat×Obj)),(GrowO 3 143 (.slice n ((((Za o).take i).filter<|Ox o).map sdE).length c1) ((((Za o).take i).filter<|Ox o).map sdE).length (cellsOf Ze ((((Za o).take i).filter<|Ox o).map sdE)) H)/\St 77 S w0 ((11,(.slice n ((((Za o).take i).filter<|Ox o).map sdE).length c1))::(54,nI i)::Y) (H++((d,mB Zx Qb<|Km o o.length)::[])) Z a w) (λi=>(Za o).length-i) 0 (⟨cX _,none,0,[],GrowO.nil _ _,by exact(h).sub sA⟩) ?_;clear h;rintro i a w ⟨Q,n,c1,H,a7,h⟩;refine gC h<|au 0x12d31 ?_;intro a w h;refine Zb h I (λs=>?_) (λs=>?_)
 ·have x:i<(Za o).length:=dT s;obtain ⟨J,K,rfl⟩:=h.row_addr (ad:=F) (M:=cellsOf Qr (Za o)) mm (nE 4);refine gC h<|au 0x27f31817 ?_;refine zD I mm (cells_lt (k:=4) dd (λ_=>rfl) (Za o) i oo) isAgg114 sizeOf114 (Zh (k:=4) (λ_=>rfl) ((λ_=>rfl)) (Za o) ed0 i oo) (.inl I) ?_;refine zz BK λX=>stW I I Yc ?_;refine au 0x44fb7f63f36f4312 ?_;refine zp (.build [(_,_),(_,_)] I<|EE _ _) ?_;clear h;intro a w h;refine Zc<|OQ h CS (u:=(((Za o).getD i ed0).a,((Za o).getD i ed0).b)) (m:=Km o o.length) I I mm dd ?_;clear h;intro a h;refine gL h<|au 0xae ?_;clear h;intro a w h;refine Zi h (λy h=>?_) (λy h=>?_)
  ·refine wpList_nil<|cW<|Qq h I ?_;refine gC h<|au 0x44fb7f63f36f43 ?_;refine zp (.build [(_,_),(_,_)] I<|WG _ _) (zB [(_,_)] I (PO _ _ _) λa6=>?_);refine apC Ze ((((Za o).take i).filter<|Ox o).map sdE) [(((Za o).getD i ed0).a,((Za o).getD i ed0).b,0)] a7 ?_ (hr:=by(try dsimp only);have:=oR o i;omega);intro l N C j a w h;refine gL h<|za I<|zn<|zr<|zp (.pN (i+1)<|.add I I)<|au 0x24 ?_;clear h;intro a w h;rw[ip x y] at h j;exact⟨i+1,⟨oo,l,N,C,j,by exact tO h⟩,oo⟩
  refine wpList_nil<|cW<|Zj h I<|gC h<|zk<|zr<|zp (.pN (i+1)<|.add I I)<|au 0x24 ?_;clear h;intro a w h;rw[iq x y] at h a7;exact⟨i+1,⟨oo,n,c1,H,a7,by exact tO h⟩,oo⟩
 have E:(Za o).length=i:=dF s;subst E;refine gC h<|au 0x4310e ?_;clear h;intro a w h;rw[w9,show List.map sdE (List.filter (Ox o) (Za o))=Kz o from rfl] at h a7;refine gL h<|zv [_] I call223 (UT n _ c1<|Kj a7)<|au 0x625 ?_;clear h;intro a w h;exact endO h (Zd h I (.tmp I)) ⟨n,c1,rfl,a7⟩ (fv _ _)
theorem C_Rim(e:∀f∈o,Ad A.length f=true)(d:0<o.length)(hl:o.length<=100000): Ctr prog 129 [.slice t A.length B,.slice a o.length c] [Row a (cellsOf Ze o)]
   (λv Ψ => ∃b,v=.slice b (Kz o).length (Kz o).length/\Ψ=[Row b (cellsOf Ze (Kz o))]):=CtrO.row (nN A o a t c B e d hl)
end Go.Proofs.YtdadideknhmbbaaGreatDoor
