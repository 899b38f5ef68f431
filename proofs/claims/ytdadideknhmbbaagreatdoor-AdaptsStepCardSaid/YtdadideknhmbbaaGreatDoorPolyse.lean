/- Walks of functions. By an AI agent. -/
import Derived.Test.YtdadideknhmbbaaGreatDoorSort1
import Derived.Test.YtdadideknhmbbaaGreatDoorFxP
import Derived.Shelf.SlSortCmp.PdqK
set_option linter.unusedVariables false
set_option linter.unusedSimpArgs false
set_option maxRecDepth 4000
set_option maxHeartbeats 8000000
namespace Go.Proofs.YtdadideknhmbbaaGreatDoor
open Go Go.Proofs Go.Fx Tryz
attribute [local irreducible] Oper.wp Code.wp wpList Fx.Head wpOp
variable{i6 J F w H O i1 h7 G L h6 h9 h8 h5:Value}{C b0 B a8 g a6:Rat}{E:List Rat}{W D h3 z A h2:Nat}{h4:Rat->Rat}(b3 b4 b5 b6 b7 b8 b9 c3 c4 c5 c6 c7 c8 c9 e0 e1 e2 e3 e4 e5 e6 e7 e8 e9 h0:Value)(b1 b2:Operand)(V:Int)(T:List Rat)(q:Option Addr)(N o u S:Nat)(Q:World)(e:Nat->Nat->Rat)(m r a1 a7:Rat)(U:List Nat)(Y:Nat)(Z:Int)(X:List Value)
theorem TN: List.map Qb (List.replicate N 0)=CL N (Value.cells (.int .i64 0)).toList:=by
 rw[List.map_replicate];unfold CL;induction N with
 | zero=>rfl
 | succ N a=>rw[tS,tS,List.flatten_cons, <-a];rfl
theorem kE: (Instr.buildSlice 61 0 [].toArray).run prog Q=.ok (.slice (some ⟨Q.heap.size,0,none⟩) 0 0) (Q.alloc (.cells #[] 3 (0,0))):=by
 simp[go_sem]
theorem me(h:u<=o): RN (Instr.sliceAt 61 (.slice q N o) none (some (.int .i64 (u:Int))) none) (.slice q u o):=λw=>by
 exact AH runUnderlying61 sizeOf3 q N o u h w
theorem Pp:∀l:List Nat,(List.map Qb l).all flat=true
 | []=>rfl
 | x::l=>by rw[eb,List.all_cons,Pp l];rfl
theorem eq_nil: RN (do eqGuard .eql 61 b1 b2 (.slice (some ⟨N,o,none⟩) u S) (.slice none 0 0);Go.binOp .eql 61 (.slice (some ⟨N,o,none⟩) u S) (.slice none 0 0):Sem Value) (.bool false):=λw=>by
 simp[go_sem];have e:(Op.equalIn 10000 61 (.slice (some ⟨N,o,none⟩) u S) (.slice none 0 0)).run prog w=.ok false w:=by
  rw[show(10000:Nat)=9999+1 from rfl,Op.equalIn];simp[go_sem]
 show(do pure (.bool (<-Op.equal 61 _ _)):Sem Value).run prog w=_;unfold Op.equal;simp only[bl];rw[show Op.maxDepth=10000 from rfl,e];rfl
def Nh(n i:Nat): List Nat:=List.range i++List.replicate (n-i) 0
theorem cD(h:A<D): (Nh D A).set A A=Nh D (A+1):=by
 unfold Nh;rw[uU _ _ ss,pr,wH,tZ,cv,show D-A=(D-(A+1))+1 by omega,tS];rfl
theorem cI: Nh N N=List.range N:=by unfold Nh;simp
theorem cH(h:A<=D): (Nh D A).length=D:=by unfold Nh;simp;omega
theorem WP(e:∀x∈T,Zr x<=50000000)(d:T.length<=1000000)(b:Nat)(σ:List (Nat×Obj)):
  GX prog 36 [.slice (some ⟨b,0,none⟩) T.length T.length,.func (.func 37) #[] #[.pointer (some ⟨o,0,none⟩)]] ((b,.cells (List.map Qb (List.range T.length)).toArray 3 (0,0))::σ)
   [Row (some ⟨o,0,none⟩) [.slice q T.length N],Row q (cellsOf Qa T)]
   (λv σ' Ψ=>v=.tuple #[]/\σ'=(b,.cells (List.map Qb (EL T)).toArray 3 (0,0))::σ/\Ψ=[Row (some ⟨o,0,none⟩) [.slice q T.length N],Row q (cellsOf Qa T)]):=by
 have h:=WQ T q N o e d b T.length (List.range T.length) (λi f=>List.mem_range.1 f) (by rw[pr];exact d) σ;rw[pr] at h;exact h
theorem lP(hl:U.length=u)(a:u<=1000000)(σ:List (Nat×Obj))(Φ:List Zs):
  GX prog 45 [.slice (some ⟨N,0,none⟩) u o] ((N,.cells (List.map Qb U++X).toArray 3 (0,0))::σ) Φ
   (λv σ' Ψ=>v=.tuple #[]/\σ'=(N,.cells (List.map Qb (U.mergeSort λx y=>decide (x<=y))++X).toArray 3 (0,0))::σ/\Ψ=Φ):=by
 subst hl;exact fD N o U X a σ Φ
theorem Wb(h:∀x∈T,Zr x<=50000000): ∀s:Rat,Zr (T.foldl (· + ·) s)<=Zr s+50000001*T.length:=by
 induction T with
 | nil=>intro s;simp
 | cons x T a =>
  intro s;have h1:=a (λy b=>h y (aX _ b)) (s+x);have c:=Xo s x;have d:=h x ae;rw[s6,dc];omega
theorem O8(h:∀x∈E,Zr x<=50000000): Zr (S3 E)<=2+50000001*E.length:=by
 have h1:=Wb E h 0;have a:=Kd;unfold S3;omega
theorem LM{E:List Rat}(h:∀x∈E,Zr x<=50000000)(t:Rat): ∀j,j<=E.length->Zr (AX E t j)<=Zr t+3+50000001*E.length+50000001*j
 | 0,_=>by have h1:=Qh t (S3 E);have a:=O8 h;rw[AX];omega
 | j+1,hj=>by
  have h1:=LM h t j oo;have a:=Yg (AX E t j) (E.getD ((EL E).getD j 0) 0);have b:=h _ (getD_mem E (d:=0) (ZN E (getD_mem (EL E) (i:=j) (d:=0) (by rw[Ek];omega))));rw[AX];omega
theorem sH(l:List Rat)(a:l.length<=90)(hx:∀x∈l,Zr x<=50000000):
  Xi prog 41 [.slice q l.length N] [Row q (cellsOf Qa l)] (Qa (S3 l)):=C_QSum q N l a hx
theorem gn(h:Do g=true): g<=1:=by
 unfold Do at h;rw[cz,decide_eq_true_iff,decide_eq_true_iff] at h;have h1:=ol g ((1:Int):Rat);have b:¬((1:Int):Rat)<g:=λa=>by have:=h1.2 a;omega
 have a:((1:Int):Rat)=1:=rfl;rw[a] at b;exact Rat.not_lt.1 b
theorem ZZ(h:E.any (λx:Rat=>decide (x.num.sign<0))=false): ∀x∈E,(0:Rat)<=x:=by
 intro x hx;rw[vd] at h;have h1:=h x hx;rw[decide_eq_true_iff,G3] at h1;exact Rat.not_lt.1 h1
def EY(E:List Rat)(t:Rat): Int:=if (Do t && !E.any (λx:Rat=>decide (x.num.sign<0)))=true then 0 else 1
def Qw(E:List Rat)(t:Rat): List Nat:=if EY E t=0 then iv E t else []
def PostMark(E:List Rat)(t:Rat)(v:Value)(Ψ:List Zs): Prop := ∃ad,v=.tuple #[.slice ad (Qw E t).length (Qw E t).length,.int .i64 (EY E t)]/\Ψ=[Row ad (List.map Qb (Qw E t))]
theorem PostMark.ok{ad:Option Addr}(h1:Do g=true)(c:E.any (λx:Rat=>decide (x.num.sign<0))=false)(d:(iv E g).length=D):
  PostMark E g (.tuple #[.slice ad D D,.int .i64 0]) [Row ad (List.map Qb (iv E g))]:=by
 have b:EY E g=0:=by unfold EY;rw[h1,c];rfl
 have a:Qw E g=iv E g:=by unfold Qw;rw[if_pos b]
 exact⟨ad,by rw[a,b,d],by rw[a]⟩
theorem PostMark.err(h:(Do g && !E.any (λx:Rat=>decide (x.num.sign<0)))=false): PostMark E g (.tuple #[.slice none 0 0,.int .i64 1]) [Row none []]:=by
 have b:EY E g=1:=by unfold EY;rw[h];rfl
 have a:Qw E g=[]:=by unfold Qw;rw[b];rfl
 exact⟨none,by rw[a,b];rfl,by rw[a];rfl⟩
theorem iu(a:∀x∈E,0<=x)(t:Rat)(hm:D<=E.length)(h1:∀j,j<D->0<AX E t j)(b:¬0<AX E t D): (iv E t).length=D:=by
 rw[<-mark_eq a t hm h1 b,um,db,Ek];omega
theorem UY(a:N<=o): Jk prog 43 [.slice q N o] (.slice q N N):=by
 refine fnI func43 I ntmps43 λS w0 b=>au 0x20f420f44312531 ?_;refine zp (.slice I none (some _) (some _) I I I<|Yd runUnderlying61 sizeOf3 _ _ _ a)<|za I<|zn<|zt<|rtK I
theorem sX(r:U.length<=1000000): CtrO prog 44 [.slice (some ⟨N,o,none⟩) U.length u] [Row (some ⟨N,o,none⟩) (List.map Qb U)]
   (λv f => ∃i g R,v=.slice (some ⟨i,0,none⟩) U.length g/\U.length<=g/\f=[(i,.cells (List.map Qb U++R).toArray 3 (0,0))]):=by
 refine fn_introO func44 I ntmps44 nb ?_;intro S w0 a q h;refine gC h<|au 0x43112531 ?_;refine zp (.binOp I I<|eq_nil _ _ _ _ _ _) ?_;clear h;intro a w h;refine Zi h (λd h=>(by exfalso;cases d)) (λd h=>?_);refine wpList_nil<|cW<|Zj h I<|gC h<|zk<|zS (zB [] I (kE) λm=>zm I ?_);clear h;intro a w h;refine Zc<|Gw (b:=m) (xs:=[]) (ys:=List.map Qb U) (ad2:=some ⟨N,o,none⟩) (k:=1) h I I mm I runUnderlying61 runUnderlying61 typeInfo3 sizeOf3 zeroValue3 I dd dd (by rw[az,vw]) (Pp _) (by show 8*(2*_+192)<=281474976710656;omega) dd ?_;clear h;intro j n p a w e h;rw[ca,ec] at h;rw[ca] at e;refine gL h<|au 0x625 ?_;clear h;intro a w h;exact HV h (Zd h I (.tmp I)) ⟨j,n,p,rfl,e,rfl⟩ (fT _)
theorem lW(hl:U.length=S)(f:S<=1000000): CtrO prog 44 [.slice (some ⟨N,o,none⟩) S u] [Row (some ⟨N,o,none⟩) (List.map Qb U)]
   (λv a => ∃d e R,v=.slice (some ⟨d,0,none⟩) S e/\S<=e/\a=[(d,.cells (List.map Qb U++R).toArray 3 (0,0))]):=by
 subst hl;exact sX N o u U f
theorem C_Mark(B:∀x∈T,Zr x<=50000000)(ht:Zr m<=1000)(hn:T.length<=90):
  Ctr prog 9 [.slice q T.length N,Qa m] [Row q (cellsOf Qa T)] (PostMark T m):=by
 have a8:=Ek T;have b8:=O8 B;refine fnI func9 I ntmps9 λS w0 F=>zS (zx I λC=>?_);intro a w h;replace h:=h.shareAll F ([.slice q T.length N]) I;refine gL h (zx I λH=>au 0x6e3112531255 ?_);refine zv [_] I call22 (eN m oo) ?_;clear h;intro a w h;refine Zi h (λe h=>?_) (λe h=>?_)
 ·have L:=gn e;refine gL h<|au 0x440f ?_;clear h;intro a w h;refine Zq 15 h I I<|Xm h (b:=C) (off:=0) (j:=0) (M:=[.slice q T.length N]) (v:=.slice q T.length N) I mm (gM _) isAgg54 sizeOf54 I (.inr I) dd ?_;clear h;intro a h;refine gL h<|zq 15 I I (.move I) ?_;clear h;intro a w h;refine Zq 15 h I I<|Qu h (vs:=[_,_]) I call35 (W5 _ _ T oo) ss dd ?_;clear h;intro a w h;refine Zi h (λf h=>?_) (λf h=>?_)
  ·refine gL h<|au 0x6255311e22e ?_;clear h;intro a w h;replace h:=h.derive (R:=Row none []) (λX J s=>absurd I s);exact Qj (Ψ:=[Row none []]) h (Qd h I (.tmp I) (.tmp I)) (PostMark.err (by rw[e,f];rfl)) ss
  have r:=ZZ f;refine gL h<|au 0x317c22e ?_;refine zD (b:=C) (off:=0) (j:=0) (M:=[.slice q T.length N]) (v:=.slice q T.length N) I mm (gM _) isAgg54 sizeOf54 I (.inr I) ?_;refine au 0x47f ?_;clear h;intro a w h;refine Zc<|Qz h I I runUnderlying61 typeInfo3 sizeOf3 zeroValue3 I dd (by exact aZ _) (by show 8*(T.length)<=281474976710656;omega) oo dd ?_;clear h;intro b2 a w h;replace h:=h.same I (by rw[<-TN]) I;refine gL h<|au 0x82420f431125 ?_;intro a w h;refine lpG h [2,3,5,7,24] pkL (λY Z (i:Nat) a w=>i<=T.length/\St 62 S w0 ((25,nI i)::Y) [(b2,.cells (List.map Qb<|Nh T.length i).toArray 3 (0,0)),(H,bV (Qa<|m) 47)] Z a w) (λi=>T.length-i) 0 (⟨cX _,by exact(h).sub sA⟩) ?_;clear h;rintro i a w ⟨U,h⟩;refine gC h<|au 0x12d31 ?_;intro a w h;refine Zb h I (λg=>?_) (λg=>?_)
  ·have t:i<T.length:=dT g;obtain ⟨o,n,rfl⟩:=h.row_addr (ad:=q) (M:=cellsOf Qa T) mm (nE 5);have b6:=cH (tI t);refine gC h<|au 0xe0f444325431817 ?_;refine zt' I I ((congrArg (λz=>Zp _ z _)<|ca _).trans<|Jc (enc:=Qb) (Nh T.length i) i i) uu sizeOf3 I (by simp;omega) I ?_;refine zn<|zr<|zp (.pN (i+1)<|.add I I)<|au 0x24 ?_;clear h;intro a w h;rw[cD t] at h;exact⟨i+1,⟨oo,tO h⟩,oo⟩
  have u:T.length=i:=dF g;subst u;rw[cI] at h;refine gC h<|au 0x56f4310e ?_;clear h;intro a w h;refine Zc<|Vb h F (vs:=[_,_]) I call36 (WP T q N C B oo b2 [(H,_)]) (cr _) ss ss ?_;clear h;rintro v35 P Q a w ⟨rfl,rfl,rfl⟩ h;replace h:=h.shareAll F (List.map Qb (EL T)) I;refine gL h<|zn<|zs<|yF [0,1,2,3,4,5]<|au 0xce ?_;clear h;refine Zf (b:=C) (off:=0) (j:=0) (M:=[.slice q T.length N]) (v:=.slice q T.length N) I kk I mm (gM _) isAgg54 sizeOf54 I (.inr I) dd ?_;refine yw [_] I I call41 (sH q N T oo B)<|au 0xb2f ?_;have O:=Qh (m) (S3 T);refine yz I Xc λc=>stV I I I Zl ?_;refine au 0x812531a ?_;intro a w h;refine lpG h [2,3,5,7,9,24,25] pkL (λY Z (j:Nat) a w=>(j<=T.length /\ ∀i,i<j->0<AX T m i)/\St 62 S w0 ((10,nI j)::Y) [(c,bV (Qa<|AX T m j) 47),(H,bV (Qa<|m) 47)] Z a w) (λj=>T.length-j) (0) (⟨⟨cX _,λi hi=>absurd hi oo⟩,by exact h.sub sA⟩) ?_;clear h;rintro j a w ⟨hj,h⟩;have b7:=LM B m j hj.1;refine gC h<|au 0x2c0fb1f6e311 ?_;intro a w h;refine Zb h I (λp=>?_) (λp=>?_)
  ·have V:0<AX T m j:=(Av _).1 (of_decide_eq_true p);have b1:=ji r L hj.1 V;have K:=ZN T (getD_mem (EL T) (i:=j) (d:=0) oo);have b5:=B _ (getD_mem T (d:=0) K);obtain ⟨o,n,rfl⟩:=h.row_addr (ad:=q) (M:=cellsOf Qa T) mm (nE 5);refine gC h<|zk<|zb<|zs<|yE [0,1,2,3,4,5,6,7,8,9]<|au 0xce ?_;clear h;refine Zf (b:=C) (off:=0) (j:=0) (M:=[.slice (some ⟨o,n,none⟩) T.length N]) (v:=.slice (some ⟨o,n,none⟩) T.length N) I kk I mm (gM _) isAgg54 sizeOf54 I (.inr I) dd ?_;refine au 0x99 ?_;refine yp I (.indexAddr I I<|FT _ _ _ _ _ oo) ?_;refine Zf I kk I mm (by rw[az];omega) isAgg3 sizeOf3 (Zn (enc:=Qb) (l:=(EL T)) 0 oo) (.inr I) dd ?_;refine au 0x42f ?_;refine Zf I kk I mm (cells_lt (k:=5) dd (λ_=>rfl) T ((EL T).getD j 0) oo) isAgg47 sizeOf47 (Zh (k:=5) (λ_=>rfl) ((λ_=>rfl)) T 0 ((EL T).getD j 0) oo) (.inl I) dd ?_;refine au 0x68f ?_;have a1:=Yg (AX T m j) (T.getD ((EL T).getD j 0) 0);refine stV I I I Zl ?_;refine yn<|zr<|zm I<|zp (.pN (j+1)<|.add I I)<|au 0x25 ?_;intro a w h;exact⟨j+1,⟨⟨oo,λi hi=>by
    rcases el i j with h1|h1
    ·exact hj.2 i h1
    rw[show i=j by omega];exact V⟩,by exact tO h⟩,oo⟩
  have G:¬0<AX T m j:=λh1=>of_decide_eq_false p ((Av _).2 h1);have y:((EL T).take j).length=j:=by rw[db];omega
  refine gC h<|au 0x44310e ?_;refine zp (.slice I none (some _) none I I I<|me _ _ _ _ oo) ?_;clear h;intro a w h;replace h:=h.derive (R:=Row (some ⟨b2,0,none⟩) (List.map Qb ((EL T).take j))) (λX J=>by rw[wv];exact Fz (J _ mm) j);refine Zc<|Xd h (vs:=[_]) I call44 (lW b2 0 T.length j ((EL T).take j) y oo) ss dd ?_;clear h;rintro b0 a6 a w ⟨A,b4,E,rfl,D,rfl⟩ h;refine gL h<|zv [_] I call43 (UY _ _ _ D)<|au 0x43125 ?_;clear h;intro a w h;refine Zc<|Vb h F (vs:=[_]) I call45 (lP A j j ((EL T).take j) E y oo [(c,_),(H,_)] []) (cr _) ss ss ?_;clear h;rintro v60 a7 W a w ⟨rfl,rfl,rfl⟩ h;rw[mark_eq r m hj.1 hj.2 G] at h;replace h:=h.share F (off:=0) (M:=List.map Qb (iv T m)) (λk hk=>by rw[ca,List.getElem?_toArray,List.getElem?_append_left hk]);refine gL h<|au 0x62554312 ?_;clear h;intro a w h;exact Qj (Ψ:=[Row (some ⟨A,0,none⟩) (List.map Qb (iv T m))]) h (Qd h I (.tmp I) (.tmp I)) (PostMark.ok e f (iu r m hj.1 hj.2 G)) ss
 refine gL h<|au 0x6255311e23e64f64f64f440f ?_;clear h;intro a w h;replace h:=h.derive (R:=Row none []) (λX J s=>absurd I s);exact Qj (Ψ:=[Row none []]) h (Qd h I (.tmp I) (.tmp I)) (PostMark.err (by rw[e];rfl)) ss
theorem Hz: (Instr.buildSlice 54 5 [(0,.agg #[b3,b4,b5,b6,b7]),(1,.agg #[b8,b9,c3,c4,c5]),(2,.agg #[c6,c7,c8,c9,e0]),(3,.agg #[e1,e2,e3,e4,e5]),(4,.agg #[e6,e7,e8,e9,h0])].toArray).run prog Q=.ok (.slice (some ⟨Q.heap.size,0,none⟩) 5 5) (Q.alloc (.cells #[b3,b4,b5,b6,b7,b8,b9,c3,c4,c5,c6,c7,c8,c9,e0,e1,e2,e3,e4,e5,e6,e7,e8,e9,h0] 47 (0,0))):=by
 simp[go_sem]
theorem D8(hR:Qw T m=U)(he:EY T m=Z)(hl:U.length=Y)(b:∀x∈T,Zr x<=50000000)(ht:Zr m<=1000)(d:T.length<=90):
  Ctr prog 9 [.slice q T.length N,Qa m] [Row q (cellsOf Qa T)] (λv Ψ => ∃a,v=.tuple #[.slice a Y Y,.int .i64 Z]/\Ψ=[Row a (List.map Qb U)]):=by
 subst hR;subst he;subst hl;exact C_Mark T q N m b ht d
abbrev exE:List Rat:=[((1:Int):Rat),((4:Int):Rat),((2:Int):Rat),((4:Int):Rat),((1:Int):Rat)]
theorem Hu:∀x∈exE,Zr x<=50000000:=by
 intro x hx;have h1:=Qe 1 dd dd;have a:=Qe 2 dd dd;have b:=Qe 4 dd dd;simp only[exE,cZ,cf,or_false] at hx;rcases hx with rfl|rfl|rfl|rfl|rfl<;>omega
theorem exR35:Qw exE (((1:Int):Rat)/((2:Int):Rat))=[1,3]:=by decide +kernel
theorem exM35:EY exE (((1:Int):Rat)/((2:Int):Rat))=0:=by decide +kernel
theorem exR41:Qw exE (((1:Int):Rat)/((3:Int):Rat))=[1]:=by decide +kernel
theorem exM41:EY exE (((1:Int):Rat)/((3:Int):Rat))=0:=by decide +kernel
theorem exR47:Qw exE (((3:Int):Rat)/((4:Int):Rat))=[1,2,3]:=by decide +kernel
theorem exM47:EY exE (((3:Int):Rat)/((4:Int):Rat))=0:=by decide +kernel
theorem exR53:Qw exE (((0:Int):Rat))=[]:=by decide +kernel
theorem exM53:EY exE (((0:Int):Rat))=0:=by decide +kernel
theorem exR59:Qw exE (((1:Int):Rat))=[0,1,2,3,4]:=by decide +kernel
theorem exM59:EY exE (((1:Int):Rat))=0:=by decide +kernel
theorem exR65:Qw exE (((3:Int):Rat)/((2:Int):Rat))=[]:=by decide +kernel
theorem exM65:EY exE (((3:Int):Rat)/((2:Int):Rat))=1:=by decide +kernel
theorem ff:Jk prog 5 [] (.bool true):=by
 refine fnI func5 I ntmps5 λS w0 hS=>au 0xf1f312531 ?_;intro a w h;have G:=Qe (1) oo oo;refine gL h<|au 0xf1f ?_;have Z:=Qe (4) oo oo;refine au 0xf1f ?_;intro a w h;have U:=Qe (2) oo oo;refine gL h<|au 0xf1f ?_;have Y:=Qe (4) oo oo;refine au 0xf1f ?_;intro a w h;have a6:=Qe (1) oo oo;refine gL h (zB [(_,_),(_,_),(_,_),(_,_),(_,_)] I (Hz _ _ _ _ _ _ _ _ _ _ _ _ _ _ _ _ _ _ _ _ _ _ _ _ _) λF=>za I ?_);clear h;intro a w h;replace h:=h.shareAll hS (cellsOf Qa ([((1:Int):Rat),((4:Int):Rat),((2:Int):Rat),((4:Int):Rat),((1:Int):Rat)])) I;replace h:=h.same (Φ':=[Row (some ⟨F,0,none⟩) (cellsOf Qa exE)]) I I I;refine gL h<|au 0x74f312 ?_;have V:=Kq (1) (3) oo oo oo oo;refine au 0xbb4 ?_;refine zz Xc λb2=>stW I I Zl ?_;refine au 0x74f3125 ?_;clear h;intro a w h;have J:=Kq (3) (4) oo oo oo oo;refine gL h<|au 0xbb4 ?_;refine zz Xc λb4=>stW I I Zl ?_;refine au 0x43125 ?_;refine zv [_] I call21 (fl 1 oo oo) ?_;have H:=Kq 1 2 oo oo dd dd;refine zf [_,_] I call9 (D8 exE _ _ (((1:Int):Rat)/((2:Int):Rat)) [1,3] 2 0 exR35 exM35 I Hu oo nb) ?_;rintro v35 P ⟨s,rfl,rfl⟩ a w h;obtain ⟨C,z,rfl⟩:=h.row_addr (ad:=s) (M:=List.map Qb [1,3]) mm (by intro e;cases e);refine gL h<|au 0x6e431255bb4 ?_;refine zf [_,_] I call9 (D8 exE _ _ (((1:Int):Rat)/((3:Int):Rat)) [1] 1 0 exR41 exM41 I Hu oo nb) ?_;clear h;rintro v41 K ⟨v,rfl,rfl⟩ a w h;obtain ⟨E,A,rfl⟩:=h.row_addr (ad:=v) (M:=List.map Qb [1]) mm (by intro e;cases e);refine gL h<|au 0x6e431255bb4 ?_;refine zf [_,_] I call9 (D8 exE _ _ (((3:Int):Rat)/((4:Int):Rat)) [1,2,3] 3 0 exR47 exM47 I Hu oo nb) ?_;clear h;rintro a7 a1 ⟨t,rfl,rfl⟩ a w h;obtain ⟨B,x,rfl⟩:=h.row_addr (ad:=t) (M:=List.map Qb [1,2,3]) mm (by intro e;cases e);refine gL h<|au 0xf1f431255bb4 ?_;have O:=Qe (0) oo oo;refine zf [_,_] I call9 (D8 exE _ _ (((0:Int):Rat)) [] 0 0 exR53 exM53 I Hu oo nb) ?_;rintro v53 R ⟨X,rfl,rfl⟩;refine au 0xf1f431255bb4 ?_;intro a w h;have L:=Qe (1) oo oo;refine gL h<|zf [_,_] I call9 (D8 exE _ _ (((1:Int):Rat)) [0,1,2,3,4] 5 0 exR59 exM59 I Hu oo nb) ?_;clear h;rintro v59 W ⟨u,rfl,rfl⟩ a w h;obtain ⟨D,y,rfl⟩:=h.row_addr (ad:=u) (M:=List.map Qb [0,1,2,3,4]) mm (by intro e;cases e);refine gL h<|au 0x431255bb4 ?_;refine zv [_] I call21 (fl 3 oo oo) ?_;have Q:=Kq 3 2 oo oo dd dd;refine zf [_,_] I call9 (D8 exE _ _ (((3:Int):Rat)/((2:Int):Rat)) [] 0 1 exR65 exM65 I Hu oo nb) ?_;rintro a8 N ⟨T,rfl,rfl⟩;refine au 0x71f4311255bb4 ?_;refine bbF (λr=>(by exfalso;revert r;decide)) λr=>zm I<|zq 70 I I (.move I)<|zq 70 I I (.builtin [_] I<|Yu _ _ _)<|zq 70 I I (.neq I I) (bbF (λo=>(by exfalso;revert o;decide)) λo=>au 0x42e ?_);refine zq 75 I I (.move I)<|zq 75 I I (.builtin [_] I<|Yu _ _ _)<|zq 75 I I (.neq I I) (bbF (λm=>(by exfalso;revert m;decide)) λm=>au 0x42e ?_);refine zq 80 I I (.move I)<|zq 80 I I (.builtin [_] I<|Yu _ _ _)<|zq 80 I I (.neq I I) (bbF (λq=>(by exfalso;revert q;decide)) λq=>au 0x42e ?_);refine zq 85 I I (.move I)<|zq 85 I I (.builtin [_] I<|Yu _ _ _)<|zq 85 I I (.neq I I) (bbF (λn=>(by exfalso;revert n;decide)) λn=>au 0x42e ?_);refine zq 90 I I (.move I)<|zq 90 I I (.builtin [_] I<|Yu _ _ _)<|zq 90 I I (.neq I I) (bbF (λp=>(by exfalso;revert p;decide)) λp=>au 0x42e ?_);refine zq 95 I I (.move I)<|zq 95 I I (.neq I I) (bbF (λl=>(by exfalso;revert l;decide)) λl=>au 0x4317c22e ?_);refine zp (.indexAddr I I<|FT _ _ _ _ 0 dd)<|zD I mm (by simp;first|done|decide) isAgg3 sizeOf3 (Zn 0 (by first|done|decide)) (.inr I) ?_;refine zp (.eql I I) (bbT (λd=>(by exfalso;revert d;decide)) λd=>zm I<|zq 103 I I (.move I)<|zq 103 I I (.indexAddr I I<|FT _ _ _ _ 1 dd) ?_);clear h;intro a w h;refine Zq 103 h I I<|Xm h I mm (by simp;first|done|decide) isAgg3 sizeOf3 (Zn 0 (by first|done|decide)) (.inr I) dd ?_;clear h;intro a h;refine gL h<|zq 103 I I (.eql I I) (bbT (λg=>(by exfalso;revert g;decide)) λg=>au 0x43e ?_);refine zq 109 I I (.move I)<|zq 109 I I (.indexAddr I I<|FT _ _ _ _ 0 dd) ?_;clear h;intro a w h;refine Zq 109 h I I<|Xm h I mm (by simp;first|done|decide) isAgg3 sizeOf3 (Zn 0 (by first|done|decide)) (.inr I) dd ?_;clear h;intro a h;refine gL h<|zq 109 I I (.eql I I) (bbT (λi=>(by exfalso;revert i;decide)) λi=>au 0x43e ?_);refine zq 115 I I (.move I)<|zq 115 I I (.indexAddr I I<|FT _ _ _ _ 0 dd) ?_;clear h;intro a w h;refine Zq 115 h I I<|Xm h I mm (by simp;first|done|decide) isAgg3 sizeOf3 (Zn 0 (by first|done|decide)) (.inr I) dd ?_;clear h;intro a h;refine gL h<|zq 115 I I (.eql I I) (bbT (λk=>(by exfalso;revert k;decide)) λk=>au 0x43e ?_);refine zq 121 I I (.move I)<|zq 121 I I (.indexAddr I I<|FT _ _ _ _ 1 dd) ?_;clear h;intro a w h;refine Zq 121 h I I<|Xm h I mm (by simp;first|done|decide) isAgg3 sizeOf3 (Zn 0 (by first|done|decide)) (.inr I) dd ?_;clear h;intro a h;refine gL h<|zq 121 I I (.eql I I) (bbT (λj=>(by exfalso;revert j;decide)) λj=>au 0x43e ?_);refine zq 127 I I (.move I)<|zq 127 I I (.indexAddr I I<|FT _ _ _ _ 2 dd) ?_;clear h;intro a w h;refine Zq 127 h I I<|Xm h I mm (by simp;first|done|decide) isAgg3 sizeOf3 (Zn 0 (by first|done|decide)) (.inr I) dd ?_;clear h;intro a h;refine gL h<|zq 127 I I (.eql I I) (bbT (λb=>(by exfalso;revert b;decide)) λb=>au 0x43e ?_);refine zq 133 I I (.move I)<|zq 133 I I (.indexAddr I I<|FT _ _ _ _ 0 dd) ?_;clear h;intro a w h;refine Zq 133 h I I<|Xm h I mm (by simp;first|done|decide) isAgg3 sizeOf3 (Zn 0 (by first|done|decide)) (.inr I) dd ?_;clear h;intro a h;refine gL h<|zq 133 I I (.eql I I) (bbT (λc=>(by exfalso;revert c;decide)) λc=>au 0x43e ?_);refine zq 139 I I (.move I)<|zq 139 I I (.indexAddr I I<|FT _ _ _ _ 4 dd) ?_;clear h;intro a w h;refine Zq 139 h I I<|Xm h I mm (by simp;first|done|decide) isAgg3 sizeOf3 (Zn 0 (by first|done|decide)) (.inr I) dd ?_;clear h;intro a h;refine gL h<|zq 139 I I (.eql I I) (bbT (λf=>(by exfalso;revert f;decide)) λf=>au 0x6253e ?_);refine rtK I
structure Tm where
 i:Nat
 j:Nat
 c:Rat
theorem Tm.ext'{s t:Tm}(h1:s.i=t.i)(a:s.j=t.j)(b:s.c=t.c): s=t:=by cases s;cases t;simp_all
instance:DecidableEq Tm:=λs t=>decidable_of_iff (s.i=t.i/\s.j=t.j/\s.c=t.c) ⟨λh=>Tm.ext' h.1 h.2.1 h.2.2,λh=>by rw[h];exact⟨rfl,rfl,rfl⟩⟩
def lin(φ:Nat->Nat->Rat): List Tm->Rat
 | []=>0
 | t::l=>t.c*φ t.i t.j+lin φ l
theorem MO: lin e []=0:=rfl
theorem TT(t:Tm)(l:List Tm): lin e (t::l)=t.c*e t.i t.j+lin e l:=rfl
theorem An(φ:Nat->Nat->Rat): ∀l m:List Tm,lin φ (l++m)=lin φ l+lin φ m
 | [],m=>by simp only[ec,lin];grind
 | t::l,m=>by simp only[gH,lin,An φ l m];grind
theorem jb{l m:List Tm}(h:l.Perm m): lin e l=lin e m:=by
 induction h with
 | nil=>rfl
 | cons x _ a=>simp only[lin,a]
 | swap x y l=>simp only[lin];grind
 | trans _ _ h1 b=>rw[h1,b]
theorem AN{φ a:Nat->Nat->Rat}: ∀ {l:List Tm},(∀t∈l,φ t.i t.j=a t.i t.j)->lin φ l=lin a l
 | [],_=>rfl
 | t::l,h=>by rw[lin,lin,h t ae,AN (λs hs=>h s (aX _ hs))]
theorem aH(φ a:Nat->Nat->Rat): ∀l:List Tm,lin (λi j=>φ i j+a i j) l=lin φ l+lin a l
 | []=>by simp only[lin];grind
 | t::l=>by simp only[lin,aH φ a l];grind
theorem Em(a:Rat)(φ:Nat->Nat->Rat): ∀l:List Tm,lin (λi j=>a*φ i j) l=a*lin φ l
 | []=>by simp only[lin];grind
 | t::l=>by simp only[lin,Em a φ l];grind
theorem TQ(a:Rat)(φ:Nat->Nat->Rat): ∀l:List Tm,lin (λi j=>φ i j*a) l=lin φ l*a
 | []=>by simp only[lin];grind
 | t::l=>by simp only[lin,TQ a φ l];grind
theorem TP:∀l:List Tm,lin (λ_ _=>0) l=0
 | []=>rfl
 | t::l=>by simp only[lin,TP l];grind
theorem JA(φ:Nat->Nat->Rat)(g:Tm->Tm)(a:Nat->Nat->Rat): ∀l:List Tm,(∀t∈l,(g t).c*φ (g t).i (g t).j=t.c*a t.i t.j)->lin φ (l.map g)=lin a l
 | [],_=>rfl
 | t::l,h=>by rw[eb,lin,lin,h t ae,JA φ g a l (λs hs=>h s (aX _ hs))]
theorem E0(φ:Nat->Nat->Rat)(g:Tm->List Tm)(a:Nat->Nat->Rat): ∀l:List Tm,(∀t∈l,lin φ (g t)=t.c*a t.i t.j)->lin φ (l.flatMap g)=lin a l
 | [],_=>rfl
 | t::l,h=>by rw[ub,An,lin,h t ae,E0 φ g a l (λs hs=>h s (aX _ hs))]
def same(s t:Tm): Prop:=s.i=t.i/\s.j=t.j
instance (s t:Tm):Decidable (same s t):=inferInstanceAs (Decidable (_/\_))
def Di(t:Tm): List Tm->List Tm
 | []=>[⟨t.i,t.j,0+t.c⟩]
 | s::p=>if same s t then ⟨s.i,s.j,s.c+t.c⟩::p else s::Di t p
theorem TS(φ:Nat->Nat->Rat)(t:Tm): ∀p:List Tm,lin φ (Di t p)=lin φ p+t.c*φ t.i t.j
 | []=>by simp only[Di,lin];grind
 | s::p=>by
  rw[Di];split
  ·rename_i h;obtain ⟨h1,a⟩:=h;simp only[lin,h1,a];grind
  simp only[lin,TS φ t p];grind
theorem M8{t u:Tm}: ∀ {p:List Tm},u∈Di t p->same u t\/u∈p
 | [],h=>by simp only[Di,da] at h;subst h;exact .inl ⟨rfl,rfl⟩
 | s::p,h=>by
  rw[Di] at h;split at h
  ·rename_i a;rcases List.mem_cons.1 h with rfl|h
   ·exact .inl a
   exact .inr (aX _ h)
  rcases List.mem_cons.1 h with rfl|h
  ·exact .inr ae
  exact(M8 h).imp id (aX _)
def dif(p:List Tm): Prop:=p.Pairwise (λs t => ¬same s t)
theorem T9(t:Tm): ∀ {p:List Tm},dif p->dif (Di t p)
 | [],_=>by rw[Di];exact wC _ _
 | s::p,h=>by
  obtain ⟨h1,b⟩:=List.pairwise_cons.1 h;rw[Di];split
  ·rename_i hs;exact List.pairwise_cons.2 ⟨λu hu hc=>h1 u hu hc,b⟩
  rename_i hs;refine List.pairwise_cons.2 ⟨λu hu=>?_,T9 t b⟩;rcases M8 hu with a|a
  ·exact λc=>hs ⟨c.1.trans a.1,c.2.trans a.2⟩
  exact h1 u a
theorem T8(t:Tm): ∀p:List Tm,(Di t p).length<=p.length+1
 | []=>aZ _
 | s::p=>by
  have h:=T8 t p;rw[Di];split<;>simp only[dc]<;>omega
def collect(l:List Tm): List Tm:=l.foldl (λp t=>Di t p) []
theorem J7(φ:Nat->Nat->Rat): ∀(l p:List Tm),lin φ (l.foldl (λp t=>Di t p) p)=lin φ p+lin φ l
 | [],p=>by simp only[uf,lin];grind
 | t::l,p=>by rw[s6,J7 φ l,TS,lin];grind
theorem RH(l:List Tm): lin e (collect l)=lin e l:=by
 rw[collect,J7,lin];grind
theorem DW:∀(l:List Tm) {p:List Tm},dif p->dif (l.foldl (λp t=>Di t p) p)
 | [],p,h=>h
 | t::l,p,h=>by rw[s6];exact DW l (T9 t h)
theorem J8(l:List Tm): dif (collect l):=DW l List.Pairwise.nil
theorem DU{u:Tm}: ∀(l:List Tm) {p:List Tm},u∈l.foldl (λp t=>Di t p) p->u∈p \/ ∃t∈l,same u t
 | [],p,h =>.inl h
 | t::l,p,h=>by
  rw[s6] at h;rcases DU l h with h1|⟨s,hs,h1⟩
  ·rcases M8 h1 with a|a
   ·exact .inr ⟨t,ae,a⟩
   exact .inl a
  exact .inr ⟨s,aX _ hs,h1⟩
theorem J6{l:List Tm}{u:Tm}(h:u∈collect l): ∃t∈l,same u t:=by
 rcases DU l h with h|h
 ·cases h
 exact h
theorem DV:∀(l p:List Tm),(l.foldl (λp t=>Di t p) p).length<=p.length+l.length
 | [],p=>aZ _
 | t::l,p=>by rw[s6];have:=DV l (Di t p);have:=T8 t p;simp only[dc];omega
theorem Fb(l:List Tm): (collect l).length<=l.length:=by have:=DV l [];simpa [collect] using this
def ltT(s t:Tm): Bool:=decide (s.i+s.j<t.i+t.j\/(s.i+s.j=t.i+t.j/\s.j<t.j))
theorem Dy(s t:Tm): ltT s t=true↔(s.i+s.j<t.i+t.j\/(s.i+s.j=t.i+t.j/\s.j<t.j)):=decide_eq_true_iff
theorem LK(s:Tm): ltT s s=false:=by rw[rv,Ne,Dy];omega
theorem I6{s t u:Tm}(h1:ltT s t=true)(a:ltT t u=true): ltT s u=true:=by rw[Dy] at *;omega
theorem LJ{s t u:Tm}(h1:ltT s t=false)(a:ltT t u=false): ltT s u=false:=by rw[rv,Ne,Dy] at *;omega
theorem I7{s t:Tm}(h1:ltT s t=false)(a:ltT t s=false): same s t:=by
 rw[rv,Ne,Dy] at *;unfold same;omega
def Nrm(p:List Tm): Prop:=(∀t∈p,t.c≠0)/\p.Pairwise (λs t=>ltT s t=true)
def norm(l:List Tm): List Tm:=((collect l).filter (λt=>decide (t.c≠0))).mergeSort (λs t => !ltT t s)
theorem Hi(φ:Nat->Nat->Rat): ∀l:List Tm,lin φ (l.filter (λt=>decide (t.c≠0)))=lin φ l
 | []=>rfl
 | t::l=>by
  rw[lf];split
  ·rw[lin,lin,Hi φ l]
  rename_i h;have a:t.c=0:=by simpa using h
  rw[lin,Hi φ l,a];grind
theorem Ax(l:List Tm): lin e (norm l)=lin e l:=by
 rw[norm,jb e (pq _ _),Hi,RH]
theorem MJ{l:List Tm}{u:Tm}(h:u∈norm l): u∈collect l/\u.c≠0:=by
 have:=(pq _ _).mem_iff.1 h;rw[vr] at this;exact⟨this.1,by simpa using this.2⟩
theorem CP(l:List Tm): Nrm (norm l):=by
 refine⟨λt ht=>(MJ ht).2,?_⟩;have hd:dif (norm l):=by
  have h1:dif ((collect l).filter (λt=>decide (t.c≠0))):=u0 _ (J8 l);refine(List.Perm.pairwise_iff (λ{x y} h d=>h ⟨d.1.symm,d.2.symm⟩)<|pq _ _).2 h1
 have hs:=ue (le:=λs t => !ltT t s) (λa b c h1 d=>by
   simp only[oV] at *
   exact LJ d h1) (λa b=>by
   rcases h:ltT b a with _|_
   ·simp
   have:ltT a b=false:=by rw[rv];intro d;have:=I6 h d;rw[LK] at this;cases this
   simp[this]) ((collect l).filter (λt=>decide (t.c≠0)))
 refine List.Pairwise.imp₂ (λs t h1 d=>?_) hs hd;rcases h:ltT s t with _|_
 ·exact absurd (I7 h (by simpa using h1)) d
 rfl
def at0(a b:Nat): Nat->Nat->Rat:=λi j=>if i=a/\j=b then 1 else 0
theorem BV{a b:Nat}: ∀ {l:List Tm},(∀t∈l,¬(t.i=a/\t.j=b))->lin (at0 a b) l=0
 | [],_=>rfl
 | t::l,h=>by
  rw[lin,BV (λs hs=>h s (aX _ hs)),at0,if_neg (h t ae)];grind
theorem TG{t:Tm}{p:List Tm}(h:Nrm (t::p)): Nrm p:=⟨λs hs=>h.1 s (aX _ hs),(List.pairwise_cons.1 h.2).2⟩
theorem CO{t:Tm}{p:List Tm}(h:Nrm (t::p)): lin (at0 t.i t.j) (t::p)=t.c:=by
 rw[lin,BV (λs hs=>?_),at0,if_pos ⟨rfl,rfl⟩]
 ·grind
 have:=(List.pairwise_cons.1 h.2).1 s hs;rw[Dy] at this;omega
theorem TI{s t:Tm}{q:List Tm}(h:ltT s t=true)(hq:Nrm (t::q)): lin (at0 s.i s.j) (t::q)=0:=by
 refine BV (λu hu=>?_);have a:ltT s u=true:=by
  rcases List.mem_cons.1 hu with rfl|hu
  ·exact h
  exact I6 h ((List.pairwise_cons.1 hq.2).1 u hu)
 rw[Dy] at a;omega
theorem Rt:∀ {p q:List Tm},Nrm p->Nrm q->(∀φ,lin φ p=lin φ q)->p=q
 | [],[],_,_,_=>rfl
 | [],t::q,_,hq,h=>by
  have h1:=h (at0 t.i t.j);rw[CO hq,MO] at h1;exact absurd h1.symm (hq.1 t ae)
 | s::p,[],b,_,h=>by
  have h1:=h (at0 s.i s.j);rw[CO b,MO] at h1;exact absurd h1 (b.1 s ae)
 | s::p,t::q,b,hq,h=>by
  have a:same s t:=by
   refine I7 ?_ ?_
   ·rw[rv];intro hc;have h1:=h (at0 s.i s.j);rw[CO b,TI hc hq] at h1;exact b.1 s ae h1
   rw[rv];intro hc;have h1:=h (at0 t.i t.j);rw[CO hq,TI hc b] at h1;exact hq.1 t ae h1.symm
  have hc:s.c=t.c:=by
   have h1:=h (at0 s.i s.j);rw[CO b,a.1,a.2,CO hq] at h1;exact h1
  have e:=Tm.ext' a.1 a.2 hc;subst e;rw[Rt (TG b) (TG hq) (λφ=>by have:=h φ;rw[lin,lin] at this;grind)]
theorem Vy{l m:List Tm}(h:∀φ,lin φ l=lin φ m): norm l=norm m :=
 Rt (CP l) (CP m) (λφ=>by rw[Ax,Ax,h])
theorem Ru{p:List Tm}(h:Nrm p): norm p=p:=Rt (CP p) h (λφ=>Ax φ p)
theorem OR(l:List Tm): norm (norm l)=norm l:=Ru (CP l)
theorem MA(x:Rat)(m:Nat): ∀n:Nat,x ^ (m+n)=x ^ m*x ^ n
 | 0=>by rw[sh,sz];grind
 | n+1=>by rw[<-gT,tx,tx,MA x m n];grind
theorem MB(x y:Rat): ∀n:Nat,(x*y) ^ n=x ^ n*y ^ n
 | 0=>by rw[sz,sz,sz];grind
 | n+1=>by rw[tx,tx,tx,MB x y n];grind
theorem Tt:∀n:Nat,(1:Rat) ^ n=1
 | 0=>sz _
 | n+1=>by rw[tx,Tt n];grind
def evP(l:List Tm)(x y:Rat): Rat:=lin (λi j=>x ^ i*y ^ j) l
def Vl(a b:List Tm): List Tm:=a.flatMap (λs=>b.map (λt=>⟨s.i+t.i,s.j+t.j,s.c*t.c⟩))
theorem MP(a b:List Tm): lin e (Vl a b)=lin (λi j=>lin (λp q=>e (i+p) (j+q)) b) a:=by
 unfold Vl;refine E0 e _ _ a (λs _=>?_);rw[JA e _ (λp q=>s.c*e (s.i+p) (s.j+q)) b (λt _=>by simp only;grind),Em]
theorem E7(a b:List Tm)(x y:Rat): evP (Vl a b) x y=evP a x y*evP b x y:=by
 unfold evP;rw[MP, <-TQ];refine AN (λs _=>?_);rw[<-Em];refine AN (λt _=>?_);rw[MA,MA];grind
def AU(p:List Tm): Nat->List Tm
 | 0=>[⟨0,0,1⟩]
 | n+1=>Vl (AU p n) p
theorem Si(p:List Tm)(x y:Rat): ∀n,evP (AU p n) x y=evP p x y ^ n
 | 0=>by rw[AU,evP,lin,lin,sz,sz,sz];grind
 | n+1=>by rw[AU,E7,Si p x y n,tx]
theorem dp(l m:List Tm)(x y:Rat): evP (l++m) x y=evP l x y+evP m x y:=An _ _ _
def Qc(c:Rat)(l:List Tm): List Tm:=l.map (λt=>⟨t.i,t.j,c*t.c⟩)
theorem Be(l:List Tm): lin e (Qc m l)=m*lin e l:=by
 unfold Qc;rw[<-Em];exact JA e _ _ l (λt _=>by simp only;grind)
theorem dm(l:List Tm)(x y:Rat): evP (Qc m l) x y=m*evP l x y:=Be _ _ _
def sbL(X Y:List Tm)(l:List Tm): List Tm:=l.flatMap (λt=>Qc t.c (Vl (AU X t.i) (AU Y t.j)))
theorem RG(X Y l:List Tm): lin e (sbL X Y l)=lin (λi j=>lin e (Vl (AU X i) (AU Y j))) l:=by
 unfold sbL;exact E0 e _ _ l (λt _=>by rw[Be])
theorem mT(X Y l:List Tm)(x y:Rat): evP (sbL X Y l) x y=evP l (evP X x y) (evP Y x y):=by
 unfold evP;rw[RG];refine AN (λt _=>?_);have:=E7 (AU X t.i) (AU Y t.j) x y;rw[Si,Si] at this;exact this
def dxL(l:List Tm): List Tm:=l.map (λt=>⟨t.i-1,t.j,t.c*((t.i:Int):Rat)⟩)
def dyL(l:List Tm): List Tm:=l.map (λt=>⟨t.i,t.j-1,t.c*((t.j:Int):Rat)⟩)
theorem aF(l:List Tm): lin e (dxL l)=lin (λi j=>((i:Int):Rat)*e (i-1) j) l :=
 JA e _ _ l (λt _=>by simp only;grind)
theorem aw(l:List Tm): lin e (dyL l)=lin (λi j=>((j:Int):Rat)*e i (j-1)) l :=
 JA e _ _ l (λt _=>by simp only;grind)
theorem Vq: (((N+o:Nat):Int):Rat)=((N:Int):Rat)+((o:Int):Rat):=by
 rw[Int.natCast_add,uJ]
theorem IE:(((1:Nat):Int):Rat)=1:=rfl
def Eqv(l m:List Tm): Prop := ∀φ,lin φ l=lin φ m
theorem Eqv.rfl'{l:List Tm}: Eqv l l:=λ_=>rfl
theorem Eqv.symm{l m:List Tm}(h:Eqv l m): Eqv m l:=λφ=>(h φ).symm
theorem Eqv.trans{l m k:List Tm}(h:Eqv l m)(a:Eqv m k): Eqv l k:=λφ=>(h φ).trans (a φ)
theorem Eqv.nrm(l:List Tm): Eqv (norm l) l:=λφ=>Ax φ l
theorem Eqv.mul{a b d c:List Tm}(h:Eqv a d)(e:Eqv b c): Eqv (Vl a b) (Vl d c):=λφ=>by
 rw[MP,MP,h];exact AN (λs _=>e _)
theorem Eqv.append{a b d c:List Tm}(h:Eqv a d)(e:Eqv b c): Eqv (a++b) (d++c):=λφ=>by rw[An,An,h,e]
theorem Eqv.scale{a b:List Tm}(c:Rat)(h:Eqv a b): Eqv (Qc c a) (Qc c b):=λφ=>by rw[Be,Be,h]
theorem Eqv.dx{a b:List Tm}(h:Eqv a b): Eqv (dxL a) (dxL b):=λφ=>by rw[aF,aF,h]
theorem Eqv.dy{a b:List Tm}(h:Eqv a b): Eqv (dyL a) (dyL b):=λφ=>by rw[aw,aw,h]
theorem Eqv.pow{a b:List Tm}(h:Eqv a b): ∀n,Eqv (AU a n) (AU b n)
 | 0=>Eqv.rfl'
 | n+1=>(Eqv.pow h n).mul h
theorem Eqv.sub{X Y l a b l':List Tm}(c:Eqv X a)(d:Eqv Y b)(h:Eqv l l'): Eqv (sbL X Y l) (sbL a b l'):=λφ=>by
 rw[RG,RG,h];exact AN (λs _=>((c.pow _).mul (d.pow _)) φ)
theorem Eqv.val{l m:List Tm}(h:Eqv l m)(x y:Rat): evP l x y=evP m x y:=h _
def pv(a:Nat->Rat)(x:Rat): Nat->Rat
 | 0=>0
 | n+1=>pv a x n+a n*x ^ n
theorem Tv(a:Nat->Rat)(x c d:Rat): ∀n,pv a (c*x) n-d*pv a x n=pv (λk=>a k*(c ^ k-d)) x n
 | 0=>by simp only[pv];grind
 | n+1=>by
  have h:=Tv a x c d n;have e:(c*x) ^ n=c ^ n*x ^ n:=MB c x n;simp only[pv,e];grind
theorem U3:∀k n:Nat,k<n->(2:Rat) ^ k-2 ^ n≠0:=by
 have a:∀k:Nat,(0:Rat)<2 ^ k:=λk=>by
  induction k with
  | zero=>rw[sz];decide
  | succ k b=>rw[tx];grind
 have key:∀k d:Nat,(2:Rat) ^ k<2 ^ (k+d+1):=λk d=>by
  induction d with
  | zero=>rw[tx];have:=a k;have e:(2:Rat) ^ (k+0)=2 ^ k:=rfl;grind
  | succ d b =>
   have c:=a (k+d+1);rw[show k+(d+1)+1=(k+d+1)+1 by omega,tx];grind
 intro k n h;have:=key k (n-k-1);rw[show k+(n-k-1)+1=n by omega] at this
 grind
theorem Rj:∀(n:Nat) (a:Nat->Rat),(∀x,pv a x n=0) -> ∀k,k<n->a k=0
 | 0,_,_,k,hk=>absurd hk (gS _)
 | n+1,a,h,k,hk=>by
  have d:∀x,pv (λk=>a k*(2 ^ k-2 ^ n)) x n=0:=λx=>by
   rw[<-Tv a x 2 (2 ^ n) n];have h1:=h (2*x);have b:=h x;rw[pv] at h1 b;have e:(2*x) ^ n=2 ^ n*x ^ n:=MB 2 x n;rw[e] at h1
   grind
  have low:∀k,k<n->a k=0:=λk hk=>by
   have h1:=Rj n _ d k hk;rcases Rat.mul_eq_zero.1 h1 with b|b
   ·exact b
   exact absurd b (U3 k n hk)
  rcases el k n with h1|h1
  ·exact low k h1
  have e:k=n:=oo;subst e;have z:∀m,m<=k->pv a 1 m=0:=λm=>by
   induction m with
   | zero=>intro _;rfl
   | succ m c=>intro hm;rw[pv,c oo,low m oo];grind
  have h1:=h 1;rw[pv,z k (aZ _)] at h1;have f:(1:Rat) ^ k=1:=Tt k;rw[f] at h1
  grind
theorem ZB(a b:Nat->Rat)(x:Rat): ∀n,pv (λk=>a k+b k) x n=pv a x n+pv b x n
 | 0=>by simp only[pv];grind
 | n+1=>by simp only[pv,ZB a b x n];grind
theorem IY{a:Nat->Rat}(x:Rat): ∀ {n},(∀k,k<n->a k=0)->pv a x n=0
 | 0,_=>rfl
 | n+1,h=>by rw[pv,h n (ia _),IY x (λk hk=>h k (Nat.lt_succ_of_lt hk))];grind
theorem ZA{a:Nat->Rat}(x:Rat)(m:Nat): ∀ {n},m<n->(∀k,k≠m->a k=0)->pv a x n=a m*x ^ m
 | 0,h,_=>absurd h (gS _)
 | n+1,h,b=>by
  rw[pv];rcases el m n with c|c
  ·rw[ZA x m c b,b n oo];grind
  have e:m=n:=oo;subst e;rw[IY x (λk hk=>b k oo)];grind
def XV:List Tm->Nat
 | []=>0
 | t::l=>max (max (t.i+1) (t.j+1)) (XV l)
theorem QU{t:Tm}: ∀ {l:List Tm},t∈l->t.i<XV l/\t.j<XV l
 | s::l,h=>by
  rw[XV];rcases List.mem_cons.1 h with rfl|h
  ·omega
  have:=QU h;omega
theorem ev_pv(x y:Rat)(n:Nat): ∀l:List Tm,(∀t∈l,t.i<n/\t.j<n)->evP l x y=pv (λi=>pv (λj=>lin (at0 i j) l) y n) x n
 | [],_=>by
  exact(IY x (λk _=>IY y (λm _=>rfl))).symm
 | t::l,h=>by
  have a:=ev_pv x y n l (λs hs=>h s (aX _ hs));have ht:=h t ae;have e:(λi=>pv (λj=>lin (at0 i j) (t::l)) y n)=(λi=>pv (λj=>t.c*at0 i j t.i t.j) y n+pv (λj=>lin (at0 i j) l) y n):=by
   funext i;rw[<-ZB];rfl
  rw[e,ZB, <-a];have b:pv (λi=>pv (λj=>t.c*at0 i j t.i t.j) y n) x n=t.c*(x ^ t.i*y ^ t.j):=by
   rw[ZA x t.i ht.1 (λk hk=>IY y (λm _=>by rw[at0,if_neg (λhc=>hk hc.1.symm)];grind)),
    ZA y t.j ht.2 (λm hm=>by rw[at0,if_neg (λhc=>hm hc.2.symm)];grind),at0,if_pos ⟨rfl,rfl⟩]
   grind
  rw[b];rfl
theorem dN{l:List Tm}(h:∀x y,evP l x y=0)(a b:Nat): lin (at0 a b) l=0:=by
 by_cases c:a<XV l/\b<XV l
 ·have h1:∀y i,i<XV l->pv (λj=>lin (at0 i j) l) y (XV l)=0:=λy =>
   Rj (XV l) _ (λx=>by rw[<-ev_pv x y (XV l) l (λt ht=>QU ht),h x y])
  exact Rj (XV l) _ (λy=>h1 y a c.1) b c.2
 exact BV (λt ht hc=>c (by have:=QU ht;rw[hc.1,hc.2] at this;exact this))
theorem jV{l:List Tm}(h:∀a b,lin (at0 a b) l=0): ∀φ,lin φ l=0:=by
 intro φ;rw[<-Ax];have c:=CP l;rcases hl:norm l with _|⟨t,p⟩
 ·rfl
 rw[hl] at c;have h1:=CO c;rw[<-hl,Ax,h] at h1;exact absurd h1.symm (c.1 t ae)
theorem Eqv.of_ev{l m:List Tm}(h:∀x y,evP l x y=evP m x y): Eqv l m:=by
 have h1:∀x y,evP (l++Qc (-1) m) x y=0:=λx y=>by rw[dp,dm,h];grind
 intro φ;have:=jV (dN h1) φ;rw[An,Be] at this
 grind
def ln(a b c:Rat): List Tm:=[⟨1,0,a⟩,⟨0,1,b⟩,⟨0,0,c⟩]
theorem ev_ln(y:Rat): evP (ln m r a1) a7 y=m*a7+r*y+a1:=by
 simp only[evP,ln,lin];rw[sz,sz,tx,tx,sz,sz];grind
def shL(p:List Tm)(ax bx cx ay by' cy:Rat): List Tm:=sbL (ln ax bx cx) (ln ay by' cy) p
theorem dl(p:List Tm)(c a d e b f x y:Rat): evP (shL p c a d e b f) x y=evP p (c*x+a*y+d) (e*x+b*y+f):=by
 rw[shL,mT,ev_ln,ev_ln]
def lam(i j:Nat): Rat:=((1:Int):Rat)/(((i+1:Nat):Int):Rat)
theorem Fe: (((N+1:Nat):Int):Rat)≠0:=λe=>by have:=Rat.intCast_eq_zero_iff.1 e;omega
theorem RQ: (((N+1:Nat):Int):Rat)*lam N o=1:=by
 have h:=Fe N;have a:((1:Int):Rat)=1:=rfl;unfold lam;rw[a];grind
def bt:Nat->Nat->Rat
 | 0,j=>lam j 0
 | i+1,j=>bt i j-bt i (j+1)
theorem Sx:∀i j:Nat,(((i+j+2:Nat):Int):Rat)*bt (i+1) j=(((i+1:Nat):Int):Rat)*bt i j/\(((i+j+2:Nat):Int):Rat)*bt i (j+1)=(((j+1:Nat):Int):Rat)*bt i j
 | 0,j=>by
  have h1:=RQ j 0;have c:=RQ (j+1) 0;have n1:=Fe j;have l:=Fe (j+1);have e:(((0+j+2:Nat):Int):Rat)=(((j+1:Nat):Int):Rat)+1:=by rw[show 0+j+2=(j+1)+1 by omega,Vq,IE]
  have m:(((j+1+1:Nat):Int):Rat)=(((j+1:Nat):Int):Rat)+1:=by rw[Vq,IE]
  rw[m] at c l;simp only[bt];rw[e,IE];constructor
  ·have:(((j+1:Nat):Int):Rat)*((((j+1:Nat):Int):Rat)+1)*(lam j 0-lam (j+1) 0)=1:=by grind
   grind
  grind
 | i+1,j=>by
  obtain ⟨b,a2⟩:=Sx i j;obtain ⟨a,f⟩:=Sx i (j+1);have h1:bt (i+1+1) j=bt (i+1) j-bt (i+1) (j+1):=rfl;have c:bt (i+1) j=bt i j-bt i (j+1):=rfl;have o:bt (i+1) (j+1)=bt i (j+1)-bt i (j+1+1):=rfl;have c1:(((i+1+j+2:Nat):Int):Rat)=((i:Int):Rat)+((j:Int):Rat)+3:=by
   rw[show i+1+j+2=i+j+3 by omega,Vq,Vq];rfl
  have c2:(((i+j+2:Nat):Int):Rat)=((i:Int):Rat)+((j:Int):Rat)+2:=by rw[Vq,Vq];rfl
  have g:(((i+(j+1)+2:Nat):Int):Rat)=((i:Int):Rat)+((j:Int):Rat)+3:=by
   rw[show i+(j+1)+2=i+j+3 by omega,Vq,Vq];rfl
  have n:(((i+1:Nat):Int):Rat)=((i:Int):Rat)+1:=by rw[Vq];rfl
  have d:(((j+1:Nat):Int):Rat)=((j:Int):Rat)+1:=by rw[Vq];rfl
  have k:(((i+1+1:Nat):Int):Rat)=((i:Int):Rat)+2:=by rw[show i+1+1=i+2 by omega,Vq];rfl
  have h:(((j+1+1:Nat):Int):Rat)=((j:Int):Rat)+2:=by rw[show j+1+1=j+2 by omega,Vq];rfl
  rw[c2] at b a2;rw[g] at a f;rw[n] at b a;rw[d] at a2;rw[h] at f;rw[c1,d,k,h1];constructor<;>grind
def mu(i j:Nat): Rat:=bt (i+1) j/(((i+1:Nat):Int):Rat)
theorem mu_bt: (((N+1:Nat):Int):Rat)*mu N o=bt (N+1) o:=by
 have h:=Fe N;unfold mu;grind
def W1:List Tm:=[⟨0,0,1⟩,⟨1,0, -1⟩]
def X1:List Tm:=[⟨1,0,1⟩]
abbrev Pt:=Rat×Rat
def twQ(a b c:Pt): Rat:=(b.1-a.1)*(c.2-a.2)-(c.1-a.1)*(b.2-a.2)
def YK(p:List Tm)(a b:Pt): Rat:=lin lam (shL p (b.1-a.1) 0 a.1 (b.2-a.2) 0 a.2)
def XU(p:List Tm)(a b c:Pt): Rat:=twQ a b c*lin mu (shL p (b.1-a.1) (c.1-a.1) a.1 (b.2-a.2) (c.2-a.2) a.2)
def flowQ(g h:List Tm)(a b:Pt): Rat:=(b.2-a.2)*YK g a b-(b.1-a.1)*YK h a b
def prL(p:List Tm): List Tm:=p.map (λt=>⟨t.i+1,t.j,t.c/(((t.i+1:Nat):Int):Rat)⟩)
def fanQ(p:List Tm)(a:Pt): List Pt->Rat
 | b::c::l=>XU p a b c+fanQ p a (c::l)
 | _=>0
def pathQ(f:Pt->Pt->Rat): List Pt->Rat
 | a::b::l=>f a b+pathQ f (b::l)
 | _=>0
def cycQ(f:Pt->Pt->Rat): List Pt->Rat
 | []=>0
 | a::l=>pathQ f (a::l++[a])
def polyQ(p:List Tm): List Pt->Rat
 | []=>0
 | a::l=>fanQ p a l
def KL(K:Nat)(l:List Tm): Prop := ∀t∈l,Zr t.c<=K
def DL(d:Nat)(l:List Tm): Prop := ∀t∈l,t.i+t.j<=d
theorem KL.mono{K':Nat}{l:List Tm}(h:KL D l)(hk:D<=K'): KL K' l:=λt ht=>bp (h t ht) hk
theorem DL.mono{d':Nat}{l:List Tm}(h:DL D l)(hk:D<=d'): DL d' l:=λt ht=>bp (h t ht) hk
def cntP(i j:Nat): List Tm->Nat
 | []=>0
 | t::l=>(if t.i=i/\t.j=j then 1 else 0)+cntP i j l
theorem dV(i j:Nat): ∀l:List Tm,cntP i j l<=l.length
 | []=>aZ _
 | t::l=>by have:=dV i j l;rw[cntP,dc];split<;>omega
theorem Pb{K:Nat}{f:Nat->Nat->Nat}{t:Tm}(ht:Zr t.c<=K): ∀ {p:List Tm},(∀u∈p,Zr u.c<=f u.i u.j) -> ∀u∈Di t p,Zr u.c<=f u.i u.j+(if t.i=u.i/\t.j=u.j then K+1 else 0)
 | [],_,u,hu=>by
  rw[Di,da] at hu;subst hu;have e:0+t.c=t.c:=by grind
  simp only[and_self,if_true,e];omega
 | s::p,h,u,hu=>by
  have a:=h s ae;rw[Di] at hu;split at hu
  ·rename_i hs;rcases List.mem_cons.1 hu with rfl|hu
   ·have:=Xo s.c t.c;rw[if_pos ⟨hs.1.symm,hs.2.symm⟩];simp only;omega
   have:=h u (aX _ hu);omega
  rcases List.mem_cons.1 hu with rfl|hu
  ·omega
  exact Pb ht (λv hv=>h v (aX _ hv)) u hu
theorem Db{K:Nat}: ∀(l:List Tm) {p:List Tm} {f:Nat->Nat->Nat},KL K l->(∀u∈p,Zr u.c<=f u.i u.j) ->
  ∀u∈l.foldl (λp t=>Di t p) p,Zr u.c<=f u.i u.j+cntP u.i u.j l*(K+1)
 | [],p,f,_,h,u,hu=>by have:=h u hu;omega
 | t::l,p,f,hl,h,u,hu=>by
  rw[s6] at hu;have a:=Db l (f:=λi j=>f i j+(if t.i=i/\t.j=j then K+1 else 0)) (λs hs=>hl s (aX _ hs)) (Pb (hl t ae) h) u hu;rw[cntP,dk];split at a
  ·rename_i hc;rw[if_pos hc];omega
  rename_i hc;rw[if_neg hc];omega
theorem PD{l:List Tm}(h:KL D l): ∀u∈collect l,Zr u.c<=cntP u.i u.j l*(D+1):=λu hu=>by
 have:=Db l (f:=λ_ _=>0) (p:=[]) h (λ_ hv=>nomatch hv) u hu;omega
theorem rO{a b:List Tm}(ha:KL D a)(f:KL A b): KL (D+A) (Vl a b):=λu hu=>by
 unfold Vl at hu;obtain ⟨s,hs,hu⟩:=List.mem_flatMap.1 hu;obtain ⟨t,ht,rfl⟩:=List.mem_map.1 hu;have:=Qh s.c t.c;have:=ha s hs;have:=f t ht;simp only;omega
theorem TL(a b:List Tm): (Vl a b).length=a.length*b.length:=by
 unfold Vl;induction a with
 | nil=>simp
 | cons s a c=>rw[ub,bd,c,az,dc,dk];omega
theorem Jv{l:List Tm}(h:DL D l): DL D (norm l):=λu hu=>by
 obtain ⟨t,ht,h1,a⟩:=J6 (MJ hu).1;rw[h1,a];exact h t ht
theorem KU{a b:List Tm}(ha:DL D a)(c:DL D b): DL D (a++b):=λt ht=>(List.mem_append.1 ht).elim (ha t) (c t)
theorem eM{a b:List Tm}(ha:DL D a)(e:DL A b): DL (D+A) (Vl a b):=λu hu=>by
 unfold Vl at hu;obtain ⟨s,hs,hu⟩:=List.mem_flatMap.1 hu;obtain ⟨t,ht,rfl⟩:=List.mem_map.1 hu;have:=ha s hs;have:=e t ht;simp only;omega
theorem P6{a:List Tm}(h:DL D a): DL D (Qc m a):=λu hu=>by
 unfold Qc at hu;obtain ⟨t,ht,rfl⟩:=List.mem_map.1 hu;exact h t ht
theorem DL_dxL{a:List Tm}(h:DL D a): DL D (dxL a):=λu hu=>by
 unfold dxL at hu;obtain ⟨t,ht,rfl⟩:=List.mem_map.1 hu;have:=h t ht;simp only;omega
theorem DL_dyL{a:List Tm}(h:DL D a): DL D (dyL a):=λu hu=>by
 unfold dyL at hu;obtain ⟨t,ht,rfl⟩:=List.mem_map.1 hu;have:=h t ht;simp only;omega
def tri:Nat->Nat
 | 0=>0
 | n+1=>tri n+n+1
theorem BL(h:D<=A): tri D<=tri A:=by
 induction h with
 | refl=>exact aZ _
 | step _ a=>rw[tri];omega
def keyT(t:Tm): Nat:=tri (t.i+t.j)+t.j
theorem key_lt{s t:Tm}(h:ltT s t=true): keyT s<keyT t:=by
 rw[Dy] at h;unfold keyT;rcases h with h|⟨h1,a⟩
 ·have:=BL (show s.i+s.j+1<=t.i+t.j from h);rw[tri] at this;omega
 rw[h1];omega
theorem O7:∀(l:List Nat) (m n:Nat),l.Pairwise (· < ·)->(∀x∈l,m<=x/\x<n)->l.length<=n-m
 | [],_,_,_,_=>cX _
 | x::l,m,n,h,b=>by
  obtain ⟨h1,c⟩:=List.pairwise_cons.1 h;have d:=b x ae;have:=O7 l (x+1) n c (λy a=>⟨h1 y a,(b y (aX _ a)).2⟩);rw[dc];omega
theorem ZY{p:List Tm}(h:Nrm p)(hd:DL D p): p.length<=tri (D+1):=by
 have:=O7 (p.map keyT) 0 (tri (D+1)) (List.pairwise_map.2 (h.2.imp (λ{s t} hs=>key_lt hs))) (λx hx=>by
  obtain ⟨t,ht,rfl⟩:=List.mem_map.1 hx;have h1:=hd t ht;have:=BL h1;refine⟨cX _,?_⟩;unfold keyT;rw[tri];omega)
 rw[az] at this;exact this
def ab(x:Rat): Rat:=if x<0 then -x else x
theorem BC: 0<=ab m:=by unfold ab;split<;>grind
theorem nt: ab (m+r)<=ab m+ab r:=by unfold ab;split<;>split<;>split<;>grind
theorem Gq(h:0<=g): ab g=g:=by unfold ab;rw[if_neg (by grind)]
theorem rL:ab 0=0:=Gq (by grind)
theorem Md: ab (-m)=ab m:=by unfold ab;split<;>split<;>grind
theorem P2: ab (m*r)=ab m*ab r:=by
 have key:∀m r:Rat,0<=m->0<=r->ab (m*r)=ab m*ab r:=λm r hx a=>by
  rw[Gq hx,Gq a,Gq (s9 hx a)]
 by_cases hx:0<=m<;>by_cases a:0<=r
 ·exact key m r hx a
 ·rw[show m*r = -(m * -r) by grind,Md,key m (-r) hx (by grind),Md]
 ·rw[show m*r = -(-m*r) by grind,Md,key (-m) r (by grind) a,Md]
 rw[show m*r = -m * -r by grind,key (-m) (-r) (by grind) (by grind),Md,Md]
theorem Kn: (((N*o:Nat):Int):Rat)=((N:Int):Rat)*((o:Int):Rat):=by rw[tD,tP]
theorem Jp: (0:Rat)<=((N:Int):Rat):=by
 have h:=(Rat.intCast_le_intCast (a:=0) (b:=(N:Int))).2 oo;exact h
theorem Sw(h:D<=A): ((D:Int):Rat)<=((A:Int):Rat):=Rat.intCast_le_intCast.2 oo
theorem LP(h:((D:Int):Rat)<=((A:Int):Rat)): D<=A:=by have:=Rat.intCast_le_intCast.1 h;omega
theorem Yj(h:g<=B)(hc:0<=C): g*C<=B*C:=by
 have:=s9 (show 0<=B-g by grind) hc
 grind
theorem Bq(h:g<=B)(e:C<=a6)(ha:0<=C)(f:0<=B): g*C<=B*a6:=by
 have i:=Yj h ha;have m:=Yj e f
 grind
def sab:List Tm->Rat
 | []=>0
 | t::l=>ab t.c+sab l
theorem Bb:∀l:List Tm,0<=sab l
 | []=>by rw[sab];grind
 | t::l=>by have:=Bb l;have:=BC t.c;rw[sab];grind
theorem G5:∀l m:List Tm,sab (l++m)=sab l+sab m
 | [],m=>by simp only[ec,sab];grind
 | t::l,m=>by rw[gH,sab,sab,G5 l m];grind
theorem gY{l m:List Tm}(h:l.Perm m): sab l=sab m:=by
 induction h with
 | nil=>rfl
 | cons x _ a=>rw[sab,sab,a]
 | swap x y l=>simp only[sab];grind
 | trans _ _ h1 b=>rw[h1,b]
theorem ov{l:List Tm}{t:Tm}(h:t∈l): ab t.c<=sab l:=by
 induction l with
 | nil=>cases h
 | cons s l a =>
  rw[sab];rcases List.mem_cons.1 h with rfl|h
  ·have:=Bb l;grind
  have:=a h;have:=BC s.c;grind
theorem Ln(f:Tm->Bool): ∀l:List Tm,sab (l.filter f)<=sab l
 | []=>by rw[List.filter_nil];grind
 | t::l=>by
  have:=Ln f l;have:=BC t.c;rw[lf];split
  ·rw[sab,sab];grind
  rw[sab];grind
theorem Te(t:Tm): ∀p:List Tm,sab (Di t p)<=sab p+ab t.c
 | []=>by
  have e:0+t.c=t.c:=by grind
  simp only[Di,sab,e];grind
 | s::p=>by
  rw[Di];split
  ·have:=nt s.c t.c;simp only[sab];grind
  have:=Te t p;simp only[sab];grind
theorem Dq:∀(l p:List Tm),sab (l.foldl (λp t=>Di t p) p)<=sab p+sab l
 | [],p=>by simp only[uf,sab];grind
 | t::l,p=>by
  have h1:=Dq l (Di t p);have a:=Te t p;rw[s6];simp only[sab];grind
theorem gZ(l:List Tm): sab (norm l)<=sab l:=by
 rw[norm,gY (pq _ _)];have h1:=Ln (λt=>decide (t.c≠0)) (collect l);have a:=Dq l [];have b:collect l=l.foldl (λp t=>Di t p) []:=rfl;rw[<-b] at a;simp only[sab] at a
 grind
theorem Ot(c:Rat): ∀l:List Tm,sab (Qc c l)=ab c*sab l
 | []=>by simp only[Qc,la,sab];grind
 | t::l=>by
  have:=Ot c l;have:=P2 c t.c;simp only[Qc,eb,sab] at *
  grind
theorem IS(s:Tm): ∀b:List Tm,sab (b.map (λt=>(⟨s.i+t.i,s.j+t.j,s.c*t.c⟩:Tm)))=ab s.c*sab b
 | []=>by simp only[la,sab];grind
 | t::b=>by
  have:=IS s b;have:=P2 s.c t.c;simp only[eb,sab] at *
  grind
theorem YO(b:List Tm): ∀a:List Tm,sab (Vl a b)=sab a*sab b
 | []=>by show sab []=_;simp only[sab];grind
 | s::a=>by
  have c:=YO b a;have h:=IS s b;unfold Vl at *
  rw[ub,G5,c,h,sab];grind
def ID(D:Nat)(x:Rat): Prop := ∃z:Int,x*((D:Int):Rat)=(z:Rat)
theorem ID.mul(h:ID D g)(a:ID A B): ID (D*A) (g*B):=by
 obtain ⟨z,hz⟩:=h;obtain ⟨w,hw⟩:=a;exact⟨z*w,by rw[Kn,tP, <-hz, <-hw];grind⟩
theorem ID.add{x:Rat}(h:ID D x)(a:ID D B): ID D (x+B):=by
 obtain ⟨z,hz⟩:=h;obtain ⟨w,hw⟩:=a;exact⟨z+w,by rw[uJ, <-hz, <-hw];grind⟩
theorem ID.int: ID 1 (V:Rat):=⟨V,by rw[IE];grind⟩
theorem ID.zero: ID N 0:=⟨0,by show 0*_=(0:Rat);grind⟩
theorem ID.right(h:ID D g)(E:Nat): ID (D*E) g:=by
 have:=h.mul (ID.int (E:Int));obtain ⟨z,hz⟩:=h;exact⟨z*E,by rw[Kn,tP, <-hz];grind⟩
theorem ID.left(h:ID D g)(E:Nat): ID (E*D) g:=by rw[kI];exact h.right E
theorem Rx: m*((m.den:Int):Rat)=(m.num:Rat):=by
 rw[vL,Rat.num_intCast,Rat.den_intCast,vw];have:=wV (n:=m.num) (d:=1) (a:=m.den) m.den_nz;rw[tt] at this;rw[this,wo]
theorem ID.self: ID m.den m:=⟨m.num,Rx m⟩
theorem ab_int: ab (V:Rat)=((V.natAbs:Int):Rat):=by
 unfold ab;split
 ·rename_i h;have a:V<0:=Rat.intCast_lt_intCast.1 (show(V:Rat)<((0:Int):Rat) from h);rw[show((V.natAbs:Nat):Int) = -V by omega,Rat.intCast_neg]
 rename_i h;have a:¬V<0:=λb=>h (Rat.intCast_lt_intCast.2 b:(V:Rat)<((0:Int):Rat));rw[show((V.natAbs:Nat):Int)=V by omega]
theorem UM: ab m*((m.den:Int):Rat)=((m.num.natAbs:Int):Rat):=by
 rw[<-ab_int, <-Rx,P2,Gq (Jp m.den)]
theorem ID.den(h:ID D g): g.den∣D:=by
 obtain ⟨z,hz⟩:=h;have h1:((g.num*(D:Int):Int):Rat)=((z*(g.den:Int):Int):Rat):=by
  rw[tP,tP, <-hz, <-Rx];grind
 have a:=Rat.intCast_inj.1 h1;have b:g.num.natAbs*D=z.natAbs*g.den:=by
  have:=congrArg Int.natAbs a;rwa[wk,wk,u9,u9] at this
 exact(Nat.Coprime.dvd_of_dvd_mul_left g.reduced.symm (b ▸ Nat.dvd_mul_left g.den z.natAbs))
def Hb(K:Nat)(l:List Tm): Prop := ∃D N:Nat,0<D/\D<4294967296 ^ K/\N<4294967296 ^ K/\(∀t∈l,ID D t.c)/\sab l*((D:Int):Rat)<=((N:Int):Rat)
theorem Ej(h:D<=A): 4294967296 ^ D<=4294967296 ^ A:=js dd h
theorem Hb.mono{K':Nat}{l:List Tm}(h:Hb D l)(hk:D<=K'): Hb K' l:=by
 obtain ⟨e,N,a,h1,b,d,c⟩:=h;exact⟨e,N,a,gN h1 (Ej hk),gN b (Ej hk),d,c⟩
theorem Hb.siz{l:List Tm}(h:Hb D l): KL D l:=λt ht=>by
 obtain ⟨m,N,b,h1,g,d,i⟩:=h;have hd:=(d t ht).den;have hle:=Nat.le_of_dvd b hd;have e:((t.c.num.natAbs:Int):Rat)<=((N:Int):Rat):=by
  rw[<-UM];have f:=Bq (ov ht) (Sw hle) (Jp _) (Bb l)
  grind
 have a:=LP e;unfold Zr AW;have:=A9 (n:=t.c.num.natAbs) (k:=D) oo;have:=A9 (n:=t.c.den) (k:=D) oo;omega
theorem Hb.nrm{l:List Tm}(h:Hb D l): Hb D (norm l):=by
 obtain ⟨m,N,e,h1,d,f,g⟩:=h;refine⟨m,N,e,h1,d,λu hu=>?_,?_⟩
 ·have key:∀(l p:List Tm),(∀t∈l,ID m t.c)->(∀t∈p,ID m t.c) -> ∀u∈l.foldl (λp t=>Di t p) p,ID m u.c:=by
   intro l;induction l with
   | nil=>intro p _ a u hu;exact a u hu
   | cons t l b =>
    intro p hl a u hu;rw[s6] at hu;refine b (Di t p) (λs hs=>hl s<|aX _ hs) (λv hv=>?_) u hu;have ht:=hl t ae;clear b hu hl;induction p with
    | nil=>rw[Di,da] at hv;subst hv;exact(ID.zero m).add ht
    | cons s p b =>
     rw[Di] at hv;split at hv
     ·rcases List.mem_cons.1 hv with rfl|hv
      ·exact(a s ae).add ht
      exact a v (aX _ hv)
     rcases List.mem_cons.1 hv with rfl|hv
     ·exact a _ ae
     exact b (λw hw=>a w (aX _ hw)) hv
  exact key l [] f (λ_ h=>nomatch h) u (MJ hu).1
 have:=Yj (gZ l) (Jp m)
 grind
theorem FN(h:(wds D).length<=A): D<4294967296 ^ A:=gN (Cf D) (Ej h)
theorem bi(h:Zr g<=D): g.num.natAbs<4294967296 ^ D/\g.den<4294967296 ^ D:=by
 obtain ⟨h1,a⟩:=DI h;exact⟨FN h1,FN a⟩
theorem ZF(h1:D<4294967296 ^ h2)(e:A<4294967296 ^ h3)(g:z<4294967296 ^ h2)(f:W<4294967296 ^ h3): D*A+z*W<4294967296 ^ (h2+h3+1):=by
 have h:=kv h1 e;have i:=kv g f;rw[iX,tq];generalize 4294967296 ^ h2*4294967296 ^ h3=P at *
 omega
theorem Hb.nil:Hb 1 []:=⟨1,0,oo,by omega,oo,(λ_ h=>nomatch h),by show(0:Rat)*_<=(0:Rat);grind⟩
theorem Hb.append{a b:List Tm}(ha:Hb D a)(j:Hb A b): Hb (D+A+1) (a++b):=by
 obtain ⟨m,N,g,h1,e,i,f⟩:=ha;obtain ⟨E,M,k0,k1,k2,k3,k4⟩:=j;refine⟨m*E,N*E+m*M,uZ g k0,gN (by rw[tq];exact kv h1 k1) (Ej<|vc (D+A)),ZF e k1 h1 k2,λt ht=>?_,?_⟩
 ·rcases List.mem_append.1 ht with h|h
  ·exact(i t h).right E
  exact(k3 t h).left m
 rw[G5,Kn,Vq,Kn,Kn];have k:=Yj f (Jp E);have l:=Yj k4 (Jp m)
 grind
theorem Hb.cons{K k:Nat}{l:List Tm}{t:Tm}(h:Hb K l)(ht:Zr t.c<=k): Hb (K+k+1) (t::l):=by
 obtain ⟨D,N,i,h1,f,j,g⟩:=h;obtain ⟨e,a⟩:=bi ht;have b:=t.c.den_pos;refine⟨D*t.c.den,D*t.c.num.natAbs+N*t.c.den,uZ i b,gN (by rw[tq];exact kv h1 a) (Ej<|vc (K+k)),ZF h1 e f a,λs hs=>?_,?_⟩
 ·rcases List.mem_cons.1 hs with rfl|hs
  ·exact(ID.self _).left D
  exact(j s hs).right _
 rw[sab,Kn,Vq,Kn,Kn];have d:=UM t.c;have m:=Yj g (Jp t.c.den);rw[<-d]
 grind
theorem Hb.of_KL{k:Nat}{l:List Tm}(h:KL k l): Hb (l.length*(k+1)+1) l:=by
 induction l with
 | nil=>exact Hb.nil.mono oo
 | cons t l a =>
  have b:=(a (λs hs=>h s (aX _ hs))).cons (h t ae);have e:(t::l).length*(k+1)+1=l.length*(k+1)+1+k+1:=by rw[dc,dk];omega
  rw[e];exact b
theorem Hb.scale{k:Nat}{l:List Tm}{c:Rat}(h:Hb D l)(hc:Zr c<=k): Hb (k+D) (Qc c l):=by
 obtain ⟨m,N,f,h1,b,g,d⟩:=h;obtain ⟨a,e⟩:=bi hc;refine⟨c.den*m,c.num.natAbs*N,uZ c.den_pos f,by rw[tq];exact kv e h1,by rw[tq];exact kv a b,λu hu=>?_,?_⟩
 ·unfold Qc at hu;obtain ⟨t,ht,rfl⟩:=List.mem_map.1 hu;exact(ID.self c).mul (g t ht)
 rw[Ot,Kn,Kn, <-UM];have i:=Yj d (s9 (BC c) (Jp c.den))
 grind
theorem Hb.mul{a b:List Tm}(ha:Hb D a)(i:Hb A b): Hb (D+A) (Vl a b):=by
 obtain ⟨m,N,g,h1,e,h,f⟩:=ha;obtain ⟨E,M,k0,k1,k2,k3,k4⟩:=i;refine⟨m*E,N*M,uZ g k0,by rw[tq];exact kv h1 k1,by rw[tq];exact kv e k2,λu hu=>?_,?_⟩
 ·unfold Vl at hu;obtain ⟨s,hs,hu⟩:=List.mem_flatMap.1 hu;obtain ⟨t,ht,rfl⟩:=List.mem_map.1 hu;exact(h s hs).mul (k3 t ht)
 rw[YO,Kn,Kn];have j:=Bq f k4 (s9 (Bb b) (Jp E)) (Jp N)
 grind
theorem Td(f:Tm->Tm)(m:Nat): ∀l:List Tm,(∀t∈l,ab (f t).c<=ab t.c*((m:Int):Rat))->sab (l.map f)<=sab l*((m:Int):Rat)
 | [],_=>by simp only[la,sab];grind
 | t::l,h=>by
  have h1:=h t ae;have a:=Td f m l (λs hs=>h s (aX _ hs));simp only[eb,sab];grind
theorem Hb.mapi{l:List Tm}(h:Hb D l)(f:Tm->Tm)(n:Tm->Nat)(hf:∀t∈l,(f t).c=t.c*((n t:Int):Rat))(i:∀t∈l,n t<=1000): Hb (D+1) (l.map f):=by
 obtain ⟨m,N,e,h1,b,g,d⟩:=h;refine⟨m,N*1000,e,gN h1 (Ej<|vc D),by rw[iX];exact kv b dd,λu hu=>?_,?_⟩
 ·obtain ⟨t,ht,rfl⟩:=List.mem_map.1 hu;rw[hf t ht];obtain ⟨z,hz⟩:=g t ht;exact⟨z*(n t:Int),by rw[tP, <-hz];grind⟩
 have a:=Td f 1000 l (λt ht=>by
  rw[hf t ht,P2,Gq (Jp _)];have:=Yj (Sw (i t ht)) (BC t.c)
  grind)
 have k:=Yj a (Jp m);have j:=Yj d (Jp 1000);rw[Kn]
 grind
structure Pq(d K:Nat)(l:List Tm): Prop where
 deg:DL d l
 len:l.length<=100
 hgt:Hb K l
theorem Pq.siz{l:List Tm}(h:Pq D A l): KL A l:=h.hgt.siz
theorem Pq.nsz{l:List Tm}(h:Pq D A l): KL A (norm l):=h.hgt.nrm.siz
theorem Pq.nlen{l:List Tm}(h:Pq D A l): (norm l).length<=tri (D+1):=ZY (CP l) (Jv h.deg)
theorem Pq.of_norm{l:List Tm}(hd:DL D l)(hk:Hb A l)(a:D<=12): Pq D A (norm l) :=
 ⟨Jv hd,bp (ZY (CP l) (Jv hd)) (bp (BL (show D+1<=13 by omega)) dd),hk.nrm⟩
theorem Pq.nrm{l:List Tm}(h:Pq D A l)(a:D<=12): Pq D A (norm l):=Pq.of_norm h.deg h.hgt a
theorem Pq.mono{d' K':Nat}{l:List Tm}(h:Pq D A l)(hd:D<=d')(hk:A<=K'): Pq d' K' l:=⟨h.deg.mono hd,h.len,h.hgt.mono hk⟩
theorem Pq.raw{d k m:Nat}{l:List Tm}(hd:DL d l)(hk:KL k l)(hm:l.length<=m)(a:m<=100): Pq d (m*(k+1)+1) l :=
 ⟨hd,bp hm a,(Hb.of_KL hk).mono (by have:=cc (k+1) hm;omega)⟩
theorem Pq.add{a b:List Tm}(ha:Pq D z a)(f:Pq A W b)(h1:D<=12)(h:A<=12): Pq (max D A) (z+W+2) (norm (a++b)) :=
 Pq.of_norm (KU (ha.deg.mono (wc _ _)) (f.deg.mono (vU _ _))) ((ha.hgt.append f.hgt).mono oo) oo
theorem Pq.mul{a b:List Tm}(ha:Pq D z a)(f:Pq A W b)(h1:D+A<=12): Pq (D+A) (z+W) (norm (Vl a b)) :=
 Pq.of_norm (eM ha.deg f.deg) (ha.hgt.mul f.hgt) h1
theorem Pq.scale{a:List Tm}{c:Rat}(ha:Pq D A a)(hc:Zr c<=z)(h1:D<=12): Pq D (z+A+1) (norm (Qc c a)) :=
 Pq.of_norm (P6 c ha.deg) ((ha.hgt.scale hc).mono oo) h1
theorem Pq.dx{p:List Tm}(h:Pq D A p)(hd:D<=12): Pq D (A+1) (norm (dxL p)) :=
 Pq.of_norm (DL_dxL h.deg) (h.hgt.mapi _ (λt=>t.i) (λt _=>rfl) (λt ht=>by have:=h.deg t ht;omega)) hd
theorem Pq.dy{p:List Tm}(h:Pq D A p)(hd:D<=12): Pq D (A+1) (norm (dyL p)) :=
 Pq.of_norm (DL_dyL h.deg) (h.hgt.mapi _ (λt=>t.j) (λt _=>rfl) (λt ht=>by have:=h.deg t ht;omega)) hd
theorem iP:norm [⟨0,0,1⟩]=[⟨0,0,1⟩]:=Ru ⟨λt ht=>by rw[da] at ht;subst ht;simp only;grind,wC _ _⟩
theorem MI:norm []=[]:=Ru ⟨(λ_ h=>nomatch h),List.Pairwise.nil⟩
theorem Pq.nil(d:Nat): Pq d 1 []:=⟨(λ_ h=>nomatch h),cX _,Hb.nil⟩
theorem Pq.one:Pq 0 4 [⟨0,0,1⟩] :=
 ⟨λt ht=>by rw[da] at ht;subst ht;exact aZ _,by simp,(Hb.of_KL (k:=2) (λt ht=>by rw[da] at ht;subst ht;exact Ix)).mono ss⟩
theorem Pq.pow{d K:Nat}{a:List Tm}(ha:Pq d K a): ∀n,n*d<=12->Pq (n*d) (n*K+4) (norm (AU a n))
 | 0,_=>by rw[AU,iP,tH,tH];exact Pq.one
 | n+1,h=>by
  rw[dk,tt] at h;have b:=Pq.pow ha n oo;have:=Pq.mul b ha oo;rw[Vy ((Eqv.nrm (AU a n)).mul Eqv.rfl')] at this;rw[dk,tt,dk,tt];exact this.mono (aZ _) oo
theorem Pq.line(ha:Zr g<=D)(d:Zr B<=D)(hc:Zr C<=D): Pq 1 (3*D+4) (ln g B C):=by
 have h:KL D (ln g B C):=λt ht=>by
  simp only[ln,cZ,cf,or_false] at ht;rcases ht with rfl|rfl|rfl<;>assumption
 refine⟨λt ht=>?_,by simp[ln],(Hb.of_KL h).mono (by simp[ln];omega)⟩;simp only[ln,cZ,cf,or_false] at ht;rcases ht with rfl|rfl|rfl<;>simp
def KT(d K Kx:Nat): Nat:=K+d*(3*Kx+4)+20
def KS(d K Kx:Nat): Nat:=tri (d+1)*KT d K Kx+1
theorem Pq.line_pow{n:Nat}(ha:Zr g<=D)(d:Zr B<=D)(hc:Zr C<=D)(e:n<=12): Pq n (n*(3*D+4)+4) (norm (AU (ln g B C) n)):=by
 have h:=Pq.pow (Pq.line ha d hc) n oo;rwa[vw] at h
def sbT(X Y:List Tm)(t:Tm): List Tm:=Qc t.c (Vl (AU X t.i) (AU Y t.j))
theorem Tc(X Y l:List Tm)(t:Tm): sbL X Y (l++[t])=sbL X Y l++sbT X Y t:=by
 unfold sbL sbT;rw[w4];simp
theorem Pq.sbT{t:Tm}(h1:Zr g<=z)(r:Zr B<=z)(x:Zr C<=z)(s:Zr a6<=z)(w:Zr a8<=z)(q:Zr b0<=z)(hd:D<=12)(ht:t.i+t.j<=D)(v:Zr t.c<=A): Pq D (KT D A z-2) (norm (sbT (ln g B C) (ln a6 a8 b0) t)):=by
 have p:=Pq.line_pow (n:=t.i) h1 r x (show t.i<=12 by omega);have u:=Pq.line_pow (n:=t.j) s w q (show t.j<=12 by omega);have m:=Pq.mul p u (show t.i+t.j<=12 by omega);have o:=Pq.scale m v (show t.i+t.j<=12 by omega);have e:norm (Go.Proofs.YtdadideknhmbbaaGreatDoor.sbT (ln g B C) (ln a6 a8 b0) t)=norm (Qc t.c (norm (Vl (norm (AU (ln g B C) t.i)) (norm (AU (ln a6 a8 b0) t.j))))):=by
  refine(Vy ?_).symm;exact((Eqv.nrm _).trans ((Eqv.nrm _).mul (Eqv.nrm _))).scale t.c
 rw[e];refine o.mono ht ?_;have:=cc (3*z+4) ht;rw[dk] at this;unfold KT;omega
theorem Pq.sbl{d K a:Nat}{g f h j b i:Rat}(h1:Zr g<=a)(m:Zr f<=a)(r:Zr h<=a)(n:Zr j<=a)(q:Zr b<=a)(l:Zr i<=a)(hd:d<=12){p:List Tm}(s:DL d p)(o:KL K p): ∀k,k<=p.length->Pq d (k*KT d K a+1) (norm (sbL (ln g f h) (ln j b i) (p.take k)))
 | 0,_=>by rw[ud,show sbL (ln g f h) (ln j b i) []=[] from rfl,MI,tH];exact Pq.nil d
 | k+1,hk=>by
  have u:=Pq.sbl h1 m r n q l hd s o k oo;have c:=getD_mem p (d:=(⟨0,0,0⟩:Tm)) (show k<p.length by omega);have pt:=Pq.sbT (t:=p.getD k ⟨0,0,0⟩) h1 m r n q l hd (s _ c) (o _ c);have v:=Pq.add u pt hd hd;have e:p.take (k+1)=p.take k++[p.getD k ⟨0,0,0⟩]:=by
   rw[xa,List.getElem?_eq_getElem oo];simp[List.getD,show k<p.length by omega]
  rw[e,Tc, <-Vy ((Eqv.nrm _).append (Eqv.nrm _))];refine v.mono oo ?_;have:20<=KT d K a:=by unfold KT;omega
  rw[dk];omega
theorem Pq.shift{p:List Tm}(c:Pq D A p)(h1:Zr g<=z)(l:Zr B<=z)(o:Zr C<=z)(m:Zr a6<=z)(n:Zr a8<=z)(k:Zr b0<=z)(hd:D<=12): Pq D (KS D A z) (norm (shL p g B C a6 a8 b0)):=by
 have h:=Pq.sbl h1 l o m n k hd (Jv c.deg) c.nsz (norm p).length (aZ _);rw[w9] at h;unfold shL;rw[<-Vy (Eqv.sub Eqv.rfl' Eqv.rfl' (Eqv.nrm p))];exact h.mono (aZ _) (by have:=cc (KT D A z) c.nlen;unfold KS;omega)
def O0(φ:Nat->Nat->Rat)(l:List Tm): Rat:=l.foldl (λs t=>s+t.c*φ t.i t.j) 0
theorem TU(φ:Nat->Nat->Rat): ∀(l:List Tm) (s:Rat),l.foldl (λs t=>s+t.c*φ t.i t.j) s=s+lin φ l
 | [],s=>by simp only[uf,lin];grind
 | t::l,s=>by rw[s6,TU φ l,lin];grind
theorem aI(l:List Tm): O0 e l=lin e l:=by rw[O0,TU];grind
theorem OZ(l:List Tm)(t:Tm): O0 e (l++[t])=O0 e l+t.c*e t.i t.j:=by
 unfold O0;rw[uS];rfl
theorem JD{φ:Nat->Nat->Rat}{K Kf:Nat}: ∀ {l:List Tm} (n:Nat),n<=l.length->KL K l->(∀t∈l,Zr (φ t.i t.j)<=Kf)->Zr (O0 φ (l.take n))<=2+n*(K+Kf+1)
 | l,0,_,_,_=>by rw[ud];have:=Kd;unfold O0;simp only[uf];omega
 | l,n+1,g,b,hf=>by
  have f:=JD n oo b hf;have a:=getD_mem l (d:=(⟨0,0,0⟩:Tm)) (show n<l.length by omega);have e:l.take (n+1)=l.take n++[l.getD n ⟨0,0,0⟩]:=by
   rw[xa,List.getElem?_eq_getElem oo];simp[List.getD,show n<l.length by omega]
  rw[e,OZ];have:=Xo (O0 φ (l.take n)) ((l.getD n ⟨0,0,0⟩).c*φ (l.getD n ⟨0,0,0⟩).i (l.getD n ⟨0,0,0⟩).j);have:=Qh (l.getD n ⟨0,0,0⟩).c (φ (l.getD n ⟨0,0,0⟩).i (l.getD n ⟨0,0,0⟩).j);have:=b _ a;have:=hf _ a;rw[dk];omega
def fq:Nat->Rat
 | 0=>1
 | n+1=>fq n*(((n+1:Nat):Int):Rat)
theorem jI:∀n,fq n≠0
 | 0=>by rw[fq];decide
 | n+1=>by
  rw[fq];intro h;rcases Rat.mul_eq_zero.1 h with h|h
  ·exact jI n h
  exact Fe n h
theorem up_fq(q:Rat): ∀p,upQ q p=q*fq p
 | 0=>by rw[upQ,fq];grind
 | p+1=>by rw[upQ,up_fq q p,fq];grind
theorem dz(q:Rat): ∀n,NG q n=q/fq n
 | 0=>by rw[NG,fq];grind
 | n+1=>by
  have:=jI n;have:=Fe n;have:=jI (n+1);rw[NG,dz q n];rw[fq] at *
  grind
theorem bt_fq:∀i j:Nat,bt i j*fq (i+j+1)=fq i*fq j:=by
 have b:∀j:Nat,bt 0 j*fq (0+j+1)=fq 0*fq j:=λj=>by
  have h1:=RQ j 0;have e:bt 0 j=lam j 0:=rfl;rw[e,ca,fq,fq];grind
 intro i;induction i with
 | zero=>exact b
 | succ i a =>
  intro j;have h1:=(Sx i j).1;have d:=a j;have e:fq (i+1+j+1)=fq (i+j+1)*(((i+j+2:Nat):Int):Rat):=by
   rw[show i+1+j+1=(i+j+1)+1 by omega,fq]
  have c:fq (i+1)=fq i*(((i+1:Nat):Int):Rat):=rfl;rw[e,c];grind
theorem Tp: Lo (N+o+2) [N,o]=mu N o:=by
 unfold Lo;rw[dz];simp only[s6,uf,up_fq];have h1:=mu_bt N o;have b:=bt_fq (N+1) o;have n1:=Fe N;have d:=jI (N+o+2);have e:fq (N+1+o+1)=fq (N+o+2):=by congr 1;omega
 have a:fq (N+1)=fq N*(((N+1:Nat):Int):Rat):=rfl;rw[e,a] at b;have c:(((N+1:Nat):Int):Rat)*(mu N o*fq (N+o+2)-fq N*fq o)=0:=by grind
 rcases Rat.mul_eq_zero.1 c with h|h
 ·exact absurd h n1
 grind
theorem RL(b:N<=12)(hj:o<=12): Zr (Lo (N+o+2) [N,o])<=300:=by
 unfold Lo;have h1:=JE ([N,o].foldl upQ 1) (N+o+2) oo;simp only[s6,uf] at *
 have a:=JC 1 N oo;have d:=JC (upQ 1 N) o oo;have c:=Ix;omega
theorem be(h:N+o<=12): Zr (mu N o)<=300:=by rw[<-Tp];exact RL N o oo oo
theorem je(h:N<=12): Zr (lam N o)<=4:=Kq 1 ((N+1:Nat):Int) oo oo oo oo
def SG(d K Kp:Nat): Nat:=2+tri (d+1)*(KS d K (2*Kp+1)+5)
def TR(d K Kp:Nat): Nat:=(8*Kp+5)+(2+tri (d+1)*(KS d K (2*Kp+1)+301))
theorem Jr(hx:Zr g<=D)(a:Zr B<=D): Zr (g-B)<=2*D+1:=by have:=Yg g B;omega
def PtK(K:Nat)(a:Pt): Prop:=Zr a.1<=K/\Zr a.2<=K
theorem PtK.mono{K':Nat}{a:Pt}(h:PtK D a)(hk:D<=K'): PtK K' a:=⟨bp h.1 hk,bp h.2 hk⟩
theorem Pq.seg{p:List Tm}(hq:Pq D A p)(hd:D<=12){a b:Pt}(ha:PtK z a)(e:PtK z b)(hk:2<=z): Pq D (KS D A (2*z+1)) (norm (shL p (b.1-a.1) 0 a.1 (b.2-a.2) 0 a.2)):=by
 have g:=Kd;have h1:=ha.1;have f:=ha.2;exact Pq.shift hq (Jr e.1 ha.1) oo oo (Jr e.2 ha.2) oo oo hd
theorem gX(p:List Tm)(a b:Pt): O0 lam (norm (shL p (b.1-a.1) 0 a.1 (b.2-a.2) 0 a.2))=YK p a b:=by rw[aI,Ax];rfl
theorem aN{a b c:Pt}(ha:PtK D a)(d:PtK D b)(hc:PtK D c): Zr (twQ a b c)<=8*D+5:=by
 have h1:=Jr d.1 ha.1;have f:=Jr hc.2 ha.2;have j:=Jr hc.1 ha.1;have g:=Jr d.2 ha.2;have i:=Qh (b.1-a.1) (c.2-a.2);have e:=Qh (c.1-a.1) (b.2-a.2);have h:=Yg ((b.1-a.1)*(c.2-a.2)) ((c.1-a.1)*(b.2-a.2));unfold twQ;omega
theorem Pq.triS{p:List Tm}(hq:Pq D A p)(hd:D<=12){a b c:Pt}(ha:PtK z a)(f:PtK z b)(hc:PtK z c): Pq D (KS D A (2*z+1)) (norm (shL p (b.1-a.1) (c.1-a.1) a.1 (b.2-a.2) (c.2-a.2) a.2)):=by
 have h1:=ha.1;have g:=ha.2;exact Pq.shift hq (Jr f.1 ha.1) (Jr hc.1 ha.1) oo (Jr f.2 ha.2) (Jr hc.2 ha.2) oo hd
theorem gr(p:List Tm)(a b c:Pt): twQ a b c*O0 mu (norm (shL p (b.1-a.1) (c.1-a.1) a.1 (b.2-a.2) (c.2-a.2) a.2))=XU p a b c:=by rw[aI,Ax];rfl
theorem bb{p:List Tm}(hq:Pq D A p)(hd:D<=12){a b c:Pt}(ha:PtK z a)(g:PtK z b)(hc:PtK z c):
  Zr (O0 mu (norm (shL p (b.1-a.1) (c.1-a.1) a.1 (b.2-a.2) (c.2-a.2) a.2)))<=2+tri (D+1)*(KS D A (2*z+1)+301):=by
 have h:=Pq.triS hq hd ha g hc;have f:=h.nrm hd;rw[OR] at f;have h1:_<=2+_*(KS D A (2*z+1)+301):=JD (φ:=mu) (Kf:=300) (norm (shL p (b.1-a.1) (c.1-a.1) a.1 (b.2-a.2) (c.2-a.2) a.2)).length (aZ _) h.siz (λt ht=>be _ _ (by have:=h.deg t ht;omega));rw[w9] at h1;have hl:=h.nlen;rw[OR] at hl;have:=cc (KS D A (2*z+1)+301) hl;omega
def fanF(p:List Tm)(a:Pt)(l:List Pt): Nat->Rat
 | 0=>0
 | k+1=>fanF p a l k+XU p a (l.getD k (0,0)) (l.getD (k+1) (0,0))
theorem ev_nrm(l:List Tm)(x y:Rat): evP (norm l) x y=evP l x y:=(Eqv.nrm l).val x y
def ncL:List (Rat×Rat):=[(0,2857/89600),(1/9,15741/89600),(2/9,1080/89600),(3/9,19344/89600),(4/9,5778/89600),(5/9,5778/89600),(6/9,19344/89600),(7/9,1080/89600),(8/9,15741/89600),(1,2857/89600)]
def qs(f:Rat->Rat): List (Rat×Rat)->Rat
 | []=>0
 | p::l=>p.2*f p.1+qs f l
theorem FD{f:Rat->Rat}: ∀ {l:List (Rat×Rat)},(∀p∈l,0<=p.2)->(∀p∈l,0<=f p.1)->0<=qs f l
 | [],_,_=>vX
 | p::l,h,g=>wj (s9 (h p ae) (g p ae)) (FD (λq hq=>h q (aX _ hq)) (λq hq=>g q (aX _ hq)))
theorem Tq(φ:Rat->Nat->Nat->Rat)(p:List Tm): ∀l:List (Rat×Rat),lin (λi j=>qs (λx=>φ x i j) l) p=qs (λx=>lin (φ x) p) l
 | []=>TP p
 | q::l=>by simp only[qs];rw[aH,Em,Tq φ p l]
theorem nc_pos:(ncL.all λp=>decide (0<=p.2) && decide (0<=1-p.1))=true:=by decide +kernel
theorem nc_w{p:Rat×Rat}(h:p∈ncL): 0<=p.2/\0<=1-p.1:=by
 have:=List.all_eq_true.1 nc_pos p h;simp only[cz,decide_eq_true_eq] at this;exact this
theorem nc_lam:∀i,i<10->lam i 0=qs (λx=>x ^ i) ncL:=by decide +kernel
theorem nc_mu:∀i,i<9 -> ∀j,j<9-i->mu i j=qs (λx=>qs (λv=>(1-x)*(x ^ i*((1-x)*v) ^ j)) ncL) ncL:=by decide +kernel
theorem Eg: 0<=m*m:=by
 rcases Rat.le_total (a:=0) (b:=m) with h|h
 ·exact s9 h h
 have:m*m=(-m)*(-m):=by grind
 rw[this];exact s9 (by grind) (by grind)
def XL(d:Nat)(l:List Tm): Prop := ∀t∈l,t.j=0/\t.i<=d
theorem XL.mul{l m:List Tm}(h:XL D l)(g:XL A m): XL (D+A) (Vl l m):=by
 intro t ht;simp only[Vl,vm,uB] at ht;obtain ⟨s,hs,u,hu,rfl⟩:=ht;have:=h s hs;have:=g u hu;simp only;omega
theorem XL.pow{l:List Tm}(h:XL 1 l): ∀n,XL n (AU l n)
 | 0=>λt ht=>by simp only[AU,da] at ht;subst ht;exact⟨rfl,aZ _⟩
 | n+1=>(XL.pow h n).mul h
theorem XL.sb{X Y l:List Tm}(a:XL 1 X)(b:XL 1 Y)(h:∀t∈l,t.i+t.j<=D): XL D (sbL X Y l):=by
 intro u hu;simp only[sbL,vm,Qc,uB] at hu;obtain ⟨t,ht,v,hv,rfl⟩:=hu;have:=((a.pow t.i).mul (b.pow t.j)) v hv;have:=h t ht;simp only;omega
theorem dB{l m:List Tm}(h:∀t∈l,t.i+t.j<=D)(g:∀t∈m,t.i+t.j<=A): ∀t∈Vl l m,t.i+t.j<=D+A:=by
 intro t ht;simp only[Vl,vm,uB] at ht;obtain ⟨s,hs,u,hu,rfl⟩:=ht;have:=h s hs;have:=g u hu;simp only;omega
theorem dA{l:List Tm}(h:∀t∈l,t.i+t.j<=1): ∀n,∀t∈AU l n,t.i+t.j<=n
 | 0=>λt ht=>by simp only[AU,da] at ht;subst ht;exact aZ _
 | n+1=>dB (dA h n) h
theorem dl_sb{X Y l:List Tm}(a:∀t∈X,t.i+t.j<=1)(b:∀t∈Y,t.i+t.j<=1)(h:∀t∈l,t.i+t.j<=D): ∀t∈sbL X Y l,t.i+t.j<=D:=by
 intro u hu;simp only[sbL,vm,Qc,uB] at hu;obtain ⟨t,ht,v,hv,rfl⟩:=hu;have:=(dB (dA a t.i) (dA b t.j)) v hv;have:=h t ht;simp only;omega
theorem dl_ln: ∀t∈ln m r a1,t.i+t.j<=1:=by
 intro t ht;simp only[ln,cZ,cf,or_false] at ht;rcases ht with rfl|rfl|rfl<;>simp
theorem qa{R:List Tm}(h:XL 9 R): lin lam R=qs (λx=>evP R x 1) ncL:=by
 have e:lin lam R=lin (λi j=>qs (λx=>x ^ i*(1:Rat) ^ j) ncL) R:=AN λt ht=>by
  have:=h t ht;rw[this.1,nc_lam t.i oo];congr 1;funext x;rw[sz];grind
 rw[e,Tq];rfl
theorem Tr{f:Rat->Rat}(h:∀x,f x=h4 x)(l:List (Rat×Rat)): qs f l=qs h4 l:=by rw[funext h]
theorem lin_mu{R:List Tm}(h:∀t∈R,t.i+t.j<=8): lin mu R=qs (λx=>qs (λv=>(1-x)*evP R x ((1-x)*v)) ncL) ncL:=by
 have e:lin mu R=lin (λi j=>qs (λx=>qs (λv=>(1-x)*(x ^ i*((1-x)*v) ^ j)) ncL) ncL) R:=AN λt ht=>by
  have:=h t ht;exact nc_mu t.i oo t.j oo
 rw[e,Tq];refine Tr (λx=>?_) _;rw[Tq];refine Tr (λv=>?_) _;rw[Em];rfl
def lx(d c:Rat): List Tm:=[⟨1,0,d⟩,⟨0,0,c⟩]
theorem ev_lx: evP (lx m r) a1 a7=m*a1+r:=by
 simp only[evP,lx,lin];rw[sz,sz,tx,sz];grind
theorem xl_lx: XL 1 (lx m r):=by
 intro t ht;simp only[lx,cZ,cf,or_false] at ht;rcases ht with rfl|rfl<;>simp
theorem seg_sq{p r:List Tm}(c:∀x y,evP p x y=evP r x y*evP r x y)(hd:∀t∈r,t.i+t.j<=4)(a b:Pt): 0<=YK p a b:=by
 have hR:=XL.sb (xl_lx (b.1-a.1) a.1) (xl_lx (b.2-a.2) a.2) hd;have e:Eqv (shL p (b.1-a.1) 0 a.1 (b.2-a.2) 0 a.2) (Vl (sbL (lx (b.1-a.1) a.1) (lx (b.2-a.2) a.2) r) (sbL (lx (b.1-a.1) a.1) (lx (b.2-a.2) a.2) r)):=Eqv.of_ev λx y=>by
  rw[dl,E7,mT,ev_lx,ev_lx,c];rw[show(b.1-a.1)*x+0*y+a.1=(b.1-a.1)*x+a.1 by grind,show(b.2-a.2)*x+0*y+a.2=(b.2-a.2)*x+a.2 by grind]
 unfold YK;rw[e lam,qa (λt ht=>by have:=hR.mul hR t ht;omega)];exact FD (λp c=>(nc_w c).1) λp c=>by rw[E7];exact Eg _
theorem tri_sq{p r:List Tm}(d:∀x y,evP p x y=evP r x y*evP r x y)(hd:∀t∈r,t.i+t.j<=4){a b c:Pt}(ht:0<twQ a b c): 0<=XU p a b c:=by
 have hR:=dl_sb (dl_ln (b.1-a.1) (c.1-a.1) a.1) (dl_ln (b.2-a.2) (c.2-a.2) a.2) hd;have e:Eqv (shL p (b.1-a.1) (c.1-a.1) a.1 (b.2-a.2) (c.2-a.2) a.2) (Vl (shL r (b.1-a.1) (c.1-a.1) a.1 (b.2-a.2) (c.2-a.2) a.2) (shL r (b.1-a.1) (c.1-a.1) a.1 (b.2-a.2) (c.2-a.2) a.2)):=Eqv.of_ev λx y=>by
  rw[E7,dl,dl,d]
 unfold XU;refine s9 (u5 ht) ?_;rw[e mu,lin_mu (λt ht=>by have:=dB hR hR t ht;omega)];refine FD (λp d=>(nc_w d).1) λp d=>FD (λp d=>(nc_w d).1) λq _=>?_;rw[E7];exact s9 (nc_w d).2 (Eg _)
abbrev Ez(x y:Rat): Value:=.agg #[.int .u64 (Yk x.num.natAbs),.string (Xr x.num.natAbs),.bool (decide (x.num<0)),.int .u64 (Yk (x.den-1)),.string (Xr (x.den-1)),
 .int .u64 (Yk y.num.natAbs),.string (Xr y.num.natAbs),.bool (decide (y.num<0)),.int .u64 (Yk (y.den-1)),.string (Xr (y.den-1))]
abbrev encPt(p:Pt): Value:=Ez p.1 p.2
theorem Nu: RN (Instr.fieldAt 155 (.pointer (some ⟨D,A,none⟩)) 0) (.pointer (some ⟨D,A+0,none⟩)):=λw=>by
 simp[go_sem]
theorem Y1: Zm false 1 #[w,F,G,H,J,L,O] 0=some w:=rfl
theorem Iz: RN (Instr.fieldAt 155 (.pointer (some ⟨D,A,none⟩)) 1) (.pointer (some ⟨D,A+1,none⟩)):=λw=>by
 simp[go_sem]
theorem HO: Zm false 1 #[w,F,G,H,J,L,O] 1=some F:=rfl
theorem Nt: RN (Instr.fieldAt 155 (.pointer (some ⟨D,A,none⟩)) 2) (.pointer (some ⟨D,A+2,none⟩)):=λw=>by
 simp[go_sem]
theorem Mz: Zm true 5 #[w,F,G,H,J,L,O] 2=some (.agg #[G,H,J,L,O]):=rfl
theorem BW(ty:TypeId)(cs:Array Bool): (Go.builtin .len #[50] ty cs #[.slice q N o]).run prog Q=.ok (.value (.int .i64 N)) Q:=by
 simp[go_sem]
theorem ix_50(h:Y<u): RN (Instr.indexAt 50 (.slice (some ⟨N,o,none⟩) u S) (.int .i64 (Y:Int))) (.pointer (some ⟨N,o+Y*7,none⟩)):=λw=>by
 simpa using Qf runUnderlying50 sizeOf155 N o u S Y h w
abbrev T0:Tm:=⟨0,0,0⟩
abbrev Zy(t:Tm): Value:=.agg #[.int .i64 ((t.i:Nat):Int),.int .i64 ((t.j:Nat):Int),.int .u64 (Yk t.c.num.natAbs),.string (Xr t.c.num.natAbs),.bool (decide (t.c.num<0)),.int .u64 (Yk (t.c.den-1)),.string (Xr (t.c.den-1))]
theorem EQ: (zeroValue 155).run prog Q=.ok (Zy T0) Q:=zeroValue155 Q
def fY(s t:Tm): Int:=orI [Fc ((s.i+s.j:Nat):Int) ((t.i+t.j:Nat):Int),Fc ((s.j:Nat):Int) ((t.j:Nat):Int)]
theorem dZ: Fc V Z<0↔V<Z:=by unfold Fc;split<;>(try split)<;>omega
theorem rf: Fc V Z=0↔V=Z:=by unfold Fc;split<;>(try split)<;>omega
theorem Ro(s t:Tm): fY s t<0↔ltT s t=true:=by
 rw[Dy];unfold fY;have h1:=dZ ((s.i+s.j:Nat):Int) ((t.i+t.j:Nat):Int);have c:=rf ((s.i+s.j:Nat):Int) ((t.i+t.j:Nat):Int);have e:=dZ ((s.j:Nat):Int) ((t.j:Nat):Int);simp only[orI];split
 ·omega
 split
 ·omega
 rename_i d a;have b:=Decidable.of_not_not a;omega
theorem lq(s t:Tm)(hs:s.i+s.j<=1000000)(ht:t.i+t.j<=1000000): Jk prog 255 [Zy s,Zy t] (.int .i64 (fY s t)):=by
 refine fnI func255 I ntmps255 λS w0 b=>zS (zx I λd=>zx I λc=>za I<|zn<|zs<|yE [0,1,2,3,4,5,6,7,8,9,11,12,13,14,10,15,16,17,18]<|au 0xa5f85f ?_);refine au 0x24fd3f ?_;refine yp I (.pN (((s).i)+((s).j))<|.add I I)<|au 0xa5f85f ?_;refine au 0x24fd3f ?_;refine yp I (.pN (((t).i)+((t).j))<|.add I I)<|au 0x24fd3f ?_;refine au 0x24fd3f ?_;refine yv [_,_] I I call40 (QD (((((s).i)+((s).j):Nat):Int)) (((((t).i)+((t).j):Nat):Int)))<|yv [_,_] I I call40 (QD ((((s).j:Nat):Int)) ((((t).j:Nat):Int))) ?_;refine Gx b I kk [(_,_),(_,_)] I (Xa _ _) (List.map Ib [Fc ((s.i+s.j:Nat):Int) ((t.i+t.j:Nat):Int),Fc ((s.j:Nat):Int) ((t.j:Nat):Int)]) I dd ?_;intro a;refine yw [_] I I call38 (C_Or _ _ ([Fc (((((s).i)+((s).j):Nat):Int)) (((((t).i)+((t).j):Nat):Int)),Fc ((((s).j:Nat):Int)) ((((t).j:Nat):Int))]) nb)<|au 0x6a4e ?_;refine rtK I
theorem C_may(t:Tm)(ht:t.i+t.j<=12): Jk prog 231 [Zy t] (.int .i64 0):=by
 refine fnI func231 I ntmps231 λS w0 f=>zS (zx I λe=>au 0x4de7fa7f318125 ?_);refine bbF (λd=>(by exfalso;have:=of_decide_eq_true d;omega)) λd=>zq 7 I I (.fA I Iz)<|ldQ 7 HO ?_;refine au 0x252e4bf ?_;refine kV I (λc=>(by exfalso;have:=of_decide_eq_true c;omega)) λc=>au 0x4c0fe7fa7f31 ?_;refine bbF (λa=>(by exfalso;have:=of_decide_eq_true a;omega)) λa=>zq 16 I I (.fA I Iz)<|ldQ 16 HO ?_;refine zq 16 I I (.fA I Nu)<|ldQ 16 Y1 ?_;refine zq 16 I I (.sub I I)<|zq 16 I I (.gtr I I)<|au 0x252e ?_;refine kV I (λb=>(by exfalso;have:=of_decide_eq_true b;omega)) λb=>au 0x625317 ?_;refine rtK I
theorem nH(t:Tm): Jk prog 253 [Zy t] (.bool (decide (t.c=0))):=by
 refine fnI func253 I ntmps253 λS w0 a=>zS (zx I λb=>za I<|zn<|zS<|zp (.fA I Nt)<|ldZ Mz ?_);refine au 0x625aeb1f ?_;refine rtK ?_;show Value.bool _=Value.bool _;congr 1;rw[sv,beq_iff_eq,decide_eq_true_iff,va];exact u1
def RU:List Tm->Nat->Int
 | [],_ => -1
 | x::l,i=>if x.c=0 then (i:Int) else RU l (i+1)
theorem Pd(l:List Tm)(i:Nat)(h:i<l.length): RU (l.drop i) i=if (l.getD i T0).c=0 then (i:Int) else RU (l.drop (i+1)) (i+1):=by
 rw[oF h,RU];simp[List.getD,h]
theorem Pf:∀(l:List Tm) (i:Nat),RU l i = -1->l.filter (λt=>decide (t.c≠0))=l
 | [],_,_=>rfl
 | x::l,i,h=>by
  rw[RU] at h;split at h
  ·omega
  rename_i hx;rw[lf,if_pos (by simpa using hx),Pf l (i+1) h]
theorem Pe:∀(l:List Tm) (i k:Nat),RU l i=(k:Int)->i<=k/\k-i<l.length/\(l.getD (k-i) T0).c=0/\(l.take (k-i)).filter (λt=>decide (t.c≠0))=l.take (k-i)
 | [],i,k,h=>by rw[RU] at h;omega
 | x::l,i,k,h=>by
  rw[RU] at h;split at h
  ·rename_i hx;have:k=i:=oo;subst this;simp[hx]
  rename_i hx;obtain ⟨h1,d,b,a⟩:=Pe l (i+1) k h;have e:k-i=(k-(i+1))+1:=oo;rw[e];refine⟨oo,by simp;omega,by simpa using b,?_⟩;rw[List.take_succ_cons,lf,if_pos (by simpa using hx),a]
theorem lS(p:List Tm)(R:List Value)(σ:List (Nat×Obj))(Φ:List Zs)(n:p.length<=1000000):
  GX prog 283 [.slice (some ⟨N,0,none⟩) p.length o,.func (.func 253) #[] #[]] ((N,.cells (cellsOf Zy p++R).toArray 155 (0,0))::σ) Φ (λv σ' Φ'=>v=.int .i64 (RU p 0)/\σ'=((N,.cells (cellsOf Zy p++R).toArray 155 (0,0))::σ)/\Φ'=Φ):=by
 refine fn_introM func283 I ntmps283 nb ?_;intro S w0 a w m h;refine gC h<|au 0x82472f43112531 ?_;clear h;intro a w h;refine lpF2 h (fun(i:Nat)=>i<=p.length) (fun(i:Nat)=>(RU p 0=RU (p.drop i) i)) (λi=>[(0,.slice (some ⟨N,0,none⟩) p.length o),(1,.func (.func 253) #[] #[]),(7,nI p.length),(8,nI i)]) (λi=>p.length-i) 0 (⟨cX _,rfl,by exact(h).sub sA⟩) ?_;clear h;rintro i a w ⟨l,d,h⟩;refine gC h<|au 0x12d31 ?_;intro a w h;refine Zb h I (λg=>?_) (λg=>?_)
 ·have f:i<p.length:=dT g;refine gC h<|au 0x25f4443125431817 ?_;refine zd I mm isAgg155 sizeOf155 (Ge (k:=7) (λ_=>rfl) ((λ_=>rfl)) p R T0 i oo) ?_;clear h;intro a w h;refine Zc<|Cl h (fs:=[]) (cs:=[]) I (vs:=[_]) I call253 (nH<|p.getD i T0) dd ?_;clear h;intro a w h;refine Zi h (λe h=>?_) (λe h=>?_)
  ·refine wpList_nil<|cW<|Qq h I ?_;refine gC h<|au 0x625431 ?_;clear h;intro a w h;refine XA h (Zd h I<|.tmp I) ⟨by rw[d,Pd p i f,if_pos (of_decide_eq_true e)],rfl,rfl⟩ (fT _) (λ_ h=>h)
  refine wpList_nil<|cW<|Zj h I<|gC h<|zk<|zr<|zp (.pN (i+1)<|.add I I)<|au 0x24 ?_;clear h;intro a w h;exact⟨i+1,⟨oo,by rw[d,Pd p i f,if_neg (of_decide_eq_false e)],tO h⟩,oo⟩
 have j:p.length=i:=dF g;subst j;refine gC h<|au 0x625310e ?_;clear h;intro a w h;refine XA h (Zd h I<|.tmp I) ⟨by rw[d,tf];rfl,rfl,rfl⟩ (fT _) (λ_ h=>h)
theorem Ky: Zp #[w,F,G,H,J,L,O] 0 [h5,h6,h7,h8,h9,i1,i6]=#[h5,h6,h7,h8,h9,i1,i6]:=by kernel_rfl
theorem CM: Zm true 7 #[w,F,G,H,J,L,O] 0=some (.agg #[w,F,G,H,J,L,O]):=rfl
theorem slo_50(h1:Y<=u)(w:World): (Instr.sliceAt 50 (.slice (some ⟨N,o,none⟩) u S) (some (.int .i64 (Y:Int))) none none).run prog w=.ok (.slice (some ⟨N,if S=Y then o else o+Y*7,none⟩) (u-Y) (S-Y)) w:=Q3 runUnderlying50 sizeOf155 N o u S Y h1 w
theorem slh_50(h:u<=o): RN (Instr.sliceAt 50 (.slice q N o) none (some (.int .i64 (u:Int))) none) (.slice q u o):=λw=>by
 exact AH runUnderlying50 sizeOf155 q N o u h w
theorem Ua:∀(l:List Tm) (i:Nat),RU l i ≠ -1 -> ∃k:Nat,RU l i=(k:Int)
 | [],_,h=>absurd rfl h
 | x::l,i,h=>by
  rw[RU] at h ⊢;split
  ·exact⟨i,rfl⟩
  rename_i hx;rw[if_neg hx] at h;exact Ua l (i+1) h
theorem take_snoc(l:List Tm)(h:D<l.length): l.take (D+1)=l.take D++[l.getD D T0]:=by
 rw[xa,List.getElem?_eq_getElem h];simp[List.getD,h]
theorem getD_drop(l m:List Tm)(h:l.drop D=m.drop D): l.getD D T0=m.getD D T0:=by
 have:=congrArg (λx=>x[0]?) h;simp only[List.getElem?_drop,sh] at this;simp only[List.getD];rw[this]
theorem kg{p q:List Tm}{j:Nat}(hq:q.length=p.length/\D<j/\q.take D=(p.take j).filter (λt=>decide (t.c≠0))/\q.drop j=p.drop j)(hj:j<p.length)(hc:(q.getD j T0).c=0):
  q.length=p.length/\D<j+1/\q.take D=(p.take (j+1)).filter (λt=>decide (t.c≠0))/\q.drop (j+1)=p.drop (j+1):=by
 obtain ⟨h1,e,d,a⟩:=hq;have b:=getD_drop _ _ a;refine⟨h1,oo,?_,?_⟩
 ·rw[take_snoc p hj,tc, <-d, <-b,lf,if_neg (by simpa using hc)];simp
 have:=congrArg (List.drop 1) a;rw[ug,ug] at this;exact this
theorem kh{p q:List Tm}{j:Nat}(hq:q.length=p.length/\D<j/\q.take D=(p.take j).filter (λt=>decide (t.c≠0))/\q.drop j=p.drop j)(hj:j<p.length)(hc:(q.getD j T0).c≠0):
  (q.set D (q.getD j T0)).length=p.length/\D+1<j+1/\(q.set D (q.getD j T0)).take (D+1)=(p.take (j+1)).filter (λt=>decide (t.c≠0))/\(q.set D (q.getD j T0)).drop (j+1)=p.drop (j+1):=by
 obtain ⟨h1,e,d,a⟩:=hq;have b:=getD_drop _ _ a;refine⟨by rw[ea,h1],oo,?_,?_⟩
 ·rw[take_snoc (q.set D (q.getD j T0)) (by rw[ea];omega),take_snoc p hj,tc, <-d, <-b,lf,if_pos (by simpa using hc)];rw[wX (aZ _)];congr 2;simp only[List.getD,List.getElem?_set,if_pos rfl,if_pos (show D<q.length by omega)];simp
 rw[w5 oo];have:=congrArg (List.drop 1) a;rw[ug,ug] at this;exact this
theorem Xt(t:Tm): (Zy t).cells.size=7:=rfl
theorem ef{q:List Tm}(hq:q.length=D)(a:A<=D):
  Zp (cellsOf Zy q++X).toArray (0+A*7) (CL (D-A) (Zy T0).cells.toList)=(cellsOf Zy (q.take A)++(CL (D-A) (Zy T0).cells.toList++X)).toArray:=by
 have e:cellsOf Zy q=cellsOf Zy (q.take A)++cellsOf Zy (q.drop A):=by rw[<-Qp,ls]
 have hl:(cellsOf Zy (q.take A)).length=A*7:=by rw[cellsOf_length Xt];simp[hq,sp a]
 have:=Ag (CL (D-A) (Zy T0).cells.toList) (cellsOf Zy (q.take A)) (cellsOf Zy (q.drop A)) X (by
  rw[Gd,cellsOf_length Xt,vn,hq];rfl)
 rw[e,ca, <-hl,this,cv]
theorem kA{q:List Tm}(hq:q.length=D)(a:A<=D): 0+A*7+(D-A)*(Zy T0).cells.size<=(cellsOf Zy q++X).toArray.size:=by
 show 0+A*7+(D-A)*7<=(cellsOf Zy q++X).length;rw[bd,cellsOf_length Xt,hq];omega
theorem qS{p q:List Tm}(hq:q.length=p.length/\D<A/\q.take D=(p.take A).filter (λt=>decide (t.c≠0))/\q.drop A=p.drop A)(hj:A=p.length):
  q.take D=p.filter (λt=>decide (t.c≠0))/\D=(p.filter (λt=>decide (t.c≠0))).length:=by
 obtain ⟨h1,b,a,d⟩:=hq;have e:q.take D=p.filter (λt=>decide (t.c≠0)):=by rw[a,hj,w9]
 refine⟨e,?_⟩;rw[<-e,db];omega
theorem fO(c:Nat)(p:List Tm)(R:List Value)(σ:List (Nat×Obj))(Φ:List Zs)(J:p.length<=1000000)(H:p.length<=c):
  GX prog 252 [.slice (some ⟨N,0,none⟩) p.length c,.func (.func 253) #[] #[]] ((N,.cells (cellsOf Zy p++R).toArray 155 (0,0))::σ) Φ
   (λv σ' Φ'=>v=.slice (some ⟨N,0,none⟩) (p.filter (λt=>decide (t.c≠0))).length c/\Φ'=Φ /\ ∃F:List Value,(cellsOf Zy (p.filter (λt=>decide (t.c≠0)))++F).length=(cellsOf Zy p++R).length/\σ'=(N,.cells (cellsOf Zy (p.filter (λt=>decide (t.c≠0)))++F).toArray 155 (0,0))::σ):=by
 refine fn_introM func252 I ntmps252 nb ?_;intro S w0 a w K h;refine gC h<|au 0x44312531 ?_;clear h;intro a w h;refine Zc<|Vb h K (vs:=[_,_]) I call283 (lS N c p R σ Φ J) (cr _) ss ss ?_;clear h;rintro v10 C D a w ⟨rfl,rfl,o⟩ h;rw[o] at h;refine gL h<|au 0x2ae431125 ?_;clear h;intro a w h;refine Zb h I (λd=>?_) (λd=>?_)
 ·have n:=Pf p 0 (eq_of_beq d);refine gC h<|au 0x625431 ?_;clear h;intro a w h;refine XA h (Zd h I<|.tmp I) ⟨by rw[n],rfl,R,by rw[n],by rw[n]⟩ (fT _) (λ_ h=>h)
 obtain ⟨k,hk⟩:=Ua p 0 (λe=>by rw[e] at d;exact absurd d dd);rw[hk] at h;obtain ⟨G,y,s,r⟩:=Pe p 0 k hk;simp only[wG] at y s r;refine gC h<|au 0x43117 ?_;refine zp (.pN (k+1)<|.add I I)<|au 0x825 ?_;clear h;intro a w h;refine Jl (fun(m:Nat) a w=>m<=(p.length-(k+1)) /\ ∃(q:List Tm) (i:Nat),(q.length=p.length/\i<k+1+m/\q.take i=(p.take (k+1+m)).filter (λt=>decide (t.c≠0))/\q.drop (k+1+m)=p.drop (k+1+m))/\St 42 S w0 [(0,.slice (some ⟨N,0,none⟩) p.length c),(1,.func (.func 253) #[] #[]),(5,nI i),(6,nI (k+1+m)),(15,nI (k+1))] ((N,.cells (cellsOf Zy (q)++R).toArray 155 (0,0))::σ) (Φ) a w) (λm=>(p.length-(k+1))-m) 0 (⟨cX _,p,k,⟨rfl,oo,by rw[sh,take_snoc p oo,tc,r,lf,if_neg (by simpa using s)];simp,rfl⟩,by exact(h).sub sA⟩) ?_;clear h;rintro m a w ⟨E,q,i,hq,h⟩;refine gC h<|au 0x2d72f44311 ?_;intro a w h;refine Zb h I (λg=>?_) (λg=>?_)
 ·have x:m<(p.length-(k+1)):=dT g;have l:=hq.1;have B:=hq.2.1;refine gC h<|au 0x25f4431817 ?_;refine zd I mm isAgg155 sizeOf155 (Ge (k:=7) (λ_=>rfl) ((λ_=>rfl)) q R T0 (k+1+m) oo) ?_;refine zz EQ λL=>stW I I Ky ?_;refine zn<|zS<|zm I<|ldZ CM ?_;clear h;intro a w h;refine Zc<|Cl h (fs:=[]) (cs:=[]) I (vs:=[_]) I call253 (nH<|q.getD (k+1+m) T0) dd ?_;clear h;intro a w h;refine gL h<|au 0x240f ?_;clear h;intro a w h;refine Zb h I (λf=>?_) (λf=>?_)
  ·refine gC h<|au 0x4431 ?_;refine ldZ CM ?_;refine au 0x25f ?_;refine zt' (b:=N) (cs:=(cellsOf Zy q++R).toArray) (cs':=(cellsOf Zy (q.set i<|q.getD (k+1+m) T0)++R).toArray) (v:=Zy<|q.getD (k+1+m) T0) I I (VO (k:=7) (λ_=>rfl) q R i oo<|q.getD (k+1+m) T0) uu sizeOf155 I (KB (k:=7) (λ_=>rfl) q R i oo) I ?_;refine zn<|zr<|zm I<|zp (.pN (i+1)<|.add I I)<|au 0x4325 ?_;refine zp (.pN ((k+1+m)+1)<|.add I I)<|au 0x25 ?_;clear h;intro a w h;exact⟨m+1,⟨oo,q.set i (q.getD (k+1+m) T0),i+1,kh (j:=k+1+m) hq oo (by simpa using f),by exact tO h⟩,oo⟩
  refine gC h<|zk<|zr<|zm I<|zp (.pN ((k+1+m)+1)<|.add I I)<|au 0x25 ?_;clear h;intro a w h;exact⟨m+1,⟨oo,q,i,kg (j:=k+1+m) hq oo (by simpa using f),by exact tO h⟩,oo⟩
 have z:(p.length-(k+1))=m:=dF g;have l:=hq.1;have B:=hq.2.1;obtain ⟨A,u⟩:=qS hq oo;refine gC h<|au 0x44310e ?_;refine zp (aq (v':=.slice (some ⟨N,0+i*7,none⟩) (p.length-i) (c-i)) (.slice I (some _) none none I I I<|slo_50 _ _ _ _ _ oo) (by rw[if_neg oo])) ?_;clear h;intro a w h;refine Zc<|iM h I oo runUnderlying50 EQ dd (kA R l oo) I (ef R l oo) uu ?_;clear h;intro a w h;refine gL h<|au 0x44312 ?_;refine zp (.slice I none (some _) none I I I<|slh_50 _ _ _ _ oo)<|au 0x625 ?_;clear h;intro a w h;rw[A] at h;refine XA h (Zd h I<|.tmp I) ⟨by rw[<-u],rfl,_,?_,rfl⟩ (by repeat(first|exact fT _|apply List.Sublist.cons)) (λ_ h=>h);simp only[bd,cellsOf_length Xt,Gd,sm,Xt];rw[<-u];omega
end Go.Proofs.YtdadideknhmbbaaGreatDoor
namespace Go.Proofs.YtdadideknhmbbaaGreatDoor
open Go Go.Proofs Go.Fx Go.Shelf Go.RowKit Go.Sort Tryz
variable(c:Option Addr)(n a:Nat)(p:List Tm)(m:Nat)
def ZK:Go.Shelf.Ren:=⟨fun|14=>284|20=>311|21=>312|22=>313|23=>314|24=>315|25=>316|26=>317|27=>318|46=>326|47=>269|48=>270|49=>327|50=>328|15=>115|57=>331|28=>208|29=>209|n=>n,fun|24=>155|22=>49|3=>3|25=>335|4=>4|0=>0|46=>288|45=>287|50=>134|66=>347|39=>199|55=>39|70=>351|76=>375|77=>376|53=>89|5=>5|9=>9|n=>n,fun|n=>n⟩
theorem pA:Go.Proofs.SlLaysF0.n14 prog ZK:={
 mixed:=by kernel_rfl
 f14:=⟨Tryz.f284.name,by decide,func284.trans (congrArg some kk)⟩
 f15:=func115.trans (congrArg some kk)
 f20:=⟨Tryz.f311.name,by decide,func311.trans (congrArg some kk)⟩
 f21:=⟨Tryz.f312.name,by decide,func312.trans (congrArg some kk)⟩
 f22:=⟨Tryz.f313.name,by decide,func313.trans (congrArg some kk)⟩
 f23:=⟨Tryz.f314.name,by decide,func314.trans (congrArg some kk)⟩
 f24:=⟨Tryz.f315.name,by decide,func315.trans (congrArg some kk)⟩
 f25:=⟨Tryz.f316.name,by decide,func316.trans (congrArg some kk)⟩
 f26:=⟨Tryz.f317.name,by decide,func317.trans (congrArg some kk)⟩
 f27:=⟨Tryz.f318.name,by decide,func318.trans (congrArg some kk)⟩
 f28:=func208.trans (congrArg some kk)
 f29:=func209.trans (congrArg some kk)
 f46:=⟨Tryz.f326.name,by decide,func326.trans (congrArg some kk)⟩
 f47:=func269.trans (congrArg some kk)
 f48:=func270.trans (congrArg some kk)
 f49:=⟨Tryz.f327.name,by decide,func327.trans (congrArg some kk)⟩
 f50:=⟨Tryz.f328.name,by decide,func328.trans (congrArg some kk)⟩
 f57:=⟨Tryz.f331.name,by decide,func331.trans (congrArg some kk)⟩
 t0:=underlying0
 a0:=isAgg0
 z0:=sizeOf0
 v0:=zeroValue0
 t3:=underlying3
 a3:=isAgg3
 z3:=sizeOf3
 v3:=zeroValue3
 t4:=underlying4
 a4:=isAgg4
 z4:=sizeOf4
 v4:=zeroValue4
 t5:=underlying5
 a5:=isAgg5
 z5:=sizeOf5
 v5:=zeroValue5
 t9:=underlying9
 a9:=isAgg9
 z9:=sizeOf9
 v9:=zeroValue9
 t22:=underlying49
 a22:=isAgg49
 z22:=sizeOf49
 v22:=zeroValue49
 t25:=underlying335
 a25:=isAgg335
 z25:=sizeOf335
 v25:=zeroValue335
 t39:=underlying199
 a39:=isAgg199
 z39:=sizeOf199
 v39:=zeroValue199
 t45:=underlying287
 a45:=isAgg287
 z45:=sizeOf287
 v45:=zeroValue287
 t46:=underlying288
 a46:=isAgg288
 z46:=sizeOf288
 v46:=zeroValue288
 t50:=underlying134
 a50:=isAgg134
 z50:=sizeOf134
 v50:=zeroValue134
 t53:=underlying89
 a53:=isAgg89
 z53:=sizeOf89
 v53:=zeroValue89
 t55:=underlying39
 a55:=isAgg39
 z55:=sizeOf39
 v55:=zeroValue39
 t66:=underlying347
 a66:=isAgg347
 z66:=sizeOf347
 v66:=zeroValue347
 t70:=underlying351
 a70:=isAgg351
 z70:=sizeOf351
 v70:=zeroValue351
 t76:=underlying375
 a76:=isAgg375
 z76:=sizeOf375
 v76:=zeroValue375
 t77:=underlying376
 a77:=isAgg376
 z77:=sizeOf376
 v77:=zeroValue376 }
def bk:Go.Shelf.Ren:=⟨fun|15=>115|28=>208|29=>209|n=>n,fun|39=>199|3=>3|53=>89|55=>39|4=>4|5=>5|9=>9|n=>n,fun|n=>n⟩
theorem lenFn:Go.Proofs.SlLaysF0.n15 prog bk:={
 mixed:=by kernel_rfl
 f15:=func115.trans (congrArg some kk)
 f28:=func208.trans (congrArg some kk)
 f29:=func209.trans (congrArg some kk)
 t3:=underlying3
 a3:=isAgg3
 z3:=sizeOf3
 v3:=zeroValue3
 t4:=underlying4
 a4:=isAgg4
 z4:=sizeOf4
 v4:=zeroValue4
 t5:=underlying5
 a5:=isAgg5
 z5:=sizeOf5
 v5:=zeroValue5
 t9:=underlying9
 a9:=isAgg9
 z9:=sizeOf9
 v9:=zeroValue9
 t39:=underlying199
 a39:=isAgg199
 z39:=sizeOf199
 v39:=zeroValue199
 t53:=underlying89
 a53:=isAgg89
 z53:=sizeOf89
 v53:=zeroValue89
 t55:=underlying39
 a55:=isAgg39
 z55:=sizeOf39
 v55:=zeroValue39 }
theorem GV(a:n<18446744073709551616): Jk prog 115 [.int .u64 ((n:Nat):Int)] (.int .i64 ((Lib.bitLen n:Nat):Int)):=by
 intro X w _ _;refine(Any.bits_Len (SlLaysF0.n15.bits lenFn) (n:Int) w oo oo).mono ?_;rintro e w' ⟨he,hw⟩;rw[py] at he;subst hw;exact⟨_,[],he,⟨rfl,rfl⟩,Below.refl _ _,by simp⟩
theorem XY: SWO (ltOf (λx y:Fin (m+1)=>fY (p.getD x.val T0) (p.getD y.val T0))):=by
 have h:∀x y:Fin (m+1),(ltOf (λx y:Fin (m+1)=>fY (p.getD x.val T0) (p.getD y.val T0))) x y=ltT (p.getD x.val T0) (p.getD y.val T0):=λx y=>by
  have:=Ro (p.getD x.val T0) (p.getD y.val T0);rw[sv, <-this];simp[ltOf]
 refine⟨λx=>?_,λx y z=>?_,λx y z=>?_⟩
 ·rw[h];exact LK _
 ·rw[h,h,h];exact I6
 rw[h,h,h];exact LJ
theorem QY{p:List Tm}(hd:dif p){m:Nat}(hm:p.length=m+1): ∀x y:Fin (m+1),(ltOf (λx y:Fin (m+1)=>fY (p.getD x.val T0) (p.getD y.val T0))) x y=false ->
  (ltOf (λx y:Fin (m+1)=>fY (p.getD x.val T0) (p.getD y.val T0))) y x=false->x=y:=by
 intro x y h1 c;have h:∀s t:Tm,decide (fY s t<0)=ltT s t:=λs t=>by
  have:=Ro s t;rw[sv, <-this];simp
 have b:=I7 ((h _ _).symm.trans h1) ((h _ _).symm.trans c);apply Fin.ext;rcases vO x.val y.val with a|a|a
 ·have:=List.pairwise_iff_getElem.1 hd x.val y.val oo oo a;simp only[List.getD,List.getElem?_eq_getElem (show x.val<p.length by omega),List.getElem?_eq_getElem (show y.val<p.length by omega),et] at b;exact absurd b this
 ·exact a
 have:=List.pairwise_iff_getElem.1 hd y.val x.val oo oo a;simp only[List.getD,List.getElem?_eq_getElem (show x.val<p.length by omega),List.getElem?_eq_getElem (show y.val<p.length by omega),et] at b;exact absurd ⟨b.1.symm,b.2.symm⟩ this
theorem J3{P:Program}{f:FuncId}{args:List Value}{v:Value}(h:Jk P f args v)(Φ:List Zs): Xi P f args Φ v:=λX w h1 _=>h X w h1 (λ_ hR=>nomatch hR)
theorem C_pdqT(R:List Value)(D:Nat)(E:D<4611686018427387904)(hd:dif p)(q:∀t∈p,t.i+t.j<=12)(C:p.length<=1000000)(σ:List (Nat×Obj))(Φ:List Zs):
  GX prog 284 [.slice (some ⟨n,0,none⟩) p.length a,.int .i64 ((0:Nat):Int),.int .i64 ((p.length:Nat):Int),.int .i64 ((D:Nat):Int),.func (.func 255) #[] #[]]
   ((n,.cells (cellsOf Zy p++R).toArray 155 (0,0))::σ) Φ
   (λv σ' Ψ=>v=.tuple #[]/\σ'=(n,.cells (cellsOf Zy (p.mergeSort λs t => !ltT t s)++R).toArray 155 (0,0))::σ/\Ψ=Φ):=by
 rcases oX p.length with z|z
 ·have o:p=[]:=dn z;subst o;intro S w0 w B hm;refine(AnyF.pdqsortCmpFunc_none pA (some ⟨n,0,none⟩) a (D:Int) (.func (.func 255) #[] #[]) w).mono ?_;rintro e w' ⟨he,hw⟩;subst hw;exact⟨_,_,_,he,⟨rfl,by rw[vI],rfl⟩,hm⟩
 obtain ⟨m,hm⟩:∃m,p.length=m+1:=⟨p.length-1,oo⟩
 have A:∀k:Fin (m+1),(p.getD k.val T0)∈p:=λk=>getD_mem p oo;have d:((List.range p.length).map (Fin.ofNat (m+1))).map (λk:Fin (m+1)=>p.getD k.val T0)=p:=by
  apply ur;intro j;rw[sI];by_cases hj:j<p.length
  ·rw[List.getElem?_map,List.getElem?_range hj,tC,List.getElem?_eq_getElem hj];simp only[Function.comp,Fin.ofNat];rw[jg oo];simp[List.getD,hj]
  rw[List.getElem?_eq_none (by simp;omega),List.getElem?_eq_none oo]
 have c:∀l:List (Fin (m+1)),l.flatMap (λk=>(Zy (p.getD k.val T0)).cells.toList)=cellsOf Zy (l.map (λk:Fin (m+1)=>p.getD k.val T0)):=λl=>by
  unfold cellsOf;rw[List.flatMap_map]
 have hl:((List.range p.length).map (Fin.ofNat (m+1))).length=p.length:=by simp
 have h:=NM (P:=prog) (α:=Fin (m+1)) (k:=7) (enc:=λk=>(Zy (p.getD k.val T0)).cells.toList) (σ:=σ) (Φ:=Φ) pA isAgg155 sizeOf155 (λ_=>rfl) dd
  (λx v hv=>by
   simp only[Value.cells,cZ,cf,or_false] at hv;rcases hv with rfl|rfl|rfl|rfl|rfl|rfl|rfl<;>rfl)
  (λx y=>fY (p.getD x.val T0) (p.getD y.val T0)) (XY p m) (QY hd hm) (g:=255) (cb:=#[]) call255
  (λx y=>J3 (lq (p.getD x.val T0) (p.getD y.val T0) (by have:=q _ (A x);omega) (by have:=q _ (A y);omega)) Φ) n a 155 ((List.range p.length).map (Fin.ofNat (m+1))) R D E oo
 rw[c,d,hl] at h;have u:=u6 (r:=λx y:Fin (m+1) => !(ltOf λx y:Fin (m+1)=>fY (p.getD x.val T0) (p.getD y.val T0)) y x) (s:=λs t => !ltT t s) (f:=λk:Fin (m+1)=>p.getD k.val T0) (l:=(List.range p.length).map (Fin.ofNat (m+1)))
  (λx _ y _=>by
   have:=Ro (p.getD y.val T0) (p.getD x.val T0);congr 1;rw[sv, <-this];simp[ltOf])
 rw[d] at u;simp only[c] at h;rw[u] at h;exact h
theorem C_pdq0(b:Value): Jk prog 284 [.slice c 0 n,.int .i64 ((0:Nat):Int),.int .i64 ((0:Nat):Int),.int .i64 ((a:Nat):Int),b] (.tuple #[]):=by
 intro X w _ _;refine(AnyF.pdqsortCmpFunc_none pA c n (a:Int) b w).mono ?_;rintro e w' ⟨he,hw⟩;subst hw;exact⟨_,[],he,⟨rfl,rfl⟩,Below.refl _ _,by simp⟩
end Go.Proofs.YtdadideknhmbbaaGreatDoor
namespace Go.Proofs.YtdadideknhmbbaaGreatDoor
open Go Go.Proofs Go.Fx Tryz
attribute [local irreducible] Oper.wp Code.wp wpList Fx.Head wpOp
variable{e4 h0 e7 L G B J O e3 V e6 e9 H N S e5 e2 e8 e1 Q:Value}{b7 b6 b5:Rat}{n a7 o:Nat}{u a:List Tm}(Z:Bool)(r X:Int)(x y z A h E F a8 b0 b1 b8 b9 c3 c4 c5 c6 c7 c8 c9 e0:Value)(t:Tm)(s b3 b4:Rat)(p q:List Tm)(l U:Option Addr)(b K:Nat)(b2:Tm)(e g T:Nat)(D:List Tm)(w:World)(a1:TypeId)(a6:Array Bool)(C:List Value)(W:List (Nat×Obj))(Y:List Zs)(f:Nat)
theorem EB: RN (Go.convert 3 199 (.int .i64 r)) (.int .u64 (IntKind.u64.wrap r)):=λw=>by
 simp[go_sem]
theorem J1(a:IntKind.u64.wrap r=r): RN (Go.convert 3 199 (.int .i64 r)) (.int .u64 r):=λw=>by
 rw[EB,a]
theorem fN:Jk prog 283 [.slice none 0 0,.func (.func 253) #[] #[]] (.int .i64 (-1)):=by
 refine fnI func283 I ntmps283 λS w0 c=>au 0x43112531 ?_;refine zp (aq (v':=.int .i64 0) (.builtin [_] I<|BW _ _ _) (by rfl))<|au 0x824 ?_;intro a w h;refine lpG h [0,1,7,8] pkL (λY Z (u:Unit) a w=>St 19 S w0 Y [] Z a w) (λu=>0) (()) (by exact h.sub sA) ?_;clear h;rintro u a w h;refine gC h<|au 0x12d31 ?_;refine kV I (λb=>(absurd (of_decide_eq_true b) dd)) λb=>au 0x625310e ?_;refine rtK I
theorem fQ:Jk prog 252 [.slice none 0 0,.func (.func 253) #[] #[]] (.slice none 0 0):=by
 refine fnI func252 I ntmps252 λS w0 b=>au 0x44312531 ?_;refine zv [_,_] I call283 (fN)<|au 0x2ae431125 ?_;refine kU I (λa=>(absurd a dd)) λa=>au 0x625431 ?_;refine rtK I
theorem lO:Jk prog 254 [.slice none 0 0,.func (.func 255) #[] #[]] (.tuple #[]):=by
 refine fnI func254 I ntmps254 λS w0 b=>zS<|zm I<|zp (aq (v':=.int .i64 ((0:Nat):Int)) (.builtin [_] I<|BW _ _ _) (by rfl))<|au 0x444325 ?_;refine zp (aq (v':=.int .u64 ((0:Nat):Int)) (.convert I<|EB _) (by rfl))<|zv [_] I call115 (GV 0 dd)<|zm I<|zv [_,_,_,_,_] I call284 (C_pdq0 none 0 (Lib.bitLen 0)<|.func (.func 255) #[] #[])<|zn ?_;intro a w h;exact end_of (Ψ:=[]) h (A2 I) ⟨rfl,rfl⟩ (λ_ hR=>nomatch hR)
theorem sB(hd:dif D)(g:∀t∈D,t.i+t.j<=12)(m:D.length<=1000000):
  GX prog 254 [.slice (some ⟨b,0,none⟩) D.length K,.func (.func 255) #[] #[]] ((b,.cells (cellsOf Zy D++C).toArray 155 (0,0))::W) Y
   (λv σ' Φ'=>v=.tuple #[]/\σ'=(b,.cells (cellsOf Zy (D.mergeSort λs t => !ltT t s)++C).toArray 155 (0,0))::W/\Φ'=Y):=by
 refine fn_introM func254 I ntmps254 nb ?_;intro S w0 a w l h;refine gC h<|au 0x44432572f431 ?_;refine zp (.convert I<|J1 _<|wrap_u64 _ oo oo)<|zv [_] I call115 (GV D.length oo)<|zm I ?_;clear h;intro a w h;refine Zc<|Vb h l (vs:=[_,_,_,_,_]) I call284 (C_pdqT b K D C (Lib.bitLen D.length) (gO (Lib.bitLen_le D.length 62 oo oo) oo) hd g m W Y) (cr _) ss ss ?_;clear h;rintro k f e a w ⟨rfl,rfl,d⟩ h;refine wpList_nil<|XA h (A2 I) ⟨rfl,rfl,d⟩ (fT _) (λ_ h=>h)
theorem lV(m:GrowO 7 155 B p.length (cellsOf Zy p) W)(n:p.length<=1000000)(σ:List (Nat×Obj))(Φ:List Zs):
  GX prog 252 [B,.func (.func 253) #[] #[]] (W++σ) Φ
   (λv' σ' Φ'=>Φ'=Φ /\ ∃o',GrowO 7 155 v' (p.filter (λt=>decide (t.c≠0))).length (cellsOf Zy (p.filter (λt=>decide (t.c≠0)))) o'/\σ'=o'++σ):=by
 obtain ⟨hlen,⟨rfl,l,rfl⟩|⟨b,c,R,rfl,f,d,rfl⟩⟩:=m
 ·have h:p=[]:=dn l;subst h;intro S w0 w g hm;refine(mX fQ σ Φ S w0 w g hm).mono ?_;rintro e w' ⟨u,σ',Ψ,he,⟨h1,f,d⟩,a⟩;exact⟨u,σ',Ψ,he,⟨d,[],by rw[h1];exact GrowO.nil _ _,by rw[f];rfl⟩,a⟩
 intro S w0 w g hm;refine(fO b c p R σ Φ n d S w0 w g hm).mono ?_;rintro e w' ⟨u,σ',Ψ,he,⟨h1,j,q,k,i⟩,a⟩;refine⟨u,σ',Ψ,he,⟨j,[(b,_)],?_,i⟩,a⟩;rw[h1];exact GrowO.close (cellsOf_length Xt _) (k.trans f) (bp (nk _ _) d)
theorem C_Sort(n:GrowO 7 155 B p.length (cellsOf Zy p) W)(hd:dif p)(d:∀t∈p,t.i+t.j<=12)(q:p.length<=1000000)(σ:List (Nat×Obj))(Φ:List Zs):
  GX prog 254 [B,.func (.func 255) #[] #[]] (W++σ) Φ
   (λv' σ' Φ'=>Φ'=Φ/\v'=.tuple #[] /\ ∃o',GrowO 7 155 B p.length (cellsOf Zy (p.mergeSort λs t => !ltT t s)) o'/\σ'=o'++σ):=by
 obtain ⟨hlen,⟨rfl,m,rfl⟩|⟨b,c,R,rfl,f,h,rfl⟩⟩:=n
 ·have d:p=[]:=dn m;subst d;intro S w0 w g hm;refine(mX lO σ Φ S w0 w g hm).mono ?_;rintro e w' ⟨u,σ',Ψ,he,⟨h1,f,h⟩,a⟩;exact⟨u,σ',Ψ,he,⟨h,h1,[],by rw[vI];exact GrowO.nil _ _,by rw[f];rfl⟩,a⟩
 intro S w0 w g hm;refine(sB b c p R σ Φ hd d q S w0 w g hm).mono ?_;rintro e w' ⟨u,σ',Ψ,he,⟨h1,k,l⟩,a⟩;refine⟨u,σ',Ψ,he,⟨l,h1,[(b,_)],?_,k⟩,a⟩;have hl:(p.mergeSort λs t => !ltT t s).length=p.length:=(pq _ _).length_eq;refine GrowO.close (by rw[cellsOf_length Xt,hl]) ?_ h;rw[bd,cellsOf_length Xt,hl] at *
 exact f
abbrev W9(i j:Nat): Value:=.agg #[.int .i64 ((i:Nat):Int),.int .i64 ((j:Nat):Int)]
def pK(i j:Nat)(e:MapEntry): Bool:=match e.key with
 | .agg cs=>(match cs.toList with | [.int _ a,.int _ b]=>decide ((i:Int)=a/\(j:Int)=b)|_=>false)
 | _=>false
def esL:List Tm->Nat->List MapEntry
 | [],_=>[]
 | t::p,k=>⟨W9 t.i t.j,.int .i64 ((k:Nat):Int),k⟩::esL p (k+1)
theorem Ur(t:Tm): ∀(p:List Tm) (k:Nat),esL (p++[t]) k=esL p k++[⟨W9 t.i t.j,.int .i64 ((k+p.length:Nat):Int),k+p.length⟩]
 | [],k=>rfl
 | s::p,k=>by
  have:=Ur t p (k+1);rw[gH,esL,this,esL,dc,show k+1+p.length=k+(p.length+1) by omega];rfl
theorem dq:∀(p:List Tm) (k:Nat) (e:MapEntry),e∈esL p k -> ∃t∈p,e.key=W9 t.i t.j
 | [],_,_,h=>nomatch h
 | t::p,k,e,h=>by
  rcases List.mem_cons.1 h with rfl|h
  ·exact⟨t,ae,rfl⟩
  obtain ⟨s,hs,a⟩:=dq p (k+1) e h;exact⟨s,aX _ hs,a⟩
def fP(i j:Nat): List Tm->Bool
 | []=>false
 | s::p=>if s.i=i/\s.j=j then true else fP i j p
def kP(i j:Nat): List Tm->Nat
 | []=>0
 | s::p=>if s.i=i/\s.j=j then 0 else kP i j p+1
theorem mw(c:MapEntry)(h:c.key=W9 e g): pK b K c=decide (e=b/\g=K):=by
 unfold pK;rw[h];simp only;congr 1;apply propext;omega
theorem JP(i j:Nat): ∀(p:List Tm) (k m:Nat),Ng (pK i j) (esL p k) m=if fP i j p then some (m+kP i j p,.int .i64 ((k+kP i j p:Nat):Int)) else none
 | [],_,_=>rfl
 | t::p,k,m=>by
  rw[esL,Ng,mw i j t.i t.j _ rfl,JP i j p (k+1) (m+1),fP,kP];by_cases h:t.i=i/\t.j=j
  ·rw[decide_eq_true h,if_pos rfl,if_pos h,if_pos h,if_pos rfl];rfl
  rw[decide_eq_false h,if_neg Bool.false_ne_true,if_neg h,if_neg h];rcases hf:fP i j p with _|_
  ·rfl
  rw[if_pos rfl,if_pos rfl,show m+1+kP i j p=m+(kP i j p+1) by omega,show k+1+kP i j p=k+(kP i j p+1) by omega]
theorem TZ(t:Tm): ∀p:List Tm,fP t.i t.j p=true->kP t.i t.j p<p.length/\Di t p=p.set (kP t.i t.j p) ⟨(p.getD (kP t.i t.j p) T0).i,(p.getD (kP t.i t.j p) T0).j,(p.getD (kP t.i t.j p) T0).c+t.c⟩
 | [],h=>by simp[fP] at h
 | s::p,h=>by
  rw[Di,kP];by_cases hs:same s t
  ·rw[if_pos hs,if_pos (show s.i=t.i/\s.j=t.j from hs)];exact⟨by simp,rfl⟩
  rw[if_neg hs,if_neg (show ¬(s.i=t.i/\s.j=t.j) from hs)];have h1:fP t.i t.j p=true:=by
   rw[fP,if_neg (show ¬(s.i=t.i/\s.j=t.j) from hs)] at h;exact h
  obtain ⟨b,a⟩:=TZ t p h1;refine⟨by simp;omega,?_⟩;rw[a];rfl
theorem jy: ∀p:List Tm,fP t.i t.j p=false->Di t p=(p++[(⟨t.i,t.j,0⟩:Tm)]).set p.length ⟨((p++[(⟨t.i,t.j,0⟩:Tm)]).getD p.length T0).i,((p++[(⟨t.i,t.j,0⟩:Tm)]).getD p.length T0).j,((p++[(⟨t.i,t.j,0⟩:Tm)]).getD p.length T0).c+t.c⟩:=by
 intro p h;have e:(p++[(⟨t.i,t.j,0⟩:Tm)]).getD p.length T0=⟨t.i,t.j,0⟩:=by simp[List.getD]
 rw[e];induction p with
 | nil=>rfl
 | cons s p a =>
  rw[fP] at h;split at h
  ·cases h
  rename_i hs;rw[Di,if_neg (show ¬same s t from hs),a h (by simp[List.getD])];rfl
theorem eqKey: RN (Op.equal 331 (W9 b K) (W9 e g)) (decide (e=b/\g=K)):=λw=>by
 unfold Op.equal;rw[show Op.maxDepth=9999+1 from rfl,Op.equalIn];simp[go_sem];have f:((b:Int)=(e:Int))↔e=b:=oo;have c:((K:Int)=(g:Int))↔g=K:=oo;by_cases h1:e=b<;>by_cases d:g=K<;>simp only[f,c,h1,d,if_true,if_false,decide_true,decide_false,Bool.and_true,Bool.and_false,wm]
theorem Ik(x:Int): RN (Instr.checkKey Z (b+1) 3 (.int .i64 x)) ():=λw=>by
 rw[Instr.checkKey];simp[go_sem]
theorem ckKey: RN (Instr.checkKey Z 10000 331 (W9 b K)) ():=λw=>by
 rw[show(10000:Nat)=9999+1 from rfl,Instr.checkKey];have h1:=Ik Z 9998 (b:Int);have a:=Ik Z 9998 (K:Int);simp[go_sem,h1,a]
theorem H3: (Go.builtin .len #[49] a1 a6 #[.slice l b K]).run prog w=.ok (.value (.int .i64 b)) w:=by
 simp[go_sem]
theorem ix_49(h:T<e): RN (Instr.indexAt 49 (.slice (some ⟨b,K,none⟩) e g) (.int .i64 (T:Int))) (.pointer (some ⟨b,K+T*7,none⟩)):=λw=>by
 simpa using Qf runUnderlying49 sizeOf155 b K e g T h w
theorem L9: RN (Instr.build 331 [(0,.int .i64 r),(1,.int .i64 X)].toArray) (.agg #[.int .i64 r,.int .i64 X]):=λw=>by simp[go_sem]
theorem WF: RN (Instr.build 155 [(0,.int .i64 r),(1,.int .i64 X)].toArray) (.agg #[.int .i64 r,.int .i64 X,.int .u64 0,.string ⟨#[]⟩,.bool false,.int .u64 0,.string ⟨#[]⟩]):=λw=>by simp[go_sem]
theorem GO: (Instr.buildSlice 50 1 [(0,.agg #[x,y,z,A,h,E,F])].toArray).run prog w=.ok (.slice (some ⟨w.heap.size,0,none⟩) 1 1) (w.alloc (.cells #[x,y,z,A,h,E,F] 155 (0,0))):=by
 simp[go_sem]
theorem opEs(i j:Nat)(p:List Tm): ∀e∈(esL p 0).toArray.toList,∀w,(Op.equal 331 (W9 i j) e.key).run prog w=.ok (pK i j e) w:=by
 intro e he w;obtain ⟨t,_,a⟩:=dq p 0 e he;rw[a,eqKey,mw i j t.i t.j e a]
theorem run_lk(a:w.heap[e]?=some (.map (esL D 0).toArray D.length)):
  (Instr.lookup 329 (.map (some e)) (W9 b K) true).run prog w=.ok (.tuple #[.int .i64 ((if fP b K D=true then kP b K D else 0:Nat):Int),.bool (fP b K D)]) w:=by
 have h:=Re (P:=prog) (key:=W9 b K) runUnderlying329 runUnderlying331 (λc w=>ckKey c b K w) (λw=>zeroValue3 w) (opEs b K D) w a;rw[h];have c:=JP b K D 0 0;rw[show(esL D 0).toArray.toList=esL D 0 from rfl,c];rcases hf:fP b K D with _|_
 ·rfl
 rw[if_pos rfl,if_pos rfl,ca]
theorem run_mu(hf:fP b K D=false)(w:World)(a:w.heap[e]?=some (.map (esL D 0).toArray D.length)):
  (Instr.mapUpdate 329 (.map (some e)) (W9 b K) (.int .i64 ((D.length:Nat):Int))).run prog w=.ok () { w with heap:=w.heap.setIfInBounds e (.map (esL (D++[⟨b,K,0⟩]) 0).toArray (D++[(⟨b,K,0⟩:Tm)]).length) }:=by
 have h:=If (P:=prog) (key:=W9 b K) (val:=.int .i64 ((D.length:Nat):Int)) runUnderlying329 runUnderlying331 (λc w=>ckKey c b K w) (opEs b K D) (by
  rw[show(esL D 0).toArray.toList=esL D 0 from rfl,JP,hf];rfl) w a
 rw[h];have c:=Ur ⟨b,K,0⟩ D 0;simp only[ca] at c;rw[c,bd,iA];congr 3;simp
theorem Sj:∀(p:List Tm) (m k:Nat) (c:Rat),m<p.length->esL (p.set m ⟨(p.getD m T0).i,(p.getD m T0).j,c⟩) k=esL p k
 | [],m,_,_,h=>absurd h (gS _)
 | t::p,0,k,c,_=>rfl
 | t::p,m+1,k,c,h=>by
  have a:=Sj p m (k+1) c (by simpa using h);rw[List.set_cons_succ,esL,esL];congr 1
theorem Hy: (Zy t).cells.toList=[.int .i64 ((t.i:Nat):Int),.int .i64 ((t.j:Nat):Int)]++(Qa t.c).cells.toList++[]:=rfl
theorem rdC(h:f<p.length): Zm true 5 (cellsOf Zy p++C).toArray (0+f*7+2)=some (Qa (p.getD f T0).c):=by
 have a:p.getD f T0=p[f]:=by simp[List.getD,h]
 rw[a,DY p f h,Hy,ca, <-Kw Xt p f h,cv];exact Y7 _ [_,_] [] (Qa p[f].c).cells.toList _ 5 I
theorem stC(h:f<p.length)(x:Rat):
  Zp (cellsOf Zy p++C).toArray (0+f*7+2) (Qa x).cells.toList=(cellsOf Zy (p.set f ⟨(p.getD f T0).i,(p.getD f T0).j,x⟩)++C).toArray:=by
 have a:p.getD f T0=p[f]:=by simp[List.getD,h]
 rw[a,DY p f h,DX p f h,Hy,Hy,ca, <-Kw Xt p f h,cv,cv _ _ C];exact gK _ [_,_] [] (Qa p[f].c).cells.toList (Qa x).cells.toList _ I
theorem md(h:f<p.length): 0+f*7+2+5<=(cellsOf Zy p++C).toArray.size:=by
 have:=KB (enc:=Zy) Xt p C f h;omega
theorem PG{R:List Value}(h:(cellsOf Zy a++R).length=n*7)(hl:u.length=a.length): (cellsOf Zy u++R).length=n*7:=by
 rw[bd,cellsOf_length Xt] at *;rw[hl];exact h
theorem PC(h:b<p.length): collect (p.take (b+1))=Di (p.getD b T0) (collect (p.take b)):=by
 unfold collect;rw[xa,List.getElem?_eq_getElem h,uS];simp[List.getD,h]
theorem Hw(b:KL n a)(hs:a.length*(n+1)<=o)(i:Nat): ∀u∈collect (a.take i),Zr u.c<=o:=λu hu=>by
 have h1:=PD (l:=a.take i) (λt ht=>b t (tK ht)) u hu;have e:=dV u.i u.j (a.take i);rw[db] at e;exact bp h1 (bp (cc _ (bp e (Nat.min_le_right _ _))) hs)
theorem bg(f:KL n a)(hs:a.length*(n+1)<=o)(b:a7<a.length): Zr (a.getD a7 T0).c<=o:=by
 have h1:=f _ (getD_mem a (d:=T0) b);have e:=cc (n+1) (show 1<=a.length by omega);omega
theorem iQ: (norm p).length=((collect p).filter (λt=>decide (t.c≠0))).length:=(pq _ _).length_eq
theorem Ss(h:DL n a): ∀t∈(collect a).filter (λt=>decide (t.c≠0)),t.i+t.j<=n:=λt ht=>by
 obtain ⟨s,hs,h1,b⟩:=J6 (List.mem_filter.1 ht).1;rw[h1,b];exact h s hs
theorem Ar(c K:Nat)(hd:DL 12 p)(X:KL K p)(hs:p.length*(K+1)<=50000000000)(hn:p.length<=100000):
  CtrO prog 168 [.slice l p.length c] [Row l (cellsOf Zy p)] (λv o => ∃s H,v=.slice s (norm p).length H/\GrowO 7 155 v (norm p).length (cellsOf Zy (norm p)) o):=by
 refine fn_introO func168 I ntmps168 nb ?_;intro S w0 a hS h;refine gC h<|au 0x312531 ?_;clear h;intro a w h;refine Zc<|Lv h dd ?_;clear h;intro T a w h;refine gL h<|au 0x431125 ?_;refine zp (.builtin [_] I<|H3 _ _ _)<|au 0x824 ?_;clear h;intro a w h;refine lpG h [3,9,10] pkL (λY Z (i:Nat) a w=>i<=p.length /\ ∃(u:Option Addr) (c1:Nat) (G:List (Nat×Obj)),(GrowO 7 155 (.slice u (collect<|p.take i).length c1) (collect<|p.take i).length (cellsOf Zy<|collect<|p.take i) G)/\St 62 S w0 ((2,(.slice u (collect<|p.take i).length c1))::(11,nI i)::Y) (G++((T,Obj.map ((esL (collect<|p.take i) 0).toArray) ((collect<|p.take i).length))::[])) Z a w) (λi=>p.length-i) 0 (⟨cX _,none,0,[],GrowO.nil _ _,by exact(h).sub sA⟩) ?_;clear h;rintro i a w ⟨a1,u,c1,G,q,h⟩;refine gC h<|au 0x12d31 ?_;intro a w h;refine Zb h I (λb1=>?_) (λb1=>?_)
 ·have n:i<p.length:=dT b1;obtain ⟨a8,a6,rfl⟩:=h.row_addr (ad:=l) (M:=cellsOf Zy p) mm (nE 7);have Q:=Fb (p.take i);have L:=Hw X hs i;have b:=PC p i n;have b9:=bg X hs n;refine gC h<|zk<|zs<|zb<|zS<|zp (.indexAddr I I<|ix_49 _ _ _ _ _ oo)<|zD I mm (cells_lt (k:=7) dd (λ_=>rfl) p i oo) isAgg155 sizeOf155 (Zh (k:=7) (λ_=>rfl) ((λ_=>rfl)) p T0 i oo) (.inl I) ?_;refine zz EQ λb5=>stW I I Ky ?_;refine au 0xdafe7fa7f4312 ?_;refine ldZ HO ?_;refine zp (.build [(_,_),(_,_)] I<|L9 _ _) ?_;clear h;intro a w h;refine Zc<|ZT h I I mm (run_lk _ _ _ _) dd ?_;clear h;intro a h;refine gL h<|au 0xbb4 ?_;clear h;intro a w h;refine Zi h (λf h=>?_) (λf h=>?_)
  ·rw[if_pos f] at h;obtain ⟨hk,e⟩:=TZ (p.getD i T0) _ f;refine gL h<|au 0x40f4311255 ?_;clear h;intro a w h;obtain ⟨W,R1,rfl,rfl,V,U⟩:=q.open (gO (cX _) hk);rw[gH,ec] at h;have hz:=L _ (getD_mem _ (d:=T0) hk);refine wpList_nil<|cW<|Zj h I<|gC h<|zk<|yE [0,1,2,3,4,5,6,7,8,9,10,11,12]<|au 0x33f88f9999 ?_;refine yd I I mm isAgg47 sizeOf47 (rdC _ _ _ hk) ?_;clear h;refine au 0x66f33f ?_;refine au 0x94f ?_;have D:=Xo (((collect (p.take i)).getD (kP (p.getD i T0).i (p.getD i T0).j (collect (p.take i))) T0).c) ((p.getD i T0).c);refine au 0x33f88f ?_;refine yt I I I (stC _ _ _ hk _) uu sizeOf47 I (md _ _ _ hk) I ?_;refine yn<|zr<|zp (.pN (i+1)<|.add I I)<|au 0x24 ?_;intro a w h;rw[<-e, <-b] at h;have y:esL (collect (p.take (i+1))) 0=esL (collect (p.take i)) 0:=by rw[b,e];exact Sj _ _ _ _ hk
   have g:(collect (p.take (i+1))).length=(collect (p.take i)).length:=by rw[b,e,ea]
   rw[<-y, <-g] at h;exact⟨i+1,⟨oo,some ⟨W,0,none⟩,c1,[(W,_)],GrowO.close (R:=R1) (cellsOf_length Xt _) (PG V g) (by rw[g];exact U),by exact tO h⟩,oo⟩
  rw[if_neg (by rw[f];exact Bool.false_ne_true)] at h;have e:=jy (p.getD i T0) _ f;have hk:(collect (p.take i)).length<(collect (p.take i)++[(⟨(p.getD i T0).i,(p.getD i T0).j,0⟩:Tm)]).length:=by rw[bd];exact ia _
  refine gL h<|au 0x40f4311255 ?_;clear h;intro a w h;refine wpList_nil<|cW<|Qq h I ?_;refine gC h<|au 0xdafe7fa7f4312572f431 ?_;refine ldZ HO ?_;refine zp (.build [(_,_),(_,_)] I<|L9 _ _)<|zm I ?_;clear h;intro a w h;refine Zc<|OP h I I I uu (run_mu _ _ _ _ f) ?_;clear h;intro a w h;refine gL h<|au 0xdafe7fa7f432 ?_;refine ldZ HO ?_;refine zp (.build [(_,_),(_,_)] I<|WF _ _) (zB [(_,_)] I (GO _ _ _ _ _ _ _) λc3=>?_);refine apC Zy (collect<|p.take i) [(⟨(p.getD i T0).i,(p.getD i T0).j,0⟩:Tm)] q ?_ (hr:=by(try dsimp only);rw[db] at Q;omega);intro b0 P b7 F a w h;obtain ⟨B,O,rfl,rfl,A,C⟩:=F.open (gO (cX _) hk);rw[gH,ec] at h;have hz:Zr ((collect (p.take i)++[(⟨(p.getD i T0).i,(p.getD i T0).j,0⟩:Tm)]).getD (collect (p.take i)).length T0).c<=50000000000:=by
   rw[show(collect (p.take i)++[(⟨(p.getD i T0).i,(p.getD i T0).j,0⟩:Tm)]).getD (collect (p.take i)).length T0=(⟨(p.getD i T0).i,(p.getD i T0).j,0⟩:Tm) by simp[List.getD]];exact bp Kd dd
  refine gL h<|za I<|zn<|yE [0,1,2,3,4,5,6,7,8,9,10,11,12]<|au 0x33f88f9999 ?_;refine yd I I mm isAgg47 sizeOf47 (rdC _ _ _ hk) ?_;clear h;refine au 0x66f33f ?_;refine au 0x94f ?_;have D:=Xo (((collect (p.take i)++[(⟨(p.getD i T0).i,(p.getD i T0).j,0⟩:Tm)]).getD ((collect (p.take i)).length) T0).c) ((p.getD i T0).c);refine au 0x33f88f ?_;refine yt I I I (stC _ _ _ hk _) uu sizeOf47 I (md _ _ _ hk) I ?_;refine yn<|zr<|zp (.pN (i+1)<|.add I I)<|au 0x24 ?_;intro a w h;rw[<-e, <-b] at h;have y:esL (collect (p.take (i+1))) 0=esL (collect (p.take i)++[(⟨(p.getD i T0).i,(p.getD i T0).j,0⟩:Tm)]) 0:=by rw[b,e];exact Sj _ _ _ _ hk
  have g:(collect (p.take (i+1))).length=(collect (p.take i)++[(⟨(p.getD i T0).i,(p.getD i T0).j,0⟩:Tm)]).length:=by rw[b,e,ea]
  rw[<-y, <-g] at h;exact⟨i+1,⟨oo,some ⟨B,0,none⟩,P,[(B,_)],GrowO.close (R:=O) (cellsOf_length Xt _) (PG A g) (by rw[g];exact C),by exact tO h⟩,oo⟩
 have x:p.length=i:=dF b1;subst x;rw[w9] at h q;refine gC h<|au 0x4310e ?_;clear h;intro a w h;refine Zc<|Vb h hS (vs:=[_,_]) I call252 (lV (collect p) G q (bp (Fb p) oo) [(T,_)] [Row l (cellsOf Zy p)]) (cr _) ss ss ?_;clear h;rintro v58 b3 b4 a w ⟨r,J,E,rfl⟩ h;rw[r] at h;refine gL h<|au 0x43125 ?_;clear h;intro a w h;refine Zc<|Vb h hS (vs:=[_,_]) I call254 (C_Sort ((collect p).filter (λt=>decide (t.c≠0))) J E (u0 _<|J8 p) (Ss hd) (bp (nk _ _)<|bp (Fb p) oo) [(T,_)] [Row l (cellsOf Zy p)]) (cr _) ss ss ?_;clear h;rintro v60 b2 a7 a w ⟨z,rfl,b6,m,rfl⟩ h;rw[z] at h;refine gL h<|au 0x6254312 ?_;clear h;intro a w h;have N:=iQ p;rw[<-N] at m;obtain ⟨s,H,hv⟩:=m.is;refine HV h (Zd h I<|.tmp I) ⟨s,H,hv,m⟩<|fv _ _
theorem NX: RN (Instr.build 155 [(2,.agg #[x,y,z,A,h])].toArray) (.agg #[.int .i64 0,.int .i64 0,x,y,z,A,h]):=λw=>by simp[go_sem]
theorem KH: (Instr.buildSlice 49 1 [(0,.agg #[x,y,z,A,h,E,F])].toArray).run prog w=.ok (.slice (some ⟨w.heap.size,0,none⟩) 1 1) (w.alloc (.cells #[x,y,z,A,h,E,F] 155 (0,0))):=by
 simp[go_sem]
theorem HE: RN (Instr.build 155 [(0,.int .i64 r),(2,.agg #[x,y,z,A,h])].toArray) (.agg #[.int .i64 r,.int .i64 0,x,y,z,A,h]):=λw=>by simp[go_sem]
theorem HD: RN (Instr.build 155 [(1,.int .i64 r),(2,.agg #[x,y,z,A,h])].toArray) (.agg #[.int .i64 0,.int .i64 r,x,y,z,A,h]):=λw=>by simp[go_sem]
theorem C_pOf(hd:DL 12 p)(y:KL K p)(hs:p.length*(K+1)<=50000000000)(z:p.length<=100000): CtrO prog 139 [.slice l p.length b] [Row l (cellsOf Zy p)] (λv o => ∃j r,v=.tuple #[.slice j (norm p).length r,.int .i64 0]/\GrowO 7 155 (.slice j (norm p).length r) (norm p).length (cellsOf Zy (norm p)) o):=by
 refine fn_introO func139 I ntmps139 nb ?_;intro S w0 a B h;refine gC h<|au 0x431125531 ?_;refine zp (.builtin [_] I<|H3 _ _ _)<|au 0x824 ?_;clear h;intro a w h;refine lpG h [0,7,8] pkL (λY Z (i:Nat) a w=>i<=p.length/\St 21 S w0 ((9,nI i)::Y) [] Z a w) (λi=>p.length-i) 0 (⟨cX _,by exact(h).sub sA⟩) ?_;clear h;rintro i a w ⟨u,h⟩;refine gC h<|au 0x12d31 ?_;intro a w h;refine Zb h I (λC=>?_) (λC=>?_)
 ·have g:i<p.length:=dT C;obtain ⟨t,q,rfl⟩:=h.row_addr (ad:=l) (M:=cellsOf Zy p) mm (nE 7);have x:=hd _ (getD_mem p (d:=T0) g);refine gC h<|zk<|zs<|zb<|zS<|zp (.indexAddr I I<|ix_49 _ _ _ _ _ oo)<|zD I mm (cells_lt (k:=7) dd (λ_=>rfl) p i oo) isAgg155 sizeOf155 (Zh (k:=7) (λ_=>rfl) ((λ_=>rfl)) p T0 i oo) (.inl I) ?_;refine zz EQ λA=>stW I I Ky ?_;refine zn<|zS<|ldZ CM ?_;refine zv [_] I call231 (C_may (p.getD i T0) oo)<|au 0x271f43125 ?_;refine kV I (λe=>(absurd e dd)) λe=>zk<|zr<|zp (.pN (i+1)<|.add I I)<|au 0x24 ?_;clear h;intro a w h;exact⟨i+1,⟨oo,tO h⟩,oo⟩
 have f:p.length=i:=dF C;subst f;refine gC h<|au 0x4310e ?_;clear h;intro a w h;refine Zc<|Xd h (vs:=[_]) I call168 (Ar p _ _ K hd y hs z) ss dd ?_;clear h;rintro v20 s a w ⟨n,D,rfl,m⟩ h;refine gL h<|au 0x6255 ?_;clear h;intro a w h;refine HV h (Qd h I (.tmp I)<|.tmp I) ⟨n,D,rfl,m⟩<|fv _ _
theorem C_pOfF(hd:DL 12 p)(f:KL K p)(hs:p.length*(K+1)<=50000000000)(d:p.length<=100000): Ctr prog 139 [.slice l p.length b] [Row l (cellsOf Zy p)] (λv Ψ => ∃a e,v=.tuple #[.slice a (norm p).length e,.int .i64 0]/\Ψ=[Row a (cellsOf Zy (norm p))]):=dK (C_pOf p l b K hd f hs d)
theorem Pq.room(h:Pq n o a)(b:o<=400000000): a.length*(o+1)<=50000000000 :=
 bp (ka h.len (show o+1<=400000001 by omega)) dd
theorem Pq.deg12(h:Pq n o a)(hd:n<=12): DL 12 a:=h.deg.mono hd
theorem KZ(hq:Pq K e p)(hd:K<=12)(j:e<=400000000): CtrO prog 68 [.slice l p.length b] [Row l (cellsOf Zy p)] (λv o => ∃q g,v=.slice q (norm p).length g/\GrowO 7 155 v (norm p).length (cellsOf Zy (norm p)) o):=by
 refine fn_introO func68 I ntmps68 nb ?_;intro S w0 a m h;refine gC h<|au 0x4312531 ?_;clear h;intro a w h;refine Zc<|Xd h (vs:=[_]) I call139 (C_pOf p _ _ e (hq.deg12 hd) hq.siz (hq.room j) (by have:=hq.len;omega)) ss dd ?_;clear h;rintro n k a w ⟨f,i,rfl,r⟩ h;refine gL h<|au 0x625431255bb4 ?_;clear h;intro a w h;refine HV h (Zd h I<|.tmp I) ⟨f,i,rfl,r⟩<|fv _ _
theorem As(h:Pq K e p)(hd:K<=12)(f:e<=400000000): Ctr prog 68 [.slice l p.length b] [Row l (cellsOf Zy p)] (λv Ψ => ∃a g,v=.slice a (norm p).length g/\Ψ=[Row a (cellsOf Zy (norm p))]):=GK (KZ p l b K e h hd f)
theorem sW(hx:Zr s<=b)(l:b<=400000000): CtrO prog 165 [Qa s] [] (λv o => ∃n f,v=.slice n (norm [(⟨0,0,s⟩:Tm)]).length f/\GrowO 7 155 v (norm [(⟨0,0,s⟩:Tm)]).length (cellsOf Zy (norm [(⟨0,0,s⟩:Tm)])) o):=by
 refine fn_introO func165 I ntmps165 nb ?_;intro S w0 a e h;refine gC h<|zS (zx I λj=>au 0x6e3125 ?_);refine zp (.build [(_,_)] I<|NX _ _ _ _ _) (zB [(_,_)] I (KH _ _ _ _ _ _ _) λk=>?_);clear h;intro a w h;replace h:=h.shareAll e (cellsOf Zy ([(⟨0,0,s⟩:Tm)])) I;refine Zc<|Xd h (vs:=[_]) I call168 (Ar [(⟨0,0,s⟩:Tm)] _ _ b (λt ht=>by rw[da] at ht;subst ht;exact cX _) (λt ht=>by rw[da] at ht;subst ht;exact hx) (by rw[iA];omega) ss) ss dd ?_;clear h;rintro v6 i a w ⟨d,g,rfl,c⟩ h;refine gL h<|au 0x625 ?_;clear h;intro a w h;refine HV h (Zd h I<|.tmp I) ⟨d,g,rfl,c⟩<|fv _ _
theorem Ob(hx:Zr s<=b)(e:b<=400000000): Ctr prog 165 [Qa s] [] (λv Ψ => ∃a c,v=.slice a (norm [(⟨0,0,s⟩:Tm)]).length c/\Ψ=[Row a (cellsOf Zy (norm [(⟨0,0,s⟩:Tm)]))]):=GK (sW s b hx e)
theorem C_X:Ctr prog 248 [] [] (λv Ψ => ∃b,v=.slice b 1 1/\Ψ=[Row b (cellsOf Zy [(⟨1,0,((1:Int):Rat)⟩:Tm)])]):=by
 refine fnI func248 I ntmps248 λS w0 d=>au 0xf1f312531 ?_;intro a w h;have c:=Qe (1) oo oo;refine gL h<|zp (.build [(_,_),(_,_)] I<|HE _ _ _ _ _ _) (zB [(_,_)] I (GO _ _ _ _ _ _ _) λe=>?_);clear h;intro a w h;replace h:=h.shareAll d (cellsOf Zy ([(⟨1,0,((1:Int):Rat)⟩:Tm)])) I;refine gL h<|au 0x625 ?_;clear h;intro a w h;exact Qj h (Zd h I (.tmp I)) ⟨_,rfl,rfl⟩ ss
theorem C_Y:Ctr prog 249 [] [] (λv Ψ => ∃b,v=.slice b 1 1/\Ψ=[Row b (cellsOf Zy [(⟨0,1,((1:Int):Rat)⟩:Tm)])]):=by
 refine fnI func249 I ntmps249 λS w0 d=>au 0xf1f312531 ?_;intro a w h;have c:=Qe (1) oo oo;refine gL h<|zp (.build [(_,_),(_,_)] I<|HD _ _ _ _ _ _) (zB [(_,_)] I (GO _ _ _ _ _ _ _) λe=>?_);clear h;intro a w h;replace h:=h.shareAll d (cellsOf Zy ([(⟨0,1,((1:Int):Rat)⟩:Tm)])) I;refine gL h<|au 0x625 ?_;clear h;intro a w h;exact Qj h (Zd h I (.tmp I)) ⟨_,rfl,rfl⟩ ss
theorem fo(c K e g T:Nat)(C:List Value)(Y:List Zs)(G:Tm->Tm)(hq:Pq K e p)(hd:K<=12)(Z:e<=400000000)(W:∀args w,(callFunc T args).run prog w=.ok (.enter T args) w)(hf:∀t∈norm p,Xi prog T (Zy t::C) Y (Zy (G t)))(f:∀t∈norm p,(G t).i+(G t).j<=12)(O:∀t∈norm p,Zr (G t).c<=g)(a7:g<=400000000):
  CtrO prog 169 [.slice l p.length c,.func (.func T) #[] C.toArray] (Row l (cellsOf Zy p)::Y) (λv o => ∃F V,v=.slice F (norm ((norm p).map G)).length V/\GrowO 7 155 v (norm ((norm p).map G)).length (cellsOf Zy (norm ((norm p).map G))) o):=by
 have H:(norm p).length<=91:=bp hq.nlen (bp (BL (show K+1<=13 by omega)) dd);have A:DL 12 ((norm p).map G):=λu hu=>by obtain ⟨t,ht,rfl⟩:=List.mem_map.1 hu;exact f t ht
 have d:KL g ((norm p).map G):=λu hu=>by obtain ⟨t,ht,rfl⟩:=List.mem_map.1 hu;exact O t ht
 have J:((norm p).map G).length<=100000:=by rw[az];omega
 have P:((norm p).map G).length*(g+1)<=50000000000:=bp (ka (show((norm p).map G).length<=91 by rw[az];exact H) (show g+1<=400000001 by omega)) dd;refine fn_introO func169 I ntmps169 nb ?_;intro S w0 a hS h;refine gC h<|au 0x431125312531 ?_;refine zf [_] I call68 (As p _ _ K e hq hd Z) ?_;rintro v9 a8 ⟨n,X,rfl,rfl⟩;refine au 0x82472f ?_;intro a w h;refine Jl (fun(i:Nat) a w=>i<=(norm p).length /\ ∃(r:Option Addr) (c1:Nat) (D:List (Nat×Obj)),(GrowO 7 155 (.slice r (((norm p).take i).map G).length c1) (((norm p).take i).map G).length (cellsOf Zy (((norm p).take i).map G)) D)/\St 24 S w0 [(1,.func (.func T) #[] C.toArray),(4,.slice none 0 0),(5,(.slice r (((norm p).take i).map G).length c1)),(9,.slice n ((norm p).length) X),(10,nI ((norm p).length)),(11,nI i)] (D++[]) (Row n (cellsOf Zy<|norm p)::Row l (cellsOf Zy p)::Y) a w) (λi=>(norm p).length-i) 0 (⟨cX _,none,0,[],GrowO.nil _ _,by exact(h).sub sA⟩) ?_;clear h;rintro i a w ⟨U,r,c1,D,f,h⟩;refine gC h<|au 0x12d31 ?_;intro a w h;refine Zb h I (λb0=>?_) (λb0=>?_)
 ·have b:i<(norm p).length:=dT b0;obtain ⟨B,N,rfl⟩:=h.row_addr (ad:=n) (M:=cellsOf Zy (norm p)) mm (nE 7);have q:((norm p).take (i+1)).map G=((norm p).take i).map G++[G ((norm p).getD i T0)]:=by rw[take_snoc _ b,dv];rfl
  have a1:(((norm p).take i).map G).length<=91:=by rw[az,db];omega
  refine gC h<|au 0x25f31817 ?_;refine zD I mm (cells_lt (k:=7) dd (λ_=>rfl) (norm p) i oo) isAgg155 sizeOf155 (Zh (k:=7) (λ_=>rfl) ((λ_=>rfl)) (norm p) T0 i oo) (.inl I) ?_;refine zz EQ λb7=>stW I I Ky ?_;refine au 0x4432 ?_;refine ldZ CM ?_;clear h;intro a w h;refine Zc<|Xs h (fs:=[]) (cs:=C) I (vs:=[_]) I W (hf _<|getD_mem (norm p) (d:=T0) b) (by intro R hR;simp[hR]) dd ?_;clear h;intro a w h;refine gL h (zB [(_,_)] I (KH _ _ _ _ _ _ _) λa6=>?_);refine apC Zy (((norm p).take i).map G) [G ((norm p).getD i T0)] f ?_;intro z Q E b1 a w h;refine gL h<|za I<|zn<|zr<|zp (.pN (i+1)<|.add I I)<|au 0x24 ?_;clear h;intro a w h;rw[<-q] at h b1;exact⟨i+1,⟨oo,z,Q,E,b1,by exact tO h⟩,oo⟩
 have s:(norm p).length=i:=dF b0;subst s;rw[w9] at h f;replace h:=St.shareO' h hS f;refine gC h<|au 0x4310e ?_;clear h;intro a w h;refine Zc<|Xd h (vs:=[_]) I call168 (Ar ((norm p).map G) _ _ g A d P J) ss dd ?_;clear h;rintro v23 m a w ⟨x,L,rfl,y⟩ h;refine gL h<|au 0x625 ?_;clear h;intro a w h;refine HV h (Zd h I<|.tmp I) ⟨x,L,rfl,y⟩<|fv _ _
theorem PY: RN (Instr.build 155 [(0,.int .i64 r),(1,.int .i64 X),(2,.agg #[x,y,z,A,h])].toArray) (.agg #[.int .i64 r,.int .i64 X,x,y,z,A,h]):=λw=>by simp[go_sem]
theorem lQ(ht:Zr t.c<=10000000000)(hx:Zr s<=10000000000): Xi prog 170 [Zy t,.pointer (some ⟨b,K,none⟩)] [Row (some ⟨b,K,none⟩) (Value.cells (Qa s)).toList] (Zy ⟨t.i,t.j,s*t.c⟩):=by
 refine fnI func170 I ntmps170 λS w0 g=>zS (zx I λf=>zz EQ λe=>zn<|zs<|yE [0,1,2,3,4,5,6,7,8,9]<|au 0xa5f85f ?_);refine au 0x24fd3f ?_;refine Zf (b:=b) (off:=K) (j:=0) (M:=(Value.cells<|Qa s).toList) (v:=Qa<|s) I kk I mm (gM _) isAgg47 sizeOf47 I (.inl I) dd ?_;refine au 0x66f33f ?_;refine au 0xb2f ?_;have d:=Qh (s) ((t).c);refine au 0xb9f ?_;refine stV I I I Ky ?_;refine yn<|zt ?_;intro a w h;refine Xh h (Zd h I<|rC CM) ?_;rfl
theorem fF(c K e:Nat)(hq:Pq K e p)(hd:K<=12)(r:e<=400000000)(x:Rat)(g:Nat)(hx:Zr x<=g)(hs:g+e<=400000000): CtrO prog 90 [.slice l p.length c,Qa x] [Row l (cellsOf Zy p)] (λv o => ∃f q,v=.slice f (norm (Qc x p)).length q/\GrowO 7 155 v (norm (Qc x p)).length (cellsOf Zy (norm (Qc x p))) o):=by
 refine fn_introO func90 I ntmps90 nb ?_;intro S w0 a m h;refine gC h<|zS (zx I λz=>?_);clear h;intro a w h;replace h:=h.shareAll m ((Value.cells (Qa (x))).toList) I;refine gL h<|au 0x56f43125 ?_;clear h;intro a w h;refine Zc<|Xd h (vs:=[_,_]) I call169 (fo p _ _ K e (g+e) 170 [.pointer (some ⟨z,0,none⟩)] [Row (some ⟨z,0,none⟩) (Value.cells<|Qa x).toList] (λt=>⟨t.i,t.j,x*t.c⟩) hq hd r call170 (λt ht=>lQ t x z 0 (by have:=hq.nsz t ht;omega) oo) (λt ht=>by have:=(Jv hq.deg) t ht;simp only;omega) (λt ht=>by have:=hq.nsz t ht;have:=Qh x t.c;simp only;omega) hs) ss dd ?_;clear h;rintro u s a w ⟨k,n,rfl,b⟩ h;refine gL h<|au 0x625 ?_;clear h;intro a w h;have y:norm ((norm p).map (λt=>(⟨t.i,t.j,x*t.c⟩:Tm)))=norm (Qc x p):=Vy ((Eqv.nrm p).scale x);rw[y] at h b;refine HV h (Zd h I<|.tmp I) ⟨k,n,rfl,b⟩<|fv _ _
theorem Ab(hq:Pq K e p)(hd:K<=12)(f:e<=400000000)(x:Rat)(g:Nat)(hx:Zr x<=g)(hs:g+e<=400000000): Ctr prog 90 [.slice l p.length b,Qa x] [Row l (cellsOf Zy p)] (λv Ψ => ∃a h,v=.slice a (norm (Qc x p)).length h/\Ψ=[Row a (cellsOf Zy (norm (Qc x p)))]):=GK (fF p l b K e hq hd f x g hx hs)
theorem ey: (Go.builtin .max #[3,3] a1 a6 #[.int .i64 0,.int .i64 ((b:Int)-1)]).run prog w=.ok (.value (.int .i64 ((b-1:Nat):Int))) w:=by
 simp[go_sem]<;>(try rw[wT])<;>(try split)<;>(try split)<;>(try omega)
theorem C_Dx1(ht:Zr t.c<=10000000000)(k:t.i<=1000)(hj:t.j<=1000): Jk prog 264 [Zy t] (Zy ⟨t.i-1,t.j,t.c*((t.i:Int):Rat)⟩):=by
 refine fnI func264 I ntmps264 λS w0 f=>zS (zx I λe=>zz EQ λg=>zn<|zs<|yE [0,1,2,3,4,5,6,7,8,9,10,11,12,13]<|au 0xa5f85f ?_);refine yp I (.sub I I)<|yp I (.builtin [_,_] I (λw ty cs=>ey _ w ty cs))<|au 0x24fd3f ?_;refine au 0x66f33f ?_;refine au 0xa5f85f ?_;refine au 0xe9f ?_;have d:=Qe ((((t).i:Nat):Int)) oo oo;refine au 0xb2f ?_;have b:=Qh ((t).c) ((((((t).i:Nat):Int):Int):Rat));refine au 0xb9f ?_;refine stV I I I Ky ?_;refine yn<|zt ?_;intro a w h;refine Xh h (Zd h I<|rC CM) ?_;rfl
theorem C_Dx(c K e:Nat)(hq:Pq K e p)(hd:K<=12)(g:e<=390000000): CtrO prog 184 [.slice l p.length c] [Row l (cellsOf Zy p)] (λv o => ∃f n,v=.slice f (norm (dxL p)).length n/\GrowO 7 155 v (norm (dxL p)).length (cellsOf Zy (norm (dxL p))) o):=by
 have m:=g;replace g:e<=400000000:=oo;refine fn_introO func184 I ntmps184 nb ?_;intro S w0 a r h;refine gC h<|au 0x4312531 ?_;clear h;intro a w h;refine Zc<|Xd h (vs:=[_,_]) I call169 (fo p _ _ K e (e+2) 264 [] [] (λt=>⟨t.i-1,t.j,t.c*((t.i:Int):Rat)⟩) hq hd g call264 (λt ht=>J3 (C_Dx1 t (by have:=hq.nsz t ht;omega) (by have:=(Jv hq.deg) t ht;omega) (by have:=(Jv hq.deg) t ht;omega)) _) (λt ht=>by have:=(Jv hq.deg) t ht;simp only;omega) (λt ht=>by have:=hq.nsz t ht;have s:=(Jv hq.deg) t ht;have:=Qh t.c ((t.i:Int):Rat);have:=Qe (t.i:Int) oo oo;simp only;omega) oo) ss dd ?_;clear h;rintro v4 x a w ⟨k,q,rfl,b⟩ h;refine gL h<|au 0x625 ?_;clear h;intro a w h;have u:norm ((norm p).map (λt=>(⟨t.i-1,t.j,t.c*((t.i:Int):Rat)⟩:Tm)))=norm (dxL p):=Vy ((Eqv.nrm p).dx);rw[u] at h b;refine HV h (Zd h I<|.tmp I) ⟨k,q,rfl,b⟩<|fv _ _
theorem C_DxF(hq:Pq K e p)(hd:K<=12)(f:e<=390000000): Ctr prog 184 [.slice l p.length b] [Row l (cellsOf Zy p)] (λv Ψ => ∃a g,v=.slice a (norm (dxL p)).length g/\Ψ=[Row a (cellsOf Zy (norm (dxL p)))]):=GK (C_Dx p l b K e hq hd f)
theorem C_Dy1(ht:Zr t.c<=10000000000)(k:t.i<=1000)(hj:t.j<=1000): Jk prog 265 [Zy t] (Zy ⟨t.i,t.j-1,t.c*((t.j:Int):Rat)⟩):=by
 refine fnI func265 I ntmps265 λS w0 f=>zS (zx I λe=>zz EQ λg=>zn<|zs<|yE [0,1,2,3,4,5,6,7,8,9,10,11,12,13]<|au 0xa5f85f ?_);refine au 0x24fd3f ?_;refine yp I (.sub I I)<|yp I (.builtin [_,_] I (λw ty cs=>ey _ w ty cs))<|au 0x66f33f ?_;refine au 0x24fd3f ?_;refine au 0xe9f ?_;have d:=Qe ((((t).j:Nat):Int)) oo oo;refine au 0xb2f ?_;have b:=Qh ((t).c) ((((((t).j:Nat):Int):Int):Rat));refine au 0xb9f ?_;refine stV I I I Ky ?_;refine yn<|zt ?_;intro a w h;refine Xh h (Zd h I<|rC CM) ?_;rfl
theorem C_Dy(c K e:Nat)(hq:Pq K e p)(hd:K<=12)(g:e<=390000000): CtrO prog 185 [.slice l p.length c] [Row l (cellsOf Zy p)] (λv o => ∃f n,v=.slice f (norm (dyL p)).length n/\GrowO 7 155 v (norm (dyL p)).length (cellsOf Zy (norm (dyL p))) o):=by
 have m:=g;replace g:e<=400000000:=oo;refine fn_introO func185 I ntmps185 nb ?_;intro S w0 a r h;refine gC h<|au 0x4312531 ?_;clear h;intro a w h;refine Zc<|Xd h (vs:=[_,_]) I call169 (fo p _ _ K e (e+2) 265 [] [] (λt=>⟨t.i,t.j-1,t.c*((t.j:Int):Rat)⟩) hq hd g call265 (λt ht=>J3 (C_Dy1 t (by have:=hq.nsz t ht;omega) (by have:=(Jv hq.deg) t ht;omega) (by have:=(Jv hq.deg) t ht;omega)) _) (λt ht=>by have:=(Jv hq.deg) t ht;simp only;omega) (λt ht=>by have:=hq.nsz t ht;have s:=(Jv hq.deg) t ht;have:=Qh t.c ((t.j:Int):Rat);have:=Qe (t.j:Int) oo oo;simp only;omega) oo) ss dd ?_;clear h;rintro v4 x a w ⟨k,q,rfl,b⟩ h;refine gL h<|au 0x625 ?_;clear h;intro a w h;have u:norm ((norm p).map (λt=>(⟨t.i,t.j-1,t.c*((t.j:Int):Rat)⟩:Tm)))=norm (dyL p):=Vy ((Eqv.nrm p).dy);rw[u] at h b;refine HV h (Zd h I<|.tmp I) ⟨k,q,rfl,b⟩<|fv _ _
theorem C_DyF(hq:Pq K e p)(hd:K<=12)(f:e<=390000000): Ctr prog 185 [.slice l p.length b] [Row l (cellsOf Zy p)] (λv Ψ => ∃a g,v=.slice a (norm (dyL p)).length g/\Ψ=[Row a (cellsOf Zy (norm (dyL p)))]):=GK (C_Dy p l b K e hq hd f)
theorem C_Neg(hq:Pq K e p)(hd:K<=12)(k:e<=400000000)(hs:2+e<=400000000): CtrO prog 183 [.slice l p.length b] [Row l (cellsOf Zy p)] (λv o => ∃n j,v=.slice n (norm (Qc ((-1:Int):Rat) p)).length j/\GrowO 7 155 v (norm (Qc ((-1:Int):Rat) p)).length (cellsOf Zy (norm (Qc ((-1:Int):Rat) p))) o):=by
 refine fn_introO func183 I ntmps183 nb ?_;intro S w0 a m h;refine gC h<|au 0xf1f4312531 ?_;clear h;intro a w h;have i:=Qe ((-1)) oo oo;refine Zc<|Xd h (vs:=[_,_]) I call90 (fF p _ _ K e hq hd k ((-1:Int):Rat) 2 (Qe (-1) dd dd) hs) ss dd ?_;clear h;rintro v5 g a w ⟨f,r,rfl,q⟩ h;refine gL h<|au 0x625 ?_;clear h;intro a w h;refine HV h (Zd h I<|.tmp I) ⟨f,r,rfl,q⟩<|fv _ _
theorem C_NegF(hq:Pq K e p)(hd:K<=12)(f:e<=400000000)(hs:2+e<=400000000): Ctr prog 183 [.slice l p.length b] [Row l (cellsOf Zy p)] (λv Ψ => ∃a g,v=.slice a (norm (Qc ((-1:Int):Rat) p)).length g/\Ψ=[Row a (cellsOf Zy (norm (Qc ((-1:Int):Rat) p)))]):=GK (C_Neg p l b K e hq hd f hs)
theorem flatT:∀l:List Tm,(cellsOf Zy l).all flat=true
 | []=>rfl
 | t::l=>by
  have h:=flatT l;rw[show t::l=[t]++l from rfl,Qp,BA,u4,h];rfl
theorem Pq.n91(h:Pq n o a)(hd:n<=12): (norm a).length<=91:=bp h.nlen (bp (BL (show n+1<=13 by omega)) dd)
theorem DL_app(ha:DL n a)(f:DL o u)(h1:n<=12)(e:o<=12): DL 12 (norm a++norm u):=KU (Jv (ha.mono h1)) (Jv (f.mono e))
theorem KL_app(ha:KL n a)(f:KL o u)(h1:n<=a7)(e:o<=a7): KL a7 (a++u):=λt ht=>(List.mem_append.1 ht).elim (λh=>bp (ha t h) h1) (λh=>bp (f t h) e)
theorem nC(ha:Pq e T p)(m:Pq g f q)(Y:e<=12)(d:g<=12)(N:T<=200000000)(G:f<=200000000): CtrO prog 89 [.slice l p.length b,.slice U q.length K] [Row l (cellsOf Zy p),Row U (cellsOf Zy q)] (λv o => ∃t C,v=.slice t (norm (p++q)).length C/\GrowO 7 155 v (norm (p++q)).length (cellsOf Zy (norm (p++q))) o):=by
 have B:=ha.n91 Y;have J:=m.n91 d;refine fn_introO func89 I ntmps89 nb ?_;intro S w0 a A h;refine gC h<|au 0x4312531 ?_;clear h;intro a w h;refine Zc<|Xd h (vs:=[_]) I call68 (KZ p _ _ e T ha Y oo) ss dd ?_;clear h;rintro v6 y a w ⟨V,O,rfl,r⟩ h;refine gL h<|zm I ?_;clear h;intro a w h;refine Zc<|Xd h (vs:=[_]) I call68 (KZ q _ _ g f m d oo) ss dd ?_;clear h;rintro P D a w ⟨H,L,rfl,n⟩ h;replace h:=St.shareO' h A n;refine Zc<|V1 (o:=y) h I r I mm runUnderlying50 runUnderlying50 typeInfo155 sizeOf155 EQ I dd dd (cellsOf_length Xt _) (flatT _) (by show 72*_<=281474976710656;omega) dd ?_;clear h;intro v9 Q a w c h;obtain ⟨E,M,rfl⟩:=c.is;rw[<-bd, <-Qp] at c;rw[<-bd] at h;replace h:=St.shareO' h A c;refine Zc<|Xd h (vs:=[_]) I call168 (Ar (norm p++norm q) _ _ (max T f) (DL_app ha.deg m.deg Y d) (KL_app ha.nsz m.nsz (wc _ _)<|vU _ _) (by rw[bd];exact bp (ka (show _<=182 by omega) (show max T f+1<=200000001 by omega)) dd) (by rw[bd];omega)) ss dd ?_;rintro v10 z a w ⟨Z,u,rfl,W⟩ h;refine gL h<|au 0x625 ?_;clear h;intro a w h;have X:norm (norm p++norm q)=norm (p++q):=Vy ((Eqv.nrm p).append (Eqv.nrm q));rw[X] at h W;refine HV h (Zd h I<|.tmp I) ⟨Z,u,rfl,W⟩<|fv _ _
theorem C9(ha:Pq e T p)(n:Pq g f q)(d:e<=12)(i:g<=12)(m:T<=200000000)(h:f<=200000000): Ctr prog 89 [.slice l p.length b,.slice U q.length K] [Row l (cellsOf Zy p),Row U (cellsOf Zy q)] (λv Ψ => ∃c o,v=.slice c (norm (p++q)).length o/\Ψ=[Row c (cellsOf Zy (norm (p++q)))]):=GK (nC p q l U b K e g T f ha n d i m h)
theorem C_pSub(ha:Pq e T p)(r:Pq g f q)(n:e<=12)(G:g<=12)(C:T<=200000000)(y:f<=190000000): CtrO prog 98 [.slice l p.length b,.slice U q.length K] [Row l (cellsOf Zy p),Row U (cellsOf Zy q)] (λv o => ∃J s,v=.slice J (norm (p++Qc ((-1:Int):Rat) q)).length s/\GrowO 7 155 v (norm (p++Qc ((-1:Int):Rat) q)).length (cellsOf Zy (norm (p++Qc ((-1:Int):Rat) q))) o):=by
 refine fn_introO func98 I ntmps98 nb ?_;intro S w0 a E h;refine gC h<|au 0x44312531 ?_;refine zf [_] I call183 (C_NegF q _ _ g f r G oo oo) ?_;clear h;rintro D z ⟨A,B,rfl,rfl⟩ a w h;refine Zc<|Xd h (vs:=[_,_]) I call89 (nC p (norm<|Qc ((-1:Int):Rat) q) _ _ _ _ e g T (2+f+1) ha ((r.scale (Qe (-1) dd dd) G)) n G oo oo) ss dd ?_;clear h;rintro F u a w ⟨m,t,rfl,d⟩ h;refine gL h<|au 0x625 ?_;clear h;intro a w h;have H:norm (p++norm (Qc ((-1:Int):Rat) q))=norm (p++Qc ((-1:Int):Rat) q):=Vy (Eqv.rfl'.append (Eqv.nrm _));rw[H] at h d;refine HV h (Zd h I<|.tmp I) ⟨m,t,rfl,d⟩<|fv _ _
theorem KX(ha:Pq e T p)(n:Pq g f q)(d:e<=12)(i:g<=12)(m:T<=200000000)(h:f<=190000000): Ctr prog 98 [.slice l p.length b,.slice U q.length K] [Row l (cellsOf Zy p),Row U (cellsOf Zy q)] (λv Ψ => ∃c o,v=.slice c (norm (p++Qc ((-1:Int):Rat) q)).length o/\Ψ=[Row c (cellsOf Zy (norm (p++Qc ((-1:Int):Rat) q)))]):=GK (C_pSub p q l U b K e g T f ha n d i m h)
def gd(p:List Tm): Int:=if p.length=0 then -1 else (((p.getD (p.length-1) T0).i+(p.getD (p.length-1) T0).j:Nat):Int)
theorem JZ(h:DL n a): gd a<=(n:Int):=by
 unfold gd;split
 ·omega
 have:=h _ (getD_mem a (d:=T0) (show a.length-1<a.length by omega));omega
theorem Sp: -1<=gd p:=by unfold gd;split<;>omega
theorem GW(hq:Pq K e p)(hd:K<=12)(q:e<=400000000): Xi prog 159 [.slice l p.length b] [Row l (cellsOf Zy p)] (.int .i64 (gd (norm p))):=by
 have n:=hq.n91 hd;refine fnI func159 I ntmps159 λS w0 s=>au 0x4312531 ?_;refine zf [_] I call68 (As p _ _ K e hq hd q) ?_;rintro v6 o ⟨z,t,rfl,rfl⟩;refine au 0x2ae72f431125 ?_;intro a w h;refine Zb h I (λx=>?_) (λx=>?_)
 ·have g:(norm p).length=0:=by have:=eq_of_beq x;omega
  refine gC h<|au 0x62531 ?_;refine rtK ?_;unfold gd;rw[if_pos g]
 have g:(norm p).length≠0:=λy=>by rw[y] at x;exact absurd x dd
 obtain ⟨m,f,rfl⟩:=h.row_addr (ad:=z) (M:=cellsOf Zy (norm p)) mm (by intro y;have:=congrArg List.length y;rw[cellsOf_length Xt] at this;simp only[oT,Nat.mul_eq_zero] at this;omega);have r:=(Jv hq.deg) _ (getD_mem (norm p) (d:=T0) (show(norm p).length-1<(norm p).length by omega));refine gC h<|au 0x72f44317 ?_;refine zp (.pO (((norm p).length)-1)<|.sub I I)<|au 0x25f ?_;refine zD I mm (cells_lt (k:=7) dd (λ_=>rfl) (norm p) (((norm p).length)-1) oo) isAgg155 sizeOf155 (Zh (k:=7) (λ_=>rfl) ((λ_=>rfl)) (norm p) T0 (((norm p).length)-1) oo) (.inl I) ?_;refine zz EQ λu=>stW I I Ky ?_;refine au 0xdafe7fa7f312 ?_;refine ldZ HO ?_;refine zp (.pN ((((norm p).getD (((norm p).length)-1) T0).i)+(((norm p).getD (((norm p).length)-1) T0).j))<|.add I I)<|za I<|zn<|zt<|rtK ?_;unfold gd;rw[if_neg g]
theorem GP(d:Value)(w:World): (Instr.buildSlice 49 3 [(0,.agg #[x,y,z,A,h,E,F]),(1,.agg #[a8,b0,b1,b8,b9,c3,c4]),(2,.agg #[c5,c6,c7,c8,c9,e0,d])].toArray).run prog w=.ok (.slice (some ⟨w.heap.size,0,none⟩) 3 3) (w.alloc (.cells #[x,y,z,A,h,E,F,a8,b0,b1,b8,b9,c3,c4,c5,c6,c7,c8,c9,e0,d] 155 (0,0))):=by
 simp[go_sem]
abbrev mulS(s t:Tm): Tm:=⟨s.i+t.i,s.j+t.j,s.c*t.c⟩
theorem Z4(h:b<p.length): Vl (p.take b) q++q.map (mulS (p.getD b T0))=Vl (p.take (b+1)) q:=by
 rw[take_snoc p h];unfold Vl;rw[w4];simp
theorem Z3(h:g<q.length): (Vl (p.take e) q++(q.take g).map (mulS b2))++[mulS b2 (q.getD g T0)]=Vl (p.take e) q++(q.take (g+1)).map (mulS b2):=by
 rw[take_snoc q h,dv,cv];rfl
theorem iV(ha:a.length<=91)(c:u.length<=91): (Vl (a.take b) u++(u.take K).map (mulS b2)).length<=10000:=by
 rw[bd,TL,az];have h1:(a.take b).length<=91:=bp (by rw[db];omega) ha;have d:(u.take K).length<=91:=bp (by rw[db];omega) c;have:=ka h1 c;omega
theorem LC(ha:a.length<=91)(c:u.length<=91): (Vl a u).length<=8281:=by rw[TL];exact ka ha c
theorem iU(ha:a.length<=91)(c:u.length<=91)(d:n<=4000000): (Vl a u).length*(n+1)<=50000000000 :=
 bp (ka (LC ha c) (show n+1<=4000001 by omega)) dd
theorem C_pMul(ha:Pq e T p)(s:Pq g f q)(hd:e+g<=12)(hK:T<=2000000)(c7:f<=2000000): CtrO prog 166 [.slice l p.length b,.slice U q.length K] [Row l (cellsOf Zy p),Row U (cellsOf Zy q)] (λv o => ∃V c',v=.tuple #[.slice V (norm (Vl p q)).length c',.int .i64 0]/\GrowO 7 155 (.slice V (norm (Vl p q)).length c') (norm (Vl p q)).length (cellsOf Zy (norm (Vl p q))) o):=by
 have y:=ha.n91 (show e<=12 by omega);have F:=s.n91 (show g<=12 by omega);have c3:gd (norm (norm p))<=(e:Int):=JZ (Jv (Jv ha.deg));have c6:gd (norm (norm q))<=(g:Int):=JZ (Jv (Jv s.deg));have c4:=Sp (norm (norm p));have e3:=Sp (norm (norm q));refine fn_introO func166 I ntmps166 nb ?_;intro S w0 a hS h;refine gC h<|au 0x43125531 ?_;refine zf [_] I call68 (As p _ _ e T ha oo oo) ?_;rintro e0 b7 ⟨P,A,rfl,rfl⟩;refine zm I<|zf [_] I call68 (As q _ _ g f s oo oo) ?_;rintro c9 b9 ⟨z,H,rfl,rfl⟩;refine au 0x255 ?_;intro a w h;refine Yv (λa w => ∃(P:Option Addr) (A:Nat) (z:Option Addr) (H:Nat),St 68 S w0 [(6,.slice P (norm p).length A),(7,.slice z (norm q).length H)] [] [Row z (cellsOf Zy<|norm q),Row P (cellsOf Zy<|norm p),Row l (cellsOf Zy p),Row U (cellsOf Zy q)] a w) ?_ ?_
 ·refine gC h<|au 0xc0f72f431 ?_;clear h;intro a w h;refine Zi h (λO h=>?_) (λO h=>?_);focus
   refine gL h<|zm I<|zq 20 I I (.move I)<|zq 20 I I (.builtin [_] I<|BW _ _ _)<|zq 20 I I (.gtr I I) ?_;clear h;intro a w h;refine Zi h (λQ h=>?_) (λQ h=>?_);focus
    refine gL h<|au 0x43e ?_;refine zq 25 I I (.move I) ?_;clear h;intro a w h;refine Zq 25 h I I<|Qu h (vs:=[_]) I call159 (GW (norm p) _ _ e T (ha.nrm oo) oo oo) ss dd ?_;clear h;intro a w h;refine gL h<|zq 25 I I (.move I) ?_;clear h;intro a w h;refine Zq 25 h I I<|Qu h (vs:=[_]) I call159 (GW (norm q) _ _ g f (s.nrm oo) oo oo) ss dd ?_;clear h;intro a w h;refine gL h<|zq 25 I I (.add I I)<|zq 25 I I (.gtr I I) (bbF (λx=>(by exfalso;have:=of_decide_eq_true x;omega)) λx=>au 0x23e ?_);clear h;intro a w h
   rotate_left;focus
    refine gL h<|au 0x22e73f73f73f73f73f73f43e ?_;clear h;intro a w h
  rotate_left 2;focus
   refine gL h<|zm I<|zo 20 I I I<|zo 20 I I I<|zo 20 I I I<|au 0x22e73f73f73f73f73f73f42e ?_;clear h;intro a w h
  all_goals
   refine cW<|Zj h I<|wp_skip ?_;exact⟨_,_,_,_,tO h⟩
 clear h;rintro a w ⟨P,A,z,H,h⟩;refine gC h<|au 0x82472f43112531 ?_;clear h;intro a w h;refine lpG h [7,33,34] pkL (λY Z (i:Nat) a w=>i<=(norm p).length /\ ∃(r:Option Addr) (c1:Nat) (o1:List (Nat×Obj)),(GrowO 7 155 (.slice r (Vl ((norm p).take i)<|norm q).length c1) (Vl ((norm p).take i)<|norm q).length (cellsOf Zy<|Vl ((norm p).take i)<|norm q) o1)/\St 68 S w0 ((8,(.slice r (Vl ((norm p).take i)<|norm q).length c1))::(35,nI i)::Y) (o1++[]) Z a w) (λi=>(norm p).length-i) 0 (⟨cX _,none,0,[],GrowO.nil _ _,by exact(h).sub sA⟩) ?_;clear h;rintro i a w ⟨b4,r,c1,o1,G,h⟩;refine gC h<|au 0x12d31 ?_;intro a w h;refine Zb h I (λe4=>?_) (λe4=>?_)
 ·have e5:i<(norm p).length:=dT e4;obtain ⟨X,W,rfl⟩:=h.row_addr (ad:=P) (M:=cellsOf Zy (norm p)) mm (nE 7);have L:=getD_mem (norm p) (d:=T0) e5;have hsA:=ha.nsz _ L;have b3:=(Jv ha.deg) _ L;refine gC h<|au 0x25f31817 ?_;refine zD I mm (cells_lt (k:=7) dd (λ_=>rfl) (norm p) i oo) isAgg155 sizeOf155 (Zh (k:=7) (λ_=>rfl) ((λ_=>rfl)) (norm p) T0 i oo) (.inl I) ?_;refine zz EQ λa7=>stW I I Ky ?_;refine au 0x82472f4312 ?_;clear h;intro a w h;refine lpG h [7,10,33,34,35,39,40] pkL (λY Z (j:Nat) a w=>j<=(norm q).length /\ ∃(ad2:Option Addr) (c2:Nat) (o2:List (Nat×Obj)),(GrowO 7 155 (.slice ad2 (Vl ((norm p).take i) (norm q)++((norm q).take j).map (mulS ((norm p).getD i T0))).length c2) (Vl ((norm p).take i) (norm q)++((norm q).take j).map (mulS ((norm p).getD i T0))).length (cellsOf Zy (Vl ((norm p).take i) (norm q)++((norm q).take j).map (mulS ((norm p).getD i T0)))) o2)/\St 68 S w0 ((8,(.slice ad2 (Vl ((norm p).take i) (norm q)++((norm q).take j).map (mulS ((norm p).getD i T0))).length c2))::(41,nI j)::Y) ((a7,bV (Zy ((norm p).getD i T0)) 155)::(o2++[])) Z a w) (λj=>(norm q).length-j) 0 (⟨cX _,r,c1,o1,by rw[ud,la,gD];exact G,by rw[ud,la,gD];exact(h).sub sA⟩) ?_;clear h;rintro j a w ⟨b8,ad2,c2,o2,E,h⟩;refine gC h<|au 0x12d31 ?_;intro a w h;refine Zb h I (λn=>?_) (λn=>?_)
  ·have m:j<(norm q).length:=dT n;obtain ⟨a1,a6,rfl⟩:=h.row_addr (ad:=z) (M:=cellsOf Zy (norm q)) mm (nE 7);have C:=getD_mem (norm q) (d:=T0) m;have c8:=s.nsz _ C;have b6:=(Jv s.deg) _ C;have c5:=iV i j ((norm p).getD i T0) y F;refine gC h<|au 0x25f31817 ?_;refine zD I mm (cells_lt (k:=7) dd (λ_=>rfl) (norm q) j oo) isAgg155 sizeOf155 (Zh (k:=7) (λ_=>rfl) ((λ_=>rfl)) (norm q) T0 j oo) (.inl I) ?_;refine zz EQ λe2=>stW I I Ky ?_;refine zn<|yE [0,1,2,3,4,5,6,7,8,9,10,11,12,13,14,15,16,17,18,19]<|au 0xa5f85f9 ?_;clear h;refine au 0xa5f85f ?_;refine yp I (.pN ((((norm p).getD i T0).i)+(((norm q).getD j T0).i))<|.add I I)<|au 0x24fd3f ?_;refine au 0x24fd3f ?_;refine yp I (.pN ((((norm p).getD i T0).j)+(((norm q).getD j T0).j))<|.add I I)<|au 0x66f33f ?_;refine au 0x66f33f ?_;refine au 0xb2f ?_;have b5:=Qh (((norm p).getD i T0).c) (((norm q).getD j T0).c);refine au 0xb9f ?_;refine yB I [(_,_)] I (KH _ _ _ _ _ _ _) λe1=>?_;refine ga Zy (Vl ((norm p).take i) (norm q)++((norm q).take j).map (mulS ((norm p).getD i T0))) [(⟨(((norm p).getD i T0).i)+(((norm q).getD j T0).i),(((norm p).getD i T0).j)+(((norm q).getD j T0).j),(((norm p).getD i T0).c)*(((norm q).getD j T0).c)⟩:Tm)] E ?_;intro R b1 b0 u;refine au 0x3a4e ?_;refine zp (.pN (j+1)<|.add I I)<|au 0x24 ?_;intro a w h;rw[Z3 (norm p) (norm q) ((norm p).getD i T0) i j m] at h u;exact⟨j+1,⟨oo,R,b1,b0,u,by exact tO h⟩,oo⟩
  have D:(norm q).length=j:=dF n;subst D;rw[w9,Z4 (norm p) (norm q) i e5] at h E;refine gC h<|ze<|zr<|zp (.pN (i+1)<|.add I I)<|au 0x24 ?_;clear h;intro a w h;exact⟨i+1,⟨oo,ad2,c2,o2,E,by exact tO h⟩,oo⟩
 have B:(norm p).length=i:=dF e4;subst B;rw[w9] at h G;replace h:=St.shareO' h hS G;refine gC h<|au 0x4310e ?_;clear h;intro a w h;refine Zc<|Xd h (vs:=[_]) I call168 (Ar (Vl (norm p)<|norm q) _ _ (T+f) ((eM (Jv ha.deg)<|Jv s.deg).mono hd) (rO ha.nsz s.nsz) (iU y F oo)<|bp (LC y F) dd) ss dd ?_;clear h;rintro v67 b2 a w ⟨N,a8,rfl,t⟩ h;refine gL h<|au 0x6255 ?_;clear h;intro a w h;have J:norm (Vl (norm p) (norm q))=norm (Vl p q):=Vy ((Eqv.nrm p).mul (Eqv.nrm q));rw[J] at h t;refine HV h (Qd h I (.tmp I)<|.tmp I) ⟨N,a8,rfl,t⟩<|fv _ _
theorem N7(ha:Pq e T p)(o:Pq g f q)(hd:e+g<=12)(k:T<=2000000)(n:f<=2000000): Ctr prog 166 [.slice l p.length b,.slice U q.length K] [Row l (cellsOf Zy p),Row U (cellsOf Zy q)] (λv Ψ => ∃c j,v=.tuple #[.slice c (norm (Vl p q)).length j,.int .i64 0]/\Ψ=[Row c (cellsOf Zy (norm (Vl p q)))]):=dK (C_pMul p q l U b K e g T f ha o hd k n)
theorem pu{g:Int}(h1:-1<=g)(e:g<=(o:Int))(f:n<=12)(hd:n*o<=12): -12<=(n:Int)*g/\(n:Int)*g<=12:=by
 have a:=v8 h1 (show(0:Int)<=n by omega);have b:=v8 e (show(0:Int)<=n by omega);have c:(n:Int)*(o:Int)=((n*o:Nat):Int):=(tD _ _).symm;omega
theorem C_Pow(hq:Pq K e p)(n:Nat)(G:n<=12)(y:K<=12)(hd:n*K<=12)(J:n*e+4<=2000000)(H:e<=2000000): Ctr prog 266 [.slice l p.length b,.int .i64 ((n:Nat):Int)] [Row l (cellsOf Zy p)] (λv Ψ => ∃m C,v=.tuple #[.slice m (norm (AU p n)).length C,.int .i64 0]/\Ψ=[Row m (cellsOf Zy (norm (AU p n)))]):=by
 obtain ⟨D,E⟩:=pu (Sp (norm p)) (JZ (Jv hq.deg)) G hd;refine fnI func266 I ntmps266 λS w0 L=>au 0xd4318125531 ?_;refine bbF (λo=>(by exfalso;have:=of_decide_eq_true o;omega)) λo=>zm I<|zq 10 I I (.move I)<|zq 10 I I (.gtr I I) (bbF (λf=>(by exfalso;have:=of_decide_eq_true f;omega)) λf=>au 0x4431c252e ?_);refine zw [_] I call159 (GW p _ _ K e hq oo oo)<|au 0x25c0f92f ?_;refine kV I (λO=>(by exfalso;have:=of_decide_eq_true O;omega)) λO=>au 0xf1f317 ?_;intro a w h;have z:=Qe (1) oo oo;refine gL h<|zf [_] I call165 (Ob ((1:Int):Rat) 2 (Qe 1 dd dd) oo) ?_;rintro v21 u ⟨B,F,rfl,rfl⟩;refine au 0x824431125 ?_;intro a w h;refine Jl (fun(k:Nat) a w=>k<=n /\ ∃(j:Option Addr) (c1:Nat),St 33 S w0 [(0,.slice l p.length b),(4,.slice none 0 0),(5,.int .i64 0),(6,.slice j ((norm<|AU p k).length) c1),(22,nI n),(23,nI k)] [] [Row j (cellsOf Zy<|norm<|AU p k),Row l (cellsOf Zy p)] a w) (λk=>n-k) 0 (⟨cX _,_,_,by rw[show norm (AU p 0)=norm [(⟨0,0,((1:Int):Rat)⟩:Tm)] from I];exact(h.factsSub (by simp)).sub (subL ⟨rfl,rfl,rfl,rfl,rfl,rfl,trivial⟩)⟩) ?_;clear h;rintro k a w ⟨x,j,c1,h⟩;refine gC h<|au 0x12d31 ?_;intro a w h;refine Zb h I (λN=>?_) (λN=>?_)
 ·have q:k<n:=dT N;have s:=cc K (show k+1<=n by omega);have r:=cc e (show k+1<=n by omega);rw[dk,tt] at s r;refine gC h<|au 0x443817 ?_;refine zf [_,_] I call166 (N7 (norm<|AU p k) p _ _ _ _ (k*K) K (k*e+4) e (hq.pow k oo) hq oo oo oo) ?_;rintro v28 A ⟨Q,t,rfl,rfl⟩;refine au 0x325bb4 ?_;refine zp (.pN (k+1)<|.add I I)<|au 0x24 ?_;clear h;intro a w h;have g:norm (Vl (norm (AU p k)) p)=norm (AU p (k+1)):=Vy ((Eqv.nrm _).mul Eqv.rfl');rw[g] at h;exact⟨k+1,⟨oo,Q,t,by exact tO h⟩,oo⟩
 have i:n=k:=dF N;subst i;refine gC h<|au 0x62554310e ?_;clear h;intro a w h;refine Qj (Ψ:=[Row _ (cellsOf Zy<|norm<|AU p n)]) h (Qd h I (.tmp I)<|.tmp I) ⟨_,_,rfl,rfl⟩ ss
theorem ln_DL: DL 12 (ln s b3 b4):=λt ht=>by
 simp only[ln,cZ,cf,or_false] at ht;rcases ht with rfl|rfl|rfl<;>simp
theorem ln_KL(h1:Zr b5<=n)(d:Zr b6<=n)(e:Zr b7<=n): KL n (ln b5 b6 b7):=λt ht=>by
 simp only[ln,cZ,cf,or_false] at ht;rcases ht with rfl|rfl|rfl<;>assumption
theorem av(h:n<=20000): (ln b5 b6 b7).length*(n+1)<=50000000000:=by show 3*(n+1)<=_;omega
theorem mH: (ln s b3 b4).length<=100000:=by show 3<=100000;omega
theorem MC: norm (AU (norm p) b)=norm (AU p b):=Vy ((Eqv.nrm p).pow b)
theorem pR: norm (Vl (norm p) (norm q))=norm (Vl p q):=Vy ((Eqv.nrm p).mul (Eqv.nrm q))
theorem YN: norm (Qc s (norm p))=norm (Qc s p):=Vy ((Eqv.nrm p).scale s)
theorem rJ: norm (norm p++norm q)=norm (p++q):=Vy ((Eqv.nrm p).append (Eqv.nrm q))
theorem fE(c K e:Nat)(hq:Pq K e p)(n f j2 m b g:Rat)(o:Nat)(hd:K<=12)(z:Zr n<=o)(q:Zr f<=o)(u:Zr j2<=o)(s:Zr m<=o)(t:Zr b<=o)(y:Zr g<=o)(G:o<=20000)(hK:e<=1000000):
  Ctr prog 187 [.slice l p.length c,Qa n,Qa f,Qa j2,Qa m,Qa b,Qa g] [Row l (cellsOf Zy p)] (λv Ψ => ∃T c',v=.slice T (norm (shL p n f j2 m b g)).length c'/\Ψ=[Row T (cellsOf Zy (norm (shL p n f j2 m b g)))]):=by
 have h9:(norm p).length<=91:=hq.n91 hd;have b4:KT K e o<=1800000:=by
  have:=cc (3*o+4) hd;unfold KT;omega
 have j1:=cc (3*o+4) hd;refine fnI func187 I ntmps187 λS w0 W=>zS (zx I λb8=>zx I λb9=>zx I λb1=>zx I λa8=>zx I λb5=>zx I λb2=>au 0x6e3125 ?_);refine zp (.build [(_,_),(_,_)] I<|HE _ _ _ _ _ _)<|au 0x6e ?_;refine zp (.build [(_,_),(_,_)] I<|HD _ _ _ _ _ _)<|au 0x6e ?_;refine zp (.build [(_,_)] I<|NX _ _ _ _ _) (zB [(_,_),(_,_),(_,_)] I (GP _ _ _ _ _ _ _ _ _ _ _ _ _ _ _ _ _ _ _ _ _) λh7=>?_);intro a w h;replace h:=h.shareAll W (cellsOf Zy (ln n f j2)) I;refine Zc<|Xd h (vs:=[_]) I call168 (Ar (ln n f j2) _ _ o (ln_DL _ _ _) (ln_KL z q u) (av G)<|mH _ _ _) ss dd ?_;clear h;rintro v33 e0 a w ⟨c3,h6,rfl,Q⟩ h;replace h:=St.shareO' h W Q;refine gL h<|au 0x6e3125 ?_;refine zp (.build [(_,_),(_,_)] I<|HE _ _ _ _ _ _)<|au 0x6e ?_;refine zp (.build [(_,_),(_,_)] I<|HD _ _ _ _ _ _)<|au 0x6e ?_;refine zp (.build [(_,_)] I<|NX _ _ _ _ _) (zB [(_,_),(_,_),(_,_)] I (GP _ _ _ _ _ _ _ _ _ _ _ _ _ _ _ _ _ _ _ _ _) λh4=>?_);clear h;intro a w h;replace h:=h.shareAll W (cellsOf Zy (ln m b g)) I;refine Zc<|Xd h (vs:=[_]) I call168 (Ar (ln m b g) _ _ o (ln_DL _ _ _) (ln_KL s t y) (av G)<|mH _ _ _) ss dd ?_;clear h;rintro v41 e2 a w ⟨c6,e7,rfl,E⟩ h;replace h:=St.shareO' h W E;refine gL h<|au 0x4311253125 ?_;refine zf [_] I call68 (As p _ _ K e hq hd oo) ?_;rintro h2 e4 ⟨L,e8,rfl,rfl⟩;refine au 0x82472f ?_;intro a w h;refine lpG h [14,15,16,43,44] pkL (λY Z (k:Nat) a w=>k<=(norm p).length /\ ∃(D:Option Addr) (c1:Nat),St 77 S w0 ((17,.slice D ((norm<|sbL (ln n f j2) (ln m b g) ((norm p).take k)).length) c1)::(45,nI k)::Y) [(b2,bV (Qa<|g) 47),(b5,bV (Qa<|b) 47),(a8,bV (Qa<|m) 47),(b1,bV (Qa<|j2) 47),(b9,bV (Qa<|f) 47),(b8,bV (Qa<|n) 47)] (Row D (cellsOf Zy<|norm<|sbL (ln n f j2) (ln m b g) ((norm p).take k))::Z) a w) (λk=>(norm p).length-k) 0 (⟨cX _,none,0,by rw[ud,show sbL (ln n f j2) (ln m b g) []=[] from I,MI];replace h:=h.derive (R:=Row none<|cellsOf Zy []) (λX _ a6=>absurd I a6);exact(h.factsSub (by simp)).sub sA⟩) ?_;clear h;rintro k a w ⟨b7,D,c1,h⟩;refine gC h<|au 0x12d31 ?_;intro a w h;refine Zb h I (λx=>?_) (λx=>?_)
 ·have r:k<(norm p).length:=dT x;obtain ⟨U,V,rfl⟩:=h.row_addr (ad:=L) (M:=cellsOf Zy (norm p)) mm (nE 7);have A:=getD_mem (norm p) (d:=T0) r;have F:=hq.nsz _ A;have J:=(Jv hq.deg) _ A;have i1:=cc (3*o+4) (show((norm p).getD k T0).i<=K by omega);have j0:=cc (3*o+4) (show((norm p).getD k T0).j<=K by omega);have P:Pq ((norm p).getD k T0).i (((norm p).getD k T0).i*(3*o+4)+4) (norm (AU (norm (ln n f j2)) ((norm p).getD k T0).i)):=by rw[MC];exact Pq.line_pow z q u oo
  have H:Pq ((norm p).getD k T0).j (((norm p).getD k T0).j*(3*o+4)+4) (norm (AU (norm (ln m b g)) ((norm p).getD k T0).j)):=by rw[MC];exact Pq.line_pow s t y oo
  have a7:Pq K (2*(K*(3*o+4)+4)) (norm (Vl (norm (AU (norm (ln n f j2)) ((norm p).getD k T0).i)) (norm (AU (norm (ln m b g)) ((norm p).getD k T0).j)))):=(P.mul H oo).mono J oo;have a1:=Pq.sbl z q u s t y hd (Jv hq.deg) hq.nsz k oo;have e6:=ka (show k<=91 by omega) b4;have O:norm (Qc ((norm p).getD k T0).c (norm (Vl (norm (AU (norm (ln n f j2)) ((norm p).getD k T0).i)) (norm (AU (norm (ln m b g)) ((norm p).getD k T0).j)))))=norm (sbT (ln n f j2) (ln m b g) ((norm p).getD k T0)):=by
   rw[MC,MC,pR,YN];rfl
  have b3:Pq K (KT K e o) (norm (Qc ((norm p).getD k T0).c (norm (Vl (norm (AU (norm (ln n f j2)) ((norm p).getD k T0).i)) (norm (AU (norm (ln m b g)) ((norm p).getD k T0).j)))))):=by
   rw[O];exact(Pq.sbT z q u s t y hd J F).mono (aZ _) (Nat.sub_le _ _)
  have C:norm (norm (sbL (ln n f j2) (ln m b g) ((norm p).take k))++norm (Qc ((norm p).getD k T0).c (norm (Vl (norm (AU (norm (ln n f j2)) ((norm p).getD k T0).i)) (norm (AU (norm (ln m b g)) ((norm p).getD k T0).j))))))=norm (sbL (ln n f j2) (ln m b g) ((norm p).take (k+1))):=by
   rw[O,rJ,take_snoc _ r,Tc]
  refine gC h<|au 0x25f31817 ?_;refine zD I mm (cells_lt (k:=7) dd (λ_=>rfl) (norm p) k oo) isAgg155 sizeOf155 (Zh (k:=7) (λ_=>rfl) ((λ_=>rfl)) (norm p) T0 k oo) (.inl I) ?_;refine zz EQ λi7=>stW I I Ky ?_;refine au 0xe7fa7f4312 ?_;refine zf [_,_] I call266 (C_Pow (norm<|ln n f j2) _ _ 1 (3*o+4) ((Pq.line z q u).nrm oo) ((norm p).getD k T0).i oo oo oo oo oo) ?_;rintro v53 e3 ⟨c4,h3,rfl,rfl⟩;refine au 0xdaf431255bb4 ?_;refine ldZ HO ?_;refine zf [_,_] I call266 (C_Pow (norm<|ln m b g) _ _ 1 (3*o+4) ((Pq.line s t y).nrm oo) ((norm p).getD k T0).j oo oo oo oo oo) ?_;rintro v60 c8 ⟨b6,e9,rfl,rfl⟩;refine au 0x4431255bb4 ?_;refine zf [_,_] I call166 (N7 (norm<|AU (norm<|ln n f j2) ((norm p).getD k T0).i) (norm<|AU (norm<|ln m b g) ((norm p).getD k T0).j) _ _ _ _ ((norm p).getD k T0).i ((norm p).getD k T0).j (((norm p).getD k T0).i*(3*o+4)+4) (((norm p).getD k T0).j*(3*o+4)+4) P H oo oo oo) ?_;rintro v66 e5 ⟨c7,h5,rfl,rfl⟩;refine au 0x443255bb4 ?_;refine zp (.fA I Nt)<|ldZ Mz ?_;refine zf [_,_] I call90 (Ab (norm<|Vl (norm<|AU (norm<|ln n f j2) ((norm p).getD k T0).i)<|norm<|AU (norm<|ln m b g) ((norm p).getD k T0).j) _ _ K (2*(K*(3*o+4)+4)) a7 hd oo ((norm p).getD k T0).c e F oo) ?_;rintro i6 c9 ⟨c5,h8,rfl,rfl⟩;refine zf [_,_] I call89 (C9 (norm<|sbL (ln n f j2) (ln m b g) ((norm p).take k)) (norm<|Qc ((norm p).getD k T0).c<|norm<|Vl (norm<|AU (norm<|ln n f j2) ((norm p).getD k T0).i)<|norm<|AU (norm<|ln m b g) ((norm p).getD k T0).j) _ _ _ _ K K (k*KT K e o+1) (KT K e o) a1 b3 hd hd oo oo) ?_;rintro h0 e1 ⟨N,b0,rfl,rfl⟩;refine za I<|zn<|zr<|zp (.pN (k+1)<|.add I I)<|au 0x24 ?_;intro a w h;rw[C] at h;exact⟨k+1,⟨oo,N,b0,by exact tO h⟩,oo⟩
 have B:(norm p).length=k:=dF x;subst B;have d:norm (sbL (ln n f j2) (ln m b g) ((norm p).take (norm p).length))=norm (shL p n f j2 m b g):=by rw[w9];exact Vy (Eqv.sub Eqv.rfl' Eqv.rfl' (Eqv.nrm p))
 rw[d] at h;refine gC h<|au 0x6254310e ?_;clear h;intro a w h;refine Qj (Ψ:=[Row _ (cellsOf Zy<|norm<|shL p n f j2 m b g)]) h (Zd h I<|.tmp I) ⟨_,_,rfl,rfl⟩ ss
theorem Pa: RN (Instr.indexAt 186 (.pointer (some ⟨b,K,none⟩)) (.int .i64 0)) (.pointer (some ⟨b,K+0,none⟩)):=λw=>by
 simp[go_sem,Instr.indexAt]
theorem OD: Zm true 5 #[B,G,H,J,L,N,O,Q,S,V] 0=some (.agg #[B,G,H,J,L]):=rfl
theorem O9: RN (Instr.indexAt 186 (.pointer (some ⟨b,K,none⟩)) (.int .i64 1)) (.pointer (some ⟨b,K+5,none⟩)):=λw=>by
 simp[go_sem,Instr.indexAt]
theorem OC: Zm true 5 #[B,G,H,J,L,N,O,Q,S,V] 5=some (.agg #[N,O,Q,S,V]):=rfl
theorem Ma: RN (Instr.build 186 [(0,.agg #[x,y,z,A,h]),(1,.agg #[E,F,a8,b0,b1])].toArray) (.agg #[x,y,z,A,h,E,F,a8,b0,b1]):=λw=>by simp[go_sem]
theorem Zv: Zp #[B,G,H,J,L,N,O,Q,S,V] 0 [e1,e2,e3,e4,e5,e6,e7,e8,e9,h0]=#[e1,e2,e3,e4,e5,e6,e7,e8,e9,h0]:=by kernel_rfl
theorem Jq: Zm true 10 #[B,G,H,J,L,N,O,Q,S,V] 0=some (.agg #[B,G,H,J,L,N,O,Q,S,V]):=rfl
theorem rz: RN (Instr.build 47 [].toArray) (.agg #[.int .u64 0,.string ⟨#[]⟩,.bool false,.int .u64 0,.string ⟨#[]⟩]):=λw=>by simp[go_sem]
theorem HK: (zeroValue 186).run prog w=.ok (encPt (0,0)) w:=zeroValue186 w
abbrev encA(l:List Rat): Value:=.agg (cellsOf Qa l).toArray
theorem KY(c b:Pt)(h1:Zr c.1<=10000000000)(f:Zr b.1<=10000000000)(l:Zr c.2<=10000000000)(i:Zr b.2<=10000000000): Jk prog 186 [encPt c,encPt b] (Ez (c.1-b.1) (c.2-b.2)):=by
 refine fnI func186 I ntmps186 λS w0 g=>zS (zx I λk=>zx I λm=>zz HK λj=>zn<|zs<|yE [0,1,2,3,5,6,7,8,4,9,10,11]<|au 0x14f1cf ?_);refine au 0x14f1cf ?_;refine au 0xe2f0cf ?_;refine au 0xe2f0cf ?_;refine au 0x68f ?_;have e:=Yg (c.1) (b.1);refine au 0x68f ?_;have d:=Yg (c.2) (b.2);refine yp I (.build [(_,_),(_,_)] I<|Ma _ _ _ _ _ _ _ _ _ _)<|stV I I I Zv ?_;refine yn<|zt ?_;intro a w h;refine Xh h (Zd h I<|rC Jq) ?_;rfl
theorem rR(b c d:Pt)(g:Nat)(ha:PtK g b)(p:PtK g c)(hc:PtK g d)(hk:g<=1000000000): Jk prog 190 [encPt b,encPt c,encPt d] (Qa (twQ b c d)):=by
 obtain ⟨e,f⟩:=ha;obtain ⟨k,j⟩:=p;obtain ⟨l,i⟩:=hc;have t:=Jr k e;have q:=Jr j f;have s:=Jr l e;have r:=Jr i f;refine fnI func190 I ntmps190 λS w0 A=>zS (zx I λx=>zx I λz=>zx I λu=>zz Xc λv=>zn<|zs<|yF [0,1,3,4,2,5,6,7,8,9]<|au 0x30f ?_);refine au 0x30f ?_;refine au 0x30f ?_;refine au 0x30f ?_;refine yv [_,_] I I call186 (KY c b oo oo oo oo)<|yv [_,_] I I call186 (KY d b oo oo oo oo) (yz I HK λy=>yz I HK λB=>stV I I I Zv ?_);refine stV I I I Zv ?_;refine yn<|zs<|yE [0,1,2,3,5,6,7,8,4,9,10,11]<|au 0x14f1cf ?_;refine au 0xe2f0cf ?_;refine au 0x14f1cf ?_;refine au 0xe2f0cf ?_;refine au 0xb2f ?_;have o:=Qh (c.1-b.1) (d.2-b.2);refine au 0xb2f ?_;have m:=Qh (d.1-b.1) (c.2-b.2);refine au 0x68f ?_;have n:=Yg ((c.1-b.1)*(d.2-b.2)) ((d.1-b.1)*(c.2-b.2));refine stV I I I Zl ?_;refine yn<|zt ?_;intro a w h;refine Xh h (Zd h I<|rC Zz) ?_;rfl
theorem nG(c K e g:Nat)(φ:Nat->Nat->Rat)(o:KL e p)(F:p.length<=100)(E:e+g<=50000000)(y:∀args w,(callFunc K args).run prog w=.ok (.enter K args) w)(hf:∀t∈p,Xi prog K [.int .i64 ((t.i:Nat):Int),.int .i64 ((t.j:Nat):Int)] [] (Qa (φ t.i t.j)))(n:∀t∈p,Zr (φ t.i t.j)<=g):
  Xi prog 191 [.slice l p.length c,.func (.func K) #[] #[]] [Row l (cellsOf Zy p)] (Qa (O0 φ p)):=by
 refine fnI func191 I ntmps191 λS w0 G=>zS (zz Xc λz=>au 0x82472f43112 ?_);intro a w h;refine lpG h [1,4,7,8] pkL (λY Z (k:Nat) a w=>k<=p.length/\St 26 S w0 ((9,nI k)::Y) [(z,bV (Qa<|O0 φ<|p.take k) 47)] Z a w) (λk=>p.length-k) 0 (⟨cX _,by exact(h).sub sA⟩) ?_;clear h;rintro k a w ⟨L,h⟩;refine gC h<|au 0x12d31 ?_;intro a w h;refine Zb h I (λH=>?_) (λH=>?_)
 ·have b:k<p.length:=dT H;obtain ⟨s,r,rfl⟩:=h.row_addr (ad:=l) (M:=cellsOf Zy p) mm (nE 7);have f:=getD_mem p (d:=T0) b;have C:=o _ f;have B:=n _ f;have A:=JD k oo o n;have x:=ka (show k<=100 by omega) (show e+g+1<=50000001 by omega);have J:O0 φ (p.take k)+(p.getD k T0).c*φ (p.getD k T0).i (p.getD k T0).j=O0 φ (p.take (k+1)):=by rw[take_snoc _ b,OZ]
  refine gC h<|au 0x25f31817 ?_;refine zD I mm (cells_lt (k:=7) dd (λ_=>rfl) p k oo) isAgg155 sizeOf155 (Zh (k:=7) (λ_=>rfl) ((λ_=>rfl)) p T0 k oo) (.inl I) ?_;refine zz EQ λD=>stW I I Ky ?_;refine zn<|yE [0,1,2,3,4,5,6,7,8,9,10,11]<|au 0xce ?_;clear h;refine au 0x66f33f ?_;refine au 0xa5f85f9 ?_;refine au 0x24fd3f ?_;refine Gf I kk (fs:=[]) (cs:=[]) I (vs:=[_,_]) I y (hf _ f) ss dd ?_;refine au 0xb2f ?_;have v:=Qh ((p.getD k T0).c) (φ (p.getD k T0).i (p.getD k T0).j);refine au 0x94f ?_;have u:=Xo (O0 φ (p.take k)) (((p.getD k T0).c)*(φ (p.getD k T0).i (p.getD k T0).j));refine stV I I I Zl ?_;refine yn<|zr<|zp (.pN (k+1)<|.add I I)<|au 0x24 ?_;intro a w h;rw[J] at h;exact⟨k+1,⟨oo,tO h⟩,oo⟩
 have m:p.length=k:=dF H;subst m;rw[w9] at h;refine gC h<|au 0x6e310e ?_;refine stW I I Zl ?_;refine zn<|zt ?_;clear h;intro a w h;refine Xh h (Zd h I<|rC Zz) ?_;rfl
theorem C_unit(h:b+K<=12): Jk prog 188 [.int .i64 ((b:Nat):Int),.int .i64 ((K:Nat):Int)] (Qa (mu b K)):=by
 refine fnI func188 I ntmps188 λS w0 e=>zS (zz Xc λd=>au 0x44312 ?_);refine zp (.pN (b+K)<|.add I I)<|zp (.pN ((b+K)+2)<|.add I I)<|zm I<|zm I (zB [(_,_),(_,_)] I (Xa _ _) λc=>?_);intro a w h;replace h:=h.shareAll e (List.map Qb ([b,K])) I;refine gL h<|zw [_,_] I call189 (lD (b+K+2) [b,K] _ _ oo ss (by simp;omega))<|stW I I Zl ?_;refine zn<|zt ?_;clear h;intro a w h;refine Xh h (Zd h I<|rC Zz) ?_;rw[Tp]
theorem C_way(h:b<=12): Jk prog 197 [.int .i64 ((b:Nat):Int),.int .i64 ((K:Nat):Int)] (Qa (lam b K)):=by
 refine fnI func197 I ntmps197 λS w0 e=>zS (zz Xc λd=>zn<|zS<|zm I<|zp (.pN (b+1)<|.add I I)<|au 0x74f ?_);intro a w h;have f:=Kq (1) (((b+1:Nat):Int)) oo oo oo oo;refine gL h<|au 0xbb4 ?_;refine zz Xc λc=>stW I I Zl ?_;refine au 0x6e3125 ?_;refine stW I I Zl ?_;refine zn<|zt ?_;clear h;intro a w h;refine Xh h (Zd h I<|rC Zz) ?_;rfl
theorem C_Tri(hq:Pq K e p)(hd:K<=12)(T c U:Pt)(ha:PtK g T)(r:PtK g c)(hc:PtK g U)(B:g<=3000)(O:e<=300000): Xi prog 100 [.slice l p.length b,encPt T,encPt c,encPt U] [Row l (cellsOf Zy p)] (Qa (XU p T c U)):=by
 have s:KT K e (2*g+1)<=520000:=by
  have:=cc (3*(2*g+1)+4) hd;unfold KT;omega
 have D:KS K e (2*g+1)<=47400000:=by
  have:=ka (show tri (K+1)<=91 from bp (BL (show K+1<=13 by omega)) dd) s;unfold KS;omega
 have V:=Pq.triS hq hd ha r hc;have y:=bb hq hd ha r hc;have z:=aN ha r hc;have J:=ka (show tri (K+1)<=91 from bp (BL (show K+1<=13 by omega)) dd) (show KS K e (2*g+1)+301<=47400301 by omega);obtain ⟨k,W⟩:=ha;obtain ⟨o,n⟩:=r;obtain ⟨q,m⟩:=hc;have H:=Jr o k;have E:=Jr n W;have G:=Jr q k;have F:=Jr m W;refine fnI func100 I ntmps100 λS w0 R=>zS (zx I λL=>zx I λM=>zx I λQ=>zz Xc λN=>zn<|zs<|yF [0,1,3,4,2,5,6,7,8,9]<|au 0x30f ?_);refine au 0x30f ?_;refine au 0x30f ?_;refine au 0x30f ?_;refine yv [_,_] I I call186 (KY c T oo oo oo oo)<|yv [_,_] I I call186 (KY U T oo oo oo oo) (yz I HK λP=>yz I HK λC=>stV I I I Zv ?_);refine stV I I I Zv ?_;refine au 0x26f4af26f4af26f4af04f5af04f5af04f5af431a ?_;refine zf [_,_,_,_,_,_,_] I call187 (fE p _ _ K e hq (c.1-T.1) (U.1-T.1) T.1 (c.2-T.2) (U.2-T.2) T.2 (2*g+1) hd oo oo oo oo oo oo oo oo) ?_;rintro v32 u ⟨v,A,rfl,rfl⟩;refine au 0x7e7e7e31253125 ?_;refine zv [_,_,_] I call190 (rR T c U g ⟨k,W⟩ ⟨o,n⟩ ⟨q,m⟩ oo)<|zm I<|zm I<|zw [_,_] I call191 (nG (norm<|shL p (c.1-T.1) (U.1-T.1) T.1 (c.2-T.2) (U.2-T.2) T.2) _ _ 188 (KS K e (2*g+1)) 300 mu V.siz V.len oo call188 (λt ht=>J3 (C_unit t.i t.j (by have:=V.deg t ht;omega)) []) (λt ht=>be _ _ (by have:=V.deg t ht;omega)))<|au 0xd9f ?_;have x:=Qh (twQ T c U) (O0 mu (norm (shL p (c.1-T.1) (U.1-T.1) T.1 (c.2-T.2) (U.2-T.2) T.2)));refine stW I I Zl ?_;refine zn<|zt ?_;intro a w h;refine Xh h (Zd h I<|rC Zz) ?_;rw[gr]
theorem C_Seg(hq:Pq K e p)(hd:K<=12)(J f:Pt)(ha:PtK g J)(r:PtK g f)(k:2<=g)(v:g<=3000)(D:e<=300000): Xi prog 109 [.slice l p.length b,encPt J,encPt f] [Row l (cellsOf Zy p)] (Qa (YK p J f)):=by
 have n:KT K e (2*g+1)<=520000:=by
  have:=cc (3*(2*g+1)+4) hd;unfold KT;omega
 have x:KS K e (2*g+1)<=47400000:=by
  have:=ka (show tri (K+1)<=91 from bp (BL (show K+1<=13 by omega)) dd) n;unfold KS;omega
 have L:=Pq.seg hq hd ha r k;obtain ⟨N,O⟩:=ha;obtain ⟨o,m⟩:=r;have z:=Jr o N;have y:=Jr m O;have A:=Kd;refine fnI func109 I ntmps109 λS w0 G=>zS (zx I λF=>zx I λB=>zz Xc λC=>au 0x7e7e312 ?_);refine zv [_,_] I call186 (KY f J oo oo oo oo)<|zp (.build [] I<|rz) (zz HK λE=>zz Xc λH=>stW I I Zv ?_);refine stW I I Zl ?_;refine au 0x26f4af6e26f4af04f5af6e04f5af4312 ?_;refine zf [_,_,_,_,_,_,_] I call187 (fE p _ _ K e hq (f.1-J.1) 0 J.1 (f.2-J.2) 0 J.2 (2*g+1) hd oo oo oo oo oo oo oo oo) ?_;rintro v26 s ⟨q,u,rfl,rfl⟩;refine au 0x4431253125 ?_;refine zw [_,_] I call191 (nG (norm<|shL p (f.1-J.1) 0 J.1 (f.2-J.2) 0 J.2) _ _ 197 (KS K e (2*g+1)) 4 lam L.siz L.len oo call197 (λt ht=>J3 (C_way t.i t.j (by have:=L.deg t ht;omega)) []) (λt ht=>je _ _ (by have:=L.deg t ht;omega)))<|stW I I Zl ?_;refine zn<|zt ?_;intro a w h;refine Xh h (Zd h I<|rC Zz) ?_;rw[gX]
def fanG(p:List Tm)(l:List Pt): Nat->Rat
 | 0=>0
 | k+1=>fanG p l k+XU p (l.getD 0 (0,0)) (l.getD (k+1) (0,0)) (l.getD (k+2) (0,0))
def pwN(x:Rat): Nat->List Rat
 | 0=>(List.replicate 13 (0:Rat)).set 0 ((1:Int):Rat)
 | i+1=>(pwN x i).set (i+1) ((pwN x i).getD i 0*x)
def PWf(x y:Rat): Nat->Nat->Rat:=λi j=>(pwN x 12).getD i 0*(pwN y 12).getD j 0
theorem sub_self: norm (p++Qc (-1) p)=[]:=by
 rw[Vy (m:=[]) (λφ=>by rw[An,Be,MO];grind)];exact MI
theorem AP: ((b:Int)=(K:Int))↔b=K:=oo
theorem ox(X Y:Operand)(x y:Tm): RN (do eqGuard .neq 155 X Y (Zy x) (Zy y);Go.binOp .neq 155 (Zy x) (Zy y):Sem Value) (.bool (!decide (x=y))):=λw=>by
 obtain ⟨e,i,f⟩:=x;obtain ⟨h,g,c⟩:=y;simp[go_sem];rw[OS];by_cases a:e=h<;>by_cases d:i=g<;>by_cases b:f=c<;>simp[a,d,b,AP]
theorem eqL_of(hl:a.length=u.length)(h:∀k,k<a.length->a.getD k T0=u.getD k T0): a=u:=by
 refine uY hl (λi h1 b=>?_);have:=h i h1;simpa [List.getD,h1,b] using this
theorem lU(A:p.length<=1000000)(hq:q.length<=1000000): Xi prog 67 [.slice l p.length b,.slice U q.length K] [Row l (cellsOf Zy p),Row U (cellsOf Zy q)] (.bool (decide (p=q))):=by
 refine fnI func67 I ntmps67 λS w0 B=>au 0x271f72f472f43112531 ?_;intro a w h;refine Zb h I (λf=>?_) (λf=>?_)
 ·have r:p.length≠q.length:=pL f;refine gC h<|au 0x62531 ?_;refine rtK ?_;rw[decide_eq_false (λe=>r (by rw[e]))]
 have hle:p.length=q.length:=iR f;refine gC h<|au 0x82472f43117 ?_;clear h;intro a w h;refine lpG h [0,1,12] pkL (λY Z (i:Nat) a w=>i<=p.length/\(∀k,k<i->p.getD k T0=q.getD k T0)/\St 26 S w0 ((13,nI i)::Y) [] Z a w) (λi=>p.length-i) 0 (⟨cX _,λk hk=>absurd hk (gS _),by exact(h).sub sA⟩) ?_;clear h;rintro i a w ⟨x,C,h⟩;refine gC h<|au 0x12d31 ?_;intro a w h;refine Zb h I (λd=>?_) (λd=>?_)
 ·have u:i<p.length:=dT d;have z:q.length≠0:=oo;obtain ⟨t,v,rfl⟩:=h.row_addr (ad:=l) (M:=cellsOf Zy p) mm (nE 7);obtain ⟨o,s,rfl⟩:=h.row_addr (ad:=U) (M:=cellsOf Zy q) mm (nE 7);refine gC h<|au 0x125431817 ?_;refine yE [0,1,2,3,4,5,6,7,8]<|au 0x88f99 ?_;clear h;refine Zf I kk I mm (cells_lt (k:=7) dd (λ_=>rfl) p i oo) isAgg155 sizeOf155 (Zh (k:=7) (λ_=>rfl) ((λ_=>rfl)) p T0 i oo) (.inl I) dd ?_;refine au 0x88f99 ?_;refine Zf I kk I mm (cells_lt (k:=7) dd (λ_=>rfl) q i oo) isAgg155 sizeOf155 (Zh (k:=7) (λ_=>rfl) ((λ_=>rfl)) q T0 i oo) (.inl I) dd ?_;refine yp I (.binOp I I (λ_=>ox _ _ (p.getD i T0) (q.getD i T0) _))<|yn ?_;intro a w h;refine Zb h I (λc=>?_) (λc=>?_)
  ·have n:¬p.getD i T0=q.getD i T0:=of_decide_eq_false (by simpa using c);refine gC h<|au 0x62531 ?_;refine rtK ?_;rw[decide_eq_false (λe=>n (by rw[e]))]
  have j:p.getD i T0=q.getD i T0:=of_decide_eq_true (by simpa using c);refine gC h<|zk<|zr<|zp (.pN (i+1)<|.add I I)<|au 0x24 ?_;clear h;intro a w h;exact⟨i+1,⟨oo,λk hk=>by rcases el k i with h|h;exact C k h;rw[show k=i by omega];exact j,tO h⟩,oo⟩
 have m:p.length=i:=dF d;subst m;refine gC h<|au 0x625310e ?_;refine rtK ?_;rw[decide_eq_true (eqL_of hle C)]
theorem sa(ha:Pq e T p)(i:Pq g f q)(c:e<=12)(d:g<=12)(u:T<=200000000)(n:f<=200000000): Xi prog 15 [.slice l p.length b,.slice U q.length K] [Row l (cellsOf Zy p),Row U (cellsOf Zy q)] (.bool (decide (norm p=norm q))):=by
 have j:=ha.n91 c;have r:=i.n91 d;refine fnI func15 I ntmps15 λS w0 v=>au 0x4312531 ?_;refine zf [_] I call68 (As p _ _ e T ha c oo) ?_;rintro v6 y ⟨s,w,rfl,rfl⟩;refine zm I<|zf [_] I call68 (As q _ _ g f i d oo) ?_;rintro x k ⟨o,t,rfl,rfl⟩;refine zw [_,_] I call67 (lU (norm p) (norm q) _ _ _ _ oo oo)<|za I<|zn<|zt<|rtK I
def cfT:List Tm->Int->Int->Rat
 | [],_,_=>0
 | t::l,i,j=>if ((t.i:Nat):Int)=i/\((t.j:Nat):Int)=j then t.c else cfT l i j
structure Tz where
 i:Int
 j:Int
 c:Rat
abbrev Tz0:Tz:=⟨0,0,0⟩
abbrev encTz(t:Tz): Value:=.agg #[.int .i64 t.i,.int .i64 t.j,.int .u64 (Yk t.c.num.natAbs),.string (Xr t.c.num.natAbs),.bool (decide (t.c.num<0)),.int .u64 (Yk (t.c.den-1)),.string (Xr (t.c.den-1))]
def mayZ(t:Tz): Int:=if t.i<0\/t.j<0 then 1 else if t.i>12\/t.j>12-t.i then 9 else 0
def firstZ:List Tz->Int
 | []=>0
 | t::l=>if mayZ t=0 then firstZ l else mayZ t
end Go.Proofs.YtdadideknhmbbaaGreatDoor
