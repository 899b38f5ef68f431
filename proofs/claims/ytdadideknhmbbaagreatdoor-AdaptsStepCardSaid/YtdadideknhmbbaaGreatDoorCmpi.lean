/- Walks of functions. By an AI agent. -/
import Derived.Test.YtdadideknhmbbaaGreatDoorPrs6
import Derived.Shelf.Slices.CompactI
import Derived.Test.YtdadideknhmbbaaGreatDoorFxP
set_option linter.unusedVariables false
set_option linter.unusedSimpArgs false
set_option maxRecDepth 4000
set_option maxHeartbeats 8000000
namespace Go.Proofs.YtdadideknhmbbaaGreatDoor
open Go Go.Proofs Go.Fx Tryz
attribute [local irreducible] Oper.wp Code.wp wpList Fx.Head wpOp
variable{a6:List Int}{X:List ((Nat×Nat)×(Nat×Nat)×(Nat×Nat))}{b1:List Nat}{a8:Nat->Nat}{u:Nat×Nat}{g a p o e r h q f:Value}{P b t s:Nat}{e2 b2:Type}{Q:List (Nat×Nat×Nat)}{a7:Int}{y:List (Nat×Nat)}(c9 e0:Operand)(v K Y:Int)(A B C G N O T U V W Z a1 b3 b4 b5 b6 b7 b8 b9 c3 c4 c5 c6 c7:Value)(J:M25)(H:Option Addr)(w i x F E:Nat)(c8:Bool)(e1:List (Nat×Nat))(L b0:Nat×Nat)(z:World)(R:TypeId)(S:Array Bool)
theorem Sg: RN (Instr.fieldAt 26 (.pointer (some ⟨b,s,none⟩)) 0) (.pointer (some ⟨b,s+0,none⟩)):=λw=>by
 simp[go_sem]
theorem rs_9_0: Zm false 1 #[g,h,o,a,f,e,p,q,r] 0=some g:=rfl
theorem Sf: RN (Instr.fieldAt 26 (.pointer (some ⟨b,s,none⟩)) 1) (.pointer (some ⟨b,s+1,none⟩)):=λw=>by
 simp[go_sem]
theorem rs_9_1: Zm false 1 #[g,h,o,a,f,e,p,q,r] 1=some h:=rfl
theorem Se: RN (Instr.fieldAt 26 (.pointer (some ⟨b,s,none⟩)) 2) (.pointer (some ⟨b,s+2,none⟩)):=λw=>by
 simp[go_sem]
theorem Y0: Zm false 1 #[g,h,o,a,f,e,p,q,r] 2=some o:=rfl
theorem H5: (Go.builtin .len #[22] R S #[.slice H w i]).run prog z=.ok (.value (.int .i64 w)) z:=by
 simp[go_sem]
theorem ix_22(h:E<x): RN (Instr.indexAt 22 (.slice (some ⟨w,i,none⟩) x F) (.int .i64 (E:Int))) (.pointer (some ⟨w,i+E,none⟩)):=λa=>by
 simpa using Qf runUnderlying22 sizeOf5 w i x F E h a
theorem PX: RN (Instr.build 317 [(0,.agg #[A,B]),(1,.agg #[C,G]),(2,.agg #[N,O])].toArray) (.agg #[A,B,C,G,N,O]):=λw=>by simp[go_sem]
theorem B1: (Instr.buildSlice 315 2 [(0,.agg #[A,B,C,G,N,O]),(1,.agg #[T,U,V,W,Z,a1])].toArray).run prog z=.ok (.slice (some ⟨z.heap.size,0,none⟩) 2 2) (z.alloc (.cells #[A,B,C,G,N,O,T,U,V,W,Z,a1] 317 (0,0))):=by
 simp[go_sem]
theorem De: (Instr.buildSlice 315 4 [(0,.agg #[A,B,C,G,N,O]),(1,.agg #[T,U,V,W,Z,a1]),(2,.agg #[b3,b4,b5,b6,b7,b8]),(3,.agg #[b9,c3,c4,c5,c6,c7])].toArray).run prog z=.ok (.slice (some ⟨z.heap.size,0,none⟩) 4 4) (z.alloc (.cells #[A,B,C,G,N,O,T,U,V,W,Z,a1,b3,b4,b5,b6,b7,b8,b9,c3,c4,c5,c6,c7] 317 (0,0))):=by
 simp[go_sem]
def BE(cs:List Int)(i:Nat): Nat:=if cs.length=0 then 0 else (cs.getD (i%cs.length) 0).toNat%8
def cellT(way i x y:Nat): List ((Nat×Nat)×(Nat×Nat)×(Nat×Nat)) :=
 if way<3\/(way=7/\i=0) then [((x,y),(x+2,y),(x+2,y+2)),((x,y),(x+2,y+2),(x,y+2))]
 else if way<5 then [((x,y),(x+2,y),(x,y+2)),((x+2,y),(x+2,y+2),(x,y+2))]
 else if way<7 then [((x,y),(x+2,y),(x+1,y+1)),((x+2,y),(x+2,y+2),(x+1,y+1)),((x+2,y+2),(x,y+2),(x+1,y+1)),((x,y+2),(x,y),(x+1,y+1))]
 else []
def Xw(w:Nat->Nat)(nx:Nat): Nat->List ((Nat×Nat)×(Nat×Nat)×(Nat×Nat))
 | 0=>[]
 | i+1=>Xw w nx i++cellT (w i) i (2*(i%nx)) (2*(i/nx))
def Fh(t:(Nat×Nat)×(Nat×Nat)×(Nat×Nat))(i:Nat): Nat×Nat:=match i with
 | 0=>t.1
 | 1=>t.2.1
 | _=>t.2.2
def Dh(pl:List (Nat×Nat))(p:Nat×Nat): Nat->Int
 | 0 => -1
 | k+1=>if pl.getD k (0,0)=p then (k:Int) else Dh pl p k
def atP(pl:List (Nat×Nat))(p:Nat×Nat): Nat:=if Dh pl p pl.length<0 then pl.length else (Dh pl p pl.length).toNat
def plP(pl:List (Nat×Nat))(p:Nat×Nat): List (Nat×Nat):=if Dh pl p pl.length<0 then pl++[p] else pl
def shF(F t i:Nat): Nat:=(i+F+t*(F/3))%3
def plT(c:(Nat×Nat)×(Nat×Nat)×(Nat×Nat))(F t:Nat): Nat->List (Nat×Nat)->List (Nat×Nat)
 | 0,pl=>pl
 | i+1,pl=>plP (plT c F t i pl) (Fh c (shF F t i))
def nT(c:(Nat×Nat)×(Nat×Nat)×(Nat×Nat))(F t:Nat)(pl:List (Nat×Nat)): Nat×Nat×Nat :=
 (atP pl (Fh c (shF F t 0)),atP (plT c F t 1 pl) (Fh c (shF F t 1)),atP (plT c F t 2 pl) (Fh c (shF F t 2)))
def cl0:(Nat×Nat)×(Nat×Nat)×(Nat×Nat):=((0,0),(0,0),(0,0))
def plW(l:List ((Nat×Nat)×(Nat×Nat)×(Nat×Nat)))(F:Nat): Nat->List (Nat×Nat)
 | 0=>[]
 | t+1=>plT (l.getD t cl0) F t 3 (plW l F t)
def trW(l:List ((Nat×Nat)×(Nat×Nat)×(Nat×Nat)))(F:Nat): Nat->List (Nat×Nat×Nat)
 | 0=>[]
 | t+1=>trW l F t++[nT (l.getD t cl0) F t (plW l F t)]
def Dc(ts:List (Nat×Nat×Nat))(a b:Nat): Nat->Nat
 | 0=>0
 | t+1=>Dc ts a b t+if Ay (ts.getD t (0,0,0)) a && Ay (ts.getD t (0,0,0)) b then 1 else 0
def sdI(ts:List (Nat×Nat×Nat))(F a:Nat): Nat->List (Nat×Nat×Nat)
 | 0=>[]
 | b+1=>sdI ts F a b++if a<b/\Dc ts a b ts.length=1 then [(a,b,(a+3*b+F)%5)] else []
def sdW(ts:List (Nat×Nat×Nat))(F n:Nat): Nat->List (Nat×Nat×Nat)
 | 0=>[]
 | a+1=>sdW ts F n a++sdI ts F a n
def sgN(p q r:Nat×Nat): Int:=((q.1:Int)-p.1)*((r.2:Int)-p.2)-((q.2:Int)-p.2)*((r.1:Int)-p.1)
def cnP(pl:List (Nat×Nat))(t:Nat×Nat×Nat)(i:Nat): Nat×Nat:=pl.getD (crn t i) (0,0)
def sgT(pl:List (Nat×Nat))(t:Nat×Nat×Nat)(r:Nat×Nat)(i:Nat): Int:=sgN (cnP pl t i) (cnP pl t ((i+1)%3)) r
def beyN(pl:List (Nat×Nat))(t s:Nat×Nat×Nat): Bool:=(List.range 3).any λi=>(List.range 3).all λj=>decide (sgT pl t (cnP pl s j) i<=0)
def okM(pl:List (Nat×Nat))(ts:List (Nat×Nat×Nat)): Bool :=
 ts.all (Ad pl.length) && ts.all (λt=>decide (0<sgT pl t (cnP pl t 2) 0)) && (List.range pl.length).all (λp=>ts.any λt=>Ay t p) && decide pl.Nodup &&
 (List.range ts.length).all (λi=>(List.range i).all λk=>beyN pl (ts.getD i (0,0,0)) (ts.getD k (0,0,0)) || beyN pl (ts.getD k (0,0,0)) (ts.getD i (0,0,0))) &&
 ts.all (λt=>(List.range pl.length).all λq=>Ay t q || (List.range 3).any λi=>decide (sgT pl t (pl.getD q (0,0)) i<0))
def okR(ts:List (Nat×Nat×Nat))(F n:Nat): Bool:=decide (Kz ts=(sdW ts F n n).map λs=>(s.1,s.2.1,0))
def okTopo(w0 w1 nx F:Nat): Bool :=
 let l:=Xw (λi=>if i=0 then w0 else w1) nx nx;let pl:=plW l F l.length;let ts:=trW l F l.length
 okM pl ts && okR ts F pl.length && decide (0<ts.length)
abbrev E8(t:(Nat×Nat)×(Nat×Nat)×(Nat×Nat)): Value:=.agg #[.int .i64 ((t.1.1:Nat):Int),.int .i64 ((t.1.2:Nat):Int),.int .i64 ((t.2.1.1:Nat):Int),.int .i64 ((t.2.1.2:Nat):Int),.int .i64 ((t.2.2.1:Nat):Int),.int .i64 ((t.2.2.2:Nat):Int)]
abbrev Ih(z:Int×Int): Value:=.agg #[.int .i64 z.1,.int .i64 z.2]
abbrev encZ4(z:Int×Int×Int×Int): Value:=.agg #[.int .i64 z.1,.int .i64 z.2.1,.int .i64 z.2.2.1,.int .i64 z.2.2.2]
theorem IM: (zeroValue 130).run prog z=.ok (Zx (0,0)) z:=zeroValue130 z
theorem zeroT6: (zeroValue 317).run prog z=.ok (E8 cl0) z:=zeroValue317 z
theorem lY: (zeroValue 225).run prog z=.ok (Ih (0,0)) z:=zeroValue225 z
theorem nU(h:decide (((a6.length:Nat):Int)>0)=false): BE a6 b=0:=if_pos (by have:=of_decide_eq_false h;omega)
theorem nV(h:U8 a7): a7.tmod 8=((a7.toNat%8:Nat):Int):=by
 obtain ⟨h1,a⟩:=h;rw[show a7=((a7.toNat:Nat):Int) from by omega,show(8:Int)=((8:Nat):Int) from rfl,Yw];congr 2
theorem way_at(h:decide (((a6.length:Nat):Int)>0)=true)(hc:∀c∈a6,U8 c): (a6.getD (b%a6.length) 0).tmod 8=((BE a6 b:Nat):Int):=by
 have a:=of_decide_eq_true h;rw[nV (hc _ (getD_mem a6 (gF _ oo))),BE,if_neg oo]
theorem SX(cs:List Int)(i:Nat): BE cs i<8:=by
 unfold BE;split
 ·decide
 exact gF _ dd
theorem ni(h:b<3\/(b=7/\s=0)): cellT b s t P=[((t,P),(t+2,P),(t+2,P+2)),((t,P),(t+2,P+2),(t,P+2))]:=if_pos h
theorem nh(h:¬(b<3\/(b=7/\s=0)))(a:b<5): cellT b s t P=[((t,P),(t+2,P),(t,P+2)),((t+2,P),(t+2,P+2),(t,P+2))]:=by unfold cellT;rw[if_neg h,if_pos a]
theorem ng(h:¬(b<3\/(b=7/\s=0)))(a:¬b<5)(c:b<7): cellT b s t P=[((t,P),(t+2,P),(t+1,P+1)),((t+2,P),(t+2,P+2),(t+1,P+1)),((t+2,P+2),(t,P+2),(t+1,P+1)),((t,P+2),(t,P),(t+1,P+1))]:=by unfold cellT;rw[if_neg h,if_neg a,if_pos c]
theorem nc(h:¬(b<3\/(b=7/\s=0)))(a:¬b<5)(c:¬b<7): cellT b s t P=[]:=by unfold cellT;rw[if_neg h,if_neg a,if_neg c]
theorem Gn{w:Nat->Nat}{a i:Nat}(h:cellT (w i) i (2*(i%a)) (2*(i/a))=X): Xw w a i++X=Xw w a (i+1):=by rw[Xw,h]
theorem kB: (cellT w i x F).length<=4:=by unfold cellT;split<;>(try split)<;>(try split)<;>simp
theorem Gz(w:Nat->Nat)(a:Nat): ∀i,(Xw w a i).length<=4*i
 | 0=>aZ _
 | i+1=>by rw[Xw,bd];have:=Gz w a i;have:=kB (w i) i (2*(i%a)) (2*(i/a));omega
theorem sx(nx ny:Nat)(hx:J.nx=((nx:Nat):Int))(hy:J.ny=((ny:Nat):Int))(b2:nx<=255)(b0:ny<=255)(hc:∀c∈J.cells,U8 c)(hn:J.cells.length<=9223372036854775807): CtrO prog 232 [Fa J H w] [Row H (List.map BJ J.cells)] (λv o => ∃ad c,v=.slice ad (Xw (BE J.cells) (1+nx%3) ((1+nx%3)*(1+ny%3))).length c/\GrowO 6 317 v (Xw (BE J.cells) (1+nx%3) ((1+nx%3)*(1+ny%3))).length (cellsOf E8 (Xw (BE J.cells) (1+nx%3) ((1+nx%3)*(1+ny%3)))) o):=by
 have W:nx%3<3:=gF _ dd;have X:ny%3<3:=gF _ dd;have hN:(1+nx%3)*(1+ny%3)<=9:=bp (ka (show 1+nx%3<=3 by omega) (show 1+ny%3<=3 by omega)) dd;refine fn_introO func232 I ntmps232 nb ?_;intro S w0 a hS h;refine gC h<|zS (zx I λN=>za I<|zn<|zS<|zp (.fA I Sg)<|ldZ rs_9_0 ?_);clear h;intro a Q h;rw[hx] at h;refine gL h<|zp (aq (v':=.int .u8 ((nx%3:Nat):Int)) (.binOp I I (λ_=>Yx _ _ _ _ _ dd)) (by rw[show(3:Int)=((3:Nat):Int) from I,Yw]))<|au 0x7bf ?_;refine zp (.pN (1+(nx%3))<|.add I I)<|za I<|zn<|zS<|zp (.fA I Sf)<|ldZ rs_9_1 ?_;clear h;intro a Q h;rw[hy] at h;refine gL h<|zp (aq (v':=.int .u8 ((ny%3:Nat):Int)) (.binOp I I (λ_=>Yx _ _ _ _ _ dd)) (by rw[show(3:Int)=((3:Nat):Int) from I,Yw]))<|au 0x7bf ?_;refine zp (.pN (1+(ny%3))<|.add I I)<|au 0x825311253125 ?_;clear h;intro a Q h;refine lpG h [1,2,3,4] pkL (λY Z (i:Nat) a Q=>i<=(1+nx%3)*(1+ny%3) /\ ∃(q:Option Addr) (c1:Nat) (m:List (Nat×Obj)),(GrowO 6 317 (.slice q (Xw (BE J.cells) (1+nx%3) i).length c1) (Xw (BE J.cells) (1+nx%3) i).length (cellsOf E8<|Xw (BE J.cells) (1+nx%3) i) m)/\St 134 S w0 ((5,(.slice q (Xw (BE J.cells) (1+nx%3) i).length c1))::(6,nI i)::Y) (m++((N,bV (Fa J H w) 26)::[])) Z a Q) (λi=>(1+nx%3)*(1+ny%3)-i) 0 (⟨cX _,none,0,[],GrowO.nil _ _,by exact(h).sub sA⟩) ?_;clear h;rintro i a Q ⟨V,q,c1,m,k,h⟩;refine gC h<|au 0x444311 ?_;refine zp (.pN ((1+(nx%3))*(1+(ny%3)))<|.mul I I)<|au 0x2d ?_;intro a Q h;refine Zb h I (λt=>?_) (λt=>?_)
 ·have O:i<(1+nx%3)*(1+ny%3):=dT t;have b3:=gF i (show 0<1+nx%3 by omega);have b5:=tQ i (1+nx%3);have T:(0:Int)<=((i/(1+nx%3):Nat):Int):=Int.natCast_nonneg _;have U:(0:Int)<=((i%(1+nx%3):Nat):Int):=Int.natCast_nonneg _;refine gC h<|au 0x2531817 ?_;clear h;intro a Q h;refine Yv (λa Q=>St 134 S w0 [(1,pB N),(2,.slice none 0 0),(3,nI (1+(nx%3))),(4,nI (1+(ny%3))),(5,(.slice q (Xw (BE J.cells) (1+nx%3) i).length c1)),(6,nI i),(7,.int .u8 (((BE J.cells i:Nat):Int))),(25,nI i),(26,nI (1+(nx%3))),(27,nI (1+(ny%3))),(28,nI ((1+(nx%3))*(1+(ny%3)))),(29,.bool<|decide (((i:Nat):Int)<(((1+(nx%3))*(1+(ny%3)):Nat):Int)))] (m++((N,bV (Fa J H w) 26)::[])) [Row H (List.map BJ J.cells)] a Q) ?_ ?_
  ·refine gC h<|zS<|zp (.fA I Se)<|ldZ Y0 ?_;refine zp (.builtin [_] I<|H5 _ _ _)<|au 0x2c0f ?_;clear h;intro a Q h;refine Zb h I (λd=>?_) (λd=>?_)
   ·obtain ⟨P,R,rfl⟩:=h.row_addr (ad:=H) (M:=List.map BJ J.cells) mm (by intro e;have q1:=congrArg List.length e;rw[az,oT] at q1;have:=of_decide_eq_true d;omega);refine gC h<|yE [0,1,2,3,4,5,6,7,8,9,10]<|yp I (.fA I Se)<|ldY Y0 ?_;clear h;refine au 0x9 ?_;refine yp I (.fA I Se)<|ldY Y0 ?_;refine yp I (.builtin [_] I<|H5 _ _ _)<|yp I (aq (v':=.int .i64 ((i%J.cells.length:Nat):Int)) (.binOp I I (λ_=>Yx _ _ _ _ _<|dT d)) (by rw[Yw]))<|yp I (.indexAddr I I<|ix_22 _ _ _ _ _ (by exact gF _<|dT d)) ?_;refine Zf I kk I mm (by rw[az];exact gF _<|dT d) isAgg5 sizeOf5 (Zn (enc:=BJ) (l:=J.cells) 0 (by exact gF _<|dT d)) (.inr I) dd ?_;refine yp I (aq (v':=.int .u8 ((BE J.cells i:Nat):Int)) (.binOp I I (λ_=>Yx _ _ _ _ _ dd)) (by rw[way_at d hc]))<|au 0xa4e ?_;intro a Q h;exact tO h
   refine wp_skip ?_;rw[nU d];exact tO h
  clear h;intro a Q h;refine gC h<|au 0x4431 ?_;refine zp (aq (v':=.int .i64 ((i%(1+nx%3):Nat):Int)) (.binOp I I (λ_=>Yx _ _ _ _ _ oo)) (by rw[Yw]))<|zp (.pN (2*(i%(1+nx%3)))<|.mul I I)<|au 0x443125 ?_;refine zp (aq (v':=.int .i64 ((i/(1+nx%3):Nat):Int)) (.binOp I I (λ_=>ET _ _ _ _ _ oo)) (by rw[CC,wrap_i64 _ oo oo]))<|zp (.pN (2*(i/(1+nx%3)))<|.mul I I)<|au 0x35f443125 ?_;refine zz IM λa7=>stW I I Zt ?_;refine zn<|zS<|zm I<|zp (.pN ((2*(i%(1+nx%3)))+2)<|.add I I)<|au 0x35f4 ?_;refine zz IM λa6=>stW I I Zt ?_;refine zn<|zS<|zm I<|zp (.pN ((2*(i%(1+nx%3)))+2)<|.add I I)<|zm I<|zp (.pN ((2*(i/(1+nx%3)))+2)<|.add I I)<|au 0x35f ?_;refine zz IM λb4=>stW I I Zt ?_;refine au 0x44312 ?_;refine zp (.pN ((2*(i/(1+nx%3)))+2)<|.add I I)<|au 0x35f ?_;refine zz IM λa8=>stW I I Zt ?_;refine zn<|zS<|zm I<|zp (.pN ((2*(i%(1+nx%3)))+1)<|.add I I)<|zm I<|zp (.pN ((2*(i/(1+nx%3)))+1)<|.add I I)<|au 0x35f ?_;refine zz IM λa1=>stW I I Zt ?_;refine au 0xd43182 ?_;clear h;intro a Q h;refine Zi h (λB h=>?_) (λB h=>?_)
  ·have d77:=of_decide_eq_true B;refine gL h<|zm I<|zo 78 I I I<|zo 78 I I I<|zo 78 I I I<|zu 81 I I<|zu 81 I I<|zo 78 I I I<|au 0x12f5e5e5e12f5e5e5e431e253e ?_;refine zB [(_,_),(_,_)] I (B1 _ _ _ _ _ _ _ _ _ _ _ _) λL=>?_;refine apC E8 (Xw (BE J.cells) (1+nx%3) i) [((2*(i%(1+nx%3)),2*(i/(1+nx%3))),((2*(i%(1+nx%3)))+2,2*(i/(1+nx%3))),((2*(i%(1+nx%3)))+2,(2*(i/(1+nx%3)))+2)),((2*(i%(1+nx%3)),2*(i/(1+nx%3))),((2*(i%(1+nx%3)))+2,(2*(i/(1+nx%3)))+2),(2*(i%(1+nx%3)),(2*(i/(1+nx%3)))+2))] k ?_ (hr:=by(try dsimp only);have:=Gz (BE J.cells) (1+nx%3) i;omega);intro x E F n a Q h;refine gL h<|au 0x4325 ?_;refine zp (.pN (i+1)<|.add I I)<|au 0x25 ?_;clear h;intro a Q h;rw[Gn (w:=BE J.cells) (a:=1+nx%3) (i:=i) (ni oo)] at h n;exact⟨i+1,⟨oo,x,E,F,n,by exact tO h⟩,oo⟩
  have d77:=of_decide_eq_false B;refine gL h<|zm I<|zq 78 I I (.move I)<|zq 78 I I (.eql I I) ?_;clear h;intro a Q h;refine Zi h (λC h=>?_) (λC h=>?_)
  ·have d80:=of_decide_eq_true C;refine gL h<|zq 78 I I (.move I)<|zq 81 I I (.move I)<|zq 81 I I (.eql I I) ?_;clear h;intro a Q h;refine Zi h (λD h=>?_) (λD h=>?_)
   ·have d83:=of_decide_eq_true D;refine gL h<|zq 78 I I (.pickT I I)<|au 0x12f5e5e5e12f5e5e5e431e252e ?_;refine zB [(_,_),(_,_)] I (B1 _ _ _ _ _ _ _ _ _ _ _ _) λL=>?_;refine apC E8 (Xw (BE J.cells) (1+nx%3) i) [((2*(i%(1+nx%3)),2*(i/(1+nx%3))),((2*(i%(1+nx%3)))+2,2*(i/(1+nx%3))),((2*(i%(1+nx%3)))+2,(2*(i/(1+nx%3)))+2)),((2*(i%(1+nx%3)),2*(i/(1+nx%3))),((2*(i%(1+nx%3)))+2,(2*(i/(1+nx%3)))+2),(2*(i%(1+nx%3)),(2*(i/(1+nx%3)))+2))] k ?_ (hr:=by(try dsimp only);have:=Gz (BE J.cells) (1+nx%3) i;omega);intro x E F n a Q h;refine gL h<|au 0x4325 ?_;refine zp (.pN (i+1)<|.add I I)<|au 0x25 ?_;clear h;intro a Q h;rw[Gn (w:=BE J.cells) (a:=1+nx%3) (i:=i) (ni oo)] at h n;exact⟨i+1,⟨oo,x,E,F,n,by exact tO h⟩,oo⟩
   have d83:=of_decide_eq_false D;refine gL h<|zq 78 I I (.pickT I I)<|au 0xd431c252e ?_;clear h;intro a Q h;refine Zi h (λj h=>?_) (λj h=>?_)
   ·have d99:=of_decide_eq_true j;refine gL h<|au 0x12f5e5e5e12f5e5e5e431e25 ?_;refine zB [(_,_),(_,_)] I (B1 _ _ _ _ _ _ _ _ _ _ _ _) λK=>?_;refine apC E8 (Xw (BE J.cells) (1+nx%3) i) [((2*(i%(1+nx%3)),2*(i/(1+nx%3))),((2*(i%(1+nx%3)))+2,2*(i/(1+nx%3))),(2*(i%(1+nx%3)),(2*(i/(1+nx%3)))+2)),(((2*(i%(1+nx%3)))+2,2*(i/(1+nx%3))),((2*(i%(1+nx%3)))+2,(2*(i/(1+nx%3)))+2),(2*(i%(1+nx%3)),(2*(i/(1+nx%3)))+2))] k ?_ (hr:=by(try dsimp only);have:=Gz (BE J.cells) (1+nx%3) i;omega);intro r z y g a Q h;refine gL h<|au 0x4325 ?_;refine zp (.pN (i+1)<|.add I I)<|au 0x25 ?_;clear h;intro a Q h;rw[Gn (w:=BE J.cells) (a:=1+nx%3) (i:=i) (nh oo oo)] at h g;exact⟨i+1,⟨oo,r,z,y,g,by exact tO h⟩,oo⟩
   have d99:=of_decide_eq_false j;refine gL h<|au 0xd431c25 ?_;clear h;intro a Q h;refine Zi h (λb h=>?_) (λb h=>?_)
   ·have d113:=of_decide_eq_true b;refine gL h<|au 0x12f5e5e5e12f5e5e5e12f5e5e5e12f5e5e5e431e25 ?_;refine zB [(_,_),(_,_),(_,_),(_,_)] I (De _ _ _ _ _ _ _ _ _ _ _ _ _ _ _ _ _ _ _ _ _ _ _ _) λs=>?_;refine apC E8 (Xw (BE J.cells) (1+nx%3) i) [((2*(i%(1+nx%3)),2*(i/(1+nx%3))),((2*(i%(1+nx%3)))+2,2*(i/(1+nx%3))),((2*(i%(1+nx%3)))+1,(2*(i/(1+nx%3)))+1)),(((2*(i%(1+nx%3)))+2,2*(i/(1+nx%3))),((2*(i%(1+nx%3)))+2,(2*(i/(1+nx%3)))+2),((2*(i%(1+nx%3)))+1,(2*(i/(1+nx%3)))+1)),(((2*(i%(1+nx%3)))+2,(2*(i/(1+nx%3)))+2),(2*(i%(1+nx%3)),(2*(i/(1+nx%3)))+2),((2*(i%(1+nx%3)))+1,(2*(i/(1+nx%3)))+1)),((2*(i%(1+nx%3)),(2*(i/(1+nx%3)))+2),(2*(i%(1+nx%3)),2*(i/(1+nx%3))),((2*(i%(1+nx%3)))+1,(2*(i/(1+nx%3)))+1))] k ?_ (hr:=by(try dsimp only);have:=Gz (BE J.cells) (1+nx%3) i;omega);intro p A u f a Q h;refine gL h<|au 0x4325 ?_;refine zp (.pN (i+1)<|.add I I)<|au 0x25 ?_;clear h;intro a Q h;rw[Gn (w:=BE J.cells) (a:=1+nx%3) (i:=i) (ng oo oo oo)] at h f;exact⟨i+1,⟨oo,p,A,u,f,by exact tO h⟩,oo⟩
   have d113:=of_decide_eq_false b;refine gL h<|au 0x437c25 ?_;refine zp (.pN (i+1)<|.add I I)<|au 0x25 ?_;clear h;intro a Q h;rw[<-gD (Xw (BE J.cells) (1+nx%3) i),Gn (w:=BE J.cells) (a:=1+nx%3) (i:=i) (nc oo oo oo)] at h k;exact⟨i+1,⟨oo,q,c1,m,k,by exact tO h⟩,oo⟩
  have d80:=of_decide_eq_false C;refine gL h<|zq 78 I I (.move I)<|zo 81 I I I<|zo 81 I I I<|zq 78 I I (.pickF I I)<|au 0xd431c252e ?_;clear h;intro a Q h;refine Zi h (λj h=>?_) (λj h=>?_)
  ·have d99:=of_decide_eq_true j;refine gL h<|au 0x12f5e5e5e12f5e5e5e431e25 ?_;refine zB [(_,_),(_,_)] I (B1 _ _ _ _ _ _ _ _ _ _ _ _) λK=>?_;refine apC E8 (Xw (BE J.cells) (1+nx%3) i) [((2*(i%(1+nx%3)),2*(i/(1+nx%3))),((2*(i%(1+nx%3)))+2,2*(i/(1+nx%3))),(2*(i%(1+nx%3)),(2*(i/(1+nx%3)))+2)),(((2*(i%(1+nx%3)))+2,2*(i/(1+nx%3))),((2*(i%(1+nx%3)))+2,(2*(i/(1+nx%3)))+2),(2*(i%(1+nx%3)),(2*(i/(1+nx%3)))+2))] k ?_ (hr:=by(try dsimp only);have:=Gz (BE J.cells) (1+nx%3) i;omega);intro r z y g a Q h;refine gL h<|au 0x4325 ?_;refine zp (.pN (i+1)<|.add I I)<|au 0x25 ?_;clear h;intro a Q h;rw[Gn (w:=BE J.cells) (a:=1+nx%3) (i:=i) (nh oo oo)] at h g;exact⟨i+1,⟨oo,r,z,y,g,by exact tO h⟩,oo⟩
  have d99:=of_decide_eq_false j;refine gL h<|au 0xd431c25 ?_;clear h;intro a Q h;refine Zi h (λb h=>?_) (λb h=>?_)
  ·have d113:=of_decide_eq_true b;refine gL h<|au 0x12f5e5e5e12f5e5e5e12f5e5e5e12f5e5e5e431e25 ?_;refine zB [(_,_),(_,_),(_,_),(_,_)] I (De _ _ _ _ _ _ _ _ _ _ _ _ _ _ _ _ _ _ _ _ _ _ _ _) λs=>?_;refine apC E8 (Xw (BE J.cells) (1+nx%3) i) [((2*(i%(1+nx%3)),2*(i/(1+nx%3))),((2*(i%(1+nx%3)))+2,2*(i/(1+nx%3))),((2*(i%(1+nx%3)))+1,(2*(i/(1+nx%3)))+1)),(((2*(i%(1+nx%3)))+2,2*(i/(1+nx%3))),((2*(i%(1+nx%3)))+2,(2*(i/(1+nx%3)))+2),((2*(i%(1+nx%3)))+1,(2*(i/(1+nx%3)))+1)),(((2*(i%(1+nx%3)))+2,(2*(i/(1+nx%3)))+2),(2*(i%(1+nx%3)),(2*(i/(1+nx%3)))+2),((2*(i%(1+nx%3)))+1,(2*(i/(1+nx%3)))+1)),((2*(i%(1+nx%3)),(2*(i/(1+nx%3)))+2),(2*(i%(1+nx%3)),2*(i/(1+nx%3))),((2*(i%(1+nx%3)))+1,(2*(i/(1+nx%3)))+1))] k ?_ (hr:=by(try dsimp only);have:=Gz (BE J.cells) (1+nx%3) i;omega);intro p A u f a Q h;refine gL h<|au 0x4325 ?_;refine zp (.pN (i+1)<|.add I I)<|au 0x25 ?_;clear h;intro a Q h;rw[Gn (w:=BE J.cells) (a:=1+nx%3) (i:=i) (ng oo oo oo)] at h f;exact⟨i+1,⟨oo,p,A,u,f,by exact tO h⟩,oo⟩
  have d113:=of_decide_eq_false b;refine gL h<|au 0x437c25 ?_;refine zp (.pN (i+1)<|.add I I)<|au 0x25 ?_;clear h;intro a Q h;rw[<-gD (Xw (BE J.cells) (1+nx%3) i),Gn (w:=BE J.cells) (a:=1+nx%3) (i:=i) (nc oo oo oo)] at h k;exact⟨i+1,⟨oo,q,c1,m,k,by exact tO h⟩,oo⟩
 have G:(1+nx%3)*(1+ny%3)=i:=dF t;subst G;refine gC h<|au 0x6254310e ?_;clear h;intro a Q h;refine HV h (Zd h I<|.tmp I) ⟨q,c1,rfl,k⟩<|fv _ _
theorem Nr: RN (Instr.fieldAt 26 (.pointer (some ⟨b,s,none⟩)) 3) (.pointer (some ⟨b,s+3,none⟩)):=λw=>by
 simp[go_sem]
theorem jw: RN (Instr.indexAt 24 (.pointer (some ⟨w,i,none⟩)) (.int .i64 0)) (.pointer (some ⟨w,i+0,none⟩)):=λa=>by
 simp[go_sem,Instr.indexAt]
theorem rs_9_3: Zm false 1 #[g,h,o,a,f,e,p,q,r] 3=some a:=rfl
theorem jv: RN (Instr.indexAt 24 (.pointer (some ⟨w,i,none⟩)) (.int .i64 1)) (.pointer (some ⟨w,i+1,none⟩)):=λa=>by
 simp[go_sem,Instr.indexAt]
theorem rs_9_4: Zm false 1 #[g,h,o,a,f,e,p,q,r] 4=some f:=rfl
theorem ju: RN (Instr.indexAt 24 (.pointer (some ⟨w,i,none⟩)) (.int .i64 2)) (.pointer (some ⟨w,i+2,none⟩)):=λa=>by
 simp[go_sem,Instr.indexAt]
theorem rs_9_5: Zm false 1 #[g,h,o,a,f,e,p,q,r] 5=some e:=rfl
theorem jt: RN (Instr.indexAt 24 (.pointer (some ⟨w,i,none⟩)) (.int .i64 3)) (.pointer (some ⟨w,i+3,none⟩)):=λa=>by
 simp[go_sem,Instr.indexAt]
theorem rs_9_6: Zm false 1 #[g,h,o,a,f,e,p,q,r] 6=some p:=rfl
theorem EP(d:Int): RN (Instr.build 358 [(0,.int .i64 v),(1,.int .i64 K),(2,.int .i64 Y),(3,.int .i64 d)].toArray) (.agg #[.int .i64 v,.int .i64 K,.int .i64 Y,.int .i64 d]):=λw=>by simp[go_sem]
theorem bw: RN (Instr.indexAt 358 (.pointer (some ⟨w,i,none⟩)) (.int .i64 0)) (.pointer (some ⟨w,i+0,none⟩)):=λa=>by
 simp[go_sem,Instr.indexAt]
theorem br: RN (Instr.indexAt 358 (.pointer (some ⟨w,i,none⟩)) (.int .i64 3)) (.pointer (some ⟨w,i+3,none⟩)):=λa=>by
 simp[go_sem,Instr.indexAt]
theorem bv: RN (Instr.indexAt 358 (.pointer (some ⟨w,i,none⟩)) (.int .i64 1)) (.pointer (some ⟨w,i+1,none⟩)):=λa=>by
 simp[go_sem,Instr.indexAt]
theorem bu: RN (Instr.indexAt 358 (.pointer (some ⟨w,i,none⟩)) (.int .i64 2)) (.pointer (some ⟨w,i+2,none⟩)):=λa=>by
 simp[go_sem,Instr.indexAt]
theorem HC: RN (Instr.build 225 [(0,.int .i64 v),(1,.int .i64 K)].toArray) (.agg #[.int .i64 v,.int .i64 K]):=λw=>by simp[go_sem]
abbrev mq(x:Int): Int:=x.tmod 4
abbrev pW(m:M25): Int:=mq m.m0*mq m.m3-mq m.m1*mq m.m2
def mK(m:M25): Int×Int×Int×Int:=if pW m=0 then (1,0,0,1) else if pW m<0 then (mq m.m0,mq m.m1, -mq m.m2, -mq m.m3) else (mq m.m0,mq m.m1,mq m.m2,mq m.m3)
def mvP(m:M25)(p:Nat×Nat): Int×Int:=((mK m).1*(p.1:Int)+(mK m).2.1*(p.2:Int),(mK m).2.2.1*(p.1:Int)+(mK m).2.2.2*(p.2:Int))
theorem Ig: -3<=mq v/\mq v<=3:=by
 have h1:=uM v (show(0:Int)<4 by decide);have a:=uM (-v) (show(0:Int)<4 by decide);rw[Int.neg_tmod] at a;show -3<=v.tmod 4/\v.tmod 4<=3;omega
theorem QH(h:-3<=a7/\a7<=3)(c:b<=6): -18<=a7*(b:Int)/\a7*(b:Int)<=18:=by
 have ha:a7 = -3\/a7 = -2\/a7 = -1\/a7=0\/a7=1\/a7=2\/a7=3:=oo;rcases ha with rfl|rfl|rfl|rfl|rfl|rfl|rfl<;>omega
structure WI(m:M25): Prop where
 m0:I8 m.m0
 m1:I8 m.m1
 m2:I8 m.m2
 m3:I8 m.m3
 den:U8 m.den
 cells:∀c∈m.cells,U8 c
 n:m.cells.length<=9223372036854775807
theorem sg(d:L.1<=6)(e:L.2<=6): Jk prog 233 [Fa J H w,Zx L] (Ih (mvP J L)):=by
 have q0:=Ig J.m0;have q1:=Ig J.m1;have q2:=Ig J.m2;have f:=Ig J.m3;have j : -3 <= -mq J.m2 /\ -mq J.m2<=3:=oo;have i : -3 <= -mq J.m3 /\ -mq J.m3<=3:=oo;have u:=Hf q0.1 q0.2 f.1 f.2;have t:=Hf q1.1 q1.2 q2.1 q2.2;have l:=QH q0 d;have v:=QH q0 e;have n:=QH q1 d;have y:=QH q1 e;have r:=QH q2 d;have k:=QH q2 e;have s:=QH f d;have A:=QH f e;have x:=QH j d;have B:=QH j e;have o:=QH i d;have q:=QH i e;simp only[mq] at *
 refine fnI func233 I ntmps233 λS w0 G=>zS (zx I λE=>zx I λD=>zz lY λF=>zn<|zS<|zp (.fA I Nr)<|zp (.indexAddr I I<|jw _ _)<|ldZ rs_9_3 ?_);refine au 0xf6fa4f ?_;refine zp (.fA I Nr)<|zp (.indexAddr I I<|jv _ _)<|ldZ rs_9_4 ?_;refine au 0xf6fa4f ?_;refine zp (.fA I Nr)<|zp (.indexAddr I I<|ju _ _)<|ldZ rs_9_5 ?_;refine au 0xf6fa4f ?_;refine zp (.fA I Nr)<|zp (.indexAddr I I<|jt _ _)<|ldZ rs_9_6 ?_;refine au 0xf6fa4f ?_;refine zp (.build [(_,_),(_,_),(_,_),(_,_)] I<|EP _ _ _ _) (zz zeroValue358 λC=>stW I I Yc ?_);refine au 0x09f63f9cf312 ?_;refine ldZ Du ?_;refine au 0x19f44f8cf92f ?_;refine ldZ Dv ?_;refine au 0xae43112586f92f ?_;intro a K h;refine Zi h (λc h=>?_) (λc h=>?_)
 ·refine wpList_nil<|cW<|Qq h I ?_;refine gC h<|zr<|zp (.build [(_,_),(_,_),(_,_),(_,_)] I<|EP _ _ _ _)<|stW I I Yc ?_;refine au 0xd43112 ?_;clear h;intro a K h;refine Zi h (λb h=>(by exfalso;have q1:=eq_of_beq c;have q2:=of_decide_eq_true b;omega)) (λb h=>?_);refine wpList_nil<|cW<|Zj h I<|gC h<|au 0x463f9cf3125d1f29f312501f39f317 ?_;refine zp (.pN (1*((L).1))<|.mul I I)<|au 0x444f8cf ?_;refine zp (.pN (0*((L).2))<|.mul I I)<|zp (.pN ((1*((L).1))+(0*((L).2)))<|.add I I)<|au 0x19f ?_;refine ldZ Dv ?_;refine zm I<|zp (.pN (0*((L).1))<|.mul I I)<|au 0x09f ?_;refine ldZ Du ?_;refine zm I<|zp (.pN (1*((L).2))<|.mul I I)<|zp (.pN ((0*((L).1))+(1*((L).2)))<|.add I I)<|zp (.build [(_,_),(_,_)] I<|HC _ _)<|stW I I Zt ?_;refine zn<|zt ?_;clear h;intro a K h;refine Xh h (Zd h I<|rC Qt) ?_;simp only[mvP,mK,pW,mq,if_pos (eq_of_beq c)];rfl
 refine wpList_nil<|cW<|Zj h I<|gC h<|au 0xd43117 ?_;clear h;intro a K h;refine Zi h (λb h=>?_) (λb h=>?_)
 ·refine wpList_nil<|cW<|Qq h I ?_;refine gC h<|au 0x19f31 ?_;refine ldZ Dv ?_;refine zp (.unOp I (λK=>Mq _ oo oo K))<|au 0x19f ?_;refine stW I I Iq ?_;refine au 0x09f32 ?_;refine ldZ Du ?_;refine zp (.unOp I (λK=>Mq _ oo oo K))<|au 0x09f ?_;refine stW I I Ip ?_;refine au 0x19ff0f92f444f8cf92f463f9cf3125d1f29f312501f39f312 ?_;refine ldZ Dv ?_;refine au 0x09f92f4 ?_;refine ldZ Du ?_;refine au 0xf0f92f4 ?_;refine zp (.build [(_,_),(_,_)] I<|HC _ _)<|stW I I Zt ?_;refine zn<|zt ?_;clear h;intro a K h;refine Xh h (Zd h I<|rC Qt) ?_;simp only[mvP,mK,pW,mq,if_neg (ne_of_beq_false c),if_pos (of_decide_eq_true b)]
 refine wpList_nil<|cW<|Zj h I<|gC h<|au 0x19ff0f92f444f8cf92f463f9cf3125d1f29f312501f39f317 ?_;refine ldZ Dv ?_;refine au 0x09f92f4 ?_;refine ldZ Du ?_;refine au 0xf0f92f4 ?_;refine zp (.build [(_,_),(_,_)] I<|HC _ _)<|stW I I Zt ?_;refine zn<|zt ?_;clear h;intro a K h;refine Xh h (Zd h I<|rC Qt) ?_;simp only[mvP,mK,pW,mq,if_neg (ne_of_beq_false c),if_neg (of_decide_eq_false b)]
theorem ck2_d2: RN (Instr.checkKey c8 10000 130 (Zx L)) ():=λw=>by
 rw[show(10000:Nat)=9999+1 from rfl,Instr.checkKey];have h1:=Ik c8 9998 (L.1:Int);have a:=Ik c8 9998 (L.2:Int);simp[go_sem,h1,a,List.range']
theorem mU: RN (Op.equal 130 (Zx L) (Zx b0)) (decide (L=b0)):=λw=>by
 obtain ⟨i,j⟩:=L;obtain ⟨k,l⟩:=b0;unfold Op.equal;rw[show Op.maxDepth=9999+1 from rfl,Op.equalIn];simp[go_sem,List.range'];by_cases h1:i=k<;>by_cases a:j=l<;>simp[h1,a,AP]
theorem Rz:MK prog 165 130 3 Zx (Qb 0):=MK.ofAgg (D:=_) runUnderlying165 zeroValue3 runUnderlying130 (λ_ _=>rfl) ck2_d2 (λx=>by simp[Instr.sameBits]) mU
theorem YW: RN (do eqGuard .eql 130 c9 e0 (Zx L) (Zx b0);Go.binOp .eql 130 (Zx L) (Zx b0):Sem Value) (.bool (decide (L=b0))):=λw=>by
 have e:=mU L b0 w;unfold Op.equal at e;rw[show Op.maxDepth=10000 from rfl] at e;simp[go_sem,e]
theorem pn(h:b<X.length)(hs:s<3): Zm true 2 (cellsOf E8 X).toArray (b*6+s*2)=some (Zx (Fh (X.getD b cl0) s)):=by
 have:s=0\/s=1\/s=2:=oo;rcases this with rfl|rfl|rfl<;>exact Ko (k:=6) (enc:=E8) (λ_=>rfl) X cl0 b h true 2 _ _ dd dd rfl
theorem lt_T6(h:b<X.length)(hs:s<3): b*6+s*2<(cellsOf E8 X).length:=EI (k:=6) (enc:=E8) (λ_=>rfl) X b (s*2) h oo
theorem S8: shF w i x<3:=gF _ dd
theorem jl(h:decide (y.getD b (0,0)=u)=true): Dh y u (b+1)=(b:Int):=if_pos (of_decide_eq_true h)
theorem qf(h:decide (y.getD b (0,0)=u)=false): Dh y u (b+1)=Dh y u b:=if_neg (of_decide_eq_false h)
theorem SC(h:Dh y u y.length<0): atP y u=y.length:=if_pos h
theorem eE(h:Dh y u y.length=(b:Int)): atP y u=b:=by unfold atP;rw[if_neg oo,h];rfl
theorem Rn(h:Dh y u y.length<0): plP y u=y++[u]:=if_pos h
theorem Rm(h:¬Dh y u y.length<0): plP y u=y:=if_neg h
theorem pz: (plP e1 L).length<=e1.length+1:=by unfold plP;split<;>simp
theorem Rl(c:(Nat×Nat)×(Nat×Nat)×(Nat×Nat))(F t:Nat): ∀i pl,(plT c F t i pl).length<=pl.length+i
 | 0,_=>aZ _
 | i+1,pl=>by rw[plT];have:=pz (plT c F t i pl) (Fh c (shF F t i));have:=Rl c F t i pl;omega
theorem MF(l:List ((Nat×Nat)×(Nat×Nat)×(Nat×Nat)))(F:Nat): ∀t,(plW l F t).length<=3*t
 | 0=>aZ _
 | t+1=>by rw[plW];have:=Rl (l.getD t cl0) F t 3 (plW l F t);have:=MF l F t;omega
theorem Af(l:List ((Nat×Nat)×(Nat×Nat)×(Nat×Nat)))(F:Nat): ∀t,(trW l F t).length=t
 | 0=>rfl
 | t+1=>by rw[trW,bd,Af l F t];rfl
theorem list3(h:b1.length=3)(f:b1.getD 0 0=b)(h1:b1.getD 1 0=s)(e:b1.getD 2 0=t): b1=[b,s,t]:=by
 match b1,h with
 | [x,y,z],_=>simp only[List.getD,List.getElem?_cons_zero,List.getElem?_cons_succ,et] at f h1 e;rw[f,h1,e]
theorem Uf(c:b<b1.length)(h:∀k,k<b->b1.getD k 0=a8 k)(hv:s=a8 b): ∀k,k<b+1->(b1.set b s).getD k 0=a8 k:=λk hk=>by
 by_cases e:k=b
 ·rw[e];simp[List.getD,c,hv]
 simp only[List.getD];rw[List.getElem?_set_ne (λx=>e x.symm)];exact h k oo
theorem cnt_le(c:List (Nat×Nat×Nat))(a b:Nat): ∀t,Dc c a b t<=t
 | 0=>aZ _
 | t+1=>by rw[Dc];have:=cnt_le c a b t;split<;>omega
theorem ra(h1:Ay (Q.getD t (0,0,0)) b=true)(d:Ay (Q.getD t (0,0,0)) s=true): Dc Q b s t+1=Dc Q b s (t+1):=by rw[Dc,h1,d];rfl
theorem mY(h:(Ay (Q.getD t (0,0,0)) b && Ay (Q.getD t (0,0,0)) s)=false): Dc Q b s t=Dc Q b s (t+1):=by rw[Dc,h];rfl
theorem Rb(c:List (Nat×Nat×Nat))(F a:Nat): ∀b,b<=a+1->sdI c F a b=[]
 | 0,_=>rfl
 | b+1,h=>by rw[sdI,Rb c F a b oo,if_neg oo];rfl
theorem ou(h:s<t)(hc:(((Dc Q s t Q.length:Nat):Int) == 1)=true): sdI Q b s (t+1)=sdI Q b s t++[(s,t,(s+3*t+b)%5)]:=by
 rw[sdI,if_pos ⟨h,by have:=eq_of_beq hc;omega⟩]
theorem sdI_no{F:Nat}(hc:(((Dc Q s t Q.length:Nat):Int) == 1)=false): sdI Q F s (t+1)=sdI Q F s t:=by
 rw[sdI,if_neg (λh=>by rw[h.2] at hc;cases hc),gD]
theorem Rc(c:List (Nat×Nat×Nat))(F a:Nat): ∀b,(sdI c F a b).length<=b
 | 0=>aZ _
 | b+1=>by rw[sdI,bd];have:=Rc c F a b;split<;>(simp only[dc,oT];omega)
theorem Q9(b:List (Nat×Nat×Nat))(F n:Nat): ∀a,(sdW b F n a).length<=a*n
 | 0=>by rw[tH];exact aZ _
 | a+1=>by rw[sdW,bd,dk,tt];have:=Rc b F a n;have:=Q9 b F n a;omega
def In6(l:List ((Nat×Nat)×(Nat×Nat)×(Nat×Nat))): Prop := ∀t∈l,∀i,(Fh t i).1<=6/\(Fh t i).2<=6
theorem My: Zm true 9 #[g,h,o,a,f,e,p,q,r] 0=some (.agg #[g,h,o,a,f,e,p,q,r]):=rfl
theorem MQ: (Go.builtin .len #[315] R S #[.slice H w i]).run prog z=.ok (.value (.int .i64 w)) z:=by
 simp[go_sem]
theorem Sc: RN (Instr.fieldAt 26 (.pointer (some ⟨b,s,none⟩)) 5) (.pointer (some ⟨b,s+8,none⟩)):=λw=>by
 simp[go_sem]
theorem YZ: Zm false 1 #[g,h,o,a,f,e,p,q,r] 8=some r:=rfl
theorem ix_315(h:E<x): RN (Instr.indexAt 315 (.slice (some ⟨w,i,none⟩) x F) (.int .i64 (E:Int))) (.pointer (some ⟨w,i+E*6,none⟩)):=λa=>by
 simpa using Qf runUnderlying315 sizeOf317 w i x F E h a
theorem qh(h:x<3)(a:World): (Instr.indexAt 317 (.pointer (some ⟨w,i,none⟩)) (.int .i64 (x:Int))).run prog a=.ok (.pointer (some ⟨w,i+x*2,none⟩)) a :=  E1 runUnderlying317 sizeOf130 w i x h a
theorem qk(h:E<x): RN (Instr.indexAt 84 (.slice (some ⟨w,i,none⟩) x F) (.int .i64 (E:Int))) (.pointer (some ⟨w,i+E*2,none⟩)):=λa=>by
 simpa using Qf runUnderlying84 sizeOf130 w i x F E h a
theorem KG: (Instr.buildSlice 84 1 [(0,.agg #[A,B])].toArray).run prog z=.ok (.slice (some ⟨z.heap.size,0,none⟩) 1 1) (z.alloc (.cells #[A,B] 130 (0,0))):=by
 simp[go_sem]
theorem Um: RN (Instr.fieldAt 223 (.pointer (some ⟨b,s,none⟩)) 0) (.pointer (some ⟨b,s+0,none⟩)):=λw=>by
 simp[go_sem]
theorem WA: (Instr.buildSlice 221 1 [(0,.agg #[A,B])].toArray).run prog z=.ok (.slice (some ⟨z.heap.size,0,none⟩) 1 1) (z.alloc (.cells #[A,B] 225 (0,0))):=by
 simp[go_sem]
theorem Fq: Zp #[g,h,o] 0 [a]=#[a,h,o]:=rfl
theorem Ul: RN (Instr.fieldAt 223 (.pointer (some ⟨b,s,none⟩)) 1) (.pointer (some ⟨b,s+1,none⟩)):=λw=>by
 simp[go_sem]
theorem BB: (Instr.buildSlice 35 1 [(0,.agg #[A,B,C])].toArray).run prog z=.ok (.slice (some ⟨z.heap.size,0,none⟩) 1 1) (z.alloc (.cells #[A,B,C] 133 (0,0))):=by
 simp[go_sem]
theorem Mk: Zp #[g,h,o] 1 [a]=#[g,a,o]:=rfl
theorem Ey: RN (Instr.fieldAt 223 (.pointer (some ⟨b,s,none⟩)) 2) (.pointer (some ⟨b,s+2,none⟩)):=λw=>by
 simp[go_sem]
theorem P0: RN (Instr.build 133 [(0,.int .i64 v),(1,.int .i64 K),(2,.int .i64 Y)].toArray) (.agg #[.int .i64 v,.int .i64 K,.int .i64 Y]):=λw=>by simp[go_sem]
theorem Ir: Zp #[g,h,o] 2 [a]=#[g,h,a]:=rfl
theorem lw(nx ny F:Nat)(hx:J.nx=((nx:Nat):Int))(hy:J.ny=((ny:Nat):Int))(hf:J.first=((F:Nat):Int))(j1:nx<=255)(i7:ny<=255)(hF:F<=255)(hm:WI J)(l:List ((Nat×Nat)×(Nat×Nat)×(Nat×Nat)))(hl:Xw (BE J.cells) (1+nx%3) ((1+nx%3)*(1+ny%3))=l)(h6:In6 l)(pl:List (Nat×Nat))(e8:plW l F l.length=pl)(e:List (Nat×Nat×Nat))(h2:trW l F l.length=e):
  Ctr prog 140 [Fa J H w] [Row H (List.map BJ J.cells)] (λv Ψ => ∃a2 c2 a3 D a4 c4,v=.agg #[.slice a2 (List.map (mvP J) pl).length c2,.slice a3 e.length D,.slice a4 (sdW e F pl.length pl.length).length c4] /\
   Ψ=[Row a4 (cellsOf Ze (sdW e F pl.length pl.length)),Row a3 (cellsOf Ze e),Row a2 (cellsOf Ih (List.map (mvP J) pl))]):=by
 have e9:l.length<=36:=by
  rw[<-hl];have hN:(1+nx%3)*(1+ny%3)<=9:=bp (ka (show 1+nx%3<=3 by omega) (show 1+ny%3<=3 by omega)) dd;exact bp (Gz _ _ _) oo
 have e3:pl.length<=108:=by rw[<-e8];have:=MF l F l.length;omega
 have j3:e.length<=36:=by rw[<-h2,Af];exact e9
 refine fnI func140 I ntmps140 λS w0 hS=>zS (zx I λb1=>zz zeroValue223 λb2=>zn<|zS (zz zeroValue223 λb3=>au 0x3125312 ?_));refine ldZ My ?_;intro a c3 h;refine Zc<|Xd h (vs:=[_]) I call232 (sx J H w nx ny hx hy j1 i7 hm.cells hm.n) ss dd ?_;clear h;rintro v17 j8 a c3 ⟨e6,l7,rfl,c7⟩ h;rw[hl] at h c7;replace h:=h.shareO' hS c7;refine gL h<|au 0x82531125 ?_;clear h;intro a c3 h;refine lpG h [1,2,3,5] pkL (λY Z (t:Nat) a c3=>t<=l.length /\ ∃(a1:Option Addr) (c1:Nat) (o1:List (Nat×Obj)) (a2:Option Addr) (c2:Nat) (o2:List (Nat×Obj)) (a3:Option Addr) (D:Nat) (o3:List (Nat×Obj)),(GrowO 2 130 (.slice a1 (plW l F t).length c1) (plW l F t).length (cellsOf Zx<|plW l F t) o1/\GrowO 2 225 (.slice a2 (List.map (mvP J)<|plW l F t).length c2) (List.map (mvP J)<|plW l F t).length (cellsOf Ih<|List.map (mvP J)<|plW l F t) o2/\GrowO 3 133 (.slice a3 (trW l F t).length D) (trW l F t).length (cellsOf Ze<|trW l F t) o3)/\St 143 S w0 ((4,(.slice a1 (plW l F t).length c1))::(6,nI t)::Y) (o1++(o2++(o3++((b3,bV (.agg #[(.slice a2 (List.map (mvP J)<|plW l F t).length c2),(.slice a3 (trW l F t).length D),(.slice none 0 0)]) 223)::((b2,bV (.agg #[(.slice none 0 0),(.slice none 0 0),(.slice none 0 0)]) 223)::((b1,bV (Fa J H w) 26)::[])))))) Z a c3) (λt=>l.length-t) 0 (⟨cX _,none,0,[],none,0,[],none,0,[],⟨GrowO.nil _ _,GrowO.nil _ _,GrowO.nil _ _⟩,by exact(h).sub sA⟩) ?_;clear h;rintro t a c3 ⟨h7,a1,c1,o1,a2,c2,o2,a3,D,o3,⟨h3,X,L⟩,h⟩;refine gC h<|au 0x44311 ?_;refine zp (.builtin [_] I<|MQ _ _ _)<|au 0x2d ?_;intro a c3 h;refine Zb h I (λo=>?_) (λo=>?_)
 ·have g:t<l.length:=dT o;obtain ⟨a8,b4,rfl⟩:=h.row_addr (ad:=e6) (M:=cellsOf E8 l) mm (nE 6);have l9:t*(F/3)<=36*85:=ka oo oo;have l5:=MF l F t;have l3:=Af l F t;refine gC h<|zk<|zs<|zb<|zS (zz Bj λb7=>au 0x8253112 ?_);clear h;intro a c3 h;refine lpG h [1,2,3,5,6,7] pkL (λY Z (i:Nat) a c3=>i<=3 /\ ∃(ns:List Nat) (a5:Option Addr) (E:Nat) (C:List (Nat×Obj)) (a6:Option Addr) (c6:Nat) (o6:List (Nat×Obj)),(ns.length=3/\(∀k,k<i->ns.getD k 0=atP (plT (l.getD t cl0) F t k<|plW l F t) (Fh (l.getD t cl0)<|shF F t k))/\GrowO 2 130 (.slice a5 (plT (l.getD t cl0) F t i<|plW l F t).length E) (plT (l.getD t cl0) F t i<|plW l F t).length (cellsOf Zx<|plT (l.getD t cl0) F t i<|plW l F t) C/\GrowO 2 225 (.slice a6 (List.map (mvP J)<|plT (l.getD t cl0) F t i<|plW l F t).length c6) (List.map (mvP J)<|plT (l.getD t cl0) F t i<|plW l F t).length (cellsOf Ih<|List.map (mvP J)<|plT (l.getD t cl0) F t i<|plW l F t) o6)/\St 143 S w0 ((4,(.slice a5 (plT (l.getD t cl0) F t i<|plW l F t).length E))::(8,nI i)::Y) ((b7,.cells (List.map Qb<|ns).toArray 133 (0,0))::(C++(o6++(o3++((b3,bV (.agg #[(.slice a6 (List.map (mvP J)<|plT (l.getD t cl0) F t i<|plW l F t).length c6),(.slice a3 (trW l F t).length D),(.slice none 0 0)]) 223)::((b2,bV (.agg #[(.slice none 0 0),(.slice none 0 0),(.slice none 0 0)]) 223)::((b1,bV (Fa J H w) 26)::[]))))))) Z a c3) (λi=>3-i) 0 (⟨cX _,[0,0,0],a1,c1,o1,a2,c2,o2,⟨rfl,λ_ h=>absurd h (gS _),h3,X⟩,by exact h.sub sA⟩) ?_;clear h;rintro i a c3 ⟨k6,ns,a5,E,C,a6,c6,o6,⟨e1,O,f,V⟩,h⟩;refine gC h<|au 0x2d4311 ?_;intro a c3 h;refine Zb h I (λT=>?_) (λT=>?_)
  ·have j0:i<3:=dT T;have l2:=Rl (l.getD t cl0) F t i (plW l F t);refine gC h<|zk<|zs<|zb<|zs<|yF [0,1,2,3,4,5,6,7,8,9,10,11,12,13,14,15,16,17,18,19]<|au 0x999 ?_;refine yp I (.fA I Sc)<|ldY YZ ?_;clear h;refine yp I (aq (v':=.int .i64 ((F:Nat):Int)) (.convert I<|NJ _<|wrap_i64 _ oo oo) (by rw[hf]))<|yp I (.pN (i+F)<|.add I I)<|au 0x9 ?_;refine yp I (.fA I Sc)<|ldY YZ ?_;refine yp I (aq (v':=.int .u8 ((F/3:Nat):Int)) (.binOp I I (λ_=>ET _ _ _ _ _ dd)) (by rw[hf,show(3:Int)=((3:Nat):Int) from I,CC,wrap_u8 _ oo oo]))<|yp I (.convert I<|NJ _<|wrap_i64 _ oo oo)<|yp I (.pN (t*(F/3))<|.mul I I)<|yp I (.pN ((i+F)+(t*(F/3)))<|.add I I)<|yp I (aq (v':=.int .i64 ((shF F t i:Nat):Int)) (.binOp I I (λ_=>Yx _ _ _ _ _ dd)) (by rw[show(3:Int)=((3:Nat):Int) from I,Yw];rfl))<|yp I (.indexAddr I I<|ix_315 _ _ _ _ _ oo)<|yp I (aq (v':=.pointer<|some ⟨a8,b4+(t*6+shF F t i*2),none⟩) (.indexAddr I I<|qh _ _ _ (by exact S8 _ _ _)) (by rw[gT])) ?_;refine Zf (M:=cellsOf E8 l) (j:=t*6+shF F t i*2) I kk I mm (lt_T6 g<|S8 F t i) isAgg130 sizeOf130 (pn g<|S8 F t i) (.inl I) dd ?_;refine yz I IM λb9=>stV I I I Zt ?_;refine au 0x8253112531a ?_;intro a c3 h;refine lpG h [1,2,3,4,5,6,7,8,9] pkL (λY Z (k:Nat) a c3=>k<=(plT (l.getD t cl0) F t i<|plW l F t).length/\St 143 S w0 ((10,.int .i64<|Dh (plT (l.getD t cl0) F t i<|plW l F t) (Fh (l.getD t cl0)<|shF F t i) k)::(11,nI k)::Y) ((b9,bV (Zx<|Fh (l.getD t cl0)<|shF F t i) 130)::((b7,.cells (List.map Qb<|ns).toArray 133 (0,0))::(C++(o6++(o3++((b3,bV (.agg #[(.slice a6 (List.map (mvP J)<|plT (l.getD t cl0) F t i<|plW l F t).length c6),(.slice a3 (trW l F t).length D),(.slice none 0 0)]) 223)::((b2,bV (.agg #[(.slice none 0 0),(.slice none 0 0),(.slice none 0 0)]) 223)::((b1,bV (Fa J H w) 26)::[])))))))) Z a c3) (λk=>(plT (l.getD t cl0) F t i<|plW l F t).length-k) 0 (⟨cX _,by exact(h).sub sA⟩) ?_;clear h;rintro k a c3 ⟨j9,h⟩;refine gC h<|au 0x2de8f44311 ?_;intro a c3 h;refine Zb h I (λR=>?_) (λR=>?_)
   ·have i1:k<(plT (l.getD t cl0) F t i (plW l F t)).length:=dT R;obtain ⟨k8,h5,rfl,P⟩:=Ue f oo;refine gC h<|zk<|zs<|zb<|zs<|yE [0,1,2,3,4,5]<|au 0x99 ?_;refine yp I (.indexAddr I I<|qk _ _ _ _ _ oo)<|yd I I (by repeat(first|exact P|exact hI _ P|apply List.Mem.tail|apply eg)) isAgg130 sizeOf130 (Ge (k:=2) (λ_=>rfl) ((λ_=>rfl)) (plT (l.getD t cl0) F t i<|plW l F t) h5 (0,0) k oo) ?_;clear h;refine au 0x51f ?_;refine yp I (.binOp I I (λ_=>YW _ _ ((plT (l.getD t cl0) F t i<|plW l F t).getD k (0,0)) (Fh (l.getD t cl0)<|shF F t i) _))<|yn ?_;intro a c3 h;refine Zb h I (λQ=>?_) (λQ=>?_);focus
     refine gC h<|au 0x432543 ?_;refine zp (.pN (k+1)<|.add I I)<|au 0x25 ?_;clear h;intro a c3 h
     (try dsimp only[nI] at h);rw[show((k:Nat):Int)=Dh (plT (l.getD t cl0) F t i (plW l F t)) (Fh (l.getD t cl0) (shF F t i)) (k+1) from(jl Q).symm] at h
    rotate_left;focus
     refine gC h<|zk<|zr<|zm I<|zp (.pN (k+1)<|.add I I)<|au 0x25 ?_;clear h;intro a c3 h;rw[<-qf Q] at h
    all_goals
     exact⟨k+1,⟨oo,tO h⟩,oo⟩
   have e0:(plT (l.getD t cl0) F t i (plW l F t)).length=k:=dF R;subst e0;refine gC h<|au 0x2d43110e ?_;clear h;intro a c3 h;refine Zb h I (λm=>?_) (λm=>?_)
   ·have B:=of_decide_eq_true m;refine gC h<|au 0x5e43125e8f431 ?_;refine zB [(_,_)] I (KG _ _) λn3=>?_;refine apC Zx (plT (l.getD t cl0) F t i<|plW l F t) [Fh (l.getD t cl0) (shF F t i)] f ?_;intro h0 j2 j5 b8 a c3 h;refine gL h<|za I<|zn<|yE [0,1,2,3,4,5,6,7,8]<|au 0xeedcf ?_;clear h;refine ldY My ?_;refine au 0x51f ?_;refine yv [_,_] I I call233 (sg J _ _ (Fh (l.getD t cl0)<|shF F t i) (h6 _ (getD_mem l (d:=cl0) g) _).1 (h6 _ (getD_mem l (d:=cl0) g) _).2) (yB I [(_,_)] I (WA _ _) λk9=>?_);refine ga Ih (List.map (mvP J)<|plT (l.getD t cl0) F t i<|plW l F t) [mvP J (Fh (l.getD t cl0)<|shF F t i)] V ?_ (hr:=by(try dsimp only);rw[az];omega);intro b6 h4 i6 N;refine au 0xdcf ?_;refine yt I I I Fq uu sizeOf221 I nb (by show((flat ((.slice b6 ((List.map (mvP J)<|plT (l.getD t cl0) F t i<|plW l F t)++[mvP J (Fh (l.getD t cl0)<|shF F t i)]).length h4)) && true))=true;simp only[GrowO.flat (N)];rfl) ?_;refine au 0xbbf443a ?_;refine zt' I I ((congrArg (λz=>Zp _ z _)<|ca _).trans<|Jc (enc:=Qb) ns i ((plT (l.getD t cl0) F t i<|plW l F t).length)) uu sizeOf3 I (by simp;omega) I ?_;refine zn<|zr<|zm I<|zp (.pN (i+1)<|.add I I)<|au 0x25 ?_;intro a c3 h;have a7:plT (l.getD t cl0) F t i (plW l F t)++[Fh (l.getD t cl0) (shF F t i)]=plT (l.getD t cl0) F t (i+1) (plW l F t):=(Rn B).symm;rw[a7] at h b8;rw[show List.map (mvP J) (plT (l.getD t cl0) F t i (plW l F t))++[mvP J (Fh (l.getD t cl0) (shF F t i))]=List.map (mvP J) (plT (l.getD t cl0) F t (i+1) (plW l F t)) from by rw[<-a7,dv];rfl] at h N;exact⟨i+1,⟨oo,_,h0,j2,j5,b6,h4,i6,⟨by rw[ea];exact e1,Uf oo O (SC B).symm,b8,N⟩,by exact tO h⟩,oo⟩
   have B:=of_decide_eq_false m;obtain ⟨q,hq⟩:∃q:Nat,Dh (plT (l.getD t cl0) F t i (plW l F t)) (Fh (l.getD t cl0) (shF F t i)) (plT (l.getD t cl0) F t i (plW l F t)).length=(q:Int):=⟨_,(tA oo).symm⟩
   rw[hq] at h;refine gC h<|au 0xbbf4437 ?_;refine zt' I I ((congrArg (λz=>Zp _ z _)<|ca _).trans<|Jc (enc:=Qb) ns i q) uu sizeOf3 I (by simp;omega) I ?_;refine zn<|zr<|zm I<|zp (.pN (i+1)<|.add I I)<|au 0x25 ?_;clear h;intro a c3 h;have a7:plT (l.getD t cl0) F t i (plW l F t)=plT (l.getD t cl0) F t (i+1) (plW l F t):=(Rm B).symm;rw[a7] at h f V;exact⟨i+1,⟨oo,_,a5,E,C,a6,c6,o6,⟨by rw[ea];exact e1,Uf oo O (eE hq).symm,f,V⟩,by exact tO h⟩,oo⟩
  have e4:3=i:=dF T;subst e4;have j6:=list3 e1 (O 0 oo) (O 1 oo) (O 2 oo);subst j6;refine gC h<|au 0xdeb0fcaf30e ?_;refine zB [(_,_)] I (BB _ _ _) λl6=>?_;refine apC Ze (trW l F t) [nT (l.getD t cl0) F t (plW l F t)] L ?_;intro b5 e5 h9 K a c3 h;refine gL h<|au 0xcaf ?_;refine zt' I I Mk uu sizeOf35 I nb (by show((flat ((.slice b5 ((trW l F t)++[nT (l.getD t cl0) F t (plW l F t)]).length e5)) && true))=true;simp only[GrowO.flat (K)];rfl) ?_;refine zn<|zr<|zm I<|zp (.pN (t+1)<|.add I I)<|au 0x25 ?_;clear h;intro a c3 h;rw[show trW l F t++[nT (l.getD t cl0) F t (plW l F t)]=trW l F (t+1) from rfl] at h K;rw[show plT (l.getD t cl0) F t 3 (plW l F t)=plW l F (t+1) from rfl] at h f V;exact⟨t+1,⟨oo,a5,E,C,a6,c6,o6,b5,e5,h9,⟨f,V,K⟩,by exact tO h⟩,oo⟩
 have A:l.length=t:=dF o;subst A;rw[e8] at h h3 X;rw[h2] at h L;refine gC h<|au 0x8253110e ?_;clear h;intro a c3 h;refine lpG h [1,2,3,4,5,6] pkL (λY Z (c:Nat) a c3=>c<=pl.length /\ ∃(a4:Option Addr) (c4:Nat) (o4:List (Nat×Obj)),(GrowO 3 133 (.slice a4 (sdW e F pl.length<|c).length c4) (sdW e F pl.length<|c).length (cellsOf Ze<|sdW e F pl.length<|c) o4)/\St 143 S w0 ((12,nI c)::Y) (o4++(o1++(o2++(o3++((b3,bV (.agg #[(.slice a2 (List.map (mvP J)<|pl).length c2),(.slice a3 (e).length D),(.slice a4 (sdW e F pl.length<|c).length c4)]) 223)::((b2,bV (.agg #[(.slice none 0 0),(.slice none 0 0),(.slice none 0 0)]) 223)::((b1,bV (Fa J H w) 26)::[]))))))) Z a c3) (λc=>pl.length-c) 0 (⟨cX _,none,0,[],GrowO.nil _ _,by exact(h).sub sA⟩) ?_;clear h;rintro c a c3 ⟨j4,a4,c4,o4,e2,h⟩;refine gC h<|au 0x2de8f44311 ?_;intro a c3 h;refine Zb h I (λU=>?_) (λU=>?_)
 ·have h8:c<pl.length:=dT U;have hmul:c*pl.length<=108*108:=ka oo e3;have l4:=Q9 e F pl.length c;refine gC h<|au 0x431817 ?_;refine zp (.pN (c+1)<|.add I I)<|au 0x825 ?_;clear h;intro a c3 h;refine lpG h [1,2,3,4,5,6,12,91] pkL (λY Z (b:Nat) a c3 => ∃(a5:Option Addr) (E:Nat) (C:List (Nat×Obj)),(c+1<=b/\b<=pl.length/\GrowO 3 133 (.slice a5 (sdW e F pl.length c++sdI e F c (b)).length E) (sdW e F pl.length c++sdI e F c (b)).length (cellsOf Ze (sdW e F pl.length c++sdI e F c (b))) C)/\St 143 S w0 ((13,nI b)::Y) (C++(o1++(o2++(o3++((b3,bV (.agg #[(.slice a2 (List.map (mvP J)<|pl).length c2),(.slice a3 (e).length D),(.slice a5 (sdW e F pl.length c++sdI e F c (b)).length E)]) 223)::((b2,bV (.agg #[(.slice none 0 0),(.slice none 0 0),(.slice none 0 0)]) 223)::((b1,bV (Fa J H w) 26)::[]))))))) Z a c3) (λb=>pl.length-b) (c+1) (⟨a4,c4,o4,⟨aZ _,oo,by rw[Rb e F c (c+1) (aZ _),gD];exact e2⟩,by rw[Rb e F c (c+1) (aZ _),gD];exact h.sub sA⟩) ?_;clear h;rintro b a c3 ⟨a5,E,C,⟨l8,n4,f⟩,h⟩;refine gC h<|au 0x2de8f44311 ?_;intro a c3 h;refine Zb h I (λW=>?_) (λW=>?_)
  ·have j7:b<pl.length:=dT W;refine gC h<|au 0x8253112531817 ?_;clear h;intro a c3 h;refine lpG h [1,2,3,4,5,6,12,13,91] pkL (λY Z (t:Nat) a c3=>t<=e.length/\St 143 S w0 ((14,nI<|Dc e c b t)::(15,nI t)::Y) (C++(o1++(o2++(o3++((b3,bV (.agg #[(.slice a2 (List.map (mvP J)<|pl).length c2),(.slice a3 (e).length D),(.slice a5 (sdW e F pl.length c++sdI e F c (b)).length E)]) 223)::((b2,bV (.agg #[(.slice none 0 0),(.slice none 0 0),(.slice none 0 0)]) 223)::((b1,bV (Fa J H w) 26)::[]))))))) Z a c3) (λt=>e.length-t) 0 (⟨cX _,by exact(h).sub sA⟩) ?_;clear h;rintro t a c3 ⟨h7,h⟩;refine gC h<|au 0x2da0fb0fcaf4311 ?_;intro a c3 h;refine Zb h I (λu=>?_) (λu=>?_)
   ·have g:t<e.length:=dT u;obtain ⟨k5,c9,rfl,p⟩:=Ue L oo;have n2:=cnt_le e c b t;refine gC h<|au 0x62f4b0fcaf31817 ?_;refine zd I (by repeat(first|exact p|exact hI _ p|apply List.Mem.tail|apply eg)) isAgg133 sizeOf133 (Ge (k:=3) (λ_=>rfl) ((λ_=>rfl)) e c9 (0,0,0) t oo) ?_;refine zm I<|zv [_,_] I call234 (C_Has (e.getD t (0,0,0)) c) ?_;clear h;intro a c3 h;refine Zi h (λr h=>?_) (λr h=>?_);focus
     refine gL h<|zm I<|zq 112 I I (.fA I Ul)<|ldQ 112 Vg ?_;refine zq 112 I I (.move I)<|zq 112 I I (.indexAddr I I<|ql _ _ _ _ _ oo) ?_;clear h;intro a c3 h;refine Zq 112 h I I<|Rr h I (by repeat(first|exact p|exact hI _ p|apply List.Mem.tail|apply eg)) isAgg133 sizeOf133 (Ge (k:=3) (λ_=>rfl) ((λ_=>rfl)) e c9 (0,0,0) t oo) dd ?_;clear h;intro a h;refine gL h<|zq 112 I I (.move I) ?_;clear h;intro a c3 h;refine Zq 112 h I I<|Xn h (vs:=[_,_]) I call234 (C_Has (e.getD t (0,0,0)) b) dd ?_;clear h;intro a c3 h;refine gL h<|au 0x23e ?_;clear h;intro a c3 h;refine Zb h I (λy=>?_) (λy=>?_);focus
      refine gC h<|zr<|zm I<|zp (.pN ((Dc e c b t)+1)<|.add I I)<|au 0x4325 ?_;refine zp (.pN (t+1)<|.add I I)<|au 0x25 ?_;clear h;intro a c3 h;rw[ra r y] at h
     rotate_left;focus
      refine gC h<|zk<|zr<|zm I<|zp (.pN (t+1)<|.add I I)<|au 0x25 ?_;clear h;intro a c3 h;rw[mY (by rw[r];exact y)] at h
    rotate_left 2;focus
     refine gL h<|zm I<|zo 112 I I I<|zo 112 I I I<|zo 112 I I I<|zo 112 I I I<|zo 112 I I I<|zo 112 I I I<|zo 112 I I I<|au 0x437c22e ?_;refine zp (.pN (t+1)<|.add I I)<|au 0x25 ?_;clear h;intro a c3 h;rw[mY (by rw[r];rfl)] at h
    all_goals
     exact⟨t+1,⟨oo,tO h⟩,oo⟩
   have A:e.length=t:=dF u;subst A;refine gC h<|au 0x2ae4310e ?_;clear h;intro a c3 h;refine Zb h I (λx=>?_) (λx=>?_)
   ·refine gC h<|zr<|zp (.fA I Ey)<|au 0x4444c1f ?_;refine zp (.pN (3*b)<|.mul I I)<|zp (.pN (c+(3*b))<|.add I I)<|zp (.fA I Sc)<|ldZ YZ ?_;refine zp (aq (v':=.int .i64 ((F:Nat):Int)) (.convert I<|NJ _<|wrap_i64 _ oo oo) (by rw[hf]))<|zp (.pN ((c+(3*b))+F)<|.add I I)<|zp (aq (v':=.int .i64 (((c+3*b+F)%5:Nat):Int)) (.binOp I I (λ_=>Yx _ _ _ _ _ dd)) (by rw[show(5:Int)=((5:Nat):Int) from I,Yw]))<|au 0x9bf ?_;refine zB [(_,_)] I (BB _ _ _) λk7=>?_;refine apC Ze (sdW e F pl.length c++sdI e F c (b)) [(c,b,(c+3*b+F)%5)] f ?_ (hr:=by(try dsimp only);have:=Rc e F c b;rw[bd];omega);intro G c8 e7 s a c3 h;refine gL h<|zp (.fA I Ey)<|zt' I I Ir uu sizeOf35 I nb (by show((flat ((.slice G ((sdW e F pl.length c++sdI e F c (b))++[(c,b,(c+3*b+F)%5)]).length c8)) && true))=true;simp only[GrowO.flat (s)];rfl) ?_;refine zn<|zr<|zm I<|zp (.pN (b+1)<|.add I I)<|au 0x25 ?_;clear h;intro a c3 h;rw[show(sdW e F pl.length c++sdI e F c (b))++[(c,b,(c+3*b+F)%5)]=sdW e F pl.length c++sdI e F c (b+1) from by rw[ou oo x,cv]] at h s;exact⟨b+1,⟨G,c8,e7,⟨oo,oo,s⟩,by exact tO h⟩,oo⟩
   refine gC h<|zk<|zr<|zm I<|zp (.pN (b+1)<|.add I I)<|au 0x25 ?_;clear h;intro a c3 h;rw[<-sdI_no (F:=F) x] at h f;exact⟨b+1,⟨a5,E,C,⟨oo,oo,f⟩,by exact tO h⟩,oo⟩
  have hb:b=pl.length:=dF W;subst hb;refine gC h<|ze<|zr<|zm I<|zp (.pN (c+1)<|.add I I)<|au 0x25 ?_;clear h;intro a c3 h;rw[show sdW e F pl.length c++sdI e F c (pl.length)=sdW e F pl.length (c+1) from rfl] at h f;exact⟨c+1,⟨oo,a5,E,C,f,by exact tO h⟩,oo⟩
 have b0:pl.length=c:=dF U;subst b0;replace h:=h.shareO' hS e2;replace h:=h.drop (uE _ _);replace h:=h.shareO' hS X;replace h:=h.shareO' hS L;refine gC h<|au 0xde310e ?_;refine zt' I I Qi uu sizeOf223 I nb (by show((flat ((.slice a2 (List.map (mvP J)<|pl).length c2)) && (flat ((.slice a3 (e).length D)) && (flat ((.slice a4 (sdW e F pl.length<|pl.length).length c4)) && true))))=true;simp only[GrowO.flat (X),GrowO.flat (L),GrowO.flat (e2)];rfl) ?_;refine zn<|zt ?_;clear h;intro a c3 h;refine Qj (Ψ:=[Row a4 (cellsOf Ze<|sdW e F pl.length<|pl.length),Row a3 (cellsOf Ze e),Row a2 (cellsOf Ih<|List.map (mvP J)<|pl)]) h (Zd h I<|rC Jj) ?_ ss;exact⟨a2,c2,a3,D,a4,c4,rfl,rfl⟩
theorem qM: RN (Instr.fieldAt 26 (.pointer (some ⟨b,s,none⟩)) 4) (.pointer (some ⟨b,s+7,none⟩)):=λw=>by
 simp[go_sem]
theorem rs_9_7: Zm false 1 #[g,h,o,a,f,e,p,q,r] 7=some q:=rfl
theorem MU: (Go.builtin .len #[221] R S #[.slice H w i]).run prog z=.ok (.value (.int .i64 w)) z:=by
 simp[go_sem]
theorem mO(h:E<x): RN (Instr.indexAt 221 (.slice (some ⟨w,i,none⟩) x F) (.int .i64 (E:Int))) (.pointer (some ⟨w,i+E*2,none⟩)):=λa=>by
 simpa using Qf runUnderlying221 sizeOf225 w i x F E h a
theorem bI: RN (Instr.indexAt 225 (.pointer (some ⟨w,i,none⟩)) (.int .i64 0)) (.pointer (some ⟨w,i+0,none⟩)):=λa=>by
 simp[go_sem,Instr.indexAt]
theorem PT: RN (Instr.build 91 [(0,.int .i64 v),(1,.int .u32 K)].toArray) (.agg #[.int .i64 v,.int .u32 K]):=λw=>by simp[go_sem]
theorem bG: RN (Instr.indexAt 225 (.pointer (some ⟨w,i,none⟩)) (.int .i64 1)) (.pointer (some ⟨w,i+1,none⟩)):=λa=>by
 simp[go_sem,Instr.indexAt]
theorem WC: RN (Instr.build 227 [(0,.agg #[A,B]),(1,.agg #[C,G])].toArray) (.agg #[A,B,C,G]):=λw=>by simp[go_sem]
theorem KI: (Instr.buildSlice 34 1 [(0,.agg #[A,B,C,G,N,O,T,U,V,W])].toArray).run prog z=.ok (.slice (some ⟨z.heap.size,0,none⟩) 1 1) (z.alloc (.cells #[A,B,C,G,N,O,T,U,V,W] 106 (0,0))):=by
 simp[go_sem]
theorem PZ: RN (Instr.build 143 [(0,.int .i64 v),(1,.int .i64 K),(2,.int .i64 Y)].toArray) (.agg #[.int .i64 v,.int .i64 K,.int .i64 Y]):=λw=>by simp[go_sem]
def ptZ(D:Nat)(z:Int×Int): Pt:=ptv ((z.1,((D:Nat):Int)),(z.2,((D:Nat):Int)))
theorem QW{l:List b2}{d:b2}(h:b<l.length): l.take b++[l.getD b d]=l.take (b+1):=by
 rw[xa,List.getElem?_eq_getElem h];simp[List.getD,h]
theorem CQ{l:List b2}{f:b2->e2}{d:b2}(h:b<l.length): (l.take b).map f++[f (l.getD b d)]=(l.take (b+1)).map f:=by
 rw[<-QW (d:=d) h,dv];rfl
theorem mvP_le(h1:u.1<=6)(a:u.2<=6): (-36<=(mvP J u).1/\(mvP J u).1<=36)/\(-36<=(mvP J u).2/\(mvP J u).2<=36):=by
 have q0:=Ig J.m0;have q1:=Ig J.m1;have q2:=Ig J.m2;have c:=Ig J.m3;have hk:(-3<=(mK J).1/\(mK J).1<=3)/\(-3<=(mK J).2.1/\(mK J).2.1<=3)/\(-3<=(mK J).2.2.1/\(mK J).2.2.1<=3)/\(-3<=(mK J).2.2.2/\(mK J).2.2.2<=3):=by
  unfold mK;split
  ·simp
  split<;>(simp only;omega)
 have b:=QH hk.1 h1;have a2:=QH hk.2.1 a;have a3:=QH hk.2.2.1 h1;have a4:=QH hk.2.2.2 a;simp only[mvP];omega
theorem sk(nx ny F E:Nat)(hx:J.nx=((nx:Nat):Int))(hy:J.ny=((ny:Nat):Int))(hf:J.first=((F:Nat):Int))(hd:J.den=((E:Nat):Int))(W:nx<=255)(T:ny<=255)(hF:F<=255)(c5:E<=255)(hm:WI J)(l:List ((Nat×Nat)×(Nat×Nat)×(Nat×Nat)))(hl:Xw (BE J.cells) (1+nx%3) ((1+nx%3)*(1+ny%3))=l)(h6:In6 l)(pl:List (Nat×Nat))(R:plW l F l.length=pl)(b:List (Nat×Nat×Nat))(a7:trW l F l.length=b)(hz:∀z∈List.map (mvP J) pl,(-36<=z.1/\z.1<=36)/\(-36<=z.2/\z.2<=36))(hn:pl.length<=1000):
  Ctr prog 69 [Fa J H w] [Row H (List.map BJ J.cells)] (λv Ψ => ∃aP aT aS cP cT cS,v=Qm ⟨List.map (ptZ (1+E%6)) (List.map (mvP J) pl),b,sdW b F pl.length pl.length⟩ aP aT aS cP cT cS /\
   Ψ=[Row aP (cellsOf encPt (List.map (ptZ (1+E%6)) (List.map (mvP J) pl))),Row aT (cellsOf Ze b),Row aS (cellsOf Ze (sdW b F pl.length pl.length))]):=by
 have b8:=Q9 b F pl.length pl.length;have hmul:pl.length*pl.length<=1000*1000:=ka hn hn;refine fnI func69 I ntmps69 λS w0 hS=>zS (zx I λb1=>zz zeroValue38 λb2=>zn<|zS<|ldZ My ?_);refine zf [_] I call140 (lw J H w nx ny F hx hy hf W T hF hm l hl h6 pl R b a7) ?_;rintro v10 a8 ⟨a12,K,t,x,C,L,rfl,rfl⟩;refine zz zeroValue223 λb3=>stW I I Qi ?_;refine zn<|zS (zz zeroValue38 λb4=>zn<|zS<|zp (.fA I qM)<|ldZ rs_9_7 ?_);refine zp (aq (v':=.int .u8 ((E%6:Nat):Int)) (.binOp I I (λ_=>Yx _ _ _ _ _ dd)) (by rw[hd,show(6:Int)=((6:Nat):Int) from I,Yw]))<|zp (aq (v':=.int .u8 ((1+E%6:Nat):Int)) (.binOp I I (λ_=>Jt _ _ _ _ _<|wrap_u8 _ oo oo)) (by show Value.int _ _=Value.int _ _;congr 1))<|zp (.convert I<|NI _<|wrap_u32 _ oo oo)<|au 0x82531125 ?_;intro a c h;refine lpG h [2,3,4,5] pkL (λY Z (i:Nat) a c=>i<=(List.map (mvP J) pl).length /\ ∃(P:Option Addr) (c1:Nat) (V:List (Nat×Obj)),(GrowO 10 106 (.slice P (List.map (ptZ (1+E%6)) ((List.map (mvP J) pl).take i)).length c1) (List.map (ptZ (1+E%6)) ((List.map (mvP J) pl).take i)).length (cellsOf encPt<|List.map (ptZ (1+E%6)) ((List.map (mvP J) pl).take i)) V)/\St 82 S w0 ((6,nI i)::Y) (V++((b4,bV (.agg #[(.slice P (List.map (ptZ (1+E%6)) ((List.map (mvP J) pl).take i)).length c1),.slice none 0 0,(.slice none 0 0)]) 38)::((b3,bV (.agg #[.slice a12 ((List.map (mvP J) pl).length) K,.slice t b.length x,.slice C ((sdW b F pl.length pl.length).length) L]) 223)::((b2,bV (.agg #[(.slice none 0 0),.slice none 0 0,(.slice none 0 0)]) 38)::((b1,bV (Fa J H w) 26)::[]))))) Z a c) (λi=>(List.map (mvP J) pl).length-i) 0 (⟨cX _,none,0,[],GrowO.nil _ _,by exact(h).sub sA⟩) ?_;clear h;rintro i a c ⟨b0,P,c1,V,s,h⟩;refine gC h<|zs<|zS<|zm I<|zp (.fA I Um)<|au 0x70f ?_;refine zp (.builtin [_] I<|MU _ _ _)<|au 0x2d ?_;intro a c h;refine Zb h I (λq=>?_) (λq=>?_)
 ·have g:i<(List.map (mvP J) pl).length:=dT q;obtain ⟨n,o,rfl⟩:=h.row_addr (ad:=a12) (M:=cellsOf Ih (List.map (mvP J) pl)) mm (nE 2);have a6:OkP ((((List.map (mvP J) pl).getD i (0,0)).1,((1+E%6:Nat):Int)),(((List.map (mvP J) pl).getD i (0,0)).2,((1+E%6:Nat):Int))):=(by have:=hz _ (getD_mem (List.map (mvP J) pl) (d:=(0,0)) g);simp only[OkP,OkQ];omega)
  have b5:i<=1000:=by rw[az] at g;omega
  refine gC h<|zk<|zs<|zb<|zs<|yF [0,1,2,3,4,5,6,7,8,9,10,11,12,13,14,15,16,17,18]<|au 0xeedcf ?_;clear h;refine au 0x9 ?_;refine yp I (.indexAddr I I<|mO _ _ _ _ _ oo)<|yp I (aq (v':=.pointer<|some ⟨n,o+(i*2+0),none⟩) (.indexAddr I I<|bI _ _) (by rw[gT])) ?_;refine Zf I kk I mm (EI (k:=2) (enc:=Ih) (λ_=>rfl) (List.map (mvP J) pl) i 0 oo dd) isAgg2 sizeOf2 (Ko (k:=2) (enc:=Ih) (λ_=>rfl) (List.map (mvP J) pl) (0,0) i oo false 1 0 _ dd dd I) (.inr I) dd ?_;refine au 0x9 ?_;refine yp I (.build [(_,_),(_,_)] I<|PT _ _)<|au 0xeedcf ?_;refine au 0x9 ?_;refine yp I (.indexAddr I I<|mO _ _ _ _ _ oo)<|yp I (aq (v':=.pointer<|some ⟨n,o+(i*2+1),none⟩) (.indexAddr I I<|bG _ _) (by rw[gT])) ?_;refine Zf I kk I mm (EI (k:=2) (enc:=Ih) (λ_=>rfl) (List.map (mvP J) pl) i 1 oo dd) isAgg2 sizeOf2 (Ko (k:=2) (enc:=Ih) (λ_=>rfl) (List.map (mvP J) pl) (0,0) i oo false 1 1 _ dd dd I) (.inr I) dd ?_;refine au 0x9 ?_;refine yp I (.build [(_,_),(_,_)] I<|PT _ _)<|yp I (.build [(_,_),(_,_)] I<|WC _ _ _ _) (yz I zeroValue227 λb7=>stV I I I Yc ?_);refine yn<|yE [0,1,2,3,4,5,6,7]<|au 0xee10f ?_;refine ldY Eh ?_;refine yv [_] I I call141 (sK ((((List.map (mvP J) pl).getD i (0,0)).1,((1+E%6:Nat):Int)),(((List.map (mvP J) pl).getD i (0,0)).2,((1+E%6:Nat):Int))) a6) (yB I [(_,_)] I (KI _ _ _ _ _ _ _ _ _ _) λc3=>?_);refine ga encPt (List.map (ptZ (1+E%6)) ((List.map (mvP J) pl).take i)) [ptZ (1+E%6) ((List.map (mvP J) pl).getD i (0,0))] s ?_ (hr:=by(try dsimp only);rw[az,db];omega);intro y N X r;refine au 0x10f ?_;refine yt I I I Fq uu sizeOf34 I nb (by show((flat ((.slice y ((List.map (ptZ (1+E%6)) ((List.map (mvP J) pl).take i))++[ptZ (1+E%6) ((List.map (mvP J) pl).getD i (0,0))]).length N)) && true))=true;simp only[GrowO.flat (r)];rfl) ?_;refine yn<|zr<|zm I<|zp (.pN (i+1)<|.add I I)<|au 0x25 ?_;intro a c h;rw[show List.map (ptZ (1+E%6)) ((List.map (mvP J) pl).take i)++[ptZ (1+E%6) ((List.map (mvP J) pl).getD i (0,0))]=List.map (ptZ (1+E%6)) ((List.map (mvP J) pl).take (i+1)) from CQ g] at h r;exact⟨i+1,⟨oo,y,N,X,r,by exact tO h⟩,oo⟩
 have m:(List.map (mvP J) pl).length=i:=dF q;subst m;rw[w9] at h s;replace h:=h.shareO' hS s;refine gC h<|au 0x31fb0fcaf310e ?_;refine stW I I Mk ?_;refine au 0x8253112 ?_;clear h;intro a c h;refine lpG h [2,3,4,5,6] pkL (λY Z (j:Nat) a c=>j<=(sdW b F pl.length pl.length).length /\ ∃(a4:Option Addr) (Q:Nat) (o4:List (Nat×Obj)),(GrowO 3 143 (.slice a4 ((sdW b F pl.length pl.length).take j).length Q) ((sdW b F pl.length pl.length).take j).length (cellsOf Ze ((sdW b F pl.length pl.length).take j)) o4)/\St 82 S w0 ((8,nI j)::Y) (o4++((b4,bV (.agg #[.slice P ((List.map (ptZ (1+E%6))<|List.map (mvP J) pl).length) c1,.slice t b.length x,(.slice a4 ((sdW b F pl.length pl.length).take j).length Q)]) 38)::((b3,bV (.agg #[.slice a12 ((List.map (mvP J) pl).length) K,.slice t b.length x,.slice C ((sdW b F pl.length pl.length).length) L]) 223)::((b2,bV (.agg #[(.slice none 0 0),.slice none 0 0,(.slice none 0 0)]) 38)::((b1,bV (Fa J H w) 26)::[]))))) Z a c) (λj=>(sdW b F pl.length pl.length).length-j) 0 (⟨cX _,none,0,[],GrowO.nil _ _,by exact(h).sub sA⟩) ?_;clear h;rintro j a c ⟨b6,a4,Q,o4,B,h⟩;refine gC h<|zs<|zS<|zm I<|zp (.fA I Ey)<|au 0x2da0fc1f ?_;intro a c h;refine Zb h I (λp=>?_) (λp=>?_)
 ·have D:j<(sdW b F pl.length pl.length).length:=dT p;obtain ⟨e,f,rfl⟩:=h.row_addr (ad:=C) (M:=cellsOf Ze (sdW b F pl.length pl.length)) mm (nE 3);refine gC h<|zk<|zs<|zb<|yE [0,1,2,3,4,5,6,7,8,9,10,11,12,13,14,15,16,17,18,19,20,21,22,23,24]<|au 0x41f9af ?_;clear h;refine yp I (.fA I Ey)<|au 0x41f ?_;refine au 0x06f9 ?_;refine yp I (aq (v':=.pointer<|some ⟨e,f+(j*3+0),none⟩) (.indexAddr I I<|AO _ _) (by rw[gT])) ?_;refine Zf I kk I mm (EI (k:=3) (enc:=Ze) (λ_=>rfl) (sdW b F pl.length pl.length) j 0 oo dd) isAgg3 sizeOf3 (Ko (k:=3) (enc:=Ze) (λ_=>rfl) (sdW b F pl.length pl.length) (0,0,0) j oo false 1 0 _ dd dd I) (.inr I) dd ?_;refine yp I (.fA I Ey)<|au 0x41f ?_;refine au 0x06f9 ?_;refine yp I (aq (v':=.pointer<|some ⟨e,f+(j*3+1),none⟩) (.indexAddr I I<|Vi _ _) (by rw[gT])) ?_;refine Zf I kk I mm (EI (k:=3) (enc:=Ze) (λ_=>rfl) (sdW b F pl.length pl.length) j 1 oo dd) isAgg3 sizeOf3 (Ko (k:=3) (enc:=Ze) (λ_=>rfl) (sdW b F pl.length pl.length) (0,0,0) j oo false 1 1 _ dd dd I) (.inr I) dd ?_;refine yp I (.fA I Ey)<|au 0x41f ?_;refine au 0x06f9 ?_;refine yp I (aq (v':=.pointer<|some ⟨e,f+(j*3+2),none⟩) (.indexAddr I I<|Vh _ _) (by rw[gT])) ?_;refine Zf I kk I mm (EI (k:=3) (enc:=Ze) (λ_=>rfl) (sdW b F pl.length pl.length) j 2 oo dd) isAgg3 sizeOf3 (Ko (k:=3) (enc:=Ze) (λ_=>rfl) (sdW b F pl.length pl.length) (0,0,0) j oo false 1 2 _ dd dd I) (.inr I) dd ?_;refine yp I (.build [(_,_),(_,_),(_,_)] I<|PZ _ _ _) (yB I [(_,_)] I (PO _ _ _) λb9=>?_);refine ga Ze ((sdW b F pl.length pl.length).take j) [(((sdW b F pl.length pl.length).getD j (0,0,0)).1,((sdW b F pl.length pl.length).getD j (0,0,0)).2.1,((sdW b F pl.length pl.length).getD j (0,0,0)).2.2)] B ?_ (hr:=by(try dsimp only);rw[db];omega);intro A O U u;refine au 0x9af ?_;refine yt I I I Ir uu sizeOf36 I nb (by show((flat ((.slice A (((sdW b F pl.length pl.length).take j)++[(((sdW b F pl.length pl.length).getD j (0,0,0)).1,((sdW b F pl.length pl.length).getD j (0,0,0)).2.1,((sdW b F pl.length pl.length).getD j (0,0,0)).2.2)]).length O)) && true))=true;simp only[GrowO.flat (u)];rfl) ?_;refine yn<|zr<|zm I<|zp (.pN (j+1)<|.add I I)<|au 0x25 ?_;intro a c h;rw[show(sdW b F pl.length pl.length).take j++[((sdW b F pl.length pl.length).getD j (0,0,0))]=(sdW b F pl.length pl.length).take (j+1) from QW D] at h u;exact⟨j+1,⟨oo,A,O,U,u,by exact tO h⟩,oo⟩
 have G:(sdW b F pl.length pl.length).length=j:=dF p;subst G;rw[w9] at h B;replace h:=h.shareO' hS B;refine gC h<|au 0xde310e ?_;refine stW I I Qi ?_;refine zn<|zt ?_;clear h;intro a c h;refine Qj (Ψ:=[Row P (cellsOf encPt<|List.map (ptZ (1+E%6))<|List.map (mvP J) pl),Row t (cellsOf Ze b),Row a4 (cellsOf Ze<|sdW b F pl.length pl.length)]) h (Zd h I<|rC Jj) ?_ ss;exact⟨P,t,a4,c1,x,Q,rfl,rfl⟩
end Go.Proofs.YtdadideknhmbbaaGreatDoor
namespace Go.Proofs.YtdadideknhmbbaaGreatDoor
open Go Go.Proofs Go.Fx Go.Shelf Go.RowKit Go.Sort Tryz
variable{x:Nat}{o:List Nat}(b p:Nat)(l:List Nat)
def Wg:Go.Shelf.Ren:=⟨fun|20=>143|n=>n,fun|22=>61|3=>3|4=>4|0=>0|n=>n,fun|n=>n⟩
theorem lays20:Go.Proofs.Lays2.n20 prog Wg:={
 mixed:=by kernel_rfl
 f20:=func143.trans (congrArg some kk)
 t0:=underlying0
 a0:=isAgg0
 z0:=sizeOf0
 v0:=zeroValue0
 t3:=underlying3
 a3:=isAgg3
 z3:=sizeOf3
 v3:=zeroValue3
 t4:=underlying4
 a4:=isAgg4
 z4:=sizeOf4
 v4:=zeroValue4
 t22:=underlying61
 a22:=isAgg61
 z22:=sizeOf61
 v22:=zeroValue61
 i3:=by kernel_rfl }
theorem B0: Lib.compact (l.map (λk:Nat=>(k:Int)))=(Lib.compact l).map (λk:Nat=>(k:Int)):=by
 have a:∀j:Nat,(l.map (λk:Nat=>(k:Int))).toArray[j]! = ((l.toArray[j]! : Nat):Int):=λj=>by
  by_cases h:j<l.length
  ·rw[getElem!_pos _ _ (by simpa using h),getElem!_pos _ _ (by simpa using h)];simp
  rw[getElem!_neg _ _ (by simpa using h),getElem!_neg _ _ (by simpa using h)];rfl
 unfold Lib.compact Lib.compactUpTo;rw[sI,az];have hk:∀j,Lib.keeps (l.map (λk:Nat=>(k:Int))).toArray j=Lib.keeps l.toArray j:=λj=>by
  unfold Lib.keeps;rw[a,a];exact decide_eq_decide.2 ⟨λh=>h.imp id (λh e=>h (by rw[e])),λh=>h.imp id (λh e=>h oo)⟩
 rw[show(Lib.keeps (l.map (λk:Nat=>(k:Int))).toArray)=Lib.keeps l.toArray from funext hk];exact tz λj _=>a j
theorem Sr(h:x∈Lib.compact o): x∈o:=by
 unfold Lib.compact Lib.compactUpTo at h;obtain ⟨j,hj,rfl⟩:=List.mem_map.1 h;have hl:=List.mem_range.1 (List.mem_filter.1 hj).1;rw[getElem!_pos _ _ (by simpa using hl)];simp
theorem J4: (Lib.compact l).length<=l.length:=by
 unfold Lib.compact Lib.compactUpTo;rw[az];exact bp (nk _ _) (uz pr)
theorem J5(h:x∈o): x∈Lib.compact o:=by
 obtain ⟨j,hj,rfl⟩:=List.mem_iff_getElem.1 h;clear h;unfold Lib.compact Lib.compactUpTo;induction j with
 | zero=>exact List.mem_map.2 ⟨0,List.mem_filter.2 ⟨List.mem_range.2 hj,by simp[Lib.keeps]⟩,by rw[getElem!_pos _ _ (by simpa using hj)];simp⟩
 | succ j a =>
  by_cases e:o[j+1]=o[j]
  ·rw[e];exact a oo
  refine List.mem_map.2 ⟨j+1,List.mem_filter.2 ⟨List.mem_range.2 hj,?_⟩,by rw[getElem!_pos _ _ (by simpa using hj)];simp⟩;unfold Lib.keeps;refine decide_eq_true<|.inr ?_;rw[getElem!_pos _ _ (by simpa using hj),getElem!_pos _ _ (by simp;omega)];simpa using e
theorem Wy(hs:o.Pairwise (· <= ·)): (Lib.compact o).Pairwise (· < ·):=by
 unfold Lib.compact Lib.compactUpTo;refine List.pairwise_map.2 ?_;have hr:((List.range o.length).filter (Lib.keeps o.toArray)).Pairwise (· < ·):=u0 _ List.pairwise_lt_range;refine List.Pairwise.imp_of_mem ?_ hr;intro i j h hj k;obtain ⟨c,g⟩:=List.mem_filter.1 h;obtain ⟨d,f⟩:=List.mem_filter.1 hj;have b:=List.mem_range.1 c;have a:=List.mem_range.1 d;have hk:=of_decide_eq_true f;rw[getElem!_pos _ _ (by simpa using a),getElem!_pos _ _ (by simp;omega)] at hk;rw[getElem!_pos _ _ (by simpa using b),getElem!_pos _ _ (by simpa using a)];simp only[List.getElem_toArray] at hk ⊢;have h1:o[j-1]<=o[j]:=List.pairwise_iff_getElem.1 hs _ _ oo a oo;have m:o[i]<=o[j-1]:=by
  by_cases e:i=j-1
  ·subst e;exact aZ _
  exact List.pairwise_iff_getElem.1 hs _ _ b oo oo
 have n:=hk.resolve_left oo;omega
theorem W8(R:List Value)(n:l.length<=1000000)(hc:l.length<=p)(σ:List (Nat×Obj))(Φ:List Zs):
  GX prog 143 [.slice (some ⟨b,0,none⟩) l.length p] ((b,.cells (List.map Qb l++R).toArray 3 (0,0))::σ) Φ
   (λv σ' Ψ => ∃f,v=.slice (some ⟨b,0,none⟩) (Lib.compact l).length p/\σ'=(b,.cells (List.map Qb (Lib.compact l)++f).toArray 3 (0,0))::σ/\Ψ=Φ):=by
 intro S w0 w g hm;obtain ⟨X,_,i,m,j⟩:=hm.facts;have hz:(l.map (λk:Nat=>(k:Int))).map (Value.int .i64)=List.map Qb l:=by rw[sI];rfl
 have a:=hm.own (b,_) (ae ..);rw[<-hz] at hm a;have h:=Any.slices_Compact_int lays20 b 0 p (l.map (λk:Nat=>(k:Int))) w (FV a) (by rw[az];omega) (by rw[az];exact hc);rw[az] at h;refine h.mono ?_;rintro e w' ⟨he,q,hw⟩;subst hw;have hlen:(Lib.compact (l.map (λk:Nat=>(k:Int)))++List.replicate (l.length-(Lib.compact (l.map (λk:Nat=>(k:Int)))).length) 0).length=(l.map (λk:Nat=>(k:Int))).length:=by
  rw[bd,hW,B0,az,az];have:=J4 l;omega
 have c:=Go.Fx.mem_sorted (enc:=Value.int .i64) (d:=Lib.compact (l.map (λk:Nat=>(k:Int)))++List.replicate (l.length-(Lib.compact (l.map (λk:Nat=>(k:Int)))).length) 0) g hm hlen q #[];refine⟨_,_,_,he,⟨List.replicate (l.length-(Lib.compact<|l.map (λk:Nat=>(k:Int))).length) (.int .i64 0)++R,?_,rfl,rfl⟩,?_⟩
 ·rw[B0,az]
 rw[dv,List.map_replicate,cv,B0,sI] at c;rw[B0];exact c
end Go.Proofs.YtdadideknhmbbaaGreatDoor
