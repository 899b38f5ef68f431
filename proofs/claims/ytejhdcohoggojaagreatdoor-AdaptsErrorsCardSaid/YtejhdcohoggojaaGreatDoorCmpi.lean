/- Walks of functions. By an AI agent. -/
import Derived.Test.YtejhdcohoggojaaGreatDoorPrs6
import Derived.Shelf.Slices.CompactI
import Derived.Test.YtejhdcohoggojaaGreatDoorFxP
set_option linter.unusedVariables false
set_option linter.unusedSimpArgs false
set_option maxRecDepth 4000
set_option maxHeartbeats 1000000
namespace Go.Proofs.YtejhdcohoggojaaGreatDoor
open Go Go.Proofs Go.Fx Tryz
attribute [local irreducible] Oper.wp Code.wp wpList Fx.Head wpOp
section
theorem rs_9_0{c0 c1 c2 a d b e c f:Value}: Zk false 1 #[c0,c1,c2,a,d,b,e,c,f] 0=some c0:=rfl
theorem rs_9_1{c0 c1 c2 a d b e c f:Value}: Zk false 1 #[c0,c1,c2,a,d,b,e,c,f] 1=some c1:=rfl
theorem PW{b off:Nat}: RN (Instr.fieldAt 26 (.pointer (some ⟨b,off,none⟩)) 2) (.pointer (some ⟨b,off+2,none⟩)):=fun w=>by
 simp[go_sem]
theorem Wj{c0 c1 c2 a d b e c f:Value}: Zk false 1 #[c0,c1,c2,a,d,b,e,c,f] 2=some c2:=rfl
theorem Hk(a:Option Addr)(n c:Nat)(w:World)(ty:TypeId)(cs:Array Bool): (Go.builtin .len #[22] ty cs #[.slice a n c]).run prog w=.ok (.value (.int .i64 n)) w:=by
 simp[go_sem]
theorem ix_22(b off n c j:Nat)(h:j<n): RN (Instr.indexAt 22 (.slice (some ⟨b,off,none⟩) n c) (.int .i64 (j:Int))) (.pointer (some ⟨b,off+j,none⟩)):=fun w=>by
 simpa using Qd runUnderlying22 sizeOf5 b off n c j h w
theorem Oe(a f d e c b:Value): RN (Instr.build 248 [(0,.agg #[a,f]),(1,.agg #[d,e]),(2,.agg #[c,b])].toArray) (.agg #[a,f,d,e,c,b]):=fun w=>by simp[go_sem]
theorem BB(c l a f b i j k d h e g:Value)(w:World): (Instr.buildSlice 246 2 [(0,.agg #[c,l,a,f,b,i]),(1,.agg #[j,k,d,h,e,g])].toArray).run prog w=.ok (.slice (some ⟨w.heap.size,0,none⟩) 2 2) (w.alloc (.cells #[c,l,a,f,b,i,j,k,d,h,e,g] 248 (0,0))):=by
 simp[go_sem]
theorem CJ(o f m i y c e q g d p h j k t b u x v l a s r n:Value)(w:World): (Instr.buildSlice 246 4 [(0,.agg #[o,f,m,i,y,c]),(1,.agg #[e,q,g,d,p,h]),(2,.agg #[j,k,t,b,u,x]),(3,.agg #[v,l,a,s,r,n])].toArray).run prog w=.ok (.slice (some ⟨w.heap.size,0,none⟩) 4 4) (w.alloc (.cells #[o,f,m,i,y,c,e,q,g,d,p,h,j,k,t,b,u,x,v,l,a,s,r,n] 248 (0,0))):=by
 simp[go_sem]
def BN(cs:List Int)(i:Nat): Nat:=if cs.length=0 then 0 else (cs.getD (i%cs.length) 0).toNat%8
def cellT(way i x y:Nat): List ((Nat×Nat)×(Nat×Nat)×(Nat×Nat)) :=
 if way<3∨(way=7∧i=0) then [((x,y),(x+2,y),(x+2,y+2)),((x,y),(x+2,y+2),(x,y+2))]
 else if way<5 then [((x,y),(x+2,y),(x,y+2)),((x+2,y),(x+2,y+2),(x,y+2))]
 else if way<7 then [((x,y),(x+2,y),(x+1,y+1)),((x+2,y),(x+2,y+2),(x+1,y+1)),((x+2,y+2),(x,y+2),(x+1,y+1)),((x,y+2),(x,y),(x+1,y+1))]
 else []
def Yb(w:Nat→Nat)(nx:Nat): Nat→List ((Nat×Nat)×(Nat×Nat)×(Nat×Nat))
 | 0=>[]
 | i+1=>Yb w nx i++cellT (w i) i (2*(i%nx)) (2*(i/nx))
def HT(t:(Nat×Nat)×(Nat×Nat)×(Nat×Nat))(i:Nat): Nat×Nat:=match i with
 | 0=>t.1
 | 1=>t.2.1
 | _=>t.2.2
def EZ(pl:List (Nat×Nat))(p:Nat×Nat): Nat→Int
 | 0 => -1
 | k+1=>if pl.getD k (0,0)=p then (k:Int) else EZ pl p k
def atP(pl:List (Nat×Nat))(p:Nat×Nat): Nat:=if EZ pl p pl.length<0 then pl.length else (EZ pl p pl.length).toNat
def plP(pl:List (Nat×Nat))(p:Nat×Nat): List (Nat×Nat):=if EZ pl p pl.length<0 then pl++[p] else pl
def shF(F t i:Nat): Nat:=(i+F+t*(F/3))%3
def plT(c:(Nat×Nat)×(Nat×Nat)×(Nat×Nat))(F t:Nat): Nat→List (Nat×Nat)→List (Nat×Nat)
 | 0,pl=>pl
 | i+1,pl=>plP (plT c F t i pl) (HT c (shF F t i))
def nT(c:(Nat×Nat)×(Nat×Nat)×(Nat×Nat))(F t:Nat)(pl:List (Nat×Nat)): Nat×Nat×Nat :=
 (atP pl (HT c (shF F t 0)),atP (plT c F t 1 pl) (HT c (shF F t 1)),atP (plT c F t 2 pl) (HT c (shF F t 2)))
def cl0:(Nat×Nat)×(Nat×Nat)×(Nat×Nat):=((0,0),(0,0),(0,0))
def plW(l:List ((Nat×Nat)×(Nat×Nat)×(Nat×Nat)))(F:Nat): Nat→List (Nat×Nat)
 | 0=>[]
 | t+1=>plT (l.getD t cl0) F t 3 (plW l F t)
def trW(l:List ((Nat×Nat)×(Nat×Nat)×(Nat×Nat)))(F:Nat): Nat→List (Nat×Nat×Nat)
 | 0=>[]
 | t+1=>trW l F t++[nT (l.getD t cl0) F t (plW l F t)]
def Sv(ts:List (Nat×Nat×Nat))(a b:Nat): Nat→Nat
 | 0=>0
 | t+1=>Sv ts a b t+if HM (ts.getD t (0,0,0)) a && HM (ts.getD t (0,0,0)) b then 1 else 0
def sdI(ts:List (Nat×Nat×Nat))(F a:Nat): Nat→List (Nat×Nat×Nat)
 | 0=>[]
 | b+1=>sdI ts F a b++if a<b∧Sv ts a b ts.length=1 then [(a,b,(a+3*b+F)%5)] else []
def sdW(ts:List (Nat×Nat×Nat))(F n:Nat): Nat→List (Nat×Nat×Nat)
 | 0=>[]
 | a+1=>sdW ts F n a++sdI ts F a n
def sgN(p q r:Nat×Nat): Int:=((q.1:Int)-p.1)*((r.2:Int)-p.2)-((q.2:Int)-p.2)*((r.1:Int)-p.1)
def cnP(pl:List (Nat×Nat))(t:Nat×Nat×Nat)(i:Nat): Nat×Nat:=pl.getD (crn t i) (0,0)
def sgT(pl:List (Nat×Nat))(t:Nat×Nat×Nat)(r:Nat×Nat)(i:Nat): Int:=sgN (cnP pl t i) (cnP pl t ((i+1)%3)) r
def beyN(pl:List (Nat×Nat))(t s:Nat×Nat×Nat): Bool:=(List.range 3).any fun i=>(List.range 3).all fun j=>decide (sgT pl t (cnP pl s j) i≤0)
def okM(pl:List (Nat×Nat))(ts:List (Nat×Nat×Nat)): Bool :=
 ts.all (D9 pl.length) && ts.all (fun t=>decide (0<sgT pl t (cnP pl t 2) 0)) && (List.range pl.length).all (fun p=>ts.any fun t=>HM t p) && decide pl.Nodup &&
 (List.range ts.length).all (fun i=>(List.range i).all fun k=>beyN pl (ts.getD i (0,0,0)) (ts.getD k (0,0,0)) || beyN pl (ts.getD k (0,0,0)) (ts.getD i (0,0,0))) &&
 ts.all (fun t=>(List.range pl.length).all fun q=>HM t q || (List.range 3).any fun i=>decide (sgT pl t (pl.getD q (0,0)) i<0))
def okR(ts:List (Nat×Nat×Nat))(F n:Nat): Bool:=decide (EO ts=(sdW ts F n n).map fun s=>(s.1,s.2.1,0))
def okTopo(w0 w1 nx F:Nat): Bool :=
 let l:=Yb (fun i=>if i=0 then w0 else w1) nx nx
 let pl:=plW l F l.length
 let ts:=trW l F l.length
 okM pl ts && okR ts F pl.length && decide (0<ts.length)
abbrev Ev(t:(Nat×Nat)×(Nat×Nat)×(Nat×Nat)): Value:=.agg #[.int .i64 ((t.1.1:Nat):Int),.int .i64 ((t.1.2:Nat):Int),.int .i64 ((t.2.1.1:Nat):Int),.int .i64 ((t.2.1.2:Nat):Int),.int .i64 ((t.2.2.1:Nat):Int),.int .i64 ((t.2.2.2:Nat):Int)]
abbrev Hw(z:Int×Int): Value:=.agg #[.int .i64 z.1,.int .i64 z.2]
abbrev encZ4(z:Int×Int×Int×Int): Value:=.agg #[.int .i64 z.1,.int .i64 z.2.1,.int .i64 z.2.2.1,.int .i64 z.2.2.2]
theorem H6(w:World): (zeroValue 125).run prog w=.ok (Zy (0,0)) w:=zeroValue125 w
theorem zeroT6(w:World): (zeroValue 248).run prog w=.ok (Ev cl0) w:=zeroValue248 w
theorem iv(w:World): (zeroValue 173).run prog w=.ok (Hw (0,0)) w:=zeroValue173 w
theorem jF{cs:List Int}{i:Nat}(h:decide (((cs.length:Nat):Int)>0)=false): BN cs i=0:=if_pos (by have:=of_decide_eq_false h;omega)
theorem jG{c:Int}(h:U8 c): c.tmod 8=((c.toNat%8:Nat):Int):=by
 obtain ⟨h1,a⟩:=h
 rw[show c=((c.toNat:Nat):Int) from by omega,show(8:Int)=((8:Nat):Int) from rfl,Ym]
 congr 2
theorem way_at{cs:List Int}{i:Nat}(h:decide (((cs.length:Nat):Int)>0)=true)(hc:∀c∈cs,U8 c): (cs.getD (i%cs.length) 0).tmod 8=((BN cs i:Nat):Int):=by
 have a:=of_decide_eq_true h
 rw[jG (hc _ (getD_mem cs (Nat.mod_lt _ oo))),BN,if_neg oo]
theorem way_lt(cs:List Int)(i:Nat): BN cs i<8:=by
 unfold BN;split
 ·decide
 ·exact Nat.mod_lt _ dd
theorem je{w i x y:Nat}(h:w<3∨(w=7∧i=0)): cellT w i x y=[((x,y),(x+2,y),(x+2,y+2)),((x,y),(x+2,y+2),(x,y+2))]:=if_pos h
theorem jd{w i x y:Nat}(h:¬(w<3∨(w=7∧i=0)))(a:w<5): cellT w i x y=[((x,y),(x+2,y),(x,y+2)),((x+2,y),(x+2,y+2),(x,y+2))]:=by unfold cellT;rw[if_neg h,if_pos a]
theorem jc{w i x y:Nat}(h:¬(w<3∨(w=7∧i=0)))(a:¬w<5)(b:w<7): cellT w i x y=[((x,y),(x+2,y),(x+1,y+1)),((x+2,y),(x+2,y+2),(x+1,y+1)),((x+2,y+2),(x,y+2),(x+1,y+1)),((x,y+2),(x,y),(x+1,y+1))]:=by unfold cellT;rw[if_neg h,if_neg a,if_pos b]
theorem jb{w i x y:Nat}(h:¬(w<3∨(w=7∧i=0)))(a:¬w<5)(b:¬w<7): cellT w i x y=[]:=by unfold cellT;rw[if_neg h,if_neg a,if_neg b]
theorem Gc{w:Nat→Nat}{a i:Nat}{l:List ((Nat×Nat)×(Nat×Nat)×(Nat×Nat))}(h:cellT (w i) i (2*(i%a)) (2*(i/a))=l): Yb w a i++l=Yb w a (i+1):=by rw[Yb,h]
theorem fO(w i x y:Nat): (cellT w i x y).length≤4:=by unfold cellT;split<;>(try split)<;>(try split)<;>simp
theorem Ax(w:Nat→Nat)(a:Nat): ∀i,(Yb w a i).length≤4*i
 | 0=>Nat.le_refl _
 | i+1=>by rw[Yb,List.length_append];have:=Ax w a i;have:=fO (w i) i (2*(i%a)) (2*(i/a));omega
theorem nM(m:M25)(s:Option Addr)(P nx ny:Nat)(hx:m.nx=((nx:Nat):Int))(hy:m.ny=((ny:Nat):Int))(b2:nx≤255)(a8:ny≤255)(hc:∀c∈m.cells,U8 c)(hn:m.cells.length≤9223372036854775807): CtrO prog 151 [Ew m s P] [Row s (List.map Bb m.cells)] (fun v o => ∃ad c,v=.slice ad (Yb (BN m.cells) (1+nx%3) ((1+nx%3)*(1+ny%3))).length c∧GrowO 6 248 v (Yb (BN m.cells) (1+nx%3) ((1+nx%3)*(1+ny%3))).length (cellsOf Ev (Yb (BN m.cells) (1+nx%3) ((1+nx%3)*(1+ny%3)))) o):=by
 have W:nx%3<3:=Nat.mod_lt _ dd
 have V:ny%3<3:=Nat.mod_lt _ dd
 have hN:(1+nx%3)*(1+ny%3)≤9:=Nat.le_trans (Nat.mul_le_mul (show 1+nx%3≤3 by omega) (show 1+ny%3≤3 by omega)) dd
 refine fn_introO func151 I ntmps151 nb ?_
 intro S w0 a hS h
 refine gC h<|zS (zx I fun Q=>za I<|zn<|zS<|zp (.fA I PX)<|ldZ rs_9_0 ?_);clear h;intro a w h
 rw[hx] at h
 refine gL h<|zp (Pure1.cast (v':=.int .u8 ((nx%3:Nat):Int)) (.binOp I I (fun _=>Yn _ _ _ _ _ dd)) (by rw[show(3:Int)=((3:Nat):Int) from I,Ym]))<|au 0x4bf ?_
 refine zp (.pN (1+(nx%3))<|.add I I)<|za I<|zn<|zS<|zp (.fA I Y2)<|ldZ rs_9_1 ?_;clear h;intro a w h
 rw[hy] at h
 refine gL h<|zp (Pure1.cast (v':=.int .u8 ((ny%3:Nat):Int)) (.binOp I I (fun _=>Yn _ _ _ _ _ dd)) (by rw[show(3:Int)=((3:Nat):Int) from I,Ym]))<|au 0x4bf ?_
 refine zp (.pN (1+(ny%3))<|.add I I)<|au 0x925311253125 ?_;clear h;intro a w h
 refine lpG h [1,2,3,4] pkL (fun Y Z (i:Nat) a w=>i≤(1+nx%3)*(1+ny%3) ∧ ∃(p:Option Addr) (c1:Nat) (H:List (Nat×Obj)),(GrowO 6 248 (.slice p (Yb (BN m.cells) (1+nx%3) i).length c1) (Yb (BN m.cells) (1+nx%3) i).length (cellsOf Ev<|Yb (BN m.cells) (1+nx%3) i) H)∧St 134 S w0 ((5,(.slice p (Yb (BN m.cells) (1+nx%3) i).length c1))::(6,nI i)::Y) (H++((Q,bV (Ew m s P) 26)::[])) Z a w) (fun i=>(1+nx%3)*(1+ny%3)-i) 0 (⟨Nat.zero_le _,none,0,[],GrowO.nil _ _,by exact(h).sub sA⟩) ?_;clear h
 rintro i a w ⟨U,p,c1,H,g,h⟩
 refine gC h<|au 0x444311 ?_
 refine zp (.pN ((1+(nx%3))*(1+(ny%3)))<|.mul I I)<|au 0x2c ?_;intro a w h
 refine Zb h I (fun D=>?_) (fun D=>?_)
 ·have R:i<(1+nx%3)*(1+ny%3):=dT D
  have b0:=Nat.mod_lt i (show 0<1+nx%3 by omega)
  have b4:=Nat.div_le_self i (1+nx%3)
  have T:(0:Int)≤((i/(1+nx%3):Nat):Int):=Int.natCast_nonneg _
  have X:(0:Int)≤((i%(1+nx%3):Nat):Int):=Int.natCast_nonneg _
  refine gC h<|au 0x2531917 ?_;clear h;intro a w h
  refine Yl (fun a w=>St 134 S w0 [(1,pB Q),(2,.slice none 0 0),(3,nI (1+(nx%3))),(4,nI (1+(ny%3))),(5,(.slice p (Yb (BN m.cells) (1+nx%3) i).length c1)),(6,nI i),(7,.int .u8 (((BN m.cells i:Nat):Int))),(25,nI i),(26,nI (1+(nx%3))),(27,nI (1+(ny%3))),(28,nI ((1+(nx%3))*(1+(ny%3)))),(29,.bool<|decide (((i:Nat):Int)<(((1+(nx%3))*(1+(ny%3)):Nat):Int)))] (H++((Q,bV (Ew m s P) 26)::[])) [Row s (List.map Bb m.cells)] a w) ?_ ?_
  ·refine gC h<|zS<|zp (.fA I PW)<|ldZ Wj ?_
   refine zp (.builtin [_] I<|Hk _ _ _)<|au 0x270f ?_;clear h;intro a w h
   refine Zb h I (fun d=>?_) (fun d=>?_)
   ·obtain ⟨L,N,rfl⟩:=h.row_addr (ad:=s) (M:=List.map Bb m.cells) mm (by intro e;have q1:=congrArg List.length e;rw[List.length_map,List.length_nil] at q1;have:=of_decide_eq_true d;omega)
    refine gC h<|yE [0,1,2,3,4,5,6,7,8,9,10]<|yp I (.fA I PW)<|ldY Wj ?_;clear h
    refine au 0x8 ?_
    refine yp I (.fA I PW)<|ldY Wj ?_
    refine yp I (.builtin [_] I<|Hk _ _ _)<|yp I (Pure1.cast (v':=.int .i64 ((i%m.cells.length:Nat):Int)) (.binOp I I (fun _=>Yn _ _ _ _ _<|dT d)) (by rw[Ym]))<|yp I (.indexAddr I I<|ix_22 _ _ _ _ _ (by exact Nat.mod_lt _<|dT d)) ?_
    refine Zf I kk I mm (by rw[List.length_map];exact Nat.mod_lt _<|dT d) isAgg5 sizeOf5 (Zr (enc:=Bb) (l:=m.cells) 0 (by exact Nat.mod_lt _<|dT d)) (.inr I) dd ?_
    refine yp I (Pure1.cast (v':=.int .u8 ((BN m.cells i:Nat):Int)) (.binOp I I (fun _=>Yn _ _ _ _ _ dd)) (by rw[way_at d hc]))<|au 0xa3e ?_;intro a w h
    
    exact tO h
   ·refine wp_skip ?_
    rw[jF d]
    exact tO h
  ·clear h
   intro a w h
   refine gC h<|au 0x4431 ?_
   refine zp (Pure1.cast (v':=.int .i64 ((i%(1+nx%3):Nat):Int)) (.binOp I I (fun _=>Yn _ _ _ _ _ oo)) (by rw[Ym]))<|zp (.pN (2*(i%(1+nx%3)))<|.mul I I)<|au 0x443125 ?_
   refine zp (Pure1.cast (v':=.int .i64 ((i/(1+nx%3):Nat):Int)) (.binOp I I (fun _=>Ei _ _ _ _ _ oo)) (by rw[Cd,wrap_i64 _ oo oo]))<|zp (.pN (2*(i/(1+nx%3)))<|.mul I I)<|au 0x35f443125 ?_
   refine zz H6 fun a1=>stW I I Zt ?_
   refine zn<|zS<|zm I<|zp (.pN ((2*(i%(1+nx%3)))+2)<|.add I I)<|au 0x35f4 ?_
   refine zz H6 fun a6=>stW I I Zt ?_
   refine zn<|zS<|zm I<|zp (.pN ((2*(i%(1+nx%3)))+2)<|.add I I)<|zm I<|zp (.pN ((2*(i/(1+nx%3)))+2)<|.add I I)<|au 0x35f ?_
   refine zz H6 fun b3=>stW I I Zt ?_
   refine au 0x44312 ?_
   refine zp (.pN ((2*(i/(1+nx%3)))+2)<|.add I I)<|au 0x35f ?_
   refine zz H6 fun b5=>stW I I Zt ?_
   refine zn<|zS<|zm I<|zp (.pN ((2*(i%(1+nx%3)))+1)<|.add I I)<|zm I<|zp (.pN ((2*(i/(1+nx%3)))+1)<|.add I I)<|au 0x35f ?_
   refine zz H6 fun a7=>stW I I Zt ?_
   refine au 0xc43192 ?_;clear h;intro a w h
   refine Zh h (fun C h=>?_) (fun C h=>?_)
   ·have d77:=of_decide_eq_true C
    refine gL h<|zm I<|zo 78 I I I<|zo 78 I I I<|zo 78 I I I<|zu 81 I I<|zu 81 I I<|zo 78 I I I<|au 0xc1f5e5e5ec1f5e5e5e431e252e ?_
    refine zB [(_,_),(_,_)] I (BB _ _ _ _ _ _ _ _ _ _ _ _) fun O=>?_
    refine apC Ev (Yb (BN m.cells) (1+nx%3) i) [((2*(i%(1+nx%3)),2*(i/(1+nx%3))),((2*(i%(1+nx%3)))+2,2*(i/(1+nx%3))),((2*(i%(1+nx%3)))+2,(2*(i/(1+nx%3)))+2)),((2*(i%(1+nx%3)),2*(i/(1+nx%3))),((2*(i%(1+nx%3)))+2,(2*(i/(1+nx%3)))+2),(2*(i%(1+nx%3)),(2*(i/(1+nx%3)))+2))] g ?_ (hr:=by(try dsimp only);have:=Ax (BN m.cells) (1+nx%3) i;omega);intro B F E n a w h
    refine gL h<|au 0x4325 ?_
    refine zp (.pN (i+1)<|.add I I)<|au 0x25 ?_;clear h;intro a w h
    rw[Gc (w:=BN m.cells) (a:=1+nx%3) (i:=i) (je oo)] at h n
    exact⟨i+1,⟨oo,B,F,E,n,by exact tO h⟩,oo⟩
   ·have d77:=of_decide_eq_false C
    refine gL h<|zm I<|zq 78 I I (.move I)<|zq 78 I I (.eql I I) ?_;clear h;intro a w h
    refine Zh h (fun A h=>?_) (fun A h=>?_)
    ·have d80:=of_decide_eq_true A
     refine gL h<|zq 78 I I (.move I)<|zq 81 I I (.move I)<|zq 81 I I (.eql I I) ?_;clear h;intro a w h
     refine Zh h (fun y h=>?_) (fun y h=>?_)
     ·have d83:=of_decide_eq_true y
      refine gL h<|zq 78 I I (.pickT I I)<|au 0xc1f5e5e5ec1f5e5e5e431e254e ?_
      refine zB [(_,_),(_,_)] I (BB _ _ _ _ _ _ _ _ _ _ _ _) fun O=>?_
      refine apC Ev (Yb (BN m.cells) (1+nx%3) i) [((2*(i%(1+nx%3)),2*(i/(1+nx%3))),((2*(i%(1+nx%3)))+2,2*(i/(1+nx%3))),((2*(i%(1+nx%3)))+2,(2*(i/(1+nx%3)))+2)),((2*(i%(1+nx%3)),2*(i/(1+nx%3))),((2*(i%(1+nx%3)))+2,(2*(i/(1+nx%3)))+2),(2*(i%(1+nx%3)),(2*(i/(1+nx%3)))+2))] g ?_ (hr:=by(try dsimp only);have:=Ax (BN m.cells) (1+nx%3) i;omega);intro B F E n a w h
      refine gL h<|au 0x4325 ?_
      refine zp (.pN (i+1)<|.add I I)<|au 0x25 ?_;clear h;intro a w h
      rw[Gc (w:=BN m.cells) (a:=1+nx%3) (i:=i) (je oo)] at h n
      exact⟨i+1,⟨oo,B,F,E,n,by exact tO h⟩,oo⟩
     ·have d83:=of_decide_eq_false y
      refine gL h<|zq 78 I I (.pickT I I)<|au 0xc431d254e ?_;clear h;intro a w h
      refine Zh h (fun k h=>?_) (fun k h=>?_)
      ·have d99:=of_decide_eq_true k
       refine gL h<|au 0xc1f5e5e5ec1f5e5e5e431e25 ?_
       refine zB [(_,_),(_,_)] I (BB _ _ _ _ _ _ _ _ _ _ _ _) fun J=>?_
       refine apC Ev (Yb (BN m.cells) (1+nx%3) i) [((2*(i%(1+nx%3)),2*(i/(1+nx%3))),((2*(i%(1+nx%3)))+2,2*(i/(1+nx%3))),(2*(i%(1+nx%3)),(2*(i/(1+nx%3)))+2)),(((2*(i%(1+nx%3)))+2,2*(i/(1+nx%3))),((2*(i%(1+nx%3)))+2,(2*(i/(1+nx%3)))+2),(2*(i%(1+nx%3)),(2*(i/(1+nx%3)))+2))] g ?_ (hr:=by(try dsimp only);have:=Ax (BN m.cells) (1+nx%3) i;omega);intro q u x j a w h
       refine gL h<|au 0x4325 ?_
       refine zp (.pN (i+1)<|.add I I)<|au 0x25 ?_;clear h;intro a w h
       rw[Gc (w:=BN m.cells) (a:=1+nx%3) (i:=i) (jd oo oo)] at h j
       exact⟨i+1,⟨oo,q,u,x,j,by exact tO h⟩,oo⟩
      ·have d99:=of_decide_eq_false k
       refine gL h<|au 0xc431d25 ?_;clear h;intro a w h
       refine Zh h (fun b h=>?_) (fun b h=>?_)
       ·have d113:=of_decide_eq_true b
        refine gL h<|au 0xc1f5e5e5ec1f5e5e5ec1f5e5e5ec1f5e5e5e431e25 ?_
        refine zB [(_,_),(_,_),(_,_),(_,_)] I (CJ _ _ _ _ _ _ _ _ _ _ _ _ _ _ _ _ _ _ _ _ _ _ _ _) fun K=>?_
        refine apC Ev (Yb (BN m.cells) (1+nx%3) i) [((2*(i%(1+nx%3)),2*(i/(1+nx%3))),((2*(i%(1+nx%3)))+2,2*(i/(1+nx%3))),((2*(i%(1+nx%3)))+1,(2*(i/(1+nx%3)))+1)),(((2*(i%(1+nx%3)))+2,2*(i/(1+nx%3))),((2*(i%(1+nx%3)))+2,(2*(i/(1+nx%3)))+2),((2*(i%(1+nx%3)))+1,(2*(i/(1+nx%3)))+1)),(((2*(i%(1+nx%3)))+2,(2*(i/(1+nx%3)))+2),(2*(i%(1+nx%3)),(2*(i/(1+nx%3)))+2),((2*(i%(1+nx%3)))+1,(2*(i/(1+nx%3)))+1)),((2*(i%(1+nx%3)),(2*(i/(1+nx%3)))+2),(2*(i%(1+nx%3)),2*(i/(1+nx%3))),((2*(i%(1+nx%3)))+1,(2*(i/(1+nx%3)))+1))] g ?_ (hr:=by(try dsimp only);have:=Ax (BN m.cells) (1+nx%3) i;omega);intro r t z f a w h
        refine gL h<|au 0x4325 ?_
        refine zp (.pN (i+1)<|.add I I)<|au 0x25 ?_;clear h;intro a w h
        rw[Gc (w:=BN m.cells) (a:=1+nx%3) (i:=i) (jc oo oo oo)] at h f
        exact⟨i+1,⟨oo,r,t,z,f,by exact tO h⟩,oo⟩
       ·have d113:=of_decide_eq_false b
        refine gL h<|au 0x437d25 ?_
        refine zp (.pN (i+1)<|.add I I)<|au 0x25 ?_;clear h;intro a w h
        rw[←List.append_nil (Yb (BN m.cells) (1+nx%3) i),Gc (w:=BN m.cells) (a:=1+nx%3) (i:=i) (jb oo oo oo)] at h g
        exact⟨i+1,⟨oo,p,c1,H,g,by exact tO h⟩,oo⟩
    ·have d80:=of_decide_eq_false A
     refine gL h<|zq 78 I I (.move I)<|zo 81 I I I<|zo 81 I I I<|zq 78 I I (.pickF I I)<|au 0xc431d254e ?_;clear h;intro a w h
     refine Zh h (fun k h=>?_) (fun k h=>?_)
     ·have d99:=of_decide_eq_true k
      refine gL h<|au 0xc1f5e5e5ec1f5e5e5e431e25 ?_
      refine zB [(_,_),(_,_)] I (BB _ _ _ _ _ _ _ _ _ _ _ _) fun J=>?_
      refine apC Ev (Yb (BN m.cells) (1+nx%3) i) [((2*(i%(1+nx%3)),2*(i/(1+nx%3))),((2*(i%(1+nx%3)))+2,2*(i/(1+nx%3))),(2*(i%(1+nx%3)),(2*(i/(1+nx%3)))+2)),(((2*(i%(1+nx%3)))+2,2*(i/(1+nx%3))),((2*(i%(1+nx%3)))+2,(2*(i/(1+nx%3)))+2),(2*(i%(1+nx%3)),(2*(i/(1+nx%3)))+2))] g ?_ (hr:=by(try dsimp only);have:=Ax (BN m.cells) (1+nx%3) i;omega);intro q u x j a w h
      refine gL h<|au 0x4325 ?_
      refine zp (.pN (i+1)<|.add I I)<|au 0x25 ?_;clear h;intro a w h
      rw[Gc (w:=BN m.cells) (a:=1+nx%3) (i:=i) (jd oo oo)] at h j
      exact⟨i+1,⟨oo,q,u,x,j,by exact tO h⟩,oo⟩
     ·have d99:=of_decide_eq_false k
      refine gL h<|au 0xc431d25 ?_;clear h;intro a w h
      refine Zh h (fun b h=>?_) (fun b h=>?_)
      ·have d113:=of_decide_eq_true b
       refine gL h<|au 0xc1f5e5e5ec1f5e5e5ec1f5e5e5ec1f5e5e5e431e25 ?_
       refine zB [(_,_),(_,_),(_,_),(_,_)] I (CJ _ _ _ _ _ _ _ _ _ _ _ _ _ _ _ _ _ _ _ _ _ _ _ _) fun K=>?_
       refine apC Ev (Yb (BN m.cells) (1+nx%3) i) [((2*(i%(1+nx%3)),2*(i/(1+nx%3))),((2*(i%(1+nx%3)))+2,2*(i/(1+nx%3))),((2*(i%(1+nx%3)))+1,(2*(i/(1+nx%3)))+1)),(((2*(i%(1+nx%3)))+2,2*(i/(1+nx%3))),((2*(i%(1+nx%3)))+2,(2*(i/(1+nx%3)))+2),((2*(i%(1+nx%3)))+1,(2*(i/(1+nx%3)))+1)),(((2*(i%(1+nx%3)))+2,(2*(i/(1+nx%3)))+2),(2*(i%(1+nx%3)),(2*(i/(1+nx%3)))+2),((2*(i%(1+nx%3)))+1,(2*(i/(1+nx%3)))+1)),((2*(i%(1+nx%3)),(2*(i/(1+nx%3)))+2),(2*(i%(1+nx%3)),2*(i/(1+nx%3))),((2*(i%(1+nx%3)))+1,(2*(i/(1+nx%3)))+1))] g ?_ (hr:=by(try dsimp only);have:=Ax (BN m.cells) (1+nx%3) i;omega);intro r t z f a w h
       refine gL h<|au 0x4325 ?_
       refine zp (.pN (i+1)<|.add I I)<|au 0x25 ?_;clear h;intro a w h
       rw[Gc (w:=BN m.cells) (a:=1+nx%3) (i:=i) (jc oo oo oo)] at h f
       exact⟨i+1,⟨oo,r,t,z,f,by exact tO h⟩,oo⟩
      ·have d113:=of_decide_eq_false b
       refine gL h<|au 0x437d25 ?_
       refine zp (.pN (i+1)<|.add I I)<|au 0x25 ?_;clear h;intro a w h
       rw[←List.append_nil (Yb (BN m.cells) (1+nx%3) i),Gc (w:=BN m.cells) (a:=1+nx%3) (i:=i) (jb oo oo oo)] at h g
       exact⟨i+1,⟨oo,p,c1,H,g,by exact tO h⟩,oo⟩
 ·have G:(1+nx%3)*(1+ny%3)=i:=dF D
  subst G
  refine gC h<|au 0x6254310e ?_;clear h;intro a w h
  refine He h (Ze h I<|.tmp I) ⟨p,c1,rfl,g⟩<|List.sublist_append_left _ _
end
section
theorem lV{b off:Nat}: RN (Instr.fieldAt 26 (.pointer (some ⟨b,off,none⟩)) 3) (.pointer (some ⟨b,off+3,none⟩)):=fun w=>by
 simp[go_sem]
theorem eL(b off:Nat): RN (Instr.indexAt 24 (.pointer (some ⟨b,off,none⟩)) (.int .i64 0)) (.pointer (some ⟨b,off+0,none⟩)):=fun w=>by
 simp[go_sem,Instr.indexAt]
theorem rs_9_3{c0 c1 c2 a d b e c f:Value}: Zk false 1 #[c0,c1,c2,a,d,b,e,c,f] 3=some a:=rfl
theorem eK(b off:Nat): RN (Instr.indexAt 24 (.pointer (some ⟨b,off,none⟩)) (.int .i64 1)) (.pointer (some ⟨b,off+1,none⟩)):=fun w=>by
 simp[go_sem,Instr.indexAt]
theorem rs_9_4{c0 c1 c2 b a c e d f:Value}: Zk false 1 #[c0,c1,c2,b,a,c,e,d,f] 4=some a:=rfl
theorem eJ(b off:Nat): RN (Instr.indexAt 24 (.pointer (some ⟨b,off,none⟩)) (.int .i64 2)) (.pointer (some ⟨b,off+2,none⟩)):=fun w=>by
 simp[go_sem,Instr.indexAt]
theorem rs_9_5{c0 c1 c2 b d a e c f:Value}: Zk false 1 #[c0,c1,c2,b,d,a,e,c,f] 5=some a:=rfl
theorem eI(b off:Nat): RN (Instr.indexAt 24 (.pointer (some ⟨b,off,none⟩)) (.int .i64 3)) (.pointer (some ⟨b,off+3,none⟩)):=fun w=>by
 simp[go_sem,Instr.indexAt]
theorem rs_9_6{c0 c1 c2 b e c a d f:Value}: Zk false 1 #[c0,c1,c2,b,e,c,a,d,f] 6=some a:=rfl
theorem Ef(a d b c:Int): RN (Instr.build 374 [(0,.int .i64 a),(1,.int .i64 d),(2,.int .i64 b),(3,.int .i64 c)].toArray) (.agg #[.int .i64 a,.int .i64 d,.int .i64 b,.int .i64 c]):=fun w=>by simp[go_sem]
theorem X0(b off:Nat): RN (Instr.indexAt 374 (.pointer (some ⟨b,off,none⟩)) (.int .i64 0)) (.pointer (some ⟨b,off+0,none⟩)):=fun w=>by
 simp[go_sem,Instr.indexAt]
theorem XX(b off:Nat): RN (Instr.indexAt 374 (.pointer (some ⟨b,off,none⟩)) (.int .i64 3)) (.pointer (some ⟨b,off+3,none⟩)):=fun w=>by
 simp[go_sem,Instr.indexAt]
theorem XZ(b off:Nat): RN (Instr.indexAt 374 (.pointer (some ⟨b,off,none⟩)) (.int .i64 1)) (.pointer (some ⟨b,off+1,none⟩)):=fun w=>by
 simp[go_sem,Instr.indexAt]
theorem XY(b off:Nat): RN (Instr.indexAt 374 (.pointer (some ⟨b,off,none⟩)) (.int .i64 2)) (.pointer (some ⟨b,off+2,none⟩)):=fun w=>by
 simp[go_sem,Instr.indexAt]
theorem GX(a b:Int): RN (Instr.build 173 [(0,.int .i64 a),(1,.int .i64 b)].toArray) (.agg #[.int .i64 a,.int .i64 b]):=fun w=>by simp[go_sem]
abbrev mq(x:Int): Int:=x.tmod 4
abbrev lg(m:M25): Int:=mq m.m0*mq m.m3-mq m.m1*mq m.m2
def mK(m:M25): Int×Int×Int×Int:=if lg m=0 then (1,0,0,1) else if lg m<0 then (mq m.m0,mq m.m1, -mq m.m2, -mq m.m3) else (mq m.m0,mq m.m1,mq m.m2,mq m.m3)
def mvP(m:M25)(p:Nat×Nat): Int×Int:=((mK m).1*(p.1:Int)+(mK m).2.1*(p.2:Int),(mK m).2.2.1*(p.1:Int)+(mK m).2.2.2*(p.2:Int))
theorem Ns(x:Int): -3≤mq x∧mq x≤3:=by
 have h1:=Int.tmod_lt_of_pos x (show(0:Int)<4 by decide)
 have a:=Int.tmod_lt_of_pos (-x) (show(0:Int)<4 by decide)
 rw[Int.neg_tmod] at a
 show -3≤x.tmod 4∧x.tmod 4≤3
 omega
theorem OB{a:Int}{b:Nat}(h: -3≤a∧a≤3)(c:b≤6): -18≤a*(b:Int)∧a*(b:Int)≤18:=by
 have ha:a = -3∨a = -2∨a = -1∨a=0∨a=1∨a=2∨a=3:=oo
 rcases ha with rfl|rfl|rfl|rfl|rfl|rfl|rfl<;>omega
structure QE(m:M25): Prop where
 m0:I8 m.m0
 m1:I8 m.m1
 m2:I8 m.m2
 m3:I8 m.m3
 den:U8 m.den
 cells:∀c∈m.cells,U8 c
 n:m.cells.length≤9223372036854775807
theorem nv(m:M25)(g:Option Addr)(z:Nat)(p:Nat×Nat)(e:p.1≤6)(d:p.2≤6): Ji prog 152 [Ew m g z,Zy p] (Hw (mvP m p)):=by
 have q0:=Ns m.m0
 have q1:=Ns m.m1
 have q2:=Ns m.m2
 have f:=Ns m.m3
 have j : -3 ≤ -mq m.m2 ∧ -mq m.m2≤3:=oo
 have i : -3 ≤ -mq m.m3 ∧ -mq m.m3≤3:=oo
 have B:=F6 q0.1 q0.2 f.1 f.2
 have l:=F6 q1.1 q1.2 q2.1 q2.2
 have x:=OB q0 e
 have o:=OB q0 d
 have r:=OB q1 e
 have A:=OB q1 d
 have s:=OB q2 e
 have k:=OB q2 d
 have n:=OB f e
 have v:=OB f d
 have q:=OB j e
 have t:=OB j d
 have u:=OB i e
 have y:=OB i d
 simp only[mq] at *
 refine fnI func152 I ntmps152 fun S w0 E=>zS (zx I fun C=>zx I fun D=>zz iv fun F=>au 0x1df312 ?_)
 refine zp (.indexAddr I I<|eL _ _)<|ldZ rs_9_3 ?_
 refine au 0x1dff6f15f ?_
 refine zp (.indexAddr I I<|eK _ _)<|ldZ rs_9_4 ?_
 refine au 0x1dff6f15f ?_
 refine zp (.indexAddr I I<|eJ _ _)<|ldZ rs_9_5 ?_
 refine au 0x1dff6f15f ?_
 refine zp (.indexAddr I I<|eI _ _)<|ldZ rs_9_6 ?_
 refine au 0xf6f15f ?_
 refine zp (.build [(_,_),(_,_),(_,_),(_,_)] I<|Ef _ _ _ _) (zz zeroValue374 fun G=>stW I I Xw ?_)
 refine au 0xc8f53f5cf312 ?_
 refine ldZ CX ?_
 refine au 0xd8f24f4cf72f ?_
 refine ldZ CY ?_
 refine au 0x00f43112566f72f ?_;intro a w h
 refine Zh h (fun c h=>?_) (fun c h=>?_)
 ·refine wpList_nil ?_
  refine cW ?_
  refine Qo h I ?_
  refine gC h<|zr<|zp (.build [(_,_),(_,_),(_,_),(_,_)] I<|Ef _ _ _ _)<|stW I I Xw ?_
  refine au 0xc43112 ?_;clear h;intro a w h
  refine Zh h (fun b h=>(by exfalso;have q1:=eq_of_beq c;have q2:=of_decide_eq_true b;omega)) (fun b h=>?_)
  refine wpList_nil ?_
  refine cW ?_
  refine Zj h I ?_
  refine gC h<|au 0x453f5cf312561fe8f3125c0ff8f317 ?_
  refine zp (.pN (1*((p).1))<|.mul I I)<|au 0x424f4cf ?_
  refine zp (.pN (0*((p).2))<|.mul I I)<|zp (.pN ((1*((p).1))+(0*((p).2)))<|.add I I)<|au 0xd8f ?_
  refine ldZ CY ?_
  refine zm I<|zp (.pN (0*((p).1))<|.mul I I)<|au 0xc8f ?_
  refine ldZ CX ?_
  refine zm I<|zp (.pN (1*((p).2))<|.mul I I)<|zp (.pN ((0*((p).1))+(1*((p).2)))<|.add I I)<|zp (.build [(_,_),(_,_)] I<|GX _ _)<|stW I I Zt ?_
  refine zn<|zt ?_;clear h;intro a w h
  refine Js h (Ze h I<|rC Qr) ?_
  simp only[mvP,mK,lg,mq,if_pos (eq_of_beq c)];rfl
 ·refine wpList_nil ?_
  refine cW ?_
  refine Zj h I ?_
  refine gC h<|au 0xc43117 ?_;clear h;intro a w h
  refine Zh h (fun b h=>?_) (fun b h=>?_)
  ·refine wpList_nil ?_
   refine cW ?_
   refine Qo h I ?_
   refine gC h<|au 0xd8f31 ?_
   refine ldZ CY ?_
   refine zp (.unOp I (fun w=>Ld _ oo oo w))<|au 0xd8f ?_
   refine stW I I HE ?_
   refine au 0xc8f32 ?_
   refine ldZ CX ?_
   refine zp (.unOp I (fun w=>Ld _ oo oo w))<|au 0xc8f ?_
   refine stW I I HD ?_
   refine au 0xd8fb0f72f424f4cf72f453f5cf312561fe8f3125c0ff8f312 ?_
   refine ldZ CY ?_
   refine au 0xc8f72f4 ?_
   refine ldZ CX ?_
   refine au 0xb0f72f4 ?_
   refine zp (.build [(_,_),(_,_)] I<|GX _ _)<|stW I I Zt ?_
   refine zn<|zt ?_;clear h;intro a w h
   refine Js h (Ze h I<|rC Qr) ?_
   simp only[mvP,mK,lg,mq,if_neg (ne_of_beq_false c),if_pos (of_decide_eq_true b)]
  ·refine wpList_nil ?_
   refine cW ?_
   refine Zj h I ?_
   refine gC h<|au 0xd8fb0f72f424f4cf72f453f5cf312561fe8f3125c0ff8f317 ?_
   refine ldZ CY ?_
   refine au 0xc8f72f4 ?_
   refine ldZ CX ?_
   refine au 0xb0f72f4 ?_
   refine zp (.build [(_,_),(_,_)] I<|GX _ _)<|stW I I Zt ?_
   refine zn<|zt ?_;clear h;intro a w h
   refine Js h (Ze h I<|rC Qr) ?_
   simp only[mvP,mK,lg,mq,if_neg (ne_of_beq_false c),if_neg (of_decide_eq_false b)]
end
section
theorem ck2_d2(e:Bool)(x:Nat×Nat): RN (Instr.checkKey e 10000 125 (Zy x)) ():=fun w=>by
 rw[show(10000:Nat)=9999+1 from rfl,Instr.checkKey]
 have h1:=Hz e 9998 (x.1:Int)
 have a:=Hz e 9998 (x.2:Int)
 simp[go_sem,h1,a,List.range']
theorem iT(x y:Nat×Nat): RN (Op.equal 125 (Zy x) (Zy y)) (decide (x=y)):=fun w=>by
 obtain ⟨i,j⟩:=x
 obtain ⟨k,l⟩:=y
 unfold Op.equal
 rw[show Op.maxDepth=9999+1 from rfl,Op.equalIn]
 simp[go_sem,List.range']
 by_cases h1:i=k<;>by_cases a:j=l<;>simp[h1,a,Bd]
theorem Py:MK prog 120 125 3 Zy (Qi 0):=MK.ofAgg (D:=_) runUnderlying120 zeroValue3 runUnderlying125 (fun _ _=>rfl) ck2_d2 (fun x=>by simp[Instr.sameBits]) iT
theorem We(X Y:Operand)(x y:Nat×Nat): RN (do eqGuard .eql 125 X Y (Zy x) (Zy y);Go.binOp .eql 125 (Zy x) (Zy y):Sem Value) (.bool (decide (x=y))):=fun w=>by
 have e:=iT x y w
 unfold Op.equal at e
 rw[show Op.maxDepth=10000 from rfl] at e
 simp[go_sem,e]
theorem kt{l:List ((Nat×Nat)×(Nat×Nat)×(Nat×Nat))}{t s:Nat}(h:t<l.length)(hs:s<3): Zk true 2 (cellsOf Ev l).toArray (t*6+s*2)=some (Zy (HT (l.getD t cl0) s)):=by
 have:s=0∨s=1∨s=2:=oo
 rcases this with rfl|rfl|rfl<;>exact Vw (k:=6) (enc:=Ev) (fun _=>rfl) l cl0 t h true 2 _ _ dd dd rfl
theorem lt_T6{l:List ((Nat×Nat)×(Nat×Nat)×(Nat×Nat))}{t s:Nat}(h:t<l.length)(hs:s<3): t*6+s*2<(cellsOf Ev l).length:=D3 (k:=6) (enc:=Ev) (fun _=>rfl) l t (s*2) h oo
theorem VY(F t i:Nat): shF F t i<3:=Nat.mod_lt _ dd
theorem eD{pl:List (Nat×Nat)}{p:Nat×Nat}{k:Nat}(h:decide (pl.getD k (0,0)=p)=true): EZ pl p (k+1)=(k:Int):=if_pos (of_decide_eq_true h)
theorem lp{pl:List (Nat×Nat)}{p:Nat×Nat}{k:Nat}(h:decide (pl.getD k (0,0)=p)=false): EZ pl p (k+1)=EZ pl p k:=if_neg (of_decide_eq_false h)
theorem mR{pl:List (Nat×Nat)}{p:Nat×Nat}(h:EZ pl p pl.length<0): atP pl p=pl.length:=if_pos h
theorem mQ{pl:List (Nat×Nat)}{p:Nat×Nat}{q:Nat}(h:EZ pl p pl.length=(q:Int)): atP pl p=q:=by unfold atP;rw[if_neg oo,h];rfl
theorem kB{pl:List (Nat×Nat)}{p:Nat×Nat}(h:EZ pl p pl.length<0): plP pl p=pl++[p]:=if_pos h
theorem kA{pl:List (Nat×Nat)}{p:Nat×Nat}(h:¬EZ pl p pl.length<0): plP pl p=pl:=if_neg h
theorem kC(pl:List (Nat×Nat))(p:Nat×Nat): (plP pl p).length≤pl.length+1:=by unfold plP;split<;>simp
theorem Pf(c:(Nat×Nat)×(Nat×Nat)×(Nat×Nat))(F t:Nat): ∀i pl,(plT c F t i pl).length≤pl.length+i
 | 0,_=>Nat.le_refl _
 | i+1,pl=>by rw[plT];have:=kC (plT c F t i pl) (HT c (shF F t i));have:=Pf c F t i pl;omega
theorem Pe(l:List ((Nat×Nat)×(Nat×Nat)×(Nat×Nat)))(F:Nat): ∀t,(plW l F t).length≤3*t
 | 0=>Nat.le_refl _
 | t+1=>by rw[plW];have:=Pf (l.getD t cl0) F t 3 (plW l F t);have:=Pe l F t;omega
theorem OL(l:List ((Nat×Nat)×(Nat×Nat)×(Nat×Nat)))(F:Nat): ∀t,(trW l F t).length=t
 | 0=>rfl
 | t+1=>by rw[trW,List.length_append,OL l F t];rfl
theorem list3{d:List Nat}{a b c:Nat}(h:d.length=3)(f:d.getD 0 0=a)(h1:d.getD 1 0=b)(e:d.getD 2 0=c): d=[a,b,c]:=by
 match d,h with
 | [x,y,z],_=>simp only[List.getD,List.getElem?_cons_zero,List.getElem?_cons_succ,Option.getD_some] at f h1 e;rw[f,h1,e]
theorem RX{a:List Nat}{i v:Nat}(b:i<a.length){g:Nat→Nat}(h:∀k,k<i→a.getD k 0=g k)(hv:v=g i): ∀k,k<i+1→(a.set i v).getD k 0=g k:=fun k hk=>by
 by_cases e:k=i
 ·rw[e];simp[List.getD,b,hv]
 ·simp only[List.getD];rw[List.getElem?_set_ne (fun x=>e x.symm)];exact h k oo
theorem cnt_le(c:List (Nat×Nat×Nat))(a b:Nat): ∀t,Sv c a b t≤t
 | 0=>Nat.le_refl _
 | t+1=>by rw[Sv];have:=cnt_le c a b t;split<;>omega
theorem mp{c:List (Nat×Nat×Nat)}{a b t:Nat}(h1:HM (c.getD t (0,0,0)) a=true)(d:HM (c.getD t (0,0,0)) b=true): Sv c a b t+1=Sv c a b (t+1):=by rw[Sv,h1,d];rfl
theorem iZ{c:List (Nat×Nat×Nat)}{a b t:Nat}(h:(HM (c.getD t (0,0,0)) a && HM (c.getD t (0,0,0)) b)=false): Sv c a b t=Sv c a b (t+1):=by rw[Sv,h];rfl
theorem O2(c:List (Nat×Nat×Nat))(F a:Nat): ∀b,b≤a+1→sdI c F a b=[]
 | 0,_=>rfl
 | b+1,h=>by rw[sdI,O2 c F a b oo,if_neg oo];rfl
theorem jU{c:List (Nat×Nat×Nat)}{F a b:Nat}(h:a<b)(hc:(((Sv c a b c.length:Nat):Int) == 1)=true): sdI c F a (b+1)=sdI c F a b++[(a,b,(a+3*b+F)%5)]:=by
 rw[sdI,if_pos ⟨h,by have:=eq_of_beq hc;omega⟩]
theorem sdI_no{c:List (Nat×Nat×Nat)}{F a b:Nat}(hc:(((Sv c a b c.length:Nat):Int) == 1)=false): sdI c F a (b+1)=sdI c F a b:=by
 rw[sdI,if_neg (fun h=>by rw[h.2] at hc;cases hc),List.append_nil]
theorem O3(c:List (Nat×Nat×Nat))(F a:Nat): ∀b,(sdI c F a b).length≤b
 | 0=>Nat.le_refl _
 | b+1=>by rw[sdI,List.length_append];have:=O3 c F a b;split<;>(simp only[List.length_cons,List.length_nil];omega)
theorem Lc(b:List (Nat×Nat×Nat))(F n:Nat): ∀a,(sdW b F n a).length≤a*n
 | 0=>by rw[Nat.zero_mul];exact Nat.le_refl _
 | a+1=>by rw[sdW,List.length_append,Nat.add_mul,Nat.one_mul];have:=O3 b F a n;have:=Lc b F n a;omega
def In6(l:List ((Nat×Nat)×(Nat×Nat)×(Nat×Nat))): Prop := ∀t∈l,∀i,(HT t i).1≤6∧(HT t i).2≤6
end
section
theorem Lh{c0 c1 c2 a d b e c f:Value}: Zk true 9 #[c0,c1,c2,a,d,b,e,c,f] 0=some (.agg #[c0,c1,c2,a,d,b,e,c,f]):=rfl
theorem LC(a:Option Addr)(n c:Nat)(w:World)(ty:TypeId)(cs:Array Bool): (Go.builtin .len #[246] ty cs #[.slice a n c]).run prog w=.ok (.value (.int .i64 n)) w:=by
 simp[go_sem]
theorem PV{b off:Nat}: RN (Instr.fieldAt 26 (.pointer (some ⟨b,off,none⟩)) 5) (.pointer (some ⟨b,off+8,none⟩)):=fun w=>by
 simp[go_sem]
theorem Wi{c0 c1 c2 b e c f d a:Value}: Zk false 1 #[c0,c1,c2,b,e,c,f,d,a] 8=some a:=rfl
theorem ix_246(b off n c j:Nat)(h:j<n): RN (Instr.indexAt 246 (.slice (some ⟨b,off,none⟩) n c) (.int .i64 (j:Int))) (.pointer (some ⟨b,off+j*6,none⟩)):=fun w=>by
 simpa using Qd runUnderlying246 sizeOf248 b off n c j h w
theorem ly(b off j:Nat)(h:j<3)(w:World): (Instr.indexAt 248 (.pointer (some ⟨b,off,none⟩)) (.int .i64 (j:Int))).run prog w=.ok (.pointer (some ⟨b,off+j*2,none⟩)) w :=  Er runUnderlying248 sizeOf125 b off j h w
theorem lB(b off n c j:Nat)(h:j<n): RN (Instr.indexAt 81 (.slice (some ⟨b,off,none⟩) n c) (.int .i64 (j:Int))) (.pointer (some ⟨b,off+j*2,none⟩)):=fun w=>by
 simpa using Qd runUnderlying81 sizeOf125 b off n c j h w
theorem IZ(b a:Value)(w:World): (Instr.buildSlice 81 1 [(0,.agg #[b,a])].toArray).run prog w=.ok (.slice (some ⟨w.heap.size,0,none⟩) 1 1) (w.alloc (.cells #[b,a] 125 (0,0))):=by
 simp[go_sem]
theorem Se{b off:Nat}: RN (Instr.fieldAt 171 (.pointer (some ⟨b,off,none⟩)) 0) (.pointer (some ⟨b,off+0,none⟩)):=fun w=>by
 simp[go_sem]
theorem Uj(b a:Value)(w:World): (Instr.buildSlice 169 1 [(0,.agg #[b,a])].toArray).run prog w=.ok (.slice (some ⟨w.heap.size,0,none⟩) 1 1) (w.alloc (.cells #[b,a] 173 (0,0))):=by
 simp[go_sem]
theorem Sc{b off:Nat}: RN (Instr.fieldAt 171 (.pointer (some ⟨b,off,none⟩)) 1) (.pointer (some ⟨b,off+1,none⟩)):=fun w=>by
 simp[go_sem]
theorem Be(c b a:Value)(w:World): (Instr.buildSlice 39 1 [(0,.agg #[c,b,a])].toArray).run prog w=.ok (.slice (some ⟨w.heap.size,0,none⟩) 1 1) (w.alloc (.cells #[c,b,a] 127 (0,0))):=by
 simp[go_sem]
theorem DT{b off:Nat}: RN (Instr.fieldAt 171 (.pointer (some ⟨b,off,none⟩)) 2) (.pointer (some ⟨b,off+2,none⟩)):=fun w=>by
 simp[go_sem]
theorem gI(m:M25)(o:Option Addr)(cC nx ny F:Nat)(hx:m.nx=((nx:Nat):Int))(hy:m.ny=((ny:Nat):Int))(hf:m.first=((F:Nat):Int))(j0:nx≤255)(j2:ny≤255)(hF:F≤255)(hm:QE m)(l:List ((Nat×Nat)×(Nat×Nat)×(Nat×Nat)))(hl:Yb (BN m.cells) (1+nx%3) ((1+nx%3)*(1+ny%3))=l)(h6:In6 l)(pl:List (Nat×Nat))(e7:plW l F l.length=pl)(e:List (Nat×Nat×Nat))(h7:trW l F l.length=e):
  Ctr prog 83 [Ew m o cC] [Row o (List.map Bb m.cells)] (fun v Ψ => ∃a2 c2 a3 E a4 c4,v=.agg #[.slice a2 (List.map (mvP m) pl).length c2,.slice a3 e.length E,.slice a4 (sdW e F pl.length pl.length).length c4] ∧
   Ψ=[Row a4 (cellsOf Zd (sdW e F pl.length pl.length)),Row a3 (cellsOf Zd e),Row a2 (cellsOf Hw (List.map (mvP m) pl))]):=by
 have e6:l.length≤36:=by
  rw[←hl]
  have hN:(1+nx%3)*(1+ny%3)≤9:=Nat.le_trans (Nat.mul_le_mul (show 1+nx%3≤3 by omega) (show 1+ny%3≤3 by omega)) dd
  exact Nat.le_trans (Ax _ _ _) oo
 have e4:pl.length≤108:=by rw[←e7];have:=Pe l F l.length;omega
 have j7:e.length≤36:=by rw[←h7,OL];exact e6
 refine fnI func83 I ntmps83 fun S w0 hS=>zS (zx I fun b1=>zz zeroValue171 fun b2=>zn<|zS (zz zeroValue171 fun b3=>au 0x3125312 ?_))
 refine ldZ Lh ?_;intro a w h
 refine Zc<|Xb h (vs:=[_]) I call151 (nM m o cC nx ny hx hy j0 j2 hm.cells hm.n) ss dd ?_;clear h;rintro v17 k6 a w ⟨e9,l4,rfl,c7⟩ h
 rw[hl] at h c7
 replace h:=h.shareO' hS c7
 refine gL h<|au 0x92531125 ?_;clear h;intro a w h
 refine lpG h [1,2,3,5] pkL (fun Y Z (t:Nat) a w=>t≤l.length ∧ ∃(a1:Option Addr) (c1:Nat) (o1:List (Nat×Obj)) (a2:Option Addr) (c2:Nat) (o2:List (Nat×Obj)) (a3:Option Addr) (E:Nat) (o3:List (Nat×Obj)),(GrowO 2 125 (.slice a1 (plW l F t).length c1) (plW l F t).length (cellsOf Zy<|plW l F t) o1∧GrowO 2 173 (.slice a2 (List.map (mvP m)<|plW l F t).length c2) (List.map (mvP m)<|plW l F t).length (cellsOf Hw<|List.map (mvP m)<|plW l F t) o2∧GrowO 3 127 (.slice a3 (trW l F t).length E) (trW l F t).length (cellsOf Zd<|trW l F t) o3)∧St 143 S w0 ((4,(.slice a1 (plW l F t).length c1))::(6,nI t)::Y) (o1++(o2++(o3++((b3,bV (.agg #[(.slice a2 (List.map (mvP m)<|plW l F t).length c2),(.slice a3 (trW l F t).length E),(.slice none 0 0)]) 171)::((b2,bV (.agg #[(.slice none 0 0),(.slice none 0 0),(.slice none 0 0)]) 171)::((b1,bV (Ew m o cC) 26)::[])))))) Z a w) (fun t=>l.length-t) 0 (⟨Nat.zero_le _,none,0,[],none,0,[],none,0,[],⟨GrowO.nil _ _,GrowO.nil _ _,GrowO.nil _ _⟩,by exact(h).sub sA⟩) ?_;clear h
 rintro t a w ⟨e5,a1,c1,o1,a2,c2,o2,a3,E,o3,⟨h0,b0,L⟩,h⟩
 refine gC h<|au 0x44311 ?_
 refine zp (.builtin [_] I<|LC _ _ _)<|au 0x2c ?_;intro a w h
 refine Zb h I (fun T=>?_) (fun T=>?_)
 ·have g:t<l.length:=dT T
  obtain ⟨X,a7,rfl⟩:=h.row_addr (ad:=e9) (M:=cellsOf Ev l) mm (nE 6)
  have n2:t*(F/3)≤36*85:=Nat.mul_le_mul oo oo
  have n1:=Pe l F t
  have l6:=OL l F t
  refine gC h<|zk<|zs<|zb<|zS (zz A3 fun b7=>au 0x9253112 ?_);clear h;intro a w h
  refine lpG h [1,2,3,5,6,7] pkL (fun Y Z (i:Nat) a w=>i≤3 ∧ ∃(ns:List Nat) (a5:Option Addr) (D:Nat) (C:List (Nat×Obj)) (a6:Option Addr) (c6:Nat) (o6:List (Nat×Obj)),(ns.length=3∧(∀k,k<i→ns.getD k 0=atP (plT (l.getD t cl0) F t k<|plW l F t) (HT (l.getD t cl0)<|shF F t k))∧GrowO 2 125 (.slice a5 (plT (l.getD t cl0) F t i<|plW l F t).length D) (plT (l.getD t cl0) F t i<|plW l F t).length (cellsOf Zy<|plT (l.getD t cl0) F t i<|plW l F t) C∧GrowO 2 173 (.slice a6 (List.map (mvP m)<|plT (l.getD t cl0) F t i<|plW l F t).length c6) (List.map (mvP m)<|plT (l.getD t cl0) F t i<|plW l F t).length (cellsOf Hw<|List.map (mvP m)<|plT (l.getD t cl0) F t i<|plW l F t) o6)∧St 143 S w0 ((4,(.slice a5 (plT (l.getD t cl0) F t i<|plW l F t).length D))::(8,nI i)::Y) ((b7,.cells (List.map Qi<|ns).toArray 127 (0,0))::(C++(o6++(o3++((b3,bV (.agg #[(.slice a6 (List.map (mvP m)<|plT (l.getD t cl0) F t i<|plW l F t).length c6),(.slice a3 (trW l F t).length E),(.slice none 0 0)]) 171)::((b2,bV (.agg #[(.slice none 0 0),(.slice none 0 0),(.slice none 0 0)]) 171)::((b1,bV (Ew m o cC) 26)::[]))))))) Z a w) (fun i=>3-i) 0 (⟨Nat.zero_le _,[0,0,0],a1,c1,o1,a2,c2,o2,⟨rfl,fun _ h=>absurd h (Nat.not_lt_zero _),h0,b0⟩,by exact h.sub sA⟩) ?_;clear h
  rintro i a w ⟨k5,ns,a5,D,C,a6,c6,o6,⟨e1,G,f,P⟩,h⟩
  refine gC h<|au 0x2c4311 ?_;intro a w h
  refine Zb h I (fun V=>?_) (fun V=>?_)
  ·have j4:i<3:=dT V
   have l2:=Pf (l.getD t cl0) F t i (plW l F t)
   refine gC h<|zk<|zs<|zb<|zs<|yF [0,1,2,3,4,5,6,7,8,9,10,11,12,13,14,15,16,17,18,19]<|au 0x888 ?_
   refine yp I (.fA I PV)<|ldY Wi ?_;clear h
   refine yp I (Pure1.cast (v':=.int .i64 ((F:Nat):Int)) (.convert I<|Mo _<|wrap_i64 _ oo oo) (by rw[hf]))<|yp I (.pN (i+F)<|.add I I)<|au 0x8 ?_
   refine yp I (.fA I PV)<|ldY Wi ?_
   refine yp I (Pure1.cast (v':=.int .u8 ((F/3:Nat):Int)) (.binOp I I (fun _=>Ei _ _ _ _ _ dd)) (by rw[hf,show(3:Int)=((3:Nat):Int) from I,Cd,wrap_u8 _ oo oo]))<|yp I (.convert I<|Mo _<|wrap_i64 _ oo oo)<|yp I (.pN (t*(F/3))<|.mul I I)<|yp I (.pN ((i+F)+(t*(F/3)))<|.add I I)<|yp I (Pure1.cast (v':=.int .i64 ((shF F t i:Nat):Int)) (.binOp I I (fun _=>Yn _ _ _ _ _ dd)) (by rw[show(3:Int)=((3:Nat):Int) from I,Ym];rfl))<|yp I (.indexAddr I I<|ix_246 _ _ _ _ _ oo)<|yp I (Pure1.cast (v':=.pointer<|some ⟨X,a7+(t*6+shF F t i*2),none⟩) (.indexAddr I I<|ly _ _ _ (by exact VY _ _ _)) (by rw[Nat.add_assoc])) ?_
   refine Zf (M:=cellsOf Ev l) (j:=t*6+shF F t i*2) I kk I mm (lt_T6 g<|VY F t i) isAgg125 sizeOf125 (kt g<|VY F t i) (.inl I) dd ?_
   refine yz I H6 fun b9=>stV I I I Zt ?_
   refine au 0x9253112531a ?_;intro a w h
   refine lpG h [1,2,3,4,5,6,7,8,9] pkL (fun Y Z (k:Nat) a w=>k≤(plT (l.getD t cl0) F t i<|plW l F t).length∧St 143 S w0 ((10,.int .i64<|EZ (plT (l.getD t cl0) F t i<|plW l F t) (HT (l.getD t cl0)<|shF F t i) k)::(11,nI k)::Y) ((b9,bV (Zy<|HT (l.getD t cl0)<|shF F t i) 125)::((b7,.cells (List.map Qi<|ns).toArray 127 (0,0))::(C++(o6++(o3++((b3,bV (.agg #[(.slice a6 (List.map (mvP m)<|plT (l.getD t cl0) F t i<|plW l F t).length c6),(.slice a3 (trW l F t).length E),(.slice none 0 0)]) 171)::((b2,bV (.agg #[(.slice none 0 0),(.slice none 0 0),(.slice none 0 0)]) 171)::((b1,bV (Ew m o cC) 26)::[])))))))) Z a w) (fun k=>(plT (l.getD t cl0) F t i<|plW l F t).length-k) 0 (⟨Nat.zero_le _,by exact(h).sub sA⟩) ?_;clear h
   rintro k a w ⟨j9,h⟩
   refine gC h<|au 0x2ca8f44311 ?_;intro a w h
   refine Zb h I (fun N=>?_) (fun N=>?_)
   ·have j3:k<(plT (l.getD t cl0) F t i (plW l F t)).length:=dT N
    obtain ⟨k7,e8,rfl,R⟩:=RV f oo
    refine gC h<|zk<|zs<|zb<|zs<|yE [0,1,2,3,4,5]<|au 0x88 ?_
    refine yp I (.indexAddr I I<|lB _ _ _ _ _ oo)<|yd I I (by repeat(first|exact R|exact List.mem_append_left _ R|apply List.Mem.tail|apply List.mem_append_right)) isAgg125 sizeOf125 (Kr (k:=2) (fun _=>rfl) ((fun _=>rfl)) (plT (l.getD t cl0) F t i<|plW l F t) e8 (0,0) k oo) ?_;clear h
    refine au 0x30f ?_
    refine yp I (.binOp I I (fun _=>We _ _ ((plT (l.getD t cl0) F t i<|plW l F t).getD k (0,0)) (HT (l.getD t cl0)<|shF F t i) _))<|yn ?_;intro a w h
    refine Zb h I (fun Q=>?_) (fun Q=>?_)
    focus
     refine gC h<|au 0x432543 ?_
     refine zp (.pN (k+1)<|.add I I)<|au 0x25 ?_;clear h;intro a w h
     (try dsimp only[nI] at h);rw[show((k:Nat):Int)=EZ (plT (l.getD t cl0) F t i (plW l F t)) (HT (l.getD t cl0) (shF F t i)) (k+1) from(eD Q).symm] at h
    rotate_left
    focus
     refine gC h<|zk<|zr<|zm I<|zp (.pN (k+1)<|.add I I)<|au 0x25 ?_;clear h;intro a w h
     rw[←lp Q] at h
    all_goals
     exact⟨k+1,⟨oo,tO h⟩,oo⟩
   ·have e3:(plT (l.getD t cl0) F t i (plW l F t)).length=k:=dF N
    subst e3
    refine gC h<|au 0x2c43110e ?_;clear h;intro a w h
    refine Zb h I (fun J=>?_) (fun J=>?_)
    ·have B:=of_decide_eq_true J
     refine gC h<|au 0x5e43125a8f431 ?_
     refine zB [(_,_)] I (IZ _ _) fun l5=>?_
     refine apC Zy (plT (l.getD t cl0) F t i<|plW l F t) [HT (l.getD t cl0) (shF F t i)] f ?_;intro h2 i1 j1 c9 a w h
     refine gL h<|za I<|zn<|yE [0,1,2,3,4,5,6,7,8]<|au 0xdeacf ?_;clear h
     refine ldY Lh ?_
     refine au 0x30f ?_
     refine yv [_,_] I I call152 (nv m _ _ (HT (l.getD t cl0)<|shF F t i) (h6 _ (getD_mem l (d:=cl0) g) _).1 (h6 _ (getD_mem l (d:=cl0) g) _).2) (yB I [(_,_)] I (Uj _ _) fun n0=>?_)
     refine bR Hw (List.map (mvP m)<|plT (l.getD t cl0) F t i<|plW l F t) [mvP m (HT (l.getD t cl0)<|shF F t i)] P ?_ (hr:=by(try dsimp only);rw[List.length_map];omega);intro b5 h3 j6 U
     refine au 0xacf ?_
     refine yt I I I EH uu sizeOf169 I nb (by show((flat ((.slice b5 ((List.map (mvP m)<|plT (l.getD t cl0) F t i<|plW l F t)++[mvP m (HT (l.getD t cl0)<|shF F t i)]).length h3)) && true))=true;simp only[GrowO.flat (U)];rfl) ?_
     refine au 0xbbf443a ?_
     refine zt' I I ((congrArg (fun z=>Zl _ z _)<|Nat.zero_add _).trans<|Qy (enc:=Qi) ns i ((plT (l.getD t cl0) F t i<|plW l F t).length)) uu sizeOf3 I (by simp;omega) I ?_
     refine zn<|zr<|zm I<|zp (.pN (i+1)<|.add I I)<|au 0x25 ?_;intro a w h
     have b4:plT (l.getD t cl0) F t i (plW l F t)++[HT (l.getD t cl0) (shF F t i)]=plT (l.getD t cl0) F t (i+1) (plW l F t):=(kB B).symm
     rw[b4] at h c9
     rw[show List.map (mvP m) (plT (l.getD t cl0) F t i (plW l F t))++[mvP m (HT (l.getD t cl0) (shF F t i))]=List.map (mvP m) (plT (l.getD t cl0) F t (i+1) (plW l F t)) from by rw[←b4,List.map_append];rfl] at h U
     exact⟨i+1,⟨oo,_,h2,i1,j1,b5,h3,j6,⟨by rw[List.length_set];exact e1,RX oo G (mR B).symm,c9,U⟩,by exact tO h⟩,oo⟩
    ·have B:=of_decide_eq_false J
     obtain ⟨q,hq⟩:∃q:Nat,EZ (plT (l.getD t cl0) F t i (plW l F t)) (HT (l.getD t cl0) (shF F t i)) (plT (l.getD t cl0) F t i (plW l F t)).length=(q:Int):=⟨_,(Int.toNat_of_nonneg oo).symm⟩
     rw[hq] at h
     refine gC h<|au 0xbbf4437 ?_
     refine zt' I I ((congrArg (fun z=>Zl _ z _)<|Nat.zero_add _).trans<|Qy (enc:=Qi) ns i q) uu sizeOf3 I (by simp;omega) I ?_
     refine zn<|zr<|zm I<|zp (.pN (i+1)<|.add I I)<|au 0x25 ?_;clear h;intro a w h
     have b4:plT (l.getD t cl0) F t i (plW l F t)=plT (l.getD t cl0) F t (i+1) (plW l F t):=(kA B).symm
     rw[b4] at h f P
     exact⟨i+1,⟨oo,_,a5,D,C,a6,c6,o6,⟨by rw[List.length_set];exact e1,RX oo G (mQ hq).symm,f,P⟩,by exact tO h⟩,oo⟩
  ·have e2:3=i:=dF V
   subst e2
   have i6:=list3 e1 (G 0 oo) (G 1 oo) (G 2 oo)
   subst i6
   refine gC h<|au 0xce90fcaf30e ?_
   refine zB [(_,_)] I (Be _ _ _) fun l7=>?_
   refine apC Zd (trW l F t) [nT (l.getD t cl0) F t (plW l F t)] L ?_;intro b6 h5 i7 H a w h
   refine gL h<|au 0xcaf ?_
   refine zt' I I K9 uu sizeOf39 I nb (by show((flat ((.slice b6 ((trW l F t)++[nT (l.getD t cl0) F t (plW l F t)]).length h5)) && true))=true;simp only[GrowO.flat (H)];rfl) ?_
   refine zn<|zr<|zm I<|zp (.pN (t+1)<|.add I I)<|au 0x25 ?_;clear h;intro a w h
   rw[show trW l F t++[nT (l.getD t cl0) F t (plW l F t)]=trW l F (t+1) from rfl] at h H
   rw[show plT (l.getD t cl0) F t 3 (plW l F t)=plW l F (t+1) from rfl] at h f P
   exact⟨t+1,⟨oo,a5,D,C,a6,c6,o6,b6,h5,i7,⟨f,P,H⟩,by exact tO h⟩,oo⟩
 ·have u:l.length=t:=dF T
  subst u
  rw[e7] at h h0 b0
  rw[h7] at h L
  refine gC h<|au 0x9253110e ?_;clear h;intro a w h
  refine lpG h [1,2,3,4,5,6] pkL (fun Y Z (c:Nat) a w=>c≤pl.length ∧ ∃(a4:Option Addr) (c4:Nat) (o4:List (Nat×Obj)),(GrowO 3 127 (.slice a4 (sdW e F pl.length<|c).length c4) (sdW e F pl.length<|c).length (cellsOf Zd<|sdW e F pl.length<|c) o4)∧St 143 S w0 ((12,nI c)::Y) (o4++(o1++(o2++(o3++((b3,bV (.agg #[(.slice a2 (List.map (mvP m)<|pl).length c2),(.slice a3 (e).length E),(.slice a4 (sdW e F pl.length<|c).length c4)]) 171)::((b2,bV (.agg #[(.slice none 0 0),(.slice none 0 0),(.slice none 0 0)]) 171)::((b1,bV (Ew m o cC) 26)::[]))))))) Z a w) (fun c=>pl.length-c) 0 (⟨Nat.zero_le _,none,0,[],GrowO.nil _ _,by exact(h).sub sA⟩) ?_;clear h
  rintro c a w ⟨j5,a4,c4,o4,e0,h⟩
  refine gC h<|au 0x2ca8f44311 ?_;intro a w h
  refine Zb h I (fun K=>?_) (fun K=>?_)
  ·have h8:c<pl.length:=dT K
   have hmul:c*pl.length≤108*108:=Nat.mul_le_mul oo e4
   have l9:=Lc e F pl.length c
   refine gC h<|au 0x431917 ?_
   refine zp (.pN (c+1)<|.add I I)<|au 0x925 ?_;clear h;intro a w h
   refine lpG h [1,2,3,4,5,6,12,91] pkL (fun Y Z (b:Nat) a w => ∃(a5:Option Addr) (D:Nat) (C:List (Nat×Obj)),(c+1≤b∧b≤pl.length∧GrowO 3 127 (.slice a5 (sdW e F pl.length c++sdI e F c (b)).length D) (sdW e F pl.length c++sdI e F c (b)).length (cellsOf Zd (sdW e F pl.length c++sdI e F c (b))) C)∧St 143 S w0 ((13,nI b)::Y) (C++(o1++(o2++(o3++((b3,bV (.agg #[(.slice a2 (List.map (mvP m)<|pl).length c2),(.slice a3 (e).length E),(.slice a5 (sdW e F pl.length c++sdI e F c (b)).length D)]) 171)::((b2,bV (.agg #[(.slice none 0 0),(.slice none 0 0),(.slice none 0 0)]) 171)::((b1,bV (Ew m o cC) 26)::[]))))))) Z a w) (fun b=>pl.length-b) (c+1) (⟨a4,c4,o4,⟨Nat.le_refl _,oo,by rw[O2 e F c (c+1) (Nat.le_refl _),List.append_nil];exact e0⟩,by rw[O2 e F c (c+1) (Nat.le_refl _),List.append_nil];exact h.sub sA⟩) ?_;clear h
   rintro b a w ⟨a5,D,C,⟨l3,k9,f⟩,h⟩
   refine gC h<|au 0x2ca8f44311 ?_;intro a w h
   refine Zb h I (fun W=>?_) (fun W=>?_)
   ·have h9:b<pl.length:=dT W
    refine gC h<|au 0x9253112531917 ?_;clear h;intro a w h
    refine lpG h [1,2,3,4,5,6,12,13,91] pkL (fun Y Z (t:Nat) a w=>t≤e.length∧St 143 S w0 ((14,nI<|Sv e c b t)::(15,nI t)::Y) (C++(o1++(o2++(o3++((b3,bV (.agg #[(.slice a2 (List.map (mvP m)<|pl).length c2),(.slice a3 (e).length E),(.slice a5 (sdW e F pl.length c++sdI e F c (b)).length D)]) 171)::((b2,bV (.agg #[(.slice none 0 0),(.slice none 0 0),(.slice none 0 0)]) 171)::((b1,bV (Ew m o cC) 26)::[]))))))) Z a w) (fun t=>e.length-t) 0 (⟨Nat.zero_le _,by exact(h).sub sA⟩) ?_;clear h
    rintro t a w ⟨e5,h⟩
    refine gC h<|au 0x2ce0f90fcaf4311 ?_;intro a w h
    refine Zb h I (fun A=>?_) (fun A=>?_)
    ·have g:t<e.length:=dT A
     obtain ⟨k8,b8,rfl,p⟩:=RV L oo
     have l8:=cnt_le e c b t
     refine gC h<|au 0x42f490fcaf31917 ?_
     refine zd I (by repeat(first|exact p|exact List.mem_append_left _ p|apply List.Mem.tail|apply List.mem_append_right)) isAgg127 sizeOf127 (Kr (k:=3) (fun _=>rfl) ((fun _=>rfl)) e b8 (0,0,0) t oo) ?_
     refine zm I<|zv [_,_] I call153 (C_Has (e.getD t (0,0,0)) c) ?_;clear h;intro a w h
     refine Zh h (fun r h=>?_) (fun r h=>?_)
     focus
      refine gL h<|zm I<|zq 112 I I (.fA I Sc)<|ldQ 112 Vb ?_
      refine zq 112 I I (.move I)<|zq 112 I I (.indexAddr I I<|lC _ _ _ _ _ oo) ?_;clear h;intro a w h
      refine Zq 112 h I I<|Pj h I (by repeat(first|exact p|exact List.mem_append_left _ p|apply List.Mem.tail|apply List.mem_append_right)) isAgg127 sizeOf127 (Kr (k:=3) (fun _=>rfl) ((fun _=>rfl)) e b8 (0,0,0) t oo) dd ?_;clear h;intro a h
      refine gL h<|zq 112 I I (.move I) ?_;clear h;intro a w h
      refine Zq 112 h I I<|Qw h (vs:=[_,_]) I call153 (C_Has (e.getD t (0,0,0)) b) dd ?_;clear h;intro a w h
      refine gL h<|au 0x22e ?_;clear h;intro a w h
      refine Zb h I (fun x=>?_) (fun x=>?_)
      focus
       refine gC h<|zr<|zm I<|zp (.pN ((Sv e c b t)+1)<|.add I I)<|au 0x4325 ?_
       refine zp (.pN (t+1)<|.add I I)<|au 0x25 ?_;clear h;intro a w h
       rw[mp r x] at h
      rotate_left
      focus
       refine gC h<|zk<|zr<|zm I<|zp (.pN (t+1)<|.add I I)<|au 0x25 ?_;clear h;intro a w h
       rw[iZ (by rw[r];exact x)] at h
     rotate_left 2
     focus
      refine gL h<|au 0x437d24e48f48f48f48f48f48f48f4 ?_
      refine zp (.pN (t+1)<|.add I I)<|au 0x25 ?_;clear h;intro a w h
      rw[iZ (by rw[r];rfl)] at h
     all_goals
      exact⟨t+1,⟨oo,tO h⟩,oo⟩
    ·have u:e.length=t:=dF A
     subst u
     refine gC h<|au 0x200f4310e ?_;clear h;intro a w h
     refine Zb h I (fun y=>?_) (fun y=>?_)
     ·refine gC h<|zr<|zp (.fA I DT)<|au 0x444451f ?_
      refine zp (.pN (3*b)<|.mul I I)<|zp (.pN (c+(3*b))<|.add I I)<|zp (.fA I PV)<|ldZ Wi ?_
      refine zp (Pure1.cast (v':=.int .i64 ((F:Nat):Int)) (.convert I<|Mo _<|wrap_i64 _ oo oo) (by rw[hf]))<|zp (.pN ((c+(3*b))+F)<|.add I I)<|zp (Pure1.cast (v':=.int .i64 (((c+3*b+F)%5:Nat):Int)) (.binOp I I (fun _=>Yn _ _ _ _ _ dd)) (by rw[show(5:Int)=((5:Nat):Int) from I,Ym]))<|au 0x6bf ?_
      refine zB [(_,_)] I (Be _ _ _) fun j8=>?_
      refine apC Zd (sdW e F pl.length c++sdI e F c (b)) [(c,b,(c+3*b+F)%5)] f ?_ (hr:=by(try dsimp only);have:=O3 e F c b;rw[List.length_append];omega);intro O c8 h4 s a w h
      refine gL h<|zp (.fA I DT)<|zt' I I HF uu sizeOf39 I nb (by show((flat ((.slice O ((sdW e F pl.length c++sdI e F c (b))++[(c,b,(c+3*b+F)%5)]).length c8)) && true))=true;simp only[GrowO.flat (s)];rfl) ?_
      refine zn<|zr<|zm I<|zp (.pN (b+1)<|.add I I)<|au 0x25 ?_;clear h;intro a w h
      rw[show(sdW e F pl.length c++sdI e F c (b))++[(c,b,(c+3*b+F)%5)]=sdW e F pl.length c++sdI e F c (b+1) from by rw[jU oo y,List.append_assoc]] at h s
      exact⟨b+1,⟨O,c8,h4,⟨oo,oo,s⟩,by exact tO h⟩,oo⟩
     ·refine gC h<|zk<|zr<|zm I<|zp (.pN (b+1)<|.add I I)<|au 0x25 ?_;clear h;intro a w h
      rw[←sdI_no (F:=F) y] at h f
      exact⟨b+1,⟨a5,D,C,⟨oo,oo,f⟩,by exact tO h⟩,oo⟩
   ·have hb:b=pl.length:=dF W
    subst hb
    refine gC h<|ze<|zr<|zm I<|zp (.pN (c+1)<|.add I I)<|au 0x25 ?_;clear h;intro a w h
    rw[show sdW e F pl.length c++sdI e F c (pl.length)=sdW e F pl.length (c+1) from rfl] at h f
    exact⟨c+1,⟨oo,a5,D,C,f,by exact tO h⟩,oo⟩
  ·have a8:pl.length=c:=dF K
   subst a8
   replace h:=h.shareO' hS e0
   replace h:=h.drop (List.sublist_append_right _ _)
   replace h:=h.shareO' hS b0
   replace h:=h.shareO' hS L
   refine gC h<|au 0xce310e ?_
   refine zt' I I Qg uu sizeOf171 I nb (by show((flat ((.slice a2 (List.map (mvP m)<|pl).length c2)) && (flat ((.slice a3 (e).length E)) && (flat ((.slice a4 (sdW e F pl.length<|pl.length).length c4)) && true))))=true;simp only[GrowO.flat (b0),GrowO.flat (L),GrowO.flat (e0)];rfl) ?_
   refine zn<|zt ?_;clear h;intro a w h
   refine Qn (Ψ:=[Row a4 (cellsOf Zd<|sdW e F pl.length<|pl.length),Row a3 (cellsOf Zd e),Row a2 (cellsOf Hw<|List.map (mvP m)<|pl)]) h (Ze h I<|rC Jk) ?_ ss
   exact⟨a2,c2,a3,E,a4,c4,rfl,rfl⟩
end
section
theorem lU{b off:Nat}: RN (Instr.fieldAt 26 (.pointer (some ⟨b,off,none⟩)) 4) (.pointer (some ⟨b,off+7,none⟩)):=fun w=>by
 simp[go_sem]
theorem rs_9_7{c0 c1 c2 b d c e a f:Value}: Zk false 1 #[c0,c1,c2,b,d,c,e,a,f] 7=some a:=rfl
theorem LE(a:Option Addr)(n c:Nat)(w:World)(ty:TypeId)(cs:Array Bool): (Go.builtin .len #[169] ty cs #[.slice a n c]).run prog w=.ok (.value (.int .i64 n)) w:=by
 simp[go_sem]
theorem iR(b off n c j:Nat)(h:j<n): RN (Instr.indexAt 169 (.slice (some ⟨b,off,none⟩) n c) (.int .i64 (j:Int))) (.pointer (some ⟨b,off+j*2,none⟩)):=fun w=>by
 simpa using Qd runUnderlying169 sizeOf173 b off n c j h w
theorem X9(b off:Nat): RN (Instr.indexAt 173 (.pointer (some ⟨b,off,none⟩)) (.int .i64 0)) (.pointer (some ⟨b,off+0,none⟩)):=fun w=>by
 simp[go_sem,Instr.indexAt]
theorem Oc(a b:Int): RN (Instr.build 36 [(0,.int .i64 a),(1,.int .u32 b)].toArray) (.agg #[.int .i64 a,.int .u32 b]):=fun w=>by simp[go_sem]
theorem X8(b off:Nat): RN (Instr.indexAt 173 (.pointer (some ⟨b,off,none⟩)) (.int .i64 1)) (.pointer (some ⟨b,off+1,none⟩)):=fun w=>by
 simp[go_sem,Instr.indexAt]
theorem Uo(d c a b:Value): RN (Instr.build 175 [(0,.agg #[d,c]),(1,.agg #[a,b])].toArray) (.agg #[d,c,a,b]):=fun w=>by simp[go_sem]
theorem I1(d j a f b i e c g h:Value)(w:World): (Instr.buildSlice 38 1 [(0,.agg #[d,j,a,f,b,i,e,c,g,h])].toArray).run prog w=.ok (.slice (some ⟨w.heap.size,0,none⟩) 1 1) (w.alloc (.cells #[d,j,a,f,b,i,e,c,g,h] 119 (0,0))):=by
 simp[go_sem]
theorem Of(a c b:Int): RN (Instr.build 178 [(0,.int .i64 a),(1,.int .i64 c),(2,.int .i64 b)].toArray) (.agg #[.int .i64 a,.int .i64 c,.int .i64 b]):=fun w=>by simp[go_sem]
def ptZ(D:Nat)(z:Int×Int): Pt:=ptv ((z.1,((D:Nat):Int)),(z.2,((D:Nat):Int)))
theorem OO{α:Type}{l:List α}{i:Nat}{d:α}(h:i<l.length): l.take i++[l.getD i d]=l.take (i+1):=by
 rw[List.take_add_one,List.getElem?_eq_getElem h];simp[List.getD,h]
theorem C3{α β:Type}{l:List α}{f:α→β}{i:Nat}{d:α}(h:i<l.length): (l.take i).map f++[f (l.getD i d)]=(l.take (i+1)).map f:=by
 rw[←OO (d:=d) h,List.map_append];rfl
theorem iJ(m:M25){p:Nat×Nat}(h1:p.1≤6)(a:p.2≤6): (-36≤(mvP m p).1∧(mvP m p).1≤36)∧(-36≤(mvP m p).2∧(mvP m p).2≤36):=by
 have q0:=Ns m.m0;have q1:=Ns m.m1;have q2:=Ns m.m2;have b:=Ns m.m3
 have hk:(-3≤(mK m).1∧(mK m).1≤3)∧(-3≤(mK m).2.1∧(mK m).2.1≤3)∧(-3≤(mK m).2.2.1∧(mK m).2.2.1≤3)∧(-3≤(mK m).2.2.2∧(mK m).2.2.2≤3):=by
  unfold mK;split
  ·simp
  ·split<;>(simp only;omega)
 have c:=OB hk.1 h1;have a2:=OB hk.2.1 a;have a3:=OB hk.2.2.1 h1;have a4:=OB hk.2.2.2 a
 simp only[mvP];omega
theorem nC(m:M25)(n:Option Addr)(Q nx ny F c:Nat)(hx:m.nx=((nx:Nat):Int))(hy:m.ny=((ny:Nat):Int))(hf:m.first=((F:Nat):Int))(hd:m.den=((c:Nat):Int))(W:nx≤255)(U:ny≤255)(hF:F≤255)(c3:c≤255)(hm:QE m)(l:List ((Nat×Nat)×(Nat×Nat)×(Nat×Nat)))(hl:Yb (BN m.cells) (1+nx%3) ((1+nx%3)*(1+ny%3))=l)(h6:In6 l)(pl:List (Nat×Nat))(V:plW l F l.length=pl)(b:List (Nat×Nat×Nat))(a7:trW l F l.length=b)(hz:∀z∈List.map (mvP m) pl,(-36≤z.1∧z.1≤36)∧(-36≤z.2∧z.2≤36))(hn:pl.length≤1000):
  Ctr prog 31 [Ew m n Q] [Row n (List.map Bb m.cells)] (fun v Ψ => ∃aP aT aS cP cT cS,v=Qz ⟨List.map (ptZ (1+c%6)) (List.map (mvP m) pl),b,sdW b F pl.length pl.length⟩ aP aT aS cP cT cS ∧
   Ψ=[Row aP (cellsOf encPt (List.map (ptZ (1+c%6)) (List.map (mvP m) pl))),Row aT (cellsOf Zd b),Row aS (cellsOf Zd (sdW b F pl.length pl.length))]):=by
 have c5:=Lc b F pl.length pl.length
 have hmul:pl.length*pl.length≤1000*1000:=Nat.mul_le_mul hn hn
 refine fnI func31 I ntmps31 fun S w0 hS=>zS (zx I fun b1=>zz zeroValue42 fun b2=>zn<|zS<|ldZ Lh ?_)
 refine zf [_] I call83 (gI m n Q nx ny F hx hy hf W U hF hm l hl h6 pl V b a7) ?_;rintro v10 a8 ⟨a12,O,r,x,E,N,rfl,rfl⟩
 refine zz zeroValue171 fun b3=>stW I I Qg ?_
 refine zn<|zS (zz zeroValue42 fun b4=>zn<|zS<|zp (.fA I lU)<|ldZ rs_9_7 ?_)
 refine zp (Pure1.cast (v':=.int .u8 ((c%6:Nat):Int)) (.binOp I I (fun _=>Yn _ _ _ _ _ dd)) (by rw[hd,show(6:Int)=((6:Nat):Int) from I,Ym]))<|zp (Pure1.cast (v':=.int .u8 ((1+c%6:Nat):Int)) (.binOp I I (fun _=>Jp _ _ _ _ _<|wrap_u8 _ oo oo)) (by show Value.int _ _=Value.int _ _;congr 1))<|zp (.convert I<|Mp _<|wrap_u32 _ oo oo)<|au 0x92531125 ?_;intro a w h
 refine lpG h [2,3,4,5] pkL (fun Y Z (i:Nat) a w=>i≤(List.map (mvP m) pl).length ∧ ∃(J:Option Addr) (c1:Nat) (X:List (Nat×Obj)),(GrowO 10 119 (.slice J (List.map (ptZ (1+c%6)) ((List.map (mvP m) pl).take i)).length c1) (List.map (ptZ (1+c%6)) ((List.map (mvP m) pl).take i)).length (cellsOf encPt<|List.map (ptZ (1+c%6)) ((List.map (mvP m) pl).take i)) X)∧St 82 S w0 ((6,nI i)::Y) (X++((b4,bV (.agg #[(.slice J (List.map (ptZ (1+c%6)) ((List.map (mvP m) pl).take i)).length c1),.slice none 0 0,(.slice none 0 0)]) 42)::((b3,bV (.agg #[.slice a12 ((List.map (mvP m) pl).length) O,.slice r b.length x,.slice E ((sdW b F pl.length pl.length).length) N]) 171)::((b2,bV (.agg #[(.slice none 0 0),.slice none 0 0,(.slice none 0 0)]) 42)::((b1,bV (Ew m n Q) 26)::[]))))) Z a w) (fun i=>(List.map (mvP m) pl).length-i) 0 (⟨Nat.zero_le _,none,0,[],GrowO.nil _ _,by exact(h).sub sA⟩) ?_;clear h
 rintro i a w ⟨b0,J,c1,X,B,h⟩
 refine gC h<|zs<|zS<|zm I<|zp (.fA I Se)<|au 0x60f ?_
 refine zp (.builtin [_] I<|LE _ _ _)<|au 0x2c ?_;intro a w h
 refine Zb h I (fun o=>?_) (fun o=>?_)
 ·have g:i<(List.map (mvP m) pl).length:=dT o
  obtain ⟨q,t,rfl⟩:=h.row_addr (ad:=a12) (M:=cellsOf Hw (List.map (mvP m) pl)) mm (nE 2)
  have R:OkP ((((List.map (mvP m) pl).getD i (0,0)).1,((1+c%6:Nat):Int)),(((List.map (mvP m) pl).getD i (0,0)).2,((1+c%6:Nat):Int))):=(by have:=hz _ (getD_mem (List.map (mvP m) pl) (d:=(0,0)) g);simp only[OkP,OkQ];omega)
  have b5:i≤1000:=by rw[List.length_map] at g;omega
  refine gC h<|zk<|zs<|zb<|zs<|yF [0,1,2,3,4,5,6,7,8,9,10,11,12,13,14,15,16,17,18]<|au 0xdeacf ?_;clear h
  refine au 0x8 ?_
  refine yp I (.indexAddr I I<|iR _ _ _ _ _ oo)<|yp I (Pure1.cast (v':=.pointer<|some ⟨q,t+(i*2+0),none⟩) (.indexAddr I I<|X9 _ _) (by rw[Nat.add_assoc])) ?_
  refine Zf I kk I mm (D3 (k:=2) (enc:=Hw) (fun _=>rfl) (List.map (mvP m) pl) i 0 oo dd) isAgg2 sizeOf2 (Vw (k:=2) (enc:=Hw) (fun _=>rfl) (List.map (mvP m) pl) (0,0) i oo false 1 0 _ dd dd I) (.inr I) dd ?_
  refine au 0x8 ?_
  refine yp I (.build [(_,_),(_,_)] I<|Oc _ _)<|au 0xdeacf ?_
  refine au 0x8 ?_
  refine yp I (.indexAddr I I<|iR _ _ _ _ _ oo)<|yp I (Pure1.cast (v':=.pointer<|some ⟨q,t+(i*2+1),none⟩) (.indexAddr I I<|X8 _ _) (by rw[Nat.add_assoc])) ?_
  refine Zf I kk I mm (D3 (k:=2) (enc:=Hw) (fun _=>rfl) (List.map (mvP m) pl) i 1 oo dd) isAgg2 sizeOf2 (Vw (k:=2) (enc:=Hw) (fun _=>rfl) (List.map (mvP m) pl) (0,0) i oo false 1 1 _ dd dd I) (.inr I) dd ?_
  refine au 0x8 ?_
  refine yp I (.build [(_,_),(_,_)] I<|Oc _ _)<|yp I (.build [(_,_),(_,_)] I<|Uo _ _ _ _) (yz I zeroValue175 fun b7=>stV I I I Xw ?_)
  refine yn<|yE [0,1,2,3,4,5,6,7]<|au 0xde50f ?_
  refine ldY Dz ?_
  refine yv [_] I I call84 (nZ ((((List.map (mvP m) pl).getD i (0,0)).1,((1+c%6:Nat):Int)),(((List.map (mvP m) pl).getD i (0,0)).2,((1+c%6:Nat):Int))) R) (yB I [(_,_)] I (I1 _ _ _ _ _ _ _ _ _ _) fun b9=>?_)
  refine bR encPt (List.map (ptZ (1+c%6)) ((List.map (mvP m) pl).take i)) [ptZ (1+c%6) ((List.map (mvP m) pl).getD i (0,0))] B ?_ (hr:=by(try dsimp only);rw[List.length_map,List.length_take];omega);intro y K T u
  refine au 0x50f ?_
  refine yt I I I EH uu sizeOf38 I nb (by show((flat ((.slice y ((List.map (ptZ (1+c%6)) ((List.map (mvP m) pl).take i))++[ptZ (1+c%6) ((List.map (mvP m) pl).getD i (0,0))]).length K)) && true))=true;simp only[GrowO.flat (u)];rfl) ?_
  refine yn<|zr<|zm I<|zp (.pN (i+1)<|.add I I)<|au 0x25 ?_;intro a w h
  rw[show List.map (ptZ (1+c%6)) ((List.map (mvP m) pl).take i)++[ptZ (1+c%6) ((List.map (mvP m) pl).getD i (0,0))]=List.map (ptZ (1+c%6)) ((List.map (mvP m) pl).take (i+1)) from C3 g] at h u
  exact⟨i+1,⟨oo,y,K,T,u,by exact tO h⟩,oo⟩
 ·have H:(List.map (mvP m) pl).length=i:=dF o
  subst H
  rw[List.take_length] at h B
  replace h:=h.shareO' hS B
  refine gC h<|au 0x91f90fcaf310e ?_
  refine stW I I K9 ?_
  refine au 0x9253112 ?_;clear h;intro a w h
  refine lpG h [2,3,4,5,6] pkL (fun Y Z (j:Nat) a w=>j≤(sdW b F pl.length pl.length).length ∧ ∃(a4:Option Addr) (P:Nat) (o4:List (Nat×Obj)),(GrowO 3 178 (.slice a4 ((sdW b F pl.length pl.length).take j).length P) ((sdW b F pl.length pl.length).take j).length (cellsOf Zd ((sdW b F pl.length pl.length).take j)) o4)∧St 82 S w0 ((8,nI j)::Y) (o4++((b4,bV (.agg #[.slice J ((List.map (ptZ (1+c%6))<|List.map (mvP m) pl).length) c1,.slice r b.length x,(.slice a4 ((sdW b F pl.length pl.length).take j).length P)]) 42)::((b3,bV (.agg #[.slice a12 ((List.map (mvP m) pl).length) O,.slice r b.length x,.slice E ((sdW b F pl.length pl.length).length) N]) 171)::((b2,bV (.agg #[(.slice none 0 0),.slice none 0 0,(.slice none 0 0)]) 42)::((b1,bV (Ew m n Q) 26)::[]))))) Z a w) (fun j=>(sdW b F pl.length pl.length).length-j) 0 (⟨Nat.zero_le _,none,0,[],GrowO.nil _ _,by exact(h).sub sA⟩) ?_;clear h
  rintro j a w ⟨b6,a4,P,o4,D,h⟩
  refine gC h<|zs<|zS<|zm I<|zp (.fA I DT)<|au 0x2ce0f51f ?_;intro a w h
  refine Zb h I (fun p=>?_) (fun p=>?_)
  ·have G:j<(sdW b F pl.length pl.length).length:=dT p
   obtain ⟨f,e,rfl⟩:=h.row_addr (ad:=E) (M:=cellsOf Zd (sdW b F pl.length pl.length)) mm (nE 3)
   refine gC h<|zk<|zs<|zb<|yE [0,1,2,3,4,5,6,7,8,9,10,11,12,13,14,15,16,17,18,19,20,21,22,23,24]<|au 0xf0f7af ?_;clear h
   refine yp I (.fA I DT)<|au 0xf0f ?_
   refine au 0xf5f8 ?_
   refine yp I (Pure1.cast (v':=.pointer<|some ⟨f,e+(j*3+0),none⟩) (.indexAddr I I<|Aw _ _) (by rw[Nat.add_assoc])) ?_
   refine Zf I kk I mm (D3 (k:=3) (enc:=Zd) (fun _=>rfl) (sdW b F pl.length pl.length) j 0 oo dd) isAgg3 sizeOf3 (Vw (k:=3) (enc:=Zd) (fun _=>rfl) (sdW b F pl.length pl.length) (0,0,0) j oo false 1 0 _ dd dd I) (.inr I) dd ?_
   refine yp I (.fA I DT)<|au 0xf0f ?_
   refine au 0xf5f8 ?_
   refine yp I (Pure1.cast (v':=.pointer<|some ⟨f,e+(j*3+1),none⟩) (.indexAddr I I<|Yu _ _) (by rw[Nat.add_assoc])) ?_
   refine Zf I kk I mm (D3 (k:=3) (enc:=Zd) (fun _=>rfl) (sdW b F pl.length pl.length) j 1 oo dd) isAgg3 sizeOf3 (Vw (k:=3) (enc:=Zd) (fun _=>rfl) (sdW b F pl.length pl.length) (0,0,0) j oo false 1 1 _ dd dd I) (.inr I) dd ?_
   refine yp I (.fA I DT)<|au 0xf0f ?_
   refine au 0xf5f8 ?_
   refine yp I (Pure1.cast (v':=.pointer<|some ⟨f,e+(j*3+2),none⟩) (.indexAddr I I<|Yt _ _) (by rw[Nat.add_assoc])) ?_
   refine Zf I kk I mm (D3 (k:=3) (enc:=Zd) (fun _=>rfl) (sdW b F pl.length pl.length) j 2 oo dd) isAgg3 sizeOf3 (Vw (k:=3) (enc:=Zd) (fun _=>rfl) (sdW b F pl.length pl.length) (0,0,0) j oo false 1 2 _ dd dd I) (.inr I) dd ?_
   refine yp I (.build [(_,_),(_,_),(_,_)] I<|Of _ _ _) (yB I [(_,_)] I (N6 _ _ _) fun b8=>?_)
   refine bR Zd ((sdW b F pl.length pl.length).take j) [(((sdW b F pl.length pl.length).getD j (0,0,0)).1,((sdW b F pl.length pl.length).getD j (0,0,0)).2.1,((sdW b F pl.length pl.length).getD j (0,0,0)).2.2)] D ?_ (hr:=by(try dsimp only);rw[List.length_take];omega);intro A L a6 s
   refine au 0x7af ?_
   refine yt I I I HF uu sizeOf40 I nb (by show((flat ((.slice A (((sdW b F pl.length pl.length).take j)++[(((sdW b F pl.length pl.length).getD j (0,0,0)).1,((sdW b F pl.length pl.length).getD j (0,0,0)).2.1,((sdW b F pl.length pl.length).getD j (0,0,0)).2.2)]).length L)) && true))=true;simp only[GrowO.flat (s)];rfl) ?_
   refine yn<|zr<|zm I<|zp (.pN (j+1)<|.add I I)<|au 0x25 ?_;intro a w h
   rw[show(sdW b F pl.length pl.length).take j++[((sdW b F pl.length pl.length).getD j (0,0,0))]=(sdW b F pl.length pl.length).take (j+1) from OO G] at h s
   exact⟨j+1,⟨oo,A,L,a6,s,by exact tO h⟩,oo⟩
  ·have C:(sdW b F pl.length pl.length).length=j:=dF p
   subst C
   rw[List.take_length] at h D
   replace h:=h.shareO' hS D
   refine gC h<|au 0xce310e ?_
   refine stW I I Qg ?_
   refine zn<|zt ?_;clear h;intro a w h
   refine Qn (Ψ:=[Row J (cellsOf encPt<|List.map (ptZ (1+c%6))<|List.map (mvP m) pl),Row r (cellsOf Zd b),Row a4 (cellsOf Zd<|sdW b F pl.length pl.length)]) h (Ze h I<|rC Jk) ?_ ss
   exact⟨J,r,a4,c1,x,P,rfl,rfl⟩
end
end Go.Proofs.YtejhdcohoggojaaGreatDoor
namespace Go.Proofs.YtejhdcohoggojaaGreatDoor
open Go Go.Proofs Go.Fx Go.Shelf Go.RowKit Go.Sort Tryz
def TT:Go.Shelf.Ren:=⟨fun|20=>87|n=>n,fun|22=>69|3=>3|4=>4|0=>0|n=>n,fun|n=>n⟩
theorem lays20:Go.Proofs.Lays2.n20 prog TT:={
 mixed:=by kernel_rfl
 f20:=func87.trans (congrArg some kk)
 t0:=underlying0
 a0:=isAgg0
 z0:=sizeOf0
 v0:=zeroValue0
 t3:=underlying3
 a3:=isAgg3
 z3:=sizeOf3
 v3:=zeroValue3
 t4:=underlying4
 a4:=isAgg4
 z4:=sizeOf4
 v4:=zeroValue4
 t22:=underlying69
 a22:=isAgg69
 z22:=sizeOf69
 v22:=zeroValue69
 i3:=by kernel_rfl }
theorem BA(l:List Nat): Lib.compact (l.map (fun k:Nat=>(k:Int)))=(Lib.compact l).map (fun k:Nat=>(k:Int)):=by
 have a:∀j:Nat,(l.map (fun k:Nat=>(k:Int))).toArray[j]! = ((l.toArray[j]! : Nat):Int):=fun j=>by
  by_cases h:j<l.length
  ·rw[getElem!_pos _ _ (by simpa using h),getElem!_pos _ _ (by simpa using h)];simp
  ·rw[getElem!_neg _ _ (by simpa using h),getElem!_neg _ _ (by simpa using h)];rfl
 unfold Lib.compact Lib.compactUpTo
 rw[List.map_map,List.length_map]
 have hk:∀j,Lib.keeps (l.map (fun k:Nat=>(k:Int))).toArray j=Lib.keeps l.toArray j:=fun j=>by
  unfold Lib.keeps
  rw[a,a]
  exact decide_eq_decide.2 ⟨fun h=>h.imp id (fun h e=>h (by rw[e])),fun h=>h.imp id (fun h e=>h oo)⟩
 rw[show(Lib.keeps (l.map (fun k:Nat=>(k:Int))).toArray)=Lib.keeps l.toArray from funext hk]
 exact List.map_congr_left fun j _=>a j
theorem P5{l:List Nat}{x:Nat}(h:x∈Lib.compact l): x∈l:=by
 unfold Lib.compact Lib.compactUpTo at h
 obtain ⟨j,hj,rfl⟩:=List.mem_map.1 h
 have hl:=List.mem_range.1 (List.mem_filter.1 hj).1
 rw[getElem!_pos _ _ (by simpa using hl)]
 simp
theorem IN(l:List Nat): (Lib.compact l).length≤l.length:=by
 unfold Lib.compact Lib.compactUpTo
 rw[List.length_map]
 exact Nat.le_trans (List.length_filter_le _ _) (Nat.le_of_eq List.length_range)
theorem IP{l:List Nat}{x:Nat}(h:x∈l): x∈Lib.compact l:=by
 obtain ⟨j,hj,rfl⟩:=List.mem_iff_getElem.1 h
 clear h
 unfold Lib.compact Lib.compactUpTo
 induction j with
 | zero=>exact List.mem_map.2 ⟨0,List.mem_filter.2 ⟨List.mem_range.2 hj,by simp[Lib.keeps]⟩,by rw[getElem!_pos _ _ (by simpa using hj)];simp⟩
 | succ j a =>
  by_cases e:l[j+1]=l[j]
  ·rw[e];exact a oo
  ·refine List.mem_map.2 ⟨j+1,List.mem_filter.2 ⟨List.mem_range.2 hj,?_⟩,by rw[getElem!_pos _ _ (by simpa using hj)];simp⟩
   unfold Lib.keeps
   refine decide_eq_true<|.inr ?_
   rw[getElem!_pos _ _ (by simpa using hj),getElem!_pos _ _ (by simp;omega)]
   simpa using e
theorem Uh{l:List Nat}(hs:l.Pairwise (· ≤ ·)): (Lib.compact l).Pairwise (· < ·):=by
 unfold Lib.compact Lib.compactUpTo
 refine List.pairwise_map.2 ?_
 have hr:((List.range l.length).filter (Lib.keeps l.toArray)).Pairwise (· < ·):=List.Pairwise.filter _ List.pairwise_lt_range
 refine List.Pairwise.imp_of_mem ?_ hr
 intro i j k hj h
 obtain ⟨d,g⟩:=List.mem_filter.1 k
 obtain ⟨c,f⟩:=List.mem_filter.1 hj
 have b:=List.mem_range.1 d;have a:=List.mem_range.1 c
 have hk:=of_decide_eq_true f
 rw[getElem!_pos _ _ (by simpa using a),getElem!_pos _ _ (by simp;omega)] at hk
 rw[getElem!_pos _ _ (by simpa using b),getElem!_pos _ _ (by simpa using a)]
 simp only[List.getElem_toArray] at hk ⊢
 have h1:l[j-1]≤l[j]:=List.pairwise_iff_getElem.1 hs _ _ oo a oo
 have m:l[i]≤l[j-1]:=by
  by_cases e:i=j-1
  ·subst e;exact Nat.le_refl _
  ·exact List.pairwise_iff_getElem.1 hs _ _ b oo oo
 have n:=hk.resolve_left oo
 omega
theorem UN(b cap:Nat)(l:List Nat)(R:List Value)(n:l.length≤1000000)(hc:l.length≤cap)(σ:List (Nat×Obj))(Φ:List Zp):
  FR prog 87 [.slice (some ⟨b,0,none⟩) l.length cap] ((b,.cells (List.map Qi l++R).toArray 3 (0,0))::σ) Φ
   (fun v σ' Ψ => ∃f,v=.slice (some ⟨b,0,none⟩) (Lib.compact l).length cap∧σ'=(b,.cells (List.map Qi (Lib.compact l)++f).toArray 3 (0,0))::σ∧Ψ=Φ):=by
 intro S w0 w g hm
 obtain ⟨X,_,i,j,m⟩:=hm.facts
 have hz:(l.map (fun k:Nat=>(k:Int))).map (Value.int .i64)=List.map Qi l:=by rw[List.map_map];rfl
 have a:=hm.own (b,_) (List.mem_cons_self ..)
 rw[←hz] at hm a
 have h:=Any.slices_Compact_int lays20 b 0 cap (l.map (fun k:Nat=>(k:Int))) w (E6 a) (by rw[List.length_map];omega) (by rw[List.length_map];exact hc)
 rw[List.length_map] at h
 refine h.mono ?_
 rintro e w' ⟨he,q,hw⟩
 subst hw
 have hlen:(Lib.compact (l.map (fun k:Nat=>(k:Int)))++List.replicate (l.length-(Lib.compact (l.map (fun k:Nat=>(k:Int)))).length) 0).length=(l.map (fun k:Nat=>(k:Int))).length:=by
  rw[List.length_append,List.length_replicate,BA,List.length_map,List.length_map]
  have:=IN l;omega
 have c:=Go.Fx.mem_sorted (enc:=Value.int .i64) (d:=Lib.compact (l.map (fun k:Nat=>(k:Int)))++List.replicate (l.length-(Lib.compact (l.map (fun k:Nat=>(k:Int)))).length) 0) g hm hlen q #[]
 refine⟨_,_,_,he,⟨List.replicate (l.length-(Lib.compact<|l.map (fun k:Nat=>(k:Int))).length) (.int .i64 0)++R,?_,rfl,rfl⟩,?_⟩
 ·rw[BA,List.length_map]
 ·rw[List.map_append,List.map_replicate,List.append_assoc,BA,List.map_map] at c
  rw[BA]
  exact c
end Go.Proofs.YtejhdcohoggojaaGreatDoor
