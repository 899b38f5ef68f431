/- Walks of functions. By an AI agent. -/
import Derived.Test.YtejhdcohoggojaaGreatDoorBis7
set_option linter.unusedVariables false
set_option linter.unusedSimpArgs false
set_option maxRecDepth 4000
set_option maxHeartbeats 1000000
namespace Go.Proofs.YtejhdcohoggojaaGreatDoor
open Go Go.Proofs Go.Fx Tryz
attribute [local irreducible] Oper.wp Code.wp wpList Fx.Head wpOp
section
theorem VI{c0 c1 c2 w r q s t u v o g m h l n a e k c j f i d p b v0 v1 v2:Value}: Zl #[c0,c1,c2,w,r,q,s,t,u,v,o,g,m,h,l,n,a,e,k,c,j,f,i,d,p,b] 0 [v0,v1,v2]=#[v0,v1,v2,w,r,q,s,t,u,v,o,g,m,h,l,n,a,e,k,c,j,f,i,d,p,b]:=by kernel_rfl
theorem em{E:List Rat}{t:Rat}: ∀k∈BU E t,k<E.length:=by
 intro k hk
 unfold BU at hk
 split at hk
 ·exact List.mem_range.1 (List.mem_filter.1 hk).1
 ·cases hk
theorem W7(E:List Rat)(t:Rat): (BU E t).length≤E.length:=by
 unfold BU
 split
 ·exact Nat.le_trans (List.length_filter_le _ _) (by rw[List.length_range];exact Nat.le_refl _)
 ·exact Nat.zero_le _
theorem TF{E:List Rat}{t:Rat}(hv:Gp t=true)(a:∀x∈E,0≤x): Eo E t=0:=by
 unfold Eo
 rw[hv,if_pos]
 rw[Bool.true_and,Bool.not_eq_true',List.any_eq_false]
 intro x hx h
 have:=of_decide_eq_true h
 have b:=a x hx
 have c:0≤x.num:=Rat.num_nonneg.2 b
 have:=Int.sign_nonneg_iff.2 c
 omega
abbrev encNew(p:Pr)(a1 a2 a3 a5:Option Addr)(n1 n2 n3:Nat): Value:=.agg #[.slice a1 n1 n1,.slice a2 n2 n2,.slice a3 n3 n3,.int .i64 ((p.o:Nat):Int),.int .u64 (Xr p.k0.num.natAbs),.string (Xa p.k0.num.natAbs),.bool (decide (p.k0.num<0)),.int .u64 (Xr (p.k0.den-1)),.string (Xa (p.k0.den-1)),.int .u64 (Xr p.k1.num.natAbs),.string (Xa p.k1.num.natAbs),.bool (decide (p.k1.num<0)),.int .u64 (Xr (p.k1.den-1)),.string (Xa (p.k1.den-1)),.int .u64 (Xr p.k2.num.natAbs),.string (Xa p.k2.num.natAbs),.bool (decide (p.k2.num<0)),.int .u64 (Xr (p.k2.den-1)),.string (Xa (p.k2.den-1)),.int .u64 (Xr p.c.num.natAbs),.string (Xa p.c.num.natAbs),.bool (decide (p.c.num<0)),.int .u64 (Xr (p.c.den-1)),.string (Xa (p.c.den-1)),.slice p.f.a p.f.l.length p.f.c,.slice a5 p.G.length p.G.length]
theorem gZ(p:Pr)(i e g d:Option Addr)(L D F Z:Nat)(V:List Rat)(Q:Option Addr)(N:Nat)(t:Rat)(y:EsV p V)(ht:Zn t≤1000)(hq:Gp t=true)(hT:p.m.T.length≤90)(W:p.m.P.length≤1000)(a6:0<p.G.length): Ctr prog 11 [Xf p i e g d L D F Z,Fo p.m p.o V i e g L D F Q N,Qe t] [Row i (cellsOf encPt p.m.P),Row e (cellsOf Zd p.m.T),Row g (cellsOf Zd p.m.S),Row p.f.a (cellsOf Zz p.f.l),Row d (cellsOf Jg p.G),Yi (Qu p.G),Row Q (cellsOf Qe V),SideF] (fun v Ψ=>(∃(A a2 a3 a4 a5:Option Addr) (H E z s:Nat),v=.tuple #[encNew p A a2 a3 a5 H E z,.slice a4 s s,.int .i64 0])∧Ψ=[]):=by
 have R:=y.pv.G.n
 refine fn_intro func11 I ntmps11 nb ?_
 intro S w0 a hS h
 obtain ⟨c,j,rfl⟩:=h.row_addr (ad:=d) (M:=cellsOf Jg p.G) mm (nE 5)
 refine gC h<|zS (zx I fun b3=>zx I fun b4=>zx I fun b5=>zz zeroValue57 fun b6=>au 0x6e311255 ?_)
 refine zv [_] I call24 (I7 t oo) (bbT (fun b=>(by exfalso;rw[hq] at b;cases b)) fun b=>au 0x6efe317d2a0f ?_)
 refine zF [_,_] call25 (C_eEta p _ _ _ _ _ _ _ _ V _ N y) ?_;rintro X B ⟨O,aO,hO,rfl,rfl⟩
 refine au 0x6e4317d2d0f4311255bb4 ?_
 refine zF [_,_] call16 (EB O aO _ t (BU O t) _ 0 I (TF b (fun x hx=>(hO.2 x hx).1)) I (fun x hx=>(hO.2 x hx).2) ht (by have:=hO.1;omega)) ?_;rintro Y J ⟨aM,rfl,rfl⟩
 refine au 0x489fa4f317d2d0f4311255bb4 ?_
 refine zF [_,_] call26 (it 4 p.m _ _ _ _ _ _ (BU O t) _ _ y.pv.m dd (fun k hk=>by have:=em k hk;have:=hO.1;omega) (by have:=W7 O t;have:=hO.1;omega) oo W) ?_;rintro v40 K ⟨⟨A,a2,a3,a4,H,E,z,s,rfl⟩,rfl⟩
 refine au 0xbbb4 ?_
 refine zz zeroValue42 fun U=>stW I I Qg ?_
 refine au 0x17d2d0f4311255 ?_
 refine yE [0,1,2,5,3,4,6,7,8]<|au 0x34f ?_;clear h
 refine yp I (.fA I PQ)<|ldY Q6 ?_
 refine yp I (.fA I LX) ?_
 refine Zs I kk (vs:=[_]) I call28 (NX<|bJ c j _ p.G oo) (by exact hsA) dd ?_;rintro v51 C ⟨q,u,rfl,r,rfl⟩
 refine yv [_] I I call27 (SU q _ u r)<|stV I I I VI ?_
 refine yp I (.fA I PQ)<|stV I I I Dx ?_
 refine au 0x4fe31a ?_
 refine stW I I Qj ?_
 refine au 0x6255 ?_;intro a w h
 refine Qn (Ψ:=[]) h (Ah h I (rC Xh) (.tmp I)<|.tmp I) ?_ ss
 exact⟨⟨_,_,_,_,_,_,_,_,_,rfl⟩,rfl⟩
theorem hJ(p:Pr)(g d e c:Option Addr)(r k q y:Nat)(V:List Rat)(s:Option Addr)(A:Nat)(t:Rat)(x:EsV p V)(ht:Zn t≤1000)(hq:Gp t=false)(hT:p.m.T.length≤90)(E:p.m.P.length≤1000)(z:0<p.G.length): Ctr prog 11 [Xf p g d e c r k q y,Fo p.m p.o V g d e r k q s A,Qe t] [Row g (cellsOf encPt p.m.P),Row d (cellsOf Zd p.m.T),Row e (cellsOf Zd p.m.S),Row p.f.a (cellsOf Zz p.f.l),Row c (cellsOf Jg p.G),Yi (Qu p.G),Row s (cellsOf Qe V),SideF] (fun v Ψ=>(v=.tuple #[.agg #[.slice none 0 0,.slice none 0 0,.slice none 0 0,.int .i64 0,.int .u64 0,.string ⟨#[]⟩,.bool false,.int .u64 0,.string ⟨#[]⟩,.int .u64 0,.string ⟨#[]⟩,.bool false,.int .u64 0,.string ⟨#[]⟩,.int .u64 0,.string ⟨#[]⟩,.bool false,.int .u64 0,.string ⟨#[]⟩,.int .u64 0,.string ⟨#[]⟩,.bool false,.int .u64 0,.string ⟨#[]⟩,.slice none 0 0,.slice none 0 0],.slice none 0 0,.int .i64 1])∧Ψ=[]):=by
 have u:=x.pv.G.n
 refine fn_intro func11 I ntmps11 nb ?_
 intro S w0 a C h
 obtain ⟨i,j,rfl⟩:=h.row_addr (ad:=c) (M:=cellsOf Jg p.G) mm (nE 5)
 refine gC h<|zS (zx I fun B=>zx I fun F=>zx I fun H=>zz zeroValue57 fun D=>au 0x6e311255 ?_)
 refine zv [_] I call24 (I7 t oo) (bbF (fun b=>(by exfalso;rw[hq] at b;cases b)) fun b=>au 0x311e25bf ?_)
 refine zp (.build [] I<|Mx)<|stW I I Qj ?_
 refine au 0x6255 ?_;clear h;intro a w h
 refine Qn (Ψ:=[]) h (Ah h I (rC Xh) (.tmp I)<|.tmp I) ?_ ss
 exact⟨rfl,rfl⟩
end
section
theorem ga: RN (Instr.build 147 [].toArray) (.agg #[.slice none 0 0,.slice none 0 0,.slice none 0 0,.int .i64 0,.int .u64 0,.string ⟨#[]⟩,.bool false,.int .u64 0,.string ⟨#[]⟩,.int .u64 0,.string ⟨#[]⟩,.bool false,.int .u64 0,.string ⟨#[]⟩,.int .u64 0,.string ⟨#[]⟩,.bool false,.int .u64 0,.string ⟨#[]⟩,.int .u64 0,.string ⟨#[]⟩,.bool false,.int .u64 0,.string ⟨#[]⟩,.slice none 0 0,.slice none 0 0,.slice none 0 0]):=fun w=>by simp[go_sem]
theorem Ou(p:Pr)(g b d c:Option Addr)(r n j q:Nat)(ho:p.o=3): Xo prog 91 [Xf p g b d c r n j q] [Row g (cellsOf encPt p.m.P),Row b (cellsOf Zd p.m.T),Row d (cellsOf Zd p.m.S),Row p.f.a (cellsOf Zz p.f.l),Row c (cellsOf Jg p.G),Yi (Qu p.G)] (.int .i64 1):=by
 refine fnI func91 I ntmps91 fun S w0 x=>zS (zx I fun u=>au 0x31125 ?_)
 refine zf [] I call161 (aH) ?_;rintro v6 s ⟨i,rfl,rfl⟩ a w h
 obtain ⟨t,y,rfl⟩:=h.row_addr (ad:=i) (M:=cellsOf IH [268,269,270,271,272]) mm (by intro e;cases e)
 refine gL h<|zp (.builtin [_] I<|EX _ _ _)<|zm I<|zn<|zb<|lpR 6<|rdS<|au 0x78f319171e129e31 ?_
 refine zD I mm (cells_lt (k:=1) dd (fun _=>rfl) ([268,269,270,271,272]) 0 (by exact ixd)) isAgg257 sizeOf257 (Zg (k:=1) (fun _=>rfl) ((fun _=>rfl)) ([268,269,270,271,272]) 0 0 (by exact ixd)) (.inr I) ?_
 refine zz zeroValue257 fun v=>stW I I Kk ?_
 refine au 0xfef4f29f312 ?_;clear h;intro a w h
 refine Zc<|Xm h (fs:=[]) (cs:=[]) I (vs:=[_]) I call268 (Ut p g b d c r n j q ho) ss dd ?_;clear h;intro a w h
 refine gL h<|au 0x6254311e274f43125 ?_
 refine rtK I
theorem Ur(p:Pr)(e c d b:Option Addr)(u r s t:Nat)(m2:Ms)(i k n:Option Addr)(j g q x:Nat)(V:List Rat)(z:Option Addr)(y:Nat)(ho:p.o=3): Ctr prog 66 [Xf p e c d b u r s t,Fo m2 x V i k n j g q z y] [Row e (cellsOf encPt p.m.P),Row c (cellsOf Zd p.m.T),Row d (cellsOf Zd p.m.S),Row p.f.a (cellsOf Zz p.f.l),Row b (cellsOf Jg p.G),Yi (Qu p.G)] (fun v Ψ=>v=.tuple #[.agg #[.slice none 0 0,.slice none 0 0,.slice none 0 0,.int .i64 0,.int .u64 0,.string ⟨#[]⟩,.bool false,.int .u64 0,.string ⟨#[]⟩,.int .u64 0,.string ⟨#[]⟩,.bool false,.int .u64 0,.string ⟨#[]⟩,.int .u64 0,.string ⟨#[]⟩,.bool false,.int .u64 0,.string ⟨#[]⟩,.int .u64 0,.string ⟨#[]⟩,.bool false,.int .u64 0,.string ⟨#[]⟩,.slice none 0 0,.slice none 0 0,.slice none 0 0],.int .i64 1]∧Ψ=[]):=by
 refine fnI func66 I ntmps66 fun S w0 C=>zS (zx I fun B=>zx I fun A=>zz zeroValue147 fun D=>au 0xfe31125 ?_);intro a w h
 refine Zc<|Jl h (vs:=[_]) I call91 (Ou p e c d b u r s t ho) (by exact hsA) dd ?_;clear h;intro a w h
 refine gL h<|au 0x311e274f43125 ?_
 refine zp (.build [] I<|ga)<|zm I<|stW I I BQ ?_
 refine au 0x625 ?_;clear h;intro a w h
 refine Qn (Ψ:=[]) h (Zw h I (rC Ga)<|.tmp I) ?_ ss
 exact⟨rfl,rfl⟩
theorem nJ(p:Pr)(e c d b:Option Addr)(v r t u:Nat)(m2:Ms)(i k n:Option Addr)(j g q s:Nat)(V:List Rat)(z:Option Addr)(x:Nat)(ho:p.o=3): Xo prog 25 [Xf p e c d b v r t u,Fo m2 s V i k n j g q z x] [Row e (cellsOf encPt p.m.P),Row c (cellsOf Zd p.m.T),Row d (cellsOf Zd p.m.S),Row p.f.a (cellsOf Zz p.f.l),Row b (cellsOf Jg p.G),Yi (Qu p.G)] (.tuple #[.slice none 0 0,.int .i64 1]):=by
 refine fnI func25 I ntmps25 fun S w0 C=>zS (zx I fun B=>zx I fun A=>au 0x6efe31255 ?_)
 refine zF [_,_] call66 (Ur p e c d b v r t u m2 i k n j g q s V z x ho) ?_;rintro v22 y ⟨rfl,rfl⟩
 refine au 0xbb4 ?_
 refine zz zeroValue147 fun D=>stW I I BQ ?_
 refine au 0x62554311e274f431125 ?_;intro a w h
 refine Js h (Zw h I (.tmp I)<|.tmp I) ?_
 rfl
theorem SL(p:Pr)(e c d b:Option Addr)(z s x y:Nat)(m2:Ms)(i n q:Option Addr)(k g r u:Nat)(V:List Rat)(B:Option Addr)(A:Nat)(t:Rat)(ht:Zn t≤1000)(ho:p.o=3): Ctr prog 11 [Xf p e c d b z s x y,Fo m2 u V i n q k g r B A,Qe t] [Row e (cellsOf encPt p.m.P),Row c (cellsOf Zd p.m.T),Row d (cellsOf Zd p.m.S),Row p.f.a (cellsOf Zz p.f.l),Row b (cellsOf Jg p.G),Yi (Qu p.G)] (fun v Ψ=>v=.tuple #[.agg #[.slice none 0 0,.slice none 0 0,.slice none 0 0,.int .i64 0,.int .u64 0,.string ⟨#[]⟩,.bool false,.int .u64 0,.string ⟨#[]⟩,.int .u64 0,.string ⟨#[]⟩,.bool false,.int .u64 0,.string ⟨#[]⟩,.int .u64 0,.string ⟨#[]⟩,.bool false,.int .u64 0,.string ⟨#[]⟩,.int .u64 0,.string ⟨#[]⟩,.bool false,.int .u64 0,.string ⟨#[]⟩,.slice none 0 0,.slice none 0 0],.slice none 0 0,.int .i64 1]∧Ψ=[]):=by
 refine fnI func11 I ntmps11 fun S w0 D=>zS (zx I fun C=>zx I fun F=>zx I fun H=>zz zeroValue57 fun E=>au 0x6e311255 ?_)
 refine zv [_] I call24 (I7 t oo) ?_;intro a w h
 refine Zh h (fun j h=>?_) (fun j h=>?_)
 focus
  refine gL h<|au 0x6efe317d2a0f ?_;clear h;intro a w h
  refine Zc<|Jl h (vs:=[_,_]) I call25 (nJ p e c d b z s x y m2 i n q k g r u V B A ho) (by exact hsA) dd ?_;clear h;intro a w h
  refine gL h<|au 0x311e274f4311255bb4 ?_
  refine zp (.build [] I<|Mx)<|zm I<|stW I I Qj ?_;clear h;intro a w h
 rotate_left
 focus
  refine gL h<|au 0x311e25bf ?_
  refine zp (.build [] I<|Mx)<|stW I I Qj ?_;clear h;intro a w h
 all_goals
  refine gL h<|au 0x6255 ?_;clear h;intro a w h
  refine Qn (Ψ:=[]) h (Ah h I (rC Xh) (.tmp I)<|.tmp I) ?_ ss
  exact⟨rfl,rfl⟩
end
section
theorem fV(c:Go.Fn)(a b:Array Value): RN (Instr.build 350 [(0,.func c a b)].toArray) (.agg #[.func c a b]):=fun w=>by simp[go_sem]
theorem FI(a e b d c:Value)(w:World): (Instr.buildSlice 228 5 [(0,.agg #[a]),(1,.agg #[e]),(2,.agg #[b]),(3,.agg #[d]),(4,.agg #[c])].toArray).run prog w=.ok (.slice (some ⟨w.heap.size,0,none⟩) 5 5) (w.alloc (.cells #[a,e,b,d,c] 350 (0,0))):=by
 simp[go_sem]
theorem fZ: RN (Instr.build 232 [].toArray) (.agg #[.int .i64 0,.int .i64 0,.slice none 0 0]):=fun w=>by simp[go_sem]
theorem mI: RN (Instr.build 83 [].toArray) (.agg #[.int .i64 0,.int .i64 0,.slice none 0 0,.slice none 0 0,.slice none 0 0]):=fun w=>by simp[go_sem]
theorem fY: RN (Instr.build 235 [].toArray) (.agg #[.int .i64 0,.int .i64 0,.slice none 0 0,.slice none 0 0,.slice none 0 0,.int .i64 0,.int .i64 0,.slice none 0 0,.slice none 0 0,.slice none 0 0,.slice none 0 0]):=fun w=>by simp[go_sem]
theorem JZ{c0 c1 c2 e g d h f i j a v0 v1 v2 v3 v4 v5 v6 b c v9 v10:Value}: Zl #[c0,c1,c2,e,g,d,h,f,i,j,a] 0 [v0,v1,v2,v3,v4,v5,v6,b,c,v9,v10]=#[v0,v1,v2,v3,v4,v5,v6,b,c,v9,v10]:=by kernel_rfl
theorem Tx{c0 c1 c2 b e c f d g h a:Value}: Zk true 11 #[c0,c1,c2,b,e,c,f,d,g,h,a] 0=some (.agg #[c0,c1,c2,b,e,c,f,d,g,h,a]):=rfl
theorem mc(x:Int): RN (Go.convert 76 3 (.int .u8 x)) (.int .i64 (IntKind.i64.wrap x)):=fun w=>by
 simp[go_sem]
theorem fB(x:Int)(a:IntKind.i64.wrap x=x): RN (Go.convert 76 3 (.int .u8 x)) (.int .i64 x):=fun w=>by
 rw[mc,a]
theorem LD(a:Option Addr)(n c:Nat)(w:World)(ty:TypeId)(cs:Array Bool): (Go.builtin .len #[228] ty cs #[.slice a n c]).run prog w=.ok (.value (.int .i64 n)) w:=by
 simp[go_sem]
theorem mJ: RN (Instr.build 61 [].toArray) (.agg #[.slice none 0 0,.slice none 0 0,.slice none 0 0,.int .i64 0,.slice none 0 0]):=fun w=>by simp[go_sem]
theorem ge: RN (Instr.build 106 [].toArray) (.agg #[.slice none 0 0,.slice none 0 0,.slice none 0 0,.int .i64 0,.int .u64 0,.string ⟨#[]⟩,.bool false,.int .u64 0,.string ⟨#[]⟩,.int .u64 0,.string ⟨#[]⟩,.bool false,.int .u64 0,.string ⟨#[]⟩,.int .u64 0,.string ⟨#[]⟩,.bool false,.int .u64 0,.string ⟨#[]⟩,.int .u64 0,.string ⟨#[]⟩,.bool false,.int .u64 0,.string ⟨#[]⟩,.slice none 0 0,.slice none 0 0,.slice none 0 0,.slice none 0 0,.slice none 0 0,.int .i64 0,.slice none 0 0,.int .u64 0,.string ⟨#[]⟩,.bool false,.int .u64 0,.string ⟨#[]⟩,.int .u64 0,.string ⟨#[]⟩,.bool false,.int .u64 0,.string ⟨#[]⟩,.slice none 0 0]):=fun w=>by simp[go_sem]
theorem JX{c0 c1 c2 Z U T V W X Y N w I y H L m t G r C v A s O n E p o P u B F D Q K J q M x z l v0 v1 v2 v3 v4 v5 v6 S R v9 v10 v11 v12 a j f g v17 b h v20 v21 v22 v23 v24 v25 v26 k v28 i v30 v31 v32 v33 d v35 e v37 c v39 v40 v41:Value}: Zl #[c0,c1,c2,Z,U,T,V,W,X,Y,N,w,I,y,H,L,m,t,G,r,C,v,A,s,O,n,E,p,o,P,u,B,F,D,Q,K,J,q,M,x,z,l] 0 [v0,v1,v2,v3,v4,v5,v6,S,R,v9,v10,v11,v12,a,j,f,g,v17,b,h,v20,v21,v22,v23,v24,v25,v26,k,v28,i,v30,v31,v32,v33,d,v35,e,v37,c,v39,v40,v41]=#[v0,v1,v2,v3,v4,v5,v6,S,R,v9,v10,v11,v12,a,j,f,g,v17,b,h,v20,v21,v22,v23,v24,v25,v26,k,v28,i,v30,v31,v32,v33,d,v35,e,v37,c,v39,v40,v41]:=by kernel_rfl
theorem Tt{c0 c1 c2 M H G I J K L B l x n w A b i s g r k p h D c t e d E j q u v F y z f C m o a:Value}: Zk true 42 #[c0,c1,c2,M,H,G,I,J,K,L,B,l,x,n,w,A,b,i,s,g,r,k,p,h,D,c,t,e,d,E,j,q,u,v,F,y,z,f,C,m,o,a] 0=some (.agg #[c0,c1,c2,M,H,G,I,J,K,L,B,l,x,n,w,A,b,i,s,g,r,k,p,h,D,c,t,e,d,E,j,q,u,v,F,y,z,f,C,m,o,a]):=by kernel_rfl
def resV(a:Act): ResultVar→Sem Value
 | .tmp t=>pure (a.tmps.getD t undef)
 | .cell x t=>do loadVar t (←asAddr (a.tmps.getD x undef))
theorem results4{P:Program}{n:Nat}{S:Nat→Prop}{w0:World}{L:List (Nat×Value)}{σ:List (Nat×Obj)}{Φ:List Zp}{a:Act}{w:World}(h:St n S w0 L σ Φ a w){fn:Func}{r1 c b d:ResultVar}{v1 v2 v3 v4:Value}(hr:fn.results=#[r1,c,b,d])(h1:ResIs P L σ r1 v1)(e:ResIs P L σ c v2)(i:ResIs P L σ b v3)(k:ResIs P L σ d v4):
  (results fn a.tmps).run P w=.ok (.tuple #[v1,v2,v3,v4]) w:=by
 have key:∀ {r:ResultVar} {v:Value},ResIs P L σ r v→(resV a r).run P w=.ok v w:=fun {r v} hh=>by
  have:=hh.run h
  cases r<;>exact this
 have g:=key h1
 have j:=key e
 have f:=key i
 have l:=key k
 rw[show(results fn a.tmps)=(do
   let x ←resV a r1
   let y ←resV a c
   let z ←resV a b
   let u ←resV a d
   pure (.tuple #[x,y,z,u])) from by cases r1<;>cases c<;>cases b<;>cases d<;>simp[results,hr,resV]]
 simp only[Sem.run_bind,g,j,f,l,Result.andThen]
 rfl
theorem ah:Ctr prog 143 [] [] (fun v Ψ=>(∃ad,v=.slice ad 5 5)∧Ψ=[]):=by
 refine fnI func143 I ntmps143 fun S w0 b=>au 0x1af1af1af1af1af312531 ?_
 refine zB [(_,_),(_,_),(_,_),(_,_),(_,_)] I (FI _ _ _ _ _) fun c=>?_;intro a w h
 replace h:=h.shareAll b (cellsOf IH ([242,243,244,245,246])) I
 refine gL h<|au 0x625 ?_;clear h;intro a w h
 refine Qn (Ψ:=[]) h (Ze h I<|.tmp I) ?_ ss
 exact⟨⟨_,rfl⟩,rfl⟩
theorem ib(p:Pr)(e b d c:Option Addr)(k i g j:Nat)(ho:p.o=3): Xo prog 149 [Xf p e b d c k i g j] [Row e (cellsOf encPt p.m.P),Row b (cellsOf Zd p.m.T),Row d (cellsOf Zd p.m.S),Row p.f.a (cellsOf Zz p.f.l),Row c (cellsOf Jg p.G),Yi (Qu p.G)] (.tuple #[.agg #[.int .i64 0,.int .i64 0,.slice none 0 0],.slice none 0 0,.agg #[.int .i64 0,.int .i64 0,.slice none 0 0,.slice none 0 0,.slice none 0 0],.int .i64 1]):=by
 refine fnI func149 I ntmps149 fun S w0 r=>zS (zx I fun q=>zz zeroValue232 fun n=>za I (zz zeroValue83 fun s=>au 0xfe31125 ?_));intro a w h
 refine Zc<|Jl h (vs:=[_]) I call91 (Ou p e b d c k i g j ho) (by exact hsA) dd ?_;clear h;intro a w h
 refine gL h<|au 0x311e274f43125 ?_
 refine zp (.build [] I<|fZ)<|zp (.build [] I<|mI)<|zm I<|stW I I Qg ?_
 refine za I<|stW I I Zi ?_
 refine au 0x625 ?_;clear h;intro a w h
 refine Js h (results4 h I (rC Jk) (.tmp I) (rC Zx)<|.tmp I) ?_
 rfl
theorem C_asmB(p:Pr)(e b d c:Option Addr)(k i g j:Nat)(ho:p.o=3): Xo prog 144 [Xf p e b d c k i g j] [Row e (cellsOf encPt p.m.P),Row b (cellsOf Zd p.m.T),Row d (cellsOf Zd p.m.S),Row p.f.a (cellsOf Zz p.f.l),Row c (cellsOf Jg p.G),Yi (Qu p.G)] (.tuple #[.agg #[.int .i64 0,.int .i64 0,.slice none 0 0,.slice none 0 0,.slice none 0 0,.int .i64 0,.int .i64 0,.slice none 0 0,.slice none 0 0,.slice none 0 0,.slice none 0 0],.int .i64 1]):=by
 refine fnI func144 I ntmps144 fun S w0 r=>zS (zx I fun q=>zz zeroValue235 fun n=>au 0xfe3125 ?_);intro a w h
 refine Zc<|Jl h (vs:=[_]) I call149 (ib p e b d c k i g j ho) (by exact hsA) dd ?_;clear h;intro a w h
 refine gL h<|au 0xbbbb4 ?_
 refine zz zeroValue232 fun t=>zz zeroValue83 fun s=>stW I I Qg ?_
 refine za I<|stW I I Zi ?_
 refine au 0x311e274f431125 ?_
 refine zp (.build [] I<|fY)<|zm I<|stW I I JZ ?_
 refine au 0x625 ?_;clear h;intro a w h
 refine Js h (Zw h I (rC Tx)<|.tmp I) ?_
 rfl
theorem ik(p:Pr)(e b d c:Option Addr)(q j i k:Nat)(ho:p.o=3): Xo prog 80 [Xf p e b d c q j i k,.int .u8 1] [Row e (cellsOf encPt p.m.P),Row b (cellsOf Zd p.m.T),Row d (cellsOf Zd p.m.S),Row p.f.a (cellsOf Zz p.f.l),Row c (cellsOf Jg p.G),Yi (Qu p.G)] (.tuple #[.agg #[.slice none 0 0,.slice none 0 0,.slice none 0 0,.int .i64 0,.slice none 0 0],.int .i64 1]):=by
 refine fnI func80 I ntmps80 fun S w0 s=>zS (zx I fun r=>zz zeroValue61 fun u=>au 0x431125 ?_)
 refine zp (.convert I<|fB _<|wrap_i64 _ oo oo)<|zF [] call143 (ah) ?_;rintro v12 n ⟨⟨g,rfl⟩,rfl⟩
 refine zp (.builtin [_] I<|LD _ _ _)<|zp (Pure1.cast (v':=.bool false) (.geq I I) cgd)<|au 0xfe317d2 ?_;intro a w h
 refine Zc<|Jl h (vs:=[_]) I call144 (C_asmB p e b d c q j i k ho) (by exact hsA) dd ?_;clear h;intro a w h
 refine gL h<|au 0xbb4 ?_
 refine zz zeroValue235 fun t=>stW I I JZ ?_
 refine au 0x311e274f431125 ?_
 refine zp (.build [] I<|mJ)<|zm I<|stW I I Zi ?_
 refine au 0x625 ?_;clear h;intro a w h
 refine Js h (Zw h I (rC Zx)<|.tmp I) ?_
 rfl
theorem ai(p:Pr)(e b d c:Option Addr)(k i g j:Nat)(ho:p.o=3): Xo prog 29 [Xf p e b d c k i g j,.slice none 0 0,.int .u8 1] [Row e (cellsOf encPt p.m.P),Row b (cellsOf Zd p.m.T),Row d (cellsOf Zd p.m.S),Row p.f.a (cellsOf Zz p.f.l),Row c (cellsOf Jg p.G),Yi (Qu p.G)] (.tuple #[.agg #[.slice none 0 0,.slice none 0 0,.slice none 0 0,.int .i64 0,.int .u64 0,.string ⟨#[]⟩,.bool false,.int .u64 0,.string ⟨#[]⟩,.int .u64 0,.string ⟨#[]⟩,.bool false,.int .u64 0,.string ⟨#[]⟩,.int .u64 0,.string ⟨#[]⟩,.bool false,.int .u64 0,.string ⟨#[]⟩,.int .u64 0,.string ⟨#[]⟩,.bool false,.int .u64 0,.string ⟨#[]⟩,.slice none 0 0,.slice none 0 0,.slice none 0 0,.slice none 0 0,.slice none 0 0,.int .i64 0,.slice none 0 0,.int .u64 0,.string ⟨#[]⟩,.bool false,.int .u64 0,.string ⟨#[]⟩,.int .u64 0,.string ⟨#[]⟩,.bool false,.int .u64 0,.string ⟨#[]⟩,.slice none 0 0],.int .i64 1]):=by
 refine fnI func29 I ntmps29 fun S w0 r=>zS (zx I fun q=>zz zeroValue106 fun s=>au 0x4fe3125 ?_);intro a w h
 refine Zc<|Jl h (vs:=[_,_]) I call80 (ik p e b d c k i g j ho) (by exact hsA) dd ?_;clear h;intro a w h
 refine gL h<|au 0xbb4 ?_
 refine zz zeroValue61 fun n=>stW I I Zi ?_
 refine au 0x311e274f431125 ?_
 refine zp (.build [] I<|ge)<|zm I<|stW I I JX ?_
 refine au 0x625 ?_;clear h;intro a w h
 refine Js h (Zw h I (rC Tt)<|.tmp I) ?_
 rfl
theorem jA(p:Pr)(j e i g:Option Addr)(u s q r:Nat)(t:Rat)(n:Int)(ht:Zn t≤1000)(ho:p.o=3): Xo prog 12 [Xf p j e i g u s q r,Qe t,.int .i64 n,.int .u8 1] [Row j (cellsOf encPt p.m.P),Row e (cellsOf Zd p.m.T),Row i (cellsOf Zd p.m.S),Row p.f.a (cellsOf Zz p.f.l),Row g (cellsOf Jg p.G),Yi (Qu p.G)] (.tuple #[.slice none 0 0,.int .i64 (if Gp t=true∧64<n then 3 else 1)]):=by
 refine fnI func12 I ntmps12 fun S w0 y=>zS (zx I fun z=>zx I fun x=>au 0x6e3191255 ?_)
 refine zv [_] I call24 (I7 t oo) ?_;intro a w h
 refine Zh h (fun b h=>?_) (fun b h=>?_)
 ·refine gL h<|au 0x4a0f ?_
  refine zq 22 I I (.move I)<|zq 22 I I (.lss I I) ?_;clear h;intro a w h
  refine Zh h (fun d h=>?_) (fun d h=>?_)
  ·refine gL h<|au 0x6255311e254e ?_;clear h;intro a w h
   refine Js h (Zw h I (.tmp I)<|.tmp I) ?_
   rw[if_neg (fun k=>by have:=of_decide_eq_true d;omega)]
  ·refine gL h<|au 0x2570f431d254e ?_;clear h;intro a w h
   refine Zb h I (fun c=>?_) (fun c=>?_)
   ·refine gC h<|au 0x625531 ?_;clear h;intro a w h
    refine Js h (Zw h I (.tmp I)<|.tmp I) ?_
    rw[if_pos ⟨b,by have:=of_decide_eq_true c;omega⟩]
   ·refine gC h<|au 0x4fe317 ?_;clear h;intro a w h
    refine Zc<|Jl h (vs:=[_,_,_]) I call29 (ai p j e i g u s q r ho) (by exact hsA) dd ?_;clear h;intro a w h
    refine gL h<|au 0xbb4 ?_
    refine zz zeroValue106 fun v=>stW I I JX ?_
    refine au 0x62554311e274f431125 ?_;clear h;intro a w h
    refine Js h (Zw h I (.tmp I)<|.tmp I) ?_
    rw[if_neg (fun k=>by have:=of_decide_eq_false c;omega)]<;>rfl
 ·refine gL h<|au 0x45bf ?_
  refine zo 22 I I I<|zo 22 I I I<|au 0x6255311e252e ?_;clear h;intro a w h
  refine Js h (Zw h I (.tmp I)<|.tmp I) ?_
  rw[if_neg (fun k=>by rw[k.1] at b;cases b)]
end
section
theorem lc{S:List (Nat×Nat×Nat)}(h:0<S.length): 0<(mkU S).length:=by
 have hm:=getD_mem S (d:=(0,0,0)) h
 have a:(S.getD 0 (0,0,0)).2.2∈mkU S:=by
  unfold mkU
  exact IP (by rw[List.mem_mergeSort];exact List.mem_map.2 ⟨_,hm,rfl⟩)
 exact List.length_pos_of_mem a
theorem esv_of{x:Pn}{m:Ms}{d:Nat}{B:List Nat}{p:Pr}{V:List Rat}(hx:QD x)(r:∀t∈x.u,OkT t)(hd:d≤4)(h:PrM 4 m (JH x) ((stA x*stA x:Int):Rat) ((stA x*stB x:Int):Rat) ((stB x*stB x+stG x*stG x:Int):Rat) (((x.c.tmod 4:Int):Rat)/((2:Int):Rat)) (exL x d) B p)(D:Et p=true)(F:V.length=KY p.m p.o)(C:∀v∈V,Zn v≤4): EsV p V:=by
 obtain ⟨z,w,b,a,j⟩:=ZF (VP hx) (VO x) (VN hx)
 have hu:Pq 4 31 (exL x d):=(lX r oo).mono hd (Nat.le_refl _)
 refine⟨h.v,D,F,C,?_,?_,?_,?_,?_,?_⟩
 ·rw[h.f]
  exact(OS hu dd b a j (HJ hx).1).mono (Nat.le_refl _) dd
 ·intro g E
  obtain ⟨i,A,rfl⟩:=List.mem_iff_getElem.1 E
  have h1:=h.g.2 i (by rw[←h.g.1];exact A)
  rw[show p.G.getD i gv0=p.G[i] from by simp[List.getD,A]] at h1
  have n:Pq 4 1000 (Yw ((stA x*stA x:Int):Rat) ((stA x*stB x:Int):Rat) (exL x d)):=(Bz hu dd b a).mono (Nat.le_refl _) dd
  have k:Pq 4 1000 (Yw ((stA x*stB x:Int):Rat) ((stB x*stB x+stG x*stG x:Int):Rat) (exL x d)):=(Bz hu dd a j).mono (Nat.le_refl _) dd
  have q:Pq 4 1000 p.G[i].x.l:=by
   rcases h1.x with e|e
   ·rw[e];exact CL 4 999
   ·rw[e];exact n
  have s:Pq 4 1000 p.G[i].y.l:=by
   rcases h1.y with e|e
   ·rw[e];exact CL 4 999
   ·rw[e];exact k
  exact⟨q,s⟩
 ·rw[h.q0];exact b
 ·rw[h.q1];exact a
 ·rw[h.q2];exact j
 ·rw[h.qc];exact(HJ hx).1
end
section
theorem lQ{b off:Nat}: RN (Instr.fieldAt 33 (.pointer (some ⟨b,off,none⟩)) 0) (.pointer (some ⟨b,off+0,none⟩)):=fun w=>by
 simp[go_sem]
theorem F4{c0 c1 c2 j l i m k n o c a f e d b g h:Value}: Zk true 16 #[c0,c1,c2,j,l,i,m,k,n,o,c,a,f,e,d,b,g,h] 0=some (.agg #[c0,c1,c2,j,l,i,m,k,n,o,c,a,f,e,d,b]):=rfl
theorem lP{b off:Nat}: RN (Instr.fieldAt 33 (.pointer (some ⟨b,off,none⟩)) 1) (.pointer (some ⟨b,off+16,none⟩)):=fun w=>by
 simp[go_sem]
theorem du{c0 c1 c2 j l i m k n o d b h f e c a g:Value}: Zk false 1 #[c0,c1,c2,j,l,i,m,k,n,o,d,b,h,f,e,c,a,g] 16=some a:=rfl
theorem Z3(c b a:Value)(d:Int): RN (Instr.build 61 [(0,.agg #[c,b,a]),(1,.int .i64 d)].toArray) (.agg #[c,b,a,.int .i64 d,.slice none 0 0]):=fun w=>by simp[go_sem]
theorem IF{b off:Nat}: RN (Instr.fieldAt 33 (.pointer (some ⟨b,off,none⟩)) 2) (.pointer (some ⟨b,off+17,none⟩)):=fun w=>by
 simp[go_sem]
theorem EN{c0 c1 c2 j l i m k n o e c h g f d b a:Value}: Zk false 1 #[c0,c1,c2,j,l,i,m,k,n,o,e,c,h,g,f,d,b,a] 17=some a:=rfl
theorem Bv(a:Option Addr)(n c:Nat)(w:World)(ty:TypeId)(cs:Array Bool): (Go.builtin .len #[31] ty cs #[.slice a n c]).run prog w=.ok (.value (.int .i64 n)) w:=by
 simp[go_sem]
theorem ix_31(b off n c j:Nat)(h:j<n): RN (Instr.indexAt 31 (.slice (some ⟨b,off,none⟩) n c) (.int .i64 (j:Int))) (.pointer (some ⟨b,off+j*2,none⟩)):=fun w=>by
 simpa using Qd runUnderlying31 sizeOf36 b off n c j h w
theorem N4(c e a d b:Value)(w:World): (Instr.buildSlice 59 1 [(0,.agg #[c,e,a,d,b])].toArray).run prog w=.ok (.slice (some ⟨w.heap.size,0,none⟩) 1 1) (w.alloc (.cells #[c,e,a,d,b] 51 (0,0))):=by
 simp[go_sem]
theorem SJ(x:Pn)(J N:Option Addr)(cC cU dg:Nat)(v:List (Int×Int))(H:Option Addr)(cV n:Nat)(m:Ms)(hx:QD x)(hM:MOk x.M m)(X:∀t∈x.u,OkT t)(hc:x.u.length≤cU)(hf:x.fixed=((n:Nat):Int))(hn:n≤255)(hv:∀q∈v,OkQ q)(e5:v.length≤9223372036854775807): Ctr prog 5 [.agg ((Value.cells (CO x J N cC cU))++(Value.cells (.int .u8 (((dg:Nat):Int))))++(Value.cells (.slice H v.length cV)))] [Row J (List.map Bb x.M.cells),Row N (cellsOf D2 x.u),Row H (cellsOf Mg v)] (fun r Ψ => ∃p s e j B R O Q cG V aV cV,EsV p V∧p.m=m∧0<p.G.length∧r=.tuple #[Xf p s e j B R O Q cG,Fo p.m p.o V s e j R O Q aV cV,.bool true]∧Ψ=[Row s (cellsOf encPt p.m.P),Row e (cellsOf Zd p.m.T),Row j (cellsOf Zd p.m.S),Row p.f.a (cellsOf Zz p.f.l),Row B (cellsOf Jg p.G),Yi (Qu p.G),Row aV (cellsOf Qe V)]):=by
 refine fnI func5 I ntmps5 fun S w0 hS=>zS (zx I fun b1=>zz zeroValue57 fun b2=>zz zeroValue61 fun b3=>au 0xfaf3125 ?_)
 refine ldZ F4 ?_
 refine zp (.fA I lP)<|ldZ du ?_
 refine zp (Pure1.cast (v':=.int .u8 ((dg%5:Nat):Int)) (.binOp I I (fun _=>Yn _ _ _ _ _ dd)) (by rw[show(5:Int)=((5:Nat):Int) from I,Ym]))<|au 0x4bf ?_
 refine zF [_,_] call13 (C_pnOf x _ _ _ cU (dg%5) n m hx hM X oo hc hf hn) ?_;rintro e2 c4 ⟨p,fx,s,e,j,B,R,O,Q,cG,A,hh,rfl,rfl⟩
 refine au 0xbb4 ?_
 refine zz zeroValue57 fun b5=>stW I I Qj ?_
 refine au 0xdaf89fa4f317d2d0f431125 ?_
 refine ldZ Ej ?_
 refine zp (.build [(_,_),(_,_)] I<|Z3 _ _ _ _) (zz zeroValue61 fun b7=>zt' I I Zi uu sizeOf61 I nb (by show((flat (.slice s p.m.P.length R) && (flat (.slice e p.m.T.length O) && (flat (.slice j p.m.S.length Q) && (flat (.int .i64 ((p.o:Nat):Int)) && (flat (.slice none 0 0) && true))))))=true;simp only[GrowO.flat ((GrowO.nil 5 51))];rfl) ?_)
 refine au 0x14f0df312 ?_
 refine zp (.fA I LV)<|ldZ EL ?_
 refine zF [_,_] call14 (bg 4 p.m _ _ _ _ _ _ p.o A.v.o A.v.m dd) ?_;rintro c6 c5 ⟨Ts,aT,aA,aE,nA,a6,c8,rfl,rfl⟩
 have e3:KY p.m p.o≤100000:=by have:=A.v.m.nP;have:=A.v.m.nT;have:=Gk p.m.T;unfold KY;split<;>omega
 refine au 0xbb4 ?_
 refine zz zeroValue83 fun b8=>stW I I Zi ?_
 refine au 0x92531125 ?_;intro a w h
 refine lpG h [1,2,3,4,5,7,8] pkL (fun Y Z (i:Nat) a w => ∃(W:List Rat) (aW:Option Addr) (F:Nat) (oW:List (Nat×Obj)),(i≤KY p.m p.o∧W.length=i∧(∀z∈W,Zn z≤4)∧GrowO 5 51 (.slice aW (W).length F) (W).length (cellsOf Qe<|W) oW)∧St 67 S w0 ((10,nI i)::Y) (oW++((b8,bV (.agg #[.int .i64 ((p.o:Nat):Int),.int .i64 ((KY p.m p.o:Nat):Int),.slice aT Ts.length Ts.length,.slice aA nA nA,.slice aE a6 a6]) 83)::((b7,bV (.agg #[.slice s p.m.P.length R,.slice e p.m.T.length O,.slice j p.m.S.length Q,.int .i64 ((p.o:Nat):Int),(.slice aW (W).length F)]) 61)::((b5,bV (Xf p s e j B R O Q cG) 57)::((b3,bV (.agg #[.slice none 0 0,.slice none 0 0,.slice none 0 0,.int .i64 0,.slice none 0 0]) 61)::((b2,bV (UR) 57)::((b1,bV (.agg ((Value.cells<|CO x J N cC cU)++(Value.cells<|.int .u8 (((dg:Nat):Int)))++(Value.cells<|.slice H v.length cV))) 33)::[]))))))) Z a w) (fun i=>KY p.m p.o-i) (0) (⟨[],none,0,[],⟨Nat.zero_le _,rfl,(fun _ h=>by cases h),GrowO.nil _ _⟩,by exact h.sub sA⟩) ?_;clear h
 rintro i a w ⟨W,aW,F,oW,⟨hi,a1,U,K⟩,h⟩
 refine gC h<|zs<|zS<|zm I<|zp (.fA I LU)<|ldZ J3 ?_
 refine au 0x2c ?_;intro a w h
 refine Zb h I (fun D=>?_) (fun D=>?_)
 ·have c3:i<KY p.m p.o:=dT D
  refine gC h<|zk<|zs<|zb<|zS (zz zeroValue36 fun e0=>zn<|zs<|zS<|zp (.fA I IF)<|ldZ EN ?_)
  refine zp (.builtin [_] I<|Bv _ _ _)<|au 0x70f ?_;clear h;intro a w h
  refine Zh h (fun b h=>?_) (fun b h=>?_)
  ·have b4:0<v.length:=dT b
   obtain ⟨a7,b9,rfl⟩:=h.row_addr (ad:=H) (M:=cellsOf Mg v) mm (nE 2)
   have hj:=Nat.mod_lt i b4
   obtain ⟨e1,e6,c9,c7⟩:=hv _ (getD_mem v (d:=(0,0)) hj)
   refine wpList_nil ?_
   refine cW ?_
   refine Qo h I ?_
   refine gC h<|yE [0,1,2,3,4,5,6,7,8,9]<|yp I (.fA I IF)<|ldY EN ?_;clear h
   refine au 0x8 ?_
   refine yp I (.fA I IF)<|ldY EN ?_
   refine yp I (.builtin [_] I<|Bv _ _ _)<|yp I (Pure1.cast (v':=.int .i64 ((i%v.length:Nat):Int)) (.binOp I I (fun _=>Yn _ _ _ _ _<|dT b)) (by rw[Ym]))<|yp I (.indexAddr I I<|ix_31 _ _ _ _ _ (by exact Nat.mod_lt _<|dT b)) ?_
   refine Zf I kk I mm (cells_lt (k:=2) dd (fun _=>rfl) v (i%v.length) (by exact Nat.mod_lt _<|dT b)) isAgg36 sizeOf36 (Zg (k:=2) (fun _=>rfl) ((fun _=>rfl)) v (0,0) (i%v.length) (by exact Nat.mod_lt _<|dT b)) (.inl I) dd ?_
   refine stV I I I Zt ?_
   refine yn<|yE [0,1,2,3,4,5,6,7]<|au 0x18f6af ?_
   refine au 0x30f ?_
   refine yv [_] I I call8 (FM ((v.getD (i%v.length) (0,0)).1) ((v.getD (i%v.length) (0,0)).2) oo oo oo oo) ?_
   have E:=Vx ((v.getD (i%v.length) (0,0)).1) ((v.getD (i%v.length) (0,0)).2) oo oo oo oo
   refine yB I [(_,_)] I (N4 _ _ _ _ _) fun a8=>?_
   refine bR Qe W [qv ((v.getD (i%v.length) (0,0)).1) ((v.getD (i%v.length) (0,0)).2)] K ?_;intro y C L c
   refine au 0x6af ?_
   refine yt I I I Dw uu sizeOf59 I nb (by show((flat ((.slice y (W++[qv ((v.getD (i%v.length) (0,0)).1) ((v.getD (i%v.length) (0,0)).2)]).length C)) && true))=true;simp only[GrowO.flat (c)];rfl) ?_
   refine yn<|zr<|zm I<|zp (.pN (i+1)<|.add I I)<|au 0x25 ?_;intro a w h
   exact⟨i+1,⟨_,y,C,L,⟨oo,by rw[List.length_append,a1];rfl,fun z hz=>(List.mem_append.1 hz).elim (U z) (fun h1=>by rw[List.mem_singleton.1 h1];exact E),c⟩,by exact tO h⟩,oo⟩
  ·refine wpList_nil ?_
   refine cW ?_
   refine Zj h I ?_
   refine gC h<|zk<|yE [0,1,2,3,4,5,6,7]<|au 0x18f6af ?_;clear h
   refine au 0x30f ?_
   refine yv [_] I I call8 (FM 0 0 oo oo oo oo) ?_
   have E:=Vx 0 0 oo oo oo oo
   refine yB I [(_,_)] I (N4 _ _ _ _ _) fun a8=>?_
   refine bR Qe W [qv 0 0] K ?_;intro y C L c
   refine au 0x6af ?_
   refine yt I I I Dw uu sizeOf59 I nb (by show((flat ((.slice y (W++[qv 0 0]).length C)) && true))=true;simp only[GrowO.flat (c)];rfl) ?_
   refine yn<|zr<|zm I<|zp (.pN (i+1)<|.add I I)<|au 0x25 ?_;intro a w h
   exact⟨i+1,⟨_,y,C,L,⟨oo,by rw[List.length_append,a1];rfl,fun z hz=>(List.mem_append.1 hz).elim (U z) (fun h1=>by rw[List.mem_singleton.1 h1];exact E),c⟩,by exact tO h⟩,oo⟩
 ·have b0:W.length=KY p.m p.o:=dF D
  replace h:=h.shareO' hS K
  refine gC h<|ze<|zs<|yE [0,1,2,3,4]<|au 0xd6f ?_;clear h
  refine Qx [2] I kk I mr isAgg61 sizeOf61 Zx (fun a w e4 b6=>by intro t ht;simp only[List.mem_cons,List.not_mem_nil,or_false] at ht;rcases ht with rfl<;>exact⟨_,rfl,by have h1:=(List.pairwise_append.1 b6.nd).2.1;simp at h1;dsimp only;omega⟩) dd ?_
  refine stV I I I Qj ?_
  refine stV I I I Zi ?_
  refine au 0x6a3e ?_;intro a w h
  exact Qn h (Ah h I (rC Xh) (rC Zx) (.tmp I)) ⟨p,s,e,j,B,R,O,Q,cG,W,aW,F,esv_of hx X oo A hh b0 U,A.qm,by rw[A.g.1];exact lc hM.s0,rfl,rfl⟩ (by exact hsA)
end
section
theorem JY{c0 c1 c2 t o n p q r s k f i g h j a d v0 v1 v2 v3 v4 v5 v6 m l v9 v10 v11 v12 b e c:Value}: Zl #[c0,c1,c2,t,o,n,p,q,r,s,k,f,i,g,h,j,a,d] 0 [v0,v1,v2,v3,v4,v5,v6,m,l,v9,v10,v11,v12,b,e,c]=#[v0,v1,v2,v3,v4,v5,v6,m,l,v9,v10,v11,v12,b,e,c,a,d]:=by kernel_rfl
theorem J5{c0 c1 c2 j l i m k n o d b h f e c a g:Value}: Zk true 18 #[c0,c1,c2,j,l,i,m,k,n,o,d,b,h,f,e,c,a,g] 0=some (.agg #[c0,c1,c2,j,l,i,m,k,n,o,d,b,h,f,e,c,a,g]):=by kernel_rfl
theorem MY{c0 c1 c2 w r q s t u v o g m h l n a e k c j f i d p b v0:Value}: Zl #[c0,c1,c2,w,r,q,s,t,u,v,o,g,m,h,l,n,a,e,k,c,j,f,i,d,p,b] 3 [v0]=#[c0,c1,c2,v0,r,q,s,t,u,v,o,g,m,h,l,n,a,e,k,c,j,f,i,d,p,b]:=rfl
theorem Hh(a:Option Addr)(n c:Nat)(w:World)(ty:TypeId)(cs:Array Bool): (Go.builtin .len #[73] ty cs #[.slice a n c]).run prog w=.ok (.value (.int .i64 n)) w:=by
 simp[go_sem]
theorem JF(x:Pn)(j s:Option Addr)(cC Q dg:Nat)(v:List (Int×Int))(y:Option Addr)(cV n:Nat)(m:Ms)(N D k:Int)(hx:QD (Vi x))(hM:MOk (Vi x).M m)(H:∀t∈(Vi x).u,OkT t)(hc:(Vi x).u.length≤Q)(hf:(Vi x).fixed=((n:Nat):Int))(hn:n≤255)(hv:∀q∈v,OkQ q)(R:v.length≤9223372036854775807)(hQ:OkQ (N,D))(hT:m.T.length≤90)(hP:m.P.length≤1000)(hq:Gp (qv N D)=true): Xo prog 3 [.agg ((Value.cells (CO x j s cC Q))++(Value.cells (.int .u8 (((dg:Nat):Int))))++(Value.cells (.slice y v.length cV))),.agg #[.int .i64 N,.int .u32 D],.int .i64 k] [Row j (List.map Bb x.M.cells),Row s (cellsOf D2 x.u),Row y (cellsOf Mg v),SideF] (.bool true):=by
 obtain ⟨G,O,U,J⟩:=hQ
 simp only at G O U J
 have r:Zn (qv N D)≤1000:=Nat.le_trans (Vx N D oo oo oo oo) dd
 refine fnI func3 I ntmps3 fun S w0 hS=>zS (zx I fun b3=>zx I fun b4=>au 0xfaf3125 ?_)
 refine ldZ F4 ?_
 refine zv [_] I call4 (aj x _ _ _ _)<|au 0xfaf ?_
 refine stW I I JY ?_
 refine zn<|zS<|ldZ J5 ?_
 refine zF [_] call5 (SJ (Vi x) j s cC Q dg v y cV n m hx hM H hc hf hn hv R) ?_;rintro b9 a7 ⟨p,f,d,e,l,F,C,E,K,V,aV,A,hE,B,L,rfl,rfl⟩
 refine au 0xbbb4 ?_
 refine zz zeroValue57 fun b7=>zz zeroValue61 fun b8=>stW I I Qj ?_
 refine stW I I Zi ?_
 refine au 0x4a0f431125 ?_
 refine zq 33 I I (.fA I IF)<|ldQ 33 EN ?_
 refine zq 33 I I (.builtin [_] I<|Bv _ _ _)<|zq 33 I I (.gtr I I) ?_;intro a w h
 refine Zh h (fun z h=>?_) (fun z h=>?_)
 focus
  refine gL h<|au 0x44311e24e ?_;clear h;intro a w h
  refine Zq 40 h I I<|Qw h (vs:=[]) I call6 (MJ) dd ?_;clear h;intro a w h
 rotate_left
 focus
  refine gL h<|au 0x5e317d24e ?_
  refine zv [_] I call8 (FM N D oo oo oo oo) ?_
  have Z:=Vx N D oo oo oo oo
  refine au 0xcf2f ?_
  refine bbF (fun i=>(by exfalso;unfold Gp at hq;rw[Bool.and_eq_true,decide_eq_true_iff,decide_eq_true_iff] at hq;have h1:=of_decide_eq_true i;omega)) fun i=>zm I<|ldQ 47 Qr ?_;clear h;intro a w h
  refine Zq 47 h I I<|Qw h (vs:=[_]) I call8 (FM N D oo oo oo oo) dd ?_;clear h;intro a w h
  have a6:=Vx N D oo oo oo oo
  refine Zq 47 h I I<|Qw h (vs:=[_]) I call10 (Oy _ oo oo) dd ?_;clear h;intro a w h
  have b0:=Qa (1) oo oo
  refine Zq 47 h I I<|Qw h (vs:=[_,_]) I call9 (Ht (qv N D) (((1:Int):Rat)) oo oo) dd ?_;clear h;intro a w h
  refine gL h<|zq 47 I I (.gtr I I) (bbF (fun g=>(by exfalso;unfold Gp at hq;rw[Bool.and_eq_true,decide_eq_true_iff,decide_eq_true_iff] at hq;have h1:=of_decide_eq_true g;omega)) fun g=>au 0xfe31254e ?_)
  refine zz zeroValue57 fun b6=>stW I I Qj ?_
  refine au 0xdaf312 ?_
  refine stW I I MY ?_
  refine zn<|zs<|yF [0,1,2,3,4,5,6,7,8,9,10,11,12]<|au 0xd6f ?_;clear h
  refine au 0xbe ?_
  refine au 0x30f ?_
  refine yv [_] I I call8 (FM N D oo oo oo oo) ?_
  have X:=Vx N D oo oo oo oo
  refine Zs I kk (vs:=[_,_,_]) I call11 (SL { p with o:=3 } f d e l F C E K p.m f d e F C E p.o V aV A (qv N D) r I) (by exact hsA) dd ?_;rintro b2 Y ⟨rfl,rfl⟩
  refine au 0x7e7e7e8 ?_
  refine yz I zeroValue57 fun c3=>stV I I I Qj ?_
  refine au 0x1a3e3e ?_
  refine yE [0,1,3,2,4,5,6,7,8,9]<|au 0xd6f ?_
  refine au 0x30f ?_
  refine au 0x8 ?_
  refine yv [_] I I call8 (FM N D oo oo oo oo) ?_
  have W:=Vx N D oo oo oo oo
  refine Yy I kk (vs:=[_,_,_,_]) I call12 (jA { p with o:=3 } f d e l F C E K (qv N D) k r I) (by exact hsA) dd ?_
  refine au 0x1a3e3e7e7e8 ?_
  refine yF [0,1,2,3,4,5,6,7,8,9,10,11,12]<|au 0xd6f ?_
  refine au 0xbe ?_
  refine au 0x30f ?_
  refine yv [_] I I call8 (FM N D oo oo oo oo) ?_
  have a8:=Vx N D oo oo oo oo
  refine Zs I kk (vs:=[_,_,_]) I call11 (gZ p f d e l F C E K V aV A (qv N D) hE r hq (by rw[B];exact hT) (by rw[B];exact hP) L) (by exact hsA) dd ?_;rintro v78 b1 ⟨⟨a1,a2,a3,a4,a5,n1,n2,n3,n4,rfl⟩,rfl⟩
  refine au 0x7e7e7e8 ?_
  refine yz I zeroValue57 fun b5=>stV I I I Qj ?_
  refine au 0x45bf43112531a3e3e ?_
  refine zq 84 I I (.move I)<|zq 84 I I (.gtr I I) ?_;intro a w h
  refine Zh h (fun c h=>?_) (fun c h=>?_)
  focus
   refine gL h<|au 0xf7ff7f432f4312531e22e ?_
   refine zq 90 I I (.eql I I) ?_;clear h;intro a w h
   refine Zh h (fun b h=>?_) (fun b h=>(by exfalso;rw[if_pos ⟨hq,of_decide_eq_true c⟩] at b;simp at b))
  rotate_left
  focus
   refine gL h<|au 0xf7ff7f432f4317d22e ?_
   refine zq 90 I I (.eql I I) ?_;clear h;intro a w h
   refine Zh h (fun b h=>?_) (fun b h=>(by exfalso;rw[if_neg (fun hh=>by have:=of_decide_eq_false c;omega)] at b;simp at b))
  all_goals
   refine gL h<|au 0x42e ?_
   refine zq 95 I I (.move I)<|zq 95 I I (.builtin [_] I<|Hh _ _ _)<|zq 95 I I (Pure1.cast (v':=.bool true) (.eql I I) cgd)<|au 0x42e ?_
   refine zq 100 I I (.move I)<|zq 100 I I (Pure1.cast (v':=.bool false) (.eql I I) cgd)<|zq 100 I I (.move I)<|zq 100 I I (Pure1.cast (v':=.bool true) (.binOp I I (fun _=>HH _ underlying4 _ _ _ _)) cgd)<|au 0x42e ?_
   refine zq 106 I I (.move I)<|zq 106 I I (.move I)<|zq 108 I I (.move I)<|zq 108 I I (Pure1.cast (v':=.bool true) (.eql I I) cgd)<|zq 106 I I (.pickF I I)<|au 0x42e ?_;clear h;intro a w h
   refine Zq 113 h I I<|Qw h (vs:=[]) I call6 (MJ) dd ?_;clear h;intro a w h
 all_goals
  refine gL h<|au 0x6252e ?_
  refine rtK I
theorem JG(x:Pn)(i r:Option Addr)(cC Q dg:Nat)(v:List (Int×Int))(s:Option Addr)(cV n:Nat)(m:Ms)(N D k:Int)(hx:QD (Vi x))(hM:MOk (Vi x).M m)(G:∀t∈(Vi x).u,OkT t)(hc:(Vi x).u.length≤Q)(hf:(Vi x).fixed=((n:Nat):Int))(hn:n≤255)(hv:∀q∈v,OkQ q)(O:v.length≤9223372036854775807)(hQ:OkQ (N,D))(hT:m.T.length≤90)(hP:m.P.length≤1000)(hq:Gp (qv N D)=false): Xo prog 3 [.agg ((Value.cells (CO x i r cC Q))++(Value.cells (.int .u8 (((dg:Nat):Int))))++(Value.cells (.slice s v.length cV))),.agg #[.int .i64 N,.int .u32 D],.int .i64 k] [Row i (List.map Bb x.M.cells),Row r (cellsOf D2 x.u),Row s (cellsOf Mg v),SideF] (.bool true):=by
 obtain ⟨F,L,R,H⟩:=hQ
 simp only at F L R H
 have l:Zn (qv N D)≤1000:=Nat.le_trans (Vx N D oo oo oo oo) dd
 refine fnI func3 I ntmps3 fun S w0 hS=>zS (zx I fun b3=>zx I fun b4=>au 0xfaf3125 ?_)
 refine ldZ F4 ?_
 refine zv [_] I call4 (aj x _ _ _ _)<|au 0xfaf ?_
 refine stW I I JY ?_
 refine zn<|zS<|ldZ J5 ?_
 refine zF [_] call5 (SJ (Vi x) i r cC Q dg v s cV n m hx hM G hc hf hn hv O) ?_;rintro b5 a1 ⟨p,e,c,d,j,E,B,C,J,V,aV,z,hE,A,K,rfl,rfl⟩
 refine au 0xbbb4 ?_
 refine zz zeroValue57 fun b7=>zz zeroValue61 fun b8=>stW I I Qj ?_
 refine stW I I Zi ?_
 refine au 0x4a0f431125 ?_
 refine zq 33 I I (.fA I IF)<|ldQ 33 EN ?_
 refine zq 33 I I (.builtin [_] I<|Bv _ _ _)<|zq 33 I I (.gtr I I) ?_;intro a w h
 refine Zh h (fun y h=>?_) (fun y h=>?_)
 focus
  refine gL h<|au 0x44311e24e ?_;clear h;intro a w h
  refine Zq 40 h I I<|Qw h (vs:=[]) I call6 (MJ) dd ?_;clear h;intro a w h
 rotate_left
 focus
  refine gL h<|au 0x5e317d24e ?_
  refine zv [_] I call8 (FM N D oo oo oo oo) ?_
  have Y:=Vx N D oo oo oo oo
  refine au 0xcf2f ?_;intro a w h
  refine Zh h (fun g h=>?_) (fun g h=>?_)
  focus
   refine gL h<|zm I<|zo 47 I I I<|zo 47 I I I<|zo 47 I I I<|zo 47 I I I<|zo 47 I I I<|au 0xfe31252e ?_;clear h;intro a w h
  rotate_left
  focus
   refine gL h<|zm I<|ldQ 47 Qr ?_;clear h;intro a w h
   refine Zq 47 h I I<|Qw h (vs:=[_]) I call8 (FM N D oo oo oo oo) dd ?_;clear h;intro a w h
   have Z:=Vx N D oo oo oo oo
   refine Zq 47 h I I<|Qw h (vs:=[_]) I call10 (Oy _ oo oo) dd ?_;clear h;intro a w h
   have a7:=Qa (1) oo oo
   refine Zq 47 h I I<|Qw h (vs:=[_,_]) I call9 (Ht (qv N D) (((1:Int):Rat)) oo oo) dd ?_;clear h;intro a w h
   refine gL h<|zq 47 I I (.gtr I I) (bbT (fun f=>(by exfalso;have h1:=of_decide_eq_false g;have h2:=of_decide_eq_false f;have h3:Gp (qv N D)=true:=(by unfold Gp;rw[Bool.and_eq_true,decide_eq_true_iff,decide_eq_true_iff];omega);rw[h3] at hq;cases hq)) fun f=>au 0xfe31254e ?_);clear h;intro a w h
  all_goals
   refine gL h (zz zeroValue57 fun b2=>stW I I Qj ?_)
   refine au 0xdaf312 ?_
   refine stW I I MY ?_
   refine zn<|zs<|yF [0,1,2,3,4,5,6,7,8,9,10,11,12]<|au 0xd6f ?_;clear h
   refine au 0xbe ?_
   refine au 0x30f ?_
   refine yv [_] I I call8 (FM N D oo oo oo oo) ?_
   have W:=Vx N D oo oo oo oo
   refine Zs I kk (vs:=[_,_,_]) I call11 (SL { p with o:=3 } e c d j E B C J p.m e c d E B C p.o V aV z (qv N D) l I) (by exact hsA) dd ?_;rintro b0 X ⟨rfl,rfl⟩
   refine au 0x7e7e7e8 ?_
   refine yz I zeroValue57 fun b6=>stV I I I Qj ?_
   refine au 0x1a3e3e ?_
   refine yE [0,1,3,2,4,5,6,7,8,9]<|au 0xd6f ?_
   refine au 0x30f ?_
   refine au 0x8 ?_
   refine yv [_] I I call8 (FM N D oo oo oo oo) ?_
   have U:=Vx N D oo oo oo oo
   refine Yy I kk (vs:=[_,_,_,_]) I call12 (jA { p with o:=3 } e c d j E B C J (qv N D) k l I) (by exact hsA) dd ?_
   refine au 0x1a3e3e7e7e8 ?_
   refine yF [0,1,2,3,4,5,6,7,8,9,10,11,12]<|au 0xd6f ?_
   refine au 0xbe ?_
   refine au 0x30f ?_
   refine yv [_] I I call8 (FM N D oo oo oo oo) ?_
   have a6:=Vx N D oo oo oo oo
   refine Zs I kk (vs:=[_,_,_]) I call11 (hJ p e c d j E B C J V aV z (qv N D) hE l hq (by rw[A];exact hT) (by rw[A];exact hP) K) (by exact hsA) dd ?_;rintro v78 a8 ⟨rfl,rfl⟩
   refine au 0x7e7e7e8 ?_
   refine yz I zeroValue57 fun b1=>stV I I I Qj ?_
   refine au 0x4a0f43112531a3e3e ?_
   refine zo 84 I I I<|zo 84 I I I<|au 0xf7ff7f432f4317d24e ?_
   refine zq 90 I I (.eql I I) (bbT (fun b=>(by exfalso;rw[if_neg (fun hh=>by rw[hh.1] at hq;cases hq)] at b;simp at b)) fun b=>au 0x42e ?_)
   refine zq 95 I I (.move I)<|zq 95 I I (.builtin [_] I<|Hh _ _ _)<|zq 95 I I (Pure1.cast (v':=.bool true) (.eql I I) cgd)<|au 0x42e ?_
   refine zq 100 I I (.move I)<|zq 100 I I (Pure1.cast (v':=.bool true) (.eql I I) cgd)<|zq 100 I I (.move I)<|zq 100 I I (Pure1.cast (v':=.bool true) (.binOp I I (fun _=>HH _ underlying4 _ _ _ _)) cgd)<|au 0x42e ?_
   refine zq 106 I I (.move I)<|zq 106 I I (.move I)<|zo 108 I I I<|zo 108 I I I<|zq 106 I I (.pickT I I)<|au 0x42e ?_;intro a w h
   refine Zq 113 h I I<|Qw h (vs:=[]) I call6 (MJ) dd ?_;clear h;intro a w h
 all_goals
  refine gL h<|au 0x6252e ?_
  refine rtK I
end
section
abbrev CT:=(Nat×Nat)×(Nat×Nat)×(Nat×Nat)
def adjB(T:List (Nat×Nat×Nat))(o o':Nat): Bool:=(List.range 3).any fun j=>(List.range 3).any fun k=>decide (crn (trT T o) j=crn (trT T o') k)
def rchT(T:List (Nat×Nat×Nat)): Nat→List Nat
 | 0=>[0]
 | k+1=>(List.range T.length).filter fun o'=>decide (o'∈rchT T k) || (rchT T k).any fun o=>adjB T o o'
def okC(T:List (Nat×Nat×Nat)): Bool:=decide (0<T.length) && (List.range T.length).all fun o=>decide (o∈rchT T 8)
theorem Pa{T:List (Nat×Nat×Nat)}{X:Nat→Prop}(c:X 0)(hT:0<T.length)(h:∀o o',o<T.length→o'<T.length→X o→AdjT T o o'→X o'): ∀k o,o∈rchT T k→o<T.length∧X o
 | 0,o,ho=>by rw[rchT,List.mem_singleton] at ho;subst ho;exact⟨hT,c⟩
 | k+1,o,ho=>by
  rw[rchT,List.mem_filter,List.mem_range,Bool.or_eq_true,decide_eq_true_iff,List.any_eq_true] at ho
  obtain ⟨h1,b|⟨d,b,g⟩⟩:=ho
  ·exact Pa c hT h k o b
  ·have f:=Pa c hT h k d b
   simp only[adjB,List.any_eq_true,List.mem_range,decide_eq_true_iff] at g
   obtain ⟨j,hj,i,a,e⟩:=g
   exact⟨h1,h d o f.1 h1 f.2 ⟨j,i,hj,a,e⟩⟩
theorem mn{T:List (Nat×Nat×Nat)}(h:okC T=true): jo T:=fun X a hs o ho=>by
 rw[okC,Bool.and_eq_true,decide_eq_true_iff,List.all_eq_true] at h
 have h1:=h.2 o (List.mem_range.2 ho)
 rw[decide_eq_true_iff] at h1
 exact(Pa a h.1 hs 8 o h1).2
def in6B(l:List CT): Bool:=l.all fun t=>(List.range 3).all fun i=>decide ((HT t i).1≤6) && decide ((HT t i).2≤6)
theorem in6_of{l:List CT}(h:in6B l=true): In6 l:=fun t ht i=>by
 have h1:=List.all_eq_true.1 h t ht
 have a:∀i,i<3→(HT t i).1≤6∧(HT t i).2≤6:=fun i b=>by
  have:=List.all_eq_true.1 h1 i (List.mem_range.2 b)
  rw[Bool.and_eq_true,decide_eq_true_iff,decide_eq_true_iff] at this
  exact this
 match i with
 | 0=>exact a 0 dd
 | 1=>exact a 1 dd
 | _+2=>exact a 2 dd
def okL(l:List CT)(F:Nat): Bool :=
 let pl:=plW l F l.length
 let ts:=trW l F l.length
 in6B l && okM pl ts && okR ts F pl.length && okC ts && decide (0<(EO ts).length) && decide (pl.length≤17) && decide (ts.length≤90) && pl.all fun p=>decide (p.1≤6) && decide (p.2≤6)
def rep0(w:Nat): Nat:=if w<3∨w=7 then 0 else if w<5 then 3 else 5
def rep1(w:Nat): Nat:=if w<3 then 0 else if w<5 then 3 else if w<7 then 5 else 7
theorem IV{w x y:Nat}(h:w<8): cellT w 0 x y=cellT (rep0 w) 0 x y∧rep0 w∈[0,3,5]:=by
 have:w=0∨w=1∨w=2∨w=3∨w=4∨w=5∨w=6∨w=7:=oo
 rcases this with rfl|rfl|rfl|rfl|rfl|rfl|rfl|rfl<;>exact⟨rfl,by decide⟩
theorem N2{w x y:Nat}(h:w<8): cellT w 1 x y=cellT (rep1 w) 1 x y∧rep1 w∈[0,3,5,7]:=by
 have:w=0∨w=1∨w=2∨w=3∨w=4∨w=5∨w=6∨w=7:=oo
 rcases this with rfl|rfl|rfl|rfl|rfl|rfl|rfl|rfl<;>exact⟨rfl,by decide⟩
def allT0:Bool:=[0,3,5].all fun w0=>(List.range 9).all fun f=>okL ([]++cellT w0 0 0 0) f && [0,3,5,7].all fun w1=>okL ([]++cellT w0 0 0 0++cellT w1 1 2 0) f
theorem gn:allT0=true:=by decide +kernel
theorem shF_9(F t i:Nat): shF (F%9) t i=shF F t i:=by
 have e:F/3=3*(F/9)+F%9/3:=oo
 unfold shF
 rw[e,Nat.mul_add,Nat.mul_left_comm]
 generalize t*(F/9)=u
 generalize t*(F%9/3)=v
 omega
theorem kz(c:CT)(F t:Nat): ∀i pl,plT c (F%9) t i pl=plT c F t i pl
 | 0,_=>rfl
 | i+1,pl=>by rw[plT,plT,kz c F t i pl,shF_9]
theorem ky(l:List CT)(F:Nat): ∀t,plW l (F%9) t=plW l F t
 | 0=>rfl
 | t+1=>by rw[plW,plW,ky l F t,kz]
theorem nT_9(c:CT)(F t:Nat)(pl:List (Nat×Nat)): nT c (F%9) t pl=nT c F t pl:=by unfold nT;simp only[kz,shF_9]
theorem trW_9(l:List CT)(F:Nat): ∀t,trW l (F%9) t=trW l F t
 | 0=>rfl
 | t+1=>by rw[trW,trW,trW_9 l F t,ky,nT_9]
theorem V4(c:List (Nat×Nat×Nat))(F G a:Nat): ∀b,(sdI c F a b).map (fun s=>(s.1,s.2.1,0))=(sdI c G a b).map (fun s=>(s.1,s.2.1,0))
 | 0=>rfl
 | b+1=>by rw[sdI,sdI,List.map_append,List.map_append,V4 c F G a b];split<;>rfl
theorem V2(b:List (Nat×Nat×Nat))(F G n:Nat): ∀a,(sdW b F n a).map (fun s=>(s.1,s.2.1,0))=(sdW b G n a).map (fun s=>(s.1,s.2.1,0))
 | 0=>rfl
 | a+1=>by rw[sdW,sdW,List.map_append,List.map_append,V2 b F G n a,V4 b F G]
theorem okL_9(l:List CT)(F:Nat)(h:okL l (F%9)=true): okL l F=true:=by
 unfold okL at h ⊢
 simp only[ky,trW_9] at h
 unfold okR at h ⊢
 rw[V2 _ (F%9) F] at h
 exact h
theorem kM(w:Nat→Nat)(hw:∀i,w i<8)(a F:Nat)(ha:a=1∨a=2): okL (Yb w a a) F=true:=by
 have h:=List.all_eq_true.1 gn (rep0 (w 0)) (IV (x:=0) (y:=0) (hw 0)).2
 have b:=List.all_eq_true.1 h (F%9) (List.mem_range.2 (Nat.mod_lt _ dd))
 rw[Bool.and_eq_true] at b
 refine okL_9 _ _ ?_
 rcases ha with rfl|rfl
 ·rw[show Yb w 1 1=[]++cellT (w 0) 0 0 0 from rfl,(IV (hw 0)).1]
  exact b.1
 ·rw[show Yb w 2 2=[]++cellT (w 0) 0 0 0++cellT (w 1) 1 2 0 from rfl,(IV (hw 0)).1,(N2 (hw 1)).1]
  exact List.all_eq_true.1 b.2 (rep1 (w 1)) (N2 (x:=0) (y:=0) (hw 1)).2
theorem V3{c:List (Nat×Nat×Nat)}{F a:Nat}{s:Nat×Nat×Nat}: ∀b,s∈sdI c F a b→s.1=a∧s.2.1<b∧s.2.2≤4
 | 0,h=>nomatch h
 | b+1,h=>by
  rw[sdI,List.mem_append] at h
  rcases h with h|h
  ·have:=V3 b h;omega
  ·split at h
   ·rw[List.mem_singleton] at h;subst h;exact⟨rfl,by simp,by simp only;omega⟩
   ·cases h
theorem O1{b:List (Nat×Nat×Nat)}{F n:Nat}{s:Nat×Nat×Nat}: ∀a,s∈sdW b F n a→s.1<a∧s.2.1<n∧s.2.2≤4
 | 0,h=>nomatch h
 | a+1,h=>by
  rw[sdW,List.mem_append] at h
  rcases h with h|h
  ·have:=O1 a h;omega
  ·have:=V3 n h;omega
def iW(m:M25): Int:=(mK m).1*(mK m).2.2.2-(mK m).2.1*(mK m).2.2.1
theorem Sp(m:M25): 0<iW m:=by
 unfold iW mK
 split
 ·decide
 ·next h =>
  split
  ·next a=>simp only[lg] at a ⊢;rw[Int.mul_neg,Int.mul_neg];omega
  ·next a=>simp only[lg] at h a ⊢;omega
theorem Nh{D:Nat}(a:1≤D)(z:Int×Int): ptZ D z=(((z.1:Int):Rat)/((D:Int):Rat),((z.2:Int):Rat)/((D:Int):Rat)):=by
 unfold ptZ ptv qvp qv
 rw[show max ((D:Nat):Int) 1=((D:Nat):Int) by omega]
def fK(m:M25)(D:Nat)(p:Nat×Nat): Pt:=ptZ D (mvP m p)
theorem tw_fK(m:M25){D:Nat}(a:1≤D)(p q r:Nat×Nat): twP (fK m D p) (fK m D q) (fK m D r)=((iW m:Int):Rat)/(((D:Int):Rat)*((D:Int):Rat))*((sgN p q r:Int):Rat):=by
 have b:((D:Int):Rat)≠0:=by
  intro h;have:(D:Int)=0:=by exact_mod_cast h
  omega
 unfold fK
 rw[Nh a,Nh a,Nh a]
 simp only[twP,crQ,Vh,mvP,sgN,iW,Rat.intCast_add,Rat.intCast_sub,Rat.intCast_mul]
 grind
theorem lq(m:M25){D:Nat}(b:1≤D): (0:Rat)<((iW m:Int):Rat)/(((D:Int):Rat)*((D:Int):Rat)):=by
 have h1:(0:Rat)<((D:Int):Rat):=by exact_mod_cast (show(0:Int)<(D:Int) by omega)
 have a:(0:Rat)<((iW m:Int):Rat):=by exact_mod_cast Sp m
 rw[Rat.div_def]
 exact Rat.mul_pos a (Rat.inv_pos.2 (Rat.mul_pos h1 h1))
theorem numP{q:Rat}: 0<q.num↔0<q:=by
 have h1:=Rat.num_nonneg (q:=q)
 have a:=Rat.num_eq_zero (q:=q)
 constructor
 ·intro h
  have b:q≠0:=fun e=>by rw[←a] at e;omega
  exact Rat.lt_of_le_of_ne (h1.1 oo) b.symm
 ·intro h
  have b:=h1.2 (Rat.le_of_lt h)
  have c:q.num≠0:=fun e=>by rw[a] at e;subst e;exact absurd h (Rat.lt_irrefl)
  omega
theorem U7(m:M25){D:Nat}(a:1≤D)(p q r:Nat×Nat): 0<twP (fK m D p) (fK m D q) (fK m D r)↔0<sgN p q r:=by
 rw[tw_fK m a]
 have hk:=lq m a
 generalize ((iW m:Int):Rat)/(((D:Int):Rat)*((D:Int):Rat))=k at hk
 constructor
 ·intro h
  refine Int.lt_of_not_ge fun c=>?_
  have b:((sgN p q r:Int):Rat)≤0:=by exact_mod_cast c
  have:=Rat.mul_le_mul_of_nonneg_left b (Rat.le_of_lt hk)
  rw[Rat.mul_zero] at this
  exact absurd h (Rat.not_lt.2 this)
 ·intro h
  exact Rat.mul_pos hk (by exact_mod_cast h)
theorem U9(m:M25){D:Nat}(b:1≤D)(p q r:Nat×Nat)(h:sgN p q r<0): twP (fK m D p) (fK m D q) (fK m D r)<0:=by
 have h1:twP (fK m D q) (fK m D p) (fK m D r) = - twP (fK m D p) (fK m D q) (fK m D r):=by simp only[twP,crQ,Vh];grind
 have c:sgN q p r = - sgN p q r:=by simp only[sgN];grind
 have a:=(U7 m b q p r).2 oo
 rw[h1] at a
 grind
theorem OZ(p q r:Nat×Nat): sgN q r p=sgN p q r:=by simp only[sgN];grind
theorem fK_inj(m:M25){D:Nat}(f:1≤D){p q:Nat×Nat}(h:fK m D p=fK m D q): p=q:=by
 have hd:=Sp m
 have l:((D:Int):Rat)≠0:=by
  intro h;have:(D:Int)=0:=by exact_mod_cast h
  omega
 have hc:∀x y:Int,((x:Int):Rat)/((D:Int):Rat)=((y:Int):Rat)/((D:Int):Rat)→x=y:=fun x y e=>by
  have:((x:Int):Rat)=((y:Int):Rat):=by grind
  exact_mod_cast this
 unfold fK at h
 rw[Nh f,Nh f,Prod.mk.injEq] at h
 have h1:=hc _ _ h.1
 have g:=hc _ _ h.2
 simp only[mvP] at h1 g
 unfold iW at hd
 generalize (mK m).1=a at *
 generalize (mK m).2.1=b at *
 generalize (mK m).2.2.1=c at *
 generalize (mK m).2.2.2=d at *
 have i:(a*d-b*c)*((p.1:Int)-q.1)=0:=by grind
 have k:(a*d-b*c)*((p.2:Int)-q.2)=0:=by grind
 rcases Int.mul_eq_zero.1 i with e|e
 ·omega
 ·rcases Int.mul_eq_zero.1 k with j|j
  ·omega
  ·exact Prod.ext oo oo
def msK(m:M25)(D F:Nat)(l:List CT): Ms:=⟨List.map (ptZ D) (List.map (mvP m) (plW l F l.length)),trW l F l.length,sdW (trW l F l.length) F (plW l F l.length).length (plW l F l.length).length⟩
theorem D6(m:M25)(D F:Nat)(l:List CT){i:Nat}(h:i<(plW l F l.length).length): pt (msK m D F l) i=fK m D ((plW l F l.length).getD i (0,0)):=by
 simp[pt,msK,fK,List.getD,h]
theorem Z1(m:M25){D F:Nat}(c:1≤D){l:List CT}{t s:Nat×Nat×Nat}(ht:D9 (plW l F l.length).length t=true)(hs:D9 (plW l F l.length).length s=true): mH (msK m D F l) t s=beyN (plW l F l.length) t s:=by
 obtain ⟨t1,t2,t3,_⟩:=Xz.1 ht
 obtain ⟨s1,s2,b,_⟩:=Xz.1 hs
 have hd:∀p q r:Nat×Nat,(!decide ((twP (fK m D p) (fK m D q) (fK m D r)).num.sign>0))=decide (sgN p q r≤0):=fun p q r=>by
  have h1:=U7 m c p q r
  have a:(twP (fK m D p) (fK m D q) (fK m D r)).num.sign>0↔0<sgN p q r:=by
   rw[←h1, ←numP]
   exact Int.sign_pos_iff
  rw[Bool.eq_iff_iff,Bool.not_eq_true',decide_eq_false_iff_not,decide_eq_true_iff,a]
  omega
 unfold mH Z2 nxP
 rw[D6 m D F l t1,D6 m D F l t2,D6 m D F l t3,D6 m D F l s1,D6 m D F l s2,D6 m D F l b]
 simp only[List.any_cons,List.any_nil,Bool.or_false,Bool.not_or,hd]
 simp[beyN,List.range_succ,sgT,cnP,crn,Bool.or_assoc]
theorem mok_v(m:M25){D F:Nat}(f:1≤D)(K:D≤6){l:List CT}(h:okL l F=true): MV 4 (msK m D F l)∧jo (msK m D F l).T∧0<(msK m D F l).S.length∧(msK m D F l).S.length≤300∧(∀s∈(msK m D F l).S,s.2.2≤4)∧(msK m D F l).T.length≤90∧(msK m D F l).P.length≤17∧(∀p∈plW l F l.length,p.1≤6∧p.2≤6)∧In6 l:=by
 simp only[okL,Bool.and_eq_true,decide_eq_true_iff] at h
 obtain ⟨⟨⟨⟨⟨⟨⟨G,B⟩,hR⟩,v⟩,I⟩,n⟩,r⟩,c⟩:=h
 simp only[List.all_eq_true,Bool.and_eq_true,decide_eq_true_iff] at c
 have x:=in6_of G
 simp only[okM,Bool.and_eq_true,decide_eq_true_iff,List.all_eq_true,List.mem_range,List.any_eq_true,Bool.or_eq_true] at B
 obtain ⟨⟨⟨⟨⟨m1,m2⟩,m3⟩,m4⟩,m5⟩,m6⟩:=B
 rw[okR,decide_eq_true_iff] at hR
 have w:0<(trW l F l.length).length:=by
  rw[okC,Bool.and_eq_true,decide_eq_true_iff] at v;exact v.1
 have H:(msK m D F l).S.length=(EO (trW l F l.length)).length:=by
  rw[hR,List.length_map];rfl
 have b:(msK m D F l).P.length=(plW l F l.length).length:=by simp[msK]
 have L:=Lc (trW l F l.length) F (plW l F l.length).length (plW l F l.length).length
 have E:(plW l F l.length).length*(plW l F l.length).length≤17*17:=Nat.mul_le_mul n n
 have o:∀t∈trW l F l.length,pt (msK m D F l) t.1=fK m D (cnP (plW l F l.length) t 0)∧pt (msK m D F l) t.2.1=fK m D (cnP (plW l F l.length) t 1)∧pt (msK m D F l) t.2.2=fK m D (cnP (plW l F l.length) t 2):=fun t ht=>by
  obtain ⟨t1,t2,t3,_⟩:=Xz.1 (m1 t ht)
  exact⟨D6 m D F l t1,D6 m D F l t2,D6 m D F l t3⟩
 refine⟨⟨?_,?_,?_,w,?_,?_,?_,?_,?_,?_,?_,?_,hR.symm⟩,mn v,oo,?_,fun s hs=>(O1 _ hs).2.2,r,oo,c,x⟩
 ·rw[b];exact m1
 ·intro t ht
  obtain ⟨y,z,u⟩:=o t ht
  rw[y,z,u]
  exact Int.sign_eq_one_of_pos (numP.2 ((U7 m f _ _ _).2 (m2 t ht)))
 ·intro s hs
  have:=O1 _ hs
  rw[b]
  exact⟨this.1,this.2.1,oo⟩
 ·intro p j
  simp only[msK,List.map_map,List.mem_map] at j
  obtain ⟨q,hq,rfl⟩:=j
  obtain ⟨q1,q2⟩:=c q hq
  obtain ⟨⟨M,a2⟩,a3,a4⟩:=iJ m q1 q2
  exact ptv_K ⟨⟨by simp only;omega,by simp only;omega,by simp only;omega,by simp only;omega⟩,by simp only;omega,by simp only;omega,by simp only;omega,by simp only;omega⟩
 ·omega
 ·exact Nat.le_trans r dd
 ·rw[show(msK m D F l).S=sdW (trW l F l.length) F (plW l F l.length).length (plW l F l.length).length from rfl];omega
 ·intro p j
  rw[b] at j
  exact m3 p j
 ·rw[show(msK m D F l).P=(plW l F l.length).map (fK m D) by rw[msK,List.map_map];rfl]
  rw[List.Nodup,List.pairwise_map]
  exact m4.imp fun A e=>A (fK_inj m f e)
 ·intro i k d C
  have a:i<(trW l F l.length).length:=C
  show(mH (msK m D F l) ((trW l F l.length).getD i (0,0,0)) ((trW l F l.length).getD k (0,0,0)) || mH (msK m D F l) ((trW l F l.length).getD k (0,0,0)) ((trW l F l.length).getD i (0,0,0)))=true
  rw[Z1 m f (m1 _ (getD_mem _ a)) (m1 _ (getD_mem _ (Nat.lt_trans d a))),Z1 m f (m1 _ (getD_mem _ (Nat.lt_trans d a))) (m1 _ (getD_mem _ a)),Bool.or_eq_true]
  exact m5 i a k d
 ·intro t ht q hq J
  obtain ⟨y,z,u⟩:=o t ht
  rw[b] at hq
  rw[y,z,u,D6 m D F l hq]
  rcases m6 t ht q hq with g|⟨i,C,g⟩
  ·rw[J] at g;cases g
  ·have:i=0∨i=1∨i=2:=oo
   rcases this with rfl|rfl|rfl
   ·exact .inr (.inr (U9 m f _ _ _ g))
   ·exact .inl (U9 m f _ _ _ (by rw[←OZ];exact g))
   ·refine .inr<|.inl<|U9 m f _ _ _ ?_
    rw[←OZ, ←OZ];exact g
 ·rw[show(msK m D F l).S=sdW (trW l F l.length) F (plW l F l.length).length (plW l F l.length).length from rfl];omega
theorem WV(x:Pn)(hm:QE x.M)(g:U8 x.M.nx)(hf:U8 x.M.first)(hd:U8 x.M.den): ∃m,MOk (Vi x).M m∧m.T.length≤90∧m.P.length≤1000:=by
 obtain ⟨o,v⟩:=g
 obtain ⟨f1,f2⟩:=hf
 obtain ⟨d1,d2⟩:=hd
 obtain ⟨F,k⟩:∃F:Nat,x.M.first=((F:Nat):Int):=⟨_,(Int.toNat_of_nonneg f1).symm⟩
 obtain ⟨b,h⟩:∃F:Nat,x.M.den=((F:Nat):Int):=⟨_,(Int.toNat_of_nonneg d1).symm⟩
 have ht:x.M.nx.tmod 2=0∨x.M.nx.tmod 2=1:=by rw[Int.tmod_eq_emod_of_nonneg o];omega
 have q:QE (Vi x).M:=⟨hm.m0,hm.m1,hm.m2,hm.m3,hm.den,hm.cells,hm.n⟩
 obtain ⟨nx,hx,u⟩:∃nx:Nat,(Vi x).M.nx=((nx:Nat):Int)∧nx≤1:=by
  rcases ht with e|e
  ·exact⟨0,e,by decide⟩
  ·exact⟨1,e,by decide⟩
 have ha:1+nx%3=1∨1+nx%3=2:=oo
 have hk:=kM (BN (Vi x).M.cells) (way_lt _) (1+nx%3) F ha
 generalize hl:Yb (BN (Vi x).M.cells) (1+nx%3) (1+nx%3)=l at hk
 obtain ⟨hv,hc,c,i,f,hT,s,a,r⟩:=mok_v (Vi x).M (D:=1+b%6) oo oo hk
 refine⟨msK (Vi x).M (1+b%6) F l,⟨hv,hc,c,i,f,fun d t=>?_⟩,hT,Nat.le_trans s dd⟩
 exact nC (Vi x).M d t nx 0 F b hx I k h oo dd oo oo q l (by rw[←hl];congr 1;omega) r _ I _ I
  (fun z hz=>by
   obtain ⟨p,j,rfl⟩:=List.mem_map.1 hz
   exact iJ _ (a p j).1 (a p j).2)
  (by have:(msK (Vi x).M (1+b%6) F l).P.length=(plW l F l.length).length:=(by simp[msK]);omega)
end
end Go.Proofs.YtejhdcohoggojaaGreatDoor
