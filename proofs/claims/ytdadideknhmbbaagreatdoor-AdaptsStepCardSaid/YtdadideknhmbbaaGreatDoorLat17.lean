/- Walks of functions. By an AI agent. -/
import Derived.Test.YtdadideknhmbbaaGreatDoorBis6
set_option linter.unusedVariables false
set_option linter.unusedSimpArgs false
set_option maxRecDepth 4000
set_option maxHeartbeats 8000000
namespace Go.Proofs.YtdadideknhmbbaaGreatDoor
open Go Go.Proofs Go.Fx Tryz
attribute [local irreducible] Oper.wp Code.wp wpList Fx.Head wpOp
variable{j5 b4 b6 c8 j7 b8 e0 c3 k7 b3 b5 j9 e2 k4 c5 j4 k6 c7 j6 b7 c9 j8 b9 e1 k3 c4 e3 k5 c6:Value}{e4:List Rat}{i6 H:Nat×Nat×Nat}{j2:List ((Nat×Nat)×Nat)}{T Z:List (Nat×Nat×Nat)}{n5 G:List (Nat×Nat)}{e8 o3 O j3:Nat×Nat}{o0 w C Y n9 Q r b0:Nat}{a8:Rat}{e9:Pr}{o2:Type}(l5 l6 l7 l8:Pt)(i7 j0 j1:Bool)(h5 h6 h7 l2 l3:Value)(h2:Nat->Nat)(W:Nat)(a6:Ms)(e5:List Rat)(k8:Pr)(l4:Pn)(F P h:Option Addr)(m:M25)(b2:List (Nat×Nat×Nat))(z:Nat)(h3:List (Nat×Nat))(o K:Nat)(h0:World)(h8:TypeId)(h9:Array Bool)(U:List Nat)(a7:Option Addr)(V e6 e7:Nat)(a1:List ((Nat×Nat)×Nat))(i1 o1:List (Nat×Nat×Nat))(b1:Nat×Nat×Nat)(J L X h4:Nat×Nat)
abbrev cutC(m:Ms)(l:List Nat): List Ed:=Yq m.T (NS m.T l)
def Gr(m:Ms)(l:List Nat): Ms:=K8 m (cutC m l) (allT (Xq (cutC m l) m.P.length (cutC m l).length) m.T m.T.length)
def B2(m:Ms)(l:List Nat): List Nat:=K5 (Xq (cutC m l) m.P.length (cutC m l).length) m.T m.T.length
theorem UZ(f h:Option Addr)(z o K:Nat)(U:List Nat)(a7:Option Addr)(V:Nat)(hv:MV W a6)(hK:W<=1000)(hl:∀k∈U,k<a6.T.length)(hn:U.length<=10000)(hT:a6.T.length<=100)(hP:a6.P.length<=1000): Ctr prog 10 [Qm a6 F f h z o K,.slice a7 U.length V] [Row F (cellsOf encPt a6.P),Row f (cellsOf Ze a6.T),Row h (cellsOf Ze a6.S),Row a7 (List.map Qb U)] (λv Ψ => ∃(X a2 a3 a4:Option Addr),v=.tuple #[Qm (Gr a6 U) X a2 a3 (Gr a6 U).P.length (Gr a6 U).T.length (Gr a6 U).S.length,.slice a4 (B2 a6 U).length (B2 a6 U).length,.int .i64 0]/\Ψ=[Row X (cellsOf encPt (Gr a6 U).P),Row a2 (cellsOf Ze (Gr a6 U).T),Row a3 (cellsOf Ze (Gr a6 U).S),Row a4 (List.map Qb (B2 a6 U))]):=by
 have e7:=hv.nS;have c9:=hv.neP;have e5:=hv.ne;refine fnI func10 I ntmps10 λS w0 hS=>zS (zx I λA=>?_);intro a w c;replace c:=c.shareAll hS ((Value.cells (Qm a6 F f h z o K)).toList) I;refine gL c (zz zeroValue38 λe=>zz zeroValue61 λH=>au 0x31125 ?_);refine zD (b:=A) (off:=0) (j:=0) (M:=(Value.cells<|Qm a6 F f h z o K).toList) (v:=Qm a6 F f h z o K) I mm (gM _) isAgg38 sizeOf38 I (.inl I) ?_;clear c;intro a w c;refine Zc<|Qu c (vs:=[_]) I call46 (Cy W a6 _ _ _ _ _ _ hv) (by exact hsA) dd ?_;clear c;intro a w c;refine gL c<|au 0x4a1f ?_;refine zq 18 I I (.move I)<|zq 18 I I (.makeFunc [] [_] I I) ?_;clear c;intro a w c;refine Zq 18 c I I<|Qu c (vs:=[_,_]) I call47 (ta a6 _ _ _ _ _ _ U _ _ A 0 oo hl oo) (by exact hsA) dd ?_;clear c;intro a w c;refine gL c<|au 0x17c22e ?_;refine yE [0,1,2,3,4,5] ?_;clear c;refine Zf (b:=A) (off:=0) (j:=0) (M:=(Value.cells<|Qm a6 F f h z o K).toList) (v:=Qm a6 F f h z o K) I kk I mm (gM _) isAgg38 sizeOf38 I (.inl I) dd ?_;refine Zf (b:=A) (off:=0) (j:=0) (M:=(Value.cells<|Qm a6 F f h z o K).toList) (v:=Qm a6 F f h z o K) I kk I mm (gM _) isAgg38 sizeOf38 I (.inl I) dd ?_;refine au 0x9 ?_;refine Zu I kk (vs:=[_,_]) I call50 (ctrO_M<|ft a6 _ _ _ _ _ _ U _ _ hl hn hv.ne oo) (by exact hsA) dd ?_;rintro e8 c5 ⟨mq,q,⟨hq,c4⟩,rfl,rfl⟩;refine Zu I kk (vs:=[_,_]) I call49 (fy W a6 _ _ _ _ _ _ hv mq q) (by exact hsA) dd ?_;rintro v28 e4 ⟨aC,rfl,rfl⟩;refine au 0x31a4e ?_;intro a w c;have e9:=Wx a6.T q;refine Zc<|EM Zx Qb c dd ?_;clear c;intro n a w c;refine gL c (zz zeroValue128 λJ=>stW I I Gt ?_);refine au 0x82423f43112 ?_;clear c;intro a w c;refine lpG c [2,4,5,6,7,8,30,31] pkL (λY Z (i:Nat) a w=>i<=(Yq a6.T q).length/\St 82 S w0 ((32,nI i)::Y) [(J,bV (.map<|some n) 128),(n,mB Zx Qb<|Xq (Yq a6.T q) a6.P.length i),(H,bV ((.slice none 0 0)) 61),(e,bV (.agg #[.slice none 0 0,.slice none 0 0,.slice none 0 0]) 38)] Z a w) (λi=>(Yq a6.T q).length-i) 0 (⟨cX _,by exact(c).sub sA⟩) ?_;clear c;rintro i a w ⟨e1,c⟩;refine gC c<|au 0x12d31 ?_;intro a w c;refine Zb c I (λr=>?_) (λr=>?_)
 ·have b3:i<(Yq a6.T q).length:=dT r;obtain ⟨c6,c8,rfl⟩:=c.row_addr (ad:=aC) (M:=cellsOf Qr (Yq a6.T q)) mm (nE 4);refine gC c<|au 0x27f431817 ?_;refine zD I mm (cells_lt (k:=4) dd (λ_=>rfl) (Yq a6.T q) i oo) isAgg114 sizeOf114 (Zh (k:=4) (λ_=>rfl) ((λ_=>rfl)) (Yq a6.T q) ed0 i oo) (.inl I) ?_;refine zz BK λb0=>za I<|stW I I Yc ?_;refine au 0x44fb7f63f36ff5f32 ?_;refine zp (.build [(_,_),(_,_)] I<|HF _ _)<|au 0x82f ?_;refine zD (b:=A) (off:=0) (j:=0) (M:=(Value.cells<|Qm a6 F f h z o K).toList) (v:=.slice F a6.P.length z) I mm nb isAgg34 sizeOf34 I (.inr I) ?_;refine au 0x421f ?_;refine zp (.pN (a6.P.length+i)<|.add I I) ?_;clear c;intro a w c;refine Zc<|HY c OV (u:=(((Yq a6.T q).getD i ed0).a,((Yq a6.T q).getD i ed0).b)) (q:=a6.P.length+i) (m:=Xq (Yq a6.T q) a6.P.length i) I I I uu ?_;clear c;intro a w c;replace c:=c.same I (show _=[(b0,bV (Qr ((Yq a6.T q).getD i ed0)) 114),(J,bV (.map (some n)) 128),(n,mB Zx Qb (Xq (Yq a6.T q) a6.P.length (i+1))),(H,bV ((.slice none 0 0)) 61),(e,bV (.agg #[.slice none 0 0,.slice none 0 0,.slice none 0 0]) 38)] from I) I;refine gL c<|zn<|zr<|zp (.pN (i+1)<|.add I I)<|au 0x24 ?_;clear c;intro a w c;exact⟨i+1,⟨oo,tO c⟩,oo⟩
 have m:(Yq a6.T q).length=i:=dF r;subst m;refine gC c<|ze<|zS (zz zeroValue35 λa1=>zn<|zS (zz zeroValue132 λB=>zn<|zS<|zp (.makeFunc [] [_,_,_,_] I I)<|stW I I Gt ?_));refine au 0x31f3112 ?_;refine zD (b:=A) (off:=0) (j:=1) (M:=(Value.cells<|Qm a6 F f h z o K).toList) (v:=.slice f a6.T.length o) I mm nb isAgg35 sizeOf35 I (.inr I) ?_;refine au 0x824a0f ?_;clear c;intro a w c;refine lpG c [2,4,5,6,7,8,11,12,30,31,32,51,52] pkL (λY Z (t:Nat) a w=>t<=a6.T.length /\ ∃(aW O:Option Addr) (cW g:Nat) (R d:List (Nat×Obj)),(GrowO 3 133 (.slice aW (allT (Xq (Yq a6.T q) a6.P.length (Yq a6.T q).length) a6.T t).length cW) (allT (Xq (Yq a6.T q) a6.P.length (Yq a6.T q).length) a6.T t).length (cellsOf Ze<|allT (Xq (Yq a6.T q) a6.P.length (Yq a6.T q).length) a6.T t) R/\GrowO 1 3 (.slice O (K5 (Xq (Yq a6.T q) a6.P.length (Yq a6.T q).length) a6.T t).length g) (K5 (Xq (Yq a6.T q) a6.P.length (Yq a6.T q).length) a6.T t).length (List.map Qb<|K5 (Xq (Yq a6.T q) a6.P.length (Yq a6.T q).length) a6.T t) d)/\St 82 S w0 ((53,nI t)::Y) (R++(d++((a1,bV ((.slice aW (allT (Xq (Yq a6.T q) a6.P.length (Yq a6.T q).length) a6.T t).length cW)) 35)::((H,bV ((.slice O (K5 (Xq (Yq a6.T q) a6.P.length (Yq a6.T q).length) a6.T t).length g)) 61)::((B,bV (.func (.func 51) #[] #[.pointer (some ⟨J,0,none⟩),.pointer (some ⟨a1,0,none⟩),.pointer (some ⟨H,0,none⟩),.pointer (some ⟨B,0,none⟩)]) 132)::((J,bV (.map<|some n) 128)::((n,mB Zx Qb<|Xq (Yq a6.T q) a6.P.length ((Yq a6.T q).length))::((e,bV (.agg #[.slice none 0 0,.slice none 0 0,.slice none 0 0]) 38)::[])))))))) Z a w) (λt=>a6.T.length-t) 0 (⟨cX _,none,none,0,0,[],[],⟨GrowO.nil _ _,GrowO.nil _ _⟩,by exact(c.perm (List.Perm.trans (BH<|cr _)<|List.Perm.cons _<|List.Perm.trans (BH<|BH<|BH<|cr _)<|List.Perm.cons _<|cr _).symm).sub sA⟩) ?_;clear c;rintro t a w ⟨e3,aW,O,cW,g,R,d,⟨L,E⟩,c⟩;refine gC c<|au 0x12d31 ?_;intro a w c;refine Zb c I (λy=>?_) (λy=>?_)
 ·have b1:t<a6.T.length:=dT y;obtain ⟨s,x,rfl⟩:=c.row_addr (ad:=f) (M:=cellsOf Ze a6.T) mm (nE 3);refine gC c<|au 0x62f431817 ?_;refine zD I mm (cells_lt (k:=3) dd (λ_=>rfl) a6.T t oo) isAgg133 sizeOf133 (Zh (k:=3) (λ_=>rfl) ((λ_=>rfl)) a6.T (0,0,0) t oo) (.inl I) ?_;refine zz Bj λp=>za I<|stW I I Qi ?_;refine au 0x4def5f32 ?_;clear c;intro a w c;refine Zc<|FH c hS (fs:=[]) (cs:=[.pointer (some ⟨J,0,none⟩),.pointer (some ⟨a1,0,none⟩),.pointer (some ⟨H,0,none⟩),.pointer (some ⟨B,0,none⟩)]) I (vs:=[_,_,_]) I call51 (Pk (Xq (Yq a6.T q) a6.P.length (Yq a6.T q).length) J a1 H B n 2 dd (a6.T.getD t (0,0,0)) t (allT (Xq (Yq a6.T q) a6.P.length (Yq a6.T q).length) a6.T t) (K5 (Xq (Yq a6.T q) a6.P.length (Yq a6.T q).length) a6.T t) _ _ _ _ R d ([(p,bV (Ze<|a6.T.getD t (0,0,0)) 133),(e,bV (.agg #[.slice none 0 0,.slice none 0 0,.slice none 0 0]) 38)]) [Row aC (cellsOf Qr<|Yq a6.T q),ObjR mq (mB Zx Qb q),Row (some ⟨A,0,none⟩) ((Value.cells<|Qm a6 F (some ⟨s,x,none⟩) h z o K).toList),Row F (cellsOf encPt a6.P),Row (some ⟨s,x,none⟩) (cellsOf Ze a6.T),Row h (cellsOf Ze a6.S),Row a7 (List.map Qb U)] (by have:=GT (Xq (Yq a6.T q) a6.P.length (Yq a6.T q).length) a6.T t;omega) (by have:=TB (Xq (Yq a6.T q) a6.P.length (Yq a6.T q).length) a6.T t;omega) L E) (((List.Perm.trans (ZH<|cr _)<|s8 _<|List.Perm.trans (ZH<|cr _)<|s8 _<|List.Perm.trans (BH<|cr _)<|List.Perm.cons _<|List.Perm.trans (BH<|cr _)<|List.Perm.cons _<|List.Perm.trans (BH<|cr _)<|List.Perm.cons _<|List.Perm.trans (BH<|cr _)<|List.Perm.cons _<|List.Perm.trans (BH<|cr _)<|List.Perm.cons _<|cr _))) ss ss ?_;clear c;rintro h0 c7 e2 a w ⟨b9,l,c3,a8,b6,b7,Q,N,rfl,rfl⟩ c;refine gL c<|zn<|zr<|zp (.pN (t+1)<|.add I I)<|au 0x24 ?_;clear c;intro a w c;exact⟨t+1,⟨oo,b9,l,c3,a8,b6,b7,⟨Q,N⟩,by exact tO c⟩,oo⟩
 have G:a6.T.length=t:=dF y;subst G;replace c:=c.shareO' hS L;replace c:=c.shareO' hS E;refine wp_exit<|wp_seq<|wp_seq<|wp_region_lit ?_;have e6:=GT (Xq (Yq a6.T q) a6.P.length (Yq a6.T q).length) a6.T a6.T.length;refine gL c<|au 0x82f ?_;refine zD (b:=A) (off:=0) (j:=0) (M:=(Value.cells<|Qm a6 F f h z o K).toList) (v:=.slice F a6.P.length z) I mm nb isAgg34 sizeOf34 I (.inr I) ?_;refine au 0x23f421f ?_;refine zp (.pN (a6.P.length+((Yq a6.T q).length))<|.add I I)<|zp (.gtr I I) (bbF (λD=>(by exfalso;have:=of_decide_eq_true D;omega)) λD=>zm I<|ldQ 70 AK ?_);refine zq 70 I I (.builtin [_] I<|Yf _ _ _)<|zq 70 I I (.gtr I I) (bbF (λC=>(by exfalso;have:=of_decide_eq_true C;omega)) λC=>au 0x17c22e ?_);refine yE [0,1,2,4,3,5,6,7,8] ?_;clear c;refine Zf (b:=A) (off:=0) (j:=0) (M:=(Value.cells<|Qm a6 F f h z o K).toList) (v:=Qm a6 F f h z o K) I kk I mm (gM _) isAgg38 sizeOf38 I (.inl I) dd ?_;refine au 0x9 ?_;refine ldY AK ?_;refine ldY AK ?_;refine Zu I kk (vs:=[_,_,_]) I call53 (lT W a6 _ _ _ _ _ _ (Yq a6.T q) _ _ (allT (Xq (Yq a6.T q) a6.P.length (Yq a6.T q).length) a6.T a6.T.length) _ _ hv hK (qX hv.num q) oo (UJ hv.num a6.T.length<|aZ _) (kY _ _ hv.ne) oo) (by exact hsA) dd ?_;rintro v79 e0 ⟨X,a2,a3,rfl,rfl⟩;refine yv [_] I I call43 (UY O _ g<|Kj E)<|stV I I I Qi ?_;refine stV I I I Gt ?_;refine au 0x6a4e ?_;intro a w c;refine Qj (Ψ:=[Row X (cellsOf encPt (K8 a6 (Yq a6.T q)<|allT (Xq (Yq a6.T q) a6.P.length (Yq a6.T q).length) a6.T a6.T.length).P),Row a2 (cellsOf Ze (K8 a6 (Yq a6.T q)<|allT (Xq (Yq a6.T q) a6.P.length (Yq a6.T q).length) a6.T a6.T.length).T),Row a3 (cellsOf Ze (K8 a6 (Yq a6.T q)<|allT (Xq (Yq a6.T q) a6.P.length (Yq a6.T q).length) a6.T a6.T.length).S),Row O (List.map Qb<|K5 (Xq (Yq a6.T q) a6.P.length (Yq a6.T q).length) a6.T a6.T.length)]) c (BM c I (rC Jj) (rC AK)<|.tmp I) ?_ ss;subst c4;exact⟨_,_,_,_,rfl,rfl⟩
theorem X4: Zp #[b3,b4,b5,b6,b7,b8,b9,c3,c4,c5,c6,c7,c8,c9,e0,e1,e2,e3,j4,j5,j6,j7,j8,j9,k3,k4] 0 [k5,k6,k7]=#[k5,k6,k7,b6,b7,b8,b9,c3,c4,c5,c6,c7,c8,c9,e0,e1,e2,e3,j4,j5,j6,j7,j8,j9,k3,k4]:=by kernel_rfl
theorem FM: ∀k∈Qw e4 a8,k<e4.length:=by
 intro k hk;unfold Qw at hk;split at hk
 ·exact List.mem_range.1 (List.mem_filter.1 hk).1
 cases hk
theorem I4(t:Rat): (Qw e5 t).length<=e5.length:=by
 unfold Qw;split
 ·exact bp (nk _ _) (by rw[pr];exact aZ _)
 exact cX _
theorem LI(hv:Do a8=true)(a:∀x∈e4,0<=x): EY e4 a8=0:=by
 unfold EY;rw[hv,if_pos];rw[vg,oV,vd];intro x hx h;have:=of_decide_eq_true h;have b:=a x hx;have c:0<=x.num:=Rat.num_nonneg.2 b;have:=Int.sign_nonneg_iff.2 c;omega
def Xu(p:Pr)(V:List Rat)(t:Rat): Pr:={ p with m:=Gr p.m (Qw (Gh p V) t) }
theorem lL(g h k9:Option Addr)(z K C V:Nat)(i:List Rat)(E:Option Addr)(D:Nat)(t:Rat)(u:EsV k8 i)(ht:Zr t<=1000)(hq:Do t=true)(hT:k8.m.T.length<=90)(Y:k8.m.P.length<=1000)(Q:0<k8.G.length): Ctr prog 6 [Xv k8 F g h k9 z K C V,Hv k8.m k8.o i F g h z K C E D,Qa t] [Row F (cellsOf encPt k8.m.P),Row g (cellsOf Ze k8.m.T),Row h (cellsOf Ze k8.m.S),Row k8.f.a (cellsOf Zy k8.f.l),Row k9 (cellsOf Jo k8.G),Vr (Je k8.G),Row E (cellsOf Qa i),SideF] (λv Ψ => ∃(s a2 a3 a4 a5:Option Addr),v=.tuple #[Xv (Xu k8 i t) s a2 a3 a5 (Xu k8 i t).m.P.length (Xu k8 i t).m.T.length (Xu k8 i t).m.S.length k8.G.length,.slice a4 (B2 k8.m (Qw (Gh k8 i) t)).length (B2 k8.m (Qw (Gh k8 i) t)).length,.int .i64 0]/\Ψ=[Row s (cellsOf encPt (Xu k8 i t).m.P),Row a2 (cellsOf Ze (Xu k8 i t).m.T),Row a3 (cellsOf Ze (Xu k8 i t).m.S),Row a4 (List.map Qb (B2 k8.m (Qw (Gh k8 i) t))),Row a5 (cellsOf Jo k8.G)]):=by
 have N:=u.pv.G.n;refine fn_intro func6 I ntmps6 nb ?_;intro S w0 a hS d;obtain ⟨q,e,rfl⟩:=d.row_addr (ad:=k9) (M:=cellsOf Jo k8.G) mm (nE 5);refine gC d<|zS (zx I λb3=>zx I λb4=>zx I λZ=>zz zeroValue53 λb6=>au 0x6e311255 ?_);refine zv [_] I call22 (eN t oo) (bbT (λb=>(by exfalso;rw[hq] at b;cases b)) λb=>au 0x6e11f317c2a1f ?_);refine zF [_,_] call8 (nJ k8 _ _ _ _ _ _ _ _ i _ D u) ?_;rintro W B ⟨O,R,⟨hO,y⟩,rfl,rfl⟩;refine au 0x6e4317c2d0f4311255bb4 ?_;refine zF [_,_] call9 (D8 O R _ t (Qw O t) _ 0 I (LI b (λx hx=>(hO.2 x hx).1)) I (λx hx=>(hO.2 x hx).2) ht (by have:=hO.1;omega)) ?_;rintro X H ⟨aM,rfl,rfl⟩;refine au 0x458f43f317c2d0f4311255bb4 ?_;refine zF [_,_] call10 (UZ 4 k8.m _ _ _ _ _ _ (Qw O t) _ _ u.pv.m dd (λk hk=>by have:=FM k hk;have:=hO.1;omega) (by have:=I4 O t;have:=hO.1;omega) oo Y) ?_;rintro v40 p ⟨s,a2,a3,a4,rfl,rfl⟩;refine au 0xbbb4 ?_;refine zz zeroValue38 λL=>stW I I Qi ?_;refine au 0x17c2d0f4311255 ?_;refine yE [0,1,2,5,3,4,6,7,8]<|au 0x54f ?_;clear d;refine yp I (.fA I JS)<|ldY It ?_;refine yp I (.fA I E6) ?_;refine Zu I kk (vs:=[_]) I call24 (Pz<|fS q e _ k8.G oo) (by exact hsA) dd ?_;rintro v51 J ⟨c,j,rfl,r,rfl⟩;refine yv [_] I I call23 (UW c _ j r)<|stV I I I X4 ?_;refine yp I (.fA I JS)<|stV I I I Ef ?_;refine au 0x411f31a ?_;refine stW I I Jb ?_;refine au 0x6255 ?_;intro a w d;refine Qj (Ψ:=[Row s (cellsOf encPt (Gr k8.m<|Qw O t).P),Row a2 (cellsOf Ze (Gr k8.m<|Qw O t).T),Row a3 (cellsOf Ze (Gr k8.m<|Qw O t).S),Row a4 (List.map Qb<|B2 k8.m<|Qw O t),Row c (cellsOf Jo k8.G)]) d (BM d I (rC Xl) (.tmp I)<|.tmp I) ?_ ss;subst y;exact⟨s,a2,a3,a4,c,rfl,rfl⟩
theorem pV(h:0<T.length): 0<(mkU T).length:=by
 have hm:=getD_mem T (d:=(0,0,0)) h;have a:(T.getD 0 (0,0,0)).2.2∈mkU T:=by
  unfold mkU;exact J5 (by rw[vJ];exact List.mem_map.2 ⟨_,hm,rfl⟩)
 exact te a
theorem esv_of{x:Pn}{m:Ms}{C:List Nat}(hx:UN x)(q:∀t∈x.u,OkT t)(hd:w<=4)(h:PrM 4 m (K2 x) ((stA x*stA x:Int):Rat) ((stA x*stB x:Int):Rat) ((stB x*stB x+stG x*stG x:Int):Rat) (((x.c.tmod 4:Int):Rat)/((2:Int):Rat)) (exL x w) C e9)(B:Cr e9=true)(F:e4.length=LZ e9.m e9.o)(D:∀v∈e4,Zr v<=4): EsV e9 e4:=by
 obtain ⟨A,z,j,a,b⟩:=dD (YB hx) (YA x) (X9 hx);have hu:Pq 4 31 (exL x w):=(qO q oo).mono hd (aZ _);refine⟨h.v,B,F,D,?_,?_,?_,?_,?_,?_⟩
 ·rw[h.f];exact(Q0 hu dd j a b (Iw hx).1).mono (aZ _) dd
 ·intro g E;obtain ⟨i,H,rfl⟩:=List.mem_iff_getElem.1 E;have h1:=h.g.2 i (by rw[<-h.g.1];exact H);rw[show e9.G.getD i gv0=e9.G[i] from by simp[List.getD,H]] at h1;have k:Pq 4 1000 (Vk ((stA x*stA x:Int):Rat) ((stA x*stB x:Int):Rat) (exL x w)):=(BZ hu dd j a).mono (aZ _) dd;have n:Pq 4 1000 (Vk ((stA x*stB x:Int):Rat) ((stB x*stB x+stG x*stG x:Int):Rat) (exL x w)):=(BZ hu dd a b).mono (aZ _) dd;have s:Pq 4 1000 e9.G[i].x.l:=by
   rcases h1.x with e|e
   ·rw[e];exact Df 4 999
   rw[e];exact k
  have r:Pq 4 1000 e9.G[i].y.l:=by
   rcases h1.y with e|e
   ·rw[e];exact Df 4 999
   rw[e];exact n
  exact⟨s,r⟩
 ·rw[h.q0];exact j
 ·rw[h.q1];exact a
 ·rw[h.q2];exact b
 rw[h.qc];exact(Iw hx).1
theorem qH: RN (Instr.fieldAt 33 (.pointer (some ⟨w,Q,none⟩)) 0) (.pointer (some ⟨w,Q+0,none⟩)):=λh=>by
 simp[go_sem]
theorem VS: Zm true 16 #[b3,b4,b5,b6,b7,b8,b9,c3,c4,c5,c6,c7,c8,c9,e0,e1,e2,e3] 0=some (.agg #[b3,b4,b5,b6,b7,b8,b9,c3,c4,c5,c6,c7,c8,c9,e0,e1]):=rfl
theorem qG: RN (Instr.fieldAt 33 (.pointer (some ⟨w,Q,none⟩)) 1) (.pointer (some ⟨w,Q+16,none⟩)):=λh=>by
 simp[go_sem]
theorem ig: Zm false 1 #[b3,b4,b5,b6,b7,b8,b9,c3,c4,c5,c6,c7,c8,c9,e0,e1,e2,e3] 16=some e2:=rfl
theorem eB(d:Int): RN (Instr.build 57 [(0,.agg #[h5,h6,h7]),(1,.int .i64 d)].toArray) (.agg #[h5,h6,h7,.int .i64 d,.slice none 0 0]):=λw=>by simp[go_sem]
theorem No: RN (Instr.fieldAt 33 (.pointer (some ⟨w,Q,none⟩)) 2) (.pointer (some ⟨w,Q+17,none⟩)):=λh=>by
 simp[go_sem]
theorem Iv: Zm false 1 #[b3,b4,b5,b6,b7,b8,b9,c3,c4,c5,c6,c7,c8,c9,e0,e1,e2,e3] 17=some e3:=rfl
theorem DF: (Go.builtin .len #[31] h8 h9 #[.slice F z o]).run prog h0=.ok (.value (.int .i64 z)) h0:=by
 simp[go_sem]
theorem ix_31(h:V<o): RN (Instr.indexAt 31 (.slice (some ⟨W,z,none⟩) o K) (.int .i64 (V:Int))) (.pointer (some ⟨W,z+V*2,none⟩)):=λw=>by
 simpa using Qf runUnderlying31 sizeOf91 W z o K V h w
theorem PM: (Instr.buildSlice 55 1 [(0,.agg #[h5,h6,h7,l2,l3])].toArray).run prog h0=.ok (.slice (some ⟨h0.heap.size,0,none⟩) 1 1) (h0.alloc (.cells #[h5,h6,h7,l2,l3] 47 (0,0))):=by
 simp[go_sem]
theorem lK(N:Option Addr)(z cU K:Nat)(v:List (Int×Int))(x:Option Addr)(cV n:Nat)(m:Ms)(hx:UN l4)(hM:MOk l4.M m)(a6:∀t∈l4.u,OkT t)(hc:l4.u.length<=cU)(hf:l4.fixed=((n:Nat):Int))(hn:n<=255)(hv:∀q∈v,OkQ q)(c8:v.length<=9223372036854775807): Ctr prog 4 [.agg ((Value.cells (Dj l4 F N z cU))++(Value.cells (.int .u8 (((K:Nat):Int))))++(Value.cells (.slice x v.length cV)))] [Row F (List.map BJ l4.M.cells),Row N (cellsOf E9 l4.u),Row x (cellsOf Pu v)] (λr Ψ => ∃p y j c C J U Q cG V aV cV,EsV p V/\p.m=m/\0<p.G.length/\r=.tuple #[Xv p y j c C J U Q cG,Hv p.m p.o V y j c J U Q aV cV,.bool true]/\Ψ=[Row y (cellsOf encPt p.m.P),Row j (cellsOf Ze p.m.T),Row c (cellsOf Ze p.m.S),Row p.f.a (cellsOf Zy p.f.l),Row C (cellsOf Jo p.G),Vr (Je p.G),Row aV (cellsOf Qa V)]):=by
 refine fnI func4 I ntmps4 λS w0 hS=>zS (zx I λb1=>zz zeroValue53 λb2=>zz zeroValue57 λb3=>au 0x2bf3125 ?_);refine ldZ VS ?_;refine zp (.fA I qG)<|ldZ ig ?_;refine zp (aq (v':=.int .u8 ((K%5:Nat):Int)) (.binOp I I (λ_=>Yx _ _ _ _ _ dd)) (by rw[show(5:Int)=((5:Nat):Int) from I,Yw]))<|au 0x7bf ?_;refine zF [_,_] call16 (C_pnOf l4 _ _ _ cU (K%5) n m hx hM a6 oo hc hf hn) ?_;rintro c9 c5 ⟨p,fx,y,j,c,C,J,U,Q,cG,A,hh,rfl,rfl⟩;refine au 0xbb4 ?_;refine zz zeroValue53 λb5=>stW I I Jb ?_;refine au 0x58f43f317c2d0f431125 ?_;refine zp (.fA I E5)<|au 0x6bf ?_;refine zp (.build [(_,_),(_,_)] I<|eB _ _ _ _) (zz zeroValue57 λb7=>zt' I I Zl uu sizeOf57 I nb (by show((flat (.slice y p.m.P.length J) && (flat (.slice j p.m.T.length U) && (flat (.slice c p.m.S.length Q) && (flat (.int .i64 ((p.o:Nat):Int)) && (flat (.slice none 0 0) && true))))))=true;simp only[GrowO.flat ((GrowO.nil 5 47))];rfl) ?_);refine zn<|zS<|zp (.fA I Nl)<|au 0x34f ?_;refine zp (.fA I Nk)<|ldZ Dt ?_;refine zF [_,_] call17 (fp 4 p.m _ _ _ _ _ _ p.o A.v.o A.v.m dd) ?_;rintro e4 c4 ⟨Ts,aT,aA,aE,nA,X,e2,rfl,rfl⟩;have e1:LZ p.m p.o<=100000:=by have:=A.v.m.nP;have:=A.v.m.nT;have:=Kh p.m.T;unfold LZ;split<;>omega
 refine au 0xbb4 ?_;refine zz zeroValue86 λb8=>stW I I Zl ?_;refine au 0x82531125 ?_;intro a w h;refine lpG h [1,2,3,4,5,7,8] pkL (λY Z (i:Nat) a w => ∃(W:List Rat) (aW:Option Addr) (H:Nat) (oW:List (Nat×Obj)),(i<=LZ p.m p.o/\W.length=i/\(∀e7∈W,Zr e7<=4)/\GrowO 5 47 (.slice aW (W).length H) (W).length (cellsOf Qa<|W) oW)/\St 67 S w0 ((10,nI i)::Y) (oW++((b8,bV (.agg #[.int .i64 ((p.o:Nat):Int),.int .i64 ((LZ p.m p.o:Nat):Int),.slice aT Ts.length Ts.length,.slice aA nA nA,.slice aE X X]) 86)::((b7,bV (.agg #[.slice y p.m.P.length J,.slice j p.m.T.length U,.slice c p.m.S.length Q,.int .i64 ((p.o:Nat):Int),(.slice aW (W).length H)]) 57)::((b5,bV (Xv p y j c C J U Q cG) 53)::((b3,bV (.agg #[.slice none 0 0,.slice none 0 0,.slice none 0 0,.int .i64 0,.slice none 0 0]) 57)::((b2,bV (XC) 53)::((b1,bV (.agg ((Value.cells<|Dj l4 F N z cU)++(Value.cells<|.int .u8 (((K:Nat):Int)))++(Value.cells<|.slice x v.length cV))) 33)::[]))))))) Z a w) (λi=>LZ p.m p.o-i) (0) (⟨[],none,0,[],⟨cX _,rfl,(λ_ h=>by cases h),GrowO.nil _ _⟩,by exact h.sub sA⟩) ?_;clear h;rintro i a w ⟨W,aW,H,oW,⟨hi,a1,L,O⟩,h⟩;refine gC h<|zs<|zS<|zm I<|zp (.fA I Ni)<|ldZ HT ?_;refine au 0x2d ?_;intro a w h;refine Zb h I (λE=>?_) (λE=>?_)
 ·have a8:i<LZ p.m p.o:=dT E;refine gC h<|zk<|zs<|zb<|zS (zz zeroValue91 λc7=>zn<|zs<|zS<|zp (.fA I No)<|ldZ Iv ?_);refine zp (.builtin [_] I<|DF _ _ _)<|au 0xc0f ?_;clear h;intro a w h;refine Zi h (λb h=>?_) (λb h=>?_)
  ·have b0:0<v.length:=dT b;obtain ⟨b6,c3,rfl⟩:=h.row_addr (ad:=x) (M:=cellsOf Pu v) mm (nE 2);have hj:=gF i b0;obtain ⟨c6,e6,e3,e5⟩:=hv _ (getD_mem v (d:=(0,0)) hj);refine wpList_nil<|cW<|Qq h I ?_;refine gC h<|yE [0,1,2,3,4,5,6,7,8,9]<|yp I (.fA I No)<|ldY Iv ?_;clear h;refine au 0x9 ?_;refine yp I (.fA I No)<|ldY Iv ?_;refine yp I (.builtin [_] I<|DF _ _ _)<|yp I (aq (v':=.int .i64 ((i%v.length:Nat):Int)) (.binOp I I (λ_=>Yx _ _ _ _ _<|dT b)) (by rw[Yw]))<|yp I (.indexAddr I I<|ix_31 _ _ _ _ _ (by exact gF _<|dT b)) ?_;refine Zf I kk I mm (cells_lt (k:=2) dd (λ_=>rfl) v (i%v.length) (by exact gF _<|dT b)) isAgg91 sizeOf91 (Zh (k:=2) (λ_=>rfl) ((λ_=>rfl)) v (0,0) (i%v.length) (by exact gF _<|dT b)) (.inl I) dd ?_;refine stV I I I Zt ?_;refine yn<|yE [0,1,2,3,4,5,6,7]<|au 0x08f8af ?_;refine au 0x51f ?_;refine yv [_] I I call18 (lp ((v.getD (i%v.length) (0,0)).1) ((v.getD (i%v.length) (0,0)).2) oo oo oo oo) ?_;have B:=M1 ((v.getD (i%v.length) (0,0)).1) ((v.getD (i%v.length) (0,0)).2) oo oo oo oo;refine yB I [(_,_)] I (PM _ _ _ _ _) λb9=>?_;refine ga Qa W [qv ((v.getD (i%v.length) (0,0)).1) ((v.getD (i%v.length) (0,0)).2)] O ?_;intro e D R s;refine au 0x8af ?_;refine yt I I I Ee uu sizeOf55 I nb (by show((flat ((.slice e (W++[qv ((v.getD (i%v.length) (0,0)).1) ((v.getD (i%v.length) (0,0)).2)]).length D)) && true))=true;simp only[GrowO.flat (s)];rfl) ?_;refine yn<|zr<|zm I<|zp (.pN (i+1)<|.add I I)<|au 0x25 ?_;intro a w h;exact⟨i+1,⟨_,e,D,R,⟨oo,by rw[bd,a1];rfl,λe7 hz=>(List.mem_append.1 hz).elim (L e7) (λh1=>by rw[List.mem_singleton.1 h1];exact B),s⟩,by exact tO h⟩,oo⟩
  refine wpList_nil<|cW<|Zj h I<|gC h<|zk<|yE [0,1,2,3,4,5,6,7]<|au 0x08f8af ?_;clear h;refine au 0x51f ?_;refine yv [_] I I call18 (lp 0 0 oo oo oo oo) ?_;have B:=M1 0 0 oo oo oo oo;refine yB I [(_,_)] I (PM _ _ _ _ _) λb9=>?_;refine ga Qa W [qv 0 0] O ?_;intro e D R s;refine au 0x8af ?_;refine yt I I I Ee uu sizeOf55 I nb (by show((flat ((.slice e (W++[qv 0 0]).length D)) && true))=true;simp only[GrowO.flat (s)];rfl) ?_;refine yn<|zr<|zm I<|zp (.pN (i+1)<|.add I I)<|au 0x25 ?_;intro a w h;exact⟨i+1,⟨_,e,D,R,⟨oo,by rw[bd,a1];rfl,λe7 hz=>(List.mem_append.1 hz).elim (L e7) (λh1=>by rw[List.mem_singleton.1 h1];exact B),s⟩,by exact tO h⟩,oo⟩
 have b4:W.length=LZ p.m p.o:=dF E;replace h:=h.shareO' hS O;refine gC h<|ze<|zs<|yE [0,1,2,3,4]<|ldY Xl ?_;clear h;refine Jd [2] I kk I mr isAgg57 sizeOf57 Zz (λa w e0 a7=>by intro t ht;simp only[cZ,cf,or_false] at ht;rcases ht with rfl<;>exact⟨_,rfl,by have h1:=(List.pairwise_append.1 a7.nd).2.1;simp at h1;dsimp only;omega⟩) dd ?_;refine stV I I I Jb ?_;refine stV I I I Zl ?_;refine au 0x6a4e ?_;intro a w h;exact Qj h (BM h I (rC Xl) (rC Zz) (.tmp I)) ⟨p,y,j,c,C,J,U,Q,cG,W,aW,H,esv_of hx a6 oo A hh b4 L,A.qm,by rw[A.g.1];exact pV hM.s0,rfl,rfl⟩ (by exact hsA)
def thQ(n:Nat): Rat:=(((n:Nat):Int):Rat)/((255:Int):Rat)
theorem eP(f:W<=255): Jk prog 7 [.int .u8 ((W:Nat):Int)] (Qa (thQ W)):=by
 refine fnI func7 I ntmps7 λS w0 c=>zS (zz Xc λd=>zn<|zS<|zm I<|zp (.convert I<|dH _<|wrap_i64 _ oo oo)<|au 0x74f ?_);intro a w h;have b:=Kq (((W:Nat):Int)) (255) oo oo oo oo;refine gL h<|au 0xbb4 ?_;refine zz Xc λe=>stW I I Zl ?_;refine au 0x6e3125 ?_;refine stW I I Zl ?_;refine zn<|zt ?_;clear h;intro a w h;refine Xh h (Zd h I<|rC Zz) ?_;rfl
theorem cap_sl: (Go.builtin .cap #[61] h8 h9 #[.slice F z o]).run prog h0=.ok (.value (.int .i64 o)) h0:=by
 simp[go_sem]
theorem C_Ints(r:U.length<=1000000): Xi prog 12 [.slice F U.length U.length,.slice P U.length z] [Row F (List.map Qb U),Row P (List.map Qb U)] (.bool true):=by
 refine fnI func12 I ntmps12 λS w0 q=>au 0x71f20f420f43112531 ?_;refine bbF (λe=>(by exfalso;simp at e)) λe=>zm I<|zq 11 I I (.move I)<|zq 11 I I (.builtin [_] I<|cap_sl _ _ _)<|zq 11 I I (.move I)<|zq 11 I I (.builtin [_] I<|Yu _ _ _)<|zq 11 I I (.gtr I I) (bbF (λd=>(by exfalso;have:=of_decide_eq_true d;omega)) λd=>au 0x8253117c22e ?_);intro a w h;refine lpG h [0,1] pkL (λY Z (i:Nat) a w=>i<=U.length/\St 33 S w0 ((5,nI i)::Y) [] Z a w) (λi=>U.length-i) 0 (⟨cX _,by exact(h).sub sA⟩) ?_;clear h;rintro i a w ⟨p,h⟩;refine gC h<|au 0x2d20f44311 ?_;intro a w h;refine Zb h I (λb=>?_) (λb=>?_)
 ·have o:i<U.length:=dT b;obtain ⟨k,j,rfl⟩:=h.row_addr (ad:=F) (M:=List.map Qb U) mm nF;obtain ⟨n,m,rfl⟩:=h.row_addr (ad:=P) (M:=List.map Qb U) mm nF;refine gC h<|zk<|zs<|zb<|zs<|yE [0,1,2,3,4,5,6,7,8]<|au 0x99 ?_;refine yp I (.indexAddr I I<|FT _ _ _ _ _ oo) ?_;clear h;refine Zf I kk I mm (by rw[az];omega) isAgg3 sizeOf3 (Zn (enc:=Qb) (l:=U) 0 oo) (.inr I) dd ?_;refine au 0x99 ?_;refine yp I (.indexAddr I I<|FT _ _ _ _ _ oo) ?_;refine Zf I kk I mm (by rw[az];omega) isAgg3 sizeOf3 (Zn (enc:=Qb) (l:=U) 0 oo) (.inr I) dd ?_;refine yp I (.neq I I) ?_;refine Jn (λc  =>(by exfalso;simp at c)) (λc  =>?_);refine au 0x437ca ?_;refine zp (.pN (i+1)<|.add I I)<|au 0x25 ?_;intro a w h;exact⟨i+1,⟨oo,tO h⟩,oo⟩
 have g:U.length=i:=dF b;subst g;refine gC h<|au 0x625310e ?_;refine rtK I
theorem C_EqP(l:List Pt)(r:l.length<=1000000): Xi prog 62 [.slice F l.length z,.slice P l.length o] [Row F (cellsOf encPt l),Row P (cellsOf encPt l)] (.bool true):=by
 refine fnI func62 I ntmps62 λS w0 q=>au 0x71f21f421f43112531 ?_;intro a w h;refine Zi h (λd h=>(by exfalso;simp at d)) (λd h=>?_);refine wpList_nil<|cW<|Zj h I<|gC h<|au 0x82421f43117 ?_;clear h;intro a w h;refine lpG h [0,1,12] pkL (λY Z (i:Nat) a w=>i<=l.length/\St 26 S w0 ((13,nI i)::Y) [] Z a w) (λi=>l.length-i) 0 (⟨cX _,by exact(h).sub sA⟩) ?_;clear h;rintro i a w ⟨p,h⟩;refine gC h<|au 0x12d31 ?_;intro a w h;refine Zb h I (λb=>?_) (λb=>?_)
 ·have s:i<l.length:=dT b;obtain ⟨j,g,rfl⟩:=h.row_addr (ad:=F) (M:=cellsOf encPt l) mm (nE 10);obtain ⟨m,n,rfl⟩:=h.row_addr (ad:=P) (M:=cellsOf encPt l) mm (nE 10);refine gC h<|au 0x125431817 ?_;refine yE [0,1,2,3,4,5,6,7,8]<|au 0xe1f99 ?_;clear h;refine Zf I kk I mm (cells_lt (k:=10) dd (λ_=>rfl) l i oo) isAgg106 sizeOf106 (Zh (k:=10) (λ_=>rfl) ((λ_=>rfl)) l (0,0) i oo) (.inl I) dd ?_;refine au 0xe1f99 ?_;refine Zf I kk I mm (cells_lt (k:=10) dd (λ_=>rfl) l i oo) isAgg106 sizeOf106 (Zh (k:=10) (λ_=>rfl) ((λ_=>rfl)) l (0,0) i oo) (.inl I) dd ?_;refine yp I (.binOp I I (λ_=>YS _ _ (l.getD i (0,0)) (l.getD i (0,0)) _)) ?_;refine Jn (λc  =>(by exfalso;simp at c)) (λc  =>?_);refine yn<|kF I<|zk<|zr<|zp (.pN (i+1)<|.add I I)<|au 0x24 ?_;intro a w h;exact⟨i+1,⟨oo,tO h⟩,oo⟩
 have f:l.length=i:=dF b;subst f;refine gC h<|au 0x625310e ?_;refine rtK I
theorem C_Ov1(hk:V<a6.T.length)(hT:a6.T.length<=10000): Xi prog 61 [.int .i64 ((V:Nat):Int),.pointer (some ⟨e6,e7,none⟩)] [Row (some ⟨e6,e7,none⟩) (Value.cells (Qm a6 F P h z o K)).toList] (.bool false):=by
 refine fnI func61 I ntmps61 λS w0 p=>au 0xd4312531 ?_;refine bbF (λe=>(absurd (of_decide_eq_true e) oo)) λe=>zm I<|zq 6 I I (.move I)<|zq 6 I I (.fA I Bw) ?_;intro a w q;refine Zq 6 q I I<|Xm q (b:=e6) (off:=e7) (j:=1) (M:=(Value.cells<|Qm a6 F P h z o K).toList) (v:=.slice P a6.T.length o) I mm nb isAgg35 sizeOf35 I (.inr I) dd ?_;clear q;intro a q;refine gL q<|zq 6 I I (.builtin [_] I<|Yf _ _ _)<|zq 6 I I (.geq I I) (bbF (λc=>(absurd (of_decide_eq_true c) oo)) λc=>au 0x6252e ?_);refine rtK I
theorem C_IxOv(y:U.length<=1000000)(hl:∀k∈U,k<a6.T.length)(hT:a6.T.length<=10000): Xi prog 123 [.slice a7 U.length V,.func (.func 61) #[] #[.pointer (some ⟨e6,e7,none⟩)]] [Row a7 (List.map Qb U),Row (some ⟨e6,e7,none⟩) (Value.cells (Qm a6 F P h z o K)).toList] (.int .i64 (-1)):=by
 refine fnI func123 I ntmps123 λS w0 x=>au 0x82420f43112531 ?_;intro a w C;refine lpG C [0,1,7] pkL (λY Z (i:Nat) a w=>i<=U.length/\St 19 S w0 ((8,nI i)::Y) [] Z a w) (λi=>U.length-i) 0 (⟨cX _,by exact(C).sub sA⟩) ?_;clear C;rintro i a w ⟨t,C⟩;refine gC C<|au 0x12d31 ?_;intro a w C;refine Zb C I (λe=>?_) (λe=>?_)
 ·have g:i<U.length:=dT e;obtain ⟨u,r,rfl⟩:=C.row_addr (ad:=a7) (M:=List.map Qb U) mm nF;refine gC C<|au 0xe0f4443125431817 ?_;refine zD I mm (by rw[az];omega) isAgg3 sizeOf3 (Zn (enc:=Qb) (l:=U) 0 oo) (.inr I) ?_;clear C;intro a w C;refine Zc<|Xs C (fs:=[]) (cs:=[.pointer (some ⟨e6,e7,none⟩)]) I (vs:=[_]) I call61 (C_Ov1 a6 F P h z o K (U.getD i 0) e6 e7 (hl _<|getD_mem U g) hT) ss dd ?_;clear C;intro a w C;refine Zi C (λd C=>(by exfalso;cases d)) (λd C=>?_);refine wpList_nil<|cW<|Zj C I<|gC C<|zk<|zr<|zp (.pN (i+1)<|.add I I)<|au 0x24 ?_;clear C;intro a w C;exact⟨i+1,⟨oo,tO C⟩,oo⟩
 have f:U.length=i:=dF e;subst f;refine gC C<|au 0x625310e ?_;refine rtK I
theorem C_CfOv(i:U.length<=1000000)(hl:∀k∈U,k<a6.T.length)(hT:a6.T.length<=10000): Xi prog 47 [.slice a7 U.length V,.func (.func 61) #[] #[.pointer (some ⟨e6,e7,none⟩)]] [Row a7 (List.map Qb U),Row (some ⟨e6,e7,none⟩) (Value.cells (Qm a6 F P h z o K)).toList] (.bool false):=by
 refine fnI func47 I ntmps47 λS w0 j=>au 0x44312531 ?_;refine zw [_,_] I call123 (C_IxOv a6 F P h z o K U _ _ e6 e7 i hl hT)<|au 0x62500f ?_;refine rtK I
theorem C_Ov2:Jk prog 66 [Qa (0:Rat)] (.bool false):=by
 refine fnI func66 I ntmps66 λS w0 a=>zS (zx I λb=>au 0x62571fb1f6e3125 ?_);refine rtK I
theorem C_IxZ(p:e5.length<=1000000)(hz:∀x∈e5,x=0): Xi prog 113 [.slice F e5.length z,.func (.func 66) #[] #[]] [Row F (cellsOf Qa e5)] (.int .i64 (-1)):=by
 refine fnI func113 I ntmps113 λS w0 o=>au 0x82447f43112531 ?_;intro a w h;refine lpG h [0,1,7] pkL (λY Z (i:Nat) a w=>i<=e5.length/\St 19 S w0 ((8,nI i)::Y) [] Z a w) (λi=>e5.length-i) 0 (⟨cX _,by exact(h).sub sA⟩) ?_;clear h;rintro i a w ⟨n,h⟩;refine gC h<|au 0x12d31 ?_;intro a w h;refine Zb h I (λe=>?_) (λe=>?_)
 ·have f:i<e5.length:=dT e;obtain ⟨m,j,rfl⟩:=h.row_addr (ad:=F) (M:=cellsOf Qa e5) mm (nE 5);refine gC h<|au 0x98f4443125431817 ?_;refine zD I mm (cells_lt (k:=5) dd (λ_=>rfl) e5 i oo) isAgg47 sizeOf47 (Zh (k:=5) (λ_=>rfl) ((λ_=>rfl)) e5 0 i oo) (.inl I) ?_;clear h;intro a w h;have hx:=hz _ (getD_mem e5 (d:=0) f);rw[hx] at h;refine Zc<|Cl h (fs:=[]) (cs:=[]) I (vs:=[_]) I call66 (C_Ov2) dd ?_;clear h;intro a w h;refine Zi h (λb h=>(by exfalso;cases b)) (λb h=>?_);refine wpList_nil<|cW<|Zj h I<|gC h<|zk<|zr<|zp (.pN (i+1)<|.add I I)<|au 0x24 ?_;clear h;intro a w h;exact⟨i+1,⟨oo,tO h⟩,oo⟩
 have g:e5.length=i:=dF e;subst g;refine gC h<|au 0x625310e ?_;refine rtK I
theorem C_CfZ(a:e5.length<=1000000)(hz:∀x∈e5,x=0): Xi prog 35 [.slice F e5.length z,.func (.func 66) #[] #[]] [Row F (cellsOf Qa e5)] (.bool false):=by
 refine fnI func35 I ntmps35 λS w0 b=>au 0x44312531 ?_;refine zw [_,_] I call113 (C_IxZ e5 _ _ a hz)<|au 0x62500f ?_;refine rtK I
theorem K0(p:PtK 100000 l5)(m:PtK 100000 l6)(o:PtK 100000 l7)(n:PtK 100000 l8)(hT:twP l5 l6 l7≠0)(f:¬(Ve l5 l6 l7 l8).1.num.sign = -1)(d:¬(Ve l5 l6 l7 l8).2.1.num.sign = -1)(e:¬(Ve l5 l6 l7 l8).2.2.num.sign = -1): Ctr prog 65 [encPt l5,encPt l6,encPt l7,encPt l8] [] (λv Ψ => ∃k:Int,k≠0/\v=.int .i64 k/\Ψ=[]):=by
 obtain ⟨A,r⟩:=p;obtain ⟨t,y⟩:=m;obtain ⟨q,s⟩:=o;obtain ⟨u,x⟩:=n;obtain ⟨l0,B⟩:∃z,(Ve l5 l6 l7 l8).1=z:=⟨_,rfl⟩
 obtain ⟨l1,D⟩:∃z,(Ve l5 l6 l7 l8).2.1=z:=⟨_,rfl⟩
 obtain ⟨L,C⟩:∃z,(Ve l5 l6 l7 l8).2.2=z:=⟨_,rfl⟩
 refine fnI func65 I ntmps65 λS w0 K=>zS (zx I λJ=>zx I λE=>zx I λF=>zx I λH=>au 0x7e7e7e7e3125 ?_);refine zv [_,_,_,_] I call138 (N3 l5 l6 l7 l8 oo oo oo oo oo oo oo oo hT)<|au 0xbb4 ?_;refine zz QL λG=>stW I I Ba ?_;refine au 0x82431125317c2d0f431125 ?_;refine lpR 4<|rdS<|au 0x431254318171e128e31 ?_;refine zp (.indexAddr I I<|FR _ _)<|ldZ FC ?_;refine au 0xae3182b1f ?_;intro a w h;refine Zi h (λc h=>?_) (λc h=>?_)
 ·refine gL h<|au 0x625311e25 ?_;clear h;intro a w h;refine Qj (Ψ:=[]) h (Zd h I<|.tmp I) ?_ ss;exfalso;first|exact f (eq_of_beq (by assumption))|exact d (eq_of_beq (by assumption))|exact e (eq_of_beq (by assumption))
 refine gL h<|au 0xae31c25 ?_;clear h;intro a w h;refine Zi h (λb h=>?_) (λb h=>?_);focus
  refine gL h<|au 0x2452f32550f431e25 ?_;clear h;intro a w h;replace h:=kQ h [8,9,11,23,24,30,32] pkL;refine Zk ?_;refine gC h<|au 0xae3182b1fcbf7af431254318171e128e31 ?_;clear h;intro a w h;refine Zi h (λc h=>?_) (λc h=>?_)
  ·refine gL h<|au 0x625311e25 ?_;clear h;intro a w h;refine Qj (Ψ:=[]) h (Zd h I<|.tmp I) ?_ ss;exfalso;first|exact f (eq_of_beq (by assumption))|exact d (eq_of_beq (by assumption))|exact e (eq_of_beq (by assumption))
  refine gL h<|au 0xae31c25 ?_;clear h;intro a w h;refine Zi h (λb h=>?_) (λb h=>?_)
  ·refine gL h<|au 0x2450f32590f431e25 ?_;clear h;intro a w h;replace h:=kQ h [8,9,11,23,24,30,32] pkL;refine Zk ?_;refine gC h<|au 0xae3182b1fc8f67f431254318171e128e31 ?_;clear h;intro a w h;refine Zi h (λc h=>?_) (λc h=>?_)
   ·refine gL h<|au 0x625311e25 ?_;clear h;intro a w h;refine Qj (Ψ:=[]) h (Zd h I<|.tmp I) ?_ ss;exfalso;first|exact f (eq_of_beq (by assumption))|exact d (eq_of_beq (by assumption))|exact e (eq_of_beq (by assumption))
   refine gL h<|au 0xae31c25 ?_;clear h;intro a w h;refine Zi h (λb h=>?_) (λb h=>?_)
   ·refine gL h<|au 0x431e25 ?_;refine zp (aq (v':=.int .i64 4) (.add I I) cgd)<|au 0x2490f325 ?_;clear h;intro a w h;replace h:=kQ h [8,9,11,23,24,30,32] pkL;refine Zk ?_;refine gC h<|au 0x6254310ec1260f31 ?_;clear h;intro a w h;refine Qj (Ψ:=[]) h (Zd h I<|.tmp I) ?_ ss;exact⟨_,by decide,rfl,rfl⟩
   refine gL h<|au 0x2490f37c25 ?_;clear h;intro a w h;replace h:=kQ h [8,9,11,23,24,30,32] pkL;refine Zk ?_;refine gC h<|au 0x6254310ec1260f31 ?_;clear h;intro a w h;refine Qj (Ψ:=[]) h (Zd h I<|.tmp I) ?_ ss;exact⟨_,by decide,rfl,rfl⟩
  refine gL h<|au 0x2450f37c25 ?_;clear h;intro a w h;replace h:=kQ h [8,9,11,23,24,30,32] pkL
 rotate_left;focus
  refine gL h<|au 0x2452f37c25 ?_;clear h;intro a w h;replace h:=kQ h [8,9,11,23,24,30,32] pkL;refine Zk ?_;refine gC h<|au 0xae3182b1fcbf7af431254318171e128e31 ?_;clear h;intro a w h;refine Zi h (λc h=>?_) (λc h=>?_)
  ·refine gL h<|au 0x625311e25 ?_;clear h;intro a w h;refine Qj (Ψ:=[]) h (Zd h I<|.tmp I) ?_ ss;exfalso;first|exact f (eq_of_beq (by assumption))|exact d (eq_of_beq (by assumption))|exact e (eq_of_beq (by assumption))
  refine gL h<|au 0xae31c25 ?_;clear h;intro a w h;refine Zi h (λb h=>?_) (λb h=>?_);rotate_left
  ·refine gL h<|au 0x2450f37c25 ?_;clear h;intro a w h;replace h:=kQ h [8,9,11,23,24,30,32] pkL;refine Zk ?_;refine gC h<|au 0xae3182b1fc8f67f431254318171e128e31 ?_;clear h;intro a w h;refine Zi h (λc h=>?_) (λc h=>?_)
   ·refine gL h<|au 0x625311e25 ?_;clear h;intro a w h;refine Qj (Ψ:=[]) h (Zd h I<|.tmp I) ?_ ss;exfalso;first|exact f (eq_of_beq (by assumption))|exact d (eq_of_beq (by assumption))|exact e (eq_of_beq (by assumption))
   refine gL h<|au 0xae31c25 ?_;clear h;intro a w h;refine Zi h (λb h=>?_) (λb h=>?_)
   ·refine gL h<|au 0x2490f32550f431e25 ?_;clear h;intro a w h;replace h:=kQ h [8,9,11,23,24,30,32] pkL;refine Zk ?_;refine gC h<|au 0x6254310ec1260f31 ?_;clear h;intro a w h;refine Qj (Ψ:=[]) h (Zd h I<|.tmp I) ?_ ss;exact⟨_,by decide,rfl,rfl⟩
   refine gL h<|au 0x2490f37c25 ?_;clear h;intro a w h;replace h:=kQ h [8,9,11,23,24,30,32] pkL;refine Zk ?_;refine gC h<|au 0x6254310ec1260f31 ?_;clear h;intro a w h;refine Qj (Ψ:=[]) h (Zd h I<|.tmp I) ?_ ss;exact⟨_,by decide,rfl,rfl⟩
  refine gL h<|au 0x2450f32550f431e25 ?_;clear h;intro a w h;replace h:=kQ h [8,9,11,23,24,30,32] pkL
 all_goals
  refine Zk ?_;refine gC h<|au 0xae3182b1fc8f67f431254318171e128e31 ?_;clear h;intro a w h;refine Zi h (λc h=>?_) (λc h=>?_)
  ·refine gL h<|au 0x625311e25 ?_;clear h;intro a w h;refine Qj (Ψ:=[]) h (Zd h I<|.tmp I) ?_ ss;exfalso;first|exact f (eq_of_beq (by assumption))|exact d (eq_of_beq (by assumption))|exact e (eq_of_beq (by assumption))
  refine gL h<|au 0xae31c25 ?_;clear h;intro a w h;refine Zi h (λb h=>?_) (λb h=>?_)
  ·refine gL h<|au 0x2490f32590f431e25 ?_;clear h;intro a w h;replace h:=kQ h [8,9,11,23,24,30,32] pkL;refine Zk ?_;refine gC h<|au 0x6254310ec1260f31 ?_;clear h;intro a w h;refine Qj (Ψ:=[]) h (Zd h I<|.tmp I) ?_ ss;exact⟨_,by decide,rfl,rfl⟩
  refine gL h<|au 0x2490f37c25 ?_;clear h;intro a w h;replace h:=kQ h [8,9,11,23,24,30,32] pkL;refine Zk ?_;refine gC h<|au 0x6254310ec1260f31 ?_;clear h;intro a w h;refine Qj (Ψ:=[]) h (Zd h I<|.tmp I) ?_ ss;exact⟨_,by decide,rfl,rfl⟩
theorem slh_34(h:K<=o): RN (Instr.sliceAt 34 (.slice F z o) none (some (.int .i64 (K:Int))) none) (.slice F K o):=λw=>by
 exact AH runUnderlying34 sizeOf106 F z o K h w
def arM(m:Ms)(t:Nat): Rat:=KR (pt m (m.T.getD t (0,0,0)).1) (pt m (m.T.getD t (0,0,0)).2.1) (pt m (m.T.getD t (0,0,0)).2.2)
def ar0(m:Ms): Nat->List Rat
 | 0=>List.replicate m.T.length 0
 | t+1=>(ar0 m t).set t (arM m t)
theorem SE(m:Ms): ∀t,(ar0 m t).length=m.T.length
 | 0=>hW ..
 | t+1=>by rw[ar0,ea,SE m t]
def lfL(m k:Ms)(par:List Nat): Nat->List Rat
 | 0=>ar0 m m.T.length
 | t+1=>(lfL m k par t).set (par.getD t 0) ((lfL m k par t).getD (par.getD t 0) 0-arM k t)
theorem RJ(m k:Ms)(par:List Nat): ∀t,(lfL m k par t).length=m.T.length
 | 0=>SE m _
 | t+1=>by rw[lfL,ea,RJ m k par t]
def InT(a b c q:Pt): Prop:=twP a b c≠0 /\ ¬(Ve a b c q).1.num.sign = -1 /\ ¬(Ve a b c q).2.1.num.sign = -1 /\ ¬(Ve a b c q).2.2.num.sign = -1
def InM(m k:Ms)(a t:Nat): Prop := ∀j,j<3->InT (pt m (m.T.getD a (0,0,0)).1) (pt m (m.T.getD a (0,0,0)).2.1) (pt m (m.T.getD a (0,0,0)).2.2) (pt k (crn (k.T.getD t (0,0,0)) j))
theorem mg(h:∀x∈e4,Zr x<=w)(a:Zr a8<=w): ∀x∈e4.set Q a8,Zr x<=w:=λx hx=>by
 rcases uG hx with h1|rfl
 ·exact h x h1
 exact a
theorem C_CfZn(a:e5.length=z)(b:e5.length<=1000000)(hz:∀x∈e5,x=0): Xi prog 35 [.slice a7 z V,.func (.func 66) #[] #[]] [Row a7 (cellsOf Qa e5)] (.bool false):=by subst a;exact C_CfZ e5 a7 V b hz
theorem C_Over(e h:Option Addr)(z o K:Nat)(l9:Ms)(a7 n3 n4:Option Addr)(V e6 e7:Nat)(par:List Nat)(ap:Option Addr)(cp:Nat)(hv:MV W a6)(hw:MV W l9)(u:W<=1000)(hn:par.length=l9.T.length)(hp:∀x∈par,x<a6.T.length)(hP:l9.P.take a6.P.length=a6.P)(h2:a6.P.length<=V)(b2:∀t,t<l9.T.length->InM a6 l9 (par.getD t 0) t)(U:∀t,t<l9.T.length->0<(arM l9 t).num.sign)(hz:∀x∈lfL a6 l9 par par.length,x=0)(hT:a6.T.length<=1000)(j2:l9.T.length<=1000): Xi prog 14 [Qm a6 F e h z o K,Qm l9 a7 n3 n4 V e6 e7,.slice ap par.length cp] [Row F (cellsOf encPt a6.P),Row e (cellsOf Ze a6.T),Row h (cellsOf Ze a6.S),Row a7 (cellsOf encPt l9.P),Row n3 (cellsOf Ze l9.T),Row n4 (cellsOf Ze l9.S),Row ap (List.map Qb par)] (.int .i64 0):=by
 have k8:=hv.nP;have j3:=hv.nT;have j0:=hv.ne;have h3:=hw.nP;have h8:=hw.nT;have c6:=congrArg List.length hP;rw[db] at c6;refine fn_intro func14 I ntmps14 nb ?_;intro S w0 a hS q;replace q:=q.derive (R:=Row a7 (cellsOf encPt a6.P)) (λX hX=>by rw[<-hP, <-PK (k:=10) (λ_=>rfl) l9.P a6.P.length oo];exact Fz (hX _ mm) _);refine gC q<|zS (zx I λN=>?_);clear q;intro a w q;replace q:=q.shareAll hS ((Value.cells (Qm a6 F e h z o K)).toList) I;refine gL q (zx I λb4=>au 0x31812556f3125 ?_);refine zD (b:=N) (off:=0) (j:=0) (M:=(Value.cells<|Qm a6 F e h z o K).toList) (v:=Qm a6 F e h z o K) I mm (gM _) isAgg38 sizeOf38 I (.inl I) ?_;clear q;intro a w q;refine Zc<|Qu q (vs:=[_]) I call46 (Cy W a6 _ _ _ _ _ _ hv) (by exact hsA) dd ?_;clear q;intro a w q;refine gL q<|au 0x4a1f ?_;refine ldQ 24 Jj ?_;clear q;intro a w q;refine Zq 24 q I I<|Qu q (vs:=[_]) I call46 (Cy W l9 _ _ _ _ _ _ hw) (by exact hsA) dd ?_;clear q;intro a w q;refine gL q<|zq 24 I I (aq (v':=.bool false) (.unOp I<|Yt _) cgd)<|au 0x42e ?_;refine zq 29 I I (.move I)<|zq 29 I I (.builtin [_] I<|Yu _ _ _)<|zq 29 I I (.fA I Bw)<|ldQ 29 Vg ?_;refine zq 29 I I (.builtin [_] I<|Yf _ _ _)<|zq 29 I I (.neq I I) (bbF (λc=>(by exfalso;simp[hn] at c)) λc=>au 0x42e ?_);refine zq 37 I I (.move I)<|zq 37 I I (.move I) ?_;clear q;intro a w q;refine Zq 37 q I I<|Qu q (vs:=[_,_]) I call47 (C_CfOv a6 _ _ _ _ _ _ par _ _ N 0 oo hp oo) (by exact hsA) dd ?_;clear q;intro a w q;refine gL q<|au 0x1c252e ?_;refine yE [0,1,2,3,4,5,6,7,8,9,10,11,12,13,14,15,16,17,18,19]<|au 0xee10f ?_;clear q;refine au 0x10f45f ?_;refine Zf (b:=N) (off:=0) (j:=0) (M:=(Value.cells<|Qm a6 F e h z o K).toList) (v:=.slice F a6.P.length z) I kk I mm nb isAgg34 sizeOf34 I (.inr I) dd ?_;refine au 0x45f ?_;refine yp I (.lss I I) ?_;refine Jn (λf  =>(by exfalso;have:=of_decide_eq_true f;omega)) (λf  =>?_);refine au 0x8bfd8f9 ?_;refine au 0xd8f ?_;refine Ki (b:=N) (off:=0) (j:=0) (M:=(Value.cells<|Qm a6 F e h z o K).toList) (v:=.slice F a6.P.length z) I I I kk I mm nb isAgg34 sizeOf34 I (.inr I) dd ?_;refine yq I I I (.builtin [_] I<|BX _ _ _)<|yq I I I (.slice I none (some _) none I I I<|slh_34 _ _ _ _ oo)<|au 0xd8f ?_;refine Ki (b:=N) (off:=0) (j:=0) (M:=(Value.cells<|Qm a6 F e h z o K).toList) (v:=.slice F a6.P.length z) I I I kk I mm nb isAgg34 sizeOf34 I (.inr I) dd ?_;refine RX I I I kk (vs:=[_,_]) I call62 (C_EqP _ _ _ _ a6.P oo) (by exact hsA) dd ?_;refine yq I I I (aq (v':=.bool false) (.unOp I<|Yt _) cgd)<|au 0x31f317ca4ef4f ?_;refine zD (b:=N) (off:=0) (j:=1) (M:=(Value.cells<|Qm a6 F e h z o K).toList) (v:=.slice e a6.T.length o) I mm nb isAgg35 sizeOf35 I (.inr I) ?_;refine au 0xa0f ?_;intro a w q;refine Zc<|Qz q I I runUnderlying54 typeInfo47 sizeOf47 Xc I dd oo (by show 56*(a6.T.length)<=281474976710656;omega) oo dd ?_;clear q;intro Q a w q;replace q:=q.same I (by rw[<-Ap (enc:=Qa)]) I;refine gL q<|au 0x31f31125 ?_;refine zD (b:=N) (off:=0) (j:=1) (M:=(Value.cells<|Qm a6 F e h z o K).toList) (v:=.slice e a6.T.length o) I mm nb isAgg35 sizeOf35 I (.inr I) ?_;refine au 0x824a0f ?_;intro a w q;refine lpG q [2,3,4,6,8,68] pkL (λY Z (i:Nat) a w=>i<=a6.T.length /\ ∃(O:List Rat),((O.length=a6.T.length/\(∀x∈O,Zr x<=20000)/\O=ar0 a6 i))/\St 147 S w0 ((69,nI i)::Y) [(Q,.cells (cellsOf Qa<|O).toArray 47 (0,0)),(b4,bV (Qm l9 a7 n3 n4 V e6 e7) 38)] Z a w) (λi=>a6.T.length-i) 0 (⟨cX _,List.replicate a6.T.length 0,⟨hW ..,λx hx=>by rw[(List.mem_replicate.1 hx).2];decide +kernel,rfl⟩,by exact(q).sub sA⟩) ?_;clear q;rintro i a w ⟨h5,O,hO,q⟩;refine gC q<|au 0x12d31 ?_;intro a w q;refine Zb q I (λr=>?_) (λr=>?_)
 ·have A:i<a6.T.length:=dT r;obtain ⟨G,B,rfl⟩:=q.row_addr (ad:=e) (M:=cellsOf Ze a6.T) mm (nE 3);obtain ⟨c9,e9,e2⟩:=hv.tri (getD_mem a6.T (d:=(0,0,0)) A);simp only[PtK] at c9 e9 e2;have e5:=Hl (pt a6 (a6.T.getD i (0,0,0)).1) (pt a6 (a6.T.getD i (0,0,0)).2.1) (pt a6 (a6.T.getD i (0,0,0)).2.2);have j4:=hO.1;refine gC q<|au 0x44325431817 ?_;refine zD (b:=N) (off:=0) (j:=0) (M:=(Value.cells<|Qm a6 F (some ⟨G,B,none⟩) h z o K).toList) (v:=Qm a6 F (some ⟨G,B,none⟩) h z o K) I mm (gM _) isAgg38 sizeOf38 I (.inl I) ?_;refine zm I ?_;clear q;intro a w q;refine Zc<|Qu q (vs:=[_,_]) I call64 (EH W a6 _ _ _ _ _ _ i A hv) (by exact hsA) dd ?_;clear q;intro a w q;refine gL q<|au 0xbbb ?_;refine zv [_,_,_] I call63 (N4 _ _ _ oo oo oo oo oo oo)<|au 0x98f ?_;refine zt' (b:=Q) (cs:=(cellsOf Qa O).toArray) (cs':=(cellsOf Qa<|O.set i<|arM a6 i).toArray) (v:=Qa<|arM a6 i) I I (Gk (k:=5) (λ_=>rfl) O i oo<|arM a6 i) uu sizeOf47 I (cells_le (k:=5) (λ_=>rfl) O i oo) I ?_;refine zn<|zr<|zp (.pN (i+1)<|.add I I)<|au 0x24 ?_;clear q;intro a w q;exact⟨i+1,⟨oo,O.set i (arM a6 i),⟨by rw[ea];exact hO.1,mg hO.2.1 (by unfold arM;omega),by rw[hO.2.2];rfl⟩,by exact tO q⟩,oo⟩
 have b5:a6.T.length=i:=dF r;subst b5;refine gC q<|au 0x82420f43110e ?_;clear q;intro a w q;refine lpG q [2,3,4,8,68,69,83,84] pkL (λY Z (t:Nat) a w=>t<=par.length /\ ∃(L:List Rat),((L.length=a6.T.length/\(∀x∈L,Zr x<=20000+20000*t)/\L=lfL a6 l9 par t))/\St 147 S w0 ((85,nI t)::Y) [(Q,.cells (cellsOf Qa<|L).toArray 47 (0,0)),(b4,bV (Qm l9 a7 n3 n4 V e6 e7) 38)] Z a w) (λt=>par.length-t) 0 (⟨cX _,O,⟨hO.1,hO.2.1,hO.2.2⟩,by exact(q).sub sA⟩) ?_;clear q;rintro t a w ⟨i7,L,hL,q⟩;refine gC q<|au 0x12d31 ?_;intro a w q;refine Zb q I (λy=>?_) (λy=>?_)
 ·have p:t<par.length:=dT y;obtain ⟨h6,h9,rfl⟩:=q.row_addr (ad:=ap) (M:=List.map Qb par) mm nF;have g:t<l9.T.length:=oo;have b9:=hp _ (getD_mem par (d:=0) p);obtain ⟨s,a1,b6⟩:=hv.tri (getD_mem a6.T (d:=(0,0,0)) b9);obtain ⟨c8,c4,c3⟩:=hw.tri (getD_mem l9.T (d:=(0,0,0)) g);have i0:=b2 t g 0 dd;have i1:=b2 t g 1 dd;have i2:=b2 t g 2 dd;have b8:=c8;have b7:=c4;have c7:=c3;simp only[PtK] at b8 b7 c7;have e5:=Hl (pt l9 (l9.T.getD t (0,0,0)).1) (pt l9 (l9.T.getD t (0,0,0)).2.1) (pt l9 (l9.T.getD t (0,0,0)).2.2);have c5:=hL.1;have hle:Zr (L.getD (par.getD t 0) 0)<=20000+20000*t:=hL.2.1 _ (getD_mem L (d:=0) oo);have k7:=Yg (L.getD (par.getD t 0) 0) (arM l9 t);have j1:Zr (arM l9 t)<=9000:=by unfold arM;omega
  have j6:=U t g;have i6:0<(KR (pt l9 (l9.T.getD t (0,0,0)).1) (pt l9 (l9.T.getD t (0,0,0)).2.1) (pt l9 (l9.T.getD t (0,0,0)).2.2)).num.sign:=U t g;refine gC q<|au 0xe0f431817 ?_;refine zD I mm (by rw[az];omega) isAgg3 sizeOf3 (Zn (enc:=Qb) (l:=par) 0 oo) (.inr I) ?_;refine au 0x31255 ?_;refine zD (b:=N) (off:=0) (j:=0) (M:=(Value.cells<|Qm a6 F e h z o K).toList) (v:=Qm a6 F e h z o K) I mm (gM _) isAgg38 sizeOf38 I (.inl I) ?_;refine zm I ?_;clear q;intro a w q;refine Zc<|Qu q (vs:=[_,_]) I call64 (EH W a6 _ _ _ _ _ _ (par.getD t 0) b9 hv) (by exact hsA) dd ?_;clear q;intro a w q;refine gL q<|au 0xbbb4 ?_;refine zz Xe λk9=>zz Xe λk6=>zz Xe λj9=>stW I I Zv ?_;refine stW I I Zv ?_;refine stW I I Zv ?_;refine au 0x4de312 ?_;clear q;intro a w q;refine Zc<|Qu q (vs:=[_,_]) I call64 (EH W l9 _ _ _ _ _ _ t g hw) (by exact hsA) dd ?_;clear q;intro a w q;refine gL q<|au 0xbbb4 ?_;refine zz Xe λj7=>zz Xe λj8=>zz Xe λj5=>stW I I Zv ?_;refine stW I I Zv ?_;refine stW I I Zv ?_;refine au 0x7e7e7e312 ?_;refine zv [_,_,_] I call63 (N4 _ _ _ oo oo oo oo oo oo) (zz Xc λk5=>stW I I Zl ?_);refine au 0xb1f6e3112 ?_;refine zp (.leq I I) (bbF (λD=>(by exfalso;have:=of_decide_eq_true D;omega)) λD=>au 0x7cf7cf7cf7cf4 ?_);clear q;intro a w q;refine Zq 111 q I I<|He q (vs:=[_,_,_,_]) I call65 (K0 _ _ _ _ (s.mono<|bp u dd) (a1.mono<|bp u dd) (b6.mono<|bp u dd) (c8.mono<|bp u dd) i0.1 i0.2.1 i0.2.2.1 i0.2.2.2) (by exact hsA) dd ?_;clear q;rintro h7 k a w ⟨y0,n,rfl,rfl⟩ q;refine gL q<|zq 111 I I (.eql I I) (bbF (λC=>(by exfalso;exact n<|eq_of_beq C)) λC=>au 0x6cf6cf6cf6cf42e ?_);clear q;intro a w q;refine Zq 119 q I I<|He q (vs:=[_,_,_,_]) I call65 (K0 _ _ _ _ (s.mono<|bp u dd) (a1.mono<|bp u dd) (b6.mono<|bp u dd) (c4.mono<|bp u dd) i1.1 i1.2.1 i1.2.2.1 i1.2.2.2) (by exact hsA) dd ?_;clear q;rintro v124 e8 a w ⟨y1,e0,rfl,rfl⟩ q;refine gL q<|zq 119 I I (.eql I I) (bbF (λH=>(by exfalso;exact e0<|eq_of_beq H)) λH=>au 0x5cf5cf5cf5cf42e ?_);clear q;intro a w q;refine Zq 127 q I I<|He q (vs:=[_,_,_,_]) I call65 (K0 _ _ _ _ (s.mono<|bp u dd) (a1.mono<|bp u dd) (b6.mono<|bp u dd) (c3.mono<|bp u dd) i2.1 i2.2.1 i2.2.2.1 i2.2.2.2) (by exact hsA) dd ?_;clear q;rintro h4 e3 a w ⟨y2,e1,rfl,rfl⟩ q;refine gL q<|zq 127 I I (.eql I I) (bbF (λE=>(by exfalso;exact e1<|eq_of_beq E)) λE=>au 0x7c22e ?_);refine yE [0,1,2,3,4,5,6,7,8,9]<|au 0x42f9999 ?_;refine yd I I mm isAgg47 sizeOf47 (Bo (k:=5) (λ_=>rfl) ((λ_=>rfl)) L 0 (par.getD t 0) oo) ?_;clear q;refine au 0xce ?_;refine au 0x68f ?_;have h0:=Yg (L.getD (par.getD t 0) 0) (arM l9 t);refine au 0x42f ?_;refine Vm (b:=Q) (cs:=(cellsOf Qa L).toArray) (cs':=(cellsOf Qa<|L.set (par.getD t 0) ((L.getD (par.getD t 0) 0)-(arM l9 t))).toArray) (v:=Qa ((L.getD (par.getD t 0) 0)-(arM l9 t))) I kk I I (Gk (k:=5) (λ_=>rfl) L (par.getD t 0) oo ((L.getD (par.getD t 0) 0)-(arM l9 t))) uu sizeOf47 I (cells_le (k:=5) (λ_=>rfl) L (par.getD t 0) oo) I ?_;refine yn<|zr<|zp (.pN (t+1)<|.add I I)<|au 0x24 ?_;intro a w q;exact⟨t+1,⟨oo,L.set (par.getD t 0) ((L.getD (par.getD t 0) 0)-(arM l9 t)),⟨by rw[ea];exact hL.1,mg (λx hx=>by have:=hL.2.1 x hx;omega) oo,by rw[hL.2.2];rfl⟩,by exact tO q⟩,oo⟩
 have b0:par.length=t:=dF y;subst b0;have e4:∀x∈L,x=0:=by rw[hL.2.2];exact hz
 have c5:=hL.1;refine gC q<|au 0x43110e ?_;clear q;intro a w q;replace q:=q.shareAll hS (cellsOf Qa L) I;refine Zc<|Qu q (vs:=[_,_]) I call35 (C_CfZn L _ _ _ c5 oo e4) (by exact hsA) dd ?_;clear q;intro a w q;refine wpList_nil<|cW<|Zb q I (λm=>(by exfalso;cases m)) (λm=>?_);refine gC q<|au 0x625317 ?_;refine rtK I
abbrev CT:=(Nat×Nat)×(Nat×Nat)×(Nat×Nat)
def dG(m:M25): Int:=(mK m).1*(mK m).2.2.2-(mK m).2.1*(mK m).2.2.1
theorem Uw: 0<dG m:=by
 unfold dG mK;split
 ·decide
 next h =>
 split
 ·next a=>simp only[pW] at a ⊢;rw[v7,v7];omega
 next a=>simp only[pW] at h a ⊢;omega
theorem HW(a:1<=w)(z:Int×Int): ptZ w z=(((z.1:Int):Rat)/((w:Int):Rat),((z.2:Int):Rat)/((w:Int):Rat)):=by
 unfold ptZ ptv qvp qv;rw[show max ((w:Nat):Int) 1=((w:Nat):Int) by omega]
def fK(m:M25)(D:Nat)(p:Nat×Nat): Pt:=ptZ D (mvP m p)
theorem Mi(a:1<=w)(p q r:Nat×Nat): twP (fK m w p) (fK m w q) (fK m w r)=((dG m:Int):Rat)/(((w:Int):Rat)*((w:Int):Rat))*((sgN p q r:Int):Rat):=by
 have b:((w:Int):Rat)≠0:=by
  intro h;have:(w:Int)=0:=by exact_mod_cast h
  omega
 unfold fK;rw[HW a,HW a,HW a];simp only[twP,crQ,Vv,mvP,sgN,dG,uJ,Rat.intCast_sub,tP]
 grind
theorem RR(b:1<=w): (0:Rat)<((dG m:Int):Rat)/(((w:Int):Rat)*((w:Int):Rat)):=by
 have h1:(0:Rat)<((w:Int):Rat):=by exact_mod_cast (show(0:Int)<(w:Int) by omega)
 have a:(0:Rat)<((dG m:Int):Rat):=by exact_mod_cast Uw m
 rw[vv];exact uO a (Rat.inv_pos.2 (uO h1 h1))
theorem numP: 0<a8.num↔0<a8:=by
 have h1:=Rat.num_nonneg (q:=a8);have a:=u1 (q:=a8);constructor
 ·intro h;have b:a8≠0:=λe=>by rw[<-a] at e;omega
  exact Rat.lt_of_le_of_ne (h1.1 oo) b.symm
 intro h;have b:=h1.2 (u5 h);have c:a8.num≠0:=λe=>by rw[a] at e;subst e;exact absurd h (Rat.lt_irrefl)
 omega
theorem SZ(a:1<=w)(p q r:Nat×Nat): 0<twP (fK m w p) (fK m w q) (fK m w r)↔0<sgN p q r:=by
 rw[Mi m a];have hk:=RR m a;generalize ((dG m:Int):Rat)/(((w:Int):Rat)*((w:Int):Rat))=k at hk;constructor
 ·intro h;refine Int.lt_of_not_ge λb=>?_;have c:((sgN p q r:Int):Rat)<=0:=by exact_mod_cast b
  have:=Rat.mul_le_mul_of_nonneg_left c (u5 hk);rw[Rat.mul_zero] at this;exact absurd h (Rat.not_lt.2 this)
 intro h;exact uO hk (by exact_mod_cast h)
theorem XT(a:1<=w)(p q r:Nat×Nat)(h:sgN p q r<0): twP (fK m w p) (fK m w q) (fK m w r)<0:=by
 have h1:twP (fK m w q) (fK m w p) (fK m w r) = - twP (fK m w p) (fK m w q) (fK m w r):=by simp only[twP,crQ,Vv];grind
 have c:sgN q p r = - sgN p q r:=by simp only[sgN];grind
 have b:=(SZ m a q p r).2 oo;rw[h1] at b
 grind
theorem Q7: sgN L X J=sgN J L X:=by simp only[sgN];grind
theorem fK_inj(f:1<=w)(h:fK m w O=fK m w e8): O=e8:=by
 have hd:=Uw m;have l:((w:Int):Rat)≠0:=by
  intro h;have:(w:Int)=0:=by exact_mod_cast h
  omega
 have hc:∀x y:Int,((x:Int):Rat)/((w:Int):Rat)=((y:Int):Rat)/((w:Int):Rat)->x=y:=λx y e=>by
  have:((x:Int):Rat)=((y:Int):Rat):=by grind
  exact_mod_cast this
 unfold fK at h;rw[HW f,HW f,kb] at h;have h1:=hc _ _ h.1;have g:=hc _ _ h.2;simp only[mvP] at h1 g;unfold dG at hd;generalize (mK m).1=a at *
 generalize (mK m).2.1=b at *
 generalize (mK m).2.2.1=c at *
 generalize (mK m).2.2.2=d at *
 have j:(a*d-b*c)*((O.1:Int)-e8.1)=0:=by grind
 have i:(a*d-b*c)*((O.2:Int)-e8.2)=0:=by grind
 rcases Int.mul_eq_zero.1 j with e|e
 ·omega
 rcases Int.mul_eq_zero.1 i with k|k
 ·omega
 exact uI oo oo
theorem LQ(pl:List (Nat×Nat))(p:Nat×Nat): ∀k,k<=pl.length->(Dh pl p k = -1 /\ ∀j,j<k->pl.getD j (0,0)≠p) \/ ∃j,j<k/\Dh pl p k=(j:Int)/\pl.getD j (0,0)=p
 | 0,_ =>.inl ⟨rfl,λj hj=>absurd hj (gS j)⟩
 | k+1,hk=>by
  rw[Dh];by_cases e:pl.getD k (0,0)=p
  ·rw[if_pos e];exact .inr ⟨k,ia k,rfl,e⟩
  rw[if_neg e];rcases LQ pl p k oo with ⟨h1,a⟩|⟨j,h1,a,b⟩
  ·refine .inl ⟨h1,λj hj=>?_⟩;rcases Nat.lt_succ_iff_lt_or_eq.1 hj with h|rfl
   ·exact a j h
   exact e
  exact .inr ⟨j,oo,a,b⟩
theorem OG(hd:G.Nodup): (∃r,plP G J=G++r /\ ∀x∈r,x=J)/\(plP G J).Nodup/\atP G J<(plP G J).length/\(plP G J).getD (atP G J) (0,0)=J:=by
 rcases LQ G J G.length (aZ _) with ⟨h1,c⟩|⟨j,h1,c,g⟩
 ·have f:J∉G:=λhm=>by
   obtain ⟨j,hj,e⟩:=List.mem_iff_getElem.1 hm;exact c j hj (by rw[List.getD_eq_getElem?_getD,List.getElem?_eq_getElem hj];exact e)
  rw[Rn oo,SC oo];refine⟨⟨[J],rfl,by simp⟩,?_,by simp,by simp⟩;rw[w8];exact⟨hd,by simp,λa ha b d e=>f (by simp at d;rw[<-d, <-e];exact ha)⟩
 rw[Rm oo,eE c];exact⟨⟨[],by simp,by simp⟩,hd,h1,g⟩
theorem Nb(h:w<G.length): (G++n5).getD w (0,0)=G.getD w (0,0):=by
 simp[List.getD,List.getElem?_append_left h]
theorem Lq(c:CT)(F t:Nat){pl:List (Nat×Nat)}(hd:pl.Nodup): ∀i,(∃r,plT c F t i pl=pl++r)/\(plT c F t i pl).Nodup
 | 0=>⟨⟨[],by simp[plT]⟩,hd⟩
 | i+1=>by
  obtain ⟨⟨r,h1⟩,a⟩:=Lq c F t hd i;obtain ⟨⟨q,d,_⟩,b,_⟩:=OG (Fh c (shF F t i)) a;rw[plT];exact⟨⟨r++q,by rw[d,h1,cv]⟩,b⟩
theorem ZI(c:CT)(F t:Nat)(hd:G.Nodup)(i:Nat): ∃r,plT c F t (i+1) G=plT c F t i G++r:=by
 obtain ⟨⟨r,h1,_⟩,_⟩:=OG (Fh c (shF F t i)) (Lq c F t hd i).2;exact⟨r,h1⟩
theorem nT_ok(c:CT)(F t:Nat)(hd:G.Nodup): ∀i,i<3->crn (nT c F t G) i<(plT c F t 3 G).length/\(plT c F t 3 G).getD (crn (nT c F t G) i) (0,0)=Fh c (shF F t i):=by
 have g:=OG (Fh c (shF F t 0)) hd;have h1:=OG (Fh c (shF F t 1)) (Lq c F t hd 1).2;have f:=OG (Fh c (shF F t 2)) (Lq c F t hd 2).2;obtain ⟨r1,e⟩:=ZI c F t hd 1;obtain ⟨j,d⟩:=ZI c F t hd 2;have l1:(plT c F t 1 G).length<=(plT c F t 3 G).length:=by rw[d,e];simp
 have h:(plT c F t 2 G).length<=(plT c F t 3 G).length:=by rw[d];simp
 intro i k;have:i=0\/i=1\/i=2:=oo;rcases this with rfl|rfl|rfl
 ·have a:=g.2.2.1;have b:=g.2.2.2;change atP G _<(plT c F t 1 G).length at a;change (plT c F t 1 G).getD _ _=_ at b;refine⟨gN a l1,?_⟩;change (plT c F t 3 G).getD (atP G _) (0,0)=_;rw[d,e,cv,Nb a];exact b
 ·have a:=h1.2.2.1;have b:=h1.2.2.2;change atP _ _<(plT c F t 2 G).length at a;change (plT c F t 2 G).getD _ _=_ at b;refine⟨gN a h,?_⟩;change (plT c F t 3 G).getD (atP (plT c F t 1 G) _) (0,0)=_;rw[d,Nb a];exact b
 exact⟨f.2.2.1,f.2.2.2⟩
theorem Ty(l:List CT)(F:Nat): ∀n,(plW l F n).Nodup
 | 0=>vA
 | n+1=>(Lq _ F n (Ty l F n) 3).2
theorem px(l:List CT)(F n:Nat): ∃r,plW l F (n+1)=plW l F n++r:=(Lq _ F n (Ty l F n) 3).1
theorem ES(l:List CT)(F:Nat): ∀n k,k<n->(trW l F n).getD k (0,0,0)=nT (l.getD k cl0) F k (plW l F k)
 | n+1,k,hk=>by
  rw[trW];rcases Nat.lt_succ_iff_lt_or_eq.1 hk with h|rfl
  ·rw[<-ES l F n k h];simp[List.getD,List.getElem?_append_left (show k<(trW l F n).length by rw[Af];exact h)]
  simp[List.getD,Af]
theorem I1(l:List CT)(F:Nat): ∀n k,k<n -> ∀i,i<3->crn ((trW l F n).getD k (0,0,0)) i<(plW l F n).length/\(plW l F n).getD (crn ((trW l F n).getD k (0,0,0)) i) (0,0)=Fh (l.getD k cl0) (shF F k i)
 | n+1,k,hk,i,b=>by
  obtain ⟨r,hr⟩:=px l F n;rcases Nat.lt_succ_iff_lt_or_eq.1 hk with h|rfl
  ·have a:=I1 l F n k h i b;rw[ES l F n k h] at a;rw[ES l F (n+1) k hk,hr];exact⟨by rw[bd];omega,by rw[Nb a.1];exact a.2⟩
  rw[ES l F (k+1) k hk,plW];exact nT_ok _ F k (Ty l F k) i b
theorem MG(c:CT)(F t:Nat){pl:List (Nat×Nat)}: ∀i,∀p,p<(plT c F t i pl).length->p<pl.length \/ ∃j,j<i/\atP (plT c F t j pl) (Fh c (shF F t j))=p
 | 0,p,h =>.inl h
 | i+1,p,h=>by
  rw[plT] at h;by_cases b:Dh (plT c F t i pl) (Fh c (shF F t i)) (plT c F t i pl).length<0
  ·rw[Rn b,bd,iA] at h;by_cases e:p=(plT c F t i pl).length
   ·exact .inr ⟨i,ia i,by rw[SC b];exact e.symm⟩
   rcases MG c F t (pl:=pl) i p oo with h1|⟨j,h1,a⟩
   ·exact .inl h1
   exact .inr ⟨j,oo,a⟩
  rw[Rm b] at h;rcases MG c F t i p h with h1|⟨j,h1,a⟩
  ·exact .inl h1
  exact .inr ⟨j,oo,a⟩
theorem TE(l:List CT)(F:Nat): ∀n p,p<(plW l F n).length -> ∃k i,k<n/\i<3/\crn ((trW l F n).getD k (0,0,0)) i=p
 | 0,p,h=>absurd h (gS p)
 | n+1,p,h=>by
  rw[plW] at h;rcases MG _ F n 3 p h with h1|⟨j,h1,b⟩
  ·obtain ⟨k,i,hk,a,e⟩:=TE l F n p h1;refine⟨k,i,oo,a,?_⟩;rw[ES l F n k hk] at e;rw[ES l F (n+1) k oo];exact e
  refine⟨n,j,ia n,h1,?_⟩;rw[ES l F (n+1) n (ia n), <-b];have:j=0\/j=1\/j=2:=oo;rcases this with rfl|rfl|rfl<;>rfl
def twLe(p q r:Nat×Nat): Bool:=Nat.ble (p.1*q.2+q.1*r.2+r.1*p.2) (p.2*q.1+q.2*r.1+r.2*p.1)
def twLt(p q r:Nat×Nat): Bool:=Nat.blt (p.1*q.2+q.1*r.2+r.1*p.2) (p.2*q.1+q.2*r.1+r.2*p.1)
theorem gq: twLe J L X=true↔sgN J L X<=0:=by
 unfold twLe sgN;rw[Nat.ble_eq];constructor
 ·intro h;have:((J.1*L.2+L.1*X.2+X.1*J.2:Nat):Int)<=((J.2*L.1+L.2*X.1+X.2*J.1:Nat):Int):=by exact_mod_cast h
  grind
 intro h;have:((J.1*L.2+L.1*X.2+X.1*J.2:Nat):Int)<=((J.2*L.1+L.2*X.1+X.2*J.1:Nat):Int):=by grind
 exact_mod_cast this
theorem Fo: twLt J L X=true↔sgN J L X<0:=by
 unfold twLt sgN;rw[Nat.blt_eq];constructor
 ·intro h;have:((J.1*L.2+L.1*X.2+X.1*J.2:Nat):Int)<((J.2*L.1+L.2*X.1+X.2*J.1:Nat):Int):=by exact_mod_cast h
  grind
 intro h;have:((J.1*L.2+L.1*X.2+X.1*J.2:Nat):Int)<((J.2*L.1+L.2*X.1+X.2*J.1:Nat):Int):=by grind
 exact_mod_cast this
def mdP(p q:Nat×Nat): Nat×Nat:=(p.1+q.1,p.2+q.2)
theorem FK: mdP J L=mdP L J:=by unfold mdP;rw[uP,uP J.2]
def qR(t:CT): List CT:=[(mdP t.1 t.1,mdP t.2.1 t.2.1,mdP t.2.2 t.2.2),(mdP t.2.1 t.2.2,mdP t.1 t.1,mdP t.2.1 t.2.1),(mdP t.2.1 t.2.2,mdP t.2.2 t.2.2,mdP t.1 t.1),(mdP t.1 t.2.1,mdP t.2.1 t.2.2,mdP t.1 t.1),(mdP t.1 t.2.1,mdP t.2.1 t.2.1,mdP t.2.1 t.2.2),(mdP t.2.2 t.1,mdP t.2.1 t.2.2,mdP t.2.2 t.2.2),(mdP t.2.2 t.1,mdP t.1 t.1,mdP t.2.1 t.2.2)]
def edgP(p q:Nat×Nat)(y:CT): Bool:=twLe p q y.1 && twLe p q y.2.1 && twLe p q y.2.2
def byZ(x y:CT): Bool:=edgP x.1 x.2.1 y || edgP x.2.1 x.2.2 y || edgP x.2.2 x.1 y
def Y5(t:CT): List CT:=[t,(t.2.1,t.2.2,t.1),(t.2.2,t.1,t.2.1)]
def allP(t:CT): List CT:=(Y5 t).flatMap qR
def VX(t s:CT): Bool:=(allP t).all λx=>(allP s).all λy=>byZ x y || byZ y x
def Wt(t:CT): List ((Nat×Nat)×(Nat×Nat)):=[(t.2.1,t.2.2),(t.2.2,t.1),(t.1,t.2.1)]
def Cg(t:CT): List (Nat×Nat):=[t.1,t.2.1,t.2.2]
def kW(x:CT)(q:Nat×Nat): Bool:=twLt x.1 x.2.1 q || twLt x.2.1 x.2.2 q || twLt x.2.2 x.1 q || decide (q=x.1) || decide (q=x.2.1) || decide (q=x.2.2)
def outP(t s:CT): Bool:=(allP t).all λx=>((Cg s).all λv=>kW x (mdP v v)) && (Wt s).all λe=>kW x (mdP e.1 e.2) || (Wt t).any λf=>decide (mdP e.1 e.2=mdP f.1 f.2)
def difP(t s:CT): Bool:=(Wt t).all λe=>(Cg s).all λv => !(decide (mdP e.1 e.2=mdP v v))
def edoP(t s:CT): Bool:=(Wt t).all λe=>(Wt s).all λf => !(decide (mdP e.1 e.2=mdP f.1 f.2)) || (decide (e=f) || decide (e=(f.2,f.1)))
def mo(x:CT): Bool:=twLt x.2.1 x.1 x.2.2
def bR(b f g:Bool)(t:CT): List CT :=
 if b then (if f then [(mdP t.1 t.2.1,mdP t.2.1 t.2.2,mdP t.1 t.1),(mdP t.1 t.2.1,mdP t.2.1 t.2.1,mdP t.2.1 t.2.2)] else [(mdP t.2.1 t.2.2,mdP t.1 t.1,mdP t.2.1 t.2.1)])++(if g then [(mdP t.2.2 t.1,mdP t.2.1 t.2.2,mdP t.2.2 t.2.2),(mdP t.2.2 t.1,mdP t.1 t.1,mdP t.2.1 t.2.2)] else [(mdP t.2.1 t.2.2,mdP t.2.2 t.2.2,mdP t.1 t.1)])
 else [(mdP t.1 t.1,mdP t.2.1 t.2.1,mdP t.2.2 t.2.2)]
def prsP(r:CT->CT->Bool): List CT->Bool
 | []=>true
 | t::l=>(l.all λs=>r t s) && prsP r l
def flgP:List (Bool×Bool×Bool):=[(false,false,false),(true,false,false),(true,true,false),(true,false,true),(true,true,true)]
def locP(t:CT): Bool:=(Y5 t).all λu=>flgP.all λk=>prsP (λx y=>byZ x y || byZ y x) (bR k.1 k.2.1 k.2.2 u) && (bR k.1 k.2.1 k.2.2 u).all λx=>mo x && (!k.1 || kW x (mdP u.2.1 u.2.2)) && (!k.2.1 || kW x (mdP u.1 u.2.1)) && (!k.2.2 || kW x (mdP u.2.2 u.1))
def QK(w x y:Nat): List CT :=
 if w=0 then [((x,y),(x+2,y),(x+2,y+2)),((x,y),(x+2,y+2),(x,y+2))]
 else if w=1 then [((x,y),(x+2,y),(x,y+2)),((x+2,y),(x+2,y+2),(x,y+2))]
 else [((x,y),(x+2,y),(x+1,y+1)),((x+2,y),(x+2,y+2),(x+1,y+1)),((x+2,y+2),(x,y+2),(x+1,y+1)),((x,y+2),(x,y),(x+1,y+1))]
def it(t s:CT): Bool:=outP t s && difP t s && edoP t s
def nX(x y u v:Nat): Bool:=(List.range 3).all λw=>(List.range 3).all λz=>(QK w x y).all λt=>(QK z u v).all λs=>VX t s && it t s && it s t
def oneP(x y:Nat): Bool:=(List.range 3).all λw=>prsP VX (QK w x y) && (QK w x y).all λt=>locP t && (QK w x y).all λs=>it t s
theorem one_00:oneP 0 0=true:=by decide +kernel
theorem mA:oneP 2 0=true:=by decide +kernel
theorem mC:oneP 0 2=true:=by decide +kernel
theorem one_22:oneP 2 2=true:=by decide +kernel
theorem two_a:nX 0 0 2 0=true:=by decide +kernel
theorem two_b:nX 0 0 0 2=true:=by decide +kernel
theorem two_c:nX 0 0 2 2=true:=by decide +kernel
theorem two_d:nX 2 0 0 2=true:=by decide +kernel
theorem two_e:nX 2 0 2 2=true:=by decide +kernel
theorem two_f:nX 0 2 2 2=true:=by decide +kernel
structure Lat(l:List CT): Prop where
 pair:l.Pairwise λt s=>VX t s=true
 rel:∀t∈l,∀s∈l,it t s=true
 loc:∀t∈l,locP t=true
theorem kC{t s:CT}(h:VX t s=true): ∀x∈allP t,∀y∈allP s,byZ x y=true\/byZ y x=true:=λx hx y a=>by
 simpa using List.all_eq_true.1 (List.all_eq_true.1 h x hx) y a
theorem ZE{r:CT->CT->Bool}: ∀ {l},prsP r l=true->l.Pairwise λt s=>r t s=true
 | [],_=>List.Pairwise.nil
 | t::l,h=>by
  rw[prsP,cz] at h;exact List.pairwise_cons.2 ⟨List.all_eq_true.1 h.1,ZE h.2⟩
theorem C5{i x y:Nat}(h:w<8): cellT w i x y=[] \/ ∃z,z<3/\cellT w i x y=QK z x y:=by
 unfold cellT;split
 ·exact .inr ⟨0,by decide,rfl⟩
 split
 ·exact .inr ⟨1,by decide,rfl⟩
 split
 ·exact .inr ⟨2,by decide,rfl⟩
 exact .inl rfl
theorem Lat.one(h:w<8)(ho:oneP C r=true): Lat (cellT w Q C r):=by
 rcases C5 (i:=Q) (x:=C) (y:=r) h with e|⟨z,hz,e⟩
 ·rw[e];exact⟨List.Pairwise.nil,by simp,by simp⟩
 have h1:=List.all_eq_true.1 ho z (List.mem_range.2 hz);rw[cz,uD] at h1;rw[e];refine⟨ZE h1.1,λt ht s hs=>?_,λt ht=>?_⟩
 ·have a:=h1.2 t ht;rw[cz] at a;exact List.all_eq_true.1 a.2 s hs
 have a:=h1.2 t ht;rw[cz] at a;exact a.1
theorem HM(h:w<8)(d:Y<8)(ho:nX C r n9 o0=true): ∀t∈cellT w Q C r,∀s∈cellT Y b0 n9 o0,VX t s=true/\it t s=true/\it s t=true:=by
 intro t ht s hs;rcases C5 (i:=Q) (x:=C) (y:=r) h with e|⟨z,hz,e⟩
 ·rw[e] at ht;cases ht
 rcases C5 (i:=b0) (x:=n9) (y:=o0) d with b|⟨f,a,b⟩
 ·rw[b] at hs;cases hs
 rw[e] at ht;rw[b] at hs;have h1:=List.all_eq_true.1 (List.all_eq_true.1 (List.all_eq_true.1 (List.all_eq_true.1 ho z (List.mem_range.2 hz)) f (List.mem_range.2 a)) t ht) s hs;rw[cz,cz] at h1;exact⟨h1.1.1,h1.1.2,h1.2⟩
theorem Lat.app{l k:List CT}(hl:Lat l)(hk:Lat k)(h:∀t∈l,∀s∈k,VX t s=true/\it t s=true/\it s t=true): Lat (l++k):=by
 refine⟨List.pairwise_append.2 ⟨hl.pair,hk.pair,λt ht s hs=>(h t ht s hs).1⟩,λt ht s hs=>?_,λt ht=>?_⟩
 ·rcases List.mem_append.1 ht with a|a<;>rcases List.mem_append.1 hs with b|b
  ·exact hl.rel t a s b
  ·exact(h t a s b).2.1
  ·exact(h s b t a).2.2
  exact hk.rel t a s b
 rcases List.mem_append.1 ht with a|a
 ·exact hl.loc t a
 exact hk.loc t a
theorem bo(hw:∀i,h2 i<8)(a b:Nat)(ha:a=1\/a=2)(d:b=1\/b=2): Lat (Xw h2 a (a*b)):=by
 have nil:Lat []:=⟨List.Pairwise.nil,by simp,by simp⟩
 have l1:Lat ([]++cellT (h2 0) 0 0 0):=nil.app (Lat.one (hw 0) one_00) ss;rcases ha with rfl|rfl<;>rcases d with rfl|rfl
 ·exact l1
 ·refine l1.app (Lat.one (hw 1) mC) ?_;rw[ec];exact HM (hw 0) (hw 1) two_b
 ·refine l1.app (Lat.one (hw 1) mA) ?_;rw[ec];exact HM (hw 0) (hw 1) two_a
 have c:Lat ([]++cellT (h2 0) 0 0 0++cellT (h2 1) 1 2 0):=by
  refine l1.app (Lat.one (hw 1) mA) ?_;rw[ec];exact HM (hw 0) (hw 1) two_a
 have e:Lat ([]++cellT (h2 0) 0 0 0++cellT (h2 1) 1 2 0++cellT (h2 2) 2 0 2):=by
  refine c.app (Lat.one (hw 2) mC) λt ht s hs=>?_;rw[ec] at ht;rcases List.mem_append.1 ht with h|h
  ·exact HM (hw 0) (hw 2) two_b t h s hs
  exact HM (hw 1) (hw 2) two_d t h s hs
 refine e.app (Lat.one (hw 3) one_22) λt ht s hs=>?_;rw[ec] at ht;rcases List.mem_append.1 ht with h|h
 ·rcases List.mem_append.1 h with h|h
  ·exact HM (hw 0) (hw 3) two_c t h s hs
  exact HM (hw 1) (hw 3) two_e t h s hs
 exact HM (hw 2) (hw 3) two_f t h s hs
def P3(pl:List (Nat×Nat))(t:Nat×Nat×Nat): CT:=(pl.getD t.1 (0,0),pl.getD t.2.1 (0,0),pl.getD t.2.2 (0,0))
structure OkZ(pl:List (Nat×Nat))(ts:List (Nat×Nat×Nat)): Prop where
 num:∀t∈ts,Ad pl.length t=true
 pos:∀t∈ts,mo (P3 pl t)=true
 used:∀p,p<pl.length -> ∃t∈ts,Ay t p=true
 nd:pl.Nodup
 apart:∀i k,k<i->i<ts.length->byZ (P3 pl (ts.getD i (0,0,0))) (P3 pl (ts.getD k (0,0,0)))=true\/byZ (P3 pl (ts.getD k (0,0,0))) (P3 pl (ts.getD i (0,0,0)))=true
 out:∀t∈ts,∀q,q<pl.length->kW (P3 pl t) (pl.getD q (0,0))=true
theorem Mn: sgN L J X = - sgN J L X:=by simp only[sgN];grind
def Yn(m:M25)(D:Nat)(pl:List (Nat×Nat))(ts S:List (Nat×Nat×Nat)): Ms:=⟨pl.map (fK m D),ts,S⟩
theorem Vx(h:w<h3.length): pt (Yn m z h3 i1 o1) w=fK m z (h3.getD w (0,0)):=by
 simp[pt,Yn,List.getD,h]
theorem UF(c:1<=w)(ht:Ad G.length H=true)(hs:Ad G.length i6=true): rr (Yn m w G T Z) H i6=byZ (P3 G H) (P3 G i6):=by
 obtain ⟨t1,t2,t3,_⟩:=Qv.1 ht;obtain ⟨s1,s2,d,_⟩:=Qv.1 hs;have hd:∀p q r:Nat×Nat,(!decide ((twP (fK m w p) (fK m w q) (fK m w r)).num.sign>0))=twLe p q r:=λp q r=>by
  have h1:=SZ m c p q r;have b:(twP (fK m w p) (fK m w q) (fK m w r)).num.sign>0↔0<sgN p q r:=by
   rw[<-h1, <-numP];exact Int.sign_pos_iff
  rw[sv,oV,decide_eq_false_iff_not,gq,b];omega
 unfold rr ez nxP;rw[Vx m w G T Z t1,Vx m w G T Z t2,Vx m w G T Z t3,Vx m w G T Z s1,Vx m w G T Z s2,Vx m w G T Z d];simp only[vf,wM,wy,Bool.not_or,hd];simp[byZ,edgP,P3,Bool.and_assoc]
theorem Gy: Ay H w=true↔H.1=w\/H.2.1=w\/H.2.2=w:=by
 unfold Ay;simp[or_assoc]
theorem Eu(h:G.Nodup)(a:w<G.length)(hj:Q<G.length)(e:G.getD w (0,0)=G.getD Q (0,0)): w=Q:=by
 rw[List.getD_eq_getElem?_getD,List.getD_eq_getElem?_getD,List.getElem?_eq_getElem a,List.getElem?_eq_getElem hj] at e;exact(List.getElem_inj h).1 e
theorem mv_of(j:1<=w)(h:OkZ G T)(C:0<T.length)(A:∀p∈G,PtK Q (fK m w p))(y:∀s∈Z,s.1<G.length/\s.2.1<G.length/\s.2.2<=255)(hr:Z.map (λs=>(s.1,s.2.1,0))=Kz T)(n1:G.length<=4000)(z:T.length<=4000)(E:Z.length<=4000): MV Q (Yn m w G T Z):=by
 have g:(Yn m w G T Z).P.length=G.length:=by simp[Yn]
 have r:∀t∈T,pt (Yn m w G T Z) t.1=fK m w (P3 G t).1/\pt (Yn m w G T Z) t.2.1=fK m w (P3 G t).2.1/\pt (Yn m w G T Z) t.2.2=fK m w (P3 G t).2.2:=λt ht=>by
  obtain ⟨t1,t2,t3,_⟩:=Qv.1 (h.num t ht);exact⟨Vx m w _ _ _ t1,Vx m w _ _ _ t2,Vx m w _ _ _ t3⟩
 refine⟨?_,?_,?_,C,?_,?_,z,E,?_,?_,?_,?_,hr⟩
 ·rw[g];exact h.num
 ·intro t ht;obtain ⟨v,x,F⟩:=r t ht;rw[v,x,F];have o:=h.pos t ht;rw[mo,Fo,Mn] at o;exact tU (numP.2 ((SZ m j _ _ _).2 oo))
 ·rw[g];exact y
 ·intro p o;obtain ⟨q,hq,rfl⟩:=List.mem_map.1 o;exact A q hq
 ·rw[g];exact n1
 ·intro p o;rw[g] at o;exact h.used p o
 ·show(G.map (fK m w)).Nodup;rw[List.Nodup,tM];exact h.nd.imp λd e=>d (fK_inj m j e)
 ·intro i k l B;have f:i<T.length:=B;show(rr (Yn m w G T Z) (T.getD i (0,0,0)) (T.getD k (0,0,0)) || rr (Yn m w G T Z) (T.getD k (0,0,0)) (T.getD i (0,0,0)))=true;rw[UF m j (h.num _ (getD_mem _ f)) (h.num _ (getD_mem _ (ua l f))),UF m j (h.num _ (getD_mem _ (ua l f))) (h.num _ (getD_mem _ f)),iB];exact h.apart i k l f
 intro t ht q hq u;obtain ⟨v,x,F⟩:=r t ht;obtain ⟨t1,t2,t3,_⟩:=Qv.1 (h.num t ht);rw[g] at hq;rw[v,x,F,Vx m w _ _ _ hq];have ho:=h.out t ht q hq;rw[<-vV,Gy] at u;have d:∀c,c<G.length -> ¬c=q -> ¬G.getD q (0,0)=G.getD c (0,0):=λc hc n e=>n (Eu h.nd hq hc e).symm;simp only[kW,iB,decide_eq_true_iff,Fo,or_assoc] at ho;rcases ho with a|a|a|a|a|a
 ·exact .inr (.inr (XT m j _ _ _ a))
 ·exact .inl (XT m j _ _ _ (by rw[<-Q7];exact a))
 ·refine .inr<|.inl<|XT m j _ _ _ ?_;rw[<-Q7, <-Q7];exact a
 ·exact absurd a (d _ t1 λe=>u (.inl e))
 ·exact absurd a (d _ t2 λe=>u (.inr (.inl e)))
 exact absurd a (d _ t3 λe=>u (.inr (.inr e)))
structure Plc(pl:List (Nat×Nat))(ts:List (Nat×Nat×Nat))(l:List CT): Prop where
 nd:pl.Nodup
 num:∀t∈ts,Ad pl.length t=true
 at_:∀k,k<ts.length->P3 pl (ts.getD k (0,0,0))∈Y5 (l.getD k cl0)/\k<l.length
 used:∀p,p<pl.length -> ∃t∈ts,Ay t p=true
 lat:Lat l
def eT(t:Nat×Nat×Nat): List (Nat×Nat):=[Zg t.2.1 t.2.2,Zg t.2.2 t.1,Zg t.1 t.2.1]
structure CutE(ts:List (Nat×Nat×Nat))(E:List Ed): Prop where
 nd:(E.map λe=>(e.a,e.b)).Nodup
 mem:∀e∈E,∃t∈ts,(e.a,e.b)∈eT t
 cl:∀t∈ts,(Zg t.1 t.2.1∈E.map (λe=>(e.a,e.b))\/Zg t.2.2 t.1∈E.map (λe=>(e.a,e.b)))->Zg t.2.1 t.2.2∈E.map (λe=>(e.a,e.b))
def pl2(pl:List (Nat×Nat))(E:List Ed): List (Nat×Nat):=pl.map (λp=>mdP p p)++E.map λe=>mdP (pl.getD e.a (0,0)) (pl.getD e.b (0,0))
theorem IZ(E:List Ed): (pl2 h3 E).length=h3.length+E.length:=by simp[pl2]
theorem AV{E:List Ed}(h:w<G.length): (pl2 G E).getD w (0,0)=mdP (G.getD w (0,0)) (G.getD w (0,0)):=by
 rw[pl2,List.getD_eq_getElem?_getD,List.getElem?_append_left (by simpa using h)];simp[h]
theorem ZJ{E:List Ed}(h:w<E.length): (pl2 G E).getD (G.length+w) (0,0)=mdP (G.getD (E.getD w ed0).a (0,0)) (G.getD (E.getD w ed0).b (0,0)):=by
 simp[pl2,List.getD,h]
theorem JF: mdP (h3.getD (Zg o K).1 (0,0)) (h3.getD (Zg o K).2 (0,0))=mdP (h3.getD o (0,0)) (h3.getD K (0,0)):=by
 unfold Zg;rcases Nat.le_total o K with h|h
 ·rw[sp h,Nat.max_eq_right h]
 rw[Nat.min_eq_right h,Nat.max_eq_left h,FK]
theorem ML(E:List Ed)(N:Nat): ∀i j,j<i->(Zo (Xq E N i) ((E.getD j ed0).a,(E.getD j ed0).b)).isSome=true
 | i+1,j,h=>by
  rw[Xq,getA_put];split
  ·rfl
  rename_i c;rcases Nat.lt_succ_iff_lt_or_eq.1 h with h|rfl
  ·exact ML E N i j h
  exact absurd rfl c
theorem Br{E:List Ed}{N:Nat}: (Zo (Xq E N E.length) O).isSome=true↔O∈E.map λe=>(e.a,e.b):=by
 constructor
 ·intro h;obtain ⟨j,hj,_,e⟩:=BS h;rw[e];exact List.mem_map.2 ⟨_,getD_mem E hj,rfl⟩
 intro h;obtain ⟨e,he,rfl⟩:=List.mem_map.1 h;obtain ⟨j,hj,rfl⟩:=List.mem_iff_getElem.1 he;have:=ML E N E.length j hj;rw[List.getD_eq_getElem?_getD,List.getElem?_eq_getElem hj] at this;exact this
theorem LH{E:List Ed}(h:(Zo (Xq E G.length E.length) (Zg w Q)).isSome=true): (pl2 G E).getD ((Zo (Xq E G.length E.length) (Zg w Q)).getD 0) (0,0)=mdP (G.getD w (0,0)) (G.getD Q (0,0)):=by
 obtain ⟨j,hj,b,a⟩:=BS h;rw[b,ZJ hj, <-JF G w Q,a]
theorem mQ{E:List Ed}(hc:Ad G.length H=true): (Qo (Xq E G.length E.length) 2 H).map (P3 (pl2 G E))=bR (Zo (Xq E G.length E.length) (Zg H.2.1 H.2.2)).isSome (Zo (Xq E G.length E.length) (Zg H.1 H.2.1)).isSome (Zo (Xq E G.length E.length) (Zg H.2.2 H.1)).isSome (P3 G H):=by
 obtain ⟨h1,b,d,_⟩:=Qv.1 hc;unfold bR;rw[Qo];split
 ·rename_i a;rw[dv];congr 1
  ·rw[Qo];split
   ·rename_i hf;simp only[Qo,gH,ec,eb,la,P3,LH a,LH hf,AV h1,AV b]
   simp only[eb,la,P3,LH a,AV h1,AV b]
  rw[Qo];split
  ·rename_i hf;simp only[Qo,gH,ec,eb,la,P3,LH a,LH hf,AV h1,AV d]
  simp only[eb,la,P3,LH a,AV h1,AV d]
 simp only[eb,la,P3,AV h1,AV b,AV d]
theorem qt(t:CT): ∀x∈bR i7 j0 j1 t,x∈qR t:=by
 intro x hx;cases i7<;>cases j0<;>cases j1<;>simp[bR] at hx<;>simp[qR]<;>grind
theorem oO{u t:CT}(h:u∈Y5 t): ∀e,e∈Wt u↔e∈Wt t:=by
 intro e;simp[Y5] at h;rcases h with rfl|rfl|rfl<;>simp[Wt]<;>grind
theorem Mx{u t:CT}(h:u∈Y5 t): ∀e,e∈Cg u↔e∈Cg t:=by
 intro e;simp[Y5] at h;rcases h with rfl|rfl|rfl<;>simp[Cg]<;>grind
theorem eH{u t x:CT}(h:u∈Y5 t)(hx:x∈qR u): x∈allP t:=List.mem_flatMap.2 ⟨u,h,hx⟩
theorem EF{q:List ((Nat×Nat)×Nat)}{T:List (Nat×Nat×Nat)}{x:Nat×Nat×Nat}: ∀ {n},x∈allT q T n -> ∃k,k<n/\x∈Qo q 2 (T.getD k (0,0,0))
 | n+1,h=>by
  rw[allT] at h;rcases List.mem_append.1 h with h|h
  ·obtain ⟨k,h1,a⟩:=EF h;exact⟨k,oo,a⟩
  exact⟨n,ia n,h⟩
theorem BU{q:List ((Nat×Nat)×Nat)}{T:List (Nat×Nat×Nat)}{x:Nat×Nat×Nat}{k:Nat}(hx:x∈Qo q 2 (T.getD k (0,0,0))): ∀ {n},k<n->x∈allT q T n
 | n+1,h=>by
  rw[allT];rcases Nat.lt_succ_iff_lt_or_eq.1 h with h|rfl
  ·exact hI _ (BU hx h)
  exact eg _ hx
section
variable{pl:List (Nat×Nat)}{ts:List (Nat×Nat×Nat)}{l:List CT}{E:List Ed}
abbrev flg(E:List Ed)(N:Nat)(c:Nat×Nat×Nat): Bool×Bool×Bool:=((Zo (Xq E N E.length) (Zg c.2.1 c.2.2)).isSome,(Zo (Xq E N E.length) (Zg c.1 c.2.1)).isSome,(Zo (Xq E N E.length) (Zg c.2.2 c.1)).isSome)
theorem flg_ok(a:CutE ts E){N:Nat}(hc:H∈ts): flg E N H∈flgP:=by
 have h:=a.cl H hc;rw[<-Br (N:=N), <-Br (N:=N), <-Br (N:=N)] at h;unfold flg;generalize (Zo (Xq E N E.length) (Zg H.2.1 H.2.2)).isSome=b at *
 generalize (Zo (Xq E N E.length) (Zg H.1 H.2.1)).isSome=f at *
 generalize (Zo (Xq E N E.length) (Zg H.2.2 H.1)).isSome=g at *
 cases b<;>cases f<;>cases g<;>simp[flgP] at h ⊢
theorem Plc.loc(h:Plc pl ts l)(o:CutE ts E)(hk:w<ts.length):
  ((Qo (Xq E pl.length E.length) 2 (ts.getD w (0,0,0))).map (P3 (pl2 pl E))).Pairwise (λx y=>(byZ x y || byZ y x)=true) /\ ∀x∈Qo (Xq E pl.length E.length) 2 (ts.getD w (0,0,0)),P3 (pl2 pl E) x∈qR (P3 pl (ts.getD w (0,0,0)))/\mo (P3 (pl2 pl E) x)=true /\ ∀e∈eT (ts.getD w (0,0,0)),e∈E.map (λe=>(e.a,e.b))->kW (P3 (pl2 pl E) x) (mdP (pl.getD e.1 (0,0)) (pl.getD e.2 (0,0)))=true:=by
 have hm:=getD_mem ts (d:=(0,0,0)) hk;have h1:=h.at_ w hk;have hl:=h.lat.loc _ (getD_mem l (d:=cl0) h1.2);have j:=List.all_eq_true.1 (List.all_eq_true.1 hl _ h1.1) _ (flg_ok o (N:=pl.length) hm);rw[cz,uD] at j;have m:=mQ (E:=E) (h.num _ hm);refine⟨by rw[m];exact ZE j.1,λx hx=>?_⟩;have i:P3 (pl2 pl E) x∈bR (flg E pl.length (ts.getD w (0,0,0))).1 (flg E pl.length (ts.getD w (0,0,0))).2.1 (flg E pl.length (ts.getD w (0,0,0))).2.2 (P3 pl (ts.getD w (0,0,0))):=by rw[<-m];exact List.mem_map.2 ⟨x,hx,rfl⟩
 have n:=j.2 _ i;simp only[cz,iB,oV] at n;obtain ⟨⟨⟨p,g⟩,c⟩,f⟩:=n;refine⟨qt _ _ _ _ _ i,p,λe he hc=>?_⟩;rw[<-Br (N:=pl.length)] at hc;simp only[eT,cZ,cf,or_false] at he;rcases he with rfl|rfl|rfl
 ·rw[JF];rcases g with g|g
  ·rw[hc] at g;cases g
  exact g
 ·rw[JF];rcases f with f|f
  ·rw[hc] at f;cases f
  exact f
 rw[JF];rcases c with c|c
 ·rw[hc] at c;cases c
 exact c
end
section
variable{pl:List (Nat×Nat)}{ts:List (Nat×Nat×Nat)}{l:List CT}{E:List Ed}
theorem Wv(h:Ad w H=true)(he:O∈eT H): O.1<O.2/\O.2<w:=by
 obtain ⟨h1,b,f,c,d,a⟩:=Qv.1 h;simp only[eT,cZ,cf,or_false] at he;rcases he with rfl|rfl|rfl<;>(unfold Zg;simp only;omega)
theorem Uv(he:O∈eT b1): ∃f∈Wt (P3 pl b1),f=(pl.getD O.1 (0,0),pl.getD O.2 (0,0))\/f=(pl.getD O.2 (0,0),pl.getD O.1 (0,0)):=by
 have key:∀x y,(pl.getD x (0,0),pl.getD y (0,0))=(pl.getD (Zg x y).1 (0,0),pl.getD (Zg x y).2 (0,0))\/(pl.getD x (0,0),pl.getD y (0,0))=(pl.getD (Zg x y).2 (0,0),pl.getD (Zg x y).1 (0,0)):=λx y=>by
  unfold Zg;rcases Nat.le_total x y with h|h
  ·left;rw[sp h,Nat.max_eq_right h]
  right;rw[Nat.min_eq_right h,Nat.max_eq_left h]
 simp only[eT,cZ,cf,or_false] at he;rcases he with rfl|rfl|rfl
 ·exact⟨_,ae,key _ _⟩
 ·exact⟨_,aX _ ae,key _ _⟩
 exact⟨_,aX _ (aX _ ae),key _ _⟩
theorem pos_eT{f:(Nat×Nat)×(Nat×Nat)}(hf:f∈Wt (P3 pl b1)): ∃e∈eT b1,mdP (pl.getD e.1 (0,0)) (pl.getD e.2 (0,0))=mdP f.1 f.2:=by
 simp only[Wt,P3,cZ,cf,or_false] at hf;rcases hf with rfl|rfl|rfl
 ·exact⟨_,ae,JF _ _ _⟩
 ·exact⟨_,aX _ ae,JF _ _ _⟩
 exact⟨_,aX _ (aX _ ae),JF _ _ _⟩
theorem Plc.rel(h:Plc pl ts l)(hk:w<ts.length)(hj:Q<ts.length): outP (l.getD w cl0) (l.getD Q cl0)=true/\difP (l.getD w cl0) (l.getD Q cl0)=true/\edoP (l.getD w cl0) (l.getD Q cl0)=true:=by
 have:=h.lat.rel _ (getD_mem l (d:=cl0) (h.at_ w hk).2) _ (getD_mem l (d:=cl0) (h.at_ Q hj).2);rw[it,cz,cz] at this;exact⟨this.1.1,this.1.2,this.2⟩
theorem Plc.eds(h:Plc pl ts l)(hk:w<ts.length)(f): f∈Wt (P3 pl (ts.getD w (0,0,0)))↔f∈Wt (l.getD w cl0):=oO (h.at_ w hk).1 f
theorem Plc.edo(h:Plc pl ts l)(hk:w<ts.length)(hj:Q<ts.length)(he:O∈eT (ts.getD w (0,0,0)))(q:e8∈eT (ts.getD Q (0,0,0)))(hm:mdP (pl.getD O.1 (0,0)) (pl.getD O.2 (0,0))=mdP (pl.getD e8.1 (0,0)) (pl.getD e8.2 (0,0))): O=e8:=by
 obtain ⟨f,hf,m⟩:=Uv (pl:=pl) _ he;obtain ⟨d,hd,i⟩:=Uv (pl:=pl) _ q;have h1:=Wv (h.num _ (getD_mem ts (d:=(0,0,0)) hk)) he;have o:=Wv (h.num _ (getD_mem ts (d:=(0,0,0)) hj)) q;have hr:=List.all_eq_true.1 (List.all_eq_true.1 (h.rel hk hj).2.2 f ((h.eds hk f).1 hf)) d ((h.eds hj d).1 hd);have p:mdP f.1 f.2=mdP d.1 d.2:=by
  rcases m with rfl|rfl<;>rcases i with rfl|rfl<;>simp only[FK (pl.getD O.2 (0,0)),FK (pl.getD e8.2 (0,0)),hm]
 simp only[p,decide_true,Bool.not_true,wz,iB,decide_eq_true_iff] at hr;have inj:∀ {a b:Nat},a<pl.length->b<pl.length->pl.getD a (0,0)=pl.getD b (0,0)->a=b:=λha r O=>Eu h.nd ha r O;have n:O.1<pl.length:=oo;have a2:e8.1<pl.length:=oo;have fin:∀ {a b c d:Nat×Nat},(a,b)=(c,d)->a=c/\b=d:=λh=>kb .. ▸ h;rcases m with rfl|rfl<;>rcases i with rfl|rfl<;>rcases hr with hr|hr<;>(have hr:=fin hr)<;>
  first
  | exact uI (inj n a2 hr.1) (inj h1.2 o.2 hr.2)
  | exact uI (inj n a2 hr.2) (inj h1.2 o.2 hr.1)
  | (have:=inj n o.2 hr.1;have:=inj h1.2 a2 hr.2;omega)
  | (have:=inj n o.2 hr.2;have:=inj h1.2 a2 hr.1;omega)
theorem Plc.vtx(h:Plc pl ts l)(b:w<pl.length): ∃k,k<ts.length/\pl.getD w (0,0)∈Cg (l.getD k cl0):=by
 obtain ⟨t,ht,a⟩:=h.used w b;obtain ⟨k,hk,rfl⟩:=List.mem_iff_getElem.1 ht;refine⟨k,hk,(Mx (h.at_ k hk).1 _).1 ?_⟩;rw[List.getD_eq_getElem?_getD,List.getElem?_eq_getElem hk];rw[Gy] at a;simp only[et,Cg,P3,cZ,cf,or_false];rcases a with e|e|e<;>rw[e]<;>simp
theorem CutE.tri(c:CutE ts E){e:Ed}(he:e∈E): ∃k,k<ts.length/\(e.a,e.b)∈eT (ts.getD k (0,0,0)):=by
 obtain ⟨t,ht,h⟩:=c.mem e he;obtain ⟨k,hk,rfl⟩:=List.mem_iff_getElem.1 ht;exact⟨k,hk,by rw[List.getD_eq_getElem?_getD,List.getElem?_eq_getElem hk];exact h⟩
theorem qC(h:Plc pl ts l)(m:CutE ts E): (pl2 pl E).Nodup:=by
 unfold pl2;rw[w8];refine⟨?_,?_,?_⟩
 ·rw[List.Nodup,tM];refine h.nd.imp λc e=>c ?_;simp only[mdP,kb] at e;exact uI oo oo
 ·rw[List.Nodup,tM];have h1:=m.nd;rw[List.Nodup,tM] at h1;refine h1.imp_of_mem λ{a b} ha q c e=>c ?_;obtain ⟨k,hk,n⟩:=m.tri ha;obtain ⟨j,hj,g⟩:=m.tri q;exact h.edo hk hj n g e
 intro a ha b q e;obtain ⟨p,s,rfl⟩:=List.mem_map.1 ha;obtain ⟨d,hd,rfl⟩:=List.mem_map.1 q;obtain ⟨i,r,rfl⟩:=List.mem_iff_getElem.1 s;obtain ⟨k,hk,hv⟩:=h.vtx r;obtain ⟨j,hj,g⟩:=m.tri hd;obtain ⟨f,hf,o⟩:=Uv (pl:=pl) _ g;have hr:=List.all_eq_true.1 (List.all_eq_true.1 (h.rel hj hk).2.1 f ((h.eds hj f).1 hf)) _ hv;rw[List.getD_eq_getElem?_getD,List.getElem?_eq_getElem r,et] at hr;rw[oV,decide_eq_false_iff_not] at hr;apply hr;rw[e];rcases o with rfl|rfl
 ·rfl
 exact FK _ _
theorem jJ(h:Plc pl ts l)(s:CutE ts E)(hk:w<ts.length)(hx:H∈Qo (Xq E pl.length E.length) 2 (ts.getD w (0,0,0)))(hq:Q<(pl2 pl E).length): kW (P3 (pl2 pl E) H) ((pl2 pl E).getD Q (0,0))=true:=by
 have hl:=(h.loc s hk).2 H hx;have g:=eH (h.at_ w hk).1 hl.1;rw[IZ] at hq;rcases el Q pl.length with h1|h1
 ·obtain ⟨j,hj,hv⟩:=h.vtx h1;have hr:=List.all_eq_true.1 (h.rel hk hj).1 _ g;rw[cz] at hr;rw[AV h1];exact List.all_eq_true.1 hr.1 _ hv
 obtain ⟨i,rfl⟩:=vi h1;have r:i<E.length:=oo;rw[ZJ r];obtain ⟨j,hj,m⟩:=s.tri (getD_mem E (d:=ed0) r);obtain ⟨f,hf,p⟩:=Uv (pl:=pl) _ m;have n:mdP f.1 f.2=mdP (pl.getD (E.getD i ed0).a (0,0)) (pl.getD (E.getD i ed0).b (0,0)):=by
  rcases p with rfl|rfl
  ·rfl
  exact FK _ _
 have hr:=List.all_eq_true.1 (h.rel hk hj).1 _ g;rw[cz] at hr;have c:=List.all_eq_true.1 hr.2 f ((h.eds hj f).1 hf);rw[n,iB,uh] at c;rcases c with c|⟨d,hd,c⟩
 ·exact c
 rw[decide_eq_true_iff] at c;obtain ⟨e,he,o⟩:=pos_eT _ ((h.eds hk d).2 hd);have:=h.edo hk hj he m (by rw[o, <-c]);have t:=hl.2.2 e he (by rw[this];exact List.mem_map.2 ⟨_,getD_mem E (d:=ed0) r,rfl⟩);rw[this] at t;exact t
theorem cw(h:Plc pl ts l)(f:CutE ts E): ∀n,n<=ts.length->(allT (Xq E pl.length E.length) ts n).Pairwise λx y=>(byZ (P3 (pl2 pl E) x) (P3 (pl2 pl E) y) || byZ (P3 (pl2 pl E) y) (P3 (pl2 pl E) x))=true
 | 0,_=>List.Pairwise.nil
 | n+1,o=>by
  rw[allT,vz];refine⟨cw h f n oo,List.pairwise_map.1 (h.loc f oo).1,λx hx y m=>?_⟩;obtain ⟨k,hk,hx⟩:=EF hx;have c:k<ts.length:=oo;have d:n<ts.length:=oo;have a:=eH (h.at_ k c).1 ((h.loc f c).2 x hx).1;have b:=eH (h.at_ n d).1 ((h.loc f d).2 y m).1;have j:=List.pairwise_iff_getElem.1 h.lat.pair k n (h.at_ k c).2 (h.at_ n d).2 hk;have e:∀i (g:i<l.length),l.getD i cl0=l[i]:=λi g=>by rw[List.getD_eq_getElem?_getD,List.getElem?_eq_getElem g];rfl
  rw[e k (h.at_ k c).2] at a;rw[e n (h.at_ n d).2] at b;rw[iB];exact kC j _ a _ b
theorem Iy: (∃x∈Qo a1 2 b1,Ay x b1.1=true)/\(∃x∈Qo a1 2 b1,Ay x b1.2.1=true)/\(∃x∈Qo a1 2 b1,Ay x b1.2.2=true):=by
 simp only[Qo];split<;>(try split)<;>(try split)<;>simp[Ay]
theorem jG(hk:O∈eT H)(hs:(Zo j2 O).isSome=true)(hc:((Zo j2 (Zg H.1 H.2.1)).isSome=true\/(Zo j2 (Zg H.2.2 H.1)).isSome=true)->(Zo j2 (Zg H.2.1 H.2.2)).isSome=true): ∃x∈Qo j2 2 H,Ay x ((Zo j2 O).getD 0)=true:=by
 simp only[eT,cZ,cf,or_false] at hk;have a:(Zo j2 (Zg H.2.1 H.2.2)).isSome=true:=by
  rcases hk with rfl|rfl|rfl
  ·exact hs
  ·exact hc (.inr hs)
  exact hc (.inl hs)
 simp only[Qo,a,if_true];rcases hk with rfl|rfl|rfl
 ·split<;>split<;>simp[Ay]
 ·rw[if_pos hs];split<;>simp[Ay]
 rw[if_pos hs];split<;>simp[Ay]
theorem E4(h:Plc pl ts l)(m:CutE ts E): OkZ (pl2 pl E) (allT (Xq E pl.length E.length) ts ts.length):=by
 refine⟨λt ht=>?_,λt ht=>?_,λp w=>?_,qC h m,λi k o g=>?_,λt ht q hq=>?_⟩
 ·obtain ⟨k,hk,hx⟩:=EF ht;rw[IZ];exact M9 (h.num _ (getD_mem ts (d:=(0,0,0)) hk)) t hx
 ·obtain ⟨k,hk,hx⟩:=EF ht;exact((h.loc m hk).2 t hx).2.1
 ·rw[IZ] at w;rcases el p pl.length with h1|h1
  ·obtain ⟨t,ht,c⟩:=h.used p h1;obtain ⟨k,hk,rfl⟩:=List.mem_iff_getElem.1 ht;have e:ts.getD k (0,0,0)=ts[k]:=by rw[List.getD_eq_getElem?_getD,List.getElem?_eq_getElem hk];rfl
   have hc:=Iy (Xq E pl.length E.length) ts[k];rw[Gy] at c;rcases c with rfl|rfl|rfl
   ·obtain ⟨x,hx,c⟩:=hc.1;exact⟨x,BU (k:=k) (by rw[e];exact hx) hk,c⟩
   ·obtain ⟨x,hx,c⟩:=hc.2.1;exact⟨x,BU (k:=k) (by rw[e];exact hx) hk,c⟩
   obtain ⟨x,hx,c⟩:=hc.2.2;exact⟨x,BU (k:=k) (by rw[e];exact hx) hk,c⟩
  obtain ⟨i,rfl⟩:=vi h1;have g:i<E.length:=oo;obtain ⟨k,hk,s⟩:=m.tri (getD_mem E (d:=ed0) g);have hs:=ML E pl.length E.length i g;obtain ⟨j,hj,y,v⟩:=BS hs;have u:i=j:=by
   have:=m.nd;have a:(E.map λe=>(e.a,e.b))[i]?=(E.map λe=>(e.a,e.b))[j]?:=by
    rw[List.getElem?_map,List.getElem?_map,List.getElem?_eq_getElem g,List.getElem?_eq_getElem hj];have f:∀n (r:n<E.length),E.getD n ed0=E[n]:=λn r=>by rw[List.getD_eq_getElem?_getD,List.getElem?_eq_getElem r];rfl
    rw[f i g,f j hj] at v;simp[v]
   exact(List.getElem?_inj (by simpa using g) this).1 a
  subst u;obtain ⟨x,hx,c⟩:=jG s hs (by
   intro hc;have:=m.cl _ (getD_mem ts (d:=(0,0,0)) hk);rw[<-Br (N:=pl.length), <-Br (N:=pl.length), <-Br (N:=pl.length)] at this;exact this hc)
  rw[y] at c;exact⟨x,BU hx hk,c⟩
 ·have:=List.pairwise_iff_getElem.1 (cw h m ts.length (aZ _)) k i (ua o g) g o;have f:∀n (r:n<(allT (Xq E pl.length E.length) ts ts.length).length),(allT (Xq E pl.length E.length) ts ts.length).getD n (0,0,0)=(allT (Xq E pl.length E.length) ts ts.length)[n]:=λn r=>by rw[List.getD_eq_getElem?_getD,List.getElem?_eq_getElem r];rfl
  rw[f i g,f k (ua o g)];rw[iB] at this;exact this.symm
 obtain ⟨k,hk,hx⟩:=EF ht;exact jJ h m hk hx hq
end
theorem dY(hc:Ad w H=true)(o:Q<C)(m:List ((Nat×Nat)×Nat)): (Zo (kx H 3 m) (Q,C)).getD 0=(Zo m (Q,C)).getD 0+if Ay H Q && Ay H C then 1 else 0:=by
 obtain ⟨_,_,_,f,g,e⟩:=Qv.1 hc;simp only[kx,Ie,getA_put,crn];have k1:∀x y:Nat,x≠y->((Q,C)=Zg x y↔(Q=x/\C=y)\/(Q=y/\C=x)):=λx y l=>by
  unfold Zg;rw[kb];omega
 have d:(Ay H Q && Ay H C)=true↔((Q,C)=Zg H.1 H.2.1\/(Q,C)=Zg H.2.1 H.2.2\/(Q,C)=Zg H.2.2 H.1):=by
  rw[k1 _ _ f,k1 _ _ g,k1 _ _ e,cz,Gy,Gy];omega
 have d1:(Q,C)=Zg H.1 H.2.1 -> ¬(Q,C)=Zg H.2.1 H.2.2:=by rw[k1 _ _ f,k1 _ _ g];omega
 have d2:(Q,C)=Zg H.2.1 H.2.2 -> ¬(Q,C)=Zg H.2.2 H.1:=by rw[k1 _ _ g,k1 _ _ e];omega
 have d3:(Q,C)=Zg H.1 H.2.1 -> ¬(Q,C)=Zg H.2.2 H.1:=by rw[k1 _ _ f,k1 _ _ e];omega
 by_cases i:(Q,C)=Zg H.1 H.2.1
 ·rw[if_pos (d.2 (.inl i))]
  grind
 by_cases k:(Q,C)=Zg H.2.1 H.2.2
 ·rw[if_pos (d.2 (.inr (.inl k)))]
  grind
 by_cases j:(Q,C)=Zg H.2.2 H.1
 ·rw[if_pos (d.2 (.inr (.inr j)))]
  grind
 rw[if_neg (λh=>(d.1 h).elim i λh=>h.elim k j)]
 grind
theorem dX{n a b:Nat}{l:List (Nat×Nat×Nat)}(h:∀c∈l,Ad n c=true)(d:a<b): ∀t,t<=l.length->(Zo (Km l t) (a,b)).getD 0=Dc l a b t
 | 0,_=>rfl
 | t+1,ht=>by rw[Km,dY (h _ (getD_mem l oo)) d,dX h d t oo,Dc]
theorem co{α:Type}[DecidableEq α](m:List (α×o2))(k:α): (Zo m k).isSome=true↔k∈m.map (·.1):=by
 induction m with
 | nil=>simp[Zo]
 | cons p m a =>
  rw[Zo,eb,cZ];by_cases e:p.1=k
  ·rw[if_pos e];exact⟨λ_ =>.inl e.symm,λ_=>rfl⟩
  rw[if_neg e,a];exact⟨.inr,λh=>h.elim (λh=>absurd h.symm e) id⟩
theorem Wu(m:List ((Nat×Nat)×Ed))(k:Nat×Nat): (Zo (GG W b1 3 m) k).isSome=true↔(k∈eT b1\/(Zo m k).isSome=true):=by
 simp only[GG,DR,getA_put,crn,eT,cZ,cf,or_false];by_cases d:k=Zg b1.1 b1.2.1<;>by_cases b:k=Zg b1.2.1 b1.2.2<;>by_cases a:k=Zg b1.2.2 b1.1<;>simp_all
theorem LY(l:List (Nat×Nat×Nat))(k:Nat×Nat): ∀t,t<=l.length->((Zo (Qy l t) k).isSome=true ↔ ∃j,j<t/\k∈eT (l.getD j (0,0,0)))
 | 0,_=>by simp[Qy,Zo]
 | t+1,ht=>by
  rw[Qy,Wu,LY l k t oo];constructor
  ·rintro(h|⟨j,h1,a⟩)
   ·exact⟨t,ia t,h⟩
   exact⟨j,oo,a⟩
  rintro⟨j,h1,a⟩;rcases Nat.lt_succ_iff_lt_or_eq.1 h1 with h|rfl
  ·exact .inr ⟨j,h,a⟩
  exact .inl a
theorem JY(h:∀c∈T,Ad w c=true)(k:Nat×Nat): k∈(Za T).map (λe=>(e.a,e.b)) ↔ ∃t∈T,k∈eT t:=by
 have g:=DT h T.length (aZ _);have hk:((Qy T T.length).map (·.2)).map (λe=>(e.a,e.b))=(Qy T T.length).map (·.1):=by
  rw[sI];exact tz λp f=>by have:=g.2 p f;simp only[Function.comp];rw[this.a,this.b]
 rw[Za,((Vf _).map _).mem_iff,hk, <-co,LY T k _ (aZ _)];constructor
 ·rintro⟨j,h1,d⟩;exact⟨_,getD_mem T h1,d⟩
 rintro⟨t,ht,d⟩;obtain ⟨j,hj,rfl⟩:=List.mem_iff_getElem.1 ht;exact⟨j,hj,by rw[List.getD_eq_getElem?_getD,List.getElem?_eq_getElem hj];exact d⟩
theorem Px(h:∀c∈T,Ad w c=true): ((Za T).map (λe=>(e.a,e.b))).Nodup:=by
 have d:=DT h T.length (aZ _);have hk:((Qy T T.length).map (·.2)).map (λe=>(e.a,e.b))=(Qy T T.length).map (·.1):=by
  rw[sI];exact tz λp f=>by have:=d.2 p f;simp only[Function.comp];rw[this.a,this.b]
 rw[Za,((Vf _).map _).nodup_iff,hk];exact d.1
theorem dP(l:List (Nat×Nat×Nat))(a b:Nat): ∀t,0<Dc l a b t -> ∃j,j<t/\Ay (l.getD j (0,0,0)) a=true/\Ay (l.getD j (0,0,0)) b=true
 | 0,h=>absurd h (wt 0)
 | t+1,h=>by
  rw[Dc] at h;by_cases e:(Ay (l.getD t (0,0,0)) a && Ay (l.getD t (0,0,0)) b)=true
  ·rw[cz] at e;exact⟨t,ia t,e⟩
  rw[if_neg e] at h;obtain ⟨j,h1,c⟩:=dP l a b t oo;exact⟨j,oo,c⟩
def ltS(x y:Nat×Nat×Nat): Prop:=x.1<y.1\/(x.1=y.1/\x.2.1<y.2.1)
theorem mJ:∀ {l k:List (Nat×Nat×Nat)},l.Pairwise ltS->k.Pairwise ltS->(∀x,x∈l↔x∈k)->l=k
 | [],[],_,_,_=>rfl
 | [],y::k,_,_,h=>absurd ((h y).2 ae) ss
 | x::l,[],_,_,h=>absurd ((h x).1 ae) ss
 | x::l,y::k,h1,c,h=>by
  rw[uj] at h1 c;have d:x=y:=by
   rcases List.mem_cons.1 ((h x).1 ae) with e|a
   ·exact e
   rcases List.mem_cons.1 ((h y).2 ae) with e|b
   ·exact e.symm
   have:=c.1 x a;have:=h1.1 y b;unfold ltS at *;omega
  subst d;rw[mJ h1.2 c.2 λz=>⟨λhz=>?_,λhz=>?_⟩]
  ·rcases List.mem_cons.1 ((h z).1 (aX _ hz)) with rfl|a
   ·have:=h1.1 z hz;unfold ltS at this;omega
   exact a
  rcases List.mem_cons.1 ((h z).2 (aX _ hz)) with rfl|a
  ·have:=c.1 z hz;unfold ltS at this;omega
  exact a
theorem IW(h:∀c∈T,Ad w c=true): (Kz T).Pairwise ltS:=by
 rw[Kz,tM];refine u0 _ ?_;have h1:=Bm ((Qy T T.length).map (·.2));have d:=Px h;rw[List.Nodup,tM] at d;refine List.Pairwise.imp₂ (λx y a b=>?_) h1 d;rw[C3] at a;unfold ltS sdE;have:¬(x.a=y.a/\x.b=y.b):=λe=>b (by rw[e.1,e.2]);simp only;omega
theorem A1{n:Nat}(h:∀c∈T,Ad n c=true)(x:Nat×Nat×Nat): x∈Kz T↔x.1<x.2.1/\x.2.1<n/\x.2.2=0/\Dc T x.1 x.2.1 T.length=1:=by
 rw[Kz,uB];constructor
 ·rintro⟨e,he,rfl⟩;rw[vr] at he;have ok:=EA h e he.1;have:=ok.lt;have:=ok.n;simp only at *
  have hr:=he.2;rw[Ox,decide_eq_true_iff,dX h ok.lt _ (aZ _)] at hr;exact⟨ok.lt,ok.n,rfl,hr⟩
 rintro⟨h1,k,g,f⟩;have hk:(x.1,x.2.1)∈(Za T).map (λe=>(e.a,e.b)):=by
  rw[JY h];have:=dP T x.1 x.2.1 T.length oo;obtain ⟨j,hj,ha,i⟩:=this;refine⟨_,getD_mem T (d:=(0,0,0)) hj,?_⟩;rw[Gy] at ha i;simp only[eT,cZ,cf,or_false,Zg,kb];omega
 obtain ⟨e,he,hx⟩:=List.mem_map.1 hk;refine⟨e,List.mem_filter.2 ⟨he,?_⟩,?_⟩
 ·rw[Ox,decide_eq_true_iff,hx,dX h h1 _ (aZ _)];exact f
 rw[kb] at hx;exact uI hx.1 (uI hx.2 g.symm)
theorem Mp(f:List (Nat×Nat×Nat))(F a:Nat)(x:Nat×Nat×Nat): ∀b,x∈(sdI f F a b).map (λs=>(s.1,s.2.1,0))↔x.1=a/\x.2.1<b/\x.2.2=0/\a<x.2.1/\Dc f a x.2.1 f.length=1
 | 0=>by simp[sdI]
 | b+1=>by
  rw[sdI,dv,u2,Mp f F a x b];split
  ·rename_i h;simp only[eb,la,da];constructor
   ·rintro(⟨h1,e,c⟩|rfl)
    ·exact⟨h1,oo,c⟩
    exact⟨rfl,by simp,rfl,h.1,h.2⟩
   rintro⟨h1,e,c,i,g⟩;rcases Nat.lt_succ_iff_lt_or_eq.1 e with d|d
   ·exact .inl ⟨h1,d,c,i,g⟩
   exact .inr (uI h1 (uI d c))
  rename_i h;simp only[la,cf,or_false];constructor
  ·rintro⟨h1,e,c⟩;exact⟨h1,oo,c⟩
  rintro⟨h1,e,c,i,g⟩;refine⟨h1,?_,c,i,g⟩;rcases Nat.lt_succ_iff_lt_or_eq.1 e with d|d
  ·exact d
  exact absurd ⟨oo,by rw[<-d];exact g⟩ h
theorem Ra(d:List (Nat×Nat×Nat))(F n:Nat)(x:Nat×Nat×Nat): ∀a,x∈(sdW d F n a).map (λs=>(s.1,s.2.1,0))↔x.1<a/\x.2.1<n/\x.2.2=0/\x.1<x.2.1/\Dc d x.1 x.2.1 d.length=1
 | 0=>by simp[sdW]
 | a+1=>by
  rw[sdW,dv,u2,Ra d F n x a,Mp];constructor
  ·rintro(⟨h1,b⟩|⟨h1,b,f,g,e⟩)
   ·exact⟨oo,b⟩
   exact⟨oo,b,f,oo,by rw[h1];exact e⟩
  rintro⟨h1,b,f,g,e⟩;rcases Nat.lt_succ_iff_lt_or_eq.1 h1 with c|c
  ·exact .inl ⟨c,b,f,g,e⟩
  exact .inr ⟨c,b,f,oo,by rw[<-c];exact e⟩
theorem Lm(d:List (Nat×Nat×Nat))(F a:Nat): ∀b,((sdI d F a b).map (λs=>(s.1,s.2.1,0))).Pairwise ltS
 | 0=>List.Pairwise.nil
 | b+1=>by
  rw[sdI,dv,vz];refine⟨Lm d F a b,by split<;>simp,λx hx y c=>?_⟩;rw[Mp] at hx;split at c
  ·simp only[eb,la,da] at c;subst c;exact .inr ⟨hx.1,hx.2.1⟩
  cases c
theorem Ll(b:List (Nat×Nat×Nat))(F n:Nat): ∀a,((sdW b F n a).map (λs=>(s.1,s.2.1,0))).Pairwise ltS
 | 0=>List.Pairwise.nil
 | a+1=>by
  rw[sdW,dv,vz];refine⟨Ll b F n a,Lm b F a n,λx hx y c=>?_⟩;rw[Ra] at hx;rw[Mp] at c;exact .inl oo
theorem rim_sd(h:∀c∈T,Ad w c=true): (sdW T W w w).map (λs=>(s.1,s.2.1,0))=Kz T:=by
 refine mJ (Ll T W w w) (IW h) λx=>?_;rw[Ra,A1 h];constructor
 ·rintro⟨h1,b,e,d,f⟩;exact⟨d,b,e,f⟩
 rintro⟨h1,b,e,d⟩;exact⟨oo,b,e,h1,d⟩
theorem pw(h:mo (mdP O O,mdP e8 e8,mdP j3 j3)=true): O≠e8/\e8≠j3/\j3≠O:=by
 rw[mo,Fo] at h;simp only[sgN,mdP] at h;refine⟨λe=>?_,λe=>?_,λe=>?_⟩<;>subst e<;>grind
theorem pZ{t:CT}(h:locP t=true){u:CT}(hu:u∈Y5 t): u.1≠u.2.1/\u.2.1≠u.2.2/\u.2.2≠u.1:=by
 have h1:=List.all_eq_true.1 (List.all_eq_true.1 h u hu) (false,false,false) dd;rw[cz,uD] at h1;have a:=h1.2 (mdP u.1 u.1,mdP u.2.1 u.2.1,mdP u.2.2 u.2.2) (by simp[bR]);simp only[cz] at a;exact pw a.1.1.1
theorem UG(l:List CT)(F:Nat)(hk:w<l.length): P3 (plW l F l.length) ((trW l F l.length).getD w (0,0,0))∈Y5 (l.getD w cl0):=by
 have b:=(I1 l F l.length w hk 0 dd).2;have h1:=(I1 l F l.length w hk 1 dd).2;have a:=(I1 l F l.length w hk 2 dd).2;simp only[crn] at b h1 a;unfold P3;rw[b,h1,a];have s0:shF F w 0<3:=S8 F w 0;have d:shF F w 1=(shF F w 0+1)%3:=by unfold shF;omega
 have c:shF F w 2=(shF F w 0+2)%3:=by unfold shF;omega
 rw[d,c];have:shF F w 0=0\/shF F w 0=1\/shF F w 0=2:=oo;rcases this with e|e|e<;>rw[e]<;>simp[Y5,Fh]
theorem kR{l:List CT}(h:Lat l): Plc (plW l W l.length) (trW l W l.length) l:=by
 refine⟨Ty l W _,λt ht=>?_,λk hk=>?_,λp f=>?_,h⟩
 ·obtain ⟨k,hk,rfl⟩:=List.mem_iff_getElem.1 ht;rw[Af] at hk;have e:(trW l W l.length)[k]'(by rw[Af];exact hk)=(trW l W l.length).getD k (0,0,0):=by rw[List.getD_eq_getElem?_getD,List.getElem?_eq_getElem (by rw[Af];exact hk)];rfl
  rw[e];have a0:=(I1 l W l.length k hk 0 dd).1;have a:=(I1 l W l.length k hk 1 dd).1;have a2:=(I1 l W l.length k hk 2 dd).1;simp only[crn] at a0 a a2;obtain ⟨n1,b,c⟩:=pZ (h.loc _ (getD_mem l (d:=cl0) hk)) (UG l W hk);simp only[P3] at n1 b c;exact Qv.2 ⟨a0,a,a2,λe=>n1 (by rw[e]),λe=>b (by rw[e]),λe=>c (by rw[e])⟩
 ·rw[Af] at hk;exact⟨UG l W hk,hk⟩
 obtain ⟨k,i,hk,g,e⟩:=TE l W l.length p f;refine⟨_,getD_mem _ (d:=(0,0,0)) (by rw[Af];exact hk),?_⟩;rw[Gy];have:i=0\/i=1\/i=2:=oo;rcases this with rfl|rfl|rfl
 ·exact .inl e
 ·exact .inr (.inl e)
 exact .inr (.inr e)
def gI(t s:CT): Bool:=(Cg t).any λv=>decide (v∈Cg s)
def lnkP(c0 c:List CT): Bool:=c.all λt=>c.any λt'=>gI t' t && c0.any λs=>gI s t'
def hdP(c:List CT): Bool:=c.all λt=>gI (c.getD 0 cl0) t
def CnL(l:List CT): Prop := ∀Y:CT->Prop,Y (l.getD 0 cl0)->(∀t∈l,∀s∈l,Y t->gI t s=true->Y s) -> ∀t∈l,Y t
def lnks(x y:Nat): Bool:=(List.range 3).all λw0=>(List.range 3).all λw=>lnkP (QK w0 0 0) (QK w x y)
theorem hd_ok:((List.range 3).all λw=>hdP (QK w 0 0))=true:=by decide +kernel
theorem ln_a:lnks 2 0=true:=by decide +kernel
theorem ln_b:lnks 0 2=true:=by decide +kernel
theorem ln_c:lnks 2 2=true:=by decide +kernel
theorem CnL.app{w:Nat->Nat}(hw:∀i,w i<8){r:List CT}(h:CnL (cellT (w 0) 0 0 0++r)){i x y:Nat}(hl:lnks x y=true): CnL (cellT (w 0) 0 0 0++r++cellT (w i) i x y):=by
 obtain ⟨z0,k,l⟩:∃z,z<3/\cellT (w 0) 0 0 0=QK z 0 0:=by
  rcases C5 (i:=0) (x:=0) (y:=0) (hw 0) with e|e
  ·exfalso;have:=hw 0;unfold cellT at e;split at e
   ·cases e
   split at e
   ·cases e
   split at e
   ·cases e
   omega
  exact e
 rcases C5 (i:=i) (x:=x) (y:=y) (hw i) with e|⟨z,hz,e⟩
 ·rw[e,gD];exact h
 intro Y n hs t ht;have j:(cellT (w 0) 0 0 0++r++cellT (w i) i x y).getD 0 cl0=(cellT (w 0) 0 0 0++r).getD 0 cl0:=by
  rw[l];have:z0=0\/z0=1\/z0=2:=oo;rcases this with rfl|rfl|rfl<;>rfl
 rw[j] at n;have d:=h Y n λa ha b q=>hs a (hI _ ha) b (hI _ q);rcases List.mem_append.1 ht with h1|h1
 ·exact d t h1
 have hk:=List.all_eq_true.1 (List.all_eq_true.1 hl z0 (List.mem_range.2 k)) z (List.mem_range.2 hz);rw[<-l, <-e] at hk;have f:=List.all_eq_true.1 hk t h1;rw[uh] at f;obtain ⟨m,c,f⟩:=f;rw[cz,uh] at f;obtain ⟨p,s,g,o⟩:=f;have u:=d s (hI _ g);have v:=hs s (hI _ (hI _ g)) m (eg _ c) u o;exact hs m (eg _ c) t ht v p
theorem kw(hw:∀i,h2 i<8)(a b:Nat)(ha:a=1\/a=2)(m:b=1\/b=2): CnL (Xw h2 a (a*b)) /\ ∃z,z<3 /\ ∃r,Xw h2 a (a*b)=QK z 0 0++r:=by
 obtain ⟨z0,c,d⟩:∃z,z<3/\cellT (h2 0) 0 0 0=QK z 0 0:=by
  rcases C5 (i:=0) (x:=0) (y:=0) (hw 0) with e|e
  ·exfalso;have:=hw 0;unfold cellT at e;split at e
   ·cases e
   split at e
   ·cases e
   split at e
   ·cases e
   omega
  exact e
 have l1:CnL (cellT (h2 0) 0 0 0++[]):=by
  intro Y l hs t ht;rw[gD] at *
  have h1:=List.all_eq_true.1 (List.all_eq_true.1 hd_ok z0 (List.mem_range.2 c));rw[<-d] at h1;exact hs _ (getD_mem _ (by cases h:cellT (h2 0) 0 0 0 with|nil=>rw[h] at ht;cases ht|cons _ _=>simp)) t ht l (h1 t ht)
 have f:=λi x y h=>CnL.app hw l1 (i:=i) (x:=x) (y:=y) h;rcases ha with rfl|rfl<;>rcases m with rfl|rfl
 ·exact⟨by rw[gD] at l1;exact l1,z0,c,[],by rw[gD, <-d];rfl⟩
 ·refine⟨?_,z0,c,cellT (h2 1) 1 0 2,by rw[<-d];rfl⟩;have:=f 1 0 2 ln_b;rw[gD] at this;exact this
 ·refine⟨?_,z0,c,cellT (h2 1) 1 2 0,by rw[<-d];rfl⟩;have:=f 1 2 0 ln_a;rw[gD] at this;exact this
 refine⟨?_,z0,c,cellT (h2 1) 1 2 0++cellT (h2 2) 2 0 2++cellT (h2 3) 3 2 2,by rw[<-d];show[]++_++_++_++_=_;simp⟩;have g:=f 1 2 0 ln_a;rw[gD] at g;have k:=CnL.app hw g (i:=2) ln_b;rw[cv] at k;have j:=CnL.app hw k (i:=3) ln_c;rw[<-cv] at j;exact j
section
variable{pl:List (Nat×Nat)}{ts:List (Nat×Nat×Nat)}{l:List CT}
theorem Plc.adj(h:Plc pl ts l)(hk:w<ts.length)(hj:Q<ts.length)(hs:gI (l.getD w cl0) (l.getD Q cl0)=true): AdjT ts w Q:=by
 have b:∀ {i},i<ts.length -> ∀v∈Cg (l.getD i cl0),∃c,c<3/\crn (trT ts i) c<pl.length/\pl.getD (crn (trT ts i) c) (0,0)=v:=λ{i} hi v hv=>by
  obtain ⟨n1,f,g,_⟩:=Qv.1 (h.num _ (getD_mem ts (d:=(0,0,0)) hi));have:=(Mx (h.at_ i hi).1 v).2 hv;simp only[Cg,P3,cZ,cf,or_false] at this;rcases this with e|e|e
  ·exact⟨0,by decide,n1,e.symm⟩
  ·exact⟨1,by decide,f,e.symm⟩
  exact⟨2,by decide,g,e.symm⟩
 rw[gI,uh] at hs;obtain ⟨v,hv,a⟩:=hs;rw[decide_eq_true_iff] at a;obtain ⟨c,hc,c1,c2⟩:=b hk v hv;obtain ⟨d,hd,d1,d2⟩:=b hj v a;exact⟨c,d,hc,hd,Eu h.nd c1 d1 (by rw[c2,d2])⟩
theorem Plc.conn(h:Plc pl ts l)(hl:l.length=ts.length)(hc:CnL l): WJ ts:=by
 intro X f hs o ho;have b:∀k,k<ts.length->X k -> ∀j,j<ts.length->gI (l.getD k cl0) (l.getD j cl0)=true->X j:=λk hk hx j hj a=>hs k j hk hj hx (h.adj hk hj a);have refl:∀j,gI (l.getD j cl0) (l.getD j cl0)=true:=λj=>by simp[gI,Cg]
 have:=hc (λt => ∀k,k<ts.length->l.getD k cl0=t->X k) (λk hk e=>b 0 oo f k hk (by rw[e];exact refl 0)) (λt ht s d g a k hk e=>by
  obtain ⟨j,hj,rfl⟩:=List.mem_iff_getElem.1 ht;have c:l.getD j cl0=l[j]:=by rw[List.getD_eq_getElem?_getD,List.getElem?_eq_getElem hj];rfl
  exact b j oo (g j oo c) k hk (by rw[e,c];exact a)) (l.getD o cl0) (getD_mem l oo)
 exact this o ho I
end
theorem mR(a:1<=w)(p q:Nat×Nat): fK m (2*w) (mdP p q)=(((fK m w p).1+(fK m w q).1)*(((1:Int):Rat)/((2:Int):Rat)),((fK m w p).2+(fK m w q).2)*(((1:Int):Rat)/((2:Int):Rat))):=by
 have f:((w:Int):Rat)≠0:=by
  intro h;have:(w:Int)=0:=by exact_mod_cast h
  omega
 have c:(((2*w:Nat):Int):Rat)=2*((w:Int):Rat):=by push_cast;rfl
 unfold fK;rw[HW (show 1<=2*w by omega),HW a,HW a,c];have b:(mvP m (mdP p q)).1=(mvP m p).1+(mvP m q).1:=by simp only[mvP,mdP];push_cast;grind
 have e:(mvP m (mdP p q)).2=(mvP m p).2+(mvP m q).2:=by simp only[mvP,mdP];push_cast;grind
 rw[b,e,uJ,uJ];generalize ((w:Int):Rat)=d at *
 refine uI ?_ ?_<;>simp only<;>grind
theorem mS(a:1<=w)(p:Nat×Nat): fK m (2*w) (mdP p p)=fK m w p:=by
 rw[mR m a];refine uI ?_ ?_<;>simp only<;>grind
theorem iW{a:Int}(h:-3<=a/\a<=3)(c:w<=8): -24<=a*(w:Int)/\a*(w:Int)<=24:=by
 have:w=0\/w=1\/w=2\/w=3\/w=4\/w=5\/w=6\/w=7\/w=8:=oo;rcases this with rfl|rfl|rfl|rfl|rfl|rfl|rfl|rfl|rfl<;>omega
theorem fK_K(c:w<=12)(h1:O.1<=8)(a:O.2<=8): PtK 4 (fK m w O):=by
 have q0:=Ig m.m0;have q1:=Ig m.m1;have q2:=Ig m.m2;have d:=Ig m.m3;have hk:(-3<=(mK m).1/\(mK m).1<=3)/\(-3<=(mK m).2.1/\(mK m).2.1<=3)/\(-3<=(mK m).2.2.1/\(mK m).2.2.1<=3)/\(-3<=(mK m).2.2.2/\(mK m).2.2.2<=3):=by
  unfold mK;split
  ·simp
  split<;>(simp only;omega)
 have b:=iW hk.1 h1;have a2:=iW hk.2.1 a;have a3:=iW hk.2.2.1 h1;have a4:=iW hk.2.2.2 a;have hz:(-48<=(mvP m O).1/\(mvP m O).1<=48)/\(-48<=(mvP m O).2/\(mvP m O).2<=48):=by simp only[mvP];omega
 exact ptv_K ⟨⟨by simp only;omega,by simp only;omega,by simp only;omega,by simp only;omega⟩,by simp only;omega,by simp only;omega,by simp only;omega,by simp only;omega⟩
theorem cel_le(hw:w<8)(hx:C<=2)(a:r<=2): ∀t∈cellT w Q C r,∀v∈Cg t,v.1<=4/\v.2<=4:=by
 rcases C5 (i:=Q) (x:=C) (y:=r) hw with e|⟨z,hz,e⟩
 ·rw[e];simp
 rw[e];have:z=0\/z=1\/z=2:=oo;intro t ht v hv;rcases this with rfl|rfl|rfl
 ·simp[QK] at ht;rcases ht with rfl|rfl<;>simp[Cg] at hv<;>rcases hv with rfl|rfl|rfl<;>simp only<;>omega
 ·simp[QK] at ht;rcases ht with rfl|rfl<;>simp[Cg] at hv<;>rcases hv with rfl|rfl|rfl<;>simp only<;>omega
 simp[QK] at ht;rcases ht with rfl|rfl|rfl|rfl<;>simp[Cg] at hv<;>rcases hv with rfl|rfl|rfl<;>simp only<;>omega
theorem cells_le(w:Nat->Nat)(hw:∀i,w i<8)(a:Nat): ∀n,(∀i,i<n->2*(i%a)<=2/\2*(i/a)<=2) -> ∀t∈Xw w a n,∀v∈Cg t,v.1<=4/\v.2<=4
 | 0,_,t,ht=>nomatch ht
 | n+1,h,t,ht=>by
  rw[Xw] at ht;rcases List.mem_append.1 ht with h1|h1
  ·exact cells_le w hw a n (λi b=>h i oo) t h1
  exact cel_le (hw n) (h n (ia n)).1 (h n (ia n)).2 t h1
def Sy(t:CT): Bool:=decide ((0,0)∈Cg t) && decide ((2,0)∈Cg t)
theorem KN(hw:w<8)(h:(C=2/\r=0)\/(C=0/\r=2)\/(C=2/\r=2)): (cellT w Q C r).countP Sy=0:=by
 rcases C5 (i:=Q) (x:=C) (y:=r) hw with e|⟨z,hz,e⟩
 ·rw[e];rfl
 rw[e];have:z=0\/z=1\/z=2:=oo;rcases h with ⟨rfl,rfl⟩|⟨rfl,rfl⟩|⟨rfl,rfl⟩<;>rcases this with rfl|rfl|rfl<;>decide +kernel
theorem bot_0{x y:Nat}(hw:w<8)(h:cellT w 0 0 0≠[]): (cellT w 0 0 0).countP Sy=1:=by
 rcases C5 (i:=0) (x:=0) (y:=0) hw with e|⟨z,hz,e⟩
 ·exact absurd e h
 rw[e];have:z=0\/z=1\/z=2:=oo;rcases this with rfl|rfl|rfl<;>decide +kernel
theorem eu(hw:∀i,h2 i<8)(a b:Nat)(ha:a=1\/a=2)(d:b=1\/b=2): (Xw h2 a (a*b)).countP Sy=1:=by
 have c:(cellT (h2 0) 0 0 0).countP Sy=1:=by
  refine bot_0 (x:=0) (y:=0) (hw 0) ?_;have:=hw 0;unfold cellT;split
  ·simp
  split
  ·simp
  split
  ·simp
  omega
 rcases ha with rfl|rfl<;>rcases d with rfl|rfl
 ·show([]++cellT (h2 0) 0 0 0).countP Sy=1;simpa using c
 ·show([]++cellT (h2 0) 0 0 0++cellT (h2 1) 1 0 2).countP Sy=1;rw[tG,ec,c,KN (hw 1) ss]
 ·show([]++cellT (h2 0) 0 0 0++cellT (h2 1) 1 2 0).countP Sy=1;rw[tG,ec,c,KN (hw 1) ss]
 show([]++cellT (h2 0) 0 0 0++cellT (h2 1) 1 2 0++cellT (h2 2) 2 0 2++cellT (h2 3) 3 2 2).countP Sy=1;rw[tG,tG,tG,ec,c,KN (hw 1) ss,KN (hw 2) ss,KN (hw 3) ss]
section
variable{pl:List (Nat×Nat)}{ts:List (Nat×Nat×Nat)}{l:List CT}
theorem Plc.has(h:Plc pl ts l)(hk:w<ts.length)(ha:Q<pl.length): Ay (ts.getD w (0,0,0)) Q=decide (pl.getD Q (0,0)∈Cg (l.getD w cl0)):=by
 obtain ⟨n1,c,b,_⟩:=Qv.1 (h.num _ (getD_mem ts (d:=(0,0,0)) hk));rw[sv,Gy,decide_eq_true_iff, <-Mx (h.at_ w hk).1];simp only[Cg,P3,cZ,cf,or_false];constructor
 ·rintro(e|e|e)
  ·exact .inl (by rw[e])
  ·exact .inr (.inl (by rw[e]))
  exact .inr (.inr (by rw[e]))
 rintro(e|e|e)
 ·exact .inl (Eu h.nd n1 ha e.symm)
 ·exact .inr (.inl (Eu h.nd c ha e.symm))
 exact .inr (.inr (Eu h.nd b ha e.symm))
theorem Plc.cnt(h:Plc pl ts l)(ha:w<pl.length)(e:Q<pl.length)(d:pl.getD w (0,0)=(0,0))(c:pl.getD Q (0,0)=(2,0)): ∀n,n<=ts.length->Dc ts w Q n=(l.take n).countP Sy
 | 0,_=>by simp[Dc]
 | n+1,f=>by
  have hl:=(h.at_ n oo).2;rw[Dc,h.cnt ha e d c n oo,h.has oo ha,h.has oo e,d,c,xa,List.getElem?_eq_getElem hl,tG,List.getD_eq_getElem?_getD,List.getElem?_eq_getElem hl];simp[Sy]
theorem Plc.rim(h:Plc pl ts l)(hl:l.length=ts.length)(u:l.countP Sy=1): 0<(Kz ts).length:=by
 have q:∃t∈l,Sy t=true:=by
  have:0<l.countP Sy:=oo;exact List.countP_pos_iff.1 this
 obtain ⟨t,ht,c⟩:=q;obtain ⟨k,hk,rfl⟩:=List.mem_iff_getElem.1 ht;have f:k<ts.length:=oo;have ek:l.getD k cl0=l[k]:=by rw[List.getD_eq_getElem?_getD,List.getElem?_eq_getElem hk];rfl
 rw[Sy,cz,decide_eq_true_iff,decide_eq_true_iff, <-ek] at c;have o:∀v∈Cg (l.getD k cl0),∃a,a<pl.length/\pl.getD a (0,0)=v:=λv hv=>by
  obtain ⟨n1,s,w,_⟩:=Qv.1 (h.num _ (getD_mem ts (d:=(0,0,0)) f));have:=(Mx (h.at_ k f).1 v).2 hv;simp only[Cg,P3,cZ,cf,or_false] at this;rcases this with e|e|e
  ·exact⟨_,n1,e.symm⟩
  ·exact⟨_,s,e.symm⟩
  exact⟨_,w,e.symm⟩
 obtain ⟨a,ha,j⟩:=o _ c.1;obtain ⟨b,g,p⟩:=o _ c.2;have hc:=h.cnt ha g j p ts.length (aZ _);rw[<-hl,w9,u] at hc;have i:a≠b:=λe=>by rw[e,p] at j;cases j
 have m:∀n,Dc ts b a n=Dc ts a b n:=λn=>by
  induction n with
  | zero=>rfl
  | succ n r=>rw[Dc,Dc,r,Bool.and_comm]
 rcases vG i with h1|h1
 ·exact te ((A1 h.num (a,b,0)).2 ⟨h1,g,rfl,by rw[<-hl];exact hc⟩)
 exact te ((A1 h.num (b,a,0)).2 ⟨h1,ha,rfl,by rw[<-hl];simp only;rw[m];exact hc⟩)
end
structure Lat2(M:M25)(D:Nat)(pl:List (Nat×Nat))(ts S:List (Nat×Nat×Nat))(l:List CT): Prop where
 D0:1<=D
 D1:D<=6
 plc:Plc pl ts l
 len:l.length=ts.length
 cn:CnL l
 le:∀p∈pl,p.1<=4/\p.2<=4
 n0:0<l.length
 n1:l.length<=16
 m1:pl.length<=48
 rim:S.map (λs=>(s.1,s.2.1,0))=Kz ts
 s4:∀s∈S,s.2.2<=4
 bot:l.countP Sy=1
theorem UK(N:Nat)(a:List (Nat×Nat×Nat)): ∀n,n<=a.length->allT (Xq [] N 0) a n=a.take n
 | 0,_=>by simp[allT]
 | n+1,h=>by
  rw[allT,UK N a n oo,xa,List.getElem?_eq_getElem oo];congr 1;rw[Qo,if_neg (by simp[Xq,Zo]),List.getD_eq_getElem?_getD,List.getElem?_eq_getElem oo];rfl
theorem rim_lt(h:∀c∈T,Ad w c=true)(hr:Z.map (λs=>(s.1,s.2.1,0))=Kz T): ∀s∈Z,s.1<w/\s.2.1<w:=λs hs=>by
 have:(s.1,s.2.1,0)∈Kz T:=by rw[<-hr];exact List.mem_map.2 ⟨s,hs,rfl⟩
 have:=(A1 h _).1 this;simp only at this;omega
theorem mj(hr:Z.map (λs=>(s.1,s.2.1,0))=Kz T): Z.length<=3*T.length:=by
 have:=congrArg List.length hr;rw[az] at this;rw[this,Kz,az];exact bp (nk _ _) (Kh T)
section
variable{M:M25}{D:Nat}{pl:List (Nat×Nat)}{ts S:List (Nat×Nat×Nat)}{l:List CT}
theorem mp(h:Lat2 M D pl ts S l){E:List Ed}(i:CutE ts E): ∀p∈pl2 pl E,p.1<=8/\p.2<=8:=by
 intro p g;rcases List.mem_append.1 g with h1|h1
 ·obtain ⟨q,hq,rfl⟩:=List.mem_map.1 h1;have:=h.le q hq;simp only[mdP];omega
 obtain ⟨e,he,rfl⟩:=List.mem_map.1 h1;obtain ⟨k,hk,f⟩:=i.tri he;have c:=Wv (h.plc.num _ (getD_mem ts (d:=(0,0,0)) hk)) f;simp only at c;have a:=h.le _ (getD_mem pl (d:=(0,0)) (show e.a<pl.length by omega));have b:=h.le _ (getD_mem pl (d:=(0,0)) c.2);simp only[mdP];omega
theorem Lat2.fine(h:Lat2 M D pl ts S l){E:List Ed}(a:CutE ts E){S2:List (Nat×Nat×Nat)}(hr:S2.map (λs=>(s.1,s.2.1,0))=Kz (allT (Xq E pl.length E.length) ts ts.length))(hm:∀s∈S2,s.2.2<=255)(e:E.length<=1000): MV 4 (Yn M (2*D) (pl2 pl E) (allT (Xq E pl.length E.length) ts ts.length) S2):=by
 have ok:=E4 h.plc a;have hl:=h.len;have f:=h.n0;have h1:=h.n1;have hlen:=GT (Xq E pl.length E.length) ts ts.length;have g:=h.D0;have d:=h.D1;have c:=h.m1;refine mv_of M oo ok ?_ (λp b=>fK_K M oo (mp h a p b).1 (mp h a p b).2) (λs hs=>?_) hr ?_ ?_ ?_
 ·obtain ⟨k,hk⟩:∃k,k<ts.length:=⟨0,oo⟩
  obtain ⟨x,hx,_⟩:=(Iy (Xq E pl.length E.length) (ts.getD k (0,0,0))).1;exact te (BU hx hk)
 ·have:=rim_lt ok.num hr s hs;exact⟨this.1,this.2,hm s hs⟩
 ·rw[IZ];omega
 ·omega
 have:=mj hr;omega
theorem Lat2.pts(h:Lat2 M D pl ts S l){E:List Ed}(g:CutE ts E): (pl2 pl E).map (fK M (2*D))=(Yn M D pl ts S).P++E.map (I3 (Yn M D pl ts S)):=by
 have f:=h.D0;unfold pl2;rw[dv,sI,sI];congr 1
 ·show pl.map _=pl.map _;exact tz λp _=>mS M f p
 refine tz λe he=>?_;obtain ⟨k,hk,c⟩:=g.tri he;have b:=Wv (h.plc.num _ (getD_mem ts (d:=(0,0,0)) hk)) c;simp only at b;simp only[Function.comp];rw[mR M f,I3,Vx M D _ _ _ (show e.a<pl.length by omega),Vx M D _ _ _ b.2]
theorem NL: CutE b2 []:=⟨vA,by simp,by simp⟩
theorem Lat2.mv(h:Lat2 M D pl ts S l): MV 4 (Yn M D pl ts S):=by
 have e:allT (Xq [] pl.length ([]:List Ed).length) ts ts.length=ts:=by rw[show([]:List Ed).length=0 from rfl,UK _ _ _ (aZ _),w9]
 have:=h.fine (NL ts) (S2:=S) (by rw[e];exact h.rim) (λs hs=>bp (h.s4 s hs) dd) dd;rw[e] at this;have a:=h.pts (NL ts);rw[la,gD] at a;unfold Yn at this a ⊢;rw[a] at this;exact this
end
def shN(t s:Nat×Nat×Nat): Prop := ∃j j',j<3/\j'<3/\crn t j=crn s j'
theorem ko(h:∀Y:Nat×Nat×Nat->Prop,Y (trT T 0)->(∀t∈T,∀s∈T,Y t->shN t s->Y s) -> ∀t∈T,Y t): WJ T:=by
 intro X c hs o ho;have:=h (λt => ∀k,k<T.length->trT T k=t->X k) (λk hk e=>hs 0 k oo hk c ⟨0,0,by decide,by decide,by rw[e]⟩) (λt ht s _ d a k hk e=>by
  obtain ⟨j,hj,rfl⟩:=List.mem_iff_getElem.1 ht;have b:trT T j=T[j]:=by unfold trT;rw[List.getD_eq_getElem?_getD,List.getElem?_eq_getElem hj];rfl
  exact hs j k hj hk (d j hj b) (by unfold AdjT;rw[e,b];exact a)) (trT T o) (getD_mem T ho)
 exact this o ho I
theorem iZ(h:WJ T)(Y:Nat×Nat×Nat->Prop)(b:Y (trT T 0))(hs:∀t∈T,∀s∈T,Y t->shN t s->Y s): ∀t∈T,Y t:=by
 intro t ht;obtain ⟨j,hj,rfl⟩:=List.mem_iff_getElem.1 ht;have:Y (trT T j):=h (λk=>Y (trT T k)) b (λo o' ho a d ha=>hs _ (getD_mem T ho) _ (getD_mem T a) d ha) j hj;have c:trT T j=T[j]:=by unfold trT;rw[List.getD_eq_getElem?_getD,List.getElem?_eq_getElem hj];rfl
 rw[c] at this;exact this
theorem Uc(h:Ay H w=true): ∃j,j<3/\crn H j=w:=by
 rw[Gy] at h;rcases h with e|e|e
 ·exact⟨0,by decide,e⟩
 ·exact⟨1,by decide,e⟩
 exact⟨2,by decide,e⟩
theorem mf(h:Ay H w=true)(a:Ay i6 w=true): shN H i6:=by
 obtain ⟨j,hj,e⟩:=Uc h;obtain ⟨k,hk,b⟩:=Uc a;exact⟨j,k,hj,hk,by rw[e,b]⟩
theorem K9: ∀x∈Qo a1 2 b1,∀y∈Qo a1 2 b1,shN x y:=by
 by_cases b:(Zo a1 (Zg b1.2.1 b1.2.2)).isSome=true
 ·have:∀x∈Qo a1 2 b1,Ay x ((Zo a1 (Zg b1.2.1 b1.2.2)).getD 0)=true:=by
   simp only[Qo,b,if_true];split<;>split<;>simp[Ay]
  exact λx hx y a=>mf (this x hx) (this y a)
 rw[Qo,if_neg b];intro x hx y a;rw[da] at hx a;subst hx a;exact⟨0,0,by decide,by decide,rfl⟩
theorem dM(z:0<T.length)(h:WJ T): WJ (allT a1 T T.length):=by
 refine ko λY D hs=>?_;have f:∀c∈T,∀x∈Qo a1 2 c,x∈allT a1 T T.length:=λc hc x hx=>by
  obtain ⟨k,hk,rfl⟩:=List.mem_iff_getElem.1 hc;exact BU (k:=k) (by rw[List.getD_eq_getElem?_getD,List.getElem?_eq_getElem hk];exact hx) hk
 have one:∀c∈T,∀x∈Qo a1 2 c,Y x -> ∀y∈Qo a1 2 c,Y y:=λc hc x hx l y B=>hs x (f c hc x hx) y (f c hc y B) l (K9 a1 c x hx y B);have first:∀n,0<n->n<=T.length -> ∃r,allT a1 T n=Qo a1 2 (trT T 0)++r:=λn=>by
  induction n with
  | zero=>intro h;omega
  | succ n G =>
   intro _ H;rcases oX n with rfl|E
   ·exact⟨[],by simp[allT]⟩
   obtain ⟨r,hr⟩:=G E oo;exact⟨r++Qo a1 2 (T.getD n (0,0,0)),by rw[allT,hr,cv]⟩
 have h1:∀c∈T,∀x∈Qo a1 2 c,Y x:=by
  refine iZ h (λc => ∀x∈Qo a1 2 c,Y x) ?_ λc hc d hd w u x hx=>?_
  ·obtain ⟨r,hr⟩:=first T.length z (aZ _)
   have m:0<(Qo a1 2 (trT T 0)).length:=by
    obtain ⟨x,hx,_⟩:=(Iy a1 (trT T 0)).1;exact te hx
   have gen:∀ {b r:List (Nat×Nat×Nat)},0<b.length->(b++r).getD 0 (0,0,0)∈b:=λ{b r} hb=>by
    cases b with
    | nil=>cases hb
    | cons x b=>simp
   have p:trT (allT a1 T T.length) 0∈Qo a1 2 (trT T 0):=by
    show(allT a1 T T.length).getD 0 (0,0,0)∈_;rw[hr];exact gen m
   exact one _ (getD_mem T z) _ p D
  obtain ⟨j,C,hj,o,e⟩:=u;have A:∀(c:Nat×Nat×Nat) j,j<3 -> ∃x∈Qo a1 2 c,Ay x (crn c j)=true:=λc j hj=>by
   have:=Iy a1 c;have p:j=0\/j=1\/j=2:=oo;rcases p with rfl|rfl|rfl
   ·exact this.1
   ·exact this.2.1
   exact this.2.2
  obtain ⟨v,i,F⟩:=A c j hj;obtain ⟨s,g,a2⟩:=A d C o;rw[<-e] at a2;exact one d hd s g (hs v (f c hc v i) s (f d hd s g) (w v i) (mf F a2)) x hx
 intro t ht;obtain ⟨k,hk,hx⟩:=EF ht;exact h1 _ (getD_mem T hk) t hx
theorem L6(T:List (Nat×Nat×Nat)): ∀g q,opn T q<=g -> ∀t∈T,Ij (ee T g q) t=false
 | 0,q,h=>by
  intro t ht;cases hc:Ij q t with
  | false=>exact hc
  | true=>have:=I0 ht hc;omega
 | g+1,q,h=>by
  rw[Bz];cases hf:T.find? (Ij q) with
  | none=>intro t ht;have:=List.find?_eq_none.1 hf t ht;simpa using this
  | some t=>exact L6 T g _ (by have:=I0 (List.mem_of_find?_eq_some hf) (List.find?_some hf);omega)
theorem Sv: ∀t∈b2,Ij (NS b2 U) t=false:=L6 b2 _ _ (aZ _)
theorem OF(h:0<(Zo a1 L).getD 0): 0<(Zo (Va a1 J 1) L).getD 0:=by
 rw[FZ];split
 ·exact Nat.one_pos
 exact h
theorem UA(T:List (Nat×Nat×Nat))(v:Nat×Nat): ∀g q,0<(Zo q v).getD 0->0<(Zo (ee T g q) v).getD 0
 | 0,q,h=>h
 | g+1,q,h=>by
  rw[Bz];cases hf:T.find? (Ij q) with
  | none=>exact h
  | some t=>exact UA T v g _ (OF q _ v h)
theorem On(T:List (Nat×Nat×Nat))(l:List Nat): ∀n k,k<n->0<(Zo (Lk T l n) (Zg (T.getD (l.getD k 0) (0,0,0)).2.1 (T.getD (l.getD k 0) (0,0,0)).2.2)).getD 0
 | n+1,k,hk=>by
  rw[Lk];rcases Nat.lt_succ_iff_lt_or_eq.1 hk with h|rfl
  ·exact OF _ _ _ (On T l n k h)
  rw[FZ,if_pos rfl];exact Nat.one_pos
theorem kz(ht:w∈U): 0<(Zo (NS b2 U) (Zg (b2.getD w (0,0,0)).2.1 (b2.getD w (0,0,0)).2.2)).getD 0:=by
 obtain ⟨k,hk,rfl⟩:=List.mem_iff_getElem.1 ht;have:=On b2 U U.length k hk;rw[List.getD_eq_getElem?_getD (l:=U),List.getElem?_eq_getElem hk] at this;exact UA b2 _ _ _ this
theorem J2(h:∀c∈T,Ad w c=true)(q:List ((Nat×Nat)×Nat))(k:Nat×Nat): k∈(Yq T q).map (λe=>(e.a,e.b))↔(∃t∈T,k∈eT t)/\0<(Zo q k).getD 0:=by
 rw[<-JY h];simp only[Yq,uB,vr,Sq,decide_eq_true_iff];constructor
 ·rintro⟨e,⟨h1,d⟩,rfl⟩;exact⟨⟨e,h1,rfl⟩,oo⟩
 rintro⟨⟨e,h1,rfl⟩,d⟩;exact⟨e,⟨h1,oo⟩,rfl⟩
theorem EC(h:∀c∈T,Ad w c=true)(l:List Nat): CutE T (Yq T (NS T l)):=by
 refine⟨(Px h).sublist (List.Sublist.map _ List.filter_sublist),λe he=>?_,λt ht hc=>?_⟩
 ·exact((J2 h _ _).1 (List.mem_map.2 ⟨e,he,rfl⟩)).1
 have a:=Sv T l t ht;rw[Ij,uW,decide_eq_false_iff_not,decide_eq_false_iff_not] at a;have:0<(Zo (NS T l) (Zg t.1 t.2.1)).getD 0+(Zo (NS T l) (Zg t.2.2 t.1)).getD 0:=by
  rcases hc with hc|hc
  ·have:=((J2 h _ _).1 hc).2;omega
  have:=((J2 h _ _).1 hc).2;omega
 exact(J2 h _ _).2 ⟨⟨t,ht,by simp[eT]⟩,oo⟩
def both(a b:Nat)(x:Nat×Nat×Nat): Bool:=Ay x a && Ay x b
theorem NP(q:List ((Nat×Nat)×Nat))(T:List (Nat×Nat×Nat))(f:Nat×Nat×Nat->Bool)(g:Nat->Nat): ∀n,(∀k,k<n->(Qo q 2 (T.getD k (0,0,0))).countP f=g k)->(allT q T n).countP f=((List.range n).map g).sum
 | 0,_=>by simp[allT]
 | n+1,h=>by
  rw[allT,tG,NP q T f g n (λk hk=>h k oo),h n (ia n),tZ,dv,we];simp
theorem NQ(T:List (Nat×Nat×Nat))(a b:Nat): ∀n,Dc T a b n=((List.range n).map λk=>if both a b (T.getD k (0,0,0)) then 1 else 0).sum
 | 0=>rfl
 | n+1=>by rw[Dc,NQ T a b n,tZ,dv,we];simp[both]
theorem J9: Dc b2 z o b2.length=b2.countP (both z o):=by
 have:∀n,n<=b2.length->Dc b2 z o n=(b2.take n).countP (both z o):=λn=>by
  induction n with
  | zero=>intro _;simp[Dc]
  | succ n c =>
   intro d;rw[Dc,c oo,xa,List.getElem?_eq_getElem oo,tG,List.getD_eq_getElem?_getD,List.getElem?_eq_getElem oo];simp[both]
 rw[this _ (aZ _),w9]
section
variable{E:List Ed}{N:Nat}{c:Nat×Nat×Nat}
theorem LG{k:Nat×Nat}(h:(Zo (Xq E N E.length) k).isSome=true): N<=(Zo (Xq E N E.length) k).getD 0:=by
 obtain ⟨j,_,e,_⟩:=BS h;omega
def Cv(a b x y z:Nat): Prop:=(x=a\/y=a\/z=a)/\(x=b\/y=b\/z=b)
instance (a b x y z:Nat):Decidable (Cv a b x y z):=by unfold Cv;infer_instance
theorem ku: both r Y (w,Q,C)=decide (Cv r Y w Q C):=by
 rw[sv,decide_eq_true_iff];simp[both,Ay,Cv,or_assoc]
theorem bc1{x y:Nat}(ha:Q<w)(e:C<w)(d:w<=r)(c:Q≠C): Cv Q C r x y↔(Q=x/\C=y)\/(Q=y/\C=x):=by unfold Cv;omega
theorem bc2{x:Nat}(ha:Q<w)(f:C<w)(g:w<=r)(d:w<=Y)(e:Q≠C): ¬Cv Q C Y r x /\ ¬Cv Q C Y x r:=by unfold Cv;omega
theorem bc3{c0:Nat}(c:w≠Q)(h1:¬(w=r/\Q=Y))(d:¬(w=Y/\Q=r)): Cv w Q c0 r Y↔((w=c0/\Q=r)\/(w=r/\Q=c0))\/((w=Y/\Q=c0)\/(w=c0/\Q=Y)):=by
 unfold Cv;constructor
 ·rintro⟨rfl|rfl|rfl,h|h|h⟩<;>simp_all
 rintro((h|h)|(h|h))<;>simp[h]
theorem jF(hc:Ad N c=true)(ha:w<N)(f:Q<N)(d:w≠Q)(hk:¬(Zo (Xq E N E.length) (Zg w Q)).isSome=true): (Qo (Xq E N E.length) 2 c).countP (both w Q)=if both w Q c then 1 else 0:=by
 obtain ⟨h1,l,m,q,r,p⟩:=Qv.1 hc;obtain ⟨c0,c1,c2⟩:=c;simp only at h1 l m q r p;have j:∀x y,(Zo (Xq E N E.length) (Zg x y)).isSome=true -> ¬(w=x/\Q=y) /\ ¬(w=y/\Q=x):=λx y h=>by
  refine⟨λe=>hk (by rw[e.1,e.2];exact h),λe=>hk (by rw[e.1,e.2,jn];exact h)⟩
 by_cases g:(Zo (Xq E N E.length) (Zg c1 c2)).isSome=true
 ·have n0:=LG g;have k0:=j _ _ g;have k1:=j c0 c1;have k2:=j c2 c0;have g1:=λh=>LG (E:=E) (N:=N) (k:=Zg c0 c1) h;have g2:=λh=>LG (E:=E) (N:=N) (k:=Zg c2 c0) h;simp only[Qo,g,if_true];generalize (Zo (Xq E N E.length) (Zg c1 c2)).getD 0=n at *
  generalize (Zo (Xq E N E.length) (Zg c0 c1)).getD 0=n1 at *
  generalize (Zo (Xq E N E.length) (Zg c2 c0)).getD 0=n2 at *
  have f3:=bc3 (c0:=c0) d k0.1 k0.2;have f4:=bc1 (x:=c0) (y:=c1) ha f n0 d;have f5:=bc1 (x:=c2) (y:=c0) ha f n0 d;clear j g h1 l m hc hk k0;split
  ·rename_i o;have k1:=k1 o;have g1:=g1 o;have d1:=(bc2 (x:=c0) ha f n0 g1 d).1;have d2:=(bc2 (x:=c1) ha f n0 g1 d).2;have d3:¬((w=c0/\Q=c1)\/(w=c1/\Q=c0)):=λh=>h.elim k1.1 k1.2;split
   ·rename_i i;have k2:=k2 i;have g2:=g2 i;have d4:=(bc2 (x:=c2) ha f n0 g2 d).1;have d5:=(bc2 (x:=c0) ha f n0 g2 d).2;have d6:¬((w=c2/\Q=c0)\/(w=c0/\Q=c2)):=λh=>h.elim k2.1 k2.2;simp only[gH,ec,tv,tR,ku,decide_eq_true_iff,d1,d2,d4,d5,f3,d3,d6,if_false,or_self]
   simp only[gH,ec,tv,tR,ku,decide_eq_true_iff,d1,d2,f5,f3,d3,if_false,false_or,ca,sh]
  split
  ·rename_i i;have k2:=k2 i;have g2:=g2 i;have d4:=(bc2 (x:=c2) ha f n0 g2 d).1;have d5:=(bc2 (x:=c0) ha f n0 g2 d).2;have d6:¬((w=c2/\Q=c0)\/(w=c0/\Q=c2)):=λh=>h.elim k2.1 k2.2;simp only[gH,ec,tv,tR,ku,decide_eq_true_iff,d4,d5,f4,f3,d6,if_false,or_false,ca,sh]
  simp only[gH,ec,tv,tR,ku,decide_eq_true_iff,f4,f5,f3,ca];by_cases q1:(w=c0/\Q=c1)\/(w=c1/\Q=c0)
  ·have q2:¬((w=c2/\Q=c0)\/(w=c0/\Q=c2)):=oo;rw[if_neg q2,if_pos q1,if_pos (.inl q1)]
  by_cases q2:(w=c2/\Q=c0)\/(w=c0/\Q=c2)
  ·rw[if_pos q2,if_neg q1,if_pos (.inr q2)]
  rw[if_neg q2,if_neg q1,if_neg (λh=>h.elim q1 q2)]
 rw[Qo,if_neg g];simp[tv]
end
section
variable{E:List Ed}{N:Nat}{c:Nat×Nat×Nat}
theorem eT_key(c:w<Q)(h:(w,Q)=Zg C r): (w=C/\Q=r)\/(w=r/\Q=C):=by
 unfold Zg at h;rw[kb] at h;omega
theorem bh1(ha:Q<w)(d:w<=C)(e:w<=r)(c:w<=Y)(hx:b0<w): Cv Q C Y r b0↔Q=b0/\(Y=C\/r=C):=by unfold Cv;omega
theorem bh2(ha:Q<w)(d:w<=C)(e:w<=r)(c:w<=Y)(hx:b0<w): Cv Q C Y b0 r↔Q=b0/\(Y=C\/r=C):=by unfold Cv;omega
theorem bW(l:(E.map λe=>(e.a,e.b)).Nodup)(hc:Ad N c=true)(hj:w<E.length)(u:(E.getD w ed0).a<(E.getD w ed0).b)(O:(E.getD w ed0).b<N)(d:((Zo (Xq E N E.length) (Zg c.1 c.2.1)).isSome=true\/(Zo (Xq E N E.length) (Zg c.2.2 c.1)).isSome=true)->(Zo (Xq E N E.length) (Zg c.2.1 c.2.2)).isSome=true){a:Nat}(ha:a=(E.getD w ed0).a\/a=(E.getD w ed0).b):
  (Qo (Xq E N E.length) 2 c).countP (both a (N+w))=if ((E.getD w ed0).a,(E.getD w ed0).b)∈eT c then 1 else 0:=by
 obtain ⟨h1,H,I,P,K,F⟩:=Qv.1 hc;obtain ⟨c0,c1,c2⟩:=c;simp only at h1 H I P K F d;have uniq:∀ {k:Nat×Nat},(Zo (Xq E N E.length) k).isSome=true->((Zo (Xq E N E.length) k).getD 0=N+w↔k=((E.getD w ed0).a,(E.getD w ed0).b)):=λ{k} h=>by
  obtain ⟨i,D,M,C⟩:=BS h;rw[M];constructor
  ·intro e;have:i=w:=oo;rw[C,this]
  intro e;have f:∀n (t:n<E.length),E.getD n ed0=E[n]:=λn t=>by rw[List.getD_eq_getElem?_getD,List.getElem?_eq_getElem t];rfl
  have a:(E.map λe=>(e.a,e.b))[i]?=(E.map λe=>(e.a,e.b))[w]?:=by
   rw[List.getElem?_map,List.getElem?_map,List.getElem?_eq_getElem D,List.getElem?_eq_getElem hj];rw[f i D] at C;rw[f w hj] at e;simp[<-C,e]
  rw[(List.getElem?_inj (by simpa using D) l).1 a]
 have o:a<N:=oo;have has:=ML E N E.length w hj;generalize L:(E.getD w ed0).a=A at *
 generalize v:(E.getD w ed0).b=B at *
 have mem:(A,B)∈eT (c0,c1,c2)↔((A,B)=Zg c1 c2\/(A,B)=Zg c2 c0\/(A,B)=Zg c0 c1):=by simp[eT]
 have ek:∀x y,((A,B)=Zg x y)↔((A=x/\B=y)\/(A=y/\B=x))/\True:=λx y=>⟨λh=>⟨eT_key u h,trivial⟩,fun⟨h,_⟩=>by unfold Zg;rw[kb];omega⟩
 by_cases m:(Zo (Xq E N E.length) (Zg c1 c2)).isSome=true
 ·have n0:=LG m;have z:=uniq m;have r:=λh=>uniq (k:=Zg c0 c1) h;have p:=λh=>uniq (k:=Zg c2 c0) h;have g1:=λh=>LG (E:=E) (N:=N) (k:=Zg c0 c1) h;have g2:=λh=>LG (E:=E) (N:=N) (k:=Zg c2 c0) h;have s1:¬(Zo (Xq E N E.length) (Zg c0 c1)).isSome=true -> ¬(A,B)=Zg c0 c1:=λh e=>h (by rw[<-e];exact has);have s2:¬(Zo (Xq E N E.length) (Zg c2 c0)).isSome=true -> ¬(A,B)=Zg c2 c0:=λh e=>h (by rw[<-e];exact has);simp only[Qo,m,if_true];generalize (Zo (Xq E N E.length) (Zg c1 c2)).getD 0=n at *
  generalize (Zo (Xq E N E.length) (Zg c0 c1)).getD 0=n1 at *
  generalize (Zo (Xq E N E.length) (Zg c2 c0)).getD 0=J at *
  rw[eq_comm (a:=Zg c1 c2),ek] at z;split
  ·rename_i q;have r:=r q;have g1:=g1 q;rw[eq_comm (a:=Zg c0 c1),ek] at r;split
   ·rename_i g;have p:=p g;have g2:=g2 g;rw[eq_comm (a:=Zg c2 c0),ek] at p;simp only[mem,ek,and_true] at *
    have s:N<=N+w:=tu _ _;simp only[gH,ec,tv,tR,ku,decide_eq_true_iff,bh1 o s n0 g1 h1,bh2 o s n0 g1 H,bh1 o s n0 g2 I,bh2 o s n0 g2 h1,z,r,p];clear d m q g has uniq s1 s2 hc l z r p g1 g2 n0 mem ek L v;rcases ha with rfl|rfl
    ·by_cases G:a=c0
     ·subst G;rw[if_neg (show ¬(a=c1/\_) from λh=>P h.1),if_neg (show ¬(a=c2/\_) from λh=>F h.1.symm)];grind
     grind
    by_cases G:a=c0
    ·subst G;rw[if_neg (show ¬(a=c1/\_) from λh=>P h.1),if_neg (show ¬(a=c2/\_) from λh=>F h.1.symm)];grind
    grind
   rename_i g;have s2:=s2 g;simp only[mem,ek,and_true] at *
   simp only[gH,ec,tv,tR,ku,decide_eq_true_iff,Cv];clear d m q g has uniq s1 hc l;rcases ha with rfl|rfl<;>grind
  rename_i q;have s1:=s1 q;split
  ·rename_i g;have p:=p g;have g2:=g2 g;rw[eq_comm (a:=Zg c2 c0),ek] at p;simp only[mem,ek,and_true] at *
   simp only[gH,ec,tv,tR,ku,decide_eq_true_iff,Cv];clear d m q g has uniq s2 hc l;rcases ha with rfl|rfl<;>grind
  rename_i g;have s2:=s2 g;simp only[mem,ek,and_true] at *
  simp only[gH,ec,tv,tR,ku,decide_eq_true_iff,Cv];clear d m q g has uniq hc l;rcases ha with rfl|rfl<;>grind
 have no:∀k,(Zo (Xq E N E.length) k).isSome≠true -> ¬(A,B)=k:=λk h e=>h (by rw[<-e];exact has);have n0:=no _ m;have n1:=no (Zg c0 c1) (λh=>m (d (.inl h)));have J:=no (Zg c2 c0) (λh=>m (d (.inr h)));rw[Qo,if_neg m,if_neg (λh=>by rcases mem.1 h with h|h|h;exact n0 h;exact J h;exact n1 h)];have t:¬Cv a (N+w) c0 c1 c2:=by unfold Cv;omega
 simp only[tv,tR,ku,decide_eq_true_iff,t,if_false]
end
theorem er(hc:Ad w H=true)(g:Q<C): both Q C H=true↔(Q,C)∈eT H:=by
 obtain ⟨_,_,_,f,h,d⟩:=Qv.1 hc;have k1:∀x y:Nat,x≠y->((Q,C)=Zg x y↔(Q=x/\C=y)\/(Q=y/\C=x)):=λx y e=>by
  unfold Zg;rw[kb];omega
 simp only[eT,cZ,cf,or_false];rw[k1 _ _ h,k1 _ _ d,k1 _ _ f,both,cz,Gy,Gy];omega
theorem Z8:∀ {S:List (Nat×Nat×Nat)},(S.map λs=>Zg s.1 s.2.1).Nodup -> ∀s∈S,Zo (mkS S) (Zg s.1 s.2.1)=some s.2.2
 | x::S,a,s,hs=>by
  rw[eb,uL] at a;show Zo (Va (mkS S) (Zg x.1 x.2.1) x.2.2) _=_;rw[getA_put];rcases List.mem_cons.1 hs with rfl|h
  ·rw[if_pos rfl]
  rw[if_neg (λe=>a.1 (by rw[<-e];exact List.mem_map.2 ⟨s,h,rfl⟩))];exact Z8 a.2 s h
theorem RA{E:List Ed}{N:Nat}(c:∀i,i<E.length->(E.getD i ed0).a<N/\(E.getD i ed0).b<N)(q:List ((Nat×Nat)×Nat)){a b:Nat}(d:b<N): ∀i,i<=E.length->Zo (mkE E N q i) (a,b)=Zo q (a,b)
 | 0,_=>rfl
 | i+1,e=>by
  obtain ⟨h1,f⟩:=c i oo;rw[mkE,getA_put,getA_put,if_neg (by unfold Zg;rw[kb];omega),if_neg (by unfold Zg;rw[kb];omega),RA c q d i oo]
theorem Z9{E:List Ed}{N:Nat}(c:∀i,i<E.length->(E.getD i ed0).a<(E.getD i ed0).b/\(E.getD i ed0).b<N)(q:List ((Nat×Nat)×Nat)){j:Nat}: ∀i,i<=E.length->j<i->(Zo (mkE E N q i) ((E.getD j ed0).a,N+j)).getD 0=(Zo q ((E.getD j ed0).a,(E.getD j ed0).b)).getD 0
 | i+1,d,hj=>by
  obtain ⟨h1,g⟩:=c i oo;obtain ⟨k,f⟩:=c j oo;rw[mkE,getA_put,getA_put];rcases Nat.lt_succ_iff_lt_or_eq.1 hj with h|rfl
  ·rw[if_neg (by unfold Zg;rw[kb];omega),if_neg (by unfold Zg;rw[kb];omega),Z9 c q i oo h]
  rw[if_neg (by unfold Zg;rw[kb];omega),if_pos (by unfold Zg;rw[kb];omega),et];have e:Zg (E.getD j ed0).a (E.getD j ed0).b=((E.getD j ed0).a,(E.getD j ed0).b):=by unfold Zg;rw[kb];omega
  rw[e,RA (λi d=>⟨ua (c i d).1 (c i d).2,(c i d).2⟩) q f j oo]
theorem Mo: Od a1 i1 i1.length=i1.map λs=>(s.1,s.2.1,(Zo a1 (Zg s.1 s.2.1)).getD 0):=by
 rw[Od,w9,tf,gD]
theorem PE{E:List Ed}(i:∀c∈T,Ad w c=true)(g:Q<C)(h:C<w)(hk:¬(Zo (Xq E w E.length) (Zg Q C)).isSome=true): Dc (allT (Xq E w E.length) T T.length) Q C (allT (Xq E w E.length) T T.length).length=Dc T Q C T.length:=by
 rw[J9,NQ,NP _ _ _ (λk=>if both Q C (T.getD k (0,0,0)) then 1 else 0) T.length λk f=>jF (i _ (getD_mem T (d:=(0,0,0)) f)) oo h oo hk]
theorem NN{E:List Ed}(i:∀c∈T,Ad w c=true)(l:CutE T E)(hj:Q<E.length): Dc (allT (Xq E w E.length) T T.length) (E.getD Q ed0).a (w+Q) (allT (Xq E w E.length) T T.length).length=Dc T (E.getD Q ed0).a (E.getD Q ed0).b T.length:=by
 obtain ⟨k0,n,o⟩:=l.tri (getD_mem E (d:=ed0) hj);have g:=Wv (i _ (getD_mem T (d:=(0,0,0)) n)) o;simp only at g;rw[J9,NQ,NP _ _ _ (λk=>if both (E.getD Q ed0).a (E.getD Q ed0).b (T.getD k (0,0,0)) then 1 else 0) T.length λk m=>?_];have hm:=getD_mem T (d:=(0,0,0)) m;rw[bW l.nd (i _ hm) hj g.1 g.2 (by
  intro hc;have:=l.cl _ hm;rw[<-Br (N:=w), <-Br (N:=w), <-Br (N:=w)] at this;exact this hc) (.inl I)]
 by_cases h:((E.getD Q ed0).a,(E.getD Q ed0).b)∈eT (T.getD k (0,0,0))
 ·rw[if_pos h,if_pos ((er (i _ hm) g.1).2 h)]
 rw[if_neg h,if_neg (λe=>h ((er (i _ hm) g.1).1 e))]
theorem ir(h:∀c∈T,Ad w c=true)(hr:Z.map (λs=>(s.1,s.2.1,0))=Kz T): (Z.map λs=>Zg s.1 s.2.1).Nodup:=by
 have hs:=IW h;rw[<-hr,tM] at hs;rw[List.Nodup,tM];have a:∀s∈Z,s.1<s.2.1:=λs hs=>by
  have:(s.1,s.2.1,0)∈Kz T:=by rw[<-hr];exact List.mem_map.2 ⟨s,hs,rfl⟩
  exact((A1 h _).1 this).1
 refine hs.imp_of_mem λ{x y} hx hy h e=>?_;have:=a x hx;have:=a y hy;unfold Zg at e;rw[kb] at e;unfold ltS at h;simp only at h;omega
theorem ah{E:List Ed}(m:∀c∈T,Ad w c=true)(u:CutE T E)(hr:Z.map (λs=>(s.1,s.2.1,0))=Kz T)(f:∀c∈allT (Xq E w E.length) T T.length,Ad (w+E.length) c=true): ∀s∈Z,∃s2∈Od (mkE E w (mkS Z) E.length) (Kz (allT (Xq E w E.length) T T.length)) (Kz (allT (Xq E w E.length) T T.length)).length,s2.2.2=s.2.2:=by
 intro s hs;have n:(s.1,s.2.1,0)∈Kz T:=by rw[<-hr];exact List.mem_map.2 ⟨s,hs,rfl⟩
 obtain ⟨h1,p,_,r⟩:=(A1 m _).1 n;simp only at h1 p r;have ek:Zg s.1 s.2.1=(s.1,s.2.1):=by unfold Zg;rw[kb];omega
 have t:=Z8 (ir m hr) s hs;rw[ek] at t;have g:∀i,i<E.length->(E.getD i ed0).a<(E.getD i ed0).b/\(E.getD i ed0).b<w:=λi k=>by
  obtain ⟨k0,o,q⟩:=u.tri (getD_mem E (d:=ed0) k);exact Wv (m _ (getD_mem T (d:=(0,0,0)) o)) q
 rw[Mo];by_cases hk:(Zo (Xq E w E.length) (Zg s.1 s.2.1)).isSome=true
 ·obtain ⟨j,hj,_,h⟩:=BS hk;rw[ek,kb] at h;have hc:=NN m u hj;rw[<-h.1, <-h.2,r] at hc;have hm:(s.1,w+j,0)∈Kz (allT (Xq E w E.length) T T.length):=(A1 f _).2 ⟨by simp only;omega,by simp only;omega,rfl,hc⟩;refine⟨_,List.mem_map.2 ⟨_,hm,rfl⟩,?_⟩;have v:Zg s.1 (w+j)=(s.1,w+j):=by unfold Zg;rw[kb];omega
  have l:=Z9 g (mkS Z) (j:=j) E.length (aZ _) hj;simp only[v];rw[h.1,l, <-h.1, <-h.2,t];rfl
 have hc:=PE m h1 p hk;rw[r] at hc;have hm:(s.1,s.2.1,0)∈Kz (allT (Xq E w E.length) T T.length):=(A1 f _).2 ⟨h1,by simp only;omega,rfl,hc⟩;refine⟨_,List.mem_map.2 ⟨_,hm,rfl⟩,?_⟩;simp only[ek];rw[RA (λi k=>⟨ua (g i k).1 (g i k).2,(g i k).2⟩) (mkS Z) p E.length (aZ _),t];rfl
theorem mkS_le(h:∀s∈T,s.2.2<=w): ∀p∈mkS T,p.2<=w:=by
 induction T with
 | nil=>intro p a;cases a
 | cons s T b =>
  intro p a;rcases BQ (show p∈Va (mkS T) (Zg s.1 s.2.1) s.2.2 from a) with rfl|h1
  ·exact h s ae
  exact b (λs hs=>h s (aX _ hs)) p h1
theorem cm(h:∀p∈j2,p.2<=w)(k:Nat×Nat): (Zo j2 k).getD 0<=w:=by
 cases a:Zo j2 k with
 | none=>exact cX _
 | some y=>exact h _ (Ev a)
theorem TM{E:List Ed}{N A:Nat}{q:List ((Nat×Nat)×Nat)}(h:∀p∈q,p.2<=A): ∀i,∀p∈mkE E N q i,p.2<=A
 | 0,p,a=>h p a
 | i+1,p,a=>by
  rw[mkE] at a;rcases BQ a with rfl|a
  ·exact cm (TM h i) _
  rcases BQ a with rfl|a
  ·exact cm (TM h i) _
  exact TM h i p a
section
variable{M:M25}{D:Nat}{pl:List (Nat×Nat)}{ts S:List (Nat×Nat×Nat)}{l:List CT}
theorem HA(h:Lat2 M D pl ts S l)(lm:List Nat): Gr (Yn M D pl ts S) lm=Yn M (2*D) (pl2 pl (Yq ts (NS ts lm))) (allT (Xq (Yq ts (NS ts lm)) pl.length (Yq ts (NS ts lm)).length) ts ts.length) (Od (mkE (Yq ts (NS ts lm)) pl.length (mkS S) (Yq ts (NS ts lm)).length) (Kz (allT (Xq (Yq ts (NS ts lm)) pl.length (Yq ts (NS ts lm)).length) ts ts.length)) (Kz (allT (Xq (Yq ts (NS ts lm)) pl.length (Yq ts (NS ts lm)).length) ts ts.length)).length):=by
 have b:(Yn M D pl ts S).P.length=pl.length:=by simp[Yn]
 have a:=h.pts (EC h.plc.num lm);unfold Gr K8;rw[b];show(⟨_,_,_⟩:Ms)=⟨_,_,_⟩
 rw[a];rfl
theorem gU(h:∀c∈T,Ad w c=true)(q:List ((Nat×Nat)×Nat)): (Od q (Kz T) (Kz T).length).map (λs=>(s.1,s.2.1,0))=Kz T:=by
 rw[Mo,sI];conv=>rhs;rw[<-vZ (Kz T)]
 refine tz λx hx=>?_;have:=((A1 h x).1 hx).2.2.1;simp only[Function.comp,id];rw[<-this]
theorem km: (Yq b2 a1).length<=3*b2.length:=bp (nk _ _) (Kh b2)
theorem bis_mv(h:Lat2 M D pl ts S l)(lm:List Nat): MV 4 (Gr (Yn M D pl ts S) lm):=by
 have a:=EC h.plc.num lm;have ok:=E4 h.plc a;rw[HA h];refine h.fine a (gU (by have:=ok.num;exact this) _) (λs hs=>?_) (by have:=km ts<|NS ts lm;have:=h.len;have:=h.n1;omega);rw[Mo] at hs;obtain ⟨x,_,rfl⟩:=List.mem_map.1 hs;exact bp (cm (TM (mkS_le h.s4) _) _) dd
theorem Lat2.conn(h:Lat2 M D pl ts S l): WJ ts:=h.plc.conn h.len h.cn
theorem kK(h:Lat2 M D pl ts S l)(lm:List Nat): WJ (Gr (Yn M D pl ts S) lm).T:=by
 rw[HA h];exact dM _ (by have:=h.len;have:=h.n0;omega) h.conn
theorem ew(h:Lat2 M D pl ts S l)(lm:List Nat): ∀s∈S,∃s2∈(Gr (Yn M D pl ts S) lm).S,s2.2.2=s.2.2:=by
 have b:=EC h.plc.num lm;have ok:=E4 h.plc b;have a:=ok.num;rw[IZ] at a;rw[HA h];exact ah h.plc.num b h.rim a
theorem gv(h:Lat2 M D pl ts S l)(a:PrV 4 e9)(hm:e9.m=Yn M D pl ts S)(V:List Rat)(t:Rat): PrV 4 (Xu e9 V t):=by
 have e:(Xu e9 V t).m=Gr (Yn M D pl ts S) (Qw (Gh e9 V) t):=by rw[<-hm];rfl
 exact⟨a.o,a.k0,a.k1,a.k2,a.pos,a.det,a.c,a.c0,a.f,a.G,by rw[e];exact bis_mv h _,by rw[e];exact kK h _⟩
theorem X0(h:Lat2 M D pl ts S l)(hm:e9.m=Yn M D pl ts S)(a:Cr e9=true)(V:List Rat)(t:Rat): Cr (Xu e9 V t)=true:=by
 unfold Cr at a ⊢;rw[iB] at a ⊢;rcases a with a|a
 ·exact .inl a
 right;rw[uh] at a ⊢;obtain ⟨s,hs,hf⟩:=a;rw[hm] at hs;obtain ⟨s2,b,e⟩:=ew h (Qw (Gh e9 V) t) s hs;refine⟨s2,by show s2∈(Gr e9.m _).S;rw[hm];exact b,?_⟩;unfold ct at hf ⊢;rw[e];exact hf
end
theorem Bp(q:List ((Nat×Nat)×Nat))(T:List (Nat×Nat×Nat)): ∀n,(K5 q T n).length=(allT q T n).length
 | 0=>rfl
 | n+1=>by rw[K5,allT,bd,bd,Bp q T n,hW]
theorem ZL(q:List ((Nat×Nat)×Nat))(T:List (Nat×Nat×Nat)): ∀n,∀x∈K5 q T n,x<n
 | n+1,x,hx=>by
  rw[K5] at hx;rcases List.mem_append.1 hx with h|h
  ·have:=ZL q T n x h;omega
  rw[(List.mem_replicate.1 h).2];exact ia n
theorem PQ(q:List ((Nat×Nat)×Nat))(T:List (Nat×Nat×Nat)){t i:Nat}(c:i<(Qo q 2 (T.getD t (0,0,0))).length): ∀n,t<n->(K5 q T n).getD ((allT q T t).length+i) 0=t/\(allT q T n).getD ((allT q T t).length+i) (0,0,0)=(Qo q 2 (T.getD t (0,0,0)))[i]
 | n+1,h=>by
  rcases Nat.lt_succ_iff_lt_or_eq.1 h with h1|rfl
  ·obtain ⟨a,b⟩:=PQ q T c n h1;have hl:(allT q T t).length+i<(allT q T n).length:=by
    have:∀n,t<n->(allT q T t).length+(Qo q 2 (T.getD t (0,0,0))).length<=(allT q T n).length:=λn=>by
     induction n with
     | zero=>intro h;omega
     | succ n d =>
      intro h;rw[allT,bd];rcases Nat.lt_succ_iff_lt_or_eq.1 h with h|rfl
      ·have:=d h;omega
      omega
    have:=this n h1;omega
   rw[K5,allT];refine⟨?_,?_⟩
   ·rw[List.getD_eq_getElem?_getD,List.getElem?_append_left (by rw[Bp];exact hl), <-List.getD_eq_getElem?_getD];exact a
   rw[List.getD_eq_getElem?_getD,List.getElem?_append_left hl, <-List.getD_eq_getElem?_getD];exact b
  rw[K5,allT];refine⟨?_,?_⟩
  ·rw[List.getD_eq_getElem?_getD,List.getElem?_append_right (by rw[Bp];omega),Bp,wB,List.getElem?_replicate,if_pos c];rfl
  rw[List.getD_eq_getElem?_getD,List.getElem?_append_right oo,wB,List.getElem?_eq_getElem c];rfl
theorem mP(q:List ((Nat×Nat)×Nat))(T:List (Nat×Nat×Nat)): ∀n k,k<(allT q T n).length -> ∃t i,∃a:i<(Qo q 2 (T.getD t (0,0,0))).length,t<n/\k=(allT q T t).length+i
 | n+1,k,hk=>by
  rw[allT,bd] at hk;rcases el k (allT q T n).length with h|h
  ·obtain ⟨t,i,a,h1,b⟩:=mP q T n k h;exact⟨t,i,a,oo,b⟩
  exact⟨n,k-(allT q T n).length,oo,ia n,oo⟩
def sgC(x:CT): Int:=sgN x.1 x.2.1 x.2.2
theorem qp(t:CT): ((bR i7 j0 j1 t).map sgC).sum=sgC (mdP t.1 t.1,mdP t.2.1 t.2.1,mdP t.2.2 t.2.2):=by
 cases i7<;>cases j0<;>cases j1<;>simp[bR,sgC,sgN,mdP]<;>grind
def kap(m:M25)(D:Nat): Rat:=((dG m:Int):Rat)/(((D:Int):Rat)*((D:Int):Rat))
theorem eG(b:1<=w)(ht:Ad G.length H=true): KR (pt (Yn m w G T Z) H.1) (pt (Yn m w G T Z) H.2.1) (pt (Yn m w G T Z) H.2.2)=kap m w*Xx*((sgC (P3 G H):Int):Rat):=by
 obtain ⟨t1,t2,t3,_⟩:=Qv.1 ht;rw[Vx m w _ _ _ t1,Vx m w _ _ _ t2,Vx m w _ _ _ t3,KR,Mi m b];show kap m w*_*Xx=_;rw[vE,Rat.mul_comm _ Xx, <-vE];rfl
theorem TV(m k:Ms)(par:List Nat){n b t:Nat}(c:∀i,i<b->par.getD (n+i) 0=t)(ht:t<m.T.length): ∀i,i<=b->(lfL m k par (n+i)).getD t 0=(lfL m k par n).getD t 0-((List.range i).map λj=>arM k (n+j)).sum /\ ∀a,a≠t->(lfL m k par (n+i)).getD a 0=(lfL m k par n).getD a 0
 | 0,_=>⟨by show _=_-(0:Rat);grind,λa _=>rfl⟩
 | i+1,e=>by
  obtain ⟨h1,d⟩:=TV m k par c ht i oo;have hl:=RJ m k par (n+i);rw[<-gT,lfL,c i oo];refine⟨?_,λa ha=>?_⟩
  ·rw[List.getD_eq_getElem?_getD,List.getElem?_set_self oo,et,h1,tZ,dv,we];simp only[eb,la,wu,List.sum_nil]
   grind
  rw[<-d a ha,List.getD_eq_getElem?_getD,List.getElem?_set_ne (vM ha), <-List.getD_eq_getElem?_getD]
theorem nq(m:Ms): ∀n,n<=m.T.length -> ∀a,a<n->(ar0 m n).getD a 0=arM m a
 | n+1,b,a,ha=>by
  have hl:=SE m n;rw[ar0];rcases Nat.lt_succ_iff_lt_or_eq.1 ha with h|rfl
  ·rw[<-nq m n oo a h,List.getD_eq_getElem?_getD,List.getElem?_set_ne oo, <-List.getD_eq_getElem?_getD]
  rw[List.getD_eq_getElem?_getD,List.getElem?_set_self oo];rfl
section
variable{M:M25}{D:Nat}{pl:List (Nat×Nat)}{ts S:List (Nat×Nat×Nat)}{l:List CT}
abbrev NK(ts:List (Nat×Nat×Nat))(lm:List Nat): List Ed:=Yq ts (NS ts lm)
abbrev FI(ts:List (Nat×Nat×Nat))(N:Nat)(lm:List Nat): List ((Nat×Nat)×Nat):=Xq (NK ts lm) N (NK ts lm).length
theorem PR(h:Lat2 M D pl ts S l)(lm:List Nat): (Gr (Yn M D pl ts S) lm).T=allT (FI ts pl.length lm) ts ts.length:=by rw[HA h];rfl
theorem Ff: B2 (Yn M D pl ts S) U=K5 (FI ts pl.length U) ts ts.length:=by
 have a:(Yn M D pl ts S).P.length=pl.length:=by simp[Yn]
 unfold B2;rw[a];rfl
theorem rn(h:Lat2 M D pl ts S l)(lm:List Nat)(a:w<(pl2 pl (NK ts lm)).length): pt (Gr (Yn M D pl ts S) lm) w=fK M (2*D) ((pl2 pl (NK ts lm)).getD w (0,0)):=by
 rw[HA h];exact Vx M _ _ _ _ a
theorem LA(h:Lat2 M D pl ts S l)(a:w<pl.length): pt (Yn M D pl ts S) w=fK M (2*D) (mdP (pl.getD w (0,0)) (pl.getD w (0,0))):=by
 rw[Vx M D _ _ _ a,mS M h.D0]
theorem UH(h:Lat2 M D pl ts S l)(lm:List Nat)(ht:w<(allT (FI ts pl.length lm) ts ts.length).length): arM (Gr (Yn M D pl ts S) lm) w=kap M (2*D)*Xx*((sgC (P3 (pl2 pl (NK ts lm)) ((allT (FI ts pl.length lm) ts ts.length).getD w (0,0,0))):Int):Rat):=by
 have a:=EC h.plc.num lm;have ok:=E4 h.plc a;unfold arM;rw[PR h];rw[HA h];exact eG M (by have:=h.D0;omega) (ok.num _ (getD_mem _ ht))
theorem rG(h:Lat2 M D pl ts S l)(ha:w<ts.length): arM (Yn M D pl ts S) w=kap M (2*D)*Xx*((sgC (mdP (P3 pl (ts.getD w (0,0,0))).1 (P3 pl (ts.getD w (0,0,0))).1,mdP (P3 pl (ts.getD w (0,0,0))).2.1 (P3 pl (ts.getD w (0,0,0))).2.1,mdP (P3 pl (ts.getD w (0,0,0))).2.2 (P3 pl (ts.getD w (0,0,0))).2.2):Int):Rat):=by
 obtain ⟨t1,t2,t3,_⟩:=Qv.1 (h.plc.num _ (getD_mem ts (d:=(0,0,0)) ha));have b:=h.D0;unfold arM;show KR (pt _ (ts.getD w (0,0,0)).1) (pt _ (ts.getD w (0,0,0)).2.1) (pt _ (ts.getD w (0,0,0)).2.2)=_;rw[LA h t1,LA h t2,LA h t3,KR,Mi M (show 1<=2*D by omega)];show kap M (2*D)*_*Xx=_;rw[vE,Rat.mul_comm _ Xx, <-vE];rfl
theorem jo(h:Lat2 M D pl ts S l): 0<kap M (2*D)*Xx:=uO (RR M (show 1<=2*D by have:=h.D0;omega)) kD
theorem iH(h:Lat2 M D pl ts S l)(lm:List Nat): ∀t,t<(Gr (Yn M D pl ts S) lm).T.length->0<(arM (Gr (Yn M D pl ts S) lm) t).num.sign:=by
 intro t ht;rw[PR h] at ht;have ok:=E4 h.plc (EC h.plc.num lm);have a:=ok.pos _ (getD_mem _ (d:=(0,0,0)) ht);rw[mo,Fo,Mn] at a;have hz:0<sgC (P3 (pl2 pl (NK ts lm)) ((allT (FI ts pl.length lm) ts ts.length).getD t (0,0,0))):=(by omega:∀z:Int, -z<0->0<z) _ a;rw[UH h lm ht];have:0<kap M (2*D)*Xx*((sgC (P3 (pl2 pl (NK ts lm)) ((allT (FI ts pl.length lm) ts ts.length).getD t (0,0,0))):Int):Rat):=uO (jo h) (by exact_mod_cast hz);exact Int.sign_pos_iff.2 (numP.2 this)
theorem rm(h:Lat2 M D pl ts S l)(lm:List Nat)(ht:w<ts.length): ((List.range (Qo (FI ts pl.length lm) 2 (ts.getD w (0,0,0))).length).map λj=>arM (Gr (Yn M D pl ts S) lm) ((allT (FI ts pl.length lm) ts w).length+j)).sum=arM (Yn M D pl ts S) w:=by
 have hm:=getD_mem ts (d:=(0,0,0)) ht;have c:=mQ (E:=NK ts lm) (h.plc.num _ hm);rw[rG h ht, <-qp (flg (NK ts lm) pl.length (ts.getD w (0,0,0))).1 (flg (NK ts lm) pl.length (ts.getD w (0,0,0))).2.1 (flg (NK ts lm) pl.length (ts.getD w (0,0,0))).2.2 (P3 pl (ts.getD w (0,0,0))), <-c,sI];have hlen:∀j,j<(Qo (FI ts pl.length lm) 2 (ts.getD w (0,0,0))).length->(allT (FI ts pl.length lm) ts w).length+j<(allT (FI ts pl.length lm) ts ts.length).length:=λj hj=>by
  have e:=(PQ (FI ts pl.length lm) ts hj ts.length ht).2;rcases el ((allT (FI ts pl.length lm) ts w).length+j) (allT (FI ts pl.length lm) ts ts.length).length with h1|h1
  ·exact h1
  exfalso;rw[List.getD_eq_getElem?_getD,List.getElem?_eq_none h1] at e;have a:=M9 (E:=NK ts lm) (h.plc.num _ hm) _ (uC hj);rw[<-e] at a;have:=(Qv.1 a).2.2.2.1;exact this I
 have key:∀L:List (Nat×Nat×Nat),((List.range L.length).map λj=>kap M (2*D)*Xx*((sgC (P3 (pl2 pl (NK ts lm)) (L.getD j (0,0,0))):Int):Rat)).sum=kap M (2*D)*Xx*(((L.map (sgC ∘ P3 (pl2 pl (NK ts lm)))).sum:Int):Rat):=λL=>by
  induction L with
  | nil=>simp
  | cons x L b =>
   rw[dc,List.range_succ_eq_map,eb,sI,wu,eb,wu,uJ,Rat.mul_add, <-b];rfl
 rw[<-key];congr 1;refine tz λj hj=>?_;rw[List.mem_range] at hj;rw[UH h lm (hlen j hj),(PQ (FI ts pl.length lm) ts hj ts.length ht).2];have e:(Qo (FI ts pl.length lm) 2 (ts.getD w (0,0,0))).getD j (0,0,0)=(Qo (FI ts pl.length lm) 2 (ts.getD w (0,0,0)))[j]:=by rw[List.getD_eq_getElem?_getD,List.getElem?_eq_getElem hj];rfl
 exact congrArg (λx=>kap M (2*D)*Xx*((sgC (P3 (pl2 pl (NK ts lm)) x):Int):Rat)) e.symm
theorem RI(h:Lat2 M D pl ts S l)(lm:List Nat): ∀n,n<=ts.length -> ∀a,a<ts.length->(lfL (Yn M D pl ts S) (Gr (Yn M D pl ts S) lm) (B2 (Yn M D pl ts S) lm) (allT (FI ts pl.length lm) ts n).length).getD a 0=if a<n then 0 else arM (Yn M D pl ts S) a
 | 0,_,a,ha=>by
  rw[if_neg (gS a)];exact nq (Yn M D pl ts S) ts.length (aZ _) a ha
 | n+1,c,a,ha=>by
  have d:=TV (Yn M D pl ts S) (Gr (Yn M D pl ts S) lm) (B2 (Yn M D pl ts S) lm) (n:=(allT (FI ts pl.length lm) ts n).length) (b:=(Qo (FI ts pl.length lm) 2 (ts.getD n (0,0,0))).length) (t:=n) (λi g=>by rw[Ff];exact(PQ (FI ts pl.length lm) ts g ts.length c).1) c _ (aZ _);rw[rm h lm c] at d;rw[allT,bd];by_cases e:a=n
  ·subst e;rw[d.1,RI h lm a oo a ha,if_neg (wt a),if_pos (ia a)]
   grind
  rw[d.2 a e,RI h lm n oo a ha];by_cases f:a<n
  ·rw[if_pos f,if_pos oo]
  rw[if_neg f,if_neg oo]
theorem ZM(h:Lat2 M D pl ts S l)(lm:List Nat): ∀x∈lfL (Yn M D pl ts S) (Gr (Yn M D pl ts S) lm) (B2 (Yn M D pl ts S) lm) (B2 (Yn M D pl ts S) lm).length,x=0:=by
 have hl:(B2 (Yn M D pl ts S) lm).length=(allT (FI ts pl.length lm) ts ts.length).length:=by rw[Ff,Bp]
 intro x hx;obtain ⟨a,ha,rfl⟩:=List.mem_iff_getElem.1 hx;have c:=RJ (Yn M D pl ts S) (Gr (Yn M D pl ts S) lm) (B2 (Yn M D pl ts S) lm) (B2 (Yn M D pl ts S) lm).length;have b:a<ts.length:=by rw[c] at ha;exact ha
 have:=RI h lm ts.length (aZ _) a b;rw[if_pos b, <-hl,List.getD_eq_getElem?_getD,List.getElem?_eq_getElem ha] at this;exact this
end
theorem sg1: sgN (mdP J L) (mdP X X) (mdP h4 h4)=2*(sgN J X h4+sgN L X h4):=by simp only[sgN,mdP];grind
theorem sg2: sgN (mdP X X) (mdP J L) (mdP h4 h4)=2*(sgN X J h4+sgN X L h4):=by simp only[sgN,mdP];grind
theorem sg3: sgN (mdP X X) (mdP h4 h4) (mdP J L)=2*(sgN X h4 J+sgN X h4 L):=by simp only[sgN,mdP];grind
theorem sg0: sgN J J L=0/\sgN J L J=0/\sgN J L L=0:=by simp only[sgN];grind
theorem des_in{u x:CT}(hx:x∈qR u): ∀v∈Cg x,∃p q,p∈Cg u/\q∈Cg u/\v=mdP p q:=by
 obtain ⟨a,b,c⟩:=u;intro v hv;have ha:a∈Cg (a,b,c):=by simp[Cg]
 have d:b∈Cg (a,b,c):=by simp[Cg]
 have hc:c∈Cg (a,b,c):=by simp[Cg]
 have fin:v=mdP a a\/v=mdP b b\/v=mdP c c\/v=mdP b c\/v=mdP a b\/v=mdP c a:=by
  simp only[qR,cZ,cf,or_false] at hx;rcases hx with rfl|rfl|rfl|rfl|rfl|rfl|rfl<;>simp only[Cg,cZ,cf,or_false] at hv<;>rcases hv with rfl|rfl|rfl<;>simp
 rcases fin with rfl|rfl|rfl|rfl|rfl|rfl
 ·exact⟨a,a,ha,ha,rfl⟩
 ·exact⟨b,b,d,d,rfl⟩
 ·exact⟨c,c,hc,hc,rfl⟩
 ·exact⟨b,c,d,hc,rfl⟩
 ·exact⟨a,b,ha,d,rfl⟩
 exact⟨c,a,hc,ha,rfl⟩
theorem ma{c:Nat×Nat}(g:0<sgN O e8 c)(d:o3∈Cg (O,e8,c)): 0<=sgN o3 e8 c/\0<=sgN O o3 c/\0<=sgN O e8 o3:=by
 simp only[Cg,cZ,cf,or_false] at d;have h1:=sg0 O e8;have e:=sg0 e8 c;have h:=sg0 O c;have f:=sg0 c e8;rcases d with rfl|rfl|rfl<;>omega
theorem Rv(h:0<=a8): ¬a8.num.sign = -1:=λe=>by
 have h1:=Rat.num_nonneg.2 h;have:=Int.sign_nonneg_iff.2 h1;omega
section
variable{M:M25}{D:Nat}{pl:List (Nat×Nat)}{ts S:List (Nat×Nat×Nat)}{l:List CT}
theorem pD(h:Lat2 M D pl ts S l)(lm:List Nat): ∀t,t<(Gr (Yn M D pl ts S) lm).T.length->InM (Yn M D pl ts S) (Gr (Yn M D pl ts S) lm) ((B2 (Yn M D pl ts S) lm).getD t 0) t:=by
 intro t ht j hj;rw[PR h] at ht;have y:=EC h.plc.num lm;have ok:=E4 h.plc y;obtain ⟨a,i,A,ha,rfl⟩:=mP _ _ _ _ ht;obtain ⟨G,C⟩:=PQ (FI ts pl.length lm) ts A ts.length ha;have I:=h.D0;rw[Ff,G,PR h,C];generalize hx:(Qo (FI ts pl.length lm) 2 (ts.getD a (0,0,0)))[i]=x;have g:x∈Qo (FI ts pl.length lm) 2 (ts.getD a (0,0,0)):=by rw[<-hx];exact uC A
 have f:=((h.plc.loc y ha).2 x g).1;have k:=ok.num x (BU g ha);obtain ⟨n1,K,H,_⟩:=Qv.1 k;have u:crn x j<(pl2 pl (NK ts lm)).length:=by
  have:j=0\/j=1\/j=2:=oo;rcases this with rfl|rfl|rfl<;>assumption
 have hv:(pl2 pl (NK ts lm)).getD (crn x j) (0,0)∈Cg (P3 (pl2 pl (NK ts lm)) x):=by
  have:j=0\/j=1\/j=2:=oo;rcases this with rfl|rfl|rfl<;>simp[Cg,P3,crn]
 obtain ⟨p,q,E,hq,m⟩:=des_in f _ hv;obtain ⟨t1,t2,t3,_⟩:=Qv.1 (h.plc.num _ (getD_mem ts (d:=(0,0,0)) ha));have o:=E4 h.plc (NL ts);have B:0<sgN (P3 pl (ts.getD a (0,0,0))).1 (P3 pl (ts.getD a (0,0,0))).2.1 (P3 pl (ts.getD a (0,0,0))).2.2:=by
  have hl:=h.plc.lat.loc _ (getD_mem l (d:=cl0) (h.plc.at_ a ha).2);have h1:=List.all_eq_true.1 (List.all_eq_true.1 hl _ (h.plc.at_ a ha).1) (false,false,false) dd;rw[cz,uD] at h1;have w:=h1.2 (mdP (P3 pl (ts.getD a (0,0,0))).1 (P3 pl (ts.getD a (0,0,0))).1,mdP (P3 pl (ts.getD a (0,0,0))).2.1 (P3 pl (ts.getD a (0,0,0))).2.1,mdP (P3 pl (ts.getD a (0,0,0))).2.2 (P3 pl (ts.getD a (0,0,0))).2.2) (by simp[bR]);simp only[cz] at w;have F:=w.1.1.1;rw[mo,Fo,Mn,sg1] at F;have J:=sg0 (P3 pl (ts.getD a (0,0,0))).1 (P3 pl (ts.getD a (0,0,0))).2.1;omega
 have v:=ma (c:=(P3 pl (ts.getD a (0,0,0))).2.2) B E;have n:=ma (c:=(P3 pl (ts.getD a (0,0,0))).2.2) B hq;have k0:=RR M (show 1<=2*D by omega);have r:∀ {z s:Int},0<=z->0<s->0<=((dG M:Int):Rat)/((((2*D:Nat):Int):Rat)*(((2*D:Nat):Int):Rat))*((z:Int):Rat)/(((dG M:Int):Rat)/((((2*D:Nat):Int):Rat)*(((2*D:Nat):Int):Rat))*((s:Int):Rat)):=λ{z s} hz hs=>by
  rw[vv];exact s9 (s9 (u5 k0) (by exact_mod_cast hz)) (u5 (Rat.inv_pos.2 (uO k0 (by exact_mod_cast hs))))
 have b:0<sgN (mdP (P3 pl (ts.getD a (0,0,0))).1 (P3 pl (ts.getD a (0,0,0))).1) (mdP (P3 pl (ts.getD a (0,0,0))).2.1 (P3 pl (ts.getD a (0,0,0))).2.1) (mdP (P3 pl (ts.getD a (0,0,0))).2.2 (P3 pl (ts.getD a (0,0,0))).2.2):=by rw[sg1];omega
 show InT (pt (Yn M D pl ts S) (ts.getD a (0,0,0)).1) (pt (Yn M D pl ts S) (ts.getD a (0,0,0)).2.1) (pt (Yn M D pl ts S) (ts.getD a (0,0,0)).2.2) (pt (Gr (Yn M D pl ts S) lm) (crn x j));rw[LA h t1,LA h t2,LA h t3,rn h lm u,m];refine⟨λe=>?_,?_,?_,?_⟩
 ·have:=(SZ M (show 1<=2*D by omega) _ _ _).2 b;simp only[P3] at this;rw[e] at this;exact absurd this (Rat.lt_irrefl)
 ·refine Rv ?_;show 0<=twP _ _ _/twP _ _ _;rw[Mi M (show 1<=2*D by omega),Mi M (show 1<=2*D by omega)];exact r (by have:=sg1 p q (P3 pl (ts.getD a (0,0,0))).2.1 (P3 pl (ts.getD a (0,0,0))).2.2;simp only[P3] at this v n;omega) b
 ·refine Rv ?_;show 0<=twP _ _ _/twP _ _ _;rw[Mi M (show 1<=2*D by omega),Mi M (show 1<=2*D by omega)];exact r (by have:=sg2 p q (P3 pl (ts.getD a (0,0,0))).1 (P3 pl (ts.getD a (0,0,0))).2.2;simp only[P3] at this v n;omega) b
 refine Rv ?_;show 0<=twP _ _ _/twP _ _ _;rw[Mi M (show 1<=2*D by omega),Mi M (show 1<=2*D by omega)];exact r (by have:=sg3 p q (P3 pl (ts.getD a (0,0,0))).1 (P3 pl (ts.getD a (0,0,0))).2.1;simp only[P3] at this v n;omega) b
theorem ON(h:Lat2 M D pl ts S l)(lm:List Nat): (Gr (Yn M D pl ts S) lm).P.take (Yn M D pl ts S).P.length=(Yn M D pl ts S).P/\(Yn M D pl ts S).P.length<=(Gr (Yn M D pl ts S) lm).P.length:=by
 unfold Gr K8;exact⟨List.take_left ..,by simp⟩
theorem iI(h:Lat2 M D pl ts S l)(lm:List Nat): (B2 (Yn M D pl ts S) lm).length=(Gr (Yn M D pl ts S) lm).T.length:=by rw[Ff,PR h,Bp]
theorem pC: ∀x∈B2 (Yn M D pl ts S) U,x<(Yn M D pl ts S).T.length:=by rw[Ff];exact ZL _ _ _
theorem dQ(q:List ((Nat×Nat)×Nat))(T:List (Nat×Nat×Nat))(t:Nat): ∀n,(K5 q T n).count t=if t<n then (Qo q 2 (T.getD t (0,0,0))).length else 0
 | 0=>by simp[K5]
 | n+1=>by
  rw[K5,vQ,dQ q T t n,List.count_replicate];by_cases e:n=t
  ·subst e;simp
  by_cases h:t<n
  ·rw[if_pos h,if_neg (show ¬(n == t)=true by simpa using e),if_pos oo];rfl
  rw[if_neg h,if_neg (show ¬(n == t)=true by simpa using e),if_neg oo]
theorem V3(h:Lat2 M D pl ts S l)(lm:List Nat)(ht:w∈lm)(f:w<ts.length): 2<=(B2 (Yn M D pl ts S) lm).count w:=by
 rw[Ff,dQ,if_pos f];have hm:=getD_mem ts (d:=(0,0,0)) f;have hk:Zg (ts.getD w (0,0,0)).2.1 (ts.getD w (0,0,0)).2.2∈(NK ts lm).map λe=>(e.a,e.b):=(J2 h.plc.num _ _).2 ⟨⟨_,hm,by simp[eT]⟩,kz ts lm ht⟩;rw[Qo,if_pos (Br.2 hk),bd];have:∀c,1<=(Qo (FI ts pl.length lm) 1 c).length:=λc=>by
  rw[Qo];split
  ·rw[bd];simp[Qo]
  simp
 have a:=this ((Zo (FI ts pl.length lm) (Zg (ts.getD w (0,0,0)).2.1 (ts.getD w (0,0,0)).2.2)).getD 0,(ts.getD w (0,0,0)).1,(ts.getD w (0,0,0)).2.1);have b:=this ((Zo (FI ts pl.length lm) (Zg (ts.getD w (0,0,0)).2.1 (ts.getD w (0,0,0)).2.2)).getD 0,(ts.getD w (0,0,0)).2.2,(ts.getD w (0,0,0)).1);omega
end
theorem YM{c:List (Nat×Nat×Nat)}{F a:Nat}{s:Nat×Nat×Nat}: ∀b,s∈sdI c F a b->s.1=a/\s.2.1<b/\s.2.2<=4
 | 0,h=>nomatch h
 | b+1,h=>by
  rw[sdI,u2] at h;rcases h with h|h
  ·have:=YM b h;omega
  split at h
  ·rw[da] at h;subst h;exact⟨rfl,by simp,by simp only;omega⟩
  cases h
theorem YL{b:List (Nat×Nat×Nat)}{F n:Nat}{s:Nat×Nat×Nat}: ∀a,s∈sdW b F n a->s.1<a/\s.2.1<n/\s.2.2<=4
 | 0,h=>nomatch h
 | a+1,h=>by
  rw[sdW,u2] at h;rcases h with h|h
  ·have:=YL a h;omega
  have:=YM n h;omega
theorem qe(hm:WI m){nx ny:Nat}(hx:m.nx=((nx:Nat):Int))(J:m.ny=((ny:Nat):Int))(I:nx<=1)(G:ny<=1)(hf:U8 m.first)(hd:U8 m.den): ∃D pl ts S l,Lat2 m D pl ts S l/\MOk m (Yn m D pl ts S):=by
 obtain ⟨f1,f2⟩:=hf;obtain ⟨d1,d2⟩:=hd;obtain ⟨F,H⟩:∃F:Nat,m.first=((F:Nat):Int):=⟨_,(tA f1).symm⟩
 obtain ⟨n,y⟩:∃F:Nat,m.den=((F:Nat):Int):=⟨_,(tA d1).symm⟩
 have ha:1+nx%3=1\/1+nx%3=2:=oo;have j:1+ny%3=1\/1+ny%3=2:=oo;have E:(1+nx%3)*(1+ny%3)<=4:=by rcases ha with e|e<;>rcases j with P|P<;>rw[e,P]<;>decide
 have h:=bo (BE m.cells) (SX _) _ _ ha j;obtain ⟨u,z,hz,r,hr⟩:=kw (BE m.cells) (SX _) _ _ ha j;have f:=eu (BE m.cells) (SX _) _ _ ha j;have hlen:=Gz (BE m.cells) (1+nx%3) ((1+nx%3)*(1+ny%3));have hle:=cells_le (BE m.cells) (SX _) (1+nx%3) ((1+nx%3)*(1+ny%3)) (λi o=>by
  rcases ha with e|e<;>rcases j with P|P<;>rw[e,P] at o<;>rw[e]<;>omega)
 generalize hl:Xw (BE m.cells) (1+nx%3) ((1+nx%3)*(1+ny%3))=l at *
 have q:0<l.length:=by
  rw[hr,bd];have:z=0\/z=1\/z=2:=oo;rcases this with rfl|rfl|rfl<;>simp[QK]<;>omega
 have plc:=kR F h;have g:∀p∈plW l F l.length,p.1<=4/\p.2<=4:=λp w=>by
  obtain ⟨i,o,rfl⟩:=List.mem_iff_getElem.1 w;obtain ⟨k,hk,hv⟩:=plc.vtx o;rw[Af] at hk;rw[List.getD_eq_getElem?_getD (l:=plW l F l.length),List.getElem?_eq_getElem o] at hv;exact hle _ (getD_mem l (d:=cl0) hk) _ hv
 have K:=MF l F l.length;have L:Lat2 m (1+n%6) (plW l F l.length) (trW l F l.length) (sdW (trW l F l.length) F (plW l F l.length).length (plW l F l.length).length) l :=
  ⟨oo,oo,plc,(Af l F _).symm,u,g,q,oo,by omega,rim_sd F plc.num,λs hs=>(YL _ hs).2.2,f⟩
 have B:=plc.rim L.len f;have C:(sdW (trW l F l.length) F (plW l F l.length).length (plW l F l.length).length).length=(Kz (trW l F l.length)).length:=by
  have:=congrArg List.length L.rim;rw[az] at this;exact this
 have x:=mj L.rim;rw[Af] at x;refine⟨_,_,_,_,_,L,L.mv,L.conn,by show 0<(sdW _ _ _ _).length;omega,by show(sdW _ _ _ _).length<=300;omega,L.s4,λA O=>?_⟩;have N:(Yn m (1+n%6) (plW l F l.length) (trW l F l.length) (sdW (trW l F l.length) F (plW l F l.length).length (plW l F l.length).length))=⟨List.map (ptZ (1+n%6)) (List.map (mvP m) (plW l F l.length)),trW l F l.length,sdW (trW l F l.length) F (plW l F l.length).length (plW l F l.length).length⟩:=by
  unfold Yn;rw[sI];rfl
 rw[N];exact sk m A O nx ny F n hx J H y oo oo oo oo hm l hl (λt ht i=>by
   have:∀v∈Cg t,v.1<=4/\v.2<=4:=hle t ht;have a:=this t.1 (by simp[Cg]);have b:=this t.2.1 (by simp[Cg]);have c:=this t.2.2 (by simp[Cg])
   match i with
   | 0=>exact⟨bp a.1 dd,bp a.2 dd⟩
   | 1=>exact⟨bp b.1 dd,bp b.2 dd⟩
   | _+2=>exact⟨bp c.1 dd,bp c.2 dd⟩) _ rfl _ rfl
  (λz hz=>by
   obtain ⟨p,w,rfl⟩:=List.mem_map.1 hz;have:=g p w;exact mvP_le _ oo oo)
  oo
end Go.Proofs.YtdadideknhmbbaaGreatDoor
