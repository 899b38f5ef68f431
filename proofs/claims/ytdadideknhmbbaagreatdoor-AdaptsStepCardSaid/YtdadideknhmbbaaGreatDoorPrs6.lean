/- Walks of functions. By an AI agent. -/
import Derived.Test.YtdadideknhmbbaaGreatDoorMshl
set_option linter.unusedVariables false
set_option linter.unusedSimpArgs false
set_option maxRecDepth 4000
set_option maxHeartbeats 8000000
namespace Go.Proofs.YtdadideknhmbbaaGreatDoor
open Go Go.Proofs Go.Fx Tryz
attribute [local irreducible] Oper.wp Code.wp wpList Fx.Head wpOp
variable{a7 B h R b0 F U J A C b2 Z b4 O a6 Q a8 w S b1 H V b3 N a1 P:Value}{h2:List Rat}{k5:Rat}{Y j8:List ((Nat×Nat)×Nat)}{r k3:List (Nat×Nat×Nat)}{k4 e7:List Value}{h7:TypeId}{b8:List Nat}{z c4 s j9:Nat}{b5:Type}{X:List Int}{j6:List Ed}{h0:Int}{h3:Bool}{l7:Pt}(i7 j0 j1 j2 j3 k7 k8 k9 l2 l3 l4 l5 l6:Value)(h8:Go.Fn)(h9 i1:Array Value)(h4 h5:Operand)(c9 e3:Pt)(e0 e8 e9:Rat)(i6:List Rat)(W c8:Int)(c6 e4:List (Nat×Nat×Nat))(b6 c5:Nat×Nat×Nat)(E e5:Option Addr)(L e c7:Nat)(j7:List ((Nat×Nat)×Nat))(j4 j5:Nat×Nat)(e6:Option Addr)(b9 c3:Nat)(h6:Option Addr)(b7:World)(e1:TypeId)(e2:Array Bool)
theorem nb_t(h:(!h3)=true): h3=false:=by cases h3<;>simp at h ⊢
theorem beqN: (((L:Nat):Int) == ((e:Nat):Int))=decide (L=e):=by
 by_cases h:L=e
 ·rw[h];simp
 rw[decide_eq_false h];exact beq_false_of_ne oo
theorem nb_f(h:(!h3)=false): h3=true:=by cases h3<;>simp at h ⊢
def smW{α:Type}(p:α->α->Bool)(d:α)(l k:List α): Bool:=decide (l.length=k.length) && (List.range l.length).all (λi=>p (l.getD i d) (k.getD i d))
theorem Oo{p:b5->b5->Bool}{d:b5}{l k:List b5}(h:l.length≠k.length): smW p d l k=false:=by unfold smW;rw[decide_eq_false h,wm]
theorem YC{p:b5->b5->Bool}{d:b5}{l k:List b5}(c:l.length=k.length)(b:z<l.length)(a:p (l.getD z d) (k.getD z d)=false): smW p d l k=false:=by
 unfold smW;rw[uW];right;exact List.all_eq_false.2 ⟨z,List.mem_range.2 b,by rw[a];decide⟩
theorem VI{p:b5->b5->Bool}{d:b5}{l k:List b5}(h:l.length=k.length)(a:∀j,j<l.length->p (l.getD j d) (k.getD j d)=true): smW p d l k=true:=by
 unfold smW;rw[decide_eq_true h,vg];exact List.all_eq_true.2 λi b=>a i (List.mem_range.1 b)
theorem smW_eq[DecidableEq b5](d:b5)(l k:List b5): smW (λx y=>decide (x=y)) d l k=decide (l=k):=by
 by_cases h:l=k
 ·rw[h,decide_eq_true rfl];exact VI rfl λj _=>decide_eq_true rfl
 rw[decide_eq_false h];by_cases hl:l.length=k.length
 ·by_cases ha:∀j,j<l.length->l.getD j d=k.getD j d
  ·exact absurd (uY hl λj h1 a=>by have:=ha j h1;simpa [List.getD,h1,a] using this) h
  obtain ⟨j,hj⟩:=Classical.not_forall.1 ha;obtain ⟨h1,a⟩:=Classical.not_imp.1 hj;exact YC hl h1 (decide_eq_false a)
 exact Oo hl
theorem og(h:r.map (λs=>(s.1,s.2.1,0))=k3): smW (λx y=>decide (x.1=y.1) && decide (x.2.1=y.2.1)) (0,0,0) r k3=true:=by
 subst h;refine VI (by rw[az]) λj hj=>?_;simp[List.getD,hj]
theorem nestI: RN (Op.equalIn 9999 3 (.int .i64 W) (.int .i64 c8)) (decide (W=c8)):=λw=>by
 rw[show(9999:Nat)=9998+1 from rfl,Op.equalIn];simp[go_sem];by_cases h:W=c8<;>simp[h]
theorem YU: RN (do eqGuard .eql 133 h4 h5 (Ze b6) (Ze c5);Go.binOp .eql 133 (Ze b6) (Ze c5):Sem Value) (.bool (decide (b6=c5))):=λw=>by
 obtain ⟨b,g,c⟩:=b6;obtain ⟨f,d,a⟩:=c5;simp[go_sem];have e:(Op.equalIn 10000 133 (.agg #[.int .i64 (b:Int),.int .i64 (g:Int),.int .i64 (c:Int)]) (.agg #[.int .i64 (f:Int),.int .i64 (d:Int),.int .i64 (a:Int)])).run prog w=.ok (decide (b=f/\g=d/\c=a)) w:=by
  rw[show(10000:Nat)=9999+1 from rfl,Op.equalIn];simp[go_sem,List.range'];by_cases h:b=f<;>by_cases j:g=d<;>by_cases i:c=a<;>simp[h,j,i,AP,go_sem,nestI,List.range']
 rw[e];simp[Bool.decide_and]
theorem sG: Jk prog 55 [encPt c9,encPt e3] (.bool (decide (c9=e3))):=by
 refine fnI func55 I ntmps55 λS w0 c=>zS (zx I λb=>zx I λa=>au 0x7e7e3125 ?_);refine zp (.binOp I I (λ_=>Ow _ _ c9 e3 _))<|za I<|zn<|zt<|rtK I
theorem sF: Jk prog 57 [Ze b6,Ze c5] (.bool (decide (b6=c5))):=by
 refine fnI func57 I ntmps57 λS w0 c=>zS (zx I λb=>zx I λa=>au 0xdede3125 ?_);refine zp (.binOp I I (λ_=>YU _ _ b6 c5 _))<|za I<|zn<|zt<|rtK I
theorem sE: Jk prog 59 [Ze b6,Ze c5] (.bool (decide (b6=c5))):=by
 refine fnI func59 I ntmps59 λS w0 c=>zS (zx I λb=>zx I λa=>au 0xdede3125 ?_);refine zp (.binOp I I (λ_=>YV _ _ b6 c5 _))<|za I<|zn<|zt<|rtK I
theorem eS: Jk prog 246 [Ze b6,Ze c5] (.bool (decide (b6.1=c5.1) && decide (b6.2.1=c5.2.1))):=by
 refine fnI func246 I ntmps246 λS w0 f=>zS (zx I λd=>zx I λc=>au 0x4ae70ffaf70ffaf3125 ?_);intro a w h;refine Zi h (λb h=>?_) (λb h=>?_)
 ·refine gL h<|zq 10 I I (.fA I C0)<|ldQ 10 Vg ?_;refine zq 10 I I (.fA I C0)<|ldQ 10 Vg ?_;refine zq 10 I I (.eql I I)<|au 0x6253e ?_;refine rtK ?_;rw[beqN,decide_eq_true (show b6.1=c5.1 from by have:=eq_of_beq b;omega),vg]
 refine gL h<|au 0x6252e05f05f05f05f05f ?_;refine rtK ?_;rw[decide_eq_false (show ¬b6.1=c5.1 from λe=>by rw[e] at b;simp at b),wm]
theorem ll(l k:List Pt)(ad p:Option Addr)(c e:Nat)(z:l.length<=1000000): Xi prog 54 [.slice ad l.length c,.slice p k.length e,.func (.func 55) #[] #[]] [Row ad (cellsOf encPt l),Row p (cellsOf encPt k)] (.bool (smW (fun(x y:Pt)=>decide (x=y)) (0,0) l k)):=by
 refine fnI func54 I ntmps54 λS w0 v=>au 0x71f21f421f43112531 ?_;intro a w h;refine Zi h (λd h=>?_) (λd h=>?_)
 ·have o:l.length≠k.length:=λe=>by rw[e] at d;simp at d
  refine wpList_nil<|cW<|Qq h I ?_;refine gC h<|au 0x62531 ?_;refine rtK ?_;rw[Oo o]
 have heq:k.length=l.length:=by simp at d;omega
 refine wpList_nil<|cW<|Zj h I<|gC h<|au 0x82421f43117 ?_;clear h;intro a w h;refine lpG h [0,1,2,14] pkL (λY Z (i:Nat) a w=>i<=l.length/\(∀j,j<i->(fun(x y:Pt)=>decide (x=y)) (l.getD j (0,0)) (k.getD j (0,0))=true)/\St 30 S w0 ((15,nI i)::Y) [] Z a w) (λi=>l.length-i) 0 (⟨cX _,λ_ h=>absurd h (gS _),by exact(h).sub sA⟩) ?_;clear h;rintro i a w ⟨t,b,h⟩;refine gC h<|au 0x12d31 ?_;intro a w h;refine Zb h I (λg=>?_) (λg=>?_)
 ·have n:i<l.length:=dT g;obtain ⟨s,r,rfl⟩:=h.row_addr (ad:=ad) (M:=cellsOf encPt l) mm (nE 10);obtain ⟨q,u,rfl⟩:=h.row_addr (ad:=p) (M:=cellsOf encPt k) mm (nE 10);refine gC h<|au 0x125431817 ?_;refine yE [0,1,2,3,4,5,6,7,8,9,10]<|au 0xe1f999 ?_;clear h;refine Zf I kk I mm (cells_lt (k:=10) dd (λ_=>rfl) l i oo) isAgg106 sizeOf106 (Zh (k:=10) (λ_=>rfl) ((λ_=>rfl)) l (0,0) i oo) (.inl I) dd ?_;refine au 0xe1f99 ?_;refine Zf I kk I mm (cells_lt (k:=10) dd (λ_=>rfl) k i oo) isAgg106 sizeOf106 (Zh (k:=10) (λ_=>rfl) ((λ_=>rfl)) k (0,0) i oo) (.inl I) dd ?_;refine Gf I kk (fs:=[]) (cs:=[]) I (vs:=[_,_]) I call55 (sG (l.getD i (0,0))<|k.getD i (0,0)) ss dd ?_;refine au 0x3bf ?_;refine Jn (λf  =>?_) (λf  =>?_)
  ·refine au 0x625311ea ?_;refine rtK ?_;rw[YC heq.symm n (nb_t f)]
  refine yn<|kF I<|zk<|zr<|zp (.pN (i+1)<|.add I I)<|au 0x24 ?_;intro a w h;exact⟨i+1,⟨oo,λj hj=>if e:j<i then b j e else by rw[show j=i from by omega];exact nb_f f,tO h⟩,oo⟩
 have m:l.length=i:=dF g;subst m;refine gC h<|au 0x625310e ?_;refine rtK ?_;rw[VI heq.symm b]
theorem lh(z:c6.length<=1000000): Xi prog 56 [.slice E c6.length L,.slice e5 e4.length e,.func (.func 57) #[] #[]] [Row E (cellsOf Ze c6),Row e5 (cellsOf Ze e4)] (.bool (smW (fun(x y:Nat×Nat×Nat)=>decide (x=y)) (0,0,0) c6 e4)):=by
 refine fnI func56 I ntmps56 λS w0 v=>au 0x71fa0f4a0f43112531 ?_;intro a w h;refine Zi h (λd h=>?_) (λd h=>?_)
 ·have o:c6.length≠e4.length:=λe=>by rw[e] at d;simp at d
  refine wpList_nil<|cW<|Qq h I ?_;refine gC h<|au 0x62531 ?_;refine rtK ?_;rw[Oo o]
 have heq:e4.length=c6.length:=by simp at d;omega
 refine wpList_nil<|cW<|Zj h I<|gC h<|au 0x824a0f43117 ?_;clear h;intro a w h;refine lpG h [0,1,2,14] pkL (λY Z (i:Nat) a w=>i<=c6.length/\(∀j,j<i->(fun(x y:Nat×Nat×Nat)=>decide (x=y)) (c6.getD j (0,0,0)) (e4.getD j (0,0,0))=true)/\St 30 S w0 ((15,nI i)::Y) [] Z a w) (λi=>c6.length-i) 0 (⟨cX _,λ_ h=>absurd h (gS _),by exact(h).sub sA⟩) ?_;clear h;rintro i a w ⟨t,b,h⟩;refine gC h<|au 0x12d31 ?_;intro a w h;refine Zb h I (λg=>?_) (λg=>?_)
 ·have n:i<c6.length:=dT g;obtain ⟨s,r,rfl⟩:=h.row_addr (ad:=E) (M:=cellsOf Ze c6) mm (nE 3);obtain ⟨q,u,rfl⟩:=h.row_addr (ad:=e5) (M:=cellsOf Ze e4) mm (nE 3);refine gC h<|au 0x125431817 ?_;refine yE [0,1,2,3,4,5,6,7,8,9,10]<|au 0x06f999 ?_;clear h;refine Zf I kk I mm (cells_lt (k:=3) dd (λ_=>rfl) c6 i oo) isAgg133 sizeOf133 (Zh (k:=3) (λ_=>rfl) ((λ_=>rfl)) c6 (0,0,0) i oo) (.inl I) dd ?_;refine au 0x06f99 ?_;refine Zf I kk I mm (cells_lt (k:=3) dd (λ_=>rfl) e4 i oo) isAgg133 sizeOf133 (Zh (k:=3) (λ_=>rfl) ((λ_=>rfl)) e4 (0,0,0) i oo) (.inl I) dd ?_;refine Gf I kk (fs:=[]) (cs:=[]) I (vs:=[_,_]) I call57 (sF (c6.getD i (0,0,0))<|e4.getD i (0,0,0)) ss dd ?_;refine au 0x3bf ?_;refine Jn (λf  =>?_) (λf  =>?_)
  ·refine au 0x625311ea ?_;refine rtK ?_;rw[YC heq.symm n (nb_t f)]
  refine yn<|kF I<|zk<|zr<|zp (.pN (i+1)<|.add I I)<|au 0x24 ?_;intro a w h;exact⟨i+1,⟨oo,λj hj=>if e:j<i then b j e else by rw[show j=i from by omega];exact nb_f f,tO h⟩,oo⟩
 have m:c6.length=i:=dF g;subst m;refine gC h<|au 0x625310e ?_;refine rtK ?_;rw[VI heq.symm b]
theorem lj(z:c6.length<=1000000): Xi prog 58 [.slice E c6.length L,.slice e5 e4.length e,.func (.func 59) #[] #[]] [Row E (cellsOf Ze c6),Row e5 (cellsOf Ze e4)] (.bool (smW (fun(x y:Nat×Nat×Nat)=>decide (x=y)) (0,0,0) c6 e4)):=by
 refine fnI func58 I ntmps58 λS w0 v=>au 0x71fd2f4d2f43112531 ?_;intro a w h;refine Zi h (λd h=>?_) (λd h=>?_)
 ·have o:c6.length≠e4.length:=λe=>by rw[e] at d;simp at d
  refine wpList_nil<|cW<|Qq h I ?_;refine gC h<|au 0x62531 ?_;refine rtK ?_;rw[Oo o]
 have heq:e4.length=c6.length:=by simp at d;omega
 refine wpList_nil<|cW<|Zj h I<|gC h<|au 0x824d2f43117 ?_;clear h;intro a w h;refine lpG h [0,1,2,14] pkL (λY Z (i:Nat) a w=>i<=c6.length/\(∀j,j<i->(fun(x y:Nat×Nat×Nat)=>decide (x=y)) (c6.getD j (0,0,0)) (e4.getD j (0,0,0))=true)/\St 30 S w0 ((15,nI i)::Y) [] Z a w) (λi=>c6.length-i) 0 (⟨cX _,λ_ h=>absurd h (gS _),by exact(h).sub sA⟩) ?_;clear h;rintro i a w ⟨t,b,h⟩;refine gC h<|au 0x12d31 ?_;intro a w h;refine Zb h I (λg=>?_) (λg=>?_)
 ·have n:i<c6.length:=dT g;obtain ⟨s,r,rfl⟩:=h.row_addr (ad:=E) (M:=cellsOf Ze c6) mm (nE 3);obtain ⟨q,u,rfl⟩:=h.row_addr (ad:=e5) (M:=cellsOf Ze e4) mm (nE 3);refine gC h<|au 0x125431817 ?_;refine yE [0,1,2,3,4,5,6,7,8,9,10]<|au 0x1af999 ?_;clear h;refine Zf I kk I mm (cells_lt (k:=3) dd (λ_=>rfl) c6 i oo) isAgg143 sizeOf143 (Zh (k:=3) (λ_=>rfl) ((λ_=>rfl)) c6 (0,0,0) i oo) (.inl I) dd ?_;refine au 0x1af99 ?_;refine Zf I kk I mm (cells_lt (k:=3) dd (λ_=>rfl) e4 i oo) isAgg143 sizeOf143 (Zh (k:=3) (λ_=>rfl) ((λ_=>rfl)) e4 (0,0,0) i oo) (.inl I) dd ?_;refine Gf I kk (fs:=[]) (cs:=[]) I (vs:=[_,_]) I call59 (sE (c6.getD i (0,0,0))<|e4.getD i (0,0,0)) ss dd ?_;refine au 0x3bf ?_;refine Jn (λf  =>?_) (λf  =>?_)
  ·refine au 0x625311ea ?_;refine rtK ?_;rw[YC heq.symm n (nb_t f)]
  refine yn<|kF I<|zk<|zr<|zp (.pN (i+1)<|.add I I)<|au 0x24 ?_;intro a w h;exact⟨i+1,⟨oo,λj hj=>if e:j<i then b j e else by rw[show j=i from by omega];exact nb_f f,tO h⟩,oo⟩
 have m:c6.length=i:=dF g;subst m;refine gC h<|au 0x625310e ?_;refine rtK ?_;rw[VI heq.symm b]
theorem lk(z:c6.length<=1000000): Xi prog 58 [.slice E c6.length L,.slice e5 e4.length e,.func (.func 246) #[] #[]] [Row E (cellsOf Ze c6),Row e5 (cellsOf Ze e4)] (.bool (smW (fun(x y:Nat×Nat×Nat)=>decide (x.1=y.1) && decide (x.2.1=y.2.1)) (0,0,0) c6 e4)):=by
 refine fnI func58 I ntmps58 λS w0 v=>au 0x71fd2f4d2f43112531 ?_;intro a w h;refine Zi h (λd h=>?_) (λd h=>?_)
 ·have o:c6.length≠e4.length:=λe=>by rw[e] at d;simp at d
  refine wpList_nil<|cW<|Qq h I ?_;refine gC h<|au 0x62531 ?_;refine rtK ?_;rw[Oo o]
 have heq:e4.length=c6.length:=by simp at d;omega
 refine wpList_nil<|cW<|Zj h I<|gC h<|au 0x824d2f43117 ?_;clear h;intro a w h;refine lpG h [0,1,2,14] pkL (λY Z (i:Nat) a w=>i<=c6.length/\(∀j,j<i->(fun(x y:Nat×Nat×Nat)=>decide (x.1=y.1) && decide (x.2.1=y.2.1)) (c6.getD j (0,0,0)) (e4.getD j (0,0,0))=true)/\St 30 S w0 ((15,nI i)::Y) [] Z a w) (λi=>c6.length-i) 0 (⟨cX _,λ_ h=>absurd h (gS _),by exact(h).sub sA⟩) ?_;clear h;rintro i a w ⟨t,b,h⟩;refine gC h<|au 0x12d31 ?_;intro a w h;refine Zb h I (λg=>?_) (λg=>?_)
 ·have n:i<c6.length:=dT g;obtain ⟨s,r,rfl⟩:=h.row_addr (ad:=E) (M:=cellsOf Ze c6) mm (nE 3);obtain ⟨q,u,rfl⟩:=h.row_addr (ad:=e5) (M:=cellsOf Ze e4) mm (nE 3);refine gC h<|au 0x125431817 ?_;refine yE [0,1,2,3,4,5,6,7,8,9,10]<|au 0x1af999 ?_;clear h;refine Zf I kk I mm (cells_lt (k:=3) dd (λ_=>rfl) c6 i oo) isAgg143 sizeOf143 (Zh (k:=3) (λ_=>rfl) ((λ_=>rfl)) c6 (0,0,0) i oo) (.inl I) dd ?_;refine au 0x1af99 ?_;refine Zf I kk I mm (cells_lt (k:=3) dd (λ_=>rfl) e4 i oo) isAgg143 sizeOf143 (Zh (k:=3) (λ_=>rfl) ((λ_=>rfl)) e4 (0,0,0) i oo) (.inl I) dd ?_;refine Gf I kk (fs:=[]) (cs:=[]) I (vs:=[_,_]) I call246 (eS (c6.getD i (0,0,0))<|e4.getD i (0,0,0)) ss dd ?_;refine au 0x3bf ?_;refine Jn (λf  =>?_) (λf  =>?_)
  ·refine au 0x625311ea ?_;refine rtK ?_;rw[YC heq.symm n (nb_t f)]
  refine yn<|kF I<|zk<|zr<|zp (.pN (i+1)<|.add I I)<|au 0x24 ?_;intro a w h;exact⟨i+1,⟨oo,λj hj=>if e:j<i then b j e else by rw[show j=i from by omega];exact nb_f f,tO h⟩,oo⟩
 have m:c6.length=i:=dF g;subst m;refine gC h<|au 0x625310e ?_;refine rtK ?_;rw[VI heq.symm b]
theorem Cy(m:Ms)(a c b:Option Addr)(d e f:Nat)(hv:MV L m): Xi prog 46 [Qm m a c b d e f] [Row a (cellsOf encPt m.P),Row c (cellsOf Ze m.T),Row b (cellsOf Ze m.S)] (.bool true):=by
 refine fnI func46 I ntmps46 λS w0 h=>zS (zx I λg=>au 0x21f70f82fb0f31f3125 ?_);refine zw [_,_] I call122 (Mf m.T m.P.length _ _<|bp hv.nT dd)<|za I<|zn<|zt<|rtK ?_;rw[TF hv.num];rfl
theorem IJ(m:Ms)(b d c:Option Addr)(f j i:Nat)(hv:MV L m): Ctr prog 30 [Qm m b d c f j i] [Row b (cellsOf encPt m.P),Row d (cellsOf Ze m.T),Row c (cellsOf Ze m.S)] (λv Ψ => ∃ad,v=.slice ad (Za m.T).length (Za m.T).length/\Ψ=[Row ad (cellsOf Qr (Za m.T))]):=by
 refine fnI func30 I ntmps30 λS w0 n=>zS (zx I λk=>au 0xde31125 ?_);refine zw [_] I call46 (Cy L m _ _ _ _ _ _ hv)<|au 0xb0f31f317c2a1f ?_;refine zf [_] I call103 (fm m.P.length m.T _ _ hv.num hv.ne<|bp hv.nT dd) ?_;rintro l g ⟨e,rfl,rfl⟩;refine au 0x625 ?_;intro a w h;refine Qj (Ψ:=[Row e (cellsOf Qr<|Za m.T)]) h (Zd h I<|.tmp I) ?_ ss;exact⟨_,rfl,rfl⟩
theorem fc(m:Ms)(a b c:Option Addr)(d e h:Nat)(hv:MV L m): Xi prog 150 [Qm m a b c d e h] [Row a (cellsOf encPt m.P),Row b (cellsOf Ze m.T),Row c (cellsOf Ze m.S)] (.bool true):=by
 refine fnI func150 I ntmps150 λS w0 j=>zS (zx I λi=>za I<|zn<|zs<|yE [0,1,2,3,4,5,6,7,8]<|au 0x41f9af ?_);refine au 0xee10f ?_;refine au 0x02faaf ?_;refine yf [_,_] I I call129 (C_Rim m.P m.T b a e d hv.num hv.ne<|bp hv.nT dd) ?_;rintro v9 f ⟨g,rfl,rfl⟩;refine yw [_,_,_] I I call58 (lk m.S (Kz m.T) _ _ _ _<|bp hv.nS dd)<|au 0x6a4e ?_;refine rtK ?_;rw[og hv.rim]
theorem N9(m:Ms)(d g e:Option Addr)(j n l:Nat)(hv:MV L m)(i:L<=100000): Xi prog 76 [Qm m d g e j n l] [Row d (cellsOf encPt m.P),Row g (cellsOf Ze m.T),Row e (cellsOf Ze m.S)] (.int .i64 0):=by
 have k:=hv.nP;have p:=hv.nT;have q:=hv.nS;refine fnI func76 I ntmps76 λS w0 o=>zS (zx I λk=>au 0x4c0f21f70f82f318125 ?_);refine bbF (λf=>(by exfalso;have:=of_decide_eq_true f;omega)) λf=>zq 8 I I (.fA I Bw)<|ldQ 8 Vg ?_;refine zq 8 I I (.builtin [_] I<|Yf _ _ _)<|zq 8 I I (.gtr I I)<|au 0x42e ?_;refine bbF (λb=>(by exfalso;have:=of_decide_eq_true b;omega)) λb=>zq 14 I I (.fA I JW)<|ldQ 14 Gl ?_;refine zq 14 I I (.builtin [_] I<|H4 _ _ _)<|zq 14 I I (.gtr I I)<|au 0x52e ?_;intro a w h;refine Zi h (λc h=>(by exfalso;have:=of_decide_eq_true c;omega)) (λc h=>?_);refine wpList_nil<|cW<|Zj h I<|gC h<|au 0xde31 ?_;refine zw [_] I call147 (sj L m _ _ _ _ _ _ hv i)<|au 0xde31c25a1f ?_;refine zw [_] I call148 (si L m _ _ _ _ _ _ hv i)<|au 0x4a1f ?_;refine ldQ 28 Jj ?_;clear h;intro a w h;refine Zq 28 h I I<|Qu h (vs:=[_]) I call149 (ly L m _ _ _ _ _ _ hv i) ss dd ?_;clear h;intro a w h;refine gL h<|zq 28 I I (aq (v':=.bool false) (.unOp I<|Yt _) cgd)<|au 0x42e ?_;refine ldQ 33 Jj ?_;clear h;intro a w h;refine Zq 33 h I I<|Qu h (vs:=[_]) I call150 (fc L m _ _ _ _ _ _ hv) ss dd ?_;clear h;intro a w h;refine gL h<|zq 33 I I (aq (v':=.bool false) (.unOp I<|Yt _) cgd)<|au 0x625317c252e ?_;refine rtK I
theorem fe(m k:Ms)(j f c:Option Addr)(q t r:Nat)(g d b:Option Addr)(o n l:Nat)(s:m.P.length<=1000000)(hT:m.T.length<=1000000)(p:m.S.length<=1000000): Xi prog 11 [Qm m j f c q t r,Qm k g d b o n l] [Row j (cellsOf encPt m.P),Row f (cellsOf Ze m.T),Row c (cellsOf Ze m.S),Row g (cellsOf encPt k.P),Row d (cellsOf Ze k.T),Row b (cellsOf Ze k.S)] (.bool (decide (m.P=k.P) && decide (m.T=k.T) && decide (m.S=k.S))):=by
 refine fnI func11 I ntmps11 λS w0 x=>zS (zx I λv=>zx I λu=>au 0x70f82f70f82f3125 ?_);refine zw [_,_,_] I call54 (ll m.P k.P _ _ _ _ s)<|zm I ?_;intro a w h;refine Zi h (λi h=>?_) (λi h=>?_);focus
  refine gL h<|zq 10 I I (.fA I Bw)<|ldQ 10 Vg ?_;refine zq 10 I I (.fA I Bw)<|ldQ 10 Vg ?_;clear h;intro a w h;refine Zq 10 h I I<|Qu h (vs:=[_,_,_]) I call56 (lh m.T k.T _ _ _ _ hT) ss dd ?_;clear h;intro a w h;refine gL h<|au 0x43e ?_;clear h;intro a w h;refine Zi h (λe h=>?_) (λe h=>?_);focus
   refine gL h<|zq 17 I I (.fA I JW)<|ldQ 17 Gl ?_;refine zq 17 I I (.fA I JW)<|ldQ 17 Gl ?_;clear h;intro a w h;refine Zq 17 h I I<|Qu h (vs:=[_,_,_]) I call58 (lj m.S k.S _ _ _ _ p) ss dd ?_;clear h;intro a w h;refine gL h<|au 0x6253e ?_;clear h;intro a w h
  rotate_left;focus
   refine gL h<|au 0x6252e83f83f83f83f83f ?_;clear h;intro a w h
 rotate_left 2;focus
  refine gL h<|au 0x6252e83f83f83f83f83f42e05f05f05f05f05f ?_;clear h;intro a w h
 all_goals
  refine Xh h (Zd h I<|.tmp I) ?_;clear h;simp only[smW_eq] at *;simp_all
theorem SA(n b:Nat): RN (Instr.build 38 [(0,.slice E L e),(1,.slice e6 b9 c3),(2,.slice h6 n b)].toArray) (.agg #[.slice E L e,.slice e6 b9 c3,.slice h6 n b]):=λw=>by simp[go_sem]
theorem Pz{f:FuncId}{Φ:List Zs}(h:CtrO prog f e7 Φ (λv b => ∃a d R,v=.slice (some ⟨a,0,none⟩) z d/\z<=d/\b=[(a,.cells (k4++R).toArray h7 (0,0))])):
  Ctr prog f e7 Φ (λv Ψ => ∃ad c,v=.slice ad z c/\z<=c/\Ψ=[Row ad k4]):=by
 intro X w i g;refine(h X w i g).mono ?_;rintro e w' ⟨v,b,he,⟨a,d,R,rfl,hc,rfl⟩,n,o,hd⟩;refine⟨_,[Row (some ⟨a,0,none⟩) k4],he,⟨_,d,rfl,hc,rfl⟩,n,λp hR=>?_⟩;rw[da] at hR;subst hR;intro _;obtain ⟨k,l⟩:=o _ (List.mem_singleton.2 rfl);exact⟨a,0,_,_,_,rfl,λhx=>by have:=i a hx;simp only at k;omega,l,λj hj=>by simp[List.getElem?_append_left hj]⟩
theorem sn(m:Ms)(k i f:Option Addr)(A H B:Nat)(L:0<m.P.length)(hT:0<m.T.length)(E:0<m.S.length)(nP:m.P.length<=1000000)(nT:m.T.length<=1000000)(nS:m.S.length<=1000000): Ctr prog 142 [Qm m k i f A H B] [Row k (cellsOf encPt m.P),Row i (cellsOf Ze m.T),Row f (cellsOf Ze m.S)] (λv Ψ => ∃u t x,v=Qm m u t x m.P.length m.T.length m.S.length/\Ψ=[Row u (cellsOf encPt m.P),Row t (cellsOf Ze m.T),Row x (cellsOf Ze m.S)]):=by
 refine fn_intro func142 I ntmps142 nb ?_;intro S w0 a N h;obtain ⟨g,e,rfl⟩:=h.row_addr (ad:=k) (M:=cellsOf encPt m.P) mm (nE 10);obtain ⟨d,j,rfl⟩:=h.row_addr (ad:=i) (M:=cellsOf Ze m.T) mm (nE 3);obtain ⟨c,l,rfl⟩:=h.row_addr (ad:=f) (M:=cellsOf Ze m.S) mm (nE 3);refine gC h<|zS (zx I λJ=>zz zeroValue38 λK=>zn<|zs<|yE [0,1,4,5,8,9,2,3,6,7,10,11,12,13]<|au 0xee10f ?_);clear h;refine au 0x02faaf ?_;refine au 0x41f9af ?_;refine yf [_] I I call77 (Pz<|QF g e _ m.P oo) ?_;rintro v5 G ⟨n,F,rfl,q,rfl⟩;refine yv [_] I I call81 (IL n _ F q)<|yf [_] I I call128 (Pz<|QE d j _ m.T oo) ?_;rintro v9 D ⟨o,C,rfl,r,rfl⟩;refine yv [_] I I call127 (US o _ C r)<|yf [_] I I call235 (Pz<|fR c l _ m.S oo) ?_;rintro z y ⟨b,s,rfl,p,rfl⟩;refine yv [_] I I call223 (UT b _ s p)<|yp I (.build [(_,_),(_,_),(_,_)] I<|SA _ _ _ _ _ _ _ _ _)<|stV I I I Qi ?_;refine yn<|zt ?_;intro a w h;refine Qj (Ψ:=[Row n (cellsOf encPt m.P),Row o (cellsOf Ze m.T),Row b (cellsOf Ze m.S)]) h (Zd h I<|rC Jj) ?_ ss;exact⟨_,_,_,rfl,rfl⟩
theorem EH(m:Ms)(o l p:Option Addr)(v B x i:Nat)(A:i<m.T.length)(hv:MV L m): Xi prog 64 [Qm m o l p v B x,.int .i64 ((i:Nat):Int)] [Row o (cellsOf encPt m.P),Row l (cellsOf Ze m.T),Row p (cellsOf Ze m.S)] (.tuple #[encPt (pt m (m.T.getD i (0,0,0)).1),encPt (pt m (m.T.getD i (0,0,0)).2.1),encPt (pt m (m.T.getD i (0,0,0)).2.2)]):=by
 obtain ⟨n1,C,y,_,_,_⟩:=Qv.1 (hv.num _ (getD_mem m.T (d:=(0,0,0)) A));have D:=hv.nP;have z:=hv.nT;refine fn_intro func64 I ntmps64 nb ?_;intro S w0 a J h;obtain ⟨s,r,rfl⟩:=h.row_addr (ad:=o) (M:=cellsOf encPt m.P) mm (nE 10);obtain ⟨q,u,rfl⟩:=h.row_addr (ad:=l) (M:=cellsOf Ze m.T) mm (nE 3);refine gC h<|zS (zx I λz=>zz Xe λH=>zz Xe λE=>zz Xe λF=>au 0xd43112 ?_);refine bbF (λj=>(by exfalso;have:=of_decide_eq_true j;omega)) λj=>zm I<|zq 11 I I (.move I)<|zq 11 I I (.fA I Bw)<|ldQ 11 Vg ?_;refine zq 11 I I (.builtin [_] I<|Yf _ _ _)<|zq 11 I I (.geq I I)<|au 0x2e ?_;clear h;intro a w h;refine Zi h (λg h=>(by exfalso;have:=of_decide_eq_true g;omega)) (λg h=>?_);refine wpList_nil<|cW<|Zj h I<|gC h<|zk<|zs<|yF [0,1,2,3,4,5,6,7,8,9,10]<|au 0x02faaf ?_;clear h;refine au 0x06f9 ?_;refine Zf I kk I mm (cells_lt (k:=3) dd (λ_=>rfl) m.T i oo) isAgg133 sizeOf133 (Zh (k:=3) (λ_=>rfl) ((λ_=>rfl)) m.T (0,0,0) i oo) (.inl I) dd ?_;refine au 0x10f ?_;refine Jd [] I kk I mr isAgg34 sizeOf34 Da (λ_ _ _ _ _ ht=>nomatch ht) dd ?_;refine au 0x45f ?_;refine yz I Bj λG=>stV I I I Qi ?_;refine au 0x470f57f311a4e ?_;refine zv [_,_] I call137 (Aa ((m.T.getD i (0,0,0)).1) m.P.length)<|au 0x40f ?_;refine bbF (λc=>(by exfalso;rw[decide_eq_true n1] at c;cases c)) λc=>zm I<|zq 34 I I (.indexAddr I I<|Vi _ _)<|ldQ 34 Vg ?_;refine zq 34 I I (.move I) ?_;intro a w h;refine Zq 34 h I I<|Xn h (vs:=[_,_]) I call137 (Aa ((m.T.getD i (0,0,0)).2.1) m.P.length) dd ?_;clear h;intro a w h;refine gL h<|zq 34 I I (.unOp I<|Yt _) (bbF (λf=>(by exfalso;rw[decide_eq_true C] at f;cases f)) λf=>au 0x42e ?_);refine zq 41 I I (.indexAddr I I<|Vh _ _)<|ldQ 41 Gl ?_;refine zq 41 I I (.move I) ?_;clear h;intro a w h;refine Zq 41 h I I<|Xn h (vs:=[_,_]) I call137 (Aa ((m.T.getD i (0,0,0)).2.2) m.P.length) dd ?_;clear h;intro a w h;refine gL h<|zq 41 I I (.unOp I<|Yt _) (bbF (λe=>(by exfalso;rw[decide_eq_true y] at e;cases e)) λe=>au 0x17c22e ?_);refine yE [0,1,2,3,4,5,6,7,8,9,10,11,12,13,14,15,16,17,18,19,20]<|au 0xee10f ?_;clear h;refine au 0xeec3f ?_;refine au 0xe1f ?_;refine Zf I kk I mm (cells_lt (k:=10) dd (λ_=>rfl) m.P ((m.T.getD i (0,0,0)).1) oo) isAgg106 sizeOf106 (Zh (k:=10) (λ_=>rfl) ((λ_=>rfl)) m.P (0,0) ((m.T.getD i (0,0,0)).1) oo) (.inl I) dd ?_;refine au 0x10f ?_;refine Jd [4] I kk I mr isAgg34 sizeOf34 Da (λa w n b=>by intro t ht;simp only[cZ,cf,or_false] at ht;rcases ht with rfl<;>exact⟨_,rfl,by have h1:=(List.pairwise_append.1 b.nd).2.1;simp at h1;dsimp only;omega⟩) dd ?_;refine au 0xb3f ?_;refine Jd [4] I kk I mr isAgg3 sizeOf3 Vg (λa w n b=>by intro t ht;simp only[cZ,cf,or_false] at ht;rcases ht with rfl<;>exact⟨_,rfl,by have h1:=(List.pairwise_append.1 b.nd).2.1;simp at h1;dsimp only;omega⟩) dd ?_;refine au 0xe1f ?_;refine Gb [4] I kk I mm (cells_lt (k:=10) dd (λ_=>rfl) m.P ((m.T.getD i (0,0,0)).2.1) oo) isAgg106 sizeOf106 (Zh (k:=10) (λ_=>rfl) ((λ_=>rfl)) m.P (0,0) ((m.T.getD i (0,0,0)).2.1) oo) (.inl I) (λt ht=>by simp only[cZ,cf,or_false] at ht;rcases ht with rfl<;>exact⟨_,rfl,_,by repeat(first|exact List.Mem.head _|apply List.Mem.tail)⟩) dd ?_;refine au 0x10f ?_;refine Jd [4,5] I kk I mr isAgg34 sizeOf34 Da (λa w n b=>by intro t ht;simp only[cZ,cf,or_false] at ht;rcases ht with rfl|rfl<;>exact⟨_,rfl,by have h1:=(List.pairwise_append.1 b.nd).2.1;simp at h1;dsimp only;omega⟩) dd ?_;refine au 0xa3f ?_;refine Jd [4,5] I kk I mr isAgg3 sizeOf3 Gl (λa w n b=>by intro t ht;simp only[cZ,cf,or_false] at ht;rcases ht with rfl|rfl<;>exact⟨_,rfl,by have h1:=(List.pairwise_append.1 b.nd).2.1;simp at h1;dsimp only;omega⟩) dd ?_;refine au 0xe1f ?_;refine Gb [4,5] I kk I mm (cells_lt (k:=10) dd (λ_=>rfl) m.P ((m.T.getD i (0,0,0)).2.2) oo) isAgg106 sizeOf106 (Zh (k:=10) (λ_=>rfl) ((λ_=>rfl)) m.P (0,0) ((m.T.getD i (0,0,0)).2.2) oo) (.inl I) (λt ht=>by simp only[cZ,cf,or_false] at ht;rcases ht with rfl|rfl<;>exact⟨_,rfl,_,by repeat(first|exact List.Mem.head _|apply List.Mem.tail)⟩) dd ?_;refine stV I I I Zv ?_;refine stV I I I Zv ?_;refine stV I I I Zv ?_;refine yn<|zt ?_;intro a w h;refine Xh h (BM h I (rC Jq) (rC Jq)<|rC Jq) ?_;rfl
theorem Mb: RN (Instr.build 130 [(0,.int .i64 W),(1,.int .i64 c8)].toArray) (.agg #[.int .i64 W,.int .i64 c8]):=λw=>by simp[go_sem]
theorem HF: RN (Instr.build 131 [(0,.int .i64 W),(1,.int .i64 c8)].toArray) (.agg #[.int .i64 W,.int .i64 c8]):=λw=>by simp[go_sem]
theorem WE: RN (Instr.build 212 [(0,.int .i64 W),(1,.int .i64 c8)].toArray) (.agg #[.int .i64 W,.int .i64 c8]):=λw=>by simp[go_sem]
theorem lN(hx:Zr e0<=10000): Jk prog 276 [Qa e0] (Qa (e0*e0)):=by
 refine fnI func276 I ntmps276 λS w0 e=>zS (zx I λd=>zz Xc λc=>au 0xd9f6e6e312 ?_);intro a w h;have b:=Qh (e0) (e0);refine gL h<|stW I I Zl ?_;refine zn<|zt ?_;clear h;intro a w h;refine Xh h (Zd h I<|rC Zz) ?_;rfl
theorem rZ:Jk prog 153 [] (Qa (((1:Int):Rat)/((2:Int):Rat))):=by
 refine fnI func153 I ntmps153 λS w0 d=>zS (zz Xc λc=>au 0x74f312 ?_);intro a w h;have b:=Kq (1) (2) oo oo oo oo;refine gL h<|au 0xbb4 ?_;refine zz Xc λe=>stW I I Zl ?_;refine au 0x6e3125 ?_;refine stW I I Zl ?_;refine zn<|zt ?_;clear h;intro a w h;refine Xh h (Zd h I<|rC Zz) ?_;rfl
theorem nB(hx:PtK 1000 c9)(e:PtK 1000 e3): Jk prog 78 [encPt c9,encPt e3] (encPt ((c9.1+e3.1)*(((1:Int):Rat)/((2:Int):Rat)),(c9.2+e3.2)*(((1:Int):Rat)/((2:Int):Rat)))):=by
 obtain ⟨i,d⟩:=hx;obtain ⟨f,g⟩:=e;have j:Zr (((1:Int):Rat)/((2:Int):Rat))<=4:=Kq 1 2 dd dd dd dd;refine fnI func78 I ntmps78 λS w0 k=>zS (zx I λl=>zx I λn=>zz Xe λm=>au 0x7e7e312 ?_);refine zv [_,_] I call152 (rW c9 e3 oo oo oo oo) ?_;have c:=We c9 e3;have c:=Wc c9 e3;refine zv [] I call153 (rZ)<|zv [_,_] I call151 (eU (addP c9 e3) (((1:Int):Rat)/((2:Int):Rat)) oo oo oo) ?_;have b:=Wa (addP c9 e3) (((1:Int):Rat)/((2:Int):Rat));have b:=V9 (addP c9 e3) (((1:Int):Rat)/((2:Int):Rat));refine stW I I Zv ?_;refine zn<|zt ?_;intro a w h;refine Xh h (Zd h I<|rC Jq) ?_;rfl
theorem SJ: Jk prog 79 [.int .i64 ((L:Nat):Int),.int .i64 ((e:Nat):Int)] (Zx (Zg L e)):=by
 refine fnI func79 I ntmps79 λS w0 c=>zS (zz zeroValue130 λb=>au 0x44312 ?_);refine zp (.builtin [_,_] I (λw ty cs=>Ca _ _ w ty cs))<|zm I<|zm I<|zp (.builtin [_,_] I (λw ty cs=>C6 _ _ w ty cs))<|au 0x35f ?_;refine stW I I Zt ?_;refine zn<|zt ?_;intro a w h;refine Xh h (Zd h I<|rC Qt) ?_;rfl
theorem fw: Jk prog 52 [.int .i64 ((L:Nat):Int),.int .i64 ((e:Nat):Int)] (Zx (Zg L e)):=by
 refine fnI func52 I ntmps52 λS w0 c=>zS (zz zeroValue131 λb=>au 0x44312 ?_);refine zp (.builtin [_,_] I (λw ty cs=>Ca _ _ w ty cs))<|zm I<|zm I<|zp (.builtin [_,_] I (λw ty cs=>C6 _ _ w ty cs))<|zp (.build [(_,_),(_,_)] I<|HF _ _)<|stW I I Zt ?_;refine zn<|zt ?_;intro a w h;refine Xh h (Zd h I<|rC Qt) ?_;rfl
theorem eR: Jk prog 126 [.int .i64 ((L:Nat):Int),.int .i64 ((e:Nat):Int)] (Zx (Zg L e)):=by
 refine fnI func126 I ntmps126 λS w0 c=>zS (zz zeroValue212 λb=>au 0x44312 ?_);refine zp (.builtin [_,_] I (λw ty cs=>Ca _ _ w ty cs))<|zm I<|zm I<|zp (.builtin [_,_] I (λw ty cs=>C6 _ _ w ty cs))<|zp (.build [(_,_),(_,_)] I<|WE _ _)<|stW I I Zt ?_;refine zn<|zt ?_;intro a w h;refine Xh h (Zd h I<|rC Qt) ?_;rfl
theorem IH(m:Ms)(b d c:Option Addr)(e g f p:Nat)(h:p<m.P.length): Jk prog 125 [Qm m b d c e g f,.int .i64 ((p:Nat):Int)] (.bool true):=by
 refine fnI func125 I ntmps125 λS w0 i=>zS (zx I λj=>au 0x00f43125 ?_);refine bbT (λa=>(absurd (of_decide_eq_false a) oo)) λa=>au 0xf7f4 ?_;refine zq 7 I I (.fA I Nn)<|ldQ 7 Da ?_;refine zq 7 I I (.builtin [_] I<|BX _ _ _)<|au 0x6253e4bf ?_;refine rtK ?_;rw[decide_eq_true oo]
theorem C_Has: Jk prog 234 [Ze b6,.int .i64 ((L:Nat):Int)] (.bool (Ay b6 L)):=by
 refine fnI func234 I ntmps234 λS w0 e=>zS (zx I λd=>au 0xae470f57f3125 ?_);intro a w h;refine Zi h (λc h=>?_) (λc h=>?_);focus
  refine gL h<|au 0x6253e64f64f64f64f43ee5fe5fe5fe5f4 ?_;clear h;intro a w h
 rotate_left;focus
  refine gL h<|zm I<|zq 9 I I (.indexAddr I I<|Vi _ _)<|ldQ 9 Vg ?_;refine zq 9 I I (.move I)<|zq 9 I I (.eql I I)<|au 0x2e ?_;clear h;intro a w h;refine Zi h (λb h=>?_) (λb h=>?_);focus
   refine gL h<|au 0x6253e64f64f64f64f4 ?_;clear h;intro a w h
  rotate_left;focus
   refine gL h<|zm I<|zq 15 I I (.indexAddr I I<|Vh _ _)<|ldQ 15 Gl ?_;refine zq 15 I I (.move I)<|zq 15 I I (.eql I I)<|au 0x6252e ?_;clear h;intro a w h
 all_goals
  refine Xh h (Zd h I<|.tmp I) ?_;clear h;simp[Ay,beqN] at *;simp[*]
theorem C_Max1: Jk prog 180 [.int .i64 W] (.bool (decide (W>0))):=by
 refine fnI func180 I ntmps180 λS w0 a=>au 0x625c0f4312531 ?_;refine rtK I
theorem E5: RN (Instr.fieldAt 53 (.pointer (some ⟨z,s,none⟩)) 1) (.pointer (some ⟨z,s+3,none⟩)):=λw=>by
 simp[go_sem]
theorem Mw: Zm false 1 #[A,B,C,h,w,F,H,J,N,O,P,Q,R,S,U,V,Z,a1,a6,a7,a8,b0,b1,b2,b3,b4] 3=some h:=rfl
theorem Hr: RN (Instr.fieldAt 53 (.pointer (some ⟨z,s,none⟩)) 2) (.pointer (some ⟨z,s+4,none⟩)):=λw=>by
 simp[go_sem]
theorem Ha: Zm true 15 #[A,B,C,h,w,F,H,J,N,O,P,Q,R,S,U,V,Z,a1,a6,a7,a8,b0,b1,b2,b3,b4] 4=some (.agg #[w,F,H,J,N,O,P,Q,R,S,U,V,Z,a1,a6]):=by kernel_rfl
theorem JV: RN (Instr.fieldAt 53 (.pointer (some ⟨z,s,none⟩)) 3) (.pointer (some ⟨z,s+19,none⟩)):=λw=>by
 simp[go_sem]
theorem Ei: Zm true 5 #[A,B,C,h,w,F,H,J,N,O,P,Q,R,S,U,V,Z,a1,a6,a7,a8,b0,b1,b2,b3,b4] 19=some (.agg #[a7,a8,b0,b1,b2]):=rfl
structure Pl where
 a:Option Addr
 l:List Tm
 c:Nat
abbrev pl0:Pl:=⟨none,[],0⟩
abbrev Vd(p:Pl): Value:=.slice p.a p.l.length p.c
structure Gv where
 mark:Nat
 fix:Bool
 v:Pl
 x:Pl
 y:Pl
abbrev gv0:Gv:=⟨0,false,pl0,pl0,pl0⟩
abbrev Jo(g:Gv): Value:=.agg #[.int .i64 ((g.mark:Nat):Int),.bool g.fix,Vd g.v,Vd g.x,Vd g.y]
def Je:List Gv->List Zs
 | []=>[]
 | g::l=>Row g.v.a (cellsOf Zy g.v.l)::Row g.x.a (cellsOf Zy g.x.l)::Row g.y.a (cellsOf Zy g.y.l)::Je l
theorem Kv{l:List Gv}{i:Nat}(h:i<l.length): Row (l.getD i gv0).v.a (cellsOf Zy (l.getD i gv0).v.l)∈Je l/\Row (l.getD i gv0).x.a (cellsOf Zy (l.getD i gv0).x.l)∈Je l/\Row (l.getD i gv0).y.a (cellsOf Zy (l.getD i gv0).y.l)∈Je l:=by
 induction l generalizing i with
 | nil=>exact absurd h (gS _)
 | cons g l b =>
  cases i with
  | zero=>simp[Je]
  | succ i =>
   have:=b (i:=i) (by simpa using h);simp only[wZ,Je,cZ];exact⟨.inr (.inr (.inr this.1)),.inr (.inr (.inr this.2.1)),.inr (.inr (.inr this.2.2))⟩
theorem Dl: (zeroValue 79).run prog b7=.ok (Jo gv0) b7:=zeroValue79 b7
structure Pr where
 m:Ms
 o:Nat
 k0:Rat
 k1:Rat
 k2:Rat
 c:Rat
 f:Pl
 G:List Gv
abbrev Xv(p:Pr)(adP adT adS adG:Option Addr)(cP cT cS cG:Nat): Value:=.agg #[.slice adP p.m.P.length cP,.slice adT p.m.T.length cT,.slice adS p.m.S.length cS,.int .i64 ((p.o:Nat):Int),.int .u64 (Yk p.k0.num.natAbs),.string (Xr p.k0.num.natAbs),.bool (decide (p.k0.num<0)),.int .u64 (Yk (p.k0.den-1)),.string (Xr (p.k0.den-1)),.int .u64 (Yk p.k1.num.natAbs),.string (Xr p.k1.num.natAbs),.bool (decide (p.k1.num<0)),.int .u64 (Yk (p.k1.den-1)),.string (Xr (p.k1.den-1)),.int .u64 (Yk p.k2.num.natAbs),.string (Xr p.k2.num.natAbs),.bool (decide (p.k2.num<0)),.int .u64 (Yk (p.k2.den-1)),.string (Xr (p.k2.den-1)),.int .u64 (Yk p.c.num.natAbs),.string (Xr p.c.num.natAbs),.bool (decide (p.c.num<0)),.int .u64 (Yk (p.c.den-1)),.string (Xr (p.c.den-1)),.slice p.f.a p.f.l.length p.f.c,.slice adG p.G.length cG]
theorem W4(h:Zr e0<=1000)(h1:Zr e8<=1000)(f:Zr e9<=1000)(d:0<e0)(hd:e8*e8<e0*e9): Jk prog 224 [.agg ((Value.cells (Qa (e0)))++(Value.cells (Qa (e8)))++(Value.cells (Qa (e9))))] (.bool true):=by
 refine fnI func224 I ntmps224 λS w0 g=>zS (zx I λe=>za I<|zn<|zs<|yE [0,1,2,3,4,5,6,7,8,10,11,9,12,13,14,15,16]<|au 0xebf4cf ?_);refine yv [_] I I call34 (D6 _)<|yp I (.gtr I I) ?_;refine Jn (λa  =>?_) (λa  =>(by exfalso;exact absurd a (by rw[decide_eq_true ((Av _).2 d)];decide)));refine au 0x9 ?_;refine yq I I I (.indexAddr I I<|FR _ _)<|yg I I I I mr isAgg47 sizeOf47 FC ?_;refine yq I I I (.indexAddr I I<|FQ _ _)<|yg I I I I mr isAgg47 sizeOf47 Cj ?_;refine yq I I I (.indexAddr I I<|M6 _ _)<|yg I I I I mr isAgg47 sizeOf47 IX ?_;refine Xp I I I kk (vs:=[_,_]) I call26 (UR _ _ oo oo) dd ?_;have b:=Qh (e0) (e9);refine Xp I I I kk (vs:=[_]) I call276 (lN e8 oo) dd ?_;have c:=Qh e8 e8;refine Xp I I I kk (vs:=[_,_]) I call39 (Mg (e0*e9) (e8*e8) oo oo) dd ?_;refine yq I I I (.gtr I I)<|au 0x6a4e76f ?_;refine rtK ?_;congr 1;exact decide_eq_true ((Av _).2 (by grind))
theorem WL(p:Pr)(i n k j:Option Addr)(r x v s:Nat)(ho:p.o=1\/p.o=2)(u:Zr p.k0<=1000)(h1:Zr p.k1<=1000)(t:Zr p.k2<=1000)(q:0<p.k0)(hd:p.k1*p.k1<p.k0*p.k2)(A:Zr p.c<=1000)(hc:0<=p.c): Xi prog 130 [Xv p i n k j r x v s] [Row i (cellsOf encPt p.m.P),Row n (cellsOf Ze p.m.T),Row k (cellsOf Ze p.m.S),Row p.f.a (cellsOf Zy p.f.l),Row j (cellsOf Jo p.G),Vr (Je p.G)] (.int .i64 0):=by
 refine fnI func130 I ntmps130 λS w0 z=>zS (zx I λy=>au 0x31125 ?_);refine zp (.fA I E5)<|au 0x71f6bf ?_;intro a w h;refine Zi h (λd h=>?_) (λd h=>?_);focus
  refine gL h<|zm I<|zq 6 I I (.fA I E5)<|ldQ 6 Mw ?_;refine zq 6 I I (.neq I I) (bbF (λg=>(by exfalso;rcases ho with e|e<;>rw[e] at d g<;>simp at d g)) λg=>au 0x43e ?_);refine zq 11 I I (.fA I Hr) ?_;clear h;intro a w h
 rotate_left;focus
  refine gL h<|au 0x42e15f15f15f4 ?_;refine zq 11 I I (.fA I Hr) ?_;clear h;intro a w h
 all_goals
  refine gL h<|ldQ 11 Ha ?_;clear h;intro a w h;refine Zq 11 h I I<|Xn h (vs:=[_]) I call224 (W4 p.k0 p.k1 p.k2 u h1 t q hd) dd ?_;clear h;intro a w h;refine gL h<|zq 11 I I (aq (v':=.bool false) (.unOp I<|Yt _) cgd)<|au 0x42e ?_;refine zq 17 I I (.fA I JV)<|ldQ 17 Ei ?_;clear h;intro a w h;refine Zq 17 h I I<|Xn h (vs:=[_]) I call34 (D6 _) dd ?_;clear h;intro a w h;refine gL h<|zq 17 I I (.lss I I) (bbF (λb=>(by exfalso;have:=of_decide_eq_true b;have:=(G3 p.c).1 this;grind)) λb=>au 0x625317c22e ?_);refine rtK I
theorem jx(h:c3<c7): RN (Instr.indexAt 98 (.slice (some ⟨L,e,none⟩) c7 b9) (.int .i64 (c3:Int))) (.pointer (some ⟨L,e+c3,none⟩)):=λw=>by
 simpa using Qf runUnderlying98 sizeOf50 L e c7 b9 c3 h w
theorem JU: RN (Instr.fieldAt 53 (.pointer (some ⟨z,s,none⟩)) 4) (.pointer (some ⟨z,s+24,none⟩)):=λw=>by
 simp[go_sem]
theorem Iu: Zm false 1 #[A,B,C,h,w,F,H,J,N,O,P,Q,R,S,U,V,Z,a1,a6,a7,a8,b0,b1,b2,b3,b4] 24=some b3:=rfl
theorem KF: (Instr.buildSlice 98 1 [(0,.slice E L e)].toArray).run prog b7=.ok (.slice (some ⟨b7.heap.size,0,none⟩) 1 1) (b7.alloc (.cells #[.slice E L e] 50 (0,0))):=by
 simp[go_sem]
abbrev Yy(q:Pl): Zs:=Row q.a (cellsOf Zy q.l)
def GdPl(q:Pl): Prop:=Pq 8 100000000 q.l
theorem GdPl.deg{q:Pl}(h:GdPl q): gd (norm q.l)<=8:=JZ (Jv (Pq.deg (d:=8) (K:=100000000) h))
theorem C_deg1(q:Pl)(hq:GdPl q): Xi prog 278 [Vd q] [Yy q] (.bool false):=by
 refine fnI func278 I ntmps278 λS w0 a=>au 0x4312531 ?_;refine zw [_] I call159 (GW q.l _ _ 8 100000000 hq dd dd)<|au 0x625c0f ?_;refine rtK ?_;congr 1;exact decide_eq_false (by have:=hq.deg;omega)
theorem C_IxPl(l:List Pl)(ad:Option Addr)(c:Nat)(p:l.length<=1000000)(n:∀q∈l,GdPl q): Xi prog 301 [.slice ad l.length c,.func (.func 278) #[] #[]] [Row ad (List.map Vd l),Vr (l.map Yy)] (.int .i64 (-1)):=by
 refine fnI func301 I ntmps301 λS w0 o=>au 0x8242cf43112531 ?_;intro a w h;refine lpG h [0,1,7] pkL (λY Z (i:Nat) a w=>i<=l.length/\St 19 S w0 ((8,nI i)::Y) [] Z a w) (λi=>l.length-i) 0 (⟨cX _,by exact(h).sub sA⟩) ?_;clear h;rintro i a w ⟨m,h⟩;refine gC h<|au 0x12d31 ?_;intro a w h;refine Zb h I (λf=>?_) (λf=>?_)
 ·have b:i<l.length:=dT f;obtain ⟨k,j,rfl⟩:=h.row_addr (ad:=ad) (M:=List.map Vd l) mm nF;replace h:=h.pickR (l:=l.map Yy) mm (List.mem_map.2 ⟨_,getD_mem l (d:=pl0) b,rfl⟩);refine gC h<|au 0x4443125431817 ?_;refine zp (.indexAddr I I<|jx _ _ _ _ _ oo)<|zD I mm (by rw[az];omega) isAgg50 sizeOf50 (Zn (enc:=Vd) (l:=l) pl0 oo) (.inr I) ?_;clear h;intro a w h;refine Zc<|Xs h (fs:=[]) (cs:=[]) I (vs:=[_]) I call278 (C_deg1 (l.getD i pl0)<|n _<|getD_mem l b) ss dd ?_;clear h;intro a w h;refine Zi h (λe h=>(by exfalso;cases e)) (λe h=>?_);refine wpList_nil<|cW<|Zj h I<|gC h<|zk<|zr<|zp (.pN (i+1)<|.add I I)<|au 0x24 ?_;clear h;intro a w h;exact⟨i+1,⟨oo,tO h⟩,oo⟩
 have g:l.length=i:=dF f;subst g;refine gC h<|au 0x625310e ?_;refine rtK I
theorem C_CfPl(l:List Pl)(ad:Option Addr)(c:Nat)(b:l.length<=1000000)(a:∀q∈l,GdPl q): Xi prog 277 [.slice ad l.length c,.func (.func 278) #[] #[]] [Row ad (List.map Vd l),Vr (l.map Yy)] (.bool false):=by
 refine fnI func277 I ntmps277 λS w0 d=>au 0x44312531 ?_;refine zw [_,_] I call301 (C_IxPl l _ _ b a)<|au 0x62500f ?_;refine rtK I
theorem QB(l:List Pl)(ad:Option Addr)(c:Nat)(e:l.length<=1000000)(d:∀q∈l,GdPl q): Xi prog 225 [.slice ad l.length c] [Row ad (List.map Vd l),Vr (l.map Yy)] (.int .i64 0):=by
 refine fnI func225 I ntmps225 λS w0 f=>au 0x43112531 ?_;refine zw [_,_] I call277 (C_CfPl l _ _ e d) ?_;intro a w h;refine Zi h (λb h=>(by exfalso;cases b)) (λb h=>?_);refine wpList_nil<|cW<|Zj h I<|gC h<|au 0x625317 ?_;refine rtK I
theorem eW(p:Pr)(b e d c:Option Addr)(g n k i:Nat)(hf:GdPl p.f): Xi prog 131 [Xv p b e d c g n k i] [Row b (cellsOf encPt p.m.P),Row e (cellsOf Ze p.m.T),Row d (cellsOf Ze p.m.S),Row p.f.a (cellsOf Zy p.f.l),Row c (cellsOf Jo p.G),Vr (Je p.G)] (.int .i64 0):=by
 refine fnI func131 I ntmps131 λS w0 j=>zS (zx I λo=>za I<|zn<|zS<|zp (.fA I JU)<|ldZ Iu ?_);refine zB [(_,_)] I (KF _ _ _) λq=>?_;intro a w h;replace h:=h.shareAll j (List.map Vd [p.f]) I;replace h:=h.gatherR (l:=[p.f].map Yy) ss;refine gL h<|zw [_] I call225 (QB [p.f] _ _ ss (by simpa using hf))<|za I<|zn<|zt<|rtK I
theorem R9: RN (Instr.fieldAt 79 (.pointer (some ⟨z,s,none⟩)) 0) (.pointer (some ⟨z,s+0,none⟩)):=λw=>by
 simp[go_sem]
theorem IU: Zm false 1 #[A,B,C,h,w] 0=some A:=rfl
theorem DD: (Go.builtin .len #[51] e1 e2 #[.slice E L e]).run prog b7=.ok (.value (.int .i64 L)) b7:=by
 simp[go_sem]
theorem ix_51(h:c3<c7): RN (Instr.indexAt 51 (.slice (some ⟨L,e,none⟩) c7 b9) (.int .i64 (c3:Int))) (.pointer (some ⟨L,e+c3*5,none⟩)):=λw=>by
 simpa using Qf runUnderlying51 sizeOf79 L e c7 b9 c3 h w
theorem JS: RN (Instr.fieldAt 53 (.pointer (some ⟨z,s,none⟩)) 5) (.pointer (some ⟨z,s+25,none⟩)):=λw=>by
 simp[go_sem]
theorem It: Zm false 1 #[A,B,C,h,w,F,H,J,N,O,P,Q,R,S,U,V,Z,a1,a6,a7,a8,b0,b1,b2,b3,b4] 25=some b4:=rfl
theorem ru: RN (Instr.build 79 [].toArray) (.agg #[.int .i64 0,.bool false,.slice none 0 0,.slice none 0 0,.slice none 0 0]):=λw=>by simp[go_sem]
theorem mk_ib:MK prog 308 3 4 Qb (F8 false):=MK.ofInt (q:=.i64) (f:=λx:Nat=>(x:Int)) runUnderlying308 zeroValue4 runUnderlying3 (λx y h=>by omega)
abbrev ixG(G:List Gv)(n:Nat): Int:=CW (λg=>((g.mark:Nat):Int) == ((n:Nat):Int)) G 0
def Gg(G:List Gv)(n:Nat): Gv×Bool:=if ixG G n<0 then (gv0,false) else (G.getD (ixG G n).toNat gv0,true)
theorem Nf{G:List Gv}(h:ixG G z<0): Gg G z=(gv0,false):=if_pos h
theorem F6{G:List Gv}{i:Nat}(h:ixG G z=(i:Int)): Gg G z=(G.getD i gv0,true):=by unfold Gg;rw[h,if_neg oo];rfl
theorem ixG_lt(G:List Gv)(n:Nat): ixG G n<((G.length:Nat):Int):=RV _ G 0
def G4(G:List Gv): Nat->List (Nat×Bool)
 | 0=>[]
 | i+1=>Va (G4 G i) (G.getD i gv0).mark true
theorem cq{m:List (Nat×Bool)}(h:Zo m z=none): ∀y,(z,y)∉m:=by
 induction m with
 | nil=>intro y a;cases a
 | cons p r c =>
  intro y a;unfold Zo at h;split at h
  ·cases h
  rename_i b;rcases List.mem_cons.1 a with e|hm
  ·exact b (by rw[<-e])
  exact c h y hm
theorem Oq{G:List Gv}: ∀ {i:Nat} {k:Nat},(Zo (G4 G i) k).isSome=true -> ∃j,j<i/\(G.getD j gv0).mark=k
 | 0,k,h=>by simp[G4,Zo] at h
 | i+1,k,h=>by
  obtain ⟨y,a⟩:=Option.isSome_iff_exists.1 h;rcases BQ (Ev a) with e|hm
  ·exact⟨i,ia i,(congrArg Prod.fst e).symm⟩
  have hk:(Zo (G4 G i) k).isSome=true:=by
   cases b:Zo (G4 G i) k with
   | some _=>rfl
   | none=>exact absurd hm (cq b _)
  obtain ⟨j,hj,e⟩:=Oq hk;exact⟨j,oo,e⟩
structure GdG(G:List Gv): Prop where
 le:∀g∈G,g.mark<=255
 dif:∀i k,i<k->k<G.length->(G.getD i gv0).mark≠(G.getD k gv0).mark
 v:∀g∈G,GdPl g.v
 x:∀g∈G,GdPl g.x
 y:∀g∈G,GdPl g.y
 n:G.length<=300
theorem GdG.new{G:List Gv}(h:GdG G)(a:z<G.length): (Zo (G4 G z) (G.getD z gv0).mark).getD false=false:=by
 cases b:Zo (G4 G z) (G.getD z gv0).mark with
 | none=>rfl
 | some y =>
  obtain ⟨j,hj,e⟩:=Oq (show(Zo (G4 G z) (G.getD z gv0).mark).isSome=true by rw[b];rfl);exact absurd e (h.dif j z hj a)
theorem sS(g:Gv)(n b o:Nat): Xi prog 196 [Jo g,.pointer (some ⟨b,o,none⟩)] [Row (some ⟨b,o,none⟩) [.int .i64 ((n:Nat):Int)]] (.bool (((g.mark:Nat):Int) == ((n:Nat):Int))):=by
 refine fnI func196 I ntmps196 λS w0 c=>zS (zx I λa=>au 0x0bf3125 ?_);refine ldZ IU ?_;refine zD (b:=b) (off:=o) (j:=0) (M:=[.int .i64 ((n:Nat):Int)]) (v:=.int .i64 ((n:Nat):Int)) I mm (gM _) isAgg3 sizeOf3 I (.inr I) ?_;refine au 0x625ae ?_;refine rtK I
theorem C_IxGv(l:List Gv)(ad:Option Addr)(c:Nat)(t:l.length<=1000000)(n b o:Nat): Xi prog 195 [.slice ad l.length c,.func (.func 196) #[] #[.pointer (some ⟨b,o,none⟩)]] [Row ad (cellsOf Jo l),Row (some ⟨b,o,none⟩) [.int .i64 ((n:Nat):Int)]] (.int .i64 (CW (λg=>((g.mark:Nat):Int) == ((n:Nat):Int)) l 0)):=by
 refine fnI func195 I ntmps195 λS w0 s=>au 0x824f8f43112531 ?_;intro a w h;refine lpG h [0,1,7] pkL (λY Z (i:Nat) a w=>i<=l.length/\(CW (λg=>((g.mark:Nat):Int) == ((n:Nat):Int)) l 0=CW (λg=>((g.mark:Nat):Int) == ((n:Nat):Int)) (l.drop i) i)/\St 19 S w0 ((8,nI i)::Y) [] Z a w) (λi=>l.length-i) 0 (⟨cX _,rfl,by exact(h).sub sA⟩) ?_;clear h;rintro i a w ⟨r,d,h⟩;refine gC h<|au 0x12d31 ?_;intro a w h;refine Zb h I (λj=>?_) (λj=>?_)
 ·have f:i<l.length:=dT j;obtain ⟨q,p,rfl⟩:=h.row_addr (ad:=ad) (M:=cellsOf Jo l) mm (nE 5);refine gC h<|au 0xa8f4443125431817 ?_;refine zD I mm (cells_lt (k:=5) dd (λ_=>rfl) l i oo) isAgg79 sizeOf79 (Zh (k:=5) (λ_=>rfl) ((λ_=>rfl)) l gv0 i oo) (.inl I) ?_;clear h;intro a w h;refine Zc<|Xs h (fs:=[]) (cs:=[.pointer (some ⟨b,o,none⟩)]) I (vs:=[_]) I call196 (sS (l.getD i gv0) n b o) ss dd ?_;clear h;intro a w h;refine Zi h (λe h=>?_) (λe h=>?_)
  ·refine wpList_nil<|cW<|Qq h I ?_;refine gC h<|au 0x625431 ?_;refine rtK ?_;rw[d,Vj _ l i gv0 f,if_pos e]
  refine wpList_nil<|cW<|Zj h I<|gC h<|zk<|zr<|zp (.pN (i+1)<|.add I I)<|au 0x24 ?_;clear h;intro a w h;exact⟨i+1,⟨oo,by rw[d,Vj _ l i gv0 f,if_neg (by rw[e];decide)],tO h⟩,oo⟩
 have m:l.length=i:=dF j;subst m;refine gC h<|au 0x625310e ?_;refine rtK ?_;rw[d,tf];rfl
theorem nQ(p:Pr)(o i e d:Option Addr)(t A u x n:Nat)(y:p.G.length<=1000000): Xi prog 108 [Xv p o i e d t A u x,.int .i64 ((n:Nat):Int)] [Row o (cellsOf encPt p.m.P),Row i (cellsOf Ze p.m.T),Row e (cellsOf Ze p.m.S),Row p.f.a (cellsOf Zy p.f.l),Row d (cellsOf Jo p.G),Vr (Je p.G)] (.tuple #[Jo (Gg p.G n).1,.bool (Gg p.G n).2]):=by
 refine fnI func108 I ntmps108 λS w0 z=>zS (zx I λB=>zx I λv=>?_);intro a w h;replace h:=h.shareAll z ([.int .i64 ((n:Nat):Int)]) I;refine gL h (zz Dl λC=>au 0x56f84ff2f3125 ?_);refine zw [_,_] I call195 (C_IxGv p.G _ _ y n v 0)<|au 0x2d431125 ?_;clear h;intro a w h;refine Zb h I (λb=>?_) (λb=>?_)
 ·refine gC h<|zS<|zp (.build [] I<|ru)<|stW I I Zl ?_;refine au 0x625 ?_;clear h;intro a w h;refine Xh h (Qd h I (rC Zz)<|.tmp I) ?_;first|(rw[Nf (of_decide_eq_true b)];done)|(rw[Nf (of_decide_eq_true b)];rfl)
 obtain ⟨j,c⟩:∃j:Nat,CW (λg=>((g.mark:Nat):Int) == ((n:Nat):Int)) p.G 0=(j:Int):=⟨(CW (λg=>((g.mark:Nat):Int) == ((n:Nat):Int)) p.G 0).toNat,by have:=of_decide_eq_false b;omega⟩
 have s:j<p.G.length:=by have:=RV (λg=>((g.mark:Nat):Int) == ((n:Nat):Int)) p.G 0;omega
 rw[c] at h;obtain ⟨r,q,rfl⟩:=h.row_addr (ad:=d) (M:=cellsOf Jo p.G) mm (nE 5);refine gC h<|au 0xa8f484ff2f317 ?_;refine zD I mm (cells_lt (k:=5) dd (λ_=>rfl) p.G j oo) isAgg79 sizeOf79 (Zh (k:=5) (λ_=>rfl) ((λ_=>rfl)) p.G gv0 j oo) (.inl I) ?_;refine stW I I Zl ?_;refine au 0x625 ?_;clear h;intro a w h;refine Xh h (Qd h I (rC Zz)<|.tmp I) ?_;first|(rw[F6 c];done)|(rw[F6 c];rfl)
theorem Nj: RN (Instr.fieldAt 79 (.pointer (some ⟨z,s,none⟩)) 2) (.pointer (some ⟨z,s+2,none⟩)):=λw=>by
 simp[go_sem]
theorem HS: Zm false 1 #[A,B,C,h,w] 2=some C:=rfl
theorem B8: RN (Instr.fieldAt 79 (.pointer (some ⟨z,s,none⟩)) 3) (.pointer (some ⟨z,s+3,none⟩)):=λw=>by
 simp[go_sem]
theorem Er: RN (Instr.indexAt 77 (.pointer (some ⟨L,e,none⟩)) (.int .i64 0)) (.pointer (some ⟨L,e+0,none⟩)):=λw=>by
 simp[go_sem,Instr.indexAt]
theorem Dt: Zm false 1 #[A,B,C,h,w] 3=some h:=rfl
theorem Ep: RN (Instr.indexAt 77 (.pointer (some ⟨L,e,none⟩)) (.int .i64 1)) (.pointer (some ⟨L,e+1,none⟩)):=λw=>by
 simp[go_sem,Instr.indexAt]
theorem HQ: Zm false 1 #[A,B,C,h,w] 4=some w:=rfl
theorem NU(n b:Nat)(w:World): (Instr.buildSlice 98 3 [(0,.slice E L e),(1,.slice e6 b9 c3),(2,.slice h6 n b)].toArray).run prog w=.ok (.slice (some ⟨w.heap.size,0,none⟩) 3 3) (w.alloc (.cells #[.slice E L e,.slice e6 b9 c3,.slice h6 n b] 50 (0,0))):=by
 simp[go_sem]
theorem E6: RN (Instr.fieldAt 53 (.pointer (some ⟨z,s,none⟩)) 0) (.pointer (some ⟨z,s+0,none⟩)):=λw=>by
 simp[go_sem]
theorem FB: Zm true 3 #[A,B,C,h,w,F,H,J,N,O,P,Q,R,S,U,V,Z,a1,a6,a7,a8,b0,b1,b2,b3,b4] 0=some (.agg #[A,B,C]):=rfl
theorem lr(p:Pr)(r o j s:Option Addr)(E K F J:Nat)(D:GdG p.G): Xi prog 132 [Xv p r o j s E K F J] [Row r (cellsOf encPt p.m.P),Row o (cellsOf Ze p.m.T),Row j (cellsOf Ze p.m.S),Row p.f.a (cellsOf Zy p.f.l),Row s (cellsOf Jo p.G),Vr (Je p.G)] (.int .i64 0):=by
 have Q:=D.n;refine fnI func132 I ntmps132 λS w0 U=>zS (zx I λL=>au 0x3125 ?_);intro a w h;refine Zc<|EM Qb F8 h dd ?_;clear h;intro H a w h;refine gL h<|au 0x824f8f84ff2f31125 ?_;clear h;intro a w h;replace h:=h.same I (show _=[(H,mB Qb F8 (G4 p.G 0)),_] from I) I;refine lpG h [3,9,10] pkL (λY Z (i:Nat) a w=>i<=p.G.length/\St 46 S w0 ((11,nI i)::Y) [(H,mB Qb F8<|G4 p.G i),(L,bV (Xv p r o j s E K F J) 53)] Z a w) (λi=>p.G.length-i) 0 (⟨cX _,by exact(h).sub sA⟩) ?_;clear h;rintro i a w ⟨N,h⟩;refine gC h<|au 0x12d31 ?_;intro a w h;refine Zb h I (λe=>?_) (λe=>?_)
 ·have b:i<p.G.length:=dT e;obtain ⟨C,A,rfl⟩:=h.row_addr (ad:=s) (M:=cellsOf Jo p.G) mm (nE 5);have g:=getD_mem p.G (d:=gv0) b;have hle:=D.le _ g;replace h:=h.pickR (l:=Je p.G) mm (Kv b).1;replace h:=h.pickR (l:=Je p.G) mm (Kv b).2.1;replace h:=h.pickR (l:=Je p.G) mm (Kv b).2.2;refine gC h<|au 0xa8f31817 ?_;refine zD I mm (cells_lt (k:=5) dd (λ_=>rfl) p.G i oo) isAgg79 sizeOf79 (Zh (k:=5) (λ_=>rfl) ((λ_=>rfl)) p.G gv0 i oo) (.inl I) ?_;refine zz Dl λO=>stW I I Zl ?_;refine au 0x0bf3112 ?_;refine ldZ IU ?_;refine zp (.lss I I) (bbF (λt=>(absurd (of_decide_eq_true t) oo)) λt=>zm I<|zq 18 I I (.fA I R9)<|ldQ 18 IU ?_);refine zq 18 I I (.gtr I I) (bbF (λz=>(absurd (of_decide_eq_true z) oo)) λz=>au 0x42e ?_);refine zq 23 I I (.move I)<|zq 23 I I (.fA I R9)<|ldQ 23 IU ?_;clear h;intro a w h;refine Zq 23 h I I<|OQ h mk_ib (u:=(p.G.getD i gv0).mark) (m:=G4 p.G i) I I mm dd ?_;clear h;intro a h;refine gL h (bbF (λc=>(by exfalso;rw[D.new b] at c;cases c)) λc=>au 0x0bf4317c22e ?_);refine ldZ IU ?_;clear h;intro a w h;refine Zc<|HY h mk_ib (u:=(p.G.getD i gv0).mark) (q:=true) (m:=G4 p.G i) I I I uu ?_;clear h;intro a w h;replace h:=h.same I (show _=[(O,bV (Jo (p.G.getD i gv0)) 79),(H,mB Qb F8 (G4 p.G (i+1))),(L,bV (Xv p r o j (some ⟨C,A,none⟩) E K F J) 53)] from I) I;refine gL h<|zn<|zS<|zp (.fA I Nj)<|ldZ HS ?_;refine zp (.fA I B8)<|zp (.indexAddr I I<|Er _ _)<|ldZ Dt ?_;refine zp (.fA I B8)<|zp (.indexAddr I I<|Ep _ _)<|ldZ HQ ?_;refine zB [(_,_),(_,_),(_,_)] I (NU _ _ _ _ _ _ _ _ _) λR=>?_;clear h;intro a w h;replace h:=h.shareAll U (List.map Vd [(p.G.getD i gv0).v,(p.G.getD i gv0).x,(p.G.getD i gv0).y]) I;replace h:=h.gatherR (l:=[(p.G.getD i gv0).v,(p.G.getD i gv0).x,(p.G.getD i gv0).y].map Yy) ss;refine gL h<|zw [_] I call225 (QB [(p.G.getD i gv0).v,(p.G.getD i gv0).x,(p.G.getD i gv0).y] _ _ ss (by intro q hq;simp only[cZ,cf,or_false] at hq;rcases hq with rfl|rfl|rfl<;>first|exact D.v _ g|exact D.x _ g|exact D.y _ g))<|au 0x37c2d0f43125 ?_;refine zp (.pN (i+1)<|.add I I)<|au 0x24 ?_;clear h;intro a w h;exact⟨i+1,⟨oo,tO h⟩,oo⟩
 have B:p.G.length=i:=dF e;subst B;refine gC h<|au 0x625310e ?_;refine rtK I
theorem lC(p:Pr)(b d c e:Option Addr)(g i h j K:Nat)(hv:MV K p.m)(k:K<=100000): Xi prog 133 [Xv p b d c e g i h j] [Row b (cellsOf encPt p.m.P),Row d (cellsOf Ze p.m.T),Row c (cellsOf Ze p.m.S),Row p.f.a (cellsOf Zy p.f.l),Row e (cellsOf Jo p.G),Vr (Je p.G)] (.int .i64 0):=by
 refine fnI func133 I ntmps133 λS w0 o=>zS (zx I λn=>au 0x58f43f3125 ?_);refine zw [_] I call76 (N9 K p.m b d c g i h hv k)<|za I<|zn<|zt<|rtK I
theorem eA: RN (Instr.build 77 [(0,.slice E L e),(1,.slice e6 b9 c3)].toArray) (.agg #[.slice E L e,.slice e6 b9 c3]):=λw=>by simp[go_sem]
abbrev Vk(x y:Rat)(u:List Tm): List Tm:=norm (norm (Qc x (norm (dxL u)))++norm (Qc y (norm (dyL u))))
theorem Ex{u:List Tm}{x:Rat}(h:Pq z s u)(hd:z<=12)(hx:Zr x<=1000)(a:Zr k5<=1000): Pq z (2*s+2006) (Vk x k5 u):=by
 have:=Pq.add ((h.dx hd).scale hx hd) ((h.dy hd).scale a hd) hd hd;rw[vp] at this;exact this.mono (aZ _) oo
abbrev Oc(k0 k1 k2 c:Rat)(u:List Tm): List Tm:=norm (norm (Qc c u)++Qc ((-1:Int):Rat) (norm (norm (dxL (Vk k0 k1 u))++norm (dyL (Vk k1 k2 u)))))
theorem SI(u:List Tm)(ad:Option Addr)(F d K:Nat)(hq:Pq d K u)(hd:d<=12)(T:K<=1000000)(n:Zr e0<=1000)(h1:Zr e8<=1000)(k:Zr e9<=1000): Ctr prog 107 [.agg ((Value.cells (Qa (e0)))++(Value.cells (Qa (e8)))++(Value.cells (Qa (e9)))),.slice ad u.length F] [Row ad (cellsOf Zy u)] (λv Ψ => ∃s E t C,v=.agg #[.slice s (Vk e0 e8 u).length E,.slice t (Vk e8 e9 u).length C]/\Ψ=[Row s (cellsOf Zy (Vk e0 e8 u)),Row t (cellsOf Zy (Vk e8 e9 u))]):=by
 have hx:=hq.dx hd;have e:=hq.dy hd;refine fnI func107 I ntmps107 λS w0 W=>zS (zx I λU=>zz zeroValue77 λV=>zn<|zS<|zm I<|zf [_] I call184 (C_DxF u _ _ d K hq hd oo) ?_);rintro X B ⟨L,R,rfl,rfl⟩ a w h;refine gL h<|zm I<|zf [_] I call185 (C_DyF u _ _ d K hq hd oo) ?_;rintro v10 q ⟨o,H,rfl,rfl⟩;refine au 0x1255 ?_;refine yE [0,1,2,4,5,6,9,10,11,13,14,15,3,7,8,12,16,17,18,19]<|au 0xebf4cf9 ?_;clear h;refine au 0xdbf3cf9 ?_;refine au 0xdbf3cf9 ?_;refine au 0x9 ?_;refine yp I (.indexAddr I I<|FQ _ _)<|ldY Cj ?_;refine yf [_,_] I I call90 (Ab (norm<|dxL u) _ _ d (K+1) hx hd oo e0 1000 n oo) ?_;rintro O A ⟨r,D,rfl,rfl⟩;refine yf [_,_] I I call90 (Ab (norm<|dyL u) _ _ d (K+1) e hd oo e8 1000 h1 oo) ?_;rintro P y ⟨j,Q,rfl,rfl⟩;refine yf [_,_] I I call89 (C9 (norm<|Qc e0<|norm<|dxL u) (norm<|Qc e8<|norm<|dyL u) _ _ _ _ d d (1000+(K+1)+1) (1000+(K+1)+1) (hx.scale n hd) (e.scale h1 hd) hd hd oo oo) ?_;rintro J m ⟨c,g,rfl,rfl⟩;refine yf [_,_] I I call90 (Ab (norm<|dxL u) _ _ d (K+1) hx hd oo e8 1000 h1 oo) ?_;rintro v23 p ⟨l,M,rfl,rfl⟩;refine yf [_,_] I I call90 (Ab (norm<|dyL u) _ _ d (K+1) e hd oo e9 1000 k oo) ?_;rintro G i ⟨x,N,rfl,rfl⟩;refine yf [_,_] I I call89 (C9 (norm<|Qc e8<|norm<|dxL u) (norm<|Qc e9<|norm<|dyL u) _ _ _ _ d d (1000+(K+1)+1) (1000+(K+1)+1) (hx.scale h1 hd) (e.scale k hd) hd hd oo oo) ?_;rintro v28 z ⟨b,f,rfl,rfl⟩;refine yp I (.build [(_,_),(_,_)] I<|eA _ _ _ _ _ _)<|stV I I I Zt ?_;refine yn<|zt ?_;intro a w h;refine Qj (Ψ:=[Row c (cellsOf Zy<|Vk e0 e8 u),Row b (cellsOf Zy<|Vk e8 e9 u)]) h (Zd h I<|rC Qt) ?_ ss;exact⟨c,g,b,f,rfl,rfl⟩
theorem QA(c:Rat)(u:List Tm)(ad:Option Addr)(n d K:Nat)(hq:Pq d K u)(hd:d<=12)(G:K<=1000000)(j:Zr e0<=1000)(h1:Zr e8<=1000)(i:Zr e9<=1000)(x:Zr c<=1000): Ctr prog 99 [.agg ((Value.cells (Qa (e0)))++(Value.cells (Qa (e8)))++(Value.cells (Qa (e9)))),Qa c,.slice ad u.length n] [Row ad (cellsOf Zy u)] (λv Ψ => ∃s F,v=.slice s (Oc e0 e8 e9 c u).length F/\Ψ=[Row s (cellsOf Zy (Oc e0 e8 e9 c u))]):=by
 have e:=Ex hq hd j h1;have g:=Ex hq hd h1 i;refine fnI func99 I ntmps99 λS w0 U=>zS (zx I λP=>zx I λT=>za I<|zn<|zS<|ldZ Ak ?_);refine zm I<|zf [_,_] I call107 (SI e0 e8 e9 u ad n d K hq hd G j h1 i) ?_;rintro v10 o ⟨y,p,q,A,rfl,rfl⟩;refine zz zeroValue77 λQ=>stW I I Zt ?_;refine zn<|zs<|yE [0,1,3,4,6,7,2,5,8,9,10,11]<|au 0xce9 ?_;refine yp I (.indexAddr I I<|Er _ _)<|ldY IV ?_;refine yp I (.indexAddr I I<|Ep _ _)<|ldY HU ?_;refine yf [_,_] I I call90 (Ab u _ _ d K hq hd oo c 1000 x oo) ?_;rintro E t ⟨C,L,rfl,rfl⟩;refine yf [_] I I call184 (C_DxF (Vk e0 e8 u) _ _ d (2*K+2006) e hd oo) ?_;rintro M D ⟨m,N,rfl,rfl⟩;refine yf [_] I I call185 (C_DyF (Vk e8 e9 u) _ _ d (2*K+2006) g hd oo) ?_;rintro H k ⟨B,J,rfl,rfl⟩;refine yf [_,_] I I call89 (C9 (norm<|dxL<|Vk e0 e8 u) (norm<|dyL<|Vk e8 e9 u) _ _ _ _ d d (2*K+2007) (2*K+2007) (e.dx hd) (g.dy hd) hd hd oo oo) ?_;rintro v20 r ⟨z,O,rfl,rfl⟩;refine yf [_,_] I I call98 (KX (norm<|Qc c u) (norm (norm (dxL<|Vk e0 e8 u)++norm (dyL<|Vk e8 e9 u))) _ _ _ _ d (max d d) (1000+K+1) (2*K+2007+(2*K+2007)+2) (hq.scale x hd) (Pq.add (e.dx hd) (g.dy hd) hd hd) hd oo oo oo) ?_;rintro v21 l ⟨b,f,rfl,rfl⟩;refine au 0x6a4e ?_;intro a w h;refine Qj (Ψ:=[Row b (cellsOf Zy<|Oc e0 e8 e9 c u)]) h (Zd h I<|.tmp I) ⟨b,f,rfl,rfl⟩ (λR hR=>by rw[da] at hR;subst hR;exact List.Mem.head _)
theorem dj: RN (Instr.fieldAt 30 (.pointer (some ⟨z,s,none⟩)) 1) (.pointer (some ⟨z,s+9,none⟩)):=λw=>by
 simp[go_sem]
theorem Y3: Zm false 1 #[A,B,C,h,w,F,H,J,N,O,P,Q,R,S,U,V] 9=some O:=rfl
theorem qV: RN (Go.convert 23 2 (.int .i8 W)) (.int .i64 (IntKind.i64.wrap W)):=λw=>by
 simp[go_sem]
theorem kl(a:IntKind.i64.wrap W=W): RN (Go.convert 23 2 (.int .i8 W)) (.int .i64 W):=λw=>by
 rw[qV,a]
theorem qJ: RN (Instr.fieldAt 30 (.pointer (some ⟨z,s,none⟩)) 3) (.pointer (some ⟨z,s+13,none⟩)):=λw=>by
 simp[go_sem]
theorem ik: Zm false 1 #[A,B,C,h,w,F,H,J,N,O,P,Q,R,S,U,V] 13=some S:=rfl
theorem cv_5_2: RN (Go.convert 5 2 (.int .u8 W)) (.int .i64 (IntKind.i64.wrap W)):=λw=>by
 simp[go_sem]
theorem dH(a:IntKind.i64.wrap W=W): RN (Go.convert 5 2 (.int .u8 W)) (.int .i64 W):=λw=>by
 rw[cv_5_2,a]
theorem Sb: RN (Instr.fieldAt 30 (.pointer (some ⟨z,s,none⟩)) 2) (.pointer (some ⟨z,s+10,none⟩)):=λw=>by
 simp[go_sem]
theorem jr: RN (Instr.indexAt 27 (.pointer (some ⟨L,e,none⟩)) (.int .i64 0)) (.pointer (some ⟨L,e+0,none⟩)):=λw=>by
 simp[go_sem,Instr.indexAt]
theorem io: Zm false 1 #[A,B,C,h,w,F,H,J,N,O,P,Q,R,S,U,V] 10=some P:=rfl
theorem jq: RN (Instr.indexAt 27 (.pointer (some ⟨L,e,none⟩)) (.int .i64 1)) (.pointer (some ⟨L,e+1,none⟩)):=λw=>by
 simp[go_sem,Instr.indexAt]
theorem im: Zm false 1 #[A,B,C,h,w,F,H,J,N,O,P,Q,R,S,U,V] 11=some Q:=rfl
theorem jp: RN (Instr.indexAt 27 (.pointer (some ⟨L,e,none⟩)) (.int .i64 2)) (.pointer (some ⟨L,e+2,none⟩)):=λw=>by
 simp[go_sem,Instr.indexAt]
theorem il: Zm false 1 #[A,B,C,h,w,F,H,J,N,O,P,Q,R,S,U,V] 12=some R:=rfl
abbrev BJ(n:Int): Value:=.int .u8 n
structure M25 where
 nx:Int
 ny:Int
 cells:List Int
 m0:Int
 m1:Int
 m2:Int
 m3:Int
 den:Int
 first:Int
abbrev Fa(m:M25)(adC:Option Addr)(cC:Nat): Value:=.agg #[.int .u8 m.nx,.int .u8 m.ny,.slice adC m.cells.length cC,.int .i8 m.m0,.int .i8 m.m1,.int .i8 m.m2,.int .i8 m.m3,.int .u8 m.den,.int .u8 m.first]
structure QT where
 i:Int
 j:Int
 q:Int×Int
abbrev qt0:QT:=⟨0,0,(0,0)⟩
abbrev E9(t:QT): Value:=.agg #[.int .i64 t.i,.int .i64 t.j,.int .i64 t.q.1,.int .u32 t.q.2]
structure Pn where
 M:M25
 two:Bool
 k0:Int
 k1:Int
 k2:Int
 c:Int
 u:List QT
 fixed:Int
abbrev Dj(x:Pn)(adC adU:Option Addr)(cC cU:Nat): Value:=.agg #[.int .u8 x.M.nx,.int .u8 x.M.ny,.slice adC x.M.cells.length cC,.int .i8 x.M.m0,.int .i8 x.M.m1,.int .i8 x.M.m2,.int .i8 x.M.m3,.int .u8 x.M.den,.int .u8 x.M.first,.bool x.two,.int .i8 x.k0,.int .i8 x.k1,.int .i8 x.k2,.int .u8 x.c,.slice adU x.u.length cU,.int .u8 x.fixed]
def U8(n:Int): Prop:=0<=n/\n<=255
def I8(n:Int): Prop := -128<=n/\n<=127
structure UN(x:Pn): Prop where
 k0:I8 x.k0
 k1:I8 x.k1
 k2:I8 x.k2
 c:U8 x.c
 fixed:U8 x.fixed
def Dk(n:Int): Int:=if n<0 then -n else n
abbrev stA(x:Pn): Int:=1+(Dk x.k0).tmod 3
abbrev stB(x:Pn): Int:=x.k1.tmod 3
abbrev stG(x:Pn): Int:=1+(Dk x.k2).tmod 3
theorem nY: -2<=W.tmod 3/\W.tmod 3<=2:=by
 have h1:=uM W (show(0:Int)<3 by decide);have a:=uM (-W) (show(0:Int)<3 by decide);rw[Int.neg_tmod] at a;omega
theorem Lb(x:Pn)(c d:Option Addr)(e f:Nat)(ht:x.two=true): Jk prog 71 [Dj x c d e f] (.int .i64 2):=by
 refine fnI func71 I ntmps71 λS w0 i=>zS (zx I λg=>au 0x31125 ?_);refine zp (.fA I dj)<|ldZ Y3 ?_;intro a w h;refine Zi h (λb h=>?_) (λb h=>(by exfalso;rw[ht] at b;cases b));refine wpList_nil<|cW<|Qq h I ?_;refine gC h<|au 0x62531 ?_;refine rtK I
theorem KW(x:Pn)(c d:Option Addr)(e f:Nat)(ht:x.two=false): Jk prog 71 [Dj x c d e f] (.int .i64 1):=by
 refine fnI func71 I ntmps71 λS w0 i=>zS (zx I λg=>au 0x31125 ?_);refine zp (.fA I dj)<|ldZ Y3 ?_;intro a w h;refine Zi h (λb h=>(by exfalso;rw[ht] at b;cases b)) (λb h=>?_);refine wpList_nil<|cW<|Zj h I<|gC h<|au 0x625317 ?_;refine rtK I
theorem fz(c:I8 W): Jk prog 145 [.int .i8 W] (.int .i64 (Dk W)):=by
 obtain ⟨n1,d⟩:=c;refine fnI func145 I ntmps145 λS w0 e=>au 0xd43112531 ?_;intro a w h;refine Zi h (λb h=>?_) (λb h=>?_)
 ·refine wpList_nil<|cW<|Qq h I ?_;refine gC h<|au 0xf6f431 ?_;refine zp (.unOp I (λw=>Mq _ oo oo w))<|za I<|zn<|zt<|rtK ?_;unfold Dk;rw[if_pos (of_decide_eq_true b)]
 refine wpList_nil<|cW<|Zj h I<|gC h<|au 0x625f6f4317 ?_;refine rtK ?_;unfold Dk;rw[if_neg (of_decide_eq_false b)]
theorem IF(h:I8 h0): 0<=Dk h0/\Dk h0<=128:=by obtain ⟨h1,a⟩:=h;unfold Dk;split<;>omega
theorem S0(h:0<=h0): 0<=h0.tmod 3/\h0.tmod 3<=2:=by
 have h1:=nY h0;rw[u7 h] at h1 ⊢;omega
theorem YB{x:Pn}(h:UN x): 1<=stA x/\stA x<=3:=by have:=S0 (IF h.k0).1;show 1<=1+_/\1+_<=(3:Int);omega
theorem X9{x:Pn}(h:UN x): 1<=stG x/\stG x<=3:=by have:=S0 (IF h.k2).1;show 1<=1+_/\1+_<=(3:Int);omega
theorem YA(x:Pn): -2<=stB x/\stB x<=2:=nY x.k1
theorem Hf{a b:Int}(h1: -3<=a)(c:a<=3)(e: -3<=b)(d:b<=3): -9<=a*b/\a*b<=9:=by
 have ha:a = -3\/a = -2\/a = -1\/a=0\/a=1\/a=2\/a=3:=oo;rcases ha with rfl|rfl|rfl|rfl|rfl|rfl|rfl<;>omega
theorem Cx(x:Pn)(b d:Option Addr)(e f:Nat)(hx:UN x): Jk prog 73 [Dj x b d e f] (Qa (((x.c.tmod 4:Int):Rat)/((2:Int):Rat))):=by
 obtain ⟨n1,k⟩:=hx.c;have hm:0<=x.c.tmod 4/\x.c.tmod 4<=3:=by rw[u7 n1];omega
 refine fnI func73 I ntmps73 λS w0 i=>zS (zx I λg=>zz Xc λj=>zn<|zS<|zp (.fA I qJ)<|ldZ ik ?_);refine au 0xa4f ?_;refine zp (.convert I<|dH _<|wrap_i64 _ oo oo)<|au 0xbb474f ?_;refine zz Xc λl=>stW I I Zl ?_;refine au 0x6e3125 ?_;refine stW I I Zl ?_;refine zn<|zt ?_;intro a w h;refine Xh h (Zd h I<|rC Zz) ?_;rfl
theorem D5(x:Pn)(c d:Option Addr)(i j:Nat)(hx:UN x): Jk prog 72 [Dj x c d i j] (.agg ((Value.cells (Qa (((stA x*stA x:Int):Rat))))++(Value.cells (Qa (((stA x*stB x:Int):Rat))))++(Value.cells (Qa (((stB x*stB x+stG x*stG x:Int):Rat)))))):=by
 obtain ⟨m1,m2⟩:=hx.k1;have q:=nY x.k1;have g1:=S0 (IF hx.k0).1;have g2:=S0 (IF hx.k2).1;have h1:=Hf (a:=(1+(Dk x.k0).tmod 3)) (b:=(1+(Dk x.k0).tmod 3)) oo oo oo oo;have l:=Hf (a:=(1+(Dk x.k0).tmod 3)) (b:=(x.k1.tmod 3)) oo oo oo oo;have p:=Hf (a:=(x.k1.tmod 3)) (b:=(x.k1.tmod 3)) oo oo oo oo;have n:=Hf (a:=(1+(Dk x.k2).tmod 3)) (b:=(1+(Dk x.k2).tmod 3)) oo oo oo oo;refine fnI func72 I ntmps72 λS w0 m=>zS (zx I λk=>zz QL λo=>zn<|zS<|zp (.fA I Sb)<|zp (.indexAddr I I<|jr _ _)<|ldZ io ?_);refine zv [_] I call145 (fz x.k0 hx.k0)<|au 0x3125f0fa4f ?_;refine zp (.fA I Sb)<|zp (.indexAddr I I<|jq _ _)<|ldZ im ?_;refine au 0x3125a4ff6f ?_;refine zp (.fA I Sb)<|zp (.indexAddr I I<|jp _ _)<|ldZ il ?_;refine zv [_] I call145 (fz x.k2 hx.k2)<|au 0xf1f92f443125f0fa4f ?_;have g:=Qe ((1+((Dk x.k0).tmod 3))*(1+((Dk x.k0).tmod 3))) oo oo;refine au 0xf1f92f44 ?_;intro a w h;have e:=Qe ((1+((Dk x.k0).tmod 3))*(x.k1.tmod 3)) oo oo;refine gL h<|au 0xf1ff0f92f4492f44 ?_;have f:=Qe (((x.k1.tmod 3)*(x.k1.tmod 3))+((1+((Dk x.k2).tmod 3))*(1+((Dk x.k2).tmod 3)))) oo oo;refine zp (.build [(_,_),(_,_),(_,_)] I<|KQ _ _ _ _ _ _ _ _ _ _ _ _ _ _ _)<|stW I I Ba ?_;refine zn<|zt ?_;clear h;intro a w h;refine Xh h (Zd h I<|rC Ak) ?_;rfl
theorem qI: RN (Instr.fieldAt 30 (.pointer (some ⟨z,s,none⟩)) 5) (.pointer (some ⟨z,s+15,none⟩)):=λw=>by
 simp[go_sem]
theorem ij: Zm false 1 #[A,B,C,h,w,F,H,J,N,O,P,Q,R,S,U,V] 15=some V:=rfl
def bitB(n i:Nat): Bool:=(((n/2 ^ i &&& 1:Nat):Int) == 1)
def Vz(n k:Nat): List Nat:=(List.range k).filter (bitB n)
theorem af(h:(((z/2 ^ s &&& 1:Nat):Int) == 1)=true): Vz z s++[s]=Vz z (s+1):=by
 unfold Vz;rw[tZ,tc];have a:bitB z s=true:=h;simp[lf,a]
theorem ja(h:(((z/2 ^ s &&& 1:Nat):Int) == 1)=false): Vz z s=Vz z (s+1):=by
 unfold Vz;rw[tZ,tc];have a:bitB z s=false:=h;simp[a]
theorem AL: (Vz L e).length<=e:=bp (nk _ _) (uz pr)
theorem pow_lt(h:L<=255): L/2 ^ e<2 ^ 8:=gO (tQ _ _) oo
theorem eZ(x:Pn)(m k:Option Addr)(u t n:Nat)(hf:x.fixed=((n:Nat):Int))(A:n<=255): CtrO prog 75 [Dj x m k u t] [] (λv o => ∃ad c,v=.slice ad (Vz n 5).length c/\GrowO 1 3 v (Vz n 5).length (List.map Qb (Vz n 5)) o):=by
 refine fn_introO func75 I ntmps75 nb ?_;intro S w0 a C h;refine gC h<|zS (zx I λs=>au 0x825311253125 ?_);clear h;intro a w h;refine Jl (fun(i:Nat) a w => ∃(e:Option Addr) (c1:Nat) (p:List (Nat×Obj)),(i<=5/\GrowO 1 3 (.slice e (Vz n i).length c1) (Vz n i).length (List.map Qb<|Vz n i) p)/\St 20 S w0 [(1,pB s),(3,(.slice e (Vz n i).length c1)),(4,nI i)] (p++((s,bV (Dj x m k u t) 30)::[])) [] a w) (λi=>5-i) (0) (⟨none,0,[],⟨oo,GrowO.nil _ _⟩,by exact h.sub sA⟩) ?_;clear h;rintro i a w ⟨e,c1,p,⟨z,f⟩,h⟩;refine gC h<|au 0x2d4311 ?_;intro a w h;refine Zb h I (λb=>?_) (λb=>?_)
 ·refine gC h<|zk<|zs<|zb<|zS<|zp (.fA I qI)<|ldZ ij ?_;clear h;intro a w h;rw[hf] at h;refine gL h<|zm I<|zp (.binOp I I (λ_=>Vw _ _ _ n i (by show i<=8;have:=of_decide_eq_true b;omega)))<|zp (.binOp I I (λ_=>G9 I _ _ _ (n/2 ^ i) 1 (pow_lt n i A) dd))<|au 0x2ae ?_;clear h;intro a w h;refine Zb h I (λd=>?_) (λd=>?_)
  ·refine gC h<|zr<|zm I<|zm I (zB [(_,_)] I (Ji _) λB=>?_);refine apM Qb (Vz n i) [i] f ?_ (hr:=by(try dsimp only);have:=AL n i;omega);intro j r q g a w h;refine gL h<|au 0x4325 ?_;refine zp (.pN (i+1)<|.add I I)<|au 0x25 ?_;clear h;intro a w h;have l:i<5:=dT b;rw[af d] at h g;exact⟨i+1,⟨j,r,q,⟨by have:=of_decide_eq_true b;omega,g⟩,by exact tO h⟩,oo⟩
  refine gC h<|zk<|zr<|zm I<|zp (.pN (i+1)<|.add I I)<|au 0x25 ?_;clear h;intro a w h;have l:i<5:=dT b;rw[ja d] at h f;exact⟨i+1,⟨e,c1,p,⟨by have:=of_decide_eq_true b;omega,f⟩,by exact tO h⟩,oo⟩
 refine gC h<|au 0x6254310e ?_;clear h;intro a w h;have y:i=5:=dF b;subst y;refine HV h (Zd h I<|.tmp I) ⟨e,c1,rfl,f⟩<|fv _ _
theorem jL: RN (Instr.fieldAt 269 (.pointer (some ⟨z,s,none⟩)) 0) (.pointer (some ⟨z,s+0,none⟩)):=λw=>by
 simp[go_sem]
theorem AK: Zm false 1 #[A] 0=some A:=rfl
theorem kL: RN (Instr.build 269 [(0,.func h8 h9 i1)].toArray) (.agg #[.func h8 h9 i1]):=λw=>by simp[go_sem]
def mxL(l:List Rat): Nat->Rat
 | 0=>0
 | i+1=>if i=0\/mxL l i<l.getD i 0 then l.getD i 0 else mxL l i
theorem iS(h:(((z:Nat):Int) == 0)=true): mxL h2 (z+1)=h2.getD z 0:=by rw[mxL,if_pos (.inl (by have:=eq_of_beq h;omega))]
theorem pM(h:decide ((h2.getD z 0-mxL h2 z).num.sign>0)=true): mxL h2 (z+1)=h2.getD z 0:=by
 have:=(Av _).1 (of_decide_eq_true h);rw[mxL,if_pos (.inr (by grind))]
theorem pP(b:(((z:Nat):Int) == 0)=false)(h:decide ((h2.getD z 0-mxL h2 z).num.sign>0)=false): mxL h2 (z+1)=mxL h2 z:=by
 have h1:¬(0<h2.getD z 0-mxL h2 z):=λa=>absurd ((Av _).2 a) (of_decide_eq_false h);rw[mxL,if_neg];rintro(e|e)
 ·subst e;cases b
 exact h1 (by grind)
theorem Z1{l:List Rat}{K:Nat}(h:∀x∈l,Zr x<=K)(a:2<=K): ∀i,i<=l.length->Zr (mxL l i)<=K
 | 0,_=>by rw[mxL];exact bp Kd a
 | i+1,b=>by
  rw[mxL];split
  ·exact h _ (getD_mem l oo)
  exact Z1 h a i oo
theorem lJ(u:i6.length<=1000000)(hl:∀x∈i6,Zr x<=1000000): Xi prog 181 [.agg #[.func (.func 180) #[] #[]],.slice E i6.length L] [Row E (cellsOf Qa i6)] (Qa (mxL i6 i6.length)):=by
 refine fnI func181 I ntmps181 λS w0 t=>zS (zx I λr=>zz Xc λs=>au 0x82447f43112 ?_);intro a w h;refine lpG h [2,4,7,8] pkL (λY Z (i:Nat) a w=>i<=i6.length/\St 27 S w0 ((9,nI i)::Y) [(s,bV (Qa<|mxL i6 i) 47),(r,bV (.agg #[.func (.func 180) #[] #[]]) 269)] Z a w) (λi=>i6.length-i) 0 (⟨cX _,by exact(h).sub sA⟩) ?_;clear h;rintro i a w ⟨o,h⟩;refine gC h<|au 0x12d31 ?_;intro a w h;refine Zb h I (λf=>?_) (λf=>?_)
 ·have j:i<i6.length:=dT f;obtain ⟨n,m,rfl⟩:=h.row_addr (ad:=E) (M:=cellsOf Qa i6) mm (nE 5);have q:=hl _ (getD_mem i6 (d:=0) j);have p:=Z1 hl dd i oo;refine gC h<|au 0x98f431817 ?_;refine zD I mm (cells_lt (k:=5) dd (λ_=>rfl) i6 i oo) isAgg47 sizeOf47 (Zh (k:=5) (λ_=>rfl) ((λ_=>rfl)) i6 0 i oo) (.inl I) ?_;refine zz Xc λv=>za I<|stW I I Zl ?_;refine zn<|zs<|yE [0,1,2,3,4,5,6,7,8,9]<|au 0x9 ?_;refine yp I (.eql I I) ?_;clear h;refine Jn (λb  =>?_) (λb  =>?_);focus
   refine au 0x9 ?_;refine yo 16 I I I I<|yo 16 I I I I<|yo 16 I I I I<|yo 16 I I I I<|yo 16 I I I I<|yo 16 I I I I<|au 0x6e31ea76f ?_;refine stW I I Zl ?_;refine zn<|zr<|zp (.pN (i+1)<|.add I I)<|au 0x24 ?_;intro a w h;rw[<-iS b] at h
  rotate_left;focus
   refine au 0x9 ?_;refine yq I I I (.fA I jL)<|yg I I I I mr isAgg126 sizeOf126 AK ?_;refine yg I I I I mr isAgg47 sizeOf47 Zz ?_;refine yg I I I I mr isAgg47 sizeOf47 Zz ?_;refine Xp I I I kk (vs:=[_,_]) I call39 (Mg (i6.getD i 0) (mxL i6 i) oo oo) dd ?_;refine Pj I I I kk (fs:=[]) (cs:=[]) I (vs:=[_]) I call180 (C_Max1 _) ss dd ?_;refine Jn (λe  =>?_) (λe  =>?_);focus
    refine au 0x6e31eaf4f ?_;refine stW I I Zl ?_;refine zn<|zr<|zp (.pN (i+1)<|.add I I)<|au 0x24 ?_;intro a w h;rw[<-pM e] at h
   rotate_left;focus
    refine au 0x37caf4f ?_;refine zp (.pN (i+1)<|.add I I)<|au 0x24 ?_;intro a w h;rw[<-pP b e] at h
  all_goals
   exact⟨i+1,⟨oo,tO h⟩,oo⟩
 have g:i6.length=i:=dF f;subst g;refine gC h<|au 0x6e310e ?_;refine stW I I Zl ?_;refine zn<|zt ?_;clear h;intro a w h;refine Xh h (Zd h I<|rC Zz) ?_;rfl
theorem C_fMax(b:i6.length<=1000000)(hl:∀x∈i6,Zr x<=1000000): Xi prog 96 [.slice E i6.length L] [Row E (cellsOf Qa i6)] (Qa (mxL i6 i6.length)):=by
 refine fnI func96 I ntmps96 λS w0 e=>zS (zz Xc λd=>zn<|zS<|zp (.build [(_,_)] I<|kL _ _ _)<|zm I<|zw [_,_] I call181 (lJ i6 _ _ b hl)<|stW I I Zl ?_);refine zn<|zt ?_;intro a w h;refine Xh h (Zd h I<|rC Zz) ?_;rfl
theorem NV(f g:Value)(w:World): (Instr.buildSlice 54 3 [(0,.agg #[i7,j0,j1,j2,j3]),(1,.agg #[k7,k8,k9,l2,l3]),(2,.agg #[l4,l5,l6,f,g])].toArray).run prog w=.ok (.slice (some ⟨w.heap.size,0,none⟩) 3 3) (w.alloc (.cells #[i7,j0,j1,j2,j3,k7,k8,k9,l2,l3,l4,l5,l6,f,g] 47 (0,0))):=by
 simp[go_sem]
theorem C_esq(u:List Tm)(ad:Option Addr)(c d K:Nat)(hq:Pq d K u)(hd:d<=6)(e:K<=2000000): Ctr prog 101 [.slice ad u.length c] [Row ad (cellsOf Zy u)] (λv Ψ => ∃ad2 c2,v=.slice ad2 (norm (Vl u u)).length c2/\Ψ=[Row ad2 (cellsOf Zy (norm (Vl u u)))]):=by
 refine fnI func101 I ntmps101 λS w0 i=>au 0x44312531 ?_;refine zf [_,_] I call166 (N7 u u _ _ _ _ d d K K hq hq oo e e) ?_;rintro j f ⟨b,g,rfl,rfl⟩;refine au 0x625431255bb4 ?_;intro a w h;refine Qj (Ψ:=[Row b (cellsOf Zy<|norm<|Vl u u)]) h (Zd h I<|.tmp I) ?_ ss;exact⟨b,g,rfl,rfl⟩
theorem sr: Jk prog 102 [encPt c9] (encPt c9):=by
 refine fnI func102 I ntmps102 λS w0 c=>zS (zx I λd=>zz HK λb=>au 0x26f69f04f79f312 ?_);refine zp (.build [(_,_),(_,_)] I<|Ma _ _ _ _ _ _ _ _ _ _)<|stW I I Zv ?_;refine zn<|zt ?_;intro a w h;refine Xh h (Zd h I<|rC Jq) ?_;rfl
theorem N6(q:Pl)(K:Nat)(hq:Pq 6 K q.l)(a:K<=400000000): Xi prog 158 [Vd q] [Yy q] (.bool false):=by
 refine fnI func158 I ntmps158 λS w0 b=>au 0x4312531 ?_;refine zw [_] I call159 (GW q.l _ _ 6 K hq dd a)<|au 0x625c0f ?_;refine rtK ?_;congr 1;exact decide_eq_false (by have:=JZ (Jv hq.deg);omega)
def EZ(a b c:Pt): List Rat:=[gb (Vv b a) (Vv b a),gb (Vv c b) (Vv c b),gb (Vv a c) (Vv a c)]
theorem Hj{a:Pt}(ha:PtK z a)(c:PtK z l7): Zr (gb (Vv l7 a) (Vv l7 a))<=8*z+10:=by
 obtain ⟨e,a2⟩:=ha;obtain ⟨d,i⟩:=c;have h1:=Yg l7.1 a.1;have f:=Yg l7.2 a.2;have j:=Qh (l7.1-a.1) (l7.1-a.1);have g:=Qh (l7.2-a.2) (l7.2-a.2);have h:=Xo ((l7.1-a.1)*(l7.1-a.1)) ((l7.2-a.2)*(l7.2-a.2));show Zr ((l7.1-a.1)*(l7.1-a.1)+(l7.2-a.2)*(l7.2-a.2))<=_;omega
theorem WN(c:Pt)(ha:PtK 100000 c9)(f:PtK 100000 e3)(hc:PtK 100000 c): Jk prog 27 [Kr c9 e3 c] (Qa (mxL (EZ c9 e3 c) 3)):=by
 have s1:=Hj ha f;have s2:=Hj f hc;have p:=Hj hc ha;obtain ⟨g,l⟩:=ha;obtain ⟨j,m⟩:=f;obtain ⟨n,k⟩:=hc;refine fnI func27 I ntmps27 λS w0 i=>zS (zx I λo=>zz Xc λq=>zn<|zs<|yE [0,1,2,3,5,6,7,8,10,11,12,13,4,9,14,15,16,17]<|au 0xe6f75f ?_);refine au 0xd6f65f ?_;refine au 0xd6f65f ?_;refine au 0xc6f55f ?_;refine au 0xc6f55f ?_;refine au 0xe6f75f ?_;refine yv [_,_] I I call97 (HG c9 e3 oo oo oo oo)<|yv [_,_] I I call97 (HG e3 c oo oo oo oo)<|yv [_,_] I I call97 (HG c c9 oo oo oo oo) ?_;refine Gx i I kk [(_,_),(_,_),(_,_)] I (NV _ _ _ _ _ _ _ _ _ _ _ _ _ _ _) (cellsOf Qa<|EZ c9 e3 c) I dd ?_;intro e;refine yw [_] I I call96 (C_fMax (EZ c9 e3 c) (some ⟨e,0,none⟩) 3 (show 3<=1000000 by decide) (by intro x hx;simp only[EZ,cZ,cf,or_false] at hx;rcases hx with rfl|rfl|rfl<;>omega))<|stV I I I Zl ?_;refine yn<|zt ?_;intro a w h;refine Xh h (Zd h I<|rC Zz) ?_;rfl
theorem ck2_be(e:Bool)(x:Nat×Nat): RN (Instr.checkKey e 10000 131 (Zx x)) ():=λw=>by
 rw[show(10000:Nat)=9999+1 from rfl,Instr.checkKey];have h1:=Ik e 9998 (x.1:Int);have a:=Ik e 9998 (x.2:Int);simp[go_sem,h1,a,List.range']
theorem eq2_be: RN (Op.equal 131 (Zx j4) (Zx j5)) (decide (j4=j5)):=λw=>by
 obtain ⟨i,j⟩:=j4;obtain ⟨k,l⟩:=j5;unfold Op.equal;rw[show Op.maxDepth=9999+1 from rfl,Op.equalIn];simp[go_sem,List.range'];by_cases h1:i=k<;>by_cases a:j=l<;>simp[h1,a,AP]
theorem OV:MK prog 128 131 3 Zx (Qb 0):=MK.ofAgg (D:=_) runUnderlying128 zeroValue3 runUnderlying131 (λ_ _=>rfl) ck2_be (λx=>by simp[Instr.sameBits]) eq2_be
def Sq(q:List ((Nat×Nat)×Nat))(e:Ed): Bool:=decide ((((Zo q (e.a,e.b)).getD 0:Nat):Int)>0)
def Yq(l:List (Nat×Nat×Nat))(q:List ((Nat×Nat)×Nat)): List Ed:=(Za l).filter (Sq q)
theorem qW(h:z<j6.length)(b:decide ((((Zo Y ((j6.getD z ed0).a,(j6.getD z ed0).b)).getD 0:Nat):Int)>0)=true): (j6.take z).filter (Sq Y)++[j6.getD z ed0]=(j6.take (z+1)).filter (Sq Y):=by
 have c:Sq Y (j6.getD z ed0)=true:=b;rw[xa,List.getElem?_eq_getElem h,tc];simp only[List.getD,List.getElem?_eq_getElem h,et] at c ⊢;simp[c]
theorem cut_no(h:z<j6.length)(b:decide ((((Zo Y ((j6.getD z ed0).a,(j6.getD z ed0).b)).getD 0:Nat):Int)>0)=false): (j6.take z).filter (Sq Y)=(j6.take (z+1)).filter (Sq Y):=by
 have c:Sq Y (j6.getD z ed0)=false:=b;rw[xa,List.getElem?_eq_getElem h,tc];simp only[List.getD,List.getElem?_eq_getElem h,et] at c;simp[c]
theorem qY(l:List Ed)(q:List ((Nat×Nat)×Nat))(i:Nat): ((l.take i).filter (Sq q)).length<=i:=bp (nk _ _) (by rw[db];omega)
theorem EI{enc:b5->Value}{k:Nat}(hk:∀x,(enc x).cells.size=k)(l:List b5)(j o:Nat)(h:j<l.length)(ho:o<k): j*k+o<(cellsOf enc l).length:=by
 rw[cellsOf_length hk];have:=cc k (show j+1<=l.length from h);rw[dk] at this;omega
theorem Ko{enc:b5->Value}{k:Nat}(hk:∀x,(enc x).cells.size=k)(l:List b5)(d:b5)(j:Nat)(h:j<l.length)(agg:Bool)(s o:Nat)(v:Value)(b:o+s<=k)(g:0<s)(hv:Zm agg s (enc (l.getD j d)).cells o=some v): Zm agg s (cellsOf enc l).toArray (j*k+o)=some v:=by
 have f:l.getD j d=l[j]:=by simp[List.getD,h]
 rw[f] at hv;have hle:j*k+k<=(cellsOf enc l).length:=by
  rw[cellsOf_length hk];have:=cc k (show j+1<=l.length from h);rw[dk] at this;omega
 have a:=hk l[j];cases agg with
 | false =>
  simp only[Zm,oE,if_false] at hv ⊢;have:=Aq hk l j o h oo;rw[<-hv];simpa using this
 | true =>
  simp only[Zm,if_true] at hv ⊢;rw[if_pos oo] at hv;rw[if_pos (by show _<=(cellsOf enc l).length;omega), <-tB hv];congr 2;apply wE
  ·simp[a];omega
  intro i h1 c;have m:i<s:=by simp[a] at c;omega
  have:=Aq hk l j (o+i) h oo;rw[List.getElem?_eq_getElem oo] at this;simp at this ⊢;rw[Array.getElem?_eq_getElem oo] at this;have e:=tB this;rw[<-e];congr 1;omega
def One(q:List ((Nat×Nat)×Nat)): Prop := ∀p∈q,p.2=1
theorem One.put(h:One Y)(u:Nat×Nat): One (Va Y u 1):=by
 intro p a;rcases BQ a with rfl|a
 ·rfl
 exact h p a
theorem One.get(h:One Y)(u:Nat×Nat): (Zo Y u).getD 0<=1:=by
 cases a:Zo Y u with
 | none=>exact cX _
 | some y=>exact uz (h _ (Ev a))
def opn(l:List (Nat×Nat×Nat))(q:List ((Nat×Nat)×Nat)): Nat:=(l.filter (λt=>decide ((Zo q (Zg t.2.1 t.2.2)).getD 0=0))).length
theorem filter_lt{α:Type}{p r:α->Bool}(h:∀x,r x=true->p x=true): ∀ {l:List α} {y:α},y∈l->p y=true->r y=false->(l.filter r).length<(l.filter p).length
 | x::l,y,hm,a,hr=>by
  have hle:(l.filter r).length<=(l.filter p).length:=by
   clear hm;induction l with
   | nil=>exact aZ _
   | cons z l b =>
    rw[lf,lf];by_cases h1:r z=true
    ·rw[if_pos h1,if_pos (h z h1)];simp only[dc];omega
    rw[if_neg h1];split<;>(try simp only[dc])<;>omega
  rcases List.mem_cons.1 hm with rfl|hm
  ·rw[lf,lf,if_neg (by rw[hr];decide),if_pos a,dc];omega
  have:=filter_lt h hm a hr;rw[lf,lf];by_cases h1:r x=true
  ·rw[if_pos h1,if_pos (h x h1)];simp only[dc];omega
  rw[if_neg h1];split<;>(try simp only[dc])<;>omega
theorem FZ: (Zo (Va j7 j4 1) j5).getD 0=if j5=j4 then 1 else (Zo j7 j5).getD 0:=by
 induction j7 with
 | nil =>
  by_cases h:j5=j4
  ·simp[Va,Zo,h]
  have a:¬j4=j5:=λe=>h e.symm;simp[Va,Zo,h,a]
 | cons p r b =>
  unfold Va;by_cases h:p.1=j4
  ·rw[if_pos h];by_cases a:j5=j4
   ·simp[Zo,a]
   have:¬p.1=j5:=λe=>a (by rw[<-e,h]);have c:¬j4=j5:=λe=>a e.symm;simp[Zo,a,c,this]
  rw[if_neg h];by_cases a:p.1=j5
  ·have:¬j5=j4:=λe=>h (by rw[a,e]);simp[Zo,a,this]
  simp only[Zo,if_neg a];exact b
theorem my{q:List ((Nat×Nat)×Nat)}(a:z<r.length)(h:((((Zo q (Zg (r.getD z (0,0,0)).2.1 (r.getD z (0,0,0)).2.2)).getD 0:Nat):Int) == 0)=true):
  opn r (Va q (Zg (r.getD z (0,0,0)).2.1 (r.getD z (0,0,0)).2.2) 1)<opn r q:=by
 refine filter_lt (λt ht=>?_) (getD_mem r (d:=(0,0,0)) a) (decide_eq_true (by have:=eq_of_beq h;omega))<|decide_eq_false (by rw[FZ,if_pos I];decide);have h1:=of_decide_eq_true ht;rw[FZ] at h1;split at h1
 ·cases h1
 exact decide_eq_true h1
def Ij(q:List ((Nat×Nat)×Nat))(t:Nat×Nat×Nat): Bool:=decide ((Zo q (Zg t.2.1 t.2.2)).getD 0=0) && decide (0<(Zo q (Zg t.1 t.2.1)).getD 0+(Zo q (Zg t.2.2 t.1)).getD 0)
def ee(T:List (Nat×Nat×Nat)): Nat->List ((Nat×Nat)×Nat)->List ((Nat×Nat)×Nat)
 | 0,q=>q
 | g+1,q=>match T.find? (Ij q) with
  | some t=>ee T g (Va q (Zg t.2.1 t.2.2) 1)
  | none=>q
def Lk(T:List (Nat×Nat×Nat))(l:List Nat): Nat->List ((Nat×Nat)×Nat)
 | 0=>[]
 | j+1=>Va (Lk T l j) (Zg (T.getD (l.getD j 0) (0,0,0)).2.1 (T.getD (l.getD j 0) (0,0,0)).2.2) 1
def NS(T:List (Nat×Nat×Nat))(l:List Nat): List ((Nat×Nat)×Nat):=ee T (opn T (Lk T l l.length)) (Lk T l l.length)
theorem Bz: ee c6 (L+1) j7=match c6.find? (Ij j7) with
  | some t=>ee c6 L (Va j7 (Zg t.2.1 t.2.2) 1)
  | none=>j7:=rfl
theorem I0{t:Nat×Nat×Nat}(ht:t∈r)(hc:Ij Y t=true): opn r (Va Y (Zg t.2.1 t.2.2) 1)<opn r Y:=by
 obtain ⟨i,a,rfl⟩:=List.mem_iff_getElem.1 ht;rw[Ij,cz,decide_eq_true_iff] at hc;have e:r.getD i (0,0,0)=r[i]:=by rw[List.getD_eq_getElem?_getD,List.getElem?_eq_getElem a];rfl
 have:=my (q:=Y) a (by rw[e,hc.1];rfl);rw[e] at this;exact this
theorem UB(T:List (Nat×Nat×Nat)): ∀g q,opn T q<=g->ee T (g+1) q=ee T g q
 | 0,q,h=>by
  rw[Bz];cases hf:T.find? (Ij q) with
  | none=>rfl
  | some t=>have:=I0 (List.mem_of_find?_eq_some hf) (List.find?_some hf);omega
 | g+1,q,h=>by
  rw[Bz T (g+1) q,Bz T g q];cases hf:T.find? (Ij q) with
  | none=>rfl
  | some t=>exact UB T g _ (by have:=I0 (List.mem_of_find?_eq_some hf) (List.find?_some hf);omega)
theorem PH(T:List (Nat×Nat×Nat))(q:List ((Nat×Nat)×Nat)): ∀k,ee T (opn T q+k) q=ee T (opn T q) q
 | 0=>rfl
 | k+1=>by rw[<-gT,UB T _ q oo,PH T q k]
def CloI(T:List (Nat×Nat×Nat))(R q:List ((Nat×Nat)×Nat)): Prop:=ee T (opn T q) q=R
theorem CloI.put(h:CloI r Y j8)(d:z<r.length)(c:∀k,k<z->Ij j8 (r.getD k (0,0,0))=false)(h1:((((Zo j8 (Zg (r.getD z (0,0,0)).2.1 (r.getD z (0,0,0)).2.2)).getD 0:Nat):Int) == 0)=true)(l:decide ((((Zo j8 (Zg (r.getD z (0,0,0)).1 (r.getD z (0,0,0)).2.1)).getD 0+(Zo j8 (Zg (r.getD z (0,0,0)).2.2 (r.getD z (0,0,0)).1)).getD 0:Nat):Int)>0)=true): CloI r Y (Va j8 (Zg (r.getD z (0,0,0)).2.1 (r.getD z (0,0,0)).2.2) 1):=by
 have e:∀k (hk:k<r.length),r.getD k (0,0,0)=r[k]:=λk hk=>by rw[List.getD_eq_getElem?_getD,List.getElem?_eq_getElem hk];rfl
 have hc:Ij j8 (r.getD z (0,0,0))=true:=by
  have a:=eq_of_beq h1;have b:=of_decide_eq_true l;rw[Ij,cz,decide_eq_true_iff,decide_eq_true_iff];omega
 have hf:r.find? (Ij j8)=some (r.getD z (0,0,0)):=by
  rw[e z d] at hc ⊢;refine List.find?_eq_some_iff_getElem.2 ⟨hc,z,d,rfl,λj hj=>?_⟩;have:=c j hj;rw[e j oo] at this;rw[this];rfl
 have f:=I0 (List.mem_of_find?_eq_some hf) hc;unfold CloI at h ⊢;obtain ⟨g,m⟩:∃g,opn r j8=g+1:=⟨opn r j8-1,oo⟩
 rw[m,Bz,hf] at h;obtain ⟨k,hk⟩:=vi (show opn r (Va j8 (Zg (r.getD z (0,0,0)).2.1 (r.getD z (0,0,0)).2.2) 1)<=g by omega);simp only at h;rw[hk,PH] at h;exact h
theorem CloI.done(h:CloI r Y j8)(a:∀k,k<r.length->Ij j8 (r.getD k (0,0,0))=false): j8=Y:=by
 have hf:r.find? (Ij j8)=none:=by
  rw[List.find?_eq_none];intro t ht;obtain ⟨i,b,rfl⟩:=List.mem_iff_getElem.1 ht;have:=a i b;rw[List.getD_eq_getElem?_getD,List.getElem?_eq_getElem b] at this;simp only[et] at this;rw[this];decide
 unfold CloI at h;rw[<-h];cases opn r j8 with
 | zero=>rfl
 | succ g=>rw[Bz,hf]
theorem re(b:∀k,k<z->Ij Y (r.getD k (0,0,0))=false)(h1:((((Zo Y (Zg (r.getD z (0,0,0)).2.1 (r.getD z (0,0,0)).2.2)).getD 0:Nat):Int) == 0)=false): ∀k,k<z+1->Ij Y (r.getD k (0,0,0))=false:=λk hk=>by
 rcases Nat.lt_succ_iff_lt_or_eq.1 hk with h|rfl
 ·exact b k h
 have a:¬(((Zo Y (Zg (r.getD k (0,0,0)).2.1 (r.getD k (0,0,0)).2.2)).getD 0:Nat):Int)=0:=λe=>by rw[e] at h1;cases h1
 rw[Ij,uW];exact .inl (decide_eq_false oo)
theorem rc(a:∀k,k<z->Ij Y (r.getD k (0,0,0))=false)(c:decide ((((Zo Y (Zg (r.getD z (0,0,0)).1 (r.getD z (0,0,0)).2.1)).getD 0+(Zo Y (Zg (r.getD z (0,0,0)).2.2 (r.getD z (0,0,0)).1)).getD 0:Nat):Int)>0)=false): ∀k,k<z+1->Ij Y (r.getD k (0,0,0))=false:=λk hk=>by
 rcases Nat.lt_succ_iff_lt_or_eq.1 hk with h|rfl
 ·exact a k h
 have b:=of_decide_eq_false c;rw[Ij,uW];exact .inr (decide_eq_false oo)
theorem ft(m:Ms)(y D p:Option Addr)(K N L:Nat)(l:List Nat)(ad:Option Addr)(c:Nat)(hl:∀k∈l,k<m.T.length)(hn:l.length<=10000)(h0:0<m.T.length)(hT:m.T.length<=10000): CtrO prog 50 [Qm m y D p K N L,.slice ad l.length c] [Row y (cellsOf encPt m.P),Row D (cellsOf Ze m.T),Row p (cellsOf Ze m.S),Row ad (List.map Qb l)] (λv o => ∃b q,(One q/\q=NS m.T l)/\v=.map (some b)/\o=[(b,mB Zx Qb q)]):=by
 refine fn_introO func50 I ntmps50 nb ?_;intro S w0 a hS h;obtain ⟨e,f,rfl⟩:=h.row_addr (ad:=D) (M:=cellsOf Ze m.T) mm (nE 3);refine gC h<|zS (zx I λO=>za I<|zn<|zc<|zS ?_);clear h;intro a w h;refine Zc<|EM Zx Qb h dd ?_;clear h;intro A a w h;refine gL h<|au 0x82420f431125 ?_;clear h;intro a w h;refine lpG h [2,5,12,13] pkL (λY Z (j:Nat) a w=>j<=l.length /\ ∃(q:List ((Nat×Nat)×Nat)),((One q/\q=Lk m.T l j))/\St 80 S w0 ((14,nI j)::Y) [(A,mB Zx Qb q),(O,bV (Qm m y (some ⟨e,f,none⟩) p K N L) 38)] Z a w) (λj=>l.length-j) 0 (⟨cX _,[],⟨(λ_ h=>nomatch h),rfl⟩,by exact(h).sub sA⟩) ?_;clear h;rintro j a w ⟨V,q,⟨hq,J⟩,h⟩;refine gC h<|au 0x12d31 ?_;intro a w h;refine Zb h I (λs=>?_) (λs=>?_)
 ·have E:j<l.length:=dT s;obtain ⟨U,R,rfl⟩:=h.row_addr (ad:=ad) (M:=List.map Qb l) mm nF;have a1:=hl _ (getD_mem l (d:=0) E);refine gC h<|au 0xe0f31817 ?_;refine zD I mm (by rw[az];omega) isAgg3 sizeOf3 (Zn (enc:=Qb) (l:=l) 0 oo) (.inr I) ?_;refine au 0x00f43125 ?_;refine bbT (λB=>(absurd (of_decide_eq_false B) oo)) λB=>zm I<|zq 20 I I (.move I)<|zq 20 I I (.fA I Bw)<|ldQ 20 Vg ?_;refine zq 20 I I (.builtin [_] I<|Yf _ _ _)<|zq 20 I I (.lss I I) (bbT (λC=>(absurd (of_decide_eq_false C) oo)) λC=>au 0x1e23e ?_);refine yE [0,1,2,3,4,5,6,7,8,9,10,11,12,13,14]<|au 0x02faaf9 ?_;clear h;refine au 0x06f9 ?_;refine yp I (aq (v':=.pointer<|some ⟨e,f+((l.getD j 0)*3+1),none⟩) (.indexAddr I I<|Vi _ _) (by rw[gT])) ?_;refine Zf I kk I mm (EI (k:=3) (enc:=Ze) (λ_=>rfl) m.T (l.getD j 0) 1 oo dd) isAgg3 sizeOf3 (Ko (k:=3) (enc:=Ze) (λ_=>rfl) m.T (0,0,0) (l.getD j 0) oo false 1 1 _ dd dd I) (.inr I) dd ?_;refine au 0x02faaf ?_;refine au 0x06f9 ?_;refine yp I (aq (v':=.pointer<|some ⟨e,f+((l.getD j 0)*3+2),none⟩) (.indexAddr I I<|Vh _ _) (by rw[gT])) ?_;refine Zf I kk I mm (EI (k:=3) (enc:=Ze) (λ_=>rfl) m.T (l.getD j 0) 2 oo dd) isAgg3 sizeOf3 (Ko (k:=3) (enc:=Ze) (λ_=>rfl) m.T (0,0,0) (l.getD j 0) oo false 1 2 _ dd dd I) (.inr I) dd ?_;refine yv [_,_] I I call52 (fw ((m.T.getD (l.getD j 0) (0,0,0)).2.1) ((m.T.getD (l.getD j 0) (0,0,0)).2.2)) ?_;refine Yh kk ?_;intro a w h;refine Xj 14 ?_;refine XE h I OV (u:=Zg ((m.T.getD (l.getD j 0) (0,0,0)).2.1) ((m.T.getD (l.getD j 0) (0,0,0)).2.2)) (q:=1) (m:=q) I I I uu ?_;clear h;intro a w h;refine QM kk ?_;refine cW<|gC h<|zr<|zp (.pN (j+1)<|.add I I)<|au 0x24 ?_;clear h;intro a w h;exact⟨j+1,⟨oo,_,⟨hq.put _,by rw[J];rfl⟩,by exact tO h⟩,oo⟩
 have G:l.length=j:=dF s;subst G;refine wp_exit<|wp_seq<|wp_label<|wp_block ?_;refine lpG h [2,5,12,13,14] pkL (λY Z (g:Nat) a w => ∃(q:List ((Nat×Nat)×Nat)),(One q/\opn m.T q=g/\CloI m.T (NS m.T l) q)/\St 80 S w0 Y [(A,mB Zx Qb q),(O,bV (Qm m y (some ⟨e,f,none⟩) p K N L) 38)] Z a w) (λg=>g) (opn m.T q) (⟨q,⟨hq,rfl,by rw[J];rfl⟩,by exact h.sub sA⟩) ?_;clear h;rintro g a w ⟨q,⟨hq,hg,H⟩,h⟩;refine gC h<|au 0x824a0fb0f31f3118 ?_;intro a w h;refine lpG h [2,5,12,13,14,43,44] pkL (λY Z (i:Nat) a w=>i<=m.T.length/\((∀k,k<i->Ij q (m.T.getD k (0,0,0))=false))/\St 80 S w0 ((45,nI i)::Y) [(A,mB Zx Qb q),(O,bV (Qm m y (some ⟨e,f,none⟩) p K N L) 38)] Z a w) (λi=>m.T.length-i) 0 (⟨cX _,(λk hk=>absurd hk<|gS k),by exact(h).sub sA⟩) ?_;clear h;rintro i a w ⟨Q,z,h⟩;refine gC h<|au 0x12d31 ?_;intro a w h;refine Zb h I (λr=>?_) (λr=>?_)
 ·have t:i<m.T.length:=dT r;refine gC h<|au 0x62f31817 ?_;refine zD I mm (cells_lt (k:=3) dd (λ_=>rfl) m.T i oo) isAgg133 sizeOf133 (Zh (k:=3) (λ_=>rfl) ((λ_=>rfl)) m.T (0,0,0) i oo) (.inl I) ?_;refine zz Bj λb9=>stW I I Qi ?_;refine au 0xc1facfb0fbcf312 ?_;refine zv [_,_] I call52 (fw ((m.T.getD i (0,0,0)).2.1) ((m.T.getD i (0,0,0)).2.2)) (zz zeroValue131 λX=>stW I I Zt ?_);refine zn<|zs<|yE [0,1,2,3,4,5,6,7,8,9,12,13,14,15,16,10,11,17,18,19,20,21]<|au 0x51f9 ?_;clear h;refine Es I kk OV (u:=Zg ((m.T.getD i (0,0,0)).2.1) ((m.T.getD i (0,0,0)).2.2)) (m:=q) I I mm dd ?_;refine yp I (.eql I I) ?_;refine Jn (λn  =>?_) (λn  =>?_)
  ·refine au 0xd4f9 ?_;refine yq I I I (.indexAddr I I<|AO _ _)<|yg I I I I mr isAgg3 sizeOf3 Da ?_;refine yq I I I (.indexAddr I I<|Vi _ _)<|yg I I I I mr isAgg3 sizeOf3 Vg ?_;refine au 0xd4f ?_;refine yq I I I (.indexAddr I I<|Vh _ _)<|yg I I I I mr isAgg3 sizeOf3 Gl ?_;refine yq I I I (.indexAddr I I<|AO _ _)<|yg I I I I mr isAgg3 sizeOf3 Da ?_;refine Xp I I I kk (vs:=[_,_]) I call52 (fw ((m.T.getD i (0,0,0)).1) ((m.T.getD i (0,0,0)).2.1)) dd ?_;refine Pi I I I kk OV (u:=Zg ((m.T.getD i (0,0,0)).1) ((m.T.getD i (0,0,0)).2.1)) (m:=q) I I mm dd ?_;refine Xp I I I kk (vs:=[_,_]) I call52 (fw ((m.T.getD i (0,0,0)).2.2) ((m.T.getD i (0,0,0)).1)) dd ?_;refine Pi I I I kk OV (u:=Zg ((m.T.getD i (0,0,0)).2.2) ((m.T.getD i (0,0,0)).1)) (m:=q) I I mm dd ?_;refine yq I I I (.pN (((Zo q<|Zg ((m.T.getD i (0,0,0)).1) ((m.T.getD i (0,0,0)).2.1)).getD 0)+((Zo q<|Zg ((m.T.getD i (0,0,0)).2.2) ((m.T.getD i (0,0,0)).1)).getD 0))<|.binOp I I (λ_=>Jt _ _ _ _ _<|wrap_i64 _ (by have q1:=hq.get<|Zg (m.T.getD i (0,0,0)).1 (m.T.getD i (0,0,0)).2.1;have q2:=hq.get<|Zg (m.T.getD i (0,0,0)).2.2 (m.T.getD i (0,0,0)).1;omega) (by have q1:=hq.get<|Zg (m.T.getD i (0,0,0)).1 (m.T.getD i (0,0,0)).2.1;have q2:=hq.get<|Zg (m.T.getD i (0,0,0)).2.2 (m.T.getD i (0,0,0)).1;omega)))<|yq I I I (.gtr I I) ?_;refine Jn (λx  =>?_) (λx  =>?_)
   ·refine au 0x5e4311ea76f ?_;intro a w h;refine Zc<|HY h OV (u:=Zg ((m.T.getD i (0,0,0)).2.1) ((m.T.getD i (0,0,0)).2.2)) (q:=1) (m:=q) I I I uu ?_;clear h;intro a w h;refine wpList_nil<|wp_exit ?_;have W:=my t n;exact⟨opn m.T (Va q (Zg ((m.T.getD i (0,0,0)).2.1) ((m.T.getD i (0,0,0)).2.2)) 1),⟨_,⟨hq.put _,rfl,H.put t z n x⟩,by exact tO h⟩,oo⟩
   refine au 0x37ca76f ?_;refine zp (.pN (i+1)<|.add I I)<|au 0x24 ?_;intro a w h;exact⟨i+1,⟨oo,(rc z x),tO h⟩,oo⟩
  refine au 0x37caf4f22f22f22f22f22f22f22f22f22f22f22f22f22f22f22f22f9 ?_;refine zp (.pN (i+1)<|.add I I)<|au 0x24 ?_;intro a w h;exact⟨i+1,⟨oo,(re z n),tO h⟩,oo⟩
 have F:m.T.length=i:=dF r;subst F;refine gC h<|au 0x6254310e ?_;clear h;intro a w h;exact HV h (Zd h I (.tmp I)) ⟨A,q,⟨hq,H.done z⟩,rfl,rfl⟩ (List.Sublist.cons_cons _ (vl _))
theorem C_Bis1(m:Ms)(f d g:Option Addr)(l i n k b o:Nat)(hk:k<m.T.length)(hT:m.T.length<=10000): Xi prog 48 [.int .i64 ((k:Nat):Int),.pointer (some ⟨b,o,none⟩)] [Row (some ⟨b,o,none⟩) (Value.cells (Qm m f d g l i n)).toList] (.bool false):=by
 refine fnI func48 I ntmps48 λS w0 p=>au 0xd4312531 ?_;refine bbF (λe=>(absurd (of_decide_eq_true e) oo)) λe=>zm I<|zq 6 I I (.move I)<|zq 6 I I (.fA I Bw) ?_;intro a w h;refine Zq 6 h I I<|Xm h (b:=b) (off:=o) (j:=1) (M:=(Value.cells<|Qm m f d g l i n).toList) (v:=.slice d m.T.length i) I mm nb isAgg35 sizeOf35 I (.inr I) dd ?_;clear h;intro a h;refine gL h<|zq 6 I I (.builtin [_] I<|Yf _ _ _)<|zq 6 I I (.geq I I) (bbF (λc=>(absurd (of_decide_eq_true c) oo)) λc=>au 0x6252e ?_);refine rtK I
theorem sQ(m:Ms)(j p n:Option Addr)(q v s:Nat)(l:List Nat)(ad:Option Addr)(c b o:Nat)(y:l.length<=1000000)(hl:∀k∈l,k<m.T.length)(hT:m.T.length<=10000): Xi prog 123 [.slice ad l.length c,.func (.func 48) #[] #[.pointer (some ⟨b,o,none⟩)]] [Row ad (List.map Qb l),Row (some ⟨b,o,none⟩) (Value.cells (Qm m j p n q v s)).toList] (.int .i64 (-1)):=by
 refine fnI func123 I ntmps123 λS w0 x=>au 0x82420f43112531 ?_;intro a w h;refine lpG h [0,1,7] pkL (λY Z (i:Nat) a w=>i<=l.length/\St 19 S w0 ((8,nI i)::Y) [] Z a w) (λi=>l.length-i) 0 (⟨cX _,by exact(h).sub sA⟩) ?_;clear h;rintro i a w ⟨t,h⟩;refine gC h<|au 0x12d31 ?_;intro a w h;refine Zb h I (λe=>?_) (λe=>?_)
 ·have g:i<l.length:=dT e;obtain ⟨u,r,rfl⟩:=h.row_addr (ad:=ad) (M:=List.map Qb l) mm nF;refine gC h<|au 0xe0f4443125431817 ?_;refine zD I mm (by rw[az];omega) isAgg3 sizeOf3 (Zn (enc:=Qb) (l:=l) 0 oo) (.inr I) ?_;clear h;intro a w h;refine Zc<|Xs h (fs:=[]) (cs:=[.pointer (some ⟨b,o,none⟩)]) I (vs:=[_]) I call48 (C_Bis1 m j p n q v s (l.getD i 0) b o (hl _<|getD_mem l g) hT) ss dd ?_;clear h;intro a w h;refine Zi h (λd h=>(by exfalso;cases d)) (λd h=>?_);refine wpList_nil<|cW<|Zj h I<|gC h<|zk<|zr<|zp (.pN (i+1)<|.add I I)<|au 0x24 ?_;clear h;intro a w h;exact⟨i+1,⟨oo,tO h⟩,oo⟩
 have f:l.length=i:=dF e;subst f;refine gC h<|au 0x625310e ?_;refine rtK I
theorem ta(m:Ms)(a e d:Option Addr)(f h g:Nat)(l:List Nat)(ad:Option Addr)(c b o:Nat)(i:l.length<=1000000)(hl:∀k∈l,k<m.T.length)(hT:m.T.length<=10000): Xi prog 47 [.slice ad l.length c,.func (.func 48) #[] #[.pointer (some ⟨b,o,none⟩)]] [Row ad (List.map Qb l),Row (some ⟨b,o,none⟩) (Value.cells (Qm m a e d f h g)).toList] (.bool false):=by
 refine fnI func47 I ntmps47 λS w0 j=>au 0x44312531 ?_;refine zw [_,_] I call123 (sQ m a e d f h g l _ _ b o i hl hT)<|au 0x62500f ?_;refine rtK I
theorem DC: (Go.builtin .len #[83] e1 e2 #[.slice E L e]).run prog b7=.ok (.value (.int .i64 L)) b7:=by
 simp[go_sem]
theorem O3: (Go.builtin .len #[84] e1 e2 #[.slice E L e]).run prog b7=.ok (.value (.int .i64 L)) b7:=by
 simp[go_sem]
theorem kG: (Instr.buildSlice 51 0 [].toArray).run prog b7=.ok (.slice (some ⟨b7.heap.size,0,none⟩) 0 0) (b7.alloc (.cells #[] 79 (0,0))):=by
 simp[go_sem]
theorem UW(a:L<=e): Jk prog 23 [.slice E L e] (.slice E L L):=by
 refine fnI func23 I ntmps23 λS w0 b=>au 0xf8f4f8f44312531 ?_;refine zp (.slice I none (some _) (some _) I I I (λw=>Yd runUnderlying51 sizeOf79 _ _ _ a w))<|za I<|zn<|zt<|rtK I
theorem UU(a:L<=e): Jk prog 80 [.slice E L e] (.slice E L L):=by
 refine fnI func80 I ntmps80 λS w0 b=>au 0x44312531 ?_;refine zp (.builtin [_] I<|DC _ _ _)<|zm I<|zp (.builtin [_] I<|DC _ _ _)<|zp (.slice I none (some _) (some _) I I I (λw=>Yd runUnderlying83 sizeOf61 _ _ _ a w))<|za I<|zn<|zt<|rtK I
theorem UV(a:L<=e): Jk prog 82 [.slice E L e] (.slice E L L):=by
 refine fnI func82 I ntmps82 λS w0 b=>au 0xe8f4e8f44312531 ?_;refine zp (.slice I none (some _) (some _) I I I (λw=>Yd runUnderlying84 sizeOf130 _ _ _ a w))<|za I<|zn<|zt<|rtK I
theorem F5:∀l:List Gv,(cellsOf Jo l).all flat=true
 | []=>rfl
 | x::l=>by rw[show cellsOf Jo (x::l)=(Jo x).cells.toList++cellsOf Jo l from rfl,u4,F5 l];rfl
theorem jW: RN (do eqGuard .eql 51 h4 h5 (.slice (some ⟨L,e,none⟩) c7 b9) (.slice none 0 0);Go.binOp .eql 51 (.slice (some ⟨L,e,none⟩) c7 b9) (.slice none 0 0):Sem Value) (.bool false):=λw=>by
 simp[go_sem];have a:(Op.equalIn 10000 51 (.slice (some ⟨L,e,none⟩) c7 b9) (.slice none 0 0)).run prog w=.ok false w:=by
  rw[show(10000:Nat)=9999+1 from rfl,Op.equalIn];simp[go_sem]
 show(do pure (.bool (<-Op.equal 51 _ _)):Sem Value).run prog w=_;unfold Op.equal;simp only[bl];rw[show Op.maxDepth=10000 from rfl,a];rfl
theorem fS(l:List Gv)(r:l.length<=1000000): CtrO prog 24 [.slice (some ⟨L,e,none⟩) l.length c7] [Row (some ⟨L,e,none⟩) (cellsOf Jo l)]
   (λv f => ∃i g R,v=.slice (some ⟨i,0,none⟩) l.length g/\l.length<=g/\f=[(i,.cells (cellsOf Jo l++R).toArray 79 (0,0))]):=by
 refine fn_introO func24 I ntmps24 nb ?_;intro S w0 a q h;refine gC h<|au 0x43112531 ?_;refine zp (.binOp I I<|jW _ _ _ _ _ _) ?_;clear h;intro a w h;refine Zi h (λd h=>(by exfalso;cases d)) (λd h=>?_);refine wpList_nil<|cW<|Zj h I<|gC h<|zk<|zS (zB [] I (kG) λm=>zm I ?_);clear h;intro a w h;refine Zc<|Gw (b:=m) (xs:=[]) (ys:=cellsOf Jo l) (ad2:=some ⟨L,e,none⟩) (k:=5) h I I mm I runUnderlying51 runUnderlying51 typeInfo79 sizeOf79 Dl I dd dd (by exact cellsOf_length (k:=5) (λ_=>rfl) l) (F5 _) (by show 88*(2*_+192)<=281474976710656;omega) dd ?_;clear h;intro j n p a w s h;rw[ca,ec] at h;rw[ca] at s;refine gL h<|au 0x625 ?_;clear h;intro a w h;exact HV h (Zd h I (.tmp I)) ⟨j,n,p,rfl,s,rfl⟩ (fT _)
abbrev Ent:=Nat×List Nat×Option Addr×Nat×List (Nat×Obj)
abbrev v3(e:Ent): Option Addr×Nat×Nat:=(e.2.2.1,e.2.1.length,e.2.2.2.1)
abbrev Ny(v:Option Addr×Nat×Nat): Value:=.slice v.1 v.2.1 v.2.2
def Cn(q:List Ent): List (Nat×(Option Addr×Nat×Nat)):=q.map λe=>(e.1,v3 e)
def OM:List Ent->List (Nat×Obj)
 | []=>[]
 | e::q=>e.2.2.2.2++OM q
def OkE(e:Ent): Prop:=GrowO 1 3 (.slice e.2.2.1 e.2.1.length e.2.2.2.1) e.2.1.length (List.map Qb e.2.1) e.2.2.2.2
def OkAT(q:List Ent): Prop := ∀e∈q,OkE e
def lkA:List Ent->Nat->List Nat
 | [],_=>[]
 | e::q,p=>if e.1=p then e.2.1 else lkA q p
theorem eD:∀ {q:List Ent},OkAT q -> ∀p:Nat,∃(a:Option Addr) (c:Nat) (o r:List (Nat×Obj)),
  (OM q).Perm (o++r)/\GrowO 1 3 (.slice a (lkA q p).length c) (lkA q p).length (List.map Qb (lkA q p)) o/\(Zo (Cn q) p).getD (none,0,0)=(a,(lkA q p).length,c) /\
  ∀(l':List Nat) (f:Option Addr) (g:Nat) (o':List (Nat×Obj)),GrowO 1 3 (.slice f l'.length g) l'.length (List.map Qb l') o' ->
   ∃i,OkAT i/\Va (Cn q) p (f,l'.length,g)=Cn i/\(OM i).Perm (o'++r) /\ ∀b,lkA i b=if b=p then l' else lkA q b
 | [],_,p=>by
  refine⟨none,0,[],[],cr _,GrowO.nil _ _,rfl,λl' f g o' j=>⟨[(p,l',f,g,o')],λe he=>?_,rfl,cr _,λb=>?_⟩⟩
  ·rw[da] at he;subst he;exact j
  by_cases h:b=p
  ·rw[if_pos h,h];exact if_pos rfl
  rw[if_neg h];exact if_neg λe=>h e.symm
 | e::q,hq,p=>by
  by_cases d:e.1=p
  ·have hl:lkA (e::q) p=e.2.1:=if_pos d;rw[hl];refine⟨e.2.2.1,e.2.2.2.1,e.2.2.2.2,OM q,cr _,hq e (List.Mem.head _),?_,λl' f g o' j=>⟨(p,l',f,g,o')::q,λx hx=>?_,?_,cr _,λb=>?_⟩⟩
   ·show(Zo ((e.1,v3 e)::Cn q) p).getD _=_;rw[Zo,if_pos d];rfl
   ·rcases List.mem_cons.1 hx with rfl|hx
    ·exact j
    exact hq x (List.Mem.tail _ hx)
   ·show Va ((e.1,v3 e)::Cn q) p _=_;rw[Va,if_pos d];rfl
   by_cases h:b=p
   ·rw[if_pos h,h];exact if_pos rfl
   rw[if_neg h];show(if p=b then _ else lkA q b)=(if e.1=b then _ else lkA q b)
   rw[if_neg λe=>h e.symm,if_neg λk=>h (by rw[<-k,d])]
  have hl:lkA (e::q) p=lkA q p:=if_neg d;rw[hl];obtain ⟨a,c,o,r,h1,l,n,m⟩:=eD (q:=q) (λx hx=>hq x (List.Mem.tail _ hx)) p;refine⟨a,c,o,e.2.2.2.2++r,?_,l,?_,λl' f g o' j=>?_⟩
  ·refine(s8 _ h1).trans ?_;rw[<-cv, <-cv];exact vq _ uV
  ·show(Zo ((e.1,v3 e)::Cn q) p).getD _=_;rw[Zo,if_neg d];exact n
  obtain ⟨i,k1,k2,k3,k4⟩:=m l' f g o' j;refine⟨e::i,λx hx=>?_,?_,?_,λb=>?_⟩
  ·rcases List.mem_cons.1 hx with rfl|hx
   ·exact hq _ (List.Mem.head _)
   exact k1 x hx
  ·show Va ((e.1,v3 e)::Cn q) p _=_;rw[Va,if_neg d,k2];rfl
  ·refine(s8 _ k3).trans ?_;rw[<-cv, <-cv];exact vq _ uV
  show(if e.1=b then _ else lkA i b)=if b=p then l' else (if e.1=b then _ else lkA q b)
  by_cases h:b=p
  ·rw[if_pos h,if_neg λk=>d (by rw[k,h]),k4,if_pos h]
  rw[if_neg h,k4,if_neg h]
abbrev rowE(e:Ent): Zs:=Row e.2.2.1 (List.map Qb e.2.1)
theorem S7{n:Nat}{S:Nat->Prop}{w0:World}{L:List (Nat×Value)}(b:∀k,S k->k<w0.heap.size): ∀ {q:List Ent} {σ:List (Nat×Obj)} {Φ:List Zs} {a:Act} {w:World},OkAT q->St n S w0 L (OM q++σ) Φ a w->St n S w0 L σ (Vr (q.map rowE)::Φ) a w
 | [],σ,Φ,a,w,_,h=>h.gatherR (l:=[]) (λ_ hx=>nomatch hx)
 | e::q,σ,Φ,a,w,hq,h=>by
  have h1:St n S w0 L (e.2.2.2.2++(OM q++σ)) Φ a w:=by rw[<-cv];exact h
  have c:=h1.shareO' b (hq e (List.Mem.head _));have g:=S7 b (λx hx=>hq x (List.Mem.tail _ hx)) c;have d:=g.gatherR (l:=[rowE e]) (λx hx=>by rw[da] at hx;subst hx;exact List.Mem.tail _ (List.Mem.head _));have f:=d.joinR (l:=[rowE e]) (k:=q.map rowE) (List.Mem.head _) (List.Mem.tail _ (List.Mem.head _));exact f.factsSub (λR hR=>by
   rcases List.mem_cons.1 hR with rfl|hR
   ·exact List.Mem.head _
   exact List.Mem.tail _ (List.Mem.tail _ (List.Mem.tail _ (List.Mem.tail _ hR))))
theorem np:∀ {q:List Ent} {p:Nat},lkA q p≠[] -> ∃a c,(Zo (Cn q) p).getD (none,0,0)=(a,(lkA q p).length,c)/\Row a (List.map Qb (lkA q p))∈q.map rowE
 | [],p,h=>absurd rfl h
 | e::q,p,h=>by
  by_cases b:e.1=p
  ·have hl:lkA (e::q) p=e.2.1:=if_pos b;rw[hl];refine⟨e.2.2.1,e.2.2.2.1,?_,List.Mem.head _⟩;show(Zo ((e.1,v3 e)::Cn q) p).getD _=_;rw[Zo,if_pos b];rfl
  have hl:lkA (e::q) p=lkA q p:=if_neg b;rw[hl] at h ⊢;obtain ⟨a,c,h1,d⟩:=np h;refine⟨a,c,?_,List.Mem.tail _ d⟩;show(Zo ((e.1,v3 e)::Cn q) p).getD _=_;rw[Zo,if_neg b];exact h1
abbrev trT(T:List (Nat×Nat×Nat))(i:Nat): Nat×Nat×Nat:=T.getD i (0,0,0)
structure AtC(T:List (Nat×Nat×Nat))(q:List Ent)(i j:Nat): Prop where
 ok:OkAT q
 lt:∀p,∀o∈lkA q p,o<T.length
 mem:∀t j',j'<3->(t<i\/t=i/\j'<j)->t∈lkA q (crn (trT T t) j')
 len:∀p,(lkA q p).length<=3*i+j
theorem AtC.nil(T:List (Nat×Nat×Nat)): AtC T [] 0 0:=⟨λ_ h=>(nomatch h),λ_ _ h=>(nomatch h),λt a _ h=>by omega,λp=>aZ _⟩
theorem AtC.step{q c:List Ent}(h:AtC r q z s)(g:z<r.length)(ok:OkAT c)(hr:∀b,lkA c b=if b=crn (trT r z) s then lkA q (crn (trT r z) s)++[z] else lkA q b): AtC r c z (s+1):=by
 refine⟨ok,λp o ho=>?_,λt d a ht=>?_,λp=>?_⟩
 ·rw[hr] at ho;split at ho
  ·rcases List.mem_append.1 ho with ho|ho
   ·exact h.lt _ _ ho
   rw[da] at ho;rw[ho];exact g
  exact h.lt _ _ ho
 ·rw[hr];by_cases e:t=z/\d=s
  ·obtain ⟨rfl,rfl⟩:=e;rw[if_pos rfl];simp
  have:=h.mem t d a oo;split
  ·rename_i f;rw[f] at this;exact hI _ this
  exact this
 rw[hr];split
 ·have:=h.len (crn (trT r z) s);rw[bd,iA];omega
 have:=h.len p;omega
theorem AtC.next{q:List Ent}(h:AtC r q z 3): AtC r q (z+1) 0 :=
 ⟨h.ok,h.lt,λt b a ht=>h.mem t b a oo,λp=>by have:=h.len p;omega⟩
def AdjT(T:List (Nat×Nat×Nat))(o o':Nat): Prop := ∃j j',j<3/\j'<3/\crn (trT T o) j=crn (trT T o') j'
def WJ(T:List (Nat×Nat×Nat)): Prop := ∀X:Nat->Prop,X 0->(∀o o',o<T.length->o'<T.length->X o->AdjT T o o'->X o') -> ∀o,o<T.length->X o
def kt(l:List Int): Nat:=(l.filter (· == -1)).length
theorem NR:∀ {l:List Int} {o:Nat},o<l.length->l.getD o 0 = -1->kt (l.set o 0)+1=kt l
 | [],o,h,_=>absurd h (gS _)
 | x::l,0,_,h=>by
  have hx:x = -1:=h;subst hx;simp[kt]
 | x::l,o+1,h,h1=>by
  have a:=NR (l:=l) (o:=o) (by simpa using h) (by simpa using h1);show kt (x::l.set o 0)+1=kt (x::l);unfold kt at a ⊢;rw[lf,lf];split
  ·simp only[dc];omega
  exact a
theorem DK(h:X.getD s 0=0): (X.set z 0).getD s 0=0:=by
 simp only[List.getD] at h ⊢;rw[List.getElem?_set];split
 ·split<;>simp
 exact h
theorem Bt(h:z<X.length)(v:Int): (X.set z v).getD z 0=v:=by simp[List.getD,h]
theorem DJ(h:s≠z): (X.set z W).getD s 0=X.getD s 0:=by
 simp only[List.getD];rw[List.getElem?_set_ne (λe=>h e.symm)]
structure BF(T:List (Nat×Nat×Nat))(g k:Nat)(l:List Int)(td:List Nat): Prop where
 len:l.length=T.length
 val:∀o,o<T.length->l.getD o 0 = -1\/l.getD o 0=0
 tdk:∀x∈td,x<T.length/\l.getD x 0=0
 z0:l.getD 0 0=0
 cl:∀o,o<T.length->l.getD o 0=0->o∉td->o≠k -> ∀o',o'<T.length->AdjT T o o'->l.getD o' 0=0
 ms:2*kt l+td.length<=g
theorem BF.pop(h:BF r z r.length X (b8++[s])): BF r (z-1) s X b8:=by
 refine⟨h.len,h.val,λx hx=>h.tdk x (hI _ hx),h.z0,λo ho d h1 c o' a ha=>h.cl o ho d (λhm=>?_) oo o' a ha,?_⟩
 ·rcases List.mem_append.1 hm with hm|hm
  ·exact h1 hm
  exact c (List.mem_singleton.1 hm)
 have:=h.ms;rw[bd,iA] at this;omega
theorem cut_G{b:Nat}(hR:(List.map Qb (b8++[c4])++e7).length=s*1)(hc:(b8++[c4]).length<=s):
  GrowO 1 3 (.slice (some ⟨b,0,none⟩) b8.length s) b8.length (List.map Qb b8) [(b,Obj.cells (List.map Qb (b8++[c4])++e7).toArray 3 (0,0))]:=by
 have e:List.map Qb (b8++[c4])++e7=List.map Qb b8++(Qb c4::e7):=by rw[dv,cv];rfl
 rw[e] at hR ⊢;rw[bd,iA] at hc;exact⟨by rw[az,vw],.inr ⟨b,s,_,rfl,hR,oo,rfl⟩⟩
theorem oe(h:0<b8.length): ∃c k,b8=c++[k]:=by
 rcases List.eq_nil_or_concat b8 with e|⟨a,k,e⟩
 ·rw[e] at h;cases h
 exact⟨a,k,by simpa using e⟩
theorem TA{a o r s:List b5}(h:a.Perm (o++r)): (a++s).Perm (o++(r++s)):=by rw[<-cv];exact h.append_right s
theorem bL(hj:L<3): RN (Instr.index 133 (Ze b6) (.int .i64 ((L:Nat):Int))) (.int .i64 ((crn b6 L:Nat):Int)):=λw=>by
 have:L=0\/L=1\/L=2:=oo;rcases this with rfl|rfl|rfl<;>(unfold Instr.index;simp[go_sem,crn])
theorem BF.mark(h:BF r z s X b8)(ho:c4<r.length)(hm:X.getD c4 0 = -1): BF r z s (X.set c4 0) (b8++[c4]):=by
 have hl:c4<X.length:=by rw[h.len];exact ho
 refine⟨by rw[ea,h.len],λx hx=>?_,λx hx=>?_,DK h.z0,λx hx d h1 f o' b ha=>?_,?_⟩
 ·by_cases e:x=c4
  ·subst e;right;rw[Bt hl]
  rw[DJ _ e];exact h.val x hx
 ·rcases List.mem_append.1 hx with hx|hx
  ·exact⟨(h.tdk x hx).1,DK (h.tdk x hx).2⟩
  rw[da] at hx;subst hx;exact⟨ho,Bt hl 0⟩
 ·have a:x≠c4:=λe=>h1 (by rw[e];simp);rw[DJ _ a] at d;exact DK (h.cl x hx d (λhm=>h1 (hI _ hm)) f o' b ha)
 have:=h.ms;have:=NR hl hm;rw[bd];simp;omega
theorem BF.close{k:Nat}{q:List Ent}(h:BF r z k X b8)(ha:AtC r q r.length 0)(f:∀j,j<3 -> ∀o∈lkA q (crn (trT r k) j),X.getD o 0=0): BF r z r.length X b8 :=
 ⟨h.len,h.val,h.tdk,h.z0,λo ho m h1 _ o' b a=>by
  by_cases e:o=k
  ·subst e;obtain ⟨j,i,hj,c,he⟩:=a;exact f j hj o' (by rw[he];exact ha.mem o' i c (.inl b))
  exact h.cl o ho m h1 e o' b a,h.ms⟩
theorem BF.done(h:BF r z r.length X [])(hc:WJ r): X=List.replicate r.length 0:=by
 have h1:=hc (λo=>o<r.length->X.getD o 0=0) (λ_=>h.z0) (λo o' ho b hx ha _=>h.cl o ho (hx ho) (λh=>nomatch h) oo o' b ha);apply uY
 ·rw[h.len,hW]
 intro i a c;have:=h1 i (by rw[<-h.len];exact a) (by rw[<-h.len];exact a);simp only[List.getD,List.getElem?_eq_getElem a,et] at this;rw[this,wK]
theorem BF.start(h:0<r.length): BF r (2*r.length) r.length ((List.replicate r.length (-1:Int)).set 0 0) [0]:=by
 have a:0<(List.replicate r.length (-1:Int)).length:=by simpa using h
 have b:∀o,o<r.length->(List.replicate r.length (-1:Int)).getD o 0 = -1:=λo ho=>by simp[List.getD,ho]
 have hc:kt (List.replicate r.length (-1:Int))=r.length:=by simp[kt]
 have h1:=NR a (b 0 h);refine⟨by simp,λo ho=>?_,λx hx=>?_,Bt a 0,λo ho c d _=>?_,?_⟩
 ·by_cases e:o=0
  ·subst e;right;exact Bt a 0
  left;rw[DJ _ e];exact b o ho
 ·rw[da] at hx;subst hx;exact⟨h,Bt a 0⟩
 ·have e:o≠0:=λe=>d (by rw[e];simp);rw[DJ _ e,b o ho] at c;cases c
 simp only[dc,oT];omega
structure BG(T:List (Nat×Nat×Nat))(q:List Ent)(g k j i:Nat)(l:List Int)(td:List Nat): Prop where
 bf:BF T g k l td
 c:∀j',j'<j -> ∀o∈lkA q (crn (trT T k) j'),l.getD o 0=0
 o:∀i',i'<i->l.getD ((lkA q (crn (trT T k) j)).getD i' 0) 0=0
theorem BG.mark{q:List Ent}(h:BG r q z s c4 j9 X b8)(ho:(lkA q (crn (trT r s) c4)).getD j9 0<r.length)(hm:X.getD ((lkA q (crn (trT r s) c4)).getD j9 0) 0<0):
  BG r q z s c4 (j9+1) (X.set ((lkA q (crn (trT r s) c4)).getD j9 0) 0) (b8++[(lkA q (crn (trT r s) c4)).getD j9 0]):=by
 have a:=(h.bf.val _ ho).resolve_right oo;refine⟨h.bf.mark ho a,λf hj o ho=>DK (h.c f hj o ho),λd m=>?_⟩;by_cases e:d=j9
 ·subst e;exact Bt (by rw[h.bf.len];exact ho) 0
 exact DK (h.o d oo)
theorem BG.skip{q:List Ent}(h:BG r q z s c4 j9 X b8)(ho:(lkA q (crn (trT r s) c4)).getD j9 0<r.length)(hm:¬X.getD ((lkA q (crn (trT r s) c4)).getD j9 0) 0<0):
  BG r q z s c4 (j9+1) X b8:=by
 have a:=(h.bf.val _ ho).resolve_left oo;refine⟨h.bf,h.c,λb f=>?_⟩;by_cases e:b=j9
 ·subst e;exact a
 exact h.o b oo
theorem BG.next{q:List Ent}(h:BG r q z s c4 (lkA q (crn (trT r s) c4)).length X b8): BG r q z s (c4+1) 0 X b8:=by
 refine⟨h.bf,λd hj o ho=>?_,λa b=>absurd b (gS _)⟩;by_cases e:d=c4
 ·subst e;obtain ⟨a,b,rfl⟩:=List.mem_iff_getElem.1 ho;have:=h.o a b;rwa[show(lkA q (crn (trT r s) d)).getD a 0=(lkA q (crn (trT r s) d))[a] from by rw[List.getD,List.getElem?_eq_getElem b];rfl] at this
 exact h.c d oo o ho
theorem RB: List.map Ib (List.replicate L (0:Int))=CL L (Value.cells (.int .i64 0)).toList:=by
 rw[show(Value.cells (.int .i64 0)).toList=[Value.int .i64 0] from rfl,A3];simp
theorem rI(h:X.length=z)(h1:∀o,o<z->X.getD o 0 = -1): X=List.replicate z (-1):=by
 apply uY
 ·rw[h,hW]
 intro i a b;have:=h1 i oo;simp only[List.getD,List.getElem?_eq_getElem a,et] at this;rw[this,wK]
theorem Ue{ad:Option Addr}{o:List (Nat×Obj)}(h:GrowO z h7 (.slice ad s c4) s e7 o)(hm:0<s):
  ∃b R,ad=some ⟨b,0,none⟩/\(b,Obj.cells (e7++R).toArray h7 (0,0))∈o:=by
 obtain ⟨b,R,h1,a,_,_⟩:=GrowO.open h hm;exact⟨b,R,h1,by rw[a];exact List.Mem.head _⟩
theorem rH(hl:X.length=s)(hr:z<s)(h:∀o,o<z->X.getD o 0 = -1): ∀o,o<z+1->(X.set z (-1)).getD o 0 = -1:=λo ho=>by
 by_cases e:o=z
 ·rw[e];exact Bt oo _
 rw[DJ _ e];exact h o oo
theorem pU:MK prog 356 3 61 Qb (Ny (none,0,0)):=MK.ofInt (q:=.i64) (f:=λx:Nat=>(x:Int)) runUnderlying356 zeroValue61 runUnderlying3 (λx y h=>by omega)
theorem sJ(m:Ms)(x c8 y:Option Addr)(cP cT cS:Nat)(hv:MV L m)(hc:WJ m.T): CtrO prog 226 [Qm m x c8 y cP cT cS] [Row x (cellsOf encPt m.P),Row c8 (cellsOf Ze m.T),Row y (cellsOf Ze m.S)] (λv o => ∃b,v=.tuple #[.slice (some ⟨b,0,none⟩) m.T.length m.T.length,.int .i64 ((1:Nat):Int)]/\o=[(b,.cells (List.map Ib (List.replicate m.T.length 0)).toArray 3 (0,0))]):=by
 have e3:=hv.ne;have l9:=hv.nT;refine fn_introO func226 I ntmps226 nb ?_;intro S w0 a hS h;obtain ⟨n,f,rfl⟩:=h.row_addr (ad:=c8) (M:=cellsOf Ze m.T) mm (nE 3);refine gC h<|zS (zx I λb1=>za I<|za I<|zn<|zc<|au 0xde311 ?_);refine zw [_] I call46 (Cy L m _ _ _ _ _ _ hv)<|au 0x40f ?_;refine bbF (λa7=>(by exfalso;cases a7)) λa7=>zm I<|zq 20 I I (.fA I Bw)<|ldQ 20 Vg ?_;refine zq 20 I I (.builtin [_] I<|Yf _ _ _)<|zq 20 I I (.eql I I) (bbF (λa8=>(by exfalso;have:=eq_of_beq a8;omega)) λa8=>au 0x22e ?_);clear h;intro a w h;refine Zj h I<|wp_skip<|wp_seq<|wp_region_lit ?_;refine Zc<|EM Qb Ny h dd ?_;clear h;intro C a w h;refine gL h<|au 0x824a0fb0f31f31125 ?_;clear h;intro a w h;refine lpG h [1,2,3,4,28,29] pkL (λY Z (i:Nat) a w=>i<=m.T.length /\ ∃(q:List Ent),(AtC m.T q i 0)/\St 128 S w0 ((30,nI i)::Y) ((OM q)++((C,mB Qb Ny<|Cn q)::((b1,bV (Qm m x (some ⟨n,f,none⟩) y cP cT cS) 38)::[]))) Z a w) (λi=>m.T.length-i) 0 (⟨cX _,[],AtC.nil _,by exact(h).sub sA⟩) ?_;clear h;rintro i a w ⟨h0,q,hq,h⟩;refine gC h<|au 0x12d31 ?_;intro a w h;refine Zb h I (λX=>?_) (λX=>?_)
 ·have D:i<m.T.length:=dT X;refine gC h<|au 0x62f431817 ?_;refine zD I mm (cells_lt (k:=3) dd (λ_=>rfl) m.T i oo) isAgg133 sizeOf133 (Zh (k:=3) (λ_=>rfl) ((λ_=>rfl)) m.T (0,0,0) i oo) (.inl I) ?_;refine zz Bj λb6=>za I<|stW I I Qi ?_;refine au 0x824de312 ?_;clear h;intro a w h;replace h:=h.perm uA;refine lpG h [1,2,3,4,5,28,29,30,35] pkL (λY Z (j:Nat) a w=>j<=3 /\ ∃(q2:List Ent),(AtC m.T q2 i j)/\St 128 S w0 ((36,nI j)::Y) ((OM q2)++((b6,bV (Ze<|m.T.getD i (0,0,0)) 133)::((C,mB Qb Ny<|Cn q2)::((b1,bV (Qm m x (some ⟨n,f,none⟩) y cP cT cS) 38)::[])))) Z a w) (λj=>3-j) 0 (⟨cX _,q,hq,by exact h.sub sA⟩) ?_;clear h;rintro j a w ⟨e6,q2,a1,h⟩;refine gC h<|au 0x12d31 ?_;intro a w h;refine Zb h I (λU=>?_) (λU=>?_)
  ·have t:j<3:=dT U;refine gC h<|zk<|zs<|zb<|zS<|zp (.index I I<|bL _ _ t)<|au 0x4444325 ?_;clear h;intro a w h;refine Zc<|OQ h pU (u:=crn (m.T.getD i (0,0,0)) j) (m:=Cn q2) I I mm dd ?_;clear h;intro a h;obtain ⟨a4,c4,o4,r4,i1,j2,j7,j6⟩:=eD a1.ok (crn (m.T.getD i (0,0,0)) j);have n3:=a1.len (crn (m.T.getD i (0,0,0)) j);rw[j7] at h;replace h:=h.perm (TA i1).symm;refine gL h<|zm I (zB [(_,_)] I (Ji _) λl5=>?_);refine apM Qb (lkA q2<|crn (m.T.getD i (0,0,0)) j) [i] j2 ?_;intro h3 j0 n2 e4 a w h;refine Zc<|HY h pU (u:=crn (m.T.getD i (0,0,0)) j) (q:=(h3,((lkA q2<|crn (m.T.getD i (0,0,0)) j)++[i]).length,j0)) (m:=Cn q2) I I I uu ?_;clear h;intro a w h;obtain ⟨q3,c9,e7,j4,j8⟩:=j6 _ _ _ _ e4;have i7:=a1.step D c9 j8;rw[e7] at h;replace h:=h.perm (TA j4);refine gL h<|zn<|zr<|zp (.pN (j+1)<|.add I I)<|au 0x24 ?_;clear h;intro a w h;exact⟨j+1,⟨oo,q3,i7,by exact tO h⟩,oo⟩
  have H:3=j:=dF U;subst H;refine gC h<|ze<|zr<|zp (.pN (i+1)<|.add I I)<|au 0x24 ?_;clear h;intro a w h;exact⟨i+1,⟨oo,q2,a1.next,by exact tO h⟩,oo⟩
 have G:m.T.length=i:=dF X;subst G;replace h:=S7 hS hq.ok h;refine gC h<|au 0xa0fb0f31f310e ?_;clear h;intro a w h;refine Zc<|Qz h I I runUnderlying61 typeInfo3 sizeOf3 zeroValue3 I dd (by exact aZ _) (by show 8*(m.T.length)<=281474976710656;omega) oo dd ?_;clear h;intro J a w h;replace h:=h.same I (by rw[<-RB]) I;refine gL h<|au 0x82420f431125 ?_;intro a w h;refine lpG h [1,2,3,4,28,29,30,54] pkL (λY Z (r:Nat) a w=>r<=m.T.length /\ ∃(l4:List Int),(l4.length=m.T.length /\ ∀o,o<r->l4.getD o 0 = -1)/\St 128 S w0 ((55,nI r)::Y) [(J,.cells (List.map Ib<|l4).toArray 3 (0,0)),(C,mB Qb Ny<|Cn q),(b1,bV (Qm m x (some ⟨n,f,none⟩) y cP cT cS) 38)] Z a w) (λr=>m.T.length-r) 0 (⟨cX _,List.replicate m.T.length 0,⟨hW,λ_ h=>absurd h (gS _)⟩,by exact(h).sub sA⟩) ?_;clear h;rintro r a w ⟨k6,l4,⟨b2,h4⟩,h⟩;refine gC h<|au 0x12d31 ?_;intro a w h;refine Zb h I (λQ=>?_) (λQ=>?_)
 ·have b5:r<m.T.length:=dT Q;refine gC h<|au 0xe0f44325431817 ?_;refine zt' I I ((congrArg (λz=>Zp _ z _)<|ca _).trans<|Jc (enc:=Ib) l4 r (-1)) uu sizeOf3 I (by simp;omega) I ?_;refine zn<|zr<|zp (.pN (r+1)<|.add I I)<|au 0x24 ?_;clear h;intro a w h;exact⟨r+1,⟨oo,_,⟨by rw[ea];exact b2,rH b2 b5 h4⟩,by exact tO h⟩,oo⟩
 have b9:m.T.length=r:=dF Q;subst b9;have i6:=rI b2 h4;subst i6;refine gC h<|ze<|zs<|zl<|au 0x82420f4311 ?_;clear h;intro a w h;refine lpG h [1,2,4,28,29,30,54,55,63] pkL (λY Z (u:Nat) a w=>u<=m.T.length /\ ∃(l6:List Int) (nn:Nat),((u=0/\l6=List.replicate m.T.length (-1)/\nn=0)\/(0<u/\l6=List.replicate m.T.length 0/\nn=1))/\St 128 S w0 ((3,nI nn)::(64,nI u)::Y) [(J,.cells (List.map Ib<|l6).toArray 3 (0,0)),(C,mB Qb Ny<|Cn q),(b1,bV (Qm m x (some ⟨n,f,none⟩) y cP cT cS) 38)] Z a w) (λu=>m.T.length-u) 0 (⟨cX _,List.replicate m.T.length (-1),0,.inl ⟨rfl,rfl,rfl⟩,by exact(h).sub sA⟩) ?_;clear h;rintro u a w ⟨k5,l6,nn,hu,h⟩;refine gC h<|au 0x12d31 ?_;intro a w h;refine Zb h I (λW=>?_) (λW=>?_)
 ·have b4:u<m.T.length:=dT W;have j3:l6.length=m.T.length:=by rcases hu with ⟨_,rfl,_⟩|⟨_,rfl,_⟩<;>exact hW
  refine gC h<|au 0xe0f4431125431817 ?_;refine zd I mm isAgg3 sizeOf3 ((congrArg _<|ca _).trans<|Zn (enc:=Ib) (l:=l6) 0 oo) ?_;refine au 0x200f ?_;clear h;intro a w h;refine Zb h I (λR=>?_) (λR=>?_);focus
   obtain ⟨n5,rfl,rfl⟩:0<u/\l6=List.replicate m.T.length 0/\nn=1:=by
    rcases hu with ⟨rfl,rfl,rfl⟩|hh
    ·exfalso;have:=of_decide_eq_true R;simp[List.getD,e3] at this
    exact hh
   refine gC h<|ze<|zr<|zp (.pN (u+1)<|.add I I)<|au 0x24 ?_;clear h;intro a w h
  rotate_left;focus
   obtain ⟨j1,rfl,rfl⟩:u=0/\l6=List.replicate m.T.length (-1)/\nn=0:=by
    rcases hu with hh|⟨hh,rfl,rfl⟩
    ·exact hh
    exfalso;have:=of_decide_eq_false R;simp[List.getD,b4] at this
   refine gC h<|zk<|zS<|zm I (zB [(_,_)] I (Ji _) λe0=>au 0xe0f4443125 ?_);refine zt' I I ((congrArg (λz=>Zp _ z _)<|ca _).trans<|Jc (enc:=Ib) (((List.replicate m.T.length (-1)))) u 0) uu sizeOf3 I (by simp;omega) I ?_;clear h;intro a w h;refine wpList_nil<|wp_seq<|wp_block ?_;refine lpG h [1,2,3,4,28,29,30,54,55,63,64,76] pkL (λY Z (g:Nat) a w => ∃(l:List Int) (td:List Nat) (e1:Option Addr) (c1:Nat) (o1:List (Nat×Obj)),(g<=2*m.T.length/\BF m.T g m.T.length l td/\GrowO 1 3 (.slice e1 td.length c1) td.length (List.map Qb td) o1)/\St 128 S w0 ((11,(.slice e1 (td).length c1))::Y) (o1++((J,.cells (List.map Ib<|l).toArray 3 (0,0))::((C,mB Qb Ny<|Cn q)::((b1,bV (Qm m x (some ⟨n,f,none⟩) y cP cT cS) 38)::[])))) Z a w) (λg=>g) (2*m.T.length) (⟨(List.replicate m.T.length (-1)).set u 0,[u],some ⟨e0,0,none⟩,1,[(e0,Obj.cells (List.map Qb [u]).toArray 3 (0,0))],⟨aZ _,(by rw[j1];exact BF.start e3),rfl,.inr ⟨e0,1,[],rfl,rfl,aZ _,rfl⟩⟩,by exact h.sub sA⟩) ?_;clear h;rintro g a w ⟨l,td,e1,c1,o1,⟨hg,hB,j5⟩,h⟩;refine gC h<|au 0x2c0f20f4311 ?_;intro a w h;refine Zb h I (λV=>?_) (λV=>?_)
   ·have a6:0<td.length:=dT V;obtain ⟨s,k,rfl⟩:=oe a6;obtain ⟨e9,l8,rfl,rfl,e8,b0⟩:=GrowO.open j5 a6;have h5:=hB.pop;have n4:=hB.ms;obtain ⟨c9,e7⟩:=hB.tdk k ss;have l7:0<g:=by have:=hB.ms;simp only[bd,iA] at this;omega
    refine gC h<|au 0x20f443187 ?_;refine zp (.pO (((s++[k]).length)-1)<|.sub I I) ?_;clear h;intro a w h
    (try dsimp only[nI] at h);rw[show(((s++[k]).length-1:Nat):Int)=((s.length:Nat):Int) from by rw[bd];rfl] at h
    refine gL h<|zp (.indexAddr I I<|FT _ _ _ _ _ (by rw[bd,iA];omega))<|zd I mm isAgg3 sizeOf3 ((congrArg _<|ca _).trans<|Y6 (enc:=Qb) (l:=(s++[k])) 0 (by rw[bd,iA];omega)) ?_;clear h;intro a w h;rw[show(s++[k]).getD s.length 0=k from by simp[List.getD]] at h;refine gL h<|au 0x20f443125 ?_;refine zp (.pO (((s++[k]).length)-1)<|.sub I I) ?_;clear h;intro a w h
    (try dsimp only[nI] at h);rw[show(((s++[k]).length-1:Nat):Int)=((s.length:Nat):Int) from by rw[bd];rfl] at h
    refine gL h<|zp (.slice I none (some _) none I I I<|me _ _ _ _ (by rw[bd] at b0;omega)) ?_;have e5:=cut_G (b:=e9) e8 b0;refine au 0x62f4b0f31f3125 ?_;refine zD I mm (cells_lt (k:=3) dd (λ_=>rfl) m.T k oo) isAgg133 sizeOf133 (Zh (k:=3) (λ_=>rfl) ((λ_=>rfl)) m.T (0,0,0) k oo) (.inl I) ?_;refine au 0x824 ?_;clear h;intro a w h;refine lpG h [1,2,3,4,28,29,30,54,55,63,64,76,96] pkL (λY Z (j:Nat) a w=>j<=3 /\ ∃(l2:List Int) (B:List Nat) (ad2:Option Addr) (c2:Nat) (o2:List (Nat×Obj)),(BG m.T q (g-1) k j 0 l2 B/\GrowO 1 3 (.slice ad2 B.length c2) B.length (List.map Qb B) o2)/\St 128 S w0 ((11,(.slice ad2 (B).length c2))::(97,nI j)::Y) (o2++((J,.cells (List.map Ib<|l2).toArray 3 (0,0))::((C,mB Qb Ny<|Cn q)::((b1,bV (Qm m x (some ⟨n,f,none⟩) y cP cT cS) 38)::[])))) Z a w) (λj=>3-j) 0 (⟨cX _,l,s,some ⟨e9,0,none⟩,c1,_,⟨⟨h5,λ_ h=>absurd h (gS _),λ_ h=>absurd h (gS _)⟩,e5⟩,by exact h.sub sA⟩) ?_;clear h;rintro j a w ⟨e6,l2,B,ad2,c2,o2,⟨b7,h2⟩,h⟩;refine gC h<|au 0x12d31 ?_;intro a w h;refine Zb h I (λN=>?_) (λN=>?_)
    ·have t:j<3:=dT N;refine gC h<|zk<|zs<|zb<|zS<|zp (.index I I<|bL _ _ t)<|au 0x443125 ?_;clear h;intro a w h;refine Zc<|OQ h pU (u:=crn (m.T.getD k (0,0,0)) j) (m:=Cn q) I I mm dd ?_;clear h;intro a h;obtain ⟨a5,c5,j9,h9⟩:=np (q:=q) (p:=crn (m.T.getD k (0,0,0)) j) (λe=>by have:=hq.mem k j t (.inl c9);rw[e] at this;cases this);rw[j9] at h;replace h:=h.pickR (l:=q.map rowE) mm h9;have n9:=hq.len (crn (m.T.getD k (0,0,0)) j);refine gL h<|au 0x82420f ?_;clear h;intro a w h;refine lpG h [1,2,3,4,28,29,30,54,55,63,64,76,96,97,102,103] pkL (λY Z (i:Nat) a w=>i<=(lkA q<|crn (m.T.getD k (0,0,0)) j).length /\ ∃(l3:List Int) (A:List Nat) (K:Option Addr) (c3:Nat) (o3:List (Nat×Obj)),(BG m.T q (g-1) k j i l3 A/\GrowO 1 3 (.slice K A.length c3) A.length (List.map Qb A) o3)/\St 128 S w0 ((11,(.slice K (A).length c3))::(104,nI i)::Y) (o3++((J,.cells (List.map Ib<|l3).toArray 3 (0,0))::((C,mB Qb Ny<|Cn q)::((b1,bV (Qm m x (some ⟨n,f,none⟩) y cP cT cS) 38)::[])))) Z a w) (λi=>(lkA q<|crn (m.T.getD k (0,0,0)) j).length-i) 0 (⟨cX _,l2,B,ad2,c2,o2,⟨b7,h2⟩,by exact h.sub sA⟩) ?_;clear h;rintro i a w ⟨h0,l3,A,K,c3,o3,⟨O,c7⟩,h⟩;refine gC h<|au 0x12d31 ?_;intro a w h;refine Zb h I (λE=>?_) (λE=>?_)
     ·have D:i<(lkA q (crn (m.T.getD k (0,0,0)) j)).length:=dT E;obtain ⟨k9,k7,rfl⟩:=h.row_addr (ad:=a5) (M:=List.map Qb (lkA q (crn (m.T.getD k (0,0,0)) j))) mm nF;have c6:=hq.lt _ _ (getD_mem (lkA q (crn (m.T.getD k (0,0,0)) j)) (d:=0) D);have j3:=O.bf.len;refine gC h<|au 0xe0f31817 ?_;refine zD I mm (by rw[az];omega) isAgg3 sizeOf3 (Zn (enc:=Qb) (l:=(lkA q<|crn (m.T.getD k (0,0,0)) j)) 0 oo) (.inr I) ?_;refine au 0xe0f443125 ?_;refine zd I mm isAgg3 sizeOf3 ((congrArg _<|ca _).trans<|Zn (enc:=Ib) (l:=l3) 0 oo) ?_;refine au 0x2d ?_;clear h;intro a w h;refine Zb h I (λF=>?_) (λF=>?_)
      ·refine gC h<|au 0xe0f44431 ?_;refine zt' I I ((congrArg (λz=>Zp _ z _)<|ca _).trans<|Jc (enc:=Ib) l3 ((lkA q<|crn (m.T.getD k (0,0,0)) j).getD i 0) 0) uu sizeOf3 I (by simp;simp at c6;omega) I ?_;refine au 0x4432 ?_;refine zB [(_,_)] I (Ji _) λk8=>?_;refine apM Qb A [(lkA q<|crn (m.T.getD k (0,0,0)) j).getD i 0] c7 ?_ (hr:=by(try dsimp only);have:=O.bf.ms;omega);intro e2 h7 h6 b8 a w h;refine gL h<|za I<|zn<|zr<|zp (.pN (i+1)<|.add I I)<|au 0x24 ?_;clear h;intro a w h;exact⟨i+1,⟨oo,_,_,e2,h7,h6,⟨O.mark c6 (of_decide_eq_true F),b8⟩,by exact tO h⟩,oo⟩
      refine gC h<|zk<|zr<|zp (.pN (i+1)<|.add I I)<|au 0x24 ?_;clear h;intro a w h;exact⟨i+1,⟨oo,_,_,K,c3,o3,⟨O.skip c6 (of_decide_eq_false F),c7⟩,by exact tO h⟩,oo⟩
     have G:(lkA q (crn (m.T.getD k (0,0,0)) j)).length=i:=dF E;subst G;refine gC h<|ze<|zr<|zp (.pN (j+1)<|.add I I)<|au 0x24 ?_;clear h;intro a w h;exact⟨j+1,⟨oo,l3,A,K,c3,o3,⟨O.next,c7⟩,by exact tO h⟩,oo⟩
    have H:3=j:=dF N;subst H;refine wp_exit ?_;exact⟨g-1,⟨l2,B,ad2,c2,o2,⟨oo,b7.bf.close hq (λj hj=>b7.c j hj),h2⟩,by exact tO h⟩,oo⟩
   have a6:td=[]:=dn (dF V);subst a6;have h8:=hB.done hc;rw[h8] at h;replace h:=h.drop (uE _ _);refine gC h<|ze<|zr<|zm I<|zp (.pN (0+1)<|.add I I)<|za I<|zn<|zr<|zp (.pN (u+1)<|.add I I)<|au 0x24 ?_;clear h;intro a w h
  all_goals
   exact⟨u+1,⟨oo,_,1,.inr ⟨oo,rfl,rfl⟩,by exact tO h⟩,oo⟩
 have b3:m.T.length=u:=dF W;subst b3;obtain ⟨_,rfl,rfl⟩:=hu.resolve_left (λhh=>by have:=hv.ne;omega);refine gC h<|au 0x625544310e ?_;clear h;intro a w h;exact HV h (Qd h I (.tmp I) (.tmp I)) ⟨J,rfl,rfl⟩ (List.Sublist.cons_cons _ (vl _))
theorem oL: Zm false 1 #[A,B,C,h,w,F,H,J,N,O,P,Q,R,S,U,V,Z,a1,a6,a7,a8,b0,b1,b2,b3,b4] 2=some C:=rfl
theorem Xl: Zm true 26 #[A,B,C,h,w,F,H,J,N,O,P,Q,R,S,U,V,Z,a1,a6,a7,a8,b0,b1,b2,b3,b4] 0=some (.agg #[A,B,C,h,w,F,H,J,N,O,P,Q,R,S,U,V,Z,a1,a6,a7,a8,b0,b1,b2,b3,b4]):=by kernel_rfl
theorem Hq: RN (Instr.fieldAt 79 (.pointer (some ⟨z,s,none⟩)) 1) (.pointer (some ⟨z,s+1,none⟩)):=λw=>by
 simp[go_sem]
theorem HT: Zm false 1 #[A,B,C,h,w] 1=some B:=rfl
theorem Y2: Zm false 1 #[A,B,C,h,w,F,H,J,N,O,P,Q,R,S,U,V,Z,a1,a6,a7,a8,b0,b1,b2,b3,b4] 1=some B:=rfl
def ct(p:Pr)(s:Nat×Nat×Nat): Bool:=(Gg p.G s.2.2).2 && (Gg p.G s.2.2).1.fix
def Cr(p:Pr): Bool:=decide (0<p.c) || p.m.S.any (ct p)
theorem Ho{α:Type}{p:α->Bool}: ∀ {l:List α} {i:Nat},(∃x∈l,p x=true) -> ∃j:Nat,CW p l i=((i+j:Nat):Int)/\j<l.length
 | [],_,h=>by obtain ⟨x,hx,_⟩:=h;cases hx
 | y::l,i,h=>by
  rw[CW];by_cases a:p y=true
  ·rw[if_pos a];exact⟨0,rfl,gM _⟩
  rw[if_neg a];obtain ⟨x,hx,b⟩:=h;rcases List.mem_cons.1 hx with rfl|hx
  ·exact absurd b a
  obtain ⟨j,h1,c⟩:=Ho (l:=l) (i:=i+1) ⟨x,hx,b⟩;exact⟨j+1,by rw[h1];congr 1;omega,by rw[dc];omega⟩
theorem bQ{α:Type}(p:α->Bool): ∀(l:List α) (i:Nat),CW p l i = -1\/((i:Nat):Int)<=CW p l i
 | [],_ =>.inl rfl
 | y::l,i=>by
  rw[CW];split
  ·exact .inr (Int.le_refl _)
  rcases bQ p l (i+1) with h|h
  ·exact .inl h
  exact .inr oo
theorem bO{α:Type}{p:α->Bool}: ∀ {l:List α} {i j:Nat} (d:α),CW p l i=((i+j:Nat):Int)->p (l.getD j d)=true
 | [],i,j,d,h=>by rw[CW] at h;omega
 | y::l,i,j,d,h=>by
  rw[CW] at h;by_cases a:p y=true
  ·rw[if_pos a] at h;have:j=0:=oo;subst this;exact a
  rw[if_neg a] at h;cases j with
  | zero=>have:=bQ p l (i+1);omega
  | succ j=>exact bO (l:=l) (i:=i+1) (j:=j) d (by rw[h];congr 1;omega)
theorem UI{f:b5->Bool}{l:List b5}{d:b5}(h:z<l.length): (l.take (z+1)).any f=((l.take z).any f || f (l.getD z d)):=by
 rw[xa,List.getElem?_eq_getElem h,List.any_append];simp[List.getD,h]
theorem jC: [b6.1,b6.2.1,b6.2.2].any (λx=>((L:Nat):Int) == ((x:Nat):Int))=Ay b6 L:=by
 simp only[vf,wM,wy,Ay,beqN];rw[Bool.or_assoc,show decide (L=b6.1)=decide (b6.1=L) from decide_eq_decide.2 ⟨wi,wi⟩,show decide (L=b6.2.1)=decide (b6.2.1=L) from decide_eq_decide.2 ⟨wi,wi⟩,show decide (L=b6.2.2)=decide (b6.2.2=L) from decide_eq_decide.2 ⟨wi,wi⟩]
theorem sq: Xi prog 228 [Ze b6,.pointer (some ⟨L,e,none⟩)] [Row (some ⟨L,e,none⟩) (Value.cells (Ze c5)).toList] (.bool (Ay b6 c5.1)):=by
 refine fnI func228 I ntmps228 λS w0 d=>zS (zx I λc=>?_);intro a w h;replace h:=h.shareAll d (List.map Qb [b6.1,b6.2.1,b6.2.2]) I;refine gL h<|za I<|zn<|zs<|yE [0,1,2,3,4]<|yp I (.slice I none none none I I I<|YE _ _)<|yp I (.fA I IA) ?_;clear h;refine Zf (b:=L) (off:=e) (j:=0) (M:=(Value.cells<|Ze c5).toList) (v:=.int .i64 (((c5).1:Nat):Int)) I kk I mm nb isAgg3 sizeOf3 I (.inr I) dd ?_;refine Gm I kk (vs:=[_,_]) I call144 (sV [b6.1,b6.2.1,b6.2.2] c5.1 (some ⟨c,0,none⟩) 3 (show 3<=1000000 by decide)) (by exact λR hR=>by rw[da] at hR;subst hR;exact List.Mem.head _) dd ?_;refine au 0x6a4e ?_;refine rtK ?_;rw[jC]
theorem sP(r:c6.length<=1000000)(s:Nat×Nat×Nat)(b o:Nat): Xi prog 227 [.slice E c6.length L,.func (.func 228) #[] #[.pointer (some ⟨b,o,none⟩)]] [Row E (cellsOf Ze c6),Row (some ⟨b,o,none⟩) (Value.cells (Ze s)).toList] (.int .i64 (CW (λt=>Ay t s.1) c6 0)):=by
 refine fnI func227 I ntmps227 λS w0 q=>au 0x824a0f43112531 ?_;intro a w h;refine lpG h [0,1,7] pkL (λY Z (i:Nat) a w=>i<=c6.length/\(CW (λt=>Ay t s.1) c6 0=CW (λt=>Ay t s.1) (c6.drop i) i)/\St 19 S w0 ((8,nI i)::Y) [] Z a w) (λi=>c6.length-i) 0 (⟨cX _,rfl,by exact(h).sub sA⟩) ?_;clear h;rintro i a w ⟨p,d,h⟩;refine gC h<|au 0x12d31 ?_;intro a w h;refine Zb h I (λg=>?_) (λg=>?_)
 ·have f:i<c6.length:=dT g;obtain ⟨n,m,rfl⟩:=h.row_addr (ad:=E) (M:=cellsOf Ze c6) mm (nE 3);refine gC h<|au 0x62f4443125431817 ?_;refine zD I mm (cells_lt (k:=3) dd (λ_=>rfl) c6 i oo) isAgg133 sizeOf133 (Zh (k:=3) (λ_=>rfl) ((λ_=>rfl)) c6 (0,0,0) i oo) (.inl I) ?_;clear h;intro a w h;refine Zc<|Xs h (fs:=[]) (cs:=[.pointer (some ⟨b,o,none⟩)]) I (vs:=[_]) I call228 (sq (c6.getD i (0,0,0)) s b o) ss dd ?_;clear h;intro a w h;refine Zi h (λe h=>?_) (λe h=>?_)
  ·refine wpList_nil<|cW<|Qq h I ?_;refine gC h<|au 0x625431 ?_;refine rtK ?_;rw[d,Vj _ c6 i (0,0,0) f,if_pos e]
  refine wpList_nil<|cW<|Zj h I<|gC h<|zk<|zr<|zp (.pN (i+1)<|.add I I)<|au 0x24 ?_;clear h;intro a w h;exact⟨i+1,⟨oo,by rw[d,Vj _ c6 i (0,0,0) f,if_neg (by rw[e];decide)],tO h⟩,oo⟩
 have j:c6.length=i:=dF g;subst j;refine gC h<|au 0x625310e ?_;refine rtK ?_;rw[d,tf];rfl
theorem C_held(p:Pr)(C A r D:Option Addr)(Q cT R W K:Nat)(hv:MV K p.m)(J:WJ p.m.T)(hK:K<=100000)(hn:p.G.length<=1000000): Xi prog 134 [Xv p C A r D Q cT R W] [Row C (cellsOf encPt p.m.P),Row A (cellsOf Ze p.m.T),Row r (cellsOf Ze p.m.S),Row p.f.a (cellsOf Zy p.f.l),Row D (cellsOf Jo p.G),Vr (Je p.G)] (.int .i64 (if Cr p then 0 else 6)):=by
 have a6:=hv.nS;have N:=hv.nT;refine fnI func134 I ntmps134 λS w0 X=>zS (zx I λb1=>au 0x31125 ?_);refine zp (.fA I JV)<|ldZ Ei ?_;refine au 0x2c0fb1f ?_;intro a w h;refine Zb h I (λn=>?_) (λn=>?_)
 ·refine gC h<|au 0x62531 ?_;refine rtK ?_;unfold Cr;rw[decide_eq_true ((Av _).1 (of_decide_eq_true n))];rfl
 refine gC h<|au 0x58f43f317 ?_;clear h;intro a w h;refine Zc<|Xd h (vs:=[_]) I call226 (sJ K p.m _ _ _ _ _ _ hv J) ss dd ?_;clear h;rintro a7 a1 a w ⟨F,rfl,rfl⟩ h;refine gL h<|au 0x431255bb4 ?_;clear h;intro a w h;refine Zc<|Qz h I I runUnderlying311 typeInfo4 sizeOf4 zeroValue4 I dd (by exact aZ _) (by show 1*(1)<=281474976710656;omega) oo dd ?_;clear h;intro H a w h;replace h:=h.same I (by rw[<-I5]) I;refine gL h<|au 0x46f43f31125 ?_;refine ldZ oL ?_;refine au 0x824d2f ?_;intro a w h;refine lpG h [1,2,3,5,25,26] pkL (λY Z (i:Nat) a w=>i<=p.m.S.length /\ ∃(x:Bool),(x=(p.m.S.take i).any (ct p))/\St 57 S w0 ((27,nI i)::Y) [(H,.cells (List.map F8 ([x])).toArray 4 (0,0)),(F,.cells (List.map Ib<|List.replicate p.m.T.length 0).toArray 3 (0,0)),(b1,bV (Xv p C A r D Q cT R W) 53)] Z a w) (λi=>p.m.S.length-i) 0 (⟨cX _,false,rfl,by exact(h).sub sA⟩) ?_;clear h;rintro i a w ⟨U,x,hx,h⟩;refine gC h<|au 0x12d31 ?_;intro a w h;refine Zb h I (λo=>?_) (λo=>?_)
 ·have c:i<p.m.S.length:=dT o;obtain ⟨E,O,rfl⟩:=h.row_addr (ad:=r) (M:=cellsOf Ze p.m.S) mm (nE 3);refine gC h<|au 0xb8f31817 ?_;refine zD I mm (cells_lt (k:=3) dd (λ_=>rfl) p.m.S i oo) isAgg143 sizeOf143 (Zh (k:=3) (λ_=>rfl) ((λ_=>rfl)) p.m.S (0,0,0) i oo) (.inl I) ?_;refine zz HJ λV=>stW I I Qi ?_;refine au 0x11f312 ?_;clear h;intro a w h;replace h:=h.shareAll X ((Value.cells (Ze (p.m.S.getD i (0,0,0)))).toList) I;refine gL h<|zp (.fA I CZ)<|zD (b:=V) (off:=0) (j:=2) (M:=(Value.cells<|Ze<|p.m.S.getD i (0,0,0)).toList) (v:=.int .i64 (((p.m.S.getD i (0,0,0)).2.2:Nat):Int)) I mm nb isAgg3 sizeOf3 I (.inr I) ?_;refine zw [_,_] I call108 (nQ p _ _ _ _ _ _ _ _ (p.m.S.getD i (0,0,0)).2.2 hn)<|au 0xbb4 ?_;clear h;intro a w h;refine Zi h (λg h=>?_) (λg h=>?_);focus
   refine gL h (zz Dl λb8=>stW I I Zl ?_);refine au 0x443125 ?_;refine zq 39 I I (.fA I Hq)<|ldQ 39 HT ?_;refine au 0x23e ?_;clear h;intro a w h;refine Zb h I (λq=>?_) (λq=>?_)
   ·refine gC h<|au 0x31f43f31 ?_;refine ldZ Y2 ?_;refine au 0x56f ?_;refine zw [_,_] I call227 (sP p.m.T _ _ (bp N dd) (p.m.S.getD i (0,0,0)) V 0) ?_;clear h;intro a w h;obtain ⟨i6,L,u⟩:=Ho (p:=λt=>Ay t (p.m.S.getD i (0,0,0)).1) (l:=p.m.T) (i:=0) (hv.used _ (hv.sd _ (getD_mem p.m.S c)).1);rw[L,ca] at h;refine gL h<|au 0xe0f444325 ?_;refine zd I mm isAgg3 sizeOf3 ((congrArg _<|ca _).trans<|Zn (enc:=Ib) (l:=(List.replicate p.m.T.length 0)) 0 (by simpa using u)) ?_;clear h;intro a w h;rw[show(List.replicate p.m.T.length (0:Int)).getD i6 0=((0:Nat):Int) from by simp[List.getD,u]] at h;refine gL h<|zp (.indexAddr I I<|bM _ _ _ _ _ dd)<|zt' I I ((congrArg (λz=>Zp _ z _)<|ca _).trans<|Jc (enc:=F8) ([x]) 0 true) uu sizeOf4 I (by simp;skip) I ?_;refine zn<|zr<|zp (.pN (i+1)<|.add I I)<|au 0x24 ?_;clear h;intro a w h;have s:ct p (p.m.S.getD i (0,0,0))=true:=by simp only[ct];rw[g];exact q
    exact⟨i+1,⟨oo,true,(by rw[UI (d:=(0,0,0)) c, <-hx,s];simp),by exact tO h⟩,oo⟩
   refine gC h<|zk<|zr<|zp (.pN (i+1)<|.add I I)<|au 0x24 ?_;clear h;intro a w h;have s:ct p (p.m.S.getD i (0,0,0))=false:=by simp only[ct];rw[g];exact q
  rotate_left;focus
   refine gL h (zz Dl λb8=>stW I I Zl ?_);refine au 0x443125 ?_;refine zo 39 I I I<|zo 39 I I I<|au 0x37c22e ?_;refine zp (.pN (i+1)<|.add I I)<|au 0x24 ?_;clear h;intro a w h;have s:ct p (p.m.S.getD i (0,0,0))=false:=by simp only[ct];rw[g];rfl
  all_goals
   exact⟨i+1,⟨oo,x,(by rw[UI (d:=(0,0,0)) c, <-hx,s];simp),by exact tO h⟩,oo⟩
 have B:p.m.S.length=i:=dF o;subst B;refine gC h<|au 0x43110e ?_;clear h;intro a w h;replace h:=h.shareAll X (List.map F8 ([x])) I;refine gL h<|zw [_,_] I call229 (C_CtB [x] false _ _ (show 1<=1000000 by decide))<|zn ?_;clear h;intro a w h;refine Zb h I (λy=>?_) (λy=>?_);focus
  refine gC h<|au 0x62531 ?_;clear h;intro a w h
 rotate_left;focus
  refine gC h<|au 0x625317 ?_;clear h;intro a w h
 all_goals
  refine Xh h (Zd h I<|.tmp I) ?_;unfold Cr;rw[decide_eq_false (λe=>absurd ((Av _).2 e) (of_decide_eq_false n)), <-w9 (l:=p.m.S), <-hx];(try (revert y;cases x<;>simp))
theorem kM: RN (Instr.build 148 [(0,.func h8 h9 i1)].toArray) (.agg #[.func h8 h9 i1]):=λw=>by simp[go_sem]
theorem GQ: (Instr.buildSlice 145 5 [(0,.agg #[i7]),(1,.agg #[j0]),(2,.agg #[j1]),(3,.agg #[j2]),(4,.agg #[j3])].toArray).run prog b7=.ok (.slice (some ⟨b7.heap.size,0,none⟩) 5 5) (b7.alloc (.cells #[i7,j0,j1,j2,j3] 148 (0,0))):=by
 simp[go_sem]
theorem MW: (Go.builtin .len #[145] e1 e2 #[.slice E L e]).run prog b7=.ok (.value (.int .i64 L)) b7:=by
 simp[go_sem]
theorem ix_145(h:c3<c7): RN (Instr.indexAt 145 (.slice (some ⟨L,e,none⟩) c7 b9) (.int .i64 (c3:Int))) (.pointer (some ⟨L,e+c3,none⟩)):=λw=>by
 simpa using Qf runUnderlying145 sizeOf148 L e c7 b9 c3 h w
theorem Gt: Zp #[A] 0 [B]=#[B]:=rfl
theorem jS: RN (Instr.fieldAt 148 (.pointer (some ⟨z,s,none⟩)) 0) (.pointer (some ⟨z,s+0,none⟩)):=λw=>by
 simp[go_sem]
abbrev NA(i:Nat): Value:=.agg #[.func (.func i) #[] #[]]
structure PrV(K:Nat)(p:Pr): Prop where
 o:p.o=1\/p.o=2
 k0:Zr p.k0<=1000
 k1:Zr p.k1<=1000
 k2:Zr p.k2<=1000
 pos:0<p.k0
 det:p.k1*p.k1<p.k0*p.k2
 c:Zr p.c<=1000
 c0:0<=p.c
 f:GdPl p.f
 G:GdG p.G
 m:MV K p.m
 cn:WJ p.m.T
theorem so:Ctr prog 60 [] [] (λv Ψ => ∃ad,v=.slice ad 5 5/\Ψ=[Row ad (cellsOf NA [130,131,132,133,134])]):=by
 refine fnI func60 I ntmps60 λS w0 c=>au 0x3af3af3af3af3af312531 ?_;refine zB [(_,_),(_,_),(_,_),(_,_),(_,_)] I (GQ _ _ _ _ _) λb=>?_;intro a w h;replace h:=h.shareAll c (cellsOf NA ([130,131,132,133,134])) I;refine gL h<|au 0x625 ?_;clear h;intro a w h;refine Qj (Ψ:=[Row (some ⟨b,0,none⟩) (cellsOf NA [130,131,132,133,134])]) h (Zd h I<|.tmp I) ?_ ss;exact⟨_,rfl,rfl⟩
theorem N8(p:Pr)(b i g d:Option Addr)(q t s r:Nat)(j:PrV L p)(B:L<=100000): Xi prog 13 [Xv p b i g d q t s r] [Row b (cellsOf encPt p.m.P),Row i (cellsOf Ze p.m.T),Row g (cellsOf Ze p.m.S),Row p.f.a (cellsOf Zy p.f.l),Row d (cellsOf Jo p.G),Vr (Je p.G)] (.int .i64 (if Cr p then 0 else 6)):=by
 refine fnI func13 I ntmps13 λS w0 D=>zS (zx I λu=>au 0x31125 ?_);refine zf [] I call60 (so) ?_;rintro v6 C ⟨A,rfl,rfl⟩ a w h;obtain ⟨x,v,rfl⟩:=h.row_addr (ad:=A) (M:=cellsOf NA [130,131,132,133,134]) mm (by intro e;cases e);refine gL h<|zp (.builtin [_] I<|MW _ _ _)<|zm I<|zn<|zb<|lpR 6<|rdS<|au 0x0af318171e128e31 ?_;refine zD I mm (cells_lt (k:=1) dd (λ_=>rfl) ([130,131,132,133,134]) 0 (by exact ixd)) isAgg148 sizeOf148 (Zh (k:=1) (λ_=>rfl) ((λ_=>rfl)) ([130,131,132,133,134]) 0 0 (by exact ixd)) (.inr I) ?_;refine zz zeroValue148 λz=>stW I I Gt ?_;refine au 0x11ff5feaf312 ?_;clear h;intro a w h;refine Zc<|Xs h (fs:=[]) (cs:=[]) I (vs:=[_]) I call130 (WL p b i g d q t s r j.o j.k0 j.k1 j.k2 j.pos j.det j.c j.c0) ss dd ?_;clear h;intro a w h;refine gL h<|au 0x2452f37c2d0f43125 ?_;clear h;intro a w h;replace h:St 20 S w0 [(1,pB u),(2,.int .i64 0),(6,.slice (some ⟨x,v,none⟩) 5 5),(7,nI 5),(8,.int .i64 1),(9,.bool true),(17,.bool false)] [(u,bV (Xv p b i g d q t s r) 53)] [Row (some ⟨x,v,none⟩) (cellsOf NA [130,131,132,133,134]),Row b (cellsOf encPt p.m.P),Row i (cellsOf Ze p.m.T),Row g (cellsOf Ze p.m.S),Row p.f.a (cellsOf Zy p.f.l),Row d (cellsOf Jo p.G),Vr (Je p.G)] a w:=by exact tO h
 refine Zk ?_;refine gC h<|au 0x0af318171e128e31 ?_;refine zD I mm (cells_lt (k:=1) dd (λ_=>rfl) ([130,131,132,133,134]) 1 (by exact ixd)) isAgg148 sizeOf148 (Zh (k:=1) (λ_=>rfl) ((λ_=>rfl)) ([130,131,132,133,134]) 0 1 (by exact ixd)) (.inr I) ?_;refine zz zeroValue148 λz=>stW I I Gt ?_;refine au 0x11ff5feaf312 ?_;clear h;intro a w h;refine Zc<|Xs h (fs:=[]) (cs:=[]) I (vs:=[_]) I call131 (eW p b i g d q t s r j.f) ss dd ?_;clear h;intro a w h;refine gL h<|au 0x2450f37c2d0f43125 ?_;clear h;intro a w h;replace h:St 20 S w0 [(1,pB u),(2,.int .i64 0),(6,.slice (some ⟨x,v,none⟩) 5 5),(7,nI 5),(8,.int .i64 2),(9,.bool true),(17,.bool false)] [(u,bV (Xv p b i g d q t s r) 53)] [Row (some ⟨x,v,none⟩) (cellsOf NA [130,131,132,133,134]),Row b (cellsOf encPt p.m.P),Row i (cellsOf Ze p.m.T),Row g (cellsOf Ze p.m.S),Row p.f.a (cellsOf Zy p.f.l),Row d (cellsOf Jo p.G),Vr (Je p.G)] a w:=by exact tO h
 refine Zk ?_;refine gC h<|au 0x0af318171e128e31 ?_;refine zD I mm (cells_lt (k:=1) dd (λ_=>rfl) ([130,131,132,133,134]) 2 (by exact ixd)) isAgg148 sizeOf148 (Zh (k:=1) (λ_=>rfl) ((λ_=>rfl)) ([130,131,132,133,134]) 0 2 (by exact ixd)) (.inr I) ?_;refine zz zeroValue148 λz=>stW I I Gt ?_;refine au 0x11ff5feaf312 ?_;clear h;intro a w h;refine Zc<|Xs h (fs:=[]) (cs:=[]) I (vs:=[_]) I call132 (lr p b i g d q t s r j.G) ss dd ?_;clear h;intro a w h;refine gL h<|au 0x2490f37c2d0f43125 ?_;clear h;intro a w h;replace h:St 20 S w0 [(1,pB u),(2,.int .i64 0),(6,.slice (some ⟨x,v,none⟩) 5 5),(7,nI 5),(8,.int .i64 3),(9,.bool true),(17,.bool false)] [(u,bV (Xv p b i g d q t s r) 53)] [Row (some ⟨x,v,none⟩) (cellsOf NA [130,131,132,133,134]),Row b (cellsOf encPt p.m.P),Row i (cellsOf Ze p.m.T),Row g (cellsOf Ze p.m.S),Row p.f.a (cellsOf Zy p.f.l),Row d (cellsOf Jo p.G),Vr (Je p.G)] a w:=by exact tO h
 refine Zk ?_;refine gC h<|au 0x0af318171e128e31 ?_;refine zD I mm (cells_lt (k:=1) dd (λ_=>rfl) ([130,131,132,133,134]) 3 (by exact ixd)) isAgg148 sizeOf148 (Zh (k:=1) (λ_=>rfl) ((λ_=>rfl)) ([130,131,132,133,134]) 0 3 (by exact ixd)) (.inr I) ?_;refine zz zeroValue148 λz=>stW I I Gt ?_;refine au 0x11ff5feaf312 ?_;clear h;intro a w h;refine Zc<|Xs h (fs:=[]) (cs:=[]) I (vs:=[_]) I call133 (lC p b i g d q t s r L j.m B) ss dd ?_;clear h;intro a w h;refine gL h<|au 0x37c2d0f43125 ?_;refine zp (aq (v':=.int .i64 4) (.add I I) cgd)<|au 0x24 ?_;clear h;intro a w h;replace h:St 20 S w0 [(1,pB u),(2,.int .i64 0),(6,.slice (some ⟨x,v,none⟩) 5 5),(7,nI 5),(8,.int .i64 4),(9,.bool true),(17,.bool false)] [(u,bV (Xv p b i g d q t s r) 53)] [Row (some ⟨x,v,none⟩) (cellsOf NA [130,131,132,133,134]),Row b (cellsOf encPt p.m.P),Row i (cellsOf Ze p.m.T),Row g (cellsOf Ze p.m.S),Row p.f.a (cellsOf Zy p.f.l),Row d (cellsOf Jo p.G),Vr (Je p.G)] a w:=by exact tO h
 refine Zk ?_;refine gC h<|au 0x0af318171e128e31 ?_;refine zD I mm (cells_lt (k:=1) dd (λ_=>rfl) ([130,131,132,133,134]) 4 (by exact ixd)) isAgg148 sizeOf148 (Zh (k:=1) (λ_=>rfl) ((λ_=>rfl)) ([130,131,132,133,134]) 0 4 (by exact ixd)) (.inr I) ?_;refine zz zeroValue148 λz=>stW I I Gt ?_;refine au 0x11ff5feaf312 ?_;clear h;intro a w h;refine Zc<|Xs h (fs:=[]) (cs:=[]) I (vs:=[_]) I call134 (C_held p b i g d q t s r L j.m j.cn B<|bp j.G.n dd) ss dd ?_;clear h;intro a w h;refine gL h<|au 0x271f43125 ?_;clear h;intro a w h;refine Zb h I (λy=>?_) (λy=>?_)
 ·refine gC h<|au 0x625431 ?_;refine rtK I
 refine gC h<|zk<|zr<|zp (aq (v':=.int .i64 5) (.add I I) cgd)<|au 0x24 ?_;clear h;intro a w h;replace h:St 20 S w0 [(1,pB u),(2,.int .i64 0),(6,.slice (some ⟨x,v,none⟩) 5 5),(7,nI 5),(8,.int .i64 5),(9,.bool true),(17,.bool ((if Cr p then 0 else 6:Int) != 0))] [(u,bV (Xv p b i g d q t s r) 53)] [Row (some ⟨x,v,none⟩) (cellsOf NA [130,131,132,133,134]),Row b (cellsOf encPt p.m.P),Row i (cellsOf Ze p.m.T),Row g (cellsOf Ze p.m.S),Row p.f.a (cellsOf Zy p.f.l),Row d (cellsOf Jo p.G),Vr (Je p.G)] a w:=by exact tO h
 refine Zk ?_;refine gC h<|au 0x625310ec1260f31 ?_;refine rtK ?_;revert y;cases Cr p<;>simp
end Go.Proofs.YtdadideknhmbbaaGreatDoor
