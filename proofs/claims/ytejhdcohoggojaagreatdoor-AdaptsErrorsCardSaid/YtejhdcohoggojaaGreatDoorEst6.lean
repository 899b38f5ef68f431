/- Walks of functions. By an AI agent. -/
import Derived.Test.YtejhdcohoggojaaGreatDoorCmpi
set_option linter.unusedVariables false
set_option linter.unusedSimpArgs false
set_option maxRecDepth 4000
set_option maxHeartbeats 8000000
namespace Go.Proofs.YtejhdcohoggojaaGreatDoor
open Go Go.Proofs Go.Fx Tryz
attribute [local irreducible] Oper.wp Code.wp wpList Fx.Head wpOp
section
theorem C9(a:Option Addr)(n c:Nat)(w:World)(ty:TypeId)(cs:Array Bool): (Go.builtin .len #[28] ty cs #[.slice a n c]).run prog w=.ok (.value (.int .i64 n)) w:=by
 simp[go_sem]
theorem ix_28(b off n c j:Nat)(h:j<n): RN (Instr.indexAt 28 (.slice (some ⟨b,off,none⟩) n c) (.int .i64 (j:Int))) (.pointer (some ⟨b,off+j*4,none⟩)):=fun w=>by
 simpa using Qd runUnderlying28 sizeOf384 b off n c j h w
theorem Sb{b off:Nat}: RN (Instr.fieldAt 384 (.pointer (some ⟨b,off,none⟩)) 0) (.pointer (some ⟨b,off+0,none⟩)):=fun w=>by
 simp[go_sem]
theorem Sr(x:Int): RN (Go.convert 194 3 (.int .u64 x)) (.int .i64 (IntKind.i64.wrap x)):=fun w=>by
 simp[go_sem]
theorem Sa{b off:Nat}: RN (Instr.fieldAt 384 (.pointer (some ⟨b,off,none⟩)) 1) (.pointer (some ⟨b,off+1,none⟩)):=fun w=>by
 simp[go_sem]
theorem R9{b off:Nat}: RN (Instr.fieldAt 384 (.pointer (some ⟨b,off,none⟩)) 2) (.pointer (some ⟨b,off+2,none⟩)):=fun w=>by
 simp[go_sem]
theorem Ob(c d:Int)(b a:Value): RN (Instr.build 384 [(0,.int .i64 c),(1,.int .i64 d),(2,.agg #[b,a])].toArray) (.agg #[.int .i64 c,.int .i64 d,b,a]):=fun w=>by simp[go_sem]
theorem ZW(d c a b:Value)(w:World): (Instr.buildSlice 28 1 [(0,.agg #[d,c,a,b])].toArray).run prog w=.ok (.slice (some ⟨w.heap.size,0,none⟩) 1 1) (w.alloc (.cells #[d,c,a,b] 384 (0,0))):=by
 simp[go_sem]
abbrev Ti:=QT
abbrev QT.n(t:QT): Int:=t.q.1
abbrev QT.d(t:QT): Int:=t.q.2
abbrev Ti0:Ti:=qt0
abbrev Mf(t:Ti): Value:=D2 t
def OkT(t:Ti): Prop:=(-9223372036854775808≤t.i∧t.i≤9223372036854775807)∧(-9223372036854775808≤t.j∧t.j≤9223372036854775807)∧OkQ (t.n,t.d)
def uN(x:Int): Nat:=(x%18446744073709551616).toNat
theorem U4(x:Int): IntKind.u64.wrap x=((uN x:Nat):Int):=by rw[An];unfold uN;omega
def brI(d:Nat)(t:Ti): Nat:=uN t.i%(d+1)
def brJ(d:Nat)(t:Ti): Nat:=uN t.j%(d-brI d t+1)
theorem jh(d:Nat)(t:Ti): brI d t≤d:=Nat.le_of_lt_succ (Nat.mod_lt _ (Nat.succ_pos d))
theorem jf(d:Nat)(t:Ti): brI d t+brJ d t≤d:=by
 have h1:=jh d t
 have a:brJ d t<d-brI d t+1:=Nat.mod_lt _ (Nat.succ_pos _)
 omega
abbrev Hx(d:Nat)(t:Ti): Value:=.agg #[.int .i64 ((brI d t:Nat):Int),.int .i64 ((brJ d t:Nat):Int),.int .i64 t.n,.int .u32 t.d]
def tmB(d:Nat)(t:Ti): Tm:=⟨brI d t,brJ d t,qv t.n t.d⟩
def Au(d:Nat)(l:List Ti): List Tm:=l.map (tmB d)
theorem H8(l:List Ti){j:Nat}(h:j<l.length): l.take (j+1)=l.take j++[l.getD j Ti0]:=by
 rw[List.take_add_one,List.getElem?_eq_getElem h];simp[List.getD,h]
theorem XA(d:Nat)(l:List Ti): DL d (Au d l):=fun t ht=>by
 obtain ⟨s,_,rfl⟩:=List.mem_map.1 ht
 exact jf d s
theorem W9{d:Nat}{l:List Ti}(h:∀t∈l,OkT t): KL 4 (Au d l):=fun t ht=>by
 obtain ⟨s,hs,rfl⟩:=List.mem_map.1 ht
 exact EY (h s hs).2.2
theorem lh{d m:Nat}{l:List Ti}(h:∀t∈l,OkT t)(hm:l.length≤m)(a:m≤20)(hd:d≤12): Pq d (m*5+1) (norm (Au d l)) :=
 (Pq.raw (XA d l) (W9 h) (by unfold Au;rw[List.length_map];exact hm) oo).nrm hd
theorem bK(l:List Ti)(ad:Option Addr)(c d:Nat)(hd:d≤12)(E:l.length≤1000): Ctr prog 164 [.slice ad l.length c,.int .i64 ((d:Nat):Int)] [Row ad (cellsOf Mf l)] (fun v Ψ => ∃q A,v=.slice q l.length A∧Ψ=[Row q (cellsOf (Hx d) l)]):=by
 refine fnI func164 I ntmps164 fun S w0 y=>au 0x92531125312531 ?_;intro a w h
 refine lpG h [0,1,4] pkL (fun Y Z (k:Nat) a w=>k≤l.length ∧ ∃(n:Option Addr) (c1:Nat) (t:List (Nat×Obj)),(GrowO 4 384 (.slice n (l.take k).length c1) (l.take k).length (cellsOf (Hx d)<|l.take k) t)∧St 49 S w0 ((5,(.slice n (l.take k).length c1))::(6,nI k)::Y) (t++[]) Z a w) (fun k=>l.length-k) 0 (⟨Nat.zero_le _,none,0,[],GrowO.nil _ _,by exact(h).sub sA⟩) ?_;clear h
 rintro k a w ⟨x,n,c1,t,m,h⟩
 refine gC h<|au 0x44311 ?_
 refine zp (.builtin [_] I<|C9 _ _ _)<|au 0x2c ?_;intro a w h
 refine Zb h I (fun b=>?_) (fun b=>?_)
 ·have o:k<l.length:=dT b
  obtain ⟨e,f,rfl⟩:=h.row_addr (ad:=ad) (M:=cellsOf Mf l) mm (nE 4)
  have C:=jh d (l.getD k Ti0)
  have B:=jf d (l.getD k Ti0)
  have D:(l.take k).length=k:=by rw[List.length_take];omega
  refine gC h<|au 0x4431917 ?_
  refine zp (.indexAddr I I<|ix_28 _ _ _ _ _ oo)<|zp (Pure1.cast (v':=.pointer<|some ⟨e,f+(k*4+0),none⟩) (.fA I Sb) (by rw[Nat.add_assoc]))<|zD I mm (D3 (k:=4) (enc:=Mf) (fun _=>rfl) l k 0 oo dd) isAgg3 sizeOf3 (Vw (k:=4) (enc:=Mf) (fun _=>rfl) l Ti0 k oo false 1 0 _ dd dd I) (.inr I) ?_
  refine zp (Pure1.cast (v':=.int .u64 ((uN (l.getD k Ti0).i:Nat):Int)) (.convert I<|DX _) (by rw[U4]))<|zm I<|zp (.pN (d+1)<|.add I I)<|zp (Pure1.cast (v':=.int .u64 ((d+1:Nat):Int)) (.convert I<|DX _) (by rw[wrap_u64 _ oo oo]))<|zp (Pure1.cast (v':=.int .u64 ((brI d (l.getD k Ti0):Nat):Int)) (.binOp I I (fun _=>Yn _ _ _ _ _ oo)) (by rw[Ym];rfl))<|zp (Pure1.cast (v':=.int .i64 ((brI d (l.getD k Ti0):Nat):Int)) (.convert I<|Sr _) (by rw[wrap_i64 _ oo oo]))<|za I<|zn<|yE [0,1,2,3,4,5,6,7,8,9,10,11,12,13,14,15,16,17,18,19,20,21,22,23]<|au 0xf9f8888 ?_
  refine yp I (Pure1.cast (v':=.pointer<|some ⟨e,f+(k*4+1),none⟩) (.fA I Sa) (by rw[Nat.add_assoc])) ?_;clear h
  refine Zf I kk I mm (D3 (k:=4) (enc:=Mf) (fun _=>rfl) l k 1 oo dd) isAgg3 sizeOf3 (Vw (k:=4) (enc:=Mf) (fun _=>rfl) l Ti0 k oo false 1 1 _ dd dd I) (.inr I) dd ?_
  refine yp I (Pure1.cast (v':=.int .u64 ((uN (l.getD k Ti0).j:Nat):Int)) (.convert I<|DX _) (by rw[U4]))<|au 0x88 ?_
  refine yp I (.pO (d-(brI d<|l.getD k Ti0))<|.sub I I)<|yp I (.pN ((d-(brI d<|l.getD k Ti0))+1)<|.add I I)<|yp I (Pure1.cast (v':=.int .u64 ((d-brI d (l.getD k Ti0)+1:Nat):Int)) (.convert I<|DX _) (by rw[wrap_u64 _ oo oo]))<|yp I (Pure1.cast (v':=.int .u64 ((brJ d (l.getD k Ti0):Nat):Int)) (.binOp I I (fun _=>Yn _ _ _ _ _ oo)) (by rw[Ym];rfl))<|yp I (Pure1.cast (v':=.int .i64 ((brJ d (l.getD k Ti0):Nat):Int)) (.convert I<|Sr _) (by rw[wrap_i64 _ oo oo]))<|au 0xf9f88 ?_
  refine yp I (Pure1.cast (v':=.pointer<|some ⟨e,f+(k*4+2),none⟩) (.fA I R9) (by rw[Nat.add_assoc])) ?_
  refine Zf I kk I mm (D3 (k:=4) (enc:=Mf) (fun _=>rfl) l k 2 oo dd) isAgg36 sizeOf36 (Vw (k:=4) (enc:=Mf) (fun _=>rfl) l Ti0 k oo true 2 2 _ dd dd I) (.inl I) dd ?_
  refine yp I (.build [(_,_),(_,_),(_,_)] I<|Ob _ _ _ _) (yB I [(_,_)] I (ZW _ _ _ _) fun z=>?_)
  refine bR (Hx d) (l.take k) [l.getD k Ti0] m ?_;intro r u s g
  refine au 0x43a3e ?_
  refine zp (.pN (k+1)<|.add I I)<|au 0x25 ?_;intro a w h
  rw[←H8 l o] at h g
  exact⟨k+1,⟨oo,r,u,s,g,by exact tO h⟩,oo⟩
 ·have p:l.length=k:=dF b
  subst p
  rw[List.take_length] at h m
  replace h:=St.shareO' h y m
  refine gC h<|au 0x6254310e ?_;clear h;intro a w h
  refine Qn (Ψ:=[Row _ (cellsOf (Hx d) l)]) h (Ze h I<|.tmp I) ⟨_,_,rfl,rfl⟩ ss
theorem C_RawB(l:List Ti)(ad:Option Addr)(c d:Nat)(x:∀t∈l,OkT t)(K:l.length≤1000): Ctr prog 163 [.slice ad l.length c] [Row ad (cellsOf (Hx d) l)] (fun v Ψ => ∃p D,v=.slice p (Au d l).length D∧Ψ=[Row p (cellsOf Zz (Au d l))]):=by
 refine fnI func163 I ntmps163 fun S w0 B=>au 0x92531125312531 ?_;intro a w h
 refine lpG h [0,2] pkL (fun Y Z (k:Nat) a w=>k≤l.length ∧ ∃(j:Option Addr) (c1:Nat) (y:List (Nat×Obj)),(GrowO 7 331 (.slice j (Au d<|l.take k).length c1) (Au d<|l.take k).length (cellsOf Zz<|Au d<|l.take k) y)∧St 32 S w0 ((3,(.slice j (Au d<|l.take k).length c1))::(4,nI k)::Y) (y++[]) Z a w) (fun k=>l.length-k) 0 (⟨Nat.zero_le _,none,0,[],GrowO.nil _ _,by exact(h).sub sA⟩) ?_;clear h
 rintro k a w ⟨z,j,c1,y,i,h⟩
 refine gC h<|au 0x44311 ?_
 refine zp (.builtin [_] I<|C9 _ _ _)<|au 0x2c ?_;intro a w h
 refine Zb h I (fun m=>?_) (fun m=>?_)
 ·have f:k<l.length:=dT m
  obtain ⟨b,e,rfl⟩:=h.row_addr (ad:=ad) (M:=cellsOf (Hx d) l) mm (nE 4)
  obtain ⟨_,_,F,G,J,E⟩:=x _ (getD_mem l (d:=Ti0) f)
  have H:(Au d (l.take k)).length=k:=by unfold Au;rw[List.length_map,List.length_take];omega
  have r:Au d (l.take k)++[tmB d (l.getD k Ti0)]=Au d (l.take (k+1)):=by unfold Au;rw[H8 l f,List.map_append];rfl
  refine gC h<|zk<|zs<|zb<|yE [0,1,2,3,4,5,6,7,8,9,10,11,12,13,14,15,16,17,18,19,20]<|au 0xf9f888 ?_
  refine yp I (Pure1.cast (v':=.pointer<|some ⟨b,e+(k*4+0),none⟩) (.fA I Sb) (by rw[Nat.add_assoc])) ?_;clear h
  refine Zf I kk I mm (D3 (k:=4) (enc:=(Hx d)) (fun _=>rfl) l k 0 oo dd) isAgg3 sizeOf3 (Vw (k:=4) (enc:=(Hx d)) (fun _=>rfl) l Ti0 k oo false 1 0 _ dd dd I) (.inr I) dd ?_
  refine au 0xf9f88 ?_
  refine yp I (Pure1.cast (v':=.pointer<|some ⟨b,e+(k*4+1),none⟩) (.fA I Sa) (by rw[Nat.add_assoc])) ?_
  refine Zf I kk I mm (D3 (k:=4) (enc:=(Hx d)) (fun _=>rfl) l k 1 oo dd) isAgg3 sizeOf3 (Vw (k:=4) (enc:=(Hx d)) (fun _=>rfl) l Ti0 k oo false 1 1 _ dd dd I) (.inr I) dd ?_
  refine au 0xf9f88 ?_
  refine yp I (Pure1.cast (v':=.pointer<|some ⟨b,e+(k*4+2),none⟩) (.fA I R9) (by rw[Nat.add_assoc])) ?_
  refine Zf I kk I mm (D3 (k:=4) (enc:=(Hx d)) (fun _=>rfl) l k 2 oo dd) isAgg36 sizeOf36 (Vw (k:=4) (enc:=(Hx d)) (fun _=>rfl) l Ti0 k oo true 2 2 _ dd dd I) (.inl I) dd ?_
  refine yv [_] I I call8 (FM ((l.getD k Ti0).n) ((l.getD k Ti0).d) oo oo oo oo) ?_
  have A:=Vx ((l.getD k Ti0).n) ((l.getD k Ti0).d) oo oo oo oo
  refine au 0x79f ?_
  refine yB I [(_,_)] I (FD _ _ _ _ _ _ _) fun C=>?_
  refine bR Zz (Au d<|l.take k) [(⟨brI d (l.getD k Ti0),brJ d (l.getD k Ti0),qv ((l.getD k Ti0).n) ((l.getD k Ti0).d)⟩:Tm)] i ?_;intro q s u g
  refine au 0x43a3e ?_
  refine zp (.pN (k+1)<|.add I I)<|au 0x25 ?_;intro a w h
  rw[show(Au d (l.take k)++[(⟨brI d (l.getD k Ti0),brJ d (l.getD k Ti0),qv (l.getD k Ti0).n (l.getD k Ti0).d⟩:Tm)])=Au d (l.take (k+1)) from r] at h g
  exact⟨k+1,⟨oo,q,s,u,g,by exact tO h⟩,oo⟩
 ·have o:l.length=k:=dF m
  subst o
  rw[List.take_length] at h i
  replace h:=St.shareO' h B i
  refine gC h<|au 0x6254310e ?_;clear h;intro a w h
  refine Qn (Ψ:=[Row _ (cellsOf Zz<|Au d l)]) h (Ze h I<|.tmp I) ⟨_,_,rfl,rfl⟩ ss
theorem C_Made(l:List Ti)(ad:Option Addr)(c d m:Nat)(b:∀t∈l,OkT t)(hd:d≤12)(u:l.length≤1000): Ctr prog 93 [.slice ad l.length c,.int .i64 ((d:Nat):Int)] [Row ad (cellsOf Mf l)] (fun v Ψ => ∃e q,v=.slice e (norm (Au d l)).length q∧Ψ=[Row e (cellsOf Zz (norm (Au d l)))]):=by
 refine fnI func93 I ntmps93 fun S w0 s=>au 0x44312531 ?_
 refine zf [_,_] I call164 (bK l _ _ d hd oo) ?_;rintro v10 f ⟨g,p,rfl,rfl⟩
 refine zf [_] I call163 (C_RawB l _ _ d b oo) ?_;rintro v11 j ⟨n,o,rfl,rfl⟩
 refine zf [_] I call162 (C_pOfF (Au d l) _ _ 4 ((XA d l).mono hd) (W9 b) (by unfold Au;rw[List.length_map];omega) (by unfold Au;rw[List.length_map];omega)) ?_;rintro v12 k ⟨i,r,rfl,rfl⟩
 refine au 0x625431255bb4 ?_;intro a w h
 refine Qn (Ψ:=[Row _ (cellsOf Zz<|norm<|Au d l)]) h (Ze h I<|.tmp I) ⟨_,_,rfl,rfl⟩ ss
end
section
theorem Y0{b off:Nat}: RN (Instr.fieldAt 30 (.pointer (some ⟨b,off,none⟩)) 4) (.pointer (some ⟨b,off+14,none⟩)):=fun w=>by
 simp[go_sem]
theorem Q8{c0 c1 c2 h j g k i l m d b f e a c:Value}: Zk false 1 #[c0,c1,c2,h,j,g,k,i,l,m,d,b,f,e,a,c] 14=some a:=rfl
theorem slh_28(a:Option Addr)(n c j:Nat)(h:j≤c): RN (Instr.sliceAt 28 (.slice a n c) none (some (.int .i64 (j:Int))) none) (.slice a j c):=fun w=>by
 exact Bm runUnderlying28 sizeOf384 a n c j h w
theorem Wn{α:Type}{enc:α→Value}{ad:Option Addr}{l:List α}{X:Nat→Prop}{w:World}(h:(Row ad (cellsOf enc l)).p X w)(m:Nat): (Row ad (cellsOf enc (l.take m))).p X w:=by
 have e:cellsOf enc l=cellsOf enc (l.take m)++cellsOf enc (l.drop m):=by rw[←Qs,List.take_append_drop]
 rw[e] at h
 have:=HI h (cellsOf enc (l.take m)).length
 rwa[List.take_left] at this
abbrev exL(x:Pn)(d:Nat): List Tm:=norm (Au d (x.u.take 6))
theorem lX{x:Pn}{d:Nat}(h:∀t∈x.u,OkT t)(hd:d≤12): Pq d 31 (exL x d) :=
 lh (m:=6) (fun t ht=>h t (List.mem_of_mem_take ht)) (by rw[List.length_take];omega) dd hd
theorem min6(x:Pn): min x.u.length 6=(x.u.take 6).length:=by rw[List.length_take];omega
def E7(c:Rat)(S:List (Nat×Nat×Nat))(fx:List Nat): Bool:=decide (0<c) || S.any (fun s=>fx.any (fun x=>((s.2.2:Nat):Int) == ((x:Nat):Int)))
theorem CZ:∀(l k:List Gv),Qu (l++k)=Qu l++Qu k
 | [],_=>rfl
 | g::l,k=>by rw[List.cons_append,Qu,CZ l k];rfl
theorem Bg(x:Pn)(f b:Option Addr)(n j d:Nat)(g:∀t∈x.u,OkT t)(hd:d≤12)(hc:x.u.length≤j): Ctr prog 36 [CO x f b n j,.int .i64 ((d:Nat):Int)] [Row f (List.map Bb x.M.cells),Row b (cellsOf D2 x.u)] (fun v Ψ => ∃ad c,v=.slice ad (exL x d).length c∧Ψ=[Row ad (cellsOf Zz (exL x d))]):=by
 refine fnI func36 I ntmps36 fun S w0 p=>zS (zx I fun o=>za I<|zn<|zS<|zp (.fA I Y0)<|ldZ Q8 ?_)
 refine zp (.fA I Y0)<|ldZ Q8 ?_
 refine zp (.builtin [_] I<|C9 _ _ _)<|zp (.builtin [_,_] I (fun w ty cs=>BH x.u.length 6 w ty cs))<|zp (.slice I none (some _) none I I I<|slh_28 _ _ _ _ oo) ?_;intro a w h
 rw[min6] at h
 replace h:=h.derive (R:=Row b (cellsOf D2 (x.u.take 6))) (fun X m=>Wn (m (Row b (cellsOf D2 x.u)) mm) 6)
 refine gL h<|zm I<|zf [_,_] I call93 (C_Made (x.u.take 6) _ _ d 6 (fun t ht=>g t<|List.mem_of_mem_take ht) hd (by rw[List.length_take];omega)) ?_;rintro l k ⟨e,i,rfl,rfl⟩
 refine au 0x625 ?_;intro a w h
 exact Qn (Ψ:=[Row e (cellsOf Zz (exL x d))]) h (Ze h I (.tmp I)) ⟨e,i,rfl,rfl⟩ ss
end
section
abbrev UR:Value:=.agg #[.slice none 0 0,.slice none 0 0,.slice none 0 0,.int .i64 0,.int .u64 0,.string ⟨#[]⟩,.bool false,.int .u64 0,.string ⟨#[]⟩,.int .u64 0,.string ⟨#[]⟩,.bool false,.int .u64 0,.string ⟨#[]⟩,.int .u64 0,.string ⟨#[]⟩,.bool false,.int .u64 0,.string ⟨#[]⟩,.int .u64 0,.string ⟨#[]⟩,.bool false,.int .u64 0,.string ⟨#[]⟩,.slice none 0 0,.slice none 0 0]
def mkU(S:List (Nat×Nat×Nat)): List Nat:=Lib.compact ((List.map (fun s:Nat×Nat×Nat=>s.2.2) S).mergeSort (fun x y=>decide (x≤y)))
theorem WX{S:List (Nat×Nat×Nat)}{x:Nat}: x∈mkU S ↔ ∃s∈S,s.2.2=x:=by
 unfold mkU
 constructor
 ·intro h
  have:=P5 h
  rw[List.mem_mergeSort,List.mem_map] at this
  exact this
 ·intro h
  exact IP (by rw[List.mem_mergeSort,List.mem_map];exact h)
theorem mkU_lt(S:List (Nat×Nat×Nat)): (mkU S).Pairwise (· < ·):=by
 unfold mkU
 refine Uh ?_
 have:=List.pairwise_mergeSort (le:=fun x y:Nat=>decide (x≤y)) (fun a b c h1 d=>decide_eq_true (Nat.le_trans (of_decide_eq_true h1) (of_decide_eq_true d))) (fun a b=>by simp;omega) (List.map (fun s:Nat×Nat×Nat=>s.2.2) S)
 exact this.imp fun h=>of_decide_eq_true h
theorem WY(S:List (Nat×Nat×Nat)): (mkU S).length≤S.length:=by
 unfold mkU
 exact Nat.le_trans (IN _) (by rw[List.length_mergeSort,List.length_map];exact Nat.le_refl _)
structure GvOk(k0 k1 k2:Rat)(u:List Tm)(fx:List Nat)(n:Nat)(g:Gv): Prop where
 mark:g.mark=n
 fix:g.fix=fx.any (fun x=>((n:Nat):Int) == ((x:Nat):Int))
 v:g.v.l=[]∨g.v.l=norm (u++[])
 x:g.x.l=[]∨g.x.l=Yw k0 k1 u
 y:g.y.l=[]∨g.y.l=Yw k1 k2 u
def GsOk(k0 k1 k2:Rat)(u:List Tm)(fx U:List Nat)(j:Nat)(G:List Gv): Prop:=G.length=j ∧ ∀i,i<j→GvOk k0 k1 k2 u fx (U.getD i 0) (G.getD i gv0)
theorem GsOk.snoc{k0 k1 k2:Rat}{u:List Tm}{a U:List Nat}{j:Nat}{G:List Gv}{g:Gv}(h:GsOk k0 k1 k2 u a U j G)(b:GvOk k0 k1 k2 u a (U.getD j 0) g): GsOk k0 k1 k2 u a U (j+1) (G++[g]):=by
 refine⟨by rw[List.length_append,h.1];rfl,fun i c=>?_⟩
 by_cases e:i=j
 ·subst e
  have:(G++[g]).getD i gv0=g:=by simp[List.getD, ←h.1]
  rw[this];exact b
 ·have:(G++[g]).getD i gv0=G.getD i gv0:=by
   have:=h.1
   simp only[List.getD];rw[List.getElem?_append_left oo]
  rw[this];exact h.2 i oo
theorem CL(d K:Nat): Pq d (K+1) []:=⟨fun _ h=>(nomatch h),Nat.zero_le _,(Hb.of_KL (k:=0) (l:=[]) (fun _ h=>nomatch h)).mono ss⟩
theorem GsOk.good{k0 k1 k2:Rat}{u:List Tm}{n:List Nat}{S:List (Nat×Nat×Nat)}{G:List Gv}{d K:Nat}(h:GsOk k0 k1 k2 u n (mkU S) (mkU S).length G)(hu:Pq d K u)(hd:d≤8)(q:K≤1000000)(p:Zn k0≤1000)(h1:Zn k1≤1000)(l:Zn k2≤1000)(o:∀s∈S,s.2.2≤255)(r:S.length≤300): GdG G:=by
 have hm:∀g∈G,∃i,i<G.length∧G.getD i gv0=g:=fun g b=>by
  obtain ⟨i,a,rfl⟩:=List.mem_iff_getElem.1 b
  exact⟨i,a,by simp[List.getD,a]⟩
 have hv:Pq 8 100000000 (norm (u++[])):=(Pq.add hu (CL 0 0) oo dd).mono oo oo
 have hx:=(DR hu oo p h1).mono (d':=8) (K':=100000000) oo oo
 have m:=(DR hu oo h1 l).mono (d':=8) (K':=100000000) oo oo
 refine⟨fun g b=>?_,fun i k j hk=>?_,fun g b=>?_,fun g b=>?_,fun g b=>?_,?_⟩
 ·obtain ⟨i,a,rfl⟩:=hm g b
  have f:i<(mkU S).length:=by rw[←h.1];exact a
  rw[(h.2 i f).mark]
  obtain ⟨s,hs,e⟩:=WX.1 (getD_mem (mkU S) (d:=0) f)
  rw[←e];exact o s hs
 ·have c:k<(mkU S).length:=by rw[←h.1];exact hk
  rw[(h.2 i oo).mark,(h.2 k c).mark]
  have:=List.pairwise_iff_getElem.1 (mkU_lt S) i k oo c j
  simp only[List.getD,List.getElem?_eq_getElem c,List.getElem?_eq_getElem (show i<(mkU S).length by omega),Option.getD_some]
  omega
 ·obtain ⟨i,a,rfl⟩:=hm g b
  unfold GdPl
  rcases (h.2 i (by rw[←h.1];exact a)).v with e|e
  ·rw[e];exact CL 8 99999999
  ·rw[e];exact hv
 ·obtain ⟨i,a,rfl⟩:=hm g b
  unfold GdPl
  rcases (h.2 i (by rw[←h.1];exact a)).x with e|e
  ·rw[e];exact CL 8 99999999
  ·rw[e];exact hx
 ·obtain ⟨i,a,rfl⟩:=hm g b
  unfold GdPl
  rcases (h.2 i (by rw[←h.1];exact a)).y with e|e
  ·rw[e];exact CL 8 99999999
  ·rw[e];exact m
 ·have:=h.1;have:=WY S;omega
theorem eW{G:List Gv}{i:Nat}(a:i<G.length)(hd:∀i k,i<k→k<G.length→(G.getD i gv0).mark≠(G.getD k gv0).mark): Kv G (G.getD i gv0).mark=(G.getD i gv0,true):=by
 obtain ⟨j,h1,b⟩:=GI (p:=fun g:Gv=>((g.mark:Nat):Int) == (((G.getD i gv0).mark:Nat):Int)) (l:=G) (i:=0) ⟨_,getD_mem G (d:=gv0) a,by simp⟩
 rw[Nat.zero_add] at h1
 have hj:=YG (p:=fun g:Gv=>((g.mark:Nat):Int) == (((G.getD i gv0).mark:Nat):Int)) (l:=G) (i:=0) (j:=j) gv0 (by rw[Nat.zero_add];exact h1)
 have e:j=i:=by
  rcases Nat.lt_trichotomy j i with h|h|h
  ·exact absurd (by have:=eq_of_beq hj;omega) (hd j i h a)
  ·exact h
  ·exact absurd (by have:=eq_of_beq hj;omega) (hd i j h b)
 rw[Fg (i:=j) h1,e]
theorem Es{p:Pr}{b:List Nat}{u:List Tm}(g:GdG p.G)(h:GsOk p.k0 p.k1 p.k2 u b (mkU p.m.S) (mkU p.m.S).length p.G): Et p=E7 p.c p.m.S b:=by
 unfold Et E7
 congr 1
 have hf:∀s∈p.m.S,bT p s=b.any (fun x=>((s.2.2:Nat):Int) == ((x:Nat):Int)):=fun s hs=>by
  obtain ⟨i,d,e⟩:=List.mem_iff_getElem.1 (WX.2 ⟨s,hs,rfl⟩)
  have a:i<p.G.length:=by rw[h.1];exact d
  have f:=h.2 i d
  have j:(mkU p.m.S).getD i 0=s.2.2:=by simp[List.getD,d,e]
  have hm:=f.mark
  rw[j] at hm f
  unfold bT
  rw[←hm,eW a g.dif]
  show(true && _)=_
  rw[Bool.true_and,f.fix,hm]
 rw[Bool.eq_iff_iff,List.any_eq_true,List.any_eq_true]
 exact⟨fun⟨s,hs,hx⟩=>⟨s,hs,by rw[←hf s hs];exact hx⟩,fun⟨s,hs,hx⟩=>⟨s,hs,by rw[hf s hs];exact hx⟩⟩
theorem Pq.subM{c d f g:Nat}{a b:List Tm}(ha:Pq c f a)(e:Pq d g b)(h1:c≤12)(h:d≤12): Pq (max c d) (f+g+5) (norm (a++Qc ((-1:Int):Rat) b)) :=
 Pq.of_norm (I6 (ha.deg.mono (Nat.le_max_left _ _)) (Om _ (e.deg.mono (Nat.le_max_right _ _)))) ((ha.hgt.append (e.hgt.scale (k:=2) (Qa (-1) dd dd))).mono oo) oo
theorem jM{d K:Nat}{u:List Tm}{k0 k1 k2 c:Rat}(h:Pq d K u)(hd:d≤8)(b:Zn k0≤1000)(h1:Zn k1≤1000)(a:Zn k2≤1000)(f:Zn c≤1000)(i:K≤1000000:=by omega): Pq 8 100000000 (MN k0 k1 k2 c u):=by
 have g:=DR h oo b h1
 have e:=DR h oo h1 a
 have:=Pq.subM (h.scale f oo) (Pq.add (g.dx oo) (e.dy oo) oo oo) oo oo
 exact this.mono oo oo
structure PrM(K:Nat)(m:Ms)(o:Nat)(k0 k1 k2 c:Rat)(u:List Tm)(fx:List Nat)(p:Pr): Prop where
 qm:p.m=m
 qo:p.o=o
 q0:p.k0=k0
 q1:p.k1=k1
 q2:p.k2=k2
 qc:p.c=c
 f:p.f.l=MN k0 k1 k2 c u
 g:GsOk k0 k1 k2 u fx (mkU m.S) (mkU m.S).length p.G
 v:PrV K p
abbrev MadeP(K:Nat)(m:Ms)(o:Nat)(k0 k1 k2 c:Rat)(u:List Tm)(fx:List Nat)(v:Value)(Ψ:List Zp): Prop :=
 (E7 c m.S fx=true ∧ ∃p adP adT adS adG cP cT cS cG,PrM K m o k0 k1 k2 c u fx p∧v=.tuple #[Xf p adP adT adS adG cP cT cS cG,.int .i64 0]∧Ψ=[Row adP (cellsOf encPt p.m.P),Row adT (cellsOf Zd p.m.T),Row adS (cellsOf Zd p.m.S),Row p.f.a (cellsOf Zz p.f.l),Row adG (cellsOf Jg p.G),Yi (Qu p.G)])∨(E7 c m.S fx=false∧v=.tuple #[UR,.int .i64 6]∧Ψ=[])
end
section
theorem I4(p j o:Value)(A:Int)(l k s g t x h v i n e c d b a u m f r q:Value)(B:Option Addr)(y z:Nat): RN (Instr.build 57 [(0,.agg #[p,j,o]),(1,.int .i64 A),(2,.agg #[l,k,s,g,t,x,h,v,i,n,e,c,d,b,a]),(3,.agg #[u,m,f,r,q]),(4,.slice B y z)].toArray) (.agg #[p,j,o,.int .i64 A,l,k,s,g,t,x,h,v,i,n,e,c,d,b,a,u,m,f,r,q,.slice B y z,.slice none 0 0]):=fun w=>by simp[go_sem]
theorem Qj{c0 c1 c2 E z y A B C D u m s n r t g k q i p l o j v h v0 v1 v2 v3 v4 v5 v6 x w v9 v10 v11 v12 a f c d v17 b e v20 v21 v22 v23 v24 v25:Value}: Zl #[c0,c1,c2,E,z,y,A,B,C,D,u,m,s,n,r,t,g,k,q,i,p,l,o,j,v,h] 0 [v0,v1,v2,v3,v4,v5,v6,x,w,v9,v10,v11,v12,a,f,c,d,v17,b,e,v20,v21,v22,v23,v24,v25]=#[v0,v1,v2,v3,v4,v5,v6,x,w,v9,v10,v11,v12,a,f,c,d,v17,b,e,v20,v21,v22,v23,v24,v25]:=by kernel_rfl
theorem gh(a:Int): RN (Instr.build 104 [(0,.int .i64 a)].toArray) (.agg #[.int .i64 a,.bool false,.slice none 0 0,.slice none 0 0,.slice none 0 0]):=fun w=>by simp[go_sem]
theorem QY{c0 c1 c2 a b v0:Value}: Zl #[c0,c1,c2,a,b] 1 [v0]=#[c0,v0,c2,a,b]:=rfl
theorem EG{c0 c1 c2 a b v0:Value}: Zl #[c0,c1,c2,a,b] 2 [v0]=#[c0,c1,v0,a,b]:=rfl
theorem N5(c e a d b:Value)(w:World): (Instr.buildSlice 55 1 [(0,.agg #[c,e,a,d,b])].toArray).run prog w=.ok (.slice (some ⟨w.heap.size,0,none⟩) 1 1) (w.alloc (.cells #[c,e,a,d,b] 104 (0,0))):=by
 simp[go_sem]
theorem Dx{c0 c1 c2 w r q s t u v n f l g k m a d j b i e h c o p v0:Value}: Zl #[c0,c1,c2,w,r,q,s,t,u,v,n,f,l,g,k,m,a,d,j,b,i,e,h,c,o,p] 25 [v0]=#[c0,c1,c2,w,r,q,s,t,u,v,n,f,l,g,k,m,a,d,j,b,i,e,h,c,o,v0]:=rfl
theorem cD{c0 c1 c2 a b v0 v1:Value}: Zl #[c0,c1,c2,a,b] 3 [v0,v1]=#[c0,c1,c2,v0,v1]:=rfl
theorem Mx: RN (Instr.build 57 [].toArray) (.agg #[.slice none 0 0,.slice none 0 0,.slice none 0 0,.int .i64 0,.int .u64 0,.string ⟨#[]⟩,.bool false,.int .u64 0,.string ⟨#[]⟩,.int .u64 0,.string ⟨#[]⟩,.bool false,.int .u64 0,.string ⟨#[]⟩,.int .u64 0,.string ⟨#[]⟩,.bool false,.int .u64 0,.string ⟨#[]⟩,.int .u64 0,.string ⟨#[]⟩,.bool false,.int .u64 0,.string ⟨#[]⟩,.slice none 0 0,.slice none 0 0]):=fun w=>by simp[go_sem]
theorem EA(K:Nat)(m:Ms)(G F t:Option Addr)(cP cT cS o:Nat)(k0 k1 k2 c:Rat)(u:List Tm)(ad:Option Addr)(cu d Ku:Nat)(D:List Nat)(U:Option Addr)(cF:Nat)(hv:MV K m)(e3:jo m.T)(hK:K≤100000)(ho:o=1∨o=2)(hq:Pq d Ku u)(hd:d≤6)(k8:Ku≤100000)(h0:Zn k0≤1000)(h1:Zn k1≤1000)(h2:Zn k2≤1000)(h3:Zn c≤1000)(hp:0<k0)(c8:k1*k1<k0*k2)(e8:0≤c)(e7:D.length≤1000000)(b7:0<m.S.length)(e2:m.S.length≤300):
  Ctr prog 32 [Qz m G F t cP cT cS,.int .i64 ((o:Nat):Int),.agg ((Value.cells (Qe (k0)))++(Value.cells (Qe (k1)))++(Value.cells (Qe (k2)))),Qe c,.slice ad u.length cu,.slice U D.length cF] [Row G (cellsOf encPt m.P),Row F (cellsOf Zd m.T),Row t (cellsOf Zd m.S),Row ad (cellsOf Zz u),Row U (List.map Qi D)] (MadeP K m o k0 k1 k2 c u D):=by
 have e1:=hv.neP
 have c9:=hv.ne
 have nP:=hv.nP
 have nT:=hv.nT
 have hsF:=jM hq oo h0 h1 h2 h3
 refine fn_intro func32 I ntmps32 nb ?_
 intro S w0 a hS h
 replace h:=h.derive (R:=Row none (cellsOf Zz [])) (fun X _ h4=>absurd I h4)
 refine gC h<|zS (zx I fun b6=>zx I fun b8=>zx I fun b9=>zz zeroValue57 fun c3=>za I<|zn<|zs<|yF [0,2,3,4,5,6,7,1,8,9,10,11]<|au 0x34f ?_);clear h
 refine au 0x8 ?_
 refine ldY Gx ?_
 refine au 0xbe ?_
 refine ldY Gx ?_
 refine au 0xbe ?_
 refine au 0x8 ?_
 refine yf [_] I I call85 (nD m _ _ _ _ _ _ e1 c9 b7 oo oo oo) ?_;rintro v23 j5 ⟨aP,aT,aS,rfl,rfl⟩
 refine yf [_,_,_] I I call86 (Ot k0 k1 k2 c u _ _ d Ku hq oo oo h0 h1 h2 h3) ?_;rintro v30 j3 ⟨b,r,rfl,rfl⟩
 refine yp I (.build [(_,_),(_,_),(_,_),(_,_),(_,_)] I<|I4 _ _ _ _ _ _ _ _ _ _ _ _ _ _ _ _ _ _ _ _ _ _ _ _ _ _ _) (yz I zeroValue57 fun c6=>stV I I I Qj ?_)
 refine au 0x924b2f51f36f3112531a ?_;intro a w h
 refine lpG h [4,5,8,12,13,14,33,34] pkL (fun Y Z (i:Nat) a w=>i≤m.S.length ∧ ∃(a1:Option Addr) (c1:Nat) (o1:List (Nat×Obj)),(GrowO 1 3 (.slice a1 (List.map (fun s:Nat×Nat×Nat=>s.2.2)<|m.S.take i).length c1) (List.map (fun s:Nat×Nat×Nat=>s.2.2)<|m.S.take i).length (List.map Qi<|List.map (fun s:Nat×Nat×Nat=>s.2.2)<|m.S.take i) o1)∧St 85 S w0 ((15,(.slice a1 (List.map (fun s:Nat×Nat×Nat=>s.2.2)<|m.S.take i).length c1))::(35,nI i)::Y) (o1++((c6,bV (Xf ⟨m,o,k0,k1,k2,c,⟨b,MN k0 k1 k2 c u,r⟩,([]:List Gv)⟩ aP aT aS none m.P.length m.T.length m.S.length 0) 57)::((c3,bV (.agg #[.slice none 0 0,.slice none 0 0,.slice none 0 0,.int .i64 0,.int .u64 0,.string ⟨#[]⟩,.bool false,.int .u64 0,.string ⟨#[]⟩,.int .u64 0,.string ⟨#[]⟩,.bool false,.int .u64 0,.string ⟨#[]⟩,.int .u64 0,.string ⟨#[]⟩,.bool false,.int .u64 0,.string ⟨#[]⟩,.int .u64 0,.string ⟨#[]⟩,.bool false,.int .u64 0,.string ⟨#[]⟩,.slice none 0 0,.slice none 0 0]) 57)::((b9,bV (Qe<|c) 51)::((b8,bV (.agg ((Value.cells<|Qe<|k0)++(Value.cells<|Qe<|k1)++(Value.cells<|Qe<|k2))) 52)::((b6,bV (Qz m G F t cP cT cS) 42)::[])))))) Z a w) (fun i=>m.S.length-i) 0 (⟨Nat.zero_le _,none,0,[],GrowO.nil _ _,by exact(h).sub sA⟩) ?_;clear h
 rintro i a w ⟨i6,a1,c1,o1,a8,h⟩
 refine gC h<|au 0x12c31 ?_;intro a w h
 refine Zb h I (fun O=>?_) (fun O=>?_)
 ·have b2:i<m.S.length:=dT O
  obtain ⟨h6,e0,rfl⟩:=h.row_addr (ad:=t) (M:=cellsOf Zd m.S) mm (nE 3)
  refine gC h<|au 0x98f31917 ?_
  refine zD I mm (cells_lt (k:=3) dd (fun _=>rfl) m.S i oo) isAgg178 sizeOf178 (Zg (k:=3) (fun _=>rfl) ((fun _=>rfl)) m.S (0,0,0) i oo) (.inl I) ?_
  refine zz G5 fun k6=>stW I I Qg ?_
  refine zn<|zr<|zm I<|zp (.fA I Cw)<|au 0x51f ?_
  refine zB [(_,_)] I (Jf _) fun j6=>?_
  refine apM Qi (List.map (fun s:Nat×Nat×Nat=>s.2.2)<|m.S.take i) [(m.S.getD i (0,0,0)).2.2] a8 ?_ (hr:=by(try dsimp only);rw[List.length_map,List.length_take];omega);intro b4 e5 e4 a6 a w h
  refine gL h<|za I<|zn<|zr<|zp (.pN (i+1)<|.add I I)<|au 0x24 ?_;clear h;intro a w h
  rw[show List.map (fun s:Nat×Nat×Nat=>s.2.2) (m.S.take i)++[(m.S.getD i (0,0,0)).2.2]=List.map (fun s:Nat×Nat×Nat=>s.2.2) (m.S.take (i+1)) from C3 (f:=(fun s:Nat×Nat×Nat=>s.2.2)) b2] at h a6
  exact⟨i+1,⟨oo,b4,e5,e4,a6,by exact tO h⟩,oo⟩
 ·have a7:m.S.length=i:=dF O
  subst a7
  rw[List.take_length] at h a8
  obtain ⟨c7,c4,rfl,rfl,j4,W⟩:=GrowO.open a8 (by rw[List.length_map];exact b7)
  refine gC h<|au 0x4310e ?_;clear h;intro a w h
  refine Zc<|Yq h hS (vs:=[_]) I call58 (bu c7 c1 (List.map (fun s:Nat×Nat×Nat=>s.2.2) m.S) c4 (by rw[List.length_map];omega) _ [Row b (cellsOf Zz<|MN k0 k1 k2 c u),Row aP (cellsOf encPt m.P),Row aT (cellsOf Zd m.T),Row aS (cellsOf Zd m.S),Row none (cellsOf Zz []),Row G (cellsOf encPt m.P),Row F (cellsOf Zd m.T),Row t (cellsOf Zd m.S),Row ad (cellsOf Zz u),Row U (List.map Qi D)]) (List.Perm.refl _) ss ss ?_;clear h;rintro v46 i7 j0 a w ⟨rfl,rfl,rfl⟩ h
  have e9:(List.map (fun s:Nat×Nat×Nat=>s.2.2) m.S).length=((List.map (fun s:Nat×Nat×Nat=>s.2.2) m.S).mergeSort (fun x y=>decide (x≤y))).length:=by rw[List.length_mergeSort]
  rw[e9] at h W
  have b3:=W
  refine gL h<|au 0x43112 ?_;clear h;intro a w h
  refine Zc<|Yq h hS (vs:=[_]) I call87 (UN c7 c1 ((List.map (fun s:Nat×Nat×Nat=>s.2.2) m.S).mergeSort (fun x y=>decide (x≤y))) c4 (by rw[List.length_mergeSort,List.length_map];omega) b3 _ [Row b (cellsOf Zz<|MN k0 k1 k2 c u),Row aP (cellsOf encPt m.P),Row aT (cellsOf Zd m.T),Row aS (cellsOf Zd m.S),Row none (cellsOf Zz []),Row G (cellsOf encPt m.P),Row F (cellsOf Zd m.T),Row t (cellsOf Zd m.S),Row ad (cellsOf Zz u),Row U (List.map Qi D)]) (List.Perm.refl _) ss ss ?_;clear h;rintro k7 j1 i1 a w ⟨j7,rfl,rfl,rfl⟩ h
  rw[show Lib.compact ((List.map (fun s:Nat×Nat×Nat=>s.2.2) m.S).mergeSort (fun x y=>decide (x≤y)))=(mkU m.S) from rfl] at h
  replace h:=h.share hS (off:=0) (M:=List.map Qi (mkU m.S)) (fun k hk=>by rw[Nat.zero_add,List.getElem?_toArray,List.getElem?_append_left hk])
  have j8:=WY m.S
  refine gL h<|au 0x92401f ?_;clear h;intro a w h
  replace h:=h.gatherR (l:=Qu []) (fun _ hx=>nomatch hx)
  refine lpG h [4,5,8,12,13,14,33,34,35,48,49] pkL (fun Y Z (j:Nat) a w=>j≤(mkU m.S).length ∧ ∃(g:List Gv) (aG:Option Addr) (cG:Nat) (oG:List (Nat×Obj)),(GsOk k0 k1 k2 u D (mkU m.S) j g∧GrowO 5 104 (.slice aG (g).length cG) (g).length (cellsOf Jg<|g) oG)∧St 85 S w0 ((50,nI j)::Y) (oG++((c6,bV (Xf ⟨m,o,k0,k1,k2,c,⟨b,MN k0 k1 k2 c u,r⟩,g⟩ aP aT aS aG m.P.length m.T.length m.S.length cG) 57)::((c3,bV (.agg #[.slice none 0 0,.slice none 0 0,.slice none 0 0,.int .i64 0,.int .u64 0,.string ⟨#[]⟩,.bool false,.int .u64 0,.string ⟨#[]⟩,.int .u64 0,.string ⟨#[]⟩,.bool false,.int .u64 0,.string ⟨#[]⟩,.int .u64 0,.string ⟨#[]⟩,.bool false,.int .u64 0,.string ⟨#[]⟩,.int .u64 0,.string ⟨#[]⟩,.bool false,.int .u64 0,.string ⟨#[]⟩,.slice none 0 0,.slice none 0 0]) 57)::((b9,bV (Qe<|c) 51)::((b8,bV (.agg ((Value.cells<|Qe<|k0)++(Value.cells<|Qe<|k1)++(Value.cells<|Qe<|k2))) 52)::((b6,bV (Qz m G F t cP cT cS) 42)::[])))))) (Yi (Qu g)::Z) a w) (fun j=>(mkU m.S).length-j) 0 (⟨Nat.zero_le _,[],none,0,[],⟨⟨rfl,fun _ h=>absurd h (Nat.not_lt_zero _)⟩,GrowO.nil _ _⟩,by exact(h.factsSub (by exact hsA)).sub sA⟩) ?_;clear h
  rintro j a w ⟨h9,g,aG,cG,oG,⟨E,V⟩,h⟩
  refine gC h<|au 0x12c31 ?_;intro a w h
  refine Zb h I (fun H=>?_) (fun H=>?_)
  ·have e6:j<(mkU m.S).length:=dT H
   have k9:=E.1
   refine gC h<|au 0xf1f31917 ?_
   refine zD I mm (by rw[List.length_map];omega) isAgg3 sizeOf3 (Zr (enc:=Qi) (l:=(mkU m.S)) 0 oo) (.inr I) ?_
   refine au 0x43125 ?_
   refine zp (.build [(_,_)] I<|gh _) (zz EC fun j9=>stW I I Zi ?_)
   refine au 0x443112 ?_
   refine zw [_,_] I call88 (ou D ((mkU m.S).getD j 0) _ _ e7)<|zn ?_;clear h;intro a w h
   refine Zb h I (fun L=>?_) (fun L=>?_)
   ·refine gC h<|zr<|zm I<|zf [_,_] I call89 (CG u [] _ none _ 0 d 0 Ku 1 hq (CL 0 0) oo oo oo oo) ?_;rintro v60 h8 ⟨A,Q,rfl,rfl⟩
    refine zp (.fA I HS)<|stW I I QY ?_
    refine zp (.fA I Sj)<|stW I I EG ?_
    refine au 0x6ee6f94f32 ?_
    refine zB [(_,_)] I (N5 _ _ _ _ _) fun h7=>?_
    refine apC Jg g [(⟨(mkU m.S).getD j 0,true,⟨A,norm (u++[]),Q⟩,pl0,pl0⟩:Gv)] V ?_;intro n N b0 q a w h
    refine gL h<|au 0x94f ?_
    refine zt' I I Dx uu sizeOf55 I nb (by show((flat ((.slice n (g++[(⟨(mkU m.S).getD j 0,true,⟨A,norm (u++[]),Q⟩,pl0,pl0⟩:Gv)]).length N)) && true))=true;simp only[GrowO.flat (q)];rfl) ?_
    refine zn<|zr<|zp (.pN (j+1)<|.add I I)<|au 0x24 ?_;clear h;intro a w h
    replace h:=h.gatherR (l:=Qu [(⟨(mkU m.S).getD j 0,true,⟨A,norm (u++[]),Q⟩,pl0,pl0⟩:Gv)]) (by intro R hR;simp only[Qu,List.mem_cons,List.not_mem_nil,or_false] at hR;rcases hR with e|e|e<;>(rw[e];simp))
    replace h:=h.joinR (l:=Qu g) (k:=Qu [(⟨(mkU m.S).getD j 0,true,⟨A,norm (u++[]),Q⟩,pl0,pl0⟩:Gv)]) mm mm
    rw[←CZ] at h
    exact⟨j+1,⟨oo,_,n,N,b0,⟨E.snoc ⟨rfl,L.symm,.inr I,.inl I,.inl I⟩,q⟩,by exact tO h⟩,oo⟩
   ·refine gC h<|zr<|ldZ Gx ?_
    refine zm I<|zf [_,_] I call90 (QG k0 k1 k2 u _ _ d Ku hq oo oo h0 h1 h2) ?_;rintro k5 j2 ⟨v,C,z,B,rfl,rfl⟩
    refine zp (.fA I DU)<|stW I I cD ?_
    refine au 0x6ee6f94f32 ?_
    refine zB [(_,_)] I (N5 _ _ _ _ _) fun h7=>?_
    refine apC Jg g [(⟨(mkU m.S).getD j 0,false,pl0,⟨v,Yw k0 k1 u,C⟩,⟨z,Yw k1 k2 u,B⟩⟩:Gv)] V ?_;intro n N b0 q a w h
    refine gL h<|au 0x94f ?_
    refine zt' I I Dx uu sizeOf55 I nb (by show((flat ((.slice n (g++[(⟨(mkU m.S).getD j 0,false,pl0,⟨v,Yw k0 k1 u,C⟩,⟨z,Yw k1 k2 u,B⟩⟩:Gv)]).length N)) && true))=true;simp only[GrowO.flat (q)];rfl) ?_
    refine zn<|zr<|zp (.pN (j+1)<|.add I I)<|au 0x24 ?_;clear h;intro a w h
    replace h:=h.gatherR (l:=Qu [(⟨(mkU m.S).getD j 0,false,pl0,⟨v,Yw k0 k1 u,C⟩,⟨z,Yw k1 k2 u,B⟩⟩:Gv)]) (by intro R hR;simp only[Qu,List.mem_cons,List.not_mem_nil,or_false] at hR;rcases hR with e|e|e<;>(rw[e];simp))
    replace h:=h.joinR (l:=Qu g) (k:=Qu [(⟨(mkU m.S).getD j 0,false,pl0,⟨v,Yw k0 k1 u,C⟩,⟨z,Yw k1 k2 u,B⟩⟩:Gv)]) mm mm
    rw[←CZ] at h
    exact⟨j+1,⟨oo,_,n,N,b0,⟨E.snoc ⟨rfl,L.symm,.inl I,.inr I,.inr I⟩,q⟩,by exact tO h⟩,oo⟩
  ·have b1:(mkU m.S).length=j:=dF H
   subst b1
   replace h:=h.shareO' hS V
   have c5:GdG g:=E.good hq oo oo h0 h1 h2 (fun s hs=>(hv.sd s hs).2.2) e2
   have b5:PrV K (⟨m,o,k0,k1,k2,c,⟨b,MN k0 k1 k2 c u,r⟩,g⟩:Pr):=⟨ho,h0,h1,h2,hp,c8,h3,e8,hsF,c5,hv,e3⟩
   have h5:Et (⟨m,o,k0,k1,k2,c,⟨b,MN k0 k1 k2 c u,r⟩,g⟩:Pr)=E7 c m.S D:=Es (p:=(⟨m,o,k0,k1,k2,c,⟨b,MN k0 k1 k2 c u,r⟩,g⟩:Pr)) c5 E
   refine gC h<|au 0xe6f94f310e ?_
   refine zv [_] I call27 (SU aG _ cG<|Vr V)<|au 0x94f ?_
   refine stW I I Dx ?_
   refine au 0xfe3112 ?_
   refine zw [_] I call91 (SI K (⟨m,o,k0,k1,k2,c,⟨b,MN k0 k1 k2 c u,r⟩,g⟩:Pr) _ _ _ _ _ _ _ _ b5 hK) ?_;clear h;intro a w h
   rw[h5] at h
   refine gL h<|au 0x262f43125 ?_;clear h;intro a w h
   refine Zb h I (fun J=>?_) (fun J=>?_)
   ·have hx:E7 c m.S D=false:=by revert J;cases E7 c m.S D<;>simp
    rw[hx] at h
    refine gC h<|zS<|zp (.build [] I<|Mx)<|zm I<|stW I I Qj ?_
    refine au 0x625 ?_;clear h;intro a w h
    refine Qn (Ψ:=[]) h (Zw h I (rC Xh)<|.tmp I) ?_ ss
    exact .inr ⟨hx,rfl,rfl⟩
   ·have hx:E7 c m.S D=true:=by revert J;cases E7 c m.S D<;>simp
    refine gC h<|au 0xfe317 ?_
    refine stW I I Qj ?_
    refine au 0x625 ?_;clear h;intro a w h
    refine Qn (Ψ:=[Row aP (cellsOf encPt m.P),Row aT (cellsOf Zd m.T),Row aS (cellsOf Zd m.S),Row b (cellsOf Zz<|MN k0 k1 k2 c u),Row aG (cellsOf Jg g),Yi (Qu g)]) h (Zw h I (rC Xh)<|.tmp I) ?_ ss
    exact .inl ⟨hx,(⟨m,o,k0,k1,k2,c,⟨b,MN k0 k1 k2 c u,r⟩,g⟩:Pr),aP,aT,aS,aG,_,_,_,_,⟨rfl,rfl,rfl,rfl,rfl,rfl,rfl,E,b5⟩,rfl,rfl⟩
end
section
theorem Nb{c0 c1 c2 h j g k i l m c a f d e b:Value}: Zk true 9 #[c0,c1,c2,h,j,g,k,i,l,m,c,a,f,d,e,b] 0=some (.agg #[c0,c1,c2,h,j,g,k,i,l]):=rfl
theorem Yh(c e a b d:Int)(w:World): (Instr.buildSlice 69 5 [(0,.int .i64 c),(1,.int .i64 e),(2,.int .i64 a),(3,.int .i64 b),(4,.int .i64 d)].toArray).run prog w=.ok (.slice (some ⟨w.heap.size,0,none⟩) 5 5) (w.alloc (.cells #[.int .i64 c,.int .i64 e,.int .i64 a,.int .i64 b,.int .i64 d] 3 (0,0))):=by
 simp[go_sem]
theorem TI{P:Program}{n:Nat}{S:Nat→Prop}{w0:World}{L:List (Nat×Value)}{σ:List (Nat×Obj)}{Φ g:List Zp}{ops:Array Oper}{i d:Nat}{f:FuncId}{args:Array Operand}{a:Array TypeId}{ty:TypeId}{pos:String}{c:Array Edge}{vs:List Value}{post:Value→List Zp→Prop}{C:List (Nat×Value)→List (Nat×Obj)→List Zp→Prop}(ho:ops[i]?=some ⟨some d,.call ⟨.value (.func f),args,a⟩,ty,pos,c,none⟩)(ha:args.toList.map (Fx.ev L)=vs.map some)(hc:∀args w,(callFunc f args).run P w=.ok (.enter f args) w)(hf:Ctr P f vs g post)(b:∀R∈g,R∈Φ)(hd:d<n)(k:∀v Ψ,post v Ψ→C ((d,v)::L) σ (Ψ++Φ)):
  Al P ops n S w0 i ⟨some d,.call ⟨.value (.func f),args,a⟩,ty,pos,c,none⟩ C L σ Φ :=
 fun _ _ _ h=>Jo ho (Mv h ha hc hf b hd fun u Ψ _ j hx e=>⟨⟨fun _=>hx,fun _ _ _ _ he=>by cases he⟩,u,σ,Ψ++Φ,rfl,e,k u Ψ j⟩)
theorem Cz{P:Program}{f:FuncId}{args:List Value}{Φ:List Zp}{p q:Value→List Zp→Prop}(h:Ctr P f args Φ p)(c:∀v Ψ,p v Ψ→q v Ψ): Ctr P f args Φ q:=fun X w b a =>
 (h X w b a).mono fun e w' ⟨v,Ψ,he,hv,hr⟩=>⟨v,Ψ,he,c v Ψ hv,hr⟩
structure MOk(m:M25)(M:Ms): Prop where
 v:MV 4 M
 cn:jo M.T
 s0:0<M.S.length
 s1:M.S.length≤300
 s4:∀s∈M.S,s.2.2≤4
 ctr:∀(adC:Option Addr) (cC:Nat),Ctr prog 31 [Ew m adC cC] [Row adC (List.map Bb m.cells)] (fun v Ψ => ∃aP aT aS cP cT cS,v=Qz M aP aT aS cP cT cS∧Ψ=[Row aP (cellsOf encPt M.P),Row aT (cellsOf Zd M.T),Row aS (cellsOf Zd M.S)])
def JH(x:Pn): Nat:=if x.two=true then 2 else 1
theorem Em(x:Pn): JH x=1∨JH x=2:=by unfold JH;split<;>simp
theorem FN(x:Pn)(b a:Option Addr)(c d:Nat): Ji prog 33 [CO x b a c d] (.int .i64 ((JH x:Nat):Int)):=by
 unfold JH
 by_cases h:x.two=true
 ·rw[if_pos h];exact JP x b a c d h
 ·rw[if_neg h];exact JA x b a c d (by simpa using h)
theorem K5(x:Pn)(a b:Option Addr)(e d n:Nat)(hf:x.fixed=((n:Nat):Int))(f:n≤255): Ctr prog 37 [CO x a b e d] [] (fun v Ψ => ∃ad c,v=.slice ad (Vl n 5).length c∧Ψ=[Row ad (List.map Qi (Vl n 5))]):=Fz (av x a b e d n hf f)
theorem HJ{x:Pn}(hx:QD x): Zn (((x.c.tmod 4:Int):Rat)/((2:Int):Rat))≤4∧0≤(((x.c.tmod 4:Int):Rat)/((2:Int):Rat)):=by
 obtain ⟨a,b⟩:=hx.c
 have hm:x.c.tmod 4=0∨x.c.tmod 4=1∨x.c.tmod 4=2∨x.c.tmod 4=3:=by
  have h1:=Int.tmod_lt_of_pos x.c (show(0:Int)<4 by decide)
  have d:0≤x.c.tmod 4:=by rw[Int.tmod_eq_emod_of_nonneg a];omega
  omega
 rcases hm with e|e|e|e<;>rw[e]<;>exact⟨Ks _ 2 dd dd dd dd,by decide +kernel⟩
theorem ZF{a b g:Int}(ha:1≤a∧a≤3)(f: -2≤b∧b≤2)(h:1≤g∧g≤3): (0:Rat)<((a*a:Int):Rat)∧((a*b:Int):Rat)*((a*b:Int):Rat)<((a*a:Int):Rat)*((b*b+g*g:Int):Rat)∧Zn ((a*a:Int):Rat)≤2∧Zn ((a*b:Int):Rat)≤2∧Zn ((b*b+g*g:Int):Rat)≤2:=by
 have e:a=1∨a=2∨a=3:=oo
 have d:b = -2∨b = -1∨b=0∨b=1∨b=2:=oo
 have c:g=1∨g=2∨g=3:=oo
 rcases e with rfl|rfl|rfl<;>rcases d with rfl|rfl|rfl|rfl|rfl<;>rcases c with rfl|rfl|rfl<;>exact⟨by decide +kernel,by decide +kernel,Qa _ dd dd,Qa _ dd dd,Qa _ dd dd⟩
theorem eN{c:Rat}{T:List (Nat×Nat×Nat)}(a:0<T.length)(h:∀s∈T,s.2.2≤4): E7 c T [0,1,2,3,4]=true:=by
 unfold E7
 rw[Bool.or_eq_true];right
 have hs:=getD_mem T (d:=(0,0,0)) a
 refine List.any_eq_true.2 ⟨_,hs,?_⟩
 have b:=h _ hs
 have:(T.getD 0 (0,0,0)).2.2=0∨(T.getD 0 (0,0,0)).2.2=1∨(T.getD 0 (0,0,0)).2.2=2∨(T.getD 0 (0,0,0)).2.2=3∨(T.getD 0 (0,0,0)).2.2=4:=oo
 rcases this with e|e|e|e|e<;>rw[e]<;>decide
theorem nm(x:Pn)(A B:Option Addr)(cC cU d n:Nat)(m:Ms)(hx:QD x)(D:MOk x.M m)(C:∀t∈x.u,OkT t)(hd:d≤4)(hc:x.u.length≤cU)(hf:x.fixed=((n:Nat):Int))(hn:n≤255)(hh:E7 (((x.c.tmod 4:Int):Rat)/((2:Int):Rat)) m.S (Vl n 5)=true): Ctr prog 13 [CO x A B cC cU,.int .i64 ((d:Nat):Int)] [Row A (List.map Bb x.M.cells),Row B (cellsOf D2 x.u)] (fun v Ψ => ∃p fx k i j e N K L V,PrM 4 m (JH x) ((stA x*stA x:Int):Rat) ((stA x*stB x:Int):Rat) ((stB x*stB x+stG x*stG x:Int):Rat) (((x.c.tmod 4:Int):Rat)/((2:Int):Rat)) (exL x d) fx p∧Et p=true∧v=.tuple #[Xf p k i j e N K L V,.int .i64 0]∧Ψ=[Row k (cellsOf encPt p.m.P),Row i (cellsOf Zd p.m.T),Row j (cellsOf Zd p.m.S),Row p.f.a (cellsOf Zz p.f.l),Row e (cellsOf Jg p.G),Yi (Qu p.G)]):=by
 obtain ⟨E,J,a8,b3,b1⟩:=ZF (VP hx) (VO x) (VN hx)
 obtain ⟨b0,R⟩:=HJ hx
 have hq:=lX C (show d≤12 by omega)
 refine fnI func13 I ntmps13 fun S w0 hS=>zS (zx I fun b2=>zz zeroValue57 fun b4=>au 0x0bf3125 ?_)
 refine ldZ Nb ?_
 refine zF [_] call31 (D.ctr _ _) ?_;rintro v11 a6 ⟨aP,aT,aS,N,K,L,rfl,rfl⟩
 refine zz zeroValue42 fun b6=>stW I I Qg ?_
 refine zn<|zs<|yF [0,1,3,5,7,8,10,2,4,6,9,11,12,13,14,15,16,17,18]<|au 0x34f ?_
 refine au 0xa2f ?_
 refine au 0xa2f ?_
 refine au 0xa2f ?_
 refine au 0xa2f ?_
 refine au 0xa2f8 ?_
 refine yv [_] I I call33 (FN x _ _ _ _)<|yv [_] I I call34 (Dp x _ _ _ _ hx)<|yv [_] I I call35 (B9 x _ _ _ _ hx) ?_
 refine Zs I kk (vs:=[_,_]) I call36 (Bg x _ _ _ _ d C oo hc) (by exact hsA) dd ?_;rintro v22 a7 ⟨H,U,rfl,rfl⟩
 refine Zs I kk (vs:=[_]) I call37 (K5 x _ _ _ _ n hf hn) (by exact hsA) dd ?_;rintro v24 Z ⟨F,Y,rfl,rfl⟩
 refine Zs I kk (vs:=[_,_,_,_,_,_]) I call32 (Cz (EA 4 m _ _ _ _ _ _ (JH x) ((stA x*stA x:Int):Rat) ((stA x*stB x:Int):Rat) ((stB x*stB x+stG x*stG x:Int):Rat) (((x.c.tmod 4:Int):Rat)/((2:Int):Rat)) (exL x d) H U d 31 (Vl n 5) F Y D.v D.cn dd (Em x) hq oo dd oo oo oo oo E J R (by first|decide|(have:=As n 5;omega)) D.s0 D.s1) (q:=fun v Ψ => ∃p k i j e N K L V,PrM 4 m (JH x) ((stA x*stA x:Int):Rat) ((stA x*stB x:Int):Rat) ((stB x*stB x+stG x*stG x:Int):Rat) (((x.c.tmod 4:Int):Rat)/((2:Int):Rat)) (exL x d) (Vl n 5) p∧v=.tuple #[Xf p k i j e N K L V,.int .i64 0]∧Ψ=[Row k (cellsOf encPt p.m.P),Row i (cellsOf Zd p.m.T),Row j (cellsOf Zd p.m.S),Row p.f.a (cellsOf Zz p.f.l),Row e (cellsOf Jg p.G),Yi (Qu p.G)]) (fun v Ψ h=>h.elim (fun h=>h.2) (fun h=>absurd h.1 (by rw[hh];decide)))) (by exact hsA) dd ?_;rintro v25 a1 ⟨r,y,s,z,o,X,Q,W,O,b,rfl,rfl⟩
 refine au 0x7e7e8 ?_
 refine yz I zeroValue57 fun b7=>stV I I I Qj ?_
 refine au 0x4fe317d264f4311a3e ?_
 refine stW I I Qj ?_
 refine au 0x625 ?_;intro a w h
 refine Qn (Ψ:=[Row y (cellsOf encPt r.m.P),Row s (cellsOf Zd r.m.T),Row z (cellsOf Zd r.m.S),Row r.f.a (cellsOf Zz r.f.l),Row o (cellsOf Jg r.G),Yi (Qu r.G)]) h (Zw h I (rC Xh)<|.tmp I) ?_ ss
 exact⟨r,_,y,s,z,o,X,Q,W,O,b,by rw[Es b.v.G (by rw[b.q0,b.q1,b.q2,b.qm];exact b.g),b.qc,b.qm];exact hh,rfl,rfl⟩
theorem np(x:Pn)(a1 a6:Option Addr)(cC cU d n:Nat)(m:Ms)(hx:QD x)(B:MOk x.M m)(N:∀t∈x.u,OkT t)(hd:d≤4)(hc:x.u.length≤cU)(hf:x.fixed=((n:Nat):Int))(hn:n≤255)(hh:E7 (((x.c.tmod 4:Int):Rat)/((2:Int):Rat)) m.S (Vl n 5)=false): Ctr prog 13 [CO x a1 a6 cC cU,.int .i64 ((d:Nat):Int)] [Row a1 (List.map Bb x.M.cells),Row a6 (cellsOf D2 x.u)] (fun v Ψ => ∃p fx z s y r W U V X,PrM 4 m (JH x) ((stA x*stA x:Int):Rat) ((stA x*stB x:Int):Rat) ((stB x*stB x+stG x*stG x:Int):Rat) (((x.c.tmod 4:Int):Rat)/((2:Int):Rat)) (exL x d) fx p∧Et p=true∧v=.tuple #[Xf p z s y r W U V X,.int .i64 0]∧Ψ=[Row z (cellsOf encPt p.m.P),Row s (cellsOf Zd p.m.T),Row y (cellsOf Zd p.m.S),Row p.f.a (cellsOf Zz p.f.l),Row r (cellsOf Jg p.G),Yi (Qu p.G)]):=by
 obtain ⟨C,D,c3,c6,c5⟩:=ZF (VP hx) (VO x) (VN hx)
 obtain ⟨c4,R⟩:=HJ hx
 have hq:=lX N (show d≤12 by omega)
 have Y:=eN (c:=(((x.c.tmod 4:Int):Rat)/((2:Int):Rat))) B.s0 B.s4
 refine fnI func13 I ntmps13 fun S w0 hS=>zS (zx I fun b2=>zz zeroValue57 fun b4=>au 0x0bf3125 ?_)
 refine ldZ Nb ?_
 refine zF [_] call31 (B.ctr _ _) ?_;rintro v11 b8 ⟨aP,aT,aS,W,U,V,rfl,rfl⟩
 refine zz zeroValue42 fun b6=>stW I I Qg ?_
 refine zn<|zs<|yF [0,1,3,5,7,8,10,2,4,6,9,11,12,13,14,15,16,17,18]<|au 0x34f ?_
 refine au 0xa2f ?_
 refine au 0xa2f ?_
 refine au 0xa2f ?_
 refine au 0xa2f ?_
 refine au 0xa2f8 ?_
 refine yv [_] I I call33 (FN x _ _ _ _)<|yv [_] I I call34 (Dp x _ _ _ _ hx)<|yv [_] I I call35 (B9 x _ _ _ _ hx) ?_
 refine Zs I kk (vs:=[_,_]) I call36 (Bg x _ _ _ _ d N oo hc) (by exact hsA) dd ?_;rintro v22 b9 ⟨a8,b0,rfl,rfl⟩
 refine Zs I kk (vs:=[_]) I call37 (K5 x _ _ _ _ n hf hn) (by exact hsA) dd ?_;rintro v24 b3 ⟨a7,b1,rfl,rfl⟩
 refine Zs I kk (vs:=[_,_,_,_,_,_]) I call32 (Cz (EA 4 m _ _ _ _ _ _ (JH x) ((stA x*stA x:Int):Rat) ((stA x*stB x:Int):Rat) ((stB x*stB x+stG x*stG x:Int):Rat) (((x.c.tmod 4:Int):Rat)/((2:Int):Rat)) (exL x d) a8 b0 d 31 (Vl n 5) a7 b1 B.v B.cn dd (Em x) hq oo dd oo oo oo oo C D R (by first|decide|(have:=As n 5;omega)) B.s0 B.s1) (q:=fun v Ψ=>v=.tuple #[UR,.int .i64 6]∧Ψ=[]) (fun v Ψ h=>h.elim (fun h=>absurd h.1 (by rw[hh];decide)) (fun h=>h.2))) (by exact hsA) dd ?_;rintro v25 b5 ⟨rfl,rfl⟩
 refine au 0x7e7e8 ?_
 refine yz I zeroValue57 fun b7=>stV I I I Qj ?_
 refine au 0x1e232f4311a3e ?_
 refine yE [0,1,3,5,7,8,2,4,6,9,10,11,12,13,14,15,16]<|au 0x34f ?_
 refine au 0xa2f ?_
 refine au 0xa2f ?_
 refine au 0xa2f ?_
 refine au 0xa2f ?_
 refine au 0x8 ?_
 refine E8 10 [4,6,9,11,12,13,14,15,16] I I kk dd ?_ ?_
 ·refine F7 (vs:=[_]) I I call33 (FN x _ _ _ _) dd ?_
  refine E8 10 [6,9,11,12,13,14,15,16] I I kk dd ?_ ?_
  ·refine F7 (vs:=[_]) I I call34 (Dp x _ _ _ _ hx) dd ?_
   refine E8 10 [9,11,12,13,14,15,16] I I kk dd ?_ ?_
   ·refine F7 (vs:=[_]) I I call35 (B9 x _ _ _ _ hx) dd ?_
    refine E8 10 [11,12,13,14,15,16] I I kk dd ?_ ?_
    ·refine TI (vs:=[_,_]) I I call36 (Bg x _ _ _ _ d N oo hc) (by exact hsA) dd ?_;rintro v40 Q ⟨A,H,rfl,rfl⟩
     refine Gj hS I kk [(_,_),(_,_),(_,_),(_,_),(_,_)] I (Yh _ _ _ _ _) (List.map Qi [0,1,2,3,4]) I dd ?_;intro L
     refine Zs I kk (vs:=[_,_,_,_,_,_]) I call32 (Cz (EA 4 m _ _ _ _ _ _ (JH x) ((stA x*stA x:Int):Rat) ((stA x*stB x:Int):Rat) ((stB x*stB x+stG x*stG x:Int):Rat) (((x.c.tmod 4:Int):Rat)/((2:Int):Rat)) (exL x d) A H d 31 [0,1,2,3,4] (some ⟨L,0,none⟩) 5 B.v B.cn dd (Em x) hq oo dd oo oo oo oo C D R (by first|decide|(have:=As n 5;omega)) B.s0 B.s1) (q:=fun v Ψ => ∃p z s y r W U V X,PrM 4 m (JH x) ((stA x*stA x:Int):Rat) ((stA x*stB x:Int):Rat) ((stB x*stB x+stG x*stG x:Int):Rat) (((x.c.tmod 4:Int):Rat)/((2:Int):Rat)) (exL x d) [0,1,2,3,4] p∧v=.tuple #[Xf p z s y r W U V X,.int .i64 0]∧Ψ=[Row z (cellsOf encPt p.m.P),Row s (cellsOf Zd p.m.T),Row y (cellsOf Zd p.m.S),Row p.f.a (cellsOf Zz p.f.l),Row r (cellsOf Jg p.G),Yi (Qu p.G)]) (fun v Ψ h=>h.elim (fun h=>h.2) (fun h=>absurd h.1 (by rw[Y];decide)))) (by exact hsA) dd ?_;rintro Z O ⟨i,k,j,o,e,K,F,J,E,b,rfl,rfl⟩
     refine au 0x7e7e8 ?_
     refine stV I I I Qj ?_
     refine au 0x4fe31a3e ?_
     refine stW I I Qj ?_
     refine au 0x625 ?_;intro a w h
     refine Qn (Ψ:=[Row k (cellsOf encPt i.m.P),Row j (cellsOf Zd i.m.T),Row o (cellsOf Zd i.m.S),Row i.f.a (cellsOf Zz i.f.l),Row e (cellsOf Jg i.G),Yi (Qu i.G)]) h (Zw h I (rC Xh)<|.tmp I) ?_ ss
     exact⟨i,_,k,j,o,e,K,F,J,E,b,by rw[Es b.v.G (by rw[b.q0,b.q1,b.q2,b.qm];exact b.g),b.qc,b.qm];exact Y,rfl,rfl⟩
    ·refine AM hS I [(_,_),(_,_),(_,_),(_,_),(_,_)] I (Yh _ _ _ _ _) (List.map Qi [0,1,2,3,4]) I dd ?_;intro L
     refine Zs I kk (vs:=[_,_]) I call36 (Bg x _ _ _ _ d N oo hc) (by exact hsA) dd ?_;rintro v40 Q ⟨A,H,rfl,rfl⟩
     refine Zs I kk (vs:=[_,_,_,_,_,_]) I call32 (Cz (EA 4 m _ _ _ _ _ _ (JH x) ((stA x*stA x:Int):Rat) ((stA x*stB x:Int):Rat) ((stB x*stB x+stG x*stG x:Int):Rat) (((x.c.tmod 4:Int):Rat)/((2:Int):Rat)) (exL x d) A H d 31 [0,1,2,3,4] (some ⟨L,0,none⟩) 5 B.v B.cn dd (Em x) hq oo dd oo oo oo oo C D R (by first|decide|(have:=As n 5;omega)) B.s0 B.s1) (q:=fun v Ψ => ∃p z s y r W U V X,PrM 4 m (JH x) ((stA x*stA x:Int):Rat) ((stA x*stB x:Int):Rat) ((stB x*stB x+stG x*stG x:Int):Rat) (((x.c.tmod 4:Int):Rat)/((2:Int):Rat)) (exL x d) [0,1,2,3,4] p∧v=.tuple #[Xf p z s y r W U V X,.int .i64 0]∧Ψ=[Row z (cellsOf encPt p.m.P),Row s (cellsOf Zd p.m.T),Row y (cellsOf Zd p.m.S),Row p.f.a (cellsOf Zz p.f.l),Row r (cellsOf Jg p.G),Yi (Qu p.G)]) (fun v Ψ h=>h.elim (fun h=>h.2) (fun h=>absurd h.1 (by rw[Y];decide)))) (by exact hsA) dd ?_;rintro Z O ⟨i,k,j,o,e,K,F,J,E,b,rfl,rfl⟩
     refine au 0x7e7e8 ?_
     refine stV I I I Qj ?_
     refine au 0x4fe31a3e ?_
     refine stW I I Qj ?_
     refine au 0x625 ?_;intro a w h
     refine Qn (Ψ:=[Row k (cellsOf encPt i.m.P),Row j (cellsOf Zd i.m.T),Row o (cellsOf Zd i.m.S),Row i.f.a (cellsOf Zz i.f.l),Row e (cellsOf Jg i.G),Yi (Qu i.G)]) h (Zw h I (rC Xh)<|.tmp I) ?_ ss
     exact⟨i,_,k,j,o,e,K,F,J,E,b,by rw[Es b.v.G (by rw[b.q0,b.q1,b.q2,b.qm];exact b.g),b.qc,b.qm];exact Y,rfl,rfl⟩
   ·refine AM hS I [(_,_),(_,_),(_,_),(_,_),(_,_)] I (Yh _ _ _ _ _) (List.map Qi [0,1,2,3,4]) I dd ?_;intro L
    refine yv [_] I I call35 (B9 x _ _ _ _ hx) ?_
    refine Zs I kk (vs:=[_,_]) I call36 (Bg x _ _ _ _ d N oo hc) (by exact hsA) dd ?_;rintro v40 Q ⟨A,H,rfl,rfl⟩
    refine Zs I kk (vs:=[_,_,_,_,_,_]) I call32 (Cz (EA 4 m _ _ _ _ _ _ (JH x) ((stA x*stA x:Int):Rat) ((stA x*stB x:Int):Rat) ((stB x*stB x+stG x*stG x:Int):Rat) (((x.c.tmod 4:Int):Rat)/((2:Int):Rat)) (exL x d) A H d 31 [0,1,2,3,4] (some ⟨L,0,none⟩) 5 B.v B.cn dd (Em x) hq oo dd oo oo oo oo C D R (by first|decide|(have:=As n 5;omega)) B.s0 B.s1) (q:=fun v Ψ => ∃p z s y r W U V X,PrM 4 m (JH x) ((stA x*stA x:Int):Rat) ((stA x*stB x:Int):Rat) ((stB x*stB x+stG x*stG x:Int):Rat) (((x.c.tmod 4:Int):Rat)/((2:Int):Rat)) (exL x d) [0,1,2,3,4] p∧v=.tuple #[Xf p z s y r W U V X,.int .i64 0]∧Ψ=[Row z (cellsOf encPt p.m.P),Row s (cellsOf Zd p.m.T),Row y (cellsOf Zd p.m.S),Row p.f.a (cellsOf Zz p.f.l),Row r (cellsOf Jg p.G),Yi (Qu p.G)]) (fun v Ψ h=>h.elim (fun h=>h.2) (fun h=>absurd h.1 (by rw[Y];decide)))) (by exact hsA) dd ?_;rintro Z O ⟨i,k,j,o,e,K,F,J,E,b,rfl,rfl⟩
    refine au 0x7e7e8 ?_
    refine stV I I I Qj ?_
    refine au 0x4fe31a3e ?_
    refine stW I I Qj ?_
    refine au 0x625 ?_;intro a w h
    refine Qn (Ψ:=[Row k (cellsOf encPt i.m.P),Row j (cellsOf Zd i.m.T),Row o (cellsOf Zd i.m.S),Row i.f.a (cellsOf Zz i.f.l),Row e (cellsOf Jg i.G),Yi (Qu i.G)]) h (Zw h I (rC Xh)<|.tmp I) ?_ ss
    exact⟨i,_,k,j,o,e,K,F,J,E,b,by rw[Es b.v.G (by rw[b.q0,b.q1,b.q2,b.qm];exact b.g),b.qc,b.qm];exact Y,rfl,rfl⟩
  ·refine AM hS I [(_,_),(_,_),(_,_),(_,_),(_,_)] I (Yh _ _ _ _ _) (List.map Qi [0,1,2,3,4]) I dd ?_;intro L
   refine yv [_] I I call34 (Dp x _ _ _ _ hx)<|yv [_] I I call35 (B9 x _ _ _ _ hx) ?_
   refine Zs I kk (vs:=[_,_]) I call36 (Bg x _ _ _ _ d N oo hc) (by exact hsA) dd ?_;rintro v40 Q ⟨A,H,rfl,rfl⟩
   refine Zs I kk (vs:=[_,_,_,_,_,_]) I call32 (Cz (EA 4 m _ _ _ _ _ _ (JH x) ((stA x*stA x:Int):Rat) ((stA x*stB x:Int):Rat) ((stB x*stB x+stG x*stG x:Int):Rat) (((x.c.tmod 4:Int):Rat)/((2:Int):Rat)) (exL x d) A H d 31 [0,1,2,3,4] (some ⟨L,0,none⟩) 5 B.v B.cn dd (Em x) hq oo dd oo oo oo oo C D R (by first|decide|(have:=As n 5;omega)) B.s0 B.s1) (q:=fun v Ψ => ∃p z s y r W U V X,PrM 4 m (JH x) ((stA x*stA x:Int):Rat) ((stA x*stB x:Int):Rat) ((stB x*stB x+stG x*stG x:Int):Rat) (((x.c.tmod 4:Int):Rat)/((2:Int):Rat)) (exL x d) [0,1,2,3,4] p∧v=.tuple #[Xf p z s y r W U V X,.int .i64 0]∧Ψ=[Row z (cellsOf encPt p.m.P),Row s (cellsOf Zd p.m.T),Row y (cellsOf Zd p.m.S),Row p.f.a (cellsOf Zz p.f.l),Row r (cellsOf Jg p.G),Yi (Qu p.G)]) (fun v Ψ h=>h.elim (fun h=>h.2) (fun h=>absurd h.1 (by rw[Y];decide)))) (by exact hsA) dd ?_;rintro Z O ⟨i,k,j,o,e,K,F,J,E,b,rfl,rfl⟩
   refine au 0x7e7e8 ?_
   refine stV I I I Qj ?_
   refine au 0x4fe31a3e ?_
   refine stW I I Qj ?_
   refine au 0x625 ?_;intro a w h
   refine Qn (Ψ:=[Row k (cellsOf encPt i.m.P),Row j (cellsOf Zd i.m.T),Row o (cellsOf Zd i.m.S),Row i.f.a (cellsOf Zz i.f.l),Row e (cellsOf Jg i.G),Yi (Qu i.G)]) h (Zw h I (rC Xh)<|.tmp I) ?_ ss
   exact⟨i,_,k,j,o,e,K,F,J,E,b,by rw[Es b.v.G (by rw[b.q0,b.q1,b.q2,b.qm];exact b.g),b.qc,b.qm];exact Y,rfl,rfl⟩
 ·refine AM hS I [(_,_),(_,_),(_,_),(_,_),(_,_)] I (Yh _ _ _ _ _) (List.map Qi [0,1,2,3,4]) I dd ?_;intro L
  refine yv [_] I I call33 (FN x _ _ _ _)<|yv [_] I I call34 (Dp x _ _ _ _ hx)<|yv [_] I I call35 (B9 x _ _ _ _ hx) ?_
  refine Zs I kk (vs:=[_,_]) I call36 (Bg x _ _ _ _ d N oo hc) (by exact hsA) dd ?_;rintro v40 Q ⟨A,H,rfl,rfl⟩
  refine Zs I kk (vs:=[_,_,_,_,_,_]) I call32 (Cz (EA 4 m _ _ _ _ _ _ (JH x) ((stA x*stA x:Int):Rat) ((stA x*stB x:Int):Rat) ((stB x*stB x+stG x*stG x:Int):Rat) (((x.c.tmod 4:Int):Rat)/((2:Int):Rat)) (exL x d) A H d 31 [0,1,2,3,4] (some ⟨L,0,none⟩) 5 B.v B.cn dd (Em x) hq oo dd oo oo oo oo C D R (by first|decide|(have:=As n 5;omega)) B.s0 B.s1) (q:=fun v Ψ => ∃p z s y r W U V X,PrM 4 m (JH x) ((stA x*stA x:Int):Rat) ((stA x*stB x:Int):Rat) ((stB x*stB x+stG x*stG x:Int):Rat) (((x.c.tmod 4:Int):Rat)/((2:Int):Rat)) (exL x d) [0,1,2,3,4] p∧v=.tuple #[Xf p z s y r W U V X,.int .i64 0]∧Ψ=[Row z (cellsOf encPt p.m.P),Row s (cellsOf Zd p.m.T),Row y (cellsOf Zd p.m.S),Row p.f.a (cellsOf Zz p.f.l),Row r (cellsOf Jg p.G),Yi (Qu p.G)]) (fun v Ψ h=>h.elim (fun h=>h.2) (fun h=>absurd h.1 (by rw[Y];decide)))) (by exact hsA) dd ?_;rintro Z O ⟨i,k,j,o,e,K,F,J,E,b,rfl,rfl⟩
  refine au 0x7e7e8 ?_
  refine stV I I I Qj ?_
  refine au 0x4fe31a3e ?_
  refine stW I I Qj ?_
  refine au 0x625 ?_;intro a w h
  refine Qn (Ψ:=[Row k (cellsOf encPt i.m.P),Row j (cellsOf Zd i.m.T),Row o (cellsOf Zd i.m.S),Row i.f.a (cellsOf Zz i.f.l),Row e (cellsOf Jg i.G),Yi (Qu i.G)]) h (Zw h I (rC Xh)<|.tmp I) ?_ ss
  exact⟨i,_,k,j,o,e,K,F,J,E,b,by rw[Es b.v.G (by rw[b.q0,b.q1,b.q2,b.qm];exact b.g),b.qc,b.qm];exact Y,rfl,rfl⟩
theorem C_pnOf(x:Pn)(b e:Option Addr)(q o d n:Nat)(m:Ms)(hx:QD x)(r:MOk x.M m)(j:∀t∈x.u,OkT t)(hd:d≤4)(hc:x.u.length≤o)(hf:x.fixed=((n:Nat):Int))(w:n≤255): Ctr prog 13 [CO x b e q o,.int .i64 ((d:Nat):Int)] [Row b (List.map Bb x.M.cells),Row e (cellsOf D2 x.u)] (fun v Ψ => ∃p z k g i h C B y A,PrM 4 m (JH x) ((stA x*stA x:Int):Rat) ((stA x*stB x:Int):Rat) ((stB x*stB x+stG x*stG x:Int):Rat) (((x.c.tmod 4:Int):Rat)/((2:Int):Rat)) (exL x d) z p∧Et p=true∧v=.tuple #[Xf p k g i h C B y A,.int .i64 0]∧Ψ=[Row k (cellsOf encPt p.m.P),Row g (cellsOf Zd p.m.T),Row i (cellsOf Zd p.m.S),Row p.f.a (cellsOf Zz p.f.l),Row h (cellsOf Jg p.G),Yi (Qu p.G)]):=by
 cases s:E7 (((x.c.tmod 4:Int):Rat)/((2:Int):Rat)) m.S (Vl n 5) with
 | true=>exact nm x b e q o d n m hx r j hd hc hf w s
 | false=>exact np x b e q o d n m hx r j hd hc hf w s
end
section
structure Li where
 a:Option Addr
 l:List Nat
 c:Nat
abbrev li0:Li:=⟨none,[],0⟩
abbrev Fl(x:Li): Value:=.slice x.a x.l.length x.c
abbrev AA(x:Li): Zp:=Row x.a (List.map Qi x.l)
abbrev abE(e:Ed): Nat×Nat:=(e.a,e.b)
def Gn(n:Nat)(E:List Ed): Nat→List ((Nat×Nat)×Nat)
 | 0=>[]
 | i+1=>Kl (Gn n E i) ((E.getD i ed0).a,(E.getD i ed0).b) (n+i)
theorem iI(n:Nat)(E:List Ed): ∀i,∀p∈Gn n E i,p.2<n+i
 | 0=>fun _ h=>nomatch h
 | i+1=>fun p a=>by
  rcases ET a with rfl|a
  ·exact Nat.lt_succ_self _
  ·have:=iI n E i p a;omega
theorem kN{n:Nat}(b:0<n)(E:List Ed)(i:Nat)(u:Nat×Nat): (Zu (Gn n E i) u).getD 0<n+i:=by
 cases a:Zu (Gn n E i) u with
 | none=>show 0<n+i;omega
 | some y=>exact iI n E i _ (Fa a)
abbrev OC(m:Ms)(e:Ed): Pt:=(((pt m e.a).1+(pt m e.b).1)*(((1:Int):Rat)/((2:Int):Rat)),((pt m e.a).2+(pt m e.b).2)*(((1:Int):Rat)/((2:Int):Rat)))
abbrev numT(m:Ms)(u:Nat×Nat): Nat:=(Zu (Gn m.P.length (Za m.T) (Za m.T).length) u).getD 0
def OE(m:Ms)(o:Nat)(t:Nat×Nat×Nat): List Nat:=if o=2 then [t.1,t.2.1,t.2.2,numT m (Zo t.2.1 t.2.2),numT m (Zo t.2.2 t.1),numT m (Zo t.1 t.2.1)] else [t.1,t.2.1,t.2.2]
def KY(m:Ms)(o:Nat): Nat:=if o=2 then m.P.length+(Za m.T).length else m.P.length
theorem P2{K:Nat}{m:Ms}(hv:MV K m)(o:Nat){t:Nat×Nat×Nat}(ht:t∈m.T): ∀x∈OE m o t,x<KY m o:=by
 obtain ⟨c,b,a,_,_,_⟩:=Xz.1 (hv.num t ht)
 have h:=fun u=>kN hv.neP (Za m.T) (Za m.T).length u
 intro x hx
 unfold OE KY at *
 by_cases e:o=2
 ·rw[if_pos e] at hx ⊢
  simp only[List.mem_cons,List.not_mem_nil,or_false] at hx
  rcases hx with rfl|rfl|rfl|rfl|rfl|rfl<;>first|omega|exact h _
 ·rw[if_neg e] at hx ⊢
  simp only[List.mem_cons,List.not_mem_nil,or_false] at hx
  rcases hx with rfl|rfl|rfl<;>omega
theorem Mn(m:Ms)(o:Nat)(t:Nat×Nat×Nat): (OE m o t).length=if o=2 then 6 else 3:=by unfold OE;split<;>rfl
theorem own3{b:Nat}{l:List Nat}(hl:0<l.length): GrowO 1 3 (.slice (some ⟨b,0,none⟩) l.length l.length) l.length (List.map Qi l) [(b,Obj.cells (List.map Qi l).toArray 3 (0,0))]:=by
 have h:=GrowO.close (E:=3) (b:=b) (k:=1) (m:=l.length) (c:=l.length) (xs:=List.map Qi l) (R:=[]) ss ss (Nat.le_refl _)
 rwa[List.append_nil] at h
theorem M9{l:List (Nat×Nat)}{x:Nat×Nat}{R:List Value}{i:Nat}(h:l.length=i): Zk true 2 (cellsOf Zy (l++[x])++R).toArray (0+i*2)=some (Zy x):=by
 have h1:=Kr (k:=2) (enc:=Zy) (fun _=>rfl) (fun _=>rfl) (l++[x]) R (0,0) i (by rw[List.length_append,List.length_singleton];omega)
 rwa[show(l++[x]).getD i (0,0)=x from by subst h;simp[List.getD]] at h1
theorem G4(b o c:Nat)(l:List Pt)(r:l.length≤1000000): CtrO prog 39 [.slice (some ⟨b,o,none⟩) l.length c] [Row (some ⟨b,o,none⟩) (cellsOf encPt l)]
   (fun v f => ∃ad m,v=.slice ad l.length m∧GrowO 10 119 v l.length (cellsOf encPt l) f):=by
 refine fn_introO func39 I ntmps39 nb ?_
 intro S w0 a q h
 refine gC h<|au 0x43112531 ?_
 refine zp (.binOp I I<|So _ _ _ _ _ _) ?_;clear h;intro a w h
 refine Zh h (fun e h=>(by exfalso;cases e)) (fun e h=>?_)
 refine wpList_nil ?_
 refine cW ?_
 refine Zj h I ?_
 refine gC h<|zk<|zS (zB [] I (Sx) fun i=>zm I ?_);clear h;intro a w h
 refine Zc<|Pm (o:=[(i,_)]) (xs:=[]) (ys:=cellsOf encPt l) (ad2:=some ⟨b,o,none⟩) (k:=10) h I (GrowO.close (R:=[]) I I<|Nat.le_refl _) I mm runUnderlying38 runUnderlying38 typeInfo119 sizeOf119 Xv I dd dd (cellsOf_length (k:=10) (fun _=>rfl) l) (Cu _) (by show 112*(2*_+192)≤281474976710656;omega) dd ?_;clear h;intro p n w d h
 rw[Nat.zero_add,List.nil_append] at d
 obtain ⟨g,j,rfl⟩:=d.is
 refine gL h<|au 0x625 ?_;clear h;intro a w h
 exact He h (Ze h I (.tmp I)) ⟨g,j,rfl,d⟩ ss
end
section
theorem I3(d e:Int)(c:Option Addr)(a b:Nat): RN (Instr.build 83 [(0,.int .i64 d),(1,.int .i64 e),(3,.slice c a b)].toArray) (.agg #[.int .i64 d,.int .i64 e,.slice none 0 0,.slice c a b,.slice none 0 0]):=fun w=>by simp[go_sem]
theorem YT{b off:Nat}: RN (Instr.fieldAt 83 (.pointer (some ⟨b,off,none⟩)) 4) (.pointer (some ⟨b,off+4,none⟩)):=fun w=>by
 simp[go_sem]
theorem Dw{c0 c1 c2 a b v0:Value}: Zl #[c0,c1,c2,a,b] 4 [v0]=#[c0,c1,c2,a,v0]:=rfl
theorem YU{b off:Nat}: RN (Instr.fieldAt 83 (.pointer (some ⟨b,off,none⟩)) 2) (.pointer (some ⟨b,off+2,none⟩)):=fun w=>by
 simp[go_sem]
theorem N3(c:Option Addr)(a b:Nat)(w:World): (Instr.buildSlice 80 1 [(0,.slice c a b)].toArray).run prog w=.ok (.slice (some ⟨w.heap.size,0,none⟩) 1 1) (w.alloc (.cells #[.slice c a b] 69 (0,0))):=by
 simp[go_sem]
theorem lL{b off:Nat}: RN (Instr.fieldAt 83 (.pointer (some ⟨b,off,none⟩)) 3) (.pointer (some ⟨b,off+3,none⟩)):=fun w=>by
 simp[go_sem]
theorem K8{c0 c1 c2 b a v0:Value}: Zl #[c0,c1,c2,b,a] 3 [v0]=#[c0,c1,c2,v0,a]:=rfl
theorem LU{b off:Nat}: RN (Instr.fieldAt 83 (.pointer (some ⟨b,off,none⟩)) 1) (.pointer (some ⟨b,off+1,none⟩)):=fun w=>by
 simp[go_sem]
theorem nL(K:Nat)(m:Ms)(Q s y:Option Addr)(cP cT cS:Nat)(hv:MV K m)(hK:K≤1000): Ctr prog 14 [Qz m Q s y cP cT cS,.int .i64 ((1:Nat):Int)] [Row Q (cellsOf encPt m.P),Row s (cellsOf Zd m.T),Row y (cellsOf Zd m.S)] (fun v Ψ => ∃(c:List Li) (aT aA aE:Option Addr) (nA nE:Nat),c.map (·.l)=m.T.map (OE m 1)∧v=.tuple #[.agg #[.int .i64 ((1:Nat):Int),.int .i64 ((KY m 1:Nat):Int),.slice aT c.length c.length,.slice aA nA nA,.slice aE nE nE],.int .i64 0]∧Ψ=[Row aT (List.map Fl c),Yi (c.map AA)]):=by
 have e9:=hv.nP
 have h3:=hv.nT
 have e8:=Gk m.T
 have c7:=hv.neP
 have h0:=hv.ne
 refine fn_intro func14 I ntmps14 nb ?_
 intro S w0 a hS h
 obtain ⟨g,j,rfl⟩:=h.row_addr (ad:=Q) (M:=cellsOf encPt m.P) mm (nE 10)
 refine gC h<|zS (zx I fun b2=>zz zeroValue83 fun b4=>au 0xce3117d24e12f12f4d0f431125 ?_);clear h;intro a w h
 refine Zc<|Jl h (vs:=[_]) I call38 (MI K m _ _ _ _ _ _ hv oo) (by exact hsA) dd ?_;clear h;intro a w h
 refine gL h<|au 0x17d2d0f43125 ?_
 refine yF [0,1,2,3,4,5,6,7,8,9]<|au 0xde50f8 ?_;clear h
 refine au 0xde50f47f ?_
 refine A0 I kk (vs:=[_]) I call39 (G4 g j _ m.P oo) ss dd ?_;rintro e4 D ⟨r,F,rfl,H⟩
 refine yp I (.build [(_,_),(_,_),(_,_)] I<|I3 _ _ _ _ _) (yz I zeroValue83 fun b7=>yt I I I Zi uu sizeOf83 I nb (by show((flat (.int .i64 ((1:Nat):Int)) && (flat (.int .i64 ((m.P.length:Nat):Int)) && (flat (.slice none 0 0) && (flat ((.slice r (m.P).length F)) && (flat (.slice none 0 0) && true))))))=true;simp only[GrowO.flat ((GrowO.nil 1 69)),GrowO.flat (H),GrowO.flat ((GrowO.nil 2 125))];rfl) ?_)
 refine au 0x31a ?_;intro a w h
 refine Zc<|D8 Zy Qi h dd ?_;clear h;intro J a w h
 refine gL h<|au 0xce31125 ?_
 refine zF [_] call40 (H3 K m _ _ _ _ _ _ hv) ?_;rintro e2 e1 ⟨b5,rfl,rfl⟩
 refine au 0x92413f ?_;intro a w h
 refine lpG h [1,2,4,5,7,8,38,39] pkL (fun Y Z (i:Nat) a w=>i≤(Za m.T).length ∧ ∃(a1:Option Addr) (c1:Nat) (o1:List (Nat×Obj)),(GrowO 2 125 (.slice a1 (List.map abE ((Za m.T).take i)).length c1) (List.map abE ((Za m.T).take i)).length (cellsOf Zy<|List.map abE ((Za m.T).take i)) o1)∧St 150 S w0 ((40,nI i)::Y) (o1++((J,mB Zy Qi<|Gn m.P.length (Za m.T) i)::((b7,bV (.agg #[.int .i64 ((1:Nat):Int),.int .i64 ((m.P.length:Nat):Int),(.slice none 0 0),(.slice r (m.P).length F),(.slice a1 (List.map abE ((Za m.T).take i)).length c1)]) 83)::(D++((b4,bV (.agg #[.int .i64 0,.int .i64 0,.slice none 0 0,.slice none 0 0,.slice none 0 0]) 83)::((b2,bV (Qz m (some ⟨g,j,none⟩) s y cP cT cS) 42)::[])))))) Z a w) (fun i=>(Za m.T).length-i) 0 (⟨Nat.zero_le _,none,0,[],GrowO.nil _ _,by exact(h).sub sA⟩) ?_;clear h
 rintro i a w ⟨e0,a1,c1,o1,b0,h⟩
 refine gC h<|au 0x12c31 ?_;intro a w h
 refine Zb h I (fun A=>?_) (fun A=>?_)
 ·have C:i<(Za m.T).length:=dT A
  obtain ⟨b9,b8,rfl⟩:=h.row_addr (ad:=b5) (M:=cellsOf Qp (Za m.T)) mm (nE 4)
  have a6:=Fp hv.num _ (getD_mem (Za m.T) (d:=ed0) C)
  have a8:=a6.lt
  have b3:=a6.n
  simp only at a8 b3
  have e7:=(hv.K _ (getD_mem m.P (d:=(0,0)) (show((Za m.T).getD i ed0).a<m.P.length by omega))).mono hK
  have e6:=(hv.K _ (getD_mem m.P (d:=(0,0)) b3)).mono hK
  refine gC h<|au 0x27f431917 ?_
  refine zD I mm (cells_lt (k:=4) dd (fun _=>rfl) (Za m.T) i oo) isAgg124 sizeOf124 (Zg (k:=4) (fun _=>rfl) ((fun _=>rfl)) (Za m.T) ed0 i oo) (.inl I) ?_
  refine zz Bj fun c3=>za I<|stW I I Xw ?_
  refine au 0xfcf312 ?_
  refine ldZ J1 ?_
  refine au 0x35f24fa7f53f26f ?_
  refine zB [(_,_)] I (IZ _ _) fun e5=>?_
  refine apC Zy (List.map abE ((Za m.T).take i)) [(((Za m.T).getD i ed0).a,((Za m.T).getD i ed0).b)] b0 ?_ (hr:=by(try dsimp only);rw[List.length_map,List.length_take];omega);intro b6 L a7 o a w h
  refine gL h<|au 0xfcf ?_
  refine zt' I I Dw uu sizeOf81 I nb (by show((flat ((.slice b6 ((List.map abE ((Za m.T).take i))++[(((Za m.T).getD i ed0).a,((Za m.T).getD i ed0).b)]).length L)) && true))=true;simp only[GrowO.flat (o)];rfl) ?_;clear h;intro a w h
  obtain ⟨N,c6,rfl,p⟩:=RV o (by rw[List.length_append,List.length_singleton];omega)
  refine gL h<|zn<|zs<|yE [0,1,2,3,4,5,6,7,8,9,10,11]<|au 0x18f09f8 ?_;clear h
  refine au 0x8 ?_
  refine yp I (.indexAddr I I<|lB _ _ _ _ _ (by rw[List.length_append,List.length_map,List.length_take,List.length_singleton];omega))<|yd I I (by repeat(first|exact p|exact List.mem_append_left _ p|apply List.Mem.tail|apply List.mem_append_right)) isAgg125 sizeOf125 (M9 (by rw[List.length_map,List.length_take];omega)) ?_
  refine au 0xde50f ?_
  refine au 0x847f ?_
  refine yp I (.pN (m.P.length+i)<|.add I I) ?_
  refine Ya kk ?_;intro a w h
  refine Xe 11 ?_
  refine UT h I Py (u:=(((Za m.T).getD i ed0).a,((Za m.T).getD i ed0).b)) (q:=m.P.length+i) (m:=Gn m.P.length (Za m.T) i) I I I uu ?_;clear h;intro a w h
  replace h:=h.same I (show _=(a7++((c3,bV (Qp ((Za m.T).getD i ed0)) 124)::((J,mB Zy Qi (Gn m.P.length (Za m.T) (i+1)))::((b7,bV (.agg #[.int .i64 ((1:Nat):Int),.int .i64 ((m.P.length:Nat):Int),(.slice none 0 0),(.slice r (m.P).length F),(.slice (some ⟨N,0,none⟩) ((List.map abE ((Za m.T).take i))++[(((Za m.T).getD i ed0).a,((Za m.T).getD i ed0).b)]).length L)]) 83)::(D++((b4,bV (.agg #[.int .i64 0,.int .i64 0,.slice none 0 0,.slice none 0 0,.slice none 0 0]) 83)::((b2,bV (Qz m (some ⟨g,j,none⟩) s y cP cT cS) 42)::[]))))))) from I) I
  refine OF kk ?_
  refine cW ?_
  refine gC h<|au 0x37d264f431 ?_
  refine zp (.pN (i+1)<|.add I I)<|au 0x24 ?_;clear h;intro a w h
  rw[show List.map abE ((Za m.T).take i)++[(((Za m.T).getD i ed0).a,((Za m.T).getD i ed0).b)]=List.map abE ((Za m.T).take (i+1)) from C3 (f:=abE) (d:=ed0) C] at h o
  exact⟨i+1,⟨oo,_,L,a7,o,by exact tO h⟩,oo⟩
 ·have W:(Za m.T).length=i:=dF A
  subst W
  refine gC h<|au 0x924e0f90f91f3110e ?_;clear h;intro a w h
  replace h:=h.gatherR (l:=([]:List Li).map AA) (fun _ hx=>nomatch hx)
  refine lpG h [1,2,4,5,7,8,38,39,40,92,93] pkL (fun Y Z (t:Nat) a w=>t≤m.T.length ∧ ∃(c:List Li) (X:Option Addr) (cY:Nat) (oY:List (Nat×Obj)),(c.map (·.l)=(m.T.take t).map (OE m 1)∧GrowO 1 69 (.slice X (c).length cY) (c).length (List.map Fl<|c) oY)∧St 150 S w0 ((94,nI t)::Y) (oY++(o1++((J,mB Zy Qi<|Gn m.P.length (Za m.T) ((Za m.T).length))::((b7,bV (.agg #[.int .i64 ((1:Nat):Int),.int .i64 ((m.P.length:Nat):Int),(.slice X (c).length cY),(.slice r (m.P).length F),(.slice a1 (List.map abE ((Za m.T).take (Za m.T).length)).length c1)]) 83)::(D++((b4,bV (.agg #[.int .i64 0,.int .i64 0,.slice none 0 0,.slice none 0 0,.slice none 0 0]) 83)::((b2,bV (Qz m (some ⟨g,j,none⟩) s y cP cT cS) 42)::[]))))))) (Yi (c.map AA)::Z) a w) (fun t=>m.T.length-t) 0 (⟨Nat.zero_le _,[],none,0,[],⟨rfl,GrowO.nil _ _⟩,by exact(h.factsSub (by exact hsA)).sub sA⟩) ?_;clear h
  rintro t a w ⟨c8,c,X,cY,oY,⟨E,O⟩,h⟩
  refine gC h<|au 0x12c31 ?_;intro a w h
  refine Zb h I (fun B=>?_) (fun B=>?_)
  ·have V:t<m.T.length:=dT B
   obtain ⟨c5,c4,rfl⟩:=h.row_addr (ad:=s) (M:=cellsOf Zd m.T) mm (nE 3)
   have e3:c.length≤4000:=by have:=congrArg List.length E;rw[List.length_map,List.length_map,List.length_take] at this;omega
   refine gC h<|au 0x42f31917 ?_
   refine zD I mm (cells_lt (k:=3) dd (fun _=>rfl) m.T t oo) isAgg127 sizeOf127 (Zg (k:=3) (fun _=>rfl) ((fun _=>rfl)) m.T (0,0,0) t oo) (.inl I) ?_
   refine zz A3 fun h2=>stW I I Qg ?_
   refine au 0x51f6cf90f7cf60f57f312 ?_
   refine zB [(_,_),(_,_),(_,_)] I (FC _ _ _) fun e=>?_;clear h;intro a w h
   replace h:=h.shareAll hS (List.map Qi ([(m.T.getD t (0,0,0)).1,(m.T.getD t (0,0,0)).2.1,(m.T.getD t (0,0,0)).2.2])) I
   refine gL h<|au 0x92531125 ?_
   refine lpR 2<|rdS<|au 0x464f4311 ?_
   refine zo 107 I I I<|zo 107 I I I<|au 0x0ed24e ?_
   refine yE [0,1,2,3,4,5,6,7]<|au 0x06f ?_
   refine ldY J2 ?_;clear h
   refine au 0x8 ?_
   refine yv [_] I I call43 (SX _ _ _<|Nat.le_refl _) (yB I [(_,_)] I (N3 _ _ _) fun c9=>?_)
   refine hapM Fl c [(⟨some ⟨e,0,none⟩,[(m.T.getD t (0,0,0)).1,(m.T.getD t (0,0,0)).2.1,(m.T.getD t (0,0,0)).2.2],3⟩:Li)] O ?_;intro z G b1 x
   refine au 0x06f ?_
   refine yt I I I EG uu sizeOf80 I nb (by show((flat ((.slice z (c++[(⟨some ⟨e,0,none⟩,[(m.T.getD t (0,0,0)).1,(m.T.getD t (0,0,0)).2.1,(m.T.getD t (0,0,0)).2.2],3⟩:Li)]).length G)) && true))=true;simp only[GrowO.flat (x)];rfl) ?_
   refine yn<|zr<|zp (.pN (t+1)<|.add I I)<|au 0x24 ?_;intro a w h
   replace h:=h.gatherR (l:=[AA (⟨some ⟨e,0,none⟩,[(m.T.getD t (0,0,0)).1,(m.T.getD t (0,0,0)).2.1,(m.T.getD t (0,0,0)).2.2],3⟩:Li)]) (by intro R hR;rw[List.mem_singleton] at hR;rw[hR];exact mm)
   replace h:=h.joinR (l:=c.map AA) (k:=[AA (⟨some ⟨e,0,none⟩,[(m.T.getD t (0,0,0)).1,(m.T.getD t (0,0,0)).2.1,(m.T.getD t (0,0,0)).2.2],3⟩:Li)]) mm mm
   rw[show c.map AA++[AA (⟨some ⟨e,0,none⟩,[(m.T.getD t (0,0,0)).1,(m.T.getD t (0,0,0)).2.1,(m.T.getD t (0,0,0)).2.2],3⟩:Li)]=(c++[(⟨some ⟨e,0,none⟩,[(m.T.getD t (0,0,0)).1,(m.T.getD t (0,0,0)).2.1,(m.T.getD t (0,0,0)).2.2],3⟩:Li)]).map AA from by rw[List.map_append];rfl] at h
   exact⟨t+1,⟨oo,_,z,G,b1,⟨by rw[List.map_append,E];exact C3 (f:=OE m 1) (d:=(0,0,0)) V,x⟩,by exact tO h⟩,oo⟩
  ·have U:m.T.length=t:=dF B
   subst U
   rw[List.take_length] at E
   replace h:=h.shareO' hS O
   refine gC h<|ze<|zs<|yE [0,1,3,4,6,7,2,9,5,8,10,11,12,13,14]<|au 0x06f ?_
   refine ldY J2 ?_;clear h
   refine au 0x19f ?_
   refine ldY EL ?_
   refine au 0x18f09f ?_
   refine yv [_] I I call44 (SR X _ cY<|Vr O)<|au 0x06f ?_
   refine yv [_] I I call45 (H5 _ _ _<|Vr H)<|yv [_] I I call46 (SS _ _ _<|Vr b0)<|stV I I I EG ?_
   refine au 0x19f ?_
   refine stV I I I K8 ?_
   refine au 0x09f ?_
   refine stV I I I Dw ?_
   refine au 0x6e31a ?_
   refine stW I I Zi ?_
   refine au 0x625 ?_;intro a w h
   refine Qn (Ψ:=[Row X (List.map Fl c),Yi (c.map AA)]) h (Zw h I (rC Zx)<|.tmp I) ?_ ss
   exact⟨c,X,_,_,_,_,E,rfl,rfl⟩
theorem nK(K:Nat)(m:Ms)(a8 x E:Option Addr)(cP cT cS:Nat)(hv:MV K m)(hK:K≤1000): Ctr prog 14 [Qz m a8 x E cP cT cS,.int .i64 ((2:Nat):Int)] [Row a8 (cellsOf encPt m.P),Row x (cellsOf Zd m.T),Row E (cellsOf Zd m.S)] (fun v Ψ => ∃(e:List Li) (aT aA aE:Option Addr) (nA nE:Nat),e.map (·.l)=m.T.map (OE m 2)∧v=.tuple #[.agg #[.int .i64 ((2:Nat):Int),.int .i64 ((KY m 2:Nat):Int),.slice aT e.length e.length,.slice aA nA nA,.slice aE nE nE],.int .i64 0]∧Ψ=[Row aT (List.map Fl e),Yi (e.map AA)]):=by
 have j5:=hv.nP
 have j8:=hv.nT
 have j9:=Gk m.T
 have i7:=hv.neP
 have j6:=hv.ne
 refine fn_intro func14 I ntmps14 nb ?_
 intro S w0 a hS h
 obtain ⟨g,j,rfl⟩:=h.row_addr (ad:=a8) (M:=cellsOf encPt m.P) mm (nE 10)
 refine gC h<|zS (zx I fun b2=>zz zeroValue83 fun b4=>au 0x474f431125 ?_)
 refine zq 17 I I (.move I)<|zq 17 I I (Pure1.cast (v':=.bool false) (.neq I I) cgd)<|au 0xce3117d22e ?_;clear h;intro a w h
 refine Zc<|Jl h (vs:=[_]) I call38 (MI K m _ _ _ _ _ _ hv oo) (by exact hsA) dd ?_;clear h;intro a w h
 refine gL h<|au 0x17d2d0f43125 ?_
 refine yF [0,1,2,3,4,5,6,7,8,9]<|au 0xde50f8 ?_;clear h
 refine au 0xde50f47f ?_
 refine A0 I kk (vs:=[_]) I call39 (G4 g j _ m.P oo) ss dd ?_;rintro j1 e0 ⟨N,b8,rfl,L⟩
 refine yp I (.build [(_,_),(_,_),(_,_)] I<|I3 _ _ _ _ _) (yz I zeroValue83 fun b7=>yt I I I Zi uu sizeOf83 I nb (by show((flat (.int .i64 ((2:Nat):Int)) && (flat (.int .i64 ((m.P.length:Nat):Int)) && (flat (.slice none 0 0) && (flat ((.slice N (m.P).length b8)) && (flat (.slice none 0 0) && true))))))=true;simp only[GrowO.flat ((GrowO.nil 1 69)),GrowO.flat (L),GrowO.flat ((GrowO.nil 2 125))];rfl) ?_)
 refine au 0x31a ?_;intro a w h
 refine Zc<|D8 Zy Qi h dd ?_;clear h;intro W a w h
 refine gL h<|au 0xce31125 ?_
 refine zF [_] call40 (H3 K m _ _ _ _ _ _ hv) ?_;rintro j0 i6 ⟨b3,rfl,rfl⟩
 refine au 0x92413f ?_;intro a w h
 refine lpG h [1,2,4,5,7,8,38,39] pkL (fun Y Z (i:Nat) a w=>i≤(Za m.T).length ∧ ∃(a1:Option Addr) (c1:Nat) (o1:List (Nat×Obj)) (a2:Option Addr) (c2:Nat) (o2:List (Nat×Obj)),(GrowO 2 125 (.slice a1 (List.map abE ((Za m.T).take i)).length c1) (List.map abE ((Za m.T).take i)).length (cellsOf Zy<|List.map abE ((Za m.T).take i)) o1∧GrowO 10 119 (.slice a2 (m.P++List.map (OC m) ((Za m.T).take i)).length c2) (m.P++List.map (OC m) ((Za m.T).take i)).length (cellsOf encPt (m.P++List.map (OC m) ((Za m.T).take i))) o2)∧St 150 S w0 ((40,nI i)::Y) (o1++((W,mB Zy Qi<|Gn m.P.length (Za m.T) i)::((b7,bV (.agg #[.int .i64 ((2:Nat):Int),.int .i64 ((m.P.length+i:Nat):Int),(.slice none 0 0),(.slice a2 (m.P++List.map (OC m) ((Za m.T).take i)).length c2),(.slice a1 (List.map abE ((Za m.T).take i)).length c1)]) 83)::(o2++((b4,bV (.agg #[.int .i64 0,.int .i64 0,.slice none 0 0,.slice none 0 0,.slice none 0 0]) 83)::((b2,bV (Qz m (some ⟨g,j,none⟩) x E cP cT cS) 42)::[])))))) Z a w) (fun i=>(Za m.T).length-i) 0 (⟨Nat.zero_le _,none,0,[],N,b8,e0,⟨GrowO.nil _ _,by rw[List.take_zero,List.map_nil,List.append_nil];exact L⟩,by simp only[List.take_zero,List.map_nil,List.append_nil];exact h.sub sA⟩) ?_;clear h
 rintro i a w ⟨h9,a1,c1,o1,a2,c2,o2,⟨c5,b9⟩,h⟩
 refine gC h<|au 0x12c31 ?_;intro a w h
 refine Zb h I (fun B=>?_) (fun B=>?_)
 ·have p:i<(Za m.T).length:=dT B
  obtain ⟨e3,e8,rfl⟩:=h.row_addr (ad:=b3) (M:=cellsOf Qp (Za m.T)) mm (nE 4)
  have b1:=Fp hv.num _ (getD_mem (Za m.T) (d:=ed0) p)
  have c4:=b1.lt
  have c6:=b1.n
  simp only at c4 c6
  have h3:=(hv.K _ (getD_mem m.P (d:=(0,0)) (show((Za m.T).getD i ed0).a<m.P.length by omega))).mono hK
  have h7:=(hv.K _ (getD_mem m.P (d:=(0,0)) c6)).mono hK
  refine gC h<|au 0x27f431917 ?_
  refine zD I mm (cells_lt (k:=4) dd (fun _=>rfl) (Za m.T) i oo) isAgg124 sizeOf124 (Zg (k:=4) (fun _=>rfl) ((fun _=>rfl)) (Za m.T) ed0 i oo) (.inl I) ?_
  refine zz Bj fun h6=>za I<|stW I I Xw ?_
  refine au 0xfcf312 ?_
  refine ldZ J1 ?_
  refine au 0x35f24fa7f53f26f ?_
  refine zB [(_,_)] I (IZ _ _) fun j2=>?_
  refine apC Zy (List.map abE ((Za m.T).take i)) [(((Za m.T).getD i ed0).a,((Za m.T).getD i ed0).b)] c5 ?_ (hr:=by(try dsimp only);rw[List.length_map,List.length_take];omega);intro c7 Q e1 s a w h
  refine gL h<|au 0xfcf ?_
  refine zt' I I Dw uu sizeOf81 I nb (by show((flat ((.slice c7 ((List.map abE ((Za m.T).take i))++[(((Za m.T).getD i ed0).a,((Za m.T).getD i ed0).b)]).length Q)) && true))=true;simp only[GrowO.flat (s)];rfl) ?_;clear h;intro a w h
  obtain ⟨U,h5,rfl,r⟩:=RV s (by rw[List.length_append,List.length_singleton];omega)
  refine gL h<|zn<|zs<|yE [0,1,2,3,4,5,6,7,8,9,10,11]<|au 0x18f09f8 ?_;clear h
  refine au 0x8 ?_
  refine yp I (.indexAddr I I<|lB _ _ _ _ _ (by rw[List.length_append,List.length_map,List.length_take,List.length_singleton];omega))<|yd I I (by repeat(first|exact r|exact List.mem_append_left _ r|apply List.Mem.tail|apply List.mem_append_right)) isAgg125 sizeOf125 (M9 (by rw[List.length_map,List.length_take];omega)) ?_
  refine au 0xde50f ?_
  refine au 0x847f ?_
  refine yp I (.pN (m.P.length+i)<|.add I I) ?_
  refine Ya kk ?_;intro a w h
  refine Xe 11 ?_
  refine UT h I Py (u:=(((Za m.T).getD i ed0).a,((Za m.T).getD i ed0).b)) (q:=m.P.length+i) (m:=Gn m.P.length (Za m.T) i) I I I uu ?_;clear h;intro a w h
  replace h:=h.same I (show _=(e1++((h6,bV (Qp ((Za m.T).getD i ed0)) 124)::((W,mB Zy Qi (Gn m.P.length (Za m.T) (i+1)))::((b7,bV (.agg #[.int .i64 ((2:Nat):Int),.int .i64 ((m.P.length+i:Nat):Int),(.slice none 0 0),(.slice a2 (m.P++List.map (OC m) ((Za m.T).take i)).length c2),(.slice (some ⟨U,0,none⟩) ((List.map abE ((Za m.T).take i))++[(((Za m.T).getD i ed0).a,((Za m.T).getD i ed0).b)]).length Q)]) 83)::(o2++((b4,bV (.agg #[.int .i64 0,.int .i64 0,.slice none 0 0,.slice none 0 0,.slice none 0 0]) 83)::((b2,bV (Qz m (some ⟨g,j,none⟩) x E cP cT cS) 42)::[]))))))) from I) I
  refine OF kk ?_
  refine cW ?_
  refine gC h<|au 0x11e232f431 ?_
  refine yE [0,1,2,3,4,5,6,7,8,9,10,11,12,13,14,15,16,17,18]<|au 0x19f ?_
  refine ldY EL ?_;clear h
  refine au 0xde50f ?_
  refine au 0x38f87f ?_
  refine au 0xd1f ?_
  refine Zf I kk I mm (cells_lt (k:=10) dd (fun _=>rfl) m.P (((Za m.T).getD i ed0).a) oo) isAgg119 sizeOf119 (Zg (k:=10) (fun _=>rfl) ((fun _=>rfl)) m.P (0,0) (((Za m.T).getD i ed0).a) oo) (.inl I) dd ?_
  refine au 0xde50f ?_
  refine au 0x77f ?_
  refine ldY EM ?_
  refine au 0xd1f ?_
  refine Zf I kk I mm (cells_lt (k:=10) dd (fun _=>rfl) m.P (((Za m.T).getD i ed0).b) oo) isAgg119 sizeOf119 (Zg (k:=10) (fun _=>rfl) ((fun _=>rfl)) m.P (0,0) (((Za m.T).getD i ed0).b) oo) (.inl I) dd ?_
  refine yv [_,_] I I call41 (jr _ _ h3 h7) (yB I [(_,_)] I (I1 _ _ _ _ _ _ _ _ _ _) fun j4=>?_)
  refine bR encPt (m.P++List.map (OC m) ((Za m.T).take i)) [OC m ((Za m.T).getD i ed0)] b9 ?_ (hr:=by(try dsimp only);rw[List.length_append,List.length_map,List.length_take];omega);intro J c9 h2 D
  refine au 0x19f ?_
  refine yt I I I K8 uu sizeOf38 I nb (by show((flat ((.slice J ((m.P++List.map (OC m) ((Za m.T).take i))++[OC m ((Za m.T).getD i ed0)]).length c9)) && true))=true;simp only[GrowO.flat (D)];rfl) ?_
  refine yn<|zr<|zp (.fA I LU)<|ldZ J3 ?_
  refine zp (.pN ((m.P.length+i)+1)<|.add I I)<|zp (.fA I LU)<|stW I I QY ?_
  refine zn<|zr<|zp (.pN (i+1)<|.add I I)<|au 0x24 ?_;intro a w h
  rw[show List.map abE ((Za m.T).take i)++[(((Za m.T).getD i ed0).a,((Za m.T).getD i ed0).b)]=List.map abE ((Za m.T).take (i+1)) from C3 (f:=abE) (d:=ed0) p] at h s
  rw[show m.P++List.map (OC m) ((Za m.T).take i)++[OC m ((Za m.T).getD i ed0)]=m.P++List.map (OC m) ((Za m.T).take (i+1)) from by rw[List.append_assoc,C3 (f:=OC m) (d:=ed0) p]] at h D
  exact⟨i+1,⟨oo,_,Q,e1,J,c9,h2,⟨s,D⟩,by exact tO h⟩,oo⟩
 ·have V:(Za m.T).length=i:=dF B
  subst V
  refine gC h<|au 0x924e0f90f91f3110e ?_;clear h;intro a w h
  replace h:=h.gatherR (l:=([]:List Li).map AA) (fun _ hx=>nomatch hx)
  refine lpG h [1,2,4,5,7,8,38,39,40,92,93] pkL (fun Y Z (t:Nat) a w=>t≤m.T.length ∧ ∃(e:List Li) (aY:Option Addr) (cY:Nat) (oY:List (Nat×Obj)),(e.map (·.l)=(m.T.take t).map (OE m 2)∧GrowO 1 69 (.slice aY (e).length cY) (e).length (List.map Fl<|e) oY)∧St 150 S w0 ((94,nI t)::Y) (oY++(o1++((W,mB Zy Qi<|Gn m.P.length (Za m.T) ((Za m.T).length))::((b7,bV (.agg #[.int .i64 ((2:Nat):Int),.int .i64 ((m.P.length+(Za m.T).length:Nat):Int),(.slice aY (e).length cY),(.slice a2 (m.P++List.map (OC m) ((Za m.T).take (Za m.T).length)).length c2),(.slice a1 (List.map abE ((Za m.T).take (Za m.T).length)).length c1)]) 83)::(o2++((b4,bV (.agg #[.int .i64 0,.int .i64 0,.slice none 0 0,.slice none 0 0,.slice none 0 0]) 83)::((b2,bV (Qz m (some ⟨g,j,none⟩) x E cP cT cS) 42)::[]))))))) (Yi (e.map AA)::Z) a w) (fun t=>m.T.length-t) 0 (⟨Nat.zero_le _,[],none,0,[],⟨rfl,GrowO.nil _ _⟩,by exact(h.factsSub (by exact hsA)).sub sA⟩) ?_;clear h
  rintro t a w ⟨h8,e,aY,cY,oY,⟨G,a7⟩,h⟩
  refine gC h<|au 0x12c31 ?_;intro a w h
  refine Zb h I (fun F=>?_) (fun F=>?_)
  ·have a6:t<m.T.length:=dT F
   obtain ⟨h4,h0,rfl⟩:=h.row_addr (ad:=x) (M:=cellsOf Zd m.T) mm (nE 3)
   have j3:e.length≤4000:=by have:=congrArg List.length G;rw[List.length_map,List.length_map,List.length_take] at this;omega
   refine gC h<|au 0x42f31917 ?_
   refine zD I mm (cells_lt (k:=3) dd (fun _=>rfl) m.T t oo) isAgg127 sizeOf127 (Zg (k:=3) (fun _=>rfl) ((fun _=>rfl)) m.T (0,0,0) t oo) (.inl I) ?_
   refine zz A3 fun j7=>stW I I Qg ?_
   refine au 0x51f6cf90f7cf60f57f312 ?_
   refine zB [(_,_),(_,_),(_,_)] I (FC _ _ _) fun b5=>?_
   have b0:=own3 (b:=b5) (l:=[(m.T.getD t (0,0,0)).1,(m.T.getD t (0,0,0)).2.1,(m.T.getD t (0,0,0)).2.2]) (Nat.succ_pos _)
   refine au 0x531125 ?_;intro a w h
   
   refine wpList_nil<|wp_block ?_
   refine wp_loop_rounds 4 ?_
   refine Zm ?_
   refine gC h<|au 0x432f4311 ?_
   refine zq 107 I I (.move I)<|zq 107 I I (Pure1.cast (v':=.bool true) (.lss I I) cgd)<|au 0x9171e22e ?_
   refine yE [0,1,2,3,4,5,6,7,8,9,10,11,12,13,14,15,16]<|au 0xb1f93f86fd9f888 ?_;clear h
   refine au 0xf0f83f76f17f8 ?_
   refine yv [_,_] I I call42 (QH ((m.T.getD t (0,0,0)).2.1) ((m.T.getD t (0,0,0)).2.2)) ?_
   refine DK I kk Py (u:=Zo ((m.T.getD t (0,0,0)).2.1) ((m.T.getD t (0,0,0)).2.2)) (m:=Gn m.P.length (Za m.T) ((Za m.T).length)) I I mm dd ?_
   refine yB I [(_,_)] I (Jf _) fun H=>?_
   refine hapM Qi ([(m.T.getD t (0,0,0)).1,(m.T.getD t (0,0,0)).2.1,(m.T.getD t (0,0,0)).2.2]) [(Zu (Gn m.P.length (Za m.T) ((Za m.T).length))<|Zo ((m.T.getD t (0,0,0)).2.1) ((m.T.getD t (0,0,0)).2.2)).getD 0] b0 ?_ (hr:=by(try dsimp only);simp only[List.length_append,List.length_cons,List.length_nil];omega);intro b6 e6 e7 C
   refine au 0x5e2f43a3e ?_;intro a w h
   
   refine wpList_nil ?_
   replace h:=kQ h [1,2,4,5,7,8,12,13,14,38,39,40,92,93,94,110] pkL
   refine Zm ?_
   refine gC h<|au 0x432f4311 ?_
   refine zq 107 I I (.move I)<|zq 107 I I (Pure1.cast (v':=.bool true) (.lss I I) cgd)<|au 0x9171e22e ?_
   refine yE [0,1,2,3,4,5,6,7,8,9,10,11,12,13,14,15,16]<|au 0xf0f83f76f17f888 ?_;clear h
   refine au 0xdea3f96f07f8 ?_
   refine yv [_,_] I I call42 (QH ((m.T.getD t (0,0,0)).2.2) ((m.T.getD t (0,0,0)).1)) ?_
   refine DK I kk Py (u:=Zo ((m.T.getD t (0,0,0)).2.2) ((m.T.getD t (0,0,0)).1)) (m:=Gn m.P.length (Za m.T) ((Za m.T).length)) I I mm dd ?_
   refine yB I [(_,_)] I (Jf _) fun H=>?_
   refine hapM Qi (([(m.T.getD t (0,0,0)).1,(m.T.getD t (0,0,0)).2.1,(m.T.getD t (0,0,0)).2.2])++[(Zu (Gn m.P.length (Za m.T) ((Za m.T).length))<|Zo ((m.T.getD t (0,0,0)).2.1) ((m.T.getD t (0,0,0)).2.2)).getD 0]) [(Zu (Gn m.P.length (Za m.T) ((Za m.T).length))<|Zo ((m.T.getD t (0,0,0)).2.2) ((m.T.getD t (0,0,0)).1)).getD 0] C ?_ (hr:=by(try dsimp only);simp only[List.length_append,List.length_cons,List.length_nil];omega);intro c3 e5 e9 z
   refine au 0x571f43a3e ?_;intro a w h
   
   refine wpList_nil ?_
   replace h:=kQ h [1,2,4,5,7,8,12,13,14,38,39,40,92,93,94,110] pkL
   refine Zm ?_
   refine gC h<|au 0x432f4311 ?_
   refine zq 107 I I (.move I)<|zq 107 I I (Pure1.cast (v':=.bool true) (.lss I I) cgd)<|au 0x9171e22e ?_
   refine yE [0,1,2,3,4,5,6,7,8,9,10,11,12,13,14,15,16]<|au 0xdea3f96f07f888 ?_;clear h
   refine au 0x8 ?_
   refine yp I (Pure1.cast (v':=.int .i64 4) (.add I I) cgd)<|au 0xb1f93f86f ?_
   refine yv [_,_] I I call42 (QH ((m.T.getD t (0,0,0)).1) ((m.T.getD t (0,0,0)).2.1)) ?_
   refine DK I kk Py (u:=Zo ((m.T.getD t (0,0,0)).1) ((m.T.getD t (0,0,0)).2.1)) (m:=Gn m.P.length (Za m.T) ((Za m.T).length)) I I mm dd ?_
   refine yB I [(_,_)] I (Jf _) fun H=>?_
   refine hapM Qi ((([(m.T.getD t (0,0,0)).1,(m.T.getD t (0,0,0)).2.1,(m.T.getD t (0,0,0)).2.2])++[(Zu (Gn m.P.length (Za m.T) ((Za m.T).length))<|Zo ((m.T.getD t (0,0,0)).2.1) ((m.T.getD t (0,0,0)).2.2)).getD 0])++[(Zu (Gn m.P.length (Za m.T) ((Za m.T).length))<|Zo ((m.T.getD t (0,0,0)).2.2) ((m.T.getD t (0,0,0)).1)).getD 0]) [(Zu (Gn m.P.length (Za m.T) ((Za m.T).length))<|Zo ((m.T.getD t (0,0,0)).1) ((m.T.getD t (0,0,0)).2.1)).getD 0] z ?_ (hr:=by(try dsimp only);simp only[List.length_append,List.length_cons,List.length_nil];omega);intro c e4 e2 o
   refine au 0x5e1f43a3e ?_;intro a w h
   replace h:=h.shareO' hS o
   refine wpList_nil ?_
   replace h:=kQ h [1,2,4,5,7,8,12,13,14,38,39,40,92,93,94,110] pkL
   refine Zm ?_
   refine gC h<|au 0x432f4311 ?_
   refine zq 107 I I (.move I)<|zq 107 I I (Pure1.cast (v':=.bool false) (.lss I I) cgd)<|au 0x0ed22e ?_
   refine yE [0,1,2,3,4,5,6,7]<|au 0x06f ?_
   refine ldY J2 ?_;clear h
   refine au 0x8 ?_
   refine yv [_] I I call43 (SX _ _ _<|Vr o) (yB I [(_,_)] I (N3 _ _ _) fun i1=>?_)
   refine hapM Fl e [(⟨c,((([(m.T.getD t (0,0,0)).1,(m.T.getD t (0,0,0)).2.1,(m.T.getD t (0,0,0)).2.2])++[(Zu (Gn m.P.length (Za m.T) ((Za m.T).length))<|Zo ((m.T.getD t (0,0,0)).2.1) ((m.T.getD t (0,0,0)).2.2)).getD 0])++[(Zu (Gn m.P.length (Za m.T) ((Za m.T).length))<|Zo ((m.T.getD t (0,0,0)).2.2) ((m.T.getD t (0,0,0)).1)).getD 0])++[(Zu (Gn m.P.length (Za m.T) ((Za m.T).length))<|Zo ((m.T.getD t (0,0,0)).1) ((m.T.getD t (0,0,0)).2.1)).getD 0],(((([(m.T.getD t (0,0,0)).1,(m.T.getD t (0,0,0)).2.1,(m.T.getD t (0,0,0)).2.2])++[(Zu (Gn m.P.length (Za m.T) ((Za m.T).length))<|Zo ((m.T.getD t (0,0,0)).2.1) ((m.T.getD t (0,0,0)).2.2)).getD 0])++[(Zu (Gn m.P.length (Za m.T) ((Za m.T).length))<|Zo ((m.T.getD t (0,0,0)).2.2) ((m.T.getD t (0,0,0)).1)).getD 0])++[(Zu (Gn m.P.length (Za m.T) ((Za m.T).length))<|Zo ((m.T.getD t (0,0,0)).1) ((m.T.getD t (0,0,0)).2.1)).getD 0]).length⟩:Li)] a7 ?_;intro A O c8 y
   refine au 0x06f ?_
   refine yt I I I EG uu sizeOf80 I nb (by show((flat ((.slice A (e++[(⟨c,((([(m.T.getD t (0,0,0)).1,(m.T.getD t (0,0,0)).2.1,(m.T.getD t (0,0,0)).2.2])++[(Zu (Gn m.P.length (Za m.T) ((Za m.T).length))<|Zo ((m.T.getD t (0,0,0)).2.1) ((m.T.getD t (0,0,0)).2.2)).getD 0])++[(Zu (Gn m.P.length (Za m.T) ((Za m.T).length))<|Zo ((m.T.getD t (0,0,0)).2.2) ((m.T.getD t (0,0,0)).1)).getD 0])++[(Zu (Gn m.P.length (Za m.T) ((Za m.T).length))<|Zo ((m.T.getD t (0,0,0)).1) ((m.T.getD t (0,0,0)).2.1)).getD 0],(((([(m.T.getD t (0,0,0)).1,(m.T.getD t (0,0,0)).2.1,(m.T.getD t (0,0,0)).2.2])++[(Zu (Gn m.P.length (Za m.T) ((Za m.T).length))<|Zo ((m.T.getD t (0,0,0)).2.1) ((m.T.getD t (0,0,0)).2.2)).getD 0])++[(Zu (Gn m.P.length (Za m.T) ((Za m.T).length))<|Zo ((m.T.getD t (0,0,0)).2.2) ((m.T.getD t (0,0,0)).1)).getD 0])++[(Zu (Gn m.P.length (Za m.T) ((Za m.T).length))<|Zo ((m.T.getD t (0,0,0)).1) ((m.T.getD t (0,0,0)).2.1)).getD 0]).length⟩:Li)]).length O)) && true))=true;simp only[GrowO.flat (y)];rfl) ?_
   refine yn<|zr<|zp (.pN (t+1)<|.add I I)<|au 0x24 ?_;intro a w h
   replace h:=h.gatherR (l:=[AA (⟨c,((([(m.T.getD t (0,0,0)).1,(m.T.getD t (0,0,0)).2.1,(m.T.getD t (0,0,0)).2.2])++[(Zu (Gn m.P.length (Za m.T) ((Za m.T).length)) (Zo ((m.T.getD t (0,0,0)).2.1) ((m.T.getD t (0,0,0)).2.2))).getD 0])++[(Zu (Gn m.P.length (Za m.T) ((Za m.T).length)) (Zo ((m.T.getD t (0,0,0)).2.2) ((m.T.getD t (0,0,0)).1))).getD 0])++[(Zu (Gn m.P.length (Za m.T) ((Za m.T).length)) (Zo ((m.T.getD t (0,0,0)).1) ((m.T.getD t (0,0,0)).2.1))).getD 0],(((([(m.T.getD t (0,0,0)).1,(m.T.getD t (0,0,0)).2.1,(m.T.getD t (0,0,0)).2.2])++[(Zu (Gn m.P.length (Za m.T) ((Za m.T).length)) (Zo ((m.T.getD t (0,0,0)).2.1) ((m.T.getD t (0,0,0)).2.2))).getD 0])++[(Zu (Gn m.P.length (Za m.T) ((Za m.T).length)) (Zo ((m.T.getD t (0,0,0)).2.2) ((m.T.getD t (0,0,0)).1))).getD 0])++[(Zu (Gn m.P.length (Za m.T) ((Za m.T).length)) (Zo ((m.T.getD t (0,0,0)).1) ((m.T.getD t (0,0,0)).2.1))).getD 0]).length⟩:Li)]) (by intro R hR;rw[List.mem_singleton] at hR;rw[hR];exact mm)
   replace h:=h.joinR (l:=e.map AA) (k:=[AA (⟨c,((([(m.T.getD t (0,0,0)).1,(m.T.getD t (0,0,0)).2.1,(m.T.getD t (0,0,0)).2.2])++[(Zu (Gn m.P.length (Za m.T) ((Za m.T).length)) (Zo ((m.T.getD t (0,0,0)).2.1) ((m.T.getD t (0,0,0)).2.2))).getD 0])++[(Zu (Gn m.P.length (Za m.T) ((Za m.T).length)) (Zo ((m.T.getD t (0,0,0)).2.2) ((m.T.getD t (0,0,0)).1))).getD 0])++[(Zu (Gn m.P.length (Za m.T) ((Za m.T).length)) (Zo ((m.T.getD t (0,0,0)).1) ((m.T.getD t (0,0,0)).2.1))).getD 0],(((([(m.T.getD t (0,0,0)).1,(m.T.getD t (0,0,0)).2.1,(m.T.getD t (0,0,0)).2.2])++[(Zu (Gn m.P.length (Za m.T) ((Za m.T).length)) (Zo ((m.T.getD t (0,0,0)).2.1) ((m.T.getD t (0,0,0)).2.2))).getD 0])++[(Zu (Gn m.P.length (Za m.T) ((Za m.T).length)) (Zo ((m.T.getD t (0,0,0)).2.2) ((m.T.getD t (0,0,0)).1))).getD 0])++[(Zu (Gn m.P.length (Za m.T) ((Za m.T).length)) (Zo ((m.T.getD t (0,0,0)).1) ((m.T.getD t (0,0,0)).2.1))).getD 0]).length⟩:Li)]) mm mm
   rw[show e.map AA++[AA (⟨c,((([(m.T.getD t (0,0,0)).1,(m.T.getD t (0,0,0)).2.1,(m.T.getD t (0,0,0)).2.2])++[(Zu (Gn m.P.length (Za m.T) ((Za m.T).length)) (Zo ((m.T.getD t (0,0,0)).2.1) ((m.T.getD t (0,0,0)).2.2))).getD 0])++[(Zu (Gn m.P.length (Za m.T) ((Za m.T).length)) (Zo ((m.T.getD t (0,0,0)).2.2) ((m.T.getD t (0,0,0)).1))).getD 0])++[(Zu (Gn m.P.length (Za m.T) ((Za m.T).length)) (Zo ((m.T.getD t (0,0,0)).1) ((m.T.getD t (0,0,0)).2.1))).getD 0],(((([(m.T.getD t (0,0,0)).1,(m.T.getD t (0,0,0)).2.1,(m.T.getD t (0,0,0)).2.2])++[(Zu (Gn m.P.length (Za m.T) ((Za m.T).length)) (Zo ((m.T.getD t (0,0,0)).2.1) ((m.T.getD t (0,0,0)).2.2))).getD 0])++[(Zu (Gn m.P.length (Za m.T) ((Za m.T).length)) (Zo ((m.T.getD t (0,0,0)).2.2) ((m.T.getD t (0,0,0)).1))).getD 0])++[(Zu (Gn m.P.length (Za m.T) ((Za m.T).length)) (Zo ((m.T.getD t (0,0,0)).1) ((m.T.getD t (0,0,0)).2.1))).getD 0]).length⟩:Li)]=(e++[(⟨c,((([(m.T.getD t (0,0,0)).1,(m.T.getD t (0,0,0)).2.1,(m.T.getD t (0,0,0)).2.2])++[(Zu (Gn m.P.length (Za m.T) ((Za m.T).length)) (Zo ((m.T.getD t (0,0,0)).2.1) ((m.T.getD t (0,0,0)).2.2))).getD 0])++[(Zu (Gn m.P.length (Za m.T) ((Za m.T).length)) (Zo ((m.T.getD t (0,0,0)).2.2) ((m.T.getD t (0,0,0)).1))).getD 0])++[(Zu (Gn m.P.length (Za m.T) ((Za m.T).length)) (Zo ((m.T.getD t (0,0,0)).1) ((m.T.getD t (0,0,0)).2.1))).getD 0],(((([(m.T.getD t (0,0,0)).1,(m.T.getD t (0,0,0)).2.1,(m.T.getD t (0,0,0)).2.2])++[(Zu (Gn m.P.length (Za m.T) ((Za m.T).length)) (Zo ((m.T.getD t (0,0,0)).2.1) ((m.T.getD t (0,0,0)).2.2))).getD 0])++[(Zu (Gn m.P.length (Za m.T) ((Za m.T).length)) (Zo ((m.T.getD t (0,0,0)).2.2) ((m.T.getD t (0,0,0)).1))).getD 0])++[(Zu (Gn m.P.length (Za m.T) ((Za m.T).length)) (Zo ((m.T.getD t (0,0,0)).1) ((m.T.getD t (0,0,0)).2.1))).getD 0]).length⟩:Li)]).map AA from by rw[List.map_append];rfl] at h
   exact⟨t+1,⟨oo,_,A,O,c8,⟨by rw[List.map_append,G];exact C3 (f:=OE m 2) (d:=(0,0,0)) a6,y⟩,by exact tO h⟩,oo⟩
  ·have X:m.T.length=t:=dF F
   subst X
   rw[List.take_length] at G
   replace h:=h.shareO' hS a7
   refine gC h<|ze<|zs<|yE [0,1,3,4,6,7,2,9,5,8,10,11,12,13,14]<|au 0x06f ?_
   refine ldY J2 ?_;clear h
   refine au 0x19f ?_
   refine ldY EL ?_
   refine au 0x18f09f ?_
   refine yv [_] I I call44 (SR aY _ cY<|Vr a7)<|au 0x06f ?_
   refine yv [_] I I call45 (H5 _ _ _<|Vr b9)<|yv [_] I I call46 (SS _ _ _<|Vr c5)<|stV I I I EG ?_
   refine au 0x19f ?_
   refine stV I I I K8 ?_
   refine au 0x09f ?_
   refine stV I I I Dw ?_
   refine au 0x6e31a ?_
   refine stW I I Zi ?_
   refine au 0x625 ?_;intro a w h
   refine Qn (Ψ:=[Row aY (List.map Fl e),Yi (e.map AA)]) h (Zw h I (rC Zx)<|.tmp I) ?_ ss
   exact⟨e,aY,_,_,_,_,G,rfl,rfl⟩
theorem bg(K:Nat)(m:Ms)(c a b:Option Addr)(g f e o:Nat)(ho:o=1∨o=2)(hv:MV K m)(j:K≤1000): Ctr prog 14 [Qz m c a b g f e,.int .i64 ((o:Nat):Int)] [Row c (cellsOf encPt m.P),Row a (cellsOf Zd m.T),Row b (cellsOf Zd m.S)] (fun v Ψ => ∃(d:List Li) (h n k:Option Addr) (i nE:Nat),d.map (·.l)=m.T.map (OE m o)∧v=.tuple #[.agg #[.int .i64 ((o:Nat):Int),.int .i64 ((KY m o:Nat):Int),.slice h d.length d.length,.slice n i i,.slice k nE nE],.int .i64 0]∧Ψ=[Row h (List.map Fl d),Yi (d.map AA)]):=by
 rcases ho with rfl|rfl
 ·exact nL K m c a b g f e hv j
 ·exact nK K m c a b g f e hv j
end
section
theorem lM{b off:Nat}: RN (Instr.fieldAt 61 (.pointer (some ⟨b,off,none⟩)) 0) (.pointer (some ⟨b,off+0,none⟩)):=fun w=>by
 simp[go_sem]
theorem LV{b off:Nat}: RN (Instr.fieldAt 61 (.pointer (some ⟨b,off,none⟩)) 1) (.pointer (some ⟨b,off+3,none⟩)):=fun w=>by
 simp[go_sem]
theorem YV{b off:Nat}: RN (Instr.fieldAt 61 (.pointer (some ⟨b,off,none⟩)) 2) (.pointer (some ⟨b,off+4,none⟩)):=fun w=>by
 simp[go_sem]
theorem HQ{b off:Nat}: RN (Instr.fieldAt 147 (.pointer (some ⟨b,off,none⟩)) 0) (.pointer (some ⟨b,off+0,none⟩)):=fun w=>by
 simp[go_sem]
theorem Na{c0 c1 c2 x s r t u v w p g n h m o a e k c j f i d q b l:Value}: Zk true 3 #[c0,c1,c2,x,s,r,t,u,v,w,p,g,n,h,m,o,a,e,k,c,j,f,i,d,q,b,l] 0=some (.agg #[c0,c1,c2]):=rfl
abbrev Fo(m:Ms)(o:Nat)(V:List Rat)(aP aT aS:Option Addr)(cP cT cS:Nat)(aV:Option Addr)(cV:Nat): Value:=.agg #[.slice aP m.P.length cP,.slice aT m.T.length cT,.slice aS m.S.length cS,.int .i64 ((o:Nat):Int),.slice aV V.length cV]
abbrev BE(p:Pr)(adP adT adS adG:Option Addr)(cP cT cS cG:Nat)(U:List Pl)(aU:Option Addr)(cU:Nat): Value:=.agg #[.slice adP p.m.P.length cP,.slice adT p.m.T.length cT,.slice adS p.m.S.length cS,.int .i64 ((p.o:Nat):Int),.int .u64 (Xr p.k0.num.natAbs),.string (Xa p.k0.num.natAbs),.bool (decide (p.k0.num<0)),.int .u64 (Xr (p.k0.den-1)),.string (Xa (p.k0.den-1)),.int .u64 (Xr p.k1.num.natAbs),.string (Xa p.k1.num.natAbs),.bool (decide (p.k1.num<0)),.int .u64 (Xr (p.k1.den-1)),.string (Xa (p.k1.den-1)),.int .u64 (Xr p.k2.num.natAbs),.string (Xa p.k2.num.natAbs),.bool (decide (p.k2.num<0)),.int .u64 (Xr (p.k2.den-1)),.string (Xa (p.k2.den-1)),.int .u64 (Xr p.c.num.natAbs),.string (Xa p.c.num.natAbs),.bool (decide (p.c.num<0)),.int .u64 (Xr (p.c.den-1)),.string (Xa (p.c.den-1)),.slice p.f.a p.f.l.length p.f.c,.slice adG p.G.length cG,.slice aU U.length cU]
abbrev tblV(m:Ms)(o:Nat)(Ts:List Li)(aT aA aE:Option Addr)(nA nE:Nat): Value:=.agg #[.int .i64 ((o:Nat):Int),.int .i64 ((KY m o:Nat):Int),.slice aT Ts.length Ts.length,.slice aA nA nA,.slice aE nE nE]
theorem gR(K:Nat)(m:Ms)(g d f:Option Addr)(x r t o:Nat)(V:List Rat)(q:Option Addr)(y:Nat)(ho:o=1∨o=2)(hv:MV K m)(s:K≤1000)(u:V.length=KY m o): Ctr prog 208 [Fo m o V g d f x r t q y] [Row g (cellsOf encPt m.P),Row d (cellsOf Zd m.T),Row f (cellsOf Zd m.S),Row q (cellsOf Qe V)] (fun v Ψ => ∃(c:List Li) (e n k:Option Addr) (j nE:Nat),c.map (·.l)=m.T.map (OE m o)∧v=.tuple #[tblV m o c e n k j nE,.int .i64 0]∧Ψ=[Row e (List.map Fl c),Yi (c.map AA)]):=by
 refine fnI func208 I ntmps208 fun S w0 A=>zS (zx I fun C=>zz zeroValue83 fun z=>au 0x14f0df3125 ?_)
 refine zp (.fA I LV)<|ldZ EL ?_
 refine zF [_,_] call14 (bg K m _ _ _ _ _ _ o ho hv s) ?_;rintro v11 p ⟨c,e,n,k,j,nE,i,rfl,rfl⟩
 refine au 0xbb4 ?_
 refine zz zeroValue83 fun B=>stW I I Zi ?_
 refine au 0x432f431125 ?_
 refine zq 16 I I (.fA I YV)<|ldQ 16 J1 ?_
 refine zq 16 I I (.builtin [_] I<|NB _ _ _)<|zq 16 I I (.fA I LU)<|ldQ 16 J3 ?_
 refine zq 16 I I (.neq I I) (bbF (fun b=>(by exfalso;rw[u] at b;simp at b)) fun b=>au 0x46e317d22e ?_)
 refine stW I I Zi ?_
 refine au 0x625 ?_;intro a w h
 refine Qn (Ψ:=[Row e (List.map Fl c),Yi (c.map AA)]) h (Zw h I (rC Zx)<|.tmp I) ?_ ss
 exact⟨c,e,n,k,j,nE,i,rfl,rfl⟩
theorem gU(K:Nat)(m:Ms)(c a b:Option Addr)(k f h o:Nat)(V:List Rat)(d:Option Addr)(l:Nat)(ho:o=1∨o=2)(hv:MV K m)(g:K≤1000)(j:V.length=KY m o): Xo prog 117 [Fo m o V c a b k f h d l] [Row c (cellsOf encPt m.P),Row a (cellsOf Zd m.T),Row b (cellsOf Zd m.S),Row d (cellsOf Qe V)] (.int .i64 0):=by
 refine fnI func117 I ntmps117 fun S w0 p=>zS (zx I fun w=>au 0x6e3125 ?_)
 refine zF [_] call208 (gR K m _ _ _ _ _ _ o V _ _ ho hv g j) ?_;rintro r i ⟨q,t,v,u,s,nE,e,rfl,rfl⟩
 refine au 0xbb4 ?_
 refine zz zeroValue83 fun n=>stW I I Zi ?_
 refine au 0x62543125 ?_
 refine rtK I
theorem gV(p:Pr)(q n o e:Option Addr)(E z B C j:Nat)(r:j≤400000000)(hf:Pq 6 j p.f.l)(D:∀g∈p.G,Pq 6 j g.x.l∧Pq 6 j g.y.l)(J:p.G.length≤1000000): Xo prog 119 [Xf p q n o e E z B C] [Row q (cellsOf encPt p.m.P),Row n (cellsOf Zd p.m.T),Row o (cellsOf Zd p.m.S),Row p.f.a (cellsOf Zz p.f.l),Row e (cellsOf Jg p.G),Yi (Qu p.G)] (.bool false):=by
 refine fnI func119 I ntmps119 fun S w0 H=>zS (zx I fun F=>au 0x9240afe6f94f311253125 ?_);intro a w h
 refine lpG h [1,3,7,8] pkL (fun Y Z (i:Nat) a w=>i≤p.G.length∧St 35 S w0 ((9,nI i)::Y) [(F,bV (Xf p q n o e E z B C) 57)] Z a w) (fun i=>p.G.length-i) 0 (⟨Nat.zero_le _,by exact(h).sub sA⟩) ?_;clear h
 rintro i a w ⟨A,h⟩
 refine gC h<|au 0x12c31 ?_;intro a w h
 refine Zb h I (fun c=>?_) (fun c=>?_)
 ·have b:i<p.G.length:=dT c
  obtain ⟨u,v,rfl⟩:=h.row_addr (ad:=e) (M:=cellsOf Jg p.G) mm (nE 5)
  replace h:=h.pickR (l:=Qu p.G) mm (A6 b).1
  replace h:=h.pickR (l:=Qu p.G) mm (A6 b).2.1
  replace h:=h.pickR (l:=Qu p.G) mm (A6 b).2.2
  refine gC h<|au 0xabf31917 ?_
  refine zD I mm (cells_lt (k:=5) dd (fun _=>rfl) p.G i oo) isAgg104 sizeOf104 (Zg (k:=5) (fun _=>rfl) ((fun _=>rfl)) p.G gv0 i oo) (.inl I) ?_
  refine zz EC fun K=>stW I I Zi ?_
  refine zn<|zS<|zp (.fA I HS)<|ldZ J3 ?_
  refine au 0x20f ?_;clear h;intro a w h
  refine Zh h (fun t h=>?_) (fun t h=>?_)
  focus
   refine gL h<|zm I<|zq 16 I I (.move I)<|zq 16 I I (.fA I DU)<|zq 16 I I (.indexAddr I I<|E4 _ _)<|ldQ 16 EL ?_;clear h;intro a w h
   refine Zq 16 h I I<|Xm h (fs:=[]) (cs:=[]) I (vs:=[_]) I call214 (MG (p.G.getD i gv0).x j (D _<|getD_mem p.G (d:=gv0) b).1 r) (by exact hsA) dd ?_;clear h;intro a w h
   refine gL h<|zq 16 I I (.move I)<|zq 22 I I (.move I)<|zq 22 I I (.fA I DU)<|zq 22 I I (.indexAddr I I<|E3 _ _)<|ldQ 22 J1 ?_;clear h;intro a w h
   refine Zq 22 h I I<|Xm h (fs:=[]) (cs:=[]) I (vs:=[_]) I call214 (MG (p.G.getD i gv0).y j (D _<|getD_mem p.G (d:=gv0) b).2 r) (by exact hsA) dd ?_;clear h;intro a w h
   refine gL h<|zq 16 I I (.pickF I I)<|au 0x22e ?_;clear h;intro a w h
  rotate_left
  focus
   refine gL h<|au 0x31f31f31f31f31f31f4 ?_
   refine zu 22 I I<|zu 22 I I<|zu 22 I I<|zu 22 I I<|zu 22 I I<|au 0x24e31f ?_;clear h;intro a w h
  all_goals
   refine cW ?_
   refine Zj h I ?_
   refine gC h<|zk<|zr<|zp (.pN (i+1)<|.add I I)<|au 0x24 ?_;clear h;intro a w h
   exact⟨i+1,⟨oo,tO h⟩,oo⟩
 ·have s:p.G.length=i:=dF c
  subst s
  refine gC h<|ze<|zS<|zm I<|zp (.fA I PR)<|ldZ Q7 ?_;clear h;intro a w h
  refine Zc<|Xm h (fs:=[]) (cs:=[]) I (vs:=[_]) I call214 (MG p.f j hf r) (by exact hsA) dd ?_;clear h;intro a w h
  refine gL h<|za I<|zn<|zt<|rtK I
theorem G0(K:Nat)(p:Pr)(e b d c:Option Addr)(o i g j:Nat)(U:List Pl)(k:Option Addr)(n t:Nat)(ht:t<p.m.T.length)(hv:MV K p.m): Xo prog 68 [BE p e b d c o i g j U k n,.int .i64 ((t:Nat):Int)] [Row e (cellsOf encPt p.m.P),Row b (cellsOf Zd p.m.T),Row d (cellsOf Zd p.m.S),Row p.f.a (cellsOf Zz p.f.l),Row c (cellsOf Jg p.G),Yi (Qu p.G)] (Vy (pt p.m (p.m.T.getD t (0,0,0)).1) (pt p.m (p.m.T.getD t (0,0,0)).2.1) (pt p.m (p.m.T.getD t (0,0,0)).2.2)):=by
 refine fnI func68 I ntmps68 fun S w0 s=>zS (zx I fun r=>zz zeroValue151 fun x=>zn<|zS<|zp (.fA I HQ)<|au 0xa4f ?_)
 refine ldZ Na ?_
 refine zm I ?_;intro a w h
 refine Zc<|Jl h (vs:=[_,_]) I call124 (Uv K p.m _ _ _ _ _ _ t ht hv) (by exact hsA) dd ?_;clear h;intro a w h
 refine gL h<|au 0xbbb4 ?_
 refine zz Xv fun q=>zz Xv fun u=>zz Xv fun v=>stW I I Qb ?_
 refine stW I I Qb ?_
 refine stW I I Qb ?_
 refine au 0x8e8e8e312 ?_
 refine zp (.build [(_,_),(_,_),(_,_)] I<|Do _ _ _ _ _ _ _ _ _ _ _ _ _ _ _ _ _ _ _ _ _ _ _ _ _ _ _ _ _ _)<|stW I I Ky ?_
 refine zn<|zt ?_;clear h;intro a w h
 refine Js h (Ze h I<|rC AW) ?_
 rfl
end
section
theorem gd: RN (Instr.build 119 [].toArray) (.agg #[.int .u64 0,.string ⟨#[]⟩,.bool false,.int .u64 0,.string ⟨#[]⟩,.int .u64 0,.string ⟨#[]⟩,.bool false,.int .u64 0,.string ⟨#[]⟩]):=fun w=>by simp[go_sem]
theorem X4(b off:Nat): RN (Instr.indexAt 318 (.pointer (some ⟨b,off,none⟩)) (.int .i64 0)) (.pointer (some ⟨b,off+0,none⟩)):=fun w=>by
 simp[go_sem,Instr.indexAt]
theorem X3(b off:Nat): RN (Instr.indexAt 318 (.pointer (some ⟨b,off,none⟩)) (.int .i64 1)) (.pointer (some ⟨b,off+1,none⟩)):=fun w=>by
 simp[go_sem,Instr.indexAt]
theorem X2(b off:Nat): RN (Instr.indexAt 318 (.pointer (some ⟨b,off,none⟩)) (.int .i64 2)) (.pointer (some ⟨b,off+2,none⟩)):=fun w=>by
 simp[go_sem,Instr.indexAt]
theorem lw(b off j:Nat)(h:j<3): RN (Instr.indexAt 318 (.pointer (some ⟨b,off,none⟩)) (.int .i64 (j:Int))) (.pointer (some ⟨b,off+j,none⟩)):=fun w=>by simpa using Er runUnderlying318 sizeOf54 b off j h w
def bsL(o:Nat)(pa pb pc:Pt): List (List Tm):=(List.range (if o=2 then 6 else 3)).map fun i=>basL (lam0 pa pb pc) (lam1 pa pb pc) (lam2 pa pb pc) (Yd o i)
theorem ZX(o:Nat)(b a c:Pt): (bsL o b a c).length=if o=2 then 6 else 3:=by unfold bsL;rw[List.length_map,List.length_range]
theorem Px{v l:List Tm}{d K:Nat}(hv:Pq d K v)(hl:Pq 1 238 l): ∀n,d+n≤12→Pq (d+n) (K+238*n) (mulN v l n)
 | 0,_=>hv
 | n+1,h=>((Px hv hl n oo).mul hl oo).mono oo oo
def Uq(l0 l1 l2:List Tm)(ps:List Pw): Nat→List Tm
 | 0=>[]
 | k+1=>norm (Uq l0 l1 l2 ps k++pwP l0 l1 l2 (ps.getD k pw0))
theorem MA(l0 l1 b:List Tm)(a:List Pw): ∀k,k≤a.length→Uq l0 l1 b a k=basL l0 l1 b (a.take k)
 | 0,_=>rfl
 | k+1,h=>by
  rw[Uq,MA l0 l1 b a k oo, ←OO (d:=pw0) (show k<a.length by omega)]
  simp only[basL,List.foldl_append,List.foldl_cons,List.foldl_nil]
def lmN(l0 l1 l2:List Tm)(i:Nat): List Tm:=match i with
 | 0=>l0
 | 1=>l1
 | _=>l2
def pvF(l0 l1 l2:List Tm)(x:Pw): Nat→List Tm
 | 0=>norm [(⟨0,0,x.c⟩:Tm)]
 | i+1=>mulN (pvF l0 l1 l2 x i) (lmN l0 l1 l2 i) (crn (x.i,x.j,x.k) i)
def dgF(x:Pw): Nat→Nat
 | 0=>0
 | i+1=>dgF x i+crn (x.i,x.j,x.k) i
theorem iV(x:Pw)(h:dgF x 3≤2){i:Nat}(a:i<3): dgF x i+crn (x.i,x.j,x.k) i≤2:=by
 have:i=0∨i=1∨i=2:=oo
 simp only[dgF] at h
 rcases this with rfl|rfl|rfl<;>simp only[dgF]<;>omega
theorem Rl{l0 l1 a:List Tm}{x:Pw}(hx:Zn x.c≤100)(h:∀i,i<3→Pq 1 238 (lmN l0 l1 a i))(hd:dgF x 3≤2): ∀i,i≤3→Pq (dgF x i) (102+238*dgF x i) (pvF l0 l1 a x i)
 | 0,_=>pq_c x.c hx
 | i+1,b=>by
  have h1:=iV x hd (show i<3 by omega)
  exact(Px (Rl hx h hd i oo) (h i oo) _ oo).mono (by rw[dgF];exact Nat.le_refl _) (by rw[dgF];omega)
theorem Rj{o n:Nat}(ho:o=1∨o=2)(a:n<Gz o): (Yd o n).length≤2∧(∀x∈Yd o n,dgF x 3≤2) ∧ ∀x∈Yd o n,x.c=((1:Int):Rat)∨x.c=((2:Int):Rat)∨x.c=((-1:Int):Rat)∨x.c=((4:Int):Rat):=by
 rcases ho with rfl|rfl
 ·have:n=0∨n=1∨n=2:=by simp only[Gz] at a;simp at a;omega
  rcases this with rfl|rfl|rfl<;>exact⟨by decide,by decide,by intro x hx;simp[Yd,El] at hx;subst hx;simp⟩
 ·have:n=0∨n=1∨n=2∨n=3∨n=4∨n=5:=by simp only[Gz] at a;simp at a;omega
  rcases this with rfl|rfl|rfl|rfl|rfl|rfl<;>exact⟨by decide,by decide,by intro x hx;simp[Yd,El] at hx;rcases hx with rfl|rfl<;>simp⟩
theorem pws_c{o n:Nat}(ho:o=1∨o=2)(a:n<Gz o){x:Pw}(hx:x∈Yd o n): Zn x.c≤100:=by
 rcases (Rj ho a).2.2 x hx with e|e|e|e<;>rw[e]<;>exact Nat.le_trans (Qa _ dd dd) dd
theorem QC{l0 l1 b:List Tm}{o n:Nat}(ho:o=1∨o=2)(a:n<Gz o)(h:∀i,i<3→Pq 1 238 (lmN l0 l1 b i)): ∀k,k≤(Yd o n).length→Pq 2 (580*k+1) (Uq l0 l1 b (Yd o n) k)
 | 0,_=>CL 2 0
 | k+1,hk=>by
  have hm:=getD_mem (Yd o n) (d:=pw0) (show k<(Yd o n).length by omega)
  have hd:=(Rj ho a).2.1 _ hm
  have h1:=Rl (pws_c ho a hm) h hd 3 (Nat.le_refl _)
  exact(Pq.add (QC ho a h k oo) (h1.mono hd (by omega:_≤578)) dd dd).mono dd oo
theorem iO{a c b:Pt}(ha:PtK 4 a)(d:PtK 4 c)(hc:PtK 4 b): ∀i,i<3→Pq 1 238 (lmN (lam0 a c b) (lam1 a c b) (lam2 a c b) i):=by
 obtain ⟨r0,r1,e⟩:=ji ha d hc dd
 obtain ⟨g0,g1,g2⟩:=YO ha d hc
 have m:=fun {g:Pt} (h:PtK (10*4+6) g)=>h.mono (show 10*4+6≤74 by decide)
 intro i f
 have:i=0∨i=1∨i=2:=oo
 rcases this with rfl|rfl|rfl
 ·exact F9 (K:=74) r0 (m g0)
 ·exact F9 (K:=74) r1 (m g1)
 ·exact F9 (K:=74) e (m g2)
theorem ZY{o:Nat}{a e c:Pt}(ho:o=1∨o=2)(ha:PtK 4 a)(f:PtK 4 e)(hc:PtK 4 c): ∀b∈bsL o a e c,Pq 2 1200 b:=by
 intro b h
 obtain ⟨i,d,rfl⟩:=List.mem_map.1 h
 have hm:i<Gz o:=by rw[List.mem_range] at d;rcases ho with rfl|rfl<;>simpa [Gz] using d
 have h1:=QC ho hm (iO ha f hc) (Yd o i).length (Nat.le_refl _)
 rw[MA _ _ _ _ _ (Nat.le_refl _),List.take_length] at h1
 have:=(Rj ho hm).1
 exact h1.mono (Nat.le_refl _) oo
theorem iu(o:Nat)(ho:o=1∨o=2)(b e f:Pt)(ha:PtK 4 b)(hb:PtK 4 e)(hc:PtK 4 f)(hT:0<(twP b e f).num.sign): Ctr prog 120 [.int .i64 ((o:Nat):Int),Vy b e f] [SideF] (fun v Ψ => ∃(u:List Pl) (ad:Option Addr),u.map (·.l)=bsL o b e f∧v=.tuple #[.slice ad u.length u.length,.int .i64 0]∧Ψ=[Row ad (List.map Ys u),Yi (u.map Yo)]):=by
 obtain ⟨r0,r1,r2⟩:=ji ha hb hc dd
 obtain ⟨g0,g1,g2⟩:=YO ha hb hc
 have m:=fun {g:Pt} (h:PtK (10*4+6) g)=>h.mono (show 10*4+6≤74 by decide)
 obtain ⟨k6,l2⟩:=id ha
 obtain ⟨l6,l3⟩:=id hb
 obtain ⟨l7,j8⟩:=id hc
 refine fn_intro func120 I ntmps120 nb ?_
 intro S w0 a hS h
 replace h:=h.derive (R:=Row none (cellsOf Zz [])) (fun X _ h4=>absurd I h4)
 refine gC h<|zS (zx I fun b3=>au 0x3bf4311255 ?_)
 refine zv [_,_] I call216 (nj o 4 ho b e f ha hb hc dd hT)<|au 0x317d2a0f ?_
 refine zp (.indexAddr I I<|B0 _ _)<|ldZ AX ?_
 refine zp (.indexAddr I I<|BZ _ _)<|ldZ Gu ?_
 refine zp (.indexAddr I I<|BY _ _)<|ldZ Gt ?_
 refine zp (.build [] I<|gd)<|zv [_,_,_,_] I call217 (SC b e f (0,0) oo oo oo oo oo oo (by have:=Vo;simp only;omega) (by have:=Vo;simp only;omega)<|tw_ne hT)<|au 0xbb4 ?_
 refine zz SY fun b6=>stW I I BR ?_
 refine za I<|zn<|zS<|zp (.indexAddr I I<|B0 _ _)<|ldZ AX ?_
 refine zp (.indexAddr I I<|BZ _ _)<|ldZ Gu ?_
 refine zp (.indexAddr I I<|BY _ _)<|ldZ Gt ?_
 refine zv [_,_,_] I call218 (af b e f oo oo oo oo oo oo<|tw_ne hT)<|au 0xbb4 ?_
 refine zz zeroValue151 fun b8=>stW I I Ky ?_
 refine za I<|zn<|zS (zz zeroLP fun L=>au 0x9243112 ?_)
 refine lpR 4<|rdS<|au 0x254319171e129e31 ?_
 refine yE [0,1,2,3,4,5,6,7,8,9]<|au 0xdbf3cf88 ?_;clear h
 refine au 0xc6f65f8 ?_
 refine Zs I kk (vs:=[_,_]) I call219 (aI (Gf b e f (0,0)).1 (Jz b e f).1 74 r0 (m g0) dd) (by exact hsA) dd ?_;rintro c6 a1 ⟨B,C,rfl,rfl⟩
 obtain ⟨q,P⟩:∃G,Lu (Gf b e f (0,0)).1 (Jz b e f).1=G:=⟨_,rfl⟩
 rw[P]
 have k5:Pq 1 238 q:=P ▸ F9 (K:=74) r0 (m g0)
 refine yp I (.indexAddr I I<|X4 _ _)<|stV I I I EH ?_
 refine au 0x24e2f3a ?_;intro a w h
 replace h:=kQ h [0,4,5,6,8,10,47,48] pkL
 refine Zm ?_
 refine gC h<|au 0x254319171e129e31 ?_
 refine yE [0,1,2,3,4,5,6,7,8,9]<|au 0xcbf2cf88 ?_;clear h
 refine au 0xb6f55f8 ?_
 refine Zs I kk (vs:=[_,_]) I call219 (aI (Gf b e f (0,0)).2.1 (Jz b e f).2.1 74 r1 (m g1) dd) (by exact hsA) dd ?_;rintro c6 a1 ⟨x,E,rfl,rfl⟩
 obtain ⟨p,Q⟩:∃G,Lu (Gf b e f (0,0)).2.1 (Jz b e f).2.1=G:=⟨_,rfl⟩
 rw[Q]
 have j7:Pq 1 238 p:=Q ▸ F9 (K:=74) r1 (m g1)
 refine yp I (.indexAddr I I<|X3 _ _)<|stV I I I K9 ?_
 refine au 0x2471f3a ?_;intro a w h
 replace h:=kQ h [0,4,5,6,8,10,47,48] pkL
 refine Zm ?_
 refine gC h<|au 0x254319171e129e31 ?_
 refine yE [0,1,2,3,4,5,6,7,8,9]<|au 0x88 ?_
 refine yp I (.indexAddr I I<|E0 _ _)<|ldY Gw ?_;clear h
 refine au 0xa6f45f8 ?_
 refine Zs I kk (vs:=[_,_]) I call219 (aI (Gf b e f (0,0)).2.2 (Jz b e f).2.2 74 r2 (m g2) dd) (by exact hsA) dd ?_;rintro c6 a1 ⟨y,F,rfl,rfl⟩
 obtain ⟨n,T⟩:∃G,Lu (Gf b e f (0,0)).2.2 (Jz b e f).2.2=G:=⟨_,rfl⟩
 rw[T]
 have k9:Pq 1 238 n:=T ▸ F9 (K:=74) r2 (m g2)
 refine yp I (.indexAddr I I<|X2 _ _)<|stV I I I HF ?_
 refine au 0x24e1f3a ?_;intro a w h
 replace h:=kQ h [0,4,5,6,8,10,47,48] pkL
 refine Zm ?_
 refine gC h<|au 0x5310ed1241f31 ?_;clear h;intro a w h
 replace h:=h.gatherR (l:=[(⟨B,q,C⟩:Pl),⟨x,p,E⟩,⟨y,n,F⟩].map Yo) (by intro R hR;simp only[List.map_cons,List.map_nil,List.mem_cons,List.not_mem_nil,or_false] at hR;rcases hR with rfl|rfl|rfl<;>exact mm)
 obtain ⟨D,b7⟩:∃l,[(⟨B,q,C⟩:Pl),⟨x,p,E⟩,⟨y,n,F⟩]=l:=⟨_,rfl⟩
 replace h:=h.same I (show _=[(L,.cells (List.map Ys ([(⟨B,q,C⟩:Pl),⟨x,p,E⟩,⟨y,n,F⟩])).toArray 318 (0,0)),(b8,bV (Vy ((Jz b e f).1) ((Jz b e f).2.1) ((Jz b e f).2.2)) 151),(b6,bV (Ue (Gf b e f (0,0))) 52),(b3,bV (Vy b e f) 151)] from I) I
 rw[b7] at h
 have k7:D.length=3:=by rw[←b7];rfl
 have h7:∀i,i<3→(D.getD i pl0).l=lmN q p n i:=by
  rw[←b7];intro i hi
  have:i=0∨i=1∨i=2:=oo
  rcases this with rfl|rfl|rfl<;>rfl
 have V:∀i,i<3→Pq 1 238 (lmN q p n i):=by have:=iO ha hb hc;rw[show lam0 b e f=q from P,show lam1 b e f=p from Q,show lam2 b e f=n from T] at this;exact this
 refine gL h<|au 0x43112 ?_
 refine zv [_] I call220 (jC ho)<|au 0x924 ?_;clear h;intro a w h
 replace h:=h.gatherR (l:=([]:List Pl).map Yo) (fun _ hx=>nomatch hx)
 refine lpG h [0,4,5,10,61] pkL (fun Y Z (s:Nat) a w=>s≤Gz o ∧ ∃(u:List Pl) (aB:Option Addr) (cB:Nat) (oB:List (Nat×Obj)),(u.map (·.l)=(List.range s).map (fun i=>basL q p n<|Yd o i)∧GrowO 1 54 (.slice aB (u).length cB) (u).length (List.map Ys<|u) oB)∧St 115 S w0 ((12,(.slice aB (u).length cB))::(62,nI s)::Y) (oB++((L,.cells (List.map Ys<|D).toArray 318 (0,0))::((b8,bV (Vy ((Jz b e f).1) ((Jz b e f).2.1) ((Jz b e f).2.2)) 151)::((b6,bV (Ue<|Gf b e f (0,0)) 52)::((b3,bV (Vy b e f) 151)::[]))))) (Yi (u.map Yo)::Z) a w) (fun s=>Gz o-s) 0 (⟨Nat.zero_le _,[],none,0,[],⟨rfl,GrowO.nil _ _⟩,by exact(h.factsSub (by exact hsA)).sub sA⟩) ?_;clear h
 rintro s a w ⟨j2,u,aB,cB,oB,⟨hB,a8⟩,h⟩
 refine gC h<|au 0x12c31 ?_;intro a w h
 refine Zb h I (fun J=>?_) (fun J=>?_)
 ·have A:s<Gz o:=dT J
  obtain ⟨j9,e3,_⟩:=Rj ho A
  have e9:u.length=s:=by have:=congrArg List.length hB;rw[List.length_map,List.length_map,List.length_range] at this;exact this
  have h9:Gz o≤6:=by unfold Gz;split<;>omega
  refine gC h<|au 0x4431253125431917 ?_
  refine zF [_,_] call221 (im ho A) ?_;rintro l4 j6 ⟨i1,cW,rfl,rfl⟩
  refine au 0x4311255bb4 ?_
  refine zp (.builtin [_] I<|Lz _ _ _)<|au 0x924 ?_;clear h;intro a w h
  refine lpG h [0,4,5,10,12,61,62,71,72] pkL (fun Y Z (k:Nat) a w=>k≤(Yd o s).length ∧ ∃(aS:Option Addr) (cS:Nat),(True)∧St 115 S w0 ((14,.slice aS ((Uq q p n (Yd o s) k).length) cS)::(73,nI k)::Y) (oB++((L,.cells (List.map Ys<|D).toArray 318 (0,0))::((b8,bV (Vy ((Jz b e f).1) ((Jz b e f).2.1) ((Jz b e f).2.2)) 151)::((b6,bV (Ue<|Gf b e f (0,0)) 52)::((b3,bV (Vy b e f) 151)::[]))))) (Row aS (cellsOf Zz<|Uq q p n (Yd o s) k)::Z) a w) (fun k=>(Yd o s).length-k) 0 (⟨Nat.zero_le _,none,0,trivial,by exact(h.factsSub (by exact hsA)).sub sA⟩) ?_;clear h
  rintro k a w ⟨j0,aS,cS,_,h⟩
  refine gC h<|au 0x12c31 ?_;intro a w h
  refine Zb h I (fun N=>?_) (fun N=>?_)
  ·have b5:k<(Yd o s).length:=dT N
   have c9:=getD_mem (Yd o s) (d:=pw0) b5
   have a6:=pws_c ho A c9
   have U:=e3 _ c9
   obtain ⟨h6,e7,rfl⟩:=h.row_addr (ad:=i1) (M:=cellsOf Vt (Yd o s)) mm (nE 8)
   have i6:Pq 2 1170 (Uq q p n (Yd o s) k):=(QC ho A V k oo).mono (Nat.le_refl _) oo
   have e4:Pq 2 600 (pvF q p n ((Yd o s).getD k pw0) 3):=(Rl a6 V U 3 (Nat.le_refl _)).mono U oo
   refine gC h<|zk<|zs<|zb<|zS<|zp (.indexAddr I I<|ix_321 _ _ _ _ _ oo)<|zD I mm (cells_lt (k:=8) dd (fun _=>rfl) (Yd o s) k oo) isAgg325 sizeOf325 (Zg (k:=8) (fun _=>rfl) ((fun _=>rfl)) (Yd o s) pw0 k oo) (.inl I) ?_
   refine zz iw fun e2=>stW I I QX ?_
   refine zn<|zS<|zp (.fA I eZ)<|ldZ dK ?_
   refine zF [_] call222 (MM ((Yd o s).getD k pw0).c 100 a6 dd) ?_;rintro v79 i7 ⟨c7,e6,rfl,rfl⟩
   refine au 0x31125 ?_
   refine zp (.fA I fc)<|ldZ rs_8_0 ?_
   refine zp (.fA I fb)<|ldZ rs_8_1 ?_
   refine zp (.fA I fa)<|ldZ rs_8_2 ?_
   refine au 0x9246bf ?_;clear h;intro a w h
   refine lpG h [0,4,5,10,12,14,61,62,71,72,73,86] pkL (fun Y Z (ii:Nat) a w=>ii≤3 ∧ ∃(aV:Option Addr) (cV:Nat),(True)∧St 115 S w0 ((19,.slice aV ((pvF q p n ((Yd o s).getD k pw0) ii).length) cV)::(87,nI ii)::Y) ((e2,bV (Vt ((Yd o s).getD k pw0)) 325)::(oB++((L,.cells (List.map Ys<|D).toArray 318 (0,0))::((b8,bV (Vy ((Jz b e f).1) ((Jz b e f).2.1) ((Jz b e f).2.2)) 151)::((b6,bV (Ue<|Gf b e f (0,0)) 52)::((b3,bV (Vy b e f) 151)::[])))))) (Row aV (cellsOf Zz<|pvF q p n ((Yd o s).getD k pw0) ii)::Z) a w) (fun ii=>3-ii) 0 (⟨Nat.zero_le _,c7,e6,trivial,by exact(h.factsSub (by exact hsA)).sub sA⟩) ?_;clear h
   rintro ii a w ⟨h5,aV,cV,_,h⟩
   refine gC h<|au 0x12c31 ?_;intro a w h
   refine Zb h I (fun O=>?_) (fun O=>?_)
   ·have t:ii<3:=dT O
    have l5:=iV _ U t
    have c4:=V ii t
    have h0:=Rl a6 V U ii oo
    replace h:=h.pickR (l:=D.map Yo) mm (List.mem_map.2 ⟨_,getD_mem D (d:=pl0) (show ii<D.length by omega),rfl⟩)
    obtain ⟨aL,cL,hX⟩:∃a c,D.getD ii pl0=⟨a,lmN q p n ii,c⟩:=⟨(D.getD ii pl0).a,(D.getD ii pl0).c,by rw[←h7 ii t]⟩
    rw[show Yo (D.getD ii pl0)=Row aL (cellsOf Zz (lmN q p n ii)) from by rw[hX]] at h
    refine gC h<|au 0x431917 ?_
    refine zp (.index I I<|YC (((Yd o s).getD k pw0).i,((Yd o s).getD k pw0).j,((Yd o s).getD k pw0).k) _ t)<|au 0x924431255 ?_;clear h;intro a w h
    refine lpG h [0,4,5,10,12,14,20,61,62,71,72,73,86,87,91] pkL (fun Y Z (r:Nat) a w=>r≤(crn (((Yd o s).getD k pw0).i,((Yd o s).getD k pw0).j,((Yd o s).getD k pw0).k) ii) ∧ ∃(aM:Option Addr) (cM:Nat),(True)∧St 115 S w0 ((19,.slice aM ((mulN (pvF q p n ((Yd o s).getD k pw0) ii) (lmN q p n ii) r).length) cM)::(92,nI r)::Y) ((e2,bV (Vt ((Yd o s).getD k pw0)) 325)::(oB++((L,.cells (List.map Ys<|D).toArray 318 (0,0))::((b8,bV (Vy ((Jz b e f).1) ((Jz b e f).2.1) ((Jz b e f).2.2)) 151)::((b6,bV (Ue<|Gf b e f (0,0)) 52)::((b3,bV (Vy b e f) 151)::[])))))) (Row aM (cellsOf Zz<|mulN (pvF q p n ((Yd o s).getD k pw0) ii) (lmN q p n ii) r)::Z) a w) (fun r=>(crn (((Yd o s).getD k pw0).i,((Yd o s).getD k pw0).j,((Yd o s).getD k pw0).k) ii)-r) 0 (⟨Nat.zero_le _,aV,cV,trivial,by exact(h.factsSub (by exact hsA)).sub sA⟩) ?_;clear h
    rintro r a w ⟨j5,aM,cM,_,h⟩
    refine gC h<|au 0x12c31 ?_;intro a w h
    refine Zb h I (fun H=>?_) (fun H=>?_)
    ·have h3:r<(crn (((Yd o s).getD k pw0).i,((Yd o s).getD k pw0).j,((Yd o s).getD k pw0).k) ii):=dT H
     have h2:Pq 2 600 (mulN (pvF q p n ((Yd o s).getD k pw0) ii) (lmN q p n ii) r):=(Px h0 c4 r oo).mono oo oo
     have e0:=MH (mulN (pvF q p n ((Yd o s).getD k pw0) ii) (lmN q p n ii) r) (lmN q p n ii) aM aL cM cL 2 1 600 238 h2 c4 dd dd dd
     refine gC h<|au 0x443917 ?_
     refine zp (.indexAddr I I<|lw _ _ _ oo)<|zd I mm isAgg54 sizeOf54 ((congrArg _<|Nat.zero_add _).trans<|Zr (enc:=Ys) (l:=D) pl0 oo) ?_;clear h;intro a w h
     rw[show Ys (D.getD ii pl0)=Value.slice aL (lmN q p n ii).length cL from by rw[hX]] at h
     refine gL h<|zF [_,_] call223 (e0) ?_;clear h;rintro k8 j1 ⟨c5,h8,rfl,rfl⟩ a w h
     rw[show norm (Yx (mulN (pvF q p n ((Yd o s).getD k pw0) ii) (lmN q p n ii) r) (lmN q p n ii))=mulN (pvF q p n ((Yd o s).getD k pw0) ii) (lmN q p n ii) (r+1) from rfl] at h
     refine gL h<|au 0x325bb4 ?_
     refine zp (.pN (r+1)<|.add I I)<|au 0x24 ?_;clear h;intro a w h
     exact⟨r+1,⟨oo,c5,h8,trivial,by exact tO h⟩,oo⟩
    ·have b1:(crn (((Yd o s).getD k pw0).i,((Yd o s).getD k pw0).j,((Yd o s).getD k pw0).k) ii)=r:=dF H
     subst b1
     refine gC h<|ze<|zr<|zp (.pN (ii+1)<|.add I I)<|au 0x24 ?_;clear h;intro a w h
     exact⟨ii+1,⟨oo,aM,cM,trivial,by exact tO h⟩,oo⟩
   ·have W:3=ii:=dF O
    subst W
    refine gC h<|au 0x4430e ?_
    refine zF [_,_] call89 (CG (Uq q p n (Yd o s) k) (pvF q p n ((Yd o s).getD k pw0) 3) _ _ _ _ 2 2 1170 600 i6 e4 dd dd dd dd) ?_;rintro j4 e8 ⟨b9,e1,rfl,rfl⟩
    refine za I<|zn<|zr<|zp (.pN (k+1)<|.add I I)<|au 0x24 ?_;intro a w h
    exact⟨k+1,⟨oo,b9,e1,trivial,by exact tO h⟩,oo⟩
  ·have a7:(Yd o s).length=k:=dF N
   subst a7
   refine gC h<|au 0x4430e ?_
   refine zB [(_,_)] I (GT _ _ _) fun j3=>?_
   refine apM Ys u [(⟨aS,Uq q p n (Yd o s) ((Yd o s).length),cS⟩:Pl)] a8 ?_;intro b2 c3 c8 b0 a w h
   refine gL h<|za I ?_;clear h;intro a w h
   
   refine gL h<|zn<|zr<|zp (.pN (s+1)<|.add I I)<|au 0x24 ?_;clear h;intro a w h
   replace h:=h.gatherR (l:=[Yo (⟨aS,Uq q p n (Yd o s) ((Yd o s).length),cS⟩:Pl)]) (by intro R hR;rw[List.mem_singleton] at hR;rw[hR];exact mm)
   replace h:=h.joinR (l:=u.map Yo) (k:=[Yo (⟨aS,Uq q p n (Yd o s) ((Yd o s).length),cS⟩:Pl)]) mm mm
   rw[show u.map Yo++[Yo (⟨aS,Uq q p n (Yd o s) ((Yd o s).length),cS⟩:Pl)]=(u++[(⟨aS,Uq q p n (Yd o s) ((Yd o s).length),cS⟩:Pl)]).map Yo from by rw[List.map_append];rfl] at h
   exact⟨s+1,⟨oo,_,b2,c3,c8,⟨by rw[List.map_append,hB,List.range_succ,List.map_append];exact congrArg _ (by rw[List.map_singleton,List.map_singleton];exact congrArg (fun z=>[z]) (by rw[MA _ _ _ _ _ (Nat.le_refl _),List.take_length])),b0⟩,by exact tO h⟩,oo⟩
 ·have b4:Gz o=s:=dF J
  subst b4
  have e5:=Vr a8
  have e9:u.length=Gz o:=by have:=congrArg List.length hB;rw[List.length_map,List.length_map,List.length_range] at this;exact this
  have h9:Gz o≤6:=by unfold Gz;split<;>omega
  replace h:=h.shareO' hS a8
  refine gC h<|ze<|zS<|zm I<|zv [_] I call224 (oy aB u.length cB e5 oo)<|au 0x6255 ?_;clear h;intro a w h
  exact Qn h (Zw h I (.tmp I) (.tmp I)) ⟨u,aB,(by rw[hB];unfold bsL;rw[show lam0 b e f=q from P,show lam1 b e f=p from Q,show lam2 b e f=n from T];rcases ho with rfl|rfl<;>rfl),rfl,rfl⟩ (by exact hsA)
def uF(bs:List (List Tm))(ds:List Nat)(V:List Rat): Nat→List Tm
 | 0=>[]
 | k+1=>norm (uF bs ds V k++norm (Qc (V.getD (ds.getD k 0) 0) (bs.getD k [])))
def uT(m:Ms)(o:Nat)(V:List Rat)(t:Nat×Nat×Nat): List Tm:=uF (bsL o (pt m t.1) (pt m t.2.1) (pt m t.2.2)) (OE m o t) V (OE m o t).length
theorem jH{bs:List (List Tm)}{ds:List Nat}{V:List Rat}(c:∀b∈bs,Pq 2 1200 b)(a:∀x∈V,Zn x≤4)(hd:∀x∈ds,x<V.length): ∀k,k≤ds.length→k≤bs.length→Pq 2 (1207*k+1) (uF bs ds V k)
 | 0,_,_=>CL 2 0
 | k+1,h1,h=>by
  have e:=jH c a hd k oo oo
  have f:=c _ (getD_mem bs (d:=[]) (show k<bs.length by omega))
  have g:=a _ (getD_mem V (d:=0) (hd _ (getD_mem ds (d:=0) (show k<ds.length by omega))))
  exact(Pq.add e (f.scale g dd) dd dd).mono dd oo
theorem cq{m:Ms}{o:Nat}{V:List Rat}(hv:MV 4 m)(ho:o=1∨o=2)(b:∀x∈V,Zn x≤4)(c:V.length=KY m o){t:Nat×Nat×Nat}(ht:t∈m.T): Pq 2 7243 (uT m o V t):=by
 obtain ⟨h1,a,d⟩:=hv.tri ht
 have hl:=Mn m o t
 have:=jH (ZY ho h1 a d) b (fun x hx=>by rw[c];exact P2 hv o ht x hx) (OE m o t).length (Nat.le_refl _) (by rw[ZX,hl];exact Nat.le_refl _)
 refine this.mono (Nat.le_refl _) ?_
 rw[hl];split<;>omega
theorem Lr{α β:Type}(f:α→β)(l:List α)(k:Nat)(d:α): (l.map f).getD k (f d)=f (l.getD k d):=by
 simp only[List.getD,List.getElem?_map];cases l[k]?<;>rfl
end
section
theorem gb(v s u t A q x z y r b k a h l m j d n p f g o i e c:Value): RN (Instr.build 147 [(0,.agg #[v,s,u,t,A,q,x,z,y,r,b,k,a,h,l,m,j,d,n,p,f,g,o,i,e,c])].toArray) (.agg #[v,s,u,t,A,q,x,z,y,r,b,k,a,h,l,m,j,d,n,p,f,g,o,i,e,c,.slice none 0 0]):=fun w=>by simp[go_sem]
theorem BQ{c0 c1 c2 F A z B C D E v m t n s u g k q i p l o j w h r v0 v1 v2 v3 v4 v5 v6 y x v9 v10 v11 v12 a f c d v17 b e v20 v21 v22 v23 v24 v25 v26:Value}: Zl #[c0,c1,c2,F,A,z,B,C,D,E,v,m,t,n,s,u,g,k,q,i,p,l,o,j,w,h,r] 0 [v0,v1,v2,v3,v4,v5,v6,y,x,v9,v10,v11,v12,a,f,c,d,v17,b,e,v20,v21,v22,v23,v24,v25,v26]=#[v0,v1,v2,v3,v4,v5,v6,y,x,v9,v10,v11,v12,a,f,c,d,v17,b,e,v20,v21,v22,v23,v24,v25,v26]:=by kernel_rfl
theorem ix_80(b off n c j:Nat)(h:j<n): RN (Instr.indexAt 80 (.slice (some ⟨b,off,none⟩) n c) (.int .i64 (j:Int))) (.pointer (some ⟨b,off+j,none⟩)):=fun w=>by
 simpa using Qd runUnderlying80 sizeOf69 b off n c j h w
theorem Ga{c0 c1 c2 x s r t u v w p g n h m o a e k c j f i d q b l:Value}: Zk true 27 #[c0,c1,c2,x,s,r,t,u,v,w,p,g,n,h,m,o,a,e,k,c,j,f,i,d,q,b,l] 0=some (.agg #[c0,c1,c2,x,s,r,t,u,v,w,p,g,n,h,m,o,a,e,k,c,j,f,i,d,q,b,l]):=by kernel_rfl
theorem Fh{b off:Nat}: RN (Instr.fieldAt 147 (.pointer (some ⟨b,off,none⟩)) 1) (.pointer (some ⟨b,off+26,none⟩)):=fun w=>by
 simp[go_sem]
theorem Lg{c0 c1 c2 x s r t u v w p h n i m o b f l d k g j e q c a:Value}: Zk false 1 #[c0,c1,c2,x,s,r,t,u,v,w,p,h,n,i,m,o,b,f,l,d,k,g,j,e,q,c,a] 26=some a:=rfl
theorem Td{c0 c1 c2 x s r t u v w o g m h l n a e k c j f i d p b q v0:Value}: Zl #[c0,c1,c2,x,s,r,t,u,v,w,o,g,m,h,l,n,a,e,k,c,j,f,i,d,p,b,q] 26 [v0]=#[c0,c1,c2,x,s,r,t,u,v,w,o,g,m,h,l,n,a,e,k,c,j,f,i,d,p,b,v0]:=rfl
theorem aw(K:Nat)(p:Pr)(e b d c:Option Addr)(j h g i:Nat)(o:PrV K p)(k:K≤100000)(n:Et p=true): Xo prog 91 [Xf p e b d c j h g i] [Row e (cellsOf encPt p.m.P),Row b (cellsOf Zd p.m.T),Row d (cellsOf Zd p.m.S),Row p.f.a (cellsOf Zz p.f.l),Row c (cellsOf Jg p.G),Yi (Qu p.G)] (.int .i64 0):=by
 have:=SI K p e b d c j h g i o k
 rw[n] at this;exact this
theorem gK(m:Ms)(c a b:Option Addr)(f e d:Nat)(k:m.P.length≤1000000)(hT:m.T.length≤1000000)(g:m.S.length≤1000000): Xo prog 118 [Qz m c a b f e d,Qz m c a b f e d] [Row c (cellsOf encPt m.P),Row a (cellsOf Zd m.T),Row b (cellsOf Zd m.S)] (.bool true):=by
 have:=nB m m c a b f e d c a b f e d k hT g
 rw[decide_eq_true rfl,decide_eq_true rfl,decide_eq_true rfl] at this
 exact fun X w j i=>this X w j (fun R hR=>i R (by simp only[List.mem_cons,List.mem_append,List.not_mem_nil,or_false] at hR ⊢;rcases hR with h|h|h|h|h|h<;>simp[h]))
structure EsV(p:Pr)(V:List Rat): Prop where
 pv:PrV 4 p
 held:Et p=true
 n:V.length=KY p.m p.o
 xV:∀x∈V,Zn x≤4
 f:Pq 4 1000 p.f.l
 G:∀g∈p.G,Pq 4 1000 g.x.l∧Pq 4 1000 g.y.l
 k0:Zn p.k0≤2
 k1:Zn p.k1≤2
 k2:Zn p.k2≤2
 c:Zn p.c≤4
theorem ar(p:Pr)(j i q s:Option Addr)(J L H cG:Nat)(V:List Rat)(aV:Option Addr)(cV:Nat)(e:EsV p V): Ctr prog 66 [Xf p j i q s J L H cG,Fo p.m p.o V j i q J L H aV cV] [Row j (cellsOf encPt p.m.P),Row i (cellsOf Zd p.m.T),Row q (cellsOf Zd p.m.S),Row p.f.a (cellsOf Zz p.f.l),Row s (cellsOf Jg p.G),Yi (Qu p.G),Row aV (cellsOf Qe V),SideF] (fun v Ψ => ∃(U:List Pl) (E:Option Addr) (W:Nat),U.map (·.l)=p.m.T.map (uT p.m p.o V)∧v=.tuple #[BE p j i q s J L H cG U E W,.int .i64 0]∧Ψ=[Row E (List.map Ys U),Yi (U.map Yo)]):=by
 have j8:=e.pv.m.nP
 have j9:=e.pv.m.nT
 have j7:=e.pv.m.nS
 have k5:=e.pv.G.n
 refine fn_intro func66 I ntmps66 nb ?_
 intro S w0 a hS h
 replace h:=h.derive (R:=Row none (cellsOf Zz [])) (fun X _ h0=>absurd I h0)
 refine gC h<|zS (zx I fun b2=>zx I fun b3=>zz zeroValue147 fun b4=>au 0xfe31125 ?_);clear h;intro a w h
 refine Zc<|Jl h (vs:=[_]) I call91 (aw 4 p _ _ _ _ _ _ _ _ e.pv dd e.held) (by exact hsA) dd ?_;clear h;intro a w h
 refine gL h<|au 0x6e3117d2d0f43125 ?_;clear h;intro a w h
 refine Zc<|Jl h (vs:=[_]) I call117 (gU 4 p.m _ _ _ _ _ _ p.o V _ _ e.pv.o e.pv.m dd e.n) (by exact hsA) dd ?_;clear h;intro a w h
 refine gL h<|au 0x14f0df89fa4f3117d2d0f43125 ?_;clear h;intro a w h
 refine Zc<|Jl h (vs:=[_,_]) I call118 (gK p.m _ _ _ _ _ _ oo oo oo) (by exact hsA) dd ?_;clear h;intro a w h
 refine gL h<|au 0x4a0f ?_
 refine zq 36 I I (.fA I IC)<|ldQ 36 Ej ?_
 refine zq 36 I I (.fA I LV)<|ldQ 36 EL ?_
 refine zq 36 I I (.neq I I) (bbF (fun a1=>(by exfalso;simp at a1)) fun a1=>au 0xfe3117d24e ?_);clear h;intro a w h
 refine Zc<|Jl h (vs:=[_]) I call119 (gV p _ _ _ _ _ _ _ _ 1000 dd (e.f.mono dd dd) (fun g hg=>⟨(e.G g hg).1.mono dd dd,(e.G g hg).2.mono dd dd⟩) oo) (by exact hsA) dd ?_;clear h;intro a w h
 refine wpList_nil ?_
 refine cW ?_
 refine Zb h I (fun Q=>(by exfalso;cases Q)) (fun Q=>?_)
 refine gC h<|au 0x14f0df317 ?_
 refine zp (.fA I LV)<|ldZ EL ?_
 refine zF [_,_] call14 (bg 4 p.m _ _ _ _ _ _ p.o e.pv.o e.pv.m dd) ?_;rintro k6 i1 ⟨b,aT,aA,aE,nA,nZ,N,rfl,rfl⟩
 refine au 0xbb4 ?_
 refine zz zeroValue83 fun b8=>stW I I Zi ?_
 refine au 0xfe317d2d0f431125 ?_
 refine zp (.build [(_,_)] I<|gb _ _ _ _ _ _ _ _ _ _ _ _ _ _ _ _ _ _ _ _ _ _ _ _ _ _) (zz zeroValue147 fun c7=>stW I I BQ ?_)
 refine zn<|zs<|zS<|zp (.fA I YU)<|ldZ J2 ?_
 refine zp (.builtin [_] I<|C6 _ _ _)<|au 0x924 ?_;clear h;intro a w h
 replace h:=h.gatherR (l:=([]:List Pl).map Yo) (fun _ hx=>nomatch hx)
 refine lpG h [2,3,4,10,62,63] pkL (fun Y Z (t:Nat) a w=>t≤b.length ∧ ∃(U:List Pl) (E:Option Addr) (W:Nat) (oU:List (Nat×Obj)),(U.map (·.l)=(p.m.T.take t).map (uT p.m p.o V)∧GrowO 1 54 (.slice E (U).length W) (U).length (List.map Ys<|U) oU)∧St 110 S w0 ((64,nI t)::Y) (oU++((c7,bV (BE p j i q s J L H cG U E W) 147)::((b8,bV (.agg #[.int .i64 ((p.o:Nat):Int),.int .i64 ((KY p.m p.o:Nat):Int),.slice aT b.length b.length,.slice aA nA nA,.slice aE nZ nZ]) 83)::((b4,bV (.agg #[.slice none 0 0,.slice none 0 0,.slice none 0 0,.int .i64 0,.int .u64 0,.string ⟨#[]⟩,.bool false,.int .u64 0,.string ⟨#[]⟩,.int .u64 0,.string ⟨#[]⟩,.bool false,.int .u64 0,.string ⟨#[]⟩,.int .u64 0,.string ⟨#[]⟩,.bool false,.int .u64 0,.string ⟨#[]⟩,.int .u64 0,.string ⟨#[]⟩,.bool false,.int .u64 0,.string ⟨#[]⟩,.slice none 0 0,.slice none 0 0,.slice none 0 0]) 147)::((b3,bV (Fo p.m p.o V j i q J L H aV cV) 61)::((b2,bV (Xf p j i q s J L H cG) 57)::[])))))) (Yi (U.map Yo)::Z) a w) (fun t=>b.length-t) 0 (⟨Nat.zero_le _,[],none,0,[],⟨rfl,GrowO.nil _ _⟩,by exact(h.factsSub (by exact hsA)).sub sA⟩) ?_;clear h
 rintro t a w ⟨h6,U,E,W,oU,⟨hU,c9⟩,h⟩
 refine gC h<|au 0x12c31 ?_;intro a w h
 refine Zb h I (fun A=>?_) (fun A=>?_)
 ·have b6:t<b.length:=dT A
  obtain ⟨c4,e4,rfl⟩:=h.row_addr (ad:=aT) (M:=List.map Fl b) mm nF
  have u:t<p.m.T.length:=by have:=congrArg List.length N;rw[List.length_map,List.length_map] at this;omega
  have K:=getD_mem p.m.T (d:=(0,0,0)) u
  obtain ⟨b1,b7,a7⟩:=e.pv.m.tri K
  have e1:0<(twP (pt p.m (p.m.T.getD t (0,0,0)).1) (pt p.m (p.m.T.getD t (0,0,0)).2.1) (pt p.m (p.m.T.getD t (0,0,0)).2.2)).num.sign:=by rw[e.pv.m.pos _ K];decide
  have z:(b.getD t li0).l=OE p.m p.o (p.m.T.getD t (0,0,0)):=by
   have h1:=congrArg (fun l=>l.getD t []) N
   have h1:=Lr (fun x:Li=>x.l) b t li0
   rw[N] at h1
   rw[←h1]
   simp[List.getD,u]
  have j5:(b.getD t li0).l.length≤6:=by rw[z,Mn];split<;>omega
  replace h:=h.pickR (l:=b.map AA) mm (List.mem_map.2 ⟨_,getD_mem b (d:=li0) b6,rfl⟩)
  obtain ⟨aD,e0⟩:∃x,(b.getD t li0).a=x:=⟨_,rfl⟩
  rw[show AA (b.getD t li0)=Row aD (List.map Qi (b.getD t li0).l) from by rw[←e0]] at h
  refine gC h<|au 0x431917 ?_
  refine zp (.indexAddr I I<|ix_80 _ _ _ _ _ oo)<|zD I mm (by rw[List.length_map];omega) isAgg69 sizeOf69 (Zr (enc:=Fl) (l:=b) li0 oo) (.inr I) ?_;clear h;intro a w h
  rw[show Fl (b.getD t li0)=Value.slice aD (b.getD t li0).l.length (b.getD t li0).c from by rw[←e0]] at h
  refine gL h<|au 0x1255 ?_
  refine yE [0,1,2,3,4,5,6,7,8,9,10]<|yp I (.fA I IC)<|ldY Ej ?_;clear h
  refine ldY Ga ?_
  refine au 0x8 ?_
  refine Yy I kk (vs:=[_,_]) I call68 (G0 4 p _ _ _ _ _ _ _ _ U E W t u e.pv.m) (by exact hsA) dd ?_
  refine Zs I kk (vs:=[_,_]) I call120 (iu p.o e.pv.o _ _ _ b1 b7 a7 e1) (by exact hsA) dd ?_;rintro v75 h9 ⟨r,aB,O,rfl,rfl⟩
  refine au 0x92401f431125317d2d0f4311a3e3e7e7e8 ?_;intro a w h
  refine lpG h [2,3,4,10,13,62,63,64,82,83] pkL (fun Y Z (k:Nat) a w=>k≤(b.getD t li0).l.length ∧ ∃(F:Option Addr) (cW:Nat),(True)∧St 110 S w0 ((15,.slice F ((uF (r.map (·.l)) (b.getD t li0).l V k).length) cW)::(84,nI k)::Y) (oU++((c7,bV (BE p j i q s J L H cG U E W) 147)::((b8,bV (.agg #[.int .i64 ((p.o:Nat):Int),.int .i64 ((KY p.m p.o:Nat):Int),.slice (some ⟨c4,e4,none⟩) b.length b.length,.slice aA nA nA,.slice aE nZ nZ]) 83)::((b4,bV (.agg #[.slice none 0 0,.slice none 0 0,.slice none 0 0,.int .i64 0,.int .u64 0,.string ⟨#[]⟩,.bool false,.int .u64 0,.string ⟨#[]⟩,.int .u64 0,.string ⟨#[]⟩,.bool false,.int .u64 0,.string ⟨#[]⟩,.int .u64 0,.string ⟨#[]⟩,.bool false,.int .u64 0,.string ⟨#[]⟩,.int .u64 0,.string ⟨#[]⟩,.bool false,.int .u64 0,.string ⟨#[]⟩,.slice none 0 0,.slice none 0 0,.slice none 0 0]) 147)::((b3,bV (Fo p.m p.o V j i q J L H aV cV) 61)::((b2,bV (Xf p j i q s J L H cG) 57)::[])))))) (Row F (cellsOf Zz<|uF (r.map (·.l)) (b.getD t li0).l V k)::Z) a w) (fun k=>(b.getD t li0).l.length-k) 0 (⟨Nat.zero_le _,none,0,trivial,by exact(h.factsSub (by exact hsA)).sub sA⟩) ?_;clear h
  rintro k a w ⟨h7,F,cW,j4,h⟩
  refine gC h<|au 0x12c31 ?_;intro a w h
  refine Zb h I (fun y=>?_) (fun y=>?_)
  ·have B:k<(b.getD t li0).l.length:=dT y
   have c6:k<r.length:=by have h1:=congrArg List.length O;rw[List.length_map,ZX] at h1;rw[z,Mn] at B;omega
   have c3:=getD_mem r (d:=pl0) c6
   have e5:=ZY e.pv.o b1 b7 a7 _ (by rw[←O];exact List.mem_map.2 ⟨_,c3,rfl⟩)
   have e7:(b.getD t li0).l.getD k 0<V.length:=by rw[e.n];refine P2 e.pv.m p.o K _ ?_;rw[←z];exact getD_mem _ B
   have e3:=e.xV _ (getD_mem V (d:=0) e7)
   obtain ⟨j0,j1,rfl⟩:=h.row_addr (ad:=aB) (M:=List.map Ys r) mm nF
   obtain ⟨j2,h5,rfl⟩:=h.row_addr (ad:=aD) (M:=List.map Qi ((b.getD t li0).l)) mm nF
   obtain ⟨j3,i6,rfl⟩:=h.row_addr (ad:=aV) (M:=cellsOf Qe V) mm (nE 5)
   have e8:Pq 2 1205 (norm (Qc (V.getD ((b.getD t li0).l.getD k 0) 0) (r.getD k pl0).l)):=e5.scale e3 dd
   have e6:Pq 2 7243 (uF (r.map (·.l)) (b.getD t li0).l V k):=Pq.mono (jH (bs:=(r.map (·.l))) (ds:=(b.getD t li0).l) (V:=V) (by rw[O];exact ZY e.pv.o b1 b7 a7) e.xV (fun x hx=>by rw[e.n];refine P2 e.pv.m p.o K _ ?_;rw[←z];exact hx) k oo (by rw[List.length_map];omega)) (Nat.le_refl _) oo
   replace h:=h.pickR (l:=r.map Yo) mm (List.mem_map.2 ⟨_,c3,rfl⟩)
   refine gC h<|au 0xf1f431917 ?_
   refine zD I mm (by rw[List.length_map];omega) isAgg3 sizeOf3 (Zr (enc:=Qi) (l:=((b.getD t li0).l)) 0 oo) (.inr I) ?_
   refine za I<|za I<|zn<|yE [0,1,2,3,4,5,6,7,8,9,10,11,12]<|au 0x888 ?_
   refine yp I (.indexAddr I I<|RJ _ _ _ _ _ oo) ?_;clear h
   refine Zf I kk I mm (by rw[List.length_map];omega) isAgg54 sizeOf54 (Zr (enc:=Ys) (l:=r) pl0 oo) (.inr I) dd ?_
   refine au 0x18f6af ?_
   refine au 0x8 ?_
   refine yp I (.indexAddr I I<|ix_59 _ _ _ _ _ oo) ?_
   refine Zf I kk I mm (cells_lt (k:=5) dd (fun _=>rfl) V (((b.getD t li0).l).getD k 0) oo) isAgg51 sizeOf51 (Zg (k:=5) (fun _=>rfl) ((fun _=>rfl)) V 0 (((b.getD t li0).l).getD k 0) oo) (.inl I) dd ?_
   refine Zs I kk (vs:=[_,_]) I call121 (Gm (r.getD k pl0).l _ _ 2 1200 e5 dd dd (V.getD ((b.getD t li0).l.getD k 0) 0) 4 e3 dd) (by exact hsA) dd ?_;rintro j6 h8 ⟨c5,h3,rfl,rfl⟩
   have b9:=CG (uF (r.map (·.l)) (b.getD t li0).l V k) (norm (Qc (V.getD ((b.getD t li0).l.getD k 0) 0) (r.getD k pl0).l)) F c5 cW h3 2 2 7243 1205 e6 e8 dd dd dd dd
   refine Zs I kk (vs:=[_,_]) I call89 (b9) (by exact hsA) dd ?_;rintro i7 h2 ⟨a8,e2,rfl,rfl⟩
   refine au 0x3a3e ?_
   refine zp (.pN (k+1)<|.add I I)<|au 0x24 ?_;intro a w h
   rw[show norm (uF (r.map (·.l)) (b.getD t li0).l V k++norm (Qc (V.getD ((b.getD t li0).l.getD k 0) 0) (r.getD k pl0).l))=uF (r.map (·.l)) (b.getD t li0).l V (k+1) from by rw[uF, ←Lr (fun x:Pl=>x.l) r k pl0]] at h
   exact⟨k+1,⟨oo,a8,e2,trivial,by exact tO h⟩,oo⟩
  ·have b0:(b.getD t li0).l.length=k:=dF y
   subst b0
   rw[show uF (r.map (·.l)) (b.getD t li0).l V (b.getD t li0).l.length=uT p.m p.o V (p.m.T.getD t (0,0,0)) from by rw[O,z];rfl] at h
   refine gC h<|ze<|zr<|zp (.fA I Fh)<|ldZ Lg ?_
   refine zm I (zB [(_,_)] I (GT _ _ _) fun h4=>?_)
   refine apM Ys U [(⟨F,uT p.m p.o V (p.m.T.getD t (0,0,0)),cW⟩:Pl)] c9 ?_ (hr:=by(try dsimp only);have:=congrArg List.length hU;rw[List.length_map,List.length_map,List.length_take] at this;omega);intro C a6 c8 D a w h
   refine gL h<|zp (.fA I Fh)<|zt' I I Td uu sizeOf145 I nb (by show((flat ((.slice C (U++[(⟨F,uT p.m p.o V (p.m.T.getD t (0,0,0)),cW⟩:Pl)]).length a6)) && true))=true;simp only[GrowO.flat (D)];rfl) ?_
   refine zn<|zr<|zp (.pN (t+1)<|.add I I)<|au 0x24 ?_;clear h;intro a w h
   replace h:=h.gatherR (l:=[Yo (⟨F,uT p.m p.o V (p.m.T.getD t (0,0,0)),cW⟩:Pl)]) (by intro R hR;rw[List.mem_singleton] at hR;rw[hR];exact mm)
   replace h:=h.joinR (l:=U.map Yo) (k:=[Yo (⟨F,uT p.m p.o V (p.m.T.getD t (0,0,0)),cW⟩:Pl)]) mm mm
   rw[show U.map Yo++[Yo (⟨F,uT p.m p.o V (p.m.T.getD t (0,0,0)),cW⟩:Pl)]=(U++[(⟨F,uT p.m p.o V (p.m.T.getD t (0,0,0)),cW⟩:Pl)]).map Yo from by rw[List.map_append];rfl] at h
   exact⟨t+1,⟨oo,_,C,a6,c8,⟨by rw[List.map_append,hU];exact C3 (f:=uT p.m p.o V) (d:=(0,0,0)) u,D⟩,by exact tO h⟩,oo⟩
 ·have b5:b.length=t:=dF A
  subst b5
  have e9:b.length=p.m.T.length:=by have:=congrArg List.length N;rw[List.length_map,List.length_map] at this;exact this
  rw[e9,List.take_length] at hU
  replace h:=h.shareO' hS c9
  refine gC h<|ze<|zS<|ldZ Ga ?_
  refine stW I I BQ ?_
  refine au 0x625 ?_;clear h;intro a w h
  refine Qn (Ψ:=[Row E (List.map Ys U),Yi (U.map Yo)]) h (Zw h I (rC Ga)<|.tmp I) ?_ ss
  exact⟨U,E,W,hU,rfl,rfl⟩
end
section
theorem jn{D E:Nat}{φ:Nat→Nat→Rat}: ∀ {l:List Tm},(∀t∈l,ID D t.c)→(∀t∈l,ID E (φ t.i t.j))→ID (D*E) (lin φ l)
 | [],_,_=>ID.zero _
 | t::l,h,g=>by
  rw[RE]
  exact((h t List.mem_cons_self).mul (g t List.mem_cons_self)).add (jn (fun s hs=>h s (List.mem_cons_of_mem _ hs)) (fun s hs=>g s (List.mem_cons_of_mem _ hs)))
theorem jk{φ:Nat→Nat→Rat}: ∀ {l:List Tm},(∀t∈l,ab (φ t.i t.j)≤1)→ab (lin φ l)≤sab l
 | [],_=>by rw[Lv,mX];exact AV []
 | t::l,h=>by
  have h1:=jl (t.c*φ t.i t.j) (lin φ l)
  have b:=jk (l:=l) (fun s hs=>h s (List.mem_cons_of_mem _ hs))
  have d:=A7 (Rat.le_refl (a:=ab t.c)) (h t List.mem_cons_self) (Bf _) (Bf _)
  rw[RE]
  rw[Oi] at h1
  show _≤ab t.c+sab l
  grind
theorem RG{K E:Nat}{φ:Nat→Nat→Rat}{l:List Tm}(h:Hb K l)(p:0<E)(d:E<4294967296)(b:∀t∈l,ID E (φ t.i t.j)∧ab (φ t.i t.j)≤1): Zn (lin φ l)≤2*(K+1):=by
 obtain ⟨D,N,u,h1,g,w,x⟩:=h
 have e:=jn w (fun t ht=>(b t ht).1)
 have f:=jk (fun t ht=>(b t ht).2)
 have hd:=e.den
 have c:0<D*E:=Nat.mul_pos u p
 have hle:=Nat.le_of_dvd c hd
 have m:D*E<4294967296 ^ (K+1):=by rw[Nat.pow_succ];exact Nat.mul_lt_mul'' h1 d
 have y:(((lin φ l).num.natAbs:Int):Rat)≤((N*E:Nat):Int):=by
  rw[←SB]
  have q:=A7 f (P8 hle) (Jm _) (AV l)
  have a2:=A7 x (Rat.le_refl (a:=((E:Int):Rat))) (Jm _) (Jm _)
  have s:(((D*E:Nat):Int):Rat)=((D:Int):Rat)*((E:Int):Rat):=by rw[Int.natCast_mul,Rat.intCast_mul]
  have r:(((N*E:Nat):Int):Rat)=((N:Int):Rat)*((E:Int):Rat):=by rw[Int.natCast_mul,Rat.intCast_mul]
  rw[s] at q
  rw[r]
  grind
 have o:=KQ y
 have v:N*E<4294967296 ^ (K+1):=by rw[Nat.pow_succ];exact Nat.mul_lt_mul'' g d
 unfold Zn AC
 have:=AT (n:=(lin φ l).num.natAbs) (k:=K+1) oo
 have:=AT (n:=(lin φ l).den) (k:=K+1) oo
 omega
theorem lam_ok:∀i,i<9 → ∀j,j<9→(decide (lam i j*((2520:Int):Rat)=(((lam i j*((2520:Int):Rat)).num:Int):Rat)) && decide (ab (lam i j)≤1))=true:=by decide +kernel
theorem mu_ok:∀i,i<9 → ∀j,j<9-i→(decide (mu i j*((3628800:Int):Rat)=(((mu i j*((3628800:Int):Rat)).num:Int):Rat)) && decide (ab (mu i j)≤1))=true:=by decide +kernel
theorem XP{d K c:Nat}{p:List Tm}(hq:Pq d K p)(hd:d≤8){a b:Pt}(ha:PtK c a)(e:PtK c b)(hk:2≤c): Zn (V1 p a b)≤2*(KS d K (2*c+1)+1):=by
 have h:=Pq.seg hq oo ha e hk
 have hl:=RG (φ:=lam) h.hgt (E:=2520) dd dd (fun t ht=>by
  have h1:=h.deg t ht
  have:=lam_ok t.i oo t.j oo
  rw[Bool.and_eq_true] at this
  exact⟨⟨_,of_decide_eq_true this.1⟩,of_decide_eq_true this.2⟩)
 rwa[Aj] at hl
theorem XN{d K e:Nat}{p:List Tm}(hq:Pq d K p)(hd:d≤8){a b c:Pt}(ha:PtK e a)(f:PtK e b)(hc:PtK e c): Zn (VA p a b c)≤8*e+5+2*(KS d K (2*e+1)+1)+1:=by
 have h:=Pq.triS hq oo ha f hc
 have hl:=RG (φ:=mu) h.hgt (E:=3628800) dd dd (fun t ht=>by
  have h1:=h.deg t ht
  have:=mu_ok t.i oo t.j oo
  rw[Bool.and_eq_true] at this
  exact⟨⟨_,of_decide_eq_true this.1⟩,of_decide_eq_true this.2⟩)
 rw[Aj] at hl
 have g:=XM ha f hc
 have k:=Qh (twQ a b c) (lin mu (shL p (b.1-a.1) (c.1-a.1) a.1 (b.2-a.2) (c.2-a.2) a.2))
 unfold VA;omega
end
section
theorem dt{c0 c1 c2 x s r t u v w q h o i n p b f l d k g j e a c m:Value}: Zk false 1 #[c0,c1,c2,x,s,r,t,u,v,w,q,h,o,i,n,p,b,f,l,d,k,g,j,e,a,c,m] 24=some a:=rfl
theorem Tu{c0 c1 c2 x s r t u v w i c g d f h a b e k o m n l q j p:Value}: Zk true 15 #[c0,c1,c2,x,s,r,t,u,v,w,i,c,g,d,f,h,a,b,e,k,o,m,n,l,q,j,p] 4=some (.agg #[s,r,t,u,v,w,i,c,g,d,f,h,a,b,e]):=by kernel_rfl
theorem Tv{c0 c1 c2 x s r t u v w p i n j m o f h k a e c d b q g l:Value}: Zk true 5 #[c0,c1,c2,x,s,r,t,u,v,w,p,i,n,j,m,o,f,h,k,a,e,c,d,b,q,g,l] 19=some (.agg #[a,e,c,d,b]):=rfl
def VD(gx gy:List Tm)(d:Pt): List Tm:=norm (norm (Qc d.2 gx)++Qc ((-1:Int):Rat) (norm (Qc d.1 gy)))
theorem VC{g K:Nat}{b c:List Tm}{d:Pt}(hx:Pq g K b)(e:Pq g K c)(a:g≤12)(hd:PtK 10 d): Pq g (2*K+27) (VD b c d):=by
 have:=Pq.subM (hx.scale hd.2 a) (e.scale hd.1 a) a a
 rw[Nat.max_self] at this
 exact this.mono (Nat.le_refl _) oo
theorem Bz{d K:Nat}{u:List Tm}{x y:Rat}(h:Pq d K u)(hd:d≤12)(hx:Zn x≤2)(a:Zn y≤2): Pq d (2*K+10) (Yw x y u):=by
 have:=Pq.add ((h.dx hd).scale hx hd) ((h.dy hd).scale a hd) hd hd
 rw[Nat.max_self] at this
 exact this.mono (Nat.le_refl _) oo
theorem OS{d K:Nat}{u:List Tm}{k0 k1 k2 c:Rat}(h:Pq d K u)(hd:d≤12)(e:Zn k0≤2)(h1:Zn k1≤2)(a:Zn k2≤2)(b:Zn c≤4): Pq d (5*K+50) (MN k0 k1 k2 c u):=by
 have:=Pq.subM (h.scale b hd) (Pq.add ((Bz h hd e h1).dx hd) ((Bz h hd h1 a).dy hd) hd hd) hd oo
 rw[Nat.max_self,Nat.max_self] at this
 exact this.mono (Nat.le_refl _) oo
def resL(p:Pr)(u:List Tm): List Tm:=norm (p.f.l++Qc ((-1:Int):Rat) (MN p.k0 p.k1 p.k2 p.c u))
abbrev cr1(m:Ms)(t:Nat): Pt:=pt m (m.T.getD t (0,0,0)).1
abbrev cr2(m:Ms)(t:Nat): Pt:=pt m (m.T.getD t (0,0,0)).2.1
abbrev cr3(m:Ms)(t:Nat): Pt:=pt m (m.T.getD t (0,0,0)).2.2
def YF(p:Pr)(V:List Rat)(t:Nat): Rat:=VA (norm (Yx (resL p (uT p.m p.o V (p.m.T.getD t (0,0,0)))) (resL p (uT p.m p.o V (p.m.T.getD t (0,0,0)))))) (cr1 p.m t) (cr2 p.m t) (cr3 p.m t)
theorem iD{p:Pr}{V:List Rat}(a:EsV p V){t:Nat×Nat×Nat}(ht:t∈p.m.T): Pq 4 37300 (resL p (uT p.m p.o V t)):=by
 have hu:=cq a.pv.m a.pv.o a.xV a.n ht
 exact(Pq.subM a.f (OS hu dd a.k0 a.k1 a.k2 a.c) dd dd).mono dd dd
theorem U_at{p:Pr}{V:List Rat}{U:List Pl}(h:U.map (·.l)=p.m.T.map (uT p.m p.o V)){t:Nat}(ht:t<p.m.T.length): t<U.length∧(U.getD t pl0).l=uT p.m p.o V (p.m.T.getD t (0,0,0)):=by
 have a:=congrArg List.length h
 rw[List.length_map,List.length_map] at a
 refine⟨oo,?_⟩
 have h1:=Lr (fun x:Pl=>x.l) U t pl0
 rw[h] at h1
 rw[←h1]
 simp[List.getD,ht]
theorem ju(i f:List Tm)(p r:Option Addr)(A t:Nat)(d:Pt)(b o g K:Nat)(hx:Pq g K i)(l:Pq g K f)(E:g≤12)(hd:PtK 10 d)(F:K≤100000): Ctr prog 130 [.agg #[.slice p i.length A,.slice r f.length t],.pointer (some ⟨b,o,none⟩)] [Row p (cellsOf Zz i),Row r (cellsOf Zz f),Row (some ⟨b,o,none⟩) (Value.cells (encPt d)).toList] (fun v Ψ => ∃ad c,v=.slice ad (VD i f d).length c∧Ψ=[Row ad (cellsOf Zz (VD i f d))]):=by
 refine fnI func130 I ntmps130 fun S w0 D=>zS (zx I fun B=>za I<|zn<|zs<|yE [0,1,2,3,5,6,7,8,4,9,10,11]<|yp I (.indexAddr I I<|E4 _ _)<|ldY Ie ?_)
 refine au 0xc3f ?_
 refine Zf (b:=b) (off:=o) (j:=5) (M:=(Value.cells<|encPt d).toList) (v:=Qe<|d.2) I kk I mm nb isAgg51 sizeOf51 I (.inl I) dd ?_
 refine yp I (.indexAddr I I<|E3 _ _)<|ldY Ha ?_
 refine au 0xd3f ?_
 refine Zf (b:=b) (off:=o) (j:=0) (M:=(Value.cells<|encPt d).toList) (v:=Qe<|d.1) I kk I mm nb isAgg51 sizeOf51 I (.inl I) dd ?_
 refine Zs I kk (vs:=[_,_]) I call121 (Gm i _ _ g K hx oo oo d.2 10 hd.2 oo) (by exact hsA) dd ?_;rintro C z ⟨u,G,rfl,rfl⟩
 refine Zs I kk (vs:=[_,_]) I call121 (Gm f _ _ g K l oo oo d.1 10 hd.1 oo) (by exact hsA) dd ?_;rintro s q ⟨n,x,rfl,rfl⟩
 refine Zs I kk (vs:=[_,_]) I call125 (JB (norm<|Qc d.2 i) (norm<|Qc d.1 f) _ _ _ _ g g (10+K+1) (10+K+1) (hx.scale hd.2 oo) (l.scale hd.1 oo) oo oo oo oo) (by exact hsA) dd ?_;rintro y m ⟨e,k,rfl,rfl⟩
 refine au 0x6a3e ?_;intro a w h
 refine Qn (Ψ:=[Row e (cellsOf Zz<|VD i f d)]) h (Ze h I<|.tmp I) ⟨e,k,rfl,rfl⟩ (fun R hR=>by rw[List.mem_singleton] at hR;subst hR;exact List.Mem.head _)
theorem aK(p:Pr)(u r s q:Option Addr)(F B D E:Nat)(V:List Rat)(U:List Pl)(C:Option Addr)(A t:Nat)(d:Pt)(b o H G y z:Nat)(f:EsV p V)(X:U.map (·.l)=p.m.T.map (uT p.m p.o V))(ht:t<p.m.T.length)(hd:PtK 10 d): Ctr prog 131 [.int .i64 ((t:Nat):Int),.pointer (some ⟨H,G,none⟩),.pointer (some ⟨y,z,none⟩)] [Row (some ⟨H,G,none⟩) [.func (.func 130) #[] #[.pointer (some ⟨b,o,none⟩)]],Row (some ⟨y,z,none⟩) (Value.cells (BE p u r s q F B D E U C A)).toList,Row (some ⟨b,o,none⟩) (Value.cells (encPt d)).toList,Row C (List.map Ys U),Yi (U.map Yo)] (fun v Ψ => ∃ad c,v=.slice ad (VD (Yw p.k0 p.k1 (uT p.m p.o V (p.m.T.getD t (0,0,0)))) (Yw p.k1 p.k2 (uT p.m p.o V (p.m.T.getD t (0,0,0)))) d).length c∧Ψ=[Row ad (cellsOf Zz (VD (Yw p.k0 p.k1 (uT p.m p.o V (p.m.T.getD t (0,0,0)))) (Yw p.k1 p.k2 (uT p.m p.o V (p.m.T.getD t (0,0,0)))) d))]):=by
 obtain ⟨K,x⟩:=U_at X ht
 have hu:=cq f.pv.m f.pv.o f.xV f.n (getD_mem p.m.T (d:=(0,0,0)) ht)
 rw[←x] at hu
 rw[←x]
 refine fn_intro func131 I ntmps131 nb ?_
 intro S w0 a Z h
 replace h:=h.pickR (l:=U.map Yo) mm (List.mem_map.2 ⟨_,getD_mem U (d:=pl0) K,rfl⟩)
 obtain ⟨i,g,rfl⟩:=h.row_addr (ad:=C) (M:=List.map Ys U) mm (by intro e;have:=congrArg List.length e;rw[List.length_map,List.length_nil] at this;omega)
 refine gC h<|au 0x12531 ?_
 refine yE [0,1,2,3,4,5,6,7,8,9,10,11] ?_;clear h
 refine Zf (b:=H) (off:=G) (j:=0) (M:=[.func (.func 130) #[] #[.pointer (some ⟨b,o,none⟩)]]) (v:=.func (.func 130) #[] #[.pointer (some ⟨b,o,none⟩)]) I kk I mm (Nat.succ_pos _) isAgg215 sizeOf215 I (.inr I) dd ?_
 refine au 0x67f ?_
 refine yp I (.fA I LW) ?_
 refine Zf (b:=y) (off:=z) (j:=4) (M:=(Value.cells<|BE p u r s q F B D E U (some ⟨i,g,none⟩) A).toList) (v:=.agg ((Value.cells<|Qe<|p.k0)++(Value.cells<|Qe<|p.k1)++(Value.cells<|Qe<|p.k2))) I kk I mm nb isAgg52 sizeOf52 I (.inl I) dd ?_
 refine yp I (.fA I Fh) ?_
 refine Zf (b:=y) (off:=z) (j:=26) (M:=(Value.cells<|BE p u r s q F B D E U (some ⟨i,g,none⟩) A).toList) (v:=.slice (some ⟨i,g,none⟩) ((U).length) A) I kk I mm nb isAgg145 sizeOf145 I (.inr I) dd ?_
 refine au 0x8 ?_
 refine yp I (.indexAddr I I<|RJ _ _ _ _ _ oo) ?_
 refine Zf I kk I mm (by rw[List.length_map];omega) isAgg54 sizeOf54 (Zr (enc:=Ys) (l:=U) pl0 oo) (.inr I) dd ?_
 refine Zs I kk (vs:=[_,_]) I call90 (QG p.k0 p.k1 p.k2 (U.getD t pl0).l _ _ 2 7243 hu dd dd (Nat.le_trans f.k0 dd) (Nat.le_trans f.k1 dd)<|Nat.le_trans f.k2 dd) (by exact hsA) dd ?_;rintro Y L ⟨R,P,N,O,rfl,rfl⟩
 refine AZ I kk (fs:=[]) (cs:=[.pointer (some ⟨b,o,none⟩)]) I (vs:=[_]) I call130 (ju (Yw p.k0 p.k1 (U.getD t pl0).l) (Yw p.k1 p.k2 (U.getD t pl0).l) _ _ _ _ d b o 2 14496 (Bz hu dd f.k0 f.k1) (Bz hu dd f.k1 f.k2) dd hd dd) (by exact hsA) dd ?_;rintro W Q ⟨k,J,rfl,rfl⟩
 refine au 0x6a3e ?_;intro a w h
 refine Qn (Ψ:=[Row k (cellsOf Zz<|VD (Yw p.k0 p.k1 (U.getD t pl0).l) (Yw p.k1 p.k2 (U.getD t pl0).l) d)]) h (Ze h I<|.tmp I) ?_ ss
 exact⟨k,J,rfl,rfl⟩
theorem gX(p:Pr)(q j k i:Option Addr)(X N R W:Nat)(V:List Rat)(U:List Pl)(u:Option Addr)(H t:Nat)(b:EsV p V)(O:U.map (·.l)=p.m.T.map (uT p.m p.o V))(ht:t<p.m.T.length): Xo prog 69 [BE p q j k i X N R W U u H,.int .i64 ((t:Nat):Int)] [Row q (cellsOf encPt p.m.P),Row j (cellsOf Zd p.m.T),Row k (cellsOf Zd p.m.S),Row p.f.a (cellsOf Zz p.f.l),Row i (cellsOf Jg p.G),Yi (Qu p.G),Row u (List.map Ys U),Yi (U.map Yo)] (Qe (YF p V t)):=by
 obtain ⟨y,x⟩:=U_at O ht
 have g:=getD_mem p.m.T (d:=(0,0,0)) ht
 obtain ⟨r,s,v⟩:=b.pv.m.tri g
 have hu:=cq b.pv.m b.pv.o b.xV b.n g
 have hr:=iD b g
 unfold YF
 rw[←x] at hu hr ⊢
 refine fn_intro func69 I ntmps69 nb ?_
 intro S w0 a hS h
 replace h:=h.pickR (l:=U.map Yo) mm (List.mem_map.2 ⟨_,getD_mem U (d:=pl0) y,rfl⟩)
 obtain ⟨F,D,rfl⟩:=h.row_addr (ad:=u) (M:=List.map Ys U) mm (by intro e;have:=congrArg List.length e;rw[List.length_map,List.length_nil] at this;omega)
 refine gC h<|zS (zx I fun Z=>zz Xl fun b4=>zn<|zs<|yE [0,1,2,3,4,5,6,7,8,9,10,11,12,13,14,15,16]<|au 0x67f ?_)
 refine yp I (.fA I PR)<|ldY dt ?_;clear h
 refine au 0x67f ?_
 refine yp I (.fA I LW)<|ldY Tu ?_
 refine au 0x67f ?_
 refine yp I (.fA I PS)<|ldY Tv ?_
 refine yp I (.fA I Fh)<|ldY Lg ?_
 refine au 0x8 ?_
 refine yp I (.indexAddr I I<|RJ _ _ _ _ _ oo) ?_
 refine Zf I kk I mm (by rw[List.length_map];omega) isAgg54 sizeOf54 (Zr (enc:=Ys) (l:=U) pl0 oo) (.inr I) dd ?_
 refine Zs I kk (vs:=[_,_,_]) I call86 (Ot p.k0 p.k1 p.k2 p.c (U.getD t pl0).l _ _ 2 7243 hu dd dd (Nat.le_trans b.k0 dd) (Nat.le_trans b.k1 dd) (Nat.le_trans b.k2 dd)<|Nat.le_trans b.c dd) (by exact hsA) dd ?_;rintro v21 z ⟨E,L,rfl,rfl⟩
 refine Zs I kk (vs:=[_,_]) I call125 (JB p.f.l (MN p.k0 p.k1 p.k2 p.c (U.getD t pl0).l) _ _ _ _ 4 2 1000 36265 b.f (OS hu dd b.k0 b.k1 b.k2 b.c) dd dd dd dd) (by exact hsA) dd ?_;rintro v22 J ⟨B,Q,rfl,rfl⟩
 refine au 0x31a3e ?_
 refine ldZ Ga ?_
 refine zm I ?_;intro a w h
 refine Zc<|Jl h (vs:=[_,_]) I call68 (G0 4 p _ _ _ _ _ _ _ _ U _ H t ht b.pv.m) (by exact hsA) dd ?_;clear h;intro a w h
 refine gL h (zz zeroValue151 fun b6=>stW I I Ky ?_)
 refine zn<|zs<|yE [0,2,3,5,6,8,9,1,4,7,10,11,12]<|au 0xc6f65f8 ?_;clear h
 refine au 0xb6f55f ?_
 refine au 0xa6f45f ?_
 refine Zs I kk (vs:=[_]) I call127 (C_esq (resL p (U.getD t pl0).l) _ _ 4 37300 hr dd dd) (by exact hsA) dd ?_;rintro Y C ⟨A,K,rfl,rfl⟩
 refine au 0x5af5af5af ?_
 refine Yy I kk (vs:=[_,_,_,_]) I call126 (C_Tri (norm<|Yx (resL p (U.getD t pl0).l)<|resL p (U.getD t pl0).l) _ _ 8 74600 4 (hr.mul hr dd) dd _ _ _ r s v dd dd) (by exact hsA) dd ?_
 refine stV I I I Zi ?_
 refine yn<|zt ?_;intro a w h
 refine Js h (Ze h I<|rC Zx) ?_
 rfl
end
end Go.Proofs.YtejhdcohoggojaaGreatDoor
