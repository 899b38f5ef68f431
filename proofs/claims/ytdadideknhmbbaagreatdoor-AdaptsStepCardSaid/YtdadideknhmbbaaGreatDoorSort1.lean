/- Walks of functions. By an AI agent. -/
import Derived.Test.YtdadideknhmbbaaGreatDoorAdapts1
import Derived.Test.YtdadideknhmbbaaGreatDoorFxP
import Derived.Shelf.Sort.Plain
set_option linter.unusedVariables false
set_option linter.unusedSimpArgs false
set_option maxRecDepth 4000
set_option maxHeartbeats 8000000
namespace Go.Proofs.YtdadideknhmbbaaGreatDoor
open Go Go.Proofs Go.Fx Tryz
attribute [local irreducible] Oper.wp Code.wp wpList Fx.Head wpOp
variable{j:Nat}{d:List Rat}{m l:List Nat}{t:Rat}(E:List Rat)(i k a:Nat)(x y:Rat)
theorem G3: x.num.sign<0↔x<0:=by
 rw[Int.sign_neg_iff];have h:=@Rat.num_nonneg x;constructor
 ·intro h1;exact Rat.not_le.1 (λa=>by have:=h.2 a;omega)
 intro h1;have:¬0<=x.num:=λa=>absurd (h.1 a) (Rat.not_le.2 h1);omega
theorem S9: x.num.sign=0↔x=0:=by rw[va];exact u1
theorem Av: x.num.sign>0↔0<x:=by
 have h1:=G3 x;have a:=S9 x;have b:0<x ↔ ¬x<0 /\ ¬x=0:=by grind
 rw[b, <-h1, <-a];omega
theorem om: (x-y).num.sign<0↔x<y:=by rw[G3];grind
theorem gJ: (x-y).num.sign=0↔x=y:=by rw[S9];grind
theorem ol: (x-y).num.sign>0↔y<x:=by rw[Av];grind
theorem ky(i k:Int): Fc i k<0↔i<k:=by unfold Fc;split<;>(try split)<;>omega
def ltN(E:List Rat)(i k:Nat): Bool:=decide (cfN E i k<0)
theorem CU: ltN E i k=true↔E.getD k 0<E.getD i 0\/(E.getD k 0=E.getD i 0/\i<k):=by
 unfold ltN cfN;rw[decide_eq_true_iff];have h1:=om (E.getD k 0) (E.getD i 0);have b:=gJ (E.getD k 0) (E.getD i 0);have f:=ky (i:Int) (k:Int);simp only[orI];by_cases h:(E.getD k 0-E.getD i 0).num.sign=0
 ·rw[if_neg (by simpa using h)];have e:=b.1 h;have g:¬E.getD k 0<E.getD i 0:=by grind
  have d:(if Fc (i:Int) (k:Int)≠0 then Fc (i:Int) (k:Int) else 0)=Fc (i:Int) (k:Int):=by
   by_cases a:Fc (i:Int) (k:Int)=0
   ·rw[if_neg (by simpa using a),a]
   rw[if_pos a]
  rw[d,f];constructor
  ·intro a;exact .inr ⟨e,oo⟩
  rintro(a|⟨_,a⟩)
  ·exact absurd a g
  omega
 rw[if_pos h,h1];have e:¬E.getD k 0=E.getD i 0:=λe=>h (b.2 e);exact⟨.inl,λa=>a.elim id (λc=>absurd c.1 e)⟩
theorem El: ltN E i i=false:=by
 rw[rv];intro h;rw[CU] at h;grind
theorem I9: ltN E i k=true->ltN E k a=true->ltN E i a=true:=by
 rw[CU,CU,CU];grind
theorem OW: ltN E i k=false->ltN E k i=false->i=k:=by
 rw[rv,rv,Ne,Ne,CU,CU];grind
theorem LL: ltN E i k=false->ltN E k a=false->ltN E i a=false:=by
 rw[rv,rv,rv,Ne,Ne,Ne,CU,CU,CU];grind
def EL(E:List Rat): List Nat:=(List.range E.length).mergeSort (λx y => !ltN E y x)
theorem Ck: (EL E).Perm (List.range E.length):=pq _ _
theorem Ek: (EL E).length=E.length:=by rw[(Ck E).length_eq,pr]
theorem ZN(h:j∈EL E): j<E.length:=List.mem_range.1 ((Ck E).mem_iff.1 h)
theorem VY: (EL E).Nodup:=(Ck E).nodup_iff.2 List.nodup_range
theorem Rp: (EL E).Pairwise (λx y=>ltN E x y=true):=by
 have h:=ue (le:=λx y => !ltN E y x) (λa b c h1 d=>by
  have e:ltN E b a=false:=by simpa using h1
  have f:ltN E c b=false:=by simpa using d
  simp[LL E c b a f e]) (λa b=>by
  cases h1:ltN E b a<;>simp
  cases d:ltN E a b<;>simp
  have:=I9 E a b a d h1;rw[El] at this;cases this) (List.range E.length)
 refine(h.and<|VY E).imp ?_;rintro a b ⟨h1,d⟩;cases g:ltN E a b
 ·exact absurd (OW E a b g (by simpa using h1)) d
 rfl
def S3(E:List Rat): Rat:=E.foldl (· + ·) 0
def sumF(E:List Rat)(l:List Nat): Rat:=l.foldl (λs k=>s+E.getD k 0) 0
def AX(E:List Rat)(t:Rat): Nat->Rat
 | 0=>t*S3 E
 | j+1=>AX E t j-E.getD ((EL E).getD j 0) 0
theorem Ol(l:List Nat)(k:Nat): sumF E (l++[k])=sumF E l+E.getD k 0:=by unfold sumF;rw[uS];rfl
theorem Om(h:l.Perm m): sumF E l=sumF E m :=
 h.foldl_eq' (λx _ y _ z=>by grind) 0
theorem U7: sumF E (List.range E.length)=S3 E:=by
 have:∀i,i<=E.length->sumF E (List.range i)=(E.take i).foldl (· + ·) 0:=by
  intro i;induction i with
  | zero=>intro _;rfl
  | succ i a=>intro h;rw[tZ,Ol,a oo,Bv E 0 i 0 oo]
 rw[this _ (aZ _),w9];rfl
theorem U6(h:j<l.length): l.take (j+1)=l.take j++[l.getD j 0]:=by
 rw[xa];simp[List.getD,h]
theorem M5(E:List Rat)(t:Rat): ∀j,j<=E.length->AX E t j=t*S3 E-sumF E ((EL E).take j)
 | 0,_=>by rw[AX,ud];unfold sumF;rw[uf];grind
 | j+1,h=>by
  rw[AX,M5 E t j oo,U6 (by rw[Ek];omega),Ol];grind
theorem QZ(h:∀x∈d,0<=x): 0<=S3 d:=by
 have:∀(l:List Rat) (s:Rat),(∀x∈l,0<=x)->0<=s->0<=l.foldl (· + ·) s:=by
  intro l;induction l with
  | nil=>intro s _ h;exact h
  | cons x l a=>intro s hl hs;exact a _ (λy b=>hl y (aX _ b)) (by have:=hl x ae;grind)
 exact this d 0 h dd
theorem RY(h:∀x∈d,0<=x)(i:Nat): 0<=d.getD i 0:=by
 rcases el i d.length with h1|h1
 ·exact h _ (getD_mem d h1)
 rw[List.getD,List.getElem?_eq_none h1];decide
theorem LO{E:List Rat}(h:∀x∈E,0<=x)(t:Rat)(j:Nat): ∀k,AX E t (j+k)<=AX E t j
 | 0=>by grind
 | k+1=>by
  have h1:=LO h t j k;have a:=RY h ((EL E).getD (j+k) 0);rw[<-gT,AX];grind
theorem bn(h:∀x∈d,0<=x)(ht:t<=1): AX d t d.length<=0:=by
 rw[M5 d t _ (aZ _), <-Ek,w9,Om d (Ck d),U7];have h1:=QZ h;have a:t*S3 d<=1*S3 d:=Rat.mul_le_mul_of_nonneg_right ht h1
 grind
theorem ji(h:∀x∈d,0<=x)(ht:t<=1)(hj:j<=d.length)(a:0<AX d t j): j<d.length:=by
 rcases el j d.length with h1|h1
 ·exact h1
 rw[show j=d.length by omega] at a;have:=bn h ht;grind
def havN(E:List Rat)(i:Nat): Rat:=sumF E ((List.range E.length).filter (λk=>ltN E k i))
def iv(E:List Rat)(t:Rat): List Nat:=(List.range E.length).filter (λi=>decide (havN E i<t*S3 E))
theorem H9{α:Type}(p:α->Bool): ∀(l:List α) (m:Nat),(∀x∈l.take m,p x=true)->(∀x∈l.drop m,p x=false)->l.filter p=l.take m:=by
 intro l m h1 a;conv=>lhs;rw[<-ls m l]
 rw[tc,List.filter_eq_self.2 h1,List.filter_eq_nil_iff.2 (λx hx=>by rw[a x hx];decide),gD]
theorem qu(h:i<(EL E).length): havN E ((EL E).getD i 0)=sumF E ((EL E).take i):=by
 unfold havN;have hs:=Rp E;have e:(EL E).filter (λk=>ltN E k ((EL E).getD i 0))=(EL E).take i:=by
  refine H9 _ _ _ (λx hx=>?_) (λx hx=>?_)
  ·obtain ⟨j,hj,rfl⟩:=List.mem_iff_getElem.1 hx;rw[db] at hj;rw[vP,List.getD,List.getElem?_eq_getElem h];exact List.pairwise_iff_getElem.1 hs j i oo h oo
  obtain ⟨j,hj,rfl⟩:=List.mem_iff_getElem.1 hx;rw[vn] at hj;rw[List.getElem_drop,List.getD,List.getElem?_eq_getElem h];rcases oX j with rfl|b
  ·simp only[sh];exact El E _
  have d:=List.pairwise_iff_getElem.1 hs i (i+j) h oo oo;rw[rv];intro c;have a:=I9 E _ _ _ d c;simp only[et] at a;rw[El] at a;cases a
 rw[<-e];exact Om E (((Ck E).filter _).symm)
theorem ag(b:∀x∈d,0<=x)(t:Rat)(hm:j<=d.length)(h1:∀e,e<j->0<AX d t e)(c:¬0<AX d t j): (EL d).filter (λi=>decide (havN d i<t*S3 d))=(EL d).take j:=by
 have hl:=Ek d;have key:∀e (hj:e<(EL d).length),(havN d (EL d)[e]<t*S3 d↔0<AX d t e):=by
  intro e hj;have a:=qu d e hj;rw[List.getD,List.getElem?_eq_getElem hj] at a;simp only[et] at a;rw[a,M5 d t e oo];grind
 refine H9 _ _ _ (λx hx=>?_) (λx hx=>?_)
 ·obtain ⟨e,hj,rfl⟩:=List.mem_iff_getElem.1 hx;rw[db] at hj;rw[vP,decide_eq_true_iff,key e oo];exact h1 e oo
 obtain ⟨e,hj,rfl⟩:=List.mem_iff_getElem.1 hx;rw[vn] at hj;rw[List.getElem_drop,decide_eq_false_iff_not,key (j+e) oo];have:=LO b t j e
 grind
theorem Q1(e:l.Perm m)(hm:m.Pairwise (· <= ·)): l.mergeSort (λx y=>decide (x<=y))=m:=by
 have hs:(l.mergeSort (λx y=>decide (x<=y))).Pairwise (· <= ·):=(ue (le:=λx y:Nat=>decide (x<=y)) (λa b c h1 d=>by simp at *;omega) (λa b=>by simp;omega) l).imp (λh=>by simpa using h);exact List.Perm.eq_of_pairwise (λa b _ _ h1 d=>Nat.le_antisymm h1 d) hs hm ((pq _ _).trans e)
theorem Rh: (iv E x).Pairwise (· < ·):=List.pairwise_lt_range.filter _
theorem mark_eq(a:∀x∈d,0<=x)(t:Rat)(hm:j<=d.length)(h1:∀c,c<j->0<AX d t c)(b:¬0<AX d t j):
  ((EL d).take j).mergeSort (λx y=>decide (x<=y))=iv d t:=by
 refine Q1 ?_ ((Rh d t).imp tI);rw[<-ag a t hm h1 b];exact(Ck d).filter _
end Go.Proofs.YtdadideknhmbbaaGreatDoor
namespace Go.Proofs.YtdadideknhmbbaaGreatDoor
open Go Go.Proofs Go.Fx Go.Shelf Go.RowKit Go.Sort Tryz
variable(E:List Rat)(C:Option Addr)(m B:Nat)
def VH:Go.Shelf.Ren:=⟨fun|6=>36|15=>115|14=>114|28=>208|29=>209|20=>200|21=>201|22=>202|23=>203|24=>204|25=>205|26=>206|27=>207|46=>268|47=>269|48=>270|49=>271|50=>272|57=>299|n=>n,fun|22=>61|24=>3|25=>120|3=>3|39=>199|0=>0|53=>89|55=>39|4=>4|46=>288|45=>287|50=>134|5=>5|9=>9|66=>347|70=>351|76=>375|77=>376|n=>n,fun|n=>n⟩
theorem sortFn:Go.Proofs.SlLaysF.n6 prog VH:={
 mixed:=by kernel_rfl
 f6:=⟨Tryz.f36.name,by decide,func36.trans (congrArg some kk)⟩
 f14:=⟨Tryz.f114.name,by decide,func114.trans (congrArg some kk)⟩
 f15:=func115.trans (congrArg some kk)
 f20:=⟨Tryz.f200.name,by decide,func200.trans (congrArg some kk)⟩
 f21:=⟨Tryz.f201.name,by decide,func201.trans (congrArg some kk)⟩
 f22:=⟨Tryz.f202.name,by decide,func202.trans (congrArg some kk)⟩
 f23:=⟨Tryz.f203.name,by decide,func203.trans (congrArg some kk)⟩
 f24:=⟨Tryz.f204.name,by decide,func204.trans (congrArg some kk)⟩
 f25:=⟨Tryz.f205.name,by decide,func205.trans (congrArg some kk)⟩
 f26:=⟨Tryz.f206.name,by decide,func206.trans (congrArg some kk)⟩
 f27:=⟨Tryz.f207.name,by decide,func207.trans (congrArg some kk)⟩
 f28:=func208.trans (congrArg some kk)
 f29:=func209.trans (congrArg some kk)
 f46:=⟨Tryz.f268.name,by decide,func268.trans (congrArg some kk)⟩
 f47:=func269.trans (congrArg some kk)
 f48:=func270.trans (congrArg some kk)
 f49:=⟨Tryz.f271.name,by decide,func271.trans (congrArg some kk)⟩
 f50:=⟨Tryz.f272.name,by decide,func272.trans (congrArg some kk)⟩
 f57:=⟨Tryz.f299.name,by decide,func299.trans (congrArg some kk)⟩
 t0:=underlying0
 a0:=isAgg0
 z0:=sizeOf0
 v0:=zeroValue0
 t3:=underlying3
 a3:=isAgg3
 z3:=sizeOf3
 v3:=zeroValue3
 t4:=underlying4
 a4:=isAgg4
 z4:=sizeOf4
 v4:=zeroValue4
 t5:=underlying5
 a5:=isAgg5
 z5:=sizeOf5
 v5:=zeroValue5
 t9:=underlying9
 a9:=isAgg9
 z9:=sizeOf9
 v9:=zeroValue9
 t22:=underlying61
 a22:=isAgg61
 z22:=sizeOf61
 v22:=zeroValue61
 a24:=isAgg3
 z24:=sizeOf3
 t25:=underlying120
 a25:=isAgg120
 z25:=sizeOf120
 v25:=zeroValue120
 t39:=underlying199
 a39:=isAgg199
 z39:=sizeOf199
 v39:=zeroValue199
 t45:=underlying287
 a45:=isAgg287
 z45:=sizeOf287
 v45:=zeroValue287
 t46:=underlying288
 a46:=isAgg288
 z46:=sizeOf288
 v46:=zeroValue288
 t50:=underlying134
 a50:=isAgg134
 z50:=sizeOf134
 v50:=zeroValue134
 t53:=underlying89
 a53:=isAgg89
 z53:=sizeOf89
 v53:=zeroValue89
 t55:=underlying39
 a55:=isAgg39
 z55:=sizeOf39
 v55:=zeroValue39
 t66:=underlying347
 a66:=isAgg347
 z66:=sizeOf347
 v66:=zeroValue347
 t70:=underlying351
 a70:=isAgg351
 z70:=sizeOf351
 v70:=zeroValue351
 t76:=underlying375
 a76:=isAgg375
 z76:=sizeOf375
 v76:=zeroValue375
 t77:=underlying376
 a77:=isAgg376
 z77:=sizeOf376
 v77:=zeroValue376 }
def Q2:Go.Shelf.Ren:=⟨fun|6=>36|15=>115|14=>114|28=>208|29=>209|20=>200|21=>201|22=>202|23=>203|24=>204|25=>205|26=>206|27=>207|46=>268|47=>269|48=>270|49=>271|50=>272|57=>299|n=>n,fun|22=>61|24=>3|25=>120|3=>3|39=>199|0=>0|53=>89|55=>39|4=>4|46=>288|45=>287|50=>134|5=>5|9=>9|66=>347|70=>351|76=>375|77=>376|n=>n,fun|n=>n⟩
theorem od:Go.Proofs.SlLaysF0.n6 prog Q2:={
 mixed:=by kernel_rfl
 f6:=⟨Tryz.f36.name,by decide,func36.trans (congrArg some kk)⟩
 f14:=⟨Tryz.f114.name,by decide,func114.trans (congrArg some kk)⟩
 f15:=func115.trans (congrArg some kk)
 f20:=⟨Tryz.f200.name,by decide,func200.trans (congrArg some kk)⟩
 f21:=⟨Tryz.f201.name,by decide,func201.trans (congrArg some kk)⟩
 f22:=⟨Tryz.f202.name,by decide,func202.trans (congrArg some kk)⟩
 f23:=⟨Tryz.f203.name,by decide,func203.trans (congrArg some kk)⟩
 f24:=⟨Tryz.f204.name,by decide,func204.trans (congrArg some kk)⟩
 f25:=⟨Tryz.f205.name,by decide,func205.trans (congrArg some kk)⟩
 f26:=⟨Tryz.f206.name,by decide,func206.trans (congrArg some kk)⟩
 f27:=⟨Tryz.f207.name,by decide,func207.trans (congrArg some kk)⟩
 f28:=func208.trans (congrArg some kk)
 f29:=func209.trans (congrArg some kk)
 f46:=⟨Tryz.f268.name,by decide,func268.trans (congrArg some kk)⟩
 f47:=func269.trans (congrArg some kk)
 f48:=func270.trans (congrArg some kk)
 f49:=⟨Tryz.f271.name,by decide,func271.trans (congrArg some kk)⟩
 f50:=⟨Tryz.f272.name,by decide,func272.trans (congrArg some kk)⟩
 f57:=⟨Tryz.f299.name,by decide,func299.trans (congrArg some kk)⟩
 t0:=underlying0
 a0:=isAgg0
 z0:=sizeOf0
 v0:=zeroValue0
 t3:=underlying3
 a3:=isAgg3
 z3:=sizeOf3
 v3:=zeroValue3
 t4:=underlying4
 a4:=isAgg4
 z4:=sizeOf4
 v4:=zeroValue4
 t5:=underlying5
 a5:=isAgg5
 z5:=sizeOf5
 v5:=zeroValue5
 t9:=underlying9
 a9:=isAgg9
 z9:=sizeOf9
 v9:=zeroValue9
 t22:=underlying61
 a22:=isAgg61
 z22:=sizeOf61
 v22:=zeroValue61
 t25:=underlying120
 a25:=isAgg120
 z25:=sizeOf120
 v25:=zeroValue120
 t39:=underlying199
 a39:=isAgg199
 z39:=sizeOf199
 v39:=zeroValue199
 t45:=underlying287
 a45:=isAgg287
 z45:=sizeOf287
 v45:=zeroValue287
 t46:=underlying288
 a46:=isAgg288
 z46:=sizeOf288
 v46:=zeroValue288
 t50:=underlying134
 a50:=isAgg134
 z50:=sizeOf134
 v50:=zeroValue134
 t53:=underlying89
 a53:=isAgg89
 z53:=sizeOf89
 v53:=zeroValue89
 t55:=underlying39
 a55:=isAgg39
 z55:=sizeOf39
 v55:=zeroValue39
 t66:=underlying347
 a66:=isAgg347
 z66:=sizeOf347
 v66:=zeroValue347
 t70:=underlying351
 a70:=isAgg351
 z70:=sizeOf351
 v70:=zeroValue351
 t76:=underlying375
 a76:=isAgg375
 z76:=sizeOf375
 v76:=zeroValue375
 t77:=underlying376
 a77:=isAgg376
 z77:=sizeOf376
 v77:=zeroValue376 }
def RP:Go.Shelf.Ren:=⟨fun|189=>45|125=>115|257=>121|128=>208|129=>209|294=>212|295=>213|296=>214|297=>215|298=>216|299=>217|216=>218|300=>219|301=>220|328=>273|329=>269|330=>270|331=>274|332=>275|215=>117|343=>300|n=>n,fun|28=>61|3=>3|46=>199|0=>0|51=>89|53=>39|4=>4|183=>288|182=>287|131=>134|5=>5|9=>9|218=>347|222=>351|228=>375|229=>376|n=>n,fun|n=>n⟩
theorem qd:Go.Proofs.Lays.n189 prog RP:={
 mixed:=by kernel_rfl
 f125:=func115.trans (congrArg some kk)
 f128:=func208.trans (congrArg some kk)
 f129:=func209.trans (congrArg some kk)
 f189:=func45.trans (congrArg some kk)
 f215:=func117.trans (congrArg some kk)
 f216:=func218.trans (congrArg some kk)
 f257:=func121.trans (congrArg some kk)
 f294:=func212.trans (congrArg some kk)
 f295:=func213.trans (congrArg some kk)
 f296:=func214.trans (congrArg some kk)
 f297:=func215.trans (congrArg some kk)
 f298:=func216.trans (congrArg some kk)
 f299:=func217.trans (congrArg some kk)
 f300:=func219.trans (congrArg some kk)
 f301:=func220.trans (congrArg some kk)
 f328:=func273.trans (congrArg some kk)
 f329:=func269.trans (congrArg some kk)
 f330:=func270.trans (congrArg some kk)
 f331:=func274.trans (congrArg some kk)
 f332:=func275.trans (congrArg some kk)
 f343:=func300.trans (congrArg some kk)
 t0:=underlying0
 a0:=isAgg0
 z0:=sizeOf0
 v0:=zeroValue0
 t3:=underlying3
 a3:=isAgg3
 z3:=sizeOf3
 v3:=zeroValue3
 t4:=underlying4
 a4:=isAgg4
 z4:=sizeOf4
 v4:=zeroValue4
 t5:=underlying5
 a5:=isAgg5
 z5:=sizeOf5
 v5:=zeroValue5
 t9:=underlying9
 a9:=isAgg9
 z9:=sizeOf9
 v9:=zeroValue9
 t28:=underlying61
 a28:=isAgg61
 z28:=sizeOf61
 v28:=zeroValue61
 t46:=underlying199
 a46:=isAgg199
 z46:=sizeOf199
 v46:=zeroValue199
 t51:=underlying89
 a51:=isAgg89
 z51:=sizeOf89
 v51:=zeroValue89
 t53:=underlying39
 a53:=isAgg39
 z53:=sizeOf39
 v53:=zeroValue39
 t131:=underlying134
 a131:=isAgg134
 z131:=sizeOf134
 v131:=zeroValue134
 t182:=underlying287
 a182:=isAgg287
 z182:=sizeOf287
 v182:=zeroValue287
 t183:=underlying288
 a183:=isAgg288
 z183:=sizeOf288
 v183:=zeroValue288
 t218:=underlying347
 a218:=isAgg347
 z218:=sizeOf347
 v218:=zeroValue347
 t222:=underlying351
 a222:=isAgg351
 z222:=sizeOf351
 v222:=zeroValue351
 t228:=underlying375
 a228:=isAgg375
 z228:=sizeOf375
 v228:=zeroValue375
 t229:=underlying376
 a229:=isAgg376
 z229:=sizeOf376
 v229:=zeroValue376 }
theorem nZ: SWO (ltOf (λx y:Fin (m+1)=>cfN E x.val y.val)):=by
 refine⟨λx=>El E x.val,λx y z=>I9 E x.val y.val z.val,λx y z=>LL E x.val y.val z.val⟩
theorem WQ(o:∀x∈E,Zr x<=50000000)(A:E.length<=1000000)(b cap:Nat)(l:List Nat)(hl:∀i∈l,i<E.length)(p:l.length<=1000000)(σ:List (Nat×Obj)):
  GX prog 36 [.slice (some ⟨b,0,none⟩) l.length cap,.func (.func 37) #[] #[.pointer (some ⟨B,0,none⟩)]] ((b,.cells (List.map Qb l).toArray 3 (0,0))::σ)
   [Row (some ⟨B,0,none⟩) [.slice C E.length m],Row C (cellsOf Qa E)]
   (λv σ' Ψ=>v=.tuple #[]/\σ'=(b,.cells (List.map Qb (l.mergeSort λx y => !ltN E y x)).toArray 3 (0,0))::σ/\Ψ=[Row (some ⟨B,0,none⟩) [.slice C E.length m],Row C (cellsOf Qa E)]):=by
 rcases oX E.length with t|t
 ·have j:l=[]:=List.eq_nil_iff_forall_not_mem.2 (λi k=>by have:=hl i k;omega);subst j;intro S w0 w z hm;refine(AnyF.slices_SortFunc_none od (some ⟨b,0,none⟩) cap (.func (.func 37) #[] #[.pointer (some ⟨B,0,none⟩)]) w).mono ?_;rintro e w' ⟨he,hw⟩;subst hw;exact⟨_,_,_,he,⟨rfl,by rw[vI],rfl⟩,hm⟩
 obtain ⟨D,hm⟩:∃D,E.length=D+1:=⟨E.length-1,oo⟩
 have hv:(l.map (Fin.ofNat (D+1))).map Fin.val=l:=by
  rw[sI];conv=>rhs;rw[<-vZ l]
  refine tz (λi k=>?_);show i%(D+1)=i;exact jg (by have:=hl i k;omega)
 have hlen:(l.map (Fin.ofNat (D+1))).length=l.length:=by simp
 have he:(l.map (Fin.ofNat (D+1))).map (λx:Fin (D+1)=>Qb x.val)=List.map Qb l:=by
  conv=>rhs;rw[<-hv]
  simp only[sI];rfl
 have h:=Ic (P:=prog) (α:=Fin (D+1)) (enc:=λx=>Qb x.val) (σ:=σ) (Φ:=[Row (some ⟨B,0,none⟩) [.slice C E.length m],Row C (cellsOf Qa E)]) sortFn (λ_=>rfl) (λx y=>cfN E x.val y.val) (nZ E D)
  (λx y h1 q=>Fin.ext (OW E x.val y.val h1 q)) (g:=37) (cb:=#[.pointer (some ⟨B,0,none⟩)]) call37
  (λx y=>sc E C m x.val y.val B 0 oo oo o) b cap 3 (l.map (Fin.ofNat (D+1))) [] oo
 have u:((l.map (Fin.ofNat (D+1))).mergeSort (λx y => !(ltOf λx y:Fin (D+1)=>cfN E x.val y.val) y x)).map (λx:Fin (D+1)=>Qb x.val)=List.map Qb (l.mergeSort λx y => !ltN E y x):=by
  have n:=u6 (r:=λx y => !(ltOf λx y:Fin (D+1)=>cfN E x.val y.val) y x) (s:=λx y => !ltN E y x) (f:=Fin.val) (l:=l.map (Fin.ofNat (D+1))) (λa _ b _=>rfl);rw[hv] at n;rw[<-n,sI];rfl
 rw[gD,he,hlen] at h;simp only[gD,u] at h;exact h
theorem fD(l:List Nat)(R:List Value)(z:l.length<=1000000)(σ:List (Nat×Obj))(Φ:List Zs):
  GX prog 45 [.slice (some ⟨m,0,none⟩) l.length B] ((m,.cells (List.map Qb l++R).toArray 3 (0,0))::σ) Φ
   (λv σ' Ψ=>v=.tuple #[]/\σ'=(m,.cells (List.map Qb (l.mergeSort λx y=>decide (x<=y))++R).toArray 3 (0,0))::σ/\Ψ=Φ):=by
 intro S w0 w p hm;obtain ⟨X,_,o,t,u⟩:=hm.facts;have j:X m:=o (m,_) (ae ..);have hz:(l.map (λk:Nat=>(k:Int))).map (Value.int .i64)=List.map Qb l:=by rw[sI];rfl
 have c:=hm.own (m,_) (ae ..);rw[<-hz] at hm c;have h:=Any.slices_Sort_int qd m 0 B (l.map (λk:Nat=>(k:Int))) w (FV c) (t m j) (by rw[az];omega);rw[az] at h;refine h.mono ?_;rintro e w' ⟨he,n,os,hw⟩;subst hw;have i:(l.map (λk:Nat=>(k:Int))).mergeSort (λx y=>decide (x<=y))=(l.mergeSort λx y=>decide (x<=y)).map (λk:Nat=>(k:Int)):=by
  have A:=u6 (r:=λx y:Nat=>decide (x<=y)) (s:=λx y:Int=>decide (x<=y)) (f:=λk:Nat=>(k:Int)) (l:=l) (λa _ m _=>by simp);exact A.symm
 have g:=Go.Fx.mem_sorted (enc:=Value.int .i64) (d:=(l.map (λk:Nat=>(k:Int))).mergeSort (λx y=>decide (x<=y))) p hm ss n os;refine⟨_,_,_,he,⟨rfl,rfl,rfl⟩,?_⟩;have q:(((l.map (λk:Nat=>(k:Int))).mergeSort (λx y=>decide (x<=y))).map (Value.int .i64))=List.map Qb (l.mergeSort λx y=>decide (x<=y)):=by rw[i,sI];rfl
 rw[q] at g;exact g
end Go.Proofs.YtdadideknhmbbaaGreatDoor
