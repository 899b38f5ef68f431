/- Walks of functions. By an AI agent. -/
import Derived.Test.YtejhdcohoggojaaGreatDoorAdapts1
import Derived.Test.YtejhdcohoggojaaGreatDoorFxP
import Derived.Shelf.Sort.Plain
set_option linter.unusedVariables false
set_option linter.unusedSimpArgs false
set_option maxRecDepth 4000
set_option maxHeartbeats 1000000
namespace Go.Proofs.YtejhdcohoggojaaGreatDoor
open Go Go.Proofs Go.Fx Tryz
attribute [local irreducible] Oper.wp Code.wp wpList Fx.Head wpOp
theorem FV(x:Rat): x.num.sign<0↔x<0:=by
 rw[Int.sign_neg_iff]
 have h:=@Rat.num_nonneg x
 constructor
 ·intro h1;exact Rat.not_le.1 (fun a=>by have:=h.2 a;omega)
 ·intro h1;have:¬0≤x.num:=fun a=>absurd (h.1 a) (Rat.not_le.2 h1);omega
theorem Q1(x:Rat): x.num.sign=0↔x=0:=by rw[Int.sign_eq_zero_iff_zero];exact Rat.num_eq_zero
theorem Ag(x:Rat): x.num.sign>0↔0<x:=by
 have h1:=FV x
 have a:=Q1 x
 have b:0<x ↔ ¬x<0 ∧ ¬x=0:=by grind
 rw[b, ←h1, ←a];omega
theorem jS(x y:Rat): (x-y).num.sign<0↔x<y:=by rw[FV];grind
theorem cN(x y:Rat): (x-y).num.sign=0↔x=y:=by rw[Q1];grind
theorem jR(x y:Rat): (x-y).num.sign>0↔y<x:=by rw[Ag];grind
theorem fM(i k:Int): Ey i k<0↔i<k:=by unfold Ey;split<;>(try split)<;>omega
def ltN(E:List Rat)(i k:Nat): Bool:=decide (cfN E i k<0)
theorem Cq(E:List Rat)(i k:Nat): ltN E i k=true↔E.getD k 0<E.getD i 0∨(E.getD k 0=E.getD i 0∧i<k):=by
 unfold ltN cfN
 rw[decide_eq_true_iff]
 have h1:=jS (E.getD k 0) (E.getD i 0)
 have b:=cN (E.getD k 0) (E.getD i 0)
 have f:=fM (i:Int) (k:Int)
 simp only[orI]
 by_cases h:(E.getD k 0-E.getD i 0).num.sign=0
 ·rw[if_neg (by simpa using h)]
  have e:=b.1 h
  have g:¬E.getD k 0<E.getD i 0:=by grind
  have d:(if Ey (i:Int) (k:Int)≠0 then Ey (i:Int) (k:Int) else 0)=Ey (i:Int) (k:Int):=by
   by_cases a:Ey (i:Int) (k:Int)=0
   ·rw[if_neg (by simpa using a),a]
   ·rw[if_pos a]
  rw[d,f]
  constructor
  ·intro a;exact .inr ⟨e,oo⟩
  ·rintro(a|⟨_,a⟩)
   ·exact absurd a g
   ·omega
 ·rw[if_pos h,h1]
  have e:¬E.getD k 0=E.getD i 0:=fun e=>h (b.2 e)
  exact⟨.inl,fun a=>a.elim id (fun c=>absurd c.1 e)⟩
theorem DF(E:List Rat)(i:Nat): ltN E i i=false:=by
 rw[Bool.eq_false_iff];intro h;rw[Cq] at h;grind
theorem Il(E:List Rat)(i j k:Nat): ltN E i j=true→ltN E j k=true→ltN E i k=true:=by
 rw[Cq,Cq,Cq];grind
theorem Nv(E:List Rat)(i k:Nat): ltN E i k=false→ltN E k i=false→i=k:=by
 rw[Bool.eq_false_iff,Bool.eq_false_iff,Ne,Ne,Cq,Cq];grind
theorem KJ(E:List Rat)(i j k:Nat): ltN E i j=false→ltN E j k=false→ltN E i k=false:=by
 rw[Bool.eq_false_iff,Bool.eq_false_iff,Bool.eq_false_iff,Ne,Ne,Ne,Cq,Cq,Cq];grind
def D7(E:List Rat): List Nat:=(List.range E.length).mergeSort (fun x y => !ltN E y x)
theorem BS(E:List Rat): (D7 E).Perm (List.range E.length):=List.mergeSort_perm _ _
theorem DD(E:List Rat): (D7 E).length=E.length:=by rw[(BS E).length_eq,List.length_range]
theorem WC(E:List Rat){i:Nat}(h:i∈D7 E): i<E.length:=List.mem_range.1 ((BS E).mem_iff.1 h)
theorem TB(E:List Rat): (D7 E).Nodup:=(BS E).nodup_iff.2 List.nodup_range
theorem Ph(E:List Rat): (D7 E).Pairwise (fun x y=>ltN E x y=true):=by
 have h:=List.pairwise_mergeSort (le:=fun x y => !ltN E y x) (fun a b c h1 d=>by
  have e:ltN E b a=false:=by simpa using h1
  have f:ltN E c b=false:=by simpa using d
  simp[KJ E c b a f e]) (fun a b=>by
  cases h1:ltN E b a<;>simp
  cases d:ltN E a b<;>simp
  have:=Il E a b a d h1
  rw[DF] at this;cases this) (List.range E.length)
 refine(h.and<|TB E).imp ?_
 rintro a b ⟨h1,d⟩
 cases g:ltN E a b
 ·exact absurd (Nv E a b g (by simpa using h1)) d
 ·rfl
def QW(E:List Rat): Rat:=E.foldl (· + ·) 0
def sumF(E:List Rat)(l:List Nat): Rat:=l.foldl (fun s k=>s+E.getD k 0) 0
def AD(E:List Rat)(t:Rat): Nat→Rat
 | 0=>t*QW E
 | j+1=>AD E t j-E.getD ((D7 E).getD j 0) 0
theorem MW(E:List Rat)(l:List Nat)(k:Nat): sumF E (l++[k])=sumF E l+E.getD k 0:=by unfold sumF;rw[List.foldl_append];rfl
theorem MX(E:List Rat){l m:List Nat}(h:l.Perm m): sumF E l=sumF E m :=
 h.foldl_eq' (fun x _ y _ z=>by grind) 0
theorem S6(E:List Rat): sumF E (List.range E.length)=QW E:=by
 have:∀i,i≤E.length→sumF E (List.range i)=(E.take i).foldl (· + ·) 0:=by
  intro i
  induction i with
  | zero=>intro _;rfl
  | succ i a=>intro h;rw[List.range_succ,MW,a oo,Ba E 0 i 0 oo]
 rw[this _ (Nat.le_refl _),List.take_length];rfl
theorem S5{l:List Nat}{j:Nat}(h:j<l.length): l.take (j+1)=l.take j++[l.getD j 0]:=by
 rw[List.take_add_one];simp[List.getD,h]
theorem LL(E:List Rat)(t:Rat): ∀j,j≤E.length→AD E t j=t*QW E-sumF E ((D7 E).take j)
 | 0,_=>by rw[AD,List.take_zero];unfold sumF;rw[List.foldl_nil];grind
 | j+1,h=>by
  rw[AD,LL E t j oo,S5 (by rw[DD];omega),MW];grind
theorem OR{E:List Rat}(h:∀x∈E,0≤x): 0≤QW E:=by
 have:∀(l:List Rat) (s:Rat),(∀x∈l,0≤x)→0≤s→0≤l.foldl (· + ·) s:=by
  intro l
  induction l with
  | nil=>intro s _ h;exact h
  | cons x l a=>intro s hl hs;exact a _ (fun y b=>hl y (List.mem_cons_of_mem _ b)) (by have:=hl x List.mem_cons_self;grind)
 exact this E 0 h dd
theorem PO{E:List Rat}(h:∀x∈E,0≤x)(i:Nat): 0≤E.getD i 0:=by
 rcases Nat.lt_or_ge i E.length with h1|h1
 ·exact h _ (getD_mem E h1)
 ·rw[List.getD,List.getElem?_eq_none h1];decide
theorem KP{E:List Rat}(h:∀x∈E,0≤x)(t:Rat)(j:Nat): ∀k,AD E t (j+k)≤AD E t j
 | 0=>by grind
 | k+1=>by
  have h1:=KP h t j k
  have a:=PO h ((D7 E).getD (j+k) 0)
  rw[←Nat.add_assoc,AD];grind
theorem XW{E:List Rat}(h:∀x∈E,0≤x){t:Rat}(ht:t≤1): AD E t E.length≤0:=by
 rw[LL E t _ (Nat.le_refl _), ←DD,List.take_length,MX E (BS E),S6]
 have h1:=OR h
 have a:t*QW E≤1*QW E:=Rat.mul_le_mul_of_nonneg_right ht h1
 grind
theorem eA{E:List Rat}(h:∀x∈E,0≤x){t:Rat}(ht:t≤1){j:Nat}(hj:j≤E.length)(a:0<AD E t j): j<E.length:=by
 rcases Nat.lt_or_ge j E.length with h1|h1
 ·exact h1
 ·rw[show j=E.length by omega] at a;have:=XW h ht;grind
def havN(E:List Rat)(i:Nat): Rat:=sumF E ((List.range E.length).filter (fun k=>ltN E k i))
def dI(E:List Rat)(t:Rat): List Nat:=(List.range E.length).filter (fun i=>decide (havN E i<t*QW E))
theorem Ho{α:Type}(p:α→Bool): ∀(l:List α) (m:Nat),(∀x∈l.take m,p x=true)→(∀x∈l.drop m,p x=false)→l.filter p=l.take m:=by
 intro l m h1 a
 conv=>lhs;rw[←List.take_append_drop m l]
 rw[List.filter_append,List.filter_eq_self.2 h1,List.filter_eq_nil_iff.2 (fun x hx=>by rw[a x hx];decide),List.append_nil]
theorem lE(E:List Rat)(t:Nat)(h:t<(D7 E).length): havN E ((D7 E).getD t 0)=sumF E ((D7 E).take t):=by
 unfold havN
 have hs:=Ph E
 have e:(D7 E).filter (fun k=>ltN E k ((D7 E).getD t 0))=(D7 E).take t:=by
  refine Ho _ _ _ (fun x hx=>?_) (fun x hx=>?_)
  ·obtain ⟨j,hj,rfl⟩:=List.mem_iff_getElem.1 hx
   rw[List.length_take] at hj
   rw[List.getElem_take,List.getD,List.getElem?_eq_getElem h]
   exact List.pairwise_iff_getElem.1 hs j t oo h oo
  ·obtain ⟨j,hj,rfl⟩:=List.mem_iff_getElem.1 hx
   rw[List.length_drop] at hj
   rw[List.getElem_drop,List.getD,List.getElem?_eq_getElem h]
   rcases Nat.eq_zero_or_pos j with rfl|d
   ·simp only[Nat.add_zero];exact DF E _
   ·have c:=List.pairwise_iff_getElem.1 hs t (t+j) h oo oo
    rw[Bool.eq_false_iff];intro b
    have a:=Il E _ _ _ c b
    simp only[Option.getD_some] at a
    rw[DF] at a;cases a
 rw[←e]
 exact MX E (((BS E).filter _).symm)
theorem W6{E:List Rat}(b:∀x∈E,0≤x)(t:Rat){m:Nat}(hm:m≤E.length)(h1:∀j,j<m→0<AD E t j)(c:¬0<AD E t m): (D7 E).filter (fun i=>decide (havN E i<t*QW E))=(D7 E).take m:=by
 have hl:=DD E
 have key:∀j (hj:j<(D7 E).length),(havN E (D7 E)[j]<t*QW E↔0<AD E t j):=by
  intro j hj
  have a:=lE E j hj
  rw[List.getD,List.getElem?_eq_getElem hj] at a
  simp only[Option.getD_some] at a
  rw[a,LL E t j oo];grind
 refine Ho _ _ _ (fun x hx=>?_) (fun x hx=>?_)
 ·obtain ⟨j,hj,rfl⟩:=List.mem_iff_getElem.1 hx
  rw[List.length_take] at hj
  rw[List.getElem_take,decide_eq_true_iff,key j oo]
  exact h1 j oo
 ·obtain ⟨j,hj,rfl⟩:=List.mem_iff_getElem.1 hx
  rw[List.length_drop] at hj
  rw[List.getElem_drop,decide_eq_false_iff_not,key (m+j) oo]
  have:=KP b t m j
  grind
theorem OT{l m:List Nat}(e:l.Perm m)(hm:m.Pairwise (· ≤ ·)): l.mergeSort (fun x y=>decide (x≤y))=m:=by
 have hs:(l.mergeSort (fun x y=>decide (x≤y))).Pairwise (· ≤ ·):=(List.pairwise_mergeSort (le:=fun x y:Nat=>decide (x≤y)) (fun a b c h1 d=>by simp at *;omega) (fun a b=>by simp;omega) l).imp (fun h=>by simpa using h)
 exact List.Perm.eq_of_pairwise (fun a b _ _ h1 d=>Nat.le_antisymm h1 d) hs hm ((List.mergeSort_perm _ _).trans e)
theorem O8(E:List Rat)(t:Rat): (dI E t).Pairwise (· < ·):=List.pairwise_lt_range.filter _
theorem mark_eq{E:List Rat}(a:∀x∈E,0≤x)(t:Rat){m:Nat}(hm:m≤E.length)(h1:∀j,j<m→0<AD E t j)(b:¬0<AD E t m):
  ((D7 E).take m).mergeSort (fun x y=>decide (x≤y))=dI E t:=by
 refine OT ?_ ((O8 E t).imp Nat.le_of_lt)
 rw[←W6 a t hm h1 b]
 exact(BS E).filter _
end Go.Proofs.YtejhdcohoggojaaGreatDoor
namespace Go.Proofs.YtejhdcohoggojaaGreatDoor
open Go Go.Proofs Go.Fx Go.Shelf Go.RowKit Go.Sort Tryz
def Tj:Go.Shelf.Ren:=⟨fun|6=>50|15=>106|14=>105|28=>192|29=>193|20=>184|21=>185|22=>186|23=>187|24=>188|25=>189|26=>190|27=>191|46=>285|47=>286|48=>287|49=>288|50=>289|57=>376|n=>n,fun|22=>69|24=>3|25=>136|3=>3|39=>194|0=>0|53=>34|55=>43|4=>4|46=>286|45=>285|50=>163|5=>5|9=>9|66=>395|70=>399|76=>500|77=>501|n=>n,fun|n=>n⟩
theorem sortFn:Go.Proofs.SlLaysF.n6 prog Tj:={
 mixed:=by kernel_rfl
 f6:=⟨Tryz.f50.name,by decide,func50.trans (congrArg some kk)⟩
 f14:=⟨Tryz.f105.name,by decide,func105.trans (congrArg some kk)⟩
 f15:=func106.trans (congrArg some kk)
 f20:=⟨Tryz.f184.name,by decide,func184.trans (congrArg some kk)⟩
 f21:=⟨Tryz.f185.name,by decide,func185.trans (congrArg some kk)⟩
 f22:=⟨Tryz.f186.name,by decide,func186.trans (congrArg some kk)⟩
 f23:=⟨Tryz.f187.name,by decide,func187.trans (congrArg some kk)⟩
 f24:=⟨Tryz.f188.name,by decide,func188.trans (congrArg some kk)⟩
 f25:=⟨Tryz.f189.name,by decide,func189.trans (congrArg some kk)⟩
 f26:=⟨Tryz.f190.name,by decide,func190.trans (congrArg some kk)⟩
 f27:=⟨Tryz.f191.name,by decide,func191.trans (congrArg some kk)⟩
 f28:=func192.trans (congrArg some kk)
 f29:=func193.trans (congrArg some kk)
 f46:=⟨Tryz.f285.name,by decide,func285.trans (congrArg some kk)⟩
 f47:=func286.trans (congrArg some kk)
 f48:=func287.trans (congrArg some kk)
 f49:=⟨Tryz.f288.name,by decide,func288.trans (congrArg some kk)⟩
 f50:=⟨Tryz.f289.name,by decide,func289.trans (congrArg some kk)⟩
 f57:=⟨Tryz.f376.name,by decide,func376.trans (congrArg some kk)⟩
 t0:=underlying0
 a0:=isAgg0
 z0:=sizeOf0
 v0:=zeroValue0
 t3:=underlying3
 a3:=isAgg3
 z3:=sizeOf3
 v3:=zeroValue3
 t4:=underlying4
 a4:=isAgg4
 z4:=sizeOf4
 v4:=zeroValue4
 t5:=underlying5
 a5:=isAgg5
 z5:=sizeOf5
 v5:=zeroValue5
 t9:=underlying9
 a9:=isAgg9
 z9:=sizeOf9
 v9:=zeroValue9
 t22:=underlying69
 a22:=isAgg69
 z22:=sizeOf69
 v22:=zeroValue69
 a24:=isAgg3
 z24:=sizeOf3
 t25:=underlying136
 a25:=isAgg136
 z25:=sizeOf136
 v25:=zeroValue136
 t39:=underlying194
 a39:=isAgg194
 z39:=sizeOf194
 v39:=zeroValue194
 t45:=underlying285
 a45:=isAgg285
 z45:=sizeOf285
 v45:=zeroValue285
 t46:=underlying286
 a46:=isAgg286
 z46:=sizeOf286
 v46:=zeroValue286
 t50:=underlying163
 a50:=isAgg163
 z50:=sizeOf163
 v50:=zeroValue163
 t53:=underlying34
 a53:=isAgg34
 z53:=sizeOf34
 v53:=zeroValue34
 t55:=underlying43
 a55:=isAgg43
 z55:=sizeOf43
 v55:=zeroValue43
 t66:=underlying395
 a66:=isAgg395
 z66:=sizeOf395
 v66:=zeroValue395
 t70:=underlying399
 a70:=isAgg399
 z70:=sizeOf399
 v70:=zeroValue399
 t76:=underlying500
 a76:=isAgg500
 z76:=sizeOf500
 v76:=zeroValue500
 t77:=underlying501
 a77:=isAgg501
 z77:=sizeOf501
 v77:=zeroValue501 }
def OU:Go.Shelf.Ren:=⟨fun|6=>50|15=>106|14=>105|28=>192|29=>193|20=>184|21=>185|22=>186|23=>187|24=>188|25=>189|26=>190|27=>191|46=>285|47=>286|48=>287|49=>288|50=>289|57=>376|n=>n,fun|22=>69|24=>3|25=>136|3=>3|39=>194|0=>0|53=>34|55=>43|4=>4|46=>286|45=>285|50=>163|5=>5|9=>9|66=>395|70=>399|76=>500|77=>501|n=>n,fun|n=>n⟩
theorem jN:Go.Proofs.SlLaysF0.n6 prog OU:={
 mixed:=by kernel_rfl
 f6:=⟨Tryz.f50.name,by decide,func50.trans (congrArg some kk)⟩
 f14:=⟨Tryz.f105.name,by decide,func105.trans (congrArg some kk)⟩
 f15:=func106.trans (congrArg some kk)
 f20:=⟨Tryz.f184.name,by decide,func184.trans (congrArg some kk)⟩
 f21:=⟨Tryz.f185.name,by decide,func185.trans (congrArg some kk)⟩
 f22:=⟨Tryz.f186.name,by decide,func186.trans (congrArg some kk)⟩
 f23:=⟨Tryz.f187.name,by decide,func187.trans (congrArg some kk)⟩
 f24:=⟨Tryz.f188.name,by decide,func188.trans (congrArg some kk)⟩
 f25:=⟨Tryz.f189.name,by decide,func189.trans (congrArg some kk)⟩
 f26:=⟨Tryz.f190.name,by decide,func190.trans (congrArg some kk)⟩
 f27:=⟨Tryz.f191.name,by decide,func191.trans (congrArg some kk)⟩
 f28:=func192.trans (congrArg some kk)
 f29:=func193.trans (congrArg some kk)
 f46:=⟨Tryz.f285.name,by decide,func285.trans (congrArg some kk)⟩
 f47:=func286.trans (congrArg some kk)
 f48:=func287.trans (congrArg some kk)
 f49:=⟨Tryz.f288.name,by decide,func288.trans (congrArg some kk)⟩
 f50:=⟨Tryz.f289.name,by decide,func289.trans (congrArg some kk)⟩
 f57:=⟨Tryz.f376.name,by decide,func376.trans (congrArg some kk)⟩
 t0:=underlying0
 a0:=isAgg0
 z0:=sizeOf0
 v0:=zeroValue0
 t3:=underlying3
 a3:=isAgg3
 z3:=sizeOf3
 v3:=zeroValue3
 t4:=underlying4
 a4:=isAgg4
 z4:=sizeOf4
 v4:=zeroValue4
 t5:=underlying5
 a5:=isAgg5
 z5:=sizeOf5
 v5:=zeroValue5
 t9:=underlying9
 a9:=isAgg9
 z9:=sizeOf9
 v9:=zeroValue9
 t22:=underlying69
 a22:=isAgg69
 z22:=sizeOf69
 v22:=zeroValue69
 t25:=underlying136
 a25:=isAgg136
 z25:=sizeOf136
 v25:=zeroValue136
 t39:=underlying194
 a39:=isAgg194
 z39:=sizeOf194
 v39:=zeroValue194
 t45:=underlying285
 a45:=isAgg285
 z45:=sizeOf285
 v45:=zeroValue285
 t46:=underlying286
 a46:=isAgg286
 z46:=sizeOf286
 v46:=zeroValue286
 t50:=underlying163
 a50:=isAgg163
 z50:=sizeOf163
 v50:=zeroValue163
 t53:=underlying34
 a53:=isAgg34
 z53:=sizeOf34
 v53:=zeroValue34
 t55:=underlying43
 a55:=isAgg43
 z55:=sizeOf43
 v55:=zeroValue43
 t66:=underlying395
 a66:=isAgg395
 z66:=sizeOf395
 v66:=zeroValue395
 t70:=underlying399
 a70:=isAgg399
 z70:=sizeOf399
 v70:=zeroValue399
 t76:=underlying500
 a76:=isAgg500
 z76:=sizeOf500
 v76:=zeroValue500
 t77:=underlying501
 a77:=isAgg501
 z77:=sizeOf501
 v77:=zeroValue501 }
def PK:Go.Shelf.Ren:=⟨fun|189=>58|125=>106|257=>113|128=>192|129=>193|294=>197|295=>198|296=>199|297=>200|298=>201|299=>202|216=>203|300=>204|301=>205|328=>291|329=>286|330=>287|331=>292|332=>293|215=>107|343=>377|n=>n,fun|28=>69|3=>3|46=>194|0=>0|51=>34|53=>43|4=>4|183=>286|182=>285|131=>163|5=>5|9=>9|218=>395|222=>399|228=>500|229=>501|n=>n,fun|n=>n⟩
theorem lm:Go.Proofs.Lays.n189 prog PK:={
 mixed:=by kernel_rfl
 f125:=func106.trans (congrArg some kk)
 f128:=func192.trans (congrArg some kk)
 f129:=func193.trans (congrArg some kk)
 f189:=func58.trans (congrArg some kk)
 f215:=func107.trans (congrArg some kk)
 f216:=func203.trans (congrArg some kk)
 f257:=func113.trans (congrArg some kk)
 f294:=func197.trans (congrArg some kk)
 f295:=func198.trans (congrArg some kk)
 f296:=func199.trans (congrArg some kk)
 f297:=func200.trans (congrArg some kk)
 f298:=func201.trans (congrArg some kk)
 f299:=func202.trans (congrArg some kk)
 f300:=func204.trans (congrArg some kk)
 f301:=func205.trans (congrArg some kk)
 f328:=func291.trans (congrArg some kk)
 f329:=func286.trans (congrArg some kk)
 f330:=func287.trans (congrArg some kk)
 f331:=func292.trans (congrArg some kk)
 f332:=func293.trans (congrArg some kk)
 f343:=func377.trans (congrArg some kk)
 t0:=underlying0
 a0:=isAgg0
 z0:=sizeOf0
 v0:=zeroValue0
 t3:=underlying3
 a3:=isAgg3
 z3:=sizeOf3
 v3:=zeroValue3
 t4:=underlying4
 a4:=isAgg4
 z4:=sizeOf4
 v4:=zeroValue4
 t5:=underlying5
 a5:=isAgg5
 z5:=sizeOf5
 v5:=zeroValue5
 t9:=underlying9
 a9:=isAgg9
 z9:=sizeOf9
 v9:=zeroValue9
 t28:=underlying69
 a28:=isAgg69
 z28:=sizeOf69
 v28:=zeroValue69
 t46:=underlying194
 a46:=isAgg194
 z46:=sizeOf194
 v46:=zeroValue194
 t51:=underlying34
 a51:=isAgg34
 z51:=sizeOf34
 v51:=zeroValue34
 t53:=underlying43
 a53:=isAgg43
 z53:=sizeOf43
 v53:=zeroValue43
 t131:=underlying163
 a131:=isAgg163
 z131:=sizeOf163
 v131:=zeroValue163
 t182:=underlying285
 a182:=isAgg285
 z182:=sizeOf285
 v182:=zeroValue285
 t183:=underlying286
 a183:=isAgg286
 z183:=sizeOf286
 v183:=zeroValue286
 t218:=underlying395
 a218:=isAgg395
 z218:=sizeOf395
 v218:=zeroValue395
 t222:=underlying399
 a222:=isAgg399
 z222:=sizeOf399
 v222:=zeroValue399
 t228:=underlying500
 a228:=isAgg500
 z228:=sizeOf500
 v228:=zeroValue500
 t229:=underlying501
 a229:=isAgg501
 z229:=sizeOf501
 v229:=zeroValue501 }
theorem jJ(E:List Rat)(m:Nat): SWO (ltOf (fun x y:Fin (m+1)=>cfN E x.val y.val)):=by
 refine⟨fun x=>DF E x.val,fun x y z=>Il E x.val y.val z.val,fun x y z=>KJ E x.val y.val z.val⟩
theorem Uz(E:List Rat)(ad:Option Addr)(c d:Nat)(q:∀x∈E,Zn x≤50000000)(A:E.length≤1000000)(b cap:Nat)(l:List Nat)(hl:∀i∈l,i<E.length)(p:l.length≤1000000)(σ:List (Nat×Obj)):
  FR prog 50 [.slice (some ⟨b,0,none⟩) l.length cap,.func (.func 51) #[] #[.pointer (some ⟨d,0,none⟩)]] ((b,.cells (List.map Qi l).toArray 3 (0,0))::σ)
   [Row (some ⟨d,0,none⟩) [.slice ad E.length c],Row ad (cellsOf Qe E)]
   (fun v σ' Ψ=>v=.tuple #[]∧σ'=(b,.cells (List.map Qi (l.mergeSort fun x y => !ltN E y x)).toArray 3 (0,0))::σ∧Ψ=[Row (some ⟨d,0,none⟩) [.slice ad E.length c],Row ad (cellsOf Qe E)]):=by
 rcases Nat.eq_zero_or_pos E.length with t|t
 ·have j:l=[]:=List.eq_nil_iff_forall_not_mem.2 (fun i k=>by have:=hl i k;omega)
  subst j
  intro S w0 w z hm
  refine(AnyF.slices_SortFunc_none jN (some ⟨b,0,none⟩) cap (.func (.func 51) #[] #[.pointer (some ⟨d,0,none⟩)]) w).mono ?_
  rintro e w' ⟨he,hw⟩
  subst hw
  exact⟨_,_,_,he,⟨rfl,by rw[List.mergeSort_nil],rfl⟩,hm⟩
 ·obtain ⟨m,hm⟩:∃m,E.length=m+1:=⟨E.length-1,oo⟩
  have hv:(l.map (Fin.ofNat (m+1))).map Fin.val=l:=by
   rw[List.map_map]
   conv=>rhs;rw[←List.map_id l]
   refine List.map_congr_left (fun i k=>?_)
   show i%(m+1)=i
   exact Nat.mod_eq_of_lt (by have:=hl i k;omega)
  have hlen:(l.map (Fin.ofNat (m+1))).length=l.length:=by simp
  have he:(l.map (Fin.ofNat (m+1))).map (fun x:Fin (m+1)=>Qi x.val)=List.map Qi l:=by
   conv=>rhs;rw[←hv]
   simp only[List.map_map];rfl
  have h:=Hr (P:=prog) (α:=Fin (m+1)) (enc:=fun x=>Qi x.val) (σ:=σ) (Φ:=[Row (some ⟨d,0,none⟩) [.slice ad E.length c],Row ad (cellsOf Qe E)]) sortFn (fun _=>rfl) (fun x y=>cfN E x.val y.val) (jJ E m)
   (fun x y h1 o=>Fin.ext (Nv E x.val y.val h1 o)) (g:=51) (cb:=#[.pointer (some ⟨d,0,none⟩)]) call51
   (fun x y=>nr E ad c x.val y.val d 0 oo oo q) b cap 3 (l.map (Fin.ofNat (m+1))) [] oo
  have u:((l.map (Fin.ofNat (m+1))).mergeSort (fun x y => !(ltOf fun x y:Fin (m+1)=>cfN E x.val y.val) y x)).map (fun x:Fin (m+1)=>Qi x.val)=List.map Qi (l.mergeSort fun x y => !ltN E y x):=by
   have n:=List.map_mergeSort (r:=fun x y => !(ltOf fun x y:Fin (m+1)=>cfN E x.val y.val) y x) (s:=fun x y => !ltN E y x) (f:=Fin.val) (l:=l.map (Fin.ofNat (m+1))) (fun a _ b _=>rfl)
   rw[hv] at n
   rw[←n,List.map_map];rfl
  rw[List.append_nil,he,hlen] at h
  simp only[List.append_nil,u] at h
  exact h
theorem bu(b cap:Nat)(l:List Nat)(R:List Value)(z:l.length≤1000000)(σ:List (Nat×Obj))(Φ:List Zp):
  FR prog 58 [.slice (some ⟨b,0,none⟩) l.length cap] ((b,.cells (List.map Qi l++R).toArray 3 (0,0))::σ) Φ
   (fun v σ' Ψ=>v=.tuple #[]∧σ'=(b,.cells (List.map Qi (l.mergeSort fun x y=>decide (x≤y))++R).toArray 3 (0,0))::σ∧Ψ=Φ):=by
 intro S w0 w q hm
 obtain ⟨X,_,m,t,u⟩:=hm.facts
 have i:X b:=m (b,_) (List.mem_cons_self ..)
 have hz:(l.map (fun k:Nat=>(k:Int))).map (Value.int .i64)=List.map Qi l:=by rw[List.map_map];rfl
 have c:=hm.own (b,_) (List.mem_cons_self ..)
 rw[←hz] at hm c
 have h:=Any.slices_Sort_int lm b 0 cap (l.map (fun k:Nat=>(k:Int))) w (E6 c) (t b i) (by rw[List.length_map];omega)
 rw[List.length_map] at h
 refine h.mono ?_
 rintro e w' ⟨he,n,os,hw⟩
 subst hw
 have j:(l.map (fun k:Nat=>(k:Int))).mergeSort (fun x y=>decide (x≤y))=(l.mergeSort fun x y=>decide (x≤y)).map (fun k:Nat=>(k:Int)):=by
  have o:=List.map_mergeSort (r:=fun x y:Nat=>decide (x≤y)) (s:=fun x y:Int=>decide (x≤y)) (f:=fun k:Nat=>(k:Int)) (l:=l) (fun a _ b _=>by simp)
  exact o.symm
 have g:=Go.Fx.mem_sorted (enc:=Value.int .i64) (d:=(l.map (fun k:Nat=>(k:Int))).mergeSort (fun x y=>decide (x≤y))) q hm ss n os
 refine⟨_,_,_,he,⟨rfl,rfl,rfl⟩,?_⟩
 have p:(((l.map (fun k:Nat=>(k:Int))).mergeSort (fun x y=>decide (x≤y))).map (Value.int .i64))=List.map Qi (l.mergeSort fun x y=>decide (x≤y)):=by rw[j,List.map_map];rfl
 rw[p] at g
 exact g
end Go.Proofs.YtejhdcohoggojaaGreatDoor
